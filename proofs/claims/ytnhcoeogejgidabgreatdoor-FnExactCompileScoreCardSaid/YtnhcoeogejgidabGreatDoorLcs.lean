/- A line of a score compiled by the rule. -/
import Derived.Test.YtnhcoeogejgidabGreatDoorLcp
import Derived.Test.YtnhcoeogejgidabGreatDoorLm23
import Derived.Test.YtnhcoeogejgidabGreatDoorLk26
import Derived.Test.YtnhcoeogejgidabGreatDoorLk24
import Derived.Test.YtnhcoeogejgidabGreatDoorCS
import Derived.Test.YtnhcoeogejgidabGreatDoorTab
set_option linter.unusedVariables false
set_option linter.unusedSimpArgs false
namespace Go.Sx
open Go.Proofs
set_option maxRecDepth 100000
set_option maxHeartbeats 1000000

def ResW (h0 h' : Heap) (q : Addr) (F : Fr) (L : List Blk) (p : Nat) (r : CRes) (u : Value) : Prop := match r with
  | .ok (s', p') => u = .int .i64 0 ∧ p' = p + 1 ∧ Pt rWork h0 h' q F L s'.work
  | .error e => u = .int .i64 e ∧ e ≠ 0 ∧ Mem h0 h' L
section
variable {h0 h' : Heap} {q : Addr} {F : Fr} {L : List Blk} {r : CRes} {s' : GComp} {p : Nat} {e : Int}
theorem ResW.ok (E : r = .ok (s', p + 1)) (P : Pt rWork h0 h' q F L s'.work) : ResW h0 h' q F L p r (.int .i64 0) := by subst E; exact ⟨rfl, rfl, P⟩
theorem ResW.err (E : r = .error e) (M : Mem h0 h' L) (he : e ≠ 0 := by decide) : ResW h0 h' q F L p r (.int .i64 e) := by subst E; exact ⟨rfl, he, M⟩
theorem frac_open {o : Option Nat} {u : Value} (h : FracV o u) : ∃ x a, u = .tuple ⟨[.float .f32 x, .bool o.isSome]⟩ ∧ FW .f32 x a ∧ ∀ b, o = some b → a = b := by
  cases o with
  | none => obtain ⟨x, rfl, hx⟩ := h; exact ⟨x, x, rfl, hx, fun b e => by cases e⟩
  | some a => obtain ⟨x, rfl, hx⟩ := h; exact ⟨x, a, rfl, hx, fun b e => by cases e; rfl⟩
theorem whole_open (o : Option Nat) : wholeV o = .tuple ⟨[.int .i64 ((o.getD 0 : Nat) : Int), .bool o.isSome]⟩ := by cases o <;> rfl
theorem signed_open (o : Option Int) : signedV o = .tuple ⟨[.int .i64 (o.getD 0), .bool o.isSome]⟩ := by cases o <;> rfl
theorem none_of {α : Type} {o : Option α} (h : o.isSome = false) : o = none := by cases o with | none => rfl | some a => cases h
theorem some_of {α : Type} {o : Option α} (h : o.isSome = true) : ∃ a, o = some a := by cases o with | none => cases h | some a => exact ⟨a, rfl⟩
theorem brw {a : List UInt8} {b : ByteArray} {p q : Prop} (w : List UInt8) (e : b = mkB w) (ht : a = w → p) (hf : a ≠ w → q) : BIF (ByteArray.toList (mkB a) == ByteArray.toList b) p q := by
  rw [e, mkb_toList]
  exact brd ht hf
theorem ins_nil {cs : Array Value} {zs : List Value} (hs : cs.size = 5) (hz : zs.length = 5 := by rfl) : (⟨splice 0 5 cs zs⟩ : Array Value) = cs := by
  rw [splice_all (n := 5) hz]
end
theorem inst_ow {s : ByteArray} {k : Int} {x y z a b c : Nat} (hs : s.size ≤ maxLen) (h1 : FW .f32 x a) (h2 : FW .f32 y b) (h3 : FW .f32 z c) : rInstrument.ow [] [.string s, .int .i64 k, .float .f32 x, .float .f32 y, .float .f32 z] ⟨s, k, a, b, c⟩ :=
  ⟨[], [], [_], [_, _, _, _], rfl, rfl, ⟨rfl, rfl, hs⟩, [], [], [_], [_, _, _], rfl, rfl, ⟨rfl, rfl⟩, [], [], [_], [_, _], rfl, rfl, ⟨rfl, x, rfl, h1⟩, [], [], [_], [_], rfl, rfl, ⟨rfl, y, rfl, h2⟩, rfl, z, rfl, h3⟩
section
variable {h0 h : Heap} {q : Addr} {F : Fr} {L : List Blk} {s : GComp} {p : Nat}
theorem ins_max {n : Nat} (h : n ≤ 100) : n + 2 ≤ maxLen ∧ (n + 2) * 64 ≤ 140737488355328 := ⟨Nat.le_trans (show n + 2 ≤ 128 by omega) (by decide), by omega⟩
theorem add_c {x : GInstrument} {cs : Array Value} (I : CInv s) (P : Pt rWork h0 h q F L s.work) (R0 : rInstrument.rd h cs.toList x) : CALL prg f_p_spec_l08Work_add #[.pointer (some q), .agg cs] (fun u h' => ResW h0 h' q F L p (s.add p x) u) h := by
  refine p_spec_l08Work_add.call (alcR R0 fun g1 h2 x2 R => ?_)
  refine goX (l08Instrument_c R) fun h4 x4 => as_b (brN (fun hk => ResW.err (by unfold GComp.add; rw [hk]; rfl) (P.grow (x2.trans x4)).mem) fun hok => ?_)
  have P := P.grow (x2.trans x4)
  have R := R.ext x4
  have k6 := I.k6
  refine loop (fun y hh => ∃ i : Nat, y = (q, (⟨g1, 0, none⟩ : Addr), (i : Int)) ∧ hh = h4 ∧ i ≤ s.kinds.length ∧ ∀ j, j < i → s.kinds[j]!.Name ≠ x.Name) (fun y => ((s.kinds.length : Int) - y.2.2).toNat) ⟨0, rfl, rfl, by omega, fun j hj => by omega⟩ ?_
  rintro y hh ⟨i, rfl, rfl, hi, hno⟩
  refine P.rd.oL (off := 4) fun b l c S => ?_
  obtain rfl : s.kinds.length = l := S.len
  refine brd (fun hc => ?_) fun hc => ?_
  · refine P.rd.oL (off := 4) fun b l c S => ?_
    obtain rfl : s.kinds.length = l := S.len
    have hil : i < s.kinds.length := by omega
    refine S.idn (by decide) hil fun a Ra => Ra.oS1 fun _ => R.oS1 fun _ => ?_
    rw [str_eq]
    refine brd (fun he => ResW.err ?_ P.mem) fun he => ⟨⟨i + 1, by rw [wrap64_succ (by omega)], rfl, by omega, fun j hj => ?_⟩, by rw [wrap64_succ (by omega)]; show ((s.kinds.length : Int) - ((i + 1 : Nat) : Int)).toNat < ((s.kinds.length : Int) - (i : Int)).toNat; omega⟩
    · unfold GComp.add
      rw [hok, if_pos rfl, if_pos]
      rw [List.any_eq_true]
      exact ⟨s.kinds[i]!, mem_get hil, decide_eq_true he⟩
    · by_cases e : j = i
      · subst e; exact he
      · exact hno j (by omega)
  · obtain rfl : i = s.kinds.length := by omega
    have hany : (s.kinds.any fun k => decide (k.Name = x.Name)) = false := by
      rw [List.any_eq_false]
      intro k hk
      obtain ⟨j, hj, rfl⟩ := List.mem_iff_getElem.1 hk
      have := hno j hj
      rw [getElem!_pos s.kinds j hj] at this
      simpa using this
    refine P.rd.oL (off := 4) fun b l c S => ?_
    obtain rfl : s.kinds.length = l := S.len
    refine br (fun h6 => ResW.err ?_ P.mem) fun h6 => ?_
    · have h6 : (s.kinds.length : Int) = 6 := eq_of_beq h6
      unfold GComp.add
      rw [hok, if_pos rfl, if_neg (by rw [hany]; decide), if_neg (by omega)]
    · have h6 : (s.kinds.length : Int) ≠ 6 := ne_of_beq_false h6
      obtain ⟨b, l, c, eb, _⟩ := P.hdr (off := 4) (e := T_impl_Instrument) (s := rInstrument)
      refine o_l eb (R.lda1 rfl fun c17 R17 => siz (rsz R17 rfl) ?_)
      rw [ins_nil (rsz R17 rfl)]
      have b1 := ins_max (n := s.kinds.length) (by omega)
      refine Pt.appP (off := 4) (Bn := []) P eb E_sl_impl_Instrument (ows_one (flat_Instrument _ _ _ R17)) rfl (by show s.kinds.length + 1 ≤ _; omega) (by show (s.kinds.length + 1) * 40 ≤ _; omega) fun h23 P => ?_
      refine ResW.ok (s' := { s with kinds := s.kinds ++ [x] }) ?_ P
      unfold GComp.add
      rw [hok, if_pos rfl, if_neg (by rw [hany]; decide), if_pos (by omega)]
/-- The third number of an instrument. -/
def thirdO (kind : Int) (w : List UInt8) : Option Nat := if kind = 2 then if w = opW then some 1065353216 else if w = clW then some 0 else none else fracL w
theorem sound_eq {kind : Int} {ws : List (List UInt8)} : s.sound p kind ws = match fracL ws[2]!, fracL ws[3]!, thirdO kind ws[4]! with
  | some a, some b, some c => if nameOk (mkB ws[1]!) then s.add p ⟨mkB ws[1]!, kind, a, b, c⟩ else .error 5
  | _, _, _ => .error 5 := rfl
theorem sound_bad {kind : Int} {ws : List (List UInt8)} (h : nameOk (mkB ws[1]!) = false ∨ fracL ws[2]! = none ∨ fracL ws[3]! = none ∨ thirdO kind ws[4]! = none) : s.sound p kind ws = .error 5 := by
  rw [sound_eq]
  rcases h with h | h | h | h
  · rw [h]; split <;> rfl
  · rw [h]
  · rw [h]; cases fracL ws[2]! <;> rfl
  · rw [h]; cases fracL ws[2]! <;> cases fracL ws[3]! <;> rfl
theorem sound_18 {kind : Int} {ws : List (List UInt8)} {hh h' : Heap} {g x1 x2 x3 a1 a2 a3 : Nat} (I : CInv s) (P : Pt rWork h0 hh q F L s.work) (PX : Pt rInstrument hh h' ⟨g, 0, none⟩ ⟨g, T_impl_Instrument, [], []⟩ [] ⟨mkB ws[1]!, kind, 0, 0, 0⟩)
    (f1 : FW .f32 x1 a1) (e1 : ∀ b, fracL ws[2]! = some b → a1 = b) (f2 : FW .f32 x2 a2) (e2 : ∀ b, fracL ws[3]! = some b → a2 = b) (f3 : FW .f32 x3 a3) (e3 : ∀ b, thirdO kind ws[4]! = some b → a3 = b) (hn : nameOk (mkB ws[1]!) = true) {o1 o2 o3 : Bool} (k1 : o1 = (fracL ws[2]!).isSome) (k2 : o2 = (fracL ws[3]!).isSome) (k3 : o3 = (thirdO kind ws[4]!).isSome) :
    p_spec_l08Work_sound.J18 (fun u h' => ResW h0 h' q F L p (s.sound p kind ws) u) q ⟨g, 0, none⟩ x1 o1 x2 o2 x3 o3 h' := by
  subst k1 k2 k3
  unfold p_spec_l08Work_sound.J18
  have M := (P.grow PX.ext).mem
  refine brN (fun h => ResW.err (sound_bad (.inr (.inl (none_of h)))) M) fun h1 => ?_
  refine brN (fun h => ResW.err (sound_bad (.inr (.inr (.inl (none_of h))))) M) fun h2 => ?_
  refine brN (fun h => ResW.err (sound_bad (.inr (.inr (.inr (none_of h))))) M) fun h3 => ?_
  obtain ⟨v1, h1⟩ := some_of h1
  obtain ⟨v2, h2⟩ := some_of h2
  obtain ⟨v3, h3⟩ := some_of h3
  obtain rfl := e1 _ h1
  obtain rfl := e2 _ h2
  obtain rfl := e3 _ h3
  unfold p_spec_l08Work_sound.J20
  refine PX.stF (off := 2) f1 fun h57 PX => PX.stF (off := 3) f2 fun h58 PX => PX.stF (off := 4) f3 fun h59 PX => ?_
  refine PX.rd.lda1 rfl fun c60 R60 => ?_
  have es : s.sound p kind ws = s.add p ⟨mkB ws[1]!, kind, a1, a2, a3⟩ := by rw [sound_eq, h1, h2, h3]; show (if nameOk (mkB ws[1]!) = true then _ else _) = _; rw [if_pos hn]
  rw [es]
  refine (add_c (p := p) I (P.grow PX.ext) R60).mono fun u h62 Rs => ?_
  have : ∃ n, u = .int .i64 n := by
    unfold ResW at Rs
    split at Rs
    · exact ⟨_, Rs.1⟩
    · exact ⟨_, Rs.1⟩
  obtain ⟨n, rfl⟩ := this
  exact as_i Rs
theorem sound_c {b : Option Addr} {n k : Nat} {ws : List (List UInt8)} (I : CInv s) (P : Pt rWork h0 h q F L s.work) (S : SlR rS h b n k (ws.map mkB)) (hw : soundW ws[0]!) (hl : ∀ j : Nat, (ws[j]!).length ≤ 4096) :
    CALL prg f_p_spec_l08Work_sound #[.pointer (some q), .slice b n k] (fun u h' => ResW h0 h' q F L p (if ws.length = 5 then s.sound p (kindOf ws[0]!) ws else .error 5) u) h := by
  have hn : ws.length = n := by have := S.len; rwa [List.length_map] at this
  have hmx : (1048576 : Nat) ≤ maxLen := by decide
  have sz : ∀ j : Nat, (mkB ws[j]!).size ≤ maxLen := fun j => by rw [mk_size]; have := hl j; omega
  refine p_spec_l08Work_sound.call ?_
  refine br (fun h5 => ?_) fun h5 => ?_
  · have h5 : (n : Int) ≠ 5 := bne_iff_ne.1 h5
    rw [if_neg (by omega)]
    exact ResW.err rfl P.mem
  obtain rfl : n = 5 := by have h5 : (n : Int) = 5 := by simpa using h5
                           omega
  rw [if_pos hn]
  refine S.str 1 rfl (by decide) (goX (l08Name_c _ (sz 1) _) fun h6 x6 => as_b (brN (fun hb => ResW.err (sound_bad (.inl hb)) (P.grow x6).mem) fun hnm => ?_))
  have P := P.grow x6
  have S := S.ext x6
  unfold p_spec_l08Work_sound.J3
  refine S.str 1 rfl (by decide) ?_
  have O1 := inst_ow (s := mkB ws[1]!) (k := 1) (sz 1) fw0' fw0' fw0'
  refine (Mem.start h6).alc fun g10 h11 x11 M => M.sta0 .here rfl (rInstrument.oone O1) rfl .here fun h12 M => ?_
  have PX : Pt rInstrument h6 h12 ⟨g10, 0, none⟩ ⟨g10, T_impl_Instrument, [], []⟩ [] ⟨mkB ws[1]!, 1, 0, 0, 0⟩ := Pt.new (B := []) O1 M
  clear M
  have ll : ∀ j : Nat, (ws[j]!).length ≤ 1048576 := fun j => by have := hl j; omega
  refine (S.ext PX.ext).str 2 rfl (by decide) ((l08Fraction_c (ll 2)).mono ?_)
  rintro u1 h16 ⟨V1, x16⟩
  obtain ⟨x1, a1, rfl, f1, e1⟩ := frac_open V1
  have PX := PX.grow x16
  refine tup2 (as_f (as_b ((S.ext PX.ext).str 3 rfl (by decide) ((l08Fraction_c (ll 3)).mono ?_))))
  rintro u2 h24 ⟨V2, x24⟩
  obtain ⟨x2, a2, rfl, f2, e2⟩ := frac_open V2
  have PX := PX.grow x24
  refine tup2 (as_f (as_b ((S.ext PX.ext).str0 (by decide) ?_)))
  have rest : ∀ {kind : Int} {hh : Heap}, Pt rInstrument h6 hh ⟨g10, 0, none⟩ ⟨g10, T_impl_Instrument, [], []⟩ [] ⟨mkB ws[1]!, kind, 0, 0, 0⟩ → kind ≠ 2 →
      IDXS b (4 : Int) 5 fun p41 => oS (cell hh (Addr.add p41 4)) fun s42 => CALL prg f_spec_l08Fraction #[.string s42] (fun q43 h44 => TUP2 q43 fun q45 q46 => asF .f32 q45 fun r47 => asB q46 fun b48 =>
        p_spec_l08Work_sound.J18 (fun u h' => ResW h0 h' q F L p (s.sound p kind ws) u) q ⟨g10, 0, none⟩ x1 (fracL ws[2]!).isSome x2 (fracL ws[3]!).isSome r47 b48 h44) hh := fun {kind hh} PX hk => by
    refine (S.ext PX.ext).str 4 rfl (by decide) ((l08Fraction_c (ll 4)).mono ?_)
    rintro u3 h44 ⟨V3, x44⟩
    obtain ⟨x3, a3, rfl, f3, e3⟩ := frac_open V3
    have PX := PX.grow x44
    have et : thirdO kind ws[4]! = fracL ws[4]! := by unfold thirdO; rw [if_neg hk]
    exact tup2 (as_f (as_b (sound_18 I P PX f1 e1 f2 e2 f3 (by rw [et]; exact e3) hnm rfl rfl (by rw [et]))))
  refine brw pipW rfl (fun hp => ?_) fun hp => brw boW rfl (fun hb => ?_) fun hb => ?_
  · have ek : kindOf ws[0]! = 2 := by unfold kindOf; rw [if_pos hp]
    rw [ek]
    refine PX.stI2 (off := 1) fun h31 PX => ?_
    have S4 := S.ext PX.ext
    have go : ∀ {x a : Nat} {o : Bool}, FW .f32 x a → (∀ b, thirdO 2 ws[4]! = some b → a = b) → o = (thirdO 2 ws[4]!).isSome → p_spec_l08Work_sound.J18 (fun u h' => ResW h0 h' q F L p (s.sound p 2 ws) u) q ⟨g10, 0, none⟩ x1 (fracL ws[2]!).isSome x2 (fracL ws[3]!).isSome x o h31 := fun f e k => sound_18 I P PX f1 e1 f2 e2 f e hnm rfl rfl k
    refine S4.str 4 rfl (by decide) (brw opW rfl (fun ho => S4.str 4 rfl (by decide) (brw opW rfl (fun _ => ?_) fun hno => absurd ho hno)) fun hno => S4.str 4 rfl (by decide) (S4.str 4 rfl (by decide) (brw opW rfl (fun ho => absurd ho hno) fun _ => ?_)))
    · have et : thirdO 2 ws[4]! = some 1065353216 := by unfold thirdO; rw [if_pos rfl, if_pos ho]
      exact go (fw_c32 (by decide) (by decide)) (fun b h => by rw [et] at h; cases h; rfl) (by rw [et]; rfl)
    · rw [show (⟨#[99, 108, 111, 115, 101, 100]⟩ : ByteArray) = mkB clW from rfl, mkb_toList]
      by_cases hc : ws[4]! = clW
      · have et : thirdO 2 ws[4]! = some 0 := by unfold thirdO; rw [if_pos rfl, if_neg hno, if_pos hc]
        exact go fw0' (fun b h => by rw [et] at h; cases h; rfl) (by rw [et]; exact decide_eq_true hc)
      · have et : thirdO 2 ws[4]! = none := by unfold thirdO; rw [if_pos rfl, if_neg hno, if_neg hc]
        exact go fw0' (fun b h => by rw [et] at h; cases h) (by rw [et]; exact decide_eq_false hc)
  · have ek : kindOf ws[0]! = 3 := by unfold kindOf; rw [if_neg hp, if_pos hb]
    rw [ek]
    exact PX.stI2 (off := 1) fun h40 PX => rest PX (by decide)
  · have ek : kindOf ws[0]! = 1 := by unfold kindOf; rw [if_neg hp, if_neg hb]
    rw [ek]
    exact rest PX (by decide)
end
end Go.Sx
/- What functions of this seat's program compute, told in words (a predicate over heaps for each), and the proofs that the words are no more than the code's own weakest precondition. -/
namespace Go.Sx
open Go.Proofs
set_option linter.unusedVariables false
set_option maxRecDepth 100000

def spec_l08Compiled.J17 (N12 : (Option Addr × Nat × Nat × Option Addr × Nat × Nat × Int) → Heap → Prop) (N15 : (Option Addr × Nat × Nat × Option Addr × Nat × Nat × Int × Int) → Heap → Prop) (Post : Value → Heap → Prop) (out_3b : Option Addr) (out_3l : Nat) (out_3c : Nat) (keys_4b : Option Addr) (keys_4l : Nat) (keys_4c : Nat) (i_9 : Int) (k_10 : Int) (h : Heap) : Prop :=
    IDXS out_3b k_10 out_3l fun p52 =>
    LDA 6 h ((Addr.add p52 ((Int.toNat k_10) * 6))) fun a53 =>
    ALC ⟨Z_impl_Event⟩ T_impl_Event (fun g54 h55 =>
    STA 6 h55 ⟨g54, 0, none⟩ a53 fun h56 =>
    IDXS out_3b ((IntKind.i64.wrap (k_10 - (1 : Int)))) out_3l fun p57 =>
    LDA 6 h56 ((Addr.add p57 ((Int.toNat ((IntKind.i64.wrap (k_10 - (1 : Int))))) * 6))) fun a58 =>
    IDXS out_3b k_10 out_3l fun p59 =>
    STA 6 h56 ((Addr.add p59 ((Int.toNat k_10) * 6))) a58 fun h60 =>
    LDA 6 h60 ⟨g54, 0, none⟩ fun a61 =>
    IDXS out_3b ((IntKind.i64.wrap (k_10 - (1 : Int)))) out_3l fun p62 =>
    STA 6 h60 ((Addr.add p62 ((Int.toNat ((IntKind.i64.wrap (k_10 - (1 : Int))))) * 6))) a61 fun h63 =>
    IDXS keys_4b k_10 keys_4l fun p64 =>
    LDA 4 h63 ((Addr.add p64 ((Int.toNat k_10) * 4))) fun a65 =>
    ALC ⟨Z_4_int64⟩ T_4_int64 (fun g66 h67 =>
    STA 4 h67 ⟨g66, 0, none⟩ a65 fun h68 =>
    IDXS keys_4b ((IntKind.i64.wrap (k_10 - (1 : Int)))) keys_4l fun p69 =>
    LDA 4 h68 ((Addr.add p69 ((Int.toNat ((IntKind.i64.wrap (k_10 - (1 : Int))))) * 4))) fun a70 =>
    IDXS keys_4b k_10 keys_4l fun p71 =>
    STA 4 h68 ((Addr.add p71 ((Int.toNat k_10) * 4))) a70 fun h72 =>
    LDA 4 h72 ⟨g66, 0, none⟩ fun a73 =>
    IDXS keys_4b ((IntKind.i64.wrap (k_10 - (1 : Int)))) keys_4l fun p74 =>
    STA 4 h72 ((Addr.add p74 ((Int.toNat ((IntKind.i64.wrap (k_10 - (1 : Int))))) * 4))) a73 fun h75 =>
    N15 (out_3b, out_3l, out_3c, keys_4b, keys_4l, keys_4c, i_9, ((IntKind.i64.wrap (k_10 - (1 : Int))))) h75) h63) h
def spec_l08Compiled.j17 (N12 : (Option Addr × Nat × Nat × Option Addr × Nat × Nat × Int) → Heap → Prop) (N15 : (Option Addr × Nat × Nat × Option Addr × Nat × Nat × Int × Int) → Heap → Prop) (Post : Value → Heap → Prop) : Frame → Heap → Prop := fun fr h => GRD (shape (kds 111 [(3, .l), (4, .l), (9, .i .i64), (10, .i .i64)]) fr) (spec_l08Compiled.J17 N12 N15 Post (gLb (lget fr 3)) (gLl (lget fr 3)) (gLc (lget fr 3)) (gLb (lget fr 4)) (gLl (lget fr 4)) (gLc (lget fr 4)) (gI (lget fr 9)) (gI (lget fr 10)) h)
def spec_l08Compiled.B15 (N12 : (Option Addr × Nat × Nat × Option Addr × Nat × Nat × Int) → Heap → Prop) (Post : Value → Heap → Prop) (N15 : (Option Addr × Nat × Nat × Option Addr × Nat × Nat × Int × Int) → Heap → Prop) : Option Addr × Nat × Nat × Option Addr × Nat × Nat × Int × Int → Heap → Prop
  | (out_3b, out_3l, out_3c, keys_4b, keys_4l, keys_4c, i_9, k_10), h =>
    BIF ((decide ((0 : Int) < k_10))) (
    IDXS keys_4b k_10 keys_4l fun p45 =>
    LDA 4 h ((Addr.add p45 ((Int.toNat k_10) * 4))) fun a46 =>
    IDXS keys_4b ((IntKind.i64.wrap (k_10 - (1 : Int)))) keys_4l fun p47 =>
    LDA 4 h ((Addr.add p47 ((Int.toNat ((IntKind.i64.wrap (k_10 - (1 : Int))))) * 4))) fun a48 =>
    CALL prg f_spec_l08Less #[.agg a46, .agg a48] (fun q49 h50 =>
    asB q49 fun b51 =>
    BIF b51 (
    spec_l08Compiled.J17 N12 N15 Post out_3b out_3l out_3c keys_4b keys_4l keys_4c i_9 k_10 h50) (
    N12 (out_3b, out_3l, out_3c, keys_4b, keys_4l, keys_4c, ((IntKind.i64.wrap (i_9 + (1 : Int))))) h50)) h) (
    N12 (out_3b, out_3l, out_3c, keys_4b, keys_4l, keys_4c, ((IntKind.i64.wrap (i_9 + (1 : Int))))) h)
def spec_l08Compiled.g15 (fr : Frame) : Option Addr × Nat × Nat × Option Addr × Nat × Nat × Int × Int := ((gLb (lget fr 3)), (gLl (lget fr 3)), (gLc (lget fr 3)), (gLb (lget fr 4)), (gLl (lget fr 4)), (gLc (lget fr 4)), (gI (lget fr 9)), (gI (lget fr 10)))
def spec_l08Compiled.l15 (N12 : (Option Addr × Nat × Nat × Option Addr × Nat × Nat × Int) → Heap → Prop) (Post : Value → Heap → Prop) : Frame → Heap → Prop := fun fr h => GRD (shape (kds 111 [(3, .l), (4, .l), (9, .i .i64), (10, .i .i64)]) fr) (LOOP (spec_l08Compiled.B15 N12 Post) (spec_l08Compiled.g15 fr) h)
def spec_l08Compiled.B12 (Post : Value → Heap → Prop) (N12 : (Option Addr × Nat × Nat × Option Addr × Nat × Nat × Int) → Heap → Prop) : Option Addr × Nat × Nat × Option Addr × Nat × Nat × Int → Heap → Prop
  | (out_3b, out_3l, out_3c, keys_4b, keys_4l, keys_4c, i_9), h =>
    BIF ((decide (i_9 < (out_3l : Int)))) (
    LOOP (spec_l08Compiled.B15 N12 Post) (out_3b, out_3l, out_3c, keys_4b, keys_4l, keys_4c, i_9, i_9) h) (
    Post (.slice out_3b out_3l out_3c) h)
def spec_l08Compiled.g12 (fr : Frame) : Option Addr × Nat × Nat × Option Addr × Nat × Nat × Int := ((gLb (lget fr 3)), (gLl (lget fr 3)), (gLc (lget fr 3)), (gLb (lget fr 4)), (gLl (lget fr 4)), (gLc (lget fr 4)), (gI (lget fr 9)))
def spec_l08Compiled.l12 (Post : Value → Heap → Prop) : Frame → Heap → Prop := fun fr h => GRD (shape (kds 111 [(3, .l), (4, .l), (9, .i .i64)]) fr) (LOOP (spec_l08Compiled.B12 Post) (spec_l08Compiled.g12 fr) h)
def spec_l08Compiled.B4 (Post : Value → Heap → Prop) (N4 : (Option Addr × Nat × Nat × Option Addr × Nat × Nat × Option Addr × Nat × Nat × Int) → Heap → Prop) : Option Addr × Nat × Nat × Option Addr × Nat × Nat × Option Addr × Nat × Nat × Int → Heap → Prop
  | (notes_0b, notes_0l, notes_0c, out_3b, out_3l, out_3c, keys_4b, keys_4l, keys_4c, i_5), h =>
    BIF ((decide (i_5 < (notes_0l : Int)))) (
    IDXS notes_0b i_5 notes_0l fun p7 =>
    LDA 5 h ((Addr.add p7 ((Int.toNat i_5) * 5))) fun a8 =>
    ALC ⟨Z_spec_l08Note⟩ T_spec_l08Note (fun g9 h10 =>
    STA 5 h10 ⟨g9, 0, none⟩ a8 fun h11 =>
    oI .i64 (cell h11 ⟨g9, 0, none⟩) fun n12 =>
    oI .i64 (cell h11 ⟨g9, 2, none⟩) fun n13 =>
    oI .i64 (cell h11 ⟨g9, 3, none⟩) fun n14 =>
    oF .f32 (cell h11 ⟨g9, 4, none⟩) fun r15 =>
    ALC ⟨Z_impl_Event⟩ T_impl_Event (fun g16 h17 =>
    STA 6 h17 ⟨g16, 0, none⟩ (⟨[.int .i64 n12, .int .i64 (2 : Int), .int .i64 i_5, .int .i64 n13, .int .i64 n14, .float .f32 r15]⟩ : Array Value) fun h18 =>
    oI .i64 (cell h18 ⟨g9, 1, none⟩) fun n19 =>
    ALC ⟨Z_impl_Event⟩ T_impl_Event (fun g20 h21 =>
    STA 6 h21 ⟨g20, 0, none⟩ (⟨[.int .i64 n19, .int .i64 (1 : Int), .int .i64 i_5, .int .i64 (0 : Int), .int .i64 (0 : Int), .float .f32 0]⟩ : Array Value) fun h22 =>
    LDA 6 h22 ⟨g16, 0, none⟩ fun a23 =>
    LDA 6 h22 ⟨g20, 0, none⟩ fun a24 =>
    SIZ (Array.size a23) 6 <|
    SIZ (Array.size a24) 6 <|
    ALC ⟨(splice 6 6 a24 (splice 0 6 a23 [.int .i64 (0 : Int), .int .i64 (0 : Int), .int .i64 (0 : Int), .int .i64 (0 : Int), .int .i64 (0 : Int), .float .f32 0, .int .i64 (0 : Int), .int .i64 (0 : Int), .int .i64 (0 : Int), .int .i64 (0 : Int), .int .i64 (0 : Int), .float .f32 0]))⟩ T_impl_Event (fun g25 h26 =>
    SEMV prg (Builtin.append_ #[T_sl_impl_Event, T_sl_impl_Event] T_sl_impl_Event #[.slice out_3b out_3l out_3c, .slice (some ⟨g25, 0, none⟩) 2 2]) (fun q27 h28 =>
    asL q27 fun l29b l29l l29c =>
    oI .i64 (cell h28 ⟨g9, 0, none⟩) fun n30 =>
    oI .i64 (cell h28 ⟨g9, 0, none⟩) fun n31 =>
    CALL prg f_spec_l08Key #[.pointer (some ⟨g16, 0, none⟩), .int .i64 n30] (fun q32 h33 =>
    asA q32 fun a34 =>
    PIN h28 ⟨g9, 0, none⟩ 1 h33 <|
    CALL prg f_spec_l08Key #[.pointer (some ⟨g20, 0, none⟩), .int .i64 n31] (fun q35 h36 =>
    asA q35 fun a37 =>
    SIZ (Array.size a34) 4 <|
    SIZ (Array.size a37) 4 <|
    ALC ⟨(splice 4 4 a37 (splice 0 4 a34 [.int .i64 (0 : Int), .int .i64 (0 : Int), .int .i64 (0 : Int), .int .i64 (0 : Int), .int .i64 (0 : Int), .int .i64 (0 : Int), .int .i64 (0 : Int), .int .i64 (0 : Int)]))⟩ T_4_int64 (fun g38 h39 =>
    SEMV prg (Builtin.append_ #[T_sl_4_int64, T_sl_4_int64] T_sl_4_int64 #[.slice keys_4b keys_4l keys_4c, .slice (some ⟨g38, 0, none⟩) 2 2]) (fun q40 h41 =>
    asL q40 fun l42b l42l l42c =>
    N4 (notes_0b, notes_0l, notes_0c, l29b, l29l, l29c, l42b, l42l, l42c, ((IntKind.i64.wrap (i_5 + (1 : Int))))) h41) h39) h36) h33) h28) h26) h22) h18) h11) h) (
    LOOP (spec_l08Compiled.B12 Post) (out_3b, out_3l, out_3c, keys_4b, keys_4l, keys_4c, (1 : Int)) h)
def spec_l08Compiled.g4 (fr : Frame) : Option Addr × Nat × Nat × Option Addr × Nat × Nat × Option Addr × Nat × Nat × Int := ((gLb (lget fr 0)), (gLl (lget fr 0)), (gLc (lget fr 0)), (gLb (lget fr 3)), (gLl (lget fr 3)), (gLc (lget fr 3)), (gLb (lget fr 4)), (gLl (lget fr 4)), (gLc (lget fr 4)), (gI (lget fr 5)))
def spec_l08Compiled.l4 (Post : Value → Heap → Prop) : Frame → Heap → Prop := fun fr h => GRD (shape (kds 111 [(0, .l), (3, .l), (4, .l), (5, .i .i64)]) fr) (LOOP (spec_l08Compiled.B4 Post) (spec_l08Compiled.g4 fr) h)
def spec_l08Compiled.S (notes_0b : Option Addr) (notes_0l notes_0c : Nat) (Post : Value → Heap → Prop) (h : Heap) : Prop :=
    ALC ⟨[]⟩ T_impl_Event (fun g1 h2 =>
    ALC ⟨[]⟩ T_4_int64 (fun g3 h4 =>
    LOOP (spec_l08Compiled.B4 Post) (notes_0b, notes_0l, notes_0c, (some ⟨g1, 0, none⟩), 0, 0, (some ⟨g3, 0, none⟩), 0, 0, (0 : Int)) h4) h2) h
noncomputable def spec_l08Compiled.code : Code := (Tryz.f18.body).getD .skip
theorem spec_l08Compiled.call {notes_0b : Option Addr} {notes_0l notes_0c : Nat} {Post : Value → Heap → Prop} {h : Heap} (H : spec_l08Compiled.S notes_0b notes_0l notes_0c Post h) : CALL prg f_spec_l08Compiled #[.slice notes_0b notes_0l notes_0c] Post h :=
  fn_call tau_ok mixed (c := spec_l08Compiled.code) (Λ := lookL [(1000004, spec_l08Compiled.l4 Post), (1000012, spec_l08Compiled.l12 Post)]) Tryz.func18 (by kernel_rfl) (by kernel_rfl)
    (Rq.seq (by kernel_rfl) (Rq.free (by kernel_rfl)) (Rq.seq (by kernel_rfl) (Rq.free (by kernel_rfl)) (Rq.seq (by kernel_rfl) (Rq.free (by kernel_rfl)) (Rq.seq (by kernel_rfl) (Rq.seq (by kernel_rfl) (Rq.free (by kernel_rfl)) (Rq.block (Rq.loop (spec_l08Compiled.l4 Post) (by kernel_rfl) (segL (g := spec_l08Compiled.g4) tau_ok mixed (Λ := fun N4 => lookL []) (fun _ _ _ => by kernel_rfl) (fun N4 => (Rq.free (by kernel_rfl))))))) (Rq.seq (by kernel_rfl) (Rq.seq (by kernel_rfl) (Rq.free (by kernel_rfl)) (Rq.block (Rq.loop (spec_l08Compiled.l12 Post) (by kernel_rfl) (segL (g := spec_l08Compiled.g12) tau_ok mixed (Λ := fun N12 => lookL [(1000015, spec_l08Compiled.l15 N12 Post)]) (fun _ _ _ => by kernel_rfl) (fun N12 => (Rq.seq (by kernel_rfl) (Rq.free (by kernel_rfl)) (Rq.seq (by kernel_rfl) (Rq.block (Rq.seq (by kernel_rfl) (Rq.free (by kernel_rfl)) (Rq.block (Rq.loop (spec_l08Compiled.l15 N12 Post) (by kernel_rfl) (segL (g := spec_l08Compiled.g15) tau_ok mixed (Λ := fun N15 => lookL [(17, spec_l08Compiled.j17 N12 N15 Post)]) (fun _ _ _ => by kernel_rfl) (fun N15 => (Rq.seqJ (spec_l08Compiled.j17 N12 N15 Post) (by kernel_rfl) (seg (fun _ _ => by kernel_rfl)) (Rq.free (by kernel_rfl))
(Rq.free (by kernel_rfl))))))))) (Rq.free (by kernel_rfl))))))))) (Rq.free (by kernel_rfl)))))))
    (Eq.mp (by kernel_rfl) H)

end Go.Sx
