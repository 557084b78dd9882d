/- What functions of this seat's program compute, told in words (a predicate over heaps for each), and the proofs that the words are no more than the code's own weakest precondition. -/
import Derived.Test.YtnhcoeogejgidabGreatDoorTab
import Derived.Test.YtnhcoeogejgidabGreatDoorLk97
import Derived.Test.YtnhcoeogejgidabGreatDoorLcn2
import Derived.Test.YtnhcoeogejgidabGreatDoorLv2
import Derived.Test.YtnhcoeogejgidabGreatDoorLk30
import Derived.Test.YtnhcoeogejgidabGreatDoorLks
import Derived.Test.YtnhcoeogejgidabGreatDoorCI
namespace Go.Sx
open Go.Proofs
set_option linter.unusedVariables false
set_option maxRecDepth 100000

def slices_Index_sl_string_string.B2 (Post : Value → Heap → Prop) (N2 : (Option Addr × Nat × Nat × ByteArray × Int × Int) → Heap → Prop) : Option Addr × Nat × Nat × ByteArray × Int × Int → Heap → Prop
  | (s_0b, s_0l, s_0c, v_1, t7, t8), h =>
    BIF (decide (t8 < t7)) (
    IDXS s_0b t8 s_0l fun p3 =>
    oS (cell h ((Addr.add p3 ((Int.toNat t8) * 1)))) fun s4 =>
    BIF (ByteArray.toList v_1 == ByteArray.toList s4) (
    Post (.int .i64 t8) h) (
    N2 (s_0b, s_0l, s_0c, v_1, t7, ((IntKind.i64.wrap (t8 + (1 : Int))))) h)) (
    Post (.int .i64 (-1 : Int)) h)
def slices_Index_sl_string_string.g2 (fr : Frame) : Option Addr × Nat × Nat × ByteArray × Int × Int := ((gLb (lget fr 0)), (gLl (lget fr 0)), (gLc (lget fr 0)), (gS (lget fr 1)), (gI (lget fr 7)), (gI (lget fr 8)))
def slices_Index_sl_string_string.l2 (Post : Value → Heap → Prop) : Frame → Heap → Prop := fun fr h => GRD (shape (kds 19 [(0, .l), (1, .s), (7, .i .i64), (8, .i .i64)]) fr) (LOOP (slices_Index_sl_string_string.B2 Post) (slices_Index_sl_string_string.g2 fr) h)
def slices_Index_sl_string_string.S (s_0b : Option Addr) (s_0l s_0c : Nat) (v_1 : ByteArray) (Post : Value → Heap → Prop) (h : Heap) : Prop :=
    LOOP (slices_Index_sl_string_string.B2 Post) (s_0b, s_0l, s_0c, v_1, (s_0l : Int), (0 : Int)) h
noncomputable def slices_Index_sl_string_string.code : Code := (Tryz.f83.body).getD .skip
theorem slices_Index_sl_string_string.call {s_0b : Option Addr} {s_0l s_0c : Nat} {v_1 : ByteArray} {Post : Value → Heap → Prop} {h : Heap} (H : slices_Index_sl_string_string.S s_0b s_0l s_0c v_1 Post h) : CALL prg f_slices_Index_sl_string_string #[.slice s_0b s_0l s_0c, .string v_1] Post h :=
  fn_call tau_ok mixed (c := slices_Index_sl_string_string.code) (Λ := lookL [(1000002, slices_Index_sl_string_string.l2 Post)]) Tryz.func83 (by kernel_rfl) (by kernel_rfl)
    (Rq.seq (by kernel_rfl) (Rq.free (by kernel_rfl)) (Rq.seq (by kernel_rfl) (Rq.seq (by kernel_rfl) (Rq.free (by kernel_rfl)) (Rq.block (Rq.loop (slices_Index_sl_string_string.l2 Post) (by kernel_rfl) (segL (g := slices_Index_sl_string_string.g2) tau_ok mixed (Λ := fun N2 => lookL []) (fun _ _ _ => by kernel_rfl) (fun N2 => (Rq.free (by kernel_rfl))))))) (Rq.free (by kernel_rfl))))
    (Eq.mp (by kernel_rfl) H)

def slices_Contains_sl_string_string.S (s_0b : Option Addr) (s_0l s_0c : Nat) (v_1 : ByteArray) (Post : Value → Heap → Prop) (h : Heap) : Prop :=
    CALL prg f_slices_Index_sl_string_string #[.slice s_0b s_0l s_0c, .string v_1] (fun q1 h2 =>
    asI .i64 q1 fun n3 =>
    Post (.bool ((decide ((0 : Int) ≤ n3)))) h2) h
noncomputable def slices_Contains_sl_string_string.code : Code := (Tryz.f52.body).getD .skip
theorem slices_Contains_sl_string_string.call {s_0b : Option Addr} {s_0l s_0c : Nat} {v_1 : ByteArray} {Post : Value → Heap → Prop} {h : Heap} (H : slices_Contains_sl_string_string.S s_0b s_0l s_0c v_1 Post h) : CALL prg f_slices_Contains_sl_string_string #[.slice s_0b s_0l s_0c, .string v_1] Post h :=
  fn_call tau_ok mixed (c := slices_Contains_sl_string_string.code) (Λ := lookL []) Tryz.func52 (by kernel_rfl) (by kernel_rfl)
    (Rq.free (by kernel_rfl))
    (Eq.mp (by kernel_rfl) H)

end Go.Sx
/- Lines with numbers, instruments compiled by the program. -/
set_option linter.unusedVariables false
set_option linter.unusedSimpArgs false
namespace Go.Sx
open Go.Proofs
set_option maxRecDepth 100000
set_option maxHeartbeats 1000000

/-- What the compiler is behind a line. -/
def ResC (h0 h' : Heap) (q : Addr) (F : Fr) (L : List Blk) (r : CRes) (u : Value) : Prop := match r with
  | .ok (s', p') => u = .int .i64 0 ∧ 1 ≤ p' ∧ Pt rCompiler h0 h' q F L (s'.comp (p' - 1))
  | .error e => u = .int .i64 e ∧ e ≠ 0 ∧ Mem h0 h' L
section
variable {h0 h' : Heap} {q : Addr} {F : Fr} {L : List Blk} {r : CRes} {s' : GComp} {p : Nat} {e : Int}
theorem ResC.ok (E : r = .ok (s', p + 1)) (P : Pt rCompiler h0 h' q F L (s'.comp p)) : ResC h0 h' q F L r (.int .i64 0) := by subst E; exact ⟨rfl, Nat.succ_pos _, P⟩
theorem ResC.err (E : r = .error e) (M : Mem h0 h' L) (he : e ≠ 0 := by decide) : ResC h0 h' q F L r (.int .i64 e) := by subst E; exact ⟨rfl, he, M⟩
theorem ResC.int {u : Value} (R : ResC h0 h' q F L r u) : asI .i64 u fun n => ResC h0 h' q F L r (.int .i64 n) := by
  have : ∃ n, u = .int .i64 n := by
    unfold ResC at R
    split at R
    · exact ⟨_, R.1⟩
    · exact ⟨_, R.1⟩
  obtain ⟨n, rfl⟩ := this
  exact as_i R
theorem read_open {o : Option Int} {u : Value} (h : ReadV o u) : ∃ v, u = .tuple ⟨[.int .i64 v, .bool o.isSome]⟩ ∧ ∀ n, o = some n → v = n := by
  cases o with
  | none => obtain ⟨v, rfl⟩ := h; exact ⟨v, rfl, fun n e => by cases e⟩
  | some n => exact ⟨n, h, fun m e => by cases e; rfl⟩
end
theorem strs_slr {h0 h : Heap} {L : List Blk} {g : Nat} {ls : List (List UInt8)} (M : Mem h0 h L) (l : Look L g (strV ls)) (hs : ∀ x ∈ ls, x.length ≤ maxLen) (hn : ls.length ≤ maxLen) : SlR rS h (some ⟨g, 0, none⟩) ls.length ls.length (ls.map mkB) := by
  refine ⟨by rw [List.length_map], Nat.le_refl _, hn, ls.map fun l => .string (mkB l), fun i hi => ⟨_, rfl, ?_⟩, ?_⟩
  · rw [add_none, M.cell l, Nat.zero_add]
    unfold strV
    rw [List.getElem?_toArray]
  · clear l hn
    induction ls with
    | nil => rfl
    | cons x r ih => exact ⟨[_], _, rfl, ⟨rfl, by rw [mk_size]; exact hs x (List.mem_cons_self ..)⟩, ih fun y hy => hs y (List.mem_cons_of_mem _ hy)⟩
section
variable {h : Heap}
theorem Index_string_c {b : Option Addr} {l c : Nat} {ws : List (List UInt8)} {v : List UInt8} (S : SlR rS h b l c (ws.map mkB)) :
    CALL prg f_slices_Index_sl_string_string #[.slice b l c, .string (mkB v)] (fun u h' => u = .int .i64 (firstAt (fun x => decide (v = x)) ws) ∧ Ext h h') h := by
  have hm2 := S.2.2.1
  have hm3 := S.2.1
  have := maxLen_lt
  have hl : ws.length = l := by have := S.len; rwa [List.length_map] at this
  refine slices_Index_sl_string_string.call ?_
  refine loop (fun x hh => ∃ n : Nat, x = (b, l, c, mkB v, (l : Int), (n : Int)) ∧ hh = h ∧ n ≤ l ∧ ∀ i, i < n → decide (v = ws[i]!) = false) (fun x => (l - x.2.2.2.2.2).toNat) ⟨0, rfl, rfl, by omega, fun i hi => by omega⟩ ?_
  rintro x hh ⟨n, rfl, rfl, hn, hf⟩
  refine brd (fun hc => ?_) fun hc => ⟨by rw [firstAt_none (p := fun x => decide (v = x)) fun i hi => hf i (by omega)], Ext.refl _⟩
  refine S.idn (by decide) (show n < l by omega) fun a Ra => Ra.oS1 fun _ => ?_
  rw [map_str (by omega), mkb_toList]
  refine brd (fun he => ⟨by rw [firstAt_some (p := fun x => decide (v = x)) (by omega) hf (decide_eq_true he)], Ext.refl _⟩) fun he => ?_
  refine ⟨⟨n + 1, by rw [wrap64_succ (by omega)], rfl, by omega, fun i hi => ?_⟩, by rw [wrap64_succ (by omega)]; show ((l : Int) - ((n + 1 : Nat) : Int)).toNat < ((l : Int) - (n : Int)).toNat; omega⟩
  by_cases e : i = n
  · subst e; exact decide_eq_false he
  · exact hf i (by omega)
theorem Contains_string_c {b : Option Addr} {l c : Nat} {ws : List (List UInt8)} {v : List UInt8} (S : SlR rS h b l c (ws.map mkB)) :
    CALL prg f_slices_Contains_sl_string_string #[.slice b l c, .string (mkB v)] (fun u h' => u = .bool (ws.any fun x => decide (v = x)) ∧ Ext h h') h :=
  slices_Contains_sl_string_string.call (goX (Index_string_c S) fun h2 x2 => as_i ⟨by rw [firstAt_any], x2⟩)
end
section
variable {h0 h : Heap} {q : Addr} {F : Fr} {L : List Blk} {s : GComp} {p : Nat}
theorem notes_c (I : CInv s) (R : RdP rCompiler h q (s.comp p)) : CALL prg f_p_impl_compiler_notes #[.pointer (some q)] (fun u h' => u = .int .i64 (s.notes.length : Int) ∧ Ext h h') h := by
  refine p_impl_compiler_notes.call (R.oL (off := 5) fun b l c S => goX (length_Event_c b l c _) fun h3 x3 => as_i (nz (by decide) ⟨?_, x3⟩))
  have hl : (evsOf s.notes).length = l := S.len
  rw [evsOf_len] at hl
  have := I.n64
  rw [half_wrap (by omega), ← hl]
  congr 2
  omega
theorem read_number {b : Option Addr} {n k i : Nat} {ws : List (List UInt8)} (B : Libs h) (hl : ∀ j : Nat, (ws[j]!).length ≤ 4096) : CALL prg f_impl_readWhole #[.string (mkB ws[i]!)] (fun u h' => (∃ v : Int, u = .tuple ⟨[.int .i64 v, .bool (wholeL ws[i]!).isSome]⟩ ∧ ∀ m, wholeL ws[i]! = some m → v = (m : Int)) ∧ Ext h h') h := by
  refine (readWhole_c B (by have := hl i; omega)).mono ?_
  rintro u h1 ⟨R, x⟩
  obtain ⟨v, rfl, e⟩ := read_open R
  refine ⟨⟨v, by cases wholeL ws[i]! <;> rfl, fun m hm => e m (by rw [hm]; rfl)⟩, x⟩
theorem rate_c {b : Option Addr} {n k : Nat} {ws : List (List UInt8)} (B : Libs h) (I : CInv s) (P : Pt rCompiler h0 h q F L (s.comp p)) (S : SlR rS h b n k (ws.map mkB)) (hn : ws.length = 2) (hl : ∀ j : Nat, (ws[j]!).length ≤ 4096) :
    CALL prg f_p_impl_compiler_rate #[.pointer (some q), .slice b n k] (fun u h' => ResC h0 h' q F L (match wholeL ws[1]! with | some n => s.setRate p n | none => .error 5) u) h := by
  obtain rfl : n = 2 := by have := S.len; rw [List.length_map] at this; omega
  refine p_impl_compiler_rate.call (S.str 1 rfl (by decide) ((read_number (i := 1) (b := b) (n := 2) (k := k) B hl).mono ?_))
  rintro _ h4 ⟨⟨v, rfl, hv⟩, x4⟩
  have P := P.grow x4
  refine tup2 (as_i (as_b (brN (fun h => ResC.err (by rw [none_of h]) P.mem) fun h => ?_)))
  obtain ⟨m, h⟩ := some_of h
  obtain rfl := hv m h
  rw [h]
  show CALL prg f_impl_within _ (fun q9 h10 => asB q9 fun b11 => BIF (!b11) (ResC h0 h10 q F L (s.setRate p m) _) (CALL prg f_p_impl_compiler_notes _ (fun q12 h13 => asI .i64 q12 fun n14 => BIF _ (ResC h0 h13 q F L (s.setRate p m) _) (ST1 h13 q _ fun h15 => ResC h0 h15 q F L (s.setRate p m) _)) h10)) h4
  refine goX (within_c _ _ _ _) fun h10 x10 => as_b (brN (fun hb => ResC.err (by unfold GComp.setRate; rw [hb]; rfl) (P.grow x10).mem) fun hb => ?_)
  have P := P.grow x10
  refine goX (notes_c I P.rd) fun h13 x13 => as_i ?_
  have P := P.grow x13
  refine brd (fun hk => ResC.err ?_ P.mem) fun hk => P.stF1 (fw_nearest _ _) fun h7 P => ResC.ok (s' := { s with rate := FloatKind.f32.nearest m }) ?_ P
  · unfold GComp.setRate
    rw [hb, if_pos rfl, if_neg]
    intro h
    rw [List.isEmpty_iff.1 h] at hk
    simp at hk
  · unfold GComp.setRate
    rw [hb, if_pos rfl, if_pos]
    rw [List.isEmpty_iff_length_eq_zero]; omega
theorem tune_c {b : Option Addr} {n k : Nat} {ws : List (List UInt8)} (B : Libs h) (I : CInv s) (P : Pt rCompiler h0 h q F L (s.comp p)) (S : SlR rS h b n k (ws.map mkB)) (hn : ws.length = 3) (hl : ∀ j : Nat, (ws[j]!).length ≤ 4096) :
    CALL prg f_p_impl_compiler_tuning #[.pointer (some q), .slice b n k] (fun u h' => ResC h0 h' q F L (match fracL ws[1]!, wholeL ws[2]! with | some a, some n => s.setTune p a n | _, _ => .error 5) u) h := by
  obtain rfl : n = 3 := by have := S.len; rw [List.length_map] at this; omega
  refine p_impl_compiler_tuning.call (S.str 1 rfl (by decide) ((readFraction_c B (by have := hl 1; omega)).mono ?_))
  rintro u h4 ⟨V, x4⟩
  obtain ⟨x1, a1, rfl, f1, e1⟩ := frac_open V
  refine tup2 (as_f (as_b ((S.ext x4).str 2 rfl (by decide) ((read_number (i := 2) (b := b) (n := 3) (k := k) (B.ext x4) hl).mono ?_))))
  rintro _ h12 ⟨⟨v, rfl, hv⟩, x12⟩
  have P := (P.grow x4).grow x12
  refine tup2 (as_i (as_b (brN (fun h => ResC.err (by rw [none_of h]) P.mem) fun h1 => brN (fun h => ResC.err (by rw [none_of h]; cases fracL ws[1]! <;> rfl) P.mem) fun h2 => ?_)))
  obtain ⟨w1, h1⟩ := some_of h1
  obtain ⟨v2, h2⟩ := some_of h2
  obtain rfl := e1 _ h1
  obtain rfl := hv _ h2
  rw [h1, h2]
  show p_impl_compiler_tuning.J5 (fun u h' => ResC h0 h' q F L (s.setTune p a1 v2) u) q x1 (v2 : Int) h12
  unfold p_impl_compiler_tuning.J5
  refine (impl_EqualTuning_c f1).mono ?_
  rintro _ h40 ⟨cs, Bt, rfl, Ot, Mt⟩
  have P := P.join Mt
  have sc : cs.size = 3 := osz Ot rfl
  refine tup2 (as_a (as_i ((Mem.start h40).alc fun g45 h46 x46 Mg => Mg.sta0 .here sc (rTuning.oone Ot) rfl .here fun h47 Mg => ?_)))
  have P := P.grow Mg.ext
  unfold tuneE
  by_cases hok : tuneOk a1 (v2 : Int) = true
  · rw [if_pos hok]
    refine br_f rfl (goX (notes_c I P.rd) fun h27 x27 => as_i ?_)
    have P := P.grow x27
    have Mg := Mg.grow x27
    refine brd (fun hk => ResC.err ?_ P.drop.mem) fun hk => Mg.lda0 .here sc (P.sts (Foc.at (off := 1) (foc_Compiler_score.trans foc_Score_Tuning) rfl) rfl Ot fun h52 P => ?_)
    · unfold GComp.setTune
      rw [show (inside a1 1065353216 1184645120 && inR (v2 : Int) 1 31) = true from hok, if_pos rfl, if_neg]
      intro h
      rw [List.isEmpty_iff.1 h] at hk
      simp at hk
    · refine ResC.ok (p := p) (s' := { s with tune := equalT a1 v2 }) ?_ ?_
      · unfold GComp.setTune
        rw [show (inside a1 1065353216 1184645120 && inR (v2 : Int) 1 31) = true from hok, if_pos rfl, if_pos]
        rw [List.isEmpty_iff_length_eq_zero]; omega
      · have e : tuneT a1 (v2 : Int) = equalT a1 v2 := by unfold tuneT; rw [if_pos hok]; rfl
        rw [e] at P
        exact P
  · rw [if_neg hok]
    refine br_t rfl (ResC.err ?_ P.drop.mem)
    unfold GComp.setTune
    rw [show (inside a1 1065353216 1184645120 && inR (v2 : Int) 1 31) = false from Bool.eq_false_iff.2 hok]; rfl
theorem move_c {b : Option Addr} {n k : Nat} {ws : List (List UInt8)} (B : Libs h) (I : CInv s) (P : Pt rCompiler h0 h q F L (s.comp p)) (S : SlR rS h b n k (ws.map mkB)) (hn : ws.length = 2) (hl : ∀ j : Nat, (ws[j]!).length ≤ 4096) (hw : ws[0]! = atW ∨ ws[0]! = waitW) :
    CALL prg f_p_impl_compiler_move #[.pointer (some q), .slice b n k] (fun u h' => ResC h0 h' q F L (match wholeL ws[1]! with | some n => s.one p ws[0]! n | none => .error 5) u) h := by
  obtain rfl : n = 2 := by have := S.len; rw [List.length_map] at this; omega
  have i0 := I.n0
  have i1 := I.n1
  refine p_impl_compiler_move.call (S.str 1 rfl (by decide) ((read_number (i := 1) (b := b) (n := 2) (k := k) B hl).mono ?_))
  rintro _ h4 ⟨⟨v, rfl, hv⟩, x4⟩
  have P := P.grow x4
  refine tup2 (as_i (as_b (brN (fun h => ResC.err (by rw [none_of h]) P.mem) fun h => ?_)))
  obtain ⟨m, h⟩ := some_of h
  obtain rfl := hv m h
  have hm := whole_lt h
  have er : (match wholeL ws[1]! with | some n => s.one p ws[0]! n | none => (.error 5 : CRes)) = s.one p ws[0]! m := by rw [h]
  rw [er]
  refine (S.ext x4).str0 (by decide) (brw waitW rfl (fun hb => ?_) fun hb => ?_)
  · rw [hb, show s.one p waitW m = s.goto p (s.now + m) from rfl]
    refine P.rd.oI (off := 6) ?_
    show BIF (decide (100000 < IntKind.i64.wrap ((m : Int) + s.now))) _ (ST1 h4 (q.add 6) (.int .i64 (IntKind.i64.wrap ((m : Int) + s.now))) _)
    rw [wrap64 (n := (m : Int) + s.now) (by omega) (by omega), Int.add_comm (m : Int) s.now]
    exact brd (fun hk => ResC.err (by unfold GComp.goto; rw [if_pos hk]) P.mem) fun hk => P.stI (off := 6) fun h7 P => ResC.ok (s' := { s with now := s.now + m }) (by unfold GComp.goto; rw [if_neg hk]) P
  · have ha : ws[0]! = atW := hw.resolve_right hb
    rw [ha, show s.one p atW m = s.goto p m from rfl]
    exact brd (fun hk => ResC.err (by unfold GComp.goto; rw [if_pos hk]) P.mem) fun hk => P.stI (off := 6) fun h7 P => ResC.ok (s' := { s with now := m }) (by unfold GComp.goto; rw [if_neg hk]) P
theorem repeat_c {b : Option Addr} {n k : Nat} {ws : List (List UInt8)} (B : Libs h) (I : CInv s) (P : Pt rCompiler h0 h q F L (s.comp p)) (S : SlR rS h b n k (ws.map mkB)) (hn : ws.length = 2) (hl : ∀ j : Nat, (ws[j]!).length ≤ 4096) :
    CALL prg f_p_impl_compiler_repeat #[.pointer (some q), .slice b n k] (fun u h' => ResC h0 h' q F L (match wholeL ws[1]! with | some n => s.open_ p n | none => .error 5) u) h := by
  obtain rfl : n = 2 := by have := S.len; rw [List.length_map] at this; omega
  have l3 := I.l3
  refine p_impl_compiler_repeat.call (S.str 1 rfl (by decide) ((read_number (i := 1) (b := b) (n := 2) (k := k) B hl).mono ?_))
  rintro _ h4 ⟨⟨v, rfl, hv⟩, x4⟩
  have P := P.grow x4
  refine tup2 (as_i (as_b (brN (fun h => ResC.err (by rw [none_of h]) P.mem) fun h => ?_)))
  obtain ⟨m, h⟩ := some_of h
  obtain rfl := hv m h
  have er : (match wholeL ws[1]! with | some n => s.open_ p n | none => (.error 5 : CRes)) = s.open_ p m := by rw [h]
  rw [er]
  refine goX (within_c _ _ _ _) fun h10 x10 => as_b (brN (fun hb => ResC.err (by unfold GComp.open_; rw [hb]; rfl) (P.grow x10).mem) fun hb => ?_)
  have P := P.grow x10
  have hb2 := hb
  simp only [inR, Bool.and_eq_true, decide_eq_true_eq] at hb2
  have fl : (s.comp p).loops.length = s.loops.length := List.length_map _
  obtain ⟨b7, l7, c7, e7, S7⟩ := P.hdr (off := 7) (e := T_impl_loop) (s := rLoop)
  obtain rfl : s.loops.length = l7 := by rw [← fl]; exact S7.len
  refine o_l e7 (brd (fun h3 => ResC.err (by unfold GComp.open_; rw [hb, if_pos rfl, if_pos (by omega)]) P.mem) fun h3 => o_l e7 (P.rd.oI (off := 8) (siz rfl ?_)))
  have b1 := ins_max (n := s.loops.length) (by omega)
  rw [wrap64 (n := (m : Int) - 1) (by omega) (by omega), show (m : Int) - 1 = ((m - 1 : Nat) : Int) by omega]
  refine Pt.appP (off := 7) (Bn := []) P e7 E_sl_impl_loop (ows_one (r := rLoop) (x := ⟨(p : Int), ((m - 1 : Nat) : Int)⟩) ⟨[], [], [_], [_], rfl, rfl, ⟨rfl, rfl⟩, rfl, rfl⟩) rfl (by show (s.comp p).loops.length + 1 ≤ _; omega) (by show ((s.comp p).loops.length + 1) * 16 ≤ _; omega) fun h22 P => ?_
  refine ResC.ok (s' := { s with loops := s.loops ++ [(p, m - 1)] }) (by unfold GComp.open_; rw [hb, if_pos rfl, if_neg (by omega)]) ?_
  have e : GComp.comp { s with loops := s.loops ++ [(p, m - 1)] } p = { s.comp p with loops := (s.comp p).loops ++ [⟨(p : Int), ((m - 1 : Nat) : Int)⟩] } := by
    unfold GComp.comp; simp
  rw [e]
  exact P
theorem end_c (I : CInv s) (P : Pt rCompiler h0 h q F L (s.comp p)) : CALL prg f_p_impl_compiler_end #[.pointer (some q)] (fun u h' => ResC h0 h' q F L (s.close p) u) h := by
  have l3 := I.l3
  have fl : (s.comp p).loops.length = s.loops.length := List.length_map _
  refine p_impl_compiler_end.call ?_
  obtain ⟨b7, l7, c7, e7, S7⟩ := P.hdr (off := 7) (e := T_impl_loop) (s := rLoop)
  obtain rfl : s.loops.length = l7 := by rw [← fl]; exact S7.len
  have c1 := S7.2.1
  refine o_l e7 ?_
  rw [wrap64 (n := (s.loops.length : Int) - 1) (by omega) (by omega)]
  refine brd (fun h0 => ResC.err (by unfold GComp.close; rw [if_pos (List.length_eq_zero_iff.1 (by omega))]) P.mem) fun hpos => ?_
  have hnil : s.loops ≠ [] := fun e => by rw [e] at hpos; simp at hpos
  rw [show (s.loops.length : Int) - 1 = ((s.loops.length - 1 : Nat) : Int) by omega]
  generalize hd : s.loops.length - 1 = d
  have hdl : d < s.loops.length := by omega
  have ec : s.close p = if s.loops[d]!.2 = 0 then .ok ({ s with loops := s.loops.take d }, p + 1) else .ok ({ s with loops := s.loops.set d (s.loops[d]!.1, s.loops[d]!.2 - 1) }, s.loops[d]!.1 + 1) := by
    unfold GComp.close; rw [if_neg hnil, hd]
  have hx := I.each s.loops[d]! (mem_get hdl)
  have lg : (s.comp p).loops[d]! = ⟨(s.loops[d]!.1 : Int), (s.loops[d]!.2 : Int)⟩ := by
    show (s.loops.map _)[d]! = _
    rw [getElem!_pos _ d (by rw [List.length_map]; exact hdl), List.getElem_map, getElem!_pos s.loops d hdl]
  refine o_l e7 (S7.idn (by decide) hdl fun a Ra => Ra.oI (off := 1) ?_)
  rw [lg]
  refine br (fun hz => ?_) fun hz => ?_
  · have hz : (s.loops[d]!.2 : Int) = 0 := eq_of_beq hz
    rw [ec, if_pos (by omega)]
    refine o_l e7 (slb (by omega) (by omega) (by omega) ?_)
    rw [slA_z]
    refine Pt.stTake (off := 7) P e7 (by omega) fun h76 P => ResC.ok (s' := { s with loops := s.loops.take d }) rfl ?_
    have e : GComp.comp { s with loops := s.loops.take d } p = { s.comp p with loops := (s.comp p).loops.take d } := by
      unfold GComp.comp; simp only [List.map_take]
    rw [e]
    exact P
  · have hz : (s.loops[d]!.2 : Int) ≠ 0 := ne_of_beq_false hz
    rw [ec, if_neg (by omega)]
    refine o_l e7 (S7.idn (by decide) hdl fun a Ra => Ra.oI (off := 1) ?_)
    rw [lg]
    obtain ⟨a0, F', C, rfl, P1, close⟩ := P.elemX e7 hdl
    refine idxs (by omega) (by omega) ?_
    rw [Int.toNat_natCast]
    show ST1 h (((a0.add (d * 2))).add 1) (.int .i64 (IntKind.i64.wrap ((s.loops[d]!.2 : Int) - 1))) _
    rw [wrap64 (n := (s.loops[d]!.2 : Int) - 1) (by omega) (by omega)]
    refine P1.stI (off := 1) fun h13 P1 => ?_
    obtain ⟨P, hk⟩ := close _ _ _ _ P1
    rw [lg] at P
    have P : Pt rCompiler h0 h13 q F L { s.comp p with loops := (s.comp p).loops.set d ⟨(s.loops[d]!.1 : Int), (s.loops[d]!.2 : Int) - 1⟩ } := P
    have e7 : cell h13 (q.add 7) = some (.slice (some a0) s.loops.length c7) := by rw [hk]; exact e7
    have S7 := P.slr e7
    refine o_l e7 (S7.idn (by decide) hdl fun a Ra => Ra.oI1 ?_)
    have lg2 : ((s.comp p).loops.set d ⟨(s.loops[d]!.1 : Int), (s.loops[d]!.2 : Int) - 1⟩)[d]! = ⟨(s.loops[d]!.1 : Int), (s.loops[d]!.2 : Int) - 1⟩ := by
      rw [getElem!_pos _ d (by rw [List.length_set, fl]; exact hdl)]; exact List.getElem_set_self _
    show ST1 h13 (q.add 8) (.int .i64 (((s.comp p).loops.set d ⟨(s.loops[d]!.1 : Int), (s.loops[d]!.2 : Int) - 1⟩)[d]!).line) _
    rw [lg2]
    refine P.stI (off := 8) fun h17 P => ResC.ok (s' := { s with loops := s.loops.set d (s.loops[d]!.1, s.loops[d]!.2 - 1) }) rfl ?_
    have e : GComp.comp { s with loops := s.loops.set d (s.loops[d]!.1, s.loops[d]!.2 - 1) } s.loops[d]!.1 = { s.comp p with loops := (s.comp p).loops.set d ⟨(s.loops[d]!.1 : Int), (s.loops[d]!.2 : Int) - 1⟩, line := (s.loops[d]!.1 : Int) } := by
      unfold GComp.comp
      simp only [List.map_set]
      rw [show (((s.loops[d]!.2 - 1 : Nat) : Int)) = (s.loops[d]!.2 : Int) - 1 by omega]
    rw [e]
    exact P
end
end Go.Sx
