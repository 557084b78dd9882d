/- Whole numbers, signed ones, fractions read: the rule and the program. -/
import Derived.Test.YtnhcoeogejgidabGreatDoorLm21
import Derived.Test.YtnhcoeogejgidabGreatDoorLv6
import Derived.Test.YtnhcoeogejgidabGreatDoorLk0
import Derived.Test.YtnhcoeogejgidabGreatDoorTab
set_option linter.unusedVariables false
set_option linter.unusedSimpArgs false
namespace Go.Sx
open Go.Proofs
set_option maxRecDepth 100000
set_option maxHeartbeats 1000000

def wholeV (o : Option Nat) : Value := match o with | some n => .tuple ⟨[.int .i64 (n : Int), .bool true]⟩ | none => .tuple ⟨[.int .i64 (0 : Int), .bool false]⟩
def signedV (o : Option Int) : Value := match o with | some n => .tuple ⟨[.int .i64 n, .bool true]⟩ | none => .tuple ⟨[.int .i64 (0 : Int), .bool false]⟩
/-- A fraction told: its float up to which NaN it is. -/
def FracV (o : Option Nat) (u : Value) : Prop := match o with | some a => ∃ x, u = .tuple ⟨[.float .f32 x, .bool true]⟩ ∧ FW .f32 x a | none => ∃ x, u = .tuple ⟨[.float .f32 x, .bool false]⟩ ∧ FW .f32 x x
section
variable {h : Heap}
theorem l08Whole_c (l : List UInt8) : Ret prg f_spec_l08Whole #[.string (mkB l)] (wholeV (wholeL l)) := fun h => by
  refine spec_l08Whole.call ?_
  have hz := mk_size l
  refine brd (fun hc => ⟨by unfold wholeL; rw [if_pos (by omega)]; rfl, Ext.refl _⟩) fun hc => ?_
  refine (l01Number_c (mkB l)).go fun h1 x1 => ?_
  rw [mkB_data]
  have e : wholeL l = numL l := by unfold wholeL; rw [if_neg (by omega)]
  rw [e]
  cases numL l with
  | none => exact tup2 (as_i (as_b ⟨rfl, x1⟩))
  | some m => exact tup2 (as_i (as_b ⟨rfl, x1⟩))
theorem byte0 {l : List UInt8} (h : 0 < l.length) : ((byteAt (mkB l) (0 : Int)) == (45 : Int)) = decide (l.head? = some 45) := by
  obtain ⟨k, e⟩ := byte_get (s := mkB l) (i := 0) (by rw [mk_size]; exact h)
  have e : byteAt (mkB l) (0 : Int) = (((mkB l).data.toList[0]'k).toNat : Int) := e
  rw [e]
  cases l with
  | nil => simp at h
  | cons b l =>
    have : (mkB (b :: l)).data.toList[0]'k = b := rfl
    rw [this]
    show _ = decide (some b = some 45)
    by_cases hb : b = 45
    · subst hb; rfl
    · rw [decide_eq_false (fun e => hb (Option.some.inj e)), beq_eq_false_iff_ne]
      intro e
      apply hb
      apply UInt8.toNat.inj
      have : (45 : UInt8).toNat = 45 := rfl
      omega
theorem extract1 (l : List UInt8) : (mkB l).extract 1 (mkB l).size = mkB l.tail := by
  rw [← mkB_list ((mkB l).extract 1 (mkB l).size), Lib.extract_to_end, mkB_data, List.drop_one]
theorem l08Signed_c (l : List UInt8) : Ret prg f_spec_l08Signed #[.string (mkB l)] (signedV (signedL l)) := fun h => by
  have J : ∀ t h1, (t = decide (l.head? = some 45)) → Ext h h1 → spec_l08Signed.J2 (fun u h' => u = signedV (signedL l) ∧ Ext h h') (mkB l) t h1 := fun t h1 ht x1 => by
    unfold spec_l08Signed.J2
    refine br (fun hb => ?_) fun hb => ?_
    · rw [hb] at ht
      have ht := of_decide_eq_true ht.symm
      have hl : 1 ≤ l.length := by cases l with | nil => cases ht | cons _ _ => simp
      refine slb (by omega) (by rw [mk_size]; omega) (by omega) ?_
      rw [extract1]
      refine (l08Whole_c l.tail).go fun h2 x2 => ?_
      have e : signedL l = (wholeL l.tail).map fun n => -(n : Int) := by unfold signedL; rw [if_pos ht]
      rw [e]
      cases hw : wholeL l.tail with
      | none => exact tup2 (as_i (as_b ⟨rfl, x1.trans x2⟩))
      | some m =>
        have := whole_lt hw
        refine tup2 (as_i (as_b ⟨?_, x1.trans x2⟩))
        rw [wrap64 (by omega) (by omega)]
        show Value.tuple ⟨[.int .i64 (0 - (m : Int)), _]⟩ = .tuple ⟨[.int .i64 (-(m : Int)), _]⟩
        rw [Int.zero_sub]
    · rw [hb] at ht
      have ht := of_decide_eq_false ht.symm
      refine (l08Whole_c l).go fun h2 x2 => ?_
      have e : signedL l = (wholeL l).map fun n => (n : Int) := by unfold signedL; rw [if_neg ht]
      rw [e]
      cases hw : wholeL l with
      | none => exact tup2 (as_i (as_b ⟨rfl, x1.trans x2⟩))
      | some m => exact tup2 (as_i (as_b ⟨rfl, x1.trans x2⟩))
  refine spec_l08Signed.call ?_
  refine brd (fun hc => idx (by omega) hc (J _ _ ?_ (Ext.refl _))) fun hc => J _ _ ?_ (Ext.refl _)
  · rw [mk_size] at hc
    exact byte0 (by omega)
  · rw [mk_size] at hc
    cases l with
    | nil => rfl
    | cons _ _ => simp at hc
theorem and_all : ∀ d : Fin 1025, 1 ≤ d.val → bitI .and .i64 ((d.val : Nat) : Int) (IntKind.i64.wrap (((d.val : Nat) : Int) - 1)) = ((d.val &&& (d.val - 1) : Nat) : Int) := by decide +kernel
theorem and_nat {d : Nat} (h : d ≤ 1024) (h1 : 1 ≤ d) : bitI .and .i64 (d : Int) (IntKind.i64.wrap ((d : Int) - 1)) = ((d &&& (d - 1) : Nat) : Int) := and_all ⟨d, by omega⟩ h1
theorem mkb_toList (a b : List UInt8) : (ByteArray.toList (mkB a) == ByteArray.toList (mkB b)) = decide (a = b) := by
  rw [toList_data, toList_data, mkB_data, mkB_data, Bool.eq_iff_iff]
  simp
theorem cut_head : ∀ {c : UInt8} {l a : List UInt8} {r : List (List UInt8)}, cutL c l = a :: r → r ≠ [] → ∃ t, l = a ++ c :: t ∧ (∀ x ∈ a, x ≠ c) ∧ cutL c t = r
  | c, [], a, r, h, hr => by
    simp only [cutL, List.cons.injEq] at h
    exact absurd h.2.symm hr
  | c, b :: l, a, r, h, hr => by
    unfold cutL at h
    by_cases hb : b = c
    · rw [if_pos hb] at h
      obtain ⟨rfl, rfl⟩ := List.cons.inj h
      exact ⟨l, by rw [hb]; rfl, (fun x hx => by cases hx), rfl⟩
    · rw [if_neg hb] at h
      cases e : cutL c l with
      | nil => exact absurd e (cut_ne c l)
      | cons w s =>
        rw [e] at h
        obtain ⟨rfl, rfl⟩ := List.cons.inj h
        obtain ⟨t, e1, e2, e3⟩ := cut_head e hr
        refine ⟨t, by rw [e1]; rfl, fun x hx => ?_, e3⟩
        rcases List.mem_cons.1 hx with rfl | hx
        · exact hb
        · exact e2 x hx
theorem cut_sole : ∀ {c : UInt8} {l a : List UInt8}, cutL c l = [a] → l = a ∧ ∀ x ∈ l, x ≠ c
  | c, [], a, h => by
    simp only [cutL, List.cons.injEq, and_true] at h
    exact ⟨h, fun x hx => by cases hx⟩
  | c, b :: l, a, h => by
    unfold cutL at h
    by_cases hb : b = c
    · rw [if_pos hb] at h
      exact absurd (List.cons.inj h).2 (cut_ne c l)
    · rw [if_neg hb] at h
      cases e : cutL c l with
      | nil => exact absurd e (cut_ne c l)
      | cons w s =>
        rw [e] at h
        obtain ⟨rfl, rfl⟩ := List.cons.inj h
        obtain ⟨e1, e2⟩ := cut_sole e
        refine ⟨by rw [e1], fun x hx => ?_⟩
        rcases List.mem_cons.1 hx with rfl | hx
        · exact hb
        · exact e2 x hx
theorem fracV_none {u : Value} {x : Nat} (h : u = .tuple ⟨[.float .f32 x, .bool false]⟩) (hx : FW .f32 x x) : FracV none u := ⟨x, h, hx⟩
theorem fw0' : FW .f32 0 0 := fw_c32 (by decide) (by decide)
/-- A fraction out of its words. -/
def fracW (ws : List (List UInt8)) : Option Nat := match ws with
  | [a] => (signedL a).map FloatKind.f32.nearest
  | [a, b] => (signedL a).bind fun n => (wholeL b).bind fun d => if byOk d then some (fdiv .f32 (FloatKind.f32.nearest n) (FloatKind.f32.nearest d)) else none
  | _ => none
theorem fracL_eq (l : List UInt8) : fracL l = fracW (cutL 47 l) := rfl
theorem str_at {b : Option Addr} {n k : Nat} {ws : List (List UInt8)} (S : SlR rS h b n k (ws.map mkB)) (j : Nat) (hj : j < n) : ∃ a, b = some a ∧ cell h (a.add j) = some (.string (mkB ws[j]!)) := by
  have hn : ws.length = n := by have := S.len; rw [List.length_map] at this; exact this
  obtain ⟨a, rfl, R⟩ := S.elem (i := j) hj (by decide)
  obtain ⟨v, h1, h2⟩ := R
  obtain ⟨rfl, _⟩ := h2
  have := h1 0 _ rfl
  rw [add0] at this
  refine ⟨a, rfl, ?_⟩
  rw [show j * rS.sz = j * 1 from rfl, Nat.mul_one] at this
  rw [this, getElem!_pos _ j (by rw [List.length_map]; omega), List.getElem_map, getElem!_pos ws j (by omega)]
theorem SlR.str0 {b : Option Addr} {n k : Nat} {ws : List (List UInt8)} {F : ByteArray → Prop} (S : SlR rS h b n k (ws.map mkB)) (h0 : 0 < n) (H : F (mkB ws[0]!)) : IDXS b (0 : Int) n fun p => oS (cell h p) F := by
  obtain ⟨a, rfl, e⟩ := str_at S 0 h0
  rw [add0] at e
  exact idxs (by omega) (by omega) (o_s e H)
theorem SlR.str {b : Option Addr} {n k : Nat} {ws : List (List UInt8)} {F : ByteArray → Prop} {i : Int} (S : SlR rS h b n k (ws.map mkB)) (j : Nat) (hi : i = (j : Int)) (hj : j < n) (H : F (mkB ws[j]!)) : IDXS b i n fun p => oS (cell h (p.add j)) F := by
  obtain ⟨a, rfl, e⟩ := str_at S j hj
  exact idxs (by omega) (by omega) (o_s e H)
theorem l08Fraction_c {l : List UInt8} (hs : l.length ≤ 1048576) : CALL prg f_spec_l08Fraction #[.string (mkB l)] (fun u h' => FracV (fracL l) u ∧ Ext h h') h := by
  refine spec_l08Fraction.call ((l01Split_c (c := 47) (by rw [mk_size]; exact hs)).mono ?_)
  rintro _ h1 ⟨b, n, k, B, rfl, O, M⟩
  rw [mkB_data] at O
  have S := O.look M (List.Sublist.refl _)
  rw [fracL_eq]
  have hne := cut_ne 47 l
  generalize cutL 47 l = ws at O S hne
  have hn : ws.length = n := by have := S.len; rw [List.length_map] at this; exact this
  have x1 := M.ext
  have bad : ∀ {h' : Heap}, fracW ws = none → Ext h h' → (FracV (fracW ws) (.tuple ⟨[.float .f32 0, .bool false]⟩) ∧ Ext h h') := fun e X => by
    rw [e]; exact ⟨fracV_none rfl fw0', X⟩
  obtain ⟨a, r, rfl⟩ : ∃ a r, ws = a :: r := by
    cases ws with
    | nil => exact absurd rfl hne
    | cons a r => exact ⟨a, r, rfl⟩
  refine as_l (S.str0 (by simp at hn; omega) ((l08Signed_c a).go fun h2 y2 => ?_))
  have x2 := x1.trans y2
  cases hsg : signedL a with
  | none =>
    refine tup2 (as_i (as_b (br_t rfl (bad ?_ x2))))
    unfold fracW
    split
    · rename_i e; cases e; rw [hsg]; rfl
    · rename_i e; cases e; rw [hsg]; rfl
    · rfl
  | some m =>
    have hm := signed_in hsg
    refine tup2 (as_i (as_b (br_f rfl (brd (fun hc => bad ?_ x2) fun hc => ?_))))
    · match r, hn with
      | [], hn => simp at hn; omega
      | [_], hn => simp at hn; omega
      | _ :: _ :: _, _ => rfl
    · unfold spec_l08Fraction.J5
      match r, hn with
      | [], hn =>
        refine br_t (by simp at hn; subst hn; rfl) ⟨?_, x2⟩
        show FracV ((signedL a).map _) _
        rw [hsg]
        exact ⟨_, rfl, fw_nearest _ _⟩
      | [d], hn =>
        have hn2 : n = 2 := by simp at hn; omega
        refine br_f (by subst hn2; rfl) ?_
        have ef : fracW [a, d] = (wholeL d).bind fun d => if byOk d then some (fdiv .f32 (FloatKind.f32.nearest m) (FloatKind.f32.nearest d)) else none := by
          show (signedL a).bind _ = _
          rw [hsg]; rfl
        refine (S.ext y2).str 1 rfl (by omega) ?_
        refine goE x2 (l08Whole_c d _) fun h3 x3 => ?_
        cases hw : wholeL d with
        | none => exact tup2 (as_i (as_b (br_t rfl (bad (by rw [ef, hw]; rfl) x3))))
        | some e =>
          have el := whole_lt hw
          have ef2 : fracW [a, d] = if byOk e then some (fdiv .f32 (FloatKind.f32.nearest m) (FloatKind.f32.nearest e)) else none := by rw [ef, hw]; rfl
          have nb : byOk e = false → fracW [a, d] = none := fun h => by rw [ef2, h]; rfl
          refine tup2 (as_i (as_b (br_f rfl ?_)))
          refine brd (fun h2' => bad (nb ?_) x3) fun h2' => brd (fun h3' => bad (nb ?_) x3) fun h3' => ?_
          · unfold byOk; rw [decide_eq_false (by omega)]; rfl
          · unfold byOk; rw [decide_eq_false (p := e ≤ 1024) (by omega), Bool.and_false]; rfl
          · rw [and_nat (by omega) (by omega)]
            refine br (fun h4 => bad (nb ?_) x3) fun h4 => ?_
            · unfold byOk
              have : (e &&& (e - 1) == 0) = false := by rw [beq_eq_false_iff_ne]; intro hz; rw [hz] at h4; simp at h4
              rw [this, Bool.and_false]
            · have hz : e &&& (e - 1) = 0 := by simpa using h4
              have hk : byOk e = true := by unfold byOk; rw [decide_eq_true (by omega), decide_eq_true (by omega), hz]; rfl
              refine fD (fw_nearest _ _) (fw_nearest _ _) fun r hr => ⟨?_, x3⟩
              rw [ef2, hk]
              exact ⟨r, rfl, hr⟩
      | _ :: _ :: _, hn => simp at hn; omega
end
end Go.Sx
/- What functions of this seat's program compute, told in words (a predicate over heaps for each), and the proofs that the words are no more than the code's own weakest precondition. -/
namespace Go.Sx
open Go.Proofs
set_option linter.unusedVariables false
set_option maxRecDepth 100000

def spec_EqualTuning.B5 (Post : Value → Heap → Prop) (N5 : (Int × Addr × Addr × Int) → Heap → Prop) : Int × Addr × Addr × Int → Heap → Prop
  | (steps_1, t4, t_6, i_7), h =>
    BIF (decide (i_7 < steps_1)) (
    oL (cell h (Addr.add t_6 2)) fun l16b l16l l16c =>
    FOP .f32 (FloatKind.f32.format.mul 1150681088 (FloatKind.f32.nearest i_7)) fun r17 =>
    FOP .f32 (FloatKind.f32.format.div r17 (FloatKind.f32.nearest steps_1)) fun r18 =>
    ALC ⟨[.float .f32 r18]⟩ T_float32 (fun g19 h20 =>
    SEMV prg (Builtin.append_ #[T_sl_float32, T_sl_float32] T_sl_float32 #[.slice l16b l16l l16c, .slice (some ⟨g19, 0, none⟩) 1 1]) (fun q21 h22 =>
    asL q21 fun l23b l23l l23c =>
    ST1 h22 (Addr.add t_6 2) (.slice l23b l23l l23c) fun h24 =>
    N5 (steps_1, t4, t_6, ((IntKind.i64.wrap (i_7 + (1 : Int))))) h24) h20) h) (
    LDA 3 h t_6 fun a25 =>
    STA 3 h t4 a25 fun h26 =>
    LDA 3 h26 t4 fun a27 =>
    Post (.tuple ⟨[.agg a27, .int .i64 (0 : Int)]⟩) h26)
def spec_EqualTuning.g5 (fr : Frame) : Int × Addr × Addr × Int := ((gI (lget fr 1)), (gP (lget fr 4)), (gP (lget fr 6)), (gI (lget fr 7)))
def spec_EqualTuning.l5 (Post : Value → Heap → Prop) : Frame → Heap → Prop := fun fr h => GRD (shape (kds 36 [(1, .i .i64), (4, .p), (6, .p), (7, .i .i64)]) fr) (LOOP (spec_EqualTuning.B5 Post) (spec_EqualTuning.g5 fr) h)
def spec_EqualTuning.J3 (Post : Value → Heap → Prop) (base_0 : Nat) (steps_1 : Int) (t4 : Addr) (h : Heap) : Prop :=
    ALC ⟨Z_impl_Tuning⟩ T_impl_Tuning (fun g13 h14 =>
    STA 3 h14 ⟨g13, 0, none⟩ (⟨[.float .f32 base_0, .float .f32 1150681088, .slice none 0 0]⟩ : Array Value) fun h15 =>
    LOOP (spec_EqualTuning.B5 Post) (steps_1, t4, ⟨g13, 0, none⟩, (0 : Int)) h15) h
def spec_EqualTuning.j3 (Post : Value → Heap → Prop) : Frame → Heap → Prop := fun fr h => GRD (shape (kds 36 [(0, .f .f32), (1, .i .i64), (4, .p)]) fr) (spec_EqualTuning.J3 Post (gF (lget fr 0)) (gI (lget fr 1)) (gP (lget fr 4)) h)
def spec_EqualTuning.S (base_0 : Nat) (steps_1 : Int) (Post : Value → Heap → Prop) (h : Heap) : Prop :=
    ALC ⟨Z_impl_Tuning⟩ T_impl_Tuning (fun g1 h2 =>
    CALL prg f_spec_l07Base #[.float .f32 base_0] (fun q3 h4 =>
    asB q3 fun b5 =>
    BIF (!b5) (
    STA 3 h4 ⟨g1, 0, none⟩ (⟨[.float .f32 0, .float .f32 0, .slice none 0 0]⟩ : Array Value) fun h6 =>
    LDA 3 h6 ⟨g1, 0, none⟩ fun a7 =>
    Post (.tuple ⟨[.agg a7, .int .i64 (2 : Int)]⟩) h6) (
    CALL prg f_spec_l00In #[.int .i64 steps_1, .int .i64 (1 : Int), .int .i64 (31 : Int)] (fun q8 h9 =>
    asB q8 fun b10 =>
    BIF (!b10) (
    STA 3 h9 ⟨g1, 0, none⟩ (⟨[.float .f32 0, .float .f32 0, .slice none 0 0]⟩ : Array Value) fun h11 =>
    LDA 3 h11 ⟨g1, 0, none⟩ fun a12 =>
    Post (.tuple ⟨[.agg a12, .int .i64 (2 : Int)]⟩) h11) (
    spec_EqualTuning.J3 Post base_0 steps_1 ⟨g1, 0, none⟩ h9)) h4)) h2) h
noncomputable def spec_EqualTuning.code : Code := (Tryz.f16.body).getD .skip
theorem spec_EqualTuning.call {base_0 : Nat} {steps_1 : Int} {Post : Value → Heap → Prop} {h : Heap} (H : spec_EqualTuning.S base_0 steps_1 Post h) : CALL prg f_spec_EqualTuning #[.float .f32 base_0, .int .i64 steps_1] Post h :=
  fn_call tau_ok mixed (c := spec_EqualTuning.code) (Λ := lookL [(3, spec_EqualTuning.j3 Post), (1000005, spec_EqualTuning.l5 Post)]) Tryz.func16 (by kernel_rfl) (by kernel_rfl)
    (Rq.seq (by kernel_rfl) (Rq.free (by kernel_rfl)) (Rq.seqJ (spec_EqualTuning.j3 Post) (by kernel_rfl) (seg (fun _ _ => by kernel_rfl)) (Rq.free (by kernel_rfl))
(Rq.seq (by kernel_rfl) (Rq.free (by kernel_rfl)) (Rq.seq (by kernel_rfl) (Rq.seq (by kernel_rfl) (Rq.free (by kernel_rfl)) (Rq.block (Rq.loop (spec_EqualTuning.l5 Post) (by kernel_rfl) (segL (g := spec_EqualTuning.g5) tau_ok mixed (Λ := fun N5 => lookL []) (fun _ _ _ => by kernel_rfl) (fun N5 => (Rq.free (by kernel_rfl))))))) (Rq.free (by kernel_rfl))))))
    (Eq.mp (by kernel_rfl) H)

def impl_EqualTuning.B5 (Post : Value → Heap → Prop) (N5 : (Int × Addr × Addr × Int × Int) → Heap → Prop) : Int × Addr × Addr × Int × Int → Heap → Prop
  | (steps_1, t4, t_6, t19, t20), h =>
    BIF (decide (t20 < t19)) (
    oL (cell h (Addr.add t_6 2)) fun l16b l16l l16c =>
    FOP .f32 (FloatKind.f32.format.div ((FloatKind.f32.nearest ((IntKind.i64.wrap ((1200 : Int) * t20))))) (FloatKind.f32.nearest steps_1)) fun r17 =>
    ALC ⟨[.float .f32 r17]⟩ T_float32 (fun g18 h19 =>
    SEMV prg (Builtin.append_ #[T_sl_float32, T_sl_float32] T_sl_float32 #[.slice l16b l16l l16c, .slice (some ⟨g18, 0, none⟩) 1 1]) (fun q20 h21 =>
    asL q20 fun l22b l22l l22c =>
    ST1 h21 (Addr.add t_6 2) (.slice l22b l22l l22c) fun h23 =>
    N5 (steps_1, t4, t_6, t19, ((IntKind.i64.wrap (t20 + (1 : Int))))) h23) h19) h) (
    LDA 3 h t_6 fun a24 =>
    STA 3 h t4 a24 fun h25 =>
    LDA 3 h25 t4 fun a26 =>
    Post (.tuple ⟨[.agg a26, .int .i64 (0 : Int)]⟩) h25)
def impl_EqualTuning.g5 (fr : Frame) : Int × Addr × Addr × Int × Int := ((gI (lget fr 1)), (gP (lget fr 4)), (gP (lget fr 6)), (gI (lget fr 19)), (gI (lget fr 20)))
def impl_EqualTuning.l5 (Post : Value → Heap → Prop) : Frame → Heap → Prop := fun fr h => GRD (shape (kds 36 [(1, .i .i64), (4, .p), (6, .p), (19, .i .i64), (20, .i .i64)]) fr) (LOOP (impl_EqualTuning.B5 Post) (impl_EqualTuning.g5 fr) h)
def impl_EqualTuning.J3 (Post : Value → Heap → Prop) (base_0 : Nat) (steps_1 : Int) (t4 : Addr) (h : Heap) : Prop :=
    ALC ⟨Z_impl_Tuning⟩ T_impl_Tuning (fun g13 h14 =>
    STA 3 h14 ⟨g13, 0, none⟩ (⟨[.float .f32 base_0, .float .f32 1150681088, .slice none 0 0]⟩ : Array Value) fun h15 =>
    LOOP (impl_EqualTuning.B5 Post) (steps_1, t4, ⟨g13, 0, none⟩, steps_1, (0 : Int)) h15) h
def impl_EqualTuning.j3 (Post : Value → Heap → Prop) : Frame → Heap → Prop := fun fr h => GRD (shape (kds 36 [(0, .f .f32), (1, .i .i64), (4, .p)]) fr) (impl_EqualTuning.J3 Post (gF (lget fr 0)) (gI (lget fr 1)) (gP (lget fr 4)) h)
def impl_EqualTuning.S (base_0 : Nat) (steps_1 : Int) (Post : Value → Heap → Prop) (h : Heap) : Prop :=
    ALC ⟨Z_impl_Tuning⟩ T_impl_Tuning (fun g1 h2 =>
    CALL prg f_impl_isBase #[.float .f32 base_0] (fun q3 h4 =>
    asB q3 fun b5 =>
    BIF (!b5) (
    STA 3 h4 ⟨g1, 0, none⟩ (⟨[.float .f32 0, .float .f32 0, .slice none 0 0]⟩ : Array Value) fun h6 =>
    LDA 3 h6 ⟨g1, 0, none⟩ fun a7 =>
    Post (.tuple ⟨[.agg a7, .int .i64 (2 : Int)]⟩) h6) (
    CALL prg f_impl_within #[.int .i64 steps_1, .int .i64 (1 : Int), .int .i64 (31 : Int)] (fun q8 h9 =>
    asB q8 fun b10 =>
    BIF (!b10) (
    STA 3 h9 ⟨g1, 0, none⟩ (⟨[.float .f32 0, .float .f32 0, .slice none 0 0]⟩ : Array Value) fun h11 =>
    LDA 3 h11 ⟨g1, 0, none⟩ fun a12 =>
    Post (.tuple ⟨[.agg a12, .int .i64 (2 : Int)]⟩) h11) (
    impl_EqualTuning.J3 Post base_0 steps_1 ⟨g1, 0, none⟩ h9)) h4)) h2) h
noncomputable def impl_EqualTuning.code : Code := (Tryz.f20.body).getD .skip
theorem impl_EqualTuning.call {base_0 : Nat} {steps_1 : Int} {Post : Value → Heap → Prop} {h : Heap} (H : impl_EqualTuning.S base_0 steps_1 Post h) : CALL prg f_impl_EqualTuning #[.float .f32 base_0, .int .i64 steps_1] Post h :=
  fn_call tau_ok mixed (c := impl_EqualTuning.code) (Λ := lookL [(3, impl_EqualTuning.j3 Post), (1000005, impl_EqualTuning.l5 Post)]) Tryz.func20 (by kernel_rfl) (by kernel_rfl)
    (Rq.seq (by kernel_rfl) (Rq.free (by kernel_rfl)) (Rq.seqJ (impl_EqualTuning.j3 Post) (by kernel_rfl) (seg (fun _ _ => by kernel_rfl)) (Rq.free (by kernel_rfl))
(Rq.seq (by kernel_rfl) (Rq.free (by kernel_rfl)) (Rq.seq (by kernel_rfl) (Rq.seq (by kernel_rfl) (Rq.free (by kernel_rfl)) (Rq.block (Rq.loop (impl_EqualTuning.l5 Post) (by kernel_rfl) (segL (g := impl_EqualTuning.g5) tau_ok mixed (Λ := fun N5 => lookL []) (fun _ _ _ => by kernel_rfl) (fun N5 => (Rq.free (by kernel_rfl))))))) (Rq.free (by kernel_rfl))))))
    (Eq.mp (by kernel_rfl) H)

end Go.Sx
