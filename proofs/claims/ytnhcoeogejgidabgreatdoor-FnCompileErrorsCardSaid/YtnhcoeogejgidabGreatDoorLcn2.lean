/- Whole numbers, signed ones, fractions read by the program. -/
import Derived.Test.YtnhcoeogejgidabGreatDoorLcn
import Derived.Test.YtnhcoeogejgidabGreatDoorLv2
set_option linter.unusedVariables false
set_option linter.unusedSimpArgs false
namespace Go.Sx
open Go.Proofs
set_option maxRecDepth 100000
set_option maxHeartbeats 1000000

section
variable {h : Heap}
theorem readDecimal_s {s : ByteArray} (B : Libs h) (hs : s.size ≤ 1048576) : CALL prg f_impl_readDecimal #[.string s] (fun u h' => ∃ v ok, u = .tuple ⟨[.int .i64 v, .bool ok]⟩ ∧ (ok = true → 0 ≤ v → s = decB v.toNat) ∧ (∀ m : Nat, m < 9223372036854775808 → s = decB m → v = (m : Int) ∧ ok = true) ∧ Ext h h') h := by
  have dl : ∀ m : Nat, (decB m).data.toList = Lib.decDigits m := fun m => by unfold decB; simp
  refine impl_readDecimal.call ((ParseInt_c B hs).mono ?_)
  rintro _ h1 ⟨⟨v, e, rfl⟩ | ⟨v, t, x, e, rfl⟩, x1⟩
  · have bd := Lib.parseIntB_bounds e
    refine tup2 (as_i (cmp_eq_nn (br_t rfl (goX (decimal_n (by omega) (by omega) (B.tens.ext x1)) fun h2 x2 => as_s ⟨v, _, rfl, fun hk hv => ?_, fun m hm hd => ?_, x1.trans x2⟩))))
    · obtain ⟨n, rfl⟩ := Int.eq_ofNat_of_zero_le hv
      rw [Lib.itoa_nonneg] at hk
      rw [Int.toNat_natCast]
      have hk := eq_of_beq hk
      rw [toList_data, toList_data] at hk
      rw [← mkB_list s, ← hk]
      simp [decB]
    · subst hd
      rw [dl, parse_dec hm] at e
      obtain rfl : (m : Int) = v := by injection e
      refine ⟨rfl, ?_⟩
      rw [Lib.itoa_nonneg]
      simp [decB]
  · refine tup2 (as_i (cmp_eq_hn (br_f rfl ⟨v, false, rfl, (fun hk => by cases hk), fun m hm hd => ?_, x1⟩)))
    subst hd
    exact absurd (by rw [dl]; exact parse_dec hm) (e (m : Int))
/-- A number that is told so, or none. -/
def ReadV (o : Option Int) (u : Value) : Prop := match o with | some n => u = .tuple ⟨[.int .i64 n, .bool true]⟩ | none => ∃ v, u = .tuple ⟨[.int .i64 v, .bool false]⟩
theorem readWhole_c {l : List UInt8} (B : Libs h) (hs : l.length ≤ 1048576) : CALL prg f_impl_readWhole #[.string (mkB l)] (fun u h' => ReadV ((wholeL l).map fun n => (n : Int)) u ∧ Ext h h') h := by
  have hz := mk_size l
  refine impl_readWhole.call ((readDecimal_s B (by rw [mk_size]; exact hs)).mono ?_)
  rintro _ h1 ⟨v, ok, rfl, k1, k2, x1⟩
  have no : wholeL l = none → ∀ v, ReadV ((wholeL l).map fun n => (n : Int)) (.tuple ⟨[.int .i64 v, .bool false]⟩) := fun e v => by rw [e]; exact ⟨v, rfl⟩
  have dm : ∀ m : Nat, decB m = mkB (Lib.decDigits m) := fun m => rfl
  refine tup2 (as_i (as_b (br (fun hok => brd (fun hv => ?_) fun hv => ⟨no ?_ v, x1⟩) fun hok => ⟨no ?_ v, x1⟩)))
  · have e := k1 hok hv
    rw [dm] at e
    have e := mkB_inj e
    refine ⟨?_, x1⟩
    by_cases h6 : l.length ≤ 6
    · have hw : wholeL l = some v.toNat := whole_iff.2 ⟨e, h6⟩
      rw [hw, show decide (((mkB l).size : Int) ≤ 6) = true from decide_eq_true (by omega)]
      show _ = Value.tuple ⟨[.int .i64 ((v.toNat : Nat) : Int), .bool true]⟩
      rw [Int.toNat_of_nonneg hv]
    · have hw : wholeL l = none := by unfold wholeL; rw [if_pos (by omega)]
      rw [hw, show decide (((mkB l).size : Int) ≤ 6) = false from decide_eq_false (by omega)]
      exact ⟨v, rfl⟩
  · cases hw : wholeL l with
    | none => rfl
    | some m =>
      obtain ⟨e, _⟩ := whole_iff.1 hw
      have := (k2 m (by have := whole_lt hw; omega) (by rw [dm, e])).1
      omega
  · cases hw : wholeL l with
    | none => rfl
    | some m =>
      obtain ⟨e, _⟩ := whole_iff.1 hw
      have := (k2 m (by have := whole_lt hw; omega) (by rw [dm, e])).2
      rw [hok] at this; cases this
theorem CutPrefix_c (l : List UInt8) : CALL prg f_strings_CutPrefix #[.string (mkB l), .string ⟨#[45]⟩] (fun u h' => u = .tuple ⟨[.string (mkB (if l.head? = some 45 then l.tail else l)), .bool (decide (l.head? = some 45))]⟩ ∧ Ext h h') h := by
  refine CALL_of_calls L103.f103 rfl rfl fun w hw => ?_
  subst hw
  refine (Any.strings_CutPrefix L103 (mkB l) ⟨#[45]⟩ w).mono ?_
  rintro e w' ⟨rfl, rfl⟩
  refine ⟨_, rfl, Same.refl _, ?_, Ext.refl _⟩
  rw [mkB_data]
  have hp : Lib.hasPrefix l [45] = decide (l.head? = some 45) := by
    unfold Lib.hasPrefix
    cases l with
    | nil => rfl
    | cons b l =>
      by_cases hb : b = 45
      · subst hb; rfl
      · rw [decide_eq_false (show ¬ (b :: l).head? = some 45 from fun e => hb (Option.some.inj e))]
        show ((45 : UInt8) == b && ([] : List UInt8).isPrefixOf l) = false
        rw [show ((45 : UInt8) == b) = false from beq_eq_false_iff_ne.2 (Ne.symm hb)]; rfl
  have e2 : (⟨#[45]⟩ : ByteArray).data.toList = [45] := rfl
  rw [e2, hp]
  unfold Lib.trimPrefix
  rw [hp]
  by_cases h : l.head? = some 45
  · rw [decide_eq_true h, if_pos rfl, if_pos h]
    show Value.tuple ⟨[.string ⟨(l.drop 1).toArray⟩, _]⟩ = _
    rw [List.drop_one]
  · rw [decide_eq_false h, if_neg h]
    rfl
theorem readSigned_c {l : List UInt8} (B : Libs h) (hs : l.length ≤ 1048576) : CALL prg f_impl_readSigned #[.string (mkB l)] (fun u h' => ReadV (signedL l) u ∧ Ext h h') h := by
  refine impl_readSigned.call (goX (CutPrefix_c l) fun h1 x1 => tup2 (as_s (as_b ?_)))
  by_cases h45 : l.head? = some 45
  · rw [if_pos h45]
    have e : signedL l = (wholeL l.tail).map fun n => -(n : Int) := by unfold signedL; rw [if_pos h45]
    refine (readWhole_c (B.ext x1) (by rw [List.length_tail]; omega)).mono ?_
    rintro u h2 ⟨R, x2⟩
    rw [e]
    cases hw : wholeL l.tail with
    | none =>
      rw [hw] at R
      obtain ⟨v, rfl⟩ := R
      exact tup2 (as_i (as_b (br_t (decide_eq_true h45) ⟨⟨_, rfl⟩, x1.trans x2⟩)))
    | some m =>
      rw [hw] at R
      have R : u = .tuple ⟨[.int .i64 (m : Int), .bool true]⟩ := R
      subst R
      have := whole_lt hw
      refine tup2 (as_i (as_b (br_t (decide_eq_true h45) ⟨?_, x1.trans x2⟩)))
      rw [wrap64 (by omega) (by omega), Int.zero_sub]; rfl
  · rw [if_neg h45]
    have e : signedL l = (wholeL l).map fun n => (n : Int) := by unfold signedL; rw [if_neg h45]
    refine (readWhole_c (B.ext x1) hs).mono ?_
    rintro u h2 ⟨R, x2⟩
    rw [e]
    cases hw : wholeL l with
    | none =>
      rw [hw] at R
      obtain ⟨v, rfl⟩ := R
      exact tup2 (as_i (as_b (br_f (decide_eq_false h45) ⟨⟨_, rfl⟩, x1.trans x2⟩)))
    | some m =>
      rw [hw] at R
      have R : u = .tuple ⟨[.int .i64 (m : Int), .bool true]⟩ := R
      subst R
      exact tup2 (as_i (as_b (br_f (decide_eq_false h45) ⟨rfl, x1.trans x2⟩)))
theorem Cut_c {l : List UInt8} (B : Libs h) (hs : l.length ≤ 1048576) : CALL prg f_strings_Cut #[.string (mkB l), .string ⟨#[47]⟩] (fun u h' => ((∃ a t, l = a ++ 47 :: t ∧ (∀ x ∈ a, x ≠ 47) ∧ u = .tuple ⟨[.string (mkB a), .string (mkB t), .bool true]⟩) ∨ (∀ x ∈ l, x ≠ 47) ∧ u = .tuple ⟨[.string (mkB l), .string (mkB []), .bool false]⟩) ∧ Ext h h') h := by
  refine CALL_of_calls L145.f145 rfl rfl fun w hw => ?_
  subst hw
  obtain ⟨m, hm⟩ := B.mx
  refine (Any.strings_Cut { L145 with } (mkB l) ⟨#[47]⟩ m w (by rw [mk_size]; omega) hm).mono ?_
  rintro e w' ⟨rfl, n, rfl⟩
  refine ⟨_, rfl, ⟨rfl, rfl, rfl, fun e => by cases e⟩, ?_, Ext.refl _⟩
  rw [mkB_data]
  have e2 : (⟨#[47]⟩ : ByteArray).data.toList = [47] := rfl
  rw [e2]
  unfold Lib.cut
  rw [Lib.index_one]
  by_cases hi : 0 ≤ Lib.indexByte l 47
  · rw [if_pos hi]
    obtain ⟨i, hi⟩ := Int.eq_ofNat_of_zero_le hi
    obtain ⟨f1, f2⟩ := Lib.indexByte_some hi
    obtain ⟨g1, g2⟩ := split_at f1 f2
    refine .inl ⟨l.take i, l.drop (i + 1), g1, g2, ?_⟩
    rw [hi]; rfl
  · rw [if_neg hi]
    have := Lib.indexByte_ge l 47
    exact .inr ⟨no_byte (Lib.indexByte_none (by omega)), rfl⟩
theorem readFraction_c {l : List UInt8} (B : Libs h) (hs : l.length ≤ 1048576) : CALL prg f_impl_readFraction #[.string (mkB l)] (fun u h' => FracV (fracL l) u ∧ Ext h h') h := by
  refine impl_readFraction.call ((Cut_c B hs).mono ?_)
  rintro _ h1 ⟨⟨a, t, rfl, ha, rfl⟩ | ⟨ha, rfl⟩, x1⟩
  · have el : fracL (a ++ 47 :: t) = fracW (a :: cutL 47 t) := by rw [fracL_eq, cut_pre ha]
    have hla : a.length ≤ 1048576 := by rw [List.length_append, List.length_cons] at hs; omega
    have hlt : t.length ≤ 1048576 := by rw [List.length_append, List.length_cons] at hs; omega
    rw [el]
    have bad : ∀ {h' : Heap}, fracW (a :: cutL 47 t) = none → Ext h h' → (FracV (fracW (a :: cutL 47 t)) (.tuple ⟨[.float .f32 0, .bool false]⟩) ∧ Ext h h') := fun e X => by
      rw [e]; exact ⟨fracV_none rfl fw0', X⟩
    refine tup3 (as_s (as_s (as_b ((readSigned_c (B.ext x1) hla).mono ?_))))
    rintro u h2 ⟨R, x2⟩
    have X2 := x1.trans x2
    -- what the second word must be
    have w2 : cutL 47 t = [t] ∨ (wholeL t = none ∧ ∀ m, signedL a = some m → fracW (a :: cutL 47 t) = none) := by
      cases hc : cutL 47 t with
      | nil => exact absurd hc (cut_ne 47 t)
      | cons b r =>
        cases r with
        | nil => rw [(cut_sole hc).1]; exact .inl rfl
        | cons c r =>
          right
          refine ⟨?_, fun m hm => rfl⟩
          obtain ⟨t', e, _, _⟩ := cut_head hc (by simp)
          cases hw : wholeL t with
          | none => rfl
          | some m =>
            obtain ⟨e2, _⟩ := whole_iff.1 hw
            have := dec_no m (c := 47) (.inl (by decide)) 47 (by rw [← e2, e]; simp)
            exact absurd rfl this
    have ns : signedL a = none → fracW (a :: cutL 47 t) = none := fun e => by
      cases hc : cutL 47 t with
      | nil => exact absurd hc (cut_ne 47 t)
      | cons b r =>
        cases r with
        | nil => show (signedL a).bind _ = none; rw [e]; rfl
        | cons c r => rfl
    have nw : wholeL t = none → fracW (a :: cutL 47 t) = none := fun e => by
      rcases w2 with h | h
      · rw [h]
        show (signedL a).bind _ = none
        cases signedL a with
        | none => rfl
        | some m => show (wholeL t).bind _ = none; rw [e]; rfl
      · cases hsg : signedL a with
        | none => exact ns hsg
        | some m => exact h.2 m hsg
    have wh : ∀ {v1 : Int} {b1 : Bool}, CALL prg f_impl_readWhole #[.string (mkB t)] (fun u h' => ReadV ((wholeL t).map fun n => (n : Int)) u ∧ Ext h2 h') h2 := fun {v1 b1} => readWhole_c (B.ext X2) hlt
    cases hsg : signedL a with
    | none =>
      rw [hsg] at R
      obtain ⟨v, rfl⟩ := R
      refine tup2 (as_i (as_b (br_f rfl ((readWhole_c (B.ext X2) hlt).mono ?_))))
      rintro u h3 ⟨R3, x3⟩
      have X3 := X2.trans x3
      cases hw : wholeL t with
      | none =>
        rw [hw] at R3
        obtain ⟨v3, rfl⟩ := R3
        exact tup2 (as_i (as_b (br_t rfl (bad (ns hsg) X3))))
      | some d =>
        rw [hw] at R3
        have R3 : u = .tuple ⟨[.int .i64 (d : Int), .bool true]⟩ := R3
        subst R3
        exact tup2 (as_i (as_b (br_t rfl (bad (ns hsg) X3))))
    | some m =>
      rw [hsg] at R
      have R : u = .tuple ⟨[.int .i64 m, .bool true]⟩ := R
      subst R
      refine tup2 (as_i (as_b (br_f rfl ((readWhole_c (B.ext X2) hlt).mono ?_))))
      rintro u h3 ⟨R3, x3⟩
      have X3 := X2.trans x3
      cases hw : wholeL t with
      | none =>
        rw [hw] at R3
        obtain ⟨v3, rfl⟩ := R3
        exact tup2 (as_i (as_b (br_f rfl (br_t rfl (bad (nw hw) X3)))))
      | some e =>
        rw [hw] at R3
        have R3 : u = .tuple ⟨[.int .i64 (e : Int), .bool true]⟩ := R3
        subst R3
        have h1t : cutL 47 t = [t] := by
          rcases w2 with h | h
          · exact h
          · rw [h.1] at hw; cases hw
        have ef : fracW (a :: cutL 47 t) = if byOk e then some (fdiv .f32 (FloatKind.f32.nearest m) (FloatKind.f32.nearest e)) else none := by
          rw [h1t]
          show (signedL a).bind _ = _
          rw [hsg]
          show (wholeL t).bind _ = _
          rw [hw]; rfl
        have nb : byOk e = false → fracW (a :: cutL 47 t) = none := fun h => by rw [ef, h]; rfl
        refine tup2 (as_i (as_b (br_f rfl (br_f rfl (goX (within_c _ _ _ _) fun h4 x4 => as_b ?_)))))
        have X4 := X3.trans x4
        refine brN (fun hb => bad (nb ?_) X4) fun hb => ?_
        · unfold byOk
          unfold inR at hb
          have : (decide (2 ≤ e) && decide (e ≤ 1024)) = false := by
            rw [Bool.eq_false_iff] at hb ⊢
            intro h; apply hb
            simp only [Bool.and_eq_true, decide_eq_true_eq] at h ⊢
            omega
          rw [this]; rfl
        · simp only [inR, Bool.and_eq_true, decide_eq_true_eq] at hb
          rw [and_nat (by omega) (by omega)]
          refine br (fun h4 => bad (nb ?_) X4) fun h4 => ?_
          · unfold byOk
            have : (e &&& (e - 1) == 0) = false := by rw [beq_eq_false_iff_ne]; intro hz; rw [hz] at h4; simp at h4
            rw [this, Bool.and_false]
          · have hz : e &&& (e - 1) = 0 := by simpa using h4
            have hk : byOk e = true := by unfold byOk; rw [decide_eq_true (by omega), decide_eq_true (by omega), hz]; rfl
            refine fD (fw_nearest _ _) (fw_nearest _ _) fun r hr => ⟨?_, X4⟩
            rw [ef, hk]
            exact ⟨r, rfl, hr⟩
  · have el : fracL l = (signedL l).map FloatKind.f32.nearest := by rw [fracL_eq, cut_none ha]; rfl
    rw [el]
    refine tup3 (as_s (as_s (as_b ((readSigned_c (B.ext x1) hs).mono ?_))))
    rintro u h2 ⟨R, x2⟩
    cases hsg : signedL l with
    | none =>
      rw [hsg] at R
      obtain ⟨v, rfl⟩ := R
      exact tup2 (as_i (as_b (br_t rfl ⟨⟨_, rfl, fw_nearest _ _⟩, x1.trans x2⟩)))
    | some m =>
      rw [hsg] at R
      have R : u = .tuple ⟨[.int .i64 m, .bool true]⟩ := R
      subst R
      exact tup2 (as_i (as_b (br_t rfl ⟨⟨_, rfl, fw_nearest _ _⟩, x1.trans x2⟩)))
end
end Go.Sx
