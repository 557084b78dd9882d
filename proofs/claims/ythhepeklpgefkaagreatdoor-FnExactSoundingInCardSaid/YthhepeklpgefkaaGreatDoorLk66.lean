/- Numbers sorted, a few at most: the library's insertion sort. -/
import Derived.Test.YthhepeklpgefkaaGreatDoorLk35
import Derived.Test.YthhepeklpgefkaaGreatDoorLh0
import Derived.Test.YthhepeklpgefkaaGreatDoorSoundingIn
set_option linter.unusedVariables false
set_option linter.unusedSimpArgs false
namespace Go.Sx
open Go.Proofs
set_option maxRecDepth 100000
set_option maxHeartbeats 1000000

/-- Two elements changed for each other. -/
theorem swap_perm (l : List Int) {i j : Nat} (hi : i < l.length) (hj : j < l.length) (hn : i ≠ j) : ((l.set i l[j]!).set j l[i]!).Perm l := by
  rw [List.perm_iff_count]
  intro a
  rw [List.count_set (by rw [List.length_set]; exact hj), List.count_set hi, List.getElem_set_ne hn, getElem!_pos l i hi, getElem!_pos l j hj]
  have h1 : l[i] = a → 1 ≤ l.count a := fun e => List.one_le_count_iff.2 (e ▸ List.getElem_mem hi)
  by_cases e1 : l[i] = a <;> by_cases e2 : l[j] = a <;> simp [e1, e2] <;> (have := h1 e1; omega)
theorem get_set2 {l : List Int} {k i : Nat} {x : Int} (hi : i < l.length) : (l.set k x)[i]! = if k = i then x else l[i]! := by
  rw [getElem!_pos _ i (by rw [List.length_set]; exact hi), List.getElem_set, getElem!_pos l i hi]
theorem pairwise_of {ys : List Int} (h : ∀ x y, x < y → y < ys.length → ys[x]! ≤ ys[y]!) : ys.Pairwise (· ≤ ·) := by
  rw [List.pairwise_iff_getElem]
  intro i j hi hj hij
  have := h i j hij hj
  rwa [getElem!_pos ys i hi, getElem!_pos ys j hj] at this
section
variable {h0 h : Heap} {q : Addr} {F : Fr} {L : List Blk}
theorem Pt.stI0 {k : IntKind} {n m : Int} {K : Heap → Prop} (P : Pt (rI k) h0 h q F L n) (H : ∀ h', Pt (rI k) h0 h' q F L m → K h') : ST1 h q (.int k m) K := by
  have := Pt.st (B' := []) (v := .int k m) (b := m) P (Foc.here (rI k)) rfl ⟨rfl, rfl⟩ H
  rwa [add0] at this
theorem Less_c (x y : Int) : Ret prg f_cmp_Less_int64 #[.int .i64 x, .int .i64 y] (.bool (decide (x < y))) := fun h => by
  have nan : ∀ (x : Int) h, CALL prg f_cmp_isNaN_int64 #[.int .i64 x] (fun u h' => u = .bool false ∧ Ext h h') h := fun x h => cmp_isNaN_int64.call ⟨by simp, Ext.refl _⟩
  exact cmp_Less_int64.call (goX (nan x h) fun h1 x1 => as_b (br_f rfl ⟨rfl, x1⟩))
theorem insertion_c {B : List Blk} {b : Option Addr} {l c : Nat} {xs : List Int} (O : SlO T_int64 (rI .i64) B b l c xs) (M : Mem h0 h (B ++ L)) (hl : l ≤ 1000) :
    CALL prg f_slices_insertionSortOrdered_int64 #[.slice b l c, .int .i64 0, .int .i64 (l : Int)] (fun u h' => u = .tuple ⟨[]⟩ ∧ ∃ B' ys, SlO T_int64 (rI .i64) B' b l c ys ∧ Mem h0 h' (B' ++ L) ∧ ys.Perm xs ∧ ys.Pairwise (· ≤ ·)) h := by
  refine slices_insertionSortOrdered_int64.call ?_
  refine loop (fun x hh => ∃ (i : Nat) (B : List Blk) (ys : List Int), x = (b, l, c, 0, (l : Int), (i : Int)) ∧ 1 ≤ i ∧ (i ≤ l ∨ i = 1) ∧ SlO T_int64 (rI .i64) B b l c ys ∧ Mem h0 hh (B ++ L) ∧ ys.Perm xs ∧ ∀ x y, x < y → y < i → y < l → ys[x]! ≤ ys[y]!) (fun x => ((l : Int) - x.2.2.2.2.2).toNat)
    ⟨1, B, xs, by rw [wrap64 (by omega) (by omega)]; rfl, by omega, .inr rfl, O, M, List.Perm.refl _, fun x y h1 h2 _ => by omega⟩ ?_
  rintro x hh ⟨i, B, ys, rfl, h1, hi, O, M, hp, hs⟩
  refine brd (fun hc => ?_) fun hc => ⟨rfl, B, ys, O, M, hp, pairwise_of fun x y k1 k2 => hs x y k1 (by have := O.len; omega) (by have := O.len; omega)⟩
  refine loop (fun x hh => ∃ (j : Nat) (B : List Blk) (ys : List Int), x = (b, l, c, 0, (l : Int), (i : Int), (j : Int)) ∧ j ≤ i ∧ SlO T_int64 (rI .i64) B b l c ys ∧ Mem h0 hh (B ++ L) ∧ ys.Perm xs ∧ ∀ x y, x < y → y ≤ i → y ≠ j → ys[x]! ≤ ys[y]!) (fun x => x.2.2.2.2.2.2.toNat)
    ⟨i, B, ys, rfl, by omega, O, M, hp, fun x y k1 k2 k3 => hs x y k1 (by omega) (by omega)⟩ ?_
  clear hs hp O M ys B
  rintro x hh ⟨j, B, ys, rfl, hj, O, M, hp, hs⟩
  have hyl := O.len
  have out : ∀ {h' : Heap}, Ext hh h' → (∀ x y, x < y → y ≤ i → ys[x]! ≤ ys[y]!) → ((∃ (i' : Nat) (B : List Blk) (ys : List Int), (b, l, c, (0 : Int), (l : Int), IntKind.i64.wrap ((i : Int) + 1)) = (b, l, c, 0, (l : Int), (i' : Int)) ∧ 1 ≤ i' ∧ (i' ≤ l ∨ i' = 1) ∧ SlO T_int64 (rI .i64) B b l c ys ∧ Mem h0 h' (B ++ L) ∧ ys.Perm xs ∧ ∀ x y, x < y → y < i' → y < l → ys[x]! ≤ ys[y]!) ∧ ((l : Int) - IntKind.i64.wrap ((i : Int) + 1)).toNat < ((l : Int) - i).toNat) := fun X k =>
    ⟨⟨i + 1, B, ys, by rw [wrap64_succ (by omega)], by omega, by omega, O, M.grow X, hp, fun x y k1 k2 _ => k x y k1 (by omega)⟩, by rw [wrap64_succ (by omega)]; omega⟩
  unfold slices_insertionSortOrdered_int64.B4
  refine brd (fun hc2 => ?_) fun hc2 => out (Ext.refl _) fun x y k1 k2 => hs x y k1 k2 (by omega)
  obtain ⟨j, rfl⟩ : ∃ k, j = k + 1 := ⟨j - 1, by omega⟩
  have ej : IntKind.i64.wrap (((j + 1 : Nat) : Int) - 1) = (j : Int) := by rw [wrap64 (by omega) (by omega)]; omega
  rw [ej]
  have S := O.look M (List.sublist_append_left _ _)
  refine S.idn (by decide) (by omega) fun a Ra => Ra.oI1 (S.idn (by decide) (by omega) fun a' Rb => Rb.oI1 (goX (Less_c _ _ _) fun h6 x6 => as_b (brd (fun k => ?_) fun k => out x6 ?_)))
  · have M := M.grow x6
    have S := O.look M (List.sublist_append_left _ _)
    unfold slices_insertionSortOrdered_int64.J6
    rw [ej]
    refine S.idn (by decide) (by omega) fun a Ra => Ra.oI1 (S.idn (by decide) (by omega) fun a' Rb => Rb.oI1 ?_)
    obtain ⟨a0, F', L', rfl, P1, _, close⟩ := O.elem M (i := j + 1) (by omega)
    refine idxs (by omega) (by omega) (P1.stI0 (m := ys[j]!) fun h7 P1 => ?_)
    obtain ⟨B2, O2, M2⟩ := close _ _ _ P1
    obtain ⟨a1, F2, L2, e1, P2, _, close2⟩ := O2.elem M2 (i := j) (by omega)
    cases e1
    refine idxs (by omega) (by omega) (P2.stI0 (m := ys[j + 1]!) fun h8 P2 => ?_)
    obtain ⟨B3, O3, M3⟩ := close2 _ _ _ P2
    have k : ys[j + 1]! < ys[j]! := k
    refine ⟨⟨j, B3, _, rfl, by omega, O3, M3, (swap_perm ys (by omega) (by omega) (by omega)).trans hp, fun x y k1 k2 k3 => ?_⟩, by show ((j : Nat) : Int).toNat < ((j + 1 : Nat) : Int).toNat; omega⟩
    rw [get_set2 (by rw [List.length_set]; omega), get_set2 (by omega), get_set2 (by rw [List.length_set]; omega), get_set2 (by omega)]
    by_cases c1 : j = x
    · subst c1
      rw [if_pos rfl, if_neg (by omega)]
      by_cases c2 : j + 1 = y
      · rw [if_pos c2]; omega
      · rw [if_neg c2]
        exact hs (j + 1) y (by omega) k2 (by omega)
    · rw [if_neg c1, if_neg (show ¬ j = y by omega)]
      by_cases c2 : j + 1 = x
      · subst c2
        rw [if_pos rfl, if_neg (by omega)]
        exact hs j y (by omega) k2 (by omega)
      · rw [if_neg c2]
        by_cases c3 : j + 1 = y
        · subst c3
          rw [if_pos rfl]
          exact hs x j (by omega) (by omega) (by omega)
        · rw [if_neg c3]
          exact hs x y k1 k2 (by omega)
  · intro x y k1 k2
    have k : ¬ ys[j + 1]! < ys[j]! := k
    by_cases c1 : y = j + 1
    · subst c1
      by_cases c2 : x = j
      · subst c2; omega
      · have := hs x j (by omega) (by omega) (by omega); omega
    · exact hs x y k1 k2 c1
theorem wrap8' (n : Int) : IntKind.u8.wrap n = n % 256 := by
  simp only [IntKind.wrap, IntKind.signed, IntKind.bits, Bool.false_and, Bool.false_eq_true, if_false]
  rfl
theorem u64_wrap' {n : Int} (h1 : 0 ≤ n) (h2 : n < 18446744073709551616) : IntKind.u64.wrap n = n := by
  simp only [IntKind.wrap, IntKind.signed, Bool.false_and, Bool.false_eq_true, if_false]
  rw [show (2 : Int) ^ IntKind.u64.bits = 18446744073709551616 by decide]
  omega
theorem Len_c {l : Nat} (hl : l ≤ 12) : CALL prg f_math_bits_Len #[.int .u64 (IntKind.u64.wrap (l : Int))] (fun u h' => (∃ n, u = .int .i64 n) ∧ Ext h h') h := by
  have e : IntKind.u64.wrap (l : Int) = (l : Int) := u64_wrap' (by omega) (by omega)
  rw [e]
  refine math_bits_Len.call ?_
  have c64 : CALL prg f_math_bits_Len64 #[.int .u64 (l : Int)] (fun u h' => (∃ n, u = .int .i64 n) ∧ Ext h h') h := by
    refine math_bits_Len64.call (brd (fun k => by omega) fun _ => ?_)
    unfold math_bits_Len64.J4
    refine brd (fun k => by omega) fun _ => ?_
    unfold math_bits_Len64.J7
    refine brd (fun k => by omega) fun _ => ?_
    unfold math_bits_Len64.J10
    have e8 : IntKind.u8.wrap (l : Int) = (l : Int) := by rw [wrap8']; omega
    rw [e8]
    exact idx (by omega) (by show (l : Int) < ((256 : Nat) : Int); omega) ⟨⟨_, rfl⟩, Ext.refl _⟩
  refine c64.mono ?_
  rintro _ h1 ⟨⟨n, rfl⟩, x1⟩
  exact as_i ⟨⟨n, rfl⟩, x1⟩
theorem Sort_c {B : List Blk} {b : Option Addr} {l c : Nat} {xs : List Int} (O : SlO T_int64 (rI .i64) B b l c xs) (M : Mem h0 h (B ++ L)) (hl : l ≤ 12) :
    CALL prg f_slices_Sort_sl_int64_int64 #[.slice b l c] (fun u h' => u = .tuple ⟨[]⟩ ∧ ∃ B' ys, SlO T_int64 (rI .i64) B' b l c ys ∧ Mem h0 h' (B' ++ L) ∧ ys.Perm xs ∧ ys.Pairwise (· ≤ ·)) h := by
  refine slices_Sort_sl_int64_int64.call ((Len_c hl).mono ?_)
  rintro _ h1 ⟨⟨n, rfl⟩, x1⟩
  refine as_i ?_
  have pd : CALL prg f_slices_pdqsortOrdered_int64 #[.slice b l c, .int .i64 (0 : Int), .int .i64 (l : Int), .int .i64 n] (fun u h' => u = .tuple ⟨[]⟩ ∧ ∃ B' ys, SlO T_int64 (rI .i64) B' b l c ys ∧ Mem h0 h' (B' ++ L) ∧ ys.Perm xs ∧ ys.Pairwise (· ≤ ·)) h1 := by
    refine slices_pdqsortOrdered_int64.call (loop (fun x hh => x = (b, l, c, 0, (l : Int), n, true, true) ∧ hh = h1) (fun _ => 0) ⟨rfl, rfl⟩ ?_)
    rintro x hh ⟨rfl, rfl⟩
    refine brd (fun _ => (insertion_c O (M.grow x1) (by omega)).mono ?_) fun k => ?_
    · rintro _ h2 ⟨rfl, r⟩
      exact ⟨rfl, r⟩
    · rw [wrap64 (by omega) (by omega)] at k; omega
  refine pd.mono ?_
  rintro _ h2 ⟨rfl, r⟩
  exact ⟨rfl, r⟩
end
end Go.Sx
