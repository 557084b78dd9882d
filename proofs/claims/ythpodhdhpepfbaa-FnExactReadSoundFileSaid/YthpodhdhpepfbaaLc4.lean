/- What the laws' own helpers compute: floats compared up to NaNs, bytes compared, slices marked and looked at. -/
import Derived.Test.YthpodhdhpepfbaaLc3
namespace Go.Sx
open Go.Proofs
set_option linter.unusedVariables false
set_option linter.unusedSimpArgs false

theorem isF_gtz {o : Option Nat} {r1 r2 : Nat} (h1 : IsF .f64 o r1) (h2 : IsF .f64 o r2) : (FloatKind.f64.format.order r1 0 == some .gt) = (FloatKind.f64.format.order r2 0 == some .gt) := by
  cases o with
  | some v => rw [show r1 = v from h1, show r2 = v from h2]
  | none => rw [order_nan_left (nan_of_isNaNW (k := .f64) h1), order_nan_left (nan_of_isNaNW (k := .f64) h2)]
theorem sameFloat_c {a b : Nat} (hab : cn .f64 a = cn .f64 b) : Ret prg f_laws_sameFloat #[.float .f64 a, .float .f64 b] (.bool true) := fun h => by
  obtain ⟨hn, he⟩ := canon_eq_iff hab
  refine laws_sameFloat.call ?_
  unfold laws_sameFloat.S
  simp only [ne_self]
  cases hna : nan .f64 a with
  | true => exact br_t rfl (br_t rfl ⟨by rw [← hn, hna], Ext.refl _⟩)
  | false =>
    obtain rfl := he hna
    refine br_f rfl (br_f hna ?_)
    unfold laws_sameFloat.J3
    have hoo : FloatKind.f64.format.order a a = some .eq := by rw [order_self, hna]; rfl
    refine br (fun hz => ?_) fun hz => ?_
    · unfold laws_sameFloat.J4
      rw [hz]
      exact br_t rfl fun r1 h1 r2 h2 => ⟨by rw [isF_gtz h1 h2]; simp, Ext.refl _⟩
    · unfold laws_sameFloat.J4
      exact br_f rfl ⟨by rw [hoo]; rfl, Ext.refl _⟩
theorem eqFloat32S_c {h : Heap} {b1 b2 : Option Addr} {l1 c1 l2 c2 : Nat} {xs ys : List Nat} (C1 : Cells h b1 (fv .f32 xs)) (C2 : Cells h b2 (fv .f32 ys)) (hl1 : xs.length = l1) (hl2 : ys.length = l2) (he : xs.map (cn .f32) = ys.map (cn .f32)) (hm : l1 ≤ 1073741824) :
    CALL prg f_laws_eqFloat32S #[.slice b1 l1 c1, .slice b2 l2 c2] (fun u h' => u = .bool true ∧ Ext h h') h := by
  have hlen : xs.length = ys.length := by simpa using congrArg List.length he
  subst hl1; subst hl2
  refine laws_eqFloat32S.call ?_
  refine br_f (by rw [hlen]; simp) ?_
  refine loop (fun x hh => ∃ n : Nat, x = (b1, xs.length, c1, b2, ys.length, c2, (n : Int)) ∧ n ≤ xs.length ∧ Ext h hh) (fun x => (xs.length - x.2.2.2.2.2.2).toNat) ⟨0, rfl, by omega, Ext.refl _⟩ ?_
  rintro x hh ⟨n, rfl, hn, X⟩
  refine brd (fun hc => ?_) fun hc => ⟨rfl, X⟩
  obtain ⟨a1, rfl⟩ := C1.base (by rw [fv_len]; omega)
  obtain ⟨a2, rfl⟩ := C2.base (by rw [fv_len]; omega)
  have hx := (C1.ext X).get (i := n) (fv_get (by omega))
  have hy := (C2.ext X).get (i := n) (fv_get (by omega))
  have hxy : cn .f32 (xs[n]'(by omega)) = cn .f32 (ys[n]'(by omega)) := by
    have := congrArg (fun l => l[n]?) he
    simpa [show n < xs.length by omega, show n < ys.length by omega] using this
  refine idxs (by omega) (by omega) ?_
  simp only [Int.toNat_natCast, Nat.mul_one]
  refine o_f hx (idxs (by omega) (by omega) (o_f hy ?_))
  have fin : ∀ {h'}, Ext hh h' → (∃ n_1 : Nat, ((some a1, xs.length, c1, some a2, ys.length, c2, IntKind.i64.wrap ((n : Int) + 1)) : Option Addr × Nat × Nat × Option Addr × Nat × Nat × Int) = (some a1, xs.length, c1, some a2, ys.length, c2, (n_1 : Int)) ∧ n_1 ≤ xs.length ∧ Ext h h') ∧ ((xs.length : Int) - IntKind.i64.wrap ((n : Int) + 1)).toNat < ((xs.length : Int) - (n : Int)).toNat := by
    intro h' x'
    rw [wrap64_succ (by omega)]
    exact ⟨⟨n + 1, rfl, by omega, X.trans x'⟩, by omega⟩
  refine ⟨fun r1 h1 => pin1 (Ext.refl _) hy fun r2 h2 => pin1 (Ext.refl _) hx ?_, fun r1 h1 => pin1 (Ext.refl _) hx fun r2 h2 => pin1 (Ext.refl _) hy ?_⟩
  · exact (sameFloat_c (by rw [isFF_wide h1, isFF_wide h2, hxy])).go fun h' x' => as_b (br_f rfl (fin x'))
  · exact (sameFloat_c (by rw [isFF_wide h1, isFF_wide h2, hxy])).go fun h' x' => as_b (br_f rfl (fin x'))
theorem eqByteS_c {h : Heap} {b1 b2 : Option Addr} {l1 c1 l2 c2 : Nat} {xs : List Int} (C1 : Cells h b1 (iv .u8 xs)) (C2 : Cells h b2 (iv .u8 xs)) (hl1 : xs.length = l1) (hl2 : xs.length = l2) (hm : l1 ≤ 1073741824) :
    CALL prg f_laws_eqByteS #[.slice b1 l1 c1, .slice b2 l2 c2] (fun u h' => u = .bool true ∧ Ext h h') h := by
  subst hl1; subst hl2
  refine laws_eqByteS.call ?_
  refine br_f (by simp) ?_
  refine loop (fun x hh => ∃ n : Nat, x = (b1, xs.length, c1, b2, xs.length, c2, (n : Int)) ∧ n ≤ xs.length ∧ hh = h) (fun x => (xs.length - x.2.2.2.2.2.2).toNat) ⟨0, rfl, by omega, rfl⟩ ?_
  rintro x hh ⟨n, rfl, hn, rfl⟩
  refine brd (fun hc => ?_) fun hc => ⟨rfl, Ext.refl _⟩
  obtain ⟨a1, rfl⟩ := C1.base (by rw [iv_len]; omega)
  obtain ⟨a2, rfl⟩ := C2.base (by rw [iv_len]; omega)
  refine idxs (by omega) (by omega) ?_
  rw [Int.toNat_natCast, Nat.mul_one]
  refine o_i (C1.get (iv_get (by omega))) (idxs (by omega) (by omega) ?_)
  refine o_i (C2.get (iv_get (by omega))) (br_f (by simp) ?_)
  exact ⟨⟨n + 1, by rw [wrap64_succ (by omega)], by omega, rfl⟩, by rw [wrap64_succ (by omega)]; show ((xs.length : Int) - ((n + 1 : Nat) : Int)).toNat < ((xs.length : Int) - (n : Int)).toNat; omega⟩
theorem markByteS_c {h0 h : Heap} {B L : List Blk} {b : Option Addr} {l c k : Nat} {vs : List Value} (O : Own B T_uint8 1 b l c vs) (M : Mem h0 h (B ++ L)) (hm : l ≤ 1073741824) (hk : k ≤ 1073741824) :
    CALL prg f_laws_markByteS #[.slice b l c, .int .i64 (k : Int)] (fun u h' => u = .int .i64 ((k + l : Nat) : Int) ∧ ∃ B' vs', Own B' T_uint8 1 b l c vs' ∧ Mem h0 h' (B' ++ L)) h := by
  refine laws_markByteS.call ?_
  refine loop (fun x hh => ∃ (n : Nat) (B' : List Blk) (vs' : List Value), x = (b, l, c, ((k + n : Nat) : Int), (n : Int)) ∧ n ≤ l ∧ Own B' T_uint8 1 b l c vs' ∧ Mem h0 hh (B' ++ L)) (fun x => (l - x.2.2.2.2).toNat) ⟨0, B, vs, rfl, by omega, O, M⟩ ?_
  rintro x hh ⟨n, B', vs', rfl, hn, O, M⟩
  refine brd (fun hc => ?_) fun hc => ?_
  · obtain ⟨g, rfl⟩ := O.base (by omega)
    refine idxs (by omega) (by omega) ?_
    rw [Int.toNat_natCast, Nat.mul_one, add_none, Nat.zero_add]
    refine O.st1 M (by omega) fun B'' h' O' M' => ?_
    rw [wrap64_succ (by omega), wrap64_succ (by omega)]
    exact ⟨⟨n + 1, B'', _, rfl, by omega, O', M'⟩, by show ((l : Int) - ((n + 1 : Nat) : Int)).toNat < ((l : Int) - (n : Int)).toNat; omega⟩
  · obtain rfl : n = l := by omega
    exact ⟨rfl, B', vs', O, M⟩
/-- The marks that a law leaves in a slice of floats. -/
def marks (k l : Nat) : List Nat := (List.range l).map fun i => FloatKind.f32.nearest ((k + i : Nat) : Int)
theorem marks_get {k l i : Nat} (h : i < l) : (fv .f32 (marks k l))[i]? = some (.float .f32 (FloatKind.f32.nearest ((k + i : Nat) : Int))) := by simp [fv, marks, h]
theorem markFloat32S_c {h0 h : Heap} {B L : List Blk} {b : Option Addr} {l c k : Nat} {vs : List Value} (O : Own B T_float32 1 b l c vs) (M : Mem h0 h (B ++ L)) (hm : l ≤ 1073741824) (hk : k ≤ 1073741824) :
    CALL prg f_laws_markFloat32S #[.slice b l c, .int .i64 (k : Int)] (fun u h' => u = .int .i64 ((k + l : Nat) : Int) ∧ ∃ B', Own B' T_float32 1 b l c (fv .f32 (marks k l)) ∧ Mem h0 h' (B' ++ L)) h := by
  refine laws_markFloat32S.call ?_
  refine loop (fun x hh => ∃ (n : Nat) (B' : List Blk) (vs' : List Value), x = (b, l, c, ((k + n : Nat) : Int), (n : Int)) ∧ n ≤ l ∧ Own B' T_float32 1 b l c vs' ∧ Mem h0 hh (B' ++ L) ∧ ∀ i, i < n → vs'[i]? = (fv .f32 (marks k l))[i]?) (fun x => (l - x.2.2.2.2).toNat) ⟨0, B, vs, rfl, by omega, O, M, fun i hi => by omega⟩ ?_
  rintro x hh ⟨n, B', vs', rfl, hn, O, M, hv⟩
  refine brd (fun hc => ?_) fun hc => ?_
  · obtain ⟨g, rfl⟩ := O.base (by omega)
    refine idxs (by omega) (by omega) ?_
    rw [Int.toNat_natCast, Nat.mul_one, add_none, Nat.zero_add]
    refine O.st1 M (by omega) fun B'' h' O' M' => ?_
    rw [wrap64_succ (by omega), wrap64_succ (by omega)]
    refine ⟨⟨n + 1, B'', _, rfl, by omega, O', M', fun i hi => ?_⟩, by show ((l : Int) - ((n + 1 : Nat) : Int)).toNat < ((l : Int) - (n : Int)).toNat; omega⟩
    have := O.len1
    by_cases e : n = i
    · subst e
      rw [List.getElem?_set_self (by omega), marks_get (by omega)]
    · rw [List.getElem?_set_ne e]; exact hv i (by omega)
  · obtain rfl : n = l := by omega
    have : vs' = fv .f32 (marks k n) := by
      apply List.ext_getElem?
      intro i
      by_cases hi : i < n
      · exact hv i hi
      · rw [List.getElem?_eq_none (by rw [O.len1]; omega), List.getElem?_eq_none (by simp [fv, marks]; omega)]
    subst this
    exact ⟨rfl, B', O, M⟩
theorem heldFloat32S_c {h : Heap} {b : Option Addr} {l c k : Nat} (C : Cells h b (fv .f32 (marks k l))) (hm : l ≤ 1073741824) (hk : k ≤ 1073741824) :
    CALL prg f_laws_heldFloat32S #[.slice b l c, .int .i64 (k : Int)] (fun u h' => u = .int .i64 ((k + l : Nat) : Int) ∧ Ext h h') h := by
  refine laws_heldFloat32S.call ?_
  refine loop (fun x hh => ∃ n : Nat, x = (b, l, c, ((k + n : Nat) : Int), (n : Int)) ∧ n ≤ l ∧ hh = h) (fun x => (l - x.2.2.2.2).toNat) ⟨0, rfl, by omega, rfl⟩ ?_
  rintro x hh ⟨n, rfl, hn, rfl⟩
  refine brd (fun hc => ?_) fun hc => ?_
  · obtain ⟨a, rfl⟩ := C.base (by simp [fv, marks]; omega)
    refine idxs (by omega) (by omega) ?_
    rw [Int.toNat_natCast, Nat.mul_one]
    refine o_f (C.get (marks_get (by omega))) (br_f (order_eq (nearest_not_nan _ _)) ?_)
    rw [wrap64_succ (by omega), wrap64_succ (by omega)]
    exact ⟨⟨n + 1, rfl, by omega, rfl⟩, by show ((l : Int) - ((n + 1 : Nat) : Int)).toNat < ((l : Int) - (n : Int)).toNat; omega⟩
  · obtain rfl : n = l := by omega
    exact ⟨rfl, Ext.refl _⟩
end Go.Sx
