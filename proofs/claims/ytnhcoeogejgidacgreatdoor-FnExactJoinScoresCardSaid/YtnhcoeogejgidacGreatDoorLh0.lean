/- The laws' helpers over floats: what they compute. -/
import Derived.Test.YtnhcoeogejgidacGreatDoorLk24
import Derived.Test.YtnhcoeogejgidacGreatDoorH1
import Derived.Test.YtnhcoeogejgidacGreatDoorTab
import Derived.Test.YtnhcoeogejgidacGreatDoorLm14
set_option linter.unusedVariables false
set_option linter.unusedSimpArgs false
namespace Go.Sx
open Go.Proofs
set_option maxRecDepth 100000

def w_Float32S (xs : List Nat) : Nat := xs.length
def subW (left w : Nat) : Int := if left < w then -1 else ((left - w : Nat) : Int)
theorem sz_bif {left w : Nat} {p q : Prop} (ht : left < w → p) (hf : w ≤ left → q) : BIF (decide (subW left w < 0)) p q := by
  refine brd (fun h => ht ?_) fun h => hf ?_
  · unfold subW at h; split at h <;> omega
  · unfold subW at h; split at h <;> omega
theorem subW_neg {left w : Nat} (h : left < w) : subW left w = -1 := by unfold subW; rw [if_pos h]
theorem subW_pos {left w : Nat} (h : w ≤ left) : subW left w = ((left - w : Nat) : Int) := by unfold subW; rw [if_neg (by omega)]
theorem isF_gtz {o : Option Nat} {r1 r2 : Nat} (h1 : IsF .f64 o r1) (h2 : IsF .f64 o r2) : (FloatKind.f64.format.order r1 0 == some .gt) = (FloatKind.f64.format.order r2 0 == some .gt) := by
  cases o with
  | some v => rw [show r1 = v from h1, show r2 = v from h2]
  | none => rw [order_nan_left (nan_of_isNaNW (k := .f64) h1), order_nan_left (nan_of_isNaNW (k := .f64) h2)]
theorem sameFloat_c {a b : Nat} (hab : cn .f64 a = cn .f64 b) : Ret prg f_laws_sameFloat #[.float .f64 a, .float .f64 b] (.bool true) := fun h => by
  obtain ⟨hn, he⟩ := canon_eq_iff hab
  refine laws_sameFloat.call ?_
  unfold laws_sameFloat.S
  simp only [ne_self]
  cases hna : nan .f64 a with
  | true => exact br_t rfl (br_t rfl ⟨by rw [← hn, hna], Ext.refl _⟩)
  | false =>
    obtain rfl := he hna
    refine br_f rfl (br_f hna ?_)
    unfold laws_sameFloat.J3
    have hoo : FloatKind.f64.format.order a a = some .eq := by rw [order_self, hna]; rfl
    refine br (fun hz => ?_) fun hz => ?_
    · unfold laws_sameFloat.J4
      rw [hz]
      exact br_t rfl fun r1 h1 r2 h2 => ⟨by rw [isF_gtz h1 h2]; simp, Ext.refl _⟩
    · unfold laws_sameFloat.J4
      exact br_f rfl ⟨by rw [hoo]; rfl, Ext.refl _⟩
theorem sameW_c {a b c : Nat} (ha : FW .f64 a (wid c)) (hb : FW .f64 b (wid c)) : Ret prg f_laws_sameFloat #[.float .f64 a, .float .f64 b] (.bool true) := sameFloat_c (by rw [ha.1, hb.1])
section
variable {h : Heap}
theorem sz_Float32S_c {b : Option Addr} {l c : Nat} {xs : List Nat} (S : SlR (rF .f32) h b l c xs) (left : Nat) (hl : left ≤ 1048576) : CALL prg f_laws_szFloat32S #[.slice b l c, .int .i64 (left : Int)] (fun u h' => u = .int .i64 (subW left (w_Float32S xs)) ∧ Ext h h') h := by
  have h1 : w_Float32S xs = l := S.len
  have h2 := S.2.1
  have h3 := S.2.2.1
  have := maxLen_lt
  refine laws_szFloat32S.call ?_
  unfold laws_szFloat32S.S
  rw [wrap64 (n := (left : Int) - (l : Int)) (by omega) (by omega), h1]
  refine brd (fun hc => ⟨by rw [subW_neg (by omega)], Ext.refl _⟩) fun hc => ⟨by rw [subW_pos (by omega)]; congr 1; omega, Ext.refl _⟩
theorem to_Float32S_c {b : Option Addr} {l c : Nat} {xs : List Nat} (S : SlR (rF .f32) h b l c xs) (hl0 : w_Float32S xs ≤ 1048576) : CALL prg f_laws_toFloat32S #[.slice b l c] (fun u h' => ∃ b' c' B, u = .slice b' l c' ∧ SlO T_float32 (rF .f32) B b' l c' xs ∧ Mem h h' B) h := by
  have hxl := S.len
  have hl : l ≤ 1048576 := by unfold w_Float32S at hl0; omega
  refine laws_toFloat32S.call (make_floats (Mem.start h) hl fun g h1 x1 M0 O0 => ?_)
  refine loop (fun x hh => ∃ (n : Nat) (B : List Blk), x = (b, l, c, some ⟨g, 0, none⟩, l, l, (n : Int)) ∧ n ≤ l ∧ SlO T_float32 (rF .f32) B (some ⟨g, 0, none⟩) l l (xs.take n ++ List.replicate (l - n) 0) ∧ Mem h hh (B ++ [])) (fun x => (l - x.2.2.2.2.2.2).toNat) ⟨0, _, rfl, by omega, O0, M0⟩ ?_
  rintro x hh ⟨n, B, rfl, hn, O, M⟩
  refine brd (fun hc => ?_) fun hc => ?_
  · refine (S.ext M.ext).idx (by decide) (by omega) (by omega) fun a Ra => Ra.oF1 fun y hy => ?_
    obtain ⟨a0, F', L', e, P, hs, close⟩ := O.elem M (i := n) (by omega)
    cases e
    refine idxs (by omega) (by omega) (P.stF1 hy fun h' P' => ?_)
    obtain ⟨B', O', M'⟩ := close _ _ _ P'
    rw [wrap64_succ (by omega)]
    refine ⟨⟨n + 1, B', rfl, by omega, ?_, M'⟩, by show _ < _; simp; omega⟩
    have e : (xs.take n ++ List.replicate (l - n) 0).set n xs[n]! = xs.take (n + 1) ++ List.replicate (l - (n + 1)) 0 := by rw [getElem!_pos xs n (by omega)]; exact copy_step hxl (by omega)
    rw [Int.toNat_natCast, e] at O'
    exact O'
  · obtain rfl : n = l := by omega
    rw [show xs.take n ++ List.replicate (n - n) 0 = xs by rw [← hxl]; simp] at O
    rw [List.append_nil] at M
    exact ⟨_, _, B, rfl, O, M⟩
theorem eq_Float32S_c {b1 b2 : Option Addr} {l1 c1 l2 c2 : Nat} {xs : List Nat} (S1 : SlR (rF .f32) h b1 l1 c1 xs) (S2 : SlR (rF .f32) h b2 l2 c2 xs) : CALL prg f_laws_eqFloat32S #[.slice b1 l1 c1, .slice b2 l2 c2] (fun u h' => u = .bool true ∧ Ext h h') h := by
  have e1 := S1.len
  have e2 := S2.len
  have h2 := S1.2.1
  have h3 := S1.2.2.1
  have := maxLen_lt
  obtain rfl : l1 = l2 := by omega
  refine laws_eqFloat32S.call (br_f (by simp) ?_)
  refine loop (fun x hh => ∃ n : Nat, x = (b1, l1, c1, b2, l1, c2, (n : Int)) ∧ n ≤ l1 ∧ Ext h hh) (fun x => (l1 - x.2.2.2.2.2.2).toNat) ⟨0, rfl, by omega, Ext.refl _⟩ ?_
  rintro x hh ⟨n, rfl, hn, X⟩
  refine brd (fun hc => ?_) fun hc => ⟨rfl, X⟩
  refine (S1.ext X).idx (by decide) (by omega) (by omega) fun a Ra => Ra.oF1 fun y hy => (S2.ext X).idx (by decide) (by omega) (by omega) fun a' Rb => Rb.oF1 fun z hz => ?_
  have fin : ∀ {h'}, Ext hh h' → (∃ n_1 : Nat, ((b1, l1, c1, b2, l1, c2, IntKind.i64.wrap ((n : Int) + 1)) : Option Addr × Nat × Nat × Option Addr × Nat × Nat × Int) = (b1, l1, c1, b2, l1, c2, (n_1 : Int)) ∧ n_1 ≤ l1 ∧ Ext h h') ∧ ((l1 : Int) - IntKind.i64.wrap ((n : Int) + 1)).toNat < ((l1 : Int) - (n : Int)).toNat := by
    intro h' x'
    rw [wrap64_succ (by omega)]
    exact ⟨⟨n + 1, rfl, by omega, X.trans x'⟩, by omega⟩
  exact ⟨ffc_wide hy fun r1 k1 => pin_same (ffc_wide hz fun r2 k2 => pin_same (goX (sameW_c k1 k2 _) fun h' x' => as_b (br_f rfl (fin x')))),
    ffc_wide hz fun r1 k1 => pin_same (ffc_wide hy fun r2 k2 => pin_same (goX (sameW_c k2 k1 _) fun h' x' => as_b (br_f rfl (fin x'))))⟩
def mk_Float32S (xs : List Nat) (k : Nat) : List Nat := (List.range xs.length).map fun i => FloatKind.f32.nearest ((k + i : Nat) : Int)
def n_Float32S (xs : List Nat) : Nat := xs.length
theorem mkF_get {xs : List Nat} {k i : Nat} (hi : i < xs.length) : (mk_Float32S xs k)[i]! = FloatKind.f32.nearest ((k + i : Nat) : Int) := by
  rw [getElem!_pos _ i (by simpa [mk_Float32S] using hi)]
  simp [mk_Float32S]
theorem mark_Float32S_c {h0 : Heap} {B L : List Blk} {b : Option Addr} {l c : Nat} {xs : List Nat} (O : SlO T_float32 (rF .f32) B b l c xs) (M : Mem h0 h (B ++ L)) (k : Nat) (hl : w_Float32S xs ≤ 1048576) (hk : k + n_Float32S xs ≤ 1073741824) :
    CALL prg f_laws_markFloat32S #[.slice b l c, .int .i64 (k : Int)] (fun u h' => u = .int .i64 ((k + n_Float32S xs : Nat) : Int) ∧ ∃ B', SlO T_float32 (rF .f32) B' b l c (mk_Float32S xs k) ∧ Mem h0 h' (B' ++ L)) h := by
  have h1 := O.len
  unfold w_Float32S at hl
  unfold n_Float32S at hk
  refine laws_markFloat32S.call ?_
  refine loop (fun x hh => ∃ (n : Nat) (B : List Blk) (ys : List Nat), x = (b, l, c, ((k + n : Nat) : Int), (n : Int)) ∧ n ≤ l ∧ SlO T_float32 (rF .f32) B b l c ys ∧ Mem h0 hh (B ++ L) ∧ ∀ i, i < n → ys[i]! = FloatKind.f32.nearest ((k + i : Nat) : Int)) (fun x => (l - x.2.2.2.2).toNat) ⟨0, B, xs, rfl, by omega, O, M, fun i hi => by omega⟩ ?_
  rintro x hh ⟨n, B, ys, rfl, hn, O, M, hy⟩
  have h2 := O.len
  refine brd (fun hc => ?_) fun hc => ?_
  · obtain ⟨a0, F', L', rfl, P, hs, close⟩ := O.elem M (i := n) (by omega)
    refine idxs (by omega) (by omega) (P.stF1 (fw_nearest _ _) fun h' P' => ?_)
    obtain ⟨B', O', M'⟩ := close _ _ _ P'
    rw [wrap64_succ (by omega), wrap64_succ (by omega)]
    refine ⟨⟨n + 1, B', _, rfl, by omega, O', M', fun i hi => ?_⟩, by show _ < _; simp; omega⟩
    by_cases e : i = n
    · subst e; rw [getElem!_pos _ i (by simpa using by omega), List.getElem_set_self]
    · have := hy i (by omega)
      rw [getElem!_pos _ i (by omega)] at this
      rw [getElem!_pos _ i (by simpa using by omega), List.getElem_set_ne (by omega)]
      exact this
  · obtain rfl : n = l := by omega
    refine ⟨by rw [n_Float32S, h1], B, ?_, M⟩
    have : ys = mk_Float32S xs k := by
      apply List.ext_getElem
      · simp [mk_Float32S]; omega
      · intro i hi hi2
        have := hy i (by omega)
        rw [getElem!_pos _ i hi] at this
        rw [this]; simp [mk_Float32S]
    rw [← this]; exact O
theorem held_Float32S_c {b : Option Addr} {l c : Nat} {xs : List Nat} (k : Nat) (S : SlR (rF .f32) h b l c (mk_Float32S xs k)) (hl : w_Float32S xs ≤ 1048576) (hk : k + n_Float32S xs ≤ 1073741824) :
    CALL prg f_laws_heldFloat32S #[.slice b l c, .int .i64 (k : Int)] (fun u h' => u = .int .i64 ((k + n_Float32S xs : Nat) : Int) ∧ Ext h h') h := by
  have h1 : xs.length = l := by have := S.len; simpa [mk_Float32S] using this
  unfold w_Float32S at hl
  unfold n_Float32S at hk
  refine laws_heldFloat32S.call ?_
  refine loop (fun x hh => ∃ n : Nat, x = (b, l, c, ((k + n : Nat) : Int), (n : Int)) ∧ n ≤ l ∧ hh = h) (fun x => (l - x.2.2.2.2).toNat) ⟨0, rfl, by omega, rfl⟩ ?_
  rintro x hh ⟨n, rfl, hn, rfl⟩
  refine brd (fun hc => ?_) fun hc => ?_
  · refine S.idx (by decide) (by omega) (by omega) fun a Ra => Ra.oF1 fun y hy => ?_
    rw [Int.toNat_natCast, mkF_get (by omega)] at hy
    have e : y = FloatKind.f32.nearest ((k + n : Nat) : Int) := hy.eq (nearest_not_nan _ _)
    subst e
    refine br_f (order_eq (nearest_not_nan _ _)) ?_
    rw [wrap64_succ (by omega), wrap64_succ (by omega)]
    exact ⟨⟨n + 1, rfl, by omega, rfl⟩, by show _ < _; simp; omega⟩
  · obtain rfl : n = l := by omega
    exact ⟨by rw [n_Float32S, h1], Ext.refl _⟩
end
end Go.Sx
/- What the laws have in common: values marked and compared among others. -/
set_option linter.unusedVariables false
set_option linter.unusedSimpArgs false
namespace Go.Sx
open Go.Proofs
set_option maxRecDepth 100000

theorem PairR.go {α : Type} {r : Rep α} {P : Program} {f : FuncId} {args : Array Value} {a : α} {code : Int} {hb h : Heap} {L : List Blk} {K : Value → Heap → Prop} (M : Mem hb h L) (c : CALL P f args (fun u h' => PairR r h h' u a code) h)
    (H : ∀ h' cs B, Mem hb h' (B ++ L) → r.ow B cs.toList a → cs.size = r.sz → K (.tuple ⟨[.agg cs, .int .i64 code]⟩) h') : CALL P f args K h :=
  c.mono fun u h' ⟨cs, B, e, O, N⟩ => by subst e; exact H h' cs B (M.join N) O (by simpa using r.olen O)
/-- A value marked, its blocks among the others. -/
theorem markM {α : Type} {r : Rep α} {P : Program} {f : FuncId} {args : Array Value} {b : α} {v : Value} {hb h : Heap} {L : List Blk} {cs : Array Value} {K : Value → Heap → Prop}
    (c : CALL P f args (fun u h' => u = v ∧ ∃ B', r.ow B' cs.toList b ∧ Mem hb h' (B' ++ L)) h) (H : ∀ h' B', Mem hb h' (B' ++ L) → r.ow B' cs.toList b → K v h') : CALL P f args K h :=
  c.mono fun u h' ⟨e, B', O, N⟩ => by subst e; exact H h' B' N O
theorem eqB {a : Int} {p q : Prop} (H : q) : BIF (a != a) p q := by
  rw [show (a != a) = false by simp]; exact H
theorem bne_br {b : Bool} {p q : Prop} (hb : b = true) (H : q) : BIF (!b) p q := by
  subst hb; exact H
theorem ge_br {a : Int} {p q : Prop} (h : 0 ≤ a) (H : q) : BIF (decide (a < 0)) p q := by
  rw [show decide (a < 0) = false by simp; omega]; exact H
end Go.Sx
/- What functions of this seat's program compute, told in words (a predicate over heaps for each), and the proofs that the words are no more than the code's own weakest precondition. -/
namespace Go.Sx
open Go.Proofs
set_option linter.unusedVariables false
set_option maxRecDepth 100000

def math_bits_Len64.J10 (Post : Value → Heap → Prop) (x_0 : Int) (n_2 : Int) (h : Heap) : Prop :=
    IDX (IntKind.u8.wrap x_0) (ByteArray.size (⟨#[0, 1, 2, 2, 3, 3, 3, 3, 4, 4, 4, 4, 4, 4, 4, 4, 5, 5, 5, 5, 5, 5, 5, 5, 5, 5, 5, 5, 5, 5, 5, 5, 6, 6, 6, 6, 6, 6, 6, 6, 6, 6, 6, 6, 6, 6, 6, 6, 6, 6, 6, 6, 6, 6, 6, 6, 6, 6, 6, 6, 6, 6, 6, 6, 7, 7, 7, 7, 7, 7, 7, 7, 7, 7, 7, 7, 7, 7, 7, 7, 7, 7, 7, 7, 7, 7, 7, 7, 7, 7, 7, 7, 7, 7, 7, 7, 7, 7, 7, 7, 7, 7, 7, 7, 7, 7, 7, 7, 7, 7, 7, 7, 7, 7, 7, 7, 7, 7, 7, 7, 7, 7, 7, 7, 7, 7, 7, 7, 8, 8, 8, 8, 8, 8, 8, 8, 8, 8, 8, 8, 8, 8, 8, 8, 8, 8, 8, 8, 8, 8, 8, 8, 8, 8, 8, 8, 8, 8, 8, 8, 8, 8, 8, 8, 8, 8, 8, 8, 8, 8, 8, 8, 8, 8, 8, 8, 8, 8, 8, 8, 8, 8, 8, 8, 8, 8, 8, 8, 8, 8, 8, 8, 8, 8, 8, 8, 8, 8, 8, 8, 8, 8, 8, 8, 8, 8, 8, 8, 8, 8, 8, 8, 8, 8, 8, 8, 8, 8, 8, 8, 8, 8, 8, 8, 8, 8, 8, 8, 8, 8, 8, 8, 8, 8, 8, 8, 8, 8, 8, 8, 8, 8, 8, 8, 8, 8, 8, 8, 8, 8, 8, 8, 8, 8, 8, 8]⟩ : ByteArray)) <|
    Post (.int .i64 ((IntKind.i64.wrap (n_2 + (IntKind.i64.wrap (byteAt (⟨#[0, 1, 2, 2, 3, 3, 3, 3, 4, 4, 4, 4, 4, 4, 4, 4, 5, 5, 5, 5, 5, 5, 5, 5, 5, 5, 5, 5, 5, 5, 5, 5, 6, 6, 6, 6, 6, 6, 6, 6, 6, 6, 6, 6, 6, 6, 6, 6, 6, 6, 6, 6, 6, 6, 6, 6, 6, 6, 6, 6, 6, 6, 6, 6, 7, 7, 7, 7, 7, 7, 7, 7, 7, 7, 7, 7, 7, 7, 7, 7, 7, 7, 7, 7, 7, 7, 7, 7, 7, 7, 7, 7, 7, 7, 7, 7, 7, 7, 7, 7, 7, 7, 7, 7, 7, 7, 7, 7, 7, 7, 7, 7, 7, 7, 7, 7, 7, 7, 7, 7, 7, 7, 7, 7, 7, 7, 7, 7, 8, 8, 8, 8, 8, 8, 8, 8, 8, 8, 8, 8, 8, 8, 8, 8, 8, 8, 8, 8, 8, 8, 8, 8, 8, 8, 8, 8, 8, 8, 8, 8, 8, 8, 8, 8, 8, 8, 8, 8, 8, 8, 8, 8, 8, 8, 8, 8, 8, 8, 8, 8, 8, 8, 8, 8, 8, 8, 8, 8, 8, 8, 8, 8, 8, 8, 8, 8, 8, 8, 8, 8, 8, 8, 8, 8, 8, 8, 8, 8, 8, 8, 8, 8, 8, 8, 8, 8, 8, 8, 8, 8, 8, 8, 8, 8, 8, 8, 8, 8, 8, 8, 8, 8, 8, 8, 8, 8, 8, 8, 8, 8, 8, 8, 8, 8, 8, 8, 8, 8, 8, 8, 8, 8, 8, 8, 8, 8]⟩ : ByteArray) (IntKind.u8.wrap x_0))))))) h
def math_bits_Len64.j10 (Post : Value → Heap → Prop) : Frame → Heap → Prop := fun fr h => GRD (shape (kds 25 [(0, .i .u64), (2, .i .i64)]) fr) (math_bits_Len64.J10 Post (gI (lget fr 0)) (gI (lget fr 2)) h)
def math_bits_Len64.J7 (Post : Value → Heap → Prop) (x_0 : Int) (n_2 : Int) (h : Heap) : Prop :=
    BIF ((decide ((256 : Int) ≤ x_0))) (
    NN (8 : Int) <|
    math_bits_Len64.J10 Post (shrI .u64 x_0 (8 : Int)) ((IntKind.i64.wrap (n_2 + (8 : Int)))) h) (
    math_bits_Len64.J10 Post x_0 n_2 h)
def math_bits_Len64.j7 (Post : Value → Heap → Prop) : Frame → Heap → Prop := fun fr h => GRD (shape (kds 25 [(0, .i .u64), (2, .i .i64)]) fr) (math_bits_Len64.J7 Post (gI (lget fr 0)) (gI (lget fr 2)) h)
def math_bits_Len64.J4 (Post : Value → Heap → Prop) (x_0 : Int) (n_2 : Int) (h : Heap) : Prop :=
    BIF ((decide ((65536 : Int) ≤ x_0))) (
    NN (16 : Int) <|
    math_bits_Len64.J7 Post (shrI .u64 x_0 (16 : Int)) ((IntKind.i64.wrap (n_2 + (16 : Int)))) h) (
    math_bits_Len64.J7 Post x_0 n_2 h)
def math_bits_Len64.j4 (Post : Value → Heap → Prop) : Frame → Heap → Prop := fun fr h => GRD (shape (kds 25 [(0, .i .u64), (2, .i .i64)]) fr) (math_bits_Len64.J4 Post (gI (lget fr 0)) (gI (lget fr 2)) h)
def math_bits_Len64.S (x_0 : Int) (Post : Value → Heap → Prop) (h : Heap) : Prop :=
    BIF ((decide ((4294967296 : Int) ≤ x_0))) (
    NN (32 : Int) <|
    math_bits_Len64.J4 Post (shrI .u64 x_0 (32 : Int)) (32 : Int) h) (
    math_bits_Len64.J4 Post x_0 (0 : Int) h)
noncomputable def math_bits_Len64.code : Code := (Tryz.f177.body).getD .skip
theorem math_bits_Len64.call {x_0 : Int} {Post : Value → Heap → Prop} {h : Heap} (H : math_bits_Len64.S x_0 Post h) : CALL prg f_math_bits_Len64 #[.int .u64 x_0] Post h :=
  fn_call tau_ok mixed (c := math_bits_Len64.code) (Λ := lookL [(4, math_bits_Len64.j4 Post), (7, math_bits_Len64.j7 Post), (10, math_bits_Len64.j10 Post)]) Tryz.func177 (by kernel_rfl) (by kernel_rfl)
    (Rq.seq (by kernel_rfl) (Rq.free (by kernel_rfl)) (Rq.seqJ (math_bits_Len64.j4 Post) (by kernel_rfl) (seg (fun _ _ => by kernel_rfl)) (Rq.free (by kernel_rfl))
(Rq.seqJ (math_bits_Len64.j7 Post) (by kernel_rfl) (seg (fun _ _ => by kernel_rfl)) (Rq.free (by kernel_rfl))
(Rq.seqJ (math_bits_Len64.j10 Post) (by kernel_rfl) (seg (fun _ _ => by kernel_rfl)) (Rq.free (by kernel_rfl))
(Rq.free (by kernel_rfl))))))
    (Eq.mp (by kernel_rfl) H)

def math_bits_Len.S (x_0 : Int) (Post : Value → Heap → Prop) (h : Heap) : Prop :=
    CALL prg f_math_bits_Len64 #[.int .u64 x_0] (fun q1 h2 =>
    asI .i64 q1 fun n3 =>
    Post (.int .i64 n3) h2) h
noncomputable def math_bits_Len.code : Code := (Tryz.f109.body).getD .skip
theorem math_bits_Len.call {x_0 : Int} {Post : Value → Heap → Prop} {h : Heap} (H : math_bits_Len.S x_0 Post h) : CALL prg f_math_bits_Len #[.int .u64 x_0] Post h :=
  fn_call tau_ok mixed (c := math_bits_Len.code) (Λ := lookL []) Tryz.func109 (by kernel_rfl) (by kernel_rfl)
    (Rq.free (by kernel_rfl))
    (Eq.mp (by kernel_rfl) H)

end Go.Sx
/- Numbers sorted, a few at most: the library's insertion sort. -/
set_option linter.unusedVariables false
set_option linter.unusedSimpArgs false
namespace Go.Sx
open Go.Proofs
set_option maxRecDepth 100000
set_option maxHeartbeats 1000000

section
variable {h0 h : Heap} {q : Addr} {F : Fr} {L : List Blk}
theorem wrap8' (n : Int) : IntKind.u8.wrap n = n % 256 := by
  simp only [IntKind.wrap, IntKind.signed, IntKind.bits, Bool.false_and, Bool.false_eq_true, if_false]
  rfl
theorem u64_wrap' {n : Int} (h1 : 0 ≤ n) (h2 : n < 18446744073709551616) : IntKind.u64.wrap n = n := by
  simp only [IntKind.wrap, IntKind.signed, Bool.false_and, Bool.false_eq_true, if_false]
  rw [show (2 : Int) ^ IntKind.u64.bits = 18446744073709551616 by decide]
  omega
theorem Len_c {l : Nat} (hl : l ≤ 12) : CALL prg f_math_bits_Len #[.int .u64 (IntKind.u64.wrap (l : Int))] (fun u h' => (∃ n, u = .int .i64 n) ∧ Ext h h') h := by
  have e : IntKind.u64.wrap (l : Int) = (l : Int) := u64_wrap' (by omega) (by omega)
  rw [e]
  refine math_bits_Len.call ?_
  have c64 : CALL prg f_math_bits_Len64 #[.int .u64 (l : Int)] (fun u h' => (∃ n, u = .int .i64 n) ∧ Ext h h') h := by
    refine math_bits_Len64.call (brd (fun k => by omega) fun _ => ?_)
    unfold math_bits_Len64.J4
    refine brd (fun k => by omega) fun _ => ?_
    unfold math_bits_Len64.J7
    refine brd (fun k => by omega) fun _ => ?_
    unfold math_bits_Len64.J10
    have e8 : IntKind.u8.wrap (l : Int) = (l : Int) := by rw [wrap8']; omega
    rw [e8]
    exact idx (by omega) (by show (l : Int) < ((256 : Nat) : Int); omega) ⟨⟨_, rfl⟩, Ext.refl _⟩
  refine c64.mono ?_
  rintro _ h1 ⟨⟨n, rfl⟩, x1⟩
  exact as_i ⟨⟨n, rfl⟩, x1⟩
end
end Go.Sx
