/- The laws' helpers over pipes: what they compute. -/
import Derived.Test.YthhepeklpgefkaaGreatDoorLk53
import Derived.Test.YthhepeklpgefkaaGreatDoorLk4
set_option linter.unusedVariables false
set_option linter.unusedSimpArgs false
namespace Go.Sx
open Go.Proofs
set_option maxRecDepth 100000

section
variable {h : Heap}
theorem szp_Ring : 0 < rRing.sz := by decide
def w_RingS (xs : List GRing) : Nat := xs.length + nL w_Ring xs
theorem eq_RingS_c {b1 b2 : Option Addr} {l1 c1 l2 c2 : Nat} {xs : List GRing} (S1 : SlR rRing h b1 l1 c1 xs) (S2 : SlR rRing h b2 l2 c2 xs) : CALL prg f_laws_eqRingS #[.slice b1 l1 c1, .slice b2 l2 c2] (fun u h' => u = .bool true ∧ Ext h h') h := by
  have e1 := S1.len
  have e2 := S2.len
  have h2 := S1.2.1
  have h3 := S1.2.2.1
  have := maxLen_lt
  obtain rfl : l1 = l2 := by omega
  refine laws_eqRingS.call (br_f (by simp) ?_)
  refine loop (fun x hh => ∃ n : Nat, x = (b1, l1, c1, b2, l1, c2, (n : Int)) ∧ n ≤ l1 ∧ Ext h hh) (fun x => (l1 - x.2.2.2.2.2.2).toNat) ⟨0, rfl, by omega, Ext.refl _⟩ ?_
  rintro x hh ⟨n, rfl, hn, X⟩
  refine brd (fun hc => ?_) fun hc => ⟨rfl, X⟩
  refine (S1.ext X).idx szp_Ring (by omega) (by omega) fun a Ra => Ra.lda1 rfl fun ca R1 => (S2.ext X).idx szp_Ring (by omega) (by omega) fun a' Rb => Rb.lda1 rfl fun cb R2 => goX (eq_Ring_c R1 R2) fun h' x' => as_b (br_f rfl ?_)
  rw [wrap64_succ (by omega)]
  exact ⟨⟨n + 1, rfl, by omega, X.trans x'⟩, by show _ < _; simp; omega⟩
def n_RingS (xs : List GRing) : Nat := nL (fun r => r.Samples.length + 1) xs
def mkE_Ring (r : GRing) (k : Nat) : GRing := ⟨mk_Float32S r.Samples k, ((k + r.Samples.length : Nat) : Int)⟩
def mk_RingS (xs : List GRing) (k : Nat) : List GRing := mkL mkE_Ring (fun r => r.Samples.length + 1) xs k
theorem nw_RingS (xs : List GRing) : n_RingS xs ≤ 8 * w_RingS xs := by
  unfold n_RingS w_RingS
  induction xs with
  | nil => simp [nL]
  | cons x xs ih =>
    have : w_Ring x = x.Samples.length := rfl
    simp only [nL, List.length_cons] at *; omega
theorem ring_nw (x : GRing) : w_Ring x = x.Samples.length := rfl
theorem mark_RingS_c {h0 : Heap} {B L : List Blk} {b : Option Addr} {l c : Nat} {xs : List GRing} (O0 : SlO T_impl_Ring rRing B b l c xs) (M0 : Mem h0 h (B ++ L)) (k : Nat) (hw0 : w_RingS xs ≤ 1048576) (hk : k + n_RingS xs ≤ 1073741824) :
    CALL prg f_laws_markRingS #[.slice b l c, .int .i64 (k : Int)] (fun u h' => u = .int .i64 ((k + n_RingS xs : Nat) : Int) ∧ ∃ B', SlO T_impl_Ring rRing B' b l c (mk_RingS xs k) ∧ Mem h0 h' (B' ++ L)) h := by
  have hx := O0.len
  have hw : w_RingS xs = xs.length + nL w_Ring xs := rfl
  refine laws_markRingS.call ?_
  refine loop (fun x hh => ∃ (n : Nat) (B : List Blk), x = (b, l, c, ((k + nL (fun r => r.Samples.length + 1) (xs.take n) : Nat) : Int), (n : Int)) ∧ n ≤ l ∧ SlO T_impl_Ring rRing B b l c (mkL mkE_Ring (fun r => r.Samples.length + 1) (xs.take n) k ++ xs.drop n) ∧ Mem h0 hh (B ++ L)) (fun x => (l - x.2.2.2.2).toNat) ⟨0, B, rfl, by omega, by simpa [mkL] using O0, M0⟩ ?_
  rintro x hh ⟨n, B, rfl, hn, O, M⟩
  refine brd (fun hc => ?_) fun hc => ?_
  · have h4 := nL_snoc (n := fun r : GRing => r.Samples.length + 1) (xs := xs) (i := n) (by omega)
    have h5 : nL (fun r : GRing => r.Samples.length + 1) (xs.take (n + 1)) ≤ n_RingS xs := nL_take_le xs (n + 1)
    have h6 : w_Ring xs[n]! ≤ nL w_Ring xs := nL_mem (by omega)
    rw [ring_nw] at h6
    obtain ⟨a0, F', L', rfl, P, hs, close⟩ := O.elem M (i := n) (by omega)
    rw [mkL_at (by omega)] at P
    refine idxs (by omega) (by omega) ?_
    rw [Int.toNat_natCast, show n * 2 = n * rRing.sz from rfl]
    obtain ⟨b2, l2, c2, Bs, N, eb, Ms, Os, hs2, back⟩ := P.sl1 foc_Ring_Samples
    refine o_l eb ((mark_Float32S_c Os Ms (k + nL (fun r => r.Samples.length + 1) (xs.take n)) (by unfold w_Float32S; omega) (by unfold n_Float32S; omega)).mono ?_)
    rintro _ h' ⟨rfl, B', O', M'⟩
    have P := (back _ _ _ _ O' M').1
    refine as_i (idxs (by omega) (by omega) ?_)
    refine P.stI fun h'' P => ?_
    obtain ⟨B', O', M'⟩ := close _ _ _ P
    have st := mkL_step (mk := mkE_Ring) (n := fun r : GRing => r.Samples.length + 1) (k := k) (xs := xs) (i := n) (by omega)
    have O' : SlO T_impl_Ring rRing B' (some a0) l c ((mkL mkE_Ring (fun r => r.Samples.length + 1) (xs.take n) k ++ xs.drop n).set n (mkE_Ring xs[n]! (k + nL (fun r => r.Samples.length + 1) (xs.take n)))) := O'
    rw [st] at O'
    have e7 : n_Float32S xs[n]!.Samples = xs[n]!.Samples.length := rfl
    rw [wrap64_succ (by omega), wrap64_succ (by omega)]
    exact ⟨⟨n + 1, B', by rw [h4, e7]; simp only [Nat.add_assoc], by omega, O', M'⟩, by show _ < _; simp; omega⟩
  · obtain rfl : n = l := by omega
    have e : xs.take n = xs := by rw [← hx]; exact List.take_length
    have e2 : xs.drop n = [] := List.drop_of_length_le (by omega)
    rw [e, e2, List.append_nil] at O
    rw [e]
    exact ⟨rfl, B, O, M⟩
theorem held_RingS_c {b : Option Addr} {l c : Nat} {xs : List GRing} (k : Nat) (S : SlR rRing h b l c (mk_RingS xs k)) (hw0 : w_RingS xs ≤ 1048576) (hk : k + n_RingS xs ≤ 1073741824) :
    CALL prg f_laws_heldRingS #[.slice b l c, .int .i64 (k : Int)] (fun u h' => u = .int .i64 ((k + n_RingS xs : Nat) : Int) ∧ Ext h h') h := by
  have hx : xs.length = l := by have := S.len; rwa [mk_RingS, mkL_len] at this
  have hw : w_RingS xs = xs.length + nL w_Ring xs := rfl
  refine laws_heldRingS.call ?_
  refine loop (fun x hh => ∃ n : Nat, x = (b, l, c, ((k + nL (fun r => r.Samples.length + 1) (xs.take n) : Nat) : Int), (n : Int)) ∧ n ≤ l ∧ Ext h hh) (fun x => (l - x.2.2.2.2).toNat) ⟨0, rfl, by omega, Ext.refl _⟩ ?_
  rintro x hh ⟨n, rfl, hn, X⟩
  refine brd (fun hc => ?_) fun hc => ?_
  · have h4 := nL_snoc (n := fun r : GRing => r.Samples.length + 1) (xs := xs) (i := n) (by omega)
    have h5 : nL (fun r : GRing => r.Samples.length + 1) (xs.take (n + 1)) ≤ n_RingS xs := nL_take_le xs (n + 1)
    have h6 : w_Ring xs[n]! ≤ nL w_Ring xs := nL_mem (by omega)
    rw [ring_nw] at h6
    have hm : (mk_RingS xs k)[n]! = mkE_Ring xs[n]! (k + nL (fun r => r.Samples.length + 1) (xs.take n)) := by unfold mk_RingS; rw [mkL_get (by omega)]
    have e7 : n_Float32S xs[n]!.Samples = xs[n]!.Samples.length := rfl
    refine (S.ext X).idx szp_Ring (by omega) (by omega) fun a Ra => ?_
    rw [Int.toNat_natCast, hm] at Ra
    refine Ra.oL1 fun b2 l2 c2 S2 => goX (held_Float32S_c (xs := xs[n]!.Samples) _ S2 (by unfold w_Float32S; omega) (by unfold n_Float32S; omega)) fun h' x' => as_i (br_f (decide_eq_false (by omega)) ?_)
    refine ((S.ext X).ext x').idx szp_Ring (by omega) (by omega) fun a Ra => ?_
    rw [Int.toNat_natCast, hm] at Ra
    refine Ra.oI (br_f (bne_self_eq_false _) ?_)
    rw [wrap64_succ (by omega), wrap64_succ (by omega)]
    exact ⟨⟨n + 1, by rw [h4, e7]; simp only [Nat.add_assoc], by omega, X.trans x'⟩, by show _ < _; simp; omega⟩
  · obtain rfl : n = l := by omega
    have e : xs.take n = xs := by rw [← hx]; exact List.take_length
    rw [e]
    exact ⟨rfl, X⟩
theorem eq_Pipe_c {ca cb : Array Value} {x : GPipe} (Ra : rPipe.rd h ca.toList x) (Rb : rPipe.rd h cb.toList x) : CALL prg f_laws_eqPipe #[.agg ca, .agg cb] (fun u h' => u = .bool true ∧ Ext h h') h := by
  refine laws_eqPipe.call (alcR Ra fun g1 h1 x1 A => alcR (rPipe.ext x1 Rb) fun g2 h2 x2 B => ?_)
  have A := A.ext x2
  have X := x1.trans x2
  refine A.oL2 fun b1 l1 c1 S1 => B.oL2 fun b2 l2 c2 S2 => goX (eq_RingS_c S1 S2) fun h' x' => as_b (br_f rfl ?_)
  have A := A.ext x'
  have B := B.ext x'
  have X := X.trans x'
  refine A.oL2 fun b1 l1 c1 S1 => B.oL2 fun b2 l2 c2 S2 => goX (eq_RingS_c S1 S2) fun h' x' => as_b (br_f rfl ?_)
  have A := A.ext x'
  have B := B.ext x'
  have X := X.trans x'
  refine A.oL2 fun b1 l1 c1 S1 => B.oL2 fun b2 l2 c2 S2 => goX (eq_Float32S_c S1 S2) fun h' x' => as_b (br_f rfl ?_)
  have A := A.ext x'
  have B := B.ext x'
  have X := X.trans x'
  refine A.lda2 foc_Pipe_End rfl fun c1 R1 => B.lda2 foc_Pipe_End rfl fun c2 R2 => goX (eq_Filter_c R1 R2) fun h' x' => as_b (br_f rfl ?_)
  have A := A.ext x'
  have B := B.ext x'
  have X := X.trans x'
  refine A.oB2 (B.oB2 (br_f (by simp) ?_))
  refine A.oF2 fun y hy => ffc_wide hy fun r1 k1 => B.oF2 fun z hz => ffc_wide hz fun r2 k2 => goX (sameW_c k1 k2 _) fun h' x' => as_b (br_f rfl ?_)
  have A := A.ext x'
  have B := B.ext x'
  have X := X.trans x'
  refine A.oF2 fun y hy => ffc_wide hy fun r1 k1 => B.oF2 fun z hz => ffc_wide hz fun r2 k2 => goX (sameW_c k1 k2 _) fun h' x' => as_b (br_f rfl ?_)
  have A := A.ext x'
  have B := B.ext x'
  have X := X.trans x'
  refine A.oF2 fun y hy => ffc_wide hy fun r1 k1 => B.oF2 fun z hz => ffc_wide hz fun r2 k2 => goX (sameW_c k1 k2 _) fun h' x' => as_b (br_f rfl ?_)
  have A := A.ext x'
  have B := B.ext x'
  have X := X.trans x'
  exact ⟨rfl, X⟩
def w_Pipe (x : GPipe) : Nat := w_RingS x.Right + w_RingS x.Left + w_Float32S x.Scatter
def n_Pipe (x : GPipe) : Nat := n_RingS x.Right + n_RingS x.Left + n_Float32S x.Scatter
def mk_Pipe (x : GPipe) (k : Nat) : GPipe := { x with Right := mk_RingS x.Right (k), Left := mk_RingS x.Left (k + n_RingS x.Right), Scatter := mk_Float32S x.Scatter (k + n_RingS x.Right + n_RingS x.Left) }
theorem nw_Pipe (x : GPipe) : n_Pipe x ≤ 8 * w_Pipe x := by
  have h0 := nw_RingS x.Right
  have h1 := nw_RingS x.Left
  have h2 := nw_Float32S x.Scatter
  have e1 : n_Pipe x = n_RingS x.Right + n_RingS x.Left + n_Float32S x.Scatter := rfl
  have e2 : w_Pipe x = w_RingS x.Right + w_RingS x.Left + w_Float32S x.Scatter := rfl
  omega
theorem mark_Pipe_c {h0 : Heap} {B L : List Blk} {cs : Array Value} {x : GPipe} (O : rPipe.ow B cs.toList x) (M : Mem h0 h (B ++ L)) (k : Nat) (hw0 : w_Pipe x ≤ 1048576) (hk : k + n_Pipe x ≤ 1073741824) :
    CALL prg f_laws_markPipe #[.agg cs, .int .i64 (k : Int)] (fun u h' => u = .int .i64 ((k + n_Pipe x : Nat) : Int) ∧ ∃ B', rPipe.ow B' cs.toList (mk_Pipe x k) ∧ Mem h0 h' (B' ++ L)) h := by
  have hw : w_Pipe x = w_RingS x.Right + w_RingS x.Left + w_Float32S x.Scatter := rfl
  have hn : n_Pipe x = n_RingS x.Right + n_RingS x.Left + n_Float32S x.Scatter := rfl
  refine laws_markPipe.call (M.alc fun g1 h1 x1 M => ?_)
  obtain ⟨Bm, Br, hB, Om, reb⟩ := ow_upd O foc_Pipe_Right
  obtain ⟨b, l, c, e, Om⟩ := Om
  refine o_l ((M.cell .here _).trans (cell_part e)) ?_
  refine (mark_RingS_c (xs := x.Right) Om (M.cnt (W := Bm ++ (Br ++ ((g1, T_impl_Pipe, cs) :: L))) (fun p => by have := hB p; simp only [cnt_app, cnt_cons, cnt_nil] at *; omega)) (k) (by omega) (by omega)).mono ?_
  rintro _ h' ⟨rfl, B', O', M⟩
  obtain ⟨B2, O, hB2⟩ := reb B' _ ⟨b, l, c, e, O'⟩
  refine as_i ?_
  have M := M.cnt (W := (g1, T_impl_Pipe, cs) :: (B2 ++ L)) (fun p => by have := hB2 p; simp only [cnt_app, cnt_cons, cnt_nil] at *; omega)
  clear reb
  obtain ⟨Bm, Br, hB, Om, reb⟩ := ow_upd O foc_Pipe_Left
  obtain ⟨b, l, c, e, Om⟩ := Om
  refine o_l ((M.cell .here _).trans (cell_part e)) ?_
  refine (mark_RingS_c (xs := x.Left) Om (M.cnt (W := Bm ++ (Br ++ ((g1, T_impl_Pipe, cs) :: L))) (fun p => by have := hB p; simp only [cnt_app, cnt_cons, cnt_nil] at *; omega)) (k + n_RingS x.Right) (by omega) (by omega)).mono ?_
  rintro _ h' ⟨rfl, B', O', M⟩
  obtain ⟨B2, O, hB2⟩ := reb B' _ ⟨b, l, c, e, O'⟩
  refine as_i ?_
  have M := M.cnt (W := (g1, T_impl_Pipe, cs) :: (B2 ++ L)) (fun p => by have := hB2 p; simp only [cnt_app, cnt_cons, cnt_nil] at *; omega)
  clear reb
  obtain ⟨Bm, Br, hB, Om, reb⟩ := ow_upd O foc_Pipe_Scatter
  obtain ⟨b, l, c, e, Om⟩ := Om
  refine o_l ((M.cell .here _).trans (cell_part e)) ?_
  refine (mark_Float32S_c (xs := x.Scatter) Om (M.cnt (W := Bm ++ (Br ++ ((g1, T_impl_Pipe, cs) :: L))) (fun p => by have := hB p; simp only [cnt_app, cnt_cons, cnt_nil] at *; omega)) (k + n_RingS x.Right + n_RingS x.Left) (by omega) (by omega)).mono ?_
  rintro _ h' ⟨rfl, B', O', M⟩
  obtain ⟨B2, O, hB2⟩ := reb B' _ ⟨b, l, c, e, O'⟩
  refine as_i ?_
  have M := M.cnt (W := (g1, T_impl_Pipe, cs) :: (B2 ++ L)) (fun p => by have := hB2 p; simp only [cnt_app, cnt_cons, cnt_nil] at *; omega)
  clear reb
  exact ⟨by congr 2 <;> (unfold n_Pipe; omega), B2, O, M.drop⟩
theorem held_Pipe_c {cs : Array Value} {x : GPipe} (k : Nat) (R0 : rPipe.rd h cs.toList (mk_Pipe x k)) (hw0 : w_Pipe x ≤ 1048576) (hk : k + n_Pipe x ≤ 1073741824) :
    CALL prg f_laws_heldPipe #[.agg cs, .int .i64 (k : Int)] (fun u h' => u = .int .i64 ((k + n_Pipe x : Nat) : Int) ∧ Ext h h') h := by
  have hw : w_Pipe x = w_RingS x.Right + w_RingS x.Left + w_Float32S x.Scatter := rfl
  have hn : n_Pipe x = n_RingS x.Right + n_RingS x.Left + n_Float32S x.Scatter := rfl
  refine laws_heldPipe.call (alcR R0 fun g1 h1 X R => ?_)
  refine R.oL2 fun b1 l1 c1 S1 => goX (held_RingS_c (xs := x.Right) (k) S1 (by omega) (by omega)) fun h' x' => as_i (br_f (decide_eq_false (by omega)) ?_)
  have R := R.ext x'
  have X := X.trans x'
  refine R.oL2 fun b1 l1 c1 S1 => goX (held_RingS_c (xs := x.Left) (k + n_RingS x.Right) S1 (by omega) (by omega)) fun h' x' => as_i (br_f (decide_eq_false (by omega)) ?_)
  have R := R.ext x'
  have X := X.trans x'
  refine R.oL2 fun b1 l1 c1 S1 => goX (held_Float32S_c (xs := x.Scatter) (k + n_RingS x.Right + n_RingS x.Left) S1 (by omega) (by omega)) fun h' x' => as_i (br_f (decide_eq_false (by omega)) ?_)
  have R := R.ext x'
  have X := X.trans x'
  exact ⟨by congr 2 <;> (unfold n_Pipe; omega), X⟩
end
end Go.Sx
