/- The laws' helpers over rings and filters: what they compute. -/
import Derived.Test.YthhepeklpgefkaaGreatDoorLh0
import Derived.Test.YthhepeklpgefkaaGreatDoorTab
import Derived.Test.YthhepeklpgefkaaGreatDoorLk2
set_option linter.unusedVariables false
set_option linter.unusedSimpArgs false
namespace Go.Sx
open Go.Proofs
set_option maxRecDepth 100000

theorem nw_Float32S (xs : List Nat) : n_Float32S xs ≤ 8 * w_Float32S xs := by unfold n_Float32S w_Float32S; omega
section
variable {h : Heap}
theorem eq_Ring_c {ca cb : Array Value} {x : GRing} (Ra : rRing.rd h ca.toList x) (Rb : rRing.rd h cb.toList x) : CALL prg f_laws_eqRing #[.agg ca, .agg cb] (fun u h' => u = .bool true ∧ Ext h h') h := by
  refine laws_eqRing.call (alcR Ra fun g1 h1 x1 A => alcR (rRing.ext x1 Rb) fun g2 h2 x2 B => ?_)
  have A := A.ext x2
  have X := x1.trans x2
  refine A.oL2 fun b1 l1 c1 S1 => B.oL2 fun b2 l2 c2 S2 => goX (eq_Float32S_c S1 S2) fun h' x' => as_b (br_f rfl ?_)
  have A := A.ext x'
  have B := B.ext x'
  have X := X.trans x'
  refine A.oI2 (B.oI2 (br_f (by simp) ?_))
  exact ⟨rfl, X⟩
def w_Ring (x : GRing) : Nat := w_Float32S x.Samples
theorem eq_Filter_c {ca cb : Array Value} {x : GFilter} (Ra : rFilter.rd h ca.toList x) (Rb : rFilter.rd h cb.toList x) : CALL prg f_laws_eqFilter #[.agg ca, .agg cb] (fun u h' => u = .bool true ∧ Ext h h') h := by
  refine laws_eqFilter.call (alcR Ra fun g1 h1 x1 A => alcR (rFilter.ext x1 Rb) fun g2 h2 x2 B => ?_)
  have A := A.ext x2
  have X := x1.trans x2
  refine A.oI2 (B.oI2 (br_f (by simp) ?_))
  refine A.lda2 foc_Filter_C rfl fun c1 R1 => B.lda2 foc_Filter_C rfl fun c2 R2 => goX (eq_Float32A3_c R1 R2) fun h' x' => as_b (br_f rfl ?_)
  have A := A.ext x'
  have B := B.ext x'
  have X := X.trans x'
  refine A.lda2 foc_Filter_S rfl fun c1 R1 => B.lda2 foc_Filter_S rfl fun c2 R2 => goX (eq_Float32A2_c R1 R2) fun h' x' => as_b (br_f rfl ?_)
  have A := A.ext x'
  have B := B.ext x'
  have X := X.trans x'
  exact ⟨rfl, X⟩
end
end Go.Sx
/- What functions of this seat's program compute, told in words (a predicate over heaps for each), and the proofs that the words are no more than the code's own weakest precondition. -/
namespace Go.Sx
open Go.Proofs
set_option linter.unusedVariables false
set_option maxRecDepth 100000

def laws_eqRingS.B4 (Post : Value → Heap → Prop) (N4 : (Option Addr × Nat × Nat × Option Addr × Nat × Nat × Int) → Heap → Prop) : Option Addr × Nat × Nat × Option Addr × Nat × Nat × Int → Heap → Prop
  | (a_0b, a_0l, a_0c, b_1b, b_1l, b_1c, i_5), h =>
    BIF ((decide (i_5 < (a_0l : Int)))) (
    IDXS a_0b i_5 a_0l fun p7 =>
    LDA 2 h ((Addr.add p7 ((Int.toNat i_5) * 2))) fun a8 =>
    IDXS b_1b i_5 b_1l fun p9 =>
    LDA 2 h ((Addr.add p9 ((Int.toNat i_5) * 2))) fun a10 =>
    CALL prg f_laws_eqRing #[.agg a8, .agg a10] (fun q11 h12 =>
    asB q11 fun b13 =>
    BIF (!b13) (
    Post (.bool false) h12) (
    N4 (a_0b, a_0l, a_0c, b_1b, b_1l, b_1c, ((IntKind.i64.wrap (i_5 + (1 : Int))))) h12)) h) (
    Post (.bool true) h)
def laws_eqRingS.g4 (fr : Frame) : Option Addr × Nat × Nat × Option Addr × Nat × Nat × Int := ((gLb (lget fr 0)), (gLl (lget fr 0)), (gLc (lget fr 0)), (gLb (lget fr 1)), (gLl (lget fr 1)), (gLc (lget fr 1)), (gI (lget fr 5)))
def laws_eqRingS.l4 (Post : Value → Heap → Prop) : Frame → Heap → Prop := fun fr h => GRD (shape (kds 27 [(0, .l), (1, .l), (5, .i .i64)]) fr) (LOOP (laws_eqRingS.B4 Post) (laws_eqRingS.g4 fr) h)
def laws_eqRingS.S (a_0b : Option Addr) (a_0l a_0c : Nat) (b_1b : Option Addr) (b_1l b_1c : Nat) (Post : Value → Heap → Prop) (h : Heap) : Prop :=
    BIF ((a_0l : Int) != (b_1l : Int)) (
    Post (.bool false) h) (
    LOOP (laws_eqRingS.B4 Post) (a_0b, a_0l, a_0c, b_1b, b_1l, b_1c, (0 : Int)) h)
noncomputable def laws_eqRingS.code : Code := (Tryz.f172.body).getD .skip
theorem laws_eqRingS.call {a_0b : Option Addr} {a_0l a_0c : Nat} {b_1b : Option Addr} {b_1l b_1c : Nat} {Post : Value → Heap → Prop} {h : Heap} (H : laws_eqRingS.S a_0b a_0l a_0c b_1b b_1l b_1c Post h) : CALL prg f_laws_eqRingS #[.slice a_0b a_0l a_0c, .slice b_1b b_1l b_1c] Post h :=
  fn_call tau_ok mixed (c := laws_eqRingS.code) (Λ := lookL [(1000004, laws_eqRingS.l4 Post)]) Tryz.func172 (by kernel_rfl) (by kernel_rfl)
    (Rq.seq (by kernel_rfl) (Rq.free (by kernel_rfl)) (Rq.seq (by kernel_rfl) (Rq.free (by kernel_rfl)) (Rq.seq (by kernel_rfl) (Rq.seq (by kernel_rfl) (Rq.free (by kernel_rfl)) (Rq.block (Rq.loop (laws_eqRingS.l4 Post) (by kernel_rfl) (segL (g := laws_eqRingS.g4) tau_ok mixed (Λ := fun N4 => lookL []) (fun _ _ _ => by kernel_rfl) (fun N4 => (Rq.free (by kernel_rfl))))))) (Rq.free (by kernel_rfl)))))
    (Eq.mp (by kernel_rfl) H)

def laws_markRingS.B2 (Post : Value → Heap → Prop) (N2 : (Option Addr × Nat × Nat × Int × Int) → Heap → Prop) : Option Addr × Nat × Nat × Int × Int → Heap → Prop
  | (a_0b, a_0l, a_0c, k_1, i_5), h =>
    BIF ((decide (i_5 < (a_0l : Int)))) (
    IDXS a_0b i_5 a_0l fun p3 =>
    oL (cell h ((Addr.add p3 ((Int.toNat i_5) * 2)))) fun l4b l4l l4c =>
    CALL prg f_laws_markFloat32S #[.slice l4b l4l l4c, .int .i64 k_1] (fun q5 h6 =>
    asI .i64 q5 fun n7 =>
    IDXS a_0b i_5 a_0l fun p8 =>
    ST1 h6 ((Addr.add ((Addr.add p8 ((Int.toNat i_5) * 2))) 1)) (.int .i64 n7) fun h9 =>
    N2 (a_0b, a_0l, a_0c, ((IntKind.i64.wrap (n7 + (1 : Int)))), ((IntKind.i64.wrap (i_5 + (1 : Int))))) h9) h) (
    Post (.int .i64 k_1) h)
def laws_markRingS.g2 (fr : Frame) : Option Addr × Nat × Nat × Int × Int := ((gLb (lget fr 0)), (gLl (lget fr 0)), (gLc (lget fr 0)), (gI (lget fr 1)), (gI (lget fr 5)))
def laws_markRingS.l2 (Post : Value → Heap → Prop) : Frame → Heap → Prop := fun fr h => GRD (shape (kds 27 [(0, .l), (1, .i .i64), (5, .i .i64)]) fr) (LOOP (laws_markRingS.B2 Post) (laws_markRingS.g2 fr) h)
def laws_markRingS.S (a_0b : Option Addr) (a_0l a_0c : Nat) (k_1 : Int) (Post : Value → Heap → Prop) (h : Heap) : Prop :=
    LOOP (laws_markRingS.B2 Post) (a_0b, a_0l, a_0c, k_1, (0 : Int)) h
noncomputable def laws_markRingS.code : Code := (Tryz.f142.body).getD .skip
theorem laws_markRingS.call {a_0b : Option Addr} {a_0l a_0c : Nat} {k_1 : Int} {Post : Value → Heap → Prop} {h : Heap} (H : laws_markRingS.S a_0b a_0l a_0c k_1 Post h) : CALL prg f_laws_markRingS #[.slice a_0b a_0l a_0c, .int .i64 k_1] Post h :=
  fn_call tau_ok mixed (c := laws_markRingS.code) (Λ := lookL [(1000002, laws_markRingS.l2 Post)]) Tryz.func142 (by kernel_rfl) (by kernel_rfl)
    (Rq.seq (by kernel_rfl) (Rq.free (by kernel_rfl)) (Rq.seq (by kernel_rfl) (Rq.seq (by kernel_rfl) (Rq.free (by kernel_rfl)) (Rq.block (Rq.loop (laws_markRingS.l2 Post) (by kernel_rfl) (segL (g := laws_markRingS.g2) tau_ok mixed (Λ := fun N2 => lookL []) (fun _ _ _ => by kernel_rfl) (fun N2 => (Rq.free (by kernel_rfl))))))) (Rq.free (by kernel_rfl))))
    (Eq.mp (by kernel_rfl) H)

def laws_heldRingS.B2 (Post : Value → Heap → Prop) (N2 : (Option Addr × Nat × Nat × Int × Int) → Heap → Prop) : Option Addr × Nat × Nat × Int × Int → Heap → Prop
  | (a_0b, a_0l, a_0c, k_1, i_5), h =>
    BIF ((decide (i_5 < (a_0l : Int)))) (
    IDXS a_0b i_5 a_0l fun p3 =>
    oL (cell h ((Addr.add p3 ((Int.toNat i_5) * 2)))) fun l4b l4l l4c =>
    CALL prg f_laws_heldFloat32S #[.slice l4b l4l l4c, .int .i64 k_1] (fun q5 h6 =>
    asI .i64 q5 fun n7 =>
    BIF ((decide (n7 < (0 : Int)))) (
    Post (.int .i64 (-1 : Int)) h6) (
    IDXS a_0b i_5 a_0l fun p8 =>
    oI .i64 (cell h6 ((Addr.add ((Addr.add p8 ((Int.toNat i_5) * 2))) 1))) fun n9 =>
    BIF (n9 != n7) (
    Post (.int .i64 (-1 : Int)) h6) (
    N2 (a_0b, a_0l, a_0c, ((IntKind.i64.wrap (n7 + (1 : Int)))), ((IntKind.i64.wrap (i_5 + (1 : Int))))) h6))) h) (
    Post (.int .i64 k_1) h)
def laws_heldRingS.g2 (fr : Frame) : Option Addr × Nat × Nat × Int × Int := ((gLb (lget fr 0)), (gLl (lget fr 0)), (gLc (lget fr 0)), (gI (lget fr 1)), (gI (lget fr 5)))
def laws_heldRingS.l2 (Post : Value → Heap → Prop) : Frame → Heap → Prop := fun fr h => GRD (shape (kds 31 [(0, .l), (1, .i .i64), (5, .i .i64)]) fr) (LOOP (laws_heldRingS.B2 Post) (laws_heldRingS.g2 fr) h)
def laws_heldRingS.S (a_0b : Option Addr) (a_0l a_0c : Nat) (k_1 : Int) (Post : Value → Heap → Prop) (h : Heap) : Prop :=
    LOOP (laws_heldRingS.B2 Post) (a_0b, a_0l, a_0c, k_1, (0 : Int)) h
noncomputable def laws_heldRingS.code : Code := (Tryz.f143.body).getD .skip
theorem laws_heldRingS.call {a_0b : Option Addr} {a_0l a_0c : Nat} {k_1 : Int} {Post : Value → Heap → Prop} {h : Heap} (H : laws_heldRingS.S a_0b a_0l a_0c k_1 Post h) : CALL prg f_laws_heldRingS #[.slice a_0b a_0l a_0c, .int .i64 k_1] Post h :=
  fn_call tau_ok mixed (c := laws_heldRingS.code) (Λ := lookL [(1000002, laws_heldRingS.l2 Post)]) Tryz.func143 (by kernel_rfl) (by kernel_rfl)
    (Rq.seq (by kernel_rfl) (Rq.free (by kernel_rfl)) (Rq.seq (by kernel_rfl) (Rq.seq (by kernel_rfl) (Rq.free (by kernel_rfl)) (Rq.block (Rq.loop (laws_heldRingS.l2 Post) (by kernel_rfl) (segL (g := laws_heldRingS.g2) tau_ok mixed (Λ := fun N2 => lookL []) (fun _ _ _ => by kernel_rfl) (fun N2 => (Rq.free (by kernel_rfl))))))) (Rq.free (by kernel_rfl))))
    (Eq.mp (by kernel_rfl) H)

def laws_eqPipe.S (a_0 : Array Value) (b_1 : Array Value) (Post : Value → Heap → Prop) (h : Heap) : Prop :=
    ALC a_0 T_impl_Pipe (fun g1 h2 =>
    ALC b_1 T_impl_Pipe (fun g3 h4 =>
    oL (cell h4 ⟨g1, 0, none⟩) fun l5b l5l l5c =>
    oL (cell h4 ⟨g3, 0, none⟩) fun l6b l6l l6c =>
    CALL prg f_laws_eqRingS #[.slice l5b l5l l5c, .slice l6b l6l l6c] (fun q7 h8 =>
    asB q7 fun b9 =>
    BIF (!b9) (
    Post (.bool false) h8) (
    oL (cell h8 ⟨g1, 1, none⟩) fun l10b l10l l10c =>
    oL (cell h8 ⟨g3, 1, none⟩) fun l11b l11l l11c =>
    CALL prg f_laws_eqRingS #[.slice l10b l10l l10c, .slice l11b l11l l11c] (fun q12 h13 =>
    asB q12 fun b14 =>
    BIF (!b14) (
    Post (.bool false) h13) (
    oL (cell h13 ⟨g1, 2, none⟩) fun l15b l15l l15c =>
    oL (cell h13 ⟨g3, 2, none⟩) fun l16b l16l l16c =>
    CALL prg f_laws_eqFloat32S #[.slice l15b l15l l15c, .slice l16b l16l l16c] (fun q17 h18 =>
    asB q17 fun b19 =>
    BIF (!b19) (
    Post (.bool false) h18) (
    LDA 6 h18 ⟨g1, 3, none⟩ fun a20 =>
    LDA 6 h18 ⟨g3, 3, none⟩ fun a21 =>
    CALL prg f_laws_eqFilter #[.agg a20, .agg a21] (fun q22 h23 =>
    asB q22 fun b24 =>
    BIF (!b24) (
    Post (.bool false) h23) (
    oB (cell h23 ⟨g1, 9, none⟩) fun b25 =>
    oB (cell h23 ⟨g3, 9, none⟩) fun b26 =>
    BIF (!(b25 == b26)) (
    Post (.bool false) h23) (
    oF .f32 (cell h23 ⟨g1, 10, none⟩) fun r27 =>
    FFC .f32 r27 .f64 fun r28 =>
    oF .f32 (cell h23 ⟨g3, 10, none⟩) fun r29 =>
    FFC .f32 r29 .f64 fun r30 =>
    CALL prg f_laws_sameFloat #[.float .f64 r28, .float .f64 r30] (fun q31 h32 =>
    asB q31 fun b33 =>
    BIF (!b33) (
    Post (.bool false) h32) (
    oF .f32 (cell h32 ⟨g1, 11, none⟩) fun r34 =>
    FFC .f32 r34 .f64 fun r35 =>
    oF .f32 (cell h32 ⟨g3, 11, none⟩) fun r36 =>
    FFC .f32 r36 .f64 fun r37 =>
    CALL prg f_laws_sameFloat #[.float .f64 r35, .float .f64 r37] (fun q38 h39 =>
    asB q38 fun b40 =>
    BIF (!b40) (
    Post (.bool false) h39) (
    oF .f32 (cell h39 ⟨g1, 12, none⟩) fun r41 =>
    FFC .f32 r41 .f64 fun r42 =>
    oF .f32 (cell h39 ⟨g3, 12, none⟩) fun r43 =>
    FFC .f32 r43 .f64 fun r44 =>
    CALL prg f_laws_sameFloat #[.float .f64 r42, .float .f64 r44] (fun q45 h46 =>
    asB q45 fun b47 =>
    BIF (!b47) (
    Post (.bool false) h46) (
    Post (.bool true) h46)) h39)) h32)) h23))) h18)) h13)) h8)) h4) h2) h
noncomputable def laws_eqPipe.code : Code := (Tryz.f101.body).getD .skip
theorem laws_eqPipe.call {a_0 : Array Value} {b_1 : Array Value} {Post : Value → Heap → Prop} {h : Heap} (H : laws_eqPipe.S a_0 b_1 Post h) : CALL prg f_laws_eqPipe #[.agg a_0, .agg b_1] Post h :=
  fn_call tau_ok mixed (c := laws_eqPipe.code) (Λ := lookL []) Tryz.func101 (by kernel_rfl) (by kernel_rfl)
    (Rq.free (by kernel_rfl))
    (Eq.mp (by kernel_rfl) H)

end Go.Sx
/- Floats in blocks beside own data; blocks made sample by sample. -/
set_option linter.unusedVariables false
set_option linter.unusedSimpArgs false
namespace Go.Sx
open Go.Proofs
set_option maxRecDepth 100000
set_option maxHeartbeats 1000000

theorem rdsF_any {k : FloatKind} {h h' : Heap} : ∀ {xs : List Nat} {vs : List Value}, rds (rF k) h vs xs → rds (rF k) h' vs xs
  | [], vs, R => R
  | a :: xs, vs, R => by
    obtain ⟨v1, v2, rfl, R1, R2⟩ := R
    exact ⟨v1, v2, rfl, R1, rdsF_any R2⟩
/-- n floats, wherever they lie. -/
def FA (n : Nat) (cs : Array Value) (xs : List Nat) : Prop := (rArr n (rF .f32)).rd #[] cs.toList xs
section
variable {n : Nat} {cs : Array Value} {xs : List Nat}
theorem FA.rd (R : FA n cs xs) (h : Heap) : (rArr n (rF .f32)).rd h cs.toList xs := ⟨R.1, rdsF_any R.2⟩
theorem FA.of {h : Heap} (R : (rArr n (rF .f32)).rd h cs.toList xs) : FA n cs xs := ⟨R.1, rdsF_any R.2⟩
theorem FA.size (R : FA n cs xs) : cs.size = n := by have := rsz R rfl; rw [this]; exact Nat.mul_one n
theorem FA.one (R : FA n cs xs) : ∀ v ∈ cs.toList, v.oneCell' = true := (rArr n (rF .f32)).rone R
end
def zeros16 : List Nat := List.replicate 16 0
theorem FA.zero : FA 16 ⟨Z_impl_Block⟩ zeros16 := ⟨rfl, rdsF_any (h := #[]) ((zeros_fl 16).look (Mem.start #[]) (List.Sublist.refl _))⟩
section
variable {h0 h : Heap} {q : Addr} {F : Fr} {L : List Blk} {n : Nat}
theorem Mem.pin2 {h0' h' : Heap} {L' : List Blk} {g m : Nat} {cs : Array Value} {p : Prop} (M : Mem h0 h L) (l : Look L g cs) (M' : Mem h0' h' L') (l' : Look L' g cs) (H : p) : PIN h ⟨g, 0, none⟩ m h' p :=
  ⟨fun j _ => by rw [add_g, M.cell l, M'.cell l'], H⟩
end
end Go.Sx
/- The laws' helpers over pipes: what they compute. -/
set_option linter.unusedVariables false
set_option linter.unusedSimpArgs false
namespace Go.Sx
open Go.Proofs
set_option maxRecDepth 100000

section
variable {h : Heap}
theorem szp_Ring : 0 < rRing.sz := by decide
def w_RingS (xs : List GRing) : Nat := xs.length + nL w_Ring xs
theorem eq_RingS_c {b1 b2 : Option Addr} {l1 c1 l2 c2 : Nat} {xs : List GRing} (S1 : SlR rRing h b1 l1 c1 xs) (S2 : SlR rRing h b2 l2 c2 xs) : CALL prg f_laws_eqRingS #[.slice b1 l1 c1, .slice b2 l2 c2] (fun u h' => u = .bool true ∧ Ext h h') h := by
  have e1 := S1.len
  have e2 := S2.len
  have h2 := S1.2.1
  have h3 := S1.2.2.1
  have := maxLen_lt
  obtain rfl : l1 = l2 := by omega
  refine laws_eqRingS.call (br_f (by simp) ?_)
  refine loop (fun x hh => ∃ n : Nat, x = (b1, l1, c1, b2, l1, c2, (n : Int)) ∧ n ≤ l1 ∧ Ext h hh) (fun x => (l1 - x.2.2.2.2.2.2).toNat) ⟨0, rfl, by omega, Ext.refl _⟩ ?_
  rintro x hh ⟨n, rfl, hn, X⟩
  refine brd (fun hc => ?_) fun hc => ⟨rfl, X⟩
  refine (S1.ext X).idx szp_Ring (by omega) (by omega) fun a Ra => Ra.lda1 rfl fun ca R1 => (S2.ext X).idx szp_Ring (by omega) (by omega) fun a' Rb => Rb.lda1 rfl fun cb R2 => goX (eq_Ring_c R1 R2) fun h' x' => as_b (br_f rfl ?_)
  rw [wrap64_succ (by omega)]
  exact ⟨⟨n + 1, rfl, by omega, X.trans x'⟩, by show _ < _; simp; omega⟩
def n_RingS (xs : List GRing) : Nat := nL (fun r => r.Samples.length + 1) xs
def mkE_Ring (r : GRing) (k : Nat) : GRing := ⟨mk_Float32S r.Samples k, ((k + r.Samples.length : Nat) : Int)⟩
def mk_RingS (xs : List GRing) (k : Nat) : List GRing := mkL mkE_Ring (fun r => r.Samples.length + 1) xs k
theorem nw_RingS (xs : List GRing) : n_RingS xs ≤ 8 * w_RingS xs := by
  unfold n_RingS w_RingS
  induction xs with
  | nil => simp [nL]
  | cons x xs ih =>
    have : w_Ring x = x.Samples.length := rfl
    simp only [nL, List.length_cons] at *; omega
theorem ring_nw (x : GRing) : w_Ring x = x.Samples.length := rfl
theorem mark_RingS_c {h0 : Heap} {B L : List Blk} {b : Option Addr} {l c : Nat} {xs : List GRing} (O0 : SlO T_impl_Ring rRing B b l c xs) (M0 : Mem h0 h (B ++ L)) (k : Nat) (hw0 : w_RingS xs ≤ 1048576) (hk : k + n_RingS xs ≤ 1073741824) :
    CALL prg f_laws_markRingS #[.slice b l c, .int .i64 (k : Int)] (fun u h' => u = .int .i64 ((k + n_RingS xs : Nat) : Int) ∧ ∃ B', SlO T_impl_Ring rRing B' b l c (mk_RingS xs k) ∧ Mem h0 h' (B' ++ L)) h := by
  have hx := O0.len
  have hw : w_RingS xs = xs.length + nL w_Ring xs := rfl
  refine laws_markRingS.call ?_
  refine loop (fun x hh => ∃ (n : Nat) (B : List Blk), x = (b, l, c, ((k + nL (fun r => r.Samples.length + 1) (xs.take n) : Nat) : Int), (n : Int)) ∧ n ≤ l ∧ SlO T_impl_Ring rRing B b l c (mkL mkE_Ring (fun r => r.Samples.length + 1) (xs.take n) k ++ xs.drop n) ∧ Mem h0 hh (B ++ L)) (fun x => (l - x.2.2.2.2).toNat) ⟨0, B, rfl, by omega, by simpa [mkL] using O0, M0⟩ ?_
  rintro x hh ⟨n, B, rfl, hn, O, M⟩
  refine brd (fun hc => ?_) fun hc => ?_
  · have h4 := nL_snoc (n := fun r : GRing => r.Samples.length + 1) (xs := xs) (i := n) (by omega)
    have h5 : nL (fun r : GRing => r.Samples.length + 1) (xs.take (n + 1)) ≤ n_RingS xs := nL_take_le xs (n + 1)
    have h6 : w_Ring xs[n]! ≤ nL w_Ring xs := nL_mem (by omega)
    rw [ring_nw] at h6
    obtain ⟨a0, F', L', rfl, P, hs, close⟩ := O.elem M (i := n) (by omega)
    rw [mkL_at (by omega)] at P
    refine idxs (by omega) (by omega) ?_
    rw [Int.toNat_natCast, show n * 2 = n * rRing.sz from rfl]
    obtain ⟨b2, l2, c2, Bs, N, eb, Ms, Os, hs2, back⟩ := P.sl1 foc_Ring_Samples
    refine o_l eb ((mark_Float32S_c Os Ms (k + nL (fun r => r.Samples.length + 1) (xs.take n)) (by unfold w_Float32S; omega) (by unfold n_Float32S; omega)).mono ?_)
    rintro _ h' ⟨rfl, B', O', M'⟩
    have P := (back _ _ _ _ O' M').1
    refine as_i (idxs (by omega) (by omega) ?_)
    refine P.stI fun h'' P => ?_
    obtain ⟨B', O', M'⟩ := close _ _ _ P
    have st := mkL_step (mk := mkE_Ring) (n := fun r : GRing => r.Samples.length + 1) (k := k) (xs := xs) (i := n) (by omega)
    have O' : SlO T_impl_Ring rRing B' (some a0) l c ((mkL mkE_Ring (fun r => r.Samples.length + 1) (xs.take n) k ++ xs.drop n).set n (mkE_Ring xs[n]! (k + nL (fun r => r.Samples.length + 1) (xs.take n)))) := O'
    rw [st] at O'
    have e7 : n_Float32S xs[n]!.Samples = xs[n]!.Samples.length := rfl
    rw [wrap64_succ (by omega), wrap64_succ (by omega)]
    exact ⟨⟨n + 1, B', by rw [h4, e7]; simp only [Nat.add_assoc], by omega, O', M'⟩, by show _ < _; simp; omega⟩
  · obtain rfl : n = l := by omega
    have e : xs.take n = xs := by rw [← hx]; exact List.take_length
    have e2 : xs.drop n = [] := List.drop_of_length_le (by omega)
    rw [e, e2, List.append_nil] at O
    rw [e]
    exact ⟨rfl, B, O, M⟩
theorem held_RingS_c {b : Option Addr} {l c : Nat} {xs : List GRing} (k : Nat) (S : SlR rRing h b l c (mk_RingS xs k)) (hw0 : w_RingS xs ≤ 1048576) (hk : k + n_RingS xs ≤ 1073741824) :
    CALL prg f_laws_heldRingS #[.slice b l c, .int .i64 (k : Int)] (fun u h' => u = .int .i64 ((k + n_RingS xs : Nat) : Int) ∧ Ext h h') h := by
  have hx : xs.length = l := by have := S.len; rwa [mk_RingS, mkL_len] at this
  have hw : w_RingS xs = xs.length + nL w_Ring xs := rfl
  refine laws_heldRingS.call ?_
  refine loop (fun x hh => ∃ n : Nat, x = (b, l, c, ((k + nL (fun r => r.Samples.length + 1) (xs.take n) : Nat) : Int), (n : Int)) ∧ n ≤ l ∧ Ext h hh) (fun x => (l - x.2.2.2.2).toNat) ⟨0, rfl, by omega, Ext.refl _⟩ ?_
  rintro x hh ⟨n, rfl, hn, X⟩
  refine brd (fun hc => ?_) fun hc => ?_
  · have h4 := nL_snoc (n := fun r : GRing => r.Samples.length + 1) (xs := xs) (i := n) (by omega)
    have h5 : nL (fun r : GRing => r.Samples.length + 1) (xs.take (n + 1)) ≤ n_RingS xs := nL_take_le xs (n + 1)
    have h6 : w_Ring xs[n]! ≤ nL w_Ring xs := nL_mem (by omega)
    rw [ring_nw] at h6
    have hm : (mk_RingS xs k)[n]! = mkE_Ring xs[n]! (k + nL (fun r => r.Samples.length + 1) (xs.take n)) := by unfold mk_RingS; rw [mkL_get (by omega)]
    have e7 : n_Float32S xs[n]!.Samples = xs[n]!.Samples.length := rfl
    refine (S.ext X).idx szp_Ring (by omega) (by omega) fun a Ra => ?_
    rw [Int.toNat_natCast, hm] at Ra
    refine Ra.oL1 fun b2 l2 c2 S2 => goX (held_Float32S_c (xs := xs[n]!.Samples) _ S2 (by unfold w_Float32S; omega) (by unfold n_Float32S; omega)) fun h' x' => as_i (br_f (decide_eq_false (by omega)) ?_)
    refine ((S.ext X).ext x').idx szp_Ring (by omega) (by omega) fun a Ra => ?_
    rw [Int.toNat_natCast, hm] at Ra
    refine Ra.oI (br_f (bne_self_eq_false _) ?_)
    rw [wrap64_succ (by omega), wrap64_succ (by omega)]
    exact ⟨⟨n + 1, by rw [h4, e7]; simp only [Nat.add_assoc], by omega, X.trans x'⟩, by show _ < _; simp; omega⟩
  · obtain rfl : n = l := by omega
    have e : xs.take n = xs := by rw [← hx]; exact List.take_length
    rw [e]
    exact ⟨rfl, X⟩
theorem eq_Pipe_c {ca cb : Array Value} {x : GPipe} (Ra : rPipe.rd h ca.toList x) (Rb : rPipe.rd h cb.toList x) : CALL prg f_laws_eqPipe #[.agg ca, .agg cb] (fun u h' => u = .bool true ∧ Ext h h') h := by
  refine laws_eqPipe.call (alcR Ra fun g1 h1 x1 A => alcR (rPipe.ext x1 Rb) fun g2 h2 x2 B => ?_)
  have A := A.ext x2
  have X := x1.trans x2
  refine A.oL2 fun b1 l1 c1 S1 => B.oL2 fun b2 l2 c2 S2 => goX (eq_RingS_c S1 S2) fun h' x' => as_b (br_f rfl ?_)
  have A := A.ext x'
  have B := B.ext x'
  have X := X.trans x'
  refine A.oL2 fun b1 l1 c1 S1 => B.oL2 fun b2 l2 c2 S2 => goX (eq_RingS_c S1 S2) fun h' x' => as_b (br_f rfl ?_)
  have A := A.ext x'
  have B := B.ext x'
  have X := X.trans x'
  refine A.oL2 fun b1 l1 c1 S1 => B.oL2 fun b2 l2 c2 S2 => goX (eq_Float32S_c S1 S2) fun h' x' => as_b (br_f rfl ?_)
  have A := A.ext x'
  have B := B.ext x'
  have X := X.trans x'
  refine A.lda2 foc_Pipe_End rfl fun c1 R1 => B.lda2 foc_Pipe_End rfl fun c2 R2 => goX (eq_Filter_c R1 R2) fun h' x' => as_b (br_f rfl ?_)
  have A := A.ext x'
  have B := B.ext x'
  have X := X.trans x'
  refine A.oB2 (B.oB2 (br_f (by simp) ?_))
  refine A.oF2 fun y hy => ffc_wide hy fun r1 k1 => B.oF2 fun z hz => ffc_wide hz fun r2 k2 => goX (sameW_c k1 k2 _) fun h' x' => as_b (br_f rfl ?_)
  have A := A.ext x'
  have B := B.ext x'
  have X := X.trans x'
  refine A.oF2 fun y hy => ffc_wide hy fun r1 k1 => B.oF2 fun z hz => ffc_wide hz fun r2 k2 => goX (sameW_c k1 k2 _) fun h' x' => as_b (br_f rfl ?_)
  have A := A.ext x'
  have B := B.ext x'
  have X := X.trans x'
  refine A.oF2 fun y hy => ffc_wide hy fun r1 k1 => B.oF2 fun z hz => ffc_wide hz fun r2 k2 => goX (sameW_c k1 k2 _) fun h' x' => as_b (br_f rfl ?_)
  have A := A.ext x'
  have B := B.ext x'
  have X := X.trans x'
  exact ⟨rfl, X⟩
def w_Pipe (x : GPipe) : Nat := w_RingS x.Right + w_RingS x.Left + w_Float32S x.Scatter
end
end Go.Sx
