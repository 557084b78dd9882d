/- What functions of this seat's program compute, told in words (a predicate over heaps for each), and the proofs that the words are no more than the code's own weakest precondition. -/
import Derived.Test.YtnhcoeogejgidacGreatDoorTab
namespace Go.Sx
open Go.Proofs
set_option linter.unusedVariables false
set_option maxRecDepth 100000

def laws_sameFloat.J4 (Post : Value → Heap → Prop) (a_0 : Nat) (b_1 : Nat) (t26 : Bool) (h : Heap) : Prop :=
    BIF t26 (
    FOP .f64 (FloatKind.f64.format.div 4607182418800017408 a_0) fun r1 =>
    FOP .f64 (FloatKind.f64.format.div 4607182418800017408 b_1) fun r2 =>
    Post (.bool ((FloatKind.f64.format.order r1 0 == some .gt) == (FloatKind.f64.format.order r2 0 == some .gt))) h) (
    Post (.bool (FloatKind.f64.format.order a_0 b_1 == some .eq)) h)
def laws_sameFloat.j4 (Post : Value → Heap → Prop) : Frame → Heap → Prop := fun fr h => GRD (shape (kds 37 [(0, .f .f64), (1, .f .f64), (26, .b)]) fr) (laws_sameFloat.J4 Post (gF (lget fr 0)) (gF (lget fr 1)) (gB (lget fr 26)) h)
def laws_sameFloat.J3 (Post : Value → Heap → Prop) (a_0 : Nat) (b_1 : Nat) (h : Heap) : Prop :=
    BIF (FloatKind.f64.format.order a_0 0 == some .eq) (
    laws_sameFloat.J4 Post a_0 b_1 (FloatKind.f64.format.order b_1 0 == some .eq) h) (
    laws_sameFloat.J4 Post a_0 b_1 false h)
def laws_sameFloat.j3 (Post : Value → Heap → Prop) : Frame → Heap → Prop := fun fr h => GRD (shape (kds 37 [(0, .f .f64), (1, .f .f64)]) fr) (laws_sameFloat.J3 Post (gF (lget fr 0)) (gF (lget fr 1)) h)
def laws_sameFloat.S (a_0 : Nat) (b_1 : Nat) (Post : Value → Heap → Prop) (h : Heap) : Prop :=
    BIF (FloatKind.f64.format.order a_0 a_0 != some .eq) (
    BIF (FloatKind.f64.format.order a_0 a_0 != some .eq) (
    Post (.bool (FloatKind.f64.format.order b_1 b_1 != some .eq)) h) (
    Post (.bool false) h)) (
    BIF (FloatKind.f64.format.order b_1 b_1 != some .eq) (
    BIF (FloatKind.f64.format.order a_0 a_0 != some .eq) (
    Post (.bool (FloatKind.f64.format.order b_1 b_1 != some .eq)) h) (
    Post (.bool false) h)) (
    laws_sameFloat.J3 Post a_0 b_1 h))
noncomputable def laws_sameFloat.code : Code := (Tryz.f50.body).getD .skip
theorem laws_sameFloat.call {a_0 : Nat} {b_1 : Nat} {Post : Value → Heap → Prop} {h : Heap} (H : laws_sameFloat.S a_0 b_1 Post h) : CALL prg f_laws_sameFloat #[.float .f64 a_0, .float .f64 b_1] Post h :=
  fn_call tau_ok mixed (c := laws_sameFloat.code) (Λ := lookL [(3, laws_sameFloat.j3 Post), (4, laws_sameFloat.j4 Post)]) Tryz.func50 (by kernel_rfl) (by kernel_rfl)
    (Rq.seq (by kernel_rfl) (Rq.free (by kernel_rfl)) (Rq.seqJ (laws_sameFloat.j3 Post) (by kernel_rfl) (seg (fun _ _ => by kernel_rfl)) (Rq.free (by kernel_rfl))
(Rq.seq (by kernel_rfl) (Rq.seqJ (laws_sameFloat.j4 Post) (by kernel_rfl) (seg (fun _ _ => by kernel_rfl)) (Rq.free (by kernel_rfl))
(Rq.free (by kernel_rfl))) (Rq.free (by kernel_rfl)))))
    (Eq.mp (by kernel_rfl) H)

def laws_szFloat32S.S (a_0b : Option Addr) (a_0l a_0c : Nat) (left_1 : Int) (Post : Value → Heap → Prop) (h : Heap) : Prop :=
    BIF ((decide ((IntKind.i64.wrap (left_1 - (a_0l : Int))) < (0 : Int)))) (
    Post (.int .i64 (-1 : Int)) h) (
    Post (.int .i64 ((IntKind.i64.wrap (left_1 - (a_0l : Int))))) h)
noncomputable def laws_szFloat32S.code : Code := (Tryz.f83.body).getD .skip
theorem laws_szFloat32S.call {a_0b : Option Addr} {a_0l a_0c : Nat} {left_1 : Int} {Post : Value → Heap → Prop} {h : Heap} (H : laws_szFloat32S.S a_0b a_0l a_0c left_1 Post h) : CALL prg f_laws_szFloat32S #[.slice a_0b a_0l a_0c, .int .i64 left_1] Post h :=
  fn_call tau_ok mixed (c := laws_szFloat32S.code) (Λ := lookL []) Tryz.func83 (by kernel_rfl) (by kernel_rfl)
    (Rq.free (by kernel_rfl))
    (Eq.mp (by kernel_rfl) H)

def laws_toFloat32S.B3 (Post : Value → Heap → Prop) (N3 : (Option Addr × Nat × Nat × Option Addr × Nat × Nat × Int) → Heap → Prop) : Option Addr × Nat × Nat × Option Addr × Nat × Nat × Int → Heap → Prop
  | (a_0b, a_0l, a_0c, out_3b, out_3l, out_3c, i_4), h =>
    BIF ((decide (i_4 < (a_0l : Int)))) (
    IDXS a_0b i_4 a_0l fun p7 =>
    oF .f32 (cell h ((Addr.add p7 ((Int.toNat i_4) * 1)))) fun r8 =>
    IDXS out_3b i_4 out_3l fun p9 =>
    ST1 h ((Addr.add p9 ((Int.toNat i_4) * 1))) (.float .f32 r8) fun h10 =>
    N3 (a_0b, a_0l, a_0c, out_3b, out_3l, out_3c, ((IntKind.i64.wrap (i_4 + (1 : Int))))) h10) (
    Post (.slice out_3b out_3l out_3c) h)
def laws_toFloat32S.g3 (fr : Frame) : Option Addr × Nat × Nat × Option Addr × Nat × Nat × Int := ((gLb (lget fr 0)), (gLl (lget fr 0)), (gLc (lget fr 0)), (gLb (lget fr 3)), (gLl (lget fr 3)), (gLc (lget fr 3)), (gI (lget fr 4)))
def laws_toFloat32S.l3 (Post : Value → Heap → Prop) : Frame → Heap → Prop := fun fr h => GRD (shape (kds 22 [(0, .l), (3, .l), (4, .i .i64)]) fr) (LOOP (laws_toFloat32S.B3 Post) (laws_toFloat32S.g3 fr) h)
def laws_toFloat32S.S (a_0b : Option Addr) (a_0l a_0c : Nat) (Post : Value → Heap → Prop) (h : Heap) : Prop :=
    MKS ti_float32 T_float32 (a_0l : Int) (a_0l : Int) (fun g3 h4 =>
    LOOP (laws_toFloat32S.B3 Post) (a_0b, a_0l, a_0c, (some ⟨g3, 0, none⟩), a_0l, a_0l, (0 : Int)) h4) h
noncomputable def laws_toFloat32S.code : Code := (Tryz.f93.body).getD .skip
theorem laws_toFloat32S.call {a_0b : Option Addr} {a_0l a_0c : Nat} {Post : Value → Heap → Prop} {h : Heap} (H : laws_toFloat32S.S a_0b a_0l a_0c Post h) : CALL prg f_laws_toFloat32S #[.slice a_0b a_0l a_0c] Post h :=
  fn_call tau_ok mixed (c := laws_toFloat32S.code) (Λ := lookL [(1000003, laws_toFloat32S.l3 Post)]) Tryz.func93 (by kernel_rfl) (by kernel_rfl)
    (Rq.seq (by kernel_rfl) (Rq.free (by kernel_rfl)) (Rq.seq (by kernel_rfl) (Rq.free (by kernel_rfl)) (Rq.seq (by kernel_rfl) (Rq.seq (by kernel_rfl) (Rq.free (by kernel_rfl)) (Rq.block (Rq.loop (laws_toFloat32S.l3 Post) (by kernel_rfl) (segL (g := laws_toFloat32S.g3) tau_ok mixed (Λ := fun N3 => lookL []) (fun _ _ _ => by kernel_rfl) (fun N3 => (Rq.free (by kernel_rfl))))))) (Rq.free (by kernel_rfl)))))
    (Eq.mp (by kernel_rfl) H)

def laws_eqFloat32S.B4 (Post : Value → Heap → Prop) (N4 : (Option Addr × Nat × Nat × Option Addr × Nat × Nat × Int) → Heap → Prop) : Option Addr × Nat × Nat × Option Addr × Nat × Nat × Int → Heap → Prop
  | (a_0b, a_0l, a_0c, b_1b, b_1l, b_1c, i_5), h =>
    BIF ((decide (i_5 < (a_0l : Int)))) (
    IDXS a_0b i_5 a_0l fun p7 =>
    oF .f32 (cell h ((Addr.add p7 ((Int.toNat i_5) * 1)))) fun r8 =>
    IDXS b_1b i_5 b_1l fun p9 =>
    oF .f32 (cell h ((Addr.add p9 ((Int.toNat i_5) * 1)))) fun r10 =>
    (FFC .f32 r8 .f64 fun r11 =>
    PIN h ((Addr.add p9 ((Int.toNat i_5) * 1))) 1 h <|
    FFC .f32 r10 .f64 fun r12 =>
    PIN h ((Addr.add p7 ((Int.toNat i_5) * 1))) 1 h <|
    CALL prg f_laws_sameFloat #[.float .f64 r11, .float .f64 r12] (fun q13 h14 =>
    asB q13 fun b15 =>
    BIF (!b15) (
    Post (.bool false) h14) (
    N4 (a_0b, a_0l, a_0c, b_1b, b_1l, b_1c, ((IntKind.i64.wrap (i_5 + (1 : Int))))) h14)) h) ∧ (FFC .f32 r10 .f64 fun r16 =>
    PIN h ((Addr.add p7 ((Int.toNat i_5) * 1))) 1 h <|
    FFC .f32 r8 .f64 fun r17 =>
    PIN h ((Addr.add p9 ((Int.toNat i_5) * 1))) 1 h <|
    CALL prg f_laws_sameFloat #[.float .f64 r17, .float .f64 r16] (fun q18 h19 =>
    asB q18 fun b20 =>
    BIF (!b20) (
    Post (.bool false) h19) (
    N4 (a_0b, a_0l, a_0c, b_1b, b_1l, b_1c, ((IntKind.i64.wrap (i_5 + (1 : Int))))) h19)) h)) (
    Post (.bool true) h)
def laws_eqFloat32S.g4 (fr : Frame) : Option Addr × Nat × Nat × Option Addr × Nat × Nat × Int := ((gLb (lget fr 0)), (gLl (lget fr 0)), (gLc (lget fr 0)), (gLb (lget fr 1)), (gLl (lget fr 1)), (gLc (lget fr 1)), (gI (lget fr 5)))
def laws_eqFloat32S.l4 (Post : Value → Heap → Prop) : Frame → Heap → Prop := fun fr h => GRD (shape (kds 29 [(0, .l), (1, .l), (5, .i .i64)]) fr) (LOOP (laws_eqFloat32S.B4 Post) (laws_eqFloat32S.g4 fr) h)
def laws_eqFloat32S.S (a_0b : Option Addr) (a_0l a_0c : Nat) (b_1b : Option Addr) (b_1l b_1c : Nat) (Post : Value → Heap → Prop) (h : Heap) : Prop :=
    BIF ((a_0l : Int) != (b_1l : Int)) (
    Post (.bool false) h) (
    LOOP (laws_eqFloat32S.B4 Post) (a_0b, a_0l, a_0c, b_1b, b_1l, b_1c, (0 : Int)) h)
noncomputable def laws_eqFloat32S.code : Code := (Tryz.f113.body).getD .skip
theorem laws_eqFloat32S.call {a_0b : Option Addr} {a_0l a_0c : Nat} {b_1b : Option Addr} {b_1l b_1c : Nat} {Post : Value → Heap → Prop} {h : Heap} (H : laws_eqFloat32S.S a_0b a_0l a_0c b_1b b_1l b_1c Post h) : CALL prg f_laws_eqFloat32S #[.slice a_0b a_0l a_0c, .slice b_1b b_1l b_1c] Post h :=
  fn_call tau_ok mixed (c := laws_eqFloat32S.code) (Λ := lookL [(1000004, laws_eqFloat32S.l4 Post)]) Tryz.func113 (by kernel_rfl) (by kernel_rfl)
    (Rq.seq (by kernel_rfl) (Rq.free (by kernel_rfl)) (Rq.seq (by kernel_rfl) (Rq.free (by kernel_rfl)) (Rq.seq (by kernel_rfl) (Rq.seq (by kernel_rfl) (Rq.free (by kernel_rfl)) (Rq.block (Rq.loop (laws_eqFloat32S.l4 Post) (by kernel_rfl) (segL (g := laws_eqFloat32S.g4) tau_ok mixed (Λ := fun N4 => lookL []) (fun _ _ _ => by kernel_rfl) (fun N4 => (Rq.free (by kernel_rfl))))))) (Rq.free (by kernel_rfl)))))
    (Eq.mp (by kernel_rfl) H)

def laws_markFloat32S.B2 (Post : Value → Heap → Prop) (N2 : (Option Addr × Nat × Nat × Int × Int) → Heap → Prop) : Option Addr × Nat × Nat × Int × Int → Heap → Prop
  | (a_0b, a_0l, a_0c, k_1, i_5), h =>
    BIF ((decide (i_5 < (a_0l : Int)))) (
    IDXS a_0b i_5 a_0l fun p3 =>
    ST1 h ((Addr.add p3 ((Int.toNat i_5) * 1))) (.float .f32 (FloatKind.f32.nearest k_1)) fun h4 =>
    N2 (a_0b, a_0l, a_0c, ((IntKind.i64.wrap (k_1 + (1 : Int)))), ((IntKind.i64.wrap (i_5 + (1 : Int))))) h4) (
    Post (.int .i64 k_1) h)
def laws_markFloat32S.g2 (fr : Frame) : Option Addr × Nat × Nat × Int × Int := ((gLb (lget fr 0)), (gLl (lget fr 0)), (gLc (lget fr 0)), (gI (lget fr 1)), (gI (lget fr 5)))
def laws_markFloat32S.l2 (Post : Value → Heap → Prop) : Frame → Heap → Prop := fun fr h => GRD (shape (kds 20 [(0, .l), (1, .i .i64), (5, .i .i64)]) fr) (LOOP (laws_markFloat32S.B2 Post) (laws_markFloat32S.g2 fr) h)
def laws_markFloat32S.S (a_0b : Option Addr) (a_0l a_0c : Nat) (k_1 : Int) (Post : Value → Heap → Prop) (h : Heap) : Prop :=
    LOOP (laws_markFloat32S.B2 Post) (a_0b, a_0l, a_0c, k_1, (0 : Int)) h
noncomputable def laws_markFloat32S.code : Code := (Tryz.f116.body).getD .skip
theorem laws_markFloat32S.call {a_0b : Option Addr} {a_0l a_0c : Nat} {k_1 : Int} {Post : Value → Heap → Prop} {h : Heap} (H : laws_markFloat32S.S a_0b a_0l a_0c k_1 Post h) : CALL prg f_laws_markFloat32S #[.slice a_0b a_0l a_0c, .int .i64 k_1] Post h :=
  fn_call tau_ok mixed (c := laws_markFloat32S.code) (Λ := lookL [(1000002, laws_markFloat32S.l2 Post)]) Tryz.func116 (by kernel_rfl) (by kernel_rfl)
    (Rq.seq (by kernel_rfl) (Rq.free (by kernel_rfl)) (Rq.seq (by kernel_rfl) (Rq.seq (by kernel_rfl) (Rq.free (by kernel_rfl)) (Rq.block (Rq.loop (laws_markFloat32S.l2 Post) (by kernel_rfl) (segL (g := laws_markFloat32S.g2) tau_ok mixed (Λ := fun N2 => lookL []) (fun _ _ _ => by kernel_rfl) (fun N2 => (Rq.free (by kernel_rfl))))))) (Rq.free (by kernel_rfl))))
    (Eq.mp (by kernel_rfl) H)

def laws_heldFloat32S.B2 (Post : Value → Heap → Prop) (N2 : (Option Addr × Nat × Nat × Int × Int) → Heap → Prop) : Option Addr × Nat × Nat × Int × Int → Heap → Prop
  | (a_0b, a_0l, a_0c, k_1, i_5), h =>
    BIF ((decide (i_5 < (a_0l : Int)))) (
    IDXS a_0b i_5 a_0l fun p3 =>
    oF .f32 (cell h ((Addr.add p3 ((Int.toNat i_5) * 1)))) fun r4 =>
    BIF (FloatKind.f32.format.order r4 (FloatKind.f32.nearest k_1) != some .eq) (
    Post (.int .i64 (-1 : Int)) h) (
    N2 (a_0b, a_0l, a_0c, ((IntKind.i64.wrap (k_1 + (1 : Int)))), ((IntKind.i64.wrap (i_5 + (1 : Int))))) h)) (
    Post (.int .i64 k_1) h)
def laws_heldFloat32S.g2 (fr : Frame) : Option Addr × Nat × Nat × Int × Int := ((gLb (lget fr 0)), (gLl (lget fr 0)), (gLc (lget fr 0)), (gI (lget fr 1)), (gI (lget fr 5)))
def laws_heldFloat32S.l2 (Post : Value → Heap → Prop) : Frame → Heap → Prop := fun fr h => GRD (shape (kds 22 [(0, .l), (1, .i .i64), (5, .i .i64)]) fr) (LOOP (laws_heldFloat32S.B2 Post) (laws_heldFloat32S.g2 fr) h)
def laws_heldFloat32S.S (a_0b : Option Addr) (a_0l a_0c : Nat) (k_1 : Int) (Post : Value → Heap → Prop) (h : Heap) : Prop :=
    LOOP (laws_heldFloat32S.B2 Post) (a_0b, a_0l, a_0c, k_1, (0 : Int)) h
noncomputable def laws_heldFloat32S.code : Code := (Tryz.f118.body).getD .skip
theorem laws_heldFloat32S.call {a_0b : Option Addr} {a_0l a_0c : Nat} {k_1 : Int} {Post : Value → Heap → Prop} {h : Heap} (H : laws_heldFloat32S.S a_0b a_0l a_0c k_1 Post h) : CALL prg f_laws_heldFloat32S #[.slice a_0b a_0l a_0c, .int .i64 k_1] Post h :=
  fn_call tau_ok mixed (c := laws_heldFloat32S.code) (Λ := lookL [(1000002, laws_heldFloat32S.l2 Post)]) Tryz.func118 (by kernel_rfl) (by kernel_rfl)
    (Rq.seq (by kernel_rfl) (Rq.free (by kernel_rfl)) (Rq.seq (by kernel_rfl) (Rq.seq (by kernel_rfl) (Rq.free (by kernel_rfl)) (Rq.block (Rq.loop (laws_heldFloat32S.l2 Post) (by kernel_rfl) (segL (g := laws_heldFloat32S.g2) tau_ok mixed (Λ := fun N2 => lookL []) (fun _ _ _ => by kernel_rfl) (fun N2 => (Rq.free (by kernel_rfl))))))) (Rq.free (by kernel_rfl))))
    (Eq.mp (by kernel_rfl) H)

end Go.Sx
