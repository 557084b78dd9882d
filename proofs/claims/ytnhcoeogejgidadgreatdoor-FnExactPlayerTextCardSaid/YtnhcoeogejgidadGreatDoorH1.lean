/- What functions of this seat's program compute, told in words (a predicate over heaps for each), and the proofs that the words are no more than the code's own weakest precondition. -/
import Derived.Test.YtnhcoeogejgidadGreatDoorTab
namespace Go.Sx
open Go.Proofs
set_option linter.unusedVariables false
set_option maxRecDepth 100000

def laws_sameFloat.J4 (Post : Value → Heap → Prop) (a_0 : Nat) (b_1 : Nat) (t26 : Bool) (h : Heap) : Prop :=
    BIF t26 (
    FOP .f64 (FloatKind.f64.format.div 4607182418800017408 a_0) fun r1 =>
    FOP .f64 (FloatKind.f64.format.div 4607182418800017408 b_1) fun r2 =>
    Post (.bool ((FloatKind.f64.format.order r1 0 == some .gt) == (FloatKind.f64.format.order r2 0 == some .gt))) h) (
    Post (.bool (FloatKind.f64.format.order a_0 b_1 == some .eq)) h)
def laws_sameFloat.j4 (Post : Value → Heap → Prop) : Frame → Heap → Prop := fun fr h => GRD (shape (kds 37 [(0, .f .f64), (1, .f .f64), (26, .b)]) fr) (laws_sameFloat.J4 Post (gF (lget fr 0)) (gF (lget fr 1)) (gB (lget fr 26)) h)
def laws_sameFloat.J3 (Post : Value → Heap → Prop) (a_0 : Nat) (b_1 : Nat) (h : Heap) : Prop :=
    BIF (FloatKind.f64.format.order a_0 0 == some .eq) (
    laws_sameFloat.J4 Post a_0 b_1 (FloatKind.f64.format.order b_1 0 == some .eq) h) (
    laws_sameFloat.J4 Post a_0 b_1 false h)
def laws_sameFloat.j3 (Post : Value → Heap → Prop) : Frame → Heap → Prop := fun fr h => GRD (shape (kds 37 [(0, .f .f64), (1, .f .f64)]) fr) (laws_sameFloat.J3 Post (gF (lget fr 0)) (gF (lget fr 1)) h)
def laws_sameFloat.S (a_0 : Nat) (b_1 : Nat) (Post : Value → Heap → Prop) (h : Heap) : Prop :=
    BIF (FloatKind.f64.format.order a_0 a_0 != some .eq) (
    BIF (FloatKind.f64.format.order a_0 a_0 != some .eq) (
    Post (.bool (FloatKind.f64.format.order b_1 b_1 != some .eq)) h) (
    Post (.bool false) h)) (
    BIF (FloatKind.f64.format.order b_1 b_1 != some .eq) (
    BIF (FloatKind.f64.format.order a_0 a_0 != some .eq) (
    Post (.bool (FloatKind.f64.format.order b_1 b_1 != some .eq)) h) (
    Post (.bool false) h)) (
    laws_sameFloat.J3 Post a_0 b_1 h))
noncomputable def laws_sameFloat.code : Code := (Tryz.f49.body).getD .skip
theorem laws_sameFloat.call {a_0 : Nat} {b_1 : Nat} {Post : Value → Heap → Prop} {h : Heap} (H : laws_sameFloat.S a_0 b_1 Post h) : CALL prg f_laws_sameFloat #[.float .f64 a_0, .float .f64 b_1] Post h :=
  fn_call tau_ok mixed (c := laws_sameFloat.code) (Λ := lookL [(3, laws_sameFloat.j3 Post), (4, laws_sameFloat.j4 Post)]) Tryz.func49 (by kernel_rfl) (by kernel_rfl)
    (Rq.seq (by kernel_rfl) (Rq.free (by kernel_rfl)) (Rq.seqJ (laws_sameFloat.j3 Post) (by kernel_rfl) (seg (fun _ _ => by kernel_rfl)) (Rq.free (by kernel_rfl))
(Rq.seq (by kernel_rfl) (Rq.seqJ (laws_sameFloat.j4 Post) (by kernel_rfl) (seg (fun _ _ => by kernel_rfl)) (Rq.free (by kernel_rfl))
(Rq.free (by kernel_rfl))) (Rq.free (by kernel_rfl)))))
    (Eq.mp (by kernel_rfl) H)

def laws_szFloat32S.S (a_0b : Option Addr) (a_0l a_0c : Nat) (left_1 : Int) (Post : Value → Heap → Prop) (h : Heap) : Prop :=
    BIF ((decide ((IntKind.i64.wrap (left_1 - (a_0l : Int))) < (0 : Int)))) (
    Post (.int .i64 (-1 : Int)) h) (
    Post (.int .i64 ((IntKind.i64.wrap (left_1 - (a_0l : Int))))) h)
noncomputable def laws_szFloat32S.code : Code := (Tryz.f79.body).getD .skip
theorem laws_szFloat32S.call {a_0b : Option Addr} {a_0l a_0c : Nat} {left_1 : Int} {Post : Value → Heap → Prop} {h : Heap} (H : laws_szFloat32S.S a_0b a_0l a_0c left_1 Post h) : CALL prg f_laws_szFloat32S #[.slice a_0b a_0l a_0c, .int .i64 left_1] Post h :=
  fn_call tau_ok mixed (c := laws_szFloat32S.code) (Λ := lookL []) Tryz.func79 (by kernel_rfl) (by kernel_rfl)
    (Rq.free (by kernel_rfl))
    (Eq.mp (by kernel_rfl) H)

def laws_toFloat32S.B3 (Post : Value → Heap → Prop) (N3 : (Option Addr × Nat × Nat × Option Addr × Nat × Nat × Int) → Heap → Prop) : Option Addr × Nat × Nat × Option Addr × Nat × Nat × Int → Heap → Prop
  | (a_0b, a_0l, a_0c, out_3b, out_3l, out_3c, i_4), h =>
    BIF ((decide (i_4 < (a_0l : Int)))) (
    IDXS a_0b i_4 a_0l fun p7 =>
    oF .f32 (cell h ((Addr.add p7 ((Int.toNat i_4) * 1)))) fun r8 =>
    IDXS out_3b i_4 out_3l fun p9 =>
    ST1 h ((Addr.add p9 ((Int.toNat i_4) * 1))) (.float .f32 r8) fun h10 =>
    N3 (a_0b, a_0l, a_0c, out_3b, out_3l, out_3c, ((IntKind.i64.wrap (i_4 + (1 : Int))))) h10) (
    Post (.slice out_3b out_3l out_3c) h)
def laws_toFloat32S.g3 (fr : Frame) : Option Addr × Nat × Nat × Option Addr × Nat × Nat × Int := ((gLb (lget fr 0)), (gLl (lget fr 0)), (gLc (lget fr 0)), (gLb (lget fr 3)), (gLl (lget fr 3)), (gLc (lget fr 3)), (gI (lget fr 4)))
def laws_toFloat32S.l3 (Post : Value → Heap → Prop) : Frame → Heap → Prop := fun fr h => GRD (shape (kds 22 [(0, .l), (3, .l), (4, .i .i64)]) fr) (LOOP (laws_toFloat32S.B3 Post) (laws_toFloat32S.g3 fr) h)
def laws_toFloat32S.S (a_0b : Option Addr) (a_0l a_0c : Nat) (Post : Value → Heap → Prop) (h : Heap) : Prop :=
    MKS ti_float32 T_float32 (a_0l : Int) (a_0l : Int) (fun g3 h4 =>
    LOOP (laws_toFloat32S.B3 Post) (a_0b, a_0l, a_0c, (some ⟨g3, 0, none⟩), a_0l, a_0l, (0 : Int)) h4) h
noncomputable def laws_toFloat32S.code : Code := (Tryz.f89.body).getD .skip
theorem laws_toFloat32S.call {a_0b : Option Addr} {a_0l a_0c : Nat} {Post : Value → Heap → Prop} {h : Heap} (H : laws_toFloat32S.S a_0b a_0l a_0c Post h) : CALL prg f_laws_toFloat32S #[.slice a_0b a_0l a_0c] Post h :=
  fn_call tau_ok mixed (c := laws_toFloat32S.code) (Λ := lookL [(1000003, laws_toFloat32S.l3 Post)]) Tryz.func89 (by kernel_rfl) (by kernel_rfl)
    (Rq.seq (by kernel_rfl) (Rq.free (by kernel_rfl)) (Rq.seq (by kernel_rfl) (Rq.free (by kernel_rfl)) (Rq.seq (by kernel_rfl) (Rq.seq (by kernel_rfl) (Rq.free (by kernel_rfl)) (Rq.block (Rq.loop (laws_toFloat32S.l3 Post) (by kernel_rfl) (segL (g := laws_toFloat32S.g3) tau_ok mixed (Λ := fun N3 => lookL []) (fun _ _ _ => by kernel_rfl) (fun N3 => (Rq.free (by kernel_rfl))))))) (Rq.free (by kernel_rfl)))))
    (Eq.mp (by kernel_rfl) H)

def laws_eqFloat32S.B4 (Post : Value → Heap → Prop) (N4 : (Option Addr × Nat × Nat × Option Addr × Nat × Nat × Int) → Heap → Prop) : Option Addr × Nat × Nat × Option Addr × Nat × Nat × Int → Heap → Prop
  | (a_0b, a_0l, a_0c, b_1b, b_1l, b_1c, i_5), h =>
    BIF ((decide (i_5 < (a_0l : Int)))) (
    IDXS a_0b i_5 a_0l fun p7 =>
    oF .f32 (cell h ((Addr.add p7 ((Int.toNat i_5) * 1)))) fun r8 =>
    IDXS b_1b i_5 b_1l fun p9 =>
    oF .f32 (cell h ((Addr.add p9 ((Int.toNat i_5) * 1)))) fun r10 =>
    (FFC .f32 r8 .f64 fun r11 =>
    PIN h ((Addr.add p9 ((Int.toNat i_5) * 1))) 1 h <|
    FFC .f32 r10 .f64 fun r12 =>
    PIN h ((Addr.add p7 ((Int.toNat i_5) * 1))) 1 h <|
    CALL prg f_laws_sameFloat #[.float .f64 r11, .float .f64 r12] (fun q13 h14 =>
    asB q13 fun b15 =>
    BIF (!b15) (
    Post (.bool false) h14) (
    N4 (a_0b, a_0l, a_0c, b_1b, b_1l, b_1c, ((IntKind.i64.wrap (i_5 + (1 : Int))))) h14)) h) ∧ (FFC .f32 r10 .f64 fun r16 =>
    PIN h ((Addr.add p7 ((Int.toNat i_5) * 1))) 1 h <|
    FFC .f32 r8 .f64 fun r17 =>
    PIN h ((Addr.add p9 ((Int.toNat i_5) * 1))) 1 h <|
    CALL prg f_laws_sameFloat #[.float .f64 r17, .float .f64 r16] (fun q18 h19 =>
    asB q18 fun b20 =>
    BIF (!b20) (
    Post (.bool false) h19) (
    N4 (a_0b, a_0l, a_0c, b_1b, b_1l, b_1c, ((IntKind.i64.wrap (i_5 + (1 : Int))))) h19)) h)) (
    Post (.bool true) h)
def laws_eqFloat32S.g4 (fr : Frame) : Option Addr × Nat × Nat × Option Addr × Nat × Nat × Int := ((gLb (lget fr 0)), (gLl (lget fr 0)), (gLc (lget fr 0)), (gLb (lget fr 1)), (gLl (lget fr 1)), (gLc (lget fr 1)), (gI (lget fr 5)))
def laws_eqFloat32S.l4 (Post : Value → Heap → Prop) : Frame → Heap → Prop := fun fr h => GRD (shape (kds 29 [(0, .l), (1, .l), (5, .i .i64)]) fr) (LOOP (laws_eqFloat32S.B4 Post) (laws_eqFloat32S.g4 fr) h)
def laws_eqFloat32S.S (a_0b : Option Addr) (a_0l a_0c : Nat) (b_1b : Option Addr) (b_1l b_1c : Nat) (Post : Value → Heap → Prop) (h : Heap) : Prop :=
    BIF ((a_0l : Int) != (b_1l : Int)) (
    Post (.bool false) h) (
    LOOP (laws_eqFloat32S.B4 Post) (a_0b, a_0l, a_0c, b_1b, b_1l, b_1c, (0 : Int)) h)
noncomputable def laws_eqFloat32S.code : Code := (Tryz.f118.body).getD .skip
theorem laws_eqFloat32S.call {a_0b : Option Addr} {a_0l a_0c : Nat} {b_1b : Option Addr} {b_1l b_1c : Nat} {Post : Value → Heap → Prop} {h : Heap} (H : laws_eqFloat32S.S a_0b a_0l a_0c b_1b b_1l b_1c Post h) : CALL prg f_laws_eqFloat32S #[.slice a_0b a_0l a_0c, .slice b_1b b_1l b_1c] Post h :=
  fn_call tau_ok mixed (c := laws_eqFloat32S.code) (Λ := lookL [(1000004, laws_eqFloat32S.l4 Post)]) Tryz.func118 (by kernel_rfl) (by kernel_rfl)
    (Rq.seq (by kernel_rfl) (Rq.free (by kernel_rfl)) (Rq.seq (by kernel_rfl) (Rq.free (by kernel_rfl)) (Rq.seq (by kernel_rfl) (Rq.seq (by kernel_rfl) (Rq.free (by kernel_rfl)) (Rq.block (Rq.loop (laws_eqFloat32S.l4 Post) (by kernel_rfl) (segL (g := laws_eqFloat32S.g4) tau_ok mixed (Λ := fun N4 => lookL []) (fun _ _ _ => by kernel_rfl) (fun N4 => (Rq.free (by kernel_rfl))))))) (Rq.free (by kernel_rfl)))))
    (Eq.mp (by kernel_rfl) H)

def laws_toFloat32A2.B3 (Post : Value → Heap → Prop) (N3 : (Addr × Addr × Addr × Int) → Heap → Prop) : Addr × Addr × Addr × Int → Heap → Prop
  | (a_1, t2, out_3, i_4), h =>
    BIF ((decide (i_4 < (2 : Int)))) (
    IDX i_4 2 <|
    oF .f32 (cell h ((Addr.add a_1 ((Int.toNat i_4) * 1)))) fun r7 =>
    IDX i_4 2 <|
    ST1 h ((Addr.add out_3 ((Int.toNat i_4) * 1))) (.float .f32 r7) fun h8 =>
    N3 (a_1, t2, out_3, ((IntKind.i64.wrap (i_4 + (1 : Int))))) h8) (
    LDA 2 h out_3 fun a9 =>
    STA 2 h t2 a9 fun h10 =>
    LDA 2 h10 t2 fun a11 =>
    Post (.agg a11) h10)
def laws_toFloat32A2.g3 (fr : Frame) : Addr × Addr × Addr × Int := ((gP (lget fr 1)), (gP (lget fr 2)), (gP (lget fr 3)), (gI (lget fr 4)))
def laws_toFloat32A2.l3 (Post : Value → Heap → Prop) : Frame → Heap → Prop := fun fr h => GRD (shape (kds 15 [(1, .p), (2, .p), (3, .p), (4, .i .i64)]) fr) (LOOP (laws_toFloat32A2.B3 Post) (laws_toFloat32A2.g3 fr) h)
def laws_toFloat32A2.S (a_0 : Array Value) (Post : Value → Heap → Prop) (h : Heap) : Prop :=
    ALC a_0 T_2_float32 (fun g1 h2 =>
    ALC ⟨Z_2_float32⟩ T_2_float32 (fun g3 h4 =>
    ALC ⟨Z_2_float32⟩ T_2_float32 (fun g5 h6 =>
    LOOP (laws_toFloat32A2.B3 Post) (⟨g1, 0, none⟩, ⟨g3, 0, none⟩, ⟨g5, 0, none⟩, (0 : Int)) h6) h4) h2) h
noncomputable def laws_toFloat32A2.code : Code := (Tryz.f258.body).getD .skip
theorem laws_toFloat32A2.call {a_0 : Array Value} {Post : Value → Heap → Prop} {h : Heap} (H : laws_toFloat32A2.S a_0 Post h) : CALL prg f_laws_toFloat32A2 #[.agg a_0] Post h :=
  fn_call tau_ok mixed (c := laws_toFloat32A2.code) (Λ := lookL [(1000003, laws_toFloat32A2.l3 Post)]) Tryz.func258 (by kernel_rfl) (by kernel_rfl)
    (Rq.seq (by kernel_rfl) (Rq.free (by kernel_rfl)) (Rq.seq (by kernel_rfl) (Rq.free (by kernel_rfl)) (Rq.seq (by kernel_rfl) (Rq.seq (by kernel_rfl) (Rq.free (by kernel_rfl)) (Rq.block (Rq.loop (laws_toFloat32A2.l3 Post) (by kernel_rfl) (segL (g := laws_toFloat32A2.g3) tau_ok mixed (Λ := fun N3 => lookL []) (fun _ _ _ => by kernel_rfl) (fun N3 => (Rq.free (by kernel_rfl))))))) (Rq.free (by kernel_rfl)))))
    (Eq.mp (by kernel_rfl) H)

def laws_toFloat32A3.B3 (Post : Value → Heap → Prop) (N3 : (Addr × Addr × Addr × Int) → Heap → Prop) : Addr × Addr × Addr × Int → Heap → Prop
  | (a_1, t2, out_3, i_4), h =>
    BIF ((decide (i_4 < (3 : Int)))) (
    IDX i_4 3 <|
    oF .f32 (cell h ((Addr.add a_1 ((Int.toNat i_4) * 1)))) fun r7 =>
    IDX i_4 3 <|
    ST1 h ((Addr.add out_3 ((Int.toNat i_4) * 1))) (.float .f32 r7) fun h8 =>
    N3 (a_1, t2, out_3, ((IntKind.i64.wrap (i_4 + (1 : Int))))) h8) (
    LDA 3 h out_3 fun a9 =>
    STA 3 h t2 a9 fun h10 =>
    LDA 3 h10 t2 fun a11 =>
    Post (.agg a11) h10)
def laws_toFloat32A3.g3 (fr : Frame) : Addr × Addr × Addr × Int := ((gP (lget fr 1)), (gP (lget fr 2)), (gP (lget fr 3)), (gI (lget fr 4)))
def laws_toFloat32A3.l3 (Post : Value → Heap → Prop) : Frame → Heap → Prop := fun fr h => GRD (shape (kds 15 [(1, .p), (2, .p), (3, .p), (4, .i .i64)]) fr) (LOOP (laws_toFloat32A3.B3 Post) (laws_toFloat32A3.g3 fr) h)
def laws_toFloat32A3.S (a_0 : Array Value) (Post : Value → Heap → Prop) (h : Heap) : Prop :=
    ALC a_0 T_3_float32 (fun g1 h2 =>
    ALC ⟨Z_3_float32⟩ T_3_float32 (fun g3 h4 =>
    ALC ⟨Z_3_float32⟩ T_3_float32 (fun g5 h6 =>
    LOOP (laws_toFloat32A3.B3 Post) (⟨g1, 0, none⟩, ⟨g3, 0, none⟩, ⟨g5, 0, none⟩, (0 : Int)) h6) h4) h2) h
noncomputable def laws_toFloat32A3.code : Code := (Tryz.f257.body).getD .skip
theorem laws_toFloat32A3.call {a_0 : Array Value} {Post : Value → Heap → Prop} {h : Heap} (H : laws_toFloat32A3.S a_0 Post h) : CALL prg f_laws_toFloat32A3 #[.agg a_0] Post h :=
  fn_call tau_ok mixed (c := laws_toFloat32A3.code) (Λ := lookL [(1000003, laws_toFloat32A3.l3 Post)]) Tryz.func257 (by kernel_rfl) (by kernel_rfl)
    (Rq.seq (by kernel_rfl) (Rq.free (by kernel_rfl)) (Rq.seq (by kernel_rfl) (Rq.free (by kernel_rfl)) (Rq.seq (by kernel_rfl) (Rq.seq (by kernel_rfl) (Rq.free (by kernel_rfl)) (Rq.block (Rq.loop (laws_toFloat32A3.l3 Post) (by kernel_rfl) (segL (g := laws_toFloat32A3.g3) tau_ok mixed (Λ := fun N3 => lookL []) (fun _ _ _ => by kernel_rfl) (fun N3 => (Rq.free (by kernel_rfl))))))) (Rq.free (by kernel_rfl)))))
    (Eq.mp (by kernel_rfl) H)

def laws_eqFloat32A2.B2 (Post : Value → Heap → Prop) (N2 : (Addr × Addr × Int) → Heap → Prop) : Addr × Addr × Int → Heap → Prop
  | (a_2, b_3, i_5), h =>
    BIF ((decide (i_5 < (2 : Int)))) (
    IDX i_5 2 <|
    oF .f32 (cell h ((Addr.add a_2 ((Int.toNat i_5) * 1)))) fun r5 =>
    IDX i_5 2 <|
    oF .f32 (cell h ((Addr.add b_3 ((Int.toNat i_5) * 1)))) fun r6 =>
    (FFC .f32 r5 .f64 fun r7 =>
    PIN h ((Addr.add b_3 ((Int.toNat i_5) * 1))) 1 h <|
    FFC .f32 r6 .f64 fun r8 =>
    PIN h ((Addr.add a_2 ((Int.toNat i_5) * 1))) 1 h <|
    CALL prg f_laws_sameFloat #[.float .f64 r7, .float .f64 r8] (fun q9 h10 =>
    asB q9 fun b11 =>
    BIF (!b11) (
    Post (.bool false) h10) (
    N2 (a_2, b_3, ((IntKind.i64.wrap (i_5 + (1 : Int))))) h10)) h) ∧ (FFC .f32 r6 .f64 fun r12 =>
    PIN h ((Addr.add a_2 ((Int.toNat i_5) * 1))) 1 h <|
    FFC .f32 r5 .f64 fun r13 =>
    PIN h ((Addr.add b_3 ((Int.toNat i_5) * 1))) 1 h <|
    CALL prg f_laws_sameFloat #[.float .f64 r13, .float .f64 r12] (fun q14 h15 =>
    asB q14 fun b16 =>
    BIF (!b16) (
    Post (.bool false) h15) (
    N2 (a_2, b_3, ((IntKind.i64.wrap (i_5 + (1 : Int))))) h15)) h)) (
    Post (.bool true) h)
def laws_eqFloat32A2.g2 (fr : Frame) : Addr × Addr × Int := ((gP (lget fr 2)), (gP (lget fr 3)), (gI (lget fr 5)))
def laws_eqFloat32A2.l2 (Post : Value → Heap → Prop) : Frame → Heap → Prop := fun fr h => GRD (shape (kds 20 [(2, .p), (3, .p), (5, .i .i64)]) fr) (LOOP (laws_eqFloat32A2.B2 Post) (laws_eqFloat32A2.g2 fr) h)
def laws_eqFloat32A2.S (a_0 : Array Value) (b_1 : Array Value) (Post : Value → Heap → Prop) (h : Heap) : Prop :=
    ALC a_0 T_2_float32 (fun g1 h2 =>
    ALC b_1 T_2_float32 (fun g3 h4 =>
    LOOP (laws_eqFloat32A2.B2 Post) (⟨g1, 0, none⟩, ⟨g3, 0, none⟩, (0 : Int)) h4) h2) h
noncomputable def laws_eqFloat32A2.code : Code := (Tryz.f276.body).getD .skip
theorem laws_eqFloat32A2.call {a_0 : Array Value} {b_1 : Array Value} {Post : Value → Heap → Prop} {h : Heap} (H : laws_eqFloat32A2.S a_0 b_1 Post h) : CALL prg f_laws_eqFloat32A2 #[.agg a_0, .agg b_1] Post h :=
  fn_call tau_ok mixed (c := laws_eqFloat32A2.code) (Λ := lookL [(1000002, laws_eqFloat32A2.l2 Post)]) Tryz.func276 (by kernel_rfl) (by kernel_rfl)
    (Rq.seq (by kernel_rfl) (Rq.free (by kernel_rfl)) (Rq.seq (by kernel_rfl) (Rq.seq (by kernel_rfl) (Rq.free (by kernel_rfl)) (Rq.block (Rq.loop (laws_eqFloat32A2.l2 Post) (by kernel_rfl) (segL (g := laws_eqFloat32A2.g2) tau_ok mixed (Λ := fun N2 => lookL []) (fun _ _ _ => by kernel_rfl) (fun N2 => (Rq.free (by kernel_rfl))))))) (Rq.free (by kernel_rfl))))
    (Eq.mp (by kernel_rfl) H)

def laws_eqFloat32A3.B2 (Post : Value → Heap → Prop) (N2 : (Addr × Addr × Int) → Heap → Prop) : Addr × Addr × Int → Heap → Prop
  | (a_2, b_3, i_5), h =>
    BIF ((decide (i_5 < (3 : Int)))) (
    IDX i_5 3 <|
    oF .f32 (cell h ((Addr.add a_2 ((Int.toNat i_5) * 1)))) fun r5 =>
    IDX i_5 3 <|
    oF .f32 (cell h ((Addr.add b_3 ((Int.toNat i_5) * 1)))) fun r6 =>
    (FFC .f32 r5 .f64 fun r7 =>
    PIN h ((Addr.add b_3 ((Int.toNat i_5) * 1))) 1 h <|
    FFC .f32 r6 .f64 fun r8 =>
    PIN h ((Addr.add a_2 ((Int.toNat i_5) * 1))) 1 h <|
    CALL prg f_laws_sameFloat #[.float .f64 r7, .float .f64 r8] (fun q9 h10 =>
    asB q9 fun b11 =>
    BIF (!b11) (
    Post (.bool false) h10) (
    N2 (a_2, b_3, ((IntKind.i64.wrap (i_5 + (1 : Int))))) h10)) h) ∧ (FFC .f32 r6 .f64 fun r12 =>
    PIN h ((Addr.add a_2 ((Int.toNat i_5) * 1))) 1 h <|
    FFC .f32 r5 .f64 fun r13 =>
    PIN h ((Addr.add b_3 ((Int.toNat i_5) * 1))) 1 h <|
    CALL prg f_laws_sameFloat #[.float .f64 r13, .float .f64 r12] (fun q14 h15 =>
    asB q14 fun b16 =>
    BIF (!b16) (
    Post (.bool false) h15) (
    N2 (a_2, b_3, ((IntKind.i64.wrap (i_5 + (1 : Int))))) h15)) h)) (
    Post (.bool true) h)
def laws_eqFloat32A3.g2 (fr : Frame) : Addr × Addr × Int := ((gP (lget fr 2)), (gP (lget fr 3)), (gI (lget fr 5)))
def laws_eqFloat32A3.l2 (Post : Value → Heap → Prop) : Frame → Heap → Prop := fun fr h => GRD (shape (kds 20 [(2, .p), (3, .p), (5, .i .i64)]) fr) (LOOP (laws_eqFloat32A3.B2 Post) (laws_eqFloat32A3.g2 fr) h)
def laws_eqFloat32A3.S (a_0 : Array Value) (b_1 : Array Value) (Post : Value → Heap → Prop) (h : Heap) : Prop :=
    ALC a_0 T_3_float32 (fun g1 h2 =>
    ALC b_1 T_3_float32 (fun g3 h4 =>
    LOOP (laws_eqFloat32A3.B2 Post) (⟨g1, 0, none⟩, ⟨g3, 0, none⟩, (0 : Int)) h4) h2) h
noncomputable def laws_eqFloat32A3.code : Code := (Tryz.f275.body).getD .skip
theorem laws_eqFloat32A3.call {a_0 : Array Value} {b_1 : Array Value} {Post : Value → Heap → Prop} {h : Heap} (H : laws_eqFloat32A3.S a_0 b_1 Post h) : CALL prg f_laws_eqFloat32A3 #[.agg a_0, .agg b_1] Post h :=
  fn_call tau_ok mixed (c := laws_eqFloat32A3.code) (Λ := lookL [(1000002, laws_eqFloat32A3.l2 Post)]) Tryz.func275 (by kernel_rfl) (by kernel_rfl)
    (Rq.seq (by kernel_rfl) (Rq.free (by kernel_rfl)) (Rq.seq (by kernel_rfl) (Rq.seq (by kernel_rfl) (Rq.free (by kernel_rfl)) (Rq.block (Rq.loop (laws_eqFloat32A3.l2 Post) (by kernel_rfl) (segL (g := laws_eqFloat32A3.g2) tau_ok mixed (Λ := fun N2 => lookL []) (fun _ _ _ => by kernel_rfl) (fun N2 => (Rq.free (by kernel_rfl))))))) (Rq.free (by kernel_rfl))))
    (Eq.mp (by kernel_rfl) H)

def laws_szRing.S (a_0 : Array Value) (left_1 : Int) (Post : Value → Heap → Prop) (h : Heap) : Prop :=
    ALC a_0 T_laws_Ring (fun g1 h2 =>
    oL (cell h2 ⟨g1, 0, none⟩) fun l3b l3l l3c =>
    CALL prg f_laws_szFloat32S #[.slice l3b l3l l3c, .int .i64 left_1] (fun q4 h5 =>
    asI .i64 q4 fun n6 =>
    BIF ((decide (n6 < (0 : Int)))) (
    Post (.int .i64 (-1 : Int)) h5) (
    Post (.int .i64 n6) h5)) h2) h
noncomputable def laws_szRing.code : Code := (Tryz.f202.body).getD .skip
theorem laws_szRing.call {a_0 : Array Value} {left_1 : Int} {Post : Value → Heap → Prop} {h : Heap} (H : laws_szRing.S a_0 left_1 Post h) : CALL prg f_laws_szRing #[.agg a_0, .int .i64 left_1] Post h :=
  fn_call tau_ok mixed (c := laws_szRing.code) (Λ := lookL []) Tryz.func202 (by kernel_rfl) (by kernel_rfl)
    (Rq.free (by kernel_rfl))
    (Eq.mp (by kernel_rfl) H)

def laws_toRing.S (a_0 : Array Value) (Post : Value → Heap → Prop) (h : Heap) : Prop :=
    ALC a_0 T_laws_Ring (fun g1 h2 =>
    ALC ⟨Z_impl_Ring⟩ T_impl_Ring (fun g3 h4 =>
    ALC ⟨Z_impl_Ring⟩ T_impl_Ring (fun g5 h6 =>
    oL (cell h6 ⟨g1, 0, none⟩) fun l7b l7l l7c =>
    CALL prg f_laws_toFloat32S #[.slice l7b l7l l7c] (fun q8 h9 =>
    asL q8 fun l10b l10l l10c =>
    ST1 h9 ⟨g5, 0, none⟩ (.slice l10b l10l l10c) fun h11 =>
    oI .i64 (cell h11 ⟨g1, 1, none⟩) fun n12 =>
    ST1 h11 ⟨g5, 1, none⟩ (.int .i64 n12) fun h13 =>
    LDA 2 h13 ⟨g5, 0, none⟩ fun a14 =>
    STA 2 h13 ⟨g3, 0, none⟩ a14 fun h15 =>
    LDA 2 h15 ⟨g3, 0, none⟩ fun a16 =>
    Post (.agg a16) h15) h6) h4) h2) h
noncomputable def laws_toRing.code : Code := (Tryz.f213.body).getD .skip
theorem laws_toRing.call {a_0 : Array Value} {Post : Value → Heap → Prop} {h : Heap} (H : laws_toRing.S a_0 Post h) : CALL prg f_laws_toRing #[.agg a_0] Post h :=
  fn_call tau_ok mixed (c := laws_toRing.code) (Λ := lookL []) Tryz.func213 (by kernel_rfl) (by kernel_rfl)
    (Rq.free (by kernel_rfl))
    (Eq.mp (by kernel_rfl) H)

def laws_eqRing.S (a_0 : Array Value) (b_1 : Array Value) (Post : Value → Heap → Prop) (h : Heap) : Prop :=
    ALC a_0 T_impl_Ring (fun g1 h2 =>
    ALC b_1 T_impl_Ring (fun g3 h4 =>
    oL (cell h4 ⟨g1, 0, none⟩) fun l5b l5l l5c =>
    oL (cell h4 ⟨g3, 0, none⟩) fun l6b l6l l6c =>
    CALL prg f_laws_eqFloat32S #[.slice l5b l5l l5c, .slice l6b l6l l6c] (fun q7 h8 =>
    asB q7 fun b9 =>
    BIF (!b9) (
    Post (.bool false) h8) (
    oI .i64 (cell h8 ⟨g1, 1, none⟩) fun n10 =>
    oI .i64 (cell h8 ⟨g3, 1, none⟩) fun n11 =>
    BIF (n10 != n11) (
    Post (.bool false) h8) (
    Post (.bool true) h8))) h4) h2) h
noncomputable def laws_eqRing.code : Code := (Tryz.f234.body).getD .skip
theorem laws_eqRing.call {a_0 : Array Value} {b_1 : Array Value} {Post : Value → Heap → Prop} {h : Heap} (H : laws_eqRing.S a_0 b_1 Post h) : CALL prg f_laws_eqRing #[.agg a_0, .agg b_1] Post h :=
  fn_call tau_ok mixed (c := laws_eqRing.code) (Λ := lookL []) Tryz.func234 (by kernel_rfl) (by kernel_rfl)
    (Rq.free (by kernel_rfl))
    (Eq.mp (by kernel_rfl) H)

def laws_toFilter.S (a_0 : Array Value) (Post : Value → Heap → Prop) (h : Heap) : Prop :=
    ALC a_0 T_laws_Filter (fun g1 h2 =>
    ALC ⟨Z_impl_Filter⟩ T_impl_Filter (fun g3 h4 =>
    ALC ⟨Z_impl_Filter⟩ T_impl_Filter (fun g5 h6 =>
    oI .i64 (cell h6 ⟨g1, 0, none⟩) fun n7 =>
    ST1 h6 ⟨g5, 0, none⟩ (.int .i64 n7) fun h8 =>
    LDA 3 h8 ⟨g1, 1, none⟩ fun a9 =>
    CALL prg f_laws_toFloat32A3 #[.agg a9] (fun q10 h11 =>
    asA q10 fun a12 =>
    STA 3 h11 ⟨g5, 1, none⟩ a12 fun h13 =>
    LDA 2 h13 ⟨g1, 4, none⟩ fun a14 =>
    CALL prg f_laws_toFloat32A2 #[.agg a14] (fun q15 h16 =>
    asA q15 fun a17 =>
    STA 2 h16 ⟨g5, 4, none⟩ a17 fun h18 =>
    LDA 6 h18 ⟨g5, 0, none⟩ fun a19 =>
    STA 6 h18 ⟨g3, 0, none⟩ a19 fun h20 =>
    LDA 6 h20 ⟨g3, 0, none⟩ fun a21 =>
    Post (.agg a21) h20) h13) h8) h4) h2) h
noncomputable def laws_toFilter.code : Code := (Tryz.f214.body).getD .skip
theorem laws_toFilter.call {a_0 : Array Value} {Post : Value → Heap → Prop} {h : Heap} (H : laws_toFilter.S a_0 Post h) : CALL prg f_laws_toFilter #[.agg a_0] Post h :=
  fn_call tau_ok mixed (c := laws_toFilter.code) (Λ := lookL []) Tryz.func214 (by kernel_rfl) (by kernel_rfl)
    (Rq.free (by kernel_rfl))
    (Eq.mp (by kernel_rfl) H)

def laws_eqFilter.S (a_0 : Array Value) (b_1 : Array Value) (Post : Value → Heap → Prop) (h : Heap) : Prop :=
    ALC a_0 T_impl_Filter (fun g1 h2 =>
    ALC b_1 T_impl_Filter (fun g3 h4 =>
    oI .i64 (cell h4 ⟨g1, 0, none⟩) fun n5 =>
    oI .i64 (cell h4 ⟨g3, 0, none⟩) fun n6 =>
    BIF (n5 != n6) (
    Post (.bool false) h4) (
    LDA 3 h4 ⟨g1, 1, none⟩ fun a7 =>
    LDA 3 h4 ⟨g3, 1, none⟩ fun a8 =>
    CALL prg f_laws_eqFloat32A3 #[.agg a7, .agg a8] (fun q9 h10 =>
    asB q9 fun b11 =>
    BIF (!b11) (
    Post (.bool false) h10) (
    LDA 2 h10 ⟨g1, 4, none⟩ fun a12 =>
    LDA 2 h10 ⟨g3, 4, none⟩ fun a13 =>
    CALL prg f_laws_eqFloat32A2 #[.agg a12, .agg a13] (fun q14 h15 =>
    asB q14 fun b16 =>
    BIF (!b16) (
    Post (.bool false) h15) (
    Post (.bool true) h15)) h10)) h4)) h2) h
noncomputable def laws_eqFilter.code : Code := (Tryz.f235.body).getD .skip
theorem laws_eqFilter.call {a_0 : Array Value} {b_1 : Array Value} {Post : Value → Heap → Prop} {h : Heap} (H : laws_eqFilter.S a_0 b_1 Post h) : CALL prg f_laws_eqFilter #[.agg a_0, .agg b_1] Post h :=
  fn_call tau_ok mixed (c := laws_eqFilter.code) (Λ := lookL []) Tryz.func235 (by kernel_rfl) (by kernel_rfl)
    (Rq.free (by kernel_rfl))
    (Eq.mp (by kernel_rfl) H)

end Go.Sx
