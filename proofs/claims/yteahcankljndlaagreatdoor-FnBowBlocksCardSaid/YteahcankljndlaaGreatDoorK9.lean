/- What functions of this seat's program compute, told in words (a predicate over heaps for each), and the proofs that the words are no more than the code's own weakest precondition. -/
import Derived.Test.YteahcankljndlaaGreatDoorTab
import Derived.Test.YteahcankljndlaaGreatDoorLr6
import Derived.Test.YteahcankljndlaaGreatDoorLgn
namespace Go.Sx
open Go.Proofs
set_option linter.unusedVariables false
set_option maxRecDepth 100000

def spec_OnePole.S (keep_0 : Nat) (Post : Value → Heap → Prop) (h : Heap) : Prop :=
    ALC ⟨Z_impl_Filter⟩ T_impl_Filter (fun g1 h2 =>
    FOP .f32 (FloatKind.f32.format.sub 1065353216 keep_0) fun r3 =>
    SIZ (Array.size (⟨[.float .f32 r3, .float .f32 keep_0, .float .f32 0]⟩ : Array Value)) 3 <|
    STA 6 h2 ⟨g1, 0, none⟩ (⟨[.int .i64 (1 : Int), .float .f32 r3, .float .f32 keep_0, .float .f32 0, .float .f32 0, .float .f32 0]⟩ : Array Value) fun h4 =>
    LDA 6 h4 ⟨g1, 0, none⟩ fun a5 =>
    Post (.agg a5) h4) h
noncomputable def spec_OnePole.code : Code := (Tryz.f111.body).getD .skip
theorem spec_OnePole.call {keep_0 : Nat} {Post : Value → Heap → Prop} {h : Heap} (H : spec_OnePole.S keep_0 Post h) : CALL prg f_spec_OnePole #[.float .f32 keep_0] Post h :=
  fn_call tau_ok mixed (c := spec_OnePole.code) (Λ := lookL []) Tryz.func111 (by kernel_rfl) (by kernel_rfl)
    (Rq.free (by kernel_rfl))
    (Eq.mp (by kernel_rfl) H)

def spec_l00Min.S (a_0 : Int) (b_1 : Int) (Post : Value → Heap → Prop) (h : Heap) : Prop :=
    BIF (decide (a_0 < b_1)) (
    Post (.int .i64 a_0) h) (
    Post (.int .i64 b_1) h)
noncomputable def spec_l00Min.code : Code := (Tryz.f141.body).getD .skip
theorem spec_l00Min.call {a_0 : Int} {b_1 : Int} {Post : Value → Heap → Prop} {h : Heap} (H : spec_l00Min.S a_0 b_1 Post h) : CALL prg f_spec_l00Min #[.int .i64 a_0, .int .i64 b_1] Post h :=
  fn_call tau_ok mixed (c := spec_l00Min.code) (Λ := lookL []) Tryz.func141 (by kernel_rfl) (by kernel_rfl)
    (Rq.free (by kernel_rfl))
    (Eq.mp (by kernel_rfl) H)

def spec_l00Max.S (a_0 : Int) (b_1 : Int) (Post : Value → Heap → Prop) (h : Heap) : Prop :=
    BIF (decide (b_1 < a_0)) (
    Post (.int .i64 a_0) h) (
    Post (.int .i64 b_1) h)
noncomputable def spec_l00Max.code : Code := (Tryz.f140.body).getD .skip
theorem spec_l00Max.call {a_0 : Int} {b_1 : Int} {Post : Value → Heap → Prop} {h : Heap} (H : spec_l00Max.S a_0 b_1 Post h) : CALL prg f_spec_l00Max #[.int .i64 a_0, .int .i64 b_1] Post h :=
  fn_call tau_ok mixed (c := spec_l00Max.code) (Λ := lookL []) Tryz.func140 (by kernel_rfl) (by kernel_rfl)
    (Rq.free (by kernel_rfl))
    (Eq.mp (by kernel_rfl) H)

def spec_NewBow.J3 (Post : Value → Heap → Prop) (period_0 : Int) (place_1 : Nat) (keep_2 : Nat) (loss_3 : Nat) (slope_4 : Nat) (t10 : Addr) (h : Heap) : Prop :=
    FOP .f32 (FloatKind.f32.format.mul place_1 (FloatKind.f32.nearest period_0)) fun r25 =>
    FFC .f32 r25 .f64 fun r26 =>
    CALL prg f_math_Floor #[.float .f64 r26] (fun q27 h28 =>
    asF .f64 q27 fun r29 =>
    FIC .f64 r29 .i64 fun n30 =>
    CALL prg f_spec_l00Min #[.int .i64 ((IntKind.i64.wrap (period_0 - (1 : Int)))), .int .i64 n30] (fun q31 h32 =>
    asI .i64 q31 fun n33 =>
    CALL prg f_spec_l00Max #[.int .i64 (1 : Int), .int .i64 n33] (fun q34 h35 =>
    asI .i64 q34 fun n36 =>
    (MKS ti_float32 T_float32 (IntKind.i64.wrap (period_0 - n36)) (IntKind.i64.wrap (period_0 - n36)) (fun g37 h38 =>
    (MKS ti_float32 T_float32 n36 n36 (fun g39 h40 =>
    CALL prg f_spec_OnePole #[.float .f32 keep_2] (fun q41 h42 =>
    asA q41 fun a43 =>
    SIZ (Array.size (⟨[.slice (some ⟨g37, 0, none⟩) ((Int.toNat (IntKind.i64.wrap (period_0 - n36)))) ((Int.toNat (IntKind.i64.wrap (period_0 - n36)))), .int .i64 (0 : Int)]⟩ : Array Value)) 2 <|
    SIZ (Array.size (⟨[.slice (some ⟨g39, 0, none⟩) (Int.toNat n36) (Int.toNat n36), .int .i64 (0 : Int)]⟩ : Array Value)) 2 <|
    SIZ (Array.size a43) 6 <|
    STA 12 h42 t10 (⟨(List.set (List.set (splice 4 6 a43 [.slice (some ⟨g37, 0, none⟩) ((Int.toNat (IntKind.i64.wrap (period_0 - n36)))) ((Int.toNat (IntKind.i64.wrap (period_0 - n36)))), .int .i64 (0 : Int), .slice (some ⟨g39, 0, none⟩) (Int.toNat n36) (Int.toNat n36), .int .i64 (0 : Int), .int .i64 (0 : Int), .float .f32 0, .float .f32 0, .float .f32 0, .float .f32 0, .float .f32 0, .float .f32 0, .float .f32 0]) 10 (.float .f32 slope_4)) 11 (.float .f32 loss_3))⟩) fun h44 =>
    LDA 12 h44 t10 fun a45 =>
    Post (.tuple ⟨[.agg a45, .int .i64 (0 : Int)]⟩) h44) h40) h38) ∧ (CALL prg f_spec_OnePole #[.float .f32 keep_2] (fun q46 h47 =>
    asA q46 fun a48 =>
    MKS ti_float32 T_float32 n36 n36 (fun g49 h50 =>
    SIZ (Array.size (⟨[.slice (some ⟨g37, 0, none⟩) ((Int.toNat (IntKind.i64.wrap (period_0 - n36)))) ((Int.toNat (IntKind.i64.wrap (period_0 - n36)))), .int .i64 (0 : Int)]⟩ : Array Value)) 2 <|
    SIZ (Array.size (⟨[.slice (some ⟨g49, 0, none⟩) (Int.toNat n36) (Int.toNat n36), .int .i64 (0 : Int)]⟩ : Array Value)) 2 <|
    SIZ (Array.size a48) 6 <|
    STA 12 h50 t10 (⟨(List.set (List.set (splice 4 6 a48 [.slice (some ⟨g37, 0, none⟩) ((Int.toNat (IntKind.i64.wrap (period_0 - n36)))) ((Int.toNat (IntKind.i64.wrap (period_0 - n36)))), .int .i64 (0 : Int), .slice (some ⟨g49, 0, none⟩) (Int.toNat n36) (Int.toNat n36), .int .i64 (0 : Int), .int .i64 (0 : Int), .float .f32 0, .float .f32 0, .float .f32 0, .float .f32 0, .float .f32 0, .float .f32 0, .float .f32 0]) 10 (.float .f32 slope_4)) 11 (.float .f32 loss_3))⟩) fun h51 =>
    LDA 12 h51 t10 fun a52 =>
    Post (.tuple ⟨[.agg a52, .int .i64 (0 : Int)]⟩) h51) h47) h38)) h35) ∧ ((MKS ti_float32 T_float32 n36 n36 (fun g53 h54 =>
    (MKS ti_float32 T_float32 (IntKind.i64.wrap (period_0 - n36)) (IntKind.i64.wrap (period_0 - n36)) (fun g55 h56 =>
    CALL prg f_spec_OnePole #[.float .f32 keep_2] (fun q57 h58 =>
    asA q57 fun a59 =>
    SIZ (Array.size (⟨[.slice (some ⟨g55, 0, none⟩) ((Int.toNat (IntKind.i64.wrap (period_0 - n36)))) ((Int.toNat (IntKind.i64.wrap (period_0 - n36)))), .int .i64 (0 : Int)]⟩ : Array Value)) 2 <|
    SIZ (Array.size (⟨[.slice (some ⟨g53, 0, none⟩) (Int.toNat n36) (Int.toNat n36), .int .i64 (0 : Int)]⟩ : Array Value)) 2 <|
    SIZ (Array.size a59) 6 <|
    STA 12 h58 t10 (⟨(List.set (List.set (splice 4 6 a59 [.slice (some ⟨g55, 0, none⟩) ((Int.toNat (IntKind.i64.wrap (period_0 - n36)))) ((Int.toNat (IntKind.i64.wrap (period_0 - n36)))), .int .i64 (0 : Int), .slice (some ⟨g53, 0, none⟩) (Int.toNat n36) (Int.toNat n36), .int .i64 (0 : Int), .int .i64 (0 : Int), .float .f32 0, .float .f32 0, .float .f32 0, .float .f32 0, .float .f32 0, .float .f32 0, .float .f32 0]) 10 (.float .f32 slope_4)) 11 (.float .f32 loss_3))⟩) fun h60 =>
    LDA 12 h60 t10 fun a61 =>
    Post (.tuple ⟨[.agg a61, .int .i64 (0 : Int)]⟩) h60) h56) h54) ∧ (CALL prg f_spec_OnePole #[.float .f32 keep_2] (fun q62 h63 =>
    asA q62 fun a64 =>
    MKS ti_float32 T_float32 (IntKind.i64.wrap (period_0 - n36)) (IntKind.i64.wrap (period_0 - n36)) (fun g65 h66 =>
    SIZ (Array.size (⟨[.slice (some ⟨g65, 0, none⟩) ((Int.toNat (IntKind.i64.wrap (period_0 - n36)))) ((Int.toNat (IntKind.i64.wrap (period_0 - n36)))), .int .i64 (0 : Int)]⟩ : Array Value)) 2 <|
    SIZ (Array.size (⟨[.slice (some ⟨g53, 0, none⟩) (Int.toNat n36) (Int.toNat n36), .int .i64 (0 : Int)]⟩ : Array Value)) 2 <|
    SIZ (Array.size a64) 6 <|
    STA 12 h66 t10 (⟨(List.set (List.set (splice 4 6 a64 [.slice (some ⟨g65, 0, none⟩) ((Int.toNat (IntKind.i64.wrap (period_0 - n36)))) ((Int.toNat (IntKind.i64.wrap (period_0 - n36)))), .int .i64 (0 : Int), .slice (some ⟨g53, 0, none⟩) (Int.toNat n36) (Int.toNat n36), .int .i64 (0 : Int), .int .i64 (0 : Int), .float .f32 0, .float .f32 0, .float .f32 0, .float .f32 0, .float .f32 0, .float .f32 0, .float .f32 0]) 10 (.float .f32 slope_4)) 11 (.float .f32 loss_3))⟩) fun h67 =>
    LDA 12 h67 t10 fun a68 =>
    Post (.tuple ⟨[.agg a68, .int .i64 (0 : Int)]⟩) h67) h63) h54)) h35) ∧ (CALL prg f_spec_OnePole #[.float .f32 keep_2] (fun q69 h70 =>
    asA q69 fun a71 =>
    (MKS ti_float32 T_float32 (IntKind.i64.wrap (period_0 - n36)) (IntKind.i64.wrap (period_0 - n36)) (fun g72 h73 =>
    MKS ti_float32 T_float32 n36 n36 (fun g74 h75 =>
    SIZ (Array.size (⟨[.slice (some ⟨g72, 0, none⟩) ((Int.toNat (IntKind.i64.wrap (period_0 - n36)))) ((Int.toNat (IntKind.i64.wrap (period_0 - n36)))), .int .i64 (0 : Int)]⟩ : Array Value)) 2 <|
    SIZ (Array.size (⟨[.slice (some ⟨g74, 0, none⟩) (Int.toNat n36) (Int.toNat n36), .int .i64 (0 : Int)]⟩ : Array Value)) 2 <|
    SIZ (Array.size a71) 6 <|
    STA 12 h75 t10 (⟨(List.set (List.set (splice 4 6 a71 [.slice (some ⟨g72, 0, none⟩) ((Int.toNat (IntKind.i64.wrap (period_0 - n36)))) ((Int.toNat (IntKind.i64.wrap (period_0 - n36)))), .int .i64 (0 : Int), .slice (some ⟨g74, 0, none⟩) (Int.toNat n36) (Int.toNat n36), .int .i64 (0 : Int), .int .i64 (0 : Int), .float .f32 0, .float .f32 0, .float .f32 0, .float .f32 0, .float .f32 0, .float .f32 0, .float .f32 0]) 10 (.float .f32 slope_4)) 11 (.float .f32 loss_3))⟩) fun h76 =>
    LDA 12 h76 t10 fun a77 =>
    Post (.tuple ⟨[.agg a77, .int .i64 (0 : Int)]⟩) h76) h73) h70) ∧ (MKS ti_float32 T_float32 n36 n36 (fun g78 h79 =>
    MKS ti_float32 T_float32 (IntKind.i64.wrap (period_0 - n36)) (IntKind.i64.wrap (period_0 - n36)) (fun g80 h81 =>
    SIZ (Array.size (⟨[.slice (some ⟨g80, 0, none⟩) ((Int.toNat (IntKind.i64.wrap (period_0 - n36)))) ((Int.toNat (IntKind.i64.wrap (period_0 - n36)))), .int .i64 (0 : Int)]⟩ : Array Value)) 2 <|
    SIZ (Array.size (⟨[.slice (some ⟨g78, 0, none⟩) (Int.toNat n36) (Int.toNat n36), .int .i64 (0 : Int)]⟩ : Array Value)) 2 <|
    SIZ (Array.size a71) 6 <|
    STA 12 h81 t10 (⟨(List.set (List.set (splice 4 6 a71 [.slice (some ⟨g80, 0, none⟩) ((Int.toNat (IntKind.i64.wrap (period_0 - n36)))) ((Int.toNat (IntKind.i64.wrap (period_0 - n36)))), .int .i64 (0 : Int), .slice (some ⟨g78, 0, none⟩) (Int.toNat n36) (Int.toNat n36), .int .i64 (0 : Int), .int .i64 (0 : Int), .float .f32 0, .float .f32 0, .float .f32 0, .float .f32 0, .float .f32 0, .float .f32 0, .float .f32 0]) 10 (.float .f32 slope_4)) 11 (.float .f32 loss_3))⟩) fun h82 =>
    LDA 12 h82 t10 fun a83 =>
    Post (.tuple ⟨[.agg a83, .int .i64 (0 : Int)]⟩) h82) h79) h70)) h35))) h32) h28) h
def spec_NewBow.j3 (Post : Value → Heap → Prop) : Frame → Heap → Prop := fun fr h => GRD (shape (kds 74 [(0, .i .i64), (1, .f .f32), (2, .f .f32), (3, .f .f32), (4, .f .f32), (10, .p)]) fr) (spec_NewBow.J3 Post (gI (lget fr 0)) (gF (lget fr 1)) (gF (lget fr 2)) (gF (lget fr 3)) (gF (lget fr 4)) (gP (lget fr 10)) h)
def spec_NewBow.S (period_0 : Int) (place_1 : Nat) (keep_2 : Nat) (loss_3 : Nat) (slope_4 : Nat) (Post : Value → Heap → Prop) (h : Heap) : Prop :=
    ALC ⟨Z_impl_Bow⟩ T_impl_Bow (fun g1 h2 =>
    CALL prg f_spec_l00In #[.int .i64 period_0, .int .i64 (2 : Int), .int .i64 (1024 : Int)] (fun q3 h4 =>
    asB q3 fun b5 =>
    BIF (!b5) (
    STA 12 h4 ⟨g1, 0, none⟩ (⟨[.slice none 0 0, .int .i64 (0 : Int), .slice none 0 0, .int .i64 (0 : Int), .int .i64 (0 : Int), .float .f32 0, .float .f32 0, .float .f32 0, .float .f32 0, .float .f32 0, .float .f32 0, .float .f32 0]⟩ : Array Value) fun h6 =>
    LDA 12 h6 ⟨g1, 0, none⟩ fun a7 =>
    Post (.tuple ⟨[.agg a7, .int .i64 (2 : Int)]⟩) h6) (
    BIF (FloatKind.f32.format.order place_1 0 == some .gt || FloatKind.f32.format.order place_1 0 == some .eq) (
    BIF (!(FloatKind.f32.format.order place_1 1065353216 == some .lt || FloatKind.f32.format.order place_1 1065353216 == some .eq)) (
    STA 12 h4 ⟨g1, 0, none⟩ (⟨[.slice none 0 0, .int .i64 (0 : Int), .slice none 0 0, .int .i64 (0 : Int), .int .i64 (0 : Int), .float .f32 0, .float .f32 0, .float .f32 0, .float .f32 0, .float .f32 0, .float .f32 0, .float .f32 0]⟩ : Array Value) fun h8 =>
    LDA 12 h8 ⟨g1, 0, none⟩ fun a9 =>
    Post (.tuple ⟨[.agg a9, .int .i64 (2 : Int)]⟩) h8) (
    BIF (FloatKind.f32.format.order keep_2 0 == some .gt || FloatKind.f32.format.order keep_2 0 == some .eq) (
    BIF (!(FloatKind.f32.format.order keep_2 1065353216 == some .lt)) (
    STA 12 h4 ⟨g1, 0, none⟩ (⟨[.slice none 0 0, .int .i64 (0 : Int), .slice none 0 0, .int .i64 (0 : Int), .int .i64 (0 : Int), .float .f32 0, .float .f32 0, .float .f32 0, .float .f32 0, .float .f32 0, .float .f32 0, .float .f32 0]⟩ : Array Value) fun h10 =>
    LDA 12 h10 ⟨g1, 0, none⟩ fun a11 =>
    Post (.tuple ⟨[.agg a11, .int .i64 (2 : Int)]⟩) h10) (
    BIF (FloatKind.f32.format.order loss_3 0 == some .gt || FloatKind.f32.format.order loss_3 0 == some .eq) (
    BIF (!(FloatKind.f32.format.order loss_3 1065353216 == some .lt || FloatKind.f32.format.order loss_3 1065353216 == some .eq)) (
    STA 12 h4 ⟨g1, 0, none⟩ (⟨[.slice none 0 0, .int .i64 (0 : Int), .slice none 0 0, .int .i64 (0 : Int), .int .i64 (0 : Int), .float .f32 0, .float .f32 0, .float .f32 0, .float .f32 0, .float .f32 0, .float .f32 0, .float .f32 0]⟩ : Array Value) fun h12 =>
    LDA 12 h12 ⟨g1, 0, none⟩ fun a13 =>
    Post (.tuple ⟨[.agg a13, .int .i64 (2 : Int)]⟩) h12) (
    CALL prg f_spec_l01Finite #[.float .f32 slope_4] (fun q14 h15 =>
    asB q14 fun b16 =>
    BIF (!b16) (
    STA 12 h15 ⟨g1, 0, none⟩ (⟨[.slice none 0 0, .int .i64 (0 : Int), .slice none 0 0, .int .i64 (0 : Int), .int .i64 (0 : Int), .float .f32 0, .float .f32 0, .float .f32 0, .float .f32 0, .float .f32 0, .float .f32 0, .float .f32 0]⟩ : Array Value) fun h17 =>
    LDA 12 h17 ⟨g1, 0, none⟩ fun a18 =>
    Post (.tuple ⟨[.agg a18, .int .i64 (2 : Int)]⟩) h17) (
    spec_NewBow.J3 Post period_0 place_1 keep_2 loss_3 slope_4 ⟨g1, 0, none⟩ h15)) h4)) (
    STA 12 h4 ⟨g1, 0, none⟩ (⟨[.slice none 0 0, .int .i64 (0 : Int), .slice none 0 0, .int .i64 (0 : Int), .int .i64 (0 : Int), .float .f32 0, .float .f32 0, .float .f32 0, .float .f32 0, .float .f32 0, .float .f32 0, .float .f32 0]⟩ : Array Value) fun h19 =>
    LDA 12 h19 ⟨g1, 0, none⟩ fun a20 =>
    Post (.tuple ⟨[.agg a20, .int .i64 (2 : Int)]⟩) h19))) (
    STA 12 h4 ⟨g1, 0, none⟩ (⟨[.slice none 0 0, .int .i64 (0 : Int), .slice none 0 0, .int .i64 (0 : Int), .int .i64 (0 : Int), .float .f32 0, .float .f32 0, .float .f32 0, .float .f32 0, .float .f32 0, .float .f32 0, .float .f32 0]⟩ : Array Value) fun h21 =>
    LDA 12 h21 ⟨g1, 0, none⟩ fun a22 =>
    Post (.tuple ⟨[.agg a22, .int .i64 (2 : Int)]⟩) h21))) (
    STA 12 h4 ⟨g1, 0, none⟩ (⟨[.slice none 0 0, .int .i64 (0 : Int), .slice none 0 0, .int .i64 (0 : Int), .int .i64 (0 : Int), .float .f32 0, .float .f32 0, .float .f32 0, .float .f32 0, .float .f32 0, .float .f32 0, .float .f32 0]⟩ : Array Value) fun h23 =>
    LDA 12 h23 ⟨g1, 0, none⟩ fun a24 =>
    Post (.tuple ⟨[.agg a24, .int .i64 (2 : Int)]⟩) h23))) h2) h
noncomputable def spec_NewBow.code : Code := (Tryz.f105.body).getD .skip
theorem spec_NewBow.call {period_0 : Int} {place_1 : Nat} {keep_2 : Nat} {loss_3 : Nat} {slope_4 : Nat} {Post : Value → Heap → Prop} {h : Heap} (H : spec_NewBow.S period_0 place_1 keep_2 loss_3 slope_4 Post h) : CALL prg f_spec_NewBow #[.int .i64 period_0, .float .f32 place_1, .float .f32 keep_2, .float .f32 loss_3, .float .f32 slope_4] Post h :=
  fn_call tau_ok mixed (c := spec_NewBow.code) (Λ := lookL [(3, spec_NewBow.j3 Post)]) Tryz.func105 (by kernel_rfl) (by kernel_rfl)
    (Rq.seq (by kernel_rfl) (Rq.free (by kernel_rfl)) (Rq.seqJ (spec_NewBow.j3 Post) (by kernel_rfl) (seg (fun _ _ => by kernel_rfl)) (Rq.free (by kernel_rfl))
(Rq.free (by kernel_rfl))))
    (Eq.mp (by kernel_rfl) H)

end Go.Sx
/- New strings. -/
set_option linter.unusedVariables false
set_option linter.unusedSimpArgs false
namespace Go.Sx
open Go.Proofs Ieee
set_option maxRecDepth 100000
set_option maxHeartbeats 1000000

def allpassFor (f : Nat) : GFilter := if inside f 0 1073741824 then ⟨3, [fdiv .f32 (fsub .f32 1065353216 f) (fadd .f32 1065353216 f), 0, 0], [0, 0]⟩ else z_Filter
def oneZero (m : Nat) : GFilter := ⟨2, [fsub .f32 1065353216 m, m, 0], [0, 0]⟩
def onePole (k : Nat) : GFilter := ⟨1, [fsub .f32 1065353216 k, k, 0], [0, 0]⟩
def strN (p m : Nat) : Nat := if flt .f32 (fsub .f32 (fsub .f32 p m) (FloatKind.f32.nearest ((floorN (fsub .f32 p m) : Nat) : Int))) 1048576000 then floorN (fsub .f32 p m) - 1 else floorN (fsub .f32 p m)
def strOf (p m l : Nat) : GString := { Loop := ⟨List.replicate (strN p m) 0, 0⟩, Tune := allpassFor (fsub .f32 (fsub .f32 p m) (FloatKind.f32.nearest ((strN p m : Nat) : Int))), Damp := oneZero m, Loss := l }
def newString (p m l : Nat) : GString × Int := if inside p 1077936128 1149239296 then if inside m 0 1056964608 then if inside l 0 1065353216 then (strOf p m l, 0) else (z_String, 2) else (z_String, 2) else (z_String, 2)
/-- A filter's cells. -/
def flC (k : Int) (a b c d e : Nat) : List Value := [.int .i64 k, .float .f32 a, .float .f32 b, .float .f32 c, .float .f32 d, .float .f32 e]
theorem filter_ow {k : Int} {a b c d e a' b' c' d' e' : Nat} (ha : FW .f32 a a') (hb : FW .f32 b b') (hc : FW .f32 c c') (hd : FW .f32 d d') (he : FW .f32 e e') : rFilter.ow [] (flC k a b c d e) ⟨k, [a', b', c'], [d', e']⟩ :=
  ⟨[], [], [.int .i64 k], _, rfl, rfl, ⟨rfl, rfl⟩, [], [], [.float .f32 a, .float .f32 b, .float .f32 c], [.float .f32 d, .float .f32 e], rfl, rfl,
    ⟨rfl, [], [], [.float .f32 a], _, rfl, rfl, ⟨rfl, a, rfl, ha⟩, [], [], [.float .f32 b], _, rfl, rfl, ⟨rfl, b, rfl, hb⟩, [], [], [.float .f32 c], [], rfl, rfl, ⟨rfl, c, rfl, hc⟩, rfl, rfl⟩,
    ⟨rfl, [], [], [.float .f32 d], _, rfl, rfl, ⟨rfl, d, rfl, hd⟩, [], [], [.float .f32 e], [], rfl, rfl, ⟨rfl, e, rfl, he⟩, rfl, rfl⟩⟩
theorem ring_cells {B : List Blk} {cs : Array Value} {r : GRing} (O : rRing.ow B cs.toList r) : ∃ b l c, cs = ⟨[.slice b l c, .int .i64 r.At]⟩ ∧ SlO T_float32 (rF .f32) B b l c r.Samples := by
  obtain ⟨B1, B2, v1, v2, rfl, e, ⟨b, l, c, rfl, O1⟩, ⟨rfl, rfl⟩⟩ := O
  exact ⟨b, l, c, by cases cs; simpa using e, by simpa using O1⟩
theorem ring_ow {B : List Blk} {b : Option Addr} {l c : Nat} {r : GRing} (O : SlO T_float32 (rF .f32) B b l c r.Samples) : rRing.ow B [.slice b l c, .int .i64 r.At] r :=
  ⟨B, [], [.slice b l c], [.int .i64 r.At], by simp, rfl, ⟨b, l, c, rfl, O⟩, ⟨rfl, rfl⟩⟩
theorem c2 : FW .f32 1073741824 1073741824 := fw_c32 (by decide) (by decide)
theorem c3 : FW .f32 1077936128 1077936128 := fw_c32 (by decide) (by decide)
section
variable {h : Heap} {x a : Nat}
/-- A filter's cells that stand for one. -/
def FlR (u : Value) (f : GFilter) : Prop := ∃ (k : Int) (y z : Nat), u = .agg ⟨flC k y z 0 0 0⟩ ∧ rFilter.ow [] (flC k y z 0 0 0) f
theorem spec_OnePole_c (hx : FW .f32 x a) : CALL prg f_spec_OnePole #[.float .f32 x] (fun u h' => FlR u (onePole a) ∧ Ext h h') h :=
  spec_OnePole.call ((Mem.start h).alc fun g1 h1 x1 M => fS c1 hx fun r3 h3 => siz rfl (M.sta0 .here rfl (all_one rfl) rfl .here fun h3' M => M.lda0 .here rfl ⟨⟨1, r3, x, rfl, filter_ow h3 hx fw0 fw0 fw0⟩, M.ext⟩))
end
end Go.Sx
