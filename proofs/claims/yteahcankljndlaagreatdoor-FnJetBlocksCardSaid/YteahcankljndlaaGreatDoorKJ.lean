/- What functions of this seat's program compute, told in words (a predicate over heaps for each), and the proofs that the words are no more than the code's own weakest precondition. -/
import Derived.Test.YteahcankljndlaaGreatDoorTab
namespace Go.Sx
open Go.Proofs
set_option linter.unusedVariables false
set_option maxRecDepth 100000

def spec_l05Jet.S (x_0 : Addr) (Post : Value → Heap → Prop) (h : Heap) : Prop :=
    LDA 2 h x_0 fun a1 =>
    LDA 2 h (Addr.add x_0 2) fun a2 =>
    SIZ (Array.size a1) 2 <|
    SIZ (Array.size a2) 2 <|
    ALC ⟨(splice 2 2 a2 (splice 0 2 a1 [.slice none 0 0, .int .i64 (0 : Int), .slice none 0 0, .int .i64 (0 : Int)]))⟩ T_impl_Ring (fun g3 h4 =>
    CALL prg f_spec_l04Rings #[.slice (some ⟨g3, 0, none⟩) 2 2] (fun q5 h6 =>
    asB q5 fun b7 =>
    BIF b7 (
    CALL prg f_spec_l02Ok #[.pointer (some (Addr.add x_0 4))] (fun q8 h9 =>
    asB q8 fun b10 =>
    BIF b10 (
    oI .i64 (cell h9 (Addr.add x_0 4)) fun n11 =>
    BIF (n11 == (1 : Int)) (
    CALL prg f_spec_l02Ok #[.pointer (some (Addr.add x_0 10))] (fun q12 h13 =>
    asB q12 fun b14 =>
    BIF b14 (
    oI .i64 (cell h13 (Addr.add x_0 10)) fun n15 =>
    BIF (n15 == (5 : Int)) (
    oF .f32 (cell h13 (Addr.add x_0 16)) fun r16 =>
    oF .f32 (cell h13 (Addr.add x_0 17)) fun r17 =>
    ALC ⟨[.float .f32 r16, .float .f32 r17]⟩ T_float32 (fun g18 h19 =>
    CALL prg f_spec_l04All #[.slice (some ⟨g18, 0, none⟩) 2 2] (fun q20 h21 =>
    asB q20 fun b22 =>
    Post (.bool b22) h21) h19) h13) (
    Post (.bool false) h13)) (
    Post (.bool false) h13)) h9) (
    Post (.bool false) h9)) (
    Post (.bool false) h9)) h6) (
    Post (.bool false) h6)) h4) h
noncomputable def spec_l05Jet.code : Code := (Tryz.f38.body).getD .skip
theorem spec_l05Jet.call {x_0 : Addr} {Post : Value → Heap → Prop} {h : Heap} (H : spec_l05Jet.S x_0 Post h) : CALL prg f_spec_l05Jet #[.pointer (some x_0)] Post h :=
  fn_call tau_ok mixed (c := spec_l05Jet.code) (Λ := lookL []) Tryz.func38 (by kernel_rfl) (by kernel_rfl)
    (Rq.free (by kernel_rfl))
    (Eq.mp (by kernel_rfl) H)

def spec_l05CopyJet.S (x_0 : Addr) (Post : Value → Heap → Prop) (h : Heap) : Prop :=
    ALC ⟨Z_impl_Jet⟩ T_impl_Jet (fun g1 h2 =>
    LDA 6 h2 (Addr.add x_0 4) fun a3 =>
    LDA 6 h2 (Addr.add x_0 10) fun a4 =>
    oF .f32 (cell h2 (Addr.add x_0 16)) fun r5 =>
    oF .f32 (cell h2 (Addr.add x_0 17)) fun r6 =>
    CALL prg f_spec_l02Copy #[.pointer (some x_0)] (fun q7 h8 =>
    asA q7 fun a9 =>
    PIN h2 (Addr.add x_0 17) 1 h8 <|
    PIN h2 (Addr.add x_0 16) 1 h8 <|
    PIN h2 (Addr.add x_0 10) 6 h8 <|
    PIN h2 (Addr.add x_0 4) 6 h8 <|
    CALL prg f_spec_l02Copy #[.pointer (some (Addr.add x_0 2))] (fun q10 h11 =>
    asA q10 fun a12 =>
    PIN h2 (Addr.add x_0 17) 1 h11 <|
    PIN h2 (Addr.add x_0 16) 1 h11 <|
    PIN h2 (Addr.add x_0 10) 6 h11 <|
    PIN h2 (Addr.add x_0 4) 6 h11 <|
    SIZ (Array.size a9) 2 <|
    SIZ (Array.size a12) 2 <|
    SIZ (Array.size a3) 6 <|
    SIZ (Array.size a4) 6 <|
    STA 18 h11 ⟨g1, 0, none⟩ ⟨(List.set (List.set (splice 10 6 a4 (splice 4 6 a3 (splice 2 2 a12 (splice 0 2 a9 [.slice none 0 0, .int .i64 (0 : Int), .slice none 0 0, .int .i64 (0 : Int), .int .i64 (0 : Int), .float .f32 0, .float .f32 0, .float .f32 0, .float .f32 0, .float .f32 0, .int .i64 (0 : Int), .float .f32 0, .float .f32 0, .float .f32 0, .float .f32 0, .float .f32 0, .float .f32 0, .float .f32 0])))) 16 (.float .f32 r5)) 17 (.float .f32 r6))⟩ fun h13 =>
    LDA 18 h13 ⟨g1, 0, none⟩ fun a14 =>
    Post (.agg a14) h13) h8) h2) h
noncomputable def spec_l05CopyJet.code : Code := (Tryz.f39.body).getD .skip
theorem spec_l05CopyJet.call {x_0 : Addr} {Post : Value → Heap → Prop} {h : Heap} (H : spec_l05CopyJet.S x_0 Post h) : CALL prg f_spec_l05CopyJet #[.pointer (some x_0)] Post h :=
  fn_call tau_ok mixed (c := spec_l05CopyJet.code) (Λ := lookL []) Tryz.func39 (by kernel_rfl) (by kernel_rfl)
    (Rq.free (by kernel_rfl))
    (Eq.mp (by kernel_rfl) H)

def spec_BlockDc.S (keep_0 : Nat) (Post : Value → Heap → Prop) (h : Heap) : Prop :=
    ALC ⟨Z_impl_Filter⟩ T_impl_Filter (fun g1 h2 =>
    SIZ (Array.size (⟨[.float .f32 keep_0, .float .f32 0, .float .f32 0]⟩ : Array Value)) 3 <|
    STA 6 h2 ⟨g1, 0, none⟩ (⟨[.int .i64 (5 : Int), .float .f32 keep_0, .float .f32 0, .float .f32 0, .float .f32 0, .float .f32 0]⟩ : Array Value) fun h3 =>
    LDA 6 h3 ⟨g1, 0, none⟩ fun a4 =>
    Post (.agg a4) h3) h
noncomputable def spec_BlockDc.code : Code := (Tryz.f112.body).getD .skip
theorem spec_BlockDc.call {keep_0 : Nat} {Post : Value → Heap → Prop} {h : Heap} (H : spec_BlockDc.S keep_0 Post h) : CALL prg f_spec_BlockDc #[.float .f32 keep_0] Post h :=
  fn_call tau_ok mixed (c := spec_BlockDc.code) (Λ := lookL []) Tryz.func112 (by kernel_rfl) (by kernel_rfl)
    (Rq.free (by kernel_rfl))
    (Eq.mp (by kernel_rfl) H)

def spec_NewJet.J3 (Post : Value → Heap → Prop) (throat_0 : Int) (bore_1 : Int) (keep_2 : Nat) (near_3 : Nat) (far_4 : Nat) (t10 : Addr) (h : Heap) : Prop :=
    (MKS ti_float32 T_float32 throat_0 throat_0 (fun g25 h26 =>
    (MKS ti_float32 T_float32 bore_1 bore_1 (fun g27 h28 =>
    CALL prg f_spec_OnePole #[.float .f32 keep_2] (fun q29 h30 =>
    asA q29 fun a31 =>
    CALL prg f_spec_BlockDc #[.float .f32 1065269330] (fun q32 h33 =>
    asA q32 fun a34 =>
    SIZ (Array.size (⟨[.slice (some ⟨g25, 0, none⟩) (Int.toNat throat_0) (Int.toNat throat_0), .int .i64 (0 : Int)]⟩ : Array Value)) 2 <|
    SIZ (Array.size (⟨[.slice (some ⟨g27, 0, none⟩) (Int.toNat bore_1) (Int.toNat bore_1), .int .i64 (0 : Int)]⟩ : Array Value)) 2 <|
    SIZ (Array.size a31) 6 <|
    SIZ (Array.size a34) 6 <|
    STA 18 h33 t10 (⟨(List.set (List.set (splice 10 6 a34 (splice 4 6 a31 [.slice (some ⟨g25, 0, none⟩) (Int.toNat throat_0) (Int.toNat throat_0), .int .i64 (0 : Int), .slice (some ⟨g27, 0, none⟩) (Int.toNat bore_1) (Int.toNat bore_1), .int .i64 (0 : Int), .int .i64 (0 : Int), .float .f32 0, .float .f32 0, .float .f32 0, .float .f32 0, .float .f32 0, .int .i64 (0 : Int), .float .f32 0, .float .f32 0, .float .f32 0, .float .f32 0, .float .f32 0, .float .f32 0, .float .f32 0])) 16 (.float .f32 near_3)) 17 (.float .f32 far_4))⟩) fun h35 =>
    LDA 18 h35 t10 fun a36 =>
    Post (.tuple ⟨[.agg a36, .int .i64 (0 : Int)]⟩) h35) h30) h28) h26) ∧ (CALL prg f_spec_OnePole #[.float .f32 keep_2] (fun q37 h38 =>
    asA q37 fun a39 =>
    (MKS ti_float32 T_float32 bore_1 bore_1 (fun g40 h41 =>
    CALL prg f_spec_BlockDc #[.float .f32 1065269330] (fun q42 h43 =>
    asA q42 fun a44 =>
    SIZ (Array.size (⟨[.slice (some ⟨g25, 0, none⟩) (Int.toNat throat_0) (Int.toNat throat_0), .int .i64 (0 : Int)]⟩ : Array Value)) 2 <|
    SIZ (Array.size (⟨[.slice (some ⟨g40, 0, none⟩) (Int.toNat bore_1) (Int.toNat bore_1), .int .i64 (0 : Int)]⟩ : Array Value)) 2 <|
    SIZ (Array.size a39) 6 <|
    SIZ (Array.size a44) 6 <|
    STA 18 h43 t10 (⟨(List.set (List.set (splice 10 6 a44 (splice 4 6 a39 [.slice (some ⟨g25, 0, none⟩) (Int.toNat throat_0) (Int.toNat throat_0), .int .i64 (0 : Int), .slice (some ⟨g40, 0, none⟩) (Int.toNat bore_1) (Int.toNat bore_1), .int .i64 (0 : Int), .int .i64 (0 : Int), .float .f32 0, .float .f32 0, .float .f32 0, .float .f32 0, .float .f32 0, .int .i64 (0 : Int), .float .f32 0, .float .f32 0, .float .f32 0, .float .f32 0, .float .f32 0, .float .f32 0, .float .f32 0])) 16 (.float .f32 near_3)) 17 (.float .f32 far_4))⟩) fun h45 =>
    LDA 18 h45 t10 fun a46 =>
    Post (.tuple ⟨[.agg a46, .int .i64 (0 : Int)]⟩) h45) h41) h38) ∧ (CALL prg f_spec_BlockDc #[.float .f32 1065269330] (fun q47 h48 =>
    asA q47 fun a49 =>
    MKS ti_float32 T_float32 bore_1 bore_1 (fun g50 h51 =>
    SIZ (Array.size (⟨[.slice (some ⟨g25, 0, none⟩) (Int.toNat throat_0) (Int.toNat throat_0), .int .i64 (0 : Int)]⟩ : Array Value)) 2 <|
    SIZ (Array.size (⟨[.slice (some ⟨g50, 0, none⟩) (Int.toNat bore_1) (Int.toNat bore_1), .int .i64 (0 : Int)]⟩ : Array Value)) 2 <|
    SIZ (Array.size a39) 6 <|
    SIZ (Array.size a49) 6 <|
    STA 18 h51 t10 (⟨(List.set (List.set (splice 10 6 a49 (splice 4 6 a39 [.slice (some ⟨g25, 0, none⟩) (Int.toNat throat_0) (Int.toNat throat_0), .int .i64 (0 : Int), .slice (some ⟨g50, 0, none⟩) (Int.toNat bore_1) (Int.toNat bore_1), .int .i64 (0 : Int), .int .i64 (0 : Int), .float .f32 0, .float .f32 0, .float .f32 0, .float .f32 0, .float .f32 0, .int .i64 (0 : Int), .float .f32 0, .float .f32 0, .float .f32 0, .float .f32 0, .float .f32 0, .float .f32 0, .float .f32 0])) 16 (.float .f32 near_3)) 17 (.float .f32 far_4))⟩) fun h52 =>
    LDA 18 h52 t10 fun a53 =>
    Post (.tuple ⟨[.agg a53, .int .i64 (0 : Int)]⟩) h52) h48) h38)) h26)) h) ∧ ((MKS ti_float32 T_float32 bore_1 bore_1 (fun g54 h55 =>
    (MKS ti_float32 T_float32 throat_0 throat_0 (fun g56 h57 =>
    CALL prg f_spec_OnePole #[.float .f32 keep_2] (fun q58 h59 =>
    asA q58 fun a60 =>
    CALL prg f_spec_BlockDc #[.float .f32 1065269330] (fun q61 h62 =>
    asA q61 fun a63 =>
    SIZ (Array.size (⟨[.slice (some ⟨g56, 0, none⟩) (Int.toNat throat_0) (Int.toNat throat_0), .int .i64 (0 : Int)]⟩ : Array Value)) 2 <|
    SIZ (Array.size (⟨[.slice (some ⟨g54, 0, none⟩) (Int.toNat bore_1) (Int.toNat bore_1), .int .i64 (0 : Int)]⟩ : Array Value)) 2 <|
    SIZ (Array.size a60) 6 <|
    SIZ (Array.size a63) 6 <|
    STA 18 h62 t10 (⟨(List.set (List.set (splice 10 6 a63 (splice 4 6 a60 [.slice (some ⟨g56, 0, none⟩) (Int.toNat throat_0) (Int.toNat throat_0), .int .i64 (0 : Int), .slice (some ⟨g54, 0, none⟩) (Int.toNat bore_1) (Int.toNat bore_1), .int .i64 (0 : Int), .int .i64 (0 : Int), .float .f32 0, .float .f32 0, .float .f32 0, .float .f32 0, .float .f32 0, .int .i64 (0 : Int), .float .f32 0, .float .f32 0, .float .f32 0, .float .f32 0, .float .f32 0, .float .f32 0, .float .f32 0])) 16 (.float .f32 near_3)) 17 (.float .f32 far_4))⟩) fun h64 =>
    LDA 18 h64 t10 fun a65 =>
    Post (.tuple ⟨[.agg a65, .int .i64 (0 : Int)]⟩) h64) h59) h57) h55) ∧ (CALL prg f_spec_OnePole #[.float .f32 keep_2] (fun q66 h67 =>
    asA q66 fun a68 =>
    (MKS ti_float32 T_float32 throat_0 throat_0 (fun g69 h70 =>
    CALL prg f_spec_BlockDc #[.float .f32 1065269330] (fun q71 h72 =>
    asA q71 fun a73 =>
    SIZ (Array.size (⟨[.slice (some ⟨g69, 0, none⟩) (Int.toNat throat_0) (Int.toNat throat_0), .int .i64 (0 : Int)]⟩ : Array Value)) 2 <|
    SIZ (Array.size (⟨[.slice (some ⟨g54, 0, none⟩) (Int.toNat bore_1) (Int.toNat bore_1), .int .i64 (0 : Int)]⟩ : Array Value)) 2 <|
    SIZ (Array.size a68) 6 <|
    SIZ (Array.size a73) 6 <|
    STA 18 h72 t10 (⟨(List.set (List.set (splice 10 6 a73 (splice 4 6 a68 [.slice (some ⟨g69, 0, none⟩) (Int.toNat throat_0) (Int.toNat throat_0), .int .i64 (0 : Int), .slice (some ⟨g54, 0, none⟩) (Int.toNat bore_1) (Int.toNat bore_1), .int .i64 (0 : Int), .int .i64 (0 : Int), .float .f32 0, .float .f32 0, .float .f32 0, .float .f32 0, .float .f32 0, .int .i64 (0 : Int), .float .f32 0, .float .f32 0, .float .f32 0, .float .f32 0, .float .f32 0, .float .f32 0, .float .f32 0])) 16 (.float .f32 near_3)) 17 (.float .f32 far_4))⟩) fun h74 =>
    LDA 18 h74 t10 fun a75 =>
    Post (.tuple ⟨[.agg a75, .int .i64 (0 : Int)]⟩) h74) h70) h67) ∧ (CALL prg f_spec_BlockDc #[.float .f32 1065269330] (fun q76 h77 =>
    asA q76 fun a78 =>
    MKS ti_float32 T_float32 throat_0 throat_0 (fun g79 h80 =>
    SIZ (Array.size (⟨[.slice (some ⟨g79, 0, none⟩) (Int.toNat throat_0) (Int.toNat throat_0), .int .i64 (0 : Int)]⟩ : Array Value)) 2 <|
    SIZ (Array.size (⟨[.slice (some ⟨g54, 0, none⟩) (Int.toNat bore_1) (Int.toNat bore_1), .int .i64 (0 : Int)]⟩ : Array Value)) 2 <|
    SIZ (Array.size a68) 6 <|
    SIZ (Array.size a78) 6 <|
    STA 18 h80 t10 (⟨(List.set (List.set (splice 10 6 a78 (splice 4 6 a68 [.slice (some ⟨g79, 0, none⟩) (Int.toNat throat_0) (Int.toNat throat_0), .int .i64 (0 : Int), .slice (some ⟨g54, 0, none⟩) (Int.toNat bore_1) (Int.toNat bore_1), .int .i64 (0 : Int), .int .i64 (0 : Int), .float .f32 0, .float .f32 0, .float .f32 0, .float .f32 0, .float .f32 0, .int .i64 (0 : Int), .float .f32 0, .float .f32 0, .float .f32 0, .float .f32 0, .float .f32 0, .float .f32 0, .float .f32 0])) 16 (.float .f32 near_3)) 17 (.float .f32 far_4))⟩) fun h81 =>
    LDA 18 h81 t10 fun a82 =>
    Post (.tuple ⟨[.agg a82, .int .i64 (0 : Int)]⟩) h81) h77) h67)) h55)) h) ∧ (CALL prg f_spec_OnePole #[.float .f32 keep_2] (fun q83 h84 =>
    asA q83 fun a85 =>
    (MKS ti_float32 T_float32 throat_0 throat_0 (fun g86 h87 =>
    (MKS ti_float32 T_float32 bore_1 bore_1 (fun g88 h89 =>
    CALL prg f_spec_BlockDc #[.float .f32 1065269330] (fun q90 h91 =>
    asA q90 fun a92 =>
    SIZ (Array.size (⟨[.slice (some ⟨g86, 0, none⟩) (Int.toNat throat_0) (Int.toNat throat_0), .int .i64 (0 : Int)]⟩ : Array Value)) 2 <|
    SIZ (Array.size (⟨[.slice (some ⟨g88, 0, none⟩) (Int.toNat bore_1) (Int.toNat bore_1), .int .i64 (0 : Int)]⟩ : Array Value)) 2 <|
    SIZ (Array.size a85) 6 <|
    SIZ (Array.size a92) 6 <|
    STA 18 h91 t10 (⟨(List.set (List.set (splice 10 6 a92 (splice 4 6 a85 [.slice (some ⟨g86, 0, none⟩) (Int.toNat throat_0) (Int.toNat throat_0), .int .i64 (0 : Int), .slice (some ⟨g88, 0, none⟩) (Int.toNat bore_1) (Int.toNat bore_1), .int .i64 (0 : Int), .int .i64 (0 : Int), .float .f32 0, .float .f32 0, .float .f32 0, .float .f32 0, .float .f32 0, .int .i64 (0 : Int), .float .f32 0, .float .f32 0, .float .f32 0, .float .f32 0, .float .f32 0, .float .f32 0, .float .f32 0])) 16 (.float .f32 near_3)) 17 (.float .f32 far_4))⟩) fun h93 =>
    LDA 18 h93 t10 fun a94 =>
    Post (.tuple ⟨[.agg a94, .int .i64 (0 : Int)]⟩) h93) h89) h87) ∧ (CALL prg f_spec_BlockDc #[.float .f32 1065269330] (fun q95 h96 =>
    asA q95 fun a97 =>
    MKS ti_float32 T_float32 bore_1 bore_1 (fun g98 h99 =>
    SIZ (Array.size (⟨[.slice (some ⟨g86, 0, none⟩) (Int.toNat throat_0) (Int.toNat throat_0), .int .i64 (0 : Int)]⟩ : Array Value)) 2 <|
    SIZ (Array.size (⟨[.slice (some ⟨g98, 0, none⟩) (Int.toNat bore_1) (Int.toNat bore_1), .int .i64 (0 : Int)]⟩ : Array Value)) 2 <|
    SIZ (Array.size a85) 6 <|
    SIZ (Array.size a97) 6 <|
    STA 18 h99 t10 (⟨(List.set (List.set (splice 10 6 a97 (splice 4 6 a85 [.slice (some ⟨g86, 0, none⟩) (Int.toNat throat_0) (Int.toNat throat_0), .int .i64 (0 : Int), .slice (some ⟨g98, 0, none⟩) (Int.toNat bore_1) (Int.toNat bore_1), .int .i64 (0 : Int), .int .i64 (0 : Int), .float .f32 0, .float .f32 0, .float .f32 0, .float .f32 0, .float .f32 0, .int .i64 (0 : Int), .float .f32 0, .float .f32 0, .float .f32 0, .float .f32 0, .float .f32 0, .float .f32 0, .float .f32 0])) 16 (.float .f32 near_3)) 17 (.float .f32 far_4))⟩) fun h100 =>
    LDA 18 h100 t10 fun a101 =>
    Post (.tuple ⟨[.agg a101, .int .i64 (0 : Int)]⟩) h100) h96) h87)) h84) ∧ ((MKS ti_float32 T_float32 bore_1 bore_1 (fun g102 h103 =>
    (MKS ti_float32 T_float32 throat_0 throat_0 (fun g104 h105 =>
    CALL prg f_spec_BlockDc #[.float .f32 1065269330] (fun q106 h107 =>
    asA q106 fun a108 =>
    SIZ (Array.size (⟨[.slice (some ⟨g104, 0, none⟩) (Int.toNat throat_0) (Int.toNat throat_0), .int .i64 (0 : Int)]⟩ : Array Value)) 2 <|
    SIZ (Array.size (⟨[.slice (some ⟨g102, 0, none⟩) (Int.toNat bore_1) (Int.toNat bore_1), .int .i64 (0 : Int)]⟩ : Array Value)) 2 <|
    SIZ (Array.size a85) 6 <|
    SIZ (Array.size a108) 6 <|
    STA 18 h107 t10 (⟨(List.set (List.set (splice 10 6 a108 (splice 4 6 a85 [.slice (some ⟨g104, 0, none⟩) (Int.toNat throat_0) (Int.toNat throat_0), .int .i64 (0 : Int), .slice (some ⟨g102, 0, none⟩) (Int.toNat bore_1) (Int.toNat bore_1), .int .i64 (0 : Int), .int .i64 (0 : Int), .float .f32 0, .float .f32 0, .float .f32 0, .float .f32 0, .float .f32 0, .int .i64 (0 : Int), .float .f32 0, .float .f32 0, .float .f32 0, .float .f32 0, .float .f32 0, .float .f32 0, .float .f32 0])) 16 (.float .f32 near_3)) 17 (.float .f32 far_4))⟩) fun h109 =>
    LDA 18 h109 t10 fun a110 =>
    Post (.tuple ⟨[.agg a110, .int .i64 (0 : Int)]⟩) h109) h105) h103) ∧ (CALL prg f_spec_BlockDc #[.float .f32 1065269330] (fun q111 h112 =>
    asA q111 fun a113 =>
    MKS ti_float32 T_float32 throat_0 throat_0 (fun g114 h115 =>
    SIZ (Array.size (⟨[.slice (some ⟨g114, 0, none⟩) (Int.toNat throat_0) (Int.toNat throat_0), .int .i64 (0 : Int)]⟩ : Array Value)) 2 <|
    SIZ (Array.size (⟨[.slice (some ⟨g102, 0, none⟩) (Int.toNat bore_1) (Int.toNat bore_1), .int .i64 (0 : Int)]⟩ : Array Value)) 2 <|
    SIZ (Array.size a85) 6 <|
    SIZ (Array.size a113) 6 <|
    STA 18 h115 t10 (⟨(List.set (List.set (splice 10 6 a113 (splice 4 6 a85 [.slice (some ⟨g114, 0, none⟩) (Int.toNat throat_0) (Int.toNat throat_0), .int .i64 (0 : Int), .slice (some ⟨g102, 0, none⟩) (Int.toNat bore_1) (Int.toNat bore_1), .int .i64 (0 : Int), .int .i64 (0 : Int), .float .f32 0, .float .f32 0, .float .f32 0, .float .f32 0, .float .f32 0, .int .i64 (0 : Int), .float .f32 0, .float .f32 0, .float .f32 0, .float .f32 0, .float .f32 0, .float .f32 0, .float .f32 0])) 16 (.float .f32 near_3)) 17 (.float .f32 far_4))⟩) fun h116 =>
    LDA 18 h116 t10 fun a117 =>
    Post (.tuple ⟨[.agg a117, .int .i64 (0 : Int)]⟩) h116) h112) h103)) h84) ∧ (CALL prg f_spec_BlockDc #[.float .f32 1065269330] (fun q118 h119 =>
    asA q118 fun a120 =>
    (MKS ti_float32 T_float32 throat_0 throat_0 (fun g121 h122 =>
    MKS ti_float32 T_float32 bore_1 bore_1 (fun g123 h124 =>
    SIZ (Array.size (⟨[.slice (some ⟨g121, 0, none⟩) (Int.toNat throat_0) (Int.toNat throat_0), .int .i64 (0 : Int)]⟩ : Array Value)) 2 <|
    SIZ (Array.size (⟨[.slice (some ⟨g123, 0, none⟩) (Int.toNat bore_1) (Int.toNat bore_1), .int .i64 (0 : Int)]⟩ : Array Value)) 2 <|
    SIZ (Array.size a85) 6 <|
    SIZ (Array.size a120) 6 <|
    STA 18 h124 t10 (⟨(List.set (List.set (splice 10 6 a120 (splice 4 6 a85 [.slice (some ⟨g121, 0, none⟩) (Int.toNat throat_0) (Int.toNat throat_0), .int .i64 (0 : Int), .slice (some ⟨g123, 0, none⟩) (Int.toNat bore_1) (Int.toNat bore_1), .int .i64 (0 : Int), .int .i64 (0 : Int), .float .f32 0, .float .f32 0, .float .f32 0, .float .f32 0, .float .f32 0, .int .i64 (0 : Int), .float .f32 0, .float .f32 0, .float .f32 0, .float .f32 0, .float .f32 0, .float .f32 0, .float .f32 0])) 16 (.float .f32 near_3)) 17 (.float .f32 far_4))⟩) fun h125 =>
    LDA 18 h125 t10 fun a126 =>
    Post (.tuple ⟨[.agg a126, .int .i64 (0 : Int)]⟩) h125) h122) h119) ∧ (MKS ti_float32 T_float32 bore_1 bore_1 (fun g127 h128 =>
    MKS ti_float32 T_float32 throat_0 throat_0 (fun g129 h130 =>
    SIZ (Array.size (⟨[.slice (some ⟨g129, 0, none⟩) (Int.toNat throat_0) (Int.toNat throat_0), .int .i64 (0 : Int)]⟩ : Array Value)) 2 <|
    SIZ (Array.size (⟨[.slice (some ⟨g127, 0, none⟩) (Int.toNat bore_1) (Int.toNat bore_1), .int .i64 (0 : Int)]⟩ : Array Value)) 2 <|
    SIZ (Array.size a85) 6 <|
    SIZ (Array.size a120) 6 <|
    STA 18 h130 t10 (⟨(List.set (List.set (splice 10 6 a120 (splice 4 6 a85 [.slice (some ⟨g129, 0, none⟩) (Int.toNat throat_0) (Int.toNat throat_0), .int .i64 (0 : Int), .slice (some ⟨g127, 0, none⟩) (Int.toNat bore_1) (Int.toNat bore_1), .int .i64 (0 : Int), .int .i64 (0 : Int), .float .f32 0, .float .f32 0, .float .f32 0, .float .f32 0, .float .f32 0, .int .i64 (0 : Int), .float .f32 0, .float .f32 0, .float .f32 0, .float .f32 0, .float .f32 0, .float .f32 0, .float .f32 0])) 16 (.float .f32 near_3)) 17 (.float .f32 far_4))⟩) fun h131 =>
    LDA 18 h131 t10 fun a132 =>
    Post (.tuple ⟨[.agg a132, .int .i64 (0 : Int)]⟩) h131) h128) h119)) h84))) h))
def spec_NewJet.j3 (Post : Value → Heap → Prop) : Frame → Heap → Prop := fun fr h => GRD (shape (kds 60 [(0, .i .i64), (1, .i .i64), (2, .f .f32), (3, .f .f32), (4, .f .f32), (10, .p)]) fr) (spec_NewJet.J3 Post (gI (lget fr 0)) (gI (lget fr 1)) (gF (lget fr 2)) (gF (lget fr 3)) (gF (lget fr 4)) (gP (lget fr 10)) h)
def spec_NewJet.S (throat_0 : Int) (bore_1 : Int) (keep_2 : Nat) (near_3 : Nat) (far_4 : Nat) (Post : Value → Heap → Prop) (h : Heap) : Prop :=
    ALC ⟨Z_impl_Jet⟩ T_impl_Jet (fun g1 h2 =>
    CALL prg f_spec_l00In #[.int .i64 throat_0, .int .i64 (1 : Int), .int .i64 (1024 : Int)] (fun q3 h4 =>
    asB q3 fun b5 =>
    BIF (!b5) (
    STA 18 h4 ⟨g1, 0, none⟩ (⟨[.slice none 0 0, .int .i64 (0 : Int), .slice none 0 0, .int .i64 (0 : Int), .int .i64 (0 : Int), .float .f32 0, .float .f32 0, .float .f32 0, .float .f32 0, .float .f32 0, .int .i64 (0 : Int), .float .f32 0, .float .f32 0, .float .f32 0, .float .f32 0, .float .f32 0, .float .f32 0, .float .f32 0]⟩ : Array Value) fun h6 =>
    LDA 18 h6 ⟨g1, 0, none⟩ fun a7 =>
    Post (.tuple ⟨[.agg a7, .int .i64 (2 : Int)]⟩) h6) (
    CALL prg f_spec_l00In #[.int .i64 bore_1, .int .i64 (1 : Int), .int .i64 (1024 : Int)] (fun q8 h9 =>
    asB q8 fun b10 =>
    BIF (!b10) (
    STA 18 h9 ⟨g1, 0, none⟩ (⟨[.slice none 0 0, .int .i64 (0 : Int), .slice none 0 0, .int .i64 (0 : Int), .int .i64 (0 : Int), .float .f32 0, .float .f32 0, .float .f32 0, .float .f32 0, .float .f32 0, .int .i64 (0 : Int), .float .f32 0, .float .f32 0, .float .f32 0, .float .f32 0, .float .f32 0, .float .f32 0, .float .f32 0]⟩ : Array Value) fun h11 =>
    LDA 18 h11 ⟨g1, 0, none⟩ fun a12 =>
    Post (.tuple ⟨[.agg a12, .int .i64 (2 : Int)]⟩) h11) (
    BIF (FloatKind.f32.format.order keep_2 0 == some .gt || FloatKind.f32.format.order keep_2 0 == some .eq) (
    BIF (!(FloatKind.f32.format.order keep_2 1065353216 == some .lt)) (
    STA 18 h9 ⟨g1, 0, none⟩ (⟨[.slice none 0 0, .int .i64 (0 : Int), .slice none 0 0, .int .i64 (0 : Int), .int .i64 (0 : Int), .float .f32 0, .float .f32 0, .float .f32 0, .float .f32 0, .float .f32 0, .int .i64 (0 : Int), .float .f32 0, .float .f32 0, .float .f32 0, .float .f32 0, .float .f32 0, .float .f32 0, .float .f32 0]⟩ : Array Value) fun h13 =>
    LDA 18 h13 ⟨g1, 0, none⟩ fun a14 =>
    Post (.tuple ⟨[.agg a14, .int .i64 (2 : Int)]⟩) h13) (
    BIF (FloatKind.f32.format.order near_3 3212836864 == some .gt || FloatKind.f32.format.order near_3 3212836864 == some .eq) (
    BIF (!(FloatKind.f32.format.order near_3 1065353216 == some .lt || FloatKind.f32.format.order near_3 1065353216 == some .eq)) (
    STA 18 h9 ⟨g1, 0, none⟩ (⟨[.slice none 0 0, .int .i64 (0 : Int), .slice none 0 0, .int .i64 (0 : Int), .int .i64 (0 : Int), .float .f32 0, .float .f32 0, .float .f32 0, .float .f32 0, .float .f32 0, .int .i64 (0 : Int), .float .f32 0, .float .f32 0, .float .f32 0, .float .f32 0, .float .f32 0, .float .f32 0, .float .f32 0]⟩ : Array Value) fun h15 =>
    LDA 18 h15 ⟨g1, 0, none⟩ fun a16 =>
    Post (.tuple ⟨[.agg a16, .int .i64 (2 : Int)]⟩) h15) (
    BIF (FloatKind.f32.format.order far_4 3212836864 == some .gt || FloatKind.f32.format.order far_4 3212836864 == some .eq) (
    BIF (!(FloatKind.f32.format.order far_4 1065353216 == some .lt || FloatKind.f32.format.order far_4 1065353216 == some .eq)) (
    STA 18 h9 ⟨g1, 0, none⟩ (⟨[.slice none 0 0, .int .i64 (0 : Int), .slice none 0 0, .int .i64 (0 : Int), .int .i64 (0 : Int), .float .f32 0, .float .f32 0, .float .f32 0, .float .f32 0, .float .f32 0, .int .i64 (0 : Int), .float .f32 0, .float .f32 0, .float .f32 0, .float .f32 0, .float .f32 0, .float .f32 0, .float .f32 0]⟩ : Array Value) fun h17 =>
    LDA 18 h17 ⟨g1, 0, none⟩ fun a18 =>
    Post (.tuple ⟨[.agg a18, .int .i64 (2 : Int)]⟩) h17) (
    spec_NewJet.J3 Post throat_0 bore_1 keep_2 near_3 far_4 ⟨g1, 0, none⟩ h9)) (
    STA 18 h9 ⟨g1, 0, none⟩ (⟨[.slice none 0 0, .int .i64 (0 : Int), .slice none 0 0, .int .i64 (0 : Int), .int .i64 (0 : Int), .float .f32 0, .float .f32 0, .float .f32 0, .float .f32 0, .float .f32 0, .int .i64 (0 : Int), .float .f32 0, .float .f32 0, .float .f32 0, .float .f32 0, .float .f32 0, .float .f32 0, .float .f32 0]⟩ : Array Value) fun h19 =>
    LDA 18 h19 ⟨g1, 0, none⟩ fun a20 =>
    Post (.tuple ⟨[.agg a20, .int .i64 (2 : Int)]⟩) h19))) (
    STA 18 h9 ⟨g1, 0, none⟩ (⟨[.slice none 0 0, .int .i64 (0 : Int), .slice none 0 0, .int .i64 (0 : Int), .int .i64 (0 : Int), .float .f32 0, .float .f32 0, .float .f32 0, .float .f32 0, .float .f32 0, .int .i64 (0 : Int), .float .f32 0, .float .f32 0, .float .f32 0, .float .f32 0, .float .f32 0, .float .f32 0, .float .f32 0]⟩ : Array Value) fun h21 =>
    LDA 18 h21 ⟨g1, 0, none⟩ fun a22 =>
    Post (.tuple ⟨[.agg a22, .int .i64 (2 : Int)]⟩) h21))) (
    STA 18 h9 ⟨g1, 0, none⟩ (⟨[.slice none 0 0, .int .i64 (0 : Int), .slice none 0 0, .int .i64 (0 : Int), .int .i64 (0 : Int), .float .f32 0, .float .f32 0, .float .f32 0, .float .f32 0, .float .f32 0, .int .i64 (0 : Int), .float .f32 0, .float .f32 0, .float .f32 0, .float .f32 0, .float .f32 0, .float .f32 0, .float .f32 0]⟩ : Array Value) fun h23 =>
    LDA 18 h23 ⟨g1, 0, none⟩ fun a24 =>
    Post (.tuple ⟨[.agg a24, .int .i64 (2 : Int)]⟩) h23))) h4)) h2) h
noncomputable def spec_NewJet.code : Code := (Tryz.f68.body).getD .skip
theorem spec_NewJet.call {throat_0 : Int} {bore_1 : Int} {keep_2 : Nat} {near_3 : Nat} {far_4 : Nat} {Post : Value → Heap → Prop} {h : Heap} (H : spec_NewJet.S throat_0 bore_1 keep_2 near_3 far_4 Post h) : CALL prg f_spec_NewJet #[.int .i64 throat_0, .int .i64 bore_1, .float .f32 keep_2, .float .f32 near_3, .float .f32 far_4] Post h :=
  fn_call tau_ok mixed (c := spec_NewJet.code) (Λ := lookL [(3, spec_NewJet.j3 Post)]) Tryz.func68 (by kernel_rfl) (by kernel_rfl)
    (Rq.seq (by kernel_rfl) (Rq.free (by kernel_rfl)) (Rq.seqJ (spec_NewJet.j3 Post) (by kernel_rfl) (seg (fun _ _ => by kernel_rfl)) (Rq.free (by kernel_rfl))
(Rq.free (by kernel_rfl))))
    (Eq.mp (by kernel_rfl) H)

def spec_l05Edge.S (p_0 : Nat) (Post : Value → Heap → Prop) (h : Heap) : Prop :=
    FOP .f32 (FloatKind.f32.format.mul p_0 p_0) fun r1 =>
    FOP .f32 (FloatKind.f32.format.sub r1 1065353216) fun r2 =>
    FOP .f32 (FloatKind.f32.format.mul p_0 r2) fun r3 =>
    CALL prg f_spec_l01Clamp #[.float .f32 r3, .float .f32 1065353216] (fun q4 h5 =>
    asF .f32 q4 fun r6 =>
    Post (.float .f32 r6) h5) h
noncomputable def spec_l05Edge.code : Code := (Tryz.f82.body).getD .skip
theorem spec_l05Edge.call {p_0 : Nat} {Post : Value → Heap → Prop} {h : Heap} (H : spec_l05Edge.S p_0 Post h) : CALL prg f_spec_l05Edge #[.float .f32 p_0] Post h :=
  fn_call tau_ok mixed (c := spec_l05Edge.code) (Λ := lookL []) Tryz.func82 (by kernel_rfl) (by kernel_rfl)
    (Rq.free (by kernel_rfl))
    (Eq.mp (by kernel_rfl) H)

def spec_l05StepJet.S (x_0 : Addr) (breath_1 : Nat) (Post : Value → Heap → Prop) (h : Heap) : Prop :=
    oL (cell h x_0) fun l1b l1l l1c =>
    oI .i64 (cell h (Addr.add x_0 1)) fun n2 =>
    IDXS l1b n2 l1l fun p3 =>
    oF .f32 (cell h ((Addr.add p3 ((Int.toNat n2) * 1)))) fun r4 =>
    oL (cell h (Addr.add x_0 2)) fun l5b l5l l5c =>
    oI .i64 (cell h (Addr.add x_0 3)) fun n6 =>
    IDXS l5b n6 l5l fun p7 =>
    oF .f32 (cell h ((Addr.add p7 ((Int.toNat n6) * 1)))) fun r8 =>
    CALL prg f_spec_l02Step #[.pointer (some (Addr.add x_0 4)), .float .f32 r8] (fun q9 h10 =>
    asF .f32 q9 fun r11 =>
    CALL prg f_spec_l02Step #[.pointer (some (Addr.add x_0 10)), .float .f32 r11] (fun q12 h13 =>
    asF .f32 q12 fun r14 =>
    oF .f32 (cell h13 (Addr.add x_0 16)) fun r15 =>
    FOP .f32 (FloatKind.f32.format.mul r15 r14) fun r16 =>
    FOP .f32 (FloatKind.f32.format.sub breath_1 r16) fun r17 =>
    CALL prg f_spec_l02Kept #[.float .f32 r17] (fun q18 h19 =>
    asF .f32 q18 fun r20 =>
    CALL prg f_spec_l02Push #[.pointer (some x_0), .float .f32 r20] (fun q21 h22 =>
    asF .f32 q21 fun r23 =>
    oF .f32 (cell h22 (Addr.add x_0 17)) fun r24 =>
    (CALL prg f_spec_l05Edge #[.float .f32 r4] (fun q25 h26 =>
    asF .f32 q25 fun r27 =>
    PIN h22 (Addr.add x_0 17) 1 h26 <|
    FOP .f32 (FloatKind.f32.format.mul r24 r14) fun r28 =>
    FOP .f32 (FloatKind.f32.format.add r27 r28) fun r29 =>
    CALL prg f_spec_l02Kept #[.float .f32 r29] (fun q30 h31 =>
    asF .f32 q30 fun r32 =>
    CALL prg f_spec_l02Push #[.pointer (some (Addr.add x_0 2)), .float .f32 r32] (fun q33 h34 =>
    asF .f32 q33 fun r35 =>
    Post (.float .f32 r8) h34) h31) h26) h22) ∧ (FOP .f32 (FloatKind.f32.format.mul r24 r14) fun r36 =>
    CALL prg f_spec_l05Edge #[.float .f32 r4] (fun q37 h38 =>
    asF .f32 q37 fun r39 =>
    PIN h22 (Addr.add x_0 17) 1 h38 <|
    FOP .f32 (FloatKind.f32.format.add r39 r36) fun r40 =>
    CALL prg f_spec_l02Kept #[.float .f32 r40] (fun q41 h42 =>
    asF .f32 q41 fun r43 =>
    CALL prg f_spec_l02Push #[.pointer (some (Addr.add x_0 2)), .float .f32 r43] (fun q44 h45 =>
    asF .f32 q44 fun r46 =>
    Post (.float .f32 r8) h45) h42) h38) h22)) h19) h13) h10) h
noncomputable def spec_l05StepJet.code : Code := (Tryz.f40.body).getD .skip
theorem spec_l05StepJet.call {x_0 : Addr} {breath_1 : Nat} {Post : Value → Heap → Prop} {h : Heap} (H : spec_l05StepJet.S x_0 breath_1 Post h) : CALL prg f_spec_l05StepJet #[.pointer (some x_0), .float .f32 breath_1] Post h :=
  fn_call tau_ok mixed (c := spec_l05StepJet.code) (Λ := lookL []) Tryz.func40 (by kernel_rfl) (by kernel_rfl)
    (Rq.free (by kernel_rfl))
    (Eq.mp (by kernel_rfl) H)

def spec_MuteJet.S (x_0 : Array Value) (Post : Value → Heap → Prop) (h : Heap) : Prop :=
    ALC x_0 T_impl_Jet (fun g1 h2 =>
    ALC ⟨Z_impl_Jet⟩ T_impl_Jet (fun g3 h4 =>
    CALL prg f_spec_l05Jet #[.pointer (some ⟨g1, 0, none⟩)] (fun q5 h6 =>
    asB q5 fun b7 =>
    BIF (!b7) (
    STA 18 h6 ⟨g3, 0, none⟩ (⟨[.slice none 0 0, .int .i64 (0 : Int), .slice none 0 0, .int .i64 (0 : Int), .int .i64 (0 : Int), .float .f32 0, .float .f32 0, .float .f32 0, .float .f32 0, .float .f32 0, .int .i64 (0 : Int), .float .f32 0, .float .f32 0, .float .f32 0, .float .f32 0, .float .f32 0, .float .f32 0, .float .f32 0]⟩ : Array Value) fun h8 =>
    LDA 18 h8 ⟨g3, 0, none⟩ fun a9 =>
    Post (.tuple ⟨[.agg a9, .int .i64 (1 : Int)]⟩) h8) (
    CALL prg f_spec_l05CopyJet #[.pointer (some ⟨g1, 0, none⟩)] (fun q10 h11 =>
    asA q10 fun a12 =>
    ALC ⟨Z_impl_Jet⟩ T_impl_Jet (fun g13 h14 =>
    STA 18 h14 ⟨g13, 0, none⟩ a12 fun h15 =>
    CALL prg f_spec_l05Muted #[.pointer (some ⟨g1, 0, none⟩)] (fun q16 h17 =>
    asA q16 fun a18 =>
    STA 2 h17 ⟨g13, 0, none⟩ a18 fun h19 =>
    CALL prg f_spec_l05Muted #[.pointer (some ⟨g1, 2, none⟩)] (fun q20 h21 =>
    asA q20 fun a22 =>
    STA 2 h21 ⟨g13, 2, none⟩ a22 fun h23 =>
    STA 2 h23 ⟨g13, 8, none⟩ (⟨[.float .f32 0, .float .f32 0]⟩ : Array Value) fun h24 =>
    STA 2 h24 ⟨g13, 14, none⟩ (⟨[.float .f32 0, .float .f32 0]⟩ : Array Value) fun h25 =>
    LDA 18 h25 ⟨g13, 0, none⟩ fun a26 =>
    STA 18 h25 ⟨g3, 0, none⟩ a26 fun h27 =>
    LDA 18 h27 ⟨g3, 0, none⟩ fun a28 =>
    Post (.tuple ⟨[.agg a28, .int .i64 (0 : Int)]⟩) h27) h19) h15) h11) h6)) h4) h2) h
noncomputable def spec_MuteJet.code : Code := (Tryz.f17.body).getD .skip
theorem spec_MuteJet.call {x_0 : Array Value} {Post : Value → Heap → Prop} {h : Heap} (H : spec_MuteJet.S x_0 Post h) : CALL prg f_spec_MuteJet #[.agg x_0] Post h :=
  fn_call tau_ok mixed (c := spec_MuteJet.code) (Λ := lookL []) Tryz.func17 (by kernel_rfl) (by kernel_rfl)
    (Rq.free (by kernel_rfl))
    (Eq.mp (by kernel_rfl) H)

def impl_ValidJet.S (x_0 : Array Value) (Post : Value → Heap → Prop) (h : Heap) : Prop :=
    ALC x_0 T_impl_Jet (fun g1 h2 =>
    LDA 2 h2 ⟨g1, 0, none⟩ fun a3 =>
    CALL prg f_impl_isRing #[.agg a3] (fun q4 h5 =>
    asB q4 fun b6 =>
    BIF b6 (
    LDA 2 h5 ⟨g1, 2, none⟩ fun a7 =>
    CALL prg f_impl_isRing #[.agg a7] (fun q8 h9 =>
    asB q8 fun b10 =>
    BIF b10 (
    LDA 6 h9 ⟨g1, 4, none⟩ fun a11 =>
    CALL prg f_impl_isFilter #[.agg a11, .int .i64 (1 : Int)] (fun q12 h13 =>
    asB q12 fun b14 =>
    BIF b14 (
    LDA 6 h13 ⟨g1, 10, none⟩ fun a15 =>
    CALL prg f_impl_isFilter #[.agg a15, .int .i64 (5 : Int)] (fun q16 h17 =>
    asB q16 fun b18 =>
    BIF b18 (
    oF .f32 (cell h17 ⟨g1, 16, none⟩) fun r19 =>
    oF .f32 (cell h17 ⟨g1, 17, none⟩) fun r20 =>
    ALC ⟨[.float .f32 r19, .float .f32 r20]⟩ T_float32 (fun g21 h22 =>
    CALL prg f_impl_areFinite #[.slice (some ⟨g21, 0, none⟩) 2 2] (fun q23 h24 =>
    asB q23 fun b25 =>
    Post (.bool b25) h24) h22) h17) (
    Post (.bool false) h17)) h13) (
    Post (.bool false) h13)) h9) (
    Post (.bool false) h9)) h5) (
    Post (.bool false) h5)) h2) h
noncomputable def impl_ValidJet.code : Code := (Tryz.f19.body).getD .skip
theorem impl_ValidJet.call {x_0 : Array Value} {Post : Value → Heap → Prop} {h : Heap} (H : impl_ValidJet.S x_0 Post h) : CALL prg f_impl_ValidJet #[.agg x_0] Post h :=
  fn_call tau_ok mixed (c := impl_ValidJet.code) (Λ := lookL []) Tryz.func19 (by kernel_rfl) (by kernel_rfl)
    (Rq.free (by kernel_rfl))
    (Eq.mp (by kernel_rfl) H)

def impl_Jet_clone.S (x_0 : Array Value) (Post : Value → Heap → Prop) (h : Heap) : Prop :=
    ALC x_0 T_impl_Jet (fun g1 h2 =>
    ALC ⟨Z_impl_Jet⟩ T_impl_Jet (fun g3 h4 =>
    LDA 2 h4 ⟨g1, 0, none⟩ fun a5 =>
    LDA 2 h4 ⟨g1, 2, none⟩ fun a6 =>
    CALL prg f_impl_Ring_clone #[.agg a5] (fun q7 h8 =>
    asA q7 fun a9 =>
    PIN h4 ⟨g1, 2, none⟩ 2 h8 <|
    CALL prg f_impl_Ring_clone #[.agg a6] (fun q10 h11 =>
    asA q10 fun a12 =>
    STA 2 h11 ⟨g1, 0, none⟩ a9 fun h13 =>
    STA 2 h13 ⟨g1, 2, none⟩ a12 fun h14 =>
    LDA 18 h14 ⟨g1, 0, none⟩ fun a15 =>
    STA 18 h14 ⟨g3, 0, none⟩ a15 fun h16 =>
    LDA 18 h16 ⟨g3, 0, none⟩ fun a17 =>
    Post (.agg a17) h16) h8) h4) h2) h
noncomputable def impl_Jet_clone.code : Code := (Tryz.f36.body).getD .skip
theorem impl_Jet_clone.call {x_0 : Array Value} {Post : Value → Heap → Prop} {h : Heap} (H : impl_Jet_clone.S x_0 Post h) : CALL prg f_impl_Jet_clone #[.agg x_0] Post h :=
  fn_call tau_ok mixed (c := impl_Jet_clone.code) (Λ := lookL []) Tryz.func36 (by kernel_rfl) (by kernel_rfl)
    (Rq.free (by kernel_rfl))
    (Eq.mp (by kernel_rfl) H)

def impl_JetAt.S (pressure_0 : Nat) (Post : Value → Heap → Prop) (h : Heap) : Prop :=
    FOP .f32 (FloatKind.f32.format.mul pressure_0 pressure_0) fun r1 =>
    FOP .f32 (FloatKind.f32.format.sub r1 1065353216) fun r2 =>
    FOP .f32 (FloatKind.f32.format.mul pressure_0 r2) fun r3 =>
    CALL prg f_impl_ClampSample #[.float .f32 r3, .float .f32 1065353216] (fun q4 h5 =>
    asF .f32 q4 fun r6 =>
    Post (.float .f32 r6) h5) h
noncomputable def impl_JetAt.code : Code := (Tryz.f74.body).getD .skip
theorem impl_JetAt.call {pressure_0 : Nat} {Post : Value → Heap → Prop} {h : Heap} (H : impl_JetAt.S pressure_0 Post h) : CALL prg f_impl_JetAt #[.float .f32 pressure_0] Post h :=
  fn_call tau_ok mixed (c := impl_JetAt.code) (Λ := lookL []) Tryz.func74 (by kernel_rfl) (by kernel_rfl)
    (Rq.free (by kernel_rfl))
    (Eq.mp (by kernel_rfl) H)

def p_impl_Jet_step.S (x_0 : Addr) (breath_1 : Nat) (Post : Value → Heap → Prop) (h : Heap) : Prop :=
    LDA 2 h x_0 fun a1 =>
    LDA 2 h (Addr.add x_0 2) fun a2 =>
    CALL prg f_impl_Ring_oldest #[.agg a1] (fun q3 h4 =>
    asF .f32 q3 fun r5 =>
    PIN h (Addr.add x_0 2) 2 h4 <|
    CALL prg f_impl_Ring_oldest #[.agg a2] (fun q6 h7 =>
    asF .f32 q6 fun r8 =>
    CALL prg f_p_impl_Filter_step #[.pointer (some (Addr.add x_0 4)), .float .f32 r8] (fun q9 h10 =>
    asF .f32 q9 fun r11 =>
    CALL prg f_p_impl_Filter_step #[.pointer (some (Addr.add x_0 10)), .float .f32 r11] (fun q12 h13 =>
    asF .f32 q12 fun r14 =>
    oF .f32 (cell h13 (Addr.add x_0 16)) fun r15 =>
    FOP .f32 (FloatKind.f32.format.mul r15 r14) fun r16 =>
    FOP .f32 (FloatKind.f32.format.sub breath_1 r16) fun r17 =>
    CALL prg f_impl_kept #[.float .f32 r17] (fun q18 h19 =>
    asF .f32 q18 fun r20 =>
    CALL prg f_p_impl_Ring_push #[.pointer (some x_0), .float .f32 r20] (fun q21 h22 =>
    asF .f32 q21 fun r23 =>
    oF .f32 (cell h22 (Addr.add x_0 17)) fun r24 =>
    (CALL prg f_impl_JetAt #[.float .f32 r5] (fun q25 h26 =>
    asF .f32 q25 fun r27 =>
    PIN h22 (Addr.add x_0 17) 1 h26 <|
    FOP .f32 (FloatKind.f32.format.mul r24 r14) fun r28 =>
    FOP .f32 (FloatKind.f32.format.add r27 r28) fun r29 =>
    CALL prg f_impl_kept #[.float .f32 r29] (fun q30 h31 =>
    asF .f32 q30 fun r32 =>
    CALL prg f_p_impl_Ring_push #[.pointer (some (Addr.add x_0 2)), .float .f32 r32] (fun q33 h34 =>
    asF .f32 q33 fun r35 =>
    Post (.float .f32 r8) h34) h31) h26) h22) ∧ (FOP .f32 (FloatKind.f32.format.mul r24 r14) fun r36 =>
    CALL prg f_impl_JetAt #[.float .f32 r5] (fun q37 h38 =>
    asF .f32 q37 fun r39 =>
    PIN h22 (Addr.add x_0 17) 1 h38 <|
    FOP .f32 (FloatKind.f32.format.add r39 r36) fun r40 =>
    CALL prg f_impl_kept #[.float .f32 r40] (fun q41 h42 =>
    asF .f32 q41 fun r43 =>
    CALL prg f_p_impl_Ring_push #[.pointer (some (Addr.add x_0 2)), .float .f32 r43] (fun q44 h45 =>
    asF .f32 q44 fun r46 =>
    Post (.float .f32 r8) h45) h42) h38) h22)) h19) h13) h10) h7) h4) h
noncomputable def p_impl_Jet_step.code : Code := (Tryz.f37.body).getD .skip
theorem p_impl_Jet_step.call {x_0 : Addr} {breath_1 : Nat} {Post : Value → Heap → Prop} {h : Heap} (H : p_impl_Jet_step.S x_0 breath_1 Post h) : CALL prg f_p_impl_Jet_step #[.pointer (some x_0), .float .f32 breath_1] Post h :=
  fn_call tau_ok mixed (c := p_impl_Jet_step.code) (Λ := lookL []) Tryz.func37 (by kernel_rfl) (by kernel_rfl)
    (Rq.free (by kernel_rfl))
    (Eq.mp (by kernel_rfl) H)

def impl_PlayJet.B8 (Post : Value → Heap → Prop) (N8 : (Addr × Addr × Option Addr × Nat × Nat × Option Addr × Nat × Nat × Int × Int) → Heap → Prop) : Addr × Addr × Option Addr × Nat × Nat × Option Addr × Nat × Nat × Int × Int → Heap → Prop
  | (x_2, t4, out_7b, out_7l, out_7c, t22b, t22l, t22c, t23, t24), h =>
    BIF (decide (t24 < t23)) (
    IDXS t22b t24 t22l fun p22 =>
    oF .f32 (cell h ((Addr.add p22 ((Int.toNat t24) * 1)))) fun r23 =>
    CALL prg f_p_impl_Jet_step #[.pointer (some x_2), .float .f32 r23] (fun q24 h25 =>
    asF .f32 q24 fun r26 =>
    ALC ⟨[.float .f32 r26]⟩ T_float32 (fun g27 h28 =>
    SEMV prg (Builtin.append_ #[T_sl_float32, T_sl_float32] T_sl_float32 #[.slice out_7b out_7l out_7c, .slice (some ⟨g27, 0, none⟩) 1 1]) (fun q29 h30 =>
    asL q29 fun l31b l31l l31c =>
    N8 (x_2, t4, l31b, l31l, l31c, t22b, t22l, t22c, t23, ((IntKind.i64.wrap (t24 + (1 : Int))))) h30) h28) h25) h) (
    LDA 18 h x_2 fun a32 =>
    STA 18 h t4 a32 fun h33 =>
    LDA 18 h33 t4 fun a34 =>
    Post (.tuple ⟨[.agg a34, .slice out_7b out_7l out_7c, .int .i64 (0 : Int)]⟩) h33)
def impl_PlayJet.g8 (fr : Frame) : Addr × Addr × Option Addr × Nat × Nat × Option Addr × Nat × Nat × Int × Int := ((gP (lget fr 2)), (gP (lget fr 4)), (gLb (lget fr 7)), (gLl (lget fr 7)), (gLc (lget fr 7)), (gLb (lget fr 22)), (gLl (lget fr 22)), (gLc (lget fr 22)), (gI (lget fr 23)), (gI (lget fr 24)))
def impl_PlayJet.l8 (Post : Value → Heap → Prop) : Frame → Heap → Prop := fun fr h => GRD (shape (kds 36 [(2, .p), (4, .p), (7, .l), (22, .l), (23, .i .i64), (24, .i .i64)]) fr) (LOOP (impl_PlayJet.B8 Post) (impl_PlayJet.g8 fr) h)
def impl_PlayJet.S (x_0 : Array Value) (breath_1b : Option Addr) (breath_1l breath_1c : Nat) (Post : Value → Heap → Prop) (h : Heap) : Prop :=
    ALC x_0 T_impl_Jet (fun g1 h2 =>
    ALC ⟨Z_impl_Jet⟩ T_impl_Jet (fun g3 h4 =>
    LDA 18 h4 ⟨g1, 0, none⟩ fun a5 =>
    CALL prg f_impl_ValidJet #[.agg a5] (fun q6 h7 =>
    asB q6 fun b8 =>
    BIF (!b8) (
    STA 18 h7 ⟨g3, 0, none⟩ (⟨[.slice none 0 0, .int .i64 (0 : Int), .slice none 0 0, .int .i64 (0 : Int), .int .i64 (0 : Int), .float .f32 0, .float .f32 0, .float .f32 0, .float .f32 0, .float .f32 0, .int .i64 (0 : Int), .float .f32 0, .float .f32 0, .float .f32 0, .float .f32 0, .float .f32 0, .float .f32 0, .float .f32 0]⟩ : Array Value) fun h9 =>
    LDA 18 h9 ⟨g3, 0, none⟩ fun a10 =>
    Post (.tuple ⟨[.agg a10, .slice none 0 0, .int .i64 (1 : Int)]⟩) h9) (
    BIF ((decide ((4096 : Int) < (breath_1l : Int)))) (
    STA 18 h7 ⟨g3, 0, none⟩ (⟨[.slice none 0 0, .int .i64 (0 : Int), .slice none 0 0, .int .i64 (0 : Int), .int .i64 (0 : Int), .float .f32 0, .float .f32 0, .float .f32 0, .float .f32 0, .float .f32 0, .int .i64 (0 : Int), .float .f32 0, .float .f32 0, .float .f32 0, .float .f32 0, .float .f32 0, .float .f32 0, .float .f32 0]⟩ : Array Value) fun h13 =>
    LDA 18 h13 ⟨g3, 0, none⟩ fun a14 =>
    Post (.tuple ⟨[.agg a14, .slice none 0 0, .int .i64 (3 : Int)]⟩) h13) (
    LDA 18 h7 ⟨g1, 0, none⟩ fun a15 =>
    CALL prg f_impl_Jet_clone #[.agg a15] (fun q16 h17 =>
    asA q16 fun a18 =>
    STA 18 h17 ⟨g1, 0, none⟩ a18 fun h19 =>
    LOOP (impl_PlayJet.B8 Post) (⟨g1, 0, none⟩, ⟨g3, 0, none⟩, none, 0, 0, breath_1b, breath_1l, breath_1c, (breath_1l : Int), (0 : Int)) h19) h7))) h4) h2) h
noncomputable def impl_PlayJet.code : Code := (Tryz.f8.body).getD .skip
theorem impl_PlayJet.call {x_0 : Array Value} {breath_1b : Option Addr} {breath_1l breath_1c : Nat} {Post : Value → Heap → Prop} {h : Heap} (H : impl_PlayJet.S x_0 breath_1b breath_1l breath_1c Post h) : CALL prg f_impl_PlayJet #[.agg x_0, .slice breath_1b breath_1l breath_1c] Post h :=
  fn_call tau_ok mixed (c := impl_PlayJet.code) (Λ := lookL [(1000008, impl_PlayJet.l8 Post)]) Tryz.func8 (by kernel_rfl) (by kernel_rfl)
    (Rq.seq (by kernel_rfl) (Rq.free (by kernel_rfl)) (Rq.seq (by kernel_rfl) (Rq.free (by kernel_rfl)) (Rq.seq (by kernel_rfl) (Rq.free (by kernel_rfl)) (Rq.seq (by kernel_rfl) (Rq.free (by kernel_rfl)) (Rq.seq (by kernel_rfl) (Rq.seq (by kernel_rfl) (Rq.free (by kernel_rfl)) (Rq.block (Rq.loop (impl_PlayJet.l8 Post) (by kernel_rfl) (segL (g := impl_PlayJet.g8) tau_ok mixed (Λ := fun N8 => lookL []) (fun _ _ _ => by kernel_rfl) (fun N8 => (Rq.free (by kernel_rfl))))))) (Rq.free (by kernel_rfl)))))))
    (Eq.mp (by kernel_rfl) H)

def impl_IsSilentJet.S (x_0 : Array Value) (Post : Value → Heap → Prop) (h : Heap) : Prop :=
    ALC x_0 T_impl_Jet (fun g1 h2 =>
    LDA 18 h2 ⟨g1, 0, none⟩ fun a3 =>
    CALL prg f_impl_ValidJet #[.agg a3] (fun q4 h5 =>
    asB q4 fun b6 =>
    BIF (!b6) (
    Post (.tuple ⟨[.bool false, .int .i64 (1 : Int)]⟩) h5) (
    LDA 2 h5 ⟨g1, 0, none⟩ fun a7 =>
    CALL prg f_impl_Ring_isQuiet #[.agg a7] (fun q8 h9 =>
    asB q8 fun b10 =>
    BIF b10 (
    LDA 2 h9 ⟨g1, 2, none⟩ fun a11 =>
    CALL prg f_impl_Ring_isQuiet #[.agg a11] (fun q12 h13 =>
    asB q12 fun b14 =>
    BIF b14 (
    LDA 6 h13 ⟨g1, 4, none⟩ fun a15 =>
    CALL prg f_impl_Filter_isStill #[.agg a15] (fun q16 h17 =>
    asB q16 fun b18 =>
    BIF b18 (
    LDA 6 h17 ⟨g1, 10, none⟩ fun a19 =>
    CALL prg f_impl_Filter_isStill #[.agg a19] (fun q20 h21 =>
    asB q20 fun b22 =>
    Post (.tuple ⟨[.bool b22, .int .i64 (0 : Int)]⟩) h21) h17) (
    Post (.tuple ⟨[.bool false, .int .i64 (0 : Int)]⟩) h17)) h13) (
    Post (.tuple ⟨[.bool false, .int .i64 (0 : Int)]⟩) h13)) h9) (
    Post (.tuple ⟨[.bool false, .int .i64 (0 : Int)]⟩) h9)) h5)) h2) h
noncomputable def impl_IsSilentJet.code : Code := (Tryz.f18.body).getD .skip
theorem impl_IsSilentJet.call {x_0 : Array Value} {Post : Value → Heap → Prop} {h : Heap} (H : impl_IsSilentJet.S x_0 Post h) : CALL prg f_impl_IsSilentJet #[.agg x_0] Post h :=
  fn_call tau_ok mixed (c := impl_IsSilentJet.code) (Λ := lookL []) Tryz.func18 (by kernel_rfl) (by kernel_rfl)
    (Rq.free (by kernel_rfl))
    (Eq.mp (by kernel_rfl) H)

def spec_l05DrawnJet.B7 (Post : Value → Heap → Prop) (N7 : (Addr × Addr × Addr × Int) → Heap → Prop) : Addr × Addr × Addr × Int → Heap → Prop
  | (s_0, t2, x_7, k_9), h =>
    BIF ((decide ((0 : Int) < k_9))) (
    CALL prg f_spec_l01Plain #[.pointer (some s_0)] (fun q33 h34 =>
    asF .f32 q33 fun r35 =>
    CALL prg f_spec_l05StepJet #[.pointer (some x_7), .float .f32 r35] (fun q36 h37 =>
    asF .f32 q36 fun r38 =>
    N7 (s_0, t2, x_7, ((IntKind.i64.wrap (k_9 - (1 : Int))))) h37) h34) h) (
    LDA 18 h x_7 fun a39 =>
    STA 18 h t2 a39 fun h40 =>
    LDA 18 h40 t2 fun a41 =>
    Post (.agg a41) h40)
def spec_l05DrawnJet.g7 (fr : Frame) : Addr × Addr × Addr × Int := ((gP (lget fr 0)), (gP (lget fr 2)), (gP (lget fr 7)), (gI (lget fr 9)))
def spec_l05DrawnJet.l7 (Post : Value → Heap → Prop) : Frame → Heap → Prop := fun fr h => GRD (shape (kds 48 [(0, .p), (2, .p), (7, .p), (9, .i .i64)]) fr) (LOOP (spec_l05DrawnJet.B7 Post) (spec_l05DrawnJet.g7 fr) h)
def spec_l05DrawnJet.S (s_0 : Addr) (Post : Value → Heap → Prop) (h : Heap) : Prop :=
    ALC ⟨Z_impl_Jet⟩ T_impl_Jet (fun g1 h2 =>
    CALL prg f_p_spec_l00Src_pick #[.pointer (some s_0), .int .i64 (5 : Int)] (fun q3 h4 =>
    asI .i64 q3 fun n5 =>
    CALL prg f_p_spec_l00Src_pick #[.pointer (some s_0), .int .i64 (6 : Int)] (fun q6 h7 =>
    asI .i64 q6 fun n8 =>
    CALL prg f_p_spec_l00Src_pick #[.pointer (some s_0), .int .i64 (8 : Int)] (fun q9 h10 =>
    asI .i64 q9 fun n11 =>
    FOP .f32 (FloatKind.f32.format.div (FloatKind.f32.nearest n11) 1090519040) fun r12 =>
    CALL prg f_p_spec_l00Src_pick #[.pointer (some s_0), .int .i64 (17 : Int)] (fun q13 h14 =>
    asI .i64 q13 fun n15 =>
    FOP .f32 (FloatKind.f32.format.div ((FloatKind.f32.nearest ((IntKind.i64.wrap (n15 - (8 : Int)))))) 1090519040) fun r16 =>
    CALL prg f_p_spec_l00Src_pick #[.pointer (some s_0), .int .i64 (17 : Int)] (fun q17 h18 =>
    asI .i64 q17 fun n19 =>
    FOP .f32 (FloatKind.f32.format.div ((FloatKind.f32.nearest ((IntKind.i64.wrap (n19 - (8 : Int)))))) 1090519040) fun r20 =>
    CALL prg f_spec_NewJet #[.int .i64 ((IntKind.i64.wrap ((1 : Int) + n5))), .int .i64 ((IntKind.i64.wrap ((1 : Int) + n8))), .float .f32 r12, .float .f32 r16, .float .f32 r20] (fun q21 h22 =>
    TUP2 q21 fun q23 q24 =>
    asA q23 fun a25 =>
    asI .i64 q24 fun n26 =>
    ALC ⟨Z_impl_Jet⟩ T_impl_Jet (fun g27 h28 =>
    STA 18 h28 ⟨g27, 0, none⟩ a25 fun h29 =>
    CALL prg f_p_spec_l00Src_pick #[.pointer (some s_0), .int .i64 (12 : Int)] (fun q30 h31 =>
    asI .i64 q30 fun n32 =>
    LOOP (spec_l05DrawnJet.B7 Post) (s_0, ⟨g1, 0, none⟩, ⟨g27, 0, none⟩, n32) h31) h29) h22) h18) h14) h10) h7) h4) h2) h
noncomputable def spec_l05DrawnJet.code : Code := (Tryz.f33.body).getD .skip
theorem spec_l05DrawnJet.call {s_0 : Addr} {Post : Value → Heap → Prop} {h : Heap} (H : spec_l05DrawnJet.S s_0 Post h) : CALL prg f_spec_l05DrawnJet #[.pointer (some s_0)] Post h :=
  fn_call tau_ok mixed (c := spec_l05DrawnJet.code) (Λ := lookL [(1000007, spec_l05DrawnJet.l7 Post)]) Tryz.func33 (by kernel_rfl) (by kernel_rfl)
    (Rq.seq (by kernel_rfl) (Rq.free (by kernel_rfl)) (Rq.seq (by kernel_rfl) (Rq.free (by kernel_rfl)) (Rq.seq (by kernel_rfl) (Rq.free (by kernel_rfl)) (Rq.seq (by kernel_rfl) (Rq.free (by kernel_rfl)) (Rq.seq (by kernel_rfl) (Rq.free (by kernel_rfl)) (Rq.seq (by kernel_rfl) (Rq.free (by kernel_rfl)) (Rq.seq (by kernel_rfl) (Rq.seq (by kernel_rfl) (Rq.free (by kernel_rfl)) (Rq.block (Rq.loop (spec_l05DrawnJet.l7 Post) (by kernel_rfl) (segL (g := spec_l05DrawnJet.g7) tau_ok mixed (Λ := fun N7 => lookL []) (fun _ _ _ => by kernel_rfl) (fun N7 => (Rq.free (by kernel_rfl))))))) (Rq.free (by kernel_rfl)))))))))
    (Eq.mp (by kernel_rfl) H)

def spec_P6Jet.S (code_0b : Option Addr) (code_0l code_0c : Nat) (Post : Value → Heap → Prop) (h : Heap) : Prop :=
    ALC ⟨Z_impl_Jet⟩ T_impl_Jet (fun g1 h2 =>
    CALL prg f_spec_l00From #[.slice code_0b code_0l code_0c] (fun q3 h4 =>
    asP q3 fun p5 =>
    CALL prg f_spec_l05DrawnJet #[.pointer (some p5)] (fun q6 h7 =>
    asA q6 fun a8 =>
    STA 18 h7 ⟨g1, 0, none⟩ a8 fun h9 =>
    LDA 18 h9 ⟨g1, 0, none⟩ fun a10 =>
    Post (.agg a10) h9) h4) h2) h
noncomputable def spec_P6Jet.code : Code := (Tryz.f6.body).getD .skip
theorem spec_P6Jet.call {code_0b : Option Addr} {code_0l code_0c : Nat} {Post : Value → Heap → Prop} {h : Heap} (H : spec_P6Jet.S code_0b code_0l code_0c Post h) : CALL prg f_spec_P6Jet #[.slice code_0b code_0l code_0c] Post h :=
  fn_call tau_ok mixed (c := spec_P6Jet.code) (Λ := lookL []) Tryz.func6 (by kernel_rfl) (by kernel_rfl)
    (Rq.free (by kernel_rfl))
    (Eq.mp (by kernel_rfl) H)

end Go.Sx
