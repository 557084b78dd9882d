/- What functions of this seat's program compute, told in words (a predicate over heaps for each), and the proofs that the words are no more than the code's own weakest precondition. -/
import Derived.Test.YtnhcoeogejgidabGreatDoorTab
set_option linter.unusedSectionVars false
namespace Go.Sx.Md
open Go.Proofs
variable [Mode]
set_option linter.unusedVariables false
set_option maxRecDepth 100000

def impl_Event_order.J7 (Post : Value → Heap → Prop) (e_2 : Addr) (t4 : Addr) (late_5 : Int) (stop_6 : Int) (h : Heap) : Prop :=
    oI .i64 (cell h e_2) fun n14 =>
    oI .i64 (cell h (Addr.add e_2 2)) fun n15 =>
    STA 4 h t4 (⟨[.int .i64 n14, .int .i64 late_5, .int .i64 n15, .int .i64 stop_6]⟩ : Array Value) fun h16 =>
    LDA 4 h16 t4 fun a17 =>
    Post (.agg a17) h16
def impl_Event_order.j7 (Post : Value → Heap → Prop) : Frame → Heap → Prop := fun fr h => GRD (shape (kds 33 [(2, .p), (4, .p), (5, .i .i64), (6, .i .i64)]) fr) (impl_Event_order.J7 Post (gP (lget fr 2)) (gP (lget fr 4)) (gI (lget fr 5)) (gI (lget fr 6)) h)
def impl_Event_order.S (e_0 : Array Value) (starts_1 : Value) (Post : Value → Heap → Prop) (h : Heap) : Prop :=
    ALC e_0 T_impl_Event (fun g1 h2 =>
    ALC ⟨Z_4_int64⟩ T_4_int64 (fun g3 h4 =>
    oI .i64 (cell h4 ⟨g1, 1, none⟩) fun n5 =>
    BIF (n5 == (1 : Int)) (
    oI .i64 (cell h4 ⟨g1, 2, none⟩) fun n6 =>
    SEMV prg (Instr.lookup T_map_int64_int64 starts_1 (.int .i64 n6) true) (fun q7 h8 =>
    TUP2 q7 fun q9 q10 =>
    asI .i64 q9 fun n11 =>
    asB q10 fun b12 =>
    BIF b12 (
    oI .i64 (cell h8 ⟨g1, 0, none⟩) fun n13 =>
    BIF (decide (n11 < n13)) (
    impl_Event_order.J7 Post ⟨g1, 0, none⟩ ⟨g3, 0, none⟩ (0 : Int) (1 : Int) h8) (
    impl_Event_order.J7 Post ⟨g1, 0, none⟩ ⟨g3, 0, none⟩ (1 : Int) (1 : Int) h8)) (
    impl_Event_order.J7 Post ⟨g1, 0, none⟩ ⟨g3, 0, none⟩ (1 : Int) (1 : Int) h8)) h4) (
    impl_Event_order.J7 Post ⟨g1, 0, none⟩ ⟨g3, 0, none⟩ (1 : Int) (0 : Int) h4)) h2) h
noncomputable def impl_Event_order.code : Code := (Tryz.f63.body).getD .skip
theorem impl_Event_order.call {e_0 : Array Value} {starts_1 : Value} {Post : Value → Heap → Prop} {h : Heap} (H : impl_Event_order.S e_0 starts_1 Post h) : CALL prg f_impl_Event_order #[.agg e_0, starts_1] Post h :=
  fn_call tau_ok mixed (c := impl_Event_order.code) (Λ := lookL [(7, impl_Event_order.j7 Post)]) Tryz.func63 (by kernel_rfl) (by kernel_rfl)
    (Rq.seq (by kernel_rfl) (Rq.free (by kernel_rfl)) (Rq.seq (by kernel_rfl) (Rq.free (by kernel_rfl)) (Rq.seqJ (impl_Event_order.j7 Post) (by kernel_rfl) (seg (fun _ _ => by kernel_rfl)) (Rq.free (by kernel_rfl))
(Rq.free (by kernel_rfl)))))
    (Eq.mp (by kernel_rfl) H)
def cmp_isNaN_int64.S (x_0 : Int) (Post : Value → Heap → Prop) (h : Heap) : Prop :=
    Post (.bool (x_0 != x_0)) h
noncomputable def cmp_isNaN_int64.code : Code := (Tryz.f120.body).getD .skip
theorem cmp_isNaN_int64.call {x_0 : Int} {Post : Value → Heap → Prop} {h : Heap} (H : cmp_isNaN_int64.S x_0 Post h) : CALL prg f_cmp_isNaN_int64 #[.int .i64 x_0] Post h :=
  fn_call tau_ok mixed (c := cmp_isNaN_int64.code) (Λ := lookL []) Tryz.func120 (by kernel_rfl) (by kernel_rfl)
    (Rq.free (by kernel_rfl))
    (Eq.mp (by kernel_rfl) H)
def cmp_Compare_int64.S (x_0 : Int) (y_1 : Int) (Post : Value → Heap → Prop) (h : Heap) : Prop :=
    CALL prg f_cmp_isNaN_int64 #[.int .i64 x_0] (fun q1 h2 =>
    asB q1 fun b3 =>
    CALL prg f_cmp_isNaN_int64 #[.int .i64 y_1] (fun q4 h5 =>
    asB q4 fun b6 =>
    BIF b3 (
    BIF b6 (
    Post (.int .i64 (0 : Int)) h5) (
    Post (.int .i64 (-1 : Int)) h5)) (
    BIF b6 (
    Post (.int .i64 (1 : Int)) h5) (
    BIF (decide (x_0 < y_1)) (
    Post (.int .i64 (-1 : Int)) h5) (
    BIF (decide (y_1 < x_0)) (
    Post (.int .i64 (1 : Int)) h5) (
    Post (.int .i64 (0 : Int)) h5))))) h2) h
noncomputable def cmp_Compare_int64.code : Code := (Tryz.f99.body).getD .skip
theorem cmp_Compare_int64.call {x_0 : Int} {y_1 : Int} {Post : Value → Heap → Prop} {h : Heap} (H : cmp_Compare_int64.S x_0 y_1 Post h) : CALL prg f_cmp_Compare_int64 #[.int .i64 x_0, .int .i64 y_1] Post h :=
  fn_call tau_ok mixed (c := cmp_Compare_int64.code) (Λ := lookL []) Tryz.func99 (by kernel_rfl) (by kernel_rfl)
    (Rq.free (by kernel_rfl))
    (Eq.mp (by kernel_rfl) H)
def slices_Compare_sl_int64_int64.B2 (Post : Value → Heap → Prop) (N2 : (Option Addr × Nat × Nat × Option Addr × Nat × Nat × Option Addr × Nat × Nat × Int × Int) → Heap → Prop) : Option Addr × Nat × Nat × Option Addr × Nat × Nat × Option Addr × Nat × Nat × Int × Int → Heap → Prop
  | (s1_0b, s1_0l, s1_0c, s2_1b, s2_1l, s2_1c, t9b, t9l, t9c, t10, t11), h =>
    BIF (decide (t11 < t10)) (
    IDXS t9b t11 t9l fun p3 =>
    oI .i64 (cell h ((Addr.add p3 ((Int.toNat t11) * 1)))) fun n4 =>
    BIF ((decide ((s2_1l : Int) ≤ t11))) (
    Post (.int .i64 (1 : Int)) h) (
    IDXS s2_1b t11 s2_1l fun p7 =>
    oI .i64 (cell h ((Addr.add p7 ((Int.toNat t11) * 1)))) fun n8 =>
    CALL prg f_cmp_Compare_int64 #[.int .i64 n4, .int .i64 n8] (fun q9 h10 =>
    asI .i64 q9 fun n11 =>
    BIF (n11 != (0 : Int)) (
    Post (.int .i64 n11) h10) (
    N2 (s1_0b, s1_0l, s1_0c, s2_1b, s2_1l, s2_1c, t9b, t9l, t9c, t10, ((IntKind.i64.wrap (t11 + (1 : Int))))) h10)) h)) (
    BIF ((decide ((s1_0l : Int) < (s2_1l : Int)))) (
    Post (.int .i64 (-1 : Int)) h) (
    Post (.int .i64 (0 : Int)) h))
def slices_Compare_sl_int64_int64.g2 (fr : Frame) : Option Addr × Nat × Nat × Option Addr × Nat × Nat × Option Addr × Nat × Nat × Int × Int := ((gLb (lget fr 0)), (gLl (lget fr 0)), (gLc (lget fr 0)), (gLb (lget fr 1)), (gLl (lget fr 1)), (gLc (lget fr 1)), (gLb (lget fr 9)), (gLl (lget fr 9)), (gLc (lget fr 9)), (gI (lget fr 10)), (gI (lget fr 11)))
def slices_Compare_sl_int64_int64.l2 (Post : Value → Heap → Prop) : Frame → Heap → Prop := fun fr h => GRD (shape (kds 36 [(0, .l), (1, .l), (9, .l), (10, .i .i64), (11, .i .i64)]) fr) (LOOP (slices_Compare_sl_int64_int64.B2 Post) (slices_Compare_sl_int64_int64.g2 fr) h)
def slices_Compare_sl_int64_int64.S (s1_0b : Option Addr) (s1_0l s1_0c : Nat) (s2_1b : Option Addr) (s2_1l s2_1c : Nat) (Post : Value → Heap → Prop) (h : Heap) : Prop :=
    LOOP (slices_Compare_sl_int64_int64.B2 Post) (s1_0b, s1_0l, s1_0c, s2_1b, s2_1l, s2_1c, s1_0b, s1_0l, s1_0c, (s1_0l : Int), (0 : Int)) h
noncomputable def slices_Compare_sl_int64_int64.code : Code := (Tryz.f64.body).getD .skip
theorem slices_Compare_sl_int64_int64.call {s1_0b : Option Addr} {s1_0l s1_0c : Nat} {s2_1b : Option Addr} {s2_1l s2_1c : Nat} {Post : Value → Heap → Prop} {h : Heap} (H : slices_Compare_sl_int64_int64.S s1_0b s1_0l s1_0c s2_1b s2_1l s2_1c Post h) : CALL prg f_slices_Compare_sl_int64_int64 #[.slice s1_0b s1_0l s1_0c, .slice s2_1b s2_1l s2_1c] Post h :=
  fn_call tau_ok mixed (c := slices_Compare_sl_int64_int64.code) (Λ := lookL [(1000002, slices_Compare_sl_int64_int64.l2 Post)]) Tryz.func64 (by kernel_rfl) (by kernel_rfl)
    (Rq.seq (by kernel_rfl) (Rq.free (by kernel_rfl)) (Rq.seq (by kernel_rfl) (Rq.seq (by kernel_rfl) (Rq.free (by kernel_rfl)) (Rq.block (Rq.loop (slices_Compare_sl_int64_int64.l2 Post) (by kernel_rfl) (segL (g := slices_Compare_sl_int64_int64.g2) tau_ok mixed (Λ := fun N2 => lookL []) (fun _ _ _ => by kernel_rfl) (fun N2 => (Rq.free (by kernel_rfl))))))) (Rq.free (by kernel_rfl))))
    (Eq.mp (by kernel_rfl) H)
def impl_compareEvents_c1.S (a_0 : Array Value) (b_1 : Array Value) (t2 : Addr) (Post : Value → Heap → Prop) (h : Heap) : Prop :=
    ALC a_0 T_impl_Event (fun g1 h2 =>
    ALC b_1 T_impl_Event (fun g3 h4 =>
    LDA 6 h4 ⟨g1, 0, none⟩ fun a5 =>
    oV (cell h4 t2) fun v6 =>
    LDA 6 h4 ⟨g3, 0, none⟩ fun a7 =>
    oV (cell h4 t2) fun v8 =>
    (CALL prg f_impl_Event_order #[.agg a5, v6] (fun q9 h10 =>
    asA q9 fun a11 =>
    PIN h4 t2 1 h10 <|
    PIN h4 ⟨g3, 0, none⟩ 6 h10 <|
    (CALL prg f_impl_Event_order #[.agg a7, v8] (fun q12 h13 =>
    asA q12 fun a14 =>
    (ALC ⟨Z_4_int64⟩ T_4_int64 (fun g15 h16 =>
    PIN h4 t2 1 h16 <|
    PIN h4 ⟨g3, 0, none⟩ 6 h16 <|
    PIN h4 t2 1 h16 <|
    PIN h4 ⟨g1, 0, none⟩ 6 h16 <|
    ALC ⟨Z_4_int64⟩ T_4_int64 (fun g17 h18 =>
    PIN h4 t2 1 h18 <|
    PIN h4 ⟨g3, 0, none⟩ 6 h18 <|
    PIN h4 t2 1 h18 <|
    PIN h4 ⟨g1, 0, none⟩ 6 h18 <|
    STA 4 h18 ⟨g15, 0, none⟩ a11 fun h19 =>
    STA 4 h19 ⟨g17, 0, none⟩ a14 fun h20 =>
    SLB (0 : Int) (4 : Int) (4 : Int) <|
    SLB (0 : Int) (4 : Int) (4 : Int) <|
    CALL prg f_slices_Compare_sl_int64_int64 #[.slice (some (slP ⟨g15, 0, none⟩ 4 0 1)) (4 - 0) (4 - 0), .slice (some (slP ⟨g17, 0, none⟩ 4 0 1)) (4 - 0) (4 - 0)] (fun q21 h22 =>
    asI .i64 q21 fun n23 =>
    Post (.int .i64 n23) h22) h20) h16) h13) ∧ (ALC ⟨Z_4_int64⟩ T_4_int64 (fun g24 h25 =>
    PIN h4 t2 1 h25 <|
    PIN h4 ⟨g3, 0, none⟩ 6 h25 <|
    PIN h4 t2 1 h25 <|
    PIN h4 ⟨g1, 0, none⟩ 6 h25 <|
    ALC ⟨Z_4_int64⟩ T_4_int64 (fun g26 h27 =>
    PIN h4 t2 1 h27 <|
    PIN h4 ⟨g3, 0, none⟩ 6 h27 <|
    PIN h4 t2 1 h27 <|
    PIN h4 ⟨g1, 0, none⟩ 6 h27 <|
    STA 4 h27 ⟨g26, 0, none⟩ a11 fun h28 =>
    STA 4 h28 ⟨g24, 0, none⟩ a14 fun h29 =>
    SLB (0 : Int) (4 : Int) (4 : Int) <|
    SLB (0 : Int) (4 : Int) (4 : Int) <|
    CALL prg f_slices_Compare_sl_int64_int64 #[.slice (some (slP ⟨g26, 0, none⟩ 4 0 1)) (4 - 0) (4 - 0), .slice (some (slP ⟨g24, 0, none⟩ 4 0 1)) (4 - 0) (4 - 0)] (fun q30 h31 =>
    asI .i64 q30 fun n32 =>
    Post (.int .i64 n32) h31) h29) h25) h13)) h10) ∧ ((ALC ⟨Z_4_int64⟩ T_4_int64 (fun g33 h34 =>
    PIN h4 t2 1 h34 <|
    PIN h4 ⟨g3, 0, none⟩ 6 h34 <|
    PIN h4 t2 1 h34 <|
    PIN h4 ⟨g1, 0, none⟩ 6 h34 <|
    (CALL prg f_impl_Event_order #[.agg a7, v8] (fun q35 h36 =>
    asA q35 fun a37 =>
    ALC ⟨Z_4_int64⟩ T_4_int64 (fun g38 h39 =>
    PIN h4 t2 1 h39 <|
    PIN h4 ⟨g3, 0, none⟩ 6 h39 <|
    PIN h4 t2 1 h39 <|
    PIN h4 ⟨g1, 0, none⟩ 6 h39 <|
    STA 4 h39 ⟨g33, 0, none⟩ a11 fun h40 =>
    STA 4 h40 ⟨g38, 0, none⟩ a37 fun h41 =>
    SLB (0 : Int) (4 : Int) (4 : Int) <|
    SLB (0 : Int) (4 : Int) (4 : Int) <|
    CALL prg f_slices_Compare_sl_int64_int64 #[.slice (some (slP ⟨g33, 0, none⟩ 4 0 1)) (4 - 0) (4 - 0), .slice (some (slP ⟨g38, 0, none⟩ 4 0 1)) (4 - 0) (4 - 0)] (fun q42 h43 =>
    asI .i64 q42 fun n44 =>
    Post (.int .i64 n44) h43) h41) h36) h34) ∧ (ALC ⟨Z_4_int64⟩ T_4_int64 (fun g45 h46 =>
    PIN h4 t2 1 h46 <|
    PIN h4 ⟨g3, 0, none⟩ 6 h46 <|
    PIN h4 t2 1 h46 <|
    PIN h4 ⟨g1, 0, none⟩ 6 h46 <|
    CALL prg f_impl_Event_order #[.agg a7, v8] (fun q47 h48 =>
    asA q47 fun a49 =>
    STA 4 h48 ⟨g33, 0, none⟩ a11 fun h50 =>
    STA 4 h50 ⟨g45, 0, none⟩ a49 fun h51 =>
    SLB (0 : Int) (4 : Int) (4 : Int) <|
    SLB (0 : Int) (4 : Int) (4 : Int) <|
    CALL prg f_slices_Compare_sl_int64_int64 #[.slice (some (slP ⟨g33, 0, none⟩ 4 0 1)) (4 - 0) (4 - 0), .slice (some (slP ⟨g45, 0, none⟩ 4 0 1)) (4 - 0) (4 - 0)] (fun q52 h53 =>
    asI .i64 q52 fun n54 =>
    Post (.int .i64 n54) h53) h51) h46) h34)) h10) ∧ (ALC ⟨Z_4_int64⟩ T_4_int64 (fun g55 h56 =>
    PIN h4 t2 1 h56 <|
    PIN h4 ⟨g3, 0, none⟩ 6 h56 <|
    PIN h4 t2 1 h56 <|
    PIN h4 ⟨g1, 0, none⟩ 6 h56 <|
    (CALL prg f_impl_Event_order #[.agg a7, v8] (fun q57 h58 =>
    asA q57 fun a59 =>
    ALC ⟨Z_4_int64⟩ T_4_int64 (fun g60 h61 =>
    PIN h4 t2 1 h61 <|
    PIN h4 ⟨g3, 0, none⟩ 6 h61 <|
    PIN h4 t2 1 h61 <|
    PIN h4 ⟨g1, 0, none⟩ 6 h61 <|
    STA 4 h61 ⟨g60, 0, none⟩ a11 fun h62 =>
    STA 4 h62 ⟨g55, 0, none⟩ a59 fun h63 =>
    SLB (0 : Int) (4 : Int) (4 : Int) <|
    SLB (0 : Int) (4 : Int) (4 : Int) <|
    CALL prg f_slices_Compare_sl_int64_int64 #[.slice (some (slP ⟨g60, 0, none⟩ 4 0 1)) (4 - 0) (4 - 0), .slice (some (slP ⟨g55, 0, none⟩ 4 0 1)) (4 - 0) (4 - 0)] (fun q64 h65 =>
    asI .i64 q64 fun n66 =>
    Post (.int .i64 n66) h65) h63) h58) h56) ∧ (ALC ⟨Z_4_int64⟩ T_4_int64 (fun g67 h68 =>
    PIN h4 t2 1 h68 <|
    PIN h4 ⟨g3, 0, none⟩ 6 h68 <|
    PIN h4 t2 1 h68 <|
    PIN h4 ⟨g1, 0, none⟩ 6 h68 <|
    CALL prg f_impl_Event_order #[.agg a7, v8] (fun q69 h70 =>
    asA q69 fun a71 =>
    STA 4 h70 ⟨g67, 0, none⟩ a11 fun h72 =>
    STA 4 h72 ⟨g55, 0, none⟩ a71 fun h73 =>
    SLB (0 : Int) (4 : Int) (4 : Int) <|
    SLB (0 : Int) (4 : Int) (4 : Int) <|
    CALL prg f_slices_Compare_sl_int64_int64 #[.slice (some (slP ⟨g67, 0, none⟩ 4 0 1)) (4 - 0) (4 - 0), .slice (some (slP ⟨g55, 0, none⟩ 4 0 1)) (4 - 0) (4 - 0)] (fun q74 h75 =>
    asI .i64 q74 fun n76 =>
    Post (.int .i64 n76) h75) h73) h68) h56)) h10))) h4) ∧ ((ALC ⟨Z_4_int64⟩ T_4_int64 (fun g77 h78 =>
    PIN h4 t2 1 h78 <|
    PIN h4 ⟨g3, 0, none⟩ 6 h78 <|
    PIN h4 t2 1 h78 <|
    PIN h4 ⟨g1, 0, none⟩ 6 h78 <|
    (CALL prg f_impl_Event_order #[.agg a5, v6] (fun q79 h80 =>
    asA q79 fun a81 =>
    PIN h4 t2 1 h80 <|
    PIN h4 ⟨g3, 0, none⟩ 6 h80 <|
    (CALL prg f_impl_Event_order #[.agg a7, v8] (fun q82 h83 =>
    asA q82 fun a84 =>
    ALC ⟨Z_4_int64⟩ T_4_int64 (fun g85 h86 =>
    PIN h4 t2 1 h86 <|
    PIN h4 ⟨g3, 0, none⟩ 6 h86 <|
    PIN h4 t2 1 h86 <|
    PIN h4 ⟨g1, 0, none⟩ 6 h86 <|
    STA 4 h86 ⟨g77, 0, none⟩ a81 fun h87 =>
    STA 4 h87 ⟨g85, 0, none⟩ a84 fun h88 =>
    SLB (0 : Int) (4 : Int) (4 : Int) <|
    SLB (0 : Int) (4 : Int) (4 : Int) <|
    CALL prg f_slices_Compare_sl_int64_int64 #[.slice (some (slP ⟨g77, 0, none⟩ 4 0 1)) (4 - 0) (4 - 0), .slice (some (slP ⟨g85, 0, none⟩ 4 0 1)) (4 - 0) (4 - 0)] (fun q89 h90 =>
    asI .i64 q89 fun n91 =>
    Post (.int .i64 n91) h90) h88) h83) h80) ∧ (ALC ⟨Z_4_int64⟩ T_4_int64 (fun g92 h93 =>
    PIN h4 t2 1 h93 <|
    PIN h4 ⟨g3, 0, none⟩ 6 h93 <|
    PIN h4 t2 1 h93 <|
    PIN h4 ⟨g1, 0, none⟩ 6 h93 <|
    CALL prg f_impl_Event_order #[.agg a7, v8] (fun q94 h95 =>
    asA q94 fun a96 =>
    STA 4 h95 ⟨g77, 0, none⟩ a81 fun h97 =>
    STA 4 h97 ⟨g92, 0, none⟩ a96 fun h98 =>
    SLB (0 : Int) (4 : Int) (4 : Int) <|
    SLB (0 : Int) (4 : Int) (4 : Int) <|
    CALL prg f_slices_Compare_sl_int64_int64 #[.slice (some (slP ⟨g77, 0, none⟩ 4 0 1)) (4 - 0) (4 - 0), .slice (some (slP ⟨g92, 0, none⟩ 4 0 1)) (4 - 0) (4 - 0)] (fun q99 h100 =>
    asI .i64 q99 fun n101 =>
    Post (.int .i64 n101) h100) h98) h93) h80)) h78) ∧ (ALC ⟨Z_4_int64⟩ T_4_int64 (fun g102 h103 =>
    PIN h4 t2 1 h103 <|
    PIN h4 ⟨g3, 0, none⟩ 6 h103 <|
    PIN h4 t2 1 h103 <|
    PIN h4 ⟨g1, 0, none⟩ 6 h103 <|
    CALL prg f_impl_Event_order #[.agg a5, v6] (fun q104 h105 =>
    asA q104 fun a106 =>
    PIN h4 t2 1 h105 <|
    PIN h4 ⟨g3, 0, none⟩ 6 h105 <|
    CALL prg f_impl_Event_order #[.agg a7, v8] (fun q107 h108 =>
    asA q107 fun a109 =>
    STA 4 h108 ⟨g77, 0, none⟩ a106 fun h110 =>
    STA 4 h110 ⟨g102, 0, none⟩ a109 fun h111 =>
    SLB (0 : Int) (4 : Int) (4 : Int) <|
    SLB (0 : Int) (4 : Int) (4 : Int) <|
    CALL prg f_slices_Compare_sl_int64_int64 #[.slice (some (slP ⟨g77, 0, none⟩ 4 0 1)) (4 - 0) (4 - 0), .slice (some (slP ⟨g102, 0, none⟩ 4 0 1)) (4 - 0) (4 - 0)] (fun q112 h113 =>
    asI .i64 q112 fun n114 =>
    Post (.int .i64 n114) h113) h111) h105) h103) h78)) h4) ∧ (ALC ⟨Z_4_int64⟩ T_4_int64 (fun g115 h116 =>
    PIN h4 t2 1 h116 <|
    PIN h4 ⟨g3, 0, none⟩ 6 h116 <|
    PIN h4 t2 1 h116 <|
    PIN h4 ⟨g1, 0, none⟩ 6 h116 <|
    (CALL prg f_impl_Event_order #[.agg a5, v6] (fun q117 h118 =>
    asA q117 fun a119 =>
    PIN h4 t2 1 h118 <|
    PIN h4 ⟨g3, 0, none⟩ 6 h118 <|
    (CALL prg f_impl_Event_order #[.agg a7, v8] (fun q120 h121 =>
    asA q120 fun a122 =>
    ALC ⟨Z_4_int64⟩ T_4_int64 (fun g123 h124 =>
    PIN h4 t2 1 h124 <|
    PIN h4 ⟨g3, 0, none⟩ 6 h124 <|
    PIN h4 t2 1 h124 <|
    PIN h4 ⟨g1, 0, none⟩ 6 h124 <|
    STA 4 h124 ⟨g123, 0, none⟩ a119 fun h125 =>
    STA 4 h125 ⟨g115, 0, none⟩ a122 fun h126 =>
    SLB (0 : Int) (4 : Int) (4 : Int) <|
    SLB (0 : Int) (4 : Int) (4 : Int) <|
    CALL prg f_slices_Compare_sl_int64_int64 #[.slice (some (slP ⟨g123, 0, none⟩ 4 0 1)) (4 - 0) (4 - 0), .slice (some (slP ⟨g115, 0, none⟩ 4 0 1)) (4 - 0) (4 - 0)] (fun q127 h128 =>
    asI .i64 q127 fun n129 =>
    Post (.int .i64 n129) h128) h126) h121) h118) ∧ (ALC ⟨Z_4_int64⟩ T_4_int64 (fun g130 h131 =>
    PIN h4 t2 1 h131 <|
    PIN h4 ⟨g3, 0, none⟩ 6 h131 <|
    PIN h4 t2 1 h131 <|
    PIN h4 ⟨g1, 0, none⟩ 6 h131 <|
    CALL prg f_impl_Event_order #[.agg a7, v8] (fun q132 h133 =>
    asA q132 fun a134 =>
    STA 4 h133 ⟨g130, 0, none⟩ a119 fun h135 =>
    STA 4 h135 ⟨g115, 0, none⟩ a134 fun h136 =>
    SLB (0 : Int) (4 : Int) (4 : Int) <|
    SLB (0 : Int) (4 : Int) (4 : Int) <|
    CALL prg f_slices_Compare_sl_int64_int64 #[.slice (some (slP ⟨g130, 0, none⟩ 4 0 1)) (4 - 0) (4 - 0), .slice (some (slP ⟨g115, 0, none⟩ 4 0 1)) (4 - 0) (4 - 0)] (fun q137 h138 =>
    asI .i64 q137 fun n139 =>
    Post (.int .i64 n139) h138) h136) h131) h118)) h116) ∧ (ALC ⟨Z_4_int64⟩ T_4_int64 (fun g140 h141 =>
    PIN h4 t2 1 h141 <|
    PIN h4 ⟨g3, 0, none⟩ 6 h141 <|
    PIN h4 t2 1 h141 <|
    PIN h4 ⟨g1, 0, none⟩ 6 h141 <|
    CALL prg f_impl_Event_order #[.agg a5, v6] (fun q142 h143 =>
    asA q142 fun a144 =>
    PIN h4 t2 1 h143 <|
    PIN h4 ⟨g3, 0, none⟩ 6 h143 <|
    CALL prg f_impl_Event_order #[.agg a7, v8] (fun q145 h146 =>
    asA q145 fun a147 =>
    STA 4 h146 ⟨g140, 0, none⟩ a144 fun h148 =>
    STA 4 h148 ⟨g115, 0, none⟩ a147 fun h149 =>
    SLB (0 : Int) (4 : Int) (4 : Int) <|
    SLB (0 : Int) (4 : Int) (4 : Int) <|
    CALL prg f_slices_Compare_sl_int64_int64 #[.slice (some (slP ⟨g140, 0, none⟩ 4 0 1)) (4 - 0) (4 - 0), .slice (some (slP ⟨g115, 0, none⟩ 4 0 1)) (4 - 0) (4 - 0)] (fun q150 h151 =>
    asI .i64 q150 fun n152 =>
    Post (.int .i64 n152) h151) h149) h143) h141) h116)) h4))) h2) h
noncomputable def impl_compareEvents_c1.code : Code := (Tryz.f62.body).getD .skip
theorem impl_compareEvents_c1.call {a_0 : Array Value} {b_1 : Array Value} {t2 : Addr} {Post : Value → Heap → Prop} {h : Heap} (H : impl_compareEvents_c1.S a_0 b_1 t2 Post h) : CALL prg f_impl_compareEvents_c1 #[.agg a_0, .agg b_1, .pointer (some t2)] Post h :=
  fn_call tau_ok mixed (c := impl_compareEvents_c1.code) (Λ := lookL []) Tryz.func62 (by kernel_rfl) (by kernel_rfl)
    (Rq.free (by kernel_rfl))
    (Eq.mp (by kernel_rfl) H)
theorem impl_compareEvents_c1.fn : prg.funcs[f_impl_compareEvents_c1]? = some Tryz.f62 := Tryz.func62

end Go.Sx.Md
