/- What functions of this seat's program compute, told in words (a predicate over heaps for each), and the proofs that the words are no more than the code's own weakest precondition. -/
import Derived.Test.YthgnpepchedpbaaGreatTab
namespace Go.Sx
open Go.Proofs
set_option linter.unusedVariables false
set_option maxRecDepth 100000

def spec_TailOf.B7 (Post : Value → Heap → Prop) (N7 : (Int × Addr × Int) → Heap → Prop) : Int × Addr × Int → Heap → Prop
  | (most_1, y_6, n_7), h =>
    BIF (decide (n_7 ≤ most_1)) (
    CALL prg f_spec_l06Silent #[.pointer (some y_6)] (fun q15 h16 =>
    asB q15 fun b17 =>
    BIF b17 (
    Post (.tuple ⟨[.int .i64 n_7, .int .i64 (0 : Int)]⟩) h16) (
    CALL prg f_spec_l06Step #[.pointer (some y_6), .float .f32 0] (fun q18 h19 =>
    asF .f32 q18 fun r20 =>
    N7 (most_1, y_6, ((IntKind.i64.wrap (n_7 + (1 : Int))))) h19) h16)) h) (
    Post (.tuple ⟨[.int .i64 (0 : Int), .int .i64 (7 : Int)]⟩) h)
def spec_TailOf.g7 (fr : Frame) : Int × Addr × Int := ((gI (lget fr 1)), (gP (lget fr 6)), (gI (lget fr 7)))
def spec_TailOf.l7 (Post : Value → Heap → Prop) : Frame → Heap → Prop := fun fr h => GRD (shape (kds 22 [(1, .i .i64), (6, .p), (7, .i .i64)]) fr) (LOOP (spec_TailOf.B7 Post) (spec_TailOf.g7 fr) h)
def spec_TailOf.S (x_0 : Array Value) (most_1 : Int) (Post : Value → Heap → Prop) (h : Heap) : Prop :=
    ALC x_0 T_impl_Room (fun g1 h2 =>
    CALL prg f_spec_l06Ok #[.pointer (some ⟨g1, 0, none⟩)] (fun q3 h4 =>
    asB q3 fun b5 =>
    BIF (!b5) (
    Post (.tuple ⟨[.int .i64 (0 : Int), .int .i64 (1 : Int)]⟩) h4) (
    CALL prg f_spec_l00In #[.int .i64 most_1, .int .i64 (0 : Int), .int .i64 (20000 : Int)] (fun q6 h7 =>
    asB q6 fun b8 =>
    BIF (!b8) (
    Post (.tuple ⟨[.int .i64 (0 : Int), .int .i64 (2 : Int)]⟩) h7) (
    CALL prg f_spec_l06Copy #[.pointer (some ⟨g1, 0, none⟩)] (fun q9 h10 =>
    asA q9 fun a11 =>
    ALC ⟨Z_impl_Room⟩ T_impl_Room (fun g12 h13 =>
    STA 47 h13 ⟨g12, 0, none⟩ a11 fun h14 =>
    LOOP (spec_TailOf.B7 Post) (most_1, ⟨g12, 0, none⟩, (0 : Int)) h14) h10) h7)) h4)) h2) h
noncomputable def spec_TailOf.code : Code := (Tryz.f9.body).getD .skip
theorem spec_TailOf.call {x_0 : Array Value} {most_1 : Int} {Post : Value → Heap → Prop} {h : Heap} (H : spec_TailOf.S x_0 most_1 Post h) : CALL prg f_spec_TailOf #[.agg x_0, .int .i64 most_1] Post h :=
  fn_call tau_ok mixed (c := spec_TailOf.code) (Λ := lookL [(1000007, spec_TailOf.l7 Post)]) Tryz.func9 (by kernel_rfl) (by kernel_rfl)
    (Rq.seq (by kernel_rfl) (Rq.free (by kernel_rfl)) (Rq.seq (by kernel_rfl) (Rq.free (by kernel_rfl)) (Rq.seq (by kernel_rfl) (Rq.free (by kernel_rfl)) (Rq.seq (by kernel_rfl) (Rq.free (by kernel_rfl)) (Rq.seq (by kernel_rfl) (Rq.seq (by kernel_rfl) (Rq.free (by kernel_rfl)) (Rq.block (Rq.loop (spec_TailOf.l7 Post) (by kernel_rfl) (segL (g := spec_TailOf.g7) tau_ok mixed (Λ := fun N7 => lookL []) (fun _ _ _ => by kernel_rfl) (fun N7 => (Rq.free (by kernel_rfl))))))) (Rq.free (by kernel_rfl)))))))
    (Eq.mp (by kernel_rfl) H)

def impl_TailOf.S (x_0 : Array Value) (most_1 : Int) (Post : Value → Heap → Prop) (h : Heap) : Prop :=
    ALC x_0 T_impl_Room (fun g1 h2 =>
    LDA 47 h2 ⟨g1, 0, none⟩ fun a3 =>
    CALL prg f_impl_ValidRoom #[.agg a3] (fun q4 h5 =>
    asB q4 fun b6 =>
    BIF (!b6) (
    Post (.tuple ⟨[.int .i64 (0 : Int), .int .i64 (1 : Int)]⟩) h5) (
    CALL prg f_impl_within #[.int .i64 most_1, .int .i64 (0 : Int), .int .i64 (20000 : Int)] (fun q7 h8 =>
    asB q7 fun b9 =>
    BIF (!b9) (
    Post (.tuple ⟨[.int .i64 (0 : Int), .int .i64 (2 : Int)]⟩) h8) (
    LDA 47 h8 ⟨g1, 0, none⟩ fun a10 =>
    CALL prg f_impl_Room_clone #[.agg a10] (fun q11 h12 =>
    asA q11 fun a13 =>
    STA 47 h12 ⟨g1, 0, none⟩ a13 fun h14 =>
    CALL prg f_p_impl_Room_rings #[.pointer (some ⟨g1, 0, none⟩)] (fun q15 h16 =>
    asL q15 fun l17b l17l l17c =>
    CALL prg f_impl_steps #[.int .i64 most_1, .slice l17b l17l l17c, .func (.func 35) #[.pointer (some ⟨g1, 0, none⟩)] #[], .func (.func 36) #[] #[.pointer (some ⟨g1, 0, none⟩)]] (fun q18 h19 =>
    TUP2 q18 fun q20 q21 =>
    asI .i64 q20 fun n22 =>
    asI .i64 q21 fun n23 =>
    Post (.tuple ⟨[.int .i64 n22, .int .i64 n23]⟩) h19) h16) h14) h8)) h5)) h2) h
noncomputable def impl_TailOf.code : Code := (Tryz.f8.body).getD .skip
theorem impl_TailOf.call {x_0 : Array Value} {most_1 : Int} {Post : Value → Heap → Prop} {h : Heap} (H : impl_TailOf.S x_0 most_1 Post h) : CALL prg f_impl_TailOf #[.agg x_0, .int .i64 most_1] Post h :=
  fn_call tau_ok mixed (c := impl_TailOf.code) (Λ := lookL []) Tryz.func8 (by kernel_rfl) (by kernel_rfl)
    (Rq.free (by kernel_rfl))
    (Eq.mp (by kernel_rfl) H)

def impl_TailOf_c1.S (t0 : Addr) (Post : Value → Heap → Prop) (h : Heap) : Prop :=
    CALL prg f_p_impl_Room_step #[.pointer (some t0), .float .f32 0] (fun q1 h2 =>
    asF .f32 q1 fun r3 =>
    Post (.tuple ⟨[]⟩) h2) h
noncomputable def impl_TailOf_c1.code : Code := (Tryz.f36.body).getD .skip
theorem impl_TailOf_c1.call {t0 : Addr} {Post : Value → Heap → Prop} {h : Heap} (H : impl_TailOf_c1.S t0 Post h) : CALL prg f_impl_TailOf_c1 #[.pointer (some t0)] Post h :=
  fn_call tau_ok mixed (c := impl_TailOf_c1.code) (Λ := lookL []) Tryz.func36 (by kernel_rfl) (by kernel_rfl)
    (Rq.free (by kernel_rfl))
    (Eq.mp (by kernel_rfl) H)

def impl_steps.B20 (N8 : (Int × Option Addr × Nat × Nat × Value × Value × Option Addr × Nat × Nat × Int) → Heap → Prop) (Post : Value → Heap → Prop) (N20 : (Int × Option Addr × Nat × Nat × Value × Value × Option Addr × Nat × Nat × Int × Option Addr × Nat × Nat × Int × Int) → Heap → Prop) : Int × Option Addr × Nat × Nat × Value × Value × Option Addr × Nat × Nat × Int × Option Addr × Nat × Nat × Int × Int → Heap → Prop
  | (most_0, rings_1b, rings_1l, rings_1c, isStill_2, step_3, runs_10b, runs_10l, runs_10c, n_13, t69b, t69l, t69c, t70, t71), h =>
    BIF (decide (t71 < t70)) (
    IDXS t69b t71 t69l fun p32 =>
    oP (cell h ((Addr.add p32 ((Int.toNat t71) * 1)))) fun p33 =>
    IDXS runs_10b t71 runs_10l fun p34 =>
    oI .i64 (cell h ((Addr.add p34 ((Int.toNat t71) * 1)))) fun n35 =>
    IDXS runs_10b t71 runs_10l fun p36 =>
    ST1 h ((Addr.add p36 ((Int.toNat t71) * 1))) (.int .i64 ((IntKind.i64.wrap (n35 + (1 : Int))))) fun h37 =>
    LDA 2 h37 p33 fun a38 =>
    CALL prg f_impl_Ring_back #[.agg a38, .int .i64 (1 : Int)] (fun q39 h40 =>
    asF .f32 q39 fun r41 =>
    BIF (FloatKind.f32.format.order r41 0 != some .eq) (
    IDXS runs_10b t71 runs_10l fun p42 =>
    ST1 h40 ((Addr.add p42 ((Int.toNat t71) * 1))) (.int .i64 (0 : Int)) fun h43 =>
    N20 (most_0, rings_1b, rings_1l, rings_1c, isStill_2, step_3, runs_10b, runs_10l, runs_10c, n_13, t69b, t69l, t69c, t70, ((IntKind.i64.wrap (t71 + (1 : Int))))) h43) (
    N20 (most_0, rings_1b, rings_1l, rings_1c, isStill_2, step_3, runs_10b, runs_10l, runs_10c, n_13, t69b, t69l, t69c, t70, ((IntKind.i64.wrap (t71 + (1 : Int))))) h40)) h37) (
    N8 (most_0, rings_1b, rings_1l, rings_1c, isStill_2, step_3, runs_10b, runs_10l, runs_10c, ((IntKind.i64.wrap (n_13 + (1 : Int))))) h)
def impl_steps.g20 (fr : Frame) : Int × Option Addr × Nat × Nat × Value × Value × Option Addr × Nat × Nat × Int × Option Addr × Nat × Nat × Int × Int := ((gI (lget fr 0)), (gLb (lget fr 1)), (gLl (lget fr 1)), (gLc (lget fr 1)), (lget fr 2), (lget fr 3), (gLb (lget fr 10)), (gLl (lget fr 10)), (gLc (lget fr 10)), (gI (lget fr 13)), (gLb (lget fr 69)), (gLl (lget fr 69)), (gLc (lget fr 69)), (gI (lget fr 70)), (gI (lget fr 71)))
def impl_steps.l20 (N8 : (Int × Option Addr × Nat × Nat × Value × Value × Option Addr × Nat × Nat × Int) → Heap → Prop) (Post : Value → Heap → Prop) : Frame → Heap → Prop := fun fr h => GRD (shape (kds 91 [(0, .i .i64), (1, .l), (2, .v), (3, .v), (10, .l), (13, .i .i64), (69, .l), (70, .i .i64), (71, .i .i64)]) fr) (LOOP (impl_steps.B20 N8 Post) (impl_steps.g20 fr) h)
def impl_steps.B12 (N8 : (Int × Option Addr × Nat × Nat × Value × Value × Option Addr × Nat × Nat × Int) → Heap → Prop) (Post : Value → Heap → Prop) (N12 : (Int × Option Addr × Nat × Nat × Value × Value × Option Addr × Nat × Nat × Int × Bool × Option Addr × Nat × Nat × Int × Int) → Heap → Prop) : Int × Option Addr × Nat × Nat × Value × Value × Option Addr × Nat × Nat × Int × Bool × Option Addr × Nat × Nat × Int × Int → Heap → Prop
  | (most_0, rings_1b, rings_1l, rings_1c, isStill_2, step_3, runs_10b, runs_10l, runs_10c, n_13, silent_14, t44b, t44l, t44c, t45, t46), h =>
    BIF (decide (t46 < t45)) (
    IDXS t44b t46 t44l fun p20 =>
    oP (cell h ((Addr.add p20 ((Int.toNat t46) * 1)))) fun p21 =>
    BIF silent_14 (
    IDXS runs_10b t46 runs_10l fun p22 =>
    oI .i64 (cell h ((Addr.add p22 ((Int.toNat t46) * 1)))) fun n23 =>
    oL (cell h p21) fun l24b l24l l24c =>
    CALL prg f_impl_length_float32 #[.slice l24b l24l l24c] (fun q25 h26 =>
    asI .i64 q25 fun n27 =>
    PIN h ((Addr.add p22 ((Int.toNat t46) * 1))) 1 h26 <|
    N12 (most_0, rings_1b, rings_1l, rings_1c, isStill_2, step_3, runs_10b, runs_10l, runs_10c, n_13, (decide (n27 ≤ n23)), t44b, t44l, t44c, t45, ((IntKind.i64.wrap (t46 + (1 : Int))))) h26) h) (
    N12 (most_0, rings_1b, rings_1l, rings_1c, isStill_2, step_3, runs_10b, runs_10l, runs_10c, n_13, false, t44b, t44l, t44c, t45, ((IntKind.i64.wrap (t46 + (1 : Int))))) h)) (
    BIF silent_14 (
    Post (.tuple ⟨[.int .i64 n_13, .int .i64 (0 : Int)]⟩) h) (
    CALLD prg step_3 #[] (fun q28 h29 =>
    LOOP (impl_steps.B20 N8 Post) (most_0, rings_1b, rings_1l, rings_1c, isStill_2, step_3, runs_10b, runs_10l, runs_10c, n_13, rings_1b, rings_1l, rings_1c, (rings_1l : Int), (0 : Int)) h29) h))
def impl_steps.g12 (fr : Frame) : Int × Option Addr × Nat × Nat × Value × Value × Option Addr × Nat × Nat × Int × Bool × Option Addr × Nat × Nat × Int × Int := ((gI (lget fr 0)), (gLb (lget fr 1)), (gLl (lget fr 1)), (gLc (lget fr 1)), (lget fr 2), (lget fr 3), (gLb (lget fr 10)), (gLl (lget fr 10)), (gLc (lget fr 10)), (gI (lget fr 13)), (gB (lget fr 14)), (gLb (lget fr 44)), (gLl (lget fr 44)), (gLc (lget fr 44)), (gI (lget fr 45)), (gI (lget fr 46)))
def impl_steps.l12 (N8 : (Int × Option Addr × Nat × Nat × Value × Value × Option Addr × Nat × Nat × Int) → Heap → Prop) (Post : Value → Heap → Prop) : Frame → Heap → Prop := fun fr h => GRD (shape (kds 91 [(0, .i .i64), (1, .l), (2, .v), (3, .v), (10, .l), (13, .i .i64), (14, .b), (44, .l), (45, .i .i64), (46, .i .i64)]) fr) (LOOP (impl_steps.B12 N8 Post) (impl_steps.g12 fr) h)
def impl_steps.B8 (Post : Value → Heap → Prop) (N8 : (Int × Option Addr × Nat × Nat × Value × Value × Option Addr × Nat × Nat × Int) → Heap → Prop) : Int × Option Addr × Nat × Nat × Value × Value × Option Addr × Nat × Nat × Int → Heap → Prop
  | (most_0, rings_1b, rings_1l, rings_1c, isStill_2, step_3, runs_10b, runs_10l, runs_10c, n_13), h =>
    BIF (decide (n_13 ≤ most_0)) (
    CALLD prg isStill_2 #[] (fun q15 h16 =>
    asB q15 fun b17 =>
    LOOP (impl_steps.B12 N8 Post) (most_0, rings_1b, rings_1l, rings_1c, isStill_2, step_3, runs_10b, runs_10l, runs_10c, n_13, b17, rings_1b, rings_1l, rings_1c, (rings_1l : Int), (0 : Int)) h16) h) (
    Post (.tuple ⟨[.int .i64 (0 : Int), .int .i64 (7 : Int)]⟩) h)
def impl_steps.g8 (fr : Frame) : Int × Option Addr × Nat × Nat × Value × Value × Option Addr × Nat × Nat × Int := ((gI (lget fr 0)), (gLb (lget fr 1)), (gLl (lget fr 1)), (gLc (lget fr 1)), (lget fr 2), (lget fr 3), (gLb (lget fr 10)), (gLl (lget fr 10)), (gLc (lget fr 10)), (gI (lget fr 13)))
def impl_steps.l8 (Post : Value → Heap → Prop) : Frame → Heap → Prop := fun fr h => GRD (shape (kds 91 [(0, .i .i64), (1, .l), (2, .v), (3, .v), (10, .l), (13, .i .i64)]) fr) (LOOP (impl_steps.B8 Post) (impl_steps.g8 fr) h)
def impl_steps.B3 (Post : Value → Heap → Prop) (N3 : (Int × Option Addr × Nat × Nat × Value × Value × Option Addr × Nat × Nat × Option Addr × Nat × Nat × Int × Int) → Heap → Prop) : Int × Option Addr × Nat × Nat × Value × Value × Option Addr × Nat × Nat × Option Addr × Nat × Nat × Int × Int → Heap → Prop
  | (most_0, rings_1b, rings_1l, rings_1c, isStill_2, step_3, runs_10b, runs_10l, runs_10c, t22b, t22l, t22c, t23, t24), h =>
    BIF (decide (t24 < t23)) (
    IDXS t22b t24 t22l fun p7 =>
    oP (cell h ((Addr.add p7 ((Int.toNat t24) * 1)))) fun p8 =>
    LDA 2 h p8 fun a9 =>
    CALL prg f_impl_Ring_quiet #[.agg a9] (fun q10 h11 =>
    asI .i64 q10 fun n12 =>
    IDXS runs_10b t24 runs_10l fun p13 =>
    ST1 h11 ((Addr.add p13 ((Int.toNat t24) * 1))) (.int .i64 n12) fun h14 =>
    N3 (most_0, rings_1b, rings_1l, rings_1c, isStill_2, step_3, runs_10b, runs_10l, runs_10c, t22b, t22l, t22c, t23, ((IntKind.i64.wrap (t24 + (1 : Int))))) h14) h) (
    LOOP (impl_steps.B8 Post) (most_0, rings_1b, rings_1l, rings_1c, isStill_2, step_3, runs_10b, runs_10l, runs_10c, (0 : Int)) h)
def impl_steps.g3 (fr : Frame) : Int × Option Addr × Nat × Nat × Value × Value × Option Addr × Nat × Nat × Option Addr × Nat × Nat × Int × Int := ((gI (lget fr 0)), (gLb (lget fr 1)), (gLl (lget fr 1)), (gLc (lget fr 1)), (lget fr 2), (lget fr 3), (gLb (lget fr 10)), (gLl (lget fr 10)), (gLc (lget fr 10)), (gLb (lget fr 22)), (gLl (lget fr 22)), (gLc (lget fr 22)), (gI (lget fr 23)), (gI (lget fr 24)))
def impl_steps.l3 (Post : Value → Heap → Prop) : Frame → Heap → Prop := fun fr h => GRD (shape (kds 91 [(0, .i .i64), (1, .l), (2, .v), (3, .v), (10, .l), (22, .l), (23, .i .i64), (24, .i .i64)]) fr) (LOOP (impl_steps.B3 Post) (impl_steps.g3 fr) h)
def impl_steps.S (most_0 : Int) (rings_1b : Option Addr) (rings_1l rings_1c : Nat) (isStill_2 : Value) (step_3 : Value) (Post : Value → Heap → Prop) (h : Heap) : Prop :=
    MKS ti_int64 T_int64 (rings_1l : Int) (rings_1l : Int) (fun g3 h4 =>
    LOOP (impl_steps.B3 Post) (most_0, rings_1b, rings_1l, rings_1c, isStill_2, step_3, (some ⟨g3, 0, none⟩), rings_1l, rings_1l, rings_1b, rings_1l, rings_1c, (rings_1l : Int), (0 : Int)) h4) h
noncomputable def impl_steps.code : Code := (Tryz.f33.body).getD .skip
theorem impl_steps.call {most_0 : Int} {rings_1b : Option Addr} {rings_1l rings_1c : Nat} {isStill_2 : Value} {step_3 : Value} {Post : Value → Heap → Prop} {h : Heap} (H : impl_steps.S most_0 rings_1b rings_1l rings_1c isStill_2 step_3 Post h) : CALL prg f_impl_steps #[.int .i64 most_0, .slice rings_1b rings_1l rings_1c, isStill_2, step_3] Post h :=
  fn_call tau_ok mixed (c := impl_steps.code) (Λ := lookL [(1000003, impl_steps.l3 Post), (1000008, impl_steps.l8 Post)]) Tryz.func33 (by kernel_rfl) (by kernel_rfl)
    (Rq.seq (by kernel_rfl) (Rq.free (by kernel_rfl)) (Rq.seq (by kernel_rfl) (Rq.free (by kernel_rfl)) (Rq.seq (by kernel_rfl) (Rq.seq (by kernel_rfl) (Rq.free (by kernel_rfl)) (Rq.block (Rq.loop (impl_steps.l3 Post) (by kernel_rfl) (segL (g := impl_steps.g3) tau_ok mixed (Λ := fun N3 => lookL []) (fun _ _ _ => by kernel_rfl) (fun N3 => (Rq.free (by kernel_rfl))))))) (Rq.seq (by kernel_rfl) (Rq.seq (by kernel_rfl) (Rq.free (by kernel_rfl)) (Rq.block (Rq.loop (impl_steps.l8 Post) (by kernel_rfl) (segL (g := impl_steps.g8) tau_ok mixed (Λ := fun N8 => lookL [(1000012, impl_steps.l12 N8 Post), (1000020, impl_steps.l20 N8 Post)]) (fun _ _ _ => by kernel_rfl) (fun N8 => (Rq.seq (by kernel_rfl) (Rq.free (by kernel_rfl)) (Rq.seq (by kernel_rfl) (Rq.block (Rq.seq (by kernel_rfl) (Rq.free (by kernel_rfl)) (Rq.seq (by kernel_rfl) (Rq.seq (by kernel_rfl) (Rq.free (by kernel_rfl)) (Rq.block (Rq.loop (impl_steps.l12 N8 Post) (by kernel_rfl) (segL (g := impl_steps.g12) tau_ok mixed (Λ := fun N12 => lookL []) (fun _ _ _ => by kernel_rfl) (fun N12 => (Rq.free (by kernel_rfl))))))) (Rq.seq (by kernel_rfl) (Rq.free (by kernel_rfl)) (Rq.seq (by kernel_rfl) (Rq.free (by kernel_rfl)) (Rq.seq (by kernel_rfl) (Rq.free (by kernel_rfl)) (Rq.block (Rq.loop (impl_steps.l20 N8 Post) (by kernel_rfl) (segL (g := impl_steps.g20) tau_ok mixed (Λ := fun N20 => lookL []) (fun _ _ _ => by kernel_rfl) (fun N20 => (Rq.free (by kernel_rfl)))))))))))) (Rq.free (by kernel_rfl))))))))) (Rq.free (by kernel_rfl))))))
    (Eq.mp (by kernel_rfl) H)

end Go.Sx
