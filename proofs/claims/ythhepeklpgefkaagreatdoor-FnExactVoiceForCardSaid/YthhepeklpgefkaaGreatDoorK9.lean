/- What functions of this seat's program compute, told in words (a predicate over heaps for each), and the proofs that the words are no more than the code's own weakest precondition. -/
import Derived.Test.YthhepeklpgefkaaGreatDoorTab
namespace Go.Sx
open Go.Proofs
set_option linter.unusedVariables false
set_option maxRecDepth 100000

def spec_AllpassFor.J3 (Post : Value → Heap → Prop) (fraction_0 : Nat) (t2 : Addr) (h : Heap) : Prop :=
    FOP .f32 (FloatKind.f32.format.sub 1065353216 fraction_0) fun r7 =>
    FOP .f32 (FloatKind.f32.format.add 1065353216 fraction_0) fun r8 =>
    FOP .f32 (FloatKind.f32.format.div r7 r8) fun r9 =>
    SIZ (Array.size (⟨[.float .f32 r9, .float .f32 0, .float .f32 0]⟩ : Array Value)) 3 <|
    STA 6 h t2 (⟨[.int .i64 (3 : Int), .float .f32 r9, .float .f32 0, .float .f32 0, .float .f32 0, .float .f32 0]⟩ : Array Value) fun h10 =>
    LDA 6 h10 t2 fun a11 =>
    Post (.tuple ⟨[.agg a11, .int .i64 (0 : Int)]⟩) h10
def spec_AllpassFor.j3 (Post : Value → Heap → Prop) : Frame → Heap → Prop := fun fr h => GRD (shape (kds 19 [(0, .f .f32), (2, .p)]) fr) (spec_AllpassFor.J3 Post (gF (lget fr 0)) (gP (lget fr 2)) h)
def spec_AllpassFor.S (fraction_0 : Nat) (Post : Value → Heap → Prop) (h : Heap) : Prop :=
    ALC ⟨Z_impl_Filter⟩ T_impl_Filter (fun g1 h2 =>
    BIF (FloatKind.f32.format.order fraction_0 0 == some .gt || FloatKind.f32.format.order fraction_0 0 == some .eq) (
    BIF (!(FloatKind.f32.format.order fraction_0 1073741824 == some .lt || FloatKind.f32.format.order fraction_0 1073741824 == some .eq)) (
    STA 6 h2 ⟨g1, 0, none⟩ (⟨[.int .i64 (0 : Int), .float .f32 0, .float .f32 0, .float .f32 0, .float .f32 0, .float .f32 0]⟩ : Array Value) fun h3 =>
    LDA 6 h3 ⟨g1, 0, none⟩ fun a4 =>
    Post (.tuple ⟨[.agg a4, .int .i64 (2 : Int)]⟩) h3) (
    spec_AllpassFor.J3 Post fraction_0 ⟨g1, 0, none⟩ h2)) (
    STA 6 h2 ⟨g1, 0, none⟩ (⟨[.int .i64 (0 : Int), .float .f32 0, .float .f32 0, .float .f32 0, .float .f32 0, .float .f32 0]⟩ : Array Value) fun h5 =>
    LDA 6 h5 ⟨g1, 0, none⟩ fun a6 =>
    Post (.tuple ⟨[.agg a6, .int .i64 (2 : Int)]⟩) h5)) h
noncomputable def spec_AllpassFor.code : Code := (Tryz.f221.body).getD .skip
theorem spec_AllpassFor.call {fraction_0 : Nat} {Post : Value → Heap → Prop} {h : Heap} (H : spec_AllpassFor.S fraction_0 Post h) : CALL prg f_spec_AllpassFor #[.float .f32 fraction_0] Post h :=
  fn_call tau_ok mixed (c := spec_AllpassFor.code) (Λ := lookL [(3, spec_AllpassFor.j3 Post)]) Tryz.func221 (by kernel_rfl) (by kernel_rfl)
    (Rq.seq (by kernel_rfl) (Rq.free (by kernel_rfl)) (Rq.seqJ (spec_AllpassFor.j3 Post) (by kernel_rfl) (seg (fun _ _ => by kernel_rfl)) (Rq.free (by kernel_rfl))
(Rq.free (by kernel_rfl))))
    (Eq.mp (by kernel_rfl) H)

def spec_OneZero.S (mix_0 : Nat) (Post : Value → Heap → Prop) (h : Heap) : Prop :=
    ALC ⟨Z_impl_Filter⟩ T_impl_Filter (fun g1 h2 =>
    FOP .f32 (FloatKind.f32.format.sub 1065353216 mix_0) fun r3 =>
    SIZ (Array.size (⟨[.float .f32 r3, .float .f32 mix_0, .float .f32 0]⟩ : Array Value)) 3 <|
    STA 6 h2 ⟨g1, 0, none⟩ (⟨[.int .i64 (2 : Int), .float .f32 r3, .float .f32 mix_0, .float .f32 0, .float .f32 0, .float .f32 0]⟩ : Array Value) fun h4 =>
    LDA 6 h4 ⟨g1, 0, none⟩ fun a5 =>
    Post (.agg a5) h4) h
noncomputable def spec_OneZero.code : Code := (Tryz.f222.body).getD .skip
theorem spec_OneZero.call {mix_0 : Nat} {Post : Value → Heap → Prop} {h : Heap} (H : spec_OneZero.S mix_0 Post h) : CALL prg f_spec_OneZero #[.float .f32 mix_0] Post h :=
  fn_call tau_ok mixed (c := spec_OneZero.code) (Λ := lookL []) Tryz.func222 (by kernel_rfl) (by kernel_rfl)
    (Rq.free (by kernel_rfl))
    (Eq.mp (by kernel_rfl) H)

def spec_NewString.J7 (Post : Value → Heap → Prop) (mix_1 : Nat) (loss_2 : Nat) (t6 : Addr) (d_8 : Nat) (n_9 : Int) (h : Heap) : Prop :=
    FOP .f32 (FloatKind.f32.format.sub d_8 (FloatKind.f32.nearest n_9)) fun r18 =>
    CALL prg f_spec_AllpassFor #[.float .f32 r18] (fun q19 h20 =>
    TUP2 q19 fun q21 q22 =>
    asA q21 fun a23 =>
    asI .i64 q22 fun n24 =>
    ALC ⟨Z_impl_Filter⟩ T_impl_Filter (fun g25 h26 =>
    STA 6 h26 ⟨g25, 0, none⟩ a23 fun h27 =>
    LDA 6 h27 ⟨g25, 0, none⟩ fun a28 =>
    (MKS ti_float32 T_float32 n_9 n_9 (fun g29 h30 =>
    PIN h27 ⟨g25, 0, none⟩ 6 h30 <|
    CALL prg f_spec_OneZero #[.float .f32 mix_1] (fun q31 h32 =>
    asA q31 fun a33 =>
    PIN h27 ⟨g25, 0, none⟩ 6 h32 <|
    SIZ (Array.size (⟨[.slice (some ⟨g29, 0, none⟩) (Int.toNat n_9) (Int.toNat n_9), .int .i64 (0 : Int)]⟩ : Array Value)) 2 <|
    SIZ (Array.size a28) 6 <|
    SIZ (Array.size a33) 6 <|
    STA 15 h32 t6 (⟨(List.set (splice 8 6 a33 (splice 2 6 a28 [.slice (some ⟨g29, 0, none⟩) (Int.toNat n_9) (Int.toNat n_9), .int .i64 (0 : Int), .int .i64 (0 : Int), .float .f32 0, .float .f32 0, .float .f32 0, .float .f32 0, .float .f32 0, .int .i64 (0 : Int), .float .f32 0, .float .f32 0, .float .f32 0, .float .f32 0, .float .f32 0, .float .f32 0])) 14 (.float .f32 loss_2))⟩) fun h34 =>
    LDA 15 h34 t6 fun a35 =>
    Post (.tuple ⟨[.agg a35, .int .i64 (0 : Int)]⟩) h34) h30) h27) ∧ (CALL prg f_spec_OneZero #[.float .f32 mix_1] (fun q36 h37 =>
    asA q36 fun a38 =>
    PIN h27 ⟨g25, 0, none⟩ 6 h37 <|
    MKS ti_float32 T_float32 n_9 n_9 (fun g39 h40 =>
    PIN h27 ⟨g25, 0, none⟩ 6 h40 <|
    SIZ (Array.size (⟨[.slice (some ⟨g39, 0, none⟩) (Int.toNat n_9) (Int.toNat n_9), .int .i64 (0 : Int)]⟩ : Array Value)) 2 <|
    SIZ (Array.size a28) 6 <|
    SIZ (Array.size a38) 6 <|
    STA 15 h40 t6 (⟨(List.set (splice 8 6 a38 (splice 2 6 a28 [.slice (some ⟨g39, 0, none⟩) (Int.toNat n_9) (Int.toNat n_9), .int .i64 (0 : Int), .int .i64 (0 : Int), .float .f32 0, .float .f32 0, .float .f32 0, .float .f32 0, .float .f32 0, .int .i64 (0 : Int), .float .f32 0, .float .f32 0, .float .f32 0, .float .f32 0, .float .f32 0, .float .f32 0])) 14 (.float .f32 loss_2))⟩) fun h41 =>
    LDA 15 h41 t6 fun a42 =>
    Post (.tuple ⟨[.agg a42, .int .i64 (0 : Int)]⟩) h41) h37) h27)) h20) h
def spec_NewString.j7 (Post : Value → Heap → Prop) : Frame → Heap → Prop := fun fr h => GRD (shape (kds 66 [(1, .f .f32), (2, .f .f32), (6, .p), (8, .f .f32), (9, .i .i64)]) fr) (spec_NewString.J7 Post (gF (lget fr 1)) (gF (lget fr 2)) (gP (lget fr 6)) (gF (lget fr 8)) (gI (lget fr 9)) h)
def spec_NewString.J3 (Post : Value → Heap → Prop) (period_0 : Nat) (mix_1 : Nat) (loss_2 : Nat) (t6 : Addr) (h : Heap) : Prop :=
    FOP .f32 (FloatKind.f32.format.sub period_0 mix_1) fun r15 =>
    FIC .f32 r15 .i64 fun n16 =>
    FOP .f32 (FloatKind.f32.format.sub r15 (FloatKind.f32.nearest n16)) fun r17 =>
    BIF (FloatKind.f32.format.order r17 1048576000 == some .lt) (
    spec_NewString.J7 Post mix_1 loss_2 t6 r15 ((IntKind.i64.wrap (n16 - (1 : Int)))) h) (
    spec_NewString.J7 Post mix_1 loss_2 t6 r15 n16 h)
def spec_NewString.j3 (Post : Value → Heap → Prop) : Frame → Heap → Prop := fun fr h => GRD (shape (kds 66 [(0, .f .f32), (1, .f .f32), (2, .f .f32), (6, .p)]) fr) (spec_NewString.J3 Post (gF (lget fr 0)) (gF (lget fr 1)) (gF (lget fr 2)) (gP (lget fr 6)) h)
def spec_NewString.S (period_0 : Nat) (mix_1 : Nat) (loss_2 : Nat) (Post : Value → Heap → Prop) (h : Heap) : Prop :=
    ALC ⟨Z_impl_String⟩ T_impl_String (fun g1 h2 =>
    BIF (FloatKind.f32.format.order period_0 1077936128 == some .gt || FloatKind.f32.format.order period_0 1077936128 == some .eq) (
    BIF (!(FloatKind.f32.format.order period_0 1149239296 == some .lt || FloatKind.f32.format.order period_0 1149239296 == some .eq)) (
    STA 15 h2 ⟨g1, 0, none⟩ (⟨[.slice none 0 0, .int .i64 (0 : Int), .int .i64 (0 : Int), .float .f32 0, .float .f32 0, .float .f32 0, .float .f32 0, .float .f32 0, .int .i64 (0 : Int), .float .f32 0, .float .f32 0, .float .f32 0, .float .f32 0, .float .f32 0, .float .f32 0]⟩ : Array Value) fun h3 =>
    LDA 15 h3 ⟨g1, 0, none⟩ fun a4 =>
    Post (.tuple ⟨[.agg a4, .int .i64 (2 : Int)]⟩) h3) (
    BIF (FloatKind.f32.format.order mix_1 0 == some .gt || FloatKind.f32.format.order mix_1 0 == some .eq) (
    BIF (!(FloatKind.f32.format.order mix_1 1056964608 == some .lt || FloatKind.f32.format.order mix_1 1056964608 == some .eq)) (
    STA 15 h2 ⟨g1, 0, none⟩ (⟨[.slice none 0 0, .int .i64 (0 : Int), .int .i64 (0 : Int), .float .f32 0, .float .f32 0, .float .f32 0, .float .f32 0, .float .f32 0, .int .i64 (0 : Int), .float .f32 0, .float .f32 0, .float .f32 0, .float .f32 0, .float .f32 0, .float .f32 0]⟩ : Array Value) fun h5 =>
    LDA 15 h5 ⟨g1, 0, none⟩ fun a6 =>
    Post (.tuple ⟨[.agg a6, .int .i64 (2 : Int)]⟩) h5) (
    BIF (FloatKind.f32.format.order loss_2 0 == some .gt || FloatKind.f32.format.order loss_2 0 == some .eq) (
    BIF (!(FloatKind.f32.format.order loss_2 1065353216 == some .lt || FloatKind.f32.format.order loss_2 1065353216 == some .eq)) (
    STA 15 h2 ⟨g1, 0, none⟩ (⟨[.slice none 0 0, .int .i64 (0 : Int), .int .i64 (0 : Int), .float .f32 0, .float .f32 0, .float .f32 0, .float .f32 0, .float .f32 0, .int .i64 (0 : Int), .float .f32 0, .float .f32 0, .float .f32 0, .float .f32 0, .float .f32 0, .float .f32 0]⟩ : Array Value) fun h7 =>
    LDA 15 h7 ⟨g1, 0, none⟩ fun a8 =>
    Post (.tuple ⟨[.agg a8, .int .i64 (2 : Int)]⟩) h7) (
    spec_NewString.J3 Post period_0 mix_1 loss_2 ⟨g1, 0, none⟩ h2)) (
    STA 15 h2 ⟨g1, 0, none⟩ (⟨[.slice none 0 0, .int .i64 (0 : Int), .int .i64 (0 : Int), .float .f32 0, .float .f32 0, .float .f32 0, .float .f32 0, .float .f32 0, .int .i64 (0 : Int), .float .f32 0, .float .f32 0, .float .f32 0, .float .f32 0, .float .f32 0, .float .f32 0]⟩ : Array Value) fun h9 =>
    LDA 15 h9 ⟨g1, 0, none⟩ fun a10 =>
    Post (.tuple ⟨[.agg a10, .int .i64 (2 : Int)]⟩) h9))) (
    STA 15 h2 ⟨g1, 0, none⟩ (⟨[.slice none 0 0, .int .i64 (0 : Int), .int .i64 (0 : Int), .float .f32 0, .float .f32 0, .float .f32 0, .float .f32 0, .float .f32 0, .int .i64 (0 : Int), .float .f32 0, .float .f32 0, .float .f32 0, .float .f32 0, .float .f32 0, .float .f32 0]⟩ : Array Value) fun h11 =>
    LDA 15 h11 ⟨g1, 0, none⟩ fun a12 =>
    Post (.tuple ⟨[.agg a12, .int .i64 (2 : Int)]⟩) h11))) (
    STA 15 h2 ⟨g1, 0, none⟩ (⟨[.slice none 0 0, .int .i64 (0 : Int), .int .i64 (0 : Int), .float .f32 0, .float .f32 0, .float .f32 0, .float .f32 0, .float .f32 0, .int .i64 (0 : Int), .float .f32 0, .float .f32 0, .float .f32 0, .float .f32 0, .float .f32 0, .float .f32 0]⟩ : Array Value) fun h13 =>
    LDA 15 h13 ⟨g1, 0, none⟩ fun a14 =>
    Post (.tuple ⟨[.agg a14, .int .i64 (2 : Int)]⟩) h13)) h
noncomputable def spec_NewString.code : Code := (Tryz.f159.body).getD .skip
theorem spec_NewString.call {period_0 : Nat} {mix_1 : Nat} {loss_2 : Nat} {Post : Value → Heap → Prop} {h : Heap} (H : spec_NewString.S period_0 mix_1 loss_2 Post h) : CALL prg f_spec_NewString #[.float .f32 period_0, .float .f32 mix_1, .float .f32 loss_2] Post h :=
  fn_call tau_ok mixed (c := spec_NewString.code) (Λ := lookL [(3, spec_NewString.j3 Post), (7, spec_NewString.j7 Post)]) Tryz.func159 (by kernel_rfl) (by kernel_rfl)
    (Rq.seq (by kernel_rfl) (Rq.free (by kernel_rfl)) (Rq.seqJ (spec_NewString.j3 Post) (by kernel_rfl) (seg (fun _ _ => by kernel_rfl)) (Rq.free (by kernel_rfl))
(Rq.seq (by kernel_rfl) (Rq.free (by kernel_rfl)) (Rq.seq (by kernel_rfl) (Rq.free (by kernel_rfl)) (Rq.seqJ (spec_NewString.j7 Post) (by kernel_rfl) (seg (fun _ _ => by kernel_rfl)) (Rq.free (by kernel_rfl))
(Rq.free (by kernel_rfl)))))))
    (Eq.mp (by kernel_rfl) H)

def spec_l03Copy.S (x_0 : Addr) (Post : Value → Heap → Prop) (h : Heap) : Prop :=
    ALC ⟨Z_impl_String⟩ T_impl_String (fun g1 h2 =>
    LDA 6 h2 (Addr.add x_0 2) fun a3 =>
    LDA 6 h2 (Addr.add x_0 8) fun a4 =>
    oF .f32 (cell h2 (Addr.add x_0 14)) fun r5 =>
    CALL prg f_spec_l02Copy #[.pointer (some x_0)] (fun q6 h7 =>
    asA q6 fun a8 =>
    PIN h2 (Addr.add x_0 14) 1 h7 <|
    PIN h2 (Addr.add x_0 8) 6 h7 <|
    PIN h2 (Addr.add x_0 2) 6 h7 <|
    SIZ (Array.size a8) 2 <|
    SIZ (Array.size a3) 6 <|
    SIZ (Array.size a4) 6 <|
    STA 15 h7 ⟨g1, 0, none⟩ ⟨(List.set (splice 8 6 a4 (splice 2 6 a3 (splice 0 2 a8 [.slice none 0 0, .int .i64 (0 : Int), .int .i64 (0 : Int), .float .f32 0, .float .f32 0, .float .f32 0, .float .f32 0, .float .f32 0, .int .i64 (0 : Int), .float .f32 0, .float .f32 0, .float .f32 0, .float .f32 0, .float .f32 0, .float .f32 0]))) 14 (.float .f32 r5))⟩ fun h9 =>
    LDA 15 h9 ⟨g1, 0, none⟩ fun a10 =>
    Post (.agg a10) h9) h2) h
noncomputable def spec_l03Copy.code : Code := (Tryz.f224.body).getD .skip
theorem spec_l03Copy.call {x_0 : Addr} {Post : Value → Heap → Prop} {h : Heap} (H : spec_l03Copy.S x_0 Post h) : CALL prg f_spec_l03Copy #[.pointer (some x_0)] Post h :=
  fn_call tau_ok mixed (c := spec_l03Copy.code) (Λ := lookL []) Tryz.func224 (by kernel_rfl) (by kernel_rfl)
    (Rq.free (by kernel_rfl))
    (Eq.mp (by kernel_rfl) H)

def spec_l03Add.S (r_0 : Addr) (i_1 : Int) (a_2 : Nat) (Post : Value → Heap → Prop) (h : Heap) : Prop :=
    oI .i64 (cell h (Addr.add r_0 1)) fun n1 =>
    oL (cell h r_0) fun l2b l2l l2c =>
    NZ (l2l : Int) <|
    oL (cell h r_0) fun l5b l5l l5c =>
    oL (cell h r_0) fun l6b l6l l6c =>
    IDXS l6b ((Int.tmod (IntKind.i64.wrap (n1 + i_1)) (l2l : Int))) l6l fun p7 =>
    oF .f32 (cell h ((Addr.add p7 ((Int.toNat ((Int.tmod (IntKind.i64.wrap (n1 + i_1)) (l2l : Int)))) * 1)))) fun r8 =>
    FOP .f32 (FloatKind.f32.format.add r8 a_2) fun r9 =>
    PIN h r_0 1 h <|
    IDXS l5b ((Int.tmod (IntKind.i64.wrap (n1 + i_1)) (l2l : Int))) l5l fun p10 =>
    ST1 h ((Addr.add p10 ((Int.toNat ((Int.tmod (IntKind.i64.wrap (n1 + i_1)) (l2l : Int)))) * 1))) (.float .f32 r9) fun h11 =>
    Post (.tuple ⟨[]⟩) h11
noncomputable def spec_l03Add.code : Code := (Tryz.f225.body).getD .skip
theorem spec_l03Add.call {r_0 : Addr} {i_1 : Int} {a_2 : Nat} {Post : Value → Heap → Prop} {h : Heap} (H : spec_l03Add.S r_0 i_1 a_2 Post h) : CALL prg f_spec_l03Add #[.pointer (some r_0), .int .i64 i_1, .float .f32 a_2] Post h :=
  fn_call tau_ok mixed (c := spec_l03Add.code) (Λ := lookL []) Tryz.func225 (by kernel_rfl) (by kernel_rfl)
    (Rq.free (by kernel_rfl))
    (Eq.mp (by kernel_rfl) H)

def spec_PluckString.B9 (Post : Value → Heap → Prop) (N9 : (Nat × Addr × Addr × Addr × Nat × Nat × Int) → Heap → Prop) : Nat × Addr × Addr × Addr × Nat × Nat × Int → Heap → Prop
  | (force_2, x_3, t6, out_8, n_9, p_10, i_11), h =>
    oL (cell h x_3) fun l29b l29l l29c =>
    BIF ((decide (i_11 < (l29l : Int)))) (
    BIF (FloatKind.f32.format.order (FloatKind.f32.nearest i_11) p_10 == some .lt) (
    FOP .f32 (FloatKind.f32.format.div (FloatKind.f32.nearest i_11) p_10) fun r32 =>
    FOP .f32 (FloatKind.f32.format.mul force_2 r32) fun r33 =>
    CALL prg f_spec_l03Add #[.pointer (some out_8), .int .i64 i_11, .float .f32 r33] (fun q34 h35 =>
    N9 (force_2, x_3, t6, out_8, n_9, p_10, ((IntKind.i64.wrap (i_11 + (1 : Int))))) h35) h) (
    FOP .f32 (FloatKind.f32.format.sub n_9 (FloatKind.f32.nearest i_11)) fun r36 =>
    FOP .f32 (FloatKind.f32.format.sub n_9 p_10) fun r37 =>
    FOP .f32 (FloatKind.f32.format.div r36 r37) fun r38 =>
    FOP .f32 (FloatKind.f32.format.mul force_2 r38) fun r39 =>
    CALL prg f_spec_l03Add #[.pointer (some out_8), .int .i64 i_11, .float .f32 r39] (fun q40 h41 =>
    N9 (force_2, x_3, t6, out_8, n_9, p_10, ((IntKind.i64.wrap (i_11 + (1 : Int))))) h41) h)) (
    LDA 15 h out_8 fun a42 =>
    STA 15 h t6 a42 fun h43 =>
    LDA 15 h43 t6 fun a44 =>
    Post (.tuple ⟨[.agg a44, .int .i64 (0 : Int)]⟩) h43)
def spec_PluckString.g9 (fr : Frame) : Nat × Addr × Addr × Addr × Nat × Nat × Int := ((gF (lget fr 2)), (gP (lget fr 3)), (gP (lget fr 6)), (gP (lget fr 8)), (gF (lget fr 9)), (gF (lget fr 10)), (gI (lget fr 11)))
def spec_PluckString.l9 (Post : Value → Heap → Prop) : Frame → Heap → Prop := fun fr h => GRD (shape (kds 72 [(2, .f .f32), (3, .p), (6, .p), (8, .p), (9, .f .f32), (10, .f .f32), (11, .i .i64)]) fr) (LOOP (spec_PluckString.B9 Post) (spec_PluckString.g9 fr) h)
def spec_PluckString.J5 (Post : Value → Heap → Prop) (place_1 : Nat) (force_2 : Nat) (x_3 : Addr) (t6 : Addr) (h : Heap) : Prop :=
    CALL prg f_spec_l03Copy #[.pointer (some x_3)] (fun q19 h20 =>
    asA q19 fun a21 =>
    ALC ⟨Z_impl_String⟩ T_impl_String (fun g22 h23 =>
    STA 15 h23 ⟨g22, 0, none⟩ a21 fun h24 =>
    oL (cell h24 x_3) fun l25b l25l l25c =>
    FOP .f32 (FloatKind.f32.format.mul place_1 (FloatKind.f32.nearest (l25l : Int))) fun r28 =>
    LOOP (spec_PluckString.B9 Post) (force_2, x_3, t6, ⟨g22, 0, none⟩, (FloatKind.f32.nearest (l25l : Int)), r28, (0 : Int)) h24) h20) h
def spec_PluckString.j5 (Post : Value → Heap → Prop) : Frame → Heap → Prop := fun fr h => GRD (shape (kds 72 [(1, .f .f32), (2, .f .f32), (3, .p), (6, .p)]) fr) (spec_PluckString.J5 Post (gF (lget fr 1)) (gF (lget fr 2)) (gP (lget fr 3)) (gP (lget fr 6)) h)
def spec_PluckString.S (x_0 : Array Value) (place_1 : Nat) (force_2 : Nat) (Post : Value → Heap → Prop) (h : Heap) : Prop :=
    ALC x_0 T_impl_String (fun g1 h2 =>
    ALC ⟨Z_impl_String⟩ T_impl_String (fun g3 h4 =>
    CALL prg f_spec_l03Ok #[.pointer (some ⟨g1, 0, none⟩)] (fun q5 h6 =>
    asB q5 fun b7 =>
    BIF (!b7) (
    STA 15 h6 ⟨g3, 0, none⟩ (⟨[.slice none 0 0, .int .i64 (0 : Int), .int .i64 (0 : Int), .float .f32 0, .float .f32 0, .float .f32 0, .float .f32 0, .float .f32 0, .int .i64 (0 : Int), .float .f32 0, .float .f32 0, .float .f32 0, .float .f32 0, .float .f32 0, .float .f32 0]⟩ : Array Value) fun h8 =>
    LDA 15 h8 ⟨g3, 0, none⟩ fun a9 =>
    Post (.tuple ⟨[.agg a9, .int .i64 (1 : Int)]⟩) h8) (
    BIF (FloatKind.f32.format.order place_1 0 == some .gt || FloatKind.f32.format.order place_1 0 == some .eq) (
    BIF (!(FloatKind.f32.format.order place_1 1065353216 == some .lt)) (
    STA 15 h6 ⟨g3, 0, none⟩ (⟨[.slice none 0 0, .int .i64 (0 : Int), .int .i64 (0 : Int), .float .f32 0, .float .f32 0, .float .f32 0, .float .f32 0, .float .f32 0, .int .i64 (0 : Int), .float .f32 0, .float .f32 0, .float .f32 0, .float .f32 0, .float .f32 0, .float .f32 0]⟩ : Array Value) fun h10 =>
    LDA 15 h10 ⟨g3, 0, none⟩ fun a11 =>
    Post (.tuple ⟨[.agg a11, .int .i64 (2 : Int)]⟩) h10) (
    CALL prg f_spec_l01Finite #[.float .f32 force_2] (fun q12 h13 =>
    asB q12 fun b14 =>
    BIF (!b14) (
    STA 15 h13 ⟨g3, 0, none⟩ (⟨[.slice none 0 0, .int .i64 (0 : Int), .int .i64 (0 : Int), .float .f32 0, .float .f32 0, .float .f32 0, .float .f32 0, .float .f32 0, .int .i64 (0 : Int), .float .f32 0, .float .f32 0, .float .f32 0, .float .f32 0, .float .f32 0, .float .f32 0]⟩ : Array Value) fun h15 =>
    LDA 15 h15 ⟨g3, 0, none⟩ fun a16 =>
    Post (.tuple ⟨[.agg a16, .int .i64 (2 : Int)]⟩) h15) (
    spec_PluckString.J5 Post place_1 force_2 ⟨g1, 0, none⟩ ⟨g3, 0, none⟩ h13)) h6)) (
    STA 15 h6 ⟨g3, 0, none⟩ (⟨[.slice none 0 0, .int .i64 (0 : Int), .int .i64 (0 : Int), .float .f32 0, .float .f32 0, .float .f32 0, .float .f32 0, .float .f32 0, .int .i64 (0 : Int), .float .f32 0, .float .f32 0, .float .f32 0, .float .f32 0, .float .f32 0, .float .f32 0]⟩ : Array Value) fun h17 =>
    LDA 15 h17 ⟨g3, 0, none⟩ fun a18 =>
    Post (.tuple ⟨[.agg a18, .int .i64 (2 : Int)]⟩) h17))) h4) h2) h
noncomputable def spec_PluckString.code : Code := (Tryz.f160.body).getD .skip
theorem spec_PluckString.call {x_0 : Array Value} {place_1 : Nat} {force_2 : Nat} {Post : Value → Heap → Prop} {h : Heap} (H : spec_PluckString.S x_0 place_1 force_2 Post h) : CALL prg f_spec_PluckString #[.agg x_0, .float .f32 place_1, .float .f32 force_2] Post h :=
  fn_call tau_ok mixed (c := spec_PluckString.code) (Λ := lookL [(5, spec_PluckString.j5 Post), (1000009, spec_PluckString.l9 Post)]) Tryz.func160 (by kernel_rfl) (by kernel_rfl)
    (Rq.seq (by kernel_rfl) (Rq.free (by kernel_rfl)) (Rq.seq (by kernel_rfl) (Rq.free (by kernel_rfl)) (Rq.seqJ (spec_PluckString.j5 Post) (by kernel_rfl) (seg (fun _ _ => by kernel_rfl)) (Rq.free (by kernel_rfl))
(Rq.seq (by kernel_rfl) (Rq.free (by kernel_rfl)) (Rq.seq (by kernel_rfl) (Rq.free (by kernel_rfl)) (Rq.seq (by kernel_rfl) (Rq.free (by kernel_rfl)) (Rq.seq (by kernel_rfl) (Rq.seq (by kernel_rfl) (Rq.free (by kernel_rfl)) (Rq.block (Rq.loop (spec_PluckString.l9 Post) (by kernel_rfl) (segL (g := spec_PluckString.g9) tau_ok mixed (Λ := fun N9 => lookL []) (fun _ _ _ => by kernel_rfl) (fun N9 => (Rq.free (by kernel_rfl))))))) (Rq.free (by kernel_rfl)))))))))
    (Eq.mp (by kernel_rfl) H)

def spec_l09Floor.S (a_0 : Nat) (Post : Value → Heap → Prop) (h : Heap) : Prop :=
    BIF (!(FloatKind.f32.format.order a_0 1232348160 == some .lt || FloatKind.f32.format.order a_0 1232348160 == some .eq)) (
    Post (.int .i64 (1000000 : Int)) h) (
    FIC .f32 a_0 .i64 fun n1 =>
    Post (.int .i64 n1) h)
noncomputable def spec_l09Floor.code : Code := (Tryz.f162.body).getD .skip
theorem spec_l09Floor.call {a_0 : Nat} {Post : Value → Heap → Prop} {h : Heap} (H : spec_l09Floor.S a_0 Post h) : CALL prg f_spec_l09Floor #[.float .f32 a_0] Post h :=
  fn_call tau_ok mixed (c := spec_l09Floor.code) (Λ := lookL []) Tryz.func162 (by kernel_rfl) (by kernel_rfl)
    (Rq.free (by kernel_rfl))
    (Eq.mp (by kernel_rfl) H)

def spec_OnePole.S (keep_0 : Nat) (Post : Value → Heap → Prop) (h : Heap) : Prop :=
    ALC ⟨Z_impl_Filter⟩ T_impl_Filter (fun g1 h2 =>
    FOP .f32 (FloatKind.f32.format.sub 1065353216 keep_0) fun r3 =>
    SIZ (Array.size (⟨[.float .f32 r3, .float .f32 keep_0, .float .f32 0]⟩ : Array Value)) 3 <|
    STA 6 h2 ⟨g1, 0, none⟩ (⟨[.int .i64 (1 : Int), .float .f32 r3, .float .f32 keep_0, .float .f32 0, .float .f32 0, .float .f32 0]⟩ : Array Value) fun h4 =>
    LDA 6 h4 ⟨g1, 0, none⟩ fun a5 =>
    Post (.agg a5) h4) h
noncomputable def spec_OnePole.code : Code := (Tryz.f226.body).getD .skip
theorem spec_OnePole.call {keep_0 : Nat} {Post : Value → Heap → Prop} {h : Heap} (H : spec_OnePole.S keep_0 Post h) : CALL prg f_spec_OnePole #[.float .f32 keep_0] Post h :=
  fn_call tau_ok mixed (c := spec_OnePole.code) (Λ := lookL []) Tryz.func226 (by kernel_rfl) (by kernel_rfl)
    (Rq.free (by kernel_rfl))
    (Eq.mp (by kernel_rfl) H)

def spec_NewPipe.J5 (N3 : (Option Addr × Nat × Nat × Option Addr × Nat × Nat × Bool × Nat × Nat × Addr × Bool × Int) → Heap → Prop) (Post : Value → Heap → Prop) (lengths_0b : Option Addr) (lengths_0l : Nat) (lengths_0c : Nat) (scatter_1b : Option Addr) (scatter_1l : Nat) (scatter_1c : Nat) (open_2 : Bool) (keep_3 : Nat) (loss_4 : Nat) (t10 : Addr) (i_13 : Int) (h : Heap) : Prop :=
    IDXS lengths_0b i_13 lengths_0l fun p14 =>
    oI .i64 (cell h ((Addr.add p14 ((Int.toNat i_13) * 1)))) fun n15 =>
    CALL prg f_spec_l00In #[.int .i64 n15, .int .i64 (1 : Int), .int .i64 (1024 : Int)] (fun q16 h17 =>
    asB q16 fun b18 =>
    N3 (lengths_0b, lengths_0l, lengths_0c, scatter_1b, scatter_1l, scatter_1c, open_2, keep_3, loss_4, t10, b18, ((IntKind.i64.wrap (i_13 + (1 : Int))))) h17) h
def spec_NewPipe.j5 (N3 : (Option Addr × Nat × Nat × Option Addr × Nat × Nat × Bool × Nat × Nat × Addr × Bool × Int) → Heap → Prop) (Post : Value → Heap → Prop) : Frame → Heap → Prop := fun fr h => GRD (shape (kds 119 [(0, .l), (1, .l), (2, .b), (3, .f .f32), (4, .f .f32), (10, .p), (13, .i .i64)]) fr) (spec_NewPipe.J5 N3 Post (gLb (lget fr 0)) (gLl (lget fr 0)) (gLc (lget fr 0)) (gLb (lget fr 1)) (gLl (lget fr 1)) (gLc (lget fr 1)) (gB (lget fr 2)) (gF (lget fr 3)) (gF (lget fr 4)) (gP (lget fr 10)) (gI (lget fr 13)) h)
def spec_NewPipe.J9 (N7 : (Option Addr × Nat × Nat × Option Addr × Nat × Nat × Bool × Nat × Nat × Addr × Bool × Int) → Heap → Prop) (Post : Value → Heap → Prop) (lengths_0b : Option Addr) (lengths_0l : Nat) (lengths_0c : Nat) (scatter_1b : Option Addr) (scatter_1l : Nat) (scatter_1c : Nat) (open_2 : Bool) (keep_3 : Nat) (loss_4 : Nat) (t10 : Addr) (i_14 : Int) (h : Heap) : Prop :=
    IDXS scatter_1b i_14 scatter_1l fun p47 =>
    oF .f32 (cell h ((Addr.add p47 ((Int.toNat i_14) * 1)))) fun r48 =>
    BIF (FloatKind.f32.format.order r48 3212836864 == some .gt || FloatKind.f32.format.order r48 3212836864 == some .eq) (
    IDXS scatter_1b i_14 scatter_1l fun p49 =>
    oF .f32 (cell h ((Addr.add p49 ((Int.toNat i_14) * 1)))) fun r50 =>
    N7 (lengths_0b, lengths_0l, lengths_0c, scatter_1b, scatter_1l, scatter_1c, open_2, keep_3, loss_4, t10, (FloatKind.f32.format.order r50 1065353216 == some .lt || FloatKind.f32.format.order r50 1065353216 == some .eq), ((IntKind.i64.wrap (i_14 + (1 : Int))))) h) (
    N7 (lengths_0b, lengths_0l, lengths_0c, scatter_1b, scatter_1l, scatter_1c, open_2, keep_3, loss_4, t10, false, ((IntKind.i64.wrap (i_14 + (1 : Int))))) h)
def spec_NewPipe.j9 (N7 : (Option Addr × Nat × Nat × Option Addr × Nat × Nat × Bool × Nat × Nat × Addr × Bool × Int) → Heap → Prop) (Post : Value → Heap → Prop) : Frame → Heap → Prop := fun fr h => GRD (shape (kds 119 [(0, .l), (1, .l), (2, .b), (3, .f .f32), (4, .f .f32), (10, .p), (14, .i .i64)]) fr) (spec_NewPipe.J9 N7 Post (gLb (lget fr 0)) (gLl (lget fr 0)) (gLc (lget fr 0)) (gLb (lget fr 1)) (gLl (lget fr 1)) (gLc (lget fr 1)) (gB (lget fr 2)) (gF (lget fr 3)) (gF (lget fr 4)) (gP (lget fr 10)) (gI (lget fr 14)) h)
def spec_NewPipe.B14 (Post : Value → Heap → Prop) (N14 : (Option Addr × Nat × Nat × Addr × Addr × Int) → Heap → Prop) : Option Addr × Nat × Nat × Addr × Addr × Int → Heap → Prop
  | (lengths_0b, lengths_0l, lengths_0c, t10, x_15, i_16), h =>
    BIF ((decide (i_16 < (lengths_0l : Int)))) (
    oL (cell h x_15) fun l53b l53l l53c =>
    IDXS lengths_0b i_16 lengths_0l fun p54 =>
    oI .i64 (cell h ((Addr.add p54 ((Int.toNat i_16) * 1)))) fun n55 =>
    MKS ti_float32 T_float32 n55 n55 (fun g56 h57 =>
    PIN h x_15 1 h57 <|
    SIZ (Array.size (⟨[.slice (some ⟨g56, 0, none⟩) (Int.toNat n55) (Int.toNat n55), .int .i64 (0 : Int)]⟩ : Array Value)) 2 <|
    ALC ⟨[.slice (some ⟨g56, 0, none⟩) (Int.toNat n55) (Int.toNat n55), .int .i64 (0 : Int)]⟩ T_impl_Ring (fun g58 h59 =>
    PIN h x_15 1 h59 <|
    SEMV prg (Builtin.append_ #[T_sl_impl_Ring, T_sl_impl_Ring] T_sl_impl_Ring #[.slice l53b l53l l53c, .slice (some ⟨g58, 0, none⟩) 1 1]) (fun q60 h61 =>
    asL q60 fun l62b l62l l62c =>
    ST1 h61 x_15 (.slice l62b l62l l62c) fun h63 =>
    oL (cell h63 (Addr.add x_15 1)) fun l64b l64l l64c =>
    IDXS lengths_0b i_16 lengths_0l fun p65 =>
    oI .i64 (cell h63 ((Addr.add p65 ((Int.toNat i_16) * 1)))) fun n66 =>
    MKS ti_float32 T_float32 n66 n66 (fun g67 h68 =>
    PIN h63 (Addr.add x_15 1) 1 h68 <|
    SIZ (Array.size (⟨[.slice (some ⟨g67, 0, none⟩) (Int.toNat n66) (Int.toNat n66), .int .i64 (0 : Int)]⟩ : Array Value)) 2 <|
    ALC ⟨[.slice (some ⟨g67, 0, none⟩) (Int.toNat n66) (Int.toNat n66), .int .i64 (0 : Int)]⟩ T_impl_Ring (fun g69 h70 =>
    PIN h63 (Addr.add x_15 1) 1 h70 <|
    SEMV prg (Builtin.append_ #[T_sl_impl_Ring, T_sl_impl_Ring] T_sl_impl_Ring #[.slice l64b l64l l64c, .slice (some ⟨g69, 0, none⟩) 1 1]) (fun q71 h72 =>
    asL q71 fun l73b l73l l73c =>
    ST1 h72 (Addr.add x_15 1) (.slice l73b l73l l73c) fun h74 =>
    N14 (lengths_0b, lengths_0l, lengths_0c, t10, x_15, ((IntKind.i64.wrap (i_16 + (1 : Int))))) h74) h70) h68) h63) h59) h57) h) (
    LDA 13 h x_15 fun a75 =>
    STA 13 h t10 a75 fun h76 =>
    LDA 13 h76 t10 fun a77 =>
    Post (.tuple ⟨[.agg a77, .int .i64 (0 : Int)]⟩) h76)
def spec_NewPipe.g14 (fr : Frame) : Option Addr × Nat × Nat × Addr × Addr × Int := ((gLb (lget fr 0)), (gLl (lget fr 0)), (gLc (lget fr 0)), (gP (lget fr 10)), (gP (lget fr 15)), (gI (lget fr 16)))
def spec_NewPipe.l14 (Post : Value → Heap → Prop) : Frame → Heap → Prop := fun fr h => GRD (shape (kds 119 [(0, .l), (10, .p), (15, .p), (16, .i .i64)]) fr) (LOOP (spec_NewPipe.B14 Post) (spec_NewPipe.g14 fr) h)
def spec_NewPipe.B7 (Post : Value → Heap → Prop) (N7 : (Option Addr × Nat × Nat × Option Addr × Nat × Nat × Bool × Nat × Nat × Addr × Bool × Int) → Heap → Prop) : Option Addr × Nat × Nat × Option Addr × Nat × Nat × Bool × Nat × Nat × Addr × Bool × Int → Heap → Prop
  | (lengths_0b, lengths_0l, lengths_0c, scatter_1b, scatter_1l, scatter_1c, open_2, keep_3, loss_4, t10, ok_12, i_14), h =>
    BIF ((decide (i_14 < (scatter_1l : Int)))) (
    BIF ok_12 (
    spec_NewPipe.J9 N7 Post lengths_0b lengths_0l lengths_0c scatter_1b scatter_1l scatter_1c open_2 keep_3 loss_4 t10 i_14 h) (
    BIF (!ok_12) (
    STA 13 h t10 (⟨[.slice none 0 0, .slice none 0 0, .slice none 0 0, .int .i64 (0 : Int), .float .f32 0, .float .f32 0, .float .f32 0, .float .f32 0, .float .f32 0, .bool false, .float .f32 0, .float .f32 0, .float .f32 0]⟩ : Array Value) fun h21 =>
    LDA 13 h21 t10 fun a22 =>
    Post (.tuple ⟨[.agg a22, .int .i64 (2 : Int)]⟩) h21) (
    ALC ⟨[]⟩ T_float32 (fun g23 h24 =>
    SEMV prg (Builtin.append_ #[T_sl_float32, T_sl_float32] T_sl_float32 #[.slice (some ⟨g23, 0, none⟩) 0 0, .slice scatter_1b scatter_1l scatter_1c]) (fun q25 h26 =>
    asL q25 fun l27b l27l l27c =>
    CALL prg f_spec_OnePole #[.float .f32 keep_3] (fun q28 h29 =>
    asA q28 fun a30 =>
    SIZ (Array.size a30) 6 <|
    ALC ⟨Z_impl_Pipe⟩ T_impl_Pipe (fun g31 h32 =>
    STA 13 h32 ⟨g31, 0, none⟩ ⟨(List.set (List.set (List.set (List.set (splice 3 6 a30 [.slice none 0 0, .slice none 0 0, .slice l27b l27l l27c, .int .i64 (0 : Int), .float .f32 0, .float .f32 0, .float .f32 0, .float .f32 0, .float .f32 0, .bool false, .float .f32 0, .float .f32 0, .float .f32 0]) 9 (.bool open_2)) 10 (.float .f32 loss_4)) 11 (.float .f32 1061158912)) 12 (.float .f32 3200253952))⟩ fun h33 =>
    LOOP (spec_NewPipe.B14 Post) (lengths_0b, lengths_0l, lengths_0c, t10, ⟨g31, 0, none⟩, (0 : Int)) h33) h29) h26) h24) h))) (
    BIF (!ok_12) (
    STA 13 h t10 (⟨[.slice none 0 0, .slice none 0 0, .slice none 0 0, .int .i64 (0 : Int), .float .f32 0, .float .f32 0, .float .f32 0, .float .f32 0, .float .f32 0, .bool false, .float .f32 0, .float .f32 0, .float .f32 0]⟩ : Array Value) fun h34 =>
    LDA 13 h34 t10 fun a35 =>
    Post (.tuple ⟨[.agg a35, .int .i64 (2 : Int)]⟩) h34) (
    ALC ⟨[]⟩ T_float32 (fun g36 h37 =>
    SEMV prg (Builtin.append_ #[T_sl_float32, T_sl_float32] T_sl_float32 #[.slice (some ⟨g36, 0, none⟩) 0 0, .slice scatter_1b scatter_1l scatter_1c]) (fun q38 h39 =>
    asL q38 fun l40b l40l l40c =>
    CALL prg f_spec_OnePole #[.float .f32 keep_3] (fun q41 h42 =>
    asA q41 fun a43 =>
    SIZ (Array.size a43) 6 <|
    ALC ⟨Z_impl_Pipe⟩ T_impl_Pipe (fun g44 h45 =>
    STA 13 h45 ⟨g44, 0, none⟩ ⟨(List.set (List.set (List.set (List.set (splice 3 6 a43 [.slice none 0 0, .slice none 0 0, .slice l40b l40l l40c, .int .i64 (0 : Int), .float .f32 0, .float .f32 0, .float .f32 0, .float .f32 0, .float .f32 0, .bool false, .float .f32 0, .float .f32 0, .float .f32 0]) 9 (.bool open_2)) 10 (.float .f32 loss_4)) 11 (.float .f32 1061158912)) 12 (.float .f32 3200253952))⟩ fun h46 =>
    LOOP (spec_NewPipe.B14 Post) (lengths_0b, lengths_0l, lengths_0c, t10, ⟨g44, 0, none⟩, (0 : Int)) h46) h42) h39) h37) h))
def spec_NewPipe.g7 (fr : Frame) : Option Addr × Nat × Nat × Option Addr × Nat × Nat × Bool × Nat × Nat × Addr × Bool × Int := ((gLb (lget fr 0)), (gLl (lget fr 0)), (gLc (lget fr 0)), (gLb (lget fr 1)), (gLl (lget fr 1)), (gLc (lget fr 1)), (gB (lget fr 2)), (gF (lget fr 3)), (gF (lget fr 4)), (gP (lget fr 10)), (gB (lget fr 12)), (gI (lget fr 14)))
def spec_NewPipe.l7 (Post : Value → Heap → Prop) : Frame → Heap → Prop := fun fr h => GRD (shape (kds 119 [(0, .l), (1, .l), (2, .b), (3, .f .f32), (4, .f .f32), (10, .p), (12, .b), (14, .i .i64)]) fr) (LOOP (spec_NewPipe.B7 Post) (spec_NewPipe.g7 fr) h)
def spec_NewPipe.B3 (Post : Value → Heap → Prop) (N3 : (Option Addr × Nat × Nat × Option Addr × Nat × Nat × Bool × Nat × Nat × Addr × Bool × Int) → Heap → Prop) : Option Addr × Nat × Nat × Option Addr × Nat × Nat × Bool × Nat × Nat × Addr × Bool × Int → Heap → Prop
  | (lengths_0b, lengths_0l, lengths_0c, scatter_1b, scatter_1l, scatter_1c, open_2, keep_3, loss_4, t10, ok_12, i_13), h =>
    BIF ((decide (i_13 < (lengths_0l : Int)))) (
    BIF ok_12 (
    spec_NewPipe.J5 N3 Post lengths_0b lengths_0l lengths_0c scatter_1b scatter_1l scatter_1c open_2 keep_3 loss_4 t10 i_13 h) (
    LOOP (spec_NewPipe.B7 Post) (lengths_0b, lengths_0l, lengths_0c, scatter_1b, scatter_1l, scatter_1c, open_2, keep_3, loss_4, t10, ok_12, (0 : Int)) h)) (
    LOOP (spec_NewPipe.B7 Post) (lengths_0b, lengths_0l, lengths_0c, scatter_1b, scatter_1l, scatter_1c, open_2, keep_3, loss_4, t10, ok_12, (0 : Int)) h)
def spec_NewPipe.g3 (fr : Frame) : Option Addr × Nat × Nat × Option Addr × Nat × Nat × Bool × Nat × Nat × Addr × Bool × Int := ((gLb (lget fr 0)), (gLl (lget fr 0)), (gLc (lget fr 0)), (gLb (lget fr 1)), (gLl (lget fr 1)), (gLc (lget fr 1)), (gB (lget fr 2)), (gF (lget fr 3)), (gF (lget fr 4)), (gP (lget fr 10)), (gB (lget fr 12)), (gI (lget fr 13)))
def spec_NewPipe.l3 (Post : Value → Heap → Prop) : Frame → Heap → Prop := fun fr h => GRD (shape (kds 119 [(0, .l), (1, .l), (2, .b), (3, .f .f32), (4, .f .f32), (10, .p), (12, .b), (13, .i .i64)]) fr) (LOOP (spec_NewPipe.B3 Post) (spec_NewPipe.g3 fr) h)
def spec_NewPipe.J2 (Post : Value → Heap → Prop) (lengths_0b : Option Addr) (lengths_0l : Nat) (lengths_0c : Nat) (scatter_1b : Option Addr) (scatter_1l : Nat) (scatter_1c : Nat) (open_2 : Bool) (keep_3 : Nat) (loss_4 : Nat) (t10 : Addr) (ok_12 : Bool) (h : Heap) : Prop :=
    LOOP (spec_NewPipe.B3 Post) (lengths_0b, lengths_0l, lengths_0c, scatter_1b, scatter_1l, scatter_1c, open_2, keep_3, loss_4, t10, ok_12, (0 : Int)) h
def spec_NewPipe.j2 (Post : Value → Heap → Prop) : Frame → Heap → Prop := fun fr h => GRD (shape (kds 119 [(0, .l), (1, .l), (2, .b), (3, .f .f32), (4, .f .f32), (10, .p), (12, .b)]) fr) (spec_NewPipe.J2 Post (gLb (lget fr 0)) (gLl (lget fr 0)) (gLc (lget fr 0)) (gLb (lget fr 1)) (gLl (lget fr 1)) (gLc (lget fr 1)) (gB (lget fr 2)) (gF (lget fr 3)) (gF (lget fr 4)) (gP (lget fr 10)) (gB (lget fr 12)) h)
def spec_NewPipe.S (lengths_0b : Option Addr) (lengths_0l lengths_0c : Nat) (scatter_1b : Option Addr) (scatter_1l scatter_1c : Nat) (open_2 : Bool) (keep_3 : Nat) (loss_4 : Nat) (Post : Value → Heap → Prop) (h : Heap) : Prop :=
    ALC ⟨Z_impl_Pipe⟩ T_impl_Pipe (fun g1 h2 =>
    CALL prg f_spec_l00In #[.int .i64 (lengths_0l : Int), .int .i64 (1 : Int), .int .i64 (3 : Int)] (fun q5 h6 =>
    asB q5 fun b7 =>
    BIF b7 (
    BIF (((scatter_1l : Int) == (IntKind.i64.wrap ((lengths_0l : Int) - (1 : Int))))) (
    BIF (FloatKind.f32.format.order keep_3 0 == some .gt || FloatKind.f32.format.order keep_3 0 == some .eq) (
    BIF (FloatKind.f32.format.order keep_3 1065353216 == some .lt) (
    BIF (FloatKind.f32.format.order loss_4 0 == some .gt || FloatKind.f32.format.order loss_4 0 == some .eq) (
    spec_NewPipe.J2 Post lengths_0b lengths_0l lengths_0c scatter_1b scatter_1l scatter_1c open_2 keep_3 loss_4 ⟨g1, 0, none⟩ (FloatKind.f32.format.order loss_4 1065353216 == some .lt || FloatKind.f32.format.order loss_4 1065353216 == some .eq) h6) (
    spec_NewPipe.J2 Post lengths_0b lengths_0l lengths_0c scatter_1b scatter_1l scatter_1c open_2 keep_3 loss_4 ⟨g1, 0, none⟩ false h6)) (
    spec_NewPipe.J2 Post lengths_0b lengths_0l lengths_0c scatter_1b scatter_1l scatter_1c open_2 keep_3 loss_4 ⟨g1, 0, none⟩ false h6)) (
    spec_NewPipe.J2 Post lengths_0b lengths_0l lengths_0c scatter_1b scatter_1l scatter_1c open_2 keep_3 loss_4 ⟨g1, 0, none⟩ false h6)) (
    spec_NewPipe.J2 Post lengths_0b lengths_0l lengths_0c scatter_1b scatter_1l scatter_1c open_2 keep_3 loss_4 ⟨g1, 0, none⟩ false h6)) (
    spec_NewPipe.J2 Post lengths_0b lengths_0l lengths_0c scatter_1b scatter_1l scatter_1c open_2 keep_3 loss_4 ⟨g1, 0, none⟩ false h6)) h2) h
noncomputable def spec_NewPipe.code : Code := (Tryz.f161.body).getD .skip
theorem spec_NewPipe.call {lengths_0b : Option Addr} {lengths_0l lengths_0c : Nat} {scatter_1b : Option Addr} {scatter_1l scatter_1c : Nat} {open_2 : Bool} {keep_3 : Nat} {loss_4 : Nat} {Post : Value → Heap → Prop} {h : Heap} (H : spec_NewPipe.S lengths_0b lengths_0l lengths_0c scatter_1b scatter_1l scatter_1c open_2 keep_3 loss_4 Post h) : CALL prg f_spec_NewPipe #[.slice lengths_0b lengths_0l lengths_0c, .slice scatter_1b scatter_1l scatter_1c, .bool open_2, .float .f32 keep_3, .float .f32 loss_4] Post h :=
  fn_call tau_ok mixed (c := spec_NewPipe.code) (Λ := lookL [(2, spec_NewPipe.j2 Post), (1000003, spec_NewPipe.l3 Post), (1000007, spec_NewPipe.l7 Post), (1000014, spec_NewPipe.l14 Post)]) Tryz.func161 (by kernel_rfl) (by kernel_rfl)
    (Rq.seq (by kernel_rfl) (Rq.free (by kernel_rfl)) (Rq.seqJ (spec_NewPipe.j2 Post) (by kernel_rfl) (seg (fun _ _ => by kernel_rfl)) (Rq.free (by kernel_rfl))
(Rq.seq (by kernel_rfl) (Rq.seq (by kernel_rfl) (Rq.free (by kernel_rfl)) (Rq.block (Rq.loop (spec_NewPipe.l3 Post) (by kernel_rfl) (segL (g := spec_NewPipe.g3) tau_ok mixed (Λ := fun N3 => lookL [(5, spec_NewPipe.j5 N3 Post)]) (fun _ _ _ => by kernel_rfl) (fun N3 => (Rq.seqJ (spec_NewPipe.j5 N3 Post) (by kernel_rfl) (seg (fun _ _ => by kernel_rfl)) (Rq.free (by kernel_rfl))
(Rq.free (by kernel_rfl)))))))) (Rq.seq (by kernel_rfl) (Rq.seq (by kernel_rfl) (Rq.free (by kernel_rfl)) (Rq.block (Rq.loop (spec_NewPipe.l7 Post) (by kernel_rfl) (segL (g := spec_NewPipe.g7) tau_ok mixed (Λ := fun N7 => lookL [(9, spec_NewPipe.j9 N7 Post)]) (fun _ _ _ => by kernel_rfl) (fun N7 => (Rq.seqJ (spec_NewPipe.j9 N7 Post) (by kernel_rfl) (seg (fun _ _ => by kernel_rfl)) (Rq.free (by kernel_rfl))
(Rq.free (by kernel_rfl)))))))) (Rq.seq (by kernel_rfl) (Rq.free (by kernel_rfl)) (Rq.seq (by kernel_rfl) (Rq.free (by kernel_rfl)) (Rq.seq (by kernel_rfl) (Rq.seq (by kernel_rfl) (Rq.free (by kernel_rfl)) (Rq.block (Rq.loop (spec_NewPipe.l14 Post) (by kernel_rfl) (segL (g := spec_NewPipe.g14) tau_ok mixed (Λ := fun N14 => lookL []) (fun _ _ _ => by kernel_rfl) (fun N14 => (Rq.free (by kernel_rfl))))))) (Rq.free (by kernel_rfl)))))))))
    (Eq.mp (by kernel_rfl) H)

def spec_l00Min.S (a_0 : Int) (b_1 : Int) (Post : Value → Heap → Prop) (h : Heap) : Prop :=
    BIF (decide (a_0 < b_1)) (
    Post (.int .i64 a_0) h) (
    Post (.int .i64 b_1) h)
noncomputable def spec_l00Min.code : Code := (Tryz.f229.body).getD .skip
theorem spec_l00Min.call {a_0 : Int} {b_1 : Int} {Post : Value → Heap → Prop} {h : Heap} (H : spec_l00Min.S a_0 b_1 Post h) : CALL prg f_spec_l00Min #[.int .i64 a_0, .int .i64 b_1] Post h :=
  fn_call tau_ok mixed (c := spec_l00Min.code) (Λ := lookL []) Tryz.func229 (by kernel_rfl) (by kernel_rfl)
    (Rq.free (by kernel_rfl))
    (Eq.mp (by kernel_rfl) H)

def spec_l00Max.S (a_0 : Int) (b_1 : Int) (Post : Value → Heap → Prop) (h : Heap) : Prop :=
    BIF (decide (b_1 < a_0)) (
    Post (.int .i64 a_0) h) (
    Post (.int .i64 b_1) h)
noncomputable def spec_l00Max.code : Code := (Tryz.f228.body).getD .skip
theorem spec_l00Max.call {a_0 : Int} {b_1 : Int} {Post : Value → Heap → Prop} {h : Heap} (H : spec_l00Max.S a_0 b_1 Post h) : CALL prg f_spec_l00Max #[.int .i64 a_0, .int .i64 b_1] Post h :=
  fn_call tau_ok mixed (c := spec_l00Max.code) (Λ := lookL []) Tryz.func228 (by kernel_rfl) (by kernel_rfl)
    (Rq.free (by kernel_rfl))
    (Eq.mp (by kernel_rfl) H)

def spec_NewBow.J3 (Post : Value → Heap → Prop) (period_0 : Int) (place_1 : Nat) (keep_2 : Nat) (loss_3 : Nat) (slope_4 : Nat) (t10 : Addr) (h : Heap) : Prop :=
    FOP .f32 (FloatKind.f32.format.mul place_1 (FloatKind.f32.nearest period_0)) fun r25 =>
    FFC .f32 r25 .f64 fun r26 =>
    CALL prg f_math_Floor #[.float .f64 r26] (fun q27 h28 =>
    asF .f64 q27 fun r29 =>
    FIC .f64 r29 .i64 fun n30 =>
    CALL prg f_spec_l00Min #[.int .i64 ((IntKind.i64.wrap (period_0 - (1 : Int)))), .int .i64 n30] (fun q31 h32 =>
    asI .i64 q31 fun n33 =>
    CALL prg f_spec_l00Max #[.int .i64 (1 : Int), .int .i64 n33] (fun q34 h35 =>
    asI .i64 q34 fun n36 =>
    (MKS ti_float32 T_float32 (IntKind.i64.wrap (period_0 - n36)) (IntKind.i64.wrap (period_0 - n36)) (fun g37 h38 =>
    (MKS ti_float32 T_float32 n36 n36 (fun g39 h40 =>
    CALL prg f_spec_OnePole #[.float .f32 keep_2] (fun q41 h42 =>
    asA q41 fun a43 =>
    SIZ (Array.size (⟨[.slice (some ⟨g37, 0, none⟩) ((Int.toNat (IntKind.i64.wrap (period_0 - n36)))) ((Int.toNat (IntKind.i64.wrap (period_0 - n36)))), .int .i64 (0 : Int)]⟩ : Array Value)) 2 <|
    SIZ (Array.size (⟨[.slice (some ⟨g39, 0, none⟩) (Int.toNat n36) (Int.toNat n36), .int .i64 (0 : Int)]⟩ : Array Value)) 2 <|
    SIZ (Array.size a43) 6 <|
    STA 12 h42 t10 (⟨(List.set (List.set (splice 4 6 a43 [.slice (some ⟨g37, 0, none⟩) ((Int.toNat (IntKind.i64.wrap (period_0 - n36)))) ((Int.toNat (IntKind.i64.wrap (period_0 - n36)))), .int .i64 (0 : Int), .slice (some ⟨g39, 0, none⟩) (Int.toNat n36) (Int.toNat n36), .int .i64 (0 : Int), .int .i64 (0 : Int), .float .f32 0, .float .f32 0, .float .f32 0, .float .f32 0, .float .f32 0, .float .f32 0, .float .f32 0]) 10 (.float .f32 slope_4)) 11 (.float .f32 loss_3))⟩) fun h44 =>
    LDA 12 h44 t10 fun a45 =>
    Post (.tuple ⟨[.agg a45, .int .i64 (0 : Int)]⟩) h44) h40) h38) ∧ (CALL prg f_spec_OnePole #[.float .f32 keep_2] (fun q46 h47 =>
    asA q46 fun a48 =>
    MKS ti_float32 T_float32 n36 n36 (fun g49 h50 =>
    SIZ (Array.size (⟨[.slice (some ⟨g37, 0, none⟩) ((Int.toNat (IntKind.i64.wrap (period_0 - n36)))) ((Int.toNat (IntKind.i64.wrap (period_0 - n36)))), .int .i64 (0 : Int)]⟩ : Array Value)) 2 <|
    SIZ (Array.size (⟨[.slice (some ⟨g49, 0, none⟩) (Int.toNat n36) (Int.toNat n36), .int .i64 (0 : Int)]⟩ : Array Value)) 2 <|
    SIZ (Array.size a48) 6 <|
    STA 12 h50 t10 (⟨(List.set (List.set (splice 4 6 a48 [.slice (some ⟨g37, 0, none⟩) ((Int.toNat (IntKind.i64.wrap (period_0 - n36)))) ((Int.toNat (IntKind.i64.wrap (period_0 - n36)))), .int .i64 (0 : Int), .slice (some ⟨g49, 0, none⟩) (Int.toNat n36) (Int.toNat n36), .int .i64 (0 : Int), .int .i64 (0 : Int), .float .f32 0, .float .f32 0, .float .f32 0, .float .f32 0, .float .f32 0, .float .f32 0, .float .f32 0]) 10 (.float .f32 slope_4)) 11 (.float .f32 loss_3))⟩) fun h51 =>
    LDA 12 h51 t10 fun a52 =>
    Post (.tuple ⟨[.agg a52, .int .i64 (0 : Int)]⟩) h51) h47) h38)) h35) ∧ ((MKS ti_float32 T_float32 n36 n36 (fun g53 h54 =>
    (MKS ti_float32 T_float32 (IntKind.i64.wrap (period_0 - n36)) (IntKind.i64.wrap (period_0 - n36)) (fun g55 h56 =>
    CALL prg f_spec_OnePole #[.float .f32 keep_2] (fun q57 h58 =>
    asA q57 fun a59 =>
    SIZ (Array.size (⟨[.slice (some ⟨g55, 0, none⟩) ((Int.toNat (IntKind.i64.wrap (period_0 - n36)))) ((Int.toNat (IntKind.i64.wrap (period_0 - n36)))), .int .i64 (0 : Int)]⟩ : Array Value)) 2 <|
    SIZ (Array.size (⟨[.slice (some ⟨g53, 0, none⟩) (Int.toNat n36) (Int.toNat n36), .int .i64 (0 : Int)]⟩ : Array Value)) 2 <|
    SIZ (Array.size a59) 6 <|
    STA 12 h58 t10 (⟨(List.set (List.set (splice 4 6 a59 [.slice (some ⟨g55, 0, none⟩) ((Int.toNat (IntKind.i64.wrap (period_0 - n36)))) ((Int.toNat (IntKind.i64.wrap (period_0 - n36)))), .int .i64 (0 : Int), .slice (some ⟨g53, 0, none⟩) (Int.toNat n36) (Int.toNat n36), .int .i64 (0 : Int), .int .i64 (0 : Int), .float .f32 0, .float .f32 0, .float .f32 0, .float .f32 0, .float .f32 0, .float .f32 0, .float .f32 0]) 10 (.float .f32 slope_4)) 11 (.float .f32 loss_3))⟩) fun h60 =>
    LDA 12 h60 t10 fun a61 =>
    Post (.tuple ⟨[.agg a61, .int .i64 (0 : Int)]⟩) h60) h56) h54) ∧ (CALL prg f_spec_OnePole #[.float .f32 keep_2] (fun q62 h63 =>
    asA q62 fun a64 =>
    MKS ti_float32 T_float32 (IntKind.i64.wrap (period_0 - n36)) (IntKind.i64.wrap (period_0 - n36)) (fun g65 h66 =>
    SIZ (Array.size (⟨[.slice (some ⟨g65, 0, none⟩) ((Int.toNat (IntKind.i64.wrap (period_0 - n36)))) ((Int.toNat (IntKind.i64.wrap (period_0 - n36)))), .int .i64 (0 : Int)]⟩ : Array Value)) 2 <|
    SIZ (Array.size (⟨[.slice (some ⟨g53, 0, none⟩) (Int.toNat n36) (Int.toNat n36), .int .i64 (0 : Int)]⟩ : Array Value)) 2 <|
    SIZ (Array.size a64) 6 <|
    STA 12 h66 t10 (⟨(List.set (List.set (splice 4 6 a64 [.slice (some ⟨g65, 0, none⟩) ((Int.toNat (IntKind.i64.wrap (period_0 - n36)))) ((Int.toNat (IntKind.i64.wrap (period_0 - n36)))), .int .i64 (0 : Int), .slice (some ⟨g53, 0, none⟩) (Int.toNat n36) (Int.toNat n36), .int .i64 (0 : Int), .int .i64 (0 : Int), .float .f32 0, .float .f32 0, .float .f32 0, .float .f32 0, .float .f32 0, .float .f32 0, .float .f32 0]) 10 (.float .f32 slope_4)) 11 (.float .f32 loss_3))⟩) fun h67 =>
    LDA 12 h67 t10 fun a68 =>
    Post (.tuple ⟨[.agg a68, .int .i64 (0 : Int)]⟩) h67) h63) h54)) h35) ∧ (CALL prg f_spec_OnePole #[.float .f32 keep_2] (fun q69 h70 =>
    asA q69 fun a71 =>
    (MKS ti_float32 T_float32 (IntKind.i64.wrap (period_0 - n36)) (IntKind.i64.wrap (period_0 - n36)) (fun g72 h73 =>
    MKS ti_float32 T_float32 n36 n36 (fun g74 h75 =>
    SIZ (Array.size (⟨[.slice (some ⟨g72, 0, none⟩) ((Int.toNat (IntKind.i64.wrap (period_0 - n36)))) ((Int.toNat (IntKind.i64.wrap (period_0 - n36)))), .int .i64 (0 : Int)]⟩ : Array Value)) 2 <|
    SIZ (Array.size (⟨[.slice (some ⟨g74, 0, none⟩) (Int.toNat n36) (Int.toNat n36), .int .i64 (0 : Int)]⟩ : Array Value)) 2 <|
    SIZ (Array.size a71) 6 <|
    STA 12 h75 t10 (⟨(List.set (List.set (splice 4 6 a71 [.slice (some ⟨g72, 0, none⟩) ((Int.toNat (IntKind.i64.wrap (period_0 - n36)))) ((Int.toNat (IntKind.i64.wrap (period_0 - n36)))), .int .i64 (0 : Int), .slice (some ⟨g74, 0, none⟩) (Int.toNat n36) (Int.toNat n36), .int .i64 (0 : Int), .int .i64 (0 : Int), .float .f32 0, .float .f32 0, .float .f32 0, .float .f32 0, .float .f32 0, .float .f32 0, .float .f32 0]) 10 (.float .f32 slope_4)) 11 (.float .f32 loss_3))⟩) fun h76 =>
    LDA 12 h76 t10 fun a77 =>
    Post (.tuple ⟨[.agg a77, .int .i64 (0 : Int)]⟩) h76) h73) h70) ∧ (MKS ti_float32 T_float32 n36 n36 (fun g78 h79 =>
    MKS ti_float32 T_float32 (IntKind.i64.wrap (period_0 - n36)) (IntKind.i64.wrap (period_0 - n36)) (fun g80 h81 =>
    SIZ (Array.size (⟨[.slice (some ⟨g80, 0, none⟩) ((Int.toNat (IntKind.i64.wrap (period_0 - n36)))) ((Int.toNat (IntKind.i64.wrap (period_0 - n36)))), .int .i64 (0 : Int)]⟩ : Array Value)) 2 <|
    SIZ (Array.size (⟨[.slice (some ⟨g78, 0, none⟩) (Int.toNat n36) (Int.toNat n36), .int .i64 (0 : Int)]⟩ : Array Value)) 2 <|
    SIZ (Array.size a71) 6 <|
    STA 12 h81 t10 (⟨(List.set (List.set (splice 4 6 a71 [.slice (some ⟨g80, 0, none⟩) ((Int.toNat (IntKind.i64.wrap (period_0 - n36)))) ((Int.toNat (IntKind.i64.wrap (period_0 - n36)))), .int .i64 (0 : Int), .slice (some ⟨g78, 0, none⟩) (Int.toNat n36) (Int.toNat n36), .int .i64 (0 : Int), .int .i64 (0 : Int), .float .f32 0, .float .f32 0, .float .f32 0, .float .f32 0, .float .f32 0, .float .f32 0, .float .f32 0]) 10 (.float .f32 slope_4)) 11 (.float .f32 loss_3))⟩) fun h82 =>
    LDA 12 h82 t10 fun a83 =>
    Post (.tuple ⟨[.agg a83, .int .i64 (0 : Int)]⟩) h82) h79) h70)) h35))) h32) h28) h
def spec_NewBow.j3 (Post : Value → Heap → Prop) : Frame → Heap → Prop := fun fr h => GRD (shape (kds 74 [(0, .i .i64), (1, .f .f32), (2, .f .f32), (3, .f .f32), (4, .f .f32), (10, .p)]) fr) (spec_NewBow.J3 Post (gI (lget fr 0)) (gF (lget fr 1)) (gF (lget fr 2)) (gF (lget fr 3)) (gF (lget fr 4)) (gP (lget fr 10)) h)
def spec_NewBow.S (period_0 : Int) (place_1 : Nat) (keep_2 : Nat) (loss_3 : Nat) (slope_4 : Nat) (Post : Value → Heap → Prop) (h : Heap) : Prop :=
    ALC ⟨Z_impl_Bow⟩ T_impl_Bow (fun g1 h2 =>
    CALL prg f_spec_l00In #[.int .i64 period_0, .int .i64 (2 : Int), .int .i64 (1024 : Int)] (fun q3 h4 =>
    asB q3 fun b5 =>
    BIF (!b5) (
    STA 12 h4 ⟨g1, 0, none⟩ (⟨[.slice none 0 0, .int .i64 (0 : Int), .slice none 0 0, .int .i64 (0 : Int), .int .i64 (0 : Int), .float .f32 0, .float .f32 0, .float .f32 0, .float .f32 0, .float .f32 0, .float .f32 0, .float .f32 0]⟩ : Array Value) fun h6 =>
    LDA 12 h6 ⟨g1, 0, none⟩ fun a7 =>
    Post (.tuple ⟨[.agg a7, .int .i64 (2 : Int)]⟩) h6) (
    BIF (FloatKind.f32.format.order place_1 0 == some .gt || FloatKind.f32.format.order place_1 0 == some .eq) (
    BIF (!(FloatKind.f32.format.order place_1 1065353216 == some .lt || FloatKind.f32.format.order place_1 1065353216 == some .eq)) (
    STA 12 h4 ⟨g1, 0, none⟩ (⟨[.slice none 0 0, .int .i64 (0 : Int), .slice none 0 0, .int .i64 (0 : Int), .int .i64 (0 : Int), .float .f32 0, .float .f32 0, .float .f32 0, .float .f32 0, .float .f32 0, .float .f32 0, .float .f32 0]⟩ : Array Value) fun h8 =>
    LDA 12 h8 ⟨g1, 0, none⟩ fun a9 =>
    Post (.tuple ⟨[.agg a9, .int .i64 (2 : Int)]⟩) h8) (
    BIF (FloatKind.f32.format.order keep_2 0 == some .gt || FloatKind.f32.format.order keep_2 0 == some .eq) (
    BIF (!(FloatKind.f32.format.order keep_2 1065353216 == some .lt)) (
    STA 12 h4 ⟨g1, 0, none⟩ (⟨[.slice none 0 0, .int .i64 (0 : Int), .slice none 0 0, .int .i64 (0 : Int), .int .i64 (0 : Int), .float .f32 0, .float .f32 0, .float .f32 0, .float .f32 0, .float .f32 0, .float .f32 0, .float .f32 0]⟩ : Array Value) fun h10 =>
    LDA 12 h10 ⟨g1, 0, none⟩ fun a11 =>
    Post (.tuple ⟨[.agg a11, .int .i64 (2 : Int)]⟩) h10) (
    BIF (FloatKind.f32.format.order loss_3 0 == some .gt || FloatKind.f32.format.order loss_3 0 == some .eq) (
    BIF (!(FloatKind.f32.format.order loss_3 1065353216 == some .lt || FloatKind.f32.format.order loss_3 1065353216 == some .eq)) (
    STA 12 h4 ⟨g1, 0, none⟩ (⟨[.slice none 0 0, .int .i64 (0 : Int), .slice none 0 0, .int .i64 (0 : Int), .int .i64 (0 : Int), .float .f32 0, .float .f32 0, .float .f32 0, .float .f32 0, .float .f32 0, .float .f32 0, .float .f32 0]⟩ : Array Value) fun h12 =>
    LDA 12 h12 ⟨g1, 0, none⟩ fun a13 =>
    Post (.tuple ⟨[.agg a13, .int .i64 (2 : Int)]⟩) h12) (
    CALL prg f_spec_l01Finite #[.float .f32 slope_4] (fun q14 h15 =>
    asB q14 fun b16 =>
    BIF (!b16) (
    STA 12 h15 ⟨g1, 0, none⟩ (⟨[.slice none 0 0, .int .i64 (0 : Int), .slice none 0 0, .int .i64 (0 : Int), .int .i64 (0 : Int), .float .f32 0, .float .f32 0, .float .f32 0, .float .f32 0, .float .f32 0, .float .f32 0, .float .f32 0]⟩ : Array Value) fun h17 =>
    LDA 12 h17 ⟨g1, 0, none⟩ fun a18 =>
    Post (.tuple ⟨[.agg a18, .int .i64 (2 : Int)]⟩) h17) (
    spec_NewBow.J3 Post period_0 place_1 keep_2 loss_3 slope_4 ⟨g1, 0, none⟩ h15)) h4)) (
    STA 12 h4 ⟨g1, 0, none⟩ (⟨[.slice none 0 0, .int .i64 (0 : Int), .slice none 0 0, .int .i64 (0 : Int), .int .i64 (0 : Int), .float .f32 0, .float .f32 0, .float .f32 0, .float .f32 0, .float .f32 0, .float .f32 0, .float .f32 0]⟩ : Array Value) fun h19 =>
    LDA 12 h19 ⟨g1, 0, none⟩ fun a20 =>
    Post (.tuple ⟨[.agg a20, .int .i64 (2 : Int)]⟩) h19))) (
    STA 12 h4 ⟨g1, 0, none⟩ (⟨[.slice none 0 0, .int .i64 (0 : Int), .slice none 0 0, .int .i64 (0 : Int), .int .i64 (0 : Int), .float .f32 0, .float .f32 0, .float .f32 0, .float .f32 0, .float .f32 0, .float .f32 0, .float .f32 0]⟩ : Array Value) fun h21 =>
    LDA 12 h21 ⟨g1, 0, none⟩ fun a22 =>
    Post (.tuple ⟨[.agg a22, .int .i64 (2 : Int)]⟩) h21))) (
    STA 12 h4 ⟨g1, 0, none⟩ (⟨[.slice none 0 0, .int .i64 (0 : Int), .slice none 0 0, .int .i64 (0 : Int), .int .i64 (0 : Int), .float .f32 0, .float .f32 0, .float .f32 0, .float .f32 0, .float .f32 0, .float .f32 0, .float .f32 0]⟩ : Array Value) fun h23 =>
    LDA 12 h23 ⟨g1, 0, none⟩ fun a24 =>
    Post (.tuple ⟨[.agg a24, .int .i64 (2 : Int)]⟩) h23))) h2) h
noncomputable def spec_NewBow.code : Code := (Tryz.f163.body).getD .skip
theorem spec_NewBow.call {period_0 : Int} {place_1 : Nat} {keep_2 : Nat} {loss_3 : Nat} {slope_4 : Nat} {Post : Value → Heap → Prop} {h : Heap} (H : spec_NewBow.S period_0 place_1 keep_2 loss_3 slope_4 Post h) : CALL prg f_spec_NewBow #[.int .i64 period_0, .float .f32 place_1, .float .f32 keep_2, .float .f32 loss_3, .float .f32 slope_4] Post h :=
  fn_call tau_ok mixed (c := spec_NewBow.code) (Λ := lookL [(3, spec_NewBow.j3 Post)]) Tryz.func163 (by kernel_rfl) (by kernel_rfl)
    (Rq.seq (by kernel_rfl) (Rq.free (by kernel_rfl)) (Rq.seqJ (spec_NewBow.j3 Post) (by kernel_rfl) (seg (fun _ _ => by kernel_rfl)) (Rq.free (by kernel_rfl))
(Rq.free (by kernel_rfl))))
    (Eq.mp (by kernel_rfl) H)

def spec_l09For.J12 (Post : Value → Heap → Prop) (t4 : Addr) (v_6 : Addr) (plucked_12 : Addr) (two_13 : Int) (h : Heap) : Prop :=
    LDA 15 h plucked_12 fun a99 =>
    STA 15 h (Addr.add v_6 5) a99 fun h100 =>
    LDA 45 h100 v_6 fun a101 =>
    STA 45 h100 t4 a101 fun h102 =>
    LDA 45 h102 t4 fun a103 =>
    Post (.tuple ⟨[.agg a103, .bool (two_13 == (0 : Int))]⟩) h102
def spec_l09For.j12 (Post : Value → Heap → Prop) : Frame → Heap → Prop := fun fr h => GRD (shape (kds 147 [(4, .p), (6, .p), (12, .p), (13, .i .i64)]) fr) (spec_l09For.J12 Post (gP (lget fr 4)) (gP (lget fr 6)) (gP (lget fr 12)) (gI (lget fr 13)) h)
def spec_l09For.J19 (Post : Value → Heap → Prop) (e_1 : Addr) (t4 : Addr) (v_6 : Addr) (made_15 : Addr) (one_16 : Int) (h : Heap) : Prop :=
    LDA 13 h made_15 fun a422 =>
    STA 13 h (Addr.add v_6 20) a422 fun h423 =>
    oF .f32 (cell h423 (Addr.add e_1 5)) fun r424 =>
    ST1 h423 (Addr.add v_6 4) (.float .f32 r424) fun h425 =>
    LDA 45 h425 v_6 fun a426 =>
    STA 45 h425 t4 a426 fun h427 =>
    LDA 45 h427 t4 fun a428 =>
    Post (.tuple ⟨[.agg a428, .bool (one_16 == (0 : Int))]⟩) h427
def spec_l09For.j19 (Post : Value → Heap → Prop) : Frame → Heap → Prop := fun fr h => GRD (shape (kds 147 [(1, .p), (4, .p), (6, .p), (15, .p), (16, .i .i64)]) fr) (spec_l09For.J19 Post (gP (lget fr 1)) (gP (lget fr 4)) (gP (lget fr 6)) (gP (lget fr 15)) (gI (lget fr 16)) h)
def spec_l09For.J18 (Post : Value → Heap → Prop) (e_1 : Addr) (t4 : Addr) (v_6 : Addr) (x_7 : Addr) (p_8 : Nat) (by_14 : Nat) (h : Heap) : Prop :=
    oF .f32 (cell h (Addr.add x_7 4)) fun r104 =>
    oF .f32 (cell h (Addr.add x_7 2)) fun r105 =>
    oF .f32 (cell h (Addr.add x_7 3)) fun r106 =>
    (FOP .f32 (FloatKind.f32.format.div p_8 by_14) fun r107 =>
    PIN h (Addr.add x_7 3) 1 h <|
    PIN h (Addr.add x_7 2) 1 h <|
    PIN h (Addr.add x_7 4) 1 h <|
    (CALL prg f_spec_l09Floor #[.float .f32 r107] (fun q108 h109 =>
    asI .i64 q108 fun n110 =>
    PIN h (Addr.add x_7 3) 1 h109 <|
    PIN h (Addr.add x_7 2) 1 h109 <|
    PIN h (Addr.add x_7 4) 1 h109 <|
    (ALC ⟨[.int .i64 n110]⟩ T_int64 (fun g111 h112 =>
    PIN h (Addr.add x_7 3) 1 h112 <|
    PIN h (Addr.add x_7 2) 1 h112 <|
    PIN h (Addr.add x_7 4) 1 h112 <|
    (ALC ⟨[]⟩ T_float32 (fun g113 h114 =>
    PIN h (Addr.add x_7 3) 1 h114 <|
    PIN h (Addr.add x_7 2) 1 h114 <|
    PIN h (Addr.add x_7 4) 1 h114 <|
    (CALL prg f_spec_NewPipe #[.slice (some ⟨g111, 0, none⟩) 1 1, .slice (some ⟨g113, 0, none⟩) 0 0, .bool (FloatKind.f32.format.order r104 1065353216 == some .eq), .float .f32 r105, .float .f32 r106] (fun q115 h116 =>
    TUP2 q115 fun q117 q118 =>
    asA q117 fun a119 =>
    asI .i64 q118 fun n120 =>
    ALC ⟨Z_impl_Pipe⟩ T_impl_Pipe (fun g121 h122 =>
    PIN h (Addr.add x_7 3) 1 h122 <|
    PIN h (Addr.add x_7 2) 1 h122 <|
    PIN h (Addr.add x_7 4) 1 h122 <|
    STA 13 h122 ⟨g121, 0, none⟩ a119 fun h123 =>
    spec_l09For.J19 Post e_1 t4 v_6 ⟨g121, 0, none⟩ n120 h123) h116) h114) ∧ (ALC ⟨Z_impl_Pipe⟩ T_impl_Pipe (fun g124 h125 =>
    PIN h (Addr.add x_7 3) 1 h125 <|
    PIN h (Addr.add x_7 2) 1 h125 <|
    PIN h (Addr.add x_7 4) 1 h125 <|
    CALL prg f_spec_NewPipe #[.slice (some ⟨g111, 0, none⟩) 1 1, .slice (some ⟨g113, 0, none⟩) 0 0, .bool (FloatKind.f32.format.order r104 1065353216 == some .eq), .float .f32 r105, .float .f32 r106] (fun q126 h127 =>
    TUP2 q126 fun q128 q129 =>
    asA q128 fun a130 =>
    asI .i64 q129 fun n131 =>
    STA 13 h127 ⟨g124, 0, none⟩ a130 fun h132 =>
    spec_l09For.J19 Post e_1 t4 v_6 ⟨g124, 0, none⟩ n131 h132) h125) h114)) h112) ∧ (ALC ⟨Z_impl_Pipe⟩ T_impl_Pipe (fun g133 h134 =>
    PIN h (Addr.add x_7 3) 1 h134 <|
    PIN h (Addr.add x_7 2) 1 h134 <|
    PIN h (Addr.add x_7 4) 1 h134 <|
    ALC ⟨[]⟩ T_float32 (fun g135 h136 =>
    PIN h (Addr.add x_7 3) 1 h136 <|
    PIN h (Addr.add x_7 2) 1 h136 <|
    PIN h (Addr.add x_7 4) 1 h136 <|
    CALL prg f_spec_NewPipe #[.slice (some ⟨g111, 0, none⟩) 1 1, .slice (some ⟨g135, 0, none⟩) 0 0, .bool (FloatKind.f32.format.order r104 1065353216 == some .eq), .float .f32 r105, .float .f32 r106] (fun q137 h138 =>
    TUP2 q137 fun q139 q140 =>
    asA q139 fun a141 =>
    asI .i64 q140 fun n142 =>
    STA 13 h138 ⟨g133, 0, none⟩ a141 fun h143 =>
    spec_l09For.J19 Post e_1 t4 v_6 ⟨g133, 0, none⟩ n142 h143) h136) h134) h112)) h109) ∧ ((ALC ⟨[]⟩ T_float32 (fun g144 h145 =>
    PIN h (Addr.add x_7 3) 1 h145 <|
    PIN h (Addr.add x_7 2) 1 h145 <|
    PIN h (Addr.add x_7 4) 1 h145 <|
    (ALC ⟨[.int .i64 n110]⟩ T_int64 (fun g146 h147 =>
    PIN h (Addr.add x_7 3) 1 h147 <|
    PIN h (Addr.add x_7 2) 1 h147 <|
    PIN h (Addr.add x_7 4) 1 h147 <|
    (CALL prg f_spec_NewPipe #[.slice (some ⟨g146, 0, none⟩) 1 1, .slice (some ⟨g144, 0, none⟩) 0 0, .bool (FloatKind.f32.format.order r104 1065353216 == some .eq), .float .f32 r105, .float .f32 r106] (fun q148 h149 =>
    TUP2 q148 fun q150 q151 =>
    asA q150 fun a152 =>
    asI .i64 q151 fun n153 =>
    ALC ⟨Z_impl_Pipe⟩ T_impl_Pipe (fun g154 h155 =>
    PIN h (Addr.add x_7 3) 1 h155 <|
    PIN h (Addr.add x_7 2) 1 h155 <|
    PIN h (Addr.add x_7 4) 1 h155 <|
    STA 13 h155 ⟨g154, 0, none⟩ a152 fun h156 =>
    spec_l09For.J19 Post e_1 t4 v_6 ⟨g154, 0, none⟩ n153 h156) h149) h147) ∧ (ALC ⟨Z_impl_Pipe⟩ T_impl_Pipe (fun g157 h158 =>
    PIN h (Addr.add x_7 3) 1 h158 <|
    PIN h (Addr.add x_7 2) 1 h158 <|
    PIN h (Addr.add x_7 4) 1 h158 <|
    CALL prg f_spec_NewPipe #[.slice (some ⟨g146, 0, none⟩) 1 1, .slice (some ⟨g144, 0, none⟩) 0 0, .bool (FloatKind.f32.format.order r104 1065353216 == some .eq), .float .f32 r105, .float .f32 r106] (fun q159 h160 =>
    TUP2 q159 fun q161 q162 =>
    asA q161 fun a163 =>
    asI .i64 q162 fun n164 =>
    STA 13 h160 ⟨g157, 0, none⟩ a163 fun h165 =>
    spec_l09For.J19 Post e_1 t4 v_6 ⟨g157, 0, none⟩ n164 h165) h158) h147)) h145) ∧ (ALC ⟨Z_impl_Pipe⟩ T_impl_Pipe (fun g166 h167 =>
    PIN h (Addr.add x_7 3) 1 h167 <|
    PIN h (Addr.add x_7 2) 1 h167 <|
    PIN h (Addr.add x_7 4) 1 h167 <|
    ALC ⟨[.int .i64 n110]⟩ T_int64 (fun g168 h169 =>
    PIN h (Addr.add x_7 3) 1 h169 <|
    PIN h (Addr.add x_7 2) 1 h169 <|
    PIN h (Addr.add x_7 4) 1 h169 <|
    CALL prg f_spec_NewPipe #[.slice (some ⟨g168, 0, none⟩) 1 1, .slice (some ⟨g144, 0, none⟩) 0 0, .bool (FloatKind.f32.format.order r104 1065353216 == some .eq), .float .f32 r105, .float .f32 r106] (fun q170 h171 =>
    TUP2 q170 fun q172 q173 =>
    asA q172 fun a174 =>
    asI .i64 q173 fun n175 =>
    STA 13 h171 ⟨g166, 0, none⟩ a174 fun h176 =>
    spec_l09For.J19 Post e_1 t4 v_6 ⟨g166, 0, none⟩ n175 h176) h169) h167) h145)) h109) ∧ (ALC ⟨Z_impl_Pipe⟩ T_impl_Pipe (fun g177 h178 =>
    PIN h (Addr.add x_7 3) 1 h178 <|
    PIN h (Addr.add x_7 2) 1 h178 <|
    PIN h (Addr.add x_7 4) 1 h178 <|
    (ALC ⟨[.int .i64 n110]⟩ T_int64 (fun g179 h180 =>
    PIN h (Addr.add x_7 3) 1 h180 <|
    PIN h (Addr.add x_7 2) 1 h180 <|
    PIN h (Addr.add x_7 4) 1 h180 <|
    ALC ⟨[]⟩ T_float32 (fun g181 h182 =>
    PIN h (Addr.add x_7 3) 1 h182 <|
    PIN h (Addr.add x_7 2) 1 h182 <|
    PIN h (Addr.add x_7 4) 1 h182 <|
    CALL prg f_spec_NewPipe #[.slice (some ⟨g179, 0, none⟩) 1 1, .slice (some ⟨g181, 0, none⟩) 0 0, .bool (FloatKind.f32.format.order r104 1065353216 == some .eq), .float .f32 r105, .float .f32 r106] (fun q183 h184 =>
    TUP2 q183 fun q185 q186 =>
    asA q185 fun a187 =>
    asI .i64 q186 fun n188 =>
    STA 13 h184 ⟨g177, 0, none⟩ a187 fun h189 =>
    spec_l09For.J19 Post e_1 t4 v_6 ⟨g177, 0, none⟩ n188 h189) h182) h180) h178) ∧ (ALC ⟨[]⟩ T_float32 (fun g190 h191 =>
    PIN h (Addr.add x_7 3) 1 h191 <|
    PIN h (Addr.add x_7 2) 1 h191 <|
    PIN h (Addr.add x_7 4) 1 h191 <|
    ALC ⟨[.int .i64 n110]⟩ T_int64 (fun g192 h193 =>
    PIN h (Addr.add x_7 3) 1 h193 <|
    PIN h (Addr.add x_7 2) 1 h193 <|
    PIN h (Addr.add x_7 4) 1 h193 <|
    CALL prg f_spec_NewPipe #[.slice (some ⟨g192, 0, none⟩) 1 1, .slice (some ⟨g190, 0, none⟩) 0 0, .bool (FloatKind.f32.format.order r104 1065353216 == some .eq), .float .f32 r105, .float .f32 r106] (fun q194 h195 =>
    TUP2 q194 fun q196 q197 =>
    asA q196 fun a198 =>
    asI .i64 q197 fun n199 =>
    STA 13 h195 ⟨g177, 0, none⟩ a198 fun h200 =>
    spec_l09For.J19 Post e_1 t4 v_6 ⟨g177, 0, none⟩ n199 h200) h193) h191) h178)) h109))) h) ∧ ((ALC ⟨[]⟩ T_float32 (fun g201 h202 =>
    PIN h (Addr.add x_7 3) 1 h202 <|
    PIN h (Addr.add x_7 2) 1 h202 <|
    PIN h (Addr.add x_7 4) 1 h202 <|
    (CALL prg f_spec_l09Floor #[.float .f32 r107] (fun q203 h204 =>
    asI .i64 q203 fun n205 =>
    PIN h (Addr.add x_7 3) 1 h204 <|
    PIN h (Addr.add x_7 2) 1 h204 <|
    PIN h (Addr.add x_7 4) 1 h204 <|
    (ALC ⟨[.int .i64 n205]⟩ T_int64 (fun g206 h207 =>
    PIN h (Addr.add x_7 3) 1 h207 <|
    PIN h (Addr.add x_7 2) 1 h207 <|
    PIN h (Addr.add x_7 4) 1 h207 <|
    (CALL prg f_spec_NewPipe #[.slice (some ⟨g206, 0, none⟩) 1 1, .slice (some ⟨g201, 0, none⟩) 0 0, .bool (FloatKind.f32.format.order r104 1065353216 == some .eq), .float .f32 r105, .float .f32 r106] (fun q208 h209 =>
    TUP2 q208 fun q210 q211 =>
    asA q210 fun a212 =>
    asI .i64 q211 fun n213 =>
    ALC ⟨Z_impl_Pipe⟩ T_impl_Pipe (fun g214 h215 =>
    PIN h (Addr.add x_7 3) 1 h215 <|
    PIN h (Addr.add x_7 2) 1 h215 <|
    PIN h (Addr.add x_7 4) 1 h215 <|
    STA 13 h215 ⟨g214, 0, none⟩ a212 fun h216 =>
    spec_l09For.J19 Post e_1 t4 v_6 ⟨g214, 0, none⟩ n213 h216) h209) h207) ∧ (ALC ⟨Z_impl_Pipe⟩ T_impl_Pipe (fun g217 h218 =>
    PIN h (Addr.add x_7 3) 1 h218 <|
    PIN h (Addr.add x_7 2) 1 h218 <|
    PIN h (Addr.add x_7 4) 1 h218 <|
    CALL prg f_spec_NewPipe #[.slice (some ⟨g206, 0, none⟩) 1 1, .slice (some ⟨g201, 0, none⟩) 0 0, .bool (FloatKind.f32.format.order r104 1065353216 == some .eq), .float .f32 r105, .float .f32 r106] (fun q219 h220 =>
    TUP2 q219 fun q221 q222 =>
    asA q221 fun a223 =>
    asI .i64 q222 fun n224 =>
    STA 13 h220 ⟨g217, 0, none⟩ a223 fun h225 =>
    spec_l09For.J19 Post e_1 t4 v_6 ⟨g217, 0, none⟩ n224 h225) h218) h207)) h204) ∧ (ALC ⟨Z_impl_Pipe⟩ T_impl_Pipe (fun g226 h227 =>
    PIN h (Addr.add x_7 3) 1 h227 <|
    PIN h (Addr.add x_7 2) 1 h227 <|
    PIN h (Addr.add x_7 4) 1 h227 <|
    ALC ⟨[.int .i64 n205]⟩ T_int64 (fun g228 h229 =>
    PIN h (Addr.add x_7 3) 1 h229 <|
    PIN h (Addr.add x_7 2) 1 h229 <|
    PIN h (Addr.add x_7 4) 1 h229 <|
    CALL prg f_spec_NewPipe #[.slice (some ⟨g228, 0, none⟩) 1 1, .slice (some ⟨g201, 0, none⟩) 0 0, .bool (FloatKind.f32.format.order r104 1065353216 == some .eq), .float .f32 r105, .float .f32 r106] (fun q230 h231 =>
    TUP2 q230 fun q232 q233 =>
    asA q232 fun a234 =>
    asI .i64 q233 fun n235 =>
    STA 13 h231 ⟨g226, 0, none⟩ a234 fun h236 =>
    spec_l09For.J19 Post e_1 t4 v_6 ⟨g226, 0, none⟩ n235 h236) h229) h227) h204)) h202) ∧ (ALC ⟨Z_impl_Pipe⟩ T_impl_Pipe (fun g237 h238 =>
    PIN h (Addr.add x_7 3) 1 h238 <|
    PIN h (Addr.add x_7 2) 1 h238 <|
    PIN h (Addr.add x_7 4) 1 h238 <|
    CALL prg f_spec_l09Floor #[.float .f32 r107] (fun q239 h240 =>
    asI .i64 q239 fun n241 =>
    PIN h (Addr.add x_7 3) 1 h240 <|
    PIN h (Addr.add x_7 2) 1 h240 <|
    PIN h (Addr.add x_7 4) 1 h240 <|
    ALC ⟨[.int .i64 n241]⟩ T_int64 (fun g242 h243 =>
    PIN h (Addr.add x_7 3) 1 h243 <|
    PIN h (Addr.add x_7 2) 1 h243 <|
    PIN h (Addr.add x_7 4) 1 h243 <|
    CALL prg f_spec_NewPipe #[.slice (some ⟨g242, 0, none⟩) 1 1, .slice (some ⟨g201, 0, none⟩) 0 0, .bool (FloatKind.f32.format.order r104 1065353216 == some .eq), .float .f32 r105, .float .f32 r106] (fun q244 h245 =>
    TUP2 q244 fun q246 q247 =>
    asA q246 fun a248 =>
    asI .i64 q247 fun n249 =>
    STA 13 h245 ⟨g237, 0, none⟩ a248 fun h250 =>
    spec_l09For.J19 Post e_1 t4 v_6 ⟨g237, 0, none⟩ n249 h250) h243) h240) h238) h202)) h) ∧ (ALC ⟨Z_impl_Pipe⟩ T_impl_Pipe (fun g251 h252 =>
    PIN h (Addr.add x_7 3) 1 h252 <|
    PIN h (Addr.add x_7 2) 1 h252 <|
    PIN h (Addr.add x_7 4) 1 h252 <|
    (CALL prg f_spec_l09Floor #[.float .f32 r107] (fun q253 h254 =>
    asI .i64 q253 fun n255 =>
    PIN h (Addr.add x_7 3) 1 h254 <|
    PIN h (Addr.add x_7 2) 1 h254 <|
    PIN h (Addr.add x_7 4) 1 h254 <|
    (ALC ⟨[.int .i64 n255]⟩ T_int64 (fun g256 h257 =>
    PIN h (Addr.add x_7 3) 1 h257 <|
    PIN h (Addr.add x_7 2) 1 h257 <|
    PIN h (Addr.add x_7 4) 1 h257 <|
    ALC ⟨[]⟩ T_float32 (fun g258 h259 =>
    PIN h (Addr.add x_7 3) 1 h259 <|
    PIN h (Addr.add x_7 2) 1 h259 <|
    PIN h (Addr.add x_7 4) 1 h259 <|
    CALL prg f_spec_NewPipe #[.slice (some ⟨g256, 0, none⟩) 1 1, .slice (some ⟨g258, 0, none⟩) 0 0, .bool (FloatKind.f32.format.order r104 1065353216 == some .eq), .float .f32 r105, .float .f32 r106] (fun q260 h261 =>
    TUP2 q260 fun q262 q263 =>
    asA q262 fun a264 =>
    asI .i64 q263 fun n265 =>
    STA 13 h261 ⟨g251, 0, none⟩ a264 fun h266 =>
    spec_l09For.J19 Post e_1 t4 v_6 ⟨g251, 0, none⟩ n265 h266) h259) h257) h254) ∧ (ALC ⟨[]⟩ T_float32 (fun g267 h268 =>
    PIN h (Addr.add x_7 3) 1 h268 <|
    PIN h (Addr.add x_7 2) 1 h268 <|
    PIN h (Addr.add x_7 4) 1 h268 <|
    ALC ⟨[.int .i64 n255]⟩ T_int64 (fun g269 h270 =>
    PIN h (Addr.add x_7 3) 1 h270 <|
    PIN h (Addr.add x_7 2) 1 h270 <|
    PIN h (Addr.add x_7 4) 1 h270 <|
    CALL prg f_spec_NewPipe #[.slice (some ⟨g269, 0, none⟩) 1 1, .slice (some ⟨g267, 0, none⟩) 0 0, .bool (FloatKind.f32.format.order r104 1065353216 == some .eq), .float .f32 r105, .float .f32 r106] (fun q271 h272 =>
    TUP2 q271 fun q273 q274 =>
    asA q273 fun a275 =>
    asI .i64 q274 fun n276 =>
    STA 13 h272 ⟨g251, 0, none⟩ a275 fun h277 =>
    spec_l09For.J19 Post e_1 t4 v_6 ⟨g251, 0, none⟩ n276 h277) h270) h268) h254)) h252) ∧ (ALC ⟨[]⟩ T_float32 (fun g278 h279 =>
    PIN h (Addr.add x_7 3) 1 h279 <|
    PIN h (Addr.add x_7 2) 1 h279 <|
    PIN h (Addr.add x_7 4) 1 h279 <|
    CALL prg f_spec_l09Floor #[.float .f32 r107] (fun q280 h281 =>
    asI .i64 q280 fun n282 =>
    PIN h (Addr.add x_7 3) 1 h281 <|
    PIN h (Addr.add x_7 2) 1 h281 <|
    PIN h (Addr.add x_7 4) 1 h281 <|
    ALC ⟨[.int .i64 n282]⟩ T_int64 (fun g283 h284 =>
    PIN h (Addr.add x_7 3) 1 h284 <|
    PIN h (Addr.add x_7 2) 1 h284 <|
    PIN h (Addr.add x_7 4) 1 h284 <|
    CALL prg f_spec_NewPipe #[.slice (some ⟨g283, 0, none⟩) 1 1, .slice (some ⟨g278, 0, none⟩) 0 0, .bool (FloatKind.f32.format.order r104 1065353216 == some .eq), .float .f32 r105, .float .f32 r106] (fun q285 h286 =>
    TUP2 q285 fun q287 q288 =>
    asA q287 fun a289 =>
    asI .i64 q288 fun n290 =>
    STA 13 h286 ⟨g251, 0, none⟩ a289 fun h291 =>
    spec_l09For.J19 Post e_1 t4 v_6 ⟨g251, 0, none⟩ n290 h291) h284) h281) h279) h252)) h))) ∧ ((ALC ⟨[]⟩ T_float32 (fun g292 h293 =>
    PIN h (Addr.add x_7 3) 1 h293 <|
    PIN h (Addr.add x_7 2) 1 h293 <|
    PIN h (Addr.add x_7 4) 1 h293 <|
    (FOP .f32 (FloatKind.f32.format.div p_8 by_14) fun r294 =>
    PIN h (Addr.add x_7 3) 1 h293 <|
    PIN h (Addr.add x_7 2) 1 h293 <|
    PIN h (Addr.add x_7 4) 1 h293 <|
    (CALL prg f_spec_l09Floor #[.float .f32 r294] (fun q295 h296 =>
    asI .i64 q295 fun n297 =>
    PIN h (Addr.add x_7 3) 1 h296 <|
    PIN h (Addr.add x_7 2) 1 h296 <|
    PIN h (Addr.add x_7 4) 1 h296 <|
    (ALC ⟨[.int .i64 n297]⟩ T_int64 (fun g298 h299 =>
    PIN h (Addr.add x_7 3) 1 h299 <|
    PIN h (Addr.add x_7 2) 1 h299 <|
    PIN h (Addr.add x_7 4) 1 h299 <|
    (CALL prg f_spec_NewPipe #[.slice (some ⟨g298, 0, none⟩) 1 1, .slice (some ⟨g292, 0, none⟩) 0 0, .bool (FloatKind.f32.format.order r104 1065353216 == some .eq), .float .f32 r105, .float .f32 r106] (fun q300 h301 =>
    TUP2 q300 fun q302 q303 =>
    asA q302 fun a304 =>
    asI .i64 q303 fun n305 =>
    ALC ⟨Z_impl_Pipe⟩ T_impl_Pipe (fun g306 h307 =>
    PIN h (Addr.add x_7 3) 1 h307 <|
    PIN h (Addr.add x_7 2) 1 h307 <|
    PIN h (Addr.add x_7 4) 1 h307 <|
    STA 13 h307 ⟨g306, 0, none⟩ a304 fun h308 =>
    spec_l09For.J19 Post e_1 t4 v_6 ⟨g306, 0, none⟩ n305 h308) h301) h299) ∧ (ALC ⟨Z_impl_Pipe⟩ T_impl_Pipe (fun g309 h310 =>
    PIN h (Addr.add x_7 3) 1 h310 <|
    PIN h (Addr.add x_7 2) 1 h310 <|
    PIN h (Addr.add x_7 4) 1 h310 <|
    CALL prg f_spec_NewPipe #[.slice (some ⟨g298, 0, none⟩) 1 1, .slice (some ⟨g292, 0, none⟩) 0 0, .bool (FloatKind.f32.format.order r104 1065353216 == some .eq), .float .f32 r105, .float .f32 r106] (fun q311 h312 =>
    TUP2 q311 fun q313 q314 =>
    asA q313 fun a315 =>
    asI .i64 q314 fun n316 =>
    STA 13 h312 ⟨g309, 0, none⟩ a315 fun h317 =>
    spec_l09For.J19 Post e_1 t4 v_6 ⟨g309, 0, none⟩ n316 h317) h310) h299)) h296) ∧ (ALC ⟨Z_impl_Pipe⟩ T_impl_Pipe (fun g318 h319 =>
    PIN h (Addr.add x_7 3) 1 h319 <|
    PIN h (Addr.add x_7 2) 1 h319 <|
    PIN h (Addr.add x_7 4) 1 h319 <|
    ALC ⟨[.int .i64 n297]⟩ T_int64 (fun g320 h321 =>
    PIN h (Addr.add x_7 3) 1 h321 <|
    PIN h (Addr.add x_7 2) 1 h321 <|
    PIN h (Addr.add x_7 4) 1 h321 <|
    CALL prg f_spec_NewPipe #[.slice (some ⟨g320, 0, none⟩) 1 1, .slice (some ⟨g292, 0, none⟩) 0 0, .bool (FloatKind.f32.format.order r104 1065353216 == some .eq), .float .f32 r105, .float .f32 r106] (fun q322 h323 =>
    TUP2 q322 fun q324 q325 =>
    asA q324 fun a326 =>
    asI .i64 q325 fun n327 =>
    STA 13 h323 ⟨g318, 0, none⟩ a326 fun h328 =>
    spec_l09For.J19 Post e_1 t4 v_6 ⟨g318, 0, none⟩ n327 h328) h321) h319) h296)) h293) ∧ (ALC ⟨Z_impl_Pipe⟩ T_impl_Pipe (fun g329 h330 =>
    PIN h (Addr.add x_7 3) 1 h330 <|
    PIN h (Addr.add x_7 2) 1 h330 <|
    PIN h (Addr.add x_7 4) 1 h330 <|
    CALL prg f_spec_l09Floor #[.float .f32 r294] (fun q331 h332 =>
    asI .i64 q331 fun n333 =>
    PIN h (Addr.add x_7 3) 1 h332 <|
    PIN h (Addr.add x_7 2) 1 h332 <|
    PIN h (Addr.add x_7 4) 1 h332 <|
    ALC ⟨[.int .i64 n333]⟩ T_int64 (fun g334 h335 =>
    PIN h (Addr.add x_7 3) 1 h335 <|
    PIN h (Addr.add x_7 2) 1 h335 <|
    PIN h (Addr.add x_7 4) 1 h335 <|
    CALL prg f_spec_NewPipe #[.slice (some ⟨g334, 0, none⟩) 1 1, .slice (some ⟨g292, 0, none⟩) 0 0, .bool (FloatKind.f32.format.order r104 1065353216 == some .eq), .float .f32 r105, .float .f32 r106] (fun q336 h337 =>
    TUP2 q336 fun q338 q339 =>
    asA q338 fun a340 =>
    asI .i64 q339 fun n341 =>
    STA 13 h337 ⟨g329, 0, none⟩ a340 fun h342 =>
    spec_l09For.J19 Post e_1 t4 v_6 ⟨g329, 0, none⟩ n341 h342) h335) h332) h330) h293)) ∧ (ALC ⟨Z_impl_Pipe⟩ T_impl_Pipe (fun g343 h344 =>
    PIN h (Addr.add x_7 3) 1 h344 <|
    PIN h (Addr.add x_7 2) 1 h344 <|
    PIN h (Addr.add x_7 4) 1 h344 <|
    FOP .f32 (FloatKind.f32.format.div p_8 by_14) fun r345 =>
    PIN h (Addr.add x_7 3) 1 h344 <|
    PIN h (Addr.add x_7 2) 1 h344 <|
    PIN h (Addr.add x_7 4) 1 h344 <|
    CALL prg f_spec_l09Floor #[.float .f32 r345] (fun q346 h347 =>
    asI .i64 q346 fun n348 =>
    PIN h (Addr.add x_7 3) 1 h347 <|
    PIN h (Addr.add x_7 2) 1 h347 <|
    PIN h (Addr.add x_7 4) 1 h347 <|
    ALC ⟨[.int .i64 n348]⟩ T_int64 (fun g349 h350 =>
    PIN h (Addr.add x_7 3) 1 h350 <|
    PIN h (Addr.add x_7 2) 1 h350 <|
    PIN h (Addr.add x_7 4) 1 h350 <|
    CALL prg f_spec_NewPipe #[.slice (some ⟨g349, 0, none⟩) 1 1, .slice (some ⟨g292, 0, none⟩) 0 0, .bool (FloatKind.f32.format.order r104 1065353216 == some .eq), .float .f32 r105, .float .f32 r106] (fun q351 h352 =>
    TUP2 q351 fun q353 q354 =>
    asA q353 fun a355 =>
    asI .i64 q354 fun n356 =>
    STA 13 h352 ⟨g343, 0, none⟩ a355 fun h357 =>
    spec_l09For.J19 Post e_1 t4 v_6 ⟨g343, 0, none⟩ n356 h357) h350) h347) h344) h293)) h) ∧ (ALC ⟨Z_impl_Pipe⟩ T_impl_Pipe (fun g358 h359 =>
    PIN h (Addr.add x_7 3) 1 h359 <|
    PIN h (Addr.add x_7 2) 1 h359 <|
    PIN h (Addr.add x_7 4) 1 h359 <|
    (FOP .f32 (FloatKind.f32.format.div p_8 by_14) fun r360 =>
    PIN h (Addr.add x_7 3) 1 h359 <|
    PIN h (Addr.add x_7 2) 1 h359 <|
    PIN h (Addr.add x_7 4) 1 h359 <|
    (CALL prg f_spec_l09Floor #[.float .f32 r360] (fun q361 h362 =>
    asI .i64 q361 fun n363 =>
    PIN h (Addr.add x_7 3) 1 h362 <|
    PIN h (Addr.add x_7 2) 1 h362 <|
    PIN h (Addr.add x_7 4) 1 h362 <|
    (ALC ⟨[.int .i64 n363]⟩ T_int64 (fun g364 h365 =>
    PIN h (Addr.add x_7 3) 1 h365 <|
    PIN h (Addr.add x_7 2) 1 h365 <|
    PIN h (Addr.add x_7 4) 1 h365 <|
    ALC ⟨[]⟩ T_float32 (fun g366 h367 =>
    PIN h (Addr.add x_7 3) 1 h367 <|
    PIN h (Addr.add x_7 2) 1 h367 <|
    PIN h (Addr.add x_7 4) 1 h367 <|
    CALL prg f_spec_NewPipe #[.slice (some ⟨g364, 0, none⟩) 1 1, .slice (some ⟨g366, 0, none⟩) 0 0, .bool (FloatKind.f32.format.order r104 1065353216 == some .eq), .float .f32 r105, .float .f32 r106] (fun q368 h369 =>
    TUP2 q368 fun q370 q371 =>
    asA q370 fun a372 =>
    asI .i64 q371 fun n373 =>
    STA 13 h369 ⟨g358, 0, none⟩ a372 fun h374 =>
    spec_l09For.J19 Post e_1 t4 v_6 ⟨g358, 0, none⟩ n373 h374) h367) h365) h362) ∧ (ALC ⟨[]⟩ T_float32 (fun g375 h376 =>
    PIN h (Addr.add x_7 3) 1 h376 <|
    PIN h (Addr.add x_7 2) 1 h376 <|
    PIN h (Addr.add x_7 4) 1 h376 <|
    ALC ⟨[.int .i64 n363]⟩ T_int64 (fun g377 h378 =>
    PIN h (Addr.add x_7 3) 1 h378 <|
    PIN h (Addr.add x_7 2) 1 h378 <|
    PIN h (Addr.add x_7 4) 1 h378 <|
    CALL prg f_spec_NewPipe #[.slice (some ⟨g377, 0, none⟩) 1 1, .slice (some ⟨g375, 0, none⟩) 0 0, .bool (FloatKind.f32.format.order r104 1065353216 == some .eq), .float .f32 r105, .float .f32 r106] (fun q379 h380 =>
    TUP2 q379 fun q381 q382 =>
    asA q381 fun a383 =>
    asI .i64 q382 fun n384 =>
    STA 13 h380 ⟨g358, 0, none⟩ a383 fun h385 =>
    spec_l09For.J19 Post e_1 t4 v_6 ⟨g358, 0, none⟩ n384 h385) h378) h376) h362)) h359) ∧ (ALC ⟨[]⟩ T_float32 (fun g386 h387 =>
    PIN h (Addr.add x_7 3) 1 h387 <|
    PIN h (Addr.add x_7 2) 1 h387 <|
    PIN h (Addr.add x_7 4) 1 h387 <|
    CALL prg f_spec_l09Floor #[.float .f32 r360] (fun q388 h389 =>
    asI .i64 q388 fun n390 =>
    PIN h (Addr.add x_7 3) 1 h389 <|
    PIN h (Addr.add x_7 2) 1 h389 <|
    PIN h (Addr.add x_7 4) 1 h389 <|
    ALC ⟨[.int .i64 n390]⟩ T_int64 (fun g391 h392 =>
    PIN h (Addr.add x_7 3) 1 h392 <|
    PIN h (Addr.add x_7 2) 1 h392 <|
    PIN h (Addr.add x_7 4) 1 h392 <|
    CALL prg f_spec_NewPipe #[.slice (some ⟨g391, 0, none⟩) 1 1, .slice (some ⟨g386, 0, none⟩) 0 0, .bool (FloatKind.f32.format.order r104 1065353216 == some .eq), .float .f32 r105, .float .f32 r106] (fun q393 h394 =>
    TUP2 q393 fun q395 q396 =>
    asA q395 fun a397 =>
    asI .i64 q396 fun n398 =>
    STA 13 h394 ⟨g358, 0, none⟩ a397 fun h399 =>
    spec_l09For.J19 Post e_1 t4 v_6 ⟨g358, 0, none⟩ n398 h399) h392) h389) h387) h359)) ∧ (ALC ⟨[]⟩ T_float32 (fun g400 h401 =>
    PIN h (Addr.add x_7 3) 1 h401 <|
    PIN h (Addr.add x_7 2) 1 h401 <|
    PIN h (Addr.add x_7 4) 1 h401 <|
    FOP .f32 (FloatKind.f32.format.div p_8 by_14) fun r402 =>
    PIN h (Addr.add x_7 3) 1 h401 <|
    PIN h (Addr.add x_7 2) 1 h401 <|
    PIN h (Addr.add x_7 4) 1 h401 <|
    CALL prg f_spec_l09Floor #[.float .f32 r402] (fun q403 h404 =>
    asI .i64 q403 fun n405 =>
    PIN h (Addr.add x_7 3) 1 h404 <|
    PIN h (Addr.add x_7 2) 1 h404 <|
    PIN h (Addr.add x_7 4) 1 h404 <|
    ALC ⟨[.int .i64 n405]⟩ T_int64 (fun g406 h407 =>
    PIN h (Addr.add x_7 3) 1 h407 <|
    PIN h (Addr.add x_7 2) 1 h407 <|
    PIN h (Addr.add x_7 4) 1 h407 <|
    CALL prg f_spec_NewPipe #[.slice (some ⟨g406, 0, none⟩) 1 1, .slice (some ⟨g400, 0, none⟩) 0 0, .bool (FloatKind.f32.format.order r104 1065353216 == some .eq), .float .f32 r105, .float .f32 r106] (fun q408 h409 =>
    TUP2 q408 fun q410 q411 =>
    asA q410 fun a412 =>
    asI .i64 q411 fun n413 =>
    STA 13 h409 ⟨g358, 0, none⟩ a412 fun h414 =>
    spec_l09For.J19 Post e_1 t4 v_6 ⟨g358, 0, none⟩ n413 h414) h407) h404) h401) h359)) h))
def spec_l09For.j18 (Post : Value → Heap → Prop) : Frame → Heap → Prop := fun fr h => GRD (shape (kds 147 [(1, .p), (4, .p), (6, .p), (7, .p), (8, .f .f32), (14, .f .f32)]) fr) (spec_l09For.J18 Post (gP (lget fr 1)) (gP (lget fr 4)) (gP (lget fr 6)) (gP (lget fr 7)) (gF (lget fr 8)) (gF (lget fr 14)) h)
def spec_l09For.J23 (Post : Value → Heap → Prop) (e_1 : Addr) (t4 : Addr) (v_6 : Addr) (made_17 : Addr) (one_18 : Int) (h : Heap) : Prop :=
    LDA 12 h made_17 fun a415 =>
    STA 12 h (Addr.add v_6 33) a415 fun h416 =>
    oF .f32 (cell h416 (Addr.add e_1 5)) fun r417 =>
    ST1 h416 (Addr.add v_6 4) (.float .f32 r417) fun h418 =>
    LDA 45 h418 v_6 fun a419 =>
    STA 45 h418 t4 a419 fun h420 =>
    LDA 45 h420 t4 fun a421 =>
    Post (.tuple ⟨[.agg a421, .bool (one_18 == (0 : Int))]⟩) h420
def spec_l09For.j23 (Post : Value → Heap → Prop) : Frame → Heap → Prop := fun fr h => GRD (shape (kds 147 [(1, .p), (4, .p), (6, .p), (17, .p), (18, .i .i64)]) fr) (spec_l09For.J23 Post (gP (lget fr 1)) (gP (lget fr 4)) (gP (lget fr 6)) (gP (lget fr 17)) (gI (lget fr 18)) h)
def spec_l09For.S (s_0 : Addr) (e_1 : Addr) (Post : Value → Heap → Prop) (h : Heap) : Prop :=
    ALC ⟨Z_impl_Voice⟩ T_impl_Voice (fun g1 h2 =>
    oI .i64 (cell h2 (Addr.add e_1 2)) fun n3 =>
    oI .i64 (cell h2 (Addr.add e_1 3)) fun n4 =>
    oI .i64 (cell h2 e_1) fun n5 =>
    ALC ⟨Z_impl_Voice⟩ T_impl_Voice (fun g6 h7 =>
    PIN h2 e_1 1 h7 <|
    PIN h2 (Addr.add e_1 3) 1 h7 <|
    PIN h2 (Addr.add e_1 2) 1 h7 <|
    STA 45 h7 ⟨g6, 0, none⟩ (⟨[.int .i64 n3, .int .i64 n4, .int .i64 n5, .bool false, .float .f32 0, .slice none 0 0, .int .i64 (0 : Int), .int .i64 (0 : Int), .float .f32 0, .float .f32 0, .float .f32 0, .float .f32 0, .float .f32 0, .int .i64 (0 : Int), .float .f32 0, .float .f32 0, .float .f32 0, .float .f32 0, .float .f32 0, .float .f32 0, .slice none 0 0, .slice none 0 0, .slice none 0 0, .int .i64 (0 : Int), .float .f32 0, .float .f32 0, .float .f32 0, .float .f32 0, .float .f32 0, .bool false, .float .f32 0, .float .f32 0, .float .f32 0, .slice none 0 0, .int .i64 (0 : Int), .slice none 0 0, .int .i64 (0 : Int), .int .i64 (0 : Int), .float .f32 0, .float .f32 0, .float .f32 0, .float .f32 0, .float .f32 0, .float .f32 0, .float .f32 0]⟩ : Array Value) fun h8 =>
    oL (cell h8 (Addr.add s_0 4)) fun l9b l9l l9c =>
    oI .i64 (cell h8 (Addr.add e_1 3)) fun n10 =>
    IDXS l9b n10 l9l fun p11 =>
    LDA 5 h8 ((Addr.add p11 ((Int.toNat n10) * 5))) fun a12 =>
    ALC ⟨Z_impl_Instrument⟩ T_impl_Instrument (fun g13 h14 =>
    PIN h8 ((Addr.add p11 ((Int.toNat n10) * 5))) 5 h14 <|
    PIN h8 (Addr.add e_1 3) 1 h14 <|
    PIN h8 (Addr.add s_0 4) 1 h14 <|
    STA 5 h14 ⟨g13, 0, none⟩ a12 fun h15 =>
    LDA 3 h15 (Addr.add s_0 1) fun a16 =>
    oI .i64 (cell h15 (Addr.add e_1 4)) fun n17 =>
    oF .f32 (cell h15 s_0) fun r18 =>
    CALL prg f_spec_PeriodOfKey #[.agg a16, .int .i64 n17, .float .f32 r18] (fun q19 h20 =>
    TUP2 q19 fun q21 q22 =>
    asF .f32 q21 fun r23 =>
    asI .i64 q22 fun n24 =>
    BIF (n24 != (0 : Int)) (
    STA 45 h20 ⟨g1, 0, none⟩ (⟨[.int .i64 (0 : Int), .int .i64 (0 : Int), .int .i64 (0 : Int), .bool false, .float .f32 0, .slice none 0 0, .int .i64 (0 : Int), .int .i64 (0 : Int), .float .f32 0, .float .f32 0, .float .f32 0, .float .f32 0, .float .f32 0, .int .i64 (0 : Int), .float .f32 0, .float .f32 0, .float .f32 0, .float .f32 0, .float .f32 0, .float .f32 0, .slice none 0 0, .slice none 0 0, .slice none 0 0, .int .i64 (0 : Int), .float .f32 0, .float .f32 0, .float .f32 0, .float .f32 0, .float .f32 0, .bool false, .float .f32 0, .float .f32 0, .float .f32 0, .slice none 0 0, .int .i64 (0 : Int), .slice none 0 0, .int .i64 (0 : Int), .int .i64 (0 : Int), .float .f32 0, .float .f32 0, .float .f32 0, .float .f32 0, .float .f32 0, .float .f32 0, .float .f32 0]⟩ : Array Value) fun h25 =>
    LDA 45 h25 ⟨g1, 0, none⟩ fun a26 =>
    Post (.tuple ⟨[.agg a26, .bool false]⟩) h25) (
    oI .i64 (cell h20 ⟨g13, 1, none⟩) fun n27 =>
    BIF (n27 == (1 : Int)) (
    oF .f32 (cell h20 ⟨g13, 2, none⟩) fun r28 =>
    oF .f32 (cell h20 ⟨g13, 3, none⟩) fun r29 =>
    CALL prg f_spec_NewString #[.float .f32 r23, .float .f32 r28, .float .f32 r29] (fun q30 h31 =>
    TUP2 q30 fun q32 q33 =>
    asA q32 fun a34 =>
    asI .i64 q33 fun n35 =>
    ALC ⟨Z_impl_String⟩ T_impl_String (fun g36 h37 =>
    STA 15 h37 ⟨g36, 0, none⟩ a34 fun h38 =>
    BIF (n35 != (0 : Int)) (
    STA 45 h38 ⟨g1, 0, none⟩ (⟨[.int .i64 (0 : Int), .int .i64 (0 : Int), .int .i64 (0 : Int), .bool false, .float .f32 0, .slice none 0 0, .int .i64 (0 : Int), .int .i64 (0 : Int), .float .f32 0, .float .f32 0, .float .f32 0, .float .f32 0, .float .f32 0, .int .i64 (0 : Int), .float .f32 0, .float .f32 0, .float .f32 0, .float .f32 0, .float .f32 0, .float .f32 0, .slice none 0 0, .slice none 0 0, .slice none 0 0, .int .i64 (0 : Int), .float .f32 0, .float .f32 0, .float .f32 0, .float .f32 0, .float .f32 0, .bool false, .float .f32 0, .float .f32 0, .float .f32 0, .slice none 0 0, .int .i64 (0 : Int), .slice none 0 0, .int .i64 (0 : Int), .int .i64 (0 : Int), .float .f32 0, .float .f32 0, .float .f32 0, .float .f32 0, .float .f32 0, .float .f32 0, .float .f32 0]⟩ : Array Value) fun h39 =>
    LDA 45 h39 ⟨g1, 0, none⟩ fun a40 =>
    Post (.tuple ⟨[.agg a40, .bool false]⟩) h39) (
    LDA 15 h38 ⟨g36, 0, none⟩ fun a41 =>
    oF .f32 (cell h38 ⟨g13, 4, none⟩) fun r42 =>
    oF .f32 (cell h38 (Addr.add e_1 5)) fun r43 =>
    (CALL prg f_spec_PluckString #[.agg a41, .float .f32 r42, .float .f32 r43] (fun q44 h45 =>
    TUP2 q44 fun q46 q47 =>
    asA q46 fun a48 =>
    asI .i64 q47 fun n49 =>
    ALC ⟨Z_impl_String⟩ T_impl_String (fun g50 h51 =>
    PIN h38 (Addr.add e_1 5) 1 h51 <|
    PIN h38 ⟨g13, 4, none⟩ 1 h51 <|
    PIN h38 ⟨g36, 0, none⟩ 15 h51 <|
    STA 15 h51 ⟨g50, 0, none⟩ a48 fun h52 =>
    spec_l09For.J12 Post ⟨g1, 0, none⟩ ⟨g6, 0, none⟩ ⟨g50, 0, none⟩ n49 h52) h45) h38) ∧ (ALC ⟨Z_impl_String⟩ T_impl_String (fun g53 h54 =>
    PIN h38 (Addr.add e_1 5) 1 h54 <|
    PIN h38 ⟨g13, 4, none⟩ 1 h54 <|
    PIN h38 ⟨g36, 0, none⟩ 15 h54 <|
    CALL prg f_spec_PluckString #[.agg a41, .float .f32 r42, .float .f32 r43] (fun q55 h56 =>
    TUP2 q55 fun q57 q58 =>
    asA q57 fun a59 =>
    asI .i64 q58 fun n60 =>
    STA 15 h56 ⟨g53, 0, none⟩ a59 fun h61 =>
    spec_l09For.J12 Post ⟨g1, 0, none⟩ ⟨g6, 0, none⟩ ⟨g53, 0, none⟩ n60 h61) h54) h38))) h31) h20) (
    BIF (n27 == (2 : Int)) (
    oF .f32 (cell h20 ⟨g13, 4, none⟩) fun r62 =>
    BIF (FloatKind.f32.format.order r62 1065353216 == some .eq) (
    spec_l09For.J18 Post e_1 ⟨g1, 0, none⟩ ⟨g6, 0, none⟩ ⟨g13, 0, none⟩ r23 1073741824 h20) (
    spec_l09For.J18 Post e_1 ⟨g1, 0, none⟩ ⟨g6, 0, none⟩ ⟨g13, 0, none⟩ r23 1082130432 h20)) (
    oF .f32 (cell h20 ⟨g13, 2, none⟩) fun r63 =>
    oF .f32 (cell h20 ⟨g13, 3, none⟩) fun r64 =>
    oF .f32 (cell h20 ⟨g13, 4, none⟩) fun r65 =>
    (CALL prg f_spec_l09Floor #[.float .f32 r23] (fun q66 h67 =>
    asI .i64 q66 fun n68 =>
    PIN h20 ⟨g13, 4, none⟩ 1 h67 <|
    PIN h20 ⟨g13, 3, none⟩ 1 h67 <|
    PIN h20 ⟨g13, 2, none⟩ 1 h67 <|
    (CALL prg f_spec_NewBow #[.int .i64 n68, .float .f32 1040187392, .float .f32 r63, .float .f32 r64, .float .f32 r65] (fun q69 h70 =>
    TUP2 q69 fun q71 q72 =>
    asA q71 fun a73 =>
    asI .i64 q72 fun n74 =>
    ALC ⟨Z_impl_Bow⟩ T_impl_Bow (fun g75 h76 =>
    PIN h20 ⟨g13, 4, none⟩ 1 h76 <|
    PIN h20 ⟨g13, 3, none⟩ 1 h76 <|
    PIN h20 ⟨g13, 2, none⟩ 1 h76 <|
    STA 12 h76 ⟨g75, 0, none⟩ a73 fun h77 =>
    spec_l09For.J23 Post e_1 ⟨g1, 0, none⟩ ⟨g6, 0, none⟩ ⟨g75, 0, none⟩ n74 h77) h70) h67) ∧ (ALC ⟨Z_impl_Bow⟩ T_impl_Bow (fun g78 h79 =>
    PIN h20 ⟨g13, 4, none⟩ 1 h79 <|
    PIN h20 ⟨g13, 3, none⟩ 1 h79 <|
    PIN h20 ⟨g13, 2, none⟩ 1 h79 <|
    CALL prg f_spec_NewBow #[.int .i64 n68, .float .f32 1040187392, .float .f32 r63, .float .f32 r64, .float .f32 r65] (fun q80 h81 =>
    TUP2 q80 fun q82 q83 =>
    asA q82 fun a84 =>
    asI .i64 q83 fun n85 =>
    STA 12 h81 ⟨g78, 0, none⟩ a84 fun h86 =>
    spec_l09For.J23 Post e_1 ⟨g1, 0, none⟩ ⟨g6, 0, none⟩ ⟨g78, 0, none⟩ n85 h86) h79) h67)) h20) ∧ (ALC ⟨Z_impl_Bow⟩ T_impl_Bow (fun g87 h88 =>
    PIN h20 ⟨g13, 4, none⟩ 1 h88 <|
    PIN h20 ⟨g13, 3, none⟩ 1 h88 <|
    PIN h20 ⟨g13, 2, none⟩ 1 h88 <|
    CALL prg f_spec_l09Floor #[.float .f32 r23] (fun q89 h90 =>
    asI .i64 q89 fun n91 =>
    PIN h20 ⟨g13, 4, none⟩ 1 h90 <|
    PIN h20 ⟨g13, 3, none⟩ 1 h90 <|
    PIN h20 ⟨g13, 2, none⟩ 1 h90 <|
    CALL prg f_spec_NewBow #[.int .i64 n91, .float .f32 1040187392, .float .f32 r63, .float .f32 r64, .float .f32 r65] (fun q92 h93 =>
    TUP2 q92 fun q94 q95 =>
    asA q94 fun a96 =>
    asI .i64 q95 fun n97 =>
    STA 12 h93 ⟨g87, 0, none⟩ a96 fun h98 =>
    spec_l09For.J23 Post e_1 ⟨g1, 0, none⟩ ⟨g6, 0, none⟩ ⟨g87, 0, none⟩ n97 h98) h90) h88) h20))))) h15) h8) h2) h
noncomputable def spec_l09For.code : Code := (Tryz.f96.body).getD .skip
theorem spec_l09For.call {s_0 : Addr} {e_1 : Addr} {Post : Value → Heap → Prop} {h : Heap} (H : spec_l09For.S s_0 e_1 Post h) : CALL prg f_spec_l09For #[.pointer (some s_0), .pointer (some e_1)] Post h :=
  fn_call tau_ok mixed (c := spec_l09For.code) (Λ := lookL [(12, spec_l09For.j12 Post), (18, spec_l09For.j18 Post), (19, spec_l09For.j19 Post), (23, spec_l09For.j23 Post)]) Tryz.func96 (by kernel_rfl) (by kernel_rfl)
    (Rq.seq (by kernel_rfl) (Rq.free (by kernel_rfl)) (Rq.seq (by kernel_rfl) (Rq.free (by kernel_rfl)) (Rq.seq (by kernel_rfl) (Rq.free (by kernel_rfl)) (Rq.seq (by kernel_rfl) (Rq.free (by kernel_rfl)) (Rq.seq (by kernel_rfl) (Rq.free (by kernel_rfl)) (Rq.seq (by kernel_rfl) (Rq.seq (by kernel_rfl) (Rq.free (by kernel_rfl)) (Rq.block (Rq.seq (by kernel_rfl) (Rq.free (by kernel_rfl)) (Rq.cond (Rq.seq (by kernel_rfl) (Rq.free (by kernel_rfl)) (Rq.seq (by kernel_rfl) (Rq.free (by kernel_rfl)) (Rq.seqJ (spec_l09For.j12 Post) (by kernel_rfl) (seg (fun _ _ => by kernel_rfl)) (Rq.free (by kernel_rfl))
(Rq.free (by kernel_rfl))))) (Rq.seq (by kernel_rfl) (Rq.free (by kernel_rfl)) (Rq.cond (Rq.seq (by kernel_rfl) (Rq.free (by kernel_rfl)) (Rq.seqJ (spec_l09For.j18 Post) (by kernel_rfl) (seg (fun _ _ => by kernel_rfl)) (Rq.free (by kernel_rfl))
(Rq.seqJ (spec_l09For.j19 Post) (by kernel_rfl) (seg (fun _ _ => by kernel_rfl)) (Rq.free (by kernel_rfl))
(Rq.free (by kernel_rfl))))) (Rq.free (by kernel_rfl)))))))) (Rq.seqJ (spec_l09For.j23 Post) (by kernel_rfl) (seg (fun _ _ => by kernel_rfl)) (Rq.free (by kernel_rfl))
(Rq.free (by kernel_rfl)))))))))
    (Eq.mp (by kernel_rfl) H)

def impl_AllpassFor.J3 (Post : Value → Heap → Prop) (fraction_0 : Nat) (t2 : Addr) (h : Heap) : Prop :=
    FOP .f32 (FloatKind.f32.format.sub 1065353216 fraction_0) fun r7 =>
    FOP .f32 (FloatKind.f32.format.add 1065353216 fraction_0) fun r8 =>
    FOP .f32 (FloatKind.f32.format.div r7 r8) fun r9 =>
    SIZ (Array.size (⟨[.float .f32 r9, .float .f32 0, .float .f32 0]⟩ : Array Value)) 3 <|
    STA 6 h t2 (⟨[.int .i64 (3 : Int), .float .f32 r9, .float .f32 0, .float .f32 0, .float .f32 0, .float .f32 0]⟩ : Array Value) fun h10 =>
    LDA 6 h10 t2 fun a11 =>
    Post (.tuple ⟨[.agg a11, .int .i64 (0 : Int)]⟩) h10
def impl_AllpassFor.j3 (Post : Value → Heap → Prop) : Frame → Heap → Prop := fun fr h => GRD (shape (kds 19 [(0, .f .f32), (2, .p)]) fr) (impl_AllpassFor.J3 Post (gF (lget fr 0)) (gP (lget fr 2)) h)
def impl_AllpassFor.S (fraction_0 : Nat) (Post : Value → Heap → Prop) (h : Heap) : Prop :=
    ALC ⟨Z_impl_Filter⟩ T_impl_Filter (fun g1 h2 =>
    BIF (FloatKind.f32.format.order fraction_0 0 == some .gt || FloatKind.f32.format.order fraction_0 0 == some .eq) (
    BIF (!(FloatKind.f32.format.order fraction_0 1073741824 == some .lt || FloatKind.f32.format.order fraction_0 1073741824 == some .eq)) (
    STA 6 h2 ⟨g1, 0, none⟩ (⟨[.int .i64 (0 : Int), .float .f32 0, .float .f32 0, .float .f32 0, .float .f32 0, .float .f32 0]⟩ : Array Value) fun h3 =>
    LDA 6 h3 ⟨g1, 0, none⟩ fun a4 =>
    Post (.tuple ⟨[.agg a4, .int .i64 (2 : Int)]⟩) h3) (
    impl_AllpassFor.J3 Post fraction_0 ⟨g1, 0, none⟩ h2)) (
    STA 6 h2 ⟨g1, 0, none⟩ (⟨[.int .i64 (0 : Int), .float .f32 0, .float .f32 0, .float .f32 0, .float .f32 0, .float .f32 0]⟩ : Array Value) fun h5 =>
    LDA 6 h5 ⟨g1, 0, none⟩ fun a6 =>
    Post (.tuple ⟨[.agg a6, .int .i64 (2 : Int)]⟩) h5)) h
noncomputable def impl_AllpassFor.code : Code := (Tryz.f233.body).getD .skip
theorem impl_AllpassFor.call {fraction_0 : Nat} {Post : Value → Heap → Prop} {h : Heap} (H : impl_AllpassFor.S fraction_0 Post h) : CALL prg f_impl_AllpassFor #[.float .f32 fraction_0] Post h :=
  fn_call tau_ok mixed (c := impl_AllpassFor.code) (Λ := lookL [(3, impl_AllpassFor.j3 Post)]) Tryz.func233 (by kernel_rfl) (by kernel_rfl)
    (Rq.seq (by kernel_rfl) (Rq.free (by kernel_rfl)) (Rq.seqJ (impl_AllpassFor.j3 Post) (by kernel_rfl) (seg (fun _ _ => by kernel_rfl)) (Rq.free (by kernel_rfl))
(Rq.free (by kernel_rfl))))
    (Eq.mp (by kernel_rfl) H)

def impl_OneZero.S (mix_0 : Nat) (Post : Value → Heap → Prop) (h : Heap) : Prop :=
    ALC ⟨Z_impl_Filter⟩ T_impl_Filter (fun g1 h2 =>
    FOP .f32 (FloatKind.f32.format.sub 1065353216 mix_0) fun r3 =>
    SIZ (Array.size (⟨[.float .f32 r3, .float .f32 mix_0, .float .f32 0]⟩ : Array Value)) 3 <|
    STA 6 h2 ⟨g1, 0, none⟩ (⟨[.int .i64 (2 : Int), .float .f32 r3, .float .f32 mix_0, .float .f32 0, .float .f32 0, .float .f32 0]⟩ : Array Value) fun h4 =>
    LDA 6 h4 ⟨g1, 0, none⟩ fun a5 =>
    Post (.agg a5) h4) h
noncomputable def impl_OneZero.code : Code := (Tryz.f234.body).getD .skip
theorem impl_OneZero.call {mix_0 : Nat} {Post : Value → Heap → Prop} {h : Heap} (H : impl_OneZero.S mix_0 Post h) : CALL prg f_impl_OneZero #[.float .f32 mix_0] Post h :=
  fn_call tau_ok mixed (c := impl_OneZero.code) (Λ := lookL []) Tryz.func234 (by kernel_rfl) (by kernel_rfl)
    (Rq.free (by kernel_rfl))
    (Eq.mp (by kernel_rfl) H)

def impl_NewString.J7 (Post : Value → Heap → Prop) (mix_1 : Nat) (loss_2 : Nat) (t6 : Addr) (d_8 : Nat) (n_9 : Nat) (h : Heap) : Prop :=
    FIC .f32 n_9 .i64 fun n26 =>
    CALL prg f_impl_NewRing #[.int .i64 n26] (fun q27 h28 =>
    TUP2 q27 fun q29 q30 =>
    asA q29 fun a31 =>
    asI .i64 q30 fun n32 =>
    ALC ⟨Z_impl_Ring⟩ T_impl_Ring (fun g33 h34 =>
    STA 2 h34 ⟨g33, 0, none⟩ a31 fun h35 =>
    FOP .f32 (FloatKind.f32.format.sub d_8 n_9) fun r36 =>
    CALL prg f_impl_AllpassFor #[.float .f32 r36] (fun q37 h38 =>
    TUP2 q37 fun q39 q40 =>
    asA q39 fun a41 =>
    asI .i64 q40 fun n42 =>
    ALC ⟨Z_impl_Filter⟩ T_impl_Filter (fun g43 h44 =>
    STA 6 h44 ⟨g43, 0, none⟩ a41 fun h45 =>
    LDA 2 h45 ⟨g33, 0, none⟩ fun a46 =>
    LDA 6 h45 ⟨g43, 0, none⟩ fun a47 =>
    CALL prg f_impl_OneZero #[.float .f32 mix_1] (fun q48 h49 =>
    asA q48 fun a50 =>
    PIN h45 ⟨g43, 0, none⟩ 6 h49 <|
    PIN h45 ⟨g33, 0, none⟩ 2 h49 <|
    SIZ (Array.size a46) 2 <|
    SIZ (Array.size a47) 6 <|
    SIZ (Array.size a50) 6 <|
    STA 15 h49 t6 ⟨(List.set (splice 8 6 a50 (splice 2 6 a47 (splice 0 2 a46 [.slice none 0 0, .int .i64 (0 : Int), .int .i64 (0 : Int), .float .f32 0, .float .f32 0, .float .f32 0, .float .f32 0, .float .f32 0, .int .i64 (0 : Int), .float .f32 0, .float .f32 0, .float .f32 0, .float .f32 0, .float .f32 0, .float .f32 0]))) 14 (.float .f32 loss_2))⟩ fun h51 =>
    LDA 15 h51 t6 fun a52 =>
    Post (.tuple ⟨[.agg a52, .int .i64 (0 : Int)]⟩) h51) h45) h38) h35) h28) h
def impl_NewString.j7 (Post : Value → Heap → Prop) : Frame → Heap → Prop := fun fr h => GRD (shape (kds 60 [(1, .f .f32), (2, .f .f32), (6, .p), (8, .f .f32), (9, .f .f32)]) fr) (impl_NewString.J7 Post (gF (lget fr 1)) (gF (lget fr 2)) (gP (lget fr 6)) (gF (lget fr 8)) (gF (lget fr 9)) h)
def impl_NewString.J3 (Post : Value → Heap → Prop) (period_0 : Nat) (mix_1 : Nat) (loss_2 : Nat) (t6 : Addr) (h : Heap) : Prop :=
    FOP .f32 (FloatKind.f32.format.sub period_0 mix_1) fun r18 =>
    FFC .f32 r18 .f64 fun r19 =>
    CALL prg f_math_Floor #[.float .f64 r19] (fun q20 h21 =>
    asF .f64 q20 fun r22 =>
    FFC .f64 r22 .f32 fun r23 =>
    FOP .f32 (FloatKind.f32.format.sub r18 r23) fun r24 =>
    BIF (FloatKind.f32.format.order r24 1048576000 == some .lt) (
    FOP .f32 (FloatKind.f32.format.sub r23 1065353216) fun r25 =>
    impl_NewString.J7 Post mix_1 loss_2 t6 r18 r25 h21) (
    impl_NewString.J7 Post mix_1 loss_2 t6 r18 r23 h21)) h
def impl_NewString.j3 (Post : Value → Heap → Prop) : Frame → Heap → Prop := fun fr h => GRD (shape (kds 60 [(0, .f .f32), (1, .f .f32), (2, .f .f32), (6, .p)]) fr) (impl_NewString.J3 Post (gF (lget fr 0)) (gF (lget fr 1)) (gF (lget fr 2)) (gP (lget fr 6)) h)
def impl_NewString.S (period_0 : Nat) (mix_1 : Nat) (loss_2 : Nat) (Post : Value → Heap → Prop) (h : Heap) : Prop :=
    ALC ⟨Z_impl_String⟩ T_impl_String (fun g1 h2 =>
    CALL prg f_impl_inside #[.float .f32 period_0, .float .f32 1077936128, .float .f32 1149239296] (fun q3 h4 =>
    asB q3 fun b5 =>
    BIF (!b5) (
    STA 15 h4 ⟨g1, 0, none⟩ (⟨[.slice none 0 0, .int .i64 (0 : Int), .int .i64 (0 : Int), .float .f32 0, .float .f32 0, .float .f32 0, .float .f32 0, .float .f32 0, .int .i64 (0 : Int), .float .f32 0, .float .f32 0, .float .f32 0, .float .f32 0, .float .f32 0, .float .f32 0]⟩ : Array Value) fun h6 =>
    LDA 15 h6 ⟨g1, 0, none⟩ fun a7 =>
    Post (.tuple ⟨[.agg a7, .int .i64 (2 : Int)]⟩) h6) (
    CALL prg f_impl_inside #[.float .f32 mix_1, .float .f32 0, .float .f32 1056964608] (fun q8 h9 =>
    asB q8 fun b10 =>
    BIF (!b10) (
    STA 15 h9 ⟨g1, 0, none⟩ (⟨[.slice none 0 0, .int .i64 (0 : Int), .int .i64 (0 : Int), .float .f32 0, .float .f32 0, .float .f32 0, .float .f32 0, .float .f32 0, .int .i64 (0 : Int), .float .f32 0, .float .f32 0, .float .f32 0, .float .f32 0, .float .f32 0, .float .f32 0]⟩ : Array Value) fun h11 =>
    LDA 15 h11 ⟨g1, 0, none⟩ fun a12 =>
    Post (.tuple ⟨[.agg a12, .int .i64 (2 : Int)]⟩) h11) (
    CALL prg f_impl_inside #[.float .f32 loss_2, .float .f32 0, .float .f32 1065353216] (fun q13 h14 =>
    asB q13 fun b15 =>
    BIF (!b15) (
    STA 15 h14 ⟨g1, 0, none⟩ (⟨[.slice none 0 0, .int .i64 (0 : Int), .int .i64 (0 : Int), .float .f32 0, .float .f32 0, .float .f32 0, .float .f32 0, .float .f32 0, .int .i64 (0 : Int), .float .f32 0, .float .f32 0, .float .f32 0, .float .f32 0, .float .f32 0, .float .f32 0]⟩ : Array Value) fun h16 =>
    LDA 15 h16 ⟨g1, 0, none⟩ fun a17 =>
    Post (.tuple ⟨[.agg a17, .int .i64 (2 : Int)]⟩) h16) (
    impl_NewString.J3 Post period_0 mix_1 loss_2 ⟨g1, 0, none⟩ h14)) h9)) h4)) h2) h
noncomputable def impl_NewString.code : Code := (Tryz.f165.body).getD .skip
theorem impl_NewString.call {period_0 : Nat} {mix_1 : Nat} {loss_2 : Nat} {Post : Value → Heap → Prop} {h : Heap} (H : impl_NewString.S period_0 mix_1 loss_2 Post h) : CALL prg f_impl_NewString #[.float .f32 period_0, .float .f32 mix_1, .float .f32 loss_2] Post h :=
  fn_call tau_ok mixed (c := impl_NewString.code) (Λ := lookL [(3, impl_NewString.j3 Post), (7, impl_NewString.j7 Post)]) Tryz.func165 (by kernel_rfl) (by kernel_rfl)
    (Rq.seq (by kernel_rfl) (Rq.free (by kernel_rfl)) (Rq.seqJ (impl_NewString.j3 Post) (by kernel_rfl) (seg (fun _ _ => by kernel_rfl)) (Rq.free (by kernel_rfl))
(Rq.seq (by kernel_rfl) (Rq.free (by kernel_rfl)) (Rq.seq (by kernel_rfl) (Rq.free (by kernel_rfl)) (Rq.seqJ (impl_NewString.j7 Post) (by kernel_rfl) (seg (fun _ _ => by kernel_rfl)) (Rq.free (by kernel_rfl))
(Rq.free (by kernel_rfl)))))))
    (Eq.mp (by kernel_rfl) H)

def impl_PluckString_c1.S (i_0 : Int) (a_1 : Nat) (t2 : Addr) (t3 : Addr) (t4 : Addr) (Post : Value → Heap → Prop) (h : Heap) : Prop :=
    oF .f32 (cell h t2) fun r1 =>
    BIF (FloatKind.f32.format.order (FloatKind.f32.nearest i_0) r1 == some .lt) (
    oF .f32 (cell h t3) fun r2 =>
    oF .f32 (cell h t2) fun r3 =>
    FOP .f32 (FloatKind.f32.format.div (FloatKind.f32.nearest i_0) r3) fun r4 =>
    FOP .f32 (FloatKind.f32.format.mul r2 r4) fun r5 =>
    FOP .f32 (FloatKind.f32.format.add a_1 r5) fun r6 =>
    Post (.float .f32 r6) h) (
    oF .f32 (cell h t3) fun r7 =>
    oF .f32 (cell h t4) fun r8 =>
    FOP .f32 (FloatKind.f32.format.sub r8 (FloatKind.f32.nearest i_0)) fun r9 =>
    oF .f32 (cell h t4) fun r10 =>
    oF .f32 (cell h t2) fun r11 =>
    FOP .f32 (FloatKind.f32.format.sub r10 r11) fun r12 =>
    FOP .f32 (FloatKind.f32.format.div r9 r12) fun r13 =>
    FOP .f32 (FloatKind.f32.format.mul r7 r13) fun r14 =>
    FOP .f32 (FloatKind.f32.format.add a_1 r14) fun r15 =>
    Post (.float .f32 r15) h)
noncomputable def impl_PluckString_c1.code : Code := (Tryz.f238.body).getD .skip
theorem impl_PluckString_c1.call {i_0 : Int} {a_1 : Nat} {t2 : Addr} {t3 : Addr} {t4 : Addr} {Post : Value → Heap → Prop} {h : Heap} (H : impl_PluckString_c1.S i_0 a_1 t2 t3 t4 Post h) : CALL prg f_impl_PluckString_c1 #[.int .i64 i_0, .float .f32 a_1, .pointer (some t2), .pointer (some t3), .pointer (some t4)] Post h :=
  fn_call tau_ok mixed (c := impl_PluckString_c1.code) (Λ := lookL []) Tryz.func238 (by kernel_rfl) (by kernel_rfl)
    (Rq.free (by kernel_rfl))
    (Eq.mp (by kernel_rfl) H)

def impl_String_clone.S (x_0 : Array Value) (Post : Value → Heap → Prop) (h : Heap) : Prop :=
    ALC x_0 T_impl_String (fun g1 h2 =>
    ALC ⟨Z_impl_String⟩ T_impl_String (fun g3 h4 =>
    LDA 2 h4 ⟨g1, 0, none⟩ fun a5 =>
    CALL prg f_impl_Ring_clone #[.agg a5] (fun q6 h7 =>
    asA q6 fun a8 =>
    STA 2 h7 ⟨g1, 0, none⟩ a8 fun h9 =>
    LDA 15 h9 ⟨g1, 0, none⟩ fun a10 =>
    STA 15 h9 ⟨g3, 0, none⟩ a10 fun h11 =>
    LDA 15 h11 ⟨g3, 0, none⟩ fun a12 =>
    Post (.agg a12) h11) h4) h2) h
noncomputable def impl_String_clone.code : Code := (Tryz.f278.body).getD .skip
theorem impl_String_clone.call {x_0 : Array Value} {Post : Value → Heap → Prop} {h : Heap} (H : impl_String_clone.S x_0 Post h) : CALL prg f_impl_String_clone #[.agg x_0] Post h :=
  fn_call tau_ok mixed (c := impl_String_clone.code) (Λ := lookL []) Tryz.func278 (by kernel_rfl) (by kernel_rfl)
    (Rq.free (by kernel_rfl))
    (Eq.mp (by kernel_rfl) H)

def impl_String_changed.B4 (Post : Value → Heap → Prop) (N4 : (Value × Addr × Addr × Int × Int × Int) → Heap → Prop) : Value × Addr × Addr × Int × Int × Int → Heap → Prop
  | (do_1, x_2, t4, n_5, t14, t15), h =>
    BIF (decide (t15 < t14)) (
    oI .i64 (cell h (Addr.add x_2 1)) fun n13 =>
    NZ n_5 <|
    oL (cell h x_2) fun l14b l14l l14c =>
    oL (cell h x_2) fun l15b l15l l15c =>
    IDXS l15b ((Int.tmod (IntKind.i64.wrap (n13 + t15)) n_5)) l15l fun p16 =>
    oF .f32 (cell h ((Addr.add p16 ((Int.toNat ((Int.tmod (IntKind.i64.wrap (n13 + t15)) n_5))) * 1)))) fun r17 =>
    CALLD prg do_1 #[.int .i64 t15, .float .f32 r17] (fun q18 h19 =>
    asF .f32 q18 fun r20 =>
    PIN h x_2 1 h19 <|
    IDXS l14b ((Int.tmod (IntKind.i64.wrap (n13 + t15)) n_5)) l14l fun p21 =>
    ST1 h19 ((Addr.add p21 ((Int.toNat ((Int.tmod (IntKind.i64.wrap (n13 + t15)) n_5))) * 1))) (.float .f32 r20) fun h22 =>
    N4 (do_1, x_2, t4, n_5, t14, ((IntKind.i64.wrap (t15 + (1 : Int))))) h22) h) (
    LDA 15 h x_2 fun a23 =>
    STA 15 h t4 a23 fun h24 =>
    LDA 15 h24 t4 fun a25 =>
    Post (.agg a25) h24)
def impl_String_changed.g4 (fr : Frame) : Value × Addr × Addr × Int × Int × Int := ((lget fr 1), (gP (lget fr 2)), (gP (lget fr 4)), (gI (lget fr 5)), (gI (lget fr 14)), (gI (lget fr 15)))
def impl_String_changed.l4 (Post : Value → Heap → Prop) : Frame → Heap → Prop := fun fr h => GRD (shape (kds 41 [(1, .v), (2, .p), (4, .p), (5, .i .i64), (14, .i .i64), (15, .i .i64)]) fr) (LOOP (impl_String_changed.B4 Post) (impl_String_changed.g4 fr) h)
def impl_String_changed.S (x_0 : Array Value) (do_1 : Value) (Post : Value → Heap → Prop) (h : Heap) : Prop :=
    ALC x_0 T_impl_String (fun g1 h2 =>
    ALC ⟨Z_impl_String⟩ T_impl_String (fun g3 h4 =>
    LDA 15 h4 ⟨g1, 0, none⟩ fun a5 =>
    CALL prg f_impl_String_clone #[.agg a5] (fun q6 h7 =>
    asA q6 fun a8 =>
    STA 15 h7 ⟨g1, 0, none⟩ a8 fun h9 =>
    oL (cell h9 ⟨g1, 0, none⟩) fun l10b l10l l10c =>
    LOOP (impl_String_changed.B4 Post) (do_1, ⟨g1, 0, none⟩, ⟨g3, 0, none⟩, (l10l : Int), (l10l : Int), (0 : Int)) h9) h4) h2) h
noncomputable def impl_String_changed.code : Code := (Tryz.f237.body).getD .skip
theorem impl_String_changed.call {x_0 : Array Value} {do_1 : Value} {Post : Value → Heap → Prop} {h : Heap} (H : impl_String_changed.S x_0 do_1 Post h) : CALL prg f_impl_String_changed #[.agg x_0, do_1] Post h :=
  fn_call tau_ok mixed (c := impl_String_changed.code) (Λ := lookL [(1000004, impl_String_changed.l4 Post)]) Tryz.func237 (by kernel_rfl) (by kernel_rfl)
    (Rq.seq (by kernel_rfl) (Rq.free (by kernel_rfl)) (Rq.seq (by kernel_rfl) (Rq.free (by kernel_rfl)) (Rq.seq (by kernel_rfl) (Rq.free (by kernel_rfl)) (Rq.seq (by kernel_rfl) (Rq.seq (by kernel_rfl) (Rq.free (by kernel_rfl)) (Rq.block (Rq.loop (impl_String_changed.l4 Post) (by kernel_rfl) (segL (g := impl_String_changed.g4) tau_ok mixed (Λ := fun N4 => lookL []) (fun _ _ _ => by kernel_rfl) (fun N4 => (Rq.free (by kernel_rfl))))))) (Rq.free (by kernel_rfl))))))
    (Eq.mp (by kernel_rfl) H)

def impl_PluckString.J5 (Post : Value → Heap → Prop) (place_1 : Nat) (x_3 : Addr) (force_5 : Addr) (t6 : Addr) (h : Heap) : Prop :=
    oL (cell h x_3) fun l24b l24l l24c =>
    ALC ⟨Z_float32⟩ T_float32 (fun g27 h28 =>
    ST1 h28 ⟨g27, 0, none⟩ (.float .f32 (FloatKind.f32.nearest (l24l : Int))) fun h29 =>
    oF .f32 (cell h29 ⟨g27, 0, none⟩) fun r30 =>
    FOP .f32 (FloatKind.f32.format.mul place_1 r30) fun r31 =>
    ALC ⟨Z_float32⟩ T_float32 (fun g32 h33 =>
    ST1 h33 ⟨g32, 0, none⟩ (.float .f32 r31) fun h34 =>
    LDA 15 h34 x_3 fun a35 =>
    CALL prg f_impl_String_changed #[.agg a35, .func (.func 238) #[] #[.pointer (some ⟨g32, 0, none⟩), .pointer (some force_5), .pointer (some ⟨g27, 0, none⟩)]] (fun q36 h37 =>
    asA q36 fun a38 =>
    STA 15 h37 t6 a38 fun h39 =>
    LDA 15 h39 t6 fun a40 =>
    Post (.tuple ⟨[.agg a40, .int .i64 (0 : Int)]⟩) h39) h34) h29) h
def impl_PluckString.j5 (Post : Value → Heap → Prop) : Frame → Heap → Prop := fun fr h => GRD (shape (kds 36 [(1, .f .f32), (3, .p), (5, .p), (6, .p)]) fr) (impl_PluckString.J5 Post (gF (lget fr 1)) (gP (lget fr 3)) (gP (lget fr 5)) (gP (lget fr 6)) h)
def impl_PluckString.S (x_0 : Array Value) (place_1 : Nat) (force_2 : Nat) (Post : Value → Heap → Prop) (h : Heap) : Prop :=
    ALC x_0 T_impl_String (fun g1 h2 =>
    ALC #[.float .f32 force_2] T_float32 (fun g3 h4 =>
    ALC ⟨Z_impl_String⟩ T_impl_String (fun g5 h6 =>
    LDA 15 h6 ⟨g1, 0, none⟩ fun a7 =>
    CALL prg f_impl_ValidString #[.agg a7] (fun q8 h9 =>
    asB q8 fun b10 =>
    BIF (!b10) (
    STA 15 h9 ⟨g5, 0, none⟩ (⟨[.slice none 0 0, .int .i64 (0 : Int), .int .i64 (0 : Int), .float .f32 0, .float .f32 0, .float .f32 0, .float .f32 0, .float .f32 0, .int .i64 (0 : Int), .float .f32 0, .float .f32 0, .float .f32 0, .float .f32 0, .float .f32 0, .float .f32 0]⟩ : Array Value) fun h11 =>
    LDA 15 h11 ⟨g5, 0, none⟩ fun a12 =>
    Post (.tuple ⟨[.agg a12, .int .i64 (1 : Int)]⟩) h11) (
    CALL prg f_impl_isPlace #[.float .f32 place_1] (fun q13 h14 =>
    asB q13 fun b15 =>
    BIF (!b15) (
    STA 15 h14 ⟨g5, 0, none⟩ (⟨[.slice none 0 0, .int .i64 (0 : Int), .int .i64 (0 : Int), .float .f32 0, .float .f32 0, .float .f32 0, .float .f32 0, .float .f32 0, .int .i64 (0 : Int), .float .f32 0, .float .f32 0, .float .f32 0, .float .f32 0, .float .f32 0, .float .f32 0]⟩ : Array Value) fun h16 =>
    LDA 15 h16 ⟨g5, 0, none⟩ fun a17 =>
    Post (.tuple ⟨[.agg a17, .int .i64 (2 : Int)]⟩) h16) (
    oF .f32 (cell h14 ⟨g3, 0, none⟩) fun r18 =>
    CALL prg f_impl_isFinite #[.float .f32 r18] (fun q19 h20 =>
    asB q19 fun b21 =>
    BIF (!b21) (
    STA 15 h20 ⟨g5, 0, none⟩ (⟨[.slice none 0 0, .int .i64 (0 : Int), .int .i64 (0 : Int), .float .f32 0, .float .f32 0, .float .f32 0, .float .f32 0, .float .f32 0, .int .i64 (0 : Int), .float .f32 0, .float .f32 0, .float .f32 0, .float .f32 0, .float .f32 0, .float .f32 0]⟩ : Array Value) fun h22 =>
    LDA 15 h22 ⟨g5, 0, none⟩ fun a23 =>
    Post (.tuple ⟨[.agg a23, .int .i64 (2 : Int)]⟩) h22) (
    impl_PluckString.J5 Post place_1 ⟨g1, 0, none⟩ ⟨g3, 0, none⟩ ⟨g5, 0, none⟩ h20)) h14)) h9)) h6) h4) h2) h
noncomputable def impl_PluckString.code : Code := (Tryz.f166.body).getD .skip
theorem impl_PluckString.call {x_0 : Array Value} {place_1 : Nat} {force_2 : Nat} {Post : Value → Heap → Prop} {h : Heap} (H : impl_PluckString.S x_0 place_1 force_2 Post h) : CALL prg f_impl_PluckString #[.agg x_0, .float .f32 place_1, .float .f32 force_2] Post h :=
  fn_call tau_ok mixed (c := impl_PluckString.code) (Λ := lookL [(5, impl_PluckString.j5 Post)]) Tryz.func166 (by kernel_rfl) (by kernel_rfl)
    (Rq.seq (by kernel_rfl) (Rq.free (by kernel_rfl)) (Rq.seqJ (impl_PluckString.j5 Post) (by kernel_rfl) (seg (fun _ _ => by kernel_rfl)) (Rq.free (by kernel_rfl))
(Rq.free (by kernel_rfl))))
    (Eq.mp (by kernel_rfl) H)

def impl_floorOf.S (a_0 : Nat) (Post : Value → Heap → Prop) (h : Heap) : Prop :=
    BIF (!(FloatKind.f32.format.order a_0 1232348160 == some .lt)) (
    Post (.int .i64 (0 : Int)) h) (
    FFC .f32 a_0 .f64 fun r1 =>
    CALL prg f_math_Floor #[.float .f64 r1] (fun q2 h3 =>
    asF .f64 q2 fun r4 =>
    FIC .f64 r4 .i64 fun n5 =>
    Post (.int .i64 n5) h3) h)
noncomputable def impl_floorOf.code : Code := (Tryz.f168.body).getD .skip
theorem impl_floorOf.call {a_0 : Nat} {Post : Value → Heap → Prop} {h : Heap} (H : impl_floorOf.S a_0 Post h) : CALL prg f_impl_floorOf #[.float .f32 a_0] Post h :=
  fn_call tau_ok mixed (c := impl_floorOf.code) (Λ := lookL []) Tryz.func168 (by kernel_rfl) (by kernel_rfl)
    (Rq.free (by kernel_rfl))
    (Eq.mp (by kernel_rfl) H)

def impl_length_int64.S (list_0b : Option Addr) (list_0l list_0c : Nat) (Post : Value → Heap → Prop) (h : Heap) : Prop :=
    Post (.int .i64 (list_0l : Int)) h
noncomputable def impl_length_int64.code : Code := (Tryz.f239.body).getD .skip
theorem impl_length_int64.call {list_0b : Option Addr} {list_0l list_0c : Nat} {Post : Value → Heap → Prop} {h : Heap} (H : impl_length_int64.S list_0b list_0l list_0c Post h) : CALL prg f_impl_length_int64 #[.slice list_0b list_0l list_0c] Post h :=
  fn_call tau_ok mixed (c := impl_length_int64.code) (Λ := lookL []) Tryz.func239 (by kernel_rfl) (by kernel_rfl)
    (Rq.free (by kernel_rfl))
    (Eq.mp (by kernel_rfl) H)

def impl_OnePole.S (keep_0 : Nat) (Post : Value → Heap → Prop) (h : Heap) : Prop :=
    ALC ⟨Z_impl_Filter⟩ T_impl_Filter (fun g1 h2 =>
    FOP .f32 (FloatKind.f32.format.sub 1065353216 keep_0) fun r3 =>
    SIZ (Array.size (⟨[.float .f32 r3, .float .f32 keep_0, .float .f32 0]⟩ : Array Value)) 3 <|
    STA 6 h2 ⟨g1, 0, none⟩ (⟨[.int .i64 (1 : Int), .float .f32 r3, .float .f32 keep_0, .float .f32 0, .float .f32 0, .float .f32 0]⟩ : Array Value) fun h4 =>
    LDA 6 h4 ⟨g1, 0, none⟩ fun a5 =>
    Post (.agg a5) h4) h
noncomputable def impl_OnePole.code : Code := (Tryz.f241.body).getD .skip
theorem impl_OnePole.call {keep_0 : Nat} {Post : Value → Heap → Prop} {h : Heap} (H : impl_OnePole.S keep_0 Post h) : CALL prg f_impl_OnePole #[.float .f32 keep_0] Post h :=
  fn_call tau_ok mixed (c := impl_OnePole.code) (Λ := lookL []) Tryz.func241 (by kernel_rfl) (by kernel_rfl)
    (Rq.free (by kernel_rfl))
    (Eq.mp (by kernel_rfl) H)

def impl_NewPipe.J13 (N9 : (Addr × Bool × Addr × Option Addr × Nat × Nat × Int × Int) → Heap → Prop) (Post : Value → Heap → Prop) (t10 : Addr) (sound_12 : Bool) (x_15 : Addr) (n_17 : Int) (t60b : Option Addr) (t60l : Nat) (t60c : Nat) (t61 : Int) (t62 : Int) (h : Heap) : Prop :=
    CALL prg f_impl_NewRing #[.int .i64 n_17] (fun q51 h52 =>
    TUP2 q51 fun q53 q54 =>
    asA q53 fun a55 =>
    asI .i64 q54 fun n56 =>
    ALC ⟨Z_impl_Ring⟩ T_impl_Ring (fun g57 h58 =>
    STA 2 h58 ⟨g57, 0, none⟩ a55 fun h59 =>
    CALL prg f_impl_NewRing #[.int .i64 n_17] (fun q60 h61 =>
    TUP2 q60 fun q62 q63 =>
    asA q62 fun a64 =>
    asI .i64 q63 fun n65 =>
    ALC ⟨Z_impl_Ring⟩ T_impl_Ring (fun g66 h67 =>
    STA 2 h67 ⟨g66, 0, none⟩ a64 fun h68 =>
    oL (cell h68 x_15) fun l69b l69l l69c =>
    LDA 2 h68 ⟨g57, 0, none⟩ fun a70 =>
    oL (cell h68 (Addr.add x_15 1)) fun l71b l71l l71c =>
    LDA 2 h68 ⟨g66, 0, none⟩ fun a72 =>
    (SIZ (Array.size a70) 2 <|
    ALC ⟨(splice 0 2 a70 [.slice none 0 0, .int .i64 (0 : Int)])⟩ T_impl_Ring (fun g73 h74 =>
    PIN h68 ⟨g66, 0, none⟩ 2 h74 <|
    PIN h68 (Addr.add x_15 1) 1 h74 <|
    PIN h68 x_15 1 h74 <|
    (SEMV prg (Builtin.append_ #[T_sl_impl_Ring, T_sl_impl_Ring] T_sl_impl_Ring #[.slice l69b l69l l69c, .slice (some ⟨g73, 0, none⟩) 1 1]) (fun q75 h76 =>
    asL q75 fun l77b l77l l77c =>
    PIN h68 ⟨g66, 0, none⟩ 2 h76 <|
    PIN h68 (Addr.add x_15 1) 1 h76 <|
    SIZ (Array.size a72) 2 <|
    ALC ⟨(splice 0 2 a72 [.slice none 0 0, .int .i64 (0 : Int)])⟩ T_impl_Ring (fun g78 h79 =>
    PIN h68 (Addr.add x_15 1) 1 h79 <|
    PIN h68 ⟨g57, 0, none⟩ 2 h79 <|
    PIN h68 x_15 1 h79 <|
    SEMV prg (Builtin.append_ #[T_sl_impl_Ring, T_sl_impl_Ring] T_sl_impl_Ring #[.slice l71b l71l l71c, .slice (some ⟨g78, 0, none⟩) 1 1]) (fun q80 h81 =>
    asL q80 fun l82b l82l l82c =>
    ST1 h81 x_15 (.slice l77b l77l l77c) fun h83 =>
    ST1 h83 (Addr.add x_15 1) (.slice l82b l82l l82c) fun h84 =>
    N9 (t10, sound_12, x_15, t60b, t60l, t60c, t61, ((IntKind.i64.wrap (t62 + (1 : Int))))) h84) h79) h76) h74) ∧ (SIZ (Array.size a72) 2 <|
    ALC ⟨(splice 0 2 a72 [.slice none 0 0, .int .i64 (0 : Int)])⟩ T_impl_Ring (fun g85 h86 =>
    PIN h68 (Addr.add x_15 1) 1 h86 <|
    PIN h68 ⟨g57, 0, none⟩ 2 h86 <|
    PIN h68 x_15 1 h86 <|
    SEMV prg (Builtin.append_ #[T_sl_impl_Ring, T_sl_impl_Ring] T_sl_impl_Ring #[.slice l69b l69l l69c, .slice (some ⟨g73, 0, none⟩) 1 1]) (fun q87 h88 =>
    asL q87 fun l89b l89l l89c =>
    PIN h68 ⟨g66, 0, none⟩ 2 h88 <|
    PIN h68 (Addr.add x_15 1) 1 h88 <|
    SEMV prg (Builtin.append_ #[T_sl_impl_Ring, T_sl_impl_Ring] T_sl_impl_Ring #[.slice l71b l71l l71c, .slice (some ⟨g85, 0, none⟩) 1 1]) (fun q90 h91 =>
    asL q90 fun l92b l92l l92c =>
    ST1 h91 x_15 (.slice l89b l89l l89c) fun h93 =>
    ST1 h93 (Addr.add x_15 1) (.slice l92b l92l l92c) fun h94 =>
    N9 (t10, sound_12, x_15, t60b, t60l, t60c, t61, ((IntKind.i64.wrap (t62 + (1 : Int))))) h94) h88) h86) h74)) h68) ∧ (SIZ (Array.size a72) 2 <|
    ALC ⟨(splice 0 2 a72 [.slice none 0 0, .int .i64 (0 : Int)])⟩ T_impl_Ring (fun g95 h96 =>
    PIN h68 (Addr.add x_15 1) 1 h96 <|
    PIN h68 ⟨g57, 0, none⟩ 2 h96 <|
    PIN h68 x_15 1 h96 <|
    SIZ (Array.size a70) 2 <|
    ALC ⟨(splice 0 2 a70 [.slice none 0 0, .int .i64 (0 : Int)])⟩ T_impl_Ring (fun g97 h98 =>
    PIN h68 ⟨g66, 0, none⟩ 2 h98 <|
    PIN h68 (Addr.add x_15 1) 1 h98 <|
    PIN h68 x_15 1 h98 <|
    SEMV prg (Builtin.append_ #[T_sl_impl_Ring, T_sl_impl_Ring] T_sl_impl_Ring #[.slice l69b l69l l69c, .slice (some ⟨g97, 0, none⟩) 1 1]) (fun q99 h100 =>
    asL q99 fun l101b l101l l101c =>
    PIN h68 ⟨g66, 0, none⟩ 2 h100 <|
    PIN h68 (Addr.add x_15 1) 1 h100 <|
    SEMV prg (Builtin.append_ #[T_sl_impl_Ring, T_sl_impl_Ring] T_sl_impl_Ring #[.slice l71b l71l l71c, .slice (some ⟨g95, 0, none⟩) 1 1]) (fun q102 h103 =>
    asL q102 fun l104b l104l l104c =>
    ST1 h103 x_15 (.slice l101b l101l l101c) fun h105 =>
    ST1 h105 (Addr.add x_15 1) (.slice l104b l104l l104c) fun h106 =>
    N9 (t10, sound_12, x_15, t60b, t60l, t60c, t61, ((IntKind.i64.wrap (t62 + (1 : Int))))) h106) h100) h98) h96) h68)) h61) h59) h52) h
def impl_NewPipe.j13 (N9 : (Addr × Bool × Addr × Option Addr × Nat × Nat × Int × Int) → Heap → Prop) (Post : Value → Heap → Prop) : Frame → Heap → Prop := fun fr h => GRD (shape (kds 101 [(10, .p), (12, .b), (15, .p), (17, .i .i64), (60, .l), (61, .i .i64), (62, .i .i64)]) fr) (impl_NewPipe.J13 N9 Post (gP (lget fr 10)) (gB (lget fr 12)) (gP (lget fr 15)) (gI (lget fr 17)) (gLb (lget fr 60)) (gLl (lget fr 60)) (gLc (lget fr 60)) (gI (lget fr 61)) (gI (lget fr 62)) h)
def impl_NewPipe.B9 (Post : Value → Heap → Prop) (N9 : (Addr × Bool × Addr × Option Addr × Nat × Nat × Int × Int) → Heap → Prop) : Addr × Bool × Addr × Option Addr × Nat × Nat × Int × Int → Heap → Prop
  | (t10, sound_12, x_15, t60b, t60l, t60c, t61, t62), h =>
    BIF (decide (t62 < t61)) (
    IDXS t60b t62 t60l fun p37 =>
    oI .i64 (cell h ((Addr.add p37 ((Int.toNat t62) * 1)))) fun n38 =>
    BIF (!sound_12) (
    STA 13 h t10 (⟨[.slice none 0 0, .slice none 0 0, .slice none 0 0, .int .i64 (0 : Int), .float .f32 0, .float .f32 0, .float .f32 0, .float .f32 0, .float .f32 0, .bool false, .float .f32 0, .float .f32 0, .float .f32 0]⟩ : Array Value) fun h39 =>
    LDA 13 h39 t10 fun a40 =>
    Post (.tuple ⟨[.agg a40, .int .i64 (2 : Int)]⟩) h39) (
    CALL prg f_impl_within #[.int .i64 n38, .int .i64 (1 : Int), .int .i64 (1024 : Int)] (fun q41 h42 =>
    asB q41 fun b43 =>
    BIF (!b43) (
    STA 13 h42 t10 (⟨[.slice none 0 0, .slice none 0 0, .slice none 0 0, .int .i64 (0 : Int), .float .f32 0, .float .f32 0, .float .f32 0, .float .f32 0, .float .f32 0, .bool false, .float .f32 0, .float .f32 0, .float .f32 0]⟩ : Array Value) fun h44 =>
    LDA 13 h44 t10 fun a45 =>
    Post (.tuple ⟨[.agg a45, .int .i64 (2 : Int)]⟩) h44) (
    impl_NewPipe.J13 N9 Post t10 sound_12 x_15 n38 t60b t60l t60c t61 t62 h42)) h)) (
    BIF (!sound_12) (
    STA 13 h t10 (⟨[.slice none 0 0, .slice none 0 0, .slice none 0 0, .int .i64 (0 : Int), .float .f32 0, .float .f32 0, .float .f32 0, .float .f32 0, .float .f32 0, .bool false, .float .f32 0, .float .f32 0, .float .f32 0]⟩ : Array Value) fun h46 =>
    LDA 13 h46 t10 fun a47 =>
    Post (.tuple ⟨[.agg a47, .int .i64 (2 : Int)]⟩) h46) (
    LDA 13 h x_15 fun a48 =>
    STA 13 h t10 a48 fun h49 =>
    LDA 13 h49 t10 fun a50 =>
    Post (.tuple ⟨[.agg a50, .int .i64 (0 : Int)]⟩) h49))
def impl_NewPipe.g9 (fr : Frame) : Addr × Bool × Addr × Option Addr × Nat × Nat × Int × Int := ((gP (lget fr 10)), (gB (lget fr 12)), (gP (lget fr 15)), (gLb (lget fr 60)), (gLl (lget fr 60)), (gLc (lget fr 60)), (gI (lget fr 61)), (gI (lget fr 62)))
def impl_NewPipe.l9 (Post : Value → Heap → Prop) : Frame → Heap → Prop := fun fr h => GRD (shape (kds 101 [(10, .p), (12, .b), (15, .p), (60, .l), (61, .i .i64), (62, .i .i64)]) fr) (LOOP (impl_NewPipe.B9 Post) (impl_NewPipe.g9 fr) h)
def impl_NewPipe.B3 (Post : Value → Heap → Prop) (N3 : (Option Addr × Nat × Nat × Option Addr × Nat × Nat × Bool × Nat × Nat × Addr × Bool × Option Addr × Nat × Nat × Int × Int) → Heap → Prop) : Option Addr × Nat × Nat × Option Addr × Nat × Nat × Bool × Nat × Nat × Addr × Bool × Option Addr × Nat × Nat × Int × Int → Heap → Prop
  | (lengths_0b, lengths_0l, lengths_0c, scatter_1b, scatter_1l, scatter_1c, open_2, keep_3, loss_4, t10, sound_12, t41b, t41l, t41c, t42, t43), h =>
    BIF (decide (t43 < t42)) (
    IDXS t41b t43 t41l fun p21 =>
    oF .f32 (cell h ((Addr.add p21 ((Int.toNat t43) * 1)))) fun r22 =>
    BIF sound_12 (
    CALL prg f_impl_inside #[.float .f32 r22, .float .f32 3212836864, .float .f32 1065353216] (fun q23 h24 =>
    asB q23 fun b25 =>
    N3 (lengths_0b, lengths_0l, lengths_0c, scatter_1b, scatter_1l, scatter_1c, open_2, keep_3, loss_4, t10, b25, t41b, t41l, t41c, t42, ((IntKind.i64.wrap (t43 + (1 : Int))))) h24) h) (
    N3 (lengths_0b, lengths_0l, lengths_0c, scatter_1b, scatter_1l, scatter_1c, open_2, keep_3, loss_4, t10, false, t41b, t41l, t41c, t42, ((IntKind.i64.wrap (t43 + (1 : Int))))) h)) (
    CALL prg f_slices_Clone_sl_float32_float32 #[.slice scatter_1b scatter_1l scatter_1c] (fun q26 h27 =>
    asL q26 fun l28b l28l l28c =>
    CALL prg f_impl_OnePole #[.float .f32 keep_3] (fun q29 h30 =>
    asA q29 fun a31 =>
    SIZ (Array.size a31) 6 <|
    ALC ⟨Z_impl_Pipe⟩ T_impl_Pipe (fun g32 h33 =>
    STA 13 h33 ⟨g32, 0, none⟩ ⟨(List.set (List.set (List.set (List.set (splice 3 6 a31 [.slice none 0 0, .slice none 0 0, .slice l28b l28l l28c, .int .i64 (0 : Int), .float .f32 0, .float .f32 0, .float .f32 0, .float .f32 0, .float .f32 0, .bool false, .float .f32 0, .float .f32 0, .float .f32 0]) 9 (.bool open_2)) 10 (.float .f32 loss_4)) 11 (.float .f32 1061158912)) 12 (.float .f32 3200253952))⟩ fun h34 =>
    LOOP (impl_NewPipe.B9 Post) (t10, sound_12, ⟨g32, 0, none⟩, lengths_0b, lengths_0l, lengths_0c, (lengths_0l : Int), (0 : Int)) h34) h30) h27) h)
def impl_NewPipe.g3 (fr : Frame) : Option Addr × Nat × Nat × Option Addr × Nat × Nat × Bool × Nat × Nat × Addr × Bool × Option Addr × Nat × Nat × Int × Int := ((gLb (lget fr 0)), (gLl (lget fr 0)), (gLc (lget fr 0)), (gLb (lget fr 1)), (gLl (lget fr 1)), (gLc (lget fr 1)), (gB (lget fr 2)), (gF (lget fr 3)), (gF (lget fr 4)), (gP (lget fr 10)), (gB (lget fr 12)), (gLb (lget fr 41)), (gLl (lget fr 41)), (gLc (lget fr 41)), (gI (lget fr 42)), (gI (lget fr 43)))
def impl_NewPipe.l3 (Post : Value → Heap → Prop) : Frame → Heap → Prop := fun fr h => GRD (shape (kds 101 [(0, .l), (1, .l), (2, .b), (3, .f .f32), (4, .f .f32), (10, .p), (12, .b), (41, .l), (42, .i .i64), (43, .i .i64)]) fr) (LOOP (impl_NewPipe.B3 Post) (impl_NewPipe.g3 fr) h)
def impl_NewPipe.J2 (Post : Value → Heap → Prop) (lengths_0b : Option Addr) (lengths_0l : Nat) (lengths_0c : Nat) (scatter_1b : Option Addr) (scatter_1l : Nat) (scatter_1c : Nat) (open_2 : Bool) (keep_3 : Nat) (loss_4 : Nat) (t10 : Addr) (sound_12 : Bool) (h : Heap) : Prop :=
    LOOP (impl_NewPipe.B3 Post) (lengths_0b, lengths_0l, lengths_0c, scatter_1b, scatter_1l, scatter_1c, open_2, keep_3, loss_4, t10, sound_12, scatter_1b, scatter_1l, scatter_1c, (scatter_1l : Int), (0 : Int)) h
def impl_NewPipe.j2 (Post : Value → Heap → Prop) : Frame → Heap → Prop := fun fr h => GRD (shape (kds 101 [(0, .l), (1, .l), (2, .b), (3, .f .f32), (4, .f .f32), (10, .p), (12, .b)]) fr) (impl_NewPipe.J2 Post (gLb (lget fr 0)) (gLl (lget fr 0)) (gLc (lget fr 0)) (gLb (lget fr 1)) (gLl (lget fr 1)) (gLc (lget fr 1)) (gB (lget fr 2)) (gF (lget fr 3)) (gF (lget fr 4)) (gP (lget fr 10)) (gB (lget fr 12)) h)
def impl_NewPipe.S (lengths_0b : Option Addr) (lengths_0l lengths_0c : Nat) (scatter_1b : Option Addr) (scatter_1l scatter_1c : Nat) (open_2 : Bool) (keep_3 : Nat) (loss_4 : Nat) (Post : Value → Heap → Prop) (h : Heap) : Prop :=
    ALC ⟨Z_impl_Pipe⟩ T_impl_Pipe (fun g1 h2 =>
    CALL prg f_impl_length_int64 #[.slice lengths_0b lengths_0l lengths_0c] (fun q3 h4 =>
    asI .i64 q3 fun n5 =>
    CALL prg f_impl_within #[.int .i64 n5, .int .i64 (1 : Int), .int .i64 (3 : Int)] (fun q6 h7 =>
    asB q6 fun b8 =>
    BIF b8 (
    BIF (((scatter_1l : Int) == (IntKind.i64.wrap ((lengths_0l : Int) - (1 : Int))))) (
    CALL prg f_impl_isKeep #[.float .f32 keep_3] (fun q13 h14 =>
    asB q13 fun b15 =>
    BIF b15 (
    CALL prg f_impl_inside #[.float .f32 loss_4, .float .f32 0, .float .f32 1065353216] (fun q16 h17 =>
    asB q16 fun b18 =>
    impl_NewPipe.J2 Post lengths_0b lengths_0l lengths_0c scatter_1b scatter_1l scatter_1c open_2 keep_3 loss_4 ⟨g1, 0, none⟩ b18 h17) h14) (
    impl_NewPipe.J2 Post lengths_0b lengths_0l lengths_0c scatter_1b scatter_1l scatter_1c open_2 keep_3 loss_4 ⟨g1, 0, none⟩ false h14)) h7) (
    impl_NewPipe.J2 Post lengths_0b lengths_0l lengths_0c scatter_1b scatter_1l scatter_1c open_2 keep_3 loss_4 ⟨g1, 0, none⟩ false h7)) (
    impl_NewPipe.J2 Post lengths_0b lengths_0l lengths_0c scatter_1b scatter_1l scatter_1c open_2 keep_3 loss_4 ⟨g1, 0, none⟩ false h7)) h4) h2) h
noncomputable def impl_NewPipe.code : Code := (Tryz.f167.body).getD .skip
theorem impl_NewPipe.call {lengths_0b : Option Addr} {lengths_0l lengths_0c : Nat} {scatter_1b : Option Addr} {scatter_1l scatter_1c : Nat} {open_2 : Bool} {keep_3 : Nat} {loss_4 : Nat} {Post : Value → Heap → Prop} {h : Heap} (H : impl_NewPipe.S lengths_0b lengths_0l lengths_0c scatter_1b scatter_1l scatter_1c open_2 keep_3 loss_4 Post h) : CALL prg f_impl_NewPipe #[.slice lengths_0b lengths_0l lengths_0c, .slice scatter_1b scatter_1l scatter_1c, .bool open_2, .float .f32 keep_3, .float .f32 loss_4] Post h :=
  fn_call tau_ok mixed (c := impl_NewPipe.code) (Λ := lookL [(2, impl_NewPipe.j2 Post), (1000003, impl_NewPipe.l3 Post), (1000009, impl_NewPipe.l9 Post)]) Tryz.func167 (by kernel_rfl) (by kernel_rfl)
    (Rq.seq (by kernel_rfl) (Rq.free (by kernel_rfl)) (Rq.seqJ (impl_NewPipe.j2 Post) (by kernel_rfl) (seg (fun _ _ => by kernel_rfl)) (Rq.free (by kernel_rfl))
(Rq.seq (by kernel_rfl) (Rq.seq (by kernel_rfl) (Rq.free (by kernel_rfl)) (Rq.block (Rq.loop (impl_NewPipe.l3 Post) (by kernel_rfl) (segL (g := impl_NewPipe.g3) tau_ok mixed (Λ := fun N3 => lookL []) (fun _ _ _ => by kernel_rfl) (fun N3 => (Rq.free (by kernel_rfl))))))) (Rq.seq (by kernel_rfl) (Rq.free (by kernel_rfl)) (Rq.seq (by kernel_rfl) (Rq.seq (by kernel_rfl) (Rq.free (by kernel_rfl)) (Rq.block (Rq.loop (impl_NewPipe.l9 Post) (by kernel_rfl) (segL (g := impl_NewPipe.g9) tau_ok mixed (Λ := fun N9 => lookL [(13, impl_NewPipe.j13 N9 Post)]) (fun _ _ _ => by kernel_rfl) (fun N9 => (Rq.seq (by kernel_rfl) (Rq.free (by kernel_rfl)) (Rq.seq (by kernel_rfl) (Rq.free (by kernel_rfl)) (Rq.seq (by kernel_rfl) (Rq.block (Rq.seq (by kernel_rfl) (Rq.free (by kernel_rfl)) (Rq.seqJ (impl_NewPipe.j13 N9 Post) (by kernel_rfl) (seg (fun _ _ => by kernel_rfl)) (Rq.free (by kernel_rfl))
(Rq.free (by kernel_rfl))))) (Rq.free (by kernel_rfl)))))))))) (Rq.free (by kernel_rfl)))))))
    (Eq.mp (by kernel_rfl) H)

def impl_NewBow.J3 (Post : Value → Heap → Prop) (period_0 : Int) (place_1 : Nat) (keep_2 : Nat) (loss_3 : Nat) (slope_4 : Nat) (t10 : Addr) (h : Heap) : Prop :=
    FOP .f32 (FloatKind.f32.format.mul (FloatKind.f32.nearest period_0) place_1) fun r28 =>
    FFC .f32 r28 .f64 fun r29 =>
    CALL prg f_math_Floor #[.float .f64 r29] (fun q30 h31 =>
    asF .f64 q30 fun r32 =>
    FIC .f64 r32 .i64 fun n33 =>
    SEMN prg (builtin .max #[T_int64, T_int64] T_int64 #[false, true] #[.int .i64 n33, .int .i64 (1 : Int)]) (fun q34 h35 =>
    asI .i64 q34 fun n36 =>
    SEMN prg (builtin .min #[T_int64, T_int64] T_int64 #[false, false] #[.int .i64 n36, .int .i64 ((IntKind.i64.wrap (period_0 - (1 : Int))))]) (fun q37 h38 =>
    asI .i64 q37 fun n39 =>
    CALL prg f_impl_NewRing #[.int .i64 (IntKind.i64.wrap (period_0 - n39))] (fun q40 h41 =>
    TUP2 q40 fun q42 q43 =>
    asA q42 fun a44 =>
    asI .i64 q43 fun n45 =>
    ALC ⟨Z_impl_Ring⟩ T_impl_Ring (fun g46 h47 =>
    STA 2 h47 ⟨g46, 0, none⟩ a44 fun h48 =>
    CALL prg f_impl_NewRing #[.int .i64 n39] (fun q49 h50 =>
    TUP2 q49 fun q51 q52 =>
    asA q51 fun a53 =>
    asI .i64 q52 fun n54 =>
    ALC ⟨Z_impl_Ring⟩ T_impl_Ring (fun g55 h56 =>
    STA 2 h56 ⟨g55, 0, none⟩ a53 fun h57 =>
    LDA 2 h57 ⟨g46, 0, none⟩ fun a58 =>
    LDA 2 h57 ⟨g55, 0, none⟩ fun a59 =>
    CALL prg f_impl_OnePole #[.float .f32 keep_2] (fun q60 h61 =>
    asA q60 fun a62 =>
    PIN h57 ⟨g55, 0, none⟩ 2 h61 <|
    PIN h57 ⟨g46, 0, none⟩ 2 h61 <|
    SIZ (Array.size a58) 2 <|
    SIZ (Array.size a59) 2 <|
    SIZ (Array.size a62) 6 <|
    STA 12 h61 t10 ⟨(List.set (List.set (splice 4 6 a62 (splice 2 2 a59 (splice 0 2 a58 [.slice none 0 0, .int .i64 (0 : Int), .slice none 0 0, .int .i64 (0 : Int), .int .i64 (0 : Int), .float .f32 0, .float .f32 0, .float .f32 0, .float .f32 0, .float .f32 0, .float .f32 0, .float .f32 0]))) 10 (.float .f32 slope_4)) 11 (.float .f32 loss_3))⟩ fun h63 =>
    LDA 12 h63 t10 fun a64 =>
    Post (.tuple ⟨[.agg a64, .int .i64 (0 : Int)]⟩) h63) h57) h50) h48) h41) h38) h35) h31) h
def impl_NewBow.j3 (Post : Value → Heap → Prop) : Frame → Heap → Prop := fun fr h => GRD (shape (kds 72 [(0, .i .i64), (1, .f .f32), (2, .f .f32), (3, .f .f32), (4, .f .f32), (10, .p)]) fr) (impl_NewBow.J3 Post (gI (lget fr 0)) (gF (lget fr 1)) (gF (lget fr 2)) (gF (lget fr 3)) (gF (lget fr 4)) (gP (lget fr 10)) h)
def impl_NewBow.S (period_0 : Int) (place_1 : Nat) (keep_2 : Nat) (loss_3 : Nat) (slope_4 : Nat) (Post : Value → Heap → Prop) (h : Heap) : Prop :=
    ALC ⟨Z_impl_Bow⟩ T_impl_Bow (fun g1 h2 =>
    CALL prg f_impl_within #[.int .i64 period_0, .int .i64 (2 : Int), .int .i64 (1024 : Int)] (fun q3 h4 =>
    asB q3 fun b5 =>
    BIF (!b5) (
    STA 12 h4 ⟨g1, 0, none⟩ (⟨[.slice none 0 0, .int .i64 (0 : Int), .slice none 0 0, .int .i64 (0 : Int), .int .i64 (0 : Int), .float .f32 0, .float .f32 0, .float .f32 0, .float .f32 0, .float .f32 0, .float .f32 0, .float .f32 0]⟩ : Array Value) fun h6 =>
    LDA 12 h6 ⟨g1, 0, none⟩ fun a7 =>
    Post (.tuple ⟨[.agg a7, .int .i64 (2 : Int)]⟩) h6) (
    CALL prg f_impl_inside #[.float .f32 place_1, .float .f32 0, .float .f32 1065353216] (fun q8 h9 =>
    asB q8 fun b10 =>
    BIF (!b10) (
    STA 12 h9 ⟨g1, 0, none⟩ (⟨[.slice none 0 0, .int .i64 (0 : Int), .slice none 0 0, .int .i64 (0 : Int), .int .i64 (0 : Int), .float .f32 0, .float .f32 0, .float .f32 0, .float .f32 0, .float .f32 0, .float .f32 0, .float .f32 0]⟩ : Array Value) fun h11 =>
    LDA 12 h11 ⟨g1, 0, none⟩ fun a12 =>
    Post (.tuple ⟨[.agg a12, .int .i64 (2 : Int)]⟩) h11) (
    CALL prg f_impl_isKeep #[.float .f32 keep_2] (fun q13 h14 =>
    asB q13 fun b15 =>
    BIF (!b15) (
    STA 12 h14 ⟨g1, 0, none⟩ (⟨[.slice none 0 0, .int .i64 (0 : Int), .slice none 0 0, .int .i64 (0 : Int), .int .i64 (0 : Int), .float .f32 0, .float .f32 0, .float .f32 0, .float .f32 0, .float .f32 0, .float .f32 0, .float .f32 0]⟩ : Array Value) fun h16 =>
    LDA 12 h16 ⟨g1, 0, none⟩ fun a17 =>
    Post (.tuple ⟨[.agg a17, .int .i64 (2 : Int)]⟩) h16) (
    CALL prg f_impl_inside #[.float .f32 loss_3, .float .f32 0, .float .f32 1065353216] (fun q18 h19 =>
    asB q18 fun b20 =>
    BIF (!b20) (
    STA 12 h19 ⟨g1, 0, none⟩ (⟨[.slice none 0 0, .int .i64 (0 : Int), .slice none 0 0, .int .i64 (0 : Int), .int .i64 (0 : Int), .float .f32 0, .float .f32 0, .float .f32 0, .float .f32 0, .float .f32 0, .float .f32 0, .float .f32 0]⟩ : Array Value) fun h21 =>
    LDA 12 h21 ⟨g1, 0, none⟩ fun a22 =>
    Post (.tuple ⟨[.agg a22, .int .i64 (2 : Int)]⟩) h21) (
    CALL prg f_impl_isFinite #[.float .f32 slope_4] (fun q23 h24 =>
    asB q23 fun b25 =>
    BIF (!b25) (
    STA 12 h24 ⟨g1, 0, none⟩ (⟨[.slice none 0 0, .int .i64 (0 : Int), .slice none 0 0, .int .i64 (0 : Int), .int .i64 (0 : Int), .float .f32 0, .float .f32 0, .float .f32 0, .float .f32 0, .float .f32 0, .float .f32 0, .float .f32 0]⟩ : Array Value) fun h26 =>
    LDA 12 h26 ⟨g1, 0, none⟩ fun a27 =>
    Post (.tuple ⟨[.agg a27, .int .i64 (2 : Int)]⟩) h26) (
    impl_NewBow.J3 Post period_0 place_1 keep_2 loss_3 slope_4 ⟨g1, 0, none⟩ h24)) h19)) h14)) h9)) h4)) h2) h
noncomputable def impl_NewBow.code : Code := (Tryz.f169.body).getD .skip
theorem impl_NewBow.call {period_0 : Int} {place_1 : Nat} {keep_2 : Nat} {loss_3 : Nat} {slope_4 : Nat} {Post : Value → Heap → Prop} {h : Heap} (H : impl_NewBow.S period_0 place_1 keep_2 loss_3 slope_4 Post h) : CALL prg f_impl_NewBow #[.int .i64 period_0, .float .f32 place_1, .float .f32 keep_2, .float .f32 loss_3, .float .f32 slope_4] Post h :=
  fn_call tau_ok mixed (c := impl_NewBow.code) (Λ := lookL [(3, impl_NewBow.j3 Post)]) Tryz.func169 (by kernel_rfl) (by kernel_rfl)
    (Rq.seq (by kernel_rfl) (Rq.free (by kernel_rfl)) (Rq.seqJ (impl_NewBow.j3 Post) (by kernel_rfl) (seg (fun _ _ => by kernel_rfl)) (Rq.free (by kernel_rfl))
(Rq.free (by kernel_rfl))))
    (Eq.mp (by kernel_rfl) H)

def impl_voiceFor.J19 (Post : Value → Heap → Prop) (t4 : Addr) (v_6 : Addr) (code_9 : Int) (h : Heap) : Prop :=
    BIF (code_9 != (0 : Int)) (
    STA 45 h t4 (⟨[.int .i64 (0 : Int), .int .i64 (0 : Int), .int .i64 (0 : Int), .bool false, .float .f32 0, .slice none 0 0, .int .i64 (0 : Int), .int .i64 (0 : Int), .float .f32 0, .float .f32 0, .float .f32 0, .float .f32 0, .float .f32 0, .int .i64 (0 : Int), .float .f32 0, .float .f32 0, .float .f32 0, .float .f32 0, .float .f32 0, .float .f32 0, .slice none 0 0, .slice none 0 0, .slice none 0 0, .int .i64 (0 : Int), .float .f32 0, .float .f32 0, .float .f32 0, .float .f32 0, .float .f32 0, .bool false, .float .f32 0, .float .f32 0, .float .f32 0, .slice none 0 0, .int .i64 (0 : Int), .slice none 0 0, .int .i64 (0 : Int), .int .i64 (0 : Int), .float .f32 0, .float .f32 0, .float .f32 0, .float .f32 0, .float .f32 0, .float .f32 0, .float .f32 0]⟩ : Array Value) fun h67 =>
    LDA 45 h67 t4 fun a68 =>
    Post (.tuple ⟨[.agg a68, .int .i64 (2 : Int)]⟩) h67) (
    LDA 45 h v_6 fun a69 =>
    STA 45 h t4 a69 fun h70 =>
    LDA 45 h70 t4 fun a71 =>
    Post (.tuple ⟨[.agg a71, .int .i64 (0 : Int)]⟩) h70)
def impl_voiceFor.j19 (Post : Value → Heap → Prop) : Frame → Heap → Prop := fun fr h => GRD (shape (kds 109 [(4, .p), (6, .p), (9, .i .i64)]) fr) (impl_voiceFor.J19 Post (gP (lget fr 4)) (gP (lget fr 6)) (gI (lget fr 9)) h)
def impl_voiceFor.J17 (Post : Value → Heap → Prop) (e_3 : Addr) (t4 : Addr) (v_6 : Addr) (x_7 : Addr) (period_8 : Nat) (open_10 : Bool) (by_11 : Nat) (h : Heap) : Prop :=
    oF .f32 (cell h (Addr.add e_3 5)) fun r72 =>
    ST1 h (Addr.add v_6 4) (.float .f32 r72) fun h73 =>
    oF .f32 (cell h73 (Addr.add x_7 2)) fun r74 =>
    oF .f32 (cell h73 (Addr.add x_7 3)) fun r75 =>
    FOP .f32 (FloatKind.f32.format.div period_8 by_11) fun r76 =>
    PIN h73 (Addr.add x_7 3) 1 h73 <|
    PIN h73 (Addr.add x_7 2) 1 h73 <|
    CALL prg f_impl_floorOf #[.float .f32 r76] (fun q77 h78 =>
    asI .i64 q77 fun n79 =>
    PIN h73 (Addr.add x_7 3) 1 h78 <|
    PIN h73 (Addr.add x_7 2) 1 h78 <|
    ALC ⟨[.int .i64 n79]⟩ T_int64 (fun g80 h81 =>
    PIN h73 (Addr.add x_7 3) 1 h81 <|
    PIN h73 (Addr.add x_7 2) 1 h81 <|
    CALL prg f_impl_NewPipe #[.slice (some ⟨g80, 0, none⟩) 1 1, .slice none 0 0, .bool open_10, .float .f32 r74, .float .f32 r75] (fun q82 h83 =>
    TUP2 q82 fun q84 q85 =>
    asA q84 fun a86 =>
    asI .i64 q85 fun n87 =>
    STA 13 h83 (Addr.add v_6 20) a86 fun h88 =>
    impl_voiceFor.J19 Post t4 v_6 n87 h88) h81) h78) h73
def impl_voiceFor.j17 (Post : Value → Heap → Prop) : Frame → Heap → Prop := fun fr h => GRD (shape (kds 109 [(3, .p), (4, .p), (6, .p), (7, .p), (8, .f .f32), (10, .b), (11, .f .f32)]) fr) (impl_voiceFor.J17 Post (gP (lget fr 3)) (gP (lget fr 4)) (gP (lget fr 6)) (gP (lget fr 7)) (gF (lget fr 8)) (gB (lget fr 10)) (gF (lget fr 11)) h)
def impl_voiceFor.S (s_0 : Array Value) (e_1 : Array Value) (Post : Value → Heap → Prop) (h : Heap) : Prop :=
    ALC s_0 T_impl_Score (fun g1 h2 =>
    ALC e_1 T_impl_Event (fun g3 h4 =>
    ALC ⟨Z_impl_Voice⟩ T_impl_Voice (fun g5 h6 =>
    oI .i64 (cell h6 ⟨g3, 2, none⟩) fun n7 =>
    oI .i64 (cell h6 ⟨g3, 3, none⟩) fun n8 =>
    oI .i64 (cell h6 ⟨g3, 0, none⟩) fun n9 =>
    ALC ⟨Z_impl_Voice⟩ T_impl_Voice (fun g10 h11 =>
    STA 45 h11 ⟨g10, 0, none⟩ (⟨[.int .i64 n7, .int .i64 n8, .int .i64 n9, .bool false, .float .f32 0, .slice none 0 0, .int .i64 (0 : Int), .int .i64 (0 : Int), .float .f32 0, .float .f32 0, .float .f32 0, .float .f32 0, .float .f32 0, .int .i64 (0 : Int), .float .f32 0, .float .f32 0, .float .f32 0, .float .f32 0, .float .f32 0, .float .f32 0, .slice none 0 0, .slice none 0 0, .slice none 0 0, .int .i64 (0 : Int), .float .f32 0, .float .f32 0, .float .f32 0, .float .f32 0, .float .f32 0, .bool false, .float .f32 0, .float .f32 0, .float .f32 0, .slice none 0 0, .int .i64 (0 : Int), .slice none 0 0, .int .i64 (0 : Int), .int .i64 (0 : Int), .float .f32 0, .float .f32 0, .float .f32 0, .float .f32 0, .float .f32 0, .float .f32 0, .float .f32 0]⟩ : Array Value) fun h12 =>
    oL (cell h12 ⟨g1, 4, none⟩) fun l13b l13l l13c =>
    oI .i64 (cell h12 ⟨g3, 3, none⟩) fun n14 =>
    IDXS l13b n14 l13l fun p15 =>
    LDA 5 h12 ((Addr.add p15 ((Int.toNat n14) * 5))) fun a16 =>
    ALC ⟨Z_impl_Instrument⟩ T_impl_Instrument (fun g17 h18 =>
    STA 5 h18 ⟨g17, 0, none⟩ a16 fun h19 =>
    LDA 3 h19 ⟨g1, 1, none⟩ fun a20 =>
    oI .i64 (cell h19 ⟨g3, 4, none⟩) fun n21 =>
    oF .f32 (cell h19 ⟨g1, 0, none⟩) fun r22 =>
    CALL prg f_impl_PeriodOfKey #[.agg a20, .int .i64 n21, .float .f32 r22] (fun q23 h24 =>
    TUP2 q23 fun q25 q26 =>
    asF .f32 q25 fun r27 =>
    asI .i64 q26 fun n28 =>
    BIF (n28 != (0 : Int)) (
    STA 45 h24 ⟨g5, 0, none⟩ (⟨[.int .i64 (0 : Int), .int .i64 (0 : Int), .int .i64 (0 : Int), .bool false, .float .f32 0, .slice none 0 0, .int .i64 (0 : Int), .int .i64 (0 : Int), .float .f32 0, .float .f32 0, .float .f32 0, .float .f32 0, .float .f32 0, .int .i64 (0 : Int), .float .f32 0, .float .f32 0, .float .f32 0, .float .f32 0, .float .f32 0, .float .f32 0, .slice none 0 0, .slice none 0 0, .slice none 0 0, .int .i64 (0 : Int), .float .f32 0, .float .f32 0, .float .f32 0, .float .f32 0, .float .f32 0, .bool false, .float .f32 0, .float .f32 0, .float .f32 0, .slice none 0 0, .int .i64 (0 : Int), .slice none 0 0, .int .i64 (0 : Int), .int .i64 (0 : Int), .float .f32 0, .float .f32 0, .float .f32 0, .float .f32 0, .float .f32 0, .float .f32 0, .float .f32 0]⟩ : Array Value) fun h29 =>
    LDA 45 h29 ⟨g5, 0, none⟩ fun a30 =>
    Post (.tuple ⟨[.agg a30, .int .i64 (2 : Int)]⟩) h29) (
    oI .i64 (cell h24 ⟨g17, 1, none⟩) fun n31 =>
    BIF (n31 == (1 : Int)) (
    oF .f32 (cell h24 ⟨g17, 2, none⟩) fun r32 =>
    oF .f32 (cell h24 ⟨g17, 3, none⟩) fun r33 =>
    CALL prg f_impl_NewString #[.float .f32 r27, .float .f32 r32, .float .f32 r33] (fun q34 h35 =>
    TUP2 q34 fun q36 q37 =>
    asA q36 fun a38 =>
    asI .i64 q37 fun n39 =>
    STA 15 h35 ⟨g10, 5, none⟩ a38 fun h40 =>
    BIF (n39 == (0 : Int)) (
    LDA 15 h40 ⟨g10, 5, none⟩ fun a41 =>
    oF .f32 (cell h40 ⟨g17, 4, none⟩) fun r42 =>
    oF .f32 (cell h40 ⟨g3, 5, none⟩) fun r43 =>
    CALL prg f_impl_PluckString #[.agg a41, .float .f32 r42, .float .f32 r43] (fun q44 h45 =>
    TUP2 q44 fun q46 q47 =>
    asA q46 fun a48 =>
    asI .i64 q47 fun n49 =>
    STA 15 h45 ⟨g10, 5, none⟩ a48 fun h50 =>
    impl_voiceFor.J19 Post ⟨g5, 0, none⟩ ⟨g10, 0, none⟩ n49 h50) h40) (
    impl_voiceFor.J19 Post ⟨g5, 0, none⟩ ⟨g10, 0, none⟩ n39 h40)) h24) (
    BIF (n31 == (2 : Int)) (
    oF .f32 (cell h24 ⟨g17, 4, none⟩) fun r51 =>
    BIF (FloatKind.f32.format.order r51 1065353216 == some .eq) (
    impl_voiceFor.J17 Post ⟨g3, 0, none⟩ ⟨g5, 0, none⟩ ⟨g10, 0, none⟩ ⟨g17, 0, none⟩ r27 (FloatKind.f32.format.order r51 1065353216 == some .eq) 1073741824 h24) (
    impl_voiceFor.J17 Post ⟨g3, 0, none⟩ ⟨g5, 0, none⟩ ⟨g10, 0, none⟩ ⟨g17, 0, none⟩ r27 (FloatKind.f32.format.order r51 1065353216 == some .eq) 1082130432 h24)) (
    oF .f32 (cell h24 ⟨g3, 5, none⟩) fun r52 =>
    ST1 h24 ⟨g10, 4, none⟩ (.float .f32 r52) fun h53 =>
    oF .f32 (cell h53 ⟨g17, 2, none⟩) fun r54 =>
    oF .f32 (cell h53 ⟨g17, 3, none⟩) fun r55 =>
    oF .f32 (cell h53 ⟨g17, 4, none⟩) fun r56 =>
    CALL prg f_impl_floorOf #[.float .f32 r27] (fun q57 h58 =>
    asI .i64 q57 fun n59 =>
    PIN h53 ⟨g17, 4, none⟩ 1 h58 <|
    PIN h53 ⟨g17, 3, none⟩ 1 h58 <|
    PIN h53 ⟨g17, 2, none⟩ 1 h58 <|
    CALL prg f_impl_NewBow #[.int .i64 n59, .float .f32 1040187392, .float .f32 r54, .float .f32 r55, .float .f32 r56] (fun q60 h61 =>
    TUP2 q60 fun q62 q63 =>
    asA q62 fun a64 =>
    asI .i64 q63 fun n65 =>
    STA 12 h61 ⟨g10, 33, none⟩ a64 fun h66 =>
    impl_voiceFor.J19 Post ⟨g5, 0, none⟩ ⟨g10, 0, none⟩ n65 h66) h58) h53)))) h19) h12) h6) h4) h2) h
noncomputable def impl_voiceFor.code : Code := (Tryz.f99.body).getD .skip
theorem impl_voiceFor.call {s_0 : Array Value} {e_1 : Array Value} {Post : Value → Heap → Prop} {h : Heap} (H : impl_voiceFor.S s_0 e_1 Post h) : CALL prg f_impl_voiceFor #[.agg s_0, .agg e_1] Post h :=
  fn_call tau_ok mixed (c := impl_voiceFor.code) (Λ := lookL [(19, impl_voiceFor.j19 Post), (17, impl_voiceFor.j17 Post)]) Tryz.func99 (by kernel_rfl) (by kernel_rfl)
    (Rq.seq (by kernel_rfl) (Rq.free (by kernel_rfl)) (Rq.seq (by kernel_rfl) (Rq.free (by kernel_rfl)) (Rq.seq (by kernel_rfl) (Rq.free (by kernel_rfl)) (Rq.seq (by kernel_rfl) (Rq.free (by kernel_rfl)) (Rq.seq (by kernel_rfl) (Rq.free (by kernel_rfl)) (Rq.seqJ (impl_voiceFor.j19 Post) (by kernel_rfl) (seg (fun _ _ => by kernel_rfl)) (Rq.seq (by kernel_rfl) (Rq.free (by kernel_rfl)) (Rq.block (Rq.seq (by kernel_rfl) (Rq.free (by kernel_rfl)) (Rq.cond (Rq.free (by kernel_rfl)) (Rq.seq (by kernel_rfl) (Rq.free (by kernel_rfl)) (Rq.cond (Rq.seq (by kernel_rfl) (Rq.free (by kernel_rfl)) (Rq.seqJ (impl_voiceFor.j17 Post) (by kernel_rfl) (seg (fun _ _ => by kernel_rfl)) (Rq.free (by kernel_rfl))
(Rq.free (by kernel_rfl)))) (Rq.free (by kernel_rfl))))))))
(Rq.free (by kernel_rfl))))))))
    (Eq.mp (by kernel_rfl) H)

end Go.Sx
