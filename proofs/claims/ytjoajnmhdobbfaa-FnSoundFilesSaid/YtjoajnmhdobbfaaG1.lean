/- What functions of this seat's program compute, told in words (a predicate over heaps for each), and the proofs that the words are no more than the code's own weakest precondition. -/
import Derived.Test.YtjoajnmhdobbfaaTab
namespace Go.Sx
open Go.Proofs
set_option linter.unusedVariables false
set_option maxRecDepth 100000

def laws_f6big.S (code_0b : Option Addr) (code_0l code_0c : Nat) (Post : Value → Heap → Prop) (h : Heap) : Prop :=
    Post (.bool ((decide ((4096 : Int) < (code_0l : Int))))) h
noncomputable def laws_f6big.code : Code := (Try.f6.body).getD .skip
theorem laws_f6big.call {code_0b : Option Addr} {code_0l code_0c : Nat} {Post : Value → Heap → Prop} {h : Heap} (H : laws_f6big.S code_0b code_0l code_0c Post h) : CALL prg f_laws_f6big #[.slice code_0b code_0l code_0c] Post h :=
  fn_call tau_ok mixed (c := laws_f6big.code) (Λ := lookL []) Try.func6 (by kernel_rfl) (by kernel_rfl)
    (Rq.free (by kernel_rfl))
    (Eq.mp (by kernel_rfl) H)

def spec_l00From.S (code_0b : Option Addr) (code_0l code_0c : Nat) (Post : Value → Heap → Prop) (h : Heap) : Prop :=
    ALC (⟨[.slice code_0b code_0l code_0c, .int .i64 (0 : Int), .int .u64 (0 : Int)]⟩ : Array Value) T_spec_l00Src (fun g1 h2 =>
    Post (.pointer (some ⟨g1, 0, none⟩)) h2) h
noncomputable def spec_l00From.code : Code := (Try.f31.body).getD .skip
theorem spec_l00From.call {code_0b : Option Addr} {code_0l code_0c : Nat} {Post : Value → Heap → Prop} {h : Heap} (H : spec_l00From.S code_0b code_0l code_0c Post h) : CALL prg f_spec_l00From #[.slice code_0b code_0l code_0c] Post h :=
  fn_call tau_ok mixed (c := spec_l00From.code) (Λ := lookL []) Try.func31 (by kernel_rfl) (by kernel_rfl)
    (Rq.free (by kernel_rfl))
    (Eq.mp (by kernel_rfl) H)

def p_spec_l00Src_next.J4 (Post : Value → Heap → Prop) (s_0 : Addr) (b_3 : Int) (h : Heap) : Prop :=
    oI .i64 (cell h (Addr.add s_0 1)) fun n9 =>
    ST1 h (Addr.add s_0 1) (.int .i64 ((IntKind.i64.wrap (n9 + (1 : Int))))) fun h10 =>
    oI .u64 (cell h10 (Addr.add s_0 2)) fun n11 =>
    ST1 h10 (Addr.add s_0 2) (.int .u64 ((IntKind.u64.wrap ((IntKind.u64.wrap ((IntKind.u64.wrap (n11 * (6364136223846793005 : Int))) + (IntKind.u64.wrap b_3))) + (1442695040888963407 : Int))))) fun h12 =>
    oI .i64 (cell h12 (Addr.add s_0 1)) fun n13 =>
    oL (cell h12 s_0) fun l14b l14l l14c =>
    BIF ((decide (n13 ≤ (l14l : Int)))) (
    Post (.int .i64 b_3) h12) (
    oI .u64 (cell h12 (Addr.add s_0 2)) fun n17 =>
    NN (40 : Int) <|
    Post (.int .i64 ((IntKind.i64.wrap ((bitI .and .u64 (shrI .u64 n17 (40 : Int)) (255 : Int)))))) h12)
def p_spec_l00Src_next.j4 (Post : Value → Heap → Prop) : Frame → Heap → Prop := fun fr h => GRD (shape (kds 62 [(0, .p), (3, .i .i64)]) fr) (p_spec_l00Src_next.J4 Post (gP (lget fr 0)) (gI (lget fr 3)) h)
def p_spec_l00Src_next.S (s_0 : Addr) (Post : Value → Heap → Prop) (h : Heap) : Prop :=
    oI .i64 (cell h (Addr.add s_0 1)) fun n1 =>
    oL (cell h s_0) fun l2b l2l l2c =>
    BIF ((decide (n1 < (l2l : Int)))) (
    oL (cell h s_0) fun l5b l5l l5c =>
    oI .i64 (cell h (Addr.add s_0 1)) fun n6 =>
    IDXS l5b n6 l5l fun p7 =>
    oI .u8 (cell h ((Addr.add p7 ((Int.toNat n6) * 1)))) fun n8 =>
    p_spec_l00Src_next.J4 Post s_0 (IntKind.i64.wrap n8) h) (
    p_spec_l00Src_next.J4 Post s_0 (0 : Int) h)
noncomputable def p_spec_l00Src_next.code : Code := (Try.f82.body).getD .skip
theorem p_spec_l00Src_next.call {s_0 : Addr} {Post : Value → Heap → Prop} {h : Heap} (H : p_spec_l00Src_next.S s_0 Post h) : CALL prg f_p_spec_l00Src_next #[.pointer (some s_0)] Post h :=
  fn_call tau_ok mixed (c := p_spec_l00Src_next.code) (Λ := lookL [(4, p_spec_l00Src_next.j4 Post)]) Try.func82 (by kernel_rfl) (by kernel_rfl)
    (Rq.seq (by kernel_rfl) (Rq.free (by kernel_rfl)) (Rq.seq (by kernel_rfl) (Rq.free (by kernel_rfl)) (Rq.seqJ (p_spec_l00Src_next.j4 Post) (by kernel_rfl) (seg (fun _ _ => by kernel_rfl)) (Rq.free (by kernel_rfl))
(Rq.free (by kernel_rfl)))))
    (Eq.mp (by kernel_rfl) H)

def p_spec_l00Src_pick.S (s_0 : Addr) (n_1 : Int) (Post : Value → Heap → Prop) (h : Heap) : Prop :=
    BIF ((decide (n_1 ≤ (1 : Int)))) (
    Post (.int .i64 (0 : Int)) h) (
    CALL prg f_p_spec_l00Src_next #[.pointer (some s_0)] (fun q1 h2 =>
    asI .i64 q1 fun n3 =>
    BIF ((decide ((200 : Int) < n_1))) (
    CALL prg f_p_spec_l00Src_next #[.pointer (some s_0)] (fun q4 h5 =>
    asI .i64 q4 fun n6 =>
    NZ n_1 <|
    Post (.int .i64 ((Int.tmod ((IntKind.i64.wrap ((IntKind.i64.wrap (n3 * (256 : Int))) + n6))) n_1))) h5) h2) (
    NZ n_1 <|
    Post (.int .i64 (Int.tmod n3 n_1)) h2)) h)
noncomputable def p_spec_l00Src_pick.code : Code := (Try.f32.body).getD .skip
theorem p_spec_l00Src_pick.call {s_0 : Addr} {n_1 : Int} {Post : Value → Heap → Prop} {h : Heap} (H : p_spec_l00Src_pick.S s_0 n_1 Post h) : CALL prg f_p_spec_l00Src_pick #[.pointer (some s_0), .int .i64 n_1] Post h :=
  fn_call tau_ok mixed (c := p_spec_l00Src_pick.code) (Λ := lookL []) Try.func32 (by kernel_rfl) (by kernel_rfl)
    (Rq.free (by kernel_rfl))
    (Eq.mp (by kernel_rfl) H)

def math_NaN.S (Post : Value → Heap → Prop) (h : Heap) : Prop :=
    CALL prg f_math_Float64frombits #[.int .u64 (9221120237041090561 : Int)] (fun q1 h2 =>
    asF .f64 q1 fun r3 =>
    Post (.float .f64 r3) h2) h
noncomputable def math_NaN.code : Code := (Try.f148.body).getD .skip
theorem math_NaN.call {Post : Value → Heap → Prop} {h : Heap} (H : math_NaN.S  Post h) : CALL prg f_math_NaN #[] Post h :=
  fn_call tau_ok mixed (c := math_NaN.code) (Λ := lookL []) Try.func148 (by kernel_rfl) (by kernel_rfl)
    (Rq.free (by kernel_rfl))
    (Eq.mp (by kernel_rfl) H)

def math_Inf.S (sign_0 : Int) (Post : Value → Heap → Prop) (h : Heap) : Prop :=
    BIF ((decide ((0 : Int) ≤ sign_0))) (
    CALL prg f_math_Float64frombits #[.int .u64 (9218868437227405312 : Int)] (fun q1 h2 =>
    asF .f64 q1 fun r3 =>
    Post (.float .f64 r3) h2) h) (
    CALL prg f_math_Float64frombits #[.int .u64 (18442240474082181120 : Int)] (fun q4 h5 =>
    asF .f64 q4 fun r6 =>
    Post (.float .f64 r6) h5) h)
noncomputable def math_Inf.code : Code := (Try.f149.body).getD .skip
theorem math_Inf.call {sign_0 : Int} {Post : Value → Heap → Prop} {h : Heap} (H : math_Inf.S sign_0 Post h) : CALL prg f_math_Inf #[.int .i64 sign_0] Post h :=
  fn_call tau_ok mixed (c := math_Inf.code) (Λ := lookL []) Try.func149 (by kernel_rfl) (by kernel_rfl)
    (Rq.free (by kernel_rfl))
    (Eq.mp (by kernel_rfl) H)

def spec_l01Plain.S (s_0 : Addr) (Post : Value → Heap → Prop) (h : Heap) : Prop :=
    CALL prg f_p_spec_l00Src_pick #[.pointer (some s_0), .int .i64 (257 : Int)] (fun q1 h2 =>
    asI .i64 q1 fun n3 =>
    FOP .f32 (FloatKind.f32.format.div ((FloatKind.f32.nearest ((IntKind.i64.wrap (n3 - (128 : Int)))))) 1115684864) fun r4 =>
    Post (.float .f32 r4) h2) h
noncomputable def spec_l01Plain.code : Code := (Try.f150.body).getD .skip
theorem spec_l01Plain.call {s_0 : Addr} {Post : Value → Heap → Prop} {h : Heap} (H : spec_l01Plain.S s_0 Post h) : CALL prg f_spec_l01Plain #[.pointer (some s_0)] Post h :=
  fn_call tau_ok mixed (c := spec_l01Plain.code) (Λ := lookL []) Try.func150 (by kernel_rfl) (by kernel_rfl)
    (Rq.free (by kernel_rfl))
    (Eq.mp (by kernel_rfl) H)

def spec_l01Any.S (s_0 : Addr) (Post : Value → Heap → Prop) (h : Heap) : Prop :=
    CALL prg f_p_spec_l00Src_pick #[.pointer (some s_0), .int .i64 (14 : Int)] (fun q1 h2 =>
    asI .i64 q1 fun n3 =>
    BIF (n3 == (0 : Int)) (
    CALL prg f_math_NaN #[] (fun q4 h5 =>
    asF .f64 q4 fun r6 =>
    FFC .f64 r6 .f32 fun r7 =>
    Post (.float .f32 r7) h5) h2) (
    BIF (n3 == (1 : Int)) (
    CALL prg f_math_Inf #[.int .i64 (1 : Int)] (fun q8 h9 =>
    asF .f64 q8 fun r10 =>
    FFC .f64 r10 .f32 fun r11 =>
    Post (.float .f32 r11) h9) h2) (
    BIF (n3 == (2 : Int)) (
    CALL prg f_math_Inf #[.int .i64 (-1 : Int)] (fun q12 h13 =>
    asF .f64 q12 fun r14 =>
    FFC .f64 r14 .f32 fun r15 =>
    Post (.float .f32 r15) h13) h2) (
    BIF (n3 == (3 : Int)) (
    CALL prg f_math_Float32frombits #[.int .u32 (2147483648 : Int)] (fun q16 h17 =>
    asF .f32 q16 fun r18 =>
    Post (.float .f32 r18) h17) h2) (
    BIF (n3 == (4 : Int)) (
    CALL prg f_p_spec_l00Src_pick #[.pointer (some s_0), .int .i64 (16777220 : Int)] (fun q19 h20 =>
    asI .i64 q19 fun n21 =>
    CALL prg f_math_Float32frombits #[.int .u32 (IntKind.u32.wrap n21)] (fun q22 h23 =>
    asF .f32 q22 fun r24 =>
    Post (.float .f32 r24) h23) h20) h2) (
    BIF (n3 == (5 : Int)) (
    CALL prg f_p_spec_l00Src_pick #[.pointer (some s_0), .int .i64 (8388612 : Int)] (fun q25 h26 =>
    asI .i64 q25 fun n27 =>
    CALL prg f_math_Float32frombits #[.int .u32 ((IntKind.u32.wrap ((2147483648 : Int) + (IntKind.u32.wrap n27))))] (fun q28 h29 =>
    asF .f32 q28 fun r30 =>
    Post (.float .f32 r30) h29) h26) h2) (
    BIF (n3 == (6 : Int)) (
    CALL prg f_p_spec_l00Src_pick #[.pointer (some s_0), .int .i64 (1073741824 : Int)] (fun q31 h32 =>
    asI .i64 q31 fun n33 =>
    CALL prg f_p_spec_l00Src_pick #[.pointer (some s_0), .int .i64 (4 : Int)] (fun q34 h35 =>
    asI .i64 q34 fun n36 =>
    CALL prg f_math_Float32frombits #[.int .u32 ((IntKind.u32.wrap ((IntKind.u32.wrap ((IntKind.u32.wrap n33) * (4 : Int))) + (IntKind.u32.wrap n36))))] (fun q37 h38 =>
    asF .f32 q37 fun r39 =>
    Post (.float .f32 r39) h38) h35) h32) h2) (
    BIF (n3 == (7 : Int)) (
    CALL prg f_p_spec_l00Src_pick #[.pointer (some s_0), .int .i64 (2000000 : Int)] (fun q40 h41 =>
    asI .i64 q40 fun n42 =>
    FOP .f32 (FloatKind.f32.format.div ((FloatKind.f32.nearest ((IntKind.i64.wrap (n42 - (1000000 : Int)))))) 1232348160) fun r43 =>
    Post (.float .f32 r43) h41) h2) (
    BIF (n3 == (8 : Int)) (
    CALL prg f_p_spec_l00Src_pick #[.pointer (some s_0), .int .i64 (65538 : Int)] (fun q44 h45 =>
    asI .i64 q44 fun n46 =>
    FOP .f32 (FloatKind.f32.format.add ((FloatKind.f32.nearest ((IntKind.i64.wrap (n46 - (32769 : Int)))))) 1056964608) fun r47 =>
    FOP .f32 (FloatKind.f32.format.div r47 1191182336) fun r48 =>
    Post (.float .f32 r48) h45) h2) (
    CALL prg f_spec_l01Plain #[.pointer (some s_0)] (fun q49 h50 =>
    asF .f32 q49 fun r51 =>
    Post (.float .f32 r51) h50) h2)))))))))) h
noncomputable def spec_l01Any.code : Code := (Try.f80.body).getD .skip
theorem spec_l01Any.call {s_0 : Addr} {Post : Value → Heap → Prop} {h : Heap} (H : spec_l01Any.S s_0 Post h) : CALL prg f_spec_l01Any #[.pointer (some s_0)] Post h :=
  fn_call tau_ok mixed (c := spec_l01Any.code) (Λ := lookL []) Try.func80 (by kernel_rfl) (by kernel_rfl)
    (Rq.free (by kernel_rfl))
    (Eq.mp (by kernel_rfl) H)

def p_spec_l00Src_one.S (s_0 : Addr) (n_1 : Int) (Post : Value → Heap → Prop) (h : Heap) : Prop :=
    CALL prg f_p_spec_l00Src_pick #[.pointer (some s_0), .int .i64 n_1] (fun q1 h2 =>
    asI .i64 q1 fun n3 =>
    Post (.bool (n3 == (0 : Int))) h2) h
noncomputable def p_spec_l00Src_one.code : Code := (Try.f81.body).getD .skip
theorem p_spec_l00Src_one.call {s_0 : Addr} {n_1 : Int} {Post : Value → Heap → Prop} {h : Heap} (H : p_spec_l00Src_one.S s_0 n_1 Post h) : CALL prg f_p_spec_l00Src_one #[.pointer (some s_0), .int .i64 n_1] Post h :=
  fn_call tau_ok mixed (c := p_spec_l00Src_one.code) (Λ := lookL []) Try.func81 (by kernel_rfl) (by kernel_rfl)
    (Rq.free (by kernel_rfl))
    (Eq.mp (by kernel_rfl) H)

def spec_l01Samples.B3 (Post : Value → Heap → Prop) (N3 : (Addr × Option Addr × Nat × Nat × Int) → Heap → Prop) : Addr × Option Addr × Nat × Nat × Int → Heap → Prop
  | (s_0, out_5b, out_5l, out_5c, k_6), h =>
    BIF ((decide ((0 : Int) < k_6))) (
    CALL prg f_spec_l01Any #[.pointer (some s_0)] (fun q6 h7 =>
    asF .f32 q6 fun r8 =>
    ALC ⟨[.float .f32 r8]⟩ T_float32 (fun g9 h10 =>
    SEMV prg (Builtin.append_ #[T_sl_float32, T_sl_float32] T_sl_float32 #[.slice out_5b out_5l out_5c, .slice (some ⟨g9, 0, none⟩) 1 1]) (fun q11 h12 =>
    asL q11 fun l13b l13l l13c =>
    N3 (s_0, l13b, l13l, l13c, ((IntKind.i64.wrap (k_6 - (1 : Int))))) h12) h10) h7) h) (
    CALL prg f_p_spec_l00Src_one #[.pointer (some s_0), .int .i64 (40 : Int)] (fun q14 h15 =>
    asB q14 fun b16 =>
    BIF b16 (
    CALL prg f_p_spec_l00Src_pick #[.pointer (some s_0), .int .i64 (2 : Int)] (fun q17 h18 =>
    asI .i64 q17 fun n19 =>
    MKS ti_float32 T_float32 ((IntKind.i64.wrap ((4096 : Int) + n19))) ((IntKind.i64.wrap ((4096 : Int) + n19))) (fun g20 h21 =>
    Post (.slice (some ⟨g20, 0, none⟩) ((Int.toNat ((IntKind.i64.wrap ((4096 : Int) + n19))))) ((Int.toNat ((IntKind.i64.wrap ((4096 : Int) + n19)))))) h21) h18) h15) (
    Post (.slice out_5b out_5l out_5c) h15)) h)
def spec_l01Samples.g3 (fr : Frame) : Addr × Option Addr × Nat × Nat × Int := ((gP (lget fr 0)), (gLb (lget fr 5)), (gLl (lget fr 5)), (gLc (lget fr 5)), (gI (lget fr 6)))
def spec_l01Samples.l3 (Post : Value → Heap → Prop) : Frame → Heap → Prop := fun fr h => GRD (shape (kds 28 [(0, .p), (5, .l), (6, .i .i64)]) fr) (LOOP (spec_l01Samples.B3 Post) (spec_l01Samples.g3 fr) h)
def spec_l01Samples.S (s_0 : Addr) (most_1 : Int) (Post : Value → Heap → Prop) (h : Heap) : Prop :=
    ALC ⟨[]⟩ T_float32 (fun g1 h2 =>
    CALL prg f_p_spec_l00Src_pick #[.pointer (some s_0), .int .i64 ((IntKind.i64.wrap (most_1 + (1 : Int))))] (fun q3 h4 =>
    asI .i64 q3 fun n5 =>
    LOOP (spec_l01Samples.B3 Post) (s_0, (some ⟨g1, 0, none⟩), 0, 0, n5) h4) h2) h
noncomputable def spec_l01Samples.code : Code := (Try.f30.body).getD .skip
theorem spec_l01Samples.call {s_0 : Addr} {most_1 : Int} {Post : Value → Heap → Prop} {h : Heap} (H : spec_l01Samples.S s_0 most_1 Post h) : CALL prg f_spec_l01Samples #[.pointer (some s_0), .int .i64 most_1] Post h :=
  fn_call tau_ok mixed (c := spec_l01Samples.code) (Λ := lookL [(1000003, spec_l01Samples.l3 Post)]) Try.func30 (by kernel_rfl) (by kernel_rfl)
    (Rq.seq (by kernel_rfl) (Rq.free (by kernel_rfl)) (Rq.seq (by kernel_rfl) (Rq.free (by kernel_rfl)) (Rq.seq (by kernel_rfl) (Rq.seq (by kernel_rfl) (Rq.free (by kernel_rfl)) (Rq.block (Rq.loop (spec_l01Samples.l3 Post) (by kernel_rfl) (segL (g := spec_l01Samples.g3) tau_ok mixed (Λ := fun N3 => lookL []) (fun _ _ _ => by kernel_rfl) (fun N3 => (Rq.free (by kernel_rfl))))))) (Rq.free (by kernel_rfl)))))
    (Eq.mp (by kernel_rfl) H)

def spec_P6Samples.S (code_0b : Option Addr) (code_0l code_0c : Nat) (most_1 : Int) (Post : Value → Heap → Prop) (h : Heap) : Prop :=
    CALL prg f_spec_l00From #[.slice code_0b code_0l code_0c] (fun q1 h2 =>
    asP q1 fun p3 =>
    CALL prg f_spec_l01Samples #[.pointer (some p3), .int .i64 most_1] (fun q4 h5 =>
    asL q4 fun l6b l6l l6c =>
    Post (.slice l6b l6l l6c) h5) h2) h
noncomputable def spec_P6Samples.code : Code := (Try.f7.body).getD .skip
theorem spec_P6Samples.call {code_0b : Option Addr} {code_0l code_0c : Nat} {most_1 : Int} {Post : Value → Heap → Prop} {h : Heap} (H : spec_P6Samples.S code_0b code_0l code_0c most_1 Post h) : CALL prg f_spec_P6Samples #[.slice code_0b code_0l code_0c, .int .i64 most_1] Post h :=
  fn_call tau_ok mixed (c := spec_P6Samples.code) (Λ := lookL []) Try.func7 (by kernel_rfl) (by kernel_rfl)
    (Rq.free (by kernel_rfl))
    (Eq.mp (by kernel_rfl) H)

def spec_P6Pick.S (code_0b : Option Addr) (code_0l code_0c : Nat) (n_1 : Int) (Post : Value → Heap → Prop) (h : Heap) : Prop :=
    CALL prg f_spec_l00From #[.slice code_0b code_0l code_0c] (fun q1 h2 =>
    asP q1 fun p3 =>
    CALL prg f_p_spec_l00Src_pick #[.pointer (some p3), .int .i64 n_1] (fun q4 h5 =>
    asI .i64 q4 fun n6 =>
    Post (.int .i64 n6) h5) h2) h
noncomputable def spec_P6Pick.code : Code := (Try.f8.body).getD .skip
theorem spec_P6Pick.call {code_0b : Option Addr} {code_0l code_0c : Nat} {n_1 : Int} {Post : Value → Heap → Prop} {h : Heap} (H : spec_P6Pick.S code_0b code_0l code_0c n_1 Post h) : CALL prg f_spec_P6Pick #[.slice code_0b code_0l code_0c, .int .i64 n_1] Post h :=
  fn_call tau_ok mixed (c := spec_P6Pick.code) (Λ := lookL []) Try.func8 (by kernel_rfl) (by kernel_rfl)
    (Rq.free (by kernel_rfl))
    (Eq.mp (by kernel_rfl) H)

def impl_within.S (n_0 : Int) (low_1 : Int) (high_2 : Int) (Post : Value → Heap → Prop) (h : Heap) : Prop :=
    BIF (decide (low_1 ≤ n_0)) (
    Post (.bool (decide (n_0 ≤ high_2))) h) (
    Post (.bool false) h)
noncomputable def impl_within.code : Code := (Try.f34.body).getD .skip
theorem impl_within.call {n_0 : Int} {low_1 : Int} {high_2 : Int} {Post : Value → Heap → Prop} {h : Heap} (H : impl_within.S n_0 low_1 high_2 Post h) : CALL prg f_impl_within #[.int .i64 n_0, .int .i64 low_1, .int .i64 high_2] Post h :=
  fn_call tau_ok mixed (c := impl_within.code) (Λ := lookL []) Try.func34 (by kernel_rfl) (by kernel_rfl)
    (Rq.free (by kernel_rfl))
    (Eq.mp (by kernel_rfl) H)

def impl_isSoundKind.S (kind_0 : Int) (Post : Value → Heap → Prop) (h : Heap) : Prop :=
    CALL prg f_impl_within #[.int .i64 kind_0, .int .i64 (1 : Int), .int .i64 (2 : Int)] (fun q1 h2 =>
    asB q1 fun b3 =>
    Post (.bool b3) h2) h
noncomputable def impl_isSoundKind.code : Code := (Try.f33.body).getD .skip
theorem impl_isSoundKind.call {kind_0 : Int} {Post : Value → Heap → Prop} {h : Heap} (H : impl_isSoundKind.S kind_0 Post h) : CALL prg f_impl_isSoundKind #[.int .i64 kind_0] Post h :=
  fn_call tau_ok mixed (c := impl_isSoundKind.code) (Λ := lookL []) Try.func33 (by kernel_rfl) (by kernel_rfl)
    (Rq.free (by kernel_rfl))
    (Eq.mp (by kernel_rfl) H)

def impl_littleBytes.B3 (Post : Value → Heap → Prop) (N3 : (Int × Option Addr × Nat × Nat × Int × Int) → Heap → Prop) : Int × Option Addr × Nat × Nat × Int × Int → Heap → Prop
  | (n_0, out_5b, out_5l, out_5c, t6, t7), h =>
    BIF (decide (t7 < t6)) (
    ALC ⟨[.int .u8 (IntKind.u8.wrap n_0)]⟩ T_uint8 (fun g1 h2 =>
    SEMV prg (Builtin.append_ #[T_sl_uint8, T_sl_uint8] T_sl_uint8 #[.slice out_5b out_5l out_5c, .slice (some ⟨g1, 0, none⟩) 1 1]) (fun q3 h4 =>
    asL q3 fun l5b l5l l5c =>
    NN (8 : Int) <|
    N3 ((shrI .u64 n_0 (8 : Int)), l5b, l5l, l5c, t6, ((IntKind.i64.wrap (t7 + (1 : Int))))) h4) h2) h) (
    Post (.slice out_5b out_5l out_5c) h)
def impl_littleBytes.g3 (fr : Frame) : Int × Option Addr × Nat × Nat × Int × Int := ((gI (lget fr 0)), (gLb (lget fr 5)), (gLl (lget fr 5)), (gLc (lget fr 5)), (gI (lget fr 6)), (gI (lget fr 7)))
def impl_littleBytes.l3 (Post : Value → Heap → Prop) : Frame → Heap → Prop := fun fr h => GRD (shape (kds 18 [(0, .i .u64), (5, .l), (6, .i .i64), (7, .i .i64)]) fr) (LOOP (impl_littleBytes.B3 Post) (impl_littleBytes.g3 fr) h)
def impl_littleBytes.S (n_0 : Int) (size_1 : Int) (Post : Value → Heap → Prop) (h : Heap) : Prop :=
    LOOP (impl_littleBytes.B3 Post) (n_0, none, 0, 0, size_1, (0 : Int)) h
noncomputable def impl_littleBytes.code : Code := (Try.f83.body).getD .skip
theorem impl_littleBytes.call {n_0 : Int} {size_1 : Int} {Post : Value → Heap → Prop} {h : Heap} (H : impl_littleBytes.S n_0 size_1 Post h) : CALL prg f_impl_littleBytes #[.int .u64 n_0, .int .i64 size_1] Post h :=
  fn_call tau_ok mixed (c := impl_littleBytes.code) (Λ := lookL [(1000003, impl_littleBytes.l3 Post)]) Try.func83 (by kernel_rfl) (by kernel_rfl)
    (Rq.seq (by kernel_rfl) (Rq.free (by kernel_rfl)) (Rq.seq (by kernel_rfl) (Rq.free (by kernel_rfl)) (Rq.seq (by kernel_rfl) (Rq.seq (by kernel_rfl) (Rq.free (by kernel_rfl)) (Rq.block (Rq.loop (impl_littleBytes.l3 Post) (by kernel_rfl) (segL (g := impl_littleBytes.g3) tau_ok mixed (Λ := fun N3 => lookL []) (fun _ _ _ => by kernel_rfl) (fun N3 => (Rq.free (by kernel_rfl))))))) (Rq.free (by kernel_rfl)))))
    (Eq.mp (by kernel_rfl) H)

def impl_ToShort.S (a_0 : Nat) (Post : Value → Heap → Prop) (h : Heap) : Prop :=
    FFC .f32 a_0 .f64 fun r1 =>
    FOP .f64 (FloatKind.f64.format.mul r1 4674736413210574848) fun r2 =>
    CALL prg f_math_RoundToEven #[.float .f64 r2] (fun q3 h4 =>
    asF .f64 q3 fun r5 =>
    BIF (FloatKind.f64.format.order r5 r5 != some .eq) (
    Post (.int .i16 (0 : Int)) h4) (
    BIF (FloatKind.f64.format.order r5 4674736138332667904 == some .gt) (
    Post (.int .i16 (32767 : Int)) h4) (
    BIF (FloatKind.f64.format.order r5 13898108450065350656 == some .lt) (
    Post (.int .i16 (-32768 : Int)) h4) (
    FIC .f64 r5 .i16 fun n6 =>
    Post (.int .i16 n6) h4)))) h
noncomputable def impl_ToShort.code : Code := (Try.f13.body).getD .skip
theorem impl_ToShort.call {a_0 : Nat} {Post : Value → Heap → Prop} {h : Heap} (H : impl_ToShort.S a_0 Post h) : CALL prg f_impl_ToShort #[.float .f32 a_0] Post h :=
  fn_call tau_ok mixed (c := impl_ToShort.code) (Λ := lookL []) Try.func13 (by kernel_rfl) (by kernel_rfl)
    (Rq.free (by kernel_rfl))
    (Eq.mp (by kernel_rfl) H)

def impl_bitsOf.S (a_0 : Nat) (Post : Value → Heap → Prop) (h : Heap) : Prop :=
    BIF (FloatKind.f32.format.order a_0 a_0 != some .eq) (
    Post (.int .u32 (2143289344 : Int)) h) (
    CALL prg f_math_Float32bits #[.float .f32 a_0] (fun q1 h2 =>
    asI .u32 q1 fun n3 =>
    Post (.int .u32 n3) h2) h)
noncomputable def impl_bitsOf.code : Code := (Try.f84.body).getD .skip
theorem impl_bitsOf.call {a_0 : Nat} {Post : Value → Heap → Prop} {h : Heap} (H : impl_bitsOf.S a_0 Post h) : CALL prg f_impl_bitsOf #[.float .f32 a_0] Post h :=
  fn_call tau_ok mixed (c := impl_bitsOf.code) (Λ := lookL []) Try.func84 (by kernel_rfl) (by kernel_rfl)
    (Rq.free (by kernel_rfl))
    (Eq.mp (by kernel_rfl) H)

def impl_checked.S (check_0 : Int) (n_1 : Int) (Post : Value → Heap → Prop) (h : Heap) : Prop :=
    Post (.int .u32 ((IntKind.u32.wrap ((bitI .xor .u32 check_0 n_1) * (16777619 : Int))))) h
noncomputable def impl_checked.code : Code := (Try.f152.body).getD .skip
theorem impl_checked.call {check_0 : Int} {n_1 : Int} {Post : Value → Heap → Prop} {h : Heap} (H : impl_checked.S check_0 n_1 Post h) : CALL prg f_impl_checked #[.int .u32 check_0, .int .u32 n_1] Post h :=
  fn_call tau_ok mixed (c := impl_checked.code) (Λ := lookL []) Try.func152 (by kernel_rfl) (by kernel_rfl)
    (Rq.free (by kernel_rfl))
    (Eq.mp (by kernel_rfl) H)

def impl_checkOfBytes_sl_byte.B3 (Post : Value → Heap → Prop) (N3 : (Option Addr × Nat × Nat × Int × Int × Int) → Heap → Prop) : Option Addr × Nat × Nat × Int × Int × Int → Heap → Prop
  | (data_0b, data_0l, data_0c, check_3, t6, t7), h =>
    BIF (decide (t7 < t6)) (
    IDXS data_0b t7 data_0l fun p3 =>
    oI .u8 (cell h ((Addr.add p3 ((Int.toNat t7) * 1)))) fun n4 =>
    CALL prg f_impl_checked #[.int .u32 check_3, .int .u32 (IntKind.u32.wrap n4)] (fun q5 h6 =>
    asI .u32 q5 fun n7 =>
    N3 (data_0b, data_0l, data_0c, n7, t6, ((IntKind.i64.wrap (t7 + (1 : Int))))) h6) h) (
    Post (.int .u32 check_3) h)
def impl_checkOfBytes_sl_byte.g3 (fr : Frame) : Option Addr × Nat × Nat × Int × Int × Int := ((gLb (lget fr 0)), (gLl (lget fr 0)), (gLc (lget fr 0)), (gI (lget fr 3)), (gI (lget fr 6)), (gI (lget fr 7)))
def impl_checkOfBytes_sl_byte.l3 (Post : Value → Heap → Prop) : Frame → Heap → Prop := fun fr h => GRD (shape (kds 19 [(0, .l), (3, .i .u32), (6, .i .i64), (7, .i .i64)]) fr) (LOOP (impl_checkOfBytes_sl_byte.B3 Post) (impl_checkOfBytes_sl_byte.g3 fr) h)
def impl_checkOfBytes_sl_byte.S (data_0b : Option Addr) (data_0l data_0c : Nat) (Post : Value → Heap → Prop) (h : Heap) : Prop :=
    LOOP (impl_checkOfBytes_sl_byte.B3 Post) (data_0b, data_0l, data_0c, (2166136261 : Int), (data_0l : Int), (0 : Int)) h
noncomputable def impl_checkOfBytes_sl_byte.code : Code := (Try.f85.body).getD .skip
theorem impl_checkOfBytes_sl_byte.call {data_0b : Option Addr} {data_0l data_0c : Nat} {Post : Value → Heap → Prop} {h : Heap} (H : impl_checkOfBytes_sl_byte.S data_0b data_0l data_0c Post h) : CALL prg f_impl_checkOfBytes_sl_byte #[.slice data_0b data_0l data_0c] Post h :=
  fn_call tau_ok mixed (c := impl_checkOfBytes_sl_byte.code) (Λ := lookL [(1000003, impl_checkOfBytes_sl_byte.l3 Post)]) Try.func85 (by kernel_rfl) (by kernel_rfl)
    (Rq.seq (by kernel_rfl) (Rq.free (by kernel_rfl)) (Rq.seq (by kernel_rfl) (Rq.free (by kernel_rfl)) (Rq.seq (by kernel_rfl) (Rq.seq (by kernel_rfl) (Rq.free (by kernel_rfl)) (Rq.block (Rq.loop (impl_checkOfBytes_sl_byte.l3 Post) (by kernel_rfl) (segL (g := impl_checkOfBytes_sl_byte.g3) tau_ok mixed (Λ := fun N3 => lookL []) (fun _ _ _ => by kernel_rfl) (fun N3 => (Rq.free (by kernel_rfl))))))) (Rq.free (by kernel_rfl)))))
    (Eq.mp (by kernel_rfl) H)

def impl_soundFile.B5 (Post : Value → Heap → Prop) (N5 : (Int × Option Addr × Nat × Nat × Option Addr × Nat × Nat × Int × Int) → Heap → Prop) : Int × Option Addr × Nat × Nat × Option Addr × Nat × Nat × Int × Int → Heap → Prop
  | (kind_0, out_7b, out_7l, out_7c, t27b, t27l, t27c, t28, t29), h =>
    BIF (decide (t29 < t28)) (
    IDXS t27b t29 t27l fun p27 =>
    oF .f32 (cell h ((Addr.add p27 ((Int.toNat t29) * 1)))) fun r28 =>
    BIF (kind_0 == (1 : Int)) (
    CALL prg f_impl_ToShort #[.float .f32 r28] (fun q29 h30 =>
    asI .i16 q29 fun n31 =>
    CALL prg f_impl_littleBytes #[.int .u64 (IntKind.u64.wrap (IntKind.u16.wrap n31)), .int .i64 (2 : Int)] (fun q32 h33 =>
    asL q32 fun l34b l34l l34c =>
    SEMV prg (Builtin.append_ #[T_sl_uint8, T_sl_uint8] T_sl_uint8 #[.slice out_7b out_7l out_7c, .slice l34b l34l l34c]) (fun q35 h36 =>
    asL q35 fun l37b l37l l37c =>
    N5 (kind_0, l37b, l37l, l37c, t27b, t27l, t27c, t28, ((IntKind.i64.wrap (t29 + (1 : Int))))) h36) h33) h30) h) (
    CALL prg f_impl_bitsOf #[.float .f32 r28] (fun q38 h39 =>
    asI .u32 q38 fun n40 =>
    CALL prg f_impl_littleBytes #[.int .u64 (IntKind.u64.wrap n40), .int .i64 (4 : Int)] (fun q41 h42 =>
    asL q41 fun l43b l43l l43c =>
    SEMV prg (Builtin.append_ #[T_sl_uint8, T_sl_uint8] T_sl_uint8 #[.slice out_7b out_7l out_7c, .slice l43b l43l l43c]) (fun q44 h45 =>
    asL q44 fun l46b l46l l46c =>
    N5 (kind_0, l46b, l46l, l46c, t27b, t27l, t27c, t28, ((IntKind.i64.wrap (t29 + (1 : Int))))) h45) h42) h39) h)) (
    CALL prg f_impl_checkOfBytes_sl_byte #[.slice out_7b out_7l out_7c] (fun q47 h48 =>
    asI .u32 q47 fun n49 =>
    CALL prg f_impl_littleBytes #[.int .u64 (IntKind.u64.wrap n49), .int .i64 (4 : Int)] (fun q50 h51 =>
    asL q50 fun l52b l52l l52c =>
    SEMV prg (Builtin.append_ #[T_sl_uint8, T_sl_uint8] T_sl_uint8 #[.slice out_7b out_7l out_7c, .slice l52b l52l l52c]) (fun q53 h54 =>
    asL q53 fun l55b l55l l55c =>
    Post (.slice l55b l55l l55c) h54) h51) h48) h)
def impl_soundFile.g5 (fr : Frame) : Int × Option Addr × Nat × Nat × Option Addr × Nat × Nat × Int × Int := ((gI (lget fr 0)), (gLb (lget fr 7)), (gLl (lget fr 7)), (gLc (lget fr 7)), (gLb (lget fr 27)), (gLl (lget fr 27)), (gLc (lget fr 27)), (gI (lget fr 28)), (gI (lget fr 29)))
def impl_soundFile.l5 (Post : Value → Heap → Prop) : Frame → Heap → Prop := fun fr h => GRD (shape (kds 55 [(0, .i .i64), (7, .l), (27, .l), (28, .i .i64), (29, .i .i64)]) fr) (LOOP (impl_soundFile.B5 Post) (impl_soundFile.g5 fr) h)
def impl_soundFile.S (kind_0 : Int) (rate_1 : Int) (samples_2b : Option Addr) (samples_2l samples_2c : Nat) (Post : Value → Heap → Prop) (h : Heap) : Prop :=
    ALC ⟨[.int .u8 (83 : Int), .int .u8 (80 : Int), .int .u8 (70 : Int)]⟩ T_uint8 (fun g1 h2 =>
    SEMV prg (convert T_sl_uint8 T_sl_uint8 (.slice (some ⟨g1, 0, none⟩) 3 3)) (fun q3 h4 =>
    asL q3 fun l5b l5l l5c =>
    ALC ⟨[.int .u8 (IntKind.u8.wrap kind_0)]⟩ T_uint8 (fun g6 h7 =>
    SEMV prg (Builtin.append_ #[T_sl_uint8, T_sl_uint8] T_sl_uint8 #[.slice l5b l5l l5c, .slice (some ⟨g6, 0, none⟩) 1 1]) (fun q8 h9 =>
    asL q8 fun l10b l10l l10c =>
    CALL prg f_impl_littleBytes #[.int .u64 (IntKind.u64.wrap rate_1), .int .i64 (4 : Int)] (fun q11 h12 =>
    asL q11 fun l13b l13l l13c =>
    SEMV prg (Builtin.append_ #[T_sl_uint8, T_sl_uint8] T_sl_uint8 #[.slice l10b l10l l10c, .slice l13b l13l l13c]) (fun q14 h15 =>
    asL q14 fun l16b l16l l16c =>
    CALL prg f_impl_littleBytes #[.int .u64 (IntKind.u64.wrap (samples_2l : Int)), .int .i64 (4 : Int)] (fun q19 h20 =>
    asL q19 fun l21b l21l l21c =>
    SEMV prg (Builtin.append_ #[T_sl_uint8, T_sl_uint8] T_sl_uint8 #[.slice l16b l16l l16c, .slice l21b l21l l21c]) (fun q22 h23 =>
    asL q22 fun l24b l24l l24c =>
    LOOP (impl_soundFile.B5 Post) (kind_0, l24b, l24l, l24c, samples_2b, samples_2l, samples_2c, (samples_2l : Int), (0 : Int)) h23) h20) h15) h12) h9) h7) h4) h2) h
noncomputable def impl_soundFile.code : Code := (Try.f35.body).getD .skip
theorem impl_soundFile.call {kind_0 : Int} {rate_1 : Int} {samples_2b : Option Addr} {samples_2l samples_2c : Nat} {Post : Value → Heap → Prop} {h : Heap} (H : impl_soundFile.S kind_0 rate_1 samples_2b samples_2l samples_2c Post h) : CALL prg f_impl_soundFile #[.int .i64 kind_0, .int .i64 rate_1, .slice samples_2b samples_2l samples_2c] Post h :=
  fn_call tau_ok mixed (c := impl_soundFile.code) (Λ := lookL [(1000005, impl_soundFile.l5 Post)]) Try.func35 (by kernel_rfl) (by kernel_rfl)
    (Rq.seq (by kernel_rfl) (Rq.free (by kernel_rfl)) (Rq.seq (by kernel_rfl) (Rq.free (by kernel_rfl)) (Rq.seq (by kernel_rfl) (Rq.free (by kernel_rfl)) (Rq.seq (by kernel_rfl) (Rq.free (by kernel_rfl)) (Rq.seq (by kernel_rfl) (Rq.seq (by kernel_rfl) (Rq.free (by kernel_rfl)) (Rq.block (Rq.loop (impl_soundFile.l5 Post) (by kernel_rfl) (segL (g := impl_soundFile.g5) tau_ok mixed (Λ := fun N5 => lookL []) (fun _ _ _ => by kernel_rfl) (fun N5 => (Rq.free (by kernel_rfl))))))) (Rq.free (by kernel_rfl)))))))
    (Eq.mp (by kernel_rfl) H)

def impl_MakeSoundFile.S (kind_0 : Int) (rate_1 : Int) (samples_2b : Option Addr) (samples_2l samples_2c : Nat) (Post : Value → Heap → Prop) (h : Heap) : Prop :=
    BIF ((decide ((4096 : Int) < (samples_2l : Int)))) (
    Post (.tuple ⟨[.slice none 0 0, .int .i64 (3 : Int)]⟩) h) (
    CALL prg f_impl_isSoundKind #[.int .i64 kind_0] (fun q3 h4 =>
    asB q3 fun b5 =>
    BIF (!b5) (
    Post (.tuple ⟨[.slice none 0 0, .int .i64 (2 : Int)]⟩) h4) (
    CALL prg f_impl_within #[.int .i64 rate_1, .int .i64 (1 : Int), .int .i64 (1000000 : Int)] (fun q6 h7 =>
    asB q6 fun b8 =>
    BIF (!b8) (
    Post (.tuple ⟨[.slice none 0 0, .int .i64 (2 : Int)]⟩) h7) (
    CALL prg f_impl_soundFile #[.int .i64 kind_0, .int .i64 rate_1, .slice samples_2b samples_2l samples_2c] (fun q9 h10 =>
    asL q9 fun l11b l11l l11c =>
    Post (.tuple ⟨[.slice l11b l11l l11c, .int .i64 (0 : Int)]⟩) h10) h7)) h4)) h)
noncomputable def impl_MakeSoundFile.code : Code := (Try.f9.body).getD .skip
theorem impl_MakeSoundFile.call {kind_0 : Int} {rate_1 : Int} {samples_2b : Option Addr} {samples_2l samples_2c : Nat} {Post : Value → Heap → Prop} {h : Heap} (H : impl_MakeSoundFile.S kind_0 rate_1 samples_2b samples_2l samples_2c Post h) : CALL prg f_impl_MakeSoundFile #[.int .i64 kind_0, .int .i64 rate_1, .slice samples_2b samples_2l samples_2c] Post h :=
  fn_call tau_ok mixed (c := impl_MakeSoundFile.code) (Λ := lookL []) Try.func9 (by kernel_rfl) (by kernel_rfl)
    (Rq.free (by kernel_rfl))
    (Eq.mp (by kernel_rfl) H)

def impl_isLongFile.S (data_0b : Option Addr) (data_0l data_0c : Nat) (Post : Value → Heap → Prop) (h : Heap) : Prop :=
    Post (.bool ((decide ((16400 : Int) < (data_0l : Int))))) h
noncomputable def impl_isLongFile.code : Code := (Try.f36.body).getD .skip
theorem impl_isLongFile.call {data_0b : Option Addr} {data_0l data_0c : Nat} {Post : Value → Heap → Prop} {h : Heap} (H : impl_isLongFile.S data_0b data_0l data_0c Post h) : CALL prg f_impl_isLongFile #[.slice data_0b data_0l data_0c] Post h :=
  fn_call tau_ok mixed (c := impl_isLongFile.code) (Λ := lookL []) Try.func36 (by kernel_rfl) (by kernel_rfl)
    (Rq.free (by kernel_rfl))
    (Eq.mp (by kernel_rfl) H)

def impl_littleOf.B3 (Post : Value → Heap → Prop) (N3 : (Option Addr × Nat × Nat × Int × Int) → Heap → Prop) : Option Addr × Nat × Nat × Int × Int → Heap → Prop
  | (b_0b, b_0l, b_0c, n_3, i_4), h =>
    BIF ((decide ((0 : Int) ≤ i_4))) (
    NN (8 : Int) <|
    IDXS b_0b i_4 b_0l fun p3 =>
    oI .u8 (cell h ((Addr.add p3 ((Int.toNat i_4) * 1)))) fun n4 =>
    N3 (b_0b, b_0l, b_0c, ((bitI .or .u64 (shlI .u64 n_3 (8 : Int)) (IntKind.u64.wrap n4))), ((IntKind.i64.wrap (i_4 - (1 : Int))))) h) (
    Post (.int .u64 n_3) h)
def impl_littleOf.g3 (fr : Frame) : Option Addr × Nat × Nat × Int × Int := ((gLb (lget fr 0)), (gLl (lget fr 0)), (gLc (lget fr 0)), (gI (lget fr 3)), (gI (lget fr 4)))
def impl_littleOf.l3 (Post : Value → Heap → Prop) : Frame → Heap → Prop := fun fr h => GRD (shape (kds 21 [(0, .l), (3, .i .u64), (4, .i .i64)]) fr) (LOOP (impl_littleOf.B3 Post) (impl_littleOf.g3 fr) h)
def impl_littleOf.S (b_0b : Option Addr) (b_0l b_0c : Nat) (Post : Value → Heap → Prop) (h : Heap) : Prop :=
    LOOP (impl_littleOf.B3 Post) (b_0b, b_0l, b_0c, (0 : Int), ((IntKind.i64.wrap ((b_0l : Int) - (1 : Int))))) h
noncomputable def impl_littleOf.code : Code := (Try.f86.body).getD .skip
theorem impl_littleOf.call {b_0b : Option Addr} {b_0l b_0c : Nat} {Post : Value → Heap → Prop} {h : Heap} (H : impl_littleOf.S b_0b b_0l b_0c Post h) : CALL prg f_impl_littleOf #[.slice b_0b b_0l b_0c] Post h :=
  fn_call tau_ok mixed (c := impl_littleOf.code) (Λ := lookL [(1000003, impl_littleOf.l3 Post)]) Try.func86 (by kernel_rfl) (by kernel_rfl)
    (Rq.seq (by kernel_rfl) (Rq.free (by kernel_rfl)) (Rq.seq (by kernel_rfl) (Rq.free (by kernel_rfl)) (Rq.seq (by kernel_rfl) (Rq.seq (by kernel_rfl) (Rq.free (by kernel_rfl)) (Rq.block (Rq.loop (impl_littleOf.l3 Post) (by kernel_rfl) (segL (g := impl_littleOf.g3) tau_ok mixed (Λ := fun N3 => lookL []) (fun _ _ _ => by kernel_rfl) (fun N3 => (Rq.free (by kernel_rfl))))))) (Rq.free (by kernel_rfl)))))
    (Eq.mp (by kernel_rfl) H)

def impl_soundHead.J3 (Post : Value → Heap → Prop) (data_0b : Option Addr) (data_0l : Nat) (data_0c : Nat) (h : Heap) : Prop :=
    IDXS data_0b (3 : Int) data_0l fun p6 =>
    oI .u8 (cell h (Addr.add p6 3)) fun n7 =>
    SLB (4 : Int) (8 : Int) (data_0c : Int) <|
    SLB (8 : Int) (12 : Int) (data_0c : Int) <|
    CALL prg f_impl_littleOf #[.slice (slA data_0b data_0c 4 1) (8 - 4) (data_0c - 4)] (fun q8 h9 =>
    asI .u64 q8 fun n10 =>
    PIN h (Addr.add p6 3) 1 h9 <|
    CALL prg f_impl_littleOf #[.slice (slA data_0b data_0c 8 1) (12 - 8) (data_0c - 8)] (fun q11 h12 =>
    asI .u64 q11 fun n13 =>
    PIN h (Addr.add p6 3) 1 h12 <|
    CALL prg f_impl_isSoundKind #[.int .i64 (IntKind.i64.wrap n7)] (fun q14 h15 =>
    asB q14 fun b16 =>
    BIF b16 (
    CALL prg f_impl_within #[.int .i64 (IntKind.i64.wrap n10), .int .i64 (1 : Int), .int .i64 (1000000 : Int)] (fun q17 h18 =>
    asB q17 fun b19 =>
    BIF b19 (
    Post (.tuple ⟨[.int .i64 (IntKind.i64.wrap n7), .int .i64 (IntKind.i64.wrap n10), .int .i64 (IntKind.i64.wrap n13), .bool ((decide ((IntKind.i64.wrap n13) ≤ (4096 : Int))))]⟩) h18) (
    Post (.tuple ⟨[.int .i64 (IntKind.i64.wrap n7), .int .i64 (IntKind.i64.wrap n10), .int .i64 (IntKind.i64.wrap n13), .bool false]⟩) h18)) h15) (
    Post (.tuple ⟨[.int .i64 (IntKind.i64.wrap n7), .int .i64 (IntKind.i64.wrap n10), .int .i64 (IntKind.i64.wrap n13), .bool false]⟩) h15)) h12) h9) h
def impl_soundHead.j3 (Post : Value → Heap → Prop) : Frame → Heap → Prop := fun fr h => GRD (shape (kds 43 [(0, .l)]) fr) (impl_soundHead.J3 Post (gLb (lget fr 0)) (gLl (lget fr 0)) (gLc (lget fr 0)) h)
def impl_soundHead.S (data_0b : Option Addr) (data_0l data_0c : Nat) (Post : Value → Heap → Prop) (h : Heap) : Prop :=
    BIF ((decide ((data_0l : Int) < (12 : Int)))) (
    Post (.tuple ⟨[.int .i64 (0 : Int), .int .i64 (0 : Int), .int .i64 (0 : Int), .bool false]⟩) h) (
    SLB (0 : Int) (3 : Int) (data_0c : Int) <|
    SEMV prg (convert T_sl_uint8 T_string (.slice (slA data_0b data_0c 0 1) (3 - 0) (data_0c - 0))) (fun q3 h4 =>
    asS q3 fun s5 =>
    BIF ((!(ByteArray.toList s5 == ByteArray.toList (⟨#[83, 80, 70]⟩ : ByteArray)))) (
    Post (.tuple ⟨[.int .i64 (0 : Int), .int .i64 (0 : Int), .int .i64 (0 : Int), .bool false]⟩) h4) (
    impl_soundHead.J3 Post data_0b data_0l data_0c h4)) h)
noncomputable def impl_soundHead.code : Code := (Try.f37.body).getD .skip
theorem impl_soundHead.call {data_0b : Option Addr} {data_0l data_0c : Nat} {Post : Value → Heap → Prop} {h : Heap} (H : impl_soundHead.S data_0b data_0l data_0c Post h) : CALL prg f_impl_soundHead #[.slice data_0b data_0l data_0c] Post h :=
  fn_call tau_ok mixed (c := impl_soundHead.code) (Λ := lookL [(3, impl_soundHead.j3 Post)]) Try.func37 (by kernel_rfl) (by kernel_rfl)
    (Rq.seq (by kernel_rfl) (Rq.free (by kernel_rfl)) (Rq.seqJ (impl_soundHead.j3 Post) (by kernel_rfl) (seg (fun _ _ => by kernel_rfl)) (Rq.free (by kernel_rfl))
(Rq.free (by kernel_rfl))))
    (Eq.mp (by kernel_rfl) H)

def impl_sampleSize.S (kind_0 : Int) (Post : Value → Heap → Prop) (h : Heap) : Prop :=
    Post (.int .i64 ((IntKind.i64.wrap ((2 : Int) * kind_0)))) h
noncomputable def impl_sampleSize.code : Code := (Try.f38.body).getD .skip
theorem impl_sampleSize.call {kind_0 : Int} {Post : Value → Heap → Prop} {h : Heap} (H : impl_sampleSize.S kind_0 Post h) : CALL prg f_impl_sampleSize #[.int .i64 kind_0] Post h :=
  fn_call tau_ok mixed (c := impl_sampleSize.code) (Λ := lookL []) Try.func38 (by kernel_rfl) (by kernel_rfl)
    (Rq.free (by kernel_rfl))
    (Eq.mp (by kernel_rfl) H)

def impl_FromShort.S (n_0 : Int) (Post : Value → Heap → Prop) (h : Heap) : Prop :=
    FOP .f32 (FloatKind.f32.format.div (FloatKind.f32.nearest n_0) 1191182336) fun r1 =>
    Post (.float .f32 r1) h
noncomputable def impl_FromShort.code : Code := (Try.f12.body).getD .skip
theorem impl_FromShort.call {n_0 : Int} {Post : Value → Heap → Prop} {h : Heap} (H : impl_FromShort.S n_0 Post h) : CALL prg f_impl_FromShort #[.int .i16 n_0] Post h :=
  fn_call tau_ok mixed (c := impl_FromShort.code) (Λ := lookL []) Try.func12 (by kernel_rfl) (by kernel_rfl)
    (Rq.free (by kernel_rfl))
    (Eq.mp (by kernel_rfl) H)

def impl_soundSamples.J4 (N3 : (Int × Option Addr × Nat × Nat × Int × Int × Option Addr × Nat × Nat) → Heap → Prop) (Post : Value → Heap → Prop) (kind_0 : Int) (data_1b : Option Addr) (data_1l : Nat) (data_1c : Nat) (most_2 : Int) (size_7 : Int) (out_8b : Option Addr) (out_8l : Nat) (out_8c : Nat) (h : Heap) : Prop :=
    BIF (kind_0 == (1 : Int)) (
    SLB (0 : Int) (2 : Int) (data_1c : Int) <|
    CALL prg f_impl_littleOf #[.slice (slA data_1b data_1c 0 1) (2 - 0) (data_1c - 0)] (fun q8 h9 =>
    asI .u64 q8 fun n10 =>
    CALL prg f_impl_FromShort #[.int .i16 (IntKind.i16.wrap n10)] (fun q11 h12 =>
    asF .f32 q11 fun r13 =>
    ALC ⟨[.float .f32 r13]⟩ T_float32 (fun g14 h15 =>
    SEMV prg (Builtin.append_ #[T_sl_float32, T_sl_float32] T_sl_float32 #[.slice out_8b out_8l out_8c, .slice (some ⟨g14, 0, none⟩) 1 1]) (fun q16 h17 =>
    asL q16 fun l18b l18l l18c =>
    SLB size_7 (data_1l : Int) (data_1c : Int) <|
    N3 (kind_0, (slA data_1b data_1c (Int.toNat size_7) 1), (data_1l - (Int.toNat size_7)), (data_1c - (Int.toNat size_7)), most_2, size_7, l18b, l18l, l18c) h17) h15) h12) h9) h) (
    SLB (0 : Int) (4 : Int) (data_1c : Int) <|
    CALL prg f_impl_littleOf #[.slice (slA data_1b data_1c 0 1) (4 - 0) (data_1c - 0)] (fun q19 h20 =>
    asI .u64 q19 fun n21 =>
    CALL prg f_math_Float32frombits #[.int .u32 (IntKind.u32.wrap n21)] (fun q22 h23 =>
    asF .f32 q22 fun r24 =>
    ALC ⟨[.float .f32 r24]⟩ T_float32 (fun g25 h26 =>
    SEMV prg (Builtin.append_ #[T_sl_float32, T_sl_float32] T_sl_float32 #[.slice out_8b out_8l out_8c, .slice (some ⟨g25, 0, none⟩) 1 1]) (fun q27 h28 =>
    asL q27 fun l29b l29l l29c =>
    SLB size_7 (data_1l : Int) (data_1c : Int) <|
    N3 (kind_0, (slA data_1b data_1c (Int.toNat size_7) 1), (data_1l - (Int.toNat size_7)), (data_1c - (Int.toNat size_7)), most_2, size_7, l29b, l29l, l29c) h28) h26) h23) h20) h)
def impl_soundSamples.j4 (N3 : (Int × Option Addr × Nat × Nat × Int × Int × Option Addr × Nat × Nat) → Heap → Prop) (Post : Value → Heap → Prop) : Frame → Heap → Prop := fun fr h => GRD (shape (kds 43 [(0, .i .i64), (1, .l), (2, .i .i64), (7, .i .i64), (8, .l)]) fr) (impl_soundSamples.J4 N3 Post (gI (lget fr 0)) (gLb (lget fr 1)) (gLl (lget fr 1)) (gLc (lget fr 1)) (gI (lget fr 2)) (gI (lget fr 7)) (gLb (lget fr 8)) (gLl (lget fr 8)) (gLc (lget fr 8)) h)
def impl_soundSamples.B3 (Post : Value → Heap → Prop) (N3 : (Int × Option Addr × Nat × Nat × Int × Int × Option Addr × Nat × Nat) → Heap → Prop) : Int × Option Addr × Nat × Nat × Int × Int × Option Addr × Nat × Nat → Heap → Prop
  | (kind_0, data_1b, data_1l, data_1c, most_2, size_7, out_8b, out_8l, out_8c), h =>
    BIF ((decide ((out_8l : Int) < most_2))) (
    BIF ((decide (size_7 ≤ (data_1l : Int)))) (
    impl_soundSamples.J4 N3 Post kind_0 data_1b data_1l data_1c most_2 size_7 out_8b out_8l out_8c h) (
    Post (.slice out_8b out_8l out_8c) h)) (
    Post (.slice out_8b out_8l out_8c) h)
def impl_soundSamples.g3 (fr : Frame) : Int × Option Addr × Nat × Nat × Int × Int × Option Addr × Nat × Nat := ((gI (lget fr 0)), (gLb (lget fr 1)), (gLl (lget fr 1)), (gLc (lget fr 1)), (gI (lget fr 2)), (gI (lget fr 7)), (gLb (lget fr 8)), (gLl (lget fr 8)), (gLc (lget fr 8)))
def impl_soundSamples.l3 (Post : Value → Heap → Prop) : Frame → Heap → Prop := fun fr h => GRD (shape (kds 43 [(0, .i .i64), (1, .l), (2, .i .i64), (7, .i .i64), (8, .l)]) fr) (LOOP (impl_soundSamples.B3 Post) (impl_soundSamples.g3 fr) h)
def impl_soundSamples.S (kind_0 : Int) (data_1b : Option Addr) (data_1l data_1c : Nat) (most_2 : Int) (Post : Value → Heap → Prop) (h : Heap) : Prop :=
    CALL prg f_impl_sampleSize #[.int .i64 kind_0] (fun q1 h2 =>
    asI .i64 q1 fun n3 =>
    LOOP (impl_soundSamples.B3 Post) (kind_0, data_1b, data_1l, data_1c, most_2, n3, none, 0, 0) h2) h
noncomputable def impl_soundSamples.code : Code := (Try.f39.body).getD .skip
theorem impl_soundSamples.call {kind_0 : Int} {data_1b : Option Addr} {data_1l data_1c : Nat} {most_2 : Int} {Post : Value → Heap → Prop} {h : Heap} (H : impl_soundSamples.S kind_0 data_1b data_1l data_1c most_2 Post h) : CALL prg f_impl_soundSamples #[.int .i64 kind_0, .slice data_1b data_1l data_1c, .int .i64 most_2] Post h :=
  fn_call tau_ok mixed (c := impl_soundSamples.code) (Λ := lookL [(1000003, impl_soundSamples.l3 Post)]) Try.func39 (by kernel_rfl) (by kernel_rfl)
    (Rq.seq (by kernel_rfl) (Rq.free (by kernel_rfl)) (Rq.seq (by kernel_rfl) (Rq.free (by kernel_rfl)) (Rq.seq (by kernel_rfl) (Rq.free (by kernel_rfl)) (Rq.seq (by kernel_rfl) (Rq.block (Rq.loop (impl_soundSamples.l3 Post) (by kernel_rfl) (segL (g := impl_soundSamples.g3) tau_ok mixed (Λ := fun N3 => lookL [(4, impl_soundSamples.j4 N3 Post)]) (fun _ _ _ => by kernel_rfl) (fun N3 => (Rq.seqJ (impl_soundSamples.j4 N3 Post) (by kernel_rfl) (seg (fun _ _ => by kernel_rfl)) (Rq.free (by kernel_rfl))
(Rq.free (by kernel_rfl))))))) (Rq.free (by kernel_rfl))))))
    (Eq.mp (by kernel_rfl) H)

def bytes_Equal.S (a_0b : Option Addr) (a_0l a_0c : Nat) (b_1b : Option Addr) (b_1l b_1c : Nat) (Post : Value → Heap → Prop) (h : Heap) : Prop :=
    SEMV prg (convert T_sl_uint8 T_string (.slice a_0b a_0l a_0c)) (fun q1 h2 =>
    asS q1 fun s3 =>
    SEMV prg (convert T_sl_uint8 T_string (.slice b_1b b_1l b_1c)) (fun q4 h5 =>
    asS q4 fun s6 =>
    Post (.bool (ByteArray.toList s3 == ByteArray.toList s6)) h5) h2) h
noncomputable def bytes_Equal.code : Code := (Try.f40.body).getD .skip
theorem bytes_Equal.call {a_0b : Option Addr} {a_0l a_0c : Nat} {b_1b : Option Addr} {b_1l b_1c : Nat} {Post : Value → Heap → Prop} {h : Heap} (H : bytes_Equal.S a_0b a_0l a_0c b_1b b_1l b_1c Post h) : CALL prg f_bytes_Equal #[.slice a_0b a_0l a_0c, .slice b_1b b_1l b_1c] Post h :=
  fn_call tau_ok mixed (c := bytes_Equal.code) (Λ := lookL []) Try.func40 (by kernel_rfl) (by kernel_rfl)
    (Rq.free (by kernel_rfl))
    (Eq.mp (by kernel_rfl) H)

def impl_ReadSoundFile.J6 (Post : Value → Heap → Prop) (data_0b : Option Addr) (data_0l : Nat) (data_0c : Nat) (kind_6 : Int) (rate_7 : Int) (count_8 : Int) (h : Heap) : Prop :=
    SLB (12 : Int) (data_0l : Int) (data_0c : Int) <|
    CALL prg f_impl_soundSamples #[.int .i64 kind_6, .slice (slA data_0b data_0c 12 1) (data_0l - 12) (data_0c - 12), .int .i64 count_8] (fun q19 h20 =>
    asL q19 fun l21b l21l l21c =>
    CALL prg f_impl_soundFile #[.int .i64 kind_6, .int .i64 rate_7, .slice l21b l21l l21c] (fun q22 h23 =>
    asL q22 fun l24b l24l l24c =>
    SLB (0 : Int) ((IntKind.i64.wrap ((data_0l : Int) - (4 : Int)))) (l24c : Int) <|
    SLB (0 : Int) ((IntKind.i64.wrap ((data_0l : Int) - (4 : Int)))) (data_0c : Int) <|
    CALL prg f_bytes_Equal #[.slice (slA l24b l24c 0 1) (((Int.toNat ((IntKind.i64.wrap ((data_0l : Int) - (4 : Int))))) - 0)) (l24c - 0), .slice (slA data_0b data_0c 0 1) (((Int.toNat ((IntKind.i64.wrap ((data_0l : Int) - (4 : Int))))) - 0)) (data_0c - 0)] (fun q27 h28 =>
    asB q27 fun b29 =>
    BIF (!b29) (
    Post (.tuple ⟨[.int .i64 (0 : Int), .int .i64 (0 : Int), .slice none 0 0, .int .i64 (5 : Int)]⟩) h28) (
    CALL prg f_bytes_Equal #[.slice l24b l24l l24c, .slice data_0b data_0l data_0c] (fun q30 h31 =>
    asB q30 fun b32 =>
    BIF (!b32) (
    Post (.tuple ⟨[.int .i64 (0 : Int), .int .i64 (0 : Int), .slice none 0 0, .int .i64 (8 : Int)]⟩) h31) (
    Post (.tuple ⟨[.int .i64 kind_6, .int .i64 rate_7, .slice l21b l21l l21c, .int .i64 (0 : Int)]⟩) h31)) h28)) h23) h20) h
def impl_ReadSoundFile.j6 (Post : Value → Heap → Prop) : Frame → Heap → Prop := fun fr h => GRD (shape (kds 63 [(0, .l), (6, .i .i64), (7, .i .i64), (8, .i .i64)]) fr) (impl_ReadSoundFile.J6 Post (gLb (lget fr 0)) (gLl (lget fr 0)) (gLc (lget fr 0)) (gI (lget fr 6)) (gI (lget fr 7)) (gI (lget fr 8)) h)
def impl_ReadSoundFile.S (data_0b : Option Addr) (data_0l data_0c : Nat) (Post : Value → Heap → Prop) (h : Heap) : Prop :=
    CALL prg f_impl_isLongFile #[.slice data_0b data_0l data_0c] (fun q1 h2 =>
    asB q1 fun b3 =>
    BIF b3 (
    Post (.tuple ⟨[.int .i64 (0 : Int), .int .i64 (0 : Int), .slice none 0 0, .int .i64 (3 : Int)]⟩) h2) (
    CALL prg f_impl_soundHead #[.slice data_0b data_0l data_0c] (fun q4 h5 =>
    TUP4 q4 fun q6 q7 q8 q9 =>
    asI .i64 q6 fun n10 =>
    asI .i64 q7 fun n11 =>
    asI .i64 q8 fun n12 =>
    asB q9 fun b13 =>
    BIF (!b13) (
    Post (.tuple ⟨[.int .i64 (0 : Int), .int .i64 (0 : Int), .slice none 0 0, .int .i64 (5 : Int)]⟩) h5) (
    CALL prg f_impl_sampleSize #[.int .i64 n10] (fun q16 h17 =>
    asI .i64 q16 fun n18 =>
    BIF (((data_0l : Int) != (IntKind.i64.wrap ((16 : Int) + (IntKind.i64.wrap (n12 * n18)))))) (
    Post (.tuple ⟨[.int .i64 (0 : Int), .int .i64 (0 : Int), .slice none 0 0, .int .i64 (5 : Int)]⟩) h17) (
    impl_ReadSoundFile.J6 Post data_0b data_0l data_0c n10 n11 n12 h17)) h5)) h2)) h
noncomputable def impl_ReadSoundFile.code : Code := (Try.f10.body).getD .skip
theorem impl_ReadSoundFile.call {data_0b : Option Addr} {data_0l data_0c : Nat} {Post : Value → Heap → Prop} {h : Heap} (H : impl_ReadSoundFile.S data_0b data_0l data_0c Post h) : CALL prg f_impl_ReadSoundFile #[.slice data_0b data_0l data_0c] Post h :=
  fn_call tau_ok mixed (c := impl_ReadSoundFile.code) (Λ := lookL [(6, impl_ReadSoundFile.j6 Post)]) Try.func10 (by kernel_rfl) (by kernel_rfl)
    (Rq.seq (by kernel_rfl) (Rq.free (by kernel_rfl)) (Rq.seq (by kernel_rfl) (Rq.free (by kernel_rfl)) (Rq.seq (by kernel_rfl) (Rq.free (by kernel_rfl)) (Rq.seqJ (impl_ReadSoundFile.j6 Post) (by kernel_rfl) (seg (fun _ _ => by kernel_rfl)) (Rq.free (by kernel_rfl))
(Rq.free (by kernel_rfl))))))
    (Eq.mp (by kernel_rfl) H)

def spec_l01NaN.S (a_0 : Nat) (Post : Value → Heap → Prop) (h : Heap) : Prop :=
    Post (.bool (FloatKind.f32.format.order a_0 a_0 != some .eq)) h
noncomputable def spec_l01NaN.code : Code := (Try.f153.body).getD .skip
theorem spec_l01NaN.call {a_0 : Nat} {Post : Value → Heap → Prop} {h : Heap} (H : spec_l01NaN.S a_0 Post h) : CALL prg f_spec_l01NaN #[.float .f32 a_0] Post h :=
  fn_call tau_ok mixed (c := spec_l01NaN.code) (Λ := lookL []) Try.func153 (by kernel_rfl) (by kernel_rfl)
    (Rq.free (by kernel_rfl))
    (Eq.mp (by kernel_rfl) H)

def spec_l01Same.J2 (Post : Value → Heap → Prop) (a_0 : Nat) (b_1 : Nat) (t10 : Bool) (h : Heap) : Prop :=
    BIF t10 (
    CALL prg f_spec_l01NaN #[.float .f32 a_0] (fun q7 h8 =>
    asB q7 fun b9 =>
    BIF b9 (
    CALL prg f_spec_l01NaN #[.float .f32 b_1] (fun q10 h11 =>
    asB q10 fun b12 =>
    Post (.bool b12) h11) h8) (
    Post (.bool false) h8)) h) (
    CALL prg f_math_Float32bits #[.float .f32 a_0] (fun q13 h14 =>
    asI .u32 q13 fun n15 =>
    CALL prg f_math_Float32bits #[.float .f32 b_1] (fun q16 h17 =>
    asI .u32 q16 fun n18 =>
    Post (.bool (n15 == n18)) h17) h14) h)
def spec_l01Same.j2 (Post : Value → Heap → Prop) : Frame → Heap → Prop := fun fr h => GRD (shape (kds 22 [(0, .f .f32), (1, .f .f32), (10, .b)]) fr) (spec_l01Same.J2 Post (gF (lget fr 0)) (gF (lget fr 1)) (gB (lget fr 10)) h)
def spec_l01Same.S (a_0 : Nat) (b_1 : Nat) (Post : Value → Heap → Prop) (h : Heap) : Prop :=
    CALL prg f_spec_l01NaN #[.float .f32 a_0] (fun q1 h2 =>
    asB q1 fun b3 =>
    BIF b3 (
    spec_l01Same.J2 Post a_0 b_1 true h2) (
    CALL prg f_spec_l01NaN #[.float .f32 b_1] (fun q4 h5 =>
    asB q4 fun b6 =>
    spec_l01Same.J2 Post a_0 b_1 b6 h5) h2)) h
noncomputable def spec_l01Same.code : Code := (Try.f88.body).getD .skip
theorem spec_l01Same.call {a_0 : Nat} {b_1 : Nat} {Post : Value → Heap → Prop} {h : Heap} (H : spec_l01Same.S a_0 b_1 Post h) : CALL prg f_spec_l01Same #[.float .f32 a_0, .float .f32 b_1] Post h :=
  fn_call tau_ok mixed (c := spec_l01Same.code) (Λ := lookL [(2, spec_l01Same.j2 Post)]) Try.func88 (by kernel_rfl) (by kernel_rfl)
    (Rq.seq (by kernel_rfl) (Rq.free (by kernel_rfl)) (Rq.seq (by kernel_rfl) (Rq.seqJ (spec_l01Same.j2 Post) (by kernel_rfl) (seg (fun _ _ => by kernel_rfl)) (Rq.free (by kernel_rfl))
(Rq.free (by kernel_rfl))) (Rq.free (by kernel_rfl))))
    (Eq.mp (by kernel_rfl) H)

def spec_l02SameList.B4 (Post : Value → Heap → Prop) (N4 : (Option Addr × Nat × Nat × Option Addr × Nat × Nat × Int) → Heap → Prop) : Option Addr × Nat × Nat × Option Addr × Nat × Nat × Int → Heap → Prop
  | (a_0b, a_0l, a_0c, b_1b, b_1l, b_1c, i_5), h =>
    BIF ((decide (i_5 < (a_0l : Int)))) (
    IDXS a_0b i_5 a_0l fun p7 =>
    oF .f32 (cell h ((Addr.add p7 ((Int.toNat i_5) * 1)))) fun r8 =>
    IDXS b_1b i_5 b_1l fun p9 =>
    oF .f32 (cell h ((Addr.add p9 ((Int.toNat i_5) * 1)))) fun r10 =>
    CALL prg f_spec_l01Same #[.float .f32 r8, .float .f32 r10] (fun q11 h12 =>
    asB q11 fun b13 =>
    BIF (!b13) (
    Post (.bool false) h12) (
    N4 (a_0b, a_0l, a_0c, b_1b, b_1l, b_1c, ((IntKind.i64.wrap (i_5 + (1 : Int))))) h12)) h) (
    Post (.bool true) h)
def spec_l02SameList.g4 (fr : Frame) : Option Addr × Nat × Nat × Option Addr × Nat × Nat × Int := ((gLb (lget fr 0)), (gLl (lget fr 0)), (gLc (lget fr 0)), (gLb (lget fr 1)), (gLl (lget fr 1)), (gLc (lget fr 1)), (gI (lget fr 5)))
def spec_l02SameList.l4 (Post : Value → Heap → Prop) : Frame → Heap → Prop := fun fr h => GRD (shape (kds 27 [(0, .l), (1, .l), (5, .i .i64)]) fr) (LOOP (spec_l02SameList.B4 Post) (spec_l02SameList.g4 fr) h)
def spec_l02SameList.S (a_0b : Option Addr) (a_0l a_0c : Nat) (b_1b : Option Addr) (b_1l b_1c : Nat) (Post : Value → Heap → Prop) (h : Heap) : Prop :=
    BIF ((a_0l : Int) != (b_1l : Int)) (
    Post (.bool false) h) (
    LOOP (spec_l02SameList.B4 Post) (a_0b, a_0l, a_0c, b_1b, b_1l, b_1c, (0 : Int)) h)
noncomputable def spec_l02SameList.code : Code := (Try.f41.body).getD .skip
theorem spec_l02SameList.call {a_0b : Option Addr} {a_0l a_0c : Nat} {b_1b : Option Addr} {b_1l b_1c : Nat} {Post : Value → Heap → Prop} {h : Heap} (H : spec_l02SameList.S a_0b a_0l a_0c b_1b b_1l b_1c Post h) : CALL prg f_spec_l02SameList #[.slice a_0b a_0l a_0c, .slice b_1b b_1l b_1c] Post h :=
  fn_call tau_ok mixed (c := spec_l02SameList.code) (Λ := lookL [(1000004, spec_l02SameList.l4 Post)]) Try.func41 (by kernel_rfl) (by kernel_rfl)
    (Rq.seq (by kernel_rfl) (Rq.free (by kernel_rfl)) (Rq.seq (by kernel_rfl) (Rq.free (by kernel_rfl)) (Rq.seq (by kernel_rfl) (Rq.seq (by kernel_rfl) (Rq.free (by kernel_rfl)) (Rq.block (Rq.loop (spec_l02SameList.l4 Post) (by kernel_rfl) (segL (g := spec_l02SameList.g4) tau_ok mixed (Λ := fun N4 => lookL []) (fun _ _ _ => by kernel_rfl) (fun N4 => (Rq.free (by kernel_rfl))))))) (Rq.free (by kernel_rfl)))))
    (Eq.mp (by kernel_rfl) H)

def spec_SameReals.S (a_0b : Option Addr) (a_0l a_0c : Nat) (b_1b : Option Addr) (b_1l b_1c : Nat) (Post : Value → Heap → Prop) (h : Heap) : Prop :=
    CALL prg f_spec_l02SameList #[.slice a_0b a_0l a_0c, .slice b_1b b_1l b_1c] (fun q1 h2 =>
    asB q1 fun b3 =>
    Post (.bool b3) h2) h
noncomputable def spec_SameReals.code : Code := (Try.f11.body).getD .skip
theorem spec_SameReals.call {a_0b : Option Addr} {a_0l a_0c : Nat} {b_1b : Option Addr} {b_1l b_1c : Nat} {Post : Value → Heap → Prop} {h : Heap} (H : spec_SameReals.S a_0b a_0l a_0c b_1b b_1l b_1c Post h) : CALL prg f_spec_SameReals #[.slice a_0b a_0l a_0c, .slice b_1b b_1l b_1c] Post h :=
  fn_call tau_ok mixed (c := spec_SameReals.code) (Λ := lookL []) Try.func11 (by kernel_rfl) (by kernel_rfl)
    (Rq.free (by kernel_rfl))
    (Eq.mp (by kernel_rfl) H)

def impl_TornSamples.S (data_0b : Option Addr) (data_0l data_0c : Nat) (Post : Value → Heap → Prop) (h : Heap) : Prop :=
    CALL prg f_impl_isLongFile #[.slice data_0b data_0l data_0c] (fun q1 h2 =>
    asB q1 fun b3 =>
    BIF b3 (
    Post (.tuple ⟨[.slice none 0 0, .int .i64 (3 : Int)]⟩) h2) (
    CALL prg f_impl_soundHead #[.slice data_0b data_0l data_0c] (fun q4 h5 =>
    TUP4 q4 fun q6 q7 q8 q9 =>
    asI .i64 q6 fun n10 =>
    asI .i64 q7 fun n11 =>
    asI .i64 q8 fun n12 =>
    asB q9 fun b13 =>
    BIF (!b13) (
    Post (.tuple ⟨[.slice none 0 0, .int .i64 (5 : Int)]⟩) h5) (
    SLB (12 : Int) (data_0l : Int) (data_0c : Int) <|
    CALL prg f_impl_soundSamples #[.int .i64 n10, .slice (slA data_0b data_0c 12 1) (data_0l - 12) (data_0c - 12), .int .i64 n12] (fun q14 h15 =>
    asL q14 fun l16b l16l l16c =>
    Post (.tuple ⟨[.slice l16b l16l l16c, .int .i64 (0 : Int)]⟩) h15) h5)) h2)) h
noncomputable def impl_TornSamples.code : Code := (Try.f14.body).getD .skip
theorem impl_TornSamples.call {data_0b : Option Addr} {data_0l data_0c : Nat} {Post : Value → Heap → Prop} {h : Heap} (H : impl_TornSamples.S data_0b data_0l data_0c Post h) : CALL prg f_impl_TornSamples #[.slice data_0b data_0l data_0c] Post h :=
  fn_call tau_ok mixed (c := impl_TornSamples.code) (Λ := lookL []) Try.func14 (by kernel_rfl) (by kernel_rfl)
    (Rq.free (by kernel_rfl))
    (Eq.mp (by kernel_rfl) H)

def spec_l10Long.S (data_0b : Option Addr) (data_0l data_0c : Nat) (Post : Value → Heap → Prop) (h : Heap) : Prop :=
    Post (.bool ((decide ((16400 : Int) < (data_0l : Int))))) h
noncomputable def spec_l10Long.code : Code := (Try.f43.body).getD .skip
theorem spec_l10Long.call {data_0b : Option Addr} {data_0l data_0c : Nat} {Post : Value → Heap → Prop} {h : Heap} (H : spec_l10Long.S data_0b data_0l data_0c Post h) : CALL prg f_spec_l10Long #[.slice data_0b data_0l data_0c] Post h :=
  fn_call tau_ok mixed (c := spec_l10Long.code) (Λ := lookL []) Try.func43 (by kernel_rfl) (by kernel_rfl)
    (Rq.free (by kernel_rfl))
    (Eq.mp (by kernel_rfl) H)

def spec_l10Number.S (data_0b : Option Addr) (data_0l data_0c : Nat) (Post : Value → Heap → Prop) (h : Heap) : Prop :=
    IDXS data_0b (0 : Int) data_0l fun p1 =>
    oI .u8 (cell h p1) fun n2 =>
    IDXS data_0b (1 : Int) data_0l fun p3 =>
    oI .u8 (cell h (Addr.add p3 1)) fun n4 =>
    NN (8 : Int) <|
    IDXS data_0b (2 : Int) data_0l fun p5 =>
    oI .u8 (cell h (Addr.add p5 2)) fun n6 =>
    NN (16 : Int) <|
    IDXS data_0b (3 : Int) data_0l fun p7 =>
    oI .u8 (cell h (Addr.add p7 3)) fun n8 =>
    NN (24 : Int) <|
    Post (.int .u32 ((bitI .or .u32 ((bitI .or .u32 ((bitI .or .u32 (IntKind.u32.wrap n2) (shlI .u32 (IntKind.u32.wrap n4) (8 : Int)))) (shlI .u32 (IntKind.u32.wrap n6) (16 : Int)))) (shlI .u32 (IntKind.u32.wrap n8) (24 : Int))))) h
noncomputable def spec_l10Number.code : Code := (Try.f89.body).getD .skip
theorem spec_l10Number.call {data_0b : Option Addr} {data_0l data_0c : Nat} {Post : Value → Heap → Prop} {h : Heap} (H : spec_l10Number.S data_0b data_0l data_0c Post h) : CALL prg f_spec_l10Number #[.slice data_0b data_0l data_0c] Post h :=
  fn_call tau_ok mixed (c := spec_l10Number.code) (Λ := lookL []) Try.func89 (by kernel_rfl) (by kernel_rfl)
    (Rq.free (by kernel_rfl))
    (Eq.mp (by kernel_rfl) H)

def spec_l10Width.S (kind_0 : Int) (Post : Value → Heap → Prop) (h : Heap) : Prop :=
    BIF (kind_0 == (1 : Int)) (
    Post (.int .i64 (2 : Int)) h) (
    BIF (kind_0 == (2 : Int)) (
    Post (.int .i64 (4 : Int)) h) (
    Post (.int .i64 (0 : Int)) h))
noncomputable def spec_l10Width.code : Code := (Try.f45.body).getD .skip
theorem spec_l10Width.call {kind_0 : Int} {Post : Value → Heap → Prop} {h : Heap} (H : spec_l10Width.S kind_0 Post h) : CALL prg f_spec_l10Width #[.int .i64 kind_0] Post h :=
  fn_call tau_ok mixed (c := spec_l10Width.code) (Λ := lookL []) Try.func45 (by kernel_rfl) (by kernel_rfl)
    (Rq.free (by kernel_rfl))
    (Eq.mp (by kernel_rfl) H)

def spec_l00In.S (n_0 : Int) (low_1 : Int) (high_2 : Int) (Post : Value → Heap → Prop) (h : Heap) : Prop :=
    BIF (decide (low_1 ≤ n_0)) (
    Post (.bool (decide (n_0 ≤ high_2))) h) (
    Post (.bool false) h)
noncomputable def spec_l00In.code : Code := (Try.f154.body).getD .skip
theorem spec_l00In.call {n_0 : Int} {low_1 : Int} {high_2 : Int} {Post : Value → Heap → Prop} {h : Heap} (H : spec_l00In.S n_0 low_1 high_2 Post h) : CALL prg f_spec_l00In #[.int .i64 n_0, .int .i64 low_1, .int .i64 high_2] Post h :=
  fn_call tau_ok mixed (c := spec_l00In.code) (Λ := lookL []) Try.func154 (by kernel_rfl) (by kernel_rfl)
    (Rq.free (by kernel_rfl))
    (Eq.mp (by kernel_rfl) H)

def spec_l10Rate.S (rate_0 : Int) (Post : Value → Heap → Prop) (h : Heap) : Prop :=
    CALL prg f_spec_l00In #[.int .i64 rate_0, .int .i64 (1 : Int), .int .i64 (1000000 : Int)] (fun q1 h2 =>
    asB q1 fun b3 =>
    Post (.bool b3) h2) h
noncomputable def spec_l10Rate.code : Code := (Try.f90.body).getD .skip
theorem spec_l10Rate.call {rate_0 : Int} {Post : Value → Heap → Prop} {h : Heap} (H : spec_l10Rate.S rate_0 Post h) : CALL prg f_spec_l10Rate #[.int .i64 rate_0] Post h :=
  fn_call tau_ok mixed (c := spec_l10Rate.code) (Λ := lookL []) Try.func90 (by kernel_rfl) (by kernel_rfl)
    (Rq.free (by kernel_rfl))
    (Eq.mp (by kernel_rfl) H)

def spec_l10Head.J3 (Post : Value → Heap → Prop) (data_0b : Option Addr) (data_0l : Nat) (data_0c : Nat) (h : Heap) : Prop :=
    IDXS data_0b (3 : Int) data_0l fun p6 =>
    oI .u8 (cell h (Addr.add p6 3)) fun n7 =>
    SLB (4 : Int) (data_0l : Int) (data_0c : Int) <|
    CALL prg f_spec_l10Number #[.slice (slA data_0b data_0c 4 1) (data_0l - 4) (data_0c - 4)] (fun q8 h9 =>
    asI .u32 q8 fun n10 =>
    SLB (8 : Int) (data_0l : Int) (data_0c : Int) <|
    CALL prg f_spec_l10Number #[.slice (slA data_0b data_0c 8 1) (data_0l - 8) (data_0c - 8)] (fun q11 h12 =>
    asI .u32 q11 fun n13 =>
    CALL prg f_spec_l10Width #[.int .i64 (IntKind.i64.wrap n7)] (fun q14 h15 =>
    asI .i64 q14 fun n16 =>
    BIF (n16 == (0 : Int)) (
    Post (.tuple ⟨[.int .i64 (0 : Int), .int .i64 (0 : Int), .int .i64 (0 : Int), .bool false]⟩) h15) (
    CALL prg f_spec_l10Rate #[.int .i64 (IntKind.i64.wrap n10)] (fun q17 h18 =>
    asB q17 fun b19 =>
    BIF (!b19) (
    Post (.tuple ⟨[.int .i64 (0 : Int), .int .i64 (0 : Int), .int .i64 (0 : Int), .bool false]⟩) h18) (
    BIF ((decide ((4096 : Int) < (IntKind.i64.wrap n13)))) (
    Post (.tuple ⟨[.int .i64 (0 : Int), .int .i64 (0 : Int), .int .i64 (0 : Int), .bool false]⟩) h18) (
    Post (.tuple ⟨[.int .i64 (IntKind.i64.wrap n7), .int .i64 (IntKind.i64.wrap n10), .int .i64 (IntKind.i64.wrap n13), .bool true]⟩) h18))) h15)) h12) h9) h
def spec_l10Head.j3 (Post : Value → Heap → Prop) : Frame → Heap → Prop := fun fr h => GRD (shape (kds 45 [(0, .l)]) fr) (spec_l10Head.J3 Post (gLb (lget fr 0)) (gLl (lget fr 0)) (gLc (lget fr 0)) h)
def spec_l10Head.S (data_0b : Option Addr) (data_0l data_0c : Nat) (Post : Value → Heap → Prop) (h : Heap) : Prop :=
    BIF ((decide ((data_0l : Int) < (12 : Int)))) (
    Post (.tuple ⟨[.int .i64 (0 : Int), .int .i64 (0 : Int), .int .i64 (0 : Int), .bool false]⟩) h) (
    SLB (0 : Int) (3 : Int) (data_0c : Int) <|
    SEMV prg (convert T_sl_uint8 T_string (.slice (slA data_0b data_0c 0 1) (3 - 0) (data_0c - 0))) (fun q3 h4 =>
    asS q3 fun s5 =>
    BIF ((!(ByteArray.toList s5 == ByteArray.toList (⟨#[83, 80, 70]⟩ : ByteArray)))) (
    Post (.tuple ⟨[.int .i64 (0 : Int), .int .i64 (0 : Int), .int .i64 (0 : Int), .bool false]⟩) h4) (
    spec_l10Head.J3 Post data_0b data_0l data_0c h4)) h)
noncomputable def spec_l10Head.code : Code := (Try.f44.body).getD .skip
theorem spec_l10Head.call {data_0b : Option Addr} {data_0l data_0c : Nat} {Post : Value → Heap → Prop} {h : Heap} (H : spec_l10Head.S data_0b data_0l data_0c Post h) : CALL prg f_spec_l10Head #[.slice data_0b data_0l data_0c] Post h :=
  fn_call tau_ok mixed (c := spec_l10Head.code) (Λ := lookL [(3, spec_l10Head.j3 Post)]) Try.func44 (by kernel_rfl) (by kernel_rfl)
    (Rq.seq (by kernel_rfl) (Rq.free (by kernel_rfl)) (Rq.seqJ (spec_l10Head.j3 Post) (by kernel_rfl) (seg (fun _ _ => by kernel_rfl)) (Rq.free (by kernel_rfl))
(Rq.free (by kernel_rfl))))
    (Eq.mp (by kernel_rfl) H)

def spec_l10Samples.J6 (N4 : (Option Addr × Nat × Nat × Int × Int × Option Addr × Nat × Nat × Int × Int) → Heap → Prop) (Post : Value → Heap → Prop) (data_0b : Option Addr) (data_0l : Nat) (data_0c : Nat) (kind_1 : Int) (most_2 : Int) (out_7b : Option Addr) (out_7l : Nat) (out_7c : Nat) (w_8 : Int) (at_9 : Int) (h : Heap) : Prop :=
    BIF (kind_1 == (1 : Int)) (
    IDXS data_0b at_9 data_0l fun p10 =>
    oI .u8 (cell h ((Addr.add p10 ((Int.toNat at_9) * 1)))) fun n11 =>
    IDXS data_0b ((IntKind.i64.wrap (at_9 + (1 : Int)))) data_0l fun p12 =>
    oI .u8 (cell h ((Addr.add p12 ((Int.toNat ((IntKind.i64.wrap (at_9 + (1 : Int))))) * 1)))) fun n13 =>
    NN (8 : Int) <|
    FOP .f32 (FloatKind.f32.format.div ((FloatKind.f32.nearest ((IntKind.i16.wrap ((bitI .or .u16 (IntKind.u16.wrap n11) (shlI .u16 (IntKind.u16.wrap n13) (8 : Int)))))))) 1191182336) fun r14 =>
    ALC ⟨[.float .f32 r14]⟩ T_float32 (fun g15 h16 =>
    SEMV prg (Builtin.append_ #[T_sl_float32, T_sl_float32] T_sl_float32 #[.slice out_7b out_7l out_7c, .slice (some ⟨g15, 0, none⟩) 1 1]) (fun q17 h18 =>
    asL q17 fun l19b l19l l19c =>
    N4 (data_0b, data_0l, data_0c, kind_1, most_2, l19b, l19l, l19c, w_8, (IntKind.i64.wrap (at_9 + w_8))) h18) h16) h) (
    SLB at_9 (data_0l : Int) (data_0c : Int) <|
    CALL prg f_spec_l10Number #[.slice (slA data_0b data_0c (Int.toNat at_9) 1) (data_0l - (Int.toNat at_9)) (data_0c - (Int.toNat at_9))] (fun q20 h21 =>
    asI .u32 q20 fun n22 =>
    CALL prg f_math_Float32frombits #[.int .u32 n22] (fun q23 h24 =>
    asF .f32 q23 fun r25 =>
    ALC ⟨[.float .f32 r25]⟩ T_float32 (fun g26 h27 =>
    SEMV prg (Builtin.append_ #[T_sl_float32, T_sl_float32] T_sl_float32 #[.slice out_7b out_7l out_7c, .slice (some ⟨g26, 0, none⟩) 1 1]) (fun q28 h29 =>
    asL q28 fun l30b l30l l30c =>
    N4 (data_0b, data_0l, data_0c, kind_1, most_2, l30b, l30l, l30c, w_8, (IntKind.i64.wrap (at_9 + w_8))) h29) h27) h24) h21) h)
def spec_l10Samples.j6 (N4 : (Option Addr × Nat × Nat × Int × Int × Option Addr × Nat × Nat × Int × Int) → Heap → Prop) (Post : Value → Heap → Prop) : Frame → Heap → Prop := fun fr h => GRD (shape (kds 60 [(0, .l), (1, .i .i64), (2, .i .i64), (7, .l), (8, .i .i64), (9, .i .i64)]) fr) (spec_l10Samples.J6 N4 Post (gLb (lget fr 0)) (gLl (lget fr 0)) (gLc (lget fr 0)) (gI (lget fr 1)) (gI (lget fr 2)) (gLb (lget fr 7)) (gLl (lget fr 7)) (gLc (lget fr 7)) (gI (lget fr 8)) (gI (lget fr 9)) h)
def spec_l10Samples.B4 (Post : Value → Heap → Prop) (N4 : (Option Addr × Nat × Nat × Int × Int × Option Addr × Nat × Nat × Int × Int) → Heap → Prop) : Option Addr × Nat × Nat × Int × Int × Option Addr × Nat × Nat × Int × Int → Heap → Prop
  | (data_0b, data_0l, data_0c, kind_1, most_2, out_7b, out_7l, out_7c, w_8, at_9), h =>
    BIF ((decide ((IntKind.i64.wrap (at_9 + w_8)) ≤ (data_0l : Int)))) (
    BIF ((decide ((out_7l : Int) < most_2))) (
    spec_l10Samples.J6 N4 Post data_0b data_0l data_0c kind_1 most_2 out_7b out_7l out_7c w_8 at_9 h) (
    Post (.slice out_7b out_7l out_7c) h)) (
    Post (.slice out_7b out_7l out_7c) h)
def spec_l10Samples.g4 (fr : Frame) : Option Addr × Nat × Nat × Int × Int × Option Addr × Nat × Nat × Int × Int := ((gLb (lget fr 0)), (gLl (lget fr 0)), (gLc (lget fr 0)), (gI (lget fr 1)), (gI (lget fr 2)), (gLb (lget fr 7)), (gLl (lget fr 7)), (gLc (lget fr 7)), (gI (lget fr 8)), (gI (lget fr 9)))
def spec_l10Samples.l4 (Post : Value → Heap → Prop) : Frame → Heap → Prop := fun fr h => GRD (shape (kds 60 [(0, .l), (1, .i .i64), (2, .i .i64), (7, .l), (8, .i .i64), (9, .i .i64)]) fr) (LOOP (spec_l10Samples.B4 Post) (spec_l10Samples.g4 fr) h)
def spec_l10Samples.S (data_0b : Option Addr) (data_0l data_0c : Nat) (kind_1 : Int) (most_2 : Int) (Post : Value → Heap → Prop) (h : Heap) : Prop :=
    ALC ⟨[]⟩ T_float32 (fun g1 h2 =>
    CALL prg f_spec_l10Width #[.int .i64 kind_1] (fun q3 h4 =>
    asI .i64 q3 fun n5 =>
    LOOP (spec_l10Samples.B4 Post) (data_0b, data_0l, data_0c, kind_1, most_2, (some ⟨g1, 0, none⟩), 0, 0, n5, (12 : Int)) h4) h2) h
noncomputable def spec_l10Samples.code : Code := (Try.f46.body).getD .skip
theorem spec_l10Samples.call {data_0b : Option Addr} {data_0l data_0c : Nat} {kind_1 : Int} {most_2 : Int} {Post : Value → Heap → Prop} {h : Heap} (H : spec_l10Samples.S data_0b data_0l data_0c kind_1 most_2 Post h) : CALL prg f_spec_l10Samples #[.slice data_0b data_0l data_0c, .int .i64 kind_1, .int .i64 most_2] Post h :=
  fn_call tau_ok mixed (c := spec_l10Samples.code) (Λ := lookL [(1000004, spec_l10Samples.l4 Post)]) Try.func46 (by kernel_rfl) (by kernel_rfl)
    (Rq.seq (by kernel_rfl) (Rq.free (by kernel_rfl)) (Rq.seq (by kernel_rfl) (Rq.free (by kernel_rfl)) (Rq.seq (by kernel_rfl) (Rq.free (by kernel_rfl)) (Rq.seq (by kernel_rfl) (Rq.seq (by kernel_rfl) (Rq.free (by kernel_rfl)) (Rq.block (Rq.loop (spec_l10Samples.l4 Post) (by kernel_rfl) (segL (g := spec_l10Samples.g4) tau_ok mixed (Λ := fun N4 => lookL [(6, spec_l10Samples.j6 N4 Post)]) (fun _ _ _ => by kernel_rfl) (fun N4 => (Rq.seqJ (spec_l10Samples.j6 N4 Post) (by kernel_rfl) (seg (fun _ _ => by kernel_rfl)) (Rq.free (by kernel_rfl))
(Rq.free (by kernel_rfl)))))))) (Rq.free (by kernel_rfl))))))
    (Eq.mp (by kernel_rfl) H)

def spec_l10Four.S (out_0b : Option Addr) (out_0l out_0c : Nat) (x_1 : Int) (Post : Value → Heap → Prop) (h : Heap) : Prop :=
    NN (8 : Int) <|
    NN (16 : Int) <|
    NN (24 : Int) <|
    ALC ⟨[.int .u8 (IntKind.u8.wrap x_1), .int .u8 ((IntKind.u8.wrap (shrI .u32 x_1 (8 : Int)))), .int .u8 ((IntKind.u8.wrap (shrI .u32 x_1 (16 : Int)))), .int .u8 ((IntKind.u8.wrap (shrI .u32 x_1 (24 : Int))))]⟩ T_uint8 (fun g1 h2 =>
    SEMV prg (Builtin.append_ #[T_sl_uint8, T_sl_uint8] T_sl_uint8 #[.slice out_0b out_0l out_0c, .slice (some ⟨g1, 0, none⟩) 4 4]) (fun q3 h4 =>
    asL q3 fun l5b l5l l5c =>
    Post (.slice l5b l5l l5c) h4) h2) h
noncomputable def spec_l10Four.code : Code := (Try.f91.body).getD .skip
theorem spec_l10Four.call {out_0b : Option Addr} {out_0l out_0c : Nat} {x_1 : Int} {Post : Value → Heap → Prop} {h : Heap} (H : spec_l10Four.S out_0b out_0l out_0c x_1 Post h) : CALL prg f_spec_l10Four #[.slice out_0b out_0l out_0c, .int .u32 x_1] Post h :=
  fn_call tau_ok mixed (c := spec_l10Four.code) (Λ := lookL []) Try.func91 (by kernel_rfl) (by kernel_rfl)
    (Rq.free (by kernel_rfl))
    (Eq.mp (by kernel_rfl) H)

def spec_l01Short.S (a_0 : Nat) (Post : Value → Heap → Prop) (h : Heap) : Prop :=
    FOP .f32 (FloatKind.f32.format.mul a_0 1191182336) fun r1 =>
    FFC .f32 r1 .f64 fun r2 =>
    CALL prg f_math_RoundToEven #[.float .f64 r2] (fun q3 h4 =>
    asF .f64 q3 fun r5 =>
    BIF (FloatKind.f64.format.order r5 r5 != some .eq) (
    Post (.int .i16 (0 : Int)) h4) (
    BIF (FloatKind.f64.format.order r5 4674736138332667904 == some .gt) (
    Post (.int .i16 (32767 : Int)) h4) (
    BIF (FloatKind.f64.format.order r5 13898108450065350656 == some .lt) (
    Post (.int .i16 (-32768 : Int)) h4) (
    FIC .f64 r5 .i16 fun n6 =>
    Post (.int .i16 n6) h4)))) h
noncomputable def spec_l01Short.code : Code := (Try.f92.body).getD .skip
theorem spec_l01Short.call {a_0 : Nat} {Post : Value → Heap → Prop} {h : Heap} (H : spec_l01Short.S a_0 Post h) : CALL prg f_spec_l01Short #[.float .f32 a_0] Post h :=
  fn_call tau_ok mixed (c := spec_l01Short.code) (Λ := lookL []) Try.func92 (by kernel_rfl) (by kernel_rfl)
    (Rq.free (by kernel_rfl))
    (Eq.mp (by kernel_rfl) H)

def spec_l01Bits.S (a_0 : Nat) (Post : Value → Heap → Prop) (h : Heap) : Prop :=
    CALL prg f_spec_l01NaN #[.float .f32 a_0] (fun q1 h2 =>
    asB q1 fun b3 =>
    BIF b3 (
    Post (.int .u32 (2143289344 : Int)) h2) (
    CALL prg f_math_Float32bits #[.float .f32 a_0] (fun q4 h5 =>
    asI .u32 q4 fun n6 =>
    Post (.int .u32 n6) h5) h2)) h
noncomputable def spec_l01Bits.code : Code := (Try.f93.body).getD .skip
theorem spec_l01Bits.call {a_0 : Nat} {Post : Value → Heap → Prop} {h : Heap} (H : spec_l01Bits.S a_0 Post h) : CALL prg f_spec_l01Bits #[.float .f32 a_0] Post h :=
  fn_call tau_ok mixed (c := spec_l01Bits.code) (Λ := lookL []) Try.func93 (by kernel_rfl) (by kernel_rfl)
    (Rq.free (by kernel_rfl))
    (Eq.mp (by kernel_rfl) H)

def spec_l10Mix.S (h_0 : Int) (x_1 : Int) (Post : Value → Heap → Prop) (h : Heap) : Prop :=
    Post (.int .u32 ((IntKind.u32.wrap ((bitI .xor .u32 h_0 x_1) * (16777619 : Int))))) h
noncomputable def spec_l10Mix.code : Code := (Try.f155.body).getD .skip
theorem spec_l10Mix.call {h_0 : Int} {x_1 : Int} {Post : Value → Heap → Prop} {h : Heap} (H : spec_l10Mix.S h_0 x_1 Post h) : CALL prg f_spec_l10Mix #[.int .u32 h_0, .int .u32 x_1] Post h :=
  fn_call tau_ok mixed (c := spec_l10Mix.code) (Λ := lookL []) Try.func155 (by kernel_rfl) (by kernel_rfl)
    (Rq.free (by kernel_rfl))
    (Eq.mp (by kernel_rfl) H)

def spec_l10Sum.B3 (Post : Value → Heap → Prop) (N3 : (Option Addr × Nat × Nat × Int × Int) → Heap → Prop) : Option Addr × Nat × Nat × Int × Int → Heap → Prop
  | (data_0b, data_0l, data_0c, h_3, i_4), h =>
    BIF ((decide (i_4 < (data_0l : Int)))) (
    IDXS data_0b i_4 data_0l fun p3 =>
    oI .u8 (cell h ((Addr.add p3 ((Int.toNat i_4) * 1)))) fun n4 =>
    CALL prg f_spec_l10Mix #[.int .u32 h_3, .int .u32 (IntKind.u32.wrap n4)] (fun q5 h6 =>
    asI .u32 q5 fun n7 =>
    N3 (data_0b, data_0l, data_0c, n7, ((IntKind.i64.wrap (i_4 + (1 : Int))))) h6) h) (
    Post (.int .u32 h_3) h)
def spec_l10Sum.g3 (fr : Frame) : Option Addr × Nat × Nat × Int × Int := ((gLb (lget fr 0)), (gLl (lget fr 0)), (gLc (lget fr 0)), (gI (lget fr 3)), (gI (lget fr 4)))
def spec_l10Sum.l3 (Post : Value → Heap → Prop) : Frame → Heap → Prop := fun fr h => GRD (shape (kds 19 [(0, .l), (3, .i .u32), (4, .i .i64)]) fr) (LOOP (spec_l10Sum.B3 Post) (spec_l10Sum.g3 fr) h)
def spec_l10Sum.S (data_0b : Option Addr) (data_0l data_0c : Nat) (Post : Value → Heap → Prop) (h : Heap) : Prop :=
    LOOP (spec_l10Sum.B3 Post) (data_0b, data_0l, data_0c, (2166136261 : Int), (0 : Int)) h
noncomputable def spec_l10Sum.code : Code := (Try.f94.body).getD .skip
theorem spec_l10Sum.call {data_0b : Option Addr} {data_0l data_0c : Nat} {Post : Value → Heap → Prop} {h : Heap} (H : spec_l10Sum.S data_0b data_0l data_0c Post h) : CALL prg f_spec_l10Sum #[.slice data_0b data_0l data_0c] Post h :=
  fn_call tau_ok mixed (c := spec_l10Sum.code) (Λ := lookL [(1000003, spec_l10Sum.l3 Post)]) Try.func94 (by kernel_rfl) (by kernel_rfl)
    (Rq.seq (by kernel_rfl) (Rq.free (by kernel_rfl)) (Rq.seq (by kernel_rfl) (Rq.free (by kernel_rfl)) (Rq.seq (by kernel_rfl) (Rq.seq (by kernel_rfl) (Rq.free (by kernel_rfl)) (Rq.block (Rq.loop (spec_l10Sum.l3 Post) (by kernel_rfl) (segL (g := spec_l10Sum.g3) tau_ok mixed (Λ := fun N3 => lookL []) (fun _ _ _ => by kernel_rfl) (fun N3 => (Rq.free (by kernel_rfl))))))) (Rq.free (by kernel_rfl)))))
    (Eq.mp (by kernel_rfl) H)

def spec_l10File.B5 (Post : Value → Heap → Prop) (N5 : (Int × Option Addr × Nat × Nat × Option Addr × Nat × Nat × Int) → Heap → Prop) : Int × Option Addr × Nat × Nat × Option Addr × Nat × Nat × Int → Heap → Prop
  | (kind_0, samples_2b, samples_2l, samples_2c, out_7b, out_7l, out_7c, i_8), h =>
    BIF ((decide (i_8 < (samples_2l : Int)))) (
    BIF (kind_0 == (1 : Int)) (
    IDXS samples_2b i_8 samples_2l fun p21 =>
    oF .f32 (cell h ((Addr.add p21 ((Int.toNat i_8) * 1)))) fun r22 =>
    CALL prg f_spec_l01Short #[.float .f32 r22] (fun q23 h24 =>
    asI .i16 q23 fun n25 =>
    NN (8 : Int) <|
    ALC ⟨[.int .u8 (IntKind.u8.wrap (IntKind.u16.wrap n25)), .int .u8 ((IntKind.u8.wrap (shrI .u16 (IntKind.u16.wrap n25) (8 : Int))))]⟩ T_uint8 (fun g26 h27 =>
    SEMV prg (Builtin.append_ #[T_sl_uint8, T_sl_uint8] T_sl_uint8 #[.slice out_7b out_7l out_7c, .slice (some ⟨g26, 0, none⟩) 2 2]) (fun q28 h29 =>
    asL q28 fun l30b l30l l30c =>
    N5 (kind_0, samples_2b, samples_2l, samples_2c, l30b, l30l, l30c, ((IntKind.i64.wrap (i_8 + (1 : Int))))) h29) h27) h24) h) (
    IDXS samples_2b i_8 samples_2l fun p31 =>
    oF .f32 (cell h ((Addr.add p31 ((Int.toNat i_8) * 1)))) fun r32 =>
    CALL prg f_spec_l01Bits #[.float .f32 r32] (fun q33 h34 =>
    asI .u32 q33 fun n35 =>
    CALL prg f_spec_l10Four #[.slice out_7b out_7l out_7c, .int .u32 n35] (fun q36 h37 =>
    asL q36 fun l38b l38l l38c =>
    N5 (kind_0, samples_2b, samples_2l, samples_2c, l38b, l38l, l38c, ((IntKind.i64.wrap (i_8 + (1 : Int))))) h37) h34) h)) (
    CALL prg f_spec_l10Sum #[.slice out_7b out_7l out_7c] (fun q39 h40 =>
    asI .u32 q39 fun n41 =>
    CALL prg f_spec_l10Four #[.slice out_7b out_7l out_7c, .int .u32 n41] (fun q42 h43 =>
    asL q42 fun l44b l44l l44c =>
    Post (.slice l44b l44l l44c) h43) h40) h)
def spec_l10File.g5 (fr : Frame) : Int × Option Addr × Nat × Nat × Option Addr × Nat × Nat × Int := ((gI (lget fr 0)), (gLb (lget fr 2)), (gLl (lget fr 2)), (gLc (lget fr 2)), (gLb (lget fr 7)), (gLl (lget fr 7)), (gLc (lget fr 7)), (gI (lget fr 8)))
def spec_l10File.l5 (Post : Value → Heap → Prop) : Frame → Heap → Prop := fun fr h => GRD (shape (kds 58 [(0, .i .i64), (2, .l), (7, .l), (8, .i .i64)]) fr) (LOOP (spec_l10File.B5 Post) (spec_l10File.g5 fr) h)
def spec_l10File.S (kind_0 : Int) (rate_1 : Int) (samples_2b : Option Addr) (samples_2l samples_2c : Nat) (Post : Value → Heap → Prop) (h : Heap) : Prop :=
    ALC ⟨[.int .u8 (83 : Int), .int .u8 (80 : Int), .int .u8 (70 : Int)]⟩ T_uint8 (fun g1 h2 =>
    SEMV prg (convert T_sl_uint8 T_sl_uint8 (.slice (some ⟨g1, 0, none⟩) 3 3)) (fun q3 h4 =>
    asL q3 fun l5b l5l l5c =>
    ALC ⟨[.int .u8 (IntKind.u8.wrap kind_0)]⟩ T_uint8 (fun g6 h7 =>
    SEMV prg (Builtin.append_ #[T_sl_uint8, T_sl_uint8] T_sl_uint8 #[.slice l5b l5l l5c, .slice (some ⟨g6, 0, none⟩) 1 1]) (fun q8 h9 =>
    asL q8 fun l10b l10l l10c =>
    CALL prg f_spec_l10Four #[.slice l10b l10l l10c, .int .u32 (IntKind.u32.wrap rate_1)] (fun q11 h12 =>
    asL q11 fun l13b l13l l13c =>
    CALL prg f_spec_l10Four #[.slice l13b l13l l13c, .int .u32 (IntKind.u32.wrap (samples_2l : Int))] (fun q16 h17 =>
    asL q16 fun l18b l18l l18c =>
    LOOP (spec_l10File.B5 Post) (kind_0, samples_2b, samples_2l, samples_2c, l18b, l18l, l18c, (0 : Int)) h17) h12) h9) h7) h4) h2) h
noncomputable def spec_l10File.code : Code := (Try.f47.body).getD .skip
theorem spec_l10File.call {kind_0 : Int} {rate_1 : Int} {samples_2b : Option Addr} {samples_2l samples_2c : Nat} {Post : Value → Heap → Prop} {h : Heap} (H : spec_l10File.S kind_0 rate_1 samples_2b samples_2l samples_2c Post h) : CALL prg f_spec_l10File #[.int .i64 kind_0, .int .i64 rate_1, .slice samples_2b samples_2l samples_2c] Post h :=
  fn_call tau_ok mixed (c := spec_l10File.code) (Λ := lookL [(1000005, spec_l10File.l5 Post)]) Try.func47 (by kernel_rfl) (by kernel_rfl)
    (Rq.seq (by kernel_rfl) (Rq.free (by kernel_rfl)) (Rq.seq (by kernel_rfl) (Rq.free (by kernel_rfl)) (Rq.seq (by kernel_rfl) (Rq.free (by kernel_rfl)) (Rq.seq (by kernel_rfl) (Rq.free (by kernel_rfl)) (Rq.seq (by kernel_rfl) (Rq.seq (by kernel_rfl) (Rq.free (by kernel_rfl)) (Rq.block (Rq.loop (spec_l10File.l5 Post) (by kernel_rfl) (segL (g := spec_l10File.g5) tau_ok mixed (Λ := fun N5 => lookL []) (fun _ _ _ => by kernel_rfl) (fun N5 => (Rq.free (by kernel_rfl))))))) (Rq.free (by kernel_rfl)))))))
    (Eq.mp (by kernel_rfl) H)

def spec_ReadSoundFile.J10 (Post : Value → Heap → Prop) (data_0b : Option Addr) (data_0l : Nat) (data_0c : Nat) (kind_6 : Int) (rate_7 : Int) (samples_10b : Option Addr) (samples_10l : Nat) (samples_10c : Nat) (own_11b : Option Addr) (own_11l : Nat) (own_11c : Nat) (h : Heap) : Prop :=
    SEMV prg (convert T_sl_uint8 T_string (.slice own_11b own_11l own_11c)) (fun q53 h54 =>
    asS q53 fun s55 =>
    SEMV prg (convert T_sl_uint8 T_string (.slice data_0b data_0l data_0c)) (fun q56 h57 =>
    asS q56 fun s58 =>
    BIF (!(ByteArray.toList s55 == ByteArray.toList s58)) (
    ALC ⟨[]⟩ T_float32 (fun g59 h60 =>
    Post (.tuple ⟨[.int .i64 (0 : Int), .int .i64 (0 : Int), .slice (some ⟨g59, 0, none⟩) 0 0, .int .i64 (8 : Int)]⟩) h60) h57) (
    Post (.tuple ⟨[.int .i64 kind_6, .int .i64 rate_7, .slice samples_10b samples_10l samples_10c, .int .i64 (0 : Int)]⟩) h57)) h54) h
def spec_ReadSoundFile.j10 (Post : Value → Heap → Prop) : Frame → Heap → Prop := fun fr h => GRD (shape (kds 70 [(0, .l), (6, .i .i64), (7, .i .i64), (10, .l), (11, .l)]) fr) (spec_ReadSoundFile.J10 Post (gLb (lget fr 0)) (gLl (lget fr 0)) (gLc (lget fr 0)) (gI (lget fr 6)) (gI (lget fr 7)) (gLb (lget fr 10)) (gLl (lget fr 10)) (gLc (lget fr 10)) (gLb (lget fr 11)) (gLl (lget fr 11)) (gLc (lget fr 11)) h)
def spec_ReadSoundFile.J6 (Post : Value → Heap → Prop) (data_0b : Option Addr) (data_0l : Nat) (data_0c : Nat) (kind_6 : Int) (rate_7 : Int) (n_8 : Int) (h : Heap) : Prop :=
    SLB (0 : Int) ((IntKind.i64.wrap ((data_0l : Int) - (4 : Int)))) (data_0c : Int) <|
    CALL prg f_spec_l10Samples #[.slice (slA data_0b data_0c 0 1) (((Int.toNat ((IntKind.i64.wrap ((data_0l : Int) - (4 : Int))))) - 0)) (data_0c - 0), .int .i64 kind_6, .int .i64 n_8] (fun q27 h28 =>
    asL q27 fun l29b l29l l29c =>
    CALL prg f_spec_l10File #[.int .i64 kind_6, .int .i64 rate_7, .slice l29b l29l l29c] (fun q30 h31 =>
    asL q30 fun l32b l32l l32c =>
    SLB (0 : Int) ((IntKind.i64.wrap ((l32l : Int) - (4 : Int)))) (l32c : Int) <|
    SLB (0 : Int) ((IntKind.i64.wrap ((data_0l : Int) - (4 : Int)))) (data_0c : Int) <|
    (SEMV prg (convert T_sl_uint8 T_string (.slice (slA l32b l32c 0 1) (((Int.toNat ((IntKind.i64.wrap ((l32l : Int) - (4 : Int))))) - 0)) (l32c - 0))) (fun q37 h38 =>
    asS q37 fun s39 =>
    SEMV prg (convert T_sl_uint8 T_string (.slice (slA data_0b data_0c 0 1) (((Int.toNat ((IntKind.i64.wrap ((data_0l : Int) - (4 : Int))))) - 0)) (data_0c - 0))) (fun q40 h41 =>
    asS q40 fun s42 =>
    BIF (!(ByteArray.toList s39 == ByteArray.toList s42)) (
    ALC ⟨[]⟩ T_float32 (fun g43 h44 =>
    Post (.tuple ⟨[.int .i64 (0 : Int), .int .i64 (0 : Int), .slice (some ⟨g43, 0, none⟩) 0 0, .int .i64 (5 : Int)]⟩) h44) h41) (
    spec_ReadSoundFile.J10 Post data_0b data_0l data_0c kind_6 rate_7 l29b l29l l29c l32b l32l l32c h41)) h38) h31) ∧ (SEMV prg (convert T_sl_uint8 T_string (.slice (slA data_0b data_0c 0 1) (((Int.toNat ((IntKind.i64.wrap ((data_0l : Int) - (4 : Int))))) - 0)) (data_0c - 0))) (fun q45 h46 =>
    asS q45 fun s47 =>
    SEMV prg (convert T_sl_uint8 T_string (.slice (slA l32b l32c 0 1) (((Int.toNat ((IntKind.i64.wrap ((l32l : Int) - (4 : Int))))) - 0)) (l32c - 0))) (fun q48 h49 =>
    asS q48 fun s50 =>
    BIF (!(ByteArray.toList s50 == ByteArray.toList s47)) (
    ALC ⟨[]⟩ T_float32 (fun g51 h52 =>
    Post (.tuple ⟨[.int .i64 (0 : Int), .int .i64 (0 : Int), .slice (some ⟨g51, 0, none⟩) 0 0, .int .i64 (5 : Int)]⟩) h52) h49) (
    spec_ReadSoundFile.J10 Post data_0b data_0l data_0c kind_6 rate_7 l29b l29l l29c l32b l32l l32c h49)) h46) h31)) h28) h
def spec_ReadSoundFile.j6 (Post : Value → Heap → Prop) : Frame → Heap → Prop := fun fr h => GRD (shape (kds 70 [(0, .l), (6, .i .i64), (7, .i .i64), (8, .i .i64)]) fr) (spec_ReadSoundFile.J6 Post (gLb (lget fr 0)) (gLl (lget fr 0)) (gLc (lget fr 0)) (gI (lget fr 6)) (gI (lget fr 7)) (gI (lget fr 8)) h)
def spec_ReadSoundFile.S (data_0b : Option Addr) (data_0l data_0c : Nat) (Post : Value → Heap → Prop) (h : Heap) : Prop :=
    CALL prg f_spec_l10Long #[.slice data_0b data_0l data_0c] (fun q1 h2 =>
    asB q1 fun b3 =>
    BIF b3 (
    ALC ⟨[]⟩ T_float32 (fun g4 h5 =>
    Post (.tuple ⟨[.int .i64 (0 : Int), .int .i64 (0 : Int), .slice (some ⟨g4, 0, none⟩) 0 0, .int .i64 (3 : Int)]⟩) h5) h2) (
    CALL prg f_spec_l10Head #[.slice data_0b data_0l data_0c] (fun q6 h7 =>
    TUP4 q6 fun q8 q9 q10 q11 =>
    asI .i64 q8 fun n12 =>
    asI .i64 q9 fun n13 =>
    asI .i64 q10 fun n14 =>
    asB q11 fun b15 =>
    BIF (!b15) (
    ALC ⟨[]⟩ T_float32 (fun g16 h17 =>
    Post (.tuple ⟨[.int .i64 (0 : Int), .int .i64 (0 : Int), .slice (some ⟨g16, 0, none⟩) 0 0, .int .i64 (5 : Int)]⟩) h17) h7) (
    CALL prg f_spec_l10Width #[.int .i64 n12] (fun q20 h21 =>
    asI .i64 q20 fun n22 =>
    BIF (((data_0l : Int) != (IntKind.i64.wrap ((16 : Int) + (IntKind.i64.wrap (n14 * n22)))))) (
    ALC ⟨[]⟩ T_float32 (fun g23 h24 =>
    Post (.tuple ⟨[.int .i64 (0 : Int), .int .i64 (0 : Int), .slice (some ⟨g23, 0, none⟩) 0 0, .int .i64 (5 : Int)]⟩) h24) h21) (
    spec_ReadSoundFile.J6 Post data_0b data_0l data_0c n12 n13 n14 h21)) h7)) h2)) h
noncomputable def spec_ReadSoundFile.code : Code := (Try.f15.body).getD .skip
theorem spec_ReadSoundFile.call {data_0b : Option Addr} {data_0l data_0c : Nat} {Post : Value → Heap → Prop} {h : Heap} (H : spec_ReadSoundFile.S data_0b data_0l data_0c Post h) : CALL prg f_spec_ReadSoundFile #[.slice data_0b data_0l data_0c] Post h :=
  fn_call tau_ok mixed (c := spec_ReadSoundFile.code) (Λ := lookL [(6, spec_ReadSoundFile.j6 Post), (10, spec_ReadSoundFile.j10 Post)]) Try.func15 (by kernel_rfl) (by kernel_rfl)
    (Rq.seq (by kernel_rfl) (Rq.free (by kernel_rfl)) (Rq.seq (by kernel_rfl) (Rq.free (by kernel_rfl)) (Rq.seq (by kernel_rfl) (Rq.free (by kernel_rfl)) (Rq.seqJ (spec_ReadSoundFile.j6 Post) (by kernel_rfl) (seg (fun _ _ => by kernel_rfl)) (Rq.free (by kernel_rfl))
(Rq.seq (by kernel_rfl) (Rq.free (by kernel_rfl)) (Rq.seq (by kernel_rfl) (Rq.free (by kernel_rfl)) (Rq.seqJ (spec_ReadSoundFile.j10 Post) (by kernel_rfl) (seg (fun _ _ => by kernel_rfl)) (Rq.free (by kernel_rfl))
(Rq.free (by kernel_rfl)))))))))
    (Eq.mp (by kernel_rfl) H)

def laws_FnSoundFiles.J27 (Post : Value → Heap → Prop) (code_0b : Option Addr) (code_0l : Nat) (code_0c : Nat) (more_1b : Option Addr) (more_1l : Nat) (more_1c : Nat) (data_7b : Option Addr) (data_7l : Nat) (data_7c : Nat) (h : Heap) : Prop :=
    ALC ⟨[]⟩ T_uint8 (fun g92 h93 =>
    SEMV prg (Builtin.append_ #[T_sl_uint8, T_sl_uint8] T_sl_uint8 #[.slice (some ⟨g92, 0, none⟩) 0 0, .slice data_7b data_7l data_7c]) (fun q94 h95 =>
    asL q94 fun l96b l96l l96c =>
    CALL prg f_spec_P6Pick #[.slice code_0b code_0l code_0c, .int .i64 (l96l : Int)] (fun q99 h100 =>
    asI .i64 q99 fun n101 =>
    IDXS l96b n101 l96l fun p102 =>
    oI .u8 (cell h100 ((Addr.add p102 ((Int.toNat n101) * 1)))) fun n103 =>
    CALL prg f_spec_P6Pick #[.slice more_1b more_1l more_1c, .int .i64 (255 : Int)] (fun q104 h105 =>
    asI .i64 q104 fun n106 =>
    PIN h100 ((Addr.add p102 ((Int.toNat n101) * 1))) 1 h105 <|
    IDXS l96b n101 l96l fun p107 =>
    ST1 h105 ((Addr.add p107 ((Int.toNat n101) * 1))) (.int .u8 ((bitI .xor .u8 n103 ((IntKind.u8.wrap ((IntKind.i64.wrap ((1 : Int) + n106)))))))) fun h108 =>
    CALL prg f_impl_ReadSoundFile #[.slice l96b l96l l96c] (fun q109 h110 =>
    TUP4 q109 fun q111 q112 q113 q114 =>
    asI .i64 q111 fun n115 =>
    asI .i64 q112 fun n116 =>
    asL q113 fun l117b l117l l117c =>
    asI .i64 q114 fun n118 =>
    CALL prg f_spec_ReadSoundFile #[.slice l96b l96l l96c] (fun q119 h120 =>
    TUP4 q119 fun q121 q122 q123 q124 =>
    asI .i64 q121 fun n125 =>
    asI .i64 q122 fun n126 =>
    asL q123 fun l127b l127l l127c =>
    asI .i64 q124 fun n128 =>
    BIF (n118 == n128) (
    BIF (n118 == (8 : Int)) (
    Post (.bool true) h120) (
    Post (.bool (n118 == (5 : Int))) h120)) (
    Post (.bool false) h120)) h110) h108) h100) h95) h93) h
def laws_FnSoundFiles.j27 (Post : Value → Heap → Prop) : Frame → Heap → Prop := fun fr h => GRD (shape (kds 220 [(0, .l), (1, .l), (7, .l)]) fr) (laws_FnSoundFiles.J27 Post (gLb (lget fr 0)) (gLl (lget fr 0)) (gLc (lget fr 0)) (gLb (lget fr 1)) (gLl (lget fr 1)) (gLc (lget fr 1)) (gLb (lget fr 7)) (gLl (lget fr 7)) (gLc (lget fr 7)) h)
def laws_FnSoundFiles.J25 (Post : Value → Heap → Prop) (code_0b : Option Addr) (code_0l : Nat) (code_0c : Nat) (more_1b : Option Addr) (more_1l : Nat) (more_1c : Nat) (samples_5b : Option Addr) (samples_5l : Nat) (samples_5c : Nat) (data_7b : Option Addr) (data_7l : Nat) (data_7c : Nat) (torn_17b : Option Addr) (torn_17l : Nat) (torn_17c : Nat) (four_18 : Int) (n_19 : Int) (h : Heap) : Prop :=
    BIF (four_18 != (0 : Int)) (
    Post (.bool false) h) (
    SLB (0 : Int) n_19 (samples_5c : Int) <|
    CALL prg f_spec_SameReals #[.slice torn_17b torn_17l torn_17c, .slice (slA samples_5b samples_5c 0 1) ((Int.toNat n_19) - 0) (samples_5c - 0)] (fun q89 h90 =>
    asB q89 fun b91 =>
    BIF (!b91) (
    Post (.bool false) h90) (
    laws_FnSoundFiles.J27 Post code_0b code_0l code_0c more_1b more_1l more_1c data_7b data_7l data_7c h90)) h)
def laws_FnSoundFiles.j25 (Post : Value → Heap → Prop) : Frame → Heap → Prop := fun fr h => GRD (shape (kds 220 [(0, .l), (1, .l), (5, .l), (7, .l), (17, .l), (18, .i .i64), (19, .i .i64)]) fr) (laws_FnSoundFiles.J25 Post (gLb (lget fr 0)) (gLl (lget fr 0)) (gLc (lget fr 0)) (gLb (lget fr 1)) (gLl (lget fr 1)) (gLc (lget fr 1)) (gLb (lget fr 5)) (gLl (lget fr 5)) (gLc (lget fr 5)) (gLb (lget fr 7)) (gLl (lget fr 7)) (gLc (lget fr 7)) (gLb (lget fr 17)) (gLl (lget fr 17)) (gLc (lget fr 17)) (gI (lget fr 18)) (gI (lget fr 19)) h)
def laws_FnSoundFiles.B16 (Post : Value → Heap → Prop) (N16 : (Option Addr × Nat × Nat × Option Addr × Nat × Nat × Option Addr × Nat × Nat × Option Addr × Nat × Nat × Option Addr × Nat × Nat × Int) → Heap → Prop) : Option Addr × Nat × Nat × Option Addr × Nat × Nat × Option Addr × Nat × Nat × Option Addr × Nat × Nat × Option Addr × Nat × Nat × Int → Heap → Prop
  | (code_0b, code_0l, code_0c, more_1b, more_1l, more_1c, samples_5b, samples_5l, samples_5c, data_7b, data_7l, data_7c, back_11b, back_11l, back_11c, i_15), h =>
    BIF ((decide (i_15 < (samples_5l : Int)))) (
    IDXS back_11b i_15 back_11l fun p64 =>
    oF .f32 (cell h ((Addr.add p64 ((Int.toNat i_15) * 1)))) fun r65 =>
    IDXS samples_5b i_15 samples_5l fun p66 =>
    oF .f32 (cell h ((Addr.add p66 ((Int.toNat i_15) * 1)))) fun r67 =>
    CALL prg f_impl_ToShort #[.float .f32 r67] (fun q68 h69 =>
    asI .i16 q68 fun n70 =>
    PIN h ((Addr.add p64 ((Int.toNat i_15) * 1))) 1 h69 <|
    CALL prg f_impl_FromShort #[.int .i16 n70] (fun q71 h72 =>
    asF .f32 q71 fun r73 =>
    PIN h ((Addr.add p64 ((Int.toNat i_15) * 1))) 1 h72 <|
    BIF (FloatKind.f32.format.order r65 r73 != some .eq) (
    Post (.bool false) h72) (
    N16 (code_0b, code_0l, code_0c, more_1b, more_1l, more_1c, samples_5b, samples_5l, samples_5c, data_7b, data_7l, data_7c, back_11b, back_11l, back_11c, ((IntKind.i64.wrap (i_15 + (1 : Int))))) h72)) h69) h) (
    CALL prg f_spec_P6Pick #[.slice more_1b more_1l more_1c, .int .i64 ((IntKind.i64.wrap ((data_7l : Int) - (12 : Int))))] (fun q76 h77 =>
    asI .i64 q76 fun n78 =>
    SLB (0 : Int) ((IntKind.i64.wrap ((12 : Int) + n78))) (data_7c : Int) <|
    CALL prg f_impl_TornSamples #[.slice (slA data_7b data_7c 0 1) (((Int.toNat ((IntKind.i64.wrap ((12 : Int) + n78)))) - 0)) (data_7c - 0)] (fun q79 h80 =>
    TUP2 q79 fun q81 q82 =>
    asL q81 fun l83b l83l l83c =>
    asI .i64 q82 fun n84 =>
    NZ (4 : Int) <|
    BIF ((decide ((samples_5l : Int) < (IntKind.i64.wrap (Int.tdiv ((IntKind.i64.wrap ((IntKind.i64.wrap ((12 : Int) + n78)) - (12 : Int)))) (4 : Int)))))) (
    laws_FnSoundFiles.J25 Post code_0b code_0l code_0c more_1b more_1l more_1c samples_5b samples_5l samples_5c data_7b data_7l data_7c l83b l83l l83c n84 (samples_5l : Int) h80) (
    laws_FnSoundFiles.J25 Post code_0b code_0l code_0c more_1b more_1l more_1c samples_5b samples_5l samples_5c data_7b data_7l data_7c l83b l83l l83c n84 ((IntKind.i64.wrap (Int.tdiv ((IntKind.i64.wrap ((IntKind.i64.wrap ((12 : Int) + n78)) - (12 : Int)))) (4 : Int)))) h80)) h77) h)
def laws_FnSoundFiles.g16 (fr : Frame) : Option Addr × Nat × Nat × Option Addr × Nat × Nat × Option Addr × Nat × Nat × Option Addr × Nat × Nat × Option Addr × Nat × Nat × Int := ((gLb (lget fr 0)), (gLl (lget fr 0)), (gLc (lget fr 0)), (gLb (lget fr 1)), (gLl (lget fr 1)), (gLc (lget fr 1)), (gLb (lget fr 5)), (gLl (lget fr 5)), (gLc (lget fr 5)), (gLb (lget fr 7)), (gLl (lget fr 7)), (gLc (lget fr 7)), (gLb (lget fr 11)), (gLl (lget fr 11)), (gLc (lget fr 11)), (gI (lget fr 15)))
def laws_FnSoundFiles.l16 (Post : Value → Heap → Prop) : Frame → Heap → Prop := fun fr h => GRD (shape (kds 220 [(0, .l), (1, .l), (5, .l), (7, .l), (11, .l), (15, .i .i64)]) fr) (LOOP (laws_FnSoundFiles.B16 Post) (laws_FnSoundFiles.g16 fr) h)
def laws_FnSoundFiles.J15 (Post : Value → Heap → Prop) (code_0b : Option Addr) (code_0l : Nat) (code_0c : Nat) (more_1b : Option Addr) (more_1l : Nat) (more_1c : Nat) (samples_5b : Option Addr) (samples_5l : Nat) (samples_5c : Nat) (data_7b : Option Addr) (data_7l : Nat) (data_7c : Nat) (back_11b : Option Addr) (back_11l : Nat) (back_11c : Nat) (h : Heap) : Prop :=
    LOOP (laws_FnSoundFiles.B16 Post) (code_0b, code_0l, code_0c, more_1b, more_1l, more_1c, samples_5b, samples_5l, samples_5c, data_7b, data_7l, data_7c, back_11b, back_11l, back_11c, (0 : Int)) h
def laws_FnSoundFiles.j15 (Post : Value → Heap → Prop) : Frame → Heap → Prop := fun fr h => GRD (shape (kds 220 [(0, .l), (1, .l), (5, .l), (7, .l), (11, .l)]) fr) (laws_FnSoundFiles.J15 Post (gLb (lget fr 0)) (gLl (lget fr 0)) (gLc (lget fr 0)) (gLb (lget fr 1)) (gLl (lget fr 1)) (gLc (lget fr 1)) (gLb (lget fr 5)) (gLl (lget fr 5)) (gLc (lget fr 5)) (gLb (lget fr 7)) (gLl (lget fr 7)) (gLc (lget fr 7)) (gLb (lget fr 11)) (gLl (lget fr 11)) (gLc (lget fr 11)) h)
def laws_FnSoundFiles.J11 (Post : Value → Heap → Prop) (code_0b : Option Addr) (code_0l : Nat) (code_0c : Nat) (more_1b : Option Addr) (more_1l : Nat) (more_1c : Nat) (samples_5b : Option Addr) (samples_5l : Nat) (samples_5c : Nat) (rate_6 : Int) (data_7b : Option Addr) (data_7l : Nat) (data_7c : Nat) (h : Heap) : Prop :=
    CALL prg f_impl_MakeSoundFile #[.int .i64 (1 : Int), .int .i64 rate_6, .slice samples_5b samples_5l samples_5c] (fun q38 h39 =>
    TUP2 q38 fun q40 q41 =>
    asL q40 fun l42b l42l l42c =>
    asI .i64 q41 fun n43 =>
    CALL prg f_impl_ReadSoundFile #[.slice l42b l42l l42c] (fun q44 h45 =>
    TUP4 q44 fun q46 q47 q48 q49 =>
    asI .i64 q46 fun n50 =>
    asI .i64 q47 fun n51 =>
    asL q48 fun l52b l52l l52c =>
    asI .i64 q49 fun n53 =>
    BIF (n43 != (0 : Int)) (
    Post (.bool false) h45) (
    BIF (n53 != (0 : Int)) (
    Post (.bool false) h45) (
    BIF (n50 != (1 : Int)) (
    Post (.bool false) h45) (
    BIF (n51 != rate_6) (
    Post (.bool false) h45) (
    BIF ((l52l : Int) != (samples_5l : Int)) (
    Post (.bool false) h45) (
    BIF (((l42l : Int) != (IntKind.i64.wrap ((16 : Int) + (IntKind.i64.wrap ((2 : Int) * (samples_5l : Int))))))) (
    Post (.bool false) h45) (
    laws_FnSoundFiles.J15 Post code_0b code_0l code_0c more_1b more_1l more_1c samples_5b samples_5l samples_5c data_7b data_7l data_7c l52b l52l l52c h45))))))) h39) h
def laws_FnSoundFiles.j11 (Post : Value → Heap → Prop) : Frame → Heap → Prop := fun fr h => GRD (shape (kds 220 [(0, .l), (1, .l), (5, .l), (6, .i .i64), (7, .l)]) fr) (laws_FnSoundFiles.J11 Post (gLb (lget fr 0)) (gLl (lget fr 0)) (gLc (lget fr 0)) (gLb (lget fr 1)) (gLl (lget fr 1)) (gLc (lget fr 1)) (gLb (lget fr 5)) (gLl (lget fr 5)) (gLc (lget fr 5)) (gI (lget fr 6)) (gLb (lget fr 7)) (gLl (lget fr 7)) (gLc (lget fr 7)) h)
def laws_FnSoundFiles.J3 (Post : Value → Heap → Prop) (code_0b : Option Addr) (code_0l : Nat) (code_0c : Nat) (more_1b : Option Addr) (more_1l : Nat) (more_1c : Nat) (h : Heap) : Prop :=
    CALL prg f_spec_P6Samples #[.slice code_0b code_0l code_0c, .int .i64 (20 : Int)] (fun q7 h8 =>
    asL q7 fun l9b l9l l9c =>
    BIF ((decide ((4096 : Int) < (l9l : Int)))) (
    Post (.bool true) h8) (
    CALL prg f_spec_P6Pick #[.slice more_1b more_1l more_1c, .int .i64 (90000 : Int)] (fun q12 h13 =>
    asI .i64 q12 fun n14 =>
    CALL prg f_impl_MakeSoundFile #[.int .i64 (2 : Int), .int .i64 ((IntKind.i64.wrap ((1 : Int) + n14))), .slice l9b l9l l9c] (fun q15 h16 =>
    TUP2 q15 fun q17 q18 =>
    asL q17 fun l19b l19l l19c =>
    asI .i64 q18 fun n20 =>
    CALL prg f_impl_ReadSoundFile #[.slice l19b l19l l19c] (fun q21 h22 =>
    TUP4 q21 fun q23 q24 q25 q26 =>
    asI .i64 q23 fun n27 =>
    asI .i64 q24 fun n28 =>
    asL q25 fun l29b l29l l29c =>
    asI .i64 q26 fun n30 =>
    BIF (n20 != (0 : Int)) (
    Post (.bool false) h22) (
    BIF (n30 != (0 : Int)) (
    Post (.bool false) h22) (
    BIF (n27 != (2 : Int)) (
    Post (.bool false) h22) (
    BIF ((n28 != (IntKind.i64.wrap ((1 : Int) + n14)))) (
    Post (.bool false) h22) (
    CALL prg f_spec_SameReals #[.slice l29b l29l l29c, .slice l9b l9l l9c] (fun q31 h32 =>
    asB q31 fun b33 =>
    BIF (!b33) (
    Post (.bool false) h32) (
    BIF (((l19l : Int) != (IntKind.i64.wrap ((16 : Int) + (IntKind.i64.wrap ((4 : Int) * (l9l : Int))))))) (
    Post (.bool false) h32) (
    laws_FnSoundFiles.J11 Post code_0b code_0l code_0c more_1b more_1l more_1c l9b l9l l9c ((IntKind.i64.wrap ((1 : Int) + n14))) l19b l19l l19c h32))) h22))))) h16) h13) h8)) h
def laws_FnSoundFiles.j3 (Post : Value → Heap → Prop) : Frame → Heap → Prop := fun fr h => GRD (shape (kds 220 [(0, .l), (1, .l)]) fr) (laws_FnSoundFiles.J3 Post (gLb (lget fr 0)) (gLl (lget fr 0)) (gLc (lget fr 0)) (gLb (lget fr 1)) (gLl (lget fr 1)) (gLc (lget fr 1)) h)
def laws_FnSoundFiles.S (code_0b : Option Addr) (code_0l code_0c : Nat) (more_1b : Option Addr) (more_1l more_1c : Nat) (Post : Value → Heap → Prop) (h : Heap) : Prop :=
    CALL prg f_laws_f6big #[.slice code_0b code_0l code_0c] (fun q1 h2 =>
    asB q1 fun b3 =>
    BIF b3 (
    Post (.bool true) h2) (
    CALL prg f_laws_f6big #[.slice more_1b more_1l more_1c] (fun q4 h5 =>
    asB q4 fun b6 =>
    BIF b6 (
    Post (.bool true) h5) (
    laws_FnSoundFiles.J3 Post code_0b code_0l code_0c more_1b more_1l more_1c h5)) h2)) h
noncomputable def laws_FnSoundFiles.code : Code := (Try.f3.body).getD .skip
theorem laws_FnSoundFiles.call {code_0b : Option Addr} {code_0l code_0c : Nat} {more_1b : Option Addr} {more_1l more_1c : Nat} {Post : Value → Heap → Prop} {h : Heap} (H : laws_FnSoundFiles.S code_0b code_0l code_0c more_1b more_1l more_1c Post h) : CALL prg f_laws_FnSoundFiles #[.slice code_0b code_0l code_0c, .slice more_1b more_1l more_1c] Post h :=
  fn_call tau_ok mixed (c := laws_FnSoundFiles.code) (Λ := lookL [(3, laws_FnSoundFiles.j3 Post), (11, laws_FnSoundFiles.j11 Post), (15, laws_FnSoundFiles.j15 Post), (1000016, laws_FnSoundFiles.l16 Post), (25, laws_FnSoundFiles.j25 Post), (27, laws_FnSoundFiles.j27 Post)]) Try.func3 (by kernel_rfl) (by kernel_rfl)
    (Rq.seq (by kernel_rfl) (Rq.free (by kernel_rfl)) (Rq.seqJ (laws_FnSoundFiles.j3 Post) (by kernel_rfl) (seg (fun _ _ => by kernel_rfl)) (Rq.free (by kernel_rfl))
(Rq.seq (by kernel_rfl) (Rq.free (by kernel_rfl)) (Rq.seq (by kernel_rfl) (Rq.free (by kernel_rfl)) (Rq.seq (by kernel_rfl) (Rq.free (by kernel_rfl)) (Rq.seq (by kernel_rfl) (Rq.free (by kernel_rfl)) (Rq.seq (by kernel_rfl) (Rq.free (by kernel_rfl)) (Rq.seqJ (laws_FnSoundFiles.j11 Post) (by kernel_rfl) (seg (fun _ _ => by kernel_rfl)) (Rq.free (by kernel_rfl))
(Rq.seq (by kernel_rfl) (Rq.free (by kernel_rfl)) (Rq.seq (by kernel_rfl) (Rq.free (by kernel_rfl)) (Rq.seqJ (laws_FnSoundFiles.j15 Post) (by kernel_rfl) (seg (fun _ _ => by kernel_rfl)) (Rq.free (by kernel_rfl))
(Rq.seq (by kernel_rfl) (Rq.seq (by kernel_rfl) (Rq.free (by kernel_rfl)) (Rq.block (Rq.loop (laws_FnSoundFiles.l16 Post) (by kernel_rfl) (segL (g := laws_FnSoundFiles.g16) tau_ok mixed (Λ := fun N16 => lookL []) (fun _ _ _ => by kernel_rfl) (fun N16 => (Rq.free (by kernel_rfl))))))) (Rq.seq (by kernel_rfl) (Rq.free (by kernel_rfl)) (Rq.seq (by kernel_rfl) (Rq.free (by kernel_rfl)) (Rq.seq (by kernel_rfl) (Rq.free (by kernel_rfl)) (Rq.seqJ (laws_FnSoundFiles.j25 Post) (by kernel_rfl) (seg (fun _ _ => by kernel_rfl)) (Rq.free (by kernel_rfl))
(Rq.seqJ (laws_FnSoundFiles.j27 Post) (by kernel_rfl) (seg (fun _ _ => by kernel_rfl)) (Rq.free (by kernel_rfl))
(Rq.free (by kernel_rfl)))))))))))))))))))
    (Eq.mp (by kernel_rfl) H)

end Go.Sx
