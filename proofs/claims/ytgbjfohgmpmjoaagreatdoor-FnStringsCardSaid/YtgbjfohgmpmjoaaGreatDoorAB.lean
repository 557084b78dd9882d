/- What functions of this seat's program compute, told in words (a predicate over heaps for each), and the proofs that the words are no more than the code's own weakest precondition. -/
import Derived.Test.YtgbjfohgmpmjoaaGreatDoorTab
import Derived.Test.YtgbjfohgmpmjoaaGreatDoorTailOf
import Derived.Test.YtgbjfohgmpmjoaaGreatDoorLk13
import Derived.Test.YtgbjfohgmpmjoaaGreatDoorLk60
import Derived.Test.YtgbjfohgmpmjoaaGreatDoorLf8
import Derived.Test.YtgbjfohgmpmjoaaGreatDoorLk24
import Derived.Test.YtgbjfohgmpmjoaaGreatDoorLk54
import Derived.Test.YtgbjfohgmpmjoaaGreatDoorLk45
import Derived.Test.YtgbjfohgmpmjoaaGreatDoorLvk
import Derived.Test.YtgbjfohgmpmjoaaGreatDoorLk21
import Derived.Test.YtgbjfohgmpmjoaaGreatDoorLk1
import Derived.Test.YtgbjfohgmpmjoaaGreatDoorLk4
import Derived.Test.YtgbjfohgmpmjoaaGreatDoorLdr
namespace Go.Sx
open Go.Proofs
set_option linter.unusedVariables false
set_option maxRecDepth 100000

def laws_a2Long.S (code_0b : Option Addr) (code_0l code_0c : Nat) (more_1b : Option Addr) (more_1l more_1c : Nat) (Post : Value → Heap → Prop) (h : Heap) : Prop :=
    BIF ((decide ((3000 : Int) < (code_0l : Int)))) (
    Post (.bool true) h) (
    Post (.bool ((decide ((3000 : Int) < (more_1l : Int))))) h)
noncomputable def laws_a2Long.code : Code := (Tryz.f5.body).getD .skip
theorem laws_a2Long.call {code_0b : Option Addr} {code_0l code_0c : Nat} {more_1b : Option Addr} {more_1l more_1c : Nat} {Post : Value → Heap → Prop} {h : Heap} (H : laws_a2Long.S code_0b code_0l code_0c more_1b more_1l more_1c Post h) : CALL prg f_laws_a2Long #[.slice code_0b code_0l code_0c, .slice more_1b more_1l more_1c] Post h :=
  fn_call tau_ok mixed (c := laws_a2Long.code) (Λ := lookL []) Tryz.func5 (by kernel_rfl) (by kernel_rfl)
    (Rq.free (by kernel_rfl))
    (Eq.mp (by kernel_rfl) H)

def math_NaN.S (Post : Value → Heap → Prop) (h : Heap) : Prop :=
    CALL prg f_math_Float64frombits #[.int .u64 (9221120237041090561 : Int)] (fun q1 h2 =>
    asF .f64 q1 fun r3 =>
    Post (.float .f64 r3) h2) h
noncomputable def math_NaN.code : Code := (Tryz.f112.body).getD .skip
theorem math_NaN.call {Post : Value → Heap → Prop} {h : Heap} (H : math_NaN.S  Post h) : CALL prg f_math_NaN #[] Post h :=
  fn_call tau_ok mixed (c := math_NaN.code) (Λ := lookL []) Tryz.func112 (by kernel_rfl) (by kernel_rfl)
    (Rq.free (by kernel_rfl))
    (Eq.mp (by kernel_rfl) H)

def spec_l01Any.S (s_0 : Addr) (Post : Value → Heap → Prop) (h : Heap) : Prop :=
    CALL prg f_p_spec_l00Src_pick #[.pointer (some s_0), .int .i64 (14 : Int)] (fun q1 h2 =>
    asI .i64 q1 fun n3 =>
    BIF (n3 == (0 : Int)) (
    CALL prg f_math_NaN #[] (fun q4 h5 =>
    asF .f64 q4 fun r6 =>
    FFC .f64 r6 .f32 fun r7 =>
    Post (.float .f32 r7) h5) h2) (
    BIF (n3 == (1 : Int)) (
    CALL prg f_math_Inf #[.int .i64 (1 : Int)] (fun q8 h9 =>
    asF .f64 q8 fun r10 =>
    FFC .f64 r10 .f32 fun r11 =>
    Post (.float .f32 r11) h9) h2) (
    BIF (n3 == (2 : Int)) (
    CALL prg f_math_Inf #[.int .i64 (-1 : Int)] (fun q12 h13 =>
    asF .f64 q12 fun r14 =>
    FFC .f64 r14 .f32 fun r15 =>
    Post (.float .f32 r15) h13) h2) (
    BIF (n3 == (3 : Int)) (
    CALL prg f_math_Float32frombits #[.int .u32 (2147483648 : Int)] (fun q16 h17 =>
    asF .f32 q16 fun r18 =>
    Post (.float .f32 r18) h17) h2) (
    BIF (n3 == (4 : Int)) (
    CALL prg f_p_spec_l00Src_pick #[.pointer (some s_0), .int .i64 (16777220 : Int)] (fun q19 h20 =>
    asI .i64 q19 fun n21 =>
    CALL prg f_math_Float32frombits #[.int .u32 (IntKind.u32.wrap n21)] (fun q22 h23 =>
    asF .f32 q22 fun r24 =>
    Post (.float .f32 r24) h23) h20) h2) (
    BIF (n3 == (5 : Int)) (
    CALL prg f_p_spec_l00Src_pick #[.pointer (some s_0), .int .i64 (8388612 : Int)] (fun q25 h26 =>
    asI .i64 q25 fun n27 =>
    CALL prg f_math_Float32frombits #[.int .u32 ((IntKind.u32.wrap ((2147483648 : Int) + (IntKind.u32.wrap n27))))] (fun q28 h29 =>
    asF .f32 q28 fun r30 =>
    Post (.float .f32 r30) h29) h26) h2) (
    BIF (n3 == (6 : Int)) (
    CALL prg f_p_spec_l00Src_pick #[.pointer (some s_0), .int .i64 (1073741824 : Int)] (fun q31 h32 =>
    asI .i64 q31 fun n33 =>
    CALL prg f_p_spec_l00Src_pick #[.pointer (some s_0), .int .i64 (4 : Int)] (fun q34 h35 =>
    asI .i64 q34 fun n36 =>
    CALL prg f_math_Float32frombits #[.int .u32 ((IntKind.u32.wrap ((IntKind.u32.wrap ((IntKind.u32.wrap n33) * (4 : Int))) + (IntKind.u32.wrap n36))))] (fun q37 h38 =>
    asF .f32 q37 fun r39 =>
    Post (.float .f32 r39) h38) h35) h32) h2) (
    BIF (n3 == (7 : Int)) (
    CALL prg f_p_spec_l00Src_pick #[.pointer (some s_0), .int .i64 (2000000 : Int)] (fun q40 h41 =>
    asI .i64 q40 fun n42 =>
    FOP .f32 (FloatKind.f32.format.div ((FloatKind.f32.nearest ((IntKind.i64.wrap (n42 - (1000000 : Int)))))) 1232348160) fun r43 =>
    Post (.float .f32 r43) h41) h2) (
    BIF (n3 == (8 : Int)) (
    CALL prg f_p_spec_l00Src_pick #[.pointer (some s_0), .int .i64 (65538 : Int)] (fun q44 h45 =>
    asI .i64 q44 fun n46 =>
    FOP .f32 (FloatKind.f32.format.add ((FloatKind.f32.nearest ((IntKind.i64.wrap (n46 - (32769 : Int)))))) 1056964608) fun r47 =>
    FOP .f32 (FloatKind.f32.format.div r47 1191182336) fun r48 =>
    Post (.float .f32 r48) h45) h2) (
    CALL prg f_spec_l01Plain #[.pointer (some s_0)] (fun q49 h50 =>
    asF .f32 q49 fun r51 =>
    Post (.float .f32 r51) h50) h2)))))))))) h
noncomputable def spec_l01Any.code : Code := (Tryz.f85.body).getD .skip
theorem spec_l01Any.call {s_0 : Addr} {Post : Value → Heap → Prop} {h : Heap} (H : spec_l01Any.S s_0 Post h) : CALL prg f_spec_l01Any #[.pointer (some s_0)] Post h :=
  fn_call tau_ok mixed (c := spec_l01Any.code) (Λ := lookL []) Tryz.func85 (by kernel_rfl) (by kernel_rfl)
    (Rq.free (by kernel_rfl))
    (Eq.mp (by kernel_rfl) H)

def spec_l01Block.J9 (N5 : (Addr × Bool × Addr × Addr × Int) → Heap → Prop) (Post : Value → Heap → Prop) (s_0 : Addr) (plain_1 : Bool) (t4 : Addr) (out_5 : Addr) (i_6 : Int) (a_7 : Nat) (t23 : Bool) (h : Heap) : Prop :=
    BIF t23 (
    CALL prg f_spec_l01Any #[.pointer (some s_0)] (fun q21 h22 =>
    asF .f32 q21 fun r23 =>
    IDX i_6 16 <|
    ST1 h22 ((Addr.add out_5 ((Int.toNat i_6) * 1))) (.float .f32 r23) fun h24 =>
    N5 (s_0, plain_1, t4, out_5, ((IntKind.i64.wrap (i_6 + (1 : Int))))) h24) h) (
    IDX i_6 16 <|
    ST1 h ((Addr.add out_5 ((Int.toNat i_6) * 1))) (.float .f32 a_7) fun h25 =>
    N5 (s_0, plain_1, t4, out_5, ((IntKind.i64.wrap (i_6 + (1 : Int))))) h25)
def spec_l01Block.j9 (N5 : (Addr × Bool × Addr × Addr × Int) → Heap → Prop) (Post : Value → Heap → Prop) : Frame → Heap → Prop := fun fr h => GRD (shape (kds 30 [(0, .p), (1, .b), (4, .p), (5, .p), (6, .i .i64), (7, .f .f32), (23, .b)]) fr) (spec_l01Block.J9 N5 Post (gP (lget fr 0)) (gB (lget fr 1)) (gP (lget fr 4)) (gP (lget fr 5)) (gI (lget fr 6)) (gF (lget fr 7)) (gB (lget fr 23)) h)
def spec_l01Block.B5 (Post : Value → Heap → Prop) (N5 : (Addr × Bool × Addr × Addr × Int) → Heap → Prop) : Addr × Bool × Addr × Addr × Int → Heap → Prop
  | (s_0, plain_1, t4, out_5, i_6), h =>
    BIF ((decide (i_6 < (16 : Int)))) (
    CALL prg f_spec_l01Plain #[.pointer (some s_0)] (fun q12 h13 =>
    asF .f32 q12 fun r14 =>
    BIF (!plain_1) (
    CALL prg f_p_spec_l00Src_one #[.pointer (some s_0), .int .i64 (3 : Int)] (fun q15 h16 =>
    asB q15 fun b17 =>
    spec_l01Block.J9 N5 Post s_0 plain_1 t4 out_5 i_6 r14 b17 h16) h13) (
    spec_l01Block.J9 N5 Post s_0 plain_1 t4 out_5 i_6 r14 false h13)) h) (
    LDA 16 h out_5 fun a18 =>
    STA 16 h t4 a18 fun h19 =>
    LDA 16 h19 t4 fun a20 =>
    Post (.agg a20) h19)
def spec_l01Block.g5 (fr : Frame) : Addr × Bool × Addr × Addr × Int := ((gP (lget fr 0)), (gB (lget fr 1)), (gP (lget fr 4)), (gP (lget fr 5)), (gI (lget fr 6)))
def spec_l01Block.l5 (Post : Value → Heap → Prop) : Frame → Heap → Prop := fun fr h => GRD (shape (kds 30 [(0, .p), (1, .b), (4, .p), (5, .p), (6, .i .i64)]) fr) (LOOP (spec_l01Block.B5 Post) (spec_l01Block.g5 fr) h)
def spec_l01Block.S (s_0 : Addr) (plain_1 : Bool) (Post : Value → Heap → Prop) (h : Heap) : Prop :=
    ALC ⟨Z_impl_Block⟩ T_impl_Block (fun g1 h2 =>
    ALC ⟨Z_impl_Block⟩ T_impl_Block (fun g3 h4 =>
    STA 16 h4 ⟨g3, 0, none⟩ (⟨[.float .f32 0, .float .f32 0, .float .f32 0, .float .f32 0, .float .f32 0, .float .f32 0, .float .f32 0, .float .f32 0, .float .f32 0, .float .f32 0, .float .f32 0, .float .f32 0, .float .f32 0, .float .f32 0, .float .f32 0, .float .f32 0]⟩ : Array Value) fun h5 =>
    CALL prg f_p_spec_l00Src_one #[.pointer (some s_0), .int .i64 (12 : Int)] (fun q6 h7 =>
    asB q6 fun b8 =>
    BIF b8 (
    LDA 16 h7 ⟨g3, 0, none⟩ fun a9 =>
    STA 16 h7 ⟨g1, 0, none⟩ a9 fun h10 =>
    LDA 16 h10 ⟨g1, 0, none⟩ fun a11 =>
    Post (.agg a11) h10) (
    LOOP (spec_l01Block.B5 Post) (s_0, plain_1, ⟨g1, 0, none⟩, ⟨g3, 0, none⟩, (0 : Int)) h7)) h5) h2) h
noncomputable def spec_l01Block.code : Code := (Tryz.f35.body).getD .skip
theorem spec_l01Block.call {s_0 : Addr} {plain_1 : Bool} {Post : Value → Heap → Prop} {h : Heap} (H : spec_l01Block.S s_0 plain_1 Post h) : CALL prg f_spec_l01Block #[.pointer (some s_0), .bool plain_1] Post h :=
  fn_call tau_ok mixed (c := spec_l01Block.code) (Λ := lookL [(1000005, spec_l01Block.l5 Post)]) Tryz.func35 (by kernel_rfl) (by kernel_rfl)
    (Rq.seq (by kernel_rfl) (Rq.free (by kernel_rfl)) (Rq.seq (by kernel_rfl) (Rq.free (by kernel_rfl)) (Rq.seq (by kernel_rfl) (Rq.free (by kernel_rfl)) (Rq.seq (by kernel_rfl) (Rq.seq (by kernel_rfl) (Rq.free (by kernel_rfl)) (Rq.block (Rq.loop (spec_l01Block.l5 Post) (by kernel_rfl) (segL (g := spec_l01Block.g5) tau_ok mixed (Λ := fun N5 => lookL [(9, spec_l01Block.j9 N5 Post)]) (fun _ _ _ => by kernel_rfl) (fun N5 => (Rq.seq (by kernel_rfl) (Rq.free (by kernel_rfl)) (Rq.seq (by kernel_rfl) (Rq.block (Rq.seq (by kernel_rfl) (Rq.free (by kernel_rfl)) (Rq.seq (by kernel_rfl) (Rq.seqJ (spec_l01Block.j9 N5 Post) (by kernel_rfl) (seg (fun _ _ => by kernel_rfl)) (Rq.free (by kernel_rfl))
(Rq.free (by kernel_rfl))) (Rq.free (by kernel_rfl))))) (Rq.free (by kernel_rfl))))))))) (Rq.free (by kernel_rfl))))))
    (Eq.mp (by kernel_rfl) H)

def spec_A2Block.S (code_0b : Option Addr) (code_0l code_0c : Nat) (plain_1 : Bool) (Post : Value → Heap → Prop) (h : Heap) : Prop :=
    ALC ⟨Z_impl_Block⟩ T_impl_Block (fun g1 h2 =>
    CALL prg f_spec_l00From #[.slice code_0b code_0l code_0c] (fun q3 h4 =>
    asP q3 fun p5 =>
    CALL prg f_spec_l01Block #[.pointer (some p5), .bool plain_1] (fun q6 h7 =>
    asA q6 fun a8 =>
    STA 16 h7 ⟨g1, 0, none⟩ a8 fun h9 =>
    LDA 16 h9 ⟨g1, 0, none⟩ fun a10 =>
    Post (.agg a10) h9) h4) h2) h
noncomputable def spec_A2Block.code : Code := (Tryz.f7.body).getD .skip
theorem spec_A2Block.call {code_0b : Option Addr} {code_0l code_0c : Nat} {plain_1 : Bool} {Post : Value → Heap → Prop} {h : Heap} (H : spec_A2Block.S code_0b code_0l code_0c plain_1 Post h) : CALL prg f_spec_A2Block #[.slice code_0b code_0l code_0c, .bool plain_1] Post h :=
  fn_call tau_ok mixed (c := spec_A2Block.code) (Λ := lookL []) Tryz.func7 (by kernel_rfl) (by kernel_rfl)
    (Rq.free (by kernel_rfl))
    (Eq.mp (by kernel_rfl) H)

def spec_A2Digit.J3 (Post : Value → Heap → Prop) (code_0b : Option Addr) (code_0l : Nat) (code_0c : Nat) (at_1 : Int) (n_2 : Int) (h : Heap) : Prop :=
    IDXS code_0b at_1 code_0l fun p3 =>
    oI .u8 (cell h ((Addr.add p3 ((Int.toNat at_1) * 1)))) fun n4 =>
    NZ n_2 <|
    Post (.int .i64 (Int.tmod (IntKind.i64.wrap n4) n_2)) h
def spec_A2Digit.j3 (Post : Value → Heap → Prop) : Frame → Heap → Prop := fun fr h => GRD (shape (kds 22 [(0, .l), (1, .i .i64), (2, .i .i64)]) fr) (spec_A2Digit.J3 Post (gLb (lget fr 0)) (gLl (lget fr 0)) (gLc (lget fr 0)) (gI (lget fr 1)) (gI (lget fr 2)) h)
def spec_A2Digit.S (code_0b : Option Addr) (code_0l code_0c : Nat) (at_1 : Int) (n_2 : Int) (Post : Value → Heap → Prop) (h : Heap) : Prop :=
    BIF ((decide ((code_0l : Int) ≤ at_1))) (
    Post (.int .i64 (0 : Int)) h) (
    BIF ((decide (n_2 < (1 : Int)))) (
    Post (.int .i64 (0 : Int)) h) (
    spec_A2Digit.J3 Post code_0b code_0l code_0c at_1 n_2 h))
noncomputable def spec_A2Digit.code : Code := (Tryz.f24.body).getD .skip
theorem spec_A2Digit.call {code_0b : Option Addr} {code_0l code_0c : Nat} {at_1 : Int} {n_2 : Int} {Post : Value → Heap → Prop} {h : Heap} (H : spec_A2Digit.S code_0b code_0l code_0c at_1 n_2 Post h) : CALL prg f_spec_A2Digit #[.slice code_0b code_0l code_0c, .int .i64 at_1, .int .i64 n_2] Post h :=
  fn_call tau_ok mixed (c := spec_A2Digit.code) (Λ := lookL [(3, spec_A2Digit.j3 Post)]) Tryz.func24 (by kernel_rfl) (by kernel_rfl)
    (Rq.seq (by kernel_rfl) (Rq.free (by kernel_rfl)) (Rq.seqJ (spec_A2Digit.j3 Post) (by kernel_rfl) (seg (fun _ _ => by kernel_rfl)) (Rq.free (by kernel_rfl))
(Rq.free (by kernel_rfl))))
    (Eq.mp (by kernel_rfl) H)

end Go.Sx
/- Samples and blocks drawn: anything at all. -/
set_option linter.unusedVariables false
set_option linter.unusedSimpArgs false
namespace Go.Sx
open Go.Proofs Ieee
set_option maxRecDepth 100000
set_option maxHeartbeats 1000000

theorem ffc_any {s : FloatKind} {x : Nat} {F : Nat → Prop} (H : ∀ r, FW .f32 r (cn .f32 r) → F r) : FFC s x .f32 F := fun r h => H r (fw_cn (isFF_lt32 h))
theorem wrapU_lt (n : Int) : (IntKind.u32.wrap n).toNat < 2 ^ FloatKind.f32.format.width := by
  have h1 := Int.emod_nonneg n (show (4294967296 : Int) ≠ 0 by decide)
  have h2 := Int.emod_lt_of_pos n (show (0 : Int) < 4294967296 by decide)
  have e : IntKind.u32.wrap n = n % 4294967296 := rfl
  rw [e]
  show _ < 4294967296
  omega
section
variable {h0 h : Heap} {L : List Blk} {g : Nat} {cb : Option Addr} {cc K : Nat} {xs : List Int}
/-- Some sample. -/
def Any32 (h0 h' : Heap) (L : List Blk) (g : Nat) (cb : Option Addr) (cl cc K : Nat) (u : Value) : Prop := ∃ y a, u = .float .f32 y ∧ FW .f32 y a ∧ Src h0 h' L g cb cl cc K
theorem NaN64_c : Ret prg f_math_NaN #[] (.float .f64 9221120237041090561) := fun h => math_NaN.call ((frombits64_c _).go fun h' x => as_f ⟨rfl, x⟩)
theorem Inf64_c (s : Int) (h : Heap) : CALL prg f_math_Inf #[.int .i64 s] (fun u h' => ∃ r, u = .float .f64 r ∧ Ext h h') h :=
  math_Inf.call (br (fun _ => (frombits64_c _).go fun h' x => as_f ⟨_, rfl, x⟩) fun _ => (frombits64_c _).go fun h' x => as_f ⟨_, rfl, x⟩)
theorem bits_any {n : Int} {Q : Value → Heap → Prop} {hh : Heap} (H : ∀ y h', Ext hh h' → FW .f32 y (cn .f32 y) → Q (.float .f32 y) h') : CALL prg f_math_Float32frombits #[.int .u32 (IntKind.u32.wrap n)] Q hh :=
  (frombits_c _).go fun h' x => H _ h' x (fw_cn (wrapU_lt n))
theorem l01Any_c (S : Src h0 h L g cb xs.length cc K) (C : Cells h0 cb (iv .u8 xs)) (hb : Byt' xs) (hK : K ≤ 1048000) :
    CALL prg f_spec_l01Any #[.pointer (some ⟨g, 0, none⟩)] (fun u h' => Any32 h0 h' L g cb xs.length cc (K + 6) u) h := by
  refine spec_l01Any.call ((pick_c S C hb (by omega)).mono ?_)
  rintro _ h1 ⟨v, rfl, v1, v2, v3, S⟩
  refine as_i (br (fun _ => ?_) fun _ => br (fun _ => ?_) fun _ => br (fun _ => ?_) fun _ => br (fun _ => ?_) fun _ => br (fun _ => ?_) fun _ => br (fun _ => ?_) fun _ => br (fun _ => ?_) fun _ => br (fun _ => ?_) fun _ => br (fun _ => ?_) fun _ => ?_)
  · exact (NaN64_c).go fun h2 x2 => as_f (ffc_any fun r hr => ⟨r, _, rfl, hr, (S.grow x2).mono (by omega)⟩)
  · refine (Inf64_c _ _).mono ?_
    rintro _ h2 ⟨r, rfl, x2⟩
    exact as_f (ffc_any fun r hr => ⟨r, _, rfl, hr, (S.grow x2).mono (by omega)⟩)
  · refine (Inf64_c _ _).mono ?_
    rintro _ h2 ⟨r, rfl, x2⟩
    exact as_f (ffc_any fun r hr => ⟨r, _, rfl, hr, (S.grow x2).mono (by omega)⟩)
  · exact (frombits_c _).go fun h2 x2 => as_f ⟨_, _, rfl, fw_cn (by decide), (S.grow x2).mono (by omega)⟩
  · refine (pick_c S C hb (by omega)).mono ?_
    rintro _ h2 ⟨w, rfl, w1, w2, w3, S⟩
    exact as_i (bits_any fun y h3 x3 hy => as_f ⟨_, _, rfl, hy, (S.grow x3).mono (by omega)⟩)
  · refine (pick_c S C hb (by omega)).mono ?_
    rintro _ h2 ⟨w, rfl, w1, w2, w3, S⟩
    exact as_i (bits_any fun y h3 x3 hy => as_f ⟨_, _, rfl, hy, (S.grow x3).mono (by omega)⟩)
  · refine (pick_c S C hb (by omega)).mono ?_
    rintro _ h2 ⟨w, rfl, w1, w2, w3, S⟩
    refine as_i ((pick_c S C hb (by omega)).mono ?_)
    rintro _ h3 ⟨z, rfl, z1, z2, z3, S⟩
    exact as_i (bits_any fun y h3 x3 hy => as_f ⟨_, _, rfl, hy, (S.grow x3).mono (by omega)⟩)
  · refine (pick_c S C hb (by omega)).mono ?_
    rintro _ h2 ⟨w, rfl, w1, w2, w3, S⟩
    exact as_i (fD (fw_nearest _ _) (fw_c32 (by decide) (by decide)) fun y hy => ⟨y, _, rfl, hy, S.mono (by omega)⟩)
  · refine (pick_c S C hb (by omega)).mono ?_
    rintro _ h2 ⟨w, rfl, w1, w2, w3, S⟩
    exact as_i (fA (fw_nearest _ _) (fw_c32 (by decide) (by decide)) fun z hz => fD hz (fw_c32 (by decide) (by decide)) fun y hy => ⟨y, _, rfl, hy, S.mono (by omega)⟩)
  · refine (l01Plain_c S C hb (by omega)).mono ?_
    rintro _ h3 ⟨y, v, rfl, v1, v2, hy, S⟩
    exact as_f ⟨y, _, rfl, hy, S.mono (by omega)⟩
/-- Some block. -/
def AnyB (h0 h' : Heap) (L : List Blk) (g : Nat) (cb : Option Addr) (cl cc K : Nat) (u : Value) : Prop := ∃ co ys, u = .agg co ∧ FA 16 co ys ∧ Src h0 h' L g cb cl cc K
/-- The loop over a block. -/
def blkI (h0 : Heap) (L : List Blk) (g : Nat) (cb : Option Addr) (cl cc K : Nat) (plain : Bool) (t o : Nat) (y : Addr × Bool × Addr × Addr × Int) (hh : Heap) : Prop :=
  ∃ (n : Nat) (co : Array Value) (ys : List Nat), y = (⟨g, 0, none⟩, plain, ⟨t, 0, none⟩, ⟨o, 0, none⟩, (n : Int)) ∧ n ≤ 16 ∧ FA 16 co ys ∧ Src h0 hh ((o, T_impl_Block, co) :: (t, T_impl_Block, ⟨Z_impl_Block⟩) :: L) g cb cl cc (K + 2 + 10 * n)
theorem l01Block_c {plain : Bool} (S : Src h0 h L g cb xs.length cc K) (C : Cells h0 cb (iv .u8 xs)) (hb : Byt' xs) (hK : K ≤ 1040000) :
    CALL prg f_spec_l01Block #[.pointer (some ⟨g, 0, none⟩), .bool plain] (fun u h' => AnyB h0 h' L g cb xs.length cc (K + 200) u) h := by
  refine spec_l01Block.call (S.alc fun t h1 S => S.alc fun o h2 S => S.sta rfl FA.zero.one rfl fun h3 S => (one_c S C hb (by omega)).mono ?_)
  rintro _ h4 ⟨b, rfl, S⟩
  refine as_b (br (fun _ => ?_) fun _ => ?_)
  · obtain ⟨p, st, hp, M⟩ := S
    refine M.lda0 (.there .here) rfl (M.sta0 (.there (.there .here)) rfl FA.zero.one rfl (.there (.there .here)) fun h5 M => M.lda0 (.there (.there .here)) rfl ?_)
    exact ⟨_, zeros16, rfl, FA.zero, p, st, by omega, M.cnt fun q => by simp only [cnt_cons]; omega⟩
  refine loop (blkI h0 L g cb xs.length cc K plain t o) (fun y => (16 - y.2.2.2.2).toNat) ⟨0, _, _, rfl, by omega, FA.zero, S⟩ ?_
  rintro y hh ⟨n, co, ys, rfl, hn, F, S⟩
  refine brd (fun hc => ?_) fun hc => ?_
  · have fin : ∀ {h5 : Heap} {y a : Nat}, Src h0 h5 ((o, T_impl_Block, co) :: (t, T_impl_Block, ⟨Z_impl_Block⟩) :: L) g cb xs.length cc (K + 2 + 10 * n + 10) → FW .f32 y a → IDX (n : Int) 16 (ST1 h5 ((⟨o, 0, none⟩ : Addr).add ((Int.toNat (n : Int)) * 1)) (.float .f32 y) fun h6 =>
        (blkI h0 L g cb xs.length cc K plain t o (⟨g, 0, none⟩, plain, ⟨t, 0, none⟩, ⟨o, 0, none⟩, IntKind.i64.wrap ((n : Int) + 1)) h6 ∧ (16 - IntKind.i64.wrap ((n : Int) + 1)).toNat < (16 - (n : Int)).toNat)) := fun {h5 y a} S hy => by
      refine idx (by omega) (by omega) ?_
      rw [Int.toNat_natCast, add_none, Nat.zero_add, Nat.mul_one]
      obtain ⟨p, st, hp, M⟩ := S
      refine M.st1 (.there .here) (by rw [F.size]; omega) (.there .here) fun h6 M => ⟨⟨n + 1, _, ys.set n a, by rw [wrap64_succ (by omega)], by omega, arr_set hy F, p, st, by omega, M⟩, by rw [wrap64_succ (by omega)]; omega⟩
    refine (l01Plain_c S C hb (by omega)).mono ?_
    rintro _ h5 ⟨y, v, rfl, v1, v2, hy, S⟩
    have j9 : ∀ {h6 : Heap} {t23 : Bool}, Src h0 h6 ((o, T_impl_Block, co) :: (t, T_impl_Block, ⟨Z_impl_Block⟩) :: L) g cb xs.length cc (K + 2 + 10 * n + 4) → spec_l01Block.J9 (fun y' h6 => blkI h0 L g cb xs.length cc K plain t o y' h6 ∧ (16 - y'.2.2.2.2).toNat < (16 - (n : Int)).toNat) (fun u h' => AnyB h0 h' L g cb xs.length cc (K + 200) u) ⟨g, 0, none⟩ plain ⟨t, 0, none⟩ ⟨o, 0, none⟩ (n : Int) y t23 h6 := fun {h6 t23} S => by
      unfold spec_l01Block.J9
      refine br (fun _ => ?_) fun _ => fin (S.mono (by omega)) hy
      refine (l01Any_c S C hb (by omega)).mono ?_
      rintro _ h7 ⟨z, a, rfl, hz, S⟩
      exact as_f (fin (S.mono (by omega)) hz)
    refine as_f (br (fun _ => ?_) fun _ => j9 (S.mono (by omega)))
    refine (one_c S C hb (by omega)).mono ?_
    rintro _ h6 ⟨b, rfl, S⟩
    exact as_b (j9 (S.mono (by omega)))
  obtain rfl : n = 16 := by omega
  obtain ⟨p, st, hp, M⟩ := S
  refine M.lda0 (.there .here) F.size (M.sta0 (.there (.there .here)) F.size F.one rfl (.there (.there .here)) fun h5 M => M.lda0 (.there (.there .here)) F.size ?_)
  exact ⟨co, ys, rfl, F, p, st, by omega, M.cnt fun q => by simp only [cnt_cons]; omega⟩
theorem A2Block_c {plain : Bool} (M : Mem h0 h L) (C : Cells h0 cb (iv .u8 xs)) (hb : Byt' xs) :
    CALL prg f_spec_A2Block #[.slice cb xs.length cc, .bool plain] (fun u h' => ∃ co ys, u = .agg co ∧ FA 16 co ys ∧ Mem h0 h' L) h := by
  refine spec_A2Block.call (M.alc fun g1 h1 x1 M => (l00From_c M).mono ?_)
  rintro _ h2 ⟨g, rfl, S⟩
  refine as_p ((l01Block_c S C hb (by omega)).mono ?_)
  rintro _ h3 ⟨co, ys, rfl, F, S⟩
  exact as_a (S.mem.sta0 .here F.size F.one rfl .here fun h4 M => M.lda0 .here F.size ⟨co, ys, rfl, F, M.drop⟩)
theorem a2Long_c {mb : Option Addr} {l c l' c' : Nat} : CALL prg f_laws_a2Long #[.slice cb l c, .slice mb l' c'] (fun u h' => ∃ b, u = .bool b ∧ Ext h h') h :=
  laws_a2Long.call (br (fun _ => ⟨_, rfl, Ext.refl _⟩) fun _ => ⟨_, rfl, Ext.refl _⟩)
theorem A2Digit_c {n i : Int} (M : Mem h0 h L) (C : Cells h0 cb (iv .u8 xs)) (hb : Byt' xs) (hn : 0 < n) (hi : 0 ≤ i) : CALL prg f_spec_A2Digit #[.slice cb xs.length cc, .int .i64 i, .int .i64 n] (fun u h' => ∃ v : Int, u = .int .i64 v ∧ 0 ≤ v ∧ v < n ∧ Mem h0 h' L) h := by
  refine spec_A2Digit.call (brd (fun _ => ⟨0, rfl, by omega, hn, M⟩) fun hc => brd (fun _ => ⟨0, rfl, by omega, hn, M⟩) fun hd => ?_)
  unfold spec_A2Digit.J3
  obtain ⟨k, rfl⟩ := Int.eq_ofNat_of_zero_le hi
  have C' := C.ext M.ext
  obtain ⟨a, rfl⟩ := C'.base (by rw [iv_len]; omega)
  refine idxs (by omega) (by omega) ?_
  rw [Int.toNat_natCast, Nat.mul_one]
  refine o_i (C'.get (iv_get (by omega))) (nz (by omega) ?_)
  have := hb _ (List.getElem_mem (show k < xs.length by omega))
  rw [wrap64 (by omega) (by omega), Int.tmod_eq_emod_of_nonneg this.1]
  exact ⟨_, rfl, Int.emod_nonneg _ (by omega), Int.emod_lt_of_pos _ hn, M⟩
end
end Go.Sx
/- Filters drawn are valid. -/
set_option linter.unusedVariables false
set_option linter.unusedSimpArgs false
namespace Go.Sx
open Go.Proofs Ieee
set_option maxRecDepth 100000
set_option maxHeartbeats 1000000

def s64 (v : Int) : Nat := fdiv .f32 (FloatKind.f32.nearest v) 1115684864
end Go.Sx
/- Filters drawn are valid. -/
set_option linter.unusedVariables false
set_option linter.unusedSimpArgs false
namespace Go.Sx
open Go.Proofs Ieee
set_option maxRecDepth 100000
set_option maxHeartbeats 1000000

/-- A step keeps a filter valid. -/
theorem filter_step_ok {f : GFilter} {a : Nat} (h : f.ok = true) : (f.step a).1.ok = true := by
  unfold GFilter.ok at h
  simp only [Bool.and_eq_true] at h
  have hk := h.1.1
  simp only [inR, Bool.and_eq_true, decide_eq_true_eq] at hk
  have fin1 : ∀ S : List Nat, used S (usesS f.Kind) = true → ({ f with S := S } : GFilter).ok = true := fun S hS => by
    unfold GFilter.ok
    rw [Bool.and_eq_true]
    exact ⟨by simp only [Bool.and_eq_true]; exact h.1, hS⟩
  have hS := h.2
  have u1 : (f.Kind = 1 ∨ f.Kind = 2) → usesS f.Kind = 1 := fun e => by unfold usesS; rw [if_pos e]
  have u2 : ¬ (f.Kind = 1 ∨ f.Kind = 2) → usesS f.Kind = 2 := fun e => by unfold usesS; rw [if_neg e]
  by_cases k1 : f.Kind = 1
  · rw [step1 k1]; exact fin1 _ (used_set0 hS (by rw [u1 (.inl k1)]; decide))
  by_cases k2 : f.Kind = 2
  · rw [step2 k2]; exact fin1 _ (used_set0 hS (by rw [u1 (.inr k2)]; decide))
  have u := u2 (by omega)
  by_cases k3 : f.Kind = 3
  · rw [step3 k3]; exact fin1 _ (by rw [u] at hS ⊢; exact used_setN (i := 1) (used_setN (i := 0) hS (by decide)) (by decide))
  by_cases k4 : f.Kind = 4
  · rw [step4 k4]; exact fin1 _ (by rw [u] at hS ⊢; exact used_setN (i := 1) (used_setN (i := 0) hS (by decide)) (by decide))
  · rw [step5 k1 k2 k3 k4]; exact fin1 _ (by rw [u] at hS ⊢; exact used_setN (i := 1) (used_setN (i := 0) hS (by decide)) (by decide))
/-- A filter's cells, told by a call. -/
def FlT (u : Value) (f : GFilter) : Prop := ∃ v, u = .agg ⟨flT v⟩ ∧ rFilter.ow [] (flT v) f
theorem FlR.t {u : Value} {f : GFilter} (h : FlR u f) : FlT u f := by
  obtain ⟨k, y, z, e, O⟩ := h
  exact ⟨(k, y, z, 0, 0, 0), e, O⟩
theorem flT_one {v : Int × Nat × Nat × Nat × Nat × Nat} : ∀ w ∈ (⟨flT v⟩ : Array Value).toList, w.oneCell' = true := all_one rfl
end Go.Sx
/- Filters run over blocks, one by one and in a chain. -/
set_option linter.unusedVariables false
set_option linter.unusedSimpArgs false
namespace Go.Sx
open Go.Proofs
set_option maxRecDepth 100000
set_option maxHeartbeats 2000000

abbrev V6 := Int × Nat × Nat × Nat × Nat × Nat
end Go.Sx
