/- What functions of this seat's program compute, told in words (a predicate over heaps for each), and the proofs that the words are no more than the code's own weakest precondition. -/
import Derived.Test.YtkgmfiloghhibaaGreatDoorTab
namespace Go.Sx
open Go.Proofs
set_option linter.unusedVariables false
set_option maxRecDepth 100000

def internal_strconv_lower.S (c_0 : Int) (Post : Value → Heap → Prop) (h : Heap) : Prop :=
    Post (.int .u8 (bitI .or .u8 c_0 (32 : Int))) h
noncomputable def internal_strconv_lower.code : Code := (Tryz.f217.body).getD .skip
theorem internal_strconv_lower.call {c_0 : Int} {Post : Value → Heap → Prop} {h : Heap} (H : internal_strconv_lower.S c_0 Post h) : CALL prg f_internal_strconv_lower #[.int .u8 c_0] Post h :=
  fn_call tau_ok mixed (c := internal_strconv_lower.code) (Λ := lookL []) Tryz.func217 (by kernel_rfl) (by kernel_rfl)
    (Rq.free (by kernel_rfl))
    (Eq.mp (by kernel_rfl) H)

def internal_strconv_ParseUint.J46 (N36 : (Int × Bool × ByteArray × Int × Int × Bool × Int × Option Addr × Nat × Nat × Int × Int) → Heap → Prop) (Post : Value → Heap → Prop) (base_1 : Int) (base0_8 : Bool) (s0_9 : ByteArray) (cutoff_10 : Int) (maxVal_11 : Int) (underscores_12 : Bool) (n_13 : Int) (d_16 : Int) (t99b : Option Addr) (t99l : Nat) (t99c : Nat) (t100 : Int) (t101 : Int) (h : Heap) : Prop :=
    BIF ((decide ((IntKind.u8.wrap base_1) ≤ d_16))) (
    SEMV prg (Instr.makeInterface T_strconv_Error (.int .i64 (2 : Int))) (fun q42 h43 =>
    Post (.tuple ⟨[.int .u64 (0 : Int), q42]⟩) h43) h) (
    BIF (decide (cutoff_10 ≤ n_13)) (
    SEMV prg (Instr.makeInterface T_strconv_Error (.int .i64 (1 : Int))) (fun q44 h45 =>
    Post (.tuple ⟨[.int .u64 maxVal_11, q44]⟩) h45) h) (
    BIF ((decide ((IntKind.u64.wrap ((IntKind.u64.wrap (n_13 * (IntKind.u64.wrap base_1))) + (IntKind.u64.wrap d_16))) < (IntKind.u64.wrap (n_13 * (IntKind.u64.wrap base_1)))))) (
    SEMV prg (Instr.makeInterface T_strconv_Error (.int .i64 (1 : Int))) (fun q46 h47 =>
    Post (.tuple ⟨[.int .u64 maxVal_11, q46]⟩) h47) h) (
    BIF ((decide (maxVal_11 < (IntKind.u64.wrap ((IntKind.u64.wrap (n_13 * (IntKind.u64.wrap base_1))) + (IntKind.u64.wrap d_16)))))) (
    SEMV prg (Instr.makeInterface T_strconv_Error (.int .i64 (1 : Int))) (fun q48 h49 =>
    Post (.tuple ⟨[.int .u64 maxVal_11, q48]⟩) h49) h) (
    N36 (base_1, base0_8, s0_9, cutoff_10, maxVal_11, underscores_12, ((IntKind.u64.wrap ((IntKind.u64.wrap (n_13 * (IntKind.u64.wrap base_1))) + (IntKind.u64.wrap d_16)))), t99b, t99l, t99c, t100, ((IntKind.i64.wrap (t101 + (1 : Int))))) h))))
def internal_strconv_ParseUint.j46 (N36 : (Int × Bool × ByteArray × Int × Int × Bool × Int × Option Addr × Nat × Nat × Int × Int) → Heap → Prop) (Post : Value → Heap → Prop) : Frame → Heap → Prop := fun fr h => GRD (shape (kds 172 [(1, .i .i64), (8, .b), (9, .s), (10, .i .u64), (11, .i .u64), (12, .b), (13, .i .u64), (16, .i .u8), (99, .l), (100, .i .i64), (101, .i .i64)]) fr) (internal_strconv_ParseUint.J46 N36 Post (gI (lget fr 1)) (gB (lget fr 8)) (gS (lget fr 9)) (gI (lget fr 10)) (gI (lget fr 11)) (gB (lget fr 12)) (gI (lget fr 13)) (gI (lget fr 16)) (gLb (lget fr 99)) (gLl (lget fr 99)) (gLc (lget fr 99)) (gI (lget fr 100)) (gI (lget fr 101)) h)
def internal_strconv_ParseUint.J45 (N36 : (Int × Bool × ByteArray × Int × Int × Bool × Int × Option Addr × Nat × Nat × Int × Int) → Heap → Prop) (Post : Value → Heap → Prop) (base_1 : Int) (base0_8 : Bool) (s0_9 : ByteArray) (cutoff_10 : Int) (maxVal_11 : Int) (underscores_12 : Bool) (n_13 : Int) (c_15 : Int) (t99b : Option Addr) (t99l : Nat) (t99c : Nat) (t100 : Int) (t101 : Int) (t121 : Bool) (h : Heap) : Prop :=
    BIF t121 (
    CALL prg f_internal_strconv_lower #[.int .u8 c_15] (fun q50 h51 =>
    asI .u8 q50 fun n52 =>
    internal_strconv_ParseUint.J46 N36 Post base_1 base0_8 s0_9 cutoff_10 maxVal_11 underscores_12 n_13 ((IntKind.u8.wrap ((IntKind.u8.wrap (n52 - (97 : Int))) + (10 : Int)))) t99b t99l t99c t100 t101 h51) h) (
    SEMV prg (Instr.makeInterface T_strconv_Error (.int .i64 (2 : Int))) (fun q53 h54 =>
    Post (.tuple ⟨[.int .u64 (0 : Int), q53]⟩) h54) h)
def internal_strconv_ParseUint.j45 (N36 : (Int × Bool × ByteArray × Int × Int × Bool × Int × Option Addr × Nat × Nat × Int × Int) → Heap → Prop) (Post : Value → Heap → Prop) : Frame → Heap → Prop := fun fr h => GRD (shape (kds 172 [(1, .i .i64), (8, .b), (9, .s), (10, .i .u64), (11, .i .u64), (12, .b), (13, .i .u64), (15, .i .u8), (99, .l), (100, .i .i64), (101, .i .i64), (121, .b)]) fr) (internal_strconv_ParseUint.J45 N36 Post (gI (lget fr 1)) (gB (lget fr 8)) (gS (lget fr 9)) (gI (lget fr 10)) (gI (lget fr 11)) (gB (lget fr 12)) (gI (lget fr 13)) (gI (lget fr 15)) (gLb (lget fr 99)) (gLl (lget fr 99)) (gLc (lget fr 99)) (gI (lget fr 100)) (gI (lget fr 101)) (gB (lget fr 121)) h)
def internal_strconv_ParseUint.J43 (N36 : (Int × Bool × ByteArray × Int × Int × Bool × Int × Option Addr × Nat × Nat × Int × Int) → Heap → Prop) (Post : Value → Heap → Prop) (base_1 : Int) (base0_8 : Bool) (s0_9 : ByteArray) (cutoff_10 : Int) (maxVal_11 : Int) (underscores_12 : Bool) (n_13 : Int) (c_15 : Int) (t99b : Option Addr) (t99l : Nat) (t99c : Nat) (t100 : Int) (t101 : Int) (t112 : Bool) (h : Heap) : Prop :=
    BIF t112 (
    internal_strconv_ParseUint.J46 N36 Post base_1 base0_8 s0_9 cutoff_10 maxVal_11 underscores_12 n_13 ((IntKind.u8.wrap (c_15 - (48 : Int)))) t99b t99l t99c t100 t101 h) (
    CALL prg f_internal_strconv_lower #[.int .u8 c_15] (fun q36 h37 =>
    asI .u8 q36 fun n38 =>
    BIF ((decide ((97 : Int) ≤ n38))) (
    CALL prg f_internal_strconv_lower #[.int .u8 c_15] (fun q39 h40 =>
    asI .u8 q39 fun n41 =>
    internal_strconv_ParseUint.J45 N36 Post base_1 base0_8 s0_9 cutoff_10 maxVal_11 underscores_12 n_13 c_15 t99b t99l t99c t100 t101 ((decide (n41 ≤ (122 : Int)))) h40) h37) (
    internal_strconv_ParseUint.J45 N36 Post base_1 base0_8 s0_9 cutoff_10 maxVal_11 underscores_12 n_13 c_15 t99b t99l t99c t100 t101 false h37)) h)
def internal_strconv_ParseUint.j43 (N36 : (Int × Bool × ByteArray × Int × Int × Bool × Int × Option Addr × Nat × Nat × Int × Int) → Heap → Prop) (Post : Value → Heap → Prop) : Frame → Heap → Prop := fun fr h => GRD (shape (kds 172 [(1, .i .i64), (8, .b), (9, .s), (10, .i .u64), (11, .i .u64), (12, .b), (13, .i .u64), (15, .i .u8), (99, .l), (100, .i .i64), (101, .i .i64), (112, .b)]) fr) (internal_strconv_ParseUint.J43 N36 Post (gI (lget fr 1)) (gB (lget fr 8)) (gS (lget fr 9)) (gI (lget fr 10)) (gI (lget fr 11)) (gB (lget fr 12)) (gI (lget fr 13)) (gI (lget fr 15)) (gLb (lget fr 99)) (gLl (lget fr 99)) (gLc (lget fr 99)) (gI (lget fr 100)) (gI (lget fr 101)) (gB (lget fr 112)) h)
def internal_strconv_ParseUint.J41 (N36 : (Int × Bool × ByteArray × Int × Int × Bool × Int × Option Addr × Nat × Nat × Int × Int) → Heap → Prop) (Post : Value → Heap → Prop) (base_1 : Int) (base0_8 : Bool) (s0_9 : ByteArray) (cutoff_10 : Int) (maxVal_11 : Int) (underscores_12 : Bool) (n_13 : Int) (c_15 : Int) (t99b : Option Addr) (t99l : Nat) (t99c : Nat) (t100 : Int) (t101 : Int) (t106 : Bool) (h : Heap) : Prop :=
    BIF t106 (
    N36 (base_1, base0_8, s0_9, cutoff_10, maxVal_11, true, n_13, t99b, t99l, t99c, t100, ((IntKind.i64.wrap (t101 + (1 : Int))))) h) (
    BIF ((decide ((48 : Int) ≤ c_15))) (
    internal_strconv_ParseUint.J43 N36 Post base_1 base0_8 s0_9 cutoff_10 maxVal_11 underscores_12 n_13 c_15 t99b t99l t99c t100 t101 ((decide (c_15 ≤ (57 : Int)))) h) (
    internal_strconv_ParseUint.J43 N36 Post base_1 base0_8 s0_9 cutoff_10 maxVal_11 underscores_12 n_13 c_15 t99b t99l t99c t100 t101 false h))
def internal_strconv_ParseUint.j41 (N36 : (Int × Bool × ByteArray × Int × Int × Bool × Int × Option Addr × Nat × Nat × Int × Int) → Heap → Prop) (Post : Value → Heap → Prop) : Frame → Heap → Prop := fun fr h => GRD (shape (kds 172 [(1, .i .i64), (8, .b), (9, .s), (10, .i .u64), (11, .i .u64), (12, .b), (13, .i .u64), (15, .i .u8), (99, .l), (100, .i .i64), (101, .i .i64), (106, .b)]) fr) (internal_strconv_ParseUint.J41 N36 Post (gI (lget fr 1)) (gB (lget fr 8)) (gS (lget fr 9)) (gI (lget fr 10)) (gI (lget fr 11)) (gB (lget fr 12)) (gI (lget fr 13)) (gI (lget fr 15)) (gLb (lget fr 99)) (gLl (lget fr 99)) (gLc (lget fr 99)) (gI (lget fr 100)) (gI (lget fr 101)) (gB (lget fr 106)) h)
def internal_strconv_ParseUint.B36 (Post : Value → Heap → Prop) (N36 : (Int × Bool × ByteArray × Int × Int × Bool × Int × Option Addr × Nat × Nat × Int × Int) → Heap → Prop) : Int × Bool × ByteArray × Int × Int × Bool × Int × Option Addr × Nat × Nat × Int × Int → Heap → Prop
  | (base_1, base0_8, s0_9, cutoff_10, maxVal_11, underscores_12, n_13, t99b, t99l, t99c, t100, t101), h =>
    BIF (decide (t101 < t100)) (
    IDXS t99b t101 t99l fun p29 =>
    oI .u8 (cell h ((Addr.add p29 ((Int.toNat t101) * 1)))) fun n30 =>
    BIF (n30 == (95 : Int)) (
    internal_strconv_ParseUint.J41 N36 Post base_1 base0_8 s0_9 cutoff_10 maxVal_11 underscores_12 n_13 n30 t99b t99l t99c t100 t101 base0_8 h) (
    internal_strconv_ParseUint.J41 N36 Post base_1 base0_8 s0_9 cutoff_10 maxVal_11 underscores_12 n_13 n30 t99b t99l t99c t100 t101 false h)) (
    BIF underscores_12 (
    CALL prg f_internal_strconv_underscoreOK #[.string s0_9] (fun q31 h32 =>
    asB q31 fun b33 =>
    BIF (!b33) (
    SEMV prg (Instr.makeInterface T_strconv_Error (.int .i64 (2 : Int))) (fun q34 h35 =>
    Post (.tuple ⟨[.int .u64 (0 : Int), q34]⟩) h35) h32) (
    Post (.tuple ⟨[.int .u64 n_13, .nilIface]⟩) h32)) h) (
    Post (.tuple ⟨[.int .u64 n_13, .nilIface]⟩) h))
def internal_strconv_ParseUint.g36 (fr : Frame) : Int × Bool × ByteArray × Int × Int × Bool × Int × Option Addr × Nat × Nat × Int × Int := ((gI (lget fr 1)), (gB (lget fr 8)), (gS (lget fr 9)), (gI (lget fr 10)), (gI (lget fr 11)), (gB (lget fr 12)), (gI (lget fr 13)), (gLb (lget fr 99)), (gLl (lget fr 99)), (gLc (lget fr 99)), (gI (lget fr 100)), (gI (lget fr 101)))
def internal_strconv_ParseUint.l36 (Post : Value → Heap → Prop) : Frame → Heap → Prop := fun fr h => GRD (shape (kds 172 [(1, .i .i64), (8, .b), (9, .s), (10, .i .u64), (11, .i .u64), (12, .b), (13, .i .u64), (99, .l), (100, .i .i64), (101, .i .i64)]) fr) (LOOP (internal_strconv_ParseUint.B36 Post) (internal_strconv_ParseUint.g36 fr) h)
def internal_strconv_ParseUint.J32 (Post : Value → Heap → Prop) (s_0 : ByteArray) (base_1 : Int) (bitSize_2 : Int) (base0_8 : Bool) (s0_9 : ByteArray) (cutoff_10 : Int) (h : Heap) : Prop :=
    NN (IntKind.u64.wrap bitSize_2) <|
    SEMV prg (convert T_string T_sl_uint8 (.string s_0)) (fun q24 h25 =>
    asL q24 fun l26b l26l l26c =>
    LOOP (internal_strconv_ParseUint.B36 Post) (base_1, base0_8, s0_9, cutoff_10, ((IntKind.u64.wrap ((shlI .u64 (1 : Int) (IntKind.u64.wrap bitSize_2)) - (1 : Int)))), false, (0 : Int), l26b, l26l, l26c, (l26l : Int), (0 : Int)) h25) h
def internal_strconv_ParseUint.j32 (Post : Value → Heap → Prop) : Frame → Heap → Prop := fun fr h => GRD (shape (kds 172 [(0, .s), (1, .i .i64), (2, .i .i64), (8, .b), (9, .s), (10, .i .u64)]) fr) (internal_strconv_ParseUint.J32 Post (gS (lget fr 0)) (gI (lget fr 1)) (gI (lget fr 2)) (gB (lget fr 8)) (gS (lget fr 9)) (gI (lget fr 10)) h)
def internal_strconv_ParseUint.J25 (Post : Value → Heap → Prop) (s_0 : ByteArray) (base_1 : Int) (bitSize_2 : Int) (base0_8 : Bool) (s0_9 : ByteArray) (h : Heap) : Prop :=
    BIF (base_1 == (10 : Int)) (
    internal_strconv_ParseUint.J32 Post s_0 base_1 bitSize_2 base0_8 s0_9 (1844674407370955162 : Int) h) (
    BIF (base_1 == (16 : Int)) (
    internal_strconv_ParseUint.J32 Post s_0 base_1 bitSize_2 base0_8 s0_9 (1152921504606846976 : Int) h) (
    NZ (IntKind.u64.wrap base_1) <|
    internal_strconv_ParseUint.J32 Post s_0 base_1 bitSize_2 base0_8 s0_9 ((IntKind.u64.wrap ((IntKind.u64.wrap (Int.tdiv (18446744073709551615 : Int) (IntKind.u64.wrap base_1))) + (1 : Int)))) h))
def internal_strconv_ParseUint.j25 (Post : Value → Heap → Prop) : Frame → Heap → Prop := fun fr h => GRD (shape (kds 172 [(0, .s), (1, .i .i64), (2, .i .i64), (8, .b), (9, .s)]) fr) (internal_strconv_ParseUint.J25 Post (gS (lget fr 0)) (gI (lget fr 1)) (gI (lget fr 2)) (gB (lget fr 8)) (gS (lget fr 9)) h)
def internal_strconv_ParseUint.J21 (Post : Value → Heap → Prop) (s_0 : ByteArray) (base_1 : Int) (bitSize_2 : Int) (base0_8 : Bool) (s0_9 : ByteArray) (h : Heap) : Prop :=
    BIF (bitSize_2 == (0 : Int)) (
    internal_strconv_ParseUint.J25 Post s_0 base_1 (64 : Int) base0_8 s0_9 h) (
    BIF ((decide (bitSize_2 < (0 : Int)))) (
    SEMV prg (Instr.makeInterface T_strconv_Error (.int .i64 (4 : Int))) (fun q10 h11 =>
    Post (.tuple ⟨[.int .u64 (0 : Int), q10]⟩) h11) h) (
    BIF ((decide ((64 : Int) < bitSize_2))) (
    SEMV prg (Instr.makeInterface T_strconv_Error (.int .i64 (4 : Int))) (fun q12 h13 =>
    Post (.tuple ⟨[.int .u64 (0 : Int), q12]⟩) h13) h) (
    internal_strconv_ParseUint.J25 Post s_0 base_1 bitSize_2 base0_8 s0_9 h)))
def internal_strconv_ParseUint.j21 (Post : Value → Heap → Prop) : Frame → Heap → Prop := fun fr h => GRD (shape (kds 172 [(0, .s), (1, .i .i64), (2, .i .i64), (8, .b), (9, .s)]) fr) (internal_strconv_ParseUint.J21 Post (gS (lget fr 0)) (gI (lget fr 1)) (gI (lget fr 2)) (gB (lget fr 8)) (gS (lget fr 9)) h)
def internal_strconv_ParseUint.J16 (Post : Value → Heap → Prop) (s_0 : ByteArray) (bitSize_2 : Int) (base0_8 : Bool) (s0_9 : ByteArray) (t52 : Bool) (h : Heap) : Prop :=
    BIF t52 (
    SLB (2 : Int) ((ByteArray.size s_0) : Int) ((ByteArray.size s_0) : Int) <|
    internal_strconv_ParseUint.J21 Post (ByteArray.extract s_0 2 (ByteArray.size s_0)) (8 : Int) bitSize_2 base0_8 s0_9 h) (
    BIF ((decide ((3 : Int) ≤ ((ByteArray.size s_0) : Int)))) (
    IDX (1 : Int) (ByteArray.size s_0) <|
    CALL prg f_internal_strconv_lower #[.int .u8 (byteAt s_0 (1 : Int))] (fun q21 h22 =>
    asI .u8 q21 fun n23 =>
    BIF (n23 == (120 : Int)) (
    SLB (2 : Int) ((ByteArray.size s_0) : Int) ((ByteArray.size s_0) : Int) <|
    internal_strconv_ParseUint.J21 Post (ByteArray.extract s_0 2 (ByteArray.size s_0)) (16 : Int) bitSize_2 base0_8 s0_9 h22) (
    SLB (1 : Int) ((ByteArray.size s_0) : Int) ((ByteArray.size s_0) : Int) <|
    internal_strconv_ParseUint.J21 Post (ByteArray.extract s_0 1 (ByteArray.size s_0)) (8 : Int) bitSize_2 base0_8 s0_9 h22)) h) (
    SLB (1 : Int) ((ByteArray.size s_0) : Int) ((ByteArray.size s_0) : Int) <|
    internal_strconv_ParseUint.J21 Post (ByteArray.extract s_0 1 (ByteArray.size s_0)) (8 : Int) bitSize_2 base0_8 s0_9 h))
def internal_strconv_ParseUint.j16 (Post : Value → Heap → Prop) : Frame → Heap → Prop := fun fr h => GRD (shape (kds 172 [(0, .s), (2, .i .i64), (8, .b), (9, .s), (52, .b)]) fr) (internal_strconv_ParseUint.J16 Post (gS (lget fr 0)) (gI (lget fr 2)) (gB (lget fr 8)) (gS (lget fr 9)) (gB (lget fr 52)) h)
def internal_strconv_ParseUint.J13 (Post : Value → Heap → Prop) (s_0 : ByteArray) (bitSize_2 : Int) (base0_8 : Bool) (s0_9 : ByteArray) (t40 : Bool) (h : Heap) : Prop :=
    BIF t40 (
    SLB (2 : Int) ((ByteArray.size s_0) : Int) ((ByteArray.size s_0) : Int) <|
    internal_strconv_ParseUint.J21 Post (ByteArray.extract s_0 2 (ByteArray.size s_0)) (2 : Int) bitSize_2 base0_8 s0_9 h) (
    BIF ((decide ((3 : Int) ≤ ((ByteArray.size s_0) : Int)))) (
    IDX (1 : Int) (ByteArray.size s_0) <|
    CALL prg f_internal_strconv_lower #[.int .u8 (byteAt s_0 (1 : Int))] (fun q16 h17 =>
    asI .u8 q16 fun n18 =>
    internal_strconv_ParseUint.J16 Post s_0 bitSize_2 base0_8 s0_9 (n18 == (111 : Int)) h17) h) (
    internal_strconv_ParseUint.J16 Post s_0 bitSize_2 base0_8 s0_9 false h))
def internal_strconv_ParseUint.j13 (Post : Value → Heap → Prop) : Frame → Heap → Prop := fun fr h => GRD (shape (kds 172 [(0, .s), (2, .i .i64), (8, .b), (9, .s), (40, .b)]) fr) (internal_strconv_ParseUint.J13 Post (gS (lget fr 0)) (gI (lget fr 2)) (gB (lget fr 8)) (gS (lget fr 9)) (gB (lget fr 40)) h)
def internal_strconv_ParseUint.J7 (Post : Value → Heap → Prop) (s_0 : ByteArray) (base_1 : Int) (bitSize_2 : Int) (base0_8 : Bool) (s0_9 : ByteArray) (t25 : Bool) (h : Heap) : Prop :=
    BIF t25 (
    internal_strconv_ParseUint.J21 Post s_0 base_1 bitSize_2 base0_8 s0_9 h) (
    BIF (base_1 == (0 : Int)) (
    IDX (0 : Int) (ByteArray.size s_0) <|
    BIF (((byteAt s_0 (0 : Int)) == (48 : Int))) (
    BIF ((decide ((3 : Int) ≤ ((ByteArray.size s_0) : Int)))) (
    IDX (1 : Int) (ByteArray.size s_0) <|
    CALL prg f_internal_strconv_lower #[.int .u8 (byteAt s_0 (1 : Int))] (fun q5 h6 =>
    asI .u8 q5 fun n7 =>
    internal_strconv_ParseUint.J13 Post s_0 bitSize_2 base0_8 s0_9 (n7 == (98 : Int)) h6) h) (
    internal_strconv_ParseUint.J13 Post s_0 bitSize_2 base0_8 s0_9 false h)) (
    internal_strconv_ParseUint.J21 Post s_0 (10 : Int) bitSize_2 base0_8 s0_9 h)) (
    SEMV prg (Instr.makeInterface T_strconv_Error (.int .i64 (3 : Int))) (fun q8 h9 =>
    Post (.tuple ⟨[.int .u64 (0 : Int), q8]⟩) h9) h))
def internal_strconv_ParseUint.j7 (Post : Value → Heap → Prop) : Frame → Heap → Prop := fun fr h => GRD (shape (kds 172 [(0, .s), (1, .i .i64), (2, .i .i64), (8, .b), (9, .s), (25, .b)]) fr) (internal_strconv_ParseUint.J7 Post (gS (lget fr 0)) (gI (lget fr 1)) (gI (lget fr 2)) (gB (lget fr 8)) (gS (lget fr 9)) (gB (lget fr 25)) h)
def internal_strconv_ParseUint.S (s_0 : ByteArray) (base_1 : Int) (bitSize_2 : Int) (Post : Value → Heap → Prop) (h : Heap) : Prop :=
    BIF (ByteArray.toList s_0 == ByteArray.toList (⟨#[]⟩ : ByteArray)) (
    SEMV prg (Instr.makeInterface T_strconv_Error (.int .i64 (2 : Int))) (fun q1 h2 =>
    Post (.tuple ⟨[.int .u64 (0 : Int), q1]⟩) h2) h) (
    BIF ((decide ((2 : Int) ≤ base_1))) (
    internal_strconv_ParseUint.J7 Post s_0 base_1 bitSize_2 (base_1 == (0 : Int)) s_0 ((decide (base_1 ≤ (36 : Int)))) h) (
    internal_strconv_ParseUint.J7 Post s_0 base_1 bitSize_2 (base_1 == (0 : Int)) s_0 false h))
noncomputable def internal_strconv_ParseUint.code : Code := (Tryz.f197.body).getD .skip
theorem internal_strconv_ParseUint.call {s_0 : ByteArray} {base_1 : Int} {bitSize_2 : Int} {Post : Value → Heap → Prop} {h : Heap} (H : internal_strconv_ParseUint.S s_0 base_1 bitSize_2 Post h) : CALL prg f_internal_strconv_ParseUint #[.string s_0, .int .i64 base_1, .int .i64 bitSize_2] Post h :=
  fn_call tau_ok mixed (c := internal_strconv_ParseUint.code) (Λ := lookL [(21, internal_strconv_ParseUint.j21 Post), (7, internal_strconv_ParseUint.j7 Post), (13, internal_strconv_ParseUint.j13 Post), (16, internal_strconv_ParseUint.j16 Post), (25, internal_strconv_ParseUint.j25 Post), (32, internal_strconv_ParseUint.j32 Post), (1000036, internal_strconv_ParseUint.l36 Post)]) Tryz.func197 (by kernel_rfl) (by kernel_rfl)
    (Rq.seq (by kernel_rfl) (Rq.free (by kernel_rfl)) (Rq.seq (by kernel_rfl) (Rq.free (by kernel_rfl)) (Rq.seq (by kernel_rfl) (Rq.free (by kernel_rfl)) (Rq.seq (by kernel_rfl) (Rq.free (by kernel_rfl)) (Rq.seqJ (internal_strconv_ParseUint.j21 Post) (by kernel_rfl) (seg (fun _ _ => by kernel_rfl)) (Rq.block (Rq.seqJ (internal_strconv_ParseUint.j7 Post) (by kernel_rfl) (seg (fun _ _ => by kernel_rfl)) (Rq.free (by kernel_rfl))
(Rq.cond (Rq.free (by kernel_rfl)) (Rq.seq (by kernel_rfl) (Rq.free (by kernel_rfl)) (Rq.cond (Rq.seq (by kernel_rfl) (Rq.free (by kernel_rfl)) (Rq.seq (by kernel_rfl) (Rq.free (by kernel_rfl)) (Rq.cond (Rq.block (Rq.seqJ (internal_strconv_ParseUint.j13 Post) (by kernel_rfl) (seg (fun _ _ => by kernel_rfl)) (Rq.free (by kernel_rfl))
(Rq.cond (Rq.free (by kernel_rfl)) (Rq.seqJ (internal_strconv_ParseUint.j16 Post) (by kernel_rfl) (seg (fun _ _ => by kernel_rfl)) (Rq.free (by kernel_rfl))
(Rq.free (by kernel_rfl)))))) (Rq.free (by kernel_rfl))))) (Rq.free (by kernel_rfl)))))))
(Rq.seqJ (internal_strconv_ParseUint.j25 Post) (by kernel_rfl) (seg (fun _ _ => by kernel_rfl)) (Rq.free (by kernel_rfl))
(Rq.seq (by kernel_rfl) (Rq.free (by kernel_rfl)) (Rq.seqJ (internal_strconv_ParseUint.j32 Post) (by kernel_rfl) (seg (fun _ _ => by kernel_rfl)) (Rq.free (by kernel_rfl))
(Rq.seq (by kernel_rfl) (Rq.free (by kernel_rfl)) (Rq.seq (by kernel_rfl) (Rq.free (by kernel_rfl)) (Rq.seq (by kernel_rfl) (Rq.free (by kernel_rfl)) (Rq.seq (by kernel_rfl) (Rq.seq (by kernel_rfl) (Rq.free (by kernel_rfl)) (Rq.block (Rq.loop (internal_strconv_ParseUint.l36 Post) (by kernel_rfl) (segL (g := internal_strconv_ParseUint.g36) tau_ok mixed (Λ := fun N36 => lookL [(46, internal_strconv_ParseUint.j46 N36 Post), (41, internal_strconv_ParseUint.j41 N36 Post), (43, internal_strconv_ParseUint.j43 N36 Post), (45, internal_strconv_ParseUint.j45 N36 Post)]) (fun _ _ _ => by kernel_rfl) (fun N36 => (Rq.seq (by kernel_rfl) (Rq.free (by kernel_rfl)) (Rq.seq (by kernel_rfl) (Rq.free (by kernel_rfl)) (Rq.seq (by kernel_rfl) (Rq.block (Rq.seq (by kernel_rfl) (Rq.free (by kernel_rfl)) (Rq.seq (by kernel_rfl) (Rq.free (by kernel_rfl)) (Rq.seqJ (internal_strconv_ParseUint.j46 N36 Post) (by kernel_rfl) (seg (fun _ _ => by kernel_rfl)) (Rq.block (Rq.seqJ (internal_strconv_ParseUint.j41 N36 Post) (by kernel_rfl) (seg (fun _ _ => by kernel_rfl)) (Rq.free (by kernel_rfl))
(Rq.cond (Rq.free (by kernel_rfl)) (Rq.seqJ (internal_strconv_ParseUint.j43 N36 Post) (by kernel_rfl) (seg (fun _ _ => by kernel_rfl)) (Rq.free (by kernel_rfl))
(Rq.cond (Rq.free (by kernel_rfl)) (Rq.seqJ (internal_strconv_ParseUint.j45 N36 Post) (by kernel_rfl) (seg (fun _ _ => by kernel_rfl)) (Rq.free (by kernel_rfl))
(Rq.free (by kernel_rfl))))))))
(Rq.free (by kernel_rfl)))))) (Rq.free (by kernel_rfl)))))))))) (Rq.free (by kernel_rfl))))))))))))))
    (Eq.mp (by kernel_rfl) H)

end Go.Sx
