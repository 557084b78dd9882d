/- What functions of this seat's program compute, told in words (a predicate over heaps for each), and the proofs that the words are no more than the code's own weakest precondition. -/
import Derived.Test.YtnhcoeogejgidadGreatDoorTab
import Derived.Test.YtnhcoeogejgidadGreatDoorLgw
import Derived.Test.YtnhcoeogejgidadGreatDoorLg
import Derived.Test.YtnhcoeogejgidadGreatDoorLp5
namespace Go.Sx
open Go.Proofs
set_option linter.unusedVariables false
set_option maxRecDepth 100000

def internal_strconv_isPowerOfTwo.S (x_0 : Int) (Post : Value → Heap → Prop) (h : Heap) : Prop :=
    Post (.bool (((bitI .and .i64 x_0 ((IntKind.i64.wrap (x_0 - (1 : Int))))) == (0 : Int)))) h
noncomputable def internal_strconv_isPowerOfTwo.code : Code := (Tryz.f269.body).getD .skip
theorem internal_strconv_isPowerOfTwo.call {x_0 : Int} {Post : Value → Heap → Prop} {h : Heap} (H : internal_strconv_isPowerOfTwo.S x_0 Post h) : CALL prg f_internal_strconv_isPowerOfTwo #[.int .i64 x_0] Post h :=
  fn_call tau_ok mixed (c := internal_strconv_isPowerOfTwo.code) (Λ := lookL []) Tryz.func269 (by kernel_rfl) (by kernel_rfl)
    (Rq.free (by kernel_rfl))
    (Eq.mp (by kernel_rfl) H)

def internal_strconv_formatBits.J28 (Post : Value → Heap → Prop) (dst_0b : Option Addr) (dst_0l : Nat) (dst_0c : Nat) (append_4 : Bool) (d_10b : Option Addr) (d_10l : Nat) (d_10c : Nat) (s_11 : ByteArray) (a_12 : Addr) (i_13 : Int) (h : Heap) : Prop :=
    BIF append_4 (
    SLB i_13 (65 : Int) (65 : Int) <|
    SEMV prg (Builtin.append_ #[T_sl_uint8, T_sl_uint8] T_sl_uint8 #[.slice dst_0b dst_0l dst_0c, .slice ((some (slP a_12 65 (Int.toNat i_13) 1))) (65 - (Int.toNat i_13)) (65 - (Int.toNat i_13))]) (fun q26 h27 =>
    asL q26 fun l28b l28l l28c =>
    Post (.tuple ⟨[.slice l28b l28l l28c, .string s_11]⟩) h27) h) (
    SLB i_13 (65 : Int) (65 : Int) <|
    SEMV prg (convert T_sl_uint8 T_string (.slice ((some (slP a_12 65 (Int.toNat i_13) 1))) (65 - (Int.toNat i_13)) (65 - (Int.toNat i_13)))) (fun q29 h30 =>
    asS q29 fun s31 =>
    Post (.tuple ⟨[.slice d_10b d_10l d_10c, .string s31]⟩) h30) h)
def internal_strconv_formatBits.j28 (Post : Value → Heap → Prop) : Frame → Heap → Prop := fun fr h => GRD (shape (kds 102 [(0, .l), (4, .b), (10, .l), (11, .s), (12, .p), (13, .i .i64)]) fr) (internal_strconv_formatBits.J28 Post (gLb (lget fr 0)) (gLl (lget fr 0)) (gLc (lget fr 0)) (gB (lget fr 4)) (gLb (lget fr 10)) (gLl (lget fr 10)) (gLc (lget fr 10)) (gS (lget fr 11)) (gP (lget fr 12)) (gI (lget fr 13)) h)
def internal_strconv_formatBits.J25 (Post : Value → Heap → Prop) (dst_0b : Option Addr) (dst_0l : Nat) (dst_0c : Nat) (neg_3 : Bool) (append_4 : Bool) (d_10b : Option Addr) (d_10l : Nat) (d_10c : Nat) (s_11 : ByteArray) (a_12 : Addr) (i_13 : Int) (h : Heap) : Prop :=
    BIF neg_3 (
    IDX ((IntKind.i64.wrap (i_13 - (1 : Int)))) 65 <|
    ST1 h ((Addr.add a_12 ((Int.toNat ((IntKind.i64.wrap (i_13 - (1 : Int))))) * 1))) (.int .u8 (45 : Int)) fun h25 =>
    internal_strconv_formatBits.J28 Post dst_0b dst_0l dst_0c append_4 d_10b d_10l d_10c s_11 a_12 ((IntKind.i64.wrap (i_13 - (1 : Int)))) h25) (
    internal_strconv_formatBits.J28 Post dst_0b dst_0l dst_0c append_4 d_10b d_10l d_10c s_11 a_12 i_13 h)
def internal_strconv_formatBits.j25 (Post : Value → Heap → Prop) : Frame → Heap → Prop := fun fr h => GRD (shape (kds 102 [(0, .l), (3, .b), (4, .b), (10, .l), (11, .s), (12, .p), (13, .i .i64)]) fr) (internal_strconv_formatBits.J25 Post (gLb (lget fr 0)) (gLl (lget fr 0)) (gLc (lget fr 0)) (gB (lget fr 3)) (gB (lget fr 4)) (gLb (lget fr 10)) (gLl (lget fr 10)) (gLc (lget fr 10)) (gS (lget fr 11)) (gP (lget fr 12)) (gI (lget fr 13)) h)
def internal_strconv_formatBits.B11 (Post : Value → Heap → Prop) (N11 : (Option Addr × Nat × Nat × Int × Bool × Bool × Option Addr × Nat × Nat × ByteArray × Addr × Int × Int × Int × Int) → Heap → Prop) : Option Addr × Nat × Nat × Int × Bool × Bool × Option Addr × Nat × Nat × ByteArray × Addr × Int × Int × Int × Int → Heap → Prop
  | (dst_0b, dst_0l, dst_0c, u_1, neg_3, append_4, d_10b, d_10l, d_10c, s_11, a_12, i_13, shift_14, b_15, m_16), h =>
    BIF (decide (b_15 ≤ u_1)) (
    IDX (bitI .and .u64 u_1 m_16) (ByteArray.size (⟨#[48, 49, 50, 51, 52, 53, 54, 55, 56, 57, 97, 98, 99, 100, 101, 102, 103, 104, 105, 106, 107, 108, 109, 110, 111, 112, 113, 114, 115, 116, 117, 118, 119, 120, 121, 122]⟩ : ByteArray)) <|
    IDX ((IntKind.i64.wrap (i_13 - (1 : Int)))) 65 <|
    ST1 h ((Addr.add a_12 ((Int.toNat ((IntKind.i64.wrap (i_13 - (1 : Int))))) * 1))) (.int .u8 (byteAt (⟨#[48, 49, 50, 51, 52, 53, 54, 55, 56, 57, 97, 98, 99, 100, 101, 102, 103, 104, 105, 106, 107, 108, 109, 110, 111, 112, 113, 114, 115, 116, 117, 118, 119, 120, 121, 122]⟩ : ByteArray) (bitI .and .u64 u_1 m_16))) fun h21 =>
    NN shift_14 <|
    N11 (dst_0b, dst_0l, dst_0c, (shrI .u64 u_1 shift_14), neg_3, append_4, d_10b, d_10l, d_10c, s_11, a_12, ((IntKind.i64.wrap (i_13 - (1 : Int)))), shift_14, b_15, m_16) h21) (
    IDX u_1 (ByteArray.size (⟨#[48, 49, 50, 51, 52, 53, 54, 55, 56, 57, 97, 98, 99, 100, 101, 102, 103, 104, 105, 106, 107, 108, 109, 110, 111, 112, 113, 114, 115, 116, 117, 118, 119, 120, 121, 122]⟩ : ByteArray)) <|
    IDX ((IntKind.i64.wrap (i_13 - (1 : Int)))) 65 <|
    ST1 h ((Addr.add a_12 ((Int.toNat ((IntKind.i64.wrap (i_13 - (1 : Int))))) * 1))) (.int .u8 (byteAt (⟨#[48, 49, 50, 51, 52, 53, 54, 55, 56, 57, 97, 98, 99, 100, 101, 102, 103, 104, 105, 106, 107, 108, 109, 110, 111, 112, 113, 114, 115, 116, 117, 118, 119, 120, 121, 122]⟩ : ByteArray) u_1)) fun h22 =>
    internal_strconv_formatBits.J25 Post dst_0b dst_0l dst_0c neg_3 append_4 d_10b d_10l d_10c s_11 a_12 ((IntKind.i64.wrap (i_13 - (1 : Int)))) h22)
def internal_strconv_formatBits.g11 (fr : Frame) : Option Addr × Nat × Nat × Int × Bool × Bool × Option Addr × Nat × Nat × ByteArray × Addr × Int × Int × Int × Int := ((gLb (lget fr 0)), (gLl (lget fr 0)), (gLc (lget fr 0)), (gI (lget fr 1)), (gB (lget fr 3)), (gB (lget fr 4)), (gLb (lget fr 10)), (gLl (lget fr 10)), (gLc (lget fr 10)), (gS (lget fr 11)), (gP (lget fr 12)), (gI (lget fr 13)), (gI (lget fr 14)), (gI (lget fr 15)), (gI (lget fr 16)))
def internal_strconv_formatBits.l11 (Post : Value → Heap → Prop) : Frame → Heap → Prop := fun fr h => GRD (shape (kds 102 [(0, .l), (1, .i .u64), (3, .b), (4, .b), (10, .l), (11, .s), (12, .p), (13, .i .i64), (14, .i .u64), (15, .i .u64), (16, .i .u64)]) fr) (LOOP (internal_strconv_formatBits.B11 Post) (internal_strconv_formatBits.g11 fr) h)
def internal_strconv_formatBits.B18 (Post : Value → Heap → Prop) (N18 : (Option Addr × Nat × Nat × Int × Bool × Bool × Option Addr × Nat × Nat × ByteArray × Addr × Int × Int) → Heap → Prop) : Option Addr × Nat × Nat × Int × Bool × Bool × Option Addr × Nat × Nat × ByteArray × Addr × Int × Int → Heap → Prop
  | (dst_0b, dst_0l, dst_0c, u_1, neg_3, append_4, d_10b, d_10l, d_10c, s_11, a_12, i_13, b_17), h =>
    BIF (decide (b_17 ≤ u_1)) (
    NZ b_17 <|
    IDX ((IntKind.u64.wrap (u_1 - (IntKind.u64.wrap ((IntKind.u64.wrap (Int.tdiv u_1 b_17)) * b_17))))) (ByteArray.size (⟨#[48, 49, 50, 51, 52, 53, 54, 55, 56, 57, 97, 98, 99, 100, 101, 102, 103, 104, 105, 106, 107, 108, 109, 110, 111, 112, 113, 114, 115, 116, 117, 118, 119, 120, 121, 122]⟩ : ByteArray)) <|
    IDX ((IntKind.i64.wrap (i_13 - (1 : Int)))) 65 <|
    ST1 h ((Addr.add a_12 ((Int.toNat ((IntKind.i64.wrap (i_13 - (1 : Int))))) * 1))) (.int .u8 ((byteAt (⟨#[48, 49, 50, 51, 52, 53, 54, 55, 56, 57, 97, 98, 99, 100, 101, 102, 103, 104, 105, 106, 107, 108, 109, 110, 111, 112, 113, 114, 115, 116, 117, 118, 119, 120, 121, 122]⟩ : ByteArray) ((IntKind.u64.wrap (u_1 - (IntKind.u64.wrap ((IntKind.u64.wrap (Int.tdiv u_1 b_17)) * b_17)))))))) fun h23 =>
    N18 (dst_0b, dst_0l, dst_0c, (IntKind.u64.wrap (Int.tdiv u_1 b_17)), neg_3, append_4, d_10b, d_10l, d_10c, s_11, a_12, ((IntKind.i64.wrap (i_13 - (1 : Int)))), b_17) h23) (
    IDX u_1 (ByteArray.size (⟨#[48, 49, 50, 51, 52, 53, 54, 55, 56, 57, 97, 98, 99, 100, 101, 102, 103, 104, 105, 106, 107, 108, 109, 110, 111, 112, 113, 114, 115, 116, 117, 118, 119, 120, 121, 122]⟩ : ByteArray)) <|
    IDX ((IntKind.i64.wrap (i_13 - (1 : Int)))) 65 <|
    ST1 h ((Addr.add a_12 ((Int.toNat ((IntKind.i64.wrap (i_13 - (1 : Int))))) * 1))) (.int .u8 (byteAt (⟨#[48, 49, 50, 51, 52, 53, 54, 55, 56, 57, 97, 98, 99, 100, 101, 102, 103, 104, 105, 106, 107, 108, 109, 110, 111, 112, 113, 114, 115, 116, 117, 118, 119, 120, 121, 122]⟩ : ByteArray) u_1)) fun h24 =>
    internal_strconv_formatBits.J25 Post dst_0b dst_0l dst_0c neg_3 append_4 d_10b d_10l d_10c s_11 a_12 ((IntKind.i64.wrap (i_13 - (1 : Int)))) h24)
def internal_strconv_formatBits.g18 (fr : Frame) : Option Addr × Nat × Nat × Int × Bool × Bool × Option Addr × Nat × Nat × ByteArray × Addr × Int × Int := ((gLb (lget fr 0)), (gLl (lget fr 0)), (gLc (lget fr 0)), (gI (lget fr 1)), (gB (lget fr 3)), (gB (lget fr 4)), (gLb (lget fr 10)), (gLl (lget fr 10)), (gLc (lget fr 10)), (gS (lget fr 11)), (gP (lget fr 12)), (gI (lget fr 13)), (gI (lget fr 17)))
def internal_strconv_formatBits.l18 (Post : Value → Heap → Prop) : Frame → Heap → Prop := fun fr h => GRD (shape (kds 102 [(0, .l), (1, .i .u64), (3, .b), (4, .b), (10, .l), (11, .s), (12, .p), (13, .i .i64), (17, .i .u64)]) fr) (LOOP (internal_strconv_formatBits.B18 Post) (internal_strconv_formatBits.g18 fr) h)
def internal_strconv_formatBits.J7 (Post : Value → Heap → Prop) (dst_0b : Option Addr) (dst_0l : Nat) (dst_0c : Nat) (u_1 : Int) (base_2 : Int) (neg_3 : Bool) (append_4 : Bool) (d_10b : Option Addr) (d_10l : Nat) (d_10c : Nat) (s_11 : ByteArray) (a_12 : Addr) (i_13 : Int) (h : Heap) : Prop :=
    CALL prg f_internal_strconv_isPowerOfTwo #[.int .i64 base_2] (fun q15 h16 =>
    asB q15 fun b17 =>
    BIF b17 (
    CALL prg f_math_bits_TrailingZeros #[.int .u64 (IntKind.u64.wrap base_2)] (fun q18 h19 =>
    asI .i64 q18 fun n20 =>
    LOOP (internal_strconv_formatBits.B11 Post) (dst_0b, dst_0l, dst_0c, u_1, neg_3, append_4, d_10b, d_10l, d_10c, s_11, a_12, i_13, (IntKind.u64.wrap n20), (IntKind.u64.wrap base_2), ((IntKind.u64.wrap ((IntKind.u64.wrap base_2) - (1 : Int))))) h19) h16) (
    LOOP (internal_strconv_formatBits.B18 Post) (dst_0b, dst_0l, dst_0c, u_1, neg_3, append_4, d_10b, d_10l, d_10c, s_11, a_12, i_13, (IntKind.u64.wrap base_2)) h16)) h
def internal_strconv_formatBits.j7 (Post : Value → Heap → Prop) : Frame → Heap → Prop := fun fr h => GRD (shape (kds 102 [(0, .l), (1, .i .u64), (2, .i .i64), (3, .b), (4, .b), (10, .l), (11, .s), (12, .p), (13, .i .i64)]) fr) (internal_strconv_formatBits.J7 Post (gLb (lget fr 0)) (gLl (lget fr 0)) (gLc (lget fr 0)) (gI (lget fr 1)) (gI (lget fr 2)) (gB (lget fr 3)) (gB (lget fr 4)) (gLb (lget fr 10)) (gLl (lget fr 10)) (gLc (lget fr 10)) (gS (lget fr 11)) (gP (lget fr 12)) (gI (lget fr 13)) h)
def internal_strconv_formatBits.J3 (Post : Value → Heap → Prop) (dst_0b : Option Addr) (dst_0l : Nat) (dst_0c : Nat) (u_1 : Int) (base_2 : Int) (neg_3 : Bool) (append_4 : Bool) (d_10b : Option Addr) (d_10l : Nat) (d_10c : Nat) (s_11 : ByteArray) (h : Heap) : Prop :=
    ALC ⟨Z_65_uint8⟩ T_65_uint8 (fun g13 h14 =>
    BIF neg_3 (
    internal_strconv_formatBits.J7 Post dst_0b dst_0l dst_0c (IntKind.u64.wrap (0 - u_1)) base_2 neg_3 append_4 d_10b d_10l d_10c s_11 ⟨g13, 0, none⟩ (65 : Int) h14) (
    internal_strconv_formatBits.J7 Post dst_0b dst_0l dst_0c u_1 base_2 neg_3 append_4 d_10b d_10l d_10c s_11 ⟨g13, 0, none⟩ (65 : Int) h14)) h
def internal_strconv_formatBits.j3 (Post : Value → Heap → Prop) : Frame → Heap → Prop := fun fr h => GRD (shape (kds 102 [(0, .l), (1, .i .u64), (2, .i .i64), (3, .b), (4, .b), (10, .l), (11, .s)]) fr) (internal_strconv_formatBits.J3 Post (gLb (lget fr 0)) (gLl (lget fr 0)) (gLc (lget fr 0)) (gI (lget fr 1)) (gI (lget fr 2)) (gB (lget fr 3)) (gB (lget fr 4)) (gLb (lget fr 10)) (gLl (lget fr 10)) (gLc (lget fr 10)) (gS (lget fr 11)) h)
def internal_strconv_formatBits.S (dst_0b : Option Addr) (dst_0l dst_0c : Nat) (u_1 : Int) (base_2 : Int) (neg_3 : Bool) (append_4 : Bool) (Post : Value → Heap → Prop) (h : Heap) : Prop :=
    BIF ((decide (base_2 < (2 : Int)))) (
    SEMV prg (Instr.makeInterface T_string (.string (⟨#[115, 116, 114, 99, 111, 110, 118, 58, 32, 105, 108, 108, 101, 103, 97, 108, 32, 65, 112, 112, 101, 110, 100, 73, 110, 116, 47, 70, 111, 114, 109, 97, 116, 73, 110, 116, 32, 98, 97, 115, 101]⟩ : ByteArray))) (fun q1 h2 =>
    SEMV prg (Instr.panic q1) (fun q3 h4 =>
    internal_strconv_formatBits.J3 Post dst_0b dst_0l dst_0c u_1 base_2 neg_3 append_4 none 0 0 (⟨#[]⟩ : ByteArray) h4) h2) h) (
    BIF (base_2 == (10 : Int)) (
    SEMV prg (Instr.makeInterface T_string (.string (⟨#[115, 116, 114, 99, 111, 110, 118, 58, 32, 105, 108, 108, 101, 103, 97, 108, 32, 65, 112, 112, 101, 110, 100, 73, 110, 116, 47, 70, 111, 114, 109, 97, 116, 73, 110, 116, 32, 98, 97, 115, 101]⟩ : ByteArray))) (fun q5 h6 =>
    SEMV prg (Instr.panic q5) (fun q7 h8 =>
    internal_strconv_formatBits.J3 Post dst_0b dst_0l dst_0c u_1 base_2 neg_3 append_4 none 0 0 (⟨#[]⟩ : ByteArray) h8) h6) h) (
    BIF ((decide ((36 : Int) < base_2))) (
    SEMV prg (Instr.makeInterface T_string (.string (⟨#[115, 116, 114, 99, 111, 110, 118, 58, 32, 105, 108, 108, 101, 103, 97, 108, 32, 65, 112, 112, 101, 110, 100, 73, 110, 116, 47, 70, 111, 114, 109, 97, 116, 73, 110, 116, 32, 98, 97, 115, 101]⟩ : ByteArray))) (fun q9 h10 =>
    SEMV prg (Instr.panic q9) (fun q11 h12 =>
    internal_strconv_formatBits.J3 Post dst_0b dst_0l dst_0c u_1 base_2 neg_3 append_4 none 0 0 (⟨#[]⟩ : ByteArray) h12) h10) h) (
    internal_strconv_formatBits.J3 Post dst_0b dst_0l dst_0c u_1 base_2 neg_3 append_4 none 0 0 (⟨#[]⟩ : ByteArray) h)))
noncomputable def internal_strconv_formatBits.code : Code := (Tryz.f229.body).getD .skip
theorem internal_strconv_formatBits.call {dst_0b : Option Addr} {dst_0l dst_0c : Nat} {u_1 : Int} {base_2 : Int} {neg_3 : Bool} {append_4 : Bool} {Post : Value → Heap → Prop} {h : Heap} (H : internal_strconv_formatBits.S dst_0b dst_0l dst_0c u_1 base_2 neg_3 append_4 Post h) : CALL prg f_internal_strconv_formatBits #[.slice dst_0b dst_0l dst_0c, .int .u64 u_1, .int .i64 base_2, .bool neg_3, .bool append_4] Post h :=
  fn_call tau_ok mixed (c := internal_strconv_formatBits.code) (Λ := lookL [(3, internal_strconv_formatBits.j3 Post), (7, internal_strconv_formatBits.j7 Post), (25, internal_strconv_formatBits.j25 Post), (1000011, internal_strconv_formatBits.l11 Post), (1000018, internal_strconv_formatBits.l18 Post), (28, internal_strconv_formatBits.j28 Post)]) Tryz.func229 (by kernel_rfl) (by kernel_rfl)
    (Rq.seq (by kernel_rfl) (Rq.free (by kernel_rfl)) (Rq.seqJ (internal_strconv_formatBits.j3 Post) (by kernel_rfl) (seg (fun _ _ => by kernel_rfl)) (Rq.free (by kernel_rfl))
(Rq.seq (by kernel_rfl) (Rq.free (by kernel_rfl)) (Rq.seq (by kernel_rfl) (Rq.free (by kernel_rfl)) (Rq.seqJ (internal_strconv_formatBits.j7 Post) (by kernel_rfl) (seg (fun _ _ => by kernel_rfl)) (Rq.free (by kernel_rfl))
(Rq.seqJ (internal_strconv_formatBits.j25 Post) (by kernel_rfl) (seg (fun _ _ => by kernel_rfl)) (Rq.seq (by kernel_rfl) (Rq.free (by kernel_rfl)) (Rq.cond (Rq.seq (by kernel_rfl) (Rq.free (by kernel_rfl)) (Rq.seq (by kernel_rfl) (Rq.free (by kernel_rfl)) (Rq.seq (by kernel_rfl) (Rq.free (by kernel_rfl)) (Rq.seq (by kernel_rfl) (Rq.block (Rq.loop (internal_strconv_formatBits.l11 Post) (by kernel_rfl) (segL (g := internal_strconv_formatBits.g11) tau_ok mixed (Λ := fun N11 => lookL []) (fun _ _ _ => by kernel_rfl) (fun N11 => (Rq.free (by kernel_rfl)))))) (Rq.free (by kernel_rfl)))))) (Rq.seq (by kernel_rfl) (Rq.free (by kernel_rfl)) (Rq.seq (by kernel_rfl) (Rq.block (Rq.loop (internal_strconv_formatBits.l18 Post) (by kernel_rfl) (segL (g := internal_strconv_formatBits.g18) tau_ok mixed (Λ := fun N18 => lookL []) (fun _ _ _ => by kernel_rfl) (fun N18 => (Rq.free (by kernel_rfl)))))) (Rq.free (by kernel_rfl))))))
(Rq.seqJ (internal_strconv_formatBits.j28 Post) (by kernel_rfl) (seg (fun _ _ => by kernel_rfl)) (Rq.free (by kernel_rfl))
(Rq.free (by kernel_rfl)))))))))
    (Eq.mp (by kernel_rfl) H)

end Go.Sx
/- Whole numbers as hexadecimal digits: the library's, walked. -/
set_option linter.unusedVariables false
set_option linter.unusedSimpArgs false
namespace Go.Sx
open Go.Proofs
set_option maxRecDepth 100000
set_option maxHeartbeats 1000000

def hexD (k : Nat) : UInt8 := UInt8.ofNat (if k < 10 then 48 + k else 87 + k)
def hexL (u : Nat) : List UInt8 := if h : u < 16 then [hexD u] else hexL (u / 16) ++ [hexD (u % 16)]
termination_by u
decreasing_by omega
theorem hexL_small {u : Nat} (h : u < 16) : hexL u = [hexD u] := by rw [hexL, dif_pos h]
theorem hexL_step {u : Nat} (h : ¬ u < 16) : hexL u = hexL (u / 16) ++ [hexD (u % 16)] := by rw [hexL, dif_neg h]
theorem hexL_pos (u : Nat) : 1 ≤ (hexL u).length := by
  by_cases h : u < 16
  · rw [hexL_small h]; simp
  · rw [hexL_step h]; simp
theorem hexL_le : ∀ (k u : Nat), u < 16 ^ (k + 1) → (hexL u).length ≤ k + 1
  | 0, u, h => by rw [hexL_small (by simpa using h)]; simp
  | k + 1, u, h => by
    by_cases hu : u < 16
    · rw [hexL_small hu]; simp
    · rw [hexL_step hu]
      have := hexL_le k (u / 16) (by rw [Nat.pow_succ] at h; omega)
      simp; omega
/-- The tables of the library's that the counting of zeros reads. -/
def Bru (h : Heap) : Prop := ∀ w : World, Ext h w.heap → TabAt (R27.g 1) Lib.deBruijn64tab w
theorem Bru.ext {h h' : Heap} (T : Bru h) (X : Ext h h') : Bru h' := fun w Y => T w (X.trans Y)
theorem and15 {u : Nat} (h : u < 18446744073709551616) : bitI .and .u64 (u : Int) 15 = ((u % 16 : Nat) : Int) := by
  simp only [bitI]
  have e1 : (BitVec.ofInt IntKind.u64.bits (u : Int)).toNat = u := by
    rw [BitVec.ofInt_natCast, BitVec.toNat_ofNat]
    exact Nat.mod_eq_of_lt h
  have e2 : (BitVec.ofInt IntKind.u64.bits (15 : Int)).toNat = 15 := by decide
  rw [BitVec.toNat_and, e1, e2, show (15 : Nat) = 2 ^ 4 - 1 from rfl, Nat.and_two_pow_sub_one_eq_mod]
  unfold IntKind.wrap
  show ((u % 2 ^ 4 : Nat) : Int) % 2 ^ 64 = _
  omega
theorem shr4 (u : Nat) : shrI .u64 (u : Int) 4 = ((u / 16 : Nat) : Int) := by
  unfold shrI
  show (u : Int).fdiv (2 ^ 4) = _
  rw [Int.fdiv_eq_ediv_of_nonneg _ (by decide)]
  omega
def dig36 : ByteArray := ⟨#[48, 49, 50, 51, 52, 53, 54, 55, 56, 57, 97, 98, 99, 100, 101, 102, 103, 104, 105, 106, 107, 108, 109, 110, 111, 112, 113, 114, 115, 116, 117, 118, 119, 120, 121, 122]⟩
theorem dig_get {k : Nat} (h : k < 16) : byteAt dig36 (k : Int) = ((hexD k).toNat : Int) := by
  have : ∀ k : Fin 16, byteAt dig36 ((k.val : Nat) : Int) = ((hexD k.val).toNat : Int) := by decide +kernel
  exact this ⟨k, h⟩
def u8v (b : UInt8) : Value := .int .u8 (b.toNat : Int)
def padB (i : Nat) (l : List UInt8) : Array Value := ⟨List.replicate i (.int .u8 (0 : Int)) ++ l.map u8v⟩
section
variable {h0 h : Heap} {L : List Blk}
theorem pad_st {g i : Nat} {l : List UInt8} {b : UInt8} {F : Heap → Prop} (M : Mem h0 h ((g, T_65_uint8, padB (i + 1) l) :: L)) (H : ∀ h', Mem h0 h' ((g, T_65_uint8, padB i (b :: l)) :: L) → F h') : ST1 h ⟨g, i, none⟩ (.int .u8 (b.toNat : Int)) F := by
  have e : padB (i + 1) l = ⟨List.replicate i (.int .u8 (0 : Int)) ++ ([.int .u8 (0 : Int)] ++ l.map u8v)⟩ := by
    unfold padB; rw [List.replicate_succ', List.append_assoc]
  rw [e] at M
  exact M.st1M (by simp) fun h' M => H h' M
theorem Trailing16 (T : Bru h) : CALL prg f_math_bits_TrailingZeros #[.int .u64 16] (fun u h' => u = .int .i64 4 ∧ Ext h h') h := by
  refine CALL_of_calls L27.f27 rfl rfl fun w hw => ?_
  subst hw
  refine (Any7.bits_TrailingZeros L27 16 (by decide) w fun _ => T w (Ext.refl _)).mono ?_
  rintro e w' ⟨rfl, rfl⟩
  exact ⟨_, rfl, Same.refl _, by rw [show Lib.ctz 64 16 = 4 by decide]; rfl, Ext.refl _⟩
theorem bstr_mk (l : List UInt8) : bstr (l.map fun b => (b.toNat : Int)) = mkB l := by
  have e : ((l.map fun b => (b.toNat : Int)).map fun n => UInt8.ofNat n.toNat) = l := by
    rw [List.map_map]
    conv => rhs; rw [← List.map_id l]
    refine List.map_congr_left fun b _ => ?_
    show UInt8.ofNat b.toNat = b
    simp
  unfold bstr
  rw [e]
theorem formatBits16_c {u : Nat} (hu : u < 18446744073709551616) (T : Bru h) : CALL prg f_internal_strconv_formatBits #[.slice none 0 0, .int .u64 (u : Int), .int .i64 16, .bool false, .bool false] (fun v h' => v = .tuple ⟨[.slice none 0 0, .string (mkB (hexL u))]⟩ ∧ Ext h h') h := by
  refine internal_strconv_formatBits.call (br_f rfl (br_f rfl (br_f rfl ?_)))
  unfold internal_strconv_formatBits.J3
  refine (Mem.start h).alc fun g h1 x1 M => br_f rfl ?_
  unfold internal_strconv_formatBits.J7
  refine internal_strconv_isPowerOfTwo.call ?_
  unfold internal_strconv_isPowerOfTwo.S
  refine as_b (br_t (by decide) ?_)
  rw [show IntKind.u64.wrap (16 : Int) = 16 by decide]
  refine goM M (Trailing16 (T.ext M.ext)) fun h2 M => as_i ?_
  rw [show IntKind.u64.wrap (4 : Int) = 4 by decide, show IntKind.u64.wrap ((16 : Int) - 1) = 15 by decide]
  have M : Mem h h2 [(g, T_65_uint8, padB 65 [])] := M
  have J : ∀ {hh : Heap} {i : Nat} {l : List UInt8}, i + l.length = 65 → 1 ≤ l.length → l = hexL u → Mem h hh [(g, T_65_uint8, padB i l)] → internal_strconv_formatBits.J25 (fun v h' => v = .tuple ⟨[.slice none 0 0, .string (mkB (hexL u))]⟩ ∧ Ext h h') none 0 0 false false none 0 0 (⟨#[]⟩ : ByteArray) ⟨g, 0, none⟩ (i : Int) hh := fun {hh i l} hi hl e M => by
    unfold internal_strconv_formatBits.J25
    refine br_f rfl ?_
    unfold internal_strconv_formatBits.J28
    refine br_f rfl (slb (by omega) (by omega) (by omega) ?_)
    rw [Int.toNat_natCast]
    have es : slP ⟨g, 0, none⟩ 65 i 1 = ⟨g, i, none⟩ := by unfold slP; rw [if_neg (by omega), add_none]; simp
    rw [es]
    refine bytes_str (xs := l.map fun b => (b.toNat : Int)) U_sl_uint8 U_uint8 U_string (fun j hj => ⟨_, rfl, ?_⟩) (by rw [List.length_map]; omega) (as_s ⟨?_, M.ext⟩)
    · rw [add_none, M.cell .here]
      unfold padB iv
      rw [List.getElem?_toArray, List.getElem?_append_right (by rw [List.length_replicate]; omega), List.length_replicate, Nat.add_sub_cancel_left, List.map_map]
      rfl
    · rw [bstr_mk, e]
  refine loop (fun y hh => ∃ (i v : Nat) (l : List UInt8), y = (none, 0, 0, (v : Int), false, false, none, 0, 0, (⟨#[]⟩ : ByteArray), ⟨g, 0, none⟩, (i : Int), 4, 16, 15) ∧ 49 ≤ i ∧ v < 16 ^ (i - 49) ∧ v ≤ u ∧ i + l.length = 65 ∧ hexL u = hexL v ++ l ∧ Mem h hh [(g, T_65_uint8, padB i l)]) (fun y => y.2.2.2.1.toNat)
    ⟨65, u, [], rfl, by omega, by show u < 16 ^ 16; exact hu, by omega, rfl, by simp, M⟩ ?_
  rintro y hh ⟨i, v, l, rfl, hi, hv, hvu, hl, e, M⟩
  have hi2 : 50 ≤ i := by
    rcases Nat.lt_or_ge i 50 with h' | h'
    · have : i - 49 = 0 := by omega
      rw [this] at hv
      have hv0 : v = 0 := by simpa using hv
      subst hv0
      have h1 := hexL_le 15 u (by exact hu)
      rw [e, List.length_append] at h1
      have := hexL_pos 0
      omega
    · exact h'
  refine brd (fun hc => ?_) fun hc => ?_
  · rw [and15 (by omega)]
    refine idx (by omega) (by show ((v % 16 : Nat) : Int) < 36; omega) (idx (by rw [wrap64 (by omega) (by omega)]; omega) (by rw [wrap64 (by omega) (by omega)]; omega) ?_)
    rw [wrap64 (by omega) (by omega), show ((i : Int) - 1) = ((i - 1 : Nat) : Int) by omega, Int.toNat_natCast, add_none, Nat.zero_add, Nat.mul_one]
    rw [show byteAt (⟨#[48, 49, 50, 51, 52, 53, 54, 55, 56, 57, 97, 98, 99, 100, 101, 102, 103, 104, 105, 106, 107, 108, 109, 110, 111, 112, 113, 114, 115, 116, 117, 118, 119, 120, 121, 122]⟩ : ByteArray) ((v % 16 : Nat) : Int) = ((hexD (v % 16)).toNat : Int) from dig_get (Nat.mod_lt _ (by decide))]
    obtain ⟨q, rfl⟩ : ∃ q, i = q + 1 := ⟨i - 1, by omega⟩
    rw [Nat.add_sub_cancel]
    refine pad_st M fun h3 M => nn (by omega) ?_
    rw [shr4]
    have hv16 : ¬ v < 16 := by omega
    refine ⟨⟨q, v / 16, hexD (v % 16) :: l, rfl, by omega, ?_, by omega, by simp; omega, by rw [e, hexL_step hv16, List.append_assoc]; rfl, M⟩, by show _ < _; simp; omega⟩
    have : q + 1 - 49 = (q - 49) + 1 := by omega
    rw [this, Nat.pow_succ] at hv
    omega
  · have hv16 : v < 16 := by omega
    refine idx (by omega) (by show (v : Int) < 36; omega) (idx (by rw [wrap64 (by omega) (by omega)]; omega) (by rw [wrap64 (by omega) (by omega)]; omega) ?_)
    rw [wrap64 (by omega) (by omega), show ((i : Int) - 1) = ((i - 1 : Nat) : Int) by omega, Int.toNat_natCast, add_none, Nat.zero_add, Nat.mul_one]
    rw [show byteAt (⟨#[48, 49, 50, 51, 52, 53, 54, 55, 56, 57, 97, 98, 99, 100, 101, 102, 103, 104, 105, 106, 107, 108, 109, 110, 111, 112, 113, 114, 115, 116, 117, 118, 119, 120, 121, 122]⟩ : ByteArray) (v : Int) = ((hexD v).toNat : Int) from dig_get hv16]
    obtain ⟨q, rfl⟩ : ∃ q, i = q + 1 := ⟨i - 1, by omega⟩
    rw [Nat.add_sub_cancel]
    exact pad_st M fun h3 M => J (l := hexD v :: l) (by simp; omega) (by simp) (by rw [e, hexL_small hv16]; rfl) M
end
end Go.Sx
