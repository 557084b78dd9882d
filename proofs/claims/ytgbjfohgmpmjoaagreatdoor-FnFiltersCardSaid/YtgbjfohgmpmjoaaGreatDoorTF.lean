/- What functions of this seat's program compute, told in words (a predicate over heaps for each), and the proofs that the words are no more than the code's own weakest precondition. -/
import Derived.Test.YtgbjfohgmpmjoaaGreatDoorTab
namespace Go.Sx
open Go.Proofs
set_option linter.unusedVariables false
set_option maxRecDepth 100000

def internal_strconv_isPowerOfTwo.S (x_0 : Int) (Post : Value → Heap → Prop) (h : Heap) : Prop :=
    Post (.bool (((bitI .and .i64 x_0 ((IntKind.i64.wrap (x_0 - (1 : Int))))) == (0 : Int)))) h
noncomputable def internal_strconv_isPowerOfTwo.code : Code := (Tryz.f154.body).getD .skip
theorem internal_strconv_isPowerOfTwo.call {x_0 : Int} {Post : Value → Heap → Prop} {h : Heap} (H : internal_strconv_isPowerOfTwo.S x_0 Post h) : CALL prg f_internal_strconv_isPowerOfTwo #[.int .i64 x_0] Post h :=
  fn_call tau_ok mixed (c := internal_strconv_isPowerOfTwo.code) (Λ := lookL []) Tryz.func154 (by kernel_rfl) (by kernel_rfl)
    (Rq.free (by kernel_rfl))
    (Eq.mp (by kernel_rfl) H)

def internal_strconv_formatBits.J28 (Post : Value → Heap → Prop) (dst_0b : Option Addr) (dst_0l : Nat) (dst_0c : Nat) (append_4 : Bool) (d_10b : Option Addr) (d_10l : Nat) (d_10c : Nat) (s_11 : ByteArray) (a_12 : Addr) (i_13 : Int) (h : Heap) : Prop :=
    BIF append_4 (
    SLB i_13 (65 : Int) (65 : Int) <|
    SEMV prg (Builtin.append_ #[T_sl_uint8, T_sl_uint8] T_sl_uint8 #[.slice dst_0b dst_0l dst_0c, .slice ((some (slP a_12 65 (Int.toNat i_13) 1))) (65 - (Int.toNat i_13)) (65 - (Int.toNat i_13))]) (fun q26 h27 =>
    asL q26 fun l28b l28l l28c =>
    Post (.tuple ⟨[.slice l28b l28l l28c, .string s_11]⟩) h27) h) (
    SLB i_13 (65 : Int) (65 : Int) <|
    SEMV prg (convert T_sl_uint8 T_string (.slice ((some (slP a_12 65 (Int.toNat i_13) 1))) (65 - (Int.toNat i_13)) (65 - (Int.toNat i_13)))) (fun q29 h30 =>
    asS q29 fun s31 =>
    Post (.tuple ⟨[.slice d_10b d_10l d_10c, .string s31]⟩) h30) h)
def internal_strconv_formatBits.j28 (Post : Value → Heap → Prop) : Frame → Heap → Prop := fun fr h => GRD (shape (kds 102 [(0, .l), (4, .b), (10, .l), (11, .s), (12, .p), (13, .i .i64)]) fr) (internal_strconv_formatBits.J28 Post (gLb (lget fr 0)) (gLl (lget fr 0)) (gLc (lget fr 0)) (gB (lget fr 4)) (gLb (lget fr 10)) (gLl (lget fr 10)) (gLc (lget fr 10)) (gS (lget fr 11)) (gP (lget fr 12)) (gI (lget fr 13)) h)
def internal_strconv_formatBits.J25 (Post : Value → Heap → Prop) (dst_0b : Option Addr) (dst_0l : Nat) (dst_0c : Nat) (neg_3 : Bool) (append_4 : Bool) (d_10b : Option Addr) (d_10l : Nat) (d_10c : Nat) (s_11 : ByteArray) (a_12 : Addr) (i_13 : Int) (h : Heap) : Prop :=
    BIF neg_3 (
    IDX ((IntKind.i64.wrap (i_13 - (1 : Int)))) 65 <|
    ST1 h ((Addr.add a_12 ((Int.toNat ((IntKind.i64.wrap (i_13 - (1 : Int))))) * 1))) (.int .u8 (45 : Int)) fun h25 =>
    internal_strconv_formatBits.J28 Post dst_0b dst_0l dst_0c append_4 d_10b d_10l d_10c s_11 a_12 ((IntKind.i64.wrap (i_13 - (1 : Int)))) h25) (
    internal_strconv_formatBits.J28 Post dst_0b dst_0l dst_0c append_4 d_10b d_10l d_10c s_11 a_12 i_13 h)
def internal_strconv_formatBits.j25 (Post : Value → Heap → Prop) : Frame → Heap → Prop := fun fr h => GRD (shape (kds 102 [(0, .l), (3, .b), (4, .b), (10, .l), (11, .s), (12, .p), (13, .i .i64)]) fr) (internal_strconv_formatBits.J25 Post (gLb (lget fr 0)) (gLl (lget fr 0)) (gLc (lget fr 0)) (gB (lget fr 3)) (gB (lget fr 4)) (gLb (lget fr 10)) (gLl (lget fr 10)) (gLc (lget fr 10)) (gS (lget fr 11)) (gP (lget fr 12)) (gI (lget fr 13)) h)
def internal_strconv_formatBits.B11 (Post : Value → Heap → Prop) (N11 : (Option Addr × Nat × Nat × Int × Bool × Bool × Option Addr × Nat × Nat × ByteArray × Addr × Int × Int × Int × Int) → Heap → Prop) : Option Addr × Nat × Nat × Int × Bool × Bool × Option Addr × Nat × Nat × ByteArray × Addr × Int × Int × Int × Int → Heap → Prop
  | (dst_0b, dst_0l, dst_0c, u_1, neg_3, append_4, d_10b, d_10l, d_10c, s_11, a_12, i_13, shift_14, b_15, m_16), h =>
    BIF (decide (b_15 ≤ u_1)) (
    IDX (bitI .and .u64 u_1 m_16) (ByteArray.size (⟨#[48, 49, 50, 51, 52, 53, 54, 55, 56, 57, 97, 98, 99, 100, 101, 102, 103, 104, 105, 106, 107, 108, 109, 110, 111, 112, 113, 114, 115, 116, 117, 118, 119, 120, 121, 122]⟩ : ByteArray)) <|
    IDX ((IntKind.i64.wrap (i_13 - (1 : Int)))) 65 <|
    ST1 h ((Addr.add a_12 ((Int.toNat ((IntKind.i64.wrap (i_13 - (1 : Int))))) * 1))) (.int .u8 (byteAt (⟨#[48, 49, 50, 51, 52, 53, 54, 55, 56, 57, 97, 98, 99, 100, 101, 102, 103, 104, 105, 106, 107, 108, 109, 110, 111, 112, 113, 114, 115, 116, 117, 118, 119, 120, 121, 122]⟩ : ByteArray) (bitI .and .u64 u_1 m_16))) fun h21 =>
    NN shift_14 <|
    N11 (dst_0b, dst_0l, dst_0c, (shrI .u64 u_1 shift_14), neg_3, append_4, d_10b, d_10l, d_10c, s_11, a_12, ((IntKind.i64.wrap (i_13 - (1 : Int)))), shift_14, b_15, m_16) h21) (
    IDX u_1 (ByteArray.size (⟨#[48, 49, 50, 51, 52, 53, 54, 55, 56, 57, 97, 98, 99, 100, 101, 102, 103, 104, 105, 106, 107, 108, 109, 110, 111, 112, 113, 114, 115, 116, 117, 118, 119, 120, 121, 122]⟩ : ByteArray)) <|
    IDX ((IntKind.i64.wrap (i_13 - (1 : Int)))) 65 <|
    ST1 h ((Addr.add a_12 ((Int.toNat ((IntKind.i64.wrap (i_13 - (1 : Int))))) * 1))) (.int .u8 (byteAt (⟨#[48, 49, 50, 51, 52, 53, 54, 55, 56, 57, 97, 98, 99, 100, 101, 102, 103, 104, 105, 106, 107, 108, 109, 110, 111, 112, 113, 114, 115, 116, 117, 118, 119, 120, 121, 122]⟩ : ByteArray) u_1)) fun h22 =>
    internal_strconv_formatBits.J25 Post dst_0b dst_0l dst_0c neg_3 append_4 d_10b d_10l d_10c s_11 a_12 ((IntKind.i64.wrap (i_13 - (1 : Int)))) h22)
def internal_strconv_formatBits.g11 (fr : Frame) : Option Addr × Nat × Nat × Int × Bool × Bool × Option Addr × Nat × Nat × ByteArray × Addr × Int × Int × Int × Int := ((gLb (lget fr 0)), (gLl (lget fr 0)), (gLc (lget fr 0)), (gI (lget fr 1)), (gB (lget fr 3)), (gB (lget fr 4)), (gLb (lget fr 10)), (gLl (lget fr 10)), (gLc (lget fr 10)), (gS (lget fr 11)), (gP (lget fr 12)), (gI (lget fr 13)), (gI (lget fr 14)), (gI (lget fr 15)), (gI (lget fr 16)))
def internal_strconv_formatBits.l11 (Post : Value → Heap → Prop) : Frame → Heap → Prop := fun fr h => GRD (shape (kds 102 [(0, .l), (1, .i .u64), (3, .b), (4, .b), (10, .l), (11, .s), (12, .p), (13, .i .i64), (14, .i .u64), (15, .i .u64), (16, .i .u64)]) fr) (LOOP (internal_strconv_formatBits.B11 Post) (internal_strconv_formatBits.g11 fr) h)
def internal_strconv_formatBits.B18 (Post : Value → Heap → Prop) (N18 : (Option Addr × Nat × Nat × Int × Bool × Bool × Option Addr × Nat × Nat × ByteArray × Addr × Int × Int) → Heap → Prop) : Option Addr × Nat × Nat × Int × Bool × Bool × Option Addr × Nat × Nat × ByteArray × Addr × Int × Int → Heap → Prop
  | (dst_0b, dst_0l, dst_0c, u_1, neg_3, append_4, d_10b, d_10l, d_10c, s_11, a_12, i_13, b_17), h =>
    BIF (decide (b_17 ≤ u_1)) (
    NZ b_17 <|
    IDX ((IntKind.u64.wrap (u_1 - (IntKind.u64.wrap ((IntKind.u64.wrap (Int.tdiv u_1 b_17)) * b_17))))) (ByteArray.size (⟨#[48, 49, 50, 51, 52, 53, 54, 55, 56, 57, 97, 98, 99, 100, 101, 102, 103, 104, 105, 106, 107, 108, 109, 110, 111, 112, 113, 114, 115, 116, 117, 118, 119, 120, 121, 122]⟩ : ByteArray)) <|
    IDX ((IntKind.i64.wrap (i_13 - (1 : Int)))) 65 <|
    ST1 h ((Addr.add a_12 ((Int.toNat ((IntKind.i64.wrap (i_13 - (1 : Int))))) * 1))) (.int .u8 ((byteAt (⟨#[48, 49, 50, 51, 52, 53, 54, 55, 56, 57, 97, 98, 99, 100, 101, 102, 103, 104, 105, 106, 107, 108, 109, 110, 111, 112, 113, 114, 115, 116, 117, 118, 119, 120, 121, 122]⟩ : ByteArray) ((IntKind.u64.wrap (u_1 - (IntKind.u64.wrap ((IntKind.u64.wrap (Int.tdiv u_1 b_17)) * b_17)))))))) fun h23 =>
    N18 (dst_0b, dst_0l, dst_0c, (IntKind.u64.wrap (Int.tdiv u_1 b_17)), neg_3, append_4, d_10b, d_10l, d_10c, s_11, a_12, ((IntKind.i64.wrap (i_13 - (1 : Int)))), b_17) h23) (
    IDX u_1 (ByteArray.size (⟨#[48, 49, 50, 51, 52, 53, 54, 55, 56, 57, 97, 98, 99, 100, 101, 102, 103, 104, 105, 106, 107, 108, 109, 110, 111, 112, 113, 114, 115, 116, 117, 118, 119, 120, 121, 122]⟩ : ByteArray)) <|
    IDX ((IntKind.i64.wrap (i_13 - (1 : Int)))) 65 <|
    ST1 h ((Addr.add a_12 ((Int.toNat ((IntKind.i64.wrap (i_13 - (1 : Int))))) * 1))) (.int .u8 (byteAt (⟨#[48, 49, 50, 51, 52, 53, 54, 55, 56, 57, 97, 98, 99, 100, 101, 102, 103, 104, 105, 106, 107, 108, 109, 110, 111, 112, 113, 114, 115, 116, 117, 118, 119, 120, 121, 122]⟩ : ByteArray) u_1)) fun h24 =>
    internal_strconv_formatBits.J25 Post dst_0b dst_0l dst_0c neg_3 append_4 d_10b d_10l d_10c s_11 a_12 ((IntKind.i64.wrap (i_13 - (1 : Int)))) h24)
def internal_strconv_formatBits.g18 (fr : Frame) : Option Addr × Nat × Nat × Int × Bool × Bool × Option Addr × Nat × Nat × ByteArray × Addr × Int × Int := ((gLb (lget fr 0)), (gLl (lget fr 0)), (gLc (lget fr 0)), (gI (lget fr 1)), (gB (lget fr 3)), (gB (lget fr 4)), (gLb (lget fr 10)), (gLl (lget fr 10)), (gLc (lget fr 10)), (gS (lget fr 11)), (gP (lget fr 12)), (gI (lget fr 13)), (gI (lget fr 17)))
def internal_strconv_formatBits.l18 (Post : Value → Heap → Prop) : Frame → Heap → Prop := fun fr h => GRD (shape (kds 102 [(0, .l), (1, .i .u64), (3, .b), (4, .b), (10, .l), (11, .s), (12, .p), (13, .i .i64), (17, .i .u64)]) fr) (LOOP (internal_strconv_formatBits.B18 Post) (internal_strconv_formatBits.g18 fr) h)
def internal_strconv_formatBits.J7 (Post : Value → Heap → Prop) (dst_0b : Option Addr) (dst_0l : Nat) (dst_0c : Nat) (u_1 : Int) (base_2 : Int) (neg_3 : Bool) (append_4 : Bool) (d_10b : Option Addr) (d_10l : Nat) (d_10c : Nat) (s_11 : ByteArray) (a_12 : Addr) (i_13 : Int) (h : Heap) : Prop :=
    CALL prg f_internal_strconv_isPowerOfTwo #[.int .i64 base_2] (fun q15 h16 =>
    asB q15 fun b17 =>
    BIF b17 (
    CALL prg f_math_bits_TrailingZeros #[.int .u64 (IntKind.u64.wrap base_2)] (fun q18 h19 =>
    asI .i64 q18 fun n20 =>
    LOOP (internal_strconv_formatBits.B11 Post) (dst_0b, dst_0l, dst_0c, u_1, neg_3, append_4, d_10b, d_10l, d_10c, s_11, a_12, i_13, (IntKind.u64.wrap n20), (IntKind.u64.wrap base_2), ((IntKind.u64.wrap ((IntKind.u64.wrap base_2) - (1 : Int))))) h19) h16) (
    LOOP (internal_strconv_formatBits.B18 Post) (dst_0b, dst_0l, dst_0c, u_1, neg_3, append_4, d_10b, d_10l, d_10c, s_11, a_12, i_13, (IntKind.u64.wrap base_2)) h16)) h
def internal_strconv_formatBits.j7 (Post : Value → Heap → Prop) : Frame → Heap → Prop := fun fr h => GRD (shape (kds 102 [(0, .l), (1, .i .u64), (2, .i .i64), (3, .b), (4, .b), (10, .l), (11, .s), (12, .p), (13, .i .i64)]) fr) (internal_strconv_formatBits.J7 Post (gLb (lget fr 0)) (gLl (lget fr 0)) (gLc (lget fr 0)) (gI (lget fr 1)) (gI (lget fr 2)) (gB (lget fr 3)) (gB (lget fr 4)) (gLb (lget fr 10)) (gLl (lget fr 10)) (gLc (lget fr 10)) (gS (lget fr 11)) (gP (lget fr 12)) (gI (lget fr 13)) h)
def internal_strconv_formatBits.J3 (Post : Value → Heap → Prop) (dst_0b : Option Addr) (dst_0l : Nat) (dst_0c : Nat) (u_1 : Int) (base_2 : Int) (neg_3 : Bool) (append_4 : Bool) (d_10b : Option Addr) (d_10l : Nat) (d_10c : Nat) (s_11 : ByteArray) (h : Heap) : Prop :=
    ALC ⟨Z_65_uint8⟩ T_65_uint8 (fun g13 h14 =>
    BIF neg_3 (
    internal_strconv_formatBits.J7 Post dst_0b dst_0l dst_0c (IntKind.u64.wrap (0 - u_1)) base_2 neg_3 append_4 d_10b d_10l d_10c s_11 ⟨g13, 0, none⟩ (65 : Int) h14) (
    internal_strconv_formatBits.J7 Post dst_0b dst_0l dst_0c u_1 base_2 neg_3 append_4 d_10b d_10l d_10c s_11 ⟨g13, 0, none⟩ (65 : Int) h14)) h
def internal_strconv_formatBits.j3 (Post : Value → Heap → Prop) : Frame → Heap → Prop := fun fr h => GRD (shape (kds 102 [(0, .l), (1, .i .u64), (2, .i .i64), (3, .b), (4, .b), (10, .l), (11, .s)]) fr) (internal_strconv_formatBits.J3 Post (gLb (lget fr 0)) (gLl (lget fr 0)) (gLc (lget fr 0)) (gI (lget fr 1)) (gI (lget fr 2)) (gB (lget fr 3)) (gB (lget fr 4)) (gLb (lget fr 10)) (gLl (lget fr 10)) (gLc (lget fr 10)) (gS (lget fr 11)) h)
def internal_strconv_formatBits.S (dst_0b : Option Addr) (dst_0l dst_0c : Nat) (u_1 : Int) (base_2 : Int) (neg_3 : Bool) (append_4 : Bool) (Post : Value → Heap → Prop) (h : Heap) : Prop :=
    BIF ((decide (base_2 < (2 : Int)))) (
    SEMV prg (Instr.makeInterface T_string (.string (⟨#[115, 116, 114, 99, 111, 110, 118, 58, 32, 105, 108, 108, 101, 103, 97, 108, 32, 65, 112, 112, 101, 110, 100, 73, 110, 116, 47, 70, 111, 114, 109, 97, 116, 73, 110, 116, 32, 98, 97, 115, 101]⟩ : ByteArray))) (fun q1 h2 =>
    SEMV prg (Instr.panic q1) (fun q3 h4 =>
    internal_strconv_formatBits.J3 Post dst_0b dst_0l dst_0c u_1 base_2 neg_3 append_4 none 0 0 (⟨#[]⟩ : ByteArray) h4) h2) h) (
    BIF (base_2 == (10 : Int)) (
    SEMV prg (Instr.makeInterface T_string (.string (⟨#[115, 116, 114, 99, 111, 110, 118, 58, 32, 105, 108, 108, 101, 103, 97, 108, 32, 65, 112, 112, 101, 110, 100, 73, 110, 116, 47, 70, 111, 114, 109, 97, 116, 73, 110, 116, 32, 98, 97, 115, 101]⟩ : ByteArray))) (fun q5 h6 =>
    SEMV prg (Instr.panic q5) (fun q7 h8 =>
    internal_strconv_formatBits.J3 Post dst_0b dst_0l dst_0c u_1 base_2 neg_3 append_4 none 0 0 (⟨#[]⟩ : ByteArray) h8) h6) h) (
    BIF ((decide ((36 : Int) < base_2))) (
    SEMV prg (Instr.makeInterface T_string (.string (⟨#[115, 116, 114, 99, 111, 110, 118, 58, 32, 105, 108, 108, 101, 103, 97, 108, 32, 65, 112, 112, 101, 110, 100, 73, 110, 116, 47, 70, 111, 114, 109, 97, 116, 73, 110, 116, 32, 98, 97, 115, 101]⟩ : ByteArray))) (fun q9 h10 =>
    SEMV prg (Instr.panic q9) (fun q11 h12 =>
    internal_strconv_formatBits.J3 Post dst_0b dst_0l dst_0c u_1 base_2 neg_3 append_4 none 0 0 (⟨#[]⟩ : ByteArray) h12) h10) h) (
    internal_strconv_formatBits.J3 Post dst_0b dst_0l dst_0c u_1 base_2 neg_3 append_4 none 0 0 (⟨#[]⟩ : ByteArray) h)))
noncomputable def internal_strconv_formatBits.code : Code := (Tryz.f127.body).getD .skip
theorem internal_strconv_formatBits.call {dst_0b : Option Addr} {dst_0l dst_0c : Nat} {u_1 : Int} {base_2 : Int} {neg_3 : Bool} {append_4 : Bool} {Post : Value → Heap → Prop} {h : Heap} (H : internal_strconv_formatBits.S dst_0b dst_0l dst_0c u_1 base_2 neg_3 append_4 Post h) : CALL prg f_internal_strconv_formatBits #[.slice dst_0b dst_0l dst_0c, .int .u64 u_1, .int .i64 base_2, .bool neg_3, .bool append_4] Post h :=
  fn_call tau_ok mixed (c := internal_strconv_formatBits.code) (Λ := lookL [(3, internal_strconv_formatBits.j3 Post), (7, internal_strconv_formatBits.j7 Post), (25, internal_strconv_formatBits.j25 Post), (1000011, internal_strconv_formatBits.l11 Post), (1000018, internal_strconv_formatBits.l18 Post), (28, internal_strconv_formatBits.j28 Post)]) Tryz.func127 (by kernel_rfl) (by kernel_rfl)
    (Rq.seq (by kernel_rfl) (Rq.free (by kernel_rfl)) (Rq.seqJ (internal_strconv_formatBits.j3 Post) (by kernel_rfl) (seg (fun _ _ => by kernel_rfl)) (Rq.free (by kernel_rfl))
(Rq.seq (by kernel_rfl) (Rq.free (by kernel_rfl)) (Rq.seq (by kernel_rfl) (Rq.free (by kernel_rfl)) (Rq.seqJ (internal_strconv_formatBits.j7 Post) (by kernel_rfl) (seg (fun _ _ => by kernel_rfl)) (Rq.free (by kernel_rfl))
(Rq.seqJ (internal_strconv_formatBits.j25 Post) (by kernel_rfl) (seg (fun _ _ => by kernel_rfl)) (Rq.seq (by kernel_rfl) (Rq.free (by kernel_rfl)) (Rq.cond (Rq.seq (by kernel_rfl) (Rq.free (by kernel_rfl)) (Rq.seq (by kernel_rfl) (Rq.free (by kernel_rfl)) (Rq.seq (by kernel_rfl) (Rq.free (by kernel_rfl)) (Rq.seq (by kernel_rfl) (Rq.block (Rq.loop (internal_strconv_formatBits.l11 Post) (by kernel_rfl) (segL (g := internal_strconv_formatBits.g11) tau_ok mixed (Λ := fun N11 => lookL []) (fun _ _ _ => by kernel_rfl) (fun N11 => (Rq.free (by kernel_rfl)))))) (Rq.free (by kernel_rfl)))))) (Rq.seq (by kernel_rfl) (Rq.free (by kernel_rfl)) (Rq.seq (by kernel_rfl) (Rq.block (Rq.loop (internal_strconv_formatBits.l18 Post) (by kernel_rfl) (segL (g := internal_strconv_formatBits.g18) tau_ok mixed (Λ := fun N18 => lookL []) (fun _ _ _ => by kernel_rfl) (fun N18 => (Rq.free (by kernel_rfl)))))) (Rq.free (by kernel_rfl))))))
(Rq.seqJ (internal_strconv_formatBits.j28 Post) (by kernel_rfl) (seg (fun _ _ => by kernel_rfl)) (Rq.free (by kernel_rfl))
(Rq.free (by kernel_rfl)))))))))
    (Eq.mp (by kernel_rfl) H)

end Go.Sx
