/- What functions of this seat's program compute, told in words (a predicate over heaps for each), and the proofs that the words are no more than the code's own weakest precondition. -/
import Derived.Test.YthhepeklpgefkaaGreatDoorTab
namespace Go.Sx
open Go.Proofs
set_option linter.unusedVariables false
set_option maxRecDepth 100000

def spec_SoundingIn.B8 (N5 : (Addr × Option Addr × Nat × Nat × Int) → Heap → Prop) (Post : Value → Heap → Prop) (N8 : (Addr × Option Addr × Nat × Nat × Int × Int) → Heap → Prop) : Addr × Option Addr × Nat × Nat × Int × Int → Heap → Prop
  | (p_1, out_4b, out_4l, out_4c, n_5, i_6), h =>
    oL (cell h (Addr.add p_1 6)) fun l10b l10l l10c =>
    BIF ((decide (i_6 < (l10l : Int)))) (
    oL (cell h (Addr.add p_1 6)) fun l13b l13l l13c =>
    IDXS l13b i_6 l13l fun p14 =>
    oI .i64 (cell h ((Addr.add p14 ((Int.toNat i_6) * 45)))) fun n15 =>
    BIF (n15 == n_5) (
    ALC ⟨[.int .i64 n_5]⟩ T_int64 (fun g16 h17 =>
    SEMV prg (Builtin.append_ #[T_sl_int64, T_sl_int64] T_sl_int64 #[.slice out_4b out_4l out_4c, .slice (some ⟨g16, 0, none⟩) 1 1]) (fun q18 h19 =>
    asL q18 fun l20b l20l l20c =>
    N8 (p_1, l20b, l20l, l20c, n_5, ((IntKind.i64.wrap (i_6 + (1 : Int))))) h19) h17) h) (
    N8 (p_1, out_4b, out_4l, out_4c, n_5, ((IntKind.i64.wrap (i_6 + (1 : Int))))) h)) (
    N5 (p_1, out_4b, out_4l, out_4c, ((IntKind.i64.wrap (n_5 + (1 : Int))))) h)
def spec_SoundingIn.g8 (fr : Frame) : Addr × Option Addr × Nat × Nat × Int × Int := ((gP (lget fr 1)), (gLb (lget fr 4)), (gLl (lget fr 4)), (gLc (lget fr 4)), (gI (lget fr 5)), (gI (lget fr 6)))
def spec_SoundingIn.l8 (N5 : (Addr × Option Addr × Nat × Nat × Int) → Heap → Prop) (Post : Value → Heap → Prop) : Frame → Heap → Prop := fun fr h => GRD (shape (kds 35 [(1, .p), (4, .l), (5, .i .i64), (6, .i .i64)]) fr) (LOOP (spec_SoundingIn.B8 N5 Post) (spec_SoundingIn.g8 fr) h)
def spec_SoundingIn.B5 (Post : Value → Heap → Prop) (N5 : (Addr × Option Addr × Nat × Nat × Int) → Heap → Prop) : Addr × Option Addr × Nat × Nat × Int → Heap → Prop
  | (p_1, out_4b, out_4l, out_4c, n_5), h =>
    BIF ((decide (n_5 < (64 : Int)))) (
    LOOP (spec_SoundingIn.B8 N5 Post) (p_1, out_4b, out_4l, out_4c, n_5, (0 : Int)) h) (
    Post (.tuple ⟨[.slice out_4b out_4l out_4c, .int .i64 (0 : Int)]⟩) h)
def spec_SoundingIn.g5 (fr : Frame) : Addr × Option Addr × Nat × Nat × Int := ((gP (lget fr 1)), (gLb (lget fr 4)), (gLl (lget fr 4)), (gLc (lget fr 4)), (gI (lget fr 5)))
def spec_SoundingIn.l5 (Post : Value → Heap → Prop) : Frame → Heap → Prop := fun fr h => GRD (shape (kds 35 [(1, .p), (4, .l), (5, .i .i64)]) fr) (LOOP (spec_SoundingIn.B5 Post) (spec_SoundingIn.g5 fr) h)
def spec_SoundingIn.S (p_0 : Array Value) (Post : Value → Heap → Prop) (h : Heap) : Prop :=
    ALC p_0 T_impl_Player (fun g1 h2 =>
    CALL prg f_spec_l09Ok #[.pointer (some ⟨g1, 0, none⟩)] (fun q3 h4 =>
    asB q3 fun b5 =>
    BIF (!b5) (
    ALC ⟨[]⟩ T_int64 (fun g6 h7 =>
    Post (.tuple ⟨[.slice (some ⟨g6, 0, none⟩) 0 0, .int .i64 (1 : Int)]⟩) h7) h4) (
    ALC ⟨[]⟩ T_int64 (fun g8 h9 =>
    LOOP (spec_SoundingIn.B5 Post) (⟨g1, 0, none⟩, (some ⟨g8, 0, none⟩), 0, 0, (0 : Int)) h9) h4)) h2) h
noncomputable def spec_SoundingIn.code : Code := (Tryz.f31.body).getD .skip
theorem spec_SoundingIn.call {p_0 : Array Value} {Post : Value → Heap → Prop} {h : Heap} (H : spec_SoundingIn.S p_0 Post h) : CALL prg f_spec_SoundingIn #[.agg p_0] Post h :=
  fn_call tau_ok mixed (c := spec_SoundingIn.code) (Λ := lookL [(1000005, spec_SoundingIn.l5 Post)]) Tryz.func31 (by kernel_rfl) (by kernel_rfl)
    (Rq.seq (by kernel_rfl) (Rq.free (by kernel_rfl)) (Rq.seq (by kernel_rfl) (Rq.free (by kernel_rfl)) (Rq.seq (by kernel_rfl) (Rq.free (by kernel_rfl)) (Rq.seq (by kernel_rfl) (Rq.seq (by kernel_rfl) (Rq.free (by kernel_rfl)) (Rq.block (Rq.loop (spec_SoundingIn.l5 Post) (by kernel_rfl) (segL (g := spec_SoundingIn.g5) tau_ok mixed (Λ := fun N5 => lookL [(1000008, spec_SoundingIn.l8 N5 Post)]) (fun _ _ _ => by kernel_rfl) (fun N5 => (Rq.seq (by kernel_rfl) (Rq.free (by kernel_rfl)) (Rq.seq (by kernel_rfl) (Rq.block (Rq.seq (by kernel_rfl) (Rq.free (by kernel_rfl)) (Rq.block (Rq.loop (spec_SoundingIn.l8 N5 Post) (by kernel_rfl) (segL (g := spec_SoundingIn.g8) tau_ok mixed (Λ := fun N8 => lookL []) (fun _ _ _ => by kernel_rfl) (fun N8 => (Rq.free (by kernel_rfl)))))))) (Rq.free (by kernel_rfl))))))))) (Rq.free (by kernel_rfl))))))
    (Eq.mp (by kernel_rfl) H)

def math_bits_Len64.J10 (Post : Value → Heap → Prop) (x_0 : Int) (n_2 : Int) (h : Heap) : Prop :=
    IDX (IntKind.u8.wrap x_0) (ByteArray.size (⟨#[0, 1, 2, 2, 3, 3, 3, 3, 4, 4, 4, 4, 4, 4, 4, 4, 5, 5, 5, 5, 5, 5, 5, 5, 5, 5, 5, 5, 5, 5, 5, 5, 6, 6, 6, 6, 6, 6, 6, 6, 6, 6, 6, 6, 6, 6, 6, 6, 6, 6, 6, 6, 6, 6, 6, 6, 6, 6, 6, 6, 6, 6, 6, 6, 7, 7, 7, 7, 7, 7, 7, 7, 7, 7, 7, 7, 7, 7, 7, 7, 7, 7, 7, 7, 7, 7, 7, 7, 7, 7, 7, 7, 7, 7, 7, 7, 7, 7, 7, 7, 7, 7, 7, 7, 7, 7, 7, 7, 7, 7, 7, 7, 7, 7, 7, 7, 7, 7, 7, 7, 7, 7, 7, 7, 7, 7, 7, 7, 8, 8, 8, 8, 8, 8, 8, 8, 8, 8, 8, 8, 8, 8, 8, 8, 8, 8, 8, 8, 8, 8, 8, 8, 8, 8, 8, 8, 8, 8, 8, 8, 8, 8, 8, 8, 8, 8, 8, 8, 8, 8, 8, 8, 8, 8, 8, 8, 8, 8, 8, 8, 8, 8, 8, 8, 8, 8, 8, 8, 8, 8, 8, 8, 8, 8, 8, 8, 8, 8, 8, 8, 8, 8, 8, 8, 8, 8, 8, 8, 8, 8, 8, 8, 8, 8, 8, 8, 8, 8, 8, 8, 8, 8, 8, 8, 8, 8, 8, 8, 8, 8, 8, 8, 8, 8, 8, 8, 8, 8, 8, 8, 8, 8, 8, 8, 8, 8, 8, 8, 8, 8, 8, 8, 8, 8, 8, 8]⟩ : ByteArray)) <|
    Post (.int .i64 ((IntKind.i64.wrap (n_2 + (IntKind.i64.wrap (byteAt (⟨#[0, 1, 2, 2, 3, 3, 3, 3, 4, 4, 4, 4, 4, 4, 4, 4, 5, 5, 5, 5, 5, 5, 5, 5, 5, 5, 5, 5, 5, 5, 5, 5, 6, 6, 6, 6, 6, 6, 6, 6, 6, 6, 6, 6, 6, 6, 6, 6, 6, 6, 6, 6, 6, 6, 6, 6, 6, 6, 6, 6, 6, 6, 6, 6, 7, 7, 7, 7, 7, 7, 7, 7, 7, 7, 7, 7, 7, 7, 7, 7, 7, 7, 7, 7, 7, 7, 7, 7, 7, 7, 7, 7, 7, 7, 7, 7, 7, 7, 7, 7, 7, 7, 7, 7, 7, 7, 7, 7, 7, 7, 7, 7, 7, 7, 7, 7, 7, 7, 7, 7, 7, 7, 7, 7, 7, 7, 7, 7, 8, 8, 8, 8, 8, 8, 8, 8, 8, 8, 8, 8, 8, 8, 8, 8, 8, 8, 8, 8, 8, 8, 8, 8, 8, 8, 8, 8, 8, 8, 8, 8, 8, 8, 8, 8, 8, 8, 8, 8, 8, 8, 8, 8, 8, 8, 8, 8, 8, 8, 8, 8, 8, 8, 8, 8, 8, 8, 8, 8, 8, 8, 8, 8, 8, 8, 8, 8, 8, 8, 8, 8, 8, 8, 8, 8, 8, 8, 8, 8, 8, 8, 8, 8, 8, 8, 8, 8, 8, 8, 8, 8, 8, 8, 8, 8, 8, 8, 8, 8, 8, 8, 8, 8, 8, 8, 8, 8, 8, 8, 8, 8, 8, 8, 8, 8, 8, 8, 8, 8, 8, 8, 8, 8, 8, 8, 8, 8]⟩ : ByteArray) (IntKind.u8.wrap x_0))))))) h
def math_bits_Len64.j10 (Post : Value → Heap → Prop) : Frame → Heap → Prop := fun fr h => GRD (shape (kds 25 [(0, .i .u64), (2, .i .i64)]) fr) (math_bits_Len64.J10 Post (gI (lget fr 0)) (gI (lget fr 2)) h)
def math_bits_Len64.J7 (Post : Value → Heap → Prop) (x_0 : Int) (n_2 : Int) (h : Heap) : Prop :=
    BIF ((decide ((256 : Int) ≤ x_0))) (
    NN (8 : Int) <|
    math_bits_Len64.J10 Post (shrI .u64 x_0 (8 : Int)) ((IntKind.i64.wrap (n_2 + (8 : Int)))) h) (
    math_bits_Len64.J10 Post x_0 n_2 h)
def math_bits_Len64.j7 (Post : Value → Heap → Prop) : Frame → Heap → Prop := fun fr h => GRD (shape (kds 25 [(0, .i .u64), (2, .i .i64)]) fr) (math_bits_Len64.J7 Post (gI (lget fr 0)) (gI (lget fr 2)) h)
def math_bits_Len64.J4 (Post : Value → Heap → Prop) (x_0 : Int) (n_2 : Int) (h : Heap) : Prop :=
    BIF ((decide ((65536 : Int) ≤ x_0))) (
    NN (16 : Int) <|
    math_bits_Len64.J7 Post (shrI .u64 x_0 (16 : Int)) ((IntKind.i64.wrap (n_2 + (16 : Int)))) h) (
    math_bits_Len64.J7 Post x_0 n_2 h)
def math_bits_Len64.j4 (Post : Value → Heap → Prop) : Frame → Heap → Prop := fun fr h => GRD (shape (kds 25 [(0, .i .u64), (2, .i .i64)]) fr) (math_bits_Len64.J4 Post (gI (lget fr 0)) (gI (lget fr 2)) h)
def math_bits_Len64.S (x_0 : Int) (Post : Value → Heap → Prop) (h : Heap) : Prop :=
    BIF ((decide ((4294967296 : Int) ≤ x_0))) (
    NN (32 : Int) <|
    math_bits_Len64.J4 Post (shrI .u64 x_0 (32 : Int)) (32 : Int) h) (
    math_bits_Len64.J4 Post x_0 (0 : Int) h)
noncomputable def math_bits_Len64.code : Code := (Tryz.f218.body).getD .skip
theorem math_bits_Len64.call {x_0 : Int} {Post : Value → Heap → Prop} {h : Heap} (H : math_bits_Len64.S x_0 Post h) : CALL prg f_math_bits_Len64 #[.int .u64 x_0] Post h :=
  fn_call tau_ok mixed (c := math_bits_Len64.code) (Λ := lookL [(4, math_bits_Len64.j4 Post), (7, math_bits_Len64.j7 Post), (10, math_bits_Len64.j10 Post)]) Tryz.func218 (by kernel_rfl) (by kernel_rfl)
    (Rq.seq (by kernel_rfl) (Rq.free (by kernel_rfl)) (Rq.seqJ (math_bits_Len64.j4 Post) (by kernel_rfl) (seg (fun _ _ => by kernel_rfl)) (Rq.free (by kernel_rfl))
(Rq.seqJ (math_bits_Len64.j7 Post) (by kernel_rfl) (seg (fun _ _ => by kernel_rfl)) (Rq.free (by kernel_rfl))
(Rq.seqJ (math_bits_Len64.j10 Post) (by kernel_rfl) (seg (fun _ _ => by kernel_rfl)) (Rq.free (by kernel_rfl))
(Rq.free (by kernel_rfl))))))
    (Eq.mp (by kernel_rfl) H)

def math_bits_Len.S (x_0 : Int) (Post : Value → Heap → Prop) (h : Heap) : Prop :=
    CALL prg f_math_bits_Len64 #[.int .u64 x_0] (fun q1 h2 =>
    asI .i64 q1 fun n3 =>
    Post (.int .i64 n3) h2) h
noncomputable def math_bits_Len.code : Code := (Tryz.f154.body).getD .skip
theorem math_bits_Len.call {x_0 : Int} {Post : Value → Heap → Prop} {h : Heap} (H : math_bits_Len.S x_0 Post h) : CALL prg f_math_bits_Len #[.int .u64 x_0] Post h :=
  fn_call tau_ok mixed (c := math_bits_Len.code) (Λ := lookL []) Tryz.func154 (by kernel_rfl) (by kernel_rfl)
    (Rq.free (by kernel_rfl))
    (Eq.mp (by kernel_rfl) H)

def cmp_Less_int64.S (x_0 : Int) (y_1 : Int) (Post : Value → Heap → Prop) (h : Heap) : Prop :=
    CALL prg f_cmp_isNaN_int64 #[.int .i64 x_0] (fun q1 h2 =>
    asB q1 fun b3 =>
    BIF b3 (
    CALL prg f_cmp_isNaN_int64 #[.int .i64 y_1] (fun q4 h5 =>
    asB q4 fun b6 =>
    BIF (!b6) (
    Post (.bool true) h5) (
    Post (.bool (decide (x_0 < y_1))) h5)) h2) (
    Post (.bool (decide (x_0 < y_1))) h2)) h
noncomputable def cmp_Less_int64.code : Code := (Tryz.f266.body).getD .skip
theorem cmp_Less_int64.call {x_0 : Int} {y_1 : Int} {Post : Value → Heap → Prop} {h : Heap} (H : cmp_Less_int64.S x_0 y_1 Post h) : CALL prg f_cmp_Less_int64 #[.int .i64 x_0, .int .i64 y_1] Post h :=
  fn_call tau_ok mixed (c := cmp_Less_int64.code) (Λ := lookL []) Tryz.func266 (by kernel_rfl) (by kernel_rfl)
    (Rq.free (by kernel_rfl))
    (Eq.mp (by kernel_rfl) H)

def slices_insertionSortOrdered_int64.J6 (N1 : (Option Addr × Nat × Nat × Int × Int × Int) → Heap → Prop) (N4 : (Option Addr × Nat × Nat × Int × Int × Int × Int) → Heap → Prop) (Post : Value → Heap → Prop) (data_0b : Option Addr) (data_0l : Nat) (data_0c : Nat) (a_1 : Int) (b_2 : Int) (i_6 : Int) (j_7 : Int) (h : Heap) : Prop :=
    IDXS data_0b ((IntKind.i64.wrap (j_7 - (1 : Int)))) data_0l fun p8 =>
    oI .i64 (cell h ((Addr.add p8 ((Int.toNat ((IntKind.i64.wrap (j_7 - (1 : Int))))) * 1)))) fun n9 =>
    IDXS data_0b j_7 data_0l fun p10 =>
    oI .i64 (cell h ((Addr.add p10 ((Int.toNat j_7) * 1)))) fun n11 =>
    IDXS data_0b j_7 data_0l fun p12 =>
    ST1 h ((Addr.add p12 ((Int.toNat j_7) * 1))) (.int .i64 n9) fun h13 =>
    IDXS data_0b ((IntKind.i64.wrap (j_7 - (1 : Int)))) data_0l fun p14 =>
    ST1 h13 ((Addr.add p14 ((Int.toNat ((IntKind.i64.wrap (j_7 - (1 : Int))))) * 1))) (.int .i64 n11) fun h15 =>
    N4 (data_0b, data_0l, data_0c, a_1, b_2, i_6, ((IntKind.i64.wrap (j_7 - (1 : Int))))) h15
def slices_insertionSortOrdered_int64.j6 (N1 : (Option Addr × Nat × Nat × Int × Int × Int) → Heap → Prop) (N4 : (Option Addr × Nat × Nat × Int × Int × Int × Int) → Heap → Prop) (Post : Value → Heap → Prop) : Frame → Heap → Prop := fun fr h => GRD (shape (kds 49 [(0, .l), (1, .i .i64), (2, .i .i64), (6, .i .i64), (7, .i .i64)]) fr) (slices_insertionSortOrdered_int64.J6 N1 N4 Post (gLb (lget fr 0)) (gLl (lget fr 0)) (gLc (lget fr 0)) (gI (lget fr 1)) (gI (lget fr 2)) (gI (lget fr 6)) (gI (lget fr 7)) h)
def slices_insertionSortOrdered_int64.B4 (N1 : (Option Addr × Nat × Nat × Int × Int × Int) → Heap → Prop) (Post : Value → Heap → Prop) (N4 : (Option Addr × Nat × Nat × Int × Int × Int × Int) → Heap → Prop) : Option Addr × Nat × Nat × Int × Int × Int × Int → Heap → Prop
  | (data_0b, data_0l, data_0c, a_1, b_2, i_6, j_7), h =>
    BIF (decide (a_1 < j_7)) (
    IDXS data_0b j_7 data_0l fun p1 =>
    oI .i64 (cell h ((Addr.add p1 ((Int.toNat j_7) * 1)))) fun n2 =>
    IDXS data_0b ((IntKind.i64.wrap (j_7 - (1 : Int)))) data_0l fun p3 =>
    oI .i64 (cell h ((Addr.add p3 ((Int.toNat ((IntKind.i64.wrap (j_7 - (1 : Int))))) * 1)))) fun n4 =>
    CALL prg f_cmp_Less_int64 #[.int .i64 n2, .int .i64 n4] (fun q5 h6 =>
    asB q5 fun b7 =>
    BIF b7 (
    slices_insertionSortOrdered_int64.J6 N1 N4 Post data_0b data_0l data_0c a_1 b_2 i_6 j_7 h6) (
    N1 (data_0b, data_0l, data_0c, a_1, b_2, ((IntKind.i64.wrap (i_6 + (1 : Int))))) h6)) h) (
    N1 (data_0b, data_0l, data_0c, a_1, b_2, ((IntKind.i64.wrap (i_6 + (1 : Int))))) h)
def slices_insertionSortOrdered_int64.g4 (fr : Frame) : Option Addr × Nat × Nat × Int × Int × Int × Int := ((gLb (lget fr 0)), (gLl (lget fr 0)), (gLc (lget fr 0)), (gI (lget fr 1)), (gI (lget fr 2)), (gI (lget fr 6)), (gI (lget fr 7)))
def slices_insertionSortOrdered_int64.l4 (N1 : (Option Addr × Nat × Nat × Int × Int × Int) → Heap → Prop) (Post : Value → Heap → Prop) : Frame → Heap → Prop := fun fr h => GRD (shape (kds 49 [(0, .l), (1, .i .i64), (2, .i .i64), (6, .i .i64), (7, .i .i64)]) fr) (LOOP (slices_insertionSortOrdered_int64.B4 N1 Post) (slices_insertionSortOrdered_int64.g4 fr) h)
def slices_insertionSortOrdered_int64.B1 (Post : Value → Heap → Prop) (N1 : (Option Addr × Nat × Nat × Int × Int × Int) → Heap → Prop) : Option Addr × Nat × Nat × Int × Int × Int → Heap → Prop
  | (data_0b, data_0l, data_0c, a_1, b_2, i_6), h =>
    BIF (decide (i_6 < b_2)) (
    LOOP (slices_insertionSortOrdered_int64.B4 N1 Post) (data_0b, data_0l, data_0c, a_1, b_2, i_6, i_6) h) (
    Post (.tuple ⟨[]⟩) h)
def slices_insertionSortOrdered_int64.g1 (fr : Frame) : Option Addr × Nat × Nat × Int × Int × Int := ((gLb (lget fr 0)), (gLl (lget fr 0)), (gLc (lget fr 0)), (gI (lget fr 1)), (gI (lget fr 2)), (gI (lget fr 6)))
def slices_insertionSortOrdered_int64.l1 (Post : Value → Heap → Prop) : Frame → Heap → Prop := fun fr h => GRD (shape (kds 49 [(0, .l), (1, .i .i64), (2, .i .i64), (6, .i .i64)]) fr) (LOOP (slices_insertionSortOrdered_int64.B1 Post) (slices_insertionSortOrdered_int64.g1 fr) h)
def slices_insertionSortOrdered_int64.S (data_0b : Option Addr) (data_0l data_0c : Nat) (a_1 : Int) (b_2 : Int) (Post : Value → Heap → Prop) (h : Heap) : Prop :=
    LOOP (slices_insertionSortOrdered_int64.B1 Post) (data_0b, data_0l, data_0c, a_1, b_2, ((IntKind.i64.wrap (a_1 + (1 : Int))))) h
noncomputable def slices_insertionSortOrdered_int64.code : Code := (Tryz.f260.body).getD .skip
theorem slices_insertionSortOrdered_int64.call {data_0b : Option Addr} {data_0l data_0c : Nat} {a_1 : Int} {b_2 : Int} {Post : Value → Heap → Prop} {h : Heap} (H : slices_insertionSortOrdered_int64.S data_0b data_0l data_0c a_1 b_2 Post h) : CALL prg f_slices_insertionSortOrdered_int64 #[.slice data_0b data_0l data_0c, .int .i64 a_1, .int .i64 b_2] Post h :=
  fn_call tau_ok mixed (c := slices_insertionSortOrdered_int64.code) (Λ := lookL [(1000001, slices_insertionSortOrdered_int64.l1 Post)]) Tryz.func260 (by kernel_rfl) (by kernel_rfl)
    (Rq.seq (by kernel_rfl) (Rq.free (by kernel_rfl)) (Rq.block (Rq.loop (slices_insertionSortOrdered_int64.l1 Post) (by kernel_rfl) (segL (g := slices_insertionSortOrdered_int64.g1) tau_ok mixed (Λ := fun N1 => lookL [(1000004, slices_insertionSortOrdered_int64.l4 N1 Post)]) (fun _ _ _ => by kernel_rfl) (fun N1 => (Rq.seq (by kernel_rfl) (Rq.free (by kernel_rfl)) (Rq.seq (by kernel_rfl) (Rq.block (Rq.seq (by kernel_rfl) (Rq.free (by kernel_rfl)) (Rq.block (Rq.loop (slices_insertionSortOrdered_int64.l4 N1 Post) (by kernel_rfl) (segL (g := slices_insertionSortOrdered_int64.g4) tau_ok mixed (Λ := fun N4 => lookL [(6, slices_insertionSortOrdered_int64.j6 N1 N4 Post)]) (fun _ _ _ => by kernel_rfl) (fun N4 => (Rq.seqJ (slices_insertionSortOrdered_int64.j6 N1 N4 Post) (by kernel_rfl) (seg (fun _ _ => by kernel_rfl)) (Rq.free (by kernel_rfl))
(Rq.free (by kernel_rfl))))))))) (Rq.free (by kernel_rfl)))))))))
    (Eq.mp (by kernel_rfl) H)

def slices_pdqsortOrdered_int64.J20 (N2 : (Option Addr × Nat × Nat × Int × Int × Int × Bool × Bool) → Heap → Prop) (Post : Value → Heap → Prop) (data_0b : Option Addr) (data_0l : Nat) (data_0c : Nat) (a_1 : Int) (b_2 : Int) (limit_3 : Int) (length_10 : Int) (pivot_11 : Int) (h : Heap) : Prop :=
    CALL prg f_slices_partitionOrdered_int64 #[.slice data_0b data_0l data_0c, .int .i64 a_1, .int .i64 b_2, .int .i64 pivot_11] (fun q28 h29 =>
    TUP2 q28 fun q30 q31 =>
    asI .i64 q30 fun n32 =>
    asB q31 fun b33 =>
    NZ (8 : Int) <|
    BIF ((decide ((IntKind.i64.wrap (n32 - a_1)) < (IntKind.i64.wrap (b_2 - n32))))) (
    CALL prg f_slices_pdqsortOrdered_int64 #[.slice data_0b data_0l data_0c, .int .i64 a_1, .int .i64 n32, .int .i64 limit_3] (fun q34 h35 =>
    N2 (data_0b, data_0l, data_0c, ((IntKind.i64.wrap (n32 + (1 : Int)))), b_2, limit_3, ((decide ((IntKind.i64.wrap (Int.tdiv length_10 (8 : Int))) ≤ (IntKind.i64.wrap (n32 - a_1))))), b33) h35) h29) (
    CALL prg f_slices_pdqsortOrdered_int64 #[.slice data_0b data_0l data_0c, .int .i64 ((IntKind.i64.wrap (n32 + (1 : Int)))), .int .i64 b_2, .int .i64 limit_3] (fun q36 h37 =>
    N2 (data_0b, data_0l, data_0c, a_1, n32, limit_3, ((decide ((IntKind.i64.wrap (Int.tdiv length_10 (8 : Int))) ≤ (IntKind.i64.wrap (b_2 - n32))))), b33) h37) h29)) h
def slices_pdqsortOrdered_int64.j20 (N2 : (Option Addr × Nat × Nat × Int × Int × Int × Bool × Bool) → Heap → Prop) (Post : Value → Heap → Prop) : Frame → Heap → Prop := fun fr h => GRD (shape (kds 134 [(0, .l), (1, .i .i64), (2, .i .i64), (3, .i .i64), (10, .i .i64), (11, .i .i64)]) fr) (slices_pdqsortOrdered_int64.J20 N2 Post (gLb (lget fr 0)) (gLl (lget fr 0)) (gLc (lget fr 0)) (gI (lget fr 1)) (gI (lget fr 2)) (gI (lget fr 3)) (gI (lget fr 10)) (gI (lget fr 11)) h)
def slices_pdqsortOrdered_int64.J17 (N2 : (Option Addr × Nat × Nat × Int × Int × Int × Bool × Bool) → Heap → Prop) (Post : Value → Heap → Prop) (data_0b : Option Addr) (data_0l : Nat) (data_0c : Nat) (a_1 : Int) (b_2 : Int) (limit_3 : Int) (wasBalanced_8 : Bool) (wasPartitioned_9 : Bool) (length_10 : Int) (pivot_11 : Int) (h : Heap) : Prop :=
    BIF ((decide ((0 : Int) < a_1))) (
    IDXS data_0b ((IntKind.i64.wrap (a_1 - (1 : Int)))) data_0l fun p18 =>
    oI .i64 (cell h ((Addr.add p18 ((Int.toNat ((IntKind.i64.wrap (a_1 - (1 : Int))))) * 1)))) fun n19 =>
    IDXS data_0b pivot_11 data_0l fun p20 =>
    oI .i64 (cell h ((Addr.add p20 ((Int.toNat pivot_11) * 1)))) fun n21 =>
    CALL prg f_cmp_Less_int64 #[.int .i64 n19, .int .i64 n21] (fun q22 h23 =>
    asB q22 fun b24 =>
    BIF (!b24) (
    CALL prg f_slices_partitionEqualOrdered_int64 #[.slice data_0b data_0l data_0c, .int .i64 a_1, .int .i64 b_2, .int .i64 pivot_11] (fun q25 h26 =>
    asI .i64 q25 fun n27 =>
    N2 (data_0b, data_0l, data_0c, n27, b_2, limit_3, wasBalanced_8, wasPartitioned_9) h26) h23) (
    slices_pdqsortOrdered_int64.J20 N2 Post data_0b data_0l data_0c a_1 b_2 limit_3 length_10 pivot_11 h23)) h) (
    slices_pdqsortOrdered_int64.J20 N2 Post data_0b data_0l data_0c a_1 b_2 limit_3 length_10 pivot_11 h)
def slices_pdqsortOrdered_int64.j17 (N2 : (Option Addr × Nat × Nat × Int × Int × Int × Bool × Bool) → Heap → Prop) (Post : Value → Heap → Prop) : Frame → Heap → Prop := fun fr h => GRD (shape (kds 134 [(0, .l), (1, .i .i64), (2, .i .i64), (3, .i .i64), (8, .b), (9, .b), (10, .i .i64), (11, .i .i64)]) fr) (slices_pdqsortOrdered_int64.J17 N2 Post (gLb (lget fr 0)) (gLl (lget fr 0)) (gLc (lget fr 0)) (gI (lget fr 1)) (gI (lget fr 2)) (gI (lget fr 3)) (gB (lget fr 8)) (gB (lget fr 9)) (gI (lget fr 10)) (gI (lget fr 11)) h)
def slices_pdqsortOrdered_int64.J15 (N2 : (Option Addr × Nat × Nat × Int × Int × Int × Bool × Bool) → Heap → Prop) (Post : Value → Heap → Prop) (data_0b : Option Addr) (data_0l : Nat) (data_0c : Nat) (a_1 : Int) (b_2 : Int) (limit_3 : Int) (wasBalanced_8 : Bool) (wasPartitioned_9 : Bool) (length_10 : Int) (pivot_11 : Int) (hint_12 : Int) (h : Heap) : Prop :=
    BIF wasBalanced_8 (
    BIF wasPartitioned_9 (
    BIF (hint_12 == (1 : Int)) (
    CALL prg f_slices_partialInsertionSortOrdered_int64 #[.slice data_0b data_0l data_0c, .int .i64 a_1, .int .i64 b_2] (fun q15 h16 =>
    asB q15 fun b17 =>
    BIF b17 (
    Post (.tuple ⟨[]⟩) h16) (
    slices_pdqsortOrdered_int64.J17 N2 Post data_0b data_0l data_0c a_1 b_2 limit_3 wasBalanced_8 wasPartitioned_9 length_10 pivot_11 h16)) h) (
    slices_pdqsortOrdered_int64.J17 N2 Post data_0b data_0l data_0c a_1 b_2 limit_3 wasBalanced_8 wasPartitioned_9 length_10 pivot_11 h)) (
    slices_pdqsortOrdered_int64.J17 N2 Post data_0b data_0l data_0c a_1 b_2 limit_3 wasBalanced_8 wasPartitioned_9 length_10 pivot_11 h)) (
    slices_pdqsortOrdered_int64.J17 N2 Post data_0b data_0l data_0c a_1 b_2 limit_3 wasBalanced_8 wasPartitioned_9 length_10 pivot_11 h)
def slices_pdqsortOrdered_int64.j15 (N2 : (Option Addr × Nat × Nat × Int × Int × Int × Bool × Bool) → Heap → Prop) (Post : Value → Heap → Prop) : Frame → Heap → Prop := fun fr h => GRD (shape (kds 134 [(0, .l), (1, .i .i64), (2, .i .i64), (3, .i .i64), (8, .b), (9, .b), (10, .i .i64), (11, .i .i64), (12, .i .i64)]) fr) (slices_pdqsortOrdered_int64.J15 N2 Post (gLb (lget fr 0)) (gLl (lget fr 0)) (gLc (lget fr 0)) (gI (lget fr 1)) (gI (lget fr 2)) (gI (lget fr 3)) (gB (lget fr 8)) (gB (lget fr 9)) (gI (lget fr 10)) (gI (lget fr 11)) (gI (lget fr 12)) h)
def slices_pdqsortOrdered_int64.J10 (N2 : (Option Addr × Nat × Nat × Int × Int × Int × Bool × Bool) → Heap → Prop) (Post : Value → Heap → Prop) (data_0b : Option Addr) (data_0l : Nat) (data_0c : Nat) (a_1 : Int) (b_2 : Int) (limit_3 : Int) (wasBalanced_8 : Bool) (wasPartitioned_9 : Bool) (length_10 : Int) (h : Heap) : Prop :=
    CALL prg f_slices_choosePivotOrdered_int64 #[.slice data_0b data_0l data_0c, .int .i64 a_1, .int .i64 b_2] (fun q7 h8 =>
    TUP2 q7 fun q9 q10 =>
    asI .i64 q9 fun n11 =>
    asI .i64 q10 fun n12 =>
    BIF (n12 == (2 : Int)) (
    CALL prg f_slices_reverseRangeOrdered_int64 #[.slice data_0b data_0l data_0c, .int .i64 a_1, .int .i64 b_2] (fun q13 h14 =>
    slices_pdqsortOrdered_int64.J15 N2 Post data_0b data_0l data_0c a_1 b_2 limit_3 wasBalanced_8 wasPartitioned_9 length_10 ((IntKind.i64.wrap ((IntKind.i64.wrap (b_2 - (1 : Int))) - (IntKind.i64.wrap (n11 - a_1))))) (1 : Int) h14) h8) (
    slices_pdqsortOrdered_int64.J15 N2 Post data_0b data_0l data_0c a_1 b_2 limit_3 wasBalanced_8 wasPartitioned_9 length_10 n11 n12 h8)) h
def slices_pdqsortOrdered_int64.j10 (N2 : (Option Addr × Nat × Nat × Int × Int × Int × Bool × Bool) → Heap → Prop) (Post : Value → Heap → Prop) : Frame → Heap → Prop := fun fr h => GRD (shape (kds 134 [(0, .l), (1, .i .i64), (2, .i .i64), (3, .i .i64), (8, .b), (9, .b), (10, .i .i64)]) fr) (slices_pdqsortOrdered_int64.J10 N2 Post (gLb (lget fr 0)) (gLl (lget fr 0)) (gLc (lget fr 0)) (gI (lget fr 1)) (gI (lget fr 2)) (gI (lget fr 3)) (gB (lget fr 8)) (gB (lget fr 9)) (gI (lget fr 10)) h)
def slices_pdqsortOrdered_int64.B2 (Post : Value → Heap → Prop) (N2 : (Option Addr × Nat × Nat × Int × Int × Int × Bool × Bool) → Heap → Prop) : Option Addr × Nat × Nat × Int × Int × Int × Bool × Bool → Heap → Prop
  | (data_0b, data_0l, data_0c, a_1, b_2, limit_3, wasBalanced_8, wasPartitioned_9), h =>
    BIF ((decide ((IntKind.i64.wrap (b_2 - a_1)) ≤ (12 : Int)))) (
    CALL prg f_slices_insertionSortOrdered_int64 #[.slice data_0b data_0l data_0c, .int .i64 a_1, .int .i64 b_2] (fun q1 h2 =>
    Post (.tuple ⟨[]⟩) h2) h) (
    BIF (limit_3 == (0 : Int)) (
    CALL prg f_slices_heapSortOrdered_int64 #[.slice data_0b data_0l data_0c, .int .i64 a_1, .int .i64 b_2] (fun q3 h4 =>
    Post (.tuple ⟨[]⟩) h4) h) (
    BIF (!wasBalanced_8) (
    CALL prg f_slices_breakPatternsOrdered_int64 #[.slice data_0b data_0l data_0c, .int .i64 a_1, .int .i64 b_2] (fun q5 h6 =>
    slices_pdqsortOrdered_int64.J10 N2 Post data_0b data_0l data_0c a_1 b_2 ((IntKind.i64.wrap (limit_3 - (1 : Int)))) wasBalanced_8 wasPartitioned_9 (IntKind.i64.wrap (b_2 - a_1)) h6) h) (
    slices_pdqsortOrdered_int64.J10 N2 Post data_0b data_0l data_0c a_1 b_2 limit_3 wasBalanced_8 wasPartitioned_9 (IntKind.i64.wrap (b_2 - a_1)) h)))
def slices_pdqsortOrdered_int64.g2 (fr : Frame) : Option Addr × Nat × Nat × Int × Int × Int × Bool × Bool := ((gLb (lget fr 0)), (gLl (lget fr 0)), (gLc (lget fr 0)), (gI (lget fr 1)), (gI (lget fr 2)), (gI (lget fr 3)), (gB (lget fr 8)), (gB (lget fr 9)))
def slices_pdqsortOrdered_int64.l2 (Post : Value → Heap → Prop) : Frame → Heap → Prop := fun fr h => GRD (shape (kds 134 [(0, .l), (1, .i .i64), (2, .i .i64), (3, .i .i64), (8, .b), (9, .b)]) fr) (LOOP (slices_pdqsortOrdered_int64.B2 Post) (slices_pdqsortOrdered_int64.g2 fr) h)
def slices_pdqsortOrdered_int64.S (data_0b : Option Addr) (data_0l data_0c : Nat) (a_1 : Int) (b_2 : Int) (limit_3 : Int) (Post : Value → Heap → Prop) (h : Heap) : Prop :=
    LOOP (slices_pdqsortOrdered_int64.B2 Post) (data_0b, data_0l, data_0c, a_1, b_2, limit_3, true, true) h
noncomputable def slices_pdqsortOrdered_int64.code : Code := (Tryz.f182.body).getD .skip
theorem slices_pdqsortOrdered_int64.call {data_0b : Option Addr} {data_0l data_0c : Nat} {a_1 : Int} {b_2 : Int} {limit_3 : Int} {Post : Value → Heap → Prop} {h : Heap} (H : slices_pdqsortOrdered_int64.S data_0b data_0l data_0c a_1 b_2 limit_3 Post h) : CALL prg f_slices_pdqsortOrdered_int64 #[.slice data_0b data_0l data_0c, .int .i64 a_1, .int .i64 b_2, .int .i64 limit_3] Post h :=
  fn_call tau_ok mixed (c := slices_pdqsortOrdered_int64.code) (Λ := lookL [(1000002, slices_pdqsortOrdered_int64.l2 Post)]) Tryz.func182 (by kernel_rfl) (by kernel_rfl)
    (Rq.seq (by kernel_rfl) (Rq.free (by kernel_rfl)) (Rq.seq (by kernel_rfl) (Rq.free (by kernel_rfl)) (Rq.block (Rq.loop (slices_pdqsortOrdered_int64.l2 Post) (by kernel_rfl) (segL (g := slices_pdqsortOrdered_int64.g2) tau_ok mixed (Λ := fun N2 => lookL [(10, slices_pdqsortOrdered_int64.j10 N2 Post), (15, slices_pdqsortOrdered_int64.j15 N2 Post), (17, slices_pdqsortOrdered_int64.j17 N2 Post), (20, slices_pdqsortOrdered_int64.j20 N2 Post)]) (fun _ _ _ => by kernel_rfl) (fun N2 => (Rq.block (Rq.seq (by kernel_rfl) (Rq.free (by kernel_rfl)) (Rq.seq (by kernel_rfl) (Rq.free (by kernel_rfl)) (Rq.seq (by kernel_rfl) (Rq.free (by kernel_rfl)) (Rq.seqJ (slices_pdqsortOrdered_int64.j10 N2 Post) (by kernel_rfl) (seg (fun _ _ => by kernel_rfl)) (Rq.free (by kernel_rfl))
(Rq.seq (by kernel_rfl) (Rq.free (by kernel_rfl)) (Rq.seqJ (slices_pdqsortOrdered_int64.j15 N2 Post) (by kernel_rfl) (seg (fun _ _ => by kernel_rfl)) (Rq.free (by kernel_rfl))
(Rq.seqJ (slices_pdqsortOrdered_int64.j17 N2 Post) (by kernel_rfl) (seg (fun _ _ => by kernel_rfl)) (Rq.free (by kernel_rfl))
(Rq.seqJ (slices_pdqsortOrdered_int64.j20 N2 Post) (by kernel_rfl) (seg (fun _ _ => by kernel_rfl)) (Rq.free (by kernel_rfl))
(Rq.free (by kernel_rfl)))))))))))))))))
    (Eq.mp (by kernel_rfl) H)

def slices_Sort_sl_int64_int64.S (x_0b : Option Addr) (x_0l x_0c : Nat) (Post : Value → Heap → Prop) (h : Heap) : Prop :=
    CALL prg f_math_bits_Len #[.int .u64 (IntKind.u64.wrap (x_0l : Int))] (fun q3 h4 =>
    asI .i64 q3 fun n5 =>
    CALL prg f_slices_pdqsortOrdered_int64 #[.slice x_0b x_0l x_0c, .int .i64 (0 : Int), .int .i64 (x_0l : Int), .int .i64 n5] (fun q6 h7 =>
    Post (.tuple ⟨[]⟩) h7) h4) h
noncomputable def slices_Sort_sl_int64_int64.code : Code := (Tryz.f114.body).getD .skip
theorem slices_Sort_sl_int64_int64.call {x_0b : Option Addr} {x_0l x_0c : Nat} {Post : Value → Heap → Prop} {h : Heap} (H : slices_Sort_sl_int64_int64.S x_0b x_0l x_0c Post h) : CALL prg f_slices_Sort_sl_int64_int64 #[.slice x_0b x_0l x_0c] Post h :=
  fn_call tau_ok mixed (c := slices_Sort_sl_int64_int64.code) (Λ := lookL []) Tryz.func114 (by kernel_rfl) (by kernel_rfl)
    (Rq.free (by kernel_rfl))
    (Eq.mp (by kernel_rfl) H)

def impl_SoundingIn.B5 (Post : Value → Heap → Prop) (N5 : (Option Addr × Nat × Nat × Option Addr × Nat × Nat × Int × Int) → Heap → Prop) : Option Addr × Nat × Nat × Option Addr × Nat × Nat × Int × Int → Heap → Prop
  | (out_4b, out_4l, out_4c, t11b, t11l, t11c, t12, t13), h =>
    BIF (decide (t13 < t12)) (
    IDXS t11b t13 t11l fun p10 =>
    LDA 45 h ((Addr.add p10 ((Int.toNat t13) * 45))) fun a11 =>
    ALC ⟨Z_impl_Voice⟩ T_impl_Voice (fun g12 h13 =>
    STA 45 h13 ⟨g12, 0, none⟩ a11 fun h14 =>
    LDA 45 h14 ⟨g12, 0, none⟩ fun a15 =>
    CALL prg f_impl_Voice_isFree #[.agg a15] (fun q16 h17 =>
    asB q16 fun b18 =>
    BIF (!b18) (
    oI .i64 (cell h17 ⟨g12, 0, none⟩) fun n19 =>
    ALC ⟨[.int .i64 n19]⟩ T_int64 (fun g20 h21 =>
    SEMV prg (Builtin.append_ #[T_sl_int64, T_sl_int64] T_sl_int64 #[.slice out_4b out_4l out_4c, .slice (some ⟨g20, 0, none⟩) 1 1]) (fun q22 h23 =>
    asL q22 fun l24b l24l l24c =>
    N5 (l24b, l24l, l24c, t11b, t11l, t11c, t12, ((IntKind.i64.wrap (t13 + (1 : Int))))) h23) h21) h17) (
    N5 (out_4b, out_4l, out_4c, t11b, t11l, t11c, t12, ((IntKind.i64.wrap (t13 + (1 : Int))))) h17)) h14) h) (
    CALL prg f_slices_Sort_sl_int64_int64 #[.slice out_4b out_4l out_4c] (fun q25 h26 =>
    Post (.tuple ⟨[.slice out_4b out_4l out_4c, .int .i64 (0 : Int)]⟩) h26) h)
def impl_SoundingIn.g5 (fr : Frame) : Option Addr × Nat × Nat × Option Addr × Nat × Nat × Int × Int := ((gLb (lget fr 4)), (gLl (lget fr 4)), (gLc (lget fr 4)), (gLb (lget fr 11)), (gLl (lget fr 11)), (gLc (lget fr 11)), (gI (lget fr 12)), (gI (lget fr 13)))
def impl_SoundingIn.l5 (Post : Value → Heap → Prop) : Frame → Heap → Prop := fun fr h => GRD (shape (kds 29 [(4, .l), (11, .l), (12, .i .i64), (13, .i .i64)]) fr) (LOOP (impl_SoundingIn.B5 Post) (impl_SoundingIn.g5 fr) h)
def impl_SoundingIn.S (p_0 : Array Value) (Post : Value → Heap → Prop) (h : Heap) : Prop :=
    ALC p_0 T_impl_Player (fun g1 h2 =>
    LDA 10 h2 ⟨g1, 0, none⟩ fun a3 =>
    CALL prg f_impl_ValidPlayer #[.agg a3] (fun q4 h5 =>
    asB q4 fun b6 =>
    BIF (!b6) (
    Post (.tuple ⟨[.slice none 0 0, .int .i64 (1 : Int)]⟩) h5) (
    oL (cell h5 ⟨g1, 6, none⟩) fun l7b l7l l7c =>
    LOOP (impl_SoundingIn.B5 Post) (none, 0, 0, l7b, l7l, l7c, (l7l : Int), (0 : Int)) h5)) h2) h
noncomputable def impl_SoundingIn.code : Code := (Tryz.f33.body).getD .skip
theorem impl_SoundingIn.call {p_0 : Array Value} {Post : Value → Heap → Prop} {h : Heap} (H : impl_SoundingIn.S p_0 Post h) : CALL prg f_impl_SoundingIn #[.agg p_0] Post h :=
  fn_call tau_ok mixed (c := impl_SoundingIn.code) (Λ := lookL [(1000005, impl_SoundingIn.l5 Post)]) Tryz.func33 (by kernel_rfl) (by kernel_rfl)
    (Rq.seq (by kernel_rfl) (Rq.free (by kernel_rfl)) (Rq.seq (by kernel_rfl) (Rq.free (by kernel_rfl)) (Rq.seq (by kernel_rfl) (Rq.free (by kernel_rfl)) (Rq.seq (by kernel_rfl) (Rq.seq (by kernel_rfl) (Rq.free (by kernel_rfl)) (Rq.block (Rq.loop (impl_SoundingIn.l5 Post) (by kernel_rfl) (segL (g := impl_SoundingIn.g5) tau_ok mixed (Λ := fun N5 => lookL []) (fun _ _ _ => by kernel_rfl) (fun N5 => (Rq.free (by kernel_rfl))))))) (Rq.free (by kernel_rfl))))))
    (Eq.mp (by kernel_rfl) H)

def laws_eqInt64S.B4 (Post : Value → Heap → Prop) (N4 : (Option Addr × Nat × Nat × Option Addr × Nat × Nat × Int) → Heap → Prop) : Option Addr × Nat × Nat × Option Addr × Nat × Nat × Int → Heap → Prop
  | (a_0b, a_0l, a_0c, b_1b, b_1l, b_1c, i_5), h =>
    BIF ((decide (i_5 < (a_0l : Int)))) (
    IDXS a_0b i_5 a_0l fun p7 =>
    oI .i64 (cell h ((Addr.add p7 ((Int.toNat i_5) * 1)))) fun n8 =>
    IDXS b_1b i_5 b_1l fun p9 =>
    oI .i64 (cell h ((Addr.add p9 ((Int.toNat i_5) * 1)))) fun n10 =>
    BIF (n8 != n10) (
    Post (.bool false) h) (
    N4 (a_0b, a_0l, a_0c, b_1b, b_1l, b_1c, ((IntKind.i64.wrap (i_5 + (1 : Int))))) h)) (
    Post (.bool true) h)
def laws_eqInt64S.g4 (fr : Frame) : Option Addr × Nat × Nat × Option Addr × Nat × Nat × Int := ((gLb (lget fr 0)), (gLl (lget fr 0)), (gLc (lget fr 0)), (gLb (lget fr 1)), (gLl (lget fr 1)), (gLc (lget fr 1)), (gI (lget fr 5)))
def laws_eqInt64S.l4 (Post : Value → Heap → Prop) : Frame → Heap → Prop := fun fr h => GRD (shape (kds 26 [(0, .l), (1, .l), (5, .i .i64)]) fr) (LOOP (laws_eqInt64S.B4 Post) (laws_eqInt64S.g4 fr) h)
def laws_eqInt64S.S (a_0b : Option Addr) (a_0l a_0c : Nat) (b_1b : Option Addr) (b_1l b_1c : Nat) (Post : Value → Heap → Prop) (h : Heap) : Prop :=
    BIF ((a_0l : Int) != (b_1l : Int)) (
    Post (.bool false) h) (
    LOOP (laws_eqInt64S.B4 Post) (a_0b, a_0l, a_0c, b_1b, b_1l, b_1c, (0 : Int)) h)
noncomputable def laws_eqInt64S.code : Code := (Tryz.f34.body).getD .skip
theorem laws_eqInt64S.call {a_0b : Option Addr} {a_0l a_0c : Nat} {b_1b : Option Addr} {b_1l b_1c : Nat} {Post : Value → Heap → Prop} {h : Heap} (H : laws_eqInt64S.S a_0b a_0l a_0c b_1b b_1l b_1c Post h) : CALL prg f_laws_eqInt64S #[.slice a_0b a_0l a_0c, .slice b_1b b_1l b_1c] Post h :=
  fn_call tau_ok mixed (c := laws_eqInt64S.code) (Λ := lookL [(1000004, laws_eqInt64S.l4 Post)]) Tryz.func34 (by kernel_rfl) (by kernel_rfl)
    (Rq.seq (by kernel_rfl) (Rq.free (by kernel_rfl)) (Rq.seq (by kernel_rfl) (Rq.free (by kernel_rfl)) (Rq.seq (by kernel_rfl) (Rq.seq (by kernel_rfl) (Rq.free (by kernel_rfl)) (Rq.block (Rq.loop (laws_eqInt64S.l4 Post) (by kernel_rfl) (segL (g := laws_eqInt64S.g4) tau_ok mixed (Λ := fun N4 => lookL []) (fun _ _ _ => by kernel_rfl) (fun N4 => (Rq.free (by kernel_rfl))))))) (Rq.free (by kernel_rfl)))))
    (Eq.mp (by kernel_rfl) H)

def laws_markInt64S.B2 (Post : Value → Heap → Prop) (N2 : (Option Addr × Nat × Nat × Int × Int) → Heap → Prop) : Option Addr × Nat × Nat × Int × Int → Heap → Prop
  | (a_0b, a_0l, a_0c, k_1, i_5), h =>
    BIF ((decide (i_5 < (a_0l : Int)))) (
    IDXS a_0b i_5 a_0l fun p3 =>
    ST1 h ((Addr.add p3 ((Int.toNat i_5) * 1))) (.int .i64 k_1) fun h4 =>
    N2 (a_0b, a_0l, a_0c, ((IntKind.i64.wrap (k_1 + (1 : Int)))), ((IntKind.i64.wrap (i_5 + (1 : Int))))) h4) (
    Post (.int .i64 k_1) h)
def laws_markInt64S.g2 (fr : Frame) : Option Addr × Nat × Nat × Int × Int := ((gLb (lget fr 0)), (gLl (lget fr 0)), (gLc (lget fr 0)), (gI (lget fr 1)), (gI (lget fr 5)))
def laws_markInt64S.l2 (Post : Value → Heap → Prop) : Frame → Heap → Prop := fun fr h => GRD (shape (kds 19 [(0, .l), (1, .i .i64), (5, .i .i64)]) fr) (LOOP (laws_markInt64S.B2 Post) (laws_markInt64S.g2 fr) h)
def laws_markInt64S.S (a_0b : Option Addr) (a_0l a_0c : Nat) (k_1 : Int) (Post : Value → Heap → Prop) (h : Heap) : Prop :=
    LOOP (laws_markInt64S.B2 Post) (a_0b, a_0l, a_0c, k_1, (0 : Int)) h
noncomputable def laws_markInt64S.code : Code := (Tryz.f35.body).getD .skip
theorem laws_markInt64S.call {a_0b : Option Addr} {a_0l a_0c : Nat} {k_1 : Int} {Post : Value → Heap → Prop} {h : Heap} (H : laws_markInt64S.S a_0b a_0l a_0c k_1 Post h) : CALL prg f_laws_markInt64S #[.slice a_0b a_0l a_0c, .int .i64 k_1] Post h :=
  fn_call tau_ok mixed (c := laws_markInt64S.code) (Λ := lookL [(1000002, laws_markInt64S.l2 Post)]) Tryz.func35 (by kernel_rfl) (by kernel_rfl)
    (Rq.seq (by kernel_rfl) (Rq.free (by kernel_rfl)) (Rq.seq (by kernel_rfl) (Rq.seq (by kernel_rfl) (Rq.free (by kernel_rfl)) (Rq.block (Rq.loop (laws_markInt64S.l2 Post) (by kernel_rfl) (segL (g := laws_markInt64S.g2) tau_ok mixed (Λ := fun N2 => lookL []) (fun _ _ _ => by kernel_rfl) (fun N2 => (Rq.free (by kernel_rfl))))))) (Rq.free (by kernel_rfl))))
    (Eq.mp (by kernel_rfl) H)

def laws_heldInt64S.B2 (Post : Value → Heap → Prop) (N2 : (Option Addr × Nat × Nat × Int × Int) → Heap → Prop) : Option Addr × Nat × Nat × Int × Int → Heap → Prop
  | (a_0b, a_0l, a_0c, k_1, i_5), h =>
    BIF ((decide (i_5 < (a_0l : Int)))) (
    IDXS a_0b i_5 a_0l fun p3 =>
    oI .i64 (cell h ((Addr.add p3 ((Int.toNat i_5) * 1)))) fun n4 =>
    BIF (n4 != k_1) (
    Post (.int .i64 (-1 : Int)) h) (
    N2 (a_0b, a_0l, a_0c, ((IntKind.i64.wrap (k_1 + (1 : Int)))), ((IntKind.i64.wrap (i_5 + (1 : Int))))) h)) (
    Post (.int .i64 k_1) h)
def laws_heldInt64S.g2 (fr : Frame) : Option Addr × Nat × Nat × Int × Int := ((gLb (lget fr 0)), (gLl (lget fr 0)), (gLc (lget fr 0)), (gI (lget fr 1)), (gI (lget fr 5)))
def laws_heldInt64S.l2 (Post : Value → Heap → Prop) : Frame → Heap → Prop := fun fr h => GRD (shape (kds 21 [(0, .l), (1, .i .i64), (5, .i .i64)]) fr) (LOOP (laws_heldInt64S.B2 Post) (laws_heldInt64S.g2 fr) h)
def laws_heldInt64S.S (a_0b : Option Addr) (a_0l a_0c : Nat) (k_1 : Int) (Post : Value → Heap → Prop) (h : Heap) : Prop :=
    LOOP (laws_heldInt64S.B2 Post) (a_0b, a_0l, a_0c, k_1, (0 : Int)) h
noncomputable def laws_heldInt64S.code : Code := (Tryz.f36.body).getD .skip
theorem laws_heldInt64S.call {a_0b : Option Addr} {a_0l a_0c : Nat} {k_1 : Int} {Post : Value → Heap → Prop} {h : Heap} (H : laws_heldInt64S.S a_0b a_0l a_0c k_1 Post h) : CALL prg f_laws_heldInt64S #[.slice a_0b a_0l a_0c, .int .i64 k_1] Post h :=
  fn_call tau_ok mixed (c := laws_heldInt64S.code) (Λ := lookL [(1000002, laws_heldInt64S.l2 Post)]) Tryz.func36 (by kernel_rfl) (by kernel_rfl)
    (Rq.seq (by kernel_rfl) (Rq.free (by kernel_rfl)) (Rq.seq (by kernel_rfl) (Rq.seq (by kernel_rfl) (Rq.free (by kernel_rfl)) (Rq.block (Rq.loop (laws_heldInt64S.l2 Post) (by kernel_rfl) (segL (g := laws_heldInt64S.g2) tau_ok mixed (Λ := fun N2 => lookL []) (fun _ _ _ => by kernel_rfl) (fun N2 => (Rq.free (by kernel_rfl))))))) (Rq.free (by kernel_rfl))))
    (Eq.mp (by kernel_rfl) H)

def laws_FnExactSoundingIn.J16 (Post : Value → Heap → Prop) (aP_1 : Addr) (w0_4b : Option Addr) (w0_4l : Nat) (w0_4c : Nat) (w1_5 : Int) (g0_7b : Option Addr) (g0_7l : Nat) (g0_7c : Nat) (h : Heap) : Prop :=
    CALL prg f_laws_markInt64S #[.slice g0_7b g0_7l g0_7c, .int .i64 (1 : Int)] (fun q49 h50 =>
    asI .i64 q49 fun n51 =>
    CALL prg f_laws_heldInt64S #[.slice g0_7b g0_7l g0_7c, .int .i64 (1 : Int)] (fun q52 h53 =>
    asI .i64 q52 fun n54 =>
    BIF ((decide (n54 < (0 : Int)))) (
    Post (.bool false) h53) (
    BIF (n54 != n51) (
    Post (.bool false) h53) (
    LDA 10 h53 aP_1 fun a55 =>
    CALL prg f_laws_toPlayer #[.agg a55] (fun q56 h57 =>
    asA q56 fun a58 =>
    CALL prg f_impl_SoundingIn #[.agg a58] (fun q59 h60 =>
    TUP2 q59 fun q61 q62 =>
    asL q61 fun l63b l63l l63c =>
    asI .i64 q62 fun n64 =>
    CALL prg f_laws_eqInt64S #[.slice l63b l63l l63c, .slice w0_4b w0_4l w0_4c] (fun q65 h66 =>
    asB q65 fun b67 =>
    BIF (!b67) (
    Post (.bool false) h66) (
    BIF (n64 != w1_5) (
    Post (.bool false) h66) (
    CALL prg f_laws_heldInt64S #[.slice g0_7b g0_7l g0_7c, .int .i64 (1 : Int)] (fun q68 h69 =>
    asI .i64 q68 fun n70 =>
    BIF ((decide (n70 < (0 : Int)))) (
    Post (.bool false) h69) (
    BIF (n70 != n51) (
    Post (.bool false) h69) (
    Post (.bool true) h69))) h66))) h60) h57) h53))) h50) h
def laws_FnExactSoundingIn.j16 (Post : Value → Heap → Prop) : Frame → Heap → Prop := fun fr h => GRD (shape (kds 96 [(1, .p), (4, .l), (5, .i .i64), (7, .l)]) fr) (laws_FnExactSoundingIn.J16 Post (gP (lget fr 1)) (gLb (lget fr 4)) (gLl (lget fr 4)) (gLc (lget fr 4)) (gI (lget fr 5)) (gLb (lget fr 7)) (gLl (lget fr 7)) (gLc (lget fr 7)) h)
def laws_FnExactSoundingIn.J10 (Post : Value → Heap → Prop) (aP_1 : Addr) (w0_4b : Option Addr) (w0_4l : Nat) (w0_4c : Nat) (w1_5 : Int) (x0_6 : Addr) (g0_7b : Option Addr) (g0_7l : Nat) (g0_7c : Nat) (g1_8 : Int) (h : Heap) : Prop :=
    LDA 10 h x0_6 fun a34 =>
    LDA 10 h aP_1 fun a35 =>
    CALL prg f_laws_toPlayer #[.agg a35] (fun q36 h37 =>
    asA q36 fun a38 =>
    PIN h x0_6 10 h37 <|
    CALL prg f_laws_eqPlayer #[.agg a34, .agg a38] (fun q39 h40 =>
    asB q39 fun b41 =>
    BIF (!b41) (
    Post (.bool false) h40) (
    LDA 10 h40 x0_6 fun a42 =>
    CALL prg f_laws_markPlayer #[.agg a42, .int .i64 (1 : Int)] (fun q43 h44 =>
    asI .i64 q43 fun n45 =>
    BIF ((decide (n45 < (0 : Int)))) (
    Post (.bool false) h44) (
    CALL prg f_laws_eqInt64S #[.slice g0_7b g0_7l g0_7c, .slice w0_4b w0_4l w0_4c] (fun q46 h47 =>
    asB q46 fun b48 =>
    BIF (!b48) (
    Post (.bool false) h47) (
    BIF (g1_8 != w1_5) (
    Post (.bool false) h47) (
    laws_FnExactSoundingIn.J16 Post aP_1 w0_4b w0_4l w0_4c w1_5 g0_7b g0_7l g0_7c h47))) h44)) h40)) h37) h
def laws_FnExactSoundingIn.j10 (Post : Value → Heap → Prop) : Frame → Heap → Prop := fun fr h => GRD (shape (kds 96 [(1, .p), (4, .l), (5, .i .i64), (6, .p), (7, .l), (8, .i .i64)]) fr) (laws_FnExactSoundingIn.J10 Post (gP (lget fr 1)) (gLb (lget fr 4)) (gLl (lget fr 4)) (gLc (lget fr 4)) (gI (lget fr 5)) (gP (lget fr 6)) (gLb (lget fr 7)) (gLl (lget fr 7)) (gLc (lget fr 7)) (gI (lget fr 8)) h)
def laws_FnExactSoundingIn.S (aP_0 : Array Value) (Post : Value → Heap → Prop) (h : Heap) : Prop :=
    ALC aP_0 T_laws_Player (fun g1 h2 =>
    LDA 10 h2 ⟨g1, 0, none⟩ fun a3 =>
    CALL prg f_laws_szPlayer #[.agg a3, .int .i64 (1048576 : Int)] (fun q4 h5 =>
    asI .i64 q4 fun n6 =>
    BIF ((decide (n6 < (0 : Int)))) (
    Post (.bool true) h5) (
    LDA 10 h5 ⟨g1, 0, none⟩ fun a7 =>
    CALL prg f_laws_toPlayer #[.agg a7] (fun q8 h9 =>
    asA q8 fun a10 =>
    CALL prg f_spec_SoundingIn #[.agg a10] (fun q11 h12 =>
    TUP2 q11 fun q13 q14 =>
    asL q13 fun l15b l15l l15c =>
    asI .i64 q14 fun n16 =>
    LDA 10 h12 ⟨g1, 0, none⟩ fun a17 =>
    CALL prg f_laws_toPlayer #[.agg a17] (fun q18 h19 =>
    asA q18 fun a20 =>
    ALC ⟨Z_impl_Player⟩ T_impl_Player (fun g21 h22 =>
    STA 10 h22 ⟨g21, 0, none⟩ a20 fun h23 =>
    LDA 10 h23 ⟨g21, 0, none⟩ fun a24 =>
    CALL prg f_impl_SoundingIn #[.agg a24] (fun q25 h26 =>
    TUP2 q25 fun q27 q28 =>
    asL q27 fun l29b l29l l29c =>
    asI .i64 q28 fun n30 =>
    CALL prg f_laws_eqInt64S #[.slice l29b l29l l29c, .slice l15b l15l l15c] (fun q31 h32 =>
    asB q31 fun b33 =>
    BIF (!b33) (
    Post (.bool false) h32) (
    BIF (n30 != n16) (
    Post (.bool false) h32) (
    laws_FnExactSoundingIn.J10 Post ⟨g1, 0, none⟩ l15b l15l l15c n16 ⟨g21, 0, none⟩ l29b l29l l29c n30 h32))) h26) h23) h19) h12) h9) h5)) h2) h
noncomputable def laws_FnExactSoundingIn.code : Code := (Tryz.f6.body).getD .skip
theorem laws_FnExactSoundingIn.call {aP_0 : Array Value} {Post : Value → Heap → Prop} {h : Heap} (H : laws_FnExactSoundingIn.S aP_0 Post h) : CALL prg f_laws_FnExactSoundingIn #[.agg aP_0] Post h :=
  fn_call tau_ok mixed (c := laws_FnExactSoundingIn.code) (Λ := lookL [(10, laws_FnExactSoundingIn.j10 Post), (16, laws_FnExactSoundingIn.j16 Post)]) Tryz.func6 (by kernel_rfl) (by kernel_rfl)
    (Rq.seq (by kernel_rfl) (Rq.free (by kernel_rfl)) (Rq.seq (by kernel_rfl) (Rq.free (by kernel_rfl)) (Rq.seq (by kernel_rfl) (Rq.free (by kernel_rfl)) (Rq.seq (by kernel_rfl) (Rq.free (by kernel_rfl)) (Rq.seq (by kernel_rfl) (Rq.free (by kernel_rfl)) (Rq.seq (by kernel_rfl) (Rq.free (by kernel_rfl)) (Rq.seq (by kernel_rfl) (Rq.free (by kernel_rfl)) (Rq.seqJ (laws_FnExactSoundingIn.j10 Post) (by kernel_rfl) (seg (fun _ _ => by kernel_rfl)) (Rq.free (by kernel_rfl))
(Rq.seq (by kernel_rfl) (Rq.free (by kernel_rfl)) (Rq.seq (by kernel_rfl) (Rq.free (by kernel_rfl)) (Rq.seq (by kernel_rfl) (Rq.free (by kernel_rfl)) (Rq.seqJ (laws_FnExactSoundingIn.j16 Post) (by kernel_rfl) (seg (fun _ _ => by kernel_rfl)) (Rq.free (by kernel_rfl))
(Rq.free (by kernel_rfl))))))))))))))
    (Eq.mp (by kernel_rfl) H)

end Go.Sx
