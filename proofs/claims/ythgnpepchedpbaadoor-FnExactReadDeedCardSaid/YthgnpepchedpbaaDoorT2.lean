/- What functions of this seat's program compute, told in words (a predicate over heaps for each), and the proofs that the words are no more than the code's own weakest precondition. -/
import Derived.Test.YthgnpepchedpbaaDoorTab
namespace Go.Sx
open Go.Proofs
set_option linter.unusedVariables false
set_option maxRecDepth 100000

def spec_l01Split.B4 (Post : Value → Heap → Prop) (N4 : (ByteArray × Int × Option Addr × Nat × Nat × Int × Int) → Heap → Prop) : ByteArray × Int × Option Addr × Nat × Nat × Int × Int → Heap → Prop
  | (text_0, by_1, out_5b, out_5l, out_5c, from_6, i_7), h =>
    BIF ((decide (i_7 < ((ByteArray.size text_0) : Int)))) (
    IDX i_7 (ByteArray.size text_0) <|
    BIF ((byteAt text_0 i_7) == by_1) (
    SLB from_6 i_7 ((ByteArray.size text_0) : Int) <|
    ALC ⟨[.string (ByteArray.extract text_0 (Int.toNat from_6) (Int.toNat i_7))]⟩ T_string (fun g5 h6 =>
    SEMV prg (Builtin.append_ #[T_sl_string, T_sl_string] T_sl_string #[.slice out_5b out_5l out_5c, .slice (some ⟨g5, 0, none⟩) 1 1]) (fun q7 h8 =>
    asL q7 fun l9b l9l l9c =>
    N4 (text_0, by_1, l9b, l9l, l9c, ((IntKind.i64.wrap (i_7 + (1 : Int)))), ((IntKind.i64.wrap (i_7 + (1 : Int))))) h8) h6) h) (
    N4 (text_0, by_1, out_5b, out_5l, out_5c, from_6, ((IntKind.i64.wrap (i_7 + (1 : Int))))) h)) (
    SLB from_6 ((ByteArray.size text_0) : Int) ((ByteArray.size text_0) : Int) <|
    ALC ⟨[.string (ByteArray.extract text_0 (Int.toNat from_6) (ByteArray.size text_0))]⟩ T_string (fun g10 h11 =>
    SEMV prg (Builtin.append_ #[T_sl_string, T_sl_string] T_sl_string #[.slice out_5b out_5l out_5c, .slice (some ⟨g10, 0, none⟩) 1 1]) (fun q12 h13 =>
    asL q12 fun l14b l14l l14c =>
    Post (.slice l14b l14l l14c) h13) h11) h)
def spec_l01Split.g4 (fr : Frame) : ByteArray × Int × Option Addr × Nat × Nat × Int × Int := ((gS (lget fr 0)), (gI (lget fr 1)), (gLb (lget fr 5)), (gLl (lget fr 5)), (gLc (lget fr 5)), (gI (lget fr 6)), (gI (lget fr 7)))
def spec_l01Split.l4 (Post : Value → Heap → Prop) : Frame → Heap → Prop := fun fr h => GRD (shape (kds 35 [(0, .s), (1, .i .u8), (5, .l), (6, .i .i64), (7, .i .i64)]) fr) (LOOP (spec_l01Split.B4 Post) (spec_l01Split.g4 fr) h)
def spec_l01Split.S (text_0 : ByteArray) (by_1 : Int) (Post : Value → Heap → Prop) (h : Heap) : Prop :=
    ALC ⟨[]⟩ T_string (fun g1 h2 =>
    LOOP (spec_l01Split.B4 Post) (text_0, by_1, (some ⟨g1, 0, none⟩), 0, 0, (0 : Int), (0 : Int)) h2) h
noncomputable def spec_l01Split.code : Code := (Tryd.f18.body).getD .skip
theorem spec_l01Split.call {text_0 : ByteArray} {by_1 : Int} {Post : Value → Heap → Prop} {h : Heap} (H : spec_l01Split.S text_0 by_1 Post h) : CALL prg f_spec_l01Split #[.string text_0, .int .u8 by_1] Post h :=
  fn_call tau_ok mixed (c := spec_l01Split.code) (Λ := lookL [(1000004, spec_l01Split.l4 Post)]) Tryd.func18 (by kernel_rfl) (by kernel_rfl)
    (Rq.seq (by kernel_rfl) (Rq.free (by kernel_rfl)) (Rq.seq (by kernel_rfl) (Rq.free (by kernel_rfl)) (Rq.seq (by kernel_rfl) (Rq.free (by kernel_rfl)) (Rq.seq (by kernel_rfl) (Rq.seq (by kernel_rfl) (Rq.free (by kernel_rfl)) (Rq.block (Rq.loop (spec_l01Split.l4 Post) (by kernel_rfl) (segL (g := spec_l01Split.g4) tau_ok mixed (Λ := fun N4 => lookL []) (fun _ _ _ => by kernel_rfl) (fun N4 => (Rq.free (by kernel_rfl))))))) (Rq.free (by kernel_rfl))))))
    (Eq.mp (by kernel_rfl) H)

def spec_l01Number.J9 (N5 : (ByteArray × Int × Int) → Heap → Prop) (Post : Value → Heap → Prop) (s_0 : ByteArray) (n_4 : Int) (i_5 : Int) (h : Heap) : Prop :=
    IDX i_5 (ByteArray.size s_0) <|
    N5 (s_0, ((IntKind.i64.wrap ((IntKind.i64.wrap (n_4 * (10 : Int))) + (IntKind.i64.wrap ((IntKind.u8.wrap ((byteAt s_0 i_5) - (48 : Int)))))))), ((IntKind.i64.wrap (i_5 + (1 : Int))))) h
def spec_l01Number.j9 (N5 : (ByteArray × Int × Int) → Heap → Prop) (Post : Value → Heap → Prop) : Frame → Heap → Prop := fun fr h => GRD (shape (kds 49 [(0, .s), (4, .i .i64), (5, .i .i64)]) fr) (spec_l01Number.J9 N5 Post (gS (lget fr 0)) (gI (lget fr 4)) (gI (lget fr 5)) h)
def spec_l01Number.B5 (Post : Value → Heap → Prop) (N5 : (ByteArray × Int × Int) → Heap → Prop) : ByteArray × Int × Int → Heap → Prop
  | (s_0, n_4, i_5), h =>
    BIF ((decide (i_5 < ((ByteArray.size s_0) : Int)))) (
    IDX i_5 (ByteArray.size s_0) <|
    BIF ((decide ((byteAt s_0 i_5) < (48 : Int)))) (
    Post (.tuple ⟨[.int .i64 (0 : Int), .bool false]⟩) h) (
    IDX i_5 (ByteArray.size s_0) <|
    BIF ((decide ((57 : Int) < (byteAt s_0 i_5)))) (
    Post (.tuple ⟨[.int .i64 (0 : Int), .bool false]⟩) h) (
    spec_l01Number.J9 N5 Post s_0 n_4 i_5 h))) (
    Post (.tuple ⟨[.int .i64 n_4, .bool true]⟩) h)
def spec_l01Number.g5 (fr : Frame) : ByteArray × Int × Int := ((gS (lget fr 0)), (gI (lget fr 4)), (gI (lget fr 5)))
def spec_l01Number.l5 (Post : Value → Heap → Prop) : Frame → Heap → Prop := fun fr h => GRD (shape (kds 49 [(0, .s), (4, .i .i64), (5, .i .i64)]) fr) (LOOP (spec_l01Number.B5 Post) (spec_l01Number.g5 fr) h)
def spec_l01Number.J3 (Post : Value → Heap → Prop) (s_0 : ByteArray) (h : Heap) : Prop :=
    LOOP (spec_l01Number.B5 Post) (s_0, (0 : Int), (0 : Int)) h
def spec_l01Number.j3 (Post : Value → Heap → Prop) : Frame → Heap → Prop := fun fr h => GRD (shape (kds 49 [(0, .s)]) fr) (spec_l01Number.J3 Post (gS (lget fr 0)) h)
def spec_l01Number.S (s_0 : ByteArray) (Post : Value → Heap → Prop) (h : Heap) : Prop :=
    BIF ((decide (((ByteArray.size s_0) : Int) < (1 : Int)))) (
    Post (.tuple ⟨[.int .i64 (0 : Int), .bool false]⟩) h) (
    BIF ((decide ((9 : Int) < ((ByteArray.size s_0) : Int)))) (
    Post (.tuple ⟨[.int .i64 (0 : Int), .bool false]⟩) h) (
    IDX (0 : Int) (ByteArray.size s_0) <|
    BIF (((byteAt s_0 (0 : Int)) == (48 : Int))) (
    BIF ((decide ((1 : Int) < ((ByteArray.size s_0) : Int)))) (
    Post (.tuple ⟨[.int .i64 (0 : Int), .bool false]⟩) h) (
    spec_l01Number.J3 Post s_0 h)) (
    spec_l01Number.J3 Post s_0 h)))
noncomputable def spec_l01Number.code : Code := (Tryd.f19.body).getD .skip
theorem spec_l01Number.call {s_0 : ByteArray} {Post : Value → Heap → Prop} {h : Heap} (H : spec_l01Number.S s_0 Post h) : CALL prg f_spec_l01Number #[.string s_0] Post h :=
  fn_call tau_ok mixed (c := spec_l01Number.code) (Λ := lookL [(3, spec_l01Number.j3 Post), (1000005, spec_l01Number.l5 Post)]) Tryd.func19 (by kernel_rfl) (by kernel_rfl)
    (Rq.seq (by kernel_rfl) (Rq.free (by kernel_rfl)) (Rq.seqJ (spec_l01Number.j3 Post) (by kernel_rfl) (seg (fun _ _ => by kernel_rfl)) (Rq.free (by kernel_rfl))
(Rq.seq (by kernel_rfl) (Rq.free (by kernel_rfl)) (Rq.seq (by kernel_rfl) (Rq.seq (by kernel_rfl) (Rq.free (by kernel_rfl)) (Rq.block (Rq.loop (spec_l01Number.l5 Post) (by kernel_rfl) (segL (g := spec_l01Number.g5) tau_ok mixed (Λ := fun N5 => lookL [(9, spec_l01Number.j9 N5 Post)]) (fun _ _ _ => by kernel_rfl) (fun N5 => (Rq.seq (by kernel_rfl) (Rq.free (by kernel_rfl)) (Rq.seq (by kernel_rfl) (Rq.block (Rq.seqJ (spec_l01Number.j9 N5 Post) (by kernel_rfl) (seg (fun _ _ => by kernel_rfl)) (Rq.free (by kernel_rfl))
(Rq.free (by kernel_rfl)))) (Rq.free (by kernel_rfl))))))))) (Rq.free (by kernel_rfl))))))
    (Eq.mp (by kernel_rfl) H)

end Go.Sx
