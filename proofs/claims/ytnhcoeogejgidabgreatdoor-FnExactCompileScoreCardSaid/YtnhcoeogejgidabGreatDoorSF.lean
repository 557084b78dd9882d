/- What functions of this seat's program compute, told in words (a predicate over heaps for each), and the proofs that the words are no more than the code's own weakest precondition. -/
import Derived.Test.YtnhcoeogejgidabGreatDoorTab
import Derived.Test.YtnhcoeogejgidabGreatDoorShlS
import Derived.Test.YtnhcoeogejgidabGreatDoorLk97
import Derived.Test.YtnhcoeogejgidabGreatDoorLm20
import Derived.Test.YtnhcoeogejgidabGreatDoorLk0
namespace Go.Sx
open Go.Proofs
set_option linter.unusedVariables false
set_option maxRecDepth 100000

def slices_insertionSortCmpFunc_impl_Event.J6 (N1 : (Option Addr × Nat × Nat × Int × Int × Value × Int) → Heap → Prop) (N4 : (Option Addr × Nat × Nat × Int × Int × Value × Int × Int) → Heap → Prop) (Post : Value → Heap → Prop) (data_0b : Option Addr) (data_0l : Nat) (data_0c : Nat) (a_1 : Int) (b_2 : Int) (cmp_3 : Value) (i_8 : Int) (j_9 : Int) (h : Heap) : Prop :=
    IDXS data_0b ((IntKind.i64.wrap (j_9 - (1 : Int)))) data_0l fun p8 =>
    LDA 6 h ((Addr.add p8 ((Int.toNat ((IntKind.i64.wrap (j_9 - (1 : Int))))) * 6))) fun a9 =>
    IDXS data_0b j_9 data_0l fun p10 =>
    LDA 6 h ((Addr.add p10 ((Int.toNat j_9) * 6))) fun a11 =>
    IDXS data_0b j_9 data_0l fun p12 =>
    STA 6 h ((Addr.add p12 ((Int.toNat j_9) * 6))) a9 fun h13 =>
    IDXS data_0b ((IntKind.i64.wrap (j_9 - (1 : Int)))) data_0l fun p14 =>
    STA 6 h13 ((Addr.add p14 ((Int.toNat ((IntKind.i64.wrap (j_9 - (1 : Int))))) * 6))) a11 fun h15 =>
    N4 (data_0b, data_0l, data_0c, a_1, b_2, cmp_3, i_8, ((IntKind.i64.wrap (j_9 - (1 : Int))))) h15
def slices_insertionSortCmpFunc_impl_Event.j6 (N1 : (Option Addr × Nat × Nat × Int × Int × Value × Int) → Heap → Prop) (N4 : (Option Addr × Nat × Nat × Int × Int × Value × Int × Int) → Heap → Prop) (Post : Value → Heap → Prop) : Frame → Heap → Prop := fun fr h => GRD (shape (kds 53 [(0, .l), (1, .i .i64), (2, .i .i64), (3, .v), (8, .i .i64), (9, .i .i64)]) fr) (slices_insertionSortCmpFunc_impl_Event.J6 N1 N4 Post (gLb (lget fr 0)) (gLl (lget fr 0)) (gLc (lget fr 0)) (gI (lget fr 1)) (gI (lget fr 2)) (lget fr 3) (gI (lget fr 8)) (gI (lget fr 9)) h)
def slices_insertionSortCmpFunc_impl_Event.B4 (N1 : (Option Addr × Nat × Nat × Int × Int × Value × Int) → Heap → Prop) (Post : Value → Heap → Prop) (N4 : (Option Addr × Nat × Nat × Int × Int × Value × Int × Int) → Heap → Prop) : Option Addr × Nat × Nat × Int × Int × Value × Int × Int → Heap → Prop
  | (data_0b, data_0l, data_0c, a_1, b_2, cmp_3, i_8, j_9), h =>
    BIF (decide (a_1 < j_9)) (
    IDXS data_0b j_9 data_0l fun p1 =>
    LDA 6 h ((Addr.add p1 ((Int.toNat j_9) * 6))) fun a2 =>
    IDXS data_0b ((IntKind.i64.wrap (j_9 - (1 : Int)))) data_0l fun p3 =>
    LDA 6 h ((Addr.add p3 ((Int.toNat ((IntKind.i64.wrap (j_9 - (1 : Int))))) * 6))) fun a4 =>
    CALLD prg cmp_3 #[.agg a2, .agg a4] (fun q5 h6 =>
    asI .i64 q5 fun n7 =>
    BIF ((decide (n7 < (0 : Int)))) (
    slices_insertionSortCmpFunc_impl_Event.J6 N1 N4 Post data_0b data_0l data_0c a_1 b_2 cmp_3 i_8 j_9 h6) (
    N1 (data_0b, data_0l, data_0c, a_1, b_2, cmp_3, ((IntKind.i64.wrap (i_8 + (1 : Int))))) h6)) h) (
    N1 (data_0b, data_0l, data_0c, a_1, b_2, cmp_3, ((IntKind.i64.wrap (i_8 + (1 : Int))))) h)
def slices_insertionSortCmpFunc_impl_Event.g4 (fr : Frame) : Option Addr × Nat × Nat × Int × Int × Value × Int × Int := ((gLb (lget fr 0)), (gLl (lget fr 0)), (gLc (lget fr 0)), (gI (lget fr 1)), (gI (lget fr 2)), (lget fr 3), (gI (lget fr 8)), (gI (lget fr 9)))
def slices_insertionSortCmpFunc_impl_Event.l4 (N1 : (Option Addr × Nat × Nat × Int × Int × Value × Int) → Heap → Prop) (Post : Value → Heap → Prop) : Frame → Heap → Prop := fun fr h => GRD (shape (kds 53 [(0, .l), (1, .i .i64), (2, .i .i64), (3, .v), (8, .i .i64), (9, .i .i64)]) fr) (LOOP (slices_insertionSortCmpFunc_impl_Event.B4 N1 Post) (slices_insertionSortCmpFunc_impl_Event.g4 fr) h)
def slices_insertionSortCmpFunc_impl_Event.B1 (Post : Value → Heap → Prop) (N1 : (Option Addr × Nat × Nat × Int × Int × Value × Int) → Heap → Prop) : Option Addr × Nat × Nat × Int × Int × Value × Int → Heap → Prop
  | (data_0b, data_0l, data_0c, a_1, b_2, cmp_3, i_8), h =>
    BIF (decide (i_8 < b_2)) (
    LOOP (slices_insertionSortCmpFunc_impl_Event.B4 N1 Post) (data_0b, data_0l, data_0c, a_1, b_2, cmp_3, i_8, i_8) h) (
    Post (.tuple ⟨[]⟩) h)
def slices_insertionSortCmpFunc_impl_Event.g1 (fr : Frame) : Option Addr × Nat × Nat × Int × Int × Value × Int := ((gLb (lget fr 0)), (gLl (lget fr 0)), (gLc (lget fr 0)), (gI (lget fr 1)), (gI (lget fr 2)), (lget fr 3), (gI (lget fr 8)))
def slices_insertionSortCmpFunc_impl_Event.l1 (Post : Value → Heap → Prop) : Frame → Heap → Prop := fun fr h => GRD (shape (kds 53 [(0, .l), (1, .i .i64), (2, .i .i64), (3, .v), (8, .i .i64)]) fr) (LOOP (slices_insertionSortCmpFunc_impl_Event.B1 Post) (slices_insertionSortCmpFunc_impl_Event.g1 fr) h)
def slices_insertionSortCmpFunc_impl_Event.S (data_0b : Option Addr) (data_0l data_0c : Nat) (a_1 : Int) (b_2 : Int) (cmp_3 : Value) (Post : Value → Heap → Prop) (h : Heap) : Prop :=
    LOOP (slices_insertionSortCmpFunc_impl_Event.B1 Post) (data_0b, data_0l, data_0c, a_1, b_2, cmp_3, ((IntKind.i64.wrap (a_1 + (1 : Int))))) h
noncomputable def slices_insertionSortCmpFunc_impl_Event.code : Code := (Tryz.f89.body).getD .skip
theorem slices_insertionSortCmpFunc_impl_Event.call {data_0b : Option Addr} {data_0l data_0c : Nat} {a_1 : Int} {b_2 : Int} {cmp_3 : Value} {Post : Value → Heap → Prop} {h : Heap} (H : slices_insertionSortCmpFunc_impl_Event.S data_0b data_0l data_0c a_1 b_2 cmp_3 Post h) : CALL prg f_slices_insertionSortCmpFunc_impl_Event #[.slice data_0b data_0l data_0c, .int .i64 a_1, .int .i64 b_2, cmp_3] Post h :=
  fn_call tau_ok mixed (c := slices_insertionSortCmpFunc_impl_Event.code) (Λ := lookL [(1000001, slices_insertionSortCmpFunc_impl_Event.l1 Post)]) Tryz.func89 (by kernel_rfl) (by kernel_rfl)
    (Rq.seq (by kernel_rfl) (Rq.free (by kernel_rfl)) (Rq.block (Rq.loop (slices_insertionSortCmpFunc_impl_Event.l1 Post) (by kernel_rfl) (segL (g := slices_insertionSortCmpFunc_impl_Event.g1) tau_ok mixed (Λ := fun N1 => lookL [(1000004, slices_insertionSortCmpFunc_impl_Event.l4 N1 Post)]) (fun _ _ _ => by kernel_rfl) (fun N1 => (Rq.seq (by kernel_rfl) (Rq.free (by kernel_rfl)) (Rq.seq (by kernel_rfl) (Rq.block (Rq.seq (by kernel_rfl) (Rq.free (by kernel_rfl)) (Rq.block (Rq.loop (slices_insertionSortCmpFunc_impl_Event.l4 N1 Post) (by kernel_rfl) (segL (g := slices_insertionSortCmpFunc_impl_Event.g4) tau_ok mixed (Λ := fun N4 => lookL [(6, slices_insertionSortCmpFunc_impl_Event.j6 N1 N4 Post)]) (fun _ _ _ => by kernel_rfl) (fun N4 => (Rq.seqJ (slices_insertionSortCmpFunc_impl_Event.j6 N1 N4 Post) (by kernel_rfl) (seg (fun _ _ => by kernel_rfl)) (Rq.free (by kernel_rfl))
(Rq.free (by kernel_rfl))))))))) (Rq.free (by kernel_rfl)))))))))
    (Eq.mp (by kernel_rfl) H)

def slices_pdqsortCmpFunc_impl_Event.J20 (N2 : (Option Addr × Nat × Nat × Int × Int × Int × Value × Bool × Bool) → Heap → Prop) (Post : Value → Heap → Prop) (data_0b : Option Addr) (data_0l : Nat) (data_0c : Nat) (a_1 : Int) (b_2 : Int) (limit_3 : Int) (cmp_4 : Value) (length_12 : Int) (pivot_13 : Int) (h : Heap) : Prop :=
    CALL prg f_slices_partitionCmpFunc_impl_Event #[.slice data_0b data_0l data_0c, .int .i64 a_1, .int .i64 b_2, .int .i64 pivot_13, cmp_4] (fun q28 h29 =>
    TUP2 q28 fun q30 q31 =>
    asI .i64 q30 fun n32 =>
    asB q31 fun b33 =>
    NZ (8 : Int) <|
    BIF ((decide ((IntKind.i64.wrap (n32 - a_1)) < (IntKind.i64.wrap (b_2 - n32))))) (
    CALL prg f_slices_pdqsortCmpFunc_impl_Event #[.slice data_0b data_0l data_0c, .int .i64 a_1, .int .i64 n32, .int .i64 limit_3, cmp_4] (fun q34 h35 =>
    N2 (data_0b, data_0l, data_0c, ((IntKind.i64.wrap (n32 + (1 : Int)))), b_2, limit_3, cmp_4, ((decide ((IntKind.i64.wrap (Int.tdiv length_12 (8 : Int))) ≤ (IntKind.i64.wrap (n32 - a_1))))), b33) h35) h29) (
    CALL prg f_slices_pdqsortCmpFunc_impl_Event #[.slice data_0b data_0l data_0c, .int .i64 ((IntKind.i64.wrap (n32 + (1 : Int)))), .int .i64 b_2, .int .i64 limit_3, cmp_4] (fun q36 h37 =>
    N2 (data_0b, data_0l, data_0c, a_1, n32, limit_3, cmp_4, ((decide ((IntKind.i64.wrap (Int.tdiv length_12 (8 : Int))) ≤ (IntKind.i64.wrap (b_2 - n32))))), b33) h37) h29)) h
def slices_pdqsortCmpFunc_impl_Event.j20 (N2 : (Option Addr × Nat × Nat × Int × Int × Int × Value × Bool × Bool) → Heap → Prop) (Post : Value → Heap → Prop) : Frame → Heap → Prop := fun fr h => GRD (shape (kds 148 [(0, .l), (1, .i .i64), (2, .i .i64), (3, .i .i64), (4, .v), (12, .i .i64), (13, .i .i64)]) fr) (slices_pdqsortCmpFunc_impl_Event.J20 N2 Post (gLb (lget fr 0)) (gLl (lget fr 0)) (gLc (lget fr 0)) (gI (lget fr 1)) (gI (lget fr 2)) (gI (lget fr 3)) (lget fr 4) (gI (lget fr 12)) (gI (lget fr 13)) h)
def slices_pdqsortCmpFunc_impl_Event.J17 (N2 : (Option Addr × Nat × Nat × Int × Int × Int × Value × Bool × Bool) → Heap → Prop) (Post : Value → Heap → Prop) (data_0b : Option Addr) (data_0l : Nat) (data_0c : Nat) (a_1 : Int) (b_2 : Int) (limit_3 : Int) (cmp_4 : Value) (wasBalanced_10 : Bool) (wasPartitioned_11 : Bool) (length_12 : Int) (pivot_13 : Int) (h : Heap) : Prop :=
    BIF ((decide ((0 : Int) < a_1))) (
    IDXS data_0b ((IntKind.i64.wrap (a_1 - (1 : Int)))) data_0l fun p18 =>
    LDA 6 h ((Addr.add p18 ((Int.toNat ((IntKind.i64.wrap (a_1 - (1 : Int))))) * 6))) fun a19 =>
    IDXS data_0b pivot_13 data_0l fun p20 =>
    LDA 6 h ((Addr.add p20 ((Int.toNat pivot_13) * 6))) fun a21 =>
    CALLD prg cmp_4 #[.agg a19, .agg a21] (fun q22 h23 =>
    asI .i64 q22 fun n24 =>
    BIF ((!(decide (n24 < (0 : Int))))) (
    CALL prg f_slices_partitionEqualCmpFunc_impl_Event #[.slice data_0b data_0l data_0c, .int .i64 a_1, .int .i64 b_2, .int .i64 pivot_13, cmp_4] (fun q25 h26 =>
    asI .i64 q25 fun n27 =>
    N2 (data_0b, data_0l, data_0c, n27, b_2, limit_3, cmp_4, wasBalanced_10, wasPartitioned_11) h26) h23) (
    slices_pdqsortCmpFunc_impl_Event.J20 N2 Post data_0b data_0l data_0c a_1 b_2 limit_3 cmp_4 length_12 pivot_13 h23)) h) (
    slices_pdqsortCmpFunc_impl_Event.J20 N2 Post data_0b data_0l data_0c a_1 b_2 limit_3 cmp_4 length_12 pivot_13 h)
def slices_pdqsortCmpFunc_impl_Event.j17 (N2 : (Option Addr × Nat × Nat × Int × Int × Int × Value × Bool × Bool) → Heap → Prop) (Post : Value → Heap → Prop) : Frame → Heap → Prop := fun fr h => GRD (shape (kds 148 [(0, .l), (1, .i .i64), (2, .i .i64), (3, .i .i64), (4, .v), (10, .b), (11, .b), (12, .i .i64), (13, .i .i64)]) fr) (slices_pdqsortCmpFunc_impl_Event.J17 N2 Post (gLb (lget fr 0)) (gLl (lget fr 0)) (gLc (lget fr 0)) (gI (lget fr 1)) (gI (lget fr 2)) (gI (lget fr 3)) (lget fr 4) (gB (lget fr 10)) (gB (lget fr 11)) (gI (lget fr 12)) (gI (lget fr 13)) h)
def slices_pdqsortCmpFunc_impl_Event.J15 (N2 : (Option Addr × Nat × Nat × Int × Int × Int × Value × Bool × Bool) → Heap → Prop) (Post : Value → Heap → Prop) (data_0b : Option Addr) (data_0l : Nat) (data_0c : Nat) (a_1 : Int) (b_2 : Int) (limit_3 : Int) (cmp_4 : Value) (wasBalanced_10 : Bool) (wasPartitioned_11 : Bool) (length_12 : Int) (pivot_13 : Int) (hint_14 : Int) (h : Heap) : Prop :=
    BIF wasBalanced_10 (
    BIF wasPartitioned_11 (
    BIF (hint_14 == (1 : Int)) (
    CALL prg f_slices_partialInsertionSortCmpFunc_impl_Event #[.slice data_0b data_0l data_0c, .int .i64 a_1, .int .i64 b_2, cmp_4] (fun q15 h16 =>
    asB q15 fun b17 =>
    BIF b17 (
    Post (.tuple ⟨[]⟩) h16) (
    slices_pdqsortCmpFunc_impl_Event.J17 N2 Post data_0b data_0l data_0c a_1 b_2 limit_3 cmp_4 wasBalanced_10 wasPartitioned_11 length_12 pivot_13 h16)) h) (
    slices_pdqsortCmpFunc_impl_Event.J17 N2 Post data_0b data_0l data_0c a_1 b_2 limit_3 cmp_4 wasBalanced_10 wasPartitioned_11 length_12 pivot_13 h)) (
    slices_pdqsortCmpFunc_impl_Event.J17 N2 Post data_0b data_0l data_0c a_1 b_2 limit_3 cmp_4 wasBalanced_10 wasPartitioned_11 length_12 pivot_13 h)) (
    slices_pdqsortCmpFunc_impl_Event.J17 N2 Post data_0b data_0l data_0c a_1 b_2 limit_3 cmp_4 wasBalanced_10 wasPartitioned_11 length_12 pivot_13 h)
def slices_pdqsortCmpFunc_impl_Event.j15 (N2 : (Option Addr × Nat × Nat × Int × Int × Int × Value × Bool × Bool) → Heap → Prop) (Post : Value → Heap → Prop) : Frame → Heap → Prop := fun fr h => GRD (shape (kds 148 [(0, .l), (1, .i .i64), (2, .i .i64), (3, .i .i64), (4, .v), (10, .b), (11, .b), (12, .i .i64), (13, .i .i64), (14, .i .i64)]) fr) (slices_pdqsortCmpFunc_impl_Event.J15 N2 Post (gLb (lget fr 0)) (gLl (lget fr 0)) (gLc (lget fr 0)) (gI (lget fr 1)) (gI (lget fr 2)) (gI (lget fr 3)) (lget fr 4) (gB (lget fr 10)) (gB (lget fr 11)) (gI (lget fr 12)) (gI (lget fr 13)) (gI (lget fr 14)) h)
def slices_pdqsortCmpFunc_impl_Event.J10 (N2 : (Option Addr × Nat × Nat × Int × Int × Int × Value × Bool × Bool) → Heap → Prop) (Post : Value → Heap → Prop) (data_0b : Option Addr) (data_0l : Nat) (data_0c : Nat) (a_1 : Int) (b_2 : Int) (limit_3 : Int) (cmp_4 : Value) (wasBalanced_10 : Bool) (wasPartitioned_11 : Bool) (length_12 : Int) (h : Heap) : Prop :=
    CALL prg f_slices_choosePivotCmpFunc_impl_Event #[.slice data_0b data_0l data_0c, .int .i64 a_1, .int .i64 b_2, cmp_4] (fun q7 h8 =>
    TUP2 q7 fun q9 q10 =>
    asI .i64 q9 fun n11 =>
    asI .i64 q10 fun n12 =>
    BIF (n12 == (2 : Int)) (
    CALL prg f_slices_reverseRangeCmpFunc_impl_Event #[.slice data_0b data_0l data_0c, .int .i64 a_1, .int .i64 b_2, cmp_4] (fun q13 h14 =>
    slices_pdqsortCmpFunc_impl_Event.J15 N2 Post data_0b data_0l data_0c a_1 b_2 limit_3 cmp_4 wasBalanced_10 wasPartitioned_11 length_12 ((IntKind.i64.wrap ((IntKind.i64.wrap (b_2 - (1 : Int))) - (IntKind.i64.wrap (n11 - a_1))))) (1 : Int) h14) h8) (
    slices_pdqsortCmpFunc_impl_Event.J15 N2 Post data_0b data_0l data_0c a_1 b_2 limit_3 cmp_4 wasBalanced_10 wasPartitioned_11 length_12 n11 n12 h8)) h
def slices_pdqsortCmpFunc_impl_Event.j10 (N2 : (Option Addr × Nat × Nat × Int × Int × Int × Value × Bool × Bool) → Heap → Prop) (Post : Value → Heap → Prop) : Frame → Heap → Prop := fun fr h => GRD (shape (kds 148 [(0, .l), (1, .i .i64), (2, .i .i64), (3, .i .i64), (4, .v), (10, .b), (11, .b), (12, .i .i64)]) fr) (slices_pdqsortCmpFunc_impl_Event.J10 N2 Post (gLb (lget fr 0)) (gLl (lget fr 0)) (gLc (lget fr 0)) (gI (lget fr 1)) (gI (lget fr 2)) (gI (lget fr 3)) (lget fr 4) (gB (lget fr 10)) (gB (lget fr 11)) (gI (lget fr 12)) h)
def slices_pdqsortCmpFunc_impl_Event.B2 (Post : Value → Heap → Prop) (N2 : (Option Addr × Nat × Nat × Int × Int × Int × Value × Bool × Bool) → Heap → Prop) : Option Addr × Nat × Nat × Int × Int × Int × Value × Bool × Bool → Heap → Prop
  | (data_0b, data_0l, data_0c, a_1, b_2, limit_3, cmp_4, wasBalanced_10, wasPartitioned_11), h =>
    BIF ((decide ((IntKind.i64.wrap (b_2 - a_1)) ≤ (12 : Int)))) (
    CALL prg f_slices_insertionSortCmpFunc_impl_Event #[.slice data_0b data_0l data_0c, .int .i64 a_1, .int .i64 b_2, cmp_4] (fun q1 h2 =>
    Post (.tuple ⟨[]⟩) h2) h) (
    BIF (limit_3 == (0 : Int)) (
    CALL prg f_slices_heapSortCmpFunc_impl_Event #[.slice data_0b data_0l data_0c, .int .i64 a_1, .int .i64 b_2, cmp_4] (fun q3 h4 =>
    Post (.tuple ⟨[]⟩) h4) h) (
    BIF (!wasBalanced_10) (
    CALL prg f_slices_breakPatternsCmpFunc_impl_Event #[.slice data_0b data_0l data_0c, .int .i64 a_1, .int .i64 b_2, cmp_4] (fun q5 h6 =>
    slices_pdqsortCmpFunc_impl_Event.J10 N2 Post data_0b data_0l data_0c a_1 b_2 ((IntKind.i64.wrap (limit_3 - (1 : Int)))) cmp_4 wasBalanced_10 wasPartitioned_11 (IntKind.i64.wrap (b_2 - a_1)) h6) h) (
    slices_pdqsortCmpFunc_impl_Event.J10 N2 Post data_0b data_0l data_0c a_1 b_2 limit_3 cmp_4 wasBalanced_10 wasPartitioned_11 (IntKind.i64.wrap (b_2 - a_1)) h)))
def slices_pdqsortCmpFunc_impl_Event.g2 (fr : Frame) : Option Addr × Nat × Nat × Int × Int × Int × Value × Bool × Bool := ((gLb (lget fr 0)), (gLl (lget fr 0)), (gLc (lget fr 0)), (gI (lget fr 1)), (gI (lget fr 2)), (gI (lget fr 3)), (lget fr 4), (gB (lget fr 10)), (gB (lget fr 11)))
def slices_pdqsortCmpFunc_impl_Event.l2 (Post : Value → Heap → Prop) : Frame → Heap → Prop := fun fr h => GRD (shape (kds 148 [(0, .l), (1, .i .i64), (2, .i .i64), (3, .i .i64), (4, .v), (10, .b), (11, .b)]) fr) (LOOP (slices_pdqsortCmpFunc_impl_Event.B2 Post) (slices_pdqsortCmpFunc_impl_Event.g2 fr) h)
def slices_pdqsortCmpFunc_impl_Event.S (data_0b : Option Addr) (data_0l data_0c : Nat) (a_1 : Int) (b_2 : Int) (limit_3 : Int) (cmp_4 : Value) (Post : Value → Heap → Prop) (h : Heap) : Prop :=
    LOOP (slices_pdqsortCmpFunc_impl_Event.B2 Post) (data_0b, data_0l, data_0c, a_1, b_2, limit_3, cmp_4, true, true) h
noncomputable def slices_pdqsortCmpFunc_impl_Event.code : Code := (Tryz.f60.body).getD .skip
theorem slices_pdqsortCmpFunc_impl_Event.call {data_0b : Option Addr} {data_0l data_0c : Nat} {a_1 : Int} {b_2 : Int} {limit_3 : Int} {cmp_4 : Value} {Post : Value → Heap → Prop} {h : Heap} (H : slices_pdqsortCmpFunc_impl_Event.S data_0b data_0l data_0c a_1 b_2 limit_3 cmp_4 Post h) : CALL prg f_slices_pdqsortCmpFunc_impl_Event #[.slice data_0b data_0l data_0c, .int .i64 a_1, .int .i64 b_2, .int .i64 limit_3, cmp_4] Post h :=
  fn_call tau_ok mixed (c := slices_pdqsortCmpFunc_impl_Event.code) (Λ := lookL [(1000002, slices_pdqsortCmpFunc_impl_Event.l2 Post)]) Tryz.func60 (by kernel_rfl) (by kernel_rfl)
    (Rq.seq (by kernel_rfl) (Rq.free (by kernel_rfl)) (Rq.seq (by kernel_rfl) (Rq.free (by kernel_rfl)) (Rq.block (Rq.loop (slices_pdqsortCmpFunc_impl_Event.l2 Post) (by kernel_rfl) (segL (g := slices_pdqsortCmpFunc_impl_Event.g2) tau_ok mixed (Λ := fun N2 => lookL [(10, slices_pdqsortCmpFunc_impl_Event.j10 N2 Post), (15, slices_pdqsortCmpFunc_impl_Event.j15 N2 Post), (17, slices_pdqsortCmpFunc_impl_Event.j17 N2 Post), (20, slices_pdqsortCmpFunc_impl_Event.j20 N2 Post)]) (fun _ _ _ => by kernel_rfl) (fun N2 => (Rq.block (Rq.seq (by kernel_rfl) (Rq.free (by kernel_rfl)) (Rq.seq (by kernel_rfl) (Rq.free (by kernel_rfl)) (Rq.seq (by kernel_rfl) (Rq.free (by kernel_rfl)) (Rq.seqJ (slices_pdqsortCmpFunc_impl_Event.j10 N2 Post) (by kernel_rfl) (seg (fun _ _ => by kernel_rfl)) (Rq.free (by kernel_rfl))
(Rq.seq (by kernel_rfl) (Rq.free (by kernel_rfl)) (Rq.seqJ (slices_pdqsortCmpFunc_impl_Event.j15 N2 Post) (by kernel_rfl) (seg (fun _ _ => by kernel_rfl)) (Rq.free (by kernel_rfl))
(Rq.seqJ (slices_pdqsortCmpFunc_impl_Event.j17 N2 Post) (by kernel_rfl) (seg (fun _ _ => by kernel_rfl)) (Rq.free (by kernel_rfl))
(Rq.seqJ (slices_pdqsortCmpFunc_impl_Event.j20 N2 Post) (by kernel_rfl) (seg (fun _ _ => by kernel_rfl)) (Rq.free (by kernel_rfl))
(Rq.free (by kernel_rfl)))))))))))))))))
    (Eq.mp (by kernel_rfl) H)

def slices_SortFunc_sl_impl_Event_impl_Event.S (x_0b : Option Addr) (x_0l x_0c : Nat) (cmp_1 : Value) (Post : Value → Heap → Prop) (h : Heap) : Prop :=
    CALL prg f_math_bits_Len #[.int .u64 (IntKind.u64.wrap (x_0l : Int))] (fun q3 h4 =>
    asI .i64 q3 fun n5 =>
    CALL prg f_slices_pdqsortCmpFunc_impl_Event #[.slice x_0b x_0l x_0c, .int .i64 (0 : Int), .int .i64 (x_0l : Int), .int .i64 n5, cmp_1] (fun q6 h7 =>
    Post (.tuple ⟨[]⟩) h7) h4) h
noncomputable def slices_SortFunc_sl_impl_Event_impl_Event.code : Code := (Tryz.f23.body).getD .skip
theorem slices_SortFunc_sl_impl_Event_impl_Event.call {x_0b : Option Addr} {x_0l x_0c : Nat} {cmp_1 : Value} {Post : Value → Heap → Prop} {h : Heap} (H : slices_SortFunc_sl_impl_Event_impl_Event.S x_0b x_0l x_0c cmp_1 Post h) : CALL prg f_slices_SortFunc_sl_impl_Event_impl_Event #[.slice x_0b x_0l x_0c, cmp_1] Post h :=
  fn_call tau_ok mixed (c := slices_SortFunc_sl_impl_Event_impl_Event.code) (Λ := lookL []) Tryz.func23 (by kernel_rfl) (by kernel_rfl)
    (Rq.free (by kernel_rfl))
    (Eq.mp (by kernel_rfl) H)

end Go.Sx
/- The library's sort of events, as a contract of ours. -/
set_option linter.unusedVariables false
set_option linter.unusedSimpArgs false
namespace Go.Sx
open Go.Proofs Go.Sort Go.RowKit
set_option maxRecDepth 100000
set_option maxHeartbeats 1000000

section
variable {h : Heap}
theorem Sort_none {b : Option Addr} {c : Nat} {fv : Value} : CALL prg f_slices_SortFunc_sl_impl_Event_impl_Event #[.slice b 0 c, fv] (fun u h' => u = .tuple ⟨[]⟩ ∧ Ext h h') h := by
  refine slices_SortFunc_sl_impl_Event_impl_Event.call ((Len_c (l := 0) (by omega)).mono ?_)
  rintro _ h1 ⟨⟨n, rfl⟩, x1⟩
  have ins : ∀ h1, CALL prg f_slices_insertionSortCmpFunc_impl_Event #[.slice b 0 c, .int .i64 0, .int .i64 0, fv] (fun u h' => u = .tuple ⟨[]⟩ ∧ Ext h1 h') h1 := fun h1 => by
    refine slices_insertionSortCmpFunc_impl_Event.call ?_
    refine loop (fun y hh => ∃ i : Int, y = (b, 0, c, (0 : Int), (0 : Int), fv, i) ∧ 1 ≤ i ∧ Ext h1 hh) (fun _ => 0) ⟨1, rfl, by omega, Ext.refl _⟩ ?_
    rintro y hh ⟨i, rfl, hi, X⟩
    refine brd (fun k => ?_) fun _ => ⟨rfl, X⟩
    omega
  have pd : CALL prg f_slices_pdqsortCmpFunc_impl_Event #[.slice b 0 c, .int .i64 0, .int .i64 0, .int .i64 n, fv] (fun u h' => u = .tuple ⟨[]⟩ ∧ Ext h1 h') h1 := by
    refine slices_pdqsortCmpFunc_impl_Event.call ?_
    refine loop (fun y hh => ∃ z : Int, y = (b, 0, c, z, z, n, fv, true, true) ∧ z = 0 ∧ Ext h1 hh) (fun _ => 0) ⟨0, rfl, rfl, Ext.refl _⟩ ?_
    rintro y hh ⟨z, rfl, hz, X⟩
    refine brd (fun _ => ?_) fun k => ?_
    · subst hz
      exact goE X (ins hh) fun h3 x3 => ⟨rfl, x3⟩
    · subst hz
      exact absurd (show IntKind.i64.wrap ((0 : Int) - 0) ≤ 12 by decide) k
  exact as_i (goE x1 pd fun h2 x2 => ⟨rfl, x2⟩)
theorem enters_c1 (args : Array Value) (w : World) : (callFunc f_impl_compareEvents_c1 args).run prg w = .ok (.enter f_impl_compareEvents_c1 args) w := by
  unfold callFunc
  simp only [Sem.run_bind, run_program, Result.andThen_ok, Md.impl_compareEvents_c1.fn]
  rfl
theorem SortEvents_c {h0 : Heap} {B L : List Blk} {b : Option Addr} {l c g gc : Nat} {es : List GEvent} (O : SlO T_impl_Event rEvent B b l c es) (M : Mem h0 h (B ++ L)) (hc : cell h ⟨gc, 0, none⟩ = some (.map (some g))) (MI : MapI h g (ownM es))
    (hd : ∀ p ∈ B, p.1 ≠ g ∧ p.1 ≠ gc) (hl : l ≤ 4294967296) :
    CALL prg f_slices_SortFunc_sl_impl_Event_impl_Event #[.slice b l c, .func (.func f_impl_compareEvents_c1) #[] #[.pointer (some ⟨gc, 0, none⟩)]]
      (fun u h' => u = .tuple ⟨[]⟩ ∧ ∃ B' m, SlO T_impl_Event rEvent B' b l c m ∧ Mem h0 h' (B' ++ L) ∧ m.Perm es ∧ ∀ x y, x < y → y < m.length → lt4 (keyM es m[y]!) (keyM es m[x]!) = false) h := by
  have hlen : es.length = l := O.1
  by_cases hz : l = 0
  · subst hz
    refine Sort_none.mono ?_
    rintro _ h1 ⟨rfl, x1⟩
    exact ⟨rfl, B, es, O, M.grow x1, List.Perm.refl _, fun x y h1 h2 => by omega⟩
  obtain ⟨_, ws, B1, B2, rfl, Ow, h3⟩ := O
  rcases Ow.2 with ⟨_, _, h4, _⟩ | ⟨g0, cs, rfl, rfl, h5, h6, h7, h8⟩
  · omega
  have h7 : cs.size = c * 6 := h7
  have h8 : cs.toList.take (l * 6) = ws := h8
  have M1 : Mem h0 h ((g0, T_impl_Event, cs) :: (B2 ++ L)) := by simpa using M
  obtain ⟨d, e1, e2⟩ := encs_of (h3.look M1 ((List.sublist_append_left _ _).trans (List.sublist_cons_self _ _)))
  have hdl : d.length = l := by rw [← hlen, ← e1, List.length_map]
  obtain ⟨n1, n2⟩ := hd (g0, T_impl_Event, cs) (by simp)
  have n1 : g0 ≠ g := n1
  have n2 : g0 ≠ gc := n2
  have hb : g0 < h.size := M1.lt (.head _)
  obtain ⟨nm, k1, k2⟩ := LS.f6
  refine CALL_of_calls k2 rfl k1 fun w hw => ?_
  subst hw
  have hH : HoldsK encE 6 w g0 0 d.toArray := by
    intro j hj
    rw [Go.Sort.size_flatK] at hj
    have hj : j < d.length * 6 := hj
    constructor
    · rw [Nat.zero_add, cell_eq, M1.cell .here]
      have : cs[j]? = (cs.toList.take (l * 6))[j]? := by rw [List.getElem?_take_of_lt (by omega), Array.getElem?_toList]
      rw [this, h8, e2, flat_get hj, Go.Sort.get_flatK encE 6 d.toArray j hj]; rfl
    · rw [froz_eq]
      exact M1.froz .here _
  have hsz : d.toArray.size = l := hdl
  have key := AnyQ.slices_SortFunc LS 6 aES zES encE encE_len encE_one (cfE es) (swoE es) f_impl_compareEvents_c1 #[.pointer (some ⟨gc, 0, none⟩)] g0 0 c d.toArray w enters_c1 (cmp_lays hc MI (Ne.symm n1) (Ne.symm n2)) hH hb (by rw [hsz]; omega)
  rw [hsz] at key
  refine Calls.mono key ?_
  rintro e w' ⟨rfl, d', n, os, ⟨p1, _, p3⟩, so, rfl⟩
  obtain ⟨dl⟩ := d'
  have hdl' : dl.length = l := by rw [← hsz]; exact p1
  have p3 : dl.Perm d := by
    have a1 : (Array.extract (⟨dl⟩ : Array REv) 0 l).toList = dl := by simp [← hdl']
    have a2 : (Array.extract d.toArray 0 l).toList = d := by simp [← hdl]
    rw [a1, a2] at p3
    exact p3
  refine ⟨_, rfl, ⟨rfl, rfl, rfl, fun e => by cases e⟩, rfl, [(g0, T_impl_Event, Go.Sort.putCells id 0 (Go.Sort.flatK encE 6 dl.toArray) cs)], dl.map (fun x => x.1.1), ⟨by rw [List.length_map, hdl'], (dl.map encE).flatten, [(g0, T_impl_Event, Go.Sort.putCells id 0 (Go.Sort.flatK encE 6 dl.toArray) cs)], [], rfl, ⟨?_, .inr ⟨g0, _, rfl, rfl, h5, h6, ?_, ?_⟩⟩, encs_ow dl⟩, ?_, ?_, fun x y hxy hy => ?_⟩
  · rw [encs_len, hdl']; rfl
  · show (Array.mapIdx _ cs).size = _
    rw [Array.size_mapIdx]; exact h7
  · have := take_put (d := dl) (cs := cs) (by rw [hdl', h7]; exact Nat.mul_le_mul_right _ h5)
    rw [hdl'] at this
    exact this
  · exact (M1.sorted (d := dl)).sub (List.Sublist.cons_cons _ (List.sublist_append_right _ _))
  · rw [← e1]; exact p3.map _
  · rw [List.length_map] at hy
    have := so x y (Nat.zero_le _) hxy (by omega)
    rw [cfE_lt] at this
    rw [getElem!_pos _ y (by rw [List.length_map]; exact hy), getElem!_pos _ x (by rw [List.length_map]; omega), List.getElem_map, List.getElem_map]
    have g1 : (⟨dl⟩ : Array REv)[y]! = dl[y] := by rw [getElem!_pos (⟨dl⟩ : Array REv) y hy]; rfl
    have g2 : (⟨dl⟩ : Array REv)[x]! = dl[x]'(by omega) := by rw [getElem!_pos (⟨dl⟩ : Array REv) x (show x < dl.length by omega)]; rfl
    rw [g1, g2] at this
    exact this
end
end Go.Sx
/- The events of a score sorted by the program. -/
set_option linter.unusedVariables false
set_option linter.unusedSimpArgs false
namespace Go.Sx
open Go.Proofs
set_option maxRecDepth 100000
set_option maxHeartbeats 1000000

section
variable {α : Type} {r : Rep α} {h0 h : Heap} {q : Addr} {F : Fr} {L : List Blk} {a : α} {off : Nat} {get : α → List GEvent} {put : α → List GEvent → α}
theorem Pt.sortE {K : Heap → Prop} {ns : List GNote} (Pa : Pt r h0 h q F L a) [Fc : FocC r off (rSl T_impl_Event rEvent) get put] (hp : (get a).Perm (evsOf ns)) (hl : (get a).length ≤ 4294967296)
    (H : ∀ h', Pt r h0 h' q F L (put a (ordE ns)) → K h') :
    oL (cell h (q.add off)) fun b l c => oL (cell h (q.add off)) fun b' l' c' => CALL prg f_impl_starts #[.slice b' l' c'] (fun u h2 => PIN h (q.add off) 1 h2 <| CALL prg f_impl_compareEvents #[u] (fun v h3 => PIN h (q.add off) 1 h3 <|
      CALL prg f_slices_SortFunc_sl_impl_Event_impl_Event #[.slice b l c, v] (fun _ h4 => K h4) h3) h2) h := by
  obtain ⟨b, l, c, e, S⟩ := Pa.hdr (off := off)
  refine o_l e (o_l e ((starts_c S).mono ?_))
  rintro _ h2 ⟨g, rfl, hg, MI, x2⟩
  have pn : ∀ {h' : Heap} {p : Prop}, Ext h h' → p → PIN h (q.add off) 1 h' p := fun x H => pin x (fun j hj => ⟨.slice b l c, by obtain rfl : j = 0 := (by omega); rw [add0]; exact e⟩) H
  refine pn x2 ((compareEvents_c g).mono ?_)
  rintro _ h3 ⟨gc, rfl, hgc, hc, x3⟩
  refine pn (x2.trans x3) ?_
  obtain ⟨F1, C, P1, close⟩ := Pt.focX (L := L) Pa Fc.f
  obtain ⟨eq, mid, B, M, b', l', c', rfl, O⟩ := P1
  have e0 : cell h (q.add off) = some (.slice b' l' c') := by rw [eq, M.cell .here]; simp
  rw [e] at e0
  cases e0
  have hlen : (get a).length = l := O.1
  have M1 : Mem h0 h (B ++ ((F1.g, F1.T, ⟨F1.pre ++ ([.slice b l c] ++ F1.post)⟩) :: (C ++ L))) := M.perm List.perm_middle.symm
  have MI3 : MapI h3 g (ownM (get a)) := MI.ext x3
  refine (SortEvents_c O (M1.grow (x2.trans x3)) hc MI3 (fun p hp => ?_) (by omega)).mono ?_
  · have := M1.lt (List.mem_append_left _ hp)
    have := x2.le
    omega
  · rintro _ h4 ⟨rfl, B', m, O', M', pm, so⟩
    have Sm := sorted_keyM hp pm so
    have := close h0 h4 L (ordE ns) ⟨eq, [.slice b l c], B', M'.perm List.perm_middle, b, l, c, rfl, by rw [ordE_eq Sm]; exact O'⟩
    exact H h4 this.1
end
end Go.Sx
