/- What functions of this seat's program compute, told in words (a predicate over heaps for each), and the proofs that the words are no more than the code's own weakest precondition. -/
import Derived.Test.YtnhcoeogejgidabGreatDoorTab
namespace Go.Sx
open Go.Proofs
set_option linter.unusedVariables false
set_option maxRecDepth 100000

def slices_insertionSortCmpFunc_impl_Event.J6 (N1 : (Option Addr × Nat × Nat × Int × Int × Value × Int) → Heap → Prop) (N4 : (Option Addr × Nat × Nat × Int × Int × Value × Int × Int) → Heap → Prop) (Post : Value → Heap → Prop) (data_0b : Option Addr) (data_0l : Nat) (data_0c : Nat) (a_1 : Int) (b_2 : Int) (cmp_3 : Value) (i_8 : Int) (j_9 : Int) (h : Heap) : Prop :=
    IDXS data_0b ((IntKind.i64.wrap (j_9 - (1 : Int)))) data_0l fun p8 =>
    LDA 6 h ((Addr.add p8 ((Int.toNat ((IntKind.i64.wrap (j_9 - (1 : Int))))) * 6))) fun a9 =>
    IDXS data_0b j_9 data_0l fun p10 =>
    LDA 6 h ((Addr.add p10 ((Int.toNat j_9) * 6))) fun a11 =>
    IDXS data_0b j_9 data_0l fun p12 =>
    STA 6 h ((Addr.add p12 ((Int.toNat j_9) * 6))) a9 fun h13 =>
    IDXS data_0b ((IntKind.i64.wrap (j_9 - (1 : Int)))) data_0l fun p14 =>
    STA 6 h13 ((Addr.add p14 ((Int.toNat ((IntKind.i64.wrap (j_9 - (1 : Int))))) * 6))) a11 fun h15 =>
    N4 (data_0b, data_0l, data_0c, a_1, b_2, cmp_3, i_8, ((IntKind.i64.wrap (j_9 - (1 : Int))))) h15
def slices_insertionSortCmpFunc_impl_Event.j6 (N1 : (Option Addr × Nat × Nat × Int × Int × Value × Int) → Heap → Prop) (N4 : (Option Addr × Nat × Nat × Int × Int × Value × Int × Int) → Heap → Prop) (Post : Value → Heap → Prop) : Frame → Heap → Prop := fun fr h => GRD (shape (kds 53 [(0, .l), (1, .i .i64), (2, .i .i64), (3, .v), (8, .i .i64), (9, .i .i64)]) fr) (slices_insertionSortCmpFunc_impl_Event.J6 N1 N4 Post (gLb (lget fr 0)) (gLl (lget fr 0)) (gLc (lget fr 0)) (gI (lget fr 1)) (gI (lget fr 2)) (lget fr 3) (gI (lget fr 8)) (gI (lget fr 9)) h)
def slices_insertionSortCmpFunc_impl_Event.B4 (N1 : (Option Addr × Nat × Nat × Int × Int × Value × Int) → Heap → Prop) (Post : Value → Heap → Prop) (N4 : (Option Addr × Nat × Nat × Int × Int × Value × Int × Int) → Heap → Prop) : Option Addr × Nat × Nat × Int × Int × Value × Int × Int → Heap → Prop
  | (data_0b, data_0l, data_0c, a_1, b_2, cmp_3, i_8, j_9), h =>
    BIF (decide (a_1 < j_9)) (
    IDXS data_0b j_9 data_0l fun p1 =>
    LDA 6 h ((Addr.add p1 ((Int.toNat j_9) * 6))) fun a2 =>
    IDXS data_0b ((IntKind.i64.wrap (j_9 - (1 : Int)))) data_0l fun p3 =>
    LDA 6 h ((Addr.add p3 ((Int.toNat ((IntKind.i64.wrap (j_9 - (1 : Int))))) * 6))) fun a4 =>
    CALLD prg cmp_3 #[.agg a2, .agg a4] (fun q5 h6 =>
    asI .i64 q5 fun n7 =>
    BIF ((decide (n7 < (0 : Int)))) (
    slices_insertionSortCmpFunc_impl_Event.J6 N1 N4 Post data_0b data_0l data_0c a_1 b_2 cmp_3 i_8 j_9 h6) (
    N1 (data_0b, data_0l, data_0c, a_1, b_2, cmp_3, ((IntKind.i64.wrap (i_8 + (1 : Int))))) h6)) h) (
    N1 (data_0b, data_0l, data_0c, a_1, b_2, cmp_3, ((IntKind.i64.wrap (i_8 + (1 : Int))))) h)
def slices_insertionSortCmpFunc_impl_Event.g4 (fr : Frame) : Option Addr × Nat × Nat × Int × Int × Value × Int × Int := ((gLb (lget fr 0)), (gLl (lget fr 0)), (gLc (lget fr 0)), (gI (lget fr 1)), (gI (lget fr 2)), (lget fr 3), (gI (lget fr 8)), (gI (lget fr 9)))
def slices_insertionSortCmpFunc_impl_Event.l4 (N1 : (Option Addr × Nat × Nat × Int × Int × Value × Int) → Heap → Prop) (Post : Value → Heap → Prop) : Frame → Heap → Prop := fun fr h => GRD (shape (kds 53 [(0, .l), (1, .i .i64), (2, .i .i64), (3, .v), (8, .i .i64), (9, .i .i64)]) fr) (LOOP (slices_insertionSortCmpFunc_impl_Event.B4 N1 Post) (slices_insertionSortCmpFunc_impl_Event.g4 fr) h)
def slices_insertionSortCmpFunc_impl_Event.B1 (Post : Value → Heap → Prop) (N1 : (Option Addr × Nat × Nat × Int × Int × Value × Int) → Heap → Prop) : Option Addr × Nat × Nat × Int × Int × Value × Int → Heap → Prop
  | (data_0b, data_0l, data_0c, a_1, b_2, cmp_3, i_8), h =>
    BIF (decide (i_8 < b_2)) (
    LOOP (slices_insertionSortCmpFunc_impl_Event.B4 N1 Post) (data_0b, data_0l, data_0c, a_1, b_2, cmp_3, i_8, i_8) h) (
    Post (.tuple ⟨[]⟩) h)
def slices_insertionSortCmpFunc_impl_Event.g1 (fr : Frame) : Option Addr × Nat × Nat × Int × Int × Value × Int := ((gLb (lget fr 0)), (gLl (lget fr 0)), (gLc (lget fr 0)), (gI (lget fr 1)), (gI (lget fr 2)), (lget fr 3), (gI (lget fr 8)))
def slices_insertionSortCmpFunc_impl_Event.l1 (Post : Value → Heap → Prop) : Frame → Heap → Prop := fun fr h => GRD (shape (kds 53 [(0, .l), (1, .i .i64), (2, .i .i64), (3, .v), (8, .i .i64)]) fr) (LOOP (slices_insertionSortCmpFunc_impl_Event.B1 Post) (slices_insertionSortCmpFunc_impl_Event.g1 fr) h)
def slices_insertionSortCmpFunc_impl_Event.S (data_0b : Option Addr) (data_0l data_0c : Nat) (a_1 : Int) (b_2 : Int) (cmp_3 : Value) (Post : Value → Heap → Prop) (h : Heap) : Prop :=
    LOOP (slices_insertionSortCmpFunc_impl_Event.B1 Post) (data_0b, data_0l, data_0c, a_1, b_2, cmp_3, ((IntKind.i64.wrap (a_1 + (1 : Int))))) h
noncomputable def slices_insertionSortCmpFunc_impl_Event.code : Code := (Tryz.f89.body).getD .skip
theorem slices_insertionSortCmpFunc_impl_Event.call {data_0b : Option Addr} {data_0l data_0c : Nat} {a_1 : Int} {b_2 : Int} {cmp_3 : Value} {Post : Value → Heap → Prop} {h : Heap} (H : slices_insertionSortCmpFunc_impl_Event.S data_0b data_0l data_0c a_1 b_2 cmp_3 Post h) : CALL prg f_slices_insertionSortCmpFunc_impl_Event #[.slice data_0b data_0l data_0c, .int .i64 a_1, .int .i64 b_2, cmp_3] Post h :=
  fn_call tau_ok mixed (c := slices_insertionSortCmpFunc_impl_Event.code) (Λ := lookL [(1000001, slices_insertionSortCmpFunc_impl_Event.l1 Post)]) Tryz.func89 (by kernel_rfl) (by kernel_rfl)
    (Rq.seq (by kernel_rfl) (Rq.free (by kernel_rfl)) (Rq.block (Rq.loop (slices_insertionSortCmpFunc_impl_Event.l1 Post) (by kernel_rfl) (segL (g := slices_insertionSortCmpFunc_impl_Event.g1) tau_ok mixed (Λ := fun N1 => lookL [(1000004, slices_insertionSortCmpFunc_impl_Event.l4 N1 Post)]) (fun _ _ _ => by kernel_rfl) (fun N1 => (Rq.seq (by kernel_rfl) (Rq.free (by kernel_rfl)) (Rq.seq (by kernel_rfl) (Rq.block (Rq.seq (by kernel_rfl) (Rq.free (by kernel_rfl)) (Rq.block (Rq.loop (slices_insertionSortCmpFunc_impl_Event.l4 N1 Post) (by kernel_rfl) (segL (g := slices_insertionSortCmpFunc_impl_Event.g4) tau_ok mixed (Λ := fun N4 => lookL [(6, slices_insertionSortCmpFunc_impl_Event.j6 N1 N4 Post)]) (fun _ _ _ => by kernel_rfl) (fun N4 => (Rq.seqJ (slices_insertionSortCmpFunc_impl_Event.j6 N1 N4 Post) (by kernel_rfl) (seg (fun _ _ => by kernel_rfl)) (Rq.free (by kernel_rfl))
(Rq.free (by kernel_rfl))))))))) (Rq.free (by kernel_rfl)))))))))
    (Eq.mp (by kernel_rfl) H)

def slices_pdqsortCmpFunc_impl_Event.J20 (N2 : (Option Addr × Nat × Nat × Int × Int × Int × Value × Bool × Bool) → Heap → Prop) (Post : Value → Heap → Prop) (data_0b : Option Addr) (data_0l : Nat) (data_0c : Nat) (a_1 : Int) (b_2 : Int) (limit_3 : Int) (cmp_4 : Value) (length_12 : Int) (pivot_13 : Int) (h : Heap) : Prop :=
    CALL prg f_slices_partitionCmpFunc_impl_Event #[.slice data_0b data_0l data_0c, .int .i64 a_1, .int .i64 b_2, .int .i64 pivot_13, cmp_4] (fun q28 h29 =>
    TUP2 q28 fun q30 q31 =>
    asI .i64 q30 fun n32 =>
    asB q31 fun b33 =>
    NZ (8 : Int) <|
    BIF ((decide ((IntKind.i64.wrap (n32 - a_1)) < (IntKind.i64.wrap (b_2 - n32))))) (
    CALL prg f_slices_pdqsortCmpFunc_impl_Event #[.slice data_0b data_0l data_0c, .int .i64 a_1, .int .i64 n32, .int .i64 limit_3, cmp_4] (fun q34 h35 =>
    N2 (data_0b, data_0l, data_0c, ((IntKind.i64.wrap (n32 + (1 : Int)))), b_2, limit_3, cmp_4, ((decide ((IntKind.i64.wrap (Int.tdiv length_12 (8 : Int))) ≤ (IntKind.i64.wrap (n32 - a_1))))), b33) h35) h29) (
    CALL prg f_slices_pdqsortCmpFunc_impl_Event #[.slice data_0b data_0l data_0c, .int .i64 ((IntKind.i64.wrap (n32 + (1 : Int)))), .int .i64 b_2, .int .i64 limit_3, cmp_4] (fun q36 h37 =>
    N2 (data_0b, data_0l, data_0c, a_1, n32, limit_3, cmp_4, ((decide ((IntKind.i64.wrap (Int.tdiv length_12 (8 : Int))) ≤ (IntKind.i64.wrap (b_2 - n32))))), b33) h37) h29)) h
def slices_pdqsortCmpFunc_impl_Event.j20 (N2 : (Option Addr × Nat × Nat × Int × Int × Int × Value × Bool × Bool) → Heap → Prop) (Post : Value → Heap → Prop) : Frame → Heap → Prop := fun fr h => GRD (shape (kds 148 [(0, .l), (1, .i .i64), (2, .i .i64), (3, .i .i64), (4, .v), (12, .i .i64), (13, .i .i64)]) fr) (slices_pdqsortCmpFunc_impl_Event.J20 N2 Post (gLb (lget fr 0)) (gLl (lget fr 0)) (gLc (lget fr 0)) (gI (lget fr 1)) (gI (lget fr 2)) (gI (lget fr 3)) (lget fr 4) (gI (lget fr 12)) (gI (lget fr 13)) h)
def slices_pdqsortCmpFunc_impl_Event.J17 (N2 : (Option Addr × Nat × Nat × Int × Int × Int × Value × Bool × Bool) → Heap → Prop) (Post : Value → Heap → Prop) (data_0b : Option Addr) (data_0l : Nat) (data_0c : Nat) (a_1 : Int) (b_2 : Int) (limit_3 : Int) (cmp_4 : Value) (wasBalanced_10 : Bool) (wasPartitioned_11 : Bool) (length_12 : Int) (pivot_13 : Int) (h : Heap) : Prop :=
    BIF ((decide ((0 : Int) < a_1))) (
    IDXS data_0b ((IntKind.i64.wrap (a_1 - (1 : Int)))) data_0l fun p18 =>
    LDA 6 h ((Addr.add p18 ((Int.toNat ((IntKind.i64.wrap (a_1 - (1 : Int))))) * 6))) fun a19 =>
    IDXS data_0b pivot_13 data_0l fun p20 =>
    LDA 6 h ((Addr.add p20 ((Int.toNat pivot_13) * 6))) fun a21 =>
    CALLD prg cmp_4 #[.agg a19, .agg a21] (fun q22 h23 =>
    asI .i64 q22 fun n24 =>
    BIF ((!(decide (n24 < (0 : Int))))) (
    CALL prg f_slices_partitionEqualCmpFunc_impl_Event #[.slice data_0b data_0l data_0c, .int .i64 a_1, .int .i64 b_2, .int .i64 pivot_13, cmp_4] (fun q25 h26 =>
    asI .i64 q25 fun n27 =>
    N2 (data_0b, data_0l, data_0c, n27, b_2, limit_3, cmp_4, wasBalanced_10, wasPartitioned_11) h26) h23) (
    slices_pdqsortCmpFunc_impl_Event.J20 N2 Post data_0b data_0l data_0c a_1 b_2 limit_3 cmp_4 length_12 pivot_13 h23)) h) (
    slices_pdqsortCmpFunc_impl_Event.J20 N2 Post data_0b data_0l data_0c a_1 b_2 limit_3 cmp_4 length_12 pivot_13 h)
def slices_pdqsortCmpFunc_impl_Event.j17 (N2 : (Option Addr × Nat × Nat × Int × Int × Int × Value × Bool × Bool) → Heap → Prop) (Post : Value → Heap → Prop) : Frame → Heap → Prop := fun fr h => GRD (shape (kds 148 [(0, .l), (1, .i .i64), (2, .i .i64), (3, .i .i64), (4, .v), (10, .b), (11, .b), (12, .i .i64), (13, .i .i64)]) fr) (slices_pdqsortCmpFunc_impl_Event.J17 N2 Post (gLb (lget fr 0)) (gLl (lget fr 0)) (gLc (lget fr 0)) (gI (lget fr 1)) (gI (lget fr 2)) (gI (lget fr 3)) (lget fr 4) (gB (lget fr 10)) (gB (lget fr 11)) (gI (lget fr 12)) (gI (lget fr 13)) h)
def slices_pdqsortCmpFunc_impl_Event.J15 (N2 : (Option Addr × Nat × Nat × Int × Int × Int × Value × Bool × Bool) → Heap → Prop) (Post : Value → Heap → Prop) (data_0b : Option Addr) (data_0l : Nat) (data_0c : Nat) (a_1 : Int) (b_2 : Int) (limit_3 : Int) (cmp_4 : Value) (wasBalanced_10 : Bool) (wasPartitioned_11 : Bool) (length_12 : Int) (pivot_13 : Int) (hint_14 : Int) (h : Heap) : Prop :=
    BIF wasBalanced_10 (
    BIF wasPartitioned_11 (
    BIF (hint_14 == (1 : Int)) (
    CALL prg f_slices_partialInsertionSortCmpFunc_impl_Event #[.slice data_0b data_0l data_0c, .int .i64 a_1, .int .i64 b_2, cmp_4] (fun q15 h16 =>
    asB q15 fun b17 =>
    BIF b17 (
    Post (.tuple ⟨[]⟩) h16) (
    slices_pdqsortCmpFunc_impl_Event.J17 N2 Post data_0b data_0l data_0c a_1 b_2 limit_3 cmp_4 wasBalanced_10 wasPartitioned_11 length_12 pivot_13 h16)) h) (
    slices_pdqsortCmpFunc_impl_Event.J17 N2 Post data_0b data_0l data_0c a_1 b_2 limit_3 cmp_4 wasBalanced_10 wasPartitioned_11 length_12 pivot_13 h)) (
    slices_pdqsortCmpFunc_impl_Event.J17 N2 Post data_0b data_0l data_0c a_1 b_2 limit_3 cmp_4 wasBalanced_10 wasPartitioned_11 length_12 pivot_13 h)) (
    slices_pdqsortCmpFunc_impl_Event.J17 N2 Post data_0b data_0l data_0c a_1 b_2 limit_3 cmp_4 wasBalanced_10 wasPartitioned_11 length_12 pivot_13 h)
def slices_pdqsortCmpFunc_impl_Event.j15 (N2 : (Option Addr × Nat × Nat × Int × Int × Int × Value × Bool × Bool) → Heap → Prop) (Post : Value → Heap → Prop) : Frame → Heap → Prop := fun fr h => GRD (shape (kds 148 [(0, .l), (1, .i .i64), (2, .i .i64), (3, .i .i64), (4, .v), (10, .b), (11, .b), (12, .i .i64), (13, .i .i64), (14, .i .i64)]) fr) (slices_pdqsortCmpFunc_impl_Event.J15 N2 Post (gLb (lget fr 0)) (gLl (lget fr 0)) (gLc (lget fr 0)) (gI (lget fr 1)) (gI (lget fr 2)) (gI (lget fr 3)) (lget fr 4) (gB (lget fr 10)) (gB (lget fr 11)) (gI (lget fr 12)) (gI (lget fr 13)) (gI (lget fr 14)) h)
def slices_pdqsortCmpFunc_impl_Event.J10 (N2 : (Option Addr × Nat × Nat × Int × Int × Int × Value × Bool × Bool) → Heap → Prop) (Post : Value → Heap → Prop) (data_0b : Option Addr) (data_0l : Nat) (data_0c : Nat) (a_1 : Int) (b_2 : Int) (limit_3 : Int) (cmp_4 : Value) (wasBalanced_10 : Bool) (wasPartitioned_11 : Bool) (length_12 : Int) (h : Heap) : Prop :=
    CALL prg f_slices_choosePivotCmpFunc_impl_Event #[.slice data_0b data_0l data_0c, .int .i64 a_1, .int .i64 b_2, cmp_4] (fun q7 h8 =>
    TUP2 q7 fun q9 q10 =>
    asI .i64 q9 fun n11 =>
    asI .i64 q10 fun n12 =>
    BIF (n12 == (2 : Int)) (
    CALL prg f_slices_reverseRangeCmpFunc_impl_Event #[.slice data_0b data_0l data_0c, .int .i64 a_1, .int .i64 b_2, cmp_4] (fun q13 h14 =>
    slices_pdqsortCmpFunc_impl_Event.J15 N2 Post data_0b data_0l data_0c a_1 b_2 limit_3 cmp_4 wasBalanced_10 wasPartitioned_11 length_12 ((IntKind.i64.wrap ((IntKind.i64.wrap (b_2 - (1 : Int))) - (IntKind.i64.wrap (n11 - a_1))))) (1 : Int) h14) h8) (
    slices_pdqsortCmpFunc_impl_Event.J15 N2 Post data_0b data_0l data_0c a_1 b_2 limit_3 cmp_4 wasBalanced_10 wasPartitioned_11 length_12 n11 n12 h8)) h
def slices_pdqsortCmpFunc_impl_Event.j10 (N2 : (Option Addr × Nat × Nat × Int × Int × Int × Value × Bool × Bool) → Heap → Prop) (Post : Value → Heap → Prop) : Frame → Heap → Prop := fun fr h => GRD (shape (kds 148 [(0, .l), (1, .i .i64), (2, .i .i64), (3, .i .i64), (4, .v), (10, .b), (11, .b), (12, .i .i64)]) fr) (slices_pdqsortCmpFunc_impl_Event.J10 N2 Post (gLb (lget fr 0)) (gLl (lget fr 0)) (gLc (lget fr 0)) (gI (lget fr 1)) (gI (lget fr 2)) (gI (lget fr 3)) (lget fr 4) (gB (lget fr 10)) (gB (lget fr 11)) (gI (lget fr 12)) h)
def slices_pdqsortCmpFunc_impl_Event.B2 (Post : Value → Heap → Prop) (N2 : (Option Addr × Nat × Nat × Int × Int × Int × Value × Bool × Bool) → Heap → Prop) : Option Addr × Nat × Nat × Int × Int × Int × Value × Bool × Bool → Heap → Prop
  | (data_0b, data_0l, data_0c, a_1, b_2, limit_3, cmp_4, wasBalanced_10, wasPartitioned_11), h =>
    BIF ((decide ((IntKind.i64.wrap (b_2 - a_1)) ≤ (12 : Int)))) (
    CALL prg f_slices_insertionSortCmpFunc_impl_Event #[.slice data_0b data_0l data_0c, .int .i64 a_1, .int .i64 b_2, cmp_4] (fun q1 h2 =>
    Post (.tuple ⟨[]⟩) h2) h) (
    BIF (limit_3 == (0 : Int)) (
    CALL prg f_slices_heapSortCmpFunc_impl_Event #[.slice data_0b data_0l data_0c, .int .i64 a_1, .int .i64 b_2, cmp_4] (fun q3 h4 =>
    Post (.tuple ⟨[]⟩) h4) h) (
    BIF (!wasBalanced_10) (
    CALL prg f_slices_breakPatternsCmpFunc_impl_Event #[.slice data_0b data_0l data_0c, .int .i64 a_1, .int .i64 b_2, cmp_4] (fun q5 h6 =>
    slices_pdqsortCmpFunc_impl_Event.J10 N2 Post data_0b data_0l data_0c a_1 b_2 ((IntKind.i64.wrap (limit_3 - (1 : Int)))) cmp_4 wasBalanced_10 wasPartitioned_11 (IntKind.i64.wrap (b_2 - a_1)) h6) h) (
    slices_pdqsortCmpFunc_impl_Event.J10 N2 Post data_0b data_0l data_0c a_1 b_2 limit_3 cmp_4 wasBalanced_10 wasPartitioned_11 (IntKind.i64.wrap (b_2 - a_1)) h)))
def slices_pdqsortCmpFunc_impl_Event.g2 (fr : Frame) : Option Addr × Nat × Nat × Int × Int × Int × Value × Bool × Bool := ((gLb (lget fr 0)), (gLl (lget fr 0)), (gLc (lget fr 0)), (gI (lget fr 1)), (gI (lget fr 2)), (gI (lget fr 3)), (lget fr 4), (gB (lget fr 10)), (gB (lget fr 11)))
def slices_pdqsortCmpFunc_impl_Event.l2 (Post : Value → Heap → Prop) : Frame → Heap → Prop := fun fr h => GRD (shape (kds 148 [(0, .l), (1, .i .i64), (2, .i .i64), (3, .i .i64), (4, .v), (10, .b), (11, .b)]) fr) (LOOP (slices_pdqsortCmpFunc_impl_Event.B2 Post) (slices_pdqsortCmpFunc_impl_Event.g2 fr) h)
def slices_pdqsortCmpFunc_impl_Event.S (data_0b : Option Addr) (data_0l data_0c : Nat) (a_1 : Int) (b_2 : Int) (limit_3 : Int) (cmp_4 : Value) (Post : Value → Heap → Prop) (h : Heap) : Prop :=
    LOOP (slices_pdqsortCmpFunc_impl_Event.B2 Post) (data_0b, data_0l, data_0c, a_1, b_2, limit_3, cmp_4, true, true) h
noncomputable def slices_pdqsortCmpFunc_impl_Event.code : Code := (Tryz.f60.body).getD .skip
theorem slices_pdqsortCmpFunc_impl_Event.call {data_0b : Option Addr} {data_0l data_0c : Nat} {a_1 : Int} {b_2 : Int} {limit_3 : Int} {cmp_4 : Value} {Post : Value → Heap → Prop} {h : Heap} (H : slices_pdqsortCmpFunc_impl_Event.S data_0b data_0l data_0c a_1 b_2 limit_3 cmp_4 Post h) : CALL prg f_slices_pdqsortCmpFunc_impl_Event #[.slice data_0b data_0l data_0c, .int .i64 a_1, .int .i64 b_2, .int .i64 limit_3, cmp_4] Post h :=
  fn_call tau_ok mixed (c := slices_pdqsortCmpFunc_impl_Event.code) (Λ := lookL [(1000002, slices_pdqsortCmpFunc_impl_Event.l2 Post)]) Tryz.func60 (by kernel_rfl) (by kernel_rfl)
    (Rq.seq (by kernel_rfl) (Rq.free (by kernel_rfl)) (Rq.seq (by kernel_rfl) (Rq.free (by kernel_rfl)) (Rq.block (Rq.loop (slices_pdqsortCmpFunc_impl_Event.l2 Post) (by kernel_rfl) (segL (g := slices_pdqsortCmpFunc_impl_Event.g2) tau_ok mixed (Λ := fun N2 => lookL [(10, slices_pdqsortCmpFunc_impl_Event.j10 N2 Post), (15, slices_pdqsortCmpFunc_impl_Event.j15 N2 Post), (17, slices_pdqsortCmpFunc_impl_Event.j17 N2 Post), (20, slices_pdqsortCmpFunc_impl_Event.j20 N2 Post)]) (fun _ _ _ => by kernel_rfl) (fun N2 => (Rq.block (Rq.seq (by kernel_rfl) (Rq.free (by kernel_rfl)) (Rq.seq (by kernel_rfl) (Rq.free (by kernel_rfl)) (Rq.seq (by kernel_rfl) (Rq.free (by kernel_rfl)) (Rq.seqJ (slices_pdqsortCmpFunc_impl_Event.j10 N2 Post) (by kernel_rfl) (seg (fun _ _ => by kernel_rfl)) (Rq.free (by kernel_rfl))
(Rq.seq (by kernel_rfl) (Rq.free (by kernel_rfl)) (Rq.seqJ (slices_pdqsortCmpFunc_impl_Event.j15 N2 Post) (by kernel_rfl) (seg (fun _ _ => by kernel_rfl)) (Rq.free (by kernel_rfl))
(Rq.seqJ (slices_pdqsortCmpFunc_impl_Event.j17 N2 Post) (by kernel_rfl) (seg (fun _ _ => by kernel_rfl)) (Rq.free (by kernel_rfl))
(Rq.seqJ (slices_pdqsortCmpFunc_impl_Event.j20 N2 Post) (by kernel_rfl) (seg (fun _ _ => by kernel_rfl)) (Rq.free (by kernel_rfl))
(Rq.free (by kernel_rfl)))))))))))))))))
    (Eq.mp (by kernel_rfl) H)

def slices_SortFunc_sl_impl_Event_impl_Event.S (x_0b : Option Addr) (x_0l x_0c : Nat) (cmp_1 : Value) (Post : Value → Heap → Prop) (h : Heap) : Prop :=
    CALL prg f_math_bits_Len #[.int .u64 (IntKind.u64.wrap (x_0l : Int))] (fun q3 h4 =>
    asI .i64 q3 fun n5 =>
    CALL prg f_slices_pdqsortCmpFunc_impl_Event #[.slice x_0b x_0l x_0c, .int .i64 (0 : Int), .int .i64 (x_0l : Int), .int .i64 n5, cmp_1] (fun q6 h7 =>
    Post (.tuple ⟨[]⟩) h7) h4) h
noncomputable def slices_SortFunc_sl_impl_Event_impl_Event.code : Code := (Tryz.f23.body).getD .skip
theorem slices_SortFunc_sl_impl_Event_impl_Event.call {x_0b : Option Addr} {x_0l x_0c : Nat} {cmp_1 : Value} {Post : Value → Heap → Prop} {h : Heap} (H : slices_SortFunc_sl_impl_Event_impl_Event.S x_0b x_0l x_0c cmp_1 Post h) : CALL prg f_slices_SortFunc_sl_impl_Event_impl_Event #[.slice x_0b x_0l x_0c, cmp_1] Post h :=
  fn_call tau_ok mixed (c := slices_SortFunc_sl_impl_Event_impl_Event.code) (Λ := lookL []) Tryz.func23 (by kernel_rfl) (by kernel_rfl)
    (Rq.free (by kernel_rfl))
    (Eq.mp (by kernel_rfl) H)

end Go.Sx
