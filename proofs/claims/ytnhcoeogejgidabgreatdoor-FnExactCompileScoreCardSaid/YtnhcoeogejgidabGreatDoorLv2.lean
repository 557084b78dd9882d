/- Decimals: the program's, by the shelf's contract. -/
import Derived.Test.YtnhcoeogejgidabGreatDoorLmt
import Derived.Test.YtnhcoeogejgidabGreatDoorTab
import Derived.Test.YtnhcoeogejgidabGreatDoorLm14
import Derived.Test.YtnhcoeogejgidabGreatDoorLx1
import Derived.Lib.AtoiErrMem
import Derived.Lib.ParseIntBTie
import Derived.WideLaws
import Derived.Test.YtnhcoeogejgidabGreatDoorLk0
set_option linter.unusedVariables false
set_option linter.unusedSimpArgs false
namespace Go.Sx
open Go.Proofs
set_option maxRecDepth 100000

/-- The table of tens lies where the program has it. -/
def Tens (h : Heap) : Prop := ∀ w : World, Ext h w.heap → Lib.TabIs prg w "internal/strconv.uint64pow10" .u64 Lib.pow10Tab
theorem Tens.ext {h h' : Heap} (T : Tens h) (X : Ext h h') : Tens h' := fun w Y => T w (X.trans Y)
theorem FormatInt_n {n : Int} (h1 : -9223372036854775808 ≤ n) (h2 : n ≤ 9223372036854775807) {h : Heap} (T : Tens h) : CALL prg f_strconv_FormatInt #[.int .i64 n, .int .i64 10] (fun u h' => u = .string ⟨(Lib.itoa n).toArray⟩ ∧ Ext h h') h := by
  refine CALL_of_calls L173.f173 rfl rfl fun w hw => ?_
  subst hw
  refine (Any.strconv_FormatInt_10 L173 n h1 h2 w (T w (Ext.refl _))).mono ?_
  rintro e w' ⟨rfl, k, os, rfl⟩
  exact ⟨_, rfl, grow_same w k os, rfl, grow_ext w k os⟩
theorem decimal_n {n : Int} (h1 : -9223372036854775808 ≤ n) (h2 : n ≤ 9223372036854775807) {h : Heap} (T : Tens h) : CALL prg f_impl_decimal #[.int .i64 n] (fun u h' => u = .string ⟨(Lib.itoa n).toArray⟩ ∧ Ext h h') h :=
  impl_decimal.call (goX (FormatInt_n h1 h2 T) fun h1 x1 => as_s ⟨rfl, x1⟩)
end Go.Sx
/- What functions of this seat's program compute, told in words (a predicate over heaps for each), and the proofs that the words are no more than the code's own weakest precondition. -/
namespace Go.Sx
open Go.Proofs
set_option linter.unusedVariables false
set_option maxRecDepth 100000

def spec_l01Split.B4 (Post : Value → Heap → Prop) (N4 : (ByteArray × Int × Option Addr × Nat × Nat × Int × Int) → Heap → Prop) : ByteArray × Int × Option Addr × Nat × Nat × Int × Int → Heap → Prop
  | (text_0, by_1, out_5b, out_5l, out_5c, from_6, i_7), h =>
    BIF ((decide (i_7 < ((ByteArray.size text_0) : Int)))) (
    IDX i_7 (ByteArray.size text_0) <|
    BIF ((byteAt text_0 i_7) == by_1) (
    SLB from_6 i_7 ((ByteArray.size text_0) : Int) <|
    ALC ⟨[.string (ByteArray.extract text_0 (Int.toNat from_6) (Int.toNat i_7))]⟩ T_string (fun g5 h6 =>
    SEMV prg (Builtin.append_ #[T_sl_string, T_sl_string] T_sl_string #[.slice out_5b out_5l out_5c, .slice (some ⟨g5, 0, none⟩) 1 1]) (fun q7 h8 =>
    asL q7 fun l9b l9l l9c =>
    N4 (text_0, by_1, l9b, l9l, l9c, ((IntKind.i64.wrap (i_7 + (1 : Int)))), ((IntKind.i64.wrap (i_7 + (1 : Int))))) h8) h6) h) (
    N4 (text_0, by_1, out_5b, out_5l, out_5c, from_6, ((IntKind.i64.wrap (i_7 + (1 : Int))))) h)) (
    SLB from_6 ((ByteArray.size text_0) : Int) ((ByteArray.size text_0) : Int) <|
    ALC ⟨[.string (ByteArray.extract text_0 (Int.toNat from_6) (ByteArray.size text_0))]⟩ T_string (fun g10 h11 =>
    SEMV prg (Builtin.append_ #[T_sl_string, T_sl_string] T_sl_string #[.slice out_5b out_5l out_5c, .slice (some ⟨g10, 0, none⟩) 1 1]) (fun q12 h13 =>
    asL q12 fun l14b l14l l14c =>
    Post (.slice l14b l14l l14c) h13) h11) h)
def spec_l01Split.g4 (fr : Frame) : ByteArray × Int × Option Addr × Nat × Nat × Int × Int := ((gS (lget fr 0)), (gI (lget fr 1)), (gLb (lget fr 5)), (gLl (lget fr 5)), (gLc (lget fr 5)), (gI (lget fr 6)), (gI (lget fr 7)))
def spec_l01Split.l4 (Post : Value → Heap → Prop) : Frame → Heap → Prop := fun fr h => GRD (shape (kds 35 [(0, .s), (1, .i .u8), (5, .l), (6, .i .i64), (7, .i .i64)]) fr) (LOOP (spec_l01Split.B4 Post) (spec_l01Split.g4 fr) h)
def spec_l01Split.S (text_0 : ByteArray) (by_1 : Int) (Post : Value → Heap → Prop) (h : Heap) : Prop :=
    ALC ⟨[]⟩ T_string (fun g1 h2 =>
    LOOP (spec_l01Split.B4 Post) (text_0, by_1, (some ⟨g1, 0, none⟩), 0, 0, (0 : Int), (0 : Int)) h2) h
noncomputable def spec_l01Split.code : Code := (Tryz.f15.body).getD .skip
theorem spec_l01Split.call {text_0 : ByteArray} {by_1 : Int} {Post : Value → Heap → Prop} {h : Heap} (H : spec_l01Split.S text_0 by_1 Post h) : CALL prg f_spec_l01Split #[.string text_0, .int .u8 by_1] Post h :=
  fn_call tau_ok mixed (c := spec_l01Split.code) (Λ := lookL [(1000004, spec_l01Split.l4 Post)]) Tryz.func15 (by kernel_rfl) (by kernel_rfl)
    (Rq.seq (by kernel_rfl) (Rq.free (by kernel_rfl)) (Rq.seq (by kernel_rfl) (Rq.free (by kernel_rfl)) (Rq.seq (by kernel_rfl) (Rq.free (by kernel_rfl)) (Rq.seq (by kernel_rfl) (Rq.seq (by kernel_rfl) (Rq.free (by kernel_rfl)) (Rq.block (Rq.loop (spec_l01Split.l4 Post) (by kernel_rfl) (segL (g := spec_l01Split.g4) tau_ok mixed (Λ := fun N4 => lookL []) (fun _ _ _ => by kernel_rfl) (fun N4 => (Rq.free (by kernel_rfl))))))) (Rq.free (by kernel_rfl))))))
    (Eq.mp (by kernel_rfl) H)

def spec_l01Number.J9 (N5 : (ByteArray × Int × Int) → Heap → Prop) (Post : Value → Heap → Prop) (s_0 : ByteArray) (n_4 : Int) (i_5 : Int) (h : Heap) : Prop :=
    IDX i_5 (ByteArray.size s_0) <|
    N5 (s_0, ((IntKind.i64.wrap ((IntKind.i64.wrap (n_4 * (10 : Int))) + (IntKind.i64.wrap ((IntKind.u8.wrap ((byteAt s_0 i_5) - (48 : Int)))))))), ((IntKind.i64.wrap (i_5 + (1 : Int))))) h
def spec_l01Number.j9 (N5 : (ByteArray × Int × Int) → Heap → Prop) (Post : Value → Heap → Prop) : Frame → Heap → Prop := fun fr h => GRD (shape (kds 49 [(0, .s), (4, .i .i64), (5, .i .i64)]) fr) (spec_l01Number.J9 N5 Post (gS (lget fr 0)) (gI (lget fr 4)) (gI (lget fr 5)) h)
def spec_l01Number.B5 (Post : Value → Heap → Prop) (N5 : (ByteArray × Int × Int) → Heap → Prop) : ByteArray × Int × Int → Heap → Prop
  | (s_0, n_4, i_5), h =>
    BIF ((decide (i_5 < ((ByteArray.size s_0) : Int)))) (
    IDX i_5 (ByteArray.size s_0) <|
    BIF ((decide ((byteAt s_0 i_5) < (48 : Int)))) (
    Post (.tuple ⟨[.int .i64 (0 : Int), .bool false]⟩) h) (
    IDX i_5 (ByteArray.size s_0) <|
    BIF ((decide ((57 : Int) < (byteAt s_0 i_5)))) (
    Post (.tuple ⟨[.int .i64 (0 : Int), .bool false]⟩) h) (
    spec_l01Number.J9 N5 Post s_0 n_4 i_5 h))) (
    Post (.tuple ⟨[.int .i64 n_4, .bool true]⟩) h)
def spec_l01Number.g5 (fr : Frame) : ByteArray × Int × Int := ((gS (lget fr 0)), (gI (lget fr 4)), (gI (lget fr 5)))
def spec_l01Number.l5 (Post : Value → Heap → Prop) : Frame → Heap → Prop := fun fr h => GRD (shape (kds 49 [(0, .s), (4, .i .i64), (5, .i .i64)]) fr) (LOOP (spec_l01Number.B5 Post) (spec_l01Number.g5 fr) h)
def spec_l01Number.J3 (Post : Value → Heap → Prop) (s_0 : ByteArray) (h : Heap) : Prop :=
    LOOP (spec_l01Number.B5 Post) (s_0, (0 : Int), (0 : Int)) h
def spec_l01Number.j3 (Post : Value → Heap → Prop) : Frame → Heap → Prop := fun fr h => GRD (shape (kds 49 [(0, .s)]) fr) (spec_l01Number.J3 Post (gS (lget fr 0)) h)
def spec_l01Number.S (s_0 : ByteArray) (Post : Value → Heap → Prop) (h : Heap) : Prop :=
    BIF ((decide (((ByteArray.size s_0) : Int) < (1 : Int)))) (
    Post (.tuple ⟨[.int .i64 (0 : Int), .bool false]⟩) h) (
    BIF ((decide ((9 : Int) < ((ByteArray.size s_0) : Int)))) (
    Post (.tuple ⟨[.int .i64 (0 : Int), .bool false]⟩) h) (
    IDX (0 : Int) (ByteArray.size s_0) <|
    BIF (((byteAt s_0 (0 : Int)) == (48 : Int))) (
    BIF ((decide ((1 : Int) < ((ByteArray.size s_0) : Int)))) (
    Post (.tuple ⟨[.int .i64 (0 : Int), .bool false]⟩) h) (
    spec_l01Number.J3 Post s_0 h)) (
    spec_l01Number.J3 Post s_0 h)))
noncomputable def spec_l01Number.code : Code := (Tryz.f75.body).getD .skip
theorem spec_l01Number.call {s_0 : ByteArray} {Post : Value → Heap → Prop} {h : Heap} (H : spec_l01Number.S s_0 Post h) : CALL prg f_spec_l01Number #[.string s_0] Post h :=
  fn_call tau_ok mixed (c := spec_l01Number.code) (Λ := lookL [(3, spec_l01Number.j3 Post), (1000005, spec_l01Number.l5 Post)]) Tryz.func75 (by kernel_rfl) (by kernel_rfl)
    (Rq.seq (by kernel_rfl) (Rq.free (by kernel_rfl)) (Rq.seqJ (spec_l01Number.j3 Post) (by kernel_rfl) (seg (fun _ _ => by kernel_rfl)) (Rq.free (by kernel_rfl))
(Rq.seq (by kernel_rfl) (Rq.free (by kernel_rfl)) (Rq.seq (by kernel_rfl) (Rq.seq (by kernel_rfl) (Rq.free (by kernel_rfl)) (Rq.block (Rq.loop (spec_l01Number.l5 Post) (by kernel_rfl) (segL (g := spec_l01Number.g5) tau_ok mixed (Λ := fun N5 => lookL [(9, spec_l01Number.j9 N5 Post)]) (fun _ _ _ => by kernel_rfl) (fun N5 => (Rq.seq (by kernel_rfl) (Rq.free (by kernel_rfl)) (Rq.seq (by kernel_rfl) (Rq.block (Rq.seqJ (spec_l01Number.j9 N5 Post) (by kernel_rfl) (seg (fun _ _ => by kernel_rfl)) (Rq.free (by kernel_rfl))
(Rq.free (by kernel_rfl)))) (Rq.free (by kernel_rfl))))))))) (Rq.free (by kernel_rfl))))))
    (Eq.mp (by kernel_rfl) H)

def impl_readDecimal.S (s_0 : ByteArray) (Post : Value → Heap → Prop) (h : Heap) : Prop :=
    CALL prg f_strconv_ParseInt #[.string s_0, .int .i64 (10 : Int), .int .i64 (64 : Int)] (fun q1 h2 =>
    TUP2 q1 fun q3 q4 =>
    asI .i64 q3 fun n5 =>
    binI tau .eql T_error q4 .nilIface (
    CMP prg .eql T_error (.tmp 12) (.const .nilIface) q4 .nilIface (fun b6 h7 =>
    BIF b6 (
    CALL prg f_impl_decimal #[.int .i64 n5] (fun q8 h9 =>
    asS q8 fun s10 =>
    Post (.tuple ⟨[.int .i64 n5, .bool (ByteArray.toList s10 == ByteArray.toList s_0)]⟩) h9) h7) (
    Post (.tuple ⟨[.int .i64 n5, .bool false]⟩) h7)) h2) fun v11 =>
    SPL v11 (
    CALL prg f_impl_decimal #[.int .i64 n5] (fun q13 h14 =>
    asS q13 fun s15 =>
    Post (.tuple ⟨[.int .i64 n5, .bool (ByteArray.toList s15 == ByteArray.toList s_0)]⟩) h14) h2) (
    Post (.tuple ⟨[.int .i64 n5, .bool false]⟩) h2) fun cs12 =>
    False) h
noncomputable def impl_readDecimal.code : Code := (Tryz.f102.body).getD .skip
theorem impl_readDecimal.call {s_0 : ByteArray} {Post : Value → Heap → Prop} {h : Heap} (H : impl_readDecimal.S s_0 Post h) : CALL prg f_impl_readDecimal #[.string s_0] Post h :=
  fn_call tau_ok mixed (c := impl_readDecimal.code) (Λ := lookL []) Tryz.func102 (by kernel_rfl) (by kernel_rfl)
    (Rq.free (by kernel_rfl))
    (Eq.mp (by kernel_rfl) H)

end Go.Sx
/- What the program reads as a number: the library's contracts, and the walk over its answer. -/
set_option linter.unusedVariables false
set_option linter.unusedSimpArgs false
namespace Go.Sx
set_option maxRecDepth 100000
open Go.Proofs Go.RowKit
theorem below_ext {w w' : World} (h : Below w.heap.size w w') : Ext w.heap w'.heap := ⟨h.size, h.block⟩
theorem below_same {B : Nat} {w w' : World} (h : Below B w w') : Same w w' := ⟨h.os, h.tape, h.output, fun e => by cases e⟩
/-- What the library's functions find in the program's variables. -/
structure Libs (h : Heap) : Prop where
  tens : Tens h
  mx : ∃ m, cell h ⟨R146.g 1, 0, none⟩ = some (.int .i64 m)
  es : ∃ ev, cell h ⟨R174.g 15, 0, none⟩ = some ev ∧ (ev = .nilIface ∨ ∃ te pe, ev = .iface te pe)
  er : ∃ ev, cell h ⟨R174.g 16, 0, none⟩ = some ev ∧ (ev = .nilIface ∨ ∃ te pe, ev = .iface te pe)
theorem Libs.ext {h h' : Heap} (B : Libs h) (X : Ext h h') : Libs h' := by
  obtain ⟨m, hm⟩ := B.mx
  obtain ⟨e1, he1, k1⟩ := B.es
  obtain ⟨e2, he2, k2⟩ := B.er
  exact ⟨B.tens.ext X, ⟨m, X.cell hm⟩, ⟨e1, X.cell he1, k1⟩, e2, X.cell he2, k2⟩
theorem U_error : prg.underlying T_error = some (.interface (prg.methodsAt T_error)) := by kernel_rfl
section
variable {h : Heap} {F : Bool → Heap → Prop} {xo : Operand} {t : TypeId} {x c : Value}
theorem cmp_eq_nn (H : F true h) : CMP prg .eql T_error xo (.const c) .nilIface .nilIface F h := by
  refine semv fun w hw => ⟨.bool true, w, ?_, Same.refl _, by rw [hw]; exact H⟩
  have e1 : eqGuard .eql T_error xo (.const c) .nilIface .nilIface = pure () := by unfold eqGuard; simp
  simp only [Sem.run_bind, e1, Sem.run_pure, Result.andThen_ok]
  simp [binOp, run_equal_nil_nil w T_error U_error]
theorem cmp_eq_hn (H : F false h) : CMP prg .eql T_error xo (.const c) (.iface t x) .nilIface F h := by
  refine semv fun w hw => ⟨.bool false, w, ?_, Same.refl _, by rw [hw]; exact H⟩
  have e1 : eqGuard .eql T_error xo (.const c) (.iface t x) .nilIface = pure () := by unfold eqGuard; simp
  simp only [Sem.run_bind, e1, Sem.run_pure, Result.andThen_ok]
  simp [binOp, run_equal_held_nil w T_error t x U_error]
end
/-- What the library reads as a number. -/
def PI (s : ByteArray) (h : Heap) (u : Value) (h' : Heap) : Prop := ((∃ v : Int, Lib.parseIntB 64 s.data.toList = .ok v ∧ u = .tuple ⟨[.int .i64 v, .nilIface]⟩) ∨ ∃ (v : Int) (t : Nat) (x : Value), (∀ v, Lib.parseIntB 64 s.data.toList ≠ .ok v) ∧ u = .tuple ⟨[.int .i64 v, .iface t x]⟩) ∧ Ext h h'
theorem ParseInt_c {h : Heap} {s : ByteArray} (B : Libs h) (hs : s.size ≤ 1048576) : CALL prg f_strconv_ParseInt #[.string s, .int .i64 10, .int .i64 64] (fun u h' => PI s h u h') h := by
  refine CALL_of_calls (f := f_strconv_ParseInt) L174.f174 rfl rfl fun w hw => ?_
  subst hw
  match e : Lib.parseIntB 64 s.data.toList with
  | Lib.NumEnd.ok v =>
    refine (Any.strconv_ParseInt_10_at64_ok L174 s (by omega) v e w).mono ?_
    rintro _ w' ⟨rfl, hw⟩
    have b : Below w.heap.size w w' := by
      rcases hw with rfl | ⟨t, rfl⟩
      · exact Below.refl _ _
      · exact Lib.bytesWorld_below _ _ _
    exact ⟨_, rfl, below_same b, .inl ⟨v, e, rfl⟩, below_ext b⟩
  | Lib.NumEnd.syntax =>
    obtain ⟨ev, hv, hev⟩ := B.es
    refine (Any.strconv_ParseInt_10_at64_syntax L174 s (by omega) e ev w hv hev).mono ?_
    rintro _ w' ⟨N, rfl, -, -, b⟩
    exact ⟨_, rfl, below_same b, .inr ⟨_, _, _, fun v k => by rw [e] at k; (cases k), rfl⟩, below_ext b⟩
  | Lib.NumEnd.range =>
    obtain ⟨ev, hv, hev⟩ := B.er
    refine (Any.strconv_ParseInt_10_at64_range L174 s (by omega) e ev w hv hev).mono ?_
    rintro _ w' ⟨N, rfl, -, -, b⟩
    exact ⟨_, rfl, below_same b, .inr ⟨_, _, _, fun v k => by rw [e] at k; (cases k), rfl⟩, below_ext b⟩
end Go.Sx
/- Texts cut and numbers read: the program's, by the shelf's contracts. -/
set_option linter.unusedVariables false
set_option linter.unusedSimpArgs false
namespace Go.Sx
open Go.Proofs Go.RowKit
set_option maxRecDepth 100000
set_option maxHeartbeats 1000000

/-- Texts in cells. -/
def strV (ls : List (List UInt8)) : Array Value := ⟨ls.map fun l => .string (mkB l)⟩
section
variable {h0 h : Heap} {L : List Blk}
theorem Split_c {s : ByteArray} {c : UInt8} {K : Value → Heap → Prop} (B : Libs h) (hs : s.size ≤ 1048576) (M : Mem h0 h L)
    (H : ∀ g h', Ext h h' → Mem h0 h' ((g, T_string, strV (cutL c s.data.toList)) :: L) → K (.slice (some ⟨g, 0, none⟩) (cutL c s.data.toList).length (cutL c s.data.toList).length) h') : CALL prg f_strings_Split #[.string s, .string ⟨#[c]⟩] K h := by
  refine CALL_of_calls L146.f146 rfl rfl fun w hw => ?_
  subst hw
  obtain ⟨m, hm⟩ := B.mx
  refine (Any.strings_Split { L146 with } L146.i9 s ⟨#[c]⟩ m w (by omega) hm (Nat.le_refl 1)).mono ?_
  rintro e w' ⟨rfl, rfl⟩
  refine ⟨_, rfl, ⟨rfl, rfl, rfl, fun e => by cases e⟩, ?_⟩
  have e1 : ((Lib.splitB ⟨#[c]⟩ 0 (Lib.countB s ⟨#[c]⟩) s).map Value.string).toArray = strV (cutL c s.data.toList) := by
    rw [splitB_cut c _ s rfl, List.map_map]; rfl
  rw [e1, ← cut_count c s]
  exact H w.heap.size _ (Ext.push _ _) (M.push _ _)
theorem byte_get {s : ByteArray} {i : Nat} (hi : i < s.size) : ∃ h : i < s.data.toList.length, byteAt s (i : Int) = ((s.data.toList[i]'h).toNat : Int) := by
  rw [Lib.size_eq] at hi
  refine ⟨hi, ?_⟩
  have e : s = ⟨⟨s.data.toList⟩⟩ := by cases s; simp
  have : byteAt ⟨⟨s.data.toList⟩⟩ (i : Int) = ((s.data.toList[i]?).map fun b => (b.toNat : Int)).getD 0 := by
    unfold byteAt
    rw [Int.toNat_natCast]
    congr 2
    rw [List.getElem?_eq_getElem hi]
    exact getElem?_pos (⟨⟨s.data.toList⟩⟩ : ByteArray) i hi
  rw [← e, List.getElem?_eq_getElem hi] at this
  exact this
/-- A number, told by the rule. -/
def numV (o : Option Nat) : Value := match o with | some n => .tuple ⟨[.int .i64 (n : Int), .bool true]⟩ | none => .tuple ⟨[.int .i64 (0 : Int), .bool false]⟩
theorem l01Number_c (s : ByteArray) : Ret prg f_spec_l01Number #[.string s] (numV (numL s.data.toList)) := fun h => by
  have hl := Lib.size_eq s
  have J : ∀ {h : Heap}, 1 ≤ s.size → s.size ≤ 9 → numL s.data.toList = digs 0 s.data.toList → spec_l01Number.J3 (fun u h' => u = numV (numL s.data.toList) ∧ Ext h h') s h := fun {h} h1 h9 e => by
    unfold spec_l01Number.J3
    refine loop (fun y hh => ∃ i n : Nat, y = (s, (n : Int), (i : Int)) ∧ i ≤ s.size ∧ n < 10 ^ i ∧ digs n (s.data.toList.drop i) = digs 0 s.data.toList ∧ hh = h) (fun y => (s.size - y.2.2).toNat) ⟨0, 0, rfl, by omega, by simp, by simp, rfl⟩ ?_
    rintro y hh ⟨i, n, rfl, hi, hn, hd, rfl⟩
    refine brd (fun hc => ?_) fun hc => ?_
    · have hi' : i < s.size := by omega
      obtain ⟨hj, hb⟩ := byte_get hi'
      have hdr : s.data.toList.drop i = s.data.toList[i] :: s.data.toList.drop (i + 1) := List.drop_eq_getElem_cons hj
      rw [hdr, digs] at hd
      have hp : (10 : Nat) ^ i ≤ 100000000 := Nat.le_trans (Nat.pow_le_pow_right (by omega) (show i ≤ 8 by omega)) (by decide)
      refine idx (by omega) (by omega) ?_
      rw [hb]
      refine brd (fun h48 => ⟨by rw [e, ← hd, if_neg (by omega)]; rfl, Ext.refl _⟩) fun h48 => idx (by omega) (by omega) (brd (fun h57 => ⟨by rw [e, ← hd, if_neg (by omega)]; rfl, Ext.refl _⟩) fun h57 => ?_)
      rw [if_pos (by omega)] at hd
      unfold spec_l01Number.J9
      refine idx (by omega) (by omega) ?_
      rw [hb]
      have w1 : IntKind.u8.wrap (((s.data.toList[i]).toNat : Int) - 48) = (((s.data.toList[i]).toNat - 48 : Nat) : Int) := by
        unfold IntKind.wrap
        show (((s.data.toList[i]).toNat : Int) - 48) % 2 ^ 8 = _
        omega
      rw [w1, wrap64 (n := (n : Int) * 10) (by omega) (by omega), wrap64 (n := (((s.data.toList[i]).toNat - 48 : Nat) : Int)) (by omega) (by omega), wrap64 (by omega) (by omega), wrap64_succ (by omega)]
      refine ⟨⟨i + 1, n * 10 + ((s.data.toList[i]).toNat - 48), ?_, by omega, ?_, hd, rfl⟩, by show _ < _; simp; omega⟩
      · congr 2
      · rw [Nat.pow_succ]; omega
    · obtain rfl : i = s.size := by omega
      rw [hl, List.drop_length] at hd
      exact ⟨by rw [e, ← hd]; rfl, Ext.refl _⟩
  refine spec_l01Number.call (brd (fun h1 => ?_) fun h1 => brd (fun h9 => ?_) fun h9 => idx (by omega) (by omega) ?_)
  · exact ⟨by unfold numL; rw [if_pos (by omega)]; rfl, Ext.refl _⟩
  · exact ⟨by unfold numL; rw [if_pos (by omega)]; rfl, Ext.refl _⟩
  · obtain ⟨hj, hb⟩ := byte_get (s := s) (i := 0) (by omega)
    have hb : byteAt s 0 = ((s.data.toList[0]'hj).toNat : Int) := hb
    have hh : s.data.toList.head? = some (s.data.toList[0]'hj) := by rw [List.head?_eq_getElem?, List.getElem?_eq_getElem hj]
    have h48 : (48 : UInt8).toNat = 48 := rfl
    rw [hb]
    refine br (fun c => brd (fun h2 => ⟨?_, Ext.refl _⟩) fun h2 => J (by omega) (by omega) ?_) fun c => J (by omega) (by omega) ?_
    · have c : ((s.data.toList[0]'hj).toNat : Int) = 48 := by simpa using c
      unfold numL
      rw [if_neg (by omega), if_pos ⟨by rw [hh]; congr 1; apply UInt8.toNat_inj.1; omega, by omega⟩]; rfl
    · unfold numL
      rw [if_neg (by omega), if_neg (by omega)]
    · have c : ¬ ((s.data.toList[0]'hj).toNat : Int) = 48 := by simpa using c
      unfold numL
      rw [if_neg (by omega), if_neg]
      rintro ⟨e, _⟩
      rw [hh] at e
      have e := Option.some.inj e
      rw [e] at c
      exact c (by rw [h48]; rfl)
end
end Go.Sx
/- Deeds: valid ones, their words. -/
namespace Go.Sx
set_option maxRecDepth 100000
open Go.Proofs
set_option linter.unusedVariables false

def dd (k a b : Int) : Array Value := ⟨[.int .i64 k, .int .i64 a, .int .i64 b]⟩
def numbers (k : Int) : Int := if k = 7 ∨ k = 8 then 0 else if k = 6 then 2 else 1
def validDeed (k a b : Int) : Bool := inR k 1 9 && inR a 0 999 && inR b 0 999 && (decide (0 < numbers k) || a == 0) && (decide (1 < numbers k) || b == 0)
def by_ (l : List UInt8) : ByteArray := ⟨⟨l⟩⟩
def wordOf (k : Int) : ByteArray := if k = 1 then by_ [103, 105, 118, 101] else if k = 2 then by_ [119, 111, 114, 107] else if k = 3 then by_ [100, 101, 108, 105, 118, 101, 114] else if k = 4 then by_ [99, 111, 112, 121]
  else if k = 5 then by_ [100, 114, 111, 112] else if k = 6 then by_ [115, 112, 111, 105, 108] else if k = 7 then by_ [115, 121, 110, 99] else if k = 8 then by_ [99, 114, 97, 115, 104] else if k = 9 then by_ [113, 117, 105, 116] else by_ []
end Go.Sx
/- Deeds' texts: the rule's and the program's. -/
set_option linter.unusedVariables false
set_option linter.unusedSimpArgs false
namespace Go.Sx
open Go.Proofs
set_option maxRecDepth 100000
set_option maxHeartbeats 1000000

def spB (t : ByteArray) (n : Int) : ByteArray := t ++ ((⟨#[32]⟩ : ByteArray) ++ decB n.toNat)
def deedText (k a b : Int) : ByteArray :=
  if validDeed k a b then
    let t := if 0 < numbers k then spB (wordOf k) a else wordOf k
    if 1 < numbers k then spB t b else t
  else ⟨#[]⟩
theorem valid_in {k a b : Int} (h : validDeed k a b = true) : (1 ≤ k ∧ k ≤ 9) ∧ (0 ≤ a ∧ a ≤ 999) ∧ (0 ≤ b ∧ b ≤ 999) := by
  unfold validDeed inR at h
  simp only [Bool.and_eq_true, decide_eq_true_eq] at h
  exact ⟨h.1.1.1.1, h.1.1.1.2, h.1.1.2⟩
end Go.Sx
