/- Decimals: the program's, by the shelf's contract. -/
import Derived.Test.YtnhcoeogejgidabGreatDoorLm22
import Derived.Test.YtnhcoeogejgidabGreatDoorShl
import Derived.Test.YtnhcoeogejgidabGreatDoorTab
import Derived.Test.YtnhcoeogejgidabGreatDoorLm14
import Derived.Test.YtnhcoeogejgidabGreatDoorLx2
import Derived.Lib.AtoiErrMem
import Derived.Lib.ParseIntBTie
import Derived.WideLaws
import Derived.Test.YtnhcoeogejgidabGreatDoorTabE
import Derived.Test.YtnhcoeogejgidabGreatDoorLpx
set_option linter.unusedVariables false
set_option linter.unusedSimpArgs false
namespace Go.Sx
open Go.Proofs
set_option maxRecDepth 100000

/-- The table of tens lies where the program has it. -/
def Tens (h : Heap) : Prop := ∀ w : World, Ext h w.heap → Lib.TabIs prg w "internal/strconv.uint64pow10" .u64 Lib.pow10Tab
theorem Tens.ext {h h' : Heap} (T : Tens h) (X : Ext h h') : Tens h' := fun w Y => T w (X.trans Y)
theorem FormatInt_n {n : Int} (h1 : -9223372036854775808 ≤ n) (h2 : n ≤ 9223372036854775807) {h : Heap} (T : Tens h) : CALL prg f_strconv_FormatInt #[.int .i64 n, .int .i64 10] (fun u h' => u = .string ⟨(Lib.itoa n).toArray⟩ ∧ Ext h h') h := by
  refine CALL_of_calls L173.f173 rfl rfl fun w hw => ?_
  subst hw
  refine (Any.strconv_FormatInt_10 L173 n h1 h2 w (T w (Ext.refl _))).mono ?_
  rintro e w' ⟨rfl, k, os, rfl⟩
  exact ⟨_, rfl, grow_same w k os, rfl, grow_ext w k os⟩
theorem decimal_n {n : Int} (h1 : -9223372036854775808 ≤ n) (h2 : n ≤ 9223372036854775807) {h : Heap} (T : Tens h) : CALL prg f_impl_decimal #[.int .i64 n] (fun u h' => u = .string ⟨(Lib.itoa n).toArray⟩ ∧ Ext h h') h :=
  impl_decimal.call (goX (FormatInt_n h1 h2 T) fun h1 x1 => as_s ⟨rfl, x1⟩)
end Go.Sx
/- What functions of this seat's program compute, told in words (a predicate over heaps for each), and the proofs that the words are no more than the code's own weakest precondition. -/
namespace Go.Sx
open Go.Proofs
set_option linter.unusedVariables false
set_option maxRecDepth 100000

def impl_readDecimal.S (s_0 : ByteArray) (Post : Value → Heap → Prop) (h : Heap) : Prop :=
    CALL prg f_strconv_ParseInt #[.string s_0, .int .i64 (10 : Int), .int .i64 (64 : Int)] (fun q1 h2 =>
    TUP2 q1 fun q3 q4 =>
    asI .i64 q3 fun n5 =>
    binI tau .eql T_error q4 .nilIface (
    CMP prg .eql T_error (.tmp 12) (.const .nilIface) q4 .nilIface (fun b6 h7 =>
    BIF b6 (
    CALL prg f_impl_decimal #[.int .i64 n5] (fun q8 h9 =>
    asS q8 fun s10 =>
    Post (.tuple ⟨[.int .i64 n5, .bool (ByteArray.toList s10 == ByteArray.toList s_0)]⟩) h9) h7) (
    Post (.tuple ⟨[.int .i64 n5, .bool false]⟩) h7)) h2) fun v11 =>
    SPL v11 (
    CALL prg f_impl_decimal #[.int .i64 n5] (fun q13 h14 =>
    asS q13 fun s15 =>
    Post (.tuple ⟨[.int .i64 n5, .bool (ByteArray.toList s15 == ByteArray.toList s_0)]⟩) h14) h2) (
    Post (.tuple ⟨[.int .i64 n5, .bool false]⟩) h2) fun cs12 =>
    False) h
noncomputable def impl_readDecimal.code : Code := (Tryz.f102.body).getD .skip
theorem impl_readDecimal.call {s_0 : ByteArray} {Post : Value → Heap → Prop} {h : Heap} (H : impl_readDecimal.S s_0 Post h) : CALL prg f_impl_readDecimal #[.string s_0] Post h :=
  fn_call tau_ok mixed (c := impl_readDecimal.code) (Λ := lookL []) Tryz.func102 (by kernel_rfl) (by kernel_rfl)
    (Rq.free (by kernel_rfl))
    (Eq.mp (by kernel_rfl) H)

end Go.Sx
/- What the program reads as a number: the library's contracts, and the walk over its answer. -/
set_option linter.unusedVariables false
set_option linter.unusedSimpArgs false
namespace Go.Sx
set_option maxRecDepth 100000
open Go.Proofs Go.RowKit
theorem below_ext {w w' : World} (h : Below w.heap.size w w') : Ext w.heap w'.heap := ⟨h.size, h.block⟩
theorem below_same {B : Nat} {w w' : World} (h : Below B w w') : Same w w' := ⟨h.os, h.tape, h.output, fun e => by cases e⟩
/-- What the library's functions find in the program's variables. -/
structure Libs (h : Heap) : Prop where
  tens : Tens h
  mx : ∃ m, cell h ⟨R146.g 1, 0, none⟩ = some (.int .i64 m)
  es : ∃ ev, cell h ⟨R174.g 15, 0, none⟩ = some ev ∧ (ev = .nilIface ∨ ∃ te pe, ev = .iface te pe)
  er : ∃ ev, cell h ⟨R174.g 16, 0, none⟩ = some ev ∧ (ev = .nilIface ∨ ∃ te pe, ev = .iface te pe)
theorem Libs.ext {h h' : Heap} (B : Libs h) (X : Ext h h') : Libs h' := by
  obtain ⟨m, hm⟩ := B.mx
  obtain ⟨e1, he1, k1⟩ := B.es
  obtain ⟨e2, he2, k2⟩ := B.er
  exact ⟨B.tens.ext X, ⟨m, X.cell hm⟩, ⟨e1, X.cell he1, k1⟩, e2, X.cell he2, k2⟩
theorem U_error : prg.underlying T_error = some (.interface (prg.methodsAt T_error)) := by kernel_rfl
section
variable {h : Heap} {F : Bool → Heap → Prop} {xo : Operand} {t : TypeId} {x c : Value}
theorem cmp_eq_nn (H : F true h) : CMP prg .eql T_error xo (.const c) .nilIface .nilIface F h := by
  refine semv fun w hw => ⟨.bool true, w, ?_, Same.refl _, by rw [hw]; exact H⟩
  have e1 : eqGuard .eql T_error xo (.const c) .nilIface .nilIface = pure () := by unfold eqGuard; simp
  simp only [Sem.run_bind, e1, Sem.run_pure, Result.andThen_ok]
  simp [binOp, run_equal_nil_nil w T_error U_error]
theorem cmp_eq_hn (H : F false h) : CMP prg .eql T_error xo (.const c) (.iface t x) .nilIface F h := by
  refine semv fun w hw => ⟨.bool false, w, ?_, Same.refl _, by rw [hw]; exact H⟩
  have e1 : eqGuard .eql T_error xo (.const c) (.iface t x) .nilIface = pure () := by unfold eqGuard; simp
  simp only [Sem.run_bind, e1, Sem.run_pure, Result.andThen_ok]
  simp [binOp, run_equal_held_nil w T_error t x U_error]
end
/-- What the library reads as a number. -/
def PI (s : ByteArray) (h : Heap) (u : Value) (h' : Heap) : Prop := ((∃ v : Int, Lib.parseIntB 64 s.data.toList = .ok v ∧ u = .tuple ⟨[.int .i64 v, .nilIface]⟩) ∨ ∃ (v : Int) (t : Nat) (x : Value), (∀ v, Lib.parseIntB 64 s.data.toList ≠ .ok v) ∧ u = .tuple ⟨[.int .i64 v, .iface t x]⟩) ∧ Ext h h'
theorem ParseInt_c {h : Heap} {s : ByteArray} (B : Libs h) (hs : s.size ≤ 1048576) : CALL prg f_strconv_ParseInt #[.string s, .int .i64 10, .int .i64 64] (fun u h' => PI s h u h') h := by
  refine CALL_of_calls (f := f_strconv_ParseInt) L174.f174 rfl rfl fun w hw => ?_
  subst hw
  match e : Lib.parseIntB 64 s.data.toList with
  | Lib.NumEnd.ok v =>
    refine (Any.strconv_ParseInt_10_at64_ok L174 s (by omega) v e w).mono ?_
    rintro _ w' ⟨rfl, hw⟩
    have b : Below w.heap.size w w' := by
      rcases hw with rfl | ⟨t, rfl⟩
      · exact Below.refl _ _
      · exact Lib.bytesWorld_below _ _ _
    exact ⟨_, rfl, below_same b, .inl ⟨v, e, rfl⟩, below_ext b⟩
  | Lib.NumEnd.syntax =>
    obtain ⟨ev, hv, hev⟩ := B.es
    refine (Any.strconv_ParseInt_10_at64_syntax L174 s (by omega) e ev w hv hev).mono ?_
    rintro _ w' ⟨N, rfl, -, -, b⟩
    exact ⟨_, rfl, below_same b, .inr ⟨_, _, _, fun v k => by rw [e] at k; (cases k), rfl⟩, below_ext b⟩
  | Lib.NumEnd.range =>
    obtain ⟨ev, hv, hev⟩ := B.er
    refine (Any.strconv_ParseInt_10_at64_range L174 s (by omega) e ev w hv hev).mono ?_
    rintro _ w' ⟨N, rfl, -, -, b⟩
    exact ⟨_, rfl, below_same b, .inr ⟨_, _, _, fun v k => by rw [e] at k; (cases k), rfl⟩, below_ext b⟩
end Go.Sx
/- Texts cut and numbers read: the program's, by the shelf's contracts. -/
set_option linter.unusedVariables false
set_option linter.unusedSimpArgs false
namespace Go.Sx
open Go.Proofs Go.RowKit
set_option maxRecDepth 100000
set_option maxHeartbeats 1000000

/-- Texts in cells. -/
def strV (ls : List (List UInt8)) : Array Value := ⟨ls.map fun l => .string (mkB l)⟩
section
variable {h0 h : Heap} {L : List Blk}
theorem Split_c {s : ByteArray} {c : UInt8} {K : Value → Heap → Prop} (B : Libs h) (hs : s.size ≤ 1048576) (M : Mem h0 h L)
    (H : ∀ g h', Ext h h' → Mem h0 h' ((g, T_string, strV (cutL c s.data.toList)) :: L) → K (.slice (some ⟨g, 0, none⟩) (cutL c s.data.toList).length (cutL c s.data.toList).length) h') : CALL prg f_strings_Split #[.string s, .string ⟨#[c]⟩] K h := by
  refine CALL_of_calls L146.f146 rfl rfl fun w hw => ?_
  subst hw
  obtain ⟨m, hm⟩ := B.mx
  refine (Any.strings_Split { L146 with } L146.i9 s ⟨#[c]⟩ m w (by omega) hm (Nat.le_refl 1)).mono ?_
  rintro e w' ⟨rfl, rfl⟩
  refine ⟨_, rfl, ⟨rfl, rfl, rfl, fun e => by cases e⟩, ?_⟩
  have e1 : ((Lib.splitB ⟨#[c]⟩ 0 (Lib.countB s ⟨#[c]⟩) s).map Value.string).toArray = strV (cutL c s.data.toList) := by
    rw [splitB_cut c _ s rfl, List.map_map]; rfl
  rw [e1, ← cut_count c s]
  exact H w.heap.size _ (Ext.push _ _) (M.push _ _)
theorem byte_get {s : ByteArray} {i : Nat} (hi : i < s.size) : ∃ h : i < s.data.toList.length, byteAt s (i : Int) = ((s.data.toList[i]'h).toNat : Int) := by
  rw [Lib.size_eq] at hi
  refine ⟨hi, ?_⟩
  have e : s = ⟨⟨s.data.toList⟩⟩ := by cases s; simp
  have : byteAt ⟨⟨s.data.toList⟩⟩ (i : Int) = ((s.data.toList[i]?).map fun b => (b.toNat : Int)).getD 0 := by
    unfold byteAt
    rw [Int.toNat_natCast]
    congr 2
    rw [List.getElem?_eq_getElem hi]
    exact getElem?_pos (⟨⟨s.data.toList⟩⟩ : ByteArray) i hi
  rw [← e, List.getElem?_eq_getElem hi] at this
  exact this
end
end Go.Sx
/- Deeds: valid ones, their words. -/
namespace Go.Sx
set_option maxRecDepth 100000
open Go.Proofs
set_option linter.unusedVariables false

def dd (k a b : Int) : Array Value := ⟨[.int .i64 k, .int .i64 a, .int .i64 b]⟩
def numbers (k : Int) : Int := if k = 7 ∨ k = 8 then 0 else if k = 6 then 2 else 1
def validDeed (k a b : Int) : Bool := inR k 1 9 && inR a 0 999 && inR b 0 999 && (decide (0 < numbers k) || a == 0) && (decide (1 < numbers k) || b == 0)
def by_ (l : List UInt8) : ByteArray := ⟨⟨l⟩⟩
def wordOf (k : Int) : ByteArray := if k = 1 then by_ [103, 105, 118, 101] else if k = 2 then by_ [119, 111, 114, 107] else if k = 3 then by_ [100, 101, 108, 105, 118, 101, 114] else if k = 4 then by_ [99, 111, 112, 121]
  else if k = 5 then by_ [100, 114, 111, 112] else if k = 6 then by_ [115, 112, 111, 105, 108] else if k = 7 then by_ [115, 121, 110, 99] else if k = 8 then by_ [99, 114, 97, 115, 104] else if k = 9 then by_ [113, 117, 105, 116] else by_ []
end Go.Sx
/- Deeds' texts: the rule's and the program's. -/
set_option linter.unusedVariables false
set_option linter.unusedSimpArgs false
namespace Go.Sx
open Go.Proofs
set_option maxRecDepth 100000
set_option maxHeartbeats 1000000

def spB (t : ByteArray) (n : Int) : ByteArray := t ++ ((⟨#[32]⟩ : ByteArray) ++ decB n.toNat)
def deedText (k a b : Int) : ByteArray :=
  if validDeed k a b then
    let t := if 0 < numbers k then spB (wordOf k) a else wordOf k
    if 1 < numbers k then spB t b else t
  else ⟨#[]⟩
theorem valid_in {k a b : Int} (h : validDeed k a b = true) : (1 ≤ k ∧ k ≤ 9) ∧ (0 ≤ a ∧ a ≤ 999) ∧ (0 ≤ b ∧ b ≤ 999) := by
  unfold validDeed inR at h
  simp only [Bool.and_eq_true, decide_eq_true_eq] at h
  exact ⟨h.1.1.1.1, h.1.1.1.2, h.1.1.2⟩
end Go.Sx
/- Texts cut and deeds read: the rule's. -/
set_option linter.unusedVariables false
set_option linter.unusedSimpArgs false
namespace Go.Sx
open Go.Proofs
set_option maxRecDepth 100000
set_option maxHeartbeats 1000000

section
variable {h : Heap}
theorem mk_size (l : List UInt8) : (mkB l).size = l.length := by simp [ByteArray.size]
end
theorem no32 (k : Int) : ∀ x ∈ (wordOf k).data.toList, x ≠ 32 := by
  unfold wordOf
  repeat' split
  all_goals decide
theorem word_inj {k j : Int} (hk : 1 ≤ k ∧ k ≤ 9) (hj : 1 ≤ j ∧ j ≤ 9) (e : wordOf k = wordOf j) : k = j := by
  rcases (show k = 1 ∨ k = 2 ∨ k = 3 ∨ k = 4 ∨ k = 5 ∨ k = 6 ∨ k = 7 ∨ k = 8 ∨ k = 9 by omega) with rfl | rfl | rfl | rfl | rfl | rfl | rfl | rfl | rfl <;>
  rcases (show j = 1 ∨ j = 2 ∨ j = 3 ∨ j = 4 ∨ j = 5 ∨ j = 6 ∨ j = 7 ∨ j = 8 ∨ j = 9 by omega) with rfl | rfl | rfl | rfl | rfl | rfl | rfl | rfl | rfl <;>
  first | rfl | exact absurd e (by decide)
theorem decB_data (m : Nat) : (decB m).data.toList = Lib.decDigits m := by unfold decB; simp
theorem spB_data (t : ByteArray) (n : Int) : (spB t n).data.toList = t.data.toList ++ 32 :: Lib.decDigits n.toNat := by
  unfold spB
  rw [ByteArray.data_append, ByteArray.data_append, Array.toList_append, Array.toList_append, decB_data]
  rfl
theorem dec32 (m : Nat) : ∀ x ∈ Lib.decDigits m, x ≠ 32 := dec_no m (.inl (by decide))
/-- The pieces of a valid deed's text. -/
def pieces (k a b : Int) : List (List UInt8) :=
  (wordOf k).data.toList :: ((if 0 < numbers k then [Lib.decDigits a.toNat] else []) ++ if 1 < numbers k then [Lib.decDigits b.toNat] else [])
theorem num_le (k : Int) : 1 < numbers k → 0 < numbers k := by omega
theorem cut_text {k a b : Int} (h : validDeed k a b = true) : cutL 32 (deedText k a b).data.toList = pieces k a b := by
  unfold deedText pieces
  rw [h, if_pos rfl]
  dsimp only
  by_cases h0 : 0 < numbers k
  · rw [if_pos h0, if_pos h0]
    by_cases h1 : 1 < numbers k
    · rw [if_pos h1, if_pos h1, spB_data, spB_data, List.append_assoc, List.cons_append, cut_pre (no32 k), cut_pre (dec32 _), cut_none (dec32 _)]; rfl
    · rw [if_neg h1, if_neg h1, spB_data, cut_pre (no32 k), cut_none (dec32 _)]; rfl
  · rw [if_neg h0, if_neg h0, if_neg (by omega), if_neg (by omega), cut_none (no32 k)]; rfl
theorem valid_zero {k a b : Int} (h : validDeed k a b = true) : (¬ 0 < numbers k → a = 0) ∧ (¬ 1 < numbers k → b = 0) := by
  unfold validDeed at h
  simp only [Bool.and_eq_true, Bool.or_eq_true, decide_eq_true_eq, beq_iff_eq] at h
  exact ⟨fun h0 => h.1.2.resolve_left h0, fun h1 => h.2.resolve_left h1⟩
theorem text_inj {k a b k' a' b' : Int} (h : validDeed k a b = true) (h' : validDeed k' a' b' = true) (e : deedText k a b = deedText k' a' b') : k = k' ∧ a = a' ∧ b = b' := by
  have c := cut_text h
  rw [e, cut_text h'] at c
  obtain ⟨hk, ha, hb⟩ := valid_in h
  obtain ⟨hk', ha', hb'⟩ := valid_in h'
  unfold pieces at c
  injection c with c1 c2
  have ek : k = k' := by
    refine word_inj hk hk' ?_
    have := congrArg mkB c1
    rw [mkB_list, mkB_list] at this
    exact this.symm
  subst ek
  obtain ⟨z1, z2⟩ := valid_zero h
  obtain ⟨z1', z2'⟩ := valid_zero h'
  refine ⟨rfl, ?_, ?_⟩
  · by_cases h0 : 0 < numbers k
    · rw [if_pos h0, if_pos h0] at c2
      injection c2 with c2 c3
      have := dec_inj c2
      omega
    · rw [z1 h0, z1' h0]
  · by_cases h1 : 1 < numbers k
    · rw [if_pos (num_le k h1), if_pos (num_le k h1), if_pos h1, if_pos h1] at c2
      injection c2 with c2 c3
      injection c3 with c3 c4
      have := dec_inj c3
      omega
    · rw [z2 h1, z2' h1]
/-- What reading a text gives. -/
def Read (text : ByteArray) (u : Value) : Prop :=
  (∃ k a b, validDeed k a b = true ∧ deedText k a b = text ∧ u = .tuple ⟨[.agg (dd k a b), .int .i64 (0 : Int)]⟩) ∨ ((∀ k a b, validDeed k a b = true → deedText k a b ≠ text) ∧ u = .tuple ⟨[.agg (dd 0 0 0), .int .i64 (5 : Int)]⟩)
theorem Read.same {text : ByteArray} {u v : Value} (h : Read text u) (h' : Read text v) : ∃ k a b c, u = .tuple ⟨[.agg (dd k a b), .int .i64 c]⟩ ∧ v = .tuple ⟨[.agg (dd k a b), .int .i64 c]⟩ := by
  rcases h with ⟨k, a, b, hv, ht, rfl⟩ | ⟨hn, rfl⟩
  · rcases h' with ⟨k', a', b', hv', ht', rfl⟩ | ⟨hn', rfl⟩
    · obtain ⟨rfl, rfl, rfl⟩ := text_inj hv hv' (ht.trans ht'.symm)
      exact ⟨_, _, _, _, rfl, rfl⟩
    · exact absurd ht (hn' _ _ _ hv)
  · rcases h' with ⟨k', a', b', hv', ht', rfl⟩ | ⟨hn', rfl⟩
    · exact absurd ht' (hn _ _ _ hv')
    · exact ⟨_, _, _, _, rfl, rfl⟩
end Go.Sx
/- What functions of this seat's program compute, told in words (a predicate over heaps for each), and the proofs that the words are no more than the code's own weakest precondition. -/
namespace Go.Sx
open Go.Proofs
set_option linter.unusedVariables false
set_option maxRecDepth 100000

def impl_readWhole.S (text_0 : ByteArray) (Post : Value → Heap → Prop) (h : Heap) : Prop :=
    CALL prg f_impl_readDecimal #[.string text_0] (fun q1 h2 =>
    TUP2 q1 fun q3 q4 =>
    asI .i64 q3 fun n5 =>
    asB q4 fun b6 =>
    BIF b6 (
    BIF ((decide ((0 : Int) ≤ n5))) (
    Post (.tuple ⟨[.int .i64 n5, .bool ((decide (((ByteArray.size text_0) : Int) ≤ (6 : Int))))]⟩) h2) (
    Post (.tuple ⟨[.int .i64 n5, .bool false]⟩) h2)) (
    Post (.tuple ⟨[.int .i64 n5, .bool false]⟩) h2)) h
noncomputable def impl_readWhole.code : Code := (Tryz.f74.body).getD .skip
theorem impl_readWhole.call {text_0 : ByteArray} {Post : Value → Heap → Prop} {h : Heap} (H : impl_readWhole.S text_0 Post h) : CALL prg f_impl_readWhole #[.string text_0] Post h :=
  fn_call tau_ok mixed (c := impl_readWhole.code) (Λ := lookL []) Tryz.func74 (by kernel_rfl) (by kernel_rfl)
    (Rq.free (by kernel_rfl))
    (Eq.mp (by kernel_rfl) H)

def impl_readSigned.S (text_0 : ByteArray) (Post : Value → Heap → Prop) (h : Heap) : Prop :=
    CALL prg f_strings_CutPrefix #[.string text_0, .string (⟨#[45]⟩ : ByteArray)] (fun q1 h2 =>
    TUP2 q1 fun q3 q4 =>
    asS q3 fun s5 =>
    asB q4 fun b6 =>
    CALL prg f_impl_readWhole #[.string s5] (fun q7 h8 =>
    TUP2 q7 fun q9 q10 =>
    asI .i64 q9 fun n11 =>
    asB q10 fun b12 =>
    BIF b6 (
    Post (.tuple ⟨[.int .i64 (IntKind.i64.wrap (0 - n11)), .bool b12]⟩) h8) (
    Post (.tuple ⟨[.int .i64 n11, .bool b12]⟩) h8)) h2) h
noncomputable def impl_readSigned.code : Code := (Tryz.f73.body).getD .skip
theorem impl_readSigned.call {text_0 : ByteArray} {Post : Value → Heap → Prop} {h : Heap} (H : impl_readSigned.S text_0 Post h) : CALL prg f_impl_readSigned #[.string text_0] Post h :=
  fn_call tau_ok mixed (c := impl_readSigned.code) (Λ := lookL []) Tryz.func73 (by kernel_rfl) (by kernel_rfl)
    (Rq.free (by kernel_rfl))
    (Eq.mp (by kernel_rfl) H)

def impl_readFraction.S (text_0 : ByteArray) (Post : Value → Heap → Prop) (h : Heap) : Prop :=
    CALL prg f_strings_Cut #[.string text_0, .string (⟨#[47]⟩ : ByteArray)] (fun q1 h2 =>
    TUP3 q1 fun q3 q4 q5 =>
    asS q3 fun s6 =>
    asS q4 fun s7 =>
    asB q5 fun b8 =>
    CALL prg f_impl_readSigned #[.string s6] (fun q9 h10 =>
    TUP2 q9 fun q11 q12 =>
    asI .i64 q11 fun n13 =>
    asB q12 fun b14 =>
    BIF (!b8) (
    Post (.tuple ⟨[.float .f32 (FloatKind.f32.nearest n13), .bool b14]⟩) h10) (
    CALL prg f_impl_readWhole #[.string s7] (fun q15 h16 =>
    TUP2 q15 fun q17 q18 =>
    asI .i64 q17 fun n19 =>
    asB q18 fun b20 =>
    BIF (!b14) (
    Post (.tuple ⟨[.float .f32 0, .bool false]⟩) h16) (
    BIF (!b20) (
    Post (.tuple ⟨[.float .f32 0, .bool false]⟩) h16) (
    CALL prg f_impl_within #[.int .i64 n19, .int .i64 (2 : Int), .int .i64 (1024 : Int)] (fun q21 h22 =>
    asB q21 fun b23 =>
    BIF (!b23) (
    Post (.tuple ⟨[.float .f32 0, .bool false]⟩) h22) (
    BIF (((bitI .and .i64 n19 ((IntKind.i64.wrap (n19 - (1 : Int))))) != (0 : Int))) (
    Post (.tuple ⟨[.float .f32 0, .bool false]⟩) h22) (
    FOP .f32 (FloatKind.f32.format.div (FloatKind.f32.nearest n13) (FloatKind.f32.nearest n19)) fun r24 =>
    Post (.tuple ⟨[.float .f32 r24, .bool true]⟩) h22))) h16))) h10)) h2) h
noncomputable def impl_readFraction.code : Code := (Tryz.f39.body).getD .skip
theorem impl_readFraction.call {text_0 : ByteArray} {Post : Value → Heap → Prop} {h : Heap} (H : impl_readFraction.S text_0 Post h) : CALL prg f_impl_readFraction #[.string text_0] Post h :=
  fn_call tau_ok mixed (c := impl_readFraction.code) (Λ := lookL []) Tryz.func39 (by kernel_rfl) (by kernel_rfl)
    (Rq.free (by kernel_rfl))
    (Eq.mp (by kernel_rfl) H)

def impl_length_string.S (list_0b : Option Addr) (list_0l list_0c : Nat) (Post : Value → Heap → Prop) (h : Heap) : Prop :=
    Post (.int .i64 (list_0l : Int)) h
noncomputable def impl_length_string.code : Code := (Tryz.f22.body).getD .skip
theorem impl_length_string.call {list_0b : Option Addr} {list_0l list_0c : Nat} {Post : Value → Heap → Prop} {h : Heap} (H : impl_length_string.S list_0b list_0l list_0c Post h) : CALL prg f_impl_length_string #[.slice list_0b list_0l list_0c] Post h :=
  fn_call tau_ok mixed (c := impl_length_string.code) (Λ := lookL []) Tryz.func22 (by kernel_rfl) (by kernel_rfl)
    (Rq.free (by kernel_rfl))
    (Eq.mp (by kernel_rfl) H)

end Go.Sx
