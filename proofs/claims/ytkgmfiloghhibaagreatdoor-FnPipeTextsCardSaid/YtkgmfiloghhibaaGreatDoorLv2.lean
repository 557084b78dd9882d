/- Decimals: the program's, by the shelf's contract. -/
import Derived.Test.YtkgmfiloghhibaaGreatDoorLgn
import Derived.Test.YtkgmfiloghhibaaGreatDoorShl
import Derived.Lib.SplitLaws
import Derived.Lib.ParseIntB
import Derived.Lib.ItoaLen
import Derived.Test.YtkgmfiloghhibaaGreatDoorTab
import Derived.Test.YtkgmfiloghhibaaGreatDoorLx2
import Derived.Lib.AtoiErrMem
import Derived.Lib.ParseIntBTie
import Derived.WideLaws
set_option linter.unusedVariables false
set_option linter.unusedSimpArgs false
namespace Go.Sx
open Go.Proofs
set_option maxRecDepth 100000

/-- The table of tens lies where the program has it. -/
def Tens (h : Heap) : Prop := ∀ w : World, Ext h w.heap → Lib.TabIs prg w "internal/strconv.uint64pow10" .u64 Lib.pow10Tab
theorem Tens.ext {h h' : Heap} (T : Tens h) (X : Ext h h') : Tens h' := fun w Y => T w (X.trans Y)
theorem FormatInt_n {n : Int} (h1 : -9223372036854775808 ≤ n) (h2 : n ≤ 9223372036854775807) {h : Heap} (T : Tens h) : CALL prg f_strconv_FormatInt #[.int .i64 n, .int .i64 10] (fun u h' => u = .string ⟨(Lib.itoa n).toArray⟩ ∧ Ext h h') h := by
  refine CALL_of_calls L173.f173 rfl rfl fun w hw => ?_
  subst hw
  refine (Any.strconv_FormatInt_10 L173 n h1 h2 w (T w (Ext.refl _))).mono ?_
  rintro e w' ⟨rfl, k, os, rfl⟩
  exact ⟨_, rfl, grow_same w k os, rfl, grow_ext w k os⟩
theorem decimal_n {n : Int} (h1 : -9223372036854775808 ≤ n) (h2 : n ≤ 9223372036854775807) {h : Heap} (T : Tens h) : CALL prg f_impl_decimal #[.int .i64 n] (fun u h' => u = .string ⟨(Lib.itoa n).toArray⟩ ∧ Ext h h') h :=
  impl_decimal.call (goX (FormatInt_n h1 h2 T) fun h1 x1 => as_s ⟨rfl, x1⟩)
theorem decimal_c {m : Nat} (hm : m < 9223372036854775808) {h : Heap} (T : Tens h) : CALL prg f_impl_decimal #[.int .i64 (m : Int)] (fun u h' => u = .string (decB m) ∧ Ext h h') h := by
  have := decimal_n (n := (m : Int)) (by omega) (by omega) T
  rw [Lib.itoa_nonneg] at this
  exact this
end Go.Sx
/- Plain: texts cut at a byte; numbers that are read. -/
set_option linter.unusedVariables false
set_option linter.unusedSimpArgs false
namespace Go.Sx

/-- A text's bytes as a text. -/
abbrev mkB (l : List UInt8) : ByteArray := ⟨l.toArray⟩
theorem mkB_list (s : ByteArray) : mkB s.data.toList = s := by cases s; simp
theorem mkB_data (l : List UInt8) : (mkB l).data.toList = l := by simp
/-- A text cut at every instance of a byte. -/
def cutL (c : UInt8) : List UInt8 → List (List UInt8)
  | [] => [[]]
  | b :: l => if b = c then [] :: cutL c l else match cutL c l with
    | [] => [[b]]
    | w :: r => (b :: w) :: r
theorem cut_none {c : UInt8} {a : List UInt8} (h : ∀ x ∈ a, x ≠ c) : cutL c a = [a] := by
  induction a with
  | nil => rfl
  | cons b a ih =>
    unfold cutL
    rw [if_neg (h b (List.mem_cons_self ..)), ih fun x hx => h x (List.mem_cons_of_mem _ hx)]
theorem cut_pre {c : UInt8} {a r : List UInt8} (h : ∀ x ∈ a, x ≠ c) : cutL c (a ++ c :: r) = a :: cutL c r := by
  induction a with
  | nil => show cutL c (c :: r) = _; rw [cutL, if_pos rfl]
  | cons b a ih =>
    show cutL c (b :: (a ++ c :: r)) = _
    rw [cutL, if_neg (h b (List.mem_cons_self ..)), ih fun x hx => h x (List.mem_cons_of_mem _ hx)]
theorem split_at {l : List UInt8} {c : UInt8} {i : Nat} (h1 : l[i]? = some c) (h2 : ∀ k, k < i → l[k]? ≠ some c) : l = l.take i ++ c :: l.drop (i + 1) ∧ ∀ x ∈ l.take i, x ≠ c := by
  obtain ⟨hi, h1⟩ := List.getElem?_eq_some_iff.1 h1
  refine ⟨?_, fun x hx => ?_⟩
  · rw [← h1, List.getElem_cons_drop, List.take_append_drop]
  · obtain ⟨j, hj, rfl⟩ := List.mem_iff_getElem.1 hx
    rw [List.length_take] at hj
    intro e
    refine h2 j (by omega) ?_
    rw [List.getElem_take] at e
    rw [List.getElem?_eq_getElem (by omega), e]
theorem no_byte {l : List UInt8} {c : UInt8} (h : ∀ k : Nat, l[k]? ≠ some c) : ∀ x ∈ l, x ≠ c := fun x hx e => by
  obtain ⟨j, hj, rfl⟩ := List.mem_iff_getElem.1 hx
  exact h j (by rw [List.getElem?_eq_getElem hj, e])
theorem splitB_cut (c : UInt8) : ∀ (k : Nat) (s : ByteArray), Lib.countB s ⟨#[c]⟩ = k → Lib.splitB ⟨#[c]⟩ 0 k s = (cutL c s.data.toList).map mkB := by
  intro k
  induction k with
  | zero =>
    intro s hs
    rcases Lib.indexB_cases s ⟨#[c]⟩ with e | ⟨i, e, _⟩
    · have e' : Lib.indexByte s.data.toList c = -1 := by rw [← Lib.index_one]; exact e
      rw [cut_none (no_byte (Lib.indexByte_none e')), Lib.splitB_zero, List.map_singleton, mkB_list]
    · have := Lib.countB_hit s ⟨#[c]⟩ i (Nat.le_refl 1) e
      omega
  | succ k ih =>
    intro s hs
    rcases Lib.indexB_cases s ⟨#[c]⟩ with e | ⟨i, e, hle⟩
    · have := Lib.countB_miss s ⟨#[c]⟩ e
      omega
    · have h1 := Lib.countB_hit s ⟨#[c]⟩ i (Nat.le_refl 1) e
      have hsz : (⟨#[c]⟩ : ByteArray).size = 1 := rfl
      rw [hsz] at h1
      have e' : Lib.indexByte s.data.toList c = i := by rw [← Lib.index_one]; exact e
      obtain ⟨f1, f2⟩ := Lib.indexByte_some e'
      obtain ⟨g1, g2⟩ := split_at f1 f2
      rw [Lib.splitB_hit _ _ _ _ _ e, hsz, ih _ (by omega), Lib.extract_to_end, Nat.add_zero]
      conv => rhs; rw [g1]
      rw [cut_pre g2, List.map_cons]
      congr 1
      rw [← mkB_list (s.extract 0 i), Lib.extract_from_zero]
theorem cut_count (c : UInt8) (s : ByteArray) : (cutL c s.data.toList).length = Lib.countB s ⟨#[c]⟩ + 1 := by
  have := congrArg List.length (splitB_cut c _ s rfl)
  rw [List.length_map, Lib.splitB_all (⟨#[c]⟩ : ByteArray) (Nat.le_refl 1) 0 _ s rfl] at this
  exact this.symm
def digs (acc : Nat) : List UInt8 → Option Nat
  | [] => some acc
  | b :: l => if 48 ≤ b.toNat ∧ b.toNat ≤ 57 then digs (acc * 10 + (b.toNat - 48)) l else none
theorem digs_app (acc : Nat) (l r : List UInt8) : digs acc (l ++ r) = (digs acc l).bind fun a => digs a r := by
  induction l generalizing acc with
  | nil => rfl
  | cons b l ih =>
    rw [List.cons_append, digs, digs]
    split
    · exact ih _
    · rfl
theorem dig_byte {k : Nat} (hk : k < 10) : (UInt8.ofNat (48 + k)).toNat = 48 + k := by
  rw [UInt8.toNat_ofNat']; omega
theorem digs_dec (m : Nat) : digs 0 (Lib.decDigits m) = some m := by
  induction m using Nat.strongRecOn with
  | _ m ih =>
    by_cases h : m < 10
    · rw [Lib.decDigits_one h]
      unfold digs
      rw [dig_byte h, if_pos (by omega)]
      simp [digs]
    · rw [Lib.decDigits.eq_def, dif_neg h, digs_app, ih (m / 10) (by omega)]
      show digs (m / 10) [_] = _
      unfold digs
      rw [dig_byte (Nat.mod_lt _ (by omega)), if_pos (by omega)]
      simp only [digs]
      congr 1
      omega
theorem dec_all (m : Nat) : ∀ x ∈ Lib.decDigits m, 48 ≤ x.toNat ∧ x.toNat ≤ 57 := by
  induction m using Nat.strongRecOn with
  | _ m ih =>
    intro x hx
    by_cases h : m < 10
    · rw [Lib.decDigits_one h] at hx
      simp only [List.mem_singleton] at hx
      subst hx
      rw [dig_byte h]; omega
    · rw [Lib.decDigits.eq_def, dif_neg h] at hx
      rcases List.mem_append.1 hx with hx | hx
      · exact ih (m / 10) (by omega) x hx
      · simp only [List.mem_singleton] at hx
        subst hx
        rw [dig_byte (Nat.mod_lt _ (by omega))]; omega
theorem nDig_le : ∀ (k m : Nat), m < 10 ^ (k + 1) → Lib.nDigits m ≤ k + 1
  | 0, m, h => by rw [Lib.nDigits_small (by simpa using h)]; omega
  | k + 1, m, h => by
    by_cases hm : m < 10
    · rw [Lib.nDigits_small hm]; omega
    · rw [Lib.nDigits_big hm]
      have := nDig_le k (m / 10) (by rw [Nat.pow_succ] at h; omega)
      omega
theorem dec_ne (m : Nat) : Lib.decDigits m ≠ [] := fun e => by
  have := Lib.decDigits_length m
  have h2 := Lib.nDigits_pos m
  rw [e] at this
  simp only [List.length_nil] at this
  omega
theorem digs_le {l : List UInt8} {acc v : Nat} (h : digs acc l = some v) : acc ≤ v := by
  induction l generalizing acc with
  | nil => simp only [digs, Option.some.injEq] at h; omega
  | cons b l ih =>
    unfold digs at h
    split at h
    · have := ih h; omega
    · cases h
theorem parse_digs {l : List UInt8} {acc v : Nat} (h : digs acc l = some v) (hv : v ≤ 18446744073709551615) : Lib.parseUintM 18446744073709551615 acc l = .ok v := by
  induction l generalizing acc with
  | nil => simp only [digs, Option.some.injEq] at h; subst h; rfl
  | cons b l ih =>
    unfold digs at h
    split at h
    · next hb =>
      have := digs_le h
      unfold Lib.parseUintM
      rw [if_pos hb, if_neg (by omega), if_neg (by omega)]
      exact ih h
    · cases h
theorem parse_dec {m : Nat} (h : m < 9223372036854775808) : Lib.parseIntB 64 (Lib.decDigits m) = .ok (m : Int) := by
  cases e : Lib.decDigits m with
  | nil => exact absurd e (dec_ne m)
  | cons c r =>
    have hc := dec_all m c (by rw [e]; exact List.mem_cons_self ..)
    have p : Lib.parseUintB 64 (c :: r) = .ok m := by
      unfold Lib.parseUintB
      rw [if_neg (by simp), ← e]
      exact parse_digs (digs_dec m) (by omega)
    unfold Lib.parseIntB
    simp only
    rw [if_neg (by omega), p]
    simp only
    rw [if_neg (by omega), if_neg (by omega), if_neg (by omega)]
theorem dec_inj {a b : Nat} (h : Lib.decDigits a = Lib.decDigits b) : a = b := by
  have := digs_dec a
  rw [h, digs_dec b] at this
  exact (Option.some.inj this).symm
theorem dec_no (m : Nat) {c : UInt8} (hc : c.toNat < 48 ∨ 57 < c.toNat) : ∀ x ∈ Lib.decDigits m, x ≠ c := fun x hx e => by
  have := dec_all m x hx
  subst e
  omega
end Go.Sx
/- What functions of this seat's program compute, told in words (a predicate over heaps for each), and the proofs that the words are no more than the code's own weakest precondition. -/
namespace Go.Sx
open Go.Proofs
set_option linter.unusedVariables false
set_option maxRecDepth 100000

def impl_readDecimal.S (s_0 : ByteArray) (Post : Value → Heap → Prop) (h : Heap) : Prop :=
    CALL prg f_strconv_ParseInt #[.string s_0, .int .i64 (10 : Int), .int .i64 (64 : Int)] (fun q1 h2 =>
    TUP2 q1 fun q3 q4 =>
    asI .i64 q3 fun n5 =>
    binI tau .eql T_error q4 .nilIface (
    CMP prg .eql T_error (.tmp 12) (.const .nilIface) q4 .nilIface (fun b6 h7 =>
    BIF b6 (
    CALL prg f_impl_decimal #[.int .i64 n5] (fun q8 h9 =>
    asS q8 fun s10 =>
    Post (.tuple ⟨[.int .i64 n5, .bool (ByteArray.toList s10 == ByteArray.toList s_0)]⟩) h9) h7) (
    Post (.tuple ⟨[.int .i64 n5, .bool false]⟩) h7)) h2) fun v11 =>
    SPL v11 (
    CALL prg f_impl_decimal #[.int .i64 n5] (fun q13 h14 =>
    asS q13 fun s15 =>
    Post (.tuple ⟨[.int .i64 n5, .bool (ByteArray.toList s15 == ByteArray.toList s_0)]⟩) h14) h2) (
    Post (.tuple ⟨[.int .i64 n5, .bool false]⟩) h2) fun cs12 =>
    False) h
noncomputable def impl_readDecimal.code : Code := (Tryz.f77.body).getD .skip
theorem impl_readDecimal.call {s_0 : ByteArray} {Post : Value → Heap → Prop} {h : Heap} (H : impl_readDecimal.S s_0 Post h) : CALL prg f_impl_readDecimal #[.string s_0] Post h :=
  fn_call tau_ok mixed (c := impl_readDecimal.code) (Λ := lookL []) Tryz.func77 (by kernel_rfl) (by kernel_rfl)
    (Rq.free (by kernel_rfl))
    (Eq.mp (by kernel_rfl) H)

end Go.Sx
/- What the program reads as a number: the library's contracts, and the walk over its answer. -/
set_option linter.unusedVariables false
set_option linter.unusedSimpArgs false
namespace Go.Sx
set_option maxRecDepth 100000
open Go.Proofs Go.RowKit
theorem below_ext {w w' : World} (h : Below w.heap.size w w') : Ext w.heap w'.heap := ⟨h.size, h.block⟩
theorem below_same {B : Nat} {w w' : World} (h : Below B w w') : Same w w' := ⟨h.os, h.tape, h.output⟩
/-- What the library's functions find in the program's variables. -/
structure Libs (h : Heap) : Prop where
  tens : Tens h
  mx : ∃ m, cell h ⟨R146.g 1, 0, none⟩ = some (.int .i64 m)
  es : ∃ ev, cell h ⟨R174.g 15, 0, none⟩ = some ev ∧ (ev = .nilIface ∨ ∃ te pe, ev = .iface te pe)
  er : ∃ ev, cell h ⟨R174.g 16, 0, none⟩ = some ev ∧ (ev = .nilIface ∨ ∃ te pe, ev = .iface te pe)
theorem Libs.ext {h h' : Heap} (B : Libs h) (X : Ext h h') : Libs h' := by
  obtain ⟨m, hm⟩ := B.mx
  obtain ⟨e1, he1, k1⟩ := B.es
  obtain ⟨e2, he2, k2⟩ := B.er
  exact ⟨B.tens.ext X, ⟨m, X.cell hm⟩, ⟨e1, X.cell he1, k1⟩, e2, X.cell he2, k2⟩
theorem U_error : prg.underlying T_error = some (.interface (prg.methodsAt T_error)) := by kernel_rfl
section
variable {h : Heap} {F : Bool → Heap → Prop} {xo : Operand} {t : TypeId} {x c : Value}
theorem cmp_ne_nn (H : F false h) : CMP prg .neq T_error xo (.const c) .nilIface .nilIface F h := by
  refine semv fun w hw => ⟨.bool false, w, ?_, Same.refl _, by rw [hw]; exact H⟩
  have e1 : eqGuard .neq T_error xo (.const c) .nilIface .nilIface = pure () := by unfold eqGuard; simp
  simp only [Sem.run_bind, e1, Sem.run_pure, Result.andThen_ok]
  simp [binOp, run_equal_nil_nil w T_error U_error]
theorem cmp_eq_nn (H : F true h) : CMP prg .eql T_error xo (.const c) .nilIface .nilIface F h := by
  refine semv fun w hw => ⟨.bool true, w, ?_, Same.refl _, by rw [hw]; exact H⟩
  have e1 : eqGuard .eql T_error xo (.const c) .nilIface .nilIface = pure () := by unfold eqGuard; simp
  simp only [Sem.run_bind, e1, Sem.run_pure, Result.andThen_ok]
  simp [binOp, run_equal_nil_nil w T_error U_error]
theorem cmp_eq_hn (H : F false h) : CMP prg .eql T_error xo (.const c) (.iface t x) .nilIface F h := by
  refine semv fun w hw => ⟨.bool false, w, ?_, Same.refl _, by rw [hw]; exact H⟩
  have e1 : eqGuard .eql T_error xo (.const c) (.iface t x) .nilIface = pure () := by unfold eqGuard; simp
  simp only [Sem.run_bind, e1, Sem.run_pure, Result.andThen_ok]
  simp [binOp, run_equal_held_nil w T_error t x U_error]
end
/-- What the library reads as a number. -/
def PI (s : ByteArray) (h : Heap) (u : Value) (h' : Heap) : Prop := ((∃ v : Int, Lib.parseIntB 64 s.data.toList = .ok v ∧ u = .tuple ⟨[.int .i64 v, .nilIface]⟩) ∨ ∃ (v : Int) (t : Nat) (x : Value), (∀ v, Lib.parseIntB 64 s.data.toList ≠ .ok v) ∧ u = .tuple ⟨[.int .i64 v, .iface t x]⟩) ∧ Ext h h'
theorem ParseInt_c {h : Heap} {s : ByteArray} (B : Libs h) (hs : s.size ≤ 1048576) : CALL prg f_strconv_ParseInt #[.string s, .int .i64 10, .int .i64 64] (fun u h' => PI s h u h') h := by
  refine CALL_of_calls (f := f_strconv_ParseInt) L174.f174 rfl rfl fun w hw => ?_
  subst hw
  match e : Lib.parseIntB 64 s.data.toList with
  | Lib.NumEnd.ok v =>
    refine (Any.strconv_ParseInt_10_at64_ok L174 s (by omega) v e w).mono ?_
    rintro _ w' ⟨rfl, hw⟩
    have b : Below w.heap.size w w' := by
      rcases hw with rfl | ⟨t, rfl⟩
      · exact Below.refl _ _
      · exact Lib.bytesWorld_below _ _ _
    exact ⟨_, rfl, below_same b, .inl ⟨v, e, rfl⟩, below_ext b⟩
  | Lib.NumEnd.syntax =>
    obtain ⟨ev, hv, hev⟩ := B.es
    refine (Any.strconv_ParseInt_10_at64_syntax L174 s (by omega) e ev w hv hev).mono ?_
    rintro _ w' ⟨N, rfl, -, -, b⟩
    exact ⟨_, rfl, below_same b, .inr ⟨_, _, _, fun v k => by rw [e] at k; (cases k), rfl⟩, below_ext b⟩
  | Lib.NumEnd.range =>
    obtain ⟨ev, hv, hev⟩ := B.er
    refine (Any.strconv_ParseInt_10_at64_range L174 s (by omega) e ev w hv hev).mono ?_
    rintro _ w' ⟨N, rfl, -, -, b⟩
    exact ⟨_, rfl, below_same b, .inr ⟨_, _, _, fun v k => by rw [e] at k; (cases k), rfl⟩, below_ext b⟩
/-- What the program reads as a number. -/
theorem readDecimal_c {h : Heap} {s : ByteArray} (B : Libs h) (hs : s.size ≤ 1048576) : CALL prg f_impl_readDecimal #[.string s] (fun u h' => ∃ v ok, u = .tuple ⟨[.int .i64 v, .bool ok]⟩ ∧ (∀ m : Nat, m < 9223372036854775808 → s = decB m → v = (m : Int) ∧ ok = true) ∧ Ext h h') h := by
  have dl : ∀ m : Nat, (decB m).data.toList = Lib.decDigits m := fun m => by unfold decB; simp
  refine impl_readDecimal.call ((ParseInt_c B hs).mono ?_)
  rintro _ h1 ⟨⟨v, e, rfl⟩ | ⟨v, t, x, e, rfl⟩, x1⟩
  · have bd := Lib.parseIntB_bounds e
    refine tup2 (as_i (cmp_eq_nn (br_t rfl (goX (decimal_n (by omega) (by omega) (B.tens.ext x1)) fun h2 x2 => as_s ⟨v, _, rfl, fun m hm hd => ?_, x1.trans x2⟩))))
    subst hd
    rw [dl, parse_dec hm] at e
    obtain rfl : (m : Int) = v := by injection e
    refine ⟨rfl, ?_⟩
    rw [Lib.itoa_nonneg]
    simp [decB]
  · refine tup2 (as_i (cmp_eq_hn (br_f rfl ⟨v, false, rfl, fun m hm hd => ?_, x1⟩)))
    subst hd
    exact absurd (by rw [dl]; exact parse_dec hm) (e (m : Int))
end Go.Sx
