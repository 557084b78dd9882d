/- Names: the rule's and the program's; what is left of a text when letters are cut off at both ends. -/
import Derived.Test.YthhepeklpgefkaaGreatDoorTabE
import Derived.Test.YthhepeklpgefkaaGreatDoorK1
import Derived.Test.YthhepeklpgefkaaGreatDoorLp7
import Derived.Test.YthhepeklpgefkaaGreatDoorK5
import Derived.Laws.Strings2
import Derived.Test.YthhepeklpgefkaaGreatDoorLp4
set_option linter.unusedVariables false
set_option linter.unusedSimpArgs false
namespace Go.Sx
open Go.Proofs
set_option maxRecDepth 100000
set_option maxHeartbeats 1000000

def letter (n : Int) : Bool := decide (97 ≤ n) && decide (n ≤ 122)
def allL (s : ByteArray) : Bool := (List.range s.size).all fun i => letter (byteAt s (i : Int))
def nameOk (s : ByteArray) : Bool := inR s.size 1 12 && allL s
theorem byteAt_mk (l : List UInt8) (i : Nat) : byteAt ⟨⟨l⟩⟩ (i : Int) = ((l[i]?).map fun b => (b.toNat : Int)).getD 0 := by
  unfold byteAt
  rw [Int.toNat_natCast]
  congr 2
  by_cases h : i < l.length
  · rw [List.getElem?_eq_getElem h]
    exact getElem?_pos (⟨⟨l⟩⟩ : ByteArray) i h
  · rw [List.getElem?_eq_none (by omega)]
    exact getElem?_neg (⟨⟨l⟩⟩ : ByteArray) i h
theorem byte_range (s : ByteArray) (i : Int) : 0 ≤ byteAt s i ∧ byteAt s i < 256 := by
  unfold byteAt
  cases s[i.toNat]? with
  | none => simp
  | some b => have := b.toNat_lt; simp; omega
theorem allL_mk (l : List UInt8) : allL ⟨⟨l⟩⟩ = l.all fun b => letter (b.toNat : Int) := by
  unfold allL
  rw [Bool.eq_iff_iff]
  simp only [List.all_eq_true, List.mem_range]
  have hs : (⟨⟨l⟩⟩ : ByteArray).size = l.length := rfl
  rw [hs]
  constructor
  · intro h b hb
    obtain ⟨i, hi, rfl⟩ := List.mem_iff_getElem.1 hb
    have := h i hi
    rw [byteAt_mk, List.getElem?_eq_getElem hi] at this
    exact this
  · intro h i hi
    rw [byteAt_mk, List.getElem?_eq_getElem hi]
    exact h _ (List.getElem_mem hi)
theorem allL_last {s : ByteArray} {n : Nat} (h : s.size = n + 1) (hl : letter (byteAt s (n : Int)) = true) : allL (s.extract 0 n) = allL s ∧ (s.extract 0 n).size = n := by
  obtain ⟨⟨l⟩⟩ := s
  have h : l.length = n + 1 := h
  have e : (⟨⟨l⟩⟩ : ByteArray).extract 0 n = ⟨⟨l.take n⟩⟩ := by
    have := ByteArray.extract_mk l 0 n
    simpa using this
  rw [e, allL_mk, allL_mk]
  rw [byteAt_mk, List.getElem?_eq_getElem (by omega)] at hl
  refine ⟨?_, by show (l.take n).length = n; rw [List.length_take]; omega⟩
  conv => rhs; rw [← List.take_append_drop n l]
  rw [List.all_append, List.drop_eq_getElem_cons (by omega), List.all_cons]
  have : l.drop (n + 1) = [] := List.drop_of_length_le (by omega)
  rw [this]
  have hl : letter ((l[n]'(by omega)).toNat : Int) = true := hl
  rw [hl]; simp
theorem allL_first {s : ByteArray} {n : Nat} (h : s.size = n + 1) (hl : letter (byteAt s (0 : Int)) = true) : allL (s.extract 1 s.size) = allL s ∧ (s.extract 1 s.size).size = n := by
  obtain ⟨⟨l⟩⟩ := s
  cases l with
  | nil => cases h
  | cons b l =>
    have h : l.length + 1 = n + 1 := h
    have e : (⟨⟨b :: l⟩⟩ : ByteArray).extract 1 (⟨⟨b :: l⟩⟩ : ByteArray).size = ⟨⟨l⟩⟩ := by
      have := ByteArray.extract_mk (b :: l) 1 (l.length + 1)
      have e2 : List.take (l.length + 1 - 1) (List.drop 1 (b :: l)) = l := by simp
      rw [e2] at this
      exact this
    rw [e, allL_mk, allL_mk, List.all_cons]
    have hl : letter (b.toNat : Int) = true := by
      have := byteAt_mk (b :: l) 0
      rw [show ((0 : Nat) : Int) = 0 from rfl] at this
      rw [this] at hl
      exact hl
    rw [hl]
    exact ⟨by simp, by show l.length = n; omega⟩
theorem allL_no {s : ByteArray} {i : Nat} (hi : i < s.size) (h : letter (byteAt s (i : Int)) = false) : allL s = false := all_false (f := fun i => letter (byteAt s (i : Int))) hi h
theorem allL_empty {s : ByteArray} (h : s.size = 0) : allL s = true := by unfold allL; rw [h]; rfl
theorem l08Name_c (s : ByteArray) (hs : s.size ≤ maxLen) : Ret prg f_spec_l08Name #[.string s] (.bool (nameOk s)) := fun h => by
  have hm := maxLen_lt
  refine spec_l08Name.call ?_
  refine loop (fun x hh => ∃ n : Nat, x = (s, (n : Int)) ∧ n ≤ s.size ∧ hh = h ∧ ∀ i, i < n → letter (byteAt s (i : Int)) = true) (fun x => (s.size - x.2).toNat) ⟨0, rfl, by omega, rfl, fun i hi => by omega⟩ ?_
  rintro x hh ⟨n, rfl, hn, rfl, hl⟩
  refine brd (fun hc => ?_) fun hc => ?_
  · have no : letter (byteAt s (n : Int)) = false → (Value.bool false = .bool (nameOk s) ∧ Ext hh hh) := fun e => ⟨by unfold nameOk; rw [allL_no (by omega) e, Bool.and_false], Ext.refl _⟩
    refine idx (by omega) (by omega) (brd (fun h1 => no ?_) fun h1 => idx (by omega) (by omega) (brd (fun h2 => no ?_) fun h2 => ?_))
    · unfold letter; rw [decide_eq_false (by omega), Bool.false_and]
    · unfold letter; rw [decide_eq_false (p := byteAt s (n : Int) ≤ 122) (by omega), Bool.and_false]
    · refine ⟨⟨n + 1, by rw [wrap64_succ (by omega)], by omega, rfl, fun i hi => ?_⟩, by rw [wrap64_succ (by omega)]; show _ < _; simp; omega⟩
      by_cases e : i = n
      · subst e; unfold letter; rw [decide_eq_true (by omega), decide_eq_true (by omega)]; rfl
      · exact hl i (by omega)
  · have ha : allL s = true := all_true fun i hi => hl i (by omega)
    exact (l00In_c _ _ _).go fun h' x => as_b ⟨by unfold nameOk; rw [ha, Bool.and_true], x⟩
def abc : ByteArray := ⟨#[97, 98, 99, 100, 101, 102, 103, 104, 105, 106, 107, 108, 109, 110, 111, 112, 113, 114, 115, 116, 117, 118, 119, 120, 121, 122]⟩
def setL (n : Nat) : List Value := (List.range 256).map fun i => .bool (decide (97 ≤ i) && decide (i < 97 + n))
theorem abc_at : ∀ i : Fin 26, byteAt abc (i.val : Int) = ((97 + i.val : Nat) : Int) := by decide +kernel
theorem setL_zero : (⟨Z_strings_asciiSet⟩ : Array Value) = ⟨setL 0⟩ := by
  congr 1
theorem setL_get {n i : Nat} (hi : i < 256) : (⟨setL n⟩ : Array Value)[i]? = some (.bool (decide (97 ≤ i) && decide (i < 97 + n))) := by
  unfold setL
  simp [hi]
theorem setL_set {n : Nat} (hn : n < 26) : (⟨setL n⟩ : Array Value).setIfInBounds (97 + n) (.bool true) = ⟨setL (n + 1)⟩ := by
  apply Array.ext_getElem?
  intro i
  rw [Array.getElem?_setIfInBounds]
  by_cases hi : i < 256
  · rw [setL_get hi, setL_get hi]
    by_cases e : 97 + n = i
    · subst e
      rw [if_pos rfl, if_pos (by show 97 + n < (setL n).length; unfold setL; simp; omega)]
      simp
    · rw [if_neg e]
      congr 3
      rw [decide_eq_decide]; omega
  · rw [if_neg (by omega)]
    have k : ∀ m, (⟨setL m⟩ : Array Value)[i]? = none := fun m => by
      rw [Array.getElem?_eq_none]
      show (setL m).length ≤ i
      unfold setL; simp; omega
    rw [k, k]
theorem setL_size (n : Nat) : (⟨setL n⟩ : Array Value).size = 256 := by show (setL n).length = 256; unfold setL; simp
theorem setL_one (n : Nat) : ∀ v ∈ (⟨setL n⟩ : Array Value).toList, v.oneCell' = true := fun v hv => by
  obtain ⟨i, _, rfl⟩ := List.mem_map.1 (show v ∈ setL n from hv)
  rfl
theorem makeASCIISet_c (h : Heap) : CALL prg f_strings_makeASCIISet #[.string abc] (fun u h' => u = .tuple ⟨[.agg ⟨setL 26⟩, .bool true]⟩ ∧ Ext h h') h := by
  have hs : abc.size = 26 := rfl
  refine strings_makeASCIISet.call ((Mem.start h).alc fun g h1 x1 M => ?_)
  refine loop (fun x hh => ∃ n : Nat, x = (abc, ⟨g, 0, none⟩, (n : Int)) ∧ n ≤ 26 ∧ Mem h hh [(g, T_strings_asciiSet, ⟨setL n⟩)]) (fun x => (26 - x.2.2).toNat) ⟨0, rfl, by omega, by rw [← setL_zero]; exact M⟩ ?_
  rintro x hh ⟨n, rfl, hn, M⟩
  refine brd (fun hc => ?_) fun hc => ?_
  · have hb : byteAt abc (n : Int) = ((97 + n : Nat) : Int) := abc_at ⟨n, by omega⟩
    refine idx (by omega) (by omega) (brd (fun h1 => by omega) fun h1 => idx (by omega) (by omega) ?_)
    rw [hb, Int.toNat_natCast, Nat.mul_one, add_none, Nat.zero_add]
    refine M.st1 .here (by rw [setL_size]; omega) .here fun h2 M => ?_
    rw [setL_set (by omega)] at M
    exact ⟨⟨n + 1, by rw [wrap64_succ (by omega)], by omega, M⟩, by rw [wrap64_succ (by omega)]; show _ < _; simp; omega⟩
  · obtain rfl : n = 26 := by omega
    refine M.lda0 .here (setL_size _) (M.sta0 .here (setL_size _) (setL_one _) (setL_size _) .here fun h2 M => M.lda0 .here (setL_size _) ⟨rfl, M.ext⟩)
theorem contains_c {h0 h : Heap} {L : List Blk} {g : Nat} (M : Mem h0 h L) (l : Look L g ⟨setL 26⟩) {n : Int} (h1 : 0 ≤ n) (h2 : n < 256) :
    CALL prg f_p_strings_asciiSet_contains #[.pointer (some ⟨g, 0, none⟩), .int .u8 n] (fun u h' => u = .bool (letter n) ∧ Ext h h') h := by
  refine p_strings_asciiSet_contains.call (idx h1 (by omega) ?_)
  rw [Nat.mul_one, add_none, Nat.zero_add]
  refine o_b ((M.cell l _).trans (setL_get (by omega))) ⟨?_, Ext.refl _⟩
  congr 1
  unfold letter
  rw [Bool.eq_iff_iff]
  simp only [Bool.and_eq_true, decide_eq_true_eq]
  omega
theorem trimRight_c {h0 h : Heap} {L : List Blk} {g : Nat} (M : Mem h0 h L) (l : Look L g ⟨setL 26⟩) (s : ByteArray) (hs : s.size ≤ maxLen) :
    CALL prg f_strings_trimRightASCII #[.string s, .pointer (some ⟨g, 0, none⟩)] (fun u h' => (∃ r : ByteArray, u = .string r ∧ r.size ≤ s.size ∧ allL r = allL s) ∧ Ext h h') h := by
  have hm := maxLen_lt
  refine strings_trimRightASCII.call ?_
  refine loop (fun x hh => ∃ r : ByteArray, x = (r, ⟨g, 0, none⟩) ∧ r.size ≤ s.size ∧ allL r = allL s ∧ Ext h hh) (fun x => x.1.size) ⟨s, rfl, by omega, rfl, Ext.refl _⟩ ?_
  rintro x hh ⟨r, rfl, h1, h2, X⟩
  refine brd (fun hc => ?_) fun hc => ⟨⟨r, rfl, h1, h2⟩, X⟩
  obtain ⟨n, hn⟩ := Nat.exists_eq_succ_of_ne_zero (show r.size ≠ 0 by omega)
  have e : IntKind.i64.wrap ((r.size : Int) - 1) = (n : Int) := by rw [wrap64 (by omega) (by omega)]; omega
  rw [e]
  have hb := byte_range r (n : Int)
  refine idx (by omega) (by omega) (goX (contains_c (M.grow X) l hb.1 hb.2) fun h3 x3 => as_b (br (fun hz => ⟨⟨r, rfl, h1, h2⟩, X.trans x3⟩) fun hz => slb (by omega) (by omega) (by omega) ?_))
  rw [Int.toNat_natCast]
  obtain ⟨k1, k2⟩ := allL_last (n := n) hn (nf hz)
  exact ⟨⟨_, rfl, by omega, by rw [k1, h2], X.trans x3⟩, by show (r.extract 0 n).size < r.size; omega⟩
theorem trimLeft_c {h0 h : Heap} {L : List Blk} {g : Nat} (M : Mem h0 h L) (l : Look L g ⟨setL 26⟩) (s : ByteArray) (hs : s.size ≤ maxLen) :
    CALL prg f_strings_trimLeftASCII #[.string s, .pointer (some ⟨g, 0, none⟩)] (fun u h' => (∃ r : ByteArray, u = .string r ∧ (r.size = 0 ↔ allL s = true)) ∧ Ext h h') h := by
  have hm := maxLen_lt
  refine strings_trimLeftASCII.call ?_
  refine loop (fun x hh => ∃ r : ByteArray, x = (r, ⟨g, 0, none⟩) ∧ r.size ≤ s.size ∧ allL r = allL s ∧ Ext h hh) (fun x => x.1.size) ⟨s, rfl, by omega, rfl, Ext.refl _⟩ ?_
  rintro x hh ⟨r, rfl, h1, h2, X⟩
  refine brd (fun hc => ?_) fun hc => ⟨⟨r, rfl, fun _ => by rw [← h2]; exact allL_empty (by omega), fun _ => by omega⟩, X⟩
  obtain ⟨n, hn⟩ := Nat.exists_eq_succ_of_ne_zero (show r.size ≠ 0 by omega)
  have hb := byte_range r 0
  refine idx (by omega) (by omega) (goX (contains_c (M.grow X) l hb.1 hb.2) fun h3 x3 => as_b (br (fun hz => ⟨⟨r, rfl, fun e => by omega, fun e => ?_⟩, X.trans x3⟩) fun hz => slb (by omega) (by omega) (by omega) ?_))
  · have := allL_no (s := r) (i := 0) (by omega) (nt hz)
    rw [h2, e] at this; cases this
  · obtain ⟨k1, k2⟩ := allL_first (n := n) hn (nf hz)
    exact ⟨⟨_, rfl, by omega, by rw [k1, h2], X.trans x3⟩, by show (r.extract 1 r.size).size < r.size; omega⟩
theorem size_zero {s : ByteArray} : (s = ⟨#[]⟩) ↔ s.size = 0 := by
  constructor
  · rintro rfl; rfl
  · obtain ⟨⟨l⟩⟩ := s
    intro h
    have : l = [] := List.eq_nil_of_length_eq_zero h
    rw [this]
theorem isName_c (s : ByteArray) (hs : s.size ≤ maxLen) : Ret prg f_impl_isName #[.string s] (.bool (nameOk s)) := fun h => by
  refine impl_isName.call ((within_c _ _ _).go fun h1 x1 => as_b (br (fun hb => ?_) fun hb => ⟨by unfold nameOk; rw [hb]; rfl, x1⟩))
  have fin : ∀ {r : ByteArray} {h' : Heap}, (r.size = 0 ↔ allL s = true) → Ext h h' → (Value.bool (r.toList == (⟨#[]⟩ : ByteArray).toList) = .bool (nameOk s) ∧ Ext h h') := fun hr x => ⟨by
    unfold nameOk
    rw [hb, Bool.true_and, str_eq]
    congr 1
    rw [Bool.eq_iff_iff, decide_eq_true_iff, size_zero, hr], x⟩
  refine strings_Trim.call ?_
  have hne : ¬ s = ⟨#[]⟩ := fun e => by
    rw [size_zero] at e
    rw [e] at hb; cases hb
  rw [strings_Trim.S, str_eq, str_eq]
  refine br_f (decide_eq_false hne) (br_f (by decide +kernel) ?_)
  unfold strings_Trim.J3
  refine br_f (by decide +kernel) ?_
  unfold strings_Trim.J4
  refine br_f rfl ?_
  unfold strings_Trim.J5
  refine goX (makeASCIISet_c h1) fun h2 x2 => tup2 (as_a (as_b ((Mem.start h2).alc fun g h3 x3 M => M.sta0 .here (setL_size _) (setL_one _) rfl .here fun h4 M => br_t rfl ?_)))
  refine (trimRight_c M .here s hs).mono ?_
  rintro _ h5 ⟨⟨r, rfl, r1, r2⟩, x5⟩
  refine as_s ((trimLeft_c (M.grow x5) .here r (by omega)).mono ?_)
  rintro _ h6 ⟨⟨q, rfl, hq⟩, x6⟩
  refine as_s (as_s ?_)
  rw [r2] at hq
  exact fin hq (((x1.trans x2).trans M.ext).trans (x5.trans x6))
end Go.Sx
/- Rings copied and moved on; filters: what the functions compute. -/
set_option linter.unusedVariables false
set_option linter.unusedSimpArgs false
namespace Go.Sx
open Go.Proofs
set_option maxRecDepth 100000

theorem Clone_f32_c {h : Heap} {b : Option Addr} {l c : Nat} {xs : List Nat} (S : SlR (rF .f32) h b l c xs) (hl : l ≤ 1048576) :
    CALL prg f_slices_Clone_sl_float32_float32 #[.slice b l c] (fun u h' => ∃ b' c' B, u = .slice b' l c' ∧ SlO T_float32 (rF .f32) B b' l c' xs ∧ Mem h h' B) h := by
  refine slices_Clone_sl_float32_float32.call (cmp_nil U_sl_float32 (br (fun hb => ?_) fun hb => ?_))
  · obtain rfl : b = none := by simpa using hb
    obtain ⟨h1, h2, h3, ws, C, R⟩ := S
    have hw : ws = [] := by
      cases ws with
      | nil => rfl
      | cons w ws => obtain ⟨a, e, _⟩ := C 0 (by simp); cases e
    subst hw
    have hx := R.len
    have : l = 0 := by rw [← h1]; have e : (rF .f32).sz = 1 := rfl; rw [e] at hx; simpa using hx.symm
    subst this
    obtain rfl : xs = [] := List.eq_nil_of_length_eq_zero h1
    exact ⟨none, 0, [], rfl, SlO.nil, Mem.start h⟩
  · refine (Mem.start h).alc fun g h1 x1 M => ?_
    refine append_copy E_sl_float32 (by decide) (flat_F _) (S.ext x1) M (by omega) fun b' c' h' B' O' M' => as_l ⟨b', c', B', rfl, O', by simpa using M'⟩
theorem ow_ring {b : Option Addr} {l c : Nat} {B : List Blk} {r : GRing} (O : SlO T_float32 (rF .f32) B b l c r.Samples) : rRing.ow B [.slice b l c, .int .i64 r.At] r :=
  ⟨B, [], [.slice b l c], [.int .i64 r.At], by simp, rfl, ⟨b, l, c, rfl, O⟩, rfl, rfl⟩
theorem l02Copy_c {h : Heap} {q : Addr} {r : GRing} (R : RdP rRing h q r) (hl : r.Samples.length ≤ 1048576) : CALL prg f_spec_l02Copy #[.pointer (some q)] (fun u h' => NewR rRing h h' u r) h := by
  refine spec_l02Copy.call ((Mem.start h).alc fun g h1 x1 M => ?_)
  have R1 := R.ext x1
  refine R1.oL1 fun b l c S => R1.oI ?_
  have hls := S.len
  refine (Mem.start h1).alc fun g2 h2 x2 N => ?_
  refine (R1.foc foc_Ring_At).pin rfl x2 ((R1.fst foc_Ring_Samples).pin rfl x2 ?_)
  refine append_copy E_sl_float32 (by decide) (flat_F _) (S.ext x2) N (by omega) fun b' c' h3 B' O N => as_l ?_
  refine (R1.foc foc_Ring_At).pin rfl N.ext ?_
  have M := (M.join N).perm List.perm_append_comm
  rw [List.append_nil] at M
  refine M.sta0 .here rfl (all_one rfl) rfl .here fun h4 M => M.lda0 .here rfl ?_
  exact ⟨_, B', rfl, ow_ring O, M.sub (List.sublist_cons_self _ _)⟩
theorem Ring_clone_c {h : Heap} {cs : Array Value} {r : GRing} (R : rRing.rd h cs.toList r) (hl : r.Samples.length ≤ 1048576) : CALL prg f_impl_Ring_clone #[.agg cs] (fun u h' => NewR rRing h h' u r) h := by
  refine impl_Ring_clone.call ((Mem.start h).alc fun g h1 x1 M => M.alc fun g2 h2 x2 M => ?_)
  have R1 : RdP rRing h2 ⟨g, 0, none⟩ r := M.rdp (.there .here) (rRing.ext M.ext R)
  refine R1.oL2 fun b l c S => R1.oI2 ?_
  have hls := S.len
  refine (Clone_f32_c S (by omega)).mono ?_
  rintro _ h3 ⟨b', c', B', rfl, O, N⟩
  refine as_l ?_
  refine (R1.foc0 foc_Ring_At).pin rfl N.ext ?_
  have M := (M.join N).perm List.perm_append_comm
  refine M.sta0 .here rfl (all_one rfl) rfl .here fun h4 M => M.lda0 .here rfl ?_
  exact ⟨_, B', rfl, ow_ring O, M.sub ((List.sublist_cons_self _ _).trans (List.sublist_cons_self _ _))⟩
theorem at_lt {r : GRing} (h : r.ok = true) : 0 ≤ r.At ∧ r.At.toNat < r.Samples.length ∧ 1 ≤ r.Samples.length ∧ r.Samples.length ≤ 1024 ∧ r.At < r.Samples.length := by
  unfold GRing.ok inR GRing.len at h
  simp only [Bool.and_eq_true, decide_eq_true_eq] at h
  obtain ⟨⟨h1, h2⟩, h3, h4⟩ := h
  refine ⟨h3, ?_, ?_, ?_, ?_⟩ <;> omega
end Go.Sx
/- Filters: what the functions compute. -/
set_option linter.unusedVariables false
set_option linter.unusedSimpArgs false
namespace Go.Sx
open Go.Proofs
set_option maxRecDepth 100000

theorem l02Uses_c (k : Int) : Ret prg f_spec_l02Uses #[.int .i64 k] (.tuple ⟨[.int .i64 (usesC k), .int .i64 (usesS k)]⟩) := fun h => by
  refine spec_l02Uses.call ?_
  unfold spec_l02Uses.S
  repeat' refine br (fun _ => ?_) (fun _ => ?_)
  all_goals (refine ⟨?_, Ext.refl _⟩; simp_all [usesC, usesS])
def usesI (k : Int) : Int := if inR k 1 5 then usesC k else 0
def usesJ (k : Int) : Int := if inR k 1 5 then usesS k else 0
theorem uses_c (k : Int) : Ret prg f_impl_uses #[.int .i64 k] (.tuple ⟨[.int .i64 (usesI k), .int .i64 (usesJ k)]⟩) := fun h => by
  refine impl_uses.call ?_
  unfold impl_uses.S
  repeat' refine br (fun _ => ?_) (fun _ => ?_)
  all_goals (refine ⟨?_, Ext.refl _⟩; simp_all [usesI, usesJ, usesC, usesS, inR])
  all_goals omega
def usedAt (l : List Nat) (n : Int) (i : Nat) : Bool := fin l[i]! && (decide ((i : Int) < n) || l[i]! == 0)
theorem isUsed_c {h : Heap} {b : Option Addr} {l c : Nat} {xs : List Nat} (S : SlR (rF .f32) h b l c xs) (n : Int) : CALL prg f_impl_isUsed #[.slice b l c, .int .i64 n] (fun u h' => u = .bool (used xs n) ∧ Ext h h') h := by
  refine impl_isUsed.call ?_
  have hm2 := S.2.2.1
  have hm3 := S.2.1
  have := maxLen_lt
  have hl := S.len
  refine loop (fun x hh => ∃ m : Nat, x = (n, b, l, c, (l : Int), (m : Int)) ∧ m ≤ l ∧ Ext h hh ∧ ∀ i, i < m → usedAt xs n i = true) (fun x => (l - x.2.2.2.2.2).toNat) ⟨0, rfl, by omega, Ext.refl _, fun i hi => by omega⟩ ?_
  rintro x hh ⟨m, rfl, hn, X, hf⟩
  refine brd (fun hc => ?_) fun hc => ?_
  · refine (S.ext X).idx (by decide) (by omega) (by omega) fun a Ra => Ra.oF1 fun y hy => ?_
    have no : ∀ {h'}, Ext h h' → usedAt xs n m = false → ((Value.bool false = .bool (used xs n)) ∧ Ext h h') := fun x e => ⟨by rw [show used xs n = false from all_false (i := m) (by omega) e], x⟩
    have go : ∀ {h'}, Ext h h' → usedAt xs n m = true → (∃ m_1 : Nat, ((n, b, l, c, (l : Int), IntKind.i64.wrap ((m : Int) + 1)) : Int × Option Addr × Nat × Nat × Int × Int) = (n, b, l, c, (l : Int), (m_1 : Int)) ∧ m_1 ≤ l ∧ Ext h h' ∧ ∀ i, i < m_1 → usedAt xs n i = true) ∧ ((l : Int) - IntKind.i64.wrap ((m : Int) + 1)).toNat < ((l : Int) - (m : Int)).toNat := by
      intro h' x e
      rw [wrap64_succ (by omega)]
      refine ⟨⟨m + 1, rfl, by omega, x, fun i hi => ?_⟩, by omega⟩
      by_cases e' : i = m
      · subst e'; exact e
      · exact hf i (by omega)
    refine (isFinite_c hy).go fun h1 x1 => as_b (br (fun hb => no (X.trans x1) ?_) fun hb => ?_)
    · rw [usedAt, show fin xs[m]! = false by simpa using hb]; rfl
    have hb : fin xs[m]! = true := by simpa using hb
    refine brd (fun h2 => ?_) fun h2 => go (X.trans x1) ?_
    · refine (bitsOf_c hy).go fun h3 x3 => as_i (br (fun hb3 => no ((X.trans x1).trans x3) ?_) fun hb3 => go ((X.trans x1).trans x3) ?_)
      · rw [usedAt, hb, decide_eq_false (by omega), Bool.true_and, Bool.false_or]
        have hb3 : (xs[m]! : Int) ≠ 0 := by simpa using hb3
        exact beq_false_of_ne (by omega)
      · rw [usedAt, hb, decide_eq_false (by omega), Bool.true_and, Bool.false_or]
        have hb3 : (xs[m]! : Int) = 0 := by simpa using hb3
        exact beq_iff_eq.2 (by omega)
    · rw [usedAt, hb, decide_eq_true (by omega)]; rfl
  · refine ⟨?_, X⟩
    rw [show used xs n = true from all_true fun i hi => hf i (by omega)]
theorem usesI_pos (k : Int) : decide (0 < usesI k) = inR k 1 5 := by
  unfold usesI
  split
  · next h => rw [h]; apply decide_eq_true; unfold usesC; split <;> (try split) <;> omega
  · next h => rw [Bool.not_eq_true] at h; rw [h]; rfl
theorem ValidFilter_c {h : Heap} {cs : Array Value} {f : GFilter} (R : rFilter.rd h cs.toList f) : CALL prg f_impl_ValidFilter #[.agg cs] (fun u h' => u = .bool f.ok ∧ Ext h h') h := by
  refine impl_ValidFilter.call (alcR R fun g h1 x1 R1 => R1.oI2 ((uses_c _).go fun h2 x2 => tup2 (as_i (as_i ?_))))
  rw [usesI_pos]
  have X2 := x1.trans x2
  have R2 := R1.ext x2
  refine br (fun hb => ?_) fun hb => ⟨by rw [GFilter.ok, hb]; rfl, X2⟩
  have e1 : usesI f.Kind = usesC f.Kind := by rw [usesI, if_pos hb]
  have e2 : usesJ f.Kind = usesS f.Kind := by rw [usesJ, if_pos hb]
  rw [e1, e2]
  refine slb (by omega) (by omega) (by omega) ?_
  rw [slP_zero]
  refine (isUsed_c ((R2.foc0 foc_Filter_C).arr (by decide)) _).mono ?_
  rintro _ h3 ⟨rfl, x3⟩
  refine as_b (br (fun hc => ?_) fun hc => ⟨by rw [GFilter.ok, hb, hc]; rfl, X2.trans x3⟩)
  refine slb (by omega) (by omega) (by omega) ?_
  rw [slP_zero]
  refine (isUsed_c (((R2.ext x3).foc0 foc_Filter_S).arr (by decide)) _).mono ?_
  rintro _ h4 ⟨rfl, x4⟩
  exact as_b ⟨by rw [GFilter.ok, hb, hc]; rfl, (X2.trans x3).trans x4⟩
theorem isFilter_c {h : Heap} {cs : Array Value} {f : GFilter} (R : rFilter.rd h cs.toList f) (k : Int) : CALL prg f_impl_isFilter #[.agg cs, .int .i64 k] (fun u h' => u = .bool (f.ok && f.Kind == k) ∧ Ext h h') h := by
  refine impl_isFilter.call (alcR R fun g h1 x1 R1 => R1.lda1 rfl fun cs' Rc => (ValidFilter_c Rc).mono ?_)
  rintro _ h2 ⟨rfl, x2⟩
  refine as_b (br (fun hb => (R1.ext x2).oI2 ⟨by rw [hb]; rfl, x1.trans x2⟩) fun hb => ⟨by rw [hb]; rfl, x1.trans x2⟩)
theorem l02Ok_c {h : Heap} {q : Addr} {f : GFilter} (R : RdP rFilter h q f) : CALL prg f_spec_l02Ok #[.pointer (some q)] (fun u h' => u = .bool f.ok ∧ Ext h h') h := by
  have hC := (R.foc foc_Filter_C).len
  have hS := (R.foc foc_Filter_S).len
  refine spec_l02Ok.call (R.oI1 ((l00In_c _ _ _).go fun h1 x1 => as_b (br (fun hb => ⟨by rw [GFilter.ok, show inR f.Kind 1 5 = false by simpa using hb]; rfl, x1⟩) fun hb => ?_)))
  have hb : inR f.Kind 1 5 = true := by simpa using hb
  refine (R.ext x1).oI1 ((l02Uses_c _).go fun h2 x2 => tup2 (as_i (as_i ?_)))
  have X2 := x1.trans x2
  refine loop (fun x hh => ∃ m : Nat, x = (q, usesC f.Kind, usesS f.Kind, (m : Int)) ∧ m ≤ 3 ∧ Ext h hh ∧ ∀ i, i < m → usedAt f.C (usesC f.Kind) i = true) (fun x => (3 - x.2.2.2).toNat) ⟨0, rfl, by omega, X2, fun i hi => by omega⟩ ?_
  rintro x hh ⟨m, rfl, hn, X, hf⟩
  refine brd (fun hc => ?_) fun hc => ?_
  · refine idx (by omega) (by omega) ?_
    have Ra := ((R.ext X).foc foc_Filter_C).elem (i := m) (by omega)
    refine Ra.oF1 fun y hy => ?_
    have no : ∀ {h'}, Ext h h' → usedAt f.C (usesC f.Kind) m = false → ((Value.bool false = .bool f.ok) ∧ Ext h h') := fun x e => ⟨by rw [GFilter.ok, hb, show used f.C _ = false from all_false (i := m) (by omega) e]; rfl, x⟩
    have go : ∀ {h'}, Ext h h' → usedAt f.C (usesC f.Kind) m = true → (∃ m_1 : Nat, ((q, usesC f.Kind, usesS f.Kind, IntKind.i64.wrap ((m : Int) + 1)) : Addr × Int × Int × Int) = (q, usesC f.Kind, usesS f.Kind, (m_1 : Int)) ∧ m_1 ≤ 3 ∧ Ext h h' ∧ ∀ i, i < m_1 → usedAt f.C (usesC f.Kind) i = true) ∧ ((3 : Int) - IntKind.i64.wrap ((m : Int) + 1)).toNat < ((3 : Int) - (m : Int)).toNat := by
      intro h' x e
      rw [wrap64_succ (by omega)]
      refine ⟨⟨m + 1, rfl, by omega, x, fun i hi => ?_⟩, by omega⟩
      by_cases e' : i = m
      · subst e'; exact e
      · exact hf i (by omega)
    refine (l01Finite_c hy).go fun h1 x1 => as_b (br (fun hb => no (X.trans x1) ?_) fun hb => ?_)
    · rw [usedAt, show fin f.C[m]! = false by simpa using hb]; rfl
    have hb : fin f.C[m]! = true := by simpa using hb
    refine brd (fun h2 => ?_) fun h2 => go (X.trans x1) ?_
    · refine idx (by omega) (by omega) ((Ra.ext x1).oF1 fun y hy => (l01Same_c hy fw0).go fun h3 x3 => as_b (br (fun hb3 => no ((X.trans x1).trans x3) ?_) fun hb3 => go ((X.trans x1).trans x3) ?_))
      · rw [usedAt, hb, decide_eq_false (by omega), Bool.true_and, Bool.false_or]
        simpa using hb3
      · rw [usedAt, hb, decide_eq_false (by omega), Bool.true_and, Bool.false_or]
        simpa using hb3
    · rw [usedAt, hb, decide_eq_true (by omega)]; rfl
  have hCu : used f.C (usesC f.Kind) = true := all_true fun i hi => hf i (by omega)
  refine loop (fun x hh => ∃ m : Nat, x = (q, usesS f.Kind, (m : Int)) ∧ m ≤ 2 ∧ Ext h hh ∧ ∀ i, i < m → usedAt f.S (usesS f.Kind) i = true) (fun x => (2 - x.2.2).toNat) ⟨0, rfl, by omega, X, fun i hi => by omega⟩ ?_
  rintro x hh ⟨m, rfl, hn, X, hf⟩
  refine brd (fun hc => ?_) fun hc => ?_
  · refine idx (by omega) (by omega) ?_
    have Ra := ((R.ext X).foc foc_Filter_S).elem (i := m) (by omega)
    refine Ra.oF1 fun y hy => ?_
    have no : ∀ {h'}, Ext h h' → usedAt f.S (usesS f.Kind) m = false → ((Value.bool false = .bool f.ok) ∧ Ext h h') := fun x e => ⟨by rw [GFilter.ok, hb, show used f.S _ = false from all_false (i := m) (by omega) e, Bool.and_false], x⟩
    have go : ∀ {h'}, Ext h h' → usedAt f.S (usesS f.Kind) m = true → (∃ m_1 : Nat, ((q, usesS f.Kind, IntKind.i64.wrap ((m : Int) + 1)) : Addr × Int × Int) = (q, usesS f.Kind, (m_1 : Int)) ∧ m_1 ≤ 2 ∧ Ext h h' ∧ ∀ i, i < m_1 → usedAt f.S (usesS f.Kind) i = true) ∧ ((2 : Int) - IntKind.i64.wrap ((m : Int) + 1)).toNat < ((2 : Int) - (m : Int)).toNat := by
      intro h' x e
      rw [wrap64_succ (by omega)]
      refine ⟨⟨m + 1, rfl, by omega, x, fun i hi => ?_⟩, by omega⟩
      by_cases e' : i = m
      · subst e'; exact e
      · exact hf i (by omega)
    refine (l01Finite_c hy).go fun h1 x1 => as_b (br (fun hb => no (X.trans x1) ?_) fun hb => ?_)
    · rw [usedAt, show fin f.S[m]! = false by simpa using hb]; rfl
    have hb : fin f.S[m]! = true := by simpa using hb
    refine brd (fun h2 => ?_) fun h2 => go (X.trans x1) ?_
    · refine idx (by omega) (by omega) ((Ra.ext x1).oF1 fun y hy => (l01Same_c hy fw0).go fun h3 x3 => as_b (br (fun hb3 => no ((X.trans x1).trans x3) ?_) fun hb3 => go ((X.trans x1).trans x3) ?_))
      · rw [usedAt, hb, decide_eq_false (by omega), Bool.true_and, Bool.false_or]
        simpa using hb3
      · rw [usedAt, hb, decide_eq_false (by omega), Bool.true_and, Bool.false_or]
        simpa using hb3
    · rw [usedAt, hb, decide_eq_true (by omega)]; rfl
  · refine ⟨?_, X⟩
    rw [GFilter.ok, hb, hCu, show used f.S _ = true from all_true fun i hi => hf i (by omega)]; rfl
end Go.Sx
