/- Names: the rule's and the program's; what is left of a text when letters are cut off at both ends. -/
import Derived.Test.YtnhcoeogejgidabGreatDoorLpx
import Derived.Test.YtnhcoeogejgidabGreatDoorTabE
import Derived.Test.YtnhcoeogejgidabGreatDoorLp5
import Derived.Test.YtnhcoeogejgidabGreatDoorK5
import Derived.Laws.Strings2
import Derived.Test.YtnhcoeogejgidabGreatDoorLg
import Derived.Test.YtnhcoeogejgidabGreatDoorLp2
set_option linter.unusedVariables false
set_option linter.unusedSimpArgs false
namespace Go.Sx
open Go.Proofs
set_option maxRecDepth 100000
set_option maxHeartbeats 1000000

def letter (n : Int) : Bool := decide (97 ≤ n) && decide (n ≤ 122)
def allL (s : ByteArray) : Bool := (List.range s.size).all fun i => letter (byteAt s (i : Int))
def nameOk (s : ByteArray) : Bool := inR s.size 1 12 && allL s
theorem byteAt_mk (l : List UInt8) (i : Nat) : byteAt ⟨⟨l⟩⟩ (i : Int) = ((l[i]?).map fun b => (b.toNat : Int)).getD 0 := by
  unfold byteAt
  rw [Int.toNat_natCast]
  congr 2
  by_cases h : i < l.length
  · rw [List.getElem?_eq_getElem h]
    exact getElem?_pos (⟨⟨l⟩⟩ : ByteArray) i h
  · rw [List.getElem?_eq_none (by omega)]
    exact getElem?_neg (⟨⟨l⟩⟩ : ByteArray) i h
theorem byte_range (s : ByteArray) (i : Int) : 0 ≤ byteAt s i ∧ byteAt s i < 256 := by
  unfold byteAt
  cases s[i.toNat]? with
  | none => simp
  | some b => have := b.toNat_lt; simp; omega
theorem allL_mk (l : List UInt8) : allL ⟨⟨l⟩⟩ = l.all fun b => letter (b.toNat : Int) := by
  unfold allL
  rw [Bool.eq_iff_iff]
  simp only [List.all_eq_true, List.mem_range]
  have hs : (⟨⟨l⟩⟩ : ByteArray).size = l.length := rfl
  rw [hs]
  constructor
  · intro h b hb
    obtain ⟨i, hi, rfl⟩ := List.mem_iff_getElem.1 hb
    have := h i hi
    rw [byteAt_mk, List.getElem?_eq_getElem hi] at this
    exact this
  · intro h i hi
    rw [byteAt_mk, List.getElem?_eq_getElem hi]
    exact h _ (List.getElem_mem hi)
theorem allL_last {s : ByteArray} {n : Nat} (h : s.size = n + 1) (hl : letter (byteAt s (n : Int)) = true) : allL (s.extract 0 n) = allL s ∧ (s.extract 0 n).size = n := by
  obtain ⟨⟨l⟩⟩ := s
  have h : l.length = n + 1 := h
  have e : (⟨⟨l⟩⟩ : ByteArray).extract 0 n = ⟨⟨l.take n⟩⟩ := by
    have := ByteArray.extract_mk l 0 n
    simpa using this
  rw [e, allL_mk, allL_mk]
  rw [byteAt_mk, List.getElem?_eq_getElem (by omega)] at hl
  refine ⟨?_, by show (l.take n).length = n; rw [List.length_take]; omega⟩
  conv => rhs; rw [← List.take_append_drop n l]
  rw [List.all_append, List.drop_eq_getElem_cons (by omega), List.all_cons]
  have : l.drop (n + 1) = [] := List.drop_of_length_le (by omega)
  rw [this]
  have hl : letter ((l[n]'(by omega)).toNat : Int) = true := hl
  rw [hl]; simp
theorem allL_first {s : ByteArray} {n : Nat} (h : s.size = n + 1) (hl : letter (byteAt s (0 : Int)) = true) : allL (s.extract 1 s.size) = allL s ∧ (s.extract 1 s.size).size = n := by
  obtain ⟨⟨l⟩⟩ := s
  cases l with
  | nil => cases h
  | cons b l =>
    have h : l.length + 1 = n + 1 := h
    have e : (⟨⟨b :: l⟩⟩ : ByteArray).extract 1 (⟨⟨b :: l⟩⟩ : ByteArray).size = ⟨⟨l⟩⟩ := by
      have := ByteArray.extract_mk (b :: l) 1 (l.length + 1)
      have e2 : List.take (l.length + 1 - 1) (List.drop 1 (b :: l)) = l := by simp
      rw [e2] at this
      exact this
    rw [e, allL_mk, allL_mk, List.all_cons]
    have hl : letter (b.toNat : Int) = true := by
      have := byteAt_mk (b :: l) 0
      rw [show ((0 : Nat) : Int) = 0 from rfl] at this
      rw [this] at hl
      exact hl
    rw [hl]
    exact ⟨by simp, by show l.length = n; omega⟩
theorem allL_no {s : ByteArray} {i : Nat} (hi : i < s.size) (h : letter (byteAt s (i : Int)) = false) : allL s = false := all_false (f := fun i => letter (byteAt s (i : Int))) hi h
theorem allL_empty {s : ByteArray} (h : s.size = 0) : allL s = true := by unfold allL; rw [h]; rfl
def abc : ByteArray := ⟨#[97, 98, 99, 100, 101, 102, 103, 104, 105, 106, 107, 108, 109, 110, 111, 112, 113, 114, 115, 116, 117, 118, 119, 120, 121, 122]⟩
def setL (n : Nat) : List Value := (List.range 256).map fun i => .bool (decide (97 ≤ i) && decide (i < 97 + n))
theorem abc_at : ∀ i : Fin 26, byteAt abc (i.val : Int) = ((97 + i.val : Nat) : Int) := by decide +kernel
theorem setL_zero : (⟨Z_strings_asciiSet⟩ : Array Value) = ⟨setL 0⟩ := by
  congr 1
theorem setL_get {n i : Nat} (hi : i < 256) : (⟨setL n⟩ : Array Value)[i]? = some (.bool (decide (97 ≤ i) && decide (i < 97 + n))) := by
  unfold setL
  simp [hi]
theorem setL_set {n : Nat} (hn : n < 26) : (⟨setL n⟩ : Array Value).setIfInBounds (97 + n) (.bool true) = ⟨setL (n + 1)⟩ := by
  apply Array.ext_getElem?
  intro i
  rw [Array.getElem?_setIfInBounds]
  by_cases hi : i < 256
  · rw [setL_get hi, setL_get hi]
    by_cases e : 97 + n = i
    · subst e
      rw [if_pos rfl, if_pos (by show 97 + n < (setL n).length; unfold setL; simp; omega)]
      simp
    · rw [if_neg e]
      congr 3
      rw [decide_eq_decide]; omega
  · rw [if_neg (by omega)]
    have k : ∀ m, (⟨setL m⟩ : Array Value)[i]? = none := fun m => by
      rw [Array.getElem?_eq_none]
      show (setL m).length ≤ i
      unfold setL; simp; omega
    rw [k, k]
theorem setL_size (n : Nat) : (⟨setL n⟩ : Array Value).size = 256 := by show (setL n).length = 256; unfold setL; simp
theorem setL_one (n : Nat) : ∀ v ∈ (⟨setL n⟩ : Array Value).toList, v.oneCell' = true := fun v hv => by
  obtain ⟨i, _, rfl⟩ := List.mem_map.1 (show v ∈ setL n from hv)
  rfl
theorem makeASCIISet_c (h : Heap) : CALL prg f_strings_makeASCIISet #[.string abc] (fun u h' => u = .tuple ⟨[.agg ⟨setL 26⟩, .bool true]⟩ ∧ Ext h h') h := by
  have hs : abc.size = 26 := rfl
  refine strings_makeASCIISet.call ((Mem.start h).alc fun g h1 x1 M => ?_)
  refine loop (fun x hh => ∃ n : Nat, x = (abc, ⟨g, 0, none⟩, (n : Int)) ∧ n ≤ 26 ∧ Mem h hh [(g, T_strings_asciiSet, ⟨setL n⟩)]) (fun x => (26 - x.2.2).toNat) ⟨0, rfl, by omega, by rw [← setL_zero]; exact M⟩ ?_
  rintro x hh ⟨n, rfl, hn, M⟩
  refine brd (fun hc => ?_) fun hc => ?_
  · have hb : byteAt abc (n : Int) = ((97 + n : Nat) : Int) := abc_at ⟨n, by omega⟩
    refine idx (by omega) (by omega) (brd (fun h1 => by omega) fun h1 => idx (by omega) (by omega) ?_)
    rw [hb, Int.toNat_natCast, Nat.mul_one, add_none, Nat.zero_add]
    refine M.st1 .here (by rw [setL_size]; omega) .here fun h2 M => ?_
    rw [setL_set (by omega)] at M
    exact ⟨⟨n + 1, by rw [wrap64_succ (by omega)], by omega, M⟩, by rw [wrap64_succ (by omega)]; show _ < _; simp; omega⟩
  · obtain rfl : n = 26 := by omega
    refine M.lda0 .here (setL_size _) (M.sta0 .here (setL_size _) (setL_one _) (setL_size _) .here fun h2 M => M.lda0 .here (setL_size _) ⟨rfl, M.ext⟩)
theorem contains_c {h0 h : Heap} {L : List Blk} {g : Nat} (M : Mem h0 h L) (l : Look L g ⟨setL 26⟩) {n : Int} (h1 : 0 ≤ n) (h2 : n < 256) :
    CALL prg f_p_strings_asciiSet_contains #[.pointer (some ⟨g, 0, none⟩), .int .u8 n] (fun u h' => u = .bool (letter n) ∧ Ext h h') h := by
  refine p_strings_asciiSet_contains.call (idx h1 (by omega) ?_)
  rw [Nat.mul_one, add_none, Nat.zero_add]
  refine o_b ((M.cell l _).trans (setL_get (by omega))) ⟨?_, Ext.refl _⟩
  congr 1
  unfold letter
  rw [Bool.eq_iff_iff]
  simp only [Bool.and_eq_true, decide_eq_true_eq]
  omega
theorem trimRight_c {h0 h : Heap} {L : List Blk} {g : Nat} (M : Mem h0 h L) (l : Look L g ⟨setL 26⟩) (s : ByteArray) (hs : s.size ≤ maxLen) :
    CALL prg f_strings_trimRightASCII #[.string s, .pointer (some ⟨g, 0, none⟩)] (fun u h' => (∃ r : ByteArray, u = .string r ∧ r.size ≤ s.size ∧ allL r = allL s) ∧ Ext h h') h := by
  have hm := maxLen_lt
  refine strings_trimRightASCII.call ?_
  refine loop (fun x hh => ∃ r : ByteArray, x = (r, ⟨g, 0, none⟩) ∧ r.size ≤ s.size ∧ allL r = allL s ∧ Ext h hh) (fun x => x.1.size) ⟨s, rfl, by omega, rfl, Ext.refl _⟩ ?_
  rintro x hh ⟨r, rfl, h1, h2, X⟩
  refine brd (fun hc => ?_) fun hc => ⟨⟨r, rfl, h1, h2⟩, X⟩
  obtain ⟨n, hn⟩ := Nat.exists_eq_succ_of_ne_zero (show r.size ≠ 0 by omega)
  have e : IntKind.i64.wrap ((r.size : Int) - 1) = (n : Int) := by rw [wrap64 (by omega) (by omega)]; omega
  rw [e]
  have hb := byte_range r (n : Int)
  refine idx (by omega) (by omega) (goX (contains_c (M.grow X) l hb.1 hb.2) fun h3 x3 => as_b (br (fun hz => ⟨⟨r, rfl, h1, h2⟩, X.trans x3⟩) fun hz => slb (by omega) (by omega) (by omega) ?_))
  rw [Int.toNat_natCast]
  obtain ⟨k1, k2⟩ := allL_last (n := n) hn (nf hz)
  exact ⟨⟨_, rfl, by omega, by rw [k1, h2], X.trans x3⟩, by show (r.extract 0 n).size < r.size; omega⟩
theorem trimLeft_c {h0 h : Heap} {L : List Blk} {g : Nat} (M : Mem h0 h L) (l : Look L g ⟨setL 26⟩) (s : ByteArray) (hs : s.size ≤ maxLen) :
    CALL prg f_strings_trimLeftASCII #[.string s, .pointer (some ⟨g, 0, none⟩)] (fun u h' => (∃ r : ByteArray, u = .string r ∧ (r.size = 0 ↔ allL s = true)) ∧ Ext h h') h := by
  have hm := maxLen_lt
  refine strings_trimLeftASCII.call ?_
  refine loop (fun x hh => ∃ r : ByteArray, x = (r, ⟨g, 0, none⟩) ∧ r.size ≤ s.size ∧ allL r = allL s ∧ Ext h hh) (fun x => x.1.size) ⟨s, rfl, by omega, rfl, Ext.refl _⟩ ?_
  rintro x hh ⟨r, rfl, h1, h2, X⟩
  refine brd (fun hc => ?_) fun hc => ⟨⟨r, rfl, fun _ => by rw [← h2]; exact allL_empty (by omega), fun _ => by omega⟩, X⟩
  obtain ⟨n, hn⟩ := Nat.exists_eq_succ_of_ne_zero (show r.size ≠ 0 by omega)
  have hb := byte_range r 0
  refine idx (by omega) (by omega) (goX (contains_c (M.grow X) l hb.1 hb.2) fun h3 x3 => as_b (br (fun hz => ⟨⟨r, rfl, fun e => by omega, fun e => ?_⟩, X.trans x3⟩) fun hz => slb (by omega) (by omega) (by omega) ?_))
  · have := allL_no (s := r) (i := 0) (by omega) (nt hz)
    rw [h2, e] at this; cases this
  · obtain ⟨k1, k2⟩ := allL_first (n := n) hn (nf hz)
    exact ⟨⟨_, rfl, by omega, by rw [k1, h2], X.trans x3⟩, by show (r.extract 1 r.size).size < r.size; omega⟩
theorem size_zero {s : ByteArray} : (s = ⟨#[]⟩) ↔ s.size = 0 := by
  constructor
  · rintro rfl; rfl
  · obtain ⟨⟨l⟩⟩ := s
    intro h
    have : l = [] := List.eq_nil_of_length_eq_zero h
    rw [this]
theorem isName_c (s : ByteArray) (hs : s.size ≤ maxLen) : Ret prg f_impl_isName #[.string s] (.bool (nameOk s)) := fun h => by
  refine impl_isName.call ((within_c _ _ _).go fun h1 x1 => as_b (br (fun hb => ?_) fun hb => ⟨by unfold nameOk; rw [hb]; rfl, x1⟩))
  have fin : ∀ {r : ByteArray} {h' : Heap}, (r.size = 0 ↔ allL s = true) → Ext h h' → (Value.bool (r.toList == (⟨#[]⟩ : ByteArray).toList) = .bool (nameOk s) ∧ Ext h h') := fun hr x => ⟨by
    unfold nameOk
    rw [hb, Bool.true_and, str_eq]
    congr 1
    rw [Bool.eq_iff_iff, decide_eq_true_iff, size_zero, hr], x⟩
  refine strings_Trim.call ?_
  have hne : ¬ s = ⟨#[]⟩ := fun e => by
    rw [size_zero] at e
    rw [e] at hb; cases hb
  rw [strings_Trim.S, str_eq, str_eq]
  refine br_f (decide_eq_false hne) (br_f (by decide +kernel) ?_)
  unfold strings_Trim.J3
  refine br_f (by decide +kernel) ?_
  unfold strings_Trim.J4
  refine br_f rfl ?_
  unfold strings_Trim.J5
  refine goX (makeASCIISet_c h1) fun h2 x2 => tup2 (as_a (as_b ((Mem.start h2).alc fun g h3 x3 M => M.sta0 .here (setL_size _) (setL_one _) rfl .here fun h4 M => br_t rfl ?_)))
  refine (trimRight_c M .here s hs).mono ?_
  rintro _ h5 ⟨⟨r, rfl, r1, r2⟩, x5⟩
  refine as_s ((trimLeft_c (M.grow x5) .here r (by omega)).mono ?_)
  rintro _ h6 ⟨⟨q, rfl, hq⟩, x6⟩
  refine as_s (as_s ?_)
  rw [r2] at hq
  exact fin hq (((x1.trans x2).trans M.ext).trans (x5.trans x6))
end Go.Sx
/- How Pipe lie in cells; their parts; given ones opened. -/
set_option linter.unusedVariables false
set_option linter.unusedSimpArgs false
namespace Go.Sx
open Go.Proofs
def z_Pipe : GPipe := ⟨[], [], [], z_Filter, false, 0, 0, 0⟩
end Go.Sx
/- How String, Bow lie in cells; their parts; given ones opened. -/
set_option linter.unusedVariables false
set_option linter.unusedSimpArgs false
namespace Go.Sx
open Go.Proofs
def z_String : GString := ⟨z_Ring, z_Filter, z_Filter, 0⟩
def z_Bow : GBow := ⟨z_Ring, z_Ring, z_Filter, 0, 0⟩
end Go.Sx
/- How Tuning, Instrument, Event, Score lie in cells; their parts; given ones opened. -/
set_option linter.unusedVariables false
set_option linter.unusedSimpArgs false
namespace Go.Sx
open Go.Proofs
def rTuning : Rep GTuning := (Rep.seq (rF .f32) (Rep.seq (rF .f32) ((rSl T_float32 (rF .f32))))).via fun a => (a.Base, a.Octave, a.Degrees)
theorem foc_Tuning_Base : Foc rTuning (rF .f32) 0 (fun a => a.Base) (fun a b => { a with Base := b }) := (Foc.via (f := fun a : GTuning => (a.Base, a.Octave, a.Degrees)) (get' := fun a => a.Base) (put' := fun a b => { a with Base := b }) (Foc.fst (Foc.here (rF .f32))) (fun _ => rfl) (fun _ _ => rfl)).at rfl
theorem foc_Tuning_Octave : Foc rTuning (rF .f32) 1 (fun a => a.Octave) (fun a b => { a with Octave := b }) := (Foc.via (f := fun a : GTuning => (a.Base, a.Octave, a.Degrees)) (get' := fun a => a.Octave) (put' := fun a b => { a with Octave := b }) (Foc.snd (Foc.fst (Foc.here (rF .f32)))) (fun _ => rfl) (fun _ _ => rfl)).at rfl
theorem foc_Tuning_Degrees : Foc rTuning (rSl T_float32 (rF .f32)) 2 (fun a => a.Degrees) (fun a b => { a with Degrees := b }) := (Foc.via (f := fun a : GTuning => (a.Base, a.Octave, a.Degrees)) (get' := fun a => a.Degrees) (put' := fun a b => { a with Degrees := b }) (Foc.snd (Foc.snd (Foc.here (rSl T_float32 (rF .f32))))) (fun _ => rfl) (fun _ _ => rfl)).at rfl
def z_Tuning : GTuning := ⟨0, 0, []⟩
theorem zow_Tuning : rTuning.ow [] [Value.float .f32 0, Value.float .f32 0, Value.slice none 0 0] z_Tuning := ⟨[], [], [Value.float .f32 0], [Value.float .f32 0, Value.slice none 0 0], rfl, rfl, ⟨rfl, 0, rfl, fw_c32 (by decide) (by decide)⟩, ⟨[], [], [Value.float .f32 0], [Value.slice none 0 0], rfl, rfl, ⟨rfl, 0, rfl, fw_c32 (by decide) (by decide)⟩, ⟨none, 0, 0, rfl, SlO.nil⟩⟩⟩
instance lf_Tuning_0 : FocC rTuning 0 (rF .f32) (fun a => a.Base) (fun a b => { a with Base := b }) := ⟨Foc.at foc_Tuning_Base rfl⟩
instance lf_Tuning_1 : FocC rTuning 1 (rF .f32) (fun a => a.Octave) (fun a b => { a with Octave := b }) := ⟨Foc.at foc_Tuning_Octave rfl⟩
instance lf_Tuning_2 : FocC rTuning 2 (rSl T_float32 (rF .f32)) (fun a => a.Degrees) (fun a b => { a with Degrees := b }) := ⟨Foc.at foc_Tuning_Degrees rfl⟩
def rInstrument : Rep GInstrument := (Rep.seq rS (Rep.seq (rI .i64) (Rep.seq (rF .f32) (Rep.seq (rF .f32) ((rF .f32)))))).via fun a => (a.Name, a.Kind, a.A, a.B, a.C)
theorem foc_Instrument_Name : Foc rInstrument rS 0 (fun a => a.Name) (fun a b => { a with Name := b }) := (Foc.via (f := fun a : GInstrument => (a.Name, a.Kind, a.A, a.B, a.C)) (get' := fun a => a.Name) (put' := fun a b => { a with Name := b }) (Foc.fst (Foc.here rS)) (fun _ => rfl) (fun _ _ => rfl)).at rfl
theorem foc_Instrument_Kind : Foc rInstrument (rI .i64) 1 (fun a => a.Kind) (fun a b => { a with Kind := b }) := (Foc.via (f := fun a : GInstrument => (a.Name, a.Kind, a.A, a.B, a.C)) (get' := fun a => a.Kind) (put' := fun a b => { a with Kind := b }) (Foc.snd (Foc.fst (Foc.here (rI .i64)))) (fun _ => rfl) (fun _ _ => rfl)).at rfl
theorem foc_Instrument_A : Foc rInstrument (rF .f32) 2 (fun a => a.A) (fun a b => { a with A := b }) := (Foc.via (f := fun a : GInstrument => (a.Name, a.Kind, a.A, a.B, a.C)) (get' := fun a => a.A) (put' := fun a b => { a with A := b }) (Foc.snd (Foc.snd (Foc.fst (Foc.here (rF .f32))))) (fun _ => rfl) (fun _ _ => rfl)).at rfl
theorem foc_Instrument_B : Foc rInstrument (rF .f32) 3 (fun a => a.B) (fun a b => { a with B := b }) := (Foc.via (f := fun a : GInstrument => (a.Name, a.Kind, a.A, a.B, a.C)) (get' := fun a => a.B) (put' := fun a b => { a with B := b }) (Foc.snd (Foc.snd (Foc.snd (Foc.fst (Foc.here (rF .f32)))))) (fun _ => rfl) (fun _ _ => rfl)).at rfl
theorem foc_Instrument_C : Foc rInstrument (rF .f32) 4 (fun a => a.C) (fun a b => { a with C := b }) := (Foc.via (f := fun a : GInstrument => (a.Name, a.Kind, a.A, a.B, a.C)) (get' := fun a => a.C) (put' := fun a b => { a with C := b }) (Foc.snd (Foc.snd (Foc.snd (Foc.snd (Foc.here (rF .f32)))))) (fun _ => rfl) (fun _ _ => rfl)).at rfl
instance lf_Instrument_0 : FocC rInstrument 0 rS (fun a => a.Name) (fun a b => { a with Name := b }) := ⟨Foc.at foc_Instrument_Name rfl⟩
instance lf_Instrument_1 : FocC rInstrument 1 (rI .i64) (fun a => a.Kind) (fun a b => { a with Kind := b }) := ⟨Foc.at foc_Instrument_Kind rfl⟩
instance lf_Instrument_2 : FocC rInstrument 2 (rF .f32) (fun a => a.A) (fun a b => { a with A := b }) := ⟨Foc.at foc_Instrument_A rfl⟩
instance lf_Instrument_3 : FocC rInstrument 3 (rF .f32) (fun a => a.B) (fun a b => { a with B := b }) := ⟨Foc.at foc_Instrument_B rfl⟩
instance lf_Instrument_4 : FocC rInstrument 4 (rF .f32) (fun a => a.C) (fun a b => { a with C := b }) := ⟨Foc.at foc_Instrument_C rfl⟩
def rEvent : Rep GEvent := (Rep.seq (rI .i64) (Rep.seq (rI .i64) (Rep.seq (rI .i64) (Rep.seq (rI .i64) (Rep.seq (rI .i64) ((rF .f32))))))).via fun a => (a.At, a.Kind, a.Note, a.Instrument, a.Key, a.Force)
theorem foc_Event_At : Foc rEvent (rI .i64) 0 (fun a => a.At) (fun a b => { a with At := b }) := (Foc.via (f := fun a : GEvent => (a.At, a.Kind, a.Note, a.Instrument, a.Key, a.Force)) (get' := fun a => a.At) (put' := fun a b => { a with At := b }) (Foc.fst (Foc.here (rI .i64))) (fun _ => rfl) (fun _ _ => rfl)).at rfl
theorem foc_Event_Kind : Foc rEvent (rI .i64) 1 (fun a => a.Kind) (fun a b => { a with Kind := b }) := (Foc.via (f := fun a : GEvent => (a.At, a.Kind, a.Note, a.Instrument, a.Key, a.Force)) (get' := fun a => a.Kind) (put' := fun a b => { a with Kind := b }) (Foc.snd (Foc.fst (Foc.here (rI .i64)))) (fun _ => rfl) (fun _ _ => rfl)).at rfl
theorem foc_Event_Note : Foc rEvent (rI .i64) 2 (fun a => a.Note) (fun a b => { a with Note := b }) := (Foc.via (f := fun a : GEvent => (a.At, a.Kind, a.Note, a.Instrument, a.Key, a.Force)) (get' := fun a => a.Note) (put' := fun a b => { a with Note := b }) (Foc.snd (Foc.snd (Foc.fst (Foc.here (rI .i64))))) (fun _ => rfl) (fun _ _ => rfl)).at rfl
theorem foc_Event_Instrument : Foc rEvent (rI .i64) 3 (fun a => a.Instrument) (fun a b => { a with Instrument := b }) := (Foc.via (f := fun a : GEvent => (a.At, a.Kind, a.Note, a.Instrument, a.Key, a.Force)) (get' := fun a => a.Instrument) (put' := fun a b => { a with Instrument := b }) (Foc.snd (Foc.snd (Foc.snd (Foc.fst (Foc.here (rI .i64)))))) (fun _ => rfl) (fun _ _ => rfl)).at rfl
theorem foc_Event_Key : Foc rEvent (rI .i64) 4 (fun a => a.Key) (fun a b => { a with Key := b }) := (Foc.via (f := fun a : GEvent => (a.At, a.Kind, a.Note, a.Instrument, a.Key, a.Force)) (get' := fun a => a.Key) (put' := fun a b => { a with Key := b }) (Foc.snd (Foc.snd (Foc.snd (Foc.snd (Foc.fst (Foc.here (rI .i64))))))) (fun _ => rfl) (fun _ _ => rfl)).at rfl
theorem foc_Event_Force : Foc rEvent (rF .f32) 5 (fun a => a.Force) (fun a b => { a with Force := b }) := (Foc.via (f := fun a : GEvent => (a.At, a.Kind, a.Note, a.Instrument, a.Key, a.Force)) (get' := fun a => a.Force) (put' := fun a b => { a with Force := b }) (Foc.snd (Foc.snd (Foc.snd (Foc.snd (Foc.snd (Foc.here (rF .f32))))))) (fun _ => rfl) (fun _ _ => rfl)).at rfl
def z_Event : GEvent := ⟨0, 0, 0, 0, 0, 0⟩
theorem zow_Event : rEvent.ow [] [Value.int .i64 (0 : Int), Value.int .i64 (0 : Int), Value.int .i64 (0 : Int), Value.int .i64 (0 : Int), Value.int .i64 (0 : Int), Value.float .f32 0] z_Event := ⟨[], [], [Value.int .i64 (0 : Int)], [Value.int .i64 (0 : Int), Value.int .i64 (0 : Int), Value.int .i64 (0 : Int), Value.int .i64 (0 : Int), Value.float .f32 0], rfl, rfl, ⟨rfl, rfl⟩, ⟨[], [], [Value.int .i64 (0 : Int)], [Value.int .i64 (0 : Int), Value.int .i64 (0 : Int), Value.int .i64 (0 : Int), Value.float .f32 0], rfl, rfl, ⟨rfl, rfl⟩, ⟨[], [], [Value.int .i64 (0 : Int)], [Value.int .i64 (0 : Int), Value.int .i64 (0 : Int), Value.float .f32 0], rfl, rfl, ⟨rfl, rfl⟩, ⟨[], [], [Value.int .i64 (0 : Int)], [Value.int .i64 (0 : Int), Value.float .f32 0], rfl, rfl, ⟨rfl, rfl⟩, ⟨[], [], [Value.int .i64 (0 : Int)], [Value.float .f32 0], rfl, rfl, ⟨rfl, rfl⟩, ⟨rfl, 0, rfl, fw_c32 (by decide) (by decide)⟩⟩⟩⟩⟩⟩
instance lf_Event_0 : FocC rEvent 0 (rI .i64) (fun a => a.At) (fun a b => { a with At := b }) := ⟨Foc.at foc_Event_At rfl⟩
instance lf_Event_1 : FocC rEvent 1 (rI .i64) (fun a => a.Kind) (fun a b => { a with Kind := b }) := ⟨Foc.at foc_Event_Kind rfl⟩
instance lf_Event_2 : FocC rEvent 2 (rI .i64) (fun a => a.Note) (fun a b => { a with Note := b }) := ⟨Foc.at foc_Event_Note rfl⟩
instance lf_Event_3 : FocC rEvent 3 (rI .i64) (fun a => a.Instrument) (fun a b => { a with Instrument := b }) := ⟨Foc.at foc_Event_Instrument rfl⟩
instance lf_Event_4 : FocC rEvent 4 (rI .i64) (fun a => a.Key) (fun a b => { a with Key := b }) := ⟨Foc.at foc_Event_Key rfl⟩
instance lf_Event_5 : FocC rEvent 5 (rF .f32) (fun a => a.Force) (fun a b => { a with Force := b }) := ⟨Foc.at foc_Event_Force rfl⟩
def rScore : Rep GScore := (Rep.seq (rF .f32) (Rep.seq rTuning (Rep.seq (rSl T_impl_Instrument rInstrument) ((rSl T_impl_Event rEvent))))).via fun a => (a.Rate, a.Tuning, a.Instruments, a.Events)
theorem foc_Score_Rate : Foc rScore (rF .f32) 0 (fun a => a.Rate) (fun a b => { a with Rate := b }) := (Foc.via (f := fun a : GScore => (a.Rate, a.Tuning, a.Instruments, a.Events)) (get' := fun a => a.Rate) (put' := fun a b => { a with Rate := b }) (Foc.fst (Foc.here (rF .f32))) (fun _ => rfl) (fun _ _ => rfl)).at rfl
theorem foc_Score_Tuning : Foc rScore rTuning 1 (fun a => a.Tuning) (fun a b => { a with Tuning := b }) := (Foc.via (f := fun a : GScore => (a.Rate, a.Tuning, a.Instruments, a.Events)) (get' := fun a => a.Tuning) (put' := fun a b => { a with Tuning := b }) (Foc.snd (Foc.fst (Foc.here rTuning))) (fun _ => rfl) (fun _ _ => rfl)).at rfl
theorem foc_Score_Instruments : Foc rScore (rSl T_impl_Instrument rInstrument) 4 (fun a => a.Instruments) (fun a b => { a with Instruments := b }) := (Foc.via (f := fun a : GScore => (a.Rate, a.Tuning, a.Instruments, a.Events)) (get' := fun a => a.Instruments) (put' := fun a b => { a with Instruments := b }) (Foc.snd (Foc.snd (Foc.fst (Foc.here (rSl T_impl_Instrument rInstrument))))) (fun _ => rfl) (fun _ _ => rfl)).at rfl
theorem foc_Score_Events : Foc rScore (rSl T_impl_Event rEvent) 5 (fun a => a.Events) (fun a b => { a with Events := b }) := (Foc.via (f := fun a : GScore => (a.Rate, a.Tuning, a.Instruments, a.Events)) (get' := fun a => a.Events) (put' := fun a b => { a with Events := b }) (Foc.snd (Foc.snd (Foc.snd (Foc.here (rSl T_impl_Event rEvent))))) (fun _ => rfl) (fun _ _ => rfl)).at rfl
def z_Score : GScore := ⟨0, z_Tuning, [], []⟩
theorem zow_Score : rScore.ow [] [Value.float .f32 0, Value.float .f32 0, Value.float .f32 0, Value.slice none 0 0, Value.slice none 0 0, Value.slice none 0 0] z_Score := ⟨[], [], [Value.float .f32 0], [Value.float .f32 0, Value.float .f32 0, Value.slice none 0 0, Value.slice none 0 0, Value.slice none 0 0], rfl, rfl, ⟨rfl, 0, rfl, fw_c32 (by decide) (by decide)⟩, ⟨[], [], [Value.float .f32 0, Value.float .f32 0, Value.slice none 0 0], [Value.slice none 0 0, Value.slice none 0 0], rfl, rfl, zow_Tuning, ⟨[], [], [Value.slice none 0 0], [Value.slice none 0 0], rfl, rfl, ⟨none, 0, 0, rfl, SlO.nil⟩, ⟨none, 0, 0, rfl, SlO.nil⟩⟩⟩⟩
instance lf_Score_0 : FocC rScore 0 (rF .f32) (fun a => a.Rate) (fun a b => { a with Rate := b }) := ⟨Foc.at foc_Score_Rate rfl⟩
instance lf_Score_1 : FocC rScore 1 (rF .f32) (fun a => a.Tuning.Base) (fun a b => { a with Tuning := { a.Tuning with Base := b } }) := ⟨Foc.at (foc_Score_Tuning.trans lf_Tuning_0.f) rfl⟩
instance lf_Score_2 : FocC rScore 2 (rF .f32) (fun a => a.Tuning.Octave) (fun a b => { a with Tuning := { a.Tuning with Octave := b } }) := ⟨Foc.at (foc_Score_Tuning.trans lf_Tuning_1.f) rfl⟩
instance lf_Score_3 : FocC rScore 3 (rSl T_float32 (rF .f32)) (fun a => a.Tuning.Degrees) (fun a b => { a with Tuning := { a.Tuning with Degrees := b } }) := ⟨Foc.at (foc_Score_Tuning.trans lf_Tuning_2.f) rfl⟩
instance lf_Score_4 : FocC rScore 4 (rSl T_impl_Instrument rInstrument) (fun a => a.Instruments) (fun a b => { a with Instruments := b }) := ⟨Foc.at foc_Score_Instruments rfl⟩
instance lf_Score_5 : FocC rScore 5 (rSl T_impl_Event rEvent) (fun a => a.Events) (fun a b => { a with Events := b }) := ⟨Foc.at foc_Score_Events rfl⟩
end Go.Sx
