/- Deeds: valid ones, their words. -/
import Derived.Test.YtgbjfohgmpmjoaaGreatDoorLx2
import Derived.Test.YtgbjfohgmpmjoaaGreatDoorK0
import Derived.Test.YtgbjfohgmpmjoaaGreatDoorTab
import Derived.Test.YtgbjfohgmpmjoaaGreatDoorLv2
import Derived.Test.YtgbjfohgmpmjoaaGreatDoorLvh
import Derived.Test.YtgbjfohgmpmjoaaGreatDoorLk60
import Derived.Test.YtgbjfohgmpmjoaaGreatDoorLvp
import Derived.Test.YtgbjfohgmpmjoaaGreatDoorLk59
namespace Go.Sx
set_option maxRecDepth 100000
open Go.Proofs
set_option linter.unusedVariables false

def dd (k a b : Int) : Array Value := ⟨[.int .i64 k, .int .i64 a, .int .i64 b]⟩
def numbers (k : Int) : Int := if k = 7 ∨ k = 8 then 0 else if k = 6 then 2 else 1
def validDeed (k a b : Int) : Bool := inR k 1 9 && inR a 0 999 && inR b 0 999 && (decide (0 < numbers k) || a == 0) && (decide (1 < numbers k) || b == 0)
def by_ (l : List UInt8) : ByteArray := ⟨⟨l⟩⟩
def wordOf (k : Int) : ByteArray := if k = 1 then by_ [103, 105, 118, 101] else if k = 2 then by_ [119, 111, 114, 107] else if k = 3 then by_ [100, 101, 108, 105, 118, 101, 114] else if k = 4 then by_ [99, 111, 112, 121]
  else if k = 5 then by_ [100, 114, 111, 112] else if k = 6 then by_ [115, 112, 111, 105, 108] else if k = 7 then by_ [115, 121, 110, 99] else if k = 8 then by_ [99, 114, 97, 115, 104] else if k = 9 then by_ [113, 117, 105, 116] else by_ []
end Go.Sx
/- Deeds' texts: the rule's and the program's. -/
set_option linter.unusedVariables false
set_option linter.unusedSimpArgs false
namespace Go.Sx
open Go.Proofs
set_option maxRecDepth 100000
set_option maxHeartbeats 1000000

def spB (t : ByteArray) (n : Int) : ByteArray := t ++ ((⟨#[32]⟩ : ByteArray) ++ decB n.toNat)
def deedText (k a b : Int) : ByteArray :=
  if validDeed k a b then
    let t := if 0 < numbers k then spB (wordOf k) a else wordOf k
    if 1 < numbers k then spB t b else t
  else ⟨#[]⟩
theorem valid_in {k a b : Int} (h : validDeed k a b = true) : (1 ≤ k ∧ k ≤ 9) ∧ (0 ≤ a ∧ a ≤ 999) ∧ (0 ≤ b ∧ b ≤ 999) := by
  unfold validDeed inR at h
  simp only [Bool.and_eq_true, decide_eq_true_eq] at h
  exact ⟨h.1.1.1.1, h.1.1.1.2, h.1.1.2⟩
theorem ba_len (s t : ByteArray) : (s ++ t).size = s.size + t.size := by simp
end Go.Sx
/- Texts cut and deeds read: the rule's. -/
set_option linter.unusedVariables false
set_option linter.unusedSimpArgs false
namespace Go.Sx
open Go.Proofs
set_option maxRecDepth 100000
set_option maxHeartbeats 1000000

section
variable {h : Heap}
theorem mk_size (l : List UInt8) : (mkB l).size = l.length := by simp [ByteArray.size]
theorem str_ow {s : ByteArray} (h : s.size ≤ maxLen) : rS.ow [] [.string s] s := ⟨rfl, rfl, h⟩
end
theorem no32 (k : Int) : ∀ x ∈ (wordOf k).data.toList, x ≠ 32 := by
  unfold wordOf
  repeat' split
  all_goals decide
theorem word_inj {k j : Int} (hk : 1 ≤ k ∧ k ≤ 9) (hj : 1 ≤ j ∧ j ≤ 9) (e : wordOf k = wordOf j) : k = j := by
  rcases (show k = 1 ∨ k = 2 ∨ k = 3 ∨ k = 4 ∨ k = 5 ∨ k = 6 ∨ k = 7 ∨ k = 8 ∨ k = 9 by omega) with rfl | rfl | rfl | rfl | rfl | rfl | rfl | rfl | rfl <;>
  rcases (show j = 1 ∨ j = 2 ∨ j = 3 ∨ j = 4 ∨ j = 5 ∨ j = 6 ∨ j = 7 ∨ j = 8 ∨ j = 9 by omega) with rfl | rfl | rfl | rfl | rfl | rfl | rfl | rfl | rfl <;>
  first | rfl | exact absurd e (by decide)
theorem decB_data (m : Nat) : (decB m).data.toList = Lib.decDigits m := by unfold decB; simp
theorem spB_data (t : ByteArray) (n : Int) : (spB t n).data.toList = t.data.toList ++ 32 :: Lib.decDigits n.toNat := by
  unfold spB
  rw [ByteArray.data_append, ByteArray.data_append, Array.toList_append, Array.toList_append, decB_data]
  rfl
theorem dec32 (m : Nat) : ∀ x ∈ Lib.decDigits m, x ≠ 32 := dec_no m (.inl (by decide))
/-- The pieces of a valid deed's text. -/
def pieces (k a b : Int) : List (List UInt8) :=
  (wordOf k).data.toList :: ((if 0 < numbers k then [Lib.decDigits a.toNat] else []) ++ if 1 < numbers k then [Lib.decDigits b.toNat] else [])
theorem num_le (k : Int) : 1 < numbers k → 0 < numbers k := by omega
theorem cut_text {k a b : Int} (h : validDeed k a b = true) : cutL 32 (deedText k a b).data.toList = pieces k a b := by
  unfold deedText pieces
  rw [h, if_pos rfl]
  dsimp only
  by_cases h0 : 0 < numbers k
  · rw [if_pos h0, if_pos h0]
    by_cases h1 : 1 < numbers k
    · rw [if_pos h1, if_pos h1, spB_data, spB_data, List.append_assoc, List.cons_append, cut_pre (no32 k), cut_pre (dec32 _), cut_none (dec32 _)]; rfl
    · rw [if_neg h1, if_neg h1, spB_data, cut_pre (no32 k), cut_none (dec32 _)]; rfl
  · rw [if_neg h0, if_neg h0, if_neg (by omega), if_neg (by omega), cut_none (no32 k)]; rfl
theorem valid_zero {k a b : Int} (h : validDeed k a b = true) : (¬ 0 < numbers k → a = 0) ∧ (¬ 1 < numbers k → b = 0) := by
  unfold validDeed at h
  simp only [Bool.and_eq_true, Bool.or_eq_true, decide_eq_true_eq, beq_iff_eq] at h
  exact ⟨fun h0 => h.1.2.resolve_left h0, fun h1 => h.2.resolve_left h1⟩
theorem text_inj {k a b k' a' b' : Int} (h : validDeed k a b = true) (h' : validDeed k' a' b' = true) (e : deedText k a b = deedText k' a' b') : k = k' ∧ a = a' ∧ b = b' := by
  have c := cut_text h
  rw [e, cut_text h'] at c
  obtain ⟨hk, ha, hb⟩ := valid_in h
  obtain ⟨hk', ha', hb'⟩ := valid_in h'
  unfold pieces at c
  injection c with c1 c2
  have ek : k = k' := by
    refine word_inj hk hk' ?_
    have := congrArg mkB c1
    rw [mkB_list, mkB_list] at this
    exact this.symm
  subst ek
  obtain ⟨z1, z2⟩ := valid_zero h
  obtain ⟨z1', z2'⟩ := valid_zero h'
  refine ⟨rfl, ?_, ?_⟩
  · by_cases h0 : 0 < numbers k
    · rw [if_pos h0, if_pos h0] at c2
      injection c2 with c2 c3
      have := dec_inj c2
      omega
    · rw [z1 h0, z1' h0]
  · by_cases h1 : 1 < numbers k
    · rw [if_pos (num_le k h1), if_pos (num_le k h1), if_pos h1, if_pos h1] at c2
      injection c2 with c2 c3
      injection c3 with c3 c4
      have := dec_inj c3
      omega
    · rw [z2 h1, z2' h1]
/-- What reading a text gives. -/
def Read (text : ByteArray) (u : Value) : Prop :=
  (∃ k a b, validDeed k a b = true ∧ deedText k a b = text ∧ u = .tuple ⟨[.agg (dd k a b), .int .i64 (0 : Int)]⟩) ∨ ((∀ k a b, validDeed k a b = true → deedText k a b ≠ text) ∧ u = .tuple ⟨[.agg (dd 0 0 0), .int .i64 (5 : Int)]⟩)
theorem Read.same {text : ByteArray} {u v : Value} (h : Read text u) (h' : Read text v) : ∃ k a b c, u = .tuple ⟨[.agg (dd k a b), .int .i64 c]⟩ ∧ v = .tuple ⟨[.agg (dd k a b), .int .i64 c]⟩ := by
  rcases h with ⟨k, a, b, hv, ht, rfl⟩ | ⟨hn, rfl⟩
  · rcases h' with ⟨k', a', b', hv', ht', rfl⟩ | ⟨hn', rfl⟩
    · obtain ⟨rfl, rfl, rfl⟩ := text_inj hv hv' (ht.trans ht'.symm)
      exact ⟨_, _, _, _, rfl, rfl⟩
    · exact absurd ht (hn' _ _ _ hv)
  · rcases h' with ⟨k', a', b', hv', ht', rfl⟩ | ⟨hn', rfl⟩
    · exact absurd ht' (hn _ _ _ hv')
    · exact ⟨_, _, _, _, rfl, rfl⟩
end Go.Sx
/- Texts repeated and joined: the shelf's contracts. -/
set_option linter.unusedVariables false
set_option linter.unusedSimpArgs false
namespace Go.Sx
open Go.Proofs
set_option maxRecDepth 100000
set_option maxHeartbeats 1000000

theorem X156 : Builder.Extra prg R156 where
  sizeBuilder := by kernel_rfl
  liesBuilder := by kernel_rfl
  t5 := L105.t5
  a5 := L105.a5
  z5 := L105.z5
  v5 := L105.v5
  infoByte := by kernel_rfl
  cellsByte := by kernel_rfl
  sizeByte := by kernel_rfl
  neB5 := by decide
theorem X105 : Builder.Extra prg R105 where
  sizeBuilder := by kernel_rfl
  liesBuilder := by kernel_rfl
  t5 := L105.t5
  a5 := L105.a5
  z5 := L105.z5
  v5 := L105.v5
  infoByte := by kernel_rfl
  cellsByte := by kernel_rfl
  sizeByte := by kernel_rfl
  neB5 := by decide
theorem repeat_one (b : UInt8) : ∀ c : Nat, Lib.repeatL [b] c = List.replicate c b
  | 0 => rfl
  | c + 1 => by
    show [b] ++ Lib.repeatL [b] c = _
    rw [repeat_one b c, List.replicate_succ]; rfl
section
variable {h0 h : Heap} {L : List Blk}
theorem Repeat_c {c : Nat} (hc : c ≤ 8) : CALL prg f_strings_Repeat #[.string ⟨#[48]⟩, .int .i64 (c : Int)] (fun u h' => u = .string (mkB (List.replicate c 48)) ∧ Ext h h') h := by
  refine CALL_of_calls L105.f105 rfl rfl fun w hw => ?_
  subst hw
  refine (Any.strings_Repeat L105 X105 ⟨#[48]⟩ c w (by omega) (by show 1 * c ≤ _; omega)).mono ?_
  rintro e w' ⟨rfl, b⟩
  refine ⟨_, rfl, below_same b, ?_, below_ext b⟩
  show Value.string ⟨(Lib.repeatL [48] c).toArray⟩ = _
  rw [repeat_one]
theorem str_cell {a : Addr} {s : ByteArray} (R : RdP rS h a s) : cell h a = some (.string s) := by
  obtain ⟨vs, h1, rfl, _⟩ := R
  have := h1 0 _ rfl
  rwa [add0] at this
theorem Join_c {B : List Blk} {b : Option Addr} {l c : Nat} {xs : List ByteArray} {sep : ByteArray} (O : SlO T_string rS B b l c xs) (M : Mem h0 h L) (s : B.Sublist L) (hl : l ≤ 140737488355328) (hN : (Lib.join (xs.map (·.data.toList)) sep.data.toList).length ≤ 140737488355328) :
    CALL prg f_strings_Join #[.slice b l c, .string sep] (fun u h' => u = .string (mkB (Lib.join (xs.map (·.data.toList)) sep.data.toList)) ∧ Ext h h') h := by
  have e := O.len
  have S := O.look M s
  have hlc := S.2.1
  refine CALL_of_calls L156.f156 rfl rfl fun w hw => ?_
  subst hw
  by_cases h0 : l = 0
  · subst h0
    obtain rfl := List.eq_nil_of_length_eq_zero e
    refine (Any.strings_Join_none L156 X156 b c sep w).mono ?_
    rintro e w' ⟨rfl, rfl⟩
    exact ⟨_, rfl, Same.refl _, rfl, Ext.refl _⟩
  · obtain ⟨_, ws, B1, B2, _, O1, _⟩ := O
    obtain ⟨g, rfl⟩ := O1.base (by omega)
    have hc : ∀ (j : Nat) x, xs[j]? = some x → w.cell? ⟨g, 0 + j, none⟩ = some (.string x) := fun j x hx => by
      obtain ⟨hj, hx⟩ := List.getElem?_eq_some_iff.1 hx
      obtain ⟨a, ha, R⟩ := S.elem (i := j) (by omega) (by decide)
      cases ha
      have := str_cell R
      rw [getElem!_pos xs j hj, hx] at this
      have e2 : (⟨g, 0, none⟩ : Addr).add (j * rS.sz) = ⟨g, 0 + j, none⟩ := by rw [add_none]; show (⟨g, 0 + j * 1, none⟩ : Addr) = _; rw [Nat.mul_one]
      rw [e2] at this
      exact this
    have hb : g < w.heap.size := by
      obtain ⟨hj, hx⟩ : ∃ h : 0 < xs.length, xs[0]? = some xs[0] := ⟨by omega, List.getElem?_eq_getElem _⟩
      exact cell_lt (hc 0 _ hx)
    subst e
    refine (Any.strings_Join L156 X156 g 0 c xs sep w hc hb hl hlc hN).mono ?_
    rintro e w' ⟨rfl, b⟩
    exact ⟨_, rfl, below_same b, rfl, below_ext b⟩
end
end Go.Sx
/- What is told of rings, filters, strings, bows, jets and pipes, line by line. -/
set_option linter.unusedVariables false
set_option linter.unusedSimpArgs false
namespace Go.Sx
open Go.Proofs Go.RowKit
set_option maxRecDepth 100000
set_option maxHeartbeats 1000000

def GRing.line (r : GRing) : List UInt8 := ringL r.At.toNat r.Samples
def GFilter.line (f : GFilter) : List UInt8 := filtL f.Kind.toNat f.C f.S
/-- A word, and samples behind it. -/
def headL (w : List UInt8) (ns : List Nat) : List UInt8 := w ++ 32 :: smpL ns
structure RingB (r : GRing) : Prop where
  ne : r.Samples ≠ []
  bits : B32 r.Samples
  len : r.Samples.length ≤ 1024
  a0 : 0 ≤ r.At
  a1 : r.At ≤ 1024
theorem ring_b {r : GRing} (h : r.ok = true) (hb : B32 r.Samples) : RingB r := by
  unfold GRing.ok inR GRing.len at h
  simp only [Bool.and_eq_true, decide_eq_true_eq] at h
  obtain ⟨⟨h1, h2⟩, h3, h4⟩ := h
  refine ⟨fun e => ?_, hb, by omega, by omega, by omega⟩
  rw [e] at h1
  simp at h1
structure FiltB (f : GFilter) : Prop where
  k0 : 1 ≤ f.Kind
  k1 : f.Kind ≤ 5
  c3 : f.C.length = 3
  s2 : f.S.length = 2
  cb : B32 f.C
  sb : B32 f.S
theorem dec_le {n k : Nat} (h : n < 10 ^ (k + 1)) : (Lib.decDigits n).length ≤ k + 1 := by
  rw [Lib.decDigits_length]
  exact nDig_le k _ h
theorem RingB.cut {r : GRing} (h : RingB r) : cutL 32 r.line = Lib.decDigits r.Samples.length :: Lib.decDigits r.At.toNat :: r.Samples.map bitL := ring_cut h.bits h.ne
theorem RingB.mem {r : GRing} (h : RingB r) : ∀ b ∈ r.line, b ≠ 10 := ring_mem h.bits
theorem RingB.size {r : GRing} (h : RingB r) : r.line.length ≤ 9300 := by
  have h1 := dec_le (n := r.Samples.length) (k := 9) (by have := h.len; omega)
  have h2 := dec_le (n := r.At.toNat) (k := 9) (by have := h.a1; omega)
  have h3 := smp_le h.bits
  have := h.len
  unfold GRing.line ringL
  simp only [List.length_append, List.length_cons]
  omega
theorem FiltB.cut {f : GFilter} (h : FiltB f) : cutL 32 f.line = fwL :: Lib.decDigits f.Kind.toNat :: (f.C ++ f.S).map bitL :=
  filt_cut h.cb h.sb (fun e => by have := h.c3; rw [e] at this; simp at this) (fun e => by have := h.s2; rw [e] at this; simp at this)
theorem FiltB.mem {f : GFilter} (h : FiltB f) : ∀ b ∈ f.line, b ≠ 10 := filt_mem h.cb h.sb
theorem FiltB.size {f : GFilter} (h : FiltB f) : f.line.length ≤ 80 := by
  have h1 := dec_le (n := f.Kind.toNat) (k := 1) (by have := h.k1; omega)
  have h2 := smp_le h.cb
  have h3 := smp_le h.sb
  have := h.c3
  have := h.s2
  have e : fwL.length = 6 := rfl
  unfold GFilter.line filtL
  simp only [List.length_append, List.length_cons]
  omega
theorem head_mem {w : List UInt8} {ns : List Nat} (hw : ∀ b ∈ w, b ≠ 10) (h : B32 ns) : ∀ b ∈ headL w ns, b ≠ 10 := by
  intro b hb
  unfold headL at hb
  simp only [List.mem_append, List.mem_cons] at hb
  rcases hb with hb | rfl | hb
  · exact hw b hb
  · decide
  · exact smp_mem h b hb
theorem head_size {w : List UInt8} {ns : List Nat} (h : B32 ns) : (headL w ns).length ≤ w.length + 1 + 9 * ns.length := by
  have := smp_le h
  unfold headL
  simp only [List.length_append, List.length_cons]
  omega
theorem lin_size {k : Nat} : ∀ {ls : List (List UInt8)}, (∀ l ∈ ls, l.length ≤ k) → (linL ls).length ≤ (k + 1) * ls.length
  | [], _ => Nat.le_refl _
  | l :: r, h => by
    have h1 := h l (List.mem_cons_self ..)
    have h2 := lin_size fun x hx => h x (List.mem_cons_of_mem (a := x) l hx)
    rw [linL, List.length_append, List.length_cons, List.length_cons, Nat.mul_succ]
    omega
def jetW : List UInt8 := [106, 101, 116]
def bowW : List UInt8 := [98, 111, 119]
def GJet.lines (x : GJet) : List (List UInt8) := [headL jetW [x.Near, x.Far], x.Low.line, x.Dc.line, x.Throat.line, x.Bore.line]
def GBow.lines (x : GBow) : List (List UInt8) := [headL bowW [x.Slope, x.Loss], x.Damp.line, x.Neck.line, x.Bridge.line]
structure JetB (x : GJet) : Prop where
  t : RingB x.Throat
  b : RingB x.Bore
  l : FiltB x.Low
  d : FiltB x.Dc
  n : B32 [x.Near, x.Far]
structure BowB (x : GBow) : Prop where
  n : RingB x.Neck
  b : RingB x.Bridge
  d : FiltB x.Damp
  s : B32 [x.Slope, x.Loss]
theorem JetB.mem {x : GJet} (h : JetB x) : ∀ l ∈ x.lines, ∀ b ∈ l, b ≠ 10 := by
  intro l hl
  simp only [GJet.lines, List.mem_cons, List.not_mem_nil, or_false] at hl
  rcases hl with rfl | rfl | rfl | rfl | rfl
  · exact head_mem (by decide) h.n
  · exact h.l.mem
  · exact h.d.mem
  · exact h.t.mem
  · exact h.b.mem
theorem JetB.cut {x : GJet} (h : JetB x) : cutL 10 (linL x.lines) = x.lines ++ [[]] := lin_cut h.mem
theorem JetB.size {x : GJet} (h : JetB x) : (linL x.lines).length ≤ 46505 := by
  refine lin_size (k := 9300) fun l hl => ?_
  simp only [GJet.lines, List.mem_cons, List.not_mem_nil, or_false] at hl
  rcases hl with rfl | rfl | rfl | rfl | rfl
  · exact Nat.le_trans (head_size h.n) (show 3 + 1 + 9 * 2 ≤ 9300 by decide)
  · exact Nat.le_trans h.l.size (by decide)
  · exact Nat.le_trans h.d.size (by decide)
  · exact h.t.size
  · exact h.b.size
theorem BowB.mem {x : GBow} (h : BowB x) : ∀ l ∈ x.lines, ∀ b ∈ l, b ≠ 10 := by
  intro l hl
  simp only [GBow.lines, List.mem_cons, List.not_mem_nil, or_false] at hl
  rcases hl with rfl | rfl | rfl | rfl
  · exact head_mem (by decide) h.s
  · exact h.d.mem
  · exact h.n.mem
  · exact h.b.mem
theorem BowB.cut {x : GBow} (h : BowB x) : cutL 10 (linL x.lines) = x.lines ++ [[]] := lin_cut h.mem
theorem BowB.size {x : GBow} (h : BowB x) : (linL x.lines).length ≤ 37204 := by
  refine lin_size (k := 9300) fun l hl => ?_
  simp only [GBow.lines, List.mem_cons, List.not_mem_nil, or_false] at hl
  rcases hl with rfl | rfl | rfl | rfl
  · exact Nat.le_trans (head_size h.s) (show 3 + 1 + 9 * 2 ≤ 9300 by decide)
  · exact Nat.le_trans h.d.size (by decide)
  · exact h.n.size
  · exact h.b.size
end Go.Sx
/- What is read of floats, rings, filters: words of 32 bits, each NaN the one NaN. -/
set_option linter.unusedVariables false
set_option linter.unusedSimpArgs false
namespace Go.Sx
open Go.Proofs
set_option maxRecDepth 100000
set_option maxHeartbeats 1000000

/-- Samples as they are told and read again. -/
def A32 (xs : List Nat) : Prop := ∀ a ∈ xs, FW .f32 a a
theorem FW.both {k : FloatKind} {x a : Nat} (h : FW k x a) : FW k a a := ⟨h.self, h.lt⟩
theorem A32.b {xs : List Nat} (h : A32 xs) : B32 xs := fun a ha => (h a ha).lt
theorem A32.one {a : Nat} (h : FW .f32 a a) : A32 [a] := fun b hb => by rw [List.mem_singleton] at hb; rw [hb]; exact h
theorem A32.two {a b : Nat} (h : FW .f32 a a) (k : FW .f32 b b) : A32 [a, b] := fun c hc => by
  simp only [List.mem_cons, List.not_mem_nil, or_false] at hc
  rcases hc with rfl | rfl
  · exact h
  · exact k
theorem rds_a {h : Heap} : ∀ {xs : List Nat} {vs : List Value}, rds (rF .f32) h vs xs → A32 xs
  | [], _, _ => fun a ha => nomatch ha
  | x :: xs, vs, e => by
    obtain ⟨v1, v2, rfl, ⟨y, _, hy⟩, h2⟩ := e
    intro a ha
    rcases List.mem_cons.1 ha with rfl | ha
    · exact hy.both
    · exact rds_a h2 a ha
theorem SlR.a {h : Heap} {b : Option Addr} {l c : Nat} {xs : List Nat} (S : SlR (rF .f32) h b l c xs) : A32 xs := by
  obtain ⟨_, _, _, ws, _, h5⟩ := S
  exact rds_a h5
section
variable {h : Heap} {q : Addr}
theorem arr_a {n : Nat} {xs : List Nat} (R : RdP (rArr n (rF .f32)) h q xs) : A32 xs ∧ xs.length = n := by
  obtain ⟨vs, _, h1, h2⟩ := R
  exact ⟨rds_a h2, h1⟩
/-- Filters as they are told and read again. -/
structure FiltA (f : GFilter) : Prop where
  k0 : 1 ≤ f.Kind
  k1 : f.Kind ≤ 5
  c3 : f.C.length = 3
  s2 : f.S.length = 2
  ca : A32 f.C
  sa : A32 f.S
theorem FiltA.b {f : GFilter} (h : FiltA f) : FiltB f := ⟨h.k0, h.k1, h.c3, h.s2, h.ca.b, h.sa.b⟩
theorem filt_a {f : GFilter} (R : RdP rFilter h q f) (hok : f.ok = true) : FiltA f := by
  have c := arr_a (R.foc foc_Filter_C)
  have s := arr_a (R.foc foc_Filter_S)
  unfold GFilter.ok inR at hok
  simp only [Bool.and_eq_true, decide_eq_true_eq] at hok
  exact ⟨hok.1.1.1, hok.1.1.2, c.2, s.2, c.1, s.1⟩
/-- Rings as they are told and read again. -/
structure RingA (r : GRing) : Prop where
  ok : r.ok = true
  a : A32 r.Samples
theorem RingA.b {r : GRing} (h : RingA r) : RingB r := ring_b h.ok h.a.b
structure BowA (x : GBow) : Prop where
  n : RingA x.Neck
  b : RingA x.Bridge
  d : FiltA x.Damp
  s : A32 [x.Slope, x.Loss]
theorem BowA.bb {x : GBow} (h : BowA x) : BowB x := ⟨h.n.b, h.b.b, h.d.b, h.s.b⟩
end
end Go.Sx
