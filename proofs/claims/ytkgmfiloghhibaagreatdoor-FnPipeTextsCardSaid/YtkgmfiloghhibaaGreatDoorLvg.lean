/- Pipes told. -/
import Derived.Test.YtkgmfiloghhibaaGreatDoorLvl
import Derived.Test.YtkgmfiloghhibaaGreatDoorLk76
import Derived.Test.YtkgmfiloghhibaaGreatDoorTab
import Derived.Test.YtkgmfiloghhibaaGreatDoorLk94
import Derived.Test.YtkgmfiloghhibaaGreatDoorPT
import Derived.Test.YtkgmfiloghhibaaGreatDoorLk21
import Derived.Test.YtkgmfiloghhibaaGreatDoorLk59
import Derived.Test.YtkgmfiloghhibaaGreatDoorLgn
import Derived.Test.YtkgmfiloghhibaaGreatDoorLv0
import Derived.Test.YtkgmfiloghhibaaGreatDoorLk93
import Derived.Test.YtkgmfiloghhibaaGreatDoorK2
import Derived.Test.YtkgmfiloghhibaaGreatDoorLp5
import Derived.Test.YtkgmfiloghhibaaGreatDoorLk56
import Derived.Test.YtkgmfiloghhibaaGreatDoorLk92
set_option linter.unusedVariables false
set_option linter.unusedSimpArgs false
namespace Go.Sx
open Go.Proofs
set_option maxRecDepth 100000
set_option maxHeartbeats 2000000

/-- Pipes as they are told and read again. -/
structure PipeA (x : GPipe) : Prop where
  r : ∀ y ∈ x.Right, RingA y
  l : ∀ y ∈ x.Left, RingA y
  e : FiltA x.End
  eo : x.End.ok = true
  n1 : 1 ≤ x.Right.length
  n3 : x.Right.length ≤ 3
  nl : x.Left.length = x.Right.length
  ns : x.Scatter.length + 1 = x.Right.length
  s : A32 x.Scatter
  b : A32 [x.Loss, x.Rest, x.Slope]
theorem PipeA.b' {x : GPipe} (h : PipeA x) : PipeB x := ⟨fun y hy => (h.r y hy).b, fun y hy => (h.l y hy).b, h.e.b, h.n1, h.n3, h.nl, h.ns, h.s.b, h.b.b⟩
theorem A32.three {a b c : Nat} (h : FW .f32 a a) (k : FW .f32 b b) (m : FW .f32 c c) : A32 [a, b, c] := fun d hd => by
  simp only [List.mem_cons, List.not_mem_nil, or_false] at hd
  rcases hd with rfl | rfl | rfl
  · exact h
  · exact k
  · exact m
theorem get_mem' {l : List GRing} {y : GRing} (h : y ∈ l) : ∃ i, i < l.length ∧ y = l[i]! := by
  obtain ⟨i, hi, e⟩ := List.mem_iff_getElem.1 h
  exact ⟨i, hi, by rw [getElem!_pos l i hi, e]⟩
theorem pipe_a {h : Heap} {q : Addr} {x : GPipe} (R : RdP rPipe h q x) (hok : x.ok = true) : PipeA x := by
  obtain ⟨n1, n3, nl, ns, o1, o2⟩ := pipe_split hok
  obtain ⟨v, e1, b4, l4, c4, e2, S4⟩ := R.cell lf_Pipe_0.f rfl
  obtain ⟨v, e3, b6, l6, c6, e2, S6⟩ := R.cell lf_Pipe_1.f rfl
  obtain ⟨v, e3, b8, l8, c8, e2, S8⟩ := R.cell lf_Pipe_2.f rfl
  have e4 : x.Right.length = l4 := S4.len
  have e6 : x.Left.length = l6 := S6.len
  have eo : x.End.ok = true := by
    have k := hok
    rw [pipe_ok] at k
    simp only [Bool.and_eq_true] at k
    exact k.1.1.1.1.2
  refine ⟨fun y hy => ?_, fun y hy => ?_, filt_a (R.foc foc_Pipe_End) eo, eo, n1, n3, nl, ns, S8.a, .three (f32_a (R.foc foc_Pipe_Loss)) (f32_a (R.foc foc_Pipe_Rest)) (f32_a (R.foc foc_Pipe_Slope))⟩
  · obtain ⟨i, hi, e⟩ := get_mem' hy
    obtain ⟨a, _, Ra⟩ := S4.elem (i := i) (by omega) ring_sz
    have Ra : RdP rRing h _ x.Right[i]! := Ra
    rw [← e] at Ra
    exact ⟨(okf_small o1 y hy).1, ring_a Ra⟩
  · obtain ⟨i, hi, e⟩ := get_mem' hy
    obtain ⟨a, _, Ra⟩ := S6.elem (i := i) (by omega) ring_sz
    have Ra : RdP rRing h _ x.Left[i]! := Ra
    rw [← e] at Ra
    exact ⟨(okf_small o2 y hy).1, ring_a Ra⟩
def pkind (x : GPipe) : List UInt8 := if x.Open then openW else closW
/-- The first lines of a pipe, and those of its rings. -/
def pline0 (x : GPipe) : List UInt8 := wordsL (pipeW :: pkind x :: [x.Loss, x.Rest, x.Slope].map bitL)
theorem pline0_eq (x : GPipe) : pline0 x = pipeW ++ [32] ++ pkind x ++ [32] ++ smpL [x.Loss, x.Rest, x.Slope] := by
  unfold pline0
  rw [words_cons, smp_words]
  simp only [List.map]
  rw [words_cons]
  simp
section
variable {h : Heap} {x : GPipe} {cs : Array Value}
theorem PipeText_c (R0 : rPipe.rd h cs.toList x) (hok : x.ok = true) (T : Txt h) : CALL prg f_impl_PipeText #[.agg cs] (fun u h' => u = .string (mkB (linL x.lines)) ∧ Ext h h') h := by
  have Ru := pipe_runs hok
  refine impl_PipeText.call (alcR R0 fun g h1 x1 R => R.lda1 rfl fun c1 R1 => goX (ValidPipe_c R1) fun h2 x2 => as_b ?_)
  rw [hok]
  have R := R.ext x2
  have A := pipe_a R hok
  have T := T.ext (x1.trans x2)
  have X0 := x1.trans x2
  have s0 := smp_le A.b.b
  have n3 := A.n3
  have ns := A.ns
  have sE := A.e.b.size
  have hk6 : (pkind x).length ≤ 6 := by unfold pkind; split <;> decide
  have e10 : (⟨#[10]⟩ : ByteArray) = mkB [10] := rfl
  have e32 : (⟨#[32]⟩ : ByteArray) = mkB [32] := rfl
  have ep : (⟨#[112, 105, 112, 101, 32]⟩ : ByteArray) = mkB (pipeW ++ [32]) := rfl
  have es : (⟨#[10, 115, 99, 97, 116, 116, 101, 114]⟩ : ByteArray) = mkB (10 :: scatW) := rfl
  have key : impl_PipeText.J6 (fun u h' => u = .string (mkB (linL x.lines)) ∧ Ext h h') ⟨g, 0, none⟩ (mkB (pkind x)) h2 := by
    unfold impl_PipeText.J6
    rw [ep, e32, es]
    simp only [mkB_app]
    refine ⟨by simp only [mk_size, List.length_append, List.length_cons, List.length_nil]; have : pipeW.length = 4 := rfl; omega, by simp only [mk_size, List.length_append, List.length_cons, List.length_nil]; have : pipeW.length = 4 := rfl; omega, ?_⟩
    refine R.oF (off := 10) fun y1 k1 => R.oF (off := 11) fun y2 k2 => R.oF (off := 12) fun y3 k3 => (Mem.start h2).alc fun g11 h3 x3 M => ?_
    have SF : SlR (rF .f32) h3 (some ⟨g11, 0, none⟩) 3 3 [x.Loss, x.Rest, x.Slope] := ⟨rfl, Nat.le_refl _, by decide, [.float .f32 y1, .float .f32 y2, .float .f32 y3], fun i hi => ⟨_, rfl, by rw [add_none, M.cell .here, Nat.zero_add, List.getElem?_toArray]⟩, [.float .f32 y1], _, rfl, ⟨y1, rfl, k1⟩, [.float .f32 y2], _, rfl, ⟨y2, rfl, k2⟩, [.float .f32 y3], [], rfl, ⟨y3, rfl, k3⟩, rfl⟩
    refine goX (samplesText_c SF (by decide) (T.ext x3).br) fun h4 x4 => as_s ?_
    have X4 := x3.trans x4
    have p0 := pline0_eq x
    have l0 : (pline0 x).length ≤ 50 := by
      rw [p0]
      simp only [List.length_append, List.length_cons, List.length_nil] at s0 ⊢
      have : pipeW.length = 4 := rfl
      omega
    rw [mkB_app, ← p0, mkB_app]
    have sc : scatW.length = 7 := rfl
    refine ⟨by simp only [mk_size, List.length_append, List.length_cons] at *; rw [p0] at l0; simp only [List.length_append, List.length_cons] at l0; omega, by simp only [mk_size, List.length_append, List.length_cons]; omega, ?_⟩
    refine (R.ext X4).oL (off := 2) fun b l c S => ?_
    have hl : x.Scatter.length = l := S.len
    have hsc : ∀ i, i ≤ l → (wordsL (scatW :: (x.Scatter.take i).map bitL)).length ≤ 7 + 9 * i := by
      intro i hi
      induction i with
      | zero => simp [words_one, sc]
      | succ i ih =>
        rw [take_snoc (by omega), List.map_append, ← List.cons_append]
        show (wordsL (scatW :: (x.Scatter.take i).map bitL ++ [bitL x.Scatter[i]!])).length ≤ _
        rw [words_snoc]
        have b8 := bitL_len (A.s _ (mem_get (l := x.Scatter) (i := i) (by omega))).lt
        have := ih (by omega)
        simp only [List.length_append, List.length_cons]
        omega
    refine loop (fun y hh => ∃ i : Nat, y = (⟨g, 0, none⟩, mkB (pline0 x ++ 10 :: wordsL (scatW :: (x.Scatter.take i).map bitL)), b, l, c, (l : Int), (i : Int)) ∧ i ≤ l ∧ Ext h4 hh) (fun y => ((l : Int) - y.2.2.2.2.2.2).toNat)
      ⟨0, by rw [List.take_zero, List.map_nil, words_one]; rfl, by omega, Ext.refl _⟩ ?_
    rintro y hh ⟨i, rfl, hi, X⟩
    have hi' := hsc i hi
    refine brd (fun hc => ?_) fun hc => ?_
    · refine (S.ext X).idx (by decide) (by omega) (by omega) fun p Rp => Rp.oF1 fun w hw => goE X (bitsText_c hw (T.ext (X4.trans X)).br) fun h6 x6 => as_s ?_
      rw [Int.toNat_natCast] at hw ⊢
      have b8 := bitL_len (A.s _ (mem_get (l := x.Scatter) (i := i) (by omega))).lt
      rw [e32, mkB_app, mkB_app]
      refine ⟨by simp only [mk_size, List.length_append, List.length_cons, List.length_nil]; omega, by simp only [mk_size, List.length_append, List.length_cons, List.length_nil]; omega, ⟨i + 1, ?_, by omega, x6⟩, by rw [wrap64_succ (by omega)]; show _ < _; simp; omega⟩
      rw [wrap64_succ (by omega), take_snoc (l := x.Scatter) (by omega), List.map_append, ← List.cons_append]
      show _ = (_, mkB (_ ++ 10 :: wordsL (scatW :: (x.Scatter.take i).map bitL ++ [bitL x.Scatter[i]!])), _)
      rw [words_snoc]
      simp
    obtain rfl : i = l := by omega
    rw [List.take_of_length_le (l := x.Scatter) (by omega)] at hi' ⊢
    refine (R.ext (X4.trans X)).lda foc_Pipe_End rfl fun ct Rt => goE X (FilterText_c Rt A.eo A.e (T.ext (X4.trans X))) fun h6 x6 => as_s ?_
    have X6 := X4.trans x6
    rw [e10, mkB_app, mkB_app, mkB_app]
    refine ⟨by simp only [mk_size, List.length_append, List.length_cons, List.length_nil]; omega, by simp only [mk_size, List.length_append, List.length_cons, List.length_nil]; omega, by simp only [mk_size, List.length_append, List.length_cons, List.length_nil]; omega, ?_⟩
    obtain ⟨T0, hT0⟩ : ∃ t, t = linL [pline0 x, wordsL (scatW :: x.Scatter.map bitL), x.End.line] := ⟨_, rfl⟩
    have eT : pline0 x ++ 10 :: wordsL (scatW :: x.Scatter.map bitL) ++ ([10] ++ x.End.line ++ [10]) = T0 := by rw [hT0]; simp [linL]
    have lT : T0.length ≤ 300 := by
      rw [← eT]; simp only [List.length_append, List.length_cons, List.length_nil]; omega
    rw [eT]
    refine (rP_c (R.ext X6) Ru).mono ?_
    rintro _ h8 ⟨b2, l2, c2, B, ps, rfl, O, M, H⟩
    have S2 := O.look M (List.Sublist.refl _)
    have H := H.ext M.ext
    have X8 := X6.trans M.ext
    have hl2 := S2.len
    have hlr := H.1
    have hlr2 := hlr
    rw [twoR_len] at hlr2
    have RA : ∀ r ∈ twoR x.Right x.Left x.Right.length, RingA r := fun r hr => (twoR_mem _ (Nat.le_refl _) (by rw [A.nl]; exact Nat.le_refl _) r hr).elim (A.r r) (A.l r)
    have eL : linL x.lines = T0 ++ linL ((twoR x.Right x.Left x.Right.length).map GRing.line) := by
      rw [← duo_two A.nl _ (Nat.le_refl _), List.take_length, ← A.nl, List.take_length, hT0, ← lin_app]
      rfl
    refine as_l (loop (fun y hh => ∃ i : Nat, y = (mkB (T0 ++ linL (((twoR x.Right x.Left x.Right.length).take i).map GRing.line)), b2, l2, c2, (l2 : Int), (i : Int)) ∧ i ≤ l2 ∧ Ext h8 hh) (fun y => ((l2 : Int) - y.2.2.2.2.2).toNat)
      ⟨0, by rw [List.take_zero, List.map_nil]; simp [linL], by omega, Ext.refl _⟩ ?_)
    rintro y hh ⟨j, rfl, hj, Y⟩
    have lS : (linL (((twoR x.Right x.Left x.Right.length).take j).map GRing.line)).length ≤ 9301 * j := by
      refine Nat.le_trans (lin_size (k := 9300) fun l hl => ?_) (by rw [List.length_map, List.length_take]; omega)
      obtain ⟨r, hr, rfl⟩ := List.mem_map.1 hl
      exact (RA r (List.mem_of_mem_take hr)).b.size
    refine brd (fun hc => ?_) fun hc => ?_
    · refine (S2.ext Y).idx (by decide) (by omega) (by omega) fun p Rp => Rp.oP1 ?_
      rw [Int.toNat_natCast]
      obtain ⟨Rr, ok⟩ := H.2 j (by omega)
      have ra := RA _ (mem_get (l := twoR x.Right x.Left x.Right.length) (i := j) (by omega))
      have rs := ra.b.size
      refine (Rr.ext Y).lda1 rfl fun cr Rc => goE Y (ringText_c Rc ra (T.ext (X8.trans Y))) fun h9 x9 => as_s ?_
      rw [e10, mkB_app, mkB_app]
      refine ⟨by simp only [mk_size, List.length_append, List.length_cons, List.length_nil]; omega, by simp only [mk_size, List.length_append, List.length_cons, List.length_nil]; omega, ⟨j + 1, ?_, by omega, x9⟩, by rw [wrap64_succ (by omega)]; show _ < _; simp; omega⟩
      rw [wrap64_succ (by omega), take_snoc (l := twoR x.Right x.Left x.Right.length) (by omega), List.map_append, lin_app]
      simp [linL]
    obtain rfl : j = l2 := by omega
    refine ⟨?_, X0.trans (X8.trans Y)⟩
    rw [List.take_of_length_le (by omega), eL]
  refine br_f rfl (R.oB2 (br (fun hb => ?_) fun hb => ?_))
  · have : pkind x = openW := by unfold pkind; rw [show x.Open = true from hb]; rfl
    rw [this] at key
    exact key
  · have : pkind x = closW := by unfold pkind; rw [show x.Open = false from hb]; rfl
    rw [this] at key
    exact key
end
end Go.Sx
/- What is told of rooms, line by line. -/
set_option linter.unusedVariables false
set_option linter.unusedSimpArgs false
namespace Go.Sx
open Go.Proofs Go.RowKit
set_option maxRecDepth 100000
set_option maxHeartbeats 1000000

def roomW : List UInt8 := [114, 111, 111, 109]
def tapW : List UInt8 := [116, 97, 112]
def combW : List UInt8 := [99, 111, 109, 98]
def loopW : List UInt8 := [108, 111, 111, 112]
def GTap.line (t : GTap) : List UInt8 := wordsL [tapW, Lib.decDigits t.Back.toNat, bitL t.Gain]
def GComb.lines (c : GComb) : List (List UInt8) := [headL combW [c.Gain], c.Ring.line]
def GRoom.loopLines (x : GRoom) (i : Nat) : List (List UInt8) := [headL loopW [x.Gains[i]!], x.Damps[i]!.line, x.Loops[i]!.line]
def GRoom.lines (x : GRoom) : List (List UInt8) :=
  headL roomW [x.Dry, x.Wet] :: (x.Taps.map GTap.line ++ x.Early.line :: ((x.Combs.map GComb.lines).flatten ++ ((List.range 4).map x.loopLines).flatten))
structure TapB (t : GTap) : Prop where
  b0 : 1 ≤ t.Back
  b1 : t.Back ≤ 1024
  g : t.Gain < 4294967296
structure RoomB (x : GRoom) : Prop where
  e : RingB x.Early
  t : ∀ t ∈ x.Taps, TapB t
  t6 : x.Taps.length ≤ 6
  c2 : x.Combs.length = 2
  c : ∀ c ∈ x.Combs, RingB c.Ring ∧ c.Gain < 4294967296
  l4 : x.Loops.length = 4
  l : ∀ i, i < 4 → RingB x.Loops[i]!
  d : ∀ i, i < 4 → FiltB x.Damps[i]!
  g : ∀ i, i < 4 → x.Gains[i]! < 4294967296
  b : B32 [x.Dry, x.Wet]
theorem b32_one {n : Nat} (h : n < 4294967296) : B32 [n] := fun k hk => by
  rw [List.mem_singleton] at hk
  rw [hk]; exact h
theorem TapB.words {t : GTap} (h : TapB t) : ∀ w ∈ [tapW, Lib.decDigits t.Back.toNat, bitL t.Gain], Word w := by
  intro w hw
  simp only [List.mem_cons, List.not_mem_nil, or_false] at hw
  rcases hw with rfl | rfl | rfl
  · intro b hb
    have : ∀ b ∈ tapW, b ≠ 32 ∧ b ≠ 10 := by decide
    exact this b hb
  · exact word_dec _
  · exact word_bits h.g
theorem TapB.size {t : GTap} (h : TapB t) : t.line.length ≤ 33 := by
  refine words_size (k := 10) fun w hw => ?_
  simp only [List.mem_cons, List.not_mem_nil, or_false] at hw
  rcases hw with rfl | rfl | rfl
  · decide
  · exact dec_le (k := 9) (by have := h.b1; omega)
  · rw [bitL_len h.g]; decide
/-- What is true of each line. -/
theorem RoomB.all {x : GRoom} (h : RoomB x) : ∀ l ∈ x.lines, (∀ b ∈ l, b ≠ 10) ∧ l.length ≤ 9300 := by
  intro l hl
  unfold GRoom.lines at hl
  rcases List.mem_cons.1 hl with rfl | hl
  · exact ⟨head_mem (by decide) h.b, Nat.le_trans (head_size h.b) (show 4 + 1 + 9 * 2 ≤ 9300 by decide)⟩
  rcases List.mem_append.1 hl with hl | hl
  · obtain ⟨t, ht, rfl⟩ := List.mem_map.1 hl
    exact ⟨words_mem (h.t t ht).words, Nat.le_trans (h.t t ht).size (by decide)⟩
  rcases List.mem_cons.1 hl with rfl | hl
  · exact ⟨h.e.mem, h.e.size⟩
  rcases List.mem_append.1 hl with hl | hl
  · obtain ⟨m, hm, hl⟩ := List.mem_flatten.1 hl
    obtain ⟨c, hc, rfl⟩ := List.mem_map.1 hm
    obtain ⟨h1, h2⟩ := h.c c hc
    simp only [GComb.lines, List.mem_cons, List.not_mem_nil, or_false] at hl
    rcases hl with rfl | rfl
    · exact ⟨head_mem (by decide) (b32_one h2), Nat.le_trans (head_size (b32_one h2)) (show 4 + 1 + 9 * 1 ≤ 9300 by decide)⟩
    · exact ⟨h1.mem, h1.size⟩
  · obtain ⟨m, hm, hl⟩ := List.mem_flatten.1 hl
    obtain ⟨i, hi, rfl⟩ := List.mem_map.1 hm
    have hi := List.mem_range.1 hi
    have h2 := h.g i hi
    simp only [GRoom.loopLines, List.mem_cons, List.not_mem_nil, or_false] at hl
    rcases hl with rfl | rfl | rfl
    · exact ⟨head_mem (by decide) (b32_one h2), Nat.le_trans (head_size (b32_one h2)) (show 4 + 1 + 9 * 1 ≤ 9300 by decide)⟩
    · exact ⟨(h.d i hi).mem, Nat.le_trans (h.d i hi).size (by decide)⟩
    · exact ⟨(h.l i hi).mem, (h.l i hi).size⟩
theorem RoomB.cut {x : GRoom} (h : RoomB x) : cutL 10 (linL x.lines) = x.lines ++ [[]] := lin_cut fun l hl => (h.all l hl).1
theorem RoomB.len {x : GRoom} (h : RoomB x) : x.lines.length = x.Taps.length + 18 := by
  have hc : ((x.Combs.map GComb.lines).flatten).length = 4 := by
    have c2 := h.c2
    match x.Combs, c2 with
    | [a, b], _ => rfl
  unfold GRoom.lines
  simp only [List.length_cons, List.length_append, List.length_map, hc]
  rfl
theorem RoomB.size {x : GRoom} (h : RoomB x) : (linL x.lines).length ≤ 230000 := by
  have e := h.len
  have t6 := h.t6
  exact Nat.le_trans (lin_size (k := 9300) fun l hl => (h.all l hl).2) (by rw [e]; omega)
end Go.Sx
/- What functions of this seat's program compute, told in words (a predicate over heaps for each), and the proofs that the words are no more than the code's own weakest precondition. -/
namespace Go.Sx
open Go.Proofs
set_option linter.unusedVariables false
set_option maxRecDepth 100000

def p_impl_roomLines_next.S (l_0 : Addr) (Post : Value → Heap → Prop) (h : Heap) : Prop :=
    oL (cell h l_0) fun l1b l1l l1c =>
    IDXS l1b (0 : Int) l1l fun p2 =>
    oS (cell h p2) fun s3 =>
    oL (cell h l_0) fun l4b l4l l4c =>
    SLB (1 : Int) (l4l : Int) (l4c : Int) <|
    ST1 h l_0 (.slice (slA l4b l4c 1 1) (l4l - 1) (l4c - 1)) fun h5 =>
    Post (.string s3) h5
noncomputable def p_impl_roomLines_next.code : Code := (Tryz.f76.body).getD .skip
theorem p_impl_roomLines_next.call {l_0 : Addr} {Post : Value → Heap → Prop} {h : Heap} (H : p_impl_roomLines_next.S l_0 Post h) : CALL prg f_p_impl_roomLines_next #[.pointer (some l_0)] Post h :=
  fn_call tau_ok mixed (c := p_impl_roomLines_next.code) (Λ := lookL []) Tryz.func76 (by kernel_rfl) (by kernel_rfl)
    (Rq.free (by kernel_rfl))
    (Eq.mp (by kernel_rfl) H)

def p_impl_roomLines_number.S (l_0 : Addr) (Post : Value → Heap → Prop) (h : Heap) : Prop :=
    CALL prg f_p_impl_roomLines_next #[.pointer (some l_0)] (fun q1 h2 =>
    asS q1 fun s3 =>
    CALL prg f_strings_LastIndex #[.string s3, .string (⟨#[32]⟩ : ByteArray)] (fun q4 h5 =>
    asI .i64 q4 fun n6 =>
    SLB ((IntKind.i64.wrap (n6 + (1 : Int)))) ((ByteArray.size s3) : Int) ((ByteArray.size s3) : Int) <|
    CALL prg f_impl_readBits #[.string ((ByteArray.extract s3 (Int.toNat ((IntKind.i64.wrap (n6 + (1 : Int))))) (ByteArray.size s3)))] (fun q7 h8 =>
    TUP2 q7 fun q9 q10 =>
    asF .f32 q9 fun r11 =>
    asB q10 fun b12 =>
    oB (cell h8 (Addr.add l_0 1)) fun b13 =>
    BIF b13 (
    ST1 h8 (Addr.add l_0 1) (.bool true) fun h14 =>
    Post (.float .f32 r11) h14) (
    ST1 h8 (Addr.add l_0 1) (.bool (!b12)) fun h15 =>
    Post (.float .f32 r11) h15)) h5) h2) h
noncomputable def p_impl_roomLines_number.code : Code := (Tryz.f78.body).getD .skip
theorem p_impl_roomLines_number.call {l_0 : Addr} {Post : Value → Heap → Prop} {h : Heap} (H : p_impl_roomLines_number.S l_0 Post h) : CALL prg f_p_impl_roomLines_number #[.pointer (some l_0)] Post h :=
  fn_call tau_ok mixed (c := p_impl_roomLines_number.code) (Λ := lookL []) Tryz.func78 (by kernel_rfl) (by kernel_rfl)
    (Rq.free (by kernel_rfl))
    (Eq.mp (by kernel_rfl) H)

def p_impl_roomLines_ring.S (l_0 : Addr) (Post : Value → Heap → Prop) (h : Heap) : Prop :=
    ALC ⟨Z_impl_Ring⟩ T_impl_Ring (fun g1 h2 =>
    CALL prg f_p_impl_roomLines_next #[.pointer (some l_0)] (fun q3 h4 =>
    asS q3 fun s5 =>
    CALL prg f_impl_readRing #[.string s5] (fun q6 h7 =>
    TUP2 q6 fun q8 q9 =>
    asA q8 fun a10 =>
    asB q9 fun b11 =>
    ALC ⟨Z_impl_Ring⟩ T_impl_Ring (fun g12 h13 =>
    STA 2 h13 ⟨g12, 0, none⟩ a10 fun h14 =>
    oB (cell h14 (Addr.add l_0 1)) fun b15 =>
    BIF b15 (
    ST1 h14 (Addr.add l_0 1) (.bool true) fun h16 =>
    LDA 2 h16 ⟨g12, 0, none⟩ fun a17 =>
    STA 2 h16 ⟨g1, 0, none⟩ a17 fun h18 =>
    LDA 2 h18 ⟨g1, 0, none⟩ fun a19 =>
    Post (.agg a19) h18) (
    ST1 h14 (Addr.add l_0 1) (.bool (!b11)) fun h20 =>
    LDA 2 h20 ⟨g12, 0, none⟩ fun a21 =>
    STA 2 h20 ⟨g1, 0, none⟩ a21 fun h22 =>
    LDA 2 h22 ⟨g1, 0, none⟩ fun a23 =>
    Post (.agg a23) h22)) h7) h4) h2) h
noncomputable def p_impl_roomLines_ring.code : Code := (Tryz.f79.body).getD .skip
theorem p_impl_roomLines_ring.call {l_0 : Addr} {Post : Value → Heap → Prop} {h : Heap} (H : p_impl_roomLines_ring.S l_0 Post h) : CALL prg f_p_impl_roomLines_ring #[.pointer (some l_0)] Post h :=
  fn_call tau_ok mixed (c := p_impl_roomLines_ring.code) (Λ := lookL []) Tryz.func79 (by kernel_rfl) (by kernel_rfl)
    (Rq.free (by kernel_rfl))
    (Eq.mp (by kernel_rfl) H)

end Go.Sx
/- Rooms told. -/
set_option linter.unusedVariables false
set_option linter.unusedSimpArgs false
namespace Go.Sx
open Go.Proofs
set_option maxRecDepth 100000
set_option maxHeartbeats 2000000

/-- Rooms as they are told and read again. -/
structure RoomA (x : GRoom) : Prop where
  e : RingA x.Early
  t : ∀ t ∈ x.Taps, 1 ≤ t.Back ∧ t.Back ≤ 1024 ∧ FW .f32 t.Gain t.Gain
  t6 : x.Taps.length ≤ 6
  c2 : x.Combs.length = 2
  c : ∀ i, i < 2 → RingA x.Combs[i]!.Ring ∧ FW .f32 x.Combs[i]!.Gain x.Combs[i]!.Gain
  l4 : x.Loops.length = 4
  d4 : x.Damps.length = 4
  g4 : x.Gains.length = 4
  l : ∀ i, i < 4 → RingA x.Loops[i]!
  d : ∀ i, i < 4 → FiltA x.Damps[i]! ∧ x.Damps[i]!.ok = true
  g : ∀ i, i < 4 → FW .f32 x.Gains[i]! x.Gains[i]!
  b : A32 [x.Dry, x.Wet]
theorem RoomA.b' {x : GRoom} (h : RoomA x) : RoomB x where
  e := h.e.b
  t := fun t ht => ⟨(h.t t ht).1, (h.t t ht).2.1, (h.t t ht).2.2.lt⟩
  t6 := h.t6
  c2 := h.c2
  c := fun c hc => by
    obtain ⟨i, hi, rfl⟩ := List.getElem_of_mem hc
    have := h.c i (by have := h.c2; omega)
    rw [getElem!_pos _ i hi] at this
    exact ⟨this.1.b, this.2.lt⟩
  l4 := h.l4
  l := fun i hi => (h.l i hi).b
  d := fun i hi => (h.d i hi).1.b
  g := fun i hi => (h.g i hi).lt
  b := h.b.b
end Go.Sx
/- Lines read one after the other off a structure behind a pointer. -/
set_option linter.unusedVariables false
set_option linter.unusedSimpArgs false
namespace Go.Sx
open Go.Proofs
set_option maxRecDepth 100000
set_option maxHeartbeats 1000000

theorem count_lin : ∀ {ls : List (List UInt8)}, (∀ l ∈ ls, ∀ b ∈ l, b ≠ 10) → (linL ls).count 10 = ls.length
  | [], _ => by simp [linL]
  | l :: ls, h => by
    have h1 : l.count 10 = 0 := List.count_eq_zero.2 fun k => h l (List.mem_cons_self ..) 10 k rfl
    have h2 := count_lin (ls := ls) fun x hx => h x (List.mem_cons_of_mem _ hx)
    have e : linL (l :: ls) = l ++ 10 :: linL ls := by simp [linL]
    rw [e, List.count_append, h1, List.count_cons_self, h2, List.length_cons]
    omega
section
variable {h0 h : Heap}
theorem Count_c {s : ByteArray} {c : UInt8} : CALL prg f_strings_Count #[.string s, .string ⟨#[c]⟩] (fun u h' => u = .int .i64 (s.data.toList.count c : Int) ∧ Ext h h') h := by
  refine CALL_of_calls L138.f138 rfl rfl fun w hw => ?_
  subst hw
  refine (Any.strings_Count_one L138 s c w).mono ?_
  rintro e w' ⟨rfl, rfl⟩
  exact ⟨_, rfl, ⟨rfl, rfl, rfl⟩, rfl, Ext.refl _⟩
theorem LastIndex_c {s : ByteArray} (hs : s.size ≤ 1048576) : CALL prg f_strings_LastIndex #[.string s, .string ⟨#[32]⟩] (fun u h' => u = .int .i64 (Lib.lastIndexByte s 32) ∧ Ext h h') h := by
  refine CALL_of_calls L148.f148 rfl rfl fun w hw => ?_
  subst hw
  refine (Any.strings_LastIndex_one L148 s ⟨#[32]⟩ rfl (by omega) w).mono ?_
  rintro e w' ⟨rfl, rfl⟩
  exact ⟨_, rfl, ⟨rfl, rfl, rfl⟩, rfl, Ext.refl _⟩
theorem mk_get {l : List UInt8} {i : Nat} (hi : i < l.length) : (mkB l).data[i]! = l[i]! := by
  have e : (mkB l).data = ⟨l⟩ := by
    have := mkB_data l
    cases hh : (mkB l).data
    rw [hh] at this
    exact congrArg Array.mk this
  rw [e]
  simp [hi]
theorem last_at {p t : List UInt8} (h : ∀ b ∈ t, b ≠ 32) : Lib.lastIndexByte (mkB (p ++ 32 :: t)) 32 = (p.length : Int) := by
  have hlen : (p ++ 32 :: t).length = p.length + 1 + t.length := by simp; omega
  have at1 : ((mkB (p ++ 32 :: t)).data[p.length]!).toNat = 32 := by
    rw [mk_get (by omega), getElem!_pos _ _ (by omega), List.getElem_append_right (Nat.le_refl _)]
    simp
  have at2 : ∀ i, p.length < i → i < (p ++ 32 :: t).length → ((mkB (p ++ 32 :: t)).data[i]!).toNat ≠ 32 := fun i h1 h2 e => by
    rw [mk_get h2, getElem!_pos (p ++ 32 :: t) i h2, List.getElem_append_right (by omega)] at e
    obtain ⟨k, hk⟩ : ∃ k, i - p.length = k + 1 := ⟨i - p.length - 1, by omega⟩
    simp only [hk, List.getElem_cons_succ] at e
    exact h _ (List.getElem_mem (show k < t.length by omega)) (UInt8.toNat_inj.1 e)
  unfold Lib.lastIndexByte
  rw [mk_size]
  rcases Lib.lastIdx_spec (mkB (p ++ 32 :: t)) 32 (p ++ 32 :: t).length with ⟨_, k⟩ | ⟨i, hi, e, e1, k⟩
  · exact absurd (by rw [at1]; rfl) (k p.length (by omega))
  · rw [e]
    rcases Nat.lt_trichotomy i p.length with q | q | q
    · exact absurd (by rw [at1]; rfl) (k p.length q (by omega))
    · rw [q]
    · exact absurd (Int.ofNat.inj e1) (at2 i q hi)
theorem ext_at {p t : List UInt8} {n : Nat} (hn : n = p.length + 1) : (mkB (p ++ 32 :: t)).extract n (mkB (p ++ 32 :: t)).size = mkB t := by
  subst hn
  have e : ∀ l : List UInt8, mkB l = ⟨⟨l⟩⟩ := fun l => by
    have := mkB_data l
    cases hh : mkB l with
    | mk d => rw [hh] at this; cases d; exact congrArg (fun x => ByteArray.mk (Array.mk x)) this
  rw [mk_size, e, e]
  have := ByteArray.extract_mk (p ++ 32 :: t) (p.length + 1) (p ++ 32 :: t).length
  rw [this]
  congr 2
  have h1 : List.drop (p.length + 1) (p ++ 32 :: t) = t := by
    rw [← List.drop_drop, List.drop_left]; rfl
  rw [h1, List.take_of_length_le (by simp; omega)]
/-- Lines that are left to be read. -/
def LnS (h0 h : Heap) (W : List Blk) (gl g : Nat) (LS : List (List UInt8)) (m j : Nat) : Prop :=
  Mem h0 h ((gl, T_impl_roomLines, ⟨[.slice (some ⟨g, j, none⟩) (m - j) (m + 1 - j), .bool false]⟩) :: (g, T_string, strV LS) :: W)
variable {W : List Blk} {gl g m j : Nat} {LS : List (List UInt8)}
theorem nextL_c (S : LnS h0 h W gl g LS m j) (hj : j < m) (hl : m < LS.length) : CALL prg f_p_impl_roomLines_next #[.pointer (some ⟨gl, 0, none⟩)] (fun u h' => u = .string (mkB LS[j]!) ∧ LnS h0 h' W gl g LS m (j + 1)) h := by
  unfold LnS at S
  refine p_impl_roomLines_next.call (S.oL .here rfl (idxs (by omega) (by omega) (S.oS (.there .here) (strV_get (by omega)) (S.oL .here rfl (slb (by omega) (by omega) (by omega) ?_)))))
  rw [slA_n (by omega), add_none, Nat.mul_one]
  refine S.st1 .here (show 0 < 2 by decide) .here fun h' M => ⟨rfl, ?_⟩
  unfold LnS
  have e1 : m - (j + 1) = m - j - 1 := by omega
  have e2 : m + 1 - (j + 1) = m + 1 - j - 1 := by omega
  rw [e1, e2]
  exact M
theorem number_c {n : Nat} {p : List UInt8} (S : LnS h0 h W gl g LS m j) (hj : j < m) (hl : m < LS.length) (e : LS[j]! = p ++ 32 :: bitL n) (hp : p.length ≤ 1000) (hn : FW .f32 n n) (T : Txt h0) :
    CALL prg f_p_impl_roomLines_number #[.pointer (some ⟨gl, 0, none⟩)] (fun u h' => u = .float .f32 n ∧ LnS h0 h' W gl g LS m (j + 1)) h := by
  have d2 := bitL_len (hn.lt : n < 4294967296)
  refine p_impl_roomLines_number.call ((nextL_c S hj hl).mono ?_)
  rintro _ h1 ⟨rfl, S⟩
  rw [e]
  have hsz : (mkB (p ++ 32 :: bitL n)).size = p.length + 9 := by rw [mk_size]; simp [d2]
  unfold LnS at S
  refine as_s (goM S (LastIndex_c (by omega)) fun h2 S => as_i ?_)
  rw [last_at fun b hb => (word_bits hn.lt b hb).1, wrap64 (by omega) (by omega)]
  refine slb (by omega) (by omega) (by omega) ?_
  rw [ext_at (by omega)]
  refine goM S (readBits_ok hn (T.ext S.ext).br) fun h3 S => tup2 (as_f (as_b (S.oB .here rfl (br_f rfl (S.st1 .here (show 0 + 1 < 2 by decide) .here fun h4 S => ⟨rfl, S⟩)))))
theorem ringL_c {r : GRing} (S : LnS h0 h W gl g LS m j) (hj : j < m) (hl : m < LS.length) (e : LS[j]! = r.line) (A : RingA r) (T : Txt h0) :
    CALL prg f_p_impl_roomLines_ring #[.pointer (some ⟨gl, 0, none⟩)] (fun u h' => ∃ b l c B, u = .agg ⟨[.slice b l c, .int .i64 r.At]⟩ ∧ SlO T_float32 (rF .f32) B b l c r.Samples ∧ LnS h0 h' (B ++ W) gl g LS m (j + 1)) h := by
  unfold LnS at S
  refine p_impl_roomLines_ring.call (S.alc fun g1 h1 x1 M => ?_)
  have S1 : LnS h0 h1 ((g1, T_impl_Ring, ⟨Z_impl_Ring⟩) :: W) gl g LS m j := M.cnt fun p => by simp only [cnt_cons]; omega
  refine (nextL_c S1 hj hl).mono ?_
  rintro _ h2 ⟨rfl, S2⟩
  rw [e]
  unfold LnS at S2
  refine as_s ((readRing_ok A (T.ext S2.ext)).mono ?_)
  rintro _ h3 ⟨b, l, c, B, rfl, O, N⟩
  have M := (S2.join N).cnt (W := (gl, T_impl_roomLines, ⟨[.slice (some ⟨g, j + 1, none⟩) (m - (j + 1)) (m + 1 - (j + 1)), .bool false]⟩) :: (g1, T_impl_Ring, ⟨Z_impl_Ring⟩) :: (g, T_string, strV LS) :: (B ++ W)) fun p => by simp only [List.append_eq, cnt_app, cnt_cons, cnt_nil]; omega
  refine tup2 (as_a (as_b (M.alc fun g12 h4 x4 M => M.sta0 .here rfl (all_one rfl) rfl .here fun h5 M => M.oB (.there .here) rfl (br_f rfl (M.st1 (.there .here) (show 0 + 1 < 2 by decide) (.there .here) fun h6 M => M.lda0 .here rfl (M.sta0 (.there (.there .here)) rfl (all_one rfl) rfl (.there (.there .here)) fun h7 M => M.lda0 (.there (.there .here)) rfl ?_))))))
  have M : Mem h0 h7 ((g12, T_impl_Ring, ⟨[.slice b l c, .int .i64 r.At]⟩) :: (gl, T_impl_roomLines, ⟨[.slice (some ⟨g, j + 1, none⟩) (m - (j + 1)) (m + 1 - (j + 1)), .bool false]⟩) :: (g1, T_impl_Ring, ⟨[.slice b l c, .int .i64 r.At]⟩) :: (g, T_string, strV LS) :: (B ++ W)) := M
  exact ⟨b, l, c, B, rfl, O, M.cnt fun p => by simp only [cnt_app, cnt_cons]; omega⟩
end
end Go.Sx
/- Rooms read. -/
set_option linter.unusedVariables false
set_option linter.unusedSimpArgs false
namespace Go.Sx
open Go.Proofs
set_option maxRecDepth 100000
set_option maxHeartbeats 2000000

/-- A room in a block, the lines that are left beside it. -/
def RmS (hb hh : Heap) (gl g gx g1 : Nat) (LS : List (List UInt8)) (m j : Nat) (cur : GRoom) : Prop :=
  ∃ cs B, rRoom.ow B cs.toList cur ∧ LnS hb hh ((gx, T_impl_Room, cs) :: (B ++ [(g1, T_impl_Room, ⟨Z_impl_Room⟩)])) gl g LS m j
def Lj (gl g g1 : Nat) (LS : List (List UInt8)) (m j : Nat) : List Blk := (gl, T_impl_roomLines, ⟨[.slice (some ⟨g, j, none⟩) (m - j) (m + 1 - j), .bool false]⟩) :: (g, T_string, strV LS) :: [(g1, T_impl_Room, ⟨Z_impl_Room⟩)]
section
variable {hb h : Heap} {gl g gx g1 m j : Nat} {LS : List (List UInt8)} {cur : GRoom}
theorem RmS.pt (R : RmS hb h gl g gx g1 LS m j cur) : Pt rRoom hb h ⟨gx, 0, none⟩ ⟨gx, T_impl_Room, [], []⟩ (Lj gl g g1 LS m j) cur := by
  obtain ⟨cs, B, O, S⟩ := R
  exact Pt.new O (S.cnt fun p => by unfold Lj; simp only [cnt_app, cnt_cons, cnt_nil]; omega)
theorem RmS.of (P : Pt rRoom hb h ⟨gx, 0, none⟩ ⟨gx, T_impl_Room, [], []⟩ (Lj gl g g1 LS m j) cur) : RmS hb h gl g gx g1 LS m j cur := by
  obtain ⟨cs, B, M, O⟩ := P.out
  exact ⟨cs, B, O, M.cnt fun p => by unfold Lj; simp only [cnt_app, cnt_cons, cnt_nil]; omega⟩
theorem RmS.num {n : Nat} {p : List UInt8} (R : RmS hb h gl g gx g1 LS m j cur) (hj : j < m) (hl : m < LS.length) (e : LS[j]! = p ++ 32 :: bitL n) (hp : p.length ≤ 1000) (hn : FW .f32 n n) (T : Txt hb) :
    CALL prg f_p_impl_roomLines_number #[.pointer (some ⟨gl, 0, none⟩)] (fun u h' => u = .float .f32 n ∧ RmS hb h' gl g gx g1 LS m (j + 1) cur) h := by
  obtain ⟨cs, B, O, S⟩ := R
  exact (number_c S hj hl e hp hn T).mono fun u h' ⟨e, S⟩ => ⟨e, cs, B, O, S⟩
theorem RmS.ring {r : GRing} (R : RmS hb h gl g gx g1 LS m j cur) (hj : j < m) (hl : m < LS.length) (e : LS[j]! = r.line) (A : RingA r) (T : Txt hb) :
    CALL prg f_p_impl_roomLines_ring #[.pointer (some ⟨gl, 0, none⟩)] (fun u h' => ∃ b l c B, u = .agg ⟨[.slice b l c, .int .i64 r.At]⟩ ∧ rRing.ow B [.slice b l c, .int .i64 r.At] r ∧ Pt rRoom hb h' ⟨gx, 0, none⟩ ⟨gx, T_impl_Room, [], []⟩ (B ++ Lj gl g g1 LS m (j + 1)) cur) h := by
  obtain ⟨cs, B, O, S⟩ := R
  refine (ringL_c S hj hl e A T).mono ?_
  rintro _ h' ⟨b, l, c, B', rfl, O', S⟩
  exact ⟨b, l, c, B', rfl, ow_ring O', Pt.new O (S.cnt fun p => by unfold Lj; simp only [cnt_app, cnt_cons, cnt_nil]; omega)⟩
theorem RmS.next (R : RmS hb h gl g gx g1 LS m j cur) (hj : j < m) (hl : m < LS.length) :
    CALL prg f_p_impl_roomLines_next #[.pointer (some ⟨gl, 0, none⟩)] (fun u h' => u = .string (mkB LS[j]!) ∧ RmS hb h' gl g gx g1 LS m (j + 1) cur) h := by
  obtain ⟨cs, B, O, S⟩ := R
  exact (nextL_c S hj hl).mono fun u h' ⟨e, S⟩ => ⟨e, cs, B, O, S⟩
end
end Go.Sx
/- One element appended to an own slice of own data, and stored there. -/
set_option linter.unusedVariables false
set_option linter.unusedSimpArgs false
namespace Go.Sx
open Go.Proofs

section
variable {α β : Type} {r : Rep α} {s : Rep β} {P : Program} {h0 h : Heap} {q : Addr} {F : Fr} {L Bn : List Blk} {a : α} {off t e bytes ty : Nat} {get : α → List β} {put : α → List β → α} {cs : Array Value} {x : β}
theorem Pt.pushX (Pa : Pt r h0 h q F (Bn ++ L) a) [Fc : FocC r off (rSl e s) get put] (E : ElemT P t e s.sz bytes) (Ox : s.ow Bn cs.toList x) (hmax : (get a).length + 1 ≤ maxLen) (hbytes : ((get a).length + 1) * bytes ≤ 140737488355328) :
    ∃ b l c, cell h (q.add off) = some (.slice b l c) ∧ ∀ K : Heap → Prop, (∀ h', Pt r h0 h' q F L (put a (get a ++ [x])) → K h') →
      ALC cs e (fun g h => SEMV P (Builtin.append_ #[t, t] ty #[.slice b l c, .slice (some ⟨g, 0, none⟩) 1 1]) (fun u h => asL u fun b l c => ST1 h (q.add off) (.slice b l c) K) h) h := by
  obtain ⟨F1, C, P1, close⟩ := Pa.focX Fc.f
  obtain ⟨eq, mid, B, M, b, l, c, rfl, O⟩ := P1
  have hl : (get a).length = l := O.1
  refine ⟨b, l, c, by rw [eq, M.cell .here]; simp, fun K H => ?_⟩
  refine push_own (L := (F1.g, F1.T, ⟨F1.pre ++ ([.slice b l c] ++ F1.post)⟩) :: (C ++ L)) E O (M.cnt fun p => by simp only [cnt_app, cnt_cons, cnt_nil]; omega) Ox (by omega) (by rw [← hl]; exact hbytes) fun b' c' h' B' O' M' => as_l ?_
  rw [eq]
  have M2 : Mem h0 h' ((F1.g, F1.T, ⟨F1.pre ++ ([.slice b l c] ++ F1.post)⟩) :: (B' ++ (C ++ L))) := M'.cnt fun p => by simp only [cnt_app, cnt_cons, cnt_nil]; omega
  refine M2.st1M rfl fun h2 M3 => H h2 ?_
  exact (close h0 h2 L _ ⟨eq, [.slice b' (l + 1) c'], B', M3, _, _, _, rfl, O'⟩).1
end
end Go.Sx
/- Strings played, run over blocks, muted, counted to silence. -/
set_option linter.unusedVariables false
set_option linter.unusedSimpArgs false
namespace Go.Sx
open Go.Proofs
set_option maxRecDepth 100000
set_option maxHeartbeats 2000000

def GString.mute (x : GString) : GString := { x with Loop := x.Loop.mute, Tune := x.Tune.mute, Damp := x.Damp.mute }
end Go.Sx
