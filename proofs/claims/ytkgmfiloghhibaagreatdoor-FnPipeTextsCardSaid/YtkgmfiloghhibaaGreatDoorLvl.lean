/- Filters read; two numbers, filters and two rings of lines. -/
import Derived.Test.YtkgmfiloghhibaaGreatDoorTL
import Derived.Test.YtkgmfiloghhibaaGreatDoorK9
import Derived.Test.YtkgmfiloghhibaaGreatDoorLk10
import Derived.Test.YtkgmfiloghhibaaGreatDoorTab
import Derived.Test.YtkgmfiloghhibaaGreatDoorLk59
import Derived.Test.YtkgmfiloghhibaaGreatDoorK2
set_option linter.unusedVariables false
set_option linter.unusedSimpArgs false
namespace Go.Sx
open Go.Proofs
set_option maxRecDepth 100000
set_option maxHeartbeats 1000000

theorem cells_lda {h : Heap} {a : Addr} {ws : List Value} {n : Nat} {F : Array Value → Prop} (C : Cells h (some a) ws) (hn : n ≤ ws.length) (H : F ⟨ws.take n⟩) : LDA n h a F := by
  refine ⟨⟨ws.take n⟩, by simp; omega, fun i hi => ?_, H⟩
  rw [C.get (List.getElem?_eq_getElem (show i < ws.length by omega))]
  simp [List.getElem?_take_of_lt hi, show i < ws.length by omega]
theorem slA_0 (b : Option Addr) (c s : Nat) : slA b c 0 s = b := by
  unfold slA
  split
  · rfl
  · cases b with
    | none => rfl
    | some a => show some (a.add (0 * s)) = _; rw [Nat.zero_mul, add0]
theorem slA_n {a : Addr} {c n s : Nat} (h : n < c) : slA (some a) c n s = some (a.add (n * s)) := by
  unfold slA
  rw [if_neg (by omega)]; rfl
section
variable {h0 h : Heap} {L : List Blk}
theorem five {b : Option Addr} {l c c0 c1 c2 s0 s1 : Nat} (S : SlR (rF .f32) h b l c [c0, c1, c2, s0, s1]) : ∃ a y0 y1 y2 y3 y4, b = some a ∧ Cells h (some a) [.float .f32 y0, .float .f32 y1, .float .f32 y2, .float .f32 y3, .float .f32 y4] ∧
    FW .f32 y0 c0 ∧ FW .f32 y1 c1 ∧ FW .f32 y2 c2 ∧ FW .f32 y3 s0 ∧ FW .f32 y4 s1 := by
  obtain ⟨_, _, _, ws, C, w1, r1, e1, ⟨y0, rfl, f0⟩, w2, r2, e2, ⟨y1, rfl, f1⟩, w3, r3, e3, ⟨y2, rfl, f2⟩, w4, r4, e4, ⟨y3, rfl, f3⟩, w5, r5, e5, ⟨y4, rfl, f4⟩, e6⟩ := S
  have e6 : r5 = [] := e6
  subst e6 e5 e4 e3 e2 e1
  obtain ⟨a, rfl⟩ := C.base (by simp)
  exact ⟨a, y0, y1, y2, y3, y4, rfl, C, f0, f1, f2, f3, f4⟩
theorem is3 {α : Type} {l : List α} (h : l.length = 3) : ∃ a b c, l = [a, b, c] := by
  match l, h with
  | [a, b, c], _ => exact ⟨a, b, c, rfl⟩
theorem ParseInt_ok {m : Nat} (T : Txt h) (hm : m < 1000000000) : CALL prg f_strconv_ParseInt #[.string (mkB (Lib.decDigits m)), .int .i64 10, .int .i64 64] (fun u h' => u = .tuple ⟨[.int .i64 (m : Int), .nilIface]⟩ ∧ Ext h h') h := by
  have hd := dec_le (n := m) (k := 8) hm
  have hp : Lib.parseIntB 64 (mkB (Lib.decDigits m)).data.toList = .ok (m : Int) := by rw [mkB_data]; exact parse_dec (by omega)
  refine (ParseInt_c T.lb (s := mkB (Lib.decDigits m)) (by rw [mk_size]; omega)).mono ?_
  rintro _ h1 ⟨⟨v, e, rfl⟩ | ⟨v, t, x, e, rfl⟩, x1⟩
  · rw [hp] at e
    obtain rfl : (m : Int) = v := by injection e
    exact ⟨rfl, x1⟩
  · exact absurd hp (e _)
theorem ReadFilter_ok {f : GFilter} (hok : f.ok = true) (A : FiltA f) (T : Txt h) : CALL prg f_impl_ReadFilter #[.string (mkB f.line)] (fun u h' => ∃ cs : Array Value, u = .tuple ⟨[.agg cs, .int .i64 (0 : Int)]⟩ ∧ rFilter.ow [] cs.toList f ∧ Ext h h') h := by
  have B := A.b
  have k0 := B.k0
  have k1 := B.k1
  have sz := B.size
  have bc := B.cut
  obtain ⟨c0, c1, c2, hC⟩ := is3 A.c3
  obtain ⟨s0, s1, hS⟩ := is2 A.s2
  have hCS : f.C ++ f.S = [c0, c1, c2, s0, s1] := by rw [hC, hS]; rfl
  have ha : A32 (f.C ++ f.S) := fun a h => (List.mem_append.1 h).elim (A.ca a) (A.sa a)
  refine impl_ReadFilter.call ((Mem.start h).alc fun g1 h1 x1 M => Split_c (c := 32) (T.ext x1).lb (by rw [mk_size]; omega) M fun g h2 x2 M => as_l ?_)
  rw [mkB_data, bc] at M ⊢
  have el : (fwL :: Lib.decDigits f.Kind.toNat :: (f.C ++ f.S).map bitL).length = 7 := by rw [hCS]; rfl
  rw [el]
  refine br_f rfl (idxs (by omega) (by omega) ?_)
  rw [add_none]
  refine M.oS .here (strV_get (j := 1) (by omega)) ?_
  refine goM M (ParseInt_ok (T.ext M.ext) (m := f.Kind.toNat) (by omega)) fun h3 M => tup2 (as_i (slb (by omega) (by omega) (by omega) ?_))
  have S := strV_slr M .here (fun x hx => by
    have hm : (1048576 : Nat) ≤ maxLen := by decide
    simp only [List.mem_cons, List.mem_map] at hx
    rcases hx with rfl | rfl | ⟨n, hn, rfl⟩
    · have : fwL.length = 6 := rfl
      omega
    · have := dec_le (n := f.Kind.toNat) (k := 1) (by omega); omega
    · rw [bitL_len (ha n hn).lt]; omega) (by have hm : (1048576 : Nat) ≤ maxLen := by decide
                                             omega)
  have S2 := slr_drop S (n := 2) (by omega)
  rw [el] at S2
  have e2 : ((fwL :: Lib.decDigits f.Kind.toNat :: (f.C ++ f.S).map bitL).map mkB).drop 2 = bitsS (f.C ++ f.S) := map_bits _
  rw [e2] at S2
  refine (readSamples_ok S2 ha (by omega) (T.ext M.ext).br).mono ?_
  rintro _ h4 ⟨b', c', B', rfl, O, N⟩
  have M := (M.join N).cnt (W := (g1, T_impl_Filter, ⟨Z_impl_Filter⟩) :: B') (fun p => by simp only [List.append_eq, cnt_app, cnt_cons, cnt_nil] at *; omega)
  refine tup2 (as_l (as_b (cmp_ne_nn (br_f rfl (br_f rfl ?_)))))
  unfold impl_ReadFilter.J8
  rw [hCS] at O
  have S4 := O.look M (List.sublist_cons_self _ _)
  have hcap := S4.2.1
  obtain ⟨a, y0, y1, y2, y3, y4, rfl, C, f0, f1, f2, f3, f4⟩ := five S4
  have C3 : Cells h4 (some (a.add 3)) [.float .f32 y3, .float .f32 y4] := by
    have := C.sub (cap := c') (lo := 3) (sz := 1) (by simp; omega)
    rw [slA_n (by omega)] at this
    exact this
  refine slb (by omega) (by omega) (by omega) ?_
  rw [slA_0]
  refine ⟨by omega, cells_lda C (by simp) (slb (by omega) (by omega) (by omega) ?_)⟩
  have e3 : slA (some a) c' 3 1 = some (a.add 3) := slA_n (by omega)
  rw [e3]
  refine ⟨by omega, cells_lda C3 (by simp) (siz rfl (siz rfl (M.alc fun g5 h5 x5 M => ?_)))⟩
  refine pin x5 (fun j hj => ?_) (pin x5 (fun j hj => ?_) ?_)
  · obtain ⟨_, e, e2⟩ := C3 j (by simpa using hj)
    cases e
    rw [List.getElem?_eq_getElem (by simpa using hj)] at e2
    exact ⟨_, e2⟩
  · obtain ⟨_, e, e2⟩ := C j (by simp; omega)
    cases e
    rw [List.getElem?_eq_getElem (by simp; omega)] at e2
    exact ⟨_, e2⟩
  have OF : rFilter.ow [] (flC (f.Kind.toNat : Int) y0 y1 y2 y3 y4) f := by
    have := filter_ow (k := (f.Kind.toNat : Int)) f0 f1 f2 f3 f4
    rw [← hC, ← hS, Int.toNat_of_nonneg (by omega)] at this
    rw [Int.toNat_of_nonneg (by omega)]
    exact this
  refine M.sta0 (vs := ⟨flC (f.Kind.toNat : Int) y0 y1 y2 y3 y4⟩) .here rfl (all_one rfl) rfl .here fun h6 M => M.lda0 .here rfl ?_
  have RF : rFilter.rd h6 (⟨flC (f.Kind.toNat : Int) y0 y1 y2 y3 y4⟩ : Array Value).toList f := rFilter.look OF (Mem.start h6) (List.Sublist.refl _)
  refine goM M (FilterText_c RF hok A (T.ext M.ext)) fun h7 M => as_s (br_f (by simp) ?_)
  refine M.lda0 .here rfl (M.sta0 (.there .here) rfl (all_one rfl) rfl (.there .here) fun h8 M => M.lda0 (.there .here) rfl ⟨_, rfl, OF, M.ext⟩)
end
end Go.Sx
/- What is told of strings, pipes and rooms, line by line. -/
set_option linter.unusedVariables false
set_option linter.unusedSimpArgs false
namespace Go.Sx
open Go.Proofs Go.RowKit
set_option maxRecDepth 100000
set_option maxHeartbeats 1000000

/-- A word without blanks and new lines. -/
def Word (w : List UInt8) : Prop := ∀ b ∈ w, b ≠ 32 ∧ b ≠ 10
theorem word_dec (n : Nat) : Word (Lib.decDigits n) := fun b hb => ⟨dec_no n (.inl (by decide)) b hb, dec_no n (.inl (by decide)) b hb⟩
theorem word_bits {n : Nat} (h : n < 4294967296) : Word (bitL n) := fun b hb => ⟨bitL_ne h (by decide) b hb, bitL_ne h (by decide) b hb⟩
/-- Words in a line. -/
def wordsL (ws : List (List UInt8)) : List UInt8 := Lib.join ws [32]
theorem words_cut {w : List UInt8} {r : List (List UInt8)} (h : ∀ x ∈ w :: r, Word x) : cutL 32 (wordsL (w :: r)) = w :: r := cut_join w r fun y hy b hb => (h y hy b hb).1
theorem words_mem {ws : List (List UInt8)} (h : ∀ x ∈ ws, Word x) : ∀ b ∈ wordsL ws, b ≠ 10 := by
  intro b hb e
  rcases join_mem ws hb with k | ⟨x, hx, k⟩
  · rw [e] at k; exact absurd k (by decide)
  · exact (h x hx b k).2 e
theorem words_size {k : Nat} : ∀ {ws : List (List UInt8)}, (∀ x ∈ ws, x.length ≤ k) → (wordsL ws).length ≤ (k + 1) * ws.length
  | [], _ => by unfold wordsL; rw [Lib.join_nil]; exact Nat.zero_le _
  | [x], h => by
    have := h x (List.mem_cons_self ..)
    unfold wordsL
    rw [Lib.join_one]
    simp only [List.length_cons, List.length_nil]
    omega
  | x :: y :: r, h => by
    have h1 := h x (List.mem_cons_self ..)
    have h2 : (wordsL (y :: r)).length ≤ _ := words_size fun z hz => h z (List.mem_cons_of_mem _ hz)
    unfold wordsL at h2 ⊢
    rw [join_two, List.length_append, List.length_cons, List.length_cons, Nat.mul_succ]
    omega
theorem words_one (w : List UInt8) : wordsL [w] = w := Lib.join_one _ _
theorem words_cons (w : List UInt8) (x : List UInt8) (r : List (List UInt8)) : wordsL (w :: x :: r) = w ++ 32 :: wordsL (x :: r) := join_two w x r 32
/-- A word more behind a line. -/
theorem words_snoc : ∀ (w : List UInt8) (r : List (List UInt8)) (x : List UInt8), wordsL (w :: r ++ [x]) = wordsL (w :: r) ++ 32 :: x
  | w, [], x => by
    show wordsL [w, x] = _
    rw [words_cons, words_one, words_one]
  | w, y :: r, x => by
    show wordsL (w :: y :: (r ++ [x])) = _
    rw [words_cons, words_cons, List.append_assoc, List.cons_append]
    have := words_snoc y r x
    rw [List.cons_append] at this
    rw [this]
theorem smp_words (ns : List Nat) : smpL ns = wordsL (ns.map bitL) := rfl
def strW : List UInt8 := [115, 116, 114, 105, 110, 103]
def GString.lines (x : GString) : List (List UInt8) :=
  [wordsL [strW, bitL x.Loss, Lib.decDigits x.Loop.Samples.length, Lib.decDigits x.Loop.At.toNat], x.Tune.line, x.Damp.line, smpL x.Loop.Samples]
structure StrB (x : GString) : Prop where
  l : RingB x.Loop
  t : FiltB x.Tune
  d : FiltB x.Damp
  b : x.Loss < 4294967296
theorem StrB.words {x : GString} (h : StrB x) : ∀ w ∈ [strW, bitL x.Loss, Lib.decDigits x.Loop.Samples.length, Lib.decDigits x.Loop.At.toNat], Word w := by
  intro w hw
  simp only [List.mem_cons, List.not_mem_nil, or_false] at hw
  rcases hw with rfl | rfl | rfl | rfl
  · intro b hb
    have : ∀ b ∈ strW, b ≠ 32 ∧ b ≠ 10 := by decide
    exact this b hb
  · exact word_bits h.b
  · exact word_dec _
  · exact word_dec _
theorem StrB.mem {x : GString} (h : StrB x) : ∀ l ∈ x.lines, ∀ b ∈ l, b ≠ 10 := by
  intro l hl
  simp only [GString.lines, List.mem_cons, List.not_mem_nil, or_false] at hl
  rcases hl with rfl | rfl | rfl | rfl
  · exact words_mem h.words
  · exact h.t.mem
  · exact h.d.mem
  · exact smp_mem h.l.bits
theorem StrB.cut {x : GString} (h : StrB x) : cutL 10 (linL x.lines) = x.lines ++ [[]] := lin_cut h.mem
theorem StrB.size {x : GString} (h : StrB x) : (linL x.lines).length ≤ 37204 := by
  refine lin_size (k := 9300) fun l hl => ?_
  simp only [GString.lines, List.mem_cons, List.not_mem_nil, or_false] at hl
  rcases hl with rfl | rfl | rfl | rfl
  · refine Nat.le_trans (words_size (k := 10) fun w hw => ?_) (show (10 + 1) * 4 ≤ 9300 by decide)
    simp only [List.mem_cons, List.not_mem_nil, or_false] at hw
    rcases hw with rfl | rfl | rfl | rfl
    · decide
    · rw [bitL_len h.b]; decide
    · exact dec_le (k := 9) (by have := h.l.len; omega)
    · exact dec_le (k := 9) (by have := h.l.a1; omega)
  · exact Nat.le_trans h.t.size (by decide)
  · exact Nat.le_trans h.d.size (by decide)
  · have := smp_le h.l.bits
    have := h.l.len
    omega
def pipeW : List UInt8 := [112, 105, 112, 101]
def openW : List UInt8 := [111, 112, 101, 110]
def closW : List UInt8 := [99, 108, 111, 115, 101, 100]
def scatW : List UInt8 := [115, 99, 97, 116, 116, 101, 114]
def duo : List GRing → List GRing → List GRing
  | r :: rs, l :: ls => r :: l :: duo rs ls
  | _, _ => []
def GPipe.lines (x : GPipe) : List (List UInt8) :=
  wordsL (pipeW :: (if x.Open then openW else closW) :: [x.Loss, x.Rest, x.Slope].map bitL) :: wordsL (scatW :: x.Scatter.map bitL) :: x.End.line :: (duo x.Right x.Left).map GRing.line
structure PipeB (x : GPipe) : Prop where
  r : ∀ y ∈ x.Right, RingB y
  l : ∀ y ∈ x.Left, RingB y
  e : FiltB x.End
  n1 : 1 ≤ x.Right.length
  n3 : x.Right.length ≤ 3
  nl : x.Left.length = x.Right.length
  ns : x.Scatter.length + 1 = x.Right.length
  s : B32 x.Scatter
  b : B32 [x.Loss, x.Rest, x.Slope]
theorem duo_len : ∀ {a b : List GRing}, b.length = a.length → (duo a b).length = 2 * a.length
  | [], _, _ => by simp [duo]
  | r :: rs, [], h => by simp at h
  | r :: rs, l :: ls, h => by
    have := duo_len (a := rs) (b := ls) (by simpa using h)
    simp only [duo, List.length_cons, this]
    omega
theorem duo_mem : ∀ {a b : List GRing} {y : GRing}, y ∈ duo a b → y ∈ a ∨ y ∈ b
  | [], b, y, h => by simp [duo] at h
  | r :: rs, [], y, h => by simp [duo] at h
  | r :: rs, l :: ls, y, h => by
    simp only [duo, List.mem_cons] at h
    rcases h with rfl | rfl | h
    · exact .inl (List.mem_cons_self ..)
    · exact .inr (List.mem_cons_self ..)
    · rcases duo_mem h with h | h
      · exact .inl (List.mem_cons_of_mem _ h)
      · exact .inr (List.mem_cons_of_mem _ h)
theorem bits_word {ns : List Nat} (h : B32 ns) : ∀ w ∈ ns.map bitL, Word w := by
  intro w hw
  obtain ⟨n, hn, rfl⟩ := List.mem_map.mp hw
  exact word_bits (h n hn)
theorem PipeB.words0 {x : GPipe} (h : PipeB x) : ∀ w ∈ pipeW :: (if x.Open then openW else closW) :: [x.Loss, x.Rest, x.Slope].map bitL, Word w := by
  intro w hw
  rcases List.mem_cons.1 hw with rfl | hw
  · intro b hb
    have : ∀ b ∈ pipeW, b ≠ 32 ∧ b ≠ 10 := by decide
    exact this b hb
  rcases List.mem_cons.1 hw with rfl | hw
  · intro b hb
    have a1 : ∀ b ∈ openW, b ≠ 32 ∧ b ≠ 10 := by decide
    have a2 : ∀ b ∈ closW, b ≠ 32 ∧ b ≠ 10 := by decide
    split at hb
    · exact a1 b hb
    · exact a2 b hb
  exact bits_word h.b w hw
theorem PipeB.words1 {x : GPipe} (h : PipeB x) : ∀ w ∈ scatW :: x.Scatter.map bitL, Word w := by
  intro w hw
  rcases List.mem_cons.1 hw with rfl | hw
  · intro b hb
    have : ∀ b ∈ scatW, b ≠ 32 ∧ b ≠ 10 := by decide
    exact this b hb
  exact bits_word h.s w hw
theorem PipeB.ring {x : GPipe} (h : PipeB x) : ∀ y ∈ duo x.Right x.Left, RingB y := fun y hy => (duo_mem hy).elim (h.r y) (h.l y)
theorem PipeB.mem {x : GPipe} (h : PipeB x) : ∀ l ∈ x.lines, ∀ b ∈ l, b ≠ 10 := by
  intro l hl
  unfold GPipe.lines at hl
  rcases List.mem_cons.1 hl with rfl | hl
  · exact words_mem h.words0
  rcases List.mem_cons.1 hl with rfl | hl
  · exact words_mem h.words1
  rcases List.mem_cons.1 hl with rfl | hl
  · exact h.e.mem
  obtain ⟨y, hy, rfl⟩ := List.mem_map.1 hl
  exact (h.ring y hy).mem
theorem PipeB.cut {x : GPipe} (h : PipeB x) : cutL 10 (linL x.lines) = x.lines ++ [[]] := lin_cut h.mem
theorem PipeB.len {x : GPipe} (h : PipeB x) : x.lines.length = 2 * x.Right.length + 3 := by
  unfold GPipe.lines
  simp only [List.length_cons, List.length_map, duo_len h.nl]
theorem bits_len {ns : List Nat} (h : B32 ns) : ∀ w ∈ ns.map bitL, w.length ≤ 8 := by
  intro w hw
  obtain ⟨n, hn, rfl⟩ := List.mem_map.mp hw
  rw [bitL_len (h n hn)]
  decide
theorem PipeB.size {x : GPipe} (h : PipeB x) : (linL x.lines).length ≤ 90000 := by
  have e := h.len
  have n3 := h.n3
  refine Nat.le_trans (lin_size (k := 9300) fun l hl => ?_) (by rw [e]; omega)
  unfold GPipe.lines at hl
  rcases List.mem_cons.1 hl with rfl | hl
  · refine Nat.le_trans (words_size (k := 8) fun w hw => ?_) (show (8 + 1) * 5 ≤ 9300 by decide)
    rcases List.mem_cons.1 hw with rfl | hw
    · decide
    rcases List.mem_cons.1 hw with rfl | hw
    · split <;> decide
    exact bits_len h.b w hw
  rcases List.mem_cons.1 hl with rfl | hl
  · refine Nat.le_trans (words_size (k := 8) fun w hw => ?_) (by have := h.ns; simp only [List.length_cons, List.length_map]; omega)
    rcases List.mem_cons.1 hw with rfl | hw
    · decide
    exact bits_len h.s w hw
  rcases List.mem_cons.1 hl with rfl | hl
  · exact Nat.le_trans h.e.size (by decide)
  obtain ⟨y, hy, rfl⟩ := List.mem_map.1 hl
  exact (h.ring y hy).size
end Go.Sx
