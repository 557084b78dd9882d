/- Rings, filters and lines, told and read. -/
import Derived.Test.YtgbjfohgmpmjoaaGreatDoorLvj
import Derived.Test.YtgbjfohgmpmjoaaGreatDoorLk45
import Derived.Test.YtgbjfohgmpmjoaaGreatDoorLk43
import Derived.Test.YtgbjfohgmpmjoaaGreatDoorTab
import Derived.Test.YtgbjfohgmpmjoaaGreatDoorLk59
import Derived.Test.YtgbjfohgmpmjoaaGreatDoorK2
import Derived.Test.YtgbjfohgmpmjoaaGreatDoorLk60
import Derived.Test.YtgbjfohgmpmjoaaGreatDoorLk21
import Derived.Test.YtgbjfohgmpmjoaaGreatDoorLk13
import Derived.Test.YtgbjfohgmpmjoaaGreatDoorTailOf
import Derived.Test.YtgbjfohgmpmjoaaGreatDoorLv0
set_option linter.unusedVariables false
set_option linter.unusedSimpArgs false
namespace Go.Sx
open Go.Proofs
set_option maxRecDepth 100000
set_option maxHeartbeats 1000000

/-- What the texts of a program lean on. -/
structure Txt (h : Heap) : Prop where
  lb : Libs h
  br : Bru h
theorem Txt.ext {h h' : Heap} (T : Txt h) (X : Ext h h') : Txt h' := ⟨T.lb.ext X, T.br.ext X⟩
theorem decB_mk (n : Nat) : decB n = mkB (Lib.decDigits n) := rfl
theorem slr_drop {α : Type} {r : Rep α} {h : Heap} {b : Option Addr} {l c n : Nat} {xs : List α} (S : SlR r h b l c xs) (hn : n ≤ l) : SlR r h (slA b c n r.sz) (l - n) (c - n) (xs.drop n) := by
  obtain ⟨h1, h2, h3, ws, h4, h5⟩ := S
  refine ⟨by rw [List.length_drop, h1], by omega, by omega, ws.drop (n * r.sz), ?_, ?_⟩
  · refine h4.sub ?_
    rw [h5.len, h1]
    exact Nat.mul_le_mul_right _ h2
  · have key : ∀ (xs : List α) (ws : List Value) (n : Nat), rds r h ws xs → rds r h (ws.drop (n * r.sz)) (xs.drop n) := by
      intro xs
      induction xs with
      | nil => intro ws n e; rw [show ws = [] from e]; simp [rds]
      | cons x xs ih =>
        intro ws n e
        cases n with
        | zero => simpa using e
        | succ n =>
          obtain ⟨v1, v2, rfl, g1, g2⟩ := e
          have := ih v2 n g2
          rw [Nat.succ_mul, Nat.add_comm, ← List.drop_drop, List.drop_left' (r.rlen g1)]
          exact this
    exact key xs ws n h5
theorem strV_slr {h0 h : Heap} {L : List Blk} {g : Nat} {ls : List (List UInt8)} (M : Mem h0 h L) (l : Look L g (strV ls)) (hs : ∀ x ∈ ls, x.length ≤ maxLen) (hn : ls.length ≤ maxLen) : SlR rS h (some ⟨g, 0, none⟩) ls.length ls.length (ls.map mkB) := by
  refine ⟨by rw [List.length_map], Nat.le_refl _, hn, ls.map fun l => .string (mkB l), fun i hi => ⟨_, rfl, ?_⟩, ?_⟩
  · rw [add_none, M.cell l, Nat.zero_add]
    unfold strV
    rw [List.getElem?_toArray]
  · clear l hn
    induction ls with
    | nil => rfl
    | cons x r ih => exact ⟨[_], _, rfl, ⟨rfl, by rw [mk_size]; exact hs x (List.mem_cons_self ..)⟩, ih fun y hy => hs y (List.mem_cons_of_mem _ hy)⟩
section
variable {h0 h : Heap} {L : List Blk}
theorem readDec_ok {m : Nat} (T : Txt h) (hm : m < 1000000000) : CALL prg f_impl_readDecimal #[.string (mkB (Lib.decDigits m))] (fun u h' => u = .tuple ⟨[.int .i64 (m : Int), .bool true]⟩ ∧ Ext h h') h := by
  have hd := dec_le (n := m) (k := 8) hm
  refine (readDecimal_c T.lb (s := mkB (Lib.decDigits m)) (by rw [mk_size]; omega)).mono ?_
  rintro _ h1 ⟨v, ok, rfl, k, x1⟩
  obtain ⟨rfl, rfl⟩ := k m (by omega) rfl
  exact ⟨rfl, x1⟩
theorem FilterText_c {cs : Array Value} {f : GFilter} (R0 : rFilter.rd h cs.toList f) (hok : f.ok = true) (A : FiltA f) (T : Txt h) : CALL prg f_impl_FilterText #[.agg cs] (fun u h' => u = .string (mkB f.line) ∧ Ext h h') h := by
  have B := A.b
  have k0 := B.k0
  have k1 := B.k1
  have c3 := B.c3
  have s2 := B.s2
  have d1 := dec_le (n := f.Kind.toNat) (k := 1) (by omega)
  have sz := smp_le B.cb
  have sz2 := smp_le B.sb
  refine impl_FilterText.call (alcR R0 fun g h1 x1 R => R.lda1 rfl fun c1 R1 => goX (ValidFilter_c R1) fun h2 x2 => as_b ?_)
  rw [hok]
  have R := R.ext x2
  refine br_f rfl (R.oI1 (slb (by decide) (by decide) (by decide) (slb (by decide) (by decide) (by decide) ?_)))
  obtain ⟨k, hk⟩ : ∃ n : Nat, f.Kind = (n : Int) := ⟨f.Kind.toNat, by omega⟩
  rw [hk, Int.toNat_natCast] at d1
  rw [hk]
  have D := FormatInt_n (n := (k : Int)) (by omega) (by omega) (T.ext (x1.trans x2)).lb.tens
  rw [Lib.itoa_nonneg] at D
  refine goX D fun h3 x3 => as_s ?_
  have SC := ((R.ext x3).foc0 foc_Filter_C).arr (by decide)
  refine ⟨by simp only [ba_len, mk_size, List.length_cons, List.length_nil]; omega, by simp only [ba_len, mk_size, List.length_cons, List.length_nil]; omega, ?_⟩
  rw [slP_zero]
  refine goX (samplesText_c SC (by decide) (T.ext (x1.trans (x2.trans x3))).br) fun h4 x4 => as_s ⟨by simp only [ba_len, mk_size, List.length_cons, List.length_nil]; omega, by simp only [ba_len, mk_size, List.length_cons, List.length_nil]; omega, ?_⟩
  have SS := ((R.ext (x3.trans x4)).foc0 foc_Filter_S).arr (by decide)
  rw [slP_zero]
  refine goX (samplesText_c SS (by decide) (T.ext (x1.trans (x2.trans (x3.trans x4)))).br) fun h5 x5 => as_s ⟨by simp only [ba_len, mk_size, List.length_cons, List.length_nil]; omega, ?_, x1.trans (x2.trans (x3.trans (x4.trans x5)))⟩
  have e32 : (⟨#[32]⟩ : ByteArray) = mkB [32] := rfl
  have e7 : (⟨#[102, 105, 108, 116, 101, 114, 32]⟩ : ByteArray) = mkB (fwL ++ [32]) := rfl
  rw [e32, e7]
  simp only [mkB_app, List.append_assoc]
  unfold GFilter.line filtL
  rw [hk, Int.toNat_natCast]
  rfl
/-- The lines of a text. -/
theorem linesOf_ok {ls : List (List UInt8)} {m : Nat} {K : Value → Heap → Prop} (T : Txt h) (hn : ls.length = m) (hm : m ≤ 1000) (hl : ∀ l ∈ ls, ∀ b ∈ l, b ≠ 10) (hs : (linL ls).length ≤ 1048576) (M : Mem h0 h L)
    (H : ∀ g h', Ext h h' → Mem h0 h' ((g, T_string, strV (ls ++ [[]])) :: L) → K (.tuple ⟨[.slice (some ⟨g, 0, none⟩) m (m + 1), .bool true]⟩) h') : CALL prg f_impl_linesOf #[.string (mkB (linL ls)), .int .i64 (m : Int)] K h := by
  refine impl_linesOf.call (Split_c (c := 10) T.lb (by rw [mk_size]; omega) M fun g h1 x1 M => as_l ?_)
  rw [mkB_data, lin_cut hl] at M ⊢
  have el : (ls ++ [[]]).length = m + 1 := by rw [List.length_append, hn]; rfl
  rw [el, wrap64_succ (by omega)]
  refine br_f (by simp) (idxs (by omega) (by omega) ?_)
  rw [Int.toNat_natCast, add_none, Nat.mul_one, Nat.zero_add]
  refine M.oS .here (strV_get (by omega)) ?_
  have e0 : (ls ++ [[]])[m]! = [] := by
    rw [getElem!_pos _ m (by omega), List.getElem_append_right (by omega)]
    simp [hn]
  rw [e0]
  refine br_f (by simp) (slb (by omega) (by omega) (by omega) ?_)
  have es : slA (some ⟨g, 0, none⟩) (m + 1) 0 1 = some ⟨g, 0, none⟩ := by unfold slA; rw [if_neg (by omega)]; rfl
  rw [es]
  exact H g h1 x1 M
theorem map_bits (ns : List Nat) : (ns.map bitL).map mkB = bitsS ns := by rw [List.map_map]; rfl
end
end Go.Sx
/- Filters read; two numbers, filters and two rings of lines. -/
set_option linter.unusedVariables false
set_option linter.unusedSimpArgs false
namespace Go.Sx
open Go.Proofs
set_option maxRecDepth 100000
set_option maxHeartbeats 1000000

theorem cells_lda {h : Heap} {a : Addr} {ws : List Value} {n : Nat} {F : Array Value → Prop} (C : Cells h (some a) ws) (hn : n ≤ ws.length) (H : F ⟨ws.take n⟩) : LDA n h a F := by
  refine ⟨⟨ws.take n⟩, by simp; omega, fun i hi => ?_, H⟩
  rw [C.get (List.getElem?_eq_getElem (show i < ws.length by omega))]
  simp [List.getElem?_take_of_lt hi, show i < ws.length by omega]
theorem slA_0 (b : Option Addr) (c s : Nat) : slA b c 0 s = b := by
  unfold slA
  split
  · rfl
  · cases b with
    | none => rfl
    | some a => show some (a.add (0 * s)) = _; rw [Nat.zero_mul, add0]
theorem slA_n {a : Addr} {c n s : Nat} (h : n < c) : slA (some a) c n s = some (a.add (n * s)) := by
  unfold slA
  rw [if_neg (by omega)]; rfl
section
variable {h0 h : Heap} {L : List Blk}
theorem five {b : Option Addr} {l c c0 c1 c2 s0 s1 : Nat} (S : SlR (rF .f32) h b l c [c0, c1, c2, s0, s1]) : ∃ a y0 y1 y2 y3 y4, b = some a ∧ Cells h (some a) [.float .f32 y0, .float .f32 y1, .float .f32 y2, .float .f32 y3, .float .f32 y4] ∧
    FW .f32 y0 c0 ∧ FW .f32 y1 c1 ∧ FW .f32 y2 c2 ∧ FW .f32 y3 s0 ∧ FW .f32 y4 s1 := by
  obtain ⟨_, _, _, ws, C, w1, r1, e1, ⟨y0, rfl, f0⟩, w2, r2, e2, ⟨y1, rfl, f1⟩, w3, r3, e3, ⟨y2, rfl, f2⟩, w4, r4, e4, ⟨y3, rfl, f3⟩, w5, r5, e5, ⟨y4, rfl, f4⟩, e6⟩ := S
  have e6 : r5 = [] := e6
  subst e6 e5 e4 e3 e2 e1
  obtain ⟨a, rfl⟩ := C.base (by simp)
  exact ⟨a, y0, y1, y2, y3, y4, rfl, C, f0, f1, f2, f3, f4⟩
theorem is3 {α : Type} {l : List α} (h : l.length = 3) : ∃ a b c, l = [a, b, c] := by
  match l, h with
  | [a, b, c], _ => exact ⟨a, b, c, rfl⟩
theorem ParseInt_ok {m : Nat} (T : Txt h) (hm : m < 1000000000) : CALL prg f_strconv_ParseInt #[.string (mkB (Lib.decDigits m)), .int .i64 10, .int .i64 64] (fun u h' => u = .tuple ⟨[.int .i64 (m : Int), .nilIface]⟩ ∧ Ext h h') h := by
  have hd := dec_le (n := m) (k := 8) hm
  have hp : Lib.parseIntB 64 (mkB (Lib.decDigits m)).data.toList = .ok (m : Int) := by rw [mkB_data]; exact parse_dec (by omega)
  refine (ParseInt_c T.lb (s := mkB (Lib.decDigits m)) (by rw [mk_size]; omega)).mono ?_
  rintro _ h1 ⟨⟨v, e, rfl⟩ | ⟨v, t, x, e, rfl⟩, x1⟩
  · rw [hp] at e
    obtain rfl : (m : Int) = v := by injection e
    exact ⟨rfl, x1⟩
  · exact absurd hp (e _)
theorem ReadFilter_ok {f : GFilter} (hok : f.ok = true) (A : FiltA f) (T : Txt h) : CALL prg f_impl_ReadFilter #[.string (mkB f.line)] (fun u h' => ∃ cs : Array Value, u = .tuple ⟨[.agg cs, .int .i64 (0 : Int)]⟩ ∧ rFilter.ow [] cs.toList f ∧ Ext h h') h := by
  have B := A.b
  have k0 := B.k0
  have k1 := B.k1
  have sz := B.size
  have bc := B.cut
  obtain ⟨c0, c1, c2, hC⟩ := is3 A.c3
  obtain ⟨s0, s1, hS⟩ := is2 A.s2
  have hCS : f.C ++ f.S = [c0, c1, c2, s0, s1] := by rw [hC, hS]; rfl
  have ha : A32 (f.C ++ f.S) := fun a h => (List.mem_append.1 h).elim (A.ca a) (A.sa a)
  refine impl_ReadFilter.call ((Mem.start h).alc fun g1 h1 x1 M => Split_c (c := 32) (T.ext x1).lb (by rw [mk_size]; omega) M fun g h2 x2 M => as_l ?_)
  rw [mkB_data, bc] at M ⊢
  have el : (fwL :: Lib.decDigits f.Kind.toNat :: (f.C ++ f.S).map bitL).length = 7 := by rw [hCS]; rfl
  rw [el]
  refine br_f rfl (idxs (by omega) (by omega) ?_)
  rw [add_none]
  refine M.oS .here (strV_get (j := 1) (by omega)) ?_
  refine goM M (ParseInt_ok (T.ext M.ext) (m := f.Kind.toNat) (by omega)) fun h3 M => tup2 (as_i (slb (by omega) (by omega) (by omega) ?_))
  have S := strV_slr M .here (fun x hx => by
    have hm : (1048576 : Nat) ≤ maxLen := by decide
    simp only [List.mem_cons, List.mem_map] at hx
    rcases hx with rfl | rfl | ⟨n, hn, rfl⟩
    · have : fwL.length = 6 := rfl
      omega
    · have := dec_le (n := f.Kind.toNat) (k := 1) (by omega); omega
    · rw [bitL_len (ha n hn).lt]; omega) (by have hm : (1048576 : Nat) ≤ maxLen := by decide
                                             omega)
  have S2 := slr_drop S (n := 2) (by omega)
  rw [el] at S2
  have e2 : ((fwL :: Lib.decDigits f.Kind.toNat :: (f.C ++ f.S).map bitL).map mkB).drop 2 = bitsS (f.C ++ f.S) := map_bits _
  rw [e2] at S2
  refine (readSamples_ok S2 ha (by omega) (T.ext M.ext).br).mono ?_
  rintro _ h4 ⟨b', c', B', rfl, O, N⟩
  have M := (M.join N).cnt (W := (g1, T_impl_Filter, ⟨Z_impl_Filter⟩) :: B') (fun p => by simp only [List.append_eq, cnt_app, cnt_cons, cnt_nil] at *; omega)
  refine tup2 (as_l (as_b (cmp_ne_nn (br_f rfl (br_f rfl ?_)))))
  unfold impl_ReadFilter.J8
  rw [hCS] at O
  have S4 := O.look M (List.sublist_cons_self _ _)
  have hcap := S4.2.1
  obtain ⟨a, y0, y1, y2, y3, y4, rfl, C, f0, f1, f2, f3, f4⟩ := five S4
  have C3 : Cells h4 (some (a.add 3)) [.float .f32 y3, .float .f32 y4] := by
    have := C.sub (cap := c') (lo := 3) (sz := 1) (by simp; omega)
    rw [slA_n (by omega)] at this
    exact this
  refine slb (by omega) (by omega) (by omega) ?_
  rw [slA_0]
  refine ⟨by omega, cells_lda C (by simp) (slb (by omega) (by omega) (by omega) ?_)⟩
  have e3 : slA (some a) c' 3 1 = some (a.add 3) := slA_n (by omega)
  rw [e3]
  refine ⟨by omega, cells_lda C3 (by simp) (siz rfl (siz rfl (M.alc fun g5 h5 x5 M => ?_)))⟩
  refine pin x5 (fun j hj => ?_) (pin x5 (fun j hj => ?_) ?_)
  · obtain ⟨_, e, e2⟩ := C3 j (by simpa using hj)
    cases e
    rw [List.getElem?_eq_getElem (by simpa using hj)] at e2
    exact ⟨_, e2⟩
  · obtain ⟨_, e, e2⟩ := C j (by simp; omega)
    cases e
    rw [List.getElem?_eq_getElem (by simp; omega)] at e2
    exact ⟨_, e2⟩
  have OF : rFilter.ow [] (flC (f.Kind.toNat : Int) y0 y1 y2 y3 y4) f := by
    have := filter_ow (k := (f.Kind.toNat : Int)) f0 f1 f2 f3 f4
    rw [← hC, ← hS, Int.toNat_of_nonneg (by omega)] at this
    rw [Int.toNat_of_nonneg (by omega)]
    exact this
  refine M.sta0 (vs := ⟨flC (f.Kind.toNat : Int) y0 y1 y2 y3 y4⟩) .here rfl (all_one rfl) rfl .here fun h6 M => M.lda0 .here rfl ?_
  have RF : rFilter.rd h6 (⟨flC (f.Kind.toNat : Int) y0 y1 y2 y3 y4⟩ : Array Value).toList f := rFilter.look OF (Mem.start h6) (List.Sublist.refl _)
  refine goM M (FilterText_c RF hok A (T.ext M.ext)) fun h7 M => as_s (br_f (by simp) ?_)
  refine M.lda0 .here rfl (M.sta0 (.there .here) rfl (all_one rfl) rfl (.there .here) fun h8 M => M.lda0 (.there .here) rfl ⟨_, rfl, OF, M.ext⟩)
end
end Go.Sx
/- What is told of strings, pipes and rooms, line by line. -/
set_option linter.unusedVariables false
set_option linter.unusedSimpArgs false
namespace Go.Sx
open Go.Proofs Go.RowKit
set_option maxRecDepth 100000
set_option maxHeartbeats 1000000

/-- A word without blanks and new lines. -/
def Word (w : List UInt8) : Prop := ∀ b ∈ w, b ≠ 32 ∧ b ≠ 10
theorem word_dec (n : Nat) : Word (Lib.decDigits n) := fun b hb => ⟨dec_no n (.inl (by decide)) b hb, dec_no n (.inl (by decide)) b hb⟩
theorem word_bits {n : Nat} (h : n < 4294967296) : Word (bitL n) := fun b hb => ⟨bitL_ne h (by decide) b hb, bitL_ne h (by decide) b hb⟩
/-- Words in a line. -/
def wordsL (ws : List (List UInt8)) : List UInt8 := Lib.join ws [32]
theorem words_cut {w : List UInt8} {r : List (List UInt8)} (h : ∀ x ∈ w :: r, Word x) : cutL 32 (wordsL (w :: r)) = w :: r := cut_join w r fun y hy b hb => (h y hy b hb).1
theorem words_mem {ws : List (List UInt8)} (h : ∀ x ∈ ws, Word x) : ∀ b ∈ wordsL ws, b ≠ 10 := by
  intro b hb e
  rcases join_mem ws hb with k | ⟨x, hx, k⟩
  · rw [e] at k; exact absurd k (by decide)
  · exact (h x hx b k).2 e
theorem words_size {k : Nat} : ∀ {ws : List (List UInt8)}, (∀ x ∈ ws, x.length ≤ k) → (wordsL ws).length ≤ (k + 1) * ws.length
  | [], _ => by unfold wordsL; rw [Lib.join_nil]; exact Nat.zero_le _
  | [x], h => by
    have := h x (List.mem_cons_self ..)
    unfold wordsL
    rw [Lib.join_one]
    simp only [List.length_cons, List.length_nil]
    omega
  | x :: y :: r, h => by
    have h1 := h x (List.mem_cons_self ..)
    have h2 : (wordsL (y :: r)).length ≤ _ := words_size fun z hz => h z (List.mem_cons_of_mem _ hz)
    unfold wordsL at h2 ⊢
    rw [join_two, List.length_append, List.length_cons, List.length_cons, Nat.mul_succ]
    omega
theorem words_one (w : List UInt8) : wordsL [w] = w := Lib.join_one _ _
theorem words_cons (w : List UInt8) (x : List UInt8) (r : List (List UInt8)) : wordsL (w :: x :: r) = w ++ 32 :: wordsL (x :: r) := join_two w x r 32
theorem smp_words (ns : List Nat) : smpL ns = wordsL (ns.map bitL) := rfl
def strW : List UInt8 := [115, 116, 114, 105, 110, 103]
def GString.lines (x : GString) : List (List UInt8) :=
  [wordsL [strW, bitL x.Loss, Lib.decDigits x.Loop.Samples.length, Lib.decDigits x.Loop.At.toNat], x.Tune.line, x.Damp.line, smpL x.Loop.Samples]
structure StrB (x : GString) : Prop where
  l : RingB x.Loop
  t : FiltB x.Tune
  d : FiltB x.Damp
  b : x.Loss < 4294967296
theorem StrB.words {x : GString} (h : StrB x) : ∀ w ∈ [strW, bitL x.Loss, Lib.decDigits x.Loop.Samples.length, Lib.decDigits x.Loop.At.toNat], Word w := by
  intro w hw
  simp only [List.mem_cons, List.not_mem_nil, or_false] at hw
  rcases hw with rfl | rfl | rfl | rfl
  · intro b hb
    have : ∀ b ∈ strW, b ≠ 32 ∧ b ≠ 10 := by decide
    exact this b hb
  · exact word_bits h.b
  · exact word_dec _
  · exact word_dec _
theorem StrB.mem {x : GString} (h : StrB x) : ∀ l ∈ x.lines, ∀ b ∈ l, b ≠ 10 := by
  intro l hl
  simp only [GString.lines, List.mem_cons, List.not_mem_nil, or_false] at hl
  rcases hl with rfl | rfl | rfl | rfl
  · exact words_mem h.words
  · exact h.t.mem
  · exact h.d.mem
  · exact smp_mem h.l.bits
theorem StrB.cut {x : GString} (h : StrB x) : cutL 10 (linL x.lines) = x.lines ++ [[]] := lin_cut h.mem
theorem StrB.size {x : GString} (h : StrB x) : (linL x.lines).length ≤ 37204 := by
  refine lin_size (k := 9300) fun l hl => ?_
  simp only [GString.lines, List.mem_cons, List.not_mem_nil, or_false] at hl
  rcases hl with rfl | rfl | rfl | rfl
  · refine Nat.le_trans (words_size (k := 10) fun w hw => ?_) (show (10 + 1) * 4 ≤ 9300 by decide)
    simp only [List.mem_cons, List.not_mem_nil, or_false] at hw
    rcases hw with rfl | rfl | rfl | rfl
    · decide
    · rw [bitL_len h.b]; decide
    · exact dec_le (k := 9) (by have := h.l.len; omega)
    · exact dec_le (k := 9) (by have := h.l.a1; omega)
  · exact Nat.le_trans h.t.size (by decide)
  · exact Nat.le_trans h.d.size (by decide)
  · have := smp_le h.l.bits
    have := h.l.len
    omega
def pipeW : List UInt8 := [112, 105, 112, 101]
def openW : List UInt8 := [111, 112, 101, 110]
def closW : List UInt8 := [99, 108, 111, 115, 101, 100]
def scatW : List UInt8 := [115, 99, 97, 116, 116, 101, 114]
def duo : List GRing → List GRing → List GRing
  | r :: rs, l :: ls => r :: l :: duo rs ls
  | _, _ => []
def GPipe.lines (x : GPipe) : List (List UInt8) :=
  wordsL (pipeW :: (if x.Open then openW else closW) :: [x.Loss, x.Rest, x.Slope].map bitL) :: wordsL (scatW :: x.Scatter.map bitL) :: x.End.line :: (duo x.Right x.Left).map GRing.line
structure PipeB (x : GPipe) : Prop where
  r : ∀ y ∈ x.Right, RingB y
  l : ∀ y ∈ x.Left, RingB y
  e : FiltB x.End
  n1 : 1 ≤ x.Right.length
  n3 : x.Right.length ≤ 3
  nl : x.Left.length = x.Right.length
  ns : x.Scatter.length + 1 = x.Right.length
  s : B32 x.Scatter
  b : B32 [x.Loss, x.Rest, x.Slope]
theorem duo_len : ∀ {a b : List GRing}, b.length = a.length → (duo a b).length = 2 * a.length
  | [], _, _ => by simp [duo]
  | r :: rs, [], h => by simp at h
  | r :: rs, l :: ls, h => by
    have := duo_len (a := rs) (b := ls) (by simpa using h)
    simp only [duo, List.length_cons, this]
    omega
theorem duo_mem : ∀ {a b : List GRing} {y : GRing}, y ∈ duo a b → y ∈ a ∨ y ∈ b
  | [], b, y, h => by simp [duo] at h
  | r :: rs, [], y, h => by simp [duo] at h
  | r :: rs, l :: ls, y, h => by
    simp only [duo, List.mem_cons] at h
    rcases h with rfl | rfl | h
    · exact .inl (List.mem_cons_self ..)
    · exact .inr (List.mem_cons_self ..)
    · rcases duo_mem h with h | h
      · exact .inl (List.mem_cons_of_mem _ h)
      · exact .inr (List.mem_cons_of_mem _ h)
theorem bits_word {ns : List Nat} (h : B32 ns) : ∀ w ∈ ns.map bitL, Word w := by
  intro w hw
  obtain ⟨n, hn, rfl⟩ := List.mem_map.mp hw
  exact word_bits (h n hn)
theorem PipeB.words0 {x : GPipe} (h : PipeB x) : ∀ w ∈ pipeW :: (if x.Open then openW else closW) :: [x.Loss, x.Rest, x.Slope].map bitL, Word w := by
  intro w hw
  rcases List.mem_cons.1 hw with rfl | hw
  · intro b hb
    have : ∀ b ∈ pipeW, b ≠ 32 ∧ b ≠ 10 := by decide
    exact this b hb
  rcases List.mem_cons.1 hw with rfl | hw
  · intro b hb
    have a1 : ∀ b ∈ openW, b ≠ 32 ∧ b ≠ 10 := by decide
    have a2 : ∀ b ∈ closW, b ≠ 32 ∧ b ≠ 10 := by decide
    split at hb
    · exact a1 b hb
    · exact a2 b hb
  exact bits_word h.b w hw
theorem PipeB.words1 {x : GPipe} (h : PipeB x) : ∀ w ∈ scatW :: x.Scatter.map bitL, Word w := by
  intro w hw
  rcases List.mem_cons.1 hw with rfl | hw
  · intro b hb
    have : ∀ b ∈ scatW, b ≠ 32 ∧ b ≠ 10 := by decide
    exact this b hb
  exact bits_word h.s w hw
theorem PipeB.ring {x : GPipe} (h : PipeB x) : ∀ y ∈ duo x.Right x.Left, RingB y := fun y hy => (duo_mem hy).elim (h.r y) (h.l y)
theorem PipeB.mem {x : GPipe} (h : PipeB x) : ∀ l ∈ x.lines, ∀ b ∈ l, b ≠ 10 := by
  intro l hl
  unfold GPipe.lines at hl
  rcases List.mem_cons.1 hl with rfl | hl
  · exact words_mem h.words0
  rcases List.mem_cons.1 hl with rfl | hl
  · exact words_mem h.words1
  rcases List.mem_cons.1 hl with rfl | hl
  · exact h.e.mem
  obtain ⟨y, hy, rfl⟩ := List.mem_map.1 hl
  exact (h.ring y hy).mem
theorem PipeB.cut {x : GPipe} (h : PipeB x) : cutL 10 (linL x.lines) = x.lines ++ [[]] := lin_cut h.mem
theorem PipeB.len {x : GPipe} (h : PipeB x) : x.lines.length = 2 * x.Right.length + 3 := by
  unfold GPipe.lines
  simp only [List.length_cons, List.length_map, duo_len h.nl]
theorem bits_len {ns : List Nat} (h : B32 ns) : ∀ w ∈ ns.map bitL, w.length ≤ 8 := by
  intro w hw
  obtain ⟨n, hn, rfl⟩ := List.mem_map.mp hw
  rw [bitL_len (h n hn)]
  decide
theorem PipeB.size {x : GPipe} (h : PipeB x) : (linL x.lines).length ≤ 90000 := by
  have e := h.len
  have n3 := h.n3
  refine Nat.le_trans (lin_size (k := 9300) fun l hl => ?_) (by rw [e]; omega)
  unfold GPipe.lines at hl
  rcases List.mem_cons.1 hl with rfl | hl
  · refine Nat.le_trans (words_size (k := 8) fun w hw => ?_) (show (8 + 1) * 5 ≤ 9300 by decide)
    rcases List.mem_cons.1 hw with rfl | hw
    · decide
    rcases List.mem_cons.1 hw with rfl | hw
    · split <;> decide
    exact bits_len h.b w hw
  rcases List.mem_cons.1 hl with rfl | hl
  · refine Nat.le_trans (words_size (k := 8) fun w hw => ?_) (by have := h.ns; simp only [List.length_cons, List.length_map]; omega)
    rcases List.mem_cons.1 hw with rfl | hw
    · decide
    exact bits_len h.s w hw
  rcases List.mem_cons.1 hl with rfl | hl
  · exact Nat.le_trans h.e.size (by decide)
  obtain ⟨y, hy, rfl⟩ := List.mem_map.1 hl
  exact (h.ring y hy).size
end Go.Sx
/- Jets played by the rule, played as a block, muted; samples drawn. -/
set_option linter.unusedVariables false
set_option linter.unusedSimpArgs false
namespace Go.Sx
open Go.Proofs
set_option maxRecDepth 100000
set_option maxHeartbeats 2000000

section
variable {α : Type} {st : α → Nat → α × Nat} {x : α} {xs : List Nat}
def gN (st : α → Nat → α × Nat) (x : α) (xs : List Nat) (n : Nat) : α := (playG st x (xs.take n)).1
def outN (st : α → Nat → α × Nat) (x : α) (xs : List Nat) (n : Nat) : Nat := (st (gN st x xs n) xs[n]!).2
theorem gN_step {n : Nat} (hn : n < xs.length) : gN st x xs (n + 1) = (st (gN st x xs n) xs[n]!).1 := by
  unfold gN
  rw [playG_step hn]
theorem gN_all (h : xs.length = 16) : gN st x xs 16 = (playG st x xs).1 := by
  unfold gN
  rw [← h, List.take_length]
theorem playG_len' (st : α → Nat → α × Nat) : ∀ (l : List Nat) (x : α), (playG st x l).2.length = l.length
  | [], _ => rfl
  | a :: l, x => by simp only [playG, List.length_cons]; rw [playG_len' st l]
theorem playG_take (n : Nat) : (playG st x (xs.take n)).2 = (playG st x xs).2.take n := by
  by_cases h : n ≤ xs.length
  · conv => rhs; rw [← List.take_append_drop n xs, playG_append]
    rw [List.take_left' (by rw [playG_len', List.length_take]; omega)]
  · rw [List.take_of_length_le (show xs.length ≤ n by omega), List.take_of_length_le (by rw [playG_len']; omega)]
theorem outN_all (h : xs.length = 16) : mapI (outN st x xs) zeros16 16 = (playG st x xs).2 := by
  have hz : zeros16.length = 16 := rfl
  rw [mapI_all (by rw [hz]; decide), hz]
  have key : ∀ n, n ≤ 16 → (List.range n).map (outN st x xs) = (playG st x xs).2.take n := by
    intro n
    induction n with
    | zero => intro _; rfl
    | succ n ih =>
      intro hn
      rw [List.range_succ, List.map_append, ih (by omega), ← playG_take, ← playG_take, playG_step (by omega)]
      rfl
  rw [key 16 (by omega), List.take_of_length_le (by rw [playG_len']; omega)]
end
def TriB {α : Type} (r : Rep α) (h h' : Heap) (u : Value) (x : α) (ys : List Nat) : Prop := ∃ cs B cb, u = .tuple ⟨[.agg cs, .agg cb, .int .i64 (0 : Int)]⟩ ∧ r.ow B cs.toList x ∧ FA 16 cb ys ∧ Mem h h' B
theorem is3' {α : Type} {l : List α} (h : l.length = 3) : ∃ a b c, l = [a, b, c] := by
  match l, h with
  | [a, b, c], _ => exact ⟨a, b, c, rfl⟩
section
variable {h0 h : Heap} {L : List Blk} {g : Nat} {x : GJet} {b cb : Option Addr} {l c cc : Nat} {xs : List Nat} {cs : Array Value} {bs : List Int}
/-- A ring muted whose slice is not one's own. -/
theorem mute_raw {T off n c : Nat} {b : Option Addr} {cs : Array Value} {K : Value → Heap → Prop} (M : Mem h0 h ((g, T, cs) :: L)) (hc : cs[off]? = some (.slice b n c)) (hn : n ≤ 1048576)
    (H : ∀ h' g' B, SlO T_float32 (rF .f32) B (some ⟨g', 0, none⟩) n n (List.replicate n 0) → Mem h0 h' ((g, T, cs.setIfInBounds off (.slice (some ⟨g', 0, none⟩) n n)) :: (B ++ L)) → K (.tuple ⟨[]⟩) h') : CALL prg f_p_impl_Ring_mute #[.pointer (some ⟨g, off, none⟩)] K h := by
  have ho : off < cs.size := by
    rcases Nat.lt_or_ge off cs.size with k | k
    · exact k
    · rw [Array.getElem?_eq_none k] at hc; cases hc
  refine p_impl_Ring_mute.call (M.oL .here hc (make_floats M hn fun g2 h2 x2 M2 O => M2.st1 (.there .here) ho (.there .here) fun h3 M3 => H h3 g2 _ O (M3.cnt fun p => by simp only [cnt_app, cnt_cons, cnt_nil]; omega)))
/-- A filter's cells with no state. -/
def flZ (v : Int × Nat × Nat × Nat × Nat × Nat) : Int × Nat × Nat × Nat × Nat × Nat := (v.1, v.2.1, v.2.2.1, v.2.2.2.1, 0, 0)
theorem filter_mute {v : Int × Nat × Nat × Nat × Nat × Nat} {f : GFilter} (O : rFilter.ow [] (flT v) f) : rFilter.ow [] (flT (flZ v)) f.mute := by
  have R : rFilter.rd #[] (flT v) f := rFilter.look O (Mem.start #[]) (List.Sublist.refl _)
  obtain ⟨v1, r1, e1, e2, v2, v3, rfl, ⟨l2, R2⟩, ⟨l3, R3⟩⟩ := R
  have e2 : v1 = [.int .i64 f.Kind] := e2
  have l2 : f.C.length = 3 := l2
  subst e2
  obtain ⟨a, b, c, hC⟩ := is3' l2
  have R2 : rds (rF .f32) #[] v2 f.C := R2
  rw [hC] at R2
  obtain ⟨w1, u1, k1, ⟨y0, rfl, f0⟩, w2, u2, k2, ⟨y1, rfl, f1⟩, w3, u3, k3, ⟨y2, rfl, f2⟩, k4⟩ := R2
  have k4 : u3 = [] := k4
  subst k4 k3 k2 k1
  have e1 : flC v.1 v.2.1 v.2.2.1 v.2.2.2.1 v.2.2.2.2.1 v.2.2.2.2.2 = [.int .i64 f.Kind] ++ ([.float .f32 y0] ++ ([.float .f32 y1] ++ ([.float .f32 y2] ++ [])) ++ v3) := e1
  simp only [flC, List.cons_append, List.nil_append, List.cons.injEq, Value.int.injEq, Value.float.injEq, true_and] at e1
  obtain ⟨g1, g2, g3, g4, _⟩ := e1
  have := filter_ow (k := f.Kind) f0 f1 f2 fw0 fw0
  rw [← hC] at this
  unfold flT flZ
  rw [g1, g2, g3, g4]
  exact this
end
end Go.Sx
