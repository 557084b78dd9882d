/- Rings, filters and lines, told and read. -/
import Derived.Test.YteahcankljndlaaGreatDoorTB
import Derived.Test.YteahcankljndlaaGreatDoorLk34
import Derived.Test.YteahcankljndlaaGreatDoorTL
import Derived.Test.YteahcankljndlaaGreatDoorTab
set_option linter.unusedVariables false
set_option linter.unusedSimpArgs false
namespace Go.Sx
open Go.Proofs
set_option maxRecDepth 100000
set_option maxHeartbeats 1000000

/-- What the texts of a program lean on. -/
structure Txt (h : Heap) : Prop where
  lb : Libs h
  br : Bru h
theorem Txt.ext {h h' : Heap} (T : Txt h) (X : Ext h h') : Txt h' := ⟨T.lb.ext X, T.br.ext X⟩
theorem decB_mk (n : Nat) : decB n = mkB (Lib.decDigits n) := rfl
theorem slr_drop {α : Type} {r : Rep α} {h : Heap} {b : Option Addr} {l c n : Nat} {xs : List α} (S : SlR r h b l c xs) (hn : n ≤ l) : SlR r h (slA b c n r.sz) (l - n) (c - n) (xs.drop n) := by
  obtain ⟨h1, h2, h3, ws, h4, h5⟩ := S
  refine ⟨by rw [List.length_drop, h1], by omega, by omega, ws.drop (n * r.sz), ?_, ?_⟩
  · refine h4.sub ?_
    rw [h5.len, h1]
    exact Nat.mul_le_mul_right _ h2
  · have key : ∀ (xs : List α) (ws : List Value) (n : Nat), rds r h ws xs → rds r h (ws.drop (n * r.sz)) (xs.drop n) := by
      intro xs
      induction xs with
      | nil => intro ws n e; rw [show ws = [] from e]; simp [rds]
      | cons x xs ih =>
        intro ws n e
        cases n with
        | zero => simpa using e
        | succ n =>
          obtain ⟨v1, v2, rfl, g1, g2⟩ := e
          have := ih v2 n g2
          rw [Nat.succ_mul, Nat.add_comm, ← List.drop_drop, List.drop_left' (r.rlen g1)]
          exact this
    exact key xs ws n h5
theorem strV_slr {h0 h : Heap} {L : List Blk} {g : Nat} {ls : List (List UInt8)} (M : Mem h0 h L) (l : Look L g (strV ls)) (hs : ∀ x ∈ ls, x.length ≤ maxLen) (hn : ls.length ≤ maxLen) : SlR rS h (some ⟨g, 0, none⟩) ls.length ls.length (ls.map mkB) := by
  refine ⟨by rw [List.length_map], Nat.le_refl _, hn, ls.map fun l => .string (mkB l), fun i hi => ⟨_, rfl, ?_⟩, ?_⟩
  · rw [add_none, M.cell l, Nat.zero_add]
    unfold strV
    rw [List.getElem?_toArray]
  · clear l hn
    induction ls with
    | nil => rfl
    | cons x r ih => exact ⟨[_], _, rfl, ⟨rfl, by rw [mk_size]; exact hs x (List.mem_cons_self ..)⟩, ih fun y hy => hs y (List.mem_cons_of_mem _ hy)⟩
section
variable {h0 h : Heap} {L : List Blk}
theorem readDec_ok {m : Nat} (T : Txt h) (hm : m < 1000000000) : CALL prg f_impl_readDecimal #[.string (mkB (Lib.decDigits m))] (fun u h' => u = .tuple ⟨[.int .i64 (m : Int), .bool true]⟩ ∧ Ext h h') h := by
  have hd := dec_le (n := m) (k := 8) hm
  refine (readDecimal_c T.lb (s := mkB (Lib.decDigits m)) (by rw [mk_size]; omega)).mono ?_
  rintro _ h1 ⟨v, ok, rfl, k, x1⟩
  obtain ⟨rfl, rfl⟩ := k m (by omega) rfl
  exact ⟨rfl, x1⟩
theorem ringText_c {cs : Array Value} {r : GRing} (R0 : rRing.rd h cs.toList r) (A : RingA r) (T : Txt h) : CALL prg f_impl_ringText #[.agg cs] (fun u h' => u = .string (mkB r.line) ∧ Ext h h') h := by
  have B := A.b
  have hl := B.len
  have a0 := B.a0
  have a1 := B.a1
  have d1 := dec_le (n := r.Samples.length) (k := 9) (by omega)
  have d2 := dec_le (n := r.At.toNat) (k := 9) (by omega)
  have sz := smp_le B.bits
  refine impl_ringText.call (alcR R0 fun g h1 x1 R => R.oL1 fun b l c S => R.oI2 (R.oL1 fun b' l' c' S' => ?_))
  obtain rfl := S.len
  have el' := S'.len
  refine goX (length_f32_c _ _ _ _) fun h2 x2 => as_i ?_
  have P0 : ∀ (j : Nat) {hh : Heap} {p : Prop}, j + 1 ≤ rRing.sz → Ext h1 hh → p → PIN h1 ⟨g, j, none⟩ 1 hh p := fun j {hh p} hj X H => by
    have q1 := R.pinO (off := j) (n := 1) hj X H
    rwa [add_g] at q1
  have P1 : ∀ {hh : Heap} {p : Prop}, Ext h1 hh → p → PIN h1 ⟨g, 0, none⟩ 1 hh p := fun X H => P0 0 (by decide) X H
  have P2 : ∀ {hh : Heap} {p : Prop}, Ext h1 hh → p → PIN h1 ⟨g, 0, none⟩ 1 hh (PIN h1 ⟨g, 1, none⟩ 1 hh p) := fun X H => P0 0 (by decide) X (P0 1 (by decide) X H)
  refine P2 x2 (goX (decimal_c (m := r.Samples.length) (by omega) (T.ext (x1.trans x2)).lb.tens) fun h3 x3 => as_s (P2 (x2.trans x3) ?_))
  rw [decB_mk]
  refine ⟨by simp only [ba_len, mk_size, List.length_cons, List.length_nil]; omega, ?_⟩
  obtain ⟨at_, hat⟩ : ∃ n : Nat, r.At = (n : Int) := ⟨r.At.toNat, by omega⟩
  rw [hat] at d2 ⊢
  rw [Int.toNat_natCast] at d2
  refine goX (decimal_c (m := at_) (by omega) (T.ext (x1.trans (x2.trans x3))).lb.tens) fun h4 x4 => as_s (P1 (x2.trans (x3.trans x4)) ?_)
  rw [decB_mk]
  refine ⟨by simp only [ba_len, mk_size, List.length_cons, List.length_nil]; omega, by simp only [ba_len, mk_size, List.length_cons, List.length_nil]; omega, ?_⟩
  refine goX (samplesText_c (S'.ext (x2.trans (x3.trans x4))) (by omega) (T.ext (x1.trans (x2.trans (x3.trans x4)))).br) fun h5 x5 => as_s ⟨by simp only [ba_len, mk_size, List.length_cons, List.length_nil]; omega, ?_, x1.trans (x2.trans (x3.trans (x4.trans x5)))⟩
  have e32 : (⟨#[32]⟩ : ByteArray) = mkB [32] := rfl
  rw [e32]
  simp only [mkB_app, List.append_assoc]
  unfold GRing.line ringL
  rw [hat, Int.toNat_natCast]
  rfl
theorem FilterText_c {cs : Array Value} {f : GFilter} (R0 : rFilter.rd h cs.toList f) (hok : f.ok = true) (A : FiltA f) (T : Txt h) : CALL prg f_impl_FilterText #[.agg cs] (fun u h' => u = .string (mkB f.line) ∧ Ext h h') h := by
  have B := A.b
  have k0 := B.k0
  have k1 := B.k1
  have c3 := B.c3
  have s2 := B.s2
  have d1 := dec_le (n := f.Kind.toNat) (k := 1) (by omega)
  have sz := smp_le B.cb
  have sz2 := smp_le B.sb
  refine impl_FilterText.call (alcR R0 fun g h1 x1 R => R.lda1 rfl fun c1 R1 => goX (ValidFilter_c R1) fun h2 x2 => as_b ?_)
  rw [hok]
  have R := R.ext x2
  refine br_f rfl (R.oI1 (slb (by decide) (by decide) (by decide) (slb (by decide) (by decide) (by decide) ?_)))
  obtain ⟨k, hk⟩ : ∃ n : Nat, f.Kind = (n : Int) := ⟨f.Kind.toNat, by omega⟩
  rw [hk, Int.toNat_natCast] at d1
  rw [hk]
  have D := FormatInt_n (n := (k : Int)) (by omega) (by omega) (T.ext (x1.trans x2)).lb.tens
  rw [Lib.itoa_nonneg] at D
  refine goX D fun h3 x3 => as_s ?_
  have SC := ((R.ext x3).foc0 foc_Filter_C).arr (by decide)
  refine ⟨by simp only [ba_len, mk_size, List.length_cons, List.length_nil]; omega, by simp only [ba_len, mk_size, List.length_cons, List.length_nil]; omega, ?_⟩
  rw [slP_zero]
  refine goX (samplesText_c SC (by decide) (T.ext (x1.trans (x2.trans x3))).br) fun h4 x4 => as_s ⟨by simp only [ba_len, mk_size, List.length_cons, List.length_nil]; omega, by simp only [ba_len, mk_size, List.length_cons, List.length_nil]; omega, ?_⟩
  have SS := ((R.ext (x3.trans x4)).foc0 foc_Filter_S).arr (by decide)
  rw [slP_zero]
  refine goX (samplesText_c SS (by decide) (T.ext (x1.trans (x2.trans (x3.trans x4)))).br) fun h5 x5 => as_s ⟨by simp only [ba_len, mk_size, List.length_cons, List.length_nil]; omega, ?_, x1.trans (x2.trans (x3.trans (x4.trans x5)))⟩
  have e32 : (⟨#[32]⟩ : ByteArray) = mkB [32] := rfl
  have e7 : (⟨#[102, 105, 108, 116, 101, 114, 32]⟩ : ByteArray) = mkB (fwL ++ [32]) := rfl
  rw [e32, e7]
  simp only [mkB_app, List.append_assoc]
  unfold GFilter.line filtL
  rw [hk, Int.toNat_natCast]
  rfl
/-- The lines of a text. -/
theorem linesOf_ok {ls : List (List UInt8)} {m : Nat} {K : Value → Heap → Prop} (T : Txt h) (hn : ls.length = m) (hm : m ≤ 1000) (hl : ∀ l ∈ ls, ∀ b ∈ l, b ≠ 10) (hs : (linL ls).length ≤ 1048576) (M : Mem h0 h L)
    (H : ∀ g h', Ext h h' → Mem h0 h' ((g, T_string, strV (ls ++ [[]])) :: L) → K (.tuple ⟨[.slice (some ⟨g, 0, none⟩) m (m + 1), .bool true]⟩) h') : CALL prg f_impl_linesOf #[.string (mkB (linL ls)), .int .i64 (m : Int)] K h := by
  refine impl_linesOf.call (Split_c (c := 10) T.lb (by rw [mk_size]; omega) M fun g h1 x1 M => as_l ?_)
  rw [mkB_data, lin_cut hl] at M ⊢
  have el : (ls ++ [[]]).length = m + 1 := by rw [List.length_append, hn]; rfl
  rw [el, wrap64_succ (by omega)]
  refine br_f (by simp) (idxs (by omega) (by omega) ?_)
  rw [Int.toNat_natCast, add_none, Nat.mul_one, Nat.zero_add]
  refine M.oS .here (strV_get (by omega)) ?_
  have e0 : (ls ++ [[]])[m]! = [] := by
    rw [getElem!_pos _ m (by omega), List.getElem_append_right (by omega)]
    simp [hn]
  rw [e0]
  refine br_f (by simp) (slb (by omega) (by omega) (by omega) ?_)
  have es : slA (some ⟨g, 0, none⟩) (m + 1) 0 1 = some ⟨g, 0, none⟩ := by unfold slA; rw [if_neg (by omega)]; rfl
  rw [es]
  exact H g h1 x1 M
theorem map_bits (ns : List Nat) : (ns.map bitL).map mkB = bitsS ns := by rw [List.map_map]; rfl
theorem readRing_ok {r : GRing} (A : RingA r) (T : Txt h) : CALL prg f_impl_readRing #[.string (mkB r.line)] (fun u h' => ∃ b l c B, u = .tuple ⟨[.agg ⟨[.slice b l c, .int .i64 r.At]⟩, .bool true]⟩ ∧ SlO T_float32 (rF .f32) B b l c r.Samples ∧ Mem h h' B) h := by
  have B := A.b
  have hl := B.len
  have a0 := B.a0
  have a1 := B.a1
  have sz := B.size
  have bc := B.cut
  have hne : 1 ≤ r.Samples.length := List.length_pos_iff.2 B.ne
  refine impl_readRing.call ((Mem.start h).alc fun g1 h1 x1 M => Split_c (c := 32) (T.ext x1).lb (by rw [mk_size]; omega) M fun g h2 x2 M => as_l ?_)
  rw [mkB_data, bc] at M ⊢
  have el : (Lib.decDigits r.Samples.length :: Lib.decDigits r.At.toNat :: r.Samples.map bitL).length = r.Samples.length + 2 := by simp
  have T2 := T.ext M.ext
  rw [el]
  refine br_f (by rw [decide_eq_false_iff_not]; omega) (idxs (by omega) (by omega) ?_)
  refine M.oS .here (j := 0) (strV_get (j := 0) (by omega)) ?_
  refine goM M (readDec_ok T2 (m := r.Samples.length) (by omega)) fun h3 M => tup2 (as_i (as_b (idxs (by omega) (by omega) ?_)))
  rw [add_none]
  refine M.oS .here (strV_get (j := 1) (by omega)) ?_
  refine goM M (readDec_ok (T.ext M.ext) (m := r.At.toNat) (by omega)) fun h4 M => tup2 (as_i (as_b (slb (by omega) (by omega) (by omega) ?_)))
  have S := strV_slr M .here (fun x hx => by
    have hm : (1048576 : Nat) ≤ maxLen := by decide
    simp only [List.mem_cons, List.mem_map] at hx
    rcases hx with rfl | rfl | ⟨n, hn, rfl⟩
    · have := dec_le (n := r.Samples.length) (k := 9) (by omega); omega
    · have := dec_le (n := r.At.toNat) (k := 9) (by omega); omega
    · rw [bitL_len (B.bits n hn)]; omega) (by have hm : (1048576 : Nat) ≤ maxLen := by decide
                                              omega)
  have S2 := slr_drop S (n := 2) (by omega)
  rw [el] at S2
  have e2 : ((Lib.decDigits r.Samples.length :: Lib.decDigits r.At.toNat :: r.Samples.map bitL).map mkB).drop 2 = bitsS r.Samples := map_bits _
  rw [e2] at S2
  refine (readSamples_ok S2 A.a (by omega) (T.ext M.ext).br).mono ?_
  rintro _ h5 ⟨b', c', B', rfl, O, N⟩
  have hol := O.len
  refine tup2 (as_l (as_b (br_t rfl (br_t rfl (br_t rfl ?_)))))
  have M := (M.join N).cnt (W := (g1, T_impl_Ring, ⟨Z_impl_Ring⟩) :: B') (fun p => by simp only [List.append_eq, cnt_app, cnt_cons, cnt_nil] at *; omega)
  refine goM M (length_f32_c _ _ _ _) fun h6 M => as_i ?_
  rw [Int.toNat_of_nonneg a0]
  refine M.sta0 .here rfl (all_one rfl) rfl .here fun h7 M => M.lda0 .here rfl ⟨b', _, c', B', ?_, O, M.drop⟩
  rw [show ((r.Samples.length : Int) == ((r.Samples.length + 2 - 2 : Nat) : Int)) = true by simp]
end
end Go.Sx
/- What functions of this seat's program compute, told in words (a predicate over heaps for each), and the proofs that the words are no more than the code's own weakest precondition. -/
namespace Go.Sx
open Go.Proofs
set_option linter.unusedVariables false
set_option maxRecDepth 100000

def impl_readPair.B19 (Post : Value → Heap → Prop) (N19 : (Option Addr × Nat × Nat × Option Addr × Nat × Nat × Option Addr × Nat × Nat × Option Addr × Nat × Nat × Int × Int) → Heap → Prop) : Option Addr × Nat × Nat × Option Addr × Nat × Nat × Option Addr × Nat × Nat × Option Addr × Nat × Nat × Int × Int → Heap → Prop
  | (numbers_11b, numbers_11l, numbers_11c, list_12b, list_12l, list_12c, rings_17b, rings_17l, rings_17c, t72b, t72l, t72c, t73, t74), h =>
    BIF (decide (t74 < t73)) (
    IDXS t72b t74 t72l fun p41 =>
    oS (cell h ((Addr.add p41 ((Int.toNat t74) * 1)))) fun s42 =>
    CALL prg f_impl_readRing #[.string s42] (fun q43 h44 =>
    TUP2 q43 fun q45 q46 =>
    asA q45 fun a47 =>
    asB q46 fun b48 =>
    ALC ⟨Z_impl_Ring⟩ T_impl_Ring (fun g49 h50 =>
    STA 2 h50 ⟨g49, 0, none⟩ a47 fun h51 =>
    BIF (!b48) (
    Post (.tuple ⟨[.slice none 0 0, .slice none 0 0, .slice none 0 0, .bool false]⟩) h51) (
    LDA 2 h51 ⟨g49, 0, none⟩ fun a52 =>
    SIZ (Array.size a52) 2 <|
    ALC ⟨(splice 0 2 a52 [.slice none 0 0, .int .i64 (0 : Int)])⟩ T_impl_Ring (fun g53 h54 =>
    SEMV prg (Builtin.append_ #[T_sl_impl_Ring, T_sl_impl_Ring] T_sl_impl_Ring #[.slice rings_17b rings_17l rings_17c, .slice (some ⟨g53, 0, none⟩) 1 1]) (fun q55 h56 =>
    asL q55 fun l57b l57l l57c =>
    N19 (numbers_11b, numbers_11l, numbers_11c, list_12b, list_12l, list_12c, l57b, l57l, l57c, t72b, t72l, t72c, t73, ((IntKind.i64.wrap (t74 + (1 : Int))))) h56) h54) h51)) h44) h) (
    Post (.tuple ⟨[.slice numbers_11b numbers_11l numbers_11c, .slice list_12b list_12l list_12c, .slice rings_17b rings_17l rings_17c, .bool true]⟩) h)
def impl_readPair.g19 (fr : Frame) : Option Addr × Nat × Nat × Option Addr × Nat × Nat × Option Addr × Nat × Nat × Option Addr × Nat × Nat × Int × Int := ((gLb (lget fr 11)), (gLl (lget fr 11)), (gLc (lget fr 11)), (gLb (lget fr 12)), (gLl (lget fr 12)), (gLc (lget fr 12)), (gLb (lget fr 17)), (gLl (lget fr 17)), (gLc (lget fr 17)), (gLb (lget fr 72)), (gLl (lget fr 72)), (gLc (lget fr 72)), (gI (lget fr 73)), (gI (lget fr 74)))
def impl_readPair.l19 (Post : Value → Heap → Prop) : Frame → Heap → Prop := fun fr h => GRD (shape (kds 93 [(11, .l), (12, .l), (17, .l), (72, .l), (73, .i .i64), (74, .i .i64)]) fr) (LOOP (impl_readPair.B19 Post) (impl_readPair.g19 fr) h)
def impl_readPair.B10 (Post : Value → Heap → Prop) (N10 : (Int × Option Addr × Nat × Nat × Option Addr × Nat × Nat × Option Addr × Nat × Nat × Option Addr × Nat × Nat × Int × Int) → Heap → Prop) : Int × Option Addr × Nat × Nat × Option Addr × Nat × Nat × Option Addr × Nat × Nat × Option Addr × Nat × Nat × Int × Int → Heap → Prop
  | (filters_1, lines_8b, lines_8l, lines_8c, numbers_11b, numbers_11l, numbers_11c, list_12b, list_12l, list_12c, t51b, t51l, t51c, t52, t53), h =>
    BIF (decide (t53 < t52)) (
    IDXS t51b t53 t51l fun p22 =>
    oS (cell h ((Addr.add p22 ((Int.toNat t53) * 1)))) fun s23 =>
    CALL prg f_impl_ReadFilter #[.string s23] (fun q24 h25 =>
    TUP2 q24 fun q26 q27 =>
    asA q26 fun a28 =>
    asI .i64 q27 fun n29 =>
    ALC ⟨Z_impl_Filter⟩ T_impl_Filter (fun g30 h31 =>
    STA 6 h31 ⟨g30, 0, none⟩ a28 fun h32 =>
    BIF (n29 != (0 : Int)) (
    Post (.tuple ⟨[.slice none 0 0, .slice none 0 0, .slice none 0 0, .bool false]⟩) h32) (
    LDA 6 h32 ⟨g30, 0, none⟩ fun a33 =>
    SIZ (Array.size a33) 6 <|
    ALC ⟨(splice 0 6 a33 [.int .i64 (0 : Int), .float .f32 0, .float .f32 0, .float .f32 0, .float .f32 0, .float .f32 0])⟩ T_impl_Filter (fun g34 h35 =>
    SEMV prg (Builtin.append_ #[T_sl_impl_Filter, T_sl_impl_Filter] T_sl_impl_Filter #[.slice list_12b list_12l list_12c, .slice (some ⟨g34, 0, none⟩) 1 1]) (fun q36 h37 =>
    asL q36 fun l38b l38l l38c =>
    N10 (filters_1, lines_8b, lines_8l, lines_8c, numbers_11b, numbers_11l, numbers_11c, l38b, l38l, l38c, t51b, t51l, t51c, t52, ((IntKind.i64.wrap (t53 + (1 : Int))))) h37) h35) h32)) h25) h) (
    SLB ((IntKind.i64.wrap (filters_1 + (1 : Int)))) (lines_8l : Int) (lines_8c : Int) <|
    LOOP (impl_readPair.B19 Post) (numbers_11b, numbers_11l, numbers_11c, list_12b, list_12l, list_12c, none, 0, 0, ((slA lines_8b lines_8c (Int.toNat ((IntKind.i64.wrap (filters_1 + (1 : Int))))) 1)), ((lines_8l - (Int.toNat ((IntKind.i64.wrap (filters_1 + (1 : Int))))))), ((lines_8c - (Int.toNat ((IntKind.i64.wrap (filters_1 + (1 : Int))))))), ((((lines_8l - (Int.toNat ((IntKind.i64.wrap (filters_1 + (1 : Int)))))) : Nat) : Int)), (0 : Int)) h)
def impl_readPair.g10 (fr : Frame) : Int × Option Addr × Nat × Nat × Option Addr × Nat × Nat × Option Addr × Nat × Nat × Option Addr × Nat × Nat × Int × Int := ((gI (lget fr 1)), (gLb (lget fr 8)), (gLl (lget fr 8)), (gLc (lget fr 8)), (gLb (lget fr 11)), (gLl (lget fr 11)), (gLc (lget fr 11)), (gLb (lget fr 12)), (gLl (lget fr 12)), (gLc (lget fr 12)), (gLb (lget fr 51)), (gLl (lget fr 51)), (gLc (lget fr 51)), (gI (lget fr 52)), (gI (lget fr 53)))
def impl_readPair.l10 (Post : Value → Heap → Prop) : Frame → Heap → Prop := fun fr h => GRD (shape (kds 93 [(1, .i .i64), (8, .l), (11, .l), (12, .l), (51, .l), (52, .i .i64), (53, .i .i64)]) fr) (LOOP (impl_readPair.B10 Post) (impl_readPair.g10 fr) h)
def impl_readPair.J8 (Post : Value → Heap → Prop) (filters_1 : Int) (lines_8b : Option Addr) (lines_8l : Nat) (lines_8c : Nat) (numbers_11b : Option Addr) (numbers_11l : Nat) (numbers_11c : Nat) (h : Heap) : Prop :=
    SLB (1 : Int) ((IntKind.i64.wrap (filters_1 + (1 : Int)))) (lines_8c : Int) <|
    LOOP (impl_readPair.B10 Post) (filters_1, lines_8b, lines_8l, lines_8c, numbers_11b, numbers_11l, numbers_11c, none, 0, 0, (slA lines_8b lines_8c 1 1), (((Int.toNat ((IntKind.i64.wrap (filters_1 + (1 : Int))))) - 1)), (lines_8c - 1), (((((Int.toNat ((IntKind.i64.wrap (filters_1 + (1 : Int))))) - 1) : Nat) : Int)), (0 : Int)) h
def impl_readPair.j8 (Post : Value → Heap → Prop) : Frame → Heap → Prop := fun fr h => GRD (shape (kds 93 [(1, .i .i64), (8, .l), (11, .l)]) fr) (impl_readPair.J8 Post (gI (lget fr 1)) (gLb (lget fr 8)) (gLl (lget fr 8)) (gLc (lget fr 8)) (gLb (lget fr 11)) (gLl (lget fr 11)) (gLc (lget fr 11)) h)
def impl_readPair.S (text_0 : ByteArray) (filters_1 : Int) (Post : Value → Heap → Prop) (h : Heap) : Prop :=
    CALL prg f_impl_linesOf #[.string text_0, .int .i64 ((IntKind.i64.wrap (filters_1 + (3 : Int))))] (fun q1 h2 =>
    TUP2 q1 fun q3 q4 =>
    asL q3 fun l5b l5l l5c =>
    asB q4 fun b6 =>
    BIF (!b6) (
    Post (.tuple ⟨[.slice none 0 0, .slice none 0 0, .slice none 0 0, .bool false]⟩) h2) (
    IDXS l5b (0 : Int) l5l fun p7 =>
    oS (cell h2 p7) fun s8 =>
    CALL prg f_strings_Split #[.string s8, .string (⟨#[32]⟩ : ByteArray)] (fun q9 h10 =>
    asL q9 fun l11b l11l l11c =>
    SLB (1 : Int) (l11l : Int) (l11c : Int) <|
    CALL prg f_impl_readSamples #[.slice (slA l11b l11c 1 1) (l11l - 1) (l11c - 1)] (fun q12 h13 =>
    TUP2 q12 fun q14 q15 =>
    asL q14 fun l16b l16l l16c =>
    asB q15 fun b17 =>
    BIF (!b17) (
    Post (.tuple ⟨[.slice none 0 0, .slice none 0 0, .slice none 0 0, .bool false]⟩) h13) (
    BIF ((l16l : Int) != (2 : Int)) (
    Post (.tuple ⟨[.slice none 0 0, .slice none 0 0, .slice none 0 0, .bool false]⟩) h13) (
    impl_readPair.J8 Post filters_1 l5b l5l l5c l16b l16l l16c h13))) h10) h2)) h
noncomputable def impl_readPair.code : Code := (Tryz.f46.body).getD .skip
theorem impl_readPair.call {text_0 : ByteArray} {filters_1 : Int} {Post : Value → Heap → Prop} {h : Heap} (H : impl_readPair.S text_0 filters_1 Post h) : CALL prg f_impl_readPair #[.string text_0, .int .i64 filters_1] Post h :=
  fn_call tau_ok mixed (c := impl_readPair.code) (Λ := lookL [(8, impl_readPair.j8 Post), (1000010, impl_readPair.l10 Post), (1000019, impl_readPair.l19 Post)]) Tryz.func46 (by kernel_rfl) (by kernel_rfl)
    (Rq.seq (by kernel_rfl) (Rq.free (by kernel_rfl)) (Rq.seq (by kernel_rfl) (Rq.free (by kernel_rfl)) (Rq.seq (by kernel_rfl) (Rq.free (by kernel_rfl)) (Rq.seq (by kernel_rfl) (Rq.free (by kernel_rfl)) (Rq.seq (by kernel_rfl) (Rq.free (by kernel_rfl)) (Rq.seqJ (impl_readPair.j8 Post) (by kernel_rfl) (seg (fun _ _ => by kernel_rfl)) (Rq.free (by kernel_rfl))
(Rq.seq (by kernel_rfl) (Rq.free (by kernel_rfl)) (Rq.seq (by kernel_rfl) (Rq.seq (by kernel_rfl) (Rq.free (by kernel_rfl)) (Rq.block (Rq.loop (impl_readPair.l10 Post) (by kernel_rfl) (segL (g := impl_readPair.g10) tau_ok mixed (Λ := fun N10 => lookL []) (fun _ _ _ => by kernel_rfl) (fun N10 => (Rq.free (by kernel_rfl))))))) (Rq.seq (by kernel_rfl) (Rq.free (by kernel_rfl)) (Rq.seq (by kernel_rfl) (Rq.seq (by kernel_rfl) (Rq.free (by kernel_rfl)) (Rq.block (Rq.loop (impl_readPair.l19 Post) (by kernel_rfl) (segL (g := impl_readPair.g19) tau_ok mixed (Λ := fun N19 => lookL []) (fun _ _ _ => by kernel_rfl) (fun N19 => (Rq.free (by kernel_rfl))))))) (Rq.free (by kernel_rfl))))))))))))
    (Eq.mp (by kernel_rfl) H)

end Go.Sx
