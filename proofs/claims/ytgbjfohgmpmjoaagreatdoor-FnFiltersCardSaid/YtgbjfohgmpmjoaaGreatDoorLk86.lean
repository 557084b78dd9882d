/- Filters run over blocks, one by one and in a chain. -/
import Derived.Test.YtgbjfohgmpmjoaaGreatDoorLk84
import Derived.Test.YtgbjfohgmpmjoaaGreatDoorLk21
import Derived.Test.YtgbjfohgmpmjoaaGreatDoorLq3
import Derived.Test.YtgbjfohgmpmjoaaGreatDoorLr2
import Derived.Test.YtgbjfohgmpmjoaaGreatDoorFR
import Derived.Laws.BytesString
import Derived.Test.YtgbjfohgmpmjoaaGreatDoorTab
import Derived.Test.YtgbjfohgmpmjoaaGreatDoorLf8
import Derived.Test.YtgbjfohgmpmjoaaGreatDoorLr7
import Derived.Lib.ItoaLen
import Derived.Test.YtgbjfohgmpmjoaaGreatDoorLx1
import Derived.Sort.Grow
import Derived.Deep.Draws
set_option linter.unusedVariables false
set_option linter.unusedSimpArgs false
namespace Go.Sx
open Go.Proofs
set_option maxRecDepth 100000
set_option maxHeartbeats 2000000

theorem fil_sz : 0 < rFilter.sz := by decide
abbrev V6 := Int × Nat × Nat × Nat × Nat × Nat
theorem filt_rd {v : V6} {f : GFilter} (O : rFilter.ow [] (flT v) f) (h : Heap) : rFilter.rd h (flT v) f := rFilter.look O (Mem.start h) (List.Sublist.refl _)
theorem playF_ok {f : GFilter} (h : f.ok = true) (l : List Nat) : (playG GFilter.step f l).1.ok = true := by
  induction l generalizing f with
  | nil => exact h
  | cons a l ih => exact ih (filter_step_ok h)
/-- A filter and a block, told by a call. -/
def FilB (h h' : Heap) (u : Value) (f : GFilter) (ys : List Nat) : Prop := ∃ v cb, u = .tuple ⟨[.agg ⟨flT v⟩, .agg cb, .int .i64 (0 : Int)]⟩ ∧ rFilter.ow [] (flT v) f ∧ FA 16 cb ys ∧ Ext h h'
section
variable {h0 h : Heap} {L : List Blk} {q : Addr} {F : Fr} {f : GFilter} {xs : List Nat} {v : V6} {ca : Array Value} {y a : Nat}
theorem flt_out {g T : Nat} (P : Pt rFilter h0 h ⟨g, 0, none⟩ ⟨g, T, [], []⟩ L f) : ∃ v, Mem h0 h ((g, T, ⟨flT v⟩) :: L) ∧ rFilter.ow [] (flT v) f := by
  obtain ⟨cs, B, M, O⟩ := P.out
  obtain ⟨w, ew, Ow⟩ := filter_cells (rFilter.look O M ((List.sublist_append_left _ _).trans (List.sublist_cons_self _ _)))
  have ew : cs = ⟨flT w⟩ := by cases cs; exact congrArg Array.mk ew
  subst ew
  exact ⟨w, M.cnt fun p => by simp only [cnt_app, cnt_cons, cnt_nil]; omega, Ow⟩
theorem run_c (P : Pt rFilter h0 h q F L f) (Rb : FA 16 ca xs) : CALL prg f_p_impl_Filter_run #[.pointer (some q), .agg ca] (fun u h' => ∃ cb, u = .agg cb ∧ FA 16 cb (playG GFilter.step f xs).2 ∧ Pt rFilter h0 h' q F L (playG GFilter.step f xs).1) h := by
  have hx16 : xs.length = 16 := Rb.1
  refine p_impl_Filter_run.call ((Mem.start h).alc fun g1 h1 x1 M => M.alc fun g3 h2 x2 M => M.alc fun g5 h3 x3 M => ?_)
  have P : Pt rFilter h0 h3 q F ([(g5, T_impl_Block, ⟨Z_impl_Block⟩), (g3, T_impl_Block, ca), (g1, T_p_impl_Filter, #[.pointer (some q)])] ++ L) (gN GFilter.step f xs 0) := P.join M
  refine (made_c (X := gN GFilter.step f xs) (f := outN GFilter.step f xs) P fun n hh W hn P => ?_).mono ?_
  · show CALL prg f_p_impl_Filter_run_c1 #[.int .i64 (n : Int), .pointer (some ⟨g1, 0, none⟩), .pointer (some ⟨g3, 0, none⟩)] _ hh
    have k : cell hh ⟨g1, 0, none⟩ = some (.pointer (some q)) := by
      rw [P.mem.cell (Look.skip (.there (.there .here)))]; rfl
    refine p_impl_Filter_run_c1.call (o_p k (idx (by omega) (by omega) ((Look.skip (.there .here)).oA P.mem Rb (i := n) hn fun w hw => (Filter_step_c P hw).mono ?_)))
    rintro _ h8 ⟨⟨y, rfl, hy⟩, P⟩
    refine as_f ⟨⟨y, rfl, hy⟩, ?_⟩
    rw [gN_step (by omega)]; exact P
  rintro _ h7 ⟨co, rfl, Fo, P⟩
  rw [outN_all hx16] at Fo
  rw [gN_all hx16] at P
  exact as_a (P.blkW .here rfl Fo.size Fo.one fun h8 P => P.mem.lda0 .here Fo.size ⟨co, rfl, Fo, P.sub (.cons _ (.cons _ (.cons _ (List.Sublist.refl _))))⟩)
theorem RunFilter_c (O0 : rFilter.ow [] (flT v) f) (Rb : FA 16 ca xs) (hok : f.ok = true) : CALL prg f_impl_RunFilter #[.agg ⟨flT v⟩, .agg ca] (fun u h' => FilB h h' u (playG GFilter.step f xs).1 (playG GFilter.step f xs).2) h := by
  refine impl_RunFilter.call ((Mem.start h).alc fun g1 h1 x1 M => M.alc fun g3 h2 x2 M => M.alc fun g5 h3 x3 M => M.alc fun g7 h4 x4 M => M.lda0 (.there (.there (.there .here))) rfl ?_)
  refine goM M (ValidFilter_c (filt_rd O0 _)) fun h5 M => as_b ?_
  rw [hok]
  refine br_f rfl (M.lda0 (.there (.there .here)) Rb.size ?_)
  have M := M.cnt (W := (g1, T_impl_Filter, ⟨flT v⟩) :: [(g7, T_impl_Block, ⟨Z_impl_Block⟩), (g5, T_impl_Filter, ⟨Z_impl_Filter⟩), (g3, T_impl_Block, ca)]) (fun p => by simp only [cnt_app, cnt_cons, cnt_nil]; omega)
  have P : Pt rFilter h h5 ⟨g1, 0, none⟩ ⟨g1, T_impl_Filter, [], []⟩ [(g7, T_impl_Block, ⟨Z_impl_Block⟩), (g5, T_impl_Filter, ⟨Z_impl_Filter⟩), (g3, T_impl_Block, ca)] f := Pt.new O0 M
  refine (run_c P Rb).mono ?_
  rintro _ h6 ⟨co, rfl, Fo, P⟩
  refine as_a ((Mem.start h6).alc fun g21 h8 x8 N => N.sta0 .here Fo.size Fo.one rfl .here fun h9 N => ?_)
  obtain ⟨w, M, Ow⟩ := flt_out (P.join N)
  refine M.lda0 .here rfl (M.lda0 (.there .here) Fo.size ?_)
  refine M.sta0 (.there (.there (.there .here))) rfl flT_one rfl (.there (.there (.there .here))) fun h10 M2 => M.pin2 (.there .here) M2 (.there .here) (M2.sta0 (.there (.there .here)) Fo.size Fo.one rfl (.there (.there .here)) fun h11 M3 => ?_)
  exact M3.lda0 (.there (.there (.there .here))) rfl (M3.lda0 (.there (.there .here)) Fo.size ⟨w, co, rfl, Ow, Fo, M3.ext⟩)
theorem StepFilter_c (O0 : rFilter.ow [] (flT v) f) (hy : FW .f32 y a) (hok : f.ok = true) : CALL prg f_impl_StepFilter #[.agg ⟨flT v⟩, .float .f32 y] (fun u h' => ∃ w z, u = .tuple ⟨[.agg ⟨flT w⟩, .float .f32 z, .int .i64 (0 : Int)]⟩ ∧ rFilter.ow [] (flT w) (f.step a).1 ∧ FW .f32 z (f.step a).2 ∧ Ext h h') h := by
  refine impl_StepFilter.call ((Mem.start h).alc fun g1 h1 x1 M => M.alc fun g3 h2 x2 M => M.lda0 (.there .here) rfl ?_)
  refine goM M (ValidFilter_c (filt_rd O0 _)) fun h5 M => as_b ?_
  rw [hok]
  have M := M.cnt (W := (g1, T_impl_Filter, ⟨flT v⟩) :: [(g3, T_impl_Filter, ⟨Z_impl_Filter⟩)]) (fun p => by simp only [cnt_app, cnt_cons, cnt_nil]; omega)
  have P : Pt rFilter h h5 ⟨g1, 0, none⟩ ⟨g1, T_impl_Filter, [], []⟩ [(g3, T_impl_Filter, ⟨Z_impl_Filter⟩)] f := Pt.new O0 M
  refine br_f rfl ((Filter_step_c P hy).mono ?_)
  rintro _ h6 ⟨⟨z, rfl, hz⟩, P⟩
  obtain ⟨w, M, Ow⟩ := flt_out P
  exact as_f (M.lda0 .here rfl (M.sta0 (.there .here) rfl flT_one rfl (.there .here) fun h7 M => M.lda0 (.there .here) rfl ⟨w, z, rfl, Ow, hz, M.ext⟩))
theorem spec_SameFilter_c {ca cb : Array Value} {x y : GFilter} (Ra : rFilter.rd h ca.toList x) (Rb : rFilter.rd h cb.toList y) : CALL prg f_spec_SameFilter #[.agg ca, .agg cb] (fun u h' => u = .bool (same x y) ∧ Ext h h') h := by
  refine spec_SameFilter.call (alcR Ra fun g1 h1 x1 A => alcR (rFilter.ext x1 Rb) fun g2 h2 x2 B => (l02Same_c (A.ext x2) B).mono ?_)
  rintro _ h3 ⟨rfl, x3⟩
  exact as_b ⟨rfl, x1.trans (x2.trans x3)⟩
theorem SameBlock_c {cb : Array Value} (Ra : FA 16 ca xs) (Rb : FA 16 cb xs) : CALL prg f_spec_SameBlock #[.agg ca, .agg cb] (fun u h' => u = .bool true ∧ Ext h h') h := by
  have inner : ∀ {hh : Heap}, CALL prg f_spec_l01SameBlock #[.agg ca, .agg cb] (fun u h' => u = .bool true ∧ Ext hh h') hh := fun {hh} => by
    refine spec_l01SameBlock.call ((Mem.start hh).alc fun g1 h1 x1 M => M.alc fun g3 h2 x2 M => ?_)
    refine loop (fun y h3 => ∃ n : Nat, y = (⟨g1, 0, none⟩, ⟨g3, 0, none⟩, (n : Int)) ∧ n ≤ 16 ∧ Mem hh h3 [(g3, T_impl_Block, cb), (g1, T_impl_Block, ca)]) (fun y => (16 - y.2.2).toNat) ⟨0, rfl, by omega, M⟩ ?_
    rintro y h3 ⟨n, rfl, hn, M⟩
    refine brd (fun hc => ?_) fun hc => ⟨rfl, M.ext⟩
    refine idx (by omega) (by omega) ((Look.there .here).oA M Ra (i := n) (by omega) fun w hw => idx (by omega) (by omega) (Look.here.oA M Rb (i := n) (by omega) fun z hz => goM M (l01Same_c hw hz _) fun h4 M => as_b (br_f (by simp) ?_)))
    exact ⟨⟨n + 1, by rw [wrap64_succ (by omega)], by omega, M⟩, by rw [wrap64_succ (by omega)]; show _ < _; simp; omega⟩
  refine spec_SameBlock.call ((Mem.start h).alc fun g1 h1 x1 M => M.alc fun g3 h2 x2 M => M.lda0 (.there .here) Ra.size (M.lda0 .here Rb.size ?_))
  exact goM M inner fun h3 M => as_b ⟨rfl, M.ext⟩
theorem IndexFunc_Filter_c {b : Option Addr} {l c : Nat} {xs : List GFilter} {f : Value} {p : GFilter → Bool} (S : SlR rFilter h b l c xs) (T : TellsR prg rFilter h f p) :
    CALL prg f_slices_IndexFunc_sl_impl_Filter_impl_Filter #[.slice b l c, f] (fun u h' => u = .int .i64 (firstAt p xs) ∧ Ext h h') h := by
  refine slices_IndexFunc_sl_impl_Filter_impl_Filter.call ?_
  have hm2 := S.2.2.1
  have hm3 := S.2.1
  have := maxLen_lt
  have hl := S.len
  refine loop (fun x hh => ∃ n : Nat, x = (b, l, c, f, (l : Int), (n : Int)) ∧ n ≤ l ∧ Ext h hh ∧ ∀ i, i < n → p xs[i]! = false) (fun x => (l - x.2.2.2.2.2).toNat) ⟨0, rfl, by omega, Ext.refl _, fun i hi => by omega⟩ ?_
  rintro x hh ⟨n, rfl, hn, X, hf⟩
  refine brd (fun hc => ?_) fun hc => ?_
  · refine (S.ext X).idx fil_sz (by omega) (by omega) fun a Ra => Ra.lda1 rfl fun cs Rc => ?_
    refine (T _ _ _ X Rc).mono fun u h1 ⟨e, x1⟩ => ?_
    subst e
    refine as_b (br (fun hb => ?_) fun hb => ?_)
    · exact ⟨by rw [firstAt_some (by omega) hf (by simpa using hb)], X.trans x1⟩
    · refine ⟨⟨n + 1, by rw [wrap64_succ (by omega)], by omega, X.trans x1, fun i hi => ?_⟩, by rw [wrap64_succ (by omega)]; show _ < _; simp; omega⟩
      by_cases e : i = n
      · subst e; simpa using hb
      · exact hf i (by omega)
  · exact ⟨by rw [firstAt_none fun i hi => hf i (by omega)], X⟩
theorem areFilters_c {b : Option Addr} {l c : Nat} {fs : List GFilter} (S : SlR rFilter h b l c fs) : CALL prg f_impl_areFilters #[.slice b l c] (fun u h' => u = .bool (fs.all GFilter.ok) ∧ Ext h h') h := by
  have T : TellsR prg rFilter h (.func (.func f_impl_areFilters_c1) #[] #[]) fun f => !f.ok := fun cs f hh X R => by
    show CALL prg f_impl_areFilters_c1 #[.agg cs] _ hh
    exact impl_areFilters_c1.call (alcR R fun g h1 x1 R1 => R1.lda1 rfl fun c2 R2 => goX (ValidFilter_c R2) fun h2 x2 => as_b ⟨rfl, x1.trans x2⟩)
  have C : CALL prg f_slices_ContainsFunc_sl_impl_Filter_impl_Filter #[.slice b l c, .func (.func f_impl_areFilters_c1) #[] #[]] (fun u h' => u = .bool (fs.any fun f => !f.ok) ∧ Ext h h') h :=
    slices_ContainsFunc_sl_impl_Filter_impl_Filter.call (goX (IndexFunc_Filter_c S T) fun h1 x1 => as_i ⟨by rw [firstAt_any], x1⟩)
  refine impl_areFilters.call (goX C fun h2 x2 => as_b ⟨?_, x2⟩)
  rw [List.any_eq_not_all_not]
  simp
theorem Clone_Filter_c {b : Option Addr} {l c : Nat} {xs : List GFilter} (S : SlR rFilter h b l c xs) (hl : l ≤ 1048576) :
    CALL prg f_slices_Clone_sl_impl_Filter_impl_Filter #[.slice b l c] (fun u h' => ∃ b' c' B, u = .slice b' l c' ∧ SlO T_impl_Filter rFilter B b' l c' xs ∧ Mem h h' B) h := by
  refine slices_Clone_sl_impl_Filter_impl_Filter.call (cmp_nil U_sl_impl_Filter (br (fun hb => ?_) fun hb => ?_))
  · obtain rfl : b = none := by simpa using hb
    obtain ⟨rfl, rfl⟩ := slr_nil fil_sz S
    exact ⟨none, 0, [], rfl, SlO.nil, Mem.start h⟩
  · exact (Mem.start h).alc fun g h1 x1 M => append_copy E_sl_impl_Filter fil_sz flat_Filter' (S.ext x1) M (by omega) fun b' c' h' B' O' M' => as_l ⟨b', c', B', rfl, O', by simpa using M'⟩
end
section
variable (fs : List GFilter) (b : List Nat)
def blkN : Nat → List Nat
  | 0 => b
  | n + 1 => (playG GFilter.step fs[n]! (blkN n)).2
def outF (n : Nat) : GFilter := (playG GFilter.step fs[n]! (blkN fs b n)).1
def curN : Nat → List GFilter
  | 0 => fs
  | n + 1 => (curN n).set n (outF fs b n)
theorem cur_len : ∀ n, (curN fs b n).length = fs.length
  | 0 => rfl
  | n + 1 => by unfold curN; rw [List.length_set, cur_len n]
theorem cur_get {i : Nat} (hi : i < fs.length) : ∀ n, (curN fs b n)[i]! = if i < n then outF fs b i else fs[i]!
  | 0 => by simp [curN]
  | n + 1 => by
    have hc := cur_len fs b n
    unfold curN
    rw [getElem!_pos _ i (by rw [List.length_set]; omega), List.getElem_set]
    split
    · next e => subst e; rw [if_pos (by omega)]
    · next e =>
      rw [← getElem!_pos (curN fs b n) i (by omega), cur_get hi n]
      by_cases k : i < n
      · rw [if_pos k, if_pos (by omega)]
      · rw [if_neg k, if_neg (by omega)]
end
section
variable {h0 h : Heap} {ca : Array Value} {xs : List Nat} {b : Option Addr} {l c : Nat} {fs : List GFilter}
theorem RunChain_c (S : SlR rFilter h b l c fs) (Rb : FA 16 ca xs) (hok : ∀ f ∈ fs, f.ok = true) (hl : l ≤ 6) :
    CALL prg f_impl_RunChain #[.slice b l c, .agg ca] (fun u h' => ∃ b' c' B cb, u = .tuple ⟨[.slice b' l c', .agg cb, .int .i64 (0 : Int)]⟩ ∧ SlO T_impl_Filter rFilter B b' l c' (curN fs xs l) ∧ FA 16 cb (blkN fs xs l) ∧ Mem h h' B) h := by
  refine impl_RunChain.call ((Mem.start h).alc fun g1 h1 x1 M => M.alc fun g3 h2 x2 M => ?_)
  refine goM M (areFilters_c (S.ext M.ext)) fun h3 M => as_b ?_
  rw [List.all_eq_true.2 hok]
  refine br_f rfl (brd (fun hc => by omega) fun hc => (Clone_Filter_c (S.ext M.ext) (by omega)).mono ?_)
  rintro _ h4 ⟨b', c', B, rfl, O, N⟩
  have M : Mem h h4 ((g1, T_impl_Block, ca) :: (g3, T_impl_Block, ⟨Z_impl_Block⟩) :: B) := (M.join N).cnt fun p => by simp only [List.append_eq, cnt_app, cnt_cons, cnt_nil]; omega
  have hfs := S.len
  refine as_l ?_
  refine loop (fun y hh => ∃ (n : Nat) (cb : Array Value) (B : List Blk), y = (⟨g1, 0, none⟩, ⟨g3, 0, none⟩, b', l, c', (l : Int), (n : Int)) ∧ n ≤ l ∧ FA 16 cb (blkN fs xs n) ∧ SlO T_impl_Filter rFilter B b' l c' (curN fs xs n) ∧ Mem h hh ((g1, T_impl_Block, cb) :: (g3, T_impl_Block, ⟨Z_impl_Block⟩) :: B)) (fun y => (l - y.2.2.2.2.2.2).toNat)
    ⟨0, ca, B, rfl, by omega, Rb, O, M⟩ ?_
  rintro y hh ⟨n, cb, B, rfl, hn, Fb, O, M⟩
  refine brd (fun hc => ?_) fun hc => ?_
  · obtain ⟨a0, F', C, rfl, op, close⟩ := O.elem2 (i := n) (by omega)
    have M1 : Mem h hh (B ++ [(g1, T_impl_Block, cb), (g3, T_impl_Block, ⟨Z_impl_Block⟩)]) := M.cnt fun p => by simp only [cnt_app, cnt_cons, cnt_nil]; omega
    have P := op h hh _ M1
    rw [cur_get fs xs (by omega), if_neg (by omega)] at P
    refine idxs (by omega) (by omega) (M.lda0 .here Fb.size ?_)
    rw [Int.toNat_natCast]
    refine (run_c P Fb).mono ?_
    rintro _ h6 ⟨co, rfl, Fo, P⟩
    obtain ⟨B2, O2, M2⟩ := close _ _ _ _ P
    have M2 := M2.cnt (W := (g1, T_impl_Block, cb) :: (g3, T_impl_Block, ⟨Z_impl_Block⟩) :: B2) fun p => by simp only [cnt_app, cnt_cons, cnt_nil]; omega
    exact as_a (M2.sta0 .here Fo.size Fo.one Fb.size .here fun h7 M3 => ⟨⟨n + 1, co, B2, by rw [wrap64_succ (by omega)], by omega, Fo, O2, M3⟩, by rw [wrap64_succ (by omega)]; show _ < _; simp; omega⟩)
  obtain rfl : n = l := by omega
  exact M.lda0 .here Fb.size (M.sta0 (.there .here) Fb.size Fb.one rfl (.there .here) fun h5 M => M.lda0 (.there .here) Fb.size ⟨b', c', B, cb, rfl, O, Fb, M.drop.drop⟩)
end
end Go.Sx
/- Decimals: the rule's, digit by digit. -/
set_option linter.unusedVariables false
set_option linter.unusedSimpArgs false
namespace Go.Sx
open Go.Proofs
set_option maxRecDepth 100000

/-- A whole number's digits. -/
def decB (m : Nat) : ByteArray := ⟨(Lib.decDigits m).toArray⟩
end Go.Sx
/- Contracts of the kit's shelf, taken as calls of ours. -/
set_option linter.unusedVariables false
namespace Go.Sx

/-- A call whose contract tells a value and new blocks alone. -/
theorem CALL_of_calls {P : Program} {f : FuncId} {fn : Func} {args : Array Value} {K : Value → Heap → Prop} {h : Heap} (hf : P.funcs[f]? = some fn) (hb : fn.body.isNone = false) (hn : (fn.name == "runtime.NumGoroutine") = false)
    (c : ∀ w : World, w.heap = h → Calls P f args w fun e w' => ∃ v, e = .returned v ∧ Same w w' ∧ K v w'.heap) : CALL P f args K h := by
  intro w hw
  have hrun : (callFunc f args).run P w = .ok (.enter f args) w := by
    unfold callFunc
    simp only [Sem.run_bind, run_program, Result.andThen_ok, hf, hn, hb, Bool.false_eq_true, if_false]
    rfl
  rw [hrun]
  exact c w hw
theorem grow_same (w : World) (k : Nat) (os : Array Obj) : Same w (Sort.grow (w.drewN k) os) := ⟨rfl, rfl, rfl⟩
theorem grow_ext (w : World) (k : Nat) (os : Array Obj) : Ext w.heap (Sort.grow (w.drewN k) os).heap := by
  show Ext w.heap (w.heap ++ os)
  refine ⟨by simp, fun i hi => ?_⟩
  rw [Array.getElem?_append_left hi]
end Go.Sx
