/- What functions of this seat's program compute, told in words (a predicate over heaps for each), and the proofs that the words are no more than the code's own weakest precondition. -/
import Derived.Test.YtnhcoeogejgidabGreatDoorTab
import Derived.Test.YtnhcoeogejgidabGreatDoorLci3
import Derived.Test.YtnhcoeogejgidabGreatDoorLh5
import Derived.Test.YtnhcoeogejgidabGreatDoorH4
import Derived.Test.YtnhcoeogejgidabGreatDoorLx1
import Derived.Lib.LaidTab
namespace Go.Sx
open Go.Proofs
set_option linter.unusedVariables false
set_option maxRecDepth 100000

def laws_FnExactCompileScore.J18 (Post : Value → Heap → Prop) (g0_6 : Addr) (m_9 : Int) (h : Heap) : Prop :=
    LDA 6 h g0_6 fun a54 =>
    CALL prg f_laws_heldScore #[.agg a54, .int .i64 (1 : Int)] (fun q55 h56 =>
    asI .i64 q55 fun n57 =>
    BIF ((decide (n57 < (0 : Int)))) (
    Post (.bool false) h56) (
    BIF (n57 != m_9) (
    Post (.bool false) h56) (
    Post (.bool true) h56))) h
def laws_FnExactCompileScore.j18 (Post : Value → Heap → Prop) : Frame → Heap → Prop := fun fr h => GRD (shape (kds 82 [(6, .p), (9, .i .i64)]) fr) (laws_FnExactCompileScore.J18 Post (gP (lget fr 6)) (gI (lget fr 9)) h)
def laws_FnExactCompileScore.J7 (Post : Value → Heap → Prop) (aText_0 : ByteArray) (w0_3 : Addr) (w1_4 : Int) (w2_5 : Int) (g0_6 : Addr) (h : Heap) : Prop :=
    LDA 6 h g0_6 fun a30 =>
    CALL prg f_laws_markScore #[.agg a30, .int .i64 (1 : Int)] (fun q31 h32 =>
    asI .i64 q31 fun n33 =>
    LDA 6 h32 g0_6 fun a34 =>
    CALL prg f_laws_heldScore #[.agg a34, .int .i64 (1 : Int)] (fun q35 h36 =>
    asI .i64 q35 fun n37 =>
    BIF ((decide (n37 < (0 : Int)))) (
    Post (.bool false) h36) (
    BIF (n37 != n33) (
    Post (.bool false) h36) (
    CALL prg f_impl_CompileScore #[.string aText_0] (fun q38 h39 =>
    TUP3 q38 fun q40 q41 q42 =>
    asA q40 fun a43 =>
    asI .i64 q41 fun n44 =>
    asI .i64 q42 fun n45 =>
    ALC ⟨Z_impl_Score⟩ T_impl_Score (fun g46 h47 =>
    STA 6 h47 ⟨g46, 0, none⟩ a43 fun h48 =>
    LDA 6 h48 ⟨g46, 0, none⟩ fun a49 =>
    LDA 6 h48 w0_3 fun a50 =>
    CALL prg f_laws_eqScore #[.agg a49, .agg a50] (fun q51 h52 =>
    asB q51 fun b53 =>
    BIF (!b53) (
    Post (.bool false) h52) (
    BIF (n44 != w1_4) (
    Post (.bool false) h52) (
    BIF (n45 != w2_5) (
    Post (.bool false) h52) (
    laws_FnExactCompileScore.J18 Post g0_6 n33 h52)))) h48) h39) h36))) h32) h
def laws_FnExactCompileScore.j7 (Post : Value → Heap → Prop) : Frame → Heap → Prop := fun fr h => GRD (shape (kds 82 [(0, .s), (3, .p), (4, .i .i64), (5, .i .i64), (6, .p)]) fr) (laws_FnExactCompileScore.J7 Post (gS (lget fr 0)) (gP (lget fr 3)) (gI (lget fr 4)) (gI (lget fr 5)) (gP (lget fr 6)) h)
def laws_FnExactCompileScore.S (aText_0 : ByteArray) (Post : Value → Heap → Prop) (h : Heap) : Prop :=
    BIF ((decide ((1048576 : Int) < ((ByteArray.size aText_0) : Int)))) (
    Post (.bool true) h) (
    CALL prg f_spec_CompileScore #[.string aText_0] (fun q3 h4 =>
    TUP3 q3 fun q5 q6 q7 =>
    asA q5 fun a8 =>
    asI .i64 q6 fun n9 =>
    asI .i64 q7 fun n10 =>
    ALC ⟨Z_impl_Score⟩ T_impl_Score (fun g11 h12 =>
    STA 6 h12 ⟨g11, 0, none⟩ a8 fun h13 =>
    CALL prg f_impl_CompileScore #[.string aText_0] (fun q14 h15 =>
    TUP3 q14 fun q16 q17 q18 =>
    asA q16 fun a19 =>
    asI .i64 q17 fun n20 =>
    asI .i64 q18 fun n21 =>
    ALC ⟨Z_impl_Score⟩ T_impl_Score (fun g22 h23 =>
    STA 6 h23 ⟨g22, 0, none⟩ a19 fun h24 =>
    LDA 6 h24 ⟨g22, 0, none⟩ fun a25 =>
    LDA 6 h24 ⟨g11, 0, none⟩ fun a26 =>
    CALL prg f_laws_eqScore #[.agg a25, .agg a26] (fun q27 h28 =>
    asB q27 fun b29 =>
    BIF (!b29) (
    Post (.bool false) h28) (
    BIF (n20 != n9) (
    Post (.bool false) h28) (
    BIF (n21 != n10) (
    Post (.bool false) h28) (
    laws_FnExactCompileScore.J7 Post aText_0 ⟨g11, 0, none⟩ n9 n10 ⟨g22, 0, none⟩ h28)))) h24) h15) h13) h4) h)
noncomputable def laws_FnExactCompileScore.code : Code := (Tryz.f3.body).getD .skip
theorem laws_FnExactCompileScore.call {aText_0 : ByteArray} {Post : Value → Heap → Prop} {h : Heap} (H : laws_FnExactCompileScore.S aText_0 Post h) : CALL prg f_laws_FnExactCompileScore #[.string aText_0] Post h :=
  fn_call tau_ok mixed (c := laws_FnExactCompileScore.code) (Λ := lookL [(7, laws_FnExactCompileScore.j7 Post), (18, laws_FnExactCompileScore.j18 Post)]) Tryz.func3 (by kernel_rfl) (by kernel_rfl)
    (Rq.seq (by kernel_rfl) (Rq.free (by kernel_rfl)) (Rq.seq (by kernel_rfl) (Rq.free (by kernel_rfl)) (Rq.seq (by kernel_rfl) (Rq.free (by kernel_rfl)) (Rq.seq (by kernel_rfl) (Rq.free (by kernel_rfl)) (Rq.seqJ (laws_FnExactCompileScore.j7 Post) (by kernel_rfl) (seg (fun _ _ => by kernel_rfl)) (Rq.free (by kernel_rfl))
(Rq.seq (by kernel_rfl) (Rq.free (by kernel_rfl)) (Rq.seq (by kernel_rfl) (Rq.free (by kernel_rfl)) (Rq.seq (by kernel_rfl) (Rq.free (by kernel_rfl)) (Rq.seq (by kernel_rfl) (Rq.free (by kernel_rfl)) (Rq.seq (by kernel_rfl) (Rq.free (by kernel_rfl)) (Rq.seq (by kernel_rfl) (Rq.free (by kernel_rfl)) (Rq.seq (by kernel_rfl) (Rq.free (by kernel_rfl)) (Rq.seqJ (laws_FnExactCompileScore.j18 Post) (by kernel_rfl) (seg (fun _ _ => by kernel_rfl)) (Rq.free (by kernel_rfl))
(Rq.free (by kernel_rfl)))))))))))))))
    (Eq.mp (by kernel_rfl) H)

end Go.Sx
/- The law FnExactCompileScore, as the program tells it. -/
set_option linter.unusedVariables false
set_option linter.unusedSimpArgs false
namespace Go.Sx
open Go.Proofs
set_option maxRecDepth 100000
set_option maxHeartbeats 1000000

theorem w_names {xs : List GInstrument} (h : ∀ x ∈ xs, x.ok = true) : nL w_Instrument xs ≤ 12 * xs.length := by
  induction xs with
  | nil => exact Nat.le_refl _
  | cons x xs ih =>
    have h1 := ih fun y hy => h y (.tail _ hy)
    have h2 : w_Instrument x ≤ 12 := by
      have := h x (.head _)
      unfold GInstrument.ok nameOk inR at this
      simp only [Bool.and_eq_true, decide_eq_true_eq] at this
      have := this.1.1.1.2
      unfold w_Instrument
      omega
    show w_Instrument x + nL w_Instrument xs ≤ 12 * (xs.length + 1)
    omega
theorem w_compile (t : List UInt8) : w_Score (compileS t).1 ≤ 1048576 := by
  have z : w_Score z_Score ≤ 1048576 := by decide
  unfold compileS
  by_cases hc : 4000 < t.length ∨ 200 < (scoreL t).length
  · rw [if_pos hc]; exact z
  rw [if_neg hc]
  cases e : runS (scoreL t) with
  | error r => exact z
  | ok s =>
    show w_Score (if s.loops = [] then (s.score, (0 : Int), (0 : Int)) else (z_Score, ((scoreL t).length : Int), 4)).1 ≤ _
    by_cases hl : s.loops = []
    · rw [if_pos hl]
      have I := runS_inv (by omega) e
      have hs := (ordE_sorted s.notes).len
      have n64 := I.n64
      have k6 := I.k6
      have d31 := I.d31
      have : nL w_Instrument s.kinds ≤ 12 * s.kinds.length := w_names fun x hx => by
        have := I.kok
        unfold instOk at this
        obtain ⟨i, hi, e⟩ := List.mem_iff_getElem.1 hx
        have := List.all_eq_true.1 this i (List.mem_range.2 hi)
        unfold instAt at this
        simp only [Bool.and_eq_true] at this
        rw [getElem!_pos _ i hi, e] at this
        exact this.1
      show s.tune.Degrees.length + (s.kinds.length + nL w_Instrument s.kinds) + (ordE s.notes).length ≤ _
      omega
    · rw [if_neg hl]; exact z
abbrev TC (h : Heap) : Value → Heap → Prop := fun u h' => u = .bool true ∧ Ext h h'
theorem TripR.go {P : Program} {f : FuncId} {args : Array Value} {x : GScore × Int × Int} {hb h : Heap} {L : List Blk} {K : Value → Heap → Prop} (M : Mem hb h L) (c : CALL P f args (fun u h' => TripR h h' u x) h)
    (H : ∀ h' cs B, Mem hb h' (B ++ L) → rScore.ow B cs.toList x.1 → cs.size = 6 → K (.tuple ⟨[.agg cs, .int .i64 x.2.1, .int .i64 x.2.2]⟩) h') : CALL P f args K h :=
  c.mono fun u h' ⟨cs, B, e, O, N⟩ => by subst e; exact H h' cs B (M.join N) O (osz O rfl)
section
variable {h : Heap} {t : List UInt8}
theorem cs18 {hh : Heap} {z : GScore} {g0 : Nat} {cg : Array Value} {Bg L : List Blk} (hw : w_Score z ≤ 1048576) (Og : rScore.ow Bg cg.toList (mk_Score z 1)) (M : Mem h hh ((g0, T_impl_Score, cg) :: (Bg ++ L))) :
    laws_FnExactCompileScore.J18 (TC h) ⟨g0, 0, none⟩ ((1 + n_Score z : Nat) : Int) hh := by
  have hn := nw_Score z
  unfold laws_FnExactCompileScore.J18
  exact M.lda0 .here (osz Og rfl) (goM M (held_Score_c 1 (rScore.look Og M ((List.sublist_append_left _ _).trans (List.sublist_cons_self _ _))) hw (by omega) : CALL prg f_laws_heldScore #[.agg cg, .int .i64 (1 : Int)] _ _) fun h25 M => as_i (ge_br (by omega) (eqB ⟨rfl, M.ext⟩)))
theorem cs7 {hh : Heap} {gw g0 : Nat} {cw cg : Array Value} {Bw Bg L : List Blk} (B : Libs h) (ht : t.length ≤ 1048576) (Ow : rScore.ow Bw cw.toList (compileS t).1) (Og : rScore.ow Bg cg.toList (compileS t).1)
    (M : Mem h hh ((gw, T_impl_Score, cw) :: (g0, T_impl_Score, cg) :: (Bw ++ (Bg ++ L)))) :
    laws_FnExactCompileScore.J7 (TC h) (mkB t) ⟨gw, 0, none⟩ (compileS t).2.1 (compileS t).2.2 ⟨g0, 0, none⟩ hh := by
  have hw := w_compile t
  have hnz := nw_Score (compileS t).1
  have rd : ∀ {hh : Heap} {W B : List Blk} {c : Array Value} {y : GScore}, Mem h hh W → rScore.ow B c.toList y → (∀ p, Sx.cnt p B ≤ Sx.cnt p W) → rScore.rd hh c.toList y := fun M O hc => rScore.look O (M.cnt hc) (List.Sublist.refl _)
  unfold laws_FnExactCompileScore.J7
  have M := M.cnt (W := Bg ++ ((gw, T_impl_Score, cw) :: (g0, T_impl_Score, cg) :: (Bw ++ L))) fun p => by simp only [cnt_app, cnt_cons, cnt_nil]; omega
  refine M.lda0 (Look.skip (.there .here)) (osz Og rfl) (markM (mark_Score_c Og M 1 hw (by omega) : CALL prg f_laws_markScore #[.agg cg, .int .i64 (1 : Int)] _ _) fun h18 B18 M O18 => as_i ?_)
  refine M.lda0 (Look.skip (.there .here)) (osz O18 rfl) (goM M (held_Score_c 1 (rScore.look O18 M (List.sublist_append_left _ _)) hw (by omega) : CALL prg f_laws_heldScore #[.agg cg, .int .i64 (1 : Int)] _ _) fun h19 M => as_i (ge_br (by omega) (eqB ?_)))
  refine TripR.go M (impl_CompileScore_c (B.ext M.ext) ht) fun h39 c39 B39 M O39 s39 => tup3 (as_a (as_i (as_i (M.alc fun g46 h47 x47 M => M.sta0 .here s39 (rScore.oone O39) rfl .here fun h48 M => M.lda0 .here s39 ?_))))
  have M := M.cnt (W := (gw, T_impl_Score, cw) :: (g0, T_impl_Score, cg) :: (Bw ++ (B39 ++ (B18 ++ L)))) fun p => by simp only [cnt_app, cnt_cons, cnt_nil]; omega
  refine M.lda0 .here (osz Ow rfl) (goM M (eq_Score_c (rd M O39 (fun p => by simp only [cnt_app, cnt_cons, cnt_nil]; omega)) (rd M Ow (fun p => by simp only [cnt_app, cnt_cons, cnt_nil]; omega))) fun h52 M => as_b (bne_br rfl (eqB (eqB ?_))))
  exact cs18 (L := []) hw O18 (M.cnt fun p => by simp only [cnt_app, cnt_cons, cnt_nil]; omega)
theorem FnExactCompileScore_c {s : ByteArray} (B : Libs h) : CALL prg f_laws_FnExactCompileScore #[.string s] (fun u h' => u = .bool true ∧ Ext h h') h := by
  obtain ⟨t, rfl⟩ : ∃ t, s = mkB t := ⟨s.data.toList, (mkB_list s).symm⟩
  have hz := mk_size t
  refine laws_FnExactCompileScore.call (brd (fun hk => ⟨rfl, Ext.refl _⟩) fun hk => ?_)
  have ht : t.length ≤ 1048576 := by omega
  have rd : ∀ {hh : Heap} {W B : List Blk} {c : Array Value} {y : GScore}, Mem h hh W → rScore.ow B c.toList y → (∀ p, Sx.cnt p B ≤ Sx.cnt p W) → rScore.rd hh c.toList y := fun M O hc => rScore.look O (M.cnt hc) (List.Sublist.refl _)
  refine TripR.go (Mem.start h) (spec_CompileScore_c ht) fun h4 c4 B4 M O4 s4 => tup3 (as_a (as_i (as_i (M.alc fun g11 h12 x12 M => M.sta0 .here s4 (rScore.oone O4) rfl .here fun h13 M => ?_))))
  refine TripR.go M (impl_CompileScore_c (B.ext M.ext) ht) fun h15 c15 B15 M O15 s15 => tup3 (as_a (as_i (as_i (M.alc fun g22 h23 x23 M => M.sta0 .here s15 (rScore.oone O15) rfl .here fun h24 M => M.lda0 .here s15 ?_))))
  have M := M.cnt (W := (g11, T_impl_Score, c4) :: (g22, T_impl_Score, c15) :: (B4 ++ (B15 ++ []))) fun p => by simp only [cnt_app, cnt_cons, cnt_nil]; omega
  refine M.lda0 .here (osz O4 rfl) (goM M (eq_Score_c (rd M O15 (fun p => by simp only [cnt_app, cnt_cons, cnt_nil]; omega)) (rd M O4 (fun p => by simp only [cnt_app, cnt_cons, cnt_nil]; omega))) fun h28 M => as_b (bne_br rfl (eqB (eqB ?_))))
  exact cs7 B ht O4 O15 M
end
end Go.Sx
/- From what a law's call answers to the given row, where the row lists tables that the call reads. -/
namespace Go.Sx
open Go.ChangeShapes Go.WideShapes Go.ChangeAt Go.RowKit
set_option linter.unusedVariables false
/-- The same, where the call finds the program's variables as their types have them. -/
theorem law_returns_libs {H : Type} {enc : TypeId × Value → H} {C : Checked} {os : Os} {f : FuncId} {fn : Func} {s : ChangeSpec} {conds : List PathCond} {tb : TypeId} {laidL : List (String × DataW Unit)}
    (own : ownKnob C.prog.godebug = none) (started : os.Started) (noInit : C.prog.inits.idxOf? f = none) (hfn : C.prog.funcs[f]? = some fn) (hb : fn.body.isNone = false)
    (hn : (fn.name == "runtime.NumGoroutine") = false) (hvars : s.vars = []) (hspec : ∀ ds : List (DataW H), ds.length = fn.params.toList.length → s.fn H ds = { results := [.lit (.bool true)], args := ds })
    (hres : fn.resultTypes = #[tb]) (htb : C.prog.underlying tb = some .bool) (laid : laidOutB C.prog = true) (hread : ∀ t ∈ fn.params.toList, C.prog.readableRec t = true ∧ t < C.prog.types.size)
    (witness : ∃ (w : World) (tape : Tape) (i : Input), w.os = os ∧ (w.forCall tape i).Shaped C.prog ∧ i.vars = [] ∧ Input.okWide C.prog (w.forCall tape i) .any w.heap.size f i ∧
      ((s.pre enc C.prog fn conds false (w.forCall tape i).memory i.args ∧ laidMetH C.prog laidL (w.forCall tape i).memory) ∧ sizedMet enc C.prog fn (OpenSpec.ofChange s) false (w.forCall tape i).memory i.args) ∧ ({} : Assume).holds C.prog (lone (Frame.enter C.prog f i.args .normal) [] (w.forCall tape i)))
    (walk : ∀ (W : World) (base : Nat) (args : Array Value) (ds : List (DataW H)) (p : List MemPlace), DataW.TrodAll enc C.prog W 0 (fun _ => true) true fn.params.toList args.toList ds p →
      (∀ (j : Nat) t v, fn.params[j]? = some t → args[j]? = some v → Value.okWide C.prog W .any base t v) →
      (DataW.weightsEach C.prog (fn.params.toList ++ s.plain.varTypes C.prog) (ds ++ [])).all (· ≤ reachBytes) = true → laidMetH C.prog laidL W → W.ShapedOpen C.prog →
      CALL C.prog f args (fun u h' => u = .bool true ∧ Ext W.heap h') W.heap) :
    ReturnsInHanded {} C os f .any (fun w args => (s.pre enc C.prog fn conds false w args ∧ laidMetH C.prog laidL w) ∧ sizedMet enc C.prog fn (OpenSpec.ofChange s) false w args) (s.post enc C.prog fn false true false false) := by
  refine returnsInHanded_of_calls own started noInit witness ?_
  intro w tape i _ hS _ hok hpre hholds
  obtain ⟨_, _, _, fn', hfn', _, _, _, _, hval⟩ := hok
  have e : fn' = fn := Option.some.inj (hfn'.symm.trans hfn)
  subst e
  obtain ⟨⟨⟨ds, gs, before, hw, hc⟩, hx⟩, hz⟩ := hpre
  have hW := DataW.Whole.of_heap (w' := w.forCall tape i) (by rfl) hw
  have hL : laidMetH C.prog laidL (w.forCall tape i) := hx.of_heap (by rfl)
  have hsz := hz.weights hw
  have hW' := hW
  obtain ⟨p, q, hA, hV, rfl, hfz, hnd⟩ := hW
  rw [hvars] at hV
  obtain ⟨rfl, rfl⟩ := trodVars_none hV
  refine (calls_of_CALL hfn hb hn (walk (w.forCall tape i) w.heap.size i.args ds p hA hval hsz hL hS)).mono fun e W' ⟨v, he, hs, hv, hx⟩ => ?_
  subst he; subst hv
  refine ChangeSpec.post_blind ?_
  have bel := below_of hs hx
  have hl := trodAll_length hA
  refine ⟨ds, [], _, [], p, [], hW', ?_, ?_, ?_, bel.frame _, fun h => by cases h⟩
  · rw [List.append_nil, hspec ds hl, hres]; exact trodAll_mk1 (shut_bool htb true)
  · rw [List.append_nil, hspec ds hl]; exact trodAll_back laid bel hread hA
  · rw [List.append_nil, hspec ds hl, hvars]; rfl
/-- A table on the list is where the program has it, in every later world. -/
theorem laid_var {P : Program} {W : World} : ∀ {l : List (String × DataW Unit)} {ps : List MemPlace}, DataW.LaidVars P W l ps → ∀ n d, (n, d) ∈ l →
    ∃ g t cs fuel p, P.globalNamed n = some g ∧ (P.globals[g]?).map (·.type) = some t ∧ W.var? P n = some cs ∧ DataW.trod (fun _ => ()) P W 0 (fun _ => true) false fuel t cs.toList = some (d, p)
  | [], _, _, _, _, hm => by cases hm
  | (n', d') :: r, ps, h, n, d, hm => by
    obtain ⟨g, t, cs, fuel, p, q, h1, h2, h3, h4, h5, _⟩ := h
    rcases List.mem_cons.1 hm with e | e
    · cases e
      exact ⟨g, t, cs, fuel, p, h1, h2, h3, h4⟩
    · exact laid_var h5 n d e
theorem var_ext {P : Program} {W w : World} {n : String} {cs : Array Value} (h : W.var? P n = some cs) (X : Ext W.heap w.heap) : w.var? P n = some cs := by
  unfold World.var? at *
  cases hg : P.globalNamed n with
  | none => rw [hg] at h; cases h
  | some g =>
    rw [hg] at h
    simp only [Option.bind_some] at h ⊢
    cases ho : W.heap[g]? with
    | none => rw [ho] at h; cases h
    | some o =>
      rw [X.eq g (Array.getElem?_eq_some_iff.1 ho).1]
      exact h
theorem laid_tab {P : Program} {W : World} {l : List (String × DataW Unit)} {name : String} {k : IntKind} {zs : List Int} {g : Nat} {t e : TypeId} {n : Nat}
    (hg : P.globalNamed name = some g) (hty : (P.globals[g]?).map (·.type) = some t) (ht : P.underlying t = some (.array n e)) (he : P.underlying e = some (.int k)) (hce : P.cellsOf e = 1) (hct : P.cellsOf t = n)
    (h : laidMet P l W) (hm : (name, Lib.tabData k zs) ∈ l) : ∀ w : World, Ext W.heap w.heap → Lib.TabIs P w name k zs := by
  obtain ⟨ps, hv, _⟩ := h
  obtain ⟨g', t', cs, fuel, p, hg', ht', hvar, hd⟩ := laid_var hv _ _ hm
  obtain rfl := Option.some.inj (hg.symm.trans hg')
  obtain rfl := Option.some.inj (hty.symm.trans ht')
  intro w X
  unfold Lib.TabIs
  rw [var_ext hvar X, ← Lib.cells_of_tab ht he hce hct hd]
/-- A variable on the list that holds an interface's value. -/
theorem laid_iface {P : Program} {W : World} {l : List (String × DataW Unit)} {name nm : String} {d : DataW Unit} {g : Nat} {ti : TypeId} {ms : Array (String × TypeId)}
    (hg : P.globalNamed name = some g) (hty : (P.globals[g]?).map (·.type) = some ti) (hi : P.underlying ti = some (.interface ms)) (h : laidMet P l W) (hm : (name, .iface nm d) ∈ l) : ∃ ev, cell W.heap ⟨g, 0, none⟩ = some ev ∧ (ev = .nilIface ∨ ∃ te pe, ev = .iface te pe) := by
  obtain ⟨ps, hv, _⟩ := h
  obtain ⟨g', t', cs, fuel, p, hg', ht', hvar, hd⟩ := laid_var hv _ _ hm
  obtain rfl := Option.some.inj (hg.symm.trans hg')
  obtain rfl := Option.some.inj (hty.symm.trans ht')
  obtain ⟨f1, u, v, e, hn, h1⟩ := iface_of_trod hi hd
  have h0 := World.var?_cell hg hvar 0
  rw [← Array.getElem?_toList, e] at h0
  exact ⟨_, h0, .inr ⟨u, v, rfl⟩⟩
end Go.Sx
