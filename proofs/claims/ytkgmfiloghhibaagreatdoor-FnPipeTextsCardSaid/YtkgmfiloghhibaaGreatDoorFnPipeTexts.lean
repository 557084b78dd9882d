/- What functions of this seat's program compute, told in words (a predicate over heaps for each), and the proofs that the words are no more than the code's own weakest precondition. -/
import Derived.Test.YtkgmfiloghhibaaGreatDoorTab
import Derived.Test.YtkgmfiloghhibaaGreatDoorLvi2
import Derived.Test.YtkgmfiloghhibaaGreatDoorLp5
import Derived.Test.YtkgmfiloghhibaaGreatDoorLk10
import Derived.Test.YtkgmfiloghhibaaGreatDoorLx2
import Derived.Lib.LaidTab
import Derived.Test.YtkgmfiloghhibaaGreatDoorTF
namespace Go.Sx
open Go.Proofs
set_option linter.unusedVariables false
set_option maxRecDepth 100000

def laws_FnPipeTexts.J12 (Post : Value → Heap → Prop) (x_3 : Addr) (h : Heap) : Prop :=
    LDA 13 h x_3 fun a79 =>
    CALL prg f_impl_WithReed #[.agg a79, .float .f32 1056964608, .float .f32 3196059648] (fun q80 h81 =>
    TUP2 q80 fun q82 q83 =>
    asA q82 fun a84 =>
    asI .i64 q83 fun n85 =>
    ALC ⟨Z_impl_Pipe⟩ T_impl_Pipe (fun g86 h87 =>
    STA 13 h87 ⟨g86, 0, none⟩ a84 fun h88 =>
    LDA 13 h88 ⟨g86, 0, none⟩ fun a89 =>
    oF .f32 (cell h88 (Addr.add x_3 11)) fun r90 =>
    oF .f32 (cell h88 (Addr.add x_3 12)) fun r91 =>
    CALL prg f_impl_WithReed #[.agg a89, .float .f32 r90, .float .f32 r91] (fun q92 h93 =>
    TUP2 q92 fun q94 q95 =>
    asA q94 fun a96 =>
    asI .i64 q95 fun n97 =>
    ALC ⟨Z_impl_Pipe⟩ T_impl_Pipe (fun g98 h99 =>
    STA 13 h99 ⟨g98, 0, none⟩ a96 fun h100 =>
    BIF (n85 == (0 : Int)) (
    BIF (n97 == (0 : Int)) (
    LDA 13 h100 ⟨g98, 0, none⟩ fun a101 =>
    LDA 13 h100 x_3 fun a102 =>
    CALL prg f_spec_SamePipe #[.agg a101, .agg a102] (fun q103 h104 =>
    asB q103 fun b105 =>
    BIF b105 (
    oF .f32 (cell h104 ⟨g86, 11, none⟩) fun r106 =>
    Post (.bool (FloatKind.f32.format.order r106 1056964608 == some .eq)) h104) (
    Post (.bool false) h104)) h100) (
    Post (.bool false) h100)) (
    Post (.bool false) h100)) h93) h88) h81) h
def laws_FnPipeTexts.j12 (Post : Value → Heap → Prop) : Frame → Heap → Prop := fun fr h => GRD (shape (kds 138 [(3, .p)]) fr) (laws_FnPipeTexts.J12 Post (gP (lget fr 3)) h)
def laws_FnPipeTexts.S (code_0b : Option Addr) (code_0l code_0c : Nat) (Post : Value → Heap → Prop) (h : Heap) : Prop :=
    CALL prg f_laws_f6big #[.slice code_0b code_0l code_0c] (fun q1 h2 =>
    asB q1 fun b3 =>
    BIF b3 (
    Post (.bool true) h2) (
    CALL prg f_spec_P6Pipe #[.slice code_0b code_0l code_0c] (fun q4 h5 =>
    asA q4 fun a6 =>
    ALC ⟨Z_impl_Pipe⟩ T_impl_Pipe (fun g7 h8 =>
    STA 13 h8 ⟨g7, 0, none⟩ a6 fun h9 =>
    LDA 13 h9 ⟨g7, 0, none⟩ fun a10 =>
    CALL prg f_impl_PipeText #[.agg a10] (fun q11 h12 =>
    asS q11 fun s13 =>
    CALL prg f_impl_ReadPipe #[.string s13] (fun q14 h15 =>
    TUP2 q14 fun q16 q17 =>
    asA q16 fun a18 =>
    asI .i64 q17 fun n19 =>
    ALC ⟨Z_impl_Pipe⟩ T_impl_Pipe (fun g20 h21 =>
    STA 13 h21 ⟨g20, 0, none⟩ a18 fun h22 =>
    LDA 13 h22 ⟨g7, 0, none⟩ fun a23 =>
    CALL prg f_impl_MutePipe #[.agg a23] (fun q24 h25 =>
    TUP2 q24 fun q26 q27 =>
    asA q26 fun a28 =>
    asI .i64 q27 fun n29 =>
    ALC ⟨Z_impl_Pipe⟩ T_impl_Pipe (fun g30 h31 =>
    STA 13 h31 ⟨g30, 0, none⟩ a28 fun h32 =>
    LDA 13 h32 ⟨g7, 0, none⟩ fun a33 =>
    CALL prg f_spec_MutePipe #[.agg a33] (fun q34 h35 =>
    TUP2 q34 fun q36 q37 =>
    asA q36 fun a38 =>
    asI .i64 q37 fun n39 =>
    ALC ⟨Z_impl_Pipe⟩ T_impl_Pipe (fun g40 h41 =>
    STA 13 h41 ⟨g40, 0, none⟩ a38 fun h42 =>
    LDA 13 h42 ⟨g40, 0, none⟩ fun a43 =>
    CALL prg f_impl_IsSilentPipe #[.agg a43] (fun q44 h45 =>
    TUP2 q44 fun q46 q47 =>
    asB q46 fun b48 =>
    asI .i64 q47 fun n49 =>
    LDA 13 h45 ⟨g7, 0, none⟩ fun a50 =>
    CALL prg f_impl_LengthOfPipe #[.agg a50] (fun q51 h52 =>
    TUP2 q51 fun q53 q54 =>
    asI .i64 q53 fun n55 =>
    asI .i64 q54 fun n56 =>
    LDA 13 h52 ⟨g40, 0, none⟩ fun a57 =>
    CALL prg f_impl_EnergyOfPipe #[.agg a57] (fun q58 h59 =>
    TUP2 q58 fun q60 q61 =>
    asF .f64 q60 fun r62 =>
    asI .i64 q61 fun n63 =>
    BIF (n19 != (0 : Int)) (
    Post (.bool false) h59) (
    LDA 13 h59 ⟨g20, 0, none⟩ fun a64 =>
    LDA 13 h59 ⟨g7, 0, none⟩ fun a65 =>
    CALL prg f_spec_SamePipe #[.agg a64, .agg a65] (fun q66 h67 =>
    asB q66 fun b68 =>
    BIF (!b68) (
    Post (.bool false) h67) (
    LDA 13 h67 ⟨g20, 0, none⟩ fun a69 =>
    LDA 13 h67 ⟨g7, 0, none⟩ fun a70 =>
    CALL prg f_impl_SamePipe #[.agg a69, .agg a70] (fun q71 h72 =>
    asB q71 fun b73 =>
    BIF (!b73) (
    Post (.bool false) h72) (
    BIF (n29 != n39) (
    Post (.bool false) h72) (
    BIF (n29 != (0 : Int)) (
    Post (.bool false) h72) (
    LDA 13 h72 ⟨g30, 0, none⟩ fun a74 =>
    LDA 13 h72 ⟨g40, 0, none⟩ fun a75 =>
    CALL prg f_spec_SamePipe #[.agg a74, .agg a75] (fun q76 h77 =>
    asB q76 fun b78 =>
    BIF (!b78) (
    Post (.bool false) h77) (
    BIF (n49 != (0 : Int)) (
    Post (.bool false) h77) (
    BIF (!b48) (
    Post (.bool false) h77) (
    BIF (n56 != (0 : Int)) (
    Post (.bool false) h77) (
    BIF ((decide (n55 < (2 : Int)))) (
    Post (.bool false) h77) (
    BIF (n63 != (0 : Int)) (
    Post (.bool false) h77) (
    BIF (FloatKind.f64.format.order r62 0 != some .eq) (
    Post (.bool false) h77) (
    laws_FnPipeTexts.J12 Post ⟨g7, 0, none⟩ h77)))))))) h72)))) h67)) h59)) h52) h45) h42) h35) h32) h25) h22) h15) h12) h9) h5) h2)) h
noncomputable def laws_FnPipeTexts.code : Code := (Tryz.f3.body).getD .skip
theorem laws_FnPipeTexts.call {code_0b : Option Addr} {code_0l code_0c : Nat} {Post : Value → Heap → Prop} {h : Heap} (H : laws_FnPipeTexts.S code_0b code_0l code_0c Post h) : CALL prg f_laws_FnPipeTexts #[.slice code_0b code_0l code_0c] Post h :=
  fn_call tau_ok mixed (c := laws_FnPipeTexts.code) (Λ := lookL [(12, laws_FnPipeTexts.j12 Post)]) Tryz.func3 (by kernel_rfl) (by kernel_rfl)
    (Rq.seq (by kernel_rfl) (Rq.free (by kernel_rfl)) (Rq.seq (by kernel_rfl) (Rq.free (by kernel_rfl)) (Rq.seq (by kernel_rfl) (Rq.free (by kernel_rfl)) (Rq.seq (by kernel_rfl) (Rq.free (by kernel_rfl)) (Rq.seq (by kernel_rfl) (Rq.free (by kernel_rfl)) (Rq.seq (by kernel_rfl) (Rq.free (by kernel_rfl)) (Rq.seq (by kernel_rfl) (Rq.free (by kernel_rfl)) (Rq.seq (by kernel_rfl) (Rq.free (by kernel_rfl)) (Rq.seq (by kernel_rfl) (Rq.free (by kernel_rfl)) (Rq.seqJ (laws_FnPipeTexts.j12 Post) (by kernel_rfl) (seg (fun _ _ => by kernel_rfl)) (Rq.free (by kernel_rfl))
(Rq.free (by kernel_rfl))))))))))))
    (Eq.mp (by kernel_rfl) H)

end Go.Sx
/- The law FnPipeTexts, as the program tells it. -/
set_option linter.unusedVariables false
set_option linter.unusedSimpArgs false
namespace Go.Sx
open Go.Proofs
set_option maxRecDepth 100000
set_option maxHeartbeats 2000000

section
variable {h hh : Heap} {x : GPipe} {px : Addr}
theorem pipe_reed {a b : Nat} (h : x.ok = true) (fa : fin a = true) (fb : fin b = true) : fin x.Rest = true ∧ fin x.Slope = true ∧ ({ x with Rest := a, Slope := b } : GPipe).ok = true := by
  rw [pipe_ok] at h ⊢
  simp only [Bool.and_eq_true] at h ⊢
  exact ⟨h.1.2, h.2, ⟨⟨h.1.1, fa⟩, fb⟩⟩
theorem fp12 (X : Ext h hh) (R : RdP rPipe hh px x) (hok : x.ok = true) : laws_FnPipeTexts.J12 (TB2 h) px hh := by
  unfold laws_FnPipeTexts.J12
  have fa : fin 1056964608 = true := by decide +kernel
  have fb : fin 3196059648 = true := by decide +kernel
  have ka : FW .f32 1056964608 1056964608 := fw_c32 (by decide) (by decide)
  have kb : FW .f32 3196059648 3196059648 := fw_c32 (by decide) (by decide)
  obtain ⟨fr, fs, hok2⟩ := pipe_reed hok fa fb
  refine R.lda1 rfl fun c1 R1 => (impl_WithReed_c R1 hok ka kb fa fb).mono ?_
  rintro _ h2 ⟨c2, B2, rfl, O2, M2⟩
  refine tup2 (as_a (as_i (keepR O2 rfl rfl M2 fun g3 h3 x3 Y => ?_)))
  refine Y.lda1 rfl fun c4 R4 => (R.ext x3).oF (off := 11) fun y1 k1 => (R.ext x3).oF (off := 12) fun y2 k2 => (impl_WithReed_c R4 hok2 k1 k2 fr fs).mono ?_
  rintro _ h5 ⟨c5, B5, rfl, O5, M5⟩
  refine tup2 (as_a (as_i (keepR O5 rfl rfl M5 fun g6 h6 x6 W => ?_)))
  have W : RdP rPipe h6 ⟨g6, 0, none⟩ x := W
  refine br_t rfl (br_t rfl (W.lda1 rfl fun c7 R7 => (R.ext (x3.trans x6)).lda1 rfl fun c8 R8 => same_t (spec_SamePipe_c R7 R8) fun h9 x9 => as_b (br_t rfl ?_)))
  refine (Y.ext (x6.trans x9)).oF2 (off := 11) fun r hr => ⟨?_, X.trans (x3.trans (x6.trans x9))⟩
  have e := ord_eq hr ka
  rw [e]
  have k : (FloatKind.f32.format.order 1056964608 1056964608 == some .eq) = true := by decide +kernel
  exact congrArg Value.bool k
theorem FnPipeTexts_c {cb : Option Addr} {cc : Nat} {code : List Int} (T : Txt h) (C : Cells h cb (iv .u8 code)) (hbc : Byt' code) :
    CALL prg f_laws_FnPipeTexts #[.slice cb code.length cc] (fun u h' => u = .bool true ∧ Ext h h') h := by
  refine laws_FnPipeTexts.call (goX f6big_c fun h1 x1 => as_b (br (fun _ => ⟨rfl, x1⟩) fun _ => ?_))
  refine (P6Pipe_c (Mem.start h1) (C.ext x1) hbc).mono ?_
  rintro _ h2 ⟨c2, B2, x, rfl, O, hok, M2⟩
  refine as_a (keepR O rfl rfl (by simpa using M2) fun g3 h3 x3 R => ?_)
  have X := x1.trans x3
  have T := T.ext X
  have hmk := pmute_ok hok
  refine R.lda1 rfl fun c4 R4 => goX (PipeText_c R4 hok T) fun h5 x5 => as_s ((ReadPipe_ok hok (pipe_a R hok) (T.ext x5)).mono ?_)
  rintro _ h6 ⟨c6, B6, rfl, O6, M6⟩
  refine tup2 (as_a (as_i (keepR O6 rfl rfl M6 fun g7 h7 x7 RB => ?_)))
  have X7 := x5.trans x7
  refine (R.ext X7).lda1 rfl fun c8 R8 => (impl_MutePipe_c R8 hok).mono ?_
  rintro _ h9 ⟨c9, B9, rfl, O9, M9⟩
  refine tup2 (as_a (as_i (keepR O9 rfl rfl M9 fun g10 h10 x10 MI => ?_)))
  have X10 := X7.trans x10
  refine (R.ext X10).lda1 rfl fun c11 R11 => (spec_MutePipe_c R11 hok).mono ?_
  rintro _ h12 ⟨c12, B12, rfl, O12, M12⟩
  refine tup2 (as_a (as_i (keepR O12 rfl rfl M12 fun g13 h13 x13 MS => ?_)))
  have X13 := X10.trans x13
  refine MS.lda1 rfl fun c14 R14 => goX (impl_IsSilentPipe_c R14 hmk) fun h14 x14 => tup2 (as_b (as_i ?_))
  have X14 := X13.trans x14
  refine (R.ext X14).lda1 rfl fun c15 R15 => (impl_LengthOfPipe_c R15 hok).mono ?_
  rintro _ h15 ⟨n, rfl, hn, x15⟩
  refine tup2 (as_i (as_i ((MS.ext (x14.trans x15)).lda1 rfl fun c16 R16 => (impl_EnergyOfPipe_c0 R16 hmk (pmute_zeros hok)).mono ?_)))
  rintro _ h16 ⟨r, rfl, hr, x16⟩
  have X16 := X14.trans (x15.trans x16)
  have RB := RB.ext (x10.trans (x13.trans (x14.trans (x15.trans x16))))
  refine tup2 (as_f (as_i (br_f rfl (RB.lda1 rfl fun c17 R17 => (R.ext X16).lda1 rfl fun c18 R18 => same_t (spec_SamePipe_c R17 R18) fun h17 x17 => as_b (br_f rfl ?_)))))
  refine (RB.ext x17).lda1 rfl fun c19 R19 => (R.ext (X16.trans x17)).lda1 rfl fun c20 R20 => same_t (SamePipe_c R19 R20) fun h18 x18 => as_b (br_f rfl (br_f rfl (br_f rfl ?_)))
  have Y18 := x17.trans x18
  have X18 := X16.trans Y18
  refine (MI.ext (x13.trans (x14.trans (x15.trans (x16.trans Y18))))).lda1 rfl fun c21 R21 => (MS.ext (x14.trans (x15.trans (x16.trans Y18)))).lda1 rfl fun c22 R22 => same_t (spec_SamePipe_c R21 R22) fun h19 x19 => as_b (br_f rfl (br_f rfl (br_f ?_ (br_f rfl (br_f ?_ (br_f rfl (br_f ?_ ?_)))))))
  · rw [pmute_silent hok]; rfl
  · exact decide_eq_false (by omega)
  · rw [ord_eq hr (fw_c64 (by decide) (by decide))]; decide +kernel
  · exact fp12 (X.trans (X18.trans x19)) (R.ext (X18.trans x19)) hok
end
end Go.Sx
/- From what a law's call answers to the given row, where the row lists tables that the call reads. -/
namespace Go.Sx
open Go.ChangeShapes Go.WideShapes Go.ChangeAt Go.RowKit
set_option linter.unusedVariables false
/-- The same, where the call finds the program's variables as their types have them. -/
theorem law_returns_libs {H : Type} {enc : TypeId × Value → H} {C : Checked} {os : Os} {f : FuncId} {fn : Func} {s : ChangeSpec} {conds : List PathCond} {tb : TypeId} {laidL : List (String × DataW Unit)}
    (own : ownKnob C.prog.godebug = none) (started : os.Started) (noInit : C.prog.inits.idxOf? f = none) (hfn : C.prog.funcs[f]? = some fn) (hb : fn.body.isNone = false)
    (hn : (fn.name == "runtime.NumGoroutine") = false) (hvars : s.vars = []) (hspec : ∀ ds : List (DataW H), ds.length = fn.params.toList.length → s.fn H ds = { results := [.lit (.bool true)], args := ds })
    (hres : fn.resultTypes = #[tb]) (htb : C.prog.underlying tb = some .bool) (laid : laidOutB C.prog = true) (hread : ∀ t ∈ fn.params.toList, C.prog.readableRec t = true ∧ t < C.prog.types.size)
    (witness : ∃ (w : World) (tape : Tape) (i : Input), w.os = os ∧ (w.forCall tape i).Shaped C.prog ∧ i.vars = [] ∧ Input.okWide C.prog (w.forCall tape i) .any w.heap.size f i ∧
      ((s.pre enc C.prog fn conds false (w.forCall tape i).memory i.args ∧ laidMetH C.prog laidL (w.forCall tape i).memory) ∧ sizedMet enc C.prog fn (OpenSpec.ofChange s) false (w.forCall tape i).memory i.args) ∧ ({} : Assume).holds C.prog (lone (Frame.enter C.prog f i.args .normal) [] (w.forCall tape i)))
    (walk : ∀ (W : World) (base : Nat) (args : Array Value) (ds : List (DataW H)) (p : List MemPlace), DataW.TrodAll enc C.prog W 0 (fun _ => true) true fn.params.toList args.toList ds p →
      (∀ (j : Nat) t v, fn.params[j]? = some t → args[j]? = some v → Value.okWide C.prog W .any base t v) →
      (DataW.weightsEach C.prog (fn.params.toList ++ s.plain.varTypes C.prog) (ds ++ [])).all (· ≤ reachBytes) = true → laidMetH C.prog laidL W → W.ShapedOpen C.prog →
      CALL C.prog f args (fun u h' => u = .bool true ∧ Ext W.heap h') W.heap) :
    ReturnsInHanded {} C os f .any (fun w args => (s.pre enc C.prog fn conds false w args ∧ laidMetH C.prog laidL w) ∧ sizedMet enc C.prog fn (OpenSpec.ofChange s) false w args) (s.post enc C.prog fn false true false false) := by
  refine returnsInHanded_of_calls own started noInit witness ?_
  intro w tape i _ hS _ hok hpre hholds
  obtain ⟨_, _, _, fn', hfn', _, _, _, _, hval⟩ := hok
  have e : fn' = fn := Option.some.inj (hfn'.symm.trans hfn)
  subst e
  obtain ⟨⟨⟨ds, gs, before, hw, hc⟩, hx⟩, hz⟩ := hpre
  have hW := DataW.Whole.of_heap (w' := w.forCall tape i) (by rfl) hw
  have hL : laidMetH C.prog laidL (w.forCall tape i) := hx.of_heap (by rfl)
  have hsz := hz.weights hw
  have hW' := hW
  obtain ⟨p, q, hA, hV, rfl, hfz, hnd⟩ := hW
  rw [hvars] at hV
  obtain ⟨rfl, rfl⟩ := trodVars_none hV
  refine (calls_of_CALL hfn hb hn (walk (w.forCall tape i) w.heap.size i.args ds p hA hval hsz hL hS)).mono fun e W' ⟨v, he, hs, hv, hx⟩ => ?_
  subst he; subst hv
  refine ChangeSpec.post_blind ?_
  have bel := below_of hs hx
  have hl := trodAll_length hA
  refine ⟨ds, [], _, [], p, [], hW', ?_, ?_, ?_, bel.frame _, fun h => by cases h⟩
  · rw [List.append_nil, hspec ds hl, hres]; exact trodAll_mk1 (shut_bool htb true)
  · rw [List.append_nil, hspec ds hl]; exact trodAll_back laid bel hread hA
  · rw [List.append_nil, hspec ds hl, hvars]; rfl
/-- A table on the list is where the program has it, in every later world. -/
theorem laid_var {P : Program} {W : World} : ∀ {l : List (String × DataW Unit)} {ps : List MemPlace}, DataW.LaidVars P W l ps → ∀ n d, (n, d) ∈ l →
    ∃ g t cs fuel p, P.globalNamed n = some g ∧ (P.globals[g]?).map (·.type) = some t ∧ W.var? P n = some cs ∧ DataW.trod (fun _ => ()) P W 0 (fun _ => true) false fuel t cs.toList = some (d, p)
  | [], _, _, _, _, hm => by cases hm
  | (n', d') :: r, ps, h, n, d, hm => by
    obtain ⟨g, t, cs, fuel, p, q, h1, h2, h3, h4, h5, _⟩ := h
    rcases List.mem_cons.1 hm with e | e
    · cases e
      exact ⟨g, t, cs, fuel, p, h1, h2, h3, h4⟩
    · exact laid_var h5 n d e
theorem var_ext {P : Program} {W w : World} {n : String} {cs : Array Value} (h : W.var? P n = some cs) (X : Ext W.heap w.heap) : w.var? P n = some cs := by
  unfold World.var? at *
  cases hg : P.globalNamed n with
  | none => rw [hg] at h; cases h
  | some g =>
    rw [hg] at h
    simp only [Option.bind_some] at h ⊢
    cases ho : W.heap[g]? with
    | none => rw [ho] at h; cases h
    | some o =>
      rw [X.eq g (Array.getElem?_eq_some_iff.1 ho).1]
      exact h
theorem laid_tab {P : Program} {W : World} {l : List (String × DataW Unit)} {name : String} {k : IntKind} {zs : List Int} {g : Nat} {t e : TypeId} {n : Nat}
    (hg : P.globalNamed name = some g) (hty : (P.globals[g]?).map (·.type) = some t) (ht : P.underlying t = some (.array n e)) (he : P.underlying e = some (.int k)) (hce : P.cellsOf e = 1) (hct : P.cellsOf t = n)
    (h : laidMet P l W) (hm : (name, Lib.tabData k zs) ∈ l) : ∀ w : World, Ext W.heap w.heap → Lib.TabIs P w name k zs := by
  obtain ⟨ps, hv, _⟩ := h
  obtain ⟨g', t', cs, fuel, p, hg', ht', hvar, hd⟩ := laid_var hv _ _ hm
  obtain rfl := Option.some.inj (hg.symm.trans hg')
  obtain rfl := Option.some.inj (hty.symm.trans ht')
  intro w X
  unfold Lib.TabIs
  rw [var_ext hvar X, ← Lib.cells_of_tab ht he hce hct hd]
/-- A variable on the list that holds an interface's value. -/
theorem laid_iface {P : Program} {W : World} {l : List (String × DataW Unit)} {name nm : String} {d : DataW Unit} {g : Nat} {ti : TypeId} {ms : Array (String × TypeId)}
    (hg : P.globalNamed name = some g) (hty : (P.globals[g]?).map (·.type) = some ti) (hi : P.underlying ti = some (.interface ms)) (h : laidMet P l W) (hm : (name, .iface nm d) ∈ l) : ∃ ev, cell W.heap ⟨g, 0, none⟩ = some ev ∧ (ev = .nilIface ∨ ∃ te pe, ev = .iface te pe) := by
  obtain ⟨ps, hv, _⟩ := h
  obtain ⟨g', t', cs, fuel, p, hg', ht', hvar, hd⟩ := laid_var hv _ _ hm
  obtain rfl := Option.some.inj (hg.symm.trans hg')
  obtain rfl := Option.some.inj (hty.symm.trans ht')
  obtain ⟨f1, u, v, e, hn, h1⟩ := iface_of_trod hi hd
  have h0 := World.var?_cell hg hvar 0
  rw [← Array.getElem?_toList, e] at h0
  exact ⟨_, h0, .inr ⟨u, v, rfl⟩⟩
end Go.Sx
/- The table that the counting of zeros reads, off a row's list. -/
namespace Go.Sx
open Go.Proofs
theorem laid_bru {W : World} {l : List (String × DataW Unit)} {t e : TypeId} (hg : prg.globalNamed "math/bits.deBruijn64tab" = some (R27.g 1)) (hty : (prg.globals[R27.g 1]?).map (·.type) = some t) (ht : prg.underlying t = some (.array 64 e)) (he : prg.underlying e = some (.int .u8)) (hce : prg.cellsOf e = 1) (hct : prg.cellsOf t = 64)
    (h : laidMet prg l W) (hm : ("math/bits.deBruijn64tab", Lib.tabData .u8 (Lib.deBruijn64tab.map fun n : Nat => (n : Int))) ∈ l) : Bru W.heap := by
  intro w X j hj
  have := Lib.TabIs.cell (laid_tab hg hty ht he hce hct h hm w X) hg j (by simpa using hj)
  rw [this]
  simp [List.getD, hj]
end Go.Sx
