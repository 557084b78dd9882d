/- The law FnStrings, as the program tells it. -/
import Derived.Test.YtgbjfohgmpmjoaaGreatDoorST
import Derived.Test.YtgbjfohgmpmjoaaGreatDoorSD
import Derived.Test.YtgbjfohgmpmjoaaGreatDoorLk89
import Derived.Test.YtgbjfohgmpmjoaaGreatDoorLk45
import Derived.Test.YtgbjfohgmpmjoaaGreatDoorLx2
import Derived.Lib.LaidTab
import Derived.Test.YtgbjfohgmpmjoaaGreatDoorTF
set_option linter.unusedVariables false
set_option linter.unusedSimpArgs false
namespace Go.Sx
open Go.Proofs
set_option maxRecDepth 100000
set_option maxHeartbeats 2000000

section
variable {h hh : Heap} {x : GString} {px : Addr}
theorem fs22 (X : Ext h hh) (T : Txt hh) (R : RdP rString hh px x) (hok : x.ok = true) : laws_FnStrings.J22 (TB2 h) px hh := by
  unfold laws_FnStrings.J22
  obtain ⟨hsil, hmok⟩ := str_nil hok
  have A := str_a R hok
  refine R.lda1 rfl fun c1 R1 => goX (StringText_c R1 hok T) fun h1 x1 => as_s ((ReadString_ok hok A (T.ext x1)).mono ?_)
  rintro _ h2 ⟨c2, B2, rfl, O2, M2⟩
  refine tup2 (as_a (as_i (keepR O2 rfl rfl M2 fun g3 h3 x3 RB => ?_)))
  have X3 := x1.trans x3
  refine (R.ext X3).lda1 rfl fun c4 R4 => (impl_MuteString_c R4 hok).mono ?_
  rintro _ h4 ⟨c5, B5, rfl, O5, M5⟩
  refine tup2 (as_a (as_i (keepR O5 rfl rfl M5 fun g5 h5 x5 MI => ?_)))
  have X5 := X3.trans x5
  refine MI.lda1 rfl fun c6 R6 => goX (impl_IsSilentString_c R6 hmok) fun h6 x6 => tup2 (as_b (as_i ?_))
  refine (MI.ext x6).lda1 rfl fun c7 R7 => goX (impl_StepsToSilence_c0 R7 hmok hsil) fun h7 x7 => tup2 (as_i (as_i (br_t rfl ?_)))
  have X7 := X5.trans (x6.trans x7)
  refine (RB.ext (x5.trans (x6.trans x7))).lda1 rfl fun c8 R8 => (R.ext X7).lda1 rfl fun c9 R9 => same_t (spec_SameString_c R8 R9) fun h8 x8 => as_b (br_t rfl (br_t rfl (br_t rfl (br_t hsil (br_t rfl ⟨rfl, X.trans (X7.trans x8)⟩)))))
end
section
variable {h hh : Heap} {cb mb : Option Addr} {cc mc : Nat} {code more : List Int} {x : GString} {bs : List Nat} {p5 : Addr}
theorem rep_app (a b : Nat) : List.replicate (a + b) 0 = List.replicate a 0 ++ List.replicate b 0 := by rw [List.replicate_append_replicate]
theorem fs16 (X : Ext h hh) (T : Txt hh) (G : Reads hh cb mb code more) (R : RdP rString hh p5 x) (hok : x.ok = true) : laws_FnStrings.J16 (TB2 h) mb more.length mc p5 hh := by
  unfold laws_FnStrings.J16
  have hm : (4097 : Nat) ≤ maxLen := by decide
  refine (A2Digit_c (Mem.start hh) G.m G.bm (by decide) (by decide)).mono ?_
  rintro _ h1 ⟨v, rfl, v0, v1, M1⟩
  obtain ⟨k, rfl⟩ := Int.eq_ofNat_of_zero_le v0
  refine as_i ((R.ext M1.ext).lda1 rfl fun c2 R2 => (impl_PlayString_c R2 hok (by omega)).mono ?_)
  rintro _ h3 ⟨c3, B3, b3, l3, k3, C3, rfl, O3, S3, M3⟩
  refine tup3 (as_a (as_l (as_i (keepS O3 S3 rfl rfl M3 fun g4 h4 x4 P Sp => ?_))))
  have X4 := M1.ext.trans x4
  have hpk : (playG GString.step x (List.replicate k 0)).1.ok = true := playS_ok hok _
  rw [wrap64 (n := 30 - (k : Int)) (by omega) (by omega), show (30 : Int) - (k : Int) = ((30 - k : Nat) : Int) by omega]
  refine P.lda1 rfl fun c5 R5 => (impl_PlayString_c R5 hpk (by omega)).mono ?_
  rintro _ h6 ⟨c6, B6, b6, l6, k6, C6, rfl, O6, S6, M6⟩
  refine tup3 (as_a (as_l (as_i (keepS O6 S6 rfl rfl M6 fun g7 h7 x7 Q Sq => ?_))))
  have X7 := X4.trans x7
  refine (R.ext X7).lda1 rfl fun c8 R8 => (impl_PlayString_c (k := 30) R8 hok (by omega)).mono ?_
  rintro _ h9 ⟨c9, B9, b9, l9, k9, C9, rfl, O9, S9, M9⟩
  refine tup3 (as_a (as_l (as_i (keepS O9 S9 rfl rfl M9 fun g10 h10 x10 W Sw => ?_))))
  have X10 := X7.trans x10
  have e := playG_append GString.step x (List.replicate k 0) (List.replicate (30 - k) 0)
  rw [← rep_app, show k + (30 - k) = 30 by omega] at e
  have e1 : (playG GString.step x (List.replicate 30 0)).1 = (playG GString.step (playG GString.step x (List.replicate k 0)).1 (List.replicate (30 - k) 0)).1 := by rw [e]
  have e2 : (playG GString.step x (List.replicate 30 0)).2 = (playG GString.step x (List.replicate k 0)).2 ++ (playG GString.step (playG GString.step x (List.replicate k 0)).1 (List.replicate (30 - k) 0)).2 := by rw [e]
  rw [e1] at W
  rw [e2] at Sw
  refine br_f rfl (br_f rfl (br_f rfl ((Q.ext x10).lda1 rfl fun c11 R11 => W.lda1 rfl fun c12 R12 => same_t (spec_SameString_c R11 R12) fun h11 x11 => as_b (br_f rfl ?_))))
  have X11 := X10.trans x11
  have l3k : l3 = k := by rw [← Sp.len, playG_len', List.length_replicate]
  have l6k : l6 = 30 - k := by rw [← Sq.len, playG_len', List.length_replicate]
  refine (Mem.start h11).alc fun g7 h12 x12 N2 => append_copy E_sl_float32 (by decide) (flat_F _) (Sp.ext (x7.trans (x10.trans (x11.trans x12)))) N2 (by omega) fun b13 c13 h13 B13 O13 N13 => as_l ?_
  refine app_slr (L := []) E_sl_float32 (by decide) (flat_F _) O13 (Sq.ext (x10.trans (x11.trans N13.ext))) (by simpa using N13) (by omega) (by omega) fun b14 c14 h14 B14 O14 N14 => as_l ?_
  refine same_t (SameSamples_c (O14.look N14 (List.sublist_append_left _ _)) (Sw.ext (x11.trans N14.ext))) fun h15 x15 => as_b (br_f rfl ?_)
  have XX := X11.trans (N14.ext.trans x15)
  exact fs22 (X.trans XX) (T.ext XX) (R.ext XX) hok
/-- The first loop. -/
def sI8 (h0 : Heap) (x : GString) (bs : List Nat) (mb : Option Addr) (ml mc : Nat) (p5 p6 p7 p8 : Addr) (g : Nat) (y : Option Addr × Nat × Nat × Addr × Addr × Addr × Addr × Int × Addr × Int) (hh : Heap) : Prop :=
  ∃ (i : Nat) (cs : Array Value) (B : List Blk), y = (mb, ml, mc, p5, p6, p7, p8, 0, ⟨g, 0, none⟩, (i : Int)) ∧ i ≤ 16 ∧ (∀ h' W, Mem h0 h' W → B.Sublist W → rString.rd h' cs.toList (gN GString.step x bs i)) ∧ Mem h0 hh ((g, T_impl_String, cs) :: B)
theorem FnStrings_c (T : Txt h) (C : Cells h cb (iv .u8 code)) (Cm : Cells h mb (iv .u8 more)) (hbc : Byt' code) (hbm : Byt' more) :
    CALL prg f_laws_FnStrings #[.slice cb code.length cc, .slice mb more.length mc] (fun u h' => u = .bool true ∧ Ext h h') h := by
  have G : Reads h cb mb code more := ⟨C, Cm, hbc, hbm⟩
  refine laws_FnStrings.call (a2Long_c.mono ?_)
  rintro _ h1 ⟨b, rfl, x1⟩
  refine as_b (br (fun _ => ⟨rfl, x1⟩) fun _ => ?_)
  have G := G.ext x1
  refine (A2String_c (Mem.start h1) G.c G.bc).mono ?_
  rintro _ h2 ⟨c2, B2, x, rfl, O, hok, M2⟩
  refine as_a (keepR O rfl rfl (by simpa using M2) fun g3 h3 x3 F => ?_)
  have X := x1.trans x3
  have G := G.ext x3
  refine (A2Block_c (Mem.start h3) G.m G.bm).mono ?_
  rintro _ h4 ⟨ca, bs, rfl, Fb, M4⟩
  refine as_a (keepB Fb rfl fun g5 h5 x5 B => ?_)
  have X := X.trans (M4.ext.trans x5)
  have G := G.ext (M4.ext.trans x5)
  have F := F.ext (M4.ext.trans x5)
  have hbs : bs.length = 16 := Fb.1
  refine F.lda1 rfl fun v1 R1 => B.ldB fun c1 F1 => (impl_BlockOfString_c R1 F1 hok).mono ?_
  rintro _ h6 ⟨c6, B6, cb6, rfl, O6, F6, M6⟩
  refine tup3 (as_a (as_a (as_i (M6.alc fun g7 h7 x7 M => M.alc fun g8 h8 x8 M => M.sta0 (.there .here) (osz O6 rfl) (rString.oone O6) rfl (.there .here) fun h9 M => M.sta0 .here F6.size F6.one rfl .here fun h10 M => ?_))))
  have Gf : RdP rString h10 ⟨g7, 0, none⟩ _ := M.rdp (.there .here) (rString.look O6 M ((List.sublist_cons_self _ _).trans (List.sublist_cons_self _ _)))
  have Ob : RdP rBlk h10 ⟨g8, 0, none⟩ _ := M.rdp .here (F6.rd _)
  have X := X.trans M.ext
  have G := G.ext M.ext
  have F := F.ext M.ext
  have B := B.ext M.ext
  have T := T.ext X
  refine F.lda1 rfl fun v3 R3 => (Mem.start h10).alc fun g9 h11 x11 M => M.sta0 .here (rsz R3 rfl) (rString.rone R3) rfl .here fun h12 M => ?_
  refine loop (sI8 h10 x bs mb more.length mc ⟨g3, 0, none⟩ ⟨g5, 0, none⟩ ⟨g7, 0, none⟩ ⟨g8, 0, none⟩ g9) (fun y => (16 - y.2.2.2.2.2.2.2.2.2).toNat) ⟨0, v3, [], rfl, by omega, fun h' W N _ => rString.ext N.ext R3, M⟩ ?_
  clear M
  rintro y h13 ⟨i, cz, Bz, rfl, hi, Oz, M⟩
  have E := M.ext
  have Rz := Oz _ _ M (List.sublist_cons_self _ _)
  have sz : cz.size = 15 := rsz Rz rfl
  refine brd (fun hc => ?_) fun hc => ?_
  · have hio : (gN GString.step x bs i).ok = true := playS_ok hok _
    have Rb := (B.ext E).elem (i := i) (show i < 16 by omega)
    refine M.lda0 .here sz (idx (by omega) (by omega) ?_)
    rw [add1]
    refine Rb.oF1 fun r hr => ?_
    have PN : ∀ {h2 : Heap} {p : Prop} {W : List Blk}, Mem h10 h2 W → Look W g9 cz → Ext h13 h2 → p → PIN h13 ((⟨g5, 0, none⟩ : Addr).add (i * (rF .f32).sz)) 1 h2 (PIN h13 ⟨g9, 0, none⟩ 15 h2 p) := fun N l X H => Rb.pin rfl X (M.pin2 .here N l H)
    have fin : ∀ {h2 : Heap} {gf z : Nat} {c2 : Array Value} {B2 : List Blk}, Mem h10 h2 ((gf, T_impl_String, c2) :: (g9, T_impl_String, cz) :: B2) → rString.ow B2 c2.toList ((gN GString.step x bs i).step bs[i]!).1 → FW .f32 z ((gN GString.step x bs i).step bs[i]!).2 →
        laws_FnStrings.J11 (fun y' h6 => sI8 h10 x bs mb more.length mc ⟨g3, 0, none⟩ ⟨g5, 0, none⟩ ⟨g7, 0, none⟩ ⟨g8, 0, none⟩ g9 y' h6 ∧ (16 - y'.2.2.2.2.2.2.2.2.2).toNat < (16 - (i : Int)).toNat) (TB2 h) mb more.length mc ⟨g3, 0, none⟩ ⟨g5, 0, none⟩ ⟨g7, 0, none⟩ ⟨g8, 0, none⟩ 0 ⟨g9, 0, none⟩ (i : Int) ⟨gf, 0, none⟩ z 0 h2 := fun {h2 gf z c2 B2} N O2 hz => by
      unfold laws_FnStrings.J11
      have Ro := (Ob.ext N.ext).elem (i := i) (show i < 16 by omega)
      refine br_f rfl (idx (by omega) (by omega) ?_)
      rw [add1]
      refine Ro.oF1 fun r2 hr2 => goM N (SameSample_c hz hr2 _) fun h3 N => as_b ?_
      rw [out_get hbs (by omega)]
      refine br_f (by unfold outN; simp) (N.lda0 .here (osz O2 rfl) (N.sta0 (.there .here) (osz O2 rfl) (rString.oone O2) sz (.there .here) fun h4 N => ⟨⟨i + 1, c2, B2, by rw [wrap64_succ (by omega)], by omega, fun h' W N' s => by rw [gN_step (by omega)]; exact rString.look O2 N' s, N.drop⟩, by rw [wrap64_succ (by omega)]; show _ < _; simp; omega⟩))
    refine ⟨(impl_StepString_c Rz hio hr).mono ?_, ?_⟩
    · rintro _ h2 ⟨c2, B2, z, rfl, O2, hz, N2⟩
      refine tup3 (as_a (as_f (as_i ((M.join N2).alc fun g3 h3 x3 N => PN N (.there (Look.skip .here)) (N2.ext.trans x3) (N.sta0 .here (osz O2 rfl) (rString.oone O2) rfl .here fun h4 N => fin (N.cnt fun p => ?_) O2 hz)))))
      simp only [List.append_eq, cnt_app, cnt_cons, cnt_nil]; omega
    · refine M.alc fun g3 h3 x3 N => PN N (.there .here) x3 ((impl_StepString_c (Oz _ _ N ((List.sublist_cons_self _ _).trans (List.sublist_cons_self _ _))) hio hr).mono ?_)
      rintro _ h2 ⟨c2, B2, z, rfl, O2, hz, N2⟩
      have N := (N.join N2).cnt (W := (g3, T_impl_String, ⟨Z_impl_String⟩) :: (g9, T_impl_String, cz) :: B2) (fun p => by simp only [List.append_eq, cnt_app, cnt_cons, cnt_nil]; omega)
      exact tup3 (as_a (as_f (as_i (N.sta0 .here (osz O2 rfl) (rString.oone O2) rfl .here fun h4 N => fin N O2 hz))))
  obtain rfl : i = 16 := by omega
  rw [gN_all hbs] at Rz
  refine br_f rfl ((Gf.ext E).lda1 rfl fun v4 R4 => M.lda0 .here sz (same_t (SameString_c R4 Rz) fun h14 x14 => as_b (br_f rfl ?_)))
  refine ((Gf.ext E).ext x14).lda1 rfl fun v5 R5 => goX (ValidString_c R5) fun h15 x15 => as_b (br_f (by rw [playS_ok hok]; rfl) ?_)
  have XX := E.trans (x14.trans x15)
  exact fs16 (X.trans XX) (T.ext XX) (G.ext XX) (F.ext XX) hok
end
end Go.Sx
/- From what a law's call answers to the given row, where the row lists tables that the call reads. -/
namespace Go.Sx
open Go.ChangeShapes Go.WideShapes Go.ChangeAt Go.RowKit
set_option linter.unusedVariables false
/-- The same, where the call finds the program's variables as their types have them. -/
theorem law_returns_libs {H : Type} {enc : TypeId × Value → H} {C : Checked} {os : Os} {f : FuncId} {fn : Func} {s : ChangeSpec} {conds : List PathCond} {tb : TypeId} {laidL : List (String × DataW Unit)}
    (own : ownKnob C.prog.godebug = none) (started : os.Started) (noInit : C.prog.inits.idxOf? f = none) (hfn : C.prog.funcs[f]? = some fn) (hb : fn.body.isNone = false)
    (hn : (fn.name == "runtime.NumGoroutine") = false) (hvars : s.vars = []) (hspec : ∀ ds : List (DataW H), ds.length = fn.params.toList.length → s.fn H ds = { results := [.lit (.bool true)], args := ds })
    (hres : fn.resultTypes = #[tb]) (htb : C.prog.underlying tb = some .bool) (laid : laidOutB C.prog = true) (hread : ∀ t ∈ fn.params.toList, C.prog.readableRec t = true ∧ t < C.prog.types.size)
    (witness : ∃ (w : World) (tape : Tape) (i : Input), w.os = os ∧ (w.forCall tape i).Shaped C.prog ∧ i.vars = [] ∧ Input.okWide C.prog (w.forCall tape i) .any w.heap.size f i ∧
      ((s.pre enc C.prog fn conds false (w.forCall tape i).memory i.args ∧ laidMetH C.prog laidL (w.forCall tape i).memory) ∧ sizedMet enc C.prog fn (OpenSpec.ofChange s) false (w.forCall tape i).memory i.args) ∧ ({} : Assume).holds C.prog (lone (Frame.enter C.prog f i.args .normal) [] (w.forCall tape i)))
    (walk : ∀ (W : World) (base : Nat) (args : Array Value) (ds : List (DataW H)) (p : List MemPlace), DataW.TrodAll enc C.prog W 0 (fun _ => true) true fn.params.toList args.toList ds p →
      (∀ (j : Nat) t v, fn.params[j]? = some t → args[j]? = some v → Value.okWide C.prog W .any base t v) →
      (DataW.weightsEach C.prog (fn.params.toList ++ s.plain.varTypes C.prog) (ds ++ [])).all (· ≤ reachBytes) = true → laidMetH C.prog laidL W → W.ShapedOpen C.prog →
      CALL C.prog f args (fun u h' => u = .bool true ∧ Ext W.heap h') W.heap) :
    ReturnsInHanded {} C os f .any (fun w args => (s.pre enc C.prog fn conds false w args ∧ laidMetH C.prog laidL w) ∧ sizedMet enc C.prog fn (OpenSpec.ofChange s) false w args) (s.post enc C.prog fn false true false false) := by
  refine returnsInHanded_of_calls own started noInit witness ?_
  intro w tape i _ hS _ hok hpre hholds
  obtain ⟨_, _, _, fn', hfn', _, _, _, _, hval⟩ := hok
  have e : fn' = fn := Option.some.inj (hfn'.symm.trans hfn)
  subst e
  obtain ⟨⟨⟨ds, gs, before, hw, hc⟩, hx⟩, hz⟩ := hpre
  have hW := DataW.Whole.of_heap (w' := w.forCall tape i) (by rfl) hw
  have hL : laidMetH C.prog laidL (w.forCall tape i) := hx.of_heap (by rfl)
  have hsz := hz.weights hw
  have hW' := hW
  obtain ⟨p, q, hA, hV, rfl, hfz, hnd⟩ := hW
  rw [hvars] at hV
  obtain ⟨rfl, rfl⟩ := trodVars_none hV
  refine (calls_of_CALL hfn hb hn (walk (w.forCall tape i) w.heap.size i.args ds p hA hval hsz hL hS)).mono fun e W' ⟨v, he, hs, hv, hx⟩ => ?_
  subst he; subst hv
  refine ChangeSpec.post_blind ?_
  have bel := below_of hs hx
  have hl := trodAll_length hA
  refine ⟨ds, [], _, [], p, [], hW', ?_, ?_, ?_, bel.frame _, fun h => by cases h⟩
  · rw [List.append_nil, hspec ds hl, hres]; exact trodAll_mk1 (shut_bool htb true)
  · rw [List.append_nil, hspec ds hl]; exact trodAll_back laid bel hread hA
  · rw [List.append_nil, hspec ds hl, hvars]; rfl
/-- A table on the list is where the program has it, in every later world. -/
theorem laid_var {P : Program} {W : World} : ∀ {l : List (String × DataW Unit)} {ps : List MemPlace}, DataW.LaidVars P W l ps → ∀ n d, (n, d) ∈ l →
    ∃ g t cs fuel p, P.globalNamed n = some g ∧ (P.globals[g]?).map (·.type) = some t ∧ W.var? P n = some cs ∧ DataW.trod (fun _ => ()) P W 0 (fun _ => true) false fuel t cs.toList = some (d, p)
  | [], _, _, _, _, hm => by cases hm
  | (n', d') :: r, ps, h, n, d, hm => by
    obtain ⟨g, t, cs, fuel, p, q, h1, h2, h3, h4, h5, _⟩ := h
    rcases List.mem_cons.1 hm with e | e
    · cases e
      exact ⟨g, t, cs, fuel, p, h1, h2, h3, h4⟩
    · exact laid_var h5 n d e
theorem var_ext {P : Program} {W w : World} {n : String} {cs : Array Value} (h : W.var? P n = some cs) (X : Ext W.heap w.heap) : w.var? P n = some cs := by
  unfold World.var? at *
  cases hg : P.globalNamed n with
  | none => rw [hg] at h; cases h
  | some g =>
    rw [hg] at h
    simp only [Option.bind_some] at h ⊢
    cases ho : W.heap[g]? with
    | none => rw [ho] at h; cases h
    | some o =>
      rw [X.eq g (Array.getElem?_eq_some_iff.1 ho).1]
      exact h
theorem laid_tab {P : Program} {W : World} {l : List (String × DataW Unit)} {name : String} {k : IntKind} {zs : List Int} {g : Nat} {t e : TypeId} {n : Nat}
    (hg : P.globalNamed name = some g) (hty : (P.globals[g]?).map (·.type) = some t) (ht : P.underlying t = some (.array n e)) (he : P.underlying e = some (.int k)) (hce : P.cellsOf e = 1) (hct : P.cellsOf t = n)
    (h : laidMet P l W) (hm : (name, Lib.tabData k zs) ∈ l) : ∀ w : World, Ext W.heap w.heap → Lib.TabIs P w name k zs := by
  obtain ⟨ps, hv, _⟩ := h
  obtain ⟨g', t', cs, fuel, p, hg', ht', hvar, hd⟩ := laid_var hv _ _ hm
  obtain rfl := Option.some.inj (hg.symm.trans hg')
  obtain rfl := Option.some.inj (hty.symm.trans ht')
  intro w X
  unfold Lib.TabIs
  rw [var_ext hvar X, ← Lib.cells_of_tab ht he hce hct hd]
/-- A variable on the list that holds an interface's value. -/
theorem laid_iface {P : Program} {W : World} {l : List (String × DataW Unit)} {name nm : String} {d : DataW Unit} {g : Nat} {ti : TypeId} {ms : Array (String × TypeId)}
    (hg : P.globalNamed name = some g) (hty : (P.globals[g]?).map (·.type) = some ti) (hi : P.underlying ti = some (.interface ms)) (h : laidMet P l W) (hm : (name, .iface nm d) ∈ l) : ∃ ev, cell W.heap ⟨g, 0, none⟩ = some ev ∧ (ev = .nilIface ∨ ∃ te pe, ev = .iface te pe) := by
  obtain ⟨ps, hv, _⟩ := h
  obtain ⟨g', t', cs, fuel, p, hg', ht', hvar, hd⟩ := laid_var hv _ _ hm
  obtain rfl := Option.some.inj (hg.symm.trans hg')
  obtain rfl := Option.some.inj (hty.symm.trans ht')
  obtain ⟨f1, u, v, e, hn, h1⟩ := iface_of_trod hi hd
  have h0 := World.var?_cell hg hvar 0
  rw [← Array.getElem?_toList, e] at h0
  exact ⟨_, h0, .inr ⟨u, v, rfl⟩⟩
end Go.Sx
/- The table that the counting of zeros reads, off a row's list. -/
namespace Go.Sx
open Go.Proofs
theorem laid_bru {W : World} {l : List (String × DataW Unit)} {t e : TypeId} (hg : prg.globalNamed "math/bits.deBruijn64tab" = some (R27.g 1)) (hty : (prg.globals[R27.g 1]?).map (·.type) = some t) (ht : prg.underlying t = some (.array 64 e)) (he : prg.underlying e = some (.int .u8)) (hce : prg.cellsOf e = 1) (hct : prg.cellsOf t = 64)
    (h : laidMet prg l W) (hm : ("math/bits.deBruijn64tab", Lib.tabData .u8 (Lib.deBruijn64tab.map fun n : Nat => (n : Int))) ∈ l) : Bru W.heap := by
  intro w X j hj
  have := Lib.TabIs.cell (laid_tab hg hty ht he hce hct h hm w X) hg j (by simpa using hj)
  rw [this]
  simp [List.getD, hj]
end Go.Sx
