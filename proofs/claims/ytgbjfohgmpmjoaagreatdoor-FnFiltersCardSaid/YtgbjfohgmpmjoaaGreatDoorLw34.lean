/- The law FnFilters, as the program tells it. -/
import Derived.Test.YtgbjfohgmpmjoaaGreatDoorLk86
import Derived.Test.YtgbjfohgmpmjoaaGreatDoorLv8
import Derived.Test.YtgbjfohgmpmjoaaGreatDoorLk46
import Derived.Test.YtgbjfohgmpmjoaaGreatDoorLk21
import Derived.Test.YtgbjfohgmpmjoaaGreatDoorLk59
import Derived.Test.YtgbjfohgmpmjoaaGreatDoorTab
import Derived.Test.YtgbjfohgmpmjoaaGreatDoorFnFilters
import Derived.Test.YtgbjfohgmpmjoaaGreatDoorLx2
import Derived.Lib.LaidTab
import Derived.Test.YtgbjfohgmpmjoaaGreatDoorLvh
set_option linter.unusedVariables false
set_option linter.unusedSimpArgs false
namespace Go.Sx
open Go.Proofs
set_option maxRecDepth 100000
set_option maxHeartbeats 2000000

theorem out_get {α : Type} {st : α → Nat → α × Nat} {x : α} {xs : List Nat} (h : xs.length = 16) {i : Nat} (hi : i < 16) : (playG st x xs).2[i]! = outN st x xs i := by
  rw [← outN_all h, mapI_all (by decide), getElem!_pos _ i (by rw [List.length_map, List.length_range]; exact hi)]
  simp
abbrev rBlk : Rep (List Nat) := rArr 16 (rF .f32)
section
variable {h : Heap} {q : Addr} {f : GFilter} {xs : List Nat}
theorem RdP.ldF {K : Array Value → Prop} (R : RdP rFilter h q f) (H : ∀ v, rFilter.ow [] (flT v) f → K ⟨flT v⟩) : LDA 6 h q K :=
  R.lda1 rfl fun c R1 => by
    obtain ⟨v, e, O⟩ := filter_cells R1
    have e : c = ⟨flT v⟩ := by cases c; exact congrArg Array.mk e
    rw [e]; exact H v O
theorem RdP.ldB {K : Array Value → Prop} (R : RdP rBlk h q xs) (H : ∀ ca, FA 16 ca xs → K ca) : LDA 16 h q K := R.lda1 rfl fun c R1 => H c (FA.of R1)
theorem keepF {hh : Heap} {v : V6} {Z : Array Value} {F : Nat → Heap → Prop} (O : rFilter.ow [] (flT v) f) (hz : Z.size = 6) (H : ∀ g h2, Ext hh h2 → RdP rFilter h2 ⟨g, 0, none⟩ f → F g h2) : ALC Z T_impl_Filter (fun g h1 => STA 6 h1 ⟨g, 0, none⟩ ⟨flT v⟩ fun h2 => F g h2) hh :=
  keepR (r := rFilter) (cs := ⟨flT v⟩) O rfl hz (Mem.start hh) H
theorem keepB {hh : Heap} {ca Z : Array Value} {F : Nat → Heap → Prop} (R : FA 16 ca xs) (hz : Z.size = 16) (H : ∀ g h2, Ext hh h2 → RdP rBlk h2 ⟨g, 0, none⟩ xs → F g h2) : ALC Z T_impl_Block (fun g h1 => STA 16 h1 ⟨g, 0, none⟩ ca fun h2 => F g h2) hh :=
  (Mem.start hh).alc fun g h1 _ M => M.sta0 .here R.size R.one hz .here fun h2 M => H g h2 M.ext (M.rdp .here (R.rd _))
theorem add1 (q : Addr) (i : Nat) : (q.add (Int.toNat (i : Int) * 1)) = q.add (i * (rF .f32).sz) := by rw [Int.toNat_natCast]; rfl
end
section
variable {h hh : Heap} {f : GFilter} {bs : List Nat} {p5 p6 p7 p8 pm : Addr} {mb lb kb : Option Addr} {ml mc lc kc n : Nat} {fs : List GFilter}
/-- What the second loop reads. -/
structure FFs (hh : Heap) (f : GFilter) (bs : List Nat) (fs : List GFilter) (p5 pm : Addr) (lb kb : Option Addr) (n lc kc : Nat) : Prop where
  F : RdP rFilter hh p5 f
  L : SlR rFilter hh lb n lc fs
  K : SlR rFilter hh kb n kc (curN fs bs n)
  M : RdP rBlk hh pm (blkN fs bs n)
theorem FFs.ext {h' : Heap} (G : FFs hh f bs fs p5 pm lb kb n lc kc) (X : Ext hh h') : FFs h' f bs fs p5 pm lb kb n lc kc := ⟨G.F.ext X, G.L.ext X, G.K.ext X, G.M.ext X⟩
/-- The second loop. -/
def fI20 (h0 : Heap) (bs : List Nat) (fs : List GFilter) (p5 pm : Addr) (lb kb : Option Addr) (n lc kc g : Nat) (y : Addr × Option Addr × Nat × Nat × Option Addr × Nat × Nat × Addr × Int × Addr × Int) (hh : Heap) : Prop :=
  ∃ (i : Nat) (cx : Array Value), y = (p5, lb, n, lc, kb, n, kc, pm, 0, ⟨g, 0, none⟩, (i : Int)) ∧ i ≤ n ∧ FA 16 cx (blkN fs bs i) ∧ Mem h0 hh [(g, T_impl_Block, cx)]
theorem ff20 {g : Nat} {cx : Array Value} {hb : Heap} (X : Ext h hb) (T : Txt hb) (G : FFs hb f bs fs p5 pm lb kb n lc kc) (hok : f.ok = true) (hfs : ∀ f ∈ fs, f.ok = true) (hn : n ≤ 4) (Fx : FA 16 cx bs) (M0 : Mem hb hh [(g, T_impl_Block, cx)]) :
    LOOP (laws_FnFilters.B20 (TB2 h)) (p5, lb, n, lc, kb, n, kc, pm, 0, ⟨g, 0, none⟩, (0 : Int)) hh := by
  have hl := G.L.len
  refine loop (fI20 hb bs fs p5 pm lb kb n lc kc g) (fun y => (n - y.2.2.2.2.2.2.2.2.2.2).toNat) ⟨0, cx, rfl, by omega, Fx, M0⟩ ?_
  rintro y h1 ⟨i, cx, rfl, hi, Fx, M⟩
  have G1 := G.ext M.ext
  refine brd (fun hc => ?_) fun hc => ?_
  · refine G1.L.idx fil_sz (by omega) (by omega) fun a Ra => Ra.ldF fun v O => M.lda0 .here Fx.size ?_
    rw [Int.toNat_natCast] at *
    have hio : fs[i]!.ok = true := by rw [getElem!_pos _ i (by omega)]; exact hfs _ (List.getElem_mem (by omega))
    have C : ∀ {h2 : Heap}, CALL prg f_impl_RunFilter #[.agg ⟨flT v⟩, .agg cx] (fun u h' => FilB h2 h' u (outF fs bs i) (blkN fs bs (i + 1))) h2 := RunFilter_c O Fx hio
    have PN : ∀ {h2 : Heap} {p : Prop} {W : List Blk}, Mem hb h2 W → Look W g cx → Ext h1 h2 → p → PIN h1 ⟨g, 0, none⟩ 16 h2 (PIN h1 (a.add (i * 6)) 6 h2 p) := fun N l X H => M.pin2 .here N l (Ra.pin rfl X H)
    have fin : ∀ {h2 : Heap} {gf gb : Nat} {w : V6} {co : Array Value}, Mem hb h2 ((gf, T_impl_Filter, ⟨flT w⟩) :: (gb, T_impl_Block, co) :: [(g, T_impl_Block, cx)]) → rFilter.ow [] (flT w) (outF fs bs i) → FA 16 co (blkN fs bs (i + 1)) →
        laws_FnFilters.J23 (fun y' h6 => fI20 hb bs fs p5 pm lb kb n lc kc g y' h6 ∧ (n - y'.2.2.2.2.2.2.2.2.2.2).toNat < ((n : Int) - (i : Int)).toNat) (TB2 h) p5 lb n lc kb n kc pm 0 ⟨g, 0, none⟩ (i : Int) ⟨gf, 0, none⟩ ⟨gb, 0, none⟩ 0 h2 := fun {h2 gf gb w co} N Ow Fo => by
      unfold laws_FnFilters.J23
      have G2 := G.ext N.ext
      refine br_f rfl (brd (fun hc => by omega) fun hc => ?_)
      refine G2.K.idx fil_sz (by omega) (by omega) fun a2 R2 => R2.ldF fun v2 O2 => N.lda0 .here rfl ?_
      rw [Int.toNat_natCast, cur_get fs bs (by omega), if_pos (by omega)] at O2
      refine goM N (spec_SameFilter_c (filt_rd O2 _) (filt_rd Ow _)) fun h3 N => as_b ?_
      rw [same_refl]
      refine br_f rfl (N.lda0 (.there .here) Fo.size (N.sta0 (.there (.there .here)) Fo.size Fo.one Fx.size (.there (.there .here)) fun h4 N => ⟨⟨i + 1, co, by rw [wrap64_succ (by omega)], by omega, Fo, N.drop.drop⟩, by rw [wrap64_succ (by omega)]; show _ < _; simp; omega⟩))
    refine ⟨C.mono ?_, ?_, ?_⟩
    · rintro _ h2 ⟨w, co, rfl, Ow, Fo, x2⟩
      have N := M.grow x2
      refine tup3 (as_a (as_a (as_i ⟨?_, ?_⟩)))
      · refine N.alc fun g3 h3 x3 N => PN N (.there .here) (x2.trans x3) (N.alc fun g4 h4 x4 N => PN N (.there (.there .here)) (x2.trans (x3.trans x4)) ?_)
        refine N.sta0 (.there .here) rfl flT_one rfl (.there .here) fun h5 N => N.sta0 .here Fo.size Fo.one rfl .here fun h6 N => fin (N.cnt fun p => by simp only [cnt_cons]; omega) Ow Fo
      · refine N.alc fun g3 h3 x3 N => PN N (.there .here) (x2.trans x3) (N.alc fun g4 h4 x4 N => PN N (.there (.there .here)) (x2.trans (x3.trans x4)) ?_)
        refine N.sta0 .here rfl flT_one rfl .here fun h5 N => N.sta0 (.there .here) Fo.size Fo.one rfl (.there .here) fun h6 N => fin (N.cnt fun p => by simp only [cnt_cons]; omega) Ow Fo
    · refine M.alc fun g3 h3 x3 N => PN N (.there .here) x3 ⟨C.mono ?_, ?_⟩
      · rintro _ h2 ⟨w, co, rfl, Ow, Fo, x2⟩
        have N := N.grow x2
        refine tup3 (as_a (as_a (as_i (N.alc fun g4 h4 x4 N => PN N (.there (.there .here)) (x3.trans (x2.trans x4)) ?_))))
        refine N.sta0 (.there .here) rfl flT_one rfl (.there .here) fun h5 N => N.sta0 .here Fo.size Fo.one rfl .here fun h6 N => fin (N.cnt fun p => by simp only [cnt_cons]; omega) Ow Fo
      · refine N.alc fun g4 h4 x4 N => PN N (.there (.there .here)) (x3.trans x4) (C.mono ?_)
        rintro _ h2 ⟨w, co, rfl, Ow, Fo, x2⟩
        have N := N.grow x2
        refine tup3 (as_a (as_a (as_i ?_)))
        refine N.sta0 (.there .here) rfl flT_one rfl (.there .here) fun h5 N => N.sta0 .here Fo.size Fo.one rfl .here fun h6 N => fin (N.cnt fun p => by simp only [cnt_cons]; omega) Ow Fo
    · refine M.alc fun g3 h3 x3 N => PN N (.there .here) x3 ⟨C.mono ?_, ?_⟩
      · rintro _ h2 ⟨w, co, rfl, Ow, Fo, x2⟩
        have N := N.grow x2
        refine tup3 (as_a (as_a (as_i (N.alc fun g4 h4 x4 N => PN N (.there (.there .here)) (x3.trans (x2.trans x4)) ?_))))
        refine N.sta0 .here rfl flT_one rfl .here fun h5 N => N.sta0 (.there .here) Fo.size Fo.one rfl (.there .here) fun h6 N => fin (N.cnt fun p => by simp only [cnt_cons]; omega) Ow Fo
      · refine N.alc fun g4 h4 x4 N => PN N (.there (.there .here)) (x3.trans x4) (C.mono ?_)
        rintro _ h2 ⟨w, co, rfl, Ow, Fo, x2⟩
        have N := N.grow x2
        refine tup3 (as_a (as_a (as_i ?_)))
        refine N.sta0 .here rfl flT_one rfl .here fun h5 N => N.sta0 (.there .here) Fo.size Fo.one rfl (.there .here) fun h6 N => fin (N.cnt fun p => by simp only [cnt_cons]; omega) Ow Fo
  obtain rfl : i = n := by omega
  have T1 := T.ext M.ext
  refine G1.F.lda1 rfl fun c R => goM M (FilterText_c R hok (filt_a G1.F hok) T1) fun h2 M => as_s ((ReadFilter_ok hok (filt_a G1.F hok) (T.ext M.ext)).mono ?_)
  rintro _ h3 ⟨cs, rfl, O, x3⟩
  have M := M.grow x3
  refine tup2 (as_a (as_i (M.alc fun g4 h4 x4 M => M.sta0 .here (osz O rfl) (rFilter.oone O) rfl .here fun h5 M => br_t rfl (br_t (by simp) ?_))))
  have G5 := G.ext M.ext
  refine G5.M.ldB fun cm Fm => M.lda0 (.there .here) Fx.size (goM M (SameBlock_c Fm Fx) fun h6 M => as_b (br_t rfl (br_t rfl (M.lda0 .here (osz O rfl) ?_))))
  refine (G.ext M.ext).F.ldF fun v Ov => goM M (spec_SameFilter_c (rFilter.look O M (List.nil_sublist _)) (filt_rd Ov _)) fun h7 M => as_b ?_
  rw [same_refl]
  exact ⟨rfl, X.trans M.ext⟩
end
section
variable {h : Heap} {cb mb : Option Addr} {cc mc : Nat} {code more : List Int}
theorem ff16 {hh : Heap} {f : GFilter} {bs : List Nat} {p5 p6 : Addr} (X : Ext h hh) (T : Txt hh) (G : Reads hh cb mb code more) (F : RdP rFilter hh p5 f) (B : RdP rBlk hh p6 bs) (hok : f.ok = true) : laws_FnFilters.J16 (TB2 h) mb more.length mc p5 p6 hh := by
  unfold laws_FnFilters.J16
  refine (A2Filters_c (Mem.start hh) G.m G.bm).mono ?_
  rintro _ h1 ⟨b, l, c, Bl, fs, rfl, O, hl, hfs, M⟩
  have S := O.look M (List.sublist_append_left _ _)
  refine as_l ((B.ext M.ext).ldB fun ca Fa => (RunChain_c S Fa hfs (by omega)).mono ?_)
  rintro _ h2 ⟨b', c', Bk, co, rfl, Ok, Fo, N⟩
  have Sk := Ok.look N (List.Sublist.refl _)
  refine tup3 (as_l (as_a (as_i (keepB Fo rfl fun g3 h3 x3 Rm => ?_))))
  have X3 := M.ext.trans (N.ext.trans x3)
  refine (B.ext X3).ldB fun cx Fx => (Mem.start h3).alc fun g4 h4 x4 M4 => M4.sta0 .here Fx.size Fx.one rfl .here fun h5 M5 => ?_
  exact ff20 (X.trans X3) (T.ext X3) ⟨F.ext X3, S.ext (N.ext.trans x3), Sk.ext x3, Rm⟩ hok hfs hl Fx M5
/-- The first loop. -/
def fI8 (h0 : Heap) (f : GFilter) (bs : List Nat) (mb : Option Addr) (ml mc : Nat) (p5 p6 p7 p8 : Addr) (g : Nat) (y : Option Addr × Nat × Nat × Addr × Addr × Addr × Addr × Int × Addr × Int) (hh : Heap) : Prop :=
  ∃ (i : Nat) (w : V6), y = (mb, ml, mc, p5, p6, p7, p8, 0, ⟨g, 0, none⟩, (i : Int)) ∧ i ≤ 16 ∧ rFilter.ow [] (flT w) (gN GFilter.step f bs i) ∧ Mem h0 hh [(g, T_impl_Filter, ⟨flT w⟩)]
theorem FnFilters_c (T : Txt h) (C : Cells h cb (iv .u8 code)) (Cm : Cells h mb (iv .u8 more)) (hbc : Byt' code) (hbm : Byt' more) :
    CALL prg f_laws_FnFilters #[.slice cb code.length cc, .slice mb more.length mc] (fun u h' => u = .bool true ∧ Ext h h') h := by
  have G : Reads h cb mb code more := ⟨C, Cm, hbc, hbm⟩
  refine laws_FnFilters.call (a2Long_c.mono ?_)
  rintro _ h1 ⟨b, rfl, x1⟩
  refine as_b (br (fun _ => ⟨rfl, x1⟩) fun _ => ?_)
  have G := G.ext x1
  refine (A2Filter_c (Mem.start h1) G.c G.bc).mono ?_
  rintro _ h2 ⟨v, f, rfl, O, hok, M2⟩
  refine as_a (keepF O rfl fun g3 h3 x3 F => ?_)
  have X := x1.trans (M2.ext.trans x3)
  have G := G.ext (M2.ext.trans x3)
  refine (A2Block_c (Mem.start h3) G.m G.bm).mono ?_
  rintro _ h4 ⟨ca, bs, rfl, Fb, M4⟩
  refine as_a (keepB Fb rfl fun g5 h5 x5 B => ?_)
  have X := X.trans (M4.ext.trans x5)
  have G := G.ext (M4.ext.trans x5)
  have F := F.ext (M4.ext.trans x5)
  have hbs : bs.length = 16 := Fb.1
  refine F.ldF fun v1 O1 => B.ldB fun c1 F1 => (RunFilter_c O1 F1 hok).mono ?_
  rintro _ h6 ⟨v2, c2, rfl, O2, F2, x6⟩
  refine tup3 (as_a (as_a (as_i ((Mem.start h6).alc fun g7 h7 x7 M => M.alc fun g8 h8 x8 M => M.sta0 (.there .here) rfl flT_one rfl (.there .here) fun h9 M => M.sta0 .here F2.size F2.one rfl .here fun h10 M => ?_))))
  have Gf : RdP rFilter h10 ⟨g7, 0, none⟩ _ := M.rdp (.there .here) (filt_rd O2 _)
  have Ob : RdP rBlk h10 ⟨g8, 0, none⟩ _ := M.rdp .here (F2.rd _)
  have X := X.trans (x6.trans M.ext)
  have G := G.ext (x6.trans M.ext)
  have F := F.ext (x6.trans M.ext)
  have B := B.ext (x6.trans M.ext)
  have T := T.ext X
  refine F.ldF fun v3 O3 => (Mem.start h10).alc fun g9 h11 x11 M => M.sta0 .here rfl flT_one rfl .here fun h12 M => ?_
  refine loop (fI8 h10 f bs mb more.length mc ⟨g3, 0, none⟩ ⟨g5, 0, none⟩ ⟨g7, 0, none⟩ ⟨g8, 0, none⟩ g9) (fun y => (16 - y.2.2.2.2.2.2.2.2.2).toNat) ⟨0, v3, rfl, by omega, O3, M⟩ ?_
  clear M
  rintro y h13 ⟨i, w, rfl, hi, Ow, M⟩
  have E := M.ext
  refine brd (fun hc => ?_) fun hc => ?_
  · have hio : (gN GFilter.step f bs i).ok = true := playF_ok hok _
    have Rb := (B.ext E).elem (i := i) (show i < 16 by omega)
    refine M.lda0 .here rfl (idx (by omega) (by omega) ?_)
    rw [add1]
    refine Rb.oF1 fun r hr => ?_
    have C : ∀ {h2 : Heap}, CALL prg f_impl_StepFilter #[.agg ⟨flT w⟩, .float .f32 r] _ h2 := StepFilter_c Ow hr hio
    have PN : ∀ {h2 : Heap} {p : Prop} {W : List Blk}, Mem h10 h2 W → Look W g9 ⟨flT w⟩ → Ext h13 h2 → p → PIN h13 ((⟨g5, 0, none⟩ : Addr).add (i * (rF .f32).sz)) 1 h2 (PIN h13 ⟨g9, 0, none⟩ 6 h2 p) := fun N l X H => Rb.pin rfl X (M.pin2 .here N l H)
    have fin : ∀ {h2 : Heap} {gf z : Nat} {w2 : V6}, Mem h10 h2 ((gf, T_impl_Filter, ⟨flT w2⟩) :: [(g9, T_impl_Filter, ⟨flT w⟩)]) → rFilter.ow [] (flT w2) ((gN GFilter.step f bs i).step bs[i]!).1 → FW .f32 z ((gN GFilter.step f bs i).step bs[i]!).2 →
        laws_FnFilters.J11 (fun y' h6 => fI8 h10 f bs mb more.length mc ⟨g3, 0, none⟩ ⟨g5, 0, none⟩ ⟨g7, 0, none⟩ ⟨g8, 0, none⟩ g9 y' h6 ∧ (16 - y'.2.2.2.2.2.2.2.2.2).toNat < (16 - (i : Int)).toNat) (TB2 h) mb more.length mc ⟨g3, 0, none⟩ ⟨g5, 0, none⟩ ⟨g7, 0, none⟩ ⟨g8, 0, none⟩ 0 ⟨g9, 0, none⟩ (i : Int) ⟨gf, 0, none⟩ z 0 h2 := fun {h2 gf z w2} N O2 hz => by
      unfold laws_FnFilters.J11
      have Ro := (Ob.ext N.ext).elem (i := i) (show i < 16 by omega)
      refine br_f rfl (idx (by omega) (by omega) ?_)
      rw [add1]
      refine Ro.oF1 fun r2 hr2 => goM N (SameSample_c hz hr2 _) fun h3 N => as_b ?_
      rw [out_get hbs (by omega)]
      refine br_f (by unfold outN; simp) (N.lda0 .here rfl (N.sta0 (.there .here) rfl flT_one rfl (.there .here) fun h4 N => ⟨⟨i + 1, w2, by rw [wrap64_succ (by omega)], by omega, by rw [gN_step (by omega)]; exact O2, N.drop⟩, by rw [wrap64_succ (by omega)]; show _ < _; simp; omega⟩))
    refine ⟨C.mono ?_, ?_⟩
    · rintro _ h2 ⟨w2, z, rfl, O2, hz, x2⟩
      exact tup3 (as_a (as_f (as_i ((M.grow x2).alc fun g3 h3 x3 N => PN N (.there .here) (x2.trans x3) (N.sta0 .here rfl flT_one rfl .here fun h4 N => fin N O2 hz)))))
    · refine M.alc fun g3 h3 x3 N => PN N (.there .here) x3 (C.mono ?_)
      rintro _ h2 ⟨w2, z, rfl, O2, hz, x2⟩
      exact tup3 (as_a (as_f (as_i ((N.grow x2).sta0 .here rfl flT_one rfl .here fun h4 N => fin N O2 hz))))
  obtain rfl : i = 16 := by omega
  rw [gN_all hbs] at Ow
  refine br_f rfl ((Gf.ext E).ldF fun v4 O4 => M.lda0 .here rfl (goM M (SameFilter_c (filt_rd O4 _) (filt_rd Ow _)) fun h14 M => as_b ?_))
  rw [same_refl]
  refine br_f rfl ((Gf.ext M.ext).ldF fun v5 O5 => goM M (ValidFilter_c (filt_rd O5 _)) fun h15 M => as_b (br_f (by rw [playF_ok hok]; rfl) ?_))
  exact ff16 (X.trans M.ext) (T.ext M.ext) (G.ext M.ext) (F.ext M.ext) (B.ext M.ext) hok
end
end Go.Sx
/- From what a law's call answers to the given row, where the row lists tables that the call reads. -/
namespace Go.Sx
open Go.ChangeShapes Go.WideShapes Go.ChangeAt Go.RowKit
set_option linter.unusedVariables false
/-- The same, where the call finds the program's variables as their types have them. -/
theorem law_returns_libs {H : Type} {enc : TypeId × Value → H} {C : Checked} {os : Os} {f : FuncId} {fn : Func} {s : ChangeSpec} {conds : List PathCond} {tb : TypeId} {laidL : List (String × DataW Unit)}
    (own : ownKnob C.prog.godebug = none) (started : os.Started) (noInit : C.prog.inits.idxOf? f = none) (hfn : C.prog.funcs[f]? = some fn) (hb : fn.body.isNone = false)
    (hn : (fn.name == "runtime.NumGoroutine") = false) (hvars : s.vars = []) (hspec : ∀ ds : List (DataW H), ds.length = fn.params.toList.length → s.fn H ds = { results := [.lit (.bool true)], args := ds })
    (hres : fn.resultTypes = #[tb]) (htb : C.prog.underlying tb = some .bool) (laid : laidOutB C.prog = true) (hread : ∀ t ∈ fn.params.toList, C.prog.readableRec t = true ∧ t < C.prog.types.size)
    (witness : ∃ (w : World) (tape : Tape) (i : Input), w.os = os ∧ (w.forCall tape i).Shaped C.prog ∧ i.vars = [] ∧ Input.okWide C.prog (w.forCall tape i) .any w.heap.size f i ∧
      ((s.pre enc C.prog fn conds false (w.forCall tape i).memory i.args ∧ laidMetH C.prog laidL (w.forCall tape i).memory) ∧ sizedMet enc C.prog fn (OpenSpec.ofChange s) false (w.forCall tape i).memory i.args) ∧ ({} : Assume).holds C.prog (lone (Frame.enter C.prog f i.args .normal) [] (w.forCall tape i)))
    (walk : ∀ (W : World) (base : Nat) (args : Array Value) (ds : List (DataW H)) (p : List MemPlace), DataW.TrodAll enc C.prog W 0 (fun _ => true) true fn.params.toList args.toList ds p →
      (∀ (j : Nat) t v, fn.params[j]? = some t → args[j]? = some v → Value.okWide C.prog W .any base t v) →
      (DataW.weightsEach C.prog (fn.params.toList ++ s.plain.varTypes C.prog) (ds ++ [])).all (· ≤ reachBytes) = true → laidMetH C.prog laidL W → W.ShapedOpen C.prog →
      CALL C.prog f args (fun u h' => u = .bool true ∧ Ext W.heap h') W.heap) :
    ReturnsInHanded {} C os f .any (fun w args => (s.pre enc C.prog fn conds false w args ∧ laidMetH C.prog laidL w) ∧ sizedMet enc C.prog fn (OpenSpec.ofChange s) false w args) (s.post enc C.prog fn false true false false) := by
  refine returnsInHanded_of_calls own started noInit witness ?_
  intro w tape i _ hS _ hok hpre hholds
  obtain ⟨_, _, _, fn', hfn', _, _, _, _, hval⟩ := hok
  have e : fn' = fn := Option.some.inj (hfn'.symm.trans hfn)
  subst e
  obtain ⟨⟨⟨ds, gs, before, hw, hc⟩, hx⟩, hz⟩ := hpre
  have hW := DataW.Whole.of_heap (w' := w.forCall tape i) (by rfl) hw
  have hL : laidMetH C.prog laidL (w.forCall tape i) := hx.of_heap (by rfl)
  have hsz := hz.weights hw
  have hW' := hW
  obtain ⟨p, q, hA, hV, rfl, hfz, hnd⟩ := hW
  rw [hvars] at hV
  obtain ⟨rfl, rfl⟩ := trodVars_none hV
  refine (calls_of_CALL hfn hb hn (walk (w.forCall tape i) w.heap.size i.args ds p hA hval hsz hL hS)).mono fun e W' ⟨v, he, hs, hv, hx⟩ => ?_
  subst he; subst hv
  refine ChangeSpec.post_blind ?_
  have bel := below_of hs hx
  have hl := trodAll_length hA
  refine ⟨ds, [], _, [], p, [], hW', ?_, ?_, ?_, bel.frame _, fun h => by cases h⟩
  · rw [List.append_nil, hspec ds hl, hres]; exact trodAll_mk1 (shut_bool htb true)
  · rw [List.append_nil, hspec ds hl]; exact trodAll_back laid bel hread hA
  · rw [List.append_nil, hspec ds hl, hvars]; rfl
/-- A table on the list is where the program has it, in every later world. -/
theorem laid_var {P : Program} {W : World} : ∀ {l : List (String × DataW Unit)} {ps : List MemPlace}, DataW.LaidVars P W l ps → ∀ n d, (n, d) ∈ l →
    ∃ g t cs fuel p, P.globalNamed n = some g ∧ (P.globals[g]?).map (·.type) = some t ∧ W.var? P n = some cs ∧ DataW.trod (fun _ => ()) P W 0 (fun _ => true) false fuel t cs.toList = some (d, p)
  | [], _, _, _, _, hm => by cases hm
  | (n', d') :: r, ps, h, n, d, hm => by
    obtain ⟨g, t, cs, fuel, p, q, h1, h2, h3, h4, h5, _⟩ := h
    rcases List.mem_cons.1 hm with e | e
    · cases e
      exact ⟨g, t, cs, fuel, p, h1, h2, h3, h4⟩
    · exact laid_var h5 n d e
theorem var_ext {P : Program} {W w : World} {n : String} {cs : Array Value} (h : W.var? P n = some cs) (X : Ext W.heap w.heap) : w.var? P n = some cs := by
  unfold World.var? at *
  cases hg : P.globalNamed n with
  | none => rw [hg] at h; cases h
  | some g =>
    rw [hg] at h
    simp only [Option.bind_some] at h ⊢
    cases ho : W.heap[g]? with
    | none => rw [ho] at h; cases h
    | some o =>
      rw [X.eq g (Array.getElem?_eq_some_iff.1 ho).1]
      exact h
theorem laid_tab {P : Program} {W : World} {l : List (String × DataW Unit)} {name : String} {k : IntKind} {zs : List Int} {g : Nat} {t e : TypeId} {n : Nat}
    (hg : P.globalNamed name = some g) (hty : (P.globals[g]?).map (·.type) = some t) (ht : P.underlying t = some (.array n e)) (he : P.underlying e = some (.int k)) (hce : P.cellsOf e = 1) (hct : P.cellsOf t = n)
    (h : laidMet P l W) (hm : (name, Lib.tabData k zs) ∈ l) : ∀ w : World, Ext W.heap w.heap → Lib.TabIs P w name k zs := by
  obtain ⟨ps, hv, _⟩ := h
  obtain ⟨g', t', cs, fuel, p, hg', ht', hvar, hd⟩ := laid_var hv _ _ hm
  obtain rfl := Option.some.inj (hg.symm.trans hg')
  obtain rfl := Option.some.inj (hty.symm.trans ht')
  intro w X
  unfold Lib.TabIs
  rw [var_ext hvar X, ← Lib.cells_of_tab ht he hce hct hd]
/-- A variable on the list that holds an interface's value. -/
theorem laid_iface {P : Program} {W : World} {l : List (String × DataW Unit)} {name nm : String} {d : DataW Unit} {g : Nat} {ti : TypeId} {ms : Array (String × TypeId)}
    (hg : P.globalNamed name = some g) (hty : (P.globals[g]?).map (·.type) = some ti) (hi : P.underlying ti = some (.interface ms)) (h : laidMet P l W) (hm : (name, .iface nm d) ∈ l) : ∃ ev, cell W.heap ⟨g, 0, none⟩ = some ev ∧ (ev = .nilIface ∨ ∃ te pe, ev = .iface te pe) := by
  obtain ⟨ps, hv, _⟩ := h
  obtain ⟨g', t', cs, fuel, p, hg', ht', hvar, hd⟩ := laid_var hv _ _ hm
  obtain rfl := Option.some.inj (hg.symm.trans hg')
  obtain rfl := Option.some.inj (hty.symm.trans ht')
  obtain ⟨f1, u, v, e, hn, h1⟩ := iface_of_trod hi hd
  have h0 := World.var?_cell hg hvar 0
  rw [← Array.getElem?_toList, e] at h0
  exact ⟨_, h0, .inr ⟨u, v, rfl⟩⟩
end Go.Sx
/- The table that the counting of zeros reads, off a row's list. -/
namespace Go.Sx
open Go.Proofs
theorem laid_bru {W : World} {l : List (String × DataW Unit)} {t e : TypeId} (hg : prg.globalNamed "math/bits.deBruijn64tab" = some (R27.g 1)) (hty : (prg.globals[R27.g 1]?).map (·.type) = some t) (ht : prg.underlying t = some (.array 64 e)) (he : prg.underlying e = some (.int .u8)) (hce : prg.cellsOf e = 1) (hct : prg.cellsOf t = 64)
    (h : laidMet prg l W) (hm : ("math/bits.deBruijn64tab", Lib.tabData .u8 (Lib.deBruijn64tab.map fun n : Nat => (n : Int))) ∈ l) : Bru W.heap := by
  intro w X j hj
  have := Lib.TabIs.cell (laid_tab hg hty ht he hce hct h hm w X) hg j (by simpa using hj)
  rw [this]
  simp [List.getD, hj]
end Go.Sx
