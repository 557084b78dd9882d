/- Bows muted, played, pulled and moved on. -/
import Derived.Test.YthgnpepchedpbaaGreatLk76
import Derived.Test.YthgnpepchedpbaaGreatLk60
import Derived.Test.YthgnpepchedpbaaGreatLk8
import Derived.Test.YthgnpepchedpbaaGreatLk54
set_option linter.unusedVariables false
set_option linter.unusedSimpArgs false
namespace Go.Sx
open Go.Proofs
set_option maxRecDepth 100000
set_option maxHeartbeats 1000000

theorem okf_len {r : GRing} (h : r.okf = true) : r.Samples.length ≤ 1048576 := by
  have h1 : r.ok = true := by unfold GRing.okf at h; rw [Bool.and_eq_true] at h; exact h.1
  have k := at_lt h1
  omega
theorem bow_small {x : GBow} (h : x.ok = true) : x.Neck.Samples.length ≤ 1048576 ∧ x.Bridge.Samples.length ≤ 1048576 := by
  unfold GBow.ok at h
  simp only [Bool.and_eq_true] at h
  exact ⟨okf_len h.1.1.1, okf_len h.1.1.2⟩
/-- Steps one after the other. -/
def playG {α : Type} (st : α → Nat → α × Nat) (x : α) : List Nat → α × List Nat
  | [] => (x, [])
  | a :: l => ((playG st (st x a).1 l).1, (st x a).2 :: (playG st (st x a).1 l).2)
theorem playG_append {α : Type} (st : α → Nat → α × Nat) (x : α) : ∀ l m : List Nat, playG st x (l ++ m) = ((playG st (playG st x l).1 m).1, (playG st x l).2 ++ (playG st (playG st x l).1 m).2)
  | [], m => by simp [playG]
  | a :: l, m => by simp only [List.cons_append, playG]; rw [playG_append st _ l m]
theorem playG_step {α : Type} {st : α → Nat → α × Nat} {x : α} {xs : List Nat} {n : Nat} (hn : n < xs.length) : playG st x (xs.take (n + 1)) = ((st (playG st x (xs.take n)).1 xs[n]!).1, (playG st x (xs.take n)).2 ++ [(st (playG st x (xs.take n)).1 xs[n]!).2]) := by rw [take_snoc hn, playG_append]; rfl
/-- A thing, a slice of floats and a code, told by a call. -/
def TriG {α : Type} (r : Rep α) (h h' : Heap) (u : Value) (x : α) (ys : List Nat) (code : Int) : Prop := ∃ cs B b l c C, u = .tuple ⟨[.agg cs, .slice b l c, .int .i64 code]⟩ ∧ r.ow B cs.toList x ∧ SlO T_float32 (rF .f32) C b l c ys ∧ Mem h h' (B ++ C)
theorem TriG.go {α : Type} {r : Rep α} {P : Program} {f : FuncId} {args : Array Value} {x : α} {ys : List Nat} {code : Int} {hb h : Heap} {L : List Blk} {K : Value → Heap → Prop} (M : Mem hb h L) (k : CALL P f args (fun u h' => TriG r h h' u x ys code) h)
    (H : ∀ h' cs B b l c C, Mem hb h' ((B ++ C) ++ L) → r.ow B cs.toList x → SlO T_float32 (rF .f32) C b l c ys → K (.tuple ⟨[.agg cs, .slice b l c, .int .i64 code]⟩) h') : CALL P f args K h :=
  k.mono fun u h' ⟨cs, B, b, l, c, C, e, O, S, N⟩ => by subst e; exact H h' cs B b l c C (M.join N) O S
theorem Pt.stF0 {h0 h : Heap} {q : Addr} {F : Fr} {L : List Blk} {y n m : Nat} {K : Heap → Prop} (P : Pt (rF .f32) h0 h q F L n) (hy : FW .f32 y m) (H : ∀ h', Pt (rF .f32) h0 h' q F L m → K h') : ST1 h q (.float .f32 y) K := by
  have := P.st (B' := []) (p := rF .f32) (b := m) (v := .float .f32 y) (K := K) (Foc.here _) rfl ⟨rfl, y, rfl, hy⟩ H
  rwa [add0] at this
section
variable {h : Heap} {q : Addr} {x : GBow} {xs : List Nat} {b : Option Addr} {l c : Nat} {cs : Array Value}
theorem spec_MuteBow_c (R0 : rBow.rd h cs.toList x) (hok : x.ok = true) : CALL prg f_spec_MuteBow #[.agg cs] (fun u h' => PairR rBow h h' u x.mute 0) h := by
  refine spec_MuteBow.call ((Mem.start h).alc fun g1 h1 x1 M => M.alc fun g3 h2 x2 M => ?_)
  have R : RdP rBow h2 ⟨g1, 0, none⟩ x := M.rdp (.there .here) (rBow.ext M.ext R0)
  refine goM M (l05Bow_c R) fun h3 M => as_b ?_
  rw [hok]
  refine br_f rfl ?_
  have hs := bow_small hok
  have R : RdP rBow h3 ⟨g1, 0, none⟩ x := M.rdp (.there .here) (rBow.ext M.ext R0)
  refine NewR.go M (l05CopyBow_c R hs.1 hs.2) fun h4 c4 B4 M O4 s4 => as_a (M.alc fun g13 h5 x5 M => ?_)
  refine M.sta0 .here s4 (rBow.oone O4) rfl .here fun h6 M => ?_
  have P : Pt rBow h h6 ⟨g13, 0, none⟩ ⟨g13, T_impl_Bow, [], []⟩ [(g3, T_impl_Bow, ⟨Z_impl_Bow⟩), (g1, T_impl_Bow, cs)] x := Pt.new O4 M
  have R : RdP rBow h6 ⟨g1, 0, none⟩ x := P.mem.rdp (.there .here) (rBow.ext P.ext R0)
  refine NewR.pt P (l05Muted_c (R.fst foc_Bow_Neck) hs.1) fun h7 c7 B7 P O7 s7 => as_a (P.sts0 foc_Bow_Neck rfl O7 fun h8 P => ?_)
  have R : RdP rBow h8 ⟨g1, 0, none⟩ x := P.mem.rdp (.there .here) (rBow.ext P.ext R0)
  have Rb := R.foc foc_Bow_Bridge
  rw [add_g] at Rb
  refine NewR.pt P (l05Muted_c Rb hs.2) fun h9 c9 B9 P O9 s9 => as_a (P.stsg foc_Bow_Bridge rfl O9 fun h10 P => ?_)
  have fs : Foc rBow (rArr 2 (rF .f32)) 8 (fun a => a.Damp.S) (fun a b => { a with Damp := { a.Damp with S := b } }) := (foc_Bow_Damp.trans foc_Filter_S).at rfl
  have st := Pt.stF2 (K := fun h24 => LDA 12 h24 ⟨g13, 0, none⟩ fun a25 => STA 12 h24 ⟨g3, 0, none⟩ a25 fun h26 => LDA 12 h26 ⟨g3, 0, none⟩ fun a27 => PairR rBow h h26 (.tuple ⟨[.agg a27, .int .i64 (0 : Int)]⟩) x.mute 0) P fs fw0 fw0 fun h11 P => ?_
  · rwa [add_g] at st
  obtain ⟨cs, B, M, O⟩ := P.out
  refine M.lda0 .here (osz O rfl) ?_
  have M := M.cnt (W := (g3, T_impl_Bow, ⟨Z_impl_Bow⟩) :: B) (fun p => by simp only [cnt_app, cnt_cons, cnt_nil] at *; omega)
  exact M.sta0 .here (osz O rfl) (rBow.oone O) rfl .here fun h3 M => M.lda0 .here (osz O rfl) ⟨_, B, rfl, O, M.drop⟩
theorem playB_ok {x : GBow} (h : x.ok = true) (l : List Nat) : (playG GBow.step x l).1.ok = true := by
  induction l generalizing x with
  | nil => exact h
  | cons a l ih => exact ih (bow_step_ok h)
theorem impl_PlayBow_c (R0 : rBow.rd h cs.toList x) (S0 : SlR (rF .f32) h b l c xs) (hok : x.ok = true) (hxs : xs.length ≤ 4096) : CALL prg f_impl_PlayBow #[.agg cs, .slice b l c] (fun u h' => TriG rBow h h' u (playG GBow.step x xs).1 (playG GBow.step x xs).2 0) h := by
  have hl := S0.len
  have hm : (4097 : Nat) ≤ maxLen := by decide
  refine impl_PlayBow.call ((Mem.start h).alc fun g1 h1 x1 M => M.alc fun g3 h2 x2 M => M.lda0 (.there .here) (rsz R0 rfl) ?_)
  refine goM M (ValidBow_c (rBow.ext M.ext R0)) fun h3 M => as_b ?_
  rw [hok]
  refine br_f rfl (brd (fun hc => by omega) fun hc => ?_)
  have hs := bow_small hok
  refine M.lda0 (.there .here) (rsz R0 rfl) (NewR.go M (Bow_clone_c (rBow.ext M.ext R0) hs.1 hs.2) fun h4 c4 B4 M O4 s4 => as_a ?_)
  have M := M.cnt (W := (g1, T_impl_Bow, cs) :: (B4 ++ [(g3, T_impl_Bow, ⟨Z_impl_Bow⟩)])) (fun p => by simp only [cnt_app, cnt_cons, cnt_nil] at *; omega)
  refine M.sta0 .here s4 (rBow.oone O4) (rsz R0 rfl) .here fun h6 M => ?_
  have P : Pt rBow h h6 ⟨g1, 0, none⟩ ⟨g1, T_impl_Bow, [], []⟩ [(g3, T_impl_Bow, ⟨Z_impl_Bow⟩)] x := Pt.new O4 M
  refine loop (fun y hh => ∃ (n : Nat) (b' : Option Addr) (c' : Nat) (B : List Blk), y = (⟨g1, 0, none⟩, ⟨g3, 0, none⟩, b', n, c', b, l, c, (l : Int), (n : Int)) ∧ n ≤ l ∧ SlO T_float32 (rF .f32) B b' n c' (playG GBow.step x (xs.take n)).2 ∧
    Pt rBow h hh ⟨g1, 0, none⟩ ⟨g1, T_impl_Bow, [], []⟩ (B ++ [(g3, T_impl_Bow, ⟨Z_impl_Bow⟩)]) (playG GBow.step x (xs.take n)).1) (fun y => (l - y.2.2.2.2.2.2.2.2.2).toNat)
    ⟨0, _, _, [], rfl, by omega, SlO.nil, P⟩ ?_
  rintro y hh ⟨n, b', c', B, rfl, hn, O, P⟩
  refine brd (fun hc => ?_) fun hc => ?_
  · have rg := bow_rings (playB_ok hok (xs.take n))
    refine (S0.ext P.ext).idx (by decide) (by omega) (by omega) fun p Rp => Rp.oF1 fun w hw => ((Bow_step_c P rg.1 rg.2 hw).mono ?_)
    rintro _ h8 ⟨⟨y, rfl, hy⟩, P⟩
    refine as_f (Pt.push P E_sl_float32 O ⟨rfl, _, rfl, hy⟩ (by omega) (by omega) fun b2 c2 h9 B2 O2 P2 => as_l ⟨⟨n + 1, b2, c2, B2, by rw [wrap64_succ (by omega)], by omega, ?_, ?_⟩, by rw [wrap64_succ (by omega)]; show _ < _; simp; omega⟩)
    · rw [playG_step (by omega)]; exact O2
    · rw [playG_step (by omega)]; exact P2
  obtain rfl : n = l := by omega
  rw [← hl, List.take_length] at O P
  obtain ⟨cs, BR, M, OR⟩ := P.out
  refine M.lda0 .here (osz OR rfl) ?_
  have M := M.cnt (W := (g3, T_impl_Bow, ⟨Z_impl_Bow⟩) :: (BR ++ B)) (fun p => by simp only [cnt_app, cnt_cons, cnt_nil] at *; omega)
  refine M.sta0 .here (osz OR rfl) (rBow.oone OR) rfl .here fun h3 M => M.lda0 .here (osz OR rfl) ?_
  rw [← hl]
  exact ⟨_, BR, _, _, _, B, rfl, OR, O, M.drop⟩
theorem impl_IsSilentBow_c (R0 : rBow.rd h cs.toList x) (hok : x.ok = true) : CALL prg f_impl_IsSilentBow #[.agg cs] (fun u h' => u = .tuple ⟨[.bool x.silent, .int .i64 (0 : Int)]⟩ ∧ Ext h h') h := by
  have k : x.silent = (x.Neck.zero && x.Bridge.zero && x.Damp.still) := rfl
  have rg := bow_rings hok
  refine impl_IsSilentBow.call (alcR R0 fun g h1 x1 R => R.lda1 rfl fun c1 R1 => goX (ValidBow_c R1) fun h2 x2 => as_b ?_)
  rw [hok]
  refine br_f rfl (((R.ext x2).fst foc_Bow_Neck).lda1 rfl fun c2 R2 => goX (isQuiet_c R2 rg.1) fun h3 x3 => as_b (br (fun b1 => ?_) fun b1 => ⟨by rw [k, b1]; rfl, x1.trans (x2.trans x3)⟩))
  refine (R.ext (x2.trans x3)).lda2 foc_Bow_Bridge rfl fun c3 R3 => goX (isQuiet_c R3 rg.2) fun h4 x4 => as_b (br (fun b2 => ?_) fun b2 => ⟨by rw [k, b1, b2]; rfl, x1.trans ((x2.trans x3).trans x4)⟩)
  exact (R.ext ((x2.trans x3).trans x4)).lda2 foc_Bow_Damp rfl fun c4 R4 => goX (Filter_isStill_c R4) fun h5 x5 => as_b ⟨by rw [k, b1, b2]; rfl, x1.trans (((x2.trans x3).trans x4).trans x5)⟩
/-- A bow whose bridge is pulled. -/
def pul (f a : Nat) : Nat := kept (fadd .f32 a f)
def GBow.pull (x : GBow) (f : Nat) : GBow := { x with Bridge := { x.Bridge with Samples := x.Bridge.Samples.map (pul f) } }
def GBow.pullN (x : GBow) (f n : Nat) : GBow := { x with Bridge := { x.Bridge with Samples := mapN (pul f) x.Bridge.Samples n } }
theorem impl_PullBow_c {y f : Nat} (R0 : rBow.rd h cs.toList x) (hok : x.ok = true) (hy : FW .f32 y f) (hf : fin f = true) : CALL prg f_impl_PullBow #[.agg cs, .float .f32 y] (fun u h' => PairR rBow h h' u (x.pull f) 0) h := by
  refine impl_PullBow.call ((Mem.start h).alc fun g1 h1 x1 M => M.alc fun g3 h2 x2 M => M.lda0 (.there .here) (rsz R0 rfl) ?_)
  refine goM M (ValidBow_c (rBow.ext M.ext R0)) fun h3 M => as_b ?_
  rw [hok]
  refine br_f rfl (goM M (isFinite_c hy _) fun h4 M => as_b ?_)
  rw [hf]
  refine br_f rfl ?_
  have hs := bow_small hok
  refine M.lda0 (.there .here) (rsz R0 rfl) (NewR.go M (Bow_clone_c (rBow.ext M.ext R0) hs.1 hs.2) fun h4 c4 B4 M O4 s4 => as_a ?_)
  have M := M.cnt (W := (g1, T_impl_Bow, cs) :: (B4 ++ [(g3, T_impl_Bow, ⟨Z_impl_Bow⟩)])) (fun p => by simp only [cnt_app, cnt_cons, cnt_nil] at *; omega)
  refine M.sta0 .here s4 (rBow.oone O4) (rsz R0 rfl) .here fun h6 M => ?_
  have P : Pt rBow h h6 ⟨g1, 0, none⟩ ⟨g1, T_impl_Bow, [], []⟩ [(g3, T_impl_Bow, ⟨Z_impl_Bow⟩)] x := Pt.new O4 M
  obtain ⟨b, l, c, hb, S⟩ := P.hdr (off := 2) (e := T_float32) (s := rF .f32)
  have hl : x.Bridge.Samples.length = l := S.len
  have hb' := hb
  rw [add_g] at hb'
  refine o_l hb' ?_
  refine loop (fun v hh => ∃ n : Nat, v = (y, ⟨g1, 0, none⟩, ⟨g3, 0, none⟩, b, l, c, (l : Int), (n : Int)) ∧ n ≤ l ∧ cell hh ((⟨g1, 0, none⟩ : Addr).add 2) = some (.slice b l c) ∧
    Pt rBow h hh ⟨g1, 0, none⟩ ⟨g1, T_impl_Bow, [], []⟩ [(g3, T_impl_Bow, ⟨Z_impl_Bow⟩)] (x.pullN f n)) (fun v => (l - v.2.2.2.2.2.2.2).toNat)
    ⟨0, rfl, by omega, hb, by unfold GBow.pullN; rw [mapN_zero]; exact P⟩ ?_
  rintro v hh ⟨n, rfl, hn, hb, P⟩
  refine brd (fun hc => ?_) fun hc => ?_
  · obtain ⟨a0, F', C, rfl, P', close⟩ := P.elemX (off := 2) hb (i := n) (by omega)
    have hg : (x.pullN f n).Bridge.Samples[n]! = x.Bridge.Samples[n]! := mapN_get (by omega)
    have P' : Pt (rF .f32) h hh (a0.add (n * 1)) F' (C ++ [(g3, T_impl_Bow, ⟨Z_impl_Bow⟩)]) (x.pullN f n).Bridge.Samples[n]! := P'
    rw [hg] at P'
    refine idxs (by omega) (by omega) ?_
    rw [Int.toNat_natCast]
    refine P'.rd.oF1 fun w hw => o_l hb (fA hw hy fun m hm => pin_same ((kept_c hm).go fun h7 k x7 hk => as_f (P.rd.pinO (by decide) x7 (idxs (by omega) (by omega) ?_))))
    refine (P'.grow x7).stF0 hk fun h8 P8 => ?_
    obtain ⟨P9, e9⟩ := close _ _ _ _ P8
    refine ⟨⟨n + 1, by rw [wrap64_succ (by omega)], by omega, by rw [e9]; exact hb, ?_⟩, by rw [wrap64_succ (by omega)]; show _ < _; simp; omega⟩
    have e : (mapN (pul f) x.Bridge.Samples n).set n (pul f x.Bridge.Samples[n]!) = mapN (pul f) x.Bridge.Samples (n + 1) := mapN_step (by omega)
    have P9 : Pt rBow h h8 ⟨g1, 0, none⟩ ⟨g1, T_impl_Bow, [], []⟩ [(g3, T_impl_Bow, ⟨Z_impl_Bow⟩)] { x with Bridge := { x.Bridge with Samples := (mapN (pul f) x.Bridge.Samples n).set n (pul f x.Bridge.Samples[n]!) } } := P9
    rw [e] at P9
    exact P9
  obtain rfl : n = l := by omega
  have e : x.pullN f n = x.pull f := by unfold GBow.pullN GBow.pull; rw [mapN_all hl.symm]
  rw [e] at P
  obtain ⟨cs, BR, M, OR⟩ := P.out
  refine M.lda0 .here (osz OR rfl) ?_
  have M := M.cnt (W := (g3, T_impl_Bow, ⟨Z_impl_Bow⟩) :: BR) (fun p => by simp only [cnt_app, cnt_cons, cnt_nil] at *; omega)
  exact M.sta0 .here (osz OR rfl) (rBow.oone OR) rfl .here fun h3 M => M.lda0 .here (osz OR rfl) ⟨_, BR, rfl, OR, M.drop⟩
theorem pull_ok {f : Nat} (h : x.ok = true) : (x.pull f).ok = true := by
  unfold GBow.ok at *
  rw [Bool.and_eq_true, Bool.and_eq_true, Bool.and_eq_true] at *
  obtain ⟨⟨⟨h1, h2⟩, h3⟩, h4⟩ := h
  refine ⟨⟨⟨h1, ?_⟩, h3⟩, h4⟩
  unfold GRing.okf GRing.ok GRing.len at *
  rw [Bool.and_eq_true] at *
  have e : (x.pull f).Bridge.Samples.length = x.Bridge.Samples.length := List.length_map ..
  rw [e]
  refine ⟨h2.1, ?_⟩
  unfold allFin
  rw [List.all_eq_true]
  intro a ha
  obtain ⟨b, _, rfl⟩ := List.mem_map.1 ha
  exact kept_fin _
/-- A thing, a float and a code, told by a call. -/
def MidG {α : Type} (r : Rep α) (h h' : Heap) (u : Value) (x : α) (y : Nat) (code : Int) : Prop := ∃ cs B w, u = .tuple ⟨[.agg cs, .float .f32 w, .int .i64 code]⟩ ∧ r.ow B cs.toList x ∧ FW .f32 w y ∧ Mem h h' B
theorem MidG.go {α : Type} {r : Rep α} {P : Program} {f : FuncId} {args : Array Value} {x : α} {y : Nat} {code : Int} {hb h : Heap} {L : List Blk} {K : Value → Heap → Prop} (M : Mem hb h L) (k : CALL P f args (fun u h' => MidG r h h' u x y code) h)
    (H : ∀ h' cs B w, Mem hb h' (B ++ L) → r.ow B cs.toList x → FW .f32 w y → K (.tuple ⟨[.agg cs, .float .f32 w, .int .i64 code]⟩) h') : CALL P f args K h :=
  k.mono fun u h' ⟨cs, B, w, e, O, S, N⟩ => by subst e; exact H h' cs B w (M.join N) O S
theorem impl_StepBow_c {y f : Nat} (R0 : rBow.rd h cs.toList x) (hok : x.ok = true) (hy : FW .f32 y f) : CALL prg f_impl_StepBow #[.agg cs, .float .f32 y] (fun u h' => MidG rBow h h' u (x.step f).1 (x.step f).2 0) h := by
  refine impl_StepBow.call ((Mem.start h).alc fun g1 h1 x1 M => M.alc fun g3 h2 x2 M => M.lda0 (.there .here) (rsz R0 rfl) ?_)
  refine goM M (ValidBow_c (rBow.ext M.ext R0)) fun h3 M => as_b ?_
  rw [hok]
  have hs := bow_small hok
  refine br_f rfl (M.lda0 (.there .here) (rsz R0 rfl) (NewR.go M (Bow_clone_c (rBow.ext M.ext R0) hs.1 hs.2) fun h4 c4 B4 M O4 s4 => as_a ?_))
  have M := M.cnt (W := (g1, T_impl_Bow, cs) :: (B4 ++ [(g3, T_impl_Bow, ⟨Z_impl_Bow⟩)])) (fun p => by simp only [cnt_app, cnt_cons, cnt_nil] at *; omega)
  refine M.sta0 .here s4 (rBow.oone O4) (rsz R0 rfl) .here fun h6 M => ?_
  have P : Pt rBow h h6 ⟨g1, 0, none⟩ ⟨g1, T_impl_Bow, [], []⟩ [(g3, T_impl_Bow, ⟨Z_impl_Bow⟩)] x := Pt.new O4 M
  refine (Bow_step_c P (bow_rings hok).1 (bow_rings hok).2 hy).mono ?_
  rintro _ h8 ⟨⟨w, rfl, hw⟩, P⟩
  obtain ⟨cs, BR, M, OR⟩ := P.out
  refine as_f (M.lda0 .here (osz OR rfl) ?_)
  have M := M.cnt (W := (g3, T_impl_Bow, ⟨Z_impl_Bow⟩) :: BR) (fun p => by simp only [cnt_app, cnt_cons, cnt_nil] at *; omega)
  exact M.sta0 .here (osz OR rfl) (rBow.oone OR) rfl .here fun h3 M => M.lda0 .here (osz OR rfl) ⟨_, BR, _, rfl, OR, hw, M.drop⟩
end
end Go.Sx
