/- Jets: valid, copied, moved on, muted, played. -/
import Derived.Test.YteahcankljndlaaGreatDoorLm11
import Derived.Test.YteahcankljndlaaGreatDoorKJ
set_option linter.unusedVariables false
set_option linter.unusedSimpArgs false
namespace Go.Sx
open Go.Proofs
set_option maxRecDepth 100000
set_option maxHeartbeats 2000000

theorem used_setN {l : List Nat} {n : Int} {a i : Nat} (h : used l n = true) (hn : (i : Int) < n) : used (l.set i (kept a)) n = true := by
  unfold used at *
  rw [List.all_eq_true] at *
  intro j hj
  rw [List.mem_range, List.length_set] at hj
  have := h j (List.mem_range.2 hj)
  rw [Bool.and_eq_true] at *
  rw [setGet hj]
  split
  · next e => subst e; exact ⟨kept_fin a, by rw [decide_eq_true (by omega)]; rfl⟩
  · exact this
theorem filter_step5 {f : GFilter} {a : Nat} (h : (f.ok && f.Kind == 5) = true) : ((f.step a).1.ok && (f.step a).1.Kind == 5) = true := by
  rw [Bool.and_eq_true, beq_iff_eq] at h
  have hk := h.2
  have e : (f.step a).1 = { f with S := (f.S.set 0 (kept a)).set 1 (kept (fadd .f32 (fsub .f32 a f.S[0]!) (fmul .f32 f.C[0]! f.S[1]!))) } := by
    unfold GFilter.step
    rw [if_neg (by rw [hk]; decide), if_neg (by rw [hk]; decide), if_neg (by rw [hk]; decide), if_neg (by rw [hk]; decide)]
  rw [e]
  have h1 := h.1
  unfold GFilter.ok at *
  simp only [Bool.and_eq_true] at *
  have hu : usesS f.Kind = 2 := by rw [hk]; rfl
  rw [hu] at h1 ⊢
  exact ⟨⟨h1.1, used_setN (i := 1) (used_setN (i := 0) h1.2 (by decide)) (by decide)⟩, by rw [hk]; rfl⟩
theorem jet_step_ok {x : GJet} {a : Nat} (h : x.ok = true) : (x.step a).1.ok = true := by
  unfold GJet.ok at *
  rw [Bool.and_eq_true, Bool.and_eq_true, Bool.and_eq_true, Bool.and_eq_true] at *
  obtain ⟨⟨⟨⟨h1, h2⟩, h3⟩, h4⟩, h5⟩ := h
  exact ⟨⟨⟨⟨push_okf h1, push_okf h2⟩, filter_step1 h3⟩, filter_step5 h4⟩, h5⟩
theorem jet_rings {x : GJet} (h : x.ok = true) : x.Throat.ok = true ∧ x.Bore.ok = true := by
  unfold GJet.ok GRing.okf at h
  simp only [Bool.and_eq_true] at h
  exact ⟨h.1.1.1.1.1, h.1.1.1.2.1⟩
theorem jet_small {x : GJet} (h : x.ok = true) : x.Throat.Samples.length ≤ 1048576 ∧ x.Bore.Samples.length ≤ 1048576 := by
  unfold GJet.ok at h
  simp only [Bool.and_eq_true] at h
  exact ⟨okf_len h.1.1.1.1, okf_len h.1.1.1.2⟩
theorem playJ_ok {x : GJet} (h : x.ok = true) (l : List Nat) : (playG GJet.step x l).1.ok = true := by
  induction l generalizing x with
  | nil => exact h
  | cons a l ih => exact ih (jet_step_ok h)
/-- A jet's cells. -/
def jeL (b1 : Option Addr) (l1 c1 : Nat) (n1 : Int) (b2 : Option Addr) (l2 c2 : Nat) (n2 : Int) (v w : Int × Nat × Nat × Nat × Nat × Nat) (y z : Nat) : List Value :=
  [.slice b1 l1 c1, .int .i64 n1] ++ ([.slice b2 l2 c2, .int .i64 n2] ++ (flT v ++ (flT w ++ [.float .f32 y, .float .f32 z])))
theorem jeL_one {b1 b2 : Option Addr} {l1 c1 l2 c2 y z : Nat} {n1 n2 : Int} {v w : Int × Nat × Nat × Nat × Nat × Nat} : ∀ u ∈ (⟨jeL b1 l1 c1 n1 b2 l2 c2 n2 v w y z⟩ : Array Value).toList, u.oneCell' = true := all_one rfl
theorem jet_ow {x : GJet} {B1 B2 : List Blk} {b1 b2 : Option Addr} {l1 c1 l2 c2 : Nat} {v w : List Value} {y z : Nat} (O1 : SlO T_float32 (rF .f32) B1 b1 l1 c1 x.Throat.Samples) (O2 : SlO T_float32 (rF .f32) B2 b2 l2 c2 x.Bore.Samples) (hv : rFilter.ow [] v x.Low) (hw : rFilter.ow [] w x.Dc) (hy : FW .f32 y x.Near) (hz : FW .f32 z x.Far) :
    rJet.ow (B1 ++ B2) ([.slice b1 l1 c1, .int .i64 x.Throat.At] ++ ([.slice b2 l2 c2, .int .i64 x.Bore.At] ++ (v ++ (w ++ [.float .f32 y, .float .f32 z])))) x :=
  ⟨B1, B2, [.slice b1 l1 c1, .int .i64 x.Throat.At], _, rfl, rfl, ring_ow O1, B2, [], [.slice b2 l2 c2, .int .i64 x.Bore.At], _, by simp, rfl, ring_ow O2, [], [], v, _, rfl, rfl, hv, [], [], w, _, rfl, rfl, hw, [], [], [.float .f32 y], [.float .f32 z], rfl, rfl, ⟨rfl, y, rfl, hy⟩, ⟨rfl, z, rfl, hz⟩⟩
theorem jet_cells {h : Heap} {cs : Array Value} {x : GJet} (R : rJet.rd h cs.toList x) : ∃ b1 l1 c1 b2 l2 c2 v w y z, cs = ⟨jeL b1 l1 c1 x.Throat.At b2 l2 c2 x.Bore.At v w y z⟩ ∧ rFilter.ow [] (flT v) x.Low ∧ rFilter.ow [] (flT w) x.Dc ∧ FW .f32 y x.Near ∧ FW .f32 z x.Far := by
  obtain ⟨w1, r1, e1, ⟨u1, u2, rfl, ⟨b1, l1, c1, rfl, S1⟩, hat1⟩, w2, r2, rfl, ⟨u3, u4, rfl, ⟨b2, l2, c2, rfl, S2⟩, hat2⟩, w3, r3, rfl, F1, w6, r6, rfl, F2, w4, w5, rfl, ⟨y, rfl, hy⟩, ⟨z, rfl, hz⟩⟩ := R
  have hat1 : u2 = [.int .i64 x.Throat.At] := hat1
  have hat2 : u4 = [.int .i64 x.Bore.At] := hat2
  subst hat1 hat2
  obtain ⟨v, rfl, O⟩ := filter_cells F1
  obtain ⟨w, rfl, O2⟩ := filter_cells F2
  exact ⟨b1, l1, c1, b2, l2, c2, v, w, y, z, by cases cs; simpa [jeL] using e1, O, O2, hy, hz⟩
section
variable {h0 h : Heap} {q : Addr} {F : Fr} {L : List Blk} {x : GJet} {xs : List Nat} {b : Option Addr} {l c y a : Nat} {cs : Array Value}
theorem ValidJet_c (R0 : rJet.rd h cs.toList x) : CALL prg f_impl_ValidJet #[.agg cs] (fun u h' => u = .bool x.ok ∧ Ext h h') h := by
  refine impl_ValidJet.call (alcE (Ext.refl h) R0 fun g h0 x0 R => ?_)
  have A : ∀ {hh : Heap}, Ext h0 hh → RdP rJet hh ⟨g, 0, none⟩ x := fun e => R.ext e
  refine R.lda2 foc_Jet_Throat rfl fun c1 R1 => goX (isRing_c R1) fun h1 x1 => as_b (br (fun k1 => ?_) fun k1 => ⟨by rw [GJet.ok, k1]; rfl, x0.trans x1⟩)
  refine (A x1).lda2 foc_Jet_Bore rfl fun c2 R2 => goE x1 (isRing_c R2) fun h2 x2 => as_b (br (fun k2 => ?_) fun k2 => ⟨by rw [GJet.ok, k2]; simp, x0.trans x2⟩)
  refine (A x2).lda2 foc_Jet_Low rfl fun c3 R3 => goE x2 (isFilter_c R3 _) fun h3 x3 => as_b (br (fun k3 => ?_) fun k3 => ⟨by rw [GJet.ok, k3]; simp, x0.trans x3⟩)
  refine (A x3).lda2 foc_Jet_Dc rfl fun c4 R4 => goE x3 (isFilter_c R4 _) fun h4 x4 => as_b (br (fun k4 => ?_) fun k4 => ⟨by rw [GJet.ok, k4]; simp, x0.trans x4⟩)
  refine (A x4).oF2 fun y hy => (A x4).oF2 fun z hz => two_fl hy hz fun g4 h5 x5 S => goX (areFinite_c S) fun h6 x6 => as_b ⟨?_, x0.trans (x4.trans (x5.trans x6))⟩
  rw [GJet.ok, k1, k2, k3, k4]
  simp [allFin]
theorem l05Jet_c (R : RdP rJet h q x) : CALL prg f_spec_l05Jet #[.pointer (some q)] (fun u h' => u = .bool x.ok ∧ Ext h h') h := by
  have A : ∀ {hh : Heap}, Ext h hh → RdP rJet hh q x := fun e => R.ext e
  have z0 : (rArr 2 rRing).rd h [Value.slice none 0 0, Value.int .i64 (0 : Int), Value.slice none 0 0, Value.int .i64 (0 : Int)] [z_Ring, z_Ring] := ⟨rfl, [Value.slice none 0 0, Value.int .i64 (0 : Int)], [Value.slice none 0 0, Value.int .i64 (0 : Int)], rfl, rRing.look zow_Ring (Mem.start h) (List.nil_sublist _), [Value.slice none 0 0, Value.int .i64 (0 : Int)], [], rfl, rRing.look zow_Ring (Mem.start h) (List.nil_sublist _), rfl⟩
  refine spec_l05Jet.call ((R.fst foc_Jet_Throat).lda1 rfl fun c1 R1 => R.lda foc_Jet_Bore rfl fun c2 R2 => siz (rsz R1 rfl) (siz (rsz R2 rfl) ?_))
  have z1 := rd_splice (put := fun l b => l.set 0 b) (get := fun l => l[0]!) z0 (fun R => arr_put (i := 0) (by decide) R) R1
  have z2 := rd_splice (put := fun l b => l.set 1 b) (get := fun l => l[1]!) z1 (fun R => arr_put (i := 1) (by decide) R) R2
  refine rArr_slr (r := rRing) (n := 2) (xs := [x.Throat, x.Bore]) z2 (by decide) fun g h1 x1 S => goE x1 (l04Rings_c S) fun h2 x2 => as_b ?_
  have k : x.ok = ([x.Throat, x.Bore].all GRing.okf && (x.Low.ok && x.Low.Kind == 1) && (x.Dc.ok && x.Dc.Kind == 5) && (fin x.Near && fin x.Far)) := by rw [GJet.ok]; simp
  refine br (fun k1 => ?_) fun k1 => ⟨by rw [k, k1]; rfl, x2⟩
  refine goE x2 (l02Ok_c ((A x2).foc foc_Jet_Low)) fun h3 x3 => as_b (br (fun k2 => (A x3).oI (br (fun k3 => ?_) fun k3 => ⟨by rw [k, k3]; simp, x3⟩)) fun k2 => ⟨by rw [k, k2]; simp, x3⟩)
  refine goE x3 (l02Ok_c ((A x3).foc foc_Jet_Dc)) fun h4 x4 => as_b (br (fun k4 => (A x4).oI (br (fun k5 => ?_) fun k5 => ⟨by rw [k, k5]; simp, x4⟩)) fun k4 => ⟨by rw [k, k4]; simp, x4⟩)
  refine (A x4).oF fun y hy => (A x4).oF fun z hz => two_fl hy hz fun g4 h5 x5 S => goX (l04All_c S) fun h6 x6 => as_b ⟨?_, x4.trans (x5.trans x6)⟩
  rw [k, k1, k2, k3, k4, k5]
  simp [allFin]
theorem l05CopyJet_c (R : RdP rJet h q x) (h1 : x.Throat.Samples.length ≤ 1048576) (h2 : x.Bore.Samples.length ≤ 1048576) : CALL prg f_spec_l05CopyJet #[.pointer (some q)] (fun u h' => NewR rJet h h' u x) h := by
  refine spec_l05CopyJet.call ((Mem.start h).alc fun g1 h3 x3 M => ?_)
  have A : ∀ {hh : Heap}, Ext h hh → RdP rJet hh q x := fun e => R.ext e
  refine (A M.ext).lda foc_Jet_Low rfl fun a3 R3 => (A M.ext).lda foc_Jet_Dc rfl fun a4 R4 => (A M.ext).oF fun r4 h4 => (A M.ext).oF fun r5 h5 => ?_
  obtain ⟨v1, e3, O1⟩ := filter_cells R3
  obtain rfl : a3 = ⟨flT v1⟩ := by cases a3; simpa using e3
  obtain ⟨v2, e4, O2⟩ := filter_cells R4
  obtain rfl : a4 = ⟨flT v2⟩ := by cases a4; simpa using e4
  refine NewR.go (Mem.start h3) (l02Copy_c ((A M.ext).fst foc_Jet_Throat) h1) fun h7 a8 B8 N O8 s8 => as_a ?_
  obtain ⟨b, l, c, rfl, OS⟩ := ring_cells O8
  have P := A M.ext
  refine P.pinO (by decide) N.ext (P.pinO (by decide) N.ext (P.pinO (by decide) N.ext (P.pinO (by decide) N.ext ?_)))
  refine NewR.go N (l02Copy_c ((A (M.ext.trans N.ext)).foc foc_Jet_Bore) h2) fun h8 a9 B9 N O9 s9 => as_a ?_
  obtain ⟨b', l', c', rfl, OT⟩ := ring_cells O9
  refine P.pinO (by decide) N.ext (P.pinO (by decide) N.ext (P.pinO (by decide) N.ext (P.pinO (by decide) N.ext (siz rfl (siz rfl (siz rfl (siz rfl ?_)))))))
  have M := (M.join N).cnt (W := (g1, T_impl_Jet, ⟨Z_impl_Jet⟩) :: (B8 ++ B9)) (fun p => by simp only [List.append_eq, cnt_app, cnt_cons, cnt_nil] at *; omega)
  refine M.sta0 (vs := ⟨jeL b l c x.Throat.At b' l' c' x.Bore.At v1 v2 r4 r5⟩) .here rfl jeL_one rfl .here fun h9 M => M.lda0 .here rfl ⟨_, B8 ++ B9, rfl, jet_ow (x := x) OS OT O1 O2 h4 h5, M.drop⟩
theorem Jet_clone_c (R0 : rJet.rd h cs.toList x) (h1 : x.Throat.Samples.length ≤ 1048576) (h2 : x.Bore.Samples.length ≤ 1048576) : CALL prg f_impl_Jet_clone #[.agg cs] (fun u h' => NewR rJet h h' u x) h := by
  obtain ⟨b1, l1, c1, b2, l2, c2, v, w, y, z, rfl, O1, O2, hy, hz⟩ := jet_cells R0
  refine impl_Jet_clone.call ((Mem.start h).alc fun g1 h3 x3 M => M.alc fun g3 h4 x4 M => ?_)
  have R : RdP rJet h4 ⟨g1, 0, none⟩ x := M.rdp (.there .here) (rJet.ext M.ext R0)
  refine (R.fst foc_Jet_Throat).lda1 rfl fun a5 R5 => R.lda2 foc_Jet_Bore rfl fun a6 R6 => NewR.go (Mem.start h4) (Ring_clone_c R5 h1) fun h7 a8 B8 N O8 s8 => as_a (R.pin2 (by decide) N.ext ?_)
  obtain ⟨b, l, c, rfl, OS⟩ := ring_cells O8
  refine NewR.go N (Ring_clone_c (rRing.ext N.ext R6) h2) fun h8 a9 B9 N O9 s9 => as_a ?_
  obtain ⟨b', l', c', rfl, OT⟩ := ring_cells O9
  have M := (M.join N).cnt (W := (g1, T_impl_Jet, ⟨jeL b1 l1 c1 x.Throat.At b2 l2 c2 x.Bore.At v w y z⟩) :: (g3, T_impl_Jet, ⟨Z_impl_Jet⟩) :: (B8 ++ B9)) (fun p => by simp only [List.append_eq, cnt_app, cnt_cons, cnt_nil] at *; omega)
  refine M.sta .here rfl (all_one rfl) (by show 0 + 2 ≤ 18; decide) .here fun h9 M => ?_
  have M : Mem h h9 ((g1, T_impl_Jet, ⟨jeL b l c x.Throat.At b2 l2 c2 x.Bore.At v w y z⟩) :: (g3, T_impl_Jet, ⟨Z_impl_Jet⟩) :: (B8 ++ B9)) := M
  refine M.sta .here rfl (all_one rfl) (by show 2 + 2 ≤ 18; decide) .here fun h10 M => ?_
  have M : Mem h h10 ((g1, T_impl_Jet, ⟨jeL b l c x.Throat.At b' l' c' x.Bore.At v w y z⟩) :: (g3, T_impl_Jet, ⟨Z_impl_Jet⟩) :: (B8 ++ B9)) := M
  exact M.lda0 .here rfl (M.sta0 (.there .here) rfl jeL_one rfl (.there .here) fun h11 M => M.lda0 (.there .here) rfl ⟨_, B8 ++ B9, rfl, jet_ow (x := x) OS OT O1 O2 hy hz, M.drop.drop⟩)
/-- What a step of a jet leaves. -/
def JeStep (h0 h' : Heap) (q : Addr) (F : Fr) (L : List Blk) (x : GJet) (a : Nat) (u : Value) : Prop := (∃ y, u = .float .f32 y ∧ FW .f32 y (x.step a).2) ∧ Pt rJet h0 h' q F L (x.step a).1
theorem l05Edge_c (hy : FW .f32 y a) : Fl prg f_spec_l05Edge #[.float .f32 y] .f32 (jetAt a) := fun h => by
  refine spec_l05Edge.call (fM hy hy fun w1 h1 => fS h1 fwone fun w2 h2 => fM hy h2 fun w3 h3 => (l01Clamp_c h3 fwone).go fun h3 y x3 hy => as_f ?_)
  exact ⟨⟨y, rfl, hy⟩, x3⟩
theorem JetAt_c (hy : FW .f32 y a) : Fl prg f_impl_JetAt #[.float .f32 y] .f32 (jetAt a) := fun h => by
  refine impl_JetAt.call (fM hy hy fun w1 h1 => fS h1 fwone fun w2 h2 => fM hy h2 fun w3 h3 => (ClampSample_c h3 fwone).go fun h3 y x3 hy => as_f ?_)
  exact ⟨⟨y, rfl, hy⟩, x3⟩
theorem l05StepJet_c (P : Pt rJet h0 h q F L x) (ht : x.Throat.ok = true) (hb : x.Bore.ok = true) (hy : FW .f32 y a) : CALL prg f_spec_l05StepJet #[.pointer (some q), .float .f32 y] (fun u h' => JeStep h0 h' q F L x a u) h := by
  obtain ⟨j1, j2, j3, j4, j5⟩ := at_lt ht
  obtain ⟨k1, k2, k3, k4, k5⟩ := at_lt hb
  refine spec_l05StepJet.call (P.rd.oL1 fun b l c S => P.rd.oI ?_)
  have hl := S.len
  refine S.idx (by decide) j1 (by omega) fun p Rp => Rp.oF1 fun r4 h4 => P.rd.oL fun b' l' c' S' => P.rd.oI ?_
  have hl' := S'.len
  refine S'.idx (by decide) k1 (by omega) fun p Rp => Rp.oF1 fun o ho => ?_
  obtain ⟨F1, L1, P1, hs1, c1⟩ := P.foc foc_Jet_Low
  refine (l02Step_c P1 ho).mono ?_
  rintro _ h1 ⟨⟨t, rfl, ht1⟩, P1⟩
  have P := c1 _ _ _ P1
  obtain ⟨F2, L2, P2, hs2, c2⟩ := P.foc foc_Jet_Dc
  refine as_f ((l02Step_c P2 ht1).mono ?_)
  rintro _ h2 ⟨⟨d, rfl, hd⟩, P2⟩
  have P := c2 _ _ _ P2
  refine as_f (P.rd.oF fun w hw => fM hw hd fun m hm => fS hy hm fun s hs => (l02Kept_c hs).go fun h3 k x3 hk => as_f ?_)
  obtain ⟨F3, L3, P3, hs3, c3⟩ := (P.grow x3).foc foc_Jet_Throat
  rw [add0] at P3 c3
  refine (l02Push_c P3 ht hk).mono ?_
  rintro _ h4' ⟨⟨y2, rfl, hy2⟩, P3⟩
  have P := c3 _ _ _ P3
  refine as_f (P.rd.oF fun f hf => ?_)
  have fin : ∀ {hh : Heap} {s : Nat}, Ext h4' hh → FW .f32 s (fadd .f32 (jetAt x.Throat.old) (fmul .f32 x.Far (x.Dc.step (x.Low.step x.Bore.old).2).2)) → CALL prg f_spec_l02Kept #[.float .f32 s] (fun q30 h31 => asF .f32 q30 fun r32 => CALL prg f_spec_l02Push #[.pointer (some (Addr.add q 2)), .float .f32 r32] (fun q33 h34 => asF .f32 q33 fun r35 => JeStep h0 h34 q F L x a (.float .f32 o)) h31) hh := fun X hs => (l02Kept_c hs).go fun h5 k x5 hk => as_f (by
    obtain ⟨F4, L4, P4, hs4, c4⟩ := (P.grow (X.trans x5)).foc foc_Jet_Bore
    refine (l02Push_c P4 hb hk).mono ?_
    rintro _ h6 ⟨⟨y2, rfl, hy2⟩, P4⟩
    exact as_f ⟨⟨o, rfl, ho⟩, c4 _ _ _ P4⟩)
  refine ⟨(l05Edge_c h4).go fun h5 e x5 he => as_f (P.rd.pinO (by decide) x5 (fM hf hd fun m hm => fA he hm fun s hs => fin x5 hs)), fM hf hd fun m hm => (l05Edge_c h4).go fun h5 e x5 he => as_f (P.rd.pinO (by decide) x5 (fA he hm fun s hs => fin x5 hs))⟩
theorem Jet_step_c (P : Pt rJet h0 h q F L x) (ht : x.Throat.ok = true) (hb : x.Bore.ok = true) (hy : FW .f32 y a) : CALL prg f_p_impl_Jet_step #[.pointer (some q), .float .f32 y] (fun u h' => JeStep h0 h' q F L x a u) h := by
  have R := P.rd
  refine p_impl_Jet_step.call ((R.fst foc_Jet_Throat).lda1 rfl fun cT RT => R.lda foc_Jet_Bore rfl fun cB RB => (oldest_c RT ht).mono ?_)
  rintro _ h1 ⟨⟨r4, rfl, h4⟩, x1⟩
  refine as_f (R.pinO (by decide) x1 ((oldest_c (rRing.ext x1 RB) hb).mono ?_))
  rintro _ h2 ⟨⟨o, rfl, ho⟩, x2⟩
  have P := P.grow (x1.trans x2)
  obtain ⟨F1, L1, P1, hs1, c1⟩ := P.foc foc_Jet_Low
  refine as_f ((Filter_step_c P1 ho).mono ?_)
  rintro _ h1 ⟨⟨t, rfl, ht1⟩, P1⟩
  have P := c1 _ _ _ P1
  obtain ⟨F2, L2, P2, hs2, c2⟩ := P.foc foc_Jet_Dc
  refine as_f ((Filter_step_c P2 ht1).mono ?_)
  rintro _ h2 ⟨⟨d, rfl, hd⟩, P2⟩
  have P := c2 _ _ _ P2
  refine as_f (P.rd.oF fun w hw => fM hw hd fun m hm => fS hy hm fun s hs => (kept_c hs).go fun h3 k x3 hk => as_f ?_)
  obtain ⟨F3, L3, P3, hs3, c3⟩ := (P.grow x3).foc foc_Jet_Throat
  rw [add0] at P3 c3
  refine (Ring_push_c P3 ht hk).mono ?_
  rintro _ h4' ⟨⟨y2, rfl, hy2⟩, P3⟩
  have P := c3 _ _ _ P3
  refine as_f (P.rd.oF fun f hf => ?_)
  have fin : ∀ {hh : Heap} {s : Nat}, Ext h4' hh → FW .f32 s (fadd .f32 (jetAt x.Throat.old) (fmul .f32 x.Far (x.Dc.step (x.Low.step x.Bore.old).2).2)) → CALL prg f_impl_kept #[.float .f32 s] (fun q30 h31 => asF .f32 q30 fun r32 => CALL prg f_p_impl_Ring_push #[.pointer (some (Addr.add q 2)), .float .f32 r32] (fun q33 h34 => asF .f32 q33 fun r35 => JeStep h0 h34 q F L x a (.float .f32 o)) h31) hh := fun X hs => (kept_c hs).go fun h5 k x5 hk => as_f (by
    obtain ⟨F4, L4, P4, hs4, c4⟩ := (P.grow (X.trans x5)).foc foc_Jet_Bore
    refine (Ring_push_c P4 hb hk).mono ?_
    rintro _ h6 ⟨⟨y2, rfl, hy2⟩, P4⟩
    exact as_f ⟨⟨o, rfl, ho⟩, c4 _ _ _ P4⟩)
  refine ⟨(JetAt_c h4).go fun h5 e x5 he => as_f (P.rd.pinO (by decide) x5 (fM hf hd fun m hm => fA he hm fun s hs => fin x5 hs)), fM hf hd fun m hm => (JetAt_c h4).go fun h5 e x5 he => as_f (P.rd.pinO (by decide) x5 (fA he hm fun s hs => fin x5 hs))⟩
theorem spec_MuteJet_c (R0 : rJet.rd h cs.toList x) (hok : x.ok = true) : CALL prg f_spec_MuteJet #[.agg cs] (fun u h' => PairR rJet h h' u x.mute 0) h := by
  refine spec_MuteJet.call ((Mem.start h).alc fun g1 h1 x1 M => M.alc fun g3 h2 x2 M => ?_)
  have R : RdP rJet h2 ⟨g1, 0, none⟩ x := M.rdp (.there .here) (rJet.ext M.ext R0)
  refine goM M (l05Jet_c R) fun h3 M => as_b ?_
  rw [hok]
  refine br_f rfl ?_
  have hs := jet_small hok
  have R : RdP rJet h3 ⟨g1, 0, none⟩ x := M.rdp (.there .here) (rJet.ext M.ext R0)
  refine NewR.go M (l05CopyJet_c R hs.1 hs.2) fun h4 c4 B4 M O4 s4 => as_a (M.alc fun g13 h5 x5 M => ?_)
  refine M.sta0 .here s4 (rJet.oone O4) rfl .here fun h6 M => ?_
  have P : Pt rJet h h6 ⟨g13, 0, none⟩ ⟨g13, T_impl_Jet, [], []⟩ [(g3, T_impl_Jet, ⟨Z_impl_Jet⟩), (g1, T_impl_Jet, cs)] x := Pt.new O4 M
  have R : RdP rJet h6 ⟨g1, 0, none⟩ x := P.mem.rdp (.there .here) (rJet.ext P.ext R0)
  refine NewR.pt P (l05Muted_c (R.fst foc_Jet_Throat) hs.1) fun h7 c7 B7 P O7 s7 => as_a (P.sts0 foc_Jet_Throat rfl O7 fun h8 P => ?_)
  have R : RdP rJet h8 ⟨g1, 0, none⟩ x := P.mem.rdp (.there .here) (rJet.ext P.ext R0)
  have Rb := R.foc foc_Jet_Bore
  rw [add_g] at Rb
  refine NewR.pt P (l05Muted_c Rb hs.2) fun h9 c9 B9 P O9 s9 => as_a (P.stsg foc_Jet_Bore rfl O9 fun h10 P => ?_)
  have f1 : Foc rJet (rArr 2 (rF .f32)) 8 (fun a => a.Low.S) (fun a b => { a with Low := { a.Low with S := b } }) := (foc_Jet_Low.trans foc_Filter_S).at rfl
  have f2 : Foc rJet (rArr 2 (rF .f32)) 14 (fun a => a.Dc.S) (fun a b => { a with Dc := { a.Dc with S := b } }) := (foc_Jet_Dc.trans foc_Filter_S).at rfl
  have st := Pt.stF2 (K := fun h24 => STA 2 h24 ⟨g13, 14, none⟩ (⟨[.float .f32 0, .float .f32 0]⟩ : Array Value) fun h24 => LDA 18 h24 ⟨g13, 0, none⟩ fun a25 => STA 18 h24 ⟨g3, 0, none⟩ a25 fun h26 => LDA 18 h26 ⟨g3, 0, none⟩ fun a27 => PairR rJet h h26 (.tuple ⟨[.agg a27, .int .i64 (0 : Int)]⟩) x.mute 0) P f1 fw0 fw0 fun h11 P => ?_
  · rwa [add_g] at st
  have st := Pt.stF2 (K := fun h24 => LDA 18 h24 ⟨g13, 0, none⟩ fun a25 => STA 18 h24 ⟨g3, 0, none⟩ a25 fun h26 => LDA 18 h26 ⟨g3, 0, none⟩ fun a27 => PairR rJet h h26 (.tuple ⟨[.agg a27, .int .i64 (0 : Int)]⟩) x.mute 0) P f2 fw0 fw0 fun h12 P => ?_
  · rwa [add_g] at st
  obtain ⟨cs, B, M, O⟩ := P.out
  refine M.lda0 .here (osz O rfl) ?_
  have M := M.cnt (W := (g3, T_impl_Jet, ⟨Z_impl_Jet⟩) :: B) (fun p => by simp only [cnt_app, cnt_cons, cnt_nil] at *; omega)
  exact M.sta0 .here (osz O rfl) (rJet.oone O) rfl .here fun h3 M => M.lda0 .here (osz O rfl) ⟨_, B, rfl, O, M.drop⟩
theorem impl_PlayJet_c (R0 : rJet.rd h cs.toList x) (S0 : SlR (rF .f32) h b l c xs) (hok : x.ok = true) (hxs : xs.length ≤ 4096) : CALL prg f_impl_PlayJet #[.agg cs, .slice b l c] (fun u h' => TriG rJet h h' u (playG GJet.step x xs).1 (playG GJet.step x xs).2 0) h := by
  have hl := S0.len
  have hm : (4097 : Nat) ≤ maxLen := by decide
  refine impl_PlayJet.call ((Mem.start h).alc fun g1 h1 x1 M => M.alc fun g3 h2 x2 M => M.lda0 (.there .here) (rsz R0 rfl) ?_)
  refine goM M (ValidJet_c (rJet.ext M.ext R0)) fun h3 M => as_b ?_
  rw [hok]
  refine br_f rfl (brd (fun hc => by omega) fun hc => ?_)
  have hs := jet_small hok
  refine M.lda0 (.there .here) (rsz R0 rfl) (NewR.go M (Jet_clone_c (rJet.ext M.ext R0) hs.1 hs.2) fun h4 c4 B4 M O4 s4 => as_a ?_)
  have M := M.cnt (W := (g1, T_impl_Jet, cs) :: (B4 ++ [(g3, T_impl_Jet, ⟨Z_impl_Jet⟩)])) (fun p => by simp only [cnt_app, cnt_cons, cnt_nil] at *; omega)
  refine M.sta0 .here s4 (rJet.oone O4) (rsz R0 rfl) .here fun h6 M => ?_
  have P : Pt rJet h h6 ⟨g1, 0, none⟩ ⟨g1, T_impl_Jet, [], []⟩ [(g3, T_impl_Jet, ⟨Z_impl_Jet⟩)] x := Pt.new O4 M
  refine loop (fun y hh => ∃ (n : Nat) (b' : Option Addr) (c' : Nat) (B : List Blk), y = (⟨g1, 0, none⟩, ⟨g3, 0, none⟩, b', n, c', b, l, c, (l : Int), (n : Int)) ∧ n ≤ l ∧ SlO T_float32 (rF .f32) B b' n c' (playG GJet.step x (xs.take n)).2 ∧
    Pt rJet h hh ⟨g1, 0, none⟩ ⟨g1, T_impl_Jet, [], []⟩ (B ++ [(g3, T_impl_Jet, ⟨Z_impl_Jet⟩)]) (playG GJet.step x (xs.take n)).1) (fun y => (l - y.2.2.2.2.2.2.2.2.2).toNat)
    ⟨0, _, _, [], rfl, by omega, SlO.nil, P⟩ ?_
  rintro y hh ⟨n, b', c', B, rfl, hn, O, P⟩
  refine brd (fun hc => ?_) fun hc => ?_
  · have rg := jet_rings (playJ_ok hok (xs.take n))
    refine (S0.ext P.ext).idx (by decide) (by omega) (by omega) fun p Rp => Rp.oF1 fun w hw => ((Jet_step_c P rg.1 rg.2 hw).mono ?_)
    rintro _ h8 ⟨⟨y, rfl, hy⟩, P⟩
    refine as_f (Pt.push P E_sl_float32 O ⟨rfl, _, rfl, hy⟩ (by omega) (by omega) fun b2 c2 h9 B2 O2 P2 => as_l ⟨⟨n + 1, b2, c2, B2, by rw [wrap64_succ (by omega)], by omega, ?_, ?_⟩, by rw [wrap64_succ (by omega)]; show _ < _; simp; omega⟩)
    · rw [playG_step (by omega)]; exact O2
    · rw [playG_step (by omega)]; exact P2
  obtain rfl : n = l := by omega
  rw [← hl, List.take_length] at O P
  obtain ⟨cs, BR, M, OR⟩ := P.out
  refine M.lda0 .here (osz OR rfl) ?_
  have M := M.cnt (W := (g3, T_impl_Jet, ⟨Z_impl_Jet⟩) :: (BR ++ B)) (fun p => by simp only [cnt_app, cnt_cons, cnt_nil] at *; omega)
  refine M.sta0 .here (osz OR rfl) (rJet.oone OR) rfl .here fun h3 M => M.lda0 .here (osz OR rfl) ?_
  rw [← hl]
  exact ⟨_, BR, _, _, _, B, rfl, OR, O, M.drop⟩
theorem impl_IsSilentJet_c (R0 : rJet.rd h cs.toList x) (hok : x.ok = true) : CALL prg f_impl_IsSilentJet #[.agg cs] (fun u h' => u = .tuple ⟨[.bool x.silent, .int .i64 (0 : Int)]⟩ ∧ Ext h h') h := by
  have k : x.silent = (x.Throat.zero && x.Bore.zero && x.Low.still && x.Dc.still) := rfl
  have rg := jet_rings hok
  refine impl_IsSilentJet.call (alcR R0 fun g h1 x1 R => R.lda1 rfl fun c1 R1 => goX (ValidJet_c R1) fun h2 x2 => as_b ?_)
  rw [hok]
  refine br_f rfl (((R.ext x2).fst foc_Jet_Throat).lda1 rfl fun c2 R2 => goX (isQuiet_c R2 rg.1) fun h3 x3 => as_b (br (fun b1 => ?_) fun b1 => ⟨by rw [k, b1]; rfl, x1.trans (x2.trans x3)⟩))
  refine (R.ext (x2.trans x3)).lda2 foc_Jet_Bore rfl fun c3 R3 => goX (isQuiet_c R3 rg.2) fun h4 x4 => as_b (br (fun b2 => ?_) fun b2 => ⟨by rw [k, b1, b2]; rfl, x1.trans ((x2.trans x3).trans x4)⟩)
  refine (R.ext ((x2.trans x3).trans x4)).lda2 foc_Jet_Low rfl fun c4 R4 => goX (Filter_isStill_c R4) fun h5 x5 => as_b (br (fun b3 => ?_) fun b3 => ⟨by rw [k, b1, b2, b3]; rfl, x1.trans (((x2.trans x3).trans x4).trans x5)⟩)
  exact (R.ext (((x2.trans x3).trans x4).trans x5)).lda2 foc_Jet_Dc rfl fun c5 R5 => goX (Filter_isStill_c R5) fun h6 x6 => as_b ⟨by rw [k, b1, b2, b3]; rfl, x1.trans ((((x2.trans x3).trans x4).trans x5).trans x6)⟩
end
end Go.Sx
