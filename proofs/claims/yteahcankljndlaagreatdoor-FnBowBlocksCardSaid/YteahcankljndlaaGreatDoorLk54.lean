/- Strings and bows moved on: the rule's and the program's. -/
import Derived.Test.YteahcankljndlaaGreatDoorLm7
import Derived.Test.YteahcankljndlaaGreatDoorLk34
import Derived.Test.YteahcankljndlaaGreatDoorLs1
import Derived.Test.YteahcankljndlaaGreatDoorLk21
import Derived.Test.YteahcankljndlaaGreatDoorTab
set_option linter.unusedVariables false
set_option linter.unusedSimpArgs false
namespace Go.Sx
open Go.Proofs Ieee
set_option maxRecDepth 100000
set_option maxHeartbeats 1000000

def BoStep (h0 h' : Heap) (q : Addr) (F : Fr) (L : List Blk) (x : GBow) (a : Nat) (u : Value) : Prop := (∃ y, u = .float .f32 y ∧ FW .f32 y (x.step a).2) ∧ Pt rBow h0 h' q F L (x.step a).1
section
variable {h0 h : Heap} {q : Addr} {F : Fr} {L : List Blk} {y a : Nat}
theorem l05Friction_c {x s d : Nat} (hx : FW .f32 x s) (hy : FW .f32 y d) : Fl prg f_spec_l05Friction #[.float .f32 x, .float .f32 y] .f32 (friction s d) := fun h => by
  refine spec_l05Friction.call (fM hx hy fun r1 h1 => (l01Abs_c h1).go fun h2 r4 x2 h4 => as_f (fA h4 cRest fun r5 h5 => fM h5 h5 fun r6 h6 => fM h6 h6 fun r7 h7 => fD c1 h7 fun r8 h8 => ?_))
  rw [ord_eq h8 c1]
  unfold friction
  dsimp only
  refine br (fun k => ⟨⟨_, rfl, ?_⟩, x2⟩) fun k => ⟨⟨_, rfl, ?_⟩, x2⟩
  · rw [if_pos (show fgt .f32 _ _ = true from k)]; exact c1
  · rw [if_neg (by rw [show fgt .f32 _ _ = false from k]; decide)]; exact h8
theorem FrictionAt_c {x s d : Nat} (hx : FW .f32 x s) (hy : FW .f32 y d) : Fl prg f_impl_FrictionAt #[.float .f32 x, .float .f32 y] .f32 (friction s d) := fun h => by
  refine impl_FrictionAt.call (fM hx hy fun r1 h1 => (absolute_c h1).go fun h2 r4 x2 h4 => as_f (fA h4 cRest fun r5 h5 => fM h5 h5 fun r6 h6 => fM h6 h6 fun r7 h7 => fD c1 h7 fun r8 h8 => ?_))
  rw [ord_eq h8 c1]
  unfold friction
  dsimp only
  refine br (fun k => ⟨⟨_, rfl, ?_⟩, x2⟩) fun k => ⟨⟨_, rfl, ?_⟩, x2⟩
  · rw [if_pos (show fgt .f32 _ _ = true from k)]; exact c1
  · rw [if_neg (by rw [show fgt .f32 _ _ = false from k]; decide)]; exact h8
/-- What the bow meets. -/
def DrawR (h0 h' : Heap) (q : Addr) (F : Fr) (L : List Blk) (x : GBow) (a : Nat) (u : Value) : Prop :=
  ∃ y1 y2 y3, u = .tuple ⟨[.float .f32 y1, .float .f32 y2, .float .f32 y3]⟩ ∧ FW .f32 y1 x.u ∧ FW .f32 y2 x.v ∧ FW .f32 y3 (x.d a) ∧ Pt rBow h0 h' q F L { x with Damp := x.e.1 }
theorem l05Draw_c {x : GBow} (P : Pt rBow h0 h q F L x) (hn : x.Neck.ok = true) (hb : x.Bridge.ok = true) (hy : FW .f32 y a) : CALL prg f_spec_l05Draw #[.pointer (some q), .float .f32 y] (fun u h' => DrawR h0 h' q F L x a u) h := by
  obtain ⟨k1, k2, k3, k4, k5⟩ := at_lt hb
  obtain ⟨j1, j2, j3, j4, j5⟩ := at_lt hn
  refine spec_l05Draw.call (P.rd.oL fun b l c S => P.rd.oI ?_)
  have hl := S.len
  refine S.idx (by decide) k1 (by omega) fun p Rp => Rp.oF1 fun o ho => ?_
  obtain ⟨F1, L1, P1, hs1, cl⟩ := P.foc foc_Bow_Damp
  refine (l02Step_c P1 ho).mono ?_
  rintro _ h1 ⟨⟨t, rfl, ht⟩, P1⟩
  have P := cl _ _ _ P1
  refine as_f (P.rd.oF fun w hw => fM hw ht fun m hm => P.rd.oL1 fun b l c S => P.rd.oI ?_)
  have hl : x.Neck.Samples.length = l := S.len
  refine S.idx (by decide) j1 (by show x.Neck.At < _; omega) fun p Rp => Rp.oF1 fun n hn => fA (fw_neg hm) (fw_neg hn) fun s hs => fS hy hs fun d hd => ?_
  exact ⟨_, _, _, rfl, fw_neg hm, fw_neg hn, hd, P⟩
theorem Bow_meet_c {x : GBow} (P : Pt rBow h0 h q F L x) (hn : x.Neck.ok = true) (hb : x.Bridge.ok = true) (hy : FW .f32 y a) : CALL prg f_p_impl_Bow_meet #[.pointer (some q), .float .f32 y] (fun u h' => DrawR h0 h' q F L x a u) h := by
  refine p_impl_Bow_meet.call (P.rd.lda foc_Bow_Bridge rfl fun c1 R1 => (oldest_c R1 hb).mono ?_)
  rintro _ h1 ⟨⟨o, rfl, ho⟩, x1⟩
  have P := P.grow x1
  obtain ⟨F1, L1, P1, hs1, cl⟩ := P.foc foc_Bow_Damp
  refine as_f ((Filter_step_c P1 ho).mono ?_)
  rintro _ h2 ⟨⟨t, rfl, ht⟩, P1⟩
  have P := cl _ _ _ P1
  have R := P.rd.fst foc_Bow_Neck
  refine as_f (P.rd.oF fun w hw => R.lda1 rfl fun c2 R2 => ⟨fM hw ht fun m hm => pin_same ((oldest_c R2 hn).mono ?_), (oldest_c R2 hn).mono ?_⟩)
  · rintro _ h3 ⟨⟨n, rfl, hn⟩, x3⟩
    exact as_f (P.rd.pinO (by decide) x3 (fA (fw_neg hm) (fw_neg hn) fun s hs => fS hy hs fun d hd => ⟨_, _, _, rfl, fw_neg hm, fw_neg hn, hd, P.grow x3⟩))
  · rintro _ h3 ⟨⟨n, rfl, hn⟩, x3⟩
    exact as_f (P.rd.pinO (by decide) x3 (fM hw ht fun m hm => R.pin rfl x3 (fA (fw_neg hm) (fw_neg hn) fun s hs => fS hy hs fun d hd => ⟨_, _, _, rfl, fw_neg hm, fw_neg hn, hd, P.grow x3⟩)))
theorem l05StepBow_c {x : GBow} (P : Pt rBow h0 h q F L x) (hn : x.Neck.ok = true) (hb : x.Bridge.ok = true) (hy : FW .f32 y a) : CALL prg f_spec_l05StepBow #[.pointer (some q), .float .f32 y] (fun u h' => BoStep h0 h' q F L x a u) h := by
  obtain ⟨k1, k2, k3, k4, k5⟩ := at_lt hb
  refine spec_l05StepBow.call (P.rd.oL fun b l c S => P.rd.oI ?_)
  have hl := S.len
  refine S.idx (by decide) k1 (by omega) fun p Rp => Rp.oF1 fun o ho => (l05Draw_c P hn hb hy).mono ?_
  rintro _ h1 ⟨u1, u2, u3, rfl, q1, q2, q3, P⟩
  refine tup3 (as_f (as_f (as_f (P.rd.oF fun s hs => (l05Friction_c hs q3).go fun h2 f x2 hf => as_f (fM q3 hf fun w hw => fA q1 hw fun m hm => (l02Kept_c hm).go fun h3 k x3 hk => as_f ?_)))))
  obtain ⟨F3, L3, P3, hs3, c3⟩ := (P.grow (x2.trans x3)).foc foc_Bow_Neck
  rw [add0] at P3 c3
  refine (l02Push_c P3 hn hk).mono ?_
  rintro _ h4 ⟨⟨y2, rfl, hy2⟩, P3⟩
  have P := c3 _ _ _ P3
  refine as_f (fA q2 hw fun m hm => (l02Kept_c hm).go fun h5 k x5 hk => as_f ?_)
  obtain ⟨F4, L4, P4, hs4, c4⟩ := (P.grow x5).foc foc_Bow_Bridge
  refine (l02Push_c P4 hb hk).mono ?_
  rintro _ h6 ⟨⟨y2, rfl, hy2⟩, P4⟩
  exact as_f ⟨⟨o, rfl, ho⟩, c4 _ _ _ P4⟩
theorem Bow_step_c {x : GBow} (P : Pt rBow h0 h q F L x) (hn : x.Neck.ok = true) (hb : x.Bridge.ok = true) (hy : FW .f32 y a) : CALL prg f_p_impl_Bow_step #[.pointer (some q), .float .f32 y] (fun u h' => BoStep h0 h' q F L x a u) h := by
  refine p_impl_Bow_step.call (P.rd.lda foc_Bow_Bridge rfl fun c1 R1 => (oldest_c R1 hb).mono ?_)
  rintro _ h1 ⟨⟨o, rfl, ho⟩, x1⟩
  refine as_f ((Bow_meet_c (P.grow x1) hn hb hy).mono ?_)
  rintro _ h1 ⟨u1, u2, u3, rfl, q1, q2, q3, P⟩
  refine tup3 (as_f (as_f (as_f (P.rd.oF fun s hs => (FrictionAt_c hs q3).go fun h2 f x2 hf => as_f (fM q3 hf fun w hw => fA q1 hw fun m hm => (kept_c hm).go fun h3 k x3 hk => as_f ?_)))))
  obtain ⟨F3, L3, P3, hs3, c3⟩ := (P.grow (x2.trans x3)).foc foc_Bow_Neck
  rw [add0] at P3 c3
  refine (Ring_push_c P3 hn hk).mono ?_
  rintro _ h4 ⟨⟨y2, rfl, hy2⟩, P3⟩
  have P := c3 _ _ _ P3
  refine as_f (fA q2 hw fun m hm => (kept_c hm).go fun h5 k x5 hk => as_f ?_)
  obtain ⟨F4, L4, P4, hs4, c4⟩ := (P.grow x5).foc foc_Bow_Bridge
  refine (Ring_push_c P4 hb hk).mono ?_
  rintro _ h6 ⟨⟨y2, rfl, hy2⟩, P4⟩
  exact as_f ⟨⟨o, rfl, ho⟩, c4 _ _ _ P4⟩
end
end Go.Sx
/- Bodies that are silent: the rule's and the program's. -/
set_option linter.unusedVariables false
set_option linter.unusedSimpArgs false
namespace Go.Sx
open Go.Proofs
set_option maxRecDepth 100000
set_option maxHeartbeats 1000000

/-- Pointers to rings, and the rings. -/
def PR (h : Heap) (ps : List Addr) (rs : List GRing) : Prop := ps.length = rs.length ∧ ∀ i, i < ps.length → RdP rRing h ps[i]! rs[i]! ∧ rs[i]!.ok = true
theorem PR.ext {h h' : Heap} {ps : List Addr} {rs : List GRing} (H : PR h ps rs) (x : Ext h h') : PR h' ps rs := ⟨H.1, fun i hi => ⟨(H.2 i hi).1.ext x, (H.2 i hi).2⟩⟩
section
variable {h0 h : Heap} {q : Addr} {F : Fr} {L : List Blk} {y a : Nat}
theorem isQuiet_c {cs : Array Value} {r : GRing} (R0 : rRing.rd h cs.toList r) (hr : r.ok = true) : CALL prg f_impl_Ring_isQuiet #[.agg cs] (fun u h' => u = .bool r.zero ∧ Ext h h') h := by
  refine impl_Ring_isQuiet.call (alcR R0 fun g h1 x1 R => R.lda1 rfl fun c2 R2 => R.oL2 fun b l c S => goX (Ring_quiet_c R2 hr) fun h2 x2 => as_i (R.pin2 (by decide) x2 (goX (length_f32_c _ _ _ _) fun h3 x3 => as_i ⟨?_, x1.trans (x2.trans x3)⟩)))
  have hl : r.Samples.length = l := S.len
  have := quiet_zero hr
  congr 1
  rw [Bool.eq_iff_iff, ← this, beq_iff_eq]
  omega
end
end Go.Sx
/- Voices moved on: the rule's and the program's. -/
set_option linter.unusedVariables false
set_option linter.unusedSimpArgs false
namespace Go.Sx
open Go.Proofs
set_option maxRecDepth 100000
set_option maxHeartbeats 1000000

def GVoice.sound (k : Int) (v : GVoice) : GVoice × Nat :=
  if k = 1 then ({ v with String := (v.String.step 0).1 }, (v.String.step 0).2)
  else if k = 2 then ({ v with Pipe := (v.Pipe.step v.Drive).1 }, (v.Pipe.step v.Drive).2)
  else ({ v with Bow := (v.Bow.step v.Drive).1 }, (v.Bow.step v.Drive).2)
def GVoice.quiet (k : Int) (v : GVoice) : Bool := if k = 1 then v.String.silent else if k = 2 then v.Pipe.silent else v.Bow.silent
def bodyRuns (k : Int) (v : GVoice) : Prop := if k = 1 then v.String.Loop.ok = true else if k = 2 then v.Pipe.Runs else v.Bow.ok = true
theorem kept_fin (a : Nat) : fin (kept a) = true := by
  unfold kept
  split
  · next h =>
    unfold flush
    split
    · decide +kernel
    · exact h
  · decide +kernel
theorem push_okf {r : GRing} {a : Nat} (h : r.okf = true) : (r.push (kept a)).okf = true := by
  unfold GRing.okf at *
  rw [Bool.and_eq_true] at *
  refine ⟨(push_ok h.1).1, ?_⟩
  have h2 := h.2
  unfold allFin at *
  rw [List.all_eq_true] at *
  intro x hx
  rcases List.mem_or_eq_of_mem_set hx with hx | rfl
  · exact h2 x hx
  · exact kept_fin a
theorem used_set0 {l : List Nat} {n : Int} {a : Nat} (h : used l n = true) (hn : 1 ≤ n) : used (l.set 0 (kept a)) n = true := by
  unfold used at *
  rw [List.all_eq_true] at *
  intro i hi
  rw [List.mem_range, List.length_set] at hi
  have := h i (List.mem_range.2 hi)
  rw [Bool.and_eq_true] at *
  by_cases e : i = 0
  · subst e
    rw [getElem!_pos _ 0 (by rw [List.length_set]; exact hi), List.getElem_set_self]
    exact ⟨kept_fin a, by rw [decide_eq_true (by omega)]; rfl⟩
  · rw [getElem!_pos _ i (by rw [List.length_set]; exact hi), List.getElem_set_ne (by omega), ← getElem!_pos l i hi]
    exact this
theorem filter_step1 {f : GFilter} {a : Nat} (h : (f.ok && f.Kind == 1) = true) : ((f.step a).1.ok && (f.step a).1.Kind == 1) = true := by
  rw [Bool.and_eq_true, beq_iff_eq] at h
  rw [step1 h.2]
  have h1 := h.1
  unfold GFilter.ok at *
  simp only [Bool.and_eq_true] at *
  exact ⟨⟨h1.1, used_set0 h1.2 (by unfold usesS; rw [if_pos (.inl h.2)]; decide)⟩, by rw [h.2]; rfl⟩
theorem bow_step_ok {x : GBow} {a : Nat} (h : x.ok = true) : (x.step a).1.ok = true := by
  unfold GBow.ok at *
  rw [Bool.and_eq_true, Bool.and_eq_true, Bool.and_eq_true] at *
  obtain ⟨⟨⟨h1, h2⟩, h3⟩, h4⟩ := h
  exact ⟨⟨⟨push_okf h1, push_okf h2⟩, filter_step1 h3⟩, h4⟩
theorem bow_rings {x : GBow} (h : x.ok = true) : x.Neck.ok = true ∧ x.Bridge.ok = true := by
  unfold GBow.ok GRing.okf at h
  simp only [Bool.and_eq_true] at h
  exact ⟨h.1.1.1.1, h.1.1.2.1⟩
end Go.Sx
/- What functions of this seat's program compute, told in words (a predicate over heaps for each), and the proofs that the words are no more than the code's own weakest precondition. -/
namespace Go.Sx
open Go.Proofs
set_option linter.unusedVariables false
set_option maxRecDepth 100000

def p_spec_l00Src_next.J4 (Post : Value → Heap → Prop) (s_0 : Addr) (b_3 : Int) (h : Heap) : Prop :=
    oI .i64 (cell h (Addr.add s_0 1)) fun n9 =>
    ST1 h (Addr.add s_0 1) (.int .i64 ((IntKind.i64.wrap (n9 + (1 : Int))))) fun h10 =>
    oI .u64 (cell h10 (Addr.add s_0 2)) fun n11 =>
    ST1 h10 (Addr.add s_0 2) (.int .u64 ((IntKind.u64.wrap ((IntKind.u64.wrap ((IntKind.u64.wrap (n11 * (6364136223846793005 : Int))) + (IntKind.u64.wrap b_3))) + (1442695040888963407 : Int))))) fun h12 =>
    oI .i64 (cell h12 (Addr.add s_0 1)) fun n13 =>
    oL (cell h12 s_0) fun l14b l14l l14c =>
    BIF ((decide (n13 ≤ (l14l : Int)))) (
    Post (.int .i64 b_3) h12) (
    oI .u64 (cell h12 (Addr.add s_0 2)) fun n17 =>
    NN (40 : Int) <|
    Post (.int .i64 ((IntKind.i64.wrap ((bitI .and .u64 (shrI .u64 n17 (40 : Int)) (255 : Int)))))) h12)
def p_spec_l00Src_next.j4 (Post : Value → Heap → Prop) : Frame → Heap → Prop := fun fr h => GRD (shape (kds 62 [(0, .p), (3, .i .i64)]) fr) (p_spec_l00Src_next.J4 Post (gP (lget fr 0)) (gI (lget fr 3)) h)
def p_spec_l00Src_next.S (s_0 : Addr) (Post : Value → Heap → Prop) (h : Heap) : Prop :=
    oI .i64 (cell h (Addr.add s_0 1)) fun n1 =>
    oL (cell h s_0) fun l2b l2l l2c =>
    BIF ((decide (n1 < (l2l : Int)))) (
    oL (cell h s_0) fun l5b l5l l5c =>
    oI .i64 (cell h (Addr.add s_0 1)) fun n6 =>
    IDXS l5b n6 l5l fun p7 =>
    oI .u8 (cell h ((Addr.add p7 ((Int.toNat n6) * 1)))) fun n8 =>
    p_spec_l00Src_next.J4 Post s_0 (IntKind.i64.wrap n8) h) (
    p_spec_l00Src_next.J4 Post s_0 (0 : Int) h)
noncomputable def p_spec_l00Src_next.code : Code := (Tryz.f83.body).getD .skip
theorem p_spec_l00Src_next.call {s_0 : Addr} {Post : Value → Heap → Prop} {h : Heap} (H : p_spec_l00Src_next.S s_0 Post h) : CALL prg f_p_spec_l00Src_next #[.pointer (some s_0)] Post h :=
  fn_call tau_ok mixed (c := p_spec_l00Src_next.code) (Λ := lookL [(4, p_spec_l00Src_next.j4 Post)]) Tryz.func83 (by kernel_rfl) (by kernel_rfl)
    (Rq.seq (by kernel_rfl) (Rq.free (by kernel_rfl)) (Rq.seq (by kernel_rfl) (Rq.free (by kernel_rfl)) (Rq.seqJ (p_spec_l00Src_next.j4 Post) (by kernel_rfl) (seg (fun _ _ => by kernel_rfl)) (Rq.free (by kernel_rfl))
(Rq.free (by kernel_rfl)))))
    (Eq.mp (by kernel_rfl) H)

def p_spec_l00Src_pick.S (s_0 : Addr) (n_1 : Int) (Post : Value → Heap → Prop) (h : Heap) : Prop :=
    BIF ((decide (n_1 ≤ (1 : Int)))) (
    Post (.int .i64 (0 : Int)) h) (
    CALL prg f_p_spec_l00Src_next #[.pointer (some s_0)] (fun q1 h2 =>
    asI .i64 q1 fun n3 =>
    BIF ((decide ((200 : Int) < n_1))) (
    CALL prg f_p_spec_l00Src_next #[.pointer (some s_0)] (fun q4 h5 =>
    asI .i64 q4 fun n6 =>
    NZ n_1 <|
    Post (.int .i64 ((Int.tmod ((IntKind.i64.wrap ((IntKind.i64.wrap (n3 * (256 : Int))) + n6))) n_1))) h5) h2) (
    NZ n_1 <|
    Post (.int .i64 (Int.tmod n3 n_1)) h2)) h)
noncomputable def p_spec_l00Src_pick.code : Code := (Tryz.f41.body).getD .skip
theorem p_spec_l00Src_pick.call {s_0 : Addr} {n_1 : Int} {Post : Value → Heap → Prop} {h : Heap} (H : p_spec_l00Src_pick.S s_0 n_1 Post h) : CALL prg f_p_spec_l00Src_pick #[.pointer (some s_0), .int .i64 n_1] Post h :=
  fn_call tau_ok mixed (c := p_spec_l00Src_pick.code) (Λ := lookL []) Tryz.func41 (by kernel_rfl) (by kernel_rfl)
    (Rq.free (by kernel_rfl))
    (Eq.mp (by kernel_rfl) H)

def spec_l00From.S (code_0b : Option Addr) (code_0l code_0c : Nat) (Post : Value → Heap → Prop) (h : Heap) : Prop :=
    ALC (⟨[.slice code_0b code_0l code_0c, .int .i64 (0 : Int), .int .u64 (0 : Int)]⟩ : Array Value) T_spec_l00Src (fun g1 h2 =>
    Post (.pointer (some ⟨g1, 0, none⟩)) h2) h
noncomputable def spec_l00From.code : Code := (Tryz.f34.body).getD .skip
theorem spec_l00From.call {code_0b : Option Addr} {code_0l code_0c : Nat} {Post : Value → Heap → Prop} {h : Heap} (H : spec_l00From.S code_0b code_0l code_0c Post h) : CALL prg f_spec_l00From #[.slice code_0b code_0l code_0c] Post h :=
  fn_call tau_ok mixed (c := spec_l00From.code) (Λ := lookL []) Tryz.func34 (by kernel_rfl) (by kernel_rfl)
    (Rq.free (by kernel_rfl))
    (Eq.mp (by kernel_rfl) H)

def spec_l01Plain.S (s_0 : Addr) (Post : Value → Heap → Prop) (h : Heap) : Prop :=
    CALL prg f_p_spec_l00Src_pick #[.pointer (some s_0), .int .i64 (257 : Int)] (fun q1 h2 =>
    asI .i64 q1 fun n3 =>
    FOP .f32 (FloatKind.f32.format.div ((FloatKind.f32.nearest ((IntKind.i64.wrap (n3 - (128 : Int)))))) 1115684864) fun r4 =>
    Post (.float .f32 r4) h2) h
noncomputable def spec_l01Plain.code : Code := (Tryz.f35.body).getD .skip
theorem spec_l01Plain.call {s_0 : Addr} {Post : Value → Heap → Prop} {h : Heap} (H : spec_l01Plain.S s_0 Post h) : CALL prg f_spec_l01Plain #[.pointer (some s_0)] Post h :=
  fn_call tau_ok mixed (c := spec_l01Plain.code) (Λ := lookL []) Tryz.func35 (by kernel_rfl) (by kernel_rfl)
    (Rq.free (by kernel_rfl))
    (Eq.mp (by kernel_rfl) H)

def spec_P6Pick.S (code_0b : Option Addr) (code_0l code_0c : Nat) (n_1 : Int) (Post : Value → Heap → Prop) (h : Heap) : Prop :=
    CALL prg f_spec_l00From #[.slice code_0b code_0l code_0c] (fun q1 h2 =>
    asP q1 fun p3 =>
    CALL prg f_p_spec_l00Src_pick #[.pointer (some p3), .int .i64 n_1] (fun q4 h5 =>
    asI .i64 q4 fun n6 =>
    Post (.int .i64 n6) h5) h2) h
noncomputable def spec_P6Pick.code : Code := (Tryz.f10.body).getD .skip
theorem spec_P6Pick.call {code_0b : Option Addr} {code_0l code_0c : Nat} {n_1 : Int} {Post : Value → Heap → Prop} {h : Heap} (H : spec_P6Pick.S code_0b code_0l code_0c n_1 Post h) : CALL prg f_spec_P6Pick #[.slice code_0b code_0l code_0c, .int .i64 n_1] Post h :=
  fn_call tau_ok mixed (c := spec_P6Pick.code) (Λ := lookL []) Tryz.func10 (by kernel_rfl) (by kernel_rfl)
    (Rq.free (by kernel_rfl))
    (Eq.mp (by kernel_rfl) H)

def laws_f6big.S (code_0b : Option Addr) (code_0l code_0c : Nat) (Post : Value → Heap → Prop) (h : Heap) : Prop :=
    Post (.bool ((decide ((4096 : Int) < (code_0l : Int))))) h
noncomputable def laws_f6big.code : Code := (Tryz.f5.body).getD .skip
theorem laws_f6big.call {code_0b : Option Addr} {code_0l code_0c : Nat} {Post : Value → Heap → Prop} {h : Heap} (H : laws_f6big.S code_0b code_0l code_0c Post h) : CALL prg f_laws_f6big #[.slice code_0b code_0l code_0c] Post h :=
  fn_call tau_ok mixed (c := laws_f6big.code) (Λ := lookL []) Tryz.func5 (by kernel_rfl) (by kernel_rfl)
    (Rq.free (by kernel_rfl))
    (Eq.mp (by kernel_rfl) H)

end Go.Sx
