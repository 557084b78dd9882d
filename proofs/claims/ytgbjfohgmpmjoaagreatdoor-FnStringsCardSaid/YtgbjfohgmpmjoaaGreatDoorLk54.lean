/- Strings and bows moved on: the rule's and the program's. -/
import Derived.Test.YtgbjfohgmpmjoaaGreatDoorLm6
import Derived.Test.YtgbjfohgmpmjoaaGreatDoorLk45
import Derived.Test.YtgbjfohgmpmjoaaGreatDoorK2
import Derived.Test.YtgbjfohgmpmjoaaGreatDoorLk21
import Derived.Test.YtgbjfohgmpmjoaaGreatDoorTab
set_option linter.unusedVariables false
set_option linter.unusedSimpArgs false
namespace Go.Sx
open Go.Proofs Ieee
set_option maxRecDepth 100000
set_option maxHeartbeats 1000000

/-- What a step of a string, of a bow, leaves. -/
def StStep (h0 h' : Heap) (q : Addr) (F : Fr) (L : List Blk) (x : GString) (a : Nat) (u : Value) : Prop := (∃ y, u = .float .f32 y ∧ FW .f32 y (x.step a).2) ∧ Pt rString h0 h' q F L (x.step a).1
theorem back_len {r : GRing} (hr : r.ok = true) : r.back r.len = r.old := by
  obtain ⟨k1, k2, k3, k4, k5⟩ := at_lt hr
  have hl : r.len = (r.Samples.length : Int) := rfl
  unfold GRing.back GRing.old
  rw [show r.At - r.len + r.len = r.At by omega, Int.emod_eq_of_lt k1 (by omega)]
theorem len_in {r : GRing} (hr : r.ok = true) : inR r.len 1 r.len = true := by
  obtain ⟨k1, k2, k3, k4, k5⟩ := at_lt hr
  have hl : r.len = (r.Samples.length : Int) := rfl
  unfold inR
  simp only [Bool.and_eq_true, decide_eq_true_eq]
  omega
section
variable {h0 h : Heap} {q : Addr} {F : Fr} {L : List Blk} {y a : Nat}
theorem l03Step_c {x : GString} (P : Pt rString h0 h q F L x) (hr : x.Loop.ok = true) (hy : FW .f32 y a) : CALL prg f_spec_l03Step #[.pointer (some q), .float .f32 y] (fun u h' => StStep h0 h' q F L x a u) h := by
  obtain ⟨k1, k2, k3, k4, k5⟩ := at_lt hr
  refine spec_l03Step.call (P.rd.oL1 fun b l c S => P.rd.oI ?_)
  have hl := S.len
  refine S.idx (by decide) k1 (by omega) fun p Rp => Rp.oF1 fun o ho => ?_
  obtain ⟨F1, L1, P1, hs1, c1⟩ := P.foc foc_String_Tune
  refine (l02Step_c P1 ho).mono ?_
  rintro _ h1 ⟨⟨t, rfl, ht⟩, P1⟩
  have P := c1 _ _ _ P1
  obtain ⟨F2, L2, P2, hs2, c2⟩ := P.foc foc_String_Damp
  refine as_f ((l02Step_c P2 ht).mono ?_)
  rintro _ h2 ⟨⟨d, rfl, hd⟩, P2⟩
  have P := c2 _ _ _ P2
  refine as_f (P.rd.oF fun w hw => fM hd hw fun m hm => fA hm hy fun s hs => (l02Kept_c hs).go fun h3 k x3 hk => as_f ?_)
  obtain ⟨F3, L3, P3, hs3, c3⟩ := (P.grow x3).foc foc_String_Loop
  rw [add0] at P3 c3
  refine (l02Push_c P3 hr hk).mono ?_
  rintro _ h4 ⟨⟨y2, rfl, hy2⟩, P3⟩
  exact as_f ⟨⟨o, rfl, ho⟩, c3 _ _ _ P3⟩
theorem String_step_c {x : GString} (P : Pt rString h0 h q F L x) (hr : x.Loop.ok = true) (hy : FW .f32 y a) : CALL prg f_p_impl_String_step #[.pointer (some q), .float .f32 y] (fun u h' => StStep h0 h' q F L x a u) h := by
  obtain ⟨k1, k2, k3, k4, k5⟩ := at_lt hr
  have R := P.rd.fst foc_String_Loop
  refine p_impl_String_step.call (R.lda1 rfl fun cs Rc => P.rd.oL1 fun b l c S => goX (length_f32_c _ _ _ _) fun h1 x1 => as_i (R.pin rfl x1 ?_))
  have hl : x.Loop.len = (l : Int) := by show ((x.Loop.Samples.length : Nat) : Int) = _; rw [show x.Loop.Samples.length = l from S.len]
  have hb := Ring_back_c (rRing.ext x1 Rc) hr (len_in hr)
  rw [back_len hr, hl] at hb
  refine hb.mono ?_
  rintro _ h2 ⟨⟨o, rfl, ho⟩, x2⟩
  have P := P.grow (x1.trans x2)
  obtain ⟨F1, L1, P1, hs1, c1⟩ := P.foc foc_String_Tune
  refine as_f ((Filter_step_c P1 ho).mono ?_)
  rintro _ h1 ⟨⟨t, rfl, ht⟩, P1⟩
  have P := c1 _ _ _ P1
  obtain ⟨F2, L2, P2, hs2, c2⟩ := P.foc foc_String_Damp
  refine as_f ((Filter_step_c P2 ht).mono ?_)
  rintro _ h2 ⟨⟨d, rfl, hd⟩, P2⟩
  have P := c2 _ _ _ P2
  refine as_f (P.rd.oF fun w hw => fM hd hw fun m hm => fA hm hy fun s hs => (kept_c hs).go fun h3 k x3 hk => as_f ?_)
  obtain ⟨F3, L3, P3, hs3, c3⟩ := (P.grow x3).foc foc_String_Loop
  rw [add0] at P3 c3
  refine (Ring_push_c P3 hr hk).mono ?_
  rintro _ h4 ⟨⟨y2, rfl, hy2⟩, P3⟩
  exact as_f ⟨⟨o, rfl, ho⟩, c3 _ _ _ P3⟩
end
end Go.Sx
/- Bodies that are silent: the rule's and the program's. -/
set_option linter.unusedVariables false
set_option linter.unusedSimpArgs false
namespace Go.Sx
open Go.Proofs
set_option maxRecDepth 100000
set_option maxHeartbeats 1000000

/-- Pointers to rings, and the rings. -/
def PR (h : Heap) (ps : List Addr) (rs : List GRing) : Prop := ps.length = rs.length ∧ ∀ i, i < ps.length → RdP rRing h ps[i]! rs[i]! ∧ rs[i]!.ok = true
theorem PR.ext {h h' : Heap} {ps : List Addr} {rs : List GRing} (H : PR h ps rs) (x : Ext h h') : PR h' ps rs := ⟨H.1, fun i hi => ⟨(H.2 i hi).1.ext x, (H.2 i hi).2⟩⟩
section
variable {h0 h : Heap} {q : Addr} {F : Fr} {L : List Blk} {y a : Nat}
theorem isQuiet_c {cs : Array Value} {r : GRing} (R0 : rRing.rd h cs.toList r) (hr : r.ok = true) : CALL prg f_impl_Ring_isQuiet #[.agg cs] (fun u h' => u = .bool r.zero ∧ Ext h h') h := by
  refine impl_Ring_isQuiet.call (alcR R0 fun g h1 x1 R => R.lda1 rfl fun c2 R2 => R.oL2 fun b l c S => goX (Ring_quiet_c R2 hr) fun h2 x2 => as_i (R.pin2 (by decide) x2 (goX (length_f32_c _ _ _ _) fun h3 x3 => as_i ⟨?_, x1.trans (x2.trans x3)⟩)))
  have hl : r.Samples.length = l := S.len
  have := quiet_zero hr
  congr 1
  rw [Bool.eq_iff_iff, ← this, beq_iff_eq]
  omega
theorem String_isSilent_c {cs : Array Value} {x : GString} (R0 : rString.rd h cs.toList x) (hr : x.Loop.ok = true) : CALL prg f_impl_String_isSilent #[.agg cs] (fun u h' => u = .bool x.silent ∧ Ext h h') h := by
  have k : x.silent = (x.Loop.zero && x.Tune.still && x.Damp.still) := rfl
  refine impl_String_isSilent.call (alcR R0 fun g h1 x1 R => R.lda2 foc_String_Loop rfl fun c2 R2 => goX (isQuiet_c R2 hr) fun h2 x2 => as_b (br (fun b1 => ?_) fun b1 => ⟨by rw [k, b1]; rfl, x1.trans x2⟩))
  refine (R.ext x2).lda2 foc_String_Tune rfl fun c3 R3 => goX (Filter_isStill_c R3) fun h3 x3 => as_b (br (fun b2 => ?_) fun b2 => ⟨by rw [k, b1, b2]; rfl, x1.trans (x2.trans x3)⟩)
  exact (R.ext (x2.trans x3)).lda2 foc_String_Damp rfl fun c4 R4 => goX (Filter_isStill_c R4) fun h4 x4 => as_b ⟨by rw [k, b1, b2]; rfl, x1.trans (x2.trans (x3.trans x4))⟩
end
end Go.Sx
/- Voices moved on: the rule's and the program's. -/
set_option linter.unusedVariables false
set_option linter.unusedSimpArgs false
namespace Go.Sx
open Go.Proofs
set_option maxRecDepth 100000
set_option maxHeartbeats 1000000

def GVoice.sound (k : Int) (v : GVoice) : GVoice × Nat :=
  if k = 1 then ({ v with String := (v.String.step 0).1 }, (v.String.step 0).2)
  else if k = 2 then ({ v with Pipe := (v.Pipe.step v.Drive).1 }, (v.Pipe.step v.Drive).2)
  else ({ v with Bow := (v.Bow.step v.Drive).1 }, (v.Bow.step v.Drive).2)
def GVoice.quiet (k : Int) (v : GVoice) : Bool := if k = 1 then v.String.silent else if k = 2 then v.Pipe.silent else v.Bow.silent
def bodyRuns (k : Int) (v : GVoice) : Prop := if k = 1 then v.String.Loop.ok = true else if k = 2 then v.Pipe.Runs else v.Bow.ok = true
theorem kept_fin (a : Nat) : fin (kept a) = true := by
  unfold kept
  split
  · next h =>
    unfold flush
    split
    · decide +kernel
    · exact h
  · decide +kernel
theorem used_set0 {l : List Nat} {n : Int} {a : Nat} (h : used l n = true) (hn : 1 ≤ n) : used (l.set 0 (kept a)) n = true := by
  unfold used at *
  rw [List.all_eq_true] at *
  intro i hi
  rw [List.mem_range, List.length_set] at hi
  have := h i (List.mem_range.2 hi)
  rw [Bool.and_eq_true] at *
  by_cases e : i = 0
  · subst e
    rw [getElem!_pos _ 0 (by rw [List.length_set]; exact hi), List.getElem_set_self]
    exact ⟨kept_fin a, by rw [decide_eq_true (by omega)]; rfl⟩
  · rw [getElem!_pos _ i (by rw [List.length_set]; exact hi), List.getElem_set_ne (by omega), ← getElem!_pos l i hi]
    exact this
end Go.Sx
/- What functions of this seat's program compute, told in words (a predicate over heaps for each), and the proofs that the words are no more than the code's own weakest precondition. -/
namespace Go.Sx
open Go.Proofs
set_option linter.unusedVariables false
set_option maxRecDepth 100000

def p_spec_l00Src_next.J4 (Post : Value → Heap → Prop) (s_0 : Addr) (b_3 : Int) (h : Heap) : Prop :=
    oI .i64 (cell h (Addr.add s_0 1)) fun n9 =>
    ST1 h (Addr.add s_0 1) (.int .i64 ((IntKind.i64.wrap (n9 + (1 : Int))))) fun h10 =>
    oI .u64 (cell h10 (Addr.add s_0 2)) fun n11 =>
    ST1 h10 (Addr.add s_0 2) (.int .u64 ((IntKind.u64.wrap ((IntKind.u64.wrap ((IntKind.u64.wrap (n11 * (6364136223846793005 : Int))) + (IntKind.u64.wrap b_3))) + (1442695040888963407 : Int))))) fun h12 =>
    oI .i64 (cell h12 (Addr.add s_0 1)) fun n13 =>
    oL (cell h12 s_0) fun l14b l14l l14c =>
    BIF ((decide (n13 ≤ (l14l : Int)))) (
    Post (.int .i64 b_3) h12) (
    oI .u64 (cell h12 (Addr.add s_0 2)) fun n17 =>
    NN (40 : Int) <|
    Post (.int .i64 ((IntKind.i64.wrap ((bitI .and .u64 (shrI .u64 n17 (40 : Int)) (255 : Int)))))) h12)
def p_spec_l00Src_next.j4 (Post : Value → Heap → Prop) : Frame → Heap → Prop := fun fr h => GRD (shape (kds 62 [(0, .p), (3, .i .i64)]) fr) (p_spec_l00Src_next.J4 Post (gP (lget fr 0)) (gI (lget fr 3)) h)
def p_spec_l00Src_next.S (s_0 : Addr) (Post : Value → Heap → Prop) (h : Heap) : Prop :=
    oI .i64 (cell h (Addr.add s_0 1)) fun n1 =>
    oL (cell h s_0) fun l2b l2l l2c =>
    BIF ((decide (n1 < (l2l : Int)))) (
    oL (cell h s_0) fun l5b l5l l5c =>
    oI .i64 (cell h (Addr.add s_0 1)) fun n6 =>
    IDXS l5b n6 l5l fun p7 =>
    oI .u8 (cell h ((Addr.add p7 ((Int.toNat n6) * 1)))) fun n8 =>
    p_spec_l00Src_next.J4 Post s_0 (IntKind.i64.wrap n8) h) (
    p_spec_l00Src_next.J4 Post s_0 (0 : Int) h)
noncomputable def p_spec_l00Src_next.code : Code := (Tryz.f90.body).getD .skip
theorem p_spec_l00Src_next.call {s_0 : Addr} {Post : Value → Heap → Prop} {h : Heap} (H : p_spec_l00Src_next.S s_0 Post h) : CALL prg f_p_spec_l00Src_next #[.pointer (some s_0)] Post h :=
  fn_call tau_ok mixed (c := p_spec_l00Src_next.code) (Λ := lookL [(4, p_spec_l00Src_next.j4 Post)]) Tryz.func90 (by kernel_rfl) (by kernel_rfl)
    (Rq.seq (by kernel_rfl) (Rq.free (by kernel_rfl)) (Rq.seq (by kernel_rfl) (Rq.free (by kernel_rfl)) (Rq.seqJ (p_spec_l00Src_next.j4 Post) (by kernel_rfl) (seg (fun _ _ => by kernel_rfl)) (Rq.free (by kernel_rfl))
(Rq.free (by kernel_rfl)))))
    (Eq.mp (by kernel_rfl) H)

def p_spec_l00Src_pick.S (s_0 : Addr) (n_1 : Int) (Post : Value → Heap → Prop) (h : Heap) : Prop :=
    BIF ((decide (n_1 ≤ (1 : Int)))) (
    Post (.int .i64 (0 : Int)) h) (
    CALL prg f_p_spec_l00Src_next #[.pointer (some s_0)] (fun q1 h2 =>
    asI .i64 q1 fun n3 =>
    BIF ((decide ((200 : Int) < n_1))) (
    CALL prg f_p_spec_l00Src_next #[.pointer (some s_0)] (fun q4 h5 =>
    asI .i64 q4 fun n6 =>
    NZ n_1 <|
    Post (.int .i64 ((Int.tmod ((IntKind.i64.wrap ((IntKind.i64.wrap (n3 * (256 : Int))) + n6))) n_1))) h5) h2) (
    NZ n_1 <|
    Post (.int .i64 (Int.tmod n3 n_1)) h2)) h)
noncomputable def p_spec_l00Src_pick.code : Code := (Tryz.f42.body).getD .skip
theorem p_spec_l00Src_pick.call {s_0 : Addr} {n_1 : Int} {Post : Value → Heap → Prop} {h : Heap} (H : p_spec_l00Src_pick.S s_0 n_1 Post h) : CALL prg f_p_spec_l00Src_pick #[.pointer (some s_0), .int .i64 n_1] Post h :=
  fn_call tau_ok mixed (c := p_spec_l00Src_pick.code) (Λ := lookL []) Tryz.func42 (by kernel_rfl) (by kernel_rfl)
    (Rq.free (by kernel_rfl))
    (Eq.mp (by kernel_rfl) H)

def p_spec_l00Src_one.S (s_0 : Addr) (n_1 : Int) (Post : Value → Heap → Prop) (h : Heap) : Prop :=
    CALL prg f_p_spec_l00Src_pick #[.pointer (some s_0), .int .i64 n_1] (fun q1 h2 =>
    asI .i64 q1 fun n3 =>
    Post (.bool (n3 == (0 : Int))) h2) h
noncomputable def p_spec_l00Src_one.code : Code := (Tryz.f84.body).getD .skip
theorem p_spec_l00Src_one.call {s_0 : Addr} {n_1 : Int} {Post : Value → Heap → Prop} {h : Heap} (H : p_spec_l00Src_one.S s_0 n_1 Post h) : CALL prg f_p_spec_l00Src_one #[.pointer (some s_0), .int .i64 n_1] Post h :=
  fn_call tau_ok mixed (c := p_spec_l00Src_one.code) (Λ := lookL []) Tryz.func84 (by kernel_rfl) (by kernel_rfl)
    (Rq.free (by kernel_rfl))
    (Eq.mp (by kernel_rfl) H)

def spec_l00From.S (code_0b : Option Addr) (code_0l code_0c : Nat) (Post : Value → Heap → Prop) (h : Heap) : Prop :=
    ALC (⟨[.slice code_0b code_0l code_0c, .int .i64 (0 : Int), .int .u64 (0 : Int)]⟩ : Array Value) T_spec_l00Src (fun g1 h2 =>
    Post (.pointer (some ⟨g1, 0, none⟩)) h2) h
noncomputable def spec_l00From.code : Code := (Tryz.f34.body).getD .skip
theorem spec_l00From.call {code_0b : Option Addr} {code_0l code_0c : Nat} {Post : Value → Heap → Prop} {h : Heap} (H : spec_l00From.S code_0b code_0l code_0c Post h) : CALL prg f_spec_l00From #[.slice code_0b code_0l code_0c] Post h :=
  fn_call tau_ok mixed (c := spec_l00From.code) (Λ := lookL []) Tryz.func34 (by kernel_rfl) (by kernel_rfl)
    (Rq.free (by kernel_rfl))
    (Eq.mp (by kernel_rfl) H)

def spec_l01Plain.S (s_0 : Addr) (Post : Value → Heap → Prop) (h : Heap) : Prop :=
    CALL prg f_p_spec_l00Src_pick #[.pointer (some s_0), .int .i64 (257 : Int)] (fun q1 h2 =>
    asI .i64 q1 fun n3 =>
    FOP .f32 (FloatKind.f32.format.div ((FloatKind.f32.nearest ((IntKind.i64.wrap (n3 - (128 : Int)))))) 1115684864) fun r4 =>
    Post (.float .f32 r4) h2) h
noncomputable def spec_l01Plain.code : Code := (Tryz.f83.body).getD .skip
theorem spec_l01Plain.call {s_0 : Addr} {Post : Value → Heap → Prop} {h : Heap} (H : spec_l01Plain.S s_0 Post h) : CALL prg f_spec_l01Plain #[.pointer (some s_0)] Post h :=
  fn_call tau_ok mixed (c := spec_l01Plain.code) (Λ := lookL []) Tryz.func83 (by kernel_rfl) (by kernel_rfl)
    (Rq.free (by kernel_rfl))
    (Eq.mp (by kernel_rfl) H)

end Go.Sx
