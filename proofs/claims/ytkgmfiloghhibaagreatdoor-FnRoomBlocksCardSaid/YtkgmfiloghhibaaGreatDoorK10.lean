/- What functions of this seat's program compute, told in words (a predicate over heaps for each), and the proofs that the words are no more than the code's own weakest precondition. -/
import Derived.Test.YtkgmfiloghhibaaGreatDoorTab
import Derived.Test.YtkgmfiloghhibaaGreatDoorLm7
import Derived.Test.YtkgmfiloghhibaaGreatDoorLk21
import Derived.Test.YtkgmfiloghhibaaGreatDoorLk8
import Derived.Test.YtkgmfiloghhibaaGreatDoorK0
import Derived.Test.YtkgmfiloghhibaaGreatDoorLg
import Derived.Test.YtkgmfiloghhibaaGreatDoorLp4
import Derived.Test.YtkgmfiloghhibaaGreatDoorLs2
namespace Go.Sx
open Go.Proofs
set_option linter.unusedVariables false
set_option maxRecDepth 100000

def slices_IndexFunc_sl_impl_Ring_impl_Ring.B2 (Post : Value → Heap → Prop) (N2 : (Option Addr × Nat × Nat × Value × Int × Int) → Heap → Prop) : Option Addr × Nat × Nat × Value × Int × Int → Heap → Prop
  | (s_0b, s_0l, s_0c, f_1, t7, t8), h =>
    BIF (decide (t8 < t7)) (
    IDXS s_0b t8 s_0l fun p3 =>
    oP (cell h ((Addr.add p3 ((Int.toNat t8) * 1)))) fun p4 =>
    CALLD prg f_1 #[.pointer (some p4)] (fun q5 h6 =>
    asB q5 fun b7 =>
    BIF b7 (
    Post (.int .i64 t8) h6) (
    N2 (s_0b, s_0l, s_0c, f_1, t7, ((IntKind.i64.wrap (t8 + (1 : Int))))) h6)) h) (
    Post (.int .i64 (-1 : Int)) h)
def slices_IndexFunc_sl_impl_Ring_impl_Ring.g2 (fr : Frame) : Option Addr × Nat × Nat × Value × Int × Int := ((gLb (lget fr 0)), (gLl (lget fr 0)), (gLc (lget fr 0)), (lget fr 1), (gI (lget fr 7)), (gI (lget fr 8)))
def slices_IndexFunc_sl_impl_Ring_impl_Ring.l2 (Post : Value → Heap → Prop) : Frame → Heap → Prop := fun fr h => GRD (shape (kds 19 [(0, .l), (1, .v), (7, .i .i64), (8, .i .i64)]) fr) (LOOP (slices_IndexFunc_sl_impl_Ring_impl_Ring.B2 Post) (slices_IndexFunc_sl_impl_Ring_impl_Ring.g2 fr) h)
def slices_IndexFunc_sl_impl_Ring_impl_Ring.S (s_0b : Option Addr) (s_0l s_0c : Nat) (f_1 : Value) (Post : Value → Heap → Prop) (h : Heap) : Prop :=
    LOOP (slices_IndexFunc_sl_impl_Ring_impl_Ring.B2 Post) (s_0b, s_0l, s_0c, f_1, (s_0l : Int), (0 : Int)) h
noncomputable def slices_IndexFunc_sl_impl_Ring_impl_Ring.code : Code := (Tryz.f177.body).getD .skip
theorem slices_IndexFunc_sl_impl_Ring_impl_Ring.call {s_0b : Option Addr} {s_0l s_0c : Nat} {f_1 : Value} {Post : Value → Heap → Prop} {h : Heap} (H : slices_IndexFunc_sl_impl_Ring_impl_Ring.S s_0b s_0l s_0c f_1 Post h) : CALL prg f_slices_IndexFunc_sl_impl_Ring_impl_Ring #[.slice s_0b s_0l s_0c, f_1] Post h :=
  fn_call tau_ok mixed (c := slices_IndexFunc_sl_impl_Ring_impl_Ring.code) (Λ := lookL [(1000002, slices_IndexFunc_sl_impl_Ring_impl_Ring.l2 Post)]) Tryz.func177 (by kernel_rfl) (by kernel_rfl)
    (Rq.seq (by kernel_rfl) (Rq.free (by kernel_rfl)) (Rq.seq (by kernel_rfl) (Rq.seq (by kernel_rfl) (Rq.free (by kernel_rfl)) (Rq.block (Rq.loop (slices_IndexFunc_sl_impl_Ring_impl_Ring.l2 Post) (by kernel_rfl) (segL (g := slices_IndexFunc_sl_impl_Ring_impl_Ring.g2) tau_ok mixed (Λ := fun N2 => lookL []) (fun _ _ _ => by kernel_rfl) (fun N2 => (Rq.free (by kernel_rfl))))))) (Rq.free (by kernel_rfl))))
    (Eq.mp (by kernel_rfl) H)

def slices_ContainsFunc_sl_impl_Ring_impl_Ring.S (s_0b : Option Addr) (s_0l s_0c : Nat) (f_1 : Value) (Post : Value → Heap → Prop) (h : Heap) : Prop :=
    CALL prg f_slices_IndexFunc_sl_impl_Ring_impl_Ring #[.slice s_0b s_0l s_0c, f_1] (fun q1 h2 =>
    asI .i64 q1 fun n3 =>
    Post (.bool ((decide ((0 : Int) ≤ n3)))) h2) h
noncomputable def slices_ContainsFunc_sl_impl_Ring_impl_Ring.code : Code := (Tryz.f116.body).getD .skip
theorem slices_ContainsFunc_sl_impl_Ring_impl_Ring.call {s_0b : Option Addr} {s_0l s_0c : Nat} {f_1 : Value} {Post : Value → Heap → Prop} {h : Heap} (H : slices_ContainsFunc_sl_impl_Ring_impl_Ring.S s_0b s_0l s_0c f_1 Post h) : CALL prg f_slices_ContainsFunc_sl_impl_Ring_impl_Ring #[.slice s_0b s_0l s_0c, f_1] Post h :=
  fn_call tau_ok mixed (c := slices_ContainsFunc_sl_impl_Ring_impl_Ring.code) (Λ := lookL []) Tryz.func116 (by kernel_rfl) (by kernel_rfl)
    (Rq.free (by kernel_rfl))
    (Eq.mp (by kernel_rfl) H)

def impl_areQuiet_c1.S (r_0 : Addr) (Post : Value → Heap → Prop) (h : Heap) : Prop :=
    LDA 2 h r_0 fun a1 =>
    CALL prg f_impl_Ring_isQuiet #[.agg a1] (fun q2 h3 =>
    asB q2 fun b4 =>
    Post (.bool (!b4)) h3) h
noncomputable def impl_areQuiet_c1.code : Code := (Tryz.f117.body).getD .skip
theorem impl_areQuiet_c1.call {r_0 : Addr} {Post : Value → Heap → Prop} {h : Heap} (H : impl_areQuiet_c1.S r_0 Post h) : CALL prg f_impl_areQuiet_c1 #[.pointer (some r_0)] Post h :=
  fn_call tau_ok mixed (c := impl_areQuiet_c1.code) (Λ := lookL []) Tryz.func117 (by kernel_rfl) (by kernel_rfl)
    (Rq.free (by kernel_rfl))
    (Eq.mp (by kernel_rfl) H)

def impl_areQuiet.S (list_0b : Option Addr) (list_0l list_0c : Nat) (Post : Value → Heap → Prop) (h : Heap) : Prop :=
    CALL prg f_slices_ContainsFunc_sl_impl_Ring_impl_Ring #[.slice list_0b list_0l list_0c, .func (.func 117) #[] #[]] (fun q1 h2 =>
    asB q1 fun b3 =>
    Post (.bool (!b3)) h2) h
noncomputable def impl_areQuiet.code : Code := (Tryz.f54.body).getD .skip
theorem impl_areQuiet.call {list_0b : Option Addr} {list_0l list_0c : Nat} {Post : Value → Heap → Prop} {h : Heap} (H : impl_areQuiet.S list_0b list_0l list_0c Post h) : CALL prg f_impl_areQuiet #[.slice list_0b list_0l list_0c] Post h :=
  fn_call tau_ok mixed (c := impl_areQuiet.code) (Λ := lookL []) Tryz.func54 (by kernel_rfl) (by kernel_rfl)
    (Rq.free (by kernel_rfl))
    (Eq.mp (by kernel_rfl) H)

end Go.Sx
/- Bodies that are silent: the rule's and the program's. -/
set_option linter.unusedVariables false
set_option linter.unusedSimpArgs false
namespace Go.Sx
open Go.Proofs
set_option maxRecDepth 100000
set_option maxHeartbeats 1000000

/-- Pointers to rings, and the rings. -/
def PR (h : Heap) (ps : List Addr) (rs : List GRing) : Prop := ps.length = rs.length ∧ ∀ i, i < ps.length → RdP rRing h ps[i]! rs[i]! ∧ rs[i]!.ok = true
theorem PR.ext {h h' : Heap} {ps : List Addr} {rs : List GRing} (H : PR h ps rs) (x : Ext h h') : PR h' ps rs := ⟨H.1, fun i hi => ⟨(H.2 i hi).1.ext x, (H.2 i hi).2⟩⟩
section
variable {h0 h : Heap} {q : Addr} {F : Fr} {L : List Blk} {y a : Nat}
theorem isQuiet_c {cs : Array Value} {r : GRing} (R0 : rRing.rd h cs.toList r) (hr : r.ok = true) : CALL prg f_impl_Ring_isQuiet #[.agg cs] (fun u h' => u = .bool r.zero ∧ Ext h h') h := by
  refine impl_Ring_isQuiet.call (alcR R0 fun g h1 x1 R => R.lda1 rfl fun c2 R2 => R.oL2 fun b l c S => goX (Ring_quiet_c R2 hr) fun h2 x2 => as_i (R.pin2 (by decide) x2 (goX (length_f32_c _ _ _ _) fun h3 x3 => as_i ⟨?_, x1.trans (x2.trans x3)⟩)))
  have hl : r.Samples.length = l := S.len
  have := quiet_zero hr
  congr 1
  rw [Bool.eq_iff_iff, ← this, beq_iff_eq]
  omega
theorem areQuiet_c {b : Option Addr} {l c : Nat} {ps : List Addr} {rs : List GRing} (S : SlR rP h b l c ps) (H : PR h ps rs) : CALL prg f_impl_areQuiet #[.slice b l c] (fun u h' => u = .bool (rs.all GRing.zero) ∧ Ext h h') h := by
  have hl := S.len
  have s1 := S.2.1
  have s2 := S.2.2.1
  have := maxLen_lt
  have hlr := H.1
  have I : CALL prg f_slices_IndexFunc_sl_impl_Ring_impl_Ring #[.slice b l c, .func (.func f_impl_areQuiet_c1) #[] #[]] (fun u h' => u = .int .i64 (firstAt (fun r : GRing => !r.zero) rs) ∧ Ext h h') h := by
    refine slices_IndexFunc_sl_impl_Ring_impl_Ring.call ?_
    refine loop (fun x hh => ∃ n : Nat, x = (b, l, c, .func (.func f_impl_areQuiet_c1) #[] #[], (l : Int), (n : Int)) ∧ n ≤ l ∧ Ext h hh ∧ ∀ i, i < n → (!rs[i]!.zero) = false) (fun x => (l - x.2.2.2.2.2).toNat) ⟨0, rfl, by omega, Ext.refl _, fun i hi => by omega⟩ ?_
    rintro x hh ⟨n, rfl, hn, X, hf⟩
    refine brd (fun hc => ?_) fun hc => ⟨by rw [firstAt_none fun i hi => hf i (by omega)], X⟩
    refine (S.ext X).idx (by decide) (by omega) (by omega) fun a Ra => Ra.oP1 ?_
    rw [Int.toNat_natCast]
    obtain ⟨Rr, ok⟩ := H.2 n (by omega)
    show CALL prg f_impl_areQuiet_c1 #[.pointer (some ps[n]!)] _ hh
    refine impl_areQuiet_c1.call ((Rr.ext X).lda1 rfl fun cs Rc => goE X (isQuiet_c Rc ok) fun h1 x1 => as_b (as_b (br (fun hb => ?_) fun hb => ?_)))
    · exact ⟨by rw [firstAt_some (by omega) hf hb], x1⟩
    · refine ⟨⟨n + 1, by rw [wrap64_succ (by omega)], by omega, x1, fun i hi => ?_⟩, by rw [wrap64_succ (by omega)]; show _ < _; simp; omega⟩
      by_cases e : i = n
      · subst e; exact hb
      · exact hf i (by omega)
  refine impl_areQuiet.call (goX (slices_ContainsFunc_sl_impl_Ring_impl_Ring.call (goX I fun h1 x1 => as_i ⟨rfl, x1⟩)) fun h2 x2 => as_b ⟨?_, x2⟩)
  congr 1
  rw [firstAt_any, List.any_eq_not_all_not]
  simp
end
end Go.Sx
/- Voices moved on: the rule's and the program's. -/
set_option linter.unusedVariables false
set_option linter.unusedSimpArgs false
namespace Go.Sx
open Go.Proofs
set_option maxRecDepth 100000
set_option maxHeartbeats 1000000

def GVoice.sound (k : Int) (v : GVoice) : GVoice × Nat :=
  if k = 1 then ({ v with String := (v.String.step 0).1 }, (v.String.step 0).2)
  else if k = 2 then ({ v with Pipe := (v.Pipe.step v.Drive).1 }, (v.Pipe.step v.Drive).2)
  else ({ v with Bow := (v.Bow.step v.Drive).1 }, (v.Bow.step v.Drive).2)
def GVoice.quiet (k : Int) (v : GVoice) : Bool := if k = 1 then v.String.silent else if k = 2 then v.Pipe.silent else v.Bow.silent
def bodyRuns (k : Int) (v : GVoice) : Prop := if k = 1 then v.String.Loop.ok = true else if k = 2 then v.Pipe.Runs else v.Bow.ok = true
theorem kept_fin (a : Nat) : fin (kept a) = true := by
  unfold kept
  split
  · next h =>
    unfold flush
    split
    · decide +kernel
    · exact h
  · decide +kernel
theorem push_okf {r : GRing} {a : Nat} (h : r.okf = true) : (r.push (kept a)).okf = true := by
  unfold GRing.okf at *
  rw [Bool.and_eq_true] at *
  refine ⟨(push_ok h.1).1, ?_⟩
  have h2 := h.2
  unfold allFin at *
  rw [List.all_eq_true] at *
  intro x hx
  rcases List.mem_or_eq_of_mem_set hx with hx | rfl
  · exact h2 x hx
  · exact kept_fin a
theorem used_set0 {l : List Nat} {n : Int} {a : Nat} (h : used l n = true) (hn : 1 ≤ n) : used (l.set 0 (kept a)) n = true := by
  unfold used at *
  rw [List.all_eq_true] at *
  intro i hi
  rw [List.mem_range, List.length_set] at hi
  have := h i (List.mem_range.2 hi)
  rw [Bool.and_eq_true] at *
  by_cases e : i = 0
  · subst e
    rw [getElem!_pos _ 0 (by rw [List.length_set]; exact hi), List.getElem_set_self]
    exact ⟨kept_fin a, by rw [decide_eq_true (by omega)]; rfl⟩
  · rw [getElem!_pos _ i (by rw [List.length_set]; exact hi), List.getElem_set_ne (by omega), ← getElem!_pos l i hi]
    exact this
theorem filter_step1 {f : GFilter} {a : Nat} (h : (f.ok && f.Kind == 1) = true) : ((f.step a).1.ok && (f.step a).1.Kind == 1) = true := by
  rw [Bool.and_eq_true, beq_iff_eq] at h
  rw [step1 h.2]
  have h1 := h.1
  unfold GFilter.ok at *
  simp only [Bool.and_eq_true] at *
  exact ⟨⟨h1.1, used_set0 h1.2 (by unfold usesS; rw [if_pos (.inl h.2)]; decide)⟩, by rw [h.2]; rfl⟩
end Go.Sx
/- What functions of this seat's program compute, told in words (a predicate over heaps for each), and the proofs that the words are no more than the code's own weakest precondition. -/
namespace Go.Sx
open Go.Proofs
set_option linter.unusedVariables false
set_option maxRecDepth 100000

def p_spec_l00Src_next.J4 (Post : Value → Heap → Prop) (s_0 : Addr) (b_3 : Int) (h : Heap) : Prop :=
    oI .i64 (cell h (Addr.add s_0 1)) fun n9 =>
    ST1 h (Addr.add s_0 1) (.int .i64 ((IntKind.i64.wrap (n9 + (1 : Int))))) fun h10 =>
    oI .u64 (cell h10 (Addr.add s_0 2)) fun n11 =>
    ST1 h10 (Addr.add s_0 2) (.int .u64 ((IntKind.u64.wrap ((IntKind.u64.wrap ((IntKind.u64.wrap (n11 * (6364136223846793005 : Int))) + (IntKind.u64.wrap b_3))) + (1442695040888963407 : Int))))) fun h12 =>
    oI .i64 (cell h12 (Addr.add s_0 1)) fun n13 =>
    oL (cell h12 s_0) fun l14b l14l l14c =>
    BIF ((decide (n13 ≤ (l14l : Int)))) (
    Post (.int .i64 b_3) h12) (
    oI .u64 (cell h12 (Addr.add s_0 2)) fun n17 =>
    NN (40 : Int) <|
    Post (.int .i64 ((IntKind.i64.wrap ((bitI .and .u64 (shrI .u64 n17 (40 : Int)) (255 : Int)))))) h12)
def p_spec_l00Src_next.j4 (Post : Value → Heap → Prop) : Frame → Heap → Prop := fun fr h => GRD (shape (kds 62 [(0, .p), (3, .i .i64)]) fr) (p_spec_l00Src_next.J4 Post (gP (lget fr 0)) (gI (lget fr 3)) h)
def p_spec_l00Src_next.S (s_0 : Addr) (Post : Value → Heap → Prop) (h : Heap) : Prop :=
    oI .i64 (cell h (Addr.add s_0 1)) fun n1 =>
    oL (cell h s_0) fun l2b l2l l2c =>
    BIF ((decide (n1 < (l2l : Int)))) (
    oL (cell h s_0) fun l5b l5l l5c =>
    oI .i64 (cell h (Addr.add s_0 1)) fun n6 =>
    IDXS l5b n6 l5l fun p7 =>
    oI .u8 (cell h ((Addr.add p7 ((Int.toNat n6) * 1)))) fun n8 =>
    p_spec_l00Src_next.J4 Post s_0 (IntKind.i64.wrap n8) h) (
    p_spec_l00Src_next.J4 Post s_0 (0 : Int) h)
noncomputable def p_spec_l00Src_next.code : Code := (Tryz.f149.body).getD .skip
theorem p_spec_l00Src_next.call {s_0 : Addr} {Post : Value → Heap → Prop} {h : Heap} (H : p_spec_l00Src_next.S s_0 Post h) : CALL prg f_p_spec_l00Src_next #[.pointer (some s_0)] Post h :=
  fn_call tau_ok mixed (c := p_spec_l00Src_next.code) (Λ := lookL [(4, p_spec_l00Src_next.j4 Post)]) Tryz.func149 (by kernel_rfl) (by kernel_rfl)
    (Rq.seq (by kernel_rfl) (Rq.free (by kernel_rfl)) (Rq.seq (by kernel_rfl) (Rq.free (by kernel_rfl)) (Rq.seqJ (p_spec_l00Src_next.j4 Post) (by kernel_rfl) (seg (fun _ _ => by kernel_rfl)) (Rq.free (by kernel_rfl))
(Rq.free (by kernel_rfl)))))
    (Eq.mp (by kernel_rfl) H)

def p_spec_l00Src_pick.S (s_0 : Addr) (n_1 : Int) (Post : Value → Heap → Prop) (h : Heap) : Prop :=
    BIF ((decide (n_1 ≤ (1 : Int)))) (
    Post (.int .i64 (0 : Int)) h) (
    CALL prg f_p_spec_l00Src_next #[.pointer (some s_0)] (fun q1 h2 =>
    asI .i64 q1 fun n3 =>
    BIF ((decide ((200 : Int) < n_1))) (
    CALL prg f_p_spec_l00Src_next #[.pointer (some s_0)] (fun q4 h5 =>
    asI .i64 q4 fun n6 =>
    NZ n_1 <|
    Post (.int .i64 ((Int.tmod ((IntKind.i64.wrap ((IntKind.i64.wrap (n3 * (256 : Int))) + n6))) n_1))) h5) h2) (
    NZ n_1 <|
    Post (.int .i64 (Int.tmod n3 n_1)) h2)) h)
noncomputable def p_spec_l00Src_pick.code : Code := (Tryz.f71.body).getD .skip
theorem p_spec_l00Src_pick.call {s_0 : Addr} {n_1 : Int} {Post : Value → Heap → Prop} {h : Heap} (H : p_spec_l00Src_pick.S s_0 n_1 Post h) : CALL prg f_p_spec_l00Src_pick #[.pointer (some s_0), .int .i64 n_1] Post h :=
  fn_call tau_ok mixed (c := p_spec_l00Src_pick.code) (Λ := lookL []) Tryz.func71 (by kernel_rfl) (by kernel_rfl)
    (Rq.free (by kernel_rfl))
    (Eq.mp (by kernel_rfl) H)

def p_spec_l00Src_one.S (s_0 : Addr) (n_1 : Int) (Post : Value → Heap → Prop) (h : Heap) : Prop :=
    CALL prg f_p_spec_l00Src_pick #[.pointer (some s_0), .int .i64 n_1] (fun q1 h2 =>
    asI .i64 q1 fun n3 =>
    Post (.bool (n3 == (0 : Int))) h2) h
noncomputable def p_spec_l00Src_one.code : Code := (Tryz.f93.body).getD .skip
theorem p_spec_l00Src_one.call {s_0 : Addr} {n_1 : Int} {Post : Value → Heap → Prop} {h : Heap} (H : p_spec_l00Src_one.S s_0 n_1 Post h) : CALL prg f_p_spec_l00Src_one #[.pointer (some s_0), .int .i64 n_1] Post h :=
  fn_call tau_ok mixed (c := p_spec_l00Src_one.code) (Λ := lookL []) Tryz.func93 (by kernel_rfl) (by kernel_rfl)
    (Rq.free (by kernel_rfl))
    (Eq.mp (by kernel_rfl) H)

def spec_l00From.S (code_0b : Option Addr) (code_0l code_0c : Nat) (Post : Value → Heap → Prop) (h : Heap) : Prop :=
    ALC (⟨[.slice code_0b code_0l code_0c, .int .i64 (0 : Int), .int .u64 (0 : Int)]⟩ : Array Value) T_spec_l00Src (fun g1 h2 =>
    Post (.pointer (some ⟨g1, 0, none⟩)) h2) h
noncomputable def spec_l00From.code : Code := (Tryz.f35.body).getD .skip
theorem spec_l00From.call {code_0b : Option Addr} {code_0l code_0c : Nat} {Post : Value → Heap → Prop} {h : Heap} (H : spec_l00From.S code_0b code_0l code_0c Post h) : CALL prg f_spec_l00From #[.slice code_0b code_0l code_0c] Post h :=
  fn_call tau_ok mixed (c := spec_l00From.code) (Λ := lookL []) Tryz.func35 (by kernel_rfl) (by kernel_rfl)
    (Rq.free (by kernel_rfl))
    (Eq.mp (by kernel_rfl) H)

def spec_l01Plain.S (s_0 : Addr) (Post : Value → Heap → Prop) (h : Heap) : Prop :=
    CALL prg f_p_spec_l00Src_pick #[.pointer (some s_0), .int .i64 (257 : Int)] (fun q1 h2 =>
    asI .i64 q1 fun n3 =>
    FOP .f32 (FloatKind.f32.format.div ((FloatKind.f32.nearest ((IntKind.i64.wrap (n3 - (128 : Int)))))) 1115684864) fun r4 =>
    Post (.float .f32 r4) h2) h
noncomputable def spec_l01Plain.code : Code := (Tryz.f65.body).getD .skip
theorem spec_l01Plain.call {s_0 : Addr} {Post : Value → Heap → Prop} {h : Heap} (H : spec_l01Plain.S s_0 Post h) : CALL prg f_spec_l01Plain #[.pointer (some s_0)] Post h :=
  fn_call tau_ok mixed (c := spec_l01Plain.code) (Λ := lookL []) Tryz.func65 (by kernel_rfl) (by kernel_rfl)
    (Rq.free (by kernel_rfl))
    (Eq.mp (by kernel_rfl) H)

def spec_P6Pick.S (code_0b : Option Addr) (code_0l code_0c : Nat) (n_1 : Int) (Post : Value → Heap → Prop) (h : Heap) : Prop :=
    CALL prg f_spec_l00From #[.slice code_0b code_0l code_0c] (fun q1 h2 =>
    asP q1 fun p3 =>
    CALL prg f_p_spec_l00Src_pick #[.pointer (some p3), .int .i64 n_1] (fun q4 h5 =>
    asI .i64 q4 fun n6 =>
    Post (.int .i64 n6) h5) h2) h
noncomputable def spec_P6Pick.code : Code := (Tryz.f21.body).getD .skip
theorem spec_P6Pick.call {code_0b : Option Addr} {code_0l code_0c : Nat} {n_1 : Int} {Post : Value → Heap → Prop} {h : Heap} (H : spec_P6Pick.S code_0b code_0l code_0c n_1 Post h) : CALL prg f_spec_P6Pick #[.slice code_0b code_0l code_0c, .int .i64 n_1] Post h :=
  fn_call tau_ok mixed (c := spec_P6Pick.code) (Λ := lookL []) Tryz.func21 (by kernel_rfl) (by kernel_rfl)
    (Rq.free (by kernel_rfl))
    (Eq.mp (by kernel_rfl) H)

def laws_f6big.S (code_0b : Option Addr) (code_0l code_0c : Nat) (Post : Value → Heap → Prop) (h : Heap) : Prop :=
    Post (.bool ((decide ((4096 : Int) < (code_0l : Int))))) h
noncomputable def laws_f6big.code : Code := (Tryz.f5.body).getD .skip
theorem laws_f6big.call {code_0b : Option Addr} {code_0l code_0c : Nat} {Post : Value → Heap → Prop} {h : Heap} (H : laws_f6big.S code_0b code_0l code_0c Post h) : CALL prg f_laws_f6big #[.slice code_0b code_0l code_0c] Post h :=
  fn_call tau_ok mixed (c := laws_f6big.code) (Λ := lookL []) Tryz.func5 (by kernel_rfl) (by kernel_rfl)
    (Rq.free (by kernel_rfl))
    (Eq.mp (by kernel_rfl) H)

end Go.Sx
/- The drawing machine of the laws (spec.l00Src): what it draws lies in bounds. -/
set_option linter.unusedVariables false
set_option linter.unusedSimpArgs false
namespace Go.Sx
open Go.Proofs
set_option maxRecDepth 100000
set_option maxHeartbeats 1000000

/-- Bytes. -/
def Byt' (xs : List Int) : Prop := ∀ x ∈ xs, 0 ≤ x ∧ x < 256
theorem wrapU {k : IntKind} {n : Int} (hk : k.signed = false) (h1 : 0 ≤ n) (h2 : n < 2 ^ k.bits) : k.wrap n = n := by
  unfold IntKind.wrap
  rw [hk]
  exact Int.emod_eq_of_lt h1 h2
/-- A machine over bytes that are read. -/
def Src (h0 h : Heap) (L : List Blk) (g : Nat) (cb : Option Addr) (cl cc K : Nat) : Prop :=
  ∃ (p : Nat) (st : Int), p ≤ K ∧ Mem h0 h ((g, T_spec_l00Src, ⟨[.slice cb cl cc, .int .i64 (p : Int), .int .u64 st]⟩) :: L)
section
variable {h0 h h' : Heap} {L W : List Blk} {g : Nat} {cb : Option Addr} {cl cc K K' : Nat} {xs : List Int} {n : Int}
theorem Src.mem (S : Src h0 h L g cb cl cc K) : Mem h0 h L := by
  obtain ⟨_, _, _, M⟩ := S; exact M.drop
theorem Src.grow (S : Src h0 h L g cb cl cc K) (x : Ext h h') : Src h0 h' L g cb cl cc K := by
  obtain ⟨p, st, hp, M⟩ := S; exact ⟨p, st, hp, M.grow x⟩
theorem Src.mono (S : Src h0 h L g cb cl cc K) (hk : K ≤ K') : Src h0 h L g cb cl cc K' := by
  obtain ⟨p, st, hp, M⟩ := S; exact ⟨p, st, by omega, M⟩
theorem Src.cnt (S : Src h0 h L g cb cl cc K) (hc : ∀ p, Sx.cnt p W ≤ Sx.cnt p L) : Src h0 h W g cb cl cc K := by
  obtain ⟨p, st, hp, M⟩ := S; exact ⟨p, st, hp, M.cnt fun q => by have := hc q; simp only [cnt_cons]; omega⟩
theorem and255 (x : Int) : 0 ≤ bitI .and .u64 x 255 ∧ bitI .and .u64 x 255 < 256 := by
  simp only [bitI]
  have h1 : (BitVec.ofInt IntKind.u64.bits x &&& BitVec.ofInt IntKind.u64.bits 255).toNat ≤ 255 := by
    rw [BitVec.toNat_and]
    exact Nat.and_le_right
  have e : (2 : Int) ^ IntKind.u64.bits = 18446744073709551616 := by decide
  rw [wrapU rfl (by omega) (by rw [e]; omega)]
  omega
theorem next_c (S : Src h0 h L g cb xs.length cc K) (C : Cells h0 cb (iv .u8 xs)) (hb : Byt' xs) (hK : K ≤ 1152921504606846976) :
    CALL prg f_p_spec_l00Src_next #[.pointer (some ⟨g, 0, none⟩)] (fun u h' => ∃ v : Int, u = .int .i64 v ∧ 0 ≤ v ∧ v < 256 ∧ Src h0 h' L g cb xs.length cc (K + 1)) h := by
  obtain ⟨p, st, hp, M⟩ := S
  refine p_spec_l00Src_next.call ?_
  have j4 : ∀ v : Int, 0 ≤ v ∧ v < 256 → p_spec_l00Src_next.J4 (fun u h' => ∃ v : Int, u = .int .i64 v ∧ 0 ≤ v ∧ v < 256 ∧ Src h0 h' L g cb xs.length cc (K + 1)) ⟨g, 0, none⟩ v h := by
    intro v hv
    unfold p_spec_l00Src_next.J4
    simp only [add_none, Nat.zero_add]
    refine M.oI (by repeat constructor) rfl ?_
    rw [wrap64_succ (by omega)]
    refine M.st1 (by repeat constructor) (by simp) (by repeat constructor) fun h1 M => ?_
    refine M.oI (by repeat constructor) rfl ?_
    refine M.st1 (by repeat constructor) (by simp) (by repeat constructor) fun h2 M => ?_
    refine M.oI (by repeat constructor) rfl (M.oL (by repeat constructor) rfl ?_)
    have S' : ∀ st' : Int, Mem h0 h2 ((g, T_spec_l00Src, ⟨[.slice cb xs.length cc, .int .i64 ((p + 1 : Nat) : Int), .int .u64 st']⟩) :: L) → Src h0 h2 L g cb xs.length cc (K + 1) := fun st' M => ⟨p + 1, st', by omega, M⟩
    refine brd (fun _ => ⟨v, rfl, hv.1, hv.2, S' _ M⟩) fun _ => ?_
    refine M.oI (by repeat constructor) rfl (nn (by omega) ⟨_, rfl, ?_, ?_, S' _ M⟩)
    · have := and255 (shrI .u64 (IntKind.u64.wrap (IntKind.u64.wrap (IntKind.u64.wrap (st * 6364136223846793005) + IntKind.u64.wrap v) + 1442695040888963407)) 40)
      rw [wrap64 (by omega) (by omega)]; omega
    · have := and255 (shrI .u64 (IntKind.u64.wrap (IntKind.u64.wrap (IntKind.u64.wrap (st * 6364136223846793005) + IntKind.u64.wrap v) + 1442695040888963407)) 40)
      rw [wrap64 (by omega) (by omega)]; omega
  unfold p_spec_l00Src_next.S
  simp only [add_none, Nat.zero_add]
  refine M.oI (by repeat constructor) rfl (M.oL (by repeat constructor) rfl ?_)
  refine brd (fun hc => ?_) fun hc => j4 0 (by omega)
  refine M.oL (by repeat constructor) rfl (M.oI (by repeat constructor) rfl ?_)
  have C' := C.ext M.ext
  obtain ⟨a, rfl⟩ := C'.base (by rw [iv_len]; omega)
  refine idxs (by omega) (by omega) ?_
  rw [Int.toNat_natCast, Nat.mul_one]
  refine o_i (C'.get (iv_get (by omega))) ?_
  have := hb _ (List.getElem_mem (show p < xs.length by omega))
  rw [wrap64 (by omega) (by omega)]
  exact j4 _ this
/-- What pick tells. -/
def Picked (h0 : Heap) (L : List Blk) (g : Nat) (cb : Option Addr) (cl cc K : Nat) (n : Int) (u : Value) (h' : Heap) : Prop := ∃ v : Int, u = .int .i64 v ∧ 0 ≤ v ∧ (v < n ∨ v = 0) ∧ v < 65536 ∧ Src h0 h' L g cb cl cc (K + 2)
theorem pick_c (S : Src h0 h L g cb xs.length cc K) (C : Cells h0 cb (iv .u8 xs)) (hb : Byt' xs) (hK : K ≤ 1048576) :
    CALL prg f_p_spec_l00Src_pick #[.pointer (some ⟨g, 0, none⟩), .int .i64 n] (Picked h0 L g cb xs.length cc K n) h := by
  refine p_spec_l00Src_pick.call ?_
  refine brd (fun h1 => ⟨0, rfl, by omega, .inr rfl, by omega, S.mono (by omega)⟩) fun h1 => ?_
  refine (next_c S C hb (by omega)).mono ?_
  rintro _ h2 ⟨a, rfl, a1, a2, S⟩
  refine as_i ?_
  have md : ∀ x : Int, 0 ≤ x → 0 ≤ Int.tmod x n ∧ Int.tmod x n < n ∧ Int.tmod x n ≤ x := fun x hx => by
    rw [Int.tmod_eq_emod_of_nonneg hx]
    refine ⟨Int.emod_nonneg _ (by omega), Int.emod_lt_of_pos _ (by omega), ?_⟩
    have e1 := Int.emod_add_mul_ediv x n
    have e2 : 0 ≤ n * (x / n) := Int.mul_nonneg (by omega) (Int.ediv_nonneg hx (by omega))
    omega
  refine brd (fun h3 => ?_) fun h3 => ?_
  · refine (next_c S C hb (by omega)).mono ?_
    rintro _ h4 ⟨b, rfl, b1, b2, S⟩
    refine as_i (nz (by omega) ?_)
    rw [wrap64 (n := a * 256) (by omega) (by omega), wrap64 (by omega) (by omega)]
    have := md (a * 256 + b) (by omega)
    exact ⟨_, rfl, this.1, .inl this.2.1, by omega, S⟩
  · have := md a a1
    exact nz (by omega) ⟨_, rfl, this.1, .inl this.2.1, by omega, S.mono (by omega)⟩
theorem l00From_c (M : Mem h0 h L) : CALL prg f_spec_l00From #[.slice cb cl cc] (fun u h' => ∃ g, u = .pointer (some ⟨g, 0, none⟩) ∧ Src h0 h' L g cb cl cc 0) h :=
  spec_l00From.call (M.alc fun g h1 _ M => ⟨g, rfl, 0, 0, Nat.le_refl _, M⟩)
theorem P6Pick_c (M : Mem h0 h L) (C : Cells h0 cb (iv .u8 xs)) (hb : Byt' xs) :
    CALL prg f_spec_P6Pick #[.slice cb xs.length cc, .int .i64 n] (fun u h' => ∃ v : Int, u = .int .i64 v ∧ 0 ≤ v ∧ (v < n ∨ v = 0) ∧ v < 65536 ∧ Mem h0 h' L) h := by
  refine spec_P6Pick.call ?_
  refine (l00From_c M).mono ?_
  rintro _ h1 ⟨g, rfl, S⟩
  refine as_p ?_
  refine (pick_c S C hb (by omega)).mono ?_
  rintro _ h2 ⟨v, rfl, v1, v2, v3, S⟩
  exact as_i ⟨v, rfl, v1, v2, v3, S.mem⟩
theorem f6big_c {l c : Nat} : CALL prg f_laws_f6big #[.slice cb l c] (fun u h' => u = .bool (decide (4096 < l)) ∧ Ext h h') h :=
  laws_f6big.call ⟨by congr 1; rw [decide_eq_decide]; omega, Ext.refl _⟩
/-- A small multiple of a sixty-fourth. -/
def plainW (v : Int) : Nat := fdiv .f32 (FloatKind.f32.nearest (v - 128)) 1115684864
theorem l01Plain_c (S : Src h0 h L g cb xs.length cc K) (C : Cells h0 cb (iv .u8 xs)) (hb : Byt' xs) (hK : K ≤ 1048576) :
    CALL prg f_spec_l01Plain #[.pointer (some ⟨g, 0, none⟩)] (fun u h' => ∃ y v, u = .float .f32 y ∧ 0 ≤ v ∧ v < 257 ∧ FW .f32 y (plainW v) ∧ Src h0 h' L g cb xs.length cc (K + 2)) h := by
  refine spec_l01Plain.call ((pick_c S C hb hK).mono ?_)
  rintro _ h1 ⟨v, rfl, v1, v2, v3, S⟩
  refine as_i ?_
  rw [wrap64 (n := v - 128) (by omega) (by omega)]
  exact fD (fw_nearest _ _) (fw_c32 (by decide) (by decide)) fun y hy => ⟨y, v, rfl, v1, by omega, hy, S⟩
theorem one_c (S : Src h0 h L g cb xs.length cc K) (C : Cells h0 cb (iv .u8 xs)) (hb : Byt' xs) (hK : K ≤ 1048576) :
    CALL prg f_p_spec_l00Src_one #[.pointer (some ⟨g, 0, none⟩), .int .i64 n] (fun u h' => ∃ b, u = .bool b ∧ Src h0 h' L g cb xs.length cc (K + 2)) h := by
  refine p_spec_l00Src_one.call ((pick_c S C hb hK).mono ?_)
  rintro _ h1 ⟨v, rfl, v1, v2, v3, S⟩
  exact as_i ⟨_, rfl, S⟩
end
end Go.Sx
/- Rooms that stay valid; how long a room sounds, told by what it plays; gains of drawn rooms. -/
set_option linter.unusedVariables false
set_option linter.unusedSimpArgs false
namespace Go.Sx
open Go.Proofs
set_option maxRecDepth 100000
set_option maxHeartbeats 1000000

theorem comb_step_ok {c : GComb} {a : Nat} (h : c.ok = true) : (c.step a).1.ok = true := by
  unfold GComb.ok at *
  rw [Bool.and_eq_true] at *
  exact ⟨push_okf h.1, h.2⟩
theorem all_mem {α : Type} [Inhabited α] {l : List α} {p : α → Bool} (h : l.all p = true) {i : Nat} (hi : i < l.length) : p l[i]! = true := List.all_eq_true.1 h _ (mem_get hi)
theorem room_step_ok {x : GRoom} (h : x.ok = true) (c2 : x.Combs.length = 2) (l4 : x.Loops.length = 4) (d4 : x.Damps.length = 4) (a : Nat) : (x.step a).1.ok = true := by
  rw [room_ok] at h ⊢
  simp only [Bool.and_eq_true] at h
  obtain ⟨⟨⟨⟨⟨⟨⟨⟨h1, h2⟩, h3⟩, h4⟩, h5⟩, h6⟩, h7⟩, h8⟩, h9⟩ := h
  have e1 : (x.step a).1.Early = x.Early.push (kept a) := rfl
  have e2 : (x.step a).1.Taps = x.Taps := rfl
  have e3 : (x.step a).1.Combs = [(x.Combs[0]!.step (fadd .f32 a x.early)).1, (x.Combs[1]!.step (x.Combs[0]!.step (fadd .f32 a x.early)).2).1] := rfl
  have ek : x.Early.ok = true := by unfold GRing.okf at h1; rw [Bool.and_eq_true] at h1; exact h1.1
  simp only [Bool.and_eq_true]
  refine ⟨⟨⟨⟨⟨⟨⟨⟨?_, h2⟩, ?_⟩, ?_⟩, ?_⟩, ?_⟩, h7⟩, h8⟩, h9⟩
  · rw [e1]; exact push_okf h1
  · rw [e3]
    simp only [List.all_cons, List.all_nil, Bool.and_true, Bool.and_eq_true]
    exact ⟨comb_step_ok (all_mem h3 (by omega)), comb_step_ok (all_mem h3 (by omega))⟩
  · rw [List.all_eq_true]
    intro r hr
    unfold GRoom.step at hr
    simp only [List.mem_map, List.mem_range] at hr
    obtain ⟨i, hi, rfl⟩ := hr
    exact push_okf (all_mem h4 (by omega))
  · rw [List.all_eq_true]
    intro f hf
    unfold GRoom.step at hf
    simp only [List.mem_map, List.mem_range] at hf
    obtain ⟨g, ⟨i, hi, rfl⟩, rfl⟩ := hf
    exact filter_step1 (all_mem (p := fun f : GFilter => f.ok && f.Kind == 1) h5 (by omega))
  · rw [e1, e2, (push_ok ek).2]; exact h6
theorem plain_fin {v : Int} (h0 : 0 ≤ v) (h1 : v < 257) : fin (plainW v) = true := by
  have A : (List.range 257).all (fun v => fin (plainW (v : Int))) = true := by decide +kernel
  obtain ⟨n, rfl⟩ := Int.eq_ofNat_of_zero_le h0
  exact List.all_eq_true.1 A n (List.mem_range.2 (by omega))
def keepW (v : Int) : Nat := fdiv .f32 (FloatKind.f32.nearest v) 1090519040
theorem keep_place {v : Int} (h0 : 0 ≤ v) (h1 : v < 8) : place (keepW v) = true := by
  have A : (List.range 8).all (fun v => place (keepW (v : Int))) = true := by decide +kernel
  obtain ⟨n, rfl⟩ := Int.eq_ofNat_of_zero_le h0
  exact List.all_eq_true.1 A n (List.mem_range.2 (by omega))
def tailW (t : Int) : Nat := FloatKind.f32.nearest t
def tailOk (a : Nat) : Bool := fge .f32 a 1065353216 && fle .f32 a 1232348160
theorem tail_ok {t : Int} (h0 : 10 ≤ t) (h1 : t < 210) : tailOk (tailW t) = true := by
  have A : (List.range 200).all (fun v => tailOk (tailW ((v : Int) + 10))) = true := by decide +kernel
  obtain ⟨n, hn⟩ := Int.eq_ofNat_of_zero_le (show 0 ≤ t - 10 by omega)
  have := List.all_eq_true.1 A n (List.mem_range.2 (by omega))
  rwa [show ((n : Nat) : Int) + 10 = t by omega] at this
def gainE (l t : Int) : Nat := fdiv .f64 (fmul .f64 4619463459138379574 (FloatKind.f64.nearest l)) (wid (tailW t))
def gainX (l t : Int) : Nat := fadd .f64 (fsub .f64 4607182418800017408 (gainE l t)) (fdiv .f64 (fmul .f64 (gainE l t) (gainE l t)) 4611686018427387904)
def gainOk (l t : Int) : Bool := fgt .f64 (gainE l t) 4607182418800017408 || (fits (gainX l t) && fin (nar (gainX l t)))
theorem gain_ok {l t : Int} (l0 : 1 ≤ l) (l1 : l ≤ 8) (h0 : 10 ≤ t) (h1 : t < 210) : gainOk l t = true := by
  have A : (List.range 8).all (fun l => (List.range 200).all fun v => gainOk ((l : Int) + 1) ((v : Int) + 10)) = true := by decide +kernel
  obtain ⟨m, hm⟩ := Int.eq_ofNat_of_zero_le (show 0 ≤ l - 1 by omega)
  obtain ⟨n, hn⟩ := Int.eq_ofNat_of_zero_le (show 0 ≤ t - 10 by omega)
  have := List.all_eq_true.1 (List.all_eq_true.1 A m (List.mem_range.2 (by omega))) n (List.mem_range.2 (by omega))
  rwa [show ((n : Nat) : Int) + 10 = t by omega, show ((m : Nat) : Int) + 1 = l by omega] at this
def gainW (l t : Int) : Nat := if fgt .f64 (gainE l t) 4607182418800017408 then 0 else nar (gainX l t)
theorem gain_fin {l t : Int} (l0 : 1 ≤ l) (l1 : l ≤ 8) (h0 : 10 ≤ t) (h1 : t < 210) : fin (gainW l t) = true := by
  have := gain_ok l0 l1 h0 h1
  unfold gainOk at this
  unfold gainW
  split
  · decide +kernel
  · next hn =>
    rw [Bool.eq_false_iff.2 hn, Bool.false_or, Bool.and_eq_true] at this
    exact this.2
end Go.Sx
