/- New pipes of one section: the rule's. -/
import Derived.Test.YthgnpepchedpbaaGreatLk18
import Derived.Test.YthgnpepchedpbaaGreatLk7
import Derived.Test.YthgnpepchedpbaaGreatLq2
import Derived.Test.YthgnpepchedpbaaGreatTab
import Derived.Test.YthgnpepchedpbaaGreatLf8
import Derived.Test.YthgnpepchedpbaaGreatLk9
import Derived.Test.YthgnpepchedpbaaGreatLm7
import Derived.Test.YthgnpepchedpbaaGreatLs1
set_option linter.unusedVariables false
set_option linter.unusedSimpArgs false
namespace Go.Sx
open Go.Proofs Ieee
set_option maxRecDepth 100000
set_option maxHeartbeats 2000000

def quietR (n : Int) : GRing := ⟨List.replicate n.toNat 0, 0⟩
def pipeOf (n : Int) (op : Bool) (k l : Nat) : GPipe := { Right := [quietR n], Left := [quietR n], Scatter := [], End := onePole k, Open := op, Loss := l, Rest := 1061158912, Slope := 3200253952 }
def pipeIf (ok : Bool) (n : Int) (op : Bool) (k l : Nat) : GPipe × Int := if ok && inR n 1 1024 then (pipeOf n op k l, 0) else (z_Pipe, 2)
def newPipe (n : Int) (op : Bool) (k l : Nat) : GPipe × Int := pipeIf (place k && inside l 0 1065353216) n op k l
end Go.Sx
/- Voices, the program's; how many events have happened. -/
set_option linter.unusedVariables false
set_option linter.unusedSimpArgs false
namespace Go.Sx
open Go.Proofs
set_option maxRecDepth 100000
set_option maxHeartbeats 2000000

/-- How many events lie before a time. -/
def hap (es : List GEvent) (now : Int) : Nat := es.countP fun e => decide (e.At < now)
end Go.Sx
/- Players: the rule's and the program's. -/
set_option linter.unusedVariables false
set_option linter.unusedSimpArgs false
namespace Go.Sx
open Go.Proofs
set_option maxRecDepth 100000
set_option maxHeartbeats 2000000

noncomputable def voicesAt (p : GPlayer) (i : Nat) : Bool := voiceOk p.Score p.Voices[i]! && (decide (p.Voices[i]!.Note < 0) || (decide (p.Voices[i]!.Born < p.Now) && (List.range i).all fun k => !(p.Voices[k]!.Note == p.Voices[i]!.Note)))
noncomputable def GPlayer.ok (p : GPlayer) : Bool := p.Score.ok && inR p.Voices.length 1 6 && inR p.Now 0 200000 && inR p.Skipped 0 64 && (p.Next == (hap p.Score.Events p.Now : Int)) && (List.range p.Voices.length).all (voicesAt p)
end Go.Sx
/- The voice of a start, plain; periods have no sign. -/
set_option linter.unusedVariables false
set_option linter.unusedSimpArgs false
namespace Go.Sx
open Go.Proofs Ieee
set_option maxRecDepth 100000
set_option maxHeartbeats 1000000

def by2 (c : Nat) : Nat := if feq .f32 c 1065353216 then 1073741824 else 1082130432
def baseV (e : GEvent) : GVoice := { z_Voice with Note := e.Note, Instrument := e.Instrument, Born := e.At }
def voiceOf (s : GScore) (e : GEvent) : Option GVoice :=
  let x := s.Instruments[e.Instrument.toNat]!
  let p := s.Tuning.period e.Key s.Rate
  if p.2 = 0 then
    if x.Kind = 1 then
      if (newString p.1 x.A x.B).2 = 0 then
        if ((newString p.1 x.A x.B).1.pluck x.C e.Force).2 = 0 then some { baseV e with String := ((newString p.1 x.A x.B).1.pluck x.C e.Force).1 } else none
      else none
    else if x.Kind = 2 then
      if (newPipe (floorZ (fdiv .f32 p.1 (by2 x.C))) (feq .f32 x.C 1065353216) x.A x.B).2 = 0 then some { baseV e with Pipe := (newPipe (floorZ (fdiv .f32 p.1 (by2 x.C))) (feq .f32 x.C 1065353216) x.A x.B).1, Drive := e.Force } else none
    else if (newBow (floorZ p.1) x.A x.B x.C).2 = 0 then some { baseV e with Bow := (newBow (floorZ p.1) x.A x.B x.C).1, Drive := e.Force } else none
  else none
end Go.Sx
/- Pipes copied. -/
set_option linter.unusedVariables false
set_option linter.unusedSimpArgs false
namespace Go.Sx
open Go.Proofs
set_option maxRecDepth 100000
set_option maxHeartbeats 1000000

/-- All rings of a pipe are of a size that can be copied. -/
structure GPipe.small (x : GPipe) : Prop where
  r : ∀ r ∈ x.Right, r.Samples.length ≤ 1048576
  l : ∀ r ∈ x.Left, r.Samples.length ≤ 1048576
  nr : x.Right.length ≤ 1048576
  nl : x.Left.length ≤ 1048576
  ns : x.Scatter.length ≤ 1048576
end Go.Sx
/- A pipe's step, as the rule makes it. -/
set_option linter.unusedVariables false
set_option linter.unusedSimpArgs false
namespace Go.Sx
open Go.Proofs
set_option maxRecDepth 100000
set_option maxHeartbeats 1000000

/-- What a step of a pipe asks for. -/
structure GPipe.Runs (x : GPipe) : Prop where
  n1 : 1 ≤ x.Right.length
  n3 : x.Right.length ≤ 3
  ll : x.Left.length = x.Right.length
  sl : x.Scatter.length + 1 = x.Right.length
  r : ∀ r ∈ x.Right, r.ok = true
  l : ∀ r ∈ x.Left, r.ok = true
/-- A pipe within a step: the first i rings that run right and j that run left are moved. -/
def GPipe.at (x : GPipe) (b i j : Nat) (e : GFilter) : GPipe := { x with Right := mapI (x.rt b) x.Right i, Left := mapI x.lf x.Left j, End := e }
theorem pstep_eq {x : GPipe} (R : x.Runs) (b : Nat) : x.step b = (x.at b x.Right.length x.Right.length x.e.1, x.e.2) := by
  unfold GPipe.at GPipe.step
  rw [mapI_all (Nat.le_refl _), mapI_all (by rw [R.ll]; exact Nat.le_refl _), R.ll]
  rfl
section
variable {h0 h : Heap} {q : Addr} {F : Fr} {L : List Blk} {x : GPipe} {b i j l c : Nat} {e : GFilter} {bb : Option Addr}
theorem Pt.hd (P : Pt rPipe h0 h q F L x) : ∃ bb l c, cell h q = some (.slice bb l c) ∧ x.Right.length = l := by
  obtain ⟨b, l, c, e, S⟩ := P.hdr1 (e := T_impl_Ring) (s := rRing)
  exact ⟨b, l, c, e, S.len⟩
/-- What a step of a pipe leaves. -/
def PiStep (h0 h' : Heap) (q : Addr) (F : Fr) (L : List Blk) (x : GPipe) (a : Nat) (u : Value) : Prop := (∃ y, u = .float .f32 y ∧ FW .f32 y (x.step a).2) ∧ Pt rPipe h0 h' q F L (x.step a).1
theorem PiStep.of {y : Nat} (R : x.Runs) (hy : FW .f32 y x.e.2) (P : Pt rPipe h0 h q F L (x.at b x.Right.length x.Right.length x.e.1)) : PiStep h0 h q F L x b (.float .f32 y) := by
  unfold PiStep
  rw [pstep_eq R b]
  exact ⟨⟨y, rfl, hy⟩, P⟩
end
end Go.Sx
/- A pipe's step, as the program makes it. -/
set_option linter.unusedVariables false
set_option linter.unusedSimpArgs false
namespace Go.Sx
open Go.Proofs
set_option maxRecDepth 100000
set_option maxHeartbeats 1000000

section
variable {h0 h : Heap} {q : Addr} {F : Fr} {L : List Blk} {x : GPipe} {b : Nat}
theorem Pt.head {α β : Type} {r : Rep α} {e : Nat} {s : Rep β} {get : α → List β} {put : α → List β → α} {a : α} {off : Nat} (P : Pt r h0 h q F L a) [Fc : FocC r off (rSl e s) get put] : ∃ bb l c, cell h (q.add off) = some (.slice bb l c) ∧ SlR s h bb l c (get a) := P.hdr
end
end Go.Sx
/- What functions of this seat's program compute, told in words (a predicate over heaps for each), and the proofs that the words are no more than the code's own weakest precondition. -/
namespace Go.Sx
open Go.Proofs
set_option linter.unusedVariables false
set_option maxRecDepth 100000

def slices_IndexFunc_sl_impl_Ring_impl_Ring.B2 (Post : Value → Heap → Prop) (N2 : (Option Addr × Nat × Nat × Value × Int × Int) → Heap → Prop) : Option Addr × Nat × Nat × Value × Int × Int → Heap → Prop
  | (s_0b, s_0l, s_0c, f_1, t7, t8), h =>
    BIF (decide (t8 < t7)) (
    IDXS s_0b t8 s_0l fun p3 =>
    oP (cell h ((Addr.add p3 ((Int.toNat t8) * 1)))) fun p4 =>
    CALLD prg f_1 #[.pointer (some p4)] (fun q5 h6 =>
    asB q5 fun b7 =>
    BIF b7 (
    Post (.int .i64 t8) h6) (
    N2 (s_0b, s_0l, s_0c, f_1, t7, ((IntKind.i64.wrap (t8 + (1 : Int))))) h6)) h) (
    Post (.int .i64 (-1 : Int)) h)
def slices_IndexFunc_sl_impl_Ring_impl_Ring.g2 (fr : Frame) : Option Addr × Nat × Nat × Value × Int × Int := ((gLb (lget fr 0)), (gLl (lget fr 0)), (gLc (lget fr 0)), (lget fr 1), (gI (lget fr 7)), (gI (lget fr 8)))
def slices_IndexFunc_sl_impl_Ring_impl_Ring.l2 (Post : Value → Heap → Prop) : Frame → Heap → Prop := fun fr h => GRD (shape (kds 19 [(0, .l), (1, .v), (7, .i .i64), (8, .i .i64)]) fr) (LOOP (slices_IndexFunc_sl_impl_Ring_impl_Ring.B2 Post) (slices_IndexFunc_sl_impl_Ring_impl_Ring.g2 fr) h)
def slices_IndexFunc_sl_impl_Ring_impl_Ring.S (s_0b : Option Addr) (s_0l s_0c : Nat) (f_1 : Value) (Post : Value → Heap → Prop) (h : Heap) : Prop :=
    LOOP (slices_IndexFunc_sl_impl_Ring_impl_Ring.B2 Post) (s_0b, s_0l, s_0c, f_1, (s_0l : Int), (0 : Int)) h
noncomputable def slices_IndexFunc_sl_impl_Ring_impl_Ring.code : Code := (Tryz.f131.body).getD .skip
theorem slices_IndexFunc_sl_impl_Ring_impl_Ring.call {s_0b : Option Addr} {s_0l s_0c : Nat} {f_1 : Value} {Post : Value → Heap → Prop} {h : Heap} (H : slices_IndexFunc_sl_impl_Ring_impl_Ring.S s_0b s_0l s_0c f_1 Post h) : CALL prg f_slices_IndexFunc_sl_impl_Ring_impl_Ring #[.slice s_0b s_0l s_0c, f_1] Post h :=
  fn_call tau_ok mixed (c := slices_IndexFunc_sl_impl_Ring_impl_Ring.code) (Λ := lookL [(1000002, slices_IndexFunc_sl_impl_Ring_impl_Ring.l2 Post)]) Tryz.func131 (by kernel_rfl) (by kernel_rfl)
    (Rq.seq (by kernel_rfl) (Rq.free (by kernel_rfl)) (Rq.seq (by kernel_rfl) (Rq.seq (by kernel_rfl) (Rq.free (by kernel_rfl)) (Rq.block (Rq.loop (slices_IndexFunc_sl_impl_Ring_impl_Ring.l2 Post) (by kernel_rfl) (segL (g := slices_IndexFunc_sl_impl_Ring_impl_Ring.g2) tau_ok mixed (Λ := fun N2 => lookL []) (fun _ _ _ => by kernel_rfl) (fun N2 => (Rq.free (by kernel_rfl))))))) (Rq.free (by kernel_rfl))))
    (Eq.mp (by kernel_rfl) H)

def slices_ContainsFunc_sl_impl_Ring_impl_Ring.S (s_0b : Option Addr) (s_0l s_0c : Nat) (f_1 : Value) (Post : Value → Heap → Prop) (h : Heap) : Prop :=
    CALL prg f_slices_IndexFunc_sl_impl_Ring_impl_Ring #[.slice s_0b s_0l s_0c, f_1] (fun q1 h2 =>
    asI .i64 q1 fun n3 =>
    Post (.bool ((decide ((0 : Int) ≤ n3)))) h2) h
noncomputable def slices_ContainsFunc_sl_impl_Ring_impl_Ring.code : Code := (Tryz.f104.body).getD .skip
theorem slices_ContainsFunc_sl_impl_Ring_impl_Ring.call {s_0b : Option Addr} {s_0l s_0c : Nat} {f_1 : Value} {Post : Value → Heap → Prop} {h : Heap} (H : slices_ContainsFunc_sl_impl_Ring_impl_Ring.S s_0b s_0l s_0c f_1 Post h) : CALL prg f_slices_ContainsFunc_sl_impl_Ring_impl_Ring #[.slice s_0b s_0l s_0c, f_1] Post h :=
  fn_call tau_ok mixed (c := slices_ContainsFunc_sl_impl_Ring_impl_Ring.code) (Λ := lookL []) Tryz.func104 (by kernel_rfl) (by kernel_rfl)
    (Rq.free (by kernel_rfl))
    (Eq.mp (by kernel_rfl) H)

def impl_areQuiet_c1.S (r_0 : Addr) (Post : Value → Heap → Prop) (h : Heap) : Prop :=
    LDA 2 h r_0 fun a1 =>
    CALL prg f_impl_Ring_isQuiet #[.agg a1] (fun q2 h3 =>
    asB q2 fun b4 =>
    Post (.bool (!b4)) h3) h
noncomputable def impl_areQuiet_c1.code : Code := (Tryz.f105.body).getD .skip
theorem impl_areQuiet_c1.call {r_0 : Addr} {Post : Value → Heap → Prop} {h : Heap} (H : impl_areQuiet_c1.S r_0 Post h) : CALL prg f_impl_areQuiet_c1 #[.pointer (some r_0)] Post h :=
  fn_call tau_ok mixed (c := impl_areQuiet_c1.code) (Λ := lookL []) Tryz.func105 (by kernel_rfl) (by kernel_rfl)
    (Rq.free (by kernel_rfl))
    (Eq.mp (by kernel_rfl) H)

def impl_areQuiet.S (list_0b : Option Addr) (list_0l list_0c : Nat) (Post : Value → Heap → Prop) (h : Heap) : Prop :=
    CALL prg f_slices_ContainsFunc_sl_impl_Ring_impl_Ring #[.slice list_0b list_0l list_0c, .func (.func 105) #[] #[]] (fun q1 h2 =>
    asB q1 fun b3 =>
    Post (.bool (!b3)) h2) h
noncomputable def impl_areQuiet.code : Code := (Tryz.f43.body).getD .skip
theorem impl_areQuiet.call {list_0b : Option Addr} {list_0l list_0c : Nat} {Post : Value → Heap → Prop} {h : Heap} (H : impl_areQuiet.S list_0b list_0l list_0c Post h) : CALL prg f_impl_areQuiet #[.slice list_0b list_0l list_0c] Post h :=
  fn_call tau_ok mixed (c := impl_areQuiet.code) (Λ := lookL []) Tryz.func43 (by kernel_rfl) (by kernel_rfl)
    (Rq.free (by kernel_rfl))
    (Eq.mp (by kernel_rfl) H)

end Go.Sx
/- Bodies that are silent: the rule's and the program's. -/
set_option linter.unusedVariables false
set_option linter.unusedSimpArgs false
namespace Go.Sx
open Go.Proofs
set_option maxRecDepth 100000
set_option maxHeartbeats 1000000

/-- Pointers to rings, and the rings. -/
def PR (h : Heap) (ps : List Addr) (rs : List GRing) : Prop := ps.length = rs.length ∧ ∀ i, i < ps.length → RdP rRing h ps[i]! rs[i]! ∧ rs[i]!.ok = true
theorem PR.ext {h h' : Heap} {ps : List Addr} {rs : List GRing} (H : PR h ps rs) (x : Ext h h') : PR h' ps rs := ⟨H.1, fun i hi => ⟨(H.2 i hi).1.ext x, (H.2 i hi).2⟩⟩
section
variable {h0 h : Heap} {q : Addr} {F : Fr} {L : List Blk} {y a : Nat}
theorem isQuiet_c {cs : Array Value} {r : GRing} (R0 : rRing.rd h cs.toList r) (hr : r.ok = true) : CALL prg f_impl_Ring_isQuiet #[.agg cs] (fun u h' => u = .bool r.zero ∧ Ext h h') h := by
  refine impl_Ring_isQuiet.call (alcR R0 fun g h1 x1 R => R.lda1 rfl fun c2 R2 => R.oL2 fun b l c S => goX (Ring_quiet_c R2 hr) fun h2 x2 => as_i (R.pin2 (by decide) x2 (goX (length_f32_c _ _ _ _) fun h3 x3 => as_i ⟨?_, x1.trans (x2.trans x3)⟩)))
  have hl : r.Samples.length = l := S.len
  have := quiet_zero hr
  congr 1
  rw [Bool.eq_iff_iff, ← this, beq_iff_eq]
  omega
theorem areQuiet_c {b : Option Addr} {l c : Nat} {ps : List Addr} {rs : List GRing} (S : SlR rP h b l c ps) (H : PR h ps rs) : CALL prg f_impl_areQuiet #[.slice b l c] (fun u h' => u = .bool (rs.all GRing.zero) ∧ Ext h h') h := by
  have hl := S.len
  have s1 := S.2.1
  have s2 := S.2.2.1
  have := maxLen_lt
  have hlr := H.1
  have I : CALL prg f_slices_IndexFunc_sl_impl_Ring_impl_Ring #[.slice b l c, .func (.func f_impl_areQuiet_c1) #[] #[]] (fun u h' => u = .int .i64 (firstAt (fun r : GRing => !r.zero) rs) ∧ Ext h h') h := by
    refine slices_IndexFunc_sl_impl_Ring_impl_Ring.call ?_
    refine loop (fun x hh => ∃ n : Nat, x = (b, l, c, .func (.func f_impl_areQuiet_c1) #[] #[], (l : Int), (n : Int)) ∧ n ≤ l ∧ Ext h hh ∧ ∀ i, i < n → (!rs[i]!.zero) = false) (fun x => (l - x.2.2.2.2.2).toNat) ⟨0, rfl, by omega, Ext.refl _, fun i hi => by omega⟩ ?_
    rintro x hh ⟨n, rfl, hn, X, hf⟩
    refine brd (fun hc => ?_) fun hc => ⟨by rw [firstAt_none fun i hi => hf i (by omega)], X⟩
    refine (S.ext X).idx (by decide) (by omega) (by omega) fun a Ra => Ra.oP1 ?_
    rw [Int.toNat_natCast]
    obtain ⟨Rr, ok⟩ := H.2 n (by omega)
    show CALL prg f_impl_areQuiet_c1 #[.pointer (some ps[n]!)] _ hh
    refine impl_areQuiet_c1.call ((Rr.ext X).lda1 rfl fun cs Rc => goE X (isQuiet_c Rc ok) fun h1 x1 => as_b (as_b (br (fun hb => ?_) fun hb => ?_)))
    · exact ⟨by rw [firstAt_some (by omega) hf hb], x1⟩
    · refine ⟨⟨n + 1, by rw [wrap64_succ (by omega)], by omega, x1, fun i hi => ?_⟩, by rw [wrap64_succ (by omega)]; show _ < _; simp; omega⟩
      by_cases e : i = n
      · subst e; exact hb
      · exact hf i (by omega)
  refine impl_areQuiet.call (goX (slices_ContainsFunc_sl_impl_Ring_impl_Ring.call (goX I fun h1 x1 => as_i ⟨rfl, x1⟩)) fun h2 x2 => as_b ⟨?_, x2⟩)
  congr 1
  rw [firstAt_any, List.any_eq_not_all_not]
  simp
end
end Go.Sx
/- Voices moved on: the rule's and the program's. -/
set_option linter.unusedVariables false
set_option linter.unusedSimpArgs false
namespace Go.Sx
open Go.Proofs
set_option maxRecDepth 100000
set_option maxHeartbeats 1000000

def GVoice.sound (k : Int) (v : GVoice) : GVoice × Nat :=
  if k = 1 then ({ v with String := (v.String.step 0).1 }, (v.String.step 0).2)
  else if k = 2 then ({ v with Pipe := (v.Pipe.step v.Drive).1 }, (v.Pipe.step v.Drive).2)
  else ({ v with Bow := (v.Bow.step v.Drive).1 }, (v.Bow.step v.Drive).2)
def GVoice.quiet (k : Int) (v : GVoice) : Bool := if k = 1 then v.String.silent else if k = 2 then v.Pipe.silent else v.Bow.silent
def bodyRuns (k : Int) (v : GVoice) : Prop := if k = 1 then v.String.Loop.ok = true else if k = 2 then v.Pipe.Runs else v.Bow.ok = true
theorem kept_fin (a : Nat) : fin (kept a) = true := by
  unfold kept
  split
  · next h =>
    unfold flush
    split
    · decide +kernel
    · exact h
  · decide +kernel
theorem push_okf {r : GRing} {a : Nat} (h : r.okf = true) : (r.push (kept a)).okf = true := by
  unfold GRing.okf at *
  rw [Bool.and_eq_true] at *
  refine ⟨(push_ok h.1).1, ?_⟩
  have h2 := h.2
  unfold allFin at *
  rw [List.all_eq_true] at *
  intro x hx
  rcases List.mem_or_eq_of_mem_set hx with hx | rfl
  · exact h2 x hx
  · exact kept_fin a
theorem used_set0 {l : List Nat} {n : Int} {a : Nat} (h : used l n = true) (hn : 1 ≤ n) : used (l.set 0 (kept a)) n = true := by
  unfold used at *
  rw [List.all_eq_true] at *
  intro i hi
  rw [List.mem_range, List.length_set] at hi
  have := h i (List.mem_range.2 hi)
  rw [Bool.and_eq_true] at *
  by_cases e : i = 0
  · subst e
    rw [getElem!_pos _ 0 (by rw [List.length_set]; exact hi), List.getElem_set_self]
    exact ⟨kept_fin a, by rw [decide_eq_true (by omega)]; rfl⟩
  · rw [getElem!_pos _ i (by rw [List.length_set]; exact hi), List.getElem_set_ne (by omega), ← getElem!_pos l i hi]
    exact this
theorem filter_step1 {f : GFilter} {a : Nat} (h : (f.ok && f.Kind == 1) = true) : ((f.step a).1.ok && (f.step a).1.Kind == 1) = true := by
  rw [Bool.and_eq_true, beq_iff_eq] at h
  rw [step1 h.2]
  have h1 := h.1
  unfold GFilter.ok at *
  simp only [Bool.and_eq_true] at *
  exact ⟨⟨h1.1, used_set0 h1.2 (by unfold usesS; rw [if_pos (.inl h.2)]; decide)⟩, by rw [h.2]; rfl⟩
end Go.Sx
