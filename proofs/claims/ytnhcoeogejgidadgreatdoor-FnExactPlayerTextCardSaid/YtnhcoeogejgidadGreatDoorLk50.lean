/- The voice of a start, plain; periods have no sign. -/
import Derived.Test.YtnhcoeogejgidadGreatDoorLk45
import Derived.Test.YtnhcoeogejgidadGreatDoorK3
import Derived.Test.YtnhcoeogejgidadGreatDoorLr3
import Derived.Test.YtnhcoeogejgidadGreatDoorTab
import Derived.Test.YtnhcoeogejgidadGreatDoorLm7
import Derived.Test.YtnhcoeogejgidadGreatDoorLva
import Derived.Test.YtnhcoeogejgidadGreatDoorLk33
import Derived.Test.YtnhcoeogejgidadGreatDoorLk29
import Derived.Test.YtnhcoeogejgidadGreatDoorLk1
import Derived.Test.YtnhcoeogejgidadGreatDoorK4
import Derived.Test.YtnhcoeogejgidadGreatDoorLgw
import Derived.Test.YtnhcoeogejgidadGreatDoorTabE
import Derived.Test.YtnhcoeogejgidadGreatDoorLg
import Derived.Test.YtnhcoeogejgidadGreatDoorLp5
import Derived.Test.YtnhcoeogejgidadGreatDoorLp2
import Derived.Test.YtnhcoeogejgidadGreatDoorLvr
set_option linter.unusedVariables false
set_option linter.unusedSimpArgs false
namespace Go.Sx
open Go.Proofs Ieee
set_option maxRecDepth 100000
set_option maxHeartbeats 1000000

def by2 (c : Nat) : Nat := if feq .f32 c 1065353216 then 1073741824 else 1082130432
def baseV (e : GEvent) : GVoice := { z_Voice with Note := e.Note, Instrument := e.Instrument, Born := e.At }
def voiceOf (s : GScore) (e : GEvent) : Option GVoice :=
  let x := s.Instruments[e.Instrument.toNat]!
  let p := s.Tuning.period e.Key s.Rate
  if p.2 = 0 then
    if x.Kind = 1 then
      if (newString p.1 x.A x.B).2 = 0 then
        if ((newString p.1 x.A x.B).1.pluck x.C e.Force).2 = 0 then some { baseV e with String := ((newString p.1 x.A x.B).1.pluck x.C e.Force).1 } else none
      else none
    else if x.Kind = 2 then
      if (newPipe (floorZ (fdiv .f32 p.1 (by2 x.C))) (feq .f32 x.C 1065353216) x.A x.B).2 = 0 then some { baseV e with Pipe := (newPipe (floorZ (fdiv .f32 p.1 (by2 x.C))) (feq .f32 x.C 1065353216) x.A x.B).1, Drive := e.Force } else none
    else if (newBow (floorZ p.1) x.A x.B x.C).2 = 0 then some { baseV e with Bow := (newBow (floorZ p.1) x.A x.B x.C).1, Drive := e.Force } else none
  else none
end Go.Sx
/- Pipes copied. -/
set_option linter.unusedVariables false
set_option linter.unusedSimpArgs false
namespace Go.Sx
open Go.Proofs
set_option maxRecDepth 100000
set_option maxHeartbeats 1000000

theorem okf_small {l : List GRing} (h : l.all GRing.okf = true) : ∀ r ∈ l, r.ok = true ∧ r.Samples.length ≤ 1048576 := fun r hr => by
  have := List.all_eq_true.1 h r hr
  unfold GRing.okf at this
  rw [Bool.and_eq_true] at this
  have k := at_lt this.1
  exact ⟨this.1, by omega⟩
theorem pipe_split {x : GPipe} (h : x.ok = true) : 1 ≤ x.Right.length ∧ x.Right.length ≤ 3 ∧ x.Left.length = x.Right.length ∧ x.Scatter.length + 1 = x.Right.length ∧ x.Right.all GRing.okf = true ∧ x.Left.all GRing.okf = true := by
  rw [pipe_ok] at h
  unfold inR GPipe.n at h
  simp only [Bool.and_eq_true, decide_eq_true_eq] at h
  obtain ⟨⟨⟨⟨⟨⟨⟨⟨⟨⟨⟨h1, h2⟩, h3⟩, h4⟩, h5⟩, _⟩, _⟩, _⟩, _⟩, _⟩, _⟩, _⟩ := h
  exact ⟨by omega, by omega, h2, h3, h4, h5⟩
end Go.Sx
/- A pipe's step, as the rule makes it. -/
set_option linter.unusedVariables false
set_option linter.unusedSimpArgs false
namespace Go.Sx
open Go.Proofs
set_option maxRecDepth 100000
set_option maxHeartbeats 1000000

/-- What a step of a pipe asks for. -/
structure GPipe.Runs (x : GPipe) : Prop where
  n1 : 1 ≤ x.Right.length
  n3 : x.Right.length ≤ 3
  ll : x.Left.length = x.Right.length
  sl : x.Scatter.length + 1 = x.Right.length
  r : ∀ r ∈ x.Right, r.ok = true
  l : ∀ r ∈ x.Left, r.ok = true
theorem pipe_runs {x : GPipe} (h : x.ok = true) : x.Runs := by
  obtain ⟨h1, h2, h3, h4, h5, h6⟩ := pipe_split h
  exact ⟨h1, h2, h3, h4, fun r hr => (okf_small h5 r hr).1, fun r hr => (okf_small h6 r hr).1⟩
theorem map_get {α β : Type} [Inhabited α] [Inhabited β] {f : α → β} {l : List α} {i : Nat} (h : i < l.length) : (l.map f)[i]! = f l[i]! := by
  rw [getElem!_pos _ i (by rw [List.length_map]; exact h), List.getElem_map, getElem!_pos l i h]
/-- A pipe within a step: the first i rings that run right and j that run left are moved. -/
def GPipe.at (x : GPipe) (b i j : Nat) (e : GFilter) : GPipe := { x with Right := mapI (x.rt b) x.Right i, Left := mapI x.lf x.Left j, End := e }
theorem pstep_eq {x : GPipe} (R : x.Runs) (b : Nat) : x.step b = (x.at b x.Right.length x.Right.length x.e.1, x.e.2) := by
  unfold GPipe.at GPipe.step
  rw [mapI_all (Nat.le_refl _), mapI_all (by rw [R.ll]; exact Nat.le_refl _), R.ll]
  rfl
section
variable {h0 h : Heap} {q : Addr} {F : Fr} {L : List Blk} {x : GPipe} {b i j l c : Nat} {e : GFilter} {bb : Option Addr}
theorem Pt.hd (P : Pt rPipe h0 h q F L x) : ∃ bb l c, cell h q = some (.slice bb l c) ∧ x.Right.length = l := by
  obtain ⟨b, l, c, e, S⟩ := P.hdr1 (e := T_impl_Ring) (s := rRing)
  exact ⟨b, l, c, e, S.len⟩
/-- What a step of a pipe leaves. -/
def PiStep (h0 h' : Heap) (q : Addr) (F : Fr) (L : List Blk) (x : GPipe) (a : Nat) (u : Value) : Prop := (∃ y, u = .float .f32 y ∧ FW .f32 y (x.step a).2) ∧ Pt rPipe h0 h' q F L (x.step a).1
theorem PiStep.of {y : Nat} (R : x.Runs) (hy : FW .f32 y x.e.2) (P : Pt rPipe h0 h q F L (x.at b x.Right.length x.Right.length x.e.1)) : PiStep h0 h q F L x b (.float .f32 y) := by
  unfold PiStep
  rw [pstep_eq R b]
  exact ⟨⟨y, rfl, hy⟩, P⟩
end
end Go.Sx
/- A pipe's step, as the program makes it. -/
set_option linter.unusedVariables false
set_option linter.unusedSimpArgs false
namespace Go.Sx
open Go.Proofs
set_option maxRecDepth 100000
set_option maxHeartbeats 1000000

section
variable {h0 h : Heap} {q : Addr} {F : Fr} {L : List Blk} {x : GPipe} {b : Nat}
theorem Pt.head {α β : Type} {r : Rep α} {e : Nat} {s : Rep β} {get : α → List β} {put : α → List β → α} {a : α} {off : Nat} (P : Pt r h0 h q F L a) [Fc : FocC r off (rSl e s) get put] : ∃ bb l c, cell h (q.add off) = some (.slice bb l c) ∧ SlR s h bb l c (get a) := P.hdr
end
end Go.Sx
/- What functions of this seat's program compute, told in words (a predicate over heaps for each), and the proofs that the words are no more than the code's own weakest precondition. -/
namespace Go.Sx
open Go.Proofs
set_option linter.unusedVariables false
set_option maxRecDepth 100000

def p_impl_Pipe_rings.B3 (Post : Value → Heap → Prop) (N3 : (Addr × Option Addr × Nat × Nat × Int × Int) → Heap → Prop) : Addr × Option Addr × Nat × Nat × Int × Int → Heap → Prop
  | (x_0, out_3b, out_3l, out_3c, t9, t10), h =>
    BIF (decide (t10 < t9)) (
    oL (cell h x_0) fun l4b l4l l4c =>
    IDXS l4b t10 l4l fun p5 =>
    oL (cell h (Addr.add x_0 1)) fun l6b l6l l6c =>
    IDXS l6b t10 l6l fun p7 =>
    ALC ⟨[.pointer (some ((Addr.add p5 ((Int.toNat t10) * 2)))), .pointer (some ((Addr.add p7 ((Int.toNat t10) * 2))))]⟩ T_p_impl_Ring (fun g8 h9 =>
    SEMV prg (Builtin.append_ #[T_sl_p_impl_Ring, T_sl_p_impl_Ring] T_sl_p_impl_Ring #[.slice out_3b out_3l out_3c, .slice (some ⟨g8, 0, none⟩) 2 2]) (fun q10 h11 =>
    asL q10 fun l12b l12l l12c =>
    N3 (x_0, l12b, l12l, l12c, t9, ((IntKind.i64.wrap (t10 + (1 : Int))))) h11) h9) h) (
    Post (.slice out_3b out_3l out_3c) h)
def p_impl_Pipe_rings.g3 (fr : Frame) : Addr × Option Addr × Nat × Nat × Int × Int := ((gP (lget fr 0)), (gLb (lget fr 3)), (gLl (lget fr 3)), (gLc (lget fr 3)), (gI (lget fr 9)), (gI (lget fr 10)))
def p_impl_Pipe_rings.l3 (Post : Value → Heap → Prop) : Frame → Heap → Prop := fun fr h => GRD (shape (kds 30 [(0, .p), (3, .l), (9, .i .i64), (10, .i .i64)]) fr) (LOOP (p_impl_Pipe_rings.B3 Post) (p_impl_Pipe_rings.g3 fr) h)
def p_impl_Pipe_rings.S (x_0 : Addr) (Post : Value → Heap → Prop) (h : Heap) : Prop :=
    oL (cell h x_0) fun l1b l1l l1c =>
    LOOP (p_impl_Pipe_rings.B3 Post) (x_0, none, 0, 0, (l1l : Int), (0 : Int)) h
noncomputable def p_impl_Pipe_rings.code : Code := (Tryz.f163.body).getD .skip
theorem p_impl_Pipe_rings.call {x_0 : Addr} {Post : Value → Heap → Prop} {h : Heap} (H : p_impl_Pipe_rings.S x_0 Post h) : CALL prg f_p_impl_Pipe_rings #[.pointer (some x_0)] Post h :=
  fn_call tau_ok mixed (c := p_impl_Pipe_rings.code) (Λ := lookL [(1000003, p_impl_Pipe_rings.l3 Post)]) Tryz.func163 (by kernel_rfl) (by kernel_rfl)
    (Rq.seq (by kernel_rfl) (Rq.free (by kernel_rfl)) (Rq.seq (by kernel_rfl) (Rq.free (by kernel_rfl)) (Rq.seq (by kernel_rfl) (Rq.seq (by kernel_rfl) (Rq.free (by kernel_rfl)) (Rq.block (Rq.loop (p_impl_Pipe_rings.l3 Post) (by kernel_rfl) (segL (g := p_impl_Pipe_rings.g3) tau_ok mixed (Λ := fun N3 => lookL []) (fun _ _ _ => by kernel_rfl) (fun N3 => (Rq.free (by kernel_rfl))))))) (Rq.free (by kernel_rfl)))))
    (Eq.mp (by kernel_rfl) H)

end Go.Sx
/- Bodies that are silent: the rule's and the program's. -/
set_option linter.unusedVariables false
set_option linter.unusedSimpArgs false
namespace Go.Sx
open Go.Proofs
set_option maxRecDepth 100000
set_option maxHeartbeats 1000000

/-- Pointers to rings, and the rings. -/
def PR (h : Heap) (ps : List Addr) (rs : List GRing) : Prop := ps.length = rs.length ∧ ∀ i, i < ps.length → RdP rRing h ps[i]! rs[i]! ∧ rs[i]!.ok = true
theorem PR.ext {h h' : Heap} {ps : List Addr} {rs : List GRing} (H : PR h ps rs) (x : Ext h h') : PR h' ps rs := ⟨H.1, fun i hi => ⟨(H.2 i hi).1.ext x, (H.2 i hi).2⟩⟩
theorem get_app {α : Type} [Inhabited α] {l m : List α} {i : Nat} : (l ++ m)[i]! = if i < l.length then l[i]! else m[i - l.length]! := by
  simp only [List.getElem!_eq_getElem?_getD]
  split
  · next h => rw [List.getElem?_append_left h]
  · next h => rw [List.getElem?_append_right (by omega)]
theorem PR.add2 {h : Heap} {ps : List Addr} {rs : List GRing} {p q : Addr} {r s : GRing} (H : PR h ps rs) (h1 : RdP rRing h p r) (o1 : r.ok = true) (h2 : RdP rRing h q s) (o2 : s.ok = true) : PR h (ps ++ [p, q]) (rs ++ [r, s]) := by
  obtain ⟨hl, H⟩ := H
  refine ⟨by simp [hl], fun i hi => ?_⟩
  rw [get_app, get_app, ← hl]
  by_cases h0 : i < ps.length
  · rw [if_pos h0, if_pos h0]; exact H i h0
  · rw [if_neg h0, if_neg h0]
    have hi' : i - ps.length = 0 ∨ i - ps.length = 1 := by simp only [List.length_append, List.length_cons, List.length_nil] at hi; omega
    rcases hi' with e | e
    · rw [e]; exact ⟨h1, o1⟩
    · rw [e]; exact ⟨h2, o2⟩
/-- The first n rings of both lists, by turns. -/
def twoR (a b : List GRing) : Nat → List GRing
  | 0 => []
  | n + 1 => twoR a b n ++ [a[n]!, b[n]!]
theorem twoR_len (a b : List GRing) : ∀ n, (twoR a b n).length = 2 * n
  | 0 => rfl
  | n + 1 => by rw [twoR, List.length_append, twoR_len a b n]; simp; omega
section
variable {h0 h : Heap} {q : Addr} {F : Fr} {L : List Blk} {y a : Nat}
theorem rP_c {x : GPipe} (R : RdP rPipe h q x) (Ru : x.Runs) : CALL prg f_p_impl_Pipe_rings #[.pointer (some q)] (fun u h' => ∃ b l c B ps, u = .slice b l c ∧ SlO T_p_impl_Ring rP B b l c ps ∧ Mem h h' B ∧ PR h ps (twoR x.Right x.Left x.Right.length)) h := by
  have n1 := Ru.n1
  have n3 := Ru.n3
  have nl := Ru.ll
  have hm : (7 : Nat) ≤ maxLen := by decide
  obtain ⟨v, e1, b4, l4, c4, e2, S4⟩ := R.cell lf_Pipe_0.f rfl
  obtain rfl : v = .slice b4 l4 c4 := by simpa using e2
  rw [add0] at e1
  obtain ⟨v, e3, b6, l6, c6, e2, S6⟩ := R.cell lf_Pipe_1.f rfl
  obtain rfl : v = .slice b6 l6 c6 := by simpa using e2
  have e4 : x.Right.length = l4 := S4.len
  have e6 : x.Left.length = l6 := S6.len
  refine p_impl_Pipe_rings.call (o_l e1 ?_)
  refine loop (fun y hh => ∃ (n : Nat) (b : Option Addr) (c : Nat) (B : List Blk) (ps : List Addr), y = (q, b, 2 * n, c, (l4 : Int), (n : Int)) ∧ n ≤ l4 ∧ SlO T_p_impl_Ring rP B b (2 * n) c ps ∧ Mem h hh B ∧ PR h ps (twoR x.Right x.Left n)) (fun y => (l4 - y.2.2.2.2.2).toNat)
    ⟨0, _, _, _, [], rfl, by omega, SlO.nil, Mem.start h, rfl, fun i hi => by simp at hi⟩ ?_
  rintro y hh ⟨n, b, c, B, ps, rfl, hn, O, M, H⟩
  refine brd (fun hc => ?_) fun hc => ?_
  · refine o_l (M.ext.cell e1) (S4.idx ring_sz (by omega) (by omega) fun p5 R5 => o_l (M.ext.cell e3) (S6.idx ring_sz (by omega) (by omega) fun p7 R7 => M.alc fun g h1 x1 M1 => ?_))
    rw [Int.toNat_natCast] at R5 R7
    have M2 : Mem h h1 (B ++ ([] ++ [(g, T_p_impl_Ring, ⟨[.pointer (some (p5.add (n * 2))), .pointer (some (p7.add (n * 2)))]⟩)])) := M1.cnt fun p => by simp only [Int.toNat_natCast, List.append_eq, cnt_app, cnt_cons, cnt_nil]; omega
    refine O.app (Bn := []) (news := [.pointer (some (p5.add (n * 2))), .pointer (some (p7.add (n * 2)))]) (ys := [p5.add (n * 2), p7.add (n * 2)]) E_sl_p_impl_Ring M2 rfl ⟨[], [], [_], [_], rfl, rfl, ⟨rfl, rfl⟩, [], [], [_], [], rfl, rfl, ⟨rfl, rfl⟩, rfl, rfl⟩ (fun j v hj => ?_) (by omega) (by omega) fun b' c' h' B' O' M' => as_l ?_
    · rw [add_none, Nat.zero_add, M1.cell .here, ← hj, List.getElem?_toArray]; rfl
    exact ⟨⟨n + 1, b', c', B', _, by rw [wrap64_succ (by omega)]; rfl, by omega, O', M'.cnt (fun p => by simp only [cnt_app, cnt_cons, cnt_nil]; omega), H.add2 R5 (Ru.r _ (mem_get (by omega))) R7 (Ru.l _ (mem_get (by omega)))⟩, by rw [wrap64_succ (by omega)]; show _ < _; simp; omega⟩
  · obtain rfl : n = l4 := by omega
    rw [e4]
    exact ⟨b, _, c, B, ps, rfl, O, M, H⟩
end
end Go.Sx
/- Voices moved on: the rule's and the program's. -/
set_option linter.unusedVariables false
set_option linter.unusedSimpArgs false
namespace Go.Sx
open Go.Proofs
set_option maxRecDepth 100000
set_option maxHeartbeats 1000000

def GVoice.sound (k : Int) (v : GVoice) : GVoice × Nat :=
  if k = 1 then ({ v with String := (v.String.step 0).1 }, (v.String.step 0).2)
  else if k = 2 then ({ v with Pipe := (v.Pipe.step v.Drive).1 }, (v.Pipe.step v.Drive).2)
  else ({ v with Bow := (v.Bow.step v.Drive).1 }, (v.Bow.step v.Drive).2)
def GVoice.quiet (k : Int) (v : GVoice) : Bool := if k = 1 then v.String.silent else if k = 2 then v.Pipe.silent else v.Bow.silent
def bodyRuns (k : Int) (v : GVoice) : Prop := if k = 1 then v.String.Loop.ok = true else if k = 2 then v.Pipe.Runs else v.Bow.ok = true
theorem bow_rings {x : GBow} (h : x.ok = true) : x.Neck.ok = true ∧ x.Bridge.ok = true := by
  unfold GBow.ok GRing.okf at h
  simp only [Bool.and_eq_true] at h
  exact ⟨h.1.1.1.1, h.1.1.2.1⟩
end Go.Sx
/- Finite numbers: what reads as a number is finite; one less a part of one. -/
set_option linter.unusedVariables false
set_option linter.unusedSimpArgs false
namespace Go.Sx
open Ieee

theorem word_fin (t : Bool) : feq .f32 (cn .f32 (FloatKind.f32.format.word t 0)) 0 = true := by cases t <;> decide +kernel
theorem sub_self_word {a m : Nat} {s : Bool} {e : Int} (h : FloatKind.f32.format.read a = .number s m e) : ∃ t, FloatKind.f32.format.sub a a = some (FloatKind.f32.format.word t 0) := by
  have hsum : ∃ t, (Datum.number s m e).sum (Datum.number s m e).opposite = some (.number t (signed s m (e - min e e).toNat + signed (!s) m (e - min e e).toNat).natAbs (min e e)) := ⟨_, rfl⟩
  obtain ⟨t, hsum⟩ := hsum
  have z : ∀ k, signed s m k + signed (!s) m k = 0 := fun k => by
    cases s
    · rw [signed_f]; show _ + signed true m k = 0; rw [signed_t]; omega
    · rw [signed_t]; show _ + signed false m k = 0; rw [signed_f]; omega
  rw [z] at hsum
  refine ⟨t, ?_⟩
  unfold Format.sub
  rw [h, hsum]
  exact congrArg some (nearest_zero _ _ _)
theorem fin_read {a m : Nat} {s : Bool} {e : Int} (h : FloatKind.f32.format.read a = .number s m e) : fin a = true := by
  obtain ⟨t, ht⟩ := sub_self_word h
  unfold fin fsub
  rw [ht, Option.getD_some]
  exact word_fin t
theorem inside_fin {a c d n k : Nat} {j i : Int} (hc : FloatKind.f32.format.read c = .number false n j) (hd : FloatKind.f32.format.read d = .number false k i) (h : inside a c d = true) : fin a = true := by
  obtain ⟨B, hB⟩ : ∃ B : Nat, 1100 ≤ B := ⟨1100, Nat.le_refl _⟩
  obtain ⟨s, m, e, hr, _⟩ := inside_read hB hc hd h
  exact fin_read hr
theorem rd_c0 : FloatKind.f32.format.read 0 = .number false 0 (-149) := by decide +kernel
theorem rd_c1 : FloatKind.f32.format.read 1065353216 = .number false (2 ^ 23) (-23) := by decide +kernel
theorem place_inside {k : Nat} (h : place k = true) : inside k 0 1065353216 = true := by
  unfold place at h
  unfold inside fle
  rw [Bool.and_eq_true] at *
  exact ⟨h.1, by rw [show (FloatKind.f32.format.order k 1065353216 == some .lt) = true from h.2]; rfl⟩
theorem one_sub {k : Nat} (h : place k = true) : fin (fsub .f32 1065353216 k) = true := by
  obtain ⟨B, hB⟩ : ∃ B : Nat, 1100 ≤ B := ⟨1100, Nat.le_refl _⟩
  obtain ⟨s', m', e', hr', hs', h1', h2'⟩ := inside_read hB rd_c0 rd_c1 (place_inside h)
  have v1 : sv B (2 ^ 23) (-23) = 2 ^ B := by unfold sv; rw [← Nat.pow_add]; congr 1; omega
  have hb2 := read_single k hr'
  have hm : ∃ m, m = (2 : Nat) ^ 23 := ⟨_, rfl⟩
  obtain ⟨m, hm⟩ := hm
  have hr := rd_c1
  rw [← hm] at hr v1 h2'
  have he : ∃ e : Int, e = -23 := ⟨_, rfl⟩
  obtain ⟨e, he⟩ := he
  rw [← he] at hr v1 h2'
  have hbase : ∃ b : Int, b = min e e' := ⟨_, rfl⟩
  obtain ⟨b, hbase⟩ := hbase
  have w1 : sv B m e = m * 2 ^ (e - b).toNat * 2 ^ (b + (B : Int)).toNat := by unfold sv; rw [Nat.mul_assoc, ← Nat.pow_add]; congr 2; omega
  have w2 : sv B m' e' = m' * 2 ^ (e' - b).toNat * 2 ^ (b + (B : Int)).toNat := by unfold sv; rw [Nat.mul_assoc, ← Nat.pow_add]; congr 2; omega
  have hneg : signed (!s') m' (e' - b).toNat = -((m' * 2 ^ (e' - b).toNat : Nat) : Int) := by
    cases s'
    · exact signed_t _ _
    · rw [hs' rfl, Nat.zero_mul]
      show signed false 0 _ = _
      rw [signed_f, Nat.zero_mul]; rfl
  have hT : ∃ T : Nat, m * 2 ^ (e - b).toNat = T + m' * 2 ^ (e' - b).toNat ∧ T * 2 ^ (b + (B : Int)).toNat ≤ 2 ^ B := by
    rw [w1, w2] at h2'
    rw [w1] at v1
    have hle := Nat.le_of_mul_le_mul_right h2' (Nat.two_pow_pos _)
    refine ⟨m * 2 ^ (e - b).toNat - m' * 2 ^ (e' - b).toNat, by omega, ?_⟩
    rw [← v1]
    exact Nat.mul_le_mul_right _ (Nat.sub_le _ _)
  obtain ⟨T, hT1, hT3⟩ := hT
  have hsum : ∃ t, (Datum.number false m e).sum (Datum.number s' m' e').opposite = some (.number t T b) := by
    have : ∃ t, (Datum.number false m e).sum (Datum.number s' m' e').opposite = some (.number t (signed false m (e - min e e').toNat + signed (!s') m' (e' - min e e').toNat).natAbs (min e e')) := ⟨_, rfl⟩
    obtain ⟨t, this⟩ := this
    refine ⟨t, ?_⟩
    rw [this, ← hbase, hneg, signed_f, hT1]
    have : ((T + m' * 2 ^ (e' - b).toNat : Nat) : Int) + -((m' * 2 ^ (e' - b).toNat : Nat) : Int) = (T : Int) := by push_cast; omega
    rw [this, Int.natAbs_natCast]
  obtain ⟨t, hsum⟩ := hsum
  have hsub : FloatKind.f32.format.sub 1065353216 k = some (FloatKind.f32.format.nearest t T b) := by
    unfold Format.sub
    rw [hr, hr', hsum]; rfl
  have hf : fsub .f32 1065353216 k = cn .f32 (FloatKind.f32.format.nearest t T b) := by
    unfold fsub
    rw [hsub, Option.getD_some]
  have fromR : ∀ {w n : Nat} {q : Int}, FloatKind.f32.format.read w = .number t n q → fin (cn .f32 w) = true := fun {w n q} hw => by
    rw [number_cn hw]; exact fin_read hw
  rw [hf]
  by_cases hT0 : T = 0
  · subst hT0
    rw [nearest_zero]
    exact fromR (zero32 t)
  obtain ⟨e1, e2, e3, e4⟩ := f32_consts
  have hle : VLE T b 0 := sv_vle hB hT0 (by omega) (by omega) (by rw [show ((0 : Int) + (B : Int)).toNat = B by omega]; exact hT3)
  obtain ⟨m2, p2, hr2, _⟩ := nearest_read FloatKind.f32.format t hT0 hle (by rw [e1, e2]; omega) (by rw [e1, e2, e3, e4]; decide)
  exact fromR hr2
end Go.Sx
/- Scores copied. -/
set_option linter.unusedVariables false
set_option linter.unusedSimpArgs false
namespace Go.Sx
open Go.Proofs
set_option maxRecDepth 100000
set_option maxHeartbeats 1000000

section
variable {h : Heap}
theorem score_small {s : GScore} (h : s.ok = true) : s.Tuning.Degrees.length ≤ 31 ∧ s.Instruments.length ≤ 6 ∧ s.Events.length ≤ 128 := by
  have G := score_ev h
  have g1 := G.even
  have g2 := G.most
  unfold GScore.ok at h
  simp only [Bool.and_eq_true, decide_eq_true_eq] at h
  have ht := h.1.1.2
  unfold GTuning.ok at ht
  simp only [Bool.and_eq_true, inR, decide_eq_true_eq] at ht
  exact ⟨by omega, h.1.2.1, by omega⟩
end
end Go.Sx
/- An event happens: the rule's and the program's. -/
set_option linter.unusedVariables false
set_option linter.unusedSimpArgs false
namespace Go.Sx
open Go.Proofs
set_option maxRecDepth 100000
set_option maxHeartbeats 2000000

def eldest (vs : List GVoice) : Nat → Nat
  | 0 => 0
  | i + 1 => if vs[i]!.Born < vs[eldest vs i]!.Born then i else eldest vs i
def isFreeV (v : GVoice) : Bool := v.Note == -1
def placeOf (vs : List GVoice) : Nat := if firstAt isFreeV vs = -1 then eldest vs vs.length else (firstAt isFreeV vs).toNat
theorem eldest_lt {vs : List GVoice} (h : 1 ≤ vs.length) : ∀ i, i ≤ vs.length → eldest vs i < vs.length
  | 0, _ => h
  | i + 1, hi => by
    unfold eldest
    split
    · omega
    · exact eldest_lt h i (by omega)
theorem placeOf_lt {vs : List GVoice} (h : 1 ≤ vs.length) : placeOf vs < vs.length := by
  unfold placeOf
  split
  · exact eldest_lt h _ (Nat.le_refl _)
  · next hf =>
    rcases first_cases isFreeV vs with ⟨e, _⟩ | ⟨n, hn, e, _⟩
    · exact absurd e hf
    · rw [e]; exact hn
def GScore.kind (s : GScore) (v : GVoice) : Int := s.Instruments[v.Instrument.toNat]!.Kind
def goneV (s : GScore) (v : GVoice) : GVoice := if s.kind v = 1 then { v with Gone := true, Drive := 0, String := { v.String with Loss := fmul .f32 v.String.Loss half } } else { v with Gone := true, Drive := 0 }
def stopV (s : GScore) (n : Int) (v : GVoice) : GVoice := if v.Note = n then goneV s v else v
def GPlayer.happen (p : GPlayer) (e : GEvent) : GPlayer :=
  if e.Kind = 2 then match voiceOf p.Score e with | some v => { p with Voices := p.Voices.set (placeOf p.Voices) v } | none => { p with Skipped := p.Skipped + 1 }
  else { p with Voices := p.Voices.map (stopV p.Score e.Note) }
/-- The event of a player that lies at a place. -/
def EvAt (h : Heap) (q e1 : Addr) (n : Nat) : Prop := ∃ a5 l5 c5, cell h (q.add 5) = some (.slice (some a5) l5 c5) ∧ e1 = a5.add (n * 6) ∧ n < l5
section
variable {h0 h : Heap} {q e1 : Addr} {F : Fr} {L : List Blk} {p : GPlayer} {n : Nat}
theorem EvAt.ext {h' : Heap} (E : EvAt h q e1 n) (x : Ext h h') : EvAt h' q e1 n := by
  obtain ⟨a5, l5, c5, e, r⟩ := E
  exact ⟨a5, l5, c5, x.cell e, r⟩
theorem EvAt.rd (P : Pt rPlayer h0 h q F L p) (E : EvAt h q e1 n) : RdP rEvent h e1 p.Score.Events[n]! := by
  obtain ⟨a5, l5, c5, e, rfl, hn⟩ := E
  have S := P.slr (off := 5) e
  obtain ⟨a, ha, R⟩ := S.elem (i := n) hn (by decide)
  cases ha
  exact R
end
end Go.Sx
/- An event happens: both walks. -/
set_option linter.unusedVariables false
set_option linter.unusedSimpArgs false
namespace Go.Sx
open Go.Proofs
set_option maxRecDepth 100000
set_option maxHeartbeats 2000000

section
variable {h0 h : Heap} {q e1 : Addr} {F : Fr} {L : List Blk} {p : GPlayer} {n : Nat} {e : GEvent}
theorem happen_start (hk : e.Kind = 2) : p.happen e = match voiceOf p.Score e with | some v => { p with Voices := p.Voices.set (placeOf p.Voices) v } | none => { p with Skipped := p.Skipped + 1 } := by unfold GPlayer.happen; rw [if_pos hk] <;> (cases voiceOf p.Score e <;> rfl)
theorem happen_stop (hk : ¬ e.Kind = 2) : p.happen e = { p with Voices := p.Voices.map (stopV p.Score e.Note) } := by unfold GPlayer.happen; rw [if_neg hk]
end
end Go.Sx
/- New players. -/
set_option linter.unusedVariables false
set_option linter.unusedSimpArgs false
namespace Go.Sx
open Go.Proofs
set_option maxRecDepth 100000
set_option maxHeartbeats 1000000

def freeV : GVoice := { z_Voice with Note := -1 }
end Go.Sx
/- Players that run: what a step asks for, and that it leaves it so. -/
set_option linter.unusedVariables false
set_option linter.unusedSimpArgs false
namespace Go.Sx
open Go.Proofs
set_option maxRecDepth 100000
set_option maxHeartbeats 1000000

def newV (s : GScore) (v : GVoice) : GVoice := if v.Note = -1 then v else if (v.Gone && (v.sound (s.kind v)).1.quiet (s.kind v)) = true then freeV else (v.sound (s.kind v)).1
def addV (s : GScore) (a : Nat) (v : GVoice) : Nat := if v.Note = -1 then a else fadd .f32 a (v.sound (s.kind v)).2
def GPlayer.sounded (p : GPlayer) : GPlayer × Nat := ({ p with Voices := p.Voices.map (newV p.Score), Now := p.Now + 1 }, clamp (p.Voices.foldl (addV p.Score) 0) one32)
def GPlayer.now1 (p : GPlayer) : Bool := decide (p.Next < p.Score.Events.length) && (p.Score.Events[p.Next.toNat]!.At == p.Now)
def GPlayer.next (p : GPlayer) : GPlayer := { p.happen p.Score.Events[p.Next.toNat]! with Next := p.Next + 1 }
def GPlayer.run : Nat → GPlayer → GPlayer
  | 0, p => p
  | k + 1, p => if p.now1 = true then GPlayer.run k p.next else p
def GPlayer.step (p : GPlayer) : GPlayer × Nat := (GPlayer.run (p.Score.Events.length - p.Next.toNat) p).sounded
/-- A voice of a note that has started, its body in order. -/
def VoiceRuns (s : GScore) (next : Int) (v : GVoice) : Prop := ∃ j : Nat, j < s.Events.length ∧ (j : Int) < next ∧ isSt s.Events[j]! = true ∧ s.Events[j]!.Note = v.Note ∧ s.Events[j]!.Instrument = v.Instrument ∧ bodyRuns (s.kind v) v
structure GPlayer.Runs (p : GPlayer) : Prop where
  s : p.Score.ok = true
  n1 : 1 ≤ p.Voices.length
  n6 : p.Voices.length ≤ 6
  nx : 0 ≤ p.Next ∧ p.Next ≤ p.Score.Events.length
  sk : 0 ≤ p.Skipped ∧ p.Skipped ≤ 64 + p.Next
  v : ∀ v ∈ p.Voices, v.Note = -1 ∨ VoiceRuns p.Score p.Next v
  d : ∀ i j, i < j → j < p.Voices.length → p.Voices[i]!.Note = p.Voices[j]!.Note → p.Voices[i]!.Note = -1
theorem VoiceRuns.note {s : GScore} {n : Int} {v : GVoice} (h : s.ok = true) (V : VoiceRuns s n v) : 0 ≤ v.Note := by
  obtain ⟨j, h1, h2, h3, h4, _⟩ := V
  rw [← h4]; exact ((score_ev h).note j h1).1
theorem get_set {α : Type} [Inhabited α] {l : List α} {k i : Nat} {x : α} (hi : i < l.length) : (l.set k x)[i]! = if k = i then x else l[i]! := by
  rw [getElem!_pos _ i (by rw [List.length_set]; exact hi), List.getElem_set, getElem!_pos l i hi]
/-- A new voice. -/
theorem newString_ok {x : GString} {pl f : Nat} (h : (x.pluck pl f).2 = 0) : (x.pluck pl f).1.Loop.ok = true := by
  unfold GString.pluck at *
  split at h
  · next hx =>
    rw [if_pos hx]
    split at h
    · next hp =>
      rw [if_pos hp]
      split at h
      · next hf =>
        rw [if_pos hf]
        have h1 : x.Loop.ok = true := by
          unfold GString.ok at hx
          simp only [Bool.and_eq_true] at hx
          exact hx.1.1.1
        unfold GRing.ok GRing.len at *
        show (inR (((x.plucked pl f).Loop.Samples.length : Nat) : Int) 1 1024 && inR (x.plucked pl f).Loop.At 0 ((((x.plucked pl f).Loop.Samples.length : Nat) : Int) - 1)) = true
        unfold GString.plucked
        dsimp only
        rw [chg_len, chg_at]
        exact h1
      · cases h
    · cases h
  · cases h
theorem newPipe_runs {n : Int} {op : Bool} {k l : Nat} (h : (newPipe n op k l).2 = 0) : (newPipe n op k l).1.Runs := by
  unfold newPipe pipeIf at *
  split at h
  · next hx =>
    rw [if_pos hx]
    rw [Bool.and_eq_true] at hx
    have hn := hx.2
    simp only [inR, Bool.and_eq_true, decide_eq_true_eq] at hn
    have hq : (quietR n).ok = true := by
      have e : (((quietR n).Samples.length : Nat) : Int) = n := by show (((List.replicate n.toNat 0).length : Nat) : Int) = n; rw [List.length_replicate]; omega
      unfold GRing.ok GRing.len inR
      rw [e]
      show (_ && (decide ((0 : Int) ≤ 0) && _)) = true
      simp only [Bool.and_eq_true, decide_eq_true_eq]
      exact ⟨⟨by omega, by omega⟩, by omega, by show (0 : Int) ≤ n - 1; omega⟩
    have hm : ∀ r ∈ [quietR n], r.ok = true := fun r hr => by
      rw [List.mem_singleton] at hr
      rw [hr]; exact hq
    exact ⟨Nat.le_refl _, by show 1 ≤ 3; omega, rfl, rfl, hm, hm⟩
  · cases h
theorem zeros_fin (n : Nat) : allFin (List.replicate n 0) = true := by
  unfold allFin
  rw [List.all_eq_true]
  intro x hx
  rw [List.eq_of_mem_replicate hx]
  exact fin_read rd_c0
theorem ring_okf {n : Int} (h1 : 1 ≤ n) (h2 : n ≤ 1024) : (⟨List.replicate n.toNat 0, 0⟩ : GRing).okf = true := by
  unfold GRing.okf
  rw [Bool.and_eq_true]
  refine ⟨?_, zeros_fin _⟩
  unfold GRing.ok GRing.len inR
  rw [show (((List.replicate n.toNat 0).length : Nat) : Int) = n by rw [List.length_replicate]; omega]
  simp only [Bool.and_eq_true, decide_eq_true_eq]
  exact ⟨⟨by omega, by omega⟩, by omega, by omega⟩
theorem onePole_ok {k : Nat} (h : place k = true) : ((onePole k).ok && (onePole k).Kind == 1) = true := by
  have f1 := one_sub h
  have f2 := inside_fin rd_c0 rd_c1 (place_inside h)
  have f0 := fin_read rd_c0
  unfold onePole GFilter.ok used usesC usesS inR
  simp only [List.length_cons, List.length_nil]
  simp [List.range_succ, f1, f2, f0]
theorem newBow_ok {p : Int} {k l s : Nat} (h : (newBow p k l s).2 = 0) : (newBow p k l s).1.ok = true := by
  unfold newBow at *
  split at h
  · next h1 =>
    split at h
    · next h2 =>
      split at h
      · next h3 =>
        split at h
        · next h4 =>
          rw [if_pos h1, if_pos h2, if_pos h3, if_pos h4]
          simp only [inR, Bool.and_eq_true, decide_eq_true_eq] at h1
          unfold GBow.ok
          simp only [Bool.and_eq_true]
          have hb : 1 ≤ bowN p ∧ bowN p ≤ p - 1 := by unfold bowN; split <;> omega
          have h5 := onePole_ok h2
          rw [Bool.and_eq_true] at h5
          refine ⟨⟨⟨ring_okf (by omega) (by omega), ring_okf (by omega) (by omega)⟩, h5⟩, h4, inside_fin rd_c0 rd_c1 h3⟩
        · cases h
      · cases h
    · cases h
  · cases h
theorem voice_new {s : GScore} {e : GEvent} {v : GVoice} (h : voiceOf s e = some v) : v.Note = e.Note ∧ v.Instrument = e.Instrument ∧ bodyRuns (s.kind v) v := by
  unfold voiceOf at h
  dsimp only at h
  have fin : ∀ {w : GVoice}, w.Note = e.Note → w.Instrument = e.Instrument → bodyRuns s.Instruments[e.Instrument.toNat]!.Kind w → w = v → v.Note = e.Note ∧ v.Instrument = e.Instrument ∧ bodyRuns (s.kind v) v := fun h1 h2 h3 e => by
    subst e
    refine ⟨h1, h2, ?_⟩
    unfold GScore.kind
    rw [h2]; exact h3
  split at h
  · split at h
    · next k1 =>
      split at h
      · split at h
        · next hp =>
          refine fin (by rfl) (by rfl) ?_ (Option.some.inj h)
          unfold bodyRuns
          rw [if_pos k1]
          exact newString_ok hp
        · cases h
      · cases h
    · next k1 =>
      split at h
      · next k2 =>
        split at h
        · next hp =>
          refine fin (by rfl) (by rfl) ?_ (Option.some.inj h)
          unfold bodyRuns
          rw [if_neg k1, if_pos k2]
          exact newPipe_runs hp
        · cases h
      · next k2 =>
        split at h
        · next hp =>
          refine fin (by rfl) (by rfl) ?_ (Option.some.inj h)
          unfold bodyRuns
          rw [if_neg k1, if_neg k2]
          exact newBow_ok hp
        · cases h
  · cases h
end Go.Sx
/- Silence stays: bows that are not drawn, jets that are not blown, rooms to which nothing comes. -/
set_option linter.unusedVariables false
set_option linter.unusedSimpArgs false
namespace Go.Sx
open Go.Proofs Ieee
set_option maxRecDepth 100000
set_option maxHeartbeats 1000000

def Z2 (a : Nat) : Prop := a = 0 ∨ a = 2147483648
theorem z0 : Z2 0 := .inl rfl
def GRing.nil (r : GRing) : Prop := ∀ a ∈ r.Samples, a = 0
/-- A filter of finite numbers at rest. -/
structure Rest (k : Int) (f : GFilter) : Prop where
  k : f.Kind = k
  c : ∀ i : Nat, fin f.C[i]! = true
  s : f.S = [0, 0]
def jetAt (p : Nat) : Nat := clamp (fmul .f32 p (fsub .f32 (fmul .f32 p p) 1065353216)) 1065353216
def GJet.ok (x : GJet) : Bool := x.Throat.okf && x.Bore.okf && (x.Low.ok && x.Low.Kind == 1) && (x.Dc.ok && x.Dc.Kind == 5) && (fin x.Near && fin x.Far)
def GJet.step (x : GJet) (a : Nat) : GJet × Nat :=
  let l := x.Low.step x.Bore.old
  let d := x.Dc.step l.2
  ({ x with Throat := x.Throat.push (kept (fsub .f32 a (fmul .f32 x.Near d.2))), Bore := x.Bore.push (kept (fadd .f32 (jetAt x.Throat.old) (fmul .f32 x.Far d.2))), Low := l.1, Dc := d.1 }, x.Bore.old)
def GJet.silent (x : GJet) : Bool := x.Throat.zero && x.Bore.zero && x.Low.still && x.Dc.still
end Go.Sx
/- What is told of rings, filters, strings, bows, jets and pipes, line by line. -/
set_option linter.unusedVariables false
set_option linter.unusedSimpArgs false
namespace Go.Sx
open Go.Proofs Go.RowKit
set_option maxRecDepth 100000
set_option maxHeartbeats 1000000

def GRing.line (r : GRing) : List UInt8 := ringL r.At.toNat r.Samples
def GFilter.line (f : GFilter) : List UInt8 := filtL f.Kind.toNat f.C f.S
/-- A word, and samples behind it. -/
def headL (w : List UInt8) (ns : List Nat) : List UInt8 := w ++ 32 :: smpL ns
structure RingB (r : GRing) : Prop where
  ne : r.Samples ≠ []
  bits : B32 r.Samples
  len : r.Samples.length ≤ 1024
  a0 : 0 ≤ r.At
  a1 : r.At ≤ 1024
theorem ring_b {r : GRing} (h : r.ok = true) (hb : B32 r.Samples) : RingB r := by
  unfold GRing.ok inR GRing.len at h
  simp only [Bool.and_eq_true, decide_eq_true_eq] at h
  obtain ⟨⟨h1, h2⟩, h3, h4⟩ := h
  refine ⟨fun e => ?_, hb, by omega, by omega, by omega⟩
  rw [e] at h1
  simp at h1
structure FiltB (f : GFilter) : Prop where
  k0 : 1 ≤ f.Kind
  k1 : f.Kind ≤ 5
  c3 : f.C.length = 3
  s2 : f.S.length = 2
  cb : B32 f.C
  sb : B32 f.S
theorem dec_le {n k : Nat} (h : n < 10 ^ (k + 1)) : (Lib.decDigits n).length ≤ k + 1 := by
  rw [Lib.decDigits_length]
  exact nDig_le k _ h
theorem RingB.cut {r : GRing} (h : RingB r) : cutL 32 r.line = Lib.decDigits r.Samples.length :: Lib.decDigits r.At.toNat :: r.Samples.map bitL := ring_cut h.bits h.ne
theorem RingB.mem {r : GRing} (h : RingB r) : ∀ b ∈ r.line, b ≠ 10 := ring_mem h.bits
theorem RingB.size {r : GRing} (h : RingB r) : r.line.length ≤ 9300 := by
  have h1 := dec_le (n := r.Samples.length) (k := 9) (by have := h.len; omega)
  have h2 := dec_le (n := r.At.toNat) (k := 9) (by have := h.a1; omega)
  have h3 := smp_le h.bits
  have := h.len
  unfold GRing.line ringL
  simp only [List.length_append, List.length_cons]
  omega
theorem FiltB.cut {f : GFilter} (h : FiltB f) : cutL 32 f.line = fwL :: Lib.decDigits f.Kind.toNat :: (f.C ++ f.S).map bitL :=
  filt_cut h.cb h.sb (fun e => by have := h.c3; rw [e] at this; simp at this) (fun e => by have := h.s2; rw [e] at this; simp at this)
theorem FiltB.mem {f : GFilter} (h : FiltB f) : ∀ b ∈ f.line, b ≠ 10 := filt_mem h.cb h.sb
theorem FiltB.size {f : GFilter} (h : FiltB f) : f.line.length ≤ 80 := by
  have h1 := dec_le (n := f.Kind.toNat) (k := 1) (by have := h.k1; omega)
  have h2 := smp_le h.cb
  have h3 := smp_le h.sb
  have := h.c3
  have := h.s2
  have e : fwL.length = 6 := rfl
  unfold GFilter.line filtL
  simp only [List.length_append, List.length_cons]
  omega
theorem head_mem {w : List UInt8} {ns : List Nat} (hw : ∀ b ∈ w, b ≠ 10) (h : B32 ns) : ∀ b ∈ headL w ns, b ≠ 10 := by
  intro b hb
  unfold headL at hb
  simp only [List.mem_append, List.mem_cons] at hb
  rcases hb with hb | rfl | hb
  · exact hw b hb
  · decide
  · exact smp_mem h b hb
theorem head_size {w : List UInt8} {ns : List Nat} (h : B32 ns) : (headL w ns).length ≤ w.length + 1 + 9 * ns.length := by
  have := smp_le h
  unfold headL
  simp only [List.length_append, List.length_cons]
  omega
theorem lin_size {k : Nat} : ∀ {ls : List (List UInt8)}, (∀ l ∈ ls, l.length ≤ k) → (linL ls).length ≤ (k + 1) * ls.length
  | [], _ => Nat.le_refl _
  | l :: r, h => by
    have h1 := h l (List.mem_cons_self ..)
    have h2 := lin_size fun x hx => h x (List.mem_cons_of_mem (a := x) l hx)
    rw [linL, List.length_append, List.length_cons, List.length_cons, Nat.mul_succ]
    omega
def jetW : List UInt8 := [106, 101, 116]
def bowW : List UInt8 := [98, 111, 119]
def GJet.lines (x : GJet) : List (List UInt8) := [headL jetW [x.Near, x.Far], x.Low.line, x.Dc.line, x.Throat.line, x.Bore.line]
def GBow.lines (x : GBow) : List (List UInt8) := [headL bowW [x.Slope, x.Loss], x.Damp.line, x.Neck.line, x.Bridge.line]
structure JetB (x : GJet) : Prop where
  t : RingB x.Throat
  b : RingB x.Bore
  l : FiltB x.Low
  d : FiltB x.Dc
  n : B32 [x.Near, x.Far]
structure BowB (x : GBow) : Prop where
  n : RingB x.Neck
  b : RingB x.Bridge
  d : FiltB x.Damp
  s : B32 [x.Slope, x.Loss]
theorem JetB.mem {x : GJet} (h : JetB x) : ∀ l ∈ x.lines, ∀ b ∈ l, b ≠ 10 := by
  intro l hl
  simp only [GJet.lines, List.mem_cons, List.not_mem_nil, or_false] at hl
  rcases hl with rfl | rfl | rfl | rfl | rfl
  · exact head_mem (by decide) h.n
  · exact h.l.mem
  · exact h.d.mem
  · exact h.t.mem
  · exact h.b.mem
theorem JetB.cut {x : GJet} (h : JetB x) : cutL 10 (linL x.lines) = x.lines ++ [[]] := lin_cut h.mem
theorem JetB.size {x : GJet} (h : JetB x) : (linL x.lines).length ≤ 46505 := by
  refine lin_size (k := 9300) fun l hl => ?_
  simp only [GJet.lines, List.mem_cons, List.not_mem_nil, or_false] at hl
  rcases hl with rfl | rfl | rfl | rfl | rfl
  · exact Nat.le_trans (head_size h.n) (show 3 + 1 + 9 * 2 ≤ 9300 by decide)
  · exact Nat.le_trans h.l.size (by decide)
  · exact Nat.le_trans h.d.size (by decide)
  · exact h.t.size
  · exact h.b.size
theorem BowB.mem {x : GBow} (h : BowB x) : ∀ l ∈ x.lines, ∀ b ∈ l, b ≠ 10 := by
  intro l hl
  simp only [GBow.lines, List.mem_cons, List.not_mem_nil, or_false] at hl
  rcases hl with rfl | rfl | rfl | rfl
  · exact head_mem (by decide) h.s
  · exact h.d.mem
  · exact h.n.mem
  · exact h.b.mem
theorem BowB.cut {x : GBow} (h : BowB x) : cutL 10 (linL x.lines) = x.lines ++ [[]] := lin_cut h.mem
theorem BowB.size {x : GBow} (h : BowB x) : (linL x.lines).length ≤ 37204 := by
  refine lin_size (k := 9300) fun l hl => ?_
  simp only [GBow.lines, List.mem_cons, List.not_mem_nil, or_false] at hl
  rcases hl with rfl | rfl | rfl | rfl
  · exact Nat.le_trans (head_size h.s) (show 3 + 1 + 9 * 2 ≤ 9300 by decide)
  · exact Nat.le_trans h.d.size (by decide)
  · exact h.n.size
  · exact h.b.size
end Go.Sx
