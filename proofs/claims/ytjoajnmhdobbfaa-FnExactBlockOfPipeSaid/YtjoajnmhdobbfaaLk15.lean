/- A pipe's step, as the rule makes it. -/
import Derived.Test.YtjoajnmhdobbfaaLk14
set_option linter.unusedVariables false
set_option linter.unusedSimpArgs false
namespace Go.Sx
open Go.Proofs
set_option maxRecDepth 100000
set_option maxHeartbeats 1000000

/-- What a step of a pipe asks for. -/
structure GPipe.Runs (x : GPipe) : Prop where
  n1 : 1 ≤ x.Right.length
  n3 : x.Right.length ≤ 3
  ll : x.Left.length = x.Right.length
  sl : x.Scatter.length + 1 = x.Right.length
  r : ∀ r ∈ x.Right, r.ok = true
  l : ∀ r ∈ x.Left, r.ok = true
theorem pipe_runs {x : GPipe} (h : x.ok = true) : x.Runs := by
  obtain ⟨h1, h2, h3, h4, h5, h6⟩ := pipe_split h
  exact ⟨h1, h2, h3, h4, fun r hr => (okf_small h5 r hr).1, fun r hr => (okf_small h6 r hr).1⟩
theorem map_get {α β : Type} [Inhabited α] [Inhabited β] {f : α → β} {l : List α} {i : Nat} (h : i < l.length) : (l.map f)[i]! = f l[i]! := by
  rw [getElem!_pos _ i (by rw [List.length_map]; exact h), List.getElem_map, getElem!_pos l i h]
theorem rt_mem {x : GPipe} (R : x.Runs) (b : Nat) : ∀ r ∈ (List.range x.n).map (x.rt b), r.ok = true := fun r hr => by
  obtain ⟨i, hi, rfl⟩ := List.mem_map.1 hr
  exact (push_ok (R.r _ (mem_get (List.mem_range.1 hi)))).1
theorem lf_mem {x : GPipe} (R : x.Runs) : ∀ r ∈ (List.range x.n).map x.lf, r.ok = true := fun r hr => by
  obtain ⟨i, hi, rfl⟩ := List.mem_map.1 hr
  exact (push_ok (R.l _ (mem_get (by have := R.ll; have := List.mem_range.1 hi; unfold GPipe.n at this; omega)))).1
theorem pstep_runs {x : GPipe} (R : x.Runs) (b : Nat) : (x.step b).1.Runs := by
  have h1 := R.n1
  have h3 := R.n3
  have hl := R.ll
  have hs := R.sl
  exact ⟨by simpa [GPipe.step, GPipe.n] using h1, by simpa [GPipe.step, GPipe.n] using h3, by simp [GPipe.step], by simpa [GPipe.step, GPipe.n] using hs, rt_mem R b, lf_mem R⟩
theorem pplay_runs {x : GPipe} (R : x.Runs) : ∀ l : List Nat, (x.play l).1.Runs
  | [] => R
  | a :: l => by
    induction l generalizing x a with
    | nil => exact pstep_runs R a
    | cons b l ih => exact ih (pstep_runs R a) b
theorem pplay_append (x : GPipe) (l : List Nat) (a : Nat) : x.play (l ++ [a]) = (((x.play l).1.step a).1, (x.play l).2 ++ [((x.play l).1.step a).2]) := by
  induction l generalizing x with
  | nil => rfl
  | cons b l ih => rw [List.cons_append]; simp only [GPipe.play]; rw [ih]; rfl
/-- A pipe within a step: the first i rings that run right and j that run left are moved. -/
def GPipe.at (x : GPipe) (b i j : Nat) (e : GFilter) : GPipe := { x with Right := mapI (x.rt b) x.Right i, Left := mapI x.lf x.Left j, End := e }
theorem at_zero (x : GPipe) (b : Nat) : x.at b 0 0 x.End = x := by unfold GPipe.at; rw [mapI_zero, mapI_zero]
theorem pstep_eq {x : GPipe} (R : x.Runs) (b : Nat) : x.step b = (x.at b x.Right.length x.Right.length x.e.1, x.e.2) := by
  unfold GPipe.at GPipe.step
  rw [mapI_all (Nat.le_refl _), mapI_all (by rw [R.ll]; exact Nat.le_refl _), R.ll]
  rfl
theorem rt_zero (x : GPipe) (b : Nat) : x.rt b 0 = x.Right[0]!.push (kept (fadd .f32 b (fmul .f32 (x.d b) (x.reed (x.d b))))) := by simp [GPipe.rt]
theorem rt_succ (x : GPipe) (b i : Nat) : x.rt b (i + 1) = x.Right[i + 1]!.push (kept (fadd .f32 x.Right[i]!.old (x.t i))) := by simp [GPipe.rt]
theorem lf_lt {x : GPipe} {i : Nat} (h : i + 1 < x.Right.length) : x.lf i = x.Left[i]!.push (kept (fadd .f32 x.Left[i + 1]!.old (x.t i))) := by
  unfold GPipe.lf GPipe.n
  rw [if_neg (by omega)]
theorem lf_last {x : GPipe} : x.lf (x.Right.length - 1) = x.Left[x.Right.length - 1]!.push (kept x.back) := by
  unfold GPipe.lf GPipe.n
  rw [if_pos rfl]
section
variable {h0 h : Heap} {q : Addr} {F : Fr} {L : List Blk} {x : GPipe} {b i j l c : Nat} {e : GFilter} {bb : Option Addr}
theorem SlR.idx0 {α : Type} [Inhabited α] {r : Rep α} {xs : List α} {K : Addr → Prop} (S : SlR r h bb l c xs) (hz : 0 < r.sz) (h2 : 0 < l) (H : ∀ a, RdP r h a xs[0]! → K a) : IDXS bb 0 l K :=
  S.idx hz (by omega) (by omega) fun a Ra => H a (by
    have : RdP r h (a.add (0 * r.sz)) xs[0]! := Ra
    rwa [Nat.zero_mul, add0] at this)
theorem Pt.hd (P : Pt rPipe h0 h q F L x) : ∃ bb l c, cell h q = some (.slice bb l c) ∧ x.Right.length = l := by
  obtain ⟨b, l, c, e, S⟩ := P.hdr1 (e := T_impl_Ring) (s := rRing)
  exact ⟨b, l, c, e, S.len⟩
theorem Pt.hdl (P : Pt rPipe h0 h q F L x) : ∃ bb l c, cell h (q.add 1) = some (.slice bb l c) ∧ x.Left.length = l := by
  obtain ⟨b, l, c, e, S⟩ := P.hdr (off := 1) (e := T_impl_Ring) (s := rRing)
  exact ⟨b, l, c, e, S.len⟩
theorem pushR (P : Pt rPipe h0 h q F L (x.at b i j e)) (R : x.Runs) (hi : i < x.Right.length) (hb : cell h q = some (.slice bb l c)) (hl : (x.at b i j e).Right.length = l) :
    ∃ a0 F' L', bb = some a0 ∧ i < l ∧ Pt rRing h0 h (a0.add (i * rRing.sz)) F' L' x.Right[i]! ∧ x.Right[i]!.ok = true ∧
      ∀ h0' h', Pt rRing h0' h' (a0.add (i * rRing.sz)) F' L' (x.rt b i) → Pt rPipe h0' h' q F L (x.at b (i + 1) j e) ∧ ∀ k, cell h' (q.add k) = cell h (q.add k) := by
  have hl : x.Right.length = l := by rw [← hl]; unfold GPipe.at; rw [mapI_len]
  obtain ⟨a0, F', L', eb, P', hs, close⟩ := P.elemK1 (e := T_impl_Ring) (s := rRing) (i := i) hb (by omega)
  have P' : Pt rRing h0 h (a0.add (i * rRing.sz)) F' L' (mapI (x.rt b) x.Right i)[i]! := P'
  rw [mapI_ge hi (Nat.le_refl _)] at P'
  refine ⟨a0, F', L', eb, by omega, P', R.r _ (mem_get hi), fun h0' h' P2 => ?_⟩
  obtain ⟨P3, hk⟩ := close _ _ _ P2
  have P3 : Pt rPipe h0' h' q F L { x.at b i j e with Right := (mapI (x.rt b) x.Right i).set i (x.rt b i) } := P3
  rw [mapI_set hi] at P3
  exact ⟨P3, hk⟩
theorem pushL (P : Pt rPipe h0 h q F L (x.at b i j e)) (R : x.Runs) (hi : j < x.Right.length) (hb : cell h (q.add 1) = some (.slice bb l c)) (hl : (x.at b i j e).Left.length = l) :
    ∃ a0 F' L', bb = some a0 ∧ j < l ∧ Pt rRing h0 h (a0.add (j * rRing.sz)) F' L' x.Left[j]! ∧ x.Left[j]!.ok = true ∧
      ∀ h0' h', Pt rRing h0' h' (a0.add (j * rRing.sz)) F' L' (x.lf j) → Pt rPipe h0' h' q F L (x.at b i (j + 1) e) ∧ ∀ k, cell h' (q.add k) = cell h (q.add k) := by
  have hl : x.Left.length = l := by rw [← hl]; unfold GPipe.at; rw [mapI_len]
  have hi : j < x.Left.length := by rw [R.ll]; exact hi
  obtain ⟨a0, F', L', eb, P', hs, close⟩ := P.elemK (off := 1) (e := T_impl_Ring) (s := rRing) (i := j) hb (by omega)
  have P' : Pt rRing h0 h (a0.add (j * rRing.sz)) F' L' (mapI x.lf x.Left j)[j]! := P'
  rw [mapI_ge hi (Nat.le_refl _)] at P'
  refine ⟨a0, F', L', eb, by omega, P', R.l _ (mem_get hi), fun h0' h' P2 => ?_⟩
  obtain ⟨P3, hk⟩ := close _ _ _ P2
  have P3 : Pt rPipe h0' h' q F L { x.at b i j e with Left := (mapI x.lf x.Left j).set j (x.lf j) } := P3
  rw [mapI_set hi] at P3
  exact ⟨P3, hk⟩
/-- What a step of a pipe leaves. -/
def PiStep (h0 h' : Heap) (q : Addr) (F : Fr) (L : List Blk) (x : GPipe) (a : Nat) (u : Value) : Prop := (∃ y, u = .float .f32 y ∧ FW .f32 y (x.step a).2) ∧ Pt rPipe h0 h' q F L (x.step a).1
theorem PiStep.of {y : Nat} (R : x.Runs) (hy : FW .f32 y x.e.2) (P : Pt rPipe h0 h q F L (x.at b x.Right.length x.Right.length x.e.1)) : PiStep h0 h q F L x b (.float .f32 y) := by
  unfold PiStep
  rw [pstep_eq R b]
  exact ⟨⟨y, rfl, hy⟩, P⟩
theorem last_i {n : Nat} (h1 : 1 ≤ n) (h2 : n < 9223372036854775808) : IntKind.i64.wrap ((n : Int) - 1) = ((n - 1 : Nat) : Int) := by
  rw [wrap64 (by omega) (by omega)]; omega
theorem step_J16 {y w : Nat} (P : Pt rPipe h0 h q F L (x.at b x.Right.length (x.Right.length - 1) x.e.1)) (R : x.Runs) (hy : FW .f32 y x.e.2) (hw : FW .f32 w x.back) :
    spec_l04Step.J16 (fun u h' => PiStep h0 h' q F L x b u) q (x.Right.length : Int) y w h := by
  have n1 := R.n1
  have n3 := R.n3
  unfold spec_l04Step.J16
  rw [last_i n1 (by omega)]
  obtain ⟨bb, l, c, eb, el⟩ := P.hdl
  refine o_l eb ?_
  obtain ⟨a0, F', L', rfl, hi, P', ok, close⟩ := pushL P R (by omega) eb el
  refine idxs (by omega) (by omega) ((l02Kept_c hw).go fun h1 z x1 hz => as_f (P.rd.pinO (off := 1) (n := 1) (by decide) x1 ?_))
  refine (l02Push_c (P'.grow x1) ok hz).mono ?_
  rintro _ h2 ⟨⟨_, rfl, _⟩, P2⟩
  rw [← lf_last] at P2
  obtain ⟨P, _⟩ := close _ _ P2
  rw [show x.Right.length - 1 + 1 = x.Right.length by omega] at P
  exact as_f (PiStep.of R hy P)
theorem l04Step_c {w : Nat} (P : Pt rPipe h0 h q F L x) (R : x.Runs) (hx : FW .f32 w b) : CALL prg f_spec_l04Step #[.pointer (some q), .float .f32 w] (fun u h' => PiStep h0 h' q F L x b u) h := by
  have n1 := R.n1
  have n3 := R.n3
  have nl := R.ll
  have ns := R.sl
  refine spec_l04Step.call (P.rd.oL1 fun b1 l1 c1 S1 => P.rd.oL1 fun b2 l2 c2 S2 => ?_)
  have e1 := S1.len
  have e2 := S2.len
  refine (l04Oldest_c S2 R.r (by omega)).mono ?_
  rintro _ h3 ⟨rb, cr, Br, rfl, Or, N⟩
  have P := P.join N
  refine as_l (P.rd.oL fun b4 l4 c4 S4 => (l04Oldest_c S4 R.l (by have := S4.len; omega)).mono ?_)
  rintro _ h5 ⟨bl, cl, Bl, rfl, Ol, N⟩
  have e4 := S4.len
  have P := P.join N
  have lookr : ∀ {h' : Heap} {y : GPipe}, Pt rPipe h0 h' q F (Bl ++ (Br ++ L)) y → SlR (rF .f32) h' rb l2 cr (x.Right.map GRing.old) := fun P => Or.look P.mem ((List.sublist_append_left _ _).trans (List.sublist_append_right _ _))
  have lookl : ∀ {h' : Heap} {y : GPipe}, Pt rPipe h0 h' q F (Bl ++ (Br ++ L)) y → SlR (rF .f32) h' bl l4 cl (x.Left.map GRing.old) := fun P => Ol.look P.mem (List.sublist_append_left _ _)
  refine as_l ((lookl P).idx0 (by decide) (by omega) fun p Rp => Rp.oF1 fun y hy => fS hy hx fun d hd => ?_)
  rw [map_get (by omega)] at hd
  have hd : FW .f32 d (x.d b) := hd
  rw [← at_zero x b] at P
  obtain ⟨bb, l, c, eb, el⟩ := P.hd
  refine o_l eb ?_
  obtain ⟨a0, F', L', rfl, hi, P', ok, close⟩ := pushR P R (by omega) eb el
  rw [Nat.zero_mul, add0] at P' close
  refine idxs (by omega) (by omega) (P.rd.oF fun y1 k1 => P.rd.oF fun y2 k2 => (l04Reed_c k1 k2 hd).go fun h7 y3 x7 k3 => as_f (P.rd.pin0 (by decide) x7 (fM hd k3 fun w1 j1 => P.rd.pin0 (by decide) x7 (fA hx j1 fun w2 j2 => P.rd.pin0 (by decide) x7 ((l02Kept_c j2).go fun h8 y4 x8 k4 => as_f (P.rd.pin0 (by decide) (x7.trans x8) ?_))))))
  refine (l02Push_c (P'.grow (x7.trans x8)) ok k4).mono ?_
  rintro _ h9 ⟨⟨_, rfl, _⟩, P2⟩
  have P2 : Pt rRing h0 h9 a0 F' L' (x.rt b 0) := by rw [rt_zero]; exact P2
  obtain ⟨P, _⟩ := close _ _ P2
  clear P2 P' close ok eb el hi
  refine as_f ?_
  refine loop (fun y hh => ∃ n : Nat, y = (q, (l1 : Int), rb, l2, cr, bl, l4, cl, (n : Int)) ∧ n + 1 ≤ l1 ∧ Pt rPipe h0 hh q F (Bl ++ (Br ++ L)) (x.at b (n + 1) n x.End)) (fun y => (l1 - y.2.2.2.2.2.2.2.2).toNat) ⟨0, rfl, by omega, P⟩ ?_
  rintro y hh ⟨n, rfl, hn, P⟩
  rw [spec_l04Step.B7, wrap64_succ (n := n) (by omega)]
  refine brd (fun hc => ?_) fun hc => ?_
  · have hS : x.Scatter.length + 1 = l1 := by omega
    refine P.rd.oL fun b3 l3 c3 S3 => ?_
    have e3 : x.Scatter.length = l3 := S3.len
    refine S3.idx (by decide) (by omega) (by omega) fun p Rp => Rp.oF1 fun y1 k1 => (lookr P).idx (by decide) (by omega) (by omega) fun p Rp => Rp.oF1 fun y2 k2 => (lookl P).idx (by decide) (by omega) (by omega) fun p Rp => Rp.oF1 fun y3 k3 => ?_
    rw [Int.toNat_natCast, map_get (by omega)] at k2 k3
    have k1 : FW .f32 y1 x.Scatter[n]! := k1
    refine fS k2 k3 fun w1 j1 => pin_same (pin_same (fM k1 j1 fun t ht => ?_))
    have ht : FW .f32 t (x.t n) := ht
    obtain ⟨bb, l, c, eb, el⟩ := P.hd
    refine o_l eb ?_
    obtain ⟨a0, F', L', rfl, hi, P', ok, close⟩ := pushR P R (by omega) eb el
    refine idxs (by omega) (by omega) ((lookr P).idx (by decide) (by omega) (by omega) fun p Rp => Rp.oF1 fun y4 k4 => ?_)
    rw [Int.toNat_natCast, map_get (by omega)] at k4
    refine fA k4 ht fun w2 j2 => pin_same ((l02Kept_c j2).go fun h1 y5 x1 k5 => as_f (P.rd.pin0 (by decide) x1 ?_))
    refine (l02Push_c (P'.grow x1) ok k5).mono ?_
    rintro _ h2 ⟨⟨_, rfl, _⟩, P2⟩
    rw [← rt_succ] at P2
    obtain ⟨P, _⟩ := close _ _ P2
    clear P2 P' close ok eb el hi
    obtain ⟨bb, l, c, eb, el⟩ := P.hdl
    refine as_f (o_l eb ?_)
    obtain ⟨a0, F', L', rfl, hi, P', ok, close⟩ := pushL P R (by omega) eb el
    refine idxs (by omega) (by omega) ((lookl P).idx (by decide) (by omega) (by omega) fun p Rp => Rp.oF1 fun y6 k6 => ?_)
    rw [Int.toNat_natCast, map_get (by omega)] at k6
    refine fA k6 ht fun w3 j3 => pin_same ((l02Kept_c j3).go fun h1 y7 x1 k7 => as_f (P.rd.pinO (off := 1) (n := 1) (by decide) x1 ?_))
    refine (l02Push_c (P'.grow x1) ok k7).mono ?_
    rintro _ h3 ⟨⟨_, rfl, _⟩, P2⟩
    rw [← lf_lt (by omega)] at P2
    obtain ⟨P, _⟩ := close _ _ P2
    exact as_f ⟨⟨n + 1, rfl, by omega, P⟩, by show _ < _; simp; omega⟩
  · obtain rfl : l1 = n + 1 := by omega
    rw [last_i (by omega) (by omega)]
    refine (lookr P).idx (by decide) (by omega) (by omega) fun p Rp => Rp.oF1 fun y1 k1 => ?_
    rw [Int.toNat_natCast, map_get (by omega)] at k1
    obtain ⟨F', L', P', hs, close⟩ := P.foc foc_Pipe_End
    refine (l02Step_c P' k1).mono ?_
    rintro _ h1 ⟨⟨y, rfl, hy⟩, P2⟩
    have P := close _ _ _ P2
    have ee : x.e = x.End.step x.Right[n + 1 - 1]!.old := by unfold GPipe.e GPipe.n; rw [e1]
    have P : Pt rPipe h0 h1 q F (Bl ++ (Br ++ L)) (x.at b x.Right.length (x.Right.length - 1) x.e.1) := by rw [ee, e1]; exact P
    have hy : FW .f32 y x.e.2 := by rw [ee]; exact hy
    have P := P.sub (L2 := L) ((List.sublist_append_right _ _).trans (List.sublist_append_right _ _))
    refine as_f (P.rd.oF fun y2 k2 => fM k2 hy fun w1 j1 => P.rd.oB (br (fun hb => ?_) fun hb => ?_))
    · have hb : x.Open = true := hb
      rw [show ((n + 1 : Nat) : Int) = (x.Right.length : Int) by rw [e1]]
      refine step_J16 P R hy ?_
      unfold GPipe.back
      rw [hb]; exact fw_neg j1
    · have hb : x.Open = false := hb
      rw [show ((n + 1 : Nat) : Int) = (x.Right.length : Int) by rw [e1]]
      refine step_J16 P R hy ?_
      unfold GPipe.back
      rw [hb]; exact j1
end
end Go.Sx
