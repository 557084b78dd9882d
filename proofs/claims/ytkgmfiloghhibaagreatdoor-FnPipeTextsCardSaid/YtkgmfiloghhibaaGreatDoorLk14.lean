/- Pipes copied. -/
import Derived.Test.YtkgmfiloghhibaaGreatDoorLk10
set_option linter.unusedVariables false
set_option linter.unusedSimpArgs false
namespace Go.Sx
open Go.Proofs
set_option maxRecDepth 100000
set_option maxHeartbeats 1000000

/-- All rings of a pipe are of a size that can be copied. -/
structure GPipe.small (x : GPipe) : Prop where
  r : ∀ r ∈ x.Right, r.Samples.length ≤ 1048576
  l : ∀ r ∈ x.Left, r.Samples.length ≤ 1048576
  nr : x.Right.length ≤ 1048576
  nl : x.Left.length ≤ 1048576
  ns : x.Scatter.length ≤ 1048576
theorem okf_small {l : List GRing} (h : l.all GRing.okf = true) : ∀ r ∈ l, r.ok = true ∧ r.Samples.length ≤ 1048576 := fun r hr => by
  have := List.all_eq_true.1 h r hr
  unfold GRing.okf at this
  rw [Bool.and_eq_true] at this
  have k := at_lt this.1
  exact ⟨this.1, by omega⟩
theorem pipe_split {x : GPipe} (h : x.ok = true) : 1 ≤ x.Right.length ∧ x.Right.length ≤ 3 ∧ x.Left.length = x.Right.length ∧ x.Scatter.length + 1 = x.Right.length ∧ x.Right.all GRing.okf = true ∧ x.Left.all GRing.okf = true := by
  rw [pipe_ok] at h
  unfold inR GPipe.n at h
  simp only [Bool.and_eq_true, decide_eq_true_eq] at h
  obtain ⟨⟨⟨⟨⟨⟨⟨⟨⟨⟨⟨h1, h2⟩, h3⟩, h4⟩, h5⟩, _⟩, _⟩, _⟩, _⟩, _⟩, _⟩, _⟩ := h
  exact ⟨by omega, by omega, h2, h3, h4, h5⟩
theorem pipe_small {x : GPipe} (h : x.ok = true) : x.small := by
  obtain ⟨h1, h2, h3, h4, h5, h6⟩ := pipe_split h
  exact ⟨fun r hr => (okf_small h5 r hr).2, fun r hr => (okf_small h6 r hr).2, by omega, by omega, by omega⟩
section
variable {h : Heap} {q : Addr} {x : GPipe}
theorem l04Copy_c (R : RdP rPipe h q x) (hs : x.small) : CALL prg f_spec_l04Copy #[.pointer (some q)] (fun u h' => NewR rPipe h h' u x) h := by
  refine spec_l04Copy.call ((Mem.start h).alc fun g1 h2 x2 M0 => ?_)
  have R2 := R.ext x2
  refine R2.oL1 fun b1 l1 c1 S1 => R2.oL fun b2 l2 c2 S2 => R2.oL fun b3 l3 c3 S3 => R2.lda foc_Pipe_End rfl fun cE RE => R2.oB (R2.oF fun y1 k1 => R2.oF fun y2 k2 => R2.oF fun y3 k3 => ?_)
  have n1 := S1.len
  have n2 := S2.len
  have n3 := S3.len
  have m1 := hs.nr
  have m2 := hs.nl
  have m3 := hs.ns
  have m1' : l1 ≤ 1048576 := by omega
  have m2' : l2 ≤ 1048576 := by omega
  have m3' : l3 * 4 ≤ 140737488355328 := by omega
  have hr := hs.r
  have hl := hs.l
  have sE : cE.size = 6 := rsz RE rfl
  have fE : rFilter.ow [] cE.toList x.End := flat_via (flat_seq (flat_I _) (flat_seq (flat_arr 3 (flat_F _)) (flat_arr 2 (flat_F _)))) _ _ _ RE
  have key : ∀ {hh : Heap} {B1 B2 B3 : List Blk} {d1 d2 d3 : Option Addr} {e1 e2 e3 : Nat}, SlO T_impl_Ring rRing B1 d1 l1 e1 x.Right → SlO T_impl_Ring rRing B2 d2 l2 e2 x.Left → SlO T_float32 (rF .f32) B3 d3 l3 e3 x.Scatter → Mem h2 hh (B1 ++ (B2 ++ B3)) →
      STA 13 hh ⟨g1, 0, none⟩ ⟨(List.set (List.set (List.set (List.set (splice 3 6 cE [.slice d1 l1 e1, .slice d2 l2 e2, .slice d3 l3 e3, .int .i64 (0 : Int), .float .f32 0, .float .f32 0, .float .f32 0, .float .f32 0, .float .f32 0, .bool false, .float .f32 0, .float .f32 0, .float .f32 0]) 9 (.bool x.Open)) 10 (.float .f32 y1)) 11 (.float .f32 y2)) 12 (.float .f32 y3))⟩ fun h22 =>
        LDA 13 h22 ⟨g1, 0, none⟩ fun a23 => NewR rPipe h h22 (.agg a23) x := by
    intro hh B1 B2 B3 d1 d2 d3 e1 e2 e3 O1 O2 O3 N
    have O0 : rPipe.ow (B1 ++ (B2 ++ (B3 ++ []))) [.slice d1 l1 e1, .slice d2 l2 e2, .slice d3 l3 e3, .int .i64 (0 : Int), .float .f32 0, .float .f32 0, .float .f32 0, .float .f32 0, .float .f32 0, .bool false, .float .f32 0, .float .f32 0, .float .f32 0] { z_Pipe with Right := x.Right, Left := x.Left, Scatter := x.Scatter } := by
      obtain ⟨_, _, _, _, e1, e2, _, _, _, _, _, e3, e4, _, _, _, _, _, e5, e6, _, RR⟩ := zow_Pipe
      exact ⟨_, _, [_], _, rfl, rfl, ⟨_, _, _, rfl, O1⟩, _, _, [_], _, rfl, rfl, ⟨_, _, _, rfl, O2⟩, _, [], [_], _, rfl, rfl, ⟨_, _, _, rfl, O3⟩, [], [], [_, _, _, _, _, _], [_, _, _, _], rfl, rfl, zow_Filter, [], [], [_], [_, _, _], rfl, rfl, ⟨rfl, rfl⟩, [], [], [_], [_, _], rfl, rfl, ⟨rfl, 0, rfl, fw0⟩, [], [], [_], [_], rfl, rfl, ⟨rfl, 0, rfl, fw0⟩, ⟨rfl, 0, rfl, fw0⟩⟩
    obtain ⟨C1, P1, c1⟩ := ow_splice O0 foc_Pipe_End rfl fE
    obtain ⟨C2, P2, c2⟩ := ow_set P1 foc_Pipe_Open rfl ⟨rfl, rfl⟩
    obtain ⟨C3, P3, c3⟩ := ow_set P2 foc_Pipe_Loss rfl ⟨rfl, y1, rfl, k1⟩
    obtain ⟨C4, P4, c4⟩ := ow_set P3 foc_Pipe_Rest rfl ⟨rfl, y2, rfl, k2⟩
    obtain ⟨C5, P5, c5⟩ := ow_set P4 foc_Pipe_Slope rfl ⟨rfl, y3, rfl, k3⟩
    have M := (M0.join N).cnt (W := (g1, T_impl_Pipe, ⟨Z_impl_Pipe⟩) :: C5) (fun p => by have := c1 p; have := c2 p; have := c3 p; have := c4 p; have := c5 p; simp only [cnt_app, cnt_cons, cnt_nil] at *; omega)
    refine M.sta0 .here (osz (cs := ⟨_⟩) P5 rfl) (rPipe.oone P5) rfl .here fun h3 M => M.lda0 .here (osz (cs := ⟨_⟩) P5 rfl) ?_
    exact ⟨_, C5, rfl, P5, M.drop⟩
  have nil := Mem.start h2
  have pz : ∀ {hh : Heap} {p : Prop}, Ext h2 hh → p → PIN h2 q 1 hh p := fun X H => (add0 q) ▸ R2.pinO (off := 0) (n := 1) (by decide) X H
  (repeat' (first
    | refine RdP.pinO R2 (by decide) (Mem.ext (by assumption)) ?_
    | refine pz (Mem.ext (by assumption)) ?_
    | refine siz (by assumption) ?_
    | refine as_l ?_
    | refine goS (by assumption) (l04Copies_c (SlR.ext (Mem.ext (by assumption)) S1) hr m1') fun _ _ _ _ _ _ => ?_
    | refine goS (by assumption) (l04Copies_c (SlR.ext (Mem.ext (by assumption)) S2) hl m2') fun _ _ _ _ _ _ => ?_
    | refine Mem.alc (by assumption) fun _ _ _ _ => ?_
    | refine append_copyM E_sl_float32 (by decide) (flat_F _) S3 (by assumption) (by repeat (first | exact Pick.here | apply Pick.there | apply Pick.skip)) m3' fun _ _ _ _ _ _ => ?_
    | exact key (by assumption) (by assumption) (by assumption) (Mem.cnt (by assumption) (fun p => by simp only [cnt_app, cnt_cons, cnt_nil] at *; omega))
    | refine And.intro ?_ ?_))
theorem Pipe_clone_c {cs : Array Value} (R0 : rPipe.rd h cs.toList x) (hs : x.small) : CALL prg f_impl_Pipe_clone #[.agg cs] (fun u h' => NewR rPipe h h' u x) h := by
  obtain ⟨_, v1, e1, ⟨b1, l1, c1, rfl, S1⟩, _, v2, rfl, ⟨b2, l2, c2, rfl, S2⟩, _, v3, rfl, ⟨b3, l3, c3, rfl, S3⟩, RR⟩ := R0
  dsimp only at S1 S2 S3 RR
  have eC : cs = ⟨[.slice b1 l1 c1] ++ ([.slice b2 l2 c2] ++ ([.slice b3 l3 c3] ++ v3))⟩ := by cases cs; simpa using e1
  have n1 := S1.len
  have n2 := S2.len
  have n3 := S3.len
  have m1 := hs.nr
  have m2 := hs.nl
  have m3 := hs.ns
  have oR := (flat_seq (flat_via (flat_seq (flat_I .i64) (flat_seq (flat_arr 3 (flat_F .f32)) (flat_arr 2 (flat_F .f32))))) (flat_seq flat_B (flat_seq (flat_F .f32) (flat_seq (flat_F .f32) (flat_F .f32))))) h v3 (x.End, x.Open, x.Loss, x.Rest, x.Slope) RR
  have h3 : v3.length = 10 := (Rep.seq rFilter (Rep.seq rB (Rep.seq (rF .f32) (Rep.seq (rF .f32) (rF .f32))))).olen oR
  subst eC
  refine impl_Pipe_clone.call ((Mem.start h).alc fun g1 h1 x1 M => M.alc fun g3 h2 x2 M => ?_)
  have M1 : Mem h h2 ((g1, T_impl_Pipe, ⟨[] ++ ([.slice b1 l1 c1] ++ ([.slice b2 l2 c2] ++ ([.slice b3 l3 c3] ++ v3)))⟩) :: [(g3, T_impl_Pipe, ⟨Z_impl_Pipe⟩)]) := M.perm (.swap _ _ _)
  have X2 := M1.ext
  refine o_l (M1.cellM (pre := []) rfl) (o_l (M1.cellM (pre := [.slice b1 l1 c1]) rfl) (o_l (M1.cellM (pre := [.slice b1 l1 c1, .slice b2 l2 c2]) rfl) ?_))
  refine goS (Mem.start h2) (cloneRings_c (S1.ext X2) hs.r (by omega)) fun h3 d1 e1 B1 N O1 => as_l ?_
  refine pin1 N.ext (M1.cellM (pre := [.slice b1 l1 c1, .slice b2 l2 c2]) rfl) (pin1 N.ext (M1.cellM (pre := [.slice b1 l1 c1]) rfl) ?_)
  refine goS N (cloneRings_c (S2.ext (X2.trans N.ext)) hs.l (by omega)) fun h4 d2 e2 B2 N O2 => as_l ?_
  refine pin1 N.ext (M1.cellM (pre := [.slice b1 l1 c1, .slice b2 l2 c2]) rfl) ?_
  refine goS N (Clone_f32_c (S3.ext (X2.trans N.ext)) (by omega)) fun h5 d3 e3 B3 N O3 => as_l ?_
  have M := M1.join N
  have M := M.cnt (W := (g1, T_impl_Pipe, ⟨[] ++ ([.slice b1 l1 c1] ++ ([.slice b2 l2 c2] ++ ([.slice b3 l3 c3] ++ v3)))⟩) :: ((B1 ++ (B2 ++ (B3 ++ []))) ++ [(g3, T_impl_Pipe, ⟨Z_impl_Pipe⟩)])) (fun p => by simp only [cnt_app, cnt_cons, cnt_nil] at *; omega)
  refine M.st1M (pre := []) rfl fun h6 M => M.st1M (pre := [.slice d1 l1 e1]) (u := .slice b2 l2 c2) (post := [.slice b3 l3 c3] ++ v3) rfl fun h7 M => M.st1M (pre := [.slice d1 l1 e1, .slice d2 l2 e2]) (u := .slice b3 l3 c3) (post := v3) rfl fun h8 M => ?_
  have O : rPipe.ow (B1 ++ (B2 ++ (B3 ++ []))) ([.slice d1 l1 e1] ++ ([.slice d2 l2 e2] ++ ([.slice d3 l3 e3] ++ v3))) x :=
    ⟨_, _, _, _, rfl, rfl, ⟨_, _, _, rfl, O1⟩, _, _, _, _, rfl, rfl, ⟨_, _, _, rfl, O2⟩, _, _, _, _, rfl, rfl, ⟨_, _, _, rfl, O3⟩, oR⟩
  have hsz : (⟨[.slice d1 l1 e1] ++ ([.slice d2 l2 e2] ++ ([.slice d3 l3 e3] ++ v3))⟩ : Array Value).size = 13 := osz (cs := ⟨_⟩) O rfl
  have M : Mem h h8 ((g1, T_impl_Pipe, ⟨[.slice d1 l1 e1] ++ ([.slice d2 l2 e2] ++ ([.slice d3 l3 e3] ++ v3))⟩) :: ((B1 ++ (B2 ++ (B3 ++ []))) ++ [(g3, T_impl_Pipe, ⟨Z_impl_Pipe⟩)])) := M
  refine M.lda0 .here hsz ?_
  have M := M.cnt (W := (g3, T_impl_Pipe, ⟨Z_impl_Pipe⟩) :: (B1 ++ (B2 ++ (B3 ++ [])))) (fun p => by simp only [cnt_app, cnt_cons, cnt_nil] at *; omega)
  refine M.sta0 .here hsz (rPipe.oone O) rfl .here fun h9 M => M.lda0 .here hsz ?_
  exact ⟨_, _, rfl, O, M.drop⟩
end
end Go.Sx
/- A pipe's step, as the rule makes it. -/
set_option linter.unusedVariables false
set_option linter.unusedSimpArgs false
namespace Go.Sx
open Go.Proofs
set_option maxRecDepth 100000
set_option maxHeartbeats 1000000

/-- What a step of a pipe asks for. -/
structure GPipe.Runs (x : GPipe) : Prop where
  n1 : 1 ≤ x.Right.length
  n3 : x.Right.length ≤ 3
  ll : x.Left.length = x.Right.length
  sl : x.Scatter.length + 1 = x.Right.length
  r : ∀ r ∈ x.Right, r.ok = true
  l : ∀ r ∈ x.Left, r.ok = true
theorem pipe_runs {x : GPipe} (h : x.ok = true) : x.Runs := by
  obtain ⟨h1, h2, h3, h4, h5, h6⟩ := pipe_split h
  exact ⟨h1, h2, h3, h4, fun r hr => (okf_small h5 r hr).1, fun r hr => (okf_small h6 r hr).1⟩
theorem map_get {α β : Type} [Inhabited α] [Inhabited β] {f : α → β} {l : List α} {i : Nat} (h : i < l.length) : (l.map f)[i]! = f l[i]! := by
  rw [getElem!_pos _ i (by rw [List.length_map]; exact h), List.getElem_map, getElem!_pos l i h]
/-- A pipe within a step: the first i rings that run right and j that run left are moved. -/
def GPipe.at (x : GPipe) (b i j : Nat) (e : GFilter) : GPipe := { x with Right := mapI (x.rt b) x.Right i, Left := mapI x.lf x.Left j, End := e }
theorem at_zero (x : GPipe) (b : Nat) : x.at b 0 0 x.End = x := by unfold GPipe.at; rw [mapI_zero, mapI_zero]
theorem pstep_eq {x : GPipe} (R : x.Runs) (b : Nat) : x.step b = (x.at b x.Right.length x.Right.length x.e.1, x.e.2) := by
  unfold GPipe.at GPipe.step
  rw [mapI_all (Nat.le_refl _), mapI_all (by rw [R.ll]; exact Nat.le_refl _), R.ll]
  rfl
theorem rt_zero (x : GPipe) (b : Nat) : x.rt b 0 = x.Right[0]!.push (kept (fadd .f32 b (fmul .f32 (x.d b) (x.reed (x.d b))))) := by simp [GPipe.rt]
theorem rt_succ (x : GPipe) (b i : Nat) : x.rt b (i + 1) = x.Right[i + 1]!.push (kept (fadd .f32 x.Right[i]!.old (x.t i))) := by simp [GPipe.rt]
theorem lf_lt {x : GPipe} {i : Nat} (h : i + 1 < x.Right.length) : x.lf i = x.Left[i]!.push (kept (fadd .f32 x.Left[i + 1]!.old (x.t i))) := by
  unfold GPipe.lf GPipe.n
  rw [if_neg (by omega)]
theorem lf_last {x : GPipe} : x.lf (x.Right.length - 1) = x.Left[x.Right.length - 1]!.push (kept x.back) := by
  unfold GPipe.lf GPipe.n
  rw [if_pos rfl]
section
variable {h0 h : Heap} {q : Addr} {F : Fr} {L : List Blk} {x : GPipe} {b i j l c : Nat} {e : GFilter} {bb : Option Addr}
theorem SlR.idx0 {α : Type} [Inhabited α] {r : Rep α} {xs : List α} {K : Addr → Prop} (S : SlR r h bb l c xs) (hz : 0 < r.sz) (h2 : 0 < l) (H : ∀ a, RdP r h a xs[0]! → K a) : IDXS bb 0 l K :=
  S.idx hz (by omega) (by omega) fun a Ra => H a (by
    have : RdP r h (a.add (0 * r.sz)) xs[0]! := Ra
    rwa [Nat.zero_mul, add0] at this)
theorem Pt.hd (P : Pt rPipe h0 h q F L x) : ∃ bb l c, cell h q = some (.slice bb l c) ∧ x.Right.length = l := by
  obtain ⟨b, l, c, e, S⟩ := P.hdr1 (e := T_impl_Ring) (s := rRing)
  exact ⟨b, l, c, e, S.len⟩
theorem Pt.hdl (P : Pt rPipe h0 h q F L x) : ∃ bb l c, cell h (q.add 1) = some (.slice bb l c) ∧ x.Left.length = l := by
  obtain ⟨b, l, c, e, S⟩ := P.hdr (off := 1) (e := T_impl_Ring) (s := rRing)
  exact ⟨b, l, c, e, S.len⟩
theorem pushR (P : Pt rPipe h0 h q F L (x.at b i j e)) (R : x.Runs) (hi : i < x.Right.length) (hb : cell h q = some (.slice bb l c)) (hl : (x.at b i j e).Right.length = l) :
    ∃ a0 F' L', bb = some a0 ∧ i < l ∧ Pt rRing h0 h (a0.add (i * rRing.sz)) F' L' x.Right[i]! ∧ x.Right[i]!.ok = true ∧
      ∀ h0' h', Pt rRing h0' h' (a0.add (i * rRing.sz)) F' L' (x.rt b i) → Pt rPipe h0' h' q F L (x.at b (i + 1) j e) ∧ ∀ k, cell h' (q.add k) = cell h (q.add k) := by
  have hl : x.Right.length = l := by rw [← hl]; unfold GPipe.at; rw [mapI_len]
  obtain ⟨a0, F', L', eb, P', hs, close⟩ := P.elemK1 (e := T_impl_Ring) (s := rRing) (i := i) hb (by omega)
  have P' : Pt rRing h0 h (a0.add (i * rRing.sz)) F' L' (mapI (x.rt b) x.Right i)[i]! := P'
  rw [mapI_ge hi (Nat.le_refl _)] at P'
  refine ⟨a0, F', L', eb, by omega, P', R.r _ (mem_get hi), fun h0' h' P2 => ?_⟩
  obtain ⟨P3, hk⟩ := close _ _ _ P2
  have P3 : Pt rPipe h0' h' q F L { x.at b i j e with Right := (mapI (x.rt b) x.Right i).set i (x.rt b i) } := P3
  rw [mapI_set hi] at P3
  exact ⟨P3, hk⟩
theorem pushL (P : Pt rPipe h0 h q F L (x.at b i j e)) (R : x.Runs) (hi : j < x.Right.length) (hb : cell h (q.add 1) = some (.slice bb l c)) (hl : (x.at b i j e).Left.length = l) :
    ∃ a0 F' L', bb = some a0 ∧ j < l ∧ Pt rRing h0 h (a0.add (j * rRing.sz)) F' L' x.Left[j]! ∧ x.Left[j]!.ok = true ∧
      ∀ h0' h', Pt rRing h0' h' (a0.add (j * rRing.sz)) F' L' (x.lf j) → Pt rPipe h0' h' q F L (x.at b i (j + 1) e) ∧ ∀ k, cell h' (q.add k) = cell h (q.add k) := by
  have hl : x.Left.length = l := by rw [← hl]; unfold GPipe.at; rw [mapI_len]
  have hi : j < x.Left.length := by rw [R.ll]; exact hi
  obtain ⟨a0, F', L', eb, P', hs, close⟩ := P.elemK (off := 1) (e := T_impl_Ring) (s := rRing) (i := j) hb (by omega)
  have P' : Pt rRing h0 h (a0.add (j * rRing.sz)) F' L' (mapI x.lf x.Left j)[j]! := P'
  rw [mapI_ge hi (Nat.le_refl _)] at P'
  refine ⟨a0, F', L', eb, by omega, P', R.l _ (mem_get hi), fun h0' h' P2 => ?_⟩
  obtain ⟨P3, hk⟩ := close _ _ _ P2
  have P3 : Pt rPipe h0' h' q F L { x.at b i j e with Left := (mapI x.lf x.Left j).set j (x.lf j) } := P3
  rw [mapI_set hi] at P3
  exact ⟨P3, hk⟩
/-- What a step of a pipe leaves. -/
def PiStep (h0 h' : Heap) (q : Addr) (F : Fr) (L : List Blk) (x : GPipe) (a : Nat) (u : Value) : Prop := (∃ y, u = .float .f32 y ∧ FW .f32 y (x.step a).2) ∧ Pt rPipe h0 h' q F L (x.step a).1
theorem PiStep.of {y : Nat} (R : x.Runs) (hy : FW .f32 y x.e.2) (P : Pt rPipe h0 h q F L (x.at b x.Right.length x.Right.length x.e.1)) : PiStep h0 h q F L x b (.float .f32 y) := by
  unfold PiStep
  rw [pstep_eq R b]
  exact ⟨⟨y, rfl, hy⟩, P⟩
theorem last_i {n : Nat} (h1 : 1 ≤ n) (h2 : n < 9223372036854775808) : IntKind.i64.wrap ((n : Int) - 1) = ((n - 1 : Nat) : Int) := by
  rw [wrap64 (by omega) (by omega)]; omega
theorem step_J16 {y w : Nat} (P : Pt rPipe h0 h q F L (x.at b x.Right.length (x.Right.length - 1) x.e.1)) (R : x.Runs) (hy : FW .f32 y x.e.2) (hw : FW .f32 w x.back) :
    spec_l04Step.J16 (fun u h' => PiStep h0 h' q F L x b u) q (x.Right.length : Int) y w h := by
  have n1 := R.n1
  have n3 := R.n3
  unfold spec_l04Step.J16
  rw [last_i n1 (by omega)]
  obtain ⟨bb, l, c, eb, el⟩ := P.hdl
  refine o_l eb ?_
  obtain ⟨a0, F', L', rfl, hi, P', ok, close⟩ := pushL P R (by omega) eb el
  refine idxs (by omega) (by omega) ((l02Kept_c hw).go fun h1 z x1 hz => as_f (P.rd.pinO (off := 1) (n := 1) (by decide) x1 ?_))
  refine (l02Push_c (P'.grow x1) ok hz).mono ?_
  rintro _ h2 ⟨⟨_, rfl, _⟩, P2⟩
  rw [← lf_last] at P2
  obtain ⟨P, _⟩ := close _ _ P2
  rw [show x.Right.length - 1 + 1 = x.Right.length by omega] at P
  exact as_f (PiStep.of R hy P)
theorem l04Step_c {w : Nat} (P : Pt rPipe h0 h q F L x) (R : x.Runs) (hx : FW .f32 w b) : CALL prg f_spec_l04Step #[.pointer (some q), .float .f32 w] (fun u h' => PiStep h0 h' q F L x b u) h := by
  have n1 := R.n1
  have n3 := R.n3
  have nl := R.ll
  have ns := R.sl
  refine spec_l04Step.call (P.rd.oL1 fun b1 l1 c1 S1 => P.rd.oL1 fun b2 l2 c2 S2 => ?_)
  have e1 := S1.len
  have e2 := S2.len
  refine (l04Oldest_c S2 R.r (by omega)).mono ?_
  rintro _ h3 ⟨rb, cr, Br, rfl, Or, N⟩
  have P := P.join N
  refine as_l (P.rd.oL fun b4 l4 c4 S4 => (l04Oldest_c S4 R.l (by have := S4.len; omega)).mono ?_)
  rintro _ h5 ⟨bl, cl, Bl, rfl, Ol, N⟩
  have e4 := S4.len
  have P := P.join N
  have lookr : ∀ {h' : Heap} {y : GPipe}, Pt rPipe h0 h' q F (Bl ++ (Br ++ L)) y → SlR (rF .f32) h' rb l2 cr (x.Right.map GRing.old) := fun P => Or.look P.mem ((List.sublist_append_left _ _).trans (List.sublist_append_right _ _))
  have lookl : ∀ {h' : Heap} {y : GPipe}, Pt rPipe h0 h' q F (Bl ++ (Br ++ L)) y → SlR (rF .f32) h' bl l4 cl (x.Left.map GRing.old) := fun P => Ol.look P.mem (List.sublist_append_left _ _)
  refine as_l ((lookl P).idx0 (by decide) (by omega) fun p Rp => Rp.oF1 fun y hy => fS hy hx fun d hd => ?_)
  rw [map_get (by omega)] at hd
  have hd : FW .f32 d (x.d b) := hd
  rw [← at_zero x b] at P
  obtain ⟨bb, l, c, eb, el⟩ := P.hd
  refine o_l eb ?_
  obtain ⟨a0, F', L', rfl, hi, P', ok, close⟩ := pushR P R (by omega) eb el
  rw [Nat.zero_mul, add0] at P' close
  refine idxs (by omega) (by omega) (P.rd.oF fun y1 k1 => P.rd.oF fun y2 k2 => (l04Reed_c k1 k2 hd).go fun h7 y3 x7 k3 => as_f (P.rd.pin0 (by decide) x7 (fM hd k3 fun w1 j1 => P.rd.pin0 (by decide) x7 (fA hx j1 fun w2 j2 => P.rd.pin0 (by decide) x7 ((l02Kept_c j2).go fun h8 y4 x8 k4 => as_f (P.rd.pin0 (by decide) (x7.trans x8) ?_))))))
  refine (l02Push_c (P'.grow (x7.trans x8)) ok k4).mono ?_
  rintro _ h9 ⟨⟨_, rfl, _⟩, P2⟩
  have P2 : Pt rRing h0 h9 a0 F' L' (x.rt b 0) := by rw [rt_zero]; exact P2
  obtain ⟨P, _⟩ := close _ _ P2
  clear P2 P' close ok eb el hi
  refine as_f ?_
  refine loop (fun y hh => ∃ n : Nat, y = (q, (l1 : Int), rb, l2, cr, bl, l4, cl, (n : Int)) ∧ n + 1 ≤ l1 ∧ Pt rPipe h0 hh q F (Bl ++ (Br ++ L)) (x.at b (n + 1) n x.End)) (fun y => (l1 - y.2.2.2.2.2.2.2.2).toNat) ⟨0, rfl, by omega, P⟩ ?_
  rintro y hh ⟨n, rfl, hn, P⟩
  rw [spec_l04Step.B7, wrap64_succ (n := n) (by omega)]
  refine brd (fun hc => ?_) fun hc => ?_
  · have hS : x.Scatter.length + 1 = l1 := by omega
    refine P.rd.oL fun b3 l3 c3 S3 => ?_
    have e3 : x.Scatter.length = l3 := S3.len
    refine S3.idx (by decide) (by omega) (by omega) fun p Rp => Rp.oF1 fun y1 k1 => (lookr P).idx (by decide) (by omega) (by omega) fun p Rp => Rp.oF1 fun y2 k2 => (lookl P).idx (by decide) (by omega) (by omega) fun p Rp => Rp.oF1 fun y3 k3 => ?_
    rw [Int.toNat_natCast, map_get (by omega)] at k2 k3
    have k1 : FW .f32 y1 x.Scatter[n]! := k1
    refine fS k2 k3 fun w1 j1 => pin_same (pin_same (fM k1 j1 fun t ht => ?_))
    have ht : FW .f32 t (x.t n) := ht
    obtain ⟨bb, l, c, eb, el⟩ := P.hd
    refine o_l eb ?_
    obtain ⟨a0, F', L', rfl, hi, P', ok, close⟩ := pushR P R (by omega) eb el
    refine idxs (by omega) (by omega) ((lookr P).idx (by decide) (by omega) (by omega) fun p Rp => Rp.oF1 fun y4 k4 => ?_)
    rw [Int.toNat_natCast, map_get (by omega)] at k4
    refine fA k4 ht fun w2 j2 => pin_same ((l02Kept_c j2).go fun h1 y5 x1 k5 => as_f (P.rd.pin0 (by decide) x1 ?_))
    refine (l02Push_c (P'.grow x1) ok k5).mono ?_
    rintro _ h2 ⟨⟨_, rfl, _⟩, P2⟩
    rw [← rt_succ] at P2
    obtain ⟨P, _⟩ := close _ _ P2
    clear P2 P' close ok eb el hi
    obtain ⟨bb, l, c, eb, el⟩ := P.hdl
    refine as_f (o_l eb ?_)
    obtain ⟨a0, F', L', rfl, hi, P', ok, close⟩ := pushL P R (by omega) eb el
    refine idxs (by omega) (by omega) ((lookl P).idx (by decide) (by omega) (by omega) fun p Rp => Rp.oF1 fun y6 k6 => ?_)
    rw [Int.toNat_natCast, map_get (by omega)] at k6
    refine fA k6 ht fun w3 j3 => pin_same ((l02Kept_c j3).go fun h1 y7 x1 k7 => as_f (P.rd.pinO (off := 1) (n := 1) (by decide) x1 ?_))
    refine (l02Push_c (P'.grow x1) ok k7).mono ?_
    rintro _ h3 ⟨⟨_, rfl, _⟩, P2⟩
    rw [← lf_lt (by omega)] at P2
    obtain ⟨P, _⟩ := close _ _ P2
    exact as_f ⟨⟨n + 1, rfl, by omega, P⟩, by show _ < _; simp; omega⟩
  · obtain rfl : l1 = n + 1 := by omega
    rw [last_i (by omega) (by omega)]
    refine (lookr P).idx (by decide) (by omega) (by omega) fun p Rp => Rp.oF1 fun y1 k1 => ?_
    rw [Int.toNat_natCast, map_get (by omega)] at k1
    obtain ⟨F', L', P', hs, close⟩ := P.foc foc_Pipe_End
    refine (l02Step_c P' k1).mono ?_
    rintro _ h1 ⟨⟨y, rfl, hy⟩, P2⟩
    have P := close _ _ _ P2
    have ee : x.e = x.End.step x.Right[n + 1 - 1]!.old := by unfold GPipe.e GPipe.n; rw [e1]
    have P : Pt rPipe h0 h1 q F (Bl ++ (Br ++ L)) (x.at b x.Right.length (x.Right.length - 1) x.e.1) := by rw [ee, e1]; exact P
    have hy : FW .f32 y x.e.2 := by rw [ee]; exact hy
    have P := P.sub (L2 := L) ((List.sublist_append_right _ _).trans (List.sublist_append_right _ _))
    refine as_f (P.rd.oF fun y2 k2 => fM k2 hy fun w1 j1 => P.rd.oB (br (fun hb => ?_) fun hb => ?_))
    · have hb : x.Open = true := hb
      rw [show ((n + 1 : Nat) : Int) = (x.Right.length : Int) by rw [e1]]
      refine step_J16 P R hy ?_
      unfold GPipe.back
      rw [hb]; exact fw_neg j1
    · have hb : x.Open = false := hb
      rw [show ((n + 1 : Nat) : Int) = (x.Right.length : Int) by rw [e1]]
      refine step_J16 P R hy ?_
      unfold GPipe.back
      rw [hb]; exact j1
end
end Go.Sx
