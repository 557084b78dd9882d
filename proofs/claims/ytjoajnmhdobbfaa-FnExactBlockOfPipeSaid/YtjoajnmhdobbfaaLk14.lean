/- Pipes copied. -/
import Derived.Test.YtjoajnmhdobbfaaLk12
set_option linter.unusedVariables false
set_option linter.unusedSimpArgs false
namespace Go.Sx
open Go.Proofs
set_option maxRecDepth 100000
set_option maxHeartbeats 1000000

/-- All rings of a pipe are of a size that can be copied. -/
structure GPipe.small (x : GPipe) : Prop where
  r : ∀ r ∈ x.Right, r.Samples.length ≤ 1048576
  l : ∀ r ∈ x.Left, r.Samples.length ≤ 1048576
  nr : x.Right.length ≤ 1048576
  nl : x.Left.length ≤ 1048576
  ns : x.Scatter.length ≤ 1048576
theorem okf_small {l : List GRing} (h : l.all GRing.okf = true) : ∀ r ∈ l, r.ok = true ∧ r.Samples.length ≤ 1048576 := fun r hr => by
  have := List.all_eq_true.1 h r hr
  unfold GRing.okf at this
  rw [Bool.and_eq_true] at this
  have k := at_lt this.1
  exact ⟨this.1, by omega⟩
theorem pipe_split {x : GPipe} (h : x.ok = true) : 1 ≤ x.Right.length ∧ x.Right.length ≤ 3 ∧ x.Left.length = x.Right.length ∧ x.Scatter.length + 1 = x.Right.length ∧ x.Right.all GRing.okf = true ∧ x.Left.all GRing.okf = true := by
  rw [pipe_ok] at h
  unfold inR GPipe.n at h
  simp only [Bool.and_eq_true, decide_eq_true_eq] at h
  obtain ⟨⟨⟨⟨⟨⟨⟨⟨⟨⟨⟨h1, h2⟩, h3⟩, h4⟩, h5⟩, _⟩, _⟩, _⟩, _⟩, _⟩, _⟩, _⟩ := h
  exact ⟨by omega, by omega, h2, h3, h4, h5⟩
theorem pipe_small {x : GPipe} (h : x.ok = true) : x.small := by
  obtain ⟨h1, h2, h3, h4, h5, h6⟩ := pipe_split h
  exact ⟨fun r hr => (okf_small h5 r hr).2, fun r hr => (okf_small h6 r hr).2, by omega, by omega, by omega⟩
section
variable {h : Heap} {q : Addr} {x : GPipe}
theorem l04Copy_c (R : RdP rPipe h q x) (hs : x.small) : CALL prg f_spec_l04Copy #[.pointer (some q)] (fun u h' => NewR rPipe h h' u x) h := by
  refine spec_l04Copy.call ((Mem.start h).alc fun g1 h2 x2 M0 => ?_)
  have R2 := R.ext x2
  refine R2.oL1 fun b1 l1 c1 S1 => R2.oL fun b2 l2 c2 S2 => R2.oL fun b3 l3 c3 S3 => R2.lda foc_Pipe_End rfl fun cE RE => R2.oB (R2.oF fun y1 k1 => R2.oF fun y2 k2 => R2.oF fun y3 k3 => ?_)
  have n1 := S1.len
  have n2 := S2.len
  have n3 := S3.len
  have m1 := hs.nr
  have m2 := hs.nl
  have m3 := hs.ns
  have m1' : l1 ≤ 1048576 := by omega
  have m2' : l2 ≤ 1048576 := by omega
  have m3' : l3 * 4 ≤ 140737488355328 := by omega
  have hr := hs.r
  have hl := hs.l
  have sE : cE.size = 6 := rsz RE rfl
  have fE : rFilter.ow [] cE.toList x.End := flat_via (flat_seq (flat_I _) (flat_seq (flat_arr 3 (flat_F _)) (flat_arr 2 (flat_F _)))) _ _ _ RE
  have key : ∀ {hh : Heap} {B1 B2 B3 : List Blk} {d1 d2 d3 : Option Addr} {e1 e2 e3 : Nat}, SlO T_impl_Ring rRing B1 d1 l1 e1 x.Right → SlO T_impl_Ring rRing B2 d2 l2 e2 x.Left → SlO T_float32 (rF .f32) B3 d3 l3 e3 x.Scatter → Mem h2 hh (B1 ++ (B2 ++ B3)) →
      STA 13 hh ⟨g1, 0, none⟩ ⟨(List.set (List.set (List.set (List.set (splice 3 6 cE [.slice d1 l1 e1, .slice d2 l2 e2, .slice d3 l3 e3, .int .i64 (0 : Int), .float .f32 0, .float .f32 0, .float .f32 0, .float .f32 0, .float .f32 0, .bool false, .float .f32 0, .float .f32 0, .float .f32 0]) 9 (.bool x.Open)) 10 (.float .f32 y1)) 11 (.float .f32 y2)) 12 (.float .f32 y3))⟩ fun h22 =>
        LDA 13 h22 ⟨g1, 0, none⟩ fun a23 => NewR rPipe h h22 (.agg a23) x := by
    intro hh B1 B2 B3 d1 d2 d3 e1 e2 e3 O1 O2 O3 N
    have O0 : rPipe.ow (B1 ++ (B2 ++ (B3 ++ []))) [.slice d1 l1 e1, .slice d2 l2 e2, .slice d3 l3 e3, .int .i64 (0 : Int), .float .f32 0, .float .f32 0, .float .f32 0, .float .f32 0, .float .f32 0, .bool false, .float .f32 0, .float .f32 0, .float .f32 0] { z_Pipe with Right := x.Right, Left := x.Left, Scatter := x.Scatter } := by
      obtain ⟨_, _, _, _, e1, e2, _, _, _, _, _, e3, e4, _, _, _, _, _, e5, e6, _, RR⟩ := zow_Pipe
      exact ⟨_, _, [_], _, rfl, rfl, ⟨_, _, _, rfl, O1⟩, _, _, [_], _, rfl, rfl, ⟨_, _, _, rfl, O2⟩, _, [], [_], _, rfl, rfl, ⟨_, _, _, rfl, O3⟩, [], [], [_, _, _, _, _, _], [_, _, _, _], rfl, rfl, zow_Filter, [], [], [_], [_, _, _], rfl, rfl, ⟨rfl, rfl⟩, [], [], [_], [_, _], rfl, rfl, ⟨rfl, 0, rfl, fw0⟩, [], [], [_], [_], rfl, rfl, ⟨rfl, 0, rfl, fw0⟩, ⟨rfl, 0, rfl, fw0⟩⟩
    obtain ⟨C1, P1, c1⟩ := ow_splice O0 foc_Pipe_End rfl fE
    obtain ⟨C2, P2, c2⟩ := ow_set P1 foc_Pipe_Open rfl ⟨rfl, rfl⟩
    obtain ⟨C3, P3, c3⟩ := ow_set P2 foc_Pipe_Loss rfl ⟨rfl, y1, rfl, k1⟩
    obtain ⟨C4, P4, c4⟩ := ow_set P3 foc_Pipe_Rest rfl ⟨rfl, y2, rfl, k2⟩
    obtain ⟨C5, P5, c5⟩ := ow_set P4 foc_Pipe_Slope rfl ⟨rfl, y3, rfl, k3⟩
    have M := (M0.join N).cnt (W := (g1, T_impl_Pipe, ⟨Z_impl_Pipe⟩) :: C5) (fun p => by have := c1 p; have := c2 p; have := c3 p; have := c4 p; have := c5 p; simp only [cnt_app, cnt_cons, cnt_nil] at *; omega)
    refine M.sta0 .here (osz (cs := ⟨_⟩) P5 rfl) (rPipe.oone P5) rfl .here fun h3 M => M.lda0 .here (osz (cs := ⟨_⟩) P5 rfl) ?_
    exact ⟨_, C5, rfl, P5, M.drop⟩
  have nil := Mem.start h2
  have pz : ∀ {hh : Heap} {p : Prop}, Ext h2 hh → p → PIN h2 q 1 hh p := fun X H => (add0 q) ▸ R2.pinO (off := 0) (n := 1) (by decide) X H
  (repeat' (first
    | refine RdP.pinO R2 (by decide) (Mem.ext (by assumption)) ?_
    | refine pz (Mem.ext (by assumption)) ?_
    | refine siz (by assumption) ?_
    | refine as_l ?_
    | refine goS (by assumption) (l04Copies_c (SlR.ext (Mem.ext (by assumption)) S1) hr m1') fun _ _ _ _ _ _ => ?_
    | refine goS (by assumption) (l04Copies_c (SlR.ext (Mem.ext (by assumption)) S2) hl m2') fun _ _ _ _ _ _ => ?_
    | refine Mem.alc (by assumption) fun _ _ _ _ => ?_
    | refine append_copyM E_sl_float32 (by decide) (flat_F _) S3 (by assumption) (by repeat (first | exact Pick.here | apply Pick.there | apply Pick.skip)) m3' fun _ _ _ _ _ _ => ?_
    | exact key (by assumption) (by assumption) (by assumption) (Mem.cnt (by assumption) (fun p => by simp only [cnt_app, cnt_cons, cnt_nil] at *; omega))
    | refine And.intro ?_ ?_))
theorem Pipe_clone_c {cs : Array Value} (R0 : rPipe.rd h cs.toList x) (hs : x.small) : CALL prg f_impl_Pipe_clone #[.agg cs] (fun u h' => NewR rPipe h h' u x) h := by
  obtain ⟨_, v1, e1, ⟨b1, l1, c1, rfl, S1⟩, _, v2, rfl, ⟨b2, l2, c2, rfl, S2⟩, _, v3, rfl, ⟨b3, l3, c3, rfl, S3⟩, RR⟩ := R0
  dsimp only at S1 S2 S3 RR
  have eC : cs = ⟨[.slice b1 l1 c1] ++ ([.slice b2 l2 c2] ++ ([.slice b3 l3 c3] ++ v3))⟩ := by cases cs; simpa using e1
  have n1 := S1.len
  have n2 := S2.len
  have n3 := S3.len
  have m1 := hs.nr
  have m2 := hs.nl
  have m3 := hs.ns
  have oR := (flat_seq (flat_via (flat_seq (flat_I .i64) (flat_seq (flat_arr 3 (flat_F .f32)) (flat_arr 2 (flat_F .f32))))) (flat_seq flat_B (flat_seq (flat_F .f32) (flat_seq (flat_F .f32) (flat_F .f32))))) h v3 (x.End, x.Open, x.Loss, x.Rest, x.Slope) RR
  have h3 : v3.length = 10 := (Rep.seq rFilter (Rep.seq rB (Rep.seq (rF .f32) (Rep.seq (rF .f32) (rF .f32))))).olen oR
  subst eC
  refine impl_Pipe_clone.call ((Mem.start h).alc fun g1 h1 x1 M => M.alc fun g3 h2 x2 M => ?_)
  have M1 : Mem h h2 ((g1, T_impl_Pipe, ⟨[] ++ ([.slice b1 l1 c1] ++ ([.slice b2 l2 c2] ++ ([.slice b3 l3 c3] ++ v3)))⟩) :: [(g3, T_impl_Pipe, ⟨Z_impl_Pipe⟩)]) := M.perm (.swap _ _ _)
  have X2 := M1.ext
  refine o_l (M1.cellM (pre := []) rfl) (o_l (M1.cellM (pre := [.slice b1 l1 c1]) rfl) (o_l (M1.cellM (pre := [.slice b1 l1 c1, .slice b2 l2 c2]) rfl) ?_))
  refine goS (Mem.start h2) (cloneRings_c (S1.ext X2) hs.r (by omega)) fun h3 d1 e1 B1 N O1 => as_l ?_
  refine pin1 N.ext (M1.cellM (pre := [.slice b1 l1 c1, .slice b2 l2 c2]) rfl) (pin1 N.ext (M1.cellM (pre := [.slice b1 l1 c1]) rfl) ?_)
  refine goS N (cloneRings_c (S2.ext (X2.trans N.ext)) hs.l (by omega)) fun h4 d2 e2 B2 N O2 => as_l ?_
  refine pin1 N.ext (M1.cellM (pre := [.slice b1 l1 c1, .slice b2 l2 c2]) rfl) ?_
  refine goS N (Clone_f32_c (S3.ext (X2.trans N.ext)) (by omega)) fun h5 d3 e3 B3 N O3 => as_l ?_
  have M := M1.join N
  have M := M.cnt (W := (g1, T_impl_Pipe, ⟨[] ++ ([.slice b1 l1 c1] ++ ([.slice b2 l2 c2] ++ ([.slice b3 l3 c3] ++ v3)))⟩) :: ((B1 ++ (B2 ++ (B3 ++ []))) ++ [(g3, T_impl_Pipe, ⟨Z_impl_Pipe⟩)])) (fun p => by simp only [cnt_app, cnt_cons, cnt_nil] at *; omega)
  refine M.st1M (pre := []) rfl fun h6 M => M.st1M (pre := [.slice d1 l1 e1]) (u := .slice b2 l2 c2) (post := [.slice b3 l3 c3] ++ v3) rfl fun h7 M => M.st1M (pre := [.slice d1 l1 e1, .slice d2 l2 e2]) (u := .slice b3 l3 c3) (post := v3) rfl fun h8 M => ?_
  have O : rPipe.ow (B1 ++ (B2 ++ (B3 ++ []))) ([.slice d1 l1 e1] ++ ([.slice d2 l2 e2] ++ ([.slice d3 l3 e3] ++ v3))) x :=
    ⟨_, _, _, _, rfl, rfl, ⟨_, _, _, rfl, O1⟩, _, _, _, _, rfl, rfl, ⟨_, _, _, rfl, O2⟩, _, _, _, _, rfl, rfl, ⟨_, _, _, rfl, O3⟩, oR⟩
  have hsz : (⟨[.slice d1 l1 e1] ++ ([.slice d2 l2 e2] ++ ([.slice d3 l3 e3] ++ v3))⟩ : Array Value).size = 13 := osz (cs := ⟨_⟩) O rfl
  have M : Mem h h8 ((g1, T_impl_Pipe, ⟨[.slice d1 l1 e1] ++ ([.slice d2 l2 e2] ++ ([.slice d3 l3 e3] ++ v3))⟩) :: ((B1 ++ (B2 ++ (B3 ++ []))) ++ [(g3, T_impl_Pipe, ⟨Z_impl_Pipe⟩)])) := M
  refine M.lda0 .here hsz ?_
  have M := M.cnt (W := (g3, T_impl_Pipe, ⟨Z_impl_Pipe⟩) :: (B1 ++ (B2 ++ (B3 ++ [])))) (fun p => by simp only [cnt_app, cnt_cons, cnt_nil] at *; omega)
  refine M.sta0 .here hsz (rPipe.oone O) rfl .here fun h9 M => M.lda0 .here hsz ?_
  exact ⟨_, _, rfl, O, M.drop⟩
end
end Go.Sx
