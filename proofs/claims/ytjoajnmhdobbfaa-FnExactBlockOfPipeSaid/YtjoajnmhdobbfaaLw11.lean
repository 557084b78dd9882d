/- BlockOfPipe: the rule and the program. -/
import Derived.Test.YtjoajnmhdobbfaaLk16
import Derived.Test.YtjoajnmhdobbfaaLh3
import Derived.Test.YtjoajnmhdobbfaaLgw
import Derived.Test.YtjoajnmhdobbfaaBlockOfPipe
set_option linter.unusedVariables false
set_option linter.unusedSimpArgs false
namespace Go.Sx
open Go.Proofs
set_option maxRecDepth 100000
set_option maxHeartbeats 1000000

/-- A room, a block and a code, told by a call. -/
def TriP (h h' : Heap) (u : Value) (x : GPipe) (ys : List Nat) (code : Int) : Prop := ∃ cs B cb, u = .tuple ⟨[.agg cs, .agg cb, .int .i64 code]⟩ ∧ rPipe.ow B cs.toList x ∧ FA 16 cb ys ∧ Mem h h' B
theorem TriP.go {P : Program} {f : FuncId} {args : Array Value} {x : GPipe} {ys : List Nat} {code : Int} {hb h : Heap} {L : List Blk} {K : Value → Heap → Prop} (M : Mem hb h L) (k : CALL P f args (fun u h' => TriP h h' u x ys code) h)
    (H : ∀ h' cs B cb, Mem hb h' (B ++ L) → rPipe.ow B cs.toList x → cs.size = rPipe.sz → FA 16 cb ys → K (.tuple ⟨[.agg cs, .agg cb, .int .i64 code]⟩) h') : CALL P f args K h :=
  k.mono fun u h' ⟨cs, B, cb, e, O, S, N⟩ => by subst e; exact H h' cs B cb (M.join N) O (by simpa using rPipe.olen O) S
def GPipe.blocked (x : GPipe) (xs : List Nat) : GPipe × List Nat × Int := if x.ok then ((x.play xs).1, (x.play xs).2, 0) else (z_Pipe, zeros16, 1)
def GPipe.pn (x : GPipe) (xs : List Nat) (n : Nat) : GPipe := (x.play (xs.take n)).1
def GPipe.pf (x : GPipe) (xs : List Nat) (n : Nat) : Nat := ((x.pn xs n).step xs[n]!).2
theorem ppn_step {x : GPipe} {xs : List Nat} {n : Nat} (hn : n < xs.length) : x.pn xs (n + 1) = ((x.pn xs n).step xs[n]!).1 := by unfold GPipe.pn; rw [take_snoc hn, pplay_append]
theorem ppf_all (x : GPipe) (xs : List Nat) : ∀ n, n ≤ xs.length → (x.play (xs.take n)).2 = (List.range n).map (x.pf xs)
  | 0, _ => rfl
  | n + 1, h => by
    rw [take_snoc (by omega), pplay_append, List.range_succ, List.map_append, ← ppf_all x xs n (by omega)]
    rfl
section
variable {h : Heap} {x : GPipe} {xs : List Nat}
theorem ppf_16 (hx : xs.length = 16) : mapI (x.pf xs) zeros16 16 = (x.play xs).2 := by
  rw [mapI_all (by decide), show zeros16.length = 16 from rfl, ← ppf_all x xs 16 (by omega), List.take_of_length_le (by omega)]
theorem ppn_16 (hx : xs.length = 16) : x.pn xs 16 = (x.play xs).1 := by unfold GPipe.pn; rw [List.take_of_length_le (by omega)]
theorem ppn_runs (R : x.Runs) (n : Nat) : (x.pn xs n).Runs := pplay_runs R _
theorem spec_BlockOfPipe_c {cs cb : Array Value} (R0 : rPipe.rd h cs.toList x) (Rb : FA 16 cb xs) : CALL prg f_spec_BlockOfPipe #[.agg cs, .agg cb] (fun u h' => TriP h h' u (x.blocked xs).1 (x.blocked xs).2.1 (x.blocked xs).2.2) h := by
  have hx16 : xs.length = 16 := Rb.1
  refine spec_BlockOfPipe.call ((Mem.start h).alc fun g1 h1 x1 M => M.alc fun g2 h2 x2 M => M.alc fun g3 h2 x2 M => M.alc fun g4 h2 x2 M => ?_)
  have R : RdP rPipe h2 ⟨g1, 0, none⟩ x := M.rdp (.there (.there (.there .here))) (rPipe.ext M.ext R0)
  refine goM M (l04Ok_c R) fun h3 M => as_b (br (fun hb => ?_) fun hb => ?_)
  · have e : x.blocked xs = (z_Pipe, zeros16, 1) := by unfold GPipe.blocked; rw [nt hb]; rfl
    rw [e]
    refine M.sta0 (.there .here) rfl (all_one rfl) rfl (.there .here) fun h3 M => M.sta0 .here rfl (all_one rfl) rfl .here fun h4 M => ?_
    refine M.lda0 (.there .here) rfl (M.lda0 .here rfl ?_)
    exact ⟨_, [], _, rfl, zow_Pipe, FA.zero, M.drop.drop.drop.drop⟩
  have hok := nf hb
  have e : x.blocked xs = ((x.play xs).1, (x.play xs).2, 0) := by unfold GPipe.blocked; rw [hok]; rfl
  rw [e]
  have hr := pipe_runs hok
  have R : RdP rPipe h3 ⟨g1, 0, none⟩ x := M.rdp (.there (.there (.there .here))) (rPipe.ext M.ext R0)
  refine NewR.go M (l04Copy_c R (pipe_small hok)) fun h4 c4 B4 M O4 s4 => as_a (M.alc fun g5 h5 x5 M => ?_)
  refine M.sta0 .here s4 (rPipe.oone O4) rfl .here fun h6 M => ?_
  refine M.alc fun g6 h7 x7 M => M.sta0 .here rfl (all_one rfl) rfl .here fun h7 M => ?_
  have M : Mem h h7 ((g6, T_impl_Block, ⟨Z_impl_Block⟩) :: (g5, T_impl_Pipe, c4) :: _) := M
  have P : Pt rPipe h h7 ⟨g5, 0, none⟩ ⟨g5, T_impl_Pipe, [], []⟩ ((g6, T_impl_Block, ⟨Z_impl_Block⟩) :: [(g4, T_impl_Block, ⟨Z_impl_Block⟩), (g3, T_impl_Pipe, ⟨Z_impl_Pipe⟩), (g2, T_impl_Block, cb)]) x := Pt.new O4 (M.cnt fun p => by simp only [cnt_app, cnt_cons, cnt_nil] at *; omega)
  refine loop (fun y hh => ∃ (n : Nat) (co : Array Value), y = (⟨g2, 0, none⟩, ⟨g3, 0, none⟩, ⟨g4, 0, none⟩, ⟨g5, 0, none⟩, ⟨g6, 0, none⟩, (n : Int)) ∧ n ≤ 16 ∧ FA 16 co (mapI (x.pf xs) zeros16 n) ∧
    Pt rPipe h hh ⟨g5, 0, none⟩ ⟨g5, T_impl_Pipe, [], []⟩ ((g6, T_impl_Block, co) :: [(g4, T_impl_Block, ⟨Z_impl_Block⟩), (g3, T_impl_Pipe, ⟨Z_impl_Pipe⟩), (g2, T_impl_Block, cb)]) (x.pn xs n))
    (fun y => (16 - y.2.2.2.2.2).toNat) ⟨0, _, rfl, by omega, by rw [mapI_zero]; exact FA.zero, P⟩ ?_
  rintro y hh ⟨n, co, rfl, hn, Fo, P⟩
  refine brd (fun hc => ?_) fun hc => ?_
  · refine idx (by omega) (by omega) ((Look.there (.there (.there .here))).oA P.mem Rb (i := n) (by omega) fun w hw => (l04Step_c P (ppn_runs hr n) hw).mono ?_)
    rintro _ h8 ⟨⟨y, rfl, hy⟩, P⟩
    refine as_f (idx (by omega) (by omega) (Pt.blkA P .here .here Fo (i := n) (by omega) hy fun h9 co' Fo' P => ⟨⟨n + 1, co', by rw [wrap64_succ (by omega)], by omega, ?_, ?_⟩, by rw [wrap64_succ (by omega)]; show _ < _; simp; omega⟩))
    · rw [← mapI16 (x.pf xs) (by omega)]; exact Fo'
    · rw [ppn_step (by omega)]; exact P
  obtain rfl : n = 16 := by omega
  rw [ppf_16 hx16] at Fo
  rw [ppn_16 hx16] at P
  obtain ⟨cs, B, M, O⟩ := P.out
  refine M.lda0 .here (osz O rfl) (M.lda0 (.there (Look.skip .here)) Fo.size ?_)
  have M := M.cnt (W := (g3, T_impl_Pipe, ⟨Z_impl_Pipe⟩) :: (g4, T_impl_Block, ⟨Z_impl_Block⟩) :: (g6, T_impl_Block, co) :: B) (fun p => by simp only [cnt_app, cnt_cons, cnt_nil] at *; omega)
  refine M.sta0 .here (osz O rfl) (rPipe.oone O) rfl .here fun h3 M2 => M.pin2 (.there (.there .here)) M2 (.there (.there .here)) (M2.sta0 (.there .here) Fo.size Fo.one rfl (.there .here) fun h4 M => ?_)
  refine M.lda0 .here (osz O rfl) (M.lda0 (.there .here) Fo.size ?_)
  exact ⟨_, B, _, rfl, O, Fo, M.drop.drop.drop⟩
end
section
variable {h : Heap} {x : GPipe} {xs : List Nat}
theorem impl_BlockOfPipe_c {cs cb : Array Value} (R0 : rPipe.rd h cs.toList x) (Rb : FA 16 cb xs) : CALL prg f_impl_BlockOfPipe #[.agg cs, .agg cb] (fun u h' => TriP h h' u (x.blocked xs).1 (x.blocked xs).2.1 (x.blocked xs).2.2) h := by
  have hx16 : xs.length = 16 := Rb.1
  refine impl_BlockOfPipe.call ((Mem.start h).alc fun g1 h1 x1 M => M.alc fun g2 h2 x2 M => M.alc fun g3 h2 x2 M => M.alc fun g4 h2 x2 M => M.lda0 (.there (.there (.there .here))) (rsz R0 rfl) ?_)
  refine goM M (ValidPipe_c (rPipe.ext M.ext R0)) fun h3 M => as_b (br (fun hb => ?_) fun hb => ?_)
  · have e : x.blocked xs = (z_Pipe, zeros16, 1) := by unfold GPipe.blocked; rw [nt hb]; rfl
    rw [e]
    refine M.sta0 (.there .here) rfl (all_one rfl) rfl (.there .here) fun h3 M => M.sta0 .here rfl (all_one rfl) rfl .here fun h4 M => ?_
    refine M.lda0 (.there .here) rfl (M.lda0 .here rfl ?_)
    exact ⟨_, [], _, rfl, zow_Pipe, FA.zero, M.drop.drop.drop.drop⟩
  have hok := nf hb
  have e : x.blocked xs = ((x.play xs).1, (x.play xs).2, 0) := by unfold GPipe.blocked; rw [hok]; rfl
  rw [e]
  have hr := pipe_runs hok
  refine M.lda0 (.there (.there (.there .here))) (rsz R0 rfl) (NewR.go M (Pipe_clone_c (rPipe.ext M.ext R0) (pipe_small hok)) fun h4 c4 B4 M O4 s4 => as_a ?_)
  have M := M.cnt (W := (g1, T_impl_Pipe, cs) :: (B4 ++ [(g4, T_impl_Block, ⟨Z_impl_Block⟩), (g3, T_impl_Pipe, ⟨Z_impl_Pipe⟩), (g2, T_impl_Block, cb)])) (fun p => by simp only [cnt_app, cnt_cons, cnt_nil] at *; omega)
  refine M.sta0 .here s4 (rPipe.oone O4) (rsz R0 rfl) .here fun h6 M => ?_
  have P : Pt rPipe h h6 ⟨g1, 0, none⟩ ⟨g1, T_impl_Pipe, [], []⟩ [(g4, T_impl_Block, ⟨Z_impl_Block⟩), (g3, T_impl_Pipe, ⟨Z_impl_Pipe⟩), (g2, T_impl_Block, cb)] (x.pn xs 0) := Pt.new O4 M
  refine (made_c (X := x.pn xs) (f := x.pf xs) P fun n hh W hn P => ?_).mono ?_
  · show CALL prg f_impl_BlockOfPipe_c1 #[.int .i64 (n : Int), .pointer (some ⟨g1, 0, none⟩), .pointer (some ⟨g2, 0, none⟩)] _ hh
    refine impl_BlockOfPipe_c1.call (idx (by omega) (by omega) ((Look.skip (.there (.there .here))).oA P.mem Rb (i := n) hn fun w hw => (Pipe_step_c P (ppn_runs hr n) hw).mono ?_))
    rintro _ h8 ⟨⟨y, rfl, hy⟩, P⟩
    refine as_f ⟨⟨y, rfl, hy⟩, ?_⟩
    rw [ppn_step (by omega)]; exact P
  rintro _ h7 ⟨co, rfl, Fo, P⟩
  rw [ppf_16 hx16] at Fo
  rw [ppn_16 hx16] at P
  refine as_a ((Mem.start h7).alc fun g5 h8 x8 N => N.sta0 .here Fo.size Fo.one rfl .here fun h9 N => ?_)
  have P := P.join N
  obtain ⟨cs, B, M, O⟩ := P.out
  refine M.lda0 .here (osz O rfl) (M.lda0 (.there (Look.skip .here)) Fo.size ?_)
  have M := M.cnt (W := (g3, T_impl_Pipe, ⟨Z_impl_Pipe⟩) :: (g4, T_impl_Block, ⟨Z_impl_Block⟩) :: (g5, T_impl_Block, co) :: B) (fun p => by simp only [cnt_app, cnt_cons, cnt_nil] at *; omega)
  refine M.sta0 .here (osz O rfl) (rPipe.oone O) rfl .here fun h3 M2 => M.pin2 (.there (.there .here)) M2 (.there (.there .here)) (M2.sta0 (.there .here) Fo.size Fo.one rfl (.there .here) fun h4 M => ?_)
  refine M.lda0 .here (osz O rfl) (M.lda0 (.there .here) Fo.size ?_)
  exact ⟨_, B, _, rfl, O, Fo, M.drop.drop.drop⟩
theorem w_rings : ∀ {l : List GRing}, (∀ r ∈ l, r.ok = true) → nL w_Ring l ≤ 1024 * l.length
  | [], _ => by simp [nL]
  | r :: l, h => by
    have h1 := at_lt (h r (.head _))
    have h2 := w_rings (l := l) fun r hr => h r (.tail _ hr)
    have h3 := ring_nw r
    simp only [nL, List.length_cons]; omega
theorem w_pruns (R : x.Runs) : w_Pipe x ≤ 1048576 := by
  have h1 := w_rings R.r
  have h2 := w_rings R.l
  have n1 := R.n1
  have n3 := R.n3
  have ll := R.ll
  have sl := R.sl
  unfold w_Pipe w_RingS w_Float32S
  omega
theorem pw_blocked : w_Pipe (x.blocked xs).1 ≤ 1048576 := by
  unfold GPipe.blocked
  split
  · next hok => exact w_pruns (pplay_runs (pipe_runs hok) xs)
  · show w_Pipe z_Pipe ≤ 1048576
    decide
end
end Go.Sx
