/- BlockOfRoom: the rule and the program. -/
import Derived.Test.YtdhhfilfcpljoaaGreatLs4
import Derived.Test.YtdhhfilfcpljoaaGreatLw0
import Derived.Test.YtdhhfilfcpljoaaGreatBlockOfRoom
set_option linter.unusedVariables false
set_option linter.unusedSimpArgs false
namespace Go.Sx
open Go.Proofs
set_option maxRecDepth 100000
set_option maxHeartbeats 1000000

/-- n floats, wherever they lie. -/
def FA (n : Nat) (cs : Array Value) (xs : List Nat) : Prop := (rArr n (rF .f32)).rd #[] cs.toList xs
section
variable {n : Nat} {cs : Array Value} {xs : List Nat}
theorem FA.rd (R : FA n cs xs) (h : Heap) : (rArr n (rF .f32)).rd h cs.toList xs := ⟨R.1, rdsF_any R.2⟩
theorem FA.of {h : Heap} (R : (rArr n (rF .f32)).rd h cs.toList xs) : FA n cs xs := ⟨R.1, rdsF_any R.2⟩
theorem FA.size (R : FA n cs xs) : cs.size = n := by have := rsz R rfl; rw [this]; exact Nat.mul_one n
theorem FA.one (R : FA n cs xs) : ∀ v ∈ cs.toList, v.oneCell' = true := (rArr n (rF .f32)).rone R
end
def zeros16 : List Nat := List.replicate 16 0
theorem FA.zero : FA 16 ⟨Z_impl_Block⟩ zeros16 := ⟨rfl, rdsF_any (h := #[]) ((zeros_fl 16).look (Mem.start #[]) (List.Sublist.refl _))⟩
section
variable {h0 h : Heap} {q : Addr} {F : Fr} {L : List Blk} {n : Nat}
theorem Pt.blkA {α : Type} {r : Rep α} {d : α} {g T i y b : Nat} {cs : Array Value} {xs : List Nat} {L' : List Blk} {K : Heap → Prop} (P : Pt r h0 h q F L d) (l : Look L g cs) (k : Pick L g T cs L') (R : FA n cs xs) (hi : i < n) (hy : FW .f32 y b)
    (H : ∀ h' cs', FA n cs' (xs.set i b) → Pt r h0 h' q F ((g, T, cs') :: L') d → K h') : ST1 h ((⟨g, 0, none⟩ : Addr).add (i * 1)) (.float .f32 y) K := by
  rw [add_none, Nat.zero_add]
  refine P.blk1 l (by rw [R.size]; omega) k fun h' P' => H h' _ ?_ P'
  rw [Nat.mul_one]
  exact arr_set hy R
theorem Look.oA {g i : Nat} {cs : Array Value} {xs : List Nat} {K : Nat → Prop} (l : Look L g cs) (M : Mem h0 h L) (R : FA n cs xs) (hi : i < n) (H : ∀ y, FW .f32 y xs[i]! → K y) : Sx.oF .f32 (cell h ((⟨g, 0, none⟩ : Addr).add (i * 1))) K :=
  ((M.rdp l (R.rd h)).elem (i := i) hi).oF1 H
theorem Mem.pin2 {h0' h' : Heap} {L' : List Blk} {g m : Nat} {cs : Array Value} {p : Prop} (M : Mem h0 h L) (l : Look L g cs) (M' : Mem h0' h' L') (l' : Look L' g cs) (H : p) : PIN h ⟨g, 0, none⟩ m h' p :=
  ⟨fun j _ => by rw [add_g, M.cell l, M'.cell l'], H⟩
end
/-- A room, a block and a code, told by a call. -/
def TriB (h h' : Heap) (u : Value) (x : GRoom) (ys : List Nat) (code : Int) : Prop := ∃ cs B cb, u = .tuple ⟨[.agg cs, .agg cb, .int .i64 code]⟩ ∧ rRoom.ow B cs.toList x ∧ FA 16 cb ys ∧ Mem h h' B
theorem TriB.go {P : Program} {f : FuncId} {args : Array Value} {x : GRoom} {ys : List Nat} {code : Int} {hb h : Heap} {L : List Blk} {K : Value → Heap → Prop} (M : Mem hb h L) (k : CALL P f args (fun u h' => TriB h h' u x ys code) h)
    (H : ∀ h' cs B cb, Mem hb h' (B ++ L) → rRoom.ow B cs.toList x → cs.size = rRoom.sz → FA 16 cb ys → K (.tuple ⟨[.agg cs, .agg cb, .int .i64 code]⟩) h') : CALL P f args K h :=
  k.mono fun u h' ⟨cs, B, cb, e, O, S, N⟩ => by subst e; exact H h' cs B cb (M.join N) O (by simpa using rRoom.olen O) S
def GRoom.blocked (x : GRoom) (xs : List Nat) : GRoom × List Nat × Int := if x.ok then ((x.play xs).1, (x.play xs).2, 0) else (z_Room, zeros16, 1)
def GRoom.pn (x : GRoom) (xs : List Nat) (n : Nat) : GRoom := (x.play (xs.take n)).1
def GRoom.pf (x : GRoom) (xs : List Nat) (n : Nat) : Nat := ((x.pn xs n).step xs[n]!).2
theorem pn_step {x : GRoom} {xs : List Nat} {n : Nat} (hn : n < xs.length) : x.pn xs (n + 1) = ((x.pn xs n).step xs[n]!).1 := by unfold GRoom.pn; rw [take_snoc hn, play_append]
theorem pf_all (x : GRoom) (xs : List Nat) : ∀ n, n ≤ xs.length → (x.play (xs.take n)).2 = (List.range n).map (x.pf xs)
  | 0, _ => rfl
  | n + 1, h => by
    rw [take_snoc (by omega), play_append, List.range_succ, List.map_append, ← pf_all x xs n (by omega)]
    rfl
section
variable {h : Heap} {x : GRoom} {xs : List Nat}
theorem pf_16 (hx : xs.length = 16) : mapI (x.pf xs) zeros16 16 = (x.play xs).2 := by
  rw [mapI_all (by decide), show zeros16.length = 16 from rfl, ← pf_all x xs 16 (by omega), List.take_of_length_le (by omega)]
theorem pn_16 (hx : xs.length = 16) : x.pn xs 16 = (x.play xs).1 := by unfold GRoom.pn; rw [List.take_of_length_le (by omega)]
theorem pn_runs (R : x.Runs) (n : Nat) : (x.pn xs n).Runs := play_runs R _
theorem mapI16 {n : Nat} (f : Nat → Nat) (h : n < 16) : (mapI f zeros16 n).set n (f n) = mapI f zeros16 (n + 1) := mapI_set h
theorem spec_BlockOfRoom_c {cs cb : Array Value} (R0 : rRoom.rd h cs.toList x) (Rb : FA 16 cb xs) : CALL prg f_spec_BlockOfRoom #[.agg cs, .agg cb] (fun u h' => TriB h h' u (x.blocked xs).1 (x.blocked xs).2.1 (x.blocked xs).2.2) h := by
  have hx16 : xs.length = 16 := Rb.1
  refine spec_BlockOfRoom.call ((Mem.start h).alc fun g1 h1 x1 M => M.alc fun g2 h2 x2 M => M.alc fun g3 h2 x2 M => M.alc fun g4 h2 x2 M => ?_)
  have R : RdP rRoom h2 ⟨g1, 0, none⟩ x := M.rdp (.there (.there (.there .here))) (rRoom.ext M.ext R0)
  refine goM M (l06Ok_c R) fun h3 M => as_b (br (fun hb => ?_) fun hb => ?_)
  · have e : x.blocked xs = (z_Room, zeros16, 1) := by unfold GRoom.blocked; rw [nt hb]; rfl
    rw [e]
    refine M.sta0 (.there .here) rfl (all_one rfl) rfl (.there .here) fun h3 M => M.sta0 .here rfl (all_one rfl) rfl .here fun h4 M => ?_
    refine M.lda0 (.there .here) rfl (M.lda0 .here rfl ?_)
    exact ⟨_, [], _, rfl, zow_Room, FA.zero, M.drop.drop.drop.drop⟩
  have hok := nf hb
  have e : x.blocked xs = ((x.play xs).1, (x.play xs).2, 0) := by unfold GRoom.blocked; rw [hok]; rfl
  rw [e]
  have hr := room_runs R0 hok
  have R : RdP rRoom h3 ⟨g1, 0, none⟩ x := M.rdp (.there (.there (.there .here))) (rRoom.ext M.ext R0)
  refine NewR.go M (l06Copy_c R (ok_small hok)) fun h4 c4 B4 M O4 s4 => as_a (M.alc fun g5 h5 x5 M => ?_)
  refine M.sta0 .here s4 (rRoom.oone O4) rfl .here fun h6 M => ?_
  refine M.alc fun g6 h7 x7 M => M.sta0 .here rfl (all_one rfl) rfl .here fun h7 M => ?_
  have M : Mem h h7 ((g6, T_impl_Block, ⟨Z_impl_Block⟩) :: (g5, T_impl_Room, c4) :: _) := M
  have P : Pt rRoom h h7 ⟨g5, 0, none⟩ ⟨g5, T_impl_Room, [], []⟩ ((g6, T_impl_Block, ⟨Z_impl_Block⟩) :: [(g4, T_impl_Block, ⟨Z_impl_Block⟩), (g3, T_impl_Room, ⟨Z_impl_Room⟩), (g2, T_impl_Block, cb)]) x := Pt.new O4 (M.cnt fun p => by simp only [cnt_app, cnt_cons, cnt_nil] at *; omega)
  refine loop (fun y hh => ∃ (n : Nat) (co : Array Value), y = (⟨g2, 0, none⟩, ⟨g3, 0, none⟩, ⟨g4, 0, none⟩, ⟨g5, 0, none⟩, ⟨g6, 0, none⟩, (n : Int)) ∧ n ≤ 16 ∧ FA 16 co (mapI (x.pf xs) zeros16 n) ∧
    Pt rRoom h hh ⟨g5, 0, none⟩ ⟨g5, T_impl_Room, [], []⟩ ((g6, T_impl_Block, co) :: [(g4, T_impl_Block, ⟨Z_impl_Block⟩), (g3, T_impl_Room, ⟨Z_impl_Room⟩), (g2, T_impl_Block, cb)]) (x.pn xs n))
    (fun y => (16 - y.2.2.2.2.2).toNat) ⟨0, _, rfl, by omega, by rw [mapI_zero]; exact FA.zero, P⟩ ?_
  rintro y hh ⟨n, co, rfl, hn, Fo, P⟩
  refine brd (fun hc => ?_) fun hc => ?_
  · refine idx (by omega) (by omega) ((Look.there (.there (.there .here))).oA P.mem Rb (i := n) (by omega) fun w hw => (l06Step_c P (pn_runs hr n) hw).mono ?_)
    rintro _ h8 ⟨⟨y, rfl, hy⟩, P⟩
    refine as_f (idx (by omega) (by omega) (Pt.blkA P .here .here Fo (i := n) (by omega) hy fun h9 co' Fo' P => ⟨⟨n + 1, co', by rw [wrap64_succ (by omega)], by omega, ?_, ?_⟩, by rw [wrap64_succ (by omega)]; show _ < _; simp; omega⟩))
    · rw [← mapI16 (x.pf xs) (by omega)]; exact Fo'
    · rw [pn_step (by omega)]; exact P
  obtain rfl : n = 16 := by omega
  rw [pf_16 hx16] at Fo
  rw [pn_16 hx16] at P
  obtain ⟨cs, B, M, O⟩ := P.out
  refine M.lda0 .here (osz O rfl) (M.lda0 (.there (Look.skip .here)) Fo.size ?_)
  have M := M.cnt (W := (g3, T_impl_Room, ⟨Z_impl_Room⟩) :: (g4, T_impl_Block, ⟨Z_impl_Block⟩) :: (g6, T_impl_Block, co) :: B) (fun p => by simp only [cnt_app, cnt_cons, cnt_nil] at *; omega)
  refine M.sta0 .here (osz O rfl) (rRoom.oone O) rfl .here fun h3 M2 => M.pin2 (.there (.there .here)) M2 (.there (.there .here)) (M2.sta0 (.there .here) Fo.size Fo.one rfl (.there .here) fun h4 M => ?_)
  refine M.lda0 .here (osz O rfl) (M.lda0 (.there .here) Fo.size ?_)
  exact ⟨_, B, _, rfl, O, Fo, M.drop.drop.drop⟩
end
section
variable {h0 h : Heap} {q : Addr} {F : Fr} {L : List Blk} {n : Nat}
theorem Pt.blkW {α : Type} {r : Rep α} {d : α} {g T : Nat} {cs vs : Array Value} {L' : List Blk} {K : Heap → Prop} (P : Pt r h0 h q F L d) (k : Pick L g T cs L') (hn : cs.size = n) (hv : vs.size = n) (ho : ∀ v ∈ vs.toList, v.oneCell' = true)
    (H : ∀ h', Pt r h0 h' q F ((g, T, vs) :: L') d → K h') : STA n h ⟨g, 0, none⟩ vs K := by
  obtain ⟨e, mid, B, M, O⟩ := P
  have N := M.pick (.there (Pick.skip k))
  exact N.sta0 .here hv ho hn .here fun h' M' => H h' ⟨e, mid, B, M'.cnt fun p => by simp only [cnt_app, cnt_cons, cnt_nil]; omega, O⟩
/-- A block made sample by sample, by a function that moves own data on. -/
theorem made_c {α : Type} {r : Rep α} {X : Nat → α} {f : Nat → Nat} {of : Value} (P : Pt r h0 h q F L (X 0))
    (C : ∀ (n : Nat) (hh : Heap) (W : List Blk), n < 16 → Pt r h0 hh q F (W ++ L) (X n) → CALLD prg of #[.int .i64 (n : Int)] (fun u h' => (∃ y, u = .float .f32 y ∧ FW .f32 y (f n)) ∧ Pt r h0 h' q F (W ++ L) (X (n + 1))) hh) :
    CALL prg f_impl_made #[of] (fun u h' => ∃ cb, u = .agg cb ∧ FA 16 cb (mapI f zeros16 16) ∧ Pt r h0 h' q F L (X 16)) h := by
  refine impl_made.call ((Mem.start h).alc fun g1 h1 x1 N => N.alc fun g2 h2 x2 N => ?_)
  have P : Pt r h0 h2 q F ((g2, T_impl_Block, ⟨Z_impl_Block⟩) :: (g1, T_impl_Block, ⟨Z_impl_Block⟩) :: L) (X 0) := P.join N
  refine loop (fun y hh => ∃ (n : Nat) (co : Array Value), y = (of, ⟨g1, 0, none⟩, ⟨g2, 0, none⟩, (n : Int)) ∧ n ≤ 16 ∧ FA 16 co (mapI f zeros16 n) ∧ Pt r h0 hh q F ((g2, T_impl_Block, co) :: (g1, T_impl_Block, ⟨Z_impl_Block⟩) :: L) (X n))
    (fun y => (16 - y.2.2.2).toNat) ⟨0, _, rfl, by omega, by rw [mapI_zero]; exact FA.zero, P⟩ ?_
  rintro y hh ⟨n, co, rfl, hn, Fo, P⟩
  refine brd (fun hc => ?_) fun hc => ?_
  · refine (C n hh [(g2, T_impl_Block, co), (g1, T_impl_Block, ⟨Z_impl_Block⟩)] (by omega) P).mono ?_
    rintro _ h8 ⟨⟨y, rfl, hy⟩, P⟩
    refine as_f (idx (by omega) (by omega) (Pt.blkA P .here .here Fo (i := n) (by omega) hy fun h9 co' Fo' P => ⟨⟨n + 1, co', by rw [wrap64_succ (by omega)], by omega, ?_, P⟩, by rw [wrap64_succ (by omega)]; show _ < _; simp; omega⟩))
    rw [← mapI16 f (by omega)]; exact Fo'
  obtain rfl : n = 16 := by omega
  refine P.mem.lda0 .here Fo.size (P.blkW (.there .here) rfl Fo.size Fo.one fun h3 P => P.mem.lda0 .here Fo.size ?_)
  exact ⟨co, rfl, Fo, P.sub (.cons _ (.cons _ (List.Sublist.refl _)))⟩
end
section
variable {h : Heap} {x : GRoom} {xs : List Nat}
theorem impl_BlockOfRoom_c {cs cb : Array Value} (R0 : rRoom.rd h cs.toList x) (Rb : FA 16 cb xs) : CALL prg f_impl_BlockOfRoom #[.agg cs, .agg cb] (fun u h' => TriB h h' u (x.blocked xs).1 (x.blocked xs).2.1 (x.blocked xs).2.2) h := by
  have hx16 : xs.length = 16 := Rb.1
  refine impl_BlockOfRoom.call ((Mem.start h).alc fun g1 h1 x1 M => M.alc fun g2 h2 x2 M => M.alc fun g3 h2 x2 M => M.alc fun g4 h2 x2 M => M.lda0 (.there (.there (.there .here))) (rsz R0 rfl) ?_)
  refine goM M (ValidRoom_c (rRoom.ext M.ext R0)) fun h3 M => as_b (br (fun hb => ?_) fun hb => ?_)
  · have e : x.blocked xs = (z_Room, zeros16, 1) := by unfold GRoom.blocked; rw [nt hb]; rfl
    rw [e]
    refine M.sta0 (.there .here) rfl (all_one rfl) rfl (.there .here) fun h3 M => M.sta0 .here rfl (all_one rfl) rfl .here fun h4 M => ?_
    refine M.lda0 (.there .here) rfl (M.lda0 .here rfl ?_)
    exact ⟨_, [], _, rfl, zow_Room, FA.zero, M.drop.drop.drop.drop⟩
  have hok := nf hb
  have e : x.blocked xs = ((x.play xs).1, (x.play xs).2, 0) := by unfold GRoom.blocked; rw [hok]; rfl
  rw [e]
  have hr := room_runs R0 hok
  refine M.lda0 (.there (.there (.there .here))) (rsz R0 rfl) (NewR.go M (Room_clone_c (rRoom.ext M.ext R0) (ok_small hok)) fun h4 c4 B4 M O4 s4 => as_a ?_)
  have M := M.cnt (W := (g1, T_impl_Room, cs) :: (B4 ++ [(g4, T_impl_Block, ⟨Z_impl_Block⟩), (g3, T_impl_Room, ⟨Z_impl_Room⟩), (g2, T_impl_Block, cb)])) (fun p => by simp only [cnt_app, cnt_cons, cnt_nil] at *; omega)
  refine M.sta0 .here s4 (rRoom.oone O4) (rsz R0 rfl) .here fun h6 M => ?_
  have P : Pt rRoom h h6 ⟨g1, 0, none⟩ ⟨g1, T_impl_Room, [], []⟩ [(g4, T_impl_Block, ⟨Z_impl_Block⟩), (g3, T_impl_Room, ⟨Z_impl_Room⟩), (g2, T_impl_Block, cb)] (x.pn xs 0) := Pt.new O4 M
  refine (made_c (X := x.pn xs) (f := x.pf xs) P fun n hh W hn P => ?_).mono ?_
  · show CALL prg f_impl_BlockOfRoom_c1 #[.int .i64 (n : Int), .pointer (some ⟨g1, 0, none⟩), .pointer (some ⟨g2, 0, none⟩)] _ hh
    refine impl_BlockOfRoom_c1.call (idx (by omega) (by omega) ((Look.skip (.there (.there .here))).oA P.mem Rb (i := n) hn fun w hw => (Room_step_c P (pn_runs hr n) hw).mono ?_))
    rintro _ h8 ⟨⟨y, rfl, hy⟩, P⟩
    refine as_f ⟨⟨y, rfl, hy⟩, ?_⟩
    rw [pn_step (by omega)]; exact P
  rintro _ h7 ⟨co, rfl, Fo, P⟩
  rw [pf_16 hx16] at Fo
  rw [pn_16 hx16] at P
  refine as_a ((Mem.start h7).alc fun g5 h8 x8 N => N.sta0 .here Fo.size Fo.one rfl .here fun h9 N => ?_)
  have P := P.join N
  obtain ⟨cs, B, M, O⟩ := P.out
  refine M.lda0 .here (osz O rfl) (M.lda0 (.there (Look.skip .here)) Fo.size ?_)
  have M := M.cnt (W := (g3, T_impl_Room, ⟨Z_impl_Room⟩) :: (g4, T_impl_Block, ⟨Z_impl_Block⟩) :: (g5, T_impl_Block, co) :: B) (fun p => by simp only [cnt_app, cnt_cons, cnt_nil] at *; omega)
  refine M.sta0 .here (osz O rfl) (rRoom.oone O) rfl .here fun h3 M2 => M.pin2 (.there (.there .here)) M2 (.there (.there .here)) (M2.sta0 (.there .here) Fo.size Fo.one rfl (.there .here) fun h4 M => ?_)
  refine M.lda0 .here (osz O rfl) (M.lda0 (.there .here) Fo.size ?_)
  exact ⟨_, B, _, rfl, O, Fo, M.drop.drop.drop⟩
theorem w_blocked {cs : List Value} (R0 : rRoom.rd h cs x) (ht : (x.play xs).1.Taps = x.Taps) : w_Room (x.blocked xs).1 ≤ 1048576 := by
  unfold GRoom.blocked
  split
  · next hok =>
    have ht : (x.play xs).1.Taps.length ≤ 6 := by rw [ht]; exact ok_taps hok
    exact w_runs (play_runs (room_runs R0 hok) xs) ht
  · exact w_zero
end
end Go.Sx
