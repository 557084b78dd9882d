/- New players. -/
import Derived.Test.YthhepeklpgefkaaGreatDoorLm5
import Derived.Test.YthhepeklpgefkaaGreatDoorLk37
import Derived.Test.YthhepeklpgefkaaGreatDoorLk2
import Derived.Test.YthhepeklpgefkaaGreatDoorLh0
import Derived.Test.YthhepeklpgefkaaGreatDoorNewPlayer
set_option linter.unusedVariables false
set_option linter.unusedSimpArgs false
namespace Go.Sx
open Go.Proofs
set_option maxRecDepth 100000
set_option maxHeartbeats 1000000

def freeV : GVoice := { z_Voice with Note := -1 }
def freeVC : List Value := [.int .i64 (-1 : Int), .int .i64 (0 : Int), .int .i64 (0 : Int), .bool false, .float .f32 0, .slice none 0 0, .int .i64 (0 : Int), .int .i64 (0 : Int), .float .f32 0, .float .f32 0, .float .f32 0, .float .f32 0, .float .f32 0, .int .i64 (0 : Int), .float .f32 0, .float .f32 0, .float .f32 0, .float .f32 0, .float .f32 0, .float .f32 0, .slice none 0 0, .slice none 0 0, .slice none 0 0, .int .i64 (0 : Int), .float .f32 0, .float .f32 0, .float .f32 0, .float .f32 0, .float .f32 0, .bool false, .float .f32 0, .float .f32 0, .float .f32 0, .slice none 0 0, .int .i64 (0 : Int), .slice none 0 0, .int .i64 (0 : Int), .int .i64 (0 : Int), .float .f32 0, .float .f32 0, .float .f32 0, .float .f32 0, .float .f32 0, .float .f32 0, .float .f32 0]
theorem zow_free : rVoice.ow [] freeVC freeV := by
  obtain ⟨B1, B2, v1, v2, hB, hv, h1, h2⟩ := zow_Voice
  obtain ⟨rfl, rfl⟩ := h1
  obtain rfl : B2 = [] := by simpa using hB.symm
  exact ⟨[], [], [.int .i64 (-1 : Int)], v2, rfl, by have := congrArg List.tail hv; rw [freeVC, show v2 = _ from this.symm]; rfl, ⟨rfl, rfl⟩, h2⟩
noncomputable def GScore.newPlayer (s : GScore) (n : Int) : GPlayer × Int := if s.ok then if inR n 1 6 then ({ z_Player with Score := s, Voices := List.replicate n.toNat freeV }, 0) else (z_Player, 2) else (z_Player, 1)
theorem player_ow {s : GScore} {vs : List GVoice} {sc : List Value} {Bs B : List Blk} {b : Option Addr} {l c : Nat} (Os : rScore.ow Bs sc s) (O : SlO T_impl_Voice rVoice B b l c vs) (n1 n2 n3 : Int) : rPlayer.ow (Bs ++ B) (sc ++ [.slice b l c, .int .i64 n1, .int .i64 n2, .int .i64 n3]) ⟨s, vs, n1, n2, n3⟩ :=
  ⟨Bs, B, sc, _, rfl, rfl, Os, B, [], [.slice b l c], _, by simp, rfl, ⟨b, l, c, rfl, O⟩, [], [], [.int .i64 n1], _, rfl, rfl, ⟨rfl, rfl⟩, [], [], [.int .i64 n2], _, rfl, rfl, ⟨rfl, rfl⟩, ⟨rfl, rfl⟩⟩
section
variable {h : Heap}
theorem Mem.pin1 {h0 h' : Heap} {L : List Blk} {g j : Nat} {cs : Array Value} {p : Prop} (M : Mem h0 h L) (l : Look L g cs) (hj : j < cs.size) (X : Ext h h') (H : p) : PIN h ⟨g, j, none⟩ 1 h' p := by
  refine Sx.pin X (fun k hk => ⟨cs[j], ?_⟩) H
  obtain rfl : k = 0 := by omega
  rw [add0, M.cell l]
  simp [hj]
theorem spec_FreeVoice_c : CALL prg f_spec_FreeVoice #[] (fun u h' => u = .agg ⟨freeVC⟩ ∧ Ext h h') h :=
  spec_FreeVoice.call ((Mem.start h).alc fun g1 h1 x1 M => M.sta0 .here rfl (all_one rfl) rfl .here fun h2 M => M.lda0 .here rfl ⟨rfl, M.ext⟩)
theorem FreeVoice_c : CALL prg f_impl_FreeVoice #[] (fun u h' => u = .agg ⟨freeVC⟩ ∧ Ext h h') h :=
  impl_FreeVoice.call ((Mem.start h).alc fun g1 h1 x1 M => M.sta0 .here rfl (all_one rfl) rfl .here fun h2 M => M.lda0 .here rfl ⟨rfl, M.ext⟩)
/-- A player's cells. -/
def plC (y1 y2 y3 : Nat) (b1 : Option Addr) (l1 c1 : Nat) (b2 : Option Addr) (l2 c2 : Nat) (b3 : Option Addr) (l3 c3 : Nat) (b : Option Addr) (l c : Nat) : List Value :=
  scC y1 y2 y3 b1 l1 c1 b2 l2 c2 b3 l3 c3 ++ [.slice b l c, .int .i64 (0 : Int), .int .i64 (0 : Int), .int .i64 (0 : Int)]
theorem pl_one {y1 y2 y3 : Nat} {b1 b2 b3 b : Option Addr} {l1 c1 l2 c2 l3 c3 l c : Nat} : ∀ v ∈ (⟨plC y1 y2 y3 b1 l1 c1 b2 l2 c2 b3 l3 c3 b l c⟩ : Array Value).toList, v.oneCell' = true := fun v hv => by
  simp only [plC, scC, List.mem_cons, List.mem_nil_iff, or_false, List.cons_append, List.nil_append] at hv
  rcases hv with rfl | rfl | rfl | rfl | rfl | rfl | rfl | rfl | rfl | rfl <;> rfl
/-- A free voice appended to the voices of a player in a block. -/
theorem push_free {h0 hh : Heap} {L : List Blk} {g T : Nat} {sc : List Value} {b : Option Addr} {i c : Nat} {B : List Blk} {K : Value → Heap → Prop} {ty : Nat} {hb : Heap} (hs : sc.length = 6) (O : SlO T_impl_Voice rVoice B b i c (List.replicate i freeV)) (hi : i < 6)
    (M : Mem h0 hh ((g, T, ⟨sc ++ [.slice b i c, .int .i64 (0 : Int), .int .i64 (0 : Int), .int .i64 (0 : Int)]⟩) :: (B ++ L)))
    (Hp : ∀ (h' : Heap) (p : Prop), Ext hh h' → p → PIN hb ⟨g, 6, none⟩ 1 h' p)
    (H : ∀ b' c' h' B', SlO T_impl_Voice rVoice B' b' (i + 1) c' (List.replicate (i + 1) freeV) → Mem h0 h' ((g, T, ⟨sc ++ [.slice b i c, .int .i64 (0 : Int), .int .i64 (0 : Int), .int .i64 (0 : Int)]⟩) :: (B' ++ L)) → K (.slice b' (i + 1) c') h') :
    ALC ⟨freeVC⟩ T_impl_Voice (fun g1 h1 => PIN hb ⟨g, 6, none⟩ 1 h1 <| SEMV prg (Builtin.append_ #[T_sl_impl_Voice, T_sl_impl_Voice] ty #[.slice b i c, .slice (some ⟨g1, 0, none⟩) 1 1]) K h1) hh := by
  have hm : (7 : Nat) ≤ maxLen := by decide
  refine M.alc fun g1 h1 x1 M1 => Hp _ _ x1 ?_
  have M2 : Mem h0 h1 (B ++ ([] ++ ((g1, T_impl_Voice, ⟨freeVC⟩) :: (g, T, ⟨sc ++ [.slice b i c, .int .i64 (0 : Int), .int .i64 (0 : Int), .int .i64 (0 : Int)]⟩) :: L))) := M1.cnt (fun p => by simp only [cnt_app, cnt_cons, cnt_nil] at *; omega)
  refine O.app (news := freeVC) E_sl_impl_Voice M2 (ys := [freeV]) rfl ⟨[], [], freeVC, [], rfl, by simp, zow_free, rfl, rfl⟩ (fun j v hj => ?_) (by omega) (by omega) fun b' c' h' B' O' M' => H b' c' h' B' ?_ (M'.cnt (fun p => by simp only [cnt_app, cnt_cons, cnt_nil] at *; omega))
  · rw [add_none, Nat.zero_add, M1.cell .here, ← hj]; simp
  · rw [List.replicate_succ']; exact O'
theorem spec_NewPlayer_c {cs : Array Value} {s : GScore} {n : Int} (R0 : rScore.rd h cs.toList s) : CALL prg f_spec_NewPlayer #[.agg cs, .int .i64 n] (fun u h' => PairR rPlayer h h' u (s.newPlayer n).1 (s.newPlayer n).2) h := by
  refine spec_NewPlayer.call ((Mem.start h).alc fun g1 h1 x1 M => M.alc fun g3 h2 x2 M => ?_)
  have R : RdP rScore h2 ⟨g1, 0, none⟩ s := M.rdp (.there .here) (rScore.ext M.ext R0)
  have bad : ∀ {hh : Heap} {L : List Blk} {k : Int}, Mem h hh ((g3, T_impl_Player, ⟨Z_impl_Player⟩) :: L) → s.newPlayer n = (z_Player, k) →
      STA 10 hh ⟨g3, 0, none⟩ ⟨Z_impl_Player⟩ fun h8 => LDA 10 h8 ⟨g3, 0, none⟩ fun a9 => PairR rPlayer h h8 (.tuple ⟨[.agg a9, .int .i64 k]⟩) (s.newPlayer n).1 (s.newPlayer n).2 := fun M e => by
    rw [e]
    exact M.sta0 .here rfl (all_one rfl) rfl .here fun h3 M => M.lda0 .here rfl ⟨_, [], rfl, zow_Player, (Mem.start h).grow M.ext⟩
  refine goM M (l08Ok_c R) fun h3 M => as_b (brN (fun hb => bad M (by unfold GScore.newPlayer; rw [hb]; rfl)) fun hok => ?_)
  refine goM M (l00In_c _ _ _ _) fun h4 M => as_b (brN (fun hb => bad M (by unfold GScore.newPlayer; rw [hok, hb]; rfl)) fun hn => ?_)
  have hn2 : 1 ≤ n ∧ n ≤ 6 := by simp only [inR, Bool.and_eq_true, decide_eq_true_eq] at hn; exact hn
  have R : RdP rScore h4 ⟨g1, 0, none⟩ s := M.rdp (.there .here) (rScore.ext M.ext R0)
  have fine : s.newPlayer n = ({ z_Player with Score := s, Voices := List.replicate n.toNat freeV }, 0) := by unfold GScore.newPlayer; rw [hok, hn]; rfl
  refine NewR.go M (l08Copy_c R hok) fun h5 c5 B5 M O5 s5 => as_a (siz s5 ?_)
  have Rc := rScore.look O5 M (List.sublist_append_left _ _)
  obtain ⟨y1, y2, y3, b1, l1, c1, b2, l2, c2, b3, l3, c3, rfl, _⟩ := score_cells Rc
  clear Rc
  refine M.alc fun g18 h6 x6 M => M.sta0 .here rfl (pl_one (b := none) (l := 0) (c := 0)) rfl .here fun h7 M => ?_
  refine loop (fun y hh => ∃ (i : Nat) (b : Option Addr) (c : Nat) (B : List Blk), y = (n, ⟨g3, 0, none⟩, ⟨g18, 0, none⟩, (i : Int)) ∧ i ≤ n.toNat ∧ SlO T_impl_Voice rVoice B b i c (List.replicate i freeV) ∧ Mem h hh ((g18, T_impl_Player, ⟨plC y1 y2 y3 b1 l1 c1 b2 l2 c2 b3 l3 c3 b i c⟩) :: (B ++ (B5 ++ [(g3, T_impl_Player, ⟨Z_impl_Player⟩), (g1, T_impl_Score, cs)]))))
    (fun y => (n - y.2.2.2).toNat) ⟨0, none, 0, [], rfl, by omega, SlO.nil, M⟩ ?_
  rintro y hh ⟨i, b, c, B, rfl, hi, O, M⟩
  unfold spec_NewPlayer.B7
  simp only [add_g]
  refine brd (fun hc => ?_) fun hc => ?_
  · refine o_l (M.cell .here 6) (goX spec_FreeVoice_c fun h8 x8 => as_a (M.pin1 .here (by show 6 < 10; decide) x8 (siz rfl ?_)))
    refine push_free (sc := scC y1 y2 y3 b1 l1 c1 b2 l2 c2 b3 l3 c3) rfl O (by omega) (M.grow x8) (fun h' p x H => M.pin1 .here (by show 6 < 10; decide) (x8.trans x) H) fun b' c' h9 B' O' M => as_l (M.st1 .here (by show 6 < 10; decide) .here fun h10 M => ?_)
    exact ⟨⟨i + 1, b', c', B', by rw [wrap64_succ (by omega)], by omega, O', M⟩, by rw [wrap64_succ (by omega)]; show _ < _; simp; omega⟩
  · obtain rfl : i = n.toNat := by omega
    rw [fine]
    refine M.lda0 .here rfl ?_
    have M := M.cnt (W := (g3, T_impl_Player, ⟨Z_impl_Player⟩) :: (B5 ++ B)) (fun p => by simp only [cnt_app, cnt_cons, cnt_nil] at *; omega)
    exact M.sta0 .here rfl pl_one rfl .here fun h3 M => M.lda0 .here rfl ⟨_, B5 ++ B, rfl, player_ow O5 O 0 0 0, M.drop⟩
theorem impl_NewPlayer_c {cs : Array Value} {s : GScore} {n : Int} (R0 : rScore.rd h cs.toList s) : CALL prg f_impl_NewPlayer #[.agg cs, .int .i64 n] (fun u h' => PairR rPlayer h h' u (s.newPlayer n).1 (s.newPlayer n).2) h := by
  refine impl_NewPlayer.call ((Mem.start h).alc fun g1 h1 x1 M => M.alc fun g3 h2 x2 M => M.lda0 (.there .here) (rsz R0 rfl) ?_)
  have bad : ∀ {hh : Heap} {L : List Blk} {k : Int}, Mem h hh ((g3, T_impl_Player, ⟨Z_impl_Player⟩) :: L) → s.newPlayer n = (z_Player, k) →
      STA 10 hh ⟨g3, 0, none⟩ ⟨Z_impl_Player⟩ fun h8 => LDA 10 h8 ⟨g3, 0, none⟩ fun a9 => PairR rPlayer h h8 (.tuple ⟨[.agg a9, .int .i64 k]⟩) (s.newPlayer n).1 (s.newPlayer n).2 := fun M e => by
    rw [e]
    exact M.sta0 .here rfl (all_one rfl) rfl .here fun h3 M => M.lda0 .here rfl ⟨_, [], rfl, zow_Player, (Mem.start h).grow M.ext⟩
  refine goM M (ValidScore_c (rScore.ext M.ext R0)) fun h3 M => as_b (brN (fun hb => bad M (by unfold GScore.newPlayer; rw [hb]; rfl)) fun hok => ?_)
  refine goM M (isVoices_c _ _) fun h4 M => as_b (brN (fun hb => bad M (by unfold GScore.newPlayer; rw [hok, hb]; rfl)) fun hn => ?_)
  have hn2 : 1 ≤ n ∧ n ≤ 6 := by simp only [inR, Bool.and_eq_true, decide_eq_true_eq] at hn; exact hn
  have fine : s.newPlayer n = ({ z_Player with Score := s, Voices := List.replicate n.toNat freeV }, 0) := by unfold GScore.newPlayer; rw [hok, hn]; rfl
  refine M.lda0 (.there .here) (rsz R0 rfl) (NewR.go M (Score_clone_c (rScore.ext M.ext R0) hok) fun h5 c5 B5 M O5 s5 => as_a (siz s5 ?_))
  have Rc := rScore.look O5 M (List.sublist_append_left _ _)
  obtain ⟨y1, y2, y3, b1, l1, c1, b2, l2, c2, b3, l3, c3, rfl, _⟩ := score_cells Rc
  clear Rc
  refine M.alc fun g18 h6 x6 M => M.sta0 .here rfl (pl_one (b := none) (l := 0) (c := 0)) rfl .here fun h7 M => ?_
  refine loop (fun y hh => ∃ (i : Nat) (b : Option Addr) (c : Nat) (B : List Blk), y = (⟨g3, 0, none⟩, ⟨g18, 0, none⟩, n, (i : Int)) ∧ i ≤ n.toNat ∧ SlO T_impl_Voice rVoice B b i c (List.replicate i freeV) ∧ Mem h hh ((g18, T_impl_Player, ⟨plC y1 y2 y3 b1 l1 c1 b2 l2 c2 b3 l3 c3 b i c⟩) :: (B ++ (B5 ++ [(g3, T_impl_Player, ⟨Z_impl_Player⟩), (g1, T_impl_Score, cs)]))))
    (fun y => (n - y.2.2.2).toNat) ⟨0, none, 0, [], rfl, by omega, SlO.nil, M⟩ ?_
  rintro y hh ⟨i, b, c, B, rfl, hi, O, M⟩
  unfold impl_NewPlayer.B7
  simp only [add_g]
  refine brd (fun hc => ?_) fun hc => ?_
  · refine o_l (M.cell .here 6) (goX FreeVoice_c fun h8 x8 => as_a (M.pin1 .here (by show 6 < 10; decide) x8 (siz rfl ?_)))
    refine push_free (sc := scC y1 y2 y3 b1 l1 c1 b2 l2 c2 b3 l3 c3) rfl O (by omega) (M.grow x8) (fun h' p x H => M.pin1 .here (by show 6 < 10; decide) (x8.trans x) H) fun b' c' h9 B' O' M => as_l (M.st1 .here (by show 6 < 10; decide) .here fun h10 M => ?_)
    exact ⟨⟨i + 1, b', c', B', by rw [wrap64_succ (by omega)], by omega, O', M⟩, by rw [wrap64_succ (by omega)]; show _ < _; simp; omega⟩
  · obtain rfl : i = n.toNat := by omega
    rw [fine]
    refine M.lda0 .here rfl ?_
    have M := M.cnt (W := (g3, T_impl_Player, ⟨Z_impl_Player⟩) :: (B5 ++ B)) (fun p => by simp only [cnt_app, cnt_cons, cnt_nil] at *; omega)
    exact M.sta0 .here rfl pl_one rfl .here fun h3 M => M.lda0 .here rfl ⟨_, B5 ++ B, rfl, player_ow O5 O 0 0 0, M.drop⟩
end
end Go.Sx
