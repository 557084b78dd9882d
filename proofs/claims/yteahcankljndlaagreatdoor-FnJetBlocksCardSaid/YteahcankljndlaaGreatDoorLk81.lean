/- Jets played by the rule, played as a block, muted; samples drawn. -/
import Derived.Test.YteahcankljndlaaGreatDoorLk79
import Derived.Test.YteahcankljndlaaGreatDoorJB
import Derived.Test.YteahcankljndlaaGreatDoorLgn
import Derived.Test.YteahcankljndlaaGreatDoorLk59
import Derived.Test.YteahcankljndlaaGreatDoorLm11
import Derived.Test.YteahcankljndlaaGreatDoorTab
import Derived.Laws.BytesString
import Derived.Test.YteahcankljndlaaGreatDoorLf8
import Derived.Test.YteahcankljndlaaGreatDoorLr7
import Derived.Lib.ItoaLen
import Derived.Test.YteahcankljndlaaGreatDoorLx1
import Derived.Sort.Grow
import Derived.Deep.Draws
set_option linter.unusedVariables false
set_option linter.unusedSimpArgs false
namespace Go.Sx
open Go.Proofs
set_option maxRecDepth 100000
set_option maxHeartbeats 2000000

section
variable {α : Type} {st : α → Nat → α × Nat} {x : α} {xs : List Nat}
def gN (st : α → Nat → α × Nat) (x : α) (xs : List Nat) (n : Nat) : α := (playG st x (xs.take n)).1
def outN (st : α → Nat → α × Nat) (x : α) (xs : List Nat) (n : Nat) : Nat := (st (gN st x xs n) xs[n]!).2
theorem gN_step {n : Nat} (hn : n < xs.length) : gN st x xs (n + 1) = (st (gN st x xs n) xs[n]!).1 := by
  unfold gN
  rw [playG_step hn]
theorem gN_all (h : xs.length = 16) : gN st x xs 16 = (playG st x xs).1 := by
  unfold gN
  rw [← h, List.take_length]
theorem playG_len' (st : α → Nat → α × Nat) : ∀ (l : List Nat) (x : α), (playG st x l).2.length = l.length
  | [], _ => rfl
  | a :: l, x => by simp only [playG, List.length_cons]; rw [playG_len' st l]
theorem playG_take (n : Nat) : (playG st x (xs.take n)).2 = (playG st x xs).2.take n := by
  by_cases h : n ≤ xs.length
  · conv => rhs; rw [← List.take_append_drop n xs, playG_append]
    rw [List.take_left' (by rw [playG_len', List.length_take]; omega)]
  · rw [List.take_of_length_le (show xs.length ≤ n by omega), List.take_of_length_le (by rw [playG_len']; omega)]
theorem outN_all (h : xs.length = 16) : mapI (outN st x xs) zeros16 16 = (playG st x xs).2 := by
  have hz : zeros16.length = 16 := rfl
  rw [mapI_all (by rw [hz]; decide), hz]
  have key : ∀ n, n ≤ 16 → (List.range n).map (outN st x xs) = (playG st x xs).2.take n := by
    intro n
    induction n with
    | zero => intro _; rfl
    | succ n ih =>
      intro hn
      rw [List.range_succ, List.map_append, ih (by omega), ← playG_take, ← playG_take, playG_step (by omega)]
      rfl
  rw [key 16 (by omega), List.take_of_length_le (by rw [playG_len']; omega)]
end
def TriB {α : Type} (r : Rep α) (h h' : Heap) (u : Value) (x : α) (ys : List Nat) : Prop := ∃ cs B cb, u = .tuple ⟨[.agg cs, .agg cb, .int .i64 (0 : Int)]⟩ ∧ r.ow B cs.toList x ∧ FA 16 cb ys ∧ Mem h h' B
theorem is3' {α : Type} {l : List α} (h : l.length = 3) : ∃ a b c, l = [a, b, c] := by
  match l, h with
  | [a, b, c], _ => exact ⟨a, b, c, rfl⟩
section
variable {h0 h : Heap} {L : List Blk} {g : Nat} {x : GJet} {b cb : Option Addr} {l c cc : Nat} {xs : List Nat} {cs : Array Value} {bs : List Int}
theorem spec_PlayJet_c (R0 : rJet.rd h cs.toList x) (S0 : SlR (rF .f32) h b l c xs) (hok : x.ok = true) (hxs : xs.length ≤ 4096) : CALL prg f_spec_PlayJet #[.agg cs, .slice b l c] (fun u h' => TriG rJet h h' u (playG GJet.step x xs).1 (playG GJet.step x xs).2 0) h := by
  have hl := S0.len
  have hm : (4097 : Nat) ≤ maxLen := by decide
  refine spec_PlayJet.call ((Mem.start h).alc fun g1 h1 x1 M => M.alc fun g3 h2 x2 M => ?_)
  have R1 : RdP rJet h2 ⟨g1, 0, none⟩ x := M.rdp (.there .here) (rJet.ext M.ext R0)
  refine goM M (l05Jet_c R1) fun h3 M => as_b ?_
  rw [hok]
  refine br_f rfl (brd (fun hc => by omega) fun hc => ?_)
  have hs := jet_small hok
  have R3 : RdP rJet h3 ⟨g1, 0, none⟩ x := M.rdp (.there .here) (rJet.ext M.ext R0)
  refine NewR.go M (l05CopyJet_c R3 hs.1 hs.2) fun h4 c4 B4 M O4 s4 => as_a (M.alc fun g21 h5 x5 M => ?_)
  refine M.sta0 .here s4 (rJet.oone O4) rfl .here fun h6 M => ?_
  have P : Pt rJet h h6 ⟨g21, 0, none⟩ ⟨g21, T_impl_Jet, [], []⟩ [(g3, T_impl_Jet, ⟨Z_impl_Jet⟩), (g1, T_impl_Jet, cs)] x := Pt.new O4 M
  refine Mem.alc (Mem.start h6) fun g24 h7 x7 N => ?_
  have P : Pt rJet h h7 ⟨g21, 0, none⟩ ⟨g21, T_impl_Jet, [], []⟩ ([(g24, T_float32, ⟨[]⟩)] ++ [(g3, T_impl_Jet, ⟨Z_impl_Jet⟩), (g1, T_impl_Jet, cs)]) x := P.join N
  refine loop (fun y hh => ∃ (n : Nat) (b' : Option Addr) (c' : Nat) (B : List Blk), y = (b, l, c, ⟨g3, 0, none⟩, ⟨g21, 0, none⟩, b', n, c', (n : Int)) ∧ n ≤ l ∧ SlO T_float32 (rF .f32) B b' n c' (playG GJet.step x (xs.take n)).2 ∧
    Pt rJet h hh ⟨g21, 0, none⟩ ⟨g21, T_impl_Jet, [], []⟩ (B ++ [(g3, T_impl_Jet, ⟨Z_impl_Jet⟩), (g1, T_impl_Jet, cs)]) (playG GJet.step x (xs.take n)).1) (fun y => (l - y.2.2.2.2.2.2.2.2).toNat)
    ⟨0, _, _, [(g24, T_float32, ⟨[]⟩)], rfl, by omega, SlO.empty g24, P⟩ ?_
  rintro y hh ⟨n, b', c', B, rfl, hn, O, P⟩
  refine brd (fun hc => ?_) fun hc => ?_
  · have rg := jet_rings (playJ_ok hok (xs.take n))
    refine (S0.ext P.ext).idx (by decide) (by omega) (by omega) fun p Rp => Rp.oF1 fun w hw => ((l05StepJet_c P rg.1 rg.2 hw).mono ?_)
    rintro _ h8 ⟨⟨y, rfl, hy⟩, P⟩
    refine as_f (Pt.push P E_sl_float32 O ⟨rfl, _, rfl, hy⟩ (by omega) (by omega) fun b2 c2 h9 B2 O2 P2 => as_l ⟨⟨n + 1, b2, c2, B2, by rw [wrap64_succ (by omega)], by omega, ?_, ?_⟩, by rw [wrap64_succ (by omega)]; show _ < _; simp; omega⟩)
    · rw [playG_step (by omega)]; exact O2
    · rw [playG_step (by omega)]; exact P2
  obtain rfl : n = l := by omega
  rw [← hl, List.take_length] at O P
  obtain ⟨cs', BR, M, OR⟩ := P.out
  refine M.lda0 .here (osz OR rfl) ?_
  have M := M.cnt (W := (g3, T_impl_Jet, ⟨Z_impl_Jet⟩) :: (BR ++ B)) (fun p => by simp only [cnt_app, cnt_cons, cnt_nil] at *; omega)
  refine M.sta0 .here (osz OR rfl) (rJet.oone OR) rfl .here fun h3 M => M.lda0 .here (osz OR rfl) ?_
  rw [← hl]
  exact ⟨_, BR, _, _, _, B, rfl, OR, O, M.drop⟩
theorem impl_BlockOfJet_c {ca : Array Value} (R0 : rJet.rd h cs.toList x) (Rb : FA 16 ca xs) (hok : x.ok = true) : CALL prg f_impl_BlockOfJet #[.agg cs, .agg ca] (fun u h' => TriB rJet h h' u (playG GJet.step x xs).1 (playG GJet.step x xs).2) h := by
  have hx16 : xs.length = 16 := Rb.1
  have hs := jet_small hok
  refine impl_BlockOfJet.call ((Mem.start h).alc fun g1 h1 x1 M => M.alc fun g2 h2 x2 M => M.alc fun g3 h2 x2 M => M.alc fun g4 h2 x2 M => M.lda0 (.there (.there (.there .here))) (rsz R0 rfl) ?_)
  refine goM M (ValidJet_c (rJet.ext M.ext R0)) fun h3 M => as_b ?_
  rw [hok]
  refine br_f rfl (M.lda0 (.there (.there (.there .here))) (rsz R0 rfl) (NewR.go M (Jet_clone_c (rJet.ext M.ext R0) hs.1 hs.2) fun h4 c4 B4 M O4 s4 => as_a ?_))
  have M := M.cnt (W := (g1, T_impl_Jet, cs) :: (B4 ++ [(g4, T_impl_Block, ⟨Z_impl_Block⟩), (g3, T_impl_Jet, ⟨Z_impl_Jet⟩), (g2, T_impl_Block, ca)])) (fun p => by simp only [cnt_app, cnt_cons, cnt_nil] at *; omega)
  refine M.sta0 .here s4 (rJet.oone O4) (rsz R0 rfl) .here fun h6 M => ?_
  have P : Pt rJet h h6 ⟨g1, 0, none⟩ ⟨g1, T_impl_Jet, [], []⟩ [(g4, T_impl_Block, ⟨Z_impl_Block⟩), (g3, T_impl_Jet, ⟨Z_impl_Jet⟩), (g2, T_impl_Block, ca)] (gN GJet.step x xs 0) := Pt.new O4 M
  refine (made_c (X := gN GJet.step x xs) (f := outN GJet.step x xs) P fun n hh W hn P => ?_).mono ?_
  · show CALL prg f_impl_BlockOfJet_c1 #[.int .i64 (n : Int), .pointer (some ⟨g1, 0, none⟩), .pointer (some ⟨g2, 0, none⟩)] _ hh
    have rg := jet_rings (playJ_ok hok (xs.take n))
    refine impl_BlockOfJet_c1.call (idx (by omega) (by omega) ((Look.skip (.there (.there .here))).oA P.mem Rb (i := n) hn fun w hw => (Jet_step_c P rg.1 rg.2 hw).mono ?_))
    rintro _ h8 ⟨⟨y, rfl, hy⟩, P⟩
    refine as_f ⟨⟨y, rfl, hy⟩, ?_⟩
    rw [gN_step (by omega)]; exact P
  rintro _ h7 ⟨co, rfl, Fo, P⟩
  rw [outN_all hx16] at Fo
  rw [gN_all hx16] at P
  refine as_a ((Mem.start h7).alc fun g5 h8 x8 N => N.sta0 .here Fo.size Fo.one rfl .here fun h9 N => ?_)
  have P := P.join N
  obtain ⟨cs', B, M, O⟩ := P.out
  refine M.lda0 .here (osz O rfl) (M.lda0 (.there (Look.skip .here)) Fo.size ?_)
  have M := M.cnt (W := (g3, T_impl_Jet, ⟨Z_impl_Jet⟩) :: (g4, T_impl_Block, ⟨Z_impl_Block⟩) :: (g5, T_impl_Block, co) :: B) (fun p => by simp only [cnt_app, cnt_cons, cnt_nil] at *; omega)
  refine M.sta0 .here (osz O rfl) (rJet.oone O) rfl .here fun h3 M2 => M.pin2 (.there (.there .here)) M2 (.there (.there .here)) (M2.sta0 (.there .here) Fo.size Fo.one rfl (.there .here) fun h4 M => ?_)
  refine M.lda0 .here (osz O rfl) (M.lda0 (.there .here) Fo.size ?_)
  exact ⟨_, B, _, rfl, O, Fo, M.drop.drop.drop⟩
/-- A ring muted whose slice is not one's own. -/
theorem mute_raw {T off n c : Nat} {b : Option Addr} {cs : Array Value} {K : Value → Heap → Prop} (M : Mem h0 h ((g, T, cs) :: L)) (hc : cs[off]? = some (.slice b n c)) (hn : n ≤ 1048576)
    (H : ∀ h' g' B, SlO T_float32 (rF .f32) B (some ⟨g', 0, none⟩) n n (List.replicate n 0) → Mem h0 h' ((g, T, cs.setIfInBounds off (.slice (some ⟨g', 0, none⟩) n n)) :: (B ++ L)) → K (.tuple ⟨[]⟩) h') : CALL prg f_p_impl_Ring_mute #[.pointer (some ⟨g, off, none⟩)] K h := by
  have ho : off < cs.size := by
    rcases Nat.lt_or_ge off cs.size with k | k
    · exact k
    · rw [Array.getElem?_eq_none k] at hc; cases hc
  refine p_impl_Ring_mute.call (M.oL .here hc (make_floats M hn fun g2 h2 x2 M2 O => M2.st1 (.there .here) ho (.there .here) fun h3 M3 => H h3 g2 _ O (M3.cnt fun p => by simp only [cnt_app, cnt_cons, cnt_nil]; omega)))
/-- A filter's cells with no state. -/
def flZ (v : Int × Nat × Nat × Nat × Nat × Nat) : Int × Nat × Nat × Nat × Nat × Nat := (v.1, v.2.1, v.2.2.1, v.2.2.2.1, 0, 0)
theorem filter_mute {v : Int × Nat × Nat × Nat × Nat × Nat} {f : GFilter} (O : rFilter.ow [] (flT v) f) : rFilter.ow [] (flT (flZ v)) f.mute := by
  have R : rFilter.rd #[] (flT v) f := rFilter.look O (Mem.start #[]) (List.Sublist.refl _)
  obtain ⟨v1, r1, e1, e2, v2, v3, rfl, ⟨l2, R2⟩, ⟨l3, R3⟩⟩ := R
  have e2 : v1 = [.int .i64 f.Kind] := e2
  have l2 : f.C.length = 3 := l2
  subst e2
  obtain ⟨a, b, c, hC⟩ := is3' l2
  have R2 : rds (rF .f32) #[] v2 f.C := R2
  rw [hC] at R2
  obtain ⟨w1, u1, k1, ⟨y0, rfl, f0⟩, w2, u2, k2, ⟨y1, rfl, f1⟩, w3, u3, k3, ⟨y2, rfl, f2⟩, k4⟩ := R2
  have k4 : u3 = [] := k4
  subst k4 k3 k2 k1
  have e1 : flC v.1 v.2.1 v.2.2.1 v.2.2.2.1 v.2.2.2.2.1 v.2.2.2.2.2 = [.int .i64 f.Kind] ++ ([.float .f32 y0] ++ ([.float .f32 y1] ++ ([.float .f32 y2] ++ [])) ++ v3) := e1
  simp only [flC, List.cons_append, List.nil_append, List.cons.injEq, Value.int.injEq, Value.float.injEq, true_and] at e1
  obtain ⟨g1, g2, g3, g4, _⟩ := e1
  have := filter_ow (k := f.Kind) f0 f1 f2 fw0 fw0
  rw [← hC] at this
  unfold flT flZ
  rw [g1, g2, g3, g4]
  exact this
theorem impl_MuteJet_c (R0 : rJet.rd h cs.toList x) (hok : x.ok = true) : CALL prg f_impl_MuteJet #[.agg cs] (fun u h' => PairR rJet h h' u x.mute 0) h := by
  have hs := jet_small hok
  have R0' := R0
  obtain ⟨b1, l1, c1, b2, l2, c2, v, w, y, z, rfl, O1, O2, hy, hz⟩ := jet_cells R0
  have hl1 : x.Throat.Samples.length = l1 := by
    obtain ⟨_, _, e, ⟨_, _, rfl, ⟨b, l, c, rfl, S⟩, _⟩, _⟩ := R0
    have e : [Value.slice b1 l1 c1] ++ _ = [Value.slice b l c] ++ _ := e
    injection e with e _
    injection e with _ e _
    rw [e]; exact S.len
  have hl2 : x.Bore.Samples.length = l2 := by
    obtain ⟨_, _, e, ⟨_, _, rfl, ⟨b, l, c, rfl, S⟩, k1⟩, _, _, rfl, ⟨_, _, rfl, ⟨b', l', c', rfl, S'⟩, k2⟩, _⟩ := R0
    have k1 : _ = [Value.int .i64 x.Throat.At] := k1
    have k2 : _ = [Value.int .i64 x.Bore.At] := k2
    subst k1 k2
    have e : [Value.slice b1 l1 c1, .int .i64 x.Throat.At, Value.slice b2 l2 c2] ++ _ = [Value.slice b l c, .int .i64 x.Throat.At, Value.slice b' l' c'] ++ _ := e
    injection e with _ e
    injection e with _ e
    injection e with e _
    injection e with _ e _
    rw [e]; exact S'.len
  refine impl_MuteJet.call ((Mem.start h).alc fun g1 h1 x1 M => M.alc fun g3 h2 x2 M => M.lda0 (.there .here) rfl (goM M (ValidJet_c (rJet.ext M.ext R0')) fun h3 M => as_b ?_))
  rw [hok]
  have M : Mem h h3 ((g1, T_impl_Jet, ⟨jeL b1 l1 c1 x.Throat.At b2 l2 c2 x.Bore.At v w y z⟩) :: [(g3, T_impl_Jet, ⟨Z_impl_Jet⟩)]) := M.cnt fun p => by simp only [cnt_app, cnt_cons, cnt_nil]; omega
  refine br_f rfl (mute_raw M (off := 0) rfl (by omega) fun h4 g4 B4 S4 M => ?_)
  have M : Mem h h4 ((g1, T_impl_Jet, ⟨jeL (some ⟨g4, 0, none⟩) l1 l1 x.Throat.At b2 l2 c2 x.Bore.At v w y z⟩) :: (B4 ++ [(g3, T_impl_Jet, ⟨Z_impl_Jet⟩)])) := M
  refine mute_raw M (off := 2) rfl (by omega) fun h5 g5 B5 S5 M => ?_
  have M : Mem h h5 ((g1, T_impl_Jet, ⟨jeL (some ⟨g4, 0, none⟩) l1 l1 x.Throat.At (some ⟨g5, 0, none⟩) l2 l2 x.Bore.At v w y z⟩) :: (B5 ++ (B4 ++ [(g3, T_impl_Jet, ⟨Z_impl_Jet⟩)]))) := M
  refine M.sta .here rfl (all_one rfl) (by show 8 + 2 ≤ 18; decide) .here fun h6 M => ?_
  have M : Mem h h6 ((g1, T_impl_Jet, ⟨jeL (some ⟨g4, 0, none⟩) l1 l1 x.Throat.At (some ⟨g5, 0, none⟩) l2 l2 x.Bore.At (flZ v) w y z⟩) :: (B5 ++ (B4 ++ [(g3, T_impl_Jet, ⟨Z_impl_Jet⟩)]))) := M
  refine M.sta .here rfl (all_one rfl) (by show 14 + 2 ≤ 18; decide) .here fun h7 M => ?_
  have M : Mem h h7 ((g1, T_impl_Jet, ⟨jeL (some ⟨g4, 0, none⟩) l1 l1 x.Throat.At (some ⟨g5, 0, none⟩) l2 l2 x.Bore.At (flZ v) (flZ w) y z⟩) :: (B5 ++ (B4 ++ [(g3, T_impl_Jet, ⟨Z_impl_Jet⟩)]))) := M
  have OJ := jet_ow (x := x.mute) (B1 := B4) (B2 := B5) (l1 := l1) (c1 := l1) (l2 := l2) (c2 := l2) (by rw [← hl1] at S4 ⊢; exact S4) (by rw [← hl2] at S5 ⊢; exact S5) (filter_mute O1) (filter_mute O2) hy hz
  refine M.lda0 .here rfl ?_
  have M := M.cnt (W := (g3, T_impl_Jet, ⟨Z_impl_Jet⟩) :: (B4 ++ B5)) fun p => by simp only [cnt_app, cnt_cons, cnt_nil]; omega
  exact M.sta0 .here rfl jeL_one rfl .here fun h8 M => M.lda0 .here rfl ⟨_, B4 ++ B5, rfl, OJ, M.drop⟩
/-- Samples that are drawn. -/
theorem P6Plains_c (M : Mem h0 h L) (C : Cells h0 cb (iv .u8 bs)) (hb : Byt' bs) {k : Nat} (hk : k ≤ 1000) :
    CALL prg f_spec_P6Plains #[.slice cb bs.length cc, .int .i64 (k : Int)] (fun u h' => ∃ b c B ys, u = .slice b k c ∧ SlO T_float32 (rF .f32) B b k c ys ∧ Mem h0 h' (B ++ L)) h := by
  have hm : (1048577 : Nat) ≤ maxLen := by decide
  refine spec_P6Plains.call ((l00From_c M).mono ?_)
  rintro _ h1 ⟨g, rfl, S⟩
  refine as_p (S.alc fun g4 h2 S => ?_)
  refine loop (fun y hh => ∃ (n : Nat) (b' : Option Addr) (c' : Nat) (B : List Blk) (ys : List Nat), y = ((k : Int), ⟨g, 0, none⟩, b', n, c', (n : Int)) ∧ n ≤ k ∧ SlO T_float32 (rF .f32) B b' n c' ys ∧ Src h0 hh (B ++ L) g cb bs.length cc (2 * n)) (fun y => (k - y.2.2.2.2.2).toNat)
    ⟨0, _, _, [(g4, T_float32, ⟨[]⟩)], [], rfl, by omega, SlO.empty g4, S⟩ ?_
  rintro y hh ⟨n, b', c', B, ys, rfl, hn, O, S⟩
  refine brd (fun hc => ?_) fun hc => ?_
  · refine (l01Plain_c S C hb (by omega)).mono ?_
    rintro _ h3 ⟨y, v, rfl, v1, v2, hy, p, st, hp, M⟩
    refine as_f (push_own (Bn := []) (L := (g, T_spec_l00Src, ⟨[.slice cb bs.length cc, .int .i64 (p : Int), .int .u64 st]⟩) :: L) (x := plainW v) E_sl_float32 O (M.cnt fun p => by simp only [cnt_app, cnt_cons, cnt_nil]; omega) ⟨rfl, _, rfl, hy⟩ (by omega) (by omega) fun b2 c2 h4 B2 O2 M2 => as_l ?_)
    exact ⟨⟨n + 1, b2, c2, B2, _, by rw [wrap64_succ (by omega)], by omega, O2, p, st, by omega, M2.cnt fun p => by simp only [cnt_app, cnt_cons, cnt_nil]; omega⟩, by rw [wrap64_succ (by omega)]; show _ < _; simp; omega⟩
  obtain rfl : n = k := by omega
  exact ⟨b', c', B, ys, rfl, O, S.mem⟩
theorem SameReals_c {b1 b2 : Option Addr} {l1 c1 l2 c2 : Nat} {xs ys : List Nat} (S1 : SlR (rF .f32) h b1 l1 c1 xs) (S2 : SlR (rF .f32) h b2 l2 c2 ys) :
    CALL prg f_spec_SameReals #[.slice b1 l1 c1, .slice b2 l2 c2] (fun u h' => u = .bool (same xs ys) ∧ Ext h h') h :=
  spec_SameReals.call (goX (l02SameList_c S1 S2) fun h1 x1 => as_b ⟨rfl, x1⟩)
end
end Go.Sx
/- What functions of this seat's program compute, told in words (a predicate over heaps for each), and the proofs that the words are no more than the code's own weakest precondition. -/
namespace Go.Sx
open Go.Proofs
set_option linter.unusedVariables false
set_option maxRecDepth 100000

def impl_decimal.S (n_0 : Int) (Post : Value → Heap → Prop) (h : Heap) : Prop :=
    CALL prg f_strconv_FormatInt #[.int .i64 n_0, .int .i64 (10 : Int)] (fun q1 h2 =>
    asS q1 fun s3 =>
    Post (.string s3) h2) h
noncomputable def impl_decimal.code : Code := (Tryz.f96.body).getD .skip
theorem impl_decimal.call {n_0 : Int} {Post : Value → Heap → Prop} {h : Heap} (H : impl_decimal.S n_0 Post h) : CALL prg f_impl_decimal #[.int .i64 n_0] Post h :=
  fn_call tau_ok mixed (c := impl_decimal.code) (Λ := lookL []) Tryz.func96 (by kernel_rfl) (by kernel_rfl)
    (Rq.free (by kernel_rfl))
    (Eq.mp (by kernel_rfl) H)

end Go.Sx
/- Decimals: the rule's, digit by digit. -/
set_option linter.unusedVariables false
set_option linter.unusedSimpArgs false
namespace Go.Sx
open Go.Proofs
set_option maxRecDepth 100000

/-- A whole number's digits. -/
def decB (m : Nat) : ByteArray := ⟨(Lib.decDigits m).toArray⟩
end Go.Sx
/- Contracts of the kit's shelf, taken as calls of ours. -/
set_option linter.unusedVariables false
namespace Go.Sx

/-- A call whose contract tells a value and new blocks alone. -/
theorem CALL_of_calls {P : Program} {f : FuncId} {fn : Func} {args : Array Value} {K : Value → Heap → Prop} {h : Heap} (hf : P.funcs[f]? = some fn) (hb : fn.body.isNone = false) (hn : (fn.name == "runtime.NumGoroutine") = false)
    (c : ∀ w : World, w.heap = h → Calls P f args w fun e w' => ∃ v, e = .returned v ∧ Same w w' ∧ K v w'.heap) : CALL P f args K h := by
  intro w hw
  have hrun : (callFunc f args).run P w = .ok (.enter f args) w := by
    unfold callFunc
    simp only [Sem.run_bind, run_program, Result.andThen_ok, hf, hn, hb, Bool.false_eq_true, if_false]
    rfl
  rw [hrun]
  exact c w hw
theorem grow_same (w : World) (k : Nat) (os : Array Obj) : Same w (Sort.grow (w.drewN k) os) := ⟨rfl, rfl, rfl⟩
theorem grow_ext (w : World) (k : Nat) (os : Array Obj) : Ext w.heap (Sort.grow (w.drewN k) os).heap := by
  show Ext w.heap (w.heap ++ os)
  refine ⟨by simp, fun i hi => ?_⟩
  rw [Array.getElem?_append_left hi]
end Go.Sx
