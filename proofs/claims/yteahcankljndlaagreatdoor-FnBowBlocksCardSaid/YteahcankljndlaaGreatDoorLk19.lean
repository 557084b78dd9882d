/- The rule's comparisons of bows, instruments. -/
import Derived.Test.YteahcankljndlaaGreatDoorLk21
import Derived.Test.YteahcankljndlaaGreatDoorTab
import Derived.Test.YteahcankljndlaaGreatDoorLk60
import Derived.Test.YteahcankljndlaaGreatDoorLk59
import Derived.Test.YteahcankljndlaaGreatDoorLgn
set_option linter.unusedVariables false
set_option linter.unusedSimpArgs false
namespace Go.Sx
open Go.Proofs
set_option maxRecDepth 100000
set_option maxHeartbeats 1000000

section
variable {h : Heap}
theorem rings2 {h : Heap} {ca cb : Array Value} {a b : GRing} (Ra : rRing.rd h ca.toList a) (Rb : rRing.rd h cb.toList b) {T : Nat} {K : Nat → Heap → Prop} (H : ∀ g h', Ext h h' → SlR rRing h' (some ⟨g, 0, none⟩) 2 2 [a, b] → K g h') :
    ALC ⟨(splice 2 2 cb (splice 0 2 ca [.slice none 0 0, .int .i64 (0 : Int), .slice none 0 0, .int .i64 (0 : Int)]))⟩ T K h := by
  have sa : ca.toList.length = 2 := by have := rRing.rlen Ra; exact this
  have sb : cb.toList.length = 2 := by have := rRing.rlen Rb; exact this
  obtain ⟨a1, a2, ea⟩ := is2 sa
  obtain ⟨b1, b2, eb⟩ := is2 sb
  have e : splice 2 2 cb (splice 0 2 ca [.slice none 0 0, .int .i64 (0 : Int), .slice none 0 0, .int .i64 (0 : Int)]) = ca.toList ++ (cb.toList ++ []) := by unfold splice; rw [ea, eb]; rfl
  rw [e]
  exact rArr_slr (r := rRing) (n := 2) (xs := [a, b]) ⟨rfl, _, _, rfl, Ra, _, _, rfl, Rb, rfl⟩ (by decide) H
theorem l04SameRings2_c {b1 b2 : Option Addr} {l1 c1 l2 c2 : Nat} {a b c d : GRing} (S1 : SlR rRing h b1 l1 c1 [a, b]) (S2 : SlR rRing h b2 l2 c2 [c, d]) :
    CALL prg f_spec_l04SameRings #[.slice b1 l1 c1, .slice b2 l2 c2] (fun u h' => u = .bool (same a c && same b d) ∧ Ext h h') h := by
  rw [← same_R2]; exact l04SameRings_c S1 S2
theorem l05SameBow_c {p q : Addr} {x y : GBow} (A0 : RdP rBow h p x) (B0 : RdP rBow h q y) : CALL prg f_spec_l05SameBow #[.pointer (some p), .pointer (some q)] (fun u h' => u = .bool (same x y) ∧ Ext h h') h := by
  have X0 := Ext.refl h
  have E0 := Ext.refl h
  have A : ∀ {hh : Heap}, Ext h hh → RdP rBow hh p x := fun e => A0.ext e
  have B : ∀ {hh : Heap}, Ext h hh → RdP rBow hh q y := fun e => B0.ext e
  refine spec_l05SameBow.call ((A0.fst foc_Bow_Neck).lda1 rfl fun c1 R1 => A0.lda foc_Bow_Bridge rfl fun c2 R2 => (B0.fst foc_Bow_Neck).lda1 rfl fun c3 R3 => B0.lda foc_Bow_Bridge rfl fun c4 R4 => ?_)
  have s1 : c1.size = 2 := rsz R1 rfl
  have s2 : c2.size = 2 := rsz R2 rfl
  have s3 : c3.size = 2 := rsz R3 rfl
  have s4 : c4.size = 2 := rsz R4 rfl
  refine ⟨siz s1 (siz s2 (rings2 R1 R2 fun g5 h6 x6 S5 => B0.pinO (off := 2) (by decide) x6 (B0.pin0 (by decide) x6 (siz s3 (siz s4 (rings2 (rRing.ext x6 R3) (rRing.ext x6 R4) fun g7 h8 x8 S7 => A0.pinO (off := 2) (by decide) (x6.trans x8) (A0.pin0 (by decide) (x6.trans x8) ?_))))))),
    siz s3 (siz s4 (rings2 R3 R4 fun g5 h6 x6 S5 => A0.pinO (off := 2) (by decide) x6 (A0.pin0 (by decide) x6 (siz s1 (siz s2 (rings2 (rRing.ext x6 R1) (rRing.ext x6 R2) fun g7 h8 x8 S7 => B0.pinO (off := 2) (by decide) (x6.trans x8) (B0.pin0 (by decide) (x6.trans x8) ?_)))))))⟩
  all_goals
    replace S5 := S5.ext x8
    have E8 := x6.trans x8
    clear x6 x8
    (repeat' (first
      | exact (Bool.false_ne_true hb).elim
      | refine as_b ?_
      | refine pin_same ?_
      | refine RdP.lda1 ((A (by assumption)).fst foc_Bow_Neck) rfl fun _ _ => ?_
      | refine RdP.lda (A (by assumption)) foc_Bow_Bridge rfl fun _ _ => ?_
      | refine RdP.lda (A (by assumption)) foc_Bow_Damp rfl fun _ _ => ?_
      | refine RdP.oF (A (by assumption)) fun _ _ => ?_
      | refine RdP.lda1 ((B (by assumption)).fst foc_Bow_Neck) rfl fun _ _ => ?_
      | refine RdP.lda (B (by assumption)) foc_Bow_Bridge rfl fun _ _ => ?_
      | refine RdP.lda (B (by assumption)) foc_Bow_Damp rfl fun _ _ => ?_
      | refine RdP.oF (B (by assumption)) fun _ _ => ?_
      | refine RdP.lda1 (A (by assumption)) rfl fun _ _ => ?_
      | refine RdP.lda1 (B (by assumption)) rfl fun _ _ => ?_
      | refine goE (by assumption) (l01Same_c (by assumption) (by assumption) _) fun _ _ => ?_
      | refine goE (by assumption) (l04SameRings2_c (by assumption) (by assumption)) fun _ _ => ?_
      | refine goE (by assumption) (l02Same_c ((A (by assumption)).foc foc_Bow_Damp) ((B (by assumption)).foc foc_Bow_Damp)) fun _ _ => ?_
      | refine brN (fun hb => ?_) (fun hb => ?_)
      | refine br (fun hb => ?_) (fun hb => ?_)
      | exact ⟨by rw [same_Bow]; simp [*], X0.trans (by assumption)⟩))
end
end Go.Sx
/- What functions of this seat's program compute, told in words (a predicate over heaps for each), and the proofs that the words are no more than the code's own weakest precondition. -/
namespace Go.Sx
open Go.Proofs
set_option linter.unusedVariables false
set_option maxRecDepth 100000

def spec_P6Plains.B4 (Post : Value → Heap → Prop) (N4 : (Int × Addr × Option Addr × Nat × Nat × Int) → Heap → Prop) : Int × Addr × Option Addr × Nat × Nat × Int → Heap → Prop
  | (count_1, s_5, out_6b, out_6l, out_6c, i_7), h =>
    BIF (decide (i_7 < count_1)) (
    CALL prg f_spec_l01Plain #[.pointer (some s_5)] (fun q6 h7 =>
    asF .f32 q6 fun r8 =>
    ALC ⟨[.float .f32 r8]⟩ T_float32 (fun g9 h10 =>
    SEMV prg (Builtin.append_ #[T_sl_float32, T_sl_float32] T_sl_float32 #[.slice out_6b out_6l out_6c, .slice (some ⟨g9, 0, none⟩) 1 1]) (fun q11 h12 =>
    asL q11 fun l13b l13l l13c =>
    N4 (count_1, s_5, l13b, l13l, l13c, ((IntKind.i64.wrap (i_7 + (1 : Int))))) h12) h10) h7) h) (
    Post (.slice out_6b out_6l out_6c) h)
def spec_P6Plains.g4 (fr : Frame) : Int × Addr × Option Addr × Nat × Nat × Int := ((gI (lget fr 1)), (gP (lget fr 5)), (gLb (lget fr 6)), (gLl (lget fr 6)), (gLc (lget fr 6)), (gI (lget fr 7)))
def spec_P6Plains.l4 (Post : Value → Heap → Prop) : Frame → Heap → Prop := fun fr h => GRD (shape (kds 22 [(1, .i .i64), (5, .p), (6, .l), (7, .i .i64)]) fr) (LOOP (spec_P6Plains.B4 Post) (spec_P6Plains.g4 fr) h)
def spec_P6Plains.S (code_0b : Option Addr) (code_0l code_0c : Nat) (count_1 : Int) (Post : Value → Heap → Prop) (h : Heap) : Prop :=
    CALL prg f_spec_l00From #[.slice code_0b code_0l code_0c] (fun q1 h2 =>
    asP q1 fun p3 =>
    ALC ⟨[]⟩ T_float32 (fun g4 h5 =>
    LOOP (spec_P6Plains.B4 Post) (count_1, p3, (some ⟨g4, 0, none⟩), 0, 0, (0 : Int)) h5) h2) h
noncomputable def spec_P6Plains.code : Code := (Tryz.f7.body).getD .skip
theorem spec_P6Plains.call {code_0b : Option Addr} {code_0l code_0c : Nat} {count_1 : Int} {Post : Value → Heap → Prop} {h : Heap} (H : spec_P6Plains.S code_0b code_0l code_0c count_1 Post h) : CALL prg f_spec_P6Plains #[.slice code_0b code_0l code_0c, .int .i64 count_1] Post h :=
  fn_call tau_ok mixed (c := spec_P6Plains.code) (Λ := lookL [(1000004, spec_P6Plains.l4 Post)]) Tryz.func7 (by kernel_rfl) (by kernel_rfl)
    (Rq.seq (by kernel_rfl) (Rq.free (by kernel_rfl)) (Rq.seq (by kernel_rfl) (Rq.free (by kernel_rfl)) (Rq.seq (by kernel_rfl) (Rq.free (by kernel_rfl)) (Rq.seq (by kernel_rfl) (Rq.seq (by kernel_rfl) (Rq.free (by kernel_rfl)) (Rq.block (Rq.loop (spec_P6Plains.l4 Post) (by kernel_rfl) (segL (g := spec_P6Plains.g4) tau_ok mixed (Λ := fun N4 => lookL []) (fun _ _ _ => by kernel_rfl) (fun N4 => (Rq.free (by kernel_rfl))))))) (Rq.free (by kernel_rfl))))))
    (Eq.mp (by kernel_rfl) H)

def spec_SameReals.S (a_0b : Option Addr) (a_0l a_0c : Nat) (b_1b : Option Addr) (b_1l b_1c : Nat) (Post : Value → Heap → Prop) (h : Heap) : Prop :=
    CALL prg f_spec_l02SameList #[.slice a_0b a_0l a_0c, .slice b_1b b_1l b_1c] (fun q1 h2 =>
    asB q1 fun b3 =>
    Post (.bool b3) h2) h
noncomputable def spec_SameReals.code : Code := (Tryz.f13.body).getD .skip
theorem spec_SameReals.call {a_0b : Option Addr} {a_0l a_0c : Nat} {b_1b : Option Addr} {b_1l b_1c : Nat} {Post : Value → Heap → Prop} {h : Heap} (H : spec_SameReals.S a_0b a_0l a_0c b_1b b_1l b_1c Post h) : CALL prg f_spec_SameReals #[.slice a_0b a_0l a_0c, .slice b_1b b_1l b_1c] Post h :=
  fn_call tau_ok mixed (c := spec_SameReals.code) (Λ := lookL []) Tryz.func13 (by kernel_rfl) (by kernel_rfl)
    (Rq.free (by kernel_rfl))
    (Eq.mp (by kernel_rfl) H)

end Go.Sx
/- Jets played by the rule, played as a block, muted; samples drawn. -/
set_option linter.unusedVariables false
set_option linter.unusedSimpArgs false
namespace Go.Sx
open Go.Proofs
set_option maxRecDepth 100000
set_option maxHeartbeats 2000000

section
variable {α : Type} {st : α → Nat → α × Nat} {x : α} {xs : List Nat}
def gN (st : α → Nat → α × Nat) (x : α) (xs : List Nat) (n : Nat) : α := (playG st x (xs.take n)).1
def outN (st : α → Nat → α × Nat) (x : α) (xs : List Nat) (n : Nat) : Nat := (st (gN st x xs n) xs[n]!).2
theorem gN_step {n : Nat} (hn : n < xs.length) : gN st x xs (n + 1) = (st (gN st x xs n) xs[n]!).1 := by
  unfold gN
  rw [playG_step hn]
theorem gN_all (h : xs.length = 16) : gN st x xs 16 = (playG st x xs).1 := by
  unfold gN
  rw [← h, List.take_length]
theorem playG_len' (st : α → Nat → α × Nat) : ∀ (l : List Nat) (x : α), (playG st x l).2.length = l.length
  | [], _ => rfl
  | a :: l, x => by simp only [playG, List.length_cons]; rw [playG_len' st l]
theorem playG_take (n : Nat) : (playG st x (xs.take n)).2 = (playG st x xs).2.take n := by
  by_cases h : n ≤ xs.length
  · conv => rhs; rw [← List.take_append_drop n xs, playG_append]
    rw [List.take_left' (by rw [playG_len', List.length_take]; omega)]
  · rw [List.take_of_length_le (show xs.length ≤ n by omega), List.take_of_length_le (by rw [playG_len']; omega)]
theorem outN_all (h : xs.length = 16) : mapI (outN st x xs) zeros16 16 = (playG st x xs).2 := by
  have hz : zeros16.length = 16 := rfl
  rw [mapI_all (by rw [hz]; decide), hz]
  have key : ∀ n, n ≤ 16 → (List.range n).map (outN st x xs) = (playG st x xs).2.take n := by
    intro n
    induction n with
    | zero => intro _; rfl
    | succ n ih =>
      intro hn
      rw [List.range_succ, List.map_append, ih (by omega), ← playG_take, ← playG_take, playG_step (by omega)]
      rfl
  rw [key 16 (by omega), List.take_of_length_le (by rw [playG_len']; omega)]
end
def TriB {α : Type} (r : Rep α) (h h' : Heap) (u : Value) (x : α) (ys : List Nat) : Prop := ∃ cs B cb, u = .tuple ⟨[.agg cs, .agg cb, .int .i64 (0 : Int)]⟩ ∧ r.ow B cs.toList x ∧ FA 16 cb ys ∧ Mem h h' B
theorem is3' {α : Type} {l : List α} (h : l.length = 3) : ∃ a b c, l = [a, b, c] := by
  match l, h with
  | [a, b, c], _ => exact ⟨a, b, c, rfl⟩
section
variable {h0 h : Heap} {L : List Blk} {g : Nat} {x : GJet} {b cb : Option Addr} {l c cc : Nat} {xs : List Nat} {cs : Array Value} {bs : List Int}
/-- A ring muted whose slice is not one's own. -/
theorem mute_raw {T off n c : Nat} {b : Option Addr} {cs : Array Value} {K : Value → Heap → Prop} (M : Mem h0 h ((g, T, cs) :: L)) (hc : cs[off]? = some (.slice b n c)) (hn : n ≤ 1048576)
    (H : ∀ h' g' B, SlO T_float32 (rF .f32) B (some ⟨g', 0, none⟩) n n (List.replicate n 0) → Mem h0 h' ((g, T, cs.setIfInBounds off (.slice (some ⟨g', 0, none⟩) n n)) :: (B ++ L)) → K (.tuple ⟨[]⟩) h') : CALL prg f_p_impl_Ring_mute #[.pointer (some ⟨g, off, none⟩)] K h := by
  have ho : off < cs.size := by
    rcases Nat.lt_or_ge off cs.size with k | k
    · exact k
    · rw [Array.getElem?_eq_none k] at hc; cases hc
  refine p_impl_Ring_mute.call (M.oL .here hc (make_floats M hn fun g2 h2 x2 M2 O => M2.st1 (.there .here) ho (.there .here) fun h3 M3 => H h3 g2 _ O (M3.cnt fun p => by simp only [cnt_app, cnt_cons, cnt_nil]; omega)))
/-- A filter's cells with no state. -/
def flZ (v : Int × Nat × Nat × Nat × Nat × Nat) : Int × Nat × Nat × Nat × Nat × Nat := (v.1, v.2.1, v.2.2.1, v.2.2.2.1, 0, 0)
theorem filter_mute {v : Int × Nat × Nat × Nat × Nat × Nat} {f : GFilter} (O : rFilter.ow [] (flT v) f) : rFilter.ow [] (flT (flZ v)) f.mute := by
  have R : rFilter.rd #[] (flT v) f := rFilter.look O (Mem.start #[]) (List.Sublist.refl _)
  obtain ⟨v1, r1, e1, e2, v2, v3, rfl, ⟨l2, R2⟩, ⟨l3, R3⟩⟩ := R
  have e2 : v1 = [.int .i64 f.Kind] := e2
  have l2 : f.C.length = 3 := l2
  subst e2
  obtain ⟨a, b, c, hC⟩ := is3' l2
  have R2 : rds (rF .f32) #[] v2 f.C := R2
  rw [hC] at R2
  obtain ⟨w1, u1, k1, ⟨y0, rfl, f0⟩, w2, u2, k2, ⟨y1, rfl, f1⟩, w3, u3, k3, ⟨y2, rfl, f2⟩, k4⟩ := R2
  have k4 : u3 = [] := k4
  subst k4 k3 k2 k1
  have e1 : flC v.1 v.2.1 v.2.2.1 v.2.2.2.1 v.2.2.2.2.1 v.2.2.2.2.2 = [.int .i64 f.Kind] ++ ([.float .f32 y0] ++ ([.float .f32 y1] ++ ([.float .f32 y2] ++ [])) ++ v3) := e1
  simp only [flC, List.cons_append, List.nil_append, List.cons.injEq, Value.int.injEq, Value.float.injEq, true_and] at e1
  obtain ⟨g1, g2, g3, g4, _⟩ := e1
  have := filter_ow (k := f.Kind) f0 f1 f2 fw0 fw0
  rw [← hC] at this
  unfold flT flZ
  rw [g1, g2, g3, g4]
  exact this
/-- Samples that are drawn. -/
theorem P6Plains_c (M : Mem h0 h L) (C : Cells h0 cb (iv .u8 bs)) (hb : Byt' bs) {k : Nat} (hk : k ≤ 1000) :
    CALL prg f_spec_P6Plains #[.slice cb bs.length cc, .int .i64 (k : Int)] (fun u h' => ∃ b c B ys, u = .slice b k c ∧ SlO T_float32 (rF .f32) B b k c ys ∧ Mem h0 h' (B ++ L)) h := by
  have hm : (1048577 : Nat) ≤ maxLen := by decide
  refine spec_P6Plains.call ((l00From_c M).mono ?_)
  rintro _ h1 ⟨g, rfl, S⟩
  refine as_p (S.alc fun g4 h2 S => ?_)
  refine loop (fun y hh => ∃ (n : Nat) (b' : Option Addr) (c' : Nat) (B : List Blk) (ys : List Nat), y = ((k : Int), ⟨g, 0, none⟩, b', n, c', (n : Int)) ∧ n ≤ k ∧ SlO T_float32 (rF .f32) B b' n c' ys ∧ Src h0 hh (B ++ L) g cb bs.length cc (2 * n)) (fun y => (k - y.2.2.2.2.2).toNat)
    ⟨0, _, _, [(g4, T_float32, ⟨[]⟩)], [], rfl, by omega, SlO.empty g4, S⟩ ?_
  rintro y hh ⟨n, b', c', B, ys, rfl, hn, O, S⟩
  refine brd (fun hc => ?_) fun hc => ?_
  · refine (l01Plain_c S C hb (by omega)).mono ?_
    rintro _ h3 ⟨y, v, rfl, v1, v2, hy, p, st, hp, M⟩
    refine as_f (push_own (Bn := []) (L := (g, T_spec_l00Src, ⟨[.slice cb bs.length cc, .int .i64 (p : Int), .int .u64 st]⟩) :: L) (x := plainW v) E_sl_float32 O (M.cnt fun p => by simp only [cnt_app, cnt_cons, cnt_nil]; omega) ⟨rfl, _, rfl, hy⟩ (by omega) (by omega) fun b2 c2 h4 B2 O2 M2 => as_l ?_)
    exact ⟨⟨n + 1, b2, c2, B2, _, by rw [wrap64_succ (by omega)], by omega, O2, p, st, by omega, M2.cnt fun p => by simp only [cnt_app, cnt_cons, cnt_nil]; omega⟩, by rw [wrap64_succ (by omega)]; show _ < _; simp; omega⟩
  obtain rfl : n = k := by omega
  exact ⟨b', c', B, ys, rfl, O, S.mem⟩
theorem SameReals_c {b1 b2 : Option Addr} {l1 c1 l2 c2 : Nat} {xs ys : List Nat} (S1 : SlR (rF .f32) h b1 l1 c1 xs) (S2 : SlR (rF .f32) h b2 l2 c2 ys) :
    CALL prg f_spec_SameReals #[.slice b1 l1 c1, .slice b2 l2 c2] (fun u h' => u = .bool (same xs ys) ∧ Ext h h') h :=
  spec_SameReals.call (goX (l02SameList_c S1 S2) fun h1 x1 => as_b ⟨rfl, x1⟩)
end
end Go.Sx
