/- Texts that compile or fail at a known line, plainly. -/
import Derived.Test.YtnhcoeogejgidabGreatDoorLk97
set_option linter.unusedVariables false
set_option linter.unusedSimpArgs false
namespace Go.Sx

theorem crun_mono {ls : List (List UInt8)} {r : Except (Nat × Int) GComp} : ∀ (f : Nat) {s : GComp} {p : Nat}, crun ls f s p = some r → crun ls (f + 1) s p = some r
  | 0, s, p, h => by cases h
  | f + 1, s, p, h => by
    unfold crun at h ⊢
    by_cases hp : p < ls.length
    · rw [if_pos hp] at h ⊢
      cases e : s.line p (cutL 32 ls[p]!) with
      | error c => rw [e] at h; exact h
      | ok x => obtain ⟨s', p'⟩ := x; rw [e] at h; exact crun_mono f h
    · rw [if_neg hp] at h ⊢; exact h
theorem crun_more {ls : List (List UInt8)} {r : Except (Nat × Int) GComp} {f : Nat} {s : GComp} {p : Nat} (h : crun ls f s p = some r) : ∀ k, crun ls (f + k) s p = some r
  | 0 => h
  | k + 1 => crun_mono _ (crun_more h k)
theorem runS_of {ls : List (List UInt8)} {r : Except (Nat × Int) GComp} {f : Nat} (h : crun ls f start0 0 = some r) : runS ls = r := by
  have h1 := runS_spec ls
  generalize cost ls.length start0 0 + 1 = g at h1
  have e1 := crun_more h g
  have e2 := crun_more h1 f
  rw [Nat.add_comm] at e2
  rw [e2] at e1
  exact Option.some.inj e1
section
variable {ls r : List (List UInt8)} {l : List UInt8} {f p : Nat} {s s' : GComp} {c : Int}
theorem drop_at (h : ls.drop p = l :: r) : p < ls.length ∧ ls[p]! = l ∧ ls.drop (p + 1) = r := by
  have hp : p < ls.length := by
    rcases Nat.lt_or_ge p ls.length with h1 | h1
    · exact h1
    · rw [List.drop_eq_nil_of_le h1] at h; cases h
  rw [List.drop_eq_getElem_cons hp] at h
  injection h with h1 h2
  exact ⟨hp, by rw [getElem!_pos ls p hp]; exact h1, h2⟩
theorem crun_step (h : ls.drop p = l :: r) (e : s.line p (cutL 32 l) = .ok (s', p + 1)) : crun ls (f + 1) s p = crun ls f s' (p + 1) := by
  obtain ⟨hp, h1, _⟩ := drop_at h
  conv => lhs; unfold crun
  rw [if_pos hp, h1, e]
theorem crun_bad (h : ls.drop p = l :: r) (e : s.line p (cutL 32 l) = .error c) : crun ls (f + 1) s p = some (.error (p, c)) := by
  obtain ⟨hp, h1, _⟩ := drop_at h
  conv => lhs; unfold crun
  rw [if_pos hp, h1, e]
theorem crun_fin (h : ls.drop p = []) : crun ls (f + 1) s p = some (.ok s) := by
  have : ¬ p < ls.length := by
    have := List.drop_eq_nil_iff.1 h
    omega
  conv => lhs; unfold crun
  rw [if_neg this]
end
/-- Lines, each ended. -/
def joinT (ls : List (List UInt8)) : List UInt8 := ls.flatMap (· ++ [10])
theorem joinT_cons (l : List UInt8) (ls : List (List UInt8)) : joinT (l :: ls) = l ++ 10 :: joinT ls := by
  unfold joinT; simp
theorem joinT_app (a b : List (List UInt8)) : joinT (a ++ b) = joinT a ++ joinT b := by unfold joinT; simp
theorem joinT_cut : ∀ {ls : List (List UInt8)}, (∀ l ∈ ls, ∀ x ∈ l, x ≠ 10) → cutL 10 (joinT ls) = ls ++ [[]]
  | [], _ => rfl
  | l :: ls, h => by
    rw [joinT_cons, cut_pre (h l (.head _)), joinT_cut fun m hm => h m (.tail _ hm)]; rfl
theorem scoreL_join {ls : List (List UInt8)} (h : ∀ l ∈ ls, ∀ x ∈ l, x ≠ 10) : scoreL (joinT ls) = ls := by
  unfold scoreL
  rw [joinT_cut h, List.length_append, List.length_singleton, Nat.add_sub_cancel]
  rw [if_pos (by rw [getElem!_pos _ _ (by simp), List.getElem_append_right (Nat.le_refl _)]; simp), List.take_left]
theorem joinT_len {n : Nat} : ∀ {ls : List (List UInt8)}, (∀ l ∈ ls, l.length ≤ n) → (joinT ls).length ≤ (n + 1) * ls.length
  | [], _ => Nat.zero_le _
  | l :: ls, h => by
    have h1 := joinT_len fun m hm => h m (.tail _ hm)
    have h2 := h l (.head _)
    rw [joinT_cons, List.length_append, List.length_cons, List.length_cons, Nat.mul_succ]
    omega
theorem dec2 {m : Nat} (h : m < 100) : (Lib.decDigits m).length ≤ 2 := by
  have A : ∀ m : Fin 100, (Lib.decDigits m.val).length ≤ 2 := by decide +kernel
  exact A ⟨m, h⟩
def halfW : List UInt8 := [49, 47, 50]
abbrev Step := List UInt8 × Nat × Nat
def playWs (x : Step) : List (List UInt8) := [playW, [97], x.1, halfW, Lib.decDigits x.2.1]
def waitWs (x : Step) : List (List UInt8) := [waitW, Lib.decDigits x.2.2]
def playLn (x : Step) : List UInt8 := playW ++ 32 :: ([97] ++ 32 :: (x.1 ++ 32 :: (halfW ++ 32 :: Lib.decDigits x.2.1)))
def waitLn (x : Step) : List UInt8 := waitW ++ 32 :: Lib.decDigits x.2.2
def bodyL (ps : List Step) : List (List UInt8) := ps.flatMap fun x => [playLn x, waitLn x]
structure StepOk (x : Step) : Prop where
  key : x.1 = [48] ∨ x.1 = [55] ∨ x.1 = [45, 49, 50]
  long : x.2.1 < 40
  wait : x.2.2 < 20
section
variable {x : Step} (h : StepOk x)
include h
theorem StepOk.bytes : (∀ w ∈ playWs x, ∀ b ∈ w, b ≠ 32 ∧ b ≠ 10) ∧ ∀ w ∈ waitWs x, ∀ b ∈ w, b ≠ 32 ∧ b ≠ 10 := by
  have dec : ∀ m : Nat, ∀ b ∈ Lib.decDigits m, b ≠ 32 ∧ b ≠ 10 := fun m b hb => ⟨dec_no m (c := 32) (.inl (by decide)) b hb, dec_no m (c := 10) (.inl (by decide)) b hb⟩
  have lit : ∀ {w : List UInt8}, (w.all fun b => b != 32 && b != 10) = true → ∀ b ∈ w, b ≠ 32 ∧ b ≠ 10 := fun hw b hb => by
    have := List.all_eq_true.1 hw b hb
    simpa using this
  refine ⟨fun w hw => ?_, fun w hw => ?_⟩
  · unfold playWs at hw
    simp only [List.mem_cons, List.not_mem_nil, or_false] at hw
    rcases hw with rfl | rfl | rfl | rfl | rfl
    · exact lit (by decide)
    · exact lit (by decide)
    · rcases h.key with e | e | e <;> rw [e] <;> exact lit (by decide)
    · exact lit (by decide)
    · exact dec _
  · unfold waitWs at hw
    simp only [List.mem_cons, List.not_mem_nil, or_false] at hw
    rcases hw with rfl | rfl
    · exact lit (by decide)
    · exact dec _
theorem StepOk.cutP : cutL 32 (playLn x) = playWs x := by
  have hb : ∀ w ∈ playWs x, ∀ b ∈ w, b ≠ 32 := fun w hw b hb => (h.bytes.1 w hw b hb).1
  unfold playLn
  unfold playWs at hb ⊢
  rw [cut_pre (hb _ (by simp)), cut_pre (hb _ (by simp)), cut_pre (hb _ (by simp)), cut_pre (hb _ (by simp)), cut_none (hb _ (by simp))]
theorem StepOk.cutW : cutL 32 (waitLn x) = waitWs x := by
  have hb : ∀ w ∈ waitWs x, ∀ b ∈ w, b ≠ 32 := fun w hw b hb => (h.bytes.2 w hw b hb).1
  unfold waitLn
  unfold waitWs at hb ⊢
  rw [cut_pre (hb _ (by simp)), cut_none (hb _ (by simp))]
theorem StepOk.len : (playLn x).length ≤ 20 ∧ (waitLn x).length ≤ 20 := by
  have h1 := dec2 (m := x.2.1) (by have := h.long; omega)
  have h2 := dec2 (m := x.2.2) (by have := h.wait; omega)
  have h3 : x.1.length ≤ 3 := by rcases h.key with e | e | e <;> rw [e] <;> decide
  unfold playLn waitLn
  simp only [List.length_append, List.length_cons, List.length_nil, playW, halfW, waitW]
  omega
theorem StepOk.no10 : (∀ b ∈ playLn x, b ≠ 10) ∧ ∀ b ∈ waitLn x, b ≠ 10 := by
  have h1 : ∀ w ∈ playWs x, ∀ b ∈ w, b ≠ 10 := fun w hw b hb => (h.bytes.1 w hw b hb).2
  have h2 : ∀ w ∈ waitWs x, ∀ b ∈ w, b ≠ 10 := fun w hw b hb => (h.bytes.2 w hw b hb).2
  unfold playWs at h1
  unfold waitWs at h2
  simp only [List.mem_cons, List.not_mem_nil, or_false, forall_eq_or_imp, forall_eq] at h1 h2
  obtain ⟨a1, a2, a3, a4, a5⟩ := h1
  obtain ⟨b1, b2⟩ := h2
  refine ⟨fun b hb => ?_, fun b hb => ?_⟩
  · unfold playLn at hb
    simp only [List.mem_append, List.mem_cons, List.not_mem_nil, or_false] at hb
    rcases hb with hb | rfl | rfl | rfl | hb | rfl | hb | rfl | hb
    · exact a1 b hb
    · decide
    · decide
    · decide
    · exact a3 b hb
    · decide
    · exact a4 b hb
    · decide
    · exact a5 b hb
  · unfold waitLn at hb
    simp only [List.mem_append, List.mem_cons] at hb
    rcases hb with hb | rfl | hb
    · exact b1 b hb
    · decide
    · exact b2 b hb
end
def xa : GInstrument := ⟨mkB [97], 1, 0, 0, 0⟩
structure Gd (m : Nat) (lp : List (Nat × Nat)) (s : GComp) : Prop where
  kinds : s.kinds = [xa]
  n0 : 0 ≤ s.now
  n1 : s.now ≤ 20 * (m : Int)
  notes : s.notes.length ≤ m
  loops : s.loops = lp
theorem whole_dec {m : Nat} (h : m < 100) : wholeL (Lib.decDigits m) = some m := whole_iff.2 ⟨rfl, by have := dec2 h; omega⟩
theorem half_ok : fracL halfW = some 1056964608 := by decide +kernel
theorem name_a : nameOk (mkB [97]) = true := by decide +kernel
theorem StepOk.keyV {x : Step} (h : StepOk x) : ∃ k, signedL x.1 = some k ∧ inR k (-100) 100 = true := by
  rcases h.key with e | e | e <;> rw [e]
  · exact ⟨0, by decide +kernel, by decide⟩
  · exact ⟨7, by decide +kernel, by decide⟩
  · exact ⟨-12, by decide +kernel, by decide⟩
section
variable {x : Step} {s : GComp} {m p : Nat} {lp : List (Nat × Nat)}
theorem Gd.play (h : StepOk x) (G : Gd m lp s) (hm : m < 64) : ∃ s', s.line p (cutL 32 (playLn x)) = .ok (s', p + 1) ∧ s'.kinds = [xa] ∧ s'.now = s.now ∧ s'.notes.length = s.notes.length + 1 ∧ s'.loops = lp := by
  obtain ⟨k, h1, h2⟩ := h.keyV
  have hd := h.long
  have g1 := G.n1
  have g2 := G.notes
  have hat : nameAt s.kinds (mkB [97]) = 0 := by rw [G.kinds]; decide +kernel
  refine ⟨{ s with notes := s.notes ++ [⟨s.now, s.now + x.2.1, nameAt s.kinds (mkB [97]), k, 1056964608⟩] }, ?_, G.kinds, rfl, by simp, G.loops⟩
  rw [h.cutP, line_play (by rfl), if_pos (by rfl)]
  show (match signedL x.1, fracL halfW, wholeL (Lib.decDigits x.2.1) with
    | some key, some force, some long => if nameOk (mkB [97]) then s.note p (mkB [97]) key force long else .error 5
    | _, _, _ => .error 5) = _
  rw [h1, half_ok, whole_dec (by omega)]
  show (if nameOk (mkB [97]) = true then s.note p (mkB [97]) k 1056964608 x.2.1 else .error 5) = _
  rw [if_pos name_a]
  unfold GComp.note
  rw [h2, decide_eq_false (by omega), if_neg (by decide), if_neg (by rw [hat]; decide), if_pos (by omega)]
theorem Gd.wait (h : StepOk x) (hn : s.now + 20 ≤ 100000) : s.line p (cutL 32 (waitLn x)) = .ok ({ s with now := s.now + x.2.2 }, p + 1) := by
  have hd := h.wait
  rw [h.cutW, line_one (.inr (.inr (.inl rfl))), if_pos (by rfl)]
  show (match wholeL (Lib.decDigits x.2.2) with | some n => s.one p waitW n | none => .error 5) = _
  rw [whole_dec (by omega)]
  show s.goto p (s.now + x.2.2) = _
  unfold GComp.goto
  rw [if_neg (by omega)]
theorem Gd.body {ls r : List (List UInt8)} {f : Nat} : ∀ {ps : List Step} {s : GComp} {m p : Nat}, (∀ x ∈ ps, StepOk x) → Gd m lp s → m + ps.length ≤ 60 → ls.drop p = bodyL ps ++ r → ∃ s', crun ls (f + 2 * ps.length) s p = crun ls f s' (p + 2 * ps.length) ∧ Gd (m + ps.length) lp s' ∧ ls.drop (p + 2 * ps.length) = r
  | [], s, m, p, h, G, hm, e => ⟨s, rfl, G, e⟩
  | x :: ps, s, m, p, h, G, hm, e => by
    rw [List.length_cons] at hm
    have hx := h x (.head _)
    have e : ls.drop p = playLn x :: waitLn x :: (bodyL ps ++ r) := e
    obtain ⟨_, _, e1⟩ := drop_at e
    obtain ⟨_, _, e2⟩ := drop_at e1
    obtain ⟨s1, r1, k1, k2, k3, k4⟩ := G.play (p := p) hx (by omega)
    have g1 := G.n1
    have g0 := G.n0
    have g2 := G.notes
    have hw := hx.wait
    have r2 := Gd.wait (s := s1) (p := p + 1) hx (by omega)
    obtain ⟨s', c1, c2, c3⟩ := Gd.body (f := f) (fun y hy => h y (.tail _ hy)) (s := { s1 with now := s1.now + x.2.2 }) (m := m + 1) (p := p + 1 + 1) ⟨k1, by show 0 ≤ s1.now + (x.2.2 : Int); omega, by show s1.now + (x.2.2 : Int) ≤ 20 * ((m + 1 : Nat) : Int); omega, by show s1.notes.length ≤ m + 1; omega, k4⟩ (by omega) e2
    refine ⟨s', ?_, by rw [List.length_cons, show m + (ps.length + 1) = m + 1 + ps.length by omega]; exact c2, by rw [List.length_cons, show p + 2 * (ps.length + 1) = p + 1 + 1 + 2 * ps.length by omega]; exact c3⟩
    rw [List.length_cons, show f + 2 * (ps.length + 1) = f + 2 * ps.length + 1 + 1 by omega, crun_step e r1, crun_step e1 r2, c1, show p + 2 * (ps.length + 1) = p + 1 + 1 + 2 * ps.length by omega]
end
def strLn : List UInt8 := [115, 116, 114, 105, 110, 103, 32, 97, 32, 48, 32, 48, 32, 48]
def whatLn : List UInt8 := [119, 104, 97, 116, 32, 105, 115, 32, 116, 104, 105, 115]
def repLn : List UInt8 := [114, 101, 112, 101, 97, 116, 32, 49]
def s1a : GComp := { start0 with kinds := [xa] }
theorem first_ok : start0.line 0 (cutL 32 strLn) = .ok (s1a, 0 + 1) := by
  rw [show cutL 32 strLn = [stringW, [97], [48], [48], [48]] by decide +kernel, line_sound (.inl rfl), if_pos (by rfl)]
  show (match fracL [48], fracL [48], (if kindOf stringW = 2 then if ([48] : List UInt8) = opW then some 1065353216 else if ([48] : List UInt8) = clW then some 0 else none else fracL [48]) with
    | some a, some b, some c => if nameOk (mkB [97]) then start0.add 0 ⟨mkB [97], kindOf stringW, a, b, c⟩ else .error 5
    | _, _, _ => .error 5) = _
  rw [show fracL [48] = some 0 by decide +kernel, show kindOf stringW = 1 by decide +kernel, if_neg (by decide)]
  show (if nameOk (mkB [97]) = true then start0.add 0 xa else .error 5) = _
  rw [if_pos name_a]
  unfold GComp.add
  rw [if_pos (by decide +kernel), if_neg (by decide), if_pos (by decide)]
  rfl
theorem gd_first : Gd 0 [] s1a := ⟨rfl, by decide, by decide, Nat.le_refl _, rfl⟩
section
variable {ps : List Step} (h : ∀ x ∈ ps, StepOk x) (hp : ps.length ≤ 20)
include h
theorem body_lines : (∀ l ∈ bodyL ps, l.length ≤ 20) ∧ (∀ l ∈ bodyL ps, ∀ b ∈ l, b ≠ 10) := by
  unfold bodyL
  refine ⟨fun l hl => ?_, fun l hl => ?_⟩
  all_goals
    obtain ⟨x, hx, hl⟩ := List.mem_flatMap.1 hl
    have := h x hx
    simp only [List.mem_cons, List.not_mem_nil, or_false] at hl
  · rcases hl with rfl | rfl
    · exact this.len.1
    · exact this.len.2
  · rcases hl with rfl | rfl
    · exact this.no10.1
    · exact this.no10.2
omit h in
theorem body_len : (bodyL ps).length = 2 * ps.length := by
  unfold bodyL
  induction ps with
  | nil => rfl
  | cons x ps ih => simp only [List.flatMap_cons, List.length_append, ih, List.length_cons, List.length_nil]; omega
omit h in
theorem compile_of {ls : List (List UInt8)} (h1 : ∀ l ∈ ls, l.length ≤ 20) (h2 : ∀ l ∈ ls, ∀ b ∈ l, b ≠ 10) (h3 : ls.length ≤ 100) : compileS (joinT ls) = endS ls.length (runS ls) := by
  have hl := joinT_len h1
  unfold compileS
  rw [scoreL_join h2, if_neg (by omega)]
include hp
/-- A line that is none is told by its number. -/
theorem told_bad : compileS (joinT (strLn :: (bodyL ps ++ whatLn :: bodyL ps))) = (z_Score, ((2 * ps.length + 1 : Nat) : Int), 5) := by
  obtain ⟨b1, b2⟩ := body_lines h
  have bl := body_len (ps := ps)
  rw [compile_of (fun l hl => ?_) (fun l hl => ?_) (by simp [bl]; omega)]
  · obtain ⟨s', c1, c2, c3⟩ := Gd.body (f := 1) (ls := strLn :: (bodyL ps ++ whatLn :: bodyL ps)) (r := whatLn :: bodyL ps) h gd_first (p := 1) (by omega) rfl
    have e : runS (strLn :: (bodyL ps ++ whatLn :: bodyL ps)) = .error (1 + 2 * ps.length, 5) := by
      refine runS_of (f := 1 + 2 * ps.length + 1) ?_
      rw [crun_step (l := strLn) (r := bodyL ps ++ whatLn :: bodyL ps) rfl first_ok]
      show crun _ (1 + 2 * ps.length) s1a 1 = _
      rw [c1]
      have ew : cutL 32 whatLn = [[119, 104, 97, 116], [105, 115], [116, 104, 105, 115]] := by decide +kernel
      refine crun_bad c3 (line_else ?_ ?_ ?_ ?_ ?_) <;> rw [ew]
      · rintro (h | h | h | h) <;> cases h
      · intro h; cases h
      · rintro (h | h | h) <;> cases h
      · intro h; cases h
      · intro h; cases h
    rw [e]
    show (z_Score, ((1 + 2 * ps.length : Nat) : Int), (5 : Int)) = _
    rw [Nat.add_comm]
  · rcases List.mem_cons.1 hl with rfl | hl
    · decide
    rcases List.mem_append.1 hl with hl | hl
    · exact b1 l hl
    · rcases List.mem_cons.1 hl with rfl | hl
      · decide
      · exact b1 l hl
  · rcases List.mem_cons.1 hl with rfl | hl
    · decide
    rcases List.mem_append.1 hl with hl | hl
    · exact b2 l hl
    · rcases List.mem_cons.1 hl with rfl | hl
      · decide
      · exact b2 l hl
theorem told_open : compileS (joinT (strLn :: repLn :: bodyL ps)) = (z_Score, ((2 * ps.length + 2 : Nat) : Int), 4) := by
  obtain ⟨b1, b2⟩ := body_lines h
  have bl := body_len (ps := ps)
  rw [compile_of (fun l hl => ?_) (fun l hl => ?_) (by simp [bl]; omega)]
  · have r2 : s1a.line 1 (cutL 32 repLn) = .ok ({ s1a with loops := [(1, 0)] }, 1 + 1) := by
      rw [show cutL 32 repLn = [repW, [49]] by decide +kernel, line_one (.inr (.inr (.inr rfl))), if_pos (by rfl)]
      show (match wholeL [49] with | some n => s1a.one 1 repW n | none => .error 5) = _
      rw [show wholeL [49] = some 1 by decide +kernel]
      rfl
    obtain ⟨s', c1, c2, c3⟩ := Gd.body (f := 1) (lp := [(1, 0)]) (ls := strLn :: repLn :: bodyL ps) (r := []) h (s := { s1a with loops := [(1, 0)] }) (m := 0) ⟨rfl, by decide, by decide, Nat.le_refl _, rfl⟩ (p := 2) (by omega) (by simp)
    have e : runS (strLn :: repLn :: bodyL ps) = .ok s' := by
      refine runS_of (f := 1 + 2 * ps.length + 1 + 1) ?_
      rw [crun_step (l := strLn) (r := repLn :: bodyL ps) rfl first_ok, crun_step (l := repLn) (r := bodyL ps) rfl r2, c1]
      exact crun_fin c3
    rw [e]
    show (if s'.loops = [] then (s'.score, (0 : Int), (0 : Int)) else (z_Score, ((strLn :: repLn :: bodyL ps).length : Int), 4)) = _
    rw [if_neg (by rw [c2.loops]; decide), List.length_cons, List.length_cons, bl]
  · rcases List.mem_cons.1 hl with rfl | hl
    · decide
    rcases List.mem_cons.1 hl with rfl | hl
    · decide
    exact b1 l hl
  · rcases List.mem_cons.1 hl with rfl | hl
    · decide
    rcases List.mem_cons.1 hl with rfl | hl
    · decide
    exact b2 l hl
theorem told_end : compileS (joinT (bodyL ps ++ [endW])) = (z_Score, 0, if ps = [] then 4 else 6) := by
  obtain ⟨b1, b2⟩ := body_lines h
  have bl := body_len (ps := ps)
  rw [compile_of (fun l hl => ?_) (fun l hl => ?_) (by simp [bl]; omega)]
  · cases ps with
    | nil =>
      have e : runS [endW] = .error (0, 4) := by
        refine runS_of (f := 1) (crun_bad (l := endW) (r := []) rfl ?_)
        rw [show cutL 32 endW = [endW] by decide +kernel, line_end (by rfl), if_pos (by rfl)]
        rfl
      show endS 1 (runS [endW]) = _
      rw [e]; rfl
    | cons x ps =>
      have hx := h x (.head _)
      obtain ⟨k, h1, h2⟩ := hx.keyV
      have hd := hx.long
      have e : runS (bodyL (x :: ps) ++ [endW]) = .error (0, 6) := by
        refine runS_of (f := 1) (crun_bad (l := playLn x) (r := waitLn x :: (bodyL ps ++ [endW])) rfl ?_)
        rw [hx.cutP, line_play (by rfl), if_pos (by rfl)]
        show (match signedL x.1, fracL halfW, wholeL (Lib.decDigits x.2.1) with
          | some key, some force, some long => if nameOk (mkB [97]) then start0.note 0 (mkB [97]) key force long else .error 5
          | _, _, _ => .error 5) = _
        rw [h1, half_ok, whole_dec (by omega)]
        show (if nameOk (mkB [97]) = true then start0.note 0 (mkB [97]) k 1056964608 x.2.1 else .error 5) = _
        rw [if_pos name_a]
        unfold GComp.note
        rw [h2, decide_eq_false (by show ¬ (100000 < (0 : Int) + x.2.1); omega), if_neg (by decide), if_pos (by decide +kernel)]
      rw [e, if_neg (by simp)]; rfl
  · rcases List.mem_append.1 hl with hl | hl
    · exact b1 l hl
    · rw [List.mem_singleton] at hl; subst hl; decide
  · rcases List.mem_append.1 hl with hl | hl
    · exact b2 l hl
    · rw [List.mem_singleton] at hl; subst hl; decide
end
end Go.Sx
