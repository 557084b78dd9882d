/- How a score is compiled, plainly: numbers in texts, lines, repeats; compiling ends. -/
import Derived.Test.YtnhcoeogejgidabGreatDoorLm14
import Derived.Test.YtnhcoeogejgidabGreatDoorLr7
set_option linter.unusedVariables false
set_option linter.unusedSimpArgs false
namespace Go.Sx

/-- A whole number of at most six digits. -/
def wholeL (l : List UInt8) : Option Nat := if 6 < l.length then none else numL l
/-- The same, maybe with a sign. -/
def signedL (l : List UInt8) : Option Int := if l.head? = some 45 then (wholeL l.tail).map fun n => -(n : Int) else (wholeL l).map fun n => (n : Int)
def byOk (d : Nat) : Bool := decide (2 ≤ d) && decide (d ≤ 1024) && (d &&& (d - 1) == 0)
/-- A fraction. -/
def fracL (l : List UInt8) : Option Nat := match cutL 47 l with
  | [a] => (signedL a).map FloatKind.f32.nearest
  | [a, b] => (signedL a).bind fun n => (wholeL b).bind fun d => if byOk d then some (fdiv .f32 (FloatKind.f32.nearest n) (FloatKind.f32.nearest d)) else none
  | _ => none
def rateW : List UInt8 := [114, 97, 116, 101]
def tuneW : List UInt8 := [116, 117, 110, 105, 110, 103]
def stringW : List UInt8 := [115, 116, 114, 105, 110, 103]
def pipW : List UInt8 := [112, 105, 112, 101]
def boW : List UInt8 := [98, 111, 119]
def atW : List UInt8 := [97, 116]
def waitW : List UInt8 := [119, 97, 105, 116]
def playW : List UInt8 := [112, 108, 97, 121]
def repW : List UInt8 := [114, 101, 112, 101, 97, 116]
def endW : List UInt8 := [101, 110, 100]
def opW : List UInt8 := [111, 112, 101, 110]
def clW : List UInt8 := [99, 108, 111, 115, 101, 100]
/-- A score while it is compiled; repeats that are open, the innermost one last: their lines and how often they still come. -/
structure GComp where
  rate : Nat
  tune : GTuning
  kinds : List GInstrument
  notes : List GNote
  now : Int
  loops : List (Nat × Nat)
deriving Inhabited
def equalT (base : Nat) (n : Nat) : GTuning := ⟨base, 1150681088, (List.range n).map fun i : Nat => fdiv .f32 (FloatKind.f32.nearest (1200 * (i : Int))) (FloatKind.f32.nearest n)⟩
/-- What a line does: the state behind it and the next line, or an error. -/
abbrev CRes := Except Int (GComp × Nat)
def GComp.setRate (s : GComp) (p n : Nat) : CRes := if inR n 1 1000000 then if s.notes.isEmpty then .ok ({ s with rate := FloatKind.f32.nearest n }, p + 1) else .error 4 else .error 2
def GComp.setTune (s : GComp) (p base n : Nat) : CRes := if inside base 1065353216 1184645120 && inR n 1 31 then if s.notes.isEmpty then .ok ({ s with tune := equalT base n }, p + 1) else .error 4 else .error 2
def GComp.goto (s : GComp) (p : Nat) (n : Int) : CRes := if 100000 < n then .error 2 else .ok ({ s with now := n }, p + 1)
def GComp.open_ (s : GComp) (p n : Nat) : CRes := if inR n 1 16 then if s.loops.length = 3 then .error 3 else .ok ({ s with loops := s.loops ++ [(p, n - 1)] }, p + 1) else .error 2
def GComp.close (s : GComp) (p : Nat) : CRes :=
  if s.loops = [] then .error 4
  else if s.loops[s.loops.length - 1]!.2 = 0 then .ok ({ s with loops := s.loops.take (s.loops.length - 1) }, p + 1)
  else .ok ({ s with loops := s.loops.set (s.loops.length - 1) (s.loops[s.loops.length - 1]!.1, s.loops[s.loops.length - 1]!.2 - 1) }, s.loops[s.loops.length - 1]!.1 + 1)
def GComp.add (s : GComp) (p : Nat) (x : GInstrument) : CRes :=
  if x.ok then if s.kinds.any fun k => decide (k.Name = x.Name) then .error 4 else if s.kinds.length < 6 then .ok ({ s with kinds := s.kinds ++ [x] }, p + 1) else .error 3 else .error 2
def GComp.sound (s : GComp) (p : Nat) (kind : Int) (ws : List (List UInt8)) : CRes :=
  match fracL ws[2]!, fracL ws[3]!, (if kind = 2 then if ws[4]! = opW then some 1065353216 else if ws[4]! = clW then some 0 else none else fracL ws[4]!) with
  | some a, some b, some c => if nameOk (mkB ws[1]!) then s.add p ⟨mkB ws[1]!, kind, a, b, c⟩ else .error 5
  | _, _, _ => .error 5
def nameAt (ks : List GInstrument) (n : ByteArray) : Int := firstAt (fun x : GInstrument => decide (x.Name = n)) ks
def GComp.note (s : GComp) (p : Nat) (n : ByteArray) (key : Int) (force long : Nat) : CRes :=
  if !inR key (-100) 100 || decide (100000 < s.now + long) then .error 2
  else if nameAt s.kinds n < 0 then .error 6
  else if s.notes.length < 64 then .ok ({ s with notes := s.notes ++ [⟨s.now, s.now + long, nameAt s.kinds n, key, force⟩] }, p + 1)
  else .error 3
def GComp.playL (s : GComp) (p : Nat) (ws : List (List UInt8)) : CRes :=
  match signedL ws[2]!, fracL ws[3]!, wholeL ws[4]! with
  | some key, some force, some long => if nameOk (mkB ws[1]!) then s.note p (mkB ws[1]!) key force long else .error 5
  | _, _, _ => .error 5
def GComp.line (s : GComp) (p : Nat) (ws : List (List UInt8)) : CRes :=
  if ws[0]! = rateW ∧ ws.length = 2 then match wholeL ws[1]! with | some n => s.setRate p n | none => .error 5
  else if ws[0]! = tuneW ∧ ws.length = 3 then match fracL ws[1]!, wholeL ws[2]! with | some a, some n => s.setTune p a n | _, _ => .error 5
  else if ws[0]! = stringW ∧ ws.length = 5 then s.sound p 1 ws
  else if ws[0]! = pipW ∧ ws.length = 5 then s.sound p 2 ws
  else if ws[0]! = boW ∧ ws.length = 5 then s.sound p 3 ws
  else if ws[0]! = atW ∧ ws.length = 2 then match wholeL ws[1]! with | some n => s.goto p n | none => .error 5
  else if ws[0]! = waitW ∧ ws.length = 2 then match wholeL ws[1]! with | some n => s.goto p (s.now + n) | none => .error 5
  else if ws[0]! = playW ∧ ws.length = 5 then s.playL p ws
  else if ws[0]! = repW ∧ ws.length = 2 then match wholeL ws[1]! with | some n => s.open_ p n | none => .error 5
  else if ws[0]! = endW ∧ ws.length = 1 then s.close p
  else .error 5
/-- What compiling from line p on gives, if so many lines are enough: the state at the end, or the line and its error. -/
def crun (ls : List (List UInt8)) : Nat → GComp → Nat → Option (Except (Nat × Int) GComp)
  | 0, _, _ => none
  | f + 1, s, p => if p < ls.length then match s.line p (cutL 32 ls[p]!) with
      | .ok (s', p') => crun ls f s' p'
      | .error e => some (.error (p, e))
    else some (.ok s)
/-- Weights of a line by the number of repeats that are open. -/
def wgt (n : Nat) : Nat → Nat
  | 0 => 1 + 16 * n * (1 + 16 * n * (1 + 16 * n))
  | 1 => 1 + 16 * n * (1 + 16 * n)
  | 2 => 1 + 16 * n
  | _ => 1
theorem wgt_step (n d : Nat) (h : d < 3) : wgt n d = 1 + 16 * n * wgt n (d + 1) := by
  match d, h with
  | 0, _ => rfl
  | 1, _ => rfl
  | 2, _ => show 1 + 16 * n = 1 + 16 * n * 1; omega
/-- What repeats that are open still cost, from the one of depth d on. -/
def debt (n : Nat) : Nat → List (Nat × Nat) → Nat
  | _, [] => 0
  | d, (l, k) :: r => k * n * wgt n (d + 1) + (n - l - 1) * wgt n d + debt n (d + 1) r
theorem debt_snoc (n : Nat) : ∀ (r : List (Nat × Nat)) (d : Nat) (x : Nat × Nat), debt n d (r ++ [x]) = debt n d r + (x.2 * n * wgt n (d + r.length + 1) + (n - x.1 - 1) * wgt n (d + r.length))
  | [], d, (l, k) => by simp [debt]
  | (l, k) :: r, d, x => by
    rw [List.cons_append, debt, debt, debt_snoc n r (d + 1) x, List.length_cons, show d + 1 + r.length = d + (r.length + 1) by omega]
    omega
def cost (n : Nat) (s : GComp) (p : Nat) : Nat := (n - p) * wgt n s.loops.length + debt n 0 s.loops
/-- Repeats that are open: at most three, each begun at an earlier line, coming at most fifteen times more. -/
structure Loops (n p : Nat) (ls : List (Nat × Nat)) : Prop where
  len : ls.length ≤ 3
  each : ∀ x ∈ ls, x.1 < p ∧ x.2 ≤ 15
  inc : ls.Pairwise fun a b => a.1 < b.1
theorem wgt_pos (n d : Nat) : 1 ≤ wgt n d := by
  match d with
  | 0 => show 1 ≤ 1 + _; omega
  | 1 => show 1 ≤ 1 + _; omega
  | 2 => show 1 ≤ 1 + _; omega
  | _ + 3 => exact Nat.le_refl 1
theorem last_split {ls : List (Nat × Nat)} (h : ls ≠ []) : ls = ls.take (ls.length - 1) ++ [ls[ls.length - 1]!] := by
  have h1 : 1 ≤ ls.length := List.length_pos_iff.2 h
  have := take_snoc (l := ls) (n := ls.length - 1) (by omega)
  rw [← this, show ls.length - 1 + 1 = ls.length by omega, List.take_length]
theorem keep_loops {n p : Nat} {ls : List (Nat × Nat)} (L : Loops n p ls) : Loops n (p + 1) ls := ⟨L.len, fun x hx => ⟨by have := (L.each x hx).1; omega, (L.each x hx).2⟩, L.inc⟩
/-- What a line leaves of the repeats, and that it costs something. -/
theorem line_cost {s s' : GComp} {p p' n : Nat} {ws : List (List UInt8)} (hp : p < n) (L : Loops n p s.loops) (e : s.line p ws = .ok (s', p')) : Loops n p' s'.loops ∧ cost n s' p' < cost n s p := by
  have plain : ∀ {t : GComp}, t.loops = s.loops → Loops n (p + 1) t.loops ∧ cost n t (p + 1) < cost n s p := fun {t} h => by
    rw [h]
    refine ⟨keep_loops L, ?_⟩
    unfold cost
    rw [h, show n - p = (n - (p + 1)) + 1 by omega, Nat.add_mul]
    have := wgt_pos n s.loops.length
    omega
  unfold GComp.line at e
  have fin : ∀ {c : Prop} [Decidable c] {a b : CRes} {r : GComp × Nat}, (if c then a else b) = .ok r → a = .ok r ∨ b = .ok r := fun {c _ a b r} h => by
    by_cases hc : c
    · rw [if_pos hc] at h; exact .inl h
    · rw [if_neg hc] at h; exact .inr h
  have hw : ∀ {o : Option Nat} {f : Nat → CRes} {r : GComp × Nat}, (match o with | some n => f n | none => .error 5) = .ok r → ∃ m, f m = .ok r := fun {o f r} h => by
    cases o with
    | none => cases h
    | some m => exact ⟨m, h⟩
  rcases fin e with e | e
  · obtain ⟨m, e⟩ := hw e
    unfold GComp.setRate at e
    rcases fin e with e | e
    · rcases fin e with e | e
      · cases e; exact plain rfl
      · cases e
    · cases e
  rcases fin e with e | e
  · split at e
    · unfold GComp.setTune at e
      rcases fin e with e | e
      · rcases fin e with e | e
        · cases e; exact plain rfl
        · cases e
      · cases e
    · cases e
  have snd : ∀ {k : Int}, s.sound p k ws = .ok (s', p') → Loops n p' s'.loops ∧ cost n s' p' < cost n s p := fun {k} e => by
    unfold GComp.sound at e
    split at e
    · rcases fin e with e | e
      · unfold GComp.add at e
        rcases fin e with e | e
        · rcases fin e with e | e
          · cases e
          · rcases fin e with e | e
            · cases e; exact plain rfl
            · cases e
        · cases e
      · cases e
    · cases e
  rcases fin e with e | e
  · exact snd e
  rcases fin e with e | e
  · exact snd e
  rcases fin e with e | e
  · exact snd e
  have gt : ∀ {m : Int}, s.goto p m = .ok (s', p') → Loops n p' s'.loops ∧ cost n s' p' < cost n s p := fun {m} e => by
    unfold GComp.goto at e
    rcases fin e with e | e
    · cases e
    · cases e; exact plain rfl
  rcases fin e with e | e
  · obtain ⟨m, e⟩ := hw e; exact gt e
  rcases fin e with e | e
  · obtain ⟨m, e⟩ := hw (f := fun m => s.goto p (s.now + (m : Int))) e; exact gt e
  rcases fin e with e | e
  · unfold GComp.playL at e
    split at e
    · rcases fin e with e | e
      · unfold GComp.note at e
        rcases fin e with e | e
        · cases e
        · rcases fin e with e | e
          · cases e
          · rcases fin e with e | e
            · cases e; exact plain rfl
            · cases e
      · cases e
    · cases e
  rcases fin e with e | e
  · obtain ⟨m, e⟩ := hw e
    unfold GComp.open_ at e
    by_cases hm : inR m 1 16 = true
    · rw [if_pos hm] at e
      by_cases h3 : s.loops.length = 3
      · rw [if_pos h3] at e; cases e
      · rw [if_neg h3] at e
        cases e
        have hl := L.len
        unfold inR at hm
        simp only [Bool.and_eq_true, decide_eq_true_eq] at hm
        refine ⟨⟨by show (s.loops ++ [(p, m - 1)]).length ≤ 3; simp; omega, fun x hx => ?_, ?_⟩, ?_⟩
        · rcases List.mem_append.1 hx with hx | hx
          · exact (keep_loops L).each x hx
          · rw [List.mem_singleton] at hx
            subst hx
            exact ⟨by show p < p + 1; omega, by show m - 1 ≤ 15; omega⟩
        · exact List.pairwise_append.2 ⟨L.inc, List.pairwise_singleton _ _, fun a ha b hb => by
            rw [List.mem_singleton] at hb
            subst hb
            exact (L.each a ha).1⟩
        · unfold cost
          show (n - (p + 1)) * wgt n (s.loops ++ [(p, m - 1)]).length + debt n 0 (s.loops ++ [(p, m - 1)]) < _
          rw [debt_snoc, List.length_append, List.length_singleton, Nat.zero_add]
          show (n - (p + 1)) * wgt n (s.loops.length + 1) + (debt n 0 s.loops + ((m - 1) * n * wgt n (s.loops.length + 1) + (n - p - 1) * wgt n s.loops.length)) < (n - p) * wgt n s.loops.length + debt n 0 s.loops
          have hw := wgt_step n s.loops.length (by omega)
          generalize wgt n s.loops.length = W at hw ⊢
          generalize wgt n (s.loops.length + 1) = V at hw ⊢
          have h1 : (n - p) * W = (n - p - 1) * W + W := by
            conv => lhs; rw [show n - p = (n - p - 1) + 1 by omega, Nat.add_mul, Nat.one_mul]
          have h2 : (n - (p + 1)) * V ≤ n * V := Nat.mul_le_mul_right _ (by omega)
          have h3 : (m - 1) * n * V ≤ 15 * n * V := Nat.mul_le_mul_right _ (Nat.mul_le_mul_right _ (by omega))
          have h4 : 16 * n * V = 15 * n * V + n * V := by
            rw [show 16 * n = 15 * n + n by omega, Nat.add_mul]
          omega
    · rw [if_neg hm] at e; cases e
  rcases fin e with e | e
  · unfold GComp.close at e
    by_cases h0 : s.loops = []
    · rw [if_pos h0] at e; cases e
    · rw [if_neg h0] at e
      have hs := last_split h0
      have h1 : 1 ≤ s.loops.length := List.length_pos_iff.2 h0
      obtain ⟨L1, L2, L3⟩ := L
      have hx := L2 s.loops[s.loops.length - 1]! (mem_get (by omega))
      generalize hx0 : s.loops[s.loops.length - 1]! = x at *
      generalize hr0 : s.loops.take (s.loops.length - 1) = r at *
      have hrl : r.length = s.loops.length - 1 := by rw [← hr0, List.length_take]; omega
      have hd : debt n 0 s.loops = debt n 0 r + (x.2 * n * wgt n (r.length + 1) + (n - x.1 - 1) * wgt n r.length) := by
        rw [hs, debt_snoc, Nat.zero_add]
      by_cases hz : x.2 = 0
      · rw [if_pos hz] at e
        cases e
        rw [hs] at L3
        refine ⟨⟨by show r.length ≤ 3; omega, fun y hy => ?_, (List.pairwise_append.1 L3).1⟩, ?_⟩
        · have hy : y ∈ r := hy
          have := L2 y (by rw [hs]; exact List.mem_append_left _ hy)
          exact ⟨by omega, this.2⟩
        · unfold cost
          rw [hd]
          show (n - (p + 1)) * wgt n r.length + debt n 0 r < _
          have h2 : (n - (p + 1)) * wgt n r.length ≤ (n - x.1 - 1) * wgt n r.length := Nat.mul_le_mul_right _ (by omega)
          have h3 : 1 ≤ (n - p) * wgt n s.loops.length := Nat.mul_pos (by omega) (wgt_pos _ _)
          omega
      · rw [if_neg hz] at e
        cases e
        have hset : s.loops.set (s.loops.length - 1) (x.1, x.2 - 1) = r ++ [(x.1, x.2 - 1)] := by
          conv => lhs; rw [hs]
          rw [List.set_append_right _ _ (by simp <;> omega)]
          congr 1
          rw [show (r ++ [x]).length - 1 - r.length = 0 by simp]
          rfl
        rw [hset]
        rw [hs] at L3
        obtain ⟨L4, _, L5⟩ := List.pairwise_append.1 L3
        refine ⟨⟨by show (r ++ [(x.1, x.2 - 1)]).length ≤ 3; simp; omega, fun y hy => ?_, List.pairwise_append.2 ⟨L4, List.pairwise_singleton _ _, fun a ha b hb => by
          rw [List.mem_singleton] at hb
          subst hb
          exact L5 a ha x (List.mem_singleton.2 rfl)⟩⟩, ?_⟩
        · have hy : y ∈ r ++ [(x.1, x.2 - 1)] := hy
          rcases List.mem_append.1 hy with hy | hy
          · have := L2 y (by rw [hs]; exact List.mem_append_left _ hy)
            have := L5 y hy x (List.mem_singleton.2 rfl)
            exact ⟨by show y.1 < x.1 + 1; omega, (L2 y (by rw [hs]; exact List.mem_append_left _ hy)).2⟩
          · rw [List.mem_singleton] at hy
            subst hy
            exact ⟨by show x.1 < x.1 + 1; omega, by show x.2 - 1 ≤ 15; omega⟩
        · unfold cost
          rw [hd]
          show (n - (x.1 + 1)) * wgt n (r ++ [(x.1, x.2 - 1)]).length + debt n 0 (r ++ [(x.1, x.2 - 1)]) < _
          rw [debt_snoc, List.length_append, List.length_singleton, Nat.zero_add, show r.length + 1 = s.loops.length by omega]
          show (n - (x.1 + 1)) * wgt n s.loops.length + (debt n 0 r + ((x.2 - 1) * n * wgt n s.loops.length + (n - x.1 - 1) * wgt n r.length)) < _
          have e2 : x.2 * n * wgt n s.loops.length = (x.2 - 1) * n * wgt n s.loops.length + n * wgt n s.loops.length := by
            conv => lhs; rw [show x.2 = (x.2 - 1) + 1 by omega, Nat.add_mul, Nat.add_mul, Nat.one_mul]
          have h2 : (n - (x.1 + 1)) * wgt n s.loops.length ≤ n * wgt n s.loops.length := Nat.mul_le_mul_right _ (by omega)
          have h3 : 1 ≤ (n - p) * wgt n s.loops.length := Nat.mul_pos (by omega) (wgt_pos _ _)
          omega
  · cases e
/-- So many lines are enough. -/
theorem crun_ends {ls : List (List UInt8)} : ∀ (f : Nat) (s : GComp) (p : Nat), Loops ls.length p s.loops → cost ls.length s p < f → ∃ r, crun ls f s p = some r
  | 0, _, _, _, h => absurd h (Nat.not_lt_zero _)
  | f + 1, s, p, L, h => by
    unfold crun
    by_cases hp : p < ls.length
    · rw [if_pos hp]
      cases e : s.line p (cutL 32 ls[p]!) with
      | error c => exact ⟨_, rfl⟩
      | ok r =>
        obtain ⟨s', p'⟩ := r
        obtain ⟨L', hc⟩ := line_cost hp L e
        exact crun_ends f s' p' L' (by omega)
    · rw [if_neg hp]
      exact ⟨_, rfl⟩
end Go.Sx
