/- What a score that is being compiled keeps: its numbers stay small and sound. -/
import Derived.Test.YtnhcoeogejgidabGreatDoorLm21
import Derived.Test.YtnhcoeogejgidabGreatDoorTab
import Derived.Test.YtnhcoeogejgidabGreatDoorLk0
set_option linter.unusedVariables false
set_option linter.unusedSimpArgs false
namespace Go.Sx

structure CInv (s : GComp) : Prop where
  k6 : s.kinds.length ≤ 6
  kok : instOk s.kinds = true
  n64 : s.notes.length ≤ 64
  n0 : 0 ≤ s.now
  n1 : s.now ≤ 100000
  l3 : s.loops.length ≤ 3
  each : ∀ x ∈ s.loops, x.1 ≤ 100000 ∧ x.2 ≤ 15
  d31 : s.tune.Degrees.length ≤ 31
def GComp.work (s : GComp) : GWork := ⟨s.rate, s.tune, s.kinds, s.notes, s.now, s.loops.map fun x => ((x.1 + 1 : Nat) : Int), s.loops.map fun x => (x.2 : Int)⟩
def GComp.comp (s : GComp) (p : Nat) : GCompiler := ⟨⟨s.rate, s.tune, s.kinds, evsOf s.notes⟩, s.now, s.loops.map fun x => ⟨(x.1 : Int), (x.2 : Int)⟩, (p : Int)⟩
theorem cond_ok {c : Prop} [Decidable c] {a b : CRes} {r : GComp × Nat} (h : (if c then a else b) = .ok r) : (c ∧ a = .ok r) ∨ (¬ c ∧ b = .ok r) := by
  by_cases hc : c
  · rw [if_pos hc] at h; exact .inl ⟨hc, h⟩
  · rw [if_neg hc] at h; exact .inr ⟨hc, h⟩
theorem word_ok {o : Option Nat} {f : Nat → CRes} {r : GComp × Nat} (h : (match o with | some n => f n | none => .error 5) = .ok r) : ∃ m, o = some m ∧ f m = .ok r := by
  cases o with
  | none => cases h
  | some m => exact ⟨m, rfl, h⟩
theorem inst_snoc {ks : List GInstrument} {x : GInstrument} (h : instOk ks = true) (hx : x.ok = true) (hn : (ks.any fun k => decide (k.Name = x.Name)) = false) : instOk (ks ++ [x]) = true := by
  unfold instOk at *
  rw [List.all_eq_true] at *
  intro i hi
  rw [List.mem_range, List.length_append, List.length_singleton] at hi
  have old : ∀ j, j < ks.length → (ks ++ [x])[j]! = ks[j]! := fun j hj => by
    rw [getElem!_pos _ j (by simp; omega), getElem!_pos ks j hj, List.getElem_append_left hj]
  unfold instAt
  by_cases e : i < ks.length
  · have := h i (List.mem_range.2 e)
    unfold instAt at this
    simp only [Bool.and_eq_true, List.all_eq_true, List.mem_range] at this ⊢
    rw [old i e]
    exact ⟨this.1, fun j hj => by rw [old j (by omega)]; exact this.2 j hj⟩
  · have hi2 : i = ks.length := by omega
    have ex : (ks ++ [x])[i]! = x := by
      subst hi2
      rw [getElem!_pos _ _ (by simp), List.getElem_append_right (Nat.le_refl _)]
      simp
    simp only [Bool.and_eq_true, List.all_eq_true, List.mem_range]
    rw [ex]
    refine ⟨hx, fun j hj => ?_⟩
    rw [old j (by omega)]
    have := List.any_eq_false.1 hn ks[j]! (by rw [getElem!_pos ks j (by omega)]; exact List.getElem_mem _)
    simpa using this
theorem line_inv {s s' : GComp} {p p' : Nat} {ws : List (List UInt8)} (hp : p < 100000) (I : CInv s) (e : s.line p ws = .ok (s', p')) : CInv s' := by
  unfold GComp.line at e
  have goto : ∀ {m : Int}, 0 ≤ m → s.goto p m = .ok (s', p') → CInv s' := fun {m} h0 e => by
    unfold GComp.goto at e
    rcases cond_ok e with ⟨_, e⟩ | ⟨h1, e⟩
    · cases e
    · cases e; exact ⟨I.k6, I.kok, I.n64, h0, by show m ≤ 100000; omega, I.l3, I.each, I.d31⟩
  have sound : ∀ {k : Int}, s.sound p k ws = .ok (s', p') → CInv s' := fun {k} e => by
    unfold GComp.sound at e
    split at e
    · rcases cond_ok e with ⟨_, e⟩ | ⟨_, e⟩
      · unfold GComp.add at e
        rcases cond_ok e with ⟨hx, e⟩ | ⟨_, e⟩
        · rcases cond_ok e with ⟨_, e⟩ | ⟨hn, e⟩
          · cases e
          · rcases cond_ok e with ⟨h6, e⟩ | ⟨_, e⟩
            · cases e
              refine ⟨by show (s.kinds ++ [_]).length ≤ 6; simp; omega, inst_snoc I.kok hx (Bool.eq_false_iff.2 hn), I.n64, I.n0, I.n1, I.l3, I.each, I.d31⟩
            · cases e
        · cases e
      · cases e
    · cases e
  rcases cond_ok e with ⟨_, e⟩ | ⟨_, e⟩
  · obtain ⟨m, _, e⟩ := word_ok e
    unfold GComp.setRate at e
    rcases cond_ok e with ⟨_, e⟩ | ⟨_, e⟩
    · rcases cond_ok e with ⟨_, e⟩ | ⟨_, e⟩
      · cases e; exact ⟨I.k6, I.kok, I.n64, I.n0, I.n1, I.l3, I.each, I.d31⟩
      · cases e
    · cases e
  rcases cond_ok e with ⟨_, e⟩ | ⟨_, e⟩
  · split at e
    · unfold GComp.setTune at e
      rcases cond_ok e with ⟨hr, e⟩ | ⟨_, e⟩
      · rcases cond_ok e with ⟨_, e⟩ | ⟨_, e⟩
        · cases e
          unfold inR at hr
          simp only [Bool.and_eq_true, decide_eq_true_eq] at hr
          exact ⟨I.k6, I.kok, I.n64, I.n0, I.n1, I.l3, I.each, by show (List.map _ (List.range _)).length ≤ 31; rw [List.length_map, List.length_range]; omega⟩
        · cases e
      · cases e
    · cases e
  rcases cond_ok e with ⟨_, e⟩ | ⟨_, e⟩
  · exact sound e
  rcases cond_ok e with ⟨_, e⟩ | ⟨_, e⟩
  · exact sound e
  rcases cond_ok e with ⟨_, e⟩ | ⟨_, e⟩
  · exact sound e
  rcases cond_ok e with ⟨_, e⟩ | ⟨_, e⟩
  · obtain ⟨m, _, e⟩ := word_ok (f := fun m => s.goto p (m : Int)) e; exact goto (by omega) e
  rcases cond_ok e with ⟨_, e⟩ | ⟨_, e⟩
  · obtain ⟨m, _, e⟩ := word_ok (f := fun m => s.goto p (s.now + (m : Int))) e; exact goto (by have := I.n0; omega) e
  rcases cond_ok e with ⟨_, e⟩ | ⟨_, e⟩
  · unfold GComp.playL at e
    split at e
    · rename_i key force long h1 h2 h3
      rcases cond_ok e with ⟨_, e⟩ | ⟨_, e⟩
      · unfold GComp.note at e
        rcases cond_ok e with ⟨_, e⟩ | ⟨hk, e⟩
        · cases e
        · rcases cond_ok e with ⟨_, e⟩ | ⟨hn, e⟩
          · cases e
          · rcases cond_ok e with ⟨h64, e⟩ | ⟨_, e⟩
            · cases e
              exact ⟨I.k6, I.kok, by show (s.notes ++ [_]).length ≤ 64; simp; omega, I.n0, I.n1, I.l3, I.each, I.d31⟩
            · cases e
      · cases e
    · cases e
  rcases cond_ok e with ⟨_, e⟩ | ⟨_, e⟩
  · obtain ⟨m, _, e⟩ := word_ok e
    unfold GComp.open_ at e
    rcases cond_ok e with ⟨hm, e⟩ | ⟨_, e⟩
    · rcases cond_ok e with ⟨_, e⟩ | ⟨h3, e⟩
      · cases e
      · cases e
        unfold inR at hm
        simp only [Bool.and_eq_true, decide_eq_true_eq] at hm
        refine ⟨I.k6, I.kok, I.n64, I.n0, I.n1, by have := I.l3; show (s.loops ++ [(p, m - 1)]).length ≤ 3; simp; omega, fun x hx => ?_, I.d31⟩
        rcases List.mem_append.1 hx with h | h
        · exact I.each x h
        · rw [List.mem_singleton] at h
          subst h
          exact ⟨by show p ≤ 100000; omega, by show m - 1 ≤ 15; omega⟩
    · cases e
  rcases cond_ok e with ⟨_, e⟩ | ⟨_, e⟩
  · unfold GComp.close at e
    rcases cond_ok e with ⟨_, e⟩ | ⟨h0, e⟩
    · cases e
    · have h1 : 1 ≤ s.loops.length := List.length_pos_iff.2 h0
      have hx := I.each s.loops[s.loops.length - 1]! (by rw [getElem!_pos s.loops _ (by omega)]; exact List.getElem_mem _)
      rcases cond_ok e with ⟨_, e⟩ | ⟨_, e⟩
      · cases e
        exact ⟨I.k6, I.kok, I.n64, I.n0, I.n1, by have := I.l3; show (s.loops.take _).length ≤ 3; rw [List.length_take]; omega, (fun x hx => I.each x (List.mem_of_mem_take hx)), I.d31⟩
      · cases e
        refine ⟨I.k6, I.kok, I.n64, I.n0, I.n1, by have := I.l3; show (s.loops.set _ _).length ≤ 3; rw [List.length_set]; exact this, fun x hx' => ?_, I.d31⟩
        rcases List.mem_or_eq_of_mem_set hx' with h | h
        · exact I.each x h
        · subst h
          exact ⟨hx.1, by have := hx.2; show _ - 1 ≤ 15; omega⟩
  · cases e
theorem exists_least {P : Nat → Prop} (h : ∃ n, P n) : ∃ n, P n ∧ ∀ m, P m → n ≤ m := by
  obtain ⟨n, hn⟩ := h
  induction n using Nat.strongRecOn with
  | _ n ih =>
    by_cases e : ∃ m, m < n ∧ P m
    · obtain ⟨m, hm, hp⟩ := e
      exact ih m hm hp
    · exact ⟨n, hn, fun m hm => by
        apply Classical.byContradiction
        intro hc
        exact e ⟨m, by omega, hm⟩⟩
noncomputable def leastN {X : Type} (J : Nat → X → Heap → Prop) (x : X) (h : Heap) : Nat := @dite _ (∃ n, J n x h) (Classical.propDecidable _) (fun e => Classical.choose (exists_least e)) fun _ => 0
theorem least_spec {X : Type} {J : Nat → X → Heap → Prop} {x : X} {h : Heap} (e : ∃ n, J n x h) : J (leastN J x h) x h ∧ ∀ m, J m x h → leastN J x h ≤ m := by
  unfold leastN
  rw [dif_pos e]
  exact Classical.choose_spec (exists_least e)
/-- A loop with a measure that the invariant bears. -/
theorem loopN {X : Type} {B : (X → Heap → Prop) → X → Heap → Prop} {x : X} {h : Heap} (J : Nat → X → Heap → Prop) {n0 : Nat} (h0 : J n0 x h)
    (hb : ∀ n x h, J n x h → ∀ N : X → Heap → Prop, (∀ n' x' h', n' < n → J n' x' h' → N x' h') → B N x h) : LOOP B x h :=
  ⟨fun x h => ∃ n, J n x h, leastN J, ⟨n0, h0⟩, fun x h e => by
    obtain ⟨h1, h2⟩ := least_spec e
    exact hb _ x h h1 _ fun n' x' h' hn hj => ⟨⟨n', hj⟩, Nat.lt_of_le_of_lt ((least_spec ⟨n', hj⟩).2 n' hj) hn⟩⟩
end Go.Sx
/- What functions of this seat's program compute, told in words (a predicate over heaps for each), and the proofs that the words are no more than the code's own weakest precondition. -/
namespace Go.Sx
open Go.Proofs
set_option linter.unusedVariables false
set_option maxRecDepth 100000

def laws_sameFloat.J4 (Post : Value → Heap → Prop) (a_0 : Nat) (b_1 : Nat) (t26 : Bool) (h : Heap) : Prop :=
    BIF t26 (
    FOP .f64 (FloatKind.f64.format.div 4607182418800017408 a_0) fun r1 =>
    FOP .f64 (FloatKind.f64.format.div 4607182418800017408 b_1) fun r2 =>
    Post (.bool ((FloatKind.f64.format.order r1 0 == some .gt) == (FloatKind.f64.format.order r2 0 == some .gt))) h) (
    Post (.bool (FloatKind.f64.format.order a_0 b_1 == some .eq)) h)
def laws_sameFloat.j4 (Post : Value → Heap → Prop) : Frame → Heap → Prop := fun fr h => GRD (shape (kds 37 [(0, .f .f64), (1, .f .f64), (26, .b)]) fr) (laws_sameFloat.J4 Post (gF (lget fr 0)) (gF (lget fr 1)) (gB (lget fr 26)) h)
def laws_sameFloat.J3 (Post : Value → Heap → Prop) (a_0 : Nat) (b_1 : Nat) (h : Heap) : Prop :=
    BIF (FloatKind.f64.format.order a_0 0 == some .eq) (
    laws_sameFloat.J4 Post a_0 b_1 (FloatKind.f64.format.order b_1 0 == some .eq) h) (
    laws_sameFloat.J4 Post a_0 b_1 false h)
def laws_sameFloat.j3 (Post : Value → Heap → Prop) : Frame → Heap → Prop := fun fr h => GRD (shape (kds 37 [(0, .f .f64), (1, .f .f64)]) fr) (laws_sameFloat.J3 Post (gF (lget fr 0)) (gF (lget fr 1)) h)
def laws_sameFloat.S (a_0 : Nat) (b_1 : Nat) (Post : Value → Heap → Prop) (h : Heap) : Prop :=
    BIF (FloatKind.f64.format.order a_0 a_0 != some .eq) (
    BIF (FloatKind.f64.format.order a_0 a_0 != some .eq) (
    Post (.bool (FloatKind.f64.format.order b_1 b_1 != some .eq)) h) (
    Post (.bool false) h)) (
    BIF (FloatKind.f64.format.order b_1 b_1 != some .eq) (
    BIF (FloatKind.f64.format.order a_0 a_0 != some .eq) (
    Post (.bool (FloatKind.f64.format.order b_1 b_1 != some .eq)) h) (
    Post (.bool false) h)) (
    laws_sameFloat.J3 Post a_0 b_1 h))
noncomputable def laws_sameFloat.code : Code := (Tryz.f26.body).getD .skip
theorem laws_sameFloat.call {a_0 : Nat} {b_1 : Nat} {Post : Value → Heap → Prop} {h : Heap} (H : laws_sameFloat.S a_0 b_1 Post h) : CALL prg f_laws_sameFloat #[.float .f64 a_0, .float .f64 b_1] Post h :=
  fn_call tau_ok mixed (c := laws_sameFloat.code) (Λ := lookL [(3, laws_sameFloat.j3 Post), (4, laws_sameFloat.j4 Post)]) Tryz.func26 (by kernel_rfl) (by kernel_rfl)
    (Rq.seq (by kernel_rfl) (Rq.free (by kernel_rfl)) (Rq.seqJ (laws_sameFloat.j3 Post) (by kernel_rfl) (seg (fun _ _ => by kernel_rfl)) (Rq.free (by kernel_rfl))
(Rq.seq (by kernel_rfl) (Rq.seqJ (laws_sameFloat.j4 Post) (by kernel_rfl) (seg (fun _ _ => by kernel_rfl)) (Rq.free (by kernel_rfl))
(Rq.free (by kernel_rfl))) (Rq.free (by kernel_rfl)))))
    (Eq.mp (by kernel_rfl) H)

def laws_eqFloat32S.B4 (Post : Value → Heap → Prop) (N4 : (Option Addr × Nat × Nat × Option Addr × Nat × Nat × Int) → Heap → Prop) : Option Addr × Nat × Nat × Option Addr × Nat × Nat × Int → Heap → Prop
  | (a_0b, a_0l, a_0c, b_1b, b_1l, b_1c, i_5), h =>
    BIF ((decide (i_5 < (a_0l : Int)))) (
    IDXS a_0b i_5 a_0l fun p7 =>
    oF .f32 (cell h ((Addr.add p7 ((Int.toNat i_5) * 1)))) fun r8 =>
    IDXS b_1b i_5 b_1l fun p9 =>
    oF .f32 (cell h ((Addr.add p9 ((Int.toNat i_5) * 1)))) fun r10 =>
    (FFC .f32 r8 .f64 fun r11 =>
    PIN h ((Addr.add p9 ((Int.toNat i_5) * 1))) 1 h <|
    FFC .f32 r10 .f64 fun r12 =>
    PIN h ((Addr.add p7 ((Int.toNat i_5) * 1))) 1 h <|
    CALL prg f_laws_sameFloat #[.float .f64 r11, .float .f64 r12] (fun q13 h14 =>
    asB q13 fun b15 =>
    BIF (!b15) (
    Post (.bool false) h14) (
    N4 (a_0b, a_0l, a_0c, b_1b, b_1l, b_1c, ((IntKind.i64.wrap (i_5 + (1 : Int))))) h14)) h) ∧ (FFC .f32 r10 .f64 fun r16 =>
    PIN h ((Addr.add p7 ((Int.toNat i_5) * 1))) 1 h <|
    FFC .f32 r8 .f64 fun r17 =>
    PIN h ((Addr.add p9 ((Int.toNat i_5) * 1))) 1 h <|
    CALL prg f_laws_sameFloat #[.float .f64 r17, .float .f64 r16] (fun q18 h19 =>
    asB q18 fun b20 =>
    BIF (!b20) (
    Post (.bool false) h19) (
    N4 (a_0b, a_0l, a_0c, b_1b, b_1l, b_1c, ((IntKind.i64.wrap (i_5 + (1 : Int))))) h19)) h)) (
    Post (.bool true) h)
def laws_eqFloat32S.g4 (fr : Frame) : Option Addr × Nat × Nat × Option Addr × Nat × Nat × Int := ((gLb (lget fr 0)), (gLl (lget fr 0)), (gLc (lget fr 0)), (gLb (lget fr 1)), (gLl (lget fr 1)), (gLc (lget fr 1)), (gI (lget fr 5)))
def laws_eqFloat32S.l4 (Post : Value → Heap → Prop) : Frame → Heap → Prop := fun fr h => GRD (shape (kds 29 [(0, .l), (1, .l), (5, .i .i64)]) fr) (LOOP (laws_eqFloat32S.B4 Post) (laws_eqFloat32S.g4 fr) h)
def laws_eqFloat32S.S (a_0b : Option Addr) (a_0l a_0c : Nat) (b_1b : Option Addr) (b_1l b_1c : Nat) (Post : Value → Heap → Prop) (h : Heap) : Prop :=
    BIF ((a_0l : Int) != (b_1l : Int)) (
    Post (.bool false) h) (
    LOOP (laws_eqFloat32S.B4 Post) (a_0b, a_0l, a_0c, b_1b, b_1l, b_1c, (0 : Int)) h)
noncomputable def laws_eqFloat32S.code : Code := (Tryz.f65.body).getD .skip
theorem laws_eqFloat32S.call {a_0b : Option Addr} {a_0l a_0c : Nat} {b_1b : Option Addr} {b_1l b_1c : Nat} {Post : Value → Heap → Prop} {h : Heap} (H : laws_eqFloat32S.S a_0b a_0l a_0c b_1b b_1l b_1c Post h) : CALL prg f_laws_eqFloat32S #[.slice a_0b a_0l a_0c, .slice b_1b b_1l b_1c] Post h :=
  fn_call tau_ok mixed (c := laws_eqFloat32S.code) (Λ := lookL [(1000004, laws_eqFloat32S.l4 Post)]) Tryz.func65 (by kernel_rfl) (by kernel_rfl)
    (Rq.seq (by kernel_rfl) (Rq.free (by kernel_rfl)) (Rq.seq (by kernel_rfl) (Rq.free (by kernel_rfl)) (Rq.seq (by kernel_rfl) (Rq.seq (by kernel_rfl) (Rq.free (by kernel_rfl)) (Rq.block (Rq.loop (laws_eqFloat32S.l4 Post) (by kernel_rfl) (segL (g := laws_eqFloat32S.g4) tau_ok mixed (Λ := fun N4 => lookL []) (fun _ _ _ => by kernel_rfl) (fun N4 => (Rq.free (by kernel_rfl))))))) (Rq.free (by kernel_rfl)))))
    (Eq.mp (by kernel_rfl) H)

def laws_markFloat32S.B2 (Post : Value → Heap → Prop) (N2 : (Option Addr × Nat × Nat × Int × Int) → Heap → Prop) : Option Addr × Nat × Nat × Int × Int → Heap → Prop
  | (a_0b, a_0l, a_0c, k_1, i_5), h =>
    BIF ((decide (i_5 < (a_0l : Int)))) (
    IDXS a_0b i_5 a_0l fun p3 =>
    ST1 h ((Addr.add p3 ((Int.toNat i_5) * 1))) (.float .f32 (FloatKind.f32.nearest k_1)) fun h4 =>
    N2 (a_0b, a_0l, a_0c, ((IntKind.i64.wrap (k_1 + (1 : Int)))), ((IntKind.i64.wrap (i_5 + (1 : Int))))) h4) (
    Post (.int .i64 k_1) h)
def laws_markFloat32S.g2 (fr : Frame) : Option Addr × Nat × Nat × Int × Int := ((gLb (lget fr 0)), (gLl (lget fr 0)), (gLc (lget fr 0)), (gI (lget fr 1)), (gI (lget fr 5)))
def laws_markFloat32S.l2 (Post : Value → Heap → Prop) : Frame → Heap → Prop := fun fr h => GRD (shape (kds 20 [(0, .l), (1, .i .i64), (5, .i .i64)]) fr) (LOOP (laws_markFloat32S.B2 Post) (laws_markFloat32S.g2 fr) h)
def laws_markFloat32S.S (a_0b : Option Addr) (a_0l a_0c : Nat) (k_1 : Int) (Post : Value → Heap → Prop) (h : Heap) : Prop :=
    LOOP (laws_markFloat32S.B2 Post) (a_0b, a_0l, a_0c, k_1, (0 : Int)) h
noncomputable def laws_markFloat32S.code : Code := (Tryz.f68.body).getD .skip
theorem laws_markFloat32S.call {a_0b : Option Addr} {a_0l a_0c : Nat} {k_1 : Int} {Post : Value → Heap → Prop} {h : Heap} (H : laws_markFloat32S.S a_0b a_0l a_0c k_1 Post h) : CALL prg f_laws_markFloat32S #[.slice a_0b a_0l a_0c, .int .i64 k_1] Post h :=
  fn_call tau_ok mixed (c := laws_markFloat32S.code) (Λ := lookL [(1000002, laws_markFloat32S.l2 Post)]) Tryz.func68 (by kernel_rfl) (by kernel_rfl)
    (Rq.seq (by kernel_rfl) (Rq.free (by kernel_rfl)) (Rq.seq (by kernel_rfl) (Rq.seq (by kernel_rfl) (Rq.free (by kernel_rfl)) (Rq.block (Rq.loop (laws_markFloat32S.l2 Post) (by kernel_rfl) (segL (g := laws_markFloat32S.g2) tau_ok mixed (Λ := fun N2 => lookL []) (fun _ _ _ => by kernel_rfl) (fun N2 => (Rq.free (by kernel_rfl))))))) (Rq.free (by kernel_rfl))))
    (Eq.mp (by kernel_rfl) H)

def laws_heldFloat32S.B2 (Post : Value → Heap → Prop) (N2 : (Option Addr × Nat × Nat × Int × Int) → Heap → Prop) : Option Addr × Nat × Nat × Int × Int → Heap → Prop
  | (a_0b, a_0l, a_0c, k_1, i_5), h =>
    BIF ((decide (i_5 < (a_0l : Int)))) (
    IDXS a_0b i_5 a_0l fun p3 =>
    oF .f32 (cell h ((Addr.add p3 ((Int.toNat i_5) * 1)))) fun r4 =>
    BIF (FloatKind.f32.format.order r4 (FloatKind.f32.nearest k_1) != some .eq) (
    Post (.int .i64 (-1 : Int)) h) (
    N2 (a_0b, a_0l, a_0c, ((IntKind.i64.wrap (k_1 + (1 : Int)))), ((IntKind.i64.wrap (i_5 + (1 : Int))))) h)) (
    Post (.int .i64 k_1) h)
def laws_heldFloat32S.g2 (fr : Frame) : Option Addr × Nat × Nat × Int × Int := ((gLb (lget fr 0)), (gLl (lget fr 0)), (gLc (lget fr 0)), (gI (lget fr 1)), (gI (lget fr 5)))
def laws_heldFloat32S.l2 (Post : Value → Heap → Prop) : Frame → Heap → Prop := fun fr h => GRD (shape (kds 22 [(0, .l), (1, .i .i64), (5, .i .i64)]) fr) (LOOP (laws_heldFloat32S.B2 Post) (laws_heldFloat32S.g2 fr) h)
def laws_heldFloat32S.S (a_0b : Option Addr) (a_0l a_0c : Nat) (k_1 : Int) (Post : Value → Heap → Prop) (h : Heap) : Prop :=
    LOOP (laws_heldFloat32S.B2 Post) (a_0b, a_0l, a_0c, k_1, (0 : Int)) h
noncomputable def laws_heldFloat32S.code : Code := (Tryz.f70.body).getD .skip
theorem laws_heldFloat32S.call {a_0b : Option Addr} {a_0l a_0c : Nat} {k_1 : Int} {Post : Value → Heap → Prop} {h : Heap} (H : laws_heldFloat32S.S a_0b a_0l a_0c k_1 Post h) : CALL prg f_laws_heldFloat32S #[.slice a_0b a_0l a_0c, .int .i64 k_1] Post h :=
  fn_call tau_ok mixed (c := laws_heldFloat32S.code) (Λ := lookL [(1000002, laws_heldFloat32S.l2 Post)]) Tryz.func70 (by kernel_rfl) (by kernel_rfl)
    (Rq.seq (by kernel_rfl) (Rq.free (by kernel_rfl)) (Rq.seq (by kernel_rfl) (Rq.seq (by kernel_rfl) (Rq.free (by kernel_rfl)) (Rq.block (Rq.loop (laws_heldFloat32S.l2 Post) (by kernel_rfl) (segL (g := laws_heldFloat32S.g2) tau_ok mixed (Λ := fun N2 => lookL []) (fun _ _ _ => by kernel_rfl) (fun N2 => (Rq.free (by kernel_rfl))))))) (Rq.free (by kernel_rfl))))
    (Eq.mp (by kernel_rfl) H)

end Go.Sx
/- The laws' helpers over floats: what they compute. -/
set_option linter.unusedVariables false
set_option linter.unusedSimpArgs false
namespace Go.Sx
open Go.Proofs
set_option maxRecDepth 100000

def w_Float32S (xs : List Nat) : Nat := xs.length
theorem isF_gtz {o : Option Nat} {r1 r2 : Nat} (h1 : IsF .f64 o r1) (h2 : IsF .f64 o r2) : (FloatKind.f64.format.order r1 0 == some .gt) = (FloatKind.f64.format.order r2 0 == some .gt) := by
  cases o with
  | some v => rw [show r1 = v from h1, show r2 = v from h2]
  | none => rw [order_nan_left (nan_of_isNaNW (k := .f64) h1), order_nan_left (nan_of_isNaNW (k := .f64) h2)]
theorem sameFloat_c {a b : Nat} (hab : cn .f64 a = cn .f64 b) : Ret prg f_laws_sameFloat #[.float .f64 a, .float .f64 b] (.bool true) := fun h => by
  obtain ⟨hn, he⟩ := canon_eq_iff hab
  refine laws_sameFloat.call ?_
  unfold laws_sameFloat.S
  simp only [ne_self]
  cases hna : nan .f64 a with
  | true => exact br_t rfl (br_t rfl ⟨by rw [← hn, hna], Ext.refl _⟩)
  | false =>
    obtain rfl := he hna
    refine br_f rfl (br_f hna ?_)
    unfold laws_sameFloat.J3
    have hoo : FloatKind.f64.format.order a a = some .eq := by rw [order_self, hna]; rfl
    refine br (fun hz => ?_) fun hz => ?_
    · unfold laws_sameFloat.J4
      rw [hz]
      exact br_t rfl fun r1 h1 r2 h2 => ⟨by rw [isF_gtz h1 h2]; simp, Ext.refl _⟩
    · unfold laws_sameFloat.J4
      exact br_f rfl ⟨by rw [hoo]; rfl, Ext.refl _⟩
theorem sameW_c {a b c : Nat} (ha : FW .f64 a (wid c)) (hb : FW .f64 b (wid c)) : Ret prg f_laws_sameFloat #[.float .f64 a, .float .f64 b] (.bool true) := sameFloat_c (by rw [ha.1, hb.1])
section
variable {h : Heap}
theorem eq_Float32S_c {b1 b2 : Option Addr} {l1 c1 l2 c2 : Nat} {xs : List Nat} (S1 : SlR (rF .f32) h b1 l1 c1 xs) (S2 : SlR (rF .f32) h b2 l2 c2 xs) : CALL prg f_laws_eqFloat32S #[.slice b1 l1 c1, .slice b2 l2 c2] (fun u h' => u = .bool true ∧ Ext h h') h := by
  have e1 := S1.len
  have e2 := S2.len
  have h2 := S1.2.1
  have h3 := S1.2.2.1
  have := maxLen_lt
  obtain rfl : l1 = l2 := by omega
  refine laws_eqFloat32S.call (br_f (by simp) ?_)
  refine loop (fun x hh => ∃ n : Nat, x = (b1, l1, c1, b2, l1, c2, (n : Int)) ∧ n ≤ l1 ∧ Ext h hh) (fun x => (l1 - x.2.2.2.2.2.2).toNat) ⟨0, rfl, by omega, Ext.refl _⟩ ?_
  rintro x hh ⟨n, rfl, hn, X⟩
  refine brd (fun hc => ?_) fun hc => ⟨rfl, X⟩
  refine (S1.ext X).idx (by decide) (by omega) (by omega) fun a Ra => Ra.oF1 fun y hy => (S2.ext X).idx (by decide) (by omega) (by omega) fun a' Rb => Rb.oF1 fun z hz => ?_
  have fin : ∀ {h'}, Ext hh h' → (∃ n_1 : Nat, ((b1, l1, c1, b2, l1, c2, IntKind.i64.wrap ((n : Int) + 1)) : Option Addr × Nat × Nat × Option Addr × Nat × Nat × Int) = (b1, l1, c1, b2, l1, c2, (n_1 : Int)) ∧ n_1 ≤ l1 ∧ Ext h h') ∧ ((l1 : Int) - IntKind.i64.wrap ((n : Int) + 1)).toNat < ((l1 : Int) - (n : Int)).toNat := by
    intro h' x'
    rw [wrap64_succ (by omega)]
    exact ⟨⟨n + 1, rfl, by omega, X.trans x'⟩, by omega⟩
  exact ⟨ffc_wide hy fun r1 k1 => pin_same (ffc_wide hz fun r2 k2 => pin_same (goX (sameW_c k1 k2 _) fun h' x' => as_b (br_f rfl (fin x')))),
    ffc_wide hz fun r1 k1 => pin_same (ffc_wide hy fun r2 k2 => pin_same (goX (sameW_c k2 k1 _) fun h' x' => as_b (br_f rfl (fin x'))))⟩
def mk_Float32S (xs : List Nat) (k : Nat) : List Nat := (List.range xs.length).map fun i => FloatKind.f32.nearest ((k + i : Nat) : Int)
def n_Float32S (xs : List Nat) : Nat := xs.length
theorem mkF_get {xs : List Nat} {k i : Nat} (hi : i < xs.length) : (mk_Float32S xs k)[i]! = FloatKind.f32.nearest ((k + i : Nat) : Int) := by
  rw [getElem!_pos _ i (by simpa [mk_Float32S] using hi)]
  simp [mk_Float32S]
theorem mark_Float32S_c {h0 : Heap} {B L : List Blk} {b : Option Addr} {l c : Nat} {xs : List Nat} (O : SlO T_float32 (rF .f32) B b l c xs) (M : Mem h0 h (B ++ L)) (k : Nat) (hl : w_Float32S xs ≤ 1048576) (hk : k + n_Float32S xs ≤ 1073741824) :
    CALL prg f_laws_markFloat32S #[.slice b l c, .int .i64 (k : Int)] (fun u h' => u = .int .i64 ((k + n_Float32S xs : Nat) : Int) ∧ ∃ B', SlO T_float32 (rF .f32) B' b l c (mk_Float32S xs k) ∧ Mem h0 h' (B' ++ L)) h := by
  have h1 := O.len
  unfold w_Float32S at hl
  unfold n_Float32S at hk
  refine laws_markFloat32S.call ?_
  refine loop (fun x hh => ∃ (n : Nat) (B : List Blk) (ys : List Nat), x = (b, l, c, ((k + n : Nat) : Int), (n : Int)) ∧ n ≤ l ∧ SlO T_float32 (rF .f32) B b l c ys ∧ Mem h0 hh (B ++ L) ∧ ∀ i, i < n → ys[i]! = FloatKind.f32.nearest ((k + i : Nat) : Int)) (fun x => (l - x.2.2.2.2).toNat) ⟨0, B, xs, rfl, by omega, O, M, fun i hi => by omega⟩ ?_
  rintro x hh ⟨n, B, ys, rfl, hn, O, M, hy⟩
  have h2 := O.len
  refine brd (fun hc => ?_) fun hc => ?_
  · obtain ⟨a0, F', L', rfl, P, hs, close⟩ := O.elem M (i := n) (by omega)
    refine idxs (by omega) (by omega) (P.stF1 (fw_nearest _ _) fun h' P' => ?_)
    obtain ⟨B', O', M'⟩ := close _ _ _ P'
    rw [wrap64_succ (by omega), wrap64_succ (by omega)]
    refine ⟨⟨n + 1, B', _, rfl, by omega, O', M', fun i hi => ?_⟩, by show _ < _; simp; omega⟩
    by_cases e : i = n
    · subst e; rw [getElem!_pos _ i (by simpa using by omega), List.getElem_set_self]
    · have := hy i (by omega)
      rw [getElem!_pos _ i (by omega)] at this
      rw [getElem!_pos _ i (by simpa using by omega), List.getElem_set_ne (by omega)]
      exact this
  · obtain rfl : n = l := by omega
    refine ⟨by rw [n_Float32S, h1], B, ?_, M⟩
    have : ys = mk_Float32S xs k := by
      apply List.ext_getElem
      · simp [mk_Float32S]; omega
      · intro i hi hi2
        have := hy i (by omega)
        rw [getElem!_pos _ i hi] at this
        rw [this]; simp [mk_Float32S]
    rw [← this]; exact O
theorem held_Float32S_c {b : Option Addr} {l c : Nat} {xs : List Nat} (k : Nat) (S : SlR (rF .f32) h b l c (mk_Float32S xs k)) (hl : w_Float32S xs ≤ 1048576) (hk : k + n_Float32S xs ≤ 1073741824) :
    CALL prg f_laws_heldFloat32S #[.slice b l c, .int .i64 (k : Int)] (fun u h' => u = .int .i64 ((k + n_Float32S xs : Nat) : Int) ∧ Ext h h') h := by
  have h1 : xs.length = l := by have := S.len; simpa [mk_Float32S] using this
  unfold w_Float32S at hl
  unfold n_Float32S at hk
  refine laws_heldFloat32S.call ?_
  refine loop (fun x hh => ∃ n : Nat, x = (b, l, c, ((k + n : Nat) : Int), (n : Int)) ∧ n ≤ l ∧ hh = h) (fun x => (l - x.2.2.2.2).toNat) ⟨0, rfl, by omega, rfl⟩ ?_
  rintro x hh ⟨n, rfl, hn, rfl⟩
  refine brd (fun hc => ?_) fun hc => ?_
  · refine S.idx (by decide) (by omega) (by omega) fun a Ra => Ra.oF1 fun y hy => ?_
    rw [Int.toNat_natCast, mkF_get (by omega)] at hy
    have e : y = FloatKind.f32.nearest ((k + n : Nat) : Int) := hy.eq (nearest_not_nan _ _)
    subst e
    refine br_f (order_eq (nearest_not_nan _ _)) ?_
    rw [wrap64_succ (by omega), wrap64_succ (by omega)]
    exact ⟨⟨n + 1, rfl, by omega, rfl⟩, by show _ < _; simp; omega⟩
  · obtain rfl : n = l := by omega
    exact ⟨by rw [n_Float32S, h1], Ext.refl _⟩
end
end Go.Sx
/- The laws' helpers over rings and filters: what they compute. -/
set_option linter.unusedVariables false
set_option linter.unusedSimpArgs false
namespace Go.Sx
open Go.Proofs
set_option maxRecDepth 100000

theorem nw_Float32S (xs : List Nat) : n_Float32S xs ≤ 8 * w_Float32S xs := by unfold n_Float32S w_Float32S; omega
end Go.Sx
/- Floats in blocks beside own data; blocks made sample by sample. -/
set_option linter.unusedVariables false
set_option linter.unusedSimpArgs false
namespace Go.Sx
open Go.Proofs
set_option maxRecDepth 100000
set_option maxHeartbeats 1000000

theorem rdsF_any {k : FloatKind} {h h' : Heap} : ∀ {xs : List Nat} {vs : List Value}, rds (rF k) h vs xs → rds (rF k) h' vs xs
  | [], vs, R => R
  | a :: xs, vs, R => by
    obtain ⟨v1, v2, rfl, R1, R2⟩ := R
    exact ⟨v1, v2, rfl, R1, rdsF_any R2⟩
/-- n floats, wherever they lie. -/
def FA (n : Nat) (cs : Array Value) (xs : List Nat) : Prop := (rArr n (rF .f32)).rd #[] cs.toList xs
section
variable {n : Nat} {cs : Array Value} {xs : List Nat}
theorem FA.rd (R : FA n cs xs) (h : Heap) : (rArr n (rF .f32)).rd h cs.toList xs := ⟨R.1, rdsF_any R.2⟩
theorem FA.of {h : Heap} (R : (rArr n (rF .f32)).rd h cs.toList xs) : FA n cs xs := ⟨R.1, rdsF_any R.2⟩
theorem FA.size (R : FA n cs xs) : cs.size = n := by have := rsz R rfl; rw [this]; exact Nat.mul_one n
theorem FA.one (R : FA n cs xs) : ∀ v ∈ cs.toList, v.oneCell' = true := (rArr n (rF .f32)).rone R
end
end Go.Sx
