/- opI_sound: what opI says of an operation holds of its run. -/
import Derived.Test.YtnhcoeogejgidabGreatDoorSx3
set_option linter.unusedSectionVars false
namespace Go.Sx
variable [Mode]
variable {P : Program} {τ : Static}

/-- One value, the world as it was but for its heap and draws. -/
theorem semn_val {s : Sem Next} {K : Value → Heap → Prop} {h : Heap} (H : ∀ w : World, w.heap = h → ∃ v w', s.run P w = .ok (.value v) w' ∧ Same w w' ∧ K v w'.heap) : SEMN P s K h := by
  intro w hw
  obtain ⟨v, w', hr, hs, hk⟩ := H w hw
  rw [hr]
  exact ⟨hs, hk⟩
theorem semn_skip {s : Sem Next} {K : Value → Heap → Prop} {h : Heap} (H : ∀ w : World, w.heap = h → ∃ w', s.run P w = .ok .skip w' ∧ Same w w' ∧ K undef w'.heap) : SEMN P s K h := by
  intro w hw
  obtain ⟨w', hr, hs, hk⟩ := H w hw
  rw [hr]
  exact ⟨hs, hk⟩
theorem semn_pure {v : Value} {K : Value → Heap → Prop} {h : Heap} (hk : K v h) : SEMN P (pure (.value v)) K h :=
  semn_val fun w hw => ⟨v, w, rfl, Same.refl w, by rw [hw]; exact hk⟩
/-- A computation of a value that leaves the world alone. -/
theorem semn_v {s : Sem Value} {v : Value} {K : Value → Heap → Prop} {h : Heap} (hs : ∀ w : World, w.heap = h → s.run P w = .ok v w) (hk : K v h) : SEMV P s K h :=
  semn_val fun w hw => ⟨v, w, by simp [hs w hw], Same.refl w, by rw [hw]; exact hk⟩
theorem semn_v' {s : Sem Value} {K : Value → Heap → Prop} {h : Heap} (hs : ∀ w : World, w.heap = h → ∃ v w', s.run P w = .ok v w' ∧ Same w w' ∧ K v w'.heap) : SEMV P s K h :=
  semn_val fun w hw => by
    obtain ⟨v, w', hr, h1, h2⟩ := hs w hw
    exact ⟨v, w', by simp [hr], h1, h2⟩

theorem drew_same (w : World) : Same w { w with drawn := w.drawn + 1 } := ⟨rfl, rfl, rfl, fun _ => Nat.le_succ _⟩
theorem nan_choose (k : FloatKind) (q : Question) (hq : q.forced = false) (hc : ∀ t, isNaNW k (q.cut t)) (w : World) : ∃ r, (choose q).run P w = .ok r { w with drawn := w.drawn + 1 } ∧ isNaNW k r :=
  ⟨_, by rw [run_choose, hq]; rfl, hc _⟩
theorem cut_nanBits (k : FloatKind) (x y t : Nat) : isNaNW k ((Question.nanBits k x y).cut t) := by
  cases k <;> exact ⟨t, rfl⟩
theorem cut_nanConv (k : FloatKind) (x t : Nat) : isNaNW k ((Question.nanConv k x).cut t) := by
  cases k <;> exact ⟨t, rfl⟩

def farS (k : FloatKind) (a b : Nat) (o : Option Nat) : Sem Value := match o with | some r => pure (.float k r) | none => do pure (.float k (← choose (.nanBits k a b)))
theorem run_far (k : FloatKind) (a b : Nat) (o : Option Nat) (w : World) :
    ∃ r w', (farS k a b o).run P w = .ok (.float k r) w' ∧ Same w w' ∧ w'.heap = w.heap ∧ IsF k o r := by
  cases o with
  | some r => exact ⟨r, w, rfl, Same.refl w, rfl, rfl⟩
  | none =>
    obtain ⟨r, hr, hn⟩ := nan_choose (P := P) k (.nanBits k a b) rfl (cut_nanBits k a b) w
    exact ⟨r, { w with drawn := w.drawn + 1 }, by simp only [farS, Sem.run_bind, hr, Result.andThen_ok, Sem.run_pure], drew_same w, rfl, hn⟩
theorem run_floatArith (op : BinOp) (k : FloatKind) (a b : Nat) (o : Option Nat) (ho : (match op with | .add => o = k.format.add a b | .sub => o = k.format.sub a b | .mul => o = k.format.mul a b | .quo => o = k.format.div a b | _ => False)) (w : World) :
    ∃ r w', (Op.floatArith op k a b).run P w = .ok (.float k r) w' ∧ Same w w' ∧ w'.heap = w.heap ∧ IsF k o r := by
  have hrun : Op.floatArith op k a b = farS k a b o := by
    cases op <;> simp only at ho <;> first | exact ho.elim | (rw [ho]; simp only [Op.floatArith, pure_bind]; rfl)
  rw [hrun]
  exact run_far k a b o w

theorem bin_sound (hτ : OkS P τ) {op : BinOp} {t : Nat} {x y : Value} {xo yo : Operand} {raw : Prop} {K : Value → Heap → Prop} {h : Heap}
    (H : binI τ op t x y raw fun v => K v h) (hraw : raw → SEMV P (do eqGuard op t xo yo x y; binOp op t x y) K h) :
    SEMV P (do eqGuard op t xo yo x y; binOp op t x y) K h := by
  unfold binI at H
  split at H
  · rename_i k a k' b
    have shl : ∀ (v : Value), (binOp op t (.int k a) (.int k' b) = pure v) → K v h → SEMV P (do eqGuard op t xo yo (.int k a) (.int k' b); binOp op t (.int k a) (.int k' b)) K h := by
      intro v hb hk
      exact semn_v (fun w hw => by simp [hb, eqGuard_at_int]) hk
    split at H
    · obtain ⟨hn, H⟩ := H
      refine shl _ ?_ H
      simp [binOp, Op.shift, shlI, show ¬ b < 0 by omega]
    · obtain ⟨hn, H⟩ := H
      refine shl _ ?_ H
      simp [binOp, Op.shift, shrI, show ¬ b < 0 by omega]
    · rename_i h1 h2
      split at H
      · rename_i e; subst e
        cases op <;> simp only at H <;> first
          | exact H.elim
          | exact absurd rfl h1
          | exact absurd rfl h2
          | (refine shl _ ?_ H; simp [binOp, Op.intArith]; done)
          | (obtain ⟨hz, H⟩ := H; refine shl _ ?_ H; simp [binOp, Op.intDiv, hz]; done)
          | (refine shl _ ?_ H; simp only [binOp_and, binOp_or, binOp_xor, binOp_andNot]; rfl)
          | (refine shl _ ?_ H; simp [binOp, Op.intCmp]; done)
      · exact H.elim
  · rename_i k a k' b
    split at H
    · rename_i e; subst e
      have pur : ∀ (v : Value), (binOp op t (.float k a) (.float k b) = pure v) → K v h → SEMV P (do eqGuard op t xo yo (.float k a) (.float k b); binOp op t (.float k a) (.float k b)) K h := by
        intro v hb hk
        exact semn_v (fun w hw => by simp [hb, eqGuard_at_float]) hk
      have ari : ∀ (op' : BinOp) (o : Option Nat), op = op' → (match op' with | .add => o = k.format.add a b | .sub => o = k.format.sub a b | .mul => o = k.format.mul a b | .quo => o = k.format.div a b | _ => False) → (∀ r, IsF k o r → K (.float k r) h) →
          SEMV P (do eqGuard op t xo yo (.float k a) (.float k b); binOp op t (.float k a) (.float k b)) K h := by
        intro op' o e ho hk
        subst e
        refine semn_v' fun w hw => ?_
        obtain ⟨r, w', hr, hs, hh, hf⟩ := run_floatArith (P := P) op k a b o ho w
        refine ⟨.float k r, w', ?_, hs, ?_⟩
        · have hb : binOp op t (.float k a) (.float k b) = Op.floatArith op k a b := by
            cases op <;> simp only at ho <;> first | exact ho.elim | simp [binOp]
          simp [eqGuard_at_float, hb, hr]
        · rw [hh, hw]; exact hk r hf
      cases op <;> simp only at H <;> first
        | exact H.elim
        | exact ari _ _ rfl rfl H
        | (refine pur _ ?_ H; simp [binOp, Op.floatCmp]; done)
    · exact H.elim
  · rename_i a b
    have pur : ∀ (v : Value), (∀ w, (binOp op t (.string a) (.string b)).run P w = .ok v w) → K v h → SEMV P (do eqGuard op t xo yo (.string a) (.string b); binOp op t (.string a) (.string b)) K h := by
      intro v hb hk
      exact semn_v (fun w hw => by simp [hb, eqGuard_at_string]) hk
    cases op <;> simp only at H <;> first
      | exact H.elim
      | (obtain ⟨hb, H⟩ := H
         refine pur _ (fun w => ?_) H
         have : ¬ ((a.size + b.size : Nat) : Int) > IntKind.i64.max := by
           have : IntKind.i64.max = 9223372036854775807 := rfl
           omega
         simp only [binOp, Op.stringOp]
         rw [if_neg this]
         rfl)
      | (refine pur _ (fun w => ?_) H; simp [binOp, Op.stringOp]; done)
  · rename_i a b
    split at H
    · rename_i i hi
      obtain ⟨d, h1, h2, h3⟩ := run_und hτ hi
      have hd : d = .bool := by cases d <;> simp_all [tyOf]
      subst hd
      cases op <;> simp only at H <;> first
        | exact H.elim
        | (refine semn_v (fun w hw => ?_) H; simp [eqGuard_at_bool, run_eql_bool w t a b h1]; done)
        | (refine semn_v (fun w hw => ?_) H; simp [eqGuard_at_bool, run_neq_bool w t a b h1]; done)
    · exact H.elim
  · exact hraw H

theorem un_sound {op : UnOp} {x : Value} {K : Value → Heap → Prop} {h : Heap} (H : unI op x fun v => K v h) : SEMV P (Op.unary op x) K h := by
  unfold unI at H
  split at H
  · exact semn_v (fun w _ => rfl) H
  · exact semn_v (fun w _ => rfl) H
  · exact semn_v (fun w _ => rfl) H
  · exact semn_v (fun w _ => rfl) H
  · exact H.elim

theorem conv_sound (hτ : OkS P τ) {s d : Nat} {x : Value} {raw : Prop} {K : Value → Heap → Prop} {h : Heap} (H : convI τ s d x raw fun v => K v h) (hraw : raw → SEMV P (convert s d x) K h) : SEMV P (convert s d x) K h := by
  unfold convI at H
  split at H
  · rename_i i j hi hj
    obtain ⟨di, hi1, hi2, hi3⟩ := run_und hτ hi
    obtain ⟨dj, hj1, hj2, hj3⟩ := run_und hτ hj
    split at H
    · rename_i k k0 n e
      have : dj = .int k := by rw [e] at hj2; cases dj <;> simp_all [tyOf]
      subst this
      exact semn_v (fun w _ => by cases di <;> simp [convert, hi3, hj3, Conv.intToInt]) H
    · rename_i k k0 n e
      have : dj = .float k := by rw [e] at hj2; cases dj <;> simp_all [tyOf]
      subst this
      exact semn_v (fun w _ => by cases di <;> simp [convert, hi3, hj3, Conv.intToFloat]) H
    · rename_i k q b e
      have : dj = .int k := by rw [e] at hj2; cases dj <;> simp_all [tyOf]
      subst this
      refine semn_v' fun w hw => ?_
      have hc : ∀ w, (convert s d (.float q b)).run P w = (Conv.floatToInt q b k).run P w := fun w => by cases di <;> simp [convert, hi3, hj3]
      rw [hc]
      have hany : ∃ v w', (do pure (Value.int k (k.wrap (← choose (.floatToInt q b k)))) : Sem Value).run P w = .ok v w' ∧ Same w w' ∧ w'.heap = w.heap ∧ ∃ t : Int, v = .int k (k.wrap t) := by
        refine ⟨.int k (k.wrap (((Question.floatToInt q b k).cut (w.tape w.drawn (Question.floatToInt q b k)) : Nat) : Int)), { w with drawn := w.drawn + 1 }, ?_, drew_same w, rfl, _, rfl⟩
        simp only [Sem.run_bind, run_choose, Question.forced, Bool.false_eq_true, if_false, Result.andThen_ok, Sem.run_pure]
      unfold Conv.floatToInt
      cases hm : (q.decode b).toInt .zero with
      | some m =>
        simp only []
        by_cases hr : k.min ≤ m ∧ m ≤ k.max
        · rw [if_pos hr]
          exact ⟨_, w, rfl, Same.refl w, by rw [hw]; exact H m (by unfold IsFI; rw [hm]; simp [hr])⟩
        · rw [if_neg hr]
          obtain ⟨v, w', h1, h2, h3, u, rfl⟩ := hany
          exact ⟨_, w', h1, h2, by rw [h3, hw]; exact H _ (by unfold IsFI; rw [hm]; simp only []; rw [if_neg hr]; exact ⟨u, rfl⟩)⟩
      | none =>
        obtain ⟨v, w', h1, h2, h3, u, rfl⟩ := hany
        exact ⟨_, w', h1, h2, by rw [h3, hw]; exact H _ (by unfold IsFI; rw [hm]; exact ⟨u, rfl⟩)⟩
    · rename_i k q b e
      have : dj = .float k := by rw [e] at hj2; cases dj <;> simp_all [tyOf]
      subst this
      have hc : ∀ w, (convert s d (.float q b)).run P w = (Conv.floatToFloat q b k).run P w := fun w => by cases di <;> simp [convert, hi3, hj3]
      split at H
      · rename_i e2; subst e2
        exact semn_v (fun w _ => by rw [hc]; simp [Conv.floatToFloat]) H
      · rename_i e2
        refine semn_v' fun w hw => ?_
        rw [hc]
        unfold Conv.floatToFloat
        rw [if_neg e2]
        unfold FFC at H
        unfold IsFF at H
        cases hd : q.decode b with
        | nan s2 f =>
          rw [hd] at H
          obtain ⟨r, hr, hn⟩ := nan_choose (P := P) k (.nanConv k b) rfl (cut_nanConv k b) w
          refine ⟨.float k r, { w with drawn := w.drawn + 1 }, by simp only [Sem.run_bind, hr, Result.andThen_ok, Sem.run_pure], drew_same w, ?_⟩
          rw [← hw] at H
          exact H r hn
        | infinity s2 =>
          rw [hd] at H
          exact ⟨_, w, rfl, Same.refl w, by rw [hw]; exact H _ rfl⟩
        | number s2 m2 e2' =>
          rw [hd] at H
          simp only [] at H ⊢
          split
          · rename_i hinf
            refine ⟨.float k ((Question.floatToFloat b).cut (w.tape w.drawn (Question.floatToFloat b))), { w with drawn := w.drawn + 1 }, by simp only [Sem.run_bind, run_choose, Question.forced, Bool.false_eq_true, if_false, Result.andThen_ok, Sem.run_pure], drew_same w, ?_⟩
            rw [← hw] at H
            refine H _ ?_
            rw [if_pos hinf]
            exact Nat.mod_lt _ (by decide)
          · rename_i hinf
            refine ⟨_, w, rfl, Same.refl w, ?_⟩
            rw [hw]
            refine H _ ?_
            rw [if_neg hinf]
    · rename_i b e
      have : dj = .string := by rw [e] at hj2; cases dj <;> simp_all [tyOf]
      subst this
      refine semn_v (fun w _ => ?_) H
      cases di <;> simp [convert, hi3, hj3]
    · exact hraw H
  · exact hraw H

theorem bound_out {v : Option Value} {d : Int} {F : Int → Prop} (h : boundI v d F) : ∃ n, F n ∧ ((v = none ∧ n = d) ∨ ∃ k, v = some (.int k n)) := by
  unfold boundI at h
  split at h
  · exact ⟨d, h, .inl ⟨rfl, rfl⟩⟩
  · exact ⟨_, h, .inr ⟨_, rfl⟩⟩
  · exact h.elim
theorem run_sliceBound {k : IntKind} {n : Int} {y : Nat} {c : BoundsCode} (h0 : 0 ≤ n) (h1 : n ≤ y) (w : World) : (Instr.sliceBound (.int k n) y c).run P w = .ok n.toNat w := by
  simp [Instr.sliceBound, asIntOf, h0, h1]
theorem run_bounds {isS : Bool} {len cap : Nat} {lo hi : Option Value} {l h : Int} (hl : (lo = none ∧ l = 0) ∨ ∃ k, lo = some (.int k l)) (hh : (hi = none ∧ h = len) ∨ ∃ k, hi = some (.int k h))
    (h0 : 0 ≤ l) (h1 : l ≤ h) (h2 : h ≤ cap) (w : World) : (Instr.sliceBounds isS len cap lo hi none).run P w = .ok (l.toNat, h.toNat, cap) w := by
  rcases hh with ⟨rfl, rfl⟩ | ⟨k, rfl⟩
  · rcases hl with ⟨rfl, rfl⟩ | ⟨k', rfl⟩
    · simp [Instr.sliceBounds]
    · simp [Instr.sliceBounds, run_sliceBound h0 h1]
  · have hlh : l ≤ (h.toNat : Int) := by omega
    rcases hl with ⟨rfl, rfl⟩ | ⟨k', rfl⟩
    · simp [Instr.sliceBounds, run_sliceBound (show 0 ≤ h by omega) h2]
    · simp [Instr.sliceBounds, run_sliceBound (show 0 ≤ h by omega) h2, run_sliceBound h0 hlh]
theorem slice_sound (hτ : OkS P τ) {t : Nat} {x : Value} {lo hi mx : Option Value} {K : Value → Heap → Prop} {h : Heap}
    (H : sliceI τ t x lo hi mx fun v => K v h) : SEMV P (Instr.sliceAt t x lo hi mx) K h := by
  unfold sliceI at H
  split at H
  · rename_i k m
    split at H
    · rename_i e _ _ _ b len cap k' hh hi'
      obtain ⟨d, h1, h2, h3⟩ := run_und hτ hi'
      have hd : d = .slice e := by cases d <;> simp_all [tyOf]
      subst hd
      split at H
      · rename_i i hi
        obtain ⟨l, H, el⟩ := bound_out H
        obtain ⟨⟨b0, b1, b2, b3⟩, H⟩ := H
        refine semn_v (fun w _ => ?_) H
        have hb : ∀ isS w, (Instr.sliceBounds isS len cap lo (some (.int k' hh)) (some (.int k m))).run P w = .ok (l.toNat, hh.toNat, m.toNat) w := by
          intro isS w
          have hm : hh ≤ (m.toNat : Int) := by omega
          have hl : l ≤ (hh.toNat : Int) := by omega
          rcases el with ⟨rfl, rfl⟩ | ⟨k2, rfl⟩
          · simp [Instr.sliceBounds, run_sliceBound (show 0 ≤ m by omega) b3, run_sliceBound (show 0 ≤ hh by omega) hm]
          · simp [Instr.sliceBounds, run_sliceBound (show 0 ≤ m by omega) b3, run_sliceBound (show 0 ≤ hh by omega) hm, run_sliceBound b0 hl]
        simp [Instr.sliceAt, Instr.slice, h3, hb, run_size hτ hi, slA]
      · exact H.elim
    · exact H.elim
  · exact H.elim
  · split at H
    · rename_i s hi'
      obtain ⟨d, h1, h2, h3⟩ := run_und hτ hi'
      have hd : d = .string := by cases d <;> simp_all [tyOf]
      subst hd
      obtain ⟨l, H, el⟩ := bound_out H
      obtain ⟨hh, H, eh⟩ := bound_out H
      obtain ⟨⟨b0, b1, b2⟩, H⟩ := H
      exact semn_v (fun w _ => by simp [Instr.sliceAt, Instr.slice, h3, run_bounds el eh b0 b1 b2]) H
    · rename_i e _ _ _ b len cap hi'
      obtain ⟨d, h1, h2, h3⟩ := run_und hτ hi'
      have hd : d = .slice e := by cases d <;> simp_all [tyOf]
      subst hd
      split at H
      · rename_i i hi
        obtain ⟨l, H, el⟩ := bound_out H
        obtain ⟨hh, H, eh⟩ := bound_out H
        obtain ⟨⟨b0, b1, b2⟩, H⟩ := H
        refine semn_v (fun w _ => ?_) H
        simp [Instr.sliceAt, Instr.slice, h3, run_bounds el eh b0 b1 b2, run_size hτ hi, slA]
      · exact H.elim
    · rename_i n e _ _ _ a hi'
      obtain ⟨d, h1, h2, h3⟩ := run_und hτ hi'
      have hd : d = .array n e := by cases d <;> simp_all [tyOf]
      subst hd
      split at H
      · rename_i i hi
        obtain ⟨l, H, el⟩ := bound_out H
        obtain ⟨hh, H, eh⟩ := bound_out H
        obtain ⟨⟨b0, b1, b2⟩, H⟩ := H
        refine semn_v (fun w _ => ?_) H
        simp [Instr.sliceAt, h3, Instr.sureAddr, run_bounds el eh b0 b1 b2, run_size hτ hi, slP]
      · exact H.elim
    · exact H.elim
end Go.Sx
