/- opI_sound: what opI says of an operation holds of its run. -/
import Derived.Test.YtnhcoeogejgidabGreatDoorSx3
set_option linter.unusedSectionVars false
namespace Go.Sx
variable [Mode]
variable {P : Program} {τ : Static}

/-- One value, the world as it was but for its heap and draws. -/
theorem semn_val {s : Sem Next} {K : Value → Heap → Prop} {h : Heap} (H : ∀ w : World, w.heap = h → ∃ v w', s.run P w = .ok (.value v) w' ∧ Same w w' ∧ K v w'.heap) : SEMN P s K h := by
  intro w hw
  obtain ⟨v, w', hr, hs, hk⟩ := H w hw
  rw [hr]
  exact ⟨hs, hk⟩
theorem semn_skip {s : Sem Next} {K : Value → Heap → Prop} {h : Heap} (H : ∀ w : World, w.heap = h → ∃ w', s.run P w = .ok .skip w' ∧ Same w w' ∧ K undef w'.heap) : SEMN P s K h := by
  intro w hw
  obtain ⟨w', hr, hs, hk⟩ := H w hw
  rw [hr]
  exact ⟨hs, hk⟩
theorem semn_pure {v : Value} {K : Value → Heap → Prop} {h : Heap} (hk : K v h) : SEMN P (pure (.value v)) K h :=
  semn_val fun w hw => ⟨v, w, rfl, Same.refl w, by rw [hw]; exact hk⟩
/-- A computation of a value that leaves the world alone. -/
theorem semn_v {s : Sem Value} {v : Value} {K : Value → Heap → Prop} {h : Heap} (hs : ∀ w : World, w.heap = h → s.run P w = .ok v w) (hk : K v h) : SEMV P s K h :=
  semn_val fun w hw => ⟨v, w, by simp [hs w hw], Same.refl w, by rw [hw]; exact hk⟩
theorem semn_v' {s : Sem Value} {K : Value → Heap → Prop} {h : Heap} (hs : ∀ w : World, w.heap = h → ∃ v w', s.run P w = .ok v w' ∧ Same w w' ∧ K v w'.heap) : SEMV P s K h :=
  semn_val fun w hw => by
    obtain ⟨v, w', hr, h1, h2⟩ := hs w hw
    exact ⟨v, w', by simp [hr], h1, h2⟩

theorem drew_same (w : World) : Same w { w with drawn := w.drawn + 1 } := ⟨rfl, rfl, rfl, fun _ => Nat.le_succ _⟩
theorem nan_choose (k : FloatKind) (q : Question) (hq : q.forced = false) (hc : ∀ t, isNaNW k (q.cut t)) (w : World) : ∃ r, (choose q).run P w = .ok r { w with drawn := w.drawn + 1 } ∧ isNaNW k r :=
  ⟨_, by rw [run_choose, hq]; rfl, hc _⟩
theorem cut_nanBits (k : FloatKind) (x y t : Nat) : isNaNW k ((Question.nanBits k x y).cut t) := by
  cases k <;> exact ⟨t, rfl⟩
theorem cut_nanConv (k : FloatKind) (x t : Nat) : isNaNW k ((Question.nanConv k x).cut t) := by
  cases k <;> exact ⟨t, rfl⟩

def farS (k : FloatKind) (a b : Nat) (o : Option Nat) : Sem Value := match o with | some r => pure (.float k r) | none => do pure (.float k (← choose (.nanBits k a b)))
theorem run_far (k : FloatKind) (a b : Nat) (o : Option Nat) (w : World) :
    ∃ r w', (farS k a b o).run P w = .ok (.float k r) w' ∧ Same w w' ∧ w'.heap = w.heap ∧ IsF k o r := by
  cases o with
  | some r => exact ⟨r, w, rfl, Same.refl w, rfl, rfl⟩
  | none =>
    obtain ⟨r, hr, hn⟩ := nan_choose (P := P) k (.nanBits k a b) rfl (cut_nanBits k a b) w
    exact ⟨r, { w with drawn := w.drawn + 1 }, by simp only [farS, Sem.run_bind, hr, Result.andThen_ok, Sem.run_pure], drew_same w, rfl, hn⟩
theorem run_floatArith (op : BinOp) (k : FloatKind) (a b : Nat) (o : Option Nat) (ho : (match op with | .add => o = k.format.add a b | .sub => o = k.format.sub a b | .mul => o = k.format.mul a b | .quo => o = k.format.div a b | _ => False)) (w : World) :
    ∃ r w', (Op.floatArith op k a b).run P w = .ok (.float k r) w' ∧ Same w w' ∧ w'.heap = w.heap ∧ IsF k o r := by
  have hrun : Op.floatArith op k a b = farS k a b o := by
    cases op <;> simp only at ho <;> first | exact ho.elim | (rw [ho]; simp only [Op.floatArith, pure_bind]; rfl)
  rw [hrun]
  exact run_far k a b o w

theorem bin_sound (hτ : OkS P τ) {op : BinOp} {t : Nat} {x y : Value} {xo yo : Operand} {raw : Prop} {K : Value → Heap → Prop} {h : Heap}
    (H : binI τ op t x y raw fun v => K v h) (hraw : raw → SEMV P (do eqGuard op t xo yo x y; binOp op t x y) K h) :
    SEMV P (do eqGuard op t xo yo x y; binOp op t x y) K h := by
  unfold binI at H
  split at H
  · rename_i k a k' b
    have shl : ∀ (v : Value), (binOp op t (.int k a) (.int k' b) = pure v) → K v h → SEMV P (do eqGuard op t xo yo (.int k a) (.int k' b); binOp op t (.int k a) (.int k' b)) K h := by
      intro v hb hk
      exact semn_v (fun w hw => by simp [hb, eqGuard_at_int]) hk
    split at H
    · obtain ⟨hn, H⟩ := H
      refine shl _ ?_ H
      simp [binOp, Op.shift, shlI, show ¬ b < 0 by omega]
    · obtain ⟨hn, H⟩ := H
      refine shl _ ?_ H
      simp [binOp, Op.shift, shrI, show ¬ b < 0 by omega]
    · rename_i h1 h2
      split at H
      · rename_i e; subst e
        cases op <;> simp only at H <;> first
          | exact H.elim
          | exact absurd rfl h1
          | exact absurd rfl h2
          | (refine shl _ ?_ H; simp [binOp, Op.intArith]; done)
          | (obtain ⟨hz, H⟩ := H; refine shl _ ?_ H; simp [binOp, Op.intDiv, hz]; done)
          | (refine shl _ ?_ H; simp only [binOp_and, binOp_or, binOp_xor, binOp_andNot]; rfl)
          | (refine shl _ ?_ H; simp [binOp, Op.intCmp]; done)
      · exact H.elim
  · rename_i k a k' b
    split at H
    · rename_i e; subst e
      have pur : ∀ (v : Value), (binOp op t (.float k a) (.float k b) = pure v) → K v h → SEMV P (do eqGuard op t xo yo (.float k a) (.float k b); binOp op t (.float k a) (.float k b)) K h := by
        intro v hb hk
        exact semn_v (fun w hw => by simp [hb, eqGuard_at_float]) hk
      have ari : ∀ (op' : BinOp) (o : Option Nat), op = op' → (match op' with | .add => o = k.format.add a b | .sub => o = k.format.sub a b | .mul => o = k.format.mul a b | .quo => o = k.format.div a b | _ => False) → (∀ r, IsF k o r → K (.float k r) h) →
          SEMV P (do eqGuard op t xo yo (.float k a) (.float k b); binOp op t (.float k a) (.float k b)) K h := by
        intro op' o e ho hk
        subst e
        refine semn_v' fun w hw => ?_
        obtain ⟨r, w', hr, hs, hh, hf⟩ := run_floatArith (P := P) op k a b o ho w
        refine ⟨.float k r, w', ?_, hs, ?_⟩
        · have hb : binOp op t (.float k a) (.float k b) = Op.floatArith op k a b := by
            cases op <;> simp only at ho <;> first | exact ho.elim | simp [binOp]
          simp [eqGuard_at_float, hb, hr]
        · rw [hh, hw]; exact hk r hf
      cases op <;> simp only at H <;> first
        | exact H.elim
        | exact ari _ _ rfl rfl H
        | (refine pur _ ?_ H; simp [binOp, Op.floatCmp]; done)
    · exact H.elim
  · rename_i a b
    have pur : ∀ (v : Value), (∀ w, (binOp op t (.string a) (.string b)).run P w = .ok v w) → K v h → SEMV P (do eqGuard op t xo yo (.string a) (.string b); binOp op t (.string a) (.string b)) K h := by
      intro v hb hk
      exact semn_v (fun w hw => by simp [hb, eqGuard_at_string]) hk
    cases op <;> simp only at H <;> first
      | exact H.elim
      | (obtain ⟨hb, H⟩ := H
         refine pur _ (fun w => ?_) H
         have : ¬ ((a.size + b.size : Nat) : Int) > IntKind.i64.max := by
           have : IntKind.i64.max = 9223372036854775807 := rfl
           omega
         simp only [binOp, Op.stringOp]
         rw [if_neg this]
         rfl)
      | (refine pur _ (fun w => ?_) H; simp [binOp, Op.stringOp]; done)
  · rename_i a b
    split at H
    · rename_i i hi
      obtain ⟨d, h1, h2, h3⟩ := run_und hτ hi
      have hd : d = .bool := by cases d <;> simp_all [tyOf]
      subst hd
      cases op <;> simp only at H <;> first
        | exact H.elim
        | (refine semn_v (fun w hw => ?_) H; simp [eqGuard_at_bool, run_eql_bool w t a b h1]; done)
        | (refine semn_v (fun w hw => ?_) H; simp [eqGuard_at_bool, run_neq_bool w t a b h1]; done)
    · exact H.elim
  · exact hraw H

theorem un_sound {op : UnOp} {x : Value} {K : Value → Heap → Prop} {h : Heap} (H : unI op x fun v => K v h) : SEMV P (Op.unary op x) K h := by
  unfold unI at H
  split at H
  · exact semn_v (fun w _ => rfl) H
  · exact semn_v (fun w _ => rfl) H
  · exact semn_v (fun w _ => rfl) H
  · exact semn_v (fun w _ => rfl) H
  · exact H.elim

theorem conv_sound (hτ : OkS P τ) {s d : Nat} {x : Value} {raw : Prop} {K : Value → Heap → Prop} {h : Heap} (H : convI τ s d x raw fun v => K v h) (hraw : raw → SEMV P (convert s d x) K h) : SEMV P (convert s d x) K h := by
  unfold convI at H
  split at H
  · rename_i i j hi hj
    obtain ⟨di, hi1, hi2, hi3⟩ := run_und hτ hi
    obtain ⟨dj, hj1, hj2, hj3⟩ := run_und hτ hj
    split at H
    · rename_i k k0 n e
      have : dj = .int k := by rw [e] at hj2; cases dj <;> simp_all [tyOf]
      subst this
      exact semn_v (fun w _ => by cases di <;> simp [convert, hi3, hj3, Conv.intToInt]) H
    · rename_i k k0 n e
      have : dj = .float k := by rw [e] at hj2; cases dj <;> simp_all [tyOf]
      subst this
      exact semn_v (fun w _ => by cases di <;> simp [convert, hi3, hj3, Conv.intToFloat]) H
    · rename_i k q b e
      have : dj = .int k := by rw [e] at hj2; cases dj <;> simp_all [tyOf]
      subst this
      refine semn_v' fun w hw => ?_
      have hc : ∀ w, (convert s d (.float q b)).run P w = (Conv.floatToInt q b k).run P w := fun w => by cases di <;> simp [convert, hi3, hj3]
      rw [hc]
      have hany : ∃ v w', (do pure (Value.int k (k.wrap (← choose (.floatToInt q b k)))) : Sem Value).run P w = .ok v w' ∧ Same w w' ∧ w'.heap = w.heap ∧ ∃ t : Int, v = .int k (k.wrap t) := by
        refine ⟨.int k (k.wrap (((Question.floatToInt q b k).cut (w.tape w.drawn (Question.floatToInt q b k)) : Nat) : Int)), { w with drawn := w.drawn + 1 }, ?_, drew_same w, rfl, _, rfl⟩
        simp only [Sem.run_bind, run_choose, Question.forced, Bool.false_eq_true, if_false, Result.andThen_ok, Sem.run_pure]
      unfold Conv.floatToInt
      cases hm : (q.decode b).toInt .zero with
      | some m =>
        simp only []
        by_cases hr : k.min ≤ m ∧ m ≤ k.max
        · rw [if_pos hr]
          exact ⟨_, w, rfl, Same.refl w, by rw [hw]; exact H m (by unfold IsFI; rw [hm]; simp [hr])⟩
        · rw [if_neg hr]
          obtain ⟨v, w', h1, h2, h3, u, rfl⟩ := hany
          exact ⟨_, w', h1, h2, by rw [h3, hw]; exact H _ (by unfold IsFI; rw [hm]; simp only []; rw [if_neg hr]; exact ⟨u, rfl⟩)⟩
      | none =>
        obtain ⟨v, w', h1, h2, h3, u, rfl⟩ := hany
        exact ⟨_, w', h1, h2, by rw [h3, hw]; exact H _ (by unfold IsFI; rw [hm]; exact ⟨u, rfl⟩)⟩
    · rename_i k q b e
      have : dj = .float k := by rw [e] at hj2; cases dj <;> simp_all [tyOf]
      subst this
      have hc : ∀ w, (convert s d (.float q b)).run P w = (Conv.floatToFloat q b k).run P w := fun w => by cases di <;> simp [convert, hi3, hj3]
      split at H
      · rename_i e2; subst e2
        exact semn_v (fun w _ => by rw [hc]; simp [Conv.floatToFloat]) H
      · rename_i e2
        refine semn_v' fun w hw => ?_
        rw [hc]
        unfold Conv.floatToFloat
        rw [if_neg e2]
        unfold FFC at H
        unfold IsFF at H
        cases hd : q.decode b with
        | nan s2 f =>
          rw [hd] at H
          obtain ⟨r, hr, hn⟩ := nan_choose (P := P) k (.nanConv k b) rfl (cut_nanConv k b) w
          refine ⟨.float k r, { w with drawn := w.drawn + 1 }, by simp only [Sem.run_bind, hr, Result.andThen_ok, Sem.run_pure], drew_same w, ?_⟩
          rw [← hw] at H
          exact H r hn
        | infinity s2 =>
          rw [hd] at H
          exact ⟨_, w, rfl, Same.refl w, by rw [hw]; exact H _ rfl⟩
        | number s2 m2 e2' =>
          rw [hd] at H
          simp only [] at H ⊢
          split
          · rename_i hinf
            refine ⟨.float k ((Question.floatToFloat b).cut (w.tape w.drawn (Question.floatToFloat b))), { w with drawn := w.drawn + 1 }, by simp only [Sem.run_bind, run_choose, Question.forced, Bool.false_eq_true, if_false, Result.andThen_ok, Sem.run_pure], drew_same w, ?_⟩
            rw [← hw] at H
            refine H _ ?_
            rw [if_pos hinf]
            exact Nat.mod_lt _ (by decide)
          · rename_i hinf
            refine ⟨_, w, rfl, Same.refl w, ?_⟩
            rw [hw]
            refine H _ ?_
            rw [if_neg hinf]
    · rename_i b e
      have : dj = .string := by rw [e] at hj2; cases dj <;> simp_all [tyOf]
      subst this
      refine semn_v (fun w _ => ?_) H
      cases di <;> simp [convert, hi3, hj3]
    · exact hraw H
  · exact hraw H

theorem bound_out {v : Option Value} {d : Int} {F : Int → Prop} (h : boundI v d F) : ∃ n, F n ∧ ((v = none ∧ n = d) ∨ ∃ k, v = some (.int k n)) := by
  unfold boundI at h
  split at h
  · exact ⟨d, h, .inl ⟨rfl, rfl⟩⟩
  · exact ⟨_, h, .inr ⟨_, rfl⟩⟩
  · exact h.elim
theorem run_sliceBound {k : IntKind} {n : Int} {y : Nat} {c : BoundsCode} (h0 : 0 ≤ n) (h1 : n ≤ y) (w : World) : (Instr.sliceBound (.int k n) y c).run P w = .ok n.toNat w := by
  simp [Instr.sliceBound, asIntOf, h0, h1]
theorem run_bounds {isS : Bool} {len cap : Nat} {lo hi : Option Value} {l h : Int} (hl : (lo = none ∧ l = 0) ∨ ∃ k, lo = some (.int k l)) (hh : (hi = none ∧ h = len) ∨ ∃ k, hi = some (.int k h))
    (h0 : 0 ≤ l) (h1 : l ≤ h) (h2 : h ≤ cap) (w : World) : (Instr.sliceBounds isS len cap lo hi none).run P w = .ok (l.toNat, h.toNat, cap) w := by
  rcases hh with ⟨rfl, rfl⟩ | ⟨k, rfl⟩
  · rcases hl with ⟨rfl, rfl⟩ | ⟨k', rfl⟩
    · simp [Instr.sliceBounds]
    · simp [Instr.sliceBounds, run_sliceBound h0 h1]
  · have hlh : l ≤ (h.toNat : Int) := by omega
    rcases hl with ⟨rfl, rfl⟩ | ⟨k', rfl⟩
    · simp [Instr.sliceBounds, run_sliceBound (show 0 ≤ h by omega) h2]
    · simp [Instr.sliceBounds, run_sliceBound (show 0 ≤ h by omega) h2, run_sliceBound h0 hlh]
theorem slice_sound (hτ : OkS P τ) {t : Nat} {x : Value} {lo hi mx : Option Value} {K : Value → Heap → Prop} {h : Heap}
    (H : sliceI τ t x lo hi mx fun v => K v h) : SEMV P (Instr.sliceAt t x lo hi mx) K h := by
  unfold sliceI at H
  split at H
  · rename_i k m
    split at H
    · rename_i e _ _ _ b len cap k' hh hi'
      obtain ⟨d, h1, h2, h3⟩ := run_und hτ hi'
      have hd : d = .slice e := by cases d <;> simp_all [tyOf]
      subst hd
      split at H
      · rename_i i hi
        obtain ⟨l, H, el⟩ := bound_out H
        obtain ⟨⟨b0, b1, b2, b3⟩, H⟩ := H
        refine semn_v (fun w _ => ?_) H
        have hb : ∀ isS w, (Instr.sliceBounds isS len cap lo (some (.int k' hh)) (some (.int k m))).run P w = .ok (l.toNat, hh.toNat, m.toNat) w := by
          intro isS w
          have hm : hh ≤ (m.toNat : Int) := by omega
          have hl : l ≤ (hh.toNat : Int) := by omega
          rcases el with ⟨rfl, rfl⟩ | ⟨k2, rfl⟩
          · simp [Instr.sliceBounds, run_sliceBound (show 0 ≤ m by omega) b3, run_sliceBound (show 0 ≤ hh by omega) hm]
          · simp [Instr.sliceBounds, run_sliceBound (show 0 ≤ m by omega) b3, run_sliceBound (show 0 ≤ hh by omega) hm, run_sliceBound b0 hl]
        simp [Instr.sliceAt, Instr.slice, h3, hb, run_size hτ hi, slA]
      · exact H.elim
    · exact H.elim
  · exact H.elim
  · split at H
    · rename_i s hi'
      obtain ⟨d, h1, h2, h3⟩ := run_und hτ hi'
      have hd : d = .string := by cases d <;> simp_all [tyOf]
      subst hd
      obtain ⟨l, H, el⟩ := bound_out H
      obtain ⟨hh, H, eh⟩ := bound_out H
      obtain ⟨⟨b0, b1, b2⟩, H⟩ := H
      exact semn_v (fun w _ => by simp [Instr.sliceAt, Instr.slice, h3, run_bounds el eh b0 b1 b2]) H
    · rename_i e _ _ _ b len cap hi'
      obtain ⟨d, h1, h2, h3⟩ := run_und hτ hi'
      have hd : d = .slice e := by cases d <;> simp_all [tyOf]
      subst hd
      split at H
      · rename_i i hi
        obtain ⟨l, H, el⟩ := bound_out H
        obtain ⟨hh, H, eh⟩ := bound_out H
        obtain ⟨⟨b0, b1, b2⟩, H⟩ := H
        refine semn_v (fun w _ => ?_) H
        simp [Instr.sliceAt, Instr.slice, h3, run_bounds el eh b0 b1 b2, run_size hτ hi, slA]
      · exact H.elim
    · rename_i n e _ _ _ a hi'
      obtain ⟨d, h1, h2, h3⟩ := run_und hτ hi'
      have hd : d = .array n e := by cases d <;> simp_all [tyOf]
      subst hd
      split at H
      · rename_i i hi
        obtain ⟨l, H, el⟩ := bound_out H
        obtain ⟨hh, H, eh⟩ := bound_out H
        obtain ⟨⟨b0, b1, b2⟩, H⟩ := H
        refine semn_v (fun w _ => ?_) H
        simp [Instr.sliceAt, h3, Instr.sureAddr, run_bounds el eh b0 b1 b2, run_size hτ hi, slP]
      · exact H.elim
    · exact H.elim
end Go.Sx
/- opI_sound: the rest of the operations, and all together. -/
set_option linter.unusedSectionVars false
namespace Go.Sx
variable [Mode]
variable {P : Program} {τ : Static}

theorem foldl_splice : ∀ (cs : List Value) (off k : Nat) (cells : Array Value), off + k + cs.length ≤ cells.size →
    ((cs.zipIdx k).foldl (fun acc (x : Value × Nat) => acc.setIfInBounds (off + x.2) x.1) cells).toList = cells.toList.take (off + k) ++ (cs ++ cells.toList.drop (off + k + cs.length))
  | [], off, k, cells, _ => by simp
  | c :: cs, off, k, cells, h => by
    simp only [List.length_cons] at h
    rw [List.zipIdx_cons, List.foldl_cons, foldl_splice cs off (k + 1) _ (by simp; omega)]
    simp only [Array.toList_setIfInBounds]
    rw [← Nat.add_assoc]
    have hl : off + k < cells.toList.length := by simp; omega
    rw [List.take_succ_eq_append_getElem (by simpa using hl), List.getElem_set_self, List.take_set_of_le (by omega), List.drop_set_of_lt (by omega)]
    simp only [List.append_assoc, List.cons_append, List.nil_append, List.length_cons]
    rw [show off + k + 1 + cs.length = off + k + (cs.length + 1) from by omega]
theorem cells_of_not_agg {v : Value} (h : ∀ cs, v ≠ .agg cs) : v.cells = #[v] := by
  cases v <;> first | rfl | exact absurd rfl (h _)
theorem fill_step {pl : Nat → Option (Nat × Nat)} (cells : Array Value) (i : Nat) (v : Value) (rest : List (Nat × Value)) {off size : Nat} (hp : pl i = some (off, size)) (h1 : v.cells.size = size) (h2 : off + size ≤ cells.size) :
    Instr.fill pl cells ((i, v) :: rest) = Instr.fill pl (v.cells.zipIdx.foldl (fun cs (c, j) => cs.setIfInBounds (off + j) c) cells) rest := by
  rw [Instr.fill, hp]
  simp only [h1]
  rw [if_neg (by simp; omega)]
theorem fill_ok {pl : Nat → Option (Nat × Nat)} {n0 : Nat} : ∀ (parts : List (Nat × Value)) (cells : List Value) (F : List Value → Prop), cells.length = n0 → fillI pl n0 parts cells F →
    ∃ cells', Instr.fill pl ⟨cells⟩ parts = some ⟨cells'⟩ ∧ F cells'
  | [], cells, F, _, h => ⟨cells, rfl, h⟩
  | (i, v) :: rest, cells, F, hn, h => by
    unfold fillI at h
    split at h
    · exact h.elim
    · rename_i off size hp
      cases hb : Nat.ble (off + size) n0 with
      | false => rw [hb] at h; exact h.elim
      | true =>
        rw [hb] at h
        simp only [cond_true] at h
        rw [Nat.ble_eq] at hb
        split at h
        · rename_i cs
          obtain ⟨hs, h⟩ := h
          have hl : (splice off size cs cells).length = n0 := by
            simp [splice, List.length_take, List.length_drop, hs]; omega
          obtain ⟨c', h1, h2⟩ := fill_ok rest _ F hl h
          refine ⟨c', ?_, h2⟩
          rw [fill_step ⟨cells⟩ i (.agg cs) rest hp hs (by show off + size ≤ cells.length; omega), ← h1]
          congr 1
          apply Array.toList_inj.1
          simp only [Value.cells]
          rw [← Array.foldl_toList, Array.toList_zipIdx, foldl_splice cs.toList off 0 ⟨cells⟩ (by show off + 0 + cs.toList.length ≤ cells.length; rw [Array.length_toList]; omega)]
          simp [splice, hs]
        · rename_i hna
          cases h1' : Nat.beq size 1 with
          | false => rw [h1'] at h; exact h.elim
          | true =>
            rw [h1'] at h
            simp only [cond_true] at h
            rw [Nat.beq_eq] at h1'
            subst h1'
            obtain ⟨c', h1, h2⟩ := fill_ok rest _ F (by simpa using hn) h
            refine ⟨c', ?_, h2⟩
            have hvc : v.cells = #[v] := cells_of_not_agg (fun cs e => hna cs e)
            rw [fill_step ⟨cells⟩ i v rest hp (by rw [hvc]; rfl) (by show off + 1 ≤ cells.length; omega), ← h1, hvc]
            congr 1
            apply Array.toList_inj.1
            rw [← Array.foldl_toList]
            simp

theorem run_mapM_list {α β : Type} (g : α → Sem β) (g' : α → β) (w : World) : ∀ l : List α, (∀ a ∈ l, (g a).run P w = .ok (g' a) w) → (l.mapM g).run P w = .ok (l.map g') w
  | [], _ => rfl
  | a :: l, h => by
    rw [List.mapM_cons]
    simp [h a (List.mem_cons_self ..), run_mapM_list g g' w l (fun b hb => h b (List.mem_cons_of_mem _ hb))]
theorem run_mapM_array {α β : Type} (g : α → Sem β) (g' : α → β) (w : World) (l : Array α) (h : ∀ a ∈ l, (g a).run P w = .ok (g' a) w) : (l.mapM g).run P w = .ok (l.map g') w := by
  rw [Array.mapM_eq_mapM_toList]
  rw [Sem.run_map, run_mapM_list g g' w l.toList (fun a ha => h a (by simpa using ha))]
  show Result.ok (l.toList.map g').toArray w = _
  rw [← Array.toList_map, Array.toArray_toList]

theorem alc_same (w : World) (o : Obj) : Same w { w with heap := w.heap.push o } := ⟨rfl, rfl, rfl, fun _ => Nat.le_refl _⟩

theorem opI_build (hτ : OkS P τ) {o : Oper} {t : Nat} {parts : Array (Nat × Operand)} (ho : o.op = .build t parts) {ev : Operand → Value} {K : Value → Heap → Prop} {h : Heap} (H : opI P τ o ev K h) :
    SEMV P (Instr.build t (parts.map fun (i, x) => (i, ev x))) K h := by
  unfold opI at H
  rw [ho] at H
  simp only [] at H
  have hparts : (parts.map fun (i, x) => (i, ev x)).toList = parts.toList.map fun p => (p.1, ev p.2) := by simp
  split at H
  · rename_i fs n b z hi
    obtain ⟨d, h1, h2, h3⟩ := run_und hτ hi
    cases hz : z.isEmpty || !(fs.all fun f => (ti τ f.1).isSome) with
    | true => rw [hz] at H; exact H.elim
    | false =>
      rw [hz] at H
      simp only [cond_false] at H
      rw [Bool.or_eq_false_iff] at hz
      obtain ⟨hz1, hz2⟩ := hz
      obtain ⟨zv, hzv, hzr⟩ := run_zero hτ hi (by intro e; simp only at e; rw [e] at hz1; cases hz1)
      simp only at hzv
      obtain ⟨flds, rfl, hfl⟩ : ∃ flds : Array Field, d = .struct flds ∧ flds.toList.map (fun f => (f.type, f.offset)) = fs := by
        cases d <;> simp_all [tyOf]
      obtain ⟨c', hc1, hc2⟩ := fill_ok _ _ _ rfl H
      refine semn_v (fun w _ => ?_) hc2
      have hall : ∀ f ∈ flds, ∃ j, ti τ f.type = some j := by
        intro f hf
        have : (f.type, f.offset) ∈ fs := by rw [← hfl]; exact List.mem_map.2 ⟨f, by simpa using hf, rfl⟩
        have hz2' : (fs.all fun f => (ti τ f.1).isSome) = true := by simpa using hz2
        have := (List.all_eq_true.1 hz2') _ this
        exact Option.isSome_iff_exists.1 this
      have hpl : (flds.mapM fun f => do pure (f.offset, ← sizeOf f.type) : Sem (Array (Nat × Nat))).run P w = .ok (flds.map fun f => (f.offset, ((ti τ f.type).map (·.size)).getD 0)) w := by
        refine run_mapM_array _ _ w flds fun f hf => ?_
        obtain ⟨j, hj⟩ := hall f hf
        simp [run_size hτ hj, hj]
      have hfill : Instr.fill ((flds.map fun f => (f.offset, ((ti τ f.type).map (·.size)).getD 0))[·]?) zv.cells (parts.map fun (i, x) => (i, ev x)).toList = some ⟨c'⟩ := by
        rw [hparts, ← hc1]
        have hp : ((flds.map fun f => (f.offset, ((ti τ f.type).map (·.size)).getD 0))[·]?) = fldPl τ fs := by
          funext i
          unfold fldPl
          rw [← hfl]
          simp only [Array.getElem?_map, List.getElem?_map, Array.getElem?_toList]
          cases hf : flds[i]? with
          | none => rfl
          | some f =>
            obtain ⟨j, hj⟩ := hall f (Array.mem_of_getElem? hf)
            simp [hj]
        rw [hp]
        congr 1
        exact Array.toList_inj.1 hzv
      simp only [Instr.build, Sem.run_bind, hzr, Result.andThen_ok, h3, hpl]
      rw [hfill]
      rfl
  · rename_i n e sz b z hi
    obtain ⟨d, h1, h2, h3⟩ := run_und hτ hi
    have hd : d = .array n e := by cases d <;> simp_all [tyOf]
    subst hd
    split at H
    · rename_i j hj
      cases hz : z.isEmpty with
      | true => rw [hz] at H; exact H.elim
      | false =>
        rw [hz] at H
        simp only [cond_false] at H
        obtain ⟨zv, hzv, hzr⟩ := run_zero hτ hi (by intro e; simp only at e; rw [e] at hz; cases hz)
        simp only at hzv
        obtain ⟨c', hc1, hc2⟩ := fill_ok _ _ _ rfl H
        refine semn_v (fun w _ => ?_) hc2
        have hfill : Instr.fill (fun i => some (i * j.size, j.size)) zv.cells (parts.map fun (i, x) => (i, ev x)).toList = some ⟨c'⟩ := by
          rw [hparts, ← hc1]
          congr 1
          exact Array.toList_inj.1 hzv
        simp only [Instr.build, Sem.run_bind, hzr, Result.andThen_ok, h3, run_size hτ hj]
        rw [hfill]
        rfl
    · exact H.elim
  · exact H.elim

theorem opI_buildSlice (hτ : OkS P τ) {o : Oper} {t len : Nat} {parts : Array (Nat × Operand)} (ho : o.op = .buildSlice t len parts) {ev : Operand → Value} {K : Value → Heap → Prop} {h : Heap} (H : opI P τ o ev K h) :
    SEMV P (Instr.buildSlice t len (parts.map fun (i, x) => (i, ev x))) K h := by
  unfold opI at H
  rw [ho] at H
  simp only [] at H
  have hparts : (parts.map fun (i, x) => (i, ev x)).toList = parts.toList.map fun p => (p.1, ev p.2) := by simp
  split at H
  · rename_i e sz b z hi
    obtain ⟨d, h1, h2, h3⟩ := run_und hτ hi
    have hd : d = .slice e := by cases d <;> simp_all [tyOf]
    subst hd
    split at H
    · rename_i j hj
      cases hc : Nat.ble (len * j.size) 16777216 && (Nat.beq (len * j.size) 0 || !j.zero.isEmpty) with
      | false => rw [hc] at H; exact H.elim
      | true =>
        rw [hc] at H
        simp only [cond_true] at H
        rw [Bool.and_eq_true, Nat.ble_eq] at hc
        obtain ⟨hle, hzz⟩ := hc
        obtain ⟨c', hc1, hc2⟩ := fill_ok _ _ _ (by simp [zerosI]) H
        refine semn_v' fun w hw => ?_
        refine ⟨.slice (some ⟨w.heap.size, 0, none⟩) len len, { w with heap := w.heap.push (.cells ⟨c'⟩ e) }, ?_, alc_same w _, by rw [hw]; exact hc2⟩
        simp only [Instr.buildSlice, Sem.run_bind, h3, Result.andThen_ok, run_size hτ hj]
        rw [if_neg (by omega)]
        have gen : ∀ (l : List Value) (i : Nat) (hi : i < l.length), lget l i = l[i] := by
          intro l
          induction l with
          | nil => intro i hi; simp at hi
          | cons a l ih => intro i hi; cases i with
            | zero => rfl
            | succ i => exact ih i (by simpa using hi)
        by_cases h0 : len * j.size = 0
        · rw [if_pos h0]
          simp only [pure_bind]
          have hz2 : ((Array.range (len * j.size)).map fun x => (#[] : Array Value)[x % (#[] : Array Value).size]!) = ⟨zerosI j (len * j.size)⟩ := by rw [h0, Array.range_zero']; apply Array.toList_inj.1; simp [zerosI]
          rw [hz2, hparts, hc1]
          rfl
        · rw [if_neg h0]
          have hne : j.zero ≠ [] := by
            intro e0
            rw [e0] at hzz
            simp at hzz
            omega
          obtain ⟨zv, hzv, hzr⟩ := run_zero hτ hj hne
          have hz2 : ((Array.range (len * j.size)).map fun x => zv.cells[x % zv.cells.size]!) = ⟨zerosI j (len * j.size)⟩ := by
            apply Array.toList_inj.1
            simp only [zerosI, Array.toList_map, Array.toList_range]
            refine List.map_congr_left fun x _ => ?_
            rw [← hzv]
            have hpos : 0 < zv.cells.size := by
              have : 0 < j.zero.length := List.length_pos_iff.2 hne
              rw [← hzv] at this
              simpa using this
            have hlt : x % zv.cells.size < zv.cells.size := Nat.mod_lt _ hpos
            rw [Array.length_toList, gen _ _ (by simpa using hlt)]
            simp [getElem!_pos, hlt]
          simp only [Sem.run_bind, hzr, Result.andThen_ok, pure_bind]
          rw [hz2, hparts, hc1]
          rfl
    · exact H.elim
  · exact H.elim
end Go.Sx
