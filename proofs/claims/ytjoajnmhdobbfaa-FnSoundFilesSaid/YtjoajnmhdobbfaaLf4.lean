/- Floats cut to whole numbers within bounds; math.RoundToEven. -/
import Derived.Test.YtjoajnmhdobbfaaLf3
namespace Go.Sx
open Ieee
set_option linter.unusedVariables false
set_option linter.unusedSimpArgs false

theorem cut_zero_le (s : Bool) (n d : Nat) : Toward.zero.cut s n d * 2 ^ d ≤ n := by
  unfold Toward.cut
  dsimp only
  rw [show (false.toNat) = 0 from rfl, Nat.add_zero, Nat.shiftLeft_eq, Nat.one_mul]
  rcases Nat.le_total d (n.log2 + 2) with h | h
  · rw [Nat.min_eq_left h]; exact Nat.div_mul_le_self _ _
  · rw [Nat.min_eq_right h]
    have : n < 2 ^ (n.log2 + 2) := Nat.lt_of_lt_of_le Nat.lt_log2_self (Nat.pow_le_pow_right (by decide) (by omega))
    rw [Nat.div_eq_of_lt this]; omega
theorem le_cut {s : Bool} {m n N : Nat} {e j : Int} (hj : j ≤ 0) (hn : n = N * 2 ^ (-j).toNat) (h : m * 2 ^ (e - min e j).toNat ≤ n * 2 ^ (j - min e j).toNat) : Toward.zero.cut s (m <<< e.toNat) (-e).toNat ≤ N := by
  subst hn
  have hc := cut_zero_le s (m <<< e.toNat) (-e).toNat
  generalize Toward.zero.cut s (m <<< e.toNat) (-e).toNat = c at hc ⊢
  rw [Nat.shiftLeft_eq] at hc
  rcases Int.le_total 0 e with he | he
  · rw [show (-e).toNat = 0 by omega, Nat.pow_zero, Nat.mul_one] at hc
    rw [Int.min_eq_right (by omega), Int.sub_self, Int.toNat_zero, Nat.pow_zero, Nat.mul_one] at h
    rw [show (e - j).toNat = e.toNat + (-j).toNat by omega, Nat.pow_add, ← Nat.mul_assoc] at h
    exact Nat.le_trans hc (Nat.le_of_mul_le_mul_right h (Nat.two_pow_pos _))
  · rw [show e.toNat = 0 by omega, Nat.pow_zero, Nat.mul_one] at hc
    rcases Int.le_total j e with h1 | h1
    · rw [Int.min_eq_right h1, Int.sub_self, Int.toNat_zero, Nat.pow_zero, Nat.mul_one] at h
      have h2 : c * 2 ^ (-j).toNat ≤ m * 2 ^ (e - j).toNat := by
        have := Nat.mul_le_mul_right (2 ^ (e - j).toNat) hc
        rwa [Nat.mul_assoc, ← Nat.pow_add, show (-e).toNat + (e - j).toNat = (-j).toNat by omega] at this
      exact Nat.le_of_mul_le_mul_right (Nat.le_trans h2 h) (Nat.two_pow_pos _)
    · rw [Int.min_eq_left h1, Int.sub_self, Int.toNat_zero, Nat.pow_zero, Nat.mul_one, Nat.mul_assoc, ← Nat.pow_add, show (-j).toNat + (j - e).toNat = (-e).toNat by omega] at h
      exact Nat.le_of_mul_le_mul_right (Nat.le_trans hc h) (Nat.two_pow_pos _)
theorem toInt_number (s : Bool) (m : Nat) (e : Int) : (Datum.number s m e).toInt .zero = some (signed s (Toward.zero.cut s (m <<< e.toNat) (-e).toNat) 0) := rfl
theorem compare_ne_gt {a b : Int} (h : compare a b ≠ .gt) : a ≤ b := by
  rcases Int.lt_or_le b a with h1 | h1
  · exact absurd (compare_gt h1) h
  · exact h1
theorem compare_ne_lt {a b : Int} (h : compare a b ≠ .lt) : b ≤ a := by
  rcases Int.lt_or_le a b with h1 | h1
  · exact absurd (compare_lt h1) h
  · exact h1
theorem fit_short {r : Nat} (h0 : nan .f64 r = false) (h1 : FloatKind.f64.format.order r 4674736138332667904 ≠ some .gt) (h2 : FloatKind.f64.format.order r 13898108450065350656 ≠ some .lt) {n : Int} (h : IsFI .f64 r .i16 n) :
    n = ((FloatKind.f64.decode r).toInt .zero).getD 0 := by
  have h0' : (FloatKind.f64.format.read r).isNaN = false := h0
  obtain ⟨o1, o2⟩ := order_rows
  unfold IsFI FloatKind.decode at h
  unfold FloatKind.decode
  cases e : FloatKind.f64.format.read r with
  | nan s t => rw [e] at h0'; cases h0'
  | infinity s =>
    exfalso
    cases s
    · exact h1 (by rw [order_read e o1]; rfl)
    · exact h2 (by rw [order_read e o2]; rfl)
  | number s m p =>
    rw [e, toInt_number] at h
    rw [toInt_number, Option.getD_some]
    dsimp only at h
    have hb : IntKind.i16.min ≤ signed s (Toward.zero.cut s (m <<< p.toNat) (-p).toNat) 0 ∧ signed s (Toward.zero.cut s (m <<< p.toNat) (-p).toNat) 0 ≤ IntKind.i16.max := by
      have i1 : IntKind.i16.min = -32768 := by decide
      have i2 : IntKind.i16.max = 32767 := by decide
      rw [i1, i2]
      rw [order_read e o1, order_number] at h1
      rw [order_read e o2, order_number] at h2
      cases s
      · have h3 := compare_ne_gt (fun e => h1 (by rw [e]))
        rw [signed_f, signed_f] at h3
        have h4 := le_cut (s := false) (m := m) (e := p) (n := 32767 * 2 ^ 38) (N := 32767) (j := -38) (by decide) (Eq.refl _) (by exact_mod_cast h3)
        rw [signed_f, Nat.pow_zero, Nat.mul_one]
        omega
      · have h3 := compare_ne_lt (fun e => h2 (by rw [e]))
        rw [signed_t, signed_t] at h3
        have h5 : m * 2 ^ (p - min p (-37)).toNat ≤ 2 ^ 52 * 2 ^ (-37 - min p (-37)).toNat := by
          generalize m * 2 ^ (p - min p (-37)).toNat = x at h3 ⊢
          generalize 2 ^ 52 * 2 ^ (-37 - min p (-37)).toNat = y at h3 ⊢
          omega
        have h4 := le_cut (s := true) (m := m) (e := p) (n := 2 ^ 52) (N := 32768) (j := -37) (by decide) (by decide) h5
        rw [signed_t, Nat.pow_zero, Nat.mul_one]
        omega
    rw [if_pos hb] at h
    exact h
theorem quiet_nan {s : Bool} (t : Nat) : nan .f64 (FloatKind.f64.encode (.nan s (FloatKind.f64.format.quiet t))) = true := by
  obtain ⟨e1, e2, e3, e4⟩ := f64_consts
  have h1 : FloatKind.f64.format.quiet t % FloatKind.f64.format.binade ≠ 0 := by
    unfold Format.quiet
    rw [e1, e3]
    intro h
    have h2 : ((t ||| 2 ^ (52 - 1)) % 2 ^ 52).testBit 51 = true := by
      rw [Nat.testBit_mod_two_pow]
      rw [Nat.testBit_or, show (2 ^ (52 - 1) : Nat).testBit 51 = true by decide +kernel]
      simp
    rw [h] at h2
    simp at h2
  have h3 : FloatKind.f64.format.quiet t % FloatKind.f64.format.binade < FloatKind.f64.format.binade := Nat.mod_lt _ (Nat.two_pow_pos _)
  have hE : ∀ u, FloatKind.f64.encode (.nan s u) = FloatKind.f64.format.word s (FloatKind.f64.format.infRung + u % FloatKind.f64.format.binade) := fun u => rfl
  unfold nan
  rw [hE, read_isNaN, decide_eq_true_eq]
  generalize FloatKind.f64.format.quiet t % FloatKind.f64.format.binade = q at h1 h3 ⊢
  have hs := FloatKind.f64.format.infRung_add_binade
  have hw : (FloatKind.f64.format.word s (FloatKind.f64.format.infRung + q)) % FloatKind.f64.format.signWeight = FloatKind.f64.format.infRung + q := by
    unfold Format.word
    split
    · rw [Nat.add_mod_left, Nat.mod_eq_of_lt (by omega)]
    · rw [Nat.mod_eq_of_lt (by omega)]
  rw [hw]
  rw [e3] at h3 hs ⊢
  rw [e4] at hs ⊢
  omega
theorem ext_call {P : Program} {f : FuncId} {fn : Func} {e : Array Value → Sem Value} {args : Array Value} {K : Value → Heap → Prop} {h : Heap} (hf : P.funcs[f]? = some fn) (hname : (fn.name == "runtime.NumGoroutine") = false)
    (hb : fn.body.isNone = true) (hn : Extern.findNext fn = none) (he : Extern.find fn = some e) (hr : ∀ w : World, w.heap = h → ∃ v w', (e args).run P w = .ok v w' ∧ Same w w' ∧ K v w'.heap) : CALL P f args K h := by
  intro w hw
  obtain ⟨v, w', h1, h2, h3⟩ := hr w hw
  unfold UponN
  rw [Go.run_callFunc_extern hf hname hb hn he, h1]
  exact ⟨h2, h3⟩
theorem rte_nan {x : Nat} {s : Bool} {u : Nat} (nm : String) (e : FloatKind.f64.decode x = .nan s u) : Extern.MathFloor.toIntegral nm .even #[.float .f64 x] =
    if FloatKind.f64.format.quiet u = u then pure (.float .f64 x) else (do
      let kept ← choose (.extern "math.Floor,Ceil,Trunc,RoundToEven.signallingNaN kept" 2)
      pure (.float .f64 (if kept == 1 then x else FloatKind.f64.encode (.nan s (FloatKind.f64.format.quiet u))))) := by
  show (match FloatKind.f64.decode x with | .nan s t => _ | d => _) = _
  rw [e]
theorem rte_else {x : Nat} (nm : String) (hx : nan .f64 x = false) : Extern.MathFloor.toIntegral nm .even #[.float .f64 x] = pure (.float .f64 (rte x)) := by
  have h' : (FloatKind.f64.decode x).isNaN = false := hx
  show (match FloatKind.f64.decode x with | .nan s t => _ | d => _) = _
  unfold rte
  cases e : FloatKind.f64.decode x with
  | nan s t => rw [e] at h'; cases h'
  | number s m p => rfl
  | infinity s => rfl
theorem rte_run {P : Program} (x : Nat) (w : World) (nm : String) : ∃ r w', (Extern.MathFloor.toIntegral nm .even #[.float .f64 x]).run P w = .ok (.float .f64 r) w' ∧ Same w w' ∧ w'.heap = w.heap ∧ (nan .f64 x = true → nan .f64 r = true) ∧ (nan .f64 x = false → r = rte x) := by
  cases hx : nan .f64 x with
  | false => exact ⟨_, w, by rw [rte_else nm hx, Sem.run_pure], Same.refl _, rfl, (fun h => by cases h), fun _ => rfl⟩
  | true =>
    have h' : (FloatKind.f64.decode x).isNaN = true := hx
    cases e : FloatKind.f64.decode x with
    | number s m p => rw [e] at h'; cases h'
    | infinity s => rw [e] at h'; cases h'
    | nan s u =>
      rw [rte_nan nm e]
      split
      · exact ⟨x, w, by rw [Sem.run_pure], Same.refl _, rfl, fun _ => hx, fun h => by cases h⟩
      · rw [Sem.run_bind, run_choose]
        have hq : ∀ c : Nat, nan .f64 (if c == 1 then x else FloatKind.f64.encode (.nan s (FloatKind.f64.format.quiet u))) = true := fun c => by
          split
          · exact hx
          · exact quiet_nan u
        split
        · exact ⟨_, w, by rw [Result.andThen_ok, Sem.run_pure], Same.refl _, rfl, fun _ => hq _, fun h => by cases h⟩
        · exact ⟨_, { w with drawn := w.drawn + 1 }, by rw [Result.andThen_ok, Sem.run_pure], ⟨rfl, rfl, rfl⟩, rfl, fun _ => hq _, fun h => by cases h⟩
theorem rte_not_nan {x : Nat} (h : nan .f64 x = false) : nan .f64 (rte x) = false := by
  have h' : (FloatKind.f64.format.read x).isNaN = false := h
  unfold rte FloatKind.decode
  cases e : FloatKind.f64.format.read x with
  | nan s t => rw [e] at h'; cases h'
  | number s m p => exact enc_not_nan .f64 rfl
  | infinity s => exact enc_not_nan .f64 rfl
/-- A float32 as a 16 bit number. -/
def shortOf (a : Nat) : Int := if nan .f32 a then 0 else shortR (rte (mulD (wide a)))
/-- The end that both ways have. -/
theorem short_tail {r : Nat} {Q : Int → Prop} (h1 : nan .f64 r = true → Q 0) (h2 : nan .f64 r = false → Q (shortR r)) :
    BIF (FloatKind.f64.format.order r r != some .eq) (Q 0) (BIF (FloatKind.f64.format.order r 4674736138332667904 == some .gt) (Q 32767) (BIF (FloatKind.f64.format.order r 13898108450065350656 == some .lt) (Q (-32768)) (FIC .f64 r .i16 fun n => Q n))) := by
  rw [ne_self]
  refine br h1 fun h0 => ?_
  have h2 := h2 h0
  unfold shortR at h2
  refine br (fun h3 => ?_) fun h3 => br (fun h4 => ?_) fun h4 n hn => ?_
  · rw [if_pos (by simpa using h3)] at h2; exact h2
  · rw [if_neg (by simpa using h3), if_pos (by simpa using h4)] at h2; exact h2
  · rw [if_neg (by simpa using h3), if_neg (by simpa using h4)] at h2
    rw [fit_short h0 (by simpa using h3) (by simpa using h4) hn]; exact h2
end Go.Sx
