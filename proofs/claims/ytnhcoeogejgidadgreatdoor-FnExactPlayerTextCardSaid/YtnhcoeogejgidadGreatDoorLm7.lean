/- What strings, bows, voices and players do, plain. -/
import Derived.Test.YtnhcoeogejgidadGreatDoorLva
import Derived.Test.YtnhcoeogejgidadGreatDoorLm6
import Derived.Test.YtnhcoeogejgidadGreatDoorLp2
import Derived.Test.YtnhcoeogejgidadGreatDoorTabE
set_option linter.unusedVariables false
set_option linter.unusedSimpArgs false
namespace Go.Sx
def GString.step (x : GString) (a : Nat) : GString × Nat :=
  let o := x.Loop.old
  let t := x.Tune.step o
  let d := x.Damp.step t.2
  ({ x with Loop := x.Loop.push (kept (fadd .f32 (fmul .f32 d.2 x.Loss) a)), Tune := t.1, Damp := d.1 }, o)
def GString.silent (x : GString) : Bool := x.Loop.zero && x.Tune.still && x.Damp.still
def friction (s d : Nat) : Nat :=
  let w := fadd .f32 (fabs (fmul .f32 s d)) 1061158912
  let v := fmul .f32 w w
  let f := fdiv .f32 1065353216 (fmul .f32 v v)
  if fgt .f32 f 1065353216 then 1065353216 else f
def GBow.e (x : GBow) : GFilter × Nat := x.Damp.step x.Bridge.old
def GBow.u (x : GBow) : Nat := fneg .f32 (fmul .f32 x.Loss x.e.2)
def GBow.v (x : GBow) : Nat := fneg .f32 x.Neck.old
def GBow.d (x : GBow) (a : Nat) : Nat := fsub .f32 a (fadd .f32 x.u x.v)
def GBow.w (x : GBow) (a : Nat) : Nat := fmul .f32 (x.d a) (friction x.Slope (x.d a))
def GBow.step (x : GBow) (a : Nat) : GBow × Nat :=
  ({ x with Neck := x.Neck.push (kept (fadd .f32 x.u (x.w a))), Bridge := x.Bridge.push (kept (fadd .f32 x.v (x.w a))), Damp := x.e.1 }, x.Bridge.old)
def GBow.silent (x : GBow) : Bool := x.Neck.zero && x.Bridge.zero && x.Damp.still
def GPipe.silent (x : GPipe) : Bool := x.Right.all GRing.zero && x.Left.all GRing.zero && x.End.still
end Go.Sx
/- A 16 bit number as a float32 and back. -/
namespace Go.Sx
open Ieee
set_option linter.unusedVariables false
set_option linter.unusedSimpArgs false

theorem compare_mul {a b q : Int} (hq : 0 < q) : compare (a * q) (b * q) = compare a b := by
  rcases Int.lt_trichotomy a b with h | h | h
  · rw [compare_lt h, compare_lt (Int.mul_lt_mul_of_pos_right h hq)]
  · subst h; simp
  · rw [compare_gt h, compare_gt (Int.mul_lt_mul_of_pos_right h hq)]
theorem signed_add (s : Bool) (m u v : Nat) : signed s m (u + v) = signed s m u * ((2 ^ v : Nat) : Int) := by
  cases s
  · rw [signed_f, signed_f, Nat.pow_add, ← Nat.mul_assoc]; exact Int.natCast_mul _ _
  · rw [signed_t, signed_t, Nat.pow_add, ← Nat.mul_assoc, Int.neg_mul]; exact congrArg Neg.neg (Int.natCast_mul _ _)
/-- Numbers compared over any base that is low enough. -/
theorem order_base (s t : Bool) (m n : Nat) (i j b : Int) (hi : b ≤ i) (hj : b ≤ j) : (Datum.number s m i).order (.number t n j) = some (compare (signed s m (i - b).toNat) (signed t n (j - b).toNat)) := by
  rw [order_number]
  congr 1
  rw [show (i - b).toNat = (i - min i j).toNat + (min i j - b).toNat by omega, show (j - b).toNat = (j - min i j).toNat + (min i j - b).toNat by omega, signed_add, signed_add]
  exact (compare_mul (by exact_mod_cast Nat.two_pow_pos _)).symm
end Go.Sx
/- Floats between powers of two: rounding keeps such bounds. -/
set_option linter.unusedVariables false
set_option linter.unusedSimpArgs false
namespace Go.Sx
open Ieee

/-- m * 2 ^ p is at most 2 ^ j. -/
def VLE (m : Nat) (p j : Int) : Prop := m = 0 ∨ (p ≤ j ∧ m ≤ 2 ^ (j - p).toNat)
/-- m * 2 ^ p is at least 2 ^ i. -/
def VGE (m : Nat) (p i : Int) : Prop := m ≠ 0 ∧ 2 ^ (i - p).toNat ≤ m
theorem cut_bounds (way : Toward) (s : Bool) (n d : Nat) : n / 2 ^ min d (n.log2 + 2) ≤ way.cut s n d ∧ way.cut s n d ≤ n / 2 ^ min d (n.log2 + 2) + 1 ∧ (n % 2 ^ min d (n.log2 + 2) = 0 → way.cut s n d = n / 2 ^ min d (n.log2 + 2)) := by
  unfold Toward.cut
  dsimp only
  rw [Nat.shiftLeft_eq, Nat.one_mul]
  have hp := Nat.two_pow_pos (min d (n.log2 + 2))
  generalize 2 ^ min d (n.log2 + 2) = gap at hp
  refine ⟨Nat.le_add_right _ _, Nat.add_le_add_left (Bool.toNat_le _) _, fun h => ?_⟩
  rw [h]
  have h1 : decide (gap < 2 * 0) = false := by simp
  have h2 : (gap == 2 * 0) = false := by simp; omega
  cases way
  · show n / gap + (decide (gap < 2 * 0) || gap == 2 * 0 && n / gap % 2 == 1).toNat = _
    rw [h1, h2]; rfl
  · cases s <;> rfl
  · cases s <;> rfl
  · rfl
theorem lt_log (n : Nat) : n < 2 ^ (n.log2 + 2) := Nat.lt_of_lt_of_le Nat.lt_log2_self (Nat.pow_le_pow_right (by decide) (by omega))
theorem cut_le (way : Toward) (s : Bool) {n d X : Nat} (h : n ≤ X * 2 ^ d) : way.cut s n d ≤ X := by
  obtain ⟨h1, h2, h3⟩ := cut_bounds way s n d
  rcases Nat.le_total d (n.log2 + 2) with hd | hd
  · rw [Nat.min_eq_left hd] at h1 h2 h3
    have hp := Nat.two_pow_pos d
    generalize 2 ^ d = g at *
    by_cases hr : n % g = 0
    · rw [h3 hr]
      exact Nat.div_le_of_le_mul (by rw [Nat.mul_comm]; exact h)
    · have h4 := Nat.div_add_mod n g
      have h5 : n / g < X := by
        refine Nat.lt_of_mul_lt_mul_left (a := g) ?_
        rw [Nat.mul_comm g X]; omega
      omega
  · rw [Nat.min_eq_right hd] at h1 h2 h3
    have h4 := lt_log n
    rw [Nat.div_eq_of_lt h4] at h1 h2 h3
    rw [Nat.mod_eq_of_lt h4] at h3
    by_cases hn : n = 0
    · rw [h3 hn]; exact Nat.zero_le _
    · have : X ≠ 0 := fun e => by subst e; omega
      omega
theorem cut_ge (way : Toward) (s : Bool) {n d X : Nat} (h : X * 2 ^ d ≤ n) : X ≤ way.cut s n d := by
  obtain ⟨h1, h2, h3⟩ := cut_bounds way s n d
  rcases Nat.le_total d (n.log2 + 2) with hd | hd
  · rw [Nat.min_eq_left hd] at h1
    exact Nat.le_trans ((Nat.le_div_iff_mul_le (Nat.two_pow_pos d)).2 h) h1
  · have h4 := lt_log n
    have h5 : 2 ^ (n.log2 + 2) ≤ 2 ^ d := Nat.pow_le_pow_right (by decide) hd
    have : X = 0 := by
      cases X with
      | zero => rfl
      | succ X => rw [Nat.succ_mul] at h; omega
    omega
/-- A rung read. -/
theorem read_rung0 (f : Format) (s : Bool) {k q : Nat} (hk : k < 2 * f.binade) (h : q = 0 ∨ f.binade ≤ k) (ho : q * f.binade + k < f.infRung) : f.read (f.word s (q * f.binade + k)) = .number s k (f.leastPlace + q) := by
  have hbp : 0 < f.binade := Nat.two_pow_pos _
  have hinf := f.infRung_lt
  have hw : (f.word s (q * f.binade + k)) % f.signWeight = q * f.binade + k := by
    unfold Format.word
    split
    · rw [Nat.add_mod_left, Nat.mod_eq_of_lt (by omega)]
    · rw [Nat.mod_eq_of_lt (by omega)]
  have hn : (f.word s (q * f.binade + k) / f.signWeight % 2 == 1) = s := by
    have hsw : 0 < f.signWeight := Nat.two_pow_pos _
    unfold Format.word
    cases s
    · simp only [Bool.false_eq_true, if_false]
      rw [Nat.div_eq_of_lt (by omega)]; rfl
    · simp only [if_true]
      rw [Nat.add_div_left _ hsw, Nat.div_eq_of_lt (by omega)]; rfl
  unfold Format.read
  dsimp only
  rw [hw, hn]
  by_cases hb : f.binade ≤ k
  · have h7 : k / f.binade = 1 := by rw [Nat.div_eq_iff hbp]; omega
    have h5 : (q * f.binade + k) / f.binade = q + 1 := by
      rw [Nat.mul_comm, Nat.mul_add_div hbp, h7]
    have h6 : (q * f.binade + k) % f.binade = k - f.binade := by
      rw [Nat.mul_comm, Nat.mul_add_mod]
      have := Nat.div_add_mod k f.binade
      rw [h7] at this; omega
    rw [if_neg (by omega), if_pos ho, h5, h6, show f.binade + (k - f.binade) = k by omega]
    congr 1
  · rcases h with h | h
    · subst h
      simp only [Nat.zero_mul, Nat.zero_add] at ho ⊢
      rw [if_pos (by omega)]
      simp
    · omega
theorem read_rung (f : Format) (s : Bool) {k q : Nat} (hk : k ≤ 2 * f.binade) (h : q = 0 ∨ f.binade ≤ k) (ho : q * f.binade + k < f.infRung) :
    ∃ (m' : Nat) (p' : Int), f.read (f.word s (q * f.binade + k)) = .number s m' p' ∧ ((m' = k ∧ p' = f.leastPlace + q ∧ k < 2 * f.binade) ∨ (k = 2 * f.binade ∧ m' = f.binade ∧ p' = f.leastPlace + q + 1)) := by
  have hbp : 0 < f.binade := Nat.two_pow_pos _
  by_cases hc : k = 2 * f.binade
  · subst hc
    have e : q * f.binade + 2 * f.binade = (q + 1) * f.binade + f.binade := by rw [Nat.add_mul]; omega
    rw [e] at ho ⊢
    exact ⟨_, _, read_rung0 f s (by omega) (.inr (Nat.le_refl _)) ho, .inr ⟨rfl, rfl, by push_cast; omega⟩⟩
  · exact ⟨_, _, read_rung0 f s (by omega) h ho, .inl ⟨rfl, rfl, by omega⟩⟩
/-- A number rounded: bounds that are powers of two stay. -/
theorem nearest_read (f : Format) (s : Bool) {m : Nat} {p j : Int} (h0 : m ≠ 0) (hle : VLE m p j) (hj : f.leastPlace + f.fractionBits ≤ j) (ho : ((j - f.fractionBits - f.leastPlace).toNat + 3) * f.binade ≤ f.infRung) :
    ∃ (m' : Nat) (p' : Int), f.read (f.nearest s m p) = .number s m' p' ∧ VLE m' p' j ∧ m' < 2 * f.binade ∧ f.leastPlace ≤ p' ∧ p' ≤ j - f.fractionBits ∧ ∀ i, f.leastPlace + f.fractionBits ≤ i → VGE m p i → VGE m' p' i ∧ f.binade ≤ m' := by
  rcases hle with hle | ⟨hpj, hle⟩
  · exact absurd hle h0
  have a1 : m < 2 ^ (m.log2 + 1) := Nat.lt_log2_self
  have a2 : 2 ^ m.log2 ≤ m := Nat.log2_self_le h0
  have hlj : m.log2 ≤ (j - p).toNat := by
    have h1 : 2 ^ m.log2 ≤ 2 ^ (j - p).toNat := Nat.le_trans a2 hle
    exact (Nat.pow_le_pow_iff_right (by decide)).1 h1
  have hb : f.binade = 2 ^ f.fractionBits := rfl
  unfold Format.nearest
  rw [if_neg h0]
  dsimp only
  have hlast : ∃ last : Int, last = max (p + m.log2 - f.fractionBits) f.leastPlace := ⟨_, rfl⟩
  obtain ⟨last, hl⟩ := hlast
  rw [← hl, Nat.shiftLeft_eq]
  have hlj2 : last ≤ j - f.fractionBits := by omega
  generalize hF : f.fractionBits = F at *
  have powle : ∀ {x y : Nat}, x ≤ y → 2 ^ x ≤ 2 ^ y := fun h => Nat.pow_le_pow_right (by decide) h
  have k1 : Toward.even.cut s (m * 2 ^ (p - last).toNat) (last - p).toNat ≤ 2 * f.binade := by
    refine cut_le _ _ ?_
    rw [hb, show 2 * 2 ^ F = 2 ^ (F + 1) by rw [Nat.pow_succ]; omega, ← Nat.pow_add]
    refine Nat.le_trans (Nat.mul_le_mul_right _ (Nat.le_of_lt a1)) ?_
    rw [← Nat.pow_add]
    exact powle (by omega)
  have k2 : last = f.leastPlace ∨ f.binade ≤ Toward.even.cut s (m * 2 ^ (p - last).toNat) (last - p).toNat := by
    rcases Int.le_total (p + m.log2 - F) f.leastPlace with h3 | h3
    · exact .inl (by omega)
    · refine .inr (cut_ge _ _ ?_)
      rw [hb, ← Nat.pow_add]
      refine Nat.le_trans ?_ (Nat.mul_le_mul_right _ a2)
      rw [← Nat.pow_add]
      exact powle (by omega)
  have k3 : Toward.even.cut s (m * 2 ^ (p - last).toNat) (last - p).toNat ≤ 2 ^ (j - last).toNat := by
    refine cut_le _ _ ?_
    refine Nat.le_trans (Nat.mul_le_mul_right _ hle) ?_
    rw [← Nat.pow_add, ← Nat.pow_add]
    exact powle (by omega)
  have k4 : ∀ i, f.leastPlace + F ≤ i → VGE m p i → 2 ^ (i - last).toNat ≤ Toward.even.cut s (m * 2 ^ (p - last).toNat) (last - p).toNat ∧ f.binade ≤ Toward.even.cut s (m * 2 ^ (p - last).toNat) (last - p).toNat := by
    intro i hi hv
    have hv2 : (i - p).toNat ≤ m.log2 := by
      have h1 : 2 ^ (i - p).toNat < 2 ^ (m.log2 + 1) := Nat.lt_of_le_of_lt hv.2 a1
      have := (Nat.pow_lt_pow_iff_right (by decide : 1 < 2)).1 h1
      omega
    have hB : f.binade ≤ Toward.even.cut s (m * 2 ^ (p - last).toNat) (last - p).toNat := by
      rcases k2 with k2 | k2
      · refine cut_ge _ _ ?_
        rw [hb]
        rcases Int.le_total p i with h4 | h4
        · refine Nat.le_trans ?_ (Nat.mul_le_mul_right _ hv.2)
          rw [← Nat.pow_add, ← Nat.pow_add]
          exact powle (by omega)
        · refine Nat.le_trans ?_ (Nat.mul_le_mul_right _ (show 1 ≤ m by omega))
          rw [Nat.one_mul, ← Nat.pow_add]
          exact powle (by omega)
      · exact k2
    refine ⟨?_, hB⟩
    rcases Int.le_total last i with h3 | h3
    · refine cut_ge _ _ ?_
      rcases Int.le_total p i with h4 | h4
      · refine Nat.le_trans ?_ (Nat.mul_le_mul_right _ hv.2)
        rw [← Nat.pow_add, ← Nat.pow_add]
        exact powle (by omega)
      · refine Nat.le_trans ?_ (Nat.mul_le_mul_right _ (show 1 ≤ m by omega))
        rw [Nat.one_mul, ← Nat.pow_add]
        exact powle (by omega)
    · rw [show (i - last).toNat = 0 by omega, Nat.pow_zero]
      exact Nat.le_trans (Nat.two_pow_pos _) hB
  generalize Toward.even.cut s (m * 2 ^ (p - last).toNat) (last - p).toNat = k at *
  have hq : ((last - f.leastPlace).toNat : Int) = last - f.leastPlace := by omega
  have hbp : 0 < f.binade := Nat.two_pow_pos _
  have hlt : (last - f.leastPlace).toNat * f.binade + k < f.infRung := by
    have h1 : (last - f.leastPlace).toNat * f.binade ≤ (j - F - f.leastPlace).toNat * f.binade := Nat.mul_le_mul_right _ (by omega)
    rw [Nat.add_mul] at ho
    omega
  rw [Nat.min_eq_left (Nat.le_of_lt hlt)]
  obtain ⟨m', p', hr, hc⟩ := read_rung f s k1 (k2.imp (fun h => by omega) id) hlt
  refine ⟨m', p', hr, ?_⟩
  rcases hc with ⟨rfl, rfl, hc⟩ | ⟨rfl, rfl, rfl⟩
  · rw [hq, show f.leastPlace + (last - f.leastPlace) = last by omega]
    exact ⟨.inr ⟨by omega, k3⟩, hc, by omega, by omega, fun i hi hv => ⟨⟨by have := (k4 i hi hv).2; omega, (k4 i hi hv).1⟩, (k4 i hi hv).2⟩⟩
  · rw [hq, show f.leastPlace + (last - f.leastPlace) + 1 = last + 1 by omega]
    have hp2 : 2 * f.binade = 2 ^ (F + 1) := by rw [hb, Nat.pow_succ]; omega
    rw [hp2] at k3
    have h3 : F + 1 ≤ (j - last).toNat := (Nat.pow_le_pow_iff_right (by decide)).1 k3
    refine ⟨.inr ⟨by omega, ?_⟩, by omega, by omega, by omega, fun i hi hv => ⟨⟨by omega, ?_⟩, Nat.le_refl _⟩⟩
    · rw [hb]; exact powle (by omega)
    · have h4 := (k4 i hi hv).1
      rw [hp2] at h4
      have h5 : (i - last).toNat ≤ F + 1 := (Nat.pow_le_pow_iff_right (by decide)).1 h4
      rw [hb]; exact powle (by omega)
end Go.Sx
/- Powers of two, sums, products and quotients between bounds, whole parts. -/
set_option linter.unusedVariables false
set_option linter.unusedSimpArgs false
namespace Go.Sx
open Ieee

def pow2 (k : Int) : Nat := FloatKind.f64.format.nearest false 1 k
/-- Neither negative nor greater than a power of two. -/
def Up (k : FloatKind) (w : Nat) (j : Int) : Prop := ∃ (m : Nat) (p : Int), k.format.read w = .number false m p ∧ VLE m p j
/-- Between two powers of two, and normal. -/
def Btw (w : Nat) (i j : Int) : Prop := ∃ (m : Nat) (p : Int), FloatKind.f64.format.read w = .number false m p ∧ VLE m p j ∧ VGE m p i ∧ 2 ^ 52 ≤ m ∧ m < 2 ^ 53
theorem Btw.up {w : Nat} {i j : Int} (h : Btw w i j) : Up .f64 w j := by obtain ⟨m, p, h1, h2, _⟩ := h; exact ⟨m, p, h1, h2⟩
theorem VLE.mono {m : Nat} {p i j : Int} (h : VLE m p i) (hij : i ≤ j) : VLE m p j := by
  rcases h with h | ⟨h1, h2⟩
  · exact .inl h
  · exact .inr ⟨by omega, Nat.le_trans h2 (Nat.pow_le_pow_right (by decide) (by omega))⟩
theorem VLE.mul {m n : Nat} {p q i j : Int} (h : VLE m p i) (g : VLE n q j) : VLE (m * n) (p + q) (i + j) := by
  rcases h with h | ⟨h1, h2⟩
  · exact .inl (by rw [h, Nat.zero_mul])
  rcases g with g | ⟨g1, g2⟩
  · exact .inl (by rw [g, Nat.mul_zero])
  refine .inr ⟨by omega, ?_⟩
  have := Nat.mul_le_mul h2 g2
  rwa [← Nat.pow_add, show (i - p).toNat + (j - q).toNat = (i + j - (p + q)).toNat by omega] at this
end Go.Sx
/- math.Floor of a float32 that is not great; what is left. -/
set_option linter.unusedVariables false
set_option linter.unusedSimpArgs false
namespace Go.Sx
open Ieee

/-- math.Floor. -/
def flr (w : Nat) : Nat := FloatKind.f64.encode ((FloatKind.f64.decode w).integral .down)
/-- The whole part of a number that is not negative. -/
def whole (m : Nat) (e : Int) : Nat := (m <<< e.toNat) / 2 ^ (-e).toNat
end Go.Sx
/- Tunings' periods: plain; what TwoTo computes lies between bounds. -/
set_option linter.unusedVariables false
set_option linter.unusedSimpArgs false
namespace Go.Sx
open Ieee
def GTuning.centsOf (t : GTuning) (key : Int) : Nat := fadd .f32 (fmul .f32 t.Octave (FloatKind.f32.nearest (key / t.Degrees.length))) t.Degrees[(key % t.Degrees.length).toNat]!
/-- The polynomial of TwoTo. -/
def twoS (y : Nat) (s : Nat) (ms : List Nat) : Nat := ms.foldl (fun s (m : Nat) => fadd .f64 4607182418800017408 (fmul .f64 (fdiv .f64 y (FloatKind.f64.nearest ((m : Nat) : Int))) s)) s
def ms14 : List Nat := [14, 13, 12, 11, 10, 9, 8, 7, 6, 5, 4, 3, 2, 1]
def twoY (x : Nat) : Nat := fmul .f64 (fsub .f64 (wid x) (flr (wid x))) 4604418534313441775
def twoK (x : Nat) : Int := ((FloatKind.f64.decode (flr (wid x))).toInt .zero).getD 0
def twoM (x : Nat) : Nat := twoS (twoY x) 4607182418800017408 ms14
def inTwo (x : Nat) : Bool := inside x 3270508544 1123024896
/-- 2 to a power, nearly. -/
def twoTo (x : Nat) : Nat := nar (fmul .f64 (twoM x) (pow2 (twoK x)))

theorem number_cn {k : FloatKind} {w m : Nat} {s : Bool} {e : Int} (h : k.format.read w = .number s m e) : cn k w = w := by
  have : Sx.nan k w = false := by unfold Sx.nan; rw [h]; rfl
  unfold cn; rw [this, if_neg (by decide)]
end Go.Sx
/- Signs; whole parts of float32s; new bodies. -/
set_option linter.unusedVariables false
set_option linter.unusedSimpArgs false
namespace Go.Sx
open Ieee

/-- A number times 2 ^ B. -/
def sv (B : Nat) (m : Nat) (e : Int) : Nat := m * 2 ^ (e + (B : Int)).toNat
/-- At least a number that is not negative: what it is. -/
theorem ge_read {B : Nat} (hB : 1100 ≤ B) {x c n : Nat} {j : Int} (hc : FloatKind.f32.format.read c = .number false n j) (h : fge .f32 x c = true) :
    FloatKind.f32.format.read x = .infinity false ∨ ∃ s m e, FloatKind.f32.format.read x = .number s m e ∧ (s = true → m = 0) ∧ sv B n j ≤ sv B m e := by
  have hj := read_single c hc
  unfold fge at h
  cases e : FloatKind.f32.format.read x with
  | nan s t => rw [order_read e hc] at h; cases h
  | infinity s =>
    rw [order_read e hc] at h
    cases s
    · exact .inl rfl
    · cases h
  | number s m i =>
    have hs := read_single x e
    refine .inr ⟨s, m, i, rfl, ?_⟩
    rw [order_read e hc, order_base _ _ _ _ _ _ (-(B : Int)) (by omega) (by omega)] at h
    have ei : (i - -(B : Int)).toNat = (i + (B : Int)).toNat := by congr 1; omega
    have ej : (j - -(B : Int)).toNat = (j + (B : Int)).toNat := by congr 1; omega
    rw [ei, ej, signed_f] at h
    have hne : ¬ compare (signed s m (i + (B : Int)).toNat) ((n * 2 ^ (j + (B : Int)).toNat : Nat) : Int) = .lt := fun hc => by rw [hc] at h; cases h
    have hle := compare_ne_lt hne
    unfold sv
    cases s
    · rw [signed_f] at hle
      exact ⟨(fun h => nomatch h), Int.ofNat_le.1 hle⟩
    · rw [signed_t] at hle
      have hp := Nat.two_pow_pos (i + (B : Int)).toNat
      have : m * 2 ^ (i + (B : Int)).toNat = 0 := by omega
      have hm : m = 0 := (Nat.mul_eq_zero.1 this).resolve_right (by omega)
      exact ⟨fun _ => hm, by omega⟩
theorem le_read {B : Nat} (hB : 1100 ≤ B) {x c n m : Nat} {s : Bool} {j e : Int} (hc : FloatKind.f32.format.read c = .number false n j) (hx : FloatKind.f32.format.read x = .number s m e) (hs : s = true → m = 0) (h : fle .f32 x c = true) : sv B m e ≤ sv B n j := by
  have hj := read_single c hc
  have hi := read_single x hx
  unfold fle at h
  rw [order_read hx hc, order_base _ _ _ _ _ _ (-(B : Int)) (by omega) (by omega)] at h
  have ei : (e - -(B : Int)).toNat = (e + (B : Int)).toNat := by congr 1; omega
  have ej : (j - -(B : Int)).toNat = (j + (B : Int)).toNat := by congr 1; omega
  rw [ei, ej, signed_f] at h
  have hne : ¬ compare (signed s m (e + (B : Int)).toNat) ((n * 2 ^ (j + (B : Int)).toNat : Nat) : Int) = .gt := fun hc => by rw [hc] at h; cases h
  have hle := compare_ne_gt hne
  unfold sv
  cases s
  · rw [signed_f] at hle; exact Int.ofNat_le.1 hle
  · rw [hs rfl, Nat.zero_mul]; exact Nat.zero_le _
theorem inf_le {x c n : Nat} {j : Int} (hc : FloatKind.f32.format.read c = .number false n j) (hx : FloatKind.f32.format.read x = .infinity false) : fle .f32 x c = false := by
  unfold fle
  rw [order_read hx hc]; rfl
/-- A float32 between two numbers that are not negative. -/
theorem inside_read {B : Nat} (hB : 1100 ≤ B) {x c d n k : Nat} {j i : Int} (hc : FloatKind.f32.format.read c = .number false n j) (hd : FloatKind.f32.format.read d = .number false k i) (h : inside x c d = true) :
    ∃ s m e, FloatKind.f32.format.read x = .number s m e ∧ (s = true → m = 0) ∧ sv B n j ≤ sv B m e ∧ sv B m e ≤ sv B k i := by
  unfold inside at h
  rw [Bool.and_eq_true] at h
  rcases ge_read hB hc h.1 with hx | ⟨s, m, e, hx, hs, hl⟩
  · rw [inf_le hd hx] at h; cases h.2
  · exact ⟨s, m, e, hx, hs, hl, le_read hB hd hx hs h.2⟩
theorem sv_vle {B : Nat} (hB : 1100 ≤ B) {m : Nat} {e j : Int} (hm : m ≠ 0) (he : -(B : Int) ≤ e) (hj : -(B : Int) ≤ j) (h : sv B m e ≤ 2 ^ (j + (B : Int)).toNat) : VLE m e j := by
  unfold sv at h
  have h1 : 2 ^ (e + (B : Int)).toNat ≤ 2 ^ (j + (B : Int)).toNat := Nat.le_trans (Nat.le_mul_of_pos_left _ (by omega)) h
  have h2 : (e + (B : Int)).toNat ≤ (j + (B : Int)).toNat := (Nat.pow_le_pow_iff_right (by decide)).1 h1
  refine .inr ⟨by omega, ?_⟩
  rw [show (j + (B : Int)).toNat = (j - e).toNat + (e + (B : Int)).toNat by omega, Nat.pow_add] at h
  exact Nat.le_of_mul_le_mul_right h (Nat.two_pow_pos _)
/-- A float32's whole part, of one that is neither negative nor too great. -/
def floorN (a : Nat) : Nat := match FloatKind.f32.format.read a with | .number false m e => whole m e | _ => 0
end Go.Sx
