/- Powers of two, sums, products and quotients between bounds, whole parts. -/
import Derived.Test.YtgbjfohgmpmjoaaGreatDoorLm6
import Derived.Test.YtgbjfohgmpmjoaaGreatDoorK0
set_option linter.unusedVariables false
set_option linter.unusedSimpArgs false
namespace Go.Sx
open Ieee

def pow2 (k : Int) : Nat := FloatKind.f64.format.nearest false 1 k
/-- Neither negative nor greater than a power of two. -/
def Up (k : FloatKind) (w : Nat) (j : Int) : Prop := ∃ (m : Nat) (p : Int), k.format.read w = .number false m p ∧ VLE m p j
/-- Between two powers of two, and normal. -/
def Btw (w : Nat) (i j : Int) : Prop := ∃ (m : Nat) (p : Int), FloatKind.f64.format.read w = .number false m p ∧ VLE m p j ∧ VGE m p i ∧ 2 ^ 52 ≤ m ∧ m < 2 ^ 53
theorem Btw.up {w : Nat} {i j : Int} (h : Btw w i j) : Up .f64 w j := by obtain ⟨m, p, h1, h2, _⟩ := h; exact ⟨m, p, h1, h2⟩
theorem VLE.mono {m : Nat} {p i j : Int} (h : VLE m p i) (hij : i ≤ j) : VLE m p j := by
  rcases h with h | ⟨h1, h2⟩
  · exact .inl h
  · exact .inr ⟨by omega, Nat.le_trans h2 (Nat.pow_le_pow_right (by decide) (by omega))⟩
theorem VLE.mul {m n : Nat} {p q i j : Int} (h : VLE m p i) (g : VLE n q j) : VLE (m * n) (p + q) (i + j) := by
  rcases h with h | ⟨h1, h2⟩
  · exact .inl (by rw [h, Nat.zero_mul])
  rcases g with g | ⟨g1, g2⟩
  · exact .inl (by rw [g, Nat.mul_zero])
  refine .inr ⟨by omega, ?_⟩
  have := Nat.mul_le_mul h2 g2
  rwa [← Nat.pow_add, show (i - p).toNat + (j - q).toNat = (i + j - (p + q)).toNat by omega] at this
theorem div_gap (n d : Nat) : n / 2 ^ min d (n.log2 + 2) = n / 2 ^ d := by
  rcases Nat.le_total d (n.log2 + 2) with hd | hd
  · rw [Nat.min_eq_left hd]
  · rw [Nat.min_eq_right hd, Nat.div_eq_of_lt (lt_log n), Nat.div_eq_of_lt (Nat.lt_of_lt_of_le (lt_log n) (Nat.pow_le_pow_right (by decide) hd))]
theorem cut_zero_eq (s : Bool) (n d : Nat) : Toward.zero.cut s n d = n / 2 ^ d := by
  rw [← div_gap]
  unfold Toward.cut
  dsimp only
  rw [Nat.shiftLeft_eq, Nat.one_mul]
  rfl
end Go.Sx
/- math.Floor of a float32 that is not great; what is left. -/
set_option linter.unusedVariables false
set_option linter.unusedSimpArgs false
namespace Go.Sx
open Ieee

/-- math.Floor. -/
def flr (w : Nat) : Nat := FloatKind.f64.encode ((FloatKind.f64.decode w).integral .down)
theorem shift_scaled {B M : Nat} {E : Int} (h : -(B : Int) ≤ E) : M * 2 ^ (E + (B : Int)).toNat = (M <<< E.toNat) * 2 ^ (B - (-E).toNat) := by
  rw [Nat.shiftLeft_eq, Nat.mul_assoc, ← Nat.pow_add]
  congr 2
  omega
theorem split_pow {B d : Nat} (h : d ≤ B) : 2 ^ B = 2 ^ d * 2 ^ (B - d) := by rw [← Nat.pow_add]; congr 1; omega
theorem trunc_scaled {B M : Nat} {E : Int} (h : -(B : Int) ≤ E) : (M <<< E.toNat) / 2 ^ (-E).toNat = M * 2 ^ (E + (B : Int)).toNat / 2 ^ B := by
  rw [shift_scaled h, split_pow (B := B) (d := (-E).toNat) (by omega), Nat.mul_div_mul_right _ _ (Nat.two_pow_pos _)]
theorem isFI_eq {k : FloatKind} {b : Nat} {n z : Int} (hz : (k.decode b).toInt .zero = some z) (h1 : -9223372036854775808 ≤ z) (h2 : z ≤ 9223372036854775807) (h : IsFI k b .i64 n) : n = z := by
  unfold IsFI at h
  rw [hz] at h
  have e1 : IntKind.min .i64 = -9223372036854775808 := by decide
  have e2 : IntKind.max .i64 = 9223372036854775807 := by decide
  dsimp only at h
  rw [e1, e2, if_pos ⟨h1, h2⟩] at h
  exact h
theorem ficI {k : FloatKind} {b : Nat} {z : Int} {F : Int → Prop} (hz : (k.decode b).toInt .zero = some z) (h1 : -9223372036854775808 ≤ z) (h2 : z ≤ 9223372036854775807) (H : F z) : FIC k b .i64 F := fun n h => by
  rw [isFI_eq hz h1 h2 h]; exact H
/-- The whole part of a number that is not negative. -/
def whole (m : Nat) (e : Int) : Nat := (m <<< e.toNat) / 2 ^ (-e).toNat
theorem int_pos {a m : Nat} {e : Int} (hr : FloatKind.f32.format.read a = .number false m e) : (FloatKind.f32.decode a).toInt .zero = some ((whole m e : Nat) : Int) := by
  obtain ⟨h1, h2, h3⟩ := read_single a hr
  unfold FloatKind.decode
  rw [hr, toInt_number, cut_zero_eq, signed_f, Nat.pow_zero, Nat.mul_one]
  rfl
end Go.Sx
/- Tunings' periods: plain; what TwoTo computes lies between bounds. -/
set_option linter.unusedVariables false
set_option linter.unusedSimpArgs false
namespace Go.Sx
open Ieee
def GTuning.centsOf (t : GTuning) (key : Int) : Nat := fadd .f32 (fmul .f32 t.Octave (FloatKind.f32.nearest (key / t.Degrees.length))) t.Degrees[(key % t.Degrees.length).toNat]!
/-- The polynomial of TwoTo. -/
def twoS (y : Nat) (s : Nat) (ms : List Nat) : Nat := ms.foldl (fun s (m : Nat) => fadd .f64 4607182418800017408 (fmul .f64 (fdiv .f64 y (FloatKind.f64.nearest ((m : Nat) : Int))) s)) s
def ms14 : List Nat := [14, 13, 12, 11, 10, 9, 8, 7, 6, 5, 4, 3, 2, 1]
def twoY (x : Nat) : Nat := fmul .f64 (fsub .f64 (wid x) (flr (wid x))) 4604418534313441775
def twoK (x : Nat) : Int := ((FloatKind.f64.decode (flr (wid x))).toInt .zero).getD 0
def twoM (x : Nat) : Nat := twoS (twoY x) 4607182418800017408 ms14
def inTwo (x : Nat) : Bool := inside x 3270508544 1123024896
/-- 2 to a power, nearly. -/
def twoTo (x : Nat) : Nat := nar (fmul .f64 (twoM x) (pow2 (twoK x)))

theorem number_cn {k : FloatKind} {w m : Nat} {s : Bool} {e : Int} (h : k.format.read w = .number s m e) : cn k w = w := by
  have : Sx.nan k w = false := by unfold Sx.nan; rw [h]; rfl
  unfold cn; rw [this, if_neg (by decide)]
end Go.Sx
/- Signs; whole parts of float32s; new bodies. -/
set_option linter.unusedVariables false
set_option linter.unusedSimpArgs false
namespace Go.Sx
open Ieee

/-- A number times 2 ^ B. -/
def sv (B : Nat) (m : Nat) (e : Int) : Nat := m * 2 ^ (e + (B : Int)).toNat
theorem sv_whole {B m : Nat} {e : Int} (h : -(B : Int) ≤ e) : whole m e = sv B m e / 2 ^ B := trunc_scaled h
/-- At least a number that is not negative: what it is. -/
theorem ge_read {B : Nat} (hB : 1100 ≤ B) {x c n : Nat} {j : Int} (hc : FloatKind.f32.format.read c = .number false n j) (h : fge .f32 x c = true) :
    FloatKind.f32.format.read x = .infinity false ∨ ∃ s m e, FloatKind.f32.format.read x = .number s m e ∧ (s = true → m = 0) ∧ sv B n j ≤ sv B m e := by
  have hj := read_single c hc
  unfold fge at h
  cases e : FloatKind.f32.format.read x with
  | nan s t => rw [order_read e hc] at h; cases h
  | infinity s =>
    rw [order_read e hc] at h
    cases s
    · exact .inl rfl
    · cases h
  | number s m i =>
    have hs := read_single x e
    refine .inr ⟨s, m, i, rfl, ?_⟩
    rw [order_read e hc, order_base _ _ _ _ _ _ (-(B : Int)) (by omega) (by omega)] at h
    have ei : (i - -(B : Int)).toNat = (i + (B : Int)).toNat := by congr 1; omega
    have ej : (j - -(B : Int)).toNat = (j + (B : Int)).toNat := by congr 1; omega
    rw [ei, ej, signed_f] at h
    have hne : ¬ compare (signed s m (i + (B : Int)).toNat) ((n * 2 ^ (j + (B : Int)).toNat : Nat) : Int) = .lt := fun hc => by rw [hc] at h; cases h
    have hle := compare_ne_lt hne
    unfold sv
    cases s
    · rw [signed_f] at hle
      exact ⟨(fun h => nomatch h), Int.ofNat_le.1 hle⟩
    · rw [signed_t] at hle
      have hp := Nat.two_pow_pos (i + (B : Int)).toNat
      have : m * 2 ^ (i + (B : Int)).toNat = 0 := by omega
      have hm : m = 0 := (Nat.mul_eq_zero.1 this).resolve_right (by omega)
      exact ⟨fun _ => hm, by omega⟩
theorem le_read {B : Nat} (hB : 1100 ≤ B) {x c n m : Nat} {s : Bool} {j e : Int} (hc : FloatKind.f32.format.read c = .number false n j) (hx : FloatKind.f32.format.read x = .number s m e) (hs : s = true → m = 0) (h : fle .f32 x c = true) : sv B m e ≤ sv B n j := by
  have hj := read_single c hc
  have hi := read_single x hx
  unfold fle at h
  rw [order_read hx hc, order_base _ _ _ _ _ _ (-(B : Int)) (by omega) (by omega)] at h
  have ei : (e - -(B : Int)).toNat = (e + (B : Int)).toNat := by congr 1; omega
  have ej : (j - -(B : Int)).toNat = (j + (B : Int)).toNat := by congr 1; omega
  rw [ei, ej, signed_f] at h
  have hne : ¬ compare (signed s m (e + (B : Int)).toNat) ((n * 2 ^ (j + (B : Int)).toNat : Nat) : Int) = .gt := fun hc => by rw [hc] at h; cases h
  have hle := compare_ne_gt hne
  unfold sv
  cases s
  · rw [signed_f] at hle; exact Int.ofNat_le.1 hle
  · rw [hs rfl, Nat.zero_mul]; exact Nat.zero_le _
theorem inf_le {x c n : Nat} {j : Int} (hc : FloatKind.f32.format.read c = .number false n j) (hx : FloatKind.f32.format.read x = .infinity false) : fle .f32 x c = false := by
  unfold fle
  rw [order_read hx hc]; rfl
/-- A float32 between two numbers that are not negative. -/
theorem inside_read {B : Nat} (hB : 1100 ≤ B) {x c d n k : Nat} {j i : Int} (hc : FloatKind.f32.format.read c = .number false n j) (hd : FloatKind.f32.format.read d = .number false k i) (h : inside x c d = true) :
    ∃ s m e, FloatKind.f32.format.read x = .number s m e ∧ (s = true → m = 0) ∧ sv B n j ≤ sv B m e ∧ sv B m e ≤ sv B k i := by
  unfold inside at h
  rw [Bool.and_eq_true] at h
  rcases ge_read hB hc h.1 with hx | ⟨s, m, e, hx, hs, hl⟩
  · rw [inf_le hd hx] at h; cases h.2
  · exact ⟨s, m, e, hx, hs, hl, le_read hB hd hx hs h.2⟩
theorem sv_vle {B : Nat} (hB : 1100 ≤ B) {m : Nat} {e j : Int} (hm : m ≠ 0) (he : -(B : Int) ≤ e) (hj : -(B : Int) ≤ j) (h : sv B m e ≤ 2 ^ (j + (B : Int)).toNat) : VLE m e j := by
  unfold sv at h
  have h1 : 2 ^ (e + (B : Int)).toNat ≤ 2 ^ (j + (B : Int)).toNat := Nat.le_trans (Nat.le_mul_of_pos_left _ (by omega)) h
  have h2 : (e + (B : Int)).toNat ≤ (j + (B : Int)).toNat := (Nat.pow_le_pow_iff_right (by decide)).1 h1
  refine .inr ⟨by omega, ?_⟩
  rw [show (j + (B : Int)).toNat = (j - e).toNat + (e + (B : Int)).toNat by omega, Nat.pow_add] at h
  exact Nat.le_of_mul_le_mul_right h (Nat.two_pow_pos _)
theorem sv_vge {B : Nat} (hB : 1100 ≤ B) {m : Nat} {e i : Int} (he : -(B : Int) ≤ e) (hi : -(B : Int) ≤ i) (h : 2 ^ (i + (B : Int)).toNat ≤ sv B m e) : VGE m e i := by
  unfold sv at h
  have hm : m ≠ 0 := fun h0 => by
    subst h0
    have := Nat.two_pow_pos (i + (B : Int)).toNat
    omega
  refine ⟨hm, ?_⟩
  rcases Int.le_total e i with h1 | h1
  · rw [show (i + (B : Int)).toNat = (i - e).toNat + (e + (B : Int)).toNat by omega, Nat.pow_add] at h
    exact Nat.le_of_mul_le_mul_right h (Nat.two_pow_pos _)
  · rw [show (i - e).toNat = 0 by omega]; omega
theorem vle_sv {B : Nat} (hB : 1100 ≤ B) {m : Nat} {e j : Int} (he : -(B : Int) ≤ e) (h : VLE m e j) : sv B m e ≤ 2 ^ (j + (B : Int)).toNat := by
  unfold sv
  rcases h with h | ⟨h1, h2⟩
  · rw [h, Nat.zero_mul]; exact Nat.zero_le _
  · refine Nat.le_trans (Nat.mul_le_mul_right _ h2) ?_
    rw [← Nat.pow_add]
    exact Nat.pow_le_pow_right (by decide) (by omega)
theorem vge_sv {B : Nat} (hB : 1100 ≤ B) {m : Nat} {e i : Int} (he : -(B : Int) ≤ e) (h : VGE m e i) : 2 ^ (i + (B : Int)).toNat ≤ sv B m e := by
  unfold sv
  have h2 := h.2
  rcases Int.le_total e i with h1 | h1
  · refine Nat.le_trans ?_ (Nat.mul_le_mul_right _ h2)
    rw [← Nat.pow_add]
    exact Nat.pow_le_pow_right (by decide) (by omega)
  · refine Nat.le_trans (Nat.pow_le_pow_right (by decide) (show (i + (B : Int)).toNat ≤ (e + (B : Int)).toNat by omega)) (Nat.le_mul_of_pos_left _ (by have := h.1; omega))
theorem sub_scaled {A D g u Q : Nat} (hg : 0 < g) (h1 : 3 * (2 * u) ≤ A * g) (h2 : A * g ≤ Q) (h3 : D * g ≤ u) : ∃ T, A = T + D ∧ 4 * u ≤ T * g ∧ T * g ≤ Q := by
  have hBA : D ≤ A := Nat.le_of_mul_le_mul_right (c := g) (by omega) hg
  refine ⟨A - D, by omega, ?_, ?_⟩
  · rw [Nat.sub_mul]; omega
  · rw [Nat.sub_mul]; omega
/-- A float32's whole part, of one that is neither negative nor too great. -/
def floorN (a : Nat) : Nat := match FloatKind.f32.format.read a with | .number false m e => whole m e | _ => 0
/-- The period of a string without its mix. -/
theorem period_sub {p x : Nat} (hp : inside p 1077936128 1149239296 = true) (hx : inside x 0 1056964608 = true) : ∃ m e, FloatKind.f32.format.read (fsub .f32 p x) = .number false m e ∧ 2 ≤ whole m e ∧ whole m e ≤ 1024 := by
  obtain ⟨B, hB⟩ : ∃ B : Nat, 1100 ≤ B := ⟨1100, Nat.le_refl _⟩
  have c3 : FloatKind.f32.format.read 1077936128 = .number false (3 * 2 ^ 22) (-22) := by decide +kernel
  have c1024 : FloatKind.f32.format.read 1149239296 = .number false (2 ^ 23) (-13) := by decide +kernel
  have c0 : FloatKind.f32.format.read 0 = .number false 0 (-149) := by decide +kernel
  have ch : FloatKind.f32.format.read 1056964608 = .number false (2 ^ 23) (-24) := by decide +kernel
  obtain ⟨s, m, e, hr, hs, h1, h2⟩ := inside_read hB c3 c1024 hp
  obtain ⟨s', m', e', hr', hs', h1', h2'⟩ := inside_read hB c0 ch hx
  have v3 : sv B (3 * 2 ^ 22) (-22) = 3 * 2 ^ B := by unfold sv; rw [Nat.mul_assoc, ← Nat.pow_add]; congr 2; omega
  have v1024 : sv B (2 ^ 23) (-13) = 2 ^ (B + 10) := by unfold sv; rw [← Nat.pow_add]; congr 1; omega
  have vh : sv B (2 ^ 23) (-24) = 2 ^ (B - 1) := by unfold sv; rw [← Nat.pow_add]; congr 1; omega
  rw [v3] at h1
  rw [v1024] at h2
  rw [vh] at h2'
  have hb1 := read_single p hr
  have hb2 := read_single x hr'
  have hm0 : m ≠ 0 := fun h0 => by
    subst h0
    unfold sv at h1
    rw [Nat.zero_mul] at h1
    have := Nat.two_pow_pos B
    omega
  have hsf : s = false := by
    cases s
    · rfl
    · exact absurd (hs rfl) hm0
  subst hsf
  have hbase : ∃ b : Int, b = min e e' := ⟨_, rfl⟩
  obtain ⟨b, hbase⟩ := hbase
  have w1 : sv B m e = m * 2 ^ (e - b).toNat * 2 ^ (b + (B : Int)).toNat := by unfold sv; rw [Nat.mul_assoc, ← Nat.pow_add]; congr 2; omega
  have w2 : sv B m' e' = m' * 2 ^ (e' - b).toNat * 2 ^ (b + (B : Int)).toNat := by unfold sv; rw [Nat.mul_assoc, ← Nat.pow_add]; congr 2; omega
  have hneg : signed (!s') m' (e' - b).toNat = -((m' * 2 ^ (e' - b).toNat : Nat) : Int) := by
    cases s'
    · exact signed_t _ _
    · rw [hs' rfl, Nat.zero_mul]
      show signed false 0 _ = _
      rw [signed_f, Nat.zero_mul]; rfl
  have eB : (2 : Nat) ^ B = 2 * 2 ^ (B - 1) := by rw [← Nat.pow_succ']; congr 1; omega
  have eB1 : (2 : Nat) ^ (B + 1) = 4 * 2 ^ (B - 1) := by rw [show (4 : Nat) = 2 ^ 2 by rfl, ← Nat.pow_add]; congr 1; omega
  have hT : ∃ T : Nat, m * 2 ^ (e - b).toNat = T + m' * 2 ^ (e' - b).toNat ∧ 4 * 2 ^ (B - 1) ≤ T * 2 ^ (b + (B : Int)).toNat ∧ T * 2 ^ (b + (B : Int)).toNat ≤ 2 ^ (B + 10) := by
    rw [w1] at h1 h2
    rw [w2] at h2'
    rw [eB] at h1
    exact sub_scaled (Nat.two_pow_pos _) h1 h2 h2'
  obtain ⟨T, hT1, hT2, hT3⟩ := hT
  have hT0 : T ≠ 0 := fun h0 => by
    subst h0
    rw [Nat.zero_mul] at hT2
    have := Nat.two_pow_pos (B - 1)
    omega
  have hsum : (Datum.number false m e).sum (Datum.number s' m' e').opposite = some (.number false T b) := by
    show some (Datum.number _ _ _) = _
    rw [← hbase, hneg, signed_f, hT1]
    have : ((T + m' * 2 ^ (e' - b).toNat : Nat) : Int) + -((m' * 2 ^ (e' - b).toNat : Nat) : Int) = (T : Int) := by push_cast; omega
    rw [this, if_neg (by omega), Int.natAbs_natCast, decide_eq_false (by omega)]
  have hsub : FloatKind.f32.format.sub p x = some (FloatKind.f32.format.nearest false T b) := by
    unfold Format.sub
    rw [hr, hr', hsum]; rfl
  obtain ⟨e1, e2, e3, e4⟩ := f32_consts
  have hle : VLE T b 10 := sv_vle hB hT0 (by omega) (by omega) (by rw [show ((10 : Int) + (B : Int)).toNat = B + 10 by omega]; exact hT3)
  have hge : VGE T b 1 := sv_vge hB (by omega) (by omega) (by rw [show ((1 : Int) + (B : Int)).toNat = B + 1 by omega, eB1]; exact hT2)
  obtain ⟨m2, p2, hr2, hv2, _, hlp, _, hi⟩ := nearest_read FloatKind.f32.format false hT0 hle (by rw [e1, e2]; omega) (by rw [e1, e2, e3, e4]; decide)
  have hg2 := (hi 1 (by rw [e1, e2]; omega) hge).1
  rw [e2] at hlp
  have k1 := vle_sv hB (by omega) hv2
  have k2 := vge_sv hB (by omega) hg2
  have hcn : fsub .f32 p x = FloatKind.f32.format.nearest false T b := by
    unfold fsub
    rw [hsub, Option.getD_some, number_cn hr2]
  refine ⟨m2, p2, by rw [hcn]; exact hr2, ?_, ?_⟩
  · rw [sv_whole (B := B) (by omega)]
    refine (Nat.le_div_iff_mul_le (Nat.two_pow_pos _)).2 ?_
    rw [show ((1 : Int) + (B : Int)).toNat = B + 1 by omega] at k2
    rw [← Nat.pow_succ']; exact k2
  · rw [sv_whole (B := B) (by omega)]
    refine Nat.div_le_of_le_mul ?_
    rw [show ((10 : Int) + (B : Int)).toNat = B + 10 by omega] at k1
    rw [show (1024 : Nat) = 2 ^ 10 by rfl, ← Nat.pow_add]; exact k1
end Go.Sx
