/- math.Floor; powers of two by way of bits. -/
import Derived.Test.YthhepeklpgefkaaGreatDoorLf9
import Derived.Test.YthhepeklpgefkaaGreatDoorLk17
import Derived.Test.YthhepeklpgefkaaGreatDoorK8
set_option linter.unusedVariables false
set_option linter.unusedSimpArgs false
namespace Go.Sx
open Go.Proofs Ieee
set_option maxRecDepth 100000
set_option maxHeartbeats 1000000

theorem flr_plain {x : Nat} (nm : String) (hx : nan .f64 x = false) : Extern.MathFloor.toIntegral nm .down #[.float .f64 x] = pure (.float .f64 (flr x)) := by
  have h' : (FloatKind.f64.decode x).isNaN = false := hx
  show (match FloatKind.f64.decode x with | .nan s t => _ | d => _) = _
  unfold flr
  cases e : FloatKind.f64.decode x with
  | nan s t => rw [e] at h'; cases h'
  | number s m p => rfl
  | infinity s => rfl
theorem Floor_c {x : Nat} (hx : nan .f64 x = false) : Ret prg f_math_Floor #[.float .f64 x] (.float .f64 (flr x)) := fun h => by
  have c : Ret prg f_math_archFloor #[.float .f64 x] (.float .f64 (flr x)) :=
    ext_ret (e := Extern.MathFloor.toIntegral "math.archFloor" .down) X_math_archFloor (by kernel_rfl) (by kernel_rfl) (by kernel_rfl) (by kernel_rfl) fun w => by rw [flr_plain _ hx, Sem.run_pure]
  exact math_Floor.call (c.go fun h1 x1 => as_f ⟨rfl, x1⟩)
theorem fopI {k : FloatKind} {o : Option Nat} {v : Nat} {F : Nat → Prop} (h : o = some v) (H : F v) : FOP k o F := fun r hr => by
  subst h; rw [show r = v from hr]; exact H
theorem pow2_zero : pow2 0 = 4607182418800017408 := by decide +kernel
theorem l07Power_c {k : Int} (h1 : -140 ≤ k) (h2 : k ≤ 140) : Ret prg f_spec_l07Power #[.int .i64 k] (.float .f64 (pow2 k)) := fun h => by
  refine spec_l07Power.call ?_
  refine loop (fun x hh => ∃ j : Int, x = (j, pow2 (k - j)) ∧ (0 ≤ j ∧ j ≤ k ∨ j = k) ∧ Ext h hh) (fun x => x.1.toNat) ⟨k, by rw [Int.sub_self, pow2_zero], .inr rfl, Ext.refl _⟩ ?_
  rintro x hh ⟨j, rfl, hj, X⟩
  refine brd (fun hc => fopI (pow2_mul (by omega) (by omega)) ?_) fun hc => ?_
  · rw [wrap64 (by omega) (by omega)]
    exact ⟨⟨j - 1, by rw [show k - (j - 1) = k - j + 1 by omega], by omega, X⟩, by show (j - 1).toNat < j.toNat; omega⟩
  · refine loop (fun x hh => ∃ i : Int, x = (i, pow2 (k - i)) ∧ (i ≤ 0 ∧ k ≤ i ∨ i = 0) ∧ Ext h hh) (fun x => (-x.1).toNat) ⟨j, rfl, by omega, X⟩ ?_
    rintro x hh ⟨i, rfl, hi, X⟩
    refine brd (fun hc => fopI (pow2_div (by omega) (by omega)) ?_) fun hc => ?_
    · rw [wrap64 (by omega) (by omega)]
      exact ⟨⟨i + 1, by rw [show k - (i + 1) = k - i - 1 by omega], by omega, X⟩, by show (-(i + 1)).toNat < (-i).toNat; omega⟩
    · obtain rfl : i = 0 := by omega
      exact ⟨by rw [Int.sub_zero], X⟩
/-- A normal number's word, by its parts. -/
theorem word_of {w m : Nat} {e : Int} (h : FloatKind.f64.format.read w = .number false m e) (hm : 2 ^ 52 ≤ m) (hw : w < 2 ^ 64) : w = (e + 1074).toNat * 2 ^ 52 + m := by
  obtain ⟨e1, e2, e3, e4⟩ := f64_consts
  have e5 : FloatKind.f64.format.signWeight = 2 ^ 63 := rfl
  unfold Format.read at h
  dsimp only at h
  rw [e5, e3, e2, e4] at h
  split at h
  · simp only [Datum.number.injEq] at h; omega
  · split at h
    · simp only [Datum.number.injEq] at h
      obtain ⟨h1, h2, h3⟩ := h
      have h1 : ¬ w / 2 ^ 63 % 2 = 1 := by simpa using h1
      omega
    · split at h <;> cases h
theorem btw_parts {s : Nat} (hb : Btw s 0 2) (hs : s < 2 ^ 64) : ∃ (m : Nat) (e : Int), FloatKind.f64.format.read s = .number false m e ∧ 2 ^ 52 ≤ m ∧ m < 2 ^ 53 ∧ (e = -52 ∨ e = -51 ∨ e = -50) ∧ s = (e + 1074).toNat * 2 ^ 52 + m := by
  obtain ⟨m, e, hr, hv, hg, h1, h2⟩ := hb
  refine ⟨m, e, hr, h1, h2, ?_, word_of hr h1 hs⟩
  have k1 : 52 ≤ (2 - e).toNat := by
    rcases hv with hv | ⟨g1, g2⟩
    · omega
    · exact (Nat.pow_le_pow_iff_right (by decide : 1 < 2)).1 (Nat.le_trans h1 g2)
  have k2 : (0 - e).toNat < 53 := (Nat.pow_lt_pow_iff_right (by decide : 1 < 2)).1 (Nat.lt_of_le_of_lt hg.2 h2)
  omega
theorem order_lt {k : FloatKind} {x y m n : Nat} {i j : Int} (hx : k.format.read x = .number false m i) (hy : k.format.read y = .number false n j) (b : Int) (hi : b ≤ i) (hj : b ≤ j) (h : m * 2 ^ (i - b).toNat < n * 2 ^ (j - b).toNat) : k.format.order x y = some .lt := by
  rw [order_read hx hy, order_base _ _ _ _ _ _ b hi hj, signed_f, signed_f, compare_lt (Int.ofNat_lt.2 h)]
theorem order_gt {k : FloatKind} {x y m n : Nat} {i j : Int} (hx : k.format.read x = .number false m i) (hy : k.format.read y = .number false n j) (b : Int) (hi : b ≤ i) (hj : b ≤ j) (h : n * 2 ^ (j - b).toNat < m * 2 ^ (i - b).toNat) : k.format.order x y = some .gt := by
  rw [order_read hx hy, order_base _ _ _ _ _ _ b hi hj, signed_f, signed_f, compare_gt (Int.ofNat_lt.2 h)]
theorem u64_wrap {n : Int} (h1 : 0 ≤ n) (h2 : n < 18446744073709551616) : IntKind.u64.wrap n = n := by
  simp only [IntKind.wrap, IntKind.signed, Bool.false_and, Bool.false_eq_true, if_false]
  rw [show (2 : Int) ^ IntKind.u64.bits = 18446744073709551616 by decide]
  omega
theorem and_top {x : Nat} (h : x < 2 ^ 63) : x &&& 2 ^ 63 = 0 := by
  apply Nat.eq_of_testBit_eq
  intro i
  rw [Nat.testBit_and, Nat.testBit_two_pow, Nat.zero_testBit]
  by_cases e : 63 = i
  · subst e; rw [Nat.testBit_lt_two_pow h]; rfl
  · rw [decide_eq_false e, Bool.and_false]
theorem low_bits {x : Nat} (h : x < 2 ^ 63) : bitI .andNot .u64 (x : Int) 9218868437227405312 = ((x % 2 ^ 52 : Nat) : Int) := by
  have e2 : (BitVec.ofInt IntKind.u64.bits (x : Int) &&& ~~~BitVec.ofInt IntKind.u64.bits 9218868437227405312).toNat = x % 2 ^ 52 := by
    have e3 : (~~~BitVec.ofInt IntKind.u64.bits 9218868437227405312).toNat = 2 ^ 63 ||| (2 ^ 52 - 1) := by decide
    rw [BitVec.toNat_and, e3, BitVec.ofInt_natCast, BitVec.toNat_ofNat]
    rw [show (2 : Nat) ^ IntKind.u64.bits = 18446744073709551616 by decide, Nat.mod_eq_of_lt (by omega), Nat.and_or_distrib_left, Nat.and_two_pow_sub_one_eq_mod, and_top h, Nat.zero_or]
  show IntKind.u64.wrap _ = _
  rw [e2]
  exact u64_wrap (by omega) (by omega)
theorem or_bits {f E : Nat} (hf : f < 2 ^ 52) (hE : E < 2 ^ 11) : bitI .or .u64 (f : Int) (((E * 2 ^ 52 : Nat)) : Int) = ((E * 2 ^ 52 + f : Nat) : Int) := by
  have e2 : (BitVec.ofInt IntKind.u64.bits (f : Int) ||| BitVec.ofInt IntKind.u64.bits ((E * 2 ^ 52 : Nat) : Int)).toNat = E * 2 ^ 52 + f := by
    rw [BitVec.toNat_or, BitVec.ofInt_natCast, BitVec.ofInt_natCast, BitVec.toNat_ofNat, BitVec.toNat_ofNat]
    rw [show (2 : Nat) ^ IntKind.u64.bits = 18446744073709551616 by decide, Nat.mod_eq_of_lt (by omega), Nat.mod_eq_of_lt (by omega), ← Nat.shiftLeft_eq, Nat.shiftLeft_add_eq_or_of_lt hf, Nat.or_comm]
  show IntKind.u64.wrap _ = _
  rw [e2]
  exact u64_wrap (by omega) (by omega)
theorem shr52 {x : Nat} (h : x < 2 ^ 63) : shrI .u64 (x : Int) 52 = ((x / 2 ^ 52 : Nat) : Int) := by
  unfold shrI
  rw [show min (52 : Int).toNat IntKind.u64.bits = 52 by decide]
  rw [show ((2 : Int) ^ 52) = ((2 ^ 52 : Nat) : Int) by decide]
  rw [Int.fdiv_eq_ediv_of_nonneg _ (by decide)]
  rfl
theorem shl52 {E : Nat} (hE : E < 2 ^ 11) : shlI .u64 (E : Int) 52 = ((E * 2 ^ 52 : Nat) : Int) := by
  unfold shlI
  rw [show min (52 : Int).toNat IntKind.u64.bits = 52 by decide]
  rw [← show ((E * 2 ^ 52 : Nat) : Int) = (E : Int) * 2 ^ 52 by rw [Int.natCast_mul, show ((2 ^ 52 : Nat) : Int) = (2 : Int) ^ 52 by decide]]
  exact u64_wrap (by omega) (by omega)
theorem mul_one64 {w m : Nat} {e : Int} (h : FloatKind.f64.format.read w = .number false m e) : FloatKind.f64.format.mul 4607182418800017408 w = some (FloatKind.f64.format.nearest false m e) := by
  rw [mul_row (by rw [read_one64, h, prod_number])]
  exact congrArg some (scale_eq _ _ 52 (by rw [Nat.mul_comm]) (by omega))
theorem read_z64 : FloatKind.f64.format.read 0 = .number false 0 (-1074) := by decide +kernel
theorem read_max64 : FloatKind.f64.format.read 9218868437227405311 = .number false (2 ^ 53 - 1) 971 := by decide +kernel
theorem read_min64 : FloatKind.f64.format.read 4503599627370496 = .number false (2 ^ 52) (-1074) := by decide +kernel
theorem twice_le {n : Nat} (h : 1 ≤ n) (m : Nat) : m * 2 ≤ m * 2 ^ n := Nat.mul_le_mul_left _ (Nat.pow_le_pow_right (n := 2) (by decide) h)
theorem ldexp_orders {s m : Nat} {e : Int} (hr : FloatKind.f64.format.read s = .number false m e) (hm1 : 2 ^ 52 ≤ m) (hm2 : m < 2 ^ 53) (he : e = -52 ∨ e = -51 ∨ e = -50) :
    FloatKind.f64.format.order s 0 = some .gt ∧ FloatKind.f64.format.order s 9218868437227405311 = some .lt ∧ FloatKind.f64.format.order s 4503599627370496 = some .gt := by
  refine ⟨order_gt hr read_z64 (-1074) (by omega) (by decide) ?_, order_lt hr read_max64 e (by omega) (by omega) ?_, order_gt hr read_min64 (-1074) (by omega) (by decide) ?_⟩
  · rw [Nat.zero_mul]
    exact Nat.mul_pos (by omega) (Nat.two_pow_pos _)
  · have h1 := twice_le (n := ((971 : Int) - e).toNat) (by omega) (2 ^ 53 - 1)
    rw [Int.sub_self, show (0 : Int).toNat = 0 by rfl, Nat.pow_zero, Nat.mul_one]
    omega
  · have h1 := twice_le (n := (e - -1074).toNat) (by omega) m
    rw [Int.sub_self, show (0 : Int).toNat = 0 by rfl, Nat.pow_zero, Nat.mul_one]
    omega
/-- The word that bits make. -/
theorem ldexp_word {s m F : Nat} {e k : Int} (hr : FloatKind.f64.format.read s = .number false m e) (hm1 : 2 ^ 52 ≤ m) (hm2 : m < 2 ^ 53) (he : e = -52 ∨ e = -51 ∨ e = -50) (h1 : -120 ≤ k) (h2 : k ≤ 120) (hs : s = (e + 1074).toNat * 2 ^ 52 + m) (hF : (F : Int) = k + (e + 1075)) :
    FloatKind.f64.format.mul 4607182418800017408 (F * 2 ^ 52 + s % 2 ^ 52) = some (fmul .f64 s (pow2 k)) := by
  have hsm : s % 2 ^ 52 = m - 2 ^ 52 := by omega
  have hq : F * 2 ^ 52 + s % 2 ^ 52 = (F - 1) * 2 ^ 52 + m := by
    rw [hsm, Nat.sub_mul]
    have : 1 * 2 ^ 52 ≤ F * 2 ^ 52 := Nat.mul_le_mul_right _ (by omega)
    omega
  obtain ⟨e1, e2, e3, e4⟩ := f64_consts
  have hlt : (F - 1) * 2 ^ 52 ≤ 1500 * 2 ^ 52 := Nat.mul_le_mul_right _ (by omega)
  have hread : FloatKind.f64.format.read (F * 2 ^ 52 + s % 2 ^ 52) = .number false m (e + k) := by
    have := read_rung0 FloatKind.f64.format false (k := m) (q := F - 1) (by rw [e3]; omega) (.inr (by rw [e3]; exact hm1)) (by rw [e3, e4]; omega)
    rw [word_false, e3, e2] at this
    rw [hq, this]
    congr 1
    omega
  have hl : m.log2 = 52 := by
    have a := (Nat.log2_lt (n := m) (k := 53) (by omega)).2 hm2
    have b := (Nat.le_log2 (n := m) (k := 52) (by omega)).2 hm1
    omega
  have hn : FloatKind.f64.format.nearest false m (e + k) = F * 2 ^ 52 + s % 2 ^ 52 := by
    rw [nearest_keep _ _ (by omega) (by rw [hl, e1, e2]; omega), word_false, e2, e3, e4, hq, show (e + k - -1074).toNat = F - 1 by omega]
    exact Nat.min_eq_left (Nat.le_trans (Nat.add_le_add hlt (Nat.le_of_lt hm2)) (by decide))
  rw [mul_one64 hread]
  unfold fmul
  rw [mul_pow2 hr (k := k) (by omega) (by omega), Option.getD_some, hn, number_cn hread]
theorem Ldexp_c {s : Nat} {k : Int} (hb : Btw s 0 2) (hs : s < 2 ^ 64) (q1 : -120 ≤ k) (q2 : k ≤ 120) : Ret prg f_math_Ldexp #[.float .f64 s, .int .i64 k] (.float .f64 (fmul .f64 s (pow2 k))) := fun h => by
  obtain ⟨m, e, hr, hm1, hm2, he, hw⟩ := btw_parts hb hs
  have hs63 : s < 2 ^ 63 := by omega
  have hnan : Sx.nan .f64 s = false := by unfold Sx.nan; rw [hr]; rfl
  have fs : FW .f64 s s := ⟨number_cn hr, hs⟩
  have habs : cn .f64 (s % 2 ^ 63) = s := by rw [Nat.mod_eq_of_lt hs63, number_cn hr]
  obtain ⟨o0, o1, o2⟩ := ldexp_orders hr hm1 hm2 he
  have absS : ∀ hh, CALL prg f_math_Abs #[.float .f64 s] (fun u h' => u = .float .f64 s ∧ Ext hh h') hh := fun hh => (abs64_c fs).go fun h' y x hy => by
    rw [habs] at hy
    rw [hy.eq hnan]; exact ⟨rfl, x⟩
  refine math_Ldexp.call (math_ldexp.call ?_)
  unfold math_ldexp.S
  rw [o0]
  refine br_f rfl (math_IsInf.call (br_t rfl (goX (absS _) fun h1 x1 => as_f ?_)))
  rw [o1]
  refine as_b (br_f rfl (math_IsNaN.call ?_))
  unfold math_IsNaN.S
  rw [ne_self, hnan]
  refine as_b (br_f rfl ?_)
  unfold math_ldexp.J5
  refine math_normalize.call (goX (absS _) fun h2 x2 => as_f ?_)
  rw [o2]
  refine br_f rfl (tup2 (as_f (as_i ((Float64bits_c s).go fun h3 x3 => as_i (nn (by decide) ?_)))))
  have hE : ∃ E : Nat, E = (e + 1075).toNat ∧ s / 2 ^ 52 = E ∧ E < 2048 ∧ 1023 ≤ E ∧ (E : Int) = e + 1075 := ⟨_, rfl, by omega, by omega, by omega, by omega⟩
  obtain ⟨E, hE0, hE1, hE2, hE3, hE4⟩ := hE
  rw [shr52 hs63, hE1, wrap64 (n := (E : Int)) (by omega) (by omega)]
  have hand : bitI .and .i64 (E : Int) 2047 = (E : Int) := by
    rcases he with he | he | he <;> (obtain rfl : E = _ := hE0; subst he; decide)
  rw [hand, wrap64 (n := k + 0) (by omega) (by omega), wrap64 (n := (E : Int) - 1023) (by omega) (by omega), wrap64 (n := k + 0 + ((E : Int) - 1023)) (by omega) (by omega)]
  refine brd (fun hc => by omega) fun _ => brd (fun hc => by omega) fun _ => brd (fun hc => by omega) fun _ => ?_
  unfold math_ldexp.J19
  refine nn (by decide) ?_
  rw [wrap64 (n := k + 0 + ((E : Int) - 1023) + 1023) (by omega) (by omega), u64_wrap (n := k + 0 + ((E : Int) - 1023) + 1023) (by omega) (by omega)]
  have hF : ∃ F : Nat, (F : Int) = k + 0 + ((E : Int) - 1023) + 1023 ∧ F < 2 ^ 11 := ⟨(k + 0 + ((E : Int) - 1023) + 1023).toNat, by omega, by omega⟩
  obtain ⟨F, hF1, hF2⟩ := hF
  rw [← hF1, shl52 hF2, low_bits hs63, or_bits (Nat.mod_lt _ (by decide)) hF2]
  refine (frombits64_c _).go fun h4 x4 => as_f ?_
  rw [Int.toNat_natCast]
  exact fopI (ldexp_word hr hm1 hm2 he q1 q2 hw (by omega)) ⟨rfl, ((x1.trans x2).trans x3).trans x4⟩
end Go.Sx
/- Tunings: cents, powers of two, frequencies, periods. -/
set_option linter.unusedVariables false
set_option linter.unusedSimpArgs false
namespace Go.Sx
open Go.Proofs Ieee
set_option maxRecDepth 100000
set_option maxHeartbeats 1000000

theorem cn_lt {k : FloatKind} {x : Nat} (h : x < 2 ^ k.format.width) : cn k x < 2 ^ k.format.width := by
  unfold cn
  split
  · exact qn_lt k
  · exact h
theorem fmul_fw (k : FloatKind) (a b : Nat) : FW k (fmul k a b) (fmul k a b) := by
  refine ⟨canon_canon _ _, cn_lt ?_⟩
  cases e : k.format.mul a b with
  | none => exact qn_lt k
  | some v => exact k.format.mul_lt e
theorem near_fw {k : FloatKind} {s : Bool} {m m' : Nat} {p p' : Int} (h : k.format.read (k.format.nearest s m p) = .number s m' p') : FW k (k.format.nearest s m p) (k.format.nearest s m p) := ⟨number_cn h, k.format.write_lt (.number s m p)⟩
theorem pow2_fw {k : Int} (h1 : -149 ≤ k) (h2 : k ≤ 200) : FW .f64 (pow2 k) (pow2 k) := near_fw (pow2_read h1 h2)
theorem flr_fw {w : Nat} (h : nan .f64 (flr w) = false) : FW .f64 (flr w) (flr w) := by
  refine ⟨?_, FloatKind.f64.format.write_lt _⟩
  unfold cn; rw [h, if_neg (by decide)]
theorem take14 : ∀ j, j < 14 → ms14.take (j + 1) = ms14.take j ++ [14 - j] := by decide
theorem twoS_snoc (y s : Nat) (l : List Nat) (m : Nat) : twoS y s (l ++ [m]) = fadd .f64 4607182418800017408 (fmul .f64 (fdiv .f64 y (FloatKind.f64.nearest ((m : Nat) : Int))) (twoS y s l)) := by
  simp only [twoS, List.foldl_append, List.foldl_cons, List.foldl_nil]
theorem c64one : FW .f64 4607182418800017408 4607182418800017408 := fw_c64 (by decide) (by decide)
theorem c64ln : FW .f64 4604418534313441775 4604418534313441775 := fw_c64 (by decide) (by decide)
theorem cM120 : FW .f32 3270508544 3270508544 := fw_c32 (by decide) (by decide)
theorem cP120 : FW .f32 1123024896 1123024896 := fw_c32 (by decide) (by decide)
abbrev S2 := Nat × Nat × Nat × Int
section
variable {h : Heap} {x a : Nat}
/-- The loop of TwoTo. -/
theorem two_loop {B : (S2 → Heap → Prop) → S2 → Heap → Prop} {k4 y5 : Nat} (hy : FW .f64 y5 (twoY a))
    (step : ∀ (N : S2 → Heap → Prop) (s : Nat) (m : Int), 1 ≤ m → m ≤ 14 → (FOP .f64 (FloatKind.f64.format.div y5 (FloatKind.f64.nearest m)) fun r8 => FOP .f64 (FloatKind.f64.format.mul r8 s) fun r9 => FOP .f64 (FloatKind.f64.format.add 4607182418800017408 r9) fun r10 => N (k4, y5, r10, IntKind.i64.wrap (m - 1)) h) → B N (k4, y5, s, m) h)
    (last : ∀ (N : S2 → Heap → Prop) (s : Nat), FW .f64 s (twoM a) → B N (k4, y5, s, 0) h) : LOOP B (k4, y5, 4607182418800017408, (14 : Int)) h := by
  refine loop (fun x hh => ∃ (j s : Nat), x = (k4, y5, s, ((14 - j : Nat) : Int)) ∧ j ≤ 14 ∧ FW .f64 s (twoS (twoY a) 4607182418800017408 (ms14.take j)) ∧ hh = h) (fun x => x.2.2.2.toNat) ⟨0, _, rfl, by omega, c64one, rfl⟩ ?_
  rintro x hh ⟨j, s, rfl, hj, hs, rfl⟩
  by_cases e : j = 14
  · subst e
    exact last _ s hs
  · refine step _ s _ (by omega) (by omega) (fD hy (fw_nearest .f64 _) fun r hr => fM hr hs fun r2 hr2 => fA c64one hr2 fun r3 hr3 => ?_)
    refine ⟨⟨j + 1, r3, by rw [wrap64 (by omega) (by omega)]; congr 3; omega, by omega, ?_, rfl⟩, by rw [wrap64 (by omega) (by omega)]; show (((14 - j : Nat) : Int) - 1).toNat < ((14 - j : Nat) : Int).toNat; omega⟩
    rw [take14 j (by omega), twoS_snoc]
    exact hr3
theorem l07Two_c (hx : FW .f32 x a) : CALL prg f_spec_l07Two #[.float .f32 x] (fun u h' => (∃ y, u = .tuple ⟨[.float .f32 y, .bool (inTwo a)]⟩ ∧ FW .f32 y (if inTwo a then twoTo a else 0)) ∧ Ext h h') h := by
  refine spec_l07Two.call ?_
  unfold spec_l07Two.S
  rw [ord_eq hx cM120, ord_eq hx cP120]
  have no : ∀ {b : Bool}, inTwo a = b → b = false → ((∃ y, Value.tuple ⟨[.float .f32 0, .bool false]⟩ = .tuple ⟨[.float .f32 y, .bool (inTwo a)]⟩ ∧ FW .f32 y (if inTwo a then twoTo a else 0)) ∧ Ext h h) := fun e1 e2 => by
    subst e1; rw [e2]; exact ⟨⟨0, rfl, fw0⟩, Ext.refl _⟩
  refine br (fun k1 => brN (fun k2 => no (by rw [inTwo, inside, fge, fle, k1, k2]; rfl) rfl) fun k2 => ?_) fun k1 => no (by rw [inTwo, inside, fge, k1]; rfl) rfl
  have hin : inTwo a = true := by rw [inTwo, inside, fge, fle, k1, k2]; rfl
  obtain ⟨f1, f2, f3, f4, f5, f6, f7⟩ := two_facts hin
  rw [hin, if_pos rfl]
  have fin : ∀ {hh : Heap} {y : Nat}, FW .f32 y (nar (fmul .f64 (twoM a) (pow2 (twoK a)))) → Ext h hh → ((∃ y', Value.tuple ⟨[.float .f32 y, .bool true]⟩ = .tuple ⟨[.float .f32 y', .bool true]⟩ ∧ FW .f32 y' (twoTo a)) ∧ Ext h hh) := fun hy X => ⟨⟨_, rfl, hy⟩, X⟩
  unfold spec_l07Two.J3
  refine ffc_wide hx fun r1 hr1 => ?_
  obtain rfl := hr1.eq f4
  refine goX (Floor_c f4 h) fun h2 x2 => as_f (ffc_wide hx fun r5 hr5 => fS hr5 (flr_fw f5) fun r6 hr6 => fM hr6 c64ln fun r7 hr7 => ?_)
  refine two_loop (a := a) hr7 (fun N s m m1 m2 H => brd (fun _ => H) fun hc => by omega) fun N s hs => ?_
  unfold spec_l07Two.B7
  refine brd (fun hc => by omega) fun _ => ?_
  refine ficI f1 (by omega) (by omega) ((l07Power_c (by omega) (by omega)).go fun h3 x3 => as_f ?_)
  refine fM hs (pow2_fw (by omega) (by omega)) fun r8 hr8 => ?_
  refine ffc_nar hr8 f7 fun r9 hr9 => ?_
  exact fin hr9 (x2.trans x3)
theorem TwoTo_c (hx : FW .f32 x a) : CALL prg f_impl_TwoTo #[.float .f32 x] (fun u h' => (∃ y, u = .tuple ⟨[.float .f32 y, .int .i64 (if inTwo a then 0 else 2)]⟩ ∧ FW .f32 y (if inTwo a then twoTo a else 0)) ∧ Ext h h') h := by
  refine impl_TwoTo.call (goX (inside_c hx cM120 cP120 h) fun h1 x1 => as_b (brN (fun k => ?_) fun k => ?_))
  · have hin : inTwo a = false := k
    rw [hin]; exact ⟨⟨0, rfl, fw0⟩, x1⟩
  have hin : inTwo a = true := k
  obtain ⟨f1, f2, f3, f4, f5, f6, f7⟩ := two_facts hin
  rw [hin, if_pos rfl, if_pos rfl]
  have fin : ∀ {hh : Heap} {y : Nat}, FW .f32 y (nar (fmul .f64 (twoM a) (pow2 (twoK a)))) → Ext h hh → ((∃ y', Value.tuple ⟨[.float .f32 y, .int .i64 (0 : Int)]⟩ = .tuple ⟨[.float .f32 y', .int .i64 (0 : Int)]⟩ ∧ FW .f32 y' (twoTo a)) ∧ Ext h hh) := fun hy X => ⟨⟨_, rfl, hy⟩, X⟩
  refine ffc_wide hx fun r1 hr1 => ?_
  obtain rfl := hr1.eq f4
  refine goX (Floor_c f4 h1) fun h2 x2 => as_f (ffc_wide hx fun r5 hr5 => fS hr5 (flr_fw f5) fun r6 hr6 => fM hr6 c64ln fun r7 hr7 => ?_)
  refine two_loop (a := a) hr7 (fun N s m m1 m2 H => brd (fun _ => H) fun hc => by omega) fun N s hs => ?_
  unfold impl_TwoTo.B7
  refine brd (fun hc => by omega) fun _ => ?_
  obtain ⟨mm, ee, hrd, _⟩ := f6
  have hnn : nan .f64 (twoM a) = false := by unfold Sx.nan; rw [hrd]; rfl
  have hse := hs.eq hnn
  subst hse
  obtain ⟨f1, f2, f3, f4, f5, f6, f7⟩ := two_facts hin
  refine ficI f1 (by omega) (by omega) ((Ldexp_c f6 hs.2 (by omega) (by omega)).go fun h3 x3 => as_f ?_)
  refine ffc_nar (fmul_fw _ _ _) f7 fun r9 hr9 => ?_
  exact fin hr9 (x1.trans (x2.trans x3))
end
theorem floor_div {k n : Int} (hn : 0 < n) : (Int.tmod k n < 0 → Int.tdiv k n - 1 = k / n) ∧ (¬ Int.tmod k n < 0 → Int.tdiv k n = k / n) ∧ -n < Int.tmod k n ∧ Int.tmod k n < n ∧ (Int.tmod k n = k % n ∨ Int.tmod k n = k % n - n) := by
  rcases Int.lt_or_le k 0 with h | h
  · obtain ⟨j, rfl⟩ : ∃ j, k = -j := ⟨-k, by omega⟩
    rw [Int.neg_tmod, Int.neg_tdiv, Int.tmod_eq_emod_of_nonneg (by omega), Int.tdiv_eq_ediv_of_nonneg (by omega)]
    have h1 := Int.emod_nonneg j (show n ≠ 0 by omega)
    have h2 := Int.emod_lt_of_pos j hn
    have h3 := Int.emod_add_mul_ediv j n
    by_cases h0 : j % n = 0
    · have := (Int.ediv_emod_unique hn (a := -j) (r := 0) (q := -(j / n))).2 ⟨by rw [Int.mul_neg]; omega, by omega, hn⟩
      rw [this.1, this.2]
      omega
    · have := (Int.ediv_emod_unique hn (a := -j) (r := n - j % n) (q := -(j / n) - 1)).2 ⟨by rw [Int.mul_sub, Int.mul_neg]; omega, by omega, by omega⟩
      rw [this.1, this.2]
      omega
  · rw [Int.tmod_eq_emod_of_nonneg h, Int.tdiv_eq_ediv_of_nonneg h]
    have h1 := Int.emod_nonneg k (show n ≠ 0 by omega)
    have h2 := Int.emod_lt_of_pos k hn
    omega
theorem tmod_fix {k n : Int} (hn : 0 < n) : Int.tmod (Int.tmod k n + n) n = k % n := by
  obtain ⟨_, _, h1, h2, h3⟩ := floor_div (k := k) hn
  rw [Int.tmod_eq_emod_of_nonneg (by omega)]
  rcases h3 with h3 | h3
  · rw [h3, Int.add_emod_right, Int.emod_emod_of_dvd _ (Int.dvd_refl n)]
  · rw [h3, Int.sub_add_cancel, Int.emod_emod_of_dvd _ (Int.dvd_refl n)]
theorem tdiv_fix {k n : Int} (hn : 0 < n) : Int.tdiv (k - k % n) n = k / n := by
  have h3 := Int.emod_add_mul_ediv k n
  rw [show k - k % n = n * (k / n) by omega, Int.mul_tdiv_cancel_left _ (by omega)]
theorem div_bounds {k n : Int} (hn : 0 < n) (h1 : -100 ≤ k) (h2 : k ≤ 100) : -101 ≤ k / n ∧ k / n ≤ 100 := by
  constructor
  · exact (Int.le_ediv_iff_mul_le hn).2 (by omega)
  · have := (Int.ediv_lt_iff_lt_mul hn (a := k) (b := 101)).2 (by omega)
    omega
end Go.Sx
