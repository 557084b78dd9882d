/- Sound files, plainly: a file read gives back what was written; one cut off gives what is there; one byte changed is found. -/
import Derived.Test.YtjoajnmhdobbfaaLc8
import Derived.Test.YtjoajnmhdobbfaaLf5
namespace Go.Sx
set_option maxRecDepth 100000
open Go.Proofs Ieee
set_option linter.unusedVariables false

theorem shortR_bound {r : Nat} (h0 : nan .f64 r = false) : -32768 ≤ shortR r ∧ shortR r ≤ 32767 := by
  unfold shortR
  split
  · omega
  · next h1 =>
    split
    · omega
    · next h2 =>
      have h0' : (FloatKind.f64.format.read r).isNaN = false := h0
      obtain ⟨o1, o2⟩ := order_rows
      unfold FloatKind.decode
      cases e : FloatKind.f64.format.read r with
      | nan s t => rw [e] at h0'; cases h0'
      | infinity s =>
        exfalso
        cases s
        · exact h1 (by rw [order_read e o1]; rfl)
        · exact h2 (by rw [order_read e o2]; rfl)
      | number s m p =>
        rw [toInt_number, Option.getD_some]
        rw [order_read e o1, order_number] at h1
        rw [order_read e o2, order_number] at h2
        cases s
        · have h3 := compare_ne_gt (fun e => h1 (by rw [e]))
          rw [signed_f, signed_f] at h3
          have h4 := le_cut (s := false) (m := m) (e := p) (n := 32767 * 2 ^ 38) (N := 32767) (j := -38) (by decide) (Eq.refl _) (by exact_mod_cast h3)
          rw [signed_f, Nat.pow_zero, Nat.mul_one]
          omega
        · have h3 := compare_ne_lt (fun e => h2 (by rw [e]))
          rw [signed_t, signed_t] at h3
          have h5 : m * 2 ^ (p - min p (-37)).toNat ≤ 2 ^ 52 * 2 ^ (-37 - min p (-37)).toNat := by
            generalize m * 2 ^ (p - min p (-37)).toNat = x at h3 ⊢
            generalize 2 ^ 52 * 2 ^ (-37 - min p (-37)).toNat = y at h3 ⊢
            omega
          have h4 := le_cut (s := true) (m := m) (e := p) (n := 2 ^ 52) (N := 32768) (j := -37) (by decide) (by decide) h5
          rw [signed_t, Nat.pow_zero, Nat.mul_one]
          omega
theorem shortOf_bound (a : Nat) : -32768 ≤ shortOf a ∧ shortOf a ≤ 32767 := by
  unfold shortOf
  split
  · omega
  · next h => exact shortR_bound (rte_not_nan (mulD_some (wide_not_nan (by simpa using h))).2)
def fromS (v : Int) : Nat := (FloatKind.f32.format.div (FloatKind.f32.nearest v) 1191182336).getD (qn .f32)
theorem fromS_eq {v : Int} (h0 : v ≠ 0) (h1 : -32768 ≤ v) (h2 : v ≤ 32767) : fromS v = FloatKind.f32.format.nearest (decide (v < 0)) v.natAbs (-15) := by
  have e : FloatKind.f32.nearest v = FloatKind.f32.format.nearest (decide (v < 0)) v.natAbs 0 := rfl
  unfold fromS
  rw [e, show (1191182336 : Nat) = c15s from rfl, div_number _ (by omega) (by omega), Option.getD_some]
theorem fromS_nan {v : Int} (h1 : -32768 ≤ v) (h2 : v ≤ 32767) : nan .f32 (fromS v) = false := by
  by_cases h0 : v = 0
  · subst h0; decide +kernel
  · rw [fromS_eq h0 h1 h2]
    exact enc_not_nan .f32 (d := .number (decide (v < 0)) v.natAbs (-15)) rfl
theorem short_back {v : Int} (h1 : -32768 ≤ v) (h2 : v ≤ 32767) : shortOf (fromS v) = v := by
  by_cases h0 : v = 0
  · subst h0; decide +kernel
  · have hn := fromS_nan h1 h2
    unfold shortOf
    rw [hn]
    rw [fromS_eq h0 h1 h2, wide_number _ (by omega) (by omega) (by omega) (by omega), mulD_number _ (by omega) (by omega) (by omega) (by omega)]
    rw [show (-15 : Int) + 15 = 0 from rfl, rte_whole _ (by omega) (by omega)]
    rw [if_neg (by decide), shortR_whole _ (by omega) (by omega) (by intro h; have := of_decide_eq_false h; omega)]
    by_cases hv : v < 0
    · rw [decide_eq_true hv, if_pos rfl]; omega
    · rw [decide_eq_false hv, if_neg (by decide)]; omega
/-- A sample, written and read. -/
def deco (k : Int) (a : Nat) : Nat := if k = 1 then cn .f32 (fromS (shortOf a)) else cn .f32 a
theorem enc_deco {k : Int} (a : Nat) : encOf k (deco k a) = encOf k a := by
  unfold deco
  split
  · next h =>
    subst h
    rw [encOf_cn]
    unfold encOf
    rw [if_pos rfl, if_pos rfl, short_back (shortOf_bound a).1 (shortOf_bound a).2]
  · exact encOf_cn k a
theorem flat_deco {k : Int} (fs : List Nat) : (fs.map (deco k)).flatMap (encOf k) = fs.flatMap (encOf k) := by
  induction fs with
  | nil => rfl
  | cons a fs ih => simp only [List.map_cons, List.flatMap_cons, ih, enc_deco]
theorem file_deco (k rate : Int) (fs : List Nat) : fileOf k rate (fs.map (deco k)) = fileOf k rate fs := by
  unfold fileOf bodyOf
  rw [flat_deco, List.length_map]
theorem le_lb : ∀ (k : Nat) (n : Int), 0 ≤ n → n < 256 ^ k → le (lb n k) = n
  | 0, n, h1, h2 => by simp at h2; simp [lb, le]; omega
  | k + 1, n, h1, h2 => by
    have h3 : n / 256 < 256 ^ k := by
      have : (256 : Int) ^ (k + 1) = 256 ^ k * 256 := by rw [Int.pow_succ]
      rw [this] at h2
      omega
    have ih := le_lb k (n / 256) (by omega) h3
    show le (lb (n / 256) k) * 256 + n % 256 = n
    rw [ih]; omega
theorem le4_lb {n : Int} (h1 : 0 ≤ n) (h2 : n < 4294967296) : le (lb n 4) = n := le_lb 4 n h1 (by simpa using h2)
theorem wrapu16 (n : Int) : IntKind.u16.wrap n = n % 65536 := by
  simp only [IntKind.wrap, IntKind.signed, IntKind.bits, Bool.false_and, Bool.false_eq_true, if_false]
  rfl
theorem wrap16 {n : Int} (h1 : -32768 ≤ n) (h2 : n ≤ 32767) : IntKind.i16.wrap (n % 65536) = n := by
  have e1 : (2 : Int) ^ 16 = 65536 := by decide
  have e2 : (2 : Int) ^ (16 - 1) = 32768 := by decide
  simp only [IntKind.wrap, IntKind.signed, IntKind.bits, Bool.true_and, e1, e2]
  split
  · next h => have := of_decide_eq_true h; omega
  · next h =>
    have : ¬ (32768 ≤ n % 65536 % 65536) := by simpa using h
    omega
theorem sample_enc {k : Int} (hk : inR k 1 2 = true) {a : Nat} (ha : a < 4294967296) (r : List Int) : sampleOf k (encOf k a ++ r) = deco k a := by
  have hk' : k = 1 ∨ k = 2 := by unfold inR at hk; simp at hk; omega
  unfold sampleOf deco encOf
  rcases hk' with rfl | rfl
  · have hs := shortOf_bound a
    simp only [if_pos]
    have e : (lb (IntKind.u16.wrap (shortOf a)) 2 ++ r).take 2 = lb (IntKind.u16.wrap (shortOf a)) 2 := List.take_left' (lb_len _ _)
    rw [e, le_lb 2 _ (by rw [wrapu16]; omega) (by rw [wrapu16]; show _ < (65536 : Int); omega), wrapu16, wrap16 hs.1 hs.2]
    rfl
  · have e1 : ¬ ((2 : Int) = 1) := by decide
    rw [if_neg e1, if_neg e1, if_neg e1]
    have e : (lb (bits32 a) 4 ++ r).take 4 = lb (bits32 a) 4 := List.take_left' (lb_len _ _)
    have hc : cn .f32 a < 4294967296 := by
      unfold cn
      split
      · show 2143289344 < 4294967296; omega
      · exact ha
    rw [e, le4_lb (bits_nonneg a) (by rw [bits_cn]; omega), bits_cn, Int.toNat_natCast, canon_canon]
theorem samples_enc {k : Int} (hk : inR k 1 2 = true) : ∀ (fs : List Nat), (∀ a ∈ fs, a < 4294967296) → ∀ r : List Int, samples k fs.length (fs.flatMap (encOf k) ++ r) = fs.map (deco k)
  | [], _, r => rfl
  | a :: fs, h, r => by
    have hl := enc_len' hk a
    rw [List.flatMap_cons, List.append_assoc, List.length_cons, samples, if_pos (by rw [List.length_append]; omega), sample_enc hk (h a (.head _)), ← hl, List.drop_left, samples_enc hk fs (fun a ha => h a (.tail _ ha)) r]
    rfl
/-- The file's head, told byte by byte. -/
theorem file_head {k rate : Int} (hk : inR k 1 2 = true) (fs : List Nat) : ∃ r0 r1 r2 r3 c0 c1 c2 c3, lb rate 4 = [r0, r1, r2, r3] ∧ lb fs.length 4 = [c0, c1, c2, c3] ∧
    fileOf k rate fs = 83 :: 80 :: 70 :: k :: r0 :: r1 :: r2 :: r3 :: c0 :: c1 :: c2 :: c3 :: (fs.flatMap (encOf k) ++ lb (sumOf (bodyOf k rate fs)) 4) := by
  have hk' : k % 256 = k := by unfold inR at hk; simp at hk; omega
  refine ⟨_, _, _, _, _, _, _, _, rfl, rfl, ?_⟩
  unfold fileOf
  conv => lhs; lhs; unfold bodyOf
  rw [hk']
  simp [lb]
structure Rd (k rate : Int) (fs : List Nat) : Prop where
  k : inR k 1 2 = true
  r : inR rate 1 1000000 = true
  n : fs.length ≤ 4096
  a : ∀ a ∈ fs, a < 4294967296
section
variable {k rate : Int} {fs : List Nat}
/-- The head of a file, of which the rest may be another one. -/
theorem head_ok (H : Rd k rate fs) (rest : List Int) {r0 r1 r2 r3 c0 c1 c2 c3 : Int} (e1 : lb rate 4 = [r0, r1, r2, r3]) (e2 : lb fs.length 4 = [c0, c1, c2, c3]) :
    okHead (83 :: 80 :: 70 :: k :: r0 :: r1 :: r2 :: r3 :: c0 :: c1 :: c2 :: c3 :: rest) = true ∧ kindOf (83 :: 80 :: 70 :: k :: r0 :: r1 :: r2 :: r3 :: c0 :: c1 :: c2 :: c3 :: rest) = k ∧
    rateOf (83 :: 80 :: 70 :: k :: r0 :: r1 :: r2 :: r3 :: c0 :: c1 :: c2 :: c3 :: rest) = rate ∧ countOf (83 :: 80 :: 70 :: k :: r0 :: r1 :: r2 :: r3 :: c0 :: c1 :: c2 :: c3 :: rest) = fs.length := by
  obtain ⟨hk, hr, hn, ha⟩ := H
  have hr2 : 1 ≤ rate ∧ rate ≤ 1000000 := by unfold inR at hr; simpa using hr
  have k1 : kindOf (83 :: 80 :: 70 :: k :: r0 :: r1 :: r2 :: r3 :: c0 :: c1 :: c2 :: c3 :: rest) = k := rfl
  have k2 : rateOf (83 :: 80 :: 70 :: k :: r0 :: r1 :: r2 :: r3 :: c0 :: c1 :: c2 :: c3 :: rest) = rate := by
    show le [r0, r1, r2, r3] = rate
    rw [← e1, le4_lb (by omega) (by omega)]
  have k3 : countOf (83 :: 80 :: 70 :: k :: r0 :: r1 :: r2 :: r3 :: c0 :: c1 :: c2 :: c3 :: rest) = fs.length := by
    show le [c0, c1, c2, c3] = fs.length
    rw [← e2, le4_lb (by omega) (by omega)]
  refine ⟨?_, k1, k2, k3⟩
  unfold okHead
  rw [k1, k2, k3, hk, hr]
  simp
  omega
theorem read_file (H : Rd k rate fs) : readFile (fileOf k rate fs) = (k, rate, fs.map (deco k), 0) := by
  have hl := file_len' H.k rate fs
  have hw := width_two H.k
  obtain ⟨r0, r1, r2, r3, c0, c1, c2, c3, e1, e2, e⟩ := file_head (rate := rate) H.k fs
  obtain ⟨o1, o2, o3, o4⟩ := head_ok H (fs.flatMap (encOf k) ++ lb (sumOf (bodyOf k rate fs)) 4) e1 e2
  rw [← e] at o1 o2 o3 o4
  have hs : samples k fs.length ((fileOf k rate fs).drop 12) = fs.map (deco k) := by
    rw [e]
    exact samples_enc H.k fs H.a _
  have hn := H.n
  have hlen : ((fileOf k rate fs).length : Int) = 16 + fs.length * width k := by rcases hw with h | h <;> rw [hl, h] <;> simp
  unfold readFile
  rw [if_neg (by rcases hw with h | h <;> rw [hl, h] <;> simp <;> omega), if_neg (by rw [o1]; decide), o2, o3, o4, if_neg (by rw [hlen]; exact fun h => h rfl), Int.toNat_natCast, hs, file_deco, if_neg (fun h => h rfl), if_neg (fun h => h rfl)]
theorem samples_cut {k : Int} (hk : inR k 1 2 = true) : ∀ (n m : Nat) (ys : List Int), ys.length / (width k).toNat ≤ m → samples k n ys = samples k (min n m) ys
  | 0, m, ys, h => by simp [samples]
  | n + 1, m, ys, h => by
    have hw := width_two hk
    have hw2 : 0 < (width k).toNat := by rcases hw with h | h <;> rw [h] <;> decide
    by_cases h1 : (width k).toNat ≤ ys.length
    · have : 1 ≤ m := by
        have := Nat.div_pos h1 hw2
        omega
      obtain ⟨m, rfl⟩ := Nat.exists_eq_succ_of_ne_zero (show m ≠ 0 by omega)
      have e := samples_cut hk n m (ys.drop (width k).toNat) (by
        rw [List.length_drop]
        have := Nat.div_eq_sub_div hw2 h1
        omega)
      rw [Nat.succ_eq_add_one, show min (n + 1) (m + 1) = min n m + 1 by omega, samples, samples, if_pos h1, if_pos h1, e]
    · rw [samples, if_neg h1]
      cases h2 : min (n + 1) m with
      | zero => rfl
      | succ q => rw [samples, if_neg h1]
theorem torn_cut (H : Rd 2 rate fs) {j : Nat} (hj : 12 + j ≤ (fileOf 2 rate fs).length) : torn ((fileOf 2 rate fs).take (12 + j)) = ((fs.take (min (j / 4) fs.length)).map (cn .f32), 0) := by
  have hl := file_len' H.k rate fs
  have hn := H.n
  have hw : (width 2).toNat = 4 := by decide
  rw [hw] at hl
  obtain ⟨r0, r1, r2, r3, c0, c1, c2, c3, e1, e2, e⟩ := file_head (rate := rate) H.k fs
  have et : (fileOf 2 rate fs).take (12 + j) = 83 :: 80 :: 70 :: 2 :: r0 :: r1 :: r2 :: r3 :: c0 :: c1 :: c2 :: c3 :: (fs.flatMap (encOf 2) ++ lb (sumOf (bodyOf 2 rate fs)) 4).take j := by
    rw [e, Nat.add_comm]; rfl
  obtain ⟨o1, o2, o3, o4⟩ := head_ok H ((fs.flatMap (encOf 2) ++ lb (sumOf (bodyOf 2 rate fs)) 4).take j) e1 e2
  rw [← et] at o1 o2 o3 o4
  have hlen : ((fileOf 2 rate fs).take (12 + j)).length = 12 + j := by rw [List.length_take]; omega
  unfold torn
  rw [if_neg (by omega), if_pos o1, o2, o4, Int.toNat_natCast]
  have ed : ((fileOf 2 rate fs).take (12 + j)).drop 12 = (fs.flatMap (encOf 2) ++ lb (sumOf (bodyOf 2 rate fs)) 4).take j := by rw [et]; rfl
  rw [ed]
  have hfl := flat_len' (k := 2) (by decide) fs
  rw [hw] at hfl
  have hrl : (fs.flatMap (encOf 2) ++ lb (sumOf (bodyOf 2 rate fs)) 4).length = fs.length * 4 + 4 := by rw [List.length_append, hfl, lb_len]
  rw [samples_cut (by decide) fs.length (j / 4) _ (by rw [List.length_take, hw]; exact Nat.div_le_div_right (Nat.min_le_left _ _))]
  generalize hm : min fs.length (j / 4) = m
  have hm' : min (j / 4) fs.length = m := by omega
  rw [hm', samples_take (by decide) (by rw [hw]; omega) (by omega)]
  have es : fs = fs.take m ++ fs.drop m := (List.take_append_drop _ _).symm
  have ef : fs.flatMap (encOf 2) ++ lb (sumOf (bodyOf 2 rate fs)) 4 = (fs.take m).flatMap (encOf 2) ++ ((fs.drop m).flatMap (encOf 2) ++ lb (sumOf (bodyOf 2 rate fs)) 4) := by
    conv => lhs; lhs; rw [es, List.flatMap_append]
    rw [List.append_assoc]
  have hml : (fs.take m).length = m := by rw [List.length_take]; omega
  have := samples_enc (k := 2) (by decide) (fs.take m) (fun a ha => H.a a (List.mem_of_mem_take ha)) ((fs.drop m).flatMap (encOf 2) ++ lb (sumOf (bodyOf 2 rate fs)) 4)
  rw [hml] at this
  rw [ef, this]
  congr 1
end
theorem xor32 (x y : Int) : bitI .xor .u32 x y = ((BitVec.ofInt 32 x ^^^ BitVec.ofInt 32 y).toNat : Int) := by
  simp only [bitI]
  have := (BitVec.ofInt 32 x ^^^ BitVec.ofInt 32 y).isLt
  exact wrapu rfl (by omega) (by show _ < (4294967296 : Int); have : (BitVec.ofInt IntKind.u32.bits x ^^^ BitVec.ofInt IntKind.u32.bits y).toNat < 4294967296 := this; omega)
theorem wrapu32 (n : Int) : IntKind.u32.wrap n = n % 4294967296 := by
  simp only [IntKind.wrap, IntKind.signed, IntKind.bits, Bool.false_and, Bool.false_eq_true, if_false]
  rfl
theorem odd1 {x y : Int} (h : x * 16777619 % 4294967296 = y * 16777619 % 4294967296) : (x - y) * 16777619 % 4294967296 = 0 := by
  have h2 := Int.emod_eq_emod_iff_emod_sub_eq_zero.1 h
  rw [← Int.sub_mul] at h2
  exact h2
theorem odd2 {d t : Int} (ht : d * 16777619 = 4294967296 * t) : d = 4294967296 * (t * 899433627 - d * 3513497) := by
  have e : d * 16777619 * 899433627 = d * (1 + 4294967296 * 3513497) := by rw [Int.mul_assoc]; rfl
  rw [ht, Int.mul_add, Int.mul_one] at e
  rw [Int.mul_sub, ← Int.mul_assoc 4294967296 t, e, ← Int.mul_assoc 4294967296 d, Int.mul_comm 4294967296 d, Int.mul_assoc d]
  omega
theorem odd3 {x y d s : Int} (hx : 0 ≤ x ∧ x < 4294967296) (hy : 0 ≤ y ∧ y < 4294967296) (hd : x - y = d) (h5 : d = 4294967296 * s) : x = y := by omega
theorem odd_inj {x y : Int} (hx : 0 ≤ x ∧ x < 4294967296) (hy : 0 ≤ y ∧ y < 4294967296) (h : x * 16777619 % 4294967296 = y * 16777619 % 4294967296) : x = y :=
  (Int.dvd_of_emod_eq_zero (odd1 h)).elim fun _ ht => odd3 hx hy rfl (odd2 ht)
theorem bv_lt (a : BitVec 32) : 0 ≤ (a.toNat : Int) ∧ (a.toNat : Int) < 4294967296 := by
  have : a.toNat < 4294967296 := a.isLt
  omega
theorem mix_inj {a b c d : Int} (h : mix a b = mix c d) : BitVec.ofInt 32 a ^^^ BitVec.ofInt 32 b = BitVec.ofInt 32 c ^^^ BitVec.ofInt 32 d := by
  have e : ∀ a b : Int, mix a b = ((BitVec.ofInt 32 a ^^^ BitVec.ofInt 32 b).toNat : Int) * 16777619 % 4294967296 := fun a b => by
    unfold mix
    rw [xor32, wrapu32]
  rw [e, e] at h
  have := odd_inj (bv_lt _) (bv_lt _) h
  exact BitVec.eq_of_toNat_eq (Int.ofNat.inj this)
theorem ofInt_inj {a b : Int} (ha : 0 ≤ a ∧ a < 4294967296) (hb : 0 ≤ b ∧ b < 4294967296) (h : BitVec.ofInt 32 a = BitVec.ofInt 32 b) : a = b := by
  have := congrArg BitVec.toNat h
  rw [BitVec.toNat_ofInt, BitVec.toNat_ofInt] at this
  omega
theorem xor_right {a b c : BitVec 32} (h : a ^^^ b = c ^^^ b) : a = c := by
  have := congrArg (· ^^^ b) h
  simpa [BitVec.xor_assoc] using this
theorem xor_left {a b c : BitVec 32} (h : a ^^^ b = a ^^^ c) : b = c := by
  rw [BitVec.xor_comm a b, BitVec.xor_comm a c] at h
  exact xor_right h
def U32 (x : Int) : Prop := 0 ≤ x ∧ x < 4294967296
theorem fold_inj : ∀ (xs : List Int) {c d : Int}, U32 c → U32 d → xs.foldl (fun c x => mix c (IntKind.u32.wrap x)) c = xs.foldl (fun c x => mix c (IntKind.u32.wrap x)) d → c = d
  | [], c, d, hc, hd, h => h
  | x :: xs, c, d, hc, hd, h => ofInt_inj hc hd (xor_right (mix_inj (fold_inj xs (mix_bound _ _) (mix_bound _ _) h)))
/-- Another byte at one place: another check. -/
theorem sum_ne {xs : List Int} {p : Nat} (hp : p < xs.length) {v : Int} (hv : 0 ≤ v ∧ v < 256) (hb : Byt xs) (hne : v ≠ xs[p]) : sumOf (xs.set p v) ≠ sumOf xs := by
  intro h
  have e1 : xs = xs.take p ++ (xs[p] :: xs.drop (p + 1)) := by rw [← List.drop_eq_getElem_cons hp, List.take_append_drop]
  have e2 : xs.set p v = xs.take p ++ (v :: xs.drop (p + 1)) := by rw [List.set_eq_take_append_cons_drop, if_pos hp]
  have hx := hb.at hp
  rw [e2] at h
  conv at h => rhs; rw [e1]
  unfold sumOf at h
  rw [List.foldl_append, List.foldl_append, List.foldl_cons, List.foldl_cons] at h
  have h2 := mix_inj (fold_inj _ (mix_bound _ _) (mix_bound _ _) h)
  have h3 := xor_left h2
  rw [wrapu32, wrapu32] at h3
  have := ofInt_inj (by omega) (by omega) h3
  omega
theorem lb4_inj {a b : Int} (ha : U32 a) (hb : U32 b) (h : lb a 4 = lb b 4) : a = b := by
  have := congrArg le h
  rwa [le4_lb ha.1 ha.2, le4_lb hb.1 hb.2] at this
theorem body_last (k rate : Int) (fs : List Nat) : (fileOf k rate fs).take ((fileOf k rate fs).length - 4) = bodyOf k rate fs ∧ (fileOf k rate fs).drop ((fileOf k rate fs).length - 4) = lb (sumOf (bodyOf k rate fs)) 4 := by
  have e : (fileOf k rate fs).length - 4 = (bodyOf k rate fs).length := by unfold fileOf; rw [List.length_append, lb_len]; omega
  rw [e]
  unfold fileOf
  exact ⟨List.take_left, List.drop_left⟩
theorem bad_file {k rate : Int} {fs : List Nat} (hn : (fileOf k rate fs).length ≤ 16400) {p : Nat} (hp : p < (fileOf k rate fs).length) {v : Int} (hv : 0 ≤ v ∧ v < 256) (hne : v ≠ (fileOf k rate fs)[p]) :
    (readFile ((fileOf k rate fs).set p v)).2.2.2 = 5 ∨ (readFile ((fileOf k rate fs).set p v)).2.2.2 = 8 := by
  have hb := file_byt k rate fs
  obtain ⟨t1, t2⟩ := body_last k rate fs
  have hlb : (bodyOf k rate fs).length = (fileOf k rate fs).length - 4 := by unfold fileOf; rw [List.length_append, lb_len]; omega
  have hl4 : 4 ≤ (fileOf k rate fs).length := by unfold fileOf; rw [List.length_append, lb_len]; omega
  generalize hxs : fileOf k rate fs = xs at *
  unfold readFile
  rw [if_neg (by rw [List.length_set]; omega)]
  split
  · exact .inl rfl
  split
  · exact .inl rfl
  split
  · exact .inl rfl
  split
  · exact .inr rfl
  next h1 h2 h3 h4 =>
  exfalso
  have h4 : fileOf _ _ _ = xs.set p v := Decidable.not_not.1 h4
  obtain ⟨s1, s2⟩ := body_last (kindOf (xs.set p v)) (rateOf (xs.set p v)) (samples (kindOf (xs.set p v)) (countOf (xs.set p v)).toNat ((xs.set p v).drop 12))
  rw [h4, List.length_set] at s1 s2
  rw [← s1] at s2
  rw [← t1] at t2
  by_cases hc : p < xs.length - 4
  · have e1 : (xs.set p v).take (xs.length - 4) = (xs.take (xs.length - 4)).set p v := List.take_set ..
    have e2 : (xs.set p v).drop (xs.length - 4) = xs.drop (xs.length - 4) := List.drop_set_of_lt hc
    rw [e1, e2, t2] at s2
    have hlt : p < (xs.take (xs.length - 4)).length := by rw [List.length_take]; omega
    exact sum_ne hlt hv (hb.take _) (by rw [List.getElem_take]; exact hne) (lb4_inj (sum_bound _) (sum_bound _) s2).symm
  · have e1 : (xs.set p v).take (xs.length - 4) = xs.take (xs.length - 4) := List.take_set_of_le (by omega)
    rw [e1, ← t2] at s2
    have e3 := congrArg (fun l => l[p - (xs.length - 4)]?) s2
    simp only [List.getElem?_drop] at e3
    rw [show xs.length - 4 + (p - (xs.length - 4)) = p by omega, List.getElem?_set_self hp, List.getElem?_eq_getElem hp] at e3
    exact hne (by simpa using e3)
end Go.Sx
