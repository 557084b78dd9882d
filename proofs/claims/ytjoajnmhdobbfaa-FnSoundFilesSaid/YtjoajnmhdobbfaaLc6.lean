/- MakeSoundFile: what it computes. -/
import Derived.Test.YtjoajnmhdobbfaaLf4
import Derived.Test.YtjoajnmhdobbfaaLc5
import Derived.Test.YtjoajnmhdobbfaaLc1
import Derived.Test.YtjoajnmhdobbfaaG1
namespace Go.Sx
set_option maxRecDepth 100000
open Go.Proofs
set_option linter.unusedVariables false
set_option linter.unusedSimpArgs false

theorem RoundToEven_c (x : Nat) (h : Heap) : CALL prg f_math_RoundToEven #[.float .f64 x] (fun u h' => ∃ r, u = .float .f64 r ∧ (nan .f64 x = true → nan .f64 r = true) ∧ (nan .f64 x = false → r = rte x) ∧ Ext h h') h :=
  ext_call (e := Extern.MathFloor.toIntegral "math.RoundToEven" .even) X_math_RoundToEven (by kernel_rfl) (by kernel_rfl) (by kernel_rfl) (by kernel_rfl) fun w hw => by
    obtain ⟨r, w', h1, h2, h3, h4, h5⟩ := rte_run (P := prg) x w "math.RoundToEven"
    exact ⟨_, w', h1, h2, r, rfl, h4, h5, by rw [h3, hw]; exact Ext.refl _⟩
theorem isFF_plain {x r : Nat} (h : IsFF .f32 x .f64 r) : (nan .f32 x = true → nan .f64 r = true) ∧ (nan .f32 x = false → r = wide x) := by
  have h1 := isFF_wide h
  refine ⟨fun hx => ?_, fun hx => ?_⟩
  · rw [← nan_canon, h1, nan_canon, show cn .f32 x = qn .f32 by unfold cn; rw [hx]; rfl]
    decide +kernel
  · rw [show cn .f32 x = x by unfold cn; rw [hx]; rfl] at h1
    obtain ⟨h2, h3⟩ := canon_eq_iff h1
    exact h3 (by rw [h2]; exact wide_not_nan hx)
theorem ToShort_c (a : Nat) : Ret prg f_impl_ToShort #[.float .f32 a] (.int .i16 (shortOf a)) := fun h => by
  refine impl_ToShort.call ?_
  intro r1 h1
  obtain ⟨n1, p1⟩ := isFF_plain h1
  intro r2 h2
  refine (RoundToEven_c r2 h).mono ?_
  rintro _ h3 ⟨r, rfl, n3, p3, x3⟩
  refine as_f (short_tail (Q := fun v => (Value.int .i16 v = .int .i16 (shortOf a)) ∧ Ext h h3) ?_ ?_)
  all_goals intro hr; refine ⟨?_, x3⟩; congr 1; unfold shortOf
  · cases ha : nan .f32 a with
    | true => rfl
    | false =>
      exfalso
      rw [p1 ha] at h2
      obtain ⟨m1, m2⟩ := mulD_some (wide_not_nan ha)
      have e2 : r2 = mulD (wide a) := by
        have h2' : IsF .f64 (FloatKind.f64.format.mul (wide a) c15d) r2 := h2
        rw [m1] at h2'; exact h2'
      rw [e2] at p3
      rw [p3 m2, rte_not_nan m2] at hr
      cases hr
  · cases ha : nan .f32 a with
    | true =>
      exfalso
      have h2' : IsF .f64 (FloatKind.f64.format.mul r1 c15d) r2 := h2
      rw [mul_nan (n1 ha)] at h2'
      rw [n3 (nan_of_isNaNW (k := .f64) h2')] at hr
      cases hr
    | false =>
      rw [p1 ha] at h2
      obtain ⟨m1, m2⟩ := mulD_some (wide_not_nan ha)
      have e2 : r2 = mulD (wide a) := by
        have h2' : IsF .f64 (FloatKind.f64.format.mul (wide a) c15d) r2 := h2
        rw [m1] at h2'; exact h2'
      rw [e2] at p3
      rw [p3 m2]; rfl
theorem l01Short_c (a : Nat) : Ret prg f_spec_l01Short #[.float .f32 a] (.int .i16 (shortOf a)) := fun h => by
  refine spec_l01Short.call ?_
  intro r1 h1
  have h1' : IsF .f32 (FloatKind.f32.format.mul a c15s) r1 := h1
  intro r2 h2
  obtain ⟨n2, p2⟩ := isFF_plain h2
  refine (RoundToEven_c r2 h).mono ?_
  rintro _ h3 ⟨r, rfl, n3, p3, x3⟩
  refine as_f (short_tail (Q := fun v => (Value.int .i16 v = .int .i16 (shortOf a)) ∧ Ext h h3) ?_ ?_)
  all_goals intro hr; refine ⟨?_, x3⟩; congr 1; unfold shortOf
  · cases ha : nan .f32 a with
    | true => rfl
    | false =>
      exfalso
      obtain ⟨m1, m2⟩ := mulS_some ha
      rw [m1] at h1'
      rw [show r1 = mulS a from h1'] at p2
      rw [p2 m2] at p3
      rw [p3 (wide_not_nan m2), rte_not_nan (wide_not_nan m2)] at hr
      cases hr
  · cases ha : nan .f32 a with
    | true =>
      exfalso
      rw [mul_nan ha] at h1'
      rw [n3 (n2 (nan_of_isNaNW (k := .f32) h1'))] at hr
      cases hr
    | false =>
      obtain ⟨m1, m2⟩ := mulS_some ha
      rw [m1] at h1'
      rw [show r1 = mulS a from h1'] at p2
      rw [p2 m2] at p3
      rw [p3 (wide_not_nan m2), short_same ha]; rfl
def lb : Int → Nat → List Int
  | _, 0 => []
  | n, k + 1 => n % 256 :: lb (n / 256) k
theorem lb_len (n : Int) (k : Nat) : (lb n k).length = k := by
  induction k generalizing n with
  | zero => rfl
  | succ k ih => simp [lb, ih]
theorem lb_byt (n : Int) (k : Nat) : Byt (lb n k) := by
  induction k generalizing n with
  | zero => intro x hx; cases hx
  | succ k ih =>
    intro x hx
    cases hx with
    | head => omega
    | tail _ hx => exact ih _ x hx
theorem wrap8 (n : Int) : IntKind.u8.wrap n = n % 256 := by
  simp only [IntKind.wrap, IntKind.signed, IntKind.bits, Bool.false_and, Bool.false_eq_true, if_false]
  rfl
theorem shr_ediv {k : IntKind} {x : Int} {i : Nat} (hi : i ≤ k.bits) : shrI k x (i : Int) = x / ((2 ^ i : Nat) : Int) := by
  unfold shrI
  rw [Int.toNat_natCast, Nat.min_eq_left hi, Int.fdiv_eq_ediv_of_nonneg _ (by exact_mod_cast Nat.zero_le _)]
  norm_cast
theorem push_bytes {h0 h : Heap} {b : Option Addr} {l c m mc : Nat} {xs ns : List Int} {L : List Blk} {a : Addr} (S : Sl h0 h L T_uint8 1 b l c (iv .u8 xs)) (hl : l + m ≤ 1048576) (hn : ns.length = m) (C : Cells h (some a) (iv .u8 ns)) {K : Value → Heap → Prop}
    (H : ∀ b' c' h', Sl h0 h' L T_uint8 1 b' (l + m) c' (iv .u8 (xs ++ ns)) → K (.slice b' (l + m) c') h') :
    SEMV prg (Builtin.append_ #[T_sl_uint8, T_sl_uint8] T_sl_uint8 #[.slice b l c, .slice (some a) m mc]) K h := by
  refine Sl.app (news := iv .u8 ns) E_sl_uint8 S (by rw [iv_len]; omega) (fun j v hj => C.get hj) (by intro v hv; simp [iv] at hv; obtain ⟨x, _, rfl⟩ := hv; rfl) (by simp [maxLen]; omega) (by omega) fun b' c' h' S => ?_
  exact H b' c' h' (by simpa [iv] using S)
theorem push_lit {h0 h : Heap} {b : Option Addr} {l c m : Nat} {xs ns : List Int} {L : List Blk} {cs : Array Value} (S : Sl h0 h L T_uint8 1 b l c (iv .u8 xs)) (hl : l + m ≤ 1048576) (hcs : cs = ⟨iv .u8 ns⟩) (hn : ns.length = m) {K : Value → Heap → Prop}
    (H : ∀ b' c' h', Sl h0 h' L T_uint8 1 b' (l + m) c' (iv .u8 (xs ++ ns)) → K (.slice b' (l + m) c') h') :
    ALC cs T_uint8 (fun g h => SEMV prg (Builtin.append_ #[T_sl_uint8, T_sl_uint8] T_sl_uint8 #[.slice b l c, .slice (some ⟨g, 0, none⟩) m m]) K h) h := by
  subst hcs
  refine S.alc fun g h1 _ S => ?_
  refine push_bytes S hl hn (fun i hi => ⟨_, rfl, ?_⟩) fun b' c' h' S => H b' c' h' S.drop
  rw [add_none, Nat.zero_add, S.mem.cell .here]; simp
theorem four_lb {x : Int} : (⟨[.int .u8 (IntKind.u8.wrap x), .int .u8 (IntKind.u8.wrap (shrI .u32 x 8)), .int .u8 (IntKind.u8.wrap (shrI .u32 x 16)), .int .u8 (IntKind.u8.wrap (shrI .u32 x 24))]⟩ : Array Value) = ⟨iv .u8 (lb x 4)⟩ := by
  rw [show (8 : Int) = ((8 : Nat) : Int) from rfl, show (16 : Int) = ((16 : Nat) : Int) from rfl, show (24 : Int) = ((24 : Nat) : Int) from rfl, shr_ediv (by decide), shr_ediv (by decide), shr_ediv (by decide)]
  have a1 : x / ((2 ^ 8 : Nat) : Int) = x / 256 := rfl
  have a2 : x / ((2 ^ 16 : Nat) : Int) = x / 256 / 256 := by show x / 65536 = _; omega
  have a3 : x / ((2 ^ 24 : Nat) : Int) = x / 256 / 256 / 256 := by show x / 16777216 = _; omega
  rw [a1, a2, a3, wrap8, wrap8, wrap8, wrap8]
  rfl
theorem l10Four_c {h0 h : Heap} {b : Option Addr} {l c : Nat} {xs : List Int} {L : List Blk} {x : Int} (S : Sl h0 h L T_uint8 1 b l c (iv .u8 xs)) (hl : l + 4 ≤ 1048576) :
    CALL prg f_spec_l10Four #[.slice b l c, .int .u32 x] (fun u h' => ∃ b' c', u = .slice b' (l + 4) c' ∧ Sl h0 h' L T_uint8 1 b' (l + 4) c' (iv .u8 (xs ++ lb x 4))) h := by
  refine spec_l10Four.call (nn (by omega) (nn (by omega) (nn (by omega) ?_)))
  exact push_lit S hl four_lb (lb_len _ _) fun b' c' h' S => as_l ⟨b', c', rfl, S⟩
theorem lb_succ (n : Int) (k : Nat) : lb n (k + 1) = n % 256 :: lb (n / 256) k := rfl
theorem littleBytes_c {h : Heap} {n : Int} {k : Nat} (hk : k ≤ 8) (hn : 0 ≤ n) :
    CALL prg f_impl_littleBytes #[.int .u64 n, .int .i64 (k : Int)] (fun u h' => ∃ b c, u = .slice b k c ∧ Sl h h' [] T_uint8 1 b k c (iv .u8 (lb n k))) h := by
  refine impl_littleBytes.call ?_
  refine loop (fun x hh => ∃ (i : Nat) (m : Int) (b : Option Addr) (c : Nat) (xs : List Int), x = (m, b, i, c, (k : Int), (i : Int)) ∧ i ≤ k ∧ Sl h hh [] T_uint8 1 b i c (iv .u8 xs) ∧ xs ++ lb m (k - i) = lb n k) (fun x => (k - x.2.2.2.2.2).toNat)
    ⟨0, n, none, 0, [], rfl, by omega, Sl.nil (Mem.start h), rfl⟩ ?_
  rintro x hh ⟨i, m, b, c, xs, rfl, hi, S, hs⟩
  refine brd (fun hc => ?_) fun hc => ?_
  · obtain ⟨j, hj⟩ : ∃ j, k - i = j + 1 := ⟨k - i - 1, by omega⟩
    rw [hj, lb_succ] at hs
    refine push_lit (m := 1) (ns := [m % 256]) S (by omega) (by rw [wrap8]; rfl) rfl fun b' c' h' S => as_l (nn (by omega) ?_)
    rw [wrap64_succ (by omega), show (8 : Int) = ((8 : Nat) : Int) from rfl, shr_ediv (by decide)]
    refine ⟨⟨i + 1, m / 256, b', c', xs ++ [m % 256], rfl, by omega, S, ?_⟩, ?_⟩
    · rw [show k - (i + 1) = j by omega, ← hs]; simp
    · show ((k : Int) - ((i + 1 : Nat) : Int)).toNat < ((k : Int) - (i : Int)).toNat; omega
  · obtain rfl : i = k := by omega
    rw [Nat.sub_self] at hs
    exact ⟨b, c, rfl, by rw [← hs]; simpa [lb] using S⟩
def sumOf (xs : List Int) : Int := xs.foldl (fun c x => mix c (IntKind.u32.wrap x)) 2166136261
theorem mix_bound (a b : Int) : 0 ≤ mix a b ∧ mix a b < 4294967296 := by
  unfold mix
  simp only [IntKind.wrap, IntKind.signed, IntKind.bits, Bool.false_and, Bool.false_eq_true, if_false]
  have e : (2 : Int) ^ 32 = 4294967296 := by decide
  rw [e]
  omega
theorem fold_bound {xs : List Int} : ∀ {c : Int}, 0 ≤ c ∧ c < 4294967296 → 0 ≤ xs.foldl (fun c x => mix c (IntKind.u32.wrap x)) c ∧ xs.foldl (fun c x => mix c (IntKind.u32.wrap x)) c < 4294967296 := by
  induction xs with
  | nil => intro c h; exact h
  | cons x xs ih => intro c h; exact ih (mix_bound _ _)
theorem sum_bound (xs : List Int) : 0 ≤ sumOf xs ∧ sumOf xs < 4294967296 := fold_bound (by omega)
theorem l10Sum_c {h : Heap} {b : Option Addr} {l c : Nat} {xs : List Int} (C : Cells h b (iv .u8 xs)) (hl : xs.length = l) (hm : l ≤ 1048576) :
    CALL prg f_spec_l10Sum #[.slice b l c] (fun u h' => u = .int .u32 (sumOf xs) ∧ Ext h h') h := by
  subst hl
  refine spec_l10Sum.call ?_
  refine loop (fun x hh => ∃ n : Nat, x = (b, xs.length, c, (xs.take n).foldl (fun c x => mix c (IntKind.u32.wrap x)) 2166136261, (n : Int)) ∧ n ≤ xs.length ∧ Ext h hh) (fun x => (xs.length - x.2.2.2.2).toNat) ⟨0, rfl, by omega, Ext.refl _⟩ ?_
  rintro x hh ⟨n, rfl, hn, M⟩
  refine brd (fun hc => ?_) fun hc => ?_
  · obtain ⟨a, rfl⟩ := C.base (by rw [iv_len]; omega)
    refine idxs (by omega) (by omega) ?_
    rw [Int.toNat_natCast, Nat.mul_one]
    refine o_i ((C.ext M).get (iv_get (by omega))) ?_
    refine (l10Mix_c _ _).go fun h1 x1 => as_i ?_
    rw [wrap64_succ (by omega)]
    exact ⟨⟨n + 1, by rw [foldl_take_succ _ _ _ _ (by omega)], by omega, M.trans x1⟩, by show ((xs.length : Int) - ((n + 1 : Nat) : Int)).toNat < ((xs.length : Int) - (n : Int)).toNat; omega⟩
  · obtain rfl : n = xs.length := by omega
    exact ⟨by rw [List.take_length]; rfl, M⟩
theorem checkBytes_c {h : Heap} {b : Option Addr} {l c : Nat} {xs : List Int} (C : Cells h b (iv .u8 xs)) (hl : xs.length = l) (hm : l ≤ 1048576) :
    CALL prg f_impl_checkOfBytes_sl_byte #[.slice b l c] (fun u h' => u = .int .u32 (sumOf xs) ∧ Ext h h') h := by
  subst hl
  refine impl_checkOfBytes_sl_byte.call ?_
  refine loop (fun x hh => ∃ n : Nat, x = (b, xs.length, c, (xs.take n).foldl (fun c x => mix c (IntKind.u32.wrap x)) 2166136261, (xs.length : Int), (n : Int)) ∧ n ≤ xs.length ∧ Ext h hh) (fun x => (xs.length - x.2.2.2.2.2).toNat) ⟨0, rfl, by omega, Ext.refl _⟩ ?_
  rintro x hh ⟨n, rfl, hn, M⟩
  refine brd (fun hc => ?_) fun hc => ?_
  · obtain ⟨a, rfl⟩ := C.base (by rw [iv_len]; omega)
    refine idxs (by omega) (by omega) ?_
    rw [Int.toNat_natCast, Nat.mul_one]
    refine o_i ((C.ext M).get (iv_get (by omega))) ?_
    refine (checked_c _ _).go fun h1 x1 => as_i ?_
    rw [wrap64_succ (by omega)]
    exact ⟨⟨n + 1, by rw [foldl_take_succ _ _ _ _ (by omega)], by omega, M.trans x1⟩, by show ((xs.length : Int) - ((n + 1 : Nat) : Int)).toNat < ((xs.length : Int) - (n : Int)).toNat; omega⟩
  · obtain rfl : n = xs.length := by omega
    exact ⟨by rw [List.take_length]; rfl, M⟩
def encOf (k : Int) (a : Nat) : List Int := if k = 1 then lb (IntKind.u16.wrap (shortOf a)) 2 else lb (bits32 a) 4
def bodyOf (k rate : Int) (fs : List Nat) : List Int := [83, 80, 70] ++ [k % 256] ++ lb rate 4 ++ lb fs.length 4 ++ fs.flatMap (encOf k)
def fileOf (k rate : Int) (fs : List Nat) : List Int := bodyOf k rate fs ++ lb (sumOf (bodyOf k rate fs)) 4
theorem enc_len (k : Int) (a : Nat) : (encOf k a).length ≤ 4 := by unfold encOf; split <;> simp [lb_len]
theorem flat_len (k : Int) : ∀ fs : List Nat, (fs.flatMap (encOf k)).length ≤ 4 * fs.length
  | [] => Nat.le_refl _
  | a :: fs => by
    have h1 := flat_len k fs
    have h2 := enc_len k a
    simp only [List.flatMap_cons, List.length_append, List.length_cons]
    omega
theorem body_len (k rate : Int) (fs : List Nat) : (bodyOf k rate fs).length ≤ 12 + 4 * fs.length := by
  have := flat_len k fs
  simp only [bodyOf, List.length_append, List.length_cons, List.length_nil, lb_len]
  omega
theorem flat_succ (k : Int) {fs : List Nat} {n : Nat} (h : n < fs.length) : (fs.take (n + 1)).flatMap (encOf k) = (fs.take n).flatMap (encOf k) ++ encOf k fs[n] := by
  rw [List.take_succ_eq_append_getElem h, List.flatMap_append]; simp
theorem head_len (k rate : Int) (fs : List Nat) (n : Nat) : ([83, 80, 70] ++ [k % 256] ++ lb rate 4 ++ lb fs.length 4 ++ (fs.take n).flatMap (encOf k)).length ≤ 12 + 4 * fs.length := by
  have h1 := flat_len k (fs.take n)
  have h2 : (fs.take n).length ≤ fs.length := by simp; omega
  simp only [List.length_append, List.length_cons, List.length_nil, lb_len]
  omega
theorem two_lb {x : Int} : (⟨[.int .u8 (IntKind.u8.wrap x), .int .u8 (IntKind.u8.wrap (shrI .u16 x 8))]⟩ : Array Value) = ⟨iv .u8 (lb x 2)⟩ := by
  rw [show (8 : Int) = ((8 : Nat) : Int) from rfl, shr_ediv (by decide), wrap8, wrap8]
  rfl
theorem bits_nonneg (a : Nat) : 0 ≤ bits32 a := by unfold bits32; split <;> omega
/-- "SPF" and one byte behind it. -/
theorem spf_head {h0 h : Heap} {L : List Blk} {k : Int} {K : Value → Heap → Prop} (M : Mem h0 h L)
    (H : ∀ b' c' h', Sl h0 h' L T_uint8 1 b' 4 c' (iv .u8 ([83, 80, 70] ++ [k % 256])) → K (.slice b' 4 c') h') :
    ALC ⟨[.int .u8 (83 : Int), .int .u8 (80 : Int), .int .u8 (70 : Int)]⟩ T_uint8 (fun g1 h2 => SEMV prg (convert T_sl_uint8 T_sl_uint8 (.slice (some ⟨g1, 0, none⟩) 3 3)) (fun q3 h4 =>
      asL q3 fun l5b l5l l5c => ALC ⟨[.int .u8 (IntKind.u8.wrap k)]⟩ T_uint8 (fun g6 h7 => SEMV prg (Builtin.append_ #[T_sl_uint8, T_sl_uint8] T_sl_uint8 #[.slice l5b l5l l5c, .slice (some ⟨g6, 0, none⟩) 1 1]) K h7) h4) h2) h := by
  refine alc_conv U_sl_uint8 U_uint8 M fun g h1 M hc => as_l ?_
  refine M.alc fun g2 h2 x2 M => ?_
  refine app_grow (vs := iv .u8 [83, 80, 70]) (news := [.int .u8 (IntKind.u8.wrap k)]) E_sl_uint8 M rfl (fun j v hj => ?_) (by decide) rfl (fun j v hj => ?_) (by decide) (by decide) fun b' c' h' S => ?_
  · rw [add_none, Nat.zero_add]
    exact x2.cell ((hc j).trans (by simpa [iv] using hj))
  · rw [add_none, Nat.zero_add, M.cell .here]; simpa using hj
  · refine H b' c' h' ?_
    have := S.drop
    rw [wrap8] at this
    exact this
theorem l10File_c {h : Heap} {b : Option Addr} {l c : Nat} {fs : List Nat} {k rate : Int} (C : Cells h b (fv .f32 fs)) (hl : fs.length = l) (hm : l ≤ 4096) (hk : inR k 1 2 = true) (hr : inR rate 1 1000000 = true) :
    CALL prg f_spec_l10File #[.int .i64 k, .int .i64 rate, .slice b l c] (fun u h' => ∃ b' c', u = .slice b' (fileOf k rate fs).length c' ∧ Sl h h' [] T_uint8 1 b' (fileOf k rate fs).length c' (iv .u8 (fileOf k rate fs))) h := by
  subst hl
  refine spec_l10File.call ?_
  refine spf_head (Mem.start h) fun b1 c1 h1 S => as_l ?_
  have hrate : 1 ≤ rate ∧ rate ≤ 1000000 := by simpa [inR] using hr
  have e : (2 : Int) ^ IntKind.u32.bits = 4294967296 := by decide
  rw [wrapu (k := .u32) (n := rate) rfl (by omega) (by rw [e]; omega)]
  refine (l10Four_c S (by omega)).mono ?_
  rintro _ h2 ⟨b2, c2, rfl, S⟩
  refine as_l ?_
  rw [wrapu (k := .u32) (n := (fs.length : Int)) rfl (by omega) (by rw [e]; omega)]
  refine (l10Four_c S (by omega)).mono ?_
  rintro _ h3 ⟨b3, c3, rfl, S⟩
  refine as_l ?_
  have hb := body_len k rate fs
  refine loop (fun x hh => ∃ (n : Nat) (ob : Option Addr) (oc : Nat) (xs : List Int), x = (k, b, fs.length, c, ob, xs.length, oc, (n : Int)) ∧ n ≤ fs.length ∧ Sl h hh [] T_uint8 1 ob xs.length oc (iv .u8 xs) ∧ xs = [83, 80, 70] ++ [k % 256] ++ lb rate 4 ++ lb fs.length 4 ++ (fs.take n).flatMap (encOf k)) (fun x => (fs.length - x.2.2.2.2.2.2.2).toNat)
    ⟨0, b3, c3, [83, 80, 70] ++ [k % 256] ++ lb rate 4 ++ lb fs.length 4, by simp [lb_len], by omega, by simpa [lb_len] using S, by simp⟩ ?_
  rintro x hh ⟨n, ob, oc, xs, rfl, hn, S, hx⟩
  have hlen : xs.length ≤ 12 + 4 * fs.length := by rw [hx]; exact head_len k rate fs n
  have C' := C.ext S.mem.ext
  refine brd (fun hc => ?_) fun hc => ?_
  · obtain ⟨a, rfl⟩ := C'.base (by rw [fv_len]; omega)
    have nxt : ∀ (ob' : Option Addr) (oc' : Nat) (h' : Heap) (m : Nat), (encOf k (fs[n]'(by omega))).length = m → Sl h h' [] T_uint8 1 ob' (xs.length + m) oc' (iv .u8 (xs ++ encOf k (fs[n]'(by omega)))) →
        ((∃ (n' : Nat) (ob : Option Addr) (oc : Nat) (xs' : List Int), ((k, some a, fs.length, c, ob', xs.length + m, oc', IntKind.i64.wrap ((n : Int) + 1)) : Int × Option Addr × Nat × Nat × Option Addr × Nat × Nat × Int) = (k, some a, fs.length, c, ob, xs'.length, oc, (n' : Int)) ∧ n' ≤ fs.length ∧
          Sl h h' [] T_uint8 1 ob xs'.length oc (iv .u8 xs') ∧ xs' = [83, 80, 70] ++ [k % 256] ++ lb rate 4 ++ lb fs.length 4 ++ (fs.take n').flatMap (encOf k)) ∧ ((fs.length : Int) - IntKind.i64.wrap ((n : Int) + 1)).toNat < ((fs.length : Int) - (n : Int)).toNat) := by
      intro ob' oc' h' m hm' S'
      rw [wrap64_succ (by omega)]
      have hl' : (xs ++ encOf k (fs[n]'(by omega))).length = xs.length + m := by rw [List.length_append, hm']
      refine ⟨⟨n + 1, ob', oc', xs ++ encOf k (fs[n]'(by omega)), by rw [hl'], by omega, by rw [hl']; exact S', ?_⟩, by omega⟩
      rw [flat_succ k (by omega), hx]
      simp only [List.append_assoc]
    refine br (fun h1 => ?_) fun h1 => ?_
    · have h1 : k = 1 := by simpa using h1
      refine idxs (by omega) (by omega) ?_
      rw [Int.toNat_natCast, Nat.mul_one]
      refine o_f (C'.get (fv_get (by omega))) ?_
      refine (l01Short_c _).go fun h4 x4 => as_i (nn (by omega) ?_)
      refine push_lit (m := 2) (S.grow x4) (by omega) two_lb (lb_len _ _) fun b' c' h' S => as_l (nxt _ _ _ 2 (by rw [encOf, if_pos h1, lb_len]) ?_)
      rw [encOf, if_pos h1]; exact S
    · have h1 : ¬ k = 1 := by simpa using h1
      refine idxs (by omega) (by omega) ?_
      rw [Int.toNat_natCast, Nat.mul_one]
      refine o_f (C'.get (fv_get (by omega))) ?_
      refine (l01Bits_c _).go fun h4 x4 => as_i ?_
      refine (l10Four_c (S.grow x4) (by omega)).mono ?_
      rintro _ h5 ⟨b', c', rfl, S⟩
      refine as_l (nxt _ _ _ 4 (by rw [encOf, if_neg h1, lb_len]) ?_)
      rw [encOf, if_neg h1]; exact S
  · obtain rfl : n = fs.length := by omega
    rw [List.take_length] at hx
    have hx : xs = bodyOf k rate fs := hx
    refine (l10Sum_c S.cells rfl (by omega)).mono ?_
    rintro _ h4 ⟨rfl, x4⟩
    refine as_i ?_
    refine (l10Four_c (S.grow x4) (by omega)).mono ?_
    rintro _ h5 ⟨b', c', rfl, S⟩
    have hf : xs ++ lb (sumOf xs) 4 = fileOf k rate fs := by rw [hx]; rfl
    rw [hf] at S
    have hl : xs.length + 4 = (fileOf k rate fs).length := by rw [← hf, List.length_append, lb_len]
    rw [hl] at S ⊢
    exact as_l ⟨b', c', rfl, S⟩
theorem wrapu64 (n : Int) : IntKind.u64.wrap n = n % 18446744073709551616 := by
  simp only [IntKind.wrap, IntKind.signed, IntKind.bits, Bool.false_and, Bool.false_eq_true, if_false]
  rfl
theorem lb_wrap (n : Int) : lb (IntKind.u64.wrap n) 4 = lb n 4 := by
  rw [wrapu64]
  simp only [lb, List.cons.injEq, and_true]
  refine ⟨?_, ?_, ?_, ?_⟩ <;> omega
/-- Little bytes, appended. -/
theorem push_little {h0 h : Heap} {b : Option Addr} {l c k : Nat} {xs : List Int} {n : Int} {L : List Blk} (S : Sl h0 h L T_uint8 1 b l c (iv .u8 xs)) (hl : l + k ≤ 1048576) (hk : k + 1 ≤ 8) (hn : 0 ≤ n) {K : Value → Heap → Prop}
    (H : ∀ b' c' h', Sl h0 h' L T_uint8 1 b' (l + (k + 1)) c' (iv .u8 (xs ++ lb n (k + 1))) → K (.slice b' (l + (k + 1)) c') h') (hl2 : l + (k + 1) ≤ 1048576) :
    CALL prg f_impl_littleBytes #[.int .u64 n, .int .i64 ((k + 1 : Nat) : Int)] (fun q h1 => asL q fun l2b l2l l2c =>
      SEMV prg (Builtin.append_ #[T_sl_uint8, T_sl_uint8] T_sl_uint8 #[.slice b l c, .slice l2b l2l l2c]) K h1) h := by
  refine (littleBytes_c hk hn).mono ?_
  rintro _ h1 ⟨b2, c2, rfl, S2⟩
  refine as_l ?_
  have C2 := S2.cells
  obtain ⟨a, rfl⟩ := C2.base (by rw [iv_len, lb_len]; omega)
  exact push_bytes (S.grow S2.mem.ext) hl2 (lb_len _ _) C2 H
theorem soundFile_c {h : Heap} {b : Option Addr} {l c : Nat} {fs : List Nat} {k rate : Int} (C : Cells h b (fv .f32 fs)) (hl : fs.length = l) (hm : l ≤ 4096) (hk : inR k 1 2 = true) (hr : inR rate 1 1000000 = true) :
    CALL prg f_impl_soundFile #[.int .i64 k, .int .i64 rate, .slice b l c] (fun u h' => ∃ b' c', u = .slice b' (fileOf k rate fs).length c' ∧ Sl h h' [] T_uint8 1 b' (fileOf k rate fs).length c' (iv .u8 (fileOf k rate fs))) h := by
  subst hl
  refine impl_soundFile.call ?_
  refine spf_head (Mem.start h) fun b1 c1 h1 S => as_l ?_
  have hrate : 1 ≤ rate ∧ rate ≤ 1000000 := by simpa [inR] using hr
  have e : (2 : Int) ^ IntKind.u64.bits = 18446744073709551616 := by decide
  rw [wrapu (k := .u64) (n := rate) rfl (by omega) (by rw [e]; omega)]
  refine push_little (k := 3) S (by omega) (by omega) (by omega) (fun b2 c2 h2 S => as_l ?_) (by omega)
  rw [wrapu (k := .u64) (n := (fs.length : Int)) rfl (by omega) (by rw [e]; omega)]
  refine push_little (k := 3) S (by omega) (by omega) (by omega) (fun b3 c3 h3 S => as_l ?_) (by omega)
  have hb := body_len k rate fs
  refine loop (fun x hh => ∃ (n : Nat) (ob : Option Addr) (oc : Nat) (xs : List Int), x = (k, ob, xs.length, oc, b, fs.length, c, (fs.length : Int), (n : Int)) ∧ n ≤ fs.length ∧ Sl h hh [] T_uint8 1 ob xs.length oc (iv .u8 xs) ∧ xs = [83, 80, 70] ++ [k % 256] ++ lb rate 4 ++ lb fs.length 4 ++ (fs.take n).flatMap (encOf k)) (fun x => (fs.length - x.2.2.2.2.2.2.2.2).toNat)
    ⟨0, b3, c3, [83, 80, 70] ++ [k % 256] ++ lb rate 4 ++ lb fs.length 4, by simp [lb_len], by omega, by simpa [lb_len] using S, by simp⟩ ?_
  rintro x hh ⟨n, ob, oc, xs, rfl, hn, S, hx⟩
  have hlen : xs.length ≤ 12 + 4 * fs.length := by rw [hx]; exact head_len k rate fs n
  have C' := C.ext S.mem.ext
  refine brd (fun hc => ?_) fun hc => ?_
  · obtain ⟨a, rfl⟩ := C'.base (by rw [fv_len]; omega)
    have nxt : ∀ (ob' : Option Addr) (oc' : Nat) (h' : Heap) (m : Nat), (encOf k (fs[n]'(by omega))).length = m → Sl h h' [] T_uint8 1 ob' (xs.length + m) oc' (iv .u8 (xs ++ encOf k (fs[n]'(by omega)))) →
        ((∃ (n' : Nat) (ob : Option Addr) (oc : Nat) (xs' : List Int), ((k, ob', xs.length + m, oc', some a, fs.length, c, (fs.length : Int), IntKind.i64.wrap ((n : Int) + 1)) : Int × Option Addr × Nat × Nat × Option Addr × Nat × Nat × Int × Int) = (k, ob, xs'.length, oc, some a, fs.length, c, (fs.length : Int), (n' : Int)) ∧ n' ≤ fs.length ∧
          Sl h h' [] T_uint8 1 ob xs'.length oc (iv .u8 xs') ∧ xs' = [83, 80, 70] ++ [k % 256] ++ lb rate 4 ++ lb fs.length 4 ++ (fs.take n').flatMap (encOf k)) ∧ ((fs.length : Int) - IntKind.i64.wrap ((n : Int) + 1)).toNat < ((fs.length : Int) - (n : Int)).toNat) := by
      intro ob' oc' h' m hm' S'
      rw [wrap64_succ (by omega)]
      have hl' : (xs ++ encOf k (fs[n]'(by omega))).length = xs.length + m := by rw [List.length_append, hm']
      refine ⟨⟨n + 1, ob', oc', xs ++ encOf k (fs[n]'(by omega)), by rw [hl'], by omega, by rw [hl']; exact S', ?_⟩, by omega⟩
      rw [flat_succ k (by omega), hx]
      simp only [List.append_assoc]
    refine idxs (by omega) (by omega) ?_
    rw [Int.toNat_natCast, Nat.mul_one]
    refine o_f (C'.get (fv_get (by omega))) ?_
    refine br (fun h1 => ?_) fun h1 => ?_
    · have h1 : k = 1 := by simpa using h1
      refine (ToShort_c _).go fun h4 x4 => as_i ?_
      have hu : 0 ≤ IntKind.u16.wrap (shortOf (fs[n]'(by omega))) ∧ IntKind.u16.wrap (shortOf (fs[n]'(by omega))) < 65536 := by
        simp only [IntKind.wrap, IntKind.signed, IntKind.bits, Bool.false_and, Bool.false_eq_true, if_false]
        rw [show (2 : Int) ^ 16 = 65536 by decide]
        omega
      rw [wrapu (k := .u64) (n := IntKind.u16.wrap (shortOf (fs[n]'(by omega)))) rfl hu.1 (by rw [e]; omega)]
      refine push_little (k := 1) (S.grow x4) (by omega) (by omega) hu.1 (fun b' c' h' S => as_l (nxt _ _ _ 2 (by rw [encOf, if_pos h1, lb_len]) ?_)) (by omega)
      rw [encOf, if_pos h1]; exact S
    · have h1 : ¬ k = 1 := by simpa using h1
      refine (bitsOf_c _).go fun h4 x4 => as_i ?_
      refine push_little (k := 3) (S.grow x4) (by omega) (by omega) (by rw [wrapu64]; omega) (fun b' c' h' S => as_l (nxt _ _ _ 4 (by rw [encOf, if_neg h1, lb_len]) ?_)) (by omega)
      rw [lb_wrap] at S
      rw [encOf, if_neg h1]; exact S
  · obtain rfl : n = fs.length := by omega
    rw [List.take_length] at hx
    have hx : xs = bodyOf k rate fs := hx
    refine (checkBytes_c S.cells rfl (by omega)).mono ?_
    rintro _ h4 ⟨rfl, x4⟩
    refine as_i ?_
    have hsb := sum_bound xs
    rw [wrapu (k := .u64) (n := sumOf xs) rfl hsb.1 (by rw [e]; omega)]
    refine push_little (k := 3) (S.grow x4) (by omega) (by omega) hsb.1 (fun b' c' h' S => as_l ?_) (by omega)
    have hf : xs ++ lb (sumOf xs) 4 = fileOf k rate fs := by rw [hx]; rfl
    rw [show (3 + 1 : Nat) = 4 from rfl, hf] at S
    have hl : xs.length + 4 = (fileOf k rate fs).length := by rw [← hf, List.length_append, lb_len]
    rw [show xs.length + (3 + 1) = xs.length + 4 from rfl, hl] at S ⊢
    exact ⟨b', c', rfl, S⟩
def makeFile (k rate : Int) (fs : List Nat) : List Int × Int :=
  if 4096 < fs.length then ([], 3) else if inR k 1 2 && inR rate 1 1000000 then (fileOf k rate fs, 0) else ([], 2)
/-- A result that is a slice of bytes of its own. -/
def BlS (h h' : Heap) (L : List Blk) (b : Option Addr) (l c : Nat) (xs : List Int) : Prop := Sl h h' L T_uint8 1 b l c (iv .u8 xs)
theorem BlS.nil {h h' : Heap} {g : Nat} (M : Mem h h' [(g, T_uint8, ⟨[]⟩)]) : BlS h h' [] (some ⟨g, 0, none⟩) 0 0 [] := by
  have := Sl.made (sz := 1) (l := 0) (c := 0) M (Nat.le_refl _) (Nat.zero_le _) (by simp)
  simpa [BlS, iv] using this
theorem impl_MakeSoundFile_c {h : Heap} {b : Option Addr} {l c : Nat} {fs : List Nat} {k rate : Int} (C : Cells h b (fv .f32 fs)) (hl : fs.length = l) (hm : l ≤ 1048576) :
    CALL prg f_impl_MakeSoundFile #[.int .i64 k, .int .i64 rate, .slice b l c] (fun u h' => ∃ b' l' c', u = .tuple ⟨[.slice b' l' c', .int .i64 (makeFile k rate fs).2]⟩ ∧ BlS h h' [] b' l' c' (makeFile k rate fs).1) h := by
  subst hl
  refine impl_MakeSoundFile.call ?_
  refine brd (fun h1 => ?_) fun h1 => ?_
  · refine ⟨none, 0, 0, ?_, ?_⟩ <;> rw [makeFile, if_pos (by omega)]
    exact Sl.nil (Mem.start h)
  refine (isSoundKind_c k).go fun h2 x2 => as_b ?_
  refine br (fun h3 => ?_) fun h3 => ?_
  · have h3 : inR k 1 2 = false := by simpa using h3
    refine ⟨none, 0, 0, ?_, ?_⟩ <;> rw [makeFile, if_neg (by omega), h3]
    · rfl
    · exact Sl.nil ((Mem.start h).grow x2)
  have h3 : inR k 1 2 = true := by simpa using h3
  refine (within_c rate _ _).go fun h4 x4 => as_b ?_
  refine br (fun h5 => ?_) fun h5 => ?_
  · have h5 : inR rate 1 1000000 = false := by simpa using h5
    refine ⟨none, 0, 0, ?_, ?_⟩ <;> rw [makeFile, if_neg (by omega), h3, h5]
    · rfl
    · exact Sl.nil ((Mem.start h).grow (x2.trans x4))
  have h5 : inR rate 1 1000000 = true := by simpa using h5
  refine (soundFile_c (C.ext (x2.trans x4)) rfl (by omega) h3 h5).mono ?_
  rintro _ h6 ⟨b', c', rfl, S⟩
  refine as_l ⟨b', (fileOf k rate fs).length, c', ?_, ?_⟩
  · rw [makeFile, if_neg (by omega), h3, h5]; rfl
  · rw [makeFile, if_neg (by omega), h3, h5]; exact (by simpa using S.join ((Mem.start h).grow (x2.trans x4)) : Sl h h6 [] T_uint8 1 b' _ c' (iv .u8 (fileOf k rate fs)))
end Go.Sx
