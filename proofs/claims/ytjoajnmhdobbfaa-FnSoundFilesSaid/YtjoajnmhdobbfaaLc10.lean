/- The drawing machine of the laws (spec.l00Src): what it draws lies in bounds. -/
import Derived.Test.YtjoajnmhdobbfaaLc8
import Derived.Test.YtjoajnmhdobbfaaG1
namespace Go.Sx
set_option maxRecDepth 100000
open Go.Proofs
set_option linter.unusedVariables false
set_option linter.unusedSimpArgs false

def Src (h0 h : Heap) (L : List Blk) (g : Nat) (cb : Option Addr) (cl cc K : Nat) : Prop :=
  ∃ (p : Nat) (st : Int), p ≤ K ∧ Mem h0 h ((g, T_spec_l00Src, ⟨[.slice cb cl cc, .int .i64 (p : Int), .int .u64 st]⟩) :: L)
theorem Src.mem {h0 h : Heap} {L : List Blk} {g : Nat} {cb : Option Addr} {cl cc K : Nat} (S : Src h0 h L g cb cl cc K) : Mem h0 h L := by
  obtain ⟨_, _, _, M⟩ := S; exact M.drop
theorem Src.grow {h0 h h' : Heap} {L : List Blk} {g : Nat} {cb : Option Addr} {cl cc K : Nat} (S : Src h0 h L g cb cl cc K) (x : Ext h h') : Src h0 h' L g cb cl cc K := by
  obtain ⟨p, st, hp, M⟩ := S; exact ⟨p, st, hp, M.grow x⟩
theorem Src.mono {h0 h : Heap} {L : List Blk} {g : Nat} {cb : Option Addr} {cl cc K K' : Nat} (S : Src h0 h L g cb cl cc K) (hk : K ≤ K') : Src h0 h L g cb cl cc K' := by
  obtain ⟨p, st, hp, M⟩ := S; exact ⟨p, st, by omega, M⟩
theorem and255 (x : Int) : 0 ≤ bitI .and .u64 x 255 ∧ bitI .and .u64 x 255 < 256 := by
  simp only [bitI]
  have h1 : (BitVec.ofInt IntKind.u64.bits x &&& BitVec.ofInt IntKind.u64.bits 255).toNat ≤ 255 := by
    rw [BitVec.toNat_and]
    exact Nat.and_le_right
  have e : (2 : Int) ^ IntKind.u64.bits = 18446744073709551616 := by decide
  rw [wrapu rfl (by omega) (by rw [e]; omega)]
  omega
theorem next_c {h0 h : Heap} {L : List Blk} {g : Nat} {cb : Option Addr} {cc K : Nat} {xs : List Int} (S : Src h0 h L g cb xs.length cc K) (C : Cells h0 cb (iv .u8 xs)) (hb : Byt xs) (hK : K ≤ 1152921504606846976) :
    CALL prg f_p_spec_l00Src_next #[.pointer (some ⟨g, 0, none⟩)] (fun u h' => ∃ v : Int, u = .int .i64 v ∧ 0 ≤ v ∧ v < 256 ∧ Src h0 h' L g cb xs.length cc (K + 1)) h := by
  obtain ⟨p, st, hp, M⟩ := S
  refine p_spec_l00Src_next.call ?_
  have j4 : ∀ v : Int, 0 ≤ v ∧ v < 256 → p_spec_l00Src_next.J4 (fun u h' => ∃ v : Int, u = .int .i64 v ∧ 0 ≤ v ∧ v < 256 ∧ Src h0 h' L g cb xs.length cc (K + 1)) ⟨g, 0, none⟩ v h := by
    intro v hv
    unfold p_spec_l00Src_next.J4
    simp only [add_none, Nat.zero_add]
    refine M.oI (by repeat constructor) rfl ?_
    rw [wrap64_succ (by omega)]
    refine M.st1 (by repeat constructor) (by simp) (by repeat constructor) fun h1 M => ?_
    refine M.oI (by repeat constructor) rfl ?_
    refine M.st1 (by repeat constructor) (by simp) (by repeat constructor) fun h2 M => ?_
    refine M.oI (by repeat constructor) rfl (M.oL (by repeat constructor) rfl ?_)
    have S' : ∀ st' : Int, Mem h0 h2 ((g, T_spec_l00Src, ⟨[.slice cb xs.length cc, .int .i64 ((p + 1 : Nat) : Int), .int .u64 st']⟩) :: L) → Src h0 h2 L g cb xs.length cc (K + 1) := fun st' M => ⟨p + 1, st', by omega, M⟩
    refine brd (fun _ => ⟨v, rfl, hv.1, hv.2, S' _ M⟩) fun _ => ?_
    refine M.oI (by repeat constructor) rfl (nn (by omega) ⟨_, rfl, ?_, ?_, S' _ M⟩)
    · have := and255 (shrI .u64 (IntKind.u64.wrap (IntKind.u64.wrap (IntKind.u64.wrap (st * 6364136223846793005) + IntKind.u64.wrap v) + 1442695040888963407)) 40)
      rw [wrap64 (by omega) (by omega)]; omega
    · have := and255 (shrI .u64 (IntKind.u64.wrap (IntKind.u64.wrap (IntKind.u64.wrap (st * 6364136223846793005) + IntKind.u64.wrap v) + 1442695040888963407)) 40)
      rw [wrap64 (by omega) (by omega)]; omega
  unfold p_spec_l00Src_next.S
  simp only [add_none, Nat.zero_add]
  refine M.oI (by repeat constructor) rfl (M.oL (by repeat constructor) rfl ?_)
  refine brd (fun hc => ?_) fun hc => j4 0 (by omega)
  refine M.oL (by repeat constructor) rfl (M.oI (by repeat constructor) rfl ?_)
  have C' := C.ext M.ext
  obtain ⟨a, rfl⟩ := C'.base (by rw [iv_len]; omega)
  refine idxs (by omega) (by omega) ?_
  rw [Int.toNat_natCast, Nat.mul_one]
  refine o_i (C'.get (iv_get (by omega))) ?_
  have := hb.at (i := p) (by omega)
  rw [wrap64 (by omega) (by omega)]
  exact j4 _ this
theorem pick_c {h0 h : Heap} {L : List Blk} {g : Nat} {cb : Option Addr} {cc K : Nat} {xs : List Int} {n : Int} (S : Src h0 h L g cb xs.length cc K) (C : Cells h0 cb (iv .u8 xs)) (hb : Byt xs) (hK : K ≤ 1048576) :
    CALL prg f_p_spec_l00Src_pick #[.pointer (some ⟨g, 0, none⟩), .int .i64 n] (fun u h' => ∃ v : Int, u = .int .i64 v ∧ 0 ≤ v ∧ (v < n ∨ v = 0) ∧ v < 65536 ∧ Src h0 h' L g cb xs.length cc (K + 2)) h := by
  refine p_spec_l00Src_pick.call ?_
  refine brd (fun h1 => ⟨0, rfl, by omega, .inr rfl, by omega, S.mono (by omega)⟩) fun h1 => ?_
  refine (next_c S C hb (by omega)).mono ?_
  rintro _ h2 ⟨a, rfl, a1, a2, S⟩
  refine as_i ?_
  have md : ∀ x : Int, 0 ≤ x → 0 ≤ Int.tmod x n ∧ Int.tmod x n < n ∧ Int.tmod x n ≤ x := fun x hx => by
    rw [Int.tmod_eq_emod_of_nonneg hx]
    refine ⟨Int.emod_nonneg _ (by omega), Int.emod_lt_of_pos _ (by omega), ?_⟩
    have e1 := Int.emod_add_mul_ediv x n
    have e2 : 0 ≤ n * (x / n) := Int.mul_nonneg (by omega) (Int.ediv_nonneg hx (by omega))
    omega
  refine brd (fun h3 => ?_) fun h3 => ?_
  · refine (next_c S C hb (by omega)).mono ?_
    rintro _ h4 ⟨b, rfl, b1, b2, S⟩
    refine as_i (nz (by omega) ?_)
    rw [wrap64 (n := a * 256) (by omega) (by omega), wrap64 (by omega) (by omega)]
    have := md (a * 256 + b) (by omega)
    exact ⟨_, rfl, this.1, .inl this.2.1, by omega, S⟩
  · have := md a a1
    exact nz (by omega) ⟨_, rfl, this.1, .inl this.2.1, by omega, S.mono (by omega)⟩
theorem l00From_c {h0 h : Heap} {L : List Blk} {cb : Option Addr} {cl cc : Nat} (M : Mem h0 h L) : CALL prg f_spec_l00From #[.slice cb cl cc] (fun u h' => ∃ g, u = .pointer (some ⟨g, 0, none⟩) ∧ Src h0 h' L g cb cl cc 0) h :=
  spec_l00From.call (M.alc fun g h1 _ M => ⟨g, rfl, 0, 0, Nat.le_refl _, M⟩)
theorem P6Pick_c {h0 h : Heap} {L : List Blk} {b : Option Addr} {c : Nat} {xs : List Int} {n : Int} (M : Mem h0 h L) (C : Cells h0 b (iv .u8 xs)) (hb : Byt xs) :
    CALL prg f_spec_P6Pick #[.slice b xs.length c, .int .i64 n] (fun u h' => ∃ v : Int, u = .int .i64 v ∧ 0 ≤ v ∧ (v < n ∨ v = 0) ∧ v < 65536 ∧ Mem h0 h' L) h := by
  refine spec_P6Pick.call ?_
  refine (l00From_c M).mono ?_
  rintro _ h1 ⟨g, rfl, S⟩
  refine as_p ?_
  refine (pick_c S C hb (by omega)).mono ?_
  rintro _ h2 ⟨v, rfl, v1, v2, v3, S⟩
  exact as_i ⟨v, rfl, v1, v2, v3, S.mem⟩
theorem f6big_c {h : Heap} {b : Option Addr} {l c : Nat} : CALL prg f_laws_f6big #[.slice b l c] (fun u h' => u = .bool (decide (4096 < l)) ∧ Ext h h') h :=
  laws_f6big.call ⟨by congr 1; rw [decide_eq_decide]; omega, Ext.refl _⟩
theorem frombits64_c (n : Int) : Ret prg f_math_Float64frombits #[.int .u64 n] (.float .f64 n.toNat) :=
  ext_ret (e := Extern.MathFloatBits.float64frombits) X_math_Float64frombits (by kernel_rfl) (by kernel_rfl) (by kernel_rfl) (by kernel_rfl) fun w => rfl
theorem isF_lt {k : FloatKind} {o : Option Nat} {r : Nat} (h : IsF k o r) (ho : ∀ v, o = some v → v < 2 ^ k.format.width) : r < 2 ^ k.format.width := by
  cases o with
  | some v => rw [show r = v from h]; exact ho v rfl
  | none =>
    cases k with
    | f32 =>
      obtain ⟨t, rfl⟩ := (h : isNaNW .f32 r)
      show _ < 2 ^ 32
      have hs : t % 2 = 0 ∨ t % 2 = 1 := by omega
      have hu : t / 2 % (2 ^ 23 - 1) < 2 ^ 23 - 1 := Nat.mod_lt _ (by decide)
      generalize t / 2 % (2 ^ 23 - 1) = u at hu ⊢
      rcases hs with hs | hs <;> rw [hs] <;> omega
    | f64 =>
      obtain ⟨t, rfl⟩ := (h : isNaNW .f64 r)
      show _ < 2 ^ 64
      have hs : t % 2 = 0 ∨ t % 2 = 1 := by omega
      have hu : t / 2 % (2 ^ 52 - 1) < 2 ^ 52 - 1 := Nat.mod_lt _ (by decide)
      generalize t / 2 % (2 ^ 52 - 1) = u at hu ⊢
      rcases hs with hs | hs <;> rw [hs] <;> omega
theorem isFF_lt {s : FloatKind} {b r : Nat} (h : IsFF s b .f32 r) : r < 2 ^ 32 := by
  unfold IsFF at h
  split at h
  · exact isF_lt (k := .f32) (o := none) h (fun v e => by cases e)
  · rw [h]; exact FloatKind.f32.format.write_lt _
  · split at h
    · exact h
    · rw [h]; exact FloatKind.f32.format.write_lt _
theorem NaN_c : Ret prg f_math_NaN #[] (.float .f64 9221120237041090561) := fun h => math_NaN.call ((frombits64_c _).go fun h' x => as_f ⟨rfl, x⟩)
theorem Inf_c (s : Int) (h : Heap) : CALL prg f_math_Inf #[.int .i64 s] (fun u h' => ∃ r, u = .float .f64 r ∧ Ext h h') h := by
  refine math_Inf.call (brd (fun _ => ?_) fun _ => ?_)
  · exact (frombits64_c _).go fun h' x => as_f ⟨_, rfl, x⟩
  · exact (frombits64_c _).go fun h' x => as_f ⟨_, rfl, x⟩
theorem u32_lt (n : Int) : (IntKind.u32.wrap n).toNat < 4294967296 := by
  simp only [IntKind.wrap, IntKind.signed, IntKind.bits, Bool.false_and, Bool.false_eq_true, if_false]
  rw [show (2 : Int) ^ 32 = 4294967296 by decide]
  omega
theorem divS_lt {x y r : Nat} (h : IsF .f32 (FloatKind.f32.format.div x y) r) : r < 4294967296 := isF_lt h fun v e => FloatKind.f32.format.div_lt e
theorem l01Plain_c {h0 h : Heap} {L : List Blk} {g : Nat} {cb : Option Addr} {cc K : Nat} {xs : List Int} (S : Src h0 h L g cb xs.length cc K) (C : Cells h0 cb (iv .u8 xs)) (hb : Byt xs) (hK : K ≤ 1048576) :
    CALL prg f_spec_l01Plain #[.pointer (some ⟨g, 0, none⟩)] (fun u h' => ∃ r, u = .float .f32 r ∧ r < 4294967296 ∧ Src h0 h' L g cb xs.length cc (K + 2)) h := by
  refine spec_l01Plain.call ((pick_c S C hb hK).mono ?_)
  rintro _ h1 ⟨v, rfl, v1, v2, v3, S⟩
  exact as_i fun r hr => ⟨r, rfl, divS_lt hr, S⟩
theorem l01Any_c {h0 h : Heap} {L : List Blk} {g : Nat} {cb : Option Addr} {cc K : Nat} {xs : List Int} (S : Src h0 h L g cb xs.length cc K) (C : Cells h0 cb (iv .u8 xs)) (hb : Byt xs) (hK : K ≤ 1000000) :
    CALL prg f_spec_l01Any #[.pointer (some ⟨g, 0, none⟩)] (fun u h' => ∃ r, u = .float .f32 r ∧ r < 4294967296 ∧ Src h0 h' L g cb xs.length cc (K + 6)) h := by
  refine spec_l01Any.call ((pick_c S C hb (by omega)).mono ?_)
  rintro _ h1 ⟨v, rfl, v1, v2, v3, S⟩
  refine as_i ?_
  refine br (fun _ => ?_) fun _ => br (fun _ => ?_) fun _ => br (fun _ => ?_) fun _ => br (fun _ => ?_) fun _ => br (fun _ => ?_) fun _ => br (fun _ => ?_) fun _ => br (fun _ => ?_) fun _ => br (fun _ => ?_) fun _ => br (fun _ => ?_) fun _ => ?_
  · exact NaN_c.go fun h' x => as_f fun r hr => ⟨r, rfl, isFF_lt hr, (S.grow x).mono (by omega)⟩
  · refine (Inf_c _ _).mono ?_
    rintro _ h2 ⟨q, rfl, x⟩
    exact as_f fun r hr => ⟨r, rfl, isFF_lt hr, (S.grow x).mono (by omega)⟩
  · refine (Inf_c _ _).mono ?_
    rintro _ h2 ⟨q, rfl, x⟩
    exact as_f fun r hr => ⟨r, rfl, isFF_lt hr, (S.grow x).mono (by omega)⟩
  · exact (frombits_c _).go fun h' x => as_f ⟨_, rfl, by decide, (S.grow x).mono (by omega)⟩
  · refine (pick_c S C hb (by omega)).mono ?_
    rintro _ h2 ⟨w, rfl, _, _, _, S⟩
    exact as_i ((frombits_c _).go fun h' x => as_f ⟨_, rfl, u32_lt _, (S.grow x).mono (by omega)⟩)
  · refine (pick_c S C hb (by omega)).mono ?_
    rintro _ h2 ⟨w, rfl, _, _, _, S⟩
    exact as_i ((frombits_c _).go fun h' x => as_f ⟨_, rfl, u32_lt _, (S.grow x).mono (by omega)⟩)
  · refine (pick_c S C hb (by omega)).mono ?_
    rintro _ h2 ⟨w, rfl, _, _, _, S⟩
    refine as_i ((pick_c S C hb (by omega)).mono ?_)
    rintro _ h3 ⟨w', rfl, _, _, _, S⟩
    exact as_i ((frombits_c _).go fun h' x => as_f ⟨_, rfl, u32_lt _, (S.grow x).mono (by omega)⟩)
  · refine (pick_c S C hb (by omega)).mono ?_
    rintro _ h2 ⟨w, rfl, _, _, _, S⟩
    exact as_i fun r hr => ⟨r, rfl, divS_lt hr, S.mono (by omega)⟩
  · refine (pick_c S C hb (by omega)).mono ?_
    rintro _ h2 ⟨w, rfl, _, _, _, S⟩
    exact as_i fun r hr r2 hr2 => ⟨r2, rfl, divS_lt hr2, S.mono (by omega)⟩
  · refine (l01Plain_c S C hb (by omega)).mono ?_
    rintro _ h2 ⟨r, rfl, hr, S⟩
    exact as_f ⟨r, rfl, hr, S.mono (by omega)⟩
theorem one_c {h0 h : Heap} {L : List Blk} {g : Nat} {cb : Option Addr} {cc K : Nat} {xs : List Int} {n : Int} (S : Src h0 h L g cb xs.length cc K) (C : Cells h0 cb (iv .u8 xs)) (hb : Byt xs) (hK : K ≤ 1048576) :
    CALL prg f_p_spec_l00Src_one #[.pointer (some ⟨g, 0, none⟩), .int .i64 n] (fun u h' => ∃ b, u = .bool b ∧ Src h0 h' L g cb xs.length cc (K + 2)) h := by
  refine p_spec_l00Src_one.call ((pick_c S C hb hK).mono ?_)
  rintro _ h1 ⟨v, rfl, v1, v2, v3, S⟩
  exact as_i ⟨_, rfl, S⟩
theorem perm_mid {α : Type} (a : α) (B L : List α) : (a :: (B ++ L)).Perm (B ++ a :: L) := (List.perm_middle (a := a) (l₁ := B) (l₂ := L)).symm
/-- A slice of floats that is made while the machine draws. -/
theorem Src.push {h0 h : Heap} {B L : List Blk} {g : Nat} {cb : Option Addr} {cl cc K : Nat} {b : Option Addr} {l c r : Nat} {fs : List Nat} (S : Src h0 h (B ++ L) g cb cl cc K) (O : Own B T_float32 1 b l c (fv .f32 fs)) (hl : l ≤ 1048576) {Q : Value → Heap → Prop}
    (H : ∀ b' c' B' h', Src h0 h' (B' ++ L) g cb cl cc K → Own B' T_float32 1 b' (l + 1) c' (fv .f32 (fs ++ [r])) → Q (.slice b' (l + 1) c') h') :
    ALC ⟨[.float .f32 r]⟩ T_float32 (fun g h => SEMV prg (Builtin.append_ #[T_sl_float32, T_sl_float32] T_sl_float32 #[.slice b l c, .slice (some ⟨g, 0, none⟩) 1 1]) Q h) h := by
  obtain ⟨p, st, hp, M⟩ := S
  refine push_float (O.sl (M.perm (perm_mid _ _ _))) hl fun b' c' h' S' => ?_
  obtain ⟨B', O', M'⟩ := S'.own
  exact H b' c' B' h' ⟨p, st, hp, M'.perm (perm_mid _ _ _).symm⟩ O'
/-- Samples, drawn. -/
def Drawn (h0 h' : Heap) (L : List Blk) (u : Value) : Prop := ∃ b l c fs B, u = .slice b l c ∧ Own B T_float32 1 b l c (fv .f32 fs) ∧ Mem h0 h' (B ++ L) ∧ fs.length = l ∧ l ≤ 4097 ∧ ∀ a ∈ fs, a < 4294967296
theorem l01Samples_c {h0 h : Heap} {L : List Blk} {g : Nat} {cb : Option Addr} {cc K : Nat} {xs : List Int} {most : Nat} (S : Src h0 h L g cb xs.length cc K) (C : Cells h0 cb (iv .u8 xs)) (hb : Byt xs) (hK : K ≤ 1000) (hmost : most ≤ 4096) :
    CALL prg f_spec_l01Samples #[.pointer (some ⟨g, 0, none⟩), .int .i64 (most : Int)] (fun u h' => ∃ K', K' ≤ 100000 ∧ ∃ b l c fs B, u = .slice b l c ∧ Own B T_float32 1 b l c (fv .f32 fs) ∧ Src h0 h' (B ++ L) g cb xs.length cc K' ∧ fs.length = l ∧ l ≤ 4097 ∧ ∀ a ∈ fs, a < 4294967296) h := by
  refine spec_l01Samples.call ?_
  obtain ⟨p, st, hp, M⟩ := S
  refine M.alc fun g1 h1 _ M => ?_
  rw [wrap64_succ (by omega)]
  have O0 : Own [(g1, T_float32, ⟨[]⟩)] T_float32 1 (some ⟨g1, 0, none⟩) 0 0 (fv .f32 []) := by
    have := Own.one (g := g1) (e := T_float32) (sz := 1) (l := 0) (c := 0) (cs := ⟨[]⟩) (Nat.le_refl _) (Nat.zero_le _) (by simp)
    simpa [fv] using this
  have S : Src h0 h1 ([(g1, T_float32, ⟨[]⟩)] ++ L) g cb xs.length cc K := ⟨p, st, hp, M.perm (.swap _ _ _)⟩
  refine (pick_c S C hb (by omega)).mono ?_
  rintro _ h2 ⟨v, rfl, v1, v2, v3, S⟩
  refine as_i ?_
  have hv : v ≤ 4096 := by rcases v2 with e | e <;> omega
  refine loop (fun x hh => ∃ (i K' : Nat) (b : Option Addr) (l c : Nat) (fs : List Nat) (B : List Blk), x = (⟨g, 0, none⟩, b, l, c, (i : Int)) ∧ (i : Int) ≤ v ∧ (l : Int) + i = v ∧ K' = K + 2 + 6 * l ∧ Own B T_float32 1 b l c (fv .f32 fs) ∧ Src h0 hh (B ++ L) g cb xs.length cc K' ∧ fs.length = l ∧ ∀ a ∈ fs, a < 4294967296) (fun x => x.2.2.2.2.toNat)
    ⟨v.toNat, K + 2, some ⟨g1, 0, none⟩, 0, 0, [], _, by rw [show ((v.toNat : Nat) : Int) = v by omega], by omega, by omega, by omega, O0, S, rfl, fun a ha => by cases ha⟩ ?_
  rintro x hh ⟨i, K', b, l, c, fs, B, rfl, hi, hli, rfl, O, S, hfl, hfs⟩
  refine brd (fun hc => ?_) fun hc => ?_
  · refine (l01Any_c S C hb (by omega)).mono ?_
    rintro _ h3 ⟨r, rfl, hr, S⟩
    refine as_f (S.push O (by omega) fun b' c' B' h' S O => as_l ?_)
    obtain ⟨j, rfl⟩ : ∃ j, i = j + 1 := ⟨i - 1, by omega⟩
    rw [wrap64 (by omega) (by omega)]
    refine ⟨⟨j, K + 2 + 6 * (l + 1), b', l + 1, c', fs ++ [r], B', by rw [show ((j + 1 : Nat) : Int) - 1 = (j : Int) by omega], by omega, by omega, rfl, O, S.mono (by omega), by simp [hfl], fun a ha => ?_⟩, ?_⟩
    · rcases List.mem_append.1 ha with ha | ha
      · exact hfs a ha
      · simp at ha; omega
    · show (((j + 1 : Nat) : Int) - 1).toNat < ((j + 1 : Nat) : Int).toNat; omega
  · refine (one_c S C hb (by omega)).mono ?_
    rintro _ h3 ⟨bb, rfl, S⟩
    refine as_b (br (fun _ => ?_) fun _ => ⟨_, by omega, b, l, c, fs, B, rfl, O, S, hfl, by omega, hfs⟩)
    refine (pick_c S C hb (by omega)).mono ?_
    rintro _ h4 ⟨w, rfl, w1, w2, w3, S⟩
    refine as_i ?_
    have hw : w ≤ 1 := by rcases w2 with e | e <;> omega
    rw [wrap64 (by omega) (by omega), show (4096 : Int) + w = ((4096 + w.toNat : Nat) : Int) by omega]
    obtain ⟨p, st, hp, M⟩ := S
    refine mks1 M rfl rfl (by show 4 * (4096 + w.toNat) ≤ 2 ^ 48; omega) (by omega) fun g2 h5 _ M => ?_
    rw [Int.toNat_natCast]
    have Oz : Own [(g2, T_float32, ⟨List.replicate (4096 + w.toNat) (.float .f32 0)⟩)] T_float32 1 (some ⟨g2, 0, none⟩) (4096 + w.toNat) (4096 + w.toNat) (fv .f32 (List.replicate (4096 + w.toNat) 0)) := by
      have := Own.one (g := g2) (e := T_float32) (sz := 1) (l := 4096 + w.toNat) (c := 4096 + w.toNat) (cs := ⟨List.replicate (4096 + w.toNat) (.float .f32 0)⟩) (Nat.le_refl _) (by simp [maxLen]; omega) (by simp)
      simpa [fv, List.map_replicate, List.take_replicate] using this
    refine ⟨_, ?_, some ⟨g2, 0, none⟩, 4096 + w.toNat, 4096 + w.toNat, _, _, rfl, Oz, ⟨p, st, hp, ?_⟩, by simp, by omega, fun a ha => ?_⟩
    · omega
    · have := M.perm (.swap _ _ _)
      refine this.sub ?_
      exact (((List.sublist_append_right B L).cons_cons _).cons_cons _)
    · have := List.eq_of_mem_replicate ha; omega
theorem P6Samples_c {h : Heap} {b : Option Addr} {c : Nat} {xs : List Int} {most : Nat} (C : Cells h b (iv .u8 xs)) (hb : Byt xs) (hmost : most ≤ 4096) :
    CALL prg f_spec_P6Samples #[.slice b xs.length c, .int .i64 (most : Int)] (fun u h' => Drawn h h' [] u) h := by
  refine spec_P6Samples.call ?_
  refine (l00From_c (Mem.start h)).mono ?_
  rintro _ h1 ⟨g, rfl, S⟩
  refine as_p ((l01Samples_c S C hb (by omega) hmost).mono ?_)
  rintro _ h2 ⟨K', hK', b, l, c, fs, B, rfl, O, S, hfl, hl, hfs⟩
  exact as_l ⟨b, l, c, fs, B, rfl, O, S.mem, hfl, hl, hfs⟩
end Go.Sx
