/- TornSamples: what it computes. -/
import Derived.Test.YtjoajnmhdobbfaaLfl
import Derived.Test.YtjoajnmhdobbfaaLc2
import Derived.Test.YtjoajnmhdobbfaaG1
import Derived.Test.YtjoajnmhdobbfaaTabE
namespace Go.Sx
set_option maxRecDepth 100000
open Go.Proofs
set_option linter.unusedVariables false
set_option linter.unusedSimpArgs false

def Byt (xs : List Int) : Prop := ∀ x ∈ xs, 0 ≤ x ∧ x < 256
theorem Byt.drop {xs : List Int} (h : Byt xs) (n : Nat) : Byt (xs.drop n) := fun x hx => h x (List.mem_of_mem_drop hx)
theorem Byt.take {xs : List Int} (h : Byt xs) (n : Nat) : Byt (xs.take n) := fun x hx => h x (List.mem_of_mem_take hx)
theorem Byt.at {xs : List Int} (h : Byt xs) {i : Nat} (hi : i < xs.length) : 0 ≤ xs[i] ∧ xs[i] < 256 := h _ (List.getElem_mem hi)
/-- Little end first. -/
def le (xs : List Int) : Int := xs.foldr (fun b n => n * 256 + b) 0
theorem le_nonneg {xs : List Int} (h : Byt xs) : 0 ≤ le xs := by
  induction xs with
  | nil => exact Int.le_refl _
  | cons x xs ih =>
    have h1 := ih fun y hy => h y (.tail _ hy)
    have h2 := h x (.head _)
    show 0 ≤ le xs * 256 + x
    omega
theorem le_lt {xs : List Int} (h : Byt xs) : le xs < 256 ^ xs.length := by
  induction xs with
  | nil => decide
  | cons x xs ih =>
    have h1 := ih fun y hy => h y (.tail _ hy)
    have h2 := h x (.head _)
    show le xs * 256 + x < 256 ^ (xs.length + 1)
    rw [Int.pow_succ]
    omega
theorem or_add {k : IntKind} {x y : Nat} {i : Nat} (hx : x < 2 ^ i) (hb : x + y * 2 ^ i < 2 ^ k.bits) (hk : k.signed = false) : bitI .or k (x : Int) ((y * 2 ^ i : Nat) : Int) = ((x + y * 2 ^ i : Nat) : Int) := by
  have e : x ||| y * 2 ^ i = x + y * 2 ^ i := by
    rw [Nat.or_comm, Nat.add_comm, ← Nat.shiftLeft_eq]
    exact (Nat.shiftLeft_add_eq_or_of_lt hx y).symm
  simp only [bitI]
  have e2 : (BitVec.ofInt k.bits (x : Int) ||| BitVec.ofInt k.bits ((y * 2 ^ i : Nat) : Int)).toNat = x + y * 2 ^ i := by
    rw [BitVec.toNat_or, BitVec.ofInt_natCast, BitVec.ofInt_natCast, BitVec.toNat_ofNat, BitVec.toNat_ofNat, Nat.mod_eq_of_lt (by omega), Nat.mod_eq_of_lt (by omega), e]
  rw [e2]
  simp only [IntKind.wrap, hk, Bool.false_and, Bool.false_eq_true, if_false]
  have : ((2 : Int) ^ k.bits) = ((2 ^ k.bits : Nat) : Int) := by norm_cast
  rw [this]
  exact Int.emod_eq_of_lt (by omega) (by omega)


theorem wrapu {k : IntKind} {n : Int} (hk : k.signed = false) (h1 : 0 ≤ n) (h2 : n < 2 ^ k.bits) : k.wrap n = n := by
  simp only [IntKind.wrap, hk, Bool.false_and, Bool.false_eq_true, if_false]
  exact Int.emod_eq_of_lt h1 h2
theorem or_add' {k : IntKind} {x y : Nat} {i : Nat} (hx : x < 2 ^ i) (hb : x + y * 2 ^ i < 2 ^ k.bits) (hk : k.signed = false) : bitI .or k ((y * 2 ^ i : Nat) : Int) (x : Int) = ((x + y * 2 ^ i : Nat) : Int) := by
  rw [← or_add hx hb hk]
  simp only [bitI]
  rw [BitVec.or_comm]
theorem shl_add {k : IntKind} {x : Nat} {i : Nat} (hk : k.signed = false) (hi : i ≤ k.bits) (h : x * 2 ^ i < 2 ^ k.bits) : shlI k (x : Int) (i : Int) = ((x * 2 ^ i : Nat) : Int) := by
  unfold shlI
  rw [Int.toNat_natCast, Nat.min_eq_left hi]
  rw [show (x : Int) * 2 ^ i = ((x * 2 ^ i : Nat) : Int) by norm_cast]
  exact wrapu hk (by omega) (by exact_mod_cast h)
theorem four_u32 (a b c d : Int) (ha : 0 ≤ a ∧ a < 256) (hb : 0 ≤ b ∧ b < 256) (hc : 0 ≤ c ∧ c < 256) (hd : 0 ≤ d ∧ d < 256) :
    bitI .or .u32 (bitI .or .u32 (bitI .or .u32 (IntKind.u32.wrap a) (shlI .u32 (IntKind.u32.wrap b) 8)) (shlI .u32 (IntKind.u32.wrap c) 16)) (shlI .u32 (IntKind.u32.wrap d) 24) = le [a, b, c, d] := by
  obtain ⟨a, rfl⟩ := Int.eq_ofNat_of_zero_le ha.1
  obtain ⟨b, rfl⟩ := Int.eq_ofNat_of_zero_le hb.1
  obtain ⟨c, rfl⟩ := Int.eq_ofNat_of_zero_le hc.1
  obtain ⟨d, rfl⟩ := Int.eq_ofNat_of_zero_le hd.1
  have e : (2 : Int) ^ IntKind.u32.bits = 4294967296 := by decide
  have e' : (2 : Nat) ^ IntKind.u32.bits = 4294967296 := by decide
  rw [wrapu rfl (by omega) (by rw [e]; omega), wrapu rfl (by omega) (by rw [e]; omega), wrapu rfl (by omega) (by rw [e]; omega), wrapu rfl (by omega) (by rw [e]; omega)]
  have s1 := shl_add (k := .u32) (x := b) (i := 8) rfl (by decide) (by rw [e']; omega)
  have s2 := shl_add (k := .u32) (x := c) (i := 16) rfl (by decide) (by rw [e']; omega)
  have s3 := shl_add (k := .u32) (x := d) (i := 24) rfl (by decide) (by rw [e']; omega)
  rw [show (8 : Int) = ((8 : Nat) : Int) from rfl, show (16 : Int) = ((16 : Nat) : Int) from rfl, show (24 : Int) = ((24 : Nat) : Int) from rfl, s1, s2, s3]
  rw [or_add (by omega) (by rw [e']; omega) rfl, or_add (by omega) (by rw [e']; omega) rfl, or_add (by omega) (by rw [e']; omega) rfl]
  simp only [le, List.foldr]
  omega
theorem list4 {α : Type} {xs : List α} (h : 4 ≤ xs.length) : ∃ a b c d r, xs = a :: b :: c :: d :: r := by
  match xs, h with
  | a :: b :: c :: d :: r, _ => exact ⟨a, b, c, d, r, rfl⟩
theorem l10Number_c {h : Heap} {b : Option Addr} {l c : Nat} {xs : List Int} (C : Cells h b (iv .u8 xs)) (hl : xs.length = l) (hb : Byt xs) (h4 : 4 ≤ xs.length) :
    CALL prg f_spec_l10Number #[.slice b l c] (fun u h' => u = .int .u32 (le (xs.take 4)) ∧ Ext h h') h := by
  refine spec_l10Number.call ?_
  obtain ⟨a, rfl⟩ := C.base (by simp [iv]; omega)
  obtain ⟨x0, x1, x2, x3, r, rfl⟩ := list4 h4
  refine idxs (by omega) (by omega) (o_i (C.get0 rfl) ?_)
  refine idxs (by omega) (by omega) (o_i (C.get rfl) (nn (by omega) ?_))
  refine idxs (by omega) (by omega) (o_i (C.get rfl) (nn (by omega) ?_))
  refine idxs (by omega) (by omega) (o_i (C.get rfl) (nn (by omega) ?_))
  refine ⟨?_, Ext.refl _⟩
  rw [four_u32 _ _ _ _ (hb _ (by simp)) (hb _ (by simp)) (hb _ (by simp)) (hb _ (by simp))]
  rfl
theorem le_drop {xs : List Int} {m : Nat} (h : m < xs.length) : le (xs.drop m) = le (xs.drop (m + 1)) * 256 + xs[m] := by
  rw [List.drop_eq_getElem_cons h]; rfl
theorem pow256 {m n q : Nat} (h : m ≤ n) (e : 256 ^ n = q) : (256 : Int) ^ m ≤ (q : Nat) := by
  rw [show (256 : Int) ^ m = ((256 ^ m : Nat) : Int) from (Int.natCast_pow 256 m).symm]
  have := Nat.pow_le_pow_right (show 0 < 256 by decide) h
  omega
theorem littleOf_c {h : Heap} {b : Option Addr} {l c : Nat} {xs : List Int} (C : Cells h b (iv .u8 xs)) (hl : xs.length = l) (hb : Byt xs) (h4 : xs.length ≤ 4) :
    CALL prg f_impl_littleOf #[.slice b l c] (fun u h' => u = .int .u64 (le xs) ∧ Ext h h') h := by
  subst hl
  refine impl_littleOf.call ?_
  refine loop (fun x hh => hh = h ∧ ∃ m : Nat, x = (b, xs.length, c, le (xs.drop m), (m : Int) - 1) ∧ m ≤ xs.length) (fun x => (x.2.2.2.2 + 1).toNat)
    ⟨rfl, xs.length, by rw [wrap64 (by omega) (by omega), List.drop_of_length_le (Nat.le_refl _)]; rfl, Nat.le_refl _⟩ ?_
  rintro x hh ⟨rfl, m, rfl, hm⟩
  refine brd (fun hc => nn (by omega) ?_) fun hc => ?_
  · obtain ⟨m, rfl⟩ : ∃ k, m = k + 1 := ⟨m - 1, by omega⟩
    obtain ⟨a, rfl⟩ := C.base (by simp [iv]; omega)
    have e0 : ((m + 1 : Nat) : Int) - 1 = (m : Int) := by omega
    rw [e0]
    refine idxs (by omega) (by omega) ?_
    simp only [Int.toNat_natCast, Nat.mul_one]
    refine o_i (C.get (iv_get (by omega))) ?_
    refine ⟨⟨by first | exact rfl | trivial, m, ?_, by omega⟩, ?_⟩
    · rw [wrap64 (by omega) (by omega)]
      have hx := hb.at (i := m) (by omega)
      have hn := le_nonneg (hb.drop (m + 1))
      have hlt := le_lt (hb.drop (m + 1))
      have hle : (256 : Int) ^ (xs.drop (m + 1)).length ≤ 16777216 := pow256 (n := 3) (by simp; omega) (by decide)
      rw [le_drop (m := m) (by omega)]
      generalize le (xs.drop (m + 1)) = q at hn hlt ⊢
      generalize xs[m] = y at hx ⊢
      obtain ⟨q, rfl⟩ := Int.eq_ofNat_of_zero_le hn
      obtain ⟨y, rfl⟩ := Int.eq_ofNat_of_zero_le hx.1
      have e : (2 : Int) ^ IntKind.u64.bits = 18446744073709551616 := by decide
      have e' : (2 : Nat) ^ IntKind.u64.bits = 18446744073709551616 := by decide
      have hq : q < 16777216 := by omega
      have s1 := shl_add (k := .u64) (x := q) (i := 8) rfl (by decide) (by rw [e']; omega)
      rw [wrapu rfl (by omega) (by rw [e]; omega), show (8 : Int) = ((8 : Nat) : Int) from rfl, s1, or_add' (by omega) (by rw [e']; omega) rfl]
      congr 4
      omega
    · rw [wrap64 (by omega) (by omega)]; show ((m : Int) - 1 + 1).toNat < ((m : Int) + 1).toNat; omega
  · obtain rfl : m = 0 := by omega
    exact ⟨rfl, Ext.refl _⟩
theorem isLong_c {h : Heap} {b : Option Addr} {l c : Nat} : CALL prg f_impl_isLongFile #[.slice b l c] (fun u h' => u = .bool (decide (16400 < l)) ∧ Ext h h') h :=
  impl_isLongFile.call ⟨by congr 1; rw [decide_eq_decide]; omega, Ext.refl _⟩
theorem l10Long_c {h : Heap} {b : Option Addr} {l c : Nat} : CALL prg f_spec_l10Long #[.slice b l c] (fun u h' => u = .bool (decide (16400 < l)) ∧ Ext h h') h :=
  spec_l10Long.call ⟨by congr 1; rw [decide_eq_decide]; omega, Ext.refl _⟩
def width (k : Int) : Int := if k = 1 then 2 else if k = 2 then 4 else 0
theorem l10Width_c (k : Int) : Ret prg f_spec_l10Width #[.int .i64 k] (.int .i64 (width k)) := fun h => by
  refine spec_l10Width.call ?_
  (repeat' (first | refine Mem.alc (by assumption) fun _ _ _ _ => ?_ | refine Mem.oI (by assumption) (by repeat constructor) rfl ?_ | refine Mem.oF (by assumption) (by repeat constructor) rfl ?_ | refine Mem.oB (by assumption) (by repeat constructor) rfl ?_ | refine Mem.oS (by assumption) (by repeat constructor) rfl ?_ | refine Mem.oL (by assumption) (by repeat constructor) rfl ?_ | refine Mem.oV (by assumption) (by repeat constructor) rfl ?_ | refine Mem.st1 (by assumption) (by repeat constructor) (by first | exact of_decide_eq_true rfl | simp | (simp; omega)) (by repeat constructor) fun _ _ => ?_ | refine Mem.lda0 (by assumption) (by repeat constructor) rfl ?_ | refine Mem.sta0 (by assumption) (by repeat constructor) rfl (all_one rfl) rfl (by repeat constructor) fun _ _ => ?_ | refine as_i ?_ | refine as_f ?_ | refine as_b ?_ | refine as_s ?_ | refine as_p ?_ | refine as_l ?_ | refine as_a ?_ | refine tup2 ?_ | refine tup3 ?_ | refine tup4 ?_ | refine tup5 ?_ | refine br (fun _ => ?_) (fun _ => ?_)))
  all_goals (refine ⟨?_, Ext.refl _⟩; simp_all [width])
theorem l10Rate_c (k : Int) : Ret prg f_spec_l10Rate #[.int .i64 k] (.bool (inR k 1 1000000)) := fun h => by
  refine spec_l10Rate.call ?_
  exact (l00In_c _ _ _).go fun h' x => ⟨rfl, x⟩
theorem isSoundKind_c (k : Int) : Ret prg f_impl_isSoundKind #[.int .i64 k] (.bool (inR k 1 2)) := fun h => by
  refine impl_isSoundKind.call ?_
  exact (within_c _ _ _).go fun h' x => ⟨rfl, x⟩
theorem sampleSize_c (k : Int) (hk : inR k 1 2 = true) : Ret prg f_impl_sampleSize #[.int .i64 k] (.int .i64 (width k)) := fun h => by
  refine impl_sampleSize.call ⟨?_, Ext.refl _⟩
  have : k = 1 ∨ k = 2 := by simp [inR] at hk; omega
  rcases this with rfl | rfl <;> rfl
theorem frombits_c (n : Int) : Ret prg f_math_Float32frombits #[.int .u32 n] (.float .f32 n.toNat) :=
  ext_ret (e := Extern.MathFloatBits.float32frombits) X_math_Float32frombits (by kernel_rfl) (by kernel_rfl) (by kernel_rfl) (by kernel_rfl) fun w => rfl
def kindOf (xs : List Int) : Int := xs.getD 3 0
def rateOf (xs : List Int) : Int := le ((xs.drop 4).take 4)
def countOf (xs : List Int) : Int := le ((xs.drop 8).take 4)
def okHead (xs : List Int) : Bool := decide (12 ≤ xs.length) && decide (xs.take 3 = [83, 80, 70]) && inR (kindOf xs) 1 2 && inR (rateOf xs) 1 1000000 && decide (countOf xs ≤ 4096)
theorem bstr_inj {xs ys : List Int} (hx : Byt xs) (hy : Byt ys) (e : bstr xs = bstr ys) : xs = ys := by
  have e1 : xs.map (fun n : Int => UInt8.ofNat n.toNat) = ys.map (fun n : Int => UInt8.ofNat n.toNat) := by
    simpa [bstr] using e
  clear e
  induction xs generalizing ys with
  | nil => cases ys with
    | nil => rfl
    | cons y ys => simp at e1
  | cons x xs ih => cases ys with
    | nil => simp at e1
    | cons y ys =>
      simp only [List.map_cons, List.cons.injEq] at e1
      have h1 := hx x (.head _)
      have h2 := hy y (.head _)
      have h3 := congrArg UInt8.toNat e1.1
      simp at h3
      rw [ih (fun z hz => hx z (.tail _ hz)) (fun z hz => hy z (.tail _ hz)) e1.2, show x = y by omega]
theorem spf {xs : List Int} (hb : Byt xs) : (!((bstr xs).toList == (⟨#[83, 80, 70]⟩ : ByteArray).toList)) = !decide (xs = [83, 80, 70]) := by
  rw [str_eq]
  congr 1
  rw [show (⟨#[83, 80, 70]⟩ : ByteArray) = bstr [83, 80, 70] from by decide +kernel]
  rw [decide_eq_decide]
  exact ⟨fun h => bstr_inj hb (fun x hx => by simp at hx; omega) h, fun h => by rw [h]⟩
theorem le4 {xs : List Int} (hb : Byt xs) : 0 ≤ le (xs.take 4) ∧ le (xs.take 4) < 4294967296 := by
  refine ⟨le_nonneg (hb.take 4), ?_⟩
  have h1 := le_lt (hb.take 4)
  have h3 : (256 : Int) ^ (xs.take 4).length ≤ 4294967296 := pow256 (n := 4) (by simp; omega) (by decide)
  omega
theorem l10Head_c {h : Heap} {b : Option Addr} {l c : Nat} {xs : List Int} (C : Cells h b (iv .u8 xs)) (hl : xs.length = l) (hc : l ≤ c) (hb : Byt xs) (hm : l ≤ 1048576) :
    CALL prg f_spec_l10Head #[.slice b l c] (fun u h' => (∃ k r n, u = .tuple ⟨[.int .i64 k, .int .i64 r, .int .i64 n, .bool (okHead xs)]⟩ ∧ (okHead xs = true → k = kindOf xs ∧ r = rateOf xs ∧ n = countOf xs)) ∧ Ext h h') h := by
  subst hl
  refine spec_l10Head.call ?_
  refine brd (fun h1 => ⟨⟨0, 0, 0, ?_⟩, Ext.refl _⟩) fun h1 => ?_
  · have : okHead xs = false := by simp [okHead]; omega
    rw [this]; exact ⟨rfl, fun h => by cases h⟩
  refine slb (by omega) (by omega) (by omega) ?_
  have C3 : Cells h (slA b c 0 1) (iv .u8 (xs.take 3)) := by
    have := (C.sub (cap := c) (lo := 0) (sz := 1) (by rw [iv_len]; omega)).take (n := 3)
    simpa [iv] using this
  refine bytes_str U_sl_uint8 U_uint8 U_string C3 (by simp; omega) (as_s ?_)
  rw [spf (hb.take 3)]
  refine br (fun h2 => ⟨⟨0, 0, 0, ?_⟩, Ext.refl _⟩) fun h2 => ?_
  · have : okHead xs = false := by simp [okHead]; simp_all
    rw [this]; exact ⟨rfl, fun h => by cases h⟩
  have h2 : xs.take 3 = [83, 80, 70] := by simpa using h2
  obtain ⟨a, rfl⟩ := C.base (by simp [iv]; omega)
  have hlen : 12 ≤ xs.length := by omega
  have k3 : kindOf xs = xs[3]'(by omega) := by simp [kindOf, hlen]; rw [List.getElem?_eq_getElem (by omega)]; rfl
  have hk := hb.at (i := 3) (by omega)
  have w1 : IntKind.i64.wrap (xs[3]'(by omega)) = kindOf xs := by rw [wrap64 (by omega) (by omega), k3]
  have w2 : IntKind.i64.wrap (le ((xs.drop 4).take 4)) = rateOf xs := by have := le4 (hb.drop 4); rw [wrap64 (by omega) (by omega)]; rfl
  have w3 : IntKind.i64.wrap (le ((xs.drop 8).take 4)) = countOf xs := by have := le4 (hb.drop 8); rw [wrap64 (by omega) (by omega)]; rfl
  have C4 : Cells h (slA (some a) c 4 1) (iv .u8 (xs.drop 4)) := by simpa [iv] using C.sub (cap := c) (lo := 4) (sz := 1) (by rw [iv_len]; omega)
  have C8 : Cells h (slA (some a) c 8 1) (iv .u8 (xs.drop 8)) := by simpa [iv] using C.sub (cap := c) (lo := 8) (sz := 1) (by rw [iv_len]; omega)
  unfold spec_l10Head.J3
  refine idxs (by omega) (by omega) ?_
  refine o_i (C.get (i := 3) (iv_get (by omega))) (slb (by omega) (by omega) (by omega) ?_)
  refine (l10Number_c C4 (by simp) (hb.drop 4) (by simp; omega)).mono ?_
  rintro _ h3 ⟨rfl, x3⟩
  refine as_i (slb (by omega) (by omega) (by omega) ?_)
  refine (l10Number_c (C8.ext x3) (by simp) (hb.drop 8) (by simp; omega)).mono ?_
  rintro _ h4 ⟨rfl, x4⟩
  refine as_i ?_
  rw [w1, w2, w3]
  refine (l10Width_c _).go fun h5 x5 => as_i ?_
  have X5 := (x3.trans x4).trans x5
  have no : ∀ {h'}, Ext h h' → okHead xs = false → (∃ k r n, Value.tuple ⟨[.int .i64 (0 : Int), .int .i64 (0 : Int), .int .i64 (0 : Int), .bool false]⟩ = .tuple ⟨[.int .i64 k, .int .i64 r, .int .i64 n, .bool (okHead xs)]⟩ ∧ (okHead xs = true → k = kindOf xs ∧ r = rateOf xs ∧ n = countOf xs)) ∧ Ext h h' :=
    fun x e => ⟨⟨0, 0, 0, by rw [e], fun h => by rw [e] at h; cases h⟩, x⟩
  have hw : (width (kindOf xs) == 0) = !inR (kindOf xs) 1 2 := by
    unfold width inR
    by_cases e1 : kindOf xs = 1
    · rw [e1]; rfl
    · by_cases e2 : kindOf xs = 2
      · rw [e2]; rfl
      · rw [if_neg e1, if_neg e2]; symm; simp; omega
  rw [hw]
  refine br (fun h6 => no X5 (by simp_all [okHead])) fun h6 => ?_
  refine (l10Rate_c _).go fun h7 x7 => ?_
  refine br (fun h8 => no (X5.trans x7) (by simp_all [okHead])) fun h8 => ?_
  refine brd (fun h9 => no (X5.trans x7) (by simp [okHead]; intros; omega)) fun h9 => ?_
  have : okHead xs = true := by simp_all [okHead]
  exact ⟨⟨_, _, _, by rw [this], fun _ => ⟨rfl, rfl, rfl⟩⟩, X5.trans x7⟩
theorem soundHead_c {h : Heap} {b : Option Addr} {l c : Nat} {xs : List Int} (C : Cells h b (iv .u8 xs)) (hl : xs.length = l) (hc : l ≤ c) (hb : Byt xs) (hm : l ≤ 1048576) :
    CALL prg f_impl_soundHead #[.slice b l c] (fun u h' => (∃ k r n, u = .tuple ⟨[.int .i64 k, .int .i64 r, .int .i64 n, .bool (okHead xs)]⟩ ∧ (okHead xs = true → k = kindOf xs ∧ r = rateOf xs ∧ n = countOf xs)) ∧ Ext h h') h := by
  subst hl
  refine impl_soundHead.call ?_
  refine brd (fun h1 => ⟨⟨0, 0, 0, ?_⟩, Ext.refl _⟩) fun h1 => ?_
  · have : okHead xs = false := by simp [okHead]; omega
    rw [this]; exact ⟨rfl, fun h => by cases h⟩
  refine slb (by omega) (by omega) (by omega) ?_
  have C3 : Cells h (slA b c 0 1) (iv .u8 (xs.take 3)) := by
    have := (C.sub (cap := c) (lo := 0) (sz := 1) (by rw [iv_len]; omega)).take (n := 3)
    simpa [iv] using this
  refine bytes_str U_sl_uint8 U_uint8 U_string C3 (by simp; omega) (as_s ?_)
  rw [spf (hb.take 3)]
  refine br (fun h2 => ⟨⟨0, 0, 0, ?_⟩, Ext.refl _⟩) fun h2 => ?_
  · have : okHead xs = false := by simp [okHead]; simp_all
    rw [this]; exact ⟨rfl, fun h => by cases h⟩
  have h2 : xs.take 3 = [83, 80, 70] := by simpa using h2
  obtain ⟨a, rfl⟩ := C.base (by simp [iv]; omega)
  have hlen : 12 ≤ xs.length := by omega
  have k3 : kindOf xs = xs[3]'(by omega) := by simp [kindOf, hlen]; rw [List.getElem?_eq_getElem (by omega)]; rfl
  have hk := hb.at (i := 3) (by omega)
  have w1 : IntKind.i64.wrap (xs[3]'(by omega)) = kindOf xs := by rw [wrap64 (by omega) (by omega), k3]
  have w2 : IntKind.i64.wrap (le ((xs.drop 4).take 4)) = rateOf xs := by have := le4 (hb.drop 4); rw [wrap64 (by omega) (by omega)]; rfl
  have w3 : IntKind.i64.wrap (le ((xs.drop 8).take 4)) = countOf xs := by have := le4 (hb.drop 8); rw [wrap64 (by omega) (by omega)]; rfl
  have C4 : Cells h (slA (some a) c 4 1) (iv .u8 ((xs.drop 4).take 4)) := by simpa [iv] using (C.sub (cap := c) (lo := 4) (sz := 1) (by rw [iv_len]; omega)).take (n := 4)
  have C8 : Cells h (slA (some a) c 8 1) (iv .u8 ((xs.drop 8).take 4)) := by simpa [iv] using (C.sub (cap := c) (lo := 8) (sz := 1) (by rw [iv_len]; omega)).take (n := 4)
  unfold impl_soundHead.J3
  refine idxs (by omega) (by omega) ?_
  have hc3 := C.get (i := 3) (iv_get (by omega))
  refine o_i hc3 (slb (by omega) (by omega) (by omega) (slb (by omega) (by omega) (by omega) ?_))
  refine (littleOf_c C4 (by simp; omega) ((hb.drop 4).take 4) (by simp; omega)).mono ?_
  rintro _ h3 ⟨rfl, x3⟩
  refine as_i (pin1 x3 hc3 ?_)
  refine (littleOf_c (C8.ext x3) (by simp; omega) ((hb.drop 8).take 4) (by simp; omega)).mono ?_
  rintro _ h4 ⟨rfl, x4⟩
  refine as_i (pin1 (x3.trans x4) hc3 ?_)
  rw [w1, w2, w3]
  refine (isSoundKind_c _).go fun h5 x5 => ?_
  have X5 := (x3.trans x4).trans x5
  refine br (fun h6 => ?_) fun h6 => ⟨⟨_, _, _, by rw [show okHead xs = false by simp_all [okHead]], fun h => by simp_all [okHead]⟩, X5⟩
  refine (within_c _ _ _).go fun h7 x7 => ?_
  refine br (fun h8 => ⟨⟨_, _, _, ?_, fun _ => ⟨rfl, rfl, rfl⟩⟩, X5.trans x7⟩) fun h8 => ⟨⟨_, _, _, by rw [show okHead xs = false by simp_all [okHead]], fun h => by simp_all [okHead]⟩, X5.trans x7⟩
  have : decide (countOf xs ≤ 4096) = okHead xs := by
    rw [okHead, h2, h6, h8]; simp [hlen]
  rw [this]
def sampleOf (k : Int) (ys : List Int) : Nat :=
  cn .f32 (if k = 1 then (FloatKind.f32.format.div (FloatKind.f32.nearest (IntKind.i16.wrap (le (ys.take 2)))) 1191182336).getD (qn .f32) else (le (ys.take 4)).toNat)
def samples (k : Int) : Nat → List Int → List Nat
  | 0, _ => []
  | n + 1, ys => if (width k).toNat ≤ ys.length then sampleOf k ys :: samples k n (ys.drop (width k).toNat) else []
theorem samples_none {k : Int} {n : Nat} {ys : List Int} (h : n = 0 ∨ ys.length < (width k).toNat) : samples k n ys = [] := by
  cases n with
  | zero => rfl
  | succ n => rw [samples, if_neg (by omega)]
theorem FromShort_c (n : Int) (h : Heap) : CALL prg f_impl_FromShort #[.int .i16 n] (fun u h' => (∃ r, u = .float .f32 r ∧ cn .f32 r = cn .f32 ((FloatKind.f32.format.div (FloatKind.f32.nearest n) 1191182336).getD (qn .f32))) ∧ Ext h h') h :=
  impl_FromShort.call fun r hr => ⟨⟨r, rfl, canon_of_isF hr⟩, Ext.refl _⟩
/-- A result that is a slice of floats of its own, up to NaNs. -/
def FlS (h h' : Heap) (L : List Blk) (b : Option Addr) (l c : Nat) (ns : List Nat) : Prop := ∃ fs : List Nat, Sl h h' L T_float32 1 b l c (fv .f32 fs) ∧ fs.map (cn .f32) = ns
theorem Sl.len1 {h0 h : Heap} {L : List Blk} {e : Nat} {b : Option Addr} {l c : Nat} {vs : List Value} (S : Sl h0 h L e 1 b l c vs) : vs.length = l := by have := S.1; omega
theorem push_float {h0 h : Heap} {b : Option Addr} {l c r : Nat} {fs : List Nat} {L : List Blk} (S : Sl h0 h L T_float32 1 b l c (fv .f32 fs)) (hl : l ≤ 1048576) {K : Value → Heap → Prop}
    (H : ∀ b' c' h', Sl h0 h' L T_float32 1 b' (l + 1) c' (fv .f32 (fs ++ [r])) → K (.slice b' (l + 1) c') h') :
    ALC ⟨[.float .f32 r]⟩ T_float32 (fun g h => SEMV prg (Builtin.append_ #[T_sl_float32, T_sl_float32] T_sl_float32 #[.slice b l c, .slice (some ⟨g, 0, none⟩) 1 1]) K h) h := by
  refine S.alc fun g h1 _ S => ?_
  refine Sl.app (news := [.float .f32 r]) E_sl_float32 S rfl (fun j v hj => ?_) (by simp [Value.oneCell']) (by simp [maxLen]; omega) (by omega) fun b' c' h' S => ?_
  · obtain ⟨rfl, rfl⟩ : j = 0 ∧ v = .float .f32 r := by
      cases j with
      | zero => simpa using hj.symm
      | succ j => simp at hj
    rw [add_none, S.mem.cell .here]; rfl
  · exact H b' c' h' (by simpa [fv] using S.drop)
theorem soundSamples_c {h : Heap} {b : Option Addr} {l c : Nat} {xs : List Int} {k most : Int} (C : Cells h b (iv .u8 xs)) (hl : xs.length = l) (hc : l ≤ c) (hb : Byt xs) (hm : l ≤ 1048576) (hk : inR k 1 2 = true) (hmost : 0 ≤ most ∧ most ≤ 4096) :
    CALL prg f_impl_soundSamples #[.int .i64 k, .slice b l c, .int .i64 most] (fun u h' => ∃ b' l' c', u = .slice b' l' c' ∧ FlS h h' [] b' l' c' (samples k most.toNat xs)) h := by
  subst hl
  refine impl_soundSamples.call ?_
  refine (sampleSize_c k hk).go fun h1 x1 => as_i ?_
  refine loop (fun x hh => ∃ (b' : Option Addr) (ys : List Int) (c' : Nat) (ob : Option Addr) (ol oc : Nat) (fs : List Nat), x = (k, b', ys.length, c', most, width k, ob, ol, oc) ∧ Cells h b' (iv .u8 ys) ∧ ys.length ≤ c' ∧ Byt ys ∧ ol ≤ most.toNat ∧ ys.length ≤ 1048576 ∧
    Sl h hh [] T_float32 1 ob ol oc (fv .f32 fs) ∧ fs.map (cn .f32) ++ samples k (most.toNat - ol) ys = samples k most.toNat xs) (fun x => most.toNat - x.2.2.2.2.2.2.2.1)
    ⟨b, xs, c, none, 0, 0, [], rfl, C, hc, hb, by omega, hm, Sl.nil ((Mem.start h).grow x1), by simp⟩ ?_
  rintro x hh ⟨b', ys, c', ob, ol, oc, fs, rfl, C, hc', hb', hol, hm', S, hs⟩
  have hk' : k = 1 ∨ k = 2 := by simp [inR] at hk; omega
  refine brf (fun h2 => ?_) fun h2 => ?_
  · rw [samples_none (.inl (by omega)), List.append_nil] at hs
    exact ⟨ob, ol, oc, rfl, fs, S, hs⟩
  refine brf (fun h3 => ?_) fun h3 => ?_
  · rw [samples_none (.inr (by omega)), List.append_nil] at hs
    exact ⟨ob, ol, oc, rfl, fs, S, hs⟩
  obtain ⟨m, hm1⟩ : ∃ m, most.toNat - ol = m + 1 := ⟨most.toNat - ol - 1, by omega⟩
  have hw : width k = 2 ∨ width k = 4 := by rcases hk' with rfl | rfl <;> simp [width]
  rw [hm1, samples, if_pos (by omega)] at hs
  have nxt : ∀ (ob' : Option Addr) (oc' : Nat) (h' : Heap) (r : Nat), cn .f32 r = sampleOf k ys → Sl h h' [] T_float32 1 ob' (ol + 1) oc' (fv .f32 (fs ++ [r])) →
      SLB (width k) (ys.length : Int) (c' : Int) ((∃ (b'' : Option Addr) (ys' : List Int) (c'' : Nat) (ob : Option Addr) (ol' oc : Nat) (fs : List Nat), ((k, slA b' c' (width k).toNat 1, ys.length - (width k).toNat, c' - (width k).toNat, most, width k, ob', ol + 1, oc') : Int × Option Addr × Nat × Nat × Int × Int × Option Addr × Nat × Nat) = (k, b'', ys'.length, c'', most, width k, ob, ol', oc) ∧ Cells h b'' (iv .u8 ys') ∧ ys'.length ≤ c'' ∧ Byt ys' ∧ ol' ≤ most.toNat ∧ ys'.length ≤ 1048576 ∧
        Sl h h' [] T_float32 1 ob ol' oc (fv .f32 fs) ∧ fs.map (cn .f32) ++ samples k (most.toNat - ol') ys' = samples k most.toNat xs) ∧ most.toNat - (ol + 1) < most.toNat - ol) := by
    intro ob' oc' h' r hr S'
    refine slb (by omega) (by omega) (by omega) ⟨⟨slA b' c' (width k).toNat 1, ys.drop (width k).toNat, c' - (width k).toNat, ob', ol + 1, oc', fs ++ [r], by simp, ?_, by simp; omega, hb'.drop _, by omega, by simp; omega, S', ?_⟩, by omega⟩
    · have := C.sub (cap := c') (lo := (width k).toNat) (sz := 1) (by rw [iv_len]; omega)
      simpa [iv] using this
    · rw [show most.toNat - (ol + 1) = m by omega, ← hs]
      simp [hr]
  have c0 : slA b' c' 0 1 = b' := by
    unfold slA; split
    · rfl
    · cases b' <;> simp [Addr.add]
  unfold impl_soundSamples.J4
  rcases hk' with rfl | rfl
  · refine br_t rfl ?_
    have hw2 : width 1 = 2 := rfl
    refine slb (by omega) (by omega) (by omega) ?_
    have C2 : Cells h (slA b' c' 0 1) (iv .u8 (ys.take 2)) := by rw [c0]; simpa [iv] using C.take (n := 2)
    refine (littleOf_c (C2.ext S.mem.ext) (by simp; omega) (hb'.take 2) (by simp; omega)).mono ?_
    rintro _ h4 ⟨rfl, x4⟩
    refine as_i ?_
    refine (FromShort_c _ _).mono ?_
    rintro _ h5 ⟨⟨r, rfl, hr⟩, x5⟩
    refine as_f (push_float (S.grow (x4.trans x5)) (by omega) fun b' c' h' S => as_l (nxt _ _ _ r ?_ S))
    rw [hr]; rfl
  · refine br_f rfl ?_
    have hw2 : width 2 = 4 := rfl
    refine slb (by omega) (by omega) (by omega) ?_
    have C2 : Cells h (slA b' c' 0 1) (iv .u8 (ys.take 4)) := by rw [c0]; simpa [iv] using C.take (n := 4)
    refine (littleOf_c (C2.ext S.mem.ext) (by simp; omega) (hb'.take 4) (by simp; omega)).mono ?_
    rintro _ h4 ⟨rfl, x4⟩
    refine as_i ?_
    have := le4 hb'
    rw [wrapu rfl (by omega) (by have : (2 : Int) ^ IntKind.u32.bits = 4294967296 := by decide
                                 omega)]
    refine (frombits_c _).go fun h5 x5 => ?_
    refine as_f (push_float (S.grow (x4.trans x5)) (by omega) fun b' c' h' S => as_l (nxt _ _ _ _ ?_ S))
    rfl
theorem two_u16 (a b : Int) (ha : 0 ≤ a ∧ a < 256) (hb : 0 ≤ b ∧ b < 256) : bitI .or .u16 (IntKind.u16.wrap a) (shlI .u16 (IntKind.u16.wrap b) 8) = le [a, b] := by
  obtain ⟨a, rfl⟩ := Int.eq_ofNat_of_zero_le ha.1
  obtain ⟨b, rfl⟩ := Int.eq_ofNat_of_zero_le hb.1
  have e : (2 : Int) ^ IntKind.u16.bits = 65536 := by decide
  have e' : (2 : Nat) ^ IntKind.u16.bits = 65536 := by decide
  rw [wrapu rfl (by omega) (by rw [e]; omega), wrapu rfl (by omega) (by rw [e]; omega)]
  have s1 := shl_add (k := .u16) (x := b) (i := 8) rfl (by decide) (by rw [e']; omega)
  rw [show (8 : Int) = ((8 : Nat) : Int) from rfl, s1, or_add (by omega) (by rw [e']; omega) rfl]
  simp only [le, List.foldr]
  omega
theorem l10Samples_c {h : Heap} {b : Option Addr} {l c : Nat} {xs : List Int} {k most : Int} (C : Cells h b (iv .u8 xs)) (hl : xs.length = l) (hc : l ≤ c) (hb : Byt xs) (hm : l ≤ 1048576) (h12 : 12 ≤ l) (hk : inR k 1 2 = true) (hmost : 0 ≤ most ∧ most ≤ 4096) :
    CALL prg f_spec_l10Samples #[.slice b l c, .int .i64 k, .int .i64 most] (fun u h' => ∃ b' l' c', u = .slice b' l' c' ∧ FlS h h' [] b' l' c' (samples k most.toNat (xs.drop 12))) h := by
  subst hl
  refine spec_l10Samples.call ?_
  refine (Mem.start h).alc fun g h1 x1 M => ?_
  refine (l10Width_c k).mem M fun h2 M => as_i ?_
  obtain ⟨a, rfl⟩ := C.base (by rw [iv_len]; omega)
  have hk' : k = 1 ∨ k = 2 := by simp [inR] at hk; omega
  have hw : width k = 2 ∨ width k = 4 := by rcases hk' with rfl | rfl <;> simp [width]
  refine loop (fun x hh => ∃ (at_ : Nat) (ob : Option Addr) (ol oc : Nat) (fs : List Nat), x = (some a, xs.length, c, k, most, ob, ol, oc, width k, (at_ : Int)) ∧ at_ ≤ xs.length ∧ ol ≤ most.toNat ∧
    Sl h hh [] T_float32 1 ob ol oc (fv .f32 fs) ∧ fs.map (cn .f32) ++ samples k (most.toNat - ol) (xs.drop at_) = samples k most.toNat (xs.drop 12)) (fun x => most.toNat - x.2.2.2.2.2.2.1)
    ⟨12, some ⟨g, 0, none⟩, 0, 0, [], rfl, h12, by omega, by simpa [fv] using Sl.made (l := 0) (c := 0) M (Nat.le_refl _) (Nat.zero_le _) (by simp), by simp⟩ ?_
  rintro x hh ⟨n, ob, ol, oc, fs, rfl, hn, hol, S, hs⟩
  show BIF (decide (IntKind.i64.wrap ((n : Int) + width k) ≤ (xs.length : Int))) _ _
  rw [wrap64 (by omega) (by omega)]
  refine brf (fun h2 => ?_) fun h2 => ?_
  · rw [samples_none (.inr (by simp; omega)), List.append_nil] at hs
    exact ⟨ob, ol, oc, rfl, fs, S, hs⟩
  refine brf (fun h3 => ?_) fun h3 => ?_
  · rw [samples_none (.inl (by omega)), List.append_nil] at hs
    exact ⟨ob, ol, oc, rfl, fs, S, hs⟩
  obtain ⟨m, hm1⟩ : ∃ m, most.toNat - ol = m + 1 := ⟨most.toNat - ol - 1, by omega⟩
  rw [hm1, samples, if_pos (by simp; omega)] at hs
  have nxt : ∀ (ob' : Option Addr) (oc' : Nat) (h' : Heap) (r : Nat), cn .f32 r = sampleOf k (xs.drop n) → Sl h h' [] T_float32 1 ob' (ol + 1) oc' (fv .f32 (fs ++ [r])) →
      ((∃ (n' : Nat) (ob : Option Addr) (ol' oc : Nat) (fs : List Nat), ((some a, xs.length, c, k, most, ob', ol + 1, oc', width k, IntKind.i64.wrap ((n : Int) + width k)) : Option Addr × Nat × Nat × Int × Int × Option Addr × Nat × Nat × Int × Int) = (some a, xs.length, c, k, most, ob, ol', oc, width k, (n' : Int)) ∧ n' ≤ xs.length ∧ ol' ≤ most.toNat ∧
        Sl h h' [] T_float32 1 ob ol' oc (fv .f32 fs) ∧ fs.map (cn .f32) ++ samples k (most.toNat - ol') (xs.drop n') = samples k most.toNat (xs.drop 12)) ∧ most.toNat - (ol + 1) < most.toNat - ol) := by
    intro ob' oc' h' r hr S'
    refine ⟨⟨n + (width k).toNat, ob', ol + 1, oc', fs ++ [r], ?_, by omega, by omega, S', ?_⟩, by omega⟩
    · rw [wrap64 (by omega) (by omega)]
      rw [show (n : Int) + width k = ((n + (width k).toNat : Nat) : Int) by omega]
    · rw [show most.toNat - (ol + 1) = m by omega, ← hs]
      simp [hr]
  unfold spec_l10Samples.J6
  have C' := C.ext S.mem.ext
  rcases hk' with rfl | rfl
  · refine br_t rfl ?_
    have hw2 : width 1 = 2 := rfl
    refine idxs (by omega) (by omega) ?_
    simp only [Int.toNat_natCast, Nat.mul_one]
    refine o_i (C'.get (iv_get (by omega))) ?_
    rw [show IntKind.i64.wrap ((n : Int) + 1) = ((n + 1 : Nat) : Int) from wrap64_succ (by omega)]
    refine idxs (by omega) (by omega) ?_
    simp only [Int.toNat_natCast]
    refine o_i (C'.get (iv_get (by omega))) (nn (by omega) ?_)
    rw [two_u16 _ _ (hb.at _) (hb.at _)]
    intro r hr
    refine push_float S (by omega) fun b' c' h' S => as_l (nxt _ _ _ r ?_ S)
    rw [canon_of_isF hr, sampleOf, if_pos rfl]
    have : (xs.drop n).take 2 = [xs[n], xs[n + 1]] := by
      rw [List.drop_eq_getElem_cons (by omega), List.drop_eq_getElem_cons (by omega)]; rfl
    rw [this]
  · refine br_f rfl ?_
    have hw2 : width 2 = 4 := rfl
    refine slb (by omega) (by omega) (by omega) ?_
    have C2 : Cells hh (slA (some a) c n 1) (iv .u8 (xs.drop n)) := by simpa [iv] using C'.sub (cap := c) (lo := n) (sz := 1) (by rw [iv_len]; omega)
    simp only [Int.toNat_natCast]
    refine (l10Number_c C2 (by simp) (hb.drop n) (by simp; omega)).mono ?_
    rintro _ h4 ⟨rfl, x4⟩
    refine as_i ?_
    refine (frombits_c _).go fun h5 x5 => ?_
    refine as_f (push_float (S.grow (x4.trans x5)) (by omega) fun b' c' h' S => as_l (nxt _ _ _ _ ?_ S))
    rfl
def torn (xs : List Int) : List Nat × Int :=
  if 16400 < xs.length then ([], 3) else if okHead xs then (samples (kindOf xs) (countOf xs).toNat (xs.drop 12), 0) else ([], 5)
theorem okHead_out {xs : List Int} (h : okHead xs = true) (hb : Byt xs) : 12 ≤ xs.length ∧ inR (kindOf xs) 1 2 = true ∧ 0 ≤ countOf xs ∧ countOf xs ≤ 4096 := by
  have := le_nonneg ((hb.drop 8).take 4)
  simp [okHead] at h
  exact ⟨h.1.1.1.1, h.1.1.2, this, h.2⟩
theorem impl_TornSamples_c {h : Heap} {b : Option Addr} {l c : Nat} {xs : List Int} (C : Cells h b (iv .u8 xs)) (hl : xs.length = l) (hc : l ≤ c) (hb : Byt xs) (hm : l ≤ 1048576) :
    CALL prg f_impl_TornSamples #[.slice b l c] (fun u h' => ∃ b' l' c', u = .tuple ⟨[.slice b' l' c', .int .i64 (torn xs).2]⟩ ∧ FlS h h' [] b' l' c' (torn xs).1) h := by
  refine impl_TornSamples.call ?_
  refine isLong_c.mono ?_
  rintro _ h1 ⟨rfl, x1⟩
  refine brd (fun h2 => ?_) fun h2 => ?_
  · refine ⟨none, 0, 0, ?_, [], Sl.nil ((Mem.start h).grow x1), ?_⟩ <;> rw [torn, if_pos (by omega)]
    rfl
  refine (soundHead_c (C.ext x1) hl hc hb hm).mono ?_
  rintro _ h3 ⟨⟨k, r, n, rfl, hk⟩, x3⟩
  refine tup4 (as_i (as_i (as_i (as_b ?_))))
  refine br (fun h4 => ?_) fun h4 => ?_
  · have h4 : okHead xs = false := by simpa using h4
    refine ⟨none, 0, 0, ?_, [], Sl.nil ((Mem.start h).grow (x1.trans x3)), ?_⟩ <;> rw [torn, if_neg (by omega), h4] <;> rfl
  have h4 : okHead xs = true := by simpa using h4
  obtain ⟨rfl, rfl, rfl⟩ := hk h4
  obtain ⟨o1, o2, o3, o4⟩ := okHead_out h4 hb
  refine slb (by omega) (by omega) (by omega) ?_
  have C12 : Cells h (slA b c 12 1) (iv .u8 (xs.drop 12)) := by simpa [iv] using C.sub (cap := c) (lo := 12) (sz := 1) (by rw [iv_len]; omega)
  refine (soundSamples_c (C12.ext (x1.trans x3)) (by simp; omega) (by omega) (hb.drop 12) (by omega) o2 ⟨o3, o4⟩).mono ?_
  rintro _ h5 ⟨b', l', c', rfl, fs, S, hf⟩
  refine as_l ⟨b', l', c', ?_, fs, by simpa using S.join ((Mem.start h).grow (x1.trans x3)), ?_⟩
  · rw [torn, if_neg (by omega), if_pos h4]
  · rw [torn, if_neg (by omega), if_pos h4, hf]
end Go.Sx
