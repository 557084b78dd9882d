/- CheckOf: what it computes. -/
import Derived.Test.YthpodhdhpepfbaaLx2
import Derived.Test.YthpodhdhpepfbaaG1
namespace Go.Sx
open Go.Proofs
set_option linter.unusedVariables false

def isnan (a : Nat) : Bool := FloatKind.f32.format.order a a != some .eq
def bits32 (a : Nat) : Int := if isnan a then 2143289344 else a
def mix (h n : Int) : Int := IntKind.u32.wrap (bitI .xor .u32 h n * 16777619)
def checkState (s : ByteArray) (n : Nat) : Int := (List.range n).foldl (fun c (i : Nat) => mix c (IntKind.u32.wrap (byteAt s i))) 2166136261
def checkBlock (c : Int) (b : List Nat) : Int := b.foldl (fun c x => mix c (bits32 x)) c
def checkOf (index : Int) (s : ByteArray) (b : List Nat) : Int := checkBlock (mix (checkState s s.size) (IntKind.u32.wrap index)) b

theorem Float32bits_c (b : Nat) : Ret prg f_math_Float32bits #[.float .f32 b] (.int .u32 b) :=
  ext_ret (e := Extern.MathFloatBits.float32bits) X_math_Float32bits (by kernel_rfl) (by kernel_rfl) (by kernel_rfl) (by kernel_rfl) fun w => rfl
theorem l01NaN_c (a : Nat) : Ret prg f_spec_l01NaN #[.float .f32 a] (.bool (isnan a)) := fun h => spec_l01NaN.call ⟨rfl, Ext.refl _⟩
theorem l01Bits_c (a : Nat) : Ret prg f_spec_l01Bits #[.float .f32 a] (.int .u32 (bits32 a)) := fun h => by
  refine spec_l01Bits.call ?_
  refine (l01NaN_c a).go fun h1 x1 => br (fun hb => ⟨by rw [bits32, if_pos hb], x1⟩) fun hb => ?_
  refine (Float32bits_c a).go fun h2 x2 => as_i ⟨by rw [bits32, hb]; rfl, x1.trans x2⟩
theorem bitsOf_c (a : Nat) : Ret prg f_impl_bitsOf #[.float .f32 a] (.int .u32 (bits32 a)) := fun h => by
  refine impl_bitsOf.call ?_
  refine br (fun hb => ⟨by rw [bits32, isnan, if_pos hb], Ext.refl _⟩) fun hb => ?_
  refine (Float32bits_c a).go fun h2 x2 => as_i ⟨by rw [bits32, isnan, hb]; rfl, x2⟩
theorem l10Mix_c (a b : Int) : Ret prg f_spec_l10Mix #[.int .u32 a, .int .u32 b] (.int .u32 (mix a b)) := fun h => spec_l10Mix.call ⟨rfl, Ext.refl _⟩
theorem checked_c (a b : Int) : Ret prg f_impl_checked #[.int .u32 a, .int .u32 b] (.int .u32 (mix a b)) := fun h => impl_checked.call ⟨rfl, Ext.refl _⟩
theorem toBlock_c (b : List Nat) (hb : b.length = 16) : Ret prg f_laws_toBlock #[.agg (fl .f32 b)] (.agg (fl .f32 b)) := fun h => by
  refine laws_toBlock.call ?_
  refine (Mem.start h).alc fun g1 h1 _ M => M.alc fun g2 h2 _ M => M.alc fun g3 h3 _ M => ?_
  refine loop (fun x hh => ∃ n : Nat, x = (⟨g1, 0, none⟩, ⟨g2, 0, none⟩, ⟨g3, 0, none⟩, (n : Int)) ∧ n ≤ 16 ∧
    Mem h hh [(g3, T_impl_Block, fl .f32 (b.take n ++ List.replicate (16 - n) 0)), (g2, T_impl_Block, ⟨Z_impl_Block⟩), (g1, T_16_float32, fl .f32 b)]) (fun x => (16 - x.2.2.2).toNat) ⟨0, rfl, by omega, by exact M⟩ ?_
  rintro x hh ⟨n, rfl, hn, M⟩
  refine brd (fun hc => ?_) fun hc => ?_
  · refine idx (by omega) (by omega) ?_
    simp only [add_none, Int.toNat_natCast, Nat.mul_one, Nat.zero_add]
    refine M.oF (by repeat constructor) (fl_get (by omega)) ?_
    refine idx (by omega) (by omega) ?_
    refine M.st1 (by repeat constructor) (by simp [fl_size]; omega) (by repeat constructor) fun h' M => ?_
    refine ⟨⟨n + 1, by rw [wrap64_succ (by omega)], by omega, ?_⟩, by rw [wrap64_succ (by omega)]; show _ < _; simp; omega⟩
    rw [fl_set, copy_step hb (by omega)] at M; exact M
  · obtain rfl : n = 16 := by omega
    rw [show b.take 16 ++ List.replicate (16 - 16) 0 = b by simp [List.take_of_length_le (Nat.le_of_eq hb)]] at M
    refine M.lda0 (by repeat constructor) (by simp [fl_size, hb]) ?_
    refine M.sta0 (by repeat constructor) (by simp [fl_size, hb]) (fl_one _ _) rfl (by repeat constructor) fun h' M => ?_
    refine M.lda0 (by repeat constructor) (by simp [fl_size, hb]) ?_
    exact ⟨rfl, M.ext⟩
theorem checkState_succ (s : ByteArray) (n : Nat) : checkState s (n + 1) = mix (checkState s n) (IntKind.u32.wrap (byteAt s n)) := foldl_range_succ _ _ _
theorem l10Check_c {h : Heap} {g : Nat} (index : Int) (s : ByteArray) (hs : s.size ≤ 1048576) (b : List Nat) (hb : b.length = 16) (hg : ∀ i, i < 16 → cell h ⟨g, i, none⟩ = (fl .f32 b)[i]?) :
    CALL prg f_spec_l10Check #[.int .i64 index, .string s, .pointer (some ⟨g, 0, none⟩)] (fun u h' => u = .int .u32 (checkOf index s b) ∧ Ext h h') h := by
  refine spec_l10Check.call ?_
  refine loop (fun x hh => ∃ n : Nat, x = (index, s, ⟨g, 0, none⟩, checkState s n, (n : Int)) ∧ n ≤ s.size ∧ Ext h hh) (fun x => (s.size - x.2.2.2.2).toNat) ⟨0, rfl, by omega, Ext.refl _⟩ ?_
  rintro x hh ⟨n, rfl, hn, M⟩
  refine brd (fun hc => ?_) fun hc => ?_
  · refine idx (by omega) (by omega) ?_
    refine (l10Mix_c _ _).go fun h1 x1 => as_i ?_
    exact ⟨⟨n + 1, by rw [wrap64_succ (by omega), checkState_succ], by omega, M.trans x1⟩, by rw [wrap64_succ (by omega)]; show _ < _; simp; omega⟩
  · obtain rfl : n = s.size := by omega
    refine (l10Mix_c _ _).go fun h1 x1 => as_i ?_
    have M1 := M.trans x1
    refine loop (fun x hh => ∃ n : Nat, x = (⟨g, 0, none⟩, checkBlock (mix (checkState s s.size) (IntKind.u32.wrap index)) (b.take n), (n : Int)) ∧ n ≤ 16 ∧ Ext h hh) (fun x => (16 - x.2.2).toNat) ⟨0, rfl, by omega, M1⟩ ?_
    rintro x hh ⟨n, rfl, hn, M⟩
    refine brd (fun hc => ?_) fun hc => ?_
    · refine idx (by omega) (by omega) ?_
      simp only [add_none, Int.toNat_natCast, Nat.mul_one, Nat.zero_add]
      refine o_f (M.cell ((hg n (by omega)).trans (fl_get (by omega)))) ?_
      refine (l01Bits_c _).go fun h2 x2 => as_i ?_
      refine (l10Mix_c _ _).go fun h3 x3 => as_i ?_
      refine ⟨⟨n + 1, ?_, by omega, (M.trans x2).trans x3⟩, by rw [wrap64_succ (by omega)]; show _ < _; simp; omega⟩
      rw [wrap64_succ (by omega), checkBlock, checkBlock, foldl_take_succ _ _ _ _ (by omega)]
    · obtain rfl : n = 16 := by omega
      refine ⟨?_, M⟩
      rw [checkOf, List.take_of_length_le (by omega)]
theorem spec_CheckOf_c (index : Int) (s : ByteArray) (hs : s.size ≤ 1048576) (b : List Nat) (hb : b.length = 16) : Ret prg f_spec_CheckOf #[.int .i64 index, .string s, .agg (fl .f32 b)] (.int .u32 (checkOf index s b)) := fun h => by
  refine spec_CheckOf.call ?_
  refine (Mem.start h).alc fun g1 h1 _ M => ?_
  refine (l10Check_c index s hs b hb fun i hi => M.cell (by repeat constructor) _).mono ?_
  rintro _ h2 ⟨rfl, x2⟩
  exact as_i ⟨rfl, (M.grow x2).ext⟩
theorem checkOfBytes_c (s : ByteArray) (hs : s.size ≤ 1048576) : Ret prg f_impl_checkOfBytes_string #[.string s] (.int .u32 (checkState s s.size)) := fun h => by
  refine impl_checkOfBytes_string.call ?_
  refine loop (fun x hh => ∃ n : Nat, x = (s, checkState s n, (s.size : Int), (n : Int)) ∧ n ≤ s.size ∧ Ext h hh) (fun x => (s.size - x.2.2.2).toNat) ⟨0, rfl, by omega, Ext.refl _⟩ ?_
  rintro x hh ⟨n, rfl, hn, M⟩
  refine brd (fun hc => ?_) fun hc => ?_
  · refine idx (by omega) (by omega) ?_
    refine (checked_c _ _).go fun h1 x1 => as_i ?_
    exact ⟨⟨n + 1, by rw [wrap64_succ (by omega), checkState_succ], by omega, M.trans x1⟩, by rw [wrap64_succ (by omega)]; show _ < _; simp; omega⟩
  · obtain rfl : n = s.size := by omega
    exact ⟨rfl, M⟩
theorem impl_CheckOf_c (index : Int) (s : ByteArray) (hs : s.size ≤ 1048576) (b : List Nat) (hb : b.length = 16) : Ret prg f_impl_CheckOf #[.int .i64 index, .string s, .agg (fl .f32 b)] (.int .u32 (checkOf index s b)) := fun h => by
  refine impl_CheckOf.call ?_
  refine (Mem.start h).alc fun g1 h1 _ M => ?_
  refine (checkOfBytes_c s hs).mem M fun h2 M => as_i ?_
  refine (checked_c _ _).mem M fun h3 M => as_i ?_
  refine M.lda0 (by repeat constructor) (by simp [fl_size, hb]) ?_
  refine loop (fun x hh => ∃ n : Nat, x = (checkBlock (mix (checkState s s.size) (IntKind.u32.wrap index)) (b.take n), fl .f32 b, (n : Int)) ∧ n ≤ 16 ∧ Ext h hh) (fun x => (16 - x.2.2).toNat) ⟨0, rfl, by omega, M.ext⟩ ?_
  rintro x hh ⟨n, rfl, hn, M⟩
  refine brd (fun hc => ?_) fun hc => ?_
  · refine idx (by omega) (by omega) ?_
    simp only [Int.toNat_natCast, Nat.mul_one]
    refine o_f (fl_get (by omega)) ?_
    refine (bitsOf_c _).go fun h2 x2 => as_i ?_
    refine (checked_c _ _).go fun h3 x3 => as_i ?_
    refine ⟨⟨n + 1, ?_, by omega, (M.trans x2).trans x3⟩, by rw [wrap64_succ (by omega)]; show _ < _; simp; omega⟩
    rw [wrap64_succ (by omega), checkBlock, checkBlock, foldl_take_succ _ _ _ _ (by omega)]
  · obtain rfl : n = 16 := by omega
    refine ⟨?_, M⟩
    rw [checkOf, List.take_of_length_le (by omega)]
theorem FnExactCheckOf_c (index : Int) (s : ByteArray) (b : List Nat) (hb : b.length = 16) : Ret prg f_laws_FnExactCheckOf #[.int .i64 index, .string s, .agg (fl .f32 b)] (.bool true) := fun h => by
  refine laws_FnExactCheckOf.call ?_
  refine (Mem.start h).alc fun g1 h1 _ M => ?_
  refine brd (fun hc => ⟨rfl, M.ext⟩) fun hc => ?_
  refine M.lda0 (by repeat constructor) (by simp [fl_size, hb]) ?_
  refine (toBlock_c b hb).mem M fun h2 M => ?_
  refine (spec_CheckOf_c index s (by omega) b hb).mem M fun h3 M => as_i ?_
  refine M.lda0 (by repeat constructor) (by simp [fl_size, hb]) ?_
  refine (toBlock_c b hb).mem M fun h2 M => ?_
  refine (impl_CheckOf_c index s (by omega) b hb).mem M fun h3 M => as_i ?_
  exact br_f (by simp) ⟨rfl, M.ext⟩
end Go.Sx
