/- Decimals: the rule's, digit by digit. -/
import Derived.Test.YthgnpepchedpbaaDoorLk13
import Derived.Test.YthgnpepchedpbaaDoorT1
import Derived.Lib.ItoaLen
set_option linter.unusedVariables false
set_option linter.unusedSimpArgs false
namespace Go.Sx
open Go.Proofs
set_option maxRecDepth 100000

/-- A whole number's digits. -/
def decB (m : Nat) : ByteArray := ⟨(Lib.decDigits m).toArray⟩
theorem ba_app (a b : List UInt8) : (⟨a.toArray⟩ : ByteArray) ++ ⟨b.toArray⟩ = ⟨(a ++ b).toArray⟩ := by
  apply ByteArray.ext
  rw [ByteArray.data_append]
  simp
theorem decB_small {m : Nat} (h : m < 10) : decB m = ⟨#[UInt8.ofNat (48 + m)]⟩ := by unfold decB; rw [Lib.decDigits_one h]
theorem decB_step {m : Nat} (h : ¬ m < 10) : decB (m / 10) ++ ⟨#[UInt8.ofNat (48 + m % 10)]⟩ = decB m := by
  unfold decB
  rw [show (⟨#[UInt8.ofNat (48 + m % 10)]⟩ : ByteArray) = ⟨[UInt8.ofNat (48 + m % 10)].toArray⟩ from rfl, ba_app]
  rw [Lib.decDigits.eq_def m, dif_neg h]
theorem decB_size {m : Nat} (h : m < 18446744073709551616) : (decB m).size ≤ 20 := by
  show (Lib.decDigits m).toArray.size ≤ 20
  rw [List.size_toArray, Lib.decDigits_length]
  exact Lib.nDigits_le20 m h
theorem one_size (a : UInt8) : (⟨#[a]⟩ : ByteArray).size = 1 := rfl
theorem spec_Decimal_c : ∀ (m : Nat), m < 9223372036854775808 → Ret prg f_spec_Decimal #[.int .i64 (m : Int)] (.string (decB m)) := by
  intro m
  induction m using Nat.strongRecOn with
  | _ m ih =>
  intro hm h
  have eN : Int.tmod (m : Int) 10 = ((m % 10 : Nat) : Int) := by rw [Int.ofNat_tmod]; rfl
  have eD : Int.tdiv (m : Int) 10 = ((m / 10 : Nat) : Int) := by rw [Int.ofNat_tdiv]; rfl
  have hw : ∀ k : Nat, k < 10 → IntKind.u8.wrap (IntKind.i64.wrap (48 + (k : Int))) = ((48 + k : Nat) : Int) := fun k hk => by
    rw [wrap64 (by omega) (by omega)]
    unfold IntKind.wrap
    show (48 + (k : Int)) % 2 ^ 8 = _
    omega
  refine spec_Decimal.call (brd (fun hc => ?_) fun hc => ?_)
  · have hlt : ¬ m < 10 := by omega
    rw [eN, eD, hw _ (Nat.mod_lt _ (by omega)), wrap64 (n := ((m / 10 : Nat) : Int)) (by omega) (by omega)]
    have R := ih (m / 10) (Nat.div_lt_self (by omega) (by decide)) (by omega)
    have sz : ((ByteArray.size (decB (m / 10)) + ByteArray.size (⟨#[UInt8.ofNat ((48 + m % 10 : Nat) : Int).toNat]⟩ : ByteArray) : Nat) : Int) ≤ 9223372036854775807 := by
      have := decB_size (m := m / 10) (by omega)
      rw [one_size]; omega
    have ev : decB (m / 10) ++ (⟨#[UInt8.ofNat ((48 + m % 10 : Nat) : Int).toNat]⟩ : ByteArray) = decB m := by rw [Int.toNat_natCast]; exact decB_step hlt
    refine nz (by omega) (nz (by omega) ⟨?_, ?_⟩)
    · refine Ret.go R fun h1 x1 => as_s ((Mem.start h1).alc fun g h2 x2 M => conv_one (M.cell .here 0) (as_s ⟨sz, ?_⟩))
      exact ⟨by rw [ev], x1.trans x2⟩
    · refine (Mem.start h).alc fun g h2 x2 M => ⟨?_, ?_⟩
      · refine Ret.go R fun h1 x1 => as_s (conv_one ((M.grow x1).cell .here 0) (as_s ⟨sz, ?_⟩))
        exact ⟨by rw [ev], x2.trans x1⟩
      · refine conv_one (M.cell .here 0) (as_s (Ret.go R fun h1 x1 => as_s ⟨sz, ?_⟩))
        exact ⟨by rw [ev], x2.trans x1⟩
  · rw [hw m (by omega)]
    refine (Mem.start h).alc fun g h2 x2 M => conv_one (M.cell .here 0) (as_s ⟨?_, x2⟩)
    rw [Int.toNat_natCast, decB_small (by omega)]
end Go.Sx
