/- The texts that mark strings: 'm' and a number. -/
import Derived.Test.YthhepeklpgefkaaGreatDoorLh4
import Derived.Test.YthhepeklpgefkaaGreatDoorLh0
import Derived.Test.YthhepeklpgefkaaGreatDoorH5
import Derived.Laws.BytesString
set_option linter.unusedVariables false
set_option linter.unusedSimpArgs false
namespace Go.Sx
open Go.Proofs
set_option maxRecDepth 100000

def mtextF : Nat → Nat → ByteArray → ByteArray
  | 0, _, out => out
  | f + 1, k, out => if k = 0 then out else mtextF f (k / 10) ((⟨#[UInt8.ofNat (48 + k % 10)]⟩ : ByteArray) ++ out)
def mtext (k : Nat) : ByteArray := if k = 0 then ⟨#[109, 48]⟩ else ⟨#[109]⟩ ++ mtextF 12 k ⟨#[]⟩
theorem mtextF_zero (f : Nat) (out : ByteArray) : mtextF f 0 out = out := by cases f <;> rfl
theorem ba_size (a b : ByteArray) : (a ++ b).size = a.size + b.size := ByteArray.size_append
theorem mtextF_size : ∀ (f k : Nat) (out : ByteArray), (mtextF f k out).size ≤ f + out.size
  | 0, k, out => by simp [mtextF]
  | f + 1, k, out => by
    unfold mtextF
    split
    · omega
    · have := mtextF_size f (k / 10) ((⟨#[UInt8.ofNat (48 + k % 10)]⟩ : ByteArray) ++ out)
      rw [ba_size] at this
      have e : (⟨#[UInt8.ofNat (48 + k % 10)]⟩ : ByteArray).size = 1 := rfl
      omega
theorem mtext_size (k : Nat) : (mtext k).size ≤ maxLen := by
  refine Nat.le_trans ?_ (show 14 ≤ maxLen by decide)
  unfold mtext
  split
  · decide
  · rw [ba_size]
    have := mtextF_size 12 k ⟨#[]⟩
    have e : (⟨#[109]⟩ : ByteArray).size = 1 := rfl
    have e2 : (⟨#[]⟩ : ByteArray).size = 0 := rfl
    omega
theorem conv_one {g : Nat} {h : Heap} {n : Int} {K : Value → Heap → Prop} (hc : cell h ⟨g, 0, none⟩ = some (.int .u8 n)) (H : K (.string ⟨#[UInt8.ofNat n.toNat]⟩) h) : SEMV prg (convert T_sl_uint8 T_string (.slice (some ⟨g, 0, none⟩) 1 1)) K h := by
  refine semv fun w hw => ⟨.string ⟨#[UInt8.ofNat n.toNat]⟩, w, ?_, Same.refl _, by rw [hw]; exact H⟩
  have hc' : w.cell? ⟨g, 0, none⟩ = some (.int .u8 n) := by rw [cell_eq, hw]; exact hc
  rw [run_convert_bytes_string w _ _ _ _ _ _ U_sl_uint8 U_uint8 U_string, run_bytesToString w _ 1 1 [n] ?_]
  · rfl
  · simp [loadCells, loadCellsFrom, hc', Addr.add, Sem.run_pure]
theorem markText_c (k : Nat) (hk : k ≤ 1073741824) : Ret prg f_laws_markText #[.int .i64 (k : Int)] (.string (mtext k)) := fun h => by
  refine laws_markText.call ?_
  refine brd (fun h0 => ⟨by rw [mtext, if_pos (by omega)], Ext.refl _⟩) fun h0 => ?_
  refine loop (fun x hh => ∃ (f n : Nat) (out : ByteArray), x = ((n : Int), out) ∧ n < 10 ^ f ∧ f ≤ 12 ∧ out.size + f ≤ 12 ∧ mtextF f n out = mtextF 12 k ⟨#[]⟩ ∧ Ext h hh) (fun x => x.1.toNat) ⟨12, k, ⟨#[]⟩, rfl, by omega, by omega, by show 0 + 12 ≤ 12; omega, rfl, Ext.refl _⟩ ?_
  rintro x hh ⟨f, n, out, rfl, hn, hf, hs, he, X⟩
  refine brd (fun hc => ?_) fun hc => ?_
  · have e1 : Int.tmod (n : Int) 10 = ((n % 10 : Nat) : Int) := by rw [Int.ofNat_tmod]; rfl
    have e2 : Int.tdiv (n : Int) 10 = ((n / 10 : Nat) : Int) := by rw [Int.ofNat_tdiv]; rfl
    have hn0 : n < 1000000000000 := Nat.lt_of_lt_of_le hn (Nat.pow_le_pow_right (by decide) hf)
    rw [e1, e2, wrap64 (n := 48 + ((n % 10 : Nat) : Int)) (by omega) (by omega), wrap64 (n := ((n / 10 : Nat) : Int)) (by omega) (by omega)]
    have e3 : IntKind.u8.wrap (48 + ((n % 10 : Nat) : Int)) = 48 + ((n % 10 : Nat) : Int) := by
      simp only [IntKind.wrap, IntKind.signed, Bool.false_and, Bool.false_eq_true, if_false]
      rw [show (2 : Int) ^ IntKind.u8.bits = 256 by decide]
      omega
    rw [e3]
    refine nz (by decide) ((Mem.start hh).alc fun g h1 x1 M => conv_one (M.cell .here 0) (as_s ?_))
    rw [show (48 + ((n % 10 : Nat) : Int)).toNat = 48 + n % 10 by omega]
    have es : (⟨#[UInt8.ofNat (48 + n % 10)]⟩ : ByteArray).size = 1 := rfl
    refine ⟨by rw [es]; omega, nz (by decide) ⟨?_, by show ((n / 10 : Nat) : Int).toNat < (n : Int).toNat; omega⟩⟩
    cases f with
    | zero => simp at hn; omega
    | succ f =>
      refine ⟨f, n / 10, _, rfl, by rw [Nat.pow_succ] at hn; omega, by omega, by rw [ba_size, es]; omega, ?_, X.trans M.ext⟩
      rw [← he]
      conv => rhs; unfold mtextF
      rw [if_neg (by omega)]
  · obtain rfl : n = 0 := by omega
    rw [mtextF_zero] at he
    have es : (⟨#[109]⟩ : ByteArray).size = 1 := rfl
    refine ⟨by rw [es]; omega, ?_, X⟩
    rw [mtext, if_neg (by omega), he]
theorem Pt.stS1 {α : Type} {r : Rep α} {h0 h : Heap} {q : Addr} {F : Fr} {L : List Blk} {a : α} {n : ByteArray} {get : α → ByteArray} {put : α → ByteArray → α} {K : Heap → Prop} (P : Pt r h0 h q F L a) [Fc : FocC r 0 rS get put] (hn : n.size ≤ maxLen) (H : ∀ h', Pt r h0 h' q F L (put a n) → K h') : ST1 h q (.string n) K := by
  have := Pt.stS (off := 0) P (Fc := Fc) hn H
  rwa [add0] at this
end Go.Sx
