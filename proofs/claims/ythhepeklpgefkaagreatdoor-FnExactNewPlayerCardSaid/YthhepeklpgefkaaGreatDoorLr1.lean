/- How Ring, Filter lie in cells; their parts; given ones opened. -/
import Derived.Test.YthhepeklpgefkaaGreatDoorLg
import Derived.Test.YthhepeklpgefkaaGreatDoorTabE
import Derived.Test.YthhepeklpgefkaaGreatDoorLp7
import Derived.Test.YthhepeklpgefkaaGreatDoorTab
import Derived.Test.YthhepeklpgefkaaGreatDoorLp5
set_option linter.unusedVariables false
set_option linter.unusedSimpArgs false
namespace Go.Sx
open Go.Proofs
def rRing : Rep GRing := (Rep.seq (rSl T_float32 (rF .f32)) ((rI .i64))).via fun a => (a.Samples, a.At)
theorem foc_Ring_Samples : Foc rRing (rSl T_float32 (rF .f32)) 0 (fun a => a.Samples) (fun a b => { a with Samples := b }) := (Foc.via (f := fun a : GRing => (a.Samples, a.At)) (get' := fun a => a.Samples) (put' := fun a b => { a with Samples := b }) (Foc.fst (Foc.here (rSl T_float32 (rF .f32)))) (fun _ => rfl) (fun _ _ => rfl)).at rfl
theorem foc_Ring_At : Foc rRing (rI .i64) 1 (fun a => a.At) (fun a b => { a with At := b }) := (Foc.via (f := fun a : GRing => (a.Samples, a.At)) (get' := fun a => a.At) (put' := fun a b => { a with At := b }) (Foc.snd (Foc.here (rI .i64))) (fun _ => rfl) (fun _ _ => rfl)).at rfl
def z_Ring : GRing := ⟨[], 0⟩
theorem zow_Ring : rRing.ow [] [Value.slice none 0 0, Value.int .i64 (0 : Int)] z_Ring := ⟨[], [], [Value.slice none 0 0], [Value.int .i64 (0 : Int)], rfl, rfl, ⟨none, 0, 0, rfl, SlO.nil⟩, ⟨rfl, rfl⟩⟩
instance lf_Ring_0 : FocC rRing 0 (rSl T_float32 (rF .f32)) (fun a => a.Samples) (fun a b => { a with Samples := b }) := ⟨Foc.at foc_Ring_Samples rfl⟩
instance lf_Ring_1 : FocC rRing 1 (rI .i64) (fun a => a.At) (fun a b => { a with At := b }) := ⟨Foc.at foc_Ring_At rfl⟩
def rFilter : Rep GFilter := (Rep.seq (rI .i64) (Rep.seq (rArr 3 (rF .f32)) ((rArr 2 (rF .f32))))).via fun a => (a.Kind, a.C, a.S)
theorem foc_Filter_Kind : Foc rFilter (rI .i64) 0 (fun a => a.Kind) (fun a b => { a with Kind := b }) := (Foc.via (f := fun a : GFilter => (a.Kind, a.C, a.S)) (get' := fun a => a.Kind) (put' := fun a b => { a with Kind := b }) (Foc.fst (Foc.here (rI .i64))) (fun _ => rfl) (fun _ _ => rfl)).at rfl
theorem foc_Filter_C : Foc rFilter (rArr 3 (rF .f32)) 1 (fun a => a.C) (fun a b => { a with C := b }) := (Foc.via (f := fun a : GFilter => (a.Kind, a.C, a.S)) (get' := fun a => a.C) (put' := fun a b => { a with C := b }) (Foc.snd (Foc.fst (Foc.here (rArr 3 (rF .f32))))) (fun _ => rfl) (fun _ _ => rfl)).at rfl
theorem foc_Filter_S : Foc rFilter (rArr 2 (rF .f32)) 4 (fun a => a.S) (fun a b => { a with S := b }) := (Foc.via (f := fun a : GFilter => (a.Kind, a.C, a.S)) (get' := fun a => a.S) (put' := fun a b => { a with S := b }) (Foc.snd (Foc.snd (Foc.here (rArr 2 (rF .f32))))) (fun _ => rfl) (fun _ _ => rfl)).at rfl
def z_Filter : GFilter := ⟨0, [0, 0, 0], [0, 0]⟩
theorem zow_Filter : rFilter.ow [] [Value.int .i64 (0 : Int), Value.float .f32 0, Value.float .f32 0, Value.float .f32 0, Value.float .f32 0, Value.float .f32 0] z_Filter := ⟨[], [], [Value.int .i64 (0 : Int)], [Value.float .f32 0, Value.float .f32 0, Value.float .f32 0, Value.float .f32 0, Value.float .f32 0], rfl, rfl, ⟨rfl, rfl⟩, ⟨[], [], [Value.float .f32 0, Value.float .f32 0, Value.float .f32 0], [Value.float .f32 0, Value.float .f32 0], rfl, rfl, ⟨rfl, ⟨[], [], [Value.float .f32 0], [Value.float .f32 0, Value.float .f32 0], rfl, rfl, ⟨rfl, 0, rfl, fw_c32 (by decide) (by decide)⟩, ⟨[], [], [Value.float .f32 0], [Value.float .f32 0], rfl, rfl, ⟨rfl, 0, rfl, fw_c32 (by decide) (by decide)⟩, ⟨[], [], [Value.float .f32 0], [], rfl, rfl, ⟨rfl, 0, rfl, fw_c32 (by decide) (by decide)⟩, ⟨rfl, rfl⟩⟩⟩⟩⟩, ⟨rfl, ⟨[], [], [Value.float .f32 0], [Value.float .f32 0], rfl, rfl, ⟨rfl, 0, rfl, fw_c32 (by decide) (by decide)⟩, ⟨[], [], [Value.float .f32 0], [], rfl, rfl, ⟨rfl, 0, rfl, fw_c32 (by decide) (by decide)⟩, ⟨rfl, rfl⟩⟩⟩⟩⟩⟩
instance lf_Filter_0 : FocC rFilter 0 (rI .i64) (fun a => a.Kind) (fun a b => { a with Kind := b }) := ⟨Foc.at foc_Filter_Kind rfl⟩
instance lf_Filter_1 : FocC rFilter 1 (rF .f32) (fun a => a.C[0]!) (fun a b => { a with C := a.C.set 0 b }) := ⟨Foc.at (foc_Filter_C.trans (Foc.arr (rF .f32) 0 (by decide))) rfl⟩
instance lf_Filter_2 : FocC rFilter 2 (rF .f32) (fun a => a.C[1]!) (fun a b => { a with C := a.C.set 1 b }) := ⟨Foc.at (foc_Filter_C.trans (Foc.arr (rF .f32) 1 (by decide))) rfl⟩
instance lf_Filter_3 : FocC rFilter 3 (rF .f32) (fun a => a.C[2]!) (fun a b => { a with C := a.C.set 2 b }) := ⟨Foc.at (foc_Filter_C.trans (Foc.arr (rF .f32) 2 (by decide))) rfl⟩
instance lf_Filter_4 : FocC rFilter 4 (rF .f32) (fun a => a.S[0]!) (fun a b => { a with S := a.S.set 0 b }) := ⟨Foc.at (foc_Filter_S.trans (Foc.arr (rF .f32) 0 (by decide))) rfl⟩
instance lf_Filter_5 : FocC rFilter 5 (rF .f32) (fun a => a.S[1]!) (fun a b => { a with S := a.S.set 1 b }) := ⟨Foc.at (foc_Filter_S.trans (Foc.arr (rF .f32) 1 (by decide))) rfl⟩
end Go.Sx
/- What functions of this seat's program compute, told in words (a predicate over heaps for each), and the proofs that the words are no more than the code's own weakest precondition. -/
namespace Go.Sx
open Go.Proofs
set_option linter.unusedVariables false
set_option maxRecDepth 100000

def slices_Clone_sl_float32_float32.S (s_0b : Option Addr) (s_0l s_0c : Nat) (Post : Value → Heap → Prop) (h : Heap) : Prop :=
    CMP prg .eql T_sl_float32 (.tmp 3) (.const (.slice none 0 0)) (.slice s_0b s_0l s_0c) (.slice none 0 0) (fun b1 h2 =>
    BIF b1 (
    Post (.slice none 0 0) h2) (
    ALC ⟨[]⟩ T_float32 (fun g3 h4 =>
    SEMV prg (Builtin.append_ #[T_sl_float32, T_sl_float32] T_sl_float32 #[.slice (some ⟨g3, 0, none⟩) 0 0, .slice s_0b s_0l s_0c]) (fun q5 h6 =>
    asL q5 fun l7b l7l l7c =>
    Post (.slice l7b l7l l7c) h6) h4) h2)) h
noncomputable def slices_Clone_sl_float32_float32.code : Code := (Tryz.f136.body).getD .skip
theorem slices_Clone_sl_float32_float32.call {s_0b : Option Addr} {s_0l s_0c : Nat} {Post : Value → Heap → Prop} {h : Heap} (H : slices_Clone_sl_float32_float32.S s_0b s_0l s_0c Post h) : CALL prg f_slices_Clone_sl_float32_float32 #[.slice s_0b s_0l s_0c] Post h :=
  fn_call tau_ok mixed (c := slices_Clone_sl_float32_float32.code) (Λ := lookL []) Tryz.func136 (by kernel_rfl) (by kernel_rfl)
    (Rq.free (by kernel_rfl))
    (Eq.mp (by kernel_rfl) H)

end Go.Sx
/- Rings and filters in the program: what the functions compute. -/
set_option linter.unusedVariables false
set_option linter.unusedSimpArgs false
namespace Go.Sx
open Go.Proofs
set_option maxRecDepth 100000

theorem maxLen_lt : (maxLen : Nat) < 9223372036854775808 := by decide
/-- Where the first element is of which p holds; -1: nowhere. -/
def firstAt {α : Type} (p : α → Bool) (l : List α) : Int := if l.any p then (l.findIdx p : Nat) else -1
theorem firstAt_none {α : Type} [Inhabited α] {p : α → Bool} {l : List α} (h : ∀ i, i < l.length → p l[i]! = false) : firstAt p l = -1 := by
  unfold firstAt
  rw [if_neg]
  rw [Bool.not_eq_true, List.any_eq_false]
  intro x hx
  obtain ⟨i, hi, rfl⟩ := List.mem_iff_getElem.1 hx
  have := h i hi
  rw [getElem!_pos l i hi] at this
  rw [this]; decide
theorem firstAt_some {α : Type} [Inhabited α] {p : α → Bool} {l : List α} {n : Nat} (hn : n < l.length) (h : ∀ i, i < n → p l[i]! = false) (hp : p l[n]! = true) : firstAt p l = n := by
  unfold firstAt
  rw [getElem!_pos l n hn] at hp
  rw [if_pos (List.any_eq_true.2 ⟨_, List.getElem_mem hn, hp⟩)]
  congr 1
  rw [List.findIdx_eq hn]
  refine ⟨hp, fun j hj => ?_⟩
  have := h j hj
  rw [getElem!_pos l j (by omega)] at this
  simpa using this
theorem firstAt_any {α : Type} (p : α → Bool) (l : List α) : decide (0 ≤ firstAt p l) = l.any p := by
  unfold firstAt
  split
  · next h => rw [h]; exact decide_eq_true (by omega)
  · next h => rw [Bool.not_eq_true] at h; rw [h]; rfl
theorem CALLD.mono {P : Program} {f : Value} {args : Array Value} {K K' : Value → Heap → Prop} {h : Heap} (hk : ∀ v h, K v h → K' v h) (H : CALLD P f args K h) : CALLD P f args K' h := by
  unfold CALLD at H ⊢
  split at H
  · exact CALL.mono hk H
  · exact SEMN.mono hk H
end Go.Sx
