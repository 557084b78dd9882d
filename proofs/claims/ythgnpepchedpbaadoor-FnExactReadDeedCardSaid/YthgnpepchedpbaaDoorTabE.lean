/- The slice types of this seat's program: what their elements are. -/
import Derived.Test.YthgnpepchedpbaaDoorTab
import Derived.Test.YthgnpepchedpbaaDoorLsl
import Derived.Test.YthgnpepchedpbaaDoorLg
import Derived.Test.YthgnpepchedpbaaDoorLp3
import Derived.Test.YthgnpepchedpbaaDoorLp7
namespace Go.Sx
open Go.Proofs
theorem E_sl_string : ElemT prg T_sl_string T_string 1 16 := ⟨Tryd.underlying33, ⟨Tryd.t9, _, by kernel_rfl, rfl, by kernel_rfl, by kernel_rfl, by kernel_rfl⟩⟩
end Go.Sx
/- How Ring, Filter lie in cells; their parts; given ones opened. -/
set_option linter.unusedVariables false
set_option linter.unusedSimpArgs false
namespace Go.Sx
open Go.Proofs
def rFilter : Rep GFilter := (Rep.seq (rI .i64) (Rep.seq (rArr 3 (rF .f32)) ((rArr 2 (rF .f32))))).via fun a => (a.Kind, a.C, a.S)
theorem foc_Filter_Kind : Foc rFilter (rI .i64) 0 (fun a => a.Kind) (fun a b => { a with Kind := b }) := (Foc.via (f := fun a : GFilter => (a.Kind, a.C, a.S)) (get' := fun a => a.Kind) (put' := fun a b => { a with Kind := b }) (Foc.fst (Foc.here (rI .i64))) (fun _ => rfl) (fun _ _ => rfl)).at rfl
theorem foc_Filter_C : Foc rFilter (rArr 3 (rF .f32)) 1 (fun a => a.C) (fun a b => { a with C := b }) := (Foc.via (f := fun a : GFilter => (a.Kind, a.C, a.S)) (get' := fun a => a.C) (put' := fun a b => { a with C := b }) (Foc.snd (Foc.fst (Foc.here (rArr 3 (rF .f32))))) (fun _ => rfl) (fun _ _ => rfl)).at rfl
theorem foc_Filter_S : Foc rFilter (rArr 2 (rF .f32)) 4 (fun a => a.S) (fun a b => { a with S := b }) := (Foc.via (f := fun a : GFilter => (a.Kind, a.C, a.S)) (get' := fun a => a.S) (put' := fun a b => { a with S := b }) (Foc.snd (Foc.snd (Foc.here (rArr 2 (rF .f32))))) (fun _ => rfl) (fun _ _ => rfl)).at rfl
instance lf_Filter_0 : FocC rFilter 0 (rI .i64) (fun a => a.Kind) (fun a b => { a with Kind := b }) := ⟨Foc.at foc_Filter_Kind rfl⟩
instance lf_Filter_1 : FocC rFilter 1 (rF .f32) (fun a => a.C[0]!) (fun a b => { a with C := a.C.set 0 b }) := ⟨Foc.at (foc_Filter_C.trans (Foc.arr (rF .f32) 0 (by decide))) rfl⟩
instance lf_Filter_2 : FocC rFilter 2 (rF .f32) (fun a => a.C[1]!) (fun a b => { a with C := a.C.set 1 b }) := ⟨Foc.at (foc_Filter_C.trans (Foc.arr (rF .f32) 1 (by decide))) rfl⟩
instance lf_Filter_3 : FocC rFilter 3 (rF .f32) (fun a => a.C[2]!) (fun a b => { a with C := a.C.set 2 b }) := ⟨Foc.at (foc_Filter_C.trans (Foc.arr (rF .f32) 2 (by decide))) rfl⟩
instance lf_Filter_4 : FocC rFilter 4 (rF .f32) (fun a => a.S[0]!) (fun a b => { a with S := a.S.set 0 b }) := ⟨Foc.at (foc_Filter_S.trans (Foc.arr (rF .f32) 0 (by decide))) rfl⟩
instance lf_Filter_5 : FocC rFilter 5 (rF .f32) (fun a => a.S[1]!) (fun a b => { a with S := a.S.set 1 b }) := ⟨Foc.at (foc_Filter_S.trans (Foc.arr (rF .f32) 1 (by decide))) rfl⟩
end Go.Sx
/- The absolute value of a float32 by way of float64: the same as the sign taken away. -/
set_option linter.unusedVariables false
set_option linter.unusedSimpArgs false
namespace Go.Sx
open Ieee

def fabs (a : Nat) : Nat := cn .f32 (a % 2 ^ 31)
end Go.Sx
