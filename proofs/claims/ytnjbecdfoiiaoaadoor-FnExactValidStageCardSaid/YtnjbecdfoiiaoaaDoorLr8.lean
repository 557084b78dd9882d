/- How Stage lie in cells; their parts; given ones opened. -/
import Derived.Test.YtnjbecdfoiiaoaaDoorLg
import Derived.Test.YtnjbecdfoiiaoaaDoorLx0
import Derived.Test.YtnjbecdfoiiaoaaDoorLp7
import Derived.Test.YtnjbecdfoiiaoaaDoorTab
import Derived.Test.YtnjbecdfoiiaoaaDoorLsl
import Derived.Test.YtnjbecdfoiiaoaaDoorLr6
set_option linter.unusedVariables false
set_option linter.unusedSimpArgs false
namespace Go.Sx
open Go.Proofs
def rStage : Rep GStage := (Rep.seq rScore (Rep.seq (rI .i64) (Rep.seq (rI .i64) ((rI .i64))))).via fun a => (a.Score, a.Voices, a.Blocks, a.Workers)
theorem foc_Stage_Score : Foc rStage rScore 0 (fun a => a.Score) (fun a b => { a with Score := b }) := (Foc.via (f := fun a : GStage => (a.Score, a.Voices, a.Blocks, a.Workers)) (get' := fun a => a.Score) (put' := fun a b => { a with Score := b }) (Foc.fst (Foc.here rScore)) (fun _ => rfl) (fun _ _ => rfl)).at rfl
theorem foc_Stage_Voices : Foc rStage (rI .i64) 6 (fun a => a.Voices) (fun a b => { a with Voices := b }) := (Foc.via (f := fun a : GStage => (a.Score, a.Voices, a.Blocks, a.Workers)) (get' := fun a => a.Voices) (put' := fun a b => { a with Voices := b }) (Foc.snd (Foc.fst (Foc.here (rI .i64)))) (fun _ => rfl) (fun _ _ => rfl)).at rfl
theorem foc_Stage_Blocks : Foc rStage (rI .i64) 7 (fun a => a.Blocks) (fun a b => { a with Blocks := b }) := (Foc.via (f := fun a : GStage => (a.Score, a.Voices, a.Blocks, a.Workers)) (get' := fun a => a.Blocks) (put' := fun a b => { a with Blocks := b }) (Foc.snd (Foc.snd (Foc.fst (Foc.here (rI .i64))))) (fun _ => rfl) (fun _ _ => rfl)).at rfl
theorem foc_Stage_Workers : Foc rStage (rI .i64) 8 (fun a => a.Workers) (fun a b => { a with Workers := b }) := (Foc.via (f := fun a : GStage => (a.Score, a.Voices, a.Blocks, a.Workers)) (get' := fun a => a.Workers) (put' := fun a b => { a with Workers := b }) (Foc.snd (Foc.snd (Foc.snd (Foc.here (rI .i64))))) (fun _ => rfl) (fun _ _ => rfl)).at rfl
def z_Stage : GStage := ⟨z_Score, 0, 0, 0⟩
theorem zow_Stage : rStage.ow [] [Value.float .f32 0, Value.float .f32 0, Value.float .f32 0, Value.slice none 0 0, Value.slice none 0 0, Value.slice none 0 0, Value.int .i64 (0 : Int), Value.int .i64 (0 : Int), Value.int .i64 (0 : Int)] z_Stage := ⟨[], [], [Value.float .f32 0, Value.float .f32 0, Value.float .f32 0, Value.slice none 0 0, Value.slice none 0 0, Value.slice none 0 0], [Value.int .i64 (0 : Int), Value.int .i64 (0 : Int), Value.int .i64 (0 : Int)], rfl, rfl, zow_Score, ⟨[], [], [Value.int .i64 (0 : Int)], [Value.int .i64 (0 : Int), Value.int .i64 (0 : Int)], rfl, rfl, ⟨rfl, rfl⟩, ⟨[], [], [Value.int .i64 (0 : Int)], [Value.int .i64 (0 : Int)], rfl, rfl, ⟨rfl, rfl⟩, ⟨rfl, rfl⟩⟩⟩⟩
instance lf_Stage_0 : FocC rStage 0 (rF .f32) (fun a => a.Score.Rate) (fun a b => { a with Score := { a.Score with Rate := b } }) := ⟨Foc.at (foc_Stage_Score.trans lf_Score_0.f) rfl⟩
instance lf_Stage_1 : FocC rStage 1 (rF .f32) (fun a => a.Score.Tuning.Base) (fun a b => { a with Score := { a.Score with Tuning := { a.Score.Tuning with Base := b } } }) := ⟨Foc.at (foc_Stage_Score.trans lf_Score_1.f) rfl⟩
instance lf_Stage_2 : FocC rStage 2 (rF .f32) (fun a => a.Score.Tuning.Octave) (fun a b => { a with Score := { a.Score with Tuning := { a.Score.Tuning with Octave := b } } }) := ⟨Foc.at (foc_Stage_Score.trans lf_Score_2.f) rfl⟩
instance lf_Stage_3 : FocC rStage 3 (rSl T_float32 (rF .f32)) (fun a => a.Score.Tuning.Degrees) (fun a b => { a with Score := { a.Score with Tuning := { a.Score.Tuning with Degrees := b } } }) := ⟨Foc.at (foc_Stage_Score.trans lf_Score_3.f) rfl⟩
instance lf_Stage_4 : FocC rStage 4 (rSl T_impl_Instrument rInstrument) (fun a => a.Score.Instruments) (fun a b => { a with Score := { a.Score with Instruments := b } }) := ⟨Foc.at (foc_Stage_Score.trans lf_Score_4.f) rfl⟩
instance lf_Stage_5 : FocC rStage 5 (rSl T_impl_Event rEvent) (fun a => a.Score.Events) (fun a b => { a with Score := { a.Score with Events := b } }) := ⟨Foc.at (foc_Stage_Score.trans lf_Score_5.f) rfl⟩
instance lf_Stage_6 : FocC rStage 6 (rI .i64) (fun a => a.Voices) (fun a b => { a with Voices := b }) := ⟨Foc.at foc_Stage_Voices rfl⟩
instance lf_Stage_7 : FocC rStage 7 (rI .i64) (fun a => a.Blocks) (fun a b => { a with Blocks := b }) := ⟨Foc.at foc_Stage_Blocks rfl⟩
instance lf_Stage_8 : FocC rStage 8 (rI .i64) (fun a => a.Workers) (fun a b => { a with Workers := b }) := ⟨Foc.at foc_Stage_Workers rfl⟩
end Go.Sx
