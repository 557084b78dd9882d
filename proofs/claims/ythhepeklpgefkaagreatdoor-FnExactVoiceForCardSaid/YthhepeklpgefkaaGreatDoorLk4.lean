/- Filters moved on; blocks made by a function of their places. -/
import Derived.Test.YthhepeklpgefkaaGreatDoorLk24
import Derived.Test.YthhepeklpgefkaaGreatDoorLp7
import Derived.Test.YthhepeklpgefkaaGreatDoorLg
import Derived.Test.YthhepeklpgefkaaGreatDoorLp4
import Derived.Test.YthhepeklpgefkaaGreatDoorTabE
set_option linter.unusedVariables false
set_option linter.unusedSimpArgs false
namespace Go.Sx
open Go.Proofs
set_option maxRecDepth 100000

/-- What a step of a filter leaves. -/
def FStep (h0 h' : Heap) (q : Addr) (F : Fr) (L : List Blk) (f : GFilter) (a : Nat) (u : Value) : Prop := (∃ y, u = .float .f32 y ∧ FW .f32 y (f.step a).2) ∧ Pt rFilter h0 h' q F L (f.step a).1
section
variable {h0 h : Heap} {q : Addr} {F : Fr} {L : List Blk} {f : GFilter} {x a : Nat}
theorem FStep.of {f' : GFilter} {b y : Nat} (e : f.step a = (f', b)) (hy : FW .f32 y b) (P : Pt rFilter h0 h q F L f') : FStep h0 h q F L f a (.float .f32 y) := by
  unfold FStep
  rw [e]
  exact ⟨⟨y, rfl, hy⟩, P⟩
set_option maxHeartbeats 2000000 in
end
end Go.Sx
/- A slice that lies in own data taken out with its blocks, and put back changed. -/
set_option linter.unusedVariables false
set_option linter.unusedSimpArgs false
namespace Go.Sx
section
variable {α β : Type} {r : Rep α} {h0 h : Heap} {q : Addr} {F : Fr} {L : List Blk} {a : α} {off e : Nat} {s : Rep β} {get : α → List β} {put : α → List β → α}
theorem Pt.slg (P : Pt r h0 h q F L a) (Fc : Foc r (rSl e s) off get put) : ∃ b l c B N, cell h (q.add off) = some (.slice b l c) ∧ Mem h0 h (B ++ N) ∧ SlO e s B b l c (get a) ∧ L.Sublist N ∧
    ∀ h0' h' B' ys, SlO e s B' b l c ys → Mem h0' h' (B' ++ N) → Pt r h0' h' q F L (put a ys) ∧ cell h' (q.add off) = some (.slice b l c) := by
  obtain ⟨F1, L1, P1, hs, close⟩ := P.foc Fc
  obtain ⟨eq, mid, B, M, b, l, c, rfl, S⟩ := P1
  refine ⟨b, l, c, B, (F1.g, F1.T, ⟨F1.pre ++ ([.slice b l c] ++ F1.post)⟩) :: L1, ?_, M.perm List.perm_middle.symm, S, hs.trans (List.sublist_cons_self _ _), fun h0' h' B' ys S' M' => ?_⟩
  · rw [eq, M.cell .here]; simp
  · have M2 := M'.perm List.perm_middle
    refine ⟨close _ _ _ ⟨eq, [.slice b l c], B', M2, b, l, c, rfl, S'⟩, ?_⟩
    rw [eq, M2.cell .here]; simp
theorem Pt.sl1 (P : Pt r h0 h q F L a) (Fc : Foc r (rSl e s) 0 get put) : ∃ b l c B, ∃ N, cell h q = some (.slice b l c) ∧ Mem h0 h (B ++ N) ∧ SlO e s B b l c (get a) ∧ L.Sublist N ∧
    ∀ h0' h' B' ys, SlO e s B' b l c ys → Mem h0' h' (B' ++ N) → Pt r h0' h' q F L (put a ys) ∧ cell h' q = some (.slice b l c) := by
  have := P.slg Fc
  simpa only [add0] using this
end
end Go.Sx
/- What several structs' contracts have in common: slices of floats made, pairs answered, lists changed place by place. -/
set_option linter.unusedVariables false
set_option linter.unusedSimpArgs false
namespace Go.Sx
open Go.Proofs
set_option maxRecDepth 100000

section
variable {h : Heap} {q : Addr}
theorem zeros_fl (n : Nat) : ows (rF .f32) [] (List.replicate n (.float .f32 0)) (List.replicate n 0) := by
  induction n with
  | zero => exact ⟨rfl, rfl⟩
  | succ n ih => exact ⟨[], [], [.float .f32 0], List.replicate n (.float .f32 0), rfl, rfl, ⟨rfl, 0, rfl, fw0⟩, ih⟩
/-- A slice of zeros, made. -/
theorem make_floats {h0 : Heap} {L : List Blk} {n : Nat} {F : Nat → Heap → Prop} (M : Mem h0 h L) (hn : n ≤ 1048576)
    (H : ∀ g h', Ext h h' → Mem h0 h' ((g, T_float32, ⟨List.replicate n (.float .f32 0)⟩) :: L) → SlO T_float32 (rF .f32) [(g, T_float32, ⟨List.replicate n (.float .f32 0)⟩)] (some ⟨g, 0, none⟩) n n (List.replicate n 0) → F g h') : MKS ti_float32 T_float32 (n : Int) (n : Int) F h := by
  refine mks1 M rfl rfl (by show 4 * n ≤ 2 ^ 48; omega) (by omega) fun g h' x' M' => H g h' x' M' ?_
  have : n ≤ maxLen := by have : (1048576 : Nat) ≤ maxLen := by decide
                          omega
  exact ⟨by simp, List.replicate n (.float .f32 0), [_], [], rfl, ⟨by rw [List.length_replicate, show (rF .f32).sz = 1 from rfl, Nat.mul_one], .inr ⟨g, _, rfl, rfl, Nat.le_refl _, this, by rw [List.size_toArray, List.length_replicate, show (rF .f32).sz = 1 from rfl, Nat.mul_one], by
    rw [List.take_of_length_le]
    show (List.replicate n (Value.float .f32 0)).length ≤ n * 1
    simp⟩⟩, zeros_fl n⟩
theorem Pt.stL {α β : Type} {r : Rep α} {h0 : Heap} {F : Fr} {L B : List Blk} {a : α} {e : Nat} {s : Rep β} {get : α → List β} {put : α → List β → α} {b : Option Addr} {l c : Nat} {xs : List β} {K : Heap → Prop} (P : Pt r h0 h q F (B ++ L) a) [Fc : FocC r 0 (rSl e s) get put] (O : SlO e s B b l c xs)
    (H : ∀ h', Pt r h0 h' q F L (put a xs) → K h') : ST1 h q (.slice b l c) K := by
  have := Pt.st P Fc.f rfl ⟨b, l, c, rfl, O⟩ H
  rwa [add0] at this
end
/-- A pair of a value and a code, told by a call. -/
def PairR {α : Type} (r : Rep α) (h h' : Heap) (u : Value) (a : α) (code : Int) : Prop := ∃ cs B, u = .tuple ⟨[.agg cs, .int .i64 code]⟩ ∧ r.ow B cs.toList a ∧ Mem h h' B
end Go.Sx
/- How Pipe lie in cells; their parts; given ones opened. -/
set_option linter.unusedVariables false
set_option linter.unusedSimpArgs false
namespace Go.Sx
open Go.Proofs
def rPipe : Rep GPipe := (Rep.seq (rSl T_impl_Ring rRing) (Rep.seq (rSl T_impl_Ring rRing) (Rep.seq (rSl T_float32 (rF .f32)) (Rep.seq rFilter (Rep.seq rB (Rep.seq (rF .f32) (Rep.seq (rF .f32) ((rF .f32))))))))).via fun a => (a.Right, a.Left, a.Scatter, a.End, a.Open, a.Loss, a.Rest, a.Slope)
theorem foc_Pipe_Right : Foc rPipe (rSl T_impl_Ring rRing) 0 (fun a => a.Right) (fun a b => { a with Right := b }) := (Foc.via (f := fun a : GPipe => (a.Right, a.Left, a.Scatter, a.End, a.Open, a.Loss, a.Rest, a.Slope)) (get' := fun a => a.Right) (put' := fun a b => { a with Right := b }) (Foc.fst (Foc.here (rSl T_impl_Ring rRing))) (fun _ => rfl) (fun _ _ => rfl)).at rfl
theorem foc_Pipe_Left : Foc rPipe (rSl T_impl_Ring rRing) 1 (fun a => a.Left) (fun a b => { a with Left := b }) := (Foc.via (f := fun a : GPipe => (a.Right, a.Left, a.Scatter, a.End, a.Open, a.Loss, a.Rest, a.Slope)) (get' := fun a => a.Left) (put' := fun a b => { a with Left := b }) (Foc.snd (Foc.fst (Foc.here (rSl T_impl_Ring rRing)))) (fun _ => rfl) (fun _ _ => rfl)).at rfl
theorem foc_Pipe_Scatter : Foc rPipe (rSl T_float32 (rF .f32)) 2 (fun a => a.Scatter) (fun a b => { a with Scatter := b }) := (Foc.via (f := fun a : GPipe => (a.Right, a.Left, a.Scatter, a.End, a.Open, a.Loss, a.Rest, a.Slope)) (get' := fun a => a.Scatter) (put' := fun a b => { a with Scatter := b }) (Foc.snd (Foc.snd (Foc.fst (Foc.here (rSl T_float32 (rF .f32)))))) (fun _ => rfl) (fun _ _ => rfl)).at rfl
theorem foc_Pipe_End : Foc rPipe rFilter 3 (fun a => a.End) (fun a b => { a with End := b }) := (Foc.via (f := fun a : GPipe => (a.Right, a.Left, a.Scatter, a.End, a.Open, a.Loss, a.Rest, a.Slope)) (get' := fun a => a.End) (put' := fun a b => { a with End := b }) (Foc.snd (Foc.snd (Foc.snd (Foc.fst (Foc.here rFilter))))) (fun _ => rfl) (fun _ _ => rfl)).at rfl
theorem foc_Pipe_Open : Foc rPipe rB 9 (fun a => a.Open) (fun a b => { a with Open := b }) := (Foc.via (f := fun a : GPipe => (a.Right, a.Left, a.Scatter, a.End, a.Open, a.Loss, a.Rest, a.Slope)) (get' := fun a => a.Open) (put' := fun a b => { a with Open := b }) (Foc.snd (Foc.snd (Foc.snd (Foc.snd (Foc.fst (Foc.here rB)))))) (fun _ => rfl) (fun _ _ => rfl)).at rfl
theorem foc_Pipe_Loss : Foc rPipe (rF .f32) 10 (fun a => a.Loss) (fun a b => { a with Loss := b }) := (Foc.via (f := fun a : GPipe => (a.Right, a.Left, a.Scatter, a.End, a.Open, a.Loss, a.Rest, a.Slope)) (get' := fun a => a.Loss) (put' := fun a b => { a with Loss := b }) (Foc.snd (Foc.snd (Foc.snd (Foc.snd (Foc.snd (Foc.fst (Foc.here (rF .f32)))))))) (fun _ => rfl) (fun _ _ => rfl)).at rfl
theorem foc_Pipe_Rest : Foc rPipe (rF .f32) 11 (fun a => a.Rest) (fun a b => { a with Rest := b }) := (Foc.via (f := fun a : GPipe => (a.Right, a.Left, a.Scatter, a.End, a.Open, a.Loss, a.Rest, a.Slope)) (get' := fun a => a.Rest) (put' := fun a b => { a with Rest := b }) (Foc.snd (Foc.snd (Foc.snd (Foc.snd (Foc.snd (Foc.snd (Foc.fst (Foc.here (rF .f32))))))))) (fun _ => rfl) (fun _ _ => rfl)).at rfl
theorem foc_Pipe_Slope : Foc rPipe (rF .f32) 12 (fun a => a.Slope) (fun a b => { a with Slope := b }) := (Foc.via (f := fun a : GPipe => (a.Right, a.Left, a.Scatter, a.End, a.Open, a.Loss, a.Rest, a.Slope)) (get' := fun a => a.Slope) (put' := fun a b => { a with Slope := b }) (Foc.snd (Foc.snd (Foc.snd (Foc.snd (Foc.snd (Foc.snd (Foc.snd (Foc.here (rF .f32))))))))) (fun _ => rfl) (fun _ _ => rfl)).at rfl
def z_Pipe : GPipe := ⟨[], [], [], z_Filter, false, 0, 0, 0⟩
theorem zow_Pipe : rPipe.ow [] [Value.slice none 0 0, Value.slice none 0 0, Value.slice none 0 0, Value.int .i64 (0 : Int), Value.float .f32 0, Value.float .f32 0, Value.float .f32 0, Value.float .f32 0, Value.float .f32 0, Value.bool false, Value.float .f32 0, Value.float .f32 0, Value.float .f32 0] z_Pipe := ⟨[], [], [Value.slice none 0 0], [Value.slice none 0 0, Value.slice none 0 0, Value.int .i64 (0 : Int), Value.float .f32 0, Value.float .f32 0, Value.float .f32 0, Value.float .f32 0, Value.float .f32 0, Value.bool false, Value.float .f32 0, Value.float .f32 0, Value.float .f32 0], rfl, rfl, ⟨none, 0, 0, rfl, SlO.nil⟩, ⟨[], [], [Value.slice none 0 0], [Value.slice none 0 0, Value.int .i64 (0 : Int), Value.float .f32 0, Value.float .f32 0, Value.float .f32 0, Value.float .f32 0, Value.float .f32 0, Value.bool false, Value.float .f32 0, Value.float .f32 0, Value.float .f32 0], rfl, rfl, ⟨none, 0, 0, rfl, SlO.nil⟩, ⟨[], [], [Value.slice none 0 0], [Value.int .i64 (0 : Int), Value.float .f32 0, Value.float .f32 0, Value.float .f32 0, Value.float .f32 0, Value.float .f32 0, Value.bool false, Value.float .f32 0, Value.float .f32 0, Value.float .f32 0], rfl, rfl, ⟨none, 0, 0, rfl, SlO.nil⟩, ⟨[], [], [Value.int .i64 (0 : Int), Value.float .f32 0, Value.float .f32 0, Value.float .f32 0, Value.float .f32 0, Value.float .f32 0], [Value.bool false, Value.float .f32 0, Value.float .f32 0, Value.float .f32 0], rfl, rfl, zow_Filter, ⟨[], [], [Value.bool false], [Value.float .f32 0, Value.float .f32 0, Value.float .f32 0], rfl, rfl, ⟨rfl, rfl⟩, ⟨[], [], [Value.float .f32 0], [Value.float .f32 0, Value.float .f32 0], rfl, rfl, ⟨rfl, 0, rfl, fw_c32 (by decide) (by decide)⟩, ⟨[], [], [Value.float .f32 0], [Value.float .f32 0], rfl, rfl, ⟨rfl, 0, rfl, fw_c32 (by decide) (by decide)⟩, ⟨rfl, 0, rfl, fw_c32 (by decide) (by decide)⟩⟩⟩⟩⟩⟩⟩⟩
instance lf_Pipe_0 : FocC rPipe 0 (rSl T_impl_Ring rRing) (fun a => a.Right) (fun a b => { a with Right := b }) := ⟨Foc.at foc_Pipe_Right rfl⟩
instance lf_Pipe_1 : FocC rPipe 1 (rSl T_impl_Ring rRing) (fun a => a.Left) (fun a b => { a with Left := b }) := ⟨Foc.at foc_Pipe_Left rfl⟩
instance lf_Pipe_2 : FocC rPipe 2 (rSl T_float32 (rF .f32)) (fun a => a.Scatter) (fun a b => { a with Scatter := b }) := ⟨Foc.at foc_Pipe_Scatter rfl⟩
instance lf_Pipe_3 : FocC rPipe 3 (rI .i64) (fun a => a.End.Kind) (fun a b => { a with End := { a.End with Kind := b } }) := ⟨Foc.at (foc_Pipe_End.trans lf_Filter_0.f) rfl⟩
instance lf_Pipe_4 : FocC rPipe 4 (rF .f32) (fun a => a.End.C[0]!) (fun a b => { a with End := { a.End with C := a.End.C.set 0 b } }) := ⟨Foc.at (foc_Pipe_End.trans lf_Filter_1.f) rfl⟩
instance lf_Pipe_5 : FocC rPipe 5 (rF .f32) (fun a => a.End.C[1]!) (fun a b => { a with End := { a.End with C := a.End.C.set 1 b } }) := ⟨Foc.at (foc_Pipe_End.trans lf_Filter_2.f) rfl⟩
instance lf_Pipe_6 : FocC rPipe 6 (rF .f32) (fun a => a.End.C[2]!) (fun a b => { a with End := { a.End with C := a.End.C.set 2 b } }) := ⟨Foc.at (foc_Pipe_End.trans lf_Filter_3.f) rfl⟩
instance lf_Pipe_7 : FocC rPipe 7 (rF .f32) (fun a => a.End.S[0]!) (fun a b => { a with End := { a.End with S := a.End.S.set 0 b } }) := ⟨Foc.at (foc_Pipe_End.trans lf_Filter_4.f) rfl⟩
instance lf_Pipe_8 : FocC rPipe 8 (rF .f32) (fun a => a.End.S[1]!) (fun a b => { a with End := { a.End with S := a.End.S.set 1 b } }) := ⟨Foc.at (foc_Pipe_End.trans lf_Filter_5.f) rfl⟩
instance lf_Pipe_9 : FocC rPipe 9 rB (fun a => a.Open) (fun a b => { a with Open := b }) := ⟨Foc.at foc_Pipe_Open rfl⟩
instance lf_Pipe_10 : FocC rPipe 10 (rF .f32) (fun a => a.Loss) (fun a b => { a with Loss := b }) := ⟨Foc.at foc_Pipe_Loss rfl⟩
instance lf_Pipe_11 : FocC rPipe 11 (rF .f32) (fun a => a.Rest) (fun a b => { a with Rest := b }) := ⟨Foc.at foc_Pipe_Rest rfl⟩
instance lf_Pipe_12 : FocC rPipe 12 (rF .f32) (fun a => a.Slope) (fun a b => { a with Slope := b }) := ⟨Foc.at foc_Pipe_Slope rfl⟩
end Go.Sx
/- How String, Bow lie in cells; their parts; given ones opened. -/
set_option linter.unusedVariables false
set_option linter.unusedSimpArgs false
namespace Go.Sx
open Go.Proofs
def rString : Rep GString := (Rep.seq rRing (Rep.seq rFilter (Rep.seq rFilter ((rF .f32))))).via fun a => (a.Loop, a.Tune, a.Damp, a.Loss)
theorem foc_String_Loop : Foc rString rRing 0 (fun a => a.Loop) (fun a b => { a with Loop := b }) := (Foc.via (f := fun a : GString => (a.Loop, a.Tune, a.Damp, a.Loss)) (get' := fun a => a.Loop) (put' := fun a b => { a with Loop := b }) (Foc.fst (Foc.here rRing)) (fun _ => rfl) (fun _ _ => rfl)).at rfl
theorem foc_String_Tune : Foc rString rFilter 2 (fun a => a.Tune) (fun a b => { a with Tune := b }) := (Foc.via (f := fun a : GString => (a.Loop, a.Tune, a.Damp, a.Loss)) (get' := fun a => a.Tune) (put' := fun a b => { a with Tune := b }) (Foc.snd (Foc.fst (Foc.here rFilter))) (fun _ => rfl) (fun _ _ => rfl)).at rfl
theorem foc_String_Damp : Foc rString rFilter 8 (fun a => a.Damp) (fun a b => { a with Damp := b }) := (Foc.via (f := fun a : GString => (a.Loop, a.Tune, a.Damp, a.Loss)) (get' := fun a => a.Damp) (put' := fun a b => { a with Damp := b }) (Foc.snd (Foc.snd (Foc.fst (Foc.here rFilter)))) (fun _ => rfl) (fun _ _ => rfl)).at rfl
theorem foc_String_Loss : Foc rString (rF .f32) 14 (fun a => a.Loss) (fun a b => { a with Loss := b }) := (Foc.via (f := fun a : GString => (a.Loop, a.Tune, a.Damp, a.Loss)) (get' := fun a => a.Loss) (put' := fun a b => { a with Loss := b }) (Foc.snd (Foc.snd (Foc.snd (Foc.here (rF .f32))))) (fun _ => rfl) (fun _ _ => rfl)).at rfl
def z_String : GString := ⟨z_Ring, z_Filter, z_Filter, 0⟩
theorem zow_String : rString.ow [] [Value.slice none 0 0, Value.int .i64 (0 : Int), Value.int .i64 (0 : Int), Value.float .f32 0, Value.float .f32 0, Value.float .f32 0, Value.float .f32 0, Value.float .f32 0, Value.int .i64 (0 : Int), Value.float .f32 0, Value.float .f32 0, Value.float .f32 0, Value.float .f32 0, Value.float .f32 0, Value.float .f32 0] z_String := ⟨[], [], [Value.slice none 0 0, Value.int .i64 (0 : Int)], [Value.int .i64 (0 : Int), Value.float .f32 0, Value.float .f32 0, Value.float .f32 0, Value.float .f32 0, Value.float .f32 0, Value.int .i64 (0 : Int), Value.float .f32 0, Value.float .f32 0, Value.float .f32 0, Value.float .f32 0, Value.float .f32 0, Value.float .f32 0], rfl, rfl, zow_Ring, ⟨[], [], [Value.int .i64 (0 : Int), Value.float .f32 0, Value.float .f32 0, Value.float .f32 0, Value.float .f32 0, Value.float .f32 0], [Value.int .i64 (0 : Int), Value.float .f32 0, Value.float .f32 0, Value.float .f32 0, Value.float .f32 0, Value.float .f32 0, Value.float .f32 0], rfl, rfl, zow_Filter, ⟨[], [], [Value.int .i64 (0 : Int), Value.float .f32 0, Value.float .f32 0, Value.float .f32 0, Value.float .f32 0, Value.float .f32 0], [Value.float .f32 0], rfl, rfl, zow_Filter, ⟨rfl, 0, rfl, fw_c32 (by decide) (by decide)⟩⟩⟩⟩
instance lf_String_0 : FocC rString 0 (rSl T_float32 (rF .f32)) (fun a => a.Loop.Samples) (fun a b => { a with Loop := { a.Loop with Samples := b } }) := ⟨Foc.at (foc_String_Loop.trans lf_Ring_0.f) rfl⟩
instance lf_String_1 : FocC rString 1 (rI .i64) (fun a => a.Loop.At) (fun a b => { a with Loop := { a.Loop with At := b } }) := ⟨Foc.at (foc_String_Loop.trans lf_Ring_1.f) rfl⟩
instance lf_String_2 : FocC rString 2 (rI .i64) (fun a => a.Tune.Kind) (fun a b => { a with Tune := { a.Tune with Kind := b } }) := ⟨Foc.at (foc_String_Tune.trans lf_Filter_0.f) rfl⟩
instance lf_String_3 : FocC rString 3 (rF .f32) (fun a => a.Tune.C[0]!) (fun a b => { a with Tune := { a.Tune with C := a.Tune.C.set 0 b } }) := ⟨Foc.at (foc_String_Tune.trans lf_Filter_1.f) rfl⟩
instance lf_String_4 : FocC rString 4 (rF .f32) (fun a => a.Tune.C[1]!) (fun a b => { a with Tune := { a.Tune with C := a.Tune.C.set 1 b } }) := ⟨Foc.at (foc_String_Tune.trans lf_Filter_2.f) rfl⟩
instance lf_String_5 : FocC rString 5 (rF .f32) (fun a => a.Tune.C[2]!) (fun a b => { a with Tune := { a.Tune with C := a.Tune.C.set 2 b } }) := ⟨Foc.at (foc_String_Tune.trans lf_Filter_3.f) rfl⟩
instance lf_String_6 : FocC rString 6 (rF .f32) (fun a => a.Tune.S[0]!) (fun a b => { a with Tune := { a.Tune with S := a.Tune.S.set 0 b } }) := ⟨Foc.at (foc_String_Tune.trans lf_Filter_4.f) rfl⟩
instance lf_String_7 : FocC rString 7 (rF .f32) (fun a => a.Tune.S[1]!) (fun a b => { a with Tune := { a.Tune with S := a.Tune.S.set 1 b } }) := ⟨Foc.at (foc_String_Tune.trans lf_Filter_5.f) rfl⟩
instance lf_String_8 : FocC rString 8 (rI .i64) (fun a => a.Damp.Kind) (fun a b => { a with Damp := { a.Damp with Kind := b } }) := ⟨Foc.at (foc_String_Damp.trans lf_Filter_0.f) rfl⟩
instance lf_String_9 : FocC rString 9 (rF .f32) (fun a => a.Damp.C[0]!) (fun a b => { a with Damp := { a.Damp with C := a.Damp.C.set 0 b } }) := ⟨Foc.at (foc_String_Damp.trans lf_Filter_1.f) rfl⟩
instance lf_String_10 : FocC rString 10 (rF .f32) (fun a => a.Damp.C[1]!) (fun a b => { a with Damp := { a.Damp with C := a.Damp.C.set 1 b } }) := ⟨Foc.at (foc_String_Damp.trans lf_Filter_2.f) rfl⟩
instance lf_String_11 : FocC rString 11 (rF .f32) (fun a => a.Damp.C[2]!) (fun a b => { a with Damp := { a.Damp with C := a.Damp.C.set 2 b } }) := ⟨Foc.at (foc_String_Damp.trans lf_Filter_3.f) rfl⟩
instance lf_String_12 : FocC rString 12 (rF .f32) (fun a => a.Damp.S[0]!) (fun a b => { a with Damp := { a.Damp with S := a.Damp.S.set 0 b } }) := ⟨Foc.at (foc_String_Damp.trans lf_Filter_4.f) rfl⟩
instance lf_String_13 : FocC rString 13 (rF .f32) (fun a => a.Damp.S[1]!) (fun a b => { a with Damp := { a.Damp with S := a.Damp.S.set 1 b } }) := ⟨Foc.at (foc_String_Damp.trans lf_Filter_5.f) rfl⟩
instance lf_String_14 : FocC rString 14 (rF .f32) (fun a => a.Loss) (fun a b => { a with Loss := b }) := ⟨Foc.at foc_String_Loss rfl⟩
def rBow : Rep GBow := (Rep.seq rRing (Rep.seq rRing (Rep.seq rFilter (Rep.seq (rF .f32) ((rF .f32)))))).via fun a => (a.Neck, a.Bridge, a.Damp, a.Slope, a.Loss)
theorem foc_Bow_Neck : Foc rBow rRing 0 (fun a => a.Neck) (fun a b => { a with Neck := b }) := (Foc.via (f := fun a : GBow => (a.Neck, a.Bridge, a.Damp, a.Slope, a.Loss)) (get' := fun a => a.Neck) (put' := fun a b => { a with Neck := b }) (Foc.fst (Foc.here rRing)) (fun _ => rfl) (fun _ _ => rfl)).at rfl
theorem foc_Bow_Bridge : Foc rBow rRing 2 (fun a => a.Bridge) (fun a b => { a with Bridge := b }) := (Foc.via (f := fun a : GBow => (a.Neck, a.Bridge, a.Damp, a.Slope, a.Loss)) (get' := fun a => a.Bridge) (put' := fun a b => { a with Bridge := b }) (Foc.snd (Foc.fst (Foc.here rRing))) (fun _ => rfl) (fun _ _ => rfl)).at rfl
theorem foc_Bow_Damp : Foc rBow rFilter 4 (fun a => a.Damp) (fun a b => { a with Damp := b }) := (Foc.via (f := fun a : GBow => (a.Neck, a.Bridge, a.Damp, a.Slope, a.Loss)) (get' := fun a => a.Damp) (put' := fun a b => { a with Damp := b }) (Foc.snd (Foc.snd (Foc.fst (Foc.here rFilter)))) (fun _ => rfl) (fun _ _ => rfl)).at rfl
theorem foc_Bow_Slope : Foc rBow (rF .f32) 10 (fun a => a.Slope) (fun a b => { a with Slope := b }) := (Foc.via (f := fun a : GBow => (a.Neck, a.Bridge, a.Damp, a.Slope, a.Loss)) (get' := fun a => a.Slope) (put' := fun a b => { a with Slope := b }) (Foc.snd (Foc.snd (Foc.snd (Foc.fst (Foc.here (rF .f32)))))) (fun _ => rfl) (fun _ _ => rfl)).at rfl
theorem foc_Bow_Loss : Foc rBow (rF .f32) 11 (fun a => a.Loss) (fun a b => { a with Loss := b }) := (Foc.via (f := fun a : GBow => (a.Neck, a.Bridge, a.Damp, a.Slope, a.Loss)) (get' := fun a => a.Loss) (put' := fun a b => { a with Loss := b }) (Foc.snd (Foc.snd (Foc.snd (Foc.snd (Foc.here (rF .f32)))))) (fun _ => rfl) (fun _ _ => rfl)).at rfl
def z_Bow : GBow := ⟨z_Ring, z_Ring, z_Filter, 0, 0⟩
theorem zow_Bow : rBow.ow [] [Value.slice none 0 0, Value.int .i64 (0 : Int), Value.slice none 0 0, Value.int .i64 (0 : Int), Value.int .i64 (0 : Int), Value.float .f32 0, Value.float .f32 0, Value.float .f32 0, Value.float .f32 0, Value.float .f32 0, Value.float .f32 0, Value.float .f32 0] z_Bow := ⟨[], [], [Value.slice none 0 0, Value.int .i64 (0 : Int)], [Value.slice none 0 0, Value.int .i64 (0 : Int), Value.int .i64 (0 : Int), Value.float .f32 0, Value.float .f32 0, Value.float .f32 0, Value.float .f32 0, Value.float .f32 0, Value.float .f32 0, Value.float .f32 0], rfl, rfl, zow_Ring, ⟨[], [], [Value.slice none 0 0, Value.int .i64 (0 : Int)], [Value.int .i64 (0 : Int), Value.float .f32 0, Value.float .f32 0, Value.float .f32 0, Value.float .f32 0, Value.float .f32 0, Value.float .f32 0, Value.float .f32 0], rfl, rfl, zow_Ring, ⟨[], [], [Value.int .i64 (0 : Int), Value.float .f32 0, Value.float .f32 0, Value.float .f32 0, Value.float .f32 0, Value.float .f32 0], [Value.float .f32 0, Value.float .f32 0], rfl, rfl, zow_Filter, ⟨[], [], [Value.float .f32 0], [Value.float .f32 0], rfl, rfl, ⟨rfl, 0, rfl, fw_c32 (by decide) (by decide)⟩, ⟨rfl, 0, rfl, fw_c32 (by decide) (by decide)⟩⟩⟩⟩⟩
instance lf_Bow_0 : FocC rBow 0 (rSl T_float32 (rF .f32)) (fun a => a.Neck.Samples) (fun a b => { a with Neck := { a.Neck with Samples := b } }) := ⟨Foc.at (foc_Bow_Neck.trans lf_Ring_0.f) rfl⟩
instance lf_Bow_1 : FocC rBow 1 (rI .i64) (fun a => a.Neck.At) (fun a b => { a with Neck := { a.Neck with At := b } }) := ⟨Foc.at (foc_Bow_Neck.trans lf_Ring_1.f) rfl⟩
instance lf_Bow_2 : FocC rBow 2 (rSl T_float32 (rF .f32)) (fun a => a.Bridge.Samples) (fun a b => { a with Bridge := { a.Bridge with Samples := b } }) := ⟨Foc.at (foc_Bow_Bridge.trans lf_Ring_0.f) rfl⟩
instance lf_Bow_3 : FocC rBow 3 (rI .i64) (fun a => a.Bridge.At) (fun a b => { a with Bridge := { a.Bridge with At := b } }) := ⟨Foc.at (foc_Bow_Bridge.trans lf_Ring_1.f) rfl⟩
instance lf_Bow_4 : FocC rBow 4 (rI .i64) (fun a => a.Damp.Kind) (fun a b => { a with Damp := { a.Damp with Kind := b } }) := ⟨Foc.at (foc_Bow_Damp.trans lf_Filter_0.f) rfl⟩
instance lf_Bow_5 : FocC rBow 5 (rF .f32) (fun a => a.Damp.C[0]!) (fun a b => { a with Damp := { a.Damp with C := a.Damp.C.set 0 b } }) := ⟨Foc.at (foc_Bow_Damp.trans lf_Filter_1.f) rfl⟩
instance lf_Bow_6 : FocC rBow 6 (rF .f32) (fun a => a.Damp.C[1]!) (fun a b => { a with Damp := { a.Damp with C := a.Damp.C.set 1 b } }) := ⟨Foc.at (foc_Bow_Damp.trans lf_Filter_2.f) rfl⟩
instance lf_Bow_7 : FocC rBow 7 (rF .f32) (fun a => a.Damp.C[2]!) (fun a b => { a with Damp := { a.Damp with C := a.Damp.C.set 2 b } }) := ⟨Foc.at (foc_Bow_Damp.trans lf_Filter_3.f) rfl⟩
instance lf_Bow_8 : FocC rBow 8 (rF .f32) (fun a => a.Damp.S[0]!) (fun a b => { a with Damp := { a.Damp with S := a.Damp.S.set 0 b } }) := ⟨Foc.at (foc_Bow_Damp.trans lf_Filter_4.f) rfl⟩
instance lf_Bow_9 : FocC rBow 9 (rF .f32) (fun a => a.Damp.S[1]!) (fun a b => { a with Damp := { a.Damp with S := a.Damp.S.set 1 b } }) := ⟨Foc.at (foc_Bow_Damp.trans lf_Filter_5.f) rfl⟩
instance lf_Bow_10 : FocC rBow 10 (rF .f32) (fun a => a.Slope) (fun a b => { a with Slope := b }) := ⟨Foc.at foc_Bow_Slope rfl⟩
instance lf_Bow_11 : FocC rBow 11 (rF .f32) (fun a => a.Loss) (fun a b => { a with Loss := b }) := ⟨Foc.at foc_Bow_Loss rfl⟩
end Go.Sx
