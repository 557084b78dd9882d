/- Bodies of voices: none there, or good ones. -/
import Derived.Test.YtnjbecdfoiiaoaaGreatDoorLk21
import Derived.Test.YtnjbecdfoiiaoaaGreatDoorLk10
import Derived.Test.YtnjbecdfoiiaoaaGreatDoorLk3
import Derived.Test.YtnjbecdfoiiaoaaGreatDoorLk17
import Derived.Test.YtnjbecdfoiiaoaaGreatDoorK6
set_option linter.unusedVariables false
set_option linter.unusedSimpArgs false
namespace Go.Sx
open Go.Proofs
set_option maxRecDepth 100000
set_option maxHeartbeats 1000000

theorem alcE {α : Type} {r : Rep α} {h0 h : Heap} {x : α} {cs : Array Value} {T : Nat} {F : Nat → Heap → Prop} (E : Ext h0 h) (R : r.rd h cs.toList x) (H : ∀ g h', Ext h0 h' → RdP r h' ⟨g, 0, none⟩ x → F g h') : ALC cs T F h :=
  alcR R fun g h' x' R' => H g h' (E.trans x') R'
theorem same_nil {α : Type} (xs : List α) : same xs [] = (xs.length == 0) := by
  rw [Bool.eq_iff_iff, same_iff, beq_iff_eq, List.length_eq_zero_iff]
theorem len0 {α : Type} {r : Rep α} {h : Heap} {b : Option Addr} {l c : Nat} {xs : List α} (S : SlR r h b l c xs) : ((l : Int) == (0 : Int)) = same xs [] := by
  rw [same_nil, S.len, Bool.eq_iff_iff, beq_iff_eq, beq_iff_eq]
  omega
section
variable {h : Heap} {q : Addr}
theorem zrd_Filter : rFilter.rd h [Value.int .i64 (0 : Int), Value.float .f32 0, Value.float .f32 0, Value.float .f32 0, Value.float .f32 0, Value.float .f32 0] z_Filter := rFilter.look zow_Filter (Mem.start h) (List.nil_sublist _)
theorem l09NoString_c {x : GString} (R : RdP rString h q x) : CALL prg f_spec_l09NoString #[.pointer (some q)] (fun u h' => u = .bool (same x z_String) ∧ Ext h h') h := by
  have k : same x z_String = (same x.Loop.Samples [] && (x.Loop.At == 0) && same x.Tune z_Filter && same x.Damp z_Filter && (x.Loss == 0)) := by rw [same_String]; unfold z_String z_Ring; rw [same_Ring]
  have A : ∀ {hh : Heap}, Ext h hh → RdP rString hh q x := fun e => R.ext e
  refine spec_l09NoString.call (R.oL1 fun b l c S => ?_)
  rw [len0 S]
  refine br (fun k1 => R.oI (br (fun k2 => alcE (Ext.refl h) zrd_Filter fun g h3 x3 Z => goE x3 (l02Same_c ((A x3).foc foc_String_Tune) Z) fun h4 x4 => as_b (br (fun k3 => alcE x4 zrd_Filter fun g h6 x6 Z => goE x6 (l02Same_c ((A x6).foc foc_String_Damp) Z) fun h7 x7 => as_b (br (fun k4 => (A x7).oF fun y hy => goE x7 (l01Same_c hy fw0 _) fun h9 x9 => as_b ⟨?_, x9⟩) fun k4 => ⟨?_, x7⟩)) fun k3 => ⟨?_, x4⟩)) fun k2 => ⟨?_, Ext.refl _⟩)) fun k1 => ⟨?_, Ext.refl _⟩
  all_goals (rw [k]; simp [*])
theorem l09NoPipe_c {x : GPipe} (R : RdP rPipe h q x) : CALL prg f_spec_l09NoPipe #[.pointer (some q)] (fun u h' => u = .bool (same x z_Pipe) ∧ Ext h h') h := by
  have k : same x z_Pipe = (same x.Right [] && same x.Left [] && same x.Scatter [] && same x.End z_Filter && (x.Open == false) && (x.Loss == 0) && (x.Rest == 0) && (x.Slope == 0)) := by rw [same_Pipe]; rfl
  have A : ∀ {hh : Heap}, Ext h hh → RdP rPipe hh q x := fun e => R.ext e
  refine spec_l09NoPipe.call (R.oL1 fun b l c S => ?_)
  rw [len0 S]
  refine br (fun k1 => R.oL fun b l c S => ?_) fun k1 => ⟨by rw [k, k1]; simp, Ext.refl _⟩
  rw [len0 S]
  refine br (fun k2 => R.oL fun b l c S => ?_) fun k2 => ⟨by rw [k, k2]; simp, Ext.refl _⟩
  rw [len0 S]
  refine br (fun k3 => alcE (Ext.refl h) zrd_Filter fun g h3 x3 Z => goE x3 (l02Same_c ((A x3).foc foc_Pipe_End) Z) fun h4 x4 => as_b (br (fun k4 => ?_) fun k4 => ⟨by rw [k, k4]; simp, x4⟩)) fun k3 => ⟨by rw [k, k3]; simp, Ext.refl _⟩
  refine (A x4).oB (brN (fun k5 => ?_) fun k5 => ⟨by rw [k, k5]; simp, x4⟩)
  refine (A x4).oF fun y hy => goE x4 (l01Same_c hy fw0 _) fun h5 x5 => as_b (br (fun k6 => ?_) fun k6 => ⟨by rw [k, k6]; simp, x5⟩)
  refine (A x5).oF fun y hy => goE x5 (l01Same_c hy fw0 _) fun h6 x6 => as_b (br (fun k7 => ?_) fun k7 => ⟨by rw [k, k7]; simp, x6⟩)
  refine (A x6).oF fun y hy => goE x6 (l01Same_c hy fw0 _) fun h7 x7 => as_b ⟨?_, x7⟩
  rw [k, k1, k2, k3, k4, k5, k6, k7]; rfl
theorem l09NoBow_c {x : GBow} (R : RdP rBow h q x) : CALL prg f_spec_l09NoBow #[.pointer (some q)] (fun u h' => u = .bool (same x z_Bow) ∧ Ext h h') h := by
  have k : same x z_Bow = (same x.Neck.Samples [] && (x.Neck.At == 0) && (same x.Bridge.Samples [] && (x.Bridge.At == 0)) && same x.Damp z_Filter && (x.Slope == 0) && (x.Loss == 0)) := by rw [same_Bow]; unfold z_Bow z_Ring; rw [same_Ring, same_Ring]
  have A : ∀ {hh : Heap}, Ext h hh → RdP rBow hh q x := fun e => R.ext e
  refine spec_l09NoBow.call (R.oL1 fun b l c S => ?_)
  rw [len0 S]
  refine br (fun k1 => R.oI (br (fun k2 => R.oL fun b l c S => ?_) fun k2 => ⟨by rw [k, k2]; simp, Ext.refl _⟩)) fun k1 => ⟨by rw [k, k1]; simp, Ext.refl _⟩
  rw [len0 S]
  refine br (fun k3 => R.oI (br (fun k4 => alcE (Ext.refl h) zrd_Filter fun g h3 x3 Z => goE x3 (l02Same_c ((A x3).foc foc_Bow_Damp) Z) fun h4 x4 => as_b (br (fun k5 => ?_) fun k5 => ⟨by rw [k, k5]; simp, x4⟩)) fun k4 => ⟨by rw [k, k4]; simp, Ext.refl _⟩)) fun k3 => ⟨by rw [k, k3]; simp, Ext.refl _⟩
  refine (A x4).oF fun y hy => goE x4 (l01Same_c hy fw0 _) fun h5 x5 => as_b (br (fun k6 => ?_) fun k6 => ⟨by rw [k, k6]; simp, x5⟩)
  refine (A x5).oF fun y hy => goE x5 (l01Same_c hy fw0 _) fun h6 x6 => as_b ⟨?_, x6⟩
  rw [k, k1, k2, k3, k4, k5, k6]; rfl
def GString.ok (x : GString) : Bool := x.Loop.ok && (x.Tune.ok && x.Tune.Kind == 3) && (x.Damp.ok && x.Damp.Kind == 2) && fin x.Loss
def GBow.ok (x : GBow) : Bool := x.Neck.okf && x.Bridge.okf && (x.Damp.ok && x.Damp.Kind == 1) && (fin x.Slope && fin x.Loss)
theorem l03Ok_c {x : GString} (R : RdP rString h q x) : CALL prg f_spec_l03Ok #[.pointer (some q)] (fun u h' => u = .bool x.ok ∧ Ext h h') h := by
  have A : ∀ {hh : Heap}, Ext h hh → RdP rString hh q x := fun e => R.ext e
  refine spec_l03Ok.call (goX (l02Ring_c (R.fst foc_String_Loop)) fun h1 x1 => as_b (br (fun k1 => ?_) fun k1 => ⟨by rw [GString.ok, k1]; rfl, x1⟩))
  refine goE x1 (l02Ok_c ((A x1).foc foc_String_Tune)) fun h2 x2 => as_b (br (fun k2 => (A x2).oI (br (fun k3 => ?_) fun k3 => ⟨by rw [GString.ok, k3]; simp, x2⟩)) fun k2 => ⟨by rw [GString.ok, k2]; simp, x2⟩)
  refine goE x2 (l02Ok_c ((A x2).foc foc_String_Damp)) fun h3 x3 => as_b (br (fun k4 => (A x3).oI (br (fun k5 => ?_) fun k5 => ⟨by rw [GString.ok, k5]; simp, x3⟩)) fun k4 => ⟨by rw [GString.ok, k4]; simp, x3⟩)
  exact (A x3).oF fun y hy => goE x3 (l01Finite_c hy _) fun h4 x4 => as_b ⟨by rw [GString.ok, k1, k2, k3, k4, k5]; rfl, x4⟩
theorem ValidString_c {cs : Array Value} {x : GString} (R0 : rString.rd h cs.toList x) : CALL prg f_impl_ValidString #[.agg cs] (fun u h' => u = .bool x.ok ∧ Ext h h') h := by
  refine impl_ValidString.call (alcE (Ext.refl h) R0 fun g h0 x0 R => ?_)
  have A : ∀ {hh : Heap}, Ext h0 hh → RdP rString hh ⟨g, 0, none⟩ x := fun e => R.ext e
  refine R.lda2 foc_String_Loop rfl fun c1 R1 => goX (ValidRing_c R1) fun h1 x1 => as_b (br (fun k1 => ?_) fun k1 => ⟨by rw [GString.ok, k1]; rfl, x0.trans x1⟩)
  refine (A x1).lda2 foc_String_Tune rfl fun c2 R2 => goE x1 (isFilter_c R2 _) fun h2 x2 => as_b (br (fun k2 => ?_) fun k2 => ⟨by rw [GString.ok, k2]; simp, x0.trans x2⟩)
  refine (A x2).lda2 foc_String_Damp rfl fun c3 R3 => goE x2 (isFilter_c R3 _) fun h3 x3 => as_b (br (fun k3 => ?_) fun k3 => ⟨by rw [GString.ok, k3]; simp, x0.trans x3⟩)
  exact (A x3).oF2 fun y hy => goE x3 (isFinite_c hy _) fun h4 x4 => as_b ⟨by rw [GString.ok, k1, k2, k3]; rfl, x0.trans x4⟩
theorem two_fl {x y a b : Nat} (hx : FW .f32 x a) (hy : FW .f32 y b) {T : Nat} {F : Nat → Heap → Prop} (H : ∀ g h', Ext h h' → SlR (rF .f32) h' (some ⟨g, 0, none⟩) 2 2 [a, b] → F g h') : ALC ⟨[.float .f32 x, .float .f32 y]⟩ T F h :=
  rArr_slr (r := rF .f32) (n := 2) (xs := [a, b]) (cs := [.float .f32 x, .float .f32 y]) ⟨rfl, [.float .f32 x], [.float .f32 y], rfl, ⟨x, rfl, hx⟩, [.float .f32 y], [], rfl, ⟨y, rfl, hy⟩, rfl⟩ (by decide) H
theorem ValidBow_c {cs : Array Value} {x : GBow} (R0 : rBow.rd h cs.toList x) : CALL prg f_impl_ValidBow #[.agg cs] (fun u h' => u = .bool x.ok ∧ Ext h h') h := by
  refine impl_ValidBow.call (alcE (Ext.refl h) R0 fun g h0 x0 R => ?_)
  have A : ∀ {hh : Heap}, Ext h0 hh → RdP rBow hh ⟨g, 0, none⟩ x := fun e => R.ext e
  refine R.lda2 foc_Bow_Neck rfl fun c1 R1 => goX (isRing_c R1) fun h1 x1 => as_b (br (fun k1 => ?_) fun k1 => ⟨by rw [GBow.ok, k1]; rfl, x0.trans x1⟩)
  refine (A x1).lda2 foc_Bow_Bridge rfl fun c2 R2 => goE x1 (isRing_c R2) fun h2 x2 => as_b (br (fun k2 => ?_) fun k2 => ⟨by rw [GBow.ok, k2]; simp, x0.trans x2⟩)
  refine (A x2).lda2 foc_Bow_Damp rfl fun c3 R3 => goE x2 (isFilter_c R3 _) fun h3 x3 => as_b (br (fun k3 => ?_) fun k3 => ⟨by rw [GBow.ok, k3]; simp, x0.trans x3⟩)
  refine (A x3).oF2 fun y hy => (A x3).oF2 fun z hz => two_fl hy hz fun g4 h4 x4 S => goX (areFinite_c S) fun h5 x5 => as_b ⟨?_, x0.trans (x3.trans (x4.trans x5))⟩
  rw [GBow.ok, k1, k2, k3]
  simp [allFin]
theorem l05Bow_c {x : GBow} (R : RdP rBow h q x) : CALL prg f_spec_l05Bow #[.pointer (some q)] (fun u h' => u = .bool x.ok ∧ Ext h h') h := by
  have A : ∀ {hh : Heap}, Ext h hh → RdP rBow hh q x := fun e => R.ext e
  have z0 : (rArr 2 rRing).rd h [Value.slice none 0 0, Value.int .i64 (0 : Int), Value.slice none 0 0, Value.int .i64 (0 : Int)] [z_Ring, z_Ring] := ⟨rfl, [Value.slice none 0 0, Value.int .i64 (0 : Int)], [Value.slice none 0 0, Value.int .i64 (0 : Int)], rfl, rRing.look zow_Ring (Mem.start h) (List.nil_sublist _), [Value.slice none 0 0, Value.int .i64 (0 : Int)], [], rfl, rRing.look zow_Ring (Mem.start h) (List.nil_sublist _), rfl⟩
  refine spec_l05Bow.call ((R.fst foc_Bow_Neck).lda1 rfl fun c1 R1 => R.lda foc_Bow_Bridge rfl fun c2 R2 => siz (rsz R1 rfl) (siz (rsz R2 rfl) ?_))
  have z1 := rd_splice (put := fun l b => l.set 0 b) (get := fun l => l[0]!) z0 (fun R => arr_put (i := 0) (by decide) R) R1
  have z2 := rd_splice (put := fun l b => l.set 1 b) (get := fun l => l[1]!) z1 (fun R => arr_put (i := 1) (by decide) R) R2
  refine rArr_slr (r := rRing) (n := 2) (xs := [x.Neck, x.Bridge]) z2 (by decide) fun g h1 x1 S => goE x1 (l04Rings_c S) fun h2 x2 => as_b ?_
  have k : x.ok = ([x.Neck, x.Bridge].all GRing.okf && (x.Damp.ok && x.Damp.Kind == 1) && (fin x.Slope && fin x.Loss)) := by rw [GBow.ok]; simp
  refine br (fun k1 => ?_) fun k1 => ⟨by rw [k, k1]; rfl, x2⟩
  refine goE x2 (l02Ok_c ((A x2).foc foc_Bow_Damp)) fun h3 x3 => as_b (br (fun k2 => (A x3).oI (br (fun k3 => ?_) fun k3 => ⟨by rw [k, k3]; simp, x3⟩)) fun k2 => ⟨by rw [k, k2]; simp, x3⟩)
  refine (A x3).oF fun y hy => (A x3).oF fun z hz => two_fl hy hz fun g4 h4 x4 S => goX (l04All_c S) fun h5 x5 => as_b ⟨?_, x3.trans (x4.trans x5)⟩
  rw [k, k1, k2, k3]
  simp [allFin]
end
end Go.Sx
