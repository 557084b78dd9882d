/- New strings. -/
import Derived.Test.YthgnpepchedpbaaGreatLr6
import Derived.Test.YthgnpepchedpbaaGreatLk8
import Derived.Test.YthgnpepchedpbaaGreatK9
import Derived.Test.YthgnpepchedpbaaGreatLk7
import Derived.Test.YthgnpepchedpbaaGreatLs2
import Derived.Test.YthgnpepchedpbaaGreatTab
import Derived.Test.YthgnpepchedpbaaGreatLf8
import Derived.Test.YthgnpepchedpbaaGreatLk3
set_option linter.unusedVariables false
set_option linter.unusedSimpArgs false
namespace Go.Sx
open Go.Proofs Ieee
set_option maxRecDepth 100000
set_option maxHeartbeats 1000000

def allpassFor (f : Nat) : GFilter := if inside f 0 1073741824 then ⟨3, [fdiv .f32 (fsub .f32 1065353216 f) (fadd .f32 1065353216 f), 0, 0], [0, 0]⟩ else z_Filter
def oneZero (m : Nat) : GFilter := ⟨2, [fsub .f32 1065353216 m, m, 0], [0, 0]⟩
def onePole (k : Nat) : GFilter := ⟨1, [fsub .f32 1065353216 k, k, 0], [0, 0]⟩
def strN (p m : Nat) : Nat := if flt .f32 (fsub .f32 (fsub .f32 p m) (FloatKind.f32.nearest ((floorN (fsub .f32 p m) : Nat) : Int))) 1048576000 then floorN (fsub .f32 p m) - 1 else floorN (fsub .f32 p m)
def strOf (p m l : Nat) : GString := { Loop := ⟨List.replicate (strN p m) 0, 0⟩, Tune := allpassFor (fsub .f32 (fsub .f32 p m) (FloatKind.f32.nearest ((strN p m : Nat) : Int))), Damp := oneZero m, Loss := l }
def newString (p m l : Nat) : GString × Int := if inside p 1077936128 1149239296 then if inside m 0 1056964608 then if inside l 0 1065353216 then (strOf p m l, 0) else (z_String, 2) else (z_String, 2) else (z_String, 2)
/-- A filter's cells. -/
def flC (k : Int) (a b c d e : Nat) : List Value := [.int .i64 k, .float .f32 a, .float .f32 b, .float .f32 c, .float .f32 d, .float .f32 e]
theorem filter_ow {k : Int} {a b c d e a' b' c' d' e' : Nat} (ha : FW .f32 a a') (hb : FW .f32 b b') (hc : FW .f32 c c') (hd : FW .f32 d d') (he : FW .f32 e e') : rFilter.ow [] (flC k a b c d e) ⟨k, [a', b', c'], [d', e']⟩ :=
  ⟨[], [], [.int .i64 k], _, rfl, rfl, ⟨rfl, rfl⟩, [], [], [.float .f32 a, .float .f32 b, .float .f32 c], [.float .f32 d, .float .f32 e], rfl, rfl,
    ⟨rfl, [], [], [.float .f32 a], _, rfl, rfl, ⟨rfl, a, rfl, ha⟩, [], [], [.float .f32 b], _, rfl, rfl, ⟨rfl, b, rfl, hb⟩, [], [], [.float .f32 c], [], rfl, rfl, ⟨rfl, c, rfl, hc⟩, rfl, rfl⟩,
    ⟨rfl, [], [], [.float .f32 d], _, rfl, rfl, ⟨rfl, d, rfl, hd⟩, [], [], [.float .f32 e], [], rfl, rfl, ⟨rfl, e, rfl, he⟩, rfl, rfl⟩⟩
theorem ring_cells {B : List Blk} {cs : Array Value} {r : GRing} (O : rRing.ow B cs.toList r) : ∃ b l c, cs = ⟨[.slice b l c, .int .i64 r.At]⟩ ∧ SlO T_float32 (rF .f32) B b l c r.Samples := by
  obtain ⟨B1, B2, v1, v2, rfl, e, ⟨b, l, c, rfl, O1⟩, ⟨rfl, rfl⟩⟩ := O
  exact ⟨b, l, c, by cases cs; simpa using e, by simpa using O1⟩
theorem ring_ow {B : List Blk} {b : Option Addr} {l c : Nat} {r : GRing} (O : SlO T_float32 (rF .f32) B b l c r.Samples) : rRing.ow B [.slice b l c, .int .i64 r.At] r :=
  ⟨B, [], [.slice b l c], [.int .i64 r.At], by simp, rfl, ⟨b, l, c, rfl, O⟩, ⟨rfl, rfl⟩⟩
theorem c2 : FW .f32 1073741824 1073741824 := fw_c32 (by decide) (by decide)
theorem c3 : FW .f32 1077936128 1077936128 := fw_c32 (by decide) (by decide)
section
variable {h : Heap} {x a : Nat}
/-- A filter's cells that stand for one. -/
def FlR (u : Value) (f : GFilter) : Prop := ∃ (k : Int) (y z : Nat), u = .agg ⟨flC k y z 0 0 0⟩ ∧ rFilter.ow [] (flC k y z 0 0 0) f
theorem spec_OnePole_c (hx : FW .f32 x a) : CALL prg f_spec_OnePole #[.float .f32 x] (fun u h' => FlR u (onePole a) ∧ Ext h h') h :=
  spec_OnePole.call ((Mem.start h).alc fun g1 h1 x1 M => fS c1 hx fun r3 h3 => siz rfl (M.sta0 .here rfl (all_one rfl) rfl .here fun h3' M => M.lda0 .here rfl ⟨⟨1, r3, x, rfl, filter_ow h3 hx fw0 fw0 fw0⟩, M.ext⟩))
end
end Go.Sx
/- Rings copied in lists; reeds. -/
set_option linter.unusedVariables false
set_option linter.unusedSimpArgs false
namespace Go.Sx
open Go.Proofs
set_option maxRecDepth 100000
set_option maxHeartbeats 1000000

section
variable {h : Heap} {b : Option Addr} {l c : Nat} {rs : List GRing}
theorem fwone : FW .f32 1065353216 one32 := fw_c32 (by decide) (by decide)
end
end Go.Sx
/- What functions of this seat's program compute, told in words (a predicate over heaps for each), and the proofs that the words are no more than the code's own weakest precondition. -/
namespace Go.Sx
open Go.Proofs
set_option linter.unusedVariables false
set_option maxRecDepth 100000

def impl_ValidBow.S (x_0 : Array Value) (Post : Value → Heap → Prop) (h : Heap) : Prop :=
    ALC x_0 T_impl_Bow (fun g1 h2 =>
    LDA 2 h2 ⟨g1, 0, none⟩ fun a3 =>
    CALL prg f_impl_isRing #[.agg a3] (fun q4 h5 =>
    asB q4 fun b6 =>
    BIF b6 (
    LDA 2 h5 ⟨g1, 2, none⟩ fun a7 =>
    CALL prg f_impl_isRing #[.agg a7] (fun q8 h9 =>
    asB q8 fun b10 =>
    BIF b10 (
    LDA 6 h9 ⟨g1, 4, none⟩ fun a11 =>
    CALL prg f_impl_isFilter #[.agg a11, .int .i64 (1 : Int)] (fun q12 h13 =>
    asB q12 fun b14 =>
    BIF b14 (
    oF .f32 (cell h13 ⟨g1, 10, none⟩) fun r15 =>
    oF .f32 (cell h13 ⟨g1, 11, none⟩) fun r16 =>
    ALC ⟨[.float .f32 r15, .float .f32 r16]⟩ T_float32 (fun g17 h18 =>
    CALL prg f_impl_areFinite #[.slice (some ⟨g17, 0, none⟩) 2 2] (fun q19 h20 =>
    asB q19 fun b21 =>
    Post (.bool b21) h20) h18) h13) (
    Post (.bool false) h13)) h9) (
    Post (.bool false) h9)) h5) (
    Post (.bool false) h5)) h2) h
noncomputable def impl_ValidBow.code : Code := (Tryz.f60.body).getD .skip
theorem impl_ValidBow.call {x_0 : Array Value} {Post : Value → Heap → Prop} {h : Heap} (H : impl_ValidBow.S x_0 Post h) : CALL prg f_impl_ValidBow #[.agg x_0] Post h :=
  fn_call tau_ok mixed (c := impl_ValidBow.code) (Λ := lookL []) Tryz.func60 (by kernel_rfl) (by kernel_rfl)
    (Rq.free (by kernel_rfl))
    (Eq.mp (by kernel_rfl) H)

def spec_l05Bow.S (x_0 : Addr) (Post : Value → Heap → Prop) (h : Heap) : Prop :=
    LDA 2 h x_0 fun a1 =>
    LDA 2 h (Addr.add x_0 2) fun a2 =>
    SIZ (Array.size a1) 2 <|
    SIZ (Array.size a2) 2 <|
    ALC ⟨(splice 2 2 a2 (splice 0 2 a1 [.slice none 0 0, .int .i64 (0 : Int), .slice none 0 0, .int .i64 (0 : Int)]))⟩ T_impl_Ring (fun g3 h4 =>
    CALL prg f_spec_l04Rings #[.slice (some ⟨g3, 0, none⟩) 2 2] (fun q5 h6 =>
    asB q5 fun b7 =>
    BIF b7 (
    CALL prg f_spec_l02Ok #[.pointer (some (Addr.add x_0 4))] (fun q8 h9 =>
    asB q8 fun b10 =>
    BIF b10 (
    oI .i64 (cell h9 (Addr.add x_0 4)) fun n11 =>
    BIF (n11 == (1 : Int)) (
    oF .f32 (cell h9 (Addr.add x_0 10)) fun r12 =>
    oF .f32 (cell h9 (Addr.add x_0 11)) fun r13 =>
    ALC ⟨[.float .f32 r12, .float .f32 r13]⟩ T_float32 (fun g14 h15 =>
    CALL prg f_spec_l04All #[.slice (some ⟨g14, 0, none⟩) 2 2] (fun q16 h17 =>
    asB q16 fun b18 =>
    Post (.bool b18) h17) h15) h9) (
    Post (.bool false) h9)) (
    Post (.bool false) h9)) h6) (
    Post (.bool false) h6)) h4) h
noncomputable def spec_l05Bow.code : Code := (Tryz.f53.body).getD .skip
theorem spec_l05Bow.call {x_0 : Addr} {Post : Value → Heap → Prop} {h : Heap} (H : spec_l05Bow.S x_0 Post h) : CALL prg f_spec_l05Bow #[.pointer (some x_0)] Post h :=
  fn_call tau_ok mixed (c := spec_l05Bow.code) (Λ := lookL []) Tryz.func53 (by kernel_rfl) (by kernel_rfl)
    (Rq.free (by kernel_rfl))
    (Eq.mp (by kernel_rfl) H)

end Go.Sx
/- Bodies of voices: none there, or good ones. -/
set_option linter.unusedVariables false
set_option linter.unusedSimpArgs false
namespace Go.Sx
open Go.Proofs
set_option maxRecDepth 100000
set_option maxHeartbeats 1000000

theorem alcE {α : Type} {r : Rep α} {h0 h : Heap} {x : α} {cs : Array Value} {T : Nat} {F : Nat → Heap → Prop} (E : Ext h0 h) (R : r.rd h cs.toList x) (H : ∀ g h', Ext h0 h' → RdP r h' ⟨g, 0, none⟩ x → F g h') : ALC cs T F h :=
  alcR R fun g h' x' R' => H g h' (E.trans x') R'
section
variable {h : Heap} {q : Addr}
def GString.ok (x : GString) : Bool := x.Loop.ok && (x.Tune.ok && x.Tune.Kind == 3) && (x.Damp.ok && x.Damp.Kind == 2) && fin x.Loss
def GBow.ok (x : GBow) : Bool := x.Neck.okf && x.Bridge.okf && (x.Damp.ok && x.Damp.Kind == 1) && (fin x.Slope && fin x.Loss)
theorem two_fl {x y a b : Nat} (hx : FW .f32 x a) (hy : FW .f32 y b) {T : Nat} {F : Nat → Heap → Prop} (H : ∀ g h', Ext h h' → SlR (rF .f32) h' (some ⟨g, 0, none⟩) 2 2 [a, b] → F g h') : ALC ⟨[.float .f32 x, .float .f32 y]⟩ T F h :=
  rArr_slr (r := rF .f32) (n := 2) (xs := [a, b]) (cs := [.float .f32 x, .float .f32 y]) ⟨rfl, [.float .f32 x], [.float .f32 y], rfl, ⟨x, rfl, hx⟩, [.float .f32 y], [], rfl, ⟨y, rfl, hy⟩, rfl⟩ (by decide) H
theorem ValidBow_c {cs : Array Value} {x : GBow} (R0 : rBow.rd h cs.toList x) : CALL prg f_impl_ValidBow #[.agg cs] (fun u h' => u = .bool x.ok ∧ Ext h h') h := by
  refine impl_ValidBow.call (alcE (Ext.refl h) R0 fun g h0 x0 R => ?_)
  have A : ∀ {hh : Heap}, Ext h0 hh → RdP rBow hh ⟨g, 0, none⟩ x := fun e => R.ext e
  refine R.lda2 foc_Bow_Neck rfl fun c1 R1 => goX (isRing_c R1) fun h1 x1 => as_b (br (fun k1 => ?_) fun k1 => ⟨by rw [GBow.ok, k1]; rfl, x0.trans x1⟩)
  refine (A x1).lda2 foc_Bow_Bridge rfl fun c2 R2 => goE x1 (isRing_c R2) fun h2 x2 => as_b (br (fun k2 => ?_) fun k2 => ⟨by rw [GBow.ok, k2]; simp, x0.trans x2⟩)
  refine (A x2).lda2 foc_Bow_Damp rfl fun c3 R3 => goE x2 (isFilter_c R3 _) fun h3 x3 => as_b (br (fun k3 => ?_) fun k3 => ⟨by rw [GBow.ok, k3]; simp, x0.trans x3⟩)
  refine (A x3).oF2 fun y hy => (A x3).oF2 fun z hz => two_fl hy hz fun g4 h4 x4 S => goX (areFinite_c S) fun h5 x5 => as_b ⟨?_, x0.trans (x3.trans (x4.trans x5))⟩
  rw [GBow.ok, k1, k2, k3]
  simp [allFin]
theorem l05Bow_c {x : GBow} (R : RdP rBow h q x) : CALL prg f_spec_l05Bow #[.pointer (some q)] (fun u h' => u = .bool x.ok ∧ Ext h h') h := by
  have A : ∀ {hh : Heap}, Ext h hh → RdP rBow hh q x := fun e => R.ext e
  have z0 : (rArr 2 rRing).rd h [Value.slice none 0 0, Value.int .i64 (0 : Int), Value.slice none 0 0, Value.int .i64 (0 : Int)] [z_Ring, z_Ring] := ⟨rfl, [Value.slice none 0 0, Value.int .i64 (0 : Int)], [Value.slice none 0 0, Value.int .i64 (0 : Int)], rfl, rRing.look zow_Ring (Mem.start h) (List.nil_sublist _), [Value.slice none 0 0, Value.int .i64 (0 : Int)], [], rfl, rRing.look zow_Ring (Mem.start h) (List.nil_sublist _), rfl⟩
  refine spec_l05Bow.call ((R.fst foc_Bow_Neck).lda1 rfl fun c1 R1 => R.lda foc_Bow_Bridge rfl fun c2 R2 => siz (rsz R1 rfl) (siz (rsz R2 rfl) ?_))
  have z1 := rd_splice (put := fun l b => l.set 0 b) (get := fun l => l[0]!) z0 (fun R => arr_put (i := 0) (by decide) R) R1
  have z2 := rd_splice (put := fun l b => l.set 1 b) (get := fun l => l[1]!) z1 (fun R => arr_put (i := 1) (by decide) R) R2
  refine rArr_slr (r := rRing) (n := 2) (xs := [x.Neck, x.Bridge]) z2 (by decide) fun g h1 x1 S => goE x1 (l04Rings_c S) fun h2 x2 => as_b ?_
  have k : x.ok = ([x.Neck, x.Bridge].all GRing.okf && (x.Damp.ok && x.Damp.Kind == 1) && (fin x.Slope && fin x.Loss)) := by rw [GBow.ok]; simp
  refine br (fun k1 => ?_) fun k1 => ⟨by rw [k, k1]; rfl, x2⟩
  refine goE x2 (l02Ok_c ((A x2).foc foc_Bow_Damp)) fun h3 x3 => as_b (br (fun k2 => (A x3).oI (br (fun k3 => ?_) fun k3 => ⟨by rw [k, k3]; simp, x3⟩)) fun k2 => ⟨by rw [k, k2]; simp, x3⟩)
  refine (A x3).oF fun y hy => (A x3).oF fun z hz => two_fl hy hz fun g4 h4 x4 S => goX (l04All_c S) fun h5 x5 => as_b ⟨?_, x3.trans (x4.trans x5)⟩
  rw [k, k1, k2, k3]
  simp [allFin]
end
end Go.Sx
/- Voices: the rule's and the program's. -/
set_option linter.unusedVariables false
set_option linter.unusedSimpArgs false
namespace Go.Sx
open Go.Proofs
set_option maxRecDepth 100000
set_option maxHeartbeats 2000000

noncomputable def freeOk (v : GVoice) : Bool := same v.String z_String && same v.Pipe z_Pipe && same v.Bow z_Bow && (v.Instrument == 0) && (v.Born == 0) && !v.Gone && (v.Drive == 0)
noncomputable def bodyOk (s : GScore) (v : GVoice) : Bool :=
  if s.Instruments[v.Instrument.toNat]!.Kind = 1 then v.String.ok && same v.Pipe z_Pipe && same v.Bow z_Bow else if s.Instruments[v.Instrument.toNat]!.Kind = 2 then same v.String z_String && v.Pipe.ok && same v.Bow z_Bow else same v.String z_String && same v.Pipe z_Pipe && v.Bow.ok
noncomputable def voiceOk (s : GScore) (v : GVoice) : Bool := if v.Note = -1 then freeOk v else match startEv s.Events v.Note with | none => false | some e => (e.Instrument == v.Instrument) && (e.At == v.Born) && fin v.Drive && bodyOk s v
theorem first_cases {α : Type} [Inhabited α] (p : α → Bool) (l : List α) : (firstAt p l = -1 ∧ ∀ i, i < l.length → p l[i]! = false) ∨ ∃ n : Nat, n < l.length ∧ firstAt p l = n ∧ (∀ i, i < n → p l[i]! = false) ∧ p l[n]! = true := by
  unfold firstAt
  by_cases h : l.any p = true
  · rw [if_pos h]
    obtain ⟨x, hx, hp⟩ := List.any_eq_true.1 h
    have hlt : l.findIdx p < l.length := List.findIdx_lt_length_of_exists ⟨x, hx, hp⟩
    refine .inr ⟨l.findIdx p, hlt, rfl, fun i hi => ?_, ?_⟩
    · rw [getElem!_pos l i (by omega)]
      have := List.not_of_lt_findIdx hi
      simpa using this
    · rw [getElem!_pos l _ hlt]
      exact List.findIdx_getElem (w := hlt)
  · rw [if_neg h]
    refine .inl ⟨rfl, fun i hi => ?_⟩
    rw [getElem!_pos l i hi]
    rw [Bool.not_eq_true, List.any_eq_false] at h
    have := h _ (List.getElem_mem hi)
    simpa using this
theorem score_ev {s : GScore} (h : s.ok = true) : EvGood s.Events s.Instruments.length := by
  unfold GScore.ok at h
  rw [Bool.and_eq_true] at h
  exact evOk_iff.1 h.2
section
variable {h : Heap}
theorem flat_Event : Flat rEvent := flat_via (flat_seq (flat_I _) (flat_seq (flat_I _) (flat_seq (flat_I _) (flat_seq (flat_I _) (flat_seq (flat_I _) (flat_F _))))))
/-- What a search for a note's start answers. -/
def StartR (h : Heap) (es : List GEvent) (n : Int) (u : Value) : Prop := ∃ cs : Array Value, u = .tuple ⟨[.agg cs, .bool (startEv es n).isSome]⟩ ∧ rEvent.rd h cs.toList ((startEv es n).getD z_Event)
theorem StartR.no {es : List GEvent} {n : Int} (e : startEv es n = none) : StartR h es n (.tuple ⟨[.agg ⟨[.int .i64 (0 : Int), .int .i64 (0 : Int), .int .i64 (0 : Int), .int .i64 (0 : Int), .int .i64 (0 : Int), .float .f32 0]⟩, .bool false]⟩) :=
  ⟨_, by rw [e]; rfl, by rw [e]; exact rEvent.look zow_Event (Mem.start h) (List.nil_sublist _)⟩
theorem StartR.yes {es : List GEvent} {n : Int} {e : GEvent} {cs : Array Value} {h0 : Heap} (he : startEv es n = some e) (R : rEvent.rd h0 cs.toList e) : StartR h es n (.tuple ⟨[.agg cs, .bool true]⟩) :=
  ⟨cs, by rw [he]; rfl, by rw [he]; exact rEvent.look (flat_Event _ _ _ R) (Mem.start h) (List.nil_sublist _)⟩
end
end Go.Sx
