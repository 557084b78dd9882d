/- What functions of this seat's program compute, told in words (a predicate over heaps for each), and the proofs that the words are no more than the code's own weakest precondition. -/
import Derived.Test.YthhepeklpgefkaaGreatDoorTab
import Derived.Test.YthhepeklpgefkaaGreatDoorLk17
import Derived.Test.YthhepeklpgefkaaGreatDoorLk4
import Derived.Test.YthhepeklpgefkaaGreatDoorTabE
import Derived.Test.YthhepeklpgefkaaGreatDoorLk24
import Derived.Test.YthhepeklpgefkaaGreatDoorLk32
namespace Go.Sx
open Go.Proofs
set_option linter.unusedVariables false
set_option maxRecDepth 100000

def impl_sameEvent.S (x_0 : Array Value) (y_1 : Array Value) (Post : Value → Heap → Prop) (h : Heap) : Prop :=
    ALC x_0 T_impl_Event (fun g1 h2 =>
    ALC y_1 T_impl_Event (fun g3 h4 =>
    oI .i64 (cell h4 ⟨g1, 0, none⟩) fun n5 =>
    oI .i64 (cell h4 ⟨g3, 0, none⟩) fun n6 =>
    BIF (n5 == n6) (
    oI .i64 (cell h4 ⟨g1, 1, none⟩) fun n7 =>
    oI .i64 (cell h4 ⟨g3, 1, none⟩) fun n8 =>
    BIF (n7 == n8) (
    oI .i64 (cell h4 ⟨g1, 2, none⟩) fun n9 =>
    oI .i64 (cell h4 ⟨g3, 2, none⟩) fun n10 =>
    BIF (n9 == n10) (
    oI .i64 (cell h4 ⟨g1, 3, none⟩) fun n11 =>
    oI .i64 (cell h4 ⟨g3, 3, none⟩) fun n12 =>
    BIF (n11 == n12) (
    oI .i64 (cell h4 ⟨g1, 4, none⟩) fun n13 =>
    oI .i64 (cell h4 ⟨g3, 4, none⟩) fun n14 =>
    BIF (n13 == n14) (
    oF .f32 (cell h4 ⟨g1, 5, none⟩) fun r15 =>
    oF .f32 (cell h4 ⟨g3, 5, none⟩) fun r16 =>
    CALL prg f_impl_SameSample #[.float .f32 r15, .float .f32 r16] (fun q17 h18 =>
    asB q17 fun b19 =>
    Post (.bool b19) h18) h4) (
    Post (.bool false) h4)) (
    Post (.bool false) h4)) (
    Post (.bool false) h4)) (
    Post (.bool false) h4)) (
    Post (.bool false) h4)) h2) h
noncomputable def impl_sameEvent.code : Code := (Tryz.f98.body).getD .skip
theorem impl_sameEvent.call {x_0 : Array Value} {y_1 : Array Value} {Post : Value → Heap → Prop} {h : Heap} (H : impl_sameEvent.S x_0 y_1 Post h) : CALL prg f_impl_sameEvent #[.agg x_0, .agg y_1] Post h :=
  fn_call tau_ok mixed (c := impl_sameEvent.code) (Λ := lookL []) Tryz.func98 (by kernel_rfl) (by kernel_rfl)
    (Rq.free (by kernel_rfl))
    (Eq.mp (by kernel_rfl) H)

end Go.Sx
/- The program's comparisons of rings, filters, tunings. -/
set_option linter.unusedVariables false
set_option linter.unusedSimpArgs false
namespace Go.Sx
open Go.Proofs
set_option maxRecDepth 100000
set_option maxHeartbeats 1000000

section
variable {h : Heap}
theorem sameEvent_c {ca cb : Array Value} {x y : GEvent} (Ra : rEvent.rd h ca.toList x) (Rb : rEvent.rd h cb.toList y) : CALL prg f_impl_sameEvent #[.agg ca, .agg cb] (fun u h' => u = .bool (same x y) ∧ Ext h h') h := by
  refine impl_sameEvent.call (alcR Ra fun g1 h1 x1 A => alcR (rEvent.ext x1 Rb) fun g2 h2 x2 B0 => ?_)
  have A0 := A.ext x2
  have X0 := x1.trans x2
  have E0 := Ext.refl h2
  have A : ∀ {hh : Heap}, Ext h2 hh → RdP rEvent hh ⟨g1, 0, none⟩ x := fun e => A0.ext e
  have B : ∀ {hh : Heap}, Ext h2 hh → RdP rEvent hh ⟨g2, 0, none⟩ y := fun e => B0.ext e
  (repeat' (first
    | exact (Bool.false_ne_true hb).elim
    | refine as_b ?_
    | refine pin_same ?_
    | refine RdP.oI2 (A (by assumption)) ?_
    | refine RdP.oF2 (A (by assumption)) fun _ _ => ?_
    | refine RdP.oI2 (B (by assumption)) ?_
    | refine RdP.oF2 (B (by assumption)) fun _ _ => ?_
    | refine RdP.lda1 (A (by assumption)) rfl fun _ _ => ?_
    | refine RdP.lda1 (B (by assumption)) rfl fun _ _ => ?_
    | refine goE (by assumption) (SameSample_c (by assumption) (by assumption) _) fun _ _ => ?_
    | refine brN (fun hb => ?_) (fun hb => ?_)
    | refine br (fun hb => ?_) (fun hb => ?_)
    | exact ⟨by rw [same_Event]; simp [*], X0.trans (by assumption)⟩))
end
end Go.Sx
/- What functions of this seat's program compute, told in words (a predicate over heaps for each), and the proofs that the words are no more than the code's own weakest precondition. -/
namespace Go.Sx
open Go.Proofs
set_option linter.unusedVariables false
set_option maxRecDepth 100000

def slices_IndexFunc_sl_impl_Event_impl_Event.B2 (Post : Value → Heap → Prop) (N2 : (Option Addr × Nat × Nat × Value × Int × Int) → Heap → Prop) : Option Addr × Nat × Nat × Value × Int × Int → Heap → Prop
  | (s_0b, s_0l, s_0c, f_1, t7, t8), h =>
    BIF (decide (t8 < t7)) (
    IDXS s_0b t8 s_0l fun p3 =>
    LDA 6 h ((Addr.add p3 ((Int.toNat t8) * 6))) fun a4 =>
    CALLD prg f_1 #[.agg a4] (fun q5 h6 =>
    asB q5 fun b7 =>
    BIF b7 (
    Post (.int .i64 t8) h6) (
    N2 (s_0b, s_0l, s_0c, f_1, t7, ((IntKind.i64.wrap (t8 + (1 : Int))))) h6)) h) (
    Post (.int .i64 (-1 : Int)) h)
def slices_IndexFunc_sl_impl_Event_impl_Event.g2 (fr : Frame) : Option Addr × Nat × Nat × Value × Int × Int := ((gLb (lget fr 0)), (gLl (lget fr 0)), (gLc (lget fr 0)), (lget fr 1), (gI (lget fr 7)), (gI (lget fr 8)))
def slices_IndexFunc_sl_impl_Event_impl_Event.l2 (Post : Value → Heap → Prop) : Frame → Heap → Prop := fun fr h => GRD (shape (kds 19 [(0, .l), (1, .v), (7, .i .i64), (8, .i .i64)]) fr) (LOOP (slices_IndexFunc_sl_impl_Event_impl_Event.B2 Post) (slices_IndexFunc_sl_impl_Event_impl_Event.g2 fr) h)
def slices_IndexFunc_sl_impl_Event_impl_Event.S (s_0b : Option Addr) (s_0l s_0c : Nat) (f_1 : Value) (Post : Value → Heap → Prop) (h : Heap) : Prop :=
    LOOP (slices_IndexFunc_sl_impl_Event_impl_Event.B2 Post) (s_0b, s_0l, s_0c, f_1, (s_0l : Int), (0 : Int)) h
noncomputable def slices_IndexFunc_sl_impl_Event_impl_Event.code : Code := (Tryz.f149.body).getD .skip
theorem slices_IndexFunc_sl_impl_Event_impl_Event.call {s_0b : Option Addr} {s_0l s_0c : Nat} {f_1 : Value} {Post : Value → Heap → Prop} {h : Heap} (H : slices_IndexFunc_sl_impl_Event_impl_Event.S s_0b s_0l s_0c f_1 Post h) : CALL prg f_slices_IndexFunc_sl_impl_Event_impl_Event #[.slice s_0b s_0l s_0c, f_1] Post h :=
  fn_call tau_ok mixed (c := slices_IndexFunc_sl_impl_Event_impl_Event.code) (Λ := lookL [(1000002, slices_IndexFunc_sl_impl_Event_impl_Event.l2 Post)]) Tryz.func149 (by kernel_rfl) (by kernel_rfl)
    (Rq.seq (by kernel_rfl) (Rq.free (by kernel_rfl)) (Rq.seq (by kernel_rfl) (Rq.seq (by kernel_rfl) (Rq.free (by kernel_rfl)) (Rq.block (Rq.loop (slices_IndexFunc_sl_impl_Event_impl_Event.l2 Post) (by kernel_rfl) (segL (g := slices_IndexFunc_sl_impl_Event_impl_Event.g2) tau_ok mixed (Λ := fun N2 => lookL []) (fun _ _ _ => by kernel_rfl) (fun N2 => (Rq.free (by kernel_rfl))))))) (Rq.free (by kernel_rfl))))
    (Eq.mp (by kernel_rfl) H)

def impl_ValidString.S (x_0 : Array Value) (Post : Value → Heap → Prop) (h : Heap) : Prop :=
    ALC x_0 T_impl_String (fun g1 h2 =>
    LDA 2 h2 ⟨g1, 0, none⟩ fun a3 =>
    CALL prg f_impl_ValidRing #[.agg a3] (fun q4 h5 =>
    asB q4 fun b6 =>
    BIF b6 (
    LDA 6 h5 ⟨g1, 2, none⟩ fun a7 =>
    CALL prg f_impl_isFilter #[.agg a7, .int .i64 (3 : Int)] (fun q8 h9 =>
    asB q8 fun b10 =>
    BIF b10 (
    LDA 6 h9 ⟨g1, 8, none⟩ fun a11 =>
    CALL prg f_impl_isFilter #[.agg a11, .int .i64 (2 : Int)] (fun q12 h13 =>
    asB q12 fun b14 =>
    BIF b14 (
    oF .f32 (cell h13 ⟨g1, 14, none⟩) fun r15 =>
    CALL prg f_impl_isFinite #[.float .f32 r15] (fun q16 h17 =>
    asB q16 fun b18 =>
    Post (.bool b18) h17) h13) (
    Post (.bool false) h13)) h9) (
    Post (.bool false) h9)) h5) (
    Post (.bool false) h5)) h2) h
noncomputable def impl_ValidString.code : Code := (Tryz.f235.body).getD .skip
theorem impl_ValidString.call {x_0 : Array Value} {Post : Value → Heap → Prop} {h : Heap} (H : impl_ValidString.S x_0 Post h) : CALL prg f_impl_ValidString #[.agg x_0] Post h :=
  fn_call tau_ok mixed (c := impl_ValidString.code) (Λ := lookL []) Tryz.func235 (by kernel_rfl) (by kernel_rfl)
    (Rq.free (by kernel_rfl))
    (Eq.mp (by kernel_rfl) H)

def spec_l09Start.J5 (N2 : (Addr × Int × Addr × Int) → Heap → Prop) (Post : Value → Heap → Prop) (s_0 : Addr) (note_1 : Int) (t4 : Addr) (i_6 : Int) (t36 : Bool) (h : Heap) : Prop :=
    BIF t36 (
    oL (cell h (Addr.add s_0 5)) fun l14b l14l l14c =>
    IDXS l14b i_6 l14l fun p15 =>
    LDA 6 h ((Addr.add p15 ((Int.toNat i_6) * 6))) fun a16 =>
    STA 6 h t4 a16 fun h17 =>
    LDA 6 h17 t4 fun a18 =>
    Post (.tuple ⟨[.agg a18, .bool true]⟩) h17) (
    N2 (s_0, note_1, t4, ((IntKind.i64.wrap (i_6 + (1 : Int))))) h)
def spec_l09Start.j5 (N2 : (Addr × Int × Addr × Int) → Heap → Prop) (Post : Value → Heap → Prop) : Frame → Heap → Prop := fun fr h => GRD (shape (kds 45 [(0, .p), (1, .i .i64), (4, .p), (6, .i .i64), (36, .b)]) fr) (spec_l09Start.J5 N2 Post (gP (lget fr 0)) (gI (lget fr 1)) (gP (lget fr 4)) (gI (lget fr 6)) (gB (lget fr 36)) h)
def spec_l09Start.B2 (Post : Value → Heap → Prop) (N2 : (Addr × Int × Addr × Int) → Heap → Prop) : Addr × Int × Addr × Int → Heap → Prop
  | (s_0, note_1, t4, i_6), h =>
    oL (cell h (Addr.add s_0 5)) fun l3b l3l l3c =>
    BIF ((decide (i_6 < (l3l : Int)))) (
    oL (cell h (Addr.add s_0 5)) fun l6b l6l l6c =>
    IDXS l6b i_6 l6l fun p7 =>
    oI .i64 (cell h ((Addr.add ((Addr.add p7 ((Int.toNat i_6) * 6))) 1))) fun n8 =>
    BIF (n8 == (2 : Int)) (
    oL (cell h (Addr.add s_0 5)) fun l9b l9l l9c =>
    IDXS l9b i_6 l9l fun p10 =>
    oI .i64 (cell h ((Addr.add ((Addr.add p10 ((Int.toNat i_6) * 6))) 2))) fun n11 =>
    spec_l09Start.J5 N2 Post s_0 note_1 t4 i_6 (n11 == note_1) h) (
    spec_l09Start.J5 N2 Post s_0 note_1 t4 i_6 false h)) (
    STA 6 h t4 (⟨[.int .i64 (0 : Int), .int .i64 (0 : Int), .int .i64 (0 : Int), .int .i64 (0 : Int), .int .i64 (0 : Int), .float .f32 0]⟩ : Array Value) fun h12 =>
    LDA 6 h12 t4 fun a13 =>
    Post (.tuple ⟨[.agg a13, .bool false]⟩) h12)
def spec_l09Start.g2 (fr : Frame) : Addr × Int × Addr × Int := ((gP (lget fr 0)), (gI (lget fr 1)), (gP (lget fr 4)), (gI (lget fr 6)))
def spec_l09Start.l2 (Post : Value → Heap → Prop) : Frame → Heap → Prop := fun fr h => GRD (shape (kds 45 [(0, .p), (1, .i .i64), (4, .p), (6, .i .i64)]) fr) (LOOP (spec_l09Start.B2 Post) (spec_l09Start.g2 fr) h)
def spec_l09Start.S (s_0 : Addr) (note_1 : Int) (Post : Value → Heap → Prop) (h : Heap) : Prop :=
    ALC ⟨Z_impl_Event⟩ T_impl_Event (fun g1 h2 =>
    LOOP (spec_l09Start.B2 Post) (s_0, note_1, ⟨g1, 0, none⟩, (0 : Int)) h2) h
noncomputable def spec_l09Start.code : Code := (Tryz.f95.body).getD .skip
theorem spec_l09Start.call {s_0 : Addr} {note_1 : Int} {Post : Value → Heap → Prop} {h : Heap} (H : spec_l09Start.S s_0 note_1 Post h) : CALL prg f_spec_l09Start #[.pointer (some s_0), .int .i64 note_1] Post h :=
  fn_call tau_ok mixed (c := spec_l09Start.code) (Λ := lookL [(1000002, spec_l09Start.l2 Post)]) Tryz.func95 (by kernel_rfl) (by kernel_rfl)
    (Rq.seq (by kernel_rfl) (Rq.free (by kernel_rfl)) (Rq.seq (by kernel_rfl) (Rq.seq (by kernel_rfl) (Rq.free (by kernel_rfl)) (Rq.block (Rq.loop (spec_l09Start.l2 Post) (by kernel_rfl) (segL (g := spec_l09Start.g2) tau_ok mixed (Λ := fun N2 => lookL [(5, spec_l09Start.j5 N2 Post)]) (fun _ _ _ => by kernel_rfl) (fun N2 => (Rq.seq (by kernel_rfl) (Rq.free (by kernel_rfl)) (Rq.seq (by kernel_rfl) (Rq.block (Rq.seqJ (spec_l09Start.j5 N2 Post) (by kernel_rfl) (seg (fun _ _ => by kernel_rfl)) (Rq.free (by kernel_rfl))
(Rq.free (by kernel_rfl)))) (Rq.free (by kernel_rfl))))))))) (Rq.free (by kernel_rfl))))
    (Eq.mp (by kernel_rfl) H)

def spec_l03Ok.S (x_0 : Addr) (Post : Value → Heap → Prop) (h : Heap) : Prop :=
    CALL prg f_spec_l02Ring #[.pointer (some x_0)] (fun q1 h2 =>
    asB q1 fun b3 =>
    BIF b3 (
    CALL prg f_spec_l02Ok #[.pointer (some (Addr.add x_0 2))] (fun q4 h5 =>
    asB q4 fun b6 =>
    BIF b6 (
    oI .i64 (cell h5 (Addr.add x_0 2)) fun n7 =>
    BIF (n7 == (3 : Int)) (
    CALL prg f_spec_l02Ok #[.pointer (some (Addr.add x_0 8))] (fun q8 h9 =>
    asB q8 fun b10 =>
    BIF b10 (
    oI .i64 (cell h9 (Addr.add x_0 8)) fun n11 =>
    BIF (n11 == (2 : Int)) (
    oF .f32 (cell h9 (Addr.add x_0 14)) fun r12 =>
    CALL prg f_spec_l01Finite #[.float .f32 r12] (fun q13 h14 =>
    asB q13 fun b15 =>
    Post (.bool b15) h14) h9) (
    Post (.bool false) h9)) (
    Post (.bool false) h9)) h5) (
    Post (.bool false) h5)) (
    Post (.bool false) h5)) h2) (
    Post (.bool false) h2)) h
noncomputable def spec_l03Ok.code : Code := (Tryz.f223.body).getD .skip
theorem spec_l03Ok.call {x_0 : Addr} {Post : Value → Heap → Prop} {h : Heap} (H : spec_l03Ok.S x_0 Post h) : CALL prg f_spec_l03Ok #[.pointer (some x_0)] Post h :=
  fn_call tau_ok mixed (c := spec_l03Ok.code) (Λ := lookL []) Tryz.func223 (by kernel_rfl) (by kernel_rfl)
    (Rq.free (by kernel_rfl))
    (Eq.mp (by kernel_rfl) H)

end Go.Sx
/- Bodies of voices: none there, or good ones. -/
set_option linter.unusedVariables false
set_option linter.unusedSimpArgs false
namespace Go.Sx
open Go.Proofs
set_option maxRecDepth 100000
set_option maxHeartbeats 1000000

theorem alcE {α : Type} {r : Rep α} {h0 h : Heap} {x : α} {cs : Array Value} {T : Nat} {F : Nat → Heap → Prop} (E : Ext h0 h) (R : r.rd h cs.toList x) (H : ∀ g h', Ext h0 h' → RdP r h' ⟨g, 0, none⟩ x → F g h') : ALC cs T F h :=
  alcR R fun g h' x' R' => H g h' (E.trans x') R'
section
variable {h : Heap} {q : Addr}
def GString.ok (x : GString) : Bool := x.Loop.ok && (x.Tune.ok && x.Tune.Kind == 3) && (x.Damp.ok && x.Damp.Kind == 2) && fin x.Loss
def GBow.ok (x : GBow) : Bool := x.Neck.okf && x.Bridge.okf && (x.Damp.ok && x.Damp.Kind == 1) && (fin x.Slope && fin x.Loss)
theorem l03Ok_c {x : GString} (R : RdP rString h q x) : CALL prg f_spec_l03Ok #[.pointer (some q)] (fun u h' => u = .bool x.ok ∧ Ext h h') h := by
  have A : ∀ {hh : Heap}, Ext h hh → RdP rString hh q x := fun e => R.ext e
  refine spec_l03Ok.call (goX (l02Ring_c (R.fst foc_String_Loop)) fun h1 x1 => as_b (br (fun k1 => ?_) fun k1 => ⟨by rw [GString.ok, k1]; rfl, x1⟩))
  refine goE x1 (l02Ok_c ((A x1).foc foc_String_Tune)) fun h2 x2 => as_b (br (fun k2 => (A x2).oI (br (fun k3 => ?_) fun k3 => ⟨by rw [GString.ok, k3]; simp, x2⟩)) fun k2 => ⟨by rw [GString.ok, k2]; simp, x2⟩)
  refine goE x2 (l02Ok_c ((A x2).foc foc_String_Damp)) fun h3 x3 => as_b (br (fun k4 => (A x3).oI (br (fun k5 => ?_) fun k5 => ⟨by rw [GString.ok, k5]; simp, x3⟩)) fun k4 => ⟨by rw [GString.ok, k4]; simp, x3⟩)
  exact (A x3).oF fun y hy => goE x3 (l01Finite_c hy _) fun h4 x4 => as_b ⟨by rw [GString.ok, k1, k2, k3, k4, k5]; rfl, x4⟩
theorem ValidString_c {cs : Array Value} {x : GString} (R0 : rString.rd h cs.toList x) : CALL prg f_impl_ValidString #[.agg cs] (fun u h' => u = .bool x.ok ∧ Ext h h') h := by
  refine impl_ValidString.call (alcE (Ext.refl h) R0 fun g h0 x0 R => ?_)
  have A : ∀ {hh : Heap}, Ext h0 hh → RdP rString hh ⟨g, 0, none⟩ x := fun e => R.ext e
  refine R.lda2 foc_String_Loop rfl fun c1 R1 => goX (ValidRing_c R1) fun h1 x1 => as_b (br (fun k1 => ?_) fun k1 => ⟨by rw [GString.ok, k1]; rfl, x0.trans x1⟩)
  refine (A x1).lda2 foc_String_Tune rfl fun c2 R2 => goE x1 (isFilter_c R2 _) fun h2 x2 => as_b (br (fun k2 => ?_) fun k2 => ⟨by rw [GString.ok, k2]; simp, x0.trans x2⟩)
  refine (A x2).lda2 foc_String_Damp rfl fun c3 R3 => goE x2 (isFilter_c R3 _) fun h3 x3 => as_b (br (fun k3 => ?_) fun k3 => ⟨by rw [GString.ok, k3]; simp, x0.trans x3⟩)
  exact (A x3).oF2 fun y hy => goE x3 (isFinite_c hy _) fun h4 x4 => as_b ⟨by rw [GString.ok, k1, k2, k3]; rfl, x0.trans x4⟩
end
end Go.Sx
/- Voices: the rule's and the program's. -/
set_option linter.unusedVariables false
set_option linter.unusedSimpArgs false
namespace Go.Sx
open Go.Proofs
set_option maxRecDepth 100000
set_option maxHeartbeats 2000000

noncomputable def freeOk (v : GVoice) : Bool := same v.String z_String && same v.Pipe z_Pipe && same v.Bow z_Bow && (v.Instrument == 0) && (v.Born == 0) && !v.Gone && (v.Drive == 0)
noncomputable def bodyOk (s : GScore) (v : GVoice) : Bool :=
  if s.Instruments[v.Instrument.toNat]!.Kind = 1 then v.String.ok && same v.Pipe z_Pipe && same v.Bow z_Bow else if s.Instruments[v.Instrument.toNat]!.Kind = 2 then same v.String z_String && v.Pipe.ok && same v.Bow z_Bow else same v.String z_String && same v.Pipe z_Pipe && v.Bow.ok
noncomputable def voiceOk (s : GScore) (v : GVoice) : Bool := if v.Note = -1 then freeOk v else match startEv s.Events v.Note with | none => false | some e => (e.Instrument == v.Instrument) && (e.At == v.Born) && fin v.Drive && bodyOk s v
theorem find_none {α : Type} [Inhabited α] {p : α → Bool} {l : List α} (h : ∀ i, i < l.length → p l[i]! = false) : l.find? p = none := by
  rw [List.find?_eq_none]
  intro x hx
  obtain ⟨i, hi, rfl⟩ := List.mem_iff_getElem.1 hx
  have := h i hi
  rw [getElem!_pos l i hi] at this
  rw [this]; decide
theorem find_some {α : Type} [Inhabited α] {p : α → Bool} {l : List α} {n : Nat} (hn : n < l.length) (h0 : ∀ i, i < n → p l[i]! = false) (h1 : p l[n]! = true) : l.find? p = some l[n]! := by
  rw [getElem!_pos l n hn] at h1 ⊢
  rw [List.find?_eq_some_iff_getElem]
  refine ⟨h1, n, hn, rfl, fun j hj => ?_⟩
  have := h0 j hj
  rw [getElem!_pos l j (by omega)] at this
  rw [this]; rfl
theorem score_ev {s : GScore} (h : s.ok = true) : EvGood s.Events s.Instruments.length := by
  unfold GScore.ok at h
  rw [Bool.and_eq_true] at h
  exact evOk_iff.1 h.2
theorem start_ins {s : GScore} (h : s.ok = true) {n : Int} {e : GEvent} (he : startEv s.Events n = some e) : 0 ≤ e.Instrument ∧ e.Instrument < s.Instruments.length := by
  have G := score_ev h
  have hm := List.mem_of_find?_eq_some he
  have hp := List.find?_some he
  obtain ⟨i, hi, rfl⟩ := List.mem_iff_getElem.1 hm
  have := G.part i hi
  rw [getElem!_pos _ i hi] at this
  rw [Bool.and_eq_true] at hp
  have hk : (s.Events[i]).Kind = 2 := by have := hp.1; unfold isSt at this; simpa using this
  unfold evPart at this
  rw [if_neg (by omega)] at this
  simp only [Bool.and_eq_true, inR, decide_eq_true_eq] at this
  omega
section
variable {h : Heap}
theorem IndexFunc_Event_c {b : Option Addr} {l c : Nat} {xs : List GEvent} {f : Value} {p : GEvent → Bool} (S : SlR rEvent h b l c xs) (T : TellsR prg rEvent h f p) :
    CALL prg f_slices_IndexFunc_sl_impl_Event_impl_Event #[.slice b l c, f] (fun u h' => u = .int .i64 (firstAt p xs) ∧ Ext h h') h := by
  refine slices_IndexFunc_sl_impl_Event_impl_Event.call ?_
  have hm2 := S.2.2.1
  have hm3 := S.2.1
  have := maxLen_lt
  have hl := S.len
  refine loop (fun x hh => ∃ n : Nat, x = (b, l, c, f, (l : Int), (n : Int)) ∧ n ≤ l ∧ Ext h hh ∧ ∀ i, i < n → p xs[i]! = false) (fun x => (l - x.2.2.2.2.2).toNat) ⟨0, rfl, by omega, Ext.refl _, fun i hi => by omega⟩ ?_
  rintro x hh ⟨n, rfl, hn, X, hf⟩
  refine brd (fun hc => ?_) fun hc => ⟨by rw [firstAt_none fun i hi => hf i (by omega)], X⟩
  refine (S.ext X).idx ev_sz (by omega) (by omega) fun a Ra => Ra.lda1 rfl fun cs Rc => goD X (T _ _ _ X Rc) fun h1 x1 => as_b (br (fun hb => ?_) fun hb => ?_)
  · exact ⟨by rw [firstAt_some (by omega) hf (by simpa using hb)], x1⟩
  · refine ⟨⟨n + 1, by rw [wrap64_succ (by omega)], by omega, x1, fun i hi => ?_⟩, by rw [wrap64_succ (by omega)]; show _ < _; simp; omega⟩
    by_cases e : i = n
    · subst e; simpa using hb
    · exact hf i (by omega)
theorem flat_Event : Flat rEvent := flat_via (flat_seq (flat_I _) (flat_seq (flat_I _) (flat_seq (flat_I _) (flat_seq (flat_I _) (flat_seq (flat_I _) (flat_F _))))))
/-- What a search for a note's start answers. -/
def StartR (h : Heap) (es : List GEvent) (n : Int) (u : Value) : Prop := ∃ cs : Array Value, u = .tuple ⟨[.agg cs, .bool (startEv es n).isSome]⟩ ∧ rEvent.rd h cs.toList ((startEv es n).getD z_Event)
theorem StartR.no {es : List GEvent} {n : Int} (e : startEv es n = none) : StartR h es n (.tuple ⟨[.agg ⟨[.int .i64 (0 : Int), .int .i64 (0 : Int), .int .i64 (0 : Int), .int .i64 (0 : Int), .int .i64 (0 : Int), .float .f32 0]⟩, .bool false]⟩) :=
  ⟨_, by rw [e]; rfl, by rw [e]; exact rEvent.look zow_Event (Mem.start h) (List.nil_sublist _)⟩
theorem StartR.yes {es : List GEvent} {n : Int} {e : GEvent} {cs : Array Value} {h0 : Heap} (he : startEv es n = some e) (R : rEvent.rd h0 cs.toList e) : StartR h es n (.tuple ⟨[.agg cs, .bool true]⟩) :=
  ⟨cs, by rw [he]; rfl, by rw [he]; exact rEvent.look (flat_Event _ _ _ R) (Mem.start h) (List.nil_sublist _)⟩
theorem l09Start_c {q : Addr} {s : GScore} (R : RdP rScore h q s) (n : Int) : CALL prg f_spec_l09Start #[.pointer (some q), .int .i64 n] (fun u h' => StartR h' s.Events n u ∧ Ext h h') h := by
  have hm := maxLen_lt
  refine spec_l09Start.call ((Mem.start h).alc fun g1 h1 x1 M => ?_)
  refine loop (fun x hh => ∃ m : Nat, x = (q, n, ⟨g1, 0, none⟩, (m : Int)) ∧ m ≤ s.Events.length ∧ Mem h hh [(g1, T_impl_Event, ⟨Z_impl_Event⟩)] ∧ ∀ i, i < m → (isSt s.Events[i]! && s.Events[i]!.Note == n) = false) (fun x => ((s.Events.length : Int) - x.2.2.2).toNat) ⟨0, rfl, by omega, M, fun i hi => by omega⟩ ?_
  rintro x hh ⟨m, rfl, hmm, M, hf⟩
  have A := R.ext M.ext
  refine A.oL fun b l c S => ?_
  have hl := S.len
  have s1 := S.2.1
  have s2 := S.2.2.1
  refine brd (fun hc => ?_) fun hc => ?_
  · have next : (isSt s.Events[m]! && s.Events[m]!.Note == n) = false → ((∃ k : Nat, (q, n, (⟨g1, 0, none⟩ : Addr), IntKind.i64.wrap ((m : Int) + 1)) = (q, n, ⟨g1, 0, none⟩, (k : Int)) ∧ k ≤ s.Events.length ∧ Mem h hh [(g1, T_impl_Event, ⟨Z_impl_Event⟩)] ∧ ∀ i, i < k → (isSt s.Events[i]! && s.Events[i]!.Note == n) = false) ∧ ((s.Events.length : Int) - IntKind.i64.wrap ((m : Int) + 1)).toNat < ((s.Events.length : Int) - m).toNat) := fun hn1 =>
      ⟨⟨m + 1, by rw [wrap64_succ (by omega)], by omega, M, fun i hi => by
        by_cases e : i = m
        · subst e; exact hn1
        · exact hf i (by omega)⟩, by rw [wrap64_succ (by omega)]; omega⟩
    refine A.oL fun b1 l1 c1 S1 => ?_
    have e1 := S1.len
    refine S1.idn ev_sz (by omega) fun a Ra => Ra.oI (br (fun k1 => ?_) fun k1 => ?_)
    · refine A.oL fun b2 l2 c2 S2 => ?_
      have e2 := S2.len
      refine S2.idn ev_sz (by omega) fun a2 Ra2 => Ra2.oI ?_
      unfold spec_l09Start.J5
      refine br (fun k2 => A.oL fun b3 l3 c3 S3 => ?_) fun k2 => next (by rw [show (s.Events[m]!.Note == n) = false from k2, Bool.and_false])
      have e3 := S3.len
      have hp : (isSt s.Events[m]! && s.Events[m]!.Note == n) = true := by rw [show isSt s.Events[m]! = true from k1, show (s.Events[m]!.Note == n) = true from k2]; rfl
      refine S3.idn ev_sz (by omega) fun a3 Ra3 => Ra3.lda1 rfl fun ce Re => M.sta0 .here (rsz Re rfl) (rEvent.rone Re) rfl .here fun h7 M2 => M2.lda0 .here (rsz Re rfl) ⟨.yes (find_some (by omega) hf hp) Re, M2.ext⟩
    · unfold spec_l09Start.J5
      exact br_f rfl (next (by rw [show isSt s.Events[m]! = false from k1]; rfl))
  · have hall : ∀ i, i < s.Events.length → (isSt s.Events[i]! && s.Events[i]!.Note == n) = false := fun i hi => hf i (by omega)
    refine M.sta0 .here rfl (rEvent.oone zow_Event) rfl .here fun h7 M => M.lda0 .here rfl ⟨.no (find_none hall), M.ext⟩
end
end Go.Sx
