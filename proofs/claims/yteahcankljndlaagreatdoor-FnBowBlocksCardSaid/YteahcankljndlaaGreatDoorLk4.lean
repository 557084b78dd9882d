/- Filters moved on; blocks made by a function of their places. -/
import Derived.Test.YteahcankljndlaaGreatDoorLk1
import Derived.Test.YteahcankljndlaaGreatDoorLg
import Derived.Test.YteahcankljndlaaGreatDoorLp4
import Derived.Test.YteahcankljndlaaGreatDoorTabE
import Derived.Test.YteahcankljndlaaGreatDoorTab
set_option linter.unusedVariables false
set_option linter.unusedSimpArgs false
namespace Go.Sx
open Go.Proofs
set_option maxRecDepth 100000

theorem Pt.stF2 {α : Type} {r : Rep α} {h0 h : Heap} {q : Addr} {F : Fr} {L : List Blk} {a : α} {off : Nat} {get : α → List Nat} {put : α → List Nat → α} {x y m n : Nat} {K : Heap → Prop} (P : Pt r h0 h q F L a) (Fc : Foc r (rArr 2 (rF .f32)) off get put) (hx : FW .f32 x m) (hy : FW .f32 y n)
    (H : ∀ h', Pt r h0 h' q F L (put a [m, n]) → K h') : STA 2 h (q.add off) ⟨[.float .f32 x, .float .f32 y]⟩ K :=
  Pt.sts (B' := []) (b := [m, n]) P Fc rfl ⟨rfl, [], [], [.float .f32 x], [.float .f32 y], rfl, rfl, ⟨rfl, x, rfl, hx⟩, [], [], [.float .f32 y], [], rfl, rfl, ⟨rfl, y, rfl, hy⟩, rfl, rfl⟩ H
theorem set01 {l : List Nat} (h : l.length = 2) (a b : Nat) : (l.set 0 a).set 1 b = [a, b] := by
  match l, h with
  | [x, y], _ => rfl
/-- What a step of a filter leaves. -/
def FStep (h0 h' : Heap) (q : Addr) (F : Fr) (L : List Blk) (f : GFilter) (a : Nat) (u : Value) : Prop := (∃ y, u = .float .f32 y ∧ FW .f32 y (f.step a).2) ∧ Pt rFilter h0 h' q F L (f.step a).1
section
variable {h0 h : Heap} {q : Addr} {F : Fr} {L : List Blk} {f : GFilter} {x a : Nat}
theorem step1 (hk : f.Kind = 1) : f.step a = ({ f with S := f.S.set 0 (kept (fadd .f32 (fmul .f32 f.C[0]! a) (fmul .f32 f.C[1]! f.S[0]!))) }, fadd .f32 (fmul .f32 f.C[0]! a) (fmul .f32 f.C[1]! f.S[0]!)) := by unfold GFilter.step; rw [if_pos hk]
theorem step2 (hk : f.Kind = 2) : f.step a = ({ f with S := f.S.set 0 (kept a) }, fadd .f32 (fmul .f32 f.C[0]! a) (fmul .f32 f.C[1]! f.S[0]!)) := by unfold GFilter.step; rw [if_neg (by omega), if_pos hk]
theorem step3 (hk : f.Kind = 3) : f.step a = ({ f with S := (f.S.set 0 (kept a)).set 1 (kept (fadd .f32 (fmul .f32 f.C[0]! (fsub .f32 a f.S[1]!)) f.S[0]!)) }, fadd .f32 (fmul .f32 f.C[0]! (fsub .f32 a f.S[1]!)) f.S[0]!) := by
  unfold GFilter.step; rw [if_neg (by omega), if_neg (by omega), if_pos hk]
theorem step4 (hk : f.Kind = 4) : f.step a = ({ f with S := (f.S.set 0 (kept (fsub .f32 (fsub .f32 (fmul .f32 f.C[0]! a) (fmul .f32 f.C[1]! f.S[0]!)) (fmul .f32 f.C[2]! f.S[1]!)))).set 1 (kept f.S[0]!) }, fsub .f32 (fsub .f32 (fmul .f32 f.C[0]! a) (fmul .f32 f.C[1]! f.S[0]!)) (fmul .f32 f.C[2]! f.S[1]!)) := by
  unfold GFilter.step; rw [if_neg (by omega), if_neg (by omega), if_neg (by omega), if_pos hk]
theorem step5 (h1 : f.Kind ≠ 1) (h2 : f.Kind ≠ 2) (h3 : f.Kind ≠ 3) (h4 : f.Kind ≠ 4) : f.step a = ({ f with S := (f.S.set 0 (kept a)).set 1 (kept (fadd .f32 (fsub .f32 a f.S[0]!) (fmul .f32 f.C[0]! f.S[1]!))) }, fadd .f32 (fsub .f32 a f.S[0]!) (fmul .f32 f.C[0]! f.S[1]!)) := by
  unfold GFilter.step; rw [if_neg h1, if_neg h2, if_neg h3, if_neg h4]
theorem FStep.of {f' : GFilter} {b y : Nat} (e : f.step a = (f', b)) (hy : FW .f32 y b) (P : Pt rFilter h0 h q F L f') : FStep h0 h q F L f a (.float .f32 y) := by
  unfold FStep
  rw [e]
  exact ⟨⟨y, rfl, hy⟩, P⟩
theorem step4r (hk : f.Kind = 4) : f.step a = ({ f with S := (f.S.set 1 (kept f.S[0]!)).set 0 (kept (fsub .f32 (fsub .f32 (fmul .f32 f.C[0]! a) (fmul .f32 f.C[1]! f.S[0]!)) (fmul .f32 f.C[2]! f.S[1]!))) }, fsub .f32 (fsub .f32 (fmul .f32 f.C[0]! a) (fmul .f32 f.C[1]! f.S[0]!)) (fmul .f32 f.C[2]! f.S[1]!)) := by
  rw [step4 hk, List.set_comm _ _ (by decide)]
set_option maxHeartbeats 2000000 in
theorem l02Step_c (P : Pt rFilter h0 h q F L f) (hx : FW .f32 x a) : CALL prg f_spec_l02Step #[.pointer (some q), .float .f32 x] (fun u h' => FStep h0 h' q F L f a u) h := by
  have R := P.rd
  refine spec_l02Step.call (idx (by omega) (by omega) (R.oF fun y1 hy1 => idx (by omega) (by omega) (R.oF fun y2 hy2 => R.oI1 (br (fun hb => ?_) fun hb1 => br (fun hb => ?_) fun hb2 => br (fun hb => ?_) fun hb3 => br (fun hb => ?_) fun hb4 => ?_))))
  · have hb : f.Kind = 1 := by simpa using hb
    refine idx (by omega) (by omega) (R.oF fun z1 hz1 => idx (by omega) (by omega) (R.oF fun z2 hz2 => ?_))
    (repeat' (first | refine pin_same ?_ | refine fM (by assumption) (by assumption) fun _ _ => ?_ | refine And.intro ?_ ?_ | refine fA (by assumption) (by assumption) fun _ _ => ?_ | refine fS (by assumption) (by assumption) fun _ _ => ?_))
    all_goals (
      refine Fl.go (l02Kept_c (by assumption)) fun h1 y x1 hy => ?_
      exact as_f (idx (by omega) (by omega) ((P.grow x1).stF hy fun h2 P2 => FStep.of (step1 hb) (by assumption) P2)))
  · have hb : f.Kind = 2 := by simpa using hb
    refine idx (by omega) (by omega) (R.oF fun z1 hz1 => idx (by omega) (by omega) (R.oF fun z2 hz2 => ?_))
    (repeat' (first | refine pin_same ?_ | refine fM (by assumption) (by assumption) fun _ _ => ?_ | refine And.intro ?_ ?_ | refine fA (by assumption) (by assumption) fun _ _ => ?_ | refine fS (by assumption) (by assumption) fun _ _ => ?_))
    all_goals (
      refine (l02Kept_c hx).go fun h1 y x1 hy => ?_
      exact as_f (idx (by omega) (by omega) ((P.grow x1).stF hy fun h2 P2 => FStep.of (step2 hb) (by assumption) P2)))
  · have hb : f.Kind = 3 := by simpa using hb
    refine idx (by omega) (by omega) (R.oF fun z1 hz1 => ?_)
    (repeat' (first | refine pin_same ?_ | refine fM (by assumption) (by assumption) fun _ _ => ?_ | refine And.intro ?_ ?_ | refine fA (by assumption) (by assumption) fun _ _ => ?_ | refine fS (by assumption) (by assumption) fun _ _ => ?_))
    all_goals (
      refine (l02Kept_c hx).go fun h1 y x1 hy => as_f (idx (by omega) (by omega) ((P.grow x1).stF hy fun h2 P2 => ?_))
      refine Fl.go (l02Kept_c (by assumption)) fun h3 y x3 hy => ?_
      exact as_f (idx (by omega) (by omega) ((P2.grow x3).stF hy fun h4 P4 => FStep.of (step3 hb) (by assumption) P4)))
  · have hb : f.Kind = 4 := by simpa using hb
    refine idx (by omega) (by omega) (R.oF fun z1 hz1 => idx (by omega) (by omega) (R.oF fun z2 hz2 => idx (by omega) (by omega) (R.oF fun z3 hz3 => ?_)))
    (repeat' (first | refine pin_same ?_ | refine fM (by assumption) (by assumption) fun _ _ => ?_ | refine And.intro ?_ ?_ | refine fA (by assumption) (by assumption) fun _ _ => ?_ | refine fS (by assumption) (by assumption) fun _ _ => ?_))
    all_goals (
      refine (l02Kept_c hy1).go fun h1 y x1 hy => ?_
      refine as_f (idx (by omega) (by omega) ((P.grow x1).stF hy fun h2 P2 => ?_))
      refine Fl.go (l02Kept_c (by assumption)) fun h3 y x3 hy => ?_
      exact as_f (idx (by omega) (by omega) ((P2.grow x3).stF hy fun h4 P4 => FStep.of (step4r hb) (by assumption) P4)))
  · refine fS hx hy1 fun w1 hw1 => idx (by omega) (by omega) (R.oF fun z1 hz1 => ?_)
    (repeat' (first | refine pin_same ?_ | refine fM (by assumption) (by assumption) fun _ _ => ?_ | refine And.intro ?_ ?_ | refine fA (by assumption) (by assumption) fun _ _ => ?_ | refine fS (by assumption) (by assumption) fun _ _ => ?_))
    all_goals (
      refine (l02Kept_c hx).go fun h1 y x1 hy => as_f (idx (by omega) (by omega) ((P.grow x1).stF hy fun h2 P2 => ?_))
      refine Fl.go (l02Kept_c (by assumption)) fun h3 y x3 hy => ?_
      exact as_f (idx (by omega) (by omega) ((P2.grow x3).stF hy fun h4 P4 => FStep.of (step5 (by simpa using hb1) (by simpa using hb2) (by simpa using hb3) (by simpa using hb4)) (by assumption) P4)))
theorem Filter_step_c (P : Pt rFilter h0 h q F L f) (hx : FW .f32 x a) : CALL prg f_p_impl_Filter_step #[.pointer (some q), .float .f32 x] (fun u h' => FStep h0 h' q F L f a u) h := by
  have R := P.rd
  have RC := R.foc foc_Filter_C
  have RS := R.foc foc_Filter_S
  have hS : f.S.length = 2 := RS.len
  have key : ∀ {hh : Heap} {L' : List Blk} {c s : Addr}, L.Sublist L' → Pt rFilter h0 hh q F L' f → RdP (rArr 3 (rF .f32)) hh c f.C → RdP (rArr 2 (rF .f32)) hh s f.S → p_impl_Filter_step.J2 (fun u h' => FStep h0 h' q F L f a u) q x c s hh := by
    intro hh L' c s hs P C S
    replace P := P.sub hs
    have R := P.rd
    refine R.oI1 (br (fun hb => ?_) fun hb1 => br (fun hb => ?_) fun hb2 => br (fun hb => ?_) fun hb3 => br (fun hb => ?_) fun hb4 => ?_)
    · have hb : f.Kind = 1 := by simpa using hb
      refine idx (by omega) (by omega) (C.oF1 fun z1 hz1 => fM hz1 hx fun w1 hw1 => idx (by omega) (by omega) (C.oF fun z2 hz2 => idx (by omega) (by omega) (S.oF1 fun z3 hz3 => fM hz2 hz3 fun w2 hw2 => fA hw1 hw2 fun w3 hw3 => ?_)))
      exact (kept_c hw3).go fun h1 y x1 hy => as_f (idx (by omega) (by omega) ((P.grow x1).stF hy fun h2 P2 => FStep.of (step1 hb) hw3 P2))
    · have hb : f.Kind = 2 := by simpa using hb
      refine idx (by omega) (by omega) (C.oF1 fun z1 hz1 => fM hz1 hx fun w1 hw1 => idx (by omega) (by omega) (C.oF fun z2 hz2 => idx (by omega) (by omega) (S.oF1 fun z3 hz3 => fM hz2 hz3 fun w2 hw2 => fA hw1 hw2 fun w3 hw3 => ?_)))
      exact (kept_c hx).go fun h1 y x1 hy => as_f (idx (by omega) (by omega) ((P.grow x1).stF hy fun h2 P2 => FStep.of (step2 hb) hw3 P2))
    · have hb : f.Kind = 3 := by simpa using hb
      refine idx (by omega) (by omega) (C.oF1 fun z1 hz1 => idx (by omega) (by omega) (S.oF fun z2 hz2 => fS hx hz2 fun w1 hw1 => fM hz1 hw1 fun w2 hw2 => idx (by omega) (by omega) (S.oF1 fun z3 hz3 => fA hw2 hz3 fun w3 hw3 => ?_)))
      refine (kept_c hx).go fun h1 y1 x1 hy1 => as_f ((kept_c hw3).go fun h2 y2 x2 hy2 => as_f ((P.grow (x1.trans x2)).stF2 foc_Filter_S hy1 hy2 fun h3 P3 => ?_))
      exact FStep.of (by rw [step3 hb, set01 hS]) hw3 P3
    · have hb : f.Kind = 4 := by simpa using hb
      refine idx (by omega) (by omega) (C.oF1 fun z1 hz1 => fM hz1 hx fun w1 hw1 => idx (by omega) (by omega) (C.oF fun z2 hz2 => idx (by omega) (by omega) (S.oF1 fun z3 hz3 => fM hz2 hz3 fun w2 hw2 => fS hw1 hw2 fun w3 hw3 => ?_)))
      refine idx (by omega) (by omega) (C.oF fun z4 hz4 => idx (by omega) (by omega) (S.oF fun z5 hz5 => fM hz4 hz5 fun w4 hw4 => fS hw3 hw4 fun w5 hw5 => idx (by omega) (by omega) (S.oF1 fun z6 hz6 => ?_)))
      refine (kept_c hw5).go fun h1 y1 x1 hy1 => as_f ((S.fst (Foc.arr _ 0 (by decide))).pin rfl x1 ((kept_c hz6).go fun h2 y2 x2 hy2 => as_f ((P.grow (x1.trans x2)).stF2 foc_Filter_S hy1 hy2 fun h3 P3 => ?_)))
      exact FStep.of (by rw [step4 hb, set01 hS]) hw5 P3
    · refine idx (by omega) (by omega) (S.oF1 fun z1 hz1 => fS hx hz1 fun w1 hw1 => idx (by omega) (by omega) (C.oF1 fun z2 hz2 => idx (by omega) (by omega) (S.oF fun z3 hz3 => fM hz2 hz3 fun w2 hw2 => fA hw1 hw2 fun w3 hw3 => ?_)))
      refine (kept_c hx).go fun h1 y1 x1 hy1 => as_f ((kept_c hw3).go fun h2 y2 x2 hy2 => as_f ((P.grow (x1.trans x2)).stF2 foc_Filter_S hy1 hy2 fun h3 P3 => ?_))
      exact FStep.of (by rw [step5 (by simpa using hb1) (by simpa using hb2) (by simpa using hb3) (by simpa using hb4), set01 hS]) hw3 P3
  refine p_impl_Filter_step.call (R.lda foc_Filter_C rfl fun cC rC => R.lda foc_Filter_S rfl fun cS rS => ?_)
  have l3 : cC.size = 3 := by have := (rArr 3 (rF .f32)).rlen rC; rw [Array.length_toList] at this; exact this
  have l2 : cS.size = 2 := by have := (rArr 2 (rF .f32)).rlen rS; rw [Array.length_toList] at this; exact this
  refine ⟨?_, ?_⟩
  · refine (Mem.start h).alc fun g1 h1 x1 M => RS.pin rfl x1 (RC.pin rfl x1 (M.alc fun g2 h2 x2 M => RS.pin rfl M.ext (RC.pin rfl M.ext ?_)))
    refine M.sta0 (.there .here) l3 ((rArr 3 (rF .f32)).rone rC) rfl (.there .here) fun h3 M => RS.pin rfl M.ext ?_
    refine M.sta0 .here l2 ((rArr 2 (rF .f32)).rone rS) rfl .here fun h4 M => ?_
    exact key (List.sublist_append_right _ _) (P.join M) (M.rdp (.there .here) ((rArr 3 (rF .f32)).ext M.ext rC)) (M.rdp .here ((rArr 2 (rF .f32)).ext M.ext rS))
  · refine (Mem.start h).alc fun g1 h1 x1 M => RS.pin rfl x1 (RC.pin rfl x1 (M.alc fun g2 h2 x2 M => RS.pin rfl M.ext (RC.pin rfl M.ext ?_)))
    refine M.sta0 .here l3 ((rArr 3 (rF .f32)).rone rC) rfl .here fun h3 M => RS.pin rfl M.ext ?_
    refine M.sta0 (.there .here) l2 ((rArr 2 (rF .f32)).rone rS) rfl (.there .here) fun h4 M => ?_
    exact key (List.sublist_append_right _ _) (P.join M) (M.rdp .here ((rArr 3 (rF .f32)).ext M.ext rC)) (M.rdp (.there .here) ((rArr 2 (rF .f32)).ext M.ext rS))
end
end Go.Sx
/- How Comb, Tap, Room lie in cells; their parts; given ones opened. -/
set_option linter.unusedVariables false
set_option linter.unusedSimpArgs false
namespace Go.Sx
open Go.Proofs
def rComb : Rep GComb := (Rep.seq rRing ((rF .f32))).via fun a => (a.Ring, a.Gain)
theorem foc_Comb_Ring : Foc rComb rRing 0 (fun a => a.Ring) (fun a b => { a with Ring := b }) := (Foc.via (f := fun a : GComb => (a.Ring, a.Gain)) (get' := fun a => a.Ring) (put' := fun a b => { a with Ring := b }) (Foc.fst (Foc.here rRing)) (fun _ => rfl) (fun _ _ => rfl)).at rfl
theorem foc_Comb_Gain : Foc rComb (rF .f32) 2 (fun a => a.Gain) (fun a b => { a with Gain := b }) := (Foc.via (f := fun a : GComb => (a.Ring, a.Gain)) (get' := fun a => a.Gain) (put' := fun a b => { a with Gain := b }) (Foc.snd (Foc.here (rF .f32))) (fun _ => rfl) (fun _ _ => rfl)).at rfl
def z_Comb : GComb := ⟨z_Ring, 0⟩
instance lf_Comb_0 : FocC rComb 0 (rSl T_float32 (rF .f32)) (fun a => a.Ring.Samples) (fun a b => { a with Ring := { a.Ring with Samples := b } }) := ⟨Foc.at (foc_Comb_Ring.trans lf_Ring_0.f) rfl⟩
instance lf_Comb_1 : FocC rComb 1 (rI .i64) (fun a => a.Ring.At) (fun a b => { a with Ring := { a.Ring with At := b } }) := ⟨Foc.at (foc_Comb_Ring.trans lf_Ring_1.f) rfl⟩
instance lf_Comb_2 : FocC rComb 2 (rF .f32) (fun a => a.Gain) (fun a b => { a with Gain := b }) := ⟨Foc.at foc_Comb_Gain rfl⟩
def z_Room : GRoom := ⟨z_Ring, [], [z_Comb, z_Comb], [z_Ring, z_Ring, z_Ring, z_Ring], [z_Filter, z_Filter, z_Filter, z_Filter], [0, 0, 0, 0], 0, 0⟩
end Go.Sx
/- What functions of this seat's program compute, told in words (a predicate over heaps for each), and the proofs that the words are no more than the code's own weakest precondition. -/
namespace Go.Sx
open Go.Proofs
set_option linter.unusedVariables false
set_option maxRecDepth 100000

def spec_l05Muted.S (r_0 : Addr) (Post : Value → Heap → Prop) (h : Heap) : Prop :=
    ALC ⟨Z_impl_Ring⟩ T_impl_Ring (fun g1 h2 =>
    oL (cell h2 r_0) fun l3b l3l l3c =>
    oI .i64 (cell h2 (Addr.add r_0 1)) fun n6 =>
    MKS ti_float32 T_float32 (l3l : Int) (l3l : Int) (fun g7 h8 =>
    PIN h2 (Addr.add r_0 1) 1 h8 <|
    STA 2 h8 ⟨g1, 0, none⟩ (⟨[.slice (some ⟨g7, 0, none⟩) l3l l3l, .int .i64 n6]⟩ : Array Value) fun h9 =>
    LDA 2 h9 ⟨g1, 0, none⟩ fun a10 =>
    Post (.agg a10) h9) h2) h
noncomputable def spec_l05Muted.code : Code := (Tryz.f51.body).getD .skip
theorem spec_l05Muted.call {r_0 : Addr} {Post : Value → Heap → Prop} {h : Heap} (H : spec_l05Muted.S r_0 Post h) : CALL prg f_spec_l05Muted #[.pointer (some r_0)] Post h :=
  fn_call tau_ok mixed (c := spec_l05Muted.code) (Λ := lookL []) Tryz.func51 (by kernel_rfl) (by kernel_rfl)
    (Rq.free (by kernel_rfl))
    (Eq.mp (by kernel_rfl) H)

def p_impl_Ring_mute.S (r_0 : Addr) (Post : Value → Heap → Prop) (h : Heap) : Prop :=
    oL (cell h r_0) fun l1b l1l l1c =>
    MKS ti_float32 T_float32 (l1l : Int) (l1l : Int) (fun g4 h5 =>
    ST1 h5 r_0 (.slice (some ⟨g4, 0, none⟩) l1l l1l) fun h6 =>
    Post (.tuple ⟨[]⟩) h6) h
noncomputable def p_impl_Ring_mute.code : Code := (Tryz.f50.body).getD .skip
theorem p_impl_Ring_mute.call {r_0 : Addr} {Post : Value → Heap → Prop} {h : Heap} (H : p_impl_Ring_mute.S r_0 Post h) : CALL prg f_p_impl_Ring_mute #[.pointer (some r_0)] Post h :=
  fn_call tau_ok mixed (c := p_impl_Ring_mute.code) (Λ := lookL []) Tryz.func50 (by kernel_rfl) (by kernel_rfl)
    (Rq.free (by kernel_rfl))
    (Eq.mp (by kernel_rfl) H)

def impl_Ring_quiet.B3 (Post : Value → Heap → Prop) (N3 : (Addr × Int × Int) → Heap → Prop) : Addr × Int × Int → Heap → Prop
  | (r_1, n_3, k_4), h =>
    BIF (decide (k_4 ≤ n_3)) (
    LDA 2 h r_1 fun a7 =>
    CALL prg f_impl_Ring_back #[.agg a7, .int .i64 k_4] (fun q8 h9 =>
    asF .f32 q8 fun r10 =>
    BIF (FloatKind.f32.format.order r10 0 != some .eq) (
    Post (.int .i64 ((IntKind.i64.wrap (k_4 - (1 : Int))))) h9) (
    N3 (r_1, n_3, ((IntKind.i64.wrap (k_4 + (1 : Int))))) h9)) h) (
    Post (.int .i64 n_3) h)
def impl_Ring_quiet.g3 (fr : Frame) : Addr × Int × Int := ((gP (lget fr 1)), (gI (lget fr 3)), (gI (lget fr 4)))
def impl_Ring_quiet.l3 (Post : Value → Heap → Prop) : Frame → Heap → Prop := fun fr h => GRD (shape (kds 20 [(1, .p), (3, .i .i64), (4, .i .i64)]) fr) (LOOP (impl_Ring_quiet.B3 Post) (impl_Ring_quiet.g3 fr) h)
def impl_Ring_quiet.S (r_0 : Array Value) (Post : Value → Heap → Prop) (h : Heap) : Prop :=
    ALC r_0 T_impl_Ring (fun g1 h2 =>
    oL (cell h2 ⟨g1, 0, none⟩) fun l3b l3l l3c =>
    CALL prg f_impl_length_float32 #[.slice l3b l3l l3c] (fun q4 h5 =>
    asI .i64 q4 fun n6 =>
    LOOP (impl_Ring_quiet.B3 Post) (⟨g1, 0, none⟩, n6, (1 : Int)) h5) h2) h
noncomputable def impl_Ring_quiet.code : Code := (Tryz.f98.body).getD .skip
theorem impl_Ring_quiet.call {r_0 : Array Value} {Post : Value → Heap → Prop} {h : Heap} (H : impl_Ring_quiet.S r_0 Post h) : CALL prg f_impl_Ring_quiet #[.agg r_0] Post h :=
  fn_call tau_ok mixed (c := impl_Ring_quiet.code) (Λ := lookL [(1000003, impl_Ring_quiet.l3 Post)]) Tryz.func98 (by kernel_rfl) (by kernel_rfl)
    (Rq.seq (by kernel_rfl) (Rq.free (by kernel_rfl)) (Rq.seq (by kernel_rfl) (Rq.free (by kernel_rfl)) (Rq.seq (by kernel_rfl) (Rq.seq (by kernel_rfl) (Rq.free (by kernel_rfl)) (Rq.block (Rq.loop (impl_Ring_quiet.l3 Post) (by kernel_rfl) (segL (g := impl_Ring_quiet.g3) tau_ok mixed (Λ := fun N3 => lookL []) (fun _ _ _ => by kernel_rfl) (fun N3 => (Rq.free (by kernel_rfl))))))) (Rq.free (by kernel_rfl)))))
    (Eq.mp (by kernel_rfl) H)

def impl_Ring_isQuiet.S (r_0 : Array Value) (Post : Value → Heap → Prop) (h : Heap) : Prop :=
    ALC r_0 T_impl_Ring (fun g1 h2 =>
    LDA 2 h2 ⟨g1, 0, none⟩ fun a3 =>
    oL (cell h2 ⟨g1, 0, none⟩) fun l4b l4l l4c =>
    CALL prg f_impl_Ring_quiet #[.agg a3] (fun q5 h6 =>
    asI .i64 q5 fun n7 =>
    PIN h2 ⟨g1, 0, none⟩ 1 h6 <|
    CALL prg f_impl_length_float32 #[.slice l4b l4l l4c] (fun q8 h9 =>
    asI .i64 q8 fun n10 =>
    Post (.bool (n7 == n10)) h9) h6) h2) h
noncomputable def impl_Ring_isQuiet.code : Code := (Tryz.f52.body).getD .skip
theorem impl_Ring_isQuiet.call {r_0 : Array Value} {Post : Value → Heap → Prop} {h : Heap} (H : impl_Ring_isQuiet.S r_0 Post h) : CALL prg f_impl_Ring_isQuiet #[.agg r_0] Post h :=
  fn_call tau_ok mixed (c := impl_Ring_isQuiet.code) (Λ := lookL []) Tryz.func52 (by kernel_rfl) (by kernel_rfl)
    (Rq.free (by kernel_rfl))
    (Eq.mp (by kernel_rfl) H)

end Go.Sx
/- Rooms: valid ones, as both programs tell them. -/
set_option linter.unusedVariables false
set_option linter.unusedSimpArgs false
namespace Go.Sx
open Go.Proofs
set_option maxRecDepth 100000

section
variable {h : Heap} {q : Addr}
/-- What a room is, told as the programs ask. -/
theorem room_ok (x : GRoom) : x.ok = (x.Early.okf && decide (x.Taps.length ≤ 6) && x.Combs.all GComb.ok && x.Loops.all GRing.okf && (x.Damps.all fun f => f.ok && f.Kind == 1) && (x.Taps.all fun t => t.ok x.Early.len) && allFin x.Gains && fin x.Dry && fin x.Wet) := rfl
end
end Go.Sx
/- Rooms copied. -/
set_option linter.unusedVariables false
set_option linter.unusedSimpArgs false
namespace Go.Sx
open Go.Proofs
set_option maxRecDepth 100000

/-- All rings of a room are of a size that can be copied. -/
def GRoom.small (x : GRoom) : Prop := x.Early.Samples.length ≤ 1048576 ∧ x.Taps.length ≤ 1048576 ∧ (∀ c ∈ x.Combs, c.Ring.Samples.length ≤ 1048576) ∧ ∀ r ∈ x.Loops, r.Samples.length ≤ 1048576
end Go.Sx
