/- Filters moved on; blocks made by a function of their places. -/
import Derived.Test.YtkgmfiloghhibaaGreatDoorLk1
import Derived.Test.YtkgmfiloghhibaaGreatDoorLp4
set_option linter.unusedVariables false
set_option linter.unusedSimpArgs false
namespace Go.Sx
open Go.Proofs
set_option maxRecDepth 100000

theorem Pt.stF2 {α : Type} {r : Rep α} {h0 h : Heap} {q : Addr} {F : Fr} {L : List Blk} {a : α} {off : Nat} {get : α → List Nat} {put : α → List Nat → α} {x y m n : Nat} {K : Heap → Prop} (P : Pt r h0 h q F L a) (Fc : Foc r (rArr 2 (rF .f32)) off get put) (hx : FW .f32 x m) (hy : FW .f32 y n)
    (H : ∀ h', Pt r h0 h' q F L (put a [m, n]) → K h') : STA 2 h (q.add off) ⟨[.float .f32 x, .float .f32 y]⟩ K :=
  Pt.sts (B' := []) (b := [m, n]) P Fc rfl ⟨rfl, [], [], [.float .f32 x], [.float .f32 y], rfl, rfl, ⟨rfl, x, rfl, hx⟩, [], [], [.float .f32 y], [], rfl, rfl, ⟨rfl, y, rfl, hy⟩, rfl, rfl⟩ H
theorem set01 {l : List Nat} (h : l.length = 2) (a b : Nat) : (l.set 0 a).set 1 b = [a, b] := by
  match l, h with
  | [x, y], _ => rfl
/-- What a step of a filter leaves. -/
def FStep (h0 h' : Heap) (q : Addr) (F : Fr) (L : List Blk) (f : GFilter) (a : Nat) (u : Value) : Prop := (∃ y, u = .float .f32 y ∧ FW .f32 y (f.step a).2) ∧ Pt rFilter h0 h' q F L (f.step a).1
section
variable {h0 h : Heap} {q : Addr} {F : Fr} {L : List Blk} {f : GFilter} {x a : Nat}
theorem step1 (hk : f.Kind = 1) : f.step a = ({ f with S := f.S.set 0 (kept (fadd .f32 (fmul .f32 f.C[0]! a) (fmul .f32 f.C[1]! f.S[0]!))) }, fadd .f32 (fmul .f32 f.C[0]! a) (fmul .f32 f.C[1]! f.S[0]!)) := by unfold GFilter.step; rw [if_pos hk]
theorem step2 (hk : f.Kind = 2) : f.step a = ({ f with S := f.S.set 0 (kept a) }, fadd .f32 (fmul .f32 f.C[0]! a) (fmul .f32 f.C[1]! f.S[0]!)) := by unfold GFilter.step; rw [if_neg (by omega), if_pos hk]
theorem step3 (hk : f.Kind = 3) : f.step a = ({ f with S := (f.S.set 0 (kept a)).set 1 (kept (fadd .f32 (fmul .f32 f.C[0]! (fsub .f32 a f.S[1]!)) f.S[0]!)) }, fadd .f32 (fmul .f32 f.C[0]! (fsub .f32 a f.S[1]!)) f.S[0]!) := by
  unfold GFilter.step; rw [if_neg (by omega), if_neg (by omega), if_pos hk]
theorem step4 (hk : f.Kind = 4) : f.step a = ({ f with S := (f.S.set 0 (kept (fsub .f32 (fsub .f32 (fmul .f32 f.C[0]! a) (fmul .f32 f.C[1]! f.S[0]!)) (fmul .f32 f.C[2]! f.S[1]!)))).set 1 (kept f.S[0]!) }, fsub .f32 (fsub .f32 (fmul .f32 f.C[0]! a) (fmul .f32 f.C[1]! f.S[0]!)) (fmul .f32 f.C[2]! f.S[1]!)) := by
  unfold GFilter.step; rw [if_neg (by omega), if_neg (by omega), if_neg (by omega), if_pos hk]
theorem step5 (h1 : f.Kind ≠ 1) (h2 : f.Kind ≠ 2) (h3 : f.Kind ≠ 3) (h4 : f.Kind ≠ 4) : f.step a = ({ f with S := (f.S.set 0 (kept a)).set 1 (kept (fadd .f32 (fsub .f32 a f.S[0]!) (fmul .f32 f.C[0]! f.S[1]!))) }, fadd .f32 (fsub .f32 a f.S[0]!) (fmul .f32 f.C[0]! f.S[1]!)) := by
  unfold GFilter.step; rw [if_neg h1, if_neg h2, if_neg h3, if_neg h4]
theorem FStep.of {f' : GFilter} {b y : Nat} (e : f.step a = (f', b)) (hy : FW .f32 y b) (P : Pt rFilter h0 h q F L f') : FStep h0 h q F L f a (.float .f32 y) := by
  unfold FStep
  rw [e]
  exact ⟨⟨y, rfl, hy⟩, P⟩
theorem step4r (hk : f.Kind = 4) : f.step a = ({ f with S := (f.S.set 1 (kept f.S[0]!)).set 0 (kept (fsub .f32 (fsub .f32 (fmul .f32 f.C[0]! a) (fmul .f32 f.C[1]! f.S[0]!)) (fmul .f32 f.C[2]! f.S[1]!))) }, fsub .f32 (fsub .f32 (fmul .f32 f.C[0]! a) (fmul .f32 f.C[1]! f.S[0]!)) (fmul .f32 f.C[2]! f.S[1]!)) := by
  rw [step4 hk, List.set_comm _ _ (by decide)]
set_option maxHeartbeats 2000000 in
theorem l02Step_c (P : Pt rFilter h0 h q F L f) (hx : FW .f32 x a) : CALL prg f_spec_l02Step #[.pointer (some q), .float .f32 x] (fun u h' => FStep h0 h' q F L f a u) h := by
  have R := P.rd
  refine spec_l02Step.call (idx (by omega) (by omega) (R.oF fun y1 hy1 => idx (by omega) (by omega) (R.oF fun y2 hy2 => R.oI1 (br (fun hb => ?_) fun hb1 => br (fun hb => ?_) fun hb2 => br (fun hb => ?_) fun hb3 => br (fun hb => ?_) fun hb4 => ?_))))
  · have hb : f.Kind = 1 := by simpa using hb
    refine idx (by omega) (by omega) (R.oF fun z1 hz1 => idx (by omega) (by omega) (R.oF fun z2 hz2 => ?_))
    (repeat' (first | refine pin_same ?_ | refine fM (by assumption) (by assumption) fun _ _ => ?_ | refine And.intro ?_ ?_ | refine fA (by assumption) (by assumption) fun _ _ => ?_ | refine fS (by assumption) (by assumption) fun _ _ => ?_))
    all_goals (
      refine Fl.go (l02Kept_c (by assumption)) fun h1 y x1 hy => ?_
      exact as_f (idx (by omega) (by omega) ((P.grow x1).stF hy fun h2 P2 => FStep.of (step1 hb) (by assumption) P2)))
  · have hb : f.Kind = 2 := by simpa using hb
    refine idx (by omega) (by omega) (R.oF fun z1 hz1 => idx (by omega) (by omega) (R.oF fun z2 hz2 => ?_))
    (repeat' (first | refine pin_same ?_ | refine fM (by assumption) (by assumption) fun _ _ => ?_ | refine And.intro ?_ ?_ | refine fA (by assumption) (by assumption) fun _ _ => ?_ | refine fS (by assumption) (by assumption) fun _ _ => ?_))
    all_goals (
      refine (l02Kept_c hx).go fun h1 y x1 hy => ?_
      exact as_f (idx (by omega) (by omega) ((P.grow x1).stF hy fun h2 P2 => FStep.of (step2 hb) (by assumption) P2)))
  · have hb : f.Kind = 3 := by simpa using hb
    refine idx (by omega) (by omega) (R.oF fun z1 hz1 => ?_)
    (repeat' (first | refine pin_same ?_ | refine fM (by assumption) (by assumption) fun _ _ => ?_ | refine And.intro ?_ ?_ | refine fA (by assumption) (by assumption) fun _ _ => ?_ | refine fS (by assumption) (by assumption) fun _ _ => ?_))
    all_goals (
      refine (l02Kept_c hx).go fun h1 y x1 hy => as_f (idx (by omega) (by omega) ((P.grow x1).stF hy fun h2 P2 => ?_))
      refine Fl.go (l02Kept_c (by assumption)) fun h3 y x3 hy => ?_
      exact as_f (idx (by omega) (by omega) ((P2.grow x3).stF hy fun h4 P4 => FStep.of (step3 hb) (by assumption) P4)))
  · have hb : f.Kind = 4 := by simpa using hb
    refine idx (by omega) (by omega) (R.oF fun z1 hz1 => idx (by omega) (by omega) (R.oF fun z2 hz2 => idx (by omega) (by omega) (R.oF fun z3 hz3 => ?_)))
    (repeat' (first | refine pin_same ?_ | refine fM (by assumption) (by assumption) fun _ _ => ?_ | refine And.intro ?_ ?_ | refine fA (by assumption) (by assumption) fun _ _ => ?_ | refine fS (by assumption) (by assumption) fun _ _ => ?_))
    all_goals (
      refine (l02Kept_c hy1).go fun h1 y x1 hy => ?_
      refine as_f (idx (by omega) (by omega) ((P.grow x1).stF hy fun h2 P2 => ?_))
      refine Fl.go (l02Kept_c (by assumption)) fun h3 y x3 hy => ?_
      exact as_f (idx (by omega) (by omega) ((P2.grow x3).stF hy fun h4 P4 => FStep.of (step4r hb) (by assumption) P4)))
  · refine fS hx hy1 fun w1 hw1 => idx (by omega) (by omega) (R.oF fun z1 hz1 => ?_)
    (repeat' (first | refine pin_same ?_ | refine fM (by assumption) (by assumption) fun _ _ => ?_ | refine And.intro ?_ ?_ | refine fA (by assumption) (by assumption) fun _ _ => ?_ | refine fS (by assumption) (by assumption) fun _ _ => ?_))
    all_goals (
      refine (l02Kept_c hx).go fun h1 y x1 hy => as_f (idx (by omega) (by omega) ((P.grow x1).stF hy fun h2 P2 => ?_))
      refine Fl.go (l02Kept_c (by assumption)) fun h3 y x3 hy => ?_
      exact as_f (idx (by omega) (by omega) ((P2.grow x3).stF hy fun h4 P4 => FStep.of (step5 (by simpa using hb1) (by simpa using hb2) (by simpa using hb3) (by simpa using hb4)) (by assumption) P4)))
theorem Filter_step_c (P : Pt rFilter h0 h q F L f) (hx : FW .f32 x a) : CALL prg f_p_impl_Filter_step #[.pointer (some q), .float .f32 x] (fun u h' => FStep h0 h' q F L f a u) h := by
  have R := P.rd
  have RC := R.foc foc_Filter_C
  have RS := R.foc foc_Filter_S
  have hS : f.S.length = 2 := RS.len
  have key : ∀ {hh : Heap} {L' : List Blk} {c s : Addr}, L.Sublist L' → Pt rFilter h0 hh q F L' f → RdP (rArr 3 (rF .f32)) hh c f.C → RdP (rArr 2 (rF .f32)) hh s f.S → p_impl_Filter_step.J2 (fun u h' => FStep h0 h' q F L f a u) q x c s hh := by
    intro hh L' c s hs P C S
    replace P := P.sub hs
    have R := P.rd
    refine R.oI1 (br (fun hb => ?_) fun hb1 => br (fun hb => ?_) fun hb2 => br (fun hb => ?_) fun hb3 => br (fun hb => ?_) fun hb4 => ?_)
    · have hb : f.Kind = 1 := by simpa using hb
      refine idx (by omega) (by omega) (C.oF1 fun z1 hz1 => fM hz1 hx fun w1 hw1 => idx (by omega) (by omega) (C.oF fun z2 hz2 => idx (by omega) (by omega) (S.oF1 fun z3 hz3 => fM hz2 hz3 fun w2 hw2 => fA hw1 hw2 fun w3 hw3 => ?_)))
      exact (kept_c hw3).go fun h1 y x1 hy => as_f (idx (by omega) (by omega) ((P.grow x1).stF hy fun h2 P2 => FStep.of (step1 hb) hw3 P2))
    · have hb : f.Kind = 2 := by simpa using hb
      refine idx (by omega) (by omega) (C.oF1 fun z1 hz1 => fM hz1 hx fun w1 hw1 => idx (by omega) (by omega) (C.oF fun z2 hz2 => idx (by omega) (by omega) (S.oF1 fun z3 hz3 => fM hz2 hz3 fun w2 hw2 => fA hw1 hw2 fun w3 hw3 => ?_)))
      exact (kept_c hx).go fun h1 y x1 hy => as_f (idx (by omega) (by omega) ((P.grow x1).stF hy fun h2 P2 => FStep.of (step2 hb) hw3 P2))
    · have hb : f.Kind = 3 := by simpa using hb
      refine idx (by omega) (by omega) (C.oF1 fun z1 hz1 => idx (by omega) (by omega) (S.oF fun z2 hz2 => fS hx hz2 fun w1 hw1 => fM hz1 hw1 fun w2 hw2 => idx (by omega) (by omega) (S.oF1 fun z3 hz3 => fA hw2 hz3 fun w3 hw3 => ?_)))
      refine (kept_c hx).go fun h1 y1 x1 hy1 => as_f ((kept_c hw3).go fun h2 y2 x2 hy2 => as_f ((P.grow (x1.trans x2)).stF2 foc_Filter_S hy1 hy2 fun h3 P3 => ?_))
      exact FStep.of (by rw [step3 hb, set01 hS]) hw3 P3
    · have hb : f.Kind = 4 := by simpa using hb
      refine idx (by omega) (by omega) (C.oF1 fun z1 hz1 => fM hz1 hx fun w1 hw1 => idx (by omega) (by omega) (C.oF fun z2 hz2 => idx (by omega) (by omega) (S.oF1 fun z3 hz3 => fM hz2 hz3 fun w2 hw2 => fS hw1 hw2 fun w3 hw3 => ?_)))
      refine idx (by omega) (by omega) (C.oF fun z4 hz4 => idx (by omega) (by omega) (S.oF fun z5 hz5 => fM hz4 hz5 fun w4 hw4 => fS hw3 hw4 fun w5 hw5 => idx (by omega) (by omega) (S.oF1 fun z6 hz6 => ?_)))
      refine (kept_c hw5).go fun h1 y1 x1 hy1 => as_f ((S.fst (Foc.arr _ 0 (by decide))).pin rfl x1 ((kept_c hz6).go fun h2 y2 x2 hy2 => as_f ((P.grow (x1.trans x2)).stF2 foc_Filter_S hy1 hy2 fun h3 P3 => ?_)))
      exact FStep.of (by rw [step4 hb, set01 hS]) hw5 P3
    · refine idx (by omega) (by omega) (S.oF1 fun z1 hz1 => fS hx hz1 fun w1 hw1 => idx (by omega) (by omega) (C.oF1 fun z2 hz2 => idx (by omega) (by omega) (S.oF fun z3 hz3 => fM hz2 hz3 fun w2 hw2 => fA hw1 hw2 fun w3 hw3 => ?_)))
      refine (kept_c hx).go fun h1 y1 x1 hy1 => as_f ((kept_c hw3).go fun h2 y2 x2 hy2 => as_f ((P.grow (x1.trans x2)).stF2 foc_Filter_S hy1 hy2 fun h3 P3 => ?_))
      exact FStep.of (by rw [step5 (by simpa using hb1) (by simpa using hb2) (by simpa using hb3) (by simpa using hb4), set01 hS]) hw3 P3
  refine p_impl_Filter_step.call (R.lda foc_Filter_C rfl fun cC rC => R.lda foc_Filter_S rfl fun cS rS => ?_)
  have l3 : cC.size = 3 := by have := (rArr 3 (rF .f32)).rlen rC; rw [Array.length_toList] at this; exact this
  have l2 : cS.size = 2 := by have := (rArr 2 (rF .f32)).rlen rS; rw [Array.length_toList] at this; exact this
  refine ⟨?_, ?_⟩
  · refine (Mem.start h).alc fun g1 h1 x1 M => RS.pin rfl x1 (RC.pin rfl x1 (M.alc fun g2 h2 x2 M => RS.pin rfl M.ext (RC.pin rfl M.ext ?_)))
    refine M.sta0 (.there .here) l3 ((rArr 3 (rF .f32)).rone rC) rfl (.there .here) fun h3 M => RS.pin rfl M.ext ?_
    refine M.sta0 .here l2 ((rArr 2 (rF .f32)).rone rS) rfl .here fun h4 M => ?_
    exact key (List.sublist_append_right _ _) (P.join M) (M.rdp (.there .here) ((rArr 3 (rF .f32)).ext M.ext rC)) (M.rdp .here ((rArr 2 (rF .f32)).ext M.ext rS))
  · refine (Mem.start h).alc fun g1 h1 x1 M => RS.pin rfl x1 (RC.pin rfl x1 (M.alc fun g2 h2 x2 M => RS.pin rfl M.ext (RC.pin rfl M.ext ?_)))
    refine M.sta0 .here l3 ((rArr 3 (rF .f32)).rone rC) rfl .here fun h3 M => RS.pin rfl M.ext ?_
    refine M.sta0 (.there .here) l2 ((rArr 2 (rF .f32)).rone rS) rfl (.there .here) fun h4 M => ?_
    exact key (List.sublist_append_right _ _) (P.join M) (M.rdp .here ((rArr 3 (rF .f32)).ext M.ext rC)) (M.rdp (.there .here) ((rArr 2 (rF .f32)).ext M.ext rS))
end
end Go.Sx
/- What several structs' contracts have in common: slices of floats made, pairs answered, lists changed place by place. -/
set_option linter.unusedVariables false
set_option linter.unusedSimpArgs false
namespace Go.Sx
open Go.Proofs
set_option maxRecDepth 100000

section
variable {h : Heap} {q : Addr}
theorem slr_none {α : Type} {r : Rep α} {l c : Nat} {xs : List α} (hz : 0 < r.sz) (S : SlR r h none l c xs) : l = 0 ∧ xs = [] := by
  obtain ⟨h1, h2, h3, ws, C, R⟩ := S
  have hw : ws = [] := by
    cases ws with
    | nil => rfl
    | cons w ws => obtain ⟨a, e, _⟩ := C 0 (by simp); cases e
  subst hw
  have hx : xs.length * r.sz = 0 := by rw [← R.len]; rfl
  rcases Nat.mul_eq_zero.1 hx with h | h
  · exact ⟨by omega, List.eq_nil_of_length_eq_zero h⟩
  · omega
theorem drop_cons {α : Type} [Inhabited α] {l : List α} {n : Nat} (h : n < l.length) : l.drop n = l[n]! :: l.drop (n + 1) := by
  rw [List.drop_eq_getElem_cons h, getElem!_pos l n h]
theorem take_snoc {α : Type} [Inhabited α] {l : List α} {n : Nat} (h : n < l.length) : l.take (n + 1) = l.take n ++ [l[n]!] := by
  rw [List.take_succ_eq_append_getElem h, getElem!_pos l n h]
theorem zeros_fl (n : Nat) : ows (rF .f32) [] (List.replicate n (.float .f32 0)) (List.replicate n 0) := by
  induction n with
  | zero => exact ⟨rfl, rfl⟩
  | succ n ih => exact ⟨[], [], [.float .f32 0], List.replicate n (.float .f32 0), rfl, rfl, ⟨rfl, 0, rfl, fw0⟩, ih⟩
/-- A slice of zeros, made. -/
theorem make_floats {h0 : Heap} {L : List Blk} {n : Nat} {F : Nat → Heap → Prop} (M : Mem h0 h L) (hn : n ≤ 1048576)
    (H : ∀ g h', Ext h h' → Mem h0 h' ((g, T_float32, ⟨List.replicate n (.float .f32 0)⟩) :: L) → SlO T_float32 (rF .f32) [(g, T_float32, ⟨List.replicate n (.float .f32 0)⟩)] (some ⟨g, 0, none⟩) n n (List.replicate n 0) → F g h') : MKS ti_float32 T_float32 (n : Int) (n : Int) F h := by
  refine mks1 M rfl rfl (by show 4 * n ≤ 2 ^ 48; omega) (by omega) fun g h' x' M' => H g h' x' M' ?_
  have : n ≤ maxLen := by
    have : (1048576 : Nat) ≤ maxLen := by decide
    omega
  exact ⟨by simp, List.replicate n (.float .f32 0), [_], [], rfl, ⟨by rw [List.length_replicate, show (rF .f32).sz = 1 from rfl, Nat.mul_one], .inr ⟨g, _, rfl, rfl, Nat.le_refl _, this, by rw [List.size_toArray, List.length_replicate, show (rF .f32).sz = 1 from rfl, Nat.mul_one], by
    rw [List.take_of_length_le]
    show (List.replicate n (Value.float .f32 0)).length ≤ n * 1
    simp⟩⟩, zeros_fl n⟩
theorem Pt.stL {α β : Type} {r : Rep α} {h0 : Heap} {F : Fr} {L B : List Blk} {a : α} {e : Nat} {s : Rep β} {get : α → List β} {put : α → List β → α} {b : Option Addr} {l c : Nat} {xs : List β} {K : Heap → Prop} (P : Pt r h0 h q F (B ++ L) a) [Fc : FocC r 0 (rSl e s) get put] (O : SlO e s B b l c xs)
    (H : ∀ h', Pt r h0 h' q F L (put a xs) → K h') : ST1 h q (.slice b l c) K := by
  have := Pt.st P Fc.f rfl ⟨b, l, c, rfl, O⟩ H
  rwa [add0] at this
end
/-- A pair of a value and a code, told by a call. -/
def PairR {α : Type} (r : Rep α) (h h' : Heap) (u : Value) (a : α) (code : Int) : Prop := ∃ cs B, u = .tuple ⟨[.agg cs, .int .i64 code]⟩ ∧ r.ow B cs.toList a ∧ Mem h h' B
section
variable {α β : Type} {r : Rep α} {h0 h : Heap} {q : Addr} {F : Fr} {L : List Blk} {a : α} {off : Nat}
theorem Pt.sts0 {p : Rep β} {get : α → β} {put : α → β → α} {b : β} {n : Nat} {vs : Array Value} {B' : List Blk} {K : Heap → Prop} (P : Pt r h0 h q F (B' ++ L) a) (Fc : Foc r p 0 get put) (hp : p.sz = n) (O : p.ow B' vs.toList b)
    (H : ∀ h', Pt r h0 h' q F L (put a b) → K h') : STA n h q vs K := by
  have := P.sts Fc hp O H
  rwa [add0] at this
end
/-- Pointers. -/
def rP : Rep Addr := rOne (fun a => .pointer (some a)) fun _ => rfl
theorem RdP.oP1 {h : Heap} {q a : Addr} {K : Addr → Prop} (R : RdP rP h q a) (H : K a) : Sx.oP (Sx.cell h q) K := by
  obtain ⟨vs, h1, e⟩ := R
  have := h1 0 (.pointer (some a)) (by rw [show vs = [.pointer (some a)] from e]; rfl)
  rw [add0] at this
  rw [this]; exact H
theorem is2 {α : Type} {l : List α} (h : l.length = 2) : ∃ a b, l = [a, b] := by
  match l, h with
  | [a, b], _ => exact ⟨a, b, rfl⟩
theorem is4 {α : Type} {l : List α} (h : l.length = 4) : ∃ a b c d, l = [a, b, c, d] := by
  match l, h with
  | [a, b, c, d], _ => exact ⟨a, b, c, d, rfl⟩
/-- A list of which the first n elements have been changed. -/
def mapN {α : Type} (f : α → α) (l : List α) (n : Nat) : List α := (l.take n).map f ++ l.drop n
section
variable {α : Type} {f : α → α} {l : List α} {n : Nat}
theorem mapN_zero : mapN f l 0 = l := by simp [mapN]
theorem mapN_all (h : n = l.length) : mapN f l n = l.map f := by subst h; simp [mapN]
theorem mapN_len : (mapN f l n).length = l.length := by simp only [mapN, List.length_append, List.length_map, List.length_take, List.length_drop]; omega
theorem mapN_get [Inhabited α] (hn : n < l.length) : (mapN f l n)[n]! = l[n]! := by
  rw [getElem!_pos _ n (by rw [mapN_len]; exact hn), getElem!_pos l n hn]
  unfold mapN
  have hl : ((l.take n).map f).length = n := by rw [List.length_map, List.length_take]; omega
  rw [List.getElem_append_right (by omega)]
  simp only [hl, Nat.sub_self, List.getElem_drop, Nat.add_zero]
theorem mapN_step [Inhabited α] (hn : n < l.length) : (mapN f l n).set n (f l[n]!) = mapN f l (n + 1) := by
  unfold mapN
  have hl : ((l.take n).map f).length = n := by rw [List.length_map, List.length_take]; omega
  rw [List.set_append_right _ _ (by omega), hl, Nat.sub_self, drop_cons hn, List.set_cons_zero, take_snoc hn, List.map_append]
  simp
end
/-- A list of which the first n elements have been made anew. -/
def mapI {α : Type} [Inhabited α] (f : Nat → α) (l : List α) (n : Nat) : List α := (List.range l.length).map fun i => if i < n then f i else l[i]!
section
variable {α : Type} [Inhabited α] {f : Nat → α} {l : List α} {n i : Nat}
theorem mapI_len : (mapI f l n).length = l.length := by simp [mapI]
theorem mapI_get? (hi : i < l.length) : (mapI f l n)[i]? = some (if i < n then f i else l[i]!) := by
  unfold mapI
  rw [List.getElem?_map, List.getElem?_range hi]; rfl
theorem mapI_get (hi : i < l.length) : (mapI f l n)[i]! = if i < n then f i else l[i]! := by
  rw [List.getElem!_eq_getElem?_getD, mapI_get? hi]; rfl
theorem mapI_ge (hi : i < l.length) (h : n ≤ i) : (mapI f l n)[i]! = l[i]! := by rw [mapI_get hi, if_neg (by omega)]
theorem mapI_lt (hi : i < l.length) (h : i < n) : (mapI f l n)[i]! = f i := by rw [mapI_get hi, if_pos h]
theorem mapI_zero : mapI f l 0 = l := by
  apply List.ext_getElem?
  intro i
  by_cases hi : i < l.length
  · rw [mapI_get? hi, if_neg (by omega), getElem!_pos l i hi, List.getElem?_eq_getElem hi]
  · rw [List.getElem?_eq_none (by rw [mapI_len]; omega), List.getElem?_eq_none (by omega)]
theorem mapI_all (h : l.length ≤ n) : mapI f l n = (List.range l.length).map f := by
  unfold mapI
  refine List.map_congr_left fun i hi => ?_
  rw [if_pos (by have := List.mem_range.1 hi; omega)]
theorem mapI_set (hn : n < l.length) : (mapI f l n).set n (f n) = mapI f l (n + 1) := by
  apply List.ext_getElem?
  intro i
  by_cases hi : i < l.length
  · rw [mapI_get? hi, List.getElem?_set]
    by_cases e : n = i
    · subst e
      rw [if_pos rfl, if_pos (by rw [mapI_len]; exact hn), if_pos (by omega)]
    · rw [if_neg e, mapI_get? hi]
      congr 1
      by_cases h : i < n
      · rw [if_pos h, if_pos (by omega)]
      · rw [if_neg h, if_neg (by omega)]
  · rw [List.getElem?_eq_none (by rw [List.length_set, mapI_len]; omega), List.getElem?_eq_none (by rw [mapI_len]; omega)]
end
theorem push_ok {r : GRing} {a : Nat} (h : r.ok = true) : (r.push a).ok = true ∧ (r.push a).len = r.len := by
  have k := at_lt h
  have e : (r.push a).len = r.len := by simp [GRing.push, GRing.len]
  refine ⟨?_, e⟩
  have hl : r.len = r.Samples.length := rfl
  have h1 : (r.push a).At = (r.At + 1) % r.len := rfl
  have h2 := Int.emod_nonneg (r.At + 1) (show r.len ≠ 0 by omega)
  have h3 := Int.emod_lt_of_pos (r.At + 1) (show 0 < r.len by omega)
  unfold GRing.ok inR
  rw [e, h1]
  simp only [Bool.and_eq_true, decide_eq_true_eq]
  omega
theorem mem_get {α : Type} [Inhabited α] {l : List α} {i : Nat} (h : i < l.length) : l[i]! ∈ l := by rw [getElem!_pos l i h]; exact List.getElem_mem h
end Go.Sx
