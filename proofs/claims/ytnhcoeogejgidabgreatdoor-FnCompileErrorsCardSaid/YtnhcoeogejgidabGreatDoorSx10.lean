/- Code: joins and loops by predicates of their own; functions. -/
import Derived.Test.YtnhcoeogejgidabGreatDoorSx9
set_option linter.unusedSectionVars false
namespace Go.Sx
variable [Mode]
variable {P : Program} {τ : Static}

abbrev Kont := Exit → Frame → Heap → Prop
def KN (J : Frame → Heap → Prop) (K : Kont) : Kont := fun e fr h => match e with | .normal => J fr h | e => K e fr h
def KB (id : Nat) (K : Kont) : Kont := fun e fr h => match e with | .exit j => bif Nat.beq j id then K .normal fr h else K (.exit j) fr h | e => K e fr h
def lab : Code → Option Nat
  | .region id _ _ => some id
  | .seq a b => (match lab a with | some i => some i | none => lab b)
  | .cond _ a b => (match lab a with | some i => some i | none => lab b)
  | .block _ c => lab c
  | .loop c => lab c
  | _ => none
abbrev Labels := Nat → Option (Frame → Heap → Prop)
def atLab (Λ : Labels) (c : Code) : Option (Frame → Heap → Prop) := match lab c with | some i => Λ i | none => none
def atLoop (Λ : Labels) (c : Code) : Option (Frame → Heap → Prop) := match lab c with | some i => Λ (1000000 + i) | none => none
def regI (P : Program) (τ : Static) (ops : Array Oper) (draw : Bool) (K : Frame → Heap → Prop) (fr : Frame) (h : Heap) : Prop :=
  match draw with
  | false => seqI P τ ops K 0 ops.toList fr h
  | true => bif Region.noSelect ops then drawI P τ ops (masks ops (List.range ops.size) []) K ops.size (Array.replicate ops.size false) fr h [] else False
def wpI (P : Program) (τ : Static) (Λ : Labels) : Code → Kont → Frame → Heap → Prop
  | .skip, K, fr, h => K .normal fr h
  | .region _ ops draw, K, fr, h => regI P τ ops draw (K .normal) fr h
  | .seq a b, K, fr, h => wpI P τ Λ a (KN (match atLab Λ b with | some J => J | none => wpI P τ Λ b K) K) fr h
  | .cond c a b, K, fr, h => (match evL fr c with | .bool t => BIF t (wpI P τ Λ a K fr h) (wpI P τ Λ b K fr h) | _ => False)
  | .block id c, K, fr, h => wpI P τ Λ c (KB id K) fr h
  | .loop c, _, fr, h => (match atLoop Λ c with | some L => L fr h | none => False)
  | .exit id, K, fr, h => K (.exit id) fr h
  | .ret, K, fr, h => K .ret fr h
  | _, _, _, _ => False

def Ok (P : Program) (c : Code) (K : Kont) (fr : Frame) (h : Heap) : Prop :=
  ∀ (a : Act) (w : World), a.tmps.toList = fr → w.heap = h → c.wp P (fun e a' w' => Left a w (K e) a' w') a w
def LoopReq (P : Program) (L : Frame → Heap → Prop) (c : Code) (K : Kont) : Prop :=
  ∀ fr h, L fr h → ∃ (I : Frame → Heap → Prop) (m : Frame → Heap → Nat), I fr h ∧ ∀ fr h, I fr h → Ok P c (KN (fun fr' h' => I fr' h' ∧ m fr' h' < m fr h) K) fr h
inductive Rq (P : Program) (τ : Static) (Λ : Labels) : Code → Kont → Prop
  | skip {K} : Rq P τ Λ .skip K
  | region {i ops d K} : Rq P τ Λ (.region i ops d) K
  | exit {i K} : Rq P τ Λ (.exit i) K
  | ret {K} : Rq P τ Λ .ret K
  | seq {a b K} : atLab Λ b = none → Rq P τ Λ a (KN (wpI P τ Λ b K) K) → Rq P τ Λ b K → Rq P τ Λ (.seq a b) K
  | seqJ {a b K} (J : Frame → Heap → Prop) : atLab Λ b = some J → (∀ fr h, J fr h → wpI P τ Λ b K fr h) → Rq P τ Λ a (KN J K) → Rq P τ Λ b K → Rq P τ Λ (.seq a b) K
  | seqD {a b K} : atLab Λ b = some (fun _ _ => False) → Rq P τ Λ a (KN (fun _ _ => False) K) → Rq P τ Λ (.seq a b) K
  | cond {c a b K} : Rq P τ Λ a K → Rq P τ Λ b K → Rq P τ Λ (.cond c a b) K
  | block {i c K} : Rq P τ Λ c (KB i K) → Rq P τ Λ (.block i c) K
  | loop {c K} (L : Frame → Heap → Prop) : atLoop Λ c = some L → LoopReq P L c K → Rq P τ Λ (.loop c) K

theorem Left.trans {a a1 : Act} {w w1 : World} {X : Frame → Heap → Prop} {a2 : Act} {w2 : World} (h1 : a1.defers = a.defers) (h2 : Same w w1) (h : Left a1 w1 X a2 w2) : Left a w X a2 w2 :=
  ⟨h.1.trans h1, h2.trans h.2.1, h.2.2⟩
theorem ok_main (hτ : OkS P τ) (hm : P.follows .mixedOrders = true) {Λ : Labels} {c : Code} {K : Kont} (hr : Rq P τ Λ c K) : ∀ fr h, wpI P τ Λ c K fr h → Ok P c K fr h := by
  induction hr with
  | skip => intro fr h H a w ha hw; subst ha; subst hw; exact wp_skip ⟨rfl, Same.refl w, H⟩
  | @region i ops d K =>
    intro fr h H a w ha hw
    subst ha; subst hw
    unfold wpI regI at H
    cases d with
    | false => exact wp_region_list (seqI_wp hτ (a0 := a) (w0 := w) (fun a' w' hl => hl) ops.toList 0 a w rfl (Same.refl w) H)
    | true =>
      simp only [] at H
      cases hns : Region.noSelect ops with
      | false => rw [hns] at H; exact H.elim
      | true =>
        rw [hns] at H
        have hcl : closedL ops (Array.replicate ops.size false) := fun j hj => by
          exfalso
          rcases Nat.lt_or_ge j ops.size with h' | h'
          · simp [h'] at hj
          · simp [h'] at hj
        have H' := drawI_any hτ hns rfl _ _ _ _ _ hcl H
        exact wp_region_any hm (AnyP_wp (a0 := a) (w0 := w) (fun a' w' hl => hl) _ _ _ a { w with drawn := w.drawn + 1 } rfl (drew_same w) H')
  | exit => intro fr h H a w ha hw; subst ha; subst hw; exact wp_exit ⟨rfl, Same.refl w, H⟩
  | ret => intro fr h H a w ha hw; subst ha; subst hw; exact wp_ret ⟨rfl, Same.refl w, H⟩
  | @seq x y K hl _ _ iha ihb =>
    intro fr h H a w ha hw
    unfold wpI at H
    rw [hl] at H
    refine wp_seq (wp_mono (iha fr h H a w ha hw) fun e a1 w1 q => ?_)
    cases e with
    | normal => exact wp_mono (ihb _ _ q.2.2 a1 w1 rfl rfl) fun e a2 w2 q2 => Left.trans q.1 q.2.1 q2
    | _ => exact q
  | @seqJ x y K J hl hJ _ _ iha ihb =>
    intro fr h H a w ha hw
    unfold wpI at H
    rw [hl] at H
    refine wp_seq (wp_mono (iha fr h H a w ha hw) fun e a1 w1 q => ?_)
    cases e with
    | normal => exact wp_mono (ihb _ _ (hJ _ _ q.2.2) a1 w1 rfl rfl) fun e a2 w2 q2 => Left.trans q.1 q.2.1 q2
    | _ => exact q
  | @seqD x y K hl _ iha =>
    intro fr h H a w ha hw
    unfold wpI at H
    rw [hl] at H
    refine wp_seq (wp_mono (iha fr h H a w ha hw) fun e a1 w1 q => ?_)
    cases e with
    | normal => exact q.2.2.elim
    | _ => exact q
  | @cond c x y K _ _ iha ihb =>
    intro fr h H a w ha hw
    unfold wpI at H
    split at H
    · rename_i t hc
      refine wp_cond (t := t) (by rw [← evL_toList, ha]; exact hc) ?_
      cases t
      · exact ihb fr h H a w ha hw
      · exact iha fr h H a w ha hw
    · exact H.elim
  | @block i c K _ ih =>
    intro fr h H a w ha hw
    refine wp_block (wp_mono (ih fr h H a w ha hw) fun e a1 w1 q => ?_)
    cases e with
    | exit j =>
      simp only [Exit.inBlock]
      unfold Left KB at q
      obtain ⟨q1, q2, q3⟩ := q
      by_cases hj : j = i
      · rw [if_pos hj]
        subst hj
        simp only [Nat.beq_refl, cond_true] at q3
        exact ⟨q1, q2, q3⟩
      · rw [if_neg hj]
        have : Nat.beq j i = false := by
          cases hb : Nat.beq j i with
          | false => rfl
          | true => exact absurd (Nat.beq_eq ▸ hb) hj
        simp only [this, cond_false] at q3
        exact ⟨q1, q2, q3⟩
    | _ => exact q
  | @loop c K L hl hL =>
    intro fr h H a w ha hw
    unfold wpI at H
    rw [hl] at H
    obtain ⟨I, m, h0, hround⟩ := hL fr h H
    refine wp_loop (fun a' w' => Left a w I a' w') (fun a' w' => m a'.tmps.toList w'.heap) ⟨rfl, Same.refl w, by rw [ha, hw]; exact h0⟩ fun a1 w1 hI => ?_
    have hb := hround _ _ hI.2.2 a1 w1 rfl rfl
    refine wp_mono hb fun e a2 w2 q => ?_
    cases e with
    | normal => exact ⟨Left.trans hI.1 hI.2.1 ⟨q.1, q.2.1, q.2.2.1⟩, q.2.2.2⟩
    | _ => exact Left.trans hI.1 hI.2.1 q

inductive Kd where
  | i (k : IntKind) | b | f (k : FloatKind) | s | p | l | a | v
def gI (v : Value) : Int := match v with | .int _ n => n | _ => 0
def gB (v : Value) : Bool := match v with | .bool b => b | _ => false
def gF (v : Value) : Nat := match v with | .float _ n => n | _ => 0
def gS (v : Value) : ByteArray := match v with | .string s => s | _ => ByteArray.empty
def gP (v : Value) : Addr := match v with | .pointer (some a) => a | _ => ⟨0, 0, none⟩
def gLb (v : Value) : Option Addr := match v with | .slice b _ _ => b | _ => none
def gLl (v : Value) : Nat := match v with | .slice _ l _ => l | _ => 0
def gLc (v : Value) : Nat := match v with | .slice _ _ c => c | _ => 0
def gA (v : Value) : Array Value := match v with | .agg cs => cs | _ => #[]
def shape1 (k : Kd) (v : Value) : Bool :=
  match k, v with
  | .i k, .int k' _ => decide (k' = k)
  | .b, .bool _ => true
  | .f k, .float k' _ => decide (k' = k)
  | .s, .string _ => true
  | .p, .pointer (some _) => true
  | .l, .slice _ _ _ => true
  | .a, .agg _ => true
  | .v, _ => true
  | _, _ => false
def canon1 (k : Kd) (v : Value) : Value :=
  match k with
  | .i k => .int k (gI v)
  | .b => .bool (gB v)
  | .f k => .float k (gF v)
  | .s => .string (gS v)
  | .p => .pointer (some (gP v))
  | .l => .slice (gLb v) (gLl v) (gLc v)
  | .a => .agg (gA v)
  | .v => v
def shape : List Kd → Frame → Bool
  | [], [] => true
  | k :: ks, v :: fr => shape1 k v && shape ks fr
  | _, _ => false
def canon : List Kd → Nat → Frame → Frame
  | [], _, _ => []
  | k :: ks, i, fr => canon1 k (lget fr i) :: canon ks (i + 1) fr
theorem canon1_eq {k : Kd} {v : Value} (h : shape1 k v = true) : canon1 k v = v := by
  cases k <;> cases v <;> simp only [shape1, Bool.false_eq_true, decide_eq_true_eq] at h <;> first
    | rfl
    | (subst h; rfl)
    | skip
  all_goals
    rename_i a
    cases a <;> first
      | rfl
      | (simp at h; done)
theorem canon_eq' : ∀ (ks : List Kd) (fr pre : Frame), shape ks fr = true → canon ks pre.length (pre ++ fr) = fr
  | [], [], _, _ => rfl
  | [], _ :: _, _, h => by simp [shape] at h
  | _ :: _, [], _, h => by simp [shape] at h
  | k :: ks, v :: fr, pre, h => by
    simp only [shape, Bool.and_eq_true] at h
    have h1 : lget (pre ++ v :: fr) pre.length = v := by simp [lget_eq]
    have h2 := canon_eq' ks fr (pre ++ [v]) h.2
    simp only [List.length_append, List.length_cons, List.length_nil, List.append_assoc, List.singleton_append] at h2
    simp only [canon, h1, canon1_eq h.1, h2]
theorem canon_eq {ks : List Kd} {fr : Frame} (h : shape ks fr = true) : canon ks 0 fr = fr := canon_eq' ks fr [] h
def GRD (b : Bool) (p : Prop) : Prop := match b with | true => p | false => False
theorem GRD_out {b : Bool} {p : Prop} (h : GRD b p) : b = true ∧ p := by cases b <;> first | exact h.elim | exact ⟨rfl, h⟩
theorem seg {ks : List Kd} {Λ : Labels} {c : Code} {K : Kont} {J : Frame → Heap → Prop} (H : ∀ fr h, J fr h = wpI P τ Λ c K (canon ks 0 fr) h) : ∀ fr h, GRD (shape ks fr) (J fr h) → wpI P τ Λ c K fr h := by
  intro fr h hj
  obtain ⟨h1, h2⟩ := GRD_out hj
  rw [H, canon_eq h1] at h2
  exact h2
/-- A loop: an invariant over what it carries, and what goes down. -/
def LOOP {X : Type} (B : (X → Heap → Prop) → X → Heap → Prop) (x : X) (h : Heap) : Prop :=
  ∃ (I : X → Heap → Prop) (m : X → Heap → Nat), I x h ∧ ∀ x h, I x h → B (fun x' h' => I x' h' ∧ m x' h' < m x h) x h
theorem segL (hτ : OkS P τ) (hm : P.follows .mixedOrders = true) {X : Type} {ks : List Kd} {g : Frame → X} {B : (X → Heap → Prop) → X → Heap → Prop} {Λ : (X → Heap → Prop) → Labels} {c : Code} {K : Kont}
    (H : ∀ N fr h, B N (g fr) h = wpI P τ (Λ N) c (KN (fun fr' h' => GRD (shape ks fr') (N (g fr') h')) K) (canon ks 0 fr) h)
    (hr : ∀ N, Rq P τ (Λ N) c (KN (fun fr' h' => GRD (shape ks fr') (N (g fr') h')) K)) : LoopReq P (fun fr h => GRD (shape ks fr) (LOOP B (g fr) h)) c K := by
  intro fr h hl
  obtain ⟨h1, I, m, h2, h3⟩ := GRD_out hl
  refine ⟨fun fr h => GRD (shape ks fr) (I (g fr) h), fun fr h => m (g fr) h, by show GRD (shape ks fr) (I (g fr) h); rw [h1]; exact h2, fun fr h hi => ?_⟩
  obtain ⟨h1, h2⟩ := GRD_out hi
  have h4 := h3 _ _ h2
  rw [H, canon_eq h1] at h4
  have e : (fun fr' h' => GRD (shape ks fr') ((fun x' h' => I x' h' ∧ m x' h' < m (g fr) h) (g fr') h')) = fun fr' h' => GRD (shape ks fr') (I (g fr') h') ∧ m (g fr') h' < m (g fr) h := by
    funext fr' h'
    cases shape ks fr' <;> simp [GRD]
  have h5 := ok_main hτ hm (hr (fun x' h' => I x' h' ∧ m x' h' < m (g fr) h)) fr h h4
  rw [e] at h5
  exact h5

def lookL : List (Nat × (Frame → Heap → Prop)) → Labels
  | [], _ => none
  | (i, J) :: r, n => bif Nat.beq i n then some J else lookL r n
/-- No label of the list, no loop. -/
def freeC (ls : List Nat) : Code → Bool
  | .seq a b => freeC ls a && freeC ls b && !(match lab b with | some i => ls.any (Nat.beq i) | none => false)
  | .cond _ a b => freeC ls a && freeC ls b
  | .block _ c => freeC ls c
  | .skip | .region .. | .exit _ | .ret => true
  | _ => false
theorem lookL_none : ∀ {l : List (Nat × (Frame → Heap → Prop))} {n : Nat}, (l.map (·.1)).any (Nat.beq n) = false → lookL l n = none
  | [], _, _ => rfl
  | (i, J) :: r, n, h => by
    simp only [List.map_cons, List.any_cons, Bool.or_eq_false_iff] at h
    have : Nat.beq i n = false := by
      cases hb : Nat.beq i n with
      | false => rfl
      | true =>
        rw [Nat.beq_eq] at hb
        subst hb
        have := h.1
        rw [Nat.beq_refl] at this
        cases this
    unfold lookL
    rw [this]
    exact lookL_none h.2
theorem Rq.free {l : List (Nat × (Frame → Heap → Prop))} : ∀ {c : Code} {K : Kont}, freeC (l.map (·.1)) c = true → Rq P τ (lookL l) c K
  | .seq a b, K, h => by
    simp only [freeC, Bool.and_eq_true, Bool.not_eq_true'] at h
    refine .seq ?_ (Rq.free h.1.1) (Rq.free h.1.2)
    unfold atLab
    split
    · rename_i i e
      have := h.2
      rw [e] at this
      exact lookL_none this
    · rfl
  | .cond c a b, K, h => by
    simp only [freeC, Bool.and_eq_true] at h
    exact .cond (Rq.free h.1) (Rq.free h.2)
  | .block i c, K, h => .block (Rq.free (c := c) h)
  | .skip, _, _ => .skip
  | .region .., _, _ => .region
  | .exit _, _, _ => .exit
  | .ret, _, _ => .ret
  | .loop _, _, h => by cases h
  | .rangeFunc .., _, h => by cases h
  | .scope _, _, h => by cases h
  | .label _, _, h => by cases h
  | .goto _, _, h => by cases h
  | .refuse _, _, h => by cases h
def look1 : List (Nat × Kd) → Nat → Kd
  | [], _ => .v
  | (i, k) :: r, n => bif Nat.beq i n then k else look1 r n
/-- Kinds by a list of the slots that matter. -/
def kds (n : Nat) (l : List (Nat × Kd)) : List Kd := (List.range n).map (look1 l)

def RETs (τ : Static) (fr : Frame) (h : Heap) : List ResultVar → List Value → (List Value → Prop) → Prop
  | [], acc, F => F acc
  | .tmp t :: r, acc, F => RETs τ fr h r (acc ++ [lget fr t]) F
  | .cell p t :: r, acc, F => (match lget fr p with | .pointer (some a) => LD τ t h a fun v => RETs τ fr h r (acc ++ [v]) F | _ => False)
def RETI (τ : Static) (rs : List ResultVar) (Post : Value → Heap → Prop) (fr : Frame) (h : Heap) : Prop :=
  RETs τ fr h rs [] fun vs => match vs with | [v] => Post v h | vs => Post (.tuple ⟨vs⟩) h
def K0 (τ : Static) (rs : List ResultVar) (Post : Value → Heap → Prop) : Kont := fun e fr h => match e with
  | .normal => RETI τ rs Post fr h
  | .ret => RETI τ rs Post fr h
  | _ => False
def resS (tm : Array Value) (r : ResultVar) : Sem Value := match r with
  | .tmp t => pure (tm.getD t undef)
  | .cell a t => do loadVar t (← asAddr (tm.getD a undef))
theorem RETs_out (hτ : OkS P τ) {w : World} (tm : Array Value) : ∀ (rs : List ResultVar) (acc : List Value) (F : List Value → Prop), RETs τ tm.toList w.heap rs acc F →
    ∃ vs : List Value, (rs.mapM (resS tm)).run P w = .ok vs w ∧ F (acc ++ vs)
  | [], acc, F, H => ⟨[], rfl, by rw [List.append_nil]; exact H⟩
  | .tmp t :: r, acc, F, H => by
    obtain ⟨vs, h1, h2⟩ := RETs_out hτ tm r _ F H
    refine ⟨lget tm.toList t :: vs, ?_, by rw [List.append_assoc] at h2; exact h2⟩
    have h0 : (resS tm (.tmp t)).run P w = .ok (lget tm.toList t) w := by
      have : tm.getD t undef = lget tm.toList t := by rw [lget_eq]; simp [Array.getD_eq_getD_getElem?]
      rw [← this]; rfl
    rw [List.mapM_cons]
    simp [h1, h0]
  | .cell p t :: r, acc, F, H => by
    unfold RETs at H
    split at H
    · rename_i a hp
      obtain ⟨v, hv, H⟩ := LD_out (P := P) hτ H
      obtain ⟨vs, h1, h2⟩ := RETs_out hτ tm r _ F H
      refine ⟨v :: vs, ?_, by rw [List.append_assoc] at h2; exact h2⟩
      have h0 : (resS tm (.cell p t)).run P w = .ok v w := by
        have : tm.getD p undef = .pointer (some a) := by rw [← hp, lget_eq]; simp [Array.getD_eq_getD_getElem?]
        simp only [resS, this, asAddr, Sem.run_bind, Sem.run_pure, Result.andThen_ok, hv]
      rw [List.mapM_cons]
      simp [h1, h0]
    · exact H.elim
theorem RETI_out (hτ : OkS P τ) {fn : Func} {Post : Value → Heap → Prop} {tm : Array Value} {w : World} (H : RETI τ fn.results.toList Post tm.toList w.heap) : ∃ v, (results fn tm).run P w = .ok v w ∧ Post v w.heap := by
  obtain ⟨vs, h1, h2⟩ := RETs_out (P := P) hτ tm _ _ _ H
  refine ⟨if h : vs.toArray.size = 1 then vs.toArray[0] else .tuple vs.toArray, ?_, ?_⟩
  · have e : results fn tm = (do let vs ← fn.results.mapM (resS tm); pure (if h : vs.size = 1 then vs[0] else .tuple vs)) := rfl
    rw [e, Array.mapM_eq_mapM_toList, Sem.run_bind, Sem.run_map, h1]
    rfl
  · rw [List.nil_append] at h2
    match vs, h2 with
    | [], h2 => exact h2
    | [v], h2 => exact h2
    | a :: b :: r, h2 => exact h2
theorem fn_call (hτ : OkS P τ) (hm : P.follows .mixedOrders = true) {f : FuncId} {fn : Func} {c : Code} {args : Array Value} {Λ : Labels} {Post : Value → Heap → Prop} {h : Heap}
    (hf : P.funcs[f]? = some fn) (hb : fn.body = some c) (hn : (fn.name == "runtime.NumGoroutine") = false) (hr : Rq P τ Λ c (K0 τ fn.results.toList Post))
    (H : wpI P τ Λ c (K0 τ fn.results.toList Post) (args.toList ++ List.replicate (fn.ntmps - args.size) undef) h) : CALL P f args Post h := by
  intro w hw
  have hrun : (callFunc f args).run P w = .ok (.enter f args) w := by
    unfold callFunc
    simp only [Sem.run_bind, run_program, Result.andThen_ok, hf, hn, hb, Option.isNone_some, Bool.false_eq_true, if_false]
    rfl
  rw [hrun]
  refine calls_of_wp hf hb ?_
  refine wp_mono (ok_main hτ hm hr _ _ H { tmps := args ++ Array.replicate (fn.ntmps - args.size) undef, defers := [] } w (by simp) hw) fun e a' w' q => ?_
  obtain ⟨q1, q2, q3⟩ := q
  cases e with
  | normal =>
    obtain ⟨v, h1, h2⟩ := RETI_out (P := P) hτ q3
    exact ⟨q1, v, h1, v, rfl, q2, h2⟩
  | ret =>
    obtain ⟨v, h1, h2⟩ := RETI_out (P := P) hτ q3
    exact ⟨q1, v, h1, v, rfl, q2, h2⟩
  | _ => exact q3.elim
end Go.Sx
