/- Externs, counted loops, floats as cells. -/
import Derived.Test.YtnhcoeogejgidacGreatDoorLx1
import Derived.Laws.Externs
import Derived.WalkKit
import Derived.ProofKit
import Derived.OpenShut
import Derived.ShutString
import Derived.ChangeOld
import Derived.Below
import Derived.Carry
import Derived.SizedLaws
import Derived.Laws.Cover2
namespace Go.Sx
set_option linter.unusedVariables false

theorem wrap64 {n : Int} (h1 : -9223372036854775808 ≤ n) (h2 : n < 9223372036854775808) : IntKind.i64.wrap n = n := by
  have e1 : (2 : Int) ^ 64 = 18446744073709551616 := by decide
  have e2 : (2 : Int) ^ (64 - 1) = 9223372036854775808 := by decide
  simp only [IntKind.wrap, IntKind.bits, IntKind.signed, e1, e2, Bool.true_and, decide_eq_true_eq]
  split <;> omega
theorem wrap64_succ {n : Nat} (h : n < 9223372036854775807) : IntKind.i64.wrap ((n : Int) + 1) = ((n + 1 : Nat) : Int) := by
  rw [wrap64 (by omega) (by omega)]; rfl
theorem ext_ret {P : Program} {f : FuncId} {fn : Func} {e : Array Value → Sem Value} {args : Array Value} {v : Value} (hf : P.funcs[f]? = some fn) (hname : (fn.name == "runtime.NumGoroutine") = false)
    (hb : fn.body.isNone = true) (hn : Extern.findNext fn = none) (he : Extern.find fn = some e) (hr : ∀ w, (e args).run P w = .ok v w) : Ret P f args v := by
  intro h w hw
  unfold UponN
  rw [Go.run_callFunc_extern hf hname hb hn he, hr]
  exact ⟨Same.refl _, rfl, by rw [hw]; exact Ext.refl _⟩
theorem brd {p : Prop} [Decidable p] {a b : Prop} (ht : p → a) (hf : ¬ p → b) : BIF (decide p) a b := by
  by_cases h : p
  · rw [decide_eq_true h]; exact ht h
  · rw [decide_eq_false h]; exact hf h
theorem toList_data (s : ByteArray) : s.toList = s.data.toList := Go.ByteArray.toList_eq s
theorem str_eq (s t : ByteArray) : (s.toList == t.toList) = decide (s = t) := by
  rw [toList_data, toList_data]
  by_cases h : s = t
  · subst h; simp
  · rw [decide_eq_false h]
    apply beq_false_of_ne
    intro e
    apply h
    cases s; cases t
    simpa using Array.toList_inj.1 e
/-- A list that is copied from another of its length, element by element. -/
theorem copy_step {α : Type} {b : List α} {m n : Nat} {z : α} (hb : b.length = m) (hn : n < m) : (b.take n ++ List.replicate (m - n) z).set n (b[n]'(hb ▸ hn)) = b.take (n + 1) ++ List.replicate (m - (n + 1)) z := by
  have h1 : (b.take n).length = n := by simp; omega
  rw [List.set_append_right _ _ (by omega), h1, Nat.sub_self, show m - n = (m - (n + 1)) + 1 by omega, List.replicate_succ, List.set_cons_zero, List.take_succ_eq_append_getElem (show n < b.length by omega), List.append_assoc]
  rfl
end Go.Sx
/- From what a law's call answers, in these words, to the given row: any law of plain data that answers true and leaves its arguments alone. -/
namespace Go.Sx
open Go.ChangeShapes Go.WideShapes Go.ChangeAt Go.RowKit
set_option linter.unusedVariables false

theorem calls_of_CALL {P : Program} {f : FuncId} {fn : Func} {args : Array Value} {K : Value → Heap → Prop} {W : World} (hf : P.funcs[f]? = some fn) (hb : fn.body.isNone = false)
    (hn : (fn.name == "runtime.NumGoroutine") = false) (H : CALL P f args K W.heap) : Calls P f args W fun e w'' => ∃ v, e = .returned v ∧ Same W w'' ∧ K v w''.heap := by
  have h := H W rfl
  have hrun : (callFunc f args).run P W = .ok (.enter f args) W := by
    unfold callFunc
    simp only [Sem.run_bind, run_program, Result.andThen_ok, hf, hn, hb, Bool.false_eq_true, if_false]
    rfl
  rw [hrun] at h
  exact h
theorem below_of {W W' : World} (h : Same W W') (x : Ext W.heap W'.heap) : Below W.heap.size W W' := ⟨h.os, h.tape, h.output, x.le, x.eq⟩

section
variable {H : Type} {enc : TypeId × Value → H} {P : Program} {W W' : World}
theorem trodAll_back (hl : laidOutB P = true) (hb : Below W.heap.size W W') : ∀ {ts : List TypeId} {vs : List Value} {ds : List (DataW H)} {p : List MemPlace},
    (∀ t ∈ ts, P.readableRec t = true ∧ t < P.types.size) → DataW.TrodAll enc P W 0 (fun _ => true) true ts vs ds p →
    DataW.TrodAll enc P W' 0 (fun b => decide (b < W.heap.size)) true ts vs ds p := by
  intro ts
  induction ts with
  | nil => intro vs ds p _ h; obtain ⟨rfl, rfl, rfl⟩ := trodAll_nil h; exact rfl
  | cons t ts ih =>
    intro vs ds p hr h
    obtain ⟨v, vs', d, ds', p1, p2, rfl, rfl, rfl, h1, h2⟩ := trodAll_cons h
    have hlt : ∀ x ∈ p1, x.block < W.heap.size := by obtain ⟨m, hm⟩ := h1; exact DataW.trod_lt m _ _ _ hm
    exact ⟨p1, p2, Below.trod hl (hr t (.head _)).1 (hr t (.head _)).2 h1 hb hlt, ih (fun t ht => hr t (.tail _ ht)) h2, rfl⟩
theorem trodAll_length : ∀ {ts : List TypeId} {vs : List Value} {ds : List (DataW H)} {p : List MemPlace} {b : Nat} {sp : Nat → Bool} {hd : Bool}, DataW.TrodAll enc P W b sp hd ts vs ds p → ds.length = ts.length := by
  intro ts
  induction ts with
  | nil => intro vs ds p b sp hd h; obtain ⟨rfl, rfl, rfl⟩ := trodAll_nil h; rfl
  | cons t ts ih => intro vs ds p b sp hd h; obtain ⟨v, vs', d, ds', p1, p2, rfl, rfl, rfl, h1, h2⟩ := trodAll_cons h; simp [ih h2]
end

section
variable {H : Type} {enc : TypeId × Value → H} {P : Program} {w : World} {base : Nat} {spare : Nat → Bool} {held : Bool}
theorem list_choose {α β : Type} {g : β → α} {Q : β → Prop} : ∀ {l : List α} {n : Nat}, l.length = n → (∀ i, i < n → ∃ b, l[i]? = some (g b) ∧ Q b) → ∃ bs : List β, l = bs.map g ∧ bs.length = n ∧ ∀ x ∈ bs, Q x := by
  intro l
  induction l with
  | nil => intro n hn _; exact ⟨[], rfl, hn, fun x hx => nomatch hx⟩
  | cons a l ih =>
    intro n hn h
    subst hn
    obtain ⟨b, h1, h2⟩ := h 0 (by simp)
    obtain ⟨bs, h3, h4, h5⟩ := ih rfl (fun i hi => by simpa using h (i + 1) (by simp; omega))
    refine ⟨b :: bs, ?_, by simp [h4], fun x hx => ?_⟩
    · simp only [List.getElem?_cons_zero, Option.some.injEq] at h1
      rw [h1, h3]; rfl
    · cases hx with
      | head => exact h2
      | tail _ hx => exact h5 x hx
end
end Go.Sx
/- Arguments opened: what a given argument's cells hold, out of the reading that the row gives. -/
namespace Go.Sx
open Go.ChangeShapes Go.WideShapes Go.ChangeAt Go.RowKit
set_option linter.unusedVariables false

section
variable {H : Type} {enc : TypeId × Value → H} {P : Program} {w : World} {base : Nat} {spare : Nat → Bool} {held : Bool}
/-- The types of the cells of a type's values. -/
def flatF (g : TypeId → Option (List TypeId)) (P : Program) : Nat → List Field → Nat → Option (List TypeId)
  | off, [], tot => if off = tot then some [] else none
  | off, f :: fs, tot => if f.offset = off then (g f.type).bind fun l => (flatF g P (off + P.cellsOf f.type) fs tot).bind fun r => some (l ++ r) else none
def flat (P : Program) : Nat → TypeId → Option (List TypeId)
  | 0, _ => none
  | n + 1, t => match P.underlying t with
    | some (.struct fs) => flatF (flat P n) P 0 fs.toList (P.cellsOf t)
    | some (.array m e) => if m * P.cellsOf e = P.cellsOf t then (flat P n e).map fun l => (List.replicate m l).flatten else none
    | some _ => if P.cellsOf t = 1 then some [t] else none
    | none => none
/-- One cell of a type, read. -/
def Leaf (enc : TypeId × Value → H) (P : Program) (w : World) (base : Nat) (spare : Nat → Bool) (held : Bool) (t : TypeId) (v : Value) : Prop := ∃ m y, DataW.trod enc P w base spare held m t [v] = some y
def All2 (enc : TypeId × Value → H) (P : Program) (w : World) (base : Nat) (spare : Nat → Bool) (held : Bool) : List TypeId → List Value → Prop
  | [], [] => True
  | t :: ts, v :: vs => Leaf enc P w base spare held t v ∧ All2 enc P w base spare held ts vs
  | _, _ => False
theorem All2.append : ∀ {l1 : List TypeId} {c1 : List Value} {l2 : List TypeId} {c2 : List Value}, All2 enc P w base spare held l1 c1 → All2 enc P w base spare held l2 c2 → All2 enc P w base spare held (l1 ++ l2) (c1 ++ c2)
  | [], [], _, _, _, h => h
  | [], _ :: _, _, _, h, _ => h.elim
  | _ :: _, [], _, _, h, _ => h.elim
  | t :: ts, v :: vs, _, _, h, k => ⟨h.1, All2.append h.2 k⟩
theorem All2.rep {l : List TypeId} {sz : Nat} : ∀ {n : Nat} {cs : List Value}, cs.length = n * sz → (∀ i, i < n → All2 enc P w base spare held l ((cs.drop (i * sz)).take sz)) → All2 enc P w base spare held (List.replicate n l).flatten cs := by
  intro n
  induction n with
  | zero => intro cs h _; simp at h; subst h; exact trivial
  | succ n ih =>
    intro cs h k
    have h1 : cs = cs.take sz ++ cs.drop sz := (List.take_append_drop _ _).symm
    rw [h1, List.replicate_succ, List.flatten_cons]
    refine All2.append (by simpa using k 0 (by omega)) (ih (by simp [h]; rw [Nat.add_mul]; omega) fun i hi => ?_)
    have := k (i + 1) (by omega)
    rw [List.drop_drop]
    rwa [Nat.add_mul, Nat.one_mul, Nat.add_comm] at this
theorem flatF_out {g : TypeId → Option (List TypeId)} {P : Program} {w : World} {base : Nat} {spare : Nat → Bool} {held : Bool} {enc : TypeId × Value → H} {cs : List Value} (hg : ∀ t l c, g t = some l → (∃ m y, DataW.trod enc P w base spare held m t c = some y) → All2 enc P w base spare held l c) :
    ∀ {fs : List Field} {off : Nat} {ls : List TypeId}, flatF g P off fs cs.length = some ls →
      (∀ f ∈ fs, ∃ m y, DataW.trod enc P w base spare held m f.type ((cs.drop f.offset).take (P.cellsOf f.type)) = some y) → All2 enc P w base spare held ls (cs.drop off) := by
  intro fs
  induction fs with
  | nil =>
    intro off ls h _
    simp only [flatF] at h
    split at h
    · next e => cases h; subst e; simp [All2]
    · cases h
  | cons f fs ih =>
    intro off ls h k
    simp only [flatF] at h
    split at h
    · next e =>
      cases h1 : g f.type with
      | none => simp [h1] at h
      | some l =>
        cases h2 : flatF g P (off + P.cellsOf f.type) fs cs.length with
        | none => simp [h1, h2] at h
        | some r =>
          simp [h1, h2] at h
          subst h
          have k1 := hg _ _ _ h1 (k f (.head _))
          have k2 := ih h2 fun f hf => k f (.tail _ hf)
          have : cs.drop off = (cs.drop off).take (P.cellsOf f.type) ++ cs.drop (off + P.cellsOf f.type) := by
            rw [← List.drop_drop, List.take_append_drop]
          rw [this]
          rw [e] at k1
          exact k1.append k2
    · cases h
theorem trod_one {m : Nat} {t : TypeId} {cs : List Value} {y : DataW H × List MemPlace} {d : TypeDesc} (hd : P.underlying t = some d) (hs : ∀ fs, d ≠ .struct fs) (ha : ∀ n e, d ≠ .array n e) (h : DataW.trod enc P w base spare held m t cs = some y) :
    ∃ v, cs = [v] := by
  cases m with
  | zero => simp [DataW.trod] at h
  | succ m =>
    unfold DataW.trod at h
    rw [hd] at h
    split at h <;> first | exact ⟨_, rfl⟩ | (exfalso; simp_all; done) | skip
theorem flat_out : ∀ (n : Nat) (t : TypeId) (ls : List TypeId) (cs : List Value), flat P n t = some ls → (∃ m y, DataW.trod enc P w base spare held m t cs = some y) → All2 enc P w base spare held ls cs := by
  intro n
  induction n with
  | zero => intro t ls cs h; simp [flat] at h
  | succ n ih =>
    intro t ls cs h ⟨m, y, hy⟩
    unfold flat at h
    split at h
    · next fs hu =>
      obtain ⟨xs, k, rfl, hx, hl, hlen, hel⟩ := DataW.trod_struct hu hy
      rw [← hl] at h
      refine flatF_out (fun t l c h1 h2 => ih t l c h1 h2) h fun f hf => ?_
      obtain ⟨i, hi, e⟩ := List.mem_iff_getElem.1 hf
      have h3 := hel i f (by simp at hi; simp [hi]; simpa using e)
      exact ⟨k, _, by rw [h3, List.getElem?_eq_getElem (by simp at hi; omega)]⟩
    · next k e hu =>
      obtain ⟨xs, m', rfl, hx, hl, hlen, hel⟩ := DataW.trod_array hu hy
      split at h
      · next e1 =>
        cases h1 : flat P n e with
        | none => simp [h1] at h
        | some l =>
          simp [h1] at h
          subst h
          refine All2.rep (sz := P.cellsOf e) (by omega) fun i hi => ih e l _ h1 ⟨m', xs[i], ?_⟩
          rw [hel i hi, List.getElem?_eq_getElem (by omega)]
      · cases h
    · next d hs ha hu =>
      split at h
      · cases h
        obtain ⟨v, rfl⟩ := trod_one hu hs ha hy
        exact ⟨⟨m, y, hy⟩, trivial⟩
      · cases h
    · cases h
theorem leaf_int {t : TypeId} {k : IntKind} {v : Value} (ht : P.underlying t = some (.int k)) (h : Leaf enc P w base spare held t v) : ∃ n, v = .int k n ∧ (Lit.int k n).wf = true := by
  obtain ⟨m, y, h⟩ := h
  cases m with
  | zero => simp [DataW.trod] at h
  | succ m =>
    unfold DataW.trod at h
    rw [ht] at h
    split at h <;> simp_all
theorem leaf_float {t : TypeId} {k : FloatKind} {v : Value} (ht : P.underlying t = some (.float k)) (h : Leaf enc P w base spare held t v) : ∃ n, v = .float k n ∧ (Lit.float k n).wf = true := by
  obtain ⟨m, y, h⟩ := h
  cases m with
  | zero => simp [DataW.trod] at h
  | succ m =>
    unfold DataW.trod at h
    rw [ht] at h
    split at h <;> simp_all
theorem leaf_str {t : TypeId} {v : Value} (ht : P.underlying t = some .string) (h : Leaf enc P w base spare held t v) : ∃ s, v = .string s ∧ s.size ≤ maxLen := by
  obtain ⟨m, y, h⟩ := h
  cases m with
  | zero => simp [DataW.trod] at h
  | succ m =>
    unfold DataW.trod at h
    rw [ht] at h
    split at h <;> simp_all
/-- A slice's cells as values. -/
structure Slc (enc : TypeId × Value → H) (P : Program) (w : World) (base : Nat) (spare : Nat → Bool) (held : Bool) (e : TypeId) (b : Option Addr) (l c : Nat) (vs : List Value) : Prop where
  le : l ≤ c
  max : c ≤ maxLen
  len : vs.length = l * P.cellsOf e
  cells : ∀ i, i < vs.length → ∃ a, b = some a ∧ cell w.heap (a.add i) = vs[i]?
  elems : ∀ i, i < l → ∃ m y, DataW.trod enc P w base spare held m e ((vs.drop (i * P.cellsOf e)).take (P.cellsOf e)) = some y
theorem add_add (a : Addr) (i j : Nat) : (a.add i).add j = a.add (i + j) := by
  unfold Addr.add
  by_cases h1 : i = 0
  · subst h1; simp
  · by_cases h2 : j = 0
    · subst h2; simp
    · simp [h1, h2, Nat.add_assoc]
theorem leaf_slice {t e : TypeId} {v : Value} (ht : P.underlying t = some (.slice e)) (h : Leaf enc P w base spare held t v) : ∃ b l c vs, v = .slice b l c ∧ (b = none → l = 0 ∧ c = 0) ∧ Slc enc P w base spare held e b l c vs := by
  obtain ⟨m, y, h⟩ := h
  cases m with
  | zero => simp [DataW.trod] at h
  | succ m =>
    unfold DataW.trod at h
    rw [ht] at h
    split at h <;> try (simp_all; done)
    · next e1 e2 =>
      cases e1
      simp at e2
      subst e2
      exact ⟨none, 0, 0, [], rfl, fun _ => ⟨rfl, rfl⟩, ⟨Nat.le_refl _, Nat.zero_le _, by simp, fun i hi => by simp at hi, fun i hi => by omega⟩⟩
    · next e x l c e1 e2 =>
      cases e1
      obtain rfl : v = .slice (some x) l c := by simpa using e2
      split at h
      · next hc =>
        obtain ⟨h1, h2, h3⟩ := hc
        cases hm : (List.range l).mapM (fun i => (w.cells? base (x.add (i * P.cellsOf e)) (P.cellsOf e)).bind (DataW.trod enc P w base spare held m e)) with
        | none => simp only [hm] at h; simp at h
        | some els =>
          have hl := mapM_some_length hm
          simp at hl
          have hel : ∀ i, i < l → ∃ cs y, w.cells? base (x.add (i * P.cellsOf e)) (P.cellsOf e) = some cs ∧ DataW.trod enc P w base spare held m e cs = some y := by
            intro i hi
            have := mapM_some_get hm i i (by simp [hi])
            rw [List.getElem?_eq_getElem (by omega)] at this
            obtain ⟨cs, h4, h5⟩ := Option.bind_eq_some_iff.1 this
            exact ⟨cs, _, h4, h5⟩
          have hsz : ∀ j, j < l * P.cellsOf e → ∃ v, cell w.heap (x.add j) = some v := by
            intro j hj
            have hp : 0 < P.cellsOf e := by
              rcases Nat.eq_zero_or_pos (P.cellsOf e) with h0 | h0
              · rw [h0] at hj; omega
              · exact h0
            have hi : j / P.cellsOf e < l := (Nat.div_lt_iff_lt_mul hp).2 hj
            obtain ⟨cs, y, h4, h5⟩ := hel _ hi
            obtain ⟨_, h6, h7⟩ := World.cells?_some h4
            have h8 := h7 (j % P.cellsOf e) (Nat.mod_lt _ hp)
            rw [add_add, Nat.div_add_mod' j] at h8
            rw [cell_eq] at h8
            rw [h8, List.getElem?_eq_getElem (by rw [h6]; exact Nat.mod_lt _ hp)]
            exact ⟨_, rfl⟩
          refine ⟨some x, l, c, (List.range (l * P.cellsOf e)).map fun j => (cell w.heap (x.add j)).getD undef, rfl, (fun h => by cases h), ⟨h2, h3, by simp, fun i hi => ⟨x, rfl, ?_⟩, fun i hi => ?_⟩⟩
          · simp at hi
            obtain ⟨v, hv⟩ := hsz i hi
            simp [hi, hv]
          · obtain ⟨cs, y, h4, h5⟩ := hel i hi
            refine ⟨m, y, ?_⟩
            rw [← h5]
            obtain ⟨_, h6, h7⟩ := World.cells?_some h4
            congr 1
            have hb : i * P.cellsOf e + P.cellsOf e ≤ l * P.cellsOf e := by
              have := Nat.mul_le_mul_right (P.cellsOf e) (show i + 1 ≤ l by omega)
              rwa [Nat.add_mul, Nat.one_mul] at this
            apply List.ext_getElem?
            intro j
            by_cases hj : j < P.cellsOf e
            · rw [List.getElem?_take_of_lt hj, List.getElem?_drop, ← h7 j hj, cell_eq, add_add]
              obtain ⟨v, hv⟩ := hsz (i * P.cellsOf e + j) (by omega)
              have : i * P.cellsOf e + j < l * P.cellsOf e := by omega
              simp [this, hv]
            · rw [List.getElem?_eq_none (by simp; omega), List.getElem?_eq_none (by omega)]
      · cases h
/-- A struct or an array: its cells. -/
theorem open_flat {r : _root_.Go.Reach} {b0 n : Nat} {t : TypeId} {ls : List TypeId} {v : Value} {d : DataW H} {ps : List MemPlace} (ha : (match P.underlying t with | some (.struct _) | some (.array _ _) => true | _ => false) = true)
    (hf : flat P n t = some ls) (hval : Value.okWide P w r b0 t v) (hd : DataW.Trod enc P w base spare held t v d ps) : ∃ cs : List Value, v = .agg ⟨cs⟩ ∧ All2 enc P w base spare held ls cs := by
  have : ∃ cs, v = .agg cs := by
    unfold Value.okWide at hval
    split at hval
    · obtain ⟨cs, rfl, _⟩ := hval; exact ⟨cs, rfl⟩
    · obtain ⟨cs, rfl, _⟩ := hval; exact ⟨cs, rfl⟩
    · next h1 h2 =>
      exfalso
      split at ha
      · next h => exact h1 _ h
      · next h => exact h2 _ _ h
      · cases ha
  obtain ⟨cs, rfl⟩ := this
  obtain ⟨m, h⟩ := hd
  exact ⟨cs.toList, rfl, flat_out n t ls _ hf ⟨m, _, h⟩⟩
theorem All2.floats {k : FloatKind} : ∀ {ls : List TypeId} {cs : List Value}, (∀ t ∈ ls, P.underlying t = some (.float k)) → All2 enc P w base spare held ls cs → ∃ zs : List Nat, cs = zs.map (.float k) ∧ zs.length = ls.length ∧ ∀ n ∈ zs, (Lit.float k n).wf = true
  | [], [], _, _ => ⟨[], rfl, rfl, fun _ h => nomatch h⟩
  | [], _ :: _, _, h => h.elim
  | _ :: _, [], _, h => h.elim
  | t :: ts, v :: vs, ht, h => by
    obtain ⟨n, rfl, hn⟩ := leaf_float (ht t (.head _)) h.1
    obtain ⟨zs, rfl, hl, hz⟩ := All2.floats (fun t h => ht t (.tail _ h)) h.2
    refine ⟨n :: zs, rfl, by simp [hl], fun x hx => ?_⟩
    cases hx with
    | head => exact hn
    | tail _ hx => exact hz x hx
theorem Slc.floats {e : TypeId} {k : FloatKind} {b : Option Addr} {l c : Nat} {vs : List Value} (he : P.underlying e = some (.float k)) (hc : P.cellsOf e = 1) (S : Slc enc P w base spare held e b l c vs) :
    ∃ xs : List Nat, vs = xs.map (.float k) ∧ xs.length = l ∧ ∀ n ∈ xs, (Lit.float k n).wf = true := by
  refine list_choose (by rw [S.len, hc, Nat.mul_one]) fun i hi => ?_
  obtain ⟨m, y, h⟩ := S.elems i hi
  have hl : i < vs.length := by rw [S.len, hc, Nat.mul_one]; exact hi
  rw [hc, Nat.mul_one, List.drop_eq_getElem_cons hl] at h
  obtain ⟨n, h1, h2⟩ := leaf_float he ⟨m, y, h⟩
  exact ⟨n, by rw [List.getElem?_eq_getElem hl, h1], h2⟩
end
end Go.Sx
