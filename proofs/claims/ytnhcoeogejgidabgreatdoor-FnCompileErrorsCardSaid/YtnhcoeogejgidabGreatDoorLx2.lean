/- Externs, counted loops, floats as cells. -/
import Derived.Test.YtnhcoeogejgidabGreatDoorLx1
import Derived.Laws.Externs
import Derived.WalkKit
import Derived.ProofKit
import Derived.OpenShut
import Derived.ShutString
import Derived.ChangeOld
import Derived.Below
import Derived.Carry
import Derived.SizedLaws
import Derived.Laws.Cover2
import Derived.Lay
import Derived.LaidOnce
import Derived.SevenTiedAt
namespace Go.Sx
set_option linter.unusedVariables false

theorem wrap64 {n : Int} (h1 : -9223372036854775808 ≤ n) (h2 : n < 9223372036854775808) : IntKind.i64.wrap n = n := by
  have e1 : (2 : Int) ^ 64 = 18446744073709551616 := by decide
  have e2 : (2 : Int) ^ (64 - 1) = 9223372036854775808 := by decide
  simp only [IntKind.wrap, IntKind.bits, IntKind.signed, e1, e2, Bool.true_and, decide_eq_true_eq]
  split <;> omega
theorem wrap64_succ {n : Nat} (h : n < 9223372036854775807) : IntKind.i64.wrap ((n : Int) + 1) = ((n + 1 : Nat) : Int) := by
  rw [wrap64 (by omega) (by omega)]; rfl
theorem brd {p : Prop} [Decidable p] {a b : Prop} (ht : p → a) (hf : ¬ p → b) : BIF (decide p) a b := by
  by_cases h : p
  · rw [decide_eq_true h]; exact ht h
  · rw [decide_eq_false h]; exact hf h
theorem toList_data (s : ByteArray) : s.toList = s.data.toList := Go.ByteArray.toList_eq s
theorem str_eq (s t : ByteArray) : (s.toList == t.toList) = decide (s = t) := by
  rw [toList_data, toList_data]
  by_cases h : s = t
  · subst h; simp
  · rw [decide_eq_false h]
    apply beq_false_of_ne
    intro e
    apply h
    cases s; cases t
    simpa using Array.toList_inj.1 e
/-- Floats as cells. -/
def fl (k : FloatKind) (b : List Nat) : Array Value := ⟨b.map (.float k)⟩
end Go.Sx
/- From what a law's call answers, in these words, to the given row: any law of plain data that answers true and leaves its arguments alone. -/
namespace Go.Sx
open Go.ChangeShapes Go.WideShapes Go.ChangeAt Go.RowKit
set_option linter.unusedVariables false

theorem calls_of_CALL {P : Program} {f : FuncId} {fn : Func} {args : Array Value} {K : Value → Heap → Prop} {W : World} (hf : P.funcs[f]? = some fn) (hb : fn.body.isNone = false)
    (hn : (fn.name == "runtime.NumGoroutine") = false) (H : CALL P f args K W.heap) : Calls P f args W fun e w'' => ∃ v, e = .returned v ∧ Same W w'' ∧ K v w''.heap := by
  have h := H W rfl
  have hrun : (callFunc f args).run P W = .ok (.enter f args) W := by
    unfold callFunc
    simp only [Sem.run_bind, run_program, Result.andThen_ok, hf, hn, hb, Bool.false_eq_true, if_false]
    rfl
  rw [hrun] at h
  exact h
theorem below_of {W W' : World} (h : Same W W') (x : Ext W.heap W'.heap) : Below W.heap.size W W' := ⟨h.os, h.tape, h.output, x.le, x.eq⟩

section
variable {H : Type} {enc : TypeId × Value → H} {P : Program} {W W' : World}
theorem trodAll_back (hl : laidOutB P = true) (hb : Below W.heap.size W W') : ∀ {ts : List TypeId} {vs : List Value} {ds : List (DataW H)} {p : List MemPlace},
    (∀ t ∈ ts, P.readableRec t = true ∧ t < P.types.size) → DataW.TrodAll enc P W 0 (fun _ => true) true ts vs ds p →
    DataW.TrodAll enc P W' 0 (fun b => decide (b < W.heap.size)) true ts vs ds p := by
  intro ts
  induction ts with
  | nil => intro vs ds p _ h; obtain ⟨rfl, rfl, rfl⟩ := trodAll_nil h; exact rfl
  | cons t ts ih =>
    intro vs ds p hr h
    obtain ⟨v, vs', d, ds', p1, p2, rfl, rfl, rfl, h1, h2⟩ := trodAll_cons h
    have hlt : ∀ x ∈ p1, x.block < W.heap.size := by obtain ⟨m, hm⟩ := h1; exact DataW.trod_lt m _ _ _ hm
    exact ⟨p1, p2, Below.trod hl (hr t (.head _)).1 (hr t (.head _)).2 h1 hb hlt, ih (fun t ht => hr t (.tail _ ht)) h2, rfl⟩
theorem trodAll_length : ∀ {ts : List TypeId} {vs : List Value} {ds : List (DataW H)} {p : List MemPlace} {b : Nat} {sp : Nat → Bool} {hd : Bool}, DataW.TrodAll enc P W b sp hd ts vs ds p → ds.length = ts.length := by
  intro ts
  induction ts with
  | nil => intro vs ds p b sp hd h; obtain ⟨rfl, rfl, rfl⟩ := trodAll_nil h; rfl
  | cons t ts ih => intro vs ds p b sp hd h; obtain ⟨v, vs', d, ds', p1, p2, rfl, rfl, rfl, h1, h2⟩ := trodAll_cons h; simp [ih h2]
end

section
variable {H : Type} {enc : TypeId × Value → H} {P : Program} {w : World} {base : Nat} {spare : Nat → Bool} {held : Bool}
theorem list_choose {α β : Type} {g : β → α} {Q : β → Prop} : ∀ {l : List α} {n : Nat}, l.length = n → (∀ i, i < n → ∃ b, l[i]? = some (g b) ∧ Q b) → ∃ bs : List β, l = bs.map g ∧ bs.length = n ∧ ∀ x ∈ bs, Q x := by
  intro l
  induction l with
  | nil => intro n hn _; exact ⟨[], rfl, hn, fun x hx => nomatch hx⟩
  | cons a l ih =>
    intro n hn h
    subst hn
    obtain ⟨b, h1, h2⟩ := h 0 (by simp)
    obtain ⟨bs, h3, h4, h5⟩ := ih rfl (fun i hi => by simpa using h (i + 1) (by simp; omega))
    refine ⟨b :: bs, ?_, by simp [h4], fun x hx => ?_⟩
    · simp only [List.getElem?_cons_zero, Option.some.injEq] at h1
      rw [h1, h3]; rfl
    · cases hx with
      | head => exact h2
      | tail _ hx => exact h5 x hx
end
end Go.Sx
/- Arguments opened: what a given argument's cells hold, out of the reading that the row gives. -/
namespace Go.Sx
open Go.ChangeShapes Go.WideShapes Go.ChangeAt Go.RowKit
set_option linter.unusedVariables false

section
variable {H : Type} {enc : TypeId × Value → H} {P : Program} {w : World} {base : Nat} {spare : Nat → Bool} {held : Bool}
/-- One cell of a type, read. -/
def Leaf (enc : TypeId × Value → H) (P : Program) (w : World) (base : Nat) (spare : Nat → Bool) (held : Bool) (t : TypeId) (v : Value) : Prop := ∃ m y, DataW.trod enc P w base spare held m t [v] = some y
def All2 (enc : TypeId × Value → H) (P : Program) (w : World) (base : Nat) (spare : Nat → Bool) (held : Bool) : List TypeId → List Value → Prop
  | [], [] => True
  | t :: ts, v :: vs => Leaf enc P w base spare held t v ∧ All2 enc P w base spare held ts vs
  | _, _ => False
theorem All2.append : ∀ {l1 : List TypeId} {c1 : List Value} {l2 : List TypeId} {c2 : List Value}, All2 enc P w base spare held l1 c1 → All2 enc P w base spare held l2 c2 → All2 enc P w base spare held (l1 ++ l2) (c1 ++ c2)
  | [], [], _, _, _, h => h
  | [], _ :: _, _, _, h, _ => h.elim
  | _ :: _, [], _, _, h, _ => h.elim
  | t :: ts, v :: vs, _, _, h, k => ⟨h.1, All2.append h.2 k⟩
theorem leaf_int {t : TypeId} {k : IntKind} {v : Value} (ht : P.underlying t = some (.int k)) (h : Leaf enc P w base spare held t v) : ∃ n, v = .int k n ∧ (Lit.int k n).wf = true := by
  obtain ⟨m, y, h⟩ := h
  cases m with
  | zero => simp [DataW.trod] at h
  | succ m =>
    unfold DataW.trod at h
    rw [ht] at h
    split at h <;> simp_all
theorem leaf_float {t : TypeId} {k : FloatKind} {v : Value} (ht : P.underlying t = some (.float k)) (h : Leaf enc P w base spare held t v) : ∃ n, v = .float k n ∧ (Lit.float k n).wf = true := by
  obtain ⟨m, y, h⟩ := h
  cases m with
  | zero => simp [DataW.trod] at h
  | succ m =>
    unfold DataW.trod at h
    rw [ht] at h
    split at h <;> simp_all
/-- A slice's cells as values. -/
structure Slc (enc : TypeId × Value → H) (P : Program) (w : World) (base : Nat) (spare : Nat → Bool) (held : Bool) (e : TypeId) (b : Option Addr) (l c : Nat) (vs : List Value) : Prop where
  le : l ≤ c
  max : c ≤ maxLen
  len : vs.length = l * P.cellsOf e
  cells : ∀ i, i < vs.length → ∃ a, b = some a ∧ cell w.heap (a.add i) = vs[i]?
  elems : ∀ i, i < l → ∃ m y, DataW.trod enc P w base spare held m e ((vs.drop (i * P.cellsOf e)).take (P.cellsOf e)) = some y
theorem add_add (a : Addr) (i j : Nat) : (a.add i).add j = a.add (i + j) := by
  unfold Addr.add
  by_cases h1 : i = 0
  · subst h1; simp
  · by_cases h2 : j = 0
    · subst h2; simp
    · simp [h1, h2, Nat.add_assoc]
theorem leaf_slice {t e : TypeId} {v : Value} (ht : P.underlying t = some (.slice e)) (h : Leaf enc P w base spare held t v) : ∃ b l c vs, v = .slice b l c ∧ (b = none → l = 0 ∧ c = 0) ∧ Slc enc P w base spare held e b l c vs := by
  obtain ⟨m, y, h⟩ := h
  cases m with
  | zero => simp [DataW.trod] at h
  | succ m =>
    unfold DataW.trod at h
    rw [ht] at h
    split at h <;> try (simp_all; done)
    · next e1 e2 =>
      cases e1
      simp at e2
      subst e2
      exact ⟨none, 0, 0, [], rfl, fun _ => ⟨rfl, rfl⟩, ⟨Nat.le_refl _, Nat.zero_le _, by simp, fun i hi => by simp at hi, fun i hi => by omega⟩⟩
    · next e x l c e1 e2 =>
      cases e1
      obtain rfl : v = .slice (some x) l c := by simpa using e2
      split at h
      · next hc =>
        obtain ⟨h1, h2, h3⟩ := hc
        cases hm : (List.range l).mapM (fun i => (w.cells? base (x.add (i * P.cellsOf e)) (P.cellsOf e)).bind (DataW.trod enc P w base spare held m e)) with
        | none => simp only [hm] at h; simp at h
        | some els =>
          have hl := mapM_some_length hm
          simp at hl
          have hel : ∀ i, i < l → ∃ cs y, w.cells? base (x.add (i * P.cellsOf e)) (P.cellsOf e) = some cs ∧ DataW.trod enc P w base spare held m e cs = some y := by
            intro i hi
            have := mapM_some_get hm i i (by simp [hi])
            rw [List.getElem?_eq_getElem (by omega)] at this
            obtain ⟨cs, h4, h5⟩ := Option.bind_eq_some_iff.1 this
            exact ⟨cs, _, h4, h5⟩
          have hsz : ∀ j, j < l * P.cellsOf e → ∃ v, cell w.heap (x.add j) = some v := by
            intro j hj
            have hp : 0 < P.cellsOf e := by
              rcases Nat.eq_zero_or_pos (P.cellsOf e) with h0 | h0
              · rw [h0] at hj; omega
              · exact h0
            have hi : j / P.cellsOf e < l := (Nat.div_lt_iff_lt_mul hp).2 hj
            obtain ⟨cs, y, h4, h5⟩ := hel _ hi
            obtain ⟨_, h6, h7⟩ := World.cells?_some h4
            have h8 := h7 (j % P.cellsOf e) (Nat.mod_lt _ hp)
            rw [add_add, Nat.div_add_mod' j] at h8
            rw [cell_eq] at h8
            rw [h8, List.getElem?_eq_getElem (by rw [h6]; exact Nat.mod_lt _ hp)]
            exact ⟨_, rfl⟩
          refine ⟨some x, l, c, (List.range (l * P.cellsOf e)).map fun j => (cell w.heap (x.add j)).getD undef, rfl, (fun h => by cases h), ⟨h2, h3, by simp, fun i hi => ⟨x, rfl, ?_⟩, fun i hi => ?_⟩⟩
          · simp at hi
            obtain ⟨v, hv⟩ := hsz i hi
            simp [hi, hv]
          · obtain ⟨cs, y, h4, h5⟩ := hel i hi
            refine ⟨m, y, ?_⟩
            rw [← h5]
            obtain ⟨_, h6, h7⟩ := World.cells?_some h4
            congr 1
            have hb : i * P.cellsOf e + P.cellsOf e ≤ l * P.cellsOf e := by
              have := Nat.mul_le_mul_right (P.cellsOf e) (show i + 1 ≤ l by omega)
              rwa [Nat.add_mul, Nat.one_mul] at this
            apply List.ext_getElem?
            intro j
            by_cases hj : j < P.cellsOf e
            · rw [List.getElem?_take_of_lt hj, List.getElem?_drop, ← h7 j hj, cell_eq, add_add]
              obtain ⟨v, hv⟩ := hsz (i * P.cellsOf e + j) (by omega)
              have : i * P.cellsOf e + j < l * P.cellsOf e := by omega
              simp [this, hv]
            · rw [List.getElem?_eq_none (by simp; omega), List.getElem?_eq_none (by omega)]
      · cases h
theorem open_slice {r : _root_.Go.Reach} {b0 : Nat} {t e : TypeId} {v : Value} {d : DataW H} {ps : List MemPlace} (ht : P.underlying t = some (.slice e)) (hval : Value.okWide P w r b0 t v) (hd : DataW.Trod enc P w base spare held t v d ps) :
    ∃ b l c vs, v = .slice b l c ∧ (b = none → l = 0 ∧ c = 0) ∧ Slc enc P w base spare held e b l c vs := by
  obtain ⟨a, l, c, rfl⟩ := okWide_slice ht hval
  obtain ⟨m, h⟩ := hd
  exact leaf_slice ht ⟨m, _, h⟩
/-- Cells that are all of one kind of number. -/
theorem All2.ints {k : IntKind} : ∀ {ls : List TypeId} {cs : List Value}, (∀ t ∈ ls, P.underlying t = some (.int k)) → All2 enc P w base spare held ls cs → ∃ zs : List Int, cs = zs.map (.int k) ∧ zs.length = ls.length ∧ ∀ n ∈ zs, (Lit.int k n).wf = true
  | [], [], _, _ => ⟨[], rfl, rfl, fun _ h => nomatch h⟩
  | [], _ :: _, _, h => h.elim
  | _ :: _, [], _, h => h.elim
  | t :: ts, v :: vs, ht, h => by
    obtain ⟨n, rfl, hn⟩ := leaf_int (ht t (.head _)) h.1
    obtain ⟨zs, rfl, hl, hz⟩ := All2.ints (fun t h => ht t (.tail _ h)) h.2
    refine ⟨n :: zs, rfl, by simp [hl], fun x hx => ?_⟩
    cases hx with
    | head => exact hn
    | tail _ hx => exact hz x hx
theorem All2.floats {k : FloatKind} : ∀ {ls : List TypeId} {cs : List Value}, (∀ t ∈ ls, P.underlying t = some (.float k)) → All2 enc P w base spare held ls cs → ∃ zs : List Nat, cs = zs.map (.float k) ∧ zs.length = ls.length ∧ ∀ n ∈ zs, (Lit.float k n).wf = true
  | [], [], _, _ => ⟨[], rfl, rfl, fun _ h => nomatch h⟩
  | [], _ :: _, _, h => h.elim
  | _ :: _, [], _, h => h.elim
  | t :: ts, v :: vs, ht, h => by
    obtain ⟨n, rfl, hn⟩ := leaf_float (ht t (.head _)) h.1
    obtain ⟨zs, rfl, hl, hz⟩ := All2.floats (fun t h => ht t (.tail _ h)) h.2
    refine ⟨n :: zs, rfl, by simp [hl], fun x hx => ?_⟩
    cases hx with
    | head => exact hn
    | tail _ hx => exact hz x hx
theorem Slc.ints {e : TypeId} {k : IntKind} {b : Option Addr} {l c : Nat} {vs : List Value} (he : P.underlying e = some (.int k)) (hc : P.cellsOf e = 1) (S : Slc enc P w base spare held e b l c vs) :
    ∃ xs : List Int, vs = xs.map (.int k) ∧ xs.length = l ∧ ∀ n ∈ xs, (Lit.int k n).wf = true := by
  refine list_choose (by rw [S.len, hc, Nat.mul_one]) fun i hi => ?_
  obtain ⟨m, y, h⟩ := S.elems i hi
  have hl : i < vs.length := by rw [S.len, hc, Nat.mul_one]; exact hi
  rw [hc, Nat.mul_one, List.drop_eq_getElem_cons hl] at h
  obtain ⟨n, h1, h2⟩ := leaf_int he ⟨m, y, h⟩
  exact ⟨n, by rw [List.getElem?_eq_getElem hl, h1], h2⟩
theorem Slc.floats {e : TypeId} {k : FloatKind} {b : Option Addr} {l c : Nat} {vs : List Value} (he : P.underlying e = some (.float k)) (hc : P.cellsOf e = 1) (S : Slc enc P w base spare held e b l c vs) :
    ∃ xs : List Nat, vs = xs.map (.float k) ∧ xs.length = l ∧ ∀ n ∈ xs, (Lit.float k n).wf = true := by
  refine list_choose (by rw [S.len, hc, Nat.mul_one]) fun i hi => ?_
  obtain ⟨m, y, h⟩ := S.elems i hi
  have hl : i < vs.length := by rw [S.len, hc, Nat.mul_one]; exact hi
  rw [hc, Nat.mul_one, List.drop_eq_getElem_cons hl] at h
  obtain ⟨n, h1, h2⟩ := leaf_float he ⟨m, y, h⟩
  exact ⟨n, by rw [List.getElem?_eq_getElem hl, h1], h2⟩
end
end Go.Sx
/- From what a law's call answers to the given row and its tied card, where the row lists variables: what they read as is not looked at. -/
namespace Go.Sx
open Go.ChangeShapes Go.WideShapes Go.ChangeAt Go.RowKit
set_option linter.unusedVariables false
/-- Where no function starts a goroutine, no row's call does. -/
theorem goes_none {P : Program} (h : P.funcs.any Func.goes = false) {c : OpenClaim} (hs : c.start = .entering) : false = c.goesBy P := by
  have h1 : ∀ g : Nat, (P.funcs[g]?).any Func.goes = false := fun g => by
    cases e : P.funcs[g]? with
    | none => rfl
    | some fn =>
      rw [Option.any_some]
      rw [Array.any_eq_false] at h
      obtain ⟨hg, e2⟩ := Array.getElem?_eq_some_iff.1 e
      have := h g hg
      rw [e2] at this
      simpa using this
  have h2 : ∀ f, P.goes f = false := fun f => by
    unfold Program.goes
    rw [h, Bool.and_false, Bool.or_false, List.any_eq_false]
    intro g _
    rw [h1 g]; decide
  unfold OpenClaim.goesBy Program.goesAt Program.goesFrom
  rw [hs]
  cases P.funcNamed c.func with
  | none => rfl
  | some f => rw [Option.any_some, h2 f]; rfl
/-- The row's facts, one by one. -/
theorem joined_of {P : Program} {f : FuncId} {fn : Func} {s : ChangeSpec} {c : OpenClaim} (h1 : laidOutB P = true) (h2 : mapsRowed P = true) (h3 : (P.stops == []) = true) (h4 : (P.stopKnobs == []) = true) (h5 : (c.inPlace == P.inPlace f) = true) (h6 : (c.unfollowed == P.unfollowed f) = true)
    (h7 : (c.recurses == P.recurses f) = true) (h8 : (c.named == P.varsNamed f) = true) (h9 : (c.plainKeys == P.plainKeys) = true) (h10 : P.stopsHeard = true) (h11 : P.mayEnter = true) (h12 : (c.lifted == P.liftsFinal) = true) (h13 : (P.make == some c.make) = true)
    (hv : s.vars = [])
    (rest : (c.wf (OpenSpec.ofChange s) && fn.params.all (P.readableRec ·) && namedTie P c.named [] && (c.stops == []) && (c.knobs == []) && (c.maps == (fn.params.toList ++ []).any (P.mapsRec ·)) && (c.ifaces == (fn.params.toList ++ []).any (P.ifacesRec ·)) && (c.mapsOut == P.mapsAmong fn.resultTypes.toList) &&
      (c.loops == (fn.params.toList ++ []).any (P.loopsFrom ·)) && (c.wideKeys == (fn.params.toList ++ [] ++ fn.resultTypes.toList).any (P.wideKeysFrom ·)) && fn.resultTypes.all (fun t => P.readableRec t && decide (t < P.types.size)) && (c.ifacesOut == fn.resultTypes.toList.any (P.ifacesRec ·)) && (c.loopsOut == fn.resultTypes.toList.any (P.loopsFrom ·)) &&
      c.shortTexts.isNone && (c.kinds == (if c.domain.isEmpty then [] else fn.params.toList.map fun t => match P.underlying t with | some (.int k) => some k | _ => none)) && (c.pinned == c.pinnedBy) && (c.veiled == (fn.params.toList ++ [] ++ fn.resultTypes.toList).any (P.veiledRec ·)) && c.veiledFits P fn.params.toList (fn.params.toList ++ [] ++ fn.resultTypes.toList)) = true) :
    joinedFacts P f fn s c = true := by
  have ht : s.plain.varTypes P = [] := by
    unfold DataSpec.varTypes ChangeSpec.plain
    rw [hv]; rfl
  have ha : (s.vars.all (P.varReadable ·)) = true := by rw [hv]; rfl
  simp only [Bool.and_eq_true] at rest
  obtain ⟨⟨⟨⟨⟨⟨⟨⟨⟨⟨⟨⟨⟨⟨⟨⟨⟨r1, r2⟩, r3⟩, r4⟩, r5⟩, r6⟩, r7⟩, r8⟩, r9⟩, r10⟩, r11⟩, r12⟩, r13⟩, r14⟩, r15⟩, r16⟩, r17⟩, r18⟩ := rest
  unfold joinedFacts
  rw [ht]
  simp only [Bool.and_eq_true]
  rw [← hv] at r3
  and_intros <;> assumption
end Go.Sx
