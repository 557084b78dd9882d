/- A room's step, as the program makes it. -/
import Derived.Test.YtkgmfiloghhibaaGreatDoorLk8
import Derived.Test.YtkgmfiloghhibaaGreatDoorK0
import Derived.Test.YtkgmfiloghhibaaGreatDoorLg
import Derived.MapKept
import Derived.Test.YtkgmfiloghhibaaGreatDoorTabE
set_option linter.unusedVariables false
set_option linter.unusedSimpArgs false
namespace Go.Sx
open Go.Proofs
set_option maxRecDepth 100000

/-- Four floats, wherever they lie. -/
def F4 (cs : Array Value) (xs : List Nat) : Prop := (rArr 4 (rF .f32)).rd #[] cs.toList xs
theorem F4.rd {cs : Array Value} {xs : List Nat} (R : F4 cs xs) (h : Heap) : (rArr 4 (rF .f32)).rd h cs.toList xs := ⟨R.1, rdsF_any R.2⟩
theorem F4.of {cs : Array Value} {xs : List Nat} {h : Heap} (R : (rArr 4 (rF .f32)).rd h cs.toList xs) : F4 cs xs := ⟨R.1, rdsF_any R.2⟩
theorem F4.size {cs : Array Value} {xs : List Nat} (R : F4 cs xs) : cs.size = 4 := rsz R rfl
def zeros4 : List Nat := [0, 0, 0, 0]
theorem F4.zero : F4 ⟨[.float .f32 0, .float .f32 0, .float .f32 0, .float .f32 0]⟩ zeros4 := four_rd fw0 fw0 fw0 fw0
section
variable {h0 h : Heap} {q : Addr} {F : Fr} {L : List Blk} {x a : Nat}
theorem Pt.blkF {α : Type} {r : Rep α} {d : α} {g T i y b : Nat} {cs : Array Value} {xs : List Nat} {L' : List Blk} {K : Heap → Prop} (P : Pt r h0 h q F L d) (l : Look L g cs) (k : Pick L g T cs L') (R : F4 cs xs) (hi : i < 4) (hy : FW .f32 y b)
    (H : ∀ h' cs', F4 cs' (xs.set i b) → Pt r h0 h' q F ((g, T, cs') :: L') d → K h') : ST1 h ((⟨g, 0, none⟩ : Addr).add (i * 1)) (.float .f32 y) K := by
  rw [add_none, Nat.zero_add]
  refine P.blk1 l (by rw [R.size]; omega) k fun h' P' => H h' _ ?_ P'
  rw [Nat.mul_one]
  exact arr_set hy R
theorem Look.oF {g i : Nat} {cs : Array Value} {xs : List Nat} {K : Nat → Prop} (l : Look L g cs) (M : Mem h0 h L) (R : F4 cs xs) (hi : i < 4) (H : ∀ y, FW .f32 y xs[i]! → K y) : oF .f32 (cell h ((⟨g, 0, none⟩ : Addr).add (i * 1))) K :=
  ((M.rdp l (R.rd h)).elem (i := i) hi).oF1 H
def GRoom.earlyL (x : GRoom) : List GTap → Nat
  | [] => 0
  | t :: ts => ts.foldl (fun m t => fadd .f32 m (fmul .f32 t.Gain (x.Early.back t.Back))) (fmul .f32 t.Gain (x.Early.back t.Back))
theorem early_eq (x : GRoom) : x.early = x.earlyL x.Taps := by unfold GRoom.early GRoom.earlyL; rfl
theorem earlyL_snoc (x : GRoom) {ts : List GTap} (h : ts ≠ []) (t : GTap) : x.earlyL (ts ++ [t]) = fadd .f32 (x.earlyL ts) (fmul .f32 t.Gain (x.Early.back t.Back)) := by
  cases ts with
  | nil => exact absurd rfl h
  | cons u us => simp [GRoom.earlyL, List.foldl_append]
theorem early_step {x : GRoom} {n : Nat} (hn : n < x.Taps.length) : x.earlyL (x.Taps.take (n + 1)) = if n = 0 then fmul .f32 x.Taps[n]!.Gain (x.Early.back x.Taps[n]!.Back) else fadd .f32 (x.earlyL (x.Taps.take n)) (fmul .f32 x.Taps[n]!.Gain (x.Early.back x.Taps[n]!.Back)) := by
  rw [take_snoc hn]
  split
  · next e => subst e; simp [GRoom.earlyL]
  · next e =>
    refine earlyL_snoc x ?_ _
    intro e2
    have := congrArg List.length e2
    rw [List.length_take] at this
    simp only [List.length_nil] at this; omega
/-- What a step of a room leaves. -/
def RStep (h0 h' : Heap) (q : Addr) (F : Fr) (L : List Blk) (x : GRoom) (a : Nat) (u : Value) : Prop := (∃ y, u = .float .f32 y ∧ FW .f32 y (x.step a).2) ∧ Pt rRoom h0 h' q F L (x.step a).1
section
variable (x : GRoom) (a : Nat)
def GRoom.c0 : GComb × Nat := x.Combs[0]!.step (fadd .f32 a x.early)
def GRoom.c1 : GComb × Nat := x.Combs[1]!.step (x.c0 a).2
def GRoom.fo (i : Nat) : Nat := x.Loops[i]!.old
def GRoom.fg (i : Nat) : GFilter × Nat := x.Damps[i]!.step (fmul .f32 x.Gains[i]! (x.fo i))
def GRoom.hs : List Nat := mixFour ((List.range 4).map fun i => (x.fg i).2)
def GRoom.fl (i : Nat) : GRing := x.Loops[i]!.push (kept (fadd .f32 (x.c1 a).2 x.hs[i]!))
def GRoom.s1 : GRoom := { x with Early := x.Early.push (kept a), Combs := [(x.c0 a).1, (x.c1 a).1] }
def GRoom.s2 (n : Nat) : GRoom := { x.s1 a with Damps := mapI (fun i => (x.fg i).1) x.Damps n }
def GRoom.s3 (n : Nat) : GRoom := { x.s2 a 4 with Loops := mapI (x.fl a) x.Loops n }
def GRoom.sv : Nat := fadd .f32 (fmul .f32 x.Dry a) (fmul .f32 x.Wet (fadd .f32 (fadd .f32 (x.fo 0) (x.fo 1)) (fadd .f32 (x.fo 2) (x.fo 3))))
end
theorem map_old {x : GRoom} (hL : x.Loops.length = 4) {i : Nat} (hi : i < 4) : (x.Loops.map GRing.old)[i]! = x.fo i := by
  rw [getElem!_pos _ i (by rw [List.length_map]; omega), List.getElem_map]
  unfold GRoom.fo
  rw [getElem!_pos _ i (by omega)]
theorem step_eq {x : GRoom} (R : x.Runs) (a : Nat) : x.step a = (x.s3 a 4, x.sv a) := by
  have hL := R.l4
  have hg : ((List.range 4).map fun i => x.Damps[i]!.step (fmul .f32 x.Gains[i]! (x.Loops.map GRing.old)[i]!)) = (List.range 4).map x.fg := by
    refine List.map_congr_left fun i hi => ?_
    rw [map_old hL (List.mem_range.1 hi)]; rfl
  unfold GRoom.step
  simp only []
  rw [hg, map_old hL (by decide), map_old hL (by decide), map_old hL (by decide), map_old hL (by decide)]
  unfold GRoom.s3 GRoom.s2 GRoom.s1 GRoom.sv
  rw [mapI_all (by rw [R.d4]; exact Nat.le_refl _), mapI_all (by rw [R.l4]; exact Nat.le_refl _), R.d4, R.l4, List.map_map, List.map_map]
  rfl
theorem s3_zero (x : GRoom) (a : Nat) : x.s3 a 0 = x.s2 a 4 := by unfold GRoom.s3; rw [mapI_zero]; rfl
theorem s2_zero (x : GRoom) (a : Nat) : x.s2 a 0 = x.s1 a := by unfold GRoom.s2; rw [mapI_zero]; rfl
theorem s2_step {x : GRoom} {a n : Nat} (h : n < x.Damps.length) : { x.s2 a n with Damps := (x.s2 a n).Damps.set n (x.fg n).1 } = x.s2 a (n + 1) := by
  show { x.s1 a with Damps := (mapI (fun i => (x.fg i).1) x.Damps n).set n ((fun i => (x.fg i).1) n) } = _
  rw [mapI_set h]; rfl
theorem s3_step {x : GRoom} {a n : Nat} (h : n < x.Loops.length) : { x.s3 a n with Loops := (x.s3 a n).Loops.set n (x.fl a n) } = x.s3 a (n + 1) := by
  show { x.s2 a 4 with Loops := (mapI (x.fl a) x.Loops n).set n (x.fl a n) } = _
  rw [mapI_set h]; rfl
theorem hs_eq (x : GRoom) : mixFour (mapI (fun i => (x.fg i).2) zeros4 4) = x.hs := by rw [mapI_all (by decide)]; rfl
theorem dist4 {n : Nat} (f : Nat → Nat) (h : n < 4) : (mapI f zeros4 n).set n (f n) = mapI f zeros4 (n + 1) := mapI_set h
end
end Go.Sx
/- How long a room sounds: told by the rings' zeros, and by runs kept beside them. -/
set_option linter.unusedVariables false
set_option linter.unusedSimpArgs false
namespace Go.Sx
open Go.Proofs
theorem zeroR_eq {x : GRoom} (c2 : x.Combs.length = 2) (l4 : x.Loops.length = 4) : x.zeroR = (List.range 7).all fun i => (getR x i).zero := by
  obtain ⟨a, b, e1⟩ := is2 c2
  obtain ⟨c, d, e, f, e2⟩ := is4 l4
  obtain ⟨E, T, C, Lo, D, G, dr, we⟩ := x
  subst e1 e2
  show (E.zero && [a, b].all (fun c => c.Ring.zero) && [c, d, e, f].all GRing.zero) = [0, 1, 2, 3, 4, 5, 6].all _
  simp only [List.all_cons, List.all_nil, Bool.and_true, getR]
  show _ = (E.zero && (a.Ring.zero && (b.Ring.zero && (c.zero && (d.zero && (e.zero && f.zero))))))
  simp only [Bool.and_assoc]
theorem getR_ok {x : GRoom} (R : x.Runs) {i : Nat} (hi : i < 7) : (getR x i).ok = true := by
  have hC := R.c2
  have hL := R.l4
  unfold getR
  split
  · exact R.e
  · split
    · exact R.c _ (mem_get (by omega))
    · exact R.l _ (mem_get (by omega))
end Go.Sx
/- Two more small functions over floats. -/
set_option linter.unusedVariables false
set_option linter.unusedSimpArgs false
namespace Go.Sx
open Go.Proofs Ieee
set_option maxRecDepth 100000
section
variable {x y a b : Nat}
theorem SameSample_c (hx : FW .f32 x a) (hy : FW .f32 y b) : Ret prg f_impl_SameSample #[.float .f32 x, .float .f32 y] (.bool (a == b)) := fun h => by
  refine impl_SameSample.call ((bitsOf_c hx).go fun h1 x1 => as_i ((bitsOf_c hy).go fun h2 x2 => as_i ⟨?_, x1.trans x2⟩))
  congr 1
  rw [Bool.eq_iff_iff, beq_iff_eq, beq_iff_eq]
  omega
def inside (a l r : Nat) : Bool := fge .f32 a l && fle .f32 a r
end
end Go.Sx
/- What pipes do, plain. -/
set_option linter.unusedVariables false
set_option linter.unusedSimpArgs false
namespace Go.Sx
def one32 : Nat := 1065353216
def neg32 : Nat := 3212836864
def GPipe.n (x : GPipe) : Nat := x.Right.length
def GPipe.d (x : GPipe) (b : Nat) : Nat := fsub .f32 x.Left[0]!.old b
def GPipe.t (x : GPipe) (i : Nat) : Nat := fmul .f32 x.Scatter[i]! (fsub .f32 x.Right[i]!.old x.Left[i + 1]!.old)
def GPipe.e (x : GPipe) : GFilter × Nat := x.End.step x.Right[x.n - 1]!.old
def GPipe.back (x : GPipe) : Nat := let b := fmul .f32 x.Loss x.e.2; if x.Open then fneg .f32 b else b
def GPipe.reed (x : GPipe) (d : Nat) : Nat := clamp (fadd .f32 x.Rest (fmul .f32 x.Slope d)) one32
def GPipe.rt (x : GPipe) (b : Nat) (i : Nat) : GRing := x.Right[i]!.push (kept (if i = 0 then fadd .f32 b (fmul .f32 (x.d b) (x.reed (x.d b))) else fadd .f32 x.Right[i - 1]!.old (x.t (i - 1))))
def GPipe.lf (x : GPipe) (i : Nat) : GRing := x.Left[i]!.push (kept (if i = x.n - 1 then x.back else fadd .f32 x.Left[i + 1]!.old (x.t i)))
/-- A step: the pipe behind it, and what comes out. -/
def GPipe.step (x : GPipe) (b : Nat) : GPipe × Nat := ({ x with Right := (List.range x.n).map (x.rt b), Left := (List.range x.n).map x.lf, End := x.e.1 }, x.e.2)
def GPipe.ok (x : GPipe) : Bool :=
  inR x.n 1 3 && decide (x.Left.length = x.n) && decide (x.Scatter.length + 1 = x.n) && x.Right.all GRing.okf && x.Left.all GRing.okf && ((List.range x.n).all fun i => x.Right[i]!.Samples.length == x.Left[i]!.Samples.length) &&
    (x.Scatter.all fun k => inside k neg32 one32) && x.End.ok && (x.End.Kind == 1) && fin x.Loss && fin x.Rest && fin x.Slope
def GPipe.play (x : GPipe) : List Nat → GPipe × List Nat
  | [] => (x, [])
  | a :: l => let y := x.step a; let r := y.1.play l; (r.1, y.2 :: r.2)
end Go.Sx
/- Maps whose keys are integers: made, looked up, updated, counted. -/
set_option linter.unusedVariables false
set_option linter.unusedSimpArgs false
namespace Go.Sx
open Go.MapKept

def encM (p : Int × Value) : Value × Value := (.int .i64 p.1, p.2)
def pairM (e : MapEntry) : Value × Value := (e.key, e.val)
/-- In block g lies a map with these entries, in this order. -/
def MapI (h : Heap) (g : Nat) (m : List (Int × Value)) : Prop := ∃ (es : Array MapEntry) (clock : Nat), h[g]? = some (.map es clock) ∧ es.toList.map pairM = m.map encM
section
variable {P : Program} {h hb : Heap} {g : Nat} {m : List (Int × Value)} {t k e : TypeId} {K : Value → Heap → Prop}
theorem MapI.ext {h' : Heap} (M : MapI h g m) (x : Ext h h') : MapI h' g m := by
  obtain ⟨es, c, e1, e2⟩ := M
  have hlt : g < h.size := (Array.getElem?_eq_some_iff.1 e1).1
  exact ⟨es, c, by rw [x.2 g hlt]; exact e1, e2⟩
end
end Go.Sx
/- Events of notes, plainly: which lists of events are good; that two ways of asking it agree. -/
set_option linter.unusedVariables false
set_option linter.unusedSimpArgs false
namespace Go.Sx

/-- Lists of numbers ordered by their first difference. -/
def lt4 : List Int → List Int → Bool
  | a :: els, b :: bs => if a = b then lt4 els bs else decide (a < b)
  | _, _ => false
theorem lt4_cons {a b : Int} {els bs : List Int} : lt4 (a :: els) (b :: bs) = true ↔ a < b ∨ a = b ∧ lt4 els bs = true := by
  rw [lt4]
  split
  · next e =>
    subst e
    constructor
    · exact fun h => .inr ⟨rfl, h⟩
    · rintro (h | h)
      · omega
      · exact h.2
  · next e =>
    rw [decide_eq_true_iff]
    constructor
    · exact .inl
    · rintro (h | h)
      · exact h
      · exact absurd h.1 e
theorem lt4_irrefl : ∀ l : List Int, lt4 l l = false
  | [] => rfl
  | a :: l => by rw [lt4, if_pos rfl]; exact lt4_irrefl l
theorem lt4_trans : ∀ {a b c : List Int}, lt4 a b = true → lt4 b c = true → lt4 a c = true
  | [], _, _, h, _ => by cases h
  | _ :: _, [], _, h, _ => by simp [lt4] at h
  | _ :: _, _ :: _, [], _, h => by simp [lt4] at h
  | x :: a, y :: b, z :: c, h1, h2 => by
    rw [lt4_cons] at *
    rcases h1 with h1 | ⟨rfl, h1⟩ <;> rcases h2 with h2 | ⟨rfl, h2⟩
    · exact .inl (by omega)
    · exact .inl h1
    · exact .inl h2
    · exact .inr ⟨rfl, lt4_trans h1 h2⟩
def isSt (e : GEvent) : Bool := e.Kind == 2
def isSp (e : GEvent) : Bool := e.Kind == 1
def evPart (ni : Int) (e : GEvent) : Bool :=
  inR e.At 0 100000 && (if e.Kind = 1 then e.Instrument == 0 && e.Key == 0 && e.Force == 0 else e.Kind == 2 && inR e.Instrument 0 (ni - 1) && inR e.Key (-100) 100 && fin e.Force)
def startEv (es : List GEvent) (note : Int) : Option GEvent := es.find? fun e => isSt e && e.Note == note
/-- The time at which a note starts, or -1. -/
def startAt (es : List GEvent) (note : Int) : Int := match startEv es note with | some e => e.At | none => -1
def keyL (late : Bool) (e : GEvent) : List Int := [e.At, if late then 0 else 1, e.Note, if e.Kind = 1 then 1 else 0]
def keyOf (es : List GEvent) (e : GEvent) : List Int := keyL (isSp e && decide (startAt es e.Note < e.At)) e
structure EvGood (es : List GEvent) (ni : Int) : Prop where
  even : es.length = 2 * (es.length / 2)
  most : es.length / 2 ≤ 64
  part : ∀ i, i < es.length → evPart ni es[i]! = true
  note : ∀ i, i < es.length → 0 ≤ es[i]!.Note ∧ es[i]!.Note < (es.length / 2 : Nat)
  st1 : ∀ i j, i < es.length → j < es.length → isSt es[i]! = true → isSt es[j]! = true → es[i]!.Note = es[j]!.Note → i = j
  sp1 : ∀ i j, i < es.length → j < es.length → isSp es[i]! = true → isSp es[j]! = true → es[i]!.Note = es[j]!.Note → i = j
  pair : ∀ i, i < es.length → isSp es[i]! = true → ∃ j, j < es.length ∧ isSt es[j]! = true ∧ es[j]!.Note = es[i]!.Note ∧ es[j]!.At ≤ es[i]!.At
  ord : ∀ i, i + 1 < es.length → lt4 (keyOf es es[i]!) (keyOf es es[i + 1]!) = true
noncomputable def evOk (es : List GEvent) (ni : Int) : Bool := @decide (EvGood es ni) (Classical.propDecidable _)
theorem evOk_iff {es : List GEvent} {ni : Int} : evOk es ni = true ↔ EvGood es ni := by unfold evOk; exact @decide_eq_true_iff _ (Classical.propDecidable _)
section
variable {es : List GEvent} {ni : Int}
theorem chain (f : Nat → List Int) {n : Nat} (h : ∀ i, i + 1 < n → lt4 (f i) (f (i + 1)) = true) : ∀ {i j}, i < j → j < n → lt4 (f i) (f j) = true := by
  intro i j hij hj
  induction j with
  | zero => omega
  | succ j ih =>
    by_cases e : i = j
    · subst e; exact h i hj
    · exact lt4_trans (ih (by omega) (by omega)) (h j hj)
theorem kind_of {e : GEvent} (h : evPart ni e = true) : isSp e = true ∧ isSt e = false ∨ isSt e = true ∧ isSp e = false := by
  unfold evPart at h
  unfold isSp isSt
  rw [Bool.and_eq_true] at h
  by_cases hk : e.Kind = 1
  · rw [hk]; exact .inl ⟨rfl, rfl⟩
  · rw [if_neg hk] at h
    simp only [Bool.and_eq_true] at h
    have : e.Kind = 2 := by have := h.2.1.1.1; simpa using this
    rw [this]; exact .inr ⟨rfl, rfl⟩
/-- A start that is the only one of its note is the one that is found. -/
theorem start_of {j : Nat} (hj : j < es.length) (hs : isSt es[j]! = true) (h1 : ∀ i, i < es.length → isSt es[i]! = true → es[i]!.Note = es[j]!.Note → i = j) : startAt es es[j]!.Note = es[j]!.At := by
  unfold startAt startEv
  cases hf : es.find? fun e => isSt e && e.Note == es[j]!.Note with
  | none =>
    have := List.find?_eq_none.1 hf es[j]! (by rw [getElem!_pos es j hj]; exact List.getElem_mem hj)
    exact absurd (by rw [hs]; simp) this
  | some e =>
    have hm := List.mem_of_find?_eq_some hf
    have hp := List.find?_some hf
    obtain ⟨i, hi, rfl⟩ := List.mem_iff_getElem.1 hm
    simp only [Bool.and_eq_true, beq_iff_eq] at hp
    have := h1 i hi (by rw [getElem!_pos es i hi]; exact hp.1) (by rw [getElem!_pos es i hi]; exact hp.2)
    subst this
    show es[i].At = es[i]!.At
    rw [getElem!_pos es i hi]
theorem EvGood.before (G : EvGood es ni) {i j : Nat} (hi : i < es.length) (hj : j < es.length) (hs : isSt es[j]! = true) (hp : isSp es[i]! = true) (hn : es[j]!.Note = es[i]!.Note) : j < i := by
  obtain ⟨j', h1, h2, h3, h4⟩ := G.pair i hi hp
  obtain rfl : j' = j := G.st1 j' j h1 hj h2 hs (by rw [h3, hn])
  have hsa := start_of hj hs (fun i hi h e => G.st1 i j' hi hj h hs e)
  by_cases hlt : j' < i
  · exact hlt
  · exfalso
    have hsp : isSp es[j']! = false := by
      rcases kind_of (G.part j' hj) with h | h
      · rw [h.2] at hs; cases hs
      · exact h.2
    have hne : i ≠ j' := fun e => by subst e; rw [hp] at hsp; cases hsp
    have h5 := chain (fun k => keyOf es es[k]!) G.ord (i := i) (j := j') (by omega) hj
    have h6 : lt4 (keyOf es es[j']!) (keyOf es es[i]!) = true := by
      unfold keyOf keyL
      rw [hsp, hp, ← hn, hsa]
      have k1 : es[i]!.Kind = 1 := by unfold isSp at hp; simpa using hp
      have k2 : ¬ es[j']!.Kind = 1 := by unfold isSp at hsp; simpa using hsp
      rw [if_neg k2, if_pos k1]
      simp only [Bool.false_and, Bool.true_and]
      rw [lt4_cons]
      rcases Int.lt_or_eq_of_le h4 with h | h
      · exact .inl h
      · refine .inr ⟨h, ?_⟩
        rw [decide_eq_false (p := es[j']!.At < es[i]!.At) (by omega)]
        rw [lt4_cons]
        refine .inr ⟨rfl, ?_⟩
        rw [lt4_cons]
        refine .inr ⟨rfl, ?_⟩
        rw [lt4_cons]
        exact .inl (by decide)
    have := lt4_trans h5 h6
    rw [lt4_irrefl] at this
    cases this
/-- How many of the first i events are starts, or stops, of a note. -/
def cntB (p : GEvent → Bool) (es : List GEvent) (i : Nat) (note : Int) : Nat := (es.take i).countP fun e => p e && e.Note == note
theorem cntB_pos {p : GEvent → Bool} {i : Nat} (hi : i ≤ es.length) {note : Int} : 0 < cntB p es i note ↔ ∃ j, j < i ∧ p es[j]! = true ∧ es[j]!.Note = note := by
  unfold cntB
  rw [List.countP_pos_iff]
  constructor
  · rintro ⟨e, hm, hp⟩
    obtain ⟨j, hj, rfl⟩ := List.mem_iff_getElem.1 hm
    rw [List.length_take] at hj
    simp only [Bool.and_eq_true, beq_iff_eq, List.getElem_take] at hp
    exact ⟨j, by omega, by rw [getElem!_pos es j (by omega)]; exact hp.1, by rw [getElem!_pos es j (by omega)]; exact hp.2⟩
  · rintro ⟨j, hj, h1, h2⟩
    rw [getElem!_pos es j (by omega)] at h1 h2
    refine ⟨es[j]'(by omega), List.mem_iff_getElem.2 ⟨j, by rw [List.length_take]; omega, by rw [List.getElem_take]⟩, ?_⟩
    simp [h1, h2]
/-- What the rule asks of an event, the counts of those before it known. -/
structure StepS (es : List GEvent) (ni : Int) (i : Nat) : Prop where
  part : evPart ni es[i]! = true
  note : 0 ≤ es[i]!.Note ∧ es[i]!.Note < (es.length / 2 : Nat)
  st : isSt es[i]! = true → cntB isSp es i es[i]!.Note = 0 ∧ cntB isSt es i es[i]!.Note = 0
  sp : isSp es[i]! = true → 0 < cntB isSt es i es[i]!.Note ∧ cntB isSp es i es[i]!.Note = 0
theorem EvGood.stepS (G : EvGood es ni) {i : Nat} (hi : i < es.length) : StepS es ni i := by
  have z : ∀ {n : Nat}, ¬ 0 < n → n = 0 := fun h => by omega
  refine ⟨G.part i hi, G.note i hi, fun hs => ⟨?_, ?_⟩, fun hp => ⟨?_, ?_⟩⟩
  · refine z fun h => ?_
    obtain ⟨j, h1, h2, h3⟩ := (cntB_pos (by omega)).1 h
    have := G.before (i := j) (j := i) (by omega) hi hs h2 h3.symm
    omega
  · refine z fun h => ?_
    obtain ⟨j, h1, h2, h3⟩ := (cntB_pos (by omega)).1 h
    have := G.st1 j i (by omega) hi h2 hs h3
    omega
  · obtain ⟨j, h1, h2, h3, _⟩ := G.pair i hi hp
    exact (cntB_pos (by omega)).2 ⟨j, G.before hi h1 h2 hp h3, h2, h3⟩
  · refine z fun h => ?_
    obtain ⟨j, h1, h2, h3⟩ := (cntB_pos (by omega)).1 h
    have := G.sp1 j i (by omega) hi h2 hp h3
    omega
/-- The time of the last start of a note. -/
def ownA (es : List GEvent) (n : Int) : Option Int := ((es.filter isSt).reverse.find? fun e => e.Note == n).map (·.At)
theorem own_some {n a : Int} (h : ownA es n = some a) : ∃ j, j < es.length ∧ isSt es[j]! = true ∧ es[j]!.Note = n ∧ es[j]!.At = a := by
  unfold ownA at h
  cases hf : (es.filter isSt).reverse.find? fun e => e.Note == n with
  | none => rw [hf] at h; cases h
  | some e =>
    rw [hf] at h
    have ha : e.At = a := by simpa using h
    have hm := List.mem_of_find?_eq_some hf
    have hp := List.find?_some hf
    rw [List.mem_reverse, List.mem_filter] at hm
    obtain ⟨j, hj, rfl⟩ := List.mem_iff_getElem.1 hm.1
    have e := getElem!_pos es j hj
    exact ⟨j, hj, by rw [e]; exact hm.2, by rw [e]; simpa using hp, by rw [e]; exact ha⟩
theorem own_of {j : Nat} (hj : j < es.length) (hs : isSt es[j]! = true) : ∃ a, ownA es es[j]!.Note = some a := by
  unfold ownA
  cases hf : (es.filter isSt).reverse.find? fun e => e.Note == es[j]!.Note with
  | none =>
    have := List.find?_eq_none.1 hf es[j]! (by rw [List.mem_reverse, List.mem_filter]; exact ⟨by rw [getElem!_pos es j hj]; exact List.getElem_mem hj, hs⟩)
    simp at this
  | some e => exact ⟨_, rfl⟩
def lateM (es : List GEvent) (e : GEvent) : Bool := isSp e && (match ownA es e.Note with | some a => decide (a < e.At) | none => false)
def keyM (es : List GEvent) (e : GEvent) : List Int := keyL (lateM es e) e
/-- What the program asks of an event. -/
structure StepI (es : List GEvent) (ni : Int) (i : Nat) : Prop where
  part : evPart ni es[i]! = true
  note : 0 ≤ es[i]!.Note ∧ es[i]!.Note < (es.length / 2 : Nat)
  ord : 0 < i → lt4 (keyM es es[i - 1]!) (keyM es es[i]!) = true
  sp : isSp es[i]! = true → ∃ a, ownA es es[i]!.Note = some a ∧ a ≤ es[i]!.At ∧ ∀ j, j < i → isSp es[j]! = true → es[j]!.Note ≠ es[i]!.Note
theorem key_same (st1 : ∀ i j, i < es.length → j < es.length → isSt es[i]! = true → isSt es[j]! = true → es[i]!.Note = es[j]!.Note → i = j) {e : GEvent} (h : isSp e = true → ∃ a, ownA es e.Note = some a) : keyM es e = keyOf es e := by
  unfold keyM keyOf lateM
  cases hp : isSp e with
  | false => rfl
  | true =>
    obtain ⟨a, ha⟩ := h hp
    obtain ⟨j, h1, h2, h3, h4⟩ := own_some ha
    have hsa := start_of h1 h2 fun i hi hs hn => st1 i j hi h1 hs h2 hn
    rw [ha, ← h3, hsa, h4]
theorem EvGood.own (G : EvGood es ni) {i : Nat} (hi : i < es.length) (hp : isSp es[i]! = true) : ∃ a, ownA es es[i]!.Note = some a ∧ a ≤ es[i]!.At := by
  obtain ⟨j, h1, h2, h3, h4⟩ := G.pair i hi hp
  obtain ⟨a, ha⟩ := own_of h1 h2
  rw [h3] at ha
  obtain ⟨j', k1, k2, k3, k4⟩ := own_some ha
  obtain rfl := G.st1 j' j k1 h1 k2 h2 (by rw [k3, h3])
  exact ⟨a, ha, by rw [← k4]; exact h4⟩
theorem EvGood.stepI (G : EvGood es ni) {i : Nat} (hi : i < es.length) : StepI es ni i := by
  have hk : ∀ j, j < es.length → keyM es es[j]! = keyOf es es[j]! := fun j hj => key_same G.st1 fun hp => by
    obtain ⟨a, ha, _⟩ := G.own hj hp
    exact ⟨a, ha⟩
  refine ⟨G.part i hi, G.note i hi, fun h0 => ?_, fun hp => ?_⟩
  · rw [hk _ (by omega), hk _ hi]
    have := G.ord (i - 1) (by omega)
    rwa [show i - 1 + 1 = i by omega] at this
  · obtain ⟨a, ha, h2⟩ := G.own hi hp
    exact ⟨a, ha, h2, fun j hj hs hn => by have := G.sp1 j i (by omega) hi hs hp hn; omega⟩
end
end Go.Sx
