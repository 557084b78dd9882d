/- Texts repeated and joined: the shelf's contracts. -/
import Derived.Test.YtnhcoeogejgidadGreatDoorLgw
import Derived.Test.YtnhcoeogejgidadGreatDoorLvr
import Derived.Test.YtnhcoeogejgidadGreatDoorLg
import Derived.Test.YtnhcoeogejgidadGreatDoorLp2
import Derived.Test.YtnhcoeogejgidadGreatDoorLp5
import Derived.Test.YtnhcoeogejgidadGreatDoorTabE
import Derived.Test.YtnhcoeogejgidadGreatDoorLk1
import Derived.Test.YtnhcoeogejgidadGreatDoorTab
import Derived.Test.YtnhcoeogejgidadGreatDoorLr3
import Derived.MapKept
set_option linter.unusedVariables false
set_option linter.unusedSimpArgs false
namespace Go.Sx
open Go.Proofs
set_option maxRecDepth 100000
set_option maxHeartbeats 1000000

theorem X156 : Builder.Extra prg R156 where
  sizeBuilder := by kernel_rfl
  liesBuilder := by kernel_rfl
  t5 := L105.t5
  a5 := L105.a5
  z5 := L105.z5
  v5 := L105.v5
  infoByte := by kernel_rfl
  cellsByte := by kernel_rfl
  sizeByte := by kernel_rfl
  neB5 := by decide
theorem X105 : Builder.Extra prg R105 where
  sizeBuilder := by kernel_rfl
  liesBuilder := by kernel_rfl
  t5 := L105.t5
  a5 := L105.a5
  z5 := L105.z5
  v5 := L105.v5
  infoByte := by kernel_rfl
  cellsByte := by kernel_rfl
  sizeByte := by kernel_rfl
  neB5 := by decide
theorem repeat_one (b : UInt8) : ∀ c : Nat, Lib.repeatL [b] c = List.replicate c b
  | 0 => rfl
  | c + 1 => by
    show [b] ++ Lib.repeatL [b] c = _
    rw [repeat_one b c, List.replicate_succ]; rfl
section
variable {h0 h : Heap} {L : List Blk}
theorem Repeat_c {c : Nat} (hc : c ≤ 8) : CALL prg f_strings_Repeat #[.string ⟨#[48]⟩, .int .i64 (c : Int)] (fun u h' => u = .string (mkB (List.replicate c 48)) ∧ Ext h h') h := by
  refine CALL_of_calls L105.f105 rfl rfl fun w hw => ?_
  subst hw
  refine (Any.strings_Repeat L105 X105 ⟨#[48]⟩ c w (by omega) (by show 1 * c ≤ _; omega)).mono ?_
  rintro e w' ⟨rfl, b⟩
  refine ⟨_, rfl, below_same b, ?_, below_ext b⟩
  show Value.string ⟨(Lib.repeatL [48] c).toArray⟩ = _
  rw [repeat_one]
theorem str_cell {a : Addr} {s : ByteArray} (R : RdP rS h a s) : cell h a = some (.string s) := by
  obtain ⟨vs, h1, rfl, _⟩ := R
  have := h1 0 _ rfl
  rwa [add0] at this
theorem Join_c {B : List Blk} {b : Option Addr} {l c : Nat} {xs : List ByteArray} {sep : ByteArray} (O : SlO T_string rS B b l c xs) (M : Mem h0 h L) (s : B.Sublist L) (hl : l ≤ 140737488355328) (hN : (Lib.join (xs.map (·.data.toList)) sep.data.toList).length ≤ 140737488355328) :
    CALL prg f_strings_Join #[.slice b l c, .string sep] (fun u h' => u = .string (mkB (Lib.join (xs.map (·.data.toList)) sep.data.toList)) ∧ Ext h h') h := by
  have e := O.len
  have S := O.look M s
  have hlc := S.2.1
  refine CALL_of_calls L156.f156 rfl rfl fun w hw => ?_
  subst hw
  by_cases h0 : l = 0
  · subst h0
    obtain rfl := List.eq_nil_of_length_eq_zero e
    refine (Any.strings_Join_none L156 X156 b c sep w).mono ?_
    rintro e w' ⟨rfl, rfl⟩
    exact ⟨_, rfl, Same.refl _, rfl, Ext.refl _⟩
  · obtain ⟨_, ws, B1, B2, _, O1, _⟩ := O
    obtain ⟨g, rfl⟩ := O1.base (by omega)
    have hc : ∀ (j : Nat) x, xs[j]? = some x → w.cell? ⟨g, 0 + j, none⟩ = some (.string x) := fun j x hx => by
      obtain ⟨hj, hx⟩ := List.getElem?_eq_some_iff.1 hx
      obtain ⟨a, ha, R⟩ := S.elem (i := j) (by omega) (by decide)
      cases ha
      have := str_cell R
      rw [getElem!_pos xs j hj, hx] at this
      have e2 : (⟨g, 0, none⟩ : Addr).add (j * rS.sz) = ⟨g, 0 + j, none⟩ := by rw [add_none]; show (⟨g, 0 + j * 1, none⟩ : Addr) = _; rw [Nat.mul_one]
      rw [e2] at this
      exact this
    have hb : g < w.heap.size := by
      obtain ⟨hj, hx⟩ : ∃ h : 0 < xs.length, xs[0]? = some xs[0] := ⟨by omega, List.getElem?_eq_getElem _⟩
      exact cell_lt (hc 0 _ hx)
    subst e
    refine (Any.strings_Join L156 X156 g 0 c xs sep w hc hb hl hlc hN).mono ?_
    rintro e w' ⟨rfl, b⟩
    exact ⟨_, rfl, below_same b, rfl, below_ext b⟩
end
end Go.Sx
/- How Comb, Tap, Room lie in cells; their parts; given ones opened. -/
set_option linter.unusedVariables false
set_option linter.unusedSimpArgs false
namespace Go.Sx
open Go.Proofs
def rComb : Rep GComb := (Rep.seq rRing ((rF .f32))).via fun a => (a.Ring, a.Gain)
theorem foc_Comb_Ring : Foc rComb rRing 0 (fun a => a.Ring) (fun a b => { a with Ring := b }) := (Foc.via (f := fun a : GComb => (a.Ring, a.Gain)) (get' := fun a => a.Ring) (put' := fun a b => { a with Ring := b }) (Foc.fst (Foc.here rRing)) (fun _ => rfl) (fun _ _ => rfl)).at rfl
theorem foc_Comb_Gain : Foc rComb (rF .f32) 2 (fun a => a.Gain) (fun a b => { a with Gain := b }) := (Foc.via (f := fun a : GComb => (a.Ring, a.Gain)) (get' := fun a => a.Gain) (put' := fun a b => { a with Gain := b }) (Foc.snd (Foc.here (rF .f32))) (fun _ => rfl) (fun _ _ => rfl)).at rfl
instance lf_Comb_0 : FocC rComb 0 (rSl T_float32 (rF .f32)) (fun a => a.Ring.Samples) (fun a b => { a with Ring := { a.Ring with Samples := b } }) := ⟨Foc.at (foc_Comb_Ring.trans lf_Ring_0.f) rfl⟩
instance lf_Comb_1 : FocC rComb 1 (rI .i64) (fun a => a.Ring.At) (fun a b => { a with Ring := { a.Ring with At := b } }) := ⟨Foc.at (foc_Comb_Ring.trans lf_Ring_1.f) rfl⟩
instance lf_Comb_2 : FocC rComb 2 (rF .f32) (fun a => a.Gain) (fun a b => { a with Gain := b }) := ⟨Foc.at foc_Comb_Gain rfl⟩
end Go.Sx
/- Rooms: valid ones, as both programs tell them. -/
set_option linter.unusedVariables false
set_option linter.unusedSimpArgs false
namespace Go.Sx
open Go.Proofs
set_option maxRecDepth 100000

section
variable {h : Heap} {q : Addr}
/-- What a room is, told as the programs ask. -/
theorem room_ok (x : GRoom) : x.ok = (x.Early.okf && decide (x.Taps.length ≤ 6) && x.Combs.all GComb.ok && x.Loops.all GRing.okf && (x.Damps.all fun f => f.ok && f.Kind == 1) && (x.Taps.all fun t => t.ok x.Early.len) && allFin x.Gains && fin x.Dry && fin x.Wet) := rfl
end
end Go.Sx
/- Rooms that run: what a step asks for, and that it leaves it so; lists changed place by place. -/
set_option linter.unusedVariables false
set_option linter.unusedSimpArgs false
namespace Go.Sx
open Go.Proofs
/-- What a step of a room asks for. -/
structure GRoom.Runs (x : GRoom) : Prop where
  e : x.Early.ok = true
  t : ∀ t ∈ x.Taps, inR t.Back 1 x.Early.len = true
  c : ∀ c ∈ x.Combs, c.Ring.ok = true
  l : ∀ r ∈ x.Loops, r.ok = true
  c2 : x.Combs.length = 2
  l4 : x.Loops.length = 4
  d4 : x.Damps.length = 4
  g4 : x.Gains.length = 4
end Go.Sx
/- Rings that fall silent: the newest samples, how many of them are zero. -/
set_option linter.unusedVariables false
set_option linter.unusedSimpArgs false
namespace Go.Sx
open Go.Proofs
def isZ (a : Nat) : Bool := feq .f32 a 0
/-- The samples of a ring, the newest first. -/
def GRing.recent (r : GRing) : List Nat := (List.range r.Samples.length).map fun i : Nat => r.back ((i : Int) + 1)
/-- How many of the newest samples are zero. -/
def runL : List Nat → Nat
  | [] => 0
  | a :: l => if isZ a then runL l + 1 else 0
def GRing.quiet (r : GRing) : Nat := runL r.recent
end Go.Sx
/- Steps: rings read back, combs, four samples mixed; blocks written beside own data. -/
set_option linter.unusedVariables false
set_option linter.unusedSimpArgs false
namespace Go.Sx
open Go.Proofs
set_option maxRecDepth 100000
set_option maxHeartbeats 400000

section
variable {h0 h : Heap} {q : Addr} {F : Fr} {L : List Blk} {x a : Nat}
/-- What a step of a comb leaves. -/
def CStep (h0 h' : Heap) (q : Addr) (F : Fr) (L : List Blk) (c : GComb) (a : Nat) (u : Value) : Prop := (∃ y, u = .float .f32 y ∧ FW .f32 y (c.step a).2) ∧ Pt rComb h0 h' q F L (c.step a).1
theorem CStep.of {c c' : GComb} {b y : Nat} (e : c.step a = (c', b)) (hy : FW .f32 y b) (P : Pt rComb h0 h q F L c') : CStep h0 h q F L c a (.float .f32 y) := by
  unfold CStep
  rw [e]
  exact ⟨⟨y, rfl, hy⟩, P⟩
/-- Four samples answered. -/
def Four (h h' : Heap) (u : Value) (xs : List Nat) : Prop := ∃ cs : Array Value, u = .agg cs ∧ (rArr 4 (rF .f32)).rd h' cs.toList xs ∧ Ext h h'
theorem four_rd {y0 y1 y2 y3 a0 a1 a2 a3 : Nat} (h0 : FW .f32 y0 a0) (h1 : FW .f32 y1 a1) (h2 : FW .f32 y2 a2) (h3 : FW .f32 y3 a3) : (rArr 4 (rF .f32)).rd h [.float .f32 y0, .float .f32 y1, .float .f32 y2, .float .f32 y3] [a0, a1, a2, a3] :=
  ⟨rfl, [_], _, rfl, ⟨_, rfl, h0⟩, [_], _, rfl, ⟨_, rfl, h1⟩, [_], _, rfl, ⟨_, rfl, h2⟩, [_], _, rfl, ⟨_, rfl, h3⟩, rfl⟩
end
end Go.Sx
/- A room's step, as the program makes it. -/
set_option linter.unusedVariables false
set_option linter.unusedSimpArgs false
namespace Go.Sx
open Go.Proofs
set_option maxRecDepth 100000

/-- Four floats, wherever they lie. -/
def F4 (cs : Array Value) (xs : List Nat) : Prop := (rArr 4 (rF .f32)).rd #[] cs.toList xs
theorem F4.rd {cs : Array Value} {xs : List Nat} (R : F4 cs xs) (h : Heap) : (rArr 4 (rF .f32)).rd h cs.toList xs := ⟨R.1, rdsF_any R.2⟩
theorem F4.of {cs : Array Value} {xs : List Nat} {h : Heap} (R : (rArr 4 (rF .f32)).rd h cs.toList xs) : F4 cs xs := ⟨R.1, rdsF_any R.2⟩
theorem F4.size {cs : Array Value} {xs : List Nat} (R : F4 cs xs) : cs.size = 4 := rsz R rfl
def zeros4 : List Nat := [0, 0, 0, 0]
theorem F4.zero : F4 ⟨[.float .f32 0, .float .f32 0, .float .f32 0, .float .f32 0]⟩ zeros4 := four_rd fw0 fw0 fw0 fw0
section
variable {h0 h : Heap} {q : Addr} {F : Fr} {L : List Blk} {x a : Nat}
theorem Look.oF {g i : Nat} {cs : Array Value} {xs : List Nat} {K : Nat → Prop} (l : Look L g cs) (M : Mem h0 h L) (R : F4 cs xs) (hi : i < 4) (H : ∀ y, FW .f32 y xs[i]! → K y) : oF .f32 (cell h ((⟨g, 0, none⟩ : Addr).add (i * 1))) K :=
  ((M.rdp l (R.rd h)).elem (i := i) hi).oF1 H
section
variable (x : GRoom) (a : Nat)
def GRoom.c0 : GComb × Nat := x.Combs[0]!.step (fadd .f32 a x.early)
def GRoom.c1 : GComb × Nat := x.Combs[1]!.step (x.c0 a).2
def GRoom.fo (i : Nat) : Nat := x.Loops[i]!.old
def GRoom.fg (i : Nat) : GFilter × Nat := x.Damps[i]!.step (fmul .f32 x.Gains[i]! (x.fo i))
def GRoom.hs : List Nat := mixFour ((List.range 4).map fun i => (x.fg i).2)
def GRoom.fl (i : Nat) : GRing := x.Loops[i]!.push (kept (fadd .f32 (x.c1 a).2 x.hs[i]!))
def GRoom.s1 : GRoom := { x with Early := x.Early.push (kept a), Combs := [(x.c0 a).1, (x.c1 a).1] }
def GRoom.s2 (n : Nat) : GRoom := { x.s1 a with Damps := mapI (fun i => (x.fg i).1) x.Damps n }
def GRoom.s3 (n : Nat) : GRoom := { x.s2 a 4 with Loops := mapI (x.fl a) x.Loops n }
def GRoom.sv : Nat := fadd .f32 (fmul .f32 x.Dry a) (fmul .f32 x.Wet (fadd .f32 (fadd .f32 (x.fo 0) (x.fo 1)) (fadd .f32 (x.fo 2) (x.fo 3))))
end
end
end Go.Sx
/- Two more small functions over floats. -/
set_option linter.unusedVariables false
set_option linter.unusedSimpArgs false
namespace Go.Sx
open Go.Proofs Ieee
set_option maxRecDepth 100000
section
variable {x y a b : Nat}
theorem SameSample_c (hx : FW .f32 x a) (hy : FW .f32 y b) : Ret prg f_impl_SameSample #[.float .f32 x, .float .f32 y] (.bool (a == b)) := fun h => by
  refine impl_SameSample.call ((bitsOf_c hx).go fun h1 x1 => as_i ((bitsOf_c hy).go fun h2 x2 => as_i ⟨?_, x1.trans x2⟩))
  congr 1
  rw [Bool.eq_iff_iff, beq_iff_eq, beq_iff_eq]
  omega
def inside (a l r : Nat) : Bool := fge .f32 a l && fle .f32 a r
theorem inside_c {z c : Nat} (hx : FW .f32 x a) (hy : FW .f32 y b) (hz : FW .f32 z c) : Ret prg f_impl_inside #[.float .f32 x, .float .f32 y, .float .f32 z] (.bool (inside a b c)) := fun h => by
  refine impl_inside.call ?_
  rw [impl_inside.S, ord_eq hx hy, ord_eq hx hz]
  exact br (fun hb => ⟨by rw [inside, fge, hb]; rfl, Ext.refl _⟩) fun hb => ⟨by rw [inside, fge, hb]; rfl, Ext.refl _⟩
end
end Go.Sx
/- What pipes do, plain. -/
set_option linter.unusedVariables false
set_option linter.unusedSimpArgs false
namespace Go.Sx
def one32 : Nat := 1065353216
def neg32 : Nat := 3212836864
def GPipe.n (x : GPipe) : Nat := x.Right.length
def GPipe.d (x : GPipe) (b : Nat) : Nat := fsub .f32 x.Left[0]!.old b
def GPipe.t (x : GPipe) (i : Nat) : Nat := fmul .f32 x.Scatter[i]! (fsub .f32 x.Right[i]!.old x.Left[i + 1]!.old)
def GPipe.e (x : GPipe) : GFilter × Nat := x.End.step x.Right[x.n - 1]!.old
def GPipe.back (x : GPipe) : Nat := let b := fmul .f32 x.Loss x.e.2; if x.Open then fneg .f32 b else b
def GPipe.reed (x : GPipe) (d : Nat) : Nat := clamp (fadd .f32 x.Rest (fmul .f32 x.Slope d)) one32
def GPipe.rt (x : GPipe) (b : Nat) (i : Nat) : GRing := x.Right[i]!.push (kept (if i = 0 then fadd .f32 b (fmul .f32 (x.d b) (x.reed (x.d b))) else fadd .f32 x.Right[i - 1]!.old (x.t (i - 1))))
def GPipe.lf (x : GPipe) (i : Nat) : GRing := x.Left[i]!.push (kept (if i = x.n - 1 then x.back else fadd .f32 x.Left[i + 1]!.old (x.t i)))
/-- A step: the pipe behind it, and what comes out. -/
def GPipe.step (x : GPipe) (b : Nat) : GPipe × Nat := ({ x with Right := (List.range x.n).map (x.rt b), Left := (List.range x.n).map x.lf, End := x.e.1 }, x.e.2)
def GPipe.ok (x : GPipe) : Bool :=
  inR x.n 1 3 && decide (x.Left.length = x.n) && decide (x.Scatter.length + 1 = x.n) && x.Right.all GRing.okf && x.Left.all GRing.okf && ((List.range x.n).all fun i => x.Right[i]!.Samples.length == x.Left[i]!.Samples.length) &&
    (x.Scatter.all fun k => inside k neg32 one32) && x.End.ok && (x.End.Kind == 1) && fin x.Loss && fin x.Rest && fin x.Slope
end Go.Sx
/- Maps whose keys are integers: made, looked up, updated, counted. -/
set_option linter.unusedVariables false
set_option linter.unusedSimpArgs false
namespace Go.Sx
open Go.MapKept

def encM (p : Int × Value) : Value × Value := (.int .i64 p.1, p.2)
def pairM (e : MapEntry) : Value × Value := (e.key, e.val)
/-- In block g lies a map with these entries, in this order. -/
def MapI (h : Heap) (g : Nat) (m : List (Int × Value)) : Prop := ∃ (es : Array MapEntry) (clock : Nat), h[g]? = some (.map es clock) ∧ es.toList.map pairM = m.map encM
def ifind : List (Int × Value) → Int → Option (Nat × Value)
  | [], _ => none
  | (k, u) :: m, n => if n = k then some (0, u) else (ifind m n).map fun p => (p.1 + 1, p.2)
def mfind (m : List (Int × Value)) (n : Int) : Option Value := (ifind m n).map (·.2)
def mset : List (Int × Value) → Int → Value → List (Int × Value)
  | [], n, v => [(n, v)]
  | (k, u) :: m, n, v => if n = k then (n, v) :: m else (k, u) :: mset m n v
theorem mfind_cons (k n : Int) (u : Value) (m : List (Int × Value)) : mfind ((k, u) :: m) n = if n = k then some u else mfind m n := by
  unfold mfind
  rw [ifind]
  split
  · rfl
  · rw [Option.map_map]; rfl
theorem mfind_mset (m : List (Int × Value)) (k n : Int) (v : Value) : mfind (mset m k v) n = if n = k then some v else mfind m n := by
  induction m with
  | nil => rw [mset, mfind_cons]
  | cons p m ih =>
    obtain ⟨a, u⟩ := p
    rw [mset]
    split
    · next e =>
      subst e
      rw [mfind_cons, mfind_cons]
      split
      · rfl
      · rfl
    · next e =>
      rw [mfind_cons, mfind_cons, ih]
      by_cases h1 : n = a
      · subst h1
        rw [if_pos rfl, if_pos rfl]
        rw [if_neg (fun h => e h.symm)]
      · rw [if_neg h1, if_neg h1]
/-- How many entries there are, one more where the key is new. -/
theorem mset_len (m : List (Int × Value)) (k : Int) (v : Value) : (mset m k v).length = if (mfind m k).isSome then m.length else m.length + 1 := by
  induction m with
  | nil => rfl
  | cons p m ih =>
    obtain ⟨a, u⟩ := p
    rw [mset, mfind_cons]
    split
    · rfl
    · rw [List.length_cons, ih]
      split <;> simp
section
variable {P : Program} {h hb : Heap} {g : Nat} {m : List (Int × Value)} {t k e : TypeId} {K : Value → Heap → Prop}
theorem findNow_int (n : Int) : ∀ {L : List MapEntry} {m : List (Int × Value)} (i : Nat), L.map pairM = m.map encM → Instr.findNow (.int .i64) (.int .i64 n) L i = some ((ifind m n).map fun p => (i + p.1, p.2))
  | [], [], i, _ => rfl
  | [], _ :: _, i, h => by cases h
  | _ :: _, [], i, h => by cases h
  | x :: L, (a, u) :: m, i, h => by
    simp only [List.map_cons, List.cons.injEq] at h
    obtain ⟨h1, h2⟩ := h
    have hk : x.key = .int .i64 a := congrArg Prod.fst h1
    have hv : x.val = u := congrArg Prod.snd h1
    have ih := findNow_int n (i + 1) h2
    unfold Instr.findNow
    rw [hk]
    simp only [Instr.sameNow, if_pos]
    by_cases e : n = a
    · subst e
      rw [show (n == n) = true by simp]
      simp [ifind, hv]
    · rw [show (n == a) = false by simpa using e]
      simp only []
      rw [ih]
      simp only [ifind, if_neg e, Option.map_map]
      congr 1
      congr 1
      funext p
      simp only [Function.comp_apply, Prod.mk.injEq, and_true]
      omega
theorem MapI.ext {h' : Heap} (M : MapI h g m) (x : Ext h h') : MapI h' g m := by
  obtain ⟨es, c, e1, e2⟩ := M
  have hlt : g < h.size := (Array.getElem?_eq_some_iff.1 e1).1
  exact ⟨es, c, by rw [x.2 g hlt]; exact e1, e2⟩
theorem make_map {t : TypeId} (H : ∀ g h', Ext h h' → g = h.size → MapI h' g [] → K (.map (some g)) h') : SEMV P (Instr.makeMap t none) K h := by
  refine semv fun w hw => ⟨.map (some w.heap.size), w.alloc (.map #[] 0), by simp [Instr.makeMap, newObj, Sem.run], ⟨rfl, rfl, rfl, fun e => by cases e⟩, ?_⟩
  have e : (w.alloc (.map #[] 0)).heap = w.heap.push (.map #[] 0) := rfl
  rw [e, hw]
  exact H _ _ (Ext.push _ _) rfl ⟨#[], 0, by simp, rfl⟩
theorem look_map {z : Value} (M : MapI h g m) (ht : P.underlying t = some (.map k e)) (hk : P.underlying k = some (.int .i64)) (hz : ∀ w : World, (zeroValue e).run P w = .ok z w) (n : Int)
    (H : K (.tuple #[(mfind m n).getD z, .bool (mfind m n).isSome]) h) : SEMV P (Instr.lookup t (.map (some g)) (.int .i64 n) true) K h := by
  obtain ⟨es, c, e1, e2⟩ := M
  refine semv fun w hw => ⟨.tuple #[(mfind m n).getD z, .bool (mfind m n).isSome], w, ?_, Same.refl _, by rw [hw]; exact H⟩
  have hb : w.heap[g]? = some (.map es c) := by rw [hw]; exact e1
  have hf := findNow_int n 0 e2
  have hc := MapKept.run_checkKey (P := P) (w := w) (k := .int .i64 n) hk (by exact rfl) es.isEmpty 9999
  simp only [Instr.lookup, Sem.run_bind, run_underlying ht, Result.andThen_ok, MapKept.run_getObj_map hb, Sem.run_pure]
  rw [show (10000 : Nat) = 9999 + 1 from rfl, hc]
  simp only [Result.andThen_ok]
  rw [MapKept.run_findKey hk hf]
  unfold mfind
  cases ifind m n with
  | none => simp [hz w, Result.andThen]
  | some p => simp [Result.andThen]
theorem look_map1 {z : Value} (M : MapI h g m) (ht : P.underlying t = some (.map k e)) (hk : P.underlying k = some (.int .i64)) (hz : ∀ w : World, (zeroValue e).run P w = .ok z w) (n : Int)
    (H : K ((mfind m n).getD z) h) : SEMV P (Instr.lookup t (.map (some g)) (.int .i64 n) false) K h := by
  obtain ⟨es, c, e1, e2⟩ := M
  refine semv fun w hw => ⟨(mfind m n).getD z, w, ?_, Same.refl _, by rw [hw]; exact H⟩
  have hb : w.heap[g]? = some (.map es c) := by rw [hw]; exact e1
  have hf := findNow_int n 0 e2
  have hc := MapKept.run_checkKey (P := P) (w := w) (k := .int .i64 n) hk (by exact rfl) es.isEmpty 9999
  simp only [Instr.lookup, Sem.run_bind, run_underlying ht, Result.andThen_ok, MapKept.run_getObj_map hb, Sem.run_pure]
  rw [show (10000 : Nat) = 9999 + 1 from rfl, hc]
  simp only [Result.andThen_ok]
  rw [MapKept.run_findKey hk hf]
  unfold mfind
  cases ifind m n with
  | none => simp [hz w, Result.andThen]
  | some p => simp [Result.andThen]
theorem modify_pair {L : List MapEntry} {n : Int} {v : Value} : ∀ {m : List (Int × Value)} {j : Nat} {u : Value}, L.map pairM = m.map encM → ifind m n = some (j, u) →
    ((L.modify j fun x => { x with key := .int .i64 n, val := v }).map pairM = (mset m n v).map encM ∧ L[j]?.map (·.key) = some (.int .i64 n)) := by
  induction L with
  | nil =>
    intro m j u h1 h2
    cases m with
    | nil => cases h2
    | cons _ _ => cases h1
  | cons x L ih =>
    intro m j u h1 h2
    cases m with
    | nil => cases h1
    | cons p m =>
      obtain ⟨a, b⟩ := p
      simp only [List.map_cons, List.cons.injEq] at h1
      obtain ⟨h3, h4⟩ := h1
      rw [ifind] at h2
      rw [mset]
      split at h2
      · next e =>
        subst e
        obtain ⟨rfl, rfl⟩ : j = 0 ∧ u = b := by simpa [eq_comm] using h2
        rw [if_pos rfl]
        refine ⟨?_, ?_⟩
        · simp only [List.modify_zero_cons, List.map_cons, h4]
          rfl
        · have : x.key = .int .i64 n := congrArg Prod.fst h3
          simp [this]
      · next e =>
        rw [if_neg e]
        cases hf : ifind m n with
        | none => rw [hf] at h2; cases h2
        | some q =>
          obtain ⟨j', u'⟩ := q
          rw [hf] at h2
          obtain ⟨rfl, rfl⟩ : j' + 1 = j ∧ u' = u := by simpa using h2
          obtain ⟨k1, k2⟩ := ih h4 hf
          exact ⟨by simp only [List.modify_succ_cons, List.map_cons, k1, h3], by simpa using k2⟩
theorem push_pair {L : List MapEntry} {n : Int} {v : Value} {x : MapEntry} (hx : pairM x = encM (n, v)) {m : List (Int × Value)} (h1 : L.map pairM = m.map encM) (h2 : ifind m n = none) : (L ++ [x]).map pairM = (mset m n v).map encM := by
  have : mset m n v = m ++ [(n, v)] := by
    clear h1
    induction m with
    | nil => rfl
    | cons p m ih =>
      obtain ⟨a, b⟩ := p
      rw [ifind] at h2
      split at h2
      · cases h2
      · next e =>
        rw [mset, if_neg e, ih (by simpa using h2)]
        rfl
  rw [this, List.map_append, List.map_append, h1]
  simp [hx]
theorem put_map (M : MapI h g m) (X : Ext hb h) (hg : hb.size ≤ g) (ht : P.underlying t = some (.map k e)) (hk : P.underlying k = some (.int .i64)) (n : Int) (v : Value)
    (H : ∀ q h', Ext hb h' → MapI h' g (mset m n v) → (∀ i, i ≠ g → h'[i]? = h[i]?) → K q h') : SEMN P (do Instr.mapUpdate t (.map (some g)) (.int .i64 n) v; pure .skip) K h := by
  obtain ⟨es, c, e1, e2⟩ := M
  have hlt : g < h.size := (Array.getElem?_eq_some_iff.1 e1).1
  refine semn_skip fun w hw => ?_
  have hbb : w.heap[g]? = some (.map es c) := by rw [hw]; exact e1
  have hf := findNow_int n 0 e2
  have hc := MapKept.run_checkKey (P := P) (w := w) (k := .int .i64 n) hk (by exact rfl) false 9999
  have key : ∀ o : Obj, Ext hb (h.setIfInBounds g o) := fun o => ⟨by rw [Array.size_setIfInBounds]; exact X.1, fun i hi => by rw [Array.getElem?_setIfInBounds, if_neg (by omega)]; exact X.2 i hi⟩
  have other : ∀ (o : Obj) i, i ≠ g → (h.setIfInBounds g o)[i]? = h[i]? := fun o i hi => by rw [Array.getElem?_setIfInBounds, if_neg (fun e => hi e.symm)]
  have self : ∀ o : Obj, (h.setIfInBounds g o)[g]? = some o := fun o => by rw [Array.getElem?_setIfInBounds, if_pos rfl, if_pos hlt]
  cases hi : ifind m n with
  | none =>
    refine ⟨{ w with heap := w.heap.setIfInBounds g (.map (es.push { key := .int .i64 n, val := v, born := c }) (c + 1)) }, ?_, ⟨rfl, rfl, rfl, fun e => by cases e⟩, ?_⟩
    · rw [hi] at hf
      simp only [Instr.mapUpdate, Sem.run_bind, run_underlying ht, Result.andThen_ok, MapKept.run_getObj_map hbb, Sem.run_pure]
      rw [show (10000 : Nat) = 9999 + 1 from rfl, hc]
      simp only [Result.andThen_ok]
      rw [MapKept.run_findKey hk hf]
      simp [MapKept.run_setObj_map _ hbb, Result.andThen]
    · simp only [hw]
      exact H _ _ (key _) ⟨_, _, self _, by rw [Array.toList_push]; exact push_pair rfl e2 hi⟩ (other _)
  | some p =>
    obtain ⟨j, u⟩ := p
    obtain ⟨k1, k2⟩ := modify_pair (v := v) e2 hi
    refine ⟨{ w with heap := w.heap.setIfInBounds g (.map (es.modify j fun x => { x with key := .int .i64 n, val := v }) c) }, ?_, ⟨rfl, rfl, rfl, fun e => by cases e⟩, ?_⟩
    · rw [hi] at hf
      simp only [Instr.mapUpdate, Sem.run_bind, run_underlying ht, Result.andThen_ok, MapKept.run_getObj_map hbb, Sem.run_pure]
      rw [show (10000 : Nat) = 9999 + 1 from rfl, hc]
      simp only [Result.andThen_ok]
      rw [MapKept.run_findKey hk hf]
      have hj : (es[j]?.map (·.key)).getD (.int .i64 n) = .int .i64 n := by
        rw [Array.getElem?_toList] at k2
        rw [k2]; rfl
      simp only [Option.map_some, Nat.zero_add, Sem.run_bind, Result.andThen_ok]
      rw [hj, MapKept.run_keyThatStays (d := .int .i64) (k := .int .i64 n) (show IsKey (.int .i64) (.int .i64 n) from rfl)]
      simp [MapKept.run_setObj_map _ hbb, Result.andThen]
    · simp only [hw]
      exact H _ _ (key _) ⟨_, _, self _, by rw [Array.toList_modify]; exact k1⟩ (other _)
theorem len_map {ty : TypeId} (M : MapI h g m) (ht : P.underlying t = some (.map k e)) (H : K (.int .i64 (m.length : Int)) h) : SEMV P (Builtin.len_ #[t] ty #[.map (some g)]) K h := by
  obtain ⟨es, c, e1, e2⟩ := M
  have hl : es.size = m.length := by have := congrArg List.length e2; simpa using this
  refine semv fun w hw => ⟨.int .i64 (m.length : Int), w, ?_, Same.refl _, by rw [hw]; exact H⟩
  have hbb : w.heap[g]? = some (.map es c) := by rw [hw]; exact e1
  simp [Builtin.len_, run_underlying ht, MapKept.run_getObj_map hbb, Result.andThen, goInt, hl]
end
end Go.Sx
