/- The weakest precondition of loaded Go code over heaps alone: the words (combinators) in which it is told. -/
import Derived.Calls
import Derived.Orders
import Derived.Laws.Sem
import Derived.Laws.Entries
import Derived.Laws.Cover2
import Derived.Laws.Small
import Derived.KernelRfl
namespace Go.Sx

abbrev Heap := Array Obj
abbrev Frame := List Value

def cell (h : Heap) (a : Addr) : Option Value :=
  match h[a.block]? with
  | some (.cells c _ _) => if a.spot.isSome then none else c[a.off]?
  | _ => none
def froz (h : Heap) (a : Addr) : Bool :=
  match h[a.block]? with
  | some (.cells _ _ (lo, hi)) => lo ≤ a.off && a.off < hi
  | _ => false
def setc (h : Heap) (a : Addr) (v : Value) : Heap :=
  h.modify a.block fun
    | .cells c elem frozen => .cells (if a.spot.isSome then c else c.setIfInBounds a.off v) elem frozen
    | o => o
theorem cell_eq (w : World) (a : Addr) : w.cell? a = cell w.heap a := rfl
theorem froz_eq (w : World) (a : Addr) : w.frozen? a = froz w.heap a := rfl
theorem setc_eq (w : World) (a : Addr) (v : Value) : (w.setCell a v).heap = setc w.heap a v := rfl
/-- Cell after cell, from place i on. -/
def setcs (h : Heap) (a : Addr) : List Value → Nat → Heap
  | [], _ => h
  | v :: r, i => setcs (setc h (a.add i) v) a r (i + 1)

structure Same (w w' : World) : Prop where
  os : w'.os = w.os
  tape : w'.tape = w.tape
  output : w'.output = w.output
theorem Same.refl (w : World) : Same w w := ⟨rfl, rfl, rfl⟩
theorem Same.trans {a b c : World} (h : Same a b) (k : Same b c) : Same a c := ⟨k.os.trans h.os, k.tape.trans h.tape, k.output.trans h.output⟩

def UponN (P : Program) (r : Result Next) (N : Value → World → Prop) : Prop :=
  match r with
  | .ok (.value v) w' => N v w'
  | .ok .skip w' => N undef w'
  | .ok (.enter f args) w' => Calls P f args w' fun e w'' => ∃ v, e = .returned v ∧ N v w''
  | _ => False
def SEMN (P : Program) (s : Sem Next) (K : Value → Heap → Prop) (h : Heap) : Prop :=
  ∀ w : World, w.heap = h → UponN P (s.run P w) fun v w' => Same w w' ∧ K v w'.heap
def SEMV (P : Program) (s : Sem Value) (K : Value → Heap → Prop) (h : Heap) : Prop := SEMN P (do pure (.value (← s))) K h
def CALL (P : Program) (f : FuncId) (args : Array Value) (K : Value → Heap → Prop) (h : Heap) : Prop := SEMN P (callFunc f args) K h
def CALLV (P : Program) (f : Value) (args : Array Value) (K : Value → Heap → Prop) (h : Heap) : Prop :=
  SEMN P (do let d ← Deferred.ofValue f args; invoke d.target d.args) K h

inductive Ty where
  | int (k : IntKind) | bool | float (k : FloatKind) | str | ptr | sl (e : Nat) | arr (n e : Nat) | st (fs : List (Nat × Nat)) | tup (ts : List Nat) | oth
def tyOf : TypeDesc → Ty
  | .int k => .int k | .bool => .bool | .float k => .float k | .string => .str | .pointer _ => .ptr | .slice e => .sl e | .array n e => .arr n e
  | .struct fs => .st (fs.toList.map fun f => (f.type, f.offset)) | .tuple es => .tup es.toList | _ => .oth
structure TI where
  ty : Ty
  size : Nat
  bytes : Nat
  zero : List Value
abbrev Static := List (Nat × TI)
def ti : Static → Nat → Option TI
  | [], _ => none
  | (u, i) :: r, t => bif Nat.beq u t then some i else ti r t
def okT (P : Program) (e : Nat × TI) : Prop :=
  ∃ d i, P.underlying e.1 = some d ∧ tyOf d = e.2.ty ∧ P.info? e.1 = some i ∧ i.size = e.2.size ∧ i.bytes = e.2.bytes ∧ (e.2.zero = [] ∨ ∃ z, i.zero = some z ∧ z.cells.toList = e.2.zero)
def OkS (P : Program) (τ : Static) : Prop := ∀ e ∈ τ, okT P e
theorem ti_mem : ∀ {τ : Static} {t : Nat} {i : TI}, ti τ t = some i → (t, i) ∈ τ
  | [], _, _, h => by simp [ti] at h
  | (u, j) :: r, t, i, h => by
    unfold ti at h
    cases hb : Nat.beq u t with
    | true =>
      rw [hb] at h
      simp at h
      rw [Nat.beq_eq] at hb
      subst hb; subst h
      exact .head _
    | false =>
      rw [hb] at h
      simp at h
      exact .tail _ (ti_mem h)

def asI (k : IntKind) (v : Value) (F : Int → Prop) : Prop := match v with | .int k' n => if k' = k then F n else False | _ => False
def asB (v : Value) (F : Bool → Prop) : Prop := match v with | .bool b => F b | _ => False
def asF (k : FloatKind) (v : Value) (F : Nat → Prop) : Prop := match v with | .float k' n => if k' = k then F n else False | _ => False
def asS (v : Value) (F : ByteArray → Prop) : Prop := match v with | .string s => F s | _ => False
def asP (v : Value) (F : Addr → Prop) : Prop := match v with | .pointer (some a) => F a | _ => False
def asL (v : Value) (F : Option Addr → Nat → Nat → Prop) : Prop := match v with | .slice b l c => F b l c | _ => False
def asA (v : Value) (F : Array Value → Prop) : Prop := match v with | .agg cs => F cs | _ => False
def oI (k : IntKind) (v : Option Value) (F : Int → Prop) : Prop := match v with | some v => asI k v F | none => False
def oB (v : Option Value) (F : Bool → Prop) : Prop := match v with | some v => asB v F | none => False
def oF (k : FloatKind) (v : Option Value) (F : Nat → Prop) : Prop := match v with | some v => asF k v F | none => False
def oS (v : Option Value) (F : ByteArray → Prop) : Prop := match v with | some v => asS v F | none => False
def oP (v : Option Value) (F : Addr → Prop) : Prop := match v with | some v => asP v F | none => False
def oL (v : Option Value) (F : Option Addr → Nat → Nat → Prop) : Prop := match v with | some v => asL v F | none => False
def oV (v : Option Value) (F : Value → Prop) : Prop := match v with | some v => F v | none => False
def LDA (n : Nat) (h : Heap) (a : Addr) (F : Array Value → Prop) : Prop := ∃ cs : Array Value, cs.size = n ∧ (∀ j, j < n → cell h (a.add j) = cs[j]?) ∧ F cs
def TUP2 (v : Value) (F : Value → Value → Prop) : Prop := match v with | .tuple ⟨[a, b]⟩ => F a b | _ => False
def TUP3 (v : Value) (F : Value → Value → Value → Prop) : Prop := match v with | .tuple ⟨[a, b, c]⟩ => F a b c | _ => False
def TUP4 (v : Value) (F : Value → Value → Value → Value → Prop) : Prop := match v with | .tuple ⟨[a, b, c, d]⟩ => F a b c d | _ => False
def TUP5 (v : Value) (F : Value → Value → Value → Value → Value → Prop) : Prop := match v with | .tuple ⟨[a, b, c, d, e]⟩ => F a b c d e | _ => False
/-- One value of a type that is no tuple. -/
def as1 (τ : Static) (t : Nat) (v : Value) (K : Value → Prop) : Prop :=
  match ti τ t with
  | none => K v
  | some i => match i.ty with
    | .int k => asI k v fun n => K (.int k n)
    | .bool => asB v fun b => K (.bool b)
    | .float k => asF k v fun n => K (.float k n)
    | .str => asS v fun s => K (.string s)
    | .ptr => asP v fun a => K (.pointer (some a))
    | .sl _ => asL v fun b l c => K (.slice b l c)
    | .arr _ _ | .st _ => asA v fun cs => K (.agg cs)
    | .tup _ | .oth => K v
def asT (τ : Static) (t : Nat) (v : Value) (K : Value → Prop) : Prop :=
  match ti τ t with
  | some ⟨.tup [], _, _, _⟩ => K v
  | some ⟨.tup [p, q], _, _, _⟩ => TUP2 v fun a b => as1 τ p a fun a => as1 τ q b fun b => K (.tuple ⟨[a, b]⟩)
  | some ⟨.tup [p, q, r], _, _, _⟩ => TUP3 v fun a b c => as1 τ p a fun a => as1 τ q b fun b => as1 τ r c fun c => K (.tuple ⟨[a, b, c]⟩)
  | some ⟨.tup [p, q, r, s], _, _, _⟩ => TUP4 v fun a b c d => as1 τ p a fun a => as1 τ q b fun b => as1 τ r c fun c => as1 τ s d fun d => K (.tuple ⟨[a, b, c, d]⟩)
  | some ⟨.tup [p, q, r, s, u], _, _, _⟩ => TUP5 v fun a b c d e => as1 τ p a fun a => as1 τ q b fun b => as1 τ r c fun c => as1 τ s d fun d => as1 τ u e fun e => K (.tuple ⟨[a, b, c, d, e]⟩)
  | _ => as1 τ t v K
/-- What a cell of the heap holds, read at a type. -/
def LD (τ : Static) (t : Nat) (h : Heap) (a : Addr) (K : Value → Prop) : Prop :=
  match ti τ t with
  | none => False
  | some i => match i.ty with
    | .int k => oI k (cell h a) fun n => K (.int k n)
    | .bool => oB (cell h a) fun b => K (.bool b)
    | .float k => oF k (cell h a) fun n => K (.float k n)
    | .str => oS (cell h a) fun s => K (.string s)
    | .ptr => oP (cell h a) fun a => K (.pointer (some a))
    | .sl _ => oL (cell h a) fun b l c => K (.slice b l c)
    | .arr _ _ | .st _ => LDA i.size h a fun cs => K (.agg cs)
    | .oth => oV (cell h a) K
    | .tup _ => False
/-- A part of an aggregate, read at a type. -/
def GT (τ : Static) (t : Nat) (cs : Array Value) (off : Nat) (K : Value → Prop) : Prop :=
  match ti τ t with
  | none => False
  | some i => match i.ty with
    | .int k => oI k cs[off]? fun n => K (.int k n)
    | .bool => oB cs[off]? fun b => K (.bool b)
    | .float k => oF k cs[off]? fun n => K (.float k n)
    | .str => oS cs[off]? fun s => K (.string s)
    | .ptr => oP cs[off]? fun a => K (.pointer (some a))
    | .sl _ => oL cs[off]? fun b l c => K (.slice b l c)
    | .arr _ _ | .st _ => K (.agg (cs.extract off (off + i.size)))
    | .oth => oV cs[off]? K
    | .tup _ => False

def BIF (b : Bool) (p q : Prop) : Prop := match b with | true => p | false => q
def ALC (cs : Array Value) (t : Nat) (F : Nat → Heap → Prop) (h : Heap) : Prop := F h.size (h.push (.cells cs t))
def ST1 (h : Heap) (a : Addr) (v : Value) (F : Heap → Prop) : Prop := (cell h a).isSome = true ∧ froz h a = false ∧ F (setc h a v)
def STA (n : Nat) (h : Heap) (a : Addr) (cs : Array Value) (F : Heap → Prop) : Prop :=
  cs.size = n ∧ (∀ v ∈ cs.toList, v.oneCell' = true) ∧ (∀ j, j < n → (cell h (a.add j)).isSome = true ∧ froz h (a.add j) = false) ∧ F (setcs h a cs.toList 0)
def NZ (b : Int) (p : Prop) : Prop := b ≠ 0 ∧ p
def NN (b : Int) (p : Prop) : Prop := 0 ≤ b ∧ p
def IDX (i : Int) (n : Nat) (p : Prop) : Prop := (0 ≤ i ∧ i < (n : Int)) ∧ p
def IDXS (b : Option Addr) (i : Int) (n : Nat) (F : Addr → Prop) : Prop := match b with | some a => (0 ≤ i ∧ i < (n : Int)) ∧ F a | none => False
def byteAt (s : ByteArray) (i : Int) : Int := ((s[i.toNat]?).map fun b => (b.toNat : Int)).getD 0
def SIZ (n m : Nat) (p : Prop) : Prop := n = m ∧ p
/-- r is what a float operation may give: the exact word, or any NaN. -/
def isNaNW (k : FloatKind) (r : Nat) : Prop :=
  match k with
  | .f32 => ∃ t : Nat, r = (t % 2) * 2 ^ 31 + 0x7f800000 + 1 + (t / 2) % (2 ^ 23 - 1)
  | .f64 => ∃ t : Nat, r = (t % 2) * 2 ^ 63 + 0x7ff0000000000000 + 1 + (t / 2) % (2 ^ 52 - 1)
def IsF (k : FloatKind) (o : Option Nat) (r : Nat) : Prop := match o with | some v => r = v | none => isNaNW k r
def FOP (k : FloatKind) (o : Option Nat) (F : Nat → Prop) : Prop := ∀ r, IsF k o r → F r
/-- What a float may become in the other kind. -/
def IsFF (s : FloatKind) (b : Nat) (d : FloatKind) (r : Nat) : Prop :=
  match s.decode b with
  | .nan _ _ => isNaNW d r
  | .infinity n => r = d.encode (.infinity n)
  | .number n m e => if (d.decode (d.encode (.number n m e))).isInfinity then r < 2 ^ 32 else r = d.encode (.number n m e)
def FFC (s : FloatKind) (b : Nat) (d : FloatKind) (F : Nat → Prop) : Prop := ∀ r, IsFF s b d r → F r
/-- What a float may become as an integer: cut towards zero where it fits, any of the kind else. -/
def IsFI (s : FloatKind) (b : Nat) (d : IntKind) (n : Int) : Prop :=
  match (s.decode b).toInt .zero with
  | some m => if d.min ≤ m ∧ m ≤ d.max then n = m else ∃ t : Int, n = d.wrap t
  | none => ∃ t : Int, n = d.wrap t
def FIC (s : FloatKind) (b : Nat) (d : IntKind) (F : Int → Prop) : Prop := ∀ n, IsFI s b d n → F n
def bitI (op : BinOp) (k : IntKind) (x y : Int) : Int :=
  let a := BitVec.ofInt k.bits x
  let b := BitVec.ofInt k.bits y
  match op with
  | .and => k.wrap (a &&& b).toNat | .or => k.wrap (a ||| b).toNat | .xor => k.wrap (a ^^^ b).toNat | _ => k.wrap (a &&& ~~~b).toNat
def shlI (k : IntKind) (x y : Int) : Int := k.wrap (x * 2 ^ (min y.toNat k.bits))
def shrI (k : IntKind) (x y : Int) : Int := x.fdiv (2 ^ (min y.toNat k.bits))
/-- make([]T, l, c) -/
def MKS (i : TI) (e : Nat) (l c : Int) (F : Nat → Heap → Prop) (h : Heap) : Prop :=
  (0 ≤ l ∧ l ≤ c ∧ (i.bytes : Int) * c ≤ 2 ^ 48 ∧ c ≤ 9223372036854775807 ∧ i.zero ≠ []) ∧ ALC ((Array.range (c.toNat * i.size)).map fun j => (⟨i.zero⟩ : Array Value)[j % (⟨i.zero⟩ : Array Value).size]!) e F h
def SLB (lo hi cap : Int) (p : Prop) : Prop := (0 ≤ lo ∧ lo ≤ hi ∧ hi ≤ cap) ∧ p
def SLB3 (lo hi mx cap : Int) (p : Prop) : Prop := (0 ≤ lo ∧ lo ≤ hi ∧ hi ≤ mx ∧ mx ≤ cap) ∧ p
/-- The address of a slice of a slice: at the capacity's end it stays. -/
def slA (b : Option Addr) (cap lo size : Nat) : Option Addr := if cap = lo then b else b.map (·.add (lo * size))
def slP (a : Addr) (cap lo size : Nat) : Addr := if cap = lo then a else a.add (lo * size)
end Go.Sx
