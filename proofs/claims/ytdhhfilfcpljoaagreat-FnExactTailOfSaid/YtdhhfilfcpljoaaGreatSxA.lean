/- The weakest precondition of loaded Go code over heaps alone: the words (combinators) in which it is told. -/
import Derived.Calls
import Derived.Orders
import Derived.Laws.Sem
import Derived.Laws.Entries
import Derived.Laws.Cover2
import Derived.Laws.Small
import Derived.KernelRfl
import Derived.Laws.Cells
namespace Go.Sx

abbrev Heap := Array Obj
abbrev Frame := List Value

/-! ### The heap -/
def cell (h : Heap) (a : Addr) : Option Value :=
  match h[a.block]? with
  | some (.cells c _ _) => if a.spot.isSome then none else c[a.off]?
  | _ => none
def froz (h : Heap) (a : Addr) : Bool :=
  match h[a.block]? with
  | some (.cells _ _ (lo, hi)) => lo ≤ a.off && a.off < hi
  | _ => false
def setc (h : Heap) (a : Addr) (v : Value) : Heap :=
  h.modify a.block fun
    | .cells c elem frozen => .cells (if a.spot.isSome then c else c.setIfInBounds a.off v) elem frozen
    | o => o
theorem cell_eq (w : World) (a : Addr) : w.cell? a = cell w.heap a := rfl
theorem froz_eq (w : World) (a : Addr) : w.frozen? a = froz w.heap a := rfl
theorem setc_eq (w : World) (a : Addr) (v : Value) : (w.setCell a v).heap = setc w.heap a v := rfl
/-- Cell after cell, from place i on. -/
def setcs (h : Heap) (a : Addr) : List Value → Nat → Heap
  | [], _ => h
  | v :: r, i => setcs (setc h (a.add i) v) a r (i + 1)

/-! ### What a world keeps beside its heap and its draws -/
structure Same (w w' : World) : Prop where
  os : w'.os = w.os
  tape : w'.tape = w.tape
  output : w'.output = w.output
theorem Same.refl (w : World) : Same w w := ⟨rfl, rfl, rfl⟩
theorem Same.trans {a b c : World} (h : Same a b) (k : Same b c) : Same a c := ⟨k.os.trans h.os, k.tape.trans h.tape, k.output.trans h.output⟩

/-! ### Calls and bare semantics -/
def UponN (P : Program) (r : Result Next) (N : Value → World → Prop) : Prop :=
  match r with
  | .ok (.value v) w' => N v w'
  | .ok .skip w' => N undef w'
  | .ok (.enter f args) w' => Calls P f args w' fun e w'' => ∃ v, e = .returned v ∧ N v w''
  | _ => False
def SEMN (P : Program) (s : Sem Next) (K : Value → Heap → Prop) (h : Heap) : Prop :=
  ∀ w : World, w.heap = h → UponN P (s.run P w) fun v w' => Same w w' ∧ K v w'.heap
def SEMV (P : Program) (s : Sem Value) (K : Value → Heap → Prop) (h : Heap) : Prop := SEMN P (do pure (.value (← s))) K h
def CALL (P : Program) (f : FuncId) (args : Array Value) (K : Value → Heap → Prop) (h : Heap) : Prop := SEMN P (callFunc f args) K h
def CALLV (P : Program) (f : Value) (args : Array Value) (K : Value → Heap → Prop) (h : Heap) : Prop :=
  SEMN P (do let d ← Deferred.ofValue f args; invoke d.target d.args) K h

/-! ### Types, as far as they matter -/
inductive Ty where
  | int (k : IntKind) | bool | float (k : FloatKind) | str | ptr | sl (e : Nat) | arr (n e : Nat) | st (fs : List (Nat × Nat)) | tup (ts : List Nat) | oth
def tyOf : TypeDesc → Ty
  | .int k => .int k | .bool => .bool | .float k => .float k | .string => .str | .pointer _ => .ptr | .slice e => .sl e | .array n e => .arr n e
  | .struct fs => .st (fs.toList.map fun f => (f.type, f.offset)) | .tuple es => .tup es.toList | _ => .oth
structure TI where
  ty : Ty
  size : Nat
  bytes : Nat
  zero : List Value
abbrev Static := List (Nat × TI)
def ti : Static → Nat → Option TI
  | [], _ => none
  | (u, i) :: r, t => bif Nat.beq u t then some i else ti r t
def okT (P : Program) (e : Nat × TI) : Prop :=
  ∃ d i, P.underlying e.1 = some d ∧ tyOf d = e.2.ty ∧ P.info? e.1 = some i ∧ i.size = e.2.size ∧ i.bytes = e.2.bytes ∧ (e.2.zero = [] ∨ ∃ z, i.zero = some z ∧ z.cells.toList = e.2.zero)
def OkS (P : Program) (τ : Static) : Prop := ∀ e ∈ τ, okT P e
theorem ti_mem : ∀ {τ : Static} {t : Nat} {i : TI}, ti τ t = some i → (t, i) ∈ τ
  | [], _, _, h => by simp [ti] at h
  | (u, j) :: r, t, i, h => by
    unfold ti at h
    cases hb : Nat.beq u t with
    | true =>
      rw [hb] at h
      simp at h
      rw [Nat.beq_eq] at hb
      subst hb; subst h
      exact .head _
    | false =>
      rw [hb] at h
      simp at h
      exact .tail _ (ti_mem h)

/-! ### Typed readings of a value -/
def asI (k : IntKind) (v : Value) (F : Int → Prop) : Prop := match v with | .int k' n => if k' = k then F n else False | _ => False
def asB (v : Value) (F : Bool → Prop) : Prop := match v with | .bool b => F b | _ => False
def asF (k : FloatKind) (v : Value) (F : Nat → Prop) : Prop := match v with | .float k' n => if k' = k then F n else False | _ => False
def asS (v : Value) (F : ByteArray → Prop) : Prop := match v with | .string s => F s | _ => False
def asP (v : Value) (F : Addr → Prop) : Prop := match v with | .pointer (some a) => F a | _ => False
def asL (v : Value) (F : Option Addr → Nat → Nat → Prop) : Prop := match v with | .slice b l c => F b l c | _ => False
def asA (v : Value) (F : Array Value → Prop) : Prop := match v with | .agg cs => F cs | _ => False
def oI (k : IntKind) (v : Option Value) (F : Int → Prop) : Prop := match v with | some v => asI k v F | none => False
def oB (v : Option Value) (F : Bool → Prop) : Prop := match v with | some v => asB v F | none => False
def oF (k : FloatKind) (v : Option Value) (F : Nat → Prop) : Prop := match v with | some v => asF k v F | none => False
def oS (v : Option Value) (F : ByteArray → Prop) : Prop := match v with | some v => asS v F | none => False
def oP (v : Option Value) (F : Addr → Prop) : Prop := match v with | some v => asP v F | none => False
def oL (v : Option Value) (F : Option Addr → Nat → Nat → Prop) : Prop := match v with | some v => asL v F | none => False
def oV (v : Option Value) (F : Value → Prop) : Prop := match v with | some v => F v | none => False
def LDA (n : Nat) (h : Heap) (a : Addr) (F : Array Value → Prop) : Prop := ∃ cs : Array Value, cs.size = n ∧ (∀ j, j < n → cell h (a.add j) = cs[j]?) ∧ F cs
def TUP2 (v : Value) (F : Value → Value → Prop) : Prop := match v with | .tuple ⟨[a, b]⟩ => F a b | _ => False
def TUP3 (v : Value) (F : Value → Value → Value → Prop) : Prop := match v with | .tuple ⟨[a, b, c]⟩ => F a b c | _ => False
def TUP4 (v : Value) (F : Value → Value → Value → Value → Prop) : Prop := match v with | .tuple ⟨[a, b, c, d]⟩ => F a b c d | _ => False
def TUP5 (v : Value) (F : Value → Value → Value → Value → Value → Prop) : Prop := match v with | .tuple ⟨[a, b, c, d, e]⟩ => F a b c d e | _ => False
/-- One value of a type that is no tuple. -/
def as1 (τ : Static) (t : Nat) (v : Value) (K : Value → Prop) : Prop :=
  match ti τ t with
  | none => K v
  | some i => match i.ty with
    | .int k => asI k v fun n => K (.int k n)
    | .bool => asB v fun b => K (.bool b)
    | .float k => asF k v fun n => K (.float k n)
    | .str => asS v fun s => K (.string s)
    | .ptr => asP v fun a => K (.pointer (some a))
    | .sl _ => asL v fun b l c => K (.slice b l c)
    | .arr _ _ | .st _ => asA v fun cs => K (.agg cs)
    | .tup _ | .oth => K v
def asT (τ : Static) (t : Nat) (v : Value) (K : Value → Prop) : Prop :=
  match ti τ t with
  | some ⟨.tup [], _, _, _⟩ => K v
  | some ⟨.tup [p, q], _, _, _⟩ => TUP2 v fun a b => as1 τ p a fun a => as1 τ q b fun b => K (.tuple ⟨[a, b]⟩)
  | some ⟨.tup [p, q, r], _, _, _⟩ => TUP3 v fun a b c => as1 τ p a fun a => as1 τ q b fun b => as1 τ r c fun c => K (.tuple ⟨[a, b, c]⟩)
  | some ⟨.tup [p, q, r, s], _, _, _⟩ => TUP4 v fun a b c d => as1 τ p a fun a => as1 τ q b fun b => as1 τ r c fun c => as1 τ s d fun d => K (.tuple ⟨[a, b, c, d]⟩)
  | some ⟨.tup [p, q, r, s, u], _, _, _⟩ => TUP5 v fun a b c d e => as1 τ p a fun a => as1 τ q b fun b => as1 τ r c fun c => as1 τ s d fun d => as1 τ u e fun e => K (.tuple ⟨[a, b, c, d, e]⟩)
  | _ => as1 τ t v K
/-- What a cell of the heap holds, read at a type. -/
def LD (τ : Static) (t : Nat) (h : Heap) (a : Addr) (K : Value → Prop) : Prop :=
  match ti τ t with
  | none => False
  | some i => match i.ty with
    | .int k => oI k (cell h a) fun n => K (.int k n)
    | .bool => oB (cell h a) fun b => K (.bool b)
    | .float k => oF k (cell h a) fun n => K (.float k n)
    | .str => oS (cell h a) fun s => K (.string s)
    | .ptr => oP (cell h a) fun a => K (.pointer (some a))
    | .sl _ => oL (cell h a) fun b l c => K (.slice b l c)
    | .arr _ _ | .st _ => LDA i.size h a fun cs => K (.agg cs)
    | .oth => oV (cell h a) K
    | .tup _ => False
/-- A part of an aggregate, read at a type. -/
def GT (τ : Static) (t : Nat) (cs : Array Value) (off : Nat) (K : Value → Prop) : Prop :=
  match ti τ t with
  | none => False
  | some i => match i.ty with
    | .int k => oI k cs[off]? fun n => K (.int k n)
    | .bool => oB cs[off]? fun b => K (.bool b)
    | .float k => oF k cs[off]? fun n => K (.float k n)
    | .str => oS cs[off]? fun s => K (.string s)
    | .ptr => oP cs[off]? fun a => K (.pointer (some a))
    | .sl _ => oL cs[off]? fun b l c => K (.slice b l c)
    | .arr _ _ | .st _ => K (.agg (cs.extract off (off + i.size)))
    | .oth => oV cs[off]? K
    | .tup _ => False

/-! ### The other words -/
def BIF (b : Bool) (p q : Prop) : Prop := match b with | true => p | false => q
def ALC (cs : Array Value) (t : Nat) (F : Nat → Heap → Prop) (h : Heap) : Prop := F h.size (h.push (.cells cs t))
def ST1 (h : Heap) (a : Addr) (v : Value) (F : Heap → Prop) : Prop := (cell h a).isSome = true ∧ froz h a = false ∧ F (setc h a v)
def STA (n : Nat) (h : Heap) (a : Addr) (cs : Array Value) (F : Heap → Prop) : Prop :=
  cs.size = n ∧ (∀ v ∈ cs.toList, v.oneCell' = true) ∧ (∀ j, j < n → (cell h (a.add j)).isSome = true ∧ froz h (a.add j) = false) ∧ F (setcs h a cs.toList 0)
def NZ (b : Int) (p : Prop) : Prop := b ≠ 0 ∧ p
def NN (b : Int) (p : Prop) : Prop := 0 ≤ b ∧ p
def IDX (i : Int) (n : Nat) (p : Prop) : Prop := (0 ≤ i ∧ i < (n : Int)) ∧ p
def IDXS (b : Option Addr) (i : Int) (n : Nat) (F : Addr → Prop) : Prop := match b with | some a => (0 ≤ i ∧ i < (n : Int)) ∧ F a | none => False
def byteAt (s : ByteArray) (i : Int) : Int := ((s[i.toNat]?).map fun b => (b.toNat : Int)).getD 0
def SIZ (n m : Nat) (p : Prop) : Prop := n = m ∧ p
/-- r is what a float operation may give: the exact word, or any NaN. -/
def isNaNW (k : FloatKind) (r : Nat) : Prop :=
  match k with
  | .f32 => ∃ t : Nat, r = (t % 2) * 2 ^ 31 + 0x7f800000 + 1 + (t / 2) % (2 ^ 23 - 1)
  | .f64 => ∃ t : Nat, r = (t % 2) * 2 ^ 63 + 0x7ff0000000000000 + 1 + (t / 2) % (2 ^ 52 - 1)
def IsF (k : FloatKind) (o : Option Nat) (r : Nat) : Prop := match o with | some v => r = v | none => isNaNW k r
def FOP (k : FloatKind) (o : Option Nat) (F : Nat → Prop) : Prop := ∀ r, IsF k o r → F r
def fop (op : BinOp) (k : FloatKind) (a b : Nat) : Option Nat :=
  match op with | .add => k.format.add a b | .sub => k.format.sub a b | .mul => k.format.mul a b | .quo => k.format.div a b | _ => none
/-- What a float may become in the other kind. -/
def IsFF (s : FloatKind) (b : Nat) (d : FloatKind) (r : Nat) : Prop :=
  match s.decode b with
  | .nan _ _ => isNaNW d r
  | .infinity n => r = d.encode (.infinity n)
  | .number n m e => if (d.decode (d.encode (.number n m e))).isInfinity then r < 2 ^ 32 else r = d.encode (.number n m e)
def FFC (s : FloatKind) (b : Nat) (d : FloatKind) (F : Nat → Prop) : Prop := ∀ r, IsFF s b d r → F r
/-- What a float may become as an integer: cut towards zero where it fits, any of the kind else. -/
def IsFI (s : FloatKind) (b : Nat) (d : IntKind) (n : Int) : Prop :=
  match (s.decode b).toInt .zero with
  | some m => if d.min ≤ m ∧ m ≤ d.max then n = m else ∃ t : Int, n = d.wrap t
  | none => ∃ t : Int, n = d.wrap t
def FIC (s : FloatKind) (b : Nat) (d : IntKind) (F : Int → Prop) : Prop := ∀ n, IsFI s b d n → F n
def bitI (op : BinOp) (k : IntKind) (x y : Int) : Int :=
  let a := BitVec.ofInt k.bits x
  let b := BitVec.ofInt k.bits y
  match op with
  | .and => k.wrap (a &&& b).toNat | .or => k.wrap (a ||| b).toNat | .xor => k.wrap (a ^^^ b).toNat | _ => k.wrap (a &&& ~~~b).toNat
def shlI (k : IntKind) (x y : Int) : Int := k.wrap (x * 2 ^ (min y.toNat k.bits))
def shrI (k : IntKind) (x y : Int) : Int := x.fdiv (2 ^ (min y.toNat k.bits))
/-- make([]T, l, c) -/
def MKS (i : TI) (e : Nat) (l c : Int) (F : Nat → Heap → Prop) (h : Heap) : Prop :=
  (0 ≤ l ∧ l ≤ c ∧ (i.bytes : Int) * c ≤ 2 ^ 48 ∧ c ≤ 9223372036854775807 ∧ i.zero ≠ []) ∧ ALC ((Array.range (c.toNat * i.size)).map fun j => (⟨i.zero⟩ : Array Value)[j % (⟨i.zero⟩ : Array Value).size]!) e F h
def SLB (lo hi cap : Int) (p : Prop) : Prop := (0 ≤ lo ∧ lo ≤ hi ∧ hi ≤ cap) ∧ p
def SLB3 (lo hi mx cap : Int) (p : Prop) : Prop := (0 ≤ lo ∧ lo ≤ hi ∧ hi ≤ mx ∧ mx ≤ cap) ∧ p
/-- The address of a slice of a slice: at the capacity's end it stays. -/
def slA (b : Option Addr) (cap lo size : Nat) : Option Addr := if cap = lo then b else b.map (·.add (lo * size))
def slP (a : Addr) (cap lo size : Nat) : Addr := if cap = lo then a else a.add (lo * size)
end Go.Sx
/- Each operation of loaded Go code in these words (opI), and that the words say no less than the model does (opI_sound). -/
namespace Go.Sx

def lget : Frame → Nat → Value
  | [], _ => undef
  | v :: _, 0 => v
  | _ :: l, n + 1 => lget l n
def lset : Frame → Nat → Value → Frame
  | [], _, _ => []
  | _ :: l, 0, u => u :: l
  | v :: l, n + 1, u => v :: lset l n u
def evL (fr : Frame) : Operand → Value
  | .tmp t => lget fr t
  | .const v => v
  | .global g => .pointer (some ⟨g, 0, none⟩)
  | .func f => .func (.func f) #[] #[]
def putL (fr : Frame) (d : Option Tmp) (v : Value) : Frame := match d with | some d => lset fr d v | none => fr

/-- A value that fits one cell. -/
def OC (v : Value) (p : Prop) : Prop := match v with | .agg _ | .tuple _ => False | _ => p
def splice (off size : Nat) (cs : Array Value) (cells : List Value) : List Value := cells.take off ++ (cs.toList ++ cells.drop (off + size))
/-- Aggregates put together out of their parts. -/
def fillI (pl : Nat → Option (Nat × Nat)) (n0 : Nat) : List (Nat × Value) → List Value → (List Value → Prop) → Prop
  | [], cells, F => F cells
  | (i, v) :: rest, cells, F =>
    match pl i with
    | none => False
    | some (off, size) => bif Nat.ble (off + size) n0 then
        (match v with
        | .agg cs => SIZ cs.size size (fillI pl n0 rest (splice off size cs cells) F)
        | v => bif Nat.beq size 1 then fillI pl n0 rest (cells.set off v) F else False)
      else False
def fldPl (τ : Static) (fs : List (Nat × Nat)) (i : Nat) : Option (Nat × Nat) :=
  match fs[i]? with
  | some (t, off) => (match ti τ t with | some j => some (off, j.size) | none => none)
  | none => none
def zerosI (i : TI) (n : Nat) : List Value := (List.range n).map fun j => lget i.zero (j % i.zero.length)

def binI (τ : Static) (op : BinOp) (t : Nat) (x y : Value) (raw : Prop) (K : Value → Prop) : Prop :=
  match x, y with
  | .int k a, .int k' b =>
    (match op with
    | .shl => NN b (K (.int k (shlI k a b)))
    | .shr => NN b (K (.int k (shrI k a b)))
    | op => if k = k' then
        (match op with
        | .add => K (.int k (k.wrap (a + b)))
        | .sub => K (.int k (k.wrap (a - b)))
        | .mul => K (.int k (k.wrap (a * b)))
        | .quo => NZ b (K (.int k (k.wrap (a.tdiv b))))
        | .rem => NZ b (K (.int k (a.tmod b)))
        | .and => K (.int k (bitI .and k a b))
        | .or => K (.int k (bitI .or k a b))
        | .xor => K (.int k (bitI .xor k a b))
        | .andNot => K (.int k (bitI .andNot k a b))
        | .eql => K (.bool (a == b))
        | .neq => K (.bool (a != b))
        | .lss => K (.bool (decide (a < b)))
        | .leq => K (.bool (decide (a ≤ b)))
        | .gtr => K (.bool (decide (b < a)))
        | .geq => K (.bool (decide (b ≤ a)))
        | _ => False) else False)
  | .float k a, .float k' b =>
    if k = k' then
      (match op with
      | .add => FOP k (k.format.add a b) fun r => K (.float k r)
      | .sub => FOP k (k.format.sub a b) fun r => K (.float k r)
      | .mul => FOP k (k.format.mul a b) fun r => K (.float k r)
      | .quo => FOP k (k.format.div a b) fun r => K (.float k r)
      | .eql => K (.bool (k.format.order a b == some .eq))
      | .neq => K (.bool (k.format.order a b != some .eq))
      | .lss => K (.bool (k.format.order a b == some .lt))
      | .leq => K (.bool (k.format.order a b == some .lt || k.format.order a b == some .eq))
      | .gtr => K (.bool (k.format.order a b == some .gt))
      | .geq => K (.bool (k.format.order a b == some .gt || k.format.order a b == some .eq))
      | _ => False) else False
  | .string a, .string b =>
    (match op with
    | .add => ((a.size + b.size : Nat) : Int) ≤ 9223372036854775807 ∧ K (.string (a ++ b))
    | .eql => K (.bool (a.toList == b.toList))
    | .neq => K (.bool (!(a.toList == b.toList)))
    | .lss => K (.bool (Op.bytesLess a.toList b.toList))
    | _ => False)
  | .bool a, .bool b =>
    (match ti τ t with
    | some ⟨.bool, _, _, _⟩ => (match op with | .eql => K (.bool (a == b)) | .neq => K (.bool (!(a == b))) | _ => False)
    | _ => False)
  | _, _ => raw

/-- '==', '!=' of values that are compared part by part. -/
def CMP (P : Program) (op : BinOp) (t : Nat) (xo yo : Operand) (x y : Value) (F : Bool → Heap → Prop) (h : Heap) : Prop :=
  SEMV P (do eqGuard op t xo yo x y; binOp op t x y) (fun v h => asB v fun b => F b h) h

def unI (op : UnOp) (x : Value) (K : Value → Prop) : Prop :=
  match op, x with
  | .not, .bool b => K (.bool !b)
  | .neg, .int k n => K (.int k (k.wrap (0 - n)))
  | .neg, .float k b => K (.float k (Op.negFloat k b))
  | .xor, .int k n => K (.int k (bitI .xor k (if k.signed then -1 else k.max) n))
  | _, _ => False

def convI (τ : Static) (s d : Nat) (x : Value) (raw : Prop) (K : Value → Prop) : Prop :=
  match ti τ s, ti τ d with
  | some _, some i =>
    (match i.ty, x with
    | .int k, .int _ n => K (.int k (k.wrap n))
    | .float k, .int _ n => K (.float k (k.nearest n))
    | .int k, .float q b => FIC q b k fun n => K (.int k n)
    | .float k, .float q b => if q = k then K (.float k b) else FFC q b k fun r => K (.float k r)
    | .str, .string b => K (.string b)
    | _, _ => raw)
  | _, _ => raw

def boundI (v : Option Value) (dflt : Int) (F : Int → Prop) : Prop :=
  match v with
  | none => F dflt
  | some (.int _ n) => F n
  | some _ => False

/-- x[lo:hi] of strings, slices, arrays by their addresses; x[lo:hi:max] of slices. -/
def sliceI (τ : Static) (t : Nat) (x : Value) (lo hi mx : Option Value) (K : Value → Prop) : Prop :=
  match mx with
  | some (.int _ m) =>
    (match ti τ t, x, hi with
    | some ⟨.sl e, _, _, _⟩, .slice b _ cap, some (.int _ h) =>
      (match ti τ e with
      | some i => boundI lo 0 fun l => SLB3 l h m cap (K (.slice (slA b m.toNat l.toNat i.size) (h.toNat - l.toNat) (m.toNat - l.toNat)))
      | none => False)
    | _, _, _ => False)
  | some _ => False
  | none =>
    match ti τ t, x with
    | some ⟨.str, _, _, _⟩, .string s => boundI lo 0 fun l => boundI hi s.size fun h => SLB l h s.size (K (.string (s.extract l.toNat h.toNat)))
    | some ⟨.sl e, _, _, _⟩, .slice b len cap =>
      (match ti τ e with
      | some i => boundI lo 0 fun l => boundI hi len fun h => SLB l h cap (K (.slice (slA b cap l.toNat i.size) (h.toNat - l.toNat) (cap - l.toNat)))
      | none => False)
    | some ⟨.arr n e, _, _, _⟩, .pointer (some a) =>
      (match ti τ e with
      | some i => boundI lo 0 fun l => boundI hi n fun h => SLB l h n (K (.slice (some (slP a n l.toNat i.size)) (h.toNat - l.toNat) (n - l.toNat)))
      | none => False)
    | _, _ => False
/-- A call of a function value. -/
def CALLD (P : Program) (f : Value) (args : Array Value) (K : Value → Heap → Prop) (h : Heap) : Prop :=
  match f with
  | .func (.func g) first cap => CALL P g (first ++ args ++ cap) K h
  | v => CALLV P v args K h
def AAP (b : Option Addr) (n len : Nat) (F : Addr → Prop) : Prop := match b with | some a => n ≤ len ∧ F a | none => False

def opI (P : Program) (τ : Static) (o : Oper) (ev : Operand → Value) (K : Value → Heap → Prop) (h : Heap) : Prop :=
  match o.op with
  | .move x => K (ev x) h
  | .assign x => K (ev x) h
  | .pick c a b => (match ev c with | .bool t => BIF t (K (ev a) h) (K (ev b) h) | _ => False)
  | .alloc t => (match ti τ t with
    | some i => bif i.zero.isEmpty then False else ALC ⟨i.zero⟩ t (fun g h => K (.pointer (some ⟨g, 0, none⟩)) h) h
    | none => False)
  | .box t x => ALC (ev x).cells t (fun g h => K (.pointer (some ⟨g, 0, none⟩)) h) h
  | .build t parts => (match ti τ t with
    | some ⟨.st fs, _, _, z⟩ => bif z.isEmpty || !(fs.all fun f => (ti τ f.1).isSome) then False else fillI (fldPl τ fs) z.length (parts.toList.map fun p => (p.1, ev p.2)) z fun cells => K (.agg ⟨cells⟩) h
    | some ⟨.arr _ e, _, _, z⟩ => (match ti τ e with
      | some j => bif z.isEmpty then False else fillI (fun i => some (i * j.size, j.size)) z.length (parts.toList.map fun p => (p.1, ev p.2)) z fun cells => K (.agg ⟨cells⟩) h
      | none => False)
    | _ => False)
  | .buildSlice t len parts => (match ti τ t with
    | some ⟨.sl e, _, _, _⟩ => (match ti τ e with
      | some j => bif Nat.ble (len * j.size) 16777216 && (Nat.beq (len * j.size) 0 || !j.zero.isEmpty) then
          fillI (fun i => some (i * j.size, j.size)) (len * j.size) (parts.toList.map fun p => (p.1, ev p.2)) (zerosI j (len * j.size)) fun cells =>
            ALC ⟨cells⟩ e (fun g h => K (.slice (some ⟨g, 0, none⟩) len len) h) h
        else False
      | none => False)
    | _ => False)
  | .load t x => (match ev x with | .pointer (some a) => LD τ t h a (fun v => K v h) | _ => False)
  | .store t x y => (match ev x with
    | .pointer (some a) => (match ti τ t with
      | some i => (match i.ty with
        | .arr _ _ | .st _ => (match ev y with | .agg cs => STA i.size h a cs fun h => K undef h | _ => False)
        | _ => bif Nat.beq i.size 1 then OC (ev y) (ST1 h a (ev y) fun h => K undef h) else False)
      | none => False)
    | _ => False)
  | .nilCheck x => (match ev x with
    | .pointer (some a) => K (.pointer (some a)) h
    | .func (.func f) a c => K (.func (.func f) a c) h
    | _ => False)
  | .binOp op t x y _ => binI τ op t (ev x) (ev y) (CMP P op t x y (ev x) (ev y) (fun b h => K (.bool b) h) h) fun v => K v h
  | .unOp op _ x => unI op (ev x) fun v => K v h
  | .convert s d x => convI τ s d (ev x) (SEMV P (convert s d (ev x)) (fun v h => asT τ d v fun v => K v h) h) fun v => K v h
  | .makeFunc fn first captured => K (.func fn (first.map ev) (captured.map ev)) h
  | .makeSlice t l c => (match ti τ t with
    | some ⟨.sl e, _, _, _⟩ => (match ti τ e, ev l, ev c with
      | some i, .int _ l, .int _ c => MKS i e l c (fun g h => K (.slice (some ⟨g, 0, none⟩) l.toNat c.toNat) h) h
      | _, _, _ => False)
    | _ => False)
  | .slice t x lo hi mx => sliceI τ t (ev x) (lo.map ev) (hi.map ev) (mx.map ev) fun v => K v h
  | .sliceToArrayPointer t x => (match ti τ t, ev x with
    | some ⟨.arr n _, _, _, _⟩, .slice b len _ => AAP b n len fun a => K (.pointer (some a)) h
    | _, _ => False)
  | .fieldAddr t x i => (match ev x, ti τ t with
    | .pointer (some a), some ⟨.st fs, _, _, _⟩ => (match fs[i]? with
      | some (u, off) => (match ti τ u with
        | some j => bif Nat.beq j.size 0 then False else K (.pointer (some (a.add off))) h
        | none => False)
      | none => False)
    | _, _ => False)
  | .field t x i => (match ev x, ti τ t with
    | .agg cs, some ⟨.st fs, _, _, _⟩ => (match fs[i]? with
      | some (u, off) => GT τ u cs off fun v => K v h
      | none => False)
    | _, _ => False)
  | .indexAddr t x i => (match ti τ t, ev x, ev i with
    | some ⟨.arr n e, _, _, _⟩, .pointer (some a), .int _ i => (match ti τ e with
      | some j => IDX i n (K (.pointer (some (a.add (i.toNat * j.size)))) h)
      | none => False)
    | some ⟨.sl e, _, _, _⟩, .slice b len _, .int _ i => (match ti τ e with
      | some j => IDXS b i len fun a => K (.pointer (some (a.add (i.toNat * j.size)))) h
      | none => False)
    | _, _, _ => False)
  | .index t x i => (match ti τ t, ev x, ev i with
    | some ⟨.arr n e, _, _, _⟩, .agg cs, .int _ i => (match ti τ e with
      | some j => IDX i n (GT τ e cs (i.toNat * j.size) fun v => K v h)
      | none => False)
    | some ⟨.str, _, _, _⟩, .string s, .int _ i => IDX i s.size (K (.int .u8 (byteAt s i)) h)
    | _, _, _ => False)
  | .extract x i => (match ev x with
    | .tuple vs => (match vs.toList[i]? with | some v => K v h | none => False)
    | _ => False)
  | .call c => (match c.callee with
    | .value f => CALLD P (ev f) (c.args.map ev) (fun v h => asT τ o.type v fun v => K v h) h
    | .builtin .len => (match c.args.toList, c.argTypes.toList with
      | [x], [t] => (match ti τ t, ev x with
        | some ⟨.str, _, _, _⟩, .string s => K (.int .i64 s.size) h
        | some ⟨.sl _, _, _, _⟩, .slice _ n _ => K (.int .i64 n) h
        | some ⟨.arr n _, _, _, _⟩, _ => K (.int .i64 n) h
        | _, _ => SEMV P (Builtin.len_ c.argTypes o.type (c.args.map ev)) K h)
      | _, _ => False)
    | .builtin b => SEMN P (builtin b c.argTypes o.type (c.args.map fun | .const _ => true | _ => false) (c.args.map ev)) (fun v h => asT τ o.type v fun v => K v h) h
    | _ => SEMN P (execOp ev o) K h)
  | _ => SEMN P (execOp ev o) (fun v h => asT τ o.type v fun v => K v h) h
end Go.Sx
/- The words say no less than the model does: opI_sound. -/
namespace Go.Sx
variable {P : Program} {τ : Static}

theorem UponN.mono {r : Result Next} {N N' : Value → World → Prop} (hn : ∀ v w, N v w → N' v w) (h : UponN P r N) : UponN P r N' := by
  cases r with
  | ok n w => cases n <;> first
    | exact hn _ _ h
    | exact h.elim
    | exact Calls.mono h fun e w' ⟨v, he, hv⟩ => ⟨v, he, hn _ _ hv⟩
  | halt x w => exact h.elim
theorem SEMN.mono {s : Sem Next} {K K' : Value → Heap → Prop} {h : Heap} (hk : ∀ v h, K v h → K' v h) (H : SEMN P s K h) : SEMN P s K' h :=
  fun w hw => UponN.mono (fun _ _ ⟨a, b⟩ => ⟨a, hk _ _ b⟩) (H w hw)
theorem CALL.mono {f : FuncId} {args : Array Value} {K K' : Value → Heap → Prop} {h : Heap} (hk : ∀ v h, K v h → K' v h) (H : CALL P f args K h) : CALL P f args K' h := SEMN.mono hk H

theorem asI_out {k : IntKind} {v : Value} {F : Int → Prop} (h : asI k v F) : ∃ n, v = .int k n ∧ F n := by
  cases v <;> simp only [asI] at h <;> first | exact h.elim | skip
  split at h
  · rename_i e; subst e; exact ⟨_, rfl, h⟩
  · exact h.elim
theorem asB_out {v : Value} {F : Bool → Prop} (h : asB v F) : ∃ n, v = .bool n ∧ F n := by
  cases v <;> simp only [asB] at h <;> first | exact h.elim | exact ⟨_, rfl, h⟩
theorem asF_out {k : FloatKind} {v : Value} {F : Nat → Prop} (h : asF k v F) : ∃ n, v = .float k n ∧ F n := by
  cases v <;> simp only [asF] at h <;> first | exact h.elim | skip
  split at h
  · rename_i e; subst e; exact ⟨_, rfl, h⟩
  · exact h.elim
theorem asS_out {v : Value} {F : ByteArray → Prop} (h : asS v F) : ∃ n, v = .string n ∧ F n := by
  cases v <;> simp only [asS] at h <;> first | exact h.elim | exact ⟨_, rfl, h⟩
theorem asP_out {v : Value} {F : Addr → Prop} (h : asP v F) : ∃ n, v = .pointer (some n) ∧ F n := by
  cases v <;> simp only [asP] at h <;> first | exact h.elim | skip
  split at h <;> first | exact h.elim | exact ⟨_, by simp_all, h⟩
theorem asL_out {v : Value} {F : Option Addr → Nat → Nat → Prop} (h : asL v F) : ∃ b l c, v = .slice b l c ∧ F b l c := by
  cases v <;> simp only [asL] at h <;> first | exact h.elim | exact ⟨_, _, _, rfl, h⟩
theorem asA_out {v : Value} {F : Array Value → Prop} (h : asA v F) : ∃ n, v = .agg n ∧ F n := by
  cases v <;> simp only [asA] at h <;> first | exact h.elim | exact ⟨_, rfl, h⟩
theorem TUP2_out {v : Value} {F : Value → Value → Prop} (h : TUP2 v F) : ∃ a b, v = .tuple ⟨[a, b]⟩ ∧ F a b := by
  unfold TUP2 at h; split at h <;> first | exact h.elim | exact ⟨_, _, rfl, h⟩
theorem TUP3_out {v : Value} {F : Value → Value → Value → Prop} (h : TUP3 v F) : ∃ a b c, v = .tuple ⟨[a, b, c]⟩ ∧ F a b c := by
  unfold TUP3 at h; split at h <;> first | exact h.elim | exact ⟨_, _, _, rfl, h⟩
theorem TUP4_out {v : Value} {F : Value → Value → Value → Value → Prop} (h : TUP4 v F) : ∃ a b c d, v = .tuple ⟨[a, b, c, d]⟩ ∧ F a b c d := by
  unfold TUP4 at h; split at h <;> first | exact h.elim | exact ⟨_, _, _, _, rfl, h⟩
theorem TUP5_out {v : Value} {F : Value → Value → Value → Value → Value → Prop} (h : TUP5 v F) : ∃ a b c d e, v = .tuple ⟨[a, b, c, d, e]⟩ ∧ F a b c d e := by
  unfold TUP5 at h; split at h <;> first | exact h.elim | exact ⟨_, _, _, _, _, rfl, h⟩
theorem as1_out {t : Nat} {v : Value} {K : Value → Prop} (h : as1 τ t v K) : K v := by
  unfold as1 at h
  split at h
  · exact h
  · split at h
    · obtain ⟨n, rfl, h'⟩ := asI_out h; exact h'
    · obtain ⟨n, rfl, h'⟩ := asB_out h; exact h'
    · obtain ⟨n, rfl, h'⟩ := asF_out h; exact h'
    · obtain ⟨n, rfl, h'⟩ := asS_out h; exact h'
    · obtain ⟨n, rfl, h'⟩ := asP_out h; exact h'
    · obtain ⟨b, l, c, rfl, h'⟩ := asL_out h; exact h'
    · obtain ⟨n, rfl, h'⟩ := asA_out h; exact h'
    · obtain ⟨n, rfl, h'⟩ := asA_out h; exact h'
    · exact h
    · exact h
theorem asT_out {t : Nat} {v : Value} {K : Value → Prop} (h : asT τ t v K) : K v := by
  unfold asT at h
  split at h
  · exact h
  · obtain ⟨a, b, rfl, h'⟩ := TUP2_out h; replace h' := as1_out h'; replace h' := as1_out h'; exact h'
  · obtain ⟨a, b, c, rfl, h'⟩ := TUP3_out h; replace h' := as1_out h'; replace h' := as1_out h'; replace h' := as1_out h'; exact h'
  · obtain ⟨a, b, c, d, rfl, h'⟩ := TUP4_out h; replace h' := as1_out h'; replace h' := as1_out h'; replace h' := as1_out h'; replace h' := as1_out h'; exact h'
  · obtain ⟨a, b, c, d, e, rfl, h'⟩ := TUP5_out h; replace h' := as1_out h'; replace h' := as1_out h'; replace h' := as1_out h'; replace h' := as1_out h'; replace h' := as1_out h'; exact h'
  · exact as1_out h
theorem oI_out {k : IntKind} {v : Option Value} {F : Int → Prop} (h : oI k v F) : ∃ n, v = some (.int k n) ∧ F n := by
  cases v with | none => exact h.elim | some v => obtain ⟨n, rfl, h'⟩ := asI_out h; exact ⟨n, rfl, h'⟩
theorem oB_out {v : Option Value} {F : Bool → Prop} (h : oB v F) : ∃ n, v = some (.bool n) ∧ F n := by
  cases v with | none => exact h.elim | some v => obtain ⟨n, rfl, h'⟩ := asB_out h; exact ⟨n, rfl, h'⟩
theorem oF_out {k : FloatKind} {v : Option Value} {F : Nat → Prop} (h : oF k v F) : ∃ n, v = some (.float k n) ∧ F n := by
  cases v with | none => exact h.elim | some v => obtain ⟨n, rfl, h'⟩ := asF_out h; exact ⟨n, rfl, h'⟩
theorem oS_out {v : Option Value} {F : ByteArray → Prop} (h : oS v F) : ∃ n, v = some (.string n) ∧ F n := by
  cases v with | none => exact h.elim | some v => obtain ⟨n, rfl, h'⟩ := asS_out h; exact ⟨n, rfl, h'⟩
theorem oP_out {v : Option Value} {F : Addr → Prop} (h : oP v F) : ∃ n, v = some (.pointer (some n)) ∧ F n := by
  cases v with | none => exact h.elim | some v => obtain ⟨n, rfl, h'⟩ := asP_out h; exact ⟨n, rfl, h'⟩
theorem oL_out {v : Option Value} {F : Option Addr → Nat → Nat → Prop} (h : oL v F) : ∃ b l c, v = some (.slice b l c) ∧ F b l c := by
  cases v with | none => exact h.elim | some v => obtain ⟨b, l, c, rfl, h'⟩ := asL_out h; exact ⟨b, l, c, rfl, h'⟩
theorem oV_out {v : Option Value} {F : Value → Prop} (h : oV v F) : ∃ n, v = some n ∧ F n := by
  cases v with | none => exact h.elim | some v => exact ⟨v, rfl, h⟩

/-! ### Types looked up -/
theorem okTi (hτ : OkS P τ) {t : Nat} {i : TI} (h : ti τ t = some i) : okT P (t, i) := hτ _ (ti_mem h)
theorem und_of (hτ : OkS P τ) {t : Nat} {i : TI} (h : ti τ t = some i) : ∃ d, P.underlying t = some d ∧ tyOf d = i.ty := by
  obtain ⟨d, _, h1, h2, _⟩ := okTi hτ h; exact ⟨d, h1, h2⟩
theorem info_of (hτ : OkS P τ) {t : Nat} {i : TI} (h : ti τ t = some i) : ∃ j, P.info? t = some j ∧ j.size = i.size ∧ j.bytes = i.bytes ∧ (i.zero = [] ∨ ∃ z, j.zero = some z ∧ z.cells.toList = i.zero) := by
  obtain ⟨d, j, h1, h2, h3, h4, h5, h6⟩ := okTi hτ h; exact ⟨j, h3, h4, h5, h6⟩
theorem run_und (hτ : OkS P τ) {t : Nat} {i : TI} (h : ti τ t = some i) : ∃ d, P.underlying t = some d ∧ tyOf d = i.ty ∧ ∀ w, (underlying t).run P w = .ok d w := by
  obtain ⟨d, h1, h2⟩ := und_of hτ h; exact ⟨d, h1, h2, fun w => run_underlying h1 w⟩
theorem run_size (hτ : OkS P τ) {t : Nat} {i : TI} (h : ti τ t = some i) (w : World) : (sizeOf t).run P w = .ok i.size w := by
  obtain ⟨j, h1, h2, _⟩ := info_of hτ h
  simp [sizeOf, typeInfo, h1, h2]
theorem run_info (hτ : OkS P τ) {t : Nat} {i : TI} (h : ti τ t = some i) : ∃ j, P.info? t = some j ∧ j.size = i.size ∧ j.bytes = i.bytes ∧ ∀ w, (typeInfo t).run P w = .ok j w := by
  obtain ⟨j, h1, h2, h3, _⟩ := info_of hτ h
  exact ⟨j, h1, h2, h3, fun w => by simp [typeInfo, h1]⟩
theorem run_zero (hτ : OkS P τ) {t : Nat} {i : TI} (h : ti τ t = some i) (hz : i.zero ≠ []) : ∃ z : Value, z.cells.toList = i.zero ∧ ∀ w, (zeroValue t).run P w = .ok z w := by
  obtain ⟨j, h1, h2, h3, h4⟩ := info_of hτ h
  obtain ⟨z, hz1, hz2⟩ := h4.resolve_left hz
  exact ⟨z, hz2, fun w => by simp [zeroValue, typeInfo, h1, hz1]⟩
def aggTy : Ty → Bool | .arr _ _ => true | .st _ => true | _ => false
theorem run_isAgg (hτ : OkS P τ) {t : Nat} {i : TI} (h : ti τ t = some i) (w : World) : (isAgg t).run P w = .ok (aggTy i.ty) w := by
  obtain ⟨d, h1, h2, h3⟩ := run_und hτ h
  simp only [isAgg, Sem.run_bind, h3, Result.andThen_ok]
  rw [← h2]
  cases d <;> simp [tyOf, aggTy]

/-! ### Loads and stores -/
theorem run_loadVar_one (hτ : OkS P τ) {t : Nat} {i : TI} (h : ti τ t = some i) (ha : aggTy i.ty = false) {w : World} {a : Addr} {v : Value} (hc : cell w.heap a = some v) : (loadVar t a).run P w = .ok v w := by
  rw [← cell_eq] at hc
  simp [loadVar, run_isAgg hτ h, ha, hc]
theorem run_loadVar_agg (hτ : OkS P τ) {t : Nat} {i : TI} (h : ti τ t = some i) (ha : aggTy i.ty = true) {w : World} {a : Addr} {cs : Array Value} (hs : cs.size = i.size) (hc : ∀ j, j < i.size → cell w.heap (a.add j) = cs[j]?) : (loadVar t a).run P w = .ok (.agg cs) w := by
  have hl : (loadCells a i.size).run P w = .ok cs w := by
    have := run_loadCells_list (P := P) (w := w) a cs.toList (fun j v hj => by
      have hj' : j < i.size := by
        rw [← hs]
        simpa using (List.getElem?_eq_some_iff.1 hj).1
      rw [cell_eq, hc j hj']
      simpa using hj)
    simpa [hs] using this
  simp [loadVar, run_isAgg hτ h, ha, run_size hτ h, hl]
theorem LD_out (hτ : OkS P τ) {t : Nat} {w : World} {a : Addr} {K : Value → Prop} (h : LD τ t w.heap a K) : ∃ v, (loadVar t a).run P w = .ok v w ∧ K v := by
  unfold LD at h
  split at h
  · exact h.elim
  · rename_i i hi
    split at h
    · rename_i k e; obtain ⟨n, hc, h⟩ := oI_out h; exact ⟨_, run_loadVar_one hτ hi (by simp [e, aggTy]) hc, h⟩
    · rename_i e; obtain ⟨n, hc, h⟩ := oB_out h; exact ⟨_, run_loadVar_one hτ hi (by simp [e, aggTy]) hc, h⟩
    · rename_i k e; obtain ⟨n, hc, h⟩ := oF_out h; exact ⟨_, run_loadVar_one hτ hi (by simp [e, aggTy]) hc, h⟩
    · rename_i e; obtain ⟨n, hc, h⟩ := oS_out h; exact ⟨_, run_loadVar_one hτ hi (by simp [e, aggTy]) hc, h⟩
    · rename_i e; obtain ⟨n, hc, h⟩ := oP_out h; exact ⟨_, run_loadVar_one hτ hi (by simp [e, aggTy]) hc, h⟩
    · rename_i u e; obtain ⟨b, l, c, hc, h⟩ := oL_out h; exact ⟨_, run_loadVar_one hτ hi (by simp [e, aggTy]) hc, h⟩
    · rename_i n u e; obtain ⟨cs, h1, h2, h⟩ := h; exact ⟨_, run_loadVar_agg hτ hi (by simp [e, aggTy]) h1 h2, h⟩
    · rename_i fs e; obtain ⟨cs, h1, h2, h⟩ := h; exact ⟨_, run_loadVar_agg hτ hi (by simp [e, aggTy]) h1 h2, h⟩
    · rename_i e; obtain ⟨n, hc, h⟩ := oV_out h; exact ⟨_, run_loadVar_one hτ hi (by simp [e, aggTy]) hc, h⟩
    · exact h.elim
theorem run_part_one (hτ : OkS P τ) {t : Nat} {i : TI} (h : ti τ t = some i) (ha : aggTy i.ty = false) {w : World} {cs : Array Value} {off : Nat} {v : Value} (hc : cs[off]? = some v) : (part t cs off).run P w = .ok v w := by
  simp [part, run_isAgg hτ h, ha, hc]
theorem GT_out (hτ : OkS P τ) {t : Nat} {w : World} {cs : Array Value} {off : Nat} {K : Value → Prop} (h : GT τ t cs off K) : ∃ v, (part t cs off).run P w = .ok v w ∧ K v := by
  unfold GT at h
  split at h
  · exact h.elim
  · rename_i i hi
    split at h
    · rename_i k e; obtain ⟨n, hc, h⟩ := oI_out h; exact ⟨_, run_part_one hτ hi (by simp [e, aggTy]) hc, h⟩
    · rename_i e; obtain ⟨n, hc, h⟩ := oB_out h; exact ⟨_, run_part_one hτ hi (by simp [e, aggTy]) hc, h⟩
    · rename_i k e; obtain ⟨n, hc, h⟩ := oF_out h; exact ⟨_, run_part_one hτ hi (by simp [e, aggTy]) hc, h⟩
    · rename_i e; obtain ⟨n, hc, h⟩ := oS_out h; exact ⟨_, run_part_one hτ hi (by simp [e, aggTy]) hc, h⟩
    · rename_i e; obtain ⟨n, hc, h⟩ := oP_out h; exact ⟨_, run_part_one hτ hi (by simp [e, aggTy]) hc, h⟩
    · rename_i u e; obtain ⟨b, l, c, hc, h⟩ := oL_out h; exact ⟨_, run_part_one hτ hi (by simp [e, aggTy]) hc, h⟩
    · rename_i n u e; exact ⟨_, by simp [part, run_isAgg hτ hi, e, aggTy, run_size hτ hi], h⟩
    · rename_i fs e; exact ⟨_, by simp [part, run_isAgg hτ hi, e, aggTy, run_size hτ hi], h⟩
    · rename_i e; obtain ⟨n, hc, h⟩ := oV_out h; exact ⟨_, run_part_one hτ hi (by simp [e, aggTy]) hc, h⟩
    · exact h.elim

theorem cell_setc_isSome (h : Heap) (a b : Addr) (v : Value) : (cell (setc h a v) b).isSome = (cell h b).isSome := by
  unfold cell setc
  rw [Array.getElem?_modify]
  by_cases e : a.block = b.block
  · rw [if_pos e]
    cases hb : h[b.block]? with
    | none => rfl
    | some o =>
      cases o with
      | cells c t f =>
        simp only [Option.map_some]
        by_cases hs : b.spot.isSome = true
        · simp [hs]
        · by_cases ha : a.spot.isSome = true
          · simp [hs, ha]
          · simp only [hs, ha, Bool.false_eq_true, if_false]
            rw [Array.getElem?_setIfInBounds]
            split
            · rename_i e2; rw [e2]; split <;> simp_all
            · rfl
      | _ => rfl
  · rw [if_neg e]
theorem froz_setc (h : Heap) (a b : Addr) (v : Value) : froz (setc h a v) b = froz h b := by
  unfold froz setc
  rw [Array.getElem?_modify]
  by_cases e : a.block = b.block
  · rw [if_pos e]
    cases hb : h[b.block]? with
    | none => rfl
    | some o => cases o <;> rfl
  · rw [if_neg e]
theorem setCell_same (w : World) (a : Addr) (v : Value) : Same w (w.setCell a v) := ⟨rfl, rfl, rfl⟩
theorem run_store1 {w : World} {a : Addr} {v : Value} (hv : v.oneCell' = true) (h1 : (cell w.heap a).isSome = true) (h2 : froz w.heap a = false) : (store a v).run P w = .ok () (w.setCell a v) := by
  rw [run_store P w a v .plain hv]
  rw [← cell_eq] at h1
  rw [← froz_eq] at h2
  obtain ⟨u, hu⟩ := Option.isSome_iff_exists.1 h1
  simp [hu, h2]
theorem run_storeCells_setcs (a : Addr) : ∀ (vs : List Value) (i : Nat) (w : World), (∀ v ∈ vs, v.oneCell' = true) →
    (∀ j, j < vs.length → (cell w.heap (a.add (i + j))).isSome = true ∧ froz w.heap (a.add (i + j)) = false) →
    ∃ w', (storeCells a vs i).run P w = .ok () w' ∧ Same w w' ∧ w'.heap = setcs w.heap a vs i
  | [], i, w, _, _ => ⟨w, rfl, Same.refl w, rfl⟩
  | v :: r, i, w, h1, h2 => by
    have h0 := h2 0 (by simp)
    rw [Nat.add_zero] at h0
    obtain ⟨w', hr, hs, hh⟩ := run_storeCells_setcs a r (i + 1) (w.setCell (a.add i) v) (fun u hu => h1 u (List.mem_cons_of_mem _ hu)) (fun j hj => by
      have := h2 (j + 1) (by simp; omega)
      rw [show i + (j + 1) = i + 1 + j from by omega] at this
      rw [setc_eq, cell_setc_isSome, froz_setc]
      exact this)
    refine ⟨w', ?_, (setCell_same w _ _).trans hs, ?_⟩
    · simp only [storeCells, Sem.run_bind, run_store1 (h1 v (List.mem_cons_self ..)) h0.1 h0.2, Result.andThen_ok]
      exact hr
    · rw [hh, setc_eq]; rfl
theorem OC_out {v : Value} {p : Prop} (h : OC v p) : v.oneCell' = true ∧ v.cells = #[v] ∧ p := by
  cases v <;> first | exact h.elim | exact ⟨rfl, rfl, h⟩
theorem run_store_one (hτ : OkS P τ) {t : Nat} {i : TI} (h : ti τ t = some i) (hs : i.size = 1) {w : World} {a : Addr} {v : Value} (hv : v.oneCell' = true) (hvc : v.cells = #[v]) (h1 : (cell w.heap a).isSome = true) (h2 : froz w.heap a = false) :
    (storeVar t a v).run P w = .ok () (w.setCell a v) := by
  have ha : a.add 0 = a := by simp [Addr.add]
  simp [storeVar, run_size hτ h, hs, hvc, storeCells, ha, run_store1 hv h1 h2]
theorem run_store_agg (hτ : OkS P τ) {t : Nat} {i : TI} (h : ti τ t = some i) {w : World} {a : Addr} {cs : Array Value} (hn : cs.size = i.size) (h1 : ∀ v ∈ cs.toList, v.oneCell' = true)
    (h2 : ∀ j, j < i.size → (cell w.heap (a.add j)).isSome = true ∧ froz w.heap (a.add j) = false) :
    ∃ w', (storeVar t a (.agg cs)).run P w = .ok () w' ∧ Same w w' ∧ w'.heap = setcs w.heap a cs.toList 0 := by
  obtain ⟨w', hr, hs, hh⟩ := run_storeCells_setcs (P := P) a cs.toList 0 w h1 (fun j hj => by
    rw [Nat.zero_add]; exact h2 j (by rw [← hn]; simpa using hj))
  exact ⟨w', by simp [storeVar, run_size hτ h, hn, Value.cells, hr], hs, hh⟩
end Go.Sx
/- opI_sound: what opI says of an operation holds of its run. -/
namespace Go.Sx
variable {P : Program} {τ : Static}

/-- One value, the world as it was but for its heap and draws. -/
theorem semn_val {s : Sem Next} {K : Value → Heap → Prop} {h : Heap} (H : ∀ w : World, w.heap = h → ∃ v w', s.run P w = .ok (.value v) w' ∧ Same w w' ∧ K v w'.heap) : SEMN P s K h := by
  intro w hw
  obtain ⟨v, w', hr, hs, hk⟩ := H w hw
  rw [hr]
  exact ⟨hs, hk⟩
theorem semn_skip {s : Sem Next} {K : Value → Heap → Prop} {h : Heap} (H : ∀ w : World, w.heap = h → ∃ w', s.run P w = .ok .skip w' ∧ Same w w' ∧ K undef w'.heap) : SEMN P s K h := by
  intro w hw
  obtain ⟨w', hr, hs, hk⟩ := H w hw
  rw [hr]
  exact ⟨hs, hk⟩
theorem semn_pure {v : Value} {K : Value → Heap → Prop} {h : Heap} (hk : K v h) : SEMN P (pure (.value v)) K h :=
  semn_val fun w hw => ⟨v, w, rfl, Same.refl w, by rw [hw]; exact hk⟩
/-- A computation of a value that leaves the world alone. -/
theorem semn_v {s : Sem Value} {v : Value} {K : Value → Heap → Prop} {h : Heap} (hs : ∀ w : World, w.heap = h → s.run P w = .ok v w) (hk : K v h) : SEMV P s K h :=
  semn_val fun w hw => ⟨v, w, by simp [hs w hw], Same.refl w, by rw [hw]; exact hk⟩
theorem semn_v' {s : Sem Value} {K : Value → Heap → Prop} {h : Heap} (hs : ∀ w : World, w.heap = h → ∃ v w', s.run P w = .ok v w' ∧ Same w w' ∧ K v w'.heap) : SEMV P s K h :=
  semn_val fun w hw => by
    obtain ⟨v, w', hr, h1, h2⟩ := hs w hw
    exact ⟨v, w', by simp [hr], h1, h2⟩

/-! ### choose -/
theorem drew_same (w : World) (n : Nat) : Same w { w with drawn := n } := ⟨rfl, rfl, rfl⟩
theorem nan_choose32 (q : Question) (hq : q.forced = false) (hc : ∀ t, isNaNW .f32 (q.cut t)) (w : World) : ∃ r, (choose q).run P w = .ok r { w with drawn := w.drawn + 1 } ∧ isNaNW .f32 r :=
  ⟨_, by rw [run_choose, hq]; rfl, hc _⟩
theorem nan_choose (k : FloatKind) (q : Question) (hq : q.forced = false) (hc : ∀ t, isNaNW k (q.cut t)) (w : World) : ∃ r, (choose q).run P w = .ok r { w with drawn := w.drawn + 1 } ∧ isNaNW k r :=
  ⟨_, by rw [run_choose, hq]; rfl, hc _⟩
theorem cut_nanBits (k : FloatKind) (x y t : Nat) : isNaNW k ((Question.nanBits k x y).cut t) := by
  cases k <;> exact ⟨t, rfl⟩
theorem cut_nanConv (k : FloatKind) (x t : Nat) : isNaNW k ((Question.nanConv k x).cut t) := by
  cases k <;> exact ⟨t, rfl⟩

def farS (k : FloatKind) (a b : Nat) (o : Option Nat) : Sem Value := match o with | some r => pure (.float k r) | none => do pure (.float k (← choose (.nanBits k a b)))
theorem run_far (k : FloatKind) (a b : Nat) (o : Option Nat) (w : World) :
    ∃ r w', (farS k a b o).run P w = .ok (.float k r) w' ∧ Same w w' ∧ w'.heap = w.heap ∧ IsF k o r := by
  cases o with
  | some r => exact ⟨r, w, rfl, Same.refl w, rfl, rfl⟩
  | none =>
    obtain ⟨r, hr, hn⟩ := nan_choose (P := P) k (.nanBits k a b) rfl (cut_nanBits k a b) w
    exact ⟨r, { w with drawn := w.drawn + 1 }, by simp only [farS, Sem.run_bind, hr, Result.andThen_ok, Sem.run_pure], drew_same w _, rfl, hn⟩
theorem run_floatArith (op : BinOp) (k : FloatKind) (a b : Nat) (o : Option Nat) (ho : (match op with | .add => o = k.format.add a b | .sub => o = k.format.sub a b | .mul => o = k.format.mul a b | .quo => o = k.format.div a b | _ => False)) (w : World) :
    ∃ r w', (Op.floatArith op k a b).run P w = .ok (.float k r) w' ∧ Same w w' ∧ w'.heap = w.heap ∧ IsF k o r := by
  have hrun : Op.floatArith op k a b = farS k a b o := by
    cases op <;> simp only at ho <;> first | exact ho.elim | (rw [ho]; simp only [Op.floatArith, pure_bind]; rfl)
  rw [hrun]
  exact run_far k a b o w

theorem bin_sound (hτ : OkS P τ) {op : BinOp} {t : Nat} {x y : Value} {xo yo : Operand} {raw : Prop} {K : Value → Heap → Prop} {h : Heap}
    (H : binI τ op t x y raw fun v => K v h) (hraw : raw → SEMV P (do eqGuard op t xo yo x y; binOp op t x y) K h) :
    SEMV P (do eqGuard op t xo yo x y; binOp op t x y) K h := by
  unfold binI at H
  split at H
  · rename_i k a k' b
    have shl : ∀ (v : Value), (binOp op t (.int k a) (.int k' b) = pure v) → K v h → SEMV P (do eqGuard op t xo yo (.int k a) (.int k' b); binOp op t (.int k a) (.int k' b)) K h := by
      intro v hb hk
      exact semn_v (fun w hw => by simp [hb, eqGuard_at_int]) hk
    split at H
    · obtain ⟨hn, H⟩ := H
      refine shl _ ?_ H
      simp [binOp, Op.shift, shlI, show ¬ b < 0 by omega]
    · obtain ⟨hn, H⟩ := H
      refine shl _ ?_ H
      simp [binOp, Op.shift, shrI, show ¬ b < 0 by omega]
    · rename_i h1 h2
      split at H
      · rename_i e; subst e
        cases op <;> simp only at H <;> first
          | exact H.elim
          | exact absurd rfl h1
          | exact absurd rfl h2
          | (refine shl _ ?_ H; simp [binOp, Op.intArith]; done)
          | (obtain ⟨hz, H⟩ := H; refine shl _ ?_ H; simp [binOp, Op.intDiv, hz]; done)
          | (refine shl _ ?_ H; simp only [binOp_and, binOp_or, binOp_xor, binOp_andNot]; rfl)
          | (refine shl _ ?_ H; simp [binOp, Op.intCmp]; done)
      · exact H.elim
  · rename_i k a k' b
    split at H
    · rename_i e; subst e
      have pur : ∀ (v : Value), (binOp op t (.float k a) (.float k b) = pure v) → K v h → SEMV P (do eqGuard op t xo yo (.float k a) (.float k b); binOp op t (.float k a) (.float k b)) K h := by
        intro v hb hk
        exact semn_v (fun w hw => by simp [hb, eqGuard_at_float]) hk
      have ari : ∀ (op' : BinOp) (o : Option Nat), op = op' → (match op' with | .add => o = k.format.add a b | .sub => o = k.format.sub a b | .mul => o = k.format.mul a b | .quo => o = k.format.div a b | _ => False) → (∀ r, IsF k o r → K (.float k r) h) →
          SEMV P (do eqGuard op t xo yo (.float k a) (.float k b); binOp op t (.float k a) (.float k b)) K h := by
        intro op' o e ho hk
        subst e
        refine semn_v' fun w hw => ?_
        obtain ⟨r, w', hr, hs, hh, hf⟩ := run_floatArith (P := P) op k a b o ho w
        refine ⟨.float k r, w', ?_, hs, ?_⟩
        · have hb : binOp op t (.float k a) (.float k b) = Op.floatArith op k a b := by
            cases op <;> simp only at ho <;> first | exact ho.elim | simp [binOp]
          simp [eqGuard_at_float, hb, hr]
        · rw [hh, hw]; exact hk r hf
      cases op <;> simp only at H <;> first
        | exact H.elim
        | exact ari _ _ rfl rfl H
        | (refine pur _ ?_ H; simp [binOp, Op.floatCmp]; done)
    · exact H.elim
  · rename_i a b
    have pur : ∀ (v : Value), (∀ w, (binOp op t (.string a) (.string b)).run P w = .ok v w) → K v h → SEMV P (do eqGuard op t xo yo (.string a) (.string b); binOp op t (.string a) (.string b)) K h := by
      intro v hb hk
      exact semn_v (fun w hw => by simp [hb, eqGuard_at_string]) hk
    cases op <;> simp only at H <;> first
      | exact H.elim
      | (obtain ⟨hb, H⟩ := H
         refine pur _ (fun w => ?_) H
         have : ¬ ((a.size + b.size : Nat) : Int) > IntKind.i64.max := by
           have : IntKind.i64.max = 9223372036854775807 := rfl
           omega
         simp only [binOp, Op.stringOp]
         rw [if_neg this]
         rfl)
      | (refine pur _ (fun w => ?_) H; simp [binOp, Op.stringOp]; done)
  · rename_i a b
    split at H
    · rename_i i hi
      obtain ⟨d, h1, h2, h3⟩ := run_und hτ hi
      have hd : d = .bool := by cases d <;> simp_all [tyOf]
      subst hd
      cases op <;> simp only at H <;> first
        | exact H.elim
        | (refine semn_v (fun w hw => ?_) H; simp [eqGuard_at_bool, run_eql_bool w t a b h1]; done)
        | (refine semn_v (fun w hw => ?_) H; simp [eqGuard_at_bool, run_neq_bool w t a b h1]; done)
    · exact H.elim
  · exact hraw H

theorem un_sound {op : UnOp} {x : Value} {K : Value → Heap → Prop} {h : Heap} (H : unI op x fun v => K v h) : SEMV P (Op.unary op x) K h := by
  unfold unI at H
  split at H
  · exact semn_v (fun w _ => rfl) H
  · exact semn_v (fun w _ => rfl) H
  · exact semn_v (fun w _ => rfl) H
  · exact semn_v (fun w _ => rfl) H
  · exact H.elim

theorem conv_sound (hτ : OkS P τ) {s d : Nat} {x : Value} {raw : Prop} {K : Value → Heap → Prop} {h : Heap} (H : convI τ s d x raw fun v => K v h) (hraw : raw → SEMV P (convert s d x) K h) : SEMV P (convert s d x) K h := by
  unfold convI at H
  split at H
  · rename_i i j hi hj
    obtain ⟨di, hi1, hi2, hi3⟩ := run_und hτ hi
    obtain ⟨dj, hj1, hj2, hj3⟩ := run_und hτ hj
    split at H
    · rename_i k k0 n e
      have : dj = .int k := by rw [e] at hj2; cases dj <;> simp_all [tyOf]
      subst this
      exact semn_v (fun w _ => by cases di <;> simp [convert, hi3, hj3, Conv.intToInt]) H
    · rename_i k k0 n e
      have : dj = .float k := by rw [e] at hj2; cases dj <;> simp_all [tyOf]
      subst this
      exact semn_v (fun w _ => by cases di <;> simp [convert, hi3, hj3, Conv.intToFloat]) H
    · rename_i k q b e
      have : dj = .int k := by rw [e] at hj2; cases dj <;> simp_all [tyOf]
      subst this
      refine semn_v' fun w hw => ?_
      have hc : ∀ w, (convert s d (.float q b)).run P w = (Conv.floatToInt q b k).run P w := fun w => by cases di <;> simp [convert, hi3, hj3]
      rw [hc]
      have hany : ∃ v w', (do pure (Value.int k (k.wrap (← choose (.floatToInt q b k)))) : Sem Value).run P w = .ok v w' ∧ Same w w' ∧ w'.heap = w.heap ∧ ∃ t : Int, v = .int k (k.wrap t) := by
        refine ⟨.int k (k.wrap (((Question.floatToInt q b k).cut (w.tape w.drawn (Question.floatToInt q b k)) : Nat) : Int)), { w with drawn := w.drawn + 1 }, ?_, drew_same w _, rfl, _, rfl⟩
        simp only [Sem.run_bind, run_choose, Question.forced, Bool.false_eq_true, if_false, Result.andThen_ok, Sem.run_pure]
      unfold Conv.floatToInt
      cases hm : (q.decode b).toInt .zero with
      | some m =>
        simp only []
        by_cases hr : k.min ≤ m ∧ m ≤ k.max
        · rw [if_pos hr]
          exact ⟨_, w, rfl, Same.refl w, by rw [hw]; exact H m (by unfold IsFI; rw [hm]; simp [hr])⟩
        · rw [if_neg hr]
          obtain ⟨v, w', h1, h2, h3, u, rfl⟩ := hany
          exact ⟨_, w', h1, h2, by rw [h3, hw]; exact H _ (by unfold IsFI; rw [hm]; simp only []; rw [if_neg hr]; exact ⟨u, rfl⟩)⟩
      | none =>
        obtain ⟨v, w', h1, h2, h3, u, rfl⟩ := hany
        exact ⟨_, w', h1, h2, by rw [h3, hw]; exact H _ (by unfold IsFI; rw [hm]; exact ⟨u, rfl⟩)⟩
    · rename_i k q b e
      have : dj = .float k := by rw [e] at hj2; cases dj <;> simp_all [tyOf]
      subst this
      have hc : ∀ w, (convert s d (.float q b)).run P w = (Conv.floatToFloat q b k).run P w := fun w => by cases di <;> simp [convert, hi3, hj3]
      split at H
      · rename_i e2; subst e2
        exact semn_v (fun w _ => by rw [hc]; simp [Conv.floatToFloat]) H
      · rename_i e2
        refine semn_v' fun w hw => ?_
        rw [hc]
        unfold Conv.floatToFloat
        rw [if_neg e2]
        unfold FFC at H
        unfold IsFF at H
        cases hd : q.decode b with
        | nan s2 f =>
          rw [hd] at H
          obtain ⟨r, hr, hn⟩ := nan_choose (P := P) k (.nanConv k b) rfl (cut_nanConv k b) w
          refine ⟨.float k r, { w with drawn := w.drawn + 1 }, by simp only [Sem.run_bind, hr, Result.andThen_ok, Sem.run_pure], drew_same w _, ?_⟩
          rw [← hw] at H
          exact H r hn
        | infinity s2 =>
          rw [hd] at H
          exact ⟨_, w, rfl, Same.refl w, by rw [hw]; exact H _ rfl⟩
        | number s2 m2 e2' =>
          rw [hd] at H
          simp only [] at H ⊢
          split
          · rename_i hinf
            refine ⟨.float k ((Question.floatToFloat b).cut (w.tape w.drawn (Question.floatToFloat b))), { w with drawn := w.drawn + 1 }, by simp only [Sem.run_bind, run_choose, Question.forced, Bool.false_eq_true, if_false, Result.andThen_ok, Sem.run_pure], drew_same w _, ?_⟩
            rw [← hw] at H
            refine H _ ?_
            rw [if_pos hinf]
            exact Nat.mod_lt _ (by decide)
          · rename_i hinf
            refine ⟨_, w, rfl, Same.refl w, ?_⟩
            rw [hw]
            refine H _ ?_
            rw [if_neg hinf]
    · rename_i b e
      have : dj = .string := by rw [e] at hj2; cases dj <;> simp_all [tyOf]
      subst this
      refine semn_v (fun w _ => ?_) H
      cases di <;> simp [convert, hi3, hj3]
    · exact hraw H
  · exact hraw H

theorem bound_out {v : Option Value} {d : Int} {F : Int → Prop} (h : boundI v d F) : ∃ n, F n ∧ ((v = none ∧ n = d) ∨ ∃ k, v = some (.int k n)) := by
  unfold boundI at h
  split at h
  · exact ⟨d, h, .inl ⟨rfl, rfl⟩⟩
  · exact ⟨_, h, .inr ⟨_, rfl⟩⟩
  · exact h.elim
theorem run_sliceBound {k : IntKind} {n : Int} {y : Nat} {c : BoundsCode} (h0 : 0 ≤ n) (h1 : n ≤ y) (w : World) : (Instr.sliceBound (.int k n) y c).run P w = .ok n.toNat w := by
  simp [Instr.sliceBound, asIntOf, h0, h1]
theorem run_bounds {isS : Bool} {len cap : Nat} {lo hi : Option Value} {l h : Int} (hl : (lo = none ∧ l = 0) ∨ ∃ k, lo = some (.int k l)) (hh : (hi = none ∧ h = len) ∨ ∃ k, hi = some (.int k h))
    (h0 : 0 ≤ l) (h1 : l ≤ h) (h2 : h ≤ cap) (w : World) : (Instr.sliceBounds isS len cap lo hi none).run P w = .ok (l.toNat, h.toNat, cap) w := by
  rcases hh with ⟨rfl, rfl⟩ | ⟨k, rfl⟩
  · rcases hl with ⟨rfl, rfl⟩ | ⟨k', rfl⟩
    · simp [Instr.sliceBounds]
    · simp [Instr.sliceBounds, run_sliceBound h0 h1]
  · have hlh : l ≤ (h.toNat : Int) := by omega
    rcases hl with ⟨rfl, rfl⟩ | ⟨k', rfl⟩
    · simp [Instr.sliceBounds, run_sliceBound (show 0 ≤ h by omega) h2]
    · simp [Instr.sliceBounds, run_sliceBound (show 0 ≤ h by omega) h2, run_sliceBound h0 hlh]
theorem slice_sound (hτ : OkS P τ) {t : Nat} {x : Value} {lo hi mx : Option Value} {K : Value → Heap → Prop} {h : Heap}
    (H : sliceI τ t x lo hi mx fun v => K v h) : SEMV P (Instr.sliceAt t x lo hi mx) K h := by
  unfold sliceI at H
  split at H
  · rename_i k m
    split at H
    · rename_i e _ _ _ b len cap k' hh hi'
      obtain ⟨d, h1, h2, h3⟩ := run_und hτ hi'
      have hd : d = .slice e := by cases d <;> simp_all [tyOf]
      subst hd
      split at H
      · rename_i i hi
        obtain ⟨l, H, el⟩ := bound_out H
        obtain ⟨⟨b0, b1, b2, b3⟩, H⟩ := H
        refine semn_v (fun w _ => ?_) H
        have hb : ∀ isS w, (Instr.sliceBounds isS len cap lo (some (.int k' hh)) (some (.int k m))).run P w = .ok (l.toNat, hh.toNat, m.toNat) w := by
          intro isS w
          have hm : hh ≤ (m.toNat : Int) := by omega
          have hl : l ≤ (hh.toNat : Int) := by omega
          rcases el with ⟨rfl, rfl⟩ | ⟨k2, rfl⟩
          · simp [Instr.sliceBounds, run_sliceBound (show 0 ≤ m by omega) b3, run_sliceBound (show 0 ≤ hh by omega) hm]
          · simp [Instr.sliceBounds, run_sliceBound (show 0 ≤ m by omega) b3, run_sliceBound (show 0 ≤ hh by omega) hm, run_sliceBound b0 hl]
        simp [Instr.sliceAt, Instr.slice, h3, hb, run_size hτ hi, slA]
      · exact H.elim
    · exact H.elim
  · exact H.elim
  · split at H
    · rename_i s hi'
      obtain ⟨d, h1, h2, h3⟩ := run_und hτ hi'
      have hd : d = .string := by cases d <;> simp_all [tyOf]
      subst hd
      obtain ⟨l, H, el⟩ := bound_out H
      obtain ⟨hh, H, eh⟩ := bound_out H
      obtain ⟨⟨b0, b1, b2⟩, H⟩ := H
      exact semn_v (fun w _ => by simp [Instr.sliceAt, Instr.slice, h3, run_bounds el eh b0 b1 b2]) H
    · rename_i e _ _ _ b len cap hi'
      obtain ⟨d, h1, h2, h3⟩ := run_und hτ hi'
      have hd : d = .slice e := by cases d <;> simp_all [tyOf]
      subst hd
      split at H
      · rename_i i hi
        obtain ⟨l, H, el⟩ := bound_out H
        obtain ⟨hh, H, eh⟩ := bound_out H
        obtain ⟨⟨b0, b1, b2⟩, H⟩ := H
        refine semn_v (fun w _ => ?_) H
        simp [Instr.sliceAt, Instr.slice, h3, run_bounds el eh b0 b1 b2, run_size hτ hi, slA]
      · exact H.elim
    · rename_i n e _ _ _ a hi'
      obtain ⟨d, h1, h2, h3⟩ := run_und hτ hi'
      have hd : d = .array n e := by cases d <;> simp_all [tyOf]
      subst hd
      split at H
      · rename_i i hi
        obtain ⟨l, H, el⟩ := bound_out H
        obtain ⟨hh, H, eh⟩ := bound_out H
        obtain ⟨⟨b0, b1, b2⟩, H⟩ := H
        refine semn_v (fun w _ => ?_) H
        simp [Instr.sliceAt, h3, Instr.sureAddr, run_bounds el eh b0 b1 b2, run_size hτ hi, slP]
      · exact H.elim
    · exact H.elim
end Go.Sx
/- opI_sound: the rest of the operations, and all together. -/
namespace Go.Sx
variable {P : Program} {τ : Static}

/-! ### Aggregates put together -/
theorem foldl_splice : ∀ (cs : List Value) (off k : Nat) (cells : Array Value), off + k + cs.length ≤ cells.size →
    ((cs.zipIdx k).foldl (fun acc (x : Value × Nat) => acc.setIfInBounds (off + x.2) x.1) cells).toList = cells.toList.take (off + k) ++ (cs ++ cells.toList.drop (off + k + cs.length))
  | [], off, k, cells, _ => by simp
  | c :: cs, off, k, cells, h => by
    simp only [List.length_cons] at h
    rw [List.zipIdx_cons, List.foldl_cons, foldl_splice cs off (k + 1) _ (by simp; omega)]
    simp only [Array.toList_setIfInBounds]
    rw [← Nat.add_assoc]
    have hl : off + k < cells.toList.length := by simp; omega
    rw [List.take_succ_eq_append_getElem (by simpa using hl), List.getElem_set_self, List.take_set_of_le (by omega), List.drop_set_of_lt (by omega)]
    simp only [List.append_assoc, List.cons_append, List.nil_append, List.length_cons]
    rw [show off + k + 1 + cs.length = off + k + (cs.length + 1) from by omega]
theorem cells_of_not_agg {v : Value} (h : ∀ cs, v ≠ .agg cs) : v.cells = #[v] := by
  cases v <;> first | rfl | exact absurd rfl (h _)
theorem fill_step {pl : Nat → Option (Nat × Nat)} (cells : Array Value) (i : Nat) (v : Value) (rest : List (Nat × Value)) {off size : Nat} (hp : pl i = some (off, size)) (h1 : v.cells.size = size) (h2 : off + size ≤ cells.size) :
    Instr.fill pl cells ((i, v) :: rest) = Instr.fill pl (v.cells.zipIdx.foldl (fun cs (c, j) => cs.setIfInBounds (off + j) c) cells) rest := by
  rw [Instr.fill, hp]
  simp only [h1]
  rw [if_neg (by simp; omega)]
theorem fill_ok {pl : Nat → Option (Nat × Nat)} {n0 : Nat} : ∀ (parts : List (Nat × Value)) (cells : List Value) (F : List Value → Prop), cells.length = n0 → fillI pl n0 parts cells F →
    ∃ cells', Instr.fill pl ⟨cells⟩ parts = some ⟨cells'⟩ ∧ F cells'
  | [], cells, F, _, h => ⟨cells, rfl, h⟩
  | (i, v) :: rest, cells, F, hn, h => by
    unfold fillI at h
    split at h
    · exact h.elim
    · rename_i off size hp
      cases hb : Nat.ble (off + size) n0 with
      | false => rw [hb] at h; exact h.elim
      | true =>
        rw [hb] at h
        simp only [cond_true] at h
        rw [Nat.ble_eq] at hb
        split at h
        · rename_i cs
          obtain ⟨hs, h⟩ := h
          have hl : (splice off size cs cells).length = n0 := by
            simp [splice, List.length_take, List.length_drop, hs]; omega
          obtain ⟨c', h1, h2⟩ := fill_ok rest _ F hl h
          refine ⟨c', ?_, h2⟩
          rw [fill_step ⟨cells⟩ i (.agg cs) rest hp hs (by show off + size ≤ cells.length; omega), ← h1]
          congr 1
          apply Array.toList_inj.1
          simp only [Value.cells]
          rw [← Array.foldl_toList, Array.toList_zipIdx, foldl_splice cs.toList off 0 ⟨cells⟩ (by show off + 0 + cs.toList.length ≤ cells.length; rw [Array.length_toList]; omega)]
          simp [splice, hs]
        · rename_i hna
          cases h1' : Nat.beq size 1 with
          | false => rw [h1'] at h; exact h.elim
          | true =>
            rw [h1'] at h
            simp only [cond_true] at h
            rw [Nat.beq_eq] at h1'
            subst h1'
            obtain ⟨c', h1, h2⟩ := fill_ok rest _ F (by simpa using hn) h
            refine ⟨c', ?_, h2⟩
            have hvc : v.cells = #[v] := cells_of_not_agg (fun cs e => hna cs e)
            rw [fill_step ⟨cells⟩ i v rest hp (by rw [hvc]; rfl) (by show off + 1 ≤ cells.length; omega), ← h1, hvc]
            congr 1
            apply Array.toList_inj.1
            rw [← Array.foldl_toList]
            simp

theorem run_mapM_list {α β : Type} (g : α → Sem β) (g' : α → β) (w : World) : ∀ l : List α, (∀ a ∈ l, (g a).run P w = .ok (g' a) w) → (l.mapM g).run P w = .ok (l.map g') w
  | [], _ => rfl
  | a :: l, h => by
    rw [List.mapM_cons]
    simp [h a (List.mem_cons_self ..), run_mapM_list g g' w l (fun b hb => h b (List.mem_cons_of_mem _ hb))]
theorem run_mapM_array {α β : Type} (g : α → Sem β) (g' : α → β) (w : World) (l : Array α) (h : ∀ a ∈ l, (g a).run P w = .ok (g' a) w) : (l.mapM g).run P w = .ok (l.map g') w := by
  rw [Array.mapM_eq_mapM_toList]
  rw [Sem.run_map, run_mapM_list g g' w l.toList (fun a ha => h a (by simpa using ha))]
  show Result.ok (l.toList.map g').toArray w = _
  rw [← Array.toList_map, Array.toArray_toList]

theorem alc_same (w : World) (o : Obj) : Same w { w with heap := w.heap.push o } := ⟨rfl, rfl, rfl⟩

theorem opI_build (hτ : OkS P τ) {o : Oper} {t : Nat} {parts : Array (Nat × Operand)} (ho : o.op = .build t parts) {ev : Operand → Value} {K : Value → Heap → Prop} {h : Heap} (H : opI P τ o ev K h) :
    SEMV P (Instr.build t (parts.map fun (i, x) => (i, ev x))) K h := by
  unfold opI at H
  rw [ho] at H
  simp only [] at H
  have hparts : (parts.map fun (i, x) => (i, ev x)).toList = parts.toList.map fun p => (p.1, ev p.2) := by simp
  split at H
  · rename_i fs n b z hi
    obtain ⟨d, h1, h2, h3⟩ := run_und hτ hi
    cases hz : z.isEmpty || !(fs.all fun f => (ti τ f.1).isSome) with
    | true => rw [hz] at H; exact H.elim
    | false =>
      rw [hz] at H
      simp only [cond_false] at H
      rw [Bool.or_eq_false_iff] at hz
      obtain ⟨hz1, hz2⟩ := hz
      obtain ⟨zv, hzv, hzr⟩ := run_zero hτ hi (by intro e; simp only at e; rw [e] at hz1; cases hz1)
      simp only at hzv
      obtain ⟨flds, rfl, hfl⟩ : ∃ flds : Array Field, d = .struct flds ∧ flds.toList.map (fun f => (f.type, f.offset)) = fs := by
        cases d <;> simp_all [tyOf]
      obtain ⟨c', hc1, hc2⟩ := fill_ok _ _ _ rfl H
      refine semn_v (fun w _ => ?_) hc2
      have hall : ∀ f ∈ flds, ∃ j, ti τ f.type = some j := by
        intro f hf
        have : (f.type, f.offset) ∈ fs := by rw [← hfl]; exact List.mem_map.2 ⟨f, by simpa using hf, rfl⟩
        have hz2' : (fs.all fun f => (ti τ f.1).isSome) = true := by simpa using hz2
        have := (List.all_eq_true.1 hz2') _ this
        exact Option.isSome_iff_exists.1 this
      have hpl : (flds.mapM fun f => do pure (f.offset, ← sizeOf f.type) : Sem (Array (Nat × Nat))).run P w = .ok (flds.map fun f => (f.offset, ((ti τ f.type).map (·.size)).getD 0)) w := by
        refine run_mapM_array _ _ w flds fun f hf => ?_
        obtain ⟨j, hj⟩ := hall f hf
        simp [run_size hτ hj, hj]
      have hfill : Instr.fill ((flds.map fun f => (f.offset, ((ti τ f.type).map (·.size)).getD 0))[·]?) zv.cells (parts.map fun (i, x) => (i, ev x)).toList = some ⟨c'⟩ := by
        rw [hparts, ← hc1]
        have hp : ((flds.map fun f => (f.offset, ((ti τ f.type).map (·.size)).getD 0))[·]?) = fldPl τ fs := by
          funext i
          unfold fldPl
          rw [← hfl]
          simp only [Array.getElem?_map, List.getElem?_map, Array.getElem?_toList]
          cases hf : flds[i]? with
          | none => rfl
          | some f =>
            obtain ⟨j, hj⟩ := hall f (Array.mem_of_getElem? hf)
            simp [hj]
        rw [hp]
        congr 1
        exact Array.toList_inj.1 hzv
      simp only [Instr.build, Sem.run_bind, hzr, Result.andThen_ok, h3, hpl]
      rw [hfill]
      rfl
  · rename_i n e sz b z hi
    obtain ⟨d, h1, h2, h3⟩ := run_und hτ hi
    have hd : d = .array n e := by cases d <;> simp_all [tyOf]
    subst hd
    split at H
    · rename_i j hj
      cases hz : z.isEmpty with
      | true => rw [hz] at H; exact H.elim
      | false =>
        rw [hz] at H
        simp only [cond_false] at H
        obtain ⟨zv, hzv, hzr⟩ := run_zero hτ hi (by intro e; simp only at e; rw [e] at hz; cases hz)
        simp only at hzv
        obtain ⟨c', hc1, hc2⟩ := fill_ok _ _ _ rfl H
        refine semn_v (fun w _ => ?_) hc2
        have hfill : Instr.fill (fun i => some (i * j.size, j.size)) zv.cells (parts.map fun (i, x) => (i, ev x)).toList = some ⟨c'⟩ := by
          rw [hparts, ← hc1]
          congr 1
          exact Array.toList_inj.1 hzv
        simp only [Instr.build, Sem.run_bind, hzr, Result.andThen_ok, h3, run_size hτ hj]
        rw [hfill]
        rfl
    · exact H.elim
  · exact H.elim

theorem opI_buildSlice (hτ : OkS P τ) {o : Oper} {t len : Nat} {parts : Array (Nat × Operand)} (ho : o.op = .buildSlice t len parts) {ev : Operand → Value} {K : Value → Heap → Prop} {h : Heap} (H : opI P τ o ev K h) :
    SEMV P (Instr.buildSlice t len (parts.map fun (i, x) => (i, ev x))) K h := by
  unfold opI at H
  rw [ho] at H
  simp only [] at H
  have hparts : (parts.map fun (i, x) => (i, ev x)).toList = parts.toList.map fun p => (p.1, ev p.2) := by simp
  split at H
  · rename_i e sz b z hi
    obtain ⟨d, h1, h2, h3⟩ := run_und hτ hi
    have hd : d = .slice e := by cases d <;> simp_all [tyOf]
    subst hd
    split at H
    · rename_i j hj
      cases hc : Nat.ble (len * j.size) 16777216 && (Nat.beq (len * j.size) 0 || !j.zero.isEmpty) with
      | false => rw [hc] at H; exact H.elim
      | true =>
        rw [hc] at H
        simp only [cond_true] at H
        rw [Bool.and_eq_true, Nat.ble_eq] at hc
        obtain ⟨hle, hzz⟩ := hc
        obtain ⟨c', hc1, hc2⟩ := fill_ok _ _ _ (by simp [zerosI]) H
        refine semn_v' fun w hw => ?_
        refine ⟨.slice (some ⟨w.heap.size, 0, none⟩) len len, { w with heap := w.heap.push (.cells ⟨c'⟩ e) }, ?_, alc_same w _, by rw [hw]; exact hc2⟩
        simp only [Instr.buildSlice, Sem.run_bind, h3, Result.andThen_ok, run_size hτ hj]
        rw [if_neg (by omega)]
        have gen : ∀ (l : List Value) (i : Nat) (hi : i < l.length), lget l i = l[i] := by
          intro l
          induction l with
          | nil => intro i hi; simp at hi
          | cons a l ih => intro i hi; cases i with
            | zero => rfl
            | succ i => exact ih i (by simpa using hi)
        by_cases h0 : len * j.size = 0
        · rw [if_pos h0]
          simp only [pure_bind]
          have hz2 : ((Array.range (len * j.size)).map fun x => (#[] : Array Value)[x % (#[] : Array Value).size]!) = ⟨zerosI j (len * j.size)⟩ := by rw [h0, Array.range_zero']; apply Array.toList_inj.1; simp [zerosI]
          rw [hz2, hparts, hc1]
          rfl
        · rw [if_neg h0]
          have hne : j.zero ≠ [] := by
            intro e0
            rw [e0] at hzz
            simp at hzz
            omega
          obtain ⟨zv, hzv, hzr⟩ := run_zero hτ hj hne
          have hz2 : ((Array.range (len * j.size)).map fun x => zv.cells[x % zv.cells.size]!) = ⟨zerosI j (len * j.size)⟩ := by
            apply Array.toList_inj.1
            simp only [zerosI, Array.toList_map, Array.toList_range]
            refine List.map_congr_left fun x _ => ?_
            rw [← hzv]
            have hpos : 0 < zv.cells.size := by
              have : 0 < j.zero.length := List.length_pos_iff.2 hne
              rw [← hzv] at this
              simpa using this
            have hlt : x % zv.cells.size < zv.cells.size := Nat.mod_lt _ hpos
            rw [Array.length_toList, gen _ _ (by simpa using hlt)]
            simp [getElem!_pos, hlt]
          simp only [Sem.run_bind, hzr, Result.andThen_ok, pure_bind]
          rw [hz2, hparts, hc1]
          rfl
    · exact H.elim
  · exact H.elim
end Go.Sx
