/- The weakest precondition of loaded Go code over heaps alone: the words (combinators) in which it is told. -/
import Derived.Calls
import Derived.Orders
import Derived.Laws.Sem
import Derived.Laws.Entries
import Derived.Laws.Cover2
import Derived.Laws.Small
import Derived.KernelRfl
import Derived.Laws.Cells
set_option linter.unusedSectionVars false
namespace Go.Sx

abbrev Heap := Array Obj
abbrev Frame := List Value

def cell (h : Heap) (a : Addr) : Option Value :=
  match h[a.block]? with
  | some (.cells c _ _) => if a.spot.isSome then none else c[a.off]?
  | _ => none
def froz (h : Heap) (a : Addr) : Bool :=
  match h[a.block]? with
  | some (.cells _ _ (lo, hi)) => lo ≤ a.off && a.off < hi
  | _ => false
def setc (h : Heap) (a : Addr) (v : Value) : Heap :=
  h.modify a.block fun
    | .cells c elem frozen => .cells (if a.spot.isSome then c else c.setIfInBounds a.off v) elem frozen
    | o => o
theorem cell_eq (w : World) (a : Addr) : w.cell? a = cell w.heap a := rfl
theorem froz_eq (w : World) (a : Addr) : w.frozen? a = froz w.heap a := rfl
theorem setc_eq (w : World) (a : Addr) (v : Value) : (w.setCell a v).heap = setc w.heap a v := rfl
/-- Cell after cell, from place i on. -/
def setcs (h : Heap) (a : Addr) : List Value → Nat → Heap
  | [], _ => h
  | v :: r, i => setcs (setc h (a.add i) v) a r (i + 1)

/-- Whether the number of draws is told too: that it does not fall. -/
class Mode where
  d : Bool
instance (priority := low) modeF : Mode := ⟨false⟩
variable [Mode]
structure Same (w w' : World) : Prop where
  os : w'.os = w.os
  tape : w'.tape = w.tape
  output : w'.output = w.output
  drawn : Mode.d = true → w.drawn ≤ w'.drawn
theorem Same.refl (w : World) : Same w w := ⟨rfl, rfl, rfl, fun _ => Nat.le_refl _⟩
theorem Same.trans {a b c : World} (h : Same a b) (k : Same b c) : Same a c := ⟨k.os.trans h.os, k.tape.trans h.tape, k.output.trans h.output, fun e => Nat.le_trans (h.drawn e) (k.drawn e)⟩

def UponN (P : Program) (r : Result Next) (N : Value → World → Prop) : Prop :=
  match r with
  | .ok (.value v) w' => N v w'
  | .ok .skip w' => N undef w'
  | .ok (.enter f args) w' => Calls P f args w' fun e w'' => ∃ v, e = .returned v ∧ N v w''
  | _ => False
def SEMN (P : Program) (s : Sem Next) (K : Value → Heap → Prop) (h : Heap) : Prop :=
  ∀ w : World, w.heap = h → UponN P (s.run P w) fun v w' => Same w w' ∧ K v w'.heap
def SEMV (P : Program) (s : Sem Value) (K : Value → Heap → Prop) (h : Heap) : Prop := SEMN P (do pure (.value (← s))) K h
def CALL (P : Program) (f : FuncId) (args : Array Value) (K : Value → Heap → Prop) (h : Heap) : Prop := SEMN P (callFunc f args) K h
def CALLV (P : Program) (f : Value) (args : Array Value) (K : Value → Heap → Prop) (h : Heap) : Prop :=
  SEMN P (do let d ← Deferred.ofValue f args; invoke d.target d.args) K h

inductive Ty where
  | int (k : IntKind) | bool | float (k : FloatKind) | str | ptr | sl (e : Nat) | arr (n e : Nat) | st (fs : List (Nat × Nat)) | tup (ts : List Nat) | oth
def tyOf : TypeDesc → Ty
  | .int k => .int k | .bool => .bool | .float k => .float k | .string => .str | .pointer _ => .ptr | .slice e => .sl e | .array n e => .arr n e
  | .struct fs => .st (fs.toList.map fun f => (f.type, f.offset)) | .tuple es => .tup es.toList | _ => .oth
structure TI where
  ty : Ty
  size : Nat
  bytes : Nat
  zero : List Value
abbrev Static := List (Nat × TI)
def ti : Static → Nat → Option TI
  | [], _ => none
  | (u, i) :: r, t => bif Nat.beq u t then some i else ti r t
def okT (P : Program) (e : Nat × TI) : Prop :=
  ∃ d i, P.underlying e.1 = some d ∧ tyOf d = e.2.ty ∧ P.info? e.1 = some i ∧ i.size = e.2.size ∧ i.bytes = e.2.bytes ∧ (e.2.zero = [] ∨ ∃ z, i.zero = some z ∧ z.cells.toList = e.2.zero)
def OkS (P : Program) (τ : Static) : Prop := ∀ e ∈ τ, okT P e
theorem ti_mem : ∀ {τ : Static} {t : Nat} {i : TI}, ti τ t = some i → (t, i) ∈ τ
  | [], _, _, h => by simp [ti] at h
  | (u, j) :: r, t, i, h => by
    unfold ti at h
    cases hb : Nat.beq u t with
    | true =>
      rw [hb] at h
      simp at h
      rw [Nat.beq_eq] at hb
      subst hb; subst h
      exact .head _
    | false =>
      rw [hb] at h
      simp at h
      exact .tail _ (ti_mem h)

def asI (k : IntKind) (v : Value) (F : Int → Prop) : Prop := match v with | .int k' n => if k' = k then F n else False | _ => False
def asB (v : Value) (F : Bool → Prop) : Prop := match v with | .bool b => F b | _ => False
def asF (k : FloatKind) (v : Value) (F : Nat → Prop) : Prop := match v with | .float k' n => if k' = k then F n else False | _ => False
def asS (v : Value) (F : ByteArray → Prop) : Prop := match v with | .string s => F s | _ => False
def asP (v : Value) (F : Addr → Prop) : Prop := match v with | .pointer (some a) => F a | _ => False
def asL (v : Value) (F : Option Addr → Nat → Nat → Prop) : Prop := match v with | .slice b l c => F b l c | _ => False
def asA (v : Value) (F : Array Value → Prop) : Prop := match v with | .agg cs => F cs | _ => False
def oI (k : IntKind) (v : Option Value) (F : Int → Prop) : Prop := match v with | some v => asI k v F | none => False
def oB (v : Option Value) (F : Bool → Prop) : Prop := match v with | some v => asB v F | none => False
def oF (k : FloatKind) (v : Option Value) (F : Nat → Prop) : Prop := match v with | some v => asF k v F | none => False
def oS (v : Option Value) (F : ByteArray → Prop) : Prop := match v with | some v => asS v F | none => False
def oP (v : Option Value) (F : Addr → Prop) : Prop := match v with | some v => asP v F | none => False
def oL (v : Option Value) (F : Option Addr → Nat → Nat → Prop) : Prop := match v with | some v => asL v F | none => False
def oV (v : Option Value) (F : Value → Prop) : Prop := match v with | some v => F v | none => False
def LDA (n : Nat) (h : Heap) (a : Addr) (F : Array Value → Prop) : Prop := ∃ cs : Array Value, cs.size = n ∧ (∀ j, j < n → cell h (a.add j) = cs[j]?) ∧ F cs
def TUP2 (v : Value) (F : Value → Value → Prop) : Prop := match v with | .tuple ⟨[a, b]⟩ => F a b | _ => False
def TUP3 (v : Value) (F : Value → Value → Value → Prop) : Prop := match v with | .tuple ⟨[a, b, c]⟩ => F a b c | _ => False
def TUP4 (v : Value) (F : Value → Value → Value → Value → Prop) : Prop := match v with | .tuple ⟨[a, b, c, d]⟩ => F a b c d | _ => False
def TUP5 (v : Value) (F : Value → Value → Value → Value → Value → Prop) : Prop := match v with | .tuple ⟨[a, b, c, d, e]⟩ => F a b c d e | _ => False
/-- One value of a type that is no tuple. -/
def as1 (τ : Static) (t : Nat) (v : Value) (K : Value → Prop) : Prop :=
  match ti τ t with
  | none => K v
  | some i => match i.ty with
    | .int k => asI k v fun n => K (.int k n)
    | .bool => asB v fun b => K (.bool b)
    | .float k => asF k v fun n => K (.float k n)
    | .str => asS v fun s => K (.string s)
    | .ptr => asP v fun a => K (.pointer (some a))
    | .sl _ => asL v fun b l c => K (.slice b l c)
    | .arr _ _ | .st _ => asA v fun cs => K (.agg cs)
    | .tup _ | .oth => K v
def asT (τ : Static) (t : Nat) (v : Value) (K : Value → Prop) : Prop :=
  match ti τ t with
  | some ⟨.tup [], _, _, _⟩ => K v
  | some ⟨.tup [p, q], _, _, _⟩ => TUP2 v fun a b => as1 τ p a fun a => as1 τ q b fun b => K (.tuple ⟨[a, b]⟩)
  | some ⟨.tup [p, q, r], _, _, _⟩ => TUP3 v fun a b c => as1 τ p a fun a => as1 τ q b fun b => as1 τ r c fun c => K (.tuple ⟨[a, b, c]⟩)
  | some ⟨.tup [p, q, r, s], _, _, _⟩ => TUP4 v fun a b c d => as1 τ p a fun a => as1 τ q b fun b => as1 τ r c fun c => as1 τ s d fun d => K (.tuple ⟨[a, b, c, d]⟩)
  | some ⟨.tup [p, q, r, s, u], _, _, _⟩ => TUP5 v fun a b c d e => as1 τ p a fun a => as1 τ q b fun b => as1 τ r c fun c => as1 τ s d fun d => as1 τ u e fun e => K (.tuple ⟨[a, b, c, d, e]⟩)
  | _ => as1 τ t v K
/-- What a cell of the heap holds, read at a type. -/
def LD (τ : Static) (t : Nat) (h : Heap) (a : Addr) (K : Value → Prop) : Prop :=
  match ti τ t with
  | none => False
  | some i => match i.ty with
    | .int k => oI k (cell h a) fun n => K (.int k n)
    | .bool => oB (cell h a) fun b => K (.bool b)
    | .float k => oF k (cell h a) fun n => K (.float k n)
    | .str => oS (cell h a) fun s => K (.string s)
    | .ptr => oP (cell h a) fun a => K (.pointer (some a))
    | .sl _ => oL (cell h a) fun b l c => K (.slice b l c)
    | .arr _ _ | .st _ => LDA i.size h a fun cs => K (.agg cs)
    | .oth => oV (cell h a) K
    | .tup _ => False
/-- A part of an aggregate, read at a type. -/
def GT (τ : Static) (t : Nat) (cs : Array Value) (off : Nat) (K : Value → Prop) : Prop :=
  match ti τ t with
  | none => False
  | some i => match i.ty with
    | .int k => oI k cs[off]? fun n => K (.int k n)
    | .bool => oB cs[off]? fun b => K (.bool b)
    | .float k => oF k cs[off]? fun n => K (.float k n)
    | .str => oS cs[off]? fun s => K (.string s)
    | .ptr => oP cs[off]? fun a => K (.pointer (some a))
    | .sl _ => oL cs[off]? fun b l c => K (.slice b l c)
    | .arr _ _ | .st _ => K (.agg (cs.extract off (off + i.size)))
    | .oth => oV cs[off]? K
    | .tup _ => False

def BIF (b : Bool) (p q : Prop) : Prop := match b with | true => p | false => q
def ALC (cs : Array Value) (t : Nat) (F : Nat → Heap → Prop) (h : Heap) : Prop := F h.size (h.push (.cells cs t))
def ST1 (h : Heap) (a : Addr) (v : Value) (F : Heap → Prop) : Prop := (cell h a).isSome = true ∧ froz h a = false ∧ F (setc h a v)
def STA (n : Nat) (h : Heap) (a : Addr) (cs : Array Value) (F : Heap → Prop) : Prop :=
  cs.size = n ∧ (∀ v ∈ cs.toList, v.oneCell' = true) ∧ (∀ j, j < n → (cell h (a.add j)).isSome = true ∧ froz h (a.add j) = false) ∧ F (setcs h a cs.toList 0)
def NZ (b : Int) (p : Prop) : Prop := b ≠ 0 ∧ p
def NN (b : Int) (p : Prop) : Prop := 0 ≤ b ∧ p
def IDX (i : Int) (n : Nat) (p : Prop) : Prop := (0 ≤ i ∧ i < (n : Int)) ∧ p
def IDXS (b : Option Addr) (i : Int) (n : Nat) (F : Addr → Prop) : Prop := match b with | some a => (0 ≤ i ∧ i < (n : Int)) ∧ F a | none => False
def byteAt (s : ByteArray) (i : Int) : Int := ((s[i.toNat]?).map fun b => (b.toNat : Int)).getD 0
def SIZ (n m : Nat) (p : Prop) : Prop := n = m ∧ p
/-- r is what a float operation may give: the exact word, or any NaN. -/
def isNaNW (k : FloatKind) (r : Nat) : Prop :=
  match k with
  | .f32 => ∃ t : Nat, r = (t % 2) * 2 ^ 31 + 0x7f800000 + 1 + (t / 2) % (2 ^ 23 - 1)
  | .f64 => ∃ t : Nat, r = (t % 2) * 2 ^ 63 + 0x7ff0000000000000 + 1 + (t / 2) % (2 ^ 52 - 1)
def IsF (k : FloatKind) (o : Option Nat) (r : Nat) : Prop := match o with | some v => r = v | none => isNaNW k r
def FOP (k : FloatKind) (o : Option Nat) (F : Nat → Prop) : Prop := ∀ r, IsF k o r → F r
/-- What a float may become in the other kind. -/
def IsFF (s : FloatKind) (b : Nat) (d : FloatKind) (r : Nat) : Prop :=
  match s.decode b with
  | .nan _ _ => isNaNW d r
  | .infinity n => r = d.encode (.infinity n)
  | .number n m e => if (d.decode (d.encode (.number n m e))).isInfinity then r < 2 ^ 32 else r = d.encode (.number n m e)
def FFC (s : FloatKind) (b : Nat) (d : FloatKind) (F : Nat → Prop) : Prop := ∀ r, IsFF s b d r → F r
/-- What a float may become as an integer: cut towards zero where it fits, any of the kind else. -/
def IsFI (s : FloatKind) (b : Nat) (d : IntKind) (n : Int) : Prop :=
  match (s.decode b).toInt .zero with
  | some m => if d.min ≤ m ∧ m ≤ d.max then n = m else ∃ t : Int, n = d.wrap t
  | none => ∃ t : Int, n = d.wrap t
def FIC (s : FloatKind) (b : Nat) (d : IntKind) (F : Int → Prop) : Prop := ∀ n, IsFI s b d n → F n
def bitI (op : BinOp) (k : IntKind) (x y : Int) : Int :=
  let a := BitVec.ofInt k.bits x
  let b := BitVec.ofInt k.bits y
  match op with
  | .and => k.wrap (a &&& b).toNat | .or => k.wrap (a ||| b).toNat | .xor => k.wrap (a ^^^ b).toNat | _ => k.wrap (a &&& ~~~b).toNat
def shlI (k : IntKind) (x y : Int) : Int := k.wrap (x * 2 ^ (min y.toNat k.bits))
def shrI (k : IntKind) (x y : Int) : Int := x.fdiv (2 ^ (min y.toNat k.bits))
/-- make([]T, l, c) -/
def MKS (i : TI) (e : Nat) (l c : Int) (F : Nat → Heap → Prop) (h : Heap) : Prop :=
  (0 ≤ l ∧ l ≤ c ∧ (i.bytes : Int) * c ≤ 2 ^ 48 ∧ c ≤ 9223372036854775807 ∧ i.zero ≠ []) ∧ ALC ((Array.range (c.toNat * i.size)).map fun j => (⟨i.zero⟩ : Array Value)[j % (⟨i.zero⟩ : Array Value).size]!) e F h
def SLB (lo hi cap : Int) (p : Prop) : Prop := (0 ≤ lo ∧ lo ≤ hi ∧ hi ≤ cap) ∧ p
def SLB3 (lo hi mx cap : Int) (p : Prop) : Prop := (0 ≤ lo ∧ lo ≤ hi ∧ hi ≤ mx ∧ mx ≤ cap) ∧ p
/-- The address of a slice of a slice: at the capacity's end it stays. -/
def slA (b : Option Addr) (cap lo size : Nat) : Option Addr := if cap = lo then b else b.map (·.add (lo * size))
def slP (a : Addr) (cap lo size : Nat) : Addr := if cap = lo then a else a.add (lo * size)
end Go.Sx
/- Each operation of loaded Go code in these words (opI), and that the words say no less than the model does (opI_sound). -/
set_option linter.unusedSectionVars false
namespace Go.Sx
variable [Mode]

def lget : Frame → Nat → Value
  | [], _ => undef
  | v :: _, 0 => v
  | _ :: l, n + 1 => lget l n
def lset : Frame → Nat → Value → Frame
  | [], _, _ => []
  | _ :: l, 0, u => u :: l
  | v :: l, n + 1, u => v :: lset l n u
def evL (fr : Frame) : Operand → Value
  | .tmp t => lget fr t
  | .const v => v
  | .global g => .pointer (some ⟨g, 0, none⟩)
  | .func f => .func (.func f) #[] #[]
def putL (fr : Frame) (d : Option Tmp) (v : Value) : Frame := match d with | some d => lset fr d v | none => fr

/-- A value that fits one cell. -/
def OC (v : Value) (p : Prop) : Prop := match v with | .agg _ | .tuple _ => False | _ => p
def splice (off size : Nat) (cs : Array Value) (cells : List Value) : List Value := cells.take off ++ (cs.toList ++ cells.drop (off + size))
/-- Aggregates put together out of their parts. -/
def fillI (pl : Nat → Option (Nat × Nat)) (n0 : Nat) : List (Nat × Value) → List Value → (List Value → Prop) → Prop
  | [], cells, F => F cells
  | (i, v) :: rest, cells, F =>
    match pl i with
    | none => False
    | some (off, size) => bif Nat.ble (off + size) n0 then
        (match v with
        | .agg cs => SIZ cs.size size (fillI pl n0 rest (splice off size cs cells) F)
        | v => bif Nat.beq size 1 then fillI pl n0 rest (cells.set off v) F else False)
      else False
def fldPl (τ : Static) (fs : List (Nat × Nat)) (i : Nat) : Option (Nat × Nat) :=
  match fs[i]? with
  | some (t, off) => (match ti τ t with | some j => some (off, j.size) | none => none)
  | none => none
def zerosI (i : TI) (n : Nat) : List Value := (List.range n).map fun j => lget i.zero (j % i.zero.length)

def binI (τ : Static) (op : BinOp) (t : Nat) (x y : Value) (raw : Prop) (K : Value → Prop) : Prop :=
  match x, y with
  | .int k a, .int k' b =>
    (match op with
    | .shl => NN b (K (.int k (shlI k a b)))
    | .shr => NN b (K (.int k (shrI k a b)))
    | op => if k = k' then
        (match op with
        | .add => K (.int k (k.wrap (a + b)))
        | .sub => K (.int k (k.wrap (a - b)))
        | .mul => K (.int k (k.wrap (a * b)))
        | .quo => NZ b (K (.int k (k.wrap (a.tdiv b))))
        | .rem => NZ b (K (.int k (a.tmod b)))
        | .and => K (.int k (bitI .and k a b))
        | .or => K (.int k (bitI .or k a b))
        | .xor => K (.int k (bitI .xor k a b))
        | .andNot => K (.int k (bitI .andNot k a b))
        | .eql => K (.bool (a == b))
        | .neq => K (.bool (a != b))
        | .lss => K (.bool (decide (a < b)))
        | .leq => K (.bool (decide (a ≤ b)))
        | .gtr => K (.bool (decide (b < a)))
        | .geq => K (.bool (decide (b ≤ a)))
        | _ => False) else False)
  | .float k a, .float k' b =>
    if k = k' then
      (match op with
      | .add => FOP k (k.format.add a b) fun r => K (.float k r)
      | .sub => FOP k (k.format.sub a b) fun r => K (.float k r)
      | .mul => FOP k (k.format.mul a b) fun r => K (.float k r)
      | .quo => FOP k (k.format.div a b) fun r => K (.float k r)
      | .eql => K (.bool (k.format.order a b == some .eq))
      | .neq => K (.bool (k.format.order a b != some .eq))
      | .lss => K (.bool (k.format.order a b == some .lt))
      | .leq => K (.bool (k.format.order a b == some .lt || k.format.order a b == some .eq))
      | .gtr => K (.bool (k.format.order a b == some .gt))
      | .geq => K (.bool (k.format.order a b == some .gt || k.format.order a b == some .eq))
      | _ => False) else False
  | .string a, .string b =>
    (match op with
    | .add => ((a.size + b.size : Nat) : Int) ≤ 9223372036854775807 ∧ K (.string (a ++ b))
    | .eql => K (.bool (a.toList == b.toList))
    | .neq => K (.bool (!(a.toList == b.toList)))
    | .lss => K (.bool (Op.bytesLess a.toList b.toList))
    | _ => False)
  | .bool a, .bool b =>
    (match ti τ t with
    | some ⟨.bool, _, _, _⟩ => (match op with | .eql => K (.bool (a == b)) | .neq => K (.bool (!(a == b))) | _ => False)
    | _ => False)
  | _, _ => raw

/-- '==', '!=' of values that are compared part by part. -/
def CMP (P : Program) (op : BinOp) (t : Nat) (xo yo : Operand) (x y : Value) (F : Bool → Heap → Prop) (h : Heap) : Prop :=
  SEMV P (do eqGuard op t xo yo x y; binOp op t x y) (fun v h => asB v fun b => F b h) h

def unI (op : UnOp) (x : Value) (K : Value → Prop) : Prop :=
  match op, x with
  | .not, .bool b => K (.bool !b)
  | .neg, .int k n => K (.int k (k.wrap (0 - n)))
  | .neg, .float k b => K (.float k (Op.negFloat k b))
  | .xor, .int k n => K (.int k (bitI .xor k (if k.signed then -1 else k.max) n))
  | _, _ => False

def convI (τ : Static) (s d : Nat) (x : Value) (raw : Prop) (K : Value → Prop) : Prop :=
  match ti τ s, ti τ d with
  | some _, some i =>
    (match i.ty, x with
    | .int k, .int _ n => K (.int k (k.wrap n))
    | .float k, .int _ n => K (.float k (k.nearest n))
    | .int k, .float q b => FIC q b k fun n => K (.int k n)
    | .float k, .float q b => if q = k then K (.float k b) else FFC q b k fun r => K (.float k r)
    | .str, .string b => K (.string b)
    | _, _ => raw)
  | _, _ => raw

def boundI (v : Option Value) (dflt : Int) (F : Int → Prop) : Prop :=
  match v with
  | none => F dflt
  | some (.int _ n) => F n
  | some _ => False

/-- x[lo:hi] of strings, slices, arrays by their addresses; x[lo:hi:max] of slices. -/
def sliceI (τ : Static) (t : Nat) (x : Value) (lo hi mx : Option Value) (K : Value → Prop) : Prop :=
  match mx with
  | some (.int _ m) =>
    (match ti τ t, x, hi with
    | some ⟨.sl e, _, _, _⟩, .slice b _ cap, some (.int _ h) =>
      (match ti τ e with
      | some i => boundI lo 0 fun l => SLB3 l h m cap (K (.slice (slA b m.toNat l.toNat i.size) (h.toNat - l.toNat) (m.toNat - l.toNat)))
      | none => False)
    | _, _, _ => False)
  | some _ => False
  | none =>
    match ti τ t, x with
    | some ⟨.str, _, _, _⟩, .string s => boundI lo 0 fun l => boundI hi s.size fun h => SLB l h s.size (K (.string (s.extract l.toNat h.toNat)))
    | some ⟨.sl e, _, _, _⟩, .slice b len cap =>
      (match ti τ e with
      | some i => boundI lo 0 fun l => boundI hi len fun h => SLB l h cap (K (.slice (slA b cap l.toNat i.size) (h.toNat - l.toNat) (cap - l.toNat)))
      | none => False)
    | some ⟨.arr n e, _, _, _⟩, .pointer (some a) =>
      (match ti τ e with
      | some i => boundI lo 0 fun l => boundI hi n fun h => SLB l h n (K (.slice (some (slP a n l.toNat i.size)) (h.toNat - l.toNat) (n - l.toNat)))
      | none => False)
    | _, _ => False
/-- A call of a function value. -/
def CALLD (P : Program) (f : Value) (args : Array Value) (K : Value → Heap → Prop) (h : Heap) : Prop :=
  match f with
  | .func (.func g) first cap => CALL P g (first ++ args ++ cap) K h
  | v => CALLV P v args K h
def AAP (b : Option Addr) (n len : Nat) (F : Addr → Prop) : Prop := match b with | some a => n ≤ len ∧ F a | none => False

def opI (P : Program) (τ : Static) (o : Oper) (ev : Operand → Value) (K : Value → Heap → Prop) (h : Heap) : Prop :=
  match o.op with
  | .move x => K (ev x) h
  | .assign x => K (ev x) h
  | .pick c a b => (match ev c with | .bool t => BIF t (K (ev a) h) (K (ev b) h) | _ => False)
  | .alloc t => (match ti τ t with
    | some i => bif i.zero.isEmpty then False else ALC ⟨i.zero⟩ t (fun g h => K (.pointer (some ⟨g, 0, none⟩)) h) h
    | none => False)
  | .box t x => ALC (ev x).cells t (fun g h => K (.pointer (some ⟨g, 0, none⟩)) h) h
  | .build t parts => (match ti τ t with
    | some ⟨.st fs, _, _, z⟩ => bif z.isEmpty || !(fs.all fun f => (ti τ f.1).isSome) then False else fillI (fldPl τ fs) z.length (parts.toList.map fun p => (p.1, ev p.2)) z fun cells => K (.agg ⟨cells⟩) h
    | some ⟨.arr _ e, _, _, z⟩ => (match ti τ e with
      | some j => bif z.isEmpty then False else fillI (fun i => some (i * j.size, j.size)) z.length (parts.toList.map fun p => (p.1, ev p.2)) z fun cells => K (.agg ⟨cells⟩) h
      | none => False)
    | _ => False)
  | .buildSlice t len parts => (match ti τ t with
    | some ⟨.sl e, _, _, _⟩ => (match ti τ e with
      | some j => bif Nat.ble (len * j.size) 16777216 && (Nat.beq (len * j.size) 0 || !j.zero.isEmpty) then
          fillI (fun i => some (i * j.size, j.size)) (len * j.size) (parts.toList.map fun p => (p.1, ev p.2)) (zerosI j (len * j.size)) fun cells =>
            ALC ⟨cells⟩ e (fun g h => K (.slice (some ⟨g, 0, none⟩) len len) h) h
        else False
      | none => False)
    | _ => False)
  | .load t x => (match ev x with | .pointer (some a) => LD τ t h a (fun v => K v h) | _ => False)
  | .store t x y => (match ev x with
    | .pointer (some a) => (match ti τ t with
      | some i => (match i.ty with
        | .arr _ _ | .st _ => (match ev y with | .agg cs => STA i.size h a cs fun h => K undef h | _ => False)
        | _ => bif Nat.beq i.size 1 then OC (ev y) (ST1 h a (ev y) fun h => K undef h) else False)
      | none => False)
    | _ => False)
  | .nilCheck x => (match ev x with
    | .pointer (some a) => K (.pointer (some a)) h
    | .func (.func f) a c => K (.func (.func f) a c) h
    | _ => False)
  | .binOp op t x y _ => binI τ op t (ev x) (ev y) (CMP P op t x y (ev x) (ev y) (fun b h => K (.bool b) h) h) fun v => K v h
  | .unOp op _ x => unI op (ev x) fun v => K v h
  | .convert s d x => convI τ s d (ev x) (SEMV P (convert s d (ev x)) (fun v h => asT τ d v fun v => K v h) h) fun v => K v h
  | .makeFunc fn first captured => K (.func fn (first.map ev) (captured.map ev)) h
  | .makeSlice t l c => (match ti τ t with
    | some ⟨.sl e, _, _, _⟩ => (match ti τ e, ev l, ev c with
      | some i, .int _ l, .int _ c => MKS i e l c (fun g h => K (.slice (some ⟨g, 0, none⟩) l.toNat c.toNat) h) h
      | _, _, _ => False)
    | _ => False)
  | .slice t x lo hi mx => sliceI τ t (ev x) (lo.map ev) (hi.map ev) (mx.map ev) fun v => K v h
  | .sliceToArrayPointer t x => (match ti τ t, ev x with
    | some ⟨.arr n _, _, _, _⟩, .slice b len _ => AAP b n len fun a => K (.pointer (some a)) h
    | _, _ => False)
  | .fieldAddr t x i => (match ev x, ti τ t with
    | .pointer (some a), some ⟨.st fs, _, _, _⟩ => (match fs[i]? with
      | some (u, off) => (match ti τ u with
        | some j => bif Nat.beq j.size 0 then False else K (.pointer (some (a.add off))) h
        | none => False)
      | none => False)
    | _, _ => False)
  | .field t x i => (match ev x, ti τ t with
    | .agg cs, some ⟨.st fs, _, _, _⟩ => (match fs[i]? with
      | some (u, off) => GT τ u cs off fun v => K v h
      | none => False)
    | _, _ => False)
  | .indexAddr t x i => (match ti τ t, ev x, ev i with
    | some ⟨.arr n e, _, _, _⟩, .pointer (some a), .int _ i => (match ti τ e with
      | some j => IDX i n (K (.pointer (some (a.add (i.toNat * j.size)))) h)
      | none => False)
    | some ⟨.sl e, _, _, _⟩, .slice b len _, .int _ i => (match ti τ e with
      | some j => IDXS b i len fun a => K (.pointer (some (a.add (i.toNat * j.size)))) h
      | none => False)
    | _, _, _ => False)
  | .index t x i => (match ti τ t, ev x, ev i with
    | some ⟨.arr n e, _, _, _⟩, .agg cs, .int _ i => (match ti τ e with
      | some j => IDX i n (GT τ e cs (i.toNat * j.size) fun v => K v h)
      | none => False)
    | some ⟨.str, _, _, _⟩, .string s, .int _ i => IDX i s.size (K (.int .u8 (byteAt s i)) h)
    | _, _, _ => False)
  | .extract x i => (match ev x with
    | .tuple vs => (match vs.toList[i]? with | some v => K v h | none => False)
    | _ => False)
  | .call c => (match c.callee with
    | .value f => CALLD P (ev f) (c.args.map ev) (fun v h => asT τ o.type v fun v => K v h) h
    | .builtin .len => (match c.args.toList, c.argTypes.toList with
      | [x], [t] => (match ti τ t, ev x with
        | some ⟨.str, _, _, _⟩, .string s => K (.int .i64 s.size) h
        | some ⟨.sl _, _, _, _⟩, .slice _ n _ => K (.int .i64 n) h
        | some ⟨.arr n _, _, _, _⟩, _ => K (.int .i64 n) h
        | _, _ => SEMV P (Builtin.len_ c.argTypes o.type (c.args.map ev)) (fun v h => asT τ o.type v fun v => K v h) h)
      | _, _ => False)
    | .builtin b => SEMN P (builtin b c.argTypes o.type (c.args.map fun | .const _ => true | _ => false) (c.args.map ev)) (fun v h => asT τ o.type v fun v => K v h) h
    | _ => SEMN P (execOp ev o) K h)
  | _ => SEMN P (execOp ev o) (fun v h => asT τ o.type v fun v => K v h) h
end Go.Sx
