/- Each operation of loaded Go code in these words (opI), and that the words say no less than the model does (opI_sound). -/
import Derived.Test.YthgnpepchedpbaaDoorSx1
import Derived.Laws.Cells
namespace Go.Sx

def lget : Frame → Nat → Value
  | [], _ => undef
  | v :: _, 0 => v
  | _ :: l, n + 1 => lget l n
def lset : Frame → Nat → Value → Frame
  | [], _, _ => []
  | _ :: l, 0, u => u :: l
  | v :: l, n + 1, u => v :: lset l n u
def evL (fr : Frame) : Operand → Value
  | .tmp t => lget fr t
  | .const v => v
  | .global g => .pointer (some ⟨g, 0, none⟩)
  | .func f => .func (.func f) #[] #[]
def putL (fr : Frame) (d : Option Tmp) (v : Value) : Frame := match d with | some d => lset fr d v | none => fr

/-- A value that fits one cell. -/
def OC (v : Value) (p : Prop) : Prop := match v with | .agg _ | .tuple _ => False | _ => p
def splice (off size : Nat) (cs : Array Value) (cells : List Value) : List Value := cells.take off ++ (cs.toList ++ cells.drop (off + size))
/-- Aggregates put together out of their parts. -/
def fillI (pl : Nat → Option (Nat × Nat)) (n0 : Nat) : List (Nat × Value) → List Value → (List Value → Prop) → Prop
  | [], cells, F => F cells
  | (i, v) :: rest, cells, F =>
    match pl i with
    | none => False
    | some (off, size) => bif Nat.ble (off + size) n0 then
        (match v with
        | .agg cs => SIZ cs.size size (fillI pl n0 rest (splice off size cs cells) F)
        | v => bif Nat.beq size 1 then fillI pl n0 rest (cells.set off v) F else False)
      else False
def fldPl (τ : Static) (fs : List (Nat × Nat)) (i : Nat) : Option (Nat × Nat) :=
  match fs[i]? with
  | some (t, off) => (match ti τ t with | some j => some (off, j.size) | none => none)
  | none => none
def zerosI (i : TI) (n : Nat) : List Value := (List.range n).map fun j => lget i.zero (j % i.zero.length)

def binI (τ : Static) (op : BinOp) (t : Nat) (x y : Value) (raw : Prop) (K : Value → Prop) : Prop :=
  match x, y with
  | .int k a, .int k' b =>
    (match op with
    | .shl => NN b (K (.int k (shlI k a b)))
    | .shr => NN b (K (.int k (shrI k a b)))
    | op => if k = k' then
        (match op with
        | .add => K (.int k (k.wrap (a + b)))
        | .sub => K (.int k (k.wrap (a - b)))
        | .mul => K (.int k (k.wrap (a * b)))
        | .quo => NZ b (K (.int k (k.wrap (a.tdiv b))))
        | .rem => NZ b (K (.int k (a.tmod b)))
        | .and => K (.int k (bitI .and k a b))
        | .or => K (.int k (bitI .or k a b))
        | .xor => K (.int k (bitI .xor k a b))
        | .andNot => K (.int k (bitI .andNot k a b))
        | .eql => K (.bool (a == b))
        | .neq => K (.bool (a != b))
        | .lss => K (.bool (decide (a < b)))
        | .leq => K (.bool (decide (a ≤ b)))
        | .gtr => K (.bool (decide (b < a)))
        | .geq => K (.bool (decide (b ≤ a)))
        | _ => False) else False)
  | .float k a, .float k' b =>
    if k = k' then
      (match op with
      | .add => FOP k (k.format.add a b) fun r => K (.float k r)
      | .sub => FOP k (k.format.sub a b) fun r => K (.float k r)
      | .mul => FOP k (k.format.mul a b) fun r => K (.float k r)
      | .quo => FOP k (k.format.div a b) fun r => K (.float k r)
      | .eql => K (.bool (k.format.order a b == some .eq))
      | .neq => K (.bool (k.format.order a b != some .eq))
      | .lss => K (.bool (k.format.order a b == some .lt))
      | .leq => K (.bool (k.format.order a b == some .lt || k.format.order a b == some .eq))
      | .gtr => K (.bool (k.format.order a b == some .gt))
      | .geq => K (.bool (k.format.order a b == some .gt || k.format.order a b == some .eq))
      | _ => False) else False
  | .string a, .string b =>
    (match op with
    | .add => ((a.size + b.size : Nat) : Int) ≤ 9223372036854775807 ∧ K (.string (a ++ b))
    | .eql => K (.bool (a.toList == b.toList))
    | .neq => K (.bool (!(a.toList == b.toList)))
    | .lss => K (.bool (Op.bytesLess a.toList b.toList))
    | _ => False)
  | .bool a, .bool b =>
    (match ti τ t with
    | some ⟨.bool, _, _, _⟩ => (match op with | .eql => K (.bool (a == b)) | .neq => K (.bool (!(a == b))) | _ => False)
    | _ => False)
  | _, _ => raw

/-- '==', '!=' of values that are compared part by part. -/
def CMP (P : Program) (op : BinOp) (t : Nat) (xo yo : Operand) (x y : Value) (F : Bool → Heap → Prop) (h : Heap) : Prop :=
  SEMV P (do eqGuard op t xo yo x y; binOp op t x y) (fun v h => asB v fun b => F b h) h

def unI (op : UnOp) (x : Value) (K : Value → Prop) : Prop :=
  match op, x with
  | .not, .bool b => K (.bool !b)
  | .neg, .int k n => K (.int k (k.wrap (0 - n)))
  | .neg, .float k b => K (.float k (Op.negFloat k b))
  | .xor, .int k n => K (.int k (bitI .xor k (if k.signed then -1 else k.max) n))
  | _, _ => False

def convI (τ : Static) (s d : Nat) (x : Value) (raw : Prop) (K : Value → Prop) : Prop :=
  match ti τ s, ti τ d with
  | some _, some i =>
    (match i.ty, x with
    | .int k, .int _ n => K (.int k (k.wrap n))
    | .float k, .int _ n => K (.float k (k.nearest n))
    | .int k, .float q b => FIC q b k fun n => K (.int k n)
    | .float k, .float q b => if q = k then K (.float k b) else FFC q b k fun r => K (.float k r)
    | .str, .string b => K (.string b)
    | _, _ => raw)
  | _, _ => raw

def boundI (v : Option Value) (dflt : Int) (F : Int → Prop) : Prop :=
  match v with
  | none => F dflt
  | some (.int _ n) => F n
  | some _ => False

/-- x[lo:hi] of strings, slices, arrays by their addresses; x[lo:hi:max] of slices. -/
def sliceI (τ : Static) (t : Nat) (x : Value) (lo hi mx : Option Value) (K : Value → Prop) : Prop :=
  match mx with
  | some (.int _ m) =>
    (match ti τ t, x, hi with
    | some ⟨.sl e, _, _, _⟩, .slice b _ cap, some (.int _ h) =>
      (match ti τ e with
      | some i => boundI lo 0 fun l => SLB3 l h m cap (K (.slice (slA b m.toNat l.toNat i.size) (h.toNat - l.toNat) (m.toNat - l.toNat)))
      | none => False)
    | _, _, _ => False)
  | some _ => False
  | none =>
    match ti τ t, x with
    | some ⟨.str, _, _, _⟩, .string s => boundI lo 0 fun l => boundI hi s.size fun h => SLB l h s.size (K (.string (s.extract l.toNat h.toNat)))
    | some ⟨.sl e, _, _, _⟩, .slice b len cap =>
      (match ti τ e with
      | some i => boundI lo 0 fun l => boundI hi len fun h => SLB l h cap (K (.slice (slA b cap l.toNat i.size) (h.toNat - l.toNat) (cap - l.toNat)))
      | none => False)
    | some ⟨.arr n e, _, _, _⟩, .pointer (some a) =>
      (match ti τ e with
      | some i => boundI lo 0 fun l => boundI hi n fun h => SLB l h n (K (.slice (some (slP a n l.toNat i.size)) (h.toNat - l.toNat) (n - l.toNat)))
      | none => False)
    | _, _ => False
/-- A call of a function value. -/
def CALLD (P : Program) (f : Value) (args : Array Value) (K : Value → Heap → Prop) (h : Heap) : Prop :=
  match f with
  | .func (.func g) first cap => CALL P g (first ++ args ++ cap) K h
  | v => CALLV P v args K h
def AAP (b : Option Addr) (n len : Nat) (F : Addr → Prop) : Prop := match b with | some a => n ≤ len ∧ F a | none => False

def opI (P : Program) (τ : Static) (o : Oper) (ev : Operand → Value) (K : Value → Heap → Prop) (h : Heap) : Prop :=
  match o.op with
  | .move x => K (ev x) h
  | .assign x => K (ev x) h
  | .pick c a b => (match ev c with | .bool t => BIF t (K (ev a) h) (K (ev b) h) | _ => False)
  | .alloc t => (match ti τ t with
    | some i => bif i.zero.isEmpty then False else ALC ⟨i.zero⟩ t (fun g h => K (.pointer (some ⟨g, 0, none⟩)) h) h
    | none => False)
  | .box t x => ALC (ev x).cells t (fun g h => K (.pointer (some ⟨g, 0, none⟩)) h) h
  | .build t parts => (match ti τ t with
    | some ⟨.st fs, _, _, z⟩ => bif z.isEmpty || !(fs.all fun f => (ti τ f.1).isSome) then False else fillI (fldPl τ fs) z.length (parts.toList.map fun p => (p.1, ev p.2)) z fun cells => K (.agg ⟨cells⟩) h
    | some ⟨.arr _ e, _, _, z⟩ => (match ti τ e with
      | some j => bif z.isEmpty then False else fillI (fun i => some (i * j.size, j.size)) z.length (parts.toList.map fun p => (p.1, ev p.2)) z fun cells => K (.agg ⟨cells⟩) h
      | none => False)
    | _ => False)
  | .buildSlice t len parts => (match ti τ t with
    | some ⟨.sl e, _, _, _⟩ => (match ti τ e with
      | some j => bif Nat.ble (len * j.size) 16777216 && (Nat.beq (len * j.size) 0 || !j.zero.isEmpty) then
          fillI (fun i => some (i * j.size, j.size)) (len * j.size) (parts.toList.map fun p => (p.1, ev p.2)) (zerosI j (len * j.size)) fun cells =>
            ALC ⟨cells⟩ e (fun g h => K (.slice (some ⟨g, 0, none⟩) len len) h) h
        else False
      | none => False)
    | _ => False)
  | .load t x => (match ev x with | .pointer (some a) => LD τ t h a (fun v => K v h) | _ => False)
  | .store t x y => (match ev x with
    | .pointer (some a) => (match ti τ t with
      | some i => (match i.ty with
        | .arr _ _ | .st _ => (match ev y with | .agg cs => STA i.size h a cs fun h => K undef h | _ => False)
        | _ => bif Nat.beq i.size 1 then OC (ev y) (ST1 h a (ev y) fun h => K undef h) else False)
      | none => False)
    | _ => False)
  | .nilCheck x => (match ev x with
    | .pointer (some a) => K (.pointer (some a)) h
    | .func (.func f) a c => K (.func (.func f) a c) h
    | _ => False)
  | .binOp op t x y _ => binI τ op t (ev x) (ev y) (CMP P op t x y (ev x) (ev y) (fun b h => K (.bool b) h) h) fun v => K v h
  | .unOp op _ x => unI op (ev x) fun v => K v h
  | .convert s d x => convI τ s d (ev x) (SEMV P (convert s d (ev x)) (fun v h => asT τ d v fun v => K v h) h) fun v => K v h
  | .makeFunc fn first captured => K (.func fn (first.map ev) (captured.map ev)) h
  | .makeSlice t l c => (match ti τ t with
    | some ⟨.sl e, _, _, _⟩ => (match ti τ e, ev l, ev c with
      | some i, .int _ l, .int _ c => MKS i e l c (fun g h => K (.slice (some ⟨g, 0, none⟩) l.toNat c.toNat) h) h
      | _, _, _ => False)
    | _ => False)
  | .slice t x lo hi mx => sliceI τ t (ev x) (lo.map ev) (hi.map ev) (mx.map ev) fun v => K v h
  | .sliceToArrayPointer t x => (match ti τ t, ev x with
    | some ⟨.arr n _, _, _, _⟩, .slice b len _ => AAP b n len fun a => K (.pointer (some a)) h
    | _, _ => False)
  | .fieldAddr t x i => (match ev x, ti τ t with
    | .pointer (some a), some ⟨.st fs, _, _, _⟩ => (match fs[i]? with
      | some (u, off) => (match ti τ u with
        | some j => bif Nat.beq j.size 0 then False else K (.pointer (some (a.add off))) h
        | none => False)
      | none => False)
    | _, _ => False)
  | .field t x i => (match ev x, ti τ t with
    | .agg cs, some ⟨.st fs, _, _, _⟩ => (match fs[i]? with
      | some (u, off) => GT τ u cs off fun v => K v h
      | none => False)
    | _, _ => False)
  | .indexAddr t x i => (match ti τ t, ev x, ev i with
    | some ⟨.arr n e, _, _, _⟩, .pointer (some a), .int _ i => (match ti τ e with
      | some j => IDX i n (K (.pointer (some (a.add (i.toNat * j.size)))) h)
      | none => False)
    | some ⟨.sl e, _, _, _⟩, .slice b len _, .int _ i => (match ti τ e with
      | some j => IDXS b i len fun a => K (.pointer (some (a.add (i.toNat * j.size)))) h
      | none => False)
    | _, _, _ => False)
  | .index t x i => (match ti τ t, ev x, ev i with
    | some ⟨.arr n e, _, _, _⟩, .agg cs, .int _ i => (match ti τ e with
      | some j => IDX i n (GT τ e cs (i.toNat * j.size) fun v => K v h)
      | none => False)
    | some ⟨.str, _, _, _⟩, .string s, .int _ i => IDX i s.size (K (.int .u8 (byteAt s i)) h)
    | _, _, _ => False)
  | .extract x i => (match ev x with
    | .tuple vs => (match vs.toList[i]? with | some v => K v h | none => False)
    | _ => False)
  | .call c => (match c.callee with
    | .value f => CALLD P (ev f) (c.args.map ev) (fun v h => asT τ o.type v fun v => K v h) h
    | .builtin .len => (match c.args.toList, c.argTypes.toList with
      | [x], [t] => (match ti τ t, ev x with
        | some ⟨.str, _, _, _⟩, .string s => K (.int .i64 s.size) h
        | some ⟨.sl _, _, _, _⟩, .slice _ n _ => K (.int .i64 n) h
        | some ⟨.arr n _, _, _, _⟩, _ => K (.int .i64 n) h
        | _, _ => SEMV P (Builtin.len_ c.argTypes o.type (c.args.map ev)) (fun v h => asT τ o.type v fun v => K v h) h)
      | _, _ => False)
    | .builtin b => SEMN P (builtin b c.argTypes o.type (c.args.map fun | .const _ => true | _ => false) (c.args.map ev)) (fun v h => asT τ o.type v fun v => K v h) h
    | _ => SEMN P (execOp ev o) K h)
  | _ => SEMN P (execOp ev o) (fun v h => asT τ o.type v fun v => K v h) h
end Go.Sx
