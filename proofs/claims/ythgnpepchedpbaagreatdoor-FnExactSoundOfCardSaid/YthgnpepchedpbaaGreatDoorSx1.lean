/- Lemmas. -/
import Derived.Calls
import Derived.Orders
import Derived.Laws.Sem
import Derived.Laws.Entries
import Derived.Laws.Cover2
import Derived.Laws.Small
import Derived.KernelRfl
import Derived.Laws.Cells
set_option linter.unusedVariables false
set_option linter.unusedSimpArgs false
namespace Go.Sx
abbrev ab:=Array Obj
abbrev Frame:=List Value
def cell(h:ab)(a:Addr):Option Value:=
 match h[a.block]? with
 | some (.cells c _ _)=>if a.spot.isSome then none else c[a.off]?
 | _=>none
def AO(h:ab)(a:Addr):Bool:=
 match h[a.block]? with
 | some (.cells _ _ (lo,hi))=>lo≤a.off&&a.off<hi
 | _=>false
def CF(h:ab)(a:Addr)(v:Value):ab:=
 h.modify a.block fun
  | .cells c elem frozen=>.cells (if a.spot.isSome then c else c.setIfInBounds a.off v) elem frozen
  | o=>o
theorem tf(w:World)(a:Addr):w.cell? a=cell w.heap a:=rfl
theorem aaA(w:World)(a:Addr):w.frozen? a=AO w.heap a:=rfl
theorem Tl(w:World)(a:Addr)(v:Value):(w.setCell a v).heap=CF w.heap a v:=rfl
def Au(h:ab)(a:Addr):List Value->Nat->ab
 | [],_=>h
 | v :: r,i=>Au (CF h (a.add i) v) a r (i+1)
structure hZ (w w':World):Prop where
 os:w'.os=w.os
 tape:w'.tape=w.tape
 output:w'.output=w.output
theorem hZ.refl(w:World):hZ w w:=⟨rfl,rfl,rfl⟩
theorem hZ.trans{a b c:World}(h:hZ a b)(k:hZ b c):hZ a c:=⟨k.os.trans h.os,k.tape.trans h.tape,k.output.trans h.output⟩
def E2(P:Program)(r:Result Next)(N:Value->World->Prop):Prop:=
 match r with
 | .ok (.value v) w'=>N v w'
 | .ok .skip w'=>N undef w'
 | .ok (.enter f args) w'=>Calls P f args w' λe w''=>∃v,e = .returned v∧N v w''
 | _=>False
def jt(P:Program)(s:Sem Next)(K:Value->ab->Prop)(h:ab):Prop:=
 ∀w:World,w.heap=h->E2 P (s.run P w) λv w'=>hZ w w'∧K v w'.heap
def gC(P:Program)(s:Sem Value)(K:Value->ab->Prop)(h:ab):Prop:=jt P (do pure (.value (← s))) K h
def af(P:Program)(f:FuncId)(args:Array Value)(K:Value->ab->Prop)(h:ab):Prop:=jt P (callFunc f args) K h
def ahO(P:Program)(f:Value)(args:Array Value)(K:Value->ab->Prop)(h:ab):Prop:=
 jt P (do let d ← Deferred.ofValue f args;invoke d.target d.args) K h
inductive Ty where
 | int (k:IntKind) | bool | float (k:FloatKind) | str | ptr | sl (e:Nat) | arr (n e:Nat) | st (fs:List (Nat×Nat)) | Ax (ts:List Nat) | oth
def mC:TypeDesc->Ty
 | .int k=>.int k | .bool=>.bool | .float k=>.float k | .string=>.str | .pointer _=>.ptr | .slice e=>.sl e | .array n e=>.arr n e
 | .struct fs=>.st (fs.toList.map λf=>(f.type,f.offset)) | .tuple es=>.Ax es.toList | _=>.oth
structure TI where
 ty:Ty
 size:Nat
 bytes:Nat
 zero:List Value
abbrev Static:=List (Nat×TI)
def ti:Static->Nat->Option TI
 | [],_=>none
 | (u,i) :: r,t=>bif Nat.beq u t then some i else ti r t
def okT(P:Program)(e:Nat×TI):Prop:=
 ∃d i,P.underlying e.1=some d∧mC d=e.2.ty∧P.info? e.1=some i∧i.size=e.2.size∧i.bytes=e.2.bytes∧(e.2.zero=[]∨∃z,i.zero=some z∧z.cells.toList=e.2.zero)
def OkS(P:Program)(τ:Static):Prop:=∀e ∈ τ,okT P e
theorem Zn:∀{τ:Static}{t:Nat}{i:TI},ti τ t=some i->(t,i) ∈ τ
 | [],_,_,h=>by simp[ti] at h
 | (u,j) :: r,t,i,h=>by
  unfold ti at h
  cases hb:Nat.beq u t with
  | true=>
   rw[hb] at h
   simp at h
   rw[Nat.beq_eq] at hb
   subst hb;subst h
   exact .head _
  | false=>
   rw[hb] at h
   simp at h
   exact .tail _ (Zn h)
def asI(k:IntKind)(v:Value)(F:Int->Prop):Prop:=match v with | .int k' n=>if k'=k then F n else False | _=>False
def asB(v:Value)(F:Bool->Prop):Prop:=match v with | .bool b=>F b | _=>False
def asF(k:FloatKind)(v:Value)(F:Nat->Prop):Prop:=match v with | .float k' n=>if k'=k then F n else False | _=>False
def asS(v:Value)(F:ByteArray->Prop):Prop:=match v with | .string s=>F s | _=>False
def asP(v:Value)(F:Addr->Prop):Prop:=match v with | .pointer (some a)=>F a | _=>False
def asL(v:Value)(F:Option Addr->Nat->Nat->Prop):Prop:=match v with | .slice b l c=>F b l c | _=>False
def asA(v:Value)(F:Array Value->Prop):Prop:=match v with | .agg cs=>F cs | _=>False
def oI(k:IntKind)(v:Option Value)(F:Int->Prop):Prop:=match v with | some v=>asI k v F | none=>False
def oB(v:Option Value)(F:Bool->Prop):Prop:=match v with | some v=>asB v F | none=>False
def oF(k:FloatKind)(v:Option Value)(F:Nat->Prop):Prop:=match v with | some v=>asF k v F | none=>False
def oS(v:Option Value)(F:ByteArray->Prop):Prop:=match v with | some v=>asS v F | none=>False
def oP(v:Option Value)(F:Addr->Prop):Prop:=match v with | some v=>asP v F | none=>False
def oL(v:Option Value)(F:Option Addr->Nat->Nat->Prop):Prop:=match v with | some v=>asL v F | none=>False
def oV(v:Option Value)(F:Value->Prop):Prop:=match v with | some v=>F v | none=>False
def LDA(n:Nat)(h:ab)(a:Addr)(F:Array Value->Prop):Prop:=∃cs:Array Value,cs.size=n∧(∀j,j<n->cell h (a.add j)=cs[j]?)∧F cs
def fV(v:Value)(F:Value->Value->Prop):Prop:=match v with | .tuple ⟨[a,b]⟩=>F a b | _=>False
def TH(v:Value)(F:Value->Value->Value->Prop):Prop:=match v with | .tuple ⟨[a,b,c]⟩=>F a b c | _=>False
def aep(v:Value)(F:Value->Value->Value->Value->Prop):Prop:=match v with | .tuple ⟨[a,b,c,d]⟩=>F a b c d | _=>False
def aeq(v:Value)(F:Value->Value->Value->Value->Value->Prop):Prop:=match v with | .tuple ⟨[a,b,c,d,e]⟩=>F a b c d e | _=>False
def as1(τ:Static)(t:Nat)(v:Value)(K:Value->Prop):Prop:=
 match ti τ t with
 | none=>K v
 | some i=>match i.ty with
  | .int k=>asI k v λn=>K (.int k n)
  | .bool=>asB v λb=>K (.bool b)
  | .float k=>asF k v λn=>K (.float k n)
  | .str=>asS v λs=>K (.string s)
  | .ptr=>asP v λa=>K (.pointer (some a))
  | .sl _=>asL v λb l c=>K (.slice b l c)
  | .arr _ _ | .st _=>asA v λcs=>K (.agg cs)
  | .Ax _ | .oth=>K v
def asT(τ:Static)(t:Nat)(v:Value)(K:Value->Prop):Prop:=
 match ti τ t with
 | some ⟨.Ax [],_,_,_⟩=>K v
 | some ⟨.Ax [p,q],_,_,_⟩=>fV v λa b=>as1 τ p a λa=>as1 τ q b λb=>K (.tuple ⟨[a,b]⟩)
 | some ⟨.Ax [p,q,r],_,_,_⟩=>TH v λa b c=>as1 τ p a λa=>as1 τ q b λb=>as1 τ r c λc=>K (.tuple ⟨[a,b,c]⟩)
 | some ⟨.Ax [p,q,r,s],_,_,_⟩=>aep v λa b c d=>as1 τ p a λa=>as1 τ q b λb=>as1 τ r c λc=>as1 τ s d λd=>K (.tuple ⟨[a,b,c,d]⟩)
 | some ⟨.Ax [p,q,r,s,u],_,_,_⟩=>aeq v λa b c d e=>as1 τ p a λa=>as1 τ q b λb=>as1 τ r c λc=>as1 τ s d λd=>as1 τ u e λe=>K (.tuple ⟨[a,b,c,d,e]⟩)
 | _=>as1 τ t v K
def LD(τ:Static)(t:Nat)(h:ab)(a:Addr)(K:Value->Prop):Prop:=
 match ti τ t with
 | none=>False
 | some i=>match i.ty with
  | .int k=>oI k (cell h a) λn=>K (.int k n)
  | .bool=>oB (cell h a) λb=>K (.bool b)
  | .float k=>oF k (cell h a) λn=>K (.float k n)
  | .str=>oS (cell h a) λs=>K (.string s)
  | .ptr=>oP (cell h a) λa=>K (.pointer (some a))
  | .sl _=>oL (cell h a) λb l c=>K (.slice b l c)
  | .arr _ _ | .st _=>LDA i.size h a λcs=>K (.agg cs)
  | .oth=>oV (cell h a) K
  | .Ax _=>False
def GT(τ:Static)(t:Nat)(cs:Array Value)(off:Nat)(K:Value->Prop):Prop:=
 match ti τ t with
 | none=>False
 | some i=>match i.ty with
  | .int k=>oI k cs[off]? λn=>K (.int k n)
  | .bool=>oB cs[off]? λb=>K (.bool b)
  | .float k=>oF k cs[off]? λn=>K (.float k n)
  | .str=>oS cs[off]? λs=>K (.string s)
  | .ptr=>oP cs[off]? λa=>K (.pointer (some a))
  | .sl _=>oL cs[off]? λb l c=>K (.slice b l c)
  | .arr _ _ | .st _=>K (.agg (cs.extract off (off+i.size)))
  | .oth=>oV cs[off]? K
  | .Ax _=>False
def BIF(b:Bool)(p q:Prop):Prop:=match b with | true=>p | false=>q
def ALC(cs:Array Value)(t:Nat)(F:Nat->ab->Prop)(h:ab):Prop:=F h.size (h.push (.cells cs t))
def ST1(h:ab)(a:Addr)(v:Value)(F:ab->Prop):Prop:=(cell h a).isSome=true∧AO h a=false∧F (CF h a v)
def STA(n:Nat)(h:ab)(a:Addr)(cs:Array Value)(F:ab->Prop):Prop:=
 cs.size=n∧(∀v ∈ cs.toList,v.oneCell'=true)∧(∀j,j<n->(cell h (a.add j)).isSome=true∧AO h (a.add j)=false)∧F (Au h a cs.toList 0)
def NZ(b:Int)(p:Prop):Prop:=b≠0∧p
def NN(b:Int)(p:Prop):Prop:=0≤b∧p
def IDX(i:Int)(n:Nat)(p:Prop):Prop:=(0≤i∧i<(n:Int))∧p
def bd(b:Option Addr)(i:Int)(n:Nat)(F:Addr->Prop):Prop:=match b with | some a=>(0≤i∧i<(n:Int))∧F a | none=>False
def hD(s:ByteArray)(i:Int):Int:=((s[i.toNat]?).map λb=>(b.toNat:Int)).getD 0
def SIZ(n m:Nat)(p:Prop):Prop:=n=m∧p
def vL(k:FloatKind)(r:Nat):Prop:=
 match k with
 | .f32=>∃t:Nat,r=(t % 2)*2 ^ 31+0x7f800000+1+(t / 2) % (2 ^ 23-1)
 | .f64=>∃t:Nat,r=(t % 2)*2 ^ 63+0x7ff0000000000000+1+(t / 2) % (2 ^ 52-1)
def IsF(k:FloatKind)(o:Option Nat)(r:Nat):Prop:=match o with | some v=>r=v | none=>vL k r
def FOP(k:FloatKind)(o:Option Nat)(F:Nat->Prop):Prop:=∀r,IsF k o r->F r
def I3(s:FloatKind)(b:Nat)(d:FloatKind)(r:Nat):Prop:=
 match s.decode b with
 | .nan _ _=>vL d r
 | .infinity n=>r=d.encode (.infinity n)
 | .number n m e=>if(d.decode (d.encode (.number n m e))).isInfinity then r<2 ^ 32 else r=d.encode (.number n m e)
def FFC(s:FloatKind)(b:Nat)(d:FloatKind)(F:Nat->Prop):Prop:=∀r,I3 s b d r->F r
def TB(s:FloatKind)(b:Nat)(d:IntKind)(n:Int):Prop:=
 match (s.decode b).toInt .zero with
 | some m=>if d.min≤m∧m≤d.max then n=m else ∃t:Int,n=d.wrap t
 | none=>∃t:Int,n=d.wrap t
def FIC(s:FloatKind)(b:Nat)(d:IntKind)(F:Int->Prop):Prop:=∀n,TB s b d n->F n
def tU(op:BinOp)(k:IntKind)(x y:Int):Int:=
 let a:=BitVec.ofInt k.bits x
 let b:=BitVec.ofInt k.bits y
 match op with
 | .and=>k.wrap (a &&& b).toNat | .or=>k.wrap (a ||| b).toNat | .xor=>k.wrap (a ^^^ b).toNat | _=>k.wrap (a &&& ~~~b).toNat
def Ze(k:IntKind)(x y:Int):Int:=k.wrap (x*2 ^ (min y.toNat k.bits))
def LW(k:IntKind)(x y:Int):Int:=x.fdiv (2 ^ (min y.toNat k.bits))
def MKS(i:TI)(e:Nat)(l c:Int)(F:Nat->ab->Prop)(h:ab):Prop:=
 (0≤l∧l≤c∧(i.bytes:Int)*c≤2 ^ 48∧c≤9223372036854775807∧i.zero≠[])∧ALC ((Array.range (c.toNat*i.size)).map λj=>(⟨i.zero⟩:Array Value)[j % (⟨i.zero⟩:Array Value).size]!) e F h
def SLB(lo hi cap:Int)(p:Prop):Prop:=(0≤lo∧lo≤hi∧hi≤cap)∧p
def am7(lo hi mx cap:Int)(p:Prop):Prop:=(0≤lo∧lo≤hi∧hi≤mx∧mx≤cap)∧p
def slA(b:Option Addr)(cap lo size:Nat):Option Addr:=if cap=lo then b else b.map (·.add (lo*size))
def slP(a:Addr)(cap lo size:Nat):Addr:=if cap=lo then a else a.add (lo*size)
def ah:Frame->Nat->Value
 | [],_=>undef
 | v :: _,0=>v
 | _ :: l,n+1=>ah l n
def IK:Frame->Nat->Value->Frame
 | [],_,_=>[]
 | _ :: l,0,u=>u :: l
 | v :: l,n+1,u=>v :: IK l n u
def evL(fr:Frame):Operand->Value
 | .tmp t=>ah fr t
 | .const v=>v
 | .global g=>.pointer (some ⟨g,0,none⟩)
 | .func f=>.func (.func f) #[] #[]
def lO(fr:Frame)(d:Option Tmp)(v:Value):Frame:=match d with | some d=>IK fr d v | none=>fr
def OC(v:Value)(p:Prop):Prop:=match v with | .agg _ | .tuple _=>False | _=>p
def eE(off size:Nat)(cs:Array Value)(cells:List Value):List Value:=cells.take off++(cs.toList++cells.drop (off+size))
def yp(pl:Nat->Option (Nat×Nat))(n0:Nat):List (Nat×Value)->List Value->(List Value->Prop)->Prop
 | [],cells,F=>F cells
 | (i,v) :: rest,cells,F=>
  match pl i with
  | none=>False
  | some (off,size)=>bif Nat.ble (off+size) n0 then
    (match v with
    | .agg cs=>SIZ cs.size size (yp pl n0 rest (eE off size cs cells) F)
    | v=>bif Nat.beq size 1 then yp pl n0 rest (cells.set off v) F else False)
   else False
def SC(τ:Static)(fs:List (Nat×Nat))(i:Nat):Option (Nat×Nat):=
 match fs[i]? with
 | some (t,off)=>(match ti τ t with | some j=>some (off,j.size) | none=>none)
 | none=>none
def DY(i:TI)(n:Nat):List Value:=(List.range n).map λj=>ah i.zero (j % i.zero.length)
def KO(τ:Static)(op:BinOp)(t:Nat)(x y:Value)(raw:Prop)(K:Value->Prop):Prop:=
 match x,y with
 | .int k a,.int k' b=>
  (match op with
  | .shl=>NN b (K (.int k (Ze k a b)))
  | .shr=>NN b (K (.int k (LW k a b)))
  | op=>if k=k' then
    (match op with
    | .add=>K (.int k (k.wrap (a+b)))
    | .sub=>K (.int k (k.wrap (a-b)))
    | .mul=>K (.int k (k.wrap (a*b)))
    | .quo=>NZ b (K (.int k (k.wrap (a.tdiv b))))
    | .rem=>NZ b (K (.int k (a.tmod b)))
    | .and=>K (.int k (tU .and k a b))
    | .or=>K (.int k (tU .or k a b))
    | .xor=>K (.int k (tU .xor k a b))
    | .andNot=>K (.int k (tU .andNot k a b))
    | .eql=>K (.bool (a==b))
    | .neq=>K (.bool (a != b))
    | .lss=>K (.bool (decide (a<b)))
    | .leq=>K (.bool (decide (a≤b)))
    | .gtr=>K (.bool (decide (b<a)))
    | .geq=>K (.bool (decide (b≤a)))
    | _=>False) else False)
 | .float k a,.float k' b=>
  if k=k' then
   (match op with
   | .add=>FOP k (k.format.add a b) λr=>K (.float k r)
   | .sub=>FOP k (k.format.sub a b) λr=>K (.float k r)
   | .mul=>FOP k (k.format.mul a b) λr=>K (.float k r)
   | .quo=>FOP k (k.format.div a b) λr=>K (.float k r)
   | .eql=>K (.bool (k.format.order a b==some .eq))
   | .neq=>K (.bool (k.format.order a b != some .eq))
   | .lss=>K (.bool (k.format.order a b==some .lt))
   | .leq=>K (.bool (k.format.order a b==some .lt||k.format.order a b==some .eq))
   | .gtr=>K (.bool (k.format.order a b==some .gt))
   | .geq=>K (.bool (k.format.order a b==some .gt||k.format.order a b==some .eq))
   | _=>False) else False
 | .string a,.string b=>
  (match op with
  | .add=>((a.size+b.size:Nat):Int)≤9223372036854775807∧K (.string (a++b))
  | .eql=>K (.bool (a.toList==b.toList))
  | .neq=>K (.bool (!(a.toList==b.toList)))
  | .lss=>K (.bool (Op.bytesLess a.toList b.toList))
  | _=>False)
 | .bool a,.bool b=>
  (match ti τ t with
  | some ⟨.bool,_,_,_⟩=>(match op with | .eql=>K (.bool (a==b)) | .neq=>K (.bool (!(a==b))) | _=>False)
  | _=>False)
 | _,_=>raw
def CMP(P:Program)(op:BinOp)(t:Nat)(xo yo:Operand)(x y:Value)(F:Bool->ab->Prop)(h:ab):Prop:=
 gC P (do eqGuard op t xo yo x y;binOp op t x y) (λv h=>asB v λb=>F b h) h
def unI(op:UnOp)(x:Value)(K:Value->Prop):Prop:=
 match op,x with
 | .not,.bool b=>K (.bool !b)
 | .neg,.int k n=>K (.int k (k.wrap (0-n)))
 | .neg,.float k b=>K (.float k (Op.negFloat k b))
 | .xor,.int k n=>K (.int k (tU .xor k (if k.signed then -1 else k.max) n))
 | _,_=>False
def Jw(τ:Static)(s d:Nat)(x:Value)(raw:Prop)(K:Value->Prop):Prop:=
 match ti τ s,ti τ d with
 | some _,some i=>
  (match i.ty,x with
  | .int k,.int _ n=>K (.int k (k.wrap n))
  | .float k,.int _ n=>K (.float k (k.nearest n))
  | .int k,.float q b=>FIC q b k λn=>K (.int k n)
  | .float k,.float q b=>if q=k then K (.float k b) else FFC q b k λr=>K (.float k r)
  | .str,.string b=>K (.string b)
  | _,_=>raw)
 | _,_=>raw
def rR(v:Option Value)(anb:Int)(F:Int->Prop):Prop:=
 match v with
 | none=>F anb
 | some (.int _ n)=>F n
 | some _=>False
def Hi(τ:Static)(t:Nat)(x:Value)(lo hi mx:Option Value)(K:Value->Prop):Prop:=
 match mx with
 | some (.int _ m)=>
  (match ti τ t,x,hi with
  | some ⟨.sl e,_,_,_⟩,.slice b _ cap,some (.int _ h)=>
   (match ti τ e with
   | some i=>rR lo 0 λl=>am7 l h m cap (K (.slice (slA b m.toNat l.toNat i.size) (h.toNat-l.toNat) (m.toNat-l.toNat)))
   | none=>False)
  | _,_,_=>False)
 | some _=>False
 | none=>
  match ti τ t,x with
  | some ⟨.str,_,_,_⟩,.string s=>rR lo 0 λl=>rR hi s.size λh=>SLB l h s.size (K (.string (s.extract l.toNat h.toNat)))
  | some ⟨.sl e,_,_,_⟩,.slice b len cap=>
   (match ti τ e with
   | some i=>rR lo 0 λl=>rR hi len λh=>SLB l h cap (K (.slice (slA b cap l.toNat i.size) (h.toNat-l.toNat) (cap-l.toNat)))
   | none=>False)
  | some ⟨.arr n e,_,_,_⟩,.pointer (some a)=>
   (match ti τ e with
   | some i=>rR lo 0 λl=>rR hi n λh=>SLB l h n (K (.slice (some (slP a n l.toNat i.size)) (h.toNat-l.toNat) (n-l.toNat)))
   | none=>False)
  | _,_=>False
def pE(P:Program)(f:Value)(args:Array Value)(K:Value->ab->Prop)(h:ab):Prop:=
 match f with
 | .func (.func g) first cap=>af P g (first++args++cap) K h
 | v=>ahO P v args K h
def AAP(b:Option Addr)(n len:Nat)(F:Addr->Prop):Prop:=match b with | some a=>n≤len∧F a | none=>False
def opI(P:Program)(τ:Static)(o:Oper)(ev:Operand->Value)(K:Value->ab->Prop)(h:ab):Prop:=
 match o.op with
 | .move x=>K (ev x) h
 | .assign x=>K (ev x) h
 | .pick c a b=>(match ev c with | .bool t=>BIF t (K (ev a) h) (K (ev b) h) | _=>False)
 | .alloc t=>(match ti τ t with
  | some i=>bif i.zero.isEmpty then False else ALC ⟨i.zero⟩ t (λg h=>K (.pointer (some ⟨g,0,none⟩)) h) h
  | none=>False)
 | .box t x=>ALC (ev x).cells t (λg h=>K (.pointer (some ⟨g,0,none⟩)) h) h
 | .build t parts=>(match ti τ t with
  | some ⟨.st fs,_,_,z⟩=>bif z.isEmpty || !(fs.all λf=>(ti τ f.1).isSome) then False else yp (SC τ fs) z.length (parts.toList.map λp=>(p.1,ev p.2)) z λcells=>K (.agg ⟨cells⟩) h
  | some ⟨.arr _ e,_,_,z⟩=>(match ti τ e with
   | some j=>bif z.isEmpty then False else yp (λi=>some (i*j.size,j.size)) z.length (parts.toList.map λp=>(p.1,ev p.2)) z λcells=>K (.agg ⟨cells⟩) h
   | none=>False)
  | _=>False)
 | .buildSlice t len parts=>(match ti τ t with
  | some ⟨.sl e,_,_,_⟩=>(match ti τ e with
   | some j=>bif Nat.ble (len*j.size) 16777216&&(Nat.beq (len*j.size) 0 || !j.zero.isEmpty) then
     yp (λi=>some (i*j.size,j.size)) (len*j.size) (parts.toList.map λp=>(p.1,ev p.2)) (DY j (len*j.size)) λcells=>
      ALC ⟨cells⟩ e (λg h=>K (.slice (some ⟨g,0,none⟩) len len) h) h
    else False
   | none=>False)
  | _=>False)
 | .load t x=>(match ev x with | .pointer (some a)=>LD τ t h a (λv=>K v h) | _=>False)
 | .store t x y=>(match ev x with
  | .pointer (some a)=>(match ti τ t with
   | some i=>(match i.ty with
    | .arr _ _ | .st _=>(match ev y with | .agg cs=>STA i.size h a cs λh=>K undef h | _=>False)
    | _=>bif Nat.beq i.size 1 then OC (ev y) (ST1 h a (ev y) λh=>K undef h) else False)
   | none=>False)
  | _=>False)
 | .nilCheck x=>(match ev x with
  | .pointer (some a)=>K (.pointer (some a)) h
  | .func (.func f) a c=>K (.func (.func f) a c) h
  | _=>False)
 | .binOp op t x y _=>KO τ op t (ev x) (ev y) (CMP P op t x y (ev x) (ev y) (λb h=>K (.bool b) h) h) λv=>K v h
 | .unOp op _ x=>unI op (ev x) λv=>K v h
 | .convert s d x=>Jw τ s d (ev x) (gC P (convert s d (ev x)) (λv h=>asT τ d v λv=>K v h) h) λv=>K v h
 | .makeFunc fn first captured=>K (.func fn (first.map ev) (captured.map ev)) h
 | .makeSlice t l c=>(match ti τ t with
  | some ⟨.sl e,_,_,_⟩=>(match ti τ e,ev l,ev c with
   | some i,.int _ l,.int _ c=>MKS i e l c (λg h=>K (.slice (some ⟨g,0,none⟩) l.toNat c.toNat) h) h
   | _,_,_=>False)
  | _=>False)
 | .slice t x lo hi mx=>Hi τ t (ev x) (lo.map ev) (hi.map ev) (mx.map ev) λv=>K v h
 | .sliceToArrayPointer t x=>(match ti τ t,ev x with
  | some ⟨.arr n _,_,_,_⟩,.slice b len _=>AAP b n len λa=>K (.pointer (some a)) h
  | _,_=>False)
 | .fieldAddr t x i=>(match ev x,ti τ t with
  | .pointer (some a),some ⟨.st fs,_,_,_⟩=>(match fs[i]? with
   | some (u,off)=>(match ti τ u with
    | some j=>bif Nat.beq j.size 0 then False else K (.pointer (some (a.add off))) h
    | none=>False)
   | none=>False)
  | _,_=>False)
 | .field t x i=>(match ev x,ti τ t with
  | .agg cs,some ⟨.st fs,_,_,_⟩=>(match fs[i]? with
   | some (u,off)=>GT τ u cs off λv=>K v h
   | none=>False)
  | _,_=>False)
 | .indexAddr t x i=>(match ti τ t,ev x,ev i with
  | some ⟨.arr n e,_,_,_⟩,.pointer (some a),.int _ i=>(match ti τ e with
   | some j=>IDX i n (K (.pointer (some (a.add (i.toNat*j.size)))) h)
   | none=>False)
  | some ⟨.sl e,_,_,_⟩,.slice b len _,.int _ i=>(match ti τ e with
   | some j=>bd b i len λa=>K (.pointer (some (a.add (i.toNat*j.size)))) h
   | none=>False)
  | _,_,_=>False)
 | .index t x i=>(match ti τ t,ev x,ev i with
  | some ⟨.arr n e,_,_,_⟩,.agg cs,.int _ i=>(match ti τ e with
   | some j=>IDX i n (GT τ e cs (i.toNat*j.size) λv=>K v h)
   | none=>False)
  | some ⟨.str,_,_,_⟩,.string s,.int _ i=>IDX i s.size (K (.int .u8 (hD s i)) h)
  | _,_,_=>False)
 | .extract x i=>(match ev x with
  | .tuple vs=>(match vs.toList[i]? with | some v=>K v h | none=>False)
  | _=>False)
 | .call c=>(match c.callee with
  | .value f=>pE P (ev f) (c.args.map ev) (λv h=>asT τ o.type v λv=>K v h) h
  | .builtin .len=>(match c.args.toList,c.argTypes.toList with
   | [x],[t]=>(match ti τ t,ev x with
    | some ⟨.str,_,_,_⟩,.string s=>K (.int .i64 s.size) h
    | some ⟨.sl _,_,_,_⟩,.slice _ n _=>K (.int .i64 n) h
    | some ⟨.arr n _,_,_,_⟩,_=>K (.int .i64 n) h
    | _,_=>gC P (Builtin.len_ c.argTypes o.type (c.args.map ev)) (λv h=>asT τ o.type v λv=>K v h) h)
   | _,_=>False)
  | .builtin b=>jt P (builtin b c.argTypes o.type (c.args.map λ| .const _=>true | _=>false) (c.args.map ev)) (λv h=>asT τ o.type v λv=>K v h) h
  | _=>jt P (execOp ev o) K h)
 | _=>jt P (execOp ev o) (λv h=>asT τ o.type v λv=>K v h) h
variable {P:Program}{τ:Static}
theorem E2.mono{r:Result Next}{N N':Value->World->Prop}(hn:∀v w,N v w->N' v w)(h:E2 P r N):E2 P r N':=by
 cases r with
 | ok n w=>cases n <;> first
  | exact hn _ _ h
  | exact h.elim
  | exact Calls.mono h λe w' ⟨v,he,hv⟩=>⟨v,he,hn _ _ hv⟩
 | halt x w=>exact h.elim
theorem jt.mono{s:Sem Next}{K K':Value->ab->Prop}{h:ab}(hk:∀v h,K v h->K' v h)(H:jt P s K h):jt P s K' h:=
 λw hw=>E2.mono (λ_ _ ⟨a,b⟩=>⟨a,hk _ _ b⟩) (H w hw)
theorem af.mono{f:FuncId}{args:Array Value}{K K':Value->ab->Prop}{h:ab}(hk:∀v h,K v h->K' v h)(H:af P f args K h):af P f args K' h:=jt.mono hk H
theorem Sq{k:IntKind}{v:Value}{F:Int->Prop}(h:asI k v F):∃n,v = .int k n∧F n:=by
 cases v <;> simp only[asI] at h <;> first | exact h.elim | skip
 split at h
 ·rename_i e;subst e;exact⟨_,rfl,h⟩
 ·exact h.elim
theorem KJ{v:Value}{F:Bool->Prop}(h:asB v F):∃n,v = .bool n∧F n:=by
 cases v <;> simp only[asB] at h <;> first | exact h.elim | exact⟨_,rfl,h⟩
theorem Sp{k:FloatKind}{v:Value}{F:Nat->Prop}(h:asF k v F):∃n,v = .float k n∧F n:=by
 cases v <;> simp only[asF] at h <;> first | exact h.elim | skip
 split at h
 ·rename_i e;subst e;exact⟨_,rfl,h⟩
 ·exact h.elim
theorem Su{v:Value}{F:ByteArray->Prop}(h:asS v F):∃n,v = .string n∧F n:=by
 cases v <;> simp only[asS] at h <;> first | exact h.elim | exact⟨_,rfl,h⟩
theorem Ss{v:Value}{F:Addr->Prop}(h:asP v F):∃n,v = .pointer (some n)∧F n:=by
 cases v <;> simp only[asP] at h <;> first | exact h.elim | skip
 split at h <;> first | exact h.elim | exact⟨_,by simp_all,h⟩
theorem Sr{v:Value}{F:Option Addr->Nat->Nat->Prop}(h:asL v F):∃b l c,v = .slice b l c∧F b l c:=by
 cases v <;> simp only[asL] at h <;> first | exact h.elim | exact⟨_,_,_,rfl,h⟩
theorem So{v:Value}{F:Array Value->Prop}(h:asA v F):∃n,v = .agg n∧F n:=by
 cases v <;> simp only[asA] at h <;> first | exact h.elim | exact⟨_,rfl,h⟩
theorem Wa{v:Value}{F:Value->Value->Prop}(h:fV v F):∃a b,v = .tuple ⟨[a,b]⟩∧F a b:=by
 unfold fV at h;split at h <;> first | exact h.elim | exact⟨_,_,rfl,h⟩
theorem Wc{v:Value}{F:Value->Value->Value->Prop}(h:TH v F):∃a b c,v = .tuple ⟨[a,b,c]⟩∧F a b c:=by
 unfold TH at h;split at h <;> first | exact h.elim | exact⟨_,_,_,rfl,h⟩
theorem Wd{v:Value}{F:Value->Value->Value->Value->Prop}(h:aep v F):∃a b c d,v = .tuple ⟨[a,b,c,d]⟩∧F a b c d:=by
 unfold aep at h;split at h <;> first | exact h.elim | exact⟨_,_,_,_,rfl,h⟩
theorem We{v:Value}{F:Value->Value->Value->Value->Value->Prop}(h:aeq v F):∃a b c d e,v = .tuple ⟨[a,b,c,d,e]⟩∧F a b c d e:=by
 unfold aeq at h;split at h <;> first | exact h.elim | exact⟨_,_,_,_,_,rfl,h⟩
theorem ke{t:Nat}{v:Value}{K:Value->Prop}(h:as1 τ t v K):K v:=by
 unfold as1 at h
 split at h
 ·exact h
 ·split at h
  ·obtain⟨n,rfl,h'⟩:=Sq h;exact h'
  ·obtain⟨n,rfl,h'⟩:=KJ h;exact h'
  ·obtain⟨n,rfl,h'⟩:=Sp h;exact h'
  ·obtain⟨n,rfl,h'⟩:=Su h;exact h'
  ·obtain⟨n,rfl,h'⟩:=Ss h;exact h'
  ·obtain⟨b,l,c,rfl,h'⟩:=Sr h;exact h'
  ·obtain⟨n,rfl,h'⟩:=So h;exact h'
  ·obtain⟨n,rfl,h'⟩:=So h;exact h'
  ·exact h
  ·exact h
theorem aai{t:Nat}{v:Value}{K:Value->Prop}(h:asT τ t v K):K v:=by
 unfold asT at h
 split at h
 ·exact h
 ·obtain⟨a,b,rfl,h'⟩:=Wa h;replace h':=ke h';replace h':=ke h';exact h'
 ·obtain⟨a,b,c,rfl,h'⟩:=Wc h;replace h':=ke h';replace h':=ke h';replace h':=ke h';exact h'
 ·obtain⟨a,b,c,d,rfl,h'⟩:=Wd h;replace h':=ke h';replace h':=ke h';replace h':=ke h';replace h':=ke h';exact h'
 ·obtain⟨a,b,c,d,e,rfl,h'⟩:=We h;replace h':=ke h';replace h':=ke h';replace h':=ke h';replace h':=ke h';replace h':=ke h';exact h'
 ·exact ke h
theorem Rg{k:IntKind}{v:Option Value}{F:Int->Prop}(h:oI k v F):∃n,v=some (.int k n)∧F n:=by
 cases v with | none=>exact h.elim | some v=>obtain⟨n,rfl,h'⟩:=Sq h;exact⟨n,rfl,h'⟩
theorem Rd{v:Option Value}{F:Bool->Prop}(h:oB v F):∃n,v=some (.bool n)∧F n:=by
 cases v with | none=>exact h.elim | some v=>obtain⟨n,rfl,h'⟩:=KJ h;exact⟨n,rfl,h'⟩
theorem Rf{k:FloatKind}{v:Option Value}{F:Nat->Prop}(h:oF k v F):∃n,v=some (.float k n)∧F n:=by
 cases v with | none=>exact h.elim | some v=>obtain⟨n,rfl,h'⟩:=Sp h;exact⟨n,rfl,h'⟩
theorem Rj{v:Option Value}{F:ByteArray->Prop}(h:oS v F):∃n,v=some (.string n)∧F n:=by
 cases v with | none=>exact h.elim | some v=>obtain⟨n,rfl,h'⟩:=Su h;exact⟨n,rfl,h'⟩
theorem Ri{v:Option Value}{F:Addr->Prop}(h:oP v F):∃n,v=some (.pointer (some n))∧F n:=by
 cases v with | none=>exact h.elim | some v=>obtain⟨n,rfl,h'⟩:=Ss h;exact⟨n,rfl,h'⟩
theorem LL{v:Option Value}{F:Option Addr->Nat->Nat->Prop}(h:oL v F):∃b l c,v=some (.slice b l c)∧F b l c:=by
 cases v with | none=>exact h.elim | some v=>obtain⟨b,l,c,rfl,h'⟩:=Sr h;exact⟨b,l,c,rfl,h'⟩
theorem Rk{v:Option Value}{F:Value->Prop}(h:oV v F):∃n,v=some n∧F n:=by
 cases v with | none=>exact h.elim | some v=>exact⟨v,rfl,h⟩
theorem akg(hτ:OkS P τ){t:Nat}{i:TI}(h:ti τ t=some i):okT P (t,i):=hτ _ (Zn h)
theorem ah8(hτ:OkS P τ){t:Nat}{i:TI}(h:ti τ t=some i):∃d,P.underlying t=some d∧mC d=i.ty:=by
 obtain⟨d,_,h1,h2,_⟩:=akg hτ h;exact⟨d,h1,h2⟩
theorem Ln(hτ:OkS P τ){t:Nat}{i:TI}(h:ti τ t=some i):∃j,P.info? t=some j∧j.size=i.size∧j.bytes=i.bytes∧(i.zero=[]∨∃z,j.zero=some z∧z.cells.toList=i.zero):=by
 obtain⟨d,j,h1,h2,h3,h4,h5,h6⟩:=akg hτ h;exact⟨j,h3,h4,h5,h6⟩
theorem hU(hτ:OkS P τ){t:Nat}{i:TI}(h:ti τ t=some i):∃d,P.underlying t=some d∧mC d=i.ty∧∀w,(underlying t).run P w = .ok d w:=by
 obtain⟨d,h1,h2⟩:=ah8 hτ h;exact⟨d,h1,h2,λw=>run_underlying h1 w⟩
theorem iI(hτ:OkS P τ){t:Nat}{i:TI}(h:ti τ t=some i)(w:World):(sizeOf t).run P w = .ok i.size w:=by
 obtain⟨j,h1,h2,_⟩:=Ln hτ h
 simp[sizeOf,typeInfo,h1,h2]
theorem Z8(hτ:OkS P τ){t:Nat}{i:TI}(h:ti τ t=some i):∃j,P.info? t=some j∧j.size=i.size∧j.bytes=i.bytes∧∀w,(typeInfo t).run P w = .ok j w:=by
 obtain⟨j,h1,h2,h3,_⟩:=Ln hτ h
 exact⟨j,h1,h2,h3,λw=>by simp[typeInfo,h1]⟩
theorem yT(hτ:OkS P τ){t:Nat}{i:TI}(h:ti τ t=some i)(hz:i.zero≠[]):∃z:Value,z.cells.toList=i.zero∧∀w,(zeroValue t).run P w = .ok z w:=by
 obtain⟨j,h1,h2,h3,h4⟩:=Ln hτ h
 obtain⟨z,Ll,HQ⟩:=h4.resolve_left hz
 exact⟨z,HQ,λw=>by simp[zeroValue,typeInfo,h1,Ll]⟩
def kX:Ty->Bool | .arr _ _=>true | .st _=>true | _=>false
theorem ve(hτ:OkS P τ){t:Nat}{i:TI}(h:ti τ t=some i)(w:World):(isAgg t).run P w = .ok (kX i.ty) w:=by
 obtain⟨d,h1,h2,h3⟩:=hU hτ h
 simp only[isAgg,Sem.run_bind,h3,Result.andThen_ok]
 rw[← h2]
 cases d <;> simp[mC,kX]
theorem iF(hτ:OkS P τ){t:Nat}{i:TI}(h:ti τ t=some i)(ha:kX i.ty=false){w:World}{a:Addr}{v:Value}(hc:cell w.heap a=some v):(loadVar t a).run P w = .ok v w:=by
 rw[← tf] at hc
 simp[loadVar,ve hτ h,ha,hc]
theorem xq(hτ:OkS P τ){t:Nat}{i:TI}(h:ti τ t=some i)(ha:kX i.ty=true){w:World}{a:Addr}{cs:Array Value}(hs:cs.size=i.size)(hc:∀j,j<i.size->cell w.heap (a.add j)=cs[j]?):(loadVar t a).run P w = .ok (.agg cs) w:=by
 have hl:(loadCells a i.size).run P w = .ok cs w:=by
  have:=run_loadCells_list (P:=P) (w:=w) a cs.toList (λj v hj=>by
   have hj':j<i.size:=by
    rw[← hs]
    simpa using (List.getElem?_eq_some_iff.1 hj).1
   rw[tf,hc j hj']
   simpa using hj)
  simpa [hs] using this
 simp[loadVar,ve hτ h,ha,iI hτ h,hl]
theorem W1(hτ:OkS P τ){t:Nat}{w:World}{a:Addr}{K:Value->Prop}(h:LD τ t w.heap a K):∃v,(loadVar t a).run P w = .ok v w∧K v:=by
 unfold LD at h
 split at h
 ·exact h.elim
 ·rename_i i hi
  split at h
  ·rename_i k e;obtain⟨n,hc,h⟩:=Rg h;exact⟨_,iF hτ hi (by simp[e,kX]) hc,h⟩
  ·rename_i e;obtain⟨n,hc,h⟩:=Rd h;exact⟨_,iF hτ hi (by simp[e,kX]) hc,h⟩
  ·rename_i k e;obtain⟨n,hc,h⟩:=Rf h;exact⟨_,iF hτ hi (by simp[e,kX]) hc,h⟩
  ·rename_i e;obtain⟨n,hc,h⟩:=Rj h;exact⟨_,iF hτ hi (by simp[e,kX]) hc,h⟩
  ·rename_i e;obtain⟨n,hc,h⟩:=Ri h;exact⟨_,iF hτ hi (by simp[e,kX]) hc,h⟩
  ·rename_i u e;obtain⟨b,l,c,hc,h⟩:=LL h;exact⟨_,iF hτ hi (by simp[e,kX]) hc,h⟩
  ·rename_i n u e;obtain⟨cs,h1,h2,h⟩:=h;exact⟨_,xq hτ hi (by simp[e,kX]) h1 h2,h⟩
  ·rename_i fs e;obtain⟨cs,h1,h2,h⟩:=h;exact⟨_,xq hτ hi (by simp[e,kX]) h1 h2,h⟩
  ·rename_i e;obtain⟨n,hc,h⟩:=Rk h;exact⟨_,iF hτ hi (by simp[e,kX]) hc,h⟩
  ·exact h.elim
theorem kq(hτ:OkS P τ){t:Nat}{i:TI}(h:ti τ t=some i)(ha:kX i.ty=false){w:World}{cs:Array Value}{off:Nat}{v:Value}(hc:cs[off]? = some v):(part t cs off).run P w = .ok v w:=by
 simp[part,ve hτ h,ha,hc]
theorem VZ(hτ:OkS P τ){t:Nat}{w:World}{cs:Array Value}{off:Nat}{K:Value->Prop}(h:GT τ t cs off K):∃v,(part t cs off).run P w = .ok v w∧K v:=by
 unfold GT at h
 split at h
 ·exact h.elim
 ·rename_i i hi
  split at h
  ·rename_i k e;obtain⟨n,hc,h⟩:=Rg h;exact⟨_,kq hτ hi (by simp[e,kX]) hc,h⟩
  ·rename_i e;obtain⟨n,hc,h⟩:=Rd h;exact⟨_,kq hτ hi (by simp[e,kX]) hc,h⟩
  ·rename_i k e;obtain⟨n,hc,h⟩:=Rf h;exact⟨_,kq hτ hi (by simp[e,kX]) hc,h⟩
  ·rename_i e;obtain⟨n,hc,h⟩:=Rj h;exact⟨_,kq hτ hi (by simp[e,kX]) hc,h⟩
  ·rename_i e;obtain⟨n,hc,h⟩:=Ri h;exact⟨_,kq hτ hi (by simp[e,kX]) hc,h⟩
  ·rename_i u e;obtain⟨b,l,c,hc,h⟩:=LL h;exact⟨_,kq hτ hi (by simp[e,kX]) hc,h⟩
  ·rename_i n u e;exact⟨_,by simp[part,ve hτ hi,e,kX,iI hτ hi],h⟩
  ·rename_i fs e;exact⟨_,by simp[part,ve hτ hi,e,kX,iI hτ hi],h⟩
  ·rename_i e;obtain⟨n,hc,h⟩:=Rk h;exact⟨_,kq hτ hi (by simp[e,kX]) hc,h⟩
  ·exact h.elim
theorem D7(h:ab)(a b:Addr)(v:Value):(cell (CF h a v) b).isSome=(cell h b).isSome:=by
 unfold cell CF
 rw[Array.getElem?_modify]
 by_cases e:a.block=b.block
 ·rw[if_pos e]
  cases hb:h[b.block]? with
  | none=>rfl
  | some o=>
   cases o with
   | cells c t f=>
    simp only[Option.map_some]
    by_cases hs:b.spot.isSome=true
    ·simp[hs]
    ·by_cases ha:a.spot.isSome=true
     ·simp[hs,ha]
     ·simp only[hs,ha,Bool.false_eq_true,if_false]
      rw[Array.getElem?_setIfInBounds]
      split
      ·rename_i e2;rw[e2];split <;> simp_all
      ·rfl
   | _=>rfl
 ·rw[if_neg e]
theorem TW(h:ab)(a b:Addr)(v:Value):AO (CF h a v) b=AO h b:=by
 unfold AO CF
 rw[Array.getElem?_modify]
 by_cases e:a.block=b.block
 ·rw[if_pos e]
  cases hb:h[b.block]? with
  | none=>rfl
  | some o=>cases o <;> rfl
 ·rw[if_neg e]
theorem CE(w:World)(a:Addr)(v:Value):hZ w (w.setCell a v):=⟨rfl,rfl,rfl⟩
theorem Hb{w:World}{a:Addr}{v:Value}(hv:v.oneCell'=true)(h1:(cell w.heap a).isSome=true)(h2:AO w.heap a=false):(store a v).run P w = .ok () (w.setCell a v):=by
 rw[run_store P w a v .plain hv]
 rw[← tf] at h1
 rw[← aaA] at h2
 obtain⟨u,hu⟩:=Option.isSome_iff_exists.1 h1
 simp[hu,h2]
theorem pS(a:Addr):∀(vs:List Value) (i:Nat) (w:World),(∀v ∈ vs,v.oneCell'=true) ->
  (∀j,j<vs.length->(cell w.heap (a.add (i+j))).isSome=true∧AO w.heap (a.add (i+j))=false) ->
  ∃w',(storeCells a vs i).run P w = .ok () w'∧hZ w w'∧w'.heap=Au w.heap a vs i
 | [],i,w,_,_=>⟨w,rfl,hZ.refl w,rfl⟩
 | v :: r,i,w,h1,h2=>by
  have h0:=h2 0 (by simp)
  rw[Nat.add_zero] at h0
  obtain⟨w',hr,hs,hh⟩:=pS a r (i+1) (w.setCell (a.add i) v) (λu hu=>h1 u (List.mem_cons_of_mem _ hu)) (λj hj=>by
   have:=h2 (j+1) (by simp;omega)
   rw[show i+(j+1)=i+1+j from by omega] at this
   rw[Tl,D7,TW]
   exact this)
  refine⟨w',?_,(CE w _ _).trans hs,?_⟩
  ·simp only[storeCells,Sem.run_bind,Hb (h1 v (List.mem_cons_self ..)) h0.1 h0.2,Result.andThen_ok]
   exact hr
  ·rw[hh,Tl];rfl
theorem ael{v:Value}{p:Prop}(h:OC v p):v.oneCell'=true∧v.cells = #[v]∧p:=by
 cases v <;> first | exact h.elim | exact⟨rfl,rfl,h⟩
theorem J6(hτ:OkS P τ){t:Nat}{i:TI}(h:ti τ t=some i)(hs:i.size=1){w:World}{a:Addr}{v:Value}(hv:v.oneCell'=true)(hvc:v.cells = #[v])(h1:(cell w.heap a).isSome=true)(h2:AO w.heap a=false):
  (storeVar t a v).run P w = .ok () (w.setCell a v):=by
 have ha:a.add 0=a:=by simp[Addr.add]
 simp[storeVar,iI hτ h,hs,hvc,storeCells,ha,Hb hv h1 h2]
theorem J1(hτ:OkS P τ){t:Nat}{i:TI}(h:ti τ t=some i){w:World}{a:Addr}{cs:Array Value}(hn:cs.size=i.size)(h1:∀v ∈ cs.toList,v.oneCell'=true)(h2:∀j,j<i.size->(cell w.heap (a.add j)).isSome=true∧AO w.heap (a.add j)=false):
  ∃w',(storeVar t a (.agg cs)).run P w = .ok () w'∧hZ w w'∧w'.heap=Au w.heap a cs.toList 0:=by
 obtain⟨w',hr,hs,hh⟩:=pS (P:=P) a cs.toList 0 w h1 (λj hj=>by
  rw[Nat.zero_add];exact h2 j (by rw[← hn];simpa using hj))
 exact⟨w',by simp[storeVar,iI hτ h,hn,Value.cells,hr],hs,hh⟩
end Go.Sx
