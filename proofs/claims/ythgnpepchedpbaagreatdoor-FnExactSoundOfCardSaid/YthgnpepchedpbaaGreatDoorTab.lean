/- Lemmas. -/
import Derived.Test.YthgnpepchedpbaaGreatDoorSx10
import Derived.Test.YthgnpepchedpbaaGreatDoorChecked
set_option linter.unusedVariables false
set_option linter.unusedSimpArgs false
namespace Go.Sx
open Go.Proofs
noncomputable abbrev ak:Program:=Tryz.prog
abbrev gg (ks:List Kd) (J:Frame->ab->Prop):Frame->ab->Prop:=λfr h=>GRD (shape ks fr) (J fr h)
abbrev VH:=Value->ab->Prop
abbrev wN (a b:Nat):=FloatKind.f32.format.add a b
abbrev ry (a b:Nat):=FloatKind.f32.format.sub a b
abbrev lE (a b:Nat):=FloatKind.f32.format.mul a b
abbrev Ml (a b:Nat):=FloatKind.f32.format.div a b
def am9:List Value:=[]
def al0:TI:=⟨.Ax [],1,0,am9⟩
def Kz:List Value:=[.int .i64 (0:Int)]
def Hw:TI:=⟨.int .i64,1,8,Kz⟩
theorem m8:ak.underlying 2=some (.int .i64):=Tryz.underlying2
def ahY:List Value:=[.int .i64 (0:Int)]
def ah5:TI:=⟨.int .i64,1,8,ahY⟩
def aet:List Value:=[.bool false]
def acx:TI:=⟨.bool,1,1,aet⟩
def aa9:List Value:=[.int .u8 (0:Int)]
def Zo:TI:=⟨.int .u8,1,1,aa9⟩
theorem aa8:ak.underlying 5=some (.int .u8):=Tryz.underlying5
def Wi:List Value:=[.string (⟨#[]⟩:ByteArray)]
def Vn:TI:=⟨.str,1,16,Wi⟩
theorem MB:ak.underlying 9=some (.string):=Tryz.underlying9
def D2:List Value:=[.float .f32 0]
def eC:TI:=⟨.float .f32,1,4,D2⟩
theorem mD:ak.underlying 22=some (.float .f32):=Tryz.underlying22
def KG:List Value:=[.slice none 0 0]
def Jn:TI:=⟨.sl 22,1,24,KG⟩
theorem BD:ak.underlying 23=some (.slice 22):=Tryz.underlying23
def Ik:List Value:=[.float .f32 0,.float .f32 0,.slice none 0 0]
def HA:TI:=⟨.st [(22,0),(22,1),(23,2)],3,32,Ik⟩
def xS:List Value:=[.slice none 0 0]
def xE:TI:=⟨.sl 129,1,24,xS⟩
theorem xP:ak.underlying 26=some (.slice 129):=Tryz.underlying26
def ED:List Value:=[.slice none 0 0]
def DU:TI:=⟨.sl 142,1,24,ED⟩
theorem Ez:ak.underlying 27=some (.slice 142):=Tryz.underlying27
def KD:List Value:=[.float .f32 0,.float .f32 0,.float .f32 0,.slice none 0 0,.slice none 0 0,.slice none 0 0]
def Jk:TI:=⟨.st [(22,0),(25,1),(26,4),(27,5)],6,88,KD⟩
def KE:List Value:=[.float .f32 0,.float .f32 0,.float .f32 0,.slice none 0 0,.slice none 0 0,.slice none 0 0,.int .i64 (0:Int),.int .i64 (0:Int),.int .i64 (0:Int)]
def Jl:TI:=⟨.st [(29,0),(2,6),(2,7),(2,8)],9,112,KE⟩
def AG:List Value:=[]
def zZ:TI:=⟨.Ax [23,2],1,0,AG⟩
def lW:List Value:=[.float .f32 0,.float .f32 0,.slice none 0 0]
def Hv:TI:=⟨.st [(22,0),(22,1),(23,2)],3,32,lW⟩
def xR:List Value:=[.slice none 0 0]
def xD:TI:=⟨.sl 135,1,24,xR⟩
theorem xO:ak.underlying 36=some (.slice 135):=Tryz.underlying36
def EB:List Value:=[.slice none 0 0]
def DS:TI:=⟨.sl 131,1,24,EB⟩
theorem Ey:ak.underlying 37=some (.slice 131):=Tryz.underlying37
def dw:List Value:=[.float .f32 0,.float .f32 0,.float .f32 0,.slice none 0 0,.slice none 0 0,.slice none 0 0]
def Jf:TI:=⟨.st [(22,0),(35,1),(36,4),(37,5)],6,88,dw⟩
def Ky:List Value:=[.float .f32 0,.float .f32 0,.float .f32 0,.slice none 0 0,.slice none 0 0,.slice none 0 0,.int .i64 (0:Int),.int .i64 (0:Int),.int .i64 (0:Int)]
def Jg:TI:=⟨.st [(39,0),(2,6),(2,7),(2,8)],9,112,Ky⟩
def EC:List Value:=[.slice none 0 0]
def DT:TI:=⟨.sl 122,1,24,EC⟩
def bm:List Value:=[.float .f32 0,.float .f32 0,.float .f32 0,.slice none 0 0,.slice none 0 0,.slice none 0 0,.slice none 0 0,.int .i64 (0:Int),.int .i64 (0:Int),.int .i64 (0:Int)]
def Ht:TI:=⟨.st [(39,0),(49,6),(2,7),(2,8),(2,9)],10,136,bm⟩
def zM:List Value:=[]
def zd:TI:=⟨.Ax [51,2],1,0,zM⟩
def EE:List Value:=[.slice none 0 0]
def DV:TI:=⟨.sl 159,1,24,EE⟩
def Ii:List Value:=[.float .f32 0,.float .f32 0,.float .f32 0,.slice none 0 0,.slice none 0 0,.slice none 0 0,.slice none 0 0,.int .i64 (0:Int),.int .i64 (0:Int),.int .i64 (0:Int)]
def Hy:TI:=⟨.st [(29,0),(60,6),(2,7),(2,8),(2,9)],10,136,Ii⟩
def od:List Value:=[]
def nV:TI:=⟨.Ax [51,23,2],1,0,od⟩
def Kx:List Value:=List.replicate 16 (.float .f32 0)
def Je:TI:=⟨.arr 16 22,16,64,Kx⟩
def o9:List Value:=[]
def nU:TI:=⟨.Ax [51,69,2],1,0,o9⟩
def TJ:List Value:=[.float .f64 0]
def S7:TI:=⟨.float .f64,1,8,TJ⟩
def jh:List Value:=[.slice none 0 0,.int .i64 (0:Int)]
def Md:TI:=⟨.st [(23,0),(2,1)],2,32,jh⟩
def jY:List Value:=[.float .f32 0,.float .f32 0,.float .f32 0]
def Mb:TI:=⟨.arr 3 22,3,12,jY⟩
def xQ:List Value:=[.float .f32 0,.float .f32 0]
def Ma:TI:=⟨.arr 2 22,2,8,xQ⟩
def gf:List Value:=[.int .i64 (0:Int),.float .f32 0,.float .f32 0,.float .f32 0,.float .f32 0,.float .f32 0]
def Hr:TI:=⟨.st [(2,0),(110,1),(111,4)],6,32,gf⟩
def aF:List Value:=[.slice none 0 0,.int .i64 (0:Int),.int .i64 (0:Int),.float .f32 0,.float .f32 0,.float .f32 0,.float .f32 0,.float .f32 0,.int .i64 (0:Int),.float .f32 0,.float .f32 0,.float .f32 0,.float .f32 0,.float .f32 0,.float .f32 0]
def Hu:TI:=⟨.st [(109,0),(113,2),(113,8),(22,14)],15,104,aF⟩
def FF:List Value:=[.slice none 0 0]
def F0:TI:=⟨.sl 109,1,24,FF⟩
def aJ:List Value:=[.slice none 0 0,.slice none 0 0,.slice none 0 0,.int .i64 (0:Int),.float .f32 0,.float .f32 0,.float .f32 0,.float .f32 0,.float .f32 0,.bool false,.float .f32 0,.float .f32 0,.float .f32 0]
def Mc:TI:=⟨.st [(116,0),(116,1),(23,2),(113,3),(4,9),(22,10),(22,11),(22,12)],13,120,aJ⟩
def dg:List Value:=[.slice none 0 0,.int .i64 (0:Int),.slice none 0 0,.int .i64 (0:Int),.int .i64 (0:Int),.float .f32 0,.float .f32 0,.float .f32 0,.float .f32 0,.float .f32 0,.float .f32 0,.float .f32 0]
def P0:TI:=⟨.st [(109,0),(109,2),(113,4),(22,10),(22,11)],12,104,dg⟩
def bg:List Value:=[.int .i64 (0:Int),.int .i64 (0:Int),.int .i64 (0:Int),.bool false,.float .f32 0,.slice none 0 0,.int .i64 (0:Int),.int .i64 (0:Int),.float .f32 0,.float .f32 0,.float .f32 0,.float .f32 0,.float .f32 0,.int .i64 (0:Int),.float .f32 0,.float .f32 0,.float .f32 0,.float .f32 0,.float .f32 0,.float .f32 0,.slice none 0 0,.slice none 0 0,.slice none 0 0,.int .i64 (0:Int),.float .f32 0,.float .f32 0,.float .f32 0,.float .f32 0,.float .f32 0,.bool false,.float .f32 0,.float .f32 0,.float .f32 0,.slice none 0 0,.int .i64 (0:Int),.slice none 0 0,.int .i64 (0:Int),.int .i64 (0:Int),.float .f32 0,.float .f32 0,.float .f32 0,.float .f32 0,.float .f32 0,.float .f32 0,.float .f32 0]
def Jh:TI:=⟨.st [(2,0),(2,1),(2,2),(4,3),(22,4),(115,5),(118,20),(120,33)],45,360,bg⟩
def BL:List Value:=[.string (⟨#[]⟩:ByteArray),.int .i64 (0:Int),.float .f32 0,.float .f32 0,.float .f32 0]
def Bt:TI:=⟨.st [(9,0),(2,1),(22,2),(22,3),(22,4)],5,40,BL⟩
def jg:List Value:=[.int .i64 (0:Int),.int .i64 (0:Int),.int .i64 (0:Int),.int .i64 (0:Int),.int .i64 (0:Int),.float .f32 0]
def Aw:TI:=⟨.st [(2,0),(2,1),(2,2),(2,3),(2,4),(22,5)],6,48,jg⟩
def fu:List Value:=[.string (⟨#[]⟩:ByteArray),.int .i64 (0:Int),.float .f32 0,.float .f32 0,.float .f32 0]
def sU:TI:=⟨.st [(9,0),(2,1),(22,2),(22,3),(22,4)],5,40,fu⟩
def KC:List Value:=[.int .i64 (0:Int),.int .i64 (0:Int),.int .i64 (0:Int),.int .i64 (0:Int),.int .i64 (0:Int),.float .f32 0]
def Jj:TI:=⟨.st [(2,0),(2,1),(2,2),(2,3),(2,4),(22,5)],6,48,KC⟩
def ME:List Value:=[.slice none 0 0,.int .i64 (0:Int)]
def Mf:TI:=⟨.st [(23,0),(2,1)],2,32,ME⟩
def Ih:List Value:=[.int .i64 (0:Int),.float .f32 0,.float .f32 0,.float .f32 0,.float .f32 0,.float .f32 0]
def Hx:TI:=⟨.st [(2,0),(110,1),(111,4)],6,32,Ih⟩
def Ij:List Value:=[.slice none 0 0,.int .i64 (0:Int),.int .i64 (0:Int),.float .f32 0,.float .f32 0,.float .f32 0,.float .f32 0,.float .f32 0,.int .i64 (0:Int),.float .f32 0,.float .f32 0,.float .f32 0,.float .f32 0,.float .f32 0,.float .f32 0]
def Hz:TI:=⟨.st [(149,0),(150,2),(150,8),(22,14)],15,104,Ij⟩
def FG:List Value:=[.slice none 0 0]
def F5:TI:=⟨.sl 149,1,24,FG⟩
def MD:List Value:=[.slice none 0 0,.slice none 0 0,.slice none 0 0,.int .i64 (0:Int),.float .f32 0,.float .f32 0,.float .f32 0,.float .f32 0,.float .f32 0,.bool false,.float .f32 0,.float .f32 0,.float .f32 0]
def Me:TI:=⟨.st [(153,0),(153,1),(23,2),(150,3),(4,9),(22,10),(22,11),(22,12)],13,120,MD⟩
def PI:List Value:=[.slice none 0 0,.int .i64 (0:Int),.slice none 0 0,.int .i64 (0:Int),.int .i64 (0:Int),.float .f32 0,.float .f32 0,.float .f32 0,.float .f32 0,.float .f32 0,.float .f32 0,.float .f32 0]
def P5:TI:=⟨.st [(149,0),(149,2),(150,4),(22,10),(22,11)],12,104,PI⟩
def KF:List Value:=[.int .i64 (0:Int),.int .i64 (0:Int),.int .i64 (0:Int),.bool false,.float .f32 0,.slice none 0 0,.int .i64 (0:Int),.int .i64 (0:Int),.float .f32 0,.float .f32 0,.float .f32 0,.float .f32 0,.float .f32 0,.int .i64 (0:Int),.float .f32 0,.float .f32 0,.float .f32 0,.float .f32 0,.float .f32 0,.float .f32 0,.slice none 0 0,.slice none 0 0,.slice none 0 0,.int .i64 (0:Int),.float .f32 0,.float .f32 0,.float .f32 0,.float .f32 0,.float .f32 0,.bool false,.float .f32 0,.float .f32 0,.float .f32 0,.slice none 0 0,.int .i64 (0:Int),.slice none 0 0,.int .i64 (0:Int),.int .i64 (0:Int),.float .f32 0,.float .f32 0,.float .f32 0,.float .f32 0,.float .f32 0,.float .f32 0,.float .f32 0]
def Jm:TI:=⟨.st [(2,0),(2,1),(2,2),(4,3),(22,4),(152,5),(155,20),(157,33)],45,360,KF⟩
def D4:List Value:=[.map none]
def CQ:TI:=⟨.oth,1,8,D4⟩
def BM:List Value:=[.map none]
def Bu:TI:=⟨.oth,1,8,BM⟩
def mP:List Value:=[.nilFunc]
def mM:TI:=⟨.oth,1,8,mP⟩
def KA:List Value:=[]
def Ji:TI:=⟨.Ax [2,4],1,0,KA⟩
def FE:List Value:=[]
def EZ:TI:=⟨.Ax [22,4],1,0,FE⟩
def BK:List Value:=[]
def Bq:TI:=⟨.Ax [122,4],1,0,BK⟩
def Kw:List Value:=[]
def Jd:TI:=⟨.Ax [4,2],1,0,Kw⟩
def PK:List Value:=[.slice none 0 0]
def P8:TI:=⟨.sl 5,1,24,PK⟩
theorem PH:ak.underlying 204=some (.slice 5):=Tryz.underlying204
def D1:List Value:=[]
def CO:TI:=⟨.Ax [4,4,4],1,0,D1⟩
def Wj:List Value:=[.int .u32 (0:Int)]
def Vo:TI:=⟨.int .u32,1,4,Wj⟩
def BH:List Value:=[]
def Bj:TI:=⟨.Ax [131,4],1,0,BH⟩
def PJ:List Value:=[.slice none 0 0]
def P6:TI:=⟨.sl 2,1,24,PJ⟩
def cV:List Value:=[.int .i64 (0:Int),.int .i64 (0:Int),.int .i64 (0:Int),.int .i64 (0:Int)]
def RZ:TI:=⟨.arr 4 2,4,32,cV⟩
def AF:List Value:=[]
def zY:TI:=⟨.Ax [122,2],1,0,AF⟩
def D5:List Value:=[.slice none 0 0]
def CR:TI:=⟨.sl 268,1,24,D5⟩
def EA:List Value:=[]
def DR:TI:=⟨.Ax [22,2],1,0,EA⟩
def zN:List Value:=[]
def ze:TI:=⟨.Ax [115,2],1,0,zN⟩
def BI:List Value:=[]
def Bk:TI:=⟨.Ax [118,2],1,0,BI⟩
def D3:List Value:=[]
def CP:TI:=⟨.Ax [120,2],1,0,D3⟩
def Il:List Value:=[.pointer none]
def HB:TI:=⟨.ptr,1,8,Il⟩
def sZ:List Value:=[]
def sT:TI:=⟨.Ax [22,22,22],1,0,sZ⟩
def zL:List Value:=[]
def zb:TI:=⟨.Ax [113,2],1,0,zL⟩
def BJ:List Value:=[]
def Bo:TI:=⟨.Ax [109,2],1,0,BJ⟩
def TK:List Value:=[]
def S8:TI:=⟨.Ax [3,3],1,0,TK⟩
def kc:List Value:=List.replicate 256 (.bool false)
def A2:TI:=⟨.arr 256 4,256,256,kc⟩
def uE:List Value:=[]
def uA:TI:=⟨.Ax [331,4],1,0,uE⟩
def BG:List Value:=[]
def Bi:TI:=⟨.Ax [80,80],1,0,BG⟩
def Wk:List Value:=[.int .u64 (0:Int)]
def Vp:TI:=⟨.int .u64,1,8,Wk⟩
def Ig:List Value:=[]
def Hq:TI:=⟨.Ax [80,3],1,0,Ig⟩
theorem AD:ak.funcs[215]? = some Tryz.f215:=Tryz.func215
theorem D0:ak.funcs[293]? = some Tryz.f293:=Tryz.func293
theorem vq:ak.funcs[295]? = some Tryz.f295:=Tryz.func295
theorem vr:ak.funcs[320]? = some Tryz.f320:=Tryz.func320
theorem AE:ak.funcs[321]? = some Tryz.f321:=Tryz.func321
def tau:Static:=[(0,al0),(2,Hw),(3,ah5),(4,acx),(5,Zo),(9,Vn),(22,eC),(23,Jn),(25,HA),(26,xE),(27,DU),(29,Jk),(31,Jl),(33,zZ),(35,Hv),(36,xD),(37,DS),(39,Jf),(41,Jg),(49,DT),(51,Ht),(52,zd),(60,DV),(62,Hy),(64,nV),(69,Je),(70,nU),(80,S7),(109,Md),(110,Mb),(111,Ma),(113,Hr),(115,Hu),(116,F0),(118,Mc),(120,P0),(122,Jh),(129,Bt),(131,Aw),(135,sU),(142,Jj),(149,Mf),(150,Hx),(152,Hz),(153,F5),(155,Me),(157,P5),(159,Jm),(165,CQ),(176,Bu),(178,mM),(182,Ji),(186,EZ),(188,Bq),(199,Jd),(204,P8),(218,CO),(220,Vo),(222,Bj),(234,P6),(236,RZ),(246,zY),(253,CR),(255,DR),(257,ze),(260,Bk),(263,CP),(268,HB),(271,sT),(300,zb),(317,Bo),(325,S8),(331,A2),(332,uA),(341,Bi),(349,Vp),(364,Hq)]
theorem agj{P:Program}:OkS P []:=λ_ h=>by cases h
theorem abY{P:Program}{e:Nat×TI}{r:Static}(h:okT P e)(k:OkS P r):OkS P (e :: r):=λx hx=>by
 rcases List.mem_cons.1 hx with rfl | hx
 ·exact h
 ·exact k x hx
theorem oc0{n:Nat}{t:TI}{d:TypeDesc}{r:Static}(i:TypeInfo)(h:ak.underlying n=some d)(k:OkS ak r)(h1:mC d=t.ty)(h2:ak.info? n=some i)(h3:i.size=t.size)(h4:i.bytes=t.bytes)(h5:t.zero=[]∨∃z,i.zero=some z∧z.cells.toList=t.zero):OkS ak ((n,t) :: r):=abY ⟨d,i,h,h1,h2,h3,h4,h5⟩ k
theorem oc {n:Nat}{t:TI}{d:TypeDesc}{r:Static}(i:TypeInfo) (h:ak.underlying n=some d) (k:OkS ak r) (h1:mC d=t.ty:=by kernel_rfl) (h2:ak.info? n=some i:=by kernel_rfl) (h3:i.size=t.size:=by kernel_rfl) (h4:i.bytes=t.bytes:=by kernel_rfl) (h5:∃z,i.zero=some z∧z.cells.toList=t.zero:=by exact⟨_,rfl,by kernel_rfl⟩):OkS ak ((n,t) :: r):=oc0 i h k h1 h2 h3 h4 (.inr h5)
theorem GJ {n:Nat}{t:TI}{d:TypeDesc}{r:Static}(i:TypeInfo) (h:ak.underlying n=some d) (k:OkS ak r) (h1:mC d=t.ty:=by kernel_rfl) (h2:ak.info? n=some i:=by kernel_rfl) (h3:i.size=t.size:=by kernel_rfl) (h4:i.bytes=t.bytes:=by kernel_rfl) (h5:t.zero=[]:=by rfl):OkS ak ((n,t) :: r):=oc0 i h k h1 h2 h3 h4 (.inl h5)
theorem Zl:OkS ak tau:=GJ Tryz.t0 Tryz.underlying0<|oc Tryz.t2 Tryz.underlying2<|oc Tryz.t3 Tryz.underlying3<|oc Tryz.t4 Tryz.underlying4<|oc Tryz.t5 Tryz.underlying5<|oc Tryz.t9 Tryz.underlying9<|oc Tryz.t22 Tryz.underlying22<|oc Tryz.t23 Tryz.underlying23<|oc Tryz.t25 Tryz.underlying25<|oc Tryz.t26 Tryz.underlying26<|oc Tryz.t27 Tryz.underlying27<|oc Tryz.t29 Tryz.underlying29<|oc Tryz.t31 Tryz.underlying31<|GJ Tryz.t33 Tryz.underlying33<|oc Tryz.t35 Tryz.underlying35<|oc Tryz.t36 Tryz.underlying36<|oc Tryz.t37 Tryz.underlying37<|oc Tryz.t39 Tryz.underlying39<|oc Tryz.t41 Tryz.underlying41<|oc Tryz.t49 Tryz.underlying49<|oc Tryz.t51 Tryz.underlying51<|GJ Tryz.t52 Tryz.underlying52<|oc Tryz.t60 Tryz.underlying60<|oc Tryz.t62 Tryz.underlying62<|GJ Tryz.t64 Tryz.underlying64<|oc Tryz.t69 Tryz.underlying69<|GJ Tryz.t70 Tryz.underlying70<|oc Tryz.t80 Tryz.underlying80<|oc Tryz.t109 Tryz.underlying109<|oc Tryz.t110 Tryz.underlying110<|oc Tryz.t111 Tryz.underlying111<|oc Tryz.t113 Tryz.underlying113<|oc Tryz.t115 Tryz.underlying115<|oc Tryz.t116 Tryz.underlying116<|oc Tryz.t118 Tryz.underlying118<|oc Tryz.t120 Tryz.underlying120<|oc Tryz.t122 Tryz.underlying122<|oc Tryz.t129 Tryz.underlying129<|oc Tryz.t131 Tryz.underlying131<|oc Tryz.t135 Tryz.underlying135<|oc Tryz.t142 Tryz.underlying142<|oc Tryz.t149 Tryz.underlying149<|oc Tryz.t150 Tryz.underlying150<|oc Tryz.t152 Tryz.underlying152<|oc Tryz.t153 Tryz.underlying153<|oc Tryz.t155 Tryz.underlying155<|oc Tryz.t157 Tryz.underlying157<|oc Tryz.t159 Tryz.underlying159<|oc Tryz.t165 Tryz.underlying165<|oc Tryz.t176 Tryz.underlying176<|oc Tryz.t178 Tryz.underlying178<|GJ Tryz.t182 Tryz.underlying182<|GJ Tryz.t186 Tryz.underlying186<|GJ Tryz.t188 Tryz.underlying188<|GJ Tryz.t199 Tryz.underlying199<|oc Tryz.t204 Tryz.underlying204<|GJ Tryz.t218 Tryz.underlying218<|oc Tryz.t220 Tryz.underlying220<|GJ Tryz.t222 Tryz.underlying222<|oc Tryz.t234 Tryz.underlying234<|oc Tryz.t236 Tryz.underlying236<|GJ Tryz.t246 Tryz.underlying246<|oc Tryz.t253 Tryz.underlying253<|GJ Tryz.t255 Tryz.underlying255<|GJ Tryz.t257 Tryz.underlying257<|GJ Tryz.t260 Tryz.underlying260<|GJ Tryz.t263 Tryz.underlying263<|oc Tryz.t268 Tryz.underlying268<|GJ Tryz.t271 Tryz.underlying271<|GJ Tryz.t300 Tryz.underlying300<|GJ Tryz.t317 Tryz.underlying317<|GJ Tryz.t325 Tryz.underlying325<|oc Tryz.t331 Tryz.underlying331<|GJ Tryz.t332 Tryz.underlying332<|GJ Tryz.t341 Tryz.underlying341<|oc Tryz.t349 Tryz.underlying349<|GJ Tryz.t364 Tryz.underlying364<|agj
theorem mixed:ak.follows .mixedOrders=true:=by kernel_rfl
set_option maxRecDepth 100000 in
theorem qg {X:Type}{ks:List Kd}{g:Frame->X}{B:(X->ab->Prop)->X->ab->Prop}{Λ:(X->ab->Prop)->mi}{c:Code}{K:xr}(H:∀N fr h,B N (g fr) h=wpI ak tau (Λ N) c (KN (λxF h'=>GRD (shape ks xF) (N (g xF) h')) K) (canon ks 0 fr) h)
  (hr:∀N,Rq ak tau (Λ N) c (KN (λxF h'=>GRD (shape ks xF) (N (g xF) h')) K)):F7 ak (λfr h=>GRD (shape ks fr) (bk B (g fr) h)) c K:=aty Zl mixed H hr
set_option maxRecDepth 100000 in
theorem qc {f:FuncId}{fn:Func}{args:Array Value}{Λ:mi}{aa:Value->ab->Prop}{h:ab}(hf:ak.funcs[f]? = some fn) (hr:Rq ak tau Λ (fn.body.getD .skip) (K0 tau fn.results.toList aa))
  (H : wpI ak tau Λ (fn.body.getD .skip) (K0 tau fn.results.toList aa) (args.toList ++ List.replicate (fn.ntmps - args.size) undef) h) (hb : fn.body = some (fn.body.getD .skip) := by kernel_rfl) (hn : (fn.name == "runtime.NumGoroutine") = false := by kernel_rfl) : af ak f args aa h := qc0 Zl mixed hf hr H hb hn
set_option maxRecDepth 100000 in
theorem qk {f:FuncId}{fn:Func}{args:Array Value}{Q:Prop}{aa:Value->ab->Prop}{h:ab}(hf:ak.funcs[f]? = some fn) (H:Q)
  (hq : Q = wpI ak tau (aS []) (fn.body.getD .skip) (K0 tau fn.results.toList aa) (args.toList ++ List.replicate (fn.ntmps - args.size) undef) h := by kernel_rfl) (hr : Ao (([] : List (Nat × (Frame → ab → Prop))).map (·.1)) (fn.body.getD .skip) = true := by kernel_rfl) (hb : fn.body = some (fn.body.getD .skip) := by kernel_rfl) (hn : (fn.name == "runtime.NumGoroutine") = false := by kernel_rfl) : af ak f args aa h := qc hf (Rq.free hr) (Eq.mp hq H) hb hn
end Go.Sx
