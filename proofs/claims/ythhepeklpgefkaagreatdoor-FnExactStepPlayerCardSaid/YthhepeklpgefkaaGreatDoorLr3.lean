/- Lemmas. -/
import Derived.Test.YthhepeklpgefkaaGreatDoorLg
import Derived.Test.YthhepeklpgefkaaGreatDoorLp4
import Derived.Test.YthhepeklpgefkaaGreatDoorTabE
set_option linter.unusedVariables false
set_option linter.unusedSimpArgs false
namespace Go.Sx
open Go.Proofs
def ck:Rep cF:=(Rep.seq (rSl aq bo) (Rep.seq (rSl aq bo) (Rep.seq (rSl au (rF .f32)) (Rep.seq bQ (Rep.seq rB (Rep.seq (rF .f32) (Rep.seq (rF .f32) ((rF .f32))))))))).via λa=>(a.aY,a.Left,a.aG,a.End,a.Open,a.fi,a.Rest,a.fG)
theorem Ma:Foc ck (rSl aq bo) 0 (λa=>a.aY) (λa b=>{ a with aY:=b }):=(Foc.via (f:=λa:cF=>(a.aY,a.Left,a.aG,a.End,a.Open,a.fi,a.Rest,a.fG)) (get':=λa=>a.aY) (jR:=λa b=>{ a with aY:=b }) (Foc.fst (Foc.here (rSl aq bo))) (λ_=>rfl) (λ_ _=>rfl)).at rfl
theorem Pb:Foc ck (rSl aq bo) 1 (λa=>a.Left) (λa b=>{ a with Left:=b }):=(Foc.via (f:=λa:cF=>(a.aY,a.Left,a.aG,a.End,a.Open,a.fi,a.Rest,a.fG)) (get':=λa=>a.Left) (jR:=λa b=>{ a with Left:=b }) (Foc.snd (Foc.fst (Foc.here (rSl aq bo)))) (λ_=>rfl) (λ_ _=>rfl)).at rfl
theorem Jj:Foc ck (rSl au (rF .f32)) 2 (λa=>a.aG) (λa b=>{ a with aG:=b }):=(Foc.via (f:=λa:cF=>(a.aY,a.Left,a.aG,a.End,a.Open,a.fi,a.Rest,a.fG)) (get':=λa=>a.aG) (jR:=λa b=>{ a with aG:=b }) (Foc.snd (Foc.snd (Foc.fst (Foc.here (rSl au (rF .f32)))))) (λ_=>rfl) (λ_ _=>rfl)).at rfl
theorem dO:Foc ck bQ 3 (λa=>a.End) (λa b=>{ a with End:=b }):=(Foc.via (f:=λa:cF=>(a.aY,a.Left,a.aG,a.End,a.Open,a.fi,a.Rest,a.fG)) (get':=λa=>a.End) (jR:=λa b=>{ a with End:=b }) (Foc.snd (Foc.snd (Foc.snd (Foc.fst (Foc.here bQ))))) (λ_=>rfl) (λ_ _=>rfl)).at rfl
theorem FU:Foc ck rB 9 (λa=>a.Open) (λa b=>{ a with Open:=b }):=(Foc.via (f:=λa:cF=>(a.aY,a.Left,a.aG,a.End,a.Open,a.fi,a.Rest,a.fG)) (get':=λa=>a.Open) (jR:=λa b=>{ a with Open:=b }) (Foc.snd (Foc.snd (Foc.snd (Foc.snd (Foc.fst (Foc.here rB)))))) (λ_=>rfl) (λ_ _=>rfl)).at rfl
theorem FT:Foc ck (rF .f32) 10 (λa=>a.fi) (λa b=>{ a with fi:=b }):=(Foc.via (f:=λa:cF=>(a.aY,a.Left,a.aG,a.End,a.Open,a.fi,a.Rest,a.fG)) (get':=λa=>a.fi) (jR:=λa b=>{ a with fi:=b }) (Foc.snd (Foc.snd (Foc.snd (Foc.snd (Foc.snd (Foc.fst (Foc.here (rF .f32)))))))) (λ_=>rfl) (λ_ _=>rfl)).at rfl
theorem FV:Foc ck (rF .f32) 11 (λa=>a.Rest) (λa b=>{ a with Rest:=b }):=(Foc.via (f:=λa:cF=>(a.aY,a.Left,a.aG,a.End,a.Open,a.fi,a.Rest,a.fG)) (get':=λa=>a.Rest) (jR:=λa b=>{ a with Rest:=b }) (Foc.snd (Foc.snd (Foc.snd (Foc.snd (Foc.snd (Foc.snd (Foc.fst (Foc.here (rF .f32))))))))) (λ_=>rfl) (λ_ _=>rfl)).at rfl
theorem DG:Foc ck (rF .f32) 12 (λa=>a.fG) (λa b=>{ a with fG:=b }):=(Foc.via (f:=λa:cF=>(a.aY,a.Left,a.aG,a.End,a.Open,a.fi,a.Rest,a.fG)) (get':=λa=>a.fG) (jR:=λa b=>{ a with fG:=b }) (Foc.snd (Foc.snd (Foc.snd (Foc.snd (Foc.snd (Foc.snd (Foc.snd (Foc.here (rF .f32))))))))) (λ_=>rfl) (λ_ _=>rfl)).at rfl
def lv:cF:=⟨[],[],[],lX,false,0,0,0⟩
theorem EI:ck.ow [] [.slice none 0 0,.slice none 0 0,.slice none 0 0,.int .i64 0,.float .f32 0,.float .f32 0,.float .f32 0,.float .f32 0,.float .f32 0,.bool false,.float .f32 0,.float .f32 0,.float .f32 0] lv:=⟨[],[],[.slice none 0 0],_,rfl,rfl,⟨none,0,0,rfl,SlO.nil⟩,⟨[],[],[.slice none 0 0],_,rfl,rfl,⟨none,0,0,rfl,SlO.nil⟩,⟨[],[],[.slice none 0 0],_,rfl,rfl,⟨none,0,0,rfl,SlO.nil⟩,⟨[],[],[.int .i64 0,.float .f32 0,.float .f32 0,.float .f32 0,.float .f32 0,.float .f32 0],_,rfl,rfl,nw,⟨[],[],[.bool false],_,rfl,rfl,⟨rfl,rfl⟩,⟨[],[],[.float .f32 0],_,rfl,rfl,⟨rfl,0,rfl,fK (by decide) (by decide)⟩,⟨[],[],[.float .f32 0],_,rfl,rfl,⟨rfl,0,rfl,fK (by decide) (by decide)⟩,⟨rfl,0,rfl,fK (by decide) (by decide)⟩⟩⟩⟩⟩⟩⟩⟩
instance Qp:dn ck 0 (rSl aq bo) (λa=>a.aY) (λa b=>{ a with aY:=b }):=⟨Foc.at Ma rfl⟩
instance Qq:dn ck 1 (rSl aq bo) (λa=>a.Left) (λa b=>{ a with Left:=b }):=⟨Foc.at Pb rfl⟩
instance abo:dn ck 2 (rSl au (rF .f32)) (λa=>a.aG) (λa b=>{ a with aG:=b }):=⟨Foc.at Jj rfl⟩
instance abp:dn ck 3 (rI .i64) (λa=>a.End.Kind) (λa b=>{ a with End:={ a.End with Kind:=b } }):=⟨Foc.at (dO.trans za.f) rfl⟩
instance abq:dn ck 9 rB (λa=>a.Open) (λa b=>{ a with Open:=b }):=⟨Foc.at FU rfl⟩
instance XL:dn ck 10 (rF .f32) (λa=>a.fi) (λa b=>{ a with fi:=b }):=⟨Foc.at FT rfl⟩
instance XM:dn ck 11 (rF .f32) (λa=>a.Rest) (λa b=>{ a with Rest:=b }):=⟨Foc.at FV rfl⟩
instance XN:dn ck 12 (rF .f32) (λa=>a.fG) (λa b=>{ a with fG:=b }):=⟨Foc.at DG rfl⟩
def aX:Rep bP:=(Rep.seq bo (Rep.seq bQ (Rep.seq bQ ((rF .f32))))).via λa=>(a.Loop,a.mK,a.gl,a.fi)
theorem dg:Foc aX bo 0 (λa=>a.Loop) (λa b=>{ a with Loop:=b }):=(Foc.via (f:=λa:bP=>(a.Loop,a.mK,a.gl,a.fi)) (get':=λa=>a.Loop) (jR:=λa b=>{ a with Loop:=b }) (Foc.fst (Foc.here bo)) (λ_=>rfl) (λ_ _=>rfl)).at rfl
theorem dh:Foc aX bQ 2 (λa=>a.mK) (λa b=>{ a with mK:=b }):=(Foc.via (f:=λa:bP=>(a.Loop,a.mK,a.gl,a.fi)) (get':=λa=>a.mK) (jR:=λa b=>{ a with mK:=b }) (Foc.snd (Foc.fst (Foc.here bQ))) (λ_=>rfl) (λ_ _=>rfl)).at rfl
theorem df:Foc aX bQ 8 (λa=>a.gl) (λa b=>{ a with gl:=b }):=(Foc.via (f:=λa:bP=>(a.Loop,a.mK,a.gl,a.fi)) (get':=λa=>a.gl) (jR:=λa b=>{ a with gl:=b }) (Foc.snd (Foc.snd (Foc.fst (Foc.here bQ)))) (λ_=>rfl) (λ_ _=>rfl)).at rfl
theorem KP:Foc aX (rF .f32) 14 (λa=>a.fi) (λa b=>{ a with fi:=b }):=(Foc.via (f:=λa:bP=>(a.Loop,a.mK,a.gl,a.fi)) (get':=λa=>a.fi) (jR:=λa b=>{ a with fi:=b }) (Foc.snd (Foc.snd (Foc.snd (Foc.here (rF .f32))))) (λ_=>rfl) (λ_ _=>rfl)).at rfl
def ff:bP:=⟨oY,lX,lX,0⟩
theorem uG:aX.ow [] [.slice none 0 0,.int .i64 0,.int .i64 0,.float .f32 0,.float .f32 0,.float .f32 0,.float .f32 0,.float .f32 0,.int .i64 0,.float .f32 0,.float .f32 0,.float .f32 0,.float .f32 0,.float .f32 0,.float .f32 0] ff:=⟨[],[],[.slice none 0 0,.int .i64 0],_,rfl,rfl,qt,⟨[],[],[.int .i64 0,.float .f32 0,.float .f32 0,.float .f32 0,.float .f32 0,.float .f32 0],_,rfl,rfl,nw,⟨[],[],[.int .i64 0,.float .f32 0,.float .f32 0,.float .f32 0,.float .f32 0,.float .f32 0],_,rfl,rfl,nw,⟨rfl,0,rfl,fK (by decide) (by decide)⟩⟩⟩⟩
instance UP:dn aX 0 (rSl au (rF .f32)) (λa=>a.Loop.af) (λa b=>{ a with Loop:={ a.Loop with af:=b } }):=⟨Foc.at (dg.trans Jv.f) rfl⟩
instance UQ:dn aX 1 (rI .i64) (λa=>a.Loop.At) (λa b=>{ a with Loop:={ a.Loop with At:=b } }):=⟨Foc.at (dg.trans Jw.f) rfl⟩
instance UR:dn aX 2 (rI .i64) (λa=>a.mK.Kind) (λa b=>{ a with mK:={ a.mK with Kind:=b } }):=⟨Foc.at (dh.trans za.f) rfl⟩
instance US:dn aX 8 (rI .i64) (λa=>a.gl.Kind) (λa b=>{ a with gl:={ a.gl with Kind:=b } }):=⟨Foc.at (df.trans za.f) rfl⟩
instance SW:dn aX 14 (rF .f32) (λa=>a.fi) (λa b=>{ a with fi:=b }):=⟨Foc.at KP rfl⟩
def fQ:Rep jh:=(Rep.seq bo (Rep.seq bo (Rep.seq bQ (Rep.seq (rF .f32) ((rF .f32)))))).via λa=>(a.bX,a.aK,a.gl,a.fG,a.fi)
theorem fa:Foc fQ bo 0 (λa=>a.bX) (λa b=>{ a with bX:=b }):=(Foc.via (f:=λa:jh=>(a.bX,a.aK,a.gl,a.fG,a.fi)) (get':=λa=>a.bX) (jR:=λa b=>{ a with bX:=b }) (Foc.fst (Foc.here bo)) (λ_=>rfl) (λ_ _=>rfl)).at rfl
theorem dz:Foc fQ bo 2 (λa=>a.aK) (λa b=>{ a with aK:=b }):=(Foc.via (f:=λa:jh=>(a.bX,a.aK,a.gl,a.fG,a.fi)) (get':=λa=>a.aK) (jR:=λa b=>{ a with aK:=b }) (Foc.snd (Foc.fst (Foc.here bo))) (λ_=>rfl) (λ_ _=>rfl)).at rfl
theorem eP:Foc fQ bQ 4 (λa=>a.gl) (λa b=>{ a with gl:=b }):=(Foc.via (f:=λa:jh=>(a.bX,a.aK,a.gl,a.fG,a.fi)) (get':=λa=>a.gl) (jR:=λa b=>{ a with gl:=b }) (Foc.snd (Foc.snd (Foc.fst (Foc.here bQ)))) (λ_=>rfl) (λ_ _=>rfl)).at rfl
theorem P8:Foc fQ (rF .f32) 10 (λa=>a.fG) (λa b=>{ a with fG:=b }):=(Foc.via (f:=λa:jh=>(a.bX,a.aK,a.gl,a.fG,a.fi)) (get':=λa=>a.fG) (jR:=λa b=>{ a with fG:=b }) (Foc.snd (Foc.snd (Foc.snd (Foc.fst (Foc.here (rF .f32)))))) (λ_=>rfl) (λ_ _=>rfl)).at rfl
theorem Sk:Foc fQ (rF .f32) 11 (λa=>a.fi) (λa b=>{ a with fi:=b }):=(Foc.via (f:=λa:jh=>(a.bX,a.aK,a.gl,a.fG,a.fi)) (get':=λa=>a.fi) (jR:=λa b=>{ a with fi:=b }) (Foc.snd (Foc.snd (Foc.snd (Foc.snd (Foc.here (rF .f32)))))) (λ_=>rfl) (λ_ _=>rfl)).at rfl
def mD:jh:=⟨oY,oY,lX,0,0⟩
theorem Lu:fQ.ow [] [.slice none 0 0,.int .i64 0,.slice none 0 0,.int .i64 0,.int .i64 0,.float .f32 0,.float .f32 0,.float .f32 0,.float .f32 0,.float .f32 0,.float .f32 0,.float .f32 0] mD:=⟨[],[],[.slice none 0 0,.int .i64 0],_,rfl,rfl,qt,⟨[],[],[.slice none 0 0,.int .i64 0],_,rfl,rfl,qt,⟨[],[],[.int .i64 0,.float .f32 0,.float .f32 0,.float .f32 0,.float .f32 0,.float .f32 0],_,rfl,rfl,nw,⟨[],[],[.float .f32 0],_,rfl,rfl,⟨rfl,0,rfl,fK (by decide) (by decide)⟩,⟨rfl,0,rfl,fK (by decide) (by decide)⟩⟩⟩⟩⟩
instance aeG:dn fQ 0 (rSl au (rF .f32)) (λa=>a.bX.af) (λa b=>{ a with bX:={ a.bX with af:=b } }):=⟨Foc.at (fa.trans Jv.f) rfl⟩
instance aeH:dn fQ 1 (rI .i64) (λa=>a.bX.At) (λa b=>{ a with bX:={ a.bX with At:=b } }):=⟨Foc.at (fa.trans Jw.f) rfl⟩
instance aeI:dn fQ 2 (rSl au (rF .f32)) (λa=>a.aK.af) (λa b=>{ a with aK:={ a.aK with af:=b } }):=⟨Foc.at (dz.trans Jv.f) rfl⟩
instance aeJ:dn fQ 3 (rI .i64) (λa=>a.aK.At) (λa b=>{ a with aK:={ a.aK with At:=b } }):=⟨Foc.at (dz.trans Jw.f) rfl⟩
instance aeK:dn fQ 4 (rI .i64) (λa=>a.gl.Kind) (λa b=>{ a with gl:={ a.gl with Kind:=b } }):=⟨Foc.at (eP.trans za.f) rfl⟩
instance abm:dn fQ 10 (rF .f32) (λa=>a.fG) (λa b=>{ a with fG:=b }):=⟨Foc.at P8 rfl⟩
instance abn:dn fQ 11 (rF .f32) (λa=>a.fi) (λa b=>{ a with fi:=b }):=⟨Foc.at Sk rfl⟩
def eJ:Rep bR:=(Rep.seq (rF .f32) (Rep.seq (rF .f32) ((rSl au (rF .f32))))).via λa=>(a.Di,a.kZ,a.bU)
theorem KQ:Foc eJ (rF .f32) 0 (λa=>a.Di) (λa b=>{ a with Di:=b }):=(Foc.via (f:=λa:bR=>(a.Di,a.kZ,a.bU)) (get':=λa=>a.Di) (jR:=λa b=>{ a with Di:=b }) (Foc.fst (Foc.here (rF .f32))) (λ_=>rfl) (λ_ _=>rfl)).at rfl
theorem HJ:Foc eJ (rF .f32) 1 (λa=>a.kZ) (λa b=>{ a with kZ:=b }):=(Foc.via (f:=λa:bR=>(a.Di,a.kZ,a.bU)) (get':=λa=>a.kZ) (jR:=λa b=>{ a with kZ:=b }) (Foc.snd (Foc.fst (Foc.here (rF .f32)))) (λ_=>rfl) (λ_ _=>rfl)).at rfl
theorem xY:Foc eJ (rSl au (rF .f32)) 2 (λa=>a.bU) (λa b=>{ a with bU:=b }):=(Foc.via (f:=λa:bR=>(a.Di,a.kZ,a.bU)) (get':=λa=>a.bU) (jR:=λa b=>{ a with bU:=b }) (Foc.snd (Foc.snd (Foc.here (rSl au (rF .f32))))) (λ_=>rfl) (λ_ _=>rfl)).at rfl
def Oe:bR:=⟨0,0,[]⟩
theorem Oh:eJ.ow [] [.float .f32 0,.float .f32 0,.slice none 0 0] Oe:=⟨[],[],[.float .f32 0],_,rfl,rfl,⟨rfl,0,rfl,fK (by decide) (by decide)⟩,⟨[],[],[.float .f32 0],_,rfl,rfl,⟨rfl,0,rfl,fK (by decide) (by decide)⟩,⟨none,0,0,rfl,SlO.nil⟩⟩⟩
instance akd:dn eJ 0 (rF .f32) (λa=>a.Di) (λa b=>{ a with Di:=b }):=⟨Foc.at KQ rfl⟩
instance ake:dn eJ 1 (rF .f32) (λa=>a.kZ) (λa b=>{ a with kZ:=b }):=⟨Foc.at HJ rfl⟩
instance UT:dn eJ 2 (rSl au (rF .f32)) (λa=>a.bU) (λa b=>{ a with bU:=b }):=⟨Foc.at xY rfl⟩
def aM:Rep bA:=(Rep.seq rS (Rep.seq (rI .i64) (Rep.seq (rF .f32) (Rep.seq (rF .f32) ((rF .f32)))))).via λa=>(a.Name,a.Kind,a.A,a.B,a.C)
theorem Fx:Foc aM rS 0 (λa=>a.Name) (λa b=>{ a with Name:=b }):=(Foc.via (f:=λa:bA=>(a.Name,a.Kind,a.A,a.B,a.C)) (get':=λa=>a.Name) (jR:=λa b=>{ a with Name:=b }) (Foc.fst (Foc.here rS)) (λ_=>rfl) (λ_ _=>rfl)).at rfl
theorem Fw:Foc aM (rI .i64) 1 (λa=>a.Kind) (λa b=>{ a with Kind:=b }):=(Foc.via (f:=λa:bA=>(a.Name,a.Kind,a.A,a.B,a.C)) (get':=λa=>a.Kind) (jR:=λa b=>{ a with Kind:=b }) (Foc.snd (Foc.fst (Foc.here (rI .i64)))) (λ_=>rfl) (λ_ _=>rfl)).at rfl
theorem Jg:Foc aM (rF .f32) 2 (λa=>a.A) (λa b=>{ a with A:=b }):=(Foc.via (f:=λa:bA=>(a.Name,a.Kind,a.A,a.B,a.C)) (get':=λa=>a.A) (jR:=λa b=>{ a with A:=b }) (Foc.snd (Foc.snd (Foc.fst (Foc.here (rF .f32))))) (λ_=>rfl) (λ_ _=>rfl)).at rfl
theorem Jh:Foc aM (rF .f32) 3 (λa=>a.B) (λa b=>{ a with B:=b }):=(Foc.via (f:=λa:bA=>(a.Name,a.Kind,a.A,a.B,a.C)) (get':=λa=>a.B) (jR:=λa b=>{ a with B:=b }) (Foc.snd (Foc.snd (Foc.snd (Foc.fst (Foc.here (rF .f32)))))) (λ_=>rfl) (λ_ _=>rfl)).at rfl
theorem Ji:Foc aM (rF .f32) 4 (λa=>a.C) (λa b=>{ a with C:=b }):=(Foc.via (f:=λa:bA=>(a.Name,a.Kind,a.A,a.B,a.C)) (get':=λa=>a.C) (jR:=λa b=>{ a with C:=b }) (Foc.snd (Foc.snd (Foc.snd (Foc.snd (Foc.here (rF .f32)))))) (λ_=>rfl) (λ_ _=>rfl)).at rfl
def nv:bA:=⟨(⟨#[]⟩:ByteArray),0,0,0,0⟩
theorem EH:aM.ow [] [.string (⟨#[]⟩:ByteArray),.int .i64 0,.float .f32 0,.float .f32 0,.float .f32 0] nv:=⟨[],[],[.string (⟨#[]⟩:ByteArray)],[.int .i64 0,.float .f32 0,.float .f32 0,.float .f32 0],rfl,rfl,⟨rfl,rfl,by decide⟩,⟨[],[],[.int .i64 0],_,rfl,rfl,⟨rfl,rfl⟩,⟨[],[],[.float .f32 0],_,rfl,rfl,⟨rfl,0,rfl,fK (by decide) (by decide)⟩,⟨[],[],[.float .f32 0],_,rfl,rfl,⟨rfl,0,rfl,fK (by decide) (by decide)⟩,⟨rfl,0,rfl,fK (by decide) (by decide)⟩⟩⟩⟩⟩
instance acy:dn aM 0 rS (λa=>a.Name) (λa b=>{ a with Name:=b }):=⟨Foc.at Fx rfl⟩
instance acz:dn aM 1 (rI .i64) (λa=>a.Kind) (λa b=>{ a with Kind:=b }):=⟨Foc.at Fw rfl⟩
instance acA:dn aM 2 (rF .f32) (λa=>a.A) (λa b=>{ a with A:=b }):=⟨Foc.at Jg rfl⟩
instance acB:dn aM 3 (rF .f32) (λa=>a.B) (λa b=>{ a with B:=b }):=⟨Foc.at Jh rfl⟩
instance acC:dn aM 4 (rF .f32) (λa=>a.C) (λa b=>{ a with C:=b }):=⟨Foc.at Ji rfl⟩
def bD:Rep bf:=(Rep.seq (rI .i64) (Rep.seq (rI .i64) (Rep.seq (rI .i64) (Rep.seq (rI .i64) (Rep.seq (rI .i64) ((rF .f32))))))).via λa=>(a.At,a.Kind,a.aT,a.ar,a.Key,a.iK)
theorem Sm:Foc bD (rI .i64) 0 (λa=>a.At) (λa b=>{ a with At:=b }):=(Foc.via (f:=λa:bf=>(a.At,a.Kind,a.aT,a.ar,a.Key,a.iK)) (get':=λa=>a.At) (jR:=λa b=>{ a with At:=b }) (Foc.fst (Foc.here (rI .i64))) (λ_=>rfl) (λ_ _=>rfl)).at rfl
theorem M6:Foc bD (rI .i64) 1 (λa=>a.Kind) (λa b=>{ a with Kind:=b }):=(Foc.via (f:=λa:bf=>(a.At,a.Kind,a.aT,a.ar,a.Key,a.iK)) (get':=λa=>a.Kind) (jR:=λa b=>{ a with Kind:=b }) (Foc.snd (Foc.fst (Foc.here (rI .i64)))) (λ_=>rfl) (λ_ _=>rfl)).at rfl
theorem M9:Foc bD (rI .i64) 2 (λa=>a.aT) (λa b=>{ a with aT:=b }):=(Foc.via (f:=λa:bf=>(a.At,a.Kind,a.aT,a.ar,a.Key,a.iK)) (get':=λa=>a.aT) (jR:=λa b=>{ a with aT:=b }) (Foc.snd (Foc.snd (Foc.fst (Foc.here (rI .i64))))) (λ_=>rfl) (λ_ _=>rfl)).at rfl
theorem DF:Foc bD (rI .i64) 3 (λa=>a.ar) (λa b=>{ a with ar:=b }):=(Foc.via (f:=λa:bf=>(a.At,a.Kind,a.aT,a.ar,a.Key,a.iK)) (get':=λa=>a.ar) (jR:=λa b=>{ a with ar:=b }) (Foc.snd (Foc.snd (Foc.snd (Foc.fst (Foc.here (rI .i64)))))) (λ_=>rfl) (λ_ _=>rfl)).at rfl
theorem P9:Foc bD (rI .i64) 4 (λa=>a.Key) (λa b=>{ a with Key:=b }):=(Foc.via (f:=λa:bf=>(a.At,a.Kind,a.aT,a.ar,a.Key,a.iK)) (get':=λa=>a.Key) (jR:=λa b=>{ a with Key:=b }) (Foc.snd (Foc.snd (Foc.snd (Foc.snd (Foc.fst (Foc.here (rI .i64))))))) (λ_=>rfl) (λ_ _=>rfl)).at rfl
theorem KM:Foc bD (rF .f32) 5 (λa=>a.iK) (λa b=>{ a with iK:=b }):=(Foc.via (f:=λa:bf=>(a.At,a.Kind,a.aT,a.ar,a.Key,a.iK)) (get':=λa=>a.iK) (jR:=λa b=>{ a with iK:=b }) (Foc.snd (Foc.snd (Foc.snd (Foc.snd (Foc.snd (Foc.here (rF .f32))))))) (λ_=>rfl) (λ_ _=>rfl)).at rfl
def zq:bf:=⟨0,0,0,0,0,0⟩
theorem Bo:bD.ow [] [.int .i64 0,.int .i64 0,.int .i64 0,.int .i64 0,.int .i64 0,.float .f32 0] zq:=⟨[],[],[.int .i64 0],_,rfl,rfl,⟨rfl,rfl⟩,⟨[],[],[.int .i64 0],_,rfl,rfl,⟨rfl,rfl⟩,⟨[],[],[.int .i64 0],_,rfl,rfl,⟨rfl,rfl⟩,⟨[],[],[.int .i64 0],_,rfl,rfl,⟨rfl,rfl⟩,⟨[],[],[.int .i64 0],_,rfl,rfl,⟨rfl,rfl⟩,⟨rfl,0,rfl,fK (by decide) (by decide)⟩⟩⟩⟩⟩⟩
instance am8:dn bD 0 (rI .i64) (λa=>a.At) (λa b=>{ a with At:=b }):=⟨Foc.at Sm rfl⟩
instance am9:dn bD 1 (rI .i64) (λa=>a.Kind) (λa b=>{ a with Kind:=b }):=⟨Foc.at M6 rfl⟩
instance ama:dn bD 2 (rI .i64) (λa=>a.aT) (λa b=>{ a with aT:=b }):=⟨Foc.at M9 rfl⟩
instance amb:dn bD 3 (rI .i64) (λa=>a.ar) (λa b=>{ a with ar:=b }):=⟨Foc.at DF rfl⟩
instance amc:dn bD 4 (rI .i64) (λa=>a.Key) (λa b=>{ a with Key:=b }):=⟨Foc.at P9 rfl⟩
instance amd:dn bD 5 (rF .f32) (λa=>a.iK) (λa b=>{ a with iK:=b }):=⟨Foc.at KM rfl⟩
def da:Rep cA:=(Rep.seq (rF .f32) (Rep.seq eJ (Rep.seq (rSl bk aM) ((rSl bq bD))))).via λa=>(a.yI,a.er,a.aI,a.aU)
theorem Mc:Foc da (rF .f32) 0 (λa=>a.yI) (λa b=>{ a with yI:=b }):=(Foc.via (f:=λa:cA=>(a.yI,a.er,a.aI,a.aU)) (get':=λa=>a.yI) (jR:=λa b=>{ a with yI:=b }) (Foc.fst (Foc.here (rF .f32))) (λ_=>rfl) (λ_ _=>rfl)).at rfl
theorem fl:Foc da eJ 1 (λa=>a.er) (λa b=>{ a with er:=b }):=(Foc.via (f:=λa:cA=>(a.yI,a.er,a.aI,a.aU)) (get':=λa=>a.er) (jR:=λa b=>{ a with er:=b }) (Foc.snd (Foc.fst (Foc.here eJ))) (λ_=>rfl) (λ_ _=>rfl)).at rfl
theorem tw:Foc da (rSl bk aM) 4 (λa=>a.aI) (λa b=>{ a with aI:=b }):=(Foc.via (f:=λa:cA=>(a.yI,a.er,a.aI,a.aU)) (get':=λa=>a.aI) (jR:=λa b=>{ a with aI:=b }) (Foc.snd (Foc.snd (Foc.fst (Foc.here (rSl bk aM))))) (λ_=>rfl) (λ_ _=>rfl)).at rfl
theorem AK:Foc da (rSl bq bD) 5 (λa=>a.aU) (λa b=>{ a with aU:=b }):=(Foc.via (f:=λa:cA=>(a.yI,a.er,a.aI,a.aU)) (get':=λa=>a.aU) (jR:=λa b=>{ a with aU:=b }) (Foc.snd (Foc.snd (Foc.snd (Foc.here (rSl bq bD))))) (λ_=>rfl) (λ_ _=>rfl)).at rfl
def TB:cA:=⟨0,Oe,[],[]⟩
theorem Rg:da.ow [] [.float .f32 0,.float .f32 0,.float .f32 0,.slice none 0 0,.slice none 0 0,.slice none 0 0] TB:=⟨[],[],[.float .f32 0],_,rfl,rfl,⟨rfl,0,rfl,fK (by decide) (by decide)⟩,⟨[],[],[.float .f32 0,.float .f32 0,.slice none 0 0],_,rfl,rfl,Oh,⟨[],[],[.slice none 0 0],_,rfl,rfl,⟨none,0,0,rfl,SlO.nil⟩,⟨none,0,0,rfl,SlO.nil⟩⟩⟩⟩
instance ame:dn da 0 (rF .f32) (λa=>a.yI) (λa b=>{ a with yI:=b }):=⟨Foc.at Mc rfl⟩
instance amf:dn da 3 (rSl au (rF .f32)) (λa=>a.er.bU) (λa b=>{ a with er:={ a.er with bU:=b } }):=⟨Foc.at (fl.trans UT.f) rfl⟩
instance XO:dn da 4 (rSl bk aM) (λa=>a.aI) (λa b=>{ a with aI:=b }):=⟨Foc.at tw rfl⟩
instance XP:dn da 5 (rSl bq bD) (λa=>a.aU) (λa b=>{ a with aU:=b }):=⟨Foc.at AK rfl⟩
end Go.Sx
