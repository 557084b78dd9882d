/- Lemmas. -/
import Derived.Test.YthgnpepchedpbaaGreatDoorLg
import Derived.Test.YthgnpepchedpbaaGreatDoorLk0b
import Derived.Test.YthgnpepchedpbaaGreatDoorTabE
set_option linter.unusedVariables false
set_option linter.unusedSimpArgs false
namespace Go.Sx
open Go.Proofs
def dX:Rep cp:=(Rep.seq (rSl 109 bQ) (Rep.seq (rSl 109 bQ) (Rep.seq (rSl 22 (rF .f32)) (Rep.seq cx (Rep.seq rB (Rep.seq (rF .f32) (Rep.seq (rF .f32) ((rF .f32))))))))).via λa=>(a.aW,a.Left,a.aL,a.End,a.Open,a.fT,a.Rest,a.fX)
theorem G7:Foc dX (rSl 109 bQ) 0 (λa=>a.aW) (λa b=>{ a with aW:=b }):=(Foc.via (f:=λa:cp=>(a.aW,a.Left,a.aL,a.End,a.Open,a.fT,a.Rest,a.fX)) (get':=λa=>a.aW) (ig:=λa b=>{ a with aW:=b }) (Foc.fst (Foc.here (rSl 109 bQ))) (λ_=>rfl) (λ_ _=>rfl)).at rfl
theorem It:Foc dX (rSl 109 bQ) 1 (λa=>a.Left) (λa b=>{ a with Left:=b }):=(Foc.via (f:=λa:cp=>(a.aW,a.Left,a.aL,a.End,a.Open,a.fT,a.Rest,a.fX)) (get':=λa=>a.Left) (ig:=λa b=>{ a with Left:=b }) (Foc.snd (Foc.fst (Foc.here (rSl 109 bQ)))) (λ_=>rfl) (λ_ _=>rfl)).at rfl
theorem Dk:Foc dX (rSl 22 (rF .f32)) 2 (λa=>a.aL) (λa b=>{ a with aL:=b }):=(Foc.via (f:=λa:cp=>(a.aW,a.Left,a.aL,a.End,a.Open,a.fT,a.Rest,a.fX)) (get':=λa=>a.aL) (ig:=λa b=>{ a with aL:=b }) (Foc.snd (Foc.snd (Foc.fst (Foc.here (rSl 22 (rF .f32)))))) (λ_=>rfl) (λ_ _=>rfl)).at rfl
theorem gK:Foc dX cx 3 (λa=>a.End) (λa b=>{ a with End:=b }):=(Foc.via (f:=λa:cp=>(a.aW,a.Left,a.aL,a.End,a.Open,a.fT,a.Rest,a.fX)) (get':=λa=>a.End) (ig:=λa b=>{ a with End:=b }) (Foc.snd (Foc.snd (Foc.snd (Foc.fst (Foc.here cx))))) (λ_=>rfl) (λ_ _=>rfl)).at rfl
theorem Iv:Foc dX rB 9 (λa=>a.Open) (λa b=>{ a with Open:=b }):=(Foc.via (f:=λa:cp=>(a.aW,a.Left,a.aL,a.End,a.Open,a.fT,a.Rest,a.fX)) (get':=λa=>a.Open) (ig:=λa b=>{ a with Open:=b }) (Foc.snd (Foc.snd (Foc.snd (Foc.snd (Foc.fst (Foc.here rB)))))) (λ_=>rfl) (λ_ _=>rfl)).at rfl
theorem Iu:Foc dX (rF .f32) 10 (λa=>a.fT) (λa b=>{ a with fT:=b }):=(Foc.via (f:=λa:cp=>(a.aW,a.Left,a.aL,a.End,a.Open,a.fT,a.Rest,a.fX)) (get':=λa=>a.fT) (ig:=λa b=>{ a with fT:=b }) (Foc.snd (Foc.snd (Foc.snd (Foc.snd (Foc.snd (Foc.fst (Foc.here (rF .f32)))))))) (λ_=>rfl) (λ_ _=>rfl)).at rfl
theorem Iw:Foc dX (rF .f32) 11 (λa=>a.Rest) (λa b=>{ a with Rest:=b }):=(Foc.via (f:=λa:cp=>(a.aW,a.Left,a.aL,a.End,a.Open,a.fT,a.Rest,a.fX)) (get':=λa=>a.Rest) (ig:=λa b=>{ a with Rest:=b }) (Foc.snd (Foc.snd (Foc.snd (Foc.snd (Foc.snd (Foc.snd (Foc.fst (Foc.here (rF .f32))))))))) (λ_=>rfl) (λ_ _=>rfl)).at rfl
theorem G8:Foc dX (rF .f32) 12 (λa=>a.fX) (λa b=>{ a with fX:=b }):=(Foc.via (f:=λa:cp=>(a.aW,a.Left,a.aL,a.End,a.Open,a.fT,a.Rest,a.fX)) (get':=λa=>a.fX) (ig:=λa b=>{ a with fX:=b }) (Foc.snd (Foc.snd (Foc.snd (Foc.snd (Foc.snd (Foc.snd (Foc.snd (Foc.here (rF .f32))))))))) (λ_=>rfl) (λ_ _=>rfl)).at rfl
def wI:cp:=⟨[],[],[],pU,false,0,0,0⟩
theorem Pr:dX.ow [] [.slice none 0 0,.slice none 0 0,.slice none 0 0,.int .i64 0,.float .f32 0,.float .f32 0,.float .f32 0,.float .f32 0,.float .f32 0,.bool false,.float .f32 0,.float .f32 0,.float .f32 0] wI:=⟨[],[],[.slice none 0 0],_,rfl,rfl,⟨none,0,0,rfl,SlO.nil⟩,⟨[],[],[.slice none 0 0],_,rfl,rfl,⟨none,0,0,rfl,SlO.nil⟩,⟨[],[],[.slice none 0 0],_,rfl,rfl,⟨none,0,0,rfl,SlO.nil⟩,⟨[],[],[.int .i64 0,.float .f32 0,.float .f32 0,.float .f32 0,.float .f32 0,.float .f32 0],_,rfl,rfl,pj,⟨[],[],[.bool false],_,rfl,rfl,⟨rfl,rfl⟩,⟨[],[],[.float .f32 0],_,rfl,rfl,⟨rfl,0,rfl,eM (by decide) (by decide)⟩,⟨[],[],[.float .f32 0],_,rfl,rfl,⟨rfl,0,rfl,eM (by decide) (by decide)⟩,⟨rfl,0,rfl,eM (by decide) (by decide)⟩⟩⟩⟩⟩⟩⟩⟩
instance JP:cJ dX 0 (rSl 109 bQ) (λa=>a.aW) (λa b=>{ a with aW:=b }):=⟨Foc.at G7 rfl⟩
instance JQ:cJ dX 1 (rSl 109 bQ) (λa=>a.Left) (λa b=>{ a with Left:=b }):=⟨Foc.at It rfl⟩
instance UL:cJ dX 2 (rSl 22 (rF .f32)) (λa=>a.aL) (λa b=>{ a with aL:=b }):=⟨Foc.at Dk rfl⟩
instance UM:cJ dX 3 (rI .i64) (λa=>a.End.Kind) (λa b=>{ a with End:={ a.End with Kind:=b } }):=⟨Foc.at (gK.trans tM.f) rfl⟩
instance UN:cJ dX 9 rB (λa=>a.Open) (λa b=>{ a with Open:=b }):=⟨Foc.at Iv rfl⟩
instance QO:cJ dX 10 (rF .f32) (λa=>a.fT) (λa b=>{ a with fT:=b }):=⟨Foc.at Iu rfl⟩
instance QP:cJ dX 11 (rF .f32) (λa=>a.Rest) (λa b=>{ a with Rest:=b }):=⟨Foc.at Iw rfl⟩
instance QQ:cJ dX 12 (rF .f32) (λa=>a.fX) (λa b=>{ a with fX:=b }):=⟨Foc.at G8 rfl⟩
def bf:Rep bK:=(Rep.seq bQ (Rep.seq cx (Rep.seq cx ((rF .f32))))).via λa=>(a.Loop,a.kS,a.fz,a.fT)
theorem dL:Foc bf bQ 0 (λa=>a.Loop) (λa b=>{ a with Loop:=b }):=(Foc.via (f:=λa:bK=>(a.Loop,a.kS,a.fz,a.fT)) (get':=λa=>a.Loop) (ig:=λa b=>{ a with Loop:=b }) (Foc.fst (Foc.here bQ)) (λ_=>rfl) (λ_ _=>rfl)).at rfl
theorem dM:Foc bf cx 2 (λa=>a.kS) (λa b=>{ a with kS:=b }):=(Foc.via (f:=λa:bK=>(a.Loop,a.kS,a.fz,a.fT)) (get':=λa=>a.kS) (ig:=λa b=>{ a with kS:=b }) (Foc.snd (Foc.fst (Foc.here cx))) (λ_=>rfl) (λ_ _=>rfl)).at rfl
theorem dK:Foc bf cx 8 (λa=>a.fz) (λa b=>{ a with fz:=b }):=(Foc.via (f:=λa:bK=>(a.Loop,a.kS,a.fz,a.fT)) (get':=λa=>a.fz) (ig:=λa b=>{ a with fz:=b }) (Foc.snd (Foc.snd (Foc.fst (Foc.here cx)))) (λ_=>rfl) (λ_ _=>rfl)).at rfl
theorem EL:Foc bf (rF .f32) 14 (λa=>a.fT) (λa b=>{ a with fT:=b }):=(Foc.via (f:=λa:bK=>(a.Loop,a.kS,a.fz,a.fT)) (get':=λa=>a.fT) (ig:=λa b=>{ a with fT:=b }) (Foc.snd (Foc.snd (Foc.snd (Foc.here (rF .f32))))) (λ_=>rfl) (λ_ _=>rfl)).at rfl
def iw:bK:=⟨wJ,pU,pU,0⟩
theorem wL:bf.ow [] [.slice none 0 0,.int .i64 0,.int .i64 0,.float .f32 0,.float .f32 0,.float .f32 0,.float .f32 0,.float .f32 0,.int .i64 0,.float .f32 0,.float .f32 0,.float .f32 0,.float .f32 0,.float .f32 0,.float .f32 0] iw:=⟨[],[],[.slice none 0 0,.int .i64 0],_,rfl,rfl,pV,⟨[],[],[.int .i64 0,.float .f32 0,.float .f32 0,.float .f32 0,.float .f32 0,.float .f32 0],_,rfl,rfl,pj,⟨[],[],[.int .i64 0,.float .f32 0,.float .f32 0,.float .f32 0,.float .f32 0,.float .f32 0],_,rfl,rfl,pj,⟨rfl,0,rfl,eM (by decide) (by decide)⟩⟩⟩⟩
instance NJ:cJ bf 0 (rSl 22 (rF .f32)) (λa=>a.Loop.ae) (λa b=>{ a with Loop:={ a.Loop with ae:=b } }):=⟨Foc.at (dL.trans Dx.f) rfl⟩
instance NK:cJ bf 1 (rI .i64) (λa=>a.Loop.At) (λa b=>{ a with Loop:={ a.Loop with At:=b } }):=⟨Foc.at (dL.trans Dy.f) rfl⟩
instance NL:cJ bf 2 (rI .i64) (λa=>a.kS.Kind) (λa b=>{ a with kS:={ a.kS with Kind:=b } }):=⟨Foc.at (dM.trans tM.f) rfl⟩
instance NM:cJ bf 8 (rI .i64) (λa=>a.fz.Kind) (λa b=>{ a with fz:={ a.fz with Kind:=b } }):=⟨Foc.at (dK.trans tM.f) rfl⟩
instance LF:cJ bf 14 (rF .f32) (λa=>a.fT) (λa b=>{ a with fT:=b }):=⟨Foc.at EL rfl⟩
def jI:Rep iU:=(Rep.seq bQ (Rep.seq bQ (Rep.seq cx (Rep.seq (rF .f32) ((rF .f32)))))).via λa=>(a.bT,a.aH,a.fz,a.fX,a.fT)
theorem ik:Foc jI bQ 0 (λa=>a.bT) (λa b=>{ a with bT:=b }):=(Foc.via (f:=λa:iU=>(a.bT,a.aH,a.fz,a.fX,a.fT)) (get':=λa=>a.bT) (ig:=λa b=>{ a with bT:=b }) (Foc.fst (Foc.here bQ)) (λ_=>rfl) (λ_ _=>rfl)).at rfl
theorem fE:Foc jI bQ 2 (λa=>a.aH) (λa b=>{ a with aH:=b }):=(Foc.via (f:=λa:iU=>(a.bT,a.aH,a.fz,a.fX,a.fT)) (get':=λa=>a.aH) (ig:=λa b=>{ a with aH:=b }) (Foc.snd (Foc.fst (Foc.here bQ))) (λ_=>rfl) (λ_ _=>rfl)).at rfl
theorem gj:Foc jI cx 4 (λa=>a.fz) (λa b=>{ a with fz:=b }):=(Foc.via (f:=λa:iU=>(a.bT,a.aH,a.fz,a.fX,a.fT)) (get':=λa=>a.fz) (ig:=λa b=>{ a with fz:=b }) (Foc.snd (Foc.snd (Foc.fst (Foc.here cx)))) (λ_=>rfl) (λ_ _=>rfl)).at rfl
theorem Ir:Foc jI (rF .f32) 10 (λa=>a.fX) (λa b=>{ a with fX:=b }):=(Foc.via (f:=λa:iU=>(a.bT,a.aH,a.fz,a.fX,a.fT)) (get':=λa=>a.fX) (ig:=λa b=>{ a with fX:=b }) (Foc.snd (Foc.snd (Foc.snd (Foc.fst (Foc.here (rF .f32)))))) (λ_=>rfl) (λ_ _=>rfl)).at rfl
theorem L7:Foc jI (rF .f32) 11 (λa=>a.fT) (λa b=>{ a with fT:=b }):=(Foc.via (f:=λa:iU=>(a.bT,a.aH,a.fz,a.fX,a.fT)) (get':=λa=>a.fT) (ig:=λa b=>{ a with fT:=b }) (Foc.snd (Foc.snd (Foc.snd (Foc.snd (Foc.here (rF .f32)))))) (λ_=>rfl) (λ_ _=>rfl)).at rfl
def vl:iU:=⟨wJ,wJ,pU,0,0⟩
theorem Tz:jI.ow [] [.slice none 0 0,.int .i64 0,.slice none 0 0,.int .i64 0,.int .i64 0,.float .f32 0,.float .f32 0,.float .f32 0,.float .f32 0,.float .f32 0,.float .f32 0,.float .f32 0] vl:=⟨[],[],[.slice none 0 0,.int .i64 0],_,rfl,rfl,pV,⟨[],[],[.slice none 0 0,.int .i64 0],_,rfl,rfl,pV,⟨[],[],[.int .i64 0,.float .f32 0,.float .f32 0,.float .f32 0,.float .f32 0,.float .f32 0],_,rfl,rfl,pj,⟨[],[],[.float .f32 0],_,rfl,rfl,⟨rfl,0,rfl,eM (by decide) (by decide)⟩,⟨rfl,0,rfl,eM (by decide) (by decide)⟩⟩⟩⟩⟩
instance Y7:cJ jI 0 (rSl 22 (rF .f32)) (λa=>a.bT.ae) (λa b=>{ a with bT:={ a.bT with ae:=b } }):=⟨Foc.at (ik.trans Dx.f) rfl⟩
instance Y8:cJ jI 1 (rI .i64) (λa=>a.bT.At) (λa b=>{ a with bT:={ a.bT with At:=b } }):=⟨Foc.at (ik.trans Dy.f) rfl⟩
instance Y9:cJ jI 2 (rSl 22 (rF .f32)) (λa=>a.aH.ae) (λa b=>{ a with aH:={ a.aH with ae:=b } }):=⟨Foc.at (fE.trans Dx.f) rfl⟩
instance Ya:cJ jI 3 (rI .i64) (λa=>a.aH.At) (λa b=>{ a with aH:={ a.aH with At:=b } }):=⟨Foc.at (fE.trans Dy.f) rfl⟩
instance Yb:cJ jI 4 (rI .i64) (λa=>a.fz.Kind) (λa b=>{ a with fz:={ a.fz with Kind:=b } }):=⟨Foc.at (gj.trans tM.f) rfl⟩
instance UJ:cJ jI 10 (rF .f32) (λa=>a.fX) (λa b=>{ a with fX:=b }):=⟨Foc.at Ir rfl⟩
instance UK:cJ jI 11 (rF .f32) (λa=>a.fT) (λa b=>{ a with fT:=b }):=⟨Foc.at L7 rfl⟩
def dD:Rep bC:=(Rep.seq (rF .f32) (Rep.seq (rF .f32) ((rSl 22 (rF .f32))))).via λa=>(a.xH,a.iV,a.bG)
theorem EM:Foc dD (rF .f32) 0 (λa=>a.xH) (λa b=>{ a with xH:=b }):=(Foc.via (f:=λa:bC=>(a.xH,a.iV,a.bG)) (get':=λa=>a.xH) (ig:=λa b=>{ a with xH:=b }) (Foc.fst (Foc.here (rF .f32))) (λ_=>rfl) (λ_ _=>rfl)).at rfl
theorem C5:Foc dD (rF .f32) 1 (λa=>a.iV) (λa b=>{ a with iV:=b }):=(Foc.via (f:=λa:bC=>(a.xH,a.iV,a.bG)) (get':=λa=>a.iV) (ig:=λa b=>{ a with iV:=b }) (Foc.snd (Foc.fst (Foc.here (rF .f32)))) (λ_=>rfl) (λ_ _=>rfl)).at rfl
theorem sA:Foc dD (rSl 22 (rF .f32)) 2 (λa=>a.bG) (λa b=>{ a with bG:=b }):=(Foc.via (f:=λa:bC=>(a.xH,a.iV,a.bG)) (get':=λa=>a.bG) (ig:=λa b=>{ a with bG:=b }) (Foc.snd (Foc.snd (Foc.here (rSl 22 (rF .f32))))) (λ_=>rfl) (λ_ _=>rfl)).at rfl
def HJ:bC:=⟨0,0,[]⟩
theorem HL:dD.ow [] [.float .f32 0,.float .f32 0,.slice none 0 0] HJ:=⟨[],[],[.float .f32 0],_,rfl,rfl,⟨rfl,0,rfl,eM (by decide) (by decide)⟩,⟨[],[],[.float .f32 0],_,rfl,rfl,⟨rfl,0,rfl,eM (by decide) (by decide)⟩,⟨none,0,0,rfl,SlO.nil⟩⟩⟩
instance adN:cJ dD 0 (rF .f32) (λa=>a.xH) (λa b=>{ a with xH:=b }):=⟨Foc.at EM rfl⟩
instance adO:cJ dD 1 (rF .f32) (λa=>a.iV) (λa b=>{ a with iV:=b }):=⟨Foc.at C5 rfl⟩
instance NO:cJ dD 2 (rSl 22 (rF .f32)) (λa=>a.bG) (λa b=>{ a with bG:=b }):=⟨Foc.at sA rfl⟩
def aA:Rep bh:=(Rep.seq rS (Rep.seq (rI .i64) (Rep.seq (rF .f32) (Rep.seq (rF .f32) ((rF .f32)))))).via λa=>(a.Name,a.Kind,a.A,a.B,a.C)
theorem zQ:Foc aA rS 0 (λa=>a.Name) (λa b=>{ a with Name:=b }):=(Foc.via (f:=λa:bh=>(a.Name,a.Kind,a.A,a.B,a.C)) (get':=λa=>a.Name) (ig:=λa b=>{ a with Name:=b }) (Foc.fst (Foc.here rS)) (λ_=>rfl) (λ_ _=>rfl)).at rfl
theorem zP:Foc aA (rI .i64) 1 (λa=>a.Kind) (λa b=>{ a with Kind:=b }):=(Foc.via (f:=λa:bh=>(a.Name,a.Kind,a.A,a.B,a.C)) (get':=λa=>a.Kind) (ig:=λa b=>{ a with Kind:=b }) (Foc.snd (Foc.fst (Foc.here (rI .i64)))) (λ_=>rfl) (λ_ _=>rfl)).at rfl
theorem Dh:Foc aA (rF .f32) 2 (λa=>a.A) (λa b=>{ a with A:=b }):=(Foc.via (f:=λa:bh=>(a.Name,a.Kind,a.A,a.B,a.C)) (get':=λa=>a.A) (ig:=λa b=>{ a with A:=b }) (Foc.snd (Foc.snd (Foc.fst (Foc.here (rF .f32))))) (λ_=>rfl) (λ_ _=>rfl)).at rfl
theorem Di:Foc aA (rF .f32) 3 (λa=>a.B) (λa b=>{ a with B:=b }):=(Foc.via (f:=λa:bh=>(a.Name,a.Kind,a.A,a.B,a.C)) (get':=λa=>a.B) (ig:=λa b=>{ a with B:=b }) (Foc.snd (Foc.snd (Foc.snd (Foc.fst (Foc.here (rF .f32)))))) (λ_=>rfl) (λ_ _=>rfl)).at rfl
theorem Dj:Foc aA (rF .f32) 4 (λa=>a.C) (λa b=>{ a with C:=b }):=(Foc.via (f:=λa:bh=>(a.Name,a.Kind,a.A,a.B,a.C)) (get':=λa=>a.C) (ig:=λa b=>{ a with C:=b }) (Foc.snd (Foc.snd (Foc.snd (Foc.snd (Foc.here (rF .f32)))))) (λ_=>rfl) (λ_ _=>rfl)).at rfl
def kt:bh:=⟨(⟨#[]⟩:ByteArray),0,0,0,0⟩
theorem zg:aA.ow [] [.string (⟨#[]⟩:ByteArray),.int .i64 0,.float .f32 0,.float .f32 0,.float .f32 0] kt:=⟨[],[],[.string (⟨#[]⟩:ByteArray)],[.int .i64 0,.float .f32 0,.float .f32 0,.float .f32 0],rfl,rfl,⟨rfl,rfl,by decide⟩,⟨[],[],[.int .i64 0],_,rfl,rfl,⟨rfl,rfl⟩,⟨[],[],[.float .f32 0],_,rfl,rfl,⟨rfl,0,rfl,eM (by decide) (by decide)⟩,⟨[],[],[.float .f32 0],_,rfl,rfl,⟨rfl,0,rfl,eM (by decide) (by decide)⟩,⟨rfl,0,rfl,eM (by decide) (by decide)⟩⟩⟩⟩⟩
instance VO:cJ aA 0 rS (λa=>a.Name) (λa b=>{ a with Name:=b }):=⟨Foc.at zQ rfl⟩
instance VP:cJ aA 1 (rI .i64) (λa=>a.Kind) (λa b=>{ a with Kind:=b }):=⟨Foc.at zP rfl⟩
instance VQ:cJ aA 2 (rF .f32) (λa=>a.A) (λa b=>{ a with A:=b }):=⟨Foc.at Dh rfl⟩
instance VR:cJ aA 3 (rF .f32) (λa=>a.B) (λa b=>{ a with B:=b }):=⟨Foc.at Di rfl⟩
instance VS:cJ aA 4 (rF .f32) (λa=>a.C) (λa b=>{ a with C:=b }):=⟨Foc.at Dj rfl⟩
def bF:Rep aZ:=(Rep.seq (rI .i64) (Rep.seq (rI .i64) (Rep.seq (rI .i64) (Rep.seq (rI .i64) (Rep.seq (rI .i64) ((rF .f32))))))).via λa=>(a.At,a.Kind,a.aT,a.aq,a.Key,a.gd)
theorem L8:Foc bF (rI .i64) 0 (λa=>a.At) (λa b=>{ a with At:=b }):=(Foc.via (f:=λa:aZ=>(a.At,a.Kind,a.aT,a.aq,a.Key,a.gd)) (get':=λa=>a.At) (ig:=λa b=>{ a with At:=b }) (Foc.fst (Foc.here (rI .i64))) (λ_=>rfl) (λ_ _=>rfl)).at rfl
theorem G5:Foc bF (rI .i64) 1 (λa=>a.Kind) (λa b=>{ a with Kind:=b }):=(Foc.via (f:=λa:aZ=>(a.At,a.Kind,a.aT,a.aq,a.Key,a.gd)) (get':=λa=>a.Kind) (ig:=λa b=>{ a with Kind:=b }) (Foc.snd (Foc.fst (Foc.here (rI .i64)))) (λ_=>rfl) (λ_ _=>rfl)).at rfl
theorem G6:Foc bF (rI .i64) 2 (λa=>a.aT) (λa b=>{ a with aT:=b }):=(Foc.via (f:=λa:aZ=>(a.At,a.Kind,a.aT,a.aq,a.Key,a.gd)) (get':=λa=>a.aT) (ig:=λa b=>{ a with aT:=b }) (Foc.snd (Foc.snd (Foc.fst (Foc.here (rI .i64))))) (λ_=>rfl) (λ_ _=>rfl)).at rfl
theorem yr:Foc bF (rI .i64) 3 (λa=>a.aq) (λa b=>{ a with aq:=b }):=(Foc.via (f:=λa:aZ=>(a.At,a.Kind,a.aT,a.aq,a.Key,a.gd)) (get':=λa=>a.aq) (ig:=λa b=>{ a with aq:=b }) (Foc.snd (Foc.snd (Foc.snd (Foc.fst (Foc.here (rI .i64)))))) (λ_=>rfl) (λ_ _=>rfl)).at rfl
theorem Is:Foc bF (rI .i64) 4 (λa=>a.Key) (λa b=>{ a with Key:=b }):=(Foc.via (f:=λa:aZ=>(a.At,a.Kind,a.aT,a.aq,a.Key,a.gd)) (get':=λa=>a.Key) (ig:=λa b=>{ a with Key:=b }) (Foc.snd (Foc.snd (Foc.snd (Foc.snd (Foc.fst (Foc.here (rI .i64))))))) (λ_=>rfl) (λ_ _=>rfl)).at rfl
theorem EJ:Foc bF (rF .f32) 5 (λa=>a.gd) (λa b=>{ a with gd:=b }):=(Foc.via (f:=λa:aZ=>(a.At,a.Kind,a.aT,a.aq,a.Key,a.gd)) (get':=λa=>a.gd) (ig:=λa b=>{ a with gd:=b }) (Foc.snd (Foc.snd (Foc.snd (Foc.snd (Foc.snd (Foc.here (rF .f32))))))) (λ_=>rfl) (λ_ _=>rfl)).at rfl
def wH:aZ:=⟨0,0,0,0,0,0⟩
theorem Km:bF.ow [] [.int .i64 0,.int .i64 0,.int .i64 0,.int .i64 0,.int .i64 0,.float .f32 0] wH:=⟨[],[],[.int .i64 0],_,rfl,rfl,⟨rfl,rfl⟩,⟨[],[],[.int .i64 0],_,rfl,rfl,⟨rfl,rfl⟩,⟨[],[],[.int .i64 0],_,rfl,rfl,⟨rfl,rfl⟩,⟨[],[],[.int .i64 0],_,rfl,rfl,⟨rfl,rfl⟩,⟨[],[],[.int .i64 0],_,rfl,rfl,⟨rfl,rfl⟩,⟨rfl,0,rfl,eM (by decide) (by decide)⟩⟩⟩⟩⟩⟩
instance afP:cJ bF 0 (rI .i64) (λa=>a.At) (λa b=>{ a with At:=b }):=⟨Foc.at L8 rfl⟩
instance afQ:cJ bF 1 (rI .i64) (λa=>a.Kind) (λa b=>{ a with Kind:=b }):=⟨Foc.at G5 rfl⟩
instance afR:cJ bF 2 (rI .i64) (λa=>a.aT) (λa b=>{ a with aT:=b }):=⟨Foc.at G6 rfl⟩
instance afS:cJ bF 3 (rI .i64) (λa=>a.aq) (λa b=>{ a with aq:=b }):=⟨Foc.at yr rfl⟩
instance afT:cJ bF 4 (rI .i64) (λa=>a.Key) (λa b=>{ a with Key:=b }):=⟨Foc.at Is rfl⟩
instance afU:cJ bF 5 (rF .f32) (λa=>a.gd) (λa b=>{ a with gd:=b }):=⟨Foc.at EJ rfl⟩
def bU:Rep bI:=(Rep.seq (rF .f32) (Rep.seq dD (Rep.seq (rSl 135 aA) ((rSl 131 bF))))).via λa=>(a.sY,a.dv,a.az,a.bo)
theorem Ga:Foc bU (rF .f32) 0 (λa=>a.sY) (λa b=>{ a with sY:=b }):=(Foc.via (f:=λa:bI=>(a.sY,a.dv,a.az,a.bo)) (get':=λa=>a.sY) (ig:=λa b=>{ a with sY:=b }) (Foc.fst (Foc.here (rF .f32))) (λ_=>rfl) (λ_ _=>rfl)).at rfl
theorem ed:Foc bU dD 1 (λa=>a.dv) (λa b=>{ a with dv:=b }):=(Foc.via (f:=λa:bI=>(a.sY,a.dv,a.az,a.bo)) (get':=λa=>a.dv) (ig:=λa b=>{ a with dv:=b }) (Foc.snd (Foc.fst (Foc.here dD))) (λ_=>rfl) (λ_ _=>rfl)).at rfl
theorem o4:Foc bU (rSl 135 aA) 4 (λa=>a.az) (λa b=>{ a with az:=b }):=(Foc.via (f:=λa:bI=>(a.sY,a.dv,a.az,a.bo)) (get':=λa=>a.az) (ig:=λa b=>{ a with az:=b }) (Foc.snd (Foc.snd (Foc.fst (Foc.here (rSl 135 aA))))) (λ_=>rfl) (λ_ _=>rfl)).at rfl
theorem uV:Foc bU (rSl 131 bF) 5 (λa=>a.bo) (λa b=>{ a with bo:=b }):=(Foc.via (f:=λa:bI=>(a.sY,a.dv,a.az,a.bo)) (get':=λa=>a.bo) (ig:=λa b=>{ a with bo:=b }) (Foc.snd (Foc.snd (Foc.snd (Foc.here (rSl 131 bF))))) (λ_=>rfl) (λ_ _=>rfl)).at rfl
def Mj:bI:=⟨0,HJ,[],[]⟩
theorem Kn:bU.ow [] [.float .f32 0,.float .f32 0,.float .f32 0,.slice none 0 0,.slice none 0 0,.slice none 0 0] Mj:=⟨[],[],[.float .f32 0],_,rfl,rfl,⟨rfl,0,rfl,eM (by decide) (by decide)⟩,⟨[],[],[.float .f32 0,.float .f32 0,.slice none 0 0],_,rfl,rfl,HL,⟨[],[],[.slice none 0 0],_,rfl,rfl,⟨none,0,0,rfl,SlO.nil⟩,⟨none,0,0,rfl,SlO.nil⟩⟩⟩⟩
instance afV:cJ bU 0 (rF .f32) (λa=>a.sY) (λa b=>{ a with sY:=b }):=⟨Foc.at Ga rfl⟩
instance afW:cJ bU 3 (rSl 22 (rF .f32)) (λa=>a.dv.bG) (λa b=>{ a with dv:={ a.dv with bG:=b } }):=⟨Foc.at (ed.trans NO.f) rfl⟩
instance QR:cJ bU 4 (rSl 135 aA) (λa=>a.az) (λa b=>{ a with az:=b }):=⟨Foc.at o4 rfl⟩
instance QS:cJ bU 5 (rSl 131 bF) (λa=>a.bo) (λa b=>{ a with bo:=b }):=⟨Foc.at uV rfl⟩
end Go.Sx
