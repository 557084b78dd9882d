/- Lemmas. -/
import Derived.Test.YthgnpepchedpbaaGreatDoorLg
import Derived.Test.YthgnpepchedpbaaGreatDoorLk0b
import Derived.Test.YthgnpepchedpbaaGreatDoorTabE
import Derived.Test.YthgnpepchedpbaaGreatDoorLr3
set_option linter.unusedVariables false
set_option linter.unusedSimpArgs false
namespace Go.Sx
open Go.Proofs
def aQ:Rep aK:=(Rep.seq (rI .i64) (Rep.seq (rI .i64) (Rep.seq (rI .i64) (Rep.seq rB (Rep.seq (rF .f32) (Rep.seq bf (Rep.seq dX (jI)))))))).via λa=>(a.aT,a.aq,a.mh,a.Gone,a.gR,a.String,a.aI,a.bY)
theorem Gd:Foc aQ (rI .i64) 0 (λa=>a.aT) (λa b=>{ a with aT:=b }):=(Foc.via (f:=λa:aK=>(a.aT,a.aq,a.mh,a.Gone,a.gR,a.String,a.aI,a.bY)) (get':=λa=>a.aT) (ig:=λa b=>{ a with aT:=b }) (Foc.fst (Foc.here (rI .i64))) (λ_=>rfl) (λ_ _=>rfl)).at rfl
theorem yt:Foc aQ (rI .i64) 1 (λa=>a.aq) (λa b=>{ a with aq:=b }):=(Foc.via (f:=λa:aK=>(a.aT,a.aq,a.mh,a.Gone,a.gR,a.String,a.aI,a.bY)) (get':=λa=>a.aq) (ig:=λa b=>{ a with aq:=b }) (Foc.snd (Foc.fst (Foc.here (rI .i64)))) (λ_=>rfl) (λ_ _=>rfl)).at rfl
theorem Gb:Foc aQ (rI .i64) 2 (λa=>a.mh) (λa b=>{ a with mh:=b }):=(Foc.via (f:=λa:aK=>(a.aT,a.aq,a.mh,a.Gone,a.gR,a.String,a.aI,a.bY)) (get':=λa=>a.mh) (ig:=λa b=>{ a with mh:=b }) (Foc.snd (Foc.snd (Foc.fst (Foc.here (rI .i64))))) (λ_=>rfl) (λ_ _=>rfl)).at rfl
theorem Gc:Foc aQ rB 3 (λa=>a.Gone) (λa b=>{ a with Gone:=b }):=(Foc.via (f:=λa:aK=>(a.aT,a.aq,a.mh,a.Gone,a.gR,a.String,a.aI,a.bY)) (get':=λa=>a.Gone) (ig:=λa b=>{ a with Gone:=b }) (Foc.snd (Foc.snd (Foc.snd (Foc.fst (Foc.here rB))))) (λ_=>rfl) (λ_ _=>rfl)).at rfl
theorem EN:Foc aQ (rF .f32) 4 (λa=>a.gR) (λa b=>{ a with gR:=b }):=(Foc.via (f:=λa:aK=>(a.aT,a.aq,a.mh,a.Gone,a.gR,a.String,a.aI,a.bY)) (get':=λa=>a.gR) (ig:=λa b=>{ a with gR:=b }) (Foc.snd (Foc.snd (Foc.snd (Foc.snd (Foc.fst (Foc.here (rF .f32))))))) (λ_=>rfl) (λ_ _=>rfl)).at rfl
theorem bO:Foc aQ bf 5 (λa=>a.String) (λa b=>{ a with String:=b }):=(Foc.via (f:=λa:aK=>(a.aT,a.aq,a.mh,a.Gone,a.gR,a.String,a.aI,a.bY)) (get':=λa=>a.String) (ig:=λa b=>{ a with String:=b }) (Foc.snd (Foc.snd (Foc.snd (Foc.snd (Foc.snd (Foc.fst (Foc.here bf))))))) (λ_=>rfl) (λ_ _=>rfl)).at rfl
theorem cE:Foc aQ dX 20 (λa=>a.aI) (λa b=>{ a with aI:=b }):=(Foc.via (f:=λa:aK=>(a.aT,a.aq,a.mh,a.Gone,a.gR,a.String,a.aI,a.bY)) (get':=λa=>a.aI) (ig:=λa b=>{ a with aI:=b }) (Foc.snd (Foc.snd (Foc.snd (Foc.snd (Foc.snd (Foc.snd (Foc.fst (Foc.here dX)))))))) (λ_=>rfl) (λ_ _=>rfl)).at rfl
theorem cP:Foc aQ jI 33 (λa=>a.bY) (λa b=>{ a with bY:=b }):=(Foc.via (f:=λa:aK=>(a.aT,a.aq,a.mh,a.Gone,a.gR,a.String,a.aI,a.bY)) (get':=λa=>a.bY) (ig:=λa b=>{ a with bY:=b }) (Foc.snd (Foc.snd (Foc.snd (Foc.snd (Foc.snd (Foc.snd (Foc.snd (Foc.here jI)))))))) (λ_=>rfl) (λ_ _=>rfl)).at rfl
def CW:aK:=⟨0,0,0,false,0,iw,wI,vl⟩
theorem vm:aQ.ow [] [.int .i64 0,.int .i64 0,.int .i64 0,.bool false,.float .f32 0,.slice none 0 0,.int .i64 0,.int .i64 0,.float .f32 0,.float .f32 0,.float .f32 0,.float .f32 0,.float .f32 0,.int .i64 0,.float .f32 0,.float .f32 0,.float .f32 0,.float .f32 0,.float .f32 0,.float .f32 0,.slice none 0 0,.slice none 0 0,.slice none 0 0,.int .i64 0,.float .f32 0,.float .f32 0,.float .f32 0,.float .f32 0,.float .f32 0,.bool false,.float .f32 0,.float .f32 0,.float .f32 0,.slice none 0 0,.int .i64 0,.slice none 0 0,.int .i64 0,.int .i64 0,.float .f32 0,.float .f32 0,.float .f32 0,.float .f32 0,.float .f32 0,.float .f32 0,.float .f32 0] CW:=⟨[],[],[.int .i64 0],_,rfl,rfl,⟨rfl,rfl⟩,⟨[],[],[.int .i64 0],_,rfl,rfl,⟨rfl,rfl⟩,⟨[],[],[.int .i64 0],_,rfl,rfl,⟨rfl,rfl⟩,⟨[],[],[.bool false],_,rfl,rfl,⟨rfl,rfl⟩,⟨[],[],[.float .f32 0],_,rfl,rfl,⟨rfl,0,rfl,eM (by decide) (by decide)⟩,⟨[],[],[.slice none 0 0,.int .i64 0,.int .i64 0,.float .f32 0,.float .f32 0,.float .f32 0,.float .f32 0,.float .f32 0,.int .i64 0,.float .f32 0,.float .f32 0,.float .f32 0,.float .f32 0,.float .f32 0,.float .f32 0],_,rfl,rfl,wL,⟨[],[],[.slice none 0 0,.slice none 0 0,.slice none 0 0,.int .i64 0,.float .f32 0,.float .f32 0,.float .f32 0,.float .f32 0,.float .f32 0,.bool false,.float .f32 0,.float .f32 0,.float .f32 0],_,rfl,rfl,Pr,Tz⟩⟩⟩⟩⟩⟩⟩
instance afX:cJ aQ 0 (rI .i64) (λa=>a.aT) (λa b=>{ a with aT:=b }):=⟨Foc.at Gd rfl⟩
instance afY:cJ aQ 1 (rI .i64) (λa=>a.aq) (λa b=>{ a with aq:=b }):=⟨Foc.at yt rfl⟩
instance afZ:cJ aQ 2 (rI .i64) (λa=>a.mh) (λa b=>{ a with mh:=b }):=⟨Foc.at Gb rfl⟩
instance ag0:cJ aQ 3 rB (λa=>a.Gone) (λa b=>{ a with Gone:=b }):=⟨Foc.at Gc rfl⟩
instance ag1:cJ aQ 4 (rF .f32) (λa=>a.gR) (λa b=>{ a with gR:=b }):=⟨Foc.at EN rfl⟩
def bz:Rep aC:=(Rep.seq bU (Rep.seq (rSl 122 aQ) (Rep.seq (rI .i64) (Rep.seq (rI .i64) ((rI .i64)))))).via λa=>(a.Score,a.al,a.mO,a.Next,a.ft)
theorem gx:Foc bz bU 0 (λa=>a.Score) (λa b=>{ a with Score:=b }):=(Foc.via (f:=λa:aC=>(a.Score,a.al,a.mO,a.Next,a.ft)) (get':=λa=>a.Score) (ig:=λa b=>{ a with Score:=b }) (Foc.fst (Foc.here bU)) (λ_=>rfl) (λ_ _=>rfl)).at rfl
theorem tH:Foc bz (rSl 122 aQ) 6 (λa=>a.al) (λa b=>{ a with al:=b }):=(Foc.via (f:=λa:aC=>(a.Score,a.al,a.mO,a.Next,a.ft)) (get':=λa=>a.al) (ig:=λa b=>{ a with al:=b }) (Foc.snd (Foc.fst (Foc.here (rSl 122 aQ)))) (λ_=>rfl) (λ_ _=>rfl)).at rfl
theorem G9:Foc bz (rI .i64) 7 (λa=>a.mO) (λa b=>{ a with mO:=b }):=(Foc.via (f:=λa:aC=>(a.Score,a.al,a.mO,a.Next,a.ft)) (get':=λa=>a.mO) (ig:=λa b=>{ a with mO:=b }) (Foc.snd (Foc.snd (Foc.fst (Foc.here (rI .i64))))) (λ_=>rfl) (λ_ _=>rfl)).at rfl
theorem xk:Foc bz (rI .i64) 8 (λa=>a.Next) (λa b=>{ a with Next:=b }):=(Foc.via (f:=λa:aC=>(a.Score,a.al,a.mO,a.Next,a.ft)) (get':=λa=>a.Next) (ig:=λa b=>{ a with Next:=b }) (Foc.snd (Foc.snd (Foc.snd (Foc.fst (Foc.here (rI .i64)))))) (λ_=>rfl) (λ_ _=>rfl)).at rfl
theorem AN:Foc bz (rI .i64) 9 (λa=>a.ft) (λa b=>{ a with ft:=b }):=(Foc.via (f:=λa:aC=>(a.Score,a.al,a.mO,a.Next,a.ft)) (get':=λa=>a.ft) (ig:=λa b=>{ a with ft:=b }) (Foc.snd (Foc.snd (Foc.snd (Foc.snd (Foc.here (rI .i64)))))) (λ_=>rfl) (λ_ _=>rfl)).at rfl
def iv:aC:=⟨Mj,[],0,0,0⟩
theorem Bx:bz.ow [] [.float .f32 0,.float .f32 0,.float .f32 0,.slice none 0 0,.slice none 0 0,.slice none 0 0,.slice none 0 0,.int .i64 0,.int .i64 0,.int .i64 0] iv:=⟨[],[],[.float .f32 0,.float .f32 0,.float .f32 0,.slice none 0 0,.slice none 0 0,.slice none 0 0],_,rfl,rfl,Kn,⟨[],[],[.slice none 0 0],_,rfl,rfl,⟨none,0,0,rfl,SlO.nil⟩,⟨[],[],[.int .i64 0],_,rfl,rfl,⟨rfl,rfl⟩,⟨[],[],[.int .i64 0],_,rfl,rfl,⟨rfl,rfl⟩,⟨rfl,rfl⟩⟩⟩⟩⟩
instance adH:cJ bz 4 (rSl 135 aA) (λa=>a.Score.az) (λa b=>{ a with Score:={ a.Score with az:=b } }):=⟨Foc.at (gx.trans QR.f) rfl⟩
instance adI:cJ bz 5 (rSl 131 bF) (λa=>a.Score.bo) (λa b=>{ a with Score:={ a.Score with bo:=b } }):=⟨Foc.at (gx.trans QS.f) rfl⟩
instance adJ:cJ bz 6 (rSl 122 aQ) (λa=>a.al) (λa b=>{ a with al:=b }):=⟨Foc.at tH rfl⟩
instance adK:cJ bz 7 (rI .i64) (λa=>a.mO) (λa b=>{ a with mO:=b }):=⟨Foc.at G9 rfl⟩
instance adL:cJ bz 8 (rI .i64) (λa=>a.Next) (λa b=>{ a with Next:=b }):=⟨Foc.at xk rfl⟩
instance adM:cJ bz 9 (rI .i64) (λa=>a.ft) (λa b=>{ a with ft:=b }):=⟨Foc.at AN rfl⟩
end Go.Sx
