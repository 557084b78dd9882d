/- Lemmas. -/
import Derived.Test.YthgnpepchedpbaaGreatDoorSx1
set_option linter.unusedVariables false
set_option linter.unusedSimpArgs false
namespace Go.Sx
variable {P:Program}{τ:Static}
theorem vf{s:Sem Next}{K:Value->ab->Prop}{h:ab}(H:∀w:World,w.heap=h->∃v w',s.run P w = .ok (.value v) w'∧hZ w w'∧K v w'.heap):jt P s K h:=by
 intro w hw
 obtain⟨v,w',hr,hs,hk⟩:=H w hw
 rw[hr]
 exact⟨hs,hk⟩
theorem DM{s:Sem Next}{K:Value->ab->Prop}{h:ab}(H:∀w:World,w.heap=h->∃w',s.run P w = .ok .skip w'∧hZ w w'∧K undef w'.heap):jt P s K h:=by
 intro w hw
 obtain⟨w',hr,hs,hk⟩:=H w hw
 rw[hr]
 exact⟨hs,hk⟩
theorem zH{v:Value}{K:Value->ab->Prop}{h:ab}(hk:K v h):jt P (pure (.value v)) K h:=
 vf λw hw=>⟨v,w,rfl,hZ.refl w,by rw[hw];exact hk⟩
theorem gO{s:Sem Value}{v:Value}{K:Value->ab->Prop}{h:ab}(hs:∀w:World,w.heap=h->s.run P w = .ok v w)(hk:K v h):gC P s K h:=
 vf λw hw=>⟨v,w,by simp[hs w hw],hZ.refl w,by rw[hw];exact hk⟩
theorem pA{s:Sem Value}{K:Value->ab->Prop}{h:ab}(hs:∀w:World,w.heap=h->∃v w',s.run P w = .ok v w'∧hZ w w'∧K v w'.heap):gC P s K h:=
 vf λw hw=>by
  obtain⟨v,w',hr,h1,h2⟩:=hs w hw
  exact⟨v,w',by simp[hr],h1,h2⟩
theorem uI(w:World)(n:Nat):hZ w { w with drawn:=n }:=⟨rfl,rfl,rfl⟩
theorem GD(k:FloatKind)(q:Question)(hq:q.forced=false)(hc:∀t,vL k (q.cut t))(w:World):∃r,(choose q).run P w = .ok r { w with drawn:=w.drawn+1 }∧vL k r:=
 ⟨_,by rw[run_choose,hq];rfl,hc _⟩
theorem MU(k:FloatKind)(x y t:Nat):vL k ((Question.nanBits k x y).cut t):=by
 cases k <;> exact⟨t,rfl⟩
theorem MV(k:FloatKind)(x t:Nat):vL k ((Question.nanConv k x).cut t):=by
 cases k <;> exact⟨t,rfl⟩
def aeR(k:FloatKind)(a b:Nat)(o:Option Nat):Sem Value:=match o with | some r=>pure (.float k r) | none=>do pure (.float k (← choose (.nanBits k a b)))
theorem acp(k:FloatKind)(a b:Nat)(o:Option Nat)(w:World):
  ∃r w',(aeR k a b o).run P w = .ok (.float k r) w'∧hZ w w'∧w'.heap=w.heap∧IsF k o r:=by
 cases o with
 | some r=>exact⟨r,w,rfl,hZ.refl w,rfl,rfl⟩
 | none=>
  obtain⟨r,hr,hn⟩:=GD (P:=P) k (.nanBits k a b) rfl (MU k a b) w
  exact⟨r,{ w with drawn:=w.drawn+1 },by simp only[aeR,Sem.run_bind,hr,Result.andThen_ok,Sem.run_pure],uI w _,rfl,hn⟩
theorem H9(op:BinOp)(k:FloatKind)(a b:Nat)(o:Option Nat)(ho:(match op with | .add=>o=k.format.add a b | .sub=>o=k.format.sub a b | .mul=>o=k.format.mul a b | .quo=>o=k.format.div a b | _=>False))(w:World):
  ∃r w',(Op.floatArith op k a b).run P w = .ok (.float k r) w'∧hZ w w'∧w'.heap=w.heap∧IsF k o r:=by
 have Ql:Op.floatArith op k a b=aeR k a b o:=by
  cases op <;> simp only at ho <;> first | exact ho.elim | (rw[ho];simp only[Op.floatArith,pure_bind];rfl)
 rw[Ql]
 exact acp k a b o w
theorem TO (hτ : OkS P τ) {op : BinOp} {t : Nat} {x y : Value} {xo yo : Operand} {raw : Prop} {K : Value -> ab -> Prop} {h : ab}
    (H : KO τ op t x y raw λv => K v h) (Ue : raw -> gC P (do eqGuard op t xo yo x y; binOp op t x y) K h) :
    gC P (do eqGuard op t xo yo x y; binOp op t x y) K h := by
  unfold KO at H
  split at H
  · rename_i k a k' b
    have shl : ∀ (v : Value), (binOp op t (.int k a) (.int k' b) = pure v) -> K v h -> gC P (do eqGuard op t xo yo (.int k a) (.int k' b); binOp op t (.int k a) (.int k' b)) K h := by
      intro v hb hk
      exact gO (λw hw => by simp [hb, eqGuard_at_int]) hk
    split at H
    · obtain ⟨hn, H⟩ := H
      refine shl _ ?_ H
      simp [binOp, Op.shift, Ze, show ¬ b < 0 by omega]
    · obtain ⟨hn, H⟩ := H
      refine shl _ ?_ H
      simp [binOp, Op.shift, LW, show ¬ b < 0 by omega]
    · rename_i h1 h2
      split at H
      · rename_i e; subst e
        cases op <;> simp only at H <;> first
          | exact H.elim
          | exact absurd rfl h1
          | exact absurd rfl h2
          | (refine shl _ ?_ H; simp [binOp, Op.intArith]; done)
          | (obtain ⟨hz, H⟩ := H; refine shl _ ?_ H; simp [binOp, Op.intDiv, hz]; done)
          | (refine shl _ ?_ H; simp only [binOp_and, binOp_or, binOp_xor, binOp_andNot]; rfl)
          | (refine shl _ ?_ H; simp [binOp, Op.intCmp]; done)
      · exact H.elim
  · rename_i k a k' b
    split at H
    · rename_i e; subst e
      have pur : ∀ (v : Value), (binOp op t (.float k a) (.float k b) = pure v) -> K v h -> gC P (do eqGuard op t xo yo (.float k a) (.float k b); binOp op t (.float k a) (.float k b)) K h := by
        intro v hb hk
        exact gO (λw hw => by simp [hb, eqGuard_at_float]) hk
      have ari : ∀ (op' : BinOp) (o : Option Nat), op = op' -> (match op' with | .add => o = k.format.add a b | .sub => o = k.format.sub a b | .mul => o = k.format.mul a b | .quo => o = k.format.div a b | _ => False) -> (∀ r, IsF k o r -> K (.float k r) h) ->
          gC P (do eqGuard op t xo yo (.float k a) (.float k b); binOp op t (.float k a) (.float k b)) K h := by
        intro op' o e ho hk
        subst e
        refine pA λw hw => ?_
        obtain ⟨r, w', hr, hs, hh, hf⟩ := H9 (P := P) op k a b o ho w
        refine ⟨.float k r, w', ?_, hs, ?_⟩
        · have hb : binOp op t (.float k a) (.float k b) = Op.floatArith op k a b := by
            cases op <;> simp only at ho <;> first | exact ho.elim | simp [binOp]
          simp [eqGuard_at_float, hb, hr]
        · rw [hh, hw]; exact hk r hf
      cases op <;> simp only at H <;> first
        | exact H.elim
        | exact ari _ _ rfl rfl H
        | (refine pur _ ?_ H; simp [binOp, Op.floatCmp]; done)
    · exact H.elim
  · rename_i a b
    have pur : ∀ (v : Value), (∀ w, (binOp op t (.string a) (.string b)).run P w = .ok v w) -> K v h -> gC P (do eqGuard op t xo yo (.string a) (.string b); binOp op t (.string a) (.string b)) K h := by
      intro v hb hk
      exact gO (λw hw => by simp [hb, eqGuard_at_string]) hk
    cases op <;> simp only at H <;> first
      | exact H.elim
      | (obtain ⟨hb, H⟩ := H
         refine pur _ (λw => ?_) H
         have : ¬ ((a.size + b.size : Nat) : Int) > IntKind.i64.max := by
           have : IntKind.i64.max = 9223372036854775807 := rfl
           omega
         simp only [binOp, Op.stringOp]
         rw [if_neg this]
         rfl)
      | (refine pur _ (λw => ?_) H; simp [binOp, Op.stringOp]; done)
  · rename_i a b
    split at H
    · rename_i i hi
      obtain ⟨d, h1, h2, h3⟩ := hU hτ hi
      have hd : d = .bool := by cases d <;> simp_all [mC]
      subst hd
      cases op <;> simp only at H <;> first
        | exact H.elim
        | (refine gO (λw hw => ?_) H; simp [eqGuard_at_bool, run_eql_bool w t a b h1]; done)
        | (refine gO (λw hw => ?_) H; simp [eqGuard_at_bool, run_neq_bool w t a b h1]; done)
    · exact H.elim
  · exact Ue H
theorem Zu{op:UnOp}{x:Value}{K:Value->ab->Prop}{h:ab}(H:unI op x λv=>K v h):gC P (Op.unary op x) K h:=by
 unfold unI at H
 split at H
 ·exact gO (λw _=>rfl) H
 ·exact gO (λw _=>rfl) H
 ·exact gO (λw _=>rfl) H
 ·exact gO (λw _=>rfl) H
 ·exact H.elim
theorem PY(hτ:OkS P τ){s d:Nat}{x:Value}{raw:Prop}{K:Value->ab->Prop}{h:ab}(H:Jw τ s d x raw λv=>K v h)(Ue:raw->gC P (convert s d x) K h):gC P (convert s d x) K h:=by
 unfold Jw at H
 split at H
 ·rename_i i j hi hj
  obtain⟨di,hi1,hi2,hi3⟩:=hU hτ hi
  obtain⟨dj,hj1,hj2,hj3⟩:=hU hτ hj
  split at H
  ·rename_i k k0 n e
   have:dj = .int k:=by rw[e] at hj2;cases dj <;> simp_all [mC]
   subst this
   exact gO (λw _=>by cases di <;> simp[convert,hi3,hj3,Conv.intToInt]) H
  ·rename_i k k0 n e
   have:dj = .float k:=by rw[e] at hj2;cases dj <;> simp_all [mC]
   subst this
   exact gO (λw _=>by cases di <;> simp[convert,hi3,hj3,Conv.intToFloat]) H
  ·rename_i k q b e
   have:dj = .int k:=by rw[e] at hj2;cases dj <;> simp_all [mC]
   subst this
   refine pA λw hw=>?_
   have hc:∀w,(convert s d (.float q b)).run P w=(Conv.floatToInt q b k).run P w:=λw=>by cases di <;> simp[convert,hi3,hj3]
   rw[hc]
   have aje:∃v w',(do pure (Value.int k (k.wrap (← choose (.floatToInt q b k)))):Sem Value).run P w = .ok v w'∧hZ w w'∧w'.heap=w.heap∧∃t:Int,v = .int k (k.wrap t):=by
    refine⟨.int k (k.wrap (((Question.floatToInt q b k).cut (w.tape w.drawn (Question.floatToInt q b k)):Nat):Int)),{ w with drawn:=w.drawn+1 },?_,uI w _,rfl,_,rfl⟩
    simp only[Sem.run_bind,run_choose,Question.forced,Bool.false_eq_true,if_false,Result.andThen_ok,Sem.run_pure]
   unfold Conv.floatToInt
   cases hm:(q.decode b).toInt .zero with
   | some m=>
    simp only[]
    by_cases hr:k.min≤m∧m≤k.max
    ·rw[if_pos hr]
     exact⟨_,w,rfl,hZ.refl w,by rw[hw];exact H m (by unfold TB;rw[hm];simp[hr])⟩
    ·rw[if_neg hr]
     obtain⟨v,w',h1,h2,h3,u,rfl⟩:=aje
     exact⟨_,w',h1,h2,by rw[h3,hw];exact H _ (by unfold TB;rw[hm];simp only[];rw[if_neg hr];exact⟨u,rfl⟩)⟩
   | none=>
    obtain⟨v,w',h1,h2,h3,u,rfl⟩:=aje
    exact⟨_,w',h1,h2,by rw[h3,hw];exact H _ (by unfold TB;rw[hm];exact⟨u,rfl⟩)⟩
  ·rename_i k q b e
   have:dj = .float k:=by rw[e] at hj2;cases dj <;> simp_all [mC]
   subst this
   have hc:∀w,(convert s d (.float q b)).run P w=(Conv.floatToFloat q b k).run P w:=λw=>by cases di <;> simp[convert,hi3,hj3]
   split at H
   ·rename_i e2;subst e2
    exact gO (λw _=>by rw[hc];simp[Conv.floatToFloat]) H
   ·rename_i e2
    refine pA λw hw=>?_
    rw[hc]
    unfold Conv.floatToFloat
    rw[if_neg e2]
    unfold FFC at H
    unfold I3 at H
    cases hd:q.decode b with
    | nan s2 f=>
     rw[hd] at H
     obtain⟨r,hr,hn⟩:=GD (P:=P) k (.nanConv k b) rfl (MV k b) w
     refine⟨.float k r,{ w with drawn:=w.drawn+1 },by simp only[Sem.run_bind,hr,Result.andThen_ok,Sem.run_pure],uI w _,?_⟩
     rw[← hw] at H
     exact H r hn
    | infinity s2=>
     rw[hd] at H
     exact⟨_,w,rfl,hZ.refl w,by rw[hw];exact H _ rfl⟩
    | number s2 m2 e2'=>
     rw[hd] at H
     simp only[] at H ⊢
     split
     ·rename_i Np
      refine⟨.float k ((Question.floatToFloat b).cut (w.tape w.drawn (Question.floatToFloat b))),{ w with drawn:=w.drawn+1 },by simp only[Sem.run_bind,run_choose,Question.forced,Bool.false_eq_true,if_false,Result.andThen_ok,Sem.run_pure],uI w _,?_⟩
      rw[← hw] at H
      refine H _ ?_
      rw[if_pos Np]
      exact Nat.mod_lt _ (by decide)
     ·rename_i Np
      refine⟨_,w,rfl,hZ.refl w,?_⟩
      rw[hw]
      refine H _ ?_
      rw[if_neg Np]
  ·rename_i b e
   have:dj = .string:=by rw[e] at hj2;cases dj <;> simp_all [mC]
   subst this
   refine gO (λw _=>?_) H
   cases di <;> simp[convert,hi3,hj3]
  ·exact Ue H
 ·exact Ue H
theorem oe{v:Option Value}{d:Int}{F:Int->Prop}(h:rR v d F):∃n,F n∧((v=none∧n=d)∨∃k,v=some (.int k n)):=by
 unfold rR at h
 split at h
 ·exact⟨d,h,.inl ⟨rfl,rfl⟩⟩
 ·exact⟨_,h,.inr ⟨_,rfl⟩⟩
 ·exact h.elim
theorem run_sliceBound{k:IntKind}{n:Int}{y:Nat}{c:BoundsCode}(h0:0≤n)(h1:n≤y)(w:World):(Instr.sliceBound (.int k n) y c).run P w = .ok n.toNat w:=by
 simp[Instr.sliceBound,asIntOf,h0,h1]
theorem B0{isS:Bool}{len cap:Nat}{lo hi:Option Value}{l h:Int}(hl:(lo=none∧l=0)∨∃k,lo=some (.int k l))(hh:(hi=none∧h=len)∨∃k,hi=some (.int k h))(h0:0≤l)(h1:l≤h)(h2:h≤cap)(w:World):(Instr.sliceBounds isS len cap lo hi none).run P w = .ok (l.toNat,h.toNat,cap) w:=by
 rcases hh with⟨rfl,rfl⟩ | ⟨k,rfl⟩
 ·rcases hl with⟨rfl,rfl⟩ | ⟨k',rfl⟩
  ·simp[Instr.sliceBounds]
  ·simp[Instr.sliceBounds,run_sliceBound h0 h1]
 ·have hlh:l≤(h.toNat:Int):=by omega
  rcases hl with⟨rfl,rfl⟩ | ⟨k',rfl⟩
  ·simp[Instr.sliceBounds,run_sliceBound (show 0≤h by omega) h2]
  ·simp[Instr.sliceBounds,run_sliceBound (show 0≤h by omega) h2,run_sliceBound h0 hlh]
theorem OM(hτ:OkS P τ){t:Nat}{x:Value}{lo hi mx:Option Value}{K:Value->ab->Prop}{h:ab}(H:Hi τ t x lo hi mx λv=>K v h):gC P (Instr.sliceAt t x lo hi mx) K h:=by
 unfold Hi at H
 split at H
 ·rename_i k m
  split at H
  ·rename_i e _ _ _ b len cap k' hh Xp
   obtain⟨d,h1,h2,h3⟩:=hU hτ Xp
   have hd:d = .slice e:=by cases d <;> simp_all [mC]
   subst hd
   split at H
   ·rename_i i hi
    obtain⟨l,H,el⟩:=oe H
    obtain⟨⟨b0,b1,b2,b3⟩,H⟩:=H
    refine gO (λw _=>?_) H
    have hb:∀isS w,(Instr.sliceBounds isS len cap lo (some (.int k' hh)) (some (.int k m))).run P w = .ok (l.toNat,hh.toNat,m.toNat) w:=by
     intro isS w
     have hm:hh≤(m.toNat:Int):=by omega
     have hl:l≤(hh.toNat:Int):=by omega
     rcases el with⟨rfl,rfl⟩ | ⟨k2,rfl⟩
     ·simp[Instr.sliceBounds,run_sliceBound (show 0≤m by omega) b3,run_sliceBound (show 0≤hh by omega) hm]
     ·simp[Instr.sliceBounds,run_sliceBound (show 0≤m by omega) b3,run_sliceBound (show 0≤hh by omega) hm,run_sliceBound b0 hl]
    simp[Instr.sliceAt,Instr.slice,h3,hb,iI hτ hi,slA]
   ·exact H.elim
  ·exact H.elim
 ·exact H.elim
 ·split at H
  ·rename_i s Xp
   obtain⟨d,h1,h2,h3⟩:=hU hτ Xp
   have hd:d = .string:=by cases d <;> simp_all [mC]
   subst hd
   obtain⟨l,H,el⟩:=oe H
   obtain⟨hh,H,eh⟩:=oe H
   obtain⟨⟨b0,b1,b2⟩,H⟩:=H
   exact gO (λw _=>by simp[Instr.sliceAt,Instr.slice,h3,B0 el eh b0 b1 b2]) H
  ·rename_i e _ _ _ b len cap Xp
   obtain⟨d,h1,h2,h3⟩:=hU hτ Xp
   have hd:d = .slice e:=by cases d <;> simp_all [mC]
   subst hd
   split at H
   ·rename_i i hi
    obtain⟨l,H,el⟩:=oe H
    obtain⟨hh,H,eh⟩:=oe H
    obtain⟨⟨b0,b1,b2⟩,H⟩:=H
    refine gO (λw _=>?_) H
    simp[Instr.sliceAt,Instr.slice,h3,B0 el eh b0 b1 b2,iI hτ hi,slA]
   ·exact H.elim
  ·rename_i n e _ _ _ a Xp
   obtain⟨d,h1,h2,h3⟩:=hU hτ Xp
   have hd:d = .array n e:=by cases d <;> simp_all [mC]
   subst hd
   split at H
   ·rename_i i hi
    obtain⟨l,H,el⟩:=oe H
    obtain⟨hh,H,eh⟩:=oe H
    obtain⟨⟨b0,b1,b2⟩,H⟩:=H
    refine gO (λw _=>?_) H
    simp[Instr.sliceAt,h3,Instr.sureAddr,B0 el eh b0 b1 b2,iI hτ hi,slP]
   ·exact H.elim
  ·exact H.elim
variable {P:Program}{τ:Static}
theorem C6:∀(cs:List Value) (off k:Nat) (cells:Array Value),off+k+cs.length≤cells.size ->
  ((cs.zipIdx k).foldl (λacc (x:Value×Nat)=>acc.setIfInBounds (off+x.2) x.1) cells).toList=cells.toList.take (off+k)++(cs++cells.toList.drop (off+k+cs.length))
 | [],off,k,cells,_=>by simp
 | c :: cs,off,k,cells,h=>by
  simp only[List.length_cons] at h
  rw[List.zipIdx_cons,List.foldl_cons,C6 cs off (k+1) _ (by simp;omega)]
  simp only[Array.toList_setIfInBounds]
  rw[← Nat.add_assoc]
  have hl:off+k<cells.toList.length:=by simp;omega
  rw[List.take_succ_eq_append_getElem (by simpa using hl),List.getElem_set_self,List.take_set_of_le (by omega),List.drop_set_of_lt (by omega)]
  simp only[List.append_assoc,List.cons_append,List.nil_append,List.length_cons]
  rw[show off+k+1+cs.length=off+k+(cs.length+1) from by omega]
theorem D8{v:Value}(h:∀cs,v≠.agg cs):v.cells = #[v]:=by
 cases v <;> first | rfl | exact absurd rfl (h _)
theorem JC{pl:Nat->Option (Nat×Nat)}(cells:Array Value)(i:Nat)(v:Value)(rest:List (Nat×Value)){off size:Nat}(hp:pl i=some (off,size))(h1:v.cells.size=size)(h2:off+size≤cells.size):
  Instr.fill pl cells ((i,v) :: rest)=Instr.fill pl (v.cells.zipIdx.foldl (λcs (c,j)=>cs.setIfInBounds (off+j) c) cells) rest:=by
 rw[Instr.fill,hp]
 simp only[h1]
 rw[if_neg (by simp;omega)]
theorem C0{pl:Nat->Option (Nat×Nat)}{n0:Nat}:∀(parts:List (Nat×Value)) (cells:List Value) (F:List Value->Prop),cells.length=n0->yp pl n0 parts cells F ->
  ∃WB,Instr.fill pl ⟨cells⟩ parts=some ⟨WB⟩∧F WB
 | [],cells,F,_,h=>⟨cells,rfl,h⟩
 | (i,v) :: rest,cells,F,hn,h=>by
  unfold yp at h
  split at h
  ·exact h.elim
  ·rename_i off size hp
   cases hb:Nat.ble (off+size) n0 with
   | false=>rw[hb] at h;exact h.elim
   | true=>
    rw[hb] at h
    simp only[cond_true] at h
    rw[Nat.ble_eq] at hb
    split at h
    ·rename_i cs
     obtain⟨hs,h⟩:=h
     have hl:(eE off size cs cells).length=n0:=by
      simp[eE,List.length_take,List.length_drop,hs];omega
     obtain⟨c',h1,h2⟩:=C0 rest _ F hl h
     refine⟨c',?_,h2⟩
     rw[JC ⟨cells⟩ i (.agg cs) rest hp hs (by show off+size≤cells.length;omega),← h1]
     congr 1
     apply Array.toList_inj.1
     simp only[Value.cells]
     rw[← Array.foldl_toList,Array.toList_zipIdx,C6 cs.toList off 0 ⟨cells⟩ (by show off+0+cs.toList.length≤cells.length;rw[Array.length_toList];omega)]
     simp[eE,hs]
    ·rename_i VI
     cases h1':Nat.beq size 1 with
     | false=>rw[h1'] at h;exact h.elim
     | true=>
      rw[h1'] at h
      simp only[cond_true] at h
      rw[Nat.beq_eq] at h1'
      subst h1'
      obtain⟨c',h1,h2⟩:=C0 rest _ F (by simpa using hn) h
      refine⟨c',?_,h2⟩
      have hvc:v.cells = #[v]:=D8 (λcs e=>VI cs e)
      rw[JC ⟨cells⟩ i v rest hp (by rw[hvc];rfl) (by show off+1≤cells.length;omega),← h1,hvc]
      congr 1
      apply Array.toList_inj.1
      rw[← Array.foldl_toList]
      simp
theorem As{α β:Type}(g:α->Sem β)(g':α->β)(w:World):∀l:List α,(∀a ∈ l,(g a).run P w = .ok (g' a) w)->(l.mapM g).run P w = .ok (l.map g') w
 | [],_=>rfl
 | a :: l,h=>by
  rw[List.mapM_cons]
  simp[h a (List.mem_cons_self ..),As g g' w l (λb hb=>h b (List.mem_cons_of_mem _ hb))]
theorem Ha{α β:Type}(g:α->Sem β)(g':α->β)(w:World)(l:Array α)(h:∀a ∈ l,(g a).run P w = .ok (g' a) w):(l.mapM g).run P w = .ok (l.map g') w:=by
 rw[Array.mapM_eq_mapM_toList]
 rw[Sem.run_map,As g g' w l.toList (λa ha=>h a (by simpa using ha))]
 show Result.ok (l.toList.map g').toArray w=_
 rw[← Array.toList_map,Array.toArray_toList]
theorem BN(w:World)(o:Obj):hZ w { w with heap:=w.heap.push o }:=⟨rfl,rfl,rfl⟩
theorem V3(hτ:OkS P τ){o:Oper}{t:Nat}{parts:Array (Nat×Operand)}(ho:o.op = .build t parts){ev:Operand->Value}{K:Value->ab->Prop}{h:ab}(H:opI P τ o ev K h):
  gC P (Instr.build t (parts.map λ(i,x)=>(i,ev x))) K h:=by
 unfold opI at H
 rw[ho] at H
 simp only[] at H
 have Gj:(parts.map λ(i,x)=>(i,ev x)).toList=parts.toList.map λp=>(p.1,ev p.2):=by simp
 split at H
 ·rename_i fs n b z hi
  obtain⟨d,h1,h2,h3⟩:=hU hτ hi
  cases hz:z.isEmpty || !(fs.all λf=>(ti τ f.1).isSome) with
  | true=>rw[hz] at H;exact H.elim
  | false=>
   rw[hz] at H
   simp only[cond_false] at H
   rw[Bool.or_eq_false_iff] at hz
   obtain⟨Ll,HQ⟩:=hz
   obtain⟨zv,VM,hzr⟩:=yT hτ hi (by intro e;simp only at e;rw[e] at Ll;cases Ll)
   simp only at VM
   obtain⟨xu,rfl,hfl⟩:∃xu:Array Field,d = .struct xu∧xu.toList.map (λf=>(f.type,f.offset))=fs:=by
    cases d <;> simp_all [mC]
   obtain⟨c',hc1,hc2⟩:=C0 _ _ _ rfl H
   refine gO (λw _=>?_) hc2
   have hall:∀f ∈ xu,∃j,ti τ f.type=some j:=by
    intro f hf
    have:(f.type,f.offset) ∈ fs:=by rw[← hfl];exact List.mem_map.2 ⟨f,by simpa using hf,rfl⟩
    have ape:(fs.all λf=>(ti τ f.1).isSome)=true:=by simpa using HQ
    have:=(List.all_eq_true.1 ape) _ this
    exact Option.isSome_iff_exists.1 this
   have hpl:(xu.mapM λf=>do pure (f.offset,← sizeOf f.type):Sem (Array (Nat×Nat))).run P w = .ok (xu.map λf=>(f.offset,((ti τ f.type).map (·.size)).getD 0)) w:=by
    refine Ha _ _ w xu λf hf=>?_
    obtain⟨j,hj⟩:=hall f hf
    simp[iI hτ hj,hj]
   have Xo:Instr.fill ((xu.map λf=>(f.offset,((ti τ f.type).map (·.size)).getD 0))[·]?) zv.cells (parts.map λ(i,x)=>(i,ev x)).toList=some ⟨c'⟩:=by
    rw[Gj,← hc1]
    have hp:((xu.map λf=>(f.offset,((ti τ f.type).map (·.size)).getD 0))[·]?)=SC τ fs:=by
     funext i
     unfold SC
     rw[← hfl]
     simp only[Array.getElem?_map,List.getElem?_map,Array.getElem?_toList]
     cases hf:xu[i]? with
     | none=>rfl
     | some f=>
      obtain⟨j,hj⟩:=hall f (Array.mem_of_getElem? hf)
      simp[hj]
    rw[hp]
    congr 1
    exact Array.toList_inj.1 VM
   simp only[Instr.build,Sem.run_bind,hzr,Result.andThen_ok,h3,hpl]
   rw[Xo]
   rfl
 ·rename_i n e sz b z hi
  obtain⟨d,h1,h2,h3⟩:=hU hτ hi
  have hd:d = .array n e:=by cases d <;> simp_all [mC]
  subst hd
  split at H
  ·rename_i j hj
   cases hz:z.isEmpty with
   | true=>rw[hz] at H;exact H.elim
   | false=>
    rw[hz] at H
    simp only[cond_false] at H
    obtain⟨zv,VM,hzr⟩:=yT hτ hi (by intro e;simp only at e;rw[e] at hz;cases hz)
    simp only at VM
    obtain⟨c',hc1,hc2⟩:=C0 _ _ _ rfl H
    refine gO (λw _=>?_) hc2
    have Xo:Instr.fill (λi=>some (i*j.size,j.size)) zv.cells (parts.map λ(i,x)=>(i,ev x)).toList=some ⟨c'⟩:=by
     rw[Gj,← hc1]
     congr 1
     exact Array.toList_inj.1 VM
    simp only[Instr.build,Sem.run_bind,hzr,Result.andThen_ok,h3,iI hτ hj]
    rw[Xo]
    rfl
  ·exact H.elim
 ·exact H.elim
theorem GK(hτ:OkS P τ){o:Oper}{t len:Nat}{parts:Array (Nat×Operand)}(ho:o.op = .buildSlice t len parts){ev:Operand->Value}{K:Value->ab->Prop}{h:ab}(H:opI P τ o ev K h):
  gC P (Instr.buildSlice t len (parts.map λ(i,x)=>(i,ev x))) K h:=by
 unfold opI at H
 rw[ho] at H
 simp only[] at H
 have Gj:(parts.map λ(i,x)=>(i,ev x)).toList=parts.toList.map λp=>(p.1,ev p.2):=by simp
 split at H
 ·rename_i e sz b z hi
  obtain⟨d,h1,h2,h3⟩:=hU hτ hi
  have hd:d = .slice e:=by cases d <;> simp_all [mC]
  subst hd
  split at H
  ·rename_i j hj
   cases hc:Nat.ble (len*j.size) 16777216&&(Nat.beq (len*j.size) 0 || !j.zero.isEmpty) with
   | false=>rw[hc] at H;exact H.elim
   | true=>
    rw[hc] at H
    simp only[cond_true] at H
    rw[Bool.and_eq_true,Nat.ble_eq] at hc
    obtain⟨hle,hzz⟩:=hc
    obtain⟨c',hc1,hc2⟩:=C0 _ _ _ (by simp[DY]) H
    refine pA λw hw=>?_
    refine⟨.slice (some ⟨w.heap.size,0,none⟩) len len,{ w with heap:=w.heap.push (.cells ⟨c'⟩ e) },?_,BN w _,by rw[hw];exact hc2⟩
    simp only[Instr.buildSlice,Sem.run_bind,h3,Result.andThen_ok,iI hτ hj]
    rw[if_neg (by omega)]
    have gen:∀(l:List Value) (i:Nat) (hi:i<l.length),ah l i=l[i]:=by
     intro l
     induction l with
     | nil=>intro i hi;simp at hi
     | cons a l ih=>intro i hi;cases i with
      | zero=>rfl
      | succ i=>exact ih i (by simpa using hi)
    by_cases h0:len*j.size=0
    ·rw[if_pos h0]
     simp only[pure_bind]
     have HQ:((Array.range (len*j.size)).map λx=>(#[]:Array Value)[x % (#[]:Array Value).size]!)=⟨DY j (len*j.size)⟩:=by rw[h0,Array.range_zero'];apply Array.toList_inj.1;simp[DY]
     rw[HQ,Gj,hc1]
     rfl
    ·rw[if_neg h0]
     have By:j.zero≠[]:=by
      intro e0
      rw[e0] at hzz
      simp at hzz
      omega
     obtain⟨zv,VM,hzr⟩:=yT hτ hj By
     have HQ:((Array.range (len*j.size)).map λx=>zv.cells[x % zv.cells.size]!)=⟨DY j (len*j.size)⟩:=by
      apply Array.toList_inj.1
      simp only[DY,Array.toList_map,Array.toList_range]
      refine List.map_congr_left λx _=>?_
      rw[← VM]
      have Dp:0<zv.cells.size:=by
       have:0<j.zero.length:=List.length_pos_iff.2 By
       rw[← VM] at this
       simpa using this
      have qR:x % zv.cells.size<zv.cells.size:=Nat.mod_lt _ Dp
      rw[Array.length_toList,gen _ _ (by simpa using qR)]
      simp[getElem!_pos,qR]
     simp only[Sem.run_bind,hzr,Result.andThen_ok,pure_bind]
     rw[HQ,Gj,hc1]
     rfl
  ·exact H.elim
 ·exact H.elim
end Go.Sx
