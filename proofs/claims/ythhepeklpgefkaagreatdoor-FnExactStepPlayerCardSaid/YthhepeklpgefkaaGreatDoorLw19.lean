/- Lemmas. -/
import Derived.Test.YthhepeklpgefkaaGreatDoorLk58
import Derived.Test.YthhepeklpgefkaaGreatDoorLmt
import Derived.Test.YthhepeklpgefkaaGreatDoorLh7
import Derived.Test.YthhepeklpgefkaaGreatDoorH1
import Derived.Test.YthhepeklpgefkaaGreatDoorLk51
import Derived.Test.YthhepeklpgefkaaGreatDoorStepPlayer
import Derived.Test.YthhepeklpgefkaaGreatDoorLh4
import Derived.Test.YthhepeklpgefkaaGreatDoorTab
import Derived.Test.YthhepeklpgefkaaGreatDoorLp4
import Derived.Test.YthhepeklpgefkaaGreatDoorLr3
import Derived.Test.YthhepeklpgefkaaGreatDoorLr7
set_option linter.unusedVariables false
set_option linter.unusedSimpArgs false
namespace Go.Sx
open Go.Proofs
set_option maxRecDepth 100000
set_option maxHeartbeats 1000000
theorem I8{α:Type}[Inhabited α]{n:α->Nat}{m:Nat}:∀{xs:List α},(∀i,i<xs.length->n xs[i]! ≤ m)->nL n xs≤xs.length*m
 | [],_=>by simp[nL]
 | x :: xs,h=>by
  have h1:=h 0 (by simp)
  have h2:=I8 (n:=n) (m:=m) (xs:=xs) λi hi=>by have:=h (i+1) (by simpa using hi);simpa using this
  have h3:n x≤m:=by simpa using h1
  simp only[nL,List.length_cons,Nat.add_mul];omega
theorem ajg{s:cA}(h:s.ok=true):kz s≤1000:=by
 obtain⟨z1,z2,z3⟩:=Ei h
 have hi:BZ s.aI=true:=by
  unfold cA.ok at h
  simp only[Bool.and_eq_true] at h
  exact h.1.2.2
 have hn:∀i,i<s.aI.length->iZ s.aI[i]! ≤ 12:=λi hi'=>by
  have h1:=List.all_eq_true.1 hi i (List.mem_range.2 hi')
  unfold sU at h1
  rw[Bool.and_eq_true] at h1
  have h2:=h1.1
  unfold bA.ok Ac at h2
  simp only[Bool.and_eq_true,inR,decide_eq_true_eq] at h2
  have h3:=h2.1.1.1.2
  show s.aI[i]!.Name.size≤12
  omega
 have h4:=I8 hn
 unfold kz ez ka jv cD
 omega
set_option maxHeartbeats 4000000
theorem ajf{x:bP}{p f:Nat}:iQ (x.kG p f).1≤iQ x:=by
 unfold bP.kG
 split
 ·split
  ·split
   ·show (chg _ _ _).af.length≤x.Loop.af.length
    rw[EN];exact Nat.le_refl _
   ·exact Nat.zero_le _
  ·exact Nat.zero_le _
 ·exact Nat.zero_le _
theorem W5{p m l:Nat}:iQ (cT p m l).1≤1024:=by
 unfold cT
 split
 ·next h1=>
  split
  ·next h2=>
   split
   ·obtain⟨_,_,_,_,_,_,_,h⟩:=NL (l:=l) h1 h2
    show (List.replicate (Dd p m) 0).length≤_
    rw[List.length_replicate];exact h
   ·exact Nat.zero_le _
  ·exact Nat.zero_le _
 ·exact Nat.zero_le _
theorem aca{n:Int}{op:Bool}{k l:Nat}:o4 (gh n op k l).1≤2050:=by
 unfold gh rl
 split
 ·next h=>
  simp only[inR,Bool.and_eq_true,decide_eq_true_eq] at h
  show du [Ee n]+du [Ee n]+cD []≤_
  have e:gW (Ee n)=n.toNat:=by show (List.replicate n.toNat 0).length=_;rw[List.length_replicate]
  unfold du nL nL
  rw[e]
  show (1+(n.toNat+0))+(1+(n.toNat+0))+0≤_
  omega
 ·exact Nat.zero_le _
theorem ag7{p:Int}{k l s:Nat}:vl (gU p k l s).1≤2048:=by
 unfold gU
 split
 ·next h=>
  simp only[inR,Bool.and_eq_true,decide_eq_true_eq] at h
  split
  ·split
   ·split
    ·show (List.replicate (p-qF p).toNat 0).length+(List.replicate (qF p).toNat 0).length≤_
     rw[List.length_replicate,List.length_replicate]
     unfold qF
     split <;> omega
    ·exact Nat.zero_le _
   ·exact Nat.zero_le _
  ·exact Nat.zero_le _
 ·exact Nat.zero_le _
theorem acb{s:cA}{e:bf}:j0 (WO (iE s e))≤4096:=by
 have z1:iQ ff=0:=rfl
 have z2:o4 lv=0:=rfl
 have z3:vl mD=0:=rfl
 have no:j0 (WO none)≤4096:=Nat.zero_le _
 unfold iE
 dsimp only
 split
 ·split
  ·split
   ·split
    ·refine Nat.le_trans (Nat.add_le_add_right (Nat.add_le_add_right ajf _) _) ?_
     refine Nat.le_trans (Nat.add_le_add_right (Nat.add_le_add_right W5 _) _) ?_
     show 1024+o4 lv+vl mD≤_
     omega
    ·exact no
   ·exact no
  ·split
   ·split
    ·refine Nat.le_trans (Nat.add_le_add_right (Nat.add_le_add_left aca _) _) ?_
     show iQ ff+2050+vl mD≤_
     omega
    ·exact no
   ·split
    ·refine Nat.le_trans (Nat.add_le_add_left ag7 _) ?_
     show iQ ff+o4 lv+2048≤_
     omega
    ·exact no
 ·exact no
set_option maxHeartbeats 1000000
def Wb(v:aJ):Prop:=iQ v.String≤7000∧o4 v.aP≤7000∧vl v.cz≤7000
def ay.Wb(p:ay):Prop:=∀v ∈ p.al,Go.Sx.Wb v
theorem Lt{r:bc}(h:r.ok=true):gW r≤1024:=by have:=mH h;show r.af.length≤1024;omega
theorem W6{rs:List bc}{n:Nat}(h:∀r ∈ rs,r.ok=true)(hn:rs.length≤n):du rs≤n*1025:=by
 have:=I8 (n:=gW) (m:=1024) (xs:=rs) λi hi=>Lt (h _ (jT hi))
 unfold du
 have h2:rs.length*1025≤n*1025:=Nat.mul_le_mul_right _ hn
 omega
theorem aa4{x:cF}(R:x.mi):o4 x≤7000:=by
 have h1:=W6 R.r R.n3
 have h2:=W6 R.l (by rw[R.ll];exact R.n3)
 have h3:=R.sl
 have h4:=R.n3
 have h5:cD x.aG=x.aG.length:=rfl
 have h6:o4 x=du x.aY+du x.Left+cD x.aG:=rfl
 omega
theorem ag9{x:jh}(h:x.ok=true):vl x≤7000:=by
 obtain⟨h1,h2⟩:=xj h
 have:=Lt h1
 have:=Lt h2
 have h6:vl x=gW x.bX+gW x.aK:=rfl
 omega
theorem R8{x:bP}(h:x.Loop.ok=true):iQ x≤7000:=by
 have:=Lt h
 have h6:iQ x=gW x.Loop:=rfl
 omega
theorem ajh:Wb Mg:=⟨Nat.zero_le _,Nat.zero_le _,Nat.zero_le _⟩
theorem agb{k:Int}{v:aJ}(B:gz k v)(W:Wb v):Wb (v.sound k).1:=by
 have B':=Cy B
 obtain⟨w1,w2,w3⟩:=W
 unfold gz at B'
 by_cases k1:k=1
 ·subst k1
  exact ⟨R8 B',w2,w3⟩
 rw[if_neg k1] at B'
 by_cases k2:k=2
 ·subst k2
  exact ⟨w1,aa4 B',w3⟩
 rw[if_neg k2] at B'
 rw[Tq v k1 k2] at B' ⊢
 exact ⟨w1,w2,ag9 B'⟩
theorem aji{s:cA}{v:aJ}(W:Wb v):Wb (tx s v):=by
 unfold tx
 split <;> exact W
theorem aof{s:cA}{e:bf}{v:aJ}(h:iE s e=some v):Wb v:=by
 have:=acb (s:=s) (e:=e)
 rw[h] at this
 have h1:iQ v.String+o4 v.aP+vl v.cz≤4096:=this
 exact ⟨by omega,by omega,by omega⟩
theorem ajj{p:ay}(W:p.Wb):p.next.Wb:=by
 unfold ay.next ay.vQ
 intro v hv
 split at hv
 ·cases ho:iE p.Score p.Score.aU[p.Next.toNat]! with
  | none=>rw[ho] at hv;exact W v hv
  | some w=>
   rw[ho] at hv
   rcases List.mem_or_eq_of_mem_set hv with hv | rfl
   ·exact W v hv
   ·exact aof ho
 ·obtain⟨u,hu,rfl⟩:=List.mem_map.1 hv
  unfold k9
  split
  ·exact aji (W u hu)
  ·exact W u hu
theorem aga:∀(k:Nat){p:ay},p.Wb->(ay.run k p).Wb
 | 0,p,W=>W
 | k+1,p,W=>by
  unfold ay.run
  split
  ·exact aga k (ajj W)
  ·exact W
theorem ajk{p:ay}(R:p.mi)(W:p.Wb):p.step.1.Wb:=by
 obtain⟨R',_⟩:=NA (p.Score.aU.length-p.Next.toNat) R
 have W':=aga (p.Score.aU.length-p.Next.toNat) W
 unfold ay.step
 generalize ay.run (p.Score.aU.length-p.Next.toNat) p=w at *
 intro v hv
 obtain⟨u,hu,rfl⟩:=List.mem_map.1 hv
 unfold D9
 split
 ·exact W' u hu
 ·next hn=>
  split
  ·exact ajh
  ·exact agb ((R'.v u hu).resolve_left hn).choose_spec.2.2.2.2.2 (W' u hu)
theorem asR{p:ay}(h:p.ok=true):p.Wb:=λv hv=>by
 have z1:iQ ff≤7000:=Nat.zero_le _
 have z2:o4 lv≤7000:=Nat.zero_le _
 have z3:vl mD≤7000:=Nat.zero_le _
 have h:=QY h hv
 unfold kv at h
 split at h
 ·unfold DI at h
  simp only[Bool.and_eq_true,jg] at h
  obtain⟨⟨⟨⟨⟨⟨h1,h2⟩,h3⟩,_⟩,_⟩,_⟩,_⟩:=h
  exact ⟨by rw[h1];exact z1,by rw[h2];exact z2,by rw[h3];exact z3⟩
 ·split at h
  ·cases h
  ·simp only[Bool.and_eq_true] at h
   have hr:=PZ h.2
   have hb:=h.2
   unfold pB at hb
   split at hb
   ·next k=>
    simp only[Bool.and_eq_true,jg] at hb
    obtain⟨⟨h1,h2⟩,h3⟩:=hb
    unfold bP.ok at h1
    simp only[Bool.and_eq_true] at h1
    exact ⟨R8 h1.1.1.1,by rw[h2];exact z2,by rw[h3];exact z3⟩
   ·split at hb
    ·simp only[Bool.and_eq_true,jg] at hb
     obtain⟨⟨h1,h2⟩,h3⟩:=hb
     exact ⟨by rw[h1];exact z1,aa4 (QF h2),by rw[h3];exact z3⟩
    ·simp only[Bool.and_eq_true,jg] at hb
     obtain⟨⟨h1,h2⟩,h3⟩:=hb
     exact ⟨by rw[h1];exact z1,by rw[h2];exact z2,ag9 h3⟩
theorem aod{p:ay}(R:p.mi)(W:p.Wb):lh p≤1048576:=by
 have h1:=ajg R.s
 have n6:=R.n6
 have hv:=I8 (n:=j0) (m:=21000) (xs:=p.al) λi hi=>by
  obtain⟨w1,w2,w3⟩:=W _ (jT hi)
  show iQ _+o4 _+vl _≤_
  omega
 have h2:p.al.length*21000≤6*21000:=Nat.mul_le_mul_right _ n6
 show kz p.Score+(p.al.length+nL j0 p.al)≤_
 omega
theorem aoe:lh EG≤1048576:=by decide
theorem TA{p:ay}:lh p.jS.1≤1048576:=by
 unfold ay.jS
 split
 ·next k=>
  have ok:p.ok=true:=by
   unfold ay.may at k
   split at k
   ·assumption
   ·cases k
  obtain⟨R,_⟩:=AT ok
  exact aod (Yu R) (ajk R (asR ok))
 ·exact aoe
theorem afI{hb h:ab}{L:List Blk}{y z a:Nat}{Pf X:ab->Prop}(M:Mem hb h L)(hy:FW .f32 y a)(hz:FW .f32 z a)(H:∀h',Mem hb h' L->X h'):FFC .f32 y .f64 λr1=>FFC .f32 z .f64 λr2=>ae ai bS #[.float .f64 r1,.float .f64 r2] (λq h'=>asB q λb=>BIF (!b) (Pf h') (X h')) h:=
 cK hy λr1 k1=>cK hz λr2 k2=>goM M (jU k1 k2 _) λh' M=>bd (dp rfl (H h' M))
theorem PFI.go{P:Program}{f:FuncId}{args:Array Value}{r:ay×Nat×Int}{hb h:ab}{L:List Blk}{K:Value->ab->Prop}(M:Mem hb h L)(c:ae P f args (λu h'=>PFI h h' u r) h)(H:∀h' cs B y,Mem hb h' (B++L)->aR.ow B cs.toList r.1->cs.size=aR.sz->FW .f32 y r.2.1->K (.tuple ⟨[.agg cs,.float .f32 y,.int .i64 r.2.2]⟩) h'):ae P f args K h:=
 c.mono λu h' ⟨cs,B,y,e,O,hy,N⟩=>by subst e;exact H h' cs B y (M.join N) O (by simpa using aR.kF O) hy
section
variable {h:ab}
theorem Fo{cs:Array Value}{x:ay}(R0:aR.rd h cs.toList x):ae ai pW #[.agg cs] (λu h'=>u = .bool true∧Ext h h') h:=by
 refine bE.call ((Mem.start h).alc λg1 h1 x1 M=>M.cM .here (rsz R0 rfl) (goM M (VO (aR.ext M.ext R0) 1048576 (by omega):ae ai qw #[.agg cs,.int .i64 (1048576:Int)] _ _) λh2 M=>cX (br (λhb=>⟨rfl,M.ext⟩) λhb=>?_)))
 have hw:lh x≤1048576:=by
  unfold yN at hb
  split at hb
  ·simp at hb
  ·omega
 have hw':lh x.jS.1≤1048576:=TA
 have hn:=Qz x
 have hn':=Qz x.jS.1
 refine M.cM .here (rsz R0 rfl) (gw.go M (zp (aR.ext M.ext R0) hw) λh3 c3 B3 M O3 s3=>fe ?_)
 refine PFI.go M (Iu (aR.look O3 M (List.sublist_append_left _ _))) λh4 c4 B4 y4 M O4 s4 hy4=>ac5 (fe (dv (cX (M.alc λDK h5 x5 M=>M.dy .here s4 (aR.iH O4) rfl .here λh6 M=>?_))))
 have M:=M.cnt (W:=(g1,kT,cs) :: (DK,aE,c4) :: B4)
 refine M.cM .here (rsz R0 rfl) (gw.go M (zp (aR.ext M.ext R0) hw) λh7 c7 B7 M O7 s7=>fe (M.alc λg24 h8 x8 M=>M.dy .here s7 (aR.iH O7) rfl .here λh9 M=>M.cM .here s7 ?_))
 refine PFI.go M (yZ (aR.look O7 M ((List.sublist_append_left _ _).trans (List.sublist_cons_self _ _)))) λgd c10 B10 y10 M O10 s10 aqI=>ac5 (fe (dv (cX (M.alc λg34 kc x11 M=>M.dy .here s10 (aR.iH O10) rfl .here λiG M=>M.cM .here s10 ?_))))
 have M:=M.cnt (W:=(g1,kT,cs) :: (DK,aE,c4) :: (g24,aE,c7) :: (g34,aE,c10) :: (B4++(B7++B10)))
 have rdA:∀{hh:ab}{W B:List Blk}{c:Array Value}{y:ay},Mem h hh W->(∀p,Sx.cnt p B≤Sx.cnt p W)->aR.ow B c.toList y->aR.rd hh c.toList y:=λM hc O=>aR.look O (M.cnt hc) (List.Sublist.refl _)
 have rdR:∀{hh:ab}{W B:List Blk}{c:Array Value}{y:ay},Mem h hh W->(∀p,Sx.cnt p B≤Sx.cnt p W)->aR.ow B c.toList y->aR.rd hh c.toList y:=λM hc O=>aR.look O (M.cnt hc) (List.Sublist.refl _)
 refine M.cM (.there .here) s4 (goM M (yU (rdR M (λp=>by simp only[bO,bz,cg] at *;omega) O10) (rdR M (λp=>by simp only[bO,bz,cg] at *;omega) O4)) λgf M=>bd (Sa rfl (afI M aqI hy4 λalw M=>eqB ?_)))
 have R7:aR.rd alw c7.toList x:=rdA M (λp=>by simp only[bO,bz,cg] at *;omega) O7
 have P7:RdP aR alw ⟨g24,0,none⟩ x:=M.rdp (.there (.there .here)) R7
 refine M.cM (.there (.there .here)) s7 (M.cM .here (rsz R0 rfl) (gw.go (Mem.start alw) (zp (aR.ext M.ext R0) hw) λke c14 B14 N O14 s14=>fe (P7.pin rfl N.ext ?_)))
 have M:=M.join N
 refine goM M (yU (aR.ext N.ext R7) (rdA M (λp=>by simp only[bO,bz,cg] at *;omega) O14)) λkB M=>bd (Sa rfl ?_)
 have M:=M.cnt (W:=B7++((g1,kT,cs) :: (DK,aE,c4) :: (g24,aE,c7) :: (g34,aE,c10) :: (B4++B10)))
 refine M.cM (iR.skip (.there (.there .here))) s7 (akv (FZ O7 M 1 hw (by omega):ae ai km #[.agg c7,.int .i64 (1:Int)] _ _) λiJ B16 M O16=>cX (adx (by omega) ?_))
 refine M.cM (iR.skip (.there (.there (.there .here)))) s10 (M.cM (iR.skip (.there .here)) s4 (goM M (yU (rdR M (λp=>by simp only[bO,bz,cg] at *;omega) O10) (rdR M (λp=>by simp only[bO,bz,cg] at *;omega) O4)) λoZ M=>bd (Sa rfl (afI M aqI hy4 λaDg M=>eqB ?_))))
 have M:=M.cnt (W:=B10++((g1,kT,cs) :: (DK,aE,c4) :: (g34,aE,c10) :: B4))
 refine M.cM (iR.skip (.there (.there .here))) s10 (akv (FZ O10 M 1 hw' (by omega):ae ai km #[.agg c10,.int .i64 (1:Int)] _ _) λjn B18 M O18=>cX ?_)
 refine M.cM (iR.skip (.there (.there .here))) s10 (goM M (FY 1 (aR.look O18 M (List.sublist_append_left _ _)) hw' (by omega):ae ai kj #[.agg c10,.int .i64 (1:Int)] _ _) λtz M=>cX (adx (by omega) (eqB ?_)))
 refine M.cM (iR.skip .here) (rsz R0 rfl) (gw.go M (zp (aR.ext M.ext R0) hw) λjZ c20 B20 M O20 s20=>fe ?_)
 refine PFI.go M (yZ (aR.look O20 M (List.sublist_append_left _ _))) λqz c21 B21 y21 M O21 s21 axf=>ac5 (fe (dv (cX (M.alc λg77 rM x22 M=>M.dy .here s21 (aR.iH O21) rfl .here λmZ M=>M.cM .here s21 ?_))))
 have M:=M.cnt (W:=(DK,aE,c4) :: (g34,aE,c10) :: (B21++(B18++B4)))
 refine M.cM .here s4 (goM M (yU (rdR M (λp=>by simp only[bO,bz,cg] at *;omega) O21) (rdR M (λp=>by simp only[bO,bz,cg] at *;omega) O4)) λD6 M=>bd (Sa rfl (afI M axf hy4 λaDh M=>eqB ?_)))
 refine M.cM (.there .here) s10 (goM M (FY 1 (rdR M (λp=>by simp only[bO,bz,cg] at *;omega) O18) hw' (by omega):ae ai kj #[.agg c10,.int .i64 (1:Int)] _ _) λoJ M=>cX (adx (by omega) (eqB ⟨rfl,M.ext⟩)))
end
theorem yp:mG ai bo (([bI]++([cp]))):=mw (λp=>⟨p.1,p.2⟩) (λ_=>rfl) (cL (uZ (n:=9) (wG) (by kernel_rfl) (by kernel_rfl) (fC iq)) ((kr jE)))
theorem wW:mG ai bQ (([cp]++(((List.replicate 3 [au]).flatten)++(((List.replicate 2 [au]).flatten))))):=mw (λp=>⟨p.1,p.2.1,p.2.2⟩) (λ_=>rfl) (cL (kr jE) (cL (QC 3 (fC iq)) ((QC 2 (fC iq)))))
theorem Y5:mG ai ck (([oh]++([oh]++([bI]++(([cp]++(((List.replicate 3 [au]).flatten)++(((List.replicate 2 [au]).flatten))))++([IS]++([au]++([au]++([au]))))))))):=mw (λp=>⟨p.1,p.2.1,p.2.2.1,p.2.2.2.1,p.2.2.2.2.1,p.2.2.2.2.2.1,p.2.2.2.2.2.2.1,p.2.2.2.2.2.2.2⟩) (λ_=>rfl) (cL (uZ (n:=9) (Ds) (by kernel_rfl) (by kernel_rfl) yp) (cL (uZ (n:=9) (Ds) (by kernel_rfl) (by kernel_rfl) yp) (cL (uZ (n:=9) (wG) (by kernel_rfl) (by kernel_rfl) (fC iq)) (cL wW (cL (MY ad0) (cL (fC iq) (cL (fC iq) ((fC iq)))))))))
theorem T8:mG ai aX ((([bI]++([cp]))++(([cp]++(((List.replicate 3 [au]).flatten)++(((List.replicate 2 [au]).flatten))))++(([cp]++(((List.replicate 3 [au]).flatten)++(((List.replicate 2 [au]).flatten))))++([au]))))):=mw (λp=>⟨p.1,p.2.1,p.2.2.1,p.2.2.2⟩) (λ_=>rfl) (cL yp (cL wW (cL wW ((fC iq)))))
theorem abD:mG ai fQ ((([bI]++([cp]))++(([bI]++([cp]))++(([cp]++(((List.replicate 3 [au]).flatten)++(((List.replicate 2 [au]).flatten))))++([au]++([au])))))):=mw (λp=>⟨p.1,p.2.1,p.2.2.1,p.2.2.2.1,p.2.2.2.2⟩) (λ_=>rfl) (cL yp (cL yp (cL wW (cL (fC iq) ((fC iq))))))
theorem T9:mG ai eJ (([au]++([au]++([bI])))):=mw (λp=>⟨p.1,p.2.1,p.2.2⟩) (λ_=>rfl) (cL (fC iq) (cL (fC iq) ((uZ (n:=9) (wG) (by kernel_rfl) (by kernel_rfl) (fC iq)))))
theorem JD:mG ai aM (([Dn]++([cp]++([au]++([au]++([au])))))):=mw (λp=>⟨p.1,p.2.1,p.2.2.1,p.2.2.2.1,p.2.2.2.2⟩) (λ_=>rfl) (cL (abE TY) (cL (kr jE) (cL (fC iq) (cL (fC iq) ((fC iq))))))
theorem Vh:mG ai bD (([cp]++([cp]++([cp]++([cp]++([cp]++([au]))))))):=mw (λp=>⟨p.1,p.2.1,p.2.2.1,p.2.2.2.1,p.2.2.2.2.1,p.2.2.2.2.2⟩) (λ_=>rfl) (cL (kr jE) (cL (kr jE) (cL (kr jE) (cL (kr jE) (cL (kr jE) ((fC iq)))))))
theorem Vi:mG ai da (([au]++(([au]++([au]++([bI])))++([og]++([vm]))))):=mw (λp=>⟨p.1,p.2.1,p.2.2.1,p.2.2.2⟩) (λ_=>rfl) (cL (fC iq) (cL T9 (cL (uZ (n:=9) (Dr) (by kernel_rfl) (by kernel_rfl) JD) ((uZ (n:=9) (KA) (by kernel_rfl) (by kernel_rfl) Vh)))))
theorem Vj:mG ai az (([cp]++([cp]++([cp]++([IS]++([au]++((([bI]++([cp]))++(([cp]++(((List.replicate 3 [au]).flatten)++(((List.replicate 2 [au]).flatten))))++(([cp]++(((List.replicate 3 [au]).flatten)++(((List.replicate 2 [au]).flatten))))++([au]))))++(([oh]++([oh]++([bI]++(([cp]++(((List.replicate 3 [au]).flatten)++(((List.replicate 2 [au]).flatten))))++([IS]++([au]++([au]++([au]))))))))++((([bI]++([cp]))++(([bI]++([cp]))++(([cp]++(((List.replicate 3 [au]).flatten)++(((List.replicate 2 [au]).flatten))))++([au]++([au])))))))))))))):=mw (λp=>⟨p.1,p.2.1,p.2.2.1,p.2.2.2.1,p.2.2.2.2.1,p.2.2.2.2.2.1,p.2.2.2.2.2.2.1,p.2.2.2.2.2.2.2⟩) (λ_=>rfl) (cL (kr jE) (cL (kr jE) (cL (kr jE) (cL (MY ad0) (cL (fC iq) (cL T8 (cL Y5 (abD))))))))
theorem T7:mG ai aR ((([au]++(([au]++([au]++([bI])))++([og]++([vm]))))++([CU]++([cp]++([cp]++([cp])))))):=mw (λp=>⟨p.1,p.2.1,p.2.2.1,p.2.2.2.1,p.2.2.2.2⟩) (λ_=>rfl) (cL Vi (cL (uZ (n:=9) (KC) (by kernel_rfl) (by kernel_rfl) Vj) (cL (kr jE) (cL (kr jE) ((kr jE))))))
end Go.Sx
