/- Lemmas. -/
import Derived.Test.YthgnpepchedpbaaGreatDoorLk58
import Derived.Test.YthgnpepchedpbaaGreatDoorLmt
import Derived.Test.YthgnpepchedpbaaGreatDoorLh7
import Derived.Test.YthgnpepchedpbaaGreatDoorH1
import Derived.Test.YthgnpepchedpbaaGreatDoorLk51
import Derived.Test.YthgnpepchedpbaaGreatDoorLk70
import Derived.Test.YthgnpepchedpbaaGreatDoorLh4
import Derived.Test.YthgnpepchedpbaaGreatDoorTab
import Derived.Test.YthgnpepchedpbaaGreatDoorLk65
import Derived.Test.YthgnpepchedpbaaGreatDoorLp4
import Derived.Test.YthgnpepchedpbaaGreatDoorLr3
import Derived.Test.YthgnpepchedpbaaGreatDoorLr7
set_option linter.unusedVariables false
set_option linter.unusedSimpArgs false
namespace Go.Sx
open Go.Proofs
set_option maxRecDepth 100000
set_option maxHeartbeats 1000000
theorem Cl{α:Type}[Inhabited α]{n:α->Nat}{m:Nat}:∀{xs:List α},(∀i,i<xs.length->n xs[i]! ≤ m)->nL n xs≤xs.length*m
 | [],_=>by simp[nL]
 | x :: xs,h=>by
  have h1:=h 0 (by simp)
  have h2:=Cl (n:=n) (m:=m) (xs:=xs) λi hi=>by have:=h (i+1) (by simpa using hi);simpa using this
  have h3:n x≤m:=by simpa using h1
  simp only[nL,List.length_cons,Nat.add_mul];omega
theorem acC{s:bI}(h:s.ok=true):j8 s≤1000:=by
 obtain⟨z1,z2,z3⟩:=yU h
 have hi:vJ s.az=true:=by
  unfold bI.ok at h
  simp only[Bool.and_eq_true] at h
  exact h.1.2.2
 have hn:∀i,i<s.az.length->gr s.az[i]! ≤ 12:=λi Xp=>by
  have h1:=List.all_eq_true.1 hi i (List.mem_range.2 Xp)
  unfold nv at h1
  rw[Bool.and_eq_true] at h1
  have h2:=h1.1
  unfold bh.ok uo at h2
  simp only[Bool.and_eq_true,inR,decide_eq_true_eq] at h2
  have h3:=h2.1.1.1.2
  show s.az[i]!.Name.size≤12
  omega
 have h4:=Cl hn
 unfold j8 dz iu gQ cf
 omega
set_option maxHeartbeats 4000000
theorem acB{x:bK}{p f:Nat}:kG (x.iH p f).1≤kG x:=by
 unfold bK.iH
 split
 ·split
  ·split
   ·show(chg _ _ _).ae.length≤x.Loop.ae.length
    rw[zm];exact Nat.le_refl _
   ·exact Nat.zero_le _
  ·exact Nat.zero_le _
 ·exact Nat.zero_le _
theorem Pl{p m l:Nat}:kG (ck p m l).1≤1024:=by
 unfold ck
 split
 ·next h1=>
  split
  ·next h2=>
   split
   ·obtain⟨_,_,_,_,_,_,_,h⟩:=Hm (l:=l) h1 h2
    show(List.replicate (xC p m) 0).length≤_
    rw[List.length_replicate];exact h
   ·exact Nat.zero_le _
  ·exact Nat.zero_le _
 ·exact Nat.zero_le _
theorem Vv{n:Int}{op:Bool}{k l:Nat}:uB (eR n op k l).1≤2050:=by
 unfold eR mB
 split
 ·next h=>
  simp only[inR,Bool.and_eq_true,decide_eq_true_eq] at h
  show dV [yR n]+dV [yR n]+cf []≤_
  have e:kN (yR n)=n.toNat:=by show(List.replicate n.toNat 0).length=_;rw[List.length_replicate]
  unfold dV nL nL
  rw[e]
  show(1+(n.toNat+0))+(1+(n.toNat+0))+0≤_
  omega
 ·exact Nat.zero_le _
theorem Zw{p:Int}{k l s:Nat}:Ay (fp p k l s).1≤2048:=by
 unfold fp
 split
 ·next h=>
  simp only[inR,Bool.and_eq_true,decide_eq_true_eq] at h
  split
  ·split
   ·split
    ·show(List.replicate (p-mj p).toNat 0).length+(List.replicate (mj p).toNat 0).length≤_
     rw[List.length_replicate,List.length_replicate]
     unfold mj
     split <;> omega
    ·exact Nat.zero_le _
   ·exact Nat.zero_le _
  ·exact Nat.zero_le _
 ·exact Nat.zero_le _
theorem Vw{s:bI}{e:aZ}:lP (Q9 (g0 s e))≤4096:=by
 have z1:kG iw=0:=rfl
 have z2:uB wI=0:=rfl
 have z3:Ay vl=0:=rfl
 have no:lP (Q9 none)≤4096:=Nat.zero_le _
 unfold g0
 dsimp only
 split
 ·split
  ·split
   ·split
    ·refine Nat.le_trans (Nat.add_le_add_right (Nat.add_le_add_right acB _) _) ?_
     refine Nat.le_trans (Nat.add_le_add_right (Nat.add_le_add_right Pl _) _) ?_
     show 1024+uB wI+Ay vl≤_
     omega
    ·exact no
   ·exact no
  ·split
   ·split
    ·refine Nat.le_trans (Nat.add_le_add_right (Nat.add_le_add_left Vv _) _) ?_
     show kG iw+2050+Ay vl≤_
     omega
    ·exact no
   ·split
    ·refine Nat.le_trans (Nat.add_le_add_left Zw _) ?_
     show kG iw+uB wI+2048≤_
     omega
    ·exact no
 ·exact no
set_option maxHeartbeats 1000000
def Wb(v:aK):Prop:=kG v.String≤7000∧uB v.aI≤7000∧Ay v.bY≤7000
def aC.Wb(p:aC):Prop:=∀v ∈ p.al,Go.Sx.Wb v
theorem Fu{r:aY}(h:r.ok=true):kN r≤1024:=by have:=kO h;show r.ae.length≤1024;omega
theorem Pm{rs:List aY}{n:Nat}(h:∀r ∈ rs,r.ok=true)(hn:rs.length≤n):dV rs≤n*1025:=by
 have:=Cl (n:=kN) (m:=1024) (xs:=rs) λi hi=>Fu (h _ (iL hi))
 unfold dV
 have h2:rs.length*1025≤n*1025:=Nat.mul_le_mul_right _ hn
 omega
theorem acG{x:cp}(R:x.iW):uB x≤7000:=by
 have h1:=Pm R.r R.n3
 have h2:=Pm R.l (by rw[R.ll];exact R.n3)
 have h3:=R.sl
 have h4:=R.n3
 have h5:cf x.aL=x.aL.length:=rfl
 have h6:uB x=dV x.aW+dV x.Left+cf x.aL:=rfl
 omega
theorem ahd{x:iU}(h:x.ok=true):Ay x≤7000:=by
 obtain⟨h1,h2⟩:=rD h
 have:=Fu h1
 have:=Fu h2
 have h6:Ay x=kN x.bT+kN x.aH:=rfl
 omega
theorem Vx{x:bK}(h:x.Loop.ok=true):kG x≤7000:=by
 have:=Fu h
 have h6:kG x=kN x.Loop:=rfl
 omega
theorem Tu:Wb ln:=⟨Nat.zero_le _,Nat.zero_le _,Nat.zero_le _⟩
theorem ZA{k:Int}{v:aK}(B:fB k v)(W:Wb v):Wb (v.sound k).1:=by
 have B':=wk B
 obtain⟨w1,w2,w3⟩:=W
 unfold fB at B'
 by_cases k1:k=1
 ·subst k1
  exact⟨Vx B',w2,w3⟩
 rw[if_neg k1] at B'
 by_cases k2:k=2
 ·subst k2
  exact⟨w1,acG B',w3⟩
 rw[if_neg k2] at B'
 rw[LY v k1 k2] at B' ⊢
 exact⟨w1,w2,ahd B'⟩
theorem acD{s:bI}{v:aK}(W:Wb v):Wb (o5 s v):=by
 unfold o5
 split <;> exact W
theorem ahe{s:bI}{e:aZ}{v:aK}(h:g0 s e=some v):Wb v:=by
 have:=Vw (s:=s) (e:=e)
 rw[h] at this
 have h1:kG v.String+uB v.aI+Ay v.bY≤4096:=this
 exact⟨by omega,by omega,by omega⟩
theorem acF{p:aC}(W:p.Wb):p.next.Wb:=by
 unfold aC.next aC.qm
 intro v hv
 split at hv
 ·cases ho:g0 p.Score p.Score.bo[p.Next.toNat]! with
  | none=>rw[ho] at hv;exact W v hv
  | some w=>
   rw[ho] at hv
   rcases List.mem_or_eq_of_mem_set hv with hv | rfl
   ·exact W v hv
   ·exact ahe ho
 ·obtain⟨u,hu,rfl⟩:=List.mem_map.1 hv
  unfold ir
  split
  ·exact acD (W u hu)
  ·exact W u hu
theorem Zz:∀(k:Nat){p:aC},p.Wb->(aC.run k p).Wb
 | 0,p,W=>W
 | k+1,p,W=>by
  unfold aC.run
  split
  ·exact Zz k (acF W)
  ·exact W
theorem acH{p:aC}(R:p.iW)(W:p.Wb):p.step.1.Wb:=by
 obtain⟨R',_⟩:=CB (p.Score.bo.length-p.Next.toNat) R
 have W':=Zz (p.Score.bo.length-p.Next.toNat) W
 unfold aC.step
 generalize aC.run (p.Score.bo.length-p.Next.toNat) p=w at *
 intro v hv
 obtain⟨u,hu,rfl⟩:=List.mem_map.1 hv
 unfold xw
 split
 ·exact W' u hu
 ·next hn=>
  split
  ·exact Tu
  ·exact ZA ((R'.v u hu).resolve_left hn).choose_spec.2.2.2.2.2 (W' u hu)
theorem axq{p:aC}(h:p.ok=true):p.Wb:=λv hv=>by
 have z1:kG iw≤7000:=Nat.zero_le _
 have z2:uB wI≤7000:=Nat.zero_le _
 have z3:Ay vl≤7000:=Nat.zero_le _
 have h:=alq h hv
 unfold acy at h
 split at h
 ·unfold aeU at h
  simp only[Bool.and_eq_true,acj] at h
  obtain⟨⟨⟨⟨⟨⟨h1,h2⟩,h3⟩,_⟩,_⟩,_⟩,_⟩:=h
  exact⟨by rw[h1];exact z1,by rw[h2];exact z2,by rw[h3];exact z3⟩
 ·split at h
  ·cases h
  ·simp only[Bool.and_eq_true] at h
   have hr:=ale h.2
   have hb:=h.2
   unfold aeJ at hb
   split at hb
   ·next k=>
    simp only[Bool.and_eq_true,acj] at hb
    obtain⟨⟨h1,h2⟩,h3⟩:=hb
    unfold bK.ok at h1
    simp only[Bool.and_eq_true] at h1
    exact⟨Vx h1.1.1.1,by rw[h2];exact z2,by rw[h3];exact z3⟩
   ·split at hb
    ·simp only[Bool.and_eq_true,acj] at hb
     obtain⟨⟨h1,h2⟩,h3⟩:=hb
     exact⟨by rw[h1];exact z1,acG (alo h2),by rw[h3];exact z3⟩
    ·simp only[Bool.and_eq_true,acj] at hb
     obtain⟨⟨h1,h2⟩,h3⟩:=hb
     exact⟨by rw[h1];exact z1,by rw[h2];exact z2,ahd h3⟩
theorem ahc{p:aC}(R:p.iW)(W:p.Wb):m6 p≤1048576:=by
 have h1:=acC R.s
 have n6:=R.n6
 have hv:=Cl (n:=lP) (m:=21000) (xs:=p.al) λi hi=>by
  obtain⟨w1,w2,w3⟩:=W _ (iL hi)
  show kG _+uB _+Ay _≤_
  omega
 have h2:p.al.length*21000≤6*21000:=Nat.mul_le_mul_right _ n6
 show j8 p.Score+(p.al.length+nL lP p.al)≤_
 omega
theorem Zx:m6 iv≤1048576:=by decide
theorem Tv{p:aC}(R:p.iW)(W:p.Wb):∀k,(p.AX k).1.Wb
 | 0=>W
 | k+1=>acH (oy R k) (Tv R W k)
theorem avu{p:aC}(h:p.ok=true)(k:Nat):m6 (p.AX k).1≤1048576:=by
 obtain⟨R,_⟩:=ahn h
 exact ahc (oy R k) (Tv R (axq h) k)
theorem auR{p:aC}:m6 p.block.1≤1048576:=by
 unfold aC.block
 split
 ·next k=>exact avu (akx k).1 _
 ·exact Zx
section
variable {h:ab}
theorem amQ{cs:Array Value}{x:aC}(R0:bz.rd h cs.toList x):af ak 6 #[.agg cs] (λu h'=>u = .bool true∧Ext h h') h:=by
 refine al3.call ((Mem.start h).alc λg1 h1 x1 M=>M.df .here (rsz R0 rfl) (goM M (alW (bz.ext M.ext R0) 1048576 (by omega):af ak 25 #[.agg cs,.int .i64 (1048576:Int)] _ _) λh2 M=>cN (br (λhb=>⟨rfl,M.ext⟩) λhb=>?_)))
 have hw:m6 x≤1048576:=aui hb
 have hw':m6 x.block.1≤1048576:=auR
 have hn:=V0 x
 have hn':=V0 x.block.1
 refine M.df .here (rsz R0 rfl) (mN.go M (agM (bz.ext M.ext R0) hw) λh3 c3 B3 M O3 s3=>gw ?_)
 have rdO:∀{hh:ab}{W B:List Blk}{c:Array Value}{y:aC},Mem h hh W->(∀p,Sx.cnt p B≤Sx.cnt p W)->bz.ow B c.toList y->bz.rd hh c.toList y:=λM hc O=>bz.look O (M.cnt hc) (List.Sublist.refl _)
 refine PFB.go M (an7 (bz.look O3 M (List.sublist_append_left _ _))) λh4 c4 B4 d4 M O4 s4 F4=>al1 (gw (gw (cN (M.alc λyv h5 x5 M=>M.alc λg18 h5 x5 M=>M.dH (.there .here) s4 (bz.jy O4) rfl (.there .here) λh6 M=>M.dH .here F4.size F4.one rfl .here λh6 M=>?_))))
 have M:=M.cnt (W:=(g1,62,cs) :: (yv,51,c4) :: (g18,69,d4) :: B4)
 refine M.df .here (rsz R0 rfl) (mN.go M (agM (bz.ext M.ext R0) hw) λh7 c7 B7 M O7 s7=>gw (M.alc λZI h8 x8 M=>M.dH .here s7 (bz.jy O7) rfl .here λh9 M=>M.df .here s7 ?_))
 refine PFB.go M (amN (rdO M (λp=>by simp only[bN,bu,bZ] at *;omega) O7)) λgv ZH B10 d10 M O10 s10 F10=>al1 (gw (gw (cN (M.alc λg34 me x11 M=>M.alc λg35 me x11 M=>M.dH (.there .here) s10 (bz.jy O10) rfl (.there .here) λjl M=>M.dH .here F10.size F10.one rfl .here λjl M=>M.df (.there .here) s10 ?_))))
 have M:=M.cnt (W:=(g1,62,cs) :: (yv,51,c4) :: (g18,69,d4) :: (ZI,51,c7) :: (g34,51,ZH) :: (g35,69,d10) :: (B4++(B7++B10)))
 refine M.df (.there .here) s4 (goM M (xX (rdO M (λp=>by simp only[bN,bu,bZ] at *;omega) O10) (rdO M (λp=>by simp only[bN,bu,bZ] at *;omega) O4)) λhP M=>bt (KP rfl ?_))
 refine M.df (.there (.there (.there (.there (.there .here))))) F10.size (M.df (.there (.there .here)) F4.size (goM M (anG (F10.rd _) (F4.rd _)) λhP M=>bt (KP rfl (eqB ?_))))
 have R7:bz.rd hP c7.toList x:=rdO M (λp=>by simp only[bN,bu,bZ] at *;omega) O7
 have P7:RdP bz hP ⟨ZI,0,none⟩ x:=M.rdp (.there (.there (.there .here))) R7
 refine M.df (.there (.there (.there .here))) s7 (M.df .here (rsz R0 rfl) (mN.go (Mem.start hP) (agM (bz.ext M.ext R0) hw) λj0 c14 B14 N O14 s14=>gw (P7.pin rfl N.ext ?_)))
 have M:=M.join N
 refine goM M (xX (bz.ext N.ext R7) (rdO M (λp=>by simp only[bN,bu,bZ] at *;omega) O14)) λkB M=>bt (KP rfl ?_)
 have M:=M.cnt (W:=B7++((g1,62,cs) :: (yv,51,c4) :: (g18,69,d4) :: (ZI,51,c7) :: (g34,51,ZH) :: (g35,69,d10) :: (B4++B10)))
 refine M.df (gi.skip (.there (.there (.there .here)))) s7 (ae5 (IN O7 M 1 hw (by omega):af ak 23 #[.agg c7,.int .i64 (1:Int)] _ _) λkT B16 M O16=>cN (WQ (by omega) ?_))
 refine M.df (gi.skip (.there (.there (.there (.there .here))))) s10 (M.df (gi.skip (.there .here)) s4 (goM M (xX (rdO M (λp=>by simp only[bN,bu,bZ] at *;omega) O10) (rdO M (λp=>by simp only[bN,bu,bZ] at *;omega) O4)) λqQ M=>bt (KP rfl ?_)))
 refine M.df (gi.skip (.there (.there (.there (.there (.there .here)))))) F10.size (M.df (gi.skip (.there (.there .here))) F4.size (goM M (anG (F10.rd _) (F4.rd _)) λqQ M=>bt (KP rfl (eqB ?_))))
 have M:=M.cnt (W:=B10++((g1,62,cs) :: (yv,51,c4) :: (g18,69,d4) :: (g34,51,ZH) :: B4))
 refine M.df (gi.skip (.there (.there (.there .here)))) s10 (ae5 (IN O10 M 1 hw' (by omega):af ak 23 #[.agg ZH,.int .i64 (1:Int)] _ _) λjF B18 M O18=>cN ?_)
 refine M.df (gi.skip (.there (.there (.there .here)))) s10 (goM M (Aq 1 (rdO M (λp=>by simp only[bN,bu,bZ] at *;omega) O18) hw' (by omega):af ak 24 #[.agg ZH,.int .i64 (1:Int)] _ _) λta M=>cN (WQ (by omega) (eqB ?_)))
 refine M.df (gi.skip .here) (rsz R0 rfl) (mN.go M (agM (bz.ext M.ext R0) hw) λjU c20 B20 M O20 s20=>gw ?_)
 refine PFB.go M (amN (rdO M (λp=>by simp only[bN,bu,bZ] at *;omega) O20)) λvC c21 B21 d21 M O21 s21 F21=>al1 (gw (gw (cN (M.alc λg77 uD x22 M=>M.alc λZM uD x22 M=>M.dH (.there .here) s21 (bz.jy O21) rfl (.there .here) λnR M=>M.dH .here F21.size F21.one rfl .here λnR M=>M.df (.there .here) s21 ?_))))
 have M:=M.cnt (W:=(yv,51,c4) :: (g18,69,d4) :: (g34,51,ZH) :: (ZM,69,d21) :: (B21++(B18++B4)))
 refine M.df .here s4 (goM M (xX (rdO M (λp=>by simp only[bN,bu,bZ] at *;omega) O21) (rdO M (λp=>by simp only[bN,bu,bZ] at *;omega) O4)) λAP M=>bt (KP rfl ?_))
 refine M.df (.there (.there (.there .here))) F21.size (M.df (.there .here) F4.size (goM M (anG (F21.rd _) (F4.rd _)) λAP M=>bt (KP rfl (eqB ?_))))
 exact M.df (.there (.there .here)) s10 (goM M (Aq 1 (rdO M (λp=>by simp only[bN,bu,bZ] at *;omega) O18) hw' (by omega):af ak 24 #[.agg ZH,.int .i64 (1:Int)] _ _) λpw M=>cN (WQ (by omega) (eqB ⟨rfl,M.ext⟩)))
end
theorem agq:qF ak bQ (([23]++([2]))):=zC (λp=>⟨p.1,p.2⟩) (λ_=>rfl) (iz (GL (n:=9) (BD) (by kernel_rfl) (by kernel_rfl) (k9 mD)) ((rK m8)))
theorem afd:qF ak cx (([2]++(((List.replicate 3 [22]).flatten)++(((List.replicate 2 [22]).flatten))))):=zC (λp=>⟨p.1,p.2.1,p.2.2⟩) (λ_=>rfl) (iz (rK m8) (iz (alm 3 (k9 mD)) ((alm 2 (k9 mD)))))
theorem amV:qF ak dX (([153]++([153]++([23]++(([2]++(((List.replicate 3 [22]).flatten)++(((List.replicate 2 [22]).flatten))))++([4]++([22]++([22]++([22]))))))))):=zC (λp=>⟨p.1,p.2.1,p.2.2.1,p.2.2.2.1,p.2.2.2.2.1,p.2.2.2.2.2.1,p.2.2.2.2.2.2.1,p.2.2.2.2.2.2.2⟩) (λ_=>rfl) (iz (GL (n:=9) (ahG) (by kernel_rfl) (by kernel_rfl) agq) (iz (GL (n:=9) (ahG) (by kernel_rfl) (by kernel_rfl) agq) (iz (GL (n:=9) (BD) (by kernel_rfl) (by kernel_rfl) (k9 mD)) (iz afd (iz (aky aqV) (iz (k9 mD) (iz (k9 mD) ((k9 mD)))))))))
theorem alz:qF ak bf ((([23]++([2]))++(([2]++(((List.replicate 3 [22]).flatten)++(((List.replicate 2 [22]).flatten))))++(([2]++(((List.replicate 3 [22]).flatten)++(((List.replicate 2 [22]).flatten))))++([22]))))):=zC (λp=>⟨p.1,p.2.1,p.2.2.1,p.2.2.2⟩) (λ_=>rfl) (iz agq (iz afd (iz afd ((k9 mD)))))
theorem aqB:qF ak jI ((([23]++([2]))++(([23]++([2]))++(([2]++(((List.replicate 3 [22]).flatten)++(((List.replicate 2 [22]).flatten))))++([22]++([22])))))):=zC (λp=>⟨p.1,p.2.1,p.2.2.1,p.2.2.2.1,p.2.2.2.2⟩) (λ_=>rfl) (iz agq (iz agq (iz afd (iz (k9 mD) ((k9 mD))))))
theorem LN:qF ak dD (([22]++([22]++([23])))):=zC (λp=>⟨p.1,p.2.1,p.2.2⟩) (λ_=>rfl) (iz (k9 mD) (iz (k9 mD) ((GL (n:=9) (BD) (by kernel_rfl) (by kernel_rfl) (k9 mD)))))
theorem DE:qF ak aA (([9]++([2]++([22]++([22]++([22])))))):=zC (λp=>⟨p.1,p.2.1,p.2.2.1,p.2.2.2.1,p.2.2.2.2⟩) (λ_=>rfl) (iz (V5 MB) (iz (rK m8) (iz (k9 mD) (iz (k9 mD) ((k9 mD))))))
theorem On:qF ak bF (([2]++([2]++([2]++([2]++([2]++([22]))))))):=zC (λp=>⟨p.1,p.2.1,p.2.2.1,p.2.2.2.1,p.2.2.2.2.1,p.2.2.2.2.2⟩) (λ_=>rfl) (iz (rK m8) (iz (rK m8) (iz (rK m8) (iz (rK m8) (iz (rK m8) ((k9 mD)))))))
theorem Oo:qF ak bU (([22]++(([22]++([22]++([23])))++([26]++([27]))))):=zC (λp=>⟨p.1,p.2.1,p.2.2.1,p.2.2.2⟩) (λ_=>rfl) (iz (k9 mD) (iz LN (iz (GL (n:=9) (xP) (by kernel_rfl) (by kernel_rfl) DE) ((GL (n:=9) (Ez) (by kernel_rfl) (by kernel_rfl) On)))))
theorem alR:qF ak aQ (([2]++([2]++([2]++([4]++([22]++((([23]++([2]))++(([2]++(((List.replicate 3 [22]).flatten)++(((List.replicate 2 [22]).flatten))))++(([2]++(((List.replicate 3 [22]).flatten)++(((List.replicate 2 [22]).flatten))))++([22]))))++(([153]++([153]++([23]++(([2]++(((List.replicate 3 [22]).flatten)++(((List.replicate 2 [22]).flatten))))++([4]++([22]++([22]++([22]))))))))++((([23]++([2]))++(([23]++([2]))++(([2]++(((List.replicate 3 [22]).flatten)++(((List.replicate 2 [22]).flatten))))++([22]++([22])))))))))))))):=zC (λp=>⟨p.1,p.2.1,p.2.2.1,p.2.2.2.1,p.2.2.2.2.1,p.2.2.2.2.2.1,p.2.2.2.2.2.2.1,p.2.2.2.2.2.2.2⟩) (λ_=>rfl) (iz (rK m8) (iz (rK m8) (iz (rK m8) (iz (aky aqV) (iz (k9 mD) (iz alz (iz amV (aqB))))))))
theorem aly:qF ak bz ((([22]++(([22]++([22]++([23])))++([26]++([27]))))++([60]++([2]++([2]++([2])))))):=zC (λp=>⟨p.1,p.2.1,p.2.2.1,p.2.2.2.1,p.2.2.2.2⟩) (λ_=>rfl) (iz Oo (iz (GL (n:=9) (akp) (by kernel_rfl) (by kernel_rfl) alR) (iz (rK m8) (iz (rK m8) ((rK m8))))))
end Go.Sx
