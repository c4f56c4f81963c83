/- Part of the proof of ShopJoined. -/
import Derived.Test.YtoiodfcefbapkaaGreatShopJoinedH
set_option linter.unusedVariables false
set_option linter.unusedSimpArgs false
section
set_option maxRecDepth 8000
set_option maxHeartbeats 1000000
namespace Go.cJ
open Go.Proofs
open Go.Proofs.Tryz (prog)
attribute [-simp] hq hX jG
theorem bB.b0{α:Type}{f:FuncId}{args:List Value}{H:ab}{k e U:Nat}{aC:Bool}{af:ab->Value->α->Prop}{xs:List α}(h:aP prog f args H (fun u H1=>Ext H H1/\bB k e U aC af H1 u xs)):aP prog f args H (fun u H1=>Ext H H1/\∃a c,u= .slice a xs.length c/\bB k e U aC af H1 (.slice a xs.length c) xs):=
 h.mono fun u H1 ⟨J,aK⟩=>by
  obtain⟨a,c,rfl⟩:=aK.len
  exact⟨J,a,c,rfl,aK⟩
theorem x1{v:Value}{t:List (List Rat)}{fz:List Rat}{n:Nat}{H:ab}(bc:hC H v t)(aH:t[0]?=some fz)(aG:fz.length=n):aP prog 49 [.agg #[v]] H (fun w H1=>Ext H H1/\w= .int .i64 n):=by
 subst aG
 exact EN bc aH
theorem AK{v:Value}{t:List (List Rat)}{n:Nat}{H:ab}(bc:hC H v t)(aG:t.length=n):aP prog 48 [.agg #[v]] H (fun w H1=>Ext H H1/\w= .int .i64 n):=by
 subst aG
 exact MF bc
theorem IZ{a b:Rat}:((if a<b then(-1:Int)else if a=b then 0 else 1)<0)↔a<b:=by
 by_cases o:a<b
 ·simp[o]
 ·by_cases aa:a=b
  ·simp[aa]
  ·simp[o,aa]
theorem aaU{d:Nat}{x y:Operand}{r:List bz}{F:Fr}{H:ab}{Q:Fr->ab->Prop}{q:Rat}{k_:List Int}{ax:ba (dB d 113 [(0,x),(1,y)]::r) Q}(J:ca H (aq F x) q)(aL:Row 3 1 false IR H (aq F y) k_)
  (K:∀u,jK H u (q,k_)->a_ prog r Q .mk (a4 F d u) H):a_ prog (dB d 113 [(0,x),(1,y)]::r) Q ax F H:=by
 obtain⟨s1,bY,cQ,cm,s2,cC,cW,cF,an,o,aa⟩:=fm.shape J
 obtain⟨eC,eJ,hw⟩:=aL.len
 have br:jK H (.agg #[.bool s1,.slice bY cQ cm,.bool s2,.slice cC cW cF,.slice eC k_.length eJ]) (q,k_):=⟨s1,bY,cQ,cm,s2,cC,cW,cF,eC,_,eJ,rfl,by rw[<-an];exact J,by rw[<-hw];exact aL⟩
 have:=K _ br
 simp[an,hw]
 exact this
attribute [-simp] PU
theorem fh.set{n m j:Nat}{t:List (List Rat)}{dP:List Rat}(h:fh n m t)(al:dP.length=m):fh n m (t.set j dP):=
 ⟨by simp[h.len],fun r cv=>by
  rcases List.mem_or_eq_of_mem_set cv with cv | rfl
  ·exact h.row r cv
  ·exact al⟩
theorem ik.set{D j:Nat}{t:List (List Rat)}{dP:List Rat}(h:ik D t)(al:∀q∈dP,eY D q):ik D (t.set j dP):=fun r cv=>by
 rcases List.mem_or_eq_of_mem_set cv with cv | rfl
 ·exact h r cv
 ·exact al
theorem Jm{t:List (List Rat)}{r:List Rat}{j i:Nat}{x:Rat}(aX:t[j]?=some r)(ae:i<r.length)(ea b5:Nat):bZ (t.set j (r.set i x)) ea b5=if ea=j/\b5=i then x else bZ t ea b5:=by
 have gA:=(cK.1 aX).1
 unfold bZ
 by_cases o:ea=j
 ·subst o
  rw[List.getElem?_set_self gA,aX]
  simp only[Option.getD_some,true_and]
  by_cases aa:b5=i
  ·subst aa;rw[List.getElem?_set_self ae];simp
  ·rw[List.getElem?_set_ne (by omega),if_neg aa]
 ·rw[List.getElem?_set_ne (by omega),if_neg (fun h=>o h.1)]
theorem Y4{n:Nat}{B kM:Nat->Nat->Rat}(e:∀i k,i<n->k<n->kM i k=B i k):np n kM=np n B:=Bq fun i ae=>Bq fun k aj=>by rw[e i k ae aj]
theorem Ya{H:ab}{b e:Nat}{l:Bool}{cs:List Value}{X:bI}(h:H[b]?=some (.own e l cs)):Kept H (H.set b X) (.slice (some ⟨b,0,none⟩) 0 0) e:=fun cu Y k2 ag=>by
 by_cases mY:b=cu
 ·subst mY
  rw[h]at k2
  exact absurd (by rw[<-Option.some.inj k2];rfl) (ag ⟨0,0,0,rfl⟩)
 ·rw[List.getElem?_set_ne mY];exact k2
theorem hO.fresh{ft H:ab}{gR n:Nat}{g4 gB gj Bs:Value}{t:List (List Rat)}{b2:List Int}{dn cG:List Bool}(h:hO ft H gR n g4 gB gj t b2 dn)(cy:bB ft.length 4 1 false pg H Bs cG):hO ft (H.set gR (.own 140 false [g4,gB,Bs])) gR n g4 gB Bs t b2 cG:=by
 have aj:=Ya (X:= .own 140 false [g4,gB,Bs]) h.e0
 exact⟨h.pos,h.ext.set h.x4 (by simp),h.kJ,h.vq,h.vm,h.small,h.x4,List.getElem?_set_self (cK.1 h.e0).1,h.oo.other aj (by decide) fun _ _ h=>h,cy.other aj (by decide) fun _ _ h=>h⟩
theorem hO.next{ft H:ab}{gR n tb:Nat}{g4 gB gj:Value}{t:List (List Rat)}{b2:List Int}{L:Rat}(ar:ku n (bZ t) L)(dk:0<L)(jb:mM n (bZ t) tb b2)(bM:tb<n)(h:hO ft H gR n g4 gB gj t b2 (List.replicate n false)):
  aP prog 86 [.pointer (some ⟨gR,0,none⟩),.int .i64 tb] H (fun u H1=>∃ha cG,u= .bool true/\mM n (bZ t) (tb+1) ha/\hO ft H1 gR n g4 gB gj t ha cG):=
 (find_spec n (n+1) (by unfold pd;rw[List.count_replicate];simp;) h (by simp) jb.ok bM).mono fun u H1 ⟨b,ha,cG,hu,br,bE⟩=>by
  obtain⟨rfl,aa⟩:=mM.next ar.iS ar.row ar.qF dk jb bM br
  exact⟨ha,cG,hu,aa,bE⟩
theorem QF{v:Value}{t:List (List Rat)}{n N D:Nat}{L:Rat}{H:ab}(bc:hC H v t)(aB:fh n n t)(aG:0<n)(m5:n<65536)(ar:ku n (bZ t) L)(aU:ik D t)(eO:l2 D N L):
  aP prog 58 [.agg #[v]] H (fun u H1=>Ext H H1/\∃aW,rS n (bZ t) L aW/\(∀p∈aW,eY D p.1)/\Row 113 5 true jK H1 u aW):=by
 refine aP.b9 fun Q aE=>?_
 have ob:=aB.len
 apply XC (by simp)
 obtain⟨a,c,rfl⟩:=Row.len bc
 simp[H6]
 have bn:Ext H (H++[.dead]):=Ext.dead H
 refine c9 (af:=iW) (xs:=t) (by simpa using bc.ext bn) (by simp) ?_
 simp
 obtain⟨hN,zx⟩:∃hN,hN=H++[bI.dead]:=⟨_,rfl⟩
 have wu:0<hN.length:=by rw[zx];simp
 rw[<-zx]at bn⊢
 have S1:=bc.ext bn
 refine dF.range (by kernel_rfl) t.length (by omega) (by simp) (by rfl) (by simp) (by decide) (by decide) (fun i bU dp aR=>Ext hN aR/\∃us,eo hN.length 120 80 4 true ca aR (bU 3) (t.take i) us) ?_ ?_ ?_
 ·exact⟨Ext.refl _,[],by simpa using eo.nil _ _ _ _ _ _ _ wu⟩
 ·rintro i bU dp aR ae a5 ⟨bm,us,jc⟩ K a0
  simp at a5 jc
  simp[a5]
  obtain⟨row,fj⟩:∃row,t[i]?=some row:=⟨_,bJ ae⟩
  have xt:=aB.row row (List.mem_of_getElem? fj)
  refine dc (af:=iW) (xs:=t) (n:=i) (a:=row) (e:=120) (U:=1) (aC:=false) (by simpa using b7.ext S1 bm) (by simp[a5]) fj (by simp) (by simp) (by simp) (by decide) ?_
  intro dm F1 q9
  simp
  refine aV.mk (Ql q9 (by omega)) ?_
  rintro w bP ⟨bN,hw⟩
  have Sc:=Ext.len bm
  have wM:=eo.ext jc bN
  have q_:=hw.le Sc
  have V1:=hw.jr
  refine FT (k:=hN.length) (e:=120) (U:=1) (aC:=false) (bA:=24) (z:= .slice none 0 0) (af:=gU) (xs:=us) (a:=w) (by simpa using wM.own) (by simp[gU]) (by simpa using V1) (by simp) (fun _ _ _ _ _ h=>h) (by simp) (by simp) (by simp) (by simp) (by simp) (by rfl) (by rfl) (by rfl) (by rfl) (by decide) (by decide) (by decide) (by have:=jc.len;simp at this;omega) (by have:=Ext.len bN;omega) ?_
  intro p_ vx cS h2 cD k6 uH xc
  simp at k6 uH
  have uS:=eo.snoc (cx:=aR) (o6:=aR.length) wM (fun b aH ag=>(hw.ge ag aH).1) (fun j u b hu ag aH=>jc.lt j u b hu ag aH) (by decide) q_ h2 k6 (fun u x h=>h.kept k6 (by decide))
  simp
  refine a0 _ _ _ (by simp[a5]) ⟨cD _ (Nat.le_refl _) (bm.aw bN),us++[w],?_⟩
  rw[List.take_succ_eq_append_getElem ae]
  have:t[i]=row:=(cK.1 fj).2
  rw[this]
  simpa using uS
 ·rintro bU dp BU a5 ⟨Mn,us,zI⟩
  simp at zI
  obtain⟨c5,lc,mm⟩:=zI.own.len
  have R2:=Ext.len Mn
  obtain⟨jm,z_⟩:∃jm,jm=Value.slice c5 us.length lc:=⟨_,rfl⟩
  rw[mm,<-z_]at zI
  simp[mm]
  rw[<-z_]
  obtain⟨BV,J4⟩:∃BV,BV=BU++[bI.dead]:=⟨_,rfl⟩
  have Mo:Ext BU BV:=by rw[J4];exact Ext.dead BU
  rw[<-J4]
  refine dF.mk (by kernel_rfl) (fun w dh ey bP=>∃ht us aW,w=np n (bZ ht)/\Ext hN bP/\eo hN.length 120 80 4 true ca bP jm ht us/\bB hN.length 113 5 true jK bP (dh 7) aW/\fh n n ht/\ik D ht/\mJ n (bZ t) L aW (bZ ht)/\(∀p∈aW,eY D p.1)) (np n (bZ t)) ?_ ?_
  ·exact⟨t,us,[],rfl,Mn.aw Mo,zI.ext Mo,by simpa using bB.nil _ _ _ _ _ _,aB,aU,mJ.zero ar,by simp⟩
  ·rintro w dh ey bP ⟨ht,adg,aW,rfl,bN,wM,ud,sv,pM,mb,Aa⟩ K a0
   obtain⟨fz,g9,oX,q7,LF,xq⟩:=sv.at aG
   simp at ud
   simp
   have nT:l2 D N (L-du aW):=eO.le (by have:=(E6 fun p aY=>(mb.parts p aY).1).1;grind)
   have LO:=FI sv pM nT (fun i k ae aj=>mb.kG.iS i k ae aj) fun i ae=>by rw[mb.kG.row i ae];exact Rat.le_refl
   have CZ:hC bP jm ht:=wM.row
   have JX:=sv.len
   refine aV.mk (xY (j:=0) CZ g9 (by omega) (by omega) (LO fz oX).1 (LO fz oX).2 eO.bits) ?_
   rintro yg b1 ⟨cr,m8⟩
   rw[xq,mb.kG.row 0 aG]at m8
   simp
   refine aV.mk (Fg m8) ?_
   rintro u cb ⟨c0,rfl⟩
   have p0:=cr.aw c0
   simp
   refine bH.b_ (fun ad=>?_) (fun ad=>?_)
   ·have Su:0<L-du aW:=by
     have:¬(L-du aW<=0):=fun h=>by have:=ym.2 h;omega
     exact Rat.not_le.1 this
    simp
    refine Bu (e:=3) (U:=1) (aC:=false) (z:= .int .i64 0) (af:=IR) (a:= -1) (fun aF _=>by simp[IR]) (by simpa using j8 (-1)) (by simp) (by simp) (by simp) (by rfl) (by rfl) (by rfl) (by decide) (by decide) ?_
    intro Ga dQ jx cL
    simp
    have SO:=hC.ext CZ (p0.aw cL)
    refine aV.mk (x1 SO g9 q7) ?_
    rintro u cS ⟨cD,rfl⟩
    refine⟨cD,?_⟩
    simp
    refine aV.mk (bB.b0 (Zt (af:=IR) (b7.ext (af:=Row _ _ _ IR) jx.row cD) m5 (fun H u y h=>by rw[h];exact j8 y) (fun _ _ _ _ _ _ h=>h))) ?_
    rintro _ eN ⟨c1,u1,u2,rfl,eH⟩
    refine⟨c1,?_⟩
    simp
    have Mj:=cL.aw (cD.aw c1)
    have ahm:=Ext.len cL
    have Um:=Ext.len Mj
    have Ml:Ext eN (eN++[.own 140 false [jm,.slice u1 n u2,.slice none 0 0]]):=(Ext.refl eN).snoc _ _ _
    have aho:=Ext.len cD
    have CR:hO cb (eN++[.own 140 false [jm,.slice u1 n u2,.slice none 0 0]]) eN.length n jm (.slice u1 n u2) (.slice none 0 0) ht (List.replicate n (-1)) []:=
     ⟨by have:=Ext.len p0;have:=Ext.len bN;omega,Mj.aw Ml,hC.ext CZ p0,JX,sv.row,m5,Um,by simp,b7.ext (af:=bB _ _ _ _ IR) (by simpa using eH.le (b5:=cb.length) (by omega)) Ml,bB.nil _ _ _ _ _ _⟩
    have SP:=CR.kJ.ext CR.ext
    refine aV.mk (AK SP JX) ?_
    rintro u kq ⟨fQ,rfl⟩
    have Sv:=CR.more fQ
    simp
    refine dF.range (by kernel_rfl) n (by omega) (by simp) (by rfl) (by simp) (by decide) (by decide) (fun tb qn tp iD=>∃b2 gj dn,hO cb iD eN.length n jm (.slice u1 n u2) gj ht b2 dn/\mM n (bZ ht) tb b2) ?_ ?_ ?_
    ·exact⟨_,_,_,Sv,mM.zero _ _⟩
    ·rintro tb qn tp iD sP zu ⟨b2,gj,dn,pC,zB⟩ Gv pB
     simp at zu
     have CY:=pC.kJ.ext pC.ext
     simp[zu]
     refine aV.mk (x1 CY g9 q7) ?_
     rintro u ig ⟨gP,rfl⟩
     have si:=pC.more gP
     have Uj:=Ext.len si.ext
     refine yt (e:=4) (U:=1) (bA:=1) (aC:=false) (n:=n) (eW:= .i64) (c4:= .i64) (z:= .bool false) (af:=pg) (a:=false) (by simp) (by simp) (by simp) (by rfl) (by rfl) (by simp) (Pg false) (by simp) (by simp) (by decide) (by decide) (by omega) (fun aF=>rfl) ?_
     intro ah7 iR kr lD hS
     have nU:=si.more hS
     have zT:=nU.e0
     have Sw:=nU.fresh (lD.le Uj)
     simp[zT]
     refine aV.mk (hO.next mb.kG Su zB sP Sw) ?_
     rintro u ks ⟨ha,cG,rfl,Sz,Sx⟩
     exact pB _ _ _ (by simp[zu]) ⟨ha,_,cG,Sx,Sz⟩
    ·rintro qn tp iD zu ⟨b2,gj,dn,pC,zB⟩
     have Tz:=pC.e0
     have m7:=zB.perm.1
     have h6:=zB.perm.2
     refine Exists.elim (m7.dN 0 aG) fun AJ aX=>?_
     have uK:=aX.1
     have La:=aX.2
     refine Exists.elim (sv.get uK aG) fun NV al=>?_
     have Ve:=al.1
     have Vf:=al.2.1
     have CY:=pC.kJ.ext pC.ext
     simp[Tz]
     refine dc (af:=IR) (xs:=b2) (n:=0) (a:=(AJ:Int)) (e:=3) (U:=1) (aC:=false) (by simpa using pC.oo.row) (by simp) La (by simp) (by simp) (by simp) (by decide) ?_
     rintro Np ac9 rfl
     refine dc (af:=iW) (xs:=ht) (n:=AJ) (a:=NV) (e:=120) (U:=1) (aC:=false) (by simpa using CY) (by simp) Ve (by simp) (by simp) (by simp) (by decide) ?_
     intro A3 OX D7
     refine dc (af:=ca) (xs:=NV) (n:=0) (a:=bZ ht AJ 0) (e:=80) (U:=4) (aC:=true) (by simpa using D7) (by simp) Vf (by simp) (by simp) (by simp) (by decide) ?_
     intro Nq OY LX
     simp
     refine cO.mk LX.whole ?_
     have si:=pC.more (Ext.dead iD)
     have TA:=si.e0
     have gA:b2.length=n:=m7.len
     simp[TA]
     refine c9 (af:=IR) (xs:=b2) (by simpa using si.oo.row) (by simp) ?_
     simp[gA]
     refine Exists.elim (⟨fun k=>bZ ht (b2[k]?.getD 0).toNat k,rfl⟩:∃f:Nat->Rat,f=fun k=>bZ ht (b2[k]?.getD 0).toNat k) fun f ay=>?_
     have TU:f 0=bZ ht AJ 0:=by rw[ay];simp[La]
     have zX:∀k j:Nat,b2[k]?=some (j:Int)->f k=bZ ht j k:=fun k j h=>by rw[ay];simp[h]
     have n5:∀k,k<n->de N (f k):=fun k aj=>by
      obtain⟨j,a1,a3⟩:=m7.dN k aj
      rw[zX k j a3]
      exact nT.U (pM.bZ j k) (mb.kG.iS j k a1 aj) (mb.kG.le a1 aj)
     have Ac:∀k,k<=n->de N (kH f k):=fun k aj=>by
      by_cases sA:k=0
      ·subst sA;exact n5 0 aG
      ·obtain⟨i,a1,a3⟩:=M3 f k (by omega)
       rw[a3];exact n5 i (by omega)
     refine dF.range (by kernel_rfl) n (by omega) (by simp) (by rfl) (by simp) (by decide) (by decide) (fun i Gp yM kr=>Ext (iD++[.dead]) kr/\ca kr (yM 11) (kH f i)) ?_ ?_ ?_
     ·refine⟨Ext.refl _,?_⟩
      simp only[kH,TU]
      simpa using LX.ext (Ext.dead iD)
     ·rintro i Gp yM kr ae tX ⟨hS,pR⟩ aeU So
      simp at tX pR
      refine cc.join (by kernel_rfl) (fun rU tq ks=>Ext kr ks/\ca ks (tq 11) (kH f (i+1))) ?_ ?_
      ·rintro PC wD-
       have nU:=si.more hS
       have SN:=nU.kJ.ext nU.ext
       refine Exists.elim (m7.dN i ae) fun j aX=>?_
       have qY:=aX.1
       have lK:=aX.2
       have Dt:=zX i j lK
       refine Exists.elim (sv.get qY ae) fun ou al=>?_
       simp[tX]
       refine dc (af:=IR) (xs:=b2) (n:=i) (a:=(j:Int)) (e:=3) (U:=1) (aC:=false) (by simpa using nU.oo.row) (by simp[tX]) lK (by simp) (by simp) (by simp) (by decide) ?_
       rintro aid ajw rfl
       simp[tX]
       refine dc (af:=iW) (xs:=ht) (n:=j) (a:=ou) (e:=120) (U:=1) (aC:=false) (by simpa using SN) (by simp) al.1 (by simp) (by simp) (by simp) (by decide) ?_
       intro aie u16 VD
       simp
       refine dc (af:=ca) (xs:=ou) (n:=i) (a:=bZ ht j i) (e:=80) (U:=4) (aC:=true) (by simpa using VD) (by simp) al.2.1 (by simp) (by simp) (by simp) (by decide) ?_
       intro Nr ajx AB
       simp
       refine cO.mk AB.whole ?_
       simp
       have gg:=Ext.dead kr
       have h7:=n5 i ae
       rw[Dt]at h7
       refine aV.mk (A8 (AB.ext gg) (pR.ext gg) h7 (Ac i (by omega)) eO.bits) ?_
       rintro w nC ⟨lR,rfl⟩
       simp
       refine bH.b_ (fun ad=>?_) (fun ad=>?_)
       ·have a6:=IZ.1 ad
        simp
        refine cO.mk AB.whole ?_
        refine wD _ _ _ ⟨gg.aw lR,?_⟩
        simp only[kH,Dt,if_pos a6]
        simpa using AB.ext (gg.aw lR)
       ·have a6:=fun h=>ad (IZ.2 h)
        refine wD _ _ _ ⟨gg.aw lR,?_⟩
        simp only[kH,Dt,if_neg a6]
        simpa using pR.ext (gg.aw lR)
      ·rintro rU tq ks ⟨hT,UC⟩
       exact So _ _ _ (by simp[tX]) ⟨hS.aw hT,by simpa using UC⟩
     ·rintro Gp yM kr tX ⟨hS,pR⟩
      simp at pR
      have nU:=si.more hS
      have zT:=nU.e0
      have Ek:=p0.aw nU.ext
      have sl:=wM.ext Ek
      have SL:=b7.ext (af:=bB hN.length 113 5 true jK) ud Ek
      have R7:=bN.aw Ek
      refine Exists.elim (⟨(kH f n,b2),rfl⟩:∃p:Rat×List Int,p=(kH f n,b2)) fun p aY=>?_
      have sH:p.1=kH f n:=by rw[aY]
      have q5:p.2=b2:=by rw[aY]
      have z6:∀k j:Nat,k<n->p.2[k]?=some (j:Int)->p.1<=bZ ht j k:=fun k j aj aX=>by
       rw[q5]at aX
       rw[sH,<-zX k j aX]
       exact YB f aj
      have jy:∃k j:Nat,k<n/\j<n/\p.2[k]?=some (j:Int)/\p.1=bZ ht j k:=by
       obtain⟨k,aj,e⟩:=M3 f n aG
       obtain⟨j,a1,a3⟩:=m7.dN k aj
       exact⟨k,j,aj,a1,by rw[q5];exact a3,by rw[sH,e];exact zX k j a3⟩
      have Lr:0<p.1:=by
       obtain⟨k,j,aj,aX,a1,a3⟩:=jy
       rw[a3]
       exact h6 k j aj (by rw[<-q5];exact a1)
      have An:eY D p.1:=by
       obtain⟨k,j,aj,aX,a1,a3⟩:=jy
       rw[a3]
       exact pM.bZ j k
      have jY:de N p.1:=by rw[sH];exact Ac n (Nat.le_refl n)
      simp[zT]
      refine c9 (af:=IR) (xs:=b2) (by simpa using nU.oo.row) (by simp) ?_
      simp[gA]
      refine dF.range (by kernel_rfl) n (by omega) (by simp) (by rfl) (by simp) (by decide) (by decide) (fun i Gq Gu oB=>∃kN th,Ext hN oB/\eo hN.length 120 80 4 true ca oB jm kN th/\bB hN.length 113 5 true jK oB (dh 7) aW/\Row 3 1 false IR oB (.slice u1 n u2) b2/\ca oB (yM 11) p.1/\oB[eN.length]?=some (.own 140 false [jm,.slice u1 n u2,gj])/\fh n n kN/\ik D kN/\∀j k,j<n->k<n->bZ kN j k=if k<i then kk (bZ ht) p j k else bZ ht j k) ?_ ?_ ?_
      ·exact⟨ht,adg,R7,sl,SL,nU.oo.row,by rw[sH];exact pR,zT,sv,pM,fun j k _ _=>by simp⟩
      ·rintro i Gq Gu oB ae tY ⟨kN,th,o1,wL,CX,zz,Ay,Di,zU,w7,w4⟩ aeV Sp
       simp at tY
       refine Exists.elim (m7.dN i ae) fun j aX=>?_
       have qY:=aX.1
       have lK:=aX.2
       refine Exists.elim (zU.get qY ae) fun ou al=>?_
       refine Exists.elim (wL.vn al.1) fun FZ hu=>?_
       have Ki:=wL.own.row
       simp[tY]
       refine dc (af:=IR) (xs:=b2) (n:=i) (a:=(j:Int)) (e:=3) (U:=1) (aC:=false) (by simpa using zz) (by simp[tY]) lK (by simp) (by simp) (by simp) (by decide) ?_
       rintro aif ajy rfl
       simp[tY]
       refine dc (af:=gU) (xs:=th) (n:=j) (a:=FZ) (e:=120) (U:=1) (aC:=false) (by simpa using Ki) (by simp) hu.1 (by simp) (by simp) (by simp) (by decide) ?_
       rintro YU FW rfl
       simp
       refine dc (af:=gU) (xs:=th) (n:=j) (a:=FW) (e:=120) (U:=1) (aC:=false) (by simpa using Ki) (by simp) hu.1 (by simp) (by simp) (by simp) (by decide) ?_
       rintro YV ada rfl
       simp
       refine dc (af:=ca) (xs:=ou) (n:=i) (a:=bZ kN j i) (e:=80) (U:=4) (aC:=true) (by simpa using hu.2.row) (by simp) al.2.1 (by simp) (by simp) (by simp) (by decide) ?_
       intro YW adb D8
       simp
       have KI:bZ kN j i=bZ ht j i:=by rw[w4 j i qY ae,if_neg (Nat.lt_irrefl i)]
       have Vp:de N (bZ kN j i):=by rw[KI];exact nT.U (pM.bZ j i) (mb.kG.iS j i qY ae) (mb.kG.le qY ae)
       refine aV.mk (Fh D8 Ay Vp jY eO.bits) ?_
       rintro w vI ⟨h9,hw⟩
       refine⟨h9,?_⟩
       have C7:=wL.ext h9
       have CW:=b7.ext (af:=bB hN.length 80 4 true ca) hu.2 h9
       refine kK (k:=hN.length) (e:=80) (U:=4) (aC:=true) (n:=i) (af:=ca) (xs:=ou) (a:=bZ kN j i-p.1) (by simpa using CW) (by simp) (by rw[al.2.2];exact ae) (by simpa using hw) (by simpa using hw.whole) (by simp) (fun aF dv u y aj h=>h.kept aj (by decide)) (by simp) (by simp) (by simp) (by decide) ?_
       rintro YX yO wH xJ m3 Ul-
       simp at wH m3
       have aj:∀u x,ca vI u x->ca yO u x:=fun u x h=>h.kept m3 (by decide)
       simp
       refine Sp _ _ _ (by simp[tY]) ⟨kN.set j (ou.set i (bZ kN j i-p.1)),th,?_,C7.inner hu.1 (by decide) m3 wH aj,?_,?_,aj _ _ (Ay.ext h9),?_,?_,?_,?_⟩
       ·exact xJ _ (Nat.le_refl _) (o1.aw h9)
       ·exact(b7.ext (af:=bB hN.length 113 5 true jK) CX h9).other m3 (by decide) fun u x h=>h.kept m3 (by decide) (by decide)
       ·exact(b7.ext (af:=Row _ _ _ IR) zz h9).kept m3 (by decide) fun _ _ h=>h
       ·exact m3 _ _ (h9.get_some Di) fun _=>by simp[bI.elem?]
       ·exact zU.set (by rw[List.length_set];exact al.2.2)
       ·refine w7.set fun q av=>?_
        rcases List.mem_or_eq_of_mem_set av with av | rfl
        ·exact w7 ou (List.mem_of_getElem? al.1) q av
        ·exact(w7.bZ j i).sub An
       ·intro ea b5 m2 ml
        rw[Jm al.1 (by rw[al.2.2];exact ae)]
        have Lu:p.2[i]?=some (j:Int):=by rw[q5];exact lK
        by_cases g8:b5=i
        ·subst g8
         rw[if_pos (Nat.lt_succ_self _)]
         by_cases K1:ea=j
         ·subst K1
          rw[if_pos ⟨rfl,rfl⟩,KI]
          unfold kk gi
          rw[if_pos Lu]
         ·rw[if_neg (fun h=>K1 h.1),w4 ea b5 m2 ml,if_neg (Nat.lt_irrefl _)]
          unfold kk gi
          rw[Lu,if_neg (by simp;omega)]
          grind
        ·rw[if_neg (fun h=>g8 h.2),w4 ea b5 m2 ml]
         by_cases a6:b5<i
         ·rw[if_pos a6,if_pos (by omega)]
         ·rw[if_neg a6,if_neg (by omega)]
      ·rintro Gq Gu oB tY ⟨kN,th,o1,wL,CX,zz,Ay,Di,zU,w7,w4⟩
       have he:∀j k,j<n->k<n->bZ kN j k=kk (bZ ht) p j k:=fun j k aX aj=>by rw[w4 j k aX aj,if_pos aj]
       have Lt:lu n p.2:=by rw[q5];exact m7
       have Ur:=mb.kG.less Lt Lr z6 jy
       have DM:=(mb.next Lt Lr z6 jy).congr he
       have US:=Y4 he
       have TX:aW.length<=n*n:=by have:=mb.mU;have:=NB n (bZ t);omega
       have sF:n*n<=65536*65536:=Nat.mul_le_mul (by omega) (by omega)
       have agL:=Ext.len o1
       simp[Di]
       refine aaU (q:=p.1) (k_:=p.2) (by simpa using Ay) (by rw[q5];simpa using zz) ?_
       intro ajz LY
       refine qh (k:=hN.length) (e:=113) (U:=5) (aC:=true) (bA:=88) (z:= .agg #[.bool false,.slice none 0 0,.bool false,.slice none 0 0,.slice none 0 0]) (af:=jK) (xs:=aW) (a:=p) (by simpa using CX) (by simpa using LY) (by simpa using LY.jr) (by simp) (fun aF dv u y aj h=>h.kept aj (by decide) (by decide)) (by simp) (by simp) (by simp) (by simp) (by simp) (by rfl) (by rfl) (by first | rfl | simp[flat,g5]) (by rfl) (by decide) (by decide) (by decide) (by omega) (by omega) ?_
       intro aih ajY aeS SE o2 DD
       simp at DD
       simp
       refine a0 (np n (bZ kN)) _ _ _ (by rw[US];exact Ur.2) ⟨kN,th,aW++[p],rfl,o2 _ (Nat.le_refl _) o1,wL.other DD (by decide) (by decide) fun u x h=>h.kept DD (by decide),by simpa using SE,zU,w7,DM,?_⟩
       intro q av
       rcases List.mem_append.1 av with av | av
       ·exact Aa q av
       ·rw[List.mem_singleton.1 av];exact An
   ·have St:¬0<L-du aW:=fun h=>ad (by
     have:¬(L-du aW<=0):=Rat.not_le.2 h
     have:=mt ym.1 this
     omega)
    simp[bf]
    exact aE _ _ ⟨bn.aw (bN.aw p0),aW,mb.end aG St,Aa,(b7.ext (af:=bB hN.length 113 5 true jK) ud p0).row⟩
end Go.cJ
end
section
set_option maxRecDepth 8000
set_option maxHeartbeats 1000000
namespace Go.cJ
open Go.Proofs
open Go.Proofs.Tryz (prog)
attribute [-simp] hq hX jG
def gk(n m:Nat)(t:List (List Rat)):Rat:=if(dy (dL t) n).1<(dy (dL (ff m t)) m).1 then(dy (dL (ff m t)) m).1 else(dy (dL t) n).1
theorem Ot{n m:Nat}{t:List (List Rat)}:(dy (dL t) n).1<=gk n m t/\(dy (dL (ff m t)) m).1<=gk n m t:=by
 unfold gk
 split
 ·rename_i h;exact⟨Rat.le_of_lt h,Rat.le_refl⟩
 ·rename_i h;exact⟨Rat.le_refl,Rat.not_lt.1 h⟩
theorem fh.ff{n m:Nat}{t:List (List Rat)}(h:fh n m t):fh m n (ff m t):=by
 refine⟨by simp[Go.cJ.ff],fun r al=>?_⟩
 unfold Go.cJ.ff at al
 rw[List.mem_map]at al
 obtain⟨k,-,rfl⟩:=al
 simp[iH,h.len]
theorem tN{n m:Nat}{t:List (List Rat)}(h:fh n m t){i k:Nat}(ae:i<n)(aj:k<m):bZ (ff m t) k i=bZ t i k:=by
 unfold bZ ff
 rw[List.getElem?_map,List.getElem?_range aj]
 simp only[Option.map_some,Option.getD_some]
 unfold iH
 rw[List.getElem?_map]
 obtain⟨r,a1,-⟩:=h.at ae
 rw[a1]
 rfl
theorem ik.ff{D m:Nat}{t:List (List Rat)}(h:ik D t):ik D (ff m t):=fun r al q av=>by
 unfold Go.cJ.ff at al
 rw[List.mem_map]at al
 obtain⟨k,-,rfl⟩:=al
 unfold iH at av
 rw[List.mem_map]at av
 obtain⟨dP,fx,rfl⟩:=av
 cases aj:dP[k]? with
 | none=>exact eY.zero D
 | some y=>exact h dP fx y (List.mem_of_getElem? aj)
theorem yc{n m:Nat}{t:List (List Rat)}(h:fh n m t){i:Nat}(ae:i<n):dL t i=bS m (bZ t i):=by
 obtain⟨r,a1,-,-,-,e5⟩:=h.at ae
 rw[<-e5,dL,a1]
 rfl
theorem Ov{n m:Nat}{t:List (List Rat)}(h:fh n m t){i:Nat}(ae:i<n):bS m (bZ t i)<=gk n m t:=by
 rw[<-yc h ae];exact Rat.le_trans (AS _ ae) Ot.1
theorem Ou{n m:Nat}{t:List (List Rat)}(h:fh n m t){k:Nat}(aj:k<m):bS n (fun i=>bZ t i k)<=gk n m t:=by
 have e:bS n (fun i=>bZ t i k)=dL (ff m t) k:=by
  rw[yc h.ff aj]
  exact g3 fun i ae=>(tN h ae aj).symm
 rw[e];exact Rat.le_trans (AS _ aj) Ot.2
def fl(n:Nat):List Rat:=List.replicate n 0
def ov(n m:Nat)(t:List (List Rat))(top:Rat)(i:Nat):List Rat:=((t[i]?.getD [])++fl n).set (m+i) (top-bS m (bZ t i))
def rB(n m:Nat)(t:List (List Rat))(top:Rat)(k:Nat):List Rat:=(fl m++iH t k).set k (top-bS n (fun i=>bZ t i k))
theorem JE(n k:Nat):(fl n)[k]?.getD 0=0:=by
 unfold fl
 rw[List.getElem?_replicate]
 split<;>rfl
theorem ZA{n m:Nat}{t:List (List Rat)}{top:Rat}(h:fh n m t){i k:Nat}(ae:i<n)(aj:k<n+m):(ov n m t top i)[k]?.getD 0=gE n m (bZ t) top i k:=by
 obtain⟨r,a1,-,bG,cn,-⟩:=h.at ae
 unfold ov gE
 rw[a1]
 simp only[Option.getD_some,if_pos ae]
 by_cases kD:k<m
 ·rw[if_pos kD,List.getElem?_set_ne (by omega),List.getElem?_append_left (by omega),cn]
 ·rw[if_neg kD]
  by_cases g8:k=m+i
  ·subst g8
   rw[if_pos rfl,List.getElem?_set_self (by simp[fl];omega)]
   rfl
  ·rw[if_neg g8,List.getElem?_set_ne (by omega),List.getElem?_append_right (by omega),JE]
theorem ZB{n m:Nat}{t:List (List Rat)}{top:Rat}(h:fh n m t){i k:Nat}(ae:i<m)(aj:k<n+m):(rB n m t top i)[k]?.getD 0=gE n m (bZ t) top (n+i) k:=by
 unfold rB gE
 rw[if_neg (by omega)]
 have p2:(fl m).length=m:=by simp[fl]
 rw[Nat.add_sub_cancel_left]
 by_cases kD:k<m
 ·rw[if_pos kD]
  by_cases g8:k=i
  ·subst g8
   rw[if_pos rfl,List.getElem?_set_self (by simp[fl];omega)]
   rfl
  ·rw[if_neg g8,List.getElem?_set_ne (by omega),List.getElem?_append_left (by omega),JE]
 ·rw[if_neg kD,List.getElem?_set_ne (by omega),List.getElem?_append_right (by omega),p2]
  have:(iH t i)[k-m]?.getD 0=bZ (ff m t) i (k-m):=by simp[bZ,ff,List.getElem?_range ae]
  rw[this,tN h (by omega) ae]
theorem aeJ{n m:Nat}{r:List Rat}(h:r.length=m):(fl (n+m)).take 0++r.take (n+m)++(fl (n+m)).drop (0+(r.take (n+m)).length)=r++fl n:=by
 rw[List.take_of_length_le (l:=r) (by omega),h]
 simp[fl]
theorem aeK{n m:Nat}{r:List Rat}(h:r.length=n):(fl (n+m)).take m++r.take n++(fl (n+m)).drop (m+(r.take n).length)=fl m++r:=by
 rw[List.take_of_length_le (l:=r) (by omega),h]
 have:n+m-(m+n)=0:=by omega
 simp[fl,this]
theorem FK{t:List (List Rat)}{S i:Nat}{r:List Rat}{f tO:Nat->List Rat}(ar:t.length=S)(ae:i<S)(h:∀a,a<S->t[a]?=some (f a))(al:tO i=r)(ay:∀a,a<S->a≠i->tO a=f a):(t.set i r).length=S/\∀a,a<S->(t.set i r)[a]?=some (tO a):=by
 refine⟨by simp[ar],fun a aO=>?_⟩
 by_cases k3:a=i
 ·subst k3;rw[List.getElem?_set_self (by omega),al]
 ·rw[List.getElem?_set_ne (by omega),h a aO,ay a aO k3]
theorem aaB{n m D:Nat}{t:List (List Rat)}(h:fh n m t)(aG:0<n)(hm:0<m)(aU:ik D t):eY D (gk n m t):=by
 have key:∀{n m:Nat} {t:List (List Rat)},fh n m t->0<n->ik D t->eY D (dy (dL t) n).1:=fun{n m t} h aG aU=>by
  obtain⟨a1,a3⟩:=s6 (dL t) n
  rw[a1,yc h (by omega)]
  exact eY.sum fun k _=>aU.bZ _ k
 unfold gk
 split
 ·exact key h.ff hm aU.ff
 ·exact key h aG aU
theorem aan{n m D:Nat}{t:List (List Rat)}(aU:ik D t){top:Rat}(bM:eY D top)(i k:Nat):eY D (gE n m (bZ t) top i k):=by
 unfold gE
 split
 ·split
  ·exact aU.bZ i k
  ·split
   ·exact bM.sub (eY.sum fun j _=>aU.bZ i j)
   ·exact eY.zero D
 ·split
  ·split
   ·exact bM.sub (eY.sum fun j _=>aU.bZ j k)
   ·exact eY.zero D
  ·exact aU.bZ _ _
theorem aao{n m D:Nat}{t B:List (List Rat)}{top:Rat}(aB:fh n m t)(aU:ik D t)(bM:eY D top)(bC:B.length=n+m)(kz:∀a,a<n+m->B[a]?=some (if a<n then ov n m t top a else if a<n+m then rB n m t top (a-n)else fl (n+m))):
  fh (n+m) (n+m) B/\ik D B/\∀i k,i<n+m->k<n+m->bZ B i k=gE n m (bZ t) top i k:=by
 have he:∀i k,i<n+m->k<n+m->bZ B i k=gE n m (bZ t) top i k:=fun i k ae aj=>by
  unfold bZ
  rw[kz i ae]
  simp only[Option.getD_some]
  by_cases o:i<n
  ·rw[if_pos o];exact ZA aB o aj
  ·rw[if_neg o,if_pos ae]
   have:=ZB (top:=top) aB (i:=i-n) (by omega) aj
   rw[show n+(i-n)=i by omega]at this
   exact this
 have eU:fh (n+m) (n+m) B:=⟨bC,fun r al=>by
  obtain⟨a,aO⟩:=List.mem_iff_getElem?.1 al
  have sr:a<n+m:=by have:=(cK.1 aO).1;omega
  rw[kz a sr]at aO
  simp only[Option.some.injEq]at aO
  rw[<-aO]
  by_cases o:a<n
  ·rw[if_pos o]
   obtain⟨dP,a1,-,bG,-⟩:=aB.at o
   simp[ov,a1,bG,fl];omega
  ·rw[if_neg o,if_pos sr]
   simp[rB,fl,iH,aB.len];omega⟩
 refine⟨eU,fun r al q av=>?_,he⟩
 obtain⟨i,ae,oY⟩:=eU.mem al
 obtain⟨dP,a1,-,bG,cn,-⟩:=eU.at ae
 have:dP=r:=by rw[oY]at a1;exact(Option.some.inj a1).symm
 subst this
 obtain⟨k,aj⟩:=List.mem_iff_getElem?.1 av
 have je:k<n+m:=by have:=(cK.1 aj).1;omega
 have:=cn k
 rw[aj]at this
 simp only[Option.getD_some]at this
 rw[this,he i k ae je]
 exact aan aU bM i k
theorem aap{v:Value}{t:List (List Rat)}{n m N D:Nat}{H:ab}(bc:hC H v t)(aB:fh n m t)(aG:0<n)(hm:0<m)(m5:n<10000)(mq:m<10000)(aH:∀i k,i<n->k<m->0<=bZ t i k)(aU:ik D t)(eO:l2 D N (gk n m t)):
  aP prog 68 [.agg #[v]] H (fun u H1=>Ext H H1/\∃w s,u= .agg #[w]/\hC H1 w s/\fh (n+m) (n+m) s/\ik D s/\∀i k,i<n+m->k<n+m->bZ s i k=gE n m (bZ t) (gk n m t) i k):=by
 refine aP.b9 fun Q aE=>?_
 have ob:=aB.len
 obtain⟨fz,g9,oX,q7,LF,xq⟩:=aB.at aG
 have lM:∀r∈t,r.length<65536:=fun r h=>by have:=aB.row r h;omega
 have xz:=FI aB aU eO aH fun i ae=>Ov aB ae
 have uF:=aB.ff
 have oU:ik D (ff m t):=aU.ff
 have xy:=FI uF oU eO (fun k i aj ae=>by rw[tN aB ae aj];exact aH i k ae aj) fun k aj=>by
  have:=Ou aB aj
  rw[g3 fun i ae=>tN aB ae aj]
  exact this
 apply XJ (by simp)
 obtain⟨a,c,rfl⟩:=Row.len bc
 simp[Ia]
 have bn:Ext H (H++[.dead,.dead]):=Ext.more H (by simp)
 refine aV.mk (AK (bc.ext bn) ob) ?_
 rintro u H1 ⟨bx,rfl⟩
 refine⟨bx,?_⟩
 simp
 refine aV.mk (x1 (bc.ext (bn.aw bx)) g9 q7) ?_
 rintro u aR ⟨bm,rfl⟩
 have nc:=bn.aw (bx.aw bm)
 simp
 refine aV.mk (Ow (m:=m) (bc.ext nc) (by omega) (by omega) aB.row (by omega)) ?_
 rintro u bP ⟨bN,cH,rfl,ir⟩
 simp
 refine dE.mk (by obtain⟨a,c,rfl⟩:=Row.len ir;rfl) ?_
 simp
 have cr:Ext bP (bP++[.dead]):=Ext.dead bP
 have V5:=bN.aw cr
 have xH:=nc.aw V5
 refine aV.mk (AU (N:=N) (bc.ext xH) (by omega) (by omega) lM xz eO.bits) ?_
 rintro u cb ⟨c0,vA,rfl,AF⟩
 have V3:=xH.aw c0
 simp
 refine cO.mk AF.whole ?_
 simp
 have cL:=Ext.dead cb
 have o3:=cr.aw (c0.aw cL)
 have aX:=x7 xz (t:=t) (n:=n) (by omega) (by omega)
 have aj:=x7 xy (t:=ff m t) (n:=m) (by rw[uF.len];omega) (by rw[uF.len];omega)
 have Vy:=uF.len
 rw[ob]at AF
 have rf:hC (cb++[.dead]) cH (ff m t):=ir.ext o3
 refine cc.join (by kernel_rfl) (fun nA mK cS=>Ext (cb++[.dead]) cS/\ca cS (mK 6) (gk n m t)) ?_ ?_
 ·rintro K a0-
  simp
  refine aV.mk (AU (N:=N) rf (by omega) (by omega) (fun r h=>by have:=uF.row r h;omega) xy eO.bits) ?_
  rintro u cS ⟨cD,Pd,rfl,rb⟩
  rw[Vy]at rb
  simp
  refine cO.mk rb.whole ?_
  simp
  have c1:=Ext.dead cS
  refine aV.mk (A8 (N:=N) (rb.ext c1) (AF.ext (cL.aw (cD.aw c1))) aj aX eO.bits) ?_
  rintro u fC ⟨dx,rfl⟩
  simp
  refine bH.b_ (fun ad=>?_) (fun ad=>?_)
  ·have a6:=IY ad
   simp
   refine cO.mk rb.whole ?_
   refine a0 _ _ _ ⟨cD.aw (c1.aw dx),?_⟩
   unfold gk
   rw[if_pos a6]
   simpa using rb.ext (c1.aw dx)
  ·have a6:=I0 ad
   refine a0 _ _ _ ⟨cD.aw (c1.aw dx),?_⟩
   unfold gk
   rw[if_neg a6]
   simpa using AF.ext (cL.aw (cD.aw (c1.aw dx)))
 rintro nA mK cS ⟨cD,mv⟩
 simp at mv
 have xI:=V3.aw (cL.aw cD)
 have zH:=bc.ext xI
 have rb:=rf.ext cD
 have LV:de N (gk n m t):=by
  unfold gk
  split
  ·exact aj
  ·exact aX
 have jd:IntKind.i64.wrap ((n:Int)+(m:Int))=((n+m:Nat):Int):=by rw[b6 (by omega) (by omega)];simp
 simp[jd]
 refine yt (e:=120) (U:=1) (bA:=24) (aC:=false) (n:=n+m) (eW:= .i64) (c4:= .i64) (z:= .slice none 0 0) (af:=gU) (a:= .slice none 0 0) (by simp) (by simp) (by simp) (by rfl) (by rfl) (by simp) (Gd _ _ _) (by simp) (by simp) (by decide) (by decide) (by omega) (fun aF=>rfl) ?_
 intro ld lf eN eH c1
 have xc:0<cS.length:=by have:=Ext.len xI;have:=Ext.len cD;simp at this;omega
 have S5:=eo.M5 (e:=80) (U:=4) (aC:=true) (af:=ca) xc eH
 simp
 refine c9 (af:=gU) (xs:=List.replicate (n+m) (.slice none 0 0)) (by simpa using eH.row) (by simp) ?_
 simp
 have Wb:∀a,(List.replicate (n+m) ([]:List Rat))[a]?=if a<n+m then some []else none:=fun a=>by rw[List.getElem?_replicate]
 refine dF.range (by kernel_rfl) (n+m) (by omega) (by simp) (by rfl) (by simp) (by decide) (by decide) (fun i vH tr fC=>Ext cS fC/\∃B us,eo cS.length 120 80 4 true ca fC (.slice ld (n+m) lf) B us/\B.length=n+m/\∀a,a<n+m->B[a]?=some (if a<i then fl (n+m)else[])) ?_ ?_ ?_
 ·exact⟨c1,_,_,S5,by simp,fun a aO=>by rw[Wb,if_pos aO];simp⟩
 ·rintro i vH tr fC ae oN ⟨dx,B,us,wN,bC,kz⟩ K a0
  simp at oN
  simp[oN]
  refine aV.mk (A_ (n:=0) (by omega) (by omega)) ?_
  rintro z kq ⟨fQ,aM⟩
  refine Bu (e:=80) (U:=4) (aC:=true) (z:= .agg #[.bool false,.slice none 0 0,.bool false,.slice none 0 0]) (af:=ca) (a:=((0:Int):Rat)) (fun aF J=>by simpa using aM.ext J) (by simpa using aM.whole) (by simp) (by simp) (by simp) (by rfl) (by first | rfl | simp[flat,g5]) (by rfl) (by decide) (by decide) ?_
  intro akb iD CU fY
  simp[jd]
  refine aV.mk (Zu (af:=ca) (n:=n+m) CU.row (by omega) (fun H u y h=>h.whole) (fun H aF dv u y aj h=>h.kept aj (by decide))) ?_
  rintro Pa ig ⟨gP,ub⟩
  have Mm:=fQ.aw (fY.aw gP)
  have Un:=Ext.len dx
  have ahk:=Ext.len (fQ.aw fY)
  have kh:=wN.ext Mm
  have AE:=ub.jr
  have kF:us.length=n+m:=by rw[wN.len,bC]
  refine kK (k:=cS.length) (e:=120) (U:=1) (aC:=false) (n:=i) (af:=gU) (xs:=us) (a:=Pa) (by simpa using kh.own) (by simp) (by omega) (by simp[gU]) (by simpa using AE) (by simp) (fun _ _ _ _ _ h=>h) (by simp) (by simp) (by simp) (by decide) ?_
  rintro A3 kr lD hS oW ahl-
  simp at lD oW
  have q2:=eo.Y9 (o6:=iD.length) kh (i:=i) (nr:=List.replicate (n+m) ((0:Int):Rat)) (by omega) (fun b aH ag=>(ub.ge ag aH).1) (fun j u b hu ag aH=>by have:=wN.lt j u b hu ag aH;omega) (by decide) (ub.le (by omega)) lD oW (fun u x h=>h.kept oW (by decide))
  refine a0 _ _ _ (by simp[oN]) ⟨hS _ (Nat.le_refl _) (dx.aw Mm),_,_,q2,?_⟩
  refine FK (tO:=fun a=>if a<i+1 then fl (n+m)else[]) bC ae kz (by simp[fl]) fun a aO k3=>?_
  by_cases o:a<i
  ·simp[o,show a<i+1 by omega]
  ·simp[o,show¬a<i+1 by omega]
 ·rintro vH tr fC oN ⟨dx,B,us,wN,bC,kz⟩
  have R6:∀a,a<n+m->B[a]?=some (if a<0 then ov n m t (gk n m t) a else fl (n+m)):=fun a aO=>by rw[kz a aO,if_pos aO,if_neg (Nat.not_lt_zero a)]
  simp
  refine dF.range (by kernel_rfl) n (by omega) (by simp) (by rfl) (by simp) (by decide) (by decide) (fun i Gn Gs kq=>Ext cS kq/\∃B us,eo cS.length 120 80 4 true ca kq (.slice ld (n+m) lf) B us/\B.length=n+m/\∀a,a<n+m->B[a]?=some (if a<i then ov n m t (gk n m t) a else fl (n+m))) ?_ ?_ ?_
  ·exact⟨dx,B,us,wN,bC,R6⟩
  ·rintro i Gn Gs kq ae wz ⟨fQ,B,us,ui,bC,kz⟩ K a0
   simp at wz
   have wv:=kz i (by omega)
   rw[if_neg (Nat.lt_irrefl i)]at wv
   refine Exists.elim (ui.vn wv) fun vw hu=>?_
   refine Exists.elim (aB.at ae) fun lk al=>?_
   have oY:=al.1
   have DU:=al.2.2.1
   have DV:=al.2.2.2.2
   have kF:us.length=n+m:=by rw[ui.len,bC]
   have SY:=zH.ext fQ
   have p2:(fl (n+m)).length=n+m:=by simp[fl]
   simp[wz]
   refine dc (af:=gU) (xs:=us) (n:=i) (a:=vw) (e:=120) (U:=1) (aC:=false) (by simpa using ui.own.row) (by simp) hu.1 (by simp) (by simp) (by simp) (by decide) ?_
   rintro YT yz rfl
   simp
   refine dc (af:=iW) (xs:=t) (n:=i) (a:=lk) (e:=120) (U:=1) (aC:=false) (by simpa using SY) (by simp) oY (by simp) (by simp) (by simp) (by decide) ?_
   intro Np ac9 VC
   refine rJ (e:=80) (U:=4) (aC:=true) (af:=ca) (xs:=fl (n+m)) (bO:=lk) (u:=yz) (j:=0) (m:=n+m) (k:=cS.length) hu.2 (by simpa[p2]using hu.2.sub) (by omega) (by simpa using VC) (fun u y h=>h.whole) (fun aF dv u y aj h=>h.kept aj (by decide)) (by simp) (by simp) (by simp) (by decide) (by decide) ?_
   rintro kr lD hS oW- -
   rw[aeJ DU]at lD
   have sl:=ui.inner hu.1 (by decide) oW lD (fun u x h=>h.kept oW (by decide))
   have sY:=hS _ (Nat.le_refl _) fQ
   have C4:=zH.ext sY
   have h5:IntKind.i64.wrap ((m:Int)+(i:Int))=((m+i:Nat):Int):=by rw[b6 (by omega) (by omega)];simp
   simp[wz]
   refine dc (af:=gU) (xs:=us) (n:=i) (a:=yz) (e:=120) (U:=1) (aC:=false) (by simpa using sl.own.row) (by simp) hu.1 (by simp) (by simp) (by simp) (by decide) ?_
   rintro Nq OY rfl
   simp[h5]
   refine aV.mk (xY (j:=i) C4 oY (by omega) (by omega) (xz lk al.2.1).1 (xz lk al.2.1).2 eO.bits) ?_
   rintro F9 ks ⟨hT,ra⟩
   refine⟨hT,?_⟩
   simp
   refine aV.mk (Fh (N:=N) (mv.ext (sY.aw hT)) ra LV (xz.sum al.2.1) eO.bits) ?_
   rintro Pb rX ⟨ji,sX⟩
   refine⟨ji,?_⟩
   have o0:=hT.aw ji
   have C6:=sl.ext o0
   have CV:=b7.ext (af:=bB cS.length 80 4 true ca) lD o0
   refine kK (k:=cS.length) (e:=80) (U:=4) (aC:=true) (n:=m+i) (af:=ca) (xs:=lk++fl n) (a:=gk n m t-hb lk) (by simpa using CV) (by simp) (by simp[fl];omega) (by simpa using sX) (by simpa using sX.whole) (by simp) (fun aF dv u y aj h=>h.kept aj (by decide)) (by simp) (by simp) (by simp) (by decide) ?_
   rintro Nr yN wG oh sB Uk-
   simp at wG sB
   have wK:=C6.inner hu.1 (by decide) sB wG (fun u x h=>h.kept sB (by decide))
   rw[List.set_set]at wK
   simp
   refine a0 _ _ _ (by simp[wz]) ⟨oh _ (Nat.le_refl _) (sY.aw o0),_,us,wK,?_⟩
   refine FK (tO:=fun a=>if a<i+1 then ov n m t (gk n m t) a else fl (n+m)) bC (by omega) kz ?_ fun a aO k3=>?_
   ·simp[ov,oY,DV]
   ·by_cases o:a<i
    ·simp[o,show a<i+1 by omega]
    ·simp[o,show¬a<i+1 by omega]
  ·rintro Gn Gs kq wz ⟨fQ,B,us,ui,bC,kz⟩
   have R4:∀a,a<n+m->B[a]?=some (if a<n then ov n m t (gk n m t) a else if a<n+0 then rB n m t (gk n m t) (a-n)else fl (n+m)):=fun a aO=>by
    rw[kz a aO]
    by_cases o:a<n
    ·simp[o]
    ·simp[o]
   simp
   refine dF.range (by kernel_rfl) m (by omega) (by simp) (by rfl) (by simp) (by decide) (by decide) (fun i rT qq ig=>Ext cS ig/\∃B us,eo cS.length 120 80 4 true ca ig (.slice ld (n+m) lf) B us/\B.length=n+m/\∀a,a<n+m->B[a]?=some (if a<n then ov n m t (gk n m t) a else if a<n+i then rB n m t (gk n m t) (a-n)else fl (n+m))) ?_ ?_ ?_
   ·exact⟨fQ,B,us,ui,bC,R4⟩
   ·rintro i rT qq ig ae lC ⟨gP,B,us,kh,bC,kz⟩ K a0
    simp at lC
    have wv:=kz (n+i) (by omega)
    rw[if_neg (by omega),if_neg (by omega)]at wv
    refine Exists.elim (kh.vn wv) fun vw hu=>?_
    refine Exists.elim (uF.at ae) fun lk al=>?_
    have oY:=al.1
    have DU:=al.2.2.1
    have DV:=al.2.2.2.2
    have kF:us.length=n+m:=by rw[kh.len,bC]
    have SZ:=rb.ext gP
    have p2:(fl (n+m)).length=n+m:=by simp[fl]
    have h5:IntKind.i64.wrap ((n:Int)+(i:Int))=((n+i:Nat):Int):=by rw[b6 (by omega) (by omega)];simp
    simp[lC,h5]
    refine dc (af:=gU) (xs:=us) (n:=n+i) (a:=vw) (e:=120) (U:=1) (aC:=false) (by simpa using kh.own.row) (by simp) hu.1 (by simp) (by simp) (by simp) (by decide) ?_
    rintro YT yz rfl
    simp
    refine Bx (e:=80) (U:=4) (aC:=true) (af:=ca) (xs:=fl (n+m)) (l:=m) (h:=n+m) (k:=cS.length) (by simpa using hu.2) (by simp) (by simp) (by decide) (by simp[dO]) (by simp[e2,p2]) (by omega) (by omega) ?_
    intro ajW ahN lQ
    simp[p2]at lQ
    simp
    refine dc (af:=iW) (xs:=ff m t) (n:=i) (a:=lk) (e:=120) (U:=1) (aC:=false) (by simpa using SZ) (by simp) oY (by simp) (by simp) (by simp) (by decide) ?_
    intro A3 OX D7
    refine rJ (e:=80) (U:=4) (aC:=true) (af:=ca) (xs:=fl (n+m)) (bO:=lk) (u:=yz) (j:=m) (m:=n) (k:=cS.length) hu.2 (by simpa[p2]using lQ) (by omega) (by simpa using D7) (fun u y h=>h.whole) (fun aF dv u y aj h=>h.kept aj (by decide)) (by simp) (by simp) (by simp) (by decide) (by decide) ?_
    rintro kr lD hS oW- -
    rw[aeK DU]at lD
    have sl:=kh.inner hu.1 (by decide) oW lD (fun u x h=>h.kept oW (by decide))
    have sY:=hS _ (Nat.le_refl _) gP
    have C4:=rb.ext sY
    simp[lC,h5]
    refine dc (af:=gU) (xs:=us) (n:=n+i) (a:=yz) (e:=120) (U:=1) (aC:=false) (by simpa using sl.own.row) (by simp) hu.1 (by simp) (by simp) (by simp) (by decide) ?_
    rintro Nq OY rfl
    simp
    refine aV.mk (xY (j:=i) C4 oY (by omega) (by omega) (xy lk al.2.1).1 (xy lk al.2.1).2 eO.bits) ?_
    rintro F9 ks ⟨hT,ra⟩
    refine⟨hT,?_⟩
    simp
    refine aV.mk (Fh (N:=N) (mv.ext (sY.aw hT)) ra LV (xy.sum al.2.1) eO.bits) ?_
    rintro Pb rX ⟨ji,sX⟩
    refine⟨ji,?_⟩
    have o0:=hT.aw ji
    have C6:=sl.ext o0
    have CV:=b7.ext (af:=bB cS.length 80 4 true ca) lD o0
    refine kK (k:=cS.length) (e:=80) (U:=4) (aC:=true) (n:=i) (af:=ca) (xs:=fl m++lk) (a:=gk n m t-hb lk) (by simpa using CV) (by simp) (by simp[fl];omega) (by simpa using sX) (by simpa using sX.whole) (by simp) (fun aF dv u y aj h=>h.kept aj (by decide)) (by simp) (by simp) (by simp) (by decide) ?_
    rintro Nr yN wG oh sB Uk-
    simp at wG sB
    have wK:=C6.inner hu.1 (by decide) sB wG (fun u x h=>h.kept sB (by decide))
    rw[List.set_set]at wK
    have TL:lk=iH t i:=by
     have:(ff m t)[i]?=some (iH t i):=by simp[ff,List.getElem?_range ae]
     rw[this]at oY
     exact(Option.some.inj oY).symm
    have As:hb lk=bS n (fun j=>bZ t j i):=by
     rw[DV];exact g3 fun j aX=>tN aB aX ae
    simp
    refine a0 _ _ _ (by simp[lC]) ⟨oh _ (Nat.le_refl _) (sY.aw o0),_,us,wK,?_⟩
    refine FK (tO:=fun a=>if a<n then ov n m t (gk n m t) a else if a<n+(i+1)then rB n m t (gk n m t) (a-n)else fl (n+m)) bC (by omega) kz ?_ fun a aO k3=>?_
    ·rw[if_neg (by omega),if_pos (by omega),Nat.add_sub_cancel_left]
     unfold rB
     rw[<-TL,As]
    ·by_cases o:a<n
     ·simp[o]
     ·by_cases aa:a<n+i
      ·simp[o,aa,show a<n+(i+1) by omega]
      ·simp[o,aa,show¬a<n+(i+1) by omega]
   ·rintro rT qq ig lC ⟨gP,B,us,kh,bC,kz⟩
    have fj:=kh.row
    simp[bf]
    have TS:=aao aB aU (aaB aB aG hm aU) bC kz
    exact aE _ _ ⟨xI.aw gP,_,B,rfl,fj,TS⟩
def e_(H:ab)(v:Value)(p:List Nat×List Int):Prop:=∃a n c,v= .agg #[.string (cf p.1),.slice a n c]/\Row 3 1 false IR H (.slice a n c) p.2
instance:b7 e_:=⟨fun⟨a,n,c,h,o⟩ J=>⟨a,n,c,h,b7.ext (af:=Row _ _ _ IR) o J⟩⟩
theorem e_.jr{H:ab}{v:Value}{p:List Nat×List Int}(h:e_ H v p):Whole prog 93 v:=by
 obtain⟨a,n,c,rfl,-⟩:=h
 exact⟨by rfl,by simp[Value.cells,Value.oneCell'],by simp[e3]⟩
theorem e_.kept{H aF:ab}{e:Nat}{s v:Value}{p:List Nat×List Int}(h:e_ H v p)(aj:Kept H aF s e)(aa:3≠e):e_ aF v p:=by
 obtain⟨a,n,c,rfl,a3⟩:=h
 exact⟨a,n,c,rfl,a3.kept aj aa fun _ _ h=>h⟩
section
variable {P:Program} {r:List bz} {F:Fr} {H:ab} {Q:Fr->ab->Prop} {α:Type}
theorem yv{eh:Bool}{d1 d2 t bV cI e U bA k:Nat}{aC:Bool}{s x:Operand}{z:Value}{af:ab->Value->α->Prop}{xs:List α}{a:α}{ax:ba ((⟨eh,none,some d1,.buildSlice t 1 #[(0,x)]⟩:bz)::ap d2 bV cI s (T d1)::r) Q}(cy:bB k e U aC af H (aq F s) xs)(aO:af H (aq F x) a)
  (hw:Whole P e (aq F x))(fq:∀v,aq (a4 F d1 v) s=aq F s)(hj:∀aF dv u y,Kept H aF dv e->af H u y->af aF u y)
  (bM:P.underlying t=some (.slice e))(hu:P.underlying bV=some (.slice e))(J:fB P cI=true)(ao:bq P e=some U)(ek:ds P e=some aC)(ag:bytes? P e=some bA)(aM:dA P e=some z)(dS:flat z=true)(dg:z.cells.size=U)(df:0<U)(q8:U<=1000)
  (dY:0<bA)(bw:(xs.length+1)*bA<=140737488355328)(aj:k<=H.length)
  (K:∀p er eE aF,bB k e U aC af aF (.slice er (xs.length+1) eE) (xs++[a])->(∀cx:ab,cx.length<=k->Ext cx H->Ext cx aF)->Kept H aF (aq F s) e->a_ P r Q .mk (a4 (a4 F d1 p) d2 (.slice er (xs.length+1) eE)) aF):
  a_ P ((⟨eh,none,some d1,.buildSlice t 1 #[(0,x)]⟩:bz)::ap d2 bV cI s (T d1)::r) Q ax F H:=
 qh cy aO hw fq hj bM hu J ao ek ag aM dS dg df q8 dY bw aj fun p au aF mc a1 a3=>by
  have ar:=mc.len
  rw[List.length_append,List.length_singleton]at ar
  obtain⟨er,eE,rfl⟩:=ar
  exact K p er eE aF mc a1 a3
end
theorem aaN{d t d2 n:Nat}{x i:Operand}{r:List bz}{F:Fr}{H:ab}{Q:Fr->ab->Prop}{xs:List (Rat×List Int)}{a:Rat×List Int}{ax:ba (bu d t x i::aI d2 113 (T d)::r) Q}(br:Row 113 5 true jK H (aq F x) xs)(ae:aq F i= .int .i64 (n:Int))(aO:xs[n]?=some a)
  (bM:fe prog t=some 113)(K:∀p s1 bY cQ cm s2 cC cW cF eC eJ,ca H (.agg #[.bool s1,.slice bY cQ cm,.bool s2,.slice cC cW cF]) a.1->Row 3 1 false IR H (.slice eC a.2.length eJ) a.2->a_ prog r Q .mk (a4 (a4 F d p) d2 (.agg #[.bool s1,.slice bY cQ cm,.bool s2,.slice cC cW cF,.slice eC a.2.length eJ])) H):a_ prog (bu d t x i::aI d2 113 (T d)::r) Q ax F H:=
 dc br ae aO bM (by rfl) (by rfl) (by decide) fun p u ⟨s1,bY,cQ,cm,s2,cC,cW,cF,eC,j3,eJ,hu,o,aa⟩=>by
  subst hu
  obtain⟨fw,dR,he⟩:=aa.len
  simp at he
  obtain⟨rfl,rfl,rfl⟩:=he
  exact K p s1 bY cQ cm s2 cC cW cF eC eJ o aa
theorem aaJ(N:Nat)(h:N<=10000):2^N<=10^4000:=by
 have o:=rA 2 N 10000 (by decide) h
 have aa:=Fa 2 5 2000 10000 (by decide)
 have aA:=Fa 10 2 2000 4000 (by decide)
 have bo:=Fb (2^5) (10^2) 2000 (by decide)
 rw[aA]
 exact Nat.le_trans o (by rw[aa];exact bo)
theorem Jd{n N:Nat}(h:n<2^N)(bX:N<=10000):(dec n).length<=4000:=by
 unfold dec
 split
 ·decide
 ·rw[List.length_reverse]
  exact NQ n 4000 (Nat.lt_of_lt_of_le h (aaJ N bX))
theorem de.AZ{N:Nat}{q:Rat}(h:de N q)(bX:N<=10000):kR q:=⟨Jd h.1 bX,.inr (Jd h.2 bX)⟩
theorem ku.congr{n:Nat}{B kM:Nat->Nat->Rat}{L:Rat}(h:ku n B L)(e:∀i k,i<n->k<n->kM i k=B i k):ku n kM L:=
 ⟨fun i k ae aj=>by rw[e i k ae aj];exact h.iS i k ae aj,fun i ae=>by rw[<-h.row i ae];exact g3 fun k aj=>e i k ae aj,fun k aj=>by rw[<-h.qF k aj];exact g3 fun i ae=>e i k ae aj⟩
theorem rS.congr{n:Nat}{A B:Nat->Nat->Rat}{L:Rat}{aW:List (Rat×List Int)}(h:rS n A L aW)(e:∀i k,i<n->k<n->B i k=A i k):rS n B L aW:=
 ⟨h.parts,fun i k ae aj=>by rw[h.sum i k ae aj,e i k ae aj],h.len,h.mU⟩
def yl(n m:Nat)(p:Rat×List Int):List Nat×List Int:=(gh p.1,jN n m p.2)
theorem ZU{v:Value}{t:List (List Rat)}{n m N D:Nat}{H:ab}(bc:hC H v t)(aB:fh n m t)(aG:0<n)(hm:0<m)(m5:n<10000)(mq:m<10000)(aH:∀i k,i<n->k<m->0<=bZ t i k)(aU:ik D t)(eO:l2 D N (gk n m t))(bX:N<=10000):
  aP prog 38 [.agg #[v]] H (fun u H1=>Ext H H1/\∃w aW,u= .tuple #[w,.int .i64 0]/\yU n m (bZ t) (gk n m t) aW/\(∀p∈aW,eY D p.1)/\Row 93 2 true e_ H1 w (aW.map fun p=>(gh p.1,p.2))):=by
 refine aP.b9 fun Q aE=>?_
 have ob:=aB.len
 obtain⟨fz,g9,oX,q7,LF,xq⟩:=aB.at aG
 apply XI (by simp)
 obtain⟨a,c,rfl⟩:=Row.len bc
 simp[H_]
 have bn:Ext H (H++[.dead]):=Ext.dead H
 refine aV.mk (aap (bc.ext bn) aB aG hm m5 mq aH aU eO) ?_
 rintro u H1 ⟨bx,a7,s,rfl,ao,TR,T5,KJ⟩
 have Us:ku (n+m) (bZ s) (gk n m t):=(aam aH (fun i ae=>Ov aB ae) (fun k aj=>Ou aB aj)).congr KJ
 try simp
 refine aV.mk (QF (N:=N) ao TR (by omega) (by omega) Us T5 eO) ?_
 rintro u aR ⟨bm,aW,uC,Lb,jY⟩
 have UU:=(uC.congr fun i k ae aj=>(KJ i k ae aj).symm).Y1
 have nc:=bn.aw (bx.aw bm)
 have h3:=bc.ext nc
 have jU:0<aR.length:=by have:=Ext.len nc;have:=Ext.len (bx.aw bm);simp at this;omega
 refine c9 (af:=jK) (xs:=aW) (by simpa using jY) (by simp) ?_
 try simp
 have TX:aW.length<=(n+m)*(n+m):=uC.mU
 have ag8:(n+m)*(n+m)<=20000*20000:=Nat.mul_le_mul (by omega) (by omega)
 refine dF.range (by kernel_rfl) aW.length (by omega) (by simp) (by rfl) (by simp) (by decide) (by decide) (fun i dh ey bP=>Ext aR bP/\bB aR.length 93 2 true e_ bP (dh 4) ((aW.take i).map (yl n m))) ?_ ?_ ?_
 ·exact⟨Ext.refl _,by simpa using bB.nil _ _ _ _ _ _⟩
 ·rintro i dh ey bP ae wA ⟨bN,hi⟩ K a0
  simp at wA hi
  refine Exists.elim (⟨_,bJ ae⟩:∃p,aW[i]?=some p) fun p aY=>?_
  have lL:=List.mem_of_getElem? aY
  have m7:=(uC.parts p lL).2
  have h6:=(uC.parts p lL).1
  have df:de N p.1:=eO.U (Lb p lL) (Rat.le_of_lt h6) (by
   rw[<-uC.len];exact(E6 fun p aY=>(uC.parts p aY).1).2 p lL)
  simp[wA]
  refine aaN (xs:=aW) (n:=i) (a:=p) (by simpa using b7.ext (af:=Row _ _ _ jK) jY bN) (by simp[wA]) aY (by simp) ?_
  intro gC s1 bY cQ cm s2 cC cW cF eC eJ U3 Ue
  try simp
  have gg:=Ext.dead bP
  refine aV.mk (NX (U3.ext gg) df (by omega)) ?_
  rintro u cb ⟨c0,hu⟩
  rw[if_pos (df.AZ bX)]at hu
  subst hu
  have p0:=gg.aw c0
  try simp
  have cL:=Ext.dead cb
  have S0:=h3.ext (bN.aw (p0.aw cL))
  refine aV.mk (x1 S0 g9 q7) ?_
  rintro u cS ⟨cD,rfl⟩
  refine⟨cD,?_⟩
  have El:=p0.aw (cL.aw cD)
  have zH:=h3.ext (bN.aw El)
  have kE:=m7.len
  try simp
  refine rL (e:=3) (U:=1) (aC:=false) (af:=IR) (xs:=p.2) (l:=0) (h:=m) (by simpa using b7.ext (af:=Row _ _ _ IR) Ue El) (by simp) (by simp) (by decide) (by simp[dO]) (by simp[e2]) (by omega) (by omega) ?_
  intro ajZ Ee
  have Rh:(p.2.drop 0).take (m-0)=p.2.take m:=by simp
  rw[Rh]at Ee
  refine c9 (af:=IR) (xs:=p.2.take m) (by simpa using Ee) (by simp) ?_
  have qZ:(p.2.take m).length=m:=by simp;omega
  simp[qZ]
  refine dF.range (by kernel_rfl) m (by omega) (by simp[kE]) (by rfl) (by simp) (by decide) (by decide) (fun j vH tr fC=>Ext cS fC/\∃er eE,tr 9= .agg #[.string (cf (gh p.1)),.slice er j eE]/\bB cS.length 3 1 false IR fC (.slice er j eE) ((jN n m p.2).take j)) ?_ ?_ ?_
  ·exact⟨Ext.refl _,none,0,by simp,by simpa using bB.nil _ _ _ _ _ _⟩
  ·rintro j vH tr fC aX oN ⟨dx,er,eE,t_,mV⟩ aeW Sq
   simp at oN t_
   refine Exists.elim (m7.dN j (by omega)) fun x J=>?_
   have bx:=J.1
   have Me:=J.2
   have UZ:(p.2.take m)[j]?=some (x:Int):=by rw[List.getElem?_take_of_lt aX];exact Me
   have TN:(jN n m p.2)[j]?=some (if(n:Int)<=(x:Int)then(-1:Int)else(x:Int)):=by rw[Ck,if_pos aX,Me];rfl
   have fP:(jN n m p.2).length=m:=m7.cut.len
   try simp[oN]
   refine dc (af:=IR) (xs:=p.2.take m) (n:=j) (a:=(x:Int)) (e:=3) (U:=1) (aC:=false) (by simpa using b7.ext (af:=Row _ _ _ IR) Ee dx) (by simp[oN]) UZ (by simp) (by simp) (by simp) (by decide) ?_
   rintro E1 ac8 rfl
   try simp
   have uh:=zH.ext dx
   refine cc.join (by kernel_rfl) (fun qn tp iD=>Ext fC iD/\qn 11= .int .i64 (if(n:Int)<=(x:Int)then(-1:Int)else(x:Int))) ?_ ?_
   ·rintro aeT J7-
    try simp
    refine aV.mk (AK uh ob) ?_
    rintro u iD ⟨fY,rfl⟩
    try simp
    refine bH.b_ (fun ad=>?_) (fun ad=>?_)
    ·try simp
     refine J7 _ _ _ ⟨fY,?_⟩
     rw[if_pos (by omega)];simp
    ·refine J7 _ _ _ ⟨fY,?_⟩
     rw[if_neg (by omega)];simp
   ·rintro qn tp iD ⟨fY,ma⟩
    simp at ma
    have CU:=b7.ext (af:=bB cS.length 3 1 false IR) mV fY
    have xc:=Ext.len (dx.aw fY)
    simp[t_,ma]
    refine yv (k:=cS.length) (e:=3) (U:=1) (aC:=false) (bA:=8) (z:= .int .i64 0) (af:=IR) (xs:=(jN n m p.2).take j) (a:=(if(n:Int)<=(x:Int)then(-1:Int)else(x:Int))) (by simpa using CU) (by simp[IR,ma]) (by simp[ma];split<;>exact j8 _) (by simp) (fun _ _ _ _ _ h=>h) (by simp) (by simp) (by simp) (by simp) (by simp) (by rfl) (by rfl) (by rfl) (by rfl) (by decide) (by decide) (by decide) (by simp;omega) (by omega) ?_
    intro Np PM Qd ig ub gP ahg
    have gA:((jN n m p.2).take j).length=j:=by simp;omega
    rw[gA]at ub
    simp[t_,gA]
    refine Sq _ _ _ (by simp[oN]) ⟨gP _ (Nat.le_refl _) (dx.aw fY),PM,Qd,by simp,?_⟩
    rw[List.take_add_one,TN]
    exact ub
  ·rintro vH tr fC oN ⟨dx,er,eE,t_,mV⟩
   simp at t_
   have fP:(jN n m p.2).length=m:=m7.cut.len
   have SG:bB cS.length 3 1 false IR fC (.slice er m eE) (jN n m p.2):=by
    rw[<-List.take_of_length_le (l:=jN n m p.2) (i:=m) (by omega)];exact mV
   have Em:=El.aw dx
   have zG:e_ fC (.agg #[.string (cf (gh p.1)),.slice er m eE]) (yl n m p):=⟨er,m,eE,rfl,SG.row⟩
   have ahp:=Ext.len (bN.aw Em)
   simp[t_]
   refine qh (k:=aR.length) (e:=93) (U:=2) (aC:=true) (bA:=40) (z:= .agg #[.string ⟨#[]⟩,.slice none 0 0]) (af:=e_) (xs:=(aW.take i).map (yl n m)) (a:=yl n m p) (by simpa using b7.ext (af:=bB _ _ _ _ e_) hi Em) (by simpa using zG) (by simpa using zG.jr) (by simp) (fun aF dv u y aj h=>h.kept aj (by decide)) (by simp) (by simp) (by simp) (by simp) (by simp) (by rfl) (by rfl) (by first | rfl | simp[flat,g5]) (by rfl) (by decide) (by decide) (by decide) (by simp;omega) (by omega) ?_
   intro A3 adh kr lD hS oW
   try simp
   refine a0 _ _ _ (by simp[wA]) ⟨hS _ (Nat.le_refl _) (bN.aw Em),?_⟩
   rw[List.take_add_one,aY,List.map_append]
   simpa using lD
 ·rintro dh ey bP wA ⟨bN,hi⟩
  simp at hi
  have fj:=hi.row
  have e:aW.map (yl n m)=(aW.map fun p=>(p.1,jN n m p.2)).map fun p=>(gh p.1,p.2):=by
   rw[List.map_map];rfl
  rw[e]at fj
  simp[bf]
  refine aE _ _ ⟨nc.aw bN,_,_,rfl,UU,fun p aY=>?_,fj⟩
  rw[List.mem_map]at aY
  obtain⟨q,av,rfl⟩:=aY
  exact Lb q av
theorem A9{t:List (List Int)}{n m:Nat}(aG:t.length=n)(hm:∀r∈t,r.length=m):fh n m (cX t):=
 ⟨by simp[cX,aG],fun r al=>by
  unfold cX at al
  rw[List.mem_map]at al
  obtain⟨dP,fx,rfl⟩:=al
  simpa using hm dP fx⟩
theorem vh(t:List (List Int))(i k:Nat):bZ (cX t) i k=(((t[i]?.getD [])[k]?.getD 0:Int):Rat):=by
 unfold bZ cX
 rw[List.getElem?_map]
 cases al:t[i]? with
 | none=>simp
 | some r=>
  simp only[Option.map_some,Option.getD_some,List.getElem?_map]
  cases r[k]?<;>simp
theorem Zm(t:List (List Int)):ik 1 (cX t):=fun r al q av=>by
 unfold cX at al
 rw[List.mem_map]at al
 obtain⟨dP,fx,rfl⟩:=al
 rw[List.mem_map]at av
 obtain⟨x,J,rfl⟩:=av
 exact eY.int x
theorem lx.iS{t:List (List Int)}(h:lx t)(i k:Nat):0<=bZ (cX t) i k:=by
 rw[vh]
 have:(0:Int)<=(t[i]?.getD [])[k]?.getD 0:=by
  cases al:t[i]? with
  | none=>simp
  | some r=>
   simp only[Option.getD_some]
   cases J:r[k]? with
   | none=>simp
   | some x=>exact((h r (List.mem_of_getElem? al)).2 x (List.mem_of_getElem? J)).1
 exact_mod_cast this
theorem vr{t:List (List Int)}{n m:Nat}(aG:t.length=n)(hm:(t[0]?.getD []).length=m)(h:lx t)(ar:t.length<=1000):gk n m (cX t)=(((il t).1:Int):Rat)/\(il t).1.natAbs<=1000000000:=by
 have key:∀{t:List (List Int)} (n:Nat),(dy (dL (cX t)) n).1=((dy (dL (cX t)) n).1.num:Rat):=fun{t} n=>by
  rw[(s6 _ n).1,Fp,Rat.num_intCast]
 have gH:=AT h n
 have kc:=AT (h.ff (m:=m) ar) m
 unfold gk il
 rw[NM,aG,hm]
 simp only
 split
 ·exact⟨key m,kc⟩
 ·exact⟨key n,gH⟩
theorem E4{v:Value}{t:List (List Int)}{H:ab}(bc:j9 H v t)(ar:t.length<65536)(al:∀r∈t,r.length<65536):
  aP prog 10 [v] H (fun u H1=>Ext H H1/\(gV t->∃w aW,u= .tuple #[w,.int .i64 0]/\yU t.length (t[0]?.getD []).length (bZ (cX t)) (((il t).1:Int):Rat) aW/\(∀p∈aW,eY 1 p.1)/\Row 93 2 true e_ H1 w (aW.map fun p=>(gh p.1,p.2)))/\(¬gV t->u= .tuple #[.slice none 0 0,.int .i64 1])):=by
 refine aP.b9 fun Q aE=>?_
 obtain⟨m,hm⟩:∃m,m=(t[0]?.getD []).length:=⟨_,rfl⟩
 apply Xy (by simp)
 simp[H2]
 refine aV.mk (F7 bc (by omega) fun r h=>by have:=al r h;omega) ?_
 rintro u H1 ⟨bx,rfl⟩
 simp
 refine bH.mk (fun an=>?good) (fun an=>?bad)
 case bad=>
  simp at an
  simp[bf]
  exact aE _ _ ⟨bx,fun h=>absurd h an,fun _=>rfl⟩
 simp at an
 have ao:=an.small
 have eV:=an.len
 have v1:=an.1
 have v2:=an.2.1
 have ti:=an.2.2.1
 have v4:=an.2.2.2.1
 rw[<-hm]at eV ti v4
 have mv:=vr rfl hm.symm ao (by omega)
 simp
 refine aV.mk (Fk (bc.ext bx).row (by omega) al fun r h x J=>by have:=(ao r h).2 x J;omega) ?_
 rintro _ aR ⟨bm,Iy,I5,rfl,qO⟩
 simp
 refine aV.mk (ZU (n:=t.length) (m:=m) (N:=64) (D:=1) qO (A9 rfl eV) (by omega) (by omega) (by omega) (by omega) (fun i k _ _=>ao.iS i k) (Zm t) (by rw[mv.1];exact l2.int (by have:=mv.2;omega) (by decide) (by decide)) (by decide)) ?_
 rintro u bP ⟨bN,w,aW,rfl,sH,q5,UQ⟩
 rw[mv.1]at sH
 simp[bf]
 refine aE _ _ ⟨bx.aw (bm.aw bN),fun _=>⟨w,aW,rfl,?_,q5,UQ⟩,fun h=>absurd an h⟩
 rw[<-hm]
 exact sH
theorem Wj{v:Value}{l:List Int}{x:Int}{H:ab}(eu:dV H v l)(ar:l.length<65536):
  aP prog 103 [v,.int .i64 x] H (fun u H1=>H1=H/\∃r:Int,u= .int .i64 r/\(0<=r↔x∈l)):=by
 refine aP.b9 fun Q aE=>?_
 apply XU (by simp)
 obtain⟨a,c,rfl⟩:=Row.len eu
 simp[Ig]
 refine c9 (af:=IR) (xs:=l) (by simpa using eu) (by simp) ?_
 simp
 refine dF.range (by kernel_rfl) l.length (by omega) (by simp) (by rfl) (by simp) (by decide) (by decide) (fun i bU dp aR=>aR=H/\x∉l.take i) ?_ ?_ ?_
 ·exact⟨rfl,by simp⟩
 ·rintro i bU dp aR ae i_ ⟨rfl,J⟩ K a0
  simp at i_
  refine Exists.elim (⟨_,bJ ae⟩:∃y,l[i]?=some y) fun y aL=>?_
  simp[i_]
  refine dc (af:=IR) (xs:=l) (n:=i) (a:=y) (e:=3) (U:=1) (aC:=false) (by simpa using eu) (by simp) aL (by simp) (by simp) (by simp) (by decide) ?_
  rintro eM rN rfl
  simp
  refine bH.b_ (fun ad=>?_) (fun ad=>?_)
  ·simp[i_,bf]
   exact aE _ _ ⟨rfl,_,rfl,by simp;rw[ad];exact List.mem_of_getElem? aL⟩
  ·try simp
   refine a0 _ _ _ (by simp[i_]) ⟨rfl,?_⟩
   rw[List.take_add_one,aL,List.mem_append]
   simp[J,ad]
 ·rintro bU dp aR i_ ⟨rfl,J⟩
  simp at J
  simp[bf]
  exact aE _ _ ⟨rfl,-1,rfl,by simp[J]⟩
theorem Qo{v:Value}{l:List Int}{x:Int}{H:ab}(eu:dV H v l)(ar:l.length<65536):
  aP prog 76 [v,.int .i64 x] H (fun u H1=>H1=H/\u= .bool (decide (x∈l))):=by
 refine aP.b9 fun Q aE=>?_
 apply XR (by simp)
 simp[Ie]
 refine aV.mk (Wj eu ar) ?_
 rintro u H1 ⟨rfl,r,rfl,al⟩
 simp[bf]
 exact aE _ _ ⟨rfl,by simp[al]⟩
def iz(l:List Nat):Rat:=Rat.divInt (gv l) (eF l)
def r1(n m:Nat)(p:List Nat×List Int):Prop:=(iE p.1/\0<iz p.1/\p.2.length=m)/\nF n m p.2
def parts(b0:List (List Nat×List Int)):List (Rat×List Int):=b0.map fun p=>(iz p.1,p.2)
def ts(n:Nat)(l:List Int)(k:Nat):Prop:=∃x,l[k]?=some x/\ -1<=x/\x<n/\(0<=x->x∉l.take k)
theorem I3{l:List Int}{x:Int}:(∀k,l[k]?=some x->x∉l.take k)↔l.count x<=1:=by
 constructor
 ·intro h
  by_cases hm:x∈l
  ·obtain⟨k,aj⟩:=List.mem_iff_getElem?.1 hm
   have je:=(cK.1 aj).1
   have o:=h k aj
   have aa:x∉l.drop (k+1):=fun aB=>by
    obtain⟨j,aX⟩:=List.mem_iff_getElem?.1 aB
    rw[List.getElem?_drop]at aX
    refine h _ aX (List.mem_iff_getElem?.2 ⟨k,?_⟩)
    rw[List.getElem?_take_of_lt (by omega)]
    exact aj
   have e:l=l.take k++l[k]::l.drop (k+1):=by rw[List.getElem_cons_drop je,List.take_append_drop]
   rw[e,List.count_append,List.count_cons,List.count_eq_zero.2 o,List.count_eq_zero.2 aa]
   split<;>omega
  ·rw[List.count_eq_zero.2 hm];omega
 ·intro h k aj hm
  have je:=(cK.1 aj).1
  have e:l=l.take k++l[k]::l.drop (k+1):=by rw[List.getElem_cons_drop je,List.take_append_drop]
  have J:l[k]=x:=(cK.1 aj).2
  rw[e,List.count_append,List.count_cons,J]at h
  have:=List.count_pos_iff.2 hm
  simp at h
  omega
theorem ME{n m:Nat}{l:List Int}:nF n m l↔l.length=m/\∀k,k<m->ts n l k:=by
 constructor
 ·intro h
  refine⟨h.len,fun k aj=>?_⟩
  rcases h.NW k aj with o | ⟨j,aX,o⟩
  ·exact⟨-1,o,by omega,by omega,fun h=>by omega⟩
  ·exact⟨j,o,by omega,by omega,fun _=>I3.2 (h.inj j aX) k o⟩
 ·rintro⟨ar,h⟩
  refine⟨ar,fun k aj=>?_,fun j aX=>I3.1 fun k aj=>?_⟩
  ·obtain⟨x,o,aa,aA,bo⟩:=h k aj
   by_cases J:x= -1
   ·exact .inl (J▸o)
   ·exact .inr ⟨x.toNat,by omega,by rw[o];congr 1;omega⟩
  ·obtain⟨x,o,aa,aA,bo⟩:=h k (by have:=(cK.1 aj).1;omega)
   rw[o]at aj
   have:=Option.some.inj aj
   subst this
   exact bo (by omega)
theorem aaw:(10:Nat)^4000<=2^13288:=Zd 10 500 2 1661 8 4000 13288 (by decide) (by decide) (by decide+kernel)
theorem Jk{l:List Nat}(h:hx l):dD l<2^13288:=by
 have o:=qG h.1
 have aa:=rA 10 l.length 4000 (by decide) h.2.2.2
 exact Nat.lt_of_lt_of_le o (Nat.le_trans aa aaw)
theorem F2{l:List Nat}(h:iE l):de 13288 (iz l):=by
 obtain⟨o,aa,aA,bo⟩:=h
 have aB:eF l≠0/\eF l<2^13288:=by
  unfold eF
  cases hu:ko l with
  | none=>exact⟨by decide,Fc 13288 (by decide)⟩
  | some u=>
   obtain⟨a1,a3⟩:=aa u hu
   exact⟨by simp only;omega,Jk a1⟩
 refine de.divInt aB.1 ?_ aB.2
 unfold gv
 have:=Jk o
 split
 ·rw[Int.natAbs_neg,Int.natAbs_natCast];exact this
 ·rw[Int.natAbs_natCast];exact this
def ib(s:Nat):Nat:=13290*s+1
theorem Ol:de (ib 0) 0:=⟨by simp[ib],by simp[ib]⟩
theorem FG{s:Nat}{a b:Rat}(aO:de (ib s) a)(ag:de 13288 b):de (ib (s+1)) (a+b):=(aO.add ag).mono (by unfold ib;omega)
theorem Ny(aW:List (Rat×List Int))(p:Rat×List Int):du (aW++[p])=du aW+p.1:=by
 rw[E5];simp only[du];grind
theorem Y7(aW:List (Rat×List Int))(p:Rat×List Int)(i k:Nat):gw (aW++[p]) i k=gw aW i k+gi p i k:=by
 rw[E7];simp only[gw];grind
theorem E3{b0:List (List Nat×List Int)}{s:Nat}{p:List Nat×List Int}(h:b0[s]?=some p):parts (b0.take (s+1))=parts (b0.take s)++[(iz p.1,p.2)]:=by
 unfold parts
 rw[List.take_add_one,h,List.map_append];rfl
theorem FF{b0:List (List Nat×List Int)}(h:∀p∈b0,iE p.1):de (ib b0.length) (du (parts b0))/\∀i k,de (ib b0.length) (gw (parts b0) i k):=by
 induction b0 with
 | nil=>exact⟨Ol,fun _ _=>Ol⟩
 | cons p b0 a2=>
  obtain⟨o,aa⟩:=a2 fun q av=>h q (by simp[av])
  have aA:=F2 (h p (by simp))
  refine⟨?_,fun i k=>?_⟩
  ·have:=FG o aA
   rw[Rat.add_comm]at this
   exact this
  ·have aY:de 13288 (gi (iz p.1,p.2) i k):=by
    unfold gi
    split
    ·exact aA
    ·exact⟨Nat.two_pow_pos 13288,Fc 13288 (by decide)⟩
   have:=FG (aa i k) aY
   rw[Rat.add_comm]at this
   exact this
theorem dV.whole{H:ab}{u:Value}{y:List Int}(h:dV H u y):Whole prog 34 u:=by
 obtain⟨a,c,rfl⟩:=Row.len h
 exact⟨by rfl,by rfl,by simp[e3]⟩
theorem dV.kept{H aF:ab}{e:Nat}{s u:Value}{y:List Int}(h:dV H u y)(aj:Kept H aF s e)(cN:3≠e):dV aF u y:=Row.kept h aj cN fun _ _ h=>h
theorem aaO{d t d2 n:Nat}{x i:Operand}{r:List bz}{F:Fr}{H:ab}{Q:Fr->ab->Prop}{xs:List (List Nat×List Int)}{a:List Nat×List Int}{ax:ba (bu d t x i::aI d2 93 (T d)::r) Q}(br:Row 93 2 true e_ H (aq F x) xs)(ae:aq F i= .int .i64 (n:Int))(aO:xs[n]?=some a)
  (bM:fe prog t=some 93)(K:∀p eC eJ,dV H (.slice eC a.2.length eJ) a.2->a_ prog r Q .mk (a4 (a4 F d p) d2 (.agg #[.string (cf a.1),.slice eC a.2.length eJ])) H):a_ prog (bu d t x i::aI d2 93 (T d)::r) Q ax F H:=
 dc br ae aO bM (by rfl) (by rfl) (by decide) fun p u ⟨eC,j3,eJ,hu,aa⟩=>by
  subst hu
  obtain⟨fw,dR,he⟩:=aa.len
  simp at he
  obtain⟨rfl,rfl,rfl⟩:=he
  exact K p eC eJ aa
def nO(b0:List (List Nat×List Int))(s:Nat)(p:Rat×List Int)(i j k:Nat):Rat:=gw (parts (b0.take s)) j k+if k<i then gi p j k else 0
theorem Q9(b0:List (List Nat×List Int))(s:Nat)(p:Rat×List Int)(j k:Nat):nO b0 s p 0 j k=gw (parts (b0.take s)) j k:=by
 unfold nO
 rw[if_neg (Nat.not_lt_zero k)]
 exact Rat.add_zero _
theorem Q7{b0:List (List Nat×List Int)}{s m:Nat}{p:List Nat×List Int}(aY:b0[s]?=some p){j k:Nat}(aj:k<m):nO b0 s (iz p.1,p.2) m j k=gw (parts (b0.take (s+1))) j k:=by
 unfold nO
 rw[if_pos aj,E3 aY,Y7]
theorem Jh{b0:List (List Nat×List Int)}{s i:Nat}{p:Rat×List Int}{x:Int}(J:p.2[i]?=some x)(j k:Nat):nO b0 s p (i+1) j k=nO b0 s p i j k+if k=i/\x=(j:Int)then p.1 else 0:=by
 unfold nO gi
 by_cases o:k<i
 ·rw[if_pos o,if_pos (by omega),if_neg (by omega:¬(k=i/\x=(j:Int)))]
  exact(Rat.add_zero _).symm
 ·by_cases aa:k=i
  ·subst aa
   rw[if_neg o,if_pos (by omega),J]
   simp only[Option.some.injEq,true_and]
   split<;>grind
  ·rw[if_neg o,if_neg (by omega),if_neg (fun h=>aa h.1)]
   exact(Rat.add_zero _).symm
theorem Q8{b0:List (List Nat×List Int)}{s i:Nat}{p:List Nat×List Int}(h:∀j k,de (ib s) (gw (parts (b0.take s)) j k))(aY:iE p.1)(j k:Nat):de (ib (s+1)) (nO b0 s (iz p.1,p.2) i j k):=by
 unfold nO
 have o:=F2 aY
 refine FG (h j k) ?_
 unfold gi
 have aH:de 13288 (0:Rat):=⟨Nat.two_pow_pos 13288,Fc 13288 (by decide)⟩
 split
 ·split
  ·exact o
  ·exact aH
 ·exact aH
theorem Q_{v:Value}{b0:List (List Nat×List Int)}{n m:Nat}{H:ab}(kZ:Row 93 2 true e_ H v b0)(bC:∀p∈b0,Bytes p.1)(hlen:∀p∈b0,p.1.length<4611686018427387904/\p.2.length<65536)(oa:b0.length<=2000)(aG:0<n)(hm:0<m)(m5:n<1000)(mq:m<1000):
  aP prog 47 [v,.int .i64 n,.int .i64 m] H (fun u H1=>Ext H H1/\∃FH FN FL jm b,u= .tuple #[.agg #[.slice FH FN FL],jm,.bool b]/\Whole prog 80 jm/\(b=true↔(∀p∈b0,r1 n m p)/\b0.length<=1000)/\(b=true->∃B,hC H1 (.slice FH FN FL) B/\fh n m B/\(∀j k,j<n->k<m->bZ B j k=gw (parts b0) j k)/\ca H1 jm (du (parts b0)))):=by
 refine aP.b9 fun Q aE=>?_
 apply Xz (by simp)
 obtain⟨a,c,rfl⟩:=Row.len kZ
 simp[H3]
 have bn:Ext H (H++[.dead,.dead]):=Ext.more H (by simp)
 refine yt (e:=3) (U:=1) (bA:=8) (aC:=false) (n:=m) (eW:= .i64) (c4:= .i64) (z:= .int .i64 0) (af:=IR) (a:=0) (by simp) (by simp) (by simp) (by rfl) (by rfl) (by simp) (j8 0) (by simp) (by simp) (by decide) (by decide) (by omega) (fun aF=>rfl) ?_
 intro Gm aeE H1 iJ bx
 have iu:dV H1 (.slice Gm m aeE) (List.replicate m 0):=iJ.row
 refine Bu (e:=34) (U:=1) (aC:=false) (z:= .slice none 0 0) (af:=dV) (a:=List.replicate m 0) (fun aF J=>by simpa using b7.ext (af:=dV) iu J) (by simpa using iu.whole) (by simp) (by simp) (by simp) (by rfl) (by rfl) (by rfl) (by decide) (by decide) ?_
 intro iA aR fI bm
 simp
 refine aV.mk (Zv (af:=dV) (n:=n) fI.row (by omega) (fun H u y h=>h.whole) (fun H aF dv u y aj h=>h.kept aj (by decide))) ?_
 rintro cH bP ⟨bN,hi⟩
 have hP:ih bP cH (List.replicate n (List.replicate m 0)):=hi.row
 simp
 refine aV.mk (NR hP (by simp;omega) (fun r h=>by rw[List.mem_replicate]at h;rw[h.2];simp;omega) (fun r h x J=>by rw[List.mem_replicate]at h;rw[h.2,List.mem_replicate]at J;rw[J.2];decide)) ?_
 rintro _ b1 ⟨cr,ld,lf,us,rfl,mf⟩
 simp
 refine aV.mk (A_ (n:=0) (by omega) (by omega)) ?_
 rintro AR cb ⟨c0,K7⟩
 simp
 refine cO.mk K7.whole ?_
 rw[List.length_replicate]at mf
 have cL:Ext cb (cb++[.dead,.dead]):=Ext.more cb (by simp)
 have o3:=c0.aw cL
 have Mh:=cr.aw o3
 have nd:=bn.aw (bx.aw (bm.aw bN))
 have S4:=mf.ext o3
 simp
 refine c9 (af:=e_) (xs:=b0) (by simpa using b7.ext (af:=Row _ _ _ e_) kZ (nd.aw Mh)) (by simp) ?_
 simp
 have fail:∀jm nD,Whole prog 80 jm->Ext H nD->(¬∀p∈b0,r1 n m p)->Q (.tuple #[.agg #[.slice none 0 0],jm,.bool false]) nD:=fun jm nD hw J iO=>aE _ _ ⟨J,none,0,0,jm,false,rfl,hw,⟨fun h=>(by cases h),fun h=>absurd h.1 iO⟩,fun h=>by cases h⟩
 refine dF.range (by kernel_rfl) b0.length (by omega) (by simp) (by rfl) (by simp) (by decide) (by decide) (fun s nA mK cS=>Ext bP cS/\(∀p∈b0.take s,r1 n m p)/\ca cS (mK 10) (du (parts (b0.take s)))/\∃B,eo (bP.length+1) 120 80 4 true ca cS (.slice ld n lf) B us/\fh n m B/\∀j k,j<n->k<m->bZ B j k=gw (parts (b0.take s)) j k) ?_ ?_ ?_
 ·refine⟨Mh,by simp,by simpa[parts,du]using K7.ext cL,_,S4,A9 (by simp) (fun r h=>by rw[List.mem_replicate]at h;rw[h.2];simp),fun j k aX aj=>?_⟩
  rw[vh]
  simp[aX,aj,parts,gw]
 ·rintro s nA mK cS ao wB ⟨cD,xj,pQ,B,C8,Dm,zW⟩ K a0
  simp at wB pQ
  refine Exists.elim (⟨_,bJ ao⟩:∃p,b0[s]?=some p) fun p aY=>?_
  have lL:=List.mem_of_getElem? aY
  have UR:=bC p lL
  have kE:=hlen p lL
  have J3:=nd.aw cD
  have D3:=FF (b0:=b0.take s) fun q av=>(xj q av).1.1
  have lO:(b0.take s).length=s:=by simp;omega
  rw[lO]at D3
  simp[wB]
  refine aaO (xs:=b0) (n:=s) (a:=p) (by simpa using b7.ext (af:=Row _ _ _ e_) kZ J3) (by simp[wB]) aY (by simp) ?_
  intro ru vS v8 KZ
  simp
  have gg:=Ext.dead cS
  refine aV.mk (YZ UR kE.1) ?_
  rintro u fC ⟨dx,aii,(⟨pU,rfl,UY⟩ | ⟨iO,rfl⟩),s1,bY,cQ,cm,s2,cC,cW,cF,rfl⟩
  ·have V6:=gg.aw dx
   have As:ca fC (.agg #[.bool s1,.slice bY cQ cm,.bool s2,.slice cC cW cF]) (iz p.1):=UY
   have LB:=F2 pU
   simp
   have fQ:=Ext.dead fC
   have Mk:=V6.aw fQ
   refine cc.join (by kernel_rfl) (fun qn tp iD=>Ext (fC++[.dead]) iD/\qn 49= .bool (!decide (0<iz p.1/\p.2.length=m))) ?_ ?_
   ·rintro cT dT-
    simp
    refine aV.mk (Fg (As.ext fQ)) ?_
    rintro u iD ⟨fY,rfl⟩
    by_cases h6:0<iz p.1
    ·have sN:¬((if iz p.1<0 then(-1:Int)else if iz p.1=0 then 0 else 1)<=0):=fun h=>Rat.not_lt.2 (ym.1 h) h6
     simp[sN]
     refine c9 (af:=IR) (xs:=p.2) (by simpa using b7.ext (af:=dV) KZ (Mk.aw fY)) (by simp) ?_
     simp
     refine dT _ _ _ ⟨fY,?_⟩
     simp[h6]
     try omega
    ·have sN:((if iz p.1<0 then(-1:Int)else if iz p.1=0 then 0 else 1)<=0):=ym.2 (Rat.not_lt.1 h6)
     simp[sN]
     refine dT _ _ _ ⟨fY,?_⟩
     simp[h6]
   ·rintro qn tp iD ⟨fY,JS⟩
    simp at JS
    have AH:=Mk.aw fY
    have DI:=pQ.ext AH
    have Mg:=cD.aw AH
    simp[JS]
    refine bH.mk (fun ag=>?_) (fun ag=>?_)
    ·simp at ag
     simp[bf]
     refine cO.mk DI.whole ?_
     simp[bf]
     refine fail _ _ DI.whole (nd.aw Mg) fun e1=>?_
     have:=(e1 p lL).1
     rcases ag with ag | ag
     ·exact ag this.2.1
     ·exact ag this.2.2
    ·simp at ag
     have h6:=ag.1
     have DS:=ag.2
     have U1:=As.ext (fQ.aw fY)
     have KY:=b7.ext (af:=dV) KZ AH
     have S2:=C8.ext AH
     have Vv:=D3.2
     simp
     refine c9 (af:=IR) (xs:=p.2) (by simpa using KY) (by simp) ?_
     simp
     refine dF.range (by kernel_rfl) p.2.length (by omega) (by simp) (by rfl) (by simp) (by decide) (by decide) (fun i rT qq ig=>Ext bP ig/\(∀k,k<i->ts n p.2 k)/\ca ig (mK 10) (du (parts (b0.take s)))/\ca ig (.agg #[.bool s1,.slice bY cQ cm,.bool s2,.slice cC cW cF]) (iz p.1)/\dV ig (.slice vS p.2.length v8) p.2/\∃B,eo (bP.length+1) 120 80 4 true ca ig (.slice ld n lf) B us/\fh n m B/\∀j k,j<n->k<m->bZ B j k=nO b0 s (iz p.1,p.2) i j k) ?_ ?_ ?_
     ·exact⟨Mg,fun k aj=>by omega,DI,U1,KY,B,S2,Dm,fun j k aX aj=>by rw[zW j k aX aj];exact(Q9 _ _ _ _ _).symm⟩
     ·rintro i rT qq ig ae lC ⟨gP,DB,uP,xn,xa,B,kh,qU,uG⟩ nG fX
      simp at lC
      refine Exists.elim (⟨_,bJ ae⟩:∃x,p.2[i]?=some x) fun x J=>?_
      refine cc.join (by kernel_rfl) (fun yK BT nC=>Ext bP nC/\(∀k,k<i+1->ts n p.2 k)/\ca nC (mK 10) (du (parts (b0.take s)))/\ca nC (.agg #[.bool s1,.slice bY cQ cm,.bool s2,.slice cC cW cF]) (iz p.1)/\dV nC (.slice vS p.2.length v8) p.2/\∃B,eo (bP.length+1) 120 80 4 true ca nC (.slice ld n lf) B us/\fh n m B/\∀j k,j<n->k<m->bZ B j k=nO b0 s (iz p.1,p.2) (i+1) j k) ?_ ?_
      ·rintro qs im Sn
       simp[lC]
       refine dc (af:=IR) (xs:=p.2) (n:=i) (a:=x) (e:=3) (U:=1) (aC:=false) (by simpa using xa) (by simp[lC]) J (by simp) (by simp) (by simp) (by decide) ?_
       rintro A3 OX rfl
       simp[lC]
       refine cc.join (by kernel_rfl) (fun yK BT nC=>nC=ig/\∃bad,yK 78= .bool bad/\(bad=true↔(x< -1\/(n:Int)<=x\/(0<=x/\x∈p.2.take i)))) ?_ ?_
       ·rintro Gv pB-
        by_cases o:x< -1
        ·simp[o]
         exact pB _ _ _ ⟨rfl,true,by simp,by simp[o]⟩
        ·by_cases aa:(n:Int)<=x
         ·simp[o,aa]
          exact pB _ _ _ ⟨rfl,true,by simp,by simp[aa]⟩
         ·by_cases aA:0<=x
          ·simp[o,aa,aA]
           refine rL (e:=3) (U:=1) (aC:=false) (af:=IR) (xs:=p.2) (l:=0) (h:=i) (by simpa using xa) (by simp) (by simp) (by decide) (by simp[dO]) (by simp[e2]) (by omega) (by omega) ?_
           intro ajX L2
           have Rg:(p.2.drop 0).take (i-0)=p.2.take i:=by simp
           rw[Rg]at L2
           try simp
           refine aV.mk (Qo (l:=p.2.take i) L2 (by simp;omega)) ?_
           rintro w ks ⟨rfl,rfl⟩
           try simp
           exact pB _ _ _ ⟨rfl,decide (x∈p.2.take i),by simp,by simp[o,aa,aA]⟩
          ·simp[o,aa,aA]
           exact pB _ _ _ ⟨rfl,false,by simp,by simp[o,aa,aA]⟩
       ·rintro yK BT nC ⟨rfl,bad,CI,qS⟩
        simp only[jn]at CI
        simp at CI
        have jy:bad=false->ts n p.2 i:=fun h=>by
         have h:¬(x< -1\/(n:Int)<=x\/(0<=x/\x∈p.2.take i)):=fun cv=>by rw[qS.2 cv]at h;cases h
         exact⟨x,J,by omega,by omega,fun aH hm=>h (.inr (.inr ⟨aH,hm⟩))⟩
        have UE:bad=true->¬ts n p.2 i:=fun h aX=>by
         have h:=qS.1 h
         obtain⟨y,a1,a3,bG,cn⟩:=aX
         rw[J]at a1
         have:=Option.some.inj a1
         subst this
         rcases h with h | h | ⟨h,hm⟩
         ·omega
         ·omega
         ·exact cn h hm
        simp[CI]
        refine bH.mk (fun ag=>?_) (fun ag=>?_)
        ·simp
         refine cO.mk uP.whole ?_
         simp
         refine Sn _ _ _ _ (by simp) ?_
         simp[bf]
         refine fail _ _ uP.whole (nd.aw gP) fun e1=>?_
         exact UE ag ((ME.1 (e1 p lL).2).2 i (by omega))
        ·have K0:∀k,k<i+1->ts n p.2 k:=fun k aj=>by
          by_cases g8:k<i
          ·exact DB k g8
          ·obtain rfl:k=i:=by omega
           exact jy ag
         refine Exists.elim (jy ag) fun y aL=>?_
         have Mx:y=x:=by have:=aL.1;rw[J]at this;exact(Option.some.inj this).symm
         have xN:=aL.2.1
         have V8:=aL.2.2.1
         rw[Mx]at xN V8
         simp
         refine bH.b_ (fun V2=>?_) (fun V2=>?_)
         ·refine Exists.elim (⟨x.toNat,by omega⟩:∃j:Nat,x=(j:Int)) fun j aX=>?_
          have n6:j<n:=by omega
          have oV:i<m:=by omega
          refine Exists.elim (qU.get n6 oV) fun ou al=>?_
          refine Exists.elim (kh.vn al.1) fun FZ hu=>?_
          have LP:=Q8 (i:=i) (p:=p) Vv pU j i
          rw[<-uG j i n6 oV]at LP
          simp[aX]
          refine dc (af:=gU) (xs:=us) (n:=j) (a:=FZ) (e:=120) (U:=1) (aC:=false) (by simpa using kh.own.row) (by simp[aX]) hu.1 (by simp) (by simp) (by simp) (by decide) ?_
          rintro YU FW rfl
          simp[aX,lC]
          refine dc (af:=gU) (xs:=us) (n:=j) (a:=FW) (e:=120) (U:=1) (aC:=false) (by simpa using kh.own.row) (by simp[aX]) hu.1 (by simp) (by simp) (by simp) (by decide) ?_
          rintro YV ada rfl
          simp[lC]
          refine dc (af:=ca) (xs:=ou) (n:=i) (a:=bZ B j i) (e:=80) (U:=4) (aC:=true) (by simpa using hu.2.row) (by simp) al.2.1 (by simp) (by simp) (by simp) (by decide) ?_
          intro YW adb D8
          simp
          refine aV.mk (Ff (N:=ib (s+1)) (M:=13288) D8 xn LP LB (by unfold ib;omega)) ?_
          rintro w vI ⟨h9,hw⟩
          refine⟨h9,?_⟩
          have C7:=kh.ext h9
          have CW:=b7.ext (af:=bB (bP.length+1) 80 4 true ca) hu.2 h9
          refine kK (k:=bP.length+1) (e:=80) (U:=4) (aC:=true) (n:=i) (af:=ca) (xs:=ou) (a:=bZ B j i+iz p.1) (by simpa using CW) (by simp) (by rw[al.2.2];exact oV) (by simpa using hw) (by simpa using hw.whole) (by simp) (fun aF dv u y aj h=>h.kept aj (by decide)) (by simp) (by simp) (by simp) (by decide) ?_
          rintro YX yO wH xJ m3 Ul-
          simp at wH m3
          have aj:∀u x,ca vI u x->ca yO u x:=fun u x h=>h.kept m3 (by decide)
          try simp
          refine im _ _ _ ⟨xJ _ (by omega) (gP.aw h9),K0,aj _ _ (uP.ext h9),aj _ _ (xn.ext h9),(b7.ext (af:=dV) xa h9).kept m3 (by decide),B.set j (ou.set i (bZ B j i+iz p.1)),C7.inner hu.1 (by decide) m3 wH aj,qU.set (by rw[List.length_set];exact al.2.2),?_⟩
          intro ea b5 m2 ml
          rw[Jm al.1 (by rw[al.2.2];exact oV),Jh J,uG ea b5 m2 ml,uG j i n6 oV]
          by_cases ad:ea=j/\b5=i
          ·obtain⟨rfl,rfl⟩:=ad
           rw[if_pos ⟨rfl,rfl⟩,if_pos ⟨rfl,aX⟩]
          ·rw[if_neg ad,if_neg (by omega)]
           exact(Rat.add_zero _).symm
         ·refine im _ _ _ ⟨gP,K0,uP,xn,xa,B,kh,qU,fun ea b5 m2 ml=>?_⟩
          rw[Jh J,uG ea b5 m2 ml,if_neg (by omega)]
          exact(Rat.add_zero _).symm
      ·rintro yK BT nC ⟨lR,Uf,Ux,U2,Ud,R3⟩
       exact fX _ _ _ (by simp[lC]) ⟨lR,Uf,Ux,U2,Ud,R3⟩
     ·rintro rT qq ig lC ⟨gP,DB,uP,xn,xa,B,kh,qU,uG⟩
      simp
      refine aV.mk (Ff (N:=ib s) (M:=13288) uP xn D3.1 LB (by unfold ib;omega)) ?_
      rintro w kr ⟨hS,hw⟩
      simp
      refine cO.mk hw.whole ?_
      try simp
      have Vq:r1 n m p:=⟨⟨pU,h6,DS⟩,ME.2 ⟨DS,fun k aj=>DB k (by omega)⟩⟩
      refine a0 _ _ _ (by simp[wB]) ⟨gP.aw hS,fun q av=>?_,?_,B,kh.ext hS,qU,fun j k aX aj=>?_⟩
      ·rw[List.take_add_one,aY,List.mem_append]at av
       rcases av with av | av
       ·exact xj q av
       ·simp at av
        rw[av];exact Vq
      ·rw[E3 aY,Ny]
       simpa using hw
      ·rw[uG j k aX aj,DS,Q7 aY aj]
  ·simp[vu]
   refine cO.mk (pQ.ext (gg.aw (dx.aw (Ext.dead fC)))).whole ?_
   simp[bf]
   exact fail _ _ (pQ.ext (gg.aw (dx.aw (Ext.dead fC)))).whole (J3.aw (gg.aw (dx.aw (Ext.dead fC)))) fun e1=>iO (e1 p lL).1.1
 ·rintro nA mK cS wB ⟨cD,xj,pQ,B,C8,Dm,zW⟩
  simp at pQ
  have fj:=C8.row
  rw[List.take_length]at xj zW
  simp
  refine c9 (af:=e_) (xs:=b0) (by simpa using b7.ext (af:=Row _ _ _ e_) kZ (nd.aw cD)) (by simp) ?_
  simp
  refine cO.mk pQ.whole ?_
  simp[bf]
  refine aE _ _ ⟨nd.aw cD,ld,n,lf,_,_,rfl,pQ.whole,?_,fun _=>⟨B,fj,Dm,zW,pQ⟩⟩
  constructor
  ·intro h
   simp at h
   exact⟨xj,by omega⟩
  ·intro h
   have:=h.2
   simp
   omega
theorem I1{a b:Rat}:((if a<b then(-1:Int)else if a=b then 0 else 1)=0)↔a=b:=by
 by_cases o:a<b
 ·simp only[if_pos o]
  constructor
  ·intro h;omega
  ·intro h;rw[h]at o;exact absurd o Rat.lt_irrefl
 ·by_cases aa:a=b
  ·simp[aa]
  ·simp[o,aa]
theorem ZN{v w:Value}{t u:List (List Rat)}{n m N M:Nat}{H:ab}(bc:hC H v t)(ec:hC H w u)(aB:fh n m t)(n2:fh n m u)(aG:n<65536)(hm:m<65536)(c8:∀i k,i<n->k<m->de N (bZ t i k))(Vs:∀i k,i<n->k<m->de M (bZ u i k))(bX:N+M+1<=32000000):
  aP prog 50 [.agg #[v],.agg #[w]] H (fun r H1=>Ext H H1/\∃b,r= .bool b/\(b=true↔∀i k,i<n->k<m->bZ t i k=bZ u i k)):=by
 refine aP.b9 fun Q aE=>?_
 have ob:=aB.len
 have kF:=n2.len
 apply XH (by simp)
 obtain⟨a,c,rfl⟩:=Row.len bc
 obtain⟨cC,cF,rfl⟩:=Row.len ec
 simp[H9]
 have bn:Ext H (H++[.dead,.dead]):=Ext.more H (by simp)
 refine c9 (af:=iW) (xs:=t) (by simpa using bc.ext bn) (by simp) ?_
 simp
 refine dF.range (by kernel_rfl) t.length (by omega) (by simp) (by rfl) (by simp) (by decide) (by decide) (fun i bU dp aR=>Ext H aR/\∀j k,j<i->k<m->bZ t j k=bZ u j k) ?_ ?_ ?_
 ·exact⟨bn,fun j k aX=>by omega⟩
 ·rintro i bU dp aR ae i_ ⟨bm,iN⟩ K a0
  simp at i_
  have gr:i<n:=by omega
  refine Exists.elim (aB.at gr) fun row fj=>?_
  have lM:=fj.2.2.1
  simp[i_]
  refine dc (af:=iW) (xs:=t) (n:=i) (a:=row) (e:=120) (U:=1) (aC:=false) (by simpa using bc.ext bm) (by simp[i_]) fj.1 (by simp) (by simp) (by simp) (by decide) ?_
  intro eM rN oZ
  try simp
  refine c9 (af:=ca) (xs:=row) (by simpa using oZ) (by simp) ?_
  try simp
  refine dF.range (by kernel_rfl) row.length (by omega) (by simp) (by rfl) (by simp) (by decide) (by decide) (fun k cY dW b1=>Ext aR b1/\∀b5,b5<k->bZ t i b5=bZ u i b5) ?_ ?_ ?_
  ·exact⟨Ext.refl _,fun b5 aj=>by omega⟩
  ·rintro k cY dW b1 aj ja ⟨cr,Dr⟩ qs im
   simp at ja
   have kD:k<m:=by omega
   refine Exists.elim (aB.get gr kD) fun ed xr=>?_
   refine Exists.elim (n2.get gr kD) fun fA pV=>?_
   have Vk:ed=row:=by have:=xr.1;rw[fj.1]at this;exact(Option.some.inj this).symm
   have LG:=xr.2.1
   rw[Vk]at LG
   have gg:=Ext.dead b1
   simp[ja]
   refine dc (af:=ca) (xs:=row) (n:=k) (a:=bZ t i k) (e:=80) (U:=4) (aC:=true) (by simpa using b7.ext (af:=iW) oZ cr) (by simp[ja]) LG (by simp) (by simp) (by simp) (by decide) ?_
   intro iv mG uV
   try simp
   refine cO.mk uV.whole ?_
   simp[i_]
   refine dc (af:=iW) (xs:=u) (n:=i) (a:=fA) (e:=120) (U:=1) (aC:=false) (by simpa using ec.ext (bm.aw (cr.aw gg))) (by simp) pV.1 (by simp) (by simp) (by simp) (by decide) ?_
   intro nn vv uW
   simp[ja]
   refine dc (af:=ca) (xs:=fA) (n:=k) (a:=bZ u i k) (e:=80) (U:=4) (aC:=true) (by simpa using uW) (by simp) pV.2.1 (by simp) (by simp) (by simp) (by decide) ?_
   intro p_ FY D9
   try simp
   refine aV.mk (NI (uV.ext gg) D9 (c8 i k gr kD) (Vs i k gr kD) bX) ?_
   rintro Gb eN ⟨c1,rfl⟩
   simp
   refine bH.b_ (fun ad=>?_) (fun ad=>?_)
   ·have heq:=I1.1 ad
    try simp
    refine im _ _ _ (by simp[ja]) ⟨cr.aw (gg.aw c1),fun b5 ml=>?_⟩
    by_cases o:b5<k
    ·exact Dr b5 o
    ·obtain rfl:b5=k:=by omega
     exact heq
   ·simp[bf]
    refine aE _ _ ⟨bm.aw (cr.aw (gg.aw c1)),false,rfl,⟨fun h=>(by cases h),fun h=>?_⟩⟩
    exact absurd (I1.2 (h i k gr kD)) ad
  ·rintro cY dW b1 ja ⟨cr,Dr⟩
   try simp
   refine a0 _ _ _ (by simp[i_]) ⟨bm.aw cr,fun j k aX aj=>?_⟩
   by_cases o:j<i
   ·exact iN j k o aj
   ·obtain rfl:j=i:=by omega
    exact Dr k (by omega)
 ·rintro bU dp aR i_ ⟨bm,iN⟩
  simp[bf]
  exact aE _ _ ⟨bm,true,rfl,⟨fun _ i k ae aj=>iN i k (by omega) aj,fun _=>rfl⟩⟩
def pj(t:List (List Int))(b0:List (List Nat×List Int)):Prop:=((∀p∈b0,r1 t.length (t[0]?.getD []).length p)/\b0.length<=1000)/\∀j k,j<t.length->k<(t[0]?.getD []).length->gw (parts b0) j k=bZ (cX t) j k
theorem Ru{t:List (List Int)}(h:lx t)(i k:Nat):de 64 (bZ (cX t) i k):=by
 rw[vh]
 refine de.int ?_ (by decide)
 cases al:t[i]? with
 | none=>simp
 | some r=>
  simp only[Option.getD_some]
  cases J:r[k]? with
  | none=>simp
  | some x=>
   have:=(h r (List.mem_of_getElem? al)).2 x (List.mem_of_getElem? J)
   simp only[Option.getD_some]
   omega
theorem Jg{v w:Value}{t:List (List Int)}{b0:List (List Nat×List Int)}{H:ab}(bc:j9 H v t)(ar:t.length<65536)(al:∀r∈t,r.length<65536)(kZ:Row 93 2 true e_ H w b0)(bC:∀p∈b0,Bytes p.1)(hlen:∀p∈b0,p.1.length<4611686018427387904/\p.2.length<65536)(oa:b0.length<=2000):
  aP prog 20 [v,w] H (fun u H1=>Ext H H1/\(gV t->pj t b0->u=if kR (du (parts b0))then .tuple #[.string (cf (gh (du (parts b0)))),.int .i64 0]else .tuple #[.string (cf []),.int .i64 5])/\(gV t->¬pj t b0->u= .tuple #[.string (cf []),.int .i64 2])/\(¬gV t->u= .tuple #[.string (cf []),.int .i64 1])):=by
 refine aP.b9 fun Q aE=>?_
 obtain⟨m,hm⟩:∃m,m=(t[0]?.getD []).length:=⟨_,rfl⟩
 apply Xx (by simp)
 simp[H0]
 have EK:({data:= #[]}:ByteArray)=cf []:=rfl
 refine aV.mk (F7 bc (by omega) fun r h=>by have:=al r h;omega) ?_
 rintro u H1 ⟨bx,rfl⟩
 simp
 refine bH.mk (fun an=>?good) (fun an=>?bad)
 case bad=>
  simp at an
  simp[bf]
  exact aE _ _ ⟨bx,fun h=>absurd h an,fun h=>absurd h an,fun _=>by rw[EK]⟩
 simp at an
 have ao:=an.small
 have eV:=an.len
 have v1:=an.1
 have v2:=an.2.1
 have ti:=an.2.2.1
 have v4:=an.2.2.2.1
 rw[<-hm]at eV ti v4
 have KD:=A9 rfl eV
 refine Exists.elim (KD.at (i:=0) (by omega)) fun fz g9=>?_
 simp
 refine aV.mk (Fk (bc.ext bx).row (by omega) al fun r h x J=>by have:=(ao r h).2 x J;omega) ?_
 rintro _ aR ⟨bm,Iy,I5,rfl,qO⟩
 simp
 have bN:=Ext.dead aR
 refine aV.mk (AK (n:=t.length) (qO.ext bN) (by simp[cX])) ?_
 rintro _ b1 ⟨cr,rfl⟩
 refine⟨cr,?_⟩
 simp
 refine aV.mk (x1 (qO.ext (bN.aw cr)) g9.1 g9.2.2.1) ?_
 rintro _ cb ⟨c0,rfl⟩
 refine⟨c0,?_⟩
 simp
 have o2:=bN.aw (cr.aw c0)
 have hT:=bx.aw (bm.aw o2)
 refine aV.mk (Q_ (n:=t.length) (m:=m) (b7.ext (af:=Row _ _ _ e_) kZ hT) bC hlen oa (by omega) (by omega) (by omega) (by omega)) ?_
 rintro _ dQ ⟨cL,FH,FN,FL,jm,b,rfl,K8,ag,pH⟩
 refine⟨cL,?_⟩
 have ji:=hT.aw cL
 cases b with
 | false=>
  have iO:¬pj t b0:=fun h=>by
   have:=ag.2 (by rw[hm];exact h.1)
   cases this
  simp
  refine cO.mk K8 ?_
  simp[vu,bf]
  exact aE _ _ ⟨ji.aw (Ext.more dQ (by simp)),fun _ h=>absurd h iO,fun _ _=>by rw[EK],fun h=>absurd an h⟩
 | true=>
  have jW:=ag.1 rfl
  refine Exists.elim (pH rfl) fun B zs=>?_
  have Tx:=zs.1
  have mg:=zs.2.1
  have gq:=zs.2.2.1
  have gJ:=zs.2.2.2
  have LN:=FF (b0:=b0) fun q av=>(jW.1 q av).1.1
  have cD:Ext dQ (dQ++[.dead,.dead]):=Ext.more dQ (by simp)
  simp
  refine cO.mk K8 ?_
  simp
  refine cc.join (by kernel_rfl) (fun qo rW eN=>Ext (dQ++[.dead,.dead]) eN/\∃eh,qo 32= .bool eh/\(eh=false↔pj t b0)) ?_ ?_
  ·rintro K a0-
   simp
   refine aV.mk (ZN (N:=64) (M:=ib b0.length) (qO.ext (o2.aw (cL.aw cD))) (Tx.ext cD) KD mg (by omega) (by omega) (fun i k _ _=>Ru ao i k) (fun i k ae aj=>by rw[gq i k ae aj];exact LN.2 i k) (by unfold ib;omega)) ?_
   rintro _ eN ⟨c1,kc,rfl,lG⟩
   simp
   refine a0 _ _ _ ⟨c1,!kc,by simp,?_⟩
   have:(!kc)=false↔kc=true:=by cases kc<;>simp
   rw[this,lG]
   unfold pj
   rw[<-hm]
   constructor
   ·intro h
    exact⟨jW,fun j k aX aj=>by rw[<-gq j k aX aj,h j k aX aj]⟩
   ·intro h i k ae aj
    rw[gq i k ae aj,h.2 i k ae aj]
  ·rintro qo rW eN ⟨c1,eh,JO,mY⟩
   simp at JO
   simp[JO]
   refine bH.mk (fun ag=>?_) (fun ag=>?_)
   ·simp[bf]
    exact aE _ _ ⟨ji.aw (cD.aw c1),fun _ h=>(by rw[mY.2 h]at ag;cases ag),fun _ _=>by rw[EK],fun h=>absurd an h⟩
   ·have eU:=mY.1 ag
    simp
    refine aV.mk (NX (N:=ib b0.length) (gJ.ext (cD.aw c1)) LN.1 (by unfold ib;omega)) ?_
    rintro _ fC ⟨dx,hu⟩
    have h9:=ji.aw (cD.aw (c1.aw dx))
    by_cases aj:kR (du (parts b0))
    ·rw[if_pos aj]at hu
     subst hu
     simp[bf]
     exact aE _ _ ⟨h9,fun _ _=>by rw[if_pos aj],fun _ h=>absurd eU h,fun h=>absurd an h⟩
    ·rw[if_neg aj]at hu
     subst hu
     simp[bf]
     exact aE _ _ ⟨h9,fun _ _=>by rw[if_neg aj],fun _ h=>absurd eU h,fun h=>absurd an h⟩
end Go.cJ
end
section
namespace Go.cJ
def bp:List Nat->Nat
 | []=>0
 | d::aN=>d+10000*bp aN
def eB(aN:List Nat):Prop:=∀d∈aN,d<10000
theorem eB.nil:eB []:=fun d h=>by cases h
theorem eB.snoc{aN:List Nat}{d:Nat}(h:eB aN)(aB:d<10000):eB (aN++[d]):=fun x J=>by
 rcases List.mem_append.1 J with J | J
 ·exact h x J
 ·rw[List.mem_singleton.1 J];exact aB
theorem eB.take{aN:List Nat}(h:eB aN)(n:Nat):eB (aN.take n):=fun x J=>h x (List.mem_of_mem_take J)
theorem eB.get{aN:List Nat}(h:eB aN)(i:Nat):aN[i]?.getD 0<10000:=by
 cases ae:aN[i]? with
 | none=>decide
 | some d=>exact h d (List.mem_of_getElem? ae)
theorem O7(a b:List Nat):bp (a++b)=bp a+10000^a.length*bp b:=by
 induction a with
 | nil=>simp[bp]
 | cons x a a2=>
  simp only[List.cons_append,bp,a2,List.length_cons,Nat.pow_succ]
  rw[Nat.mul_add,Nat.mul_comm (10000^a.length) 10000,Nat.mul_assoc]
  omega
theorem vz(a:List Nat)(d:Nat):bp (a++[d])=bp a+10000^a.length*d:=by
 rw[O7];simp[bp]
theorem rP{aN:List Nat}(h:eB aN):bp aN<10000^aN.length:=by
 induction aN with
 | nil=>simp[bp]
 | cons d aN a2=>
  have o:=a2 fun x J=>h x (by simp[J])
  have aa:=h d (by simp)
  simp only[bp,List.length_cons,Nat.pow_succ]
  omega
theorem F5(n:Nat):bp (List.replicate n 0)=0:=by
 induction n with
 | zero=>rfl
 | succ n a2=>rw[List.replicate_succ];simp[bp,a2]
def fK(aN:List Nat):Prop:=aN.getLast?≠some 0
theorem fK.nil:fK []:=by simp[fK]
theorem fK.snoc{aN:List Nat}{d:Nat}(h:d≠0):fK (aN++[d]):=by simp[fK,h]
theorem fK.le{aN:List Nat}(h:fK aN)(aG:aN≠[]):10000^(aN.length-1)<=bp aN:=by
 obtain⟨a,d,rfl⟩:∃a d,aN=a++[d]:=⟨aN.dropLast,aN.getLast aG,(List.dropLast_concat_getLast aG).symm⟩
 have aB:d≠0:=fun e=>h (by simp[e])
 rw[vz]
 simp only[List.length_append,List.length_singleton,Nat.add_sub_cancel]
 have:10000^a.length*1<=10000^a.length*d:=Nat.mul_le_mul_left _ (by omega)
 omega
theorem fK.zero{aN:List Nat}(h:fK aN):bp aN=0↔aN=[]:=by
 constructor
 ·intro aM
  by_cases aG:aN=[]
  ·exact aG
  ·have:=h.le aG
   have:=Nat.pow_pos (n:=aN.length-1) (show 0<10000 by decide)
   omega
 ·rintro rfl;rfl
theorem fK.x0{a b:List Nat}(ag:fK b)(aO:eB a)(h:a.length<b.length):bp a<bp b:=by
 have o:=ag.le (by intro e;rw[e]at h;simp at h)
 have aa:=rP aO
 have aA:10000^a.length<=10000^(b.length-1):=Nat.pow_le_pow_right (by decide) (by omega)
 omega
theorem fK.len{aN:List Nat}(h:fK aN){n:Nat}(an:bp aN<10000^n):aN.length<=n:=by
 by_cases aG:aN=[]
 ·simp[aG]
 ·have o:=h.le aG
  by_cases a6:aN.length<=n
  ·exact a6
  ·have:10000^n<=10000^(aN.length-1):=Nat.pow_le_pow_right (by decide) (by omega)
   omega
theorem adm{aN:List Nat}{i:Nat}(ae:i<aN.length):bp (aN.take (i+1))=bp (aN.take i)+10000^i*(aN[i]?.getD 0):=by
 rw[List.take_succ_eq_append_getElem ae,vz,List.length_take,Nat.min_eq_left (by omega),bJ ae]
 rfl
theorem vy{aN:List Nat}{i:Nat}(ae:i<aN.length):bp (aN.drop i)=aN[i]?.getD 0+10000*bp (aN.drop (i+1)):=by
 rw[List.drop_eq_getElem_cons ae,bJ ae]
 rfl
theorem yB(aN:List Nat)(i:Nat)(ae:i<=aN.length):bp aN=bp (aN.take i)+10000^i*bp (aN.drop i):=by
 have:=O7 (aN.take i) (aN.drop i)
 rw[List.take_append_drop,List.length_take,Nat.min_eq_left ae]at this
 exact this
theorem O8{a b:List Nat}(aO:eB a)(ag:eB b)(ar:a.length=b.length){i:Nat}(ae:i<a.length)(he:a.drop (i+1)=b.drop (i+1))(a6:a[i]?.getD 0<b[i]?.getD 0):bp a<bp b:=by
 rw[yB a i (by omega),yB b i (by omega),vy ae,vy (by omega:i<b.length),he]
 have o:=rP (aO.take i)
 have aa:(a.take i).length=i:=by simp;omega
 rw[aa]at o
 have aA:10000^i*(a[i]?.getD 0+1+10000*bp (b.drop (i+1)))<=10000^i*(b[i]?.getD 0+10000*bp (b.drop (i+1))):=Nat.mul_le_mul_left _ (by omega)
 have bo:10000^i*(a[i]?.getD 0+1+10000*bp (b.drop (i+1)))=10000^i*(a[i]?.getD 0+10000*bp (b.drop (i+1)))+10000^i:=by
  rw[show a[i]?.getD 0+1+10000*bp (b.drop (i+1))=(a[i]?.getD 0+10000*bp (b.drop (i+1)))+1 by omega,Nat.mul_add];omega
 omega
theorem adk{aN:List Nat}{n:Nat}(h:∀i,n<=i->i<aN.length->aN[i]?.getD 0=0):bp (aN.take n)=bp aN:=by
 by_cases aG:n<=aN.length
 ·rw[yB aN n aG]
  have:aN.drop n=List.replicate (aN.length-n) 0:=by
   apply List.ext_getElem?
   intro i
   rw[List.getElem?_drop,List.getElem?_replicate]
   by_cases ae:n+i<aN.length
   ·have:=h (n+i) (by omega) ae
    rw[bJ ae]at this⊢
    rw[if_pos (by omega)]
    simpa using this
   ·rw[List.getElem?_eq_none (by omega),if_neg (by omega)]
  rw[this,F5];simp
 ·rw[List.take_of_length_le (by omega)]
end Go.cJ
end
section
set_option maxRecDepth 8000
set_option maxHeartbeats 1000000
namespace Go.cJ
open Go.Proofs
open Go.Proofs.Tryz (prog)
attribute [-simp] hq hX jG
def dd(H:ab)(v:Value)(d:Nat):Prop:=v= .int .i64 (d:Int)
instance:b7 dd:=⟨fun h _=>h⟩
abbrev jI(H:ab)(v:Value)(aN:List Nat):Prop:=Row 3 1 false dd H v aN
theorem jI.ext{H H1:ab}{v:Value}{aN:List Nat}(h:jI H v aN)(J:Ext H H1):jI H1 v aN:=b7.ext (af:=Row _ _ _ dd) h J
def fb(s:Bool)(n:Nat):Int:=if s=true then-(n:Int)else n
def eg(H:ab)(v:Value)(z:Int):Prop:=∃s a c aN,v= .agg #[.bool s,.slice a aN.length c]/\jI H (.slice a aN.length c) aN/\eB aN/\fK aN/\z=fb s (bp aN)/\(aN=[]->s=false)
theorem eg.ext{H H1:ab}{v:Value}{z:Int}(h:eg H v z)(J:Ext H H1):eg H1 v z:=by
 obtain⟨s,a,c,aN,o,aa,aA⟩:=h
 exact⟨s,a,c,aN,o,aa.ext J,aA⟩
theorem eg.whole{H:ab}{v:Value}{z:Int}(h:eg H v z):Whole prog 40 v:=by
 obtain⟨s,a,c,aN,rfl,-⟩:=h
 exact⟨by rfl,by simp[Value.cells,Value.oneCell'],by simp[e3]⟩
theorem Bk(s:Bool)(n:Nat):(fb s n).natAbs=n:=by
 unfold fb;split<;>simp
theorem eg.len{s:Bool}{aN:List Nat}{z:Int}{n:Nat}(bc:fK aN)(aM:z=fb s (bp aN))(h:z.natAbs<10000^n):aN.length<=n:=by
 rw[aM,Bk]at h
 exact bc.len h
section
variable {P:Program} {r:List bz} {F:Fr} {H:ab} {Q:Fr->ab->Prop} {α:Type}
theorem Ox{d bV cI e U bA k:Nat}{aC:Bool}{s x:Operand}{z:Value}{af:ab->Value->α->Prop}{xs bO:List α}{ax:ba (ap d bV cI s x::r) Q}(cy:bB k e U aC af H (aq F s) xs)(k2:Row e U aC af H (aq F x) bO)(kB:∀u y,af H u y->Whole P e u)(hj:∀aF dv u y,Kept H aF dv e->af H u y->af aF u y)
  (hu:P.underlying bV=some (.slice e))(J:fB P cI=true)(ao:bq P e=some U)(ek:ds P e=some aC)(o:aC=true\/U=1)(ag:bytes? P e=some bA)(aM:dA P e=some z)(dg:z.cells.size=U)(dY:0<bA)(bw:(xs.length+bO.length)*bA<=140737488355328)(aj:k<=H.length)
  (K:∀er eE aF,bB k e U aC af aF (.slice er (xs.length+bO.length) eE) (xs++bO)->(∀cx:ab,cx.length<=k->Ext cx H->Ext cx aF)->Kept H aF (aq F s) e->a_ P r Q .mk (a4 F d (.slice er (xs.length+bO.length) eE)) aF):a_ P (ap d bV cI s x::r) Q ax F H:=
 yr cy k2 kB hj hu J ao ek o ag aM dg dY bw aj fun au aF mc a1 a3=>by
  have ar:=mc.len
  rw[List.length_append]at ar
  obtain⟨er,eE,rfl⟩:=ar
  exact K er eE aF mc a1 a3
end
theorem RR{aN:List Nat}{m:Nat}(hm:0<m)(eV:m<=aN.length):(aN.take m).getLast?=some (aN[m-1]?.getD 0):=by
 rw[List.getLast?_eq_getElem?,List.length_take,Nat.min_eq_left eV,List.getElem?_take_of_lt (by omega),bJ (by omega)]
 rfl
def B5(k:Nat)(H:ab)(v:Value)(z:Int):Prop:=∃s a c aN,v= .agg #[.bool s,.slice a aN.length c]/\bB k 3 1 false dd H (.slice a aN.length c) aN/\eB aN/\fK aN/\z=fb s (bp aN)/\(aN=[]->s=false)
theorem B5.aeI{k:Nat}{H:ab}{v:Value}{z:Int}(h:B5 k H v z):eg H v z:=by
 obtain⟨s,a,c,aN,o,aa,aA⟩:=h
 exact⟨s,a,c,aN,o,aa.row,aA⟩
theorem ML{s:Bool}{a:Option Addr}{c:Nat}{aN:List Nat}{H:ab}(br:jI H (.slice a aN.length c) aN)(eU:eB aN)(ar:aN.length<1000000000000):
  aP prog 72 [.agg #[.bool s,.slice a aN.length c]] H (fun u H1=>Ext H H1/\B5 H.length H1 u (fb s (bp aN))):=by
 refine aP.b9 fun Q aE=>?_
 apply WH (by simp)
 simp[Hv]
 have bn:Ext H (H++[.dead,.dead]):=Ext.more H (by simp)
 have nV:=br.ext bn
 refine c9 (af:=dd) (xs:=aN) (by simpa using nV) (by simp) ?_
 simp
 refine dF.mk (by kernel_rfl) (fun m az bD H1=>H1=H++[.dead,.dead]/\az 3= .int .i64 (m:Int)/\m<=aN.length/\∀i,m<=i->i<aN.length->aN[i]?.getD 0=0) aN.length ⟨rfl,by simp,Nat.le_refl _,fun i o aa=>by omega⟩ ?_
 rintro m az bD H1 ⟨rfl,aA,hm,aM⟩ K a0
 simp at aA
 simp only[mE]
 refine cc.join (by kernel_rfl) (fun bU dp aR=>aR=H++[.dead,.dead]/\bU 17= .bool (decide (0<m/\aN[m-1]?.getD 0=0))) ?_ ?_
 ·rintro cT dT-
  by_cases aH:0<m
  ·have hw:IntKind.i64.wrap ((m:Int)-1)=((m-1:Nat):Int):=by rw[b6 (by omega) (by omega)];omega
   refine Exists.elim (⟨_,bJ (show m-1<aN.length by omega)⟩:∃d,aN[m-1]?=some d) fun d aB=>?_
   simp[aA,aH,hw]
   refine ys (af:=dd) (xs:=aN) (n:=m-1) (a:=d) (e:=3) (U:=1) (aC:=false) (by simp) (by decide) (by simpa using nV) (by simp) aB (by simp) (by simp) (by simp) (by decide) ?_
   rintro dm mF rfl
   simp
   exact dT _ _ _ ⟨rfl,by simp[aH,aB]⟩
  ·simp[aA,aH]
   exact dT _ _ _ ⟨rfl,by simp[aH]⟩
 ·rintro bU dp aR ⟨rfl,CD⟩
  simp only[jn]at CD
  simp at CD
  simp[CD]
  refine bH.mk (fun ag=>?_) (fun ag=>?_)
  ·simp at ag
   have hw:IntKind.i64.wrap ((m:Int)-1)=((m-1:Nat):Int):=by rw[b6 (by omega) (by omega)];omega
   simp[aA,hw]
   refine a0 (m-1) _ _ _ (by omega) ⟨rfl,by simp,by omega,fun i o aa=>?_⟩
   by_cases oV:i=m-1
   ·rw[oV];exact ag.2
   ·exact aM i (by omega) aa
  ·simp at ag
   have bc:fK (aN.take m):=by
    by_cases aH:0<m
    ·unfold fK
     rw[RR aH hm]
     intro h
     exact ag aH (Option.some.inj h)
    ·obtain rfl:m=0:=by omega
     exact fK.nil
   have an:=adk aM
   have eV:(aN.take m).length=m:=by simp;omega
   refine pc (e:=3) (U:=1) (by simp) (by simp) ?_
   simp[aA]
   refine rL (e:=3) (U:=1) (aC:=false) (af:=dd) (xs:=aN) (l:=0) (h:=m) (by simpa using nV) (by simp) (by simp) (by decide) (by simp[dO,aA]) (by simp[e2,aA]) (by omega) (by omega) ?_
   intro ti jg
   have fW:(aN.drop 0).take (m-0)=aN.take m:=by simp
   rw[fW]at jg
   refine Ox (k:=(H++[bI.dead,bI.dead]).length) (e:=3) (U:=1) (aC:=false) (bA:=8) (z:= .int .i64 0) (af:=dd) (xs:=[]) (bO:=aN.take m) (by simpa using bB.void _ _ _ _ _ _ _) (by simpa using jg) (fun u y h=>by rw[show u=_ from h];exact j8 y) (fun aF dv u y aj h=>h) (by simp) (by simp) (by simp) (by simp) (by decide) (by rfl) (by rfl) (by rfl) (by decide) (by simp;omega) (Nat.le_refl _) ?_
   intro er eE b1 jP cr ahh
   have xH:=cr _ (Nat.le_refl _) (Ext.refl _)
   have oP:bB H.length 3 1 false dd b1 (.slice er m eE) (aN.take m):=by
    have:=jP.le (b5:=H.length) (by simp)
    simp only[List.nil_append,List.length_nil,Nat.zero_add,eV]at this
    exact this
   simp only[List.length_nil,Nat.zero_add,eV]
   simp[vu]
   cases s with
   | false=>
    simp[bf]
    refine aE _ _ ⟨bn.aw xH,false,er,eE,aN.take m,by rw[eV],by rw[eV];exact oP,eU.take m,bc,by rw[an],fun _=>rfl⟩
   | true=>
    simp[aA,bf]
    refine aE _ _ ⟨bn.aw xH,decide (0<m),er,eE,aN.take m,by rw[eV],by rw[eV];exact oP,eU.take m,bc,?_,fun h=>?_⟩
    ·rw[an]
     by_cases aH:0<m
     ·simp[aH]
     ·obtain rfl:m=0:=by omega
      simp[bp]at an
      simp[fb,<-an]
    ·rw[h]at eV
     simp at eV
     simp[<-eV]
theorem p6{s:Bool}{a:Option Addr}{c:Nat}{aN:List Nat}{H:ab}(br:jI H (.slice a aN.length c) aN)(eU:eB aN)(ar:aN.length<1000000000000):
  aP prog 72 [.agg #[.bool s,.slice a aN.length c]] H (fun u H1=>Ext H H1/\eg H1 u (fb s (bp aN))):=(ML br eU ar).mono fun u H1 h=>⟨h.1,h.2.aeI⟩
theorem Z3(v:Int):v=fb (decide (v<0)) v.natAbs:=by
 unfold fb
 by_cases h:v<0
 ·simp[h];omega
 ·simp[h];omega
theorem Oq{c:Int}:(if c.tmod 10000<0 then-(c.tmod 10000)else c.tmod 10000)=((c.natAbs % 10000:Nat):Int):=by
 have h:(c.tmod 10000).natAbs=c.natAbs % 10000:=Int.natAbs_tmod c 10000
 by_cases o:c.tmod 10000<0
 ·rw[if_pos o];omega
 ·rw[if_neg o];omega
theorem r6{v:Int}{H:ab}(o: -9223372036854775808<=v)(aa:v<9223372036854775808):aP prog 46 [.int .i64 v] H (fun u H1=>Ext H H1/\eg H1 u v):=by
 refine aP.b9 fun Q aE=>?_
 apply Wv (by simp)
 simp[Hk]
 have bn:Ext H (H++[.dead,.dead]):=Ext.more H (by simp)
 obtain⟨hN,zx⟩:∃hN,hN=H++[bI.dead,bI.dead]:=⟨_,rfl⟩
 rw[<-zx]at bn⊢
 refine dF.mk (by kernel_rfl) (fun w az bD H1=>∃cur aN a c,w=cur.natAbs/\az 0= .int .i64 cur/\bD 3= .agg #[.bool (decide (v<0)),.slice a aN.length c]/\bB hN.length 3 1 false dd H1 (.slice a aN.length c) aN/\eB aN/\(cur=0->fK aN)/\v.natAbs=bp aN+10000^aN.length*cur.natAbs/\Ext hN H1) v.natAbs ⟨v,[],none,0,rfl,by simp,by simp,bB.nil _ _ _ _ _ _,eB.nil,fun _=>fK.nil,by simp[bp],Ext.refl _⟩ ?_
 rintro w az bD H1 ⟨cur,aN,a,c,rfl,pI,nT,cy,eU,bc,an,J⟩ K a0
 simp at pI nT
 simp[pI]
 refine bH.b_ (fun aM=>?_) (fun aM=>?_)
 ·simp[nT]
  simp[bf]
  refine aE _ _ ⟨bn.aw J,_,a,c,aN,rfl,cy.row,eU,bc aM,?_,fun h=>?_⟩
  ·rw[aM]at an
   simp at an
   rw[<-an];exact Z3 v
  ·rw[aM,h]at an
   simp[bp]at an
   simp[an]
 ·have h6:0<cur.natAbs:=by omega
  have hle:10000^aN.length<=v.natAbs:=by
   rw[an]
   have:10000^aN.length*1<=10000^aN.length*cur.natAbs:=Nat.mul_le_mul_left _ h6
   omega
  have hlen:aN.length<5:=by
   have bK:v.natAbs<10000^5:=by
    have:(10000:Nat)^5=100000000000000000000:=by decide
    omega
   exact(Nat.pow_lt_pow_iff_right (by decide)).1 (Nat.lt_of_le_of_lt hle bK)
  have iL:cur.natAbs<=v.natAbs:=by
   rw[an]
   have:1*cur.natAbs<=10000^aN.length*cur.natAbs:=Nat.mul_le_mul_right _ (Nat.pow_pos (by decide))
   omega
  have Dn:(cur.tdiv 10000).natAbs=cur.natAbs/10000:=Int.natAbs_tdiv cur 10000
  have ahv:(cur.tmod 10000).natAbs=cur.natAbs % 10000:=Int.natAbs_tmod cur 10000
  have VV:IntKind.i64.wrap (-(cur.tmod 10000))= -(cur.tmod 10000):=b6 (by omega) (by omega)
  have VU:IntKind.i64.wrap (cur.tdiv 10000)=cur.tdiv 10000:=b6 (by omega) (by omega)
  simp[pI]
  refine cc.join (by kernel_rfl) (fun bU dp aR=>aR=H1/\bU 4= .int .i64 ((cur.natAbs % 10000:Nat):Int)) ?_ ?_
  ·rintro cT dT-
   simp
   refine bH.b_ (fun pT=>?_) (fun pT=>?_)
   ·simp[VV]
    refine dT _ _ _ ⟨rfl,?_⟩
    rw[<-Oq,if_pos pT];simp
   ·try simp
    refine dT _ _ _ ⟨rfl,?_⟩
    rw[<-Oq,if_neg pT];simp
  ·rintro bU dp aR ⟨rfl,bo⟩
   simp only[jn]at bo
   simp at bo
   have agN:=Ext.len J
   simp[nT,bo]
   refine yv (k:=hN.length) (e:=3) (U:=1) (aC:=false) (bA:=8) (z:= .int .i64 0) (af:=dd) (xs:=aN) (a:=cur.natAbs % 10000) (by simpa using cy) (by simp[dd,bo]) (by simp[bo];exact j8 _) (by simp) (fun _ _ _ _ _ h=>h) (by simp) (by simp) (by simp) (by simp) (by simp) (by rfl) (by rfl) (by rfl) (by rfl) (by decide) (by decide) (by decide) (by omega) (by omega) ?_
   intro iv PN Qe cb pD c0 DE
   simp[nT,pI,VU]
   refine a0 (cur.natAbs/10000) _ _ _ (Nat.div_lt_self h6 (by decide)) ⟨cur.tdiv 10000,aN++[cur.natAbs % 10000],PN,Qe,by rw[Dn],by simp,by simp,by simpa using pD,eU.snoc (Nat.mod_lt _ (by decide)),fun aH=>?_,?_,c0 _ (Nat.le_refl _) J⟩
   ·refine fK.snoc fun m4=>?_
    have:cur.natAbs/10000=0:=by rw[<-Dn,aH];rfl
    omega
   ·rw[vz,List.length_append,List.length_singleton,Nat.pow_succ,Dn,an,Nat.mul_assoc,Nat.add_assoc,<-Nat.mul_add]
    congr 2
    have:=Nat.div_add_mod cur.natAbs 10000
    omega
theorem N9{v w:Value}{x y:List Nat}{H:ab}(bt:jI H v x)(bC:jI H w y)(J:eB x)(aL:eB y)(cI:fK x)(ty:fK y)(DJ:x.length<1000000000000)(uQ:y.length<1000000000000):
  aP prog 83 [v,w] H (fun u H1=>H1=H/\u= .int .i64 (if bp x<bp y then-1 else if bp x=bp y then 0 else 1)):=by
 refine aP.b9 fun Q aE=>?_
 apply WK (by simp)
 obtain⟨a,c,rfl⟩:=Row.len bt
 obtain⟨cC,cF,rfl⟩:=Row.len bC
 simp[Hy]
 refine c9 (af:=dd) (xs:=x) (by simpa using bt) (by simp) ?_
 try simp
 refine c9 (af:=dd) (xs:=y) (by simpa using bC) (by simp) ?_
 simp
 refine bH.b_ (fun ar=>?_) (fun ar=>?_)
 ·have dG:x.length=y.length:=by omega
  have od:IntKind.i64.wrap ((x.length:Int)-1)=(x.length:Int)-1:=b6 (by omega) (by omega)
  try simp
  refine c9 (af:=dd) (xs:=x) (by simpa using bt) (by simp) ?_
  simp[od]
  refine dF.mk (by kernel_rfl) (fun m az bD H1=>H1=H/\az 5= .int .i64 ((m:Int)-1)/\m<=x.length/\x.drop m=y.drop m) x.length ⟨rfl,by simp,Nat.le_refl _,by rw[List.drop_length,List.drop_of_length_le (by omega)]⟩ ?_
  rintro m az bD H1 ⟨rfl,bK,hm,he⟩ K a0
  simp at bK
  simp[bK]
  refine bH.b_ (fun hl=>?_) (fun hl=>?_)
  ·refine Exists.elim (⟨m-1,by omega⟩:∃i:Nat,m=i+1) fun i ae=>?_
   refine Exists.elim (⟨_,bJ (show i<x.length by omega)⟩:∃d,x[i]?=some d) fun d aB=>?_
   refine Exists.elim (⟨_,bJ (show i<y.length by omega)⟩:∃d,y[i]?=some d) fun e pJ=>?_
   have hR:(m:Int)-1=(i:Int):=by omega
   have jZ:IntKind.i64.wrap ((i:Int)-1)=(i:Int)-1:=b6 (by omega) (by omega)
   have gg:x[i]?.getD 0=d:=by rw[aB];rfl
   have xO:y[i]?.getD 0=e:=by rw[pJ];rfl
   rw[ae]at he
   simp[bK,hR]
   refine dc (af:=dd) (xs:=x) (n:=i) (a:=d) (e:=3) (U:=1) (aC:=false) (by simpa using bt) (by simp[bK,hR]) aB (by simp) (by simp) (by simp) (by decide) ?_
   rintro fZ ln rfl
   simp[bK,hR]
   refine dc (af:=dd) (xs:=y) (n:=i) (a:=e) (e:=3) (U:=1) (aC:=false) (by simpa using bC) (by simp[bK,hR]) pJ (by simp) (by simp) (by simp) (by decide) ?_
   rintro eM rN rfl
   simp
   refine bH.b_ (fun a6=>?_) (fun a6=>?_)
   ·have:=O8 J aL dG (i:=i) (by omega) he (by omega)
    simp[bf]
    exact aE _ _ ⟨rfl,by rw[if_pos this]⟩
   ·simp[bK,hR]
    refine dc (af:=dd) (xs:=x) (n:=i) (a:=d) (e:=3) (U:=1) (aC:=false) (by simpa using bt) (by simp[bK,hR]) aB (by simp) (by simp) (by simp) (by decide) ?_
    rintro gC BH rfl
    simp[bK,hR]
    refine dc (af:=dd) (xs:=y) (n:=i) (a:=e) (e:=3) (U:=1) (aC:=false) (by simpa using bC) (by simp[bK,hR]) pJ (by simp) (by simp) (by simp) (by decide) ?_
    rintro iv mG rfl
    simp
    refine bH.b_ (fun oU=>?_) (fun oU=>?_)
    ·have:=O8 aL J dG.symm (i:=i) (by omega) he.symm (by omega)
     simp[bf]
     exact aE _ _ ⟨rfl,by rw[if_neg (by omega),if_neg (by omega)]⟩
    ·have TQ:d=e:=by omega
     simp[bK,hR,jZ]
     refine a0 i _ _ _ (by omega) ⟨rfl,by simp,by omega,?_⟩
     rw[List.drop_eq_getElem_cons (show i<x.length by omega),List.drop_eq_getElem_cons (show i<y.length by omega),he]
     congr 1
     rw[bJ (by omega)]at gg xO
     simp at gg xO
     rw[gg,xO,TQ]
  ·obtain rfl:m=0:=by omega
   have xM:x=y:=by simpa using he
   simp[bf]
   exact aE _ _ ⟨rfl,by rw[xM];simp⟩
 ·try simp
  refine c9 (af:=dd) (xs:=x) (by simpa using bt) (by simp) ?_
  try simp
  refine c9 (af:=dd) (xs:=y) (by simpa using bC) (by simp) ?_
  simp
  refine bH.b_ (fun a6=>?_) (fun a6=>?_)
  ·have:=ty.x0 J (by omega)
   simp[bf]
   exact aE _ _ ⟨rfl,by rw[if_pos this]⟩
  ·have:=cI.x0 aL (by omega)
   simp[bf]
   exact aE _ _ ⟨rfl,by rw[if_neg (by omega),if_neg (by omega)]⟩
theorem II{v:Value}{z:Int}{H:ab}(so:eg H v z):aP prog 81 [v] H (fun u H1=>Ext H H1/\eg H1 u (-z)):=by
 refine aP.b9 fun Q aE=>?_
 obtain⟨s,a,c,aN,rfl,br,eU,bc,rfl,ao⟩:=so
 apply Wy (by simp)
 simp[Hn]
 have bn:Ext H (H++[.dead,.dead]):=Ext.more H (by simp)
 have nV:=br.ext bn
 simp[vu]
 cases s with
 | true=>
  simp[bf]
  exact aE _ _ ⟨bn,false,a,c,aN,rfl,nV,eU,bc,by simp[fb],fun _=>rfl⟩
 | false=>
  simp
  refine c9 (af:=dd) (xs:=aN) (by simpa using nV) (by simp) ?_
  simp[bf]
  refine aE _ _ ⟨bn,decide (0<aN.length),a,c,aN,rfl,nV,eU,bc,?_,fun h=>by simp[h]⟩
  by_cases h:0<aN.length
  ·simp[h,fb]
  ·have:aN=[]:=List.eq_nil_of_length_eq_zero (by omega)
   subst this
   simp[fb,bp]
theorem IB{v:Value}{z:Int}{H:ab}(so:eg H v z):aP prog 53 [v] H (fun u H1=>Ext H H1/\eg H1 u z.natAbs):=by
 refine aP.b9 fun Q aE=>?_
 obtain⟨s,a,c,aN,rfl,br,eU,bc,rfl,ao⟩:=so
 apply Wo (by simp)
 simp[Hd,bf]
 have bn:Ext H (H++[.dead,.dead]):=Ext.more H (by simp)
 exact aE _ _ ⟨bn,false,a,c,aN,rfl,br.ext bn,eU,bc,by rw[Bk];rfl,fun _=>rfl⟩
theorem P_{v:Value}{z:Int}{H:ab}(so:eg H v z):aP prog 41 [v] H (fun u H1=>Ext H H1/\u= .int .i64 (if z<0 then-1 else if z=0 then 0 else 1)):=by
 refine aP.b9 fun Q aE=>?_
 obtain⟨s,a,c,aN,rfl,br,eU,bc,rfl,ao⟩:=so
 apply WB (by simp)
 simp[Hq]
 have bn:Ext H (H++[.dead]):=Ext.dead H
 refine c9 (af:=dd) (xs:=aN) (by simpa using br.ext bn) (by simp) ?_
 simp
 refine bH.b_ (fun aH=>?_) (fun aH=>?_)
 ·have aH:aN=[]:=by simpa using aH
  subst aH
  simp[bf]
  exact aE _ _ ⟨bn,by cases s<;>simp[fb,bp]⟩
 ·have aH:aN≠[]:=by simpa using aH
  have an:0<bp aN:=by
   have:=bc.zero
   rcases Nat.eq_zero_or_pos (bp aN)with h | h
   ·exact absurd (this.1 h) aH
   ·exact h
  cases s with
  | true=>
   simp[bf]
   exact aE _ _ ⟨bn,by simp[fb];omega⟩
  | false=>
   try simp[bf]
   refine aE _ _ ⟨bn,?_⟩
   simp only[fb,Bool.false_eq_true,if_false]
   rw[if_neg (by omega),if_neg (by omega)]
def GL(H:ab)(u:Value)(n:Nat)(l:Nat):Prop:=∃a c aN,u= .slice a aN.length c/\jI H (.slice a aN.length c) aN/\eB aN/\bp aN=n/\aN.length<=l
theorem tk(aN:List Nat)(i:Nat):bp (aN.take (i+1))=bp (aN.take i)+10000^i*(aN[i]?.getD 0):=by
 by_cases ae:i<aN.length
 ·exact adm ae
 ·rw[List.take_of_length_le (by omega),List.take_of_length_le (by omega),List.getElem?_eq_none (by omega)]
  simp
theorem Y3{A B O c x y i:Nat}(h:O+10000^i*c=A+B):O+10000^i*((c+x+y) % 10000)+10000^(i+1)*((c+x+y)/10000)=A+10000^i*x+(B+10000^i*y):=by
 have aA:10000^i*((c+x+y) % 10000)+10000^(i+1)*((c+x+y)/10000)=10000^i*c+10000^i*x+10000^i*y:=by
  rw[Nat.pow_succ,Nat.mul_assoc,<-Nat.mul_add,<-Nat.mul_add,<-Nat.mul_add]
  congr 1
  omega
 omega
theorem P6{v w:Value}{x y:List Nat}{H:ab}(bt:jI H v x)(bC:jI H w y)(J:eB x)(aL:eB y)(DJ:x.length<100000000000)(uQ:y.length<100000000000):
  aP prog 82 [v,w] H (fun u H1=>Ext H H1/\GL H1 u (bp x+bp y) (max x.length y.length+1)):=by
 refine aP.b9 fun Q aE=>?_
 apply WJ (by simp)
 obtain⟨a,c,rfl⟩:=Row.len bt
 obtain⟨cC,cF,rfl⟩:=Row.len bC
 simp[Hx]
 refine pc (e:=3) (U:=1) (by simp) (by simp) ?_
 simp
 refine dF.mk (by kernel_rfl) (fun m az bD H1=>∃(i eT:Nat) (out:List Nat) (er:Option Addr) (eE:Nat),m=max x.length y.length+1-i/\i<=max x.length y.length+1/\(i=max x.length y.length+1->eT=0)/\eT<=1/\az 7= .int .i64 (i:Int)/\az 6= .int .i64 (eT:Int)/\az 5= .slice er i eE/\out.length=i/\bB H.length 3 1 false dd H1 (.slice er i eE) out/\eB out/\bp out+10000^i*eT=bp (x.take i)+bp (y.take i)/\Ext H H1) (max x.length y.length+1) ⟨0,0,[],some ⟨0,0,none⟩,0,by omega,by omega,fun _=>rfl,by omega,by simp,by simp,by simp,rfl,bB.void _ _ _ _ _ _ _,eB.nil,by simp[bp],Ext.refl _⟩ ?_
 rintro m az bD H1 ⟨i,eT,out,er,eE,rfl,ae,ahd,KC,cg,dM,bK,dI,cy,uc,an,bx⟩ K a0
 simp at cg dM bK
 have tV:=bt.ext bx
 have tW:=bC.ext bx
 simp only[mE]
 refine cc.join (by kernel_rfl) (fun bU dp aR=>aR=H1/\bU 23= .bool (decide (i<x.length\/i<y.length\/0<eT))) ?_ ?_
 ·rintro cT dT-
  simp[cg]
  refine c9 (af:=dd) (xs:=x) (by simpa using tV) (by simp) ?_
  simp[cg]
  by_cases sy:i<x.length
  ·simp[sy]
   exact dT _ _ _ ⟨rfl,by simp[sy]⟩
  ·simp[sy,cg]
   refine c9 (af:=dd) (xs:=y) (by simpa using tW) (by simp) ?_
   simp
   by_cases z1:i<y.length
   ·simp[z1]
    exact dT _ _ _ ⟨rfl,by simp[z1]⟩
   ·simp[z1,dM]
    exact dT _ _ _ ⟨rfl,by simp[sy,z1]⟩
 ·rintro bU dp aR ⟨rfl,CE⟩
  simp only[jn]at CE
  simp at CE
  simp[CE]
  refine bH.mk (fun ag=>?_) (fun ag=>?_)
  ·simp at ag
   have oV:i<max x.length y.length+1:=by omega
   have gg:=J.get i
   have oj:=aL.get i
   simp[dM]
   refine cc.join (by kernel_rfl) (fun dh ey bP=>bP=aR/\dh 8= .int .i64 ((eT+x[i]?.getD 0:Nat):Int)) ?_ ?_
   ·rintro nG fX-
    simp[cg]
    refine c9 (af:=dd) (xs:=x) (by simpa using tV) (by simp) ?_
    simp
    refine bH.b_ (fun a6=>?_) (fun a6=>?_)
    ·refine Exists.elim (⟨_,bJ a6⟩:∃d,x[i]?=some d) fun d aB=>?_
     have hw:IntKind.i64.wrap ((eT:Int)+(d:Int))=((eT+d:Nat):Int):=by rw[aB]at gg;simp at gg;rw[b6 (by omega) (by omega)];simp
     simp[cg]
     refine dc (af:=dd) (xs:=x) (n:=i) (a:=d) (e:=3) (U:=1) (aC:=false) (by simpa using tV) (by simp[cg]) aB (by simp) (by simp) (by simp) (by decide) ?_
     rintro gC BH rfl
     simp[hw]
     exact fX _ _ _ ⟨rfl,by simp[aB]⟩
    ·have:x[i]?=none:=List.getElem?_eq_none (by omega)
     try simp
     exact fX _ _ _ ⟨rfl,by simp[this]⟩
   ·rintro dh ey bP ⟨rfl,dj⟩
    simp only[jn]at dj
    simp at dj
    refine cc.join (by kernel_rfl) (fun cY dW b1=>b1=bP/\cY 8= .int .i64 ((eT+x[i]?.getD 0+y[i]?.getD 0:Nat):Int)) ?_ ?_
    ·rintro qs im-
     simp[cg]
     refine c9 (af:=dd) (xs:=y) (by simpa using tW) (by simp) ?_
     simp
     refine bH.b_ (fun a6=>?_) (fun a6=>?_)
     ·refine Exists.elim (⟨_,bJ a6⟩:∃d,y[i]?=some d) fun d aB=>?_
      have hw:IntKind.i64.wrap ((eT:Int)+(x[i]?.getD 0:Nat)+(d:Int))=((eT+x[i]?.getD 0+d:Nat):Int):=by rw[aB]at oj;simp at oj;rw[b6 (by omega) (by omega)];simp
      simp[cg,dj]
      refine dc (af:=dd) (xs:=y) (n:=i) (a:=d) (e:=3) (U:=1) (aC:=false) (by simpa using tW) (by simp[cg]) aB (by simp) (by simp) (by simp) (by decide) ?_
      rintro iv mG rfl
      simp[hw]
      exact im _ _ _ ⟨rfl,by simp[aB]⟩
     ·have:y[i]?=none:=List.getElem?_eq_none (by omega)
      try simp
      exact im _ _ _ ⟨rfl,by simp[this,dj]⟩
    ·rintro cY dW b1 ⟨rfl,dj⟩
     simp only[jn]at dj
     simp at dj
     refine Exists.elim (⟨_,rfl⟩:∃S,S=eT+x[i]?.getD 0+y[i]?.getD 0) fun S bE=>?_
     have qL:cY 8= .int .i64 (S:Int):=by rw[dj,bE];simp
     have agQ:S<20000:=by omega
     have mo:(S:Int).tmod 10000=((S % 10000:Nat):Int):=rfl
     have mq:(S:Int).tdiv 10000=((S/10000:Nat):Int):=rfl
     have mx:IntKind.i64.wrap ((S:Int)/10000)=(S:Int)/10000:=b6 (by omega) (by omega)
     have ir:IntKind.i64.wrap ((i:Int)+1)=((i+1:Nat):Int):=by rw[b6 (by omega) (by omega)];simp
     have gL:=Ext.len bx
     simp[bK,qL,mo]
     refine yv (k:=H.length) (e:=3) (U:=1) (aC:=false) (bA:=8) (z:= .int .i64 0) (af:=dd) (xs:=out) (a:=S % 10000) (by simpa using cy) (by simp[dd]) (by simpa using j8 _) (by simp) (fun _ _ _ _ _ h=>h) (by simp) (by simp) (by simp) (by simp) (by simp) (by rfl) (by rfl) (by rfl) (by rfl) (by decide) (by decide) (by decide) (by omega) (by omega) ?_
     intro nn vR v7 dQ jx cL sC
     rw[dI]at jx
     simp only[dI]
     simp[qL,cg,mq,mx,ir]
     refine a0 (max x.length y.length+1-(i+1)) _ _ _ (by omega) ⟨i+1,S/10000,out++[S % 10000],vR,v7,rfl,by omega,fun he=>?_,by omega,by simp,by simp,by simp,by simp[dI],jx,uc.snoc (Nat.mod_lt _ (by decide)),?_,cL _ (Nat.le_refl _) bx⟩
     ·have o:x[i]?=none:=List.getElem?_eq_none (by omega)
      have aa:y[i]?=none:=List.getElem?_eq_none (by omega)
      rw[o,aa]at bE
      simp at bE
      omega
     ·rw[vz,dI,tk x i,tk y i,bE]
      exact Y3 an
  ·simp at ag
   have Dl:eT=0:=by omega
   have V7:x.take i=x:=List.take_of_length_le (by omega)
   have Ex:y.take i=y:=List.take_of_length_le (by omega)
   rw[Dl,V7,Ex]at an
   simp[bK,bf]
   refine aE _ _ ⟨bx,er,eE,out,by rw[dI],by rw[dI];exact cy.row,uc,by omega,by omega⟩
theorem Yk{A B O:Nat}{i x y b d cu:Nat}(h:A+10000^i*b=O+B)(ao:x+10000*cu=d+y+b):A+10000^i*x+10000^(i+1)*cu=O+10000^i*d+(B+10000^i*y):=by
 have aA:10000^i*x+10000^(i+1)*cu=10000^i*d+10000^i*y+10000^i*b:=by
  rw[Nat.pow_succ,Nat.mul_assoc,<-Nat.mul_add,<-Nat.mul_add,<-Nat.mul_add,ao]
 omega
theorem Ca{v w:Value}{x y:List Nat}{H:ab}(bt:jI H v x)(bC:jI H w y)(J:eB x)(aL:eB y)(DJ:x.length<100000000000)(hle:bp y<=bp x)(Mx:y.length<=x.length):
  aP prog 84 [v,w] H (fun u H1=>Ext H H1/\GL H1 u (bp x-bp y) x.length):=by
 refine aP.b9 fun Q aE=>?_
 apply WI (by simp)
 obtain⟨a,c,rfl⟩:=Row.len bt
 obtain⟨cC,cF,rfl⟩:=Row.len bC
 simp[Hw]
 refine pc (e:=3) (U:=1) (by simp) (by simp) ?_
 simp
 refine dF.mk (by kernel_rfl) (fun m az bD H1=>∃(i ke:Nat) (out:List Nat) (er:Option Addr) (eE:Nat),m=x.length-i/\i<=x.length/\ke<=1/\az 7= .int .i64 (i:Int)/\az 6= .int .i64 (ke:Int)/\az 5= .slice er i eE/\out.length=i/\bB H.length 3 1 false dd H1 (.slice er i eE) out/\eB out/\bp (x.take i)+10000^i*ke=bp out+bp (y.take i)/\Ext H H1) x.length ⟨0,0,[],some ⟨0,0,none⟩,0,by omega,by omega,by omega,by simp,by simp,by simp,rfl,bB.void _ _ _ _ _ _ _,eB.nil,by simp[bp],Ext.refl _⟩ ?_
 rintro m az bD H1 ⟨i,ke,out,er,eE,rfl,ae,ag0,cg,dM,bK,dI,cy,uc,an,bx⟩ K a0
 simp at cg dM bK
 have tV:=bt.ext bx
 have tW:=bC.ext bx
 simp[cg]
 refine c9 (af:=dd) (xs:=x) (by simpa using tV) (by simp) ?_
 simp
 refine bH.b_ (fun sy=>?_) (fun sy=>?_)
 ·refine Exists.elim (⟨_,bJ sy⟩:∃d,x[i]?=some d) fun d aB=>?_
  have KH:x[i]?.getD 0=d:=by rw[aB];rfl
  have ag6:d<10000:=KH▸J.get i
  have Ew:=aL.get i
  have hw:IntKind.i64.wrap ((d:Int)-(ke:Int))=(d:Int)-(ke:Int):=b6 (by omega) (by omega)
  simp[cg]
  refine dc (af:=dd) (xs:=x) (n:=i) (a:=d) (e:=3) (U:=1) (aC:=false) (by simpa using tV) (by simp[cg]) aB (by simp) (by simp) (by simp) (by decide) ?_
  rintro gC BH rfl
  simp[dM,hw]
  refine cc.join (by kernel_rfl) (fun dh ey bP=>bP=H1/\dh 8= .int .i64 ((d:Int)-(ke:Int)-(y[i]?.getD 0:Nat))) ?_ ?_
  ·rintro nG fX-
   simp[cg]
   refine c9 (af:=dd) (xs:=y) (by simpa using tW) (by simp) ?_
   simp
   refine bH.b_ (fun a6=>?_) (fun a6=>?_)
   ·refine Exists.elim (⟨_,bJ a6⟩:∃d,y[i]?=some d) fun e he=>?_
    have mx:IntKind.i64.wrap ((d:Int)-(ke:Int)-(e:Int))=(d:Int)-(ke:Int)-(e:Int):=by rw[he]at Ew;simp at Ew;exact b6 (by omega) (by omega)
    simp[cg]
    refine dc (af:=dd) (xs:=y) (n:=i) (a:=e) (e:=3) (U:=1) (aC:=false) (by simpa using tW) (by simp[cg]) he (by simp) (by simp) (by simp) (by decide) ?_
    rintro iv mG rfl
    simp[mx]
    exact fX _ _ _ ⟨rfl,by simp[he]⟩
   ·have:y[i]?=none:=List.getElem?_eq_none (by omega)
    try simp
    exact fX _ _ _ ⟨rfl,by simp[this]⟩
  ·rintro dh ey bP ⟨rfl,dj⟩
   simp only[jn]at dj
   simp at dj
   refine Exists.elim (⟨_,rfl⟩:∃e,e=y[i]?.getD 0) fun e he=>?_
   rw[<-he]at dj Ew
   simp
   refine cc.join (by kernel_rfl) (fun cY dW b1=>b1=bP/\∃tM cu:Nat,cY 8= .int .i64 (tM:Int)/\cY 6= .int .i64 (cu:Int)/\tM<10000/\cu<=1/\d+10000*cu=tM+e+ke) ?_ ?_
   ·rintro qs im-
    simp[dj]
    refine bH.b_ (fun pT=>?_) (fun pT=>?_)
    ·have ir:IntKind.i64.wrap ((d:Int)-(ke:Int)-(e:Int)+10000)=(d:Int)-(ke:Int)-(e:Int)+10000:=b6 (by omega) (by omega)
     simp[dj,ir]
     refine im _ _ _ ⟨rfl,((d:Int)-(ke:Int)-(e:Int)+10000).toNat,1,by simp;omega,by simp,by omega,by omega,by omega⟩
    ·try simp
     refine im _ _ _ ⟨rfl,((d:Int)-(ke:Int)-(e:Int)).toNat,0,by simp[dj];omega,by simp,by omega,by omega,by omega⟩
   ·rintro cY dW b1 ⟨rfl,tM,cu,qL,tU,uB,c3,c8⟩
    simp only[jn]at qL tU
    simp at qL tU
    have ir:IntKind.i64.wrap ((i:Int)+1)=((i+1:Nat):Int):=by rw[b6 (by omega) (by omega)];simp
    have gL:=Ext.len bx
    simp[bK,qL]
    refine yv (k:=H.length) (e:=3) (U:=1) (aC:=false) (bA:=8) (z:= .int .i64 0) (af:=dd) (xs:=out) (a:=tM) (by simpa using cy) (by simp[dd,qL]) (by simpa[qL]using j8 _) (by simp) (fun _ _ _ _ _ h=>h) (by simp) (by simp) (by simp) (by simp) (by simp) (by rfl) (by rfl) (by rfl) (by rfl) (by decide) (by decide) (by decide) (by omega) (by omega) ?_
    intro nn vR v7 dQ jx cL sC
    rw[dI]at jx
    simp only[dI]
    simp[cg,ir]
    refine a0 (x.length-(i+1)) _ _ _ (by omega) ⟨i+1,cu,out++[tM],vR,v7,rfl,by omega,c3,by simp,by simp[tU],by simp,by simp[dI],jx,uc.snoc uB,?_,cL _ (Nat.le_refl _) bx⟩
    rw[vz,dI,tk x i,tk y i,KH,<-he]
    exact Yk an c8
 ·obtain rfl:i=x.length:=by omega
  have Ex:y.take x.length=y:=List.take_of_length_le (by omega)
  rw[List.take_length,Ex]at an
  have DO:=rP uc
  rw[dI]at DO
  have ag1:10000^x.length*ke=0:=by
   rcases Nat.eq_zero_or_pos ke with h | h
   ·rw[h];rfl
   ·have:ke=1:=by omega
    rw[this]at an
    omega
  simp[bK,bf]
  exact aE _ _ ⟨bx,er,eE,out,by rw[dI],by rw[dI];exact cy.row,uc,by omega,by omega⟩
end Go.cJ
end
