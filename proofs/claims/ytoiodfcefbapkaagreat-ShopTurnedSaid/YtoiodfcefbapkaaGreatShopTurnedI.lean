/- Part of the proof of ShopTurned. -/
import Derived.Test.YtoiodfcefbapkaaGreatShopTurnedH
set_option linter.unusedVariables false
set_option linter.unusedSimpArgs false
section
set_option maxRecDepth 8000
set_option maxHeartbeats 1000000
namespace Go.cW
open Go.Proofs
open Go.Proofs.Tryz (prog)
attribute [-simp] hF iq ka
theorem bH.bC{α:Type}{f:FuncId}{args:List Value}{H:ab}{k e U:Nat}{aC:Bool}{af:ab->Value->α->Prop}{xs:List α}(h:aP prog f args H (fun u H1=>Ext H H1/\bH k e U aC af H1 u xs)):aP prog f args H (fun u H1=>Ext H H1/\∃a c,u= .slice a xs.length c/\bH k e U aC af H1 (.slice a xs.length c) xs):=
 h.mono fun u H1 ⟨J,aM⟩=>by
  obtain⟨a,c,rfl⟩:=aM.len
  exact⟨J,a,c,rfl,aM⟩
theorem yi{v:Value}{t:List (List Rat)}{fE:List Rat}{n:Nat}{H:ab}(bc:hN H v t)(aI:t[0]?=some fE)(aG:fE.length=n):aP prog 49 [.agg #[v]] H (fun w H1=>Ext H H1/\w= .int .i64 n):=by
 subst aG
 exact Fg bc aI
theorem A_{v:Value}{t:List (List Rat)}{n:Nat}{H:ab}(bc:hN H v t)(aG:t.length=n):aP prog 48 [.agg #[v]] H (fun w H1=>Ext H H1/\w= .int .i64 n):=by
 subst aG
 exact M4 bc
theorem Jl{a b:Rat}:((if a<b then(-1:Int)else if a=b then 0 else 1)<0)↔a<b:=by
 by_cases o:a<b
 ·simp[o]
 ·by_cases aa:a=b
  ·simp[aa]
  ·simp[o,aa]
theorem abh{d:Nat}{x y:Operand}{r:List bF}{F:Fr}{H:ab}{Q:Fr->ab->Prop}{q:Rat}{lh:List Int}{ax:ba (dC d 113 [(0,x),(1,y)]::r) Q}(J:cc H (aq F x) q)(aK:Row 3 1 false IR H (aq F y) lh)
  (K:∀u,jP H u (q,lh)->a_ prog r Q .mk (a1 F d u) H):a_ prog (dC d 113 [(0,x),(1,y)]::r) Q ax F H:=by
 obtain⟨s1,b1,cT,cn,s2,cA,c2,cD,an,o,aa⟩:=fp.shape J
 obtain⟨eB,eL,hw⟩:=aK.len
 have bo:jP H (.agg #[.bool s1,.slice b1 cT cn,.bool s2,.slice cA c2 cD,.slice eB lh.length eL]) (q,lh):=⟨s1,b1,cT,cn,s2,cA,c2,cD,eB,_,eL,rfl,by rw[<-an];exact J,by rw[<-hw];exact aK⟩
 have:=K _ bo
 simp[an,hw]
 exact this
attribute [-simp] Qe
theorem fo.set{n m j:Nat}{t:List (List Rat)}{dR:List Rat}(h:fo n m t)(al:dR.length=m):fo n m (t.set j dR):=
 ⟨by simp[h.len],fun r cu=>by
  rcases List.mem_or_eq_of_mem_set cu with cu | rfl
  ·exact h.row r cu
  ·exact al⟩
theorem ix.set{D j:Nat}{t:List (List Rat)}{dR:List Rat}(h:ix D t)(al:∀q∈dR,e6 D q):ix D (t.set j dR):=fun r cu=>by
 rcases List.mem_or_eq_of_mem_set cu with cu | rfl
 ·exact h r cu
 ·exact al
theorem JJ{t:List (List Rat)}{r:List Rat}{j i:Nat}{x:Rat}(aW:t[j]?=some r)(ad:i<r.length)(eb cb:Nat):bU (t.set j (r.set i x)) eb cb=if eb=j/\cb=i then x else bU t eb cb:=by
 have gg:=(cH.1 aW).1
 unfold bU
 by_cases o:eb=j
 ·subst o
  rw[List.getElem?_set_self gg,aW]
  simp only[Option.getD_some,true_and]
  by_cases aa:cb=i
  ·subst aa;rw[List.getElem?_set_self ad];simp
  ·rw[List.getElem?_set_ne (by omega),if_neg aa]
 ·rw[List.getElem?_set_ne (by omega),if_neg (fun h=>o h.1)]
theorem Zs{n:Nat}{B kT:Nat->Nat->Rat}(e:∀i k,i<n->k<n->kT i k=B i k):nt n kT=nt n B:=BO fun i ad=>BO fun k ak=>by rw[e i k ad ak]
theorem Yy{H:ab}{b e:Nat}{l:Bool}{cs:List Value}{X:bK}(h:H[b]?=some (.own e l cs)):Kept H (H.set b X) (.slice (some ⟨b,0,none⟩) 0 0) e:=fun ct Y k9 ag=>by
 by_cases pL:b=ct
 ·subst pL
  rw[h]at k9
  exact absurd (by rw[<-Option.some.inj k9];rfl) (ag ⟨0,0,0,rfl⟩)
 ·rw[List.getElem?_set_ne pL];exact k9
theorem h0.fresh{fx H:ab}{gW n:Nat}{ha gJ gu BR:Value}{t:List (List Rat)}{b4:List Int}{dp cG:List Bool}(h:h0 fx H gW n ha gJ gu t b4 dp)(cy:bH fx.length 4 1 false po H BR cG):h0 fx (H.set gW (.own 140 false [ha,gJ,BR])) gW n ha gJ BR t b4 cG:=by
 have ak:=Yy (X:= .own 140 false [ha,gJ,BR]) h.e8
 exact⟨h.pos,h.ext.set h.yl (by simp),h.kQ,h.vI,h.vD,h.small,h.yl,List.getElem?_set_self (cH.1 h.e8).1,h.oq.other ak (by decide) fun _ _ h=>h,cy.other ak (by decide) fun _ _ h=>h⟩
theorem h0.next{fx H:ab}{gW n td:Nat}{ha gJ gu:Value}{t:List (List Rat)}{b4:List Int}{L:Rat}(ar:kC n (bU t) L)(ds:0<L)(ji:mR n (bU t) td b4)(bO:td<n)(h:h0 fx H gW n ha gJ gu t b4 (List.replicate n false)):
  aP prog 86 [.pointer (some ⟨gW,0,none⟩),.int .i64 td] H (fun u H1=>∃hj cG,u= .bool true/\mR n (bU t) (td+1) hj/\h0 fx H1 gW n ha gJ gu t hj cG):=
 (find_spec n (n+1) (by unfold pj;rw[List.count_replicate];simp;) h (by simp) ji.ok bO).mono fun u H1 ⟨b,hj,cG,hu,bo,bM⟩=>by
  obtain⟨rfl,aa⟩:=mR.next ar.iX ar.row ar.tN ds ji bO bo
  exact⟨hj,cG,hu,aa,bM⟩
theorem QY{v:Value}{t:List (List Rat)}{n N D:Nat}{L:Rat}{H:ab}(bc:hN H v t)(aA:fo n n t)(aG:0<n)(lX:n<65536)(ar:kC n (bU t) L)(aU:ix D t)(gH:mf D N L):
  aP prog 58 [.agg #[v]] H (fun u H1=>Ext H H1/\∃a6,rO n (bU t) L a6/\(∀p∈a6,e6 D p.1)/\Row 113 5 true jP H1 u a6):=by
 refine aP.b9 fun Q aD=>?_
 have oe:=aA.len
 apply X0 (by simp)
 obtain⟨a,c,rfl⟩:=Row.len bc
 simp[Iq]
 have br:Ext H (H++[.dead]):=Ext.dead H
 refine cP (af:=jb) (xs:=t) (by simpa using bc.ext br) (by simp) ?_
 simp
 obtain⟨hZ,zT⟩:∃hZ,hZ=H++[bK.dead]:=⟨_,rfl⟩
 have wI:0<hZ.length:=by rw[zT];simp
 rw[<-zT]at br⊢
 have Tg:=bc.ext br
 refine dm.range (by kernel_rfl) t.length (by omega) (by simp) (by rfl) (by simp) (by decide) (by decide) (fun i bR c5 aR=>Ext hZ aR/\∃us,en hZ.length 120 80 4 true cc aR (bR 3) (t.take i) us) ?_ ?_ ?_
 ·exact⟨Ext.refl _,[],by simpa using en.nil _ _ _ _ _ _ _ wI⟩
 ·rintro i bR c5 aR ad a4 ⟨bf,us,jk⟩ K aX
  simp at a4 jk
  simp[a4]
  obtain⟨row,eR⟩:∃row,t[i]?=some row:=⟨_,bB ad⟩
  have xJ:=aA.row row (List.mem_of_getElem? eR)
  refine cY (af:=jb) (xs:=t) (n:=i) (a:=row) (e:=120) (U:=1) (aC:=false) (by simpa using b3.ext Tg bf) (by simp[a4]) eR (by simp) (by simp) (by simp) (by decide) ?_
  intro da Gp q_
  simp
  refine aV.mk (QE q_ (by omega)) ?_
  rintro w bP ⟨bG,hw⟩
  have SB:=Ext.len bf
  have w1:=en.ext jk bG
  have ra:=hw.le SB
  have Wk:=hw.kc
  refine Gf (k:=hZ.length) (e:=120) (U:=1) (aC:=false) (bI:=24) (z:= .slice none 0 0) (af:=gZ) (xs:=us) (a:=w) (by simpa using w1.own) (by simp[gZ]) (by simpa using Wk) (by simp) (fun _ _ _ _ _ h=>h) (by simp) (by simp) (by simp) (by simp) (by simp) (by rfl) (by rfl) (by rfl) (by rfl) (by decide) (by decide) (by decide) (by have:=jk.len;simp at this;omega) (by have:=Ext.len bG;omega) ?_
  intro p8 tm cU ia cw lb uT xt
  simp at lb uT
  have u7:=en.snoc (cx:=aR) (o8:=aR.length) w1 (fun b aI ag=>(hw.ge ag aI).1) (fun j u b hu ag aI=>jk.lt j u b hu ag aI) (by decide) ra ia lb (fun u x h=>h.kept lb (by decide))
  simp
  refine aX _ _ _ (by simp[a4]) ⟨cw _ (Nat.le_refl _) (bf.aw bG),us++[w],?_⟩
  rw[List.take_succ_eq_append_getElem ad]
  have:t[i]=row:=(cH.1 eR).2
  rw[this]
  simpa using u7
 ·rintro bR c5 Ci a4 ⟨MN,us,z4⟩
  simp at z4
  obtain⟨c_,lc,mx⟩:=z4.own.len
  have Sr:=Ext.len MN
  obtain⟨js,At⟩:∃js,js=Value.slice c_ us.length lc:=⟨_,rfl⟩
  rw[mx,<-At]at z4
  simp[mx]
  rw[<-At]
  obtain⟨Cj,Kp⟩:∃Cj,Cj=Ci++[bK.dead]:=⟨_,rfl⟩
  have MO:Ext Ci Cj:=by rw[Kp];exact Ext.dead Ci
  rw[<-Kp]
  refine dm.mk (by kernel_rfl) (fun w dt ez bP=>∃hI us a6,w=nt n (bU hI)/\Ext hZ bP/\en hZ.length 120 80 4 true cc bP js hI us/\bH hZ.length 113 5 true jP bP (dt 7) a6/\fo n n hI/\ix D hI/\mP n (bU t) L a6 (bU hI)/\(∀p∈a6,e6 D p.1)) (nt n (bU t)) ?_ ?_
  ·exact⟨t,us,[],rfl,MN.aw MO,z4.ext MO,by simpa using bH.nil _ _ _ _ _ _,aA,aU,mP.zero ar,by simp⟩
  ·rintro w dt ez bP ⟨hI,adC,a6,rfl,bG,w1,uk,ss,pQ,mn,Au⟩ K aX
   obtain⟨fE,gR,o1,q7,L3,xI⟩:=ss.at aG
   simp at uk
   simp
   have nU:mf D N (L-dV a6):=gH.le (by have:=(Fv fun p a2=>(mn.parts p a2).1).1;grind)
   have Mb:=F4 ss pQ nU (fun i k ad ak=>mn.kL.iX i k ad ak) fun i ad=>by rw[mn.kL.row i ad];exact Rat.le_refl
   have Du:hN bP js hI:=w1.row
   have Kj:=ss.len
   refine aV.mk (yf (j:=0) Du gR (by omega) (by omega) (Mb fE o1).1 (Mb fE o1).2 gH.bits) ?_
   rintro FR b0 ⟨cj,nb⟩
   rw[xI,mn.kL.row 0 aG]at nb
   simp
   refine aV.mk (FE nb) ?_
   rintro u b8 ⟨cR,rfl⟩
   have mE:=cj.aw cR
   simp
   refine bt.b6 (fun ae=>?_) (fun ae=>?_)
   ·have SP:0<L-dV a6:=by
     have:¬(L-dV a6<=0):=fun h=>by have:=yD.2 h;omega
     exact Rat.not_le.1 this
    simp
    refine yL (e:=3) (U:=1) (aC:=false) (z:= .int .i64 0) (af:=IR) (a:= -1) (fun aH _=>by simp[IR]) (by simpa using kd (-1)) (by simp) (by simp) (by simp) (by rfl) (by rfl) (by rfl) (by decide) (by decide) ?_
    intro adN dN jA cI
    simp
    have S8:=hN.ext Du (mE.aw cI)
    refine aV.mk (yi S8 gR q7) ?_
    rintro u cU ⟨cw,rfl⟩
    refine⟨cw,?_⟩
    simp
    refine aV.mk (bH.bC (ZP (af:=IR) (b3.ext (af:=Row _ _ _ IR) jA.row cw) lX (fun H u y h=>by rw[h];exact kd y) (fun _ _ _ _ _ _ h=>h))) ?_
    rintro _ eW ⟨c1,vg,vh,rfl,eM⟩
    refine⟨c1,?_⟩
    simp
    have MJ:=cI.aw (cw.aw c1)
    have ahK:=Ext.len cI
    have UE:=Ext.len MJ
    have ML:Ext eW (eW++[.own 140 false [js,.slice vg n vh,.slice none 0 0]]):=(Ext.refl eW).snoc _ _ _
    have ahM:=Ext.len cw
    have Dk:h0 b8 (eW++[.own 140 false [js,.slice vg n vh,.slice none 0 0]]) eW.length n js (.slice vg n vh) (.slice none 0 0) hI (List.replicate n (-1)) []:=
     ⟨by have:=Ext.len mE;have:=Ext.len bG;omega,MJ.aw ML,hN.ext Du mE,Kj,ss.row,lX,UE,by simp,b3.ext (af:=bH _ _ _ _ IR) (by simpa using eM.le (cb:=b8.length) (by omega)) ML,bH.nil _ _ _ _ _ _⟩
    have S9:=Dk.kQ.ext Dk.ext
    refine aV.mk (A_ S9 Kj) ?_
    rintro u kX ⟨gI,rfl⟩
    have SQ:=Dk.more gI
    simp
    refine dm.range (by kernel_rfl) n (by omega) (by simp) (by rfl) (by simp) (by decide) (by decide) (fun td qp tu iJ=>∃b4 gu dp,h0 b8 iJ eW.length n js (.slice vg n vh) gu hI b4 dp/\mR n (bU hI) td b4) ?_ ?_ ?_
    ·exact⟨_,_,_,SQ,mR.zero _ _⟩
    ·rintro td qp tu iJ sO zQ ⟨b4,gu,dp,pH,zX⟩ y9 lM
     simp at zQ
     have Dt:=pH.kQ.ext pH.ext
     simp[zQ]
     refine aV.mk (yi Dt gR q7) ?_
     rintro u h6 ⟨gi,rfl⟩
     have sf:=pH.more gi
     have UB:=Ext.len sf.ext
     refine yM (e:=4) (U:=1) (bI:=1) (aC:=false) (n:=n) (e4:= .i64) (c9:= .i64) (z:= .bool false) (af:=po) (a:=false) (by simp) (by simp) (by simp) (by rfl) (by rfl) (by simp) (PC false) (by simp) (by simp) (by decide) (by decide) (by omega) (fun aH=>rfl) ?_
     intro aiv iW ke lN hR
     have nV:=sf.more hR
     have Ab:=nV.e8
     have SR:=nV.fresh (lN.le UB)
     simp[Ab]
     refine aV.mk (h0.next mn.kL SP zX sO SR) ?_
     rintro u kf ⟨hj,cG,rfl,SV,SS⟩
     exact lM _ _ _ (by simp[zQ]) ⟨hj,_,cG,SS,SV⟩
    ·rintro qp tu iJ zQ ⟨b4,gu,dp,pH,zX⟩
     have TS:=pH.e8
     have m_:=zX.perm.1
     have hA:=zX.perm.2
     refine Exists.elim (m_.dQ 0 aG) fun A9 aW=>?_
     have uW:=aW.1
     have Lw:=aW.2
     refine Exists.elim (ss.get uW aG) fun Og al=>?_
     have Vx:=al.1
     have Vy:=al.2.1
     have Dt:=pH.kQ.ext pH.ext
     simp[TS]
     refine cY (af:=IR) (xs:=b4) (n:=0) (a:=(A9:Int)) (e:=3) (U:=1) (aC:=false) (by simpa using pH.oq.row) (by simp) Lw (by simp) (by simp) (by simp) (by decide) ?_
     rintro Bs Gj rfl
     refine cY (af:=jb) (xs:=hI) (n:=A9) (a:=Og) (e:=120) (U:=1) (aC:=false) (by simpa using Dt) (by simp) Vx (by simp) (by simp) (by simp) (by decide) ?_
     intro vu B7 xT
     refine cY (af:=cc) (xs:=Og) (n:=0) (a:=bU hI A9 0) (e:=80) (U:=4) (aC:=true) (by simpa using xT) (by simp) Vy (by simp) (by simp) (by simp) (by decide) ?_
     intro Ft Pk Mj
     simp
     refine cN.mk Mj.whole ?_
     have sf:=pH.more (Ext.dead iJ)
     have TT:=sf.e8
     have gg:b4.length=n:=m_.len
     simp[TT]
     refine cP (af:=IR) (xs:=b4) (by simpa using sf.oq.row) (by simp) ?_
     simp[gg]
     refine Exists.elim (⟨fun k=>bU hI (b4[k]?.getD 0).toNat k,rfl⟩:∃f:Nat->Rat,f=fun k=>bU hI (b4[k]?.getD 0).toNat k) fun f az=>?_
     have Ub:f 0=bU hI A9 0:=by rw[az];simp[Lw]
     have Ag:∀k j:Nat,b4[k]?=some (j:Int)->f k=bU hI j k:=fun k j h=>by rw[az];simp[h]
     have n7:∀k,k<n->dn N (f k):=fun k ak=>by
      obtain⟨j,aY,a3⟩:=m_.dQ k ak
      rw[Ag k j a3]
      exact nU.U (pQ.bU j k) (mn.kL.iX j k aY ak) (mn.kL.le aY ak)
     have Ax:∀k,k<=n->dn N (kM f k):=fun k ak=>by
      by_cases sy:k=0
      ·subst sy;exact n7 0 aG
      ·obtain⟨i,aY,a3⟩:=Nq f k (by omega)
       rw[a3];exact n7 i (by omega)
     refine dm.range (by kernel_rfl) n (by omega) (by simp) (by rfl) (by simp) (by decide) (by decide) (fun i GG y5 ke=>Ext (iJ++[.dead]) ke/\cc ke (y5 11) (kM f i)) ?_ ?_ ?_
     ·refine⟨Ext.refl _,?_⟩
      simp only[kM,Ub]
      simpa using Mj.ext (Ext.dead iJ)
     ·rintro i GG y5 ke ad ub ⟨hR,pU⟩ PY zV
      simp at ub pU
      refine ca.join (by kernel_rfl) (fun rQ tv kf=>Ext ke kf/\cc kf (tv 11) (kM f (i+1))) ?_ ?_
      ·rintro PZ wR-
       have nV:=sf.more hR
       have S7:=nV.kQ.ext nV.ext
       refine Exists.elim (m_.dQ i ad) fun j aW=>?_
       have qY:=aW.1
       have jF:=aW.2
       have DX:=Ag i j jF
       refine Exists.elim (ss.get qY ad) fun ow al=>?_
       simp[ub]
       refine cY (af:=IR) (xs:=b4) (n:=i) (a:=(j:Int)) (e:=3) (U:=1) (aC:=false) (by simpa using nV.oq.row) (by simp[ub]) jF (by simp) (by simp) (by simp) (by decide) ?_
       rintro aiB adx rfl
       simp[ub]
       refine cY (af:=jb) (xs:=hI) (n:=j) (a:=ow) (e:=120) (U:=1) (aC:=false) (by simpa using S7) (by simp) al.1 (by simp) (by simp) (by simp) (by decide) ?_
       intro aiC u16 VU
       simp
       refine cY (af:=cc) (xs:=ow) (n:=i) (a:=bU hI j i) (e:=80) (U:=4) (aC:=true) (by simpa using VU) (by simp) al.2.1 (by simp) (by simp) (by simp) (by decide) ?_
       intro NM ajW A2
       simp
       refine cN.mk A2.whole ?_
       simp
       have fj:=Ext.dead ke
       have ih:=n7 i ad
       rw[DX]at ih
       refine aV.mk (Bx (A2.ext fj) (pU.ext fj) ih (Ax i (by omega)) gH.bits) ?_
       rintro w oE ⟨ni,rfl⟩
       simp
       refine bt.b6 (fun ae=>?_) (fun ae=>?_)
       ·have a5:=Jl.1 ae
        simp
        refine cN.mk A2.whole ?_
        refine wR _ _ _ ⟨fj.aw ni,?_⟩
        simp only[kM,DX,if_pos a5]
        simpa using A2.ext (fj.aw ni)
       ·have a5:=fun h=>ae (Jl.2 h)
        refine wR _ _ _ ⟨fj.aw ni,?_⟩
        simp only[kM,DX,if_neg a5]
        simpa using pU.ext (fj.aw ni)
      ·rintro rQ tv kf ⟨g6,UW⟩
       exact zV _ _ _ (by simp[ub]) ⟨hR.aw g6,by simpa using UW⟩
     ·rintro GG y5 ke ub ⟨hR,pU⟩
      simp at pU
      have nV:=sf.more hR
      have Ab:=nV.e8
      have EN:=mE.aw nV.ext
      have sk:=w1.ext EN
      have S4:=b3.ext (af:=bH hZ.length 113 5 true jP) uk EN
      have Sv:=bG.aw EN
      refine Exists.elim (⟨(kM f n,b4),rfl⟩:∃p:Rat×List Int,p=(kM f n,b4)) fun p a2=>?_
      have sF:p.1=kM f n:=by rw[a2]
      have q5:p.2=b4:=by rw[a2]
      have Ap:∀k j:Nat,k<n->p.2[k]?=some (j:Int)->p.1<=bU hI j k:=fun k j ak aW=>by
       rw[q5]at aW
       rw[sF,<-Ag k j aW]
       exact Y1 f ak
      have jB:∃k j:Nat,k<n/\j<n/\p.2[k]?=some (j:Int)/\p.1=bU hI j k:=by
       obtain⟨k,ak,e⟩:=Nq f n aG
       obtain⟨j,aY,a3⟩:=m_.dQ k ak
       exact⟨k,j,ak,aY,by rw[q5];exact a3,by rw[sF,e];exact Ag k j a3⟩
      have LO:0<p.1:=by
       obtain⟨k,j,ak,aW,aY,a3⟩:=jB
       rw[a3]
       exact hA k j ak (by rw[<-q5];exact aY)
      have AJ:e6 D p.1:=by
       obtain⟨k,j,ak,aW,aY,a3⟩:=jB
       rw[a3]
       exact pQ.bU j k
      have sG:dn N p.1:=by rw[sF];exact Ax n (Nat.le_refl n)
      simp[Ab]
      refine cP (af:=IR) (xs:=b4) (by simpa using nV.oq.row) (by simp) ?_
      simp[gg]
      refine dm.range (by kernel_rfl) n (by omega) (by simp) (by rfl) (by simp) (by decide) (by decide) (fun i GH GL pr=>∃kU tk,Ext hZ pr/\en hZ.length 120 80 4 true cc pr js kU tk/\bH hZ.length 113 5 true jP pr (dt 7) a6/\Row 3 1 false IR pr (.slice vg n vh) b4/\cc pr (y5 11) p.1/\pr[eW.length]?=some (.own 140 false [js,.slice vg n vh,gu])/\fo n n kU/\ix D kU/\∀j k,j<n->k<n->bU kU j k=if k<i then ku (bU hI) p j k else bU hI j k) ?_ ?_ ?_
      ·exact⟨hI,adC,Sv,sk,S4,nV.oq.row,by rw[sF];exact pU,Ab,ss,pQ,fun j k _ _=>by simp⟩
      ·rintro i GH GL pr ad uc ⟨kU,tk,sY,w0,Dr,zU,AZ,DN,Ac,xk,xh⟩ afk SK
       simp at uc
       refine Exists.elim (m_.dQ i ad) fun j aW=>?_
       have qY:=aW.1
       have jF:=aW.2
       refine Exists.elim (Ac.get qY ad) fun ow al=>?_
       refine Exists.elim (w0.vE al.1) fun Gm hu=>?_
       have KF:=w0.own.row
       simp[uc]
       refine cY (af:=IR) (xs:=b4) (n:=i) (a:=(j:Int)) (e:=3) (U:=1) (aC:=false) (by simpa using zU) (by simp[uc]) jF (by simp) (by simp) (by simp) (by decide) ?_
       rintro aiD ajX rfl
       simp[uc]
       refine cY (af:=gZ) (xs:=tk) (n:=j) (a:=Gm) (e:=120) (U:=1) (aC:=false) (by simpa using KF) (by simp) hu.1 (by simp) (by simp) (by simp) (by decide) ?_
       rintro Zi Gk rfl
       simp
       refine cY (af:=gZ) (xs:=tk) (n:=j) (a:=Gk) (e:=120) (U:=1) (aC:=false) (by simpa using KF) (by simp) hu.1 (by simp) (by simp) (by simp) (by decide) ?_
       rintro Zj ady rfl
       simp
       refine cY (af:=cc) (xs:=ow) (n:=i) (a:=bU kU j i) (e:=80) (U:=4) (aC:=true) (by simpa using hu.2.row) (by simp) al.2.1 (by simp) (by simp) (by simp) (by decide) ?_
       intro Zk adz EA
       simp
       have K5:bU kU j i=bU hI j i:=by rw[xh j i qY ad,if_neg (Nat.lt_irrefl i)]
       have VG:dn N (bU kU j i):=by rw[K5];exact nU.U (pQ.bU j i) (mn.kL.iX j i qY ad) (mn.kL.le qY ad)
       refine aV.mk (FF EA AZ VG sG gH.bits) ?_
       rintro w y7 ⟨iU,hw⟩
       refine⟨iU,?_⟩
       have DC:=w0.ext iU
       have Dq:=b3.ext (af:=bH hZ.length 80 4 true cc) hu.2 iU
       refine kR (k:=hZ.length) (e:=80) (U:=4) (aC:=true) (n:=i) (af:=cc) (xs:=ow) (a:=bU kU j i-p.1) (by simpa using Dq) (by simp) (by rw[al.2.2];exact ad) (by simpa using hw) (by simpa using hw.whole) (by simp) (fun aH dz u y ak h=>h.kept ak (by decide)) (by simp) (by simp) (by simp) (by decide) ?_
       rintro Zl Ch wV EL m7 UD-
       simp at wV m7
       have ak:∀u x,cc y7 u x->cc Ch u x:=fun u x h=>h.kept m7 (by decide)
       simp
       refine SK _ _ _ (by simp[uc]) ⟨kU.set j (ow.set i (bU kU j i-p.1)),tk,?_,DC.inner hu.1 (by decide) m7 wV ak,?_,?_,ak _ _ (AZ.ext iU),?_,?_,?_,?_⟩
       ·exact EL _ (Nat.le_refl _) (sY.aw iU)
       ·exact(b3.ext (af:=bH hZ.length 113 5 true jP) Dr iU).other m7 (by decide) fun u x h=>h.kept m7 (by decide) (by decide)
       ·exact(b3.ext (af:=Row _ _ _ IR) zU iU).kept m7 (by decide) fun _ _ h=>h
       ·exact m7 _ _ (iU.get_some DN) fun _=>by simp[bK.elem?]
       ·exact Ac.set (by rw[List.length_set];exact al.2.2)
       ·refine xk.set fun q av=>?_
        rcases List.mem_or_eq_of_mem_set av with av | rfl
        ·exact xk ow (List.mem_of_getElem? al.1) q av
        ·exact(xk.bU j i).sub AJ
       ·intro eb cb m6 jZ
        rw[JJ al.1 (by rw[al.2.2];exact ad)]
        have LR:p.2[i]?=some (j:Int):=by rw[q5];exact jF
        by_cases hf:cb=i
        ·subst hf
         rw[if_pos (Nat.lt_succ_self _)]
         by_cases Lm:eb=j
         ·subst Lm
          rw[if_pos ⟨rfl,rfl⟩,K5]
          unfold ku il
          rw[if_pos LR]
         ·rw[if_neg (fun h=>Lm h.1),xh eb cb m6 jZ,if_neg (Nat.lt_irrefl _)]
          unfold ku il
          rw[LR,if_neg (by simp;omega)]
          grind
        ·rw[if_neg (fun h=>hf h.2),xh eb cb m6 jZ]
         by_cases a5:cb<i
         ·rw[if_pos a5,if_pos (by omega)]
         ·rw[if_neg a5,if_neg (by omega)]
      ·rintro GH GL pr uc ⟨kU,tk,sY,w0,Dr,zU,AZ,DN,Ac,xk,xh⟩
       have he:∀j k,j<n->k<n->bU kU j k=ku (bU hI) p j k:=fun j k aW ak=>by rw[xh j k aW ak,if_pos ak]
       have LQ:lE n p.2:=by rw[q5];exact m_
       have UJ:=mn.kL.less LQ LO Ap jB
       have Ed:=(mn.next LQ LO Ap jB).congr he
       have Vb:=Zs he
       have Ue:a6.length<=n*n:=by have:=mn.mY;have:=NW n (bU t);omega
       have sD:n*n<=65536*65536:=Nat.mul_le_mul (by omega) (by omega)
       have ahb:=Ext.len sY
       simp[DN]
       refine abh (q:=p.1) (lh:=p.2) (by simpa using AZ) (by rw[q5];simpa using zU) ?_
       intro ajY Mk
       refine qh (k:=hZ.length) (e:=113) (U:=5) (aC:=true) (bI:=88) (z:= .agg #[.bool false,.slice none 0 0,.bool false,.slice none 0 0,.slice none 0 0]) (af:=jP) (xs:=a6) (a:=p) (by simpa using Dr) (by simpa using Mk) (by simpa using Mk.kc) (by simp) (fun aH dz u y ak h=>h.kept ak (by decide) (by decide)) (by simp) (by simp) (by simp) (by simp) (by simp) (by rfl) (by rfl) (by first | rfl | simp[flat,hb]) (by rfl) (by decide) (by decide) (by decide) (by omega) (by omega) ?_
       intro aiE ako afi SZ o4 D5
       simp at D5
       simp
       refine aX (nt n (bU kU)) _ _ _ (by rw[Vb];exact UJ.2) ⟨kU,tk,a6++[p],rfl,o4 _ (Nat.le_refl _) sY,w0.other D5 (by decide) (by decide) fun u x h=>h.kept D5 (by decide),by simpa using SZ,Ac,xk,Ed,?_⟩
       intro q av
       rcases List.mem_append.1 av with av | av
       ·exact Au q av
       ·rw[List.mem_singleton.1 av];exact AJ
   ·have SO:¬0<L-dV a6:=fun h=>ae (by
     have:¬(L-dV a6<=0):=Rat.not_le.2 h
     have:=mt yD.1 this
     omega)
    simp[bd]
    exact aD _ _ ⟨br.aw (bG.aw mE),a6,mn.end aG SO,Au,(b3.ext (af:=bH hZ.length 113 5 true jP) uk mE).row⟩
end Go.cW
end
section
set_option maxRecDepth 8000
set_option maxHeartbeats 1000000
namespace Go.cW
open Go.Proofs
open Go.Proofs.Tryz (prog)
attribute [-simp] hF iq ka
def gj(n m:Nat)(t:List (List Rat)):Rat:=if(dx (dL t) n).1<(dx (dL (eS m t)) m).1 then(dx (dL (eS m t)) m).1 else(dx (dL t) n).1
theorem OP{n m:Nat}{t:List (List Rat)}:(dx (dL t) n).1<=gj n m t/\(dx (dL (eS m t)) m).1<=gj n m t:=by
 unfold gj
 split
 ·rename_i h;exact⟨Rat.le_of_lt h,Rat.le_refl⟩
 ·rename_i h;exact⟨Rat.le_refl,Rat.not_lt.1 h⟩
theorem fo.eS{n m:Nat}{t:List (List Rat)}(h:fo n m t):fo m n (eS m t):=by
 refine⟨by simp[Go.cW.eS],fun r al=>?_⟩
 unfold Go.cW.eS at al
 rw[List.mem_map]at al
 obtain⟨k,-,rfl⟩:=al
 simp[iM,h.len]
theorem tS{n m:Nat}{t:List (List Rat)}(h:fo n m t){i k:Nat}(ad:i<n)(ak:k<m):bU (eS m t) k i=bU t i k:=by
 unfold bU eS
 rw[List.getElem?_map,List.getElem?_range ak]
 simp only[Option.map_some,Option.getD_some]
 unfold iM
 rw[List.getElem?_map]
 obtain⟨r,aY,-⟩:=h.at ad
 rw[aY]
 rfl
theorem ix.eS{D m:Nat}{t:List (List Rat)}(h:ix D t):ix D (eS m t):=fun r al q av=>by
 unfold Go.cW.eS at al
 rw[List.mem_map]at al
 obtain⟨k,-,rfl⟩:=al
 unfold iM at av
 rw[List.mem_map]at av
 obtain⟨dR,fB,rfl⟩:=av
 cases ak:dR[k]? with
 | none=>exact e6.zero D
 | some y=>exact h dR fB y (List.mem_of_getElem? ak)
theorem yu{n m:Nat}{t:List (List Rat)}(h:fo n m t){i:Nat}(ad:i<n):dL t i=bX m (bU t i):=by
 obtain⟨r,aY,-,-,-,eU⟩:=h.at ad
 rw[<-eU,dL,aY]
 rfl
theorem Gb{n m:Nat}{t:List (List Rat)}(h:fo n m t){i:Nat}(ad:i<n):bX m (bU t i)<=gj n m t:=by
 rw[<-yu h ad];exact Rat.le_trans (Bh _ ad) OP.1
theorem F_{n m:Nat}{t:List (List Rat)}(h:fo n m t){k:Nat}(ak:k<m):bX n (fun i=>bU t i k)<=gj n m t:=by
 have e:bX n (fun i=>bU t i k)=dL (eS m t) k:=by
  rw[yu h.eS ak]
  exact hE fun i ad=>(tS h ad ak).symm
 rw[e];exact Rat.le_trans (Bh _ ak) OP.2
def fm(n:Nat):List Rat:=List.replicate n 0
def ox(n m:Nat)(t:List (List Rat))(top:Rat)(i:Nat):List Rat:=((t[i]?.getD [])++fm n).set (m+i) (top-bX m (bU t i))
def rA(n m:Nat)(t:List (List Rat))(top:Rat)(k:Nat):List Rat:=(fm m++iM t k).set k (top-bX n (fun i=>bU t i k))
theorem J1(n k:Nat):(fm n)[k]?.getD 0=0:=by
 unfold fm
 rw[List.getElem?_replicate]
 split<;>rfl
theorem ZX{n m:Nat}{t:List (List Rat)}{top:Rat}(h:fo n m t){i k:Nat}(ad:i<n)(ak:k<n+m):(ox n m t top i)[k]?.getD 0=gL n m (bU t) top i k:=by
 obtain⟨r,aY,-,bN,ck,-⟩:=h.at ad
 unfold ox gL
 rw[aY]
 simp only[Option.getD_some,if_pos ad]
 by_cases j0:k<m
 ·rw[if_pos j0,List.getElem?_set_ne (by omega),List.getElem?_append_left (by omega),ck]
 ·rw[if_neg j0]
  by_cases hf:k=m+i
  ·subst hf
   rw[if_pos rfl,List.getElem?_set_self (by simp[fm];omega)]
   rfl
  ·rw[if_neg hf,List.getElem?_set_ne (by omega),List.getElem?_append_right (by omega),J1]
theorem ZY{n m:Nat}{t:List (List Rat)}{top:Rat}(h:fo n m t){i k:Nat}(ad:i<m)(ak:k<n+m):(rA n m t top i)[k]?.getD 0=gL n m (bU t) top (n+i) k:=by
 unfold rA gL
 rw[if_neg (by omega)]
 have p0:(fm m).length=m:=by simp[fm]
 rw[Nat.add_sub_cancel_left]
 by_cases j0:k<m
 ·rw[if_pos j0]
  by_cases hf:k=i
  ·subst hf
   rw[if_pos rfl,List.getElem?_set_self (by simp[fm];omega)]
   rfl
  ·rw[if_neg hf,List.getElem?_set_ne (by omega),List.getElem?_append_left (by omega),J1]
 ·rw[if_neg j0,List.getElem?_set_ne (by omega),List.getElem?_append_right (by omega),p0]
  have:(iM t i)[k-m]?.getD 0=bU (eS m t) i (k-m):=by simp[bU,eS,List.getElem?_range ad]
  rw[this,tS h (by omega) ad]
theorem afa{n m:Nat}{r:List Rat}(h:r.length=m):(fm (n+m)).take 0++r.take (n+m)++(fm (n+m)).drop (0+(r.take (n+m)).length)=r++fm n:=by
 rw[List.take_of_length_le (l:=r) (by omega),h]
 simp[fm]
theorem afb{n m:Nat}{r:List Rat}(h:r.length=n):(fm (n+m)).take m++r.take n++(fm (n+m)).drop (m+(r.take n).length)=fm m++r:=by
 rw[List.take_of_length_le (l:=r) (by omega),h]
 have:n+m-(m+n)=0:=by omega
 simp[fm,this]
theorem F6{t:List (List Rat)}{S i:Nat}{r:List Rat}{f tT:Nat->List Rat}(ar:t.length=S)(ad:i<S)(h:∀a,a<S->t[a]?=some (f a))(al:tT i=r)(az:∀a,a<S->a≠i->tT a=f a):(t.set i r).length=S/\∀a,a<S->(t.set i r)[a]?=some (tT a):=by
 refine⟨by simp[ar],fun a aO=>?_⟩
 by_cases k_:a=i
 ·subst k_;rw[List.getElem?_set_self (by omega),al]
 ·rw[List.getElem?_set_ne (by omega),h a aO,az a aO k_]
theorem aaZ{n m D:Nat}{t:List (List Rat)}(h:fo n m t)(aG:0<n)(hm:0<m)(aU:ix D t):e6 D (gj n m t):=by
 have key:∀{n m:Nat} {t:List (List Rat)},fo n m t->0<n->ix D t->e6 D (dx (dL t) n).1:=fun{n m t} h aG aU=>by
  obtain⟨aY,a3⟩:=s8 (dL t) n
  rw[aY,yu h (by omega)]
  exact e6.sum fun k _=>aU.bU _ k
 unfold gj
 split
 ·exact key h.eS hm aU.eS
 ·exact key h aG aU
theorem aaK{n m D:Nat}{t:List (List Rat)}(aU:ix D t){top:Rat}(bO:e6 D top)(i k:Nat):e6 D (gL n m (bU t) top i k):=by
 unfold gL
 split
 ·split
  ·exact aU.bU i k
  ·split
   ·exact bO.sub (e6.sum fun j _=>aU.bU i j)
   ·exact e6.zero D
 ·split
  ·split
   ·exact bO.sub (e6.sum fun j _=>aU.bU j k)
   ·exact e6.zero D
  ·exact aU.bU _ _
theorem aaL{n m D:Nat}{t B:List (List Rat)}{top:Rat}(aA:fo n m t)(aU:ix D t)(bO:e6 D top)(bE:B.length=n+m)(kF:∀a,a<n+m->B[a]?=some (if a<n then ox n m t top a else if a<n+m then rA n m t top (a-n)else fm (n+m))):
  fo (n+m) (n+m) B/\ix D B/\∀i k,i<n+m->k<n+m->bU B i k=gL n m (bU t) top i k:=by
 have he:∀i k,i<n+m->k<n+m->bU B i k=gL n m (bU t) top i k:=fun i k ad ak=>by
  unfold bU
  rw[kF i ad]
  simp only[Option.getD_some]
  by_cases o:i<n
  ·rw[if_pos o];exact ZX aA o ak
  ·rw[if_neg o,if_pos ad]
   have:=ZY (top:=top) aA (i:=i-n) (by omega) ak
   rw[show n+(i-n)=i by omega]at this
   exact this
 have eH:fo (n+m) (n+m) B:=⟨bE,fun r al=>by
  obtain⟨a,aO⟩:=List.mem_iff_getElem?.1 al
  have pK:a<n+m:=by have:=(cH.1 aO).1;omega
  rw[kF a pK]at aO
  simp only[Option.some.injEq]at aO
  rw[<-aO]
  by_cases o:a<n
  ·rw[if_pos o]
   obtain⟨dR,aY,-,bN,-⟩:=aA.at o
   simp[ox,aY,bN,fm];omega
  ·rw[if_neg o,if_pos pK]
   simp[rA,fm,iM,aA.len];omega⟩
 refine⟨eH,fun r al q av=>?_,he⟩
 obtain⟨i,ad,o2⟩:=eH.mem al
 obtain⟨dR,aY,-,bN,ck,-⟩:=eH.at ad
 have:dR=r:=by rw[o2]at aY;exact(Option.some.inj aY).symm
 subst this
 obtain⟨k,ak⟩:=List.mem_iff_getElem?.1 av
 have hg:k<n+m:=by have:=(cH.1 ak).1;omega
 have:=ck k
 rw[ak]at this
 simp only[Option.getD_some]at this
 rw[this,he i k ad hg]
 exact aaK aU bO i k
theorem aaM{v:Value}{t:List (List Rat)}{n m N D:Nat}{H:ab}(bc:hN H v t)(aA:fo n m t)(aG:0<n)(hm:0<m)(lX:n<10000)(lV:m<10000)(aI:∀i k,i<n->k<m->0<=bU t i k)(aU:ix D t)(gH:mf D N (gj n m t)):
  aP prog 68 [.agg #[v]] H (fun u H1=>Ext H H1/\∃w s,u= .agg #[w]/\hN H1 w s/\fo (n+m) (n+m) s/\ix D s/\∀i k,i<n+m->k<n+m->bU s i k=gL n m (bU t) (gj n m t) i k):=by
 refine aP.b9 fun Q aD=>?_
 have oe:=aA.len
 obtain⟨fE,gR,o1,q7,L3,xI⟩:=aA.at aG
 have kJ:∀r∈t,r.length<65536:=fun r h=>by have:=aA.row r h;omega
 have xQ:=F4 aA aU gH aI fun i ad=>Gb aA ad
 have uQ:=aA.eS
 have oX:ix D (eS m t):=aU.eS
 have xP:=F4 uQ oX gH (fun k i ak ad=>by rw[tS aA ad ak];exact aI i k ad ak) fun k ak=>by
  have:=F_ aA ak
  rw[hE fun i ad=>tS aA ad ak]
  exact this
 apply X7 (by simp)
 obtain⟨a,c,rfl⟩:=Row.len bc
 simp[Iv]
 have br:Ext H (H++[.dead,.dead]):=Ext.more H (by simp)
 refine aV.mk (A_ (bc.ext br) oe) ?_
 rintro u H1 ⟨bw,rfl⟩
 refine⟨bw,?_⟩
 simp
 refine aV.mk (yi (bc.ext (br.aw bw)) gR q7) ?_
 rintro u aR ⟨bf,rfl⟩
 have ks:=br.aw (bw.aw bf)
 simp
 refine aV.mk (OQ (m:=m) (bc.ext ks) (by omega) (by omega) aA.row (by omega)) ?_
 rintro u bP ⟨bG,cM,rfl,iT⟩
 simp
 refine dB.mk (by obtain⟨a,c,rfl⟩:=Row.len iT;rfl) ?_
 simp
 have cj:Ext bP (bP++[.dead]):=Ext.dead bP
 have Wp:=bG.aw cj
 have x1:=ks.aw Wp
 refine aV.mk (Bj (N:=N) (bc.ext x1) (by omega) (by omega) kJ xQ gH.bits) ?_
 rintro u b8 ⟨cR,ql,rfl,A4⟩
 have Wm:=x1.aw cR
 simp
 refine cN.mk A4.whole ?_
 simp
 have cI:=Ext.dead b8
 have o5:=cj.aw (cR.aw cI)
 have aW:=yo xQ (t:=t) (n:=n) (by omega) (by omega)
 have ak:=yo xP (t:=eS m t) (n:=m) (by rw[uQ.len];omega) (by rw[uQ.len];omega)
 have VO:=uQ.len
 rw[oe]at A4
 have nh:hN (b8++[.dead]) cM (eS m t):=iT.ext o5
 refine ca.join (by kernel_rfl) (fun ly lz cU=>Ext (b8++[.dead]) cU/\cc cU (lz 6) (gj n m t)) ?_ ?_
 ·rintro K aX-
  simp
  refine aV.mk (Bj (N:=N) nh (by omega) (by omega) (fun r h=>by have:=uQ.row r h;omega) xP gH.bits) ?_
  rintro u cU ⟨cw,adO,rfl,rb⟩
  rw[VO]at rb
  simp
  refine cN.mk rb.whole ?_
  simp
  have c1:=Ext.dead cU
  refine aV.mk (Bx (N:=N) (rb.ext c1) (A4.ext (cI.aw (cw.aw c1))) ak aW gH.bits) ?_
  rintro u fJ ⟨dF,rfl⟩
  simp
  refine bt.b6 (fun ae=>?_) (fun ae=>?_)
  ·have a5:=Jk ae
   simp
   refine cN.mk rb.whole ?_
   refine aX _ _ _ ⟨cw.aw (c1.aw dF),?_⟩
   unfold gj
   rw[if_pos a5]
   simpa using rb.ext (c1.aw dF)
  ·have a5:=Jm ae
   refine aX _ _ _ ⟨cw.aw (c1.aw dF),?_⟩
   unfold gj
   rw[if_neg a5]
   simpa using A4.ext (cI.aw (cw.aw (c1.aw dF)))
 rintro ly lz cU ⟨cw,l1⟩
 simp at l1
 have x2:=Wm.aw (cI.aw cw)
 have sj:=bc.ext x2
 have rb:=nh.ext cw
 have Mh:dn N (gj n m t):=by
  unfold gj
  split
  ·exact ak
  ·exact aW
 have jl:IntKind.i64.wrap ((n:Int)+(m:Int))=((n+m:Nat):Int):=by rw[b7 (by omega) (by omega)];simp
 simp[jl]
 refine yM (e:=120) (U:=1) (bI:=24) (aC:=false) (n:=n+m) (e4:= .i64) (c9:= .i64) (z:= .slice none 0 0) (af:=gZ) (a:= .slice none 0 0) (by simp) (by simp) (by simp) (by rfl) (by rfl) (by simp) (Gy _ _ _) (by simp) (by simp) (by decide) (by decide) (by omega) (fun aH=>rfl) ?_
 intro ll ln eW eM c1
 have xt:0<cU.length:=by have:=Ext.len x2;have:=Ext.len cw;simp at this;omega
 have Tk:=en.Ns (e:=80) (U:=4) (aC:=true) (af:=cc) xt eM
 simp
 refine cP (af:=gZ) (xs:=List.replicate (n+m) (.slice none 0 0)) (by simpa using eM.row) (by simp) ?_
 simp
 have Wv:∀a,(List.replicate (n+m) ([]:List Rat))[a]?=if a<n+m then some []else none:=fun a=>by rw[List.getElem?_replicate]
 refine dm.range (by kernel_rfl) (n+m) (by omega) (by simp) (by rfl) (by simp) (by decide) (by decide) (fun i vY tw fJ=>Ext cU fJ/\∃B us,en cU.length 120 80 4 true cc fJ (.slice ll (n+m) ln) B us/\B.length=n+m/\∀a,a<n+m->B[a]?=some (if a<i then fm (n+m)else[])) ?_ ?_ ?_
 ·exact⟨c1,_,_,Tk,by simp,fun a aO=>by rw[Wv,if_pos aO];simp⟩
 ·rintro i vY tw fJ ad oQ ⟨dF,B,us,w2,bE,kF⟩ K aX
  simp at oQ
  simp[oQ]
  refine aV.mk (By (n:=0) (by omega) (by omega)) ?_
  rintro z kX ⟨gI,aN⟩
  refine yL (e:=80) (U:=4) (aC:=true) (z:= .agg #[.bool false,.slice none 0 0,.bool false,.slice none 0 0]) (af:=cc) (a:=((0:Int):Rat)) (fun aH J=>by simpa using aN.ext J) (by simpa using aN.whole) (by simp) (by simp) (by simp) (by rfl) (by first | rfl | simp[flat,hb]) (by rfl) (by decide) (by decide) ?_
  intro adM iJ Dn fY
  simp[jl]
  refine aV.mk (ZQ (af:=cc) (n:=n+m) Dn.row (by omega) (fun H u y h=>h.whole) (fun H aH dz u y ak h=>h.kept ak (by decide))) ?_
  rintro Pw h6 ⟨gi,ui⟩
  have MM:=gI.aw (fY.aw gi)
  have UF:=Ext.len dF
  have ahI:=Ext.len (gI.aw fY)
  have ko:=w2.ext MM
  have EI:=ui.kc
  have kK:us.length=n+m:=by rw[w2.len,bE]
  refine kR (k:=cU.length) (e:=120) (U:=1) (aC:=false) (n:=i) (af:=gZ) (xs:=us) (a:=Pw) (by simpa using ko.own) (by simp) (by omega) (by simp[gZ]) (by simpa using EI) (by simp) (fun _ _ _ _ _ h=>h) (by simp) (by simp) (by simp) (by decide) ?_
  rintro vu ke lN hR oZ ahJ-
  simp at lN oZ
  have q2:=en.Zu (o8:=iJ.length) ko (i:=i) (nv:=List.replicate (n+m) ((0:Int):Rat)) (by omega) (fun b aI ag=>(ui.ge ag aI).1) (fun j u b hu ag aI=>by have:=w2.lt j u b hu ag aI;omega) (by decide) (ui.le (by omega)) lN oZ (fun u x h=>h.kept oZ (by decide))
  refine aX _ _ _ (by simp[oQ]) ⟨hR _ (Nat.le_refl _) (dF.aw MM),_,_,q2,?_⟩
  refine F6 (tT:=fun a=>if a<i+1 then fm (n+m)else[]) bE ad kF (by simp[fm]) fun a aO k_=>?_
  by_cases o:a<i
  ·simp[o,show a<i+1 by omega]
  ·simp[o,show¬a<i+1 by omega]
 ·rintro vY tw fJ oQ ⟨dF,B,us,w2,bE,kF⟩
  have Su:∀a,a<n+m->B[a]?=some (if a<0 then ox n m t (gj n m t) a else fm (n+m)):=fun a aO=>by rw[kF a aO,if_pos aO,if_neg (Nat.not_lt_zero a)]
  simp
  refine dm.range (by kernel_rfl) n (by omega) (by simp) (by rfl) (by simp) (by decide) (by decide) (fun i GF GJ kX=>Ext cU kX/\∃B us,en cU.length 120 80 4 true cc kX (.slice ll (n+m) ln) B us/\B.length=n+m/\∀a,a<n+m->B[a]?=some (if a<i then ox n m t (gj n m t) a else fm (n+m))) ?_ ?_ ?_
  ·exact⟨dF,B,us,w2,bE,Su⟩
  ·rintro i GF GJ kX ad wN ⟨gI,B,us,uu,bE,kF⟩ K aX
   simp at wN
   have wJ:=kF i (by omega)
   rw[if_neg (Nat.lt_irrefl i)]at wJ
   refine Exists.elim (uu.vE wJ) fun vN hu=>?_
   refine Exists.elim (aA.at ad) fun lr al=>?_
   have o2:=al.1
   have Ek:=al.2.2.1
   have Em:=al.2.2.2.2
   have kK:us.length=n+m:=by rw[uu.len,bE]
   have Te:=sj.ext gI
   have p0:(fm (n+m)).length=n+m:=by simp[fm]
   simp[wN]
   refine cY (af:=gZ) (xs:=us) (n:=i) (a:=vN) (e:=120) (U:=1) (aC:=false) (by simpa using uu.own.row) (by simp) hu.1 (by simp) (by simp) (by simp) (by decide) ?_
   rintro Br rJ rfl
   simp
   refine cY (af:=jb) (xs:=t) (n:=i) (a:=lr) (e:=120) (U:=1) (aC:=false) (by simpa using Te) (by simp) o2 (by simp) (by simp) (by simp) (by decide) ?_
   intro Bs Gj VT
   refine rG (e:=80) (U:=4) (aC:=true) (af:=cc) (xs:=fm (n+m)) (bS:=lr) (u:=rJ) (j:=0) (m:=n+m) (k:=cU.length) hu.2 (by simpa[p0]using hu.2.sub) (by omega) (by simpa using VT) (fun u y h=>h.whole) (fun aH dz u y ak h=>h.kept ak (by decide)) (by simp) (by simp) (by simp) (by decide) (by decide) ?_
   rintro ke lN hR oZ- -
   rw[afa Ek]at lN
   have sk:=uu.inner hu.1 (by decide) oZ lN (fun u x h=>h.kept oZ (by decide))
   have sZ:=hR _ (Nat.le_refl _) gI
   have Dz:=sj.ext sZ
   have ie:IntKind.i64.wrap ((m:Int)+(i:Int))=((m+i:Nat):Int):=by rw[b7 (by omega) (by omega)];simp
   simp[wN]
   refine cY (af:=gZ) (xs:=us) (n:=i) (a:=rJ) (e:=120) (U:=1) (aC:=false) (by simpa using sk.own.row) (by simp) hu.1 (by simp) (by simp) (by simp) (by decide) ?_
   rintro Ft Pk rfl
   simp[ie]
   refine aV.mk (yf (j:=i) Dz o2 (by omega) (by omega) (xQ lr al.2.1).1 (xQ lr al.2.1).2 gH.bits) ?_
   rintro Gw kf ⟨g6,xZ⟩
   refine⟨g6,?_⟩
   simp
   refine aV.mk (FF (N:=N) (l1.ext (sZ.aw g6)) xZ Mh (xQ.sum al.2.1) gH.bits) ?_
   rintro Px rS ⟨j4,x0⟩
   refine⟨j4,?_⟩
   have o3:=g6.aw j4
   have DB:=sk.ext o3
   have Dp:=b3.ext (af:=bH cU.length 80 4 true cc) lN o3
   refine kR (k:=cU.length) (e:=80) (U:=4) (aC:=true) (n:=m+i) (af:=cc) (xs:=lr++fm n) (a:=gj n m t-hk lr) (by simpa using Dp) (by simp) (by simp[fm];omega) (by simpa using x0) (by simpa using x0.whole) (by simp) (fun aH dz u y ak h=>h.kept ak (by decide)) (by simp) (by simp) (by simp) (by decide) ?_
   rintro NM y6 wU nj sz UC-
   simp at wU sz
   have wZ:=DB.inner hu.1 (by decide) sz wU (fun u x h=>h.kept sz (by decide))
   rw[List.set_set]at wZ
   simp
   refine aX _ _ _ (by simp[wN]) ⟨nj _ (Nat.le_refl _) (sZ.aw o3),_,us,wZ,?_⟩
   refine F6 (tT:=fun a=>if a<i+1 then ox n m t (gj n m t) a else fm (n+m)) bE (by omega) kF ?_ fun a aO k_=>?_
   ·simp[ox,o2,Em]
   ·by_cases o:a<i
    ·simp[o,show a<i+1 by omega]
    ·simp[o,show¬a<i+1 by omega]
  ·rintro GF GJ kX wN ⟨gI,B,us,uu,bE,kF⟩
   have St:∀a,a<n+m->B[a]?=some (if a<n then ox n m t (gj n m t) a else if a<n+0 then rA n m t (gj n m t) (a-n)else fm (n+m)):=fun a aO=>by
    rw[kF a aO]
    by_cases o:a<n
    ·simp[o]
    ·simp[o]
   simp
   refine dm.range (by kernel_rfl) m (by omega) (by simp) (by rfl) (by simp) (by decide) (by decide) (fun i rP qt h6=>Ext cU h6/\∃B us,en cU.length 120 80 4 true cc h6 (.slice ll (n+m) ln) B us/\B.length=n+m/\∀a,a<n+m->B[a]?=some (if a<n then ox n m t (gj n m t) a else if a<n+i then rA n m t (gj n m t) (a-n)else fm (n+m))) ?_ ?_ ?_
   ·exact⟨gI,B,us,uu,bE,St⟩
   ·rintro i rP qt h6 ad lL ⟨gi,B,us,ko,bE,kF⟩ K aX
    simp at lL
    have wJ:=kF (n+i) (by omega)
    rw[if_neg (by omega),if_neg (by omega)]at wJ
    refine Exists.elim (ko.vE wJ) fun vN hu=>?_
    refine Exists.elim (uQ.at ad) fun lr al=>?_
    have o2:=al.1
    have Ek:=al.2.2.1
    have Em:=al.2.2.2.2
    have kK:us.length=n+m:=by rw[ko.len,bE]
    have Tf:=rb.ext gi
    have p0:(fm (n+m)).length=n+m:=by simp[fm]
    have ie:IntKind.i64.wrap ((n:Int)+(i:Int))=((n+i:Nat):Int):=by rw[b7 (by omega) (by omega)];simp
    simp[lL,ie]
    refine cY (af:=gZ) (xs:=us) (n:=n+i) (a:=vN) (e:=120) (U:=1) (aC:=false) (by simpa using ko.own.row) (by simp) hu.1 (by simp) (by simp) (by simp) (by decide) ?_
    rintro Br rJ rfl
    simp
    refine BX (e:=80) (U:=4) (aC:=true) (af:=cc) (xs:=fm (n+m)) (l:=m) (h:=n+m) (k:=cU.length) (by simpa using hu.2) (by simp) (by simp) (by decide) (by simp[dM]) (by simp[e2,p0]) (by omega) (by omega) ?_
    intro akm aib l0
    simp[p0]at l0
    simp
    refine cY (af:=jb) (xs:=eS m t) (n:=i) (a:=lr) (e:=120) (U:=1) (aC:=false) (by simpa using Tf) (by simp) o2 (by simp) (by simp) (by simp) (by decide) ?_
    intro vu B7 xT
    refine rG (e:=80) (U:=4) (aC:=true) (af:=cc) (xs:=fm (n+m)) (bS:=lr) (u:=rJ) (j:=m) (m:=n) (k:=cU.length) hu.2 (by simpa[p0]using l0) (by omega) (by simpa using xT) (fun u y h=>h.whole) (fun aH dz u y ak h=>h.kept ak (by decide)) (by simp) (by simp) (by simp) (by decide) (by decide) ?_
    rintro ke lN hR oZ- -
    rw[afb Ek]at lN
    have sk:=ko.inner hu.1 (by decide) oZ lN (fun u x h=>h.kept oZ (by decide))
    have sZ:=hR _ (Nat.le_refl _) gi
    have Dz:=rb.ext sZ
    simp[lL,ie]
    refine cY (af:=gZ) (xs:=us) (n:=n+i) (a:=rJ) (e:=120) (U:=1) (aC:=false) (by simpa using sk.own.row) (by simp) hu.1 (by simp) (by simp) (by simp) (by decide) ?_
    rintro Ft Pk rfl
    simp
    refine aV.mk (yf (j:=i) Dz o2 (by omega) (by omega) (xP lr al.2.1).1 (xP lr al.2.1).2 gH.bits) ?_
    rintro Gw kf ⟨g6,xZ⟩
    refine⟨g6,?_⟩
    simp
    refine aV.mk (FF (N:=N) (l1.ext (sZ.aw g6)) xZ Mh (xP.sum al.2.1) gH.bits) ?_
    rintro Px rS ⟨j4,x0⟩
    refine⟨j4,?_⟩
    have o3:=g6.aw j4
    have DB:=sk.ext o3
    have Dp:=b3.ext (af:=bH cU.length 80 4 true cc) lN o3
    refine kR (k:=cU.length) (e:=80) (U:=4) (aC:=true) (n:=i) (af:=cc) (xs:=fm m++lr) (a:=gj n m t-hk lr) (by simpa using Dp) (by simp) (by simp[fm];omega) (by simpa using x0) (by simpa using x0.whole) (by simp) (fun aH dz u y ak h=>h.kept ak (by decide)) (by simp) (by simp) (by simp) (by decide) ?_
    rintro NM y6 wU nj sz UC-
    simp at wU sz
    have wZ:=DB.inner hu.1 (by decide) sz wU (fun u x h=>h.kept sz (by decide))
    rw[List.set_set]at wZ
    have T4:lr=iM t i:=by
     have:(eS m t)[i]?=some (iM t i):=by simp[eS,List.getElem?_range ad]
     rw[this]at o2
     exact(Option.some.inj o2).symm
    have AO:hk lr=bX n (fun j=>bU t j i):=by
     rw[Em];exact hE fun j aW=>tS aA aW ad
    simp
    refine aX _ _ _ (by simp[lL]) ⟨nj _ (Nat.le_refl _) (sZ.aw o3),_,us,wZ,?_⟩
    refine F6 (tT:=fun a=>if a<n then ox n m t (gj n m t) a else if a<n+(i+1)then rA n m t (gj n m t) (a-n)else fm (n+m)) bE (by omega) kF ?_ fun a aO k_=>?_
    ·rw[if_neg (by omega),if_pos (by omega),Nat.add_sub_cancel_left]
     unfold rA
     rw[<-T4,AO]
    ·by_cases o:a<n
     ·simp[o]
     ·by_cases aa:a<n+i
      ·simp[o,aa,show a<n+(i+1) by omega]
      ·simp[o,aa,show¬a<n+(i+1) by omega]
   ·rintro rP qt h6 lL ⟨gi,B,us,ko,bE,kF⟩
    have eR:=ko.row
    simp[bd]
    have Ua:=aaL aA aU (aaZ aA aG hm aU) bE kF
    exact aD _ _ ⟨x2.aw gi,_,B,rfl,eR,Ua⟩
def eK(H:ab)(v:Value)(p:List Nat×List Int):Prop:=∃a n c,v= .agg #[.string (cg p.1),.slice a n c]/\Row 3 1 false IR H (.slice a n c) p.2
instance:b3 eK:=⟨fun⟨a,n,c,h,o⟩ J=>⟨a,n,c,h,b3.ext (af:=Row _ _ _ IR) o J⟩⟩
theorem eK.kc{H:ab}{v:Value}{p:List Nat×List Int}(h:eK H v p):Whole prog 93 v:=by
 obtain⟨a,n,c,rfl,-⟩:=h
 exact⟨by rfl,by simp[Value.cells,Value.oneCell'],by simp[e3]⟩
theorem eK.kept{H aH:ab}{e:Nat}{s v:Value}{p:List Nat×List Int}(h:eK H v p)(ak:Kept H aH s e)(aa:3≠e):eK aH v p:=by
 obtain⟨a,n,c,rfl,a3⟩:=h
 exact⟨a,n,c,rfl,a3.kept ak aa fun _ _ h=>h⟩
section
variable {P:Program} {r:List bF} {F:Fr} {H:ab} {Q:Fr->ab->Prop} {α:Type}
theorem yO{e0:Bool}{d1 d2 t bY cJ e U bI k:Nat}{aC:Bool}{s x:Operand}{z:Value}{af:ab->Value->α->Prop}{xs:List α}{a:α}{ax:ba ((⟨e0,none,some d1,.buildSlice t 1 #[(0,x)]⟩:bF)::ap d2 bY cJ s (T d1)::r) Q}(cy:bH k e U aC af H (aq F s) xs)(aO:af H (aq F x) a)
  (hw:Whole P e (aq F x))(fu:∀v,aq (a1 F d1 v) s=aq F s)(ht:∀aH dz u y,Kept H aH dz e->af H u y->af aH u y)
  (bO:P.underlying t=some (.slice e))(hu:P.underlying bY=some (.slice e))(J:fH P cJ=true)(ao:bp P e=some U)(et:dq P e=some aC)(ag:bytes? P e=some bI)(aN:dA P e=some z)(dU:flat z=true)(di:z.cells.size=U)(c7:0<U)(q9:U<=1000)
  (dY:0<bI)(bz:(xs.length+1)*bI<=140737488355328)(ak:k<=H.length)
  (K:∀p ep eG aH,bH k e U aC af aH (.slice ep (xs.length+1) eG) (xs++[a])->(∀cx:ab,cx.length<=k->Ext cx H->Ext cx aH)->Kept H aH (aq F s) e->a_ P r Q .mk (a1 (a1 F d1 p) d2 (.slice ep (xs.length+1) eG)) aH):
  a_ P ((⟨e0,none,some d1,.buildSlice t 1 #[(0,x)]⟩:bF)::ap d2 bY cJ s (T d1)::r) Q ax F H:=
 qh cy aO hw fu ht bO hu J ao et ag aN dU di c7 q9 dY bz ak fun p au aH mo aY a3=>by
  have ar:=mo.len
  rw[List.length_append,List.length_singleton]at ar
  obtain⟨ep,eG,rfl⟩:=ar
  exact K p ep eG aH mo aY a3
end
theorem abc{d t d2 n:Nat}{x i:Operand}{r:List bF}{F:Fr}{H:ab}{Q:Fr->ab->Prop}{xs:List (Rat×List Int)}{a:Rat×List Int}{ax:ba (bn d t x i::aF d2 113 (T d)::r) Q}(bo:Row 113 5 true jP H (aq F x) xs)(ad:aq F i= .int .i64 (n:Int))(aO:xs[n]?=some a)
  (bO:e_ prog t=some 113)(K:∀p s1 b1 cT cn s2 cA c2 cD eB eL,cc H (.agg #[.bool s1,.slice b1 cT cn,.bool s2,.slice cA c2 cD]) a.1->Row 3 1 false IR H (.slice eB a.2.length eL) a.2->a_ prog r Q .mk (a1 (a1 F d p) d2 (.agg #[.bool s1,.slice b1 cT cn,.bool s2,.slice cA c2 cD,.slice eB a.2.length eL])) H):a_ prog (bn d t x i::aF d2 113 (T d)::r) Q ax F H:=
 cY bo ad aO bO (by rfl) (by rfl) (by decide) fun p u ⟨s1,b1,cT,cn,s2,cA,c2,cD,eB,j9,eL,hu,o,aa⟩=>by
  subst hu
  obtain⟨fz,dT,he⟩:=aa.len
  simp at he
  obtain⟨rfl,rfl,rfl⟩:=he
  exact K p s1 b1 cT cn s2 cA c2 cD eB eL o aa
theorem aa8(N:Nat)(h:N<=10000):2^N<=10^4000:=by
 have o:=rz 2 N 10000 (by decide) h
 have aa:=Fz 2 5 2000 10000 (by decide)
 have aB:=Fz 10 2 2000 4000 (by decide)
 have bs:=FA (2^5) (10^2) 2000 (by decide)
 rw[aB]
 exact Nat.le_trans o (by rw[aa];exact bs)
theorem JA{n N:Nat}(h:n<2^N)(bQ:N<=10000):(dec n).length<=4000:=by
 unfold dec
 split
 ·decide
 ·rw[List.length_reverse]
  exact Ob n 4000 (Nat.lt_of_lt_of_le h (aa8 N bQ))
theorem dn.Fm{N:Nat}{q:Rat}(h:dn N q)(bQ:N<=10000):lD q:=⟨JA h.1 bQ,.inr (JA h.2 bQ)⟩
theorem kC.congr{n:Nat}{B kT:Nat->Nat->Rat}{L:Rat}(h:kC n B L)(e:∀i k,i<n->k<n->kT i k=B i k):kC n kT L:=
 ⟨fun i k ad ak=>by rw[e i k ad ak];exact h.iX i k ad ak,fun i ad=>by rw[<-h.row i ad];exact hE fun k ak=>e i k ad ak,fun k ak=>by rw[<-h.tN k ak];exact hE fun i ad=>e i k ad ak⟩
theorem rO.congr{n:Nat}{A B:Nat->Nat->Rat}{L:Rat}{a6:List (Rat×List Int)}(h:rO n A L a6)(e:∀i k,i<n->k<n->B i k=A i k):rO n B L a6:=
 ⟨h.parts,fun i k ad ak=>by rw[h.sum i k ad ak,e i k ad ak],h.len,h.mY⟩
def yC(n m:Nat)(p:Rat×List Int):List Nat×List Int:=(gr p.1,jS n m p.2)
theorem aah{v:Value}{t:List (List Rat)}{n m N D:Nat}{H:ab}(bc:hN H v t)(aA:fo n m t)(aG:0<n)(hm:0<m)(lX:n<10000)(lV:m<10000)(aI:∀i k,i<n->k<m->0<=bU t i k)(aU:ix D t)(gH:mf D N (gj n m t))(bQ:N<=10000):
  aP prog 38 [.agg #[v]] H (fun u H1=>Ext H H1/\∃w a6,u= .tuple #[w,.int .i64 0]/\ze n m (bU t) (gj n m t) a6/\(∀p∈a6,e6 D p.1)/\Row 93 2 true eK H1 w (a6.map fun p=>(gr p.1,p.2))):=by
 refine aP.b9 fun Q aD=>?_
 have oe:=aA.len
 obtain⟨fE,gR,o1,q7,L3,xI⟩:=aA.at aG
 apply X6 (by simp)
 obtain⟨a,c,rfl⟩:=Row.len bc
 simp[Iu]
 have br:Ext H (H++[.dead]):=Ext.dead H
 refine aV.mk (aaM (bc.ext br) aA aG hm lX lV aI aU gH) ?_
 rintro u H1 ⟨bw,a7,s,rfl,ao,T_,Un,K6⟩
 have UK:kC (n+m) (bU s) (gj n m t):=(aaJ aI (fun i ad=>Gb aA ad) (fun k ak=>F_ aA ak)).congr K6
 try simp
 refine aV.mk (QY (N:=N) ao T_ (by omega) (by omega) UK Un gH) ?_
 rintro u aR ⟨bf,a6,uN,Lx,sG⟩
 have Vd:=(uN.congr fun i k ad ak=>(K6 i k ad ak).symm).Zq
 have ks:=br.aw (bw.aw bf)
 have hx:=bc.ext ks
 have iz:0<aR.length:=by have:=Ext.len ks;have:=Ext.len (bw.aw bf);simp at this;omega
 refine cP (af:=jP) (xs:=a6) (by simpa using sG) (by simp) ?_
 try simp
 have Ue:a6.length<=(n+m)*(n+m):=uN.mY
 have ahx:(n+m)*(n+m)<=20000*20000:=Nat.mul_le_mul (by omega) (by omega)
 refine dm.range (by kernel_rfl) a6.length (by omega) (by simp) (by rfl) (by simp) (by decide) (by decide) (fun i dt ez bP=>Ext aR bP/\bH aR.length 93 2 true eK bP (dt 4) ((a6.take i).map (yC n m))) ?_ ?_ ?_
 ·exact⟨Ext.refl _,by simpa using bH.nil _ _ _ _ _ _⟩
 ·rintro i dt ez bP ad wO ⟨bG,gx⟩ K aX
  simp at wO gx
  refine Exists.elim (⟨_,bB ad⟩:∃p,a6[i]?=some p) fun p a2=>?_
  have jn:=List.mem_of_getElem? a2
  have m_:=(uN.parts p jn).2
  have hA:=(uN.parts p jn).1
  have c7:dn N p.1:=gH.U (Lx p jn) (Rat.le_of_lt hA) (by
   rw[<-uN.len];exact(Fv fun p a2=>(uN.parts p a2).1).2 p jn)
  simp[wO]
  refine abc (xs:=a6) (n:=i) (a:=p) (by simpa using b3.ext (af:=Row _ _ _ jP) sG bG) (by simp[wO]) a2 (by simp) ?_
  intro g8 s1 b1 cT cn s2 cA c2 cD eB eL sH Ux
  try simp
  have fj:=Ext.dead bP
  refine aV.mk (Oh (sH.ext fj) c7 (by omega)) ?_
  rintro u b8 ⟨cR,hu⟩
  rw[if_pos (c7.Fm bQ)]at hu
  subst hu
  have mE:=fj.aw cR
  try simp
  have cI:=Ext.dead b8
  have z3:=hx.ext (bG.aw (mE.aw cI))
  refine aV.mk (yi z3 gR q7) ?_
  rintro u cU ⟨cw,rfl⟩
  refine⟨cw,?_⟩
  have EO:=mE.aw (cI.aw cw)
  have sj:=hx.ext (bG.aw EO)
  have ig:=m_.len
  try simp
  refine qi (e:=3) (U:=1) (aC:=false) (af:=IR) (xs:=p.2) (l:=0) (h:=m) (by simpa using b3.ext (af:=Row _ _ _ IR) Ux EO) (by simp) (by simp) (by decide) (by simp[dM]) (by simp[e2]) (by omega) (by omega) ?_
  intro akp EF
  have RG:(p.2.drop 0).take (m-0)=p.2.take m:=by simp
  rw[RG]at EF
  refine cP (af:=IR) (xs:=p.2.take m) (by simpa using EF) (by simp) ?_
  have qZ:(p.2.take m).length=m:=by simp;omega
  simp[qZ]
  refine dm.range (by kernel_rfl) m (by omega) (by simp[ig]) (by rfl) (by simp) (by decide) (by decide) (fun j vY tw fJ=>Ext cU fJ/\∃ep eG,tw 9= .agg #[.string (cg (gr p.1)),.slice ep j eG]/\bH cU.length 3 1 false IR fJ (.slice ep j eG) ((jS n m p.2).take j)) ?_ ?_ ?_
  ·exact⟨Ext.refl _,none,0,by simp,by simpa using bH.nil _ _ _ _ _ _⟩
  ·rintro j vY tw fJ aW oQ ⟨dF,ep,eG,ue,m0⟩ afl SL
   simp at oQ ue
   refine Exists.elim (m_.dQ j (by omega)) fun x J=>?_
   have bw:=J.1
   have MD:=J.2
   have Vh:(p.2.take m)[j]?=some (x:Int):=by rw[List.getElem?_take_of_lt aW];exact MD
   have T6:(jS n m p.2)[j]?=some (if(n:Int)<=(x:Int)then(-1:Int)else(x:Int)):=by rw[CL,if_pos aW,MD];rfl
   have gz:(jS n m p.2).length=m:=m_.cut.len
   try simp[oQ]
   refine cY (af:=IR) (xs:=p.2.take m) (n:=j) (a:=(x:Int)) (e:=3) (U:=1) (aC:=false) (by simpa using b3.ext (af:=Row _ _ _ IR) EF dF) (by simp[oQ]) Vh (by simp) (by simp) (by simp) (by decide) ?_
   rintro yr Gi rfl
   try simp
   have ur:=sj.ext dF
   refine ca.join (by kernel_rfl) (fun qp tu iJ=>Ext fJ iJ/\qp 11= .int .i64 (if(n:Int)<=(x:Int)then(-1:Int)else(x:Int))) ?_ ?_
   ·rintro afj Ks-
    try simp
    refine aV.mk (A_ ur oe) ?_
    rintro u iJ ⟨fY,rfl⟩
    try simp
    refine bt.b6 (fun ae=>?_) (fun ae=>?_)
    ·try simp
     refine Ks _ _ _ ⟨fY,?_⟩
     rw[if_pos (by omega)];simp
    ·refine Ks _ _ _ ⟨fY,?_⟩
     rw[if_neg (by omega)];simp
   ·rintro qp tu iJ ⟨fY,jf⟩
    simp at jf
    have Dn:=b3.ext (af:=bH cU.length 3 1 false IR) m0 fY
    have xt:=Ext.len (dF.aw fY)
    simp[ue,jf]
    refine yO (k:=cU.length) (e:=3) (U:=1) (aC:=false) (bI:=8) (z:= .int .i64 0) (af:=IR) (xs:=(jS n m p.2).take j) (a:=(if(n:Int)<=(x:Int)then(-1:Int)else(x:Int))) (by simpa using Dn) (by simp[IR,jf]) (by simp[jf];split<;>exact kd _) (by simp) (fun _ _ _ _ _ h=>h) (by simp) (by simp) (by simp) (by simp) (by simp) (by rfl) (by rfl) (by rfl) (by rfl) (by decide) (by decide) (by decide) (by simp;omega) (by omega) ?_
    intro Bs P9 Qw h6 ui gi ahE
    have gg:((jS n m p.2).take j).length=j:=by simp;omega
    rw[gg]at ui
    simp[ue,gg]
    refine SL _ _ _ (by simp[oQ]) ⟨gi _ (Nat.le_refl _) (dF.aw fY),P9,Qw,by simp,?_⟩
    rw[List.take_add_one,T6]
    exact ui
  ·rintro vY tw fJ oQ ⟨dF,ep,eG,ue,m0⟩
   simp at ue
   have gz:(jS n m p.2).length=m:=m_.cut.len
   have S1:bH cU.length 3 1 false IR fJ (.slice ep m eG) (jS n m p.2):=by
    rw[<-List.take_of_length_le (l:=jS n m p.2) (i:=m) (by omega)];exact m0
   have EP:=EO.aw dF
   have KH:eK fJ (.agg #[.string (cg (gr p.1)),.slice ep m eG]) (yC n m p):=⟨ep,m,eG,rfl,S1.row⟩
   have ahN:=Ext.len (bG.aw EP)
   simp[ue]
   refine qh (k:=aR.length) (e:=93) (U:=2) (aC:=true) (bI:=40) (z:= .agg #[.string ⟨#[]⟩,.slice none 0 0]) (af:=eK) (xs:=(a6.take i).map (yC n m)) (a:=yC n m p) (by simpa using b3.ext (af:=bH _ _ _ _ eK) gx EP) (by simpa using KH) (by simpa using KH.kc) (by simp) (fun aH dz u y ak h=>h.kept ak (by decide)) (by simp) (by simp) (by simp) (by simp) (by simp) (by rfl) (by rfl) (by first | rfl | simp[flat,hb]) (by rfl) (by decide) (by decide) (by decide) (by simp;omega) (by omega) ?_
   intro vu adD ke lN hR oZ
   try simp
   refine aX _ _ _ (by simp[wO]) ⟨hR _ (Nat.le_refl _) (bG.aw EP),?_⟩
   rw[List.take_add_one,a2,List.map_append]
   simpa using lN
 ·rintro dt ez bP wO ⟨bG,gx⟩
  simp at gx
  have eR:=gx.row
  have e:a6.map (yC n m)=(a6.map fun p=>(p.1,jS n m p.2)).map fun p=>(gr p.1,p.2):=by
   rw[List.map_map];rfl
  rw[e]at eR
  simp[bd]
  refine aD _ _ ⟨ks.aw bG,_,_,rfl,Vd,fun p a2=>?_,eR⟩
  rw[List.mem_map]at a2
  obtain⟨q,av,rfl⟩:=a2
  exact Lx q av
theorem vx{t:List (List Int)}{n m:Nat}(aG:t.length=n)(hm:∀r∈t,r.length=m):fo n m (cF t):=
 ⟨by simp[cF,aG],fun r al=>by
  unfold cF at al
  rw[List.mem_map]at al
  obtain⟨dR,fB,rfl⟩:=al
  simpa using hm dR fB⟩
theorem pd(t:List (List Int))(i k:Nat):bU (cF t) i k=(((t[i]?.getD [])[k]?.getD 0:Int):Rat):=by
 unfold bU cF
 rw[List.getElem?_map]
 cases al:t[i]? with
 | none=>simp
 | some r=>
  simp only[Option.map_some,Option.getD_some,List.getElem?_map]
  cases r[k]?<;>simp
theorem ZI(t:List (List Int)):ix 1 (cF t):=fun r al q av=>by
 unfold cF at al
 rw[List.mem_map]at al
 obtain⟨dR,fB,rfl⟩:=al
 rw[List.mem_map]at av
 obtain⟨x,J,rfl⟩:=av
 exact e6.int x
theorem lF.iX{t:List (List Int)}(h:lF t)(i k:Nat):0<=bU (cF t) i k:=by
 rw[pd]
 have:(0:Int)<=(t[i]?.getD [])[k]?.getD 0:=by
  cases al:t[i]? with
  | none=>simp
  | some r=>
   simp only[Option.getD_some]
   cases J:r[k]? with
   | none=>simp
   | some x=>exact((h r (List.mem_of_getElem? al)).2 x (List.mem_of_getElem? J)).1
 exact_mod_cast this
theorem BT{t:List (List Int)}{n m:Nat}(aG:t.length=n)(hm:(t[0]?.getD []).length=m)(h:lF t)(ar:t.length<=1000):gj n m (cF t)=(((fV t).1:Int):Rat)/\(fV t).1.natAbs<=1000000000:=by
 have key:∀{t:List (List Int)} (n:Nat),(dx (dL (cF t)) n).1=((dx (dL (cF t)) n).1.num:Rat):=fun{t} n=>by
  rw[(s8 _ n).1,FM,Rat.num_intCast]
 have gN:=Bi h n
 have kj:=Bi (h.eS (m:=m) ar) m
 unfold gj fV
 rw[N8,aG,hm]
 simp only
 split
 ·exact⟨key m,kj⟩
 ·exact⟨key n,gN⟩
theorem NR{v:Value}{t:List (List Int)}{H:ab}(bc:kg H v t)(ar:t.length<65536)(al:∀r∈t,r.length<65536):
  aP prog 10 [v] H (fun u H1=>Ext H H1/\(eT t->∃w a6,u= .tuple #[w,.int .i64 0]/\ze t.length (t[0]?.getD []).length (bU (cF t)) (((fV t).1:Int):Rat) a6/\(∀p∈a6,e6 1 p.1)/\Row 93 2 true eK H1 w (a6.map fun p=>(gr p.1,p.2)))/\(¬eT t->u= .tuple #[.slice none 0 0,.int .i64 1])):=by
 refine aP.b9 fun Q aD=>?_
 obtain⟨m,hm⟩:∃m,m=(t[0]?.getD []).length:=⟨_,rfl⟩
 apply XW (by simp)
 simp[Il]
 refine aV.mk (Gu bc (by omega) fun r h=>by have:=al r h;omega) ?_
 rintro u H1 ⟨bw,rfl⟩
 simp
 refine bt.mk (fun an=>?good) (fun an=>?bad)
 case bad=>
  simp at an
  simp[bd]
  exact aD _ _ ⟨bw,fun h=>absurd h an,fun _=>rfl⟩
 simp at an
 have ao:=an.small
 have eO:=an.len
 have v1:=an.1
 have v2:=an.2.1
 have tl:=an.2.2.1
 have v4:=an.2.2.2.1
 rw[<-hm]at eO tl v4
 have l1:=BT rfl hm.symm ao (by omega)
 simp
 refine aV.mk (FI (bc.ext bw).row (by omega) al fun r h x J=>by have:=(ao r h).2 x J;omega) ?_
 rintro _ aR ⟨bf,IT,Jr,rfl,qP⟩
 simp
 refine aV.mk (aah (n:=t.length) (m:=m) (N:=64) (D:=1) qP (vx rfl eO) (by omega) (by omega) (by omega) (by omega) (fun i k _ _=>ao.iX i k) (ZI t) (by rw[l1.1];exact mf.int (by have:=l1.2;omega) (by decide) (by decide)) (by decide)) ?_
 rintro u bP ⟨bG,w,a6,rfl,sF,q5,U_⟩
 rw[l1.1]at sF
 simp[bd]
 refine aD _ _ ⟨bw.aw (bf.aw bG),fun _=>⟨w,a6,rfl,?_,q5,U_⟩,fun h=>absurd an h⟩
 rw[<-hm]
 exact sF
theorem WE{v:Value}{l:List Int}{x:Int}{H:ab}(ed:dO H v l)(ar:l.length<65536):
  aP prog 103 [v,.int .i64 x] H (fun u H1=>H1=H/\∃r:Int,u= .int .i64 r/\(0<=r↔x∈l)):=by
 refine aP.b9 fun Q aD=>?_
 apply Yh (by simp)
 obtain⟨a,c,rfl⟩:=Row.len ed
 simp[Iz]
 refine cP (af:=IR) (xs:=l) (by simpa using ed) (by simp) ?_
 simp
 refine dm.range (by kernel_rfl) l.length (by omega) (by simp) (by rfl) (by simp) (by decide) (by decide) (fun i bR c5 aR=>aR=H/\x∉l.take i) ?_ ?_ ?_
 ·exact⟨rfl,by simp⟩
 ·rintro i bR c5 aR ad jg ⟨rfl,J⟩ K aX
  simp at jg
  refine Exists.elim (⟨_,bB ad⟩:∃y,l[i]?=some y) fun y aK=>?_
  simp[jg]
  refine cY (af:=IR) (xs:=l) (n:=i) (a:=y) (e:=3) (U:=1) (aC:=false) (by simpa using ed) (by simp) aK (by simp) (by simp) (by simp) (by decide) ?_
  rintro fC ph rfl
  simp
  refine bt.b6 (fun ae=>?_) (fun ae=>?_)
  ·simp[jg,bd]
   exact aD _ _ ⟨rfl,_,rfl,by simp;rw[ae];exact List.mem_of_getElem? aK⟩
  ·try simp
   refine aX _ _ _ (by simp[jg]) ⟨rfl,?_⟩
   rw[List.take_add_one,aK,List.mem_append]
   simp[J,ae]
 ·rintro bR c5 aR jg ⟨rfl,J⟩
  simp at J
  simp[bd]
  exact aD _ _ ⟨rfl,-1,rfl,by simp[J]⟩
theorem QH{v:Value}{l:List Int}{x:Int}{H:ab}(ed:dO H v l)(ar:l.length<65536):
  aP prog 76 [v,.int .i64 x] H (fun u H1=>H1=H/\u= .bool (decide (x∈l))):=by
 refine aP.b9 fun Q aD=>?_
 apply Ye (by simp)
 simp[Iy]
 refine aV.mk (WE ed ar) ?_
 rintro u H1 ⟨rfl,r,rfl,al⟩
 simp[bd]
 exact aD _ _ ⟨rfl,by simp[al]⟩
def g_(l:List Nat):Rat:=Rat.divInt (fZ l) (er l)
def py(n m:Nat)(p:List Nat×List Int):Prop:=(h1 p.1/\0<g_ p.1/\p.2.length=m)/\y8 n m p.2
def parts(bC:List (List Nat×List Int)):List (Rat×List Int):=bC.map fun p=>(g_ p.1,p.2)
def rU(n:Nat)(l:List Int)(k:Nat):Prop:=∃x,l[k]?=some x/\ -1<=x/\x<n/\(0<=x->x∉l.take k)
theorem Jp{l:List Int}{x:Int}:(∀k,l[k]?=some x->x∉l.take k)↔l.count x<=1:=by
 constructor
 ·intro h
  by_cases hm:x∈l
  ·obtain⟨k,ak⟩:=List.mem_iff_getElem?.1 hm
   have hg:=(cH.1 ak).1
   have o:=h k ak
   have aa:x∉l.drop (k+1):=fun aA=>by
    obtain⟨j,aW⟩:=List.mem_iff_getElem?.1 aA
    rw[List.getElem?_drop]at aW
    refine h _ aW (List.mem_iff_getElem?.2 ⟨k,?_⟩)
    rw[List.getElem?_take_of_lt (by omega)]
    exact ak
   have e:l=l.take k++l[k]::l.drop (k+1):=by rw[List.getElem_cons_drop hg,List.take_append_drop]
   rw[e,List.count_append,List.count_cons,List.count_eq_zero.2 o,List.count_eq_zero.2 aa]
   split<;>omega
  ·rw[List.count_eq_zero.2 hm];omega
 ·intro h k ak hm
  have hg:=(cH.1 ak).1
  have e:l=l.take k++l[k]::l.drop (k+1):=by rw[List.getElem_cons_drop hg,List.take_append_drop]
  have J:l[k]=x:=(cH.1 ak).2
  rw[e,List.count_append,List.count_cons,J]at h
  have:=List.count_pos_iff.2 hm
  simp at h
  omega
theorem ya{n m:Nat}{l:List Int}:y8 n m l↔l.length=m/\∀k,k<m->rU n l k:=by
 constructor
 ·intro h
  refine⟨h.len,fun k ak=>?_⟩
  rcases h.ZW k ak with o | ⟨j,aW,o⟩
  ·exact⟨-1,o,by omega,by omega,fun h=>by omega⟩
  ·exact⟨j,o,by omega,by omega,fun _=>Jp.2 (h.inj j aW) k o⟩
 ·rintro⟨ar,h⟩
  refine⟨ar,fun k ak=>?_,fun j aW=>Jp.1 fun k ak=>?_⟩
  ·obtain⟨x,o,aa,aB,bs⟩:=h k ak
   by_cases J:x= -1
   ·exact .inl (J▸o)
   ·exact .inr ⟨x.toNat,by omega,by rw[o];congr 1;omega⟩
  ·obtain⟨x,o,aa,aB,bs⟩:=h k (by have:=(cH.1 ak).1;omega)
   rw[o]at ak
   have:=Option.some.inj ak
   subst this
   exact bs (by omega)
theorem aaU:(10:Nat)^4000<=2^13288:=Zz 10 500 2 1661 8 4000 13288 (by decide) (by decide) (by decide+kernel)
theorem JG{l:List Nat}(h:hK l):dE l<2^13288:=by
 have o:=qI h.1
 have aa:=rz 10 l.length 4000 (by decide) h.2.2.2
 exact Nat.lt_of_lt_of_le o (Nat.le_trans aa aaU)
theorem Gq{l:List Nat}(h:h1 l):dn 13288 (g_ l):=by
 obtain⟨o,aa,aB,bs⟩:=h
 have aA:er l≠0/\er l<2^13288:=by
  unfold er
  cases hu:kz l with
  | none=>exact⟨by decide,FB 13288 (by decide)⟩
  | some u=>
   obtain⟨aY,a3⟩:=aa u hu
   exact⟨by simp only;omega,JG aY⟩
 refine dn.divInt aA.1 ?_ aA.2
 unfold fZ
 have:=JG o
 split
 ·rw[Int.natAbs_neg,Int.natAbs_natCast];exact this
 ·rw[Int.natAbs_natCast];exact this
def gC(s:Nat):Nat:=13290*s+1
theorem OK:dn (gC 0) 0:=⟨by simp[gC],by simp[gC]⟩
theorem F2{s:Nat}{a b:Rat}(aO:dn (gC s) a)(ag:dn 13288 b):dn (gC (s+1)) (a+b):=(aO.add ag).mono (by unfold gC;omega)
theorem NT(a6:List (Rat×List Int))(p:Rat×List Int):dV (a6++[p])=dV a6+p.1:=by
 rw[NS];simp only[dV];grind
theorem NY(a6:List (Rat×List Int))(p:Rat×List Int)(i k:Nat):fv (a6++[p]) i k=fv a6 i k+il p i k:=by
 rw[NX];simp only[fv];grind
theorem Fu{bC:List (List Nat×List Int)}{s:Nat}{p:List Nat×List Int}(h:bC[s]?=some p):parts (bC.take (s+1))=parts (bC.take s)++[(g_ p.1,p.2)]:=by
 unfold parts
 rw[List.take_add_one,h,List.map_append];rfl
theorem yI{bC:List (List Nat×List Int)}(h:∀p∈bC,h1 p.1):dn (gC bC.length) (dV (parts bC))/\∀i k,dn (gC bC.length) (fv (parts bC) i k):=by
 induction bC with
 | nil=>exact⟨OK,fun _ _=>OK⟩
 | cons p bC a0=>
  obtain⟨o,aa⟩:=a0 fun q av=>h q (by simp[av])
  have aB:=Gq (h p (by simp))
  refine⟨?_,fun i k=>?_⟩
  ·have:=F2 o aB
   rw[Rat.add_comm]at this
   exact this
  ·have a2:dn 13288 (il (g_ p.1,p.2) i k):=by
    unfold il
    split
    ·exact aB
    ·exact⟨Nat.two_pow_pos 13288,FB 13288 (by decide)⟩
   have:=F2 (aa i k) a2
   rw[Rat.add_comm]at this
   exact this
theorem dO.whole{H:ab}{u:Value}{y:List Int}(h:dO H u y):Whole prog 34 u:=by
 obtain⟨a,c,rfl⟩:=Row.len h
 exact⟨by rfl,by rfl,by simp[e3]⟩
theorem dO.kept{H aH:ab}{e:Nat}{s u:Value}{y:List Int}(h:dO H u y)(ak:Kept H aH s e)(cQ:3≠e):dO aH u y:=Row.kept h ak cQ fun _ _ h=>h
theorem OT{d t d2 n:Nat}{x i:Operand}{r:List bF}{F:Fr}{H:ab}{Q:Fr->ab->Prop}{xs:List (List Nat×List Int)}{a:List Nat×List Int}{ax:ba (bn d t x i::aF d2 93 (T d)::r) Q}(bo:Row 93 2 true eK H (aq F x) xs)(ad:aq F i= .int .i64 (n:Int))(aO:xs[n]?=some a)
  (bO:e_ prog t=some 93)(K:∀p eB eL,dO H (.slice eB a.2.length eL) a.2->a_ prog r Q .mk (a1 (a1 F d p) d2 (.agg #[.string (cg a.1),.slice eB a.2.length eL])) H):a_ prog (bn d t x i::aF d2 93 (T d)::r) Q ax F H:=
 cY bo ad aO bO (by rfl) (by rfl) (by decide) fun p u ⟨eB,j9,eL,hu,aa⟩=>by
  subst hu
  obtain⟨fz,dT,he⟩:=aa.len
  simp at he
  obtain⟨rfl,rfl,rfl⟩:=he
  exact K p eB eL aa
def nP(bC:List (List Nat×List Int))(s:Nat)(p:Rat×List Int)(i j k:Nat):Rat:=fv (parts (bC.take s)) j k+if k<i then il p j k else 0
theorem Ru(bC:List (List Nat×List Int))(s:Nat)(p:Rat×List Int)(j k:Nat):nP bC s p 0 j k=fv (parts (bC.take s)) j k:=by
 unfold nP
 rw[if_neg (Nat.not_lt_zero k)]
 exact Rat.add_zero _
theorem Rs{bC:List (List Nat×List Int)}{s m:Nat}{p:List Nat×List Int}(a2:bC[s]?=some p){j k:Nat}(ak:k<m):nP bC s (g_ p.1,p.2) m j k=fv (parts (bC.take (s+1))) j k:=by
 unfold nP
 rw[if_pos ak,Fu a2,NY]
theorem JD{bC:List (List Nat×List Int)}{s i:Nat}{p:Rat×List Int}{x:Int}(J:p.2[i]?=some x)(j k:Nat):nP bC s p (i+1) j k=nP bC s p i j k+if k=i/\x=(j:Int)then p.1 else 0:=by
 unfold nP il
 by_cases o:k<i
 ·rw[if_pos o,if_pos (by omega),if_neg (by omega:¬(k=i/\x=(j:Int)))]
  exact(Rat.add_zero _).symm
 ·by_cases aa:k=i
  ·subst aa
   rw[if_neg o,if_pos (by omega),J]
   simp only[Option.some.injEq,true_and]
   split<;>grind
  ·rw[if_neg o,if_neg (by omega),if_neg (fun h=>aa h.1)]
   exact(Rat.add_zero _).symm
theorem Rt{bC:List (List Nat×List Int)}{s i:Nat}{p:List Nat×List Int}(h:∀j k,dn (gC s) (fv (parts (bC.take s)) j k))(a2:h1 p.1)(j k:Nat):dn (gC (s+1)) (nP bC s (g_ p.1,p.2) i j k):=by
 unfold nP
 have o:=Gq a2
 refine F2 (h j k) ?_
 unfold il
 have aI:dn 13288 (0:Rat):=⟨Nat.two_pow_pos 13288,FB 13288 (by decide)⟩
 split
 ·split
  ·exact o
  ·exact aI
 ·exact aI
theorem Rv{v:Value}{bC:List (List Nat×List Int)}{n m:Nat}{H:ab}(jj:Row 93 2 true eK H v bC)(bE:∀p∈bC,Bytes p.1)(hlen:∀p∈bC,p.1.length<4611686018427387904/\p.2.length<65536)(mB:bC.length<=2000)(aG:0<n)(hm:0<m)(lX:n<1000)(lV:m<1000):
  aP prog 47 [v,.int .i64 n,.int .i64 m] H (fun u H1=>Ext H H1/\∃F3 F9 F7 js b,u= .tuple #[.agg #[.slice F3 F9 F7],js,.bool b]/\Whole prog 80 js/\(b=true↔(∀p∈bC,py n m p)/\bC.length<=1000)/\(b=true->∃B,hN H1 (.slice F3 F9 F7) B/\fo n m B/\(∀j k,j<n->k<m->bU B j k=fv (parts bC) j k)/\cc H1 js (dV (parts bC)))):=by
 refine aP.b9 fun Q aD=>?_
 apply XX (by simp)
 obtain⟨a,c,rfl⟩:=Row.len jj
 simp[Im]
 have br:Ext H (H++[.dead,.dead]):=Ext.more H (by simp)
 refine yM (e:=3) (U:=1) (bI:=8) (aC:=false) (n:=m) (e4:= .i64) (c9:= .i64) (z:= .int .i64 0) (af:=IR) (a:=0) (by simp) (by simp) (by simp) (by rfl) (by rfl) (by simp) (kd 0) (by simp) (by simp) (by decide) (by decide) (by omega) (fun aH=>rfl) ?_
 intro GD ae5 H1 iN bw
 have hC:dO H1 (.slice GD m ae5) (List.replicate m 0):=iN.row
 refine yL (e:=34) (U:=1) (aC:=false) (z:= .slice none 0 0) (af:=dO) (a:=List.replicate m 0) (fun aH J=>by simpa using b3.ext (af:=dO) hC J) (by simpa using hC.whole) (by simp) (by simp) (by simp) (by rfl) (by rfl) (by rfl) (by decide) (by decide) ?_
 intro hl aR fR bf
 simp
 refine aV.mk (ZR (af:=dO) (n:=n) fR.row (by omega) (fun H u y h=>h.whole) (fun H aH dz u y ak h=>h.kept ak (by decide))) ?_
 rintro cM bP ⟨bG,gx⟩
 have ib:hn bP cM (List.replicate n (List.replicate m 0)):=gx.row
 simp
 refine aV.mk (Oc ib (by simp;omega) (fun r h=>by rw[List.mem_replicate]at h;rw[h.2];simp;omega) (fun r h x J=>by rw[List.mem_replicate]at h;rw[h.2,List.mem_replicate]at J;rw[J.2];decide)) ?_
 rintro _ b0 ⟨cj,ll,ln,us,rfl,mq⟩
 simp
 refine aV.mk (By (n:=0) (by omega) (by omega)) ?_
 rintro Bg b8 ⟨cR,Ls⟩
 simp
 refine cN.mk Ls.whole ?_
 rw[List.length_replicate]at mq
 have cI:Ext b8 (b8++[.dead,.dead]):=Ext.more b8 (by simp)
 have o5:=cR.aw cI
 have MG:=cj.aw o5
 have l3:=br.aw (bw.aw (bf.aw bG))
 have Tj:=mq.ext o5
 simp
 refine cP (af:=eK) (xs:=bC) (by simpa using b3.ext (af:=Row _ _ _ eK) jj (l3.aw MG)) (by simp) ?_
 simp
 have fail:∀js nF,Whole prog 80 js->Ext H nF->(¬∀p∈bC,py n m p)->Q (.tuple #[.agg #[.slice none 0 0],js,.bool false]) nF:=fun js nF hw J g5=>aD _ _ ⟨J,none,0,0,js,false,rfl,hw,⟨fun h=>(by cases h),fun h=>absurd h.1 g5⟩,fun h=>by cases h⟩
 refine dm.range (by kernel_rfl) bC.length (by omega) (by simp) (by rfl) (by simp) (by decide) (by decide) (fun s ly lz cU=>Ext bP cU/\(∀p∈bC.take s,py n m p)/\cc cU (lz 10) (dV (parts (bC.take s)))/\∃B,en (bP.length+1) 120 80 4 true cc cU (.slice ll n ln) B us/\fo n m B/\∀j k,j<n->k<m->bU B j k=fv (parts (bC.take s)) j k) ?_ ?_ ?_
 ·refine⟨MG,by simp,by simpa[parts,dV]using Ls.ext cI,_,Tj,vx (by simp) (fun r h=>by rw[List.mem_replicate]at h;rw[h.2];simp),fun j k aW ak=>?_⟩
  rw[pd]
  simp[aW,ak,parts,fv]
 ·rintro s ly lz cU ao wP ⟨cw,xz,pT,B,DD,DS,Ae⟩ K aX
  simp at wP pT
  refine Exists.elim (⟨_,bB ao⟩:∃p,bC[s]?=some p) fun p a2=>?_
  have jn:=List.mem_of_getElem? a2
  have AI:=bE p jn
  have ig:=hlen p jn
  have Ko:=l3.aw cw
  have Ev:=yI (bC:=bC.take s) fun q av=>(xz q av).1.1
  have ld:(bC.take s).length=s:=by simp;omega
  rw[ld]at Ev
  simp[wP]
  refine OT (xs:=bC) (n:=s) (a:=p) (by simpa using b3.ext (af:=Row _ _ _ eK) jj Ko) (by simp[wP]) a2 (by simp) ?_
  intro p9 tD tJ xp
  simp
  have fj:=Ext.dead cU
  refine aV.mk (Zn AI ig.1) ?_
  rintro u fJ ⟨dF,aiF,(⟨jo,rfl,Vg⟩ | ⟨g5,rfl⟩),s1,b1,cT,cn,s2,cA,c2,cD,rfl⟩
  ·have Wq:=fj.aw dF
   have AO:cc fJ (.agg #[.bool s1,.slice b1 cT cn,.bool s2,.slice cA c2 cD]) (g_ p.1):=Vg
   have L0:=Gq jo
   simp
   have gI:=Ext.dead fJ
   have MK:=Wq.aw gI
   refine ca.join (by kernel_rfl) (fun qp tu iJ=>Ext (fJ++[.dead]) iJ/\qp 49= .bool (!decide (0<g_ p.1/\p.2.length=m))) ?_ ?_
   ·rintro cV dw-
    simp
    refine aV.mk (FE (AO.ext gI)) ?_
    rintro u iJ ⟨fY,rfl⟩
    by_cases hA:0<g_ p.1
    ·have od:¬((if g_ p.1<0 then(-1:Int)else if g_ p.1=0 then 0 else 1)<=0):=fun h=>Rat.not_lt.2 (yD.1 h) hA
     simp[od]
     refine cP (af:=IR) (xs:=p.2) (by simpa using b3.ext (af:=dO) xp (MK.aw fY)) (by simp) ?_
     simp
     refine dw _ _ _ ⟨fY,?_⟩
     simp[hA]
     try omega
    ·have od:((if g_ p.1<0 then(-1:Int)else if g_ p.1=0 then 0 else 1)<=0):=yD.2 (Rat.not_lt.1 hA)
     simp[od]
     refine dw _ _ _ ⟨fY,?_⟩
     simp[hA]
   ·rintro qp tu iJ ⟨fY,Ke⟩
    simp at Ke
    have A6:=MK.aw fY
    have D_:=pT.ext A6
    have MF:=cw.aw A6
    simp[Ke]
    refine bt.mk (fun ag=>?_) (fun ag=>?_)
    ·simp at ag
     simp[bd]
     refine cN.mk D_.whole ?_
     simp[bd]
     refine fail _ _ D_.whole (l3.aw MF) fun ey=>?_
     have:=(ey p jn).1
     rcases ag with ag | ag
     ·exact ag this.2.1
     ·exact ag this.2.2
    ·simp at ag
     have hA:=ag.1
     have xE:=ag.2
     have Vj:=AO.ext (gI.aw fY)
     have Lk:=b3.ext (af:=dO) xp A6
     have Th:=DD.ext A6
     have VL:=Ev.2
     simp
     refine cP (af:=IR) (xs:=p.2) (by simpa using Lk) (by simp) ?_
     simp
     refine dm.range (by kernel_rfl) p.2.length (by omega) (by simp) (by rfl) (by simp) (by decide) (by decide) (fun i rP qt h6=>Ext bP h6/\(∀k,k<i->rU n p.2 k)/\cc h6 (lz 10) (dV (parts (bC.take s)))/\cc h6 (.agg #[.bool s1,.slice b1 cT cn,.bool s2,.slice cA c2 cD]) (g_ p.1)/\dO h6 (.slice tD p.2.length tJ) p.2/\∃B,en (bP.length+1) 120 80 4 true cc h6 (.slice ll n ln) B us/\fo n m B/\∀j k,j<n->k<m->bU B j k=nP bC s (g_ p.1,p.2) i j k) ?_ ?_ ?_
     ·exact⟨MF,fun k ak=>by omega,D_,Vj,Lk,B,Th,DS,fun j k aW ak=>by rw[Ae j k aW ak];exact(Ru _ _ _ _ _).symm⟩
     ·rintro i rP qt h6 ad lL ⟨gi,uX,u3,xG,xo,B,ko,qU,uR⟩ mg fA
      simp at lL
      refine Exists.elim (⟨_,bB ad⟩:∃x,p.2[i]?=some x) fun x J=>?_
      refine ca.join (by kernel_rfl) (fun y3 Cg oE=>Ext bP oE/\(∀k,k<i+1->rU n p.2 k)/\cc oE (lz 10) (dV (parts (bC.take s)))/\cc oE (.agg #[.bool s1,.slice b1 cT cn,.bool s2,.slice cA c2 cD]) (g_ p.1)/\dO oE (.slice tD p.2.length tJ) p.2/\∃B,en (bP.length+1) 120 80 4 true cc oE (.slice ll n ln) B us/\fo n m B/\∀j k,j<n->k<m->bU B j k=nP bC s (g_ p.1,p.2) (i+1) j k) ?_ ?_
      ·rintro pt h2 SJ
       simp[lL]
       refine cY (af:=IR) (xs:=p.2) (n:=i) (a:=x) (e:=3) (U:=1) (aC:=false) (by simpa using xo) (by simp[lL]) J (by simp) (by simp) (by simp) (by decide) ?_
       rintro vu B7 rfl
       simp[lL]
       refine ca.join (by kernel_rfl) (fun y3 Cg oE=>oE=h6/\∃bad,y3 78= .bool bad/\(bad=true↔(x< -1\/(n:Int)<=x\/(0<=x/\x∈p.2.take i)))) ?_ ?_
       ·rintro y9 lM-
        by_cases o:x< -1
        ·simp[o]
         exact lM _ _ _ ⟨rfl,true,by simp,by simp[o]⟩
        ·by_cases aa:(n:Int)<=x
         ·simp[o,aa]
          exact lM _ _ _ ⟨rfl,true,by simp,by simp[aa]⟩
         ·by_cases aB:0<=x
          ·simp[o,aa,aB]
           refine qi (e:=3) (U:=1) (aC:=false) (af:=IR) (xs:=p.2) (l:=0) (h:=i) (by simpa using xo) (by simp) (by simp) (by decide) (by simp[dM]) (by simp[e2]) (by omega) (by omega) ?_
           intro akn Mo
           have RE:(p.2.drop 0).take (i-0)=p.2.take i:=by simp
           rw[RE]at Mo
           try simp
           refine aV.mk (QH (l:=p.2.take i) Mo (by simp;omega)) ?_
           rintro w kf ⟨rfl,rfl⟩
           try simp
           exact lM _ _ _ ⟨rfl,decide (x∈p.2.take i),by simp,by simp[o,aa,aB]⟩
          ·simp[o,aa,aB]
           exact lM _ _ _ ⟨rfl,false,by simp,by simp[o,aa,aB]⟩
       ·rintro y3 Cg oE ⟨rfl,bad,Da,n0⟩
        simp only[ik]at Da
        simp at Da
        have jB:bad=false->rU n p.2 i:=fun h=>by
         have h:¬(x< -1\/(n:Int)<=x\/(0<=x/\x∈p.2.take i)):=fun cu=>by rw[n0.2 cu]at h;cases h
         exact⟨x,J,by omega,by omega,fun aI hm=>h (.inr (.inr ⟨aI,hm⟩))⟩
        have UY:bad=true->¬rU n p.2 i:=fun h aW=>by
         have h:=n0.1 h
         obtain⟨y,aY,a3,bN,ck⟩:=aW
         rw[J]at aY
         have:=Option.some.inj aY
         subst this
         rcases h with h | h | ⟨h,hm⟩
         ·omega
         ·omega
         ·exact ck h hm
        simp[Da]
        refine bt.mk (fun ag=>?_) (fun ag=>?_)
        ·simp
         refine cN.mk u3.whole ?_
         simp
         refine SJ _ _ _ _ (by simp) ?_
         simp[bd]
         refine fail _ _ u3.whole (l3.aw gi) fun ey=>?_
         exact UY ag ((ya.1 (ey p jn).2).2 i (by omega))
        ·have Ll:∀k,k<i+1->rU n p.2 k:=fun k ak=>by
          by_cases hf:k<i
          ·exact uX k hf
          ·obtain rfl:k=i:=by omega
           exact jB ag
         refine Exists.elim (jB ag) fun y aK=>?_
         have MV:y=x:=by have:=aK.1;rw[J]at this;exact(Option.some.inj this).symm
         have x5:=aK.2.1
         have Ws:=aK.2.2.1
         rw[MV]at x5 Ws
         simp
         refine bt.b6 (fun Wl=>?_) (fun Wl=>?_)
         ·refine Exists.elim (⟨x.toNat,by omega⟩:∃j:Nat,x=(j:Int)) fun j aW=>?_
          have n8:j<n:=by omega
          have oY:i<m:=by omega
          refine Exists.elim (qU.get n8 oY) fun ow al=>?_
          refine Exists.elim (ko.vE al.1) fun Gm hu=>?_
          have Mc:=Rt (i:=i) (p:=p) VL jo j i
          rw[<-uR j i n8 oY]at Mc
          simp[aW]
          refine cY (af:=gZ) (xs:=us) (n:=j) (a:=Gm) (e:=120) (U:=1) (aC:=false) (by simpa using ko.own.row) (by simp[aW]) hu.1 (by simp) (by simp) (by simp) (by decide) ?_
          rintro Zi Gk rfl
          simp[aW,lL]
          refine cY (af:=gZ) (xs:=us) (n:=j) (a:=Gk) (e:=120) (U:=1) (aC:=false) (by simpa using ko.own.row) (by simp[aW]) hu.1 (by simp) (by simp) (by simp) (by decide) ?_
          rintro Zj ady rfl
          simp[lL]
          refine cY (af:=cc) (xs:=ow) (n:=i) (a:=bU B j i) (e:=80) (U:=4) (aC:=true) (by simpa using hu.2.row) (by simp) al.2.1 (by simp) (by simp) (by simp) (by decide) ?_
          intro Zk adz EA
          simp
          refine aV.mk (FD (N:=gC (s+1)) (M:=13288) EA xG Mc L0 (by unfold gC;omega)) ?_
          rintro w y7 ⟨iU,hw⟩
          refine⟨iU,?_⟩
          have DC:=ko.ext iU
          have Dq:=b3.ext (af:=bH (bP.length+1) 80 4 true cc) hu.2 iU
          refine kR (k:=bP.length+1) (e:=80) (U:=4) (aC:=true) (n:=i) (af:=cc) (xs:=ow) (a:=bU B j i+g_ p.1) (by simpa using Dq) (by simp) (by rw[al.2.2];exact oY) (by simpa using hw) (by simpa using hw.whole) (by simp) (fun aH dz u y ak h=>h.kept ak (by decide)) (by simp) (by simp) (by simp) (by decide) ?_
          rintro Zl Ch wV EL m7 UD-
          simp at wV m7
          have ak:∀u x,cc y7 u x->cc Ch u x:=fun u x h=>h.kept m7 (by decide)
          try simp
          refine h2 _ _ _ ⟨EL _ (by omega) (gi.aw iU),Ll,ak _ _ (u3.ext iU),ak _ _ (xG.ext iU),(b3.ext (af:=dO) xo iU).kept m7 (by decide),B.set j (ow.set i (bU B j i+g_ p.1)),DC.inner hu.1 (by decide) m7 wV ak,qU.set (by rw[List.length_set];exact al.2.2),?_⟩
          intro eb cb m6 jZ
          rw[JJ al.1 (by rw[al.2.2];exact oY),JD J,uR eb cb m6 jZ,uR j i n8 oY]
          by_cases ae:eb=j/\cb=i
          ·obtain⟨rfl,rfl⟩:=ae
           rw[if_pos ⟨rfl,rfl⟩,if_pos ⟨rfl,aW⟩]
          ·rw[if_neg ae,if_neg (by omega)]
           exact(Rat.add_zero _).symm
         ·refine h2 _ _ _ ⟨gi,Ll,u3,xG,xo,B,ko,qU,fun eb cb m6 jZ=>?_⟩
          rw[JD J,uR eb cb m6 jZ,if_neg (by omega)]
          exact(Rat.add_zero _).symm
      ·rintro y3 Cg oE ⟨ni,Uy,UQ,Vk,Uw,Ss⟩
       exact fA _ _ _ (by simp[lL]) ⟨ni,Uy,UQ,Vk,Uw,Ss⟩
     ·rintro rP qt h6 lL ⟨gi,uX,u3,xG,xo,B,ko,qU,uR⟩
      simp
      refine aV.mk (FD (N:=gC s) (M:=13288) u3 xG Ev.1 L0 (by unfold gC;omega)) ?_
      rintro w ke ⟨hR,hw⟩
      simp
      refine cN.mk hw.whole ?_
      try simp
      have VI:py n m p:=⟨⟨jo,hA,xE⟩,ya.2 ⟨xE,fun k ak=>uX k (by omega)⟩⟩
      refine aX _ _ _ (by simp[wP]) ⟨gi.aw hR,fun q av=>?_,?_,B,ko.ext hR,qU,fun j k aW ak=>?_⟩
      ·rw[List.take_add_one,a2,List.mem_append]at av
       rcases av with av | av
       ·exact xz q av
       ·simp at av
        rw[av];exact VI
      ·rw[Fu a2,NT]
       simpa using hw
      ·rw[uR j k aW ak,xE,Rs a2 ak]
  ·simp[vL]
   refine cN.mk (pT.ext (fj.aw (dF.aw (Ext.dead fJ)))).whole ?_
   simp[bd]
   exact fail _ _ (pT.ext (fj.aw (dF.aw (Ext.dead fJ)))).whole (Ko.aw (fj.aw (dF.aw (Ext.dead fJ)))) fun ey=>g5 (ey p jn).1.1
 ·rintro ly lz cU wP ⟨cw,xz,pT,B,DD,DS,Ae⟩
  simp at pT
  have eR:=DD.row
  rw[List.take_length]at xz Ae
  simp
  refine cP (af:=eK) (xs:=bC) (by simpa using b3.ext (af:=Row _ _ _ eK) jj (l3.aw cw)) (by simp) ?_
  simp
  refine cN.mk pT.whole ?_
  simp[bd]
  refine aD _ _ ⟨l3.aw cw,ll,n,ln,_,_,rfl,pT.whole,?_,fun _=>⟨B,eR,DS,Ae,pT⟩⟩
  constructor
  ·intro h
   simp at h
   exact⟨xz,by omega⟩
  ·intro h
   have:=h.2
   simp
   omega
theorem Jn{a b:Rat}:((if a<b then(-1:Int)else if a=b then 0 else 1)=0)↔a=b:=by
 by_cases o:a<b
 ·simp only[if_pos o]
  constructor
  ·intro h;omega
  ·intro h;rw[h]at o;exact absurd o Rat.lt_irrefl
 ·by_cases aa:a=b
  ·simp[aa]
  ·simp[o,aa]
theorem Z_{v w:Value}{t u:List (List Rat)}{n m N M:Nat}{H:ab}(bc:hN H v t)(ea:hN H w u)(aA:fo n m t)(n4:fo n m u)(aG:n<65536)(hm:m<65536)(dd:∀i k,i<n->k<m->dn N (bU t i k))(VJ:∀i k,i<n->k<m->dn M (bU u i k))(bQ:N+M+1<=32000000):
  aP prog 50 [.agg #[v],.agg #[w]] H (fun r H1=>Ext H H1/\∃b,r= .bool b/\(b=true↔∀i k,i<n->k<m->bU t i k=bU u i k)):=by
 refine aP.b9 fun Q aD=>?_
 have oe:=aA.len
 have kK:=n4.len
 apply X5 (by simp)
 obtain⟨a,c,rfl⟩:=Row.len bc
 obtain⟨cA,cD,rfl⟩:=Row.len ea
 simp[It]
 have br:Ext H (H++[.dead,.dead]):=Ext.more H (by simp)
 refine cP (af:=jb) (xs:=t) (by simpa using bc.ext br) (by simp) ?_
 simp
 refine dm.range (by kernel_rfl) t.length (by omega) (by simp) (by rfl) (by simp) (by decide) (by decide) (fun i bR c5 aR=>Ext H aR/\∀j k,j<i->k<m->bU t j k=bU u j k) ?_ ?_ ?_
 ·exact⟨br,fun j k aW=>by omega⟩
 ·rintro i bR c5 aR ad jg ⟨bf,iP⟩ K aX
  simp at jg
  have fT:i<n:=by omega
  refine Exists.elim (aA.at fT) fun row eR=>?_
  have kJ:=eR.2.2.1
  simp[jg]
  refine cY (af:=jb) (xs:=t) (n:=i) (a:=row) (e:=120) (U:=1) (aC:=false) (by simpa using bc.ext bf) (by simp[jg]) eR.1 (by simp) (by simp) (by simp) (by decide) ?_
  intro fC ph nd
  try simp
  refine cP (af:=cc) (xs:=row) (by simpa using nd) (by simp) ?_
  try simp
  refine dm.range (by kernel_rfl) row.length (by omega) (by simp) (by rfl) (by simp) (by decide) (by decide) (fun k c0 dS b0=>Ext aR b0/\∀cb,cb<k->bU t i cb=bU u i cb) ?_ ?_ ?_
  ·exact⟨Ext.refl _,fun cb ak=>by omega⟩
  ·rintro k c0 dS b0 ak jh ⟨cj,DV⟩ pt h2
   simp at jh
   have j0:k<m:=by omega
   refine Exists.elim (aA.get fT j0) fun ee q8=>?_
   refine Exists.elim (n4.get fT j0) fun fF na=>?_
   have VB:ee=row:=by have:=q8.1;rw[eR.1]at this;exact(Option.some.inj this).symm
   have L4:=q8.2.1
   rw[VB]at L4
   have fj:=Ext.dead b0
   simp[jh]
   refine cY (af:=cc) (xs:=row) (n:=k) (a:=bU t i k) (e:=80) (U:=4) (aC:=true) (by simpa using b3.ext (af:=jb) nd cj) (by simp[jh]) L4 (by simp) (by simp) (by simp) (by decide) ?_
   intro iD mL u_
   try simp
   refine cN.mk u_.whole ?_
   simp[jg]
   refine cY (af:=jb) (xs:=u) (n:=i) (a:=fF) (e:=120) (U:=1) (aC:=false) (by simpa using ea.ext (bf.aw (cj.aw fj))) (by simp) na.1 (by simp) (by simp) (by simp) (by decide) ?_
   intro ns vM va
   simp[jh]
   refine cY (af:=cc) (xs:=fF) (n:=k) (a:=bU u i k) (e:=80) (U:=4) (aC:=true) (by simpa using va) (by simp) na.2.1 (by simp) (by simp) (by simp) (by decide) ?_
   intro p8 adA VV
   try simp
   refine aV.mk (N4 (u_.ext fj) VV (dd i k fT j0) (VJ i k fT j0) bQ) ?_
   rintro Pz eW ⟨c1,rfl⟩
   simp
   refine bt.b6 (fun ae=>?_) (fun ae=>?_)
   ·have heq:=Jn.1 ae
    try simp
    refine h2 _ _ _ (by simp[jh]) ⟨cj.aw (fj.aw c1),fun cb jZ=>?_⟩
    by_cases o:cb<k
    ·exact DV cb o
    ·obtain rfl:cb=k:=by omega
     exact heq
   ·simp[bd]
    refine aD _ _ ⟨bf.aw (cj.aw (fj.aw c1)),false,rfl,⟨fun h=>(by cases h),fun h=>?_⟩⟩
    exact absurd (Jn.2 (h i k fT j0)) ae
  ·rintro c0 dS b0 jh ⟨cj,DV⟩
   try simp
   refine aX _ _ _ (by simp[jg]) ⟨bf.aw cj,fun j k aW ak=>?_⟩
   by_cases o:j<i
   ·exact iP j k o ak
   ·obtain rfl:j=i:=by omega
    exact DV k (by omega)
 ·rintro bR c5 aR jg ⟨bf,iP⟩
  simp[bd]
  exact aD _ _ ⟨bf,true,rfl,⟨fun _ i k ad ak=>iP i k (by omega) ak,fun _=>rfl⟩⟩
def tt(t:List (List Int))(bC:List (List Nat×List Int)):Prop:=((∀p∈bC,py t.length (t[0]?.getD []).length p)/\bC.length<=1000)/\∀j k,j<t.length->k<(t[0]?.getD []).length->fv (parts bC) j k=bU (cF t) j k
theorem RT{t:List (List Int)}(h:lF t)(i k:Nat):dn 64 (bU (cF t) i k):=by
 rw[pd]
 refine dn.int ?_ (by decide)
 cases al:t[i]? with
 | none=>simp
 | some r=>
  simp only[Option.getD_some]
  cases J:r[k]? with
  | none=>simp
  | some x=>
   have:=(h r (List.mem_of_getElem? al)).2 x (List.mem_of_getElem? J)
   simp only[Option.getD_some]
   omega
theorem Rp{v w:Value}{t:List (List Int)}{bC:List (List Nat×List Int)}{H:ab}(bc:kg H v t)(ar:t.length<65536)(al:∀r∈t,r.length<65536)(jj:Row 93 2 true eK H w bC)(bE:∀p∈bC,Bytes p.1)(hlen:∀p∈bC,p.1.length<4611686018427387904/\p.2.length<65536)(mB:bC.length<=2000):
  aP prog 20 [v,w] H (fun u H1=>Ext H H1/\(eT t->tt t bC->u=if lD (dV (parts bC))then .tuple #[.string (cg (gr (dV (parts bC)))),.int .i64 0]else .tuple #[.string (cg []),.int .i64 5])/\(eT t->¬tt t bC->u= .tuple #[.string (cg []),.int .i64 2])/\(¬eT t->u= .tuple #[.string (cg []),.int .i64 1])):=by
 refine aP.b9 fun Q aD=>?_
 obtain⟨m,hm⟩:∃m,m=(t[0]?.getD []).length:=⟨_,rfl⟩
 apply XV (by simp)
 simp[Ik]
 have Fc:({data:= #[]}:ByteArray)=cg []:=rfl
 refine aV.mk (Gu bc (by omega) fun r h=>by have:=al r h;omega) ?_
 rintro u H1 ⟨bw,rfl⟩
 simp
 refine bt.mk (fun an=>?good) (fun an=>?bad)
 case bad=>
  simp at an
  simp[bd]
  exact aD _ _ ⟨bw,fun h=>absurd h an,fun h=>absurd h an,fun _=>by rw[Fc]⟩
 simp at an
 have ao:=an.small
 have eO:=an.len
 have v1:=an.1
 have v2:=an.2.1
 have tl:=an.2.2.1
 have v4:=an.2.2.2.1
 rw[<-hm]at eO tl v4
 have K1:=vx rfl eO
 refine Exists.elim (K1.at (i:=0) (by omega)) fun fE gR=>?_
 simp
 refine aV.mk (FI (bc.ext bw).row (by omega) al fun r h x J=>by have:=(ao r h).2 x J;omega) ?_
 rintro _ aR ⟨bf,IT,Jr,rfl,qP⟩
 simp
 have bG:=Ext.dead aR
 refine aV.mk (A_ (n:=t.length) (qP.ext bG) (by simp[cF])) ?_
 rintro _ b0 ⟨cj,rfl⟩
 refine⟨cj,?_⟩
 simp
 refine aV.mk (yi (qP.ext (bG.aw cj)) gR.1 gR.2.2.1) ?_
 rintro _ b8 ⟨cR,rfl⟩
 refine⟨cR,?_⟩
 simp
 have o4:=bG.aw (cj.aw cR)
 have g6:=bw.aw (bf.aw o4)
 refine aV.mk (Rv (n:=t.length) (m:=m) (b3.ext (af:=Row _ _ _ eK) jj g6) bE hlen mB (by omega) (by omega) (by omega) (by omega)) ?_
 rintro _ dN ⟨cI,F3,F9,F7,js,b,rfl,Lt,ag,uJ⟩
 refine⟨cI,?_⟩
 have j4:=g6.aw cI
 cases b with
 | false=>
  have g5:¬tt t bC:=fun h=>by
   have:=ag.2 (by rw[hm];exact h.1)
   cases this
  simp
  refine cN.mk Lt ?_
  simp[vL,bd]
  exact aD _ _ ⟨j4.aw (Ext.more dN (by simp)),fun _ h=>absurd h g5,fun _ _=>by rw[Fc],fun h=>absurd an h⟩
 | true=>
  have iA:=ag.1 rfl
  refine Exists.elim (uJ rfl) fun B zO=>?_
  have TQ:=zO.1
  have mr:=zO.2.1
  have gy:=zO.2.2.1
  have gP:=zO.2.2.2
  have Ma:=yI (bC:=bC) fun q av=>(iA.1 q av).1.1
  have cw:Ext dN (dN++[.dead,.dead]):=Ext.more dN (by simp)
  simp
  refine cN.mk Lt ?_
  simp
  refine ca.join (by kernel_rfl) (fun qq rR eW=>Ext (dN++[.dead,.dead]) eW/\∃e0,qq 32= .bool e0/\(e0=false↔tt t bC)) ?_ ?_
  ·rintro K aX-
   simp
   refine aV.mk (Z_ (N:=64) (M:=gC bC.length) (qP.ext (o4.aw (cI.aw cw))) (TQ.ext cw) K1 mr (by omega) (by omega) (fun i k _ _=>RT ao i k) (fun i k ad ak=>by rw[gy i k ad ak];exact Ma.2 i k) (by unfold gC;omega)) ?_
   rintro _ eW ⟨c1,kj,rfl,lR⟩
   simp
   refine aX _ _ _ ⟨c1,!kj,by simp,?_⟩
   have:(!kj)=false↔kj=true:=by cases kj<;>simp
   rw[this,lR]
   unfold tt
   rw[<-hm]
   constructor
   ·intro h
    exact⟨iA,fun j k aW ak=>by rw[<-gy j k aW ak,h j k aW ak]⟩
   ·intro h i k ad ak
    rw[gy i k ad ak,h.2 i k ad ak]
  ·rintro qq rR eW ⟨c1,e0,Ka,pL⟩
   simp at Ka
   simp[Ka]
   refine bt.mk (fun ag=>?_) (fun ag=>?_)
   ·simp[bd]
    exact aD _ _ ⟨j4.aw (cw.aw c1),fun _ h=>(by rw[pL.2 h]at ag;cases ag),fun _ _=>by rw[Fc],fun h=>absurd an h⟩
   ·have eH:=pL.1 ag
    simp
    refine aV.mk (Oh (N:=gC bC.length) (gP.ext (cw.aw c1)) Ma.1 (by unfold gC;omega)) ?_
    rintro _ fJ ⟨dF,hu⟩
    have iU:=j4.aw (cw.aw (c1.aw dF))
    by_cases ak:lD (dV (parts bC))
    ·rw[if_pos ak]at hu
     subst hu
     simp[bd]
     exact aD _ _ ⟨iU,fun _ _=>by rw[if_pos ak],fun _ h=>absurd eH h,fun h=>absurd an h⟩
    ·rw[if_neg ak]at hu
     subst hu
     simp[bd]
     exact aD _ _ ⟨iU,fun _ _=>by rw[if_neg ak],fun _ h=>absurd eH h,fun h=>absurd an h⟩
end Go.cW
end
section
namespace Go.cW
def bq:List Nat->Nat
 | []=>0
 | d::aQ=>d+10000*bq aQ
def eD(aQ:List Nat):Prop:=∀d∈aQ,d<10000
theorem eD.nil:eD []:=fun d h=>by cases h
theorem eD.snoc{aQ:List Nat}{d:Nat}(h:eD aQ)(aA:d<10000):eD (aQ++[d]):=fun x J=>by
 rcases List.mem_append.1 J with J | J
 ·exact h x J
 ·rw[List.mem_singleton.1 J];exact aA
theorem eD.take{aQ:List Nat}(h:eD aQ)(n:Nat):eD (aQ.take n):=fun x J=>h x (List.mem_of_mem_take J)
theorem eD.get{aQ:List Nat}(h:eD aQ)(i:Nat):aQ[i]?.getD 0<10000:=by
 cases ad:aQ[i]? with
 | none=>decide
 | some d=>exact h d (List.mem_of_getElem? ad)
theorem Ps(a b:List Nat):bq (a++b)=bq a+10000^a.length*bq b:=by
 induction a with
 | nil=>simp[bq]
 | cons x a a0=>
  simp only[List.cons_append,bq,a0,List.length_cons,Nat.pow_succ]
  rw[Nat.mul_add,Nat.mul_comm (10000^a.length) 10000,Nat.mul_assoc]
  omega
theorem vP(a:List Nat)(d:Nat):bq (a++[d])=bq a+10000^a.length*d:=by
 rw[Ps];simp[bq]
theorem rL{aQ:List Nat}(h:eD aQ):bq aQ<10000^aQ.length:=by
 induction aQ with
 | nil=>simp[bq]
 | cons d aQ a0=>
  have o:=a0 fun x J=>h x (by simp[J])
  have aa:=h d (by simp)
  simp only[bq,List.length_cons,Nat.pow_succ]
  omega
theorem Gt(n:Nat):bq (List.replicate n 0)=0:=by
 induction n with
 | zero=>rfl
 | succ n a0=>rw[List.replicate_succ];simp[bq,a0]
def fU(aQ:List Nat):Prop:=aQ.getLast?≠some 0
theorem fU.nil:fU []:=by simp[fU]
theorem fU.snoc{aQ:List Nat}{d:Nat}(h:d≠0):fU (aQ++[d]):=by simp[fU,h]
theorem fU.le{aQ:List Nat}(h:fU aQ)(aG:aQ≠[]):10000^(aQ.length-1)<=bq aQ:=by
 obtain⟨a,d,rfl⟩:∃a d,aQ=a++[d]:=⟨aQ.dropLast,aQ.getLast aG,(List.dropLast_concat_getLast aG).symm⟩
 have aA:d≠0:=fun e=>h (by simp[e])
 rw[vP]
 simp only[List.length_append,List.length_singleton,Nat.add_sub_cancel]
 have:10000^a.length*1<=10000^a.length*d:=Nat.mul_le_mul_left _ (by omega)
 omega
theorem fU.zero{aQ:List Nat}(h:fU aQ):bq aQ=0↔aQ=[]:=by
 constructor
 ·intro aN
  by_cases aG:aQ=[]
  ·exact aG
  ·have:=h.le aG
   have:=Nat.pow_pos (n:=aQ.length-1) (show 0<10000 by decide)
   omega
 ·rintro rfl;rfl
theorem fU.yh{a b:List Nat}(ag:fU b)(aO:eD a)(h:a.length<b.length):bq a<bq b:=by
 have o:=ag.le (by intro e;rw[e]at h;simp at h)
 have aa:=rL aO
 have aB:10000^a.length<=10000^(b.length-1):=Nat.pow_le_pow_right (by decide) (by omega)
 omega
theorem fU.len{aQ:List Nat}(h:fU aQ){n:Nat}(an:bq aQ<10000^n):aQ.length<=n:=by
 by_cases aG:aQ=[]
 ·simp[aG]
 ·have o:=h.le aG
  by_cases a5:aQ.length<=n
  ·exact a5
  ·have:10000^n<=10000^(aQ.length-1):=Nat.pow_le_pow_right (by decide) (by omega)
   omega
theorem adJ{aQ:List Nat}{i:Nat}(ad:i<aQ.length):bq (aQ.take (i+1))=bq (aQ.take i)+10000^i*(aQ[i]?.getD 0):=by
 rw[List.take_succ_eq_append_getElem ad,vP,List.length_take,Nat.min_eq_left (by omega),bB ad]
 rfl
theorem vO{aQ:List Nat}{i:Nat}(ad:i<aQ.length):bq (aQ.drop i)=aQ[i]?.getD 0+10000*bq (aQ.drop (i+1)):=by
 rw[List.drop_eq_getElem_cons ad,bB ad]
 rfl
theorem yU(aQ:List Nat)(i:Nat)(ad:i<=aQ.length):bq aQ=bq (aQ.take i)+10000^i*bq (aQ.drop i):=by
 have:=Ps (aQ.take i) (aQ.drop i)
 rw[List.take_append_drop,List.length_take,Nat.min_eq_left ad]at this
 exact this
theorem Pt{a b:List Nat}(aO:eD a)(ag:eD b)(ar:a.length=b.length){i:Nat}(ad:i<a.length)(he:a.drop (i+1)=b.drop (i+1))(a5:a[i]?.getD 0<b[i]?.getD 0):bq a<bq b:=by
 rw[yU a i (by omega),yU b i (by omega),vO ad,vO (by omega:i<b.length),he]
 have o:=rL (aO.take i)
 have aa:(a.take i).length=i:=by simp;omega
 rw[aa]at o
 have aB:10000^i*(a[i]?.getD 0+1+10000*bq (b.drop (i+1)))<=10000^i*(b[i]?.getD 0+10000*bq (b.drop (i+1))):=Nat.mul_le_mul_left _ (by omega)
 have bs:10000^i*(a[i]?.getD 0+1+10000*bq (b.drop (i+1)))=10000^i*(a[i]?.getD 0+10000*bq (b.drop (i+1)))+10000^i:=by
  rw[show a[i]?.getD 0+1+10000*bq (b.drop (i+1))=(a[i]?.getD 0+10000*bq (b.drop (i+1)))+1 by omega,Nat.mul_add];omega
 omega
theorem adH{aQ:List Nat}{n:Nat}(h:∀i,n<=i->i<aQ.length->aQ[i]?.getD 0=0):bq (aQ.take n)=bq aQ:=by
 by_cases aG:n<=aQ.length
 ·rw[yU aQ n aG]
  have:aQ.drop n=List.replicate (aQ.length-n) 0:=by
   apply List.ext_getElem?
   intro i
   rw[List.getElem?_drop,List.getElem?_replicate]
   by_cases ad:n+i<aQ.length
   ·have:=h (n+i) (by omega) ad
    rw[bB ad]at this⊢
    rw[if_pos (by omega)]
    simpa using this
   ·rw[List.getElem?_eq_none (by omega),if_neg (by omega)]
  rw[this,Gt];simp
 ·rw[List.take_of_length_le (by omega)]
end Go.cW
end
section
set_option maxRecDepth 8000
set_option maxHeartbeats 1000000
namespace Go.cW
open Go.Proofs
open Go.Proofs.Tryz (prog)
attribute [-simp] hF iq ka
def dh(H:ab)(v:Value)(d:Nat):Prop:=v= .int .i64 (d:Int)
instance:b3 dh:=⟨fun h _=>h⟩
abbrev jN(H:ab)(v:Value)(aQ:List Nat):Prop:=Row 3 1 false dh H v aQ
theorem jN.ext{H H1:ab}{v:Value}{aQ:List Nat}(h:jN H v aQ)(J:Ext H H1):jN H1 v aQ:=b3.ext (af:=Row _ _ _ dh) h J
def fh(s:Bool)(n:Nat):Int:=if s=true then-(n:Int)else n
def eh(H:ab)(v:Value)(z:Int):Prop:=∃s a c aQ,v= .agg #[.bool s,.slice a aQ.length c]/\jN H (.slice a aQ.length c) aQ/\eD aQ/\fU aQ/\z=fh s (bq aQ)/\(aQ=[]->s=false)
theorem eh.ext{H H1:ab}{v:Value}{z:Int}(h:eh H v z)(J:Ext H H1):eh H1 v z:=by
 obtain⟨s,a,c,aQ,o,aa,aB⟩:=h
 exact⟨s,a,c,aQ,o,aa.ext J,aB⟩
theorem eh.whole{H:ab}{v:Value}{z:Int}(h:eh H v z):Whole prog 40 v:=by
 obtain⟨s,a,c,aQ,rfl,-⟩:=h
 exact⟨by rfl,by simp[Value.cells,Value.oneCell'],by simp[e3]⟩
theorem BI(s:Bool)(n:Nat):(fh s n).natAbs=n:=by
 unfold fh;split<;>simp
theorem eh.len{s:Bool}{aQ:List Nat}{z:Int}{n:Nat}(bc:fU aQ)(aN:z=fh s (bq aQ))(h:z.natAbs<10000^n):aQ.length<=n:=by
 rw[aN,BI]at h
 exact bc.len h
section
variable {P:Program} {r:List bF} {F:Fr} {H:ab} {Q:Fr->ab->Prop} {α:Type}
theorem OR{d bY cJ e U bI k:Nat}{aC:Bool}{s x:Operand}{z:Value}{af:ab->Value->α->Prop}{xs bS:List α}{ax:ba (ap d bY cJ s x::r) Q}(cy:bH k e U aC af H (aq F s) xs)(k9:Row e U aC af H (aq F x) bS)(kI:∀u y,af H u y->Whole P e u)(ht:∀aH dz u y,Kept H aH dz e->af H u y->af aH u y)
  (hu:P.underlying bY=some (.slice e))(J:fH P cJ=true)(ao:bp P e=some U)(et:dq P e=some aC)(o:aC=true\/U=1)(ag:bytes? P e=some bI)(aN:dA P e=some z)(di:z.cells.size=U)(dY:0<bI)(bz:(xs.length+bS.length)*bI<=140737488355328)(ak:k<=H.length)
  (K:∀ep eG aH,bH k e U aC af aH (.slice ep (xs.length+bS.length) eG) (xs++bS)->(∀cx:ab,cx.length<=k->Ext cx H->Ext cx aH)->Kept H aH (aq F s) e->a_ P r Q .mk (a1 F d (.slice ep (xs.length+bS.length) eG)) aH):a_ P (ap d bY cJ s x::r) Q ax F H:=
 Gd cy k9 kI ht hu J ao et o ag aN di dY bz ak fun au aH mo aY a3=>by
  have ar:=mo.len
  rw[List.length_append]at ar
  obtain⟨ep,eG,rfl⟩:=ar
  exact K ep eG aH mo aY a3
end
theorem Sg{aQ:List Nat}{m:Nat}(hm:0<m)(eO:m<=aQ.length):(aQ.take m).getLast?=some (aQ[m-1]?.getD 0):=by
 rw[List.getLast?_eq_getElem?,List.length_take,Nat.min_eq_left eO,List.getElem?_take_of_lt (by omega),bB (by omega)]
 rfl
def Cu(k:Nat)(H:ab)(v:Value)(z:Int):Prop:=∃s a c aQ,v= .agg #[.bool s,.slice a aQ.length c]/\bH k 3 1 false dh H (.slice a aQ.length c) aQ/\eD aQ/\fU aQ/\z=fh s (bq aQ)/\(aQ=[]->s=false)
theorem Cu.ae9{k:Nat}{H:ab}{v:Value}{z:Int}(h:Cu k H v z):eh H v z:=by
 obtain⟨s,a,c,aQ,o,aa,aB⟩:=h
 exact⟨s,a,c,aQ,o,aa.row,aB⟩
theorem M_{s:Bool}{a:Option Addr}{c:Nat}{aQ:List Nat}{H:ab}(bo:jN H (.slice a aQ.length c) aQ)(eH:eD aQ)(ar:aQ.length<1000000000000):
  aP prog 72 [.agg #[.bool s,.slice a aQ.length c]] H (fun u H1=>Ext H H1/\Cu H.length H1 u (fh s (bq aQ))):=by
 refine aP.b9 fun Q aD=>?_
 apply W3 (by simp)
 simp[HL]
 have br:Ext H (H++[.dead,.dead]):=Ext.more H (by simp)
 have nW:=bo.ext br
 refine cP (af:=dh) (xs:=aQ) (by simpa using nW) (by simp) ?_
 simp
 refine dm.mk (by kernel_rfl) (fun m ay bD H1=>H1=H++[.dead,.dead]/\ay 3= .int .i64 (m:Int)/\m<=aQ.length/\∀i,m<=i->i<aQ.length->aQ[i]?.getD 0=0) aQ.length ⟨rfl,by simp,Nat.le_refl _,fun i o aa=>by omega⟩ ?_
 rintro m ay bD H1 ⟨rfl,aB,hm,aN⟩ K aX
 simp at aB
 simp only[l8]
 refine ca.join (by kernel_rfl) (fun bR c5 aR=>aR=H++[.dead,.dead]/\bR 17= .bool (decide (0<m/\aQ[m-1]?.getD 0=0))) ?_ ?_
 ·rintro cV dw-
  by_cases aI:0<m
  ·have hw:IntKind.i64.wrap ((m:Int)-1)=((m-1:Nat):Int):=by rw[b7 (by omega) (by omega)];omega
   refine Exists.elim (⟨_,bB (show m-1<aQ.length by omega)⟩:∃d,aQ[m-1]?=some d) fun d aA=>?_
   simp[aB,aI,hw]
   refine tf (af:=dh) (xs:=aQ) (n:=m-1) (a:=d) (e:=3) (U:=1) (aC:=false) (by simp) (by decide) (by simpa using nW) (by simp) aA (by simp) (by simp) (by simp) (by decide) ?_
   rintro da pg rfl
   simp
   exact dw _ _ _ ⟨rfl,by simp[aI,aA]⟩
  ·simp[aB,aI]
   exact dw _ _ _ ⟨rfl,by simp[aI]⟩
 ·rintro bR c5 aR ⟨rfl,C6⟩
  simp only[ik]at C6
  simp at C6
  simp[C6]
  refine bt.mk (fun ag=>?_) (fun ag=>?_)
  ·simp at ag
   have hw:IntKind.i64.wrap ((m:Int)-1)=((m-1:Nat):Int):=by rw[b7 (by omega) (by omega)];omega
   simp[aB,hw]
   refine aX (m-1) _ _ _ (by omega) ⟨rfl,by simp,by omega,fun i o aa=>?_⟩
   by_cases oY:i=m-1
   ·rw[oY];exact ag.2
   ·exact aN i (by omega) aa
  ·simp at ag
   have bc:fU (aQ.take m):=by
    by_cases aI:0<m
    ·unfold fU
     rw[Sg aI hm]
     intro h
     exact ag aI (Option.some.inj h)
    ·obtain rfl:m=0:=by omega
     exact fU.nil
   have an:=adH aN
   have eO:(aQ.take m).length=m:=by simp;omega
   refine qg (e:=3) (U:=1) (by simp) (by simp) ?_
   simp[aB]
   refine qi (e:=3) (U:=1) (aC:=false) (af:=dh) (xs:=aQ) (l:=0) (h:=m) (by simpa using nW) (by simp) (by simp) (by decide) (by simp[dM,aB]) (by simp[e2,aB]) (by omega) (by omega) ?_
   intro tl iB
   have fP:(aQ.drop 0).take (m-0)=aQ.take m:=by simp
   rw[fP]at iB
   refine OR (k:=(H++[bK.dead,bK.dead]).length) (e:=3) (U:=1) (aC:=false) (bI:=8) (z:= .int .i64 0) (af:=dh) (xs:=[]) (bS:=aQ.take m) (by simpa using bH.void _ _ _ _ _ _ _) (by simpa using iB) (fun u y h=>by rw[show u=_ from h];exact kd y) (fun aH dz u y ak h=>h) (by simp) (by simp) (by simp) (by simp) (by decide) (by rfl) (by rfl) (by rfl) (by decide) (by simp;omega) (Nat.le_refl _) ?_
   intro ep eG b0 kH cj ahF
   have x1:=cj _ (Nat.le_refl _) (Ext.refl _)
   have si:bH H.length 3 1 false dh b0 (.slice ep m eG) (aQ.take m):=by
    have:=kH.le (cb:=H.length) (by simp)
    simp only[List.nil_append,List.length_nil,Nat.zero_add,eO]at this
    exact this
   simp only[List.length_nil,Nat.zero_add,eO]
   simp[vL]
   cases s with
   | false=>
    simp[bd]
    refine aD _ _ ⟨br.aw x1,false,ep,eG,aQ.take m,by rw[eO],by rw[eO];exact si,eH.take m,bc,by rw[an],fun _=>rfl⟩
   | true=>
    simp[aB,bd]
    refine aD _ _ ⟨br.aw x1,decide (0<m),ep,eG,aQ.take m,by rw[eO],by rw[eO];exact si,eH.take m,bc,?_,fun h=>?_⟩
    ·rw[an]
     by_cases aI:0<m
     ·simp[aI]
     ·obtain rfl:m=0:=by omega
      simp[bq]at an
      simp[fh,<-an]
    ·rw[h]at eO
     simp at eO
     simp[<-eO]
theorem p4{s:Bool}{a:Option Addr}{c:Nat}{aQ:List Nat}{H:ab}(bo:jN H (.slice a aQ.length c) aQ)(eH:eD aQ)(ar:aQ.length<1000000000000):
  aP prog 72 [.agg #[.bool s,.slice a aQ.length c]] H (fun u H1=>Ext H H1/\eh H1 u (fh s (bq aQ))):=(M_ bo eH ar).mono fun u H1 h=>⟨h.1,h.2.ae9⟩
theorem aaq(v:Int):v=fh (decide (v<0)) v.natAbs:=by
 unfold fh
 by_cases h:v<0
 ·simp[h];omega
 ·simp[h];omega
theorem OO{c:Int}:(if c.tmod 10000<0 then-(c.tmod 10000)else c.tmod 10000)=((c.natAbs % 10000:Nat):Int):=by
 have h:(c.tmod 10000).natAbs=c.natAbs % 10000:=Int.natAbs_tmod c 10000
 by_cases o:c.tmod 10000<0
 ·rw[if_pos o];omega
 ·rw[if_neg o];omega
theorem r2{v:Int}{H:ab}(o: -9223372036854775808<=v)(aa:v<9223372036854775808):aP prog 46 [.int .i64 v] H (fun u H1=>Ext H H1/\eh H1 u v):=by
 refine aP.b9 fun Q aD=>?_
 apply WS (by simp)
 simp[HA]
 have br:Ext H (H++[.dead,.dead]):=Ext.more H (by simp)
 obtain⟨hZ,zT⟩:∃hZ,hZ=H++[bK.dead,bK.dead]:=⟨_,rfl⟩
 rw[<-zT]at br⊢
 refine dm.mk (by kernel_rfl) (fun w ay bD H1=>∃cur aQ a c,w=cur.natAbs/\ay 0= .int .i64 cur/\bD 3= .agg #[.bool (decide (v<0)),.slice a aQ.length c]/\bH hZ.length 3 1 false dh H1 (.slice a aQ.length c) aQ/\eD aQ/\(cur=0->fU aQ)/\v.natAbs=bq aQ+10000^aQ.length*cur.natAbs/\Ext hZ H1) v.natAbs ⟨v,[],none,0,rfl,by simp,by simp,bH.nil _ _ _ _ _ _,eD.nil,fun _=>fU.nil,by simp[bq],Ext.refl _⟩ ?_
 rintro w ay bD H1 ⟨cur,aQ,a,c,rfl,pM,nU,cy,eH,bc,an,J⟩ K aX
 simp at pM nU
 simp[pM]
 refine bt.b6 (fun aN=>?_) (fun aN=>?_)
 ·simp[nU]
  simp[bd]
  refine aD _ _ ⟨br.aw J,_,a,c,aQ,rfl,cy.row,eH,bc aN,?_,fun h=>?_⟩
  ·rw[aN]at an
   simp at an
   rw[<-an];exact aaq v
  ·rw[aN,h]at an
   simp[bq]at an
   simp[an]
 ·have hA:0<cur.natAbs:=by omega
  have hle:10000^aQ.length<=v.natAbs:=by
   rw[an]
   have:10000^aQ.length*1<=10000^aQ.length*cur.natAbs:=Nat.mul_le_mul_left _ hA
   omega
  have hlen:aQ.length<5:=by
   have bJ:v.natAbs<10000^5:=by
    have:(10000:Nat)^5=100000000000000000000:=by decide
    omega
   exact(Nat.pow_lt_pow_iff_right (by decide)).1 (Nat.lt_of_le_of_lt hle bJ)
  have jC:cur.natAbs<=v.natAbs:=by
   rw[an]
   have:1*cur.natAbs<=10000^aQ.length*cur.natAbs:=Nat.mul_le_mul_right _ (Nat.pow_pos (by decide))
   omega
  have DT:(cur.tdiv 10000).natAbs=cur.natAbs/10000:=Int.natAbs_tdiv cur 10000
  have ahS:(cur.tmod 10000).natAbs=cur.natAbs % 10000:=Int.natAbs_tmod cur 10000
  have Wf:IntKind.i64.wrap (-(cur.tmod 10000))= -(cur.tmod 10000):=b7 (by omega) (by omega)
  have We:IntKind.i64.wrap (cur.tdiv 10000)=cur.tdiv 10000:=b7 (by omega) (by omega)
  simp[pM]
  refine ca.join (by kernel_rfl) (fun bR c5 aR=>aR=H1/\bR 4= .int .i64 ((cur.natAbs % 10000:Nat):Int)) ?_ ?_
  ·rintro cV dw-
   simp
   refine bt.b6 (fun pW=>?_) (fun pW=>?_)
   ·simp[Wf]
    refine dw _ _ _ ⟨rfl,?_⟩
    rw[<-OO,if_pos pW];simp
   ·try simp
    refine dw _ _ _ ⟨rfl,?_⟩
    rw[<-OO,if_neg pW];simp
  ·rintro bR c5 aR ⟨rfl,bs⟩
   simp only[ik]at bs
   simp at bs
   have ahd:=Ext.len J
   simp[nU,bs]
   refine yO (k:=hZ.length) (e:=3) (U:=1) (aC:=false) (bI:=8) (z:= .int .i64 0) (af:=dh) (xs:=aQ) (a:=cur.natAbs % 10000) (by simpa using cy) (by simp[dh,bs]) (by simp[bs];exact kd _) (by simp) (fun _ _ _ _ _ h=>h) (by simp) (by simp) (by simp) (by simp) (by simp) (by rfl) (by rfl) (by rfl) (by rfl) (by decide) (by decide) (by decide) (by omega) (by omega) ?_
   intro iD P_ Qx b8 sh cR D6
   simp[nU,pM,We]
   refine aX (cur.natAbs/10000) _ _ _ (Nat.div_lt_self hA (by decide)) ⟨cur.tdiv 10000,aQ++[cur.natAbs % 10000],P_,Qx,by rw[DT],by simp,by simp,by simpa using sh,eH.snoc (Nat.mod_lt _ (by decide)),fun aI=>?_,?_,cR _ (Nat.le_refl _) J⟩
   ·refine fU.snoc fun m8=>?_
    have:cur.natAbs/10000=0:=by rw[<-DT,aI];rfl
    omega
   ·rw[vP,List.length_append,List.length_singleton,Nat.pow_succ,DT,an,Nat.mul_assoc,Nat.add_assoc,<-Nat.mul_add]
    congr 2
    have:=Nat.div_add_mod cur.natAbs 10000
    omega
theorem Ox{v w:Value}{x y:List Nat}{H:ab}(bx:jN H v x)(bE:jN H w y)(J:eD x)(aK:eD y)(cJ:fU x)(ty:fU y)(Ea:x.length<1000000000000)(u4:y.length<1000000000000):
  aP prog 83 [v,w] H (fun u H1=>H1=H/\u= .int .i64 (if bq x<bq y then-1 else if bq x=bq y then 0 else 1)):=by
 refine aP.b9 fun Q aD=>?_
 apply W6 (by simp)
 obtain⟨a,c,rfl⟩:=Row.len bx
 obtain⟨cA,cD,rfl⟩:=Row.len bE
 simp[HO]
 refine cP (af:=dh) (xs:=x) (by simpa using bx) (by simp) ?_
 try simp
 refine cP (af:=dh) (xs:=y) (by simpa using bE) (by simp) ?_
 simp
 refine bt.b6 (fun ar=>?_) (fun ar=>?_)
 ·have dG:x.length=y.length:=by omega
  have mC:IntKind.i64.wrap ((x.length:Int)-1)=(x.length:Int)-1:=b7 (by omega) (by omega)
  try simp
  refine cP (af:=dh) (xs:=x) (by simpa using bx) (by simp) ?_
  simp[mC]
  refine dm.mk (by kernel_rfl) (fun m ay bD H1=>H1=H/\ay 5= .int .i64 ((m:Int)-1)/\m<=x.length/\x.drop m=y.drop m) x.length ⟨rfl,by simp,Nat.le_refl _,by rw[List.drop_length,List.drop_of_length_le (by omega)]⟩ ?_
  rintro m ay bD H1 ⟨rfl,bJ,hm,he⟩ K aX
  simp at bJ
  simp[bJ]
  refine bt.b6 (fun hy=>?_) (fun hy=>?_)
  ·refine Exists.elim (⟨m-1,by omega⟩:∃i:Nat,m=i+1) fun i ad=>?_
   refine Exists.elim (⟨_,bB (show i<x.length by omega)⟩:∃d,x[i]?=some d) fun d aA=>?_
   refine Exists.elim (⟨_,bB (show i<y.length by omega)⟩:∃d,y[i]?=some d) fun e pN=>?_
   have h4:(m:Int)-1=(i:Int):=by omega
   have iC:IntKind.i64.wrap ((i:Int)-1)=(i:Int)-1:=b7 (by omega) (by omega)
   have fj:x[i]?.getD 0=d:=by rw[aA];rfl
   have x6:y[i]?.getD 0=e:=by rw[pN];rfl
   rw[ad]at he
   simp[bJ,h4]
   refine cY (af:=dh) (xs:=x) (n:=i) (a:=d) (e:=3) (U:=1) (aC:=false) (by simpa using bx) (by simp[bJ,h4]) aA (by simp) (by simp) (by simp) (by decide) ?_
   rintro gB lv rfl
   simp[bJ,h4]
   refine cY (af:=dh) (xs:=y) (n:=i) (a:=e) (e:=3) (U:=1) (aC:=false) (by simpa using bE) (by simp[bJ,h4]) pN (by simp) (by simp) (by simp) (by decide) ?_
   rintro fC ph rfl
   simp
   refine bt.b6 (fun a5=>?_) (fun a5=>?_)
   ·have:=Pt J aK dG (i:=i) (by omega) he (by omega)
    simp[bd]
    exact aD _ _ ⟨rfl,by rw[if_pos this]⟩
   ·simp[bJ,h4]
    refine cY (af:=dh) (xs:=x) (n:=i) (a:=d) (e:=3) (U:=1) (aC:=false) (by simpa using bx) (by simp[bJ,h4]) aA (by simp) (by simp) (by simp) (by decide) ?_
    rintro g8 yS rfl
    simp[bJ,h4]
    refine cY (af:=dh) (xs:=y) (n:=i) (a:=e) (e:=3) (U:=1) (aC:=false) (by simpa using bE) (by simp[bJ,h4]) pN (by simp) (by simp) (by simp) (by decide) ?_
    rintro iD mL rfl
    simp
    refine bt.b6 (fun oX=>?_) (fun oX=>?_)
    ·have:=Pt aK J dG.symm (i:=i) (by omega) he.symm (by omega)
     simp[bd]
     exact aD _ _ ⟨rfl,by rw[if_neg (by omega),if_neg (by omega)]⟩
    ·have T9:d=e:=by omega
     simp[bJ,h4,iC]
     refine aX i _ _ _ (by omega) ⟨rfl,by simp,by omega,?_⟩
     rw[List.drop_eq_getElem_cons (show i<x.length by omega),List.drop_eq_getElem_cons (show i<y.length by omega),he]
     congr 1
     rw[bB (by omega)]at fj x6
     simp at fj x6
     rw[fj,x6,T9]
  ·obtain rfl:m=0:=by omega
   have A7:x=y:=by simpa using he
   simp[bd]
   exact aD _ _ ⟨rfl,by rw[A7];simp⟩
 ·try simp
  refine cP (af:=dh) (xs:=x) (by simpa using bx) (by simp) ?_
  try simp
  refine cP (af:=dh) (xs:=y) (by simpa using bE) (by simp) ?_
  simp
  refine bt.b6 (fun a5=>?_) (fun a5=>?_)
  ·have:=ty.yh J (by omega)
   simp[bd]
   exact aD _ _ ⟨rfl,by rw[if_pos this]⟩
  ·have:=cJ.yh aK (by omega)
   simp[bd]
   exact aD _ _ ⟨rfl,by rw[if_neg (by omega),if_neg (by omega)]⟩
theorem I4{v:Value}{z:Int}{H:ab}(so:eh H v z):aP prog 81 [v] H (fun u H1=>Ext H H1/\eh H1 u (-z)):=by
 refine aP.b9 fun Q aD=>?_
 obtain⟨s,a,c,aQ,rfl,bo,eH,bc,rfl,ao⟩:=so
 apply WV (by simp)
 simp[HD]
 have br:Ext H (H++[.dead,.dead]):=Ext.more H (by simp)
 have nW:=bo.ext br
 simp[vL]
 cases s with
 | true=>
  simp[bd]
  exact aD _ _ ⟨br,false,a,c,aQ,rfl,nW,eH,bc,by simp[fh],fun _=>rfl⟩
 | false=>
  simp
  refine cP (af:=dh) (xs:=aQ) (by simpa using nW) (by simp) ?_
  simp[bd]
  refine aD _ _ ⟨br,decide (0<aQ.length),a,c,aQ,rfl,nW,eH,bc,?_,fun h=>by simp[h]⟩
  by_cases h:0<aQ.length
  ·simp[h,fh]
  ·have:aQ=[]:=List.eq_nil_of_length_eq_zero (by omega)
   subst this
   simp[fh,bq]
theorem IW{v:Value}{z:Int}{H:ab}(so:eh H v z):aP prog 53 [v] H (fun u H1=>Ext H H1/\eh H1 u z.natAbs):=by
 refine aP.b9 fun Q aD=>?_
 obtain⟨s,a,c,aQ,rfl,bo,eH,bc,rfl,ao⟩:=so
 apply WK (by simp)
 simp[Ht,bd]
 have br:Ext H (H++[.dead,.dead]):=Ext.more H (by simp)
 exact aD _ _ ⟨br,false,a,c,aQ,rfl,bo.ext br,eH,bc,by rw[BI];rfl,fun _=>rfl⟩
theorem Jb{v:Value}{z:Int}{H:ab}(so:eh H v z):aP prog 41 [v] H (fun u H1=>Ext H H1/\u= .int .i64 (if z<0 then-1 else if z=0 then 0 else 1)):=by
 refine aP.b9 fun Q aD=>?_
 obtain⟨s,a,c,aQ,rfl,bo,eH,bc,rfl,ao⟩:=so
 apply WY (by simp)
 simp[HG]
 have br:Ext H (H++[.dead]):=Ext.dead H
 refine cP (af:=dh) (xs:=aQ) (by simpa using bo.ext br) (by simp) ?_
 simp
 refine bt.b6 (fun aI=>?_) (fun aI=>?_)
 ·have aI:aQ=[]:=by simpa using aI
  subst aI
  simp[bd]
  exact aD _ _ ⟨br,by cases s<;>simp[fh,bq]⟩
 ·have aI:aQ≠[]:=by simpa using aI
  have an:0<bq aQ:=by
   have:=bc.zero
   rcases Nat.eq_zero_or_pos (bq aQ)with h | h
   ·exact absurd (this.1 h) aI
   ·exact h
  cases s with
  | true=>
   simp[bd]
   exact aD _ _ ⟨br,by simp[fh];omega⟩
  | false=>
   try simp[bd]
   refine aD _ _ ⟨br,?_⟩
   simp only[fh,Bool.false_eq_true,if_false]
   rw[if_neg (by omega),if_neg (by omega)]
def G0(H:ab)(u:Value)(n:Nat)(l:Nat):Prop:=∃a c aQ,u= .slice a aQ.length c/\jN H (.slice a aQ.length c) aQ/\eD aQ/\bq aQ=n/\aQ.length<=l
theorem tp(aQ:List Nat)(i:Nat):bq (aQ.take (i+1))=bq (aQ.take i)+10000^i*(aQ[i]?.getD 0):=by
 by_cases ad:i<aQ.length
 ·exact adJ ad
 ·rw[List.take_of_length_le (by omega),List.take_of_length_le (by omega),List.getElem?_eq_none (by omega)]
  simp
theorem Zr{A B O c x y i:Nat}(h:O+10000^i*c=A+B):O+10000^i*((c+x+y) % 10000)+10000^(i+1)*((c+x+y)/10000)=A+10000^i*x+(B+10000^i*y):=by
 have aB:10000^i*((c+x+y) % 10000)+10000^(i+1)*((c+x+y)/10000)=10000^i*c+10000^i*x+10000^i*y:=by
  rw[Nat.pow_succ,Nat.mul_assoc,<-Nat.mul_add,<-Nat.mul_add,<-Nat.mul_add]
  congr 1
  omega
 omega
theorem Qp{v w:Value}{x y:List Nat}{H:ab}(bx:jN H v x)(bE:jN H w y)(J:eD x)(aK:eD y)(Ea:x.length<100000000000)(u4:y.length<100000000000):
  aP prog 82 [v,w] H (fun u H1=>Ext H H1/\G0 H1 u (bq x+bq y) (max x.length y.length+1)):=by
 refine aP.b9 fun Q aD=>?_
 apply W5 (by simp)
 obtain⟨a,c,rfl⟩:=Row.len bx
 obtain⟨cA,cD,rfl⟩:=Row.len bE
 simp[HN]
 refine qg (e:=3) (U:=1) (by simp) (by simp) ?_
 simp
 refine dm.mk (by kernel_rfl) (fun m ay bD H1=>∃(i e1:Nat) (out:List Nat) (ep:Option Addr) (eG:Nat),m=max x.length y.length+1-i/\i<=max x.length y.length+1/\(i=max x.length y.length+1->e1=0)/\e1<=1/\ay 7= .int .i64 (i:Int)/\ay 6= .int .i64 (e1:Int)/\ay 5= .slice ep i eG/\out.length=i/\bH H.length 3 1 false dh H1 (.slice ep i eG) out/\eD out/\bq out+10000^i*e1=bq (x.take i)+bq (y.take i)/\Ext H H1) (max x.length y.length+1) ⟨0,0,[],some ⟨0,0,none⟩,0,by omega,by omega,fun _=>rfl,by omega,by simp,by simp,by simp,rfl,bH.void _ _ _ _ _ _ _,eD.nil,by simp[bq],Ext.refl _⟩ ?_
 rintro m ay bD H1 ⟨i,e1,out,ep,eG,rfl,ad,ahC,K0,cd,dP,bJ,dI,cy,uj,an,bw⟩ K aX
 simp at cd dP bJ
 have t_:=bx.ext bw
 have ua:=bE.ext bw
 simp only[l8]
 refine ca.join (by kernel_rfl) (fun bR c5 aR=>aR=H1/\bR 23= .bool (decide (i<x.length\/i<y.length\/0<e1))) ?_ ?_
 ·rintro cV dw-
  simp[cd]
  refine cP (af:=dh) (xs:=x) (by simpa using t_) (by simp) ?_
  simp[cd]
  by_cases sw:i<x.length
  ·simp[sw]
   exact dw _ _ _ ⟨rfl,by simp[sw]⟩
  ·simp[sw,cd]
   refine cP (af:=dh) (xs:=y) (by simpa using ua) (by simp) ?_
   simp
   by_cases Ak:i<y.length
   ·simp[Ak]
    exact dw _ _ _ ⟨rfl,by simp[Ak]⟩
   ·simp[Ak,dP]
    exact dw _ _ _ ⟨rfl,by simp[sw,Ak]⟩
 ·rintro bR c5 aR ⟨rfl,C7⟩
  simp only[ik]at C7
  simp at C7
  simp[C7]
  refine bt.mk (fun ag=>?_) (fun ag=>?_)
  ·simp at ag
   have oY:i<max x.length y.length+1:=by omega
   have fj:=J.get i
   have om:=aK.get i
   simp[dP]
   refine ca.join (by kernel_rfl) (fun dt ez bP=>bP=aR/\dt 8= .int .i64 ((e1+x[i]?.getD 0:Nat):Int)) ?_ ?_
   ·rintro mg fA-
    simp[cd]
    refine cP (af:=dh) (xs:=x) (by simpa using t_) (by simp) ?_
    simp
    refine bt.b6 (fun a5=>?_) (fun a5=>?_)
    ·refine Exists.elim (⟨_,bB a5⟩:∃d,x[i]?=some d) fun d aA=>?_
     have hw:IntKind.i64.wrap ((e1:Int)+(d:Int))=((e1+d:Nat):Int):=by rw[aA]at fj;simp at fj;rw[b7 (by omega) (by omega)];simp
     simp[cd]
     refine cY (af:=dh) (xs:=x) (n:=i) (a:=d) (e:=3) (U:=1) (aC:=false) (by simpa using t_) (by simp[cd]) aA (by simp) (by simp) (by simp) (by decide) ?_
     rintro g8 yS rfl
     simp[hw]
     exact fA _ _ _ ⟨rfl,by simp[aA]⟩
    ·have:x[i]?=none:=List.getElem?_eq_none (by omega)
     try simp
     exact fA _ _ _ ⟨rfl,by simp[this]⟩
   ·rintro dt ez bP ⟨rfl,cS⟩
    simp only[ik]at cS
    simp at cS
    refine ca.join (by kernel_rfl) (fun c0 dS b0=>b0=bP/\c0 8= .int .i64 ((e1+x[i]?.getD 0+y[i]?.getD 0:Nat):Int)) ?_ ?_
    ·rintro pt h2-
     simp[cd]
     refine cP (af:=dh) (xs:=y) (by simpa using ua) (by simp) ?_
     simp
     refine bt.b6 (fun a5=>?_) (fun a5=>?_)
     ·refine Exists.elim (⟨_,bB a5⟩:∃d,y[i]?=some d) fun d aA=>?_
      have hw:IntKind.i64.wrap ((e1:Int)+(x[i]?.getD 0:Nat)+(d:Int))=((e1+x[i]?.getD 0+d:Nat):Int):=by rw[aA]at om;simp at om;rw[b7 (by omega) (by omega)];simp
      simp[cd,cS]
      refine cY (af:=dh) (xs:=y) (n:=i) (a:=d) (e:=3) (U:=1) (aC:=false) (by simpa using ua) (by simp[cd]) aA (by simp) (by simp) (by simp) (by decide) ?_
      rintro iD mL rfl
      simp[hw]
      exact h2 _ _ _ ⟨rfl,by simp[aA]⟩
     ·have:y[i]?=none:=List.getElem?_eq_none (by omega)
      try simp
      exact h2 _ _ _ ⟨rfl,by simp[this,cS]⟩
    ·rintro c0 dS b0 ⟨rfl,cS⟩
     simp only[ik]at cS
     simp at cS
     refine Exists.elim (⟨_,rfl⟩:∃S,S=e1+x[i]?.getD 0+y[i]?.getD 0) fun S bM=>?_
     have qN:c0 8= .int .i64 (S:Int):=by rw[cS,bM];simp
     have ahf:S<20000:=by omega
     have m9:(S:Int).tmod 10000=((S % 10000:Nat):Int):=rfl
     have lV:(S:Int).tdiv 10000=((S/10000:Nat):Int):=rfl
     have jq:IntKind.i64.wrap ((S:Int)/10000)=(S:Int)/10000:=b7 (by omega) (by omega)
     have iT:IntKind.i64.wrap ((i:Int)+1)=((i+1:Nat):Int):=by rw[b7 (by omega) (by omega)];simp
     have gh:=Ext.len bw
     simp[bJ,qN,m9]
     refine yO (k:=H.length) (e:=3) (U:=1) (aC:=false) (bI:=8) (z:= .int .i64 0) (af:=dh) (xs:=out) (a:=S % 10000) (by simpa using cy) (by simp[dh]) (by simpa using kd _) (by simp) (fun _ _ _ _ _ h=>h) (by simp) (by simp) (by simp) (by simp) (by simp) (by rfl) (by rfl) (by rfl) (by rfl) (by decide) (by decide) (by decide) (by omega) (by omega) ?_
     intro ns v_ wo dN jA cI sA
     rw[dI]at jA
     simp only[dI]
     simp[qN,cd,lV,jq,iT]
     refine aX (max x.length y.length+1-(i+1)) _ _ _ (by omega) ⟨i+1,S/10000,out++[S % 10000],v_,wo,rfl,by omega,fun he=>?_,by omega,by simp,by simp,by simp,by simp[dI],jA,uj.snoc (Nat.mod_lt _ (by decide)),?_,cI _ (Nat.le_refl _) bw⟩
     ·have o:x[i]?=none:=List.getElem?_eq_none (by omega)
      have aa:y[i]?=none:=List.getElem?_eq_none (by omega)
      rw[o,aa]at bM
      simp at bM
      omega
     ·rw[vP,dI,tp x i,tp y i,bM]
      exact Zr an
  ·simp at ag
   have DR:e1=0:=by omega
   have Wr:x.take i=x:=List.take_of_length_le (by omega)
   have E1:y.take i=y:=List.take_of_length_le (by omega)
   rw[DR,Wr,E1]at an
   simp[bJ,bd]
   refine aD _ _ ⟨bw,ep,eG,out,by rw[dI],by rw[dI];exact cy.row,uj,by omega,by omega⟩
theorem YJ{A B O:Nat}{i x y b d ct:Nat}(h:A+10000^i*b=O+B)(ao:x+10000*ct=d+y+b):A+10000^i*x+10000^(i+1)*ct=O+10000^i*d+(B+10000^i*y):=by
 have aB:10000^i*x+10000^(i+1)*ct=10000^i*d+10000^i*y+10000^i*b:=by
  rw[Nat.pow_succ,Nat.mul_assoc,<-Nat.mul_add,<-Nat.mul_add,<-Nat.mul_add,ao]
 omega
theorem CA{v w:Value}{x y:List Nat}{H:ab}(bx:jN H v x)(bE:jN H w y)(J:eD x)(aK:eD y)(Ea:x.length<100000000000)(hle:bq y<=bq x)(MV:y.length<=x.length):
  aP prog 84 [v,w] H (fun u H1=>Ext H H1/\G0 H1 u (bq x-bq y) x.length):=by
 refine aP.b9 fun Q aD=>?_
 apply W4 (by simp)
 obtain⟨a,c,rfl⟩:=Row.len bx
 obtain⟨cA,cD,rfl⟩:=Row.len bE
 simp[HM]
 refine qg (e:=3) (U:=1) (by simp) (by simp) ?_
 simp
 refine dm.mk (by kernel_rfl) (fun m ay bD H1=>∃(i kl:Nat) (out:List Nat) (ep:Option Addr) (eG:Nat),m=x.length-i/\i<=x.length/\kl<=1/\ay 7= .int .i64 (i:Int)/\ay 6= .int .i64 (kl:Int)/\ay 5= .slice ep i eG/\out.length=i/\bH H.length 3 1 false dh H1 (.slice ep i eG) out/\eD out/\bq (x.take i)+10000^i*kl=bq out+bq (y.take i)/\Ext H H1) x.length ⟨0,0,[],some ⟨0,0,none⟩,0,by omega,by omega,by omega,by simp,by simp,by simp,rfl,bH.void _ _ _ _ _ _ _,eD.nil,by simp[bq],Ext.refl _⟩ ?_
 rintro m ay bD H1 ⟨i,kl,out,ep,eG,rfl,ad,ahp,cd,dP,bJ,dI,cy,uj,an,bw⟩ K aX
 simp at cd dP bJ
 have t_:=bx.ext bw
 have ua:=bE.ext bw
 simp[cd]
 refine cP (af:=dh) (xs:=x) (by simpa using t_) (by simp) ?_
 simp
 refine bt.b6 (fun sw=>?_) (fun sw=>?_)
 ·refine Exists.elim (⟨_,bB sw⟩:∃d,x[i]?=some d) fun d aA=>?_
  have K4:x[i]?.getD 0=d:=by rw[aA];rfl
  have ahv:d<10000:=K4▸J.get i
  have E0:=aK.get i
  have hw:IntKind.i64.wrap ((d:Int)-(kl:Int))=(d:Int)-(kl:Int):=b7 (by omega) (by omega)
  simp[cd]
  refine cY (af:=dh) (xs:=x) (n:=i) (a:=d) (e:=3) (U:=1) (aC:=false) (by simpa using t_) (by simp[cd]) aA (by simp) (by simp) (by simp) (by decide) ?_
  rintro g8 yS rfl
  simp[dP,hw]
  refine ca.join (by kernel_rfl) (fun dt ez bP=>bP=H1/\dt 8= .int .i64 ((d:Int)-(kl:Int)-(y[i]?.getD 0:Nat))) ?_ ?_
  ·rintro mg fA-
   simp[cd]
   refine cP (af:=dh) (xs:=y) (by simpa using ua) (by simp) ?_
   simp
   refine bt.b6 (fun a5=>?_) (fun a5=>?_)
   ·refine Exists.elim (⟨_,bB a5⟩:∃d,y[i]?=some d) fun e he=>?_
    have jq:IntKind.i64.wrap ((d:Int)-(kl:Int)-(e:Int))=(d:Int)-(kl:Int)-(e:Int):=by rw[he]at E0;simp at E0;exact b7 (by omega) (by omega)
    simp[cd]
    refine cY (af:=dh) (xs:=y) (n:=i) (a:=e) (e:=3) (U:=1) (aC:=false) (by simpa using ua) (by simp[cd]) he (by simp) (by simp) (by simp) (by decide) ?_
    rintro iD mL rfl
    simp[jq]
    exact fA _ _ _ ⟨rfl,by simp[he]⟩
   ·have:y[i]?=none:=List.getElem?_eq_none (by omega)
    try simp
    exact fA _ _ _ ⟨rfl,by simp[this]⟩
  ·rintro dt ez bP ⟨rfl,cS⟩
   simp only[ik]at cS
   simp at cS
   refine Exists.elim (⟨_,rfl⟩:∃e,e=y[i]?.getD 0) fun e he=>?_
   rw[<-he]at cS E0
   simp
   refine ca.join (by kernel_rfl) (fun c0 dS b0=>b0=bP/\∃tR ct:Nat,c0 8= .int .i64 (tR:Int)/\c0 6= .int .i64 (ct:Int)/\tR<10000/\ct<=1/\d+10000*ct=tR+e+kl) ?_ ?_
   ·rintro pt h2-
    simp[cS]
    refine bt.b6 (fun pW=>?_) (fun pW=>?_)
    ·have iT:IntKind.i64.wrap ((d:Int)-(kl:Int)-(e:Int)+10000)=(d:Int)-(kl:Int)-(e:Int)+10000:=b7 (by omega) (by omega)
     simp[cS,iT]
     refine h2 _ _ _ ⟨rfl,((d:Int)-(kl:Int)-(e:Int)+10000).toNat,1,by simp;omega,by simp,by omega,by omega,by omega⟩
    ·try simp
     refine h2 _ _ _ ⟨rfl,((d:Int)-(kl:Int)-(e:Int)).toNat,0,by simp[cS];omega,by simp,by omega,by omega,by omega⟩
   ·rintro c0 dS b0 ⟨rfl,tR,ct,qN,tZ,uM,c8,dd⟩
    simp only[ik]at qN tZ
    simp at qN tZ
    have iT:IntKind.i64.wrap ((i:Int)+1)=((i+1:Nat):Int):=by rw[b7 (by omega) (by omega)];simp
    have gh:=Ext.len bw
    simp[bJ,qN]
    refine yO (k:=H.length) (e:=3) (U:=1) (aC:=false) (bI:=8) (z:= .int .i64 0) (af:=dh) (xs:=out) (a:=tR) (by simpa using cy) (by simp[dh,qN]) (by simpa[qN]using kd _) (by simp) (fun _ _ _ _ _ h=>h) (by simp) (by simp) (by simp) (by simp) (by simp) (by rfl) (by rfl) (by rfl) (by rfl) (by decide) (by decide) (by decide) (by omega) (by omega) ?_
    intro ns v_ wo dN jA cI sA
    rw[dI]at jA
    simp only[dI]
    simp[cd,iT]
    refine aX (x.length-(i+1)) _ _ _ (by omega) ⟨i+1,ct,out++[tR],v_,wo,rfl,by omega,c8,by simp,by simp[tZ],by simp,by simp[dI],jA,uj.snoc uM,?_,cI _ (Nat.le_refl _) bw⟩
    rw[vP,dI,tp x i,tp y i,K4,<-he]
    exact YJ an dd
 ·obtain rfl:i=x.length:=by omega
  have E1:y.take x.length=y:=List.take_of_length_le (by omega)
  rw[List.take_length,E1]at an
  have Ef:=rL uj
  rw[dI]at Ef
  have ahq:10000^x.length*kl=0:=by
   rcases Nat.eq_zero_or_pos kl with h | h
   ·rw[h];rfl
   ·have:kl=1:=by omega
    rw[this]at an
    omega
  simp[bJ,bd]
  exact aD _ _ ⟨bw,ep,eG,out,by rw[dI],by rw[dI];exact cy.row,uj,by omega,by omega⟩
end Go.cW
end
