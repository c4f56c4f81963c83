/- Part of the proof of ShopDoes. -/
import Derived.Test.YtoiodfcefbapkaaGreatShopDoesH
set_option linter.unusedVariables false
set_option linter.unusedSimpArgs false
section
set_option maxRecDepth 8000
set_option maxHeartbeats 1000000
namespace Go.dq
open Go.Proofs
open Go.Proofs.Tryz (prog)
attribute [-simp] il jk k3
theorem bH.a8{α:Type}{f:FuncId}{args:List Value}{H:ab}{k e R:Nat}{ay:Bool}{ad:ab->Value->α->Prop}{xs:List α}(h:aO prog f args H (fun u H1=>Ext H H1/\bH k e R ay ad H1 u xs)):aO prog f args H (fun u H1=>Ext H H1/\∃a c,u= .slice a xs.length c/\bH k e R ay ad H1 (.slice a xs.length c) xs):=
 h.mono fun u H1 ⟨J,aQ⟩=>by
  obtain⟨a,c,rfl⟩:=aQ.len
  exact⟨J,a,c,rfl,aQ⟩
theorem yU{v:Value}{t:List (List Rat)}{fg:List Rat}{n:Nat}{H:ab}(bf:hX H v t)(aH:t[0]?=some fg)(aJ:fg.length=n):aO prog 49 [.agg #[v]] H (fun w H1=>Ext H H1/\w= .int .i64 n):=by
 subst aJ
 exact Gb bf aH
theorem BR{v:Value}{t:List (List Rat)}{n:Nat}{H:ab}(bf:hX H v t)(aJ:t.length=n):aO prog 48 [.agg #[v]] H (fun w H1=>Ext H H1/\w= .int .i64 n):=by
 subst aJ
 exact NU bf
theorem Kd{a b:Rat}:((if a<b then(-1:Int)else if a=b then 0 else 1)<0)↔a<b:=by
 by_cases o:a<b
 ·simp[o]
 ·by_cases aa:a=b
  ·simp[aa]
  ·simp[o,aa]
theorem acE{d:Nat}{x y:Operand}{r:List bG}{F:Fr}{H:ab}{Q:Fr->ab->Prop}{q:Rat}{dt:List Int}{ax:bb (dF d 113 [(0,x),(1,y)]::r) Q}(J:cf H (aq F x) q)(aI:Row 3 1 false IR H (aq F y) dt)
  (K:∀u,j4 H u (q,dt)->ba prog r Q .mk (a2 F d u) H):ba prog (dF d 113 [(0,x),(1,y)]::r) Q ax F H:=by
 obtain⟨s1,b4,cB,cm,s2,cM,cL,cI,an,o,aa⟩:=fA.shape J
 obtain⟨eM,eQ,hw⟩:=aI.len
 have br:j4 H (.agg #[.bool s1,.slice b4 cB cm,.bool s2,.slice cM cL cI,.slice eM dt.length eQ]) (q,dt):=⟨s1,b4,cB,cm,s2,cM,cL,cI,eM,_,eQ,rfl,by rw[<-an];exact J,by rw[<-hw];exact aI⟩
 have:=K _ br
 simp[an,hw]
 exact this
attribute [-simp] Q_
theorem fs.set{n m j:Nat}{t:List (List Rat)}{dW:List Rat}(h:fs n m t)(al:dW.length=m):fs n m (t.set j dW):=
 ⟨by simp[h.len],fun r cA=>by
  rcases List.mem_or_eq_of_mem_set cA with cA | rfl
  ·exact h.row r cA
  ·exact al⟩
theorem iK.set{D j:Nat}{t:List (List Rat)}{dW:List Rat}(h:iK D t)(al:∀q∈dW,fa D q):iK D (t.set j dW):=fun r cA=>by
 rcases List.mem_or_eq_of_mem_set cA with cA | rfl
 ·exact h r cA
 ·exact al
theorem KE{t:List (List Rat)}{r:List Rat}{j i:Nat}{x:Rat}(aY:t[j]?=some r)(af:i<r.length)(ek b_:Nat):b6 (t.set j (r.set i x)) ek b_=if ek=j/\b_=i then x else b6 t ek b_:=by
 have gf:=(cJ.1 aY).1
 unfold b6
 by_cases o:ek=j
 ·subst o
  rw[List.getElem?_set_self gf,aY]
  simp only[Option.getD_some,true_and]
  by_cases aa:b_=i
  ·subst aa;rw[List.getElem?_set_self af];simp
  ·rw[List.getElem?_set_ne (by omega),if_neg aa]
 ·rw[List.getElem?_set_ne (by omega),if_neg (fun h=>o h.1)]
theorem aaH{n:Nat}{B k5:Nat->Nat->Rat}(e:∀i k,i<n->k<n->k5 i k=B i k):nJ n k5=nJ n B:=Cu fun i af=>Cu fun k ak=>by rw[e i k af ak]
theorem ZG{H:ab}{b e:Nat}{l:Bool}{cs:List Value}{X:bO}(h:H[b]?=some (.own e l cs)):Kept H (H.set b X) (.slice (some ⟨b,0,none⟩) 0 0) e:=fun cy Y lr ag=>by
 by_cases qj:b=cy
 ·subst qj
  rw[h]at lr
  exact absurd (by rw[<-Option.some.inj lr];rfl) (ag ⟨0,0,0,rfl⟩)
 ·rw[List.getElem?_set_ne qj];exact lr
theorem h_.fresh{fJ H:ab}{g8 n:Nat}{hr gM gD Cw:Value}{t:List (List Rat)}{ca:List Int}{dw cS:List Bool}(h:h_ fJ H g8 n hr gM gD t ca dw)(cw:bH fJ.length 4 1 false pT H Cw cS):h_ fJ (H.set g8 (.own 140 false [hr,gM,Cw])) g8 n hr gM Cw t ca cS:=by
 have ak:=ZG (X:= .own 140 false [hr,gM,Cw]) h.fc
 exact⟨h.pos,h.ext.set h.yW (by simp),h.ko,h.wk,h.we,h.small,h.yW,List.getElem?_set_self (cJ.1 h.fc).1,h.mY.other ak (by decide) fun _ _ h=>h,cw.other ak (by decide) fun _ _ h=>h⟩
theorem h_.next{fJ H:ab}{g8 n ub:Nat}{hr gM gD:Value}{t:List (List Rat)}{ca:List Int}{L:Rat}(ar:kP n (b6 t) L)(dm:0<L)(jv:nc n (b6 t) ub ca)(bM:ub<n)(h:h_ fJ H g8 n hr gM gD t ca (List.replicate n false)):
  aO prog 86 [.pointer (some ⟨g8,0,none⟩),.int .i64 ub] H (fun u H1=>∃hA cS,u= .bool true/\nc n (b6 t) (ub+1) hA/\h_ fJ H1 g8 n hr gM gD t hA cS):=
 (find_spec n (n+1) (by unfold pQ;rw[List.count_replicate];simp;) h (by simp) jv.ok bM).mono fun u H1 ⟨b,hA,cS,hu,br,bL⟩=>by
  obtain⟨rfl,aa⟩:=nc.next ar.iC ar.row ar.rk dm jv bM br
  exact⟨hA,cS,hu,aa,bL⟩
theorem RZ{v:Value}{t:List (List Rat)}{n N D:Nat}{L:Rat}{H:ab}(bf:hX H v t)(aD:fs n n t)(aJ:0<n)(nv:n<65536)(ar:kP n (b6 t) L)(aX:iK D t)(gV:my D N L):
  aO prog 58 [.agg #[v]] H (fun u H1=>Ext H H1/\∃a5,sD n (b6 t) L a5/\(∀p∈a5,fa D p.1)/\Row 113 5 true j4 H1 u a5):=by
 refine aO.b9 fun Q aC=>?_
 have me:=aD.len
 apply Y5 (by simp)
 obtain⟨a,c,rfl⟩:=Row.len bf
 simp[Jq]
 have bu:Ext H (H++[.dead]):=Ext.dead H
 refine ck (ad:=jo) (xs:=t) (by simpa using bf.ext bu) (by simp) ?_
 simp
 obtain⟨h9,Av⟩:∃h9,h9=H++[bO.dead]:=⟨_,rfl⟩
 have s8:0<h9.length:=by rw[Av];simp
 rw[<-Av]at bu⊢
 have Uj:=bf.ext bu
 refine c7.range (by kernel_rfl) t.length (by omega) (by simp) (by rfl) (by simp) (by decide) (by decide) (fun i bR c4 aS=>Ext h9 aS/\∃us,eC h9.length 120 80 4 true cf aS (bR 3) (t.take i) us) ?_ ?_ ?_
 ·exact⟨Ext.refl _,[],by simpa using eC.nil _ _ _ _ _ _ _ s8⟩
 ·rintro i bR c4 aS af a_ ⟨bl,us,jw⟩ K aV
  simp at a_ jw
  simp[a_]
  obtain⟨row,dL⟩:∃row,t[i]?=some row:=⟨_,bz af⟩
  have yf:=aD.row row (List.mem_of_getElem? dL)
  refine cv (ad:=jo) (xs:=t) (n:=i) (a:=row) (e:=120) (R:=1) (ay:=false) (by simpa using b7.ext Uj bl) (by simp[a_]) dL (by simp) (by simp) (by simp) (by decide) ?_
  intro c9 He rY
  simp
  refine aT.mk (RC rY (by omega)) ?_
  rintro w bN ⟨bK,hw⟩
  have TE:=Ext.len bl
  have xt:=eC.ext jw bK
  have rZ:=hw.le TE
  have Xl:=hw.j1
  refine G7 (k:=h9.length) (e:=120) (R:=1) (ay:=false) (bF:=24) (z:= .slice none 0 0) (ad:=hc) (xs:=us) (a:=w) (by simpa using xt.own) (by simp[hc]) (by simpa using Xl) (by simp) (fun _ _ _ _ _ h=>h) (by simp) (by simp) (by simp) (by simp) (by simp) (by rfl) (by rfl) (by rfl) (by rfl) (by decide) (by decide) (by decide) (by have:=jw.len;simp at this;omega) (by have:=Ext.len bK;omega) ?_
  intro qP zv c6 jP cR mP vw xY
  simp at mP vw
  have oK:=eC.snoc (cE:=aS) (jF:=aS.length) xt (fun b aH ag=>(hw.ge ag aH).1) (fun j u b hu ag aH=>jw.lt j u b hu ag aH) (by decide) rZ jP mP (fun u x h=>h.kept mP (by decide))
  simp
  refine aV _ _ _ (by simp[a_]) ⟨cR _ (Nat.le_refl _) (bl.aw bK),us++[w],?_⟩
  rw[List.take_succ_eq_append_getElem af]
  have:t[i]=row:=(cJ.1 dL).2
  rw[this]
  simpa using oK
 ·rintro bR c4 C0 a_ ⟨NG,us,AF⟩
  simp at AF
  obtain⟨dg,lc,mQ⟩:=AF.own.len
  have Tu:=Ext.len NG
  obtain⟨jD,A7⟩:∃jD,jD=Value.slice dg us.length lc:=⟨_,rfl⟩
  rw[mQ,<-A7]at AF
  simp[mQ]
  rw[<-A7]
  obtain⟨C1,Lm⟩:∃C1,C1=C0++[bO.dead]:=⟨_,rfl⟩
  have NH:Ext C0 C1:=by rw[Lm];exact Ext.dead C0
  rw[<-Lm]
  refine c7.mk (by kernel_rfl) (fun w c_ en bN=>∃hT us a5,w=nJ n (b6 hT)/\Ext h9 bN/\eC h9.length 120 80 4 true cf bN jD hT us/\bH h9.length 113 5 true j4 bN (c_ 7) a5/\fs n n hT/\iK D hT/\m_ n (b6 t) L a5 (b6 hT)/\(∀p∈a5,fa D p.1)) (nJ n (b6 t)) ?_ ?_
  ·exact⟨t,us,[],rfl,NG.aw NH,AF.ext NH,by simpa using bH.nil _ _ _ _ _ _,aD,aX,m_.zero ar,by simp⟩
  ·rintro w c_ en bN ⟨hT,aeT,a5,rfl,bK,xt,u7,ou,qm,ln,A8⟩ K aV
   obtain⟨fg,gK,pv,rU,M0,yd⟩:=ou.at aJ
   simp at u7
   simp
   have oc:my D N (L-dv a5):=gV.le (by have:=(Gn fun p aU=>(ln.parts p aU).1).1;grind)
   have M8:=GY ou qm oc (fun i k af ak=>ln.kZ.iC i k af ak) fun i af=>by rw[ln.kZ.row i af];exact Rat.le_refl
   have Ei:hX bN jD hT:=xt.row
   have Lg:=ou.len
   refine aT.mk (yR (j:=0) Ei gK (by omega) (by omega) (M8 fg pv).1 (M8 fg pv).2 gV.bits) ?_
   rintro y_ bU ⟨ch,nx⟩
   rw[yd,ln.kZ.row 0 aJ]at nx
   simp
   refine aT.mk (Gw nx) ?_
   rintro u b5 ⟨cP,rfl⟩
   have mX:=ch.aw cP
   simp
   refine bs.bZ (fun ae=>?_) (fun ae=>?_)
   ·have TT:0<L-dv a5:=by
     have:¬(L-dv a5<=0):=fun h=>by have:=zf.2 h;omega
     exact Rat.not_le.1 this
    simp
    refine zl (e:=3) (R:=1) (ay:=false) (z:= .int .i64 0) (ad:=IR) (a:= -1) (fun aF _=>by simp[IR]) (by simpa using jn (-1)) (by simp) (by simp) (by simp) (by rfl) (by rfl) (by rfl) (by decide) (by decide) ?_
    intro Qx dx kB cu
    simp
    have Ua:=hX.ext Ei (mX.aw cu)
    refine aT.mk (yU Ua gK rU) ?_
    rintro u c6 ⟨cR,rfl⟩
    refine⟨cR,?_⟩
    simp
    refine aT.mk (bH.a8 (aa6 (ad:=IR) (b7.ext (ad:=Row _ _ _ IR) kB.row cR) nv (fun H u y h=>by rw[h];exact jn y) (fun _ _ _ _ _ _ h=>h))) ?_
    rintro _ eV ⟨cW,pF,pG,rfl,eW⟩
    refine⟨cW,?_⟩
    simp
    have NB:=cu.aw (cR.aw cW)
    have aiZ:=Ext.len cu
    have VO:=Ext.len NB
    have ND:Ext eV (eV++[.own 140 false [jD,.slice pF n pG,.slice none 0 0]]):=(Ext.refl eV).snoc _ _ _
    have ai0:=Ext.len cR
    have D_:h_ b5 (eV++[.own 140 false [jD,.slice pF n pG,.slice none 0 0]]) eV.length n jD (.slice pF n pG) (.slice none 0 0) hT (List.replicate n (-1)) []:=
     ⟨by have:=Ext.len mX;have:=Ext.len bK;omega,NB.aw ND,hX.ext Ei mX,Lg,ou.row,nv,VO,by simp,b7.ext (ad:=bH _ _ _ _ IR) (by simpa using eW.le (b_:=b5.length) (by omega)) ND,bH.nil _ _ _ _ _ _⟩
    have Ub:=D_.ko.ext D_.ext
    refine aT.mk (BR Ub Lg) ?_
    rintro u k9 ⟨gL,rfl⟩
    have TU:=D_.more gL
    simp
    refine c7.range (by kernel_rfl) n (by omega) (by simp) (by rfl) (by simp) (by decide) (by decide) (fun ub q5 uu iS=>∃ca gD dw,h_ b5 iS eV.length n jD (.slice pF n pG) gD hT ca dw/\nc n (b6 hT) ub ca) ?_ ?_ ?_
    ·exact⟨_,_,_,TU,nc.zero _ _⟩
    ·rintro ub q5 uu iS qy As ⟨ca,gD,dw,qe,Az⟩ wE jO
     simp at As
     have Eh:=qe.ko.ext qe.ext
     simp[As]
     refine aT.mk (yU Eh gK rU) ?_
     rintro u im ⟨gr,rfl⟩
     have tb:=qe.more gr
     have VL:=Ext.len tb.ext
     refine zm (e:=4) (R:=1) (bF:=1) (ay:=false) (n:=n) (eK:= .i64) (cX:= .i64) (z:= .bool false) (ad:=pT) (a:=false) (by simp) (by simp) (by simp) (by rfl) (by rfl) (by simp) (QB false) (by simp) (by simp) (by decide) (by decide) (by omega) (fun aF=>rfl) ?_
     intro ajK jh kM l1 iA
     have oe:=tb.more iA
     have AP:=oe.fc
     have TV:=oe.fresh (l1.le VL)
     simp[AP]
     refine aT.mk (h_.next ln.kZ TT Az qy TV) ?_
     rintro u kN ⟨hA,cS,rfl,TY,TW⟩
     exact jO _ _ _ (by simp[As]) ⟨hA,_,cS,TW,TY⟩
    ·rintro q5 uu iS As ⟨ca,gD,dw,qe,Az⟩
     have US:=qe.fc
     have nw:=Az.perm.1
     have g4:=Az.perm.2
     refine Exists.elim (nw.d_ 0 aJ) fun BQ aY=>?_
     have vz:=aY.1
     have Mv:=aY.2
     refine Exists.elim (ou.get vz aJ) fun Pb al=>?_
     have WC:=al.1
     have WD:=al.2.1
     have Eh:=qe.ko.ext qe.ext
     simp[US]
     refine cv (ad:=IR) (xs:=ca) (n:=0) (a:=(BQ:Int)) (e:=3) (R:=1) (ay:=false) (by simpa using qe.mY.row) (by simp) Mv (by simp) (by simp) (by simp) (by decide) ?_
     rintro y3 G9 rfl
     refine cv (ad:=jo) (xs:=hT) (n:=BQ) (a:=Pb) (e:=120) (R:=1) (ay:=false) (by simpa using Eh) (by simp) WC (by simp) (by simp) (by simp) (by decide) ?_
     intro tY zt yr
     refine cv (ad:=cf) (xs:=Pb) (n:=0) (a:=b6 hT BQ 0) (e:=80) (R:=4) (ay:=true) (by simpa using yr) (by simp) WD (by simp) (by simp) (by simp) (by decide) ?_
     intro B7 G_ BE
     simp
     refine c2.mk BE.whole ?_
     have tb:=qe.more (Ext.dead iS)
     have UT:=tb.fc
     have gf:ca.length=n:=nw.len
     simp[UT]
     refine ck (ad:=IR) (xs:=ca) (by simpa using tb.mY.row) (by simp) ?_
     simp[gf]
     refine Exists.elim (⟨fun k=>b6 hT (ca[k]?.getD 0).toNat k,rfl⟩:∃f:Nat->Rat,f=fun k=>b6 hT (ca[k]?.getD 0).toNat k) fun f aB=>?_
     have Vh:f 0=b6 hT BQ 0:=by rw[aB];simp[Mv]
     have AV:∀k j:Nat,ca[k]?=some (j:Int)->f k=b6 hT j k:=fun k j h=>by rw[aB];simp[h]
     have oC:∀k,k<n->dh N (f k):=fun k ak=>by
      obtain⟨j,a0,a4⟩:=nw.d_ k ak
      rw[AV k j a4]
      exact oc.R (qm.b6 j k) (ln.kZ.iC j k a0 ak) (ln.kZ.le a0 ak)
     have A_:∀k,k<=n->dh N (k0 f k):=fun k ak=>by
      by_cases pr:k=0
      ·subst pr;exact oC 0 aJ
      ·obtain⟨i,a0,a4⟩:=Oj f k (by omega)
       rw[a4];exact oC i (by omega)
     refine c7.range (by kernel_rfl) n (by omega) (by simp) (by rfl) (by simp) (by decide) (by decide) (fun i Hx zG kM=>Ext (iS++[.dead]) kM/\cf kM (zG 11) (k0 f i)) ?_ ?_ ?_
     ·refine⟨Ext.refl _,?_⟩
      simp only[k0,Vh]
      simpa using BE.ext (Ext.dead iS)
     ·rintro i Hx zG kM af u0 ⟨iA,qu⟩ HE qd
      simp at u0 qu
      refine cc.join (by kernel_rfl) (fun sF uv kN=>Ext kM kN/\cf kN (uv 11) (k0 f (i+1))) ?_ ?_
      ·rintro QW xi-
       have oe:=tb.more iA
       have T_:=oe.ko.ext oe.ext
       refine Exists.elim (nw.d_ i af) fun j aY=>?_
       have qp:=aY.1
       have jU:=aY.2
       have EO:=AV i j jU
       refine Exists.elim (ou.get qp af) fun oU al=>?_
       simp[u0]
       refine cv (ad:=IR) (xs:=ca) (n:=i) (a:=(j:Int)) (e:=3) (R:=1) (ay:=false) (by simpa using oe.mY.row) (by simp[u0]) jU (by simp) (by simp) (by simp) (by decide) ?_
       rintro aau aeP rfl
       simp[u0]
       refine cv (ad:=jo) (xs:=hT) (n:=j) (a:=oU) (e:=120) (R:=1) (ay:=false) (by simpa using T_) (by simp) al.1 (by simp) (by simp) (by simp) (by decide) ?_
       intro aav u16 WY
       simp
       refine cv (ad:=cf) (xs:=oU) (n:=i) (a:=b6 hT j i) (e:=80) (R:=4) (ay:=true) (by simpa using WY) (by simp) al.2.1 (by simp) (by simp) (by simp) (by decide) ?_
       intro OI ak9 BF
       simp
       refine c2.mk BF.whole ?_
       simp
       have fu:=Ext.dead kM
       have iy:=oC i af
       rw[EO]at iy
       refine aT.mk (Cd (BF.ext fu) (qu.ext fu) iy (A_ i (by omega)) gV.bits) ?_
       rintro w o1 ⟨nD,rfl⟩
       simp
       refine bs.bZ (fun ae=>?_) (fun ae=>?_)
       ·have aZ:=Kd.1 ae
        simp
        refine c2.mk BF.whole ?_
        refine xi _ _ _ ⟨fu.aw nD,?_⟩
        simp only[k0,EO,if_pos aZ]
        simpa using BF.ext (fu.aw nD)
       ·have aZ:=fun h=>ae (Kd.2 h)
        refine xi _ _ _ ⟨fu.aw nD,?_⟩
        simp only[k0,EO,if_neg aZ]
        simpa using qu.ext (fu.aw nD)
      ·rintro sF uv kN ⟨hN,V4⟩
       exact qd _ _ _ (by simp[u0]) ⟨iA.aw hN,by simpa using V4⟩
     ·rintro Hx zG kM u0 ⟨iA,qu⟩
      simp at qu
      have oe:=tb.more iA
      have AP:=oe.fc
      have FI:=mX.aw oe.ext
      have tf:=xt.ext FI
      have T7:=b7.ext (ad:=bH h9.length 113 5 true j4) u7 FI
      have Ty:=bK.aw FI
      refine Exists.elim (⟨(k0 f n,ca),rfl⟩:∃p:Rat×List Int,p=(k0 f n,ca)) fun p aU=>?_
      have tr:p.1=k0 f n:=by rw[aU]
      have rS:p.2=ca:=by rw[aU]
      have A3:∀k j:Nat,k<n->p.2[k]?=some (j:Int)->p.1<=b6 hT j k:=fun k j ak aY=>by
       rw[rS]at aY
       rw[tr,<-AV k j aY]
       exact aab f ak
      have jR:∃k j:Nat,k<n/\j<n/\p.2[k]?=some (j:Int)/\p.1=b6 hT j k:=by
       obtain⟨k,ak,e⟩:=Oj f n aJ
       obtain⟨j,a0,a4⟩:=nw.d_ k ak
       exact⟨k,j,ak,a0,by rw[rS];exact a4,by rw[tr,e];exact AV k j a4⟩
      have MM:0<p.1:=by
       obtain⟨k,j,ak,aY,a0,a4⟩:=jR
       rw[a4]
       exact g4 k j ak (by rw[<-rS];exact a0)
      have Bj:fa D p.1:=by
       obtain⟨k,j,ak,aY,a0,a4⟩:=jR
       rw[a4]
       exact qm.b6 j k
      have tt:dh N p.1:=by rw[tr];exact A_ n (Nat.le_refl n)
      simp[AP]
      refine ck (ad:=IR) (xs:=ca) (by simpa using oe.mY.row) (by simp) ?_
      simp[gf]
      refine c7.range (by kernel_rfl) n (by omega) (by simp) (by rfl) (by simp) (by decide) (by decide) (fun i Hy HC pV=>∃k6 ui,Ext h9 pV/\eC h9.length 120 80 4 true cf pV jD k6 ui/\bH h9.length 113 5 true j4 pV (c_ 7) a5/\Row 3 1 false IR pV (.slice pF n pG) ca/\cf pV (zG 11) p.1/\pV[eV.length]?=some (.own 140 false [jD,.slice pF n pG,gD])/\fs n n k6/\iK D k6/\∀j k,j<n->k<n->b6 k6 j k=if k<i then kE (b6 hT) p j k else b6 hT j k) ?_ ?_ ?_
      ·exact⟨hT,aeT,Ty,tf,T7,oe.mY.row,by rw[tr];exact qu,AP,ou,qm,fun j k _ _=>by simp⟩
      ·rintro i Hy HC pV af u1 ⟨k6,ui,tM,xr,Ef,Ax,Bz,EE,AQ,xQ,xN⟩ agC TO
       simp at u1
       refine Exists.elim (nw.d_ i af) fun j aY=>?_
       have qp:=aY.1
       have jU:=aY.2
       refine Exists.elim (AQ.get qp af) fun oU al=>?_
       refine Exists.elim (xr.wg al.1) fun Hc hu=>?_
       have LF:=xr.own.row
       simp[u1]
       refine cv (ad:=IR) (xs:=ca) (n:=i) (a:=(j:Int)) (e:=3) (R:=1) (ay:=false) (by simpa using Ax) (by simp[u1]) jU (by simp) (by simp) (by simp) (by decide) ?_
       rintro ajQ ala rfl
       simp[u1]
       refine cv (ad:=hc) (xs:=ui) (n:=j) (a:=Hc) (e:=120) (R:=1) (ay:=false) (by simpa using LF) (by simp) hu.1 (by simp) (by simp) (by simp) (by decide) ?_
       rintro aaw Ha rfl
       simp
       refine cv (ad:=hc) (xs:=ui) (n:=j) (a:=Ha) (e:=120) (R:=1) (ay:=false) (by simpa using LF) (by simp) hu.1 (by simp) (by simp) (by simp) (by decide) ?_
       rintro aax aeQ rfl
       simp
       refine cv (ad:=cf) (xs:=oU) (n:=i) (a:=b6 k6 j i) (e:=80) (R:=4) (ay:=true) (by simpa using hu.2.row) (by simp) al.2.1 (by simp) (by simp) (by simp) (by decide) ?_
       intro aay aeR Fu
       simp
       have L3:b6 k6 j i=b6 hT j i:=by rw[xN j i qp af,if_neg (Nat.lt_irrefl i)]
       have WK:dh N (b6 k6 j i):=by rw[L3];exact oc.R (qm.b6 j i) (ln.kZ.iC j i qp af) (ln.kZ.le qp af)
       refine aT.mk (Gx Fu Bz WK tt gV.bits) ?_
       rintro w zI ⟨jf,hw⟩
       refine⟨jf,?_⟩
       have Ep:=xr.ext jf
       have Ee:=b7.ext (ad:=bH h9.length 80 4 true cf) hu.2 jf
       refine kp (k:=h9.length) (e:=80) (R:=4) (ay:=true) (n:=i) (ad:=cf) (xs:=oU) (a:=b6 k6 j i-p.1) (by simpa using Ee) (by simp) (by rw[al.2.2];exact af) (by simpa using hw) (by simpa using hw.whole) (by simp) (fun aF dC u y ak h=>h.kept ak (by decide)) (by simp) (by simp) (by simp) (by decide) ?_
       rintro aaz CZ xm FG nt VN-
       simp at xm nt
       have ak:∀u x,cf zI u x->cf CZ u x:=fun u x h=>h.kept nt (by decide)
       simp
       refine TO _ _ _ (by simp[u1]) ⟨k6.set j (oU.set i (b6 k6 j i-p.1)),ui,?_,Ep.inner hu.1 (by decide) nt xm ak,?_,?_,ak _ _ (Bz.ext jf),?_,?_,?_,?_⟩
       ·exact FG _ (Nat.le_refl _) (tM.aw jf)
       ·exact(b7.ext (ad:=bH h9.length 113 5 true j4) Ef jf).other nt (by decide) fun u x h=>h.kept nt (by decide) (by decide)
       ·exact(b7.ext (ad:=Row _ _ _ IR) Ax jf).kept nt (by decide) fun _ _ h=>h
       ·exact nt _ _ (jf.get_some EE) fun _=>by simp[bO.elem?]
       ·exact AQ.set (by rw[List.length_set];exact al.2.2)
       ·refine xQ.set fun q av=>?_
        rcases List.mem_or_eq_of_mem_set av with av | rfl
        ·exact xQ oU (List.mem_of_getElem? al.1) q av
        ·exact(xQ.b6 j i).sub Bj
       ·intro ek b_ nr lv
        rw[KE al.1 (by rw[al.2.2];exact af)]
        have MP:p.2[i]?=some (j:Int):=by rw[rS];exact jU
        by_cases hy:b_=i
        ·subst hy
         rw[if_pos (Nat.lt_succ_self _)]
         by_cases Ml:ek=j
         ·subst Ml
          rw[if_pos ⟨rfl,rfl⟩,L3]
          unfold kE gu
          rw[if_pos MP]
         ·rw[if_neg (fun h=>Ml h.1),xN ek b_ nr lv,if_neg (Nat.lt_irrefl _)]
          unfold kE gu
          rw[MP,if_neg (by simp;omega)]
          grind
        ·rw[if_neg (fun h=>hy h.2),xN ek b_ nr lv]
         by_cases aZ:b_<i
         ·rw[if_pos aZ,if_pos (by omega)]
         ·rw[if_neg aZ,if_neg (by omega)]
      ·rintro Hy HC pV u1 ⟨k6,ui,tM,xr,Ef,Ax,Bz,EE,AQ,xQ,xN⟩
       have he:∀j k,j<n->k<n->b6 k6 j k=kE (b6 hT) p j k:=fun j k aY ak=>by rw[xN j k aY ak,if_pos ak]
       have MO:lT n p.2:=by rw[rS];exact nw
       have VV:=ln.kZ.less MO MM A3 jR
       have E7:=(ln.next MO MM A3 jR).congr he
       have Wi:=aaH he
       have Vk:a5.length<=n*n:=by have:=ln.nj;have:=OQ n (b6 t);omega
       have tp:n*n<=65536*65536:=Nat.mul_le_mul (by omega) (by omega)
       have aip:=Ext.len tM
       simp[EE]
       refine acE (q:=p.1) (dt:=p.2) (by simpa using Bz) (by rw[rS];simpa using Ax) ?_
       intro alb Nf
       refine uc (k:=h9.length) (e:=113) (R:=5) (ay:=true) (bF:=88) (z:= .agg #[.bool false,.slice none 0 0,.bool false,.slice none 0 0,.slice none 0 0]) (ad:=j4) (xs:=a5) (a:=p) (by simpa using Ef) (by simpa using Nf) (by simpa using Nf.j1) (by simp) (fun aF dC u y ak h=>h.kept ak (by decide) (by decide)) (by simp) (by simp) (by simp) (by simp) (by simp) (by rfl) (by rfl) (by first | rfl | simp[flat,hg]) (by rfl) (by decide) (by decide) (by decide) (by omega) (by omega) ?_
       intro ajR alC agA T2 pB EX
       simp at EX
       simp
       refine aV (nJ n (b6 k6)) _ _ _ (by rw[Wi];exact VV.2) ⟨k6,ui,a5++[p],rfl,pB _ (Nat.le_refl _) tM,xr.other EX (by decide) (by decide) fun u x h=>h.kept EX (by decide),by simpa using T2,AQ,xQ,E7,?_⟩
       intro q av
       rcases List.mem_append.1 av with av | av
       ·exact A8 q av
       ·rw[List.mem_singleton.1 av];exact Bj
   ·have TS:¬0<L-dv a5:=fun h=>ae (by
     have:¬(L-dv a5<=0):=Rat.not_le.2 h
     have:=mt zf.1 this
     omega)
    simp[bd]
    exact aC _ _ ⟨bu.aw (bK.aw mX),a5,ln.end aJ TS,A8,(b7.ext (ad:=bH h9.length 113 5 true j4) u7 mX).row⟩
end Go.dq
end
section
set_option maxRecDepth 8000
set_option maxHeartbeats 1000000
namespace Go.dq
open Go.Proofs
open Go.Proofs.Tryz (prog)
attribute [-simp] il jk k3
def gE(n m:Nat)(t:List (List Rat)):Rat:=if(dG (dU t) n).1<(dG (dU (fp m t)) m).1 then(dG (dU (fp m t)) m).1 else(dG (dU t) n).1
theorem PJ{n m:Nat}{t:List (List Rat)}:(dG (dU t) n).1<=gE n m t/\(dG (dU (fp m t)) m).1<=gE n m t:=by
 unfold gE
 split
 ·rename_i h;exact⟨Rat.le_of_lt h,Rat.le_refl⟩
 ·rename_i h;exact⟨Rat.le_refl,Rat.not_lt.1 h⟩
theorem fs.fp{n m:Nat}{t:List (List Rat)}(h:fs n m t):fs m n (fp m t):=by
 refine⟨by simp[Go.dq.fp],fun r al=>?_⟩
 unfold Go.dq.fp at al
 rw[List.mem_map]at al
 obtain⟨k,-,rfl⟩:=al
 simp[iV,h.len]
theorem uQ{n m:Nat}{t:List (List Rat)}(h:fs n m t){i k:Nat}(af:i<n)(ak:k<m):b6 (fp m t) k i=b6 t i k:=by
 unfold b6 fp
 rw[List.getElem?_map,List.getElem?_range ak]
 simp only[Option.map_some,Option.getD_some]
 unfold iV
 rw[List.getElem?_map]
 obtain⟨r,a0,-⟩:=h.at af
 rw[a0]
 rfl
theorem iK.fp{D m:Nat}{t:List (List Rat)}(h:iK D t):iK D (fp m t):=fun r al q av=>by
 unfold Go.dq.fp at al
 rw[List.mem_map]at al
 obtain⟨k,-,rfl⟩:=al
 unfold iV at av
 rw[List.mem_map]at av
 obtain⟨dW,fO,rfl⟩:=av
 cases ak:dW[k]? with
 | none=>exact fa.zero D
 | some y=>exact h dW fO y (List.mem_of_getElem? ak)
theorem y6{n m:Nat}{t:List (List Rat)}(h:fs n m t){i:Nat}(af:i<n):dU t i=bY m (b6 t i):=by
 obtain⟨r,a0,-,-,-,e8⟩:=h.at af
 rw[<-e8,dU,a0]
 rfl
theorem PL{n m:Nat}{t:List (List Rat)}(h:fs n m t){i:Nat}(af:i<n):bY m (b6 t i)<=gE n m t:=by
 rw[<-y6 h af];exact Rat.le_trans (BX _ af) PJ.1
theorem PK{n m:Nat}{t:List (List Rat)}(h:fs n m t){k:Nat}(ak:k<m):bY n (fun i=>b6 t i k)<=gE n m t:=by
 have e:bY n (fun i=>b6 t i k)=dU (fp m t) k:=by
  rw[y6 h.fp ak]
  exact hp fun i af=>(uQ h af ak).symm
 rw[e];exact Rat.le_trans (BX _ ak) PJ.2
def fy(n:Nat):List Rat:=List.replicate n 0
def oV(n m:Nat)(t:List (List Rat))(top:Rat)(i:Nat):List Rat:=((t[i]?.getD [])++fy n).set (m+i) (top-bY m (b6 t i))
def si(n m:Nat)(t:List (List Rat))(top:Rat)(k:Nat):List Rat:=(fy m++iV t k).set k (top-bY n (fun i=>b6 t i k))
theorem KY(n k:Nat):(fy n)[k]?.getD 0=0:=by
 unfold fy
 rw[List.getElem?_replicate]
 split<;>rfl
theorem abd{n m:Nat}{t:List (List Rat)}{top:Rat}(h:fs n m t){i k:Nat}(af:i<n)(ak:k<n+m):(oV n m t top i)[k]?.getD 0=gY n m (b6 t) top i k:=by
 obtain⟨r,a0,-,bI,cj,-⟩:=h.at af
 unfold oV gY
 rw[a0]
 simp only[Option.getD_some,if_pos af]
 by_cases i_:k<m
 ·rw[if_pos i_,List.getElem?_set_ne (by omega),List.getElem?_append_left (by omega),cj]
 ·rw[if_neg i_]
  by_cases hy:k=m+i
  ·subst hy
   rw[if_pos rfl,List.getElem?_set_self (by simp[fy];omega)]
   rfl
  ·rw[if_neg hy,List.getElem?_set_ne (by omega),List.getElem?_append_right (by omega),KY]
theorem abe{n m:Nat}{t:List (List Rat)}{top:Rat}(h:fs n m t){i k:Nat}(af:i<m)(ak:k<n+m):(si n m t top i)[k]?.getD 0=gY n m (b6 t) top (n+i) k:=by
 unfold si gY
 rw[if_neg (by omega)]
 have qE:(fy m).length=m:=by simp[fy]
 rw[Nat.add_sub_cancel_left]
 by_cases i_:k<m
 ·rw[if_pos i_]
  by_cases hy:k=i
  ·subst hy
   rw[if_pos rfl,List.getElem?_set_self (by simp[fy];omega)]
   rfl
  ·rw[if_neg hy,List.getElem?_set_ne (by omega),List.getElem?_append_left (by omega),KY]
 ·rw[if_neg i_,List.getElem?_set_ne (by omega),List.getElem?_append_right (by omega),qE]
  have:(iV t i)[k-m]?.getD 0=b6 (fp m t) i (k-m):=by simp[b6,fp,List.getElem?_range af]
  rw[this,uQ h (by omega) af]
theorem ags{n m:Nat}{r:List Rat}(h:r.length=m):(fy (n+m)).take 0++r.take (n+m)++(fy (n+m)).drop (0+(r.take (n+m)).length)=r++fy n:=by
 rw[List.take_of_length_le (l:=r) (by omega),h]
 simp[fy]
theorem agt{n m:Nat}{r:List Rat}(h:r.length=n):(fy (n+m)).take m++r.take n++(fy (n+m)).drop (m+(r.take n).length)=fy m++r:=by
 rw[List.take_of_length_le (l:=r) (by omega),h]
 have:n+m-(m+n)=0:=by omega
 simp[fy,this]
theorem G0{t:List (List Rat)}{S i:Nat}{r:List Rat}{f uR:Nat->List Rat}(ar:t.length=S)(af:i<S)(h:∀a,a<S->t[a]?=some (f a))(al:uR i=r)(aB:∀a,a<S->a≠i->uR a=f a):(t.set i r).length=S/\∀a,a<S->(t.set i r)[a]?=some (uR a):=by
 refine⟨by simp[ar],fun a aL=>?_⟩
 by_cases jQ:a=i
 ·subst jQ;rw[List.getElem?_set_self (by omega),al]
 ·rw[List.getElem?_set_ne (by omega),h a aL,aB a aL jQ]
theorem acj{n m D:Nat}{t:List (List Rat)}(h:fs n m t)(aJ:0<n)(hm:0<m)(aX:iK D t):fa D (gE n m t):=by
 have key:∀{n m:Nat} {t:List (List Rat)},fs n m t->0<n->iK D t->fa D (dG (dU t) n).1:=fun{n m t} h aJ aX=>by
  obtain⟨a0,a4⟩:=tT (dU t) n
  rw[a0,y6 h (by omega)]
  exact fa.sum fun k _=>aX.b6 _ k
 unfold gE
 split
 ·exact key h.fp hm aX.fp
 ·exact key h aJ aX
theorem ab3{n m D:Nat}{t:List (List Rat)}(aX:iK D t){top:Rat}(bM:fa D top)(i k:Nat):fa D (gY n m (b6 t) top i k):=by
 unfold gY
 split
 ·split
  ·exact aX.b6 i k
  ·split
   ·exact bM.sub (fa.sum fun j _=>aX.b6 i j)
   ·exact fa.zero D
 ·split
  ·split
   ·exact bM.sub (fa.sum fun j _=>aX.b6 j k)
   ·exact fa.zero D
  ·exact aX.b6 _ _
theorem ab4{n m D:Nat}{t B:List (List Rat)}{top:Rat}(aD:fs n m t)(aX:iK D t)(bM:fa D top)(bD:B.length=n+m)(kS:∀a,a<n+m->B[a]?=some (if a<n then oV n m t top a else if a<n+m then si n m t top (a-n)else fy (n+m))):
  fs (n+m) (n+m) B/\iK D B/\∀i k,i<n+m->k<n+m->b6 B i k=gY n m (b6 t) top i k:=by
 have he:∀i k,i<n+m->k<n+m->b6 B i k=gY n m (b6 t) top i k:=fun i k af ak=>by
  unfold b6
  rw[kS i af]
  simp only[Option.getD_some]
  by_cases o:i<n
  ·rw[if_pos o];exact abd aD o ak
  ·rw[if_neg o,if_pos af]
   have:=abe (top:=top) aD (i:=i-n) (by omega) ak
   rw[show n+(i-n)=i by omega]at this
   exact this
 have ej:fs (n+m) (n+m) B:=⟨bD,fun r al=>by
  obtain⟨a,aL⟩:=List.mem_iff_getElem?.1 al
  have oo:a<n+m:=by have:=(cJ.1 aL).1;omega
  rw[kS a oo]at aL
  simp only[Option.some.injEq]at aL
  rw[<-aL]
  by_cases o:a<n
  ·rw[if_pos o]
   obtain⟨dW,a0,-,bI,-⟩:=aD.at o
   simp[oV,a0,bI,fy];omega
  ·rw[if_neg o,if_pos oo]
   simp[si,fy,iV,aD.len];omega⟩
 refine⟨ej,fun r al q av=>?_,he⟩
 obtain⟨i,af,pw⟩:=ej.mem al
 obtain⟨dW,a0,-,bI,cj,-⟩:=ej.at af
 have:dW=r:=by rw[pw]at a0;exact(Option.some.inj a0).symm
 subst this
 obtain⟨k,ak⟩:=List.mem_iff_getElem?.1 av
 have gB:k<n+m:=by have:=(cJ.1 ak).1;omega
 have:=cj k
 rw[ak]at this
 simp only[Option.getD_some]at this
 rw[this,he i k af gB]
 exact ab3 aX bM i k
theorem ab5{v:Value}{t:List (List Rat)}{n m N D:Nat}{H:ab}(bf:hX H v t)(aD:fs n m t)(aJ:0<n)(hm:0<m)(nv:n<10000)(l9:m<10000)(aH:∀i k,i<n->k<m->0<=b6 t i k)(aX:iK D t)(gV:my D N (gE n m t)):
  aO prog 68 [.agg #[v]] H (fun u H1=>Ext H H1/\∃w s,u= .agg #[w]/\hX H1 w s/\fs (n+m) (n+m) s/\iK D s/\∀i k,i<n+m->k<n+m->b6 s i k=gY n m (b6 t) (gE n m t) i k):=by
 refine aO.b9 fun Q aC=>?_
 have me:=aD.len
 obtain⟨fg,gK,pv,rU,M0,yd⟩:=aD.at aJ
 have ja:∀r∈t,r.length<65536:=fun r h=>by have:=aD.row r h;omega
 have yn:=GY aD aX gV aH fun i af=>PL aD af
 have rI:=aD.fp
 have po:iK D (fp m t):=aX.fp
 have ym:=GY rI po gV (fun k i ak af=>by rw[uQ aD af ak];exact aH i k af ak) fun k ak=>by
  have:=PK aD ak
  rw[hp fun i af=>uQ aD af ak]
  exact this
 apply Zb (by simp)
 obtain⟨a,c,rfl⟩:=Row.len bf
 simp[Jv]
 have bu:Ext H (H++[.dead,.dead]):=Ext.more H (by simp)
 refine aT.mk (BR (bf.ext bu) me) ?_
 rintro u H1 ⟨bq,rfl⟩
 refine⟨bq,?_⟩
 simp
 refine aT.mk (yU (bf.ext (bu.aw bq)) gK rU) ?_
 rintro u aS ⟨bl,rfl⟩
 have jY:=bu.aw (bq.aw bl)
 simp
 refine aT.mk (PM (m:=m) (bf.ext jY) (by omega) (by omega) aD.row (by omega)) ?_
 rintro u bN ⟨bK,cn,rfl,je⟩
 simp
 refine dI.mk (by obtain⟨a,c,rfl⟩:=Row.len je;rfl) ?_
 simp
 have ch:Ext bN (bN++[.dead]):=Ext.dead bN
 have Xq:=bK.aw ch
 have r1:=jY.aw Xq
 refine aT.mk (BZ (N:=N) (bf.ext r1) (by omega) (by omega) ja yn gV.bits) ?_
 rintro u b5 ⟨cP,um,rfl,BH⟩
 have BL:=r1.aw cP
 simp
 refine c2.mk BH.whole ?_
 simp
 have cu:=Ext.dead b5
 have pC:=ch.aw (cP.aw cu)
 have aY:=yY yn (t:=t) (n:=n) (by omega) (by omega)
 have ak:=yY ym (t:=fp m t) (n:=m) (by rw[rI.len];omega) (by rw[rI.len];omega)
 have WT:=rI.len
 rw[me]at BH
 have nC:hX (b5++[.dead]) cn (fp m t):=je.ext pC
 refine cc.join (by kernel_rfl) (fun lN lP c6=>Ext (b5++[.dead]) c6/\cf c6 (lP 6) (gE n m t)) ?_ ?_
 ·rintro K aV-
  simp
  refine aT.mk (BZ (N:=N) nC (by omega) (by omega) (fun r h=>by have:=rI.row r h;omega) ym gV.bits) ?_
  rintro u c6 ⟨cR,ae4,rfl,r0⟩
  rw[WT]at r0
  simp
  refine c2.mk r0.whole ?_
  simp
  have cW:=Ext.dead c6
  refine aT.mk (Cd (N:=N) (r0.ext cW) (BH.ext (cu.aw (cR.aw cW))) ak aY gV.bits) ?_
  rintro u fz ⟨dy,rfl⟩
  simp
  refine bs.bZ (fun ae=>?_) (fun ae=>?_)
  ·have aZ:=Kc ae
   simp
   refine c2.mk r0.whole ?_
   refine aV _ _ _ ⟨cR.aw (cW.aw dy),?_⟩
   unfold gE
   rw[if_pos aZ]
   simpa using r0.ext (cW.aw dy)
  ·have aZ:=Ke ae
   refine aV _ _ _ ⟨cR.aw (cW.aw dy),?_⟩
   unfold gE
   rw[if_neg aZ]
   simpa using BH.ext (cu.aw (cR.aw (cW.aw dy)))
 rintro lN lP c6 ⟨cR,mf⟩
 simp at mf
 have yz:=BL.aw (cu.aw cR)
 have va:=bf.ext yz
 have r0:=nC.ext cR
 have Nc:dh N (gE n m t):=by
  unfold gE
  split
  ·exact ak
  ·exact aY
 have jx:IntKind.i64.wrap ((n:Int)+(m:Int))=((n+m:Nat):Int):=by rw[b8 (by omega) (by omega)];simp
 simp[jx]
 refine zm (e:=120) (R:=1) (bF:=24) (ay:=false) (n:=n+m) (eK:= .i64) (cX:= .i64) (z:= .slice none 0 0) (ad:=hc) (a:= .slice none 0 0) (by simp) (by simp) (by simp) (by rfl) (by rfl) (by simp) (Ho _ _ _) (by simp) (by simp) (by decide) (by decide) (by omega) (fun aF=>rfl) ?_
 intro lC lD eV eW cW
 have xY:0<c6.length:=by have:=Ext.len yz;have:=Ext.len cR;simp at this;omega
 have Un:=eC.Ol (e:=80) (R:=4) (ay:=true) (ad:=cf) xY eW
 simp
 refine ck (ad:=hc) (xs:=List.replicate (n+m) (.slice none 0 0)) (by simpa using eW.row) (by simp) ?_
 simp
 have Xx:∀a,(List.replicate (n+m) ([]:List Rat))[a]?=if a<n+m then some []else none:=fun a=>by rw[List.getElem?_replicate]
 refine c7.range (by kernel_rfl) (n+m) (by omega) (by simp) (by rfl) (by simp) (by decide) (by decide) (fun i wC uw fz=>Ext c6 fz/\∃B us,eC c6.length 120 80 4 true cf fz (.slice lC (n+m) lD) B us/\B.length=n+m/\∀a,a<n+m->B[a]?=some (if a<i then fy (n+m)else[])) ?_ ?_ ?_
 ·exact⟨cW,_,_,Un,by simp,fun a aL=>by rw[Xx,if_pos aL];simp⟩
 ·rintro i wC uw fz af pd ⟨dy,B,us,xu,bD,kS⟩ K aV
  simp at pd
  simp[pd]
  refine aT.mk (Cf (n:=0) (by omega) (by omega)) ?_
  rintro z k9 ⟨gL,aM⟩
  refine zl (e:=80) (R:=4) (ay:=true) (z:= .agg #[.bool false,.slice none 0 0,.bool false,.slice none 0 0]) (ad:=cf) (a:=((0:Int):Rat)) (fun aF J=>by simpa using aM.ext J) (by simpa using aM.whole) (by simp) (by simp) (by simp) (by rfl) (by first | rfl | simp[flat,hg]) (by rfl) (by decide) (by decide) ?_
  intro alO iS Ec gq
  simp[jx]
  refine aT.mk (aa7 (ad:=cf) (n:=n+m) Ec.row (by omega) (fun H u y h=>h.whole) (fun H aF dC u y ak h=>h.kept ak (by decide))) ?_
  rintro Qu im ⟨gr,u5⟩
  have NF:=gL.aw (gq.aw gr)
  have VQ:=Ext.len dy
  have aiX:=Ext.len (gL.aw gq)
  have kC:=xu.ext NF
  have FD:=u5.j1
  have kY:us.length=n+m:=by rw[xu.len,bD]
  refine kp (k:=c6.length) (e:=120) (R:=1) (ay:=false) (n:=i) (ad:=hc) (xs:=us) (a:=Qu) (by simpa using kC.own) (by simp) (by omega) (by simp[hc]) (by simpa using FD) (by simp) (fun _ _ _ _ _ h=>h) (by simp) (by simp) (by simp) (by decide) ?_
  rintro tY kM l1 iA ps aiY-
  simp at l1 ps
  have rP:=eC.aaL (jF:=iS.length) kC (i:=i) (nL:=List.replicate (n+m) ((0:Int):Rat)) (by omega) (fun b aH ag=>(u5.ge ag aH).1) (fun j u b hu ag aH=>by have:=xu.lt j u b hu ag aH;omega) (by decide) (u5.le (by omega)) l1 ps (fun u x h=>h.kept ps (by decide))
  refine aV _ _ _ (by simp[pd]) ⟨iA _ (Nat.le_refl _) (dy.aw NF),_,_,rP,?_⟩
  refine G0 (uR:=fun a=>if a<i+1 then fy (n+m)else[]) bD af kS (by simp[fy]) fun a aL jQ=>?_
  by_cases o:a<i
  ·simp[o,show a<i+1 by omega]
  ·simp[o,show¬a<i+1 by omega]
 ·rintro wC uw fz pd ⟨dy,B,us,xu,bD,kS⟩
  have Tx:∀a,a<n+m->B[a]?=some (if a<0 then oV n m t (gE n m t) a else fy (n+m)):=fun a aL=>by rw[kS a aL,if_pos aL,if_neg (Nat.not_lt_zero a)]
  simp
  refine c7.range (by kernel_rfl) n (by omega) (by simp) (by rfl) (by simp) (by decide) (by decide) (fun i Hw HA k9=>Ext c6 k9/\∃B us,eC c6.length 120 80 4 true cf k9 (.slice lC (n+m) lD) B us/\B.length=n+m/\∀a,a<n+m->B[a]?=some (if a<i then oV n m t (gE n m t) a else fy (n+m))) ?_ ?_ ?_
  ·exact⟨dy,B,us,xu,bD,Tx⟩
  ·rintro i Hw HA k9 af xd ⟨gL,B,us,vd,bD,kS⟩ K aV
   simp at xd
   have xa:=kS i (by omega)
   rw[if_neg (Nat.lt_irrefl i)]at xa
   refine Exists.elim (vd.wg xa) fun wo hu=>?_
   refine Exists.elim (aD.at af) fun lG al=>?_
   have pw:=al.1
   have Fe:=al.2.2.1
   have Ff:=al.2.2.2.2
   have kY:us.length=n+m:=by rw[vd.len,bD]
   have Uh:=va.ext gL
   have qE:(fy (n+m)).length=n+m:=by simp[fy]
   simp[xd]
   refine cv (ad:=hc) (xs:=us) (n:=i) (a:=wo) (e:=120) (R:=1) (ay:=false) (by simpa using vd.own.row) (by simp) hu.1 (by simp) (by simp) (by simp) (by decide) ?_
   rintro y2 qZ rfl
   simp
   refine cv (ad:=jo) (xs:=t) (n:=i) (a:=lG) (e:=120) (R:=1) (ay:=false) (by simpa using Uh) (by simp) pw (by simp) (by simp) (by simp) (by decide) ?_
   intro y3 G9 WX
   refine ss (e:=80) (R:=4) (ay:=true) (ad:=cf) (xs:=fy (n+m)) (bS:=lG) (u:=qZ) (j:=0) (m:=n+m) (k:=c6.length) hu.2 (by simpa[qE]using hu.2.sub) (by omega) (by simpa using WX) (fun u y h=>h.whole) (fun aF dC u y ak h=>h.kept ak (by decide)) (by simp) (by simp) (by simp) (by decide) (by decide) ?_
   rintro kM l1 iA ps- -
   rw[ags Fe]at l1
   have tf:=vd.inner hu.1 (by decide) ps l1 (fun u x h=>h.kept ps (by decide))
   have tN:=iA _ (Nat.le_refl _) gL
   have Em:=va.ext tN
   have ix:IntKind.i64.wrap ((m:Int)+(i:Int))=((m+i:Nat):Int):=by rw[b8 (by omega) (by omega)];simp
   simp[xd]
   refine cv (ad:=hc) (xs:=us) (n:=i) (a:=qZ) (e:=120) (R:=1) (ay:=false) (by simpa using tf.own.row) (by simp) hu.1 (by simp) (by simp) (by simp) (by decide) ?_
   rintro B7 G_ rfl
   simp[ix]
   refine aT.mk (yR (j:=i) Em pw (by omega) (by omega) (yn lG al.2.1).1 (yn lG al.2.1).2 gV.bits) ?_
   rintro Hm kN ⟨hN,yx⟩
   refine⟨hN,?_⟩
   simp
   refine aT.mk (Gx (N:=N) (mf.ext (tN.aw hN)) yx Nc (yn.sum al.2.1) gV.bits) ?_
   rintro Qv sH ⟨kh,yy⟩
   refine⟨kh,?_⟩
   have pA:=hN.aw kh
   have Eo:=tf.ext pA
   have Ed:=b7.ext (ad:=bH c6.length 80 4 true cf) l1 pA
   refine kp (k:=c6.length) (e:=80) (R:=4) (ay:=true) (n:=m+i) (ad:=cf) (xs:=lG++fy n) (a:=gE n m t-hB lG) (by simpa using Ed) (by simp) (by simp[fy];omega) (by simpa using yy) (by simpa using yy.whole) (by simp) (fun aF dC u y ak h=>h.kept ak (by decide)) (by simp) (by simp) (by simp) (by decide) ?_
   rintro OI zH xl qB tm VM-
   simp at xl tm
   have xq:=Eo.inner hu.1 (by decide) tm xl (fun u x h=>h.kept tm (by decide))
   rw[List.set_set]at xq
   simp
   refine aV _ _ _ (by simp[xd]) ⟨qB _ (Nat.le_refl _) (tN.aw pA),_,us,xq,?_⟩
   refine G0 (uR:=fun a=>if a<i+1 then oV n m t (gE n m t) a else fy (n+m)) bD (by omega) kS ?_ fun a aL jQ=>?_
   ·simp[oV,pw,Ff]
   ·by_cases o:a<i
    ·simp[o,show a<i+1 by omega]
    ·simp[o,show¬a<i+1 by omega]
  ·rintro Hw HA k9 xd ⟨gL,B,us,vd,bD,kS⟩
   have Tw:∀a,a<n+m->B[a]?=some (if a<n then oV n m t (gE n m t) a else if a<n+0 then si n m t (gE n m t) (a-n)else fy (n+m)):=fun a aL=>by
    rw[kS a aL]
    by_cases o:a<n
    ·simp[o]
    ·simp[o]
   simp
   refine c7.range (by kernel_rfl) m (by omega) (by simp) (by rfl) (by simp) (by decide) (by decide) (fun i sE q8 im=>Ext c6 im/\∃B us,eC c6.length 120 80 4 true cf im (.slice lC (n+m) lD) B us/\B.length=n+m/\∀a,a<n+m->B[a]?=some (if a<n then oV n m t (gE n m t) a else if a<n+i then si n m t (gE n m t) (a-n)else fy (n+m))) ?_ ?_ ?_
   ·exact⟨gL,B,us,vd,bD,Tw⟩
   ·rintro i sE q8 im af l0 ⟨gr,B,us,kC,bD,kS⟩ K aV
    simp at l0
    have xa:=kS (n+i) (by omega)
    rw[if_neg (by omega),if_neg (by omega)]at xa
    refine Exists.elim (kC.wg xa) fun wo hu=>?_
    refine Exists.elim (rI.at af) fun lG al=>?_
    have pw:=al.1
    have Fe:=al.2.2.1
    have Ff:=al.2.2.2.2
    have kY:us.length=n+m:=by rw[kC.len,bD]
    have Ui:=r0.ext gr
    have qE:(fy (n+m)).length=n+m:=by simp[fy]
    have ix:IntKind.i64.wrap ((n:Int)+(i:Int))=((n+i:Nat):Int):=by rw[b8 (by omega) (by omega)];simp
    simp[l0,ix]
    refine cv (ad:=hc) (xs:=us) (n:=n+i) (a:=wo) (e:=120) (R:=1) (ay:=false) (by simpa using kC.own.row) (by simp) hu.1 (by simp) (by simp) (by simp) (by decide) ?_
    rintro y2 qZ rfl
    simp
    refine CE (e:=80) (R:=4) (ay:=true) (ad:=cf) (xs:=fy (n+m)) (l:=m) (h:=n+m) (k:=c6.length) (by simpa using hu.2) (by simp) (by simp) (by decide) (by simp[dN]) (by simp[eY,qE]) (by omega) (by omega) ?_
    intro alA ajr mc
    simp[qE]at mc
    simp
    refine cv (ad:=jo) (xs:=fp m t) (n:=i) (a:=lG) (e:=120) (R:=1) (ay:=false) (by simpa using Ui) (by simp) pw (by simp) (by simp) (by simp) (by decide) ?_
    intro tY zt yr
    refine ss (e:=80) (R:=4) (ay:=true) (ad:=cf) (xs:=fy (n+m)) (bS:=lG) (u:=qZ) (j:=m) (m:=n) (k:=c6.length) hu.2 (by simpa[qE]using mc) (by omega) (by simpa using yr) (fun u y h=>h.whole) (fun aF dC u y ak h=>h.kept ak (by decide)) (by simp) (by simp) (by simp) (by decide) (by decide) ?_
    rintro kM l1 iA ps- -
    rw[agt Fe]at l1
    have tf:=kC.inner hu.1 (by decide) ps l1 (fun u x h=>h.kept ps (by decide))
    have tN:=iA _ (Nat.le_refl _) gr
    have Em:=r0.ext tN
    simp[l0,ix]
    refine cv (ad:=hc) (xs:=us) (n:=n+i) (a:=qZ) (e:=120) (R:=1) (ay:=false) (by simpa using tf.own.row) (by simp) hu.1 (by simp) (by simp) (by simp) (by decide) ?_
    rintro B7 G_ rfl
    simp
    refine aT.mk (yR (j:=i) Em pw (by omega) (by omega) (ym lG al.2.1).1 (ym lG al.2.1).2 gV.bits) ?_
    rintro Hm kN ⟨hN,yx⟩
    refine⟨hN,?_⟩
    simp
    refine aT.mk (Gx (N:=N) (mf.ext (tN.aw hN)) yx Nc (ym.sum al.2.1) gV.bits) ?_
    rintro Qv sH ⟨kh,yy⟩
    refine⟨kh,?_⟩
    have pA:=hN.aw kh
    have Eo:=tf.ext pA
    have Ed:=b7.ext (ad:=bH c6.length 80 4 true cf) l1 pA
    refine kp (k:=c6.length) (e:=80) (R:=4) (ay:=true) (n:=i) (ad:=cf) (xs:=fy m++lG) (a:=gE n m t-hB lG) (by simpa using Ed) (by simp) (by simp[fy];omega) (by simpa using yy) (by simpa using yy.whole) (by simp) (fun aF dC u y ak h=>h.kept ak (by decide)) (by simp) (by simp) (by simp) (by decide) ?_
    rintro OI zH xl qB tm VM-
    simp at xl tm
    have xq:=Eo.inner hu.1 (by decide) tm xl (fun u x h=>h.kept tm (by decide))
    rw[List.set_set]at xq
    have U9:lG=iV t i:=by
     have:(fp m t)[i]?=some (iV t i):=by simp[fp,List.getElem?_range af]
     rw[this]at pw
     exact(Option.some.inj pw).symm
    have Bo:hB lG=bY n (fun j=>b6 t j i):=by
     rw[Ff];exact hp fun j aY=>uQ aD aY af
    simp
    refine aV _ _ _ (by simp[l0]) ⟨qB _ (Nat.le_refl _) (tN.aw pA),_,us,xq,?_⟩
    refine G0 (uR:=fun a=>if a<n then oV n m t (gE n m t) a else if a<n+(i+1)then si n m t (gE n m t) (a-n)else fy (n+m)) bD (by omega) kS ?_ fun a aL jQ=>?_
    ·rw[if_neg (by omega),if_pos (by omega),Nat.add_sub_cancel_left]
     unfold si
     rw[<-U9,Bo]
    ·by_cases o:a<n
     ·simp[o]
     ·by_cases aa:a<n+i
      ·simp[o,aa,show a<n+(i+1) by omega]
      ·simp[o,aa,show¬a<n+(i+1) by omega]
   ·rintro sE q8 im l0 ⟨gr,B,us,kC,bD,kS⟩
    have dL:=kC.row
    simp[bd]
    have Vg:=ab4 aD aX (acj aD aJ hm aX) bD kS
    exact aC _ _ ⟨yz.aw gr,_,B,rfl,dL,Vg⟩
def dX(H:ab)(v:Value)(p:List Nat×List Int):Prop:=∃a n c,v= .agg #[.string (b2 p.1),.slice a n c]/\Row 3 1 false IR H (.slice a n c) p.2
instance:b7 dX:=⟨fun⟨a,n,c,h,o⟩ J=>⟨a,n,c,h,b7.ext (ad:=Row _ _ _ IR) o J⟩⟩
theorem dX.j1{H:ab}{v:Value}{p:List Nat×List Int}(h:dX H v p):Whole prog 93 v:=by
 obtain⟨a,n,c,rfl,-⟩:=h
 exact⟨by rfl,by simp[Value.cells,Value.oneCell'],by simp[eS]⟩
theorem dX.kept{H aF:ab}{e:Nat}{s v:Value}{p:List Nat×List Int}(h:dX H v p)(ak:Kept H aF s e)(aa:3≠e):dX aF v p:=by
 obtain⟨a,n,c,rfl,a4⟩:=h
 exact⟨a,n,c,rfl,a4.kept ak aa fun _ _ h=>h⟩
section
variable {P:Program} {r:List bG} {F:Fr} {H:ab} {Q:Fr->ab->Prop} {α:Type}
theorem zo{eE:Bool}{d1 d2 t b1 cY e R bF k:Nat}{ay:Bool}{s x:Operand}{z:Value}{ad:ab->Value->α->Prop}{xs:List α}{a:α}{ax:bb ((⟨eE,none,some d1,.buildSlice t 1 #[(0,x)]⟩:bG)::ap d2 b1 cY s (T d1)::r) Q}(cw:bH k e R ay ad H (aq F s) xs)(aL:ad H (aq F x) a)
  (hw:Whole P e (aq F x))(fG:∀v,aq (a2 F d1 v) s=aq F s)(hJ:∀aF dC u y,Kept H aF dC e->ad H u y->ad aF u y)
  (bM:P.underlying t=some (.slice e))(hu:P.underlying b1=some (.slice e))(J:fQ P cY=true)(ao:bA P e=some R)(ea:dr P e=some ay)(ag:bytes? P e=some bF)(aM:dD P e=some z)(dS:flat z=true)(dd:z.cells.size=R)(cV:0<R)(rW:R<=1000)
  (dZ:0<bF)(bC:(xs.length+1)*bF<=140737488355328)(ak:k<=H.length)
  (K:∀p ef ez aF,bH k e R ay ad aF (.slice ef (xs.length+1) ez) (xs++[a])->(∀cE:ab,cE.length<=k->Ext cE H->Ext cE aF)->Kept H aF (aq F s) e->ba P r Q .mk (a2 (a2 F d1 p) d2 (.slice ef (xs.length+1) ez)) aF):
  ba P ((⟨eE,none,some d1,.buildSlice t 1 #[(0,x)]⟩:bG)::ap d2 b1 cY s (T d1)::r) Q ax F H:=
 uc cw aL hw fG hJ bM hu J ao ea ag aM dS dd cV rW dZ bC ak fun p au aF mH a0 a4=>by
  have ar:=mH.len
  rw[List.length_append,List.length_singleton]at ar
  obtain⟨ef,ez,rfl⟩:=ar
  exact K p ef ez aF mH a0 a4
end
theorem acw{d t d2 n:Nat}{x i:Operand}{r:List bG}{F:Fr}{H:ab}{Q:Fr->ab->Prop}{xs:List (Rat×List Int)}{a:Rat×List Int}{ax:bb (bg d t x i::aE d2 113 (T d)::r) Q}(br:Row 113 5 true j4 H (aq F x) xs)(af:aq F i= .int .i64 (n:Int))(aL:xs[n]?=some a)
  (bM:fi prog t=some 113)(K:∀p s1 b4 cB cm s2 cM cL cI eM eQ,cf H (.agg #[.bool s1,.slice b4 cB cm,.bool s2,.slice cM cL cI]) a.1->Row 3 1 false IR H (.slice eM a.2.length eQ) a.2->ba prog r Q .mk (a2 (a2 F d p) d2 (.agg #[.bool s1,.slice b4 cB cm,.bool s2,.slice cM cL cI,.slice eM a.2.length eQ])) H):ba prog (bg d t x i::aE d2 113 (T d)::r) Q ax F H:=
 cv br af aL bM (by rfl) (by rfl) (by decide) fun p u ⟨s1,b4,cB,cm,s2,cM,cL,cI,eM,hn,eQ,hu,o,aa⟩=>by
  subst hu
  obtain⟨fC,dY,he⟩:=aa.len
  simp at he
  obtain⟨rfl,rfl,rfl⟩:=he
  exact K p s1 b4 cB cm s2 cM cL cI eM eQ o aa
theorem acs(N:Nat)(h:N<=10000):2^N<=10^4000:=by
 have o:=sf 2 N 10000 (by decide) h
 have aa:=Gs 2 5 2000 10000 (by decide)
 have aA:=Gs 10 2 2000 4000 (by decide)
 have bj:=Gt (2^5) (10^2) 2000 (by decide)
 rw[aA]
 exact Nat.le_trans o (by rw[aa];exact bj)
theorem Kr{n N:Nat}(h:n<2^N)(bP:N<=10000):(dec n).length<=4000:=by
 unfold dec
 split
 ·decide
 ·rw[List.length_reverse]
  exact O6 n 4000 (Nat.lt_of_lt_of_le h (acs N bP))
theorem dh.B4{N:Nat}{q:Rat}(h:dh N q)(bP:N<=10000):ia q:=⟨Kr h.1 bP,.inr (Kr h.2 bP)⟩
theorem kP.congr{n:Nat}{B k5:Nat->Nat->Rat}{L:Rat}(h:kP n B L)(e:∀i k,i<n->k<n->k5 i k=B i k):kP n k5 L:=
 ⟨fun i k af ak=>by rw[e i k af ak];exact h.iC i k af ak,fun i af=>by rw[<-h.row i af];exact hp fun k ak=>e i k af ak,fun k ak=>by rw[<-h.rk k ak];exact hp fun i af=>e i k af ak⟩
theorem sD.congr{n:Nat}{A B:Nat->Nat->Rat}{L:Rat}{a5:List (Rat×List Int)}(h:sD n A L a5)(e:∀i k,i<n->k<n->B i k=A i k):sD n B L a5:=
 ⟨h.parts,fun i k af ak=>by rw[h.sum i k af ak,e i k af ak],h.len,h.nj⟩
def ze(n m:Nat)(p:Rat×List Int):List Nat×List Int:=(fH p.1,j7 n m p.2)
theorem abz{v:Value}{t:List (List Rat)}{n m N D:Nat}{H:ab}(bf:hX H v t)(aD:fs n m t)(aJ:0<n)(hm:0<m)(nv:n<10000)(l9:m<10000)(aH:∀i k,i<n->k<m->0<=b6 t i k)(aX:iK D t)(gV:my D N (gE n m t))(bP:N<=10000):
  aO prog 38 [.agg #[v]] H (fun u H1=>Ext H H1/\∃w a5,u= .tuple #[w,.int .i64 0]/\zO n m (b6 t) (gE n m t) a5/\(∀p∈a5,fa D p.1)/\Row 93 2 true dX H1 w (a5.map fun p=>(fH p.1,p.2))):=by
 refine aO.b9 fun Q aC=>?_
 have me:=aD.len
 obtain⟨fg,gK,pv,rU,M0,yd⟩:=aD.at aJ
 apply Za (by simp)
 obtain⟨a,c,rfl⟩:=Row.len bf
 simp[Ju]
 have bu:Ext H (H++[.dead]):=Ext.dead H
 refine aT.mk (ab5 (bf.ext bu) aD aJ hm nv l9 aH aX gV) ?_
 rintro u H1 ⟨bq,a6,s,rfl,ao,Vf,Vt,L4⟩
 have VW:kP (n+m) (b6 s) (gE n m t):=(ab2 aH (fun i af=>PL aD af) (fun k ak=>PK aD ak)).congr L4
 try simp
 refine aT.mk (RZ (N:=N) ao Vf (by omega) (by omega) VW Vt gV) ?_
 rintro u aS ⟨bl,a5,vt,Mw,tt⟩
 have Wk:=(vt.congr fun i k af ak=>(L4 i k af ak).symm).aaD
 have jY:=bu.aw (bq.aw bl)
 have ic:=bf.ext jY
 have iM:0<aS.length:=by have:=Ext.len jY;have:=Ext.len (bq.aw bl);simp at this;omega
 refine ck (ad:=j4) (xs:=a5) (by simpa using tt) (by simp) ?_
 try simp
 have Vk:a5.length<=(n+m)*(n+m):=vt.nj
 have aiK:(n+m)*(n+m)<=20000*20000:=Nat.mul_le_mul (by omega) (by omega)
 refine c7.range (by kernel_rfl) a5.length (by omega) (by simp) (by rfl) (by simp) (by decide) (by decide) (fun i c_ en bN=>Ext aS bN/\bH aS.length 93 2 true dX bN (c_ 4) ((a5.take i).map (ze n m))) ?_ ?_ ?_
 ·exact⟨Ext.refl _,by simpa using bH.nil _ _ _ _ _ _⟩
 ·rintro i c_ en bN af xe ⟨bK,ib⟩ K aV
  simp at xe ib
  refine Exists.elim (⟨_,bz af⟩:∃p,a5[i]?=some p) fun p aU=>?_
  have jz:=List.mem_of_getElem? aU
  have nw:=(vt.parts p jz).2
  have g4:=(vt.parts p jz).1
  have cV:dh N p.1:=gV.R (Mw p jz) (Rat.le_of_lt g4) (by
   rw[<-vt.len];exact(Gn fun p aU=>(vt.parts p aU).1).2 p jz)
  simp[xe]
  refine acw (xs:=a5) (n:=i) (a:=p) (by simpa using b7.ext (ad:=Row _ _ _ j4) tt bK) (by simp[xe]) aU (by simp) ?_
  intro gj s1 b4 cB cm s2 cM cL cI eM eQ tu VD
  try simp
  have fu:=Ext.dead bN
  refine aT.mk (Pd (tu.ext fu) cV (by omega)) ?_
  rintro u b5 ⟨cP,hu⟩
  rw[if_pos (cV.B4 bP)]at hu
  subst hu
  have mX:=fu.aw cP
  try simp
  have cu:=Ext.dead b5
  have En:=ic.ext (bK.aw (mX.aw cu))
  refine aT.mk (yU En gK rU) ?_
  rintro u c6 ⟨cR,rfl⟩
  refine⟨cR,?_⟩
  have FJ:=mX.aw (cu.aw cR)
  have va:=ic.ext (bK.aw FJ)
  have iN:=nw.len
  try simp
  refine qY (e:=3) (R:=1) (ay:=false) (ad:=IR) (xs:=p.2) (l:=0) (h:=m) (by simpa using b7.ext (ad:=Row _ _ _ IR) VD FJ) (by simp) (by simp) (by decide) (by simp[dN]) (by simp[eY]) (by omega) (by omega) ?_
  intro alD FA
  have SC:(p.2.drop 0).take (m-0)=p.2.take m:=by simp
  rw[SC]at FA
  refine ck (ad:=IR) (xs:=p.2.take m) (by simpa using FA) (by simp) ?_
  have rM:(p.2.take m).length=m:=by simp;omega
  simp[rM]
  refine c7.range (by kernel_rfl) m (by omega) (by simp[iN]) (by rfl) (by simp) (by decide) (by decide) (fun j wC uw fz=>Ext c6 fz/\∃ef ez,uw 9= .agg #[.string (b2 (fH p.1)),.slice ef j ez]/\bH c6.length 3 1 false IR fz (.slice ef j ez) ((j7 n m p.2).take j)) ?_ ?_ ?_
  ·exact⟨Ext.refl _,none,0,by simp,by simpa using bH.nil _ _ _ _ _ _⟩
  ·rintro j wC uw fz aY pd ⟨dy,ef,ez,u3,l2⟩ agD TP
   simp at pd u3
   refine Exists.elim (nw.d_ j (by omega)) fun x J=>?_
   have bq:=J.1
   have Nv:=J.2
   have Wo:(p.2.take m)[j]?=some (x:Int):=by rw[List.getElem?_take_of_lt aY];exact Nv
   have Va:(j7 n m p.2)[j]?=some (if(n:Int)<=(x:Int)then(-1:Int)else(x:Int)):=by rw[Du,if_pos aY,Nv];rfl
   have gd:(j7 n m p.2).length=m:=nw.cut.len
   try simp[pd]
   refine cv (ad:=IR) (xs:=p.2.take m) (n:=j) (a:=(x:Int)) (e:=3) (R:=1) (ay:=false) (by simpa using b7.ext (ad:=Row _ _ _ IR) FA dy) (by simp[pd]) Wo (by simp) (by simp) (by simp) (by decide) ?_
   rintro tX zs rfl
   try simp
   have vc:=va.ext dy
   refine cc.join (by kernel_rfl) (fun q5 uu iS=>Ext fz iS/\q5 11= .int .i64 (if(n:Int)<=(x:Int)then(-1:Int)else(x:Int))) ?_ ?_
   ·rintro agB Lr-
    try simp
    refine aT.mk (BR vc me) ?_
    rintro u iS ⟨gq,rfl⟩
    try simp
    refine bs.bZ (fun ae=>?_) (fun ae=>?_)
    ·try simp
     refine Lr _ _ _ ⟨gq,?_⟩
     rw[if_pos (by omega)];simp
    ·refine Lr _ _ _ ⟨gq,?_⟩
     rw[if_neg (by omega)];simp
   ·rintro q5 uu iS ⟨gq,jL⟩
    simp at jL
    have Ec:=b7.ext (ad:=bH c6.length 3 1 false IR) l2 gq
    have xY:=Ext.len (dy.aw gq)
    simp[u3,jL]
    refine zo (k:=c6.length) (e:=3) (R:=1) (ay:=false) (bF:=8) (z:= .int .i64 0) (ad:=IR) (xs:=(j7 n m p.2).take j) (a:=(if(n:Int)<=(x:Int)then(-1:Int)else(x:Int))) (by simpa using Ec) (by simp[IR,jL]) (by simp[jL];split<;>exact jn _) (by simp) (fun _ _ _ _ _ h=>h) (by simp) (by simp) (by simp) (by simp) (by simp) (by rfl) (by rfl) (by rfl) (by rfl) (by decide) (by decide) (by decide) (by simp;omega) (by omega) ?_
    intro y3 Q3 Ru im u5 gr aiT
    have gf:((j7 n m p.2).take j).length=j:=by simp;omega
    rw[gf]at u5
    simp[u3,gf]
    refine TP _ _ _ (by simp[pd]) ⟨gr _ (Nat.le_refl _) (dy.aw gq),Q3,Ru,by simp,?_⟩
    rw[List.take_add_one,Va]
    exact u5
  ·rintro wC uw fz pd ⟨dy,ef,ez,u3,l2⟩
   simp at u3
   have gd:(j7 n m p.2).length=m:=nw.cut.len
   have T4:bH c6.length 3 1 false IR fz (.slice ef m ez) (j7 n m p.2):=by
    rw[<-List.take_of_length_le (l:=j7 n m p.2) (i:=m) (by omega)];exact l2
   have FK:=FJ.aw dy
   have xo:dX fz (.agg #[.string (b2 (fH p.1)),.slice ef m ez]) (ze n m p):=⟨ef,m,ez,rfl,T4.row⟩
   have ai1:=Ext.len (bK.aw FK)
   simp[u3]
   refine uc (k:=aS.length) (e:=93) (R:=2) (ay:=true) (bF:=40) (z:= .agg #[.string ⟨#[]⟩,.slice none 0 0]) (ad:=dX) (xs:=(a5.take i).map (ze n m)) (a:=ze n m p) (by simpa using b7.ext (ad:=bH _ _ _ _ dX) ib FK) (by simpa using xo) (by simpa using xo.j1) (by simp) (fun aF dC u y ak h=>h.kept ak (by decide)) (by simp) (by simp) (by simp) (by simp) (by simp) (by rfl) (by rfl) (by first | rfl | simp[flat,hg]) (by rfl) (by decide) (by decide) (by decide) (by simp;omega) (by omega) ?_
   intro tY aeU kM l1 iA ps
   try simp
   refine aV _ _ _ (by simp[xe]) ⟨iA _ (Nat.le_refl _) (bK.aw FK),?_⟩
   rw[List.take_add_one,aU,List.map_append]
   simpa using l1
 ·rintro c_ en bN xe ⟨bK,ib⟩
  simp at ib
  have dL:=ib.row
  have e:a5.map (ze n m)=(a5.map fun p=>(p.1,j7 n m p.2)).map fun p=>(fH p.1,p.2):=by
   rw[List.map_map];rfl
  rw[e]at dL
  simp[bd]
  refine aC _ _ ⟨jY.aw bK,_,_,rfl,Wk,fun p aU=>?_,dL⟩
  rw[List.mem_map]at aU
  obtain⟨q,av,rfl⟩:=aU
  exact Mw q av
theorem Ce{t:List (List Int)}{n m:Nat}(aJ:t.length=n)(hm:∀r∈t,r.length=m):fs n m (da t):=
 ⟨by simp[da,aJ],fun r al=>by
  unfold da at al
  rw[List.mem_map]at al
  obtain⟨dW,fO,rfl⟩:=al
  simpa using hm dW fO⟩
theorem tZ(t:List (List Int))(i k:Nat):b6 (da t) i k=(((t[i]?.getD [])[k]?.getD 0:Int):Rat):=by
 unfold b6 da
 rw[List.getElem?_map]
 cases al:t[i]? with
 | none=>simp
 | some r=>
  simp only[Option.map_some,Option.getD_some,List.getElem?_map]
  cases r[k]?<;>simp
theorem aaZ(t:List (List Int)):iK 1 (da t):=fun r al q av=>by
 unfold da at al
 rw[List.mem_map]at al
 obtain⟨dW,fO,rfl⟩:=al
 rw[List.mem_map]at av
 obtain⟨x,J,rfl⟩:=av
 exact fa.int x
theorem jJ.iC{t:List (List Int)}(h:jJ t)(i k:Nat):0<=b6 (da t) i k:=by
 rw[tZ]
 have:(0:Int)<=(t[i]?.getD [])[k]?.getD 0:=by
  cases al:t[i]? with
  | none=>simp
  | some r=>
   simp only[Option.getD_some]
   cases J:r[k]? with
   | none=>simp
   | some x=>exact((h r (List.mem_of_getElem? al)).2 x (List.mem_of_getElem? J)).1
 exact_mod_cast this
theorem Cy{t:List (List Int)}{n m:Nat}(aJ:t.length=n)(hm:(t[0]?.getD []).length=m)(h:jJ t)(ar:t.length<=1000):gE n m (da t)=(((ir t).1:Int):Rat)/\(ir t).1.natAbs<=1000000000:=by
 have key:∀{t:List (List Int)} (n:Nat),(dG (dU (da t)) n).1=((dG (dU (da t)) n).1.num:Rat):=fun{t} n=>by
  rw[(tT _ n).1,GG,Rat.num_intCast]
 have hs:=BY h n
 have lf:=BY (h.fp (m:=m) ar) m
 unfold gE ir
 rw[O2,aJ,hm]
 simp only
 split
 ·exact⟨key m,lf⟩
 ·exact⟨key n,hs⟩
theorem aaE{v:Value}{t:List (List Int)}{H:ab}(bf:kt H v t)(ar:t.length<65536)(al:∀r∈t,r.length<65536):
  aO prog 10 [v] H (fun u H1=>Ext H H1/\(g0 t->∃w a5,u= .tuple #[w,.int .i64 0]/\zO t.length (t[0]?.getD []).length (b6 (da t)) (((ir t).1:Int):Rat) a5/\(∀p∈a5,fa 1 p.1)/\Row 93 2 true dX H1 w (a5.map fun p=>(fH p.1,p.2)))/\(¬g0 t->u= .tuple #[.slice none 0 0,.int .i64 1])):=by
 refine aO.b9 fun Q aC=>?_
 obtain⟨m,hm⟩:∃m,m=(t[0]?.getD []).length:=⟨_,rfl⟩
 apply Y1 (by simp)
 simp[Jm]
 refine aT.mk (Hk bf (by omega) fun r h=>by have:=al r h;omega) ?_
 rintro u H1 ⟨bq,rfl⟩
 simp
 refine bs.mk (fun an=>?good) (fun an=>?bad)
 case bad=>
  simp at an
  simp[bd]
  exact aC _ _ ⟨bq,fun h=>absurd h an,fun _=>rfl⟩
 simp at an
 have ao:=an.small
 have eG:=an.len
 have v1:=an.1
 have v2:=an.2.1
 have mo:=an.2.2.1
 have v4:=an.2.2.2.1
 rw[<-hm]at eG mo v4
 have mf:=Cy rfl hm.symm ao (by omega)
 simp
 refine aT.mk (GB (bf.ext bq).row (by omega) al fun r h x J=>by have:=(ao r h).2 x J;omega) ?_
 rintro _ aS ⟨bl,JR,Ki,rfl,rv⟩
 simp
 refine aT.mk (abz (n:=t.length) (m:=m) (N:=64) (D:=1) rv (Ce rfl eG) (by omega) (by omega) (by omega) (by omega) (fun i k _ _=>ao.iC i k) (aaZ t) (by rw[mf.1];exact my.int (by have:=mf.2;omega) (by decide) (by decide)) (by decide)) ?_
 rintro u bN ⟨bK,w,a5,rfl,tr,rS,Wh⟩
 rw[mf.1]at tr
 simp[bd]
 refine aC _ _ ⟨bq.aw (bl.aw bK),fun _=>⟨w,a5,rfl,?_,rS,Wh⟩,fun h=>absurd an h⟩
 rw[<-hm]
 exact tr
theorem XF{v:Value}{l:List Int}{x:Int}{H:ab}(dj:dV H v l)(ar:l.length<65536):
  aO prog 103 [v,.int .i64 x] H (fun u H1=>H1=H/\∃r:Int,u= .int .i64 r/\(0<=r↔x∈l)):=by
 refine aO.b9 fun Q aC=>?_
 apply Zm (by simp)
 obtain⟨a,c,rfl⟩:=Row.len dj
 simp[Jz]
 refine ck (ad:=IR) (xs:=l) (by simpa using dj) (by simp) ?_
 simp
 refine c7.range (by kernel_rfl) l.length (by omega) (by simp) (by rfl) (by simp) (by decide) (by decide) (fun i bR c4 aS=>aS=H/\x∉l.take i) ?_ ?_ ?_
 ·exact⟨rfl,by simp⟩
 ·rintro i bR c4 aS af jt ⟨rfl,J⟩ K aV
  simp at jt
  refine Exists.elim (⟨_,bz af⟩:∃y,l[i]?=some y) fun y aI=>?_
  simp[jt]
  refine cv (ad:=IR) (xs:=l) (n:=i) (a:=y) (e:=3) (R:=1) (ay:=false) (by simpa using dj) (by simp) aI (by simp) (by simp) (by simp) (by decide) ?_
  rintro eT nQ rfl
  simp
  refine bs.bZ (fun ae=>?_) (fun ae=>?_)
  ·simp[jt,bd]
   exact aC _ _ ⟨rfl,_,rfl,by simp;rw[ae];exact List.mem_of_getElem? aI⟩
  ·try simp
   refine aV _ _ _ (by simp[jt]) ⟨rfl,?_⟩
   rw[List.take_add_one,aI,List.mem_append]
   simp[J,ae]
 ·rintro bR c4 aS jt ⟨rfl,J⟩
  simp at J
  simp[bd]
  exact aC _ _ ⟨rfl,-1,rfl,by simp[J]⟩
theorem RF{v:Value}{l:List Int}{x:Int}{H:ab}(dj:dV H v l)(ar:l.length<65536):
  aO prog 76 [v,.int .i64 x] H (fun u H1=>H1=H/\u= .bool (decide (x∈l))):=by
 refine aO.b9 fun Q aC=>?_
 apply Zj (by simp)
 simp[Jy]
 refine aT.mk (XF dj ar) ?_
 rintro u H1 ⟨rfl,r,rfl,al⟩
 simp[bd]
 exact aC _ _ ⟨rfl,by simp[al]⟩
def ha(l:List Nat):Rat:=Rat.divInt (fT l) (et l)
def p0(n m:Nat)(p:List Nat×List Int):Prop:=(hC p.1/\0<ha p.1/\p.2.length=m)/\nY n m p.2
def parts(a8:List (List Nat×List Int)):List (Rat×List Int):=a8.map fun p=>(ha p.1,p.2)
def sJ(n:Nat)(l:List Int)(k:Nat):Prop:=∃x,l[k]?=some x/\ -1<=x/\x<n/\(0<=x->x∉l.take k)
theorem Kh{l:List Int}{x:Int}:(∀k,l[k]?=some x->x∉l.take k)↔l.count x<=1:=by
 constructor
 ·intro h
  by_cases hm:x∈l
  ·obtain⟨k,ak⟩:=List.mem_iff_getElem?.1 hm
   have gB:=(cJ.1 ak).1
   have o:=h k ak
   have aa:x∉l.drop (k+1):=fun aD=>by
    obtain⟨j,aY⟩:=List.mem_iff_getElem?.1 aD
    rw[List.getElem?_drop]at aY
    refine h _ aY (List.mem_iff_getElem?.2 ⟨k,?_⟩)
    rw[List.getElem?_take_of_lt (by omega)]
    exact ak
   have e:l=l.take k++l[k]::l.drop (k+1):=by rw[List.getElem_cons_drop gB,List.take_append_drop]
   rw[e,List.count_append,List.count_cons,List.count_eq_zero.2 o,List.count_eq_zero.2 aa]
   split<;>omega
  ·rw[List.count_eq_zero.2 hm];omega
 ·intro h k ak hm
  have gB:=(cJ.1 ak).1
  have e:l=l.take k++l[k]::l.drop (k+1):=by rw[List.getElem_cons_drop gB,List.take_append_drop]
  have J:l[k]=x:=(cJ.1 ak).2
  rw[e,List.count_append,List.count_cons,J]at h
  have:=List.count_pos_iff.2 hm
  simp at h
  omega
theorem yK{n m:Nat}{l:List Int}:nY n m l↔l.length=m/\∀k,k<m->sJ n l k:=by
 constructor
 ·intro h
  refine⟨h.len,fun k ak=>?_⟩
  rcases h.Pc k ak with o | ⟨j,aY,o⟩
  ·exact⟨-1,o,by omega,by omega,fun h=>by omega⟩
  ·exact⟨j,o,by omega,by omega,fun _=>Kh.2 (h.inj j aY) k o⟩
 ·rintro⟨ar,h⟩
  refine⟨ar,fun k ak=>?_,fun j aY=>Kh.1 fun k ak=>?_⟩
  ·obtain⟨x,o,aa,aA,bj⟩:=h k ak
   by_cases J:x= -1
   ·exact .inl (J▸o)
   ·exact .inr ⟨x.toNat,by omega,by rw[o];congr 1;omega⟩
  ·obtain⟨x,o,aa,aA,bj⟩:=h k (by have:=(cJ.1 ak).1;omega)
   rw[o]at ak
   have:=Option.some.inj ak
   subst this
   exact bj (by omega)
theorem ace:(10:Nat)^4000<=2^13288:=aaQ 10 500 2 1661 8 4000 13288 (by decide) (by decide) (by decide+kernel)
theorem KC{l:List Nat}(h:hU l):c8 l<2^13288:=by
 have o:=qa h.1
 have aa:=sf 10 l.length 4000 (by decide) h.2.2.2
 exact Nat.lt_of_lt_of_le o (Nat.le_trans aa ace)
theorem Hf{l:List Nat}(h:hC l):dh 13288 (ha l):=by
 obtain⟨o,aa,aA,bj⟩:=h
 have aD:et l≠0/\et l<2^13288:=by
  unfold et
  cases hu:kr l with
  | none=>exact⟨by decide,Gu 13288 (by decide)⟩
  | some u=>
   obtain⟨a0,a4⟩:=aa u hu
   exact⟨by simp only;omega,KC a0⟩
 refine dh.divInt aD.1 ?_ aD.2
 unfold fT
 have:=KC o
 split
 ·rw[Int.natAbs_neg,Int.natAbs_natCast];exact this
 ·rw[Int.natAbs_natCast];exact this
def gO(s:Nat):Nat:=13290*s+1
theorem PD:dh (gO 0) 0:=⟨by simp[gO],by simp[gO]⟩
theorem GW{s:Nat}{a b:Rat}(aL:dh (gO s) a)(ag:dh 13288 b):dh (gO (s+1)) (a+b):=(aL.add ag).mono (by unfold gO;omega)
theorem ON(a5:List (Rat×List Int))(p:Rat×List Int):dv (a5++[p])=dv a5+p.1:=by
 rw[OM];simp only[dv];grind
theorem OS(a5:List (Rat×List Int))(p:Rat×List Int)(i k:Nat):e2 (a5++[p]) i k=e2 a5 i k+gu p i k:=by
 rw[OR];simp only[e2];grind
theorem Gm{a8:List (List Nat×List Int)}{s:Nat}{p:List Nat×List Int}(h:a8[s]?=some p):parts (a8.take (s+1))=parts (a8.take s)++[(ha p.1,p.2)]:=by
 unfold parts
 rw[List.take_add_one,h,List.map_append];rfl
theorem zk{a8:List (List Nat×List Int)}(h:∀p∈a8,hC p.1):dh (gO a8.length) (dv (parts a8))/\∀i k,dh (gO a8.length) (e2 (parts a8) i k):=by
 induction a8 with
 | nil=>exact⟨PD,fun _ _=>PD⟩
 | cons p a8 a1=>
  obtain⟨o,aa⟩:=a1 fun q av=>h q (by simp[av])
  have aA:=Hf (h p (by simp))
  refine⟨?_,fun i k=>?_⟩
  ·have:=GW o aA
   rw[Rat.add_comm]at this
   exact this
  ·have aU:dh 13288 (gu (ha p.1,p.2) i k):=by
    unfold gu
    split
    ·exact aA
    ·exact⟨Nat.two_pow_pos 13288,Gu 13288 (by decide)⟩
   have:=GW (aa i k) aU
   rw[Rat.add_comm]at this
   exact this
theorem dV.whole{H:ab}{u:Value}{y:List Int}(h:dV H u y):Whole prog 34 u:=by
 obtain⟨a,c,rfl⟩:=Row.len h
 exact⟨by rfl,by rfl,by simp[eS]⟩
theorem dV.kept{H aF:ab}{e:Nat}{s u:Value}{y:List Int}(h:dV H u y)(ak:Kept H aF s e)(cF:3≠e):dV aF u y:=Row.kept h ak cF fun _ _ h=>h
theorem PR{d t d2 n:Nat}{x i:Operand}{r:List bG}{F:Fr}{H:ab}{Q:Fr->ab->Prop}{xs:List (List Nat×List Int)}{a:List Nat×List Int}{ax:bb (bg d t x i::aE d2 93 (T d)::r) Q}(br:Row 93 2 true dX H (aq F x) xs)(af:aq F i= .int .i64 (n:Int))(aL:xs[n]?=some a)
  (bM:fi prog t=some 93)(K:∀p eM eQ,dV H (.slice eM a.2.length eQ) a.2->ba prog r Q .mk (a2 (a2 F d p) d2 (.agg #[.string (b2 a.1),.slice eM a.2.length eQ])) H):ba prog (bg d t x i::aE d2 93 (T d)::r) Q ax F H:=
 cv br af aL bM (by rfl) (by rfl) (by decide) fun p u ⟨eM,hn,eQ,hu,aa⟩=>by
  subst hu
  obtain⟨fC,dY,he⟩:=aa.len
  simp at he
  obtain⟨rfl,rfl,rfl⟩:=he
  exact K p eM eQ aa
def n8(a8:List (List Nat×List Int))(s:Nat)(p:Rat×List Int)(i j k:Nat):Rat:=e2 (parts (a8.take s)) j k+if k<i then gu p j k else 0
theorem Su(a8:List (List Nat×List Int))(s:Nat)(p:Rat×List Int)(j k:Nat):n8 a8 s p 0 j k=e2 (parts (a8.take s)) j k:=by
 unfold n8
 rw[if_neg (Nat.not_lt_zero k)]
 exact Rat.add_zero _
theorem Ss{a8:List (List Nat×List Int)}{s m:Nat}{p:List Nat×List Int}(aU:a8[s]?=some p){j k:Nat}(ak:k<m):n8 a8 s (ha p.1,p.2) m j k=e2 (parts (a8.take (s+1))) j k:=by
 unfold n8
 rw[if_pos ak,Gm aU,OS]
theorem Kw{a8:List (List Nat×List Int)}{s i:Nat}{p:Rat×List Int}{x:Int}(J:p.2[i]?=some x)(j k:Nat):n8 a8 s p (i+1) j k=n8 a8 s p i j k+if k=i/\x=(j:Int)then p.1 else 0:=by
 unfold n8 gu
 by_cases o:k<i
 ·rw[if_pos o,if_pos (by omega),if_neg (by omega:¬(k=i/\x=(j:Int)))]
  exact(Rat.add_zero _).symm
 ·by_cases aa:k=i
  ·subst aa
   rw[if_neg o,if_pos (by omega),J]
   simp only[Option.some.injEq,true_and]
   split<;>grind
  ·rw[if_neg o,if_neg (by omega),if_neg (fun h=>aa h.1)]
   exact(Rat.add_zero _).symm
theorem St{a8:List (List Nat×List Int)}{s i:Nat}{p:List Nat×List Int}(h:∀j k,dh (gO s) (e2 (parts (a8.take s)) j k))(aU:hC p.1)(j k:Nat):dh (gO (s+1)) (n8 a8 s (ha p.1,p.2) i j k):=by
 unfold n8
 have o:=Hf aU
 refine GW (h j k) ?_
 unfold gu
 have aH:dh 13288 (0:Rat):=⟨Nat.two_pow_pos 13288,Gu 13288 (by decide)⟩
 split
 ·split
  ·exact o
  ·exact aH
 ·exact aH
theorem Sv{v:Value}{a8:List (List Nat×List Int)}{n m:Nat}{H:ab}(hZ:Row 93 2 true dX H v a8)(bD:∀p∈a8,Bytes p.1)(hlen:∀p∈a8,p.1.length<4611686018427387904/\p.2.length<65536)(kX:a8.length<=2000)(aJ:0<n)(hm:0<m)(nv:n<1000)(l9:m<1000):
  aO prog 47 [v,.int .i64 n,.int .i64 m] H (fun u H1=>Ext H H1/\∃GX G3 G1 jD b,u= .tuple #[.agg #[.slice GX G3 G1],jD,.bool b]/\Whole prog 80 jD/\(b=true↔(∀p∈a8,p0 n m p)/\a8.length<=1000)/\(b=true->∃B,hX H1 (.slice GX G3 G1) B/\fs n m B/\(∀j k,j<n->k<m->b6 B j k=e2 (parts a8) j k)/\cf H1 jD (dv (parts a8)))):=by
 refine aO.b9 fun Q aC=>?_
 apply Y2 (by simp)
 obtain⟨a,c,rfl⟩:=Row.len hZ
 simp[Jn]
 have bu:Ext H (H++[.dead,.dead]):=Ext.more H (by simp)
 refine zm (e:=3) (R:=1) (bF:=8) (ay:=false) (n:=m) (eK:= .i64) (cX:= .i64) (z:= .int .i64 0) (ad:=IR) (a:=0) (by simp) (by simp) (by simp) (by rfl) (by rfl) (by simp) (jn 0) (by simp) (by simp) (by decide) (by decide) (by omega) (fun aF=>rfl) ?_
 intro Hv agn H1 iW bq
 have ij:dV H1 (.slice Hv m agn) (List.replicate m 0):=iW.row
 refine zl (e:=34) (R:=1) (ay:=false) (z:= .slice none 0 0) (ad:=dV) (a:=List.replicate m 0) (fun aF J=>by simpa using b7.ext (ad:=dV) ij J) (by simpa using ij.whole) (by simp) (by simp) (by simp) (by rfl) (by rfl) (by rfl) (by decide) (by decide) ?_
 intro hq aS gI bl
 simp
 refine aT.mk (aa8 (ad:=dV) (n:=n) gI.row (by omega) (fun H u y h=>h.whole) (fun H aF dC u y ak h=>h.kept ak (by decide))) ?_
 rintro cn bN ⟨bK,ib⟩
 have hv:fK bN cn (List.replicate n (List.replicate m 0)):=ib.row
 simp
 refine aT.mk (O8 hv (by simp;omega) (fun r h=>by rw[List.mem_replicate]at h;rw[h.2];simp;omega) (fun r h x J=>by rw[List.mem_replicate]at h;rw[h.2,List.mem_replicate]at J;rw[J.2];decide)) ?_
 rintro _ bU ⟨ch,lC,lD,us,rfl,mI⟩
 simp
 refine aT.mk (Cf (n:=0) (by omega) (by omega)) ?_
 rintro BW b5 ⟨cP,Mq⟩
 simp
 refine c2.mk Mq.whole ?_
 rw[List.length_replicate]at mI
 have cu:Ext b5 (b5++[.dead,.dead]):=Ext.more b5 (by simp)
 have pC:=cP.aw cu
 have Ny:=ch.aw pC
 have jZ:=bu.aw (bq.aw (bl.aw bK))
 have Um:=mI.ext pC
 simp
 refine ck (ad:=dX) (xs:=a8) (by simpa using b7.ext (ad:=Row _ _ _ dX) hZ (jZ.aw Ny)) (by simp) ?_
 simp
 have fail:∀jD nW,Whole prog 80 jD->Ext H nW->(¬∀p∈a8,p0 n m p)->Q (.tuple #[.agg #[.slice none 0 0],jD,.bool false]) nW:=fun jD nW hw J gh=>aC _ _ ⟨J,none,0,0,jD,false,rfl,hw,⟨fun h=>(by cases h),fun h=>absurd h.1 gh⟩,fun h=>by cases h⟩
 refine c7.range (by kernel_rfl) a8.length (by omega) (by simp) (by rfl) (by simp) (by decide) (by decide) (fun s lN lP c6=>Ext bN c6/\(∀p∈a8.take s,p0 n m p)/\cf c6 (lP 10) (dv (parts (a8.take s)))/\∃B,eC (bN.length+1) 120 80 4 true cf c6 (.slice lC n lD) B us/\fs n m B/\∀j k,j<n->k<m->b6 B j k=e2 (parts (a8.take s)) j k) ?_ ?_ ?_
 ·refine⟨Ny,by simp,by simpa[parts,dv]using Mq.ext cu,_,Um,Ce (by simp) (fun r h=>by rw[List.mem_replicate]at h;rw[h.2];simp),fun j k aY ak=>?_⟩
  rw[tZ]
  simp[aY,ak,parts,e2]
 ·rintro s lN lP c6 ao xf ⟨cR,x5,qt,B,Er,EJ,AT⟩ K aV
  simp at xf qt
  refine Exists.elim (⟨_,bz ao⟩:∃p,a8[s]?=some p) fun p aU=>?_
  have jz:=List.mem_of_getElem? aU
  have Bi:=bD p jz
  have iN:=hlen p jz
  have Ll:=jZ.aw cR
  have Fm:=zk (a8:=a8.take s) fun q av=>(x5 q av).1.1
  have kf:(a8.take s).length=s:=by simp;omega
  rw[kf]at Fm
  simp[xf]
  refine PR (xs:=a8) (n:=s) (a:=p) (by simpa using b7.ext (ad:=Row _ _ _ dX) hZ Ll) (by simp[xf]) aU (by simp) ?_
  intro oS p2 p7 xV
  simp
  have fu:=Ext.dead c6
  refine aT.mk (aaA Bi iN.1) ?_
  rintro u fz ⟨dy,ajS,(⟨jA,rfl,Wn⟩ | ⟨gh,rfl⟩),s1,b4,cB,cm,s2,cM,cL,cI,rfl⟩
  ·have Xr:=fu.aw dy
   have Bo:cf fz (.agg #[.bool s1,.slice b4 cB cm,.bool s2,.slice cM cL cI]) (ha p.1):=Wn
   have MX:=Hf jA
   simp
   have gL:=Ext.dead fz
   have NC:=Xr.aw gL
   refine cc.join (by kernel_rfl) (fun q5 uu iS=>Ext (fz++[.dead]) iS/\q5 49= .bool (!decide (0<ha p.1/\p.2.length=m))) ?_ ?_
   ·rintro cZ c3-
    simp
    refine aT.mk (Gw (Bo.ext gL)) ?_
    rintro u iS ⟨gq,rfl⟩
    by_cases g4:0<ha p.1
    ·have oJ:¬((if ha p.1<0 then(-1:Int)else if ha p.1=0 then 0 else 1)<=0):=fun h=>Rat.not_lt.2 (zf.1 h) g4
     simp[oJ]
     refine ck (ad:=IR) (xs:=p.2) (by simpa using b7.ext (ad:=dV) xV (NC.aw gq)) (by simp) ?_
     simp
     refine c3 _ _ _ ⟨gq,?_⟩
     simp[g4]
     try omega
    ·have oJ:((if ha p.1<0 then(-1:Int)else if ha p.1=0 then 0 else 1)<=0):=zf.2 (Rat.not_lt.1 g4)
     simp[oJ]
     refine c3 _ _ _ ⟨gq,?_⟩
     simp[g4]
   ·rintro q5 uu iS ⟨gq,Lb⟩
    simp at Lb
    have BM:=NC.aw gq
    have E3:=qt.ext BM
    have Nx:=cR.aw BM
    simp[Lb]
    refine bs.mk (fun ag=>?_) (fun ag=>?_)
    ·simp at ag
     simp[bd]
     refine c2.mk E3.whole ?_
     simp[bd]
     refine fail _ _ E3.whole (jZ.aw Nx) fun ev=>?_
     have:=(ev p jz).1
     rcases ag with ag | ag
     ·exact ag this.2.1
     ·exact ag this.2.2
    ·simp at ag
     have g4:=ag.1
     have x_:=ag.2
     have Wq:=Bo.ext (gL.aw gq)
     have Mj:=b7.ext (ad:=dV) xV BM
     have Uk:=Er.ext BM
     have WQ:=Fm.2
     simp
     refine ck (ad:=IR) (xs:=p.2) (by simpa using Mj) (by simp) ?_
     simp
     refine c7.range (by kernel_rfl) p.2.length (by omega) (by simp) (by rfl) (by simp) (by decide) (by decide) (fun i sE q8 im=>Ext bN im/\(∀k,k<i->sJ n p.2 k)/\cf im (lP 10) (dv (parts (a8.take s)))/\cf im (.agg #[.bool s1,.slice b4 cB cm,.bool s2,.slice cM cL cI]) (ha p.1)/\dV im (.slice p2 p.2.length p7) p.2/\∃B,eC (bN.length+1) 120 80 4 true cf im (.slice lC n lD) B us/\fs n m B/\∀j k,j<n->k<m->b6 B j k=n8 a8 s (ha p.1,p.2) i j k) ?_ ?_ ?_
     ·exact⟨Nx,fun k ak=>by omega,E3,Wq,Mj,B,Uk,EJ,fun j k aY ak=>by rw[AT j k aY ak];exact(Su _ _ _ _ _).symm⟩
     ·rintro i sE q8 im af l0 ⟨gr,vA,vG,yb,xU,B,kC,rE,vv⟩ nb fN
      simp at l0
      refine Exists.elim (⟨_,bz af⟩:∃x,p.2[i]?=some x) fun x J=>?_
      refine cc.join (by kernel_rfl) (fun zE CY o1=>Ext bN o1/\(∀k,k<i+1->sJ n p.2 k)/\cf o1 (lP 10) (dv (parts (a8.take s)))/\cf o1 (.agg #[.bool s1,.slice b4 cB cm,.bool s2,.slice cM cL cI]) (ha p.1)/\dV o1 (.slice p2 p.2.length p7) p.2/\∃B,eC (bN.length+1) 120 80 4 true cf o1 (.slice lC n lD) B us/\fs n m B/\∀j k,j<n->k<m->b6 B j k=n8 a8 s (ha p.1,p.2) (i+1) j k) ?_ ?_
      ·rintro nZ g1 TN
       simp[l0]
       refine cv (ad:=IR) (xs:=p.2) (n:=i) (a:=x) (e:=3) (R:=1) (ay:=false) (by simpa using xU) (by simp[l0]) J (by simp) (by simp) (by simp) (by decide) ?_
       rintro tY zt rfl
       simp[l0]
       refine cc.join (by kernel_rfl) (fun zE CY o1=>o1=im/\∃bad,zE 78= .bool bad/\(bad=true↔(x< -1\/(n:Int)<=x\/(0<=x/\x∈p.2.take i)))) ?_ ?_
       ·rintro wE jO-
        by_cases o:x< -1
        ·simp[o]
         exact jO _ _ _ ⟨rfl,true,by simp,by simp[o]⟩
        ·by_cases aa:(n:Int)<=x
         ·simp[o,aa]
          exact jO _ _ _ ⟨rfl,true,by simp,by simp[aa]⟩
         ·by_cases aA:0<=x
          ·simp[o,aa,aA]
           refine qY (e:=3) (R:=1) (ay:=false) (ad:=IR) (xs:=p.2) (l:=0) (h:=i) (by simpa using xU) (by simp) (by simp) (by decide) (by simp[dN]) (by simp[eY]) (by omega) (by omega) ?_
           intro alB Nj
           have SB:(p.2.drop 0).take (i-0)=p.2.take i:=by simp
           rw[SB]at Nj
           try simp
           refine aT.mk (RF (l:=p.2.take i) Nj (by simp;omega)) ?_
           rintro w kN ⟨rfl,rfl⟩
           try simp
           exact jO _ _ _ ⟨rfl,decide (x∈p.2.take i),by simp,by simp[o,aa,aA]⟩
          ·simp[o,aa,aA]
           exact jO _ _ _ ⟨rfl,false,by simp,by simp[o,aa,aA]⟩
       ·rintro zE CY o1 ⟨rfl,bad,DY,l6⟩
        simp only[hl]at DY
        simp at DY
        have jR:bad=false->sJ n p.2 i:=fun h=>by
         have h:¬(x< -1\/(n:Int)<=x\/(0<=x/\x∈p.2.take i)):=fun cA=>by rw[l6.2 cA]at h;cases h
         exact⟨x,J,by omega,by omega,fun aH hm=>h (.inr (.inr ⟨aH,hm⟩))⟩
        have V6:bad=true->¬sJ n p.2 i:=fun h aY=>by
         have h:=l6.1 h
         obtain⟨y,a0,a4,bI,cj⟩:=aY
         rw[J]at a0
         have:=Option.some.inj a0
         subst this
         rcases h with h | h | ⟨h,hm⟩
         ·omega
         ·omega
         ·exact cj h hm
        simp[DY]
        refine bs.mk (fun ag=>?_) (fun ag=>?_)
        ·simp
         refine c2.mk vG.whole ?_
         simp
         refine TN _ _ _ _ (by simp) ?_
         simp[bd]
         refine fail _ _ vG.whole (jZ.aw gr) fun ev=>?_
         exact V6 ag ((yK.1 (ev p jz).2).2 i (by omega))
        ·have Mk:∀k,k<i+1->sJ n p.2 k:=fun k ak=>by
          by_cases hy:k<i
          ·exact vA k hy
          ·obtain rfl:k=i:=by omega
           exact jR ag
         refine Exists.elim (jR ag) fun y aI=>?_
         have NN:y=x:=by have:=aI.1;rw[J]at this;exact(Option.some.inj this).symm
         have yD:=aI.2.1
         have Xt:=aI.2.2.1
         rw[NN]at yD Xt
         simp
         refine bs.bZ (fun Xm=>?_) (fun Xm=>?_)
         ·refine Exists.elim (⟨x.toNat,by omega⟩:∃j:Nat,x=(j:Int)) fun j aY=>?_
          have mO:j<n:=by omega
          have pq:i<m:=by omega
          refine Exists.elim (rE.get mO pq) fun oU al=>?_
          refine Exists.elim (kC.wg al.1) fun Hc hu=>?_
          have M9:=St (i:=i) (p:=p) WQ jA j i
          rw[<-vv j i mO pq]at M9
          simp[aY]
          refine cv (ad:=hc) (xs:=us) (n:=j) (a:=Hc) (e:=120) (R:=1) (ay:=false) (by simpa using kC.own.row) (by simp[aY]) hu.1 (by simp) (by simp) (by simp) (by decide) ?_
          rintro aaw Ha rfl
          simp[aY,l0]
          refine cv (ad:=hc) (xs:=us) (n:=j) (a:=Ha) (e:=120) (R:=1) (ay:=false) (by simpa using kC.own.row) (by simp[aY]) hu.1 (by simp) (by simp) (by simp) (by decide) ?_
          rintro aax aeQ rfl
          simp[l0]
          refine cv (ad:=cf) (xs:=oU) (n:=i) (a:=b6 B j i) (e:=80) (R:=4) (ay:=true) (by simpa using hu.2.row) (by simp) al.2.1 (by simp) (by simp) (by simp) (by decide) ?_
          intro aay aeR Fu
          simp
          refine aT.mk (Gv (N:=gO (s+1)) (M:=13288) Fu yb M9 MX (by unfold gO;omega)) ?_
          rintro w zI ⟨jf,hw⟩
          refine⟨jf,?_⟩
          have Ep:=kC.ext jf
          have Ee:=b7.ext (ad:=bH (bN.length+1) 80 4 true cf) hu.2 jf
          refine kp (k:=bN.length+1) (e:=80) (R:=4) (ay:=true) (n:=i) (ad:=cf) (xs:=oU) (a:=b6 B j i+ha p.1) (by simpa using Ee) (by simp) (by rw[al.2.2];exact pq) (by simpa using hw) (by simpa using hw.whole) (by simp) (fun aF dC u y ak h=>h.kept ak (by decide)) (by simp) (by simp) (by simp) (by decide) ?_
          rintro aaz CZ xm FG nt VN-
          simp at xm nt
          have ak:∀u x,cf zI u x->cf CZ u x:=fun u x h=>h.kept nt (by decide)
          try simp
          refine g1 _ _ _ ⟨FG _ (by omega) (gr.aw jf),Mk,ak _ _ (vG.ext jf),ak _ _ (yb.ext jf),(b7.ext (ad:=dV) xU jf).kept nt (by decide),B.set j (oU.set i (b6 B j i+ha p.1)),Ep.inner hu.1 (by decide) nt xm ak,rE.set (by rw[List.length_set];exact al.2.2),?_⟩
          intro ek b_ nr lv
          rw[KE al.1 (by rw[al.2.2];exact pq),Kw J,vv ek b_ nr lv,vv j i mO pq]
          by_cases ae:ek=j/\b_=i
          ·obtain⟨rfl,rfl⟩:=ae
           rw[if_pos ⟨rfl,rfl⟩,if_pos ⟨rfl,aY⟩]
          ·rw[if_neg ae,if_neg (by omega)]
           exact(Rat.add_zero _).symm
         ·refine g1 _ _ _ ⟨gr,Mk,vG,yb,xU,B,kC,rE,fun ek b_ nr lv=>?_⟩
          rw[Kw J,vv ek b_ nr lv,if_neg (by omega)]
          exact(Rat.add_zero _).symm
      ·rintro zE CY o1 ⟨nD,VE,V1,Wr,VC,Tv⟩
       exact fN _ _ _ (by simp[l0]) ⟨nD,VE,V1,Wr,VC,Tv⟩
     ·rintro sE q8 im l0 ⟨gr,vA,vG,yb,xU,B,kC,rE,vv⟩
      simp
      refine aT.mk (Gv (N:=gO s) (M:=13288) vG yb Fm.1 MX (by unfold gO;omega)) ?_
      rintro w kM ⟨iA,hw⟩
      simp
      refine c2.mk hw.whole ?_
      try simp
      have WM:p0 n m p:=⟨⟨jA,g4,x_⟩,yK.2 ⟨x_,fun k ak=>vA k (by omega)⟩⟩
      refine aV _ _ _ (by simp[xf]) ⟨gr.aw iA,fun q av=>?_,?_,B,kC.ext iA,rE,fun j k aY ak=>?_⟩
      ·rw[List.take_add_one,aU,List.mem_append]at av
       rcases av with av | av
       ·exact x5 q av
       ·simp at av
        rw[av];exact WM
      ·rw[Gm aU,ON]
       simpa using hw
      ·rw[vv j k aY ak,x_,Ss aU ak]
  ·simp[sw]
   refine c2.mk (qt.ext (fu.aw (dy.aw (Ext.dead fz)))).whole ?_
   simp[bd]
   exact fail _ _ (qt.ext (fu.aw (dy.aw (Ext.dead fz)))).whole (Ll.aw (fu.aw (dy.aw (Ext.dead fz)))) fun ev=>gh (ev p jz).1.1
 ·rintro lN lP c6 xf ⟨cR,x5,qt,B,Er,EJ,AT⟩
  simp at qt
  have dL:=Er.row
  rw[List.take_length]at x5 AT
  simp
  refine ck (ad:=dX) (xs:=a8) (by simpa using b7.ext (ad:=Row _ _ _ dX) hZ (jZ.aw cR)) (by simp) ?_
  simp
  refine c2.mk qt.whole ?_
  simp[bd]
  refine aC _ _ ⟨jZ.aw cR,lC,n,lD,_,_,rfl,qt.whole,?_,fun _=>⟨B,dL,EJ,AT,qt⟩⟩
  constructor
  ·intro h
   simp at h
   exact⟨x5,by omega⟩
  ·intro h
   have:=h.2
   simp
   omega
theorem Kf{a b:Rat}:((if a<b then(-1:Int)else if a=b then 0 else 1)=0)↔a=b:=by
 by_cases o:a<b
 ·simp only[if_pos o]
  constructor
  ·intro h;omega
  ·intro h;rw[h]at o;exact absurd o Rat.lt_irrefl
 ·by_cases aa:a=b
  ·simp[aa]
  ·simp[o,aa]
theorem abq{v w:Value}{t u:List (List Rat)}{n m N M:Nat}{H:ab}(bf:hX H v t)(eJ:hX H w u)(aD:fs n m t)(ox:fs n m u)(aJ:n<65536)(hm:m<65536)(dc:∀i k,i<n->k<m->dh N (b6 t i k))(WN:∀i k,i<n->k<m->dh M (b6 u i k))(bP:N+M+1<=32000000):
  aO prog 50 [.agg #[v],.agg #[w]] H (fun r H1=>Ext H H1/\∃b,r= .bool b/\(b=true↔∀i k,i<n->k<m->b6 t i k=b6 u i k)):=by
 refine aO.b9 fun Q aC=>?_
 have me:=aD.len
 have kY:=ox.len
 apply Y_ (by simp)
 obtain⟨a,c,rfl⟩:=Row.len bf
 obtain⟨cM,cI,rfl⟩:=Row.len eJ
 simp[Jt]
 have bu:Ext H (H++[.dead,.dead]):=Ext.more H (by simp)
 refine ck (ad:=jo) (xs:=t) (by simpa using bf.ext bu) (by simp) ?_
 simp
 refine c7.range (by kernel_rfl) t.length (by omega) (by simp) (by rfl) (by simp) (by decide) (by decide) (fun i bR c4 aS=>Ext H aS/\∀j k,j<i->k<m->b6 t j k=b6 u j k) ?_ ?_ ?_
 ·exact⟨bu,fun j k aY=>by omega⟩
 ·rintro i bR c4 aS af jt ⟨bl,iZ⟩ K aV
  simp at jt
  have fe:i<n:=by omega
  refine Exists.elim (aD.at fe) fun row dL=>?_
  have ja:=dL.2.2.1
  simp[jt]
  refine cv (ad:=jo) (xs:=t) (n:=i) (a:=row) (e:=120) (R:=1) (ay:=false) (by simpa using bf.ext bl) (by simp[jt]) dL.1 (by simp) (by simp) (by simp) (by decide) ?_
  intro eT nQ px
  try simp
  refine ck (ad:=cf) (xs:=row) (by simpa using px) (by simp) ?_
  try simp
  refine c7.range (by kernel_rfl) row.length (by omega) (by simp) (by rfl) (by simp) (by decide) (by decide) (fun k cT dO bU=>Ext aS bU/\∀b_,b_<k->b6 t i b_=b6 u i b_) ?_ ?_ ?_
  ·exact⟨Ext.refl _,fun b_ ak=>by omega⟩
  ·rintro k cT dO bU ak ju ⟨ch,EM⟩ nZ g1
   simp at ju
   have i_:k<m:=by omega
   refine Exists.elim (aD.get fe i_) fun eg ye=>?_
   refine Exists.elim (ox.get fe i_) fun fZ qw=>?_
   have WE:eg=row:=by have:=ye.1;rw[dL.1]at this;exact(Option.some.inj this).symm
   have M1:=ye.2.1
   rw[WE]at M1
   have fu:=Ext.dead bU
   simp[ju]
   refine cv (ad:=cf) (xs:=row) (n:=k) (a:=b6 t i k) (e:=80) (R:=4) (ay:=true) (by simpa using b7.ext (ad:=jo) px ch) (by simp[ju]) M1 (by simp) (by simp) (by simp) (by decide) ?_
   intro iD oX vN
   try simp
   refine c2.mk vN.whole ?_
   simp[jt]
   refine cv (ad:=jo) (xs:=u) (n:=i) (a:=fZ) (e:=120) (R:=1) (ay:=false) (by simpa using eJ.ext (bl.aw (ch.aw fu))) (by simp) qw.1 (by simp) (by simp) (by simp) (by decide) ?_
   intro mj sx mV
   simp[ju]
   refine cv (ad:=cf) (xs:=fZ) (n:=k) (a:=b6 u i k) (e:=80) (R:=4) (ay:=true) (by simpa using mV) (by simp) qw.2.1 (by simp) (by simp) (by simp) (by decide) ?_
   intro qP CP ys
   try simp
   refine aT.mk (OY (vN.ext fu) ys (dc i k fe i_) (WN i k fe i_) bP) ?_
   rintro Qy eV ⟨cW,rfl⟩
   simp
   refine bs.bZ (fun ae=>?_) (fun ae=>?_)
   ·have heq:=Kf.1 ae
    try simp
    refine g1 _ _ _ (by simp[ju]) ⟨ch.aw (fu.aw cW),fun b_ lv=>?_⟩
    by_cases o:b_<k
    ·exact EM b_ o
    ·obtain rfl:b_=k:=by omega
     exact heq
   ·simp[bd]
    refine aC _ _ ⟨bl.aw (ch.aw (fu.aw cW)),false,rfl,⟨fun h=>(by cases h),fun h=>?_⟩⟩
    exact absurd (Kf.2 (h i k fe i_)) ae
  ·rintro cT dO bU ju ⟨ch,EM⟩
   try simp
   refine aV _ _ _ (by simp[jt]) ⟨bl.aw ch,fun j k aY ak=>?_⟩
   by_cases o:j<i
   ·exact iZ j k o ak
   ·obtain rfl:j=i:=by omega
    exact EM k (by omega)
 ·rintro bR c4 aS jt ⟨bl,iZ⟩
  simp[bd]
  exact aC _ _ ⟨bl,true,rfl,⟨fun _ i k af ak=>iZ i k (by omega) ak,fun _=>rfl⟩⟩
def mx(t:List (List Int))(a8:List (List Nat×List Int)):Prop:=((∀p∈a8,p0 t.length (t[0]?.getD []).length p)/\a8.length<=1000)/\∀j k,j<t.length->k<(t[0]?.getD []).length->e2 (parts a8) j k=b6 (da t) j k
theorem SR{t:List (List Int)}(h:jJ t)(i k:Nat):dh 64 (b6 (da t) i k):=by
 rw[tZ]
 refine dh.int ?_ (by decide)
 cases al:t[i]? with
 | none=>simp
 | some r=>
  simp only[Option.getD_some]
  cases J:r[k]? with
  | none=>simp
  | some x=>
   have:=(h r (List.mem_of_getElem? al)).2 x (List.mem_of_getElem? J)
   simp only[Option.getD_some]
   omega
theorem Kv{v w:Value}{t:List (List Int)}{a8:List (List Nat×List Int)}{H:ab}(bf:kt H v t)(ar:t.length<65536)(al:∀r∈t,r.length<65536)(hZ:Row 93 2 true dX H w a8)(bD:∀p∈a8,Bytes p.1)(hlen:∀p∈a8,p.1.length<4611686018427387904/\p.2.length<65536)(kX:a8.length<=2000):
  aO prog 20 [v,w] H (fun u H1=>Ext H H1/\(g0 t->mx t a8->u=if ia (dv (parts a8))then .tuple #[.string (b2 (fH (dv (parts a8)))),.int .i64 0]else .tuple #[.string (b2 []),.int .i64 5])/\(g0 t->¬mx t a8->u= .tuple #[.string (b2 []),.int .i64 2])/\(¬g0 t->u= .tuple #[.string (b2 []),.int .i64 1])):=by
 refine aO.b9 fun Q aC=>?_
 obtain⟨m,hm⟩:∃m,m=(t[0]?.getD []).length:=⟨_,rfl⟩
 apply Y0 (by simp)
 simp[Jl]
 have qJ:({data:= #[]}:ByteArray)=b2 []:=rfl
 refine aT.mk (Hk bf (by omega) fun r h=>by have:=al r h;omega) ?_
 rintro u H1 ⟨bq,rfl⟩
 simp
 refine bs.mk (fun an=>?good) (fun an=>?bad)
 case bad=>
  simp at an
  simp[bd]
  exact aC _ _ ⟨bq,fun h=>absurd h an,fun h=>absurd h an,fun _=>by rw[qJ]⟩
 simp at an
 have ao:=an.small
 have eG:=an.len
 have v1:=an.1
 have v2:=an.2.1
 have mo:=an.2.2.1
 have v4:=an.2.2.2.1
 rw[<-hm]at eG mo v4
 have L0:=Ce rfl eG
 refine Exists.elim (L0.at (i:=0) (by omega)) fun fg gK=>?_
 simp
 refine aT.mk (GB (bf.ext bq).row (by omega) al fun r h x J=>by have:=(ao r h).2 x J;omega) ?_
 rintro _ aS ⟨bl,JR,Ki,rfl,rv⟩
 simp
 have bK:=Ext.dead aS
 refine aT.mk (BR (n:=t.length) (rv.ext bK) (by simp[da])) ?_
 rintro _ bU ⟨ch,rfl⟩
 refine⟨ch,?_⟩
 simp
 refine aT.mk (yU (rv.ext (bK.aw ch)) gK.1 gK.2.2.1) ?_
 rintro _ b5 ⟨cP,rfl⟩
 refine⟨cP,?_⟩
 simp
 have pB:=bK.aw (ch.aw cP)
 have hN:=bq.aw (bl.aw pB)
 refine aT.mk (Sv (n:=t.length) (m:=m) (b7.ext (ad:=Row _ _ _ dX) hZ hN) bD hlen kX (by omega) (by omega) (by omega) (by omega)) ?_
 rintro _ dx ⟨cu,GX,G3,G1,jD,b,rfl,Mr,ag,pj⟩
 refine⟨cu,?_⟩
 have kh:=hN.aw cu
 cases b with
 | false=>
  have gh:¬mx t a8:=fun h=>by
   have:=ag.2 (by rw[hm];exact h.1)
   cases this
  simp
  refine c2.mk Mr ?_
  simp[sw,bd]
  exact aC _ _ ⟨kh.aw (Ext.more dx (by simp)),fun _ h=>absurd h gh,fun _ _=>by rw[qJ],fun h=>absurd an h⟩
 | true=>
  have gC:=ag.1 rfl
  refine Exists.elim (pj rfl) fun B Ap=>?_
  have UP:=Ap.1
  have mJ:=Ap.2.1
  have gJ:=Ap.2.2.1
  have g2:=Ap.2.2.2
  have M7:=zk (a8:=a8) fun q av=>(gC.1 q av).1.1
  have cR:Ext dx (dx++[.dead,.dead]):=Ext.more dx (by simp)
  simp
  refine c2.mk Mr ?_
  simp
  refine cc.join (by kernel_rfl) (fun q6 sG eV=>Ext (dx++[.dead,.dead]) eV/\∃eE,q6 32= .bool eE/\(eE=false↔mx t a8)) ?_ ?_
  ·rintro K aV-
   simp
   refine aT.mk (abq (N:=64) (M:=gO a8.length) (rv.ext (pB.aw (cu.aw cR))) (UP.ext cR) L0 mJ (by omega) (by omega) (fun i k _ _=>SR ao i k) (fun i k af ak=>by rw[gJ i k af ak];exact M7.2 i k) (by unfold gO;omega)) ?_
   rintro _ eV ⟨cW,lf,rfl,kV⟩
   simp
   refine aV _ _ _ ⟨cW,!lf,by simp,?_⟩
   have:(!lf)=false↔lf=true:=by cases lf<;>simp
   rw[this,kV]
   unfold mx
   rw[<-hm]
   constructor
   ·intro h
    exact⟨gC,fun j k aY ak=>by rw[<-gJ j k aY ak,h j k aY ak]⟩
   ·intro h i k af ak
    rw[gJ i k af ak,h.2 i k af ak]
  ·rintro q6 sG eV ⟨cW,eE,K8,qj⟩
   simp at K8
   simp[K8]
   refine bs.mk (fun ag=>?_) (fun ag=>?_)
   ·simp[bd]
    exact aC _ _ ⟨kh.aw (cR.aw cW),fun _ h=>(by rw[qj.2 h]at ag;cases ag),fun _ _=>by rw[qJ],fun h=>absurd an h⟩
   ·have ej:=qj.1 ag
    simp
    refine aT.mk (Pd (N:=gO a8.length) (g2.ext (cR.aw cW)) M7.1 (by unfold gO;omega)) ?_
    rintro _ fz ⟨dy,hu⟩
    have jf:=kh.aw (cR.aw (cW.aw dy))
    by_cases ak:ia (dv (parts a8))
    ·rw[if_pos ak]at hu
     subst hu
     simp[bd]
     exact aC _ _ ⟨jf,fun _ _=>by rw[if_pos ak],fun _ h=>absurd ej h,fun h=>absurd an h⟩
    ·rw[if_neg ak]at hu
     subst hu
     simp[bd]
     exact aC _ _ ⟨jf,fun _ _=>by rw[if_neg ak],fun _ h=>absurd ej h,fun h=>absurd an h⟩
end Go.dq
end
section
namespace Go.dq
def bx:List Nat->Nat
 | []=>0
 | d::aK=>d+10000*bx aK
def eH(aK:List Nat):Prop:=∀d∈aK,d<10000
theorem eH.nil:eH []:=fun d h=>by cases h
theorem eH.snoc{aK:List Nat}{d:Nat}(h:eH aK)(aD:d<10000):eH (aK++[d]):=fun x J=>by
 rcases List.mem_append.1 J with J | J
 ·exact h x J
 ·rw[List.mem_singleton.1 J];exact aD
theorem eH.take{aK:List Nat}(h:eH aK)(n:Nat):eH (aK.take n):=fun x J=>h x (List.mem_of_mem_take J)
theorem eH.get{aK:List Nat}(h:eH aK)(i:Nat):aK[i]?.getD 0<10000:=by
 cases af:aK[i]? with
 | none=>decide
 | some d=>exact h d (List.mem_of_getElem? af)
theorem Qq(a b:List Nat):bx (a++b)=bx a+10000^a.length*bx b:=by
 induction a with
 | nil=>simp[bx]
 | cons x a a1=>
  simp only[List.cons_append,bx,a1,List.length_cons,Nat.pow_succ]
  rw[Nat.mul_add,Nat.mul_comm (10000^a.length) 10000,Nat.mul_assoc]
  omega
theorem wu(a:List Nat)(d:Nat):bx (a++[d])=bx a+10000^a.length*d:=by
 rw[Qq];simp[bx]
theorem sz{aK:List Nat}(h:eH aK):bx aK<10000^aK.length:=by
 induction aK with
 | nil=>simp[bx]
 | cons d aK a1=>
  have o:=a1 fun x J=>h x (by simp[J])
  have aa:=h d (by simp)
  simp only[bx,List.length_cons,Nat.pow_succ]
  omega
theorem Hi(n:Nat):bx (List.replicate n 0)=0:=by
 induction n with
 | zero=>rfl
 | succ n a1=>rw[List.replicate_succ];simp[bx,a1]
def f_(aK:List Nat):Prop:=aK.getLast?≠some 0
theorem f_.nil:f_ []:=by simp[f_]
theorem f_.snoc{aK:List Nat}{d:Nat}(h:d≠0):f_ (aK++[d]):=by simp[f_,h]
theorem f_.le{aK:List Nat}(h:f_ aK)(aJ:aK≠[]):10000^(aK.length-1)<=bx aK:=by
 obtain⟨a,d,rfl⟩:∃a d,aK=a++[d]:=⟨aK.dropLast,aK.getLast aJ,(List.dropLast_concat_getLast aJ).symm⟩
 have aD:d≠0:=fun e=>h (by simp[e])
 rw[wu]
 simp only[List.length_append,List.length_singleton,Nat.add_sub_cancel]
 have:10000^a.length*1<=10000^a.length*d:=Nat.mul_le_mul_left _ (by omega)
 omega
theorem f_.zero{aK:List Nat}(h:f_ aK):bx aK=0↔aK=[]:=by
 constructor
 ·intro aM
  by_cases aJ:aK=[]
  ·exact aJ
  ·have:=h.le aJ
   have:=Nat.pow_pos (n:=aK.length-1) (show 0<10000 by decide)
   omega
 ·rintro rfl;rfl
theorem f_.yT{a b:List Nat}(ag:f_ b)(aL:eH a)(h:a.length<b.length):bx a<bx b:=by
 have o:=ag.le (by intro e;rw[e]at h;simp at h)
 have aa:=sz aL
 have aA:10000^a.length<=10000^(b.length-1):=Nat.pow_le_pow_right (by decide) (by omega)
 omega
theorem f_.len{aK:List Nat}(h:f_ aK){n:Nat}(an:bx aK<10000^n):aK.length<=n:=by
 by_cases aJ:aK=[]
 ·simp[aJ]
 ·have o:=h.le aJ
  by_cases aZ:aK.length<=n
  ·exact aZ
  ·have:10000^n<=10000^(aK.length-1):=Nat.pow_le_pow_right (by decide) (by omega)
   omega
theorem ae1{aK:List Nat}{i:Nat}(af:i<aK.length):bx (aK.take (i+1))=bx (aK.take i)+10000^i*(aK[i]?.getD 0):=by
 rw[List.take_succ_eq_append_getElem af,wu,List.length_take,Nat.min_eq_left (by omega),bz af]
 rfl
theorem wq{aK:List Nat}{i:Nat}(af:i<aK.length):bx (aK.drop i)=aK[i]?.getD 0+10000*bx (aK.drop (i+1)):=by
 rw[List.drop_eq_getElem_cons af,bz af]
 rfl
theorem zw(aK:List Nat)(i:Nat)(af:i<=aK.length):bx aK=bx (aK.take i)+10000^i*bx (aK.drop i):=by
 have:=Qq (aK.take i) (aK.drop i)
 rw[List.take_append_drop,List.length_take,Nat.min_eq_left af]at this
 exact this
theorem Qr{a b:List Nat}(aL:eH a)(ag:eH b)(ar:a.length=b.length){i:Nat}(af:i<a.length)(he:a.drop (i+1)=b.drop (i+1))(aZ:a[i]?.getD 0<b[i]?.getD 0):bx a<bx b:=by
 rw[zw a i (by omega),zw b i (by omega),wq af,wq (by omega:i<b.length),he]
 have o:=sz (aL.take i)
 have aa:(a.take i).length=i:=by simp;omega
 rw[aa]at o
 have aA:10000^i*(a[i]?.getD 0+1+10000*bx (b.drop (i+1)))<=10000^i*(b[i]?.getD 0+10000*bx (b.drop (i+1))):=Nat.mul_le_mul_left _ (by omega)
 have bj:10000^i*(a[i]?.getD 0+1+10000*bx (b.drop (i+1)))=10000^i*(a[i]?.getD 0+10000*bx (b.drop (i+1)))+10000^i:=by
  rw[show a[i]?.getD 0+1+10000*bx (b.drop (i+1))=(a[i]?.getD 0+10000*bx (b.drop (i+1)))+1 by omega,Nat.mul_add];omega
 omega
theorem aeZ{aK:List Nat}{n:Nat}(h:∀i,n<=i->i<aK.length->aK[i]?.getD 0=0):bx (aK.take n)=bx aK:=by
 by_cases aJ:n<=aK.length
 ·rw[zw aK n aJ]
  have:aK.drop n=List.replicate (aK.length-n) 0:=by
   apply List.ext_getElem?
   intro i
   rw[List.getElem?_drop,List.getElem?_replicate]
   by_cases af:n+i<aK.length
   ·have:=h (n+i) (by omega) af
    rw[bz af]at this⊢
    rw[if_pos (by omega)]
    simpa using this
   ·rw[List.getElem?_eq_none (by omega),if_neg (by omega)]
  rw[this,Hi];simp
 ·rw[List.take_of_length_le (by omega)]
end Go.dq
end
section
set_option maxRecDepth 8000
set_option maxHeartbeats 1000000
namespace Go.dq
open Go.Proofs
open Go.Proofs.Tryz (prog)
attribute [-simp] il jk k3
def de(H:ab)(v:Value)(d:Nat):Prop:=v= .int .i64 (d:Int)
instance:b7 de:=⟨fun h _=>h⟩
abbrev j2(H:ab)(v:Value)(aK:List Nat):Prop:=Row 3 1 false de H v aK
theorem j2.ext{H H1:ab}{v:Value}{aK:List Nat}(h:j2 H v aK)(J:Ext H H1):j2 H1 v aK:=b7.ext (ad:=Row _ _ _ de) h J
def e9(s:Bool)(n:Nat):Int:=if s=true then-(n:Int)else n
def ed(H:ab)(v:Value)(z:Int):Prop:=∃s a c aK,v= .agg #[.bool s,.slice a aK.length c]/\j2 H (.slice a aK.length c) aK/\eH aK/\f_ aK/\z=e9 s (bx aK)/\(aK=[]->s=false)
theorem ed.ext{H H1:ab}{v:Value}{z:Int}(h:ed H v z)(J:Ext H H1):ed H1 v z:=by
 obtain⟨s,a,c,aK,o,aa,aA⟩:=h
 exact⟨s,a,c,aK,o,aa.ext J,aA⟩
theorem ed.whole{H:ab}{v:Value}{z:Int}(h:ed H v z):Whole prog 40 v:=by
 obtain⟨s,a,c,aK,rfl,-⟩:=h
 exact⟨by rfl,by simp[Value.cells,Value.oneCell'],by simp[eS]⟩
theorem Cp(s:Bool)(n:Nat):(e9 s n).natAbs=n:=by
 unfold e9;split<;>simp
theorem ed.len{s:Bool}{aK:List Nat}{z:Int}{n:Nat}(bf:f_ aK)(aM:z=e9 s (bx aK))(h:z.natAbs<10000^n):aK.length<=n:=by
 rw[aM,Cp]at h
 exact bf.len h
section
variable {P:Program} {r:List bG} {F:Fr} {H:ab} {Q:Fr->ab->Prop} {α:Type}
theorem PN{d b1 cY e R bF k:Nat}{ay:Bool}{s x:Operand}{z:Value}{ad:ab->Value->α->Prop}{xs bS:List α}{ax:bb (ap d b1 cY s x::r) Q}(cw:bH k e R ay ad H (aq F s) xs)(lr:Row e R ay ad H (aq F x) bS)(kU:∀u y,ad H u y->Whole P e u)(hJ:∀aF dC u y,Kept H aF dC e->ad H u y->ad aF u y)
  (hu:P.underlying b1=some (.slice e))(J:fQ P cY=true)(ao:bA P e=some R)(ea:dr P e=some ay)(o:ay=true\/R=1)(ag:bytes? P e=some bF)(aM:dD P e=some z)(dd:z.cells.size=R)(dZ:0<bF)(bC:(xs.length+bS.length)*bF<=140737488355328)(ak:k<=H.length)
  (K:∀ef ez aF,bH k e R ay ad aF (.slice ef (xs.length+bS.length) ez) (xs++bS)->(∀cE:ab,cE.length<=k->Ext cE H->Ext cE aF)->Kept H aF (aq F s) e->ba P r Q .mk (a2 F d (.slice ef (xs.length+bS.length) ez)) aF):ba P (ap d b1 cY s x::r) Q ax F H:=
 Cz cw lr kU hJ hu J ao ea o ag aM dd dZ bC ak fun au aF mH a0 a4=>by
  have ar:=mH.len
  rw[List.length_append]at ar
  obtain⟨ef,ez,rfl⟩:=ar
  exact K ef ez aF mH a0 a4
end
theorem Tk{aK:List Nat}{m:Nat}(hm:0<m)(eG:m<=aK.length):(aK.take m).getLast?=some (aK[m-1]?.getD 0):=by
 rw[List.getLast?_eq_getElem?,List.length_take,Nat.min_eq_left eG,List.getElem?_take_of_lt (by omega),bz (by omega)]
 rfl
def Db(k:Nat)(H:ab)(v:Value)(z:Int):Prop:=∃s a c aK,v= .agg #[.bool s,.slice a aK.length c]/\bH k 3 1 false de H (.slice a aK.length c) aK/\eH aK/\f_ aK/\z=e9 s (bx aK)/\(aK=[]->s=false)
theorem Db.agr{k:Nat}{H:ab}{v:Value}{z:Int}(h:Db k H v z):ed H v z:=by
 obtain⟨s,a,c,aK,o,aa,aA⟩:=h
 exact⟨s,a,c,aK,o,aa.row,aA⟩
theorem N2{s:Bool}{a:Option Addr}{c:Nat}{aK:List Nat}{H:ab}(br:j2 H (.slice a aK.length c) aK)(ej:eH aK)(ar:aK.length<1000000000000):
  aO prog 72 [.agg #[.bool s,.slice a aK.length c]] H (fun u H1=>Ext H H1/\Db H.length H1 u (e9 s (bx aK))):=by
 refine aO.b9 fun Q aC=>?_
 apply X4 (by simp)
 simp[IJ]
 have bu:Ext H (H++[.dead,.dead]):=Ext.more H (by simp)
 have og:=br.ext bu
 refine ck (ad:=de) (xs:=aK) (by simpa using og) (by simp) ?_
 simp
 refine c7.mk (by kernel_rfl) (fun m az bE H1=>H1=H++[.dead,.dead]/\az 3= .int .i64 (m:Int)/\m<=aK.length/\∀i,m<=i->i<aK.length->aK[i]?.getD 0=0) aK.length ⟨rfl,by simp,Nat.le_refl _,fun i o aa=>by omega⟩ ?_
 rintro m az bE H1 ⟨rfl,aA,hm,aM⟩ K aV
 simp at aA
 simp only[kJ]
 refine cc.join (by kernel_rfl) (fun bR c4 aS=>aS=H++[.dead,.dead]/\bR 17= .bool (decide (0<m/\aK[m-1]?.getD 0=0))) ?_ ?_
 ·rintro cZ c3-
  by_cases aH:0<m
  ·have hw:IntKind.i64.wrap ((m:Int)-1)=((m-1:Nat):Int):=by rw[b8 (by omega) (by omega)];omega
   refine Exists.elim (⟨_,bz (show m-1<aK.length by omega)⟩:∃d,aK[m-1]?=some d) fun d aD=>?_
   simp[aA,aH,hw]
   refine qX (ad:=de) (xs:=aK) (n:=m-1) (a:=d) (e:=3) (R:=1) (ay:=false) (by simp) (by decide) (by simpa using og) (by simp) aD (by simp) (by simp) (by simp) (by decide) ?_
   rintro c9 mn rfl
   simp
   exact c3 _ _ _ ⟨rfl,by simp[aH,aD]⟩
  ·simp[aA,aH]
   exact c3 _ _ _ ⟨rfl,by simp[aH]⟩
 ·rintro bR c4 aS ⟨rfl,DO⟩
  simp only[hl]at DO
  simp at DO
  simp[DO]
  refine bs.mk (fun ag=>?_) (fun ag=>?_)
  ·simp at ag
   have hw:IntKind.i64.wrap ((m:Int)-1)=((m-1:Nat):Int):=by rw[b8 (by omega) (by omega)];omega
   simp[aA,hw]
   refine aV (m-1) _ _ _ (by omega) ⟨rfl,by simp,by omega,fun i o aa=>?_⟩
   by_cases pq:i=m-1
   ·rw[pq];exact ag.2
   ·exact aM i (by omega) aa
  ·simp at ag
   have bf:f_ (aK.take m):=by
    by_cases aH:0<m
    ·unfold f_
     rw[Tk aH hm]
     intro h
     exact ag aH (Option.some.inj h)
    ·obtain rfl:m=0:=by omega
     exact f_.nil
   have an:=aeZ aM
   have eG:(aK.take m).length=m:=by simp;omega
   refine sr (e:=3) (R:=1) (by simp) (by simp) ?_
   simp[aA]
   refine qY (e:=3) (R:=1) (ay:=false) (ad:=de) (xs:=aK) (l:=0) (h:=m) (by simpa using og) (by simp) (by simp) (by decide) (by simp[dN,aA]) (by simp[eY,aA]) (by omega) (by omega) ?_
   intro mo iz
   have e0:(aK.drop 0).take (m-0)=aK.take m:=by simp
   rw[e0]at iz
   refine PN (k:=(H++[bO.dead,bO.dead]).length) (e:=3) (R:=1) (ay:=false) (bF:=8) (z:= .int .i64 0) (ad:=de) (xs:=[]) (bS:=aK.take m) (by simpa using bH.void _ _ _ _ _ _ _) (by simpa using iz) (fun u y h=>by rw[show u=_ from h];exact jn y) (fun aF dC u y ak h=>h) (by simp) (by simp) (by simp) (by simp) (by decide) (by rfl) (by rfl) (by rfl) (by decide) (by simp;omega) (Nat.le_refl _) ?_
   intro ef ez bU kT ch VH
   have r1:=ch _ (Nat.le_refl _) (Ext.refl _)
   have te:bH H.length 3 1 false de bU (.slice ef m ez) (aK.take m):=by
    have:=kT.le (b_:=H.length) (by simp)
    simp only[List.nil_append,List.length_nil,Nat.zero_add,eG]at this
    exact this
   simp only[List.length_nil,Nat.zero_add,eG]
   simp[sw]
   cases s with
   | false=>
    simp[bd]
    refine aC _ _ ⟨bu.aw r1,false,ef,ez,aK.take m,by rw[eG],by rw[eG];exact te,ej.take m,bf,by rw[an],fun _=>rfl⟩
   | true=>
    simp[aA,bd]
    refine aC _ _ ⟨bu.aw r1,decide (0<m),ef,ez,aK.take m,by rw[eG],by rw[eG];exact te,ej.take m,bf,?_,fun h=>?_⟩
    ·rw[an]
     by_cases aH:0<m
     ·simp[aH]
     ·obtain rfl:m=0:=by omega
      simp[bx]at an
      simp[e9,<-an]
    ·rw[h]at eG
     simp at eG
     simp[<-eG]
theorem qI{s:Bool}{a:Option Addr}{c:Nat}{aK:List Nat}{H:ab}(br:j2 H (.slice a aK.length c) aK)(ej:eH aK)(ar:aK.length<1000000000000):
  aO prog 72 [.agg #[.bool s,.slice a aK.length c]] H (fun u H1=>Ext H H1/\ed H1 u (e9 s (bx aK))):=(N2 br ej ar).mono fun u H1 h=>⟨h.1,h.2.agr⟩
theorem abI(v:Int):v=e9 (decide (v<0)) v.natAbs:=by
 unfold e9
 by_cases h:v<0
 ·simp[h];omega
 ·simp[h];omega
theorem PI{c:Int}:(if c.tmod 10000<0 then-(c.tmod 10000)else c.tmod 10000)=((c.natAbs % 10000:Nat):Int):=by
 have h:(c.tmod 10000).natAbs=c.natAbs % 10000:=Int.natAbs_tmod c 10000
 by_cases o:c.tmod 10000<0
 ·rw[if_pos o];omega
 ·rw[if_neg o];omega
theorem sR{v:Int}{H:ab}(o: -9223372036854775808<=v)(aa:v<9223372036854775808):aO prog 46 [.int .i64 v] H (fun u H1=>Ext H H1/\ed H1 u v):=by
 refine aO.b9 fun Q aC=>?_
 apply XR (by simp)
 simp[Iw]
 have bu:Ext H (H++[.dead,.dead]):=Ext.more H (by simp)
 obtain⟨h9,Av⟩:∃h9,h9=H++[bO.dead,bO.dead]:=⟨_,rfl⟩
 rw[<-Av]at bu⊢
 refine c7.mk (by kernel_rfl) (fun w az bE H1=>∃cur aK a c,w=cur.natAbs/\az 0= .int .i64 cur/\bE 3= .agg #[.bool (decide (v<0)),.slice a aK.length c]/\bH h9.length 3 1 false de H1 (.slice a aK.length c) aK/\eH aK/\(cur=0->f_ aK)/\v.natAbs=bx aK+10000^aK.length*cur.natAbs/\Ext h9 H1) v.natAbs ⟨v,[],none,0,rfl,by simp,by simp,bH.nil _ _ _ _ _ _,eH.nil,fun _=>f_.nil,by simp[bx],Ext.refl _⟩ ?_
 rintro w az bE H1 ⟨cur,aK,a,c,rfl,qk,oc,cw,ej,bf,an,J⟩ K aV
 simp at qk oc
 simp[qk]
 refine bs.bZ (fun aM=>?_) (fun aM=>?_)
 ·simp[oc]
  simp[bd]
  refine aC _ _ ⟨bu.aw J,_,a,c,aK,rfl,cw.row,ej,bf aM,?_,fun h=>?_⟩
  ·rw[aM]at an
   simp at an
   rw[<-an];exact abI v
  ·rw[aM,h]at an
   simp[bx]at an
   simp[an]
 ·have g4:0<cur.natAbs:=by omega
  have hle:10000^aK.length<=v.natAbs:=by
   rw[an]
   have:10000^aK.length*1<=10000^aK.length*cur.natAbs:=Nat.mul_le_mul_left _ g4
   omega
  have hlen:aK.length<5:=by
   have bJ:v.natAbs<10000^5:=by
    have:(10000:Nat)^5=100000000000000000000:=by decide
    omega
   exact(Nat.pow_lt_pow_iff_right (by decide)).1 (Nat.lt_of_le_of_lt hle bJ)
  have jS:cur.natAbs<=v.natAbs:=by
   rw[an]
   have:1*cur.natAbs<=10000^aK.length*cur.natAbs:=Nat.mul_le_mul_right _ (Nat.pow_pos (by decide))
   omega
  have EK:(cur.tdiv 10000).natAbs=cur.natAbs/10000:=Int.natAbs_tdiv cur 10000
  have ai7:(cur.tmod 10000).natAbs=cur.natAbs % 10000:=Int.natAbs_tmod cur 10000
  have Xg:IntKind.i64.wrap (-(cur.tmod 10000))= -(cur.tmod 10000):=b8 (by omega) (by omega)
  have Xf:IntKind.i64.wrap (cur.tdiv 10000)=cur.tdiv 10000:=b8 (by omega) (by omega)
  simp[qk]
  refine cc.join (by kernel_rfl) (fun bR c4 aS=>aS=H1/\bR 4= .int .i64 ((cur.natAbs % 10000:Nat):Int)) ?_ ?_
  ·rintro cZ c3-
   simp
   refine bs.bZ (fun mS=>?_) (fun mS=>?_)
   ·simp[Xg]
    refine c3 _ _ _ ⟨rfl,?_⟩
    rw[<-PI,if_pos mS];simp
   ·try simp
    refine c3 _ _ _ ⟨rfl,?_⟩
    rw[<-PI,if_neg mS];simp
  ·rintro bR c4 aS ⟨rfl,bj⟩
   simp only[hl]at bj
   simp at bj
   have air:=Ext.len J
   simp[oc,bj]
   refine zo (k:=h9.length) (e:=3) (R:=1) (ay:=false) (bF:=8) (z:= .int .i64 0) (ad:=de) (xs:=aK) (a:=cur.natAbs % 10000) (by simpa using cw) (by simp[de,bj]) (by simp[bj];exact jn _) (by simp) (fun _ _ _ _ _ h=>h) (by simp) (by simp) (by simp) (by simp) (by simp) (by rfl) (by rfl) (by rfl) (by rfl) (by decide) (by decide) (by decide) (by omega) (by omega) ?_
   intro iD Q4 Rv b5 td cP vC
   simp[oc,qk,Xf]
   refine aV (cur.natAbs/10000) _ _ _ (Nat.div_lt_self g4 (by decide)) ⟨cur.tdiv 10000,aK++[cur.natAbs % 10000],Q4,Rv,by rw[EK],by simp,by simp,by simpa using td,ej.snoc (Nat.mod_lt _ (by decide)),fun aH=>?_,?_,cP _ (Nat.le_refl _) J⟩
   ·refine f_.snoc fun kd=>?_
    have:cur.natAbs/10000=0:=by rw[<-EK,aH];rfl
    omega
   ·rw[wu,List.length_append,List.length_singleton,Nat.pow_succ,EK,an,Nat.mul_assoc,Nat.add_assoc,<-Nat.mul_add]
    congr 2
    have:=Nat.div_add_mod cur.natAbs 10000
    omega
theorem Pr{v w:Value}{x y:List Nat}{H:ab}(bw:j2 H v x)(bD:j2 H w y)(J:eH x)(aI:eH y)(cY:f_ x)(ty:f_ y)(E4:x.length<1000000000000)(vH:y.length<1000000000000):
  aO prog 83 [v,w] H (fun u H1=>H1=H/\u= .int .i64 (if bx x<bx y then-1 else if bx x=bx y then 0 else 1)):=by
 refine aO.b9 fun Q aC=>?_
 apply X7 (by simp)
 obtain⟨a,c,rfl⟩:=Row.len bw
 obtain⟨cM,cI,rfl⟩:=Row.len bD
 simp[IM]
 refine ck (ad:=de) (xs:=x) (by simpa using bw) (by simp) ?_
 try simp
 refine ck (ad:=de) (xs:=y) (by simpa using bD) (by simp) ?_
 simp
 refine bs.bZ (fun ar=>?_) (fun ar=>?_)
 ·have dK:x.length=y.length:=by omega
  have ly:IntKind.i64.wrap ((x.length:Int)-1)=(x.length:Int)-1:=b8 (by omega) (by omega)
  try simp
  refine ck (ad:=de) (xs:=x) (by simpa using bw) (by simp) ?_
  simp[ly]
  refine c7.mk (by kernel_rfl) (fun m az bE H1=>H1=H/\az 5= .int .i64 ((m:Int)-1)/\m<=x.length/\x.drop m=y.drop m) x.length ⟨rfl,by simp,Nat.le_refl _,by rw[List.drop_length,List.drop_of_length_le (by omega)]⟩ ?_
  rintro m az bE H1 ⟨rfl,bJ,hm,he⟩ K aV
  simp at bJ
  simp[bJ]
  refine bs.bZ (fun hh=>?_) (fun hh=>?_)
  ·refine Exists.elim (⟨m-1,by omega⟩:∃i:Nat,m=i+1) fun i af=>?_
   refine Exists.elim (⟨_,bz (show i<x.length by omega)⟩:∃d,x[i]?=some d) fun d aD=>?_
   refine Exists.elim (⟨_,bz (show i<y.length by omega)⟩:∃d,y[i]?=some d) fun e oy=>?_
   have hj:(m:Int)-1=(i:Int):=by omega
   have gW:IntKind.i64.wrap ((i:Int)-1)=(i:Int)-1:=b8 (by omega) (by omega)
   have fu:x[i]?.getD 0=d:=by rw[aD];rfl
   have yE:y[i]?.getD 0=e:=by rw[oy];rfl
   rw[af]at he
   simp[bJ,hj]
   refine cv (ad:=de) (xs:=x) (n:=i) (a:=d) (e:=3) (R:=1) (ay:=false) (by simpa using bw) (by simp[bJ,hj]) aD (by simp) (by simp) (by simp) (by decide) ?_
   rintro gi kq rfl
   simp[bJ,hj]
   refine cv (ad:=de) (xs:=y) (n:=i) (a:=e) (e:=3) (R:=1) (ay:=false) (by simpa using bD) (by simp[bJ,hj]) oy (by simp) (by simp) (by simp) (by decide) ?_
   rintro eT nQ rfl
   simp
   refine bs.bZ (fun aZ=>?_) (fun aZ=>?_)
   ·have:=Qr J aI dK (i:=i) (by omega) he (by omega)
    simp[bd]
    exact aC _ _ ⟨rfl,by rw[if_pos this]⟩
   ·simp[bJ,hj]
    refine cv (ad:=de) (xs:=x) (n:=i) (a:=d) (e:=3) (R:=1) (ay:=false) (by simpa using bw) (by simp[bJ,hj]) aD (by simp) (by simp) (by simp) (by decide) ?_
    rintro gj pP rfl
    simp[bJ,hj]
    refine cv (ad:=de) (xs:=y) (n:=i) (a:=e) (e:=3) (R:=1) (ay:=false) (by simpa using bD) (by simp[bJ,hj]) oy (by simp) (by simp) (by simp) (by decide) ?_
    rintro iD oX rfl
    simp
    refine bs.bZ (fun po=>?_) (fun po=>?_)
    ·have:=Qr aI J dK.symm (i:=i) (by omega) he.symm (by omega)
     simp[bd]
     exact aC _ _ ⟨rfl,by rw[if_neg (by omega),if_neg (by omega)]⟩
    ·have Ve:d=e:=by omega
     simp[bJ,hj,gW]
     refine aV i _ _ _ (by omega) ⟨rfl,by simp,by omega,?_⟩
     rw[List.drop_eq_getElem_cons (show i<x.length by omega),List.drop_eq_getElem_cons (show i<y.length by omega),he]
     congr 1
     rw[bz (by omega)]at fu yE
     simp at fu yE
     rw[fu,yE,Ve]
  ·obtain rfl:m=0:=by omega
   have yC:x=y:=by simpa using he
   simp[bd]
   exact aC _ _ ⟨rfl,by rw[yC];simp⟩
 ·try simp
  refine ck (ad:=de) (xs:=x) (by simpa using bw) (by simp) ?_
  try simp
  refine ck (ad:=de) (xs:=y) (by simpa using bD) (by simp) ?_
  simp
  refine bs.bZ (fun aZ=>?_) (fun aZ=>?_)
  ·have:=ty.yT J (by omega)
   simp[bd]
   exact aC _ _ ⟨rfl,by rw[if_pos this]⟩
  ·have:=cY.yT aI (by omega)
   simp[bd]
   exact aC _ _ ⟨rfl,by rw[if_neg (by omega),if_neg (by omega)]⟩
theorem J0{v:Value}{z:Int}{H:ab}(om:ed H v z):aO prog 81 [v] H (fun u H1=>Ext H H1/\ed H1 u (-z)):=by
 refine aO.b9 fun Q aC=>?_
 obtain⟨s,a,c,aK,rfl,br,ej,bf,rfl,ao⟩:=om
 apply XU (by simp)
 simp[Iz]
 have bu:Ext H (H++[.dead,.dead]):=Ext.more H (by simp)
 have og:=br.ext bu
 simp[sw]
 cases s with
 | true=>
  simp[bd]
  exact aC _ _ ⟨bu,false,a,c,aK,rfl,og,ej,bf,by simp[e9],fun _=>rfl⟩
 | false=>
  simp
  refine ck (ad:=de) (xs:=aK) (by simpa using og) (by simp) ?_
  simp[bd]
  refine aC _ _ ⟨bu,decide (0<aK.length),a,c,aK,rfl,og,ej,bf,?_,fun h=>by simp[h]⟩
  by_cases h:0<aK.length
  ·simp[h,e9]
  ·have:aK=[]:=List.eq_nil_of_length_eq_zero (by omega)
   subst this
   simp[e9,bx]
theorem De{v:Value}{z:Int}{H:ab}(om:ed H v z):aO prog 53 [v] H (fun u H1=>Ext H H1/\ed H1 u z.natAbs):=by
 refine aO.b9 fun Q aC=>?_
 obtain⟨s,a,c,aK,rfl,br,ej,bf,rfl,ao⟩:=om
 apply XK (by simp)
 simp[Ip,bd]
 have bu:Ext H (H++[.dead,.dead]):=Ext.more H (by simp)
 exact aC _ _ ⟨bu,false,a,c,aK,rfl,br.ext bu,ej,bf,by rw[Cp];rfl,fun _=>rfl⟩
theorem J4{v:Value}{z:Int}{H:ab}(om:ed H v z):aO prog 41 [v] H (fun u H1=>Ext H H1/\u= .int .i64 (if z<0 then-1 else if z=0 then 0 else 1)):=by
 refine aO.b9 fun Q aC=>?_
 obtain⟨s,a,c,aK,rfl,br,ej,bf,rfl,ao⟩:=om
 apply XY (by simp)
 simp[ID]
 have bu:Ext H (H++[.dead]):=Ext.dead H
 refine ck (ad:=de) (xs:=aK) (by simpa using br.ext bu) (by simp) ?_
 simp
 refine bs.bZ (fun aH=>?_) (fun aH=>?_)
 ·have aH:aK=[]:=by simpa using aH
  subst aH
  simp[bd]
  exact aC _ _ ⟨bu,by cases s<;>simp[e9,bx]⟩
 ·have aH:aK≠[]:=by simpa using aH
  have an:0<bx aK:=by
   have:=bf.zero
   rcases Nat.eq_zero_or_pos (bx aK)with h | h
   ·exact absurd (this.1 h) aH
   ·exact h
  cases s with
  | true=>
   simp[bd]
   exact aC _ _ ⟨bu,by simp[e9];omega⟩
  | false=>
   try simp[bd]
   refine aC _ _ ⟨bu,?_⟩
   simp only[e9,Bool.false_eq_true,if_false]
   rw[if_neg (by omega),if_neg (by omega)]
def HS(H:ab)(u:Value)(n:Nat)(l:Nat):Prop:=∃a c aK,u= .slice a aK.length c/\j2 H (.slice a aK.length c) aK/\eH aK/\bx aK=n/\aK.length<=l
theorem uk(aK:List Nat)(i:Nat):bx (aK.take (i+1))=bx (aK.take i)+10000^i*(aK[i]?.getD 0):=by
 by_cases af:i<aK.length
 ·exact ae1 af
 ·rw[List.take_of_length_le (by omega),List.take_of_length_le (by omega),List.getElem?_eq_none (by omega)]
  simp
theorem aaG{A B O c x y i:Nat}(h:O+10000^i*c=A+B):O+10000^i*((c+x+y) % 10000)+10000^(i+1)*((c+x+y)/10000)=A+10000^i*x+(B+10000^i*y):=by
 have aA:10000^i*((c+x+y) % 10000)+10000^(i+1)*((c+x+y)/10000)=10000^i*c+10000^i*x+10000^i*y:=by
  rw[Nat.pow_succ,Nat.mul_assoc,<-Nat.mul_add,<-Nat.mul_add,<-Nat.mul_add]
  congr 1
  omega
 omega
theorem Rm{v w:Value}{x y:List Nat}{H:ab}(bw:j2 H v x)(bD:j2 H w y)(J:eH x)(aI:eH y)(E4:x.length<100000000000)(vH:y.length<100000000000):
  aO prog 82 [v,w] H (fun u H1=>Ext H H1/\HS H1 u (bx x+bx y) (max x.length y.length+1)):=by
 refine aO.b9 fun Q aC=>?_
 apply X6 (by simp)
 obtain⟨a,c,rfl⟩:=Row.len bw
 obtain⟨cM,cI,rfl⟩:=Row.len bD
 simp[IL]
 refine sr (e:=3) (R:=1) (by simp) (by simp) ?_
 simp
 refine c7.mk (by kernel_rfl) (fun m az bE H1=>∃(i e7:Nat) (out:List Nat) (ef:Option Addr) (ez:Nat),m=max x.length y.length+1-i/\i<=max x.length y.length+1/\(i=max x.length y.length+1->e7=0)/\e7<=1/\az 7= .int .i64 (i:Int)/\az 6= .int .i64 (e7:Int)/\az 5= .slice ef i ez/\out.length=i/\bH H.length 3 1 false de H1 (.slice ef i ez) out/\eH out/\bx out+10000^i*e7=bx (x.take i)+bx (y.take i)/\Ext H H1) (max x.length y.length+1) ⟨0,0,[],some ⟨0,0,none⟩,0,by omega,by omega,fun _=>rfl,by omega,by simp,by simp,by simp,rfl,bH.void _ _ _ _ _ _ _,eH.nil,by simp[bx],Ext.refl _⟩ ?_
 rintro m az bE H1 ⟨i,e7,out,ef,ez,rfl,af,aiQ,LZ,bV,ds,bJ,dQ,cw,u6,an,bq⟩ K aV
 simp at bV ds bJ
 have uY:=bw.ext bq
 have uZ:=bD.ext bq
 simp only[kJ]
 refine cc.join (by kernel_rfl) (fun bR c4 aS=>aS=H1/\bR 23= .bool (decide (i<x.length\/i<y.length\/0<e7))) ?_ ?_
 ·rintro cZ c3-
  simp[bV]
  refine ck (ad:=de) (xs:=x) (by simpa using uY) (by simp) ?_
  simp[bV]
  by_cases tk:i<x.length
  ·simp[tk]
   exact c3 _ _ _ ⟨rfl,by simp[tk]⟩
  ·simp[tk,bV]
   refine ck (ad:=de) (xs:=y) (by simpa using uZ) (by simp) ?_
   simp
   by_cases AY:i<y.length
   ·simp[AY]
    exact c3 _ _ _ ⟨rfl,by simp[AY]⟩
   ·simp[AY,ds]
    exact c3 _ _ _ ⟨rfl,by simp[tk,AY]⟩
 ·rintro bR c4 aS ⟨rfl,DR⟩
  simp only[hl]at DR
  simp at DR
  simp[DR]
  refine bs.mk (fun ag=>?_) (fun ag=>?_)
  ·simp at ag
   have pq:i<max x.length y.length+1:=by omega
   have fu:=J.get i
   have oP:=aI.get i
   simp[ds]
   refine cc.join (by kernel_rfl) (fun c_ en bN=>bN=aS/\c_ 8= .int .i64 ((e7+x[i]?.getD 0:Nat):Int)) ?_ ?_
   ·rintro nb fN-
    simp[bV]
    refine ck (ad:=de) (xs:=x) (by simpa using uY) (by simp) ?_
    simp
    refine bs.bZ (fun aZ=>?_) (fun aZ=>?_)
    ·refine Exists.elim (⟨_,bz aZ⟩:∃d,x[i]?=some d) fun d aD=>?_
     have hw:IntKind.i64.wrap ((e7:Int)+(d:Int))=((e7+d:Nat):Int):=by rw[aD]at fu;simp at fu;rw[b8 (by omega) (by omega)];simp
     simp[bV]
     refine cv (ad:=de) (xs:=x) (n:=i) (a:=d) (e:=3) (R:=1) (ay:=false) (by simpa using uY) (by simp[bV]) aD (by simp) (by simp) (by simp) (by decide) ?_
     rintro gj pP rfl
     simp[hw]
     exact fN _ _ _ ⟨rfl,by simp[aD]⟩
    ·have:x[i]?=none:=List.getElem?_eq_none (by omega)
     try simp
     exact fN _ _ _ ⟨rfl,by simp[this]⟩
   ·rintro c_ en bN ⟨rfl,cN⟩
    simp only[hl]at cN
    simp at cN
    refine cc.join (by kernel_rfl) (fun cT dO bU=>bU=bN/\cT 8= .int .i64 ((e7+x[i]?.getD 0+y[i]?.getD 0:Nat):Int)) ?_ ?_
    ·rintro nZ g1-
     simp[bV]
     refine ck (ad:=de) (xs:=y) (by simpa using uZ) (by simp) ?_
     simp
     refine bs.bZ (fun aZ=>?_) (fun aZ=>?_)
     ·refine Exists.elim (⟨_,bz aZ⟩:∃d,y[i]?=some d) fun d aD=>?_
      have hw:IntKind.i64.wrap ((e7:Int)+(x[i]?.getD 0:Nat)+(d:Int))=((e7+x[i]?.getD 0+d:Nat):Int):=by rw[aD]at oP;simp at oP;rw[b8 (by omega) (by omega)];simp
      simp[bV,cN]
      refine cv (ad:=de) (xs:=y) (n:=i) (a:=d) (e:=3) (R:=1) (ay:=false) (by simpa using uZ) (by simp[bV]) aD (by simp) (by simp) (by simp) (by decide) ?_
      rintro iD oX rfl
      simp[hw]
      exact g1 _ _ _ ⟨rfl,by simp[aD]⟩
     ·have:y[i]?=none:=List.getElem?_eq_none (by omega)
      try simp
      exact g1 _ _ _ ⟨rfl,by simp[this,cN]⟩
    ·rintro cT dO bU ⟨rfl,cN⟩
     simp only[hl]at cN
     simp at cN
     refine Exists.elim (⟨_,rfl⟩:∃S,S=e7+x[i]?.getD 0+y[i]?.getD 0) fun S bL=>?_
     have rr:cT 8= .int .i64 (S:Int):=by rw[cN,bL];simp
     have ait:S<20000:=by omega
     have nu:(S:Int).tmod 10000=((S % 10000:Nat):Int):=rfl
     have l9:(S:Int).tdiv 10000=((S/10000:Nat):Int):=rfl
     have nB:IntKind.i64.wrap ((S:Int)/10000)=(S:Int)/10000:=b8 (by omega) (by omega)
     have je:IntKind.i64.wrap ((i:Int)+1)=((i+1:Nat):Int):=by rw[b8 (by omega) (by omega)];simp
     have fY:=Ext.len bq
     simp[bJ,rr,nu]
     refine zo (k:=H.length) (e:=3) (R:=1) (ay:=false) (bF:=8) (z:= .int .i64 0) (ad:=de) (xs:=out) (a:=S % 10000) (by simpa using cw) (by simp[de]) (by simpa using jn _) (by simp) (fun _ _ _ _ _ h=>h) (by simp) (by simp) (by simp) (by simp) (by simp) (by rfl) (by rfl) (by rfl) (by rfl) (by decide) (by decide) (by decide) (by omega) (by omega) ?_
     intro mj wN wX dx kB cu qq
     rw[dQ]at kB
     simp only[dQ]
     simp[rr,bV,l9,nB,je]
     refine aV (max x.length y.length+1-(i+1)) _ _ _ (by omega) ⟨i+1,S/10000,out++[S % 10000],wN,wX,rfl,by omega,fun he=>?_,by omega,by simp,by simp,by simp,by simp[dQ],kB,u6.snoc (Nat.mod_lt _ (by decide)),?_,cu _ (Nat.le_refl _) bq⟩
     ·have o:x[i]?=none:=List.getElem?_eq_none (by omega)
      have aa:y[i]?=none:=List.getElem?_eq_none (by omega)
      rw[o,aa]at bL
      simp at bL
      omega
     ·rw[wu,dQ,uk x i,uk y i,bL]
      exact aaG an
  ·simp at ag
   have EI:e7=0:=by omega
   have Xs:x.take i=x:=List.take_of_length_le (by omega)
   have FV:y.take i=y:=List.take_of_length_le (by omega)
   rw[EI,Xs,FV]at an
   simp[bJ,bd]
   refine aC _ _ ⟨bq,ef,ez,out,by rw[dQ],by rw[dQ];exact cw.row,u6,by omega,by omega⟩
theorem ZP{A B O:Nat}{i x y b d cy:Nat}(h:A+10000^i*b=O+B)(ao:x+10000*cy=d+y+b):A+10000^i*x+10000^(i+1)*cy=O+10000^i*d+(B+10000^i*y):=by
 have aA:10000^i*x+10000^(i+1)*cy=10000^i*d+10000^i*y+10000^i*b:=by
  rw[Nat.pow_succ,Nat.mul_assoc,<-Nat.mul_add,<-Nat.mul_add,<-Nat.mul_add,ao]
 omega
theorem Dj{v w:Value}{x y:List Nat}{H:ab}(bw:j2 H v x)(bD:j2 H w y)(J:eH x)(aI:eH y)(E4:x.length<100000000000)(hle:bx y<=bx x)(NN:y.length<=x.length):
  aO prog 84 [v,w] H (fun u H1=>Ext H H1/\HS H1 u (bx x-bx y) x.length):=by
 refine aO.b9 fun Q aC=>?_
 apply X5 (by simp)
 obtain⟨a,c,rfl⟩:=Row.len bw
 obtain⟨cM,cI,rfl⟩:=Row.len bD
 simp[IK]
 refine sr (e:=3) (R:=1) (by simp) (by simp) ?_
 simp
 refine c7.mk (by kernel_rfl) (fun m az bE H1=>∃(i ky:Nat) (out:List Nat) (ef:Option Addr) (ez:Nat),m=x.length-i/\i<=x.length/\ky<=1/\az 7= .int .i64 (i:Int)/\az 6= .int .i64 (ky:Int)/\az 5= .slice ef i ez/\out.length=i/\bH H.length 3 1 false de H1 (.slice ef i ez) out/\eH out/\bx (x.take i)+10000^i*ky=bx out+bx (y.take i)/\Ext H H1) x.length ⟨0,0,[],some ⟨0,0,none⟩,0,by omega,by omega,by omega,by simp,by simp,by simp,rfl,bH.void _ _ _ _ _ _ _,eH.nil,by simp[bx],Ext.refl _⟩ ?_
 rintro m az bE H1 ⟨i,ky,out,ef,ez,rfl,af,aiB,bV,ds,bJ,dQ,cw,u6,an,bq⟩ K aV
 simp at bV ds bJ
 have uY:=bw.ext bq
 have uZ:=bD.ext bq
 simp[bV]
 refine ck (ad:=de) (xs:=x) (by simpa using uY) (by simp) ?_
 simp
 refine bs.bZ (fun tk=>?_) (fun tk=>?_)
 ·refine Exists.elim (⟨_,bz tk⟩:∃d,x[i]?=some d) fun d aD=>?_
  have L2:x[i]?.getD 0=d:=by rw[aD];rfl
  have Vd:d<10000:=L2▸J.get i
  have FU:=aI.get i
  have hw:IntKind.i64.wrap ((d:Int)-(ky:Int))=(d:Int)-(ky:Int):=b8 (by omega) (by omega)
  simp[bV]
  refine cv (ad:=de) (xs:=x) (n:=i) (a:=d) (e:=3) (R:=1) (ay:=false) (by simpa using uY) (by simp[bV]) aD (by simp) (by simp) (by simp) (by decide) ?_
  rintro gj pP rfl
  simp[ds,hw]
  refine cc.join (by kernel_rfl) (fun c_ en bN=>bN=H1/\c_ 8= .int .i64 ((d:Int)-(ky:Int)-(y[i]?.getD 0:Nat))) ?_ ?_
  ·rintro nb fN-
   simp[bV]
   refine ck (ad:=de) (xs:=y) (by simpa using uZ) (by simp) ?_
   simp
   refine bs.bZ (fun aZ=>?_) (fun aZ=>?_)
   ·refine Exists.elim (⟨_,bz aZ⟩:∃d,y[i]?=some d) fun e he=>?_
    have nB:IntKind.i64.wrap ((d:Int)-(ky:Int)-(e:Int))=(d:Int)-(ky:Int)-(e:Int):=by rw[he]at FU;simp at FU;exact b8 (by omega) (by omega)
    simp[bV]
    refine cv (ad:=de) (xs:=y) (n:=i) (a:=e) (e:=3) (R:=1) (ay:=false) (by simpa using uZ) (by simp[bV]) he (by simp) (by simp) (by simp) (by decide) ?_
    rintro iD oX rfl
    simp[nB]
    exact fN _ _ _ ⟨rfl,by simp[he]⟩
   ·have:y[i]?=none:=List.getElem?_eq_none (by omega)
    try simp
    exact fN _ _ _ ⟨rfl,by simp[this]⟩
  ·rintro c_ en bN ⟨rfl,cN⟩
   simp only[hl]at cN
   simp at cN
   refine Exists.elim (⟨_,rfl⟩:∃e,e=y[i]?.getD 0) fun e he=>?_
   rw[<-he]at cN FU
   simp
   refine cc.join (by kernel_rfl) (fun cT dO bU=>bU=bN/\∃uP cy:Nat,cT 8= .int .i64 (uP:Int)/\cT 6= .int .i64 (cy:Int)/\uP<10000/\cy<=1/\d+10000*cy=uP+e+ky) ?_ ?_
   ·rintro nZ g1-
    simp[cN]
    refine bs.bZ (fun mS=>?_) (fun mS=>?_)
    ·have je:IntKind.i64.wrap ((d:Int)-(ky:Int)-(e:Int)+10000)=(d:Int)-(ky:Int)-(e:Int)+10000:=b8 (by omega) (by omega)
     simp[cN,je]
     refine g1 _ _ _ ⟨rfl,((d:Int)-(ky:Int)-(e:Int)+10000).toNat,1,by simp;omega,by simp,by omega,by omega,by omega⟩
    ·try simp
     refine g1 _ _ _ ⟨rfl,((d:Int)-(ky:Int)-(e:Int)).toNat,0,by simp[cN];omega,by simp,by omega,by omega,by omega⟩
   ·rintro cT dO bU ⟨rfl,uP,cy,rr,uX,rF,df,dc⟩
    simp only[hl]at rr uX
    simp at rr uX
    have je:IntKind.i64.wrap ((i:Int)+1)=((i+1:Nat):Int):=by rw[b8 (by omega) (by omega)];simp
    have fY:=Ext.len bq
    simp[bJ,rr]
    refine zo (k:=H.length) (e:=3) (R:=1) (ay:=false) (bF:=8) (z:= .int .i64 0) (ad:=de) (xs:=out) (a:=uP) (by simpa using cw) (by simp[de,rr]) (by simpa[rr]using jn _) (by simp) (fun _ _ _ _ _ h=>h) (by simp) (by simp) (by simp) (by simp) (by simp) (by rfl) (by rfl) (by rfl) (by rfl) (by decide) (by decide) (by decide) (by omega) (by omega) ?_
    intro mj wN wX dx kB cu qq
    rw[dQ]at kB
    simp only[dQ]
    simp[bV,je]
    refine aV (x.length-(i+1)) _ _ _ (by omega) ⟨i+1,cy,out++[uP],wN,wX,rfl,by omega,df,by simp,by simp[uX],by simp,by simp[dQ],kB,u6.snoc rF,?_,cu _ (Nat.le_refl _) bq⟩
    rw[wu,dQ,uk x i,uk y i,L2,<-he]
    exact ZP an dc
 ·obtain rfl:i=x.length:=by omega
  have FV:y.take x.length=y:=List.take_of_length_le (by omega)
  rw[List.take_length,FV]at an
  have E9:=sz u6
  rw[dQ]at E9
  have aiC:10000^x.length*ky=0:=by
   rcases Nat.eq_zero_or_pos ky with h | h
   ·rw[h];rfl
   ·have:ky=1:=by omega
    rw[this]at an
    omega
  simp[bJ,bd]
  exact aC _ _ ⟨bq,ef,ez,out,by rw[dQ],by rw[dQ];exact cw.row,u6,by omega,by omega⟩
end Go.dq
end
