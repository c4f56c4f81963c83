/- Part of the proof of ShopJoined. -/
import Derived.Test.YtoiodfcefbapkaaGreatShopJoinedF
set_option linter.unusedVariables false
set_option linter.unusedSimpArgs false
section
set_option maxRecDepth 8000
set_option maxHeartbeats 1000000
namespace Go.cJ
open Go.Proofs
open Go.Proofs.Tryz (prog)
attribute [-simp] hq hX jG
theorem F3(l:List Nat)(k:Nat):val l=val (l.take k)+4294967296^(min k l.length)*val (l.drop k):=by
 conv=>lhs;rw[<-List.take_append_drop k l,nx]
 rw[List.length_take]
theorem fV.whole{H:ab}{u:Value}{y:Nat}(h:fV H u y):Whole prog 124 u:=h.1▸yC _
theorem Nw{v w:Value}{a b:List Nat}{H:ab}(bt:cZ H 124 v a)(oQ:Trim a)(bC:cZ H 124 w b)(k1:Trim b)(mX:0<b.length)(ki:a.length<1048570)(jA:b.length<1048570):
  aP prog 117 [v,w] H (fun u H1=>Ext H H1/\∃q r l m,u= .tuple #[q,r]/\cZ H1 124 q l/\Trim l/\val l=val a/val b/\cZ H1 124 r m/\Trim m/\val m=val a % val b):=by
 refine aP.b9 fun Q aE=>?_
 apply Xo (by simp)
 simp[HU]
 refine aV.mk (Ci bt bC oQ k1 (by omega) (by omega)) ?_
 rintro c H ⟨rfl,rfl⟩
 simp
 refine bH.b_ (fun ad=>?_) (fun ad=>?_)
 ·have a6:val a<val b:=by
   rcases Nat.lt_or_ge (val a) (val b)with h | h
   ·exact h
   ·rw[if_neg (by omega)]at ad;split at ad<;>omega
  try simp
  refine yr (e:=124) (U:=1) (bA:=4) (k:=H.length) (z:= .int .u32 0) (aC:=false) (af:=fV) (xs:=[]) (bO:=a) (by simpa using bB.nil _ _ _ _ _ _) (by simpa using bt.row) (fun u y h=>h.whole) (fun _ _ _ _ _ h=>h) (by simp) (by simp) (by simp) (by simp) (.inr rfl) (by simp) (by simp) (by rfl) (by decide) (by simp;omega) (Nat.le_refl _) ?_
  rintro au aF cy J-
  simp[bf]
  refine aE _ _ ⟨J H (Nat.le_refl _) (Ext.refl _),_,_,[],a,rfl,⟨ep.nil _ _ _,by simp⟩,Trim.nil,?_,cy.row.us,oQ,?_⟩
  ·rw[Nat.div_eq_of_lt a6];rfl
  ·rw[Nat.mod_eq_of_lt a6]
 ·have hl:val b<=val a:=by
   rcases Nat.lt_or_ge (val a) (val b)with h | h
   ·rw[if_pos h]at ad;omega
   ·exact h
  try simp
  refine c9 (by simpa using bC.row) (by simp) ?_
  simp
  refine bH.b_ (fun kC=>?_) (fun kC=>?_)
  ·have gJ:b.length=1:=by omega
   obtain⟨y,rfl⟩:=List.length_eq_one_iff.1 gJ
   have uZ:0<y:=by
    have:=k1
    simp[Trim]at this
    omega
   have o5:y<4294967296:=bC.2 y (by simp)
   try simp
   refine dc (af:=fV) (n:=0) (by simpa using bC.row) (by simp) (a:=y) (by simp) (by simp) (by simp) (by simp) (.inr rfl) ?_
   rintro p u ⟨rfl,-⟩
   simp
   refine aV.mk (IQ bt (by omega) uZ o5) ?_
   rintro u aR ⟨J,q,l,rfl,av,uj,sS⟩
   simp
   have lM:val a % y<4294967296:=Nat.lt_trans (Nat.mod_lt _ uZ) o5
   obtain⟨r,al⟩:∃r,val a % y=r:=⟨_,rfl⟩
   rw[al]at lM
   refine tc (e:=124) (U:=1) (z:= .int .u32 0) (out:=[.int .u32 (r:Int)]) (by simp) (by simp) (by simp) (by rfl) (by rfl) (by omega) (by omega) (by omega) ?_ (by simp) ?_
   ·simp[iY,made,ow]
    rw[<-al]
    simp
   simp
   have ec:=cZ.fresh aR 124 [r] 1 1 (Nat.le_refl _) rfl (by simpa using lM) false
   refine aV.mk (lW (l:=[r]) (by simpa using ec) (by simp)) ?_
   rintro u bP ⟨rfl,m,hm,zJ,sT,-⟩
   simp[bf]
   refine aE _ _ ⟨J.snoc _ _ _,_,_,l,m,rfl,av.ext ((Ext.refl _).snoc _ _ _),uj,by rw[sS];simp[val],hm,zJ,?_⟩
   rw[sT,<-al]
   simp[val]
  ·try simp
   obtain⟨m,gJ⟩:∃m,b.length=m+2:=⟨b.length-2,by omega⟩
   refine c9 (by simpa using bC.row) (by simp) ?_
   have k7:IntKind.i64.wrap ((m:Int)+2-1)=(m:Int)+1:=by rw[b6 (by omega) (by omega)];omega
   rw[gJ]
   simp[k7]
   obtain⟨l5,pH⟩:∃x,b[m+1]?.getD 0=x:=⟨_,rfl⟩
   have Dj:b[m+1]?=some l5:=by rw[<-pH,bJ (by omega)];rfl
   have TF:l5<4294967296:=bC.2 l5 (List.mem_of_getElem? Dj)
   have TE:0<l5:=by
    have:=k1
    rw[Trim,List.getLast?_eq_getElem?,gJ,show m+2-1=m+1 by omega,Dj]at this
    rcases Nat.eq_zero_or_pos l5 with q | q
    ·rw[q]at this;exact absurd rfl this
    ·exact q
   refine dc (af:=fV) (n:=m+1) (by simpa using bC.row) (by simp) Dj (by simp) (by simp) (by simp) (.inr rfl) ?_
   rintro p u ⟨rfl,-⟩
   simp
   refine aV.mk (Yw TF TE) ?_
   rintro u H ⟨rfl,s,rfl,DX,oR⟩
   simp
   refine aV.mk (O3 bC (by omega) DX) ?_
   rintro aj2 aR ⟨bm,ah8,SH,ahA,UM⟩
   simp
   refine aV.mk (lW SH.row.us (by omega)) ?_
   rintro aj1 aR ⟨rfl,aD,nX,uk,iP,-⟩
   simp
   rw[UM]at iP
   have Kx:val b<4294967296^(m+1)*(l5+1)/\4294967296^(m+1)<=val b:=by
    have o:=iV b (m+1)
    rw[show b.take (m+1+1)=b from by rw[<-gJ,List.take_length],pH]at o
    have aa:=j7 (l:=b.take (m+1)) fun x J=>bC.2 x (List.mem_of_mem_take J)
    rw[List.length_take,Nat.min_eq_left (by omega)]at aa
    have aA:=k1.le (by intro e;simp[e]at gJ)
    rw[gJ,show m+2-1=m+1 by omega]at aA
    refine⟨?_,aA⟩
    rw[o,Nat.mul_add]
    omega
   have xF:aD.length=m+2:=by
    have o:aD.length<=m+2:=by
     refine uk.length_le ?_
     rw[iP]
     have:4294967296^(m+1)*(l5+1)*2^s<=4294967296^(m+1)*4294967296:=by
      rw[Nat.mul_assoc]
      refine Nat.mul_le_mul_left _ ?_
      have e:(4294967296:Nat)=2^s*2^(32-s):=by rw[<-Nat.pow_add];rw[show s+(32-s)=32 by omega]
      rw[Nat.mul_comm,e]
      refine Nat.mul_le_mul_left _ ?_
      refine Nat.lt_of_mul_lt_mul_left (a:=2^s) ?_
      rw[<-e,Nat.mul_comm]
      exact oR
     rw[<-Nat.pow_succ]at this
     exact Nat.lt_of_lt_of_le (Nat.mul_lt_mul_of_pos_right Kx.1 (Nat.pow_pos (by decide))) this
    have aa:m+2<=aD.length:=by
     rcases Nat.lt_or_ge aD.length (m+2)with h | h
     ·exfalso
      have aA:=j7 nX.2
      rw[iP]at aA
      have bo:4294967296^aD.length<=4294967296^(m+1):=Nat.pow_le_pow_right (by decide) (by omega)
      have bK:val b*1<=val b*2^s:=Nat.mul_le_mul_left _ (Nat.pow_pos (by decide))
      omega
     ·exact h
    omega
   have pY:aD[m+1]?.getD 0≠0:=by
    have:=uk
    rw[Trim,List.getLast?_eq_getElem?,xF,show m+2-1=m+1 by omega,bJ (by omega)]at this
    rw[bJ (by omega)]
    exact fun h=>this (by rw[<-h];rfl)
   refine aV.mk (O3 (bt.ext bm) (by omega) DX) ?_
   rintro aj9 b1 ⟨cr,us,zD,ahM,L1⟩
   simp
   refine c9 (by simpa using(nX.ext cr).row) (by simp) ?_
   rw[xF]
   simp
   refine c9 (by simpa using(bt.ext (bm.aw cr)).row) (by simp) ?_
   have sr:b.length<=a.length:=by
    rcases Nat.lt_or_ge a.length b.length with h | h
    ·have:=k1.u6 bt.2 h;omega
    ·exact h
   obtain⟨d,Dd⟩:∃d,a.length=d+(m+2):=⟨a.length-(m+2),by omega⟩
   have nb:IntKind.i64.wrap ((d:Int)+((m:Int)+2)-((m:Int)+2))=(d:Int):=by rw[b6 (by omega) (by omega)];omega
   have mx:IntKind.i64.wrap ((d:Int)+1)=(d:Int)+1:=b6 (by omega) (by omega)
   have ir:IntKind.i64.wrap (d:Int)=(d:Int):=b6 (by omega) (by omega)
   rw[Dd]
   simp[nb,mx,ir]
   refine rK (e:=124) (U:=1) (bA:=4) (n:=d+1) (aC:=false) (z:= .int .u32 0) (af:=fV) (a:=0) (eW:= .i64) (c4:= .i64) (by simp) (by simp) (by simp) (by simp) (by rfl) (by simp) Gg (by simp) (by simp) (by omega) (by omega) (by omega) (fun aF=>⟨rfl,by decide⟩) ?_
   rintro adn cb SJ c0-
   simp
   refine c9 (by simpa using(bt.ext (bm.aw (cr.aw c0))).row) (by simp) ?_
   rw[Dd]
   simp[nb,ir]
   have Tc:=zD.row.us.2
   obtain⟨cs,⟨fP,cy⟩,TI⟩:=zD
   have gb:cs=fG us:=OZ fP fun _ i x ae=>TI i x ae
   subst gb
   rcases cy with⟨aH,-⟩ | ⟨kv,R,cap,l,all,rfl,-,qT,uy,Kp,bw,e1⟩
   ·omega
   rw[Nat.mul_one]at bw e1
   have De:all=all.take R++(fG us++all.drop (R+us.length)):=by
    rw[e1,<-List.drop_drop,List.take_append_drop,List.take_append_drop]
   have Ap:(all.take R).length=R:=by rw[List.length_take];omega
   generalize all.take R=pre at De Ap
   generalize all.drop (R+us.length)=post at De
   subst De
   have To:=c0.get_some Kp
   have um:0<val aD:=by
    have:=uk.le (by intro e;simp[e]at xF)
    have aa:=Nat.pow_pos (n:=aD.length-1) (show 0<4294967296 by decide)
    omega
   have agS:val aD<4294967296^(m+2):=by have:=j7 nX.2;rwa[xF]at this
   have mv:val (us.drop (d+1))<val aD:=by
    have o:=F3 us (d+1)
    rw[Nat.min_eq_left (by omega)]at o
    have aa:=j7 bt.2
    rw[Dd,show d+(m+2)=d+1+(m+1) by omega,Nat.pow_add]at aa
    have aA:4294967296^(d+1)*val (us.drop (d+1))<4294967296^(d+1)*(4294967296^(m+1)*2^s):=by
     have:val a*2^s<4294967296^(d+1)*4294967296^(m+1)*2^s:=Nat.mul_lt_mul_of_pos_right aa (Nat.pow_pos (by decide))
     rw[Nat.mul_assoc]at this
     omega
    have bo:=Nat.lt_of_mul_lt_mul_left aA
    have bK:4294967296^(m+1)*2^s<=val b*2^s:=Nat.mul_le_mul_right _ Kx.2
    omega
   refine dF.mk (by kernel_rfl) (fun k dh ey dQ=>k<=d+1/\dh 13= .int .i64 ((k:Int)-1)/\Ext aR dQ/\Ext H dQ/\∃dK hU:List Nat,dQ[kv]?=some (.own 124 l (pre++(fG dK++post)))/\dK.length=us.length/\(∀x∈dK,x<4294967296)/\bB b1.length 124 1 false fV dQ adn hU/\hU.length=d+1/\
    val dK+val aD*(4294967296^k*val (hU.drop k))=val us/\val (dK.drop k)<val aD) (d+1) ?_ ?_
   ·refine⟨Nat.le_refl _,by simp,cr.aw c0,bm.aw (cr.aw c0),us,_,To,rfl,Tc,SJ,by simp,?_,mv⟩
    rw[List.drop_eq_nil_of_le (by simp),show val []=0 from rfl,Nat.mul_zero,Nat.mul_zero,Nat.add_zero]
   ·rintro k dh ey dQ ⟨aj,oM,cL,Mi,dK,hU,zP,VH,uO,jx,q6,hinv,uE⟩ K a0
    simp at oM
    simp[oM]
    refine bH.b_ (fun aY=>?_) (fun aY=>?_)
    ·obtain⟨j,rfl⟩:∃j,k=j+1:=⟨k-1,by omega⟩
     have aX:((j+1:Nat):Int)-1=(j:Int):=by omega
     have m2:(j:Int)+1-1=(j:Int):=by omega
     have bk:IntKind.i64.wrap ((j:Int)+((m:Int)+2))=(j:Int)+((m:Int)+2):=b6 (by omega) (by omega)
     have bg:IntKind.i64.wrap ((j:Int)+((m:Int)+2)+1)=((j+m+3:Nat):Int):=by rw[b6 (by omega) (by omega)];omega
     have mS:IntKind.i64.wrap ((j:Int)-1)=(j:Int)-1:=b6 (by omega) (by omega)
     have fW:IntKind.i64.wrap (j:Int)=(j:Int):=b6 (by omega) (by omega)
     try simp
     simp[oM,aX,m2,bk,bg]
     have ag2:us.length<=cap:=qT
     refine OB (b:=kv) (i:=R) (len:=us.length) (cap:=cap) (l:=j) (h:=j+m+3) (e:=124) (U:=1) (by simp) zP rfl (by simp) (by simp) (by simp[dO]) (by simp[e2];omega) (by omega) (by omega) (by omega) ?_
     simp
     obtain⟨nK,bc⟩:∃nK,(dK.drop j).take (m+3)=nK:=⟨_,rfl⟩
     obtain⟨af,br⟩:∃af,(dK.drop j).drop (m+3)=af:=⟨_,rfl⟩
     have uj:nK.length=m+3:=by rw[<-bc];simp;omega
     have SU:af.length=dK.length-(j+(m+3)):=by rw[<-br];simp[Nat.sub_sub]
     have D1:dK=dK.take j++(nK++af):=by rw[<-bc,<-br,List.take_append_drop,List.take_append_drop]
     have S7:∀x∈nK,x<4294967296:=fun x J=>uO x (by rw[D1];simp[J])
     have SV:∀x∈af,x<4294967296:=fun x J=>uO x (by rw[D1];simp[J])
     have LQ:(dK.take j).length=j:=by simp;omega
     have lJ:val (dK.drop j)=val nK+4294967296^(m+3)*val af:=by
      have:dK.drop j=nK++af:=by rw[<-bc,<-br,List.take_append_drop]
      rw[this,nx,uj]
     have KE:val (dK.drop j)<4294967296*val aD:=by
      rw[tj _ _ (by omega)]
      have:=wj (l:=dK) (by decide) uO j
      omega
     have nV:val af=0:=by
      rcases Nat.eq_zero_or_pos (val af)with h | h
      ·exact h
      ·exfalso
       have o:4294967296^(m+3)*1<=4294967296^(m+3)*val af:=Nat.mul_le_mul_left _ h
       have aa:4294967296*val aD<=4294967296*4294967296^(m+2):=Nat.mul_le_mul_left _ (by omega)
       have aA:(4294967296:Nat)^(m+3)=4294967296*4294967296^(m+2):=by rw[Nat.pow_succ,Nat.mul_comm]
       omega
     rw[nV,Nat.mul_zero,Nat.add_zero]at lJ
     have Tk:dQ[kv]?=some (.own 124 l ((pre++fG (dK.take j))++(fG nK++(fG af++post)))):=by
      rw[zP]
      congr 2
      conv=>lhs;rw[D1]
      simp[fG]
     have l8:j+m+3-j=m+3:=by omega
     rw[l8]
     refine aV.mk (QH (m:=m) Tk (by simp[fG,Ap];omega) uj S7 (fun X aQ=>nX.ext (cL.set uy aQ)) xF (by omega) pY (by rw[<-lJ];exact KE)) ?_
     rintro u cS ⟨⟨q,rfl,av⟩,r2,rfl,S6,S8,uk⟩
     have Ar:q<4294967296:=by rw[av,Nat.div_lt_iff_lt_mul um,<-lJ];exact KE
     simp
     have TG:kv<dQ.length:=(cK.1 zP).1
     have Kw:kv<b1.length:=(cK.1 Kp).1
     refine kK (af:=fV) (n:=j) (k:=b1.length) (xs:=hU) (a:=q) (by simpa using jx.Z2 Kw (fun u y h=>h)) (by simp) (by omega) ⟨by simp,Ar⟩ (by simpa using yC _) (by simp) (fun _ _ _ _ _ h=>h) (by simp) (by simp) (by simp) (by decide) ?_
     rintro ru eN eH c1-qZ Ky
     simp at eH Ky
     have KK:∀cx:ab,cx.length<=kv->Ext cx dQ->Ext cx eN:=fun cx aH J=>c1 cx (by omega) (by simpa using J.set aH (X:= .own 124 l ((pre++fG (dK.take j))++(fG r2++(fG af++post)))) (by simp))
     have Tl:eN[kv]?=some (.own 124 l (pre++(fG (dK.take j++(r2++af))++post))):=by
      rw[Ky kv Kw,List.getElem?_set_self TG]
      simp[fG]
     simp[oM,aX]
     refine a0 j _ _ _ (by omega) ⟨by omega,by simp[mS],KK _ uy cL,KK _ (Nat.le_trans bm.len uy) Mi,_,_,Tl,?_,?_,by simpa using eH,by simp[q6],?_,?_⟩
     ·rw[List.length_append,List.length_append,LQ,S6,SU];omega
     ·intro x J
      rcases List.mem_append.1 J with J | J
      ·exact uO x (List.mem_of_mem_take J)
      ·rcases List.mem_append.1 J with J | J
       ·exact S8 x J
       ·exact SV x J
     ·have o:val dK=val (dK.take j)+4294967296^j*val nK:=by
       have:=F3 dK j
       rw[Nat.min_eq_left (by omega),lJ]at this
       exact this
      have aa:val (dK.take j++(r2++af))=val (dK.take j)+4294967296^j*val r2:=by
       rw[nx,nx,LQ,nV,Nat.mul_zero,Nat.add_zero]
      have aA:val ((hU.set j q).drop j)=q+4294967296*val (hU.drop (j+1)):=by
       rw[tj _ _ (by simp;omega),List.getElem?_set_self (by omega),List.drop_set_of_lt (by omega)]
       rfl
      have bo:=Nat.div_add_mod (val nK) (val aD)
      rw[<-av,<-uk]at bo
      rw[aa,aA]
      rw[o,Nat.pow_succ]at hinv
      generalize (4294967296:Nat)^j=E at*
      generalize val (hU.drop (j+1))=Z at*
      have oJ:val aD*(E*(q+4294967296*Z))=E*(val aD*q)+val aD*(E*4294967296*Z):=by grind
      have agB:E*val nK=E*(val aD*q)+E*val r2:=by rw[<-Nat.mul_add,bo]
      omega
     ·have:(dK.take j++(r2++af)).drop j=r2++af:=by
       rw[List.drop_append_of_le_length (by omega),List.drop_eq_nil_of_le (by omega),List.nil_append]
      rw[this,nx,nV,Nat.mul_zero,Nat.add_zero,uk]
      exact Nat.mod_lt _ um
    ·have sA:k=0:=by omega
     subst sA
     simp at hinv uE
     have Tb:cZ dQ 124 (.slice (some ⟨kv,R,none⟩) us.length cap) dK:=by
      refine⟨⟨_,cap,by rw[VH],by omega,by simp,fun _=>⟨kv,R,_,_,rfl,zP,rfl,rfl,?_,?_⟩⟩,uO⟩
      ·simp[fG,Ap]
      ·rw[<-Ap,List.drop_append_of_le_length (Nat.le_refl _),List.drop_length,List.nil_append,Nat.mul_one,List.take_append_of_le_length (by simp[fG])]
       rw[List.take_of_length_le (by simp[fG])]
       rfl
     try simp
     refine aV.mk (lW jx.row.us (by omega)) ?_
     rintro q cS ⟨rfl,hI,z8,pG,sU,-⟩
     refine⟨Ext.refl _,?_⟩
     simp
     refine rL (e:=124) (U:=1) (aC:=false) (l:=0) (h:=m+2) (af:=fV) (xs:=dK) (by simpa using Tb.row) (by simp) (by simp) (.inr rfl) (by simp[dO]) (by simp[e2];omega) (by omega) (by omega) ?_
     intro aj5 al
     simp at al
     simp
     refine aV.mk (lW al.us (by simp;omega)) ?_
     rintro t eN ⟨rfl,lt,a6,S9,sV,-⟩
     simp
     have ahu:lt.length<=m+2:=by
      refine S9.length_le ?_
      rw[sV]
      have:=j7 (l:=dK.take (m+2)) fun x J=>uO x (List.mem_of_mem_take J)
      rw[List.length_take]at this
      exact Nat.lt_of_lt_of_le this (Nat.pow_le_pow_right (by decide) (Nat.min_le_left _ _))
     refine aV.mk (Ra a6 (by omega) DX) ?_
     rintro z fC ⟨dx,u5,z9,mW,na⟩
     simp[bf]
     have VA:val (dK.take (m+2))=val dK:=by
      have o:=F3 dK (m+2)
      rw[Nat.min_eq_left (by omega)]at o
      rcases Nat.eq_zero_or_pos (val (dK.drop (m+2)))with h | h
      ·rw[h,Nat.mul_zero,Nat.add_zero]at o;exact o.symm
      ·have aa:4294967296^(m+2)*1<=4294967296^(m+2)*val (dK.drop (m+2)):=Nat.mul_le_mul_left _ h
       omega
     have jY:0<2^s:=Nat.pow_pos (by decide)
     have U8:val hU=val a/val b:=by
      have o:val us/val aD=val hU:=by
       rw[<-hinv,Nat.add_mul_div_left _ _ um,Nat.div_eq_of_lt uE,Nat.zero_add]
      rw[<-o,L1,iP,Nat.mul_div_mul_right _ _ jY]
     have Au:val dK=(val a % val b)*2^s:=by
      have o:val us % val aD=val dK:=by
       rw[<-hinv,Nat.add_mul_mod_self_left,Nat.mod_eq_of_lt uE]
      rw[<-o,L1,iP,Nat.mul_mod_mul_right]
     exact aE _ _ ⟨Mi.aw dx,_,_,hI,u5,rfl,z8.ext dx,pG,by rw[sU,U8],z9,mW,by rw[na,sV,VA,Au,Nat.mul_div_cancel _ jY]⟩
instance:b7 di:=⟨fun h J=>h.ext J⟩
theorem x2{neg:Bool}{v:Value}{l:List Nat}{H:ab}(ec:cZ H 124 v l)(bc:Trim l):aP prog 92 [.bool neg,v] H (fun w H1=>Ext H H1/\di H1 w (if neg=true then-(val l:Int)else val l)):=by
 obtain⟨a,c,rfl⟩:=ec.len
 exact s5.mono fun w H1 ⟨J,hw⟩=>⟨J,di.mk' hw (ec.ext J) bc⟩
theorem di.whole{H:ab}{v:Value}{z:Int}(h:di H v z):Whole prog 78 v:=by
 obtain⟨a,c,l,rfl,-⟩:=h
 exact⟨by simp,by simp,by simp[e3]⟩
theorem di.us{H:ab}{s:Bool}{v:Value}{z:Int}(h:di H (.agg #[.bool s,v]) z):∃l,s=decide (z<0)/\cZ H 124 v l/\Trim l/\val l=z.natAbs:=by
 obtain⟨a,c,l,he,aa,aA,bo⟩:=h
 simp at he
 obtain⟨rfl,rfl⟩:=he
 exact⟨l,rfl,aa,aA,bo⟩
theorem Zn{a b q r:Int}(ag:b≠0)(av:q=if(!(decide (a<0)==decide (b<0)))=true then-((a.natAbs/b.natAbs:Nat):Int)else((a.natAbs/b.natAbs:Nat):Int))(al:r=if decide (a<0)=true then-((a.natAbs % b.natAbs:Nat):Int)else((a.natAbs % b.natAbs:Nat):Int)):
  (if a.natAbs % b.natAbs=0\/(!(decide (a<0)==decide (b<0)))=false then q else q-1)=a.fdiv b/\(if a.natAbs % b.natAbs=0\/(!(decide (a<0)==decide (b<0)))=false then r else r+b)=a.fmod b:=by
 have hm:a.fmod b=a-b*a.fdiv b:=Int.fmod_def a b
 have key:∀Q:Int,(0<b->b*Q<=a/\a<b*Q+b)->(b<0->a<=b*Q/\b*Q+b<a)->Q=a.fdiv b:=by
  intro Q o aa
  rcases Int.lt_or_lt_of_ne ag with h | h
  ·obtain⟨dm,fZ⟩:=aa h
   have e:a.fdiv b=(-a).fdiv (-b):=by rw[Int.neg_fdiv_neg]
   rw[e,Int.fdiv_eq_ediv_of_nonneg _ (by omega)]
   refine(Int.ediv_eq_iff_of_pos (by omega)).2 ?_ |>.symm
   constructor<;>grind
  ·obtain⟨dm,fZ⟩:=o h
   rw[Int.fdiv_eq_ediv_of_nonneg _ (by omega)]
   refine(Int.ediv_eq_iff_of_pos (by omega)).2 ?_ |>.symm
   constructor<;>grind
 have m0:=Nat.div_add_mod a.natAbs b.natAbs
 have eV:=Nat.mod_lt a.natAbs (show 0<b.natAbs by omega)
 generalize a.natAbs/b.natAbs=x at*
 generalize a.natAbs % b.natAbs=y at*
 have aY:(b.natAbs:Int)*x+y=a.natAbs:=by exact_mod_cast m0
 have aE:(if y=0\/(!(decide (a<0)==decide (b<0)))=false then q else q-1)=a.fdiv b:=by
  refine key _ (fun h=>?_) (fun h=>?_)
  ·have bg:decide (b<0)=false:=by simp;omega
   have bC:(b.natAbs:Int)=b:=by omega
   rw[bC]at aY
   by_cases aO:a<0
   ·have bk:decide (a<0)=true:=by simpa using aO
    have bt:(a.natAbs:Int)= -a:=by omega
    simp[bk,bg]at av⊢
    rw[bt]at aY
    rw[av]
    split
    ·constructor<;>grind
    ·constructor<;>grind
   ·have bk:decide (a<0)=false:=by simpa using aO
    have bt:(a.natAbs:Int)=a:=by omega
    simp[bk,bg]at av⊢
    rw[bt]at aY
    rw[av]
    constructor<;>grind
  ·have bg:decide (b<0)=true:=by simpa using h
   have bC:(b.natAbs:Int)= -b:=by omega
   rw[bC]at aY
   by_cases aO:a<0
   ·have bk:decide (a<0)=true:=by simpa using aO
    have bt:(a.natAbs:Int)= -a:=by omega
    simp[bk,bg]at av⊢
    rw[bt]at aY
    rw[av]
    constructor<;>grind
   ·have bk:decide (a<0)=false:=by simpa using aO
    have bt:(a.natAbs:Int)=a:=by omega
    simp[bk,bg]at av⊢
    rw[bt]at aY
    rw[av]
    split
    ·constructor<;>grind
    ·constructor<;>grind
 refine⟨aE,?_⟩
 rw[hm,<-aE]
 by_cases aO:a<0<;>by_cases c3:b<0
 ·have bt:(a.natAbs:Int)= -a:=by omega
  have bC:(b.natAbs:Int)= -b:=by omega
  rw[bt,bC]at aY
  simp[aO,c3]at av al⊢
  rw[av,al];grind
 ·have bt:(a.natAbs:Int)= -a:=by omega
  have bC:(b.natAbs:Int)=b:=by omega
  rw[bt,bC]at aY
  simp[aO,c3]at av al⊢
  rw[av,al]
  split<;>grind
 ·have bt:(a.natAbs:Int)=a:=by omega
  have bC:(b.natAbs:Int)= -b:=by omega
  rw[bt,bC]at aY
  simp[aO,c3]at av al⊢
  rw[av,al]
  split<;>grind
 ·have bt:(a.natAbs:Int)=a:=by omega
  have bC:(b.natAbs:Int)=b:=by omega
  rw[bt,bC]at aY
  simp[aO,c3]at av al⊢
  rw[av,al];grind
theorem Zo{v w:Value}{a b:Int}{H:ab}(bt:di H v a)(bC:di H w b)(a9:Fits a)(kf:Fits b)(ag:b≠0):aP prog 119 [v,w] H (fun u H1=>Ext H H1/\∃x y,u= .tuple #[x,y]/\di H1 x (a.fdiv b)/\di H1 y (a.fmod b)):=by
 refine aP.b9 fun Q aE=>?_
 apply W3 (by simp)
 have Pe:=bt.whole
 have Pf:=bC.whole
 obtain⟨s1,bY,cQ,cm,rfl⟩:=bt.shape
 obtain⟨s2,cC,cW,cF,rfl⟩:=bC.shape
 obtain⟨c5,rfl,wP,oQ,xD⟩:=bt.us
 obtain⟨da,rfl,zL,k1,sQ⟩:=bC.us
 have ki:=a9.length oQ xD
 have jA:=kf.length k1 sQ
 have Uo:0<da.length:=by rw[k1.pos,sQ];omega
 simp[HJ]
 have bn:Ext H (H++[.dead,.dead,.dead,.dead]):=Ext.more H (by simp)
 refine aV.mk (Nw (wP.ext bn) oQ (zL.ext bn) k1 Uo (by omega) (by omega)) ?_
 rintro u H1 ⟨bx,q,r,hI,u5,rfl,av,pG,sU,al,mW,na⟩
 simp
 rw[xD,sQ]at sU na
 refine aV.mk (x2 av pG) ?_
 rintro x aR ⟨bm,J⟩
 refine⟨bm,?_⟩
 simp
 refine aV.mk (x2 (al.ext bm) mW) ?_
 rintro y bP ⟨bN,aL⟩
 refine⟨bN,?_⟩
 have aQ:=J.ext bN
 simp
 refine cO.mk J.whole ?_
 simp
 refine cO.mk aL.whole ?_
 have c0:Ext H (bP++[.dead,.dead]):=(bn.aw (bx.aw (bm.aw bN))).aw (Ext.more bP (by simp))
 have cL:Ext bP (bP++[.dead,.dead]):=Ext.more bP (by simp)
 have Va:=(al.ext bm).ext (bN.aw cL)
 obtain⟨mu,xt⟩:=Zn (a:=a) (b:=b) (q:=_) (r:=_) ag rfl rfl
 rw[sU]at aQ
 rw[na]at aL
 have z9:0<u5.length↔¬(a.natAbs % b.natAbs=0):=by rw[mW.pos,na];omega
 refine cc.join (by kernel_rfl) (fun cY dW b1=>Ext H b1/\di b1 (dW 8) (a.fdiv b)/\di b1 (dW 9) (a.fmod b)) ?_ ?_
 ·rintro K a0-
  rw[mE]
  refine cc.join (by kernel_rfl) (fun cY dW b1=>b1=bP++[.dead,.dead]/\∃c:Bool,cY 38= .bool c/\(c=true↔¬(a.natAbs % b.natAbs=0\/(!(decide (a<0)==decide (b<0)))=false))) ?_ ?_
  ·rintro cT dT-
   simp
   refine c9 (by simpa using Va.row) (by simp) ?_
   simp
   refine bH.b_ (fun aY=>?_) (fun aY=>?_)
   ·simp[aY]
    refine dT _ _ _ ⟨rfl,(!(decide (a<0)==decide (b<0))),by simp,?_⟩
    have:=z9.1 aY
    simp[this]
   ·simp[aY]
    refine dT _ _ _ ⟨rfl,false,by simp,?_⟩
    have:a.natAbs % b.natAbs=0:=by
     rcases Nat.eq_zero_or_pos (a.natAbs % b.natAbs)with h | h
     ·exact h
     ·exact absurd (z9.2 (by omega)) aY
    simp[this]
  ·rintro cY dW b1 ⟨rfl,c,JQ,ad⟩
   simp at JQ
   simp[JQ]
   refine bH.mk (fun fO=>?_) (fun fO=>?_)
   ·have w0:=ad.1 fO
    rw[if_neg w0]at mu xt
    try simp
    refine aV.mk (vb (by omega) (by omega)) ?_
    rintro R cb ⟨cD,aK⟩
    refine⟨cD,?_⟩
    simp
    have f1:Fits 1:=Fits.small (by decide)
    have U6:Fits (if(!(decide (a<0)==decide (b<0)))=true then-((a.natAbs/b.natAbs:Nat):Int)else((a.natAbs/b.natAbs:Nat):Int)):=by
     have:a.natAbs/b.natAbs<=a.natAbs:=Nat.div_le_self _ _
     unfold Fits at a9⊢
     split<;>omega
    have Vb:Fits (if decide (a<0)=true then-((a.natAbs % b.natAbs:Nat):Int)else((a.natAbs % b.natAbs:Nat):Int)):=by
     have:a.natAbs % b.natAbs<=a.natAbs:=Nat.mod_le _ _
     unfold Fits at a9⊢
     split<;>omega
    refine aV.mk (Og (aQ.ext (cL.aw cD)) aK U6 f1) ?_
    rintro ew dQ ⟨c1,rh⟩
    refine⟨c1,?_⟩
    simp
    refine aV.mk (yY ((aL.ext (cL.aw cD)).ext c1) ((bC.ext c0).ext (cD.aw c1)) Vb kf) ?_
    rintro mH cS ⟨dx,p1⟩
    simp
    refine cO.mk rh.whole ?_
    simp
    refine cO.mk p1.whole ?_
    rw[mu]at rh
    rw[xt]at p1
    exact a0 _ _ _ ⟨c0.aw (cD.aw (c1.aw dx)),by simpa using rh.ext dx,by simpa using p1⟩
   ·have w0:(a.natAbs % b.natAbs=0\/(!(decide (a<0)==decide (b<0)))=false):=by
     apply Classical.byContradiction
     intro h
     rw[ad.2 h]at fO
     cases fO
    rw[if_pos w0]at mu xt
    rw[mu]at aQ
    rw[xt]at aL
    exact a0 _ _ _ ⟨c0,by simpa using aQ.ext cL,by simpa using aL.ext cL⟩
 ·rintro cY dW b1 ⟨J,dj,h0⟩
  simp at dj h0
  simp
  refine cO.mk dj.whole ?_
  simp
  refine cO.mk h0.whole ?_
  simp[bf]
  exact aE _ _ ⟨J,_,_,rfl,dj,h0⟩
theorem JD{v w:Value}{a b:Int}{H:ab}(bt:di H v a)(bC:di H w b)(a9:Fits a)(kf:Fits b):aP prog 102 [v,w] H (fun u H1=>Ext H H1/\di H1 u (Int.gcd a b)):=by
 refine aP.b9 fun Q aE=>?_
 apply W0 (by simp)
 have Pe:=bt.whole
 have Pf:=bC.whole
 obtain⟨s1,bY,cQ,cm,rfl⟩:=bt.shape
 obtain⟨s2,cC,cW,cF,rfl⟩:=bC.shape
 obtain⟨c5,rfl,wP,oQ,xD⟩:=bt.us
 obtain⟨da,rfl,zL,k1,sQ⟩:=bC.us
 have ki:=a9.length oQ xD
 have jA:=kf.length k1 sQ
 simp[HI]
 have bn:Ext H (H++[.dead,.dead,.dead]):=Ext.more H (by simp)
 refine dF.mk (by kernel_rfl) (fun n az bD H1=>Ext H H1/\∃x y:List Nat,n=val y/\cZ H1 124 (az 5) x/\Trim x/\x.length<=1000000/\cZ H1 124 (az 6) y/\Trim y/\y.length<=1000000/\Nat.gcd (val x) (val y)=Int.gcd a b) (val da) ?_ ?_
 ·exact⟨bn,c5,da,rfl,by simpa using wP.ext bn,oQ,ki,by simpa using zL.ext bn,k1,jA,by rw[xD,sQ];rfl⟩
 ·rintro n az bD H1 ⟨bx,x,y,rfl,J,zK,DJ,aL,qQ,uQ,aU⟩ K a0
  simp at J aL
  simp
  refine c9 (by simpa using aL.row) (by simp) ?_
  simp
  refine bH.b_ (fun aY=>?_) (fun aY=>?_)
  ·try simp
   refine aV.mk (Nw J zK aL qQ aY (by omega) (by omega)) ?_
   rintro u aR ⟨bm,q,r,hI,u5,rfl,av,pG,sU,al,mW,na⟩
   simp
   have sW:0<val y:=(qQ.pos).1 aY
   refine a0 (val u5) _ _ _ (by rw[na];exact Nat.mod_lt _ sW) ⟨bx.aw bm,y,u5,rfl,by simpa using aL.ext bm,qQ,uQ,by simpa using al,mW,?_,?_⟩
   ·refine Nat.le_trans (mW.length_le (n:=y.length) ?_) uQ
    rw[na]
    exact Nat.lt_trans (Nat.mod_lt _ sW) (j7 aL.2)
   ·rw[na,<-aU,Nat.gcd_comm (val x) (val y),Nat.gcd_rec (val y) (val x),Nat.gcd_comm]
  ·try simp
   have uZ:y=[]:=List.eq_nil_of_length_eq_zero (by omega)
   subst uZ
   refine aV.mk (x2 J zK) ?_
   rintro u aR ⟨bm,hu⟩
   simp
   refine cO.mk hu.whole ?_
   simp[bf]
   simp[val]at aU
   rw[aU]at hu
   exact aE _ _ ⟨bx.aw bm,by simpa using hu⟩
def ca(H:ab)(v:Value)(q:Rat):Prop:=fm H v q.num q.den
instance:b7 ca:=⟨fun h J=>fm.ext h J⟩
theorem ca.ext{H H1:ab}{v:Value}{q:Rat}(h:ca H v q)(J:Ext H H1):ca H1 v q:=fm.ext h J
theorem fm.whole{H:ab}{v:Value}{n d:Int}(h:fm H v n d):Whole prog 80 v:=by
 obtain⟨s1,bY,cQ,cm,s2,cC,cW,cF,rfl,-⟩:=h.shape
 exact⟨by simp,by simp,by simp[e3]⟩
theorem ca.whole{H:ab}{v:Value}{q:Rat}(h:ca H v q):Whole prog 80 v:=fm.whole h
theorem ca.kept{H aF:ab}{e:Nat}{s v:Value}{q:Rat}(h:ca H v q)(aj:Kept H aF s e)(cN:124≠e):ca aF v q:=fm.kept h aj cN
theorem Fits.le{a b:Int}(a9:Fits a)(h:b.natAbs<=a.natAbs):Fits b:=Nat.lt_of_le_of_lt h a9
def de(N:Nat)(q:Rat):Prop:=q.num.natAbs<2^N/\q.den<2^N
theorem Fits.bits{z:Int}{N:Nat}(h:z.natAbs<2^N)(bX:N<=32000000):Fits z:=by
 exact Zc 1000000 h (by omega)
theorem de.num{N:Nat}{q:Rat}(h:de N q)(bX:N<=32000000):Fits q.num:=Fits.bits h.1 bX
theorem de.den{N:Nat}{q:Rat}(h:de N q)(bX:N<=32000000):Fits q.den:=Fits.bits (z:=q.den) (by simpa using h.2) bX
theorem de.mono{N M:Nat}{q:Rat}(h:de N q)(zC:N<=M):de M q:=⟨Nat.lt_of_lt_of_le h.1 (Nat.pow_le_pow_right (by decide) zC),Nat.lt_of_lt_of_le h.2 (Nat.pow_le_pow_right (by decide) zC)⟩
theorem de.int{N:Nat}{z:Int}(h:z.natAbs<2^N)(bX:0<N):de N (z:Rat):=⟨by rw[Rat.num_intCast];exact h,by rw[Rat.den_intCast];exact Nat.one_lt_two_pow (by omega)⟩
theorem de.neg{N:Nat}{q:Rat}(h:de N q):de N (-q):=⟨by rw[Rat.neg_num,Int.natAbs_neg];exact h.1,h.2⟩
theorem zf(n:Int)(d:Nat)(aB:d≠0):(Rat.divInt n d).num=n/(Nat.gcd n.natAbs d:Nat)/\(Rat.divInt n d).den=d/Nat.gcd n.natAbs d:=by
 rw[Rat.divInt_ofNat,Rat.mkRat_def,dif_neg aB,Rat.normalize_eq aB]
 exact⟨rfl,rfl⟩
theorem de.divInt{N:Nat}{n:Int}{d:Nat}(aB:d≠0)(aG:n.natAbs<2^N)(lI:d<2^N):de N (Rat.divInt n d):=by
 obtain⟨o,aa⟩:=zf n d aB
 refine⟨?_,?_⟩
 ·rw[o,Int.natAbs_ediv_of_dvd (Int.ofNat_dvd_left.2 (Nat.gcd_dvd_left _ _))]
  exact Nat.lt_of_le_of_lt (Nat.div_le_self _ _) aG
 ·rw[aa]
  exact Nat.lt_of_le_of_lt (Nat.div_le_self _ _) lI
theorem de.add{N M:Nat}{a b:Rat}(aO:de N a)(ag:de M b):de (N+M+1) (a+b):=by
 rw[Rat.add_def',<-Rat.divInt_ofNat]
 have o:(a.num*b.den).natAbs<2^(N+M):=by
  rw[Int.natAbs_mul,Int.natAbs_natCast,Nat.pow_add]
  exact Nat.mul_lt_mul'' aO.1 ag.2
 have aa:(b.num*a.den).natAbs<2^(N+M):=by
  rw[Int.natAbs_mul,Int.natAbs_natCast,Nat.add_comm,Nat.pow_add]
  exact Nat.mul_lt_mul'' ag.1 aO.2
 refine de.divInt (Nat.mul_ne_zero a.den_nz b.den_nz) ?_ ?_
 ·rw[Nat.pow_succ]
  have:=Int.natAbs_add_le (a.num*b.den) (b.num*a.den)
  omega
 ·have:a.den*b.den<2^(N+M):=by rw[Nat.pow_add];exact Nat.mul_lt_mul'' aO.2 ag.2
  rw[Nat.pow_succ]
  omega
theorem ED{f:FuncId}{args:List Value}{H:ab}{z:Int}(h:aP prog f args H (fun u H1=>Ext H H1/\di H1 u z)):aP prog f args H (fun u H1=>Ext H H1/\∃s a n c,u= .agg #[.bool s,.slice a n c]/\di H1 (.agg #[.bool s,.slice a n c]) z):=
 h.mono fun u H1 ⟨J,hu⟩=>by
  obtain⟨s,a,n,c,rfl⟩:=hu.shape
  exact⟨J,_,_,_,_,rfl,hu⟩
theorem NN{v w:Value}{a b:Int}{H:ab}(bt:di H v a)(bC:di H w b)(a9:Fits a)(kf:Fits b)(ag:b≠0):aP prog 119 [v,w] H (fun u H1=>Ext H H1/\∃s1 bY cQ cm s2 cC cW cF,u= .tuple #[.agg #[.bool s1,.slice bY cQ cm],.agg #[.bool s2,.slice cC cW cF]]/\di H1 (.agg #[.bool s1,.slice bY cQ cm]) (a.fdiv b)/\di H1 (.agg #[.bool s2,.slice cC cW cF]) (a.fmod b)):=
 (Zo bt bC a9 kf ag).mono fun u H1 ⟨J,x,y,hu,o,aa⟩=>by
  obtain⟨s1,bY,cQ,cm,rfl⟩:=o.shape
  obtain⟨s2,cC,cW,cF,rfl⟩:=aa.shape
  exact⟨J,_,_,_,_,_,_,_,_,hu,o,aa⟩
def vP(H:ab)(v w:Value)(n d:Int):Prop:=∃(dU:Int) (fo lB:Nat) (s1:Bool) (bY:Option Addr) (cQ cm:Nat) (s2:Bool) (cC:Option Addr) (cW cF:Nat),v= .agg #[.bool s1,.slice bY cQ cm]/\w= .agg #[.bool s2,.slice cC cW cF]/\di H (.agg #[.bool s1,.slice bY cQ cm]) dU/\di H (.agg #[.bool s2,.slice cC cW cF]) fo/\Fits dU/\Fits fo/\Fits lB/\
 Int.gcd dU fo=lB/\0<lB/\lB<=fo/\(Rat.divInt n d).num=dU/lB/\(Rat.divInt n d).den=fo/lB/\(lB:Int)∣dU/\lB∣fo/\di H v dU/\di H w fo
theorem vP.mk'{H:ab}{v w:Value}{n d dU:Int}{fo:Nat}(bX:di H v dU)(eU:di H w fo)(zo:Fits dU)(wh:Fits fo)(k4:fo≠0)(m6:Rat.divInt dU fo=Rat.divInt n d):vP H v w n d:=by
 have Dy:0<Nat.gcd dU.natAbs fo:=Nat.gcd_pos_of_pos_right _ (by omega)
 have qW:Nat.gcd dU.natAbs fo<=fo:=Nat.le_of_dvd (by omega) (Nat.gcd_dvd_right _ _)
 obtain⟨jD,jQ⟩:=zf dU fo k4
 have KR:=Nat.gcd_dvd_left dU.natAbs fo
 have KQ:=Nat.gcd_dvd_right dU.natAbs fo
 obtain⟨N2,It,M9,IS,rfl⟩:=bX.shape
 obtain⟨N3,Iu,M_,IT,rfl⟩:=eU.shape
 rw[m6]at jD jQ
 exact⟨dU,fo,Nat.gcd dU.natAbs fo,N2,It,M9,IS,N3,Iu,M_,IT,rfl,rfl,bX,eU,zo,wh,wh.le (by omega),rfl,Dy,qW,jD,jQ,Int.ofNat_dvd_left.2 KR,KQ,bX,eU⟩
theorem Zq{v w:Value}{n d:Int}{H:ab}(bt:di H v n)(bC:di H w d)(fn:Fits n)(fd:Fits d)(aB:d≠0):aP prog 106 [v,w] H (fun u H1=>Ext H H1/\ca H1 u (Rat.divInt n d)):=by
 refine aP.b9 fun Q aE=>?_
 apply Xg (by simp)
 have Pe:=bt.whole
 have Pf:=bC.whole
 have wu:=bt
 have R2:=bC
 obtain⟨s1,bY,cQ,cm,rfl⟩:=bt.shape
 obtain⟨s2,cC,cW,cF,rfl⟩:=bC.shape
 simp[HR]
 have bn:Ext H (H++[.dead,.dead,.dead]):=Ext.more H (by simp)
 refine cc.join (by kernel_rfl) (fun cY dW b1=>Ext H b1/\vP b1 (dW 2) (dW 3) n d) ?_ ?_
 ·rintro K a0 J9
  obtain⟨da,rfl,zL,k1,sQ⟩:=bC.us
  simp
  refine bH.b_ (fun aY=>?_) (fun aY=>?_)
  ·have e:((d.natAbs:Nat):Int)= -d:=by omega
   try simp
   refine aV.mk (AV (bt.ext bn)) ?_
   rintro x H1 ⟨bx,J⟩
   refine⟨bx,?_⟩
   simp
   refine aV.mk (AV (bC.ext (bn.aw bx))) ?_
   rintro y aR ⟨bm,aL⟩
   simp
   refine cO.mk J.whole ?_
   simp
   refine cO.mk aL.whole ?_
   refine a0 _ _ _ ⟨bn.aw (bx.aw bm),vP.mk' (dU:= -n) (fo:=d.natAbs) (by simpa using J.ext bm) (by rw[e];simpa using aL) fn.neg (by rw[e];exact fd.neg) (by omega) (by rw[e,Rat.neg_divInt_neg])⟩
  ·have e:((d.natAbs:Nat):Int)=d:=by omega
   exact a0 _ _ _ ⟨bn,vP.mk' (dU:=n) (fo:=d.natAbs) (by simpa using bt.ext bn) (by rw[e];simpa using bC.ext bn) fn (by rw[e];exact fd) (by omega) (by rw[e])⟩
 ·rintro cY dW b1 ⟨cr,dU,fo,lB,N2,It,M9,IS,N3,Iu,M_,IT,jR,iN,bX,eU,zo,wh,qI,Rr,Dy,qW,jD,jQ,KR,KQ,-,-⟩
  simp at jR iN
  simp[jR,iN]
  refine aV.mk (JD bX eU zo wh) ?_
  rintro g cb ⟨c0,aU⟩
  rw[Rr]at aU
  have f1:Fits 1:=Fits.small (by decide)
  simp
  refine cO.mk aU.whole ?_
  simp
  have cL:Ext cb (cb++[.dead]):=Ext.dead cb
  refine aV.mk (vb (by omega) (by omega)) ?_
  rintro R dQ ⟨cD,aK⟩
  refine⟨cD,?_⟩
  simp
  refine aV.mk (EA (aU.ext (cL.aw cD)) aK qI f1) ?_
  rintro c cS ⟨c1,rfl⟩
  simp
  have En:Ext cb cS:=cL.aw (cD.aw c1)
  have o4:Ext b1 cS:=c0.aw En
  refine bH.b_ (fun ad=>?_) (fun ad=>?_)
  ·have mi:lB=1:=by
    by_cases o:(lB:Int)<1
    ·omega
    ·rw[if_neg o]at ad
     split at ad
     ·omega
     ·cases ad
   rw[mi]at jD jQ
   simp only[Int.natCast_one,Int.ediv_one,Nat.div_one]at jD jQ
   simp[jR,iN]
   simp[bf]
   refine aE _ _ ⟨cr.aw o4,_,_,_,_,rfl,?_,?_⟩
   ·rw[jD];exact bX.ext o4
   ·rw[jQ];exact eU.ext o4
  ·try simp
   have KS:(lB:Int)≠0:=by omega
   simp[jR,iN]
   refine aV.mk (NN (bX.ext o4) (aU.ext En) zo qI KS) ?_
   rintro u eN ⟨dx,t1,gH,j2,bk,t2,kc,ah1,bg,rfl,xm,xr⟩
   simp[iN]
   have fQ:Ext eN (eN++[.dead,.dead]):=Ext.more eN (by simp)
   have Eo:=dx.aw fQ
   refine aV.mk (NN (eU.ext (o4.aw Eo)) (aU.ext (En.aw Eo)) wh qI KS) ?_
   rintro u fC ⟨fY,t3,r5,ah2,fW,t4,Iz,ah3,l8,rfl,n_,pV⟩
   simp
   have gP:Ext fC (fC++[.dead,.dead]):=Ext.more fC (by simp)
   have Lw:=xm.ext (fQ.aw (fY.aw gP))
   have Lx:=n_.ext gP
   have bk:dU.fdiv lB=(Rat.divInt n d).num:=by rw[jD,Int.fdiv_eq_ediv_of_nonneg _ (by omega)]
   have bg:(fo:Int).fdiv lB=((Rat.divInt n d).den:Int):=by rw[jQ,Int.fdiv_eq_ediv_of_nonneg _ (by omega)];rfl
   rw[bk]at Lw
   rw[bg]at Lx
   simp[bf]
   exact aE _ _ ⟨cr.aw (o4.aw (Eo.aw (fY.aw gP))),_,_,_,_,rfl,Lw,Lx⟩
theorem Zz{v:Value}{a:Rat}{H:ab}(bt:ca H v a):aP prog 109 [v] H (fun u H1=>Ext H H1/\ca H1 u (-a)):=by
 refine aP.b9 fun Q aE=>?_
 apply Xb (by simp)
 obtain⟨s1,bY,cQ,cm,s2,cC,cW,cF,rfl,bX,eU⟩:=fm.shape bt
 simp[HO]
 have bn:Ext H (H++[.dead,.dead]):=Ext.more H (by simp)
 refine aV.mk (ED (AV (bX.ext bn))) ?_
 rintro u H1 ⟨bx,lU,eC,j3,eJ,rfl,hu⟩
 refine⟨bx,?_⟩
 simp[bf]
 refine aE _ _ ⟨bn.aw bx,_,_,_,_,rfl,?_,eU.ext (bn.aw bx)⟩
 rw[Rat.neg_num];exact hu
theorem Ff{v w:Value}{a b:Rat}{N M:Nat}{H:ab}(bt:ca H v a)(bC:ca H w b)(ak:de N a)(j5:de M b)(bX:N+M+1<=32000000):aP prog 77 [v,w] H (fun u H1=>Ext H H1/\ca H1 u (a+b)):=by
 refine aP.b9 fun Q aE=>?_
 apply W9 (by simp)
 obtain⟨s1,bY,cQ,cm,s2,cC,cW,cF,rfl,sj,kA⟩:=fm.shape bt
 obtain⟨lU,eC,j3,eJ,qd,qy,Na,qB,rfl,wF,h1⟩:=fm.shape bC
 simp[HM]
 have bn:Ext H (H++[.dead,.dead,.dead]):=Ext.more H (by simp)
 refine cc.join (by kernel_rfl) (fun cY dW b1=>Ext H b1/\cY 10= .bool (decide (a.den=1/\b.den=1))) ?_ ?_
 ·rintro K a0-
  simp
  refine aV.mk (EE (fm.ext bt bn) (by have:=a.den_pos;omega)) ?_
  rintro u H1 ⟨bx,rfl⟩
  simp
  refine bH.b_ (fun ad=>?_) (fun ad=>?_)
  ·simp[ad]
   refine aV.mk (EE (fm.ext bC (bn.aw bx)) (by have:=b.den_pos;omega)) ?_
   rintro u aR ⟨bm,rfl⟩
   simp[ad]
   have gK:a.den=1:=by omega
   refine a0 _ _ _ ⟨bn.aw (bx.aw bm),?_⟩
   simp[gK]
   have:((b.den:Int)=1)↔b.den=1:=by omega
   simp[this]
  ·simp[ad]
   have gK:¬a.den=1:=by omega
   exact a0 _ _ _ ⟨bn.aw bx,by simp[gK]⟩
 ·rintro cY dW b1 ⟨cr,gZ⟩
  simp only[jn]at gZ
  simp at gZ
  have a9:=ak.num (by omega)
  have kf:=j5.num (by omega)
  have Jt:=ak.den (by omega)
  have Ju:=j5.den (by omega)
  simp[gZ]
  refine bH.mk (fun ad=>?_) (fun ad=>?_)
  ·simp at ad
   simp
   refine aV.mk (yY (sj.ext cr) (wF.ext cr) a9 kf) ?_
   rintro u cb ⟨c0,hu⟩
   simp
   refine aV.mk (RL hu) ?_
   rintro u dQ ⟨cL,uW⟩
   simp
   refine cO.mk (fm.whole uW) ?_
   simp[bf]
   refine aE _ _ ⟨cr.aw (c0.aw cL),?_⟩
   have e:a+b=((a.num+b.num:Int):Rat):=by
    rw[Rat.intCast_add]
    congr 1
    ·exact Rat.ext rfl ad.1
    ·exact Rat.ext rfl ad.2
   show fm _ _ _ _
   rw[e,Rat.num_intCast,Rat.den_intCast]
   exact uW
  ·try simp
   refine aV.mk (x8 (sj.ext cr) (h1.ext cr) a9 Ju) ?_
   rintro x cb ⟨c0,J⟩
   refine⟨c0,?_⟩
   simp
   refine aV.mk (x8 (wF.ext (cr.aw c0)) (kA.ext (cr.aw c0)) kf Jt) ?_
   rintro y dQ ⟨cL,aL⟩
   refine⟨cL,?_⟩
   have gH:(a.num*b.den).natAbs<2^(N+M):=by
    rw[Int.natAbs_mul,Int.natAbs_natCast,Nat.pow_add];exact Nat.mul_lt_mul'' ak.1 j5.2
   have kc:(b.num*a.den).natAbs<2^(N+M):=by
    rw[Int.natAbs_mul,Int.natAbs_natCast,Nat.add_comm,Nat.pow_add];exact Nat.mul_lt_mul'' j5.1 ak.2
   have r5:((a.den:Int)*b.den).natAbs<2^(N+M):=by
    rw[Int.natAbs_mul,Int.natAbs_natCast,Int.natAbs_natCast,Nat.pow_add];exact Nat.mul_lt_mul'' ak.2 j5.2
   simp
   refine aV.mk (yY (J.ext cL) aL (Fits.bits gH (by omega)) (Fits.bits kc (by omega))) ?_
   rintro z cS ⟨cD,aM⟩
   refine⟨cD,?_⟩
   simp
   have o4:=cr.aw (c0.aw (cL.aw cD))
   refine aV.mk (x8 (kA.ext o4) (h1.ext o4) Jt Ju) ?_
   rintro w eN ⟨c1,hw⟩
   simp
   have Iz:(a.num*b.den+b.num*a.den).natAbs<2^(N+M+1):=by
    have:=Int.natAbs_add_le (a.num*b.den) (b.num*a.den)
    rw[Nat.pow_succ];omega
   refine aV.mk (Zq (aM.ext c1) hw (Fits.bits Iz (by omega)) (Fits.bits r5 (by omega)) (by have:=Nat.mul_ne_zero a.den_nz b.den_nz;exact_mod_cast this)) ?_
   rintro w fC ⟨dx,L7⟩
   simp
   refine cO.mk L7.whole ?_
   simp[bf]
   refine aE _ _ ⟨o4.aw (c1.aw dx),?_⟩
   rw[Rat.add_def',<-Rat.divInt_ofNat]
   simpa using L7
theorem NH{v w:Value}{a b:Rat}{N:Nat}{H:ab}(bt:ca H v a)(bC:ca H w b)(ak:de N a)(j5:de N b)(bX:N<=1000000):aP prog 77 [v,w] H (fun u H1=>Ext H H1/\ca H1 u (a+b)):=Ff bt bC ak j5 (by omega)
theorem Fh{v w:Value}{a b:Rat}{N:Nat}{H:ab}(bt:ca H v a)(bC:ca H w b)(ak:de N a)(j5:de N b)(bX:N<=1000000):aP prog 87 [v,w] H (fun u H1=>Ext H H1/\ca H1 u (a-b)):=by
 refine aP.b9 fun Q aE=>?_
 apply Xf (by simp)
 obtain⟨s1,bY,cQ,cm,s2,cC,cW,cF,rfl,sj,kA⟩:=fm.shape bt
 obtain⟨lU,eC,j3,eJ,qd,qy,Na,qB,rfl,wF,h1⟩:=fm.shape bC
 simp[HQ]
 have bn:Ext H (H++[.dead,.dead,.dead]):=Ext.more H (by simp)
 refine aV.mk (Zz (bC.ext bn)) ?_
 rintro u H1 ⟨bx,hu⟩
 refine⟨bx,?_⟩
 simp
 refine aV.mk (NH (bt.ext (bn.aw bx)) hu ak j5.neg bX) ?_
 rintro w aR ⟨bm,hw⟩
 simp
 refine cO.mk hw.whole ?_
 simp[bf]
 refine aE _ _ ⟨bn.aw (bx.aw bm),?_⟩
 rw[Rat.sub_eq_add_neg]
 exact hw
theorem NI{v w:Value}{a b:Rat}{N M:Nat}{H:ab}(bt:ca H v a)(bC:ca H w b)(ak:de N a)(j5:de M b)(bX:N+M+1<=32000000):aP prog 35 [v,w] H (fun u H1=>Ext H H1/\u= .int .i64 (if a<b then-1 else if a=b then 0 else 1)):=by
 refine aP.b9 fun Q aE=>?_
 apply W_ (by simp)
 obtain⟨s1,bY,cQ,cm,s2,cC,cW,cF,rfl,sj,kA⟩:=fm.shape bt
 obtain⟨lU,eC,j3,eJ,qd,qy,Na,qB,rfl,wF,h1⟩:=fm.shape bC
 simp[HN]
 have bn:Ext H (H++[.dead,.dead]):=Ext.more H (by simp)
 refine aV.mk (x8 (sj.ext bn) (h1.ext bn) (ak.num (by omega)) (j5.den (by omega))) ?_
 rintro x H1 ⟨bx,J⟩
 refine⟨bx,?_⟩
 simp
 refine aV.mk (x8 (wF.ext (bn.aw bx)) (kA.ext (bn.aw bx)) (j5.num (by omega)) (ak.den (by omega))) ?_
 rintro y aR ⟨bm,aL⟩
 have gH:(a.num*b.den).natAbs<2^(N+M):=by
  rw[Int.natAbs_mul,Int.natAbs_natCast,Nat.pow_add];exact Nat.mul_lt_mul'' ak.1 j5.2
 have kc:(b.num*a.den).natAbs<2^(N+M):=by
  rw[Int.natAbs_mul,Int.natAbs_natCast,Nat.add_comm,Nat.pow_add];exact Nat.mul_lt_mul'' j5.1 ak.2
 simp
 refine aV.mk (EA (J.ext bm) aL (Fits.bits gH (by omega)) (Fits.bits kc (by omega))) ?_
 rintro c bP ⟨bN,rfl⟩
 simp[bf]
 refine aE _ _ ⟨bn.aw (bx.aw (bm.aw bN)),?_⟩
 simp only[Rat.lt_iff,Rat.eq_iff_mul_eq_mul]
theorem A8{v w:Value}{a b:Rat}{N:Nat}{H:ab}(bt:ca H v a)(bC:ca H w b)(ak:de N a)(j5:de N b)(bX:N<=1000000):aP prog 35 [v,w] H (fun u H1=>Ext H H1/\u= .int .i64 (if a<b then-1 else if a=b then 0 else 1)):=NI bt bC ak j5 (by omega)
theorem Fg{v:Value}{a:Rat}{H:ab}(bt:ca H v a):aP prog 75 [v] H (fun u H1=>Ext H H1/\u= .int .i64 (if a<0 then-1 else if a=0 then 0 else 1)):=
 (ZD bt).mono fun u H1 ⟨J,hu⟩=>⟨J,by
  rw[hu]
  have o:a.num=0↔a=0:=Rat.num_eq_zero
  have aa:0<=a.num↔0<=a:=Rat.num_nonneg
  have aA:a.num<0↔a<0:=by rw[<-Int.not_le,aa,Rat.not_le]
  simp only[o,aA]⟩
theorem A_{n:Int}{H:ab}(o: -9223372036854775808<=n)(aa:n<9223372036854775808):aP prog 59 [.int .i64 n] H (fun u H1=>Ext H H1/\ca H1 u (n:Rat)):=
 (ads o aa).mono fun u H1 ⟨J,hu⟩=>⟨J,by show fm _ _ _ _;rw[Rat.num_intCast,Rat.den_intCast];exact hu⟩
theorem aac{v:Value}{a:Int}{H:ab}(bt:di H v a)(aH:a.natAbs<=4611686018427387904):aP prog 37 [v] H (fun u H1=>Ext H H1/\u= .tuple #[.int .i64 a,.bool true]):=by
 refine aP.b9 fun Q aE=>?_
 apply W5 (by simp)
 obtain⟨s1,bY,cQ,cm,rfl⟩:=bt.shape
 obtain⟨l,rfl,ec,bc,an⟩:=bt.us
 have ar:l.length<=2:=bc.length_le (by rw[an];omega)
 simp[HK]
 have bn:Ext H (H++[.dead]):=Ext.more H (by simp)
 refine c9 (by simpa using(ec.ext bn).row) (by simp) ?_
 simp
 refine bH.b_ (fun ad=>by omega) (fun ad=>?_)
 try simp
 refine c9 (by simpa using(ec.ext bn).row) (by simp) ?_
 simp
 refine dF.range (by kernel_rfl) l.length (by omega) (by simp) (by rfl) (by simp) (by decide) (by decide) (fun i bU dp aR=>aR=H++[.dead]/\∃n:Nat,bU 4= .int .u64 n/\n=val (l.take i)) ?_ ?_ ?_
 ·exact⟨rfl,0,by simp,by simp[val]⟩
 ·rintro i bU dp aR ae a5 ⟨rfl,n,bo,aG⟩ K a0
  simp at a5 bo
  simp[a5]
  obtain⟨y,aL⟩:∃y,l[i]?.getD 0=y:=⟨_,rfl⟩
  have xO:l[i]?=some y:=by rw[<-aL,bJ ae];rfl
  have o5:y<4294967296:=aL▸ec.lt i
  refine dc (af:=fV) (n:=i) (by simpa using(ec.ext bn).row) (by simp[a5]) xO (by simp) (by simp) (by simp) (.inr rfl) ?_
  rintro p u ⟨rfl,-⟩
  have rj:IntKind.u64.wrap (y:Int)=(y:Int):=f_ (by omega) (by omega)
  have gO:val (l.take (i+1))=n+4294967296^i*y:=by rw[iV,aL,<-aG]
  have jC:n<4294967296^i:=by
   rw[aG]
   have:=j7 (l:=l.take i) fun x J=>ec.2 x (List.mem_of_mem_take J)
   rwa[List.length_take,Nat.min_eq_left (by omega)]at this
  rcases(show i=0\/i=1 by omega)with rfl | rfl
  ·have UL:n=0:=by simp at jC;exact jC
   subst UL
   have Ak:p9 (0:Int) (y:Int)=(y:Int):=by
    have:=ve (r:=0) (by decide) o5
    simpa using this
   have DK:IntKind.i64.wrap 0=0:=by decide
   simp[a5,bo,rj,DK,Ak]
   exact a0 _ _ _ (by simp[a5]) ⟨rfl,y,by simp,by rw[gO];simp⟩
  ·have DK:IntKind.i64.wrap 32=32:=by decide
   obtain⟨s,ao⟩:∃s,y*4294967296=s:=⟨_,rfl⟩
   have oa:IntKind.u64.wrap ((y:Int)*4294967296)=(s:Int):=by rw[f_ (by omega) (by omega)];omega
   have aX:=ve (r:=y) o5 (show n<4294967296 by simpa using jC)
   rw[ao]at aX
   obtain⟨t,bM⟩:∃t,s+n=t:=⟨_,rfl⟩
   have lK:p9 (n:Int) (s:Int)=(t:Int):=by
    rw[<-bM,<-aX];unfold p9;congr 2;rw[BitVec.or_comm]
   simp[a5,bo,rj,DK,oa,lK]
   exact a0 _ _ _ (by simp[a5]) ⟨rfl,t,by simp,by rw[gO];omega⟩
 ·rintro bU dp aR a5 ⟨rfl,n,bo,aG⟩
  rw[List.take_length,an]at aG
  simp at bo
  simp[bo]
  refine bH.b_ (fun ad=>by omega) (fun ad=>?_)
  try simp
  have Lj:IntKind.i64.wrap (n:Int)=(n:Int):=b6 (by omega) (by omega)
  refine bH.b_ (fun aO=>?_) (fun aO=>?_)
  ·have pT:IntKind.i64.wrap (-(n:Int))= -(n:Int):=b6 (by omega) (by omega)
   simp[bo,Lj,pT,bf]
   refine aE _ _ ⟨bn,?_⟩
   congr 4
   omega
  ·simp[bo,Lj,bf]
   refine aE _ _ ⟨bn,?_⟩
   congr 4
   omega
def cf(l:List Nat):ByteArray:=⟨(l.map UInt8.ofNat).toArray⟩
def Bytes(l:List Nat):Prop:=∀x∈l,x<256
theorem ju(l:List Nat):(cf l).size=l.length:=by simp[cf,ByteArray.size]
theorem P8(l:List Nat)(h:Bytes l)(i:Nat)(ae:i<l.length):((cf l).data.getD i 0).toNat=l[i]?.getD 0:=by
 have J:=h l[i] (List.getElem_mem ae)
 simp only[cf,Array.getD_eq_getD_getElem?,List.getElem?_toArray,List.getElem?_map,bJ ae,Option.map_some,Option.getD_some]
 simp[UInt8.toNat_ofNat,Nat.mod_eq_of_lt J]
theorem tF(l:List Nat):(cf l).toList=l.map UInt8.ofNat:=by
 rw[ByteArray.toList_eq]
 simp[cf]
theorem P7(a b:List Nat):cf a++cf b=cf (a++b):=by
 apply ByteArray.ext
 simp[cf]
theorem qA(l:List Nat)(i j:Nat):(cf l).extract i j=cf ((l.drop i).take (j-i)):=by
 apply ByteArray.ext
 simp[cf,List.map_drop,List.map_take]
theorem ofNat_inj{x y:Nat}(J:x<256)(aL:y<256)(h:UInt8.ofNat x=UInt8.ofNat y):x=y:=by
 have:=congrArg UInt8.toNat h
 simpa[UInt8.toNat_ofNat,Nat.mod_eq_of_lt J,Nat.mod_eq_of_lt aL]using this
theorem IM{a b:List Nat}(aO:Bytes a)(ag:Bytes b):((cf a).toList==(cf b).toList)=decide (a=b):=by
 rw[tF,tF]
 by_cases h:a=b
 ·subst h;simp
 ·rw[decide_eq_false h,beq_eq_false_iff_ne]
  intro e
  apply h
  apply List.ext_getElem?
  intro i
  have:=congrArg (fun l:List UInt8=>l[i]?) e
  simp only[List.getElem?_map]at this
  cases o:a[i]? with
  | none=>
   cases aa:b[i]? with
   | none=>rfl
   | some y=>rw[o,aa]at this;cases this
  | some x=>
   cases aa:b[i]? with
   | none=>rw[o,aa]at this;simp at this
   | some y=>
    rw[o,aa]at this
    simp only[Option.map_some,Option.some.injEq]at this
    rw[ofNat_inj (aO x (List.mem_of_getElem? o)) (ag y (List.mem_of_getElem? aa)) this]
theorem Of(l:List Nat):strOfNums (l.map fun n:Nat=>(n:Int))=cf l:=by
 apply ByteArray.ext
 simp[strOfNums,cf]
def mO(H:ab)(v:Value)(n:Nat):Prop:=v= .int .u8 (n:Int)/\n<256
instance:b7 mO:=⟨fun h _=>h⟩
theorem Ge(n:Int):Whole prog 5 (.int .u8 n):=⟨by kernel_rfl,rfl,by rw[if_neg (by simp[e3])];exact⟨by kernel_rfl,rfl⟩⟩
theorem Row.bytes{H:ab}{e:Nat}{v:Value}{l:List Nat}(h:Row e 1 false mO H v l):ep H e 1 v l.length ((l.map fun n:Nat=>(n:Int)).map (Value.int .u8))/\Bytes l:=by
 obtain⟨cs,o,aa⟩:=h
 have gb:cs=(l.map fun n:Nat=>(n:Int)).map (Value.int .u8):=by
  obtain⟨a,cap,an,aA,bo,bK⟩:=o
  apply List.ext_getElem?
  intro i
  by_cases ae:i<l.length
  ·have:=(aa i _ (bJ ae)).1
   simp only[et,Bool.false_eq_true,if_false]at this
   rw[bJ (by omega)]at this⊢
   simp only[Option.getD_some]at this
   rw[this]
   simp[bJ ae]
  ·rw[List.getElem?_eq_none (by omega),List.getElem?_eq_none (by simp;omega)]
 subst gb
 exact⟨o,fun x J=>by obtain⟨i,ae⟩:=List.getElem?_of_mem J;exact(aa i x ae).2⟩
theorem Zy{k:Nat}{v:Value}{xs:List Nat}{H:ab}(cy:bB k 5 1 false mO H v xs)(ar:xs.length<4611686018427387904):
  aP prog 108 [v] H (fun u H1=>u= .tuple #[]/\bB k 5 1 false mO H1 v xs.reverse/\∀cx:ab,cx.length<=k->Ext cx H->Ext cx H1):=by
 refine aP.b9 fun Q aE=>?_
 apply XY (by simp)
 simp[Ik]
 refine c9 (by simpa using cy.row) (by simp) ?_
 have aG:IntKind.i64.wrap ((xs.length:Int)-1)=(xs.length:Int)-1:=b6 (by omega) (by omega)
 simp[aG]
 refine dF.mk (by kernel_rfl) (fun m az bD H1=>∃(i:Nat) (bO:List Nat),m=xs.length-2*i/\az 2= .int .i64 i/\az 3= .int .i64 ((xs.length:Int)-1-i)/\i<=xs.length/\2*i<=xs.length+1/\bB k 5 1 false mO H1 v bO/\bO.length=xs.length/\(∀cx:ab,cx.length<=k->Ext cx H->Ext cx H1)/\
  ∀j,j<xs.length->bO[j]?=if j<i\/xs.length-1-i<j then xs[xs.length-1-j]? else xs[j]?) xs.length ?_ ?_
 ·refine⟨0,xs,by omega,by simp,by simp,by omega,by omega,cy,rfl,fun _ _ h=>h,fun j aX=>?_⟩
  rw[if_neg (by omega)]
 ·rintro m az bD H1 ⟨i,bO,rfl,aa,aA,ae,h5,iJ,o5,bx,nf⟩ K a0
  simp at aa aA
  simp[aa,aA]
  refine bH.b_ (fun ad=>?_) (fun ad=>?_)
  ·obtain⟨j,aX⟩:∃j,xs.length-1-i=j:=⟨_,rfl⟩
   have fE:(xs.length:Int)-1-i=(j:Int):=by omega
   rw[fE]at aA ad
   obtain⟨a,aO⟩:∃a,bO[j]?=some a:=⟨_,bJ (by omega)⟩
   obtain⟨b,ag⟩:∃b,bO[i]?=some b:=⟨_,bJ (by omega)⟩
   have bk:IntKind.i64.wrap ((i:Int)+1)=(i:Int)+1:=b6 (by omega) (by omega)
   have bg:IntKind.i64.wrap ((j:Int)-1)=(j:Int)-1:=b6 (by omega) (by omega)
   try simp
   simp[aa,aA]
   refine dc (af:=mO) (n:=j) (by simpa using iJ.row) (by simp) aO (by simp) (by simp) (by simp) (.inr rfl) ?_
   rintro dm mF ⟨rfl,Tr⟩
   simp[aa,aA]
   refine dc (af:=mO) (n:=i) (by simpa using iJ.row) (by simp) ag (by simp) (by simp) (by simp) (.inr rfl) ?_
   rintro fZ ln ⟨rfl,Tw⟩
   refine kK (af:=mO) (n:=i) (a:=a) (by simpa using iJ) (by simp) (by omega) ⟨by simp,Tr⟩ (by simpa using Ge _) (by simp) (fun _ _ _ _ _ h=>h) (by simp) (by simp) (by simp) (by decide) ?_
   rintro eM aR fI bm- - -
   simp at fI
   refine kK (af:=mO) (n:=j) (a:=b) (by simpa using fI) (by simp) (by simp;omega) ⟨by simp,Tw⟩ (by simpa using Ge _) (by simp) (fun _ _ _ _ _ h=>h) (by simp) (by simp) (by simp) (by decide) ?_
   rintro gC bP hi bN- - -
   simp at hi
   simp[aa,aA,bk,bg]
   refine a0 (xs.length-2*(i+1)) _ _ _ (by omega) ⟨i+1,_,rfl,by simp,by simp;omega,by omega,by omega,by simpa using hi,by simp[o5],fun cx aH J=>bN cx aH (bm cx aH (bx cx aH J)),fun t bM=>?_⟩
   have Mw:=nf j (by omega)
   have Mv:=nf i (by omega)
   rw[if_neg (by omega),aO]at Mw
   rw[if_neg (by omega),ag]at Mv
   by_cases AA:t=j
   ·subst AA
    rw[List.getElem?_set_self (by simp;omega),if_pos (by omega),show xs.length-1-t=i by omega,Mv]
   ·rw[List.getElem?_set_ne (Ne.symm AA)]
    by_cases Az:t=i
    ·subst Az
     rw[List.getElem?_set_self (by omega),if_pos (by omega),aX,Mw]
    ·rw[List.getElem?_set_ne (Ne.symm Az),nf t bM]
     by_cases av:t<i\/xs.length-1-i<t
     ·rw[if_pos av,if_pos (by omega)]
     ·rw[if_neg av,if_neg (by omega)]
  ·try simp
   simp[bf]
   refine aE _ _ ⟨rfl,?_,bx⟩
   have:bO=xs.reverse:=by
    apply List.ext_getElem?
    intro t
    by_cases bM:t<xs.length
    ·rw[nf t bM,List.getElem?_reverse bM]
     split
     ·rfl
     ·have:t=xs.length-1-t:=by omega
      rw[<-this]
    ·rw[List.getElem?_eq_none (by omega),List.getElem?_eq_none (by simp;omega)]
   rw[<-this]
   exact iJ
def iT(n:Nat):List Nat:=if h:n=0 then[]else(48+n % 10)::iT (n/10)
termination_by n
decreasing_by omega
theorem vk:iT 0=[]:=by unfold iT;simp
theorem Bc{n:Nat}(h:0<n):iT n=(48+n % 10)::iT (n/10):=by
 conv=>lhs;unfold iT
 rw[dif_neg (by omega)]
theorem Zr(n:Nat):Bytes (iT n):=by
 induction n using Nat.strongRecOn with
 | _ n a2=>
  rcases Nat.eq_zero_or_pos n with h | h
  ·subst h;rw[vk];intro x J;cases J
  ·rw[Bc h]
   intro x J
   rcases List.mem_cons.1 J with rfl | J
   ·omega
   ·exact a2 (n/10) (by omega) x J
theorem NQ(n k:Nat)(h:n<10^k):(iT n).length<=k:=by
 induction k generalizing n with
 | zero=>simp at h;subst h;rw[vk];simp
 | succ k a2=>
  rcases Nat.eq_zero_or_pos n with aH | aH
  ·subst aH;rw[vk];simp
  ·rw[Bc aH]
   simp only[List.length_cons]
   have:=a2 (n/10) (by rw[Nat.pow_succ]at h;omega)
   omega
def dec(n:Nat):List Nat:=if n=0 then[48]else(iT n).reverse
theorem Jc(n:Nat):Bytes (dec n):=by
 unfold dec
 split
 ·intro x J;simp at J;omega
 ·intro x J;exact Zr n x (by simpa using J)
@[simp] theorem afM:hg undef=none:=rfl
@[simp] theorem aeQ(w:Bool)(dr cT:Prop)(ax:ba dr cT):oA dr cT ax none w=cT:=by unfold oA nB;simp
theorem aax{v:Value}{x:List Nat}{H:ab}(aQ:cZ H 124 v x)(bc:Trim x)(ar:x.length<=1000000):aP prog 78 [v] H (fun u H1=>Ext H H1/\u= .string (cf (dec (val x)))):=by
 refine aP.b9 fun Q aE=>?_
 apply Xr (by simp)
 simp[HW]
 refine c9 (by simpa using aQ.row) (by simp) ?_
 simp
 refine bH.b_ (fun ad=>?_) (fun ad=>?_)
 ·have bn:x=[]:=by simpa using ad
  subst bn
  simp[bf]
  exact aE _ _ ⟨Ext.refl _,by rw[show dec (val [])=[48]from by simp[dec,val]];rfl⟩
 try simp
 have h6:0<val x:=bc.pos.1 (by
  rcases Nat.eq_zero_or_pos x.length with h | h
  ·exact absurd (by simpa using h) ad
  ·exact h)
 have ag7:(iT (val x)).length<100000000:=by
  have o:=Zg 1000000 (j7 aQ.2) ar
  have:=NQ _ _ o
  omega
 refine dF.mk (by kernel_rfl) (fun n az bD H1=>Ext H H1/\∃(y b:List Nat),n=val y/\cZ H1 124 (az 0) y/\Trim y/\y.length<=1000000/\bB H.length 5 1 false mO H1 (az 3) b/\iT (val x)=b++iT (val y)) (val x) ?_ ?_
 ·exact⟨Ext.refl _,x,[],rfl,by simpa using aQ,bc,ar,by simpa using bB.nil _ _ _ _ _ _,rfl⟩
 ·rintro n az bD H1 ⟨bx,y,b,rfl,aL,qQ,uQ,ag,aB⟩ K a0
  simp at aL ag
  simp
  refine c9 (by simpa using aL.row) (by simp) ?_
  simp
  refine bH.b_ (fun aY=>?_) (fun aY=>?_)
  ·try simp
   have sW:0<val y:=qQ.pos.1 aY
   refine aV.mk (IQ (w:=1000000000) aL (by omega) (by decide) (by decide)) ?_
   rintro u aR ⟨bm,q,hI,rfl,av,pG,sU⟩
   obtain⟨fz,g9⟩:∃fz,val y % 1000000000=fz:=⟨_,rfl⟩
   have U_:fz<1000000000:=by rw[<-g9];exact Nat.mod_lt _ (by decide)
   rw[g9]
   simp
   have jb:val y=val hI*1000000000+fz:=by have:=Nat.div_add_mod (val y) 1000000000;rw[sU];omega
   refine dF.mk (by kernel_rfl) (fun m dh ey bP=>cZ bP 124 q hI/\Ext H bP/\∃(r:Nat) (cu:List Nat),m<=9/\dh 6= .int .i64 ((9-m:Nat):Int)/\dh 5= .int .u32 r/\r<10^m/\bB H.length 5 1 false mO bP (dh 3) cu/\iT (val x)=cu++iT (val hI*10^m+r)) 9 ?_ ?_
   ·refine⟨av,bx.aw bm,fz,b,by omega,by simp,by simp,by omega,by simpa using b7.ext ag bm,?_⟩
    rw[aB,jb]
   ·rintro m dh ey bP ⟨bN,xK,r,cu,hm,dM,bK,al,c3,k4⟩ cT dT
    simp at dM bK c3
    simp only[mE]
    refine cc.join (by kernel_rfl) (fun cY dW b1=>b1=bP/\∃c:Bool,cY 28= .bool c/\(c=true↔0<m/\(0<hI.length\/0<r))) ?_ ?_
    ·rintro nG fX-
     rcases Nat.eq_zero_or_pos m with aH | aH
     ·have qH:(((9-m:Nat):Int)<9)=False:=by simp;omega
      simp[dM,qH]
      refine fX _ _ _ ⟨rfl,false,by simp,?_⟩
      simp[aH]
     ·have qH:(((9-m:Nat):Int)<9)=True:=by simp;omega
      simp[dM,qH]
      refine c9 (by simpa using bN.row) (by simp) ?_
      rcases Nat.eq_zero_or_pos hI.length with pO | pO
      ·simp[dM,qH,pO,bK]
       refine fX _ _ _ ⟨rfl,decide (0<r),by simp,?_⟩
       simp[aH,pO]
      ·have zh:((0:Int)<(hI.length:Int))=True:=by simp;omega
       simp[dM,qH,pO,zh]
       refine fX _ _ _ ⟨rfl,true,by simp,?_⟩
       simp[aH,pO]
    ·rintro cY dW b1 ⟨rfl,c,JN,ad⟩
     simp at JN
     simp[JN]
     refine bH.mk (fun fO=>?_) (fun fO=>?_)
     ·have wZ:=ad.1 fO
      obtain⟨mz,rfl⟩:∃mz,m=mz+1:=⟨m-1,by omega⟩
      try simp
      have bk:IntKind.u32.wrap (48+((r % 10:Nat):Int))=((48+r % 10:Nat):Int):=by rw[lY (by omega) (by omega)];omega
      have bg:((r:Int).tmod 10)=((r % 10:Nat):Int):=rfl
      have fW:((r:Int).tdiv 10)=((r/10:Nat):Int):=rfl
      obtain⟨ze,uD⟩:∃ze,r % 10=ze:=⟨_,rfl⟩
      obtain⟨dP,fx⟩:∃dP,r/10=dP:=⟨_,rfl⟩
      rw[uD]at bk bg
      rw[fx]at fW
      obtain⟨tH,KA⟩:∃tH,48+ze=tH:=⟨_,rfl⟩
      rw[KA]at bk
      have lM:r<4294967296:=by
       have:10^(mz+1)<=10^9:=Nat.pow_le_pow_right (by decide) hm
       omega
      have l8:IntKind.u8.wrap (tH:Int)=(tH:Int):=BK (by omega) (by omega)
      have mS:IntKind.u32.wrap (dP:Int)=(dP:Int):=lY (by omega) (by omega)
      simp[bK,bk,bg,l8]
      refine qh (af:=mO) (xs:=cu) (a:=tH) (k:=H.length) (e:=5) (U:=1) (bA:=1) (aC:=false) (z:= .int .u8 0) (by simpa using c3) ⟨by simp,by omega⟩ (by simpa using Ge _) (by simp) (fun _ _ _ _ _ h=>h) (by simp) (by simp) (by simp) (by simp) (by simp) (by simp) (by simp) (by rfl) (by rfl) (by decide) (by decide) (by decide) ?_ (Ext.len xK) ?_
      ·have:cu.length<=(iT (val x)).length:=by rw[k4];simp
       omega
      rintro p au cb pD c0 DE
      have oJ:IntKind.i64.wrap (((9-(mz+1):Nat):Int)+1)=((9-mz:Nat):Int):=by rw[b6 (by omega) (by omega)];omega
      simp at oJ
      simp[bK,fW,mS,dM,oJ]
      obtain⟨P,kZ⟩:∃P,10^mz=P:=⟨_,rfl⟩
      have SK:10^(mz+1)=P*10:=by rw[Nat.pow_succ,kZ]
      rw[SK]at al k4
      have SM:0<P:=by rw[<-kZ];exact Nat.pow_pos (by decide)
      refine dT mz _ _ _ (by omega) ⟨⟨bN.1.kept DE (by decide),bN.2⟩,c0 _ (Nat.le_refl _) xK,dP,cu++[tH],by omega,by simp[oJ],by simp,by rw[kZ];omega,by simpa using pD,?_⟩
      rw[kZ]
      rw[k4]
      have cg:val hI*(P*10)+r=(val hI*P)*10+r:=by rw[Nat.mul_assoc]
      rw[cg]
      rw[Bc (n:=(val hI*P)*10+r) (by
       rcases wZ.2 with h | h
       ·have dj:=pG.pos.1 h
        have h0:=Nat.mul_pos dj SM
        omega
       ·omega)]
      have gZ:(val hI*P*10+r) % 10=ze:=by omega
      have ma:(val hI*P*10+r)/10=val hI*P+dP:=by omega
      rw[gZ,ma,KA]
      simp
     ·try simp
      have Sy:val hI*10^m+r=val hI:=by
       have aG:¬(0<m/\(0<hI.length\/0<r)):=fun h=>by rw[ad.2 h]at fO;cases fO
       rcases Nat.eq_zero_or_pos m with aH | aH
       ·subst aH;simp at al⊢;omega
       ·have o:¬0<hI.length:=fun h=>aG ⟨aH,Or.inl h⟩
        have aa:¬0<r:=fun h=>aG ⟨aH,Or.inr h⟩
        have aA:val hI=0:=by
         rcases Nat.eq_zero_or_pos (val hI)with h | h
         ·exact h
         ·exact absurd (pG.pos.2 h) o
        rw[aA];omega
      rw[Sy]at k4
      refine a0 (val hI) _ _ _ (by omega) ⟨xK,hI,cu,rfl,by simpa using bN,pG,?_,by simpa using c3,k4⟩
      rcases Nat.lt_or_ge y.length hI.length with h | h
      ·have:=Trim.u6 pG aL.2 h
       omega
      ·omega
  ·try simp
   have uZ:val y=0:=by
    rcases Nat.eq_zero_or_pos (val y)with h | h
    ·exact h
    ·exact absurd (qQ.pos.2 h) aY
   rw[uZ,vk,List.append_nil]at aB
   refine aV.mk (Zy ag (by rw[<-aB];omega)) ?_
   rintro u aR ⟨rfl,lG,bm⟩
   have oR:=lG.row.bytes
   simp only[List.length_reverse]at oR
   simp
   refine aaM (xs:=b.reverse.map fun n:Nat=>(n:Int)) (by rfl) (by rfl) (by rfl) (by simpa using oR.1) ?_
   simp[bf,Of]
   refine aE _ _ ⟨bm _ (Nat.le_refl _) bx,?_⟩
   rw[<-List.map_reverse,Of,<-aB]
   unfold dec
   rw[if_neg (by omega)]
variable {P:Program} {r:List bz} {Q:Fr->ab->Prop} {F:Fr} {H:ab}
theorem ix{d t:Nat}{x:Operand}{l:List Nat}{ax:ba (bF d t x::r) Q}(an:aq F x= .string (cf l))(bM:iw P t=true)(K:a_ P r Q .mk (a4 F d (.int .i64 l.length)) H):a_ P (bF d t x::r) Q ax F H:=by
 rw[hX,an,Yj,if_pos bM,ju]
 exact K
theorem Cg{a b:List Nat}(h:a.length+b.length<=9223372036854775807):(if(cf a).size+(cf b).size<=9223372036854775807 then some (Value.string (cf a++cf b))else none)=some (.string (cf (a++b))):=by
 rw[ju,ju,if_pos h,P7]
theorem MP:({data:= #[45]}:ByteArray)=cf [45]:=rfl
theorem MQ:({data:= #[47]}:ByteArray)=cf [47]:=rfl
def gh(q:Rat):List Nat:=(if q.num<0 then[45]else[])++dec q.num.natAbs++(if q.den=1 then[]else 47::dec q.den)
def kR(q:Rat):Prop:=(dec q.num.natAbs).length<=4000/\(q.den=1\/(dec q.den).length<=4000)
instance(q:Rat):Decidable (kR q):=by unfold kR;exact inferInstance
theorem On{v:Value}{x d:List Nat}{H:ab}(aQ:cZ H 124 v x)(bc:Trim x)(ar:x.length<=1000000)(aB:dec (val x)=d):aP prog 78 [v] H (fun u H1=>Ext H H1/\u= .string (cf d)):=by
 subst aB
 exact aax aQ bc ar
theorem NX{v:Value}{q:Rat}{N:Nat}{H:ab}(an:ca H v q)(ao:de N q)(bX:N<=32000000):
  aP prog 51 [v] H (fun u H1=>Ext H H1/\u=if kR q then .tuple #[.string (cf (gh q)),.int .i64 0]else .tuple #[.string (cf []),.int .i64 5]):=by
 refine aP.b9 fun Q aE=>?_
 apply Xc (by simp)
 have Ct:=ao.num bX
 have zk:=ao.den bX
 have Ea:=an
 obtain⟨s1,bY,cQ,cm,s2,cC,cW,cF,rfl,o,aa⟩:=an.shape
 obtain⟨AM,rfl,C_,k0,m_⟩:=o.us
 obtain⟨AN,rfl,sm,h3,h8⟩:=aa.us
 obtain⟨d1,h4⟩:∃d,dec q.num.natAbs=d:=⟨_,rfl⟩
 obtain⟨d2,lI⟩:∃d,dec q.den=d:=⟨_,rfl⟩
 simp[HP]
 have bn:Ext H (H++[.dead]):=Ext.more H (by simp)
 refine aV.mk (On (d:=d1) (C_.ext bn) k0 (Ct.length k0 m_) (by rw[m_,h4])) ?_
 rintro u H1 ⟨bx,rfl⟩
 simp
 refine ix (l:=d1) (by simp) (by rfl) ?_
 simp
 refine bH.b_ (fun ad=>?_) (fun ad=>?_)
 ·try simp
  simp[bf]
  refine aE _ _ ⟨bn.aw bx,?_⟩
  rw[if_neg (by unfold kR;rw[h4];omega)]
  rfl
 try simp
 refine cc.join (by kernel_rfl) (fun cY dW b1=>b1=H1/\cY 4= .string (cf ((if q.num<0 then[45]else[])++d1))) ?_ ?_
 ·rintro K a0-
  simp
  refine bH.b_ (fun ao=>?_) (fun ao=>?_)
  ·simp[MP,Cg (a:=[45]) (b:=d1) (by simp;omega)]
   refine a0 _ _ _ ⟨rfl,?_⟩
   simp[ao]
  ·try simp
   refine a0 _ _ _ ⟨rfl,?_⟩
   simp[ao]
 ·rintro cY dW b1 ⟨rfl,bo⟩
  simp at bo
  simp
  have VK:=ca.ext Ea (bn.aw bx)
  refine aV.mk (EE VK (by have:=q.den_pos;omega)) ?_
  rintro u aR ⟨bm,rfl⟩
  simp
  refine bH.b_ (fun ae=>?_) (fun ae=>?_)
  ·have gd:q.den=1:=by omega
   try simp
   simp[bf]
   refine aE _ _ ⟨bn.aw (bx.aw bm),?_⟩
   rw[if_pos ⟨by rw[h4];omega,Or.inl gd⟩]
   simp[gh,gd,h4,bo]
  have gd:¬q.den=1:=by omega
  try simp
  refine aV.mk (On (d:=d2) (sm.ext (bn.aw (bx.aw bm))) h3 (zk.length h3 h8) (by rw[h8];simpa using lI)) ?_
  rintro u bP ⟨bN,rfl⟩
  simp
  refine ix (l:=d2) (by simp) (by rfl) ?_
  simp
  refine bH.b_ (fun mZ=>?_) (fun mZ=>?_)
  ·try simp
   simp[bf]
   refine aE _ _ ⟨bn.aw (bx.aw (bm.aw bN)),?_⟩
   rw[if_neg (by unfold kR;rw[h4,lI];omega)]
   rfl
  ·obtain⟨Fv,sN⟩:∃l,((if q.num<0 then[45]else[])++d1:List Nat)=l:=⟨_,rfl⟩
   have lO:Fv.length<=1+d1.length:=by rw[<-sN];split<;>simp<;>omega
   rw[sN]at bo
   simp[bo,MQ,Cg (a:=Fv) (b:=[47]) (by simp;omega),Cg (a:=Fv++[47]) (b:=d2) (by simp;omega),bf]
   refine aE _ _ ⟨bn.aw (bx.aw (bm.aw bN)),?_⟩
   rw[if_pos ⟨by rw[h4];omega,Or.inr (by rw[lI];omega)⟩]
   simp[gh,gd,h4,lI,<-sN]
def c6(c:Nat):List Nat->List Nat×Option (List Nat)
 | []=>([],none)
 | x::r=>if x=c then([],some r)else(x::(c6 c r).1,(c6 c r).2)
theorem tK{c:Nat}{l r:List Nat}(h:(c6 c l).2=some r):l=(c6 c l).1++c::r:=by
 induction l with
 | nil=>simp[c6]at h
 | cons x l a2=>
  unfold c6 at h⊢
  split at h
  ·next J=>simp at h;subst h;simp[J]
  ·next J=>simp[J];exact a2 h
theorem tJ{c:Nat}{l:List Nat}(h:(c6 c l).2=none):(c6 c l).1=l:=by
 induction l with
 | nil=>simp[c6]
 | cons x l a2=>
  unfold c6 at h⊢
  split at h
  ·simp at h
  ·next J=>simp[J];exact a2 h
theorem Jb{c:Nat}(l:List Nat):c∉(c6 c l).1:=by
 induction l with
 | nil=>simp[c6]
 | cons x l a2=>
  unfold c6
  split
  ·simp
  ·next J=>simp;exact⟨fun h=>J h.symm,a2⟩
theorem P9(l:List Nat)(i:Nat)(ae:i<l.length):(cf l)[i]! =UInt8.ofNat l[i]:=by
 have o:i<(cf l).size:=by rw[ju];exact ae
 rw[getElem!_pos (cf l) i o]
 simp[cf,ByteArray.getElem_eq_getElem_data]
theorem RH{c:Nat}{l:List Nat}(ar:Bytes l)(ad:c<256):((List.range (cf l).size).find? fun i=>(cf l)[i]! ==UInt8.ofNat c)=(c6 c l).2.map fun _=>(c6 c l).1.length:=by
 rw[ju]
 have key:∀i (ae:i<l.length),((cf l)[i]! ==UInt8.ofNat c)=decide (l[i]=c):=by
  intro i ae
  rw[P9 l i ae]
  by_cases h:l[i]=c
  ·rw[h];simp
  ·rw[decide_eq_false h,beq_eq_false_iff_ne]
   intro e
   exact h (ofNat_inj (ar _ (List.getElem_mem ae)) ad e)
 cases al:(c6 c l).2 with
 | none=>
  rw[Option.map_none,List.find?_range_eq_none]
  intro i ae
  rw[key i ae]
  have o:=tJ al
  have aa:=Jb (c:=c) l
  rw[o]at aa
  have:l[i]≠c:=fun e=>aa (e▸List.getElem_mem ae)
  simp[this]
 | some r=>
  rw[Option.map_some,List.find?_range_eq_some]
  have o:=tK al
  have aa:=Jb (c:=c) l
  generalize (c6 c l).1=a at o aa
  subst o
  refine⟨?_,by simp,?_⟩
  ·rw[key _ (by simp)];simp
  ·intro j aX
   rw[key _ (by simp;omega)]
   rw[List.getElem_append_left aX]
   have:a[j]≠c:=fun e=>aa (e▸List.getElem_mem aX)
   simp[this]
def ng(c:Nat)(l:List Nat):Int:=match(c6 c l).2 with | some _=>((c6 c l).1.length:Int) | none=> -1
theorem Wh{l:List Nat}{c:Nat}{H:ab}(ar:Bytes l)(ad:c<256):
  aP prog 133 [.string (cf l),.int .u8 c] H (fun u H1=>H1=H/\u= .int .i64 (ng c l)):=by
 refine⟨.int .i64 (ng c l),H,.inr ⟨⟨by simp[g5,flat],by simp[flat,g5],?_⟩,rfl⟩,rfl,rfl⟩
 have aH:(prog.funcs[133]?).isSome=true:=by kernel_rfl
 have aa:((prog.funcs[133]?).map fun fn=>fn.name== "runtime.NumGoroutine")=some false:=by kernel_rfl
 have aA:((prog.funcs[133]?).map fun fn=>fn.body.isNone)=some true:=by kernel_rfl
 have bo:((prog.funcs[133]?).map fun fn=>Extern.findNext fn)=some none:=by kernel_rfl
 have bK:((prog.funcs[133]?).map fun fn=>Extern.find fn)=some (some Extern.BytealgIndexByte.indexByte):=by kernel_rfl
 obtain⟨fn,ay⟩:=Option.isSome_iff_exists.1 aH
 rw[ay]at aa aA bo bK
 simp only[Option.map_some,Option.some.injEq]at aa aA bo bK
 have bk:dz prog program=some prog:=rfl
 have bg:∀m,dz prog (mark m)=some ():=fun m=>rfl
 have fW:dz prog (Extern.BytealgIndexByte.indexByte #[.string (cf l),.int .u8 c])=some (.int .i64 (ng c l)):=by
  have l8:(c:Int).toNat.toUInt8=UInt8.ofNat c:=by simp
  show dz prog ((pure (cf l):Sem ByteArray)>>=fun b=>(pure (c:Int).toNat.toUInt8:Sem UInt8)>>=fun c=>match(List.range b.size).find? fun i=>b[i]! ==c with | some i=>pure (goInt i) | none=>pure (goInt (-1)))=_
  simp only[fy,e4,Option.bind_some,l8,RH ar ad]
  unfold ng
  cases(c6 c l).2<;>simp[e4]<;>rfl
 have tS:¬fn.name= "runtime.NumGoroutine" :=by simpa using aa
 have R0:fn.body=none:=by simpa using aA
 simp[callFunc,fy,o_,bk,ay,tS,R0,bo,bK,bg,fW,e4]
section
variable {P:Program} {r:List bz} {Q:Fr->ab->Prop} {F:Fr} {H:ab}
theorem ox{d t n:Nat}{x i:Operand}{l:List Nat}{nh:IntKind}{ax:ba (en d t x i::r) Q}(an:aq F x= .string (cf l))(bC:Bytes l)(ae:aq F i= .int nh n)(aG:n<l.length)(bM:iw P t=true)(K:a_ P r Q .mk (a4 F d (.int .u8 (l[n]?.getD 0:Nat))) H):a_ P (en d t x i::r) Q ax F H:=by
 have e:(((cf l).data.getD ((n:Int).toNat) 0).toNat:Int)=((l[n]?.getD 0:Nat):Int):=by rw[Int.toNat_natCast,P8 l bC n aG]
 have ad:iw P t=true/\(0:Int)<=(n:Int)/\(n:Int)<((cf l).size:Int):=⟨bM,by omega,by rw[ju];omega⟩
 rw[jG,an,ae,GJ,qw]
 refine dE.mk ad ?_
 rw[e]
 exact K
end
theorem We(c:Nat):ng c [c]=0:=by simp[ng,c6]
theorem Wi{l:List Nat}{c:Nat}{H:ab}(ar:Bytes l)(ad:c<256):
  aP prog 128 [.string (cf l),.int .u8 c] H (fun u H1=>H1=H/\u= .int .i64 (ng c l)):=by
 refine aP.b9 fun Q aE=>?_
 apply X5 (by simp)
 simp[Is]
 refine aV.mk (Wh ar ad) ?_
 rintro u H ⟨rfl,rfl⟩
 simp[bf]
 exact aE _ _ ⟨rfl,rfl⟩
theorem Wm{l:List Nat}{c:Nat}{H:ab}(ar:Bytes l)(ad:c<256):
  aP prog 120 [.string (cf l),.string (cf [c])] H (fun u H1=>H1=H/\u= .int .i64 (ng c l)):=by
 refine aP.b9 fun Q aE=>?_
 apply X4 (by simp)
 simp[Ir]
 refine ix (l:=[c]) (by simp) (by rfl) ?_
 simp
 refine cc.join (by kernel_rfl) (fun cY dW b1=>b1=H/\cY 16= .bool (decide ([c]=l))) ?_ ?_
 ·rintro K a0-
  simp
  refine a0 _ _ _ ⟨rfl,?_⟩
  simp[IM (a:=[c]) (b:=l) (by intro x J;simp at J;omega) ar]
 ·rintro cY dW H ⟨rfl,JL⟩
  simp at JL
  simp[JL]
  refine bH.b_ (fun he=>?_) (fun he=>?_)
  ·subst he
   try simp
   simp[bf]
   exact aE _ _ ⟨rfl,by rw[We]⟩
  ·try simp
   refine ox (n:=0) (nh:= .i64) (l:=[c]) (by simp) (by intro x J;simp at J;omega) (by simp) (by simp) (by rfl) ?_
   simp
   refine aV.mk (Wi ar ad) ?_
   rintro u H ⟨rfl,rfl⟩
   simp[bf]
   exact aE _ _ ⟨rfl,rfl⟩
theorem aab{l:List Nat}{c:Nat}{H:ab}(ar:Bytes l)(ad:c<256)(hlen:l.length<4611686018427387904):
  aP prog 114 [.string (cf l),.string (cf [c])] H (fun u H1=>H1=H/\u= .tuple #[.string (cf (c6 c l).1),.string (cf ((c6 c l).2.getD [])),.bool (c6 c l).2.isSome]):=by
 refine aP.b9 fun Q aE=>?_
 apply X1 (by simp)
 simp[Io]
 refine aV.mk (Wm ar ad) ?_
 rintro u H ⟨rfl,rfl⟩
 cases al:(c6 c l).2 with
 | none=>
  have e:ng c l= -1:=by simp[ng,al]
  simp[e,bf]
  refine aE _ _ ⟨rfl,?_⟩
  rw[tJ al,al]
  rfl
 | some q=>
  have o:=tK al
  have e:ng c l=((c6 c l).1.length:Int):=by simp[ng,al]
  obtain⟨a,aO⟩:∃a,(c6 c l).1=a:=⟨_,rfl⟩
  rw[aO]at o e
  simp[e]
  refine vt (l:=0) (h:=a.length) (s:=cf l) (by simp) (by rfl) (by simp[dO]) (by simp[e2]) (by omega) (by rw[ju,o];simp) ?_
  simp
  refine ix (l:=[c]) (by simp) (by rfl) ?_
  have ahr:l.length=a.length+1+q.length:=by rw[o];simp;omega
  have Rx:IntKind.i64.wrap ((a.length:Int)+1)=((a.length+1:Nat):Int):=by rw[b6 (by omega) (by omega)];omega
  simp[Rx]
  refine vt (l:=a.length+1) (h:=l.length) (s:=cf l) (by simp) (by rfl) (by simp[dO];omega) (by simp[e2,ju]) (by omega) (by rw[ju];omega) ?_
  simp[bf]
  refine aE _ _ ⟨rfl,?_⟩
  rw[qA,qA,al,aO]
  have bk:((List.drop 0 l).take (a.length-0))=a:=by rw[o];simp
  have bg:((List.drop (a.length+1) l).take (l.length-(a.length+1)))=q:=by
   rw[List.take_of_length_le (by simp)]
   rw[o,show a++c::q=(a++[c])++q from by simp,List.drop_left' (by simp)]
  rw[bk,bg]
  rfl
theorem QB{l:List Nat}{c:Nat}{H:ab}(ar:Bytes l)(ad:c<256)(hlen:l.length<4611686018427387904):
  aP prog 98 [.string (cf l),.string (cf [c])] H (fun u H1=>H1=H/\u= .tuple #[.string (cf (c6 c l).1),.string (cf ((c6 c l).2.getD [])),.bool (c6 c l).2.isSome]):=by
 refine aP.b9 fun Q aE=>?_
 apply XZ (by simp)
 simp[Il]
 refine aV.mk (aab ar ad hlen) ?_
 rintro u H ⟨rfl,rfl⟩
 simp[bf]
 exact aE _ _ ⟨rfl,rfl⟩
theorem Tt{l:List Nat}{c:Nat}{H:ab}(ar:Bytes l)(ad:c<256):
  aP prog 121 [.string (cf l),.string (cf [c])] H (fun u H1=>H1=H/\u= .bool (decide (l.head?=some c))):=by
 refine aP.b9 fun Q aE=>?_
 apply X3 (by simp)
 simp[Iq]
 refine cc.join (by kernel_rfl) (fun cY dW b1=>b1=H/\cY 4= .bool (decide (l.head?=some c))) ?_ ?_
 ·rintro K a0-
  simp
  refine ix (l:=l) (by simp) (by rfl) ?_
  simp
  refine ix (l:=[c]) (by simp) (by rfl) ?_
  cases l with
  | nil=>
   simp
   refine a0 _ _ _ ⟨rfl,by simp⟩
  | cons x r=>
   have e:((1:Int)<=((r.length:Int)+1))=True:=by simp;omega
   simp[e]
   refine ix (l:=[c]) (by simp) (by rfl) ?_
   simp
   refine vt (l:=0) (h:=1) (s:=cf (x::r)) (by simp) (by rfl) (by simp[dO]) (by simp[e2]) (by omega) (by rw[ju];simp) ?_
   rw[qA]
   simp
   refine a0 _ _ _ ⟨rfl,?_⟩
   have J:x<256:=ar x (by simp)
   simp[IM (a:=[x]) (b:=[c]) (by intro y aL;simp at aL;omega) (by intro y aL;simp at aL;omega)]
 ·rintro cY dW H ⟨rfl,bo⟩
  simp at bo
  simp[bo,bf]
  exact aE _ _ ⟨rfl,rfl⟩
def jq(c:Nat)(l:List Nat):List Nat:=if l.head?=some c then l.tail else l
theorem aaa{l:List Nat}{c:Nat}{H:ab}(ar:Bytes l)(ad:c<256):
  aP prog 115 [.string (cf l),.string (cf [c])] H (fun u H1=>H1=H/\u= .tuple #[.string (cf (jq c l)),.bool (decide (l.head?=some c))]):=by
 refine aP.b9 fun Q aE=>?_
 apply X2 (by simp)
 simp[Ip]
 refine aV.mk (Tt ar ad) ?_
 rintro u H ⟨rfl,rfl⟩
 by_cases h:l.head?=some c
 ·simp[h]
  refine ix (l:=[c]) (by simp) (by rfl) ?_
  simp
  refine vt (l:=1) (h:=l.length) (s:=cf l) (by simp) (by rfl) (by simp[dO]) (by simp[e2,ju]) ?_ (by rw[ju];omega) ?_
  ·cases l with
   | nil=>simp at h
   | cons x r=>simp
  rw[qA]
  simp[bf]
  refine aE _ _ ⟨rfl,?_⟩
  unfold jq
  rw[if_pos h,List.take_of_length_le (by simp)]
  simp[h]
 ·simp[h,bf]
  refine aE _ _ ⟨rfl,?_⟩
  unfold jq
  rw[if_neg h]
  simp[h]
theorem Qz{l:List Nat}{c:Nat}{H:ab}(ar:Bytes l)(ad:c<256):
  aP prog 99 [.string (cf l),.string (cf [c])] H (fun u H1=>H1=H/\u= .tuple #[.string (cf (jq c l)),.bool (decide (l.head?=some c))]):=by
 refine aP.b9 fun Q aE=>?_
 apply X0 (by simp)
 simp[Im]
 refine aV.mk (aaa ar ad) ?_
 rintro u H ⟨rfl,rfl⟩
 simp[bf]
 exact aE _ _ ⟨rfl,rfl⟩
def hv(c:Nat):Prop:=48<=c/\c<=57
instance(c:Nat):Decidable (hv c):=by unfold hv;exact inferInstance
def hx(l:List Nat):Prop:=(∀c∈l,hv c)/\l≠[]/\¬(l.head?=some 48/\1<l.length)/\l.length<=4000
instance(l:List Nat):Decidable (hx l):=by unfold hx;exact inferInstance
def dD(l:List Nat):Nat:=l.foldl (fun a c=>10*a+(c-48)) 0
theorem Jj(l:List Nat)(a:Nat):l.foldl (fun a c=>10*a+(c-48)) a=a*10^l.length+dD l:=by
 induction l generalizing a with
 | nil=>simp[dD]
 | cons c l a2=>
  unfold dD
  simp only[List.foldl_cons,List.length_cons]
  rw[a2,a2 (10*0+(c-48)),Nat.pow_succ]
  rw[show(10*a+(c-48))*10^l.length=a*(10^l.length*10)+(c-48)*10^l.length from by rw[Nat.add_mul];congr 1;rw[Nat.mul_comm 10 a,Nat.mul_assoc,Nat.mul_comm 10]]
  simp;omega
theorem zg(a b:List Nat):dD (a++b)=dD a*10^b.length+dD b:=by
 unfold dD
 rw[List.foldl_append]
 exact Jj b _
theorem Rd(c:Nat)(r:List Nat):dD (c::r)=(c-48)*10^r.length+dD r:=by
 conv=>lhs;unfold dD
 rw[List.foldl_cons,Jj]
 simp
theorem Re(c:Nat):dD [c]=c-48:=by simp[dD]
theorem qG{l:List Nat}(h:∀c∈l,hv c):dD l<10^l.length:=by
 induction l with
 | nil=>simp[dD]
 | cons c r a2=>
  have o:=a2 fun x J=>h x (by simp[J])
  have aa:=h c (by simp)
  unfold hv at aa
  rw[Rd,List.length_cons,Nat.pow_succ]
  have aA:(c-48)*10^r.length<=9*10^r.length:=Nat.mul_le_mul_right _ (by omega)
  omega
theorem Jl{l:List Nat}{i:Nat}(ae:i<l.length):dD (l.take (i+1))=dD (l.take i)*10+(l[i]?.getD 0-48):=by
 rw[List.take_succ_eq_append_getElem ae,zg,Re,bJ ae]
 simp
theorem YM{l:List Nat}{H:ab}(ar:Bytes l)(hlen:l.length<4611686018427387904):
  aP prog 100 [.string (cf l)] H (fun u H1=>Ext H H1/\if hx l then∃v x,u= .tuple #[v,.bool true]/\cZ H1 124 v x/\Trim x/\val x=dD l else u= .tuple #[.slice none 0 0,.bool false]):=by
 refine aP.b9 fun Q aE=>?_
 apply Xq (by simp)
 simp[HV]
 refine ix (l:=l) (by simp) (by rfl) ?_
 simp
 refine dF.range (by kernel_rfl) l.length (by omega) (by simp) (by rfl) (by simp) (by decide) (by decide) (fun i bU dp aR=>aR=H/\∀c∈l.take i,hv c) ?_ ?_ ?_
 ·exact⟨rfl,by simp⟩
 ·rintro i az bD H1 ae a5 ⟨rfl,aB⟩ K a0
  simp at a5
  simp[a5]
  refine cc.join (by kernel_rfl) (fun cY dW b1=>b1=H1/\cY 24= .bool (decide (¬hv (l[i]?.getD 0)))) ?_ ?_
  ·rintro cT dT-
   obtain⟨c,ad⟩:∃c,l[i]?.getD 0=c:=⟨_,rfl⟩
   simp
   refine ox (n:=i) (nh:= .i64) (l:=l) (by simp) ar (by simp) ae (by rfl) ?_
   rw[ad]
   rcases Nat.lt_or_ge c 48 with o | o
   ·have bk:((c:Int)<48)=True:=by simp;omega
    simp[bk]
    refine dT _ _ _ ⟨rfl,?_⟩
    simp[hv];omega
   ·have bk:((c:Int)<48)=False:=by simp;omega
    simp[bk]
    refine ox (n:=i) (nh:= .i64) (l:=l) (by simp) ar (by simp) ae (by rfl) ?_
    rw[ad]
    rcases Nat.lt_or_ge 57 c with aa | aa
    ·have bg:((57:Int)<c)=True:=by simp;omega
     simp[bg]
     refine dT _ _ _ ⟨rfl,?_⟩
     simp[hv];omega
    ·have bg:((57:Int)<c)=False:=by simp;omega
     simp[bg]
     refine dT _ _ _ ⟨rfl,?_⟩
     simp[hv];omega
  ·rintro cY dW b1 ⟨rfl,JM⟩
   simp at JM
   simp[JM]
   refine bH.b_ (fun aU=>?_) (fun aU=>?_)
   ·refine a0 _ _ _ (by simp[a5]) ⟨rfl,?_⟩
    intro c ad
    rw[List.take_succ_eq_append_getElem ae]at ad
    rcases List.mem_append.1 ad with ad | ad
    ·exact aB c ad
    ·simp at ad
     subst ad
     rw[bJ ae]at aU
     exact aU
   ·simp[bf]
    refine aE _ _ ⟨Ext.refl _,?_⟩
    rw[if_neg ?_]
    rintro⟨o,-⟩
    apply aU
    rw[bJ ae]
    exact o _ (List.getElem_mem ae)
 ·rintro az bD H1 a5 ⟨rfl,aB⟩
  rw[List.take_length]at aB
  simp
  refine cc.join (by kernel_rfl) (fun cY dW b1=>b1=H1/\∃b:Bool,cY 42= .bool b/\(b=false↔(l≠[]/\¬(l.head?=some 48/\1<l.length)/\l.length<=4000))) ?_ ?_
  ·rintro cT dT-
   cases l with
   | nil=>
    have hh:(cf []).toList.isEmpty=true:=by simp[tF]
    simp[hh]
    refine dT _ _ _ ⟨rfl,true,by simp,by simp⟩
   | cons c r=>
    have hh:(cf (c::r)).toList.isEmpty=false:=by simp[tF]
    simp[hh]
    refine ox (n:=0) (nh:= .i64) (l:=c::r) (by simp) ar (by simp) (by simp) (by rfl) ?_
    by_cases zr:c=48
    ·subst zr
     simp
     refine ix (l:=48::r) (by simp) (by rfl) ?_
     rcases Nat.eq_zero_or_pos r.length with al | al
     ·simp[al]
      refine ix (l:=48::r) (by simp) (by rfl) ?_
      simp[al]
      refine dT _ _ _ ⟨rfl,false,by simp,by simp[al]⟩
     ·have bk:((1:Int)<((r.length:Int)+1))=True:=by simp;omega
      simp[bk]
      refine dT _ _ _ ⟨rfl,true,by simp,Iff.intro (fun h=>by cases h) (fun h=>absurd ⟨by simp,by simp;omega⟩ h.2.1)⟩
    ·have bk:((c:Int)=48)=False:=by simp;omega
     simp[bk]
     refine ix (l:=c::r) (by simp) (by rfl) ?_
     simp
     refine dT _ _ _ ⟨rfl,decide (4000<r.length+1),by simp;omega,?_⟩
     simp[zr]
  ·rintro cY dW b1 ⟨rfl,b,JR,ag⟩
   simp at JR
   simp[JR]
   refine bH.mk (fun ad=>?_) (fun ad=>?_)
   ·simp[bf]
    refine aE _ _ ⟨Ext.refl _,?_⟩
    rw[if_neg ?_]
    rintro⟨o,aa⟩
    have:=ag.2 aa
    rw[this]at ad
    cases ad
   ·have jW:hx l:=⟨aB,ag.1 ad⟩
    simp only[jW,if_true]at aE
    simp
    have z4:l.length<=4000:=jW.2.2.2
    refine dF.mk (by kernel_rfl) (fun n az bD H1=>Ext b1 H1/\∃(p s x:List Nat) (v:Value),n=s.length/\l=p++s/\az 0= .string (cf s)/\az 5=v/\cZ H1 124 v x/\Trim x/\val x=dD p) l.length ?_ ?_
    ·exact⟨Ext.refl _,[],l,[],_,rfl,rfl,by simp,rfl,⟨ep.nil _ _ _,by simp⟩,Trim.nil,by simp[dD,val]⟩
    ·rintro n fS hz cb ⟨c0,p,s,x,v,rfl,jV,aH,bK,ec,bc,an⟩ cT dT
     simp at aH bK
     have Vm:Bytes s:=fun c ad=>ar c (by rw[jV];simp[ad])
     have Ls:∀c∈p,hv c:=fun c ad=>aB c (by rw[jV];simp[ad])
     have DY:∀c∈s,hv c:=fun c ad=>aB c (by rw[jV];simp[ad])
     have kE:p.length+s.length<=4000:=by rw[jV]at z4;simpa using z4
     cases ao:s with
     | nil=>
      have hh:(cf []).toList.isEmpty=true:=by simp[tF]
      subst ao
      simp[aH,hh]
      rw[List.append_nil]at jV
      exact aE _ _ ⟨c0,v,x,by simp[bf,bK],ec,bc,by rw[an,jV]⟩
     | cons c r=>
      have hh:(cf s).toList.isEmpty=false:=by simp[tF,ao]
      have sO:0<s.length:=by rw[ao];simp
      obtain⟨la,m4⟩:∃la,s.length-1=la:=⟨_,rfl⟩
      obtain⟨j2,mo⟩:∃j2,la % 9=j2:=⟨_,rfl⟩
      obtain⟨n,aG⟩:∃n,j2+1=n:=⟨_,rfl⟩
      have ahz:n<=9/\n<=s.length/\0<n:=by omega
      have Ri:IntKind.i64.wrap ((s.length:Int)-1)=(la:Int):=by rw[b6 (by omega) (by omega)];omega
      have Rj:((la:Int)).tmod 9=(j2:Int):=by rw[<-mo];rfl
      have Rk:IntKind.i64.wrap ((j2:Int)+1)=(n:Int):=by rw[b6 (by omega) (by omega)];omega
      have Co:IntKind.i64.wrap (j2:Int)=(j2:Int):=by rw[b6 (by omega) (by omega)]
      simp[aH,hh]
      refine ix (l:=s) (by simp) (by rfl) ?_
      simp[Ri,Rj,Rk,Co]
      refine dF.range (by kernel_rfl) n (by omega) (by simp) (by rfl) (by simp) (by decide) (by decide) (fun i nz rV dQ=>dQ=cb/\∃a e:Nat,nz 7= .int .u32 a/\nz 8= .int .u32 e/\a=dD (s.take i)/\e=10^i) ?_ ?_ ?_
      ·refine⟨rfl,0,1,by simp,by simp,by simp[dD],by simp⟩
      ·rintro i nz rV dQ ae zv ⟨rfl,a,e,cg,dj,aO,he⟩ nG fX
       simp at zv cg dj
       have z0:i<s.length:=by omega
       obtain⟨tG,wZ⟩:∃tG,s[i]?.getD 0=tG:=⟨_,rfl⟩
       have TH:hv tG:=DY tG (by rw[<-wZ,bJ z0];exact List.getElem_mem z0)
       unfold hv at TH
       have sr:a<10^i:=by
        have:=qG (l:=s.take i) fun c ad=>DY c (List.mem_of_mem_take ad)
        rw[<-aO,List.length_take,Nat.min_eq_left (by omega)]at this
        exact this
       have Ua:10^i<=10^8:=Nat.pow_le_pow_right (by decide) (by omega)
       rw[<-he]at sr Ua
       obtain⟨m,hm⟩:∃m,10*a=m:=⟨_,rfl⟩
       obtain⟨d,k4⟩:∃d,tG-48=d:=⟨_,rfl⟩
       obtain⟨md,K_⟩:∃md,m+d=md:=⟨_,rfl⟩
       obtain⟨cP,pJ⟩:∃cP,10*e=cP:=⟨_,rfl⟩
       have f1:IntKind.u32.wrap (10*(a:Int))=(m:Int):=by rw[lY (by omega) (by omega)];omega
       have f2:IntKind.u8.wrap ((tG:Int)-48)=(d:Int):=by rw[BK (by omega) (by omega)];omega
       have f3:IntKind.u32.wrap (d:Int)=(d:Int):=lY (by omega) (by omega)
       have f4:IntKind.u32.wrap ((m:Int)+d)=(md:Int):=by rw[lY (by omega) (by omega)];omega
       have f5:IntKind.u32.wrap (10*(e:Int))=(cP:Int):=by rw[lY (by omega) (by omega)];omega
       simp[zv,cg,dj,aH,f1,f5]
       refine ox (n:=i) (nh:= .i64) (l:=s) (by simp[aH]) Vm (by simp) z0 (by rfl) ?_
       rw[wZ]
       simp[f2,f3,f4,f5,dj]
       refine fX _ _ _ (by simp[zv]) ⟨rfl,md,cP,by simp,by simp,?_,?_⟩
       ·rw[Jl z0,wZ,<-aO];omega
       ·rw[Nat.pow_succ,<-he];omega
      ·rintro nz rV dQ zv ⟨rfl,a,e,cg,dj,aO,he⟩
       simp at cg dj
       simp[cg,dj,bK]
       have Ds:e<=10^9:=by rw[he];exact Nat.pow_le_pow_right (by decide) (by omega)
       have sr:a<10^n:=by
        have:=qG (l:=s.take n) fun c ad=>DY c (List.mem_of_mem_take ad)
        rw[<-aO,List.length_take,Nat.min_eq_left (by omega)]at this
        exact this
       rw[<-he]at sr
       have cL:Ext dQ (dQ++[.own 124 false [.int .u32 (e:Int)]]):=Ext.more dQ (by simp)
       have zM:cZ (dQ++[.own 124 false [.int .u32 (e:Int)]]) 124 (.slice (some ⟨dQ.length,0,none⟩) 1 1) [e]:=by
        simpa using cZ.fresh dQ 124 [e] 1 1 (by omega) rfl (by intro y aL;simp at aL;omega) false
       refine tc (e:=124) (U:=1) (z:= .int .u32 0) (out:=[.int .u32 e]) (by simp) (by simp) (by simp) (by rfl) (by rfl) (by omega) (by omega) (by omega) ?_ (by simp) ?_
       ·simp[iY,p7]
       have jj:x.length<=4000:=by
        refine bc.length_le ?_
        rw[an]
        refine Nat.lt_of_lt_of_le (qG Ls) (Nat.le_trans (rA 10 p.length 4000 (by decide) (show p.length<=4000 by omega)) (Fb 10 4294967296 4000 (by decide)))
       simp[bK]
       refine aV.mk (Oo (ec.ext cL) zM (by omega) (by simp)) ?_
       rintro w cS ⟨cD,adW,Tf,zK,iQ⟩
       simp[cg]
       have c1:Ext cS (cS++[.own 124 false [.int .u32 (a:Int)]]):=Ext.more cS (by simp)
       have wP:cZ (cS++[.own 124 false [.int .u32 (a:Int)]]) 124 (.slice (some ⟨cS.length,0,none⟩) 1 1) [a]:=by
        simpa using cZ.fresh cS 124 [a] 1 1 (by omega) rfl (by intro y aL;simp at aL;omega) false
       refine tc (e:=124) (U:=1) (z:= .int .u32 0) (out:=[.int .u32 a]) (by simp) (by simp) (by simp) (by rfl) (by rfl) (by omega) (by omega) (by omega) ?_ (by simp) ?_
       ·simp[iY,p7]
       simp
       refine aV.mk (lW wP (by simp)) ?_
       rintro iA eN ⟨rfl,e7,Th,agR,VN,Uy⟩
       simp
       have ahQ:adW.length<=5000:=by
        refine zK.length_le ?_
        rw[iQ,an]
        have ma:val [e]=e:=by simp[val]
        rw[ma]
        exact Ze 5000 (qG Ls) Ds (by omega)
       refine aV.mk (Nz (Tf.ext c1) Th (by omega) (by simp at Uy;omega)) ?_
       rintro cH fC ⟨dx,ew,Tg,S_,VM⟩
       simp[aH]
       refine vt (l:=n) (h:=s.length) (s:=cf s) (by simp[aH]) (by rfl) (by simp[dO]) (by simp[e2,ju]) (by omega) (by rw[ju];omega) ?_
       rw[qA]
       simp
       have h4:(s.drop n).take (s.length-n)=s.drop n:=List.take_of_length_le (by simp)
       refine dT (s.drop n).length _ _ _ (by simp;omega) ⟨c0.aw (cL.aw (cD.aw (c1.aw dx))),p++s.take n,s.drop n,ew,cH,rfl,by simp[jV],by simp[h4],by simp,Tg,S_,?_⟩
       rw[VM,iQ,an,VN,zg,List.length_take,Nat.min_eq_left (by omega),<-he,<-aO]
       simp[val]
@[simp] theorem agd(d t n:Nat)(aW:List (Nat×Operand)):(ei d t n aW).d=some d:=rfl
def rr(l:List Nat):List Nat:=(c6 47 l).1
def ko(l:List Nat):Option (List Nat):=(c6 47 l).2
def gY(l:List Nat):List Nat:=jq 45 (rr l)
def lb(l:List Nat):Bool:=decide ((rr l).head?=some 45)
def BR(l:List Nat):Prop:=∀u,ko l=some u->hx u/\1<dD u
def eF(l:List Nat):Nat:=match ko l with | some u=>dD u | none=>1
def gv(l:List Nat):Int:=if lb l=true then-(dD (gY l):Int)else dD (gY l)
def iE(l:List Nat):Prop:=hx (gY l)/\BR l/\¬(lb l=true/\dD (gY l)=0)/\(ko l=none\/Int.gcd (gv l) (eF l)=1)
theorem Bytes.tail{c:Nat}{l:List Nat}(h:Bytes l):Bytes (jq c l):=by
 unfold jq
 split
 ·exact fun x J=>h x (List.mem_of_mem_tail J)
 ·exact h
theorem Ja{c:Nat}{l:List Nat}:(∀x∈(c6 c l).1,x∈l)/\∀u,(c6 c l).2=some u->∀x∈u,x∈l:=by
 cases al:(c6 c l).2 with
 | none=>exact⟨fun x J=>by rw[tJ al]at J;exact J,fun u hu=>by cases hu⟩
 | some r=>
  have o:=tK al
  refine⟨fun x J=>by rw[o];simp[J],fun u hu x J=>?_⟩
  cases hu
  rw[o];simp[J]
theorem I_{c:Nat}{l:List Nat}:(c6 c l).1.length<=l.length/\∀u,(c6 c l).2=some u->u.length<=l.length:=by
 cases al:(c6 c l).2 with
 | none=>exact⟨by rw[tJ al];omega,fun u hu=>by cases hu⟩
 | some r=>
  have o:=congrArg List.length (tK al)
  simp at o
  exact⟨by omega,fun u hu=>by cases hu;omega⟩
theorem Nd{l:List Nat}{H:ab}(ar:Bytes l)(hlen:l.length<4611686018427387904):
  aP prog 100 [.string (cf l)] H (fun u H1=>Ext H H1/\∃v b x,u= .tuple #[v,.bool b]/\cZ H1 124 v x/\Trim x/\x.length<=4000/\(b=true↔hx l)/\(b=true->val x=dD l)):=
 (YM ar hlen).mono fun u H1 ⟨J,hu⟩=>by
  by_cases aB:hx l
  ·rw[if_pos aB]at hu
   obtain⟨v,x,rfl,ec,bc,an⟩:=hu
   refine⟨J,v,true,x,rfl,ec,bc,?_,by simp[aB],fun _=>an⟩
   refine bc.length_le ?_
   rw[an]
   exact Nat.lt_of_lt_of_le (qG aB.1) (Nat.le_trans (rA 10 _ 4000 (by decide) aB.2.2.2) (Fb 10 4294967296 4000 (by decide)))
  ·rw[if_neg aB]at hu
   subst hu
   exact⟨J,_,false,[],rfl,⟨ep.nil _ _ _,by simp⟩,Trim.nil,by simp,by simp[aB],by simp⟩
theorem YZ{l:List Nat}{H:ab}(ar:Bytes l)(hlen:l.length<4611686018427387904):
  aP prog 74 [.string (cf l)] H (fun u H1=>Ext H H1/\∃v,(iE l/\u= .tuple #[v,.bool true]/\ca H1 v (Rat.divInt (gv l) (eF l))\/¬iE l/\u= .tuple #[v,.bool false])/\∃s1 bY cQ cm s2 cC cW cF,v= .agg #[.bool s1,.slice bY cQ cm,.bool s2,.slice cC cW cF]):=by
 refine aP.b9 fun Q aE=>?_
 apply W8 (by simp)
 have Kh:Bytes (rr l):=fun x J=>ar x (Ja.1 x J)
 have agP:(rr l).length<=l.length:=I_.1
 simp[HL,MQ,MP]
 refine aV.mk (QB ar (by decide) hlen) ?_
 rintro u H1 ⟨rfl,rfl⟩
 simp
 refine aV.mk (Qz Kh (by decide)) ?_
 rintro u H1 ⟨rfl,rfl⟩
 simp
 refine aV.mk (Nd (l:=gY l) (Kh.tail) ?_) ?_
 ·unfold gY jq;split
  ·rw[List.length_tail];omega
  ·omega
 rintro u H1 ⟨bx,aj4,IH,yG,rfl,wQ,wO,ahs,wY,L5⟩
 simp
 have C_:cZ (H1++[.own 124 false [.int .u32 1]]) 124 (.slice (some ⟨H1.length,0,none⟩) 1 1) [1]:=by
  simpa using cZ.fresh H1 124 [1] 1 1 (by omega) rfl (by simp) false
 refine tc (e:=124) (U:=1) (z:= .int .u32 0) (out:=[.int .u32 1]) (by simp) (by simp) (by simp) (by rfl) (by rfl) (by omega) (by omega) (by omega) ?_ (by simp) ?_
 ·simp[iY,p7]
 simp
 have bm:Ext H1 (H1++[.own 124 false [.int .u32 1]]):=Ext.more H1 (by simp)
 refine cc.join (by kernel_rfl) (fun cY dW b1=>Ext (H1++[.own 124 false [.int .u32 1]]) b1/\∃(w:Value) (y:List Nat) (b:Bool),cY 11=w/\cY 12= .bool b/\cZ b1 124 w y/\Trim y/\y.length<=4000/\(b=true↔BR l)/\(b=true->val y=eF l)) ?_ ?_
 ·rintro K a0-
  cases al:ko l with
  | none=>
   have fx:(c6 47 l).2=none:=al
   simp[fx]
   refine a0 _ _ _ ⟨Ext.refl _,.slice (some ⟨H1.length,0,none⟩) 1 1,[1],true,rfl,rfl,C_,by simp[Trim],by simp,?_,?_⟩
   ·simp only[true_iff];intro u hu;rw[al]at hu;cases hu
   ·intro _;simp[eF,al,val]
  | some q=>
   have fx:(c6 47 l).2=some q:=al
   have Ar:Bytes q:=fun x J=>ar x (Ja.2 q fx x J)
   have q6:=I_.2 q fx
   simp[fx]
   refine aV.mk (Nd (l:=q) Ar (by omega)) ?_
   rintro u aR ⟨bN,O9,PT,Pl,rfl,Da,C9,q0,mg,xE⟩
   cases PT with
   | false=>
    have m6:¬hx q:=fun h=>by have:=mg.2 h;cases this
    simp
    refine a0 _ _ _ ⟨bN,O9,Pl,false,by simp,by simp,Da,C9,q0,?_,by simp⟩
    simp only[Bool.false_eq_true,false_iff]
    intro h
    exact m6 (h q al).1
   | true=>
    have uB:hx q:=mg.1 rfl
    have an:=xE rfl
    simp
    have c0:Ext aR (aR++[.own 124 false [.int .u32 1]]):=Ext.more aR (by simp)
    have sm:cZ (aR++[.own 124 false [.int .u32 1]]) 124 (.slice (some ⟨aR.length,0,none⟩) 1 1) [1]:=by
     simpa using cZ.fresh aR 124 [1] 1 1 (by omega) rfl (by simp) false
    refine tc (e:=124) (U:=1) (z:= .int .u32 0) (out:=[.int .u32 1]) (by simp) (by simp) (by simp) (by rfl) (by rfl) (by omega) (by omega) (by omega) ?_ (by simp) ?_
    ·simp[iY,p7]
    simp
    refine aV.mk (Ci (Da.ext c0) sm C9 (by simp[Trim]) (by omega) (by simp)) ?_
    rintro u dQ ⟨rfl,rfl⟩
    have bk:val [1]=1:=by simp[val]
    rw[bk,an]
    obtain⟨c,ad⟩:∃c:Int,(if dD q<1 then-1 else if 1<dD q then 1 else 0:Int)=c:=⟨_,rfl⟩
    rw[ad]
    simp
    refine a0 _ _ _ ⟨bN.aw c0,O9,Pl,decide (0<c),by simp,by simp,Da.ext c0,C9,q0,?_,?_⟩
    ·rw[decide_eq_true_iff]
     have aH:0<c↔1<dD q:=by rw[<-ad];split<;>(try split)<;>omega
     rw[aH]
     exact⟨fun h u hu=>by rw[al]at hu;cases hu;exact⟨uB,h⟩,fun h=>(h q al).2⟩
    ·intro _;rw[an];simp[eF,al]
 ·rintro cY dW b1 ⟨cr,w,y,b,ma,iI,Ko,qQ,uQ,ag,sW⟩
  simp at ma iI
  refine cc.join (by kernel_rfl) (fun fS hz cb=>cb=b1/\∃g:Bool,fS 57= .bool g/\(g=false↔(IH=true/\b=true/\¬(lb l=true/\yG.length=0)))) ?_ ?_
  ·rintro K a0-
   cases IH with
   | false=>
    simp
    refine a0 _ _ _ ⟨rfl,true,by simp,by simp⟩
   | true=>
    cases b with
    | false=>
     simp[iI]
     refine a0 _ _ _ ⟨rfl,true,by simp,by simp⟩
    | true=>
     have Te:=wQ.ext (bm.aw cr)
     by_cases hm:(rr l).head?=some 45
     ·have sE:(c6 47 l).1.head?=some 45:=hm
      simp[iI,sE]
      refine c9 (by simpa using Te.row) (by simp) ?_
      simp
      refine a0 _ _ _ ⟨rfl,decide (yG.length=0),by simp,by simp[lb,hm]⟩
     ·have sE:¬(c6 47 l).1.head?=some 45:=hm
      simp[iI,sE]
      refine a0 _ _ _ ⟨rfl,false,by simp,by simp[lb,hm]⟩
  ·rintro fS hz cb ⟨rfl,g,JT,aU⟩
   simp at JT
   simp[JT]
   have oi:Ext H cb:=(Ext.more H (by simp)).aw (bx.aw (bm.aw cr))
   refine bH.mk (fun ad=>?_) (fun ad=>?_)
   ·have aG:¬iE l:=by
     rintro⟨o,aa,aA,-⟩
     have:=aU.2 ⟨wY.2 o,ag.2 aa,fun⟨bo,bK⟩=>aA ⟨bo,by rw[<-L5 (wY.2 o),(List.length_eq_zero_iff.1 bK)];rfl⟩⟩
     rw[this]at ad;cases ad
    simp[bf]
    exact aE _ _ ⟨oi,_,.inr ⟨aG,rfl⟩,_,_,_,_,_,_,_,_,rfl⟩
   ·obtain⟨kC,lG,Kt⟩:=aU.1 ad
    have m_:=L5 kC
    have h8:=sW lG
    simp
    have Rl:(if lb l=true then-(val yG:Int)else val yG)=gv l:=by rw[m_];rfl
    have Co:(if false=true then-(val y:Int)else val y)=(eF l:Int):=by rw[h8];rfl
    refine aV.mk (ED (x2 (neg:=lb l) (wQ.ext (bm.aw cr)) wO)) ?_
    rintro mF dQ ⟨cL,s1,bY,cQ,cm,rfl,iu⟩
    rw[Rl]at iu
    simp[ma]
    refine aV.mk (ED (x2 (neg:=false) (Ko.ext cL) qQ)) ?_
    rintro ln cS ⟨cD,s2,cC,cW,cF,rfl,jk⟩
    rw[Co]at jk
    simp
    have Dq:0<eF l:=by
     have o:=ag.1 lG
     unfold eF
     cases hu:ko l with
     | none=>simp
     | some q=>have:=(o q hu).2;simp;omega
    have c1:Ext cS (cS++[.dead]):=Ext.more cS (by simp)
    refine cc.join (by kernel_rfl) (fun qo rW eN=>Ext (cS++[.dead]) eN/\rW 2= .agg #[.bool s1,.slice bY cQ cm,.bool s2,.slice cC cW cF]/\∃g:Bool,qo 3= .bool g/\(g=true↔(ko l=none\/Int.gcd (gv l) (eF l)=1))) ?_ ?_
    ·rintro K a0-
     cases al:ko l with
     | none=>
      have fx:(c6 47 l).2=none:=al
      simp[fx]
      refine a0 _ _ _ ⟨Ext.refl _,by simp,true,by simp,by simp[al]⟩
     | some q=>
      have fx:(c6 47 l).2=some q:=al
      simp[fx]
      have Ct:Fits (gv l):=by
       have o:(gv l).natAbs=val yG:=by unfold gv;rw[<-m_];split<;>omega
       unfold Fits;rw[o]
       exact Nat.lt_of_lt_of_le (j7 wQ.2) (rA 4294967296 _ 1000000 (by decide) (by omega))
      have zk:Fits (eF l):=by
       unfold Fits;rw[Int.natAbs_natCast,<-h8]
       exact Nat.lt_of_lt_of_le (j7 Ko.2) (rA 4294967296 _ 1000000 (by decide) (by omega))
      refine aV.mk (JD ((iu.ext cD).ext c1) (jk.ext c1) Ct zk) ?_
      rintro rN fC ⟨dx,s0⟩
      refine⟨dx,?_⟩
      simp
      refine aV.mk (vb (n:=1) (by omega) (by omega)) ?_
      rintro BH kq ⟨fQ,xQ⟩
      refine⟨fQ,?_⟩
      simp
      have RA:Fits ((Int.gcd (gv l) (eF l):Nat):Int):=by
       have aa:Int.gcd (gv l) (eF l)<=eF l:=Nat.le_of_dvd Dq (Int.ofNat_dvd.1 (Int.gcd_dvd_right _ _))
       exact zk.le (by simpa using aa)
      refine aV.mk (EA (s0.ext fQ) xQ RA (Fits.small (by decide))) ?_
      rintro mG iD ⟨fY,rfl⟩
      refine⟨fY,?_⟩
      obtain⟨eE,fO⟩:∃eE:Int,(if((Int.gcd (gv l) (eF l):Nat):Int)<1 then-1 else if((Int.gcd (gv l) (eF l):Nat):Int)=1 then 0 else 1:Int)=eE:=⟨_,rfl⟩
      rw[fO]
      simp
      refine a0 _ _ _ ⟨dx.aw (fQ.aw fY),by simp,decide (eE=0),by simp,?_⟩
      rw[decide_eq_true_iff]
      simp only[al,reduceCtorEq,false_or]
      rw[<-fO]
      split
      ·omega
      ·split<;>omega
    ·rintro qo rW eN ⟨dx,eO,iZ,aA,KP⟩
     simp at eO aA
     simp[eO,aA,bf]
     have Mt:=(cL.aw (cD.aw (c1.aw dx)))
     have jW:iE l↔iZ=true:=by
      rw[KP]
      refine⟨fun h=>h.2.2.2,fun h=>⟨wY.1 kC,ag.1 lG,fun⟨bo,bK⟩=>Kt ⟨bo,?_⟩,h⟩⟩
      rw[<-m_]at bK
      exact(Nat.eq_zero_or_pos _).resolve_right fun h=>by have:=wO.pos.1 h;omega
     cases iZ with
     | true=>
      have mi:Int.gcd (gv l) (eF l)=1:=by
       rcases KP.1 rfl with h | h
       ·have:eF l=1:=by simp[eF,h]
        rw[this];simp
       ·exact h
      refine aE _ _ ⟨oi.aw Mt,_,.inl ⟨jW.2 rfl,rfl,?_⟩,_,_,_,_,_,_,_,_,rfl⟩
      obtain⟨bk,bg⟩:=zf (gv l) (eF l) (by omega)
      have w8:Nat.gcd (gv l).natAbs (eF l)=1:=mi
      rw[w8]at bk bg
      refine⟨_,_,_,_,rfl,?_,?_⟩
      ·rw[bk];simpa using iu.ext (cD.aw (c1.aw dx))
      ·rw[bg];simpa using jk.ext (c1.aw dx)
     | false=>
      refine aE _ _ ⟨oi.aw Mt,_,.inr ⟨fun h=>(by have:=jW.1 h;cases this),rfl⟩,_,_,_,_,_,_,_,_,rfl⟩
abbrev iW(H:ab)(v:Value)(r:List Rat):Prop:=Row 80 4 true ca H v r
instance:b7 iW:=⟨fun h J=>b7.ext (af:=Row 80 4 true ca) h J⟩
abbrev hC(H:ab)(v:Value)(t:List (List Rat)):Prop:=Row 120 1 false iW H v t
instance:b7 hC:=⟨fun h J=>b7.ext (af:=Row 120 1 false iW) h J⟩
theorem hC.ext{H H1:ab}{v:Value}{t:List (List Rat)}(h:hC H v t)(J:Ext H H1):hC H1 v t:=b7.ext h J
def hb(r:List Rat):Rat:=r.foldl (·+·) 0
theorem NL{r:List Rat}{i:Nat}{q:Rat}(h:r[i]?=some q):hb (r.take (i+1))=hb (r.take i)+q:=by
 have ae:=(cK.1 h).1
 rw[List.take_succ_eq_append_getElem ae]
 unfold hb
 rw[List.foldl_append]
 simp[(cK.1 h).2]
theorem xY{v:Value}{t:List (List Rat)}{j N:Nat}{row:List Rat}{H:ab}(bc:hC H v t)(al:t[j]?=some row)(ar:row.length<4611686018427387904)(gA:t.length<4611686018427387904)(ao:∀k,de N (hb (row.take k)))(he:∀q∈row,de N q)(bX:N<=1000000):
  aP prog 65 [.agg #[v],.int .i64 j] H (fun u H1=>Ext H H1/\ca H1 u (hb row)):=by
 refine aP.b9 fun Q aE=>?_
 apply XE (by simp)
 obtain⟨a,c,rfl⟩:=Row.len bc
 simp[H7]
 have bn:Ext H (H++[.dead,.dead]):=Ext.more H (by simp)
 refine aV.mk (A_ (n:=0) (by omega) (by omega)) ?_
 rintro yg H1 ⟨bx,m8⟩
 simp
 refine cO.mk m8.whole ?_
 simp
 have bm:Ext H1 (H1++[.dead]):=Ext.more H1 (by simp)
 have h3:=bc.ext (bn.aw (bx.aw bm))
 refine dc (af:=iW) (xs:=t) (n:=j) (a:=row) (e:=120) (U:=1) (aC:=false) (by simpa using h3) (by simp) al (by simp) (by simp) (by simp) (by decide) ?_
 intro E0 F1 q9
 refine c9 (af:=ca) (xs:=row) (by simpa using q9) (by simp) ?_
 simp
 refine dF.range (by kernel_rfl) row.length (by omega) (by simp) (by rfl) (by simp) (by decide) (by decide) (fun i bU dp aR=>Ext (H1++[.dead]) aR/\ca aR (dp 5) (hb (row.take i))) ?_ ?_ ?_
 ·refine⟨Ext.refl _,?_⟩
  simpa[hb]using m8.ext bm
 ·rintro i bU dp aR ae a5 ⟨bN,lN⟩ K a0
  simp at a5 lN
  simp[a5]
  obtain⟨x,J⟩:∃x,row[i]?=some x:=⟨_,bJ ae⟩
  refine dc (af:=ca) (xs:=row) (n:=i) (a:=x) (e:=80) (U:=4) (aC:=true) (by simpa using b7.ext q9 bN) (by simp[a5]) J (by simp) (by simp) (by simp) (by decide) ?_
  intro dm u hu
  simp
  refine cO.mk hu.whole ?_
  simp
  have cr:Ext aR (aR++[.dead]):=Ext.more aR (by simp)
  refine aV.mk (NH (lN.ext cr) (hu.ext cr) (ao i) (he x (List.mem_of_getElem? J)) bX) ?_
  rintro w bP ⟨c0,hw⟩
  simp
  refine cO.mk hw.whole ?_
  refine a0 _ _ _ (by simp[a5]) ⟨bN.aw (cr.aw c0),?_⟩
  rw[NL J]
  simpa using hw
 ·rintro bU dp aR a5 ⟨bN,lN⟩
  simp at lN
  simp
  refine cO.mk lN.whole ?_
  simp[bf]
  exact aE _ _ ⟨bn.aw (bx.aw (bm.aw bN)),lN⟩
end Go.cJ
end
