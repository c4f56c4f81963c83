/- Part of the proof of ShopDoes. -/
import Derived.Test.YtoiodfcefbapkaaGreatShopDoesF
set_option linter.unusedVariables false
set_option linter.unusedSimpArgs false
section
set_option maxRecDepth 8000
set_option maxHeartbeats 1000000
namespace Go.dq
open Go.Proofs
open Go.Proofs.Tryz (prog)
attribute [-simp] il jk k3
theorem Hg(l:List Nat)(k:Nat):val l=val (l.take k)+4294967296^(min k l.length)*val (l.drop k):=by
 conv=>lhs;rw[<-List.take_append_drop k l,nT]
 rw[List.length_take]
theorem gp.whole{H:ab}{u:Value}{y:Nat}(h:gp H u y):Whole prog 124 u:=h.1▸zx _
theorem OK{v w:Value}{a b:List Nat}{H:ab}(bw:db H 124 v a)(pg:Trim a)(bD:db H 124 w b)(lq:Trim b)(nm:0<b.length)(kD:a.length<1048570)(jV:b.length<1048570):
  aO prog 117 [v,w] H (fun u H1=>Ext H H1/\∃q r l m,u= .tuple #[q,r]/\db H1 124 q l/\Trim l/\val l=val a/val b/\db H1 124 r m/\Trim m/\val m=val a % val b):=by
 refine aO.b9 fun Q aC=>?_
 apply YL (by simp)
 simp[Ja]
 refine aT.mk (Ds bw bD pg lq (by omega) (by omega)) ?_
 rintro c H ⟨rfl,rfl⟩
 simp
 refine bs.bZ (fun ae=>?_) (fun ae=>?_)
 ·have aZ:val a<val b:=by
   rcases Nat.lt_or_ge (val a) (val b)with h | h
   ·exact h
   ·rw[if_neg (by omega)]at ae;split at ae<;>omega
  try simp
  refine Cz (e:=124) (R:=1) (bF:=4) (k:=H.length) (z:= .int .u32 0) (ay:=false) (ad:=gp) (xs:=[]) (bS:=a) (by simpa using bH.nil _ _ _ _ _ _) (by simpa using bw.row) (fun u y h=>h.whole) (fun _ _ _ _ _ h=>h) (by simp) (by simp) (by simp) (by simp) (.inr rfl) (by simp) (by simp) (by rfl) (by decide) (by simp;omega) (Nat.le_refl _) ?_
  rintro au aF cw J-
  simp[bd]
  refine aC _ _ ⟨J H (Nat.le_refl _) (Ext.refl _),_,_,[],a,rfl,⟨ey.nil _ _ _,by simp⟩,Trim.nil,?_,cw.row.us,pg,?_⟩
  ·rw[Nat.div_eq_of_lt aZ];rfl
  ·rw[Nat.mod_eq_of_lt aZ]
 ·have hh:val b<=val a:=by
   rcases Nat.lt_or_ge (val a) (val b)with h | h
   ·rw[if_pos h]at ae;omega
   ·exact h
  try simp
  refine ck (by simpa using bD.row) (by simp) ?_
  simp
  refine bs.bZ (fun l5=>?_) (fun l5=>?_)
  ·have g2:b.length=1:=by omega
   obtain⟨y,rfl⟩:=List.length_eq_one_iff.1 g2
   have vQ:0<y:=by
    have:=lq
    simp[Trim]at this
    omega
   have pE:y<4294967296:=bD.2 y (by simp)
   try simp
   refine cv (ad:=gp) (n:=0) (by simpa using bD.row) (by simp) (a:=y) (by simp) (by simp) (by simp) (by simp) (.inr rfl) ?_
   rintro p u ⟨rfl,-⟩
   simp
   refine aT.mk (J6 bw (by omega) vQ pE) ?_
   rintro u aS ⟨J,q,l,rfl,av,ve,tH⟩
   simp
   have ja:val a % y<4294967296:=Nat.lt_trans (Nat.mod_lt _ vQ) pE
   obtain⟨r,al⟩:∃r,val a % y=r:=⟨_,rfl⟩
   rw[al]at ja
   refine sq (e:=124) (R:=1) (z:= .int .u32 0) (out:=[.int .u32 (r:Int)]) (by simp) (by simp) (by simp) (by rfl) (by rfl) (by omega) (by omega) (by omega) ?_ (by simp) ?_
   ·simp[jr,made,oW]
    rw[<-al]
    simp
   simp
   have eJ:=db.fresh aS 124 [r] 1 1 (Nat.le_refl _) rfl (by simpa using ja) false
   refine aT.mk (mm (l:=[r]) (by simpa using eJ) (by simp)) ?_
   rintro u bN ⟨rfl,m,hm,Ur,tI,-⟩
   simp[bd]
   refine aC _ _ ⟨J.snoc _ _ _,_,_,l,m,rfl,av.ext ((Ext.refl _).snoc _ _ _),ve,by rw[tH];simp[val],hm,Ur,?_⟩
   rw[tI,<-al]
   simp[val]
  ·try simp
   obtain⟨m,g2⟩:∃m,b.length=m+2:=⟨b.length-2,by omega⟩
   refine ck (by simpa using bD.row) (by simp) ?_
   have l_:IntKind.i64.wrap ((m:Int)+2-1)=(m:Int)+1:=by rw[b8 (by omega) (by omega)];omega
   rw[g2]
   simp[l_]
   obtain⟨sT,pj⟩:∃x,b[m+1]?.getD 0=x:=⟨_,rfl⟩
   have EF:b[m+1]?=some sT:=by rw[<-pj,bz (by omega)];rfl
   have UZ:sT<4294967296:=bD.2 sT (List.mem_of_getElem? EF)
   have UY:0<sT:=by
    have:=lq
    rw[Trim,List.getLast?_eq_getElem?,g2,show m+2-1=m+1 by omega,EF]at this
    rcases Nat.eq_zero_or_pos sT with q | q
    ·rw[q]at this;exact absurd rfl this
    ·exact q
   refine cv (ad:=gp) (n:=m+1) (by simpa using bD.row) (by simp) EF (by simp) (by simp) (by simp) (.inr rfl) ?_
   rintro p u ⟨rfl,-⟩
   simp
   refine aT.mk (Z4 UZ UY) ?_
   rintro u H ⟨rfl,s,rfl,Fg,vq⟩
   simp
   refine aT.mk (Qm bD (by omega) Fg) ?_
   rintro alH aS ⟨bl,ajL,T5,ajd,Wd⟩
   simp
   refine aT.mk (mm T5.row.us (by omega)) ?_
   rintro alG aS ⟨rfl,aG,oi,vf,jc,-⟩
   simp
   rw[Wd]at jc
   have LU:val b<4294967296^(m+1)*(sT+1)/\4294967296^(m+1)<=val b:=by
    have o:=jm b (m+1)
    rw[show b.take (m+1+1)=b from by rw[<-g2,List.take_length],pj]at o
    have aa:=ks (l:=b.take (m+1)) fun x J=>bD.2 x (List.mem_of_mem_take J)
    rw[List.length_take,Nat.min_eq_left (by omega)]at aa
    have aA:=lq.le (by intro e;simp[e]at g2)
    rw[g2,show m+2-1=m+1 by omega]at aA
    refine⟨?_,aA⟩
    rw[o,Nat.mul_add]
    omega
   have yv:aG.length=m+2:=by
    have o:aG.length<=m+2:=by
     refine vf.length_le ?_
     rw[jc]
     have:4294967296^(m+1)*(sT+1)*2^s<=4294967296^(m+1)*4294967296:=by
      rw[Nat.mul_assoc]
      refine Nat.mul_le_mul_left _ ?_
      have e:(4294967296:Nat)=2^s*2^(32-s):=by rw[<-Nat.pow_add];rw[show s+(32-s)=32 by omega]
      rw[Nat.mul_comm,e]
      refine Nat.mul_le_mul_left _ ?_
      refine Nat.lt_of_mul_lt_mul_left (a:=2^s) ?_
      rw[<-e,Nat.mul_comm]
      exact vq
     rw[<-Nat.pow_succ]at this
     exact Nat.lt_of_lt_of_le (Nat.mul_lt_mul_of_pos_right LU.1 (Nat.pow_pos (by decide))) this
    have aa:m+2<=aG.length:=by
     rcases Nat.lt_or_ge aG.length (m+2)with h | h
     ·exfalso
      have aA:=ks oi.2
      rw[jc]at aA
      have bj:4294967296^aG.length<=4294967296^(m+1):=Nat.pow_le_pow_right (by decide) (by omega)
      have bJ:val b*1<=val b*2^s:=Nat.mul_le_mul_left _ (Nat.pow_pos (by decide))
      omega
     ·exact h
    omega
   have qz:aG[m+1]?.getD 0≠0:=by
    have:=vf
    rw[Trim,List.getLast?_eq_getElem?,yv,show m+2-1=m+1 by omega,bz (by omega)]at this
    rw[bz (by omega)]
    exact fun h=>this (by rw[<-h];rfl)
   refine aT.mk (Qm (bw.ext bl) (by omega) Fg) ?_
   rintro alN bU ⟨ch,us,AB,ajq,Ni⟩
   simp
   refine ck (by simpa using(oi.ext ch).row) (by simp) ?_
   rw[yv]
   simp
   refine ck (by simpa using(bw.ext (bl.aw ch)).row) (by simp) ?_
   have oo:b.length<=a.length:=by
    rcases Nat.lt_or_ge a.length b.length with h | h
    ·have:=lq.vW bw.2 h;omega
    ·exact h
   obtain⟨d,Ey⟩:∃d,a.length=d+(m+2):=⟨a.length-(m+2),by omega⟩
   have mg:IntKind.i64.wrap ((d:Int)+((m:Int)+2)-((m:Int)+2))=(d:Int):=by rw[b8 (by omega) (by omega)];omega
   have nB:IntKind.i64.wrap ((d:Int)+1)=(d:Int)+1:=b8 (by omega) (by omega)
   have je:IntKind.i64.wrap (d:Int)=(d:Int):=b8 (by omega) (by omega)
   rw[Ey]
   simp[mg,nB,je]
   refine su (e:=124) (R:=1) (bF:=4) (n:=d+1) (ay:=false) (z:= .int .u32 0) (ad:=gp) (a:=0) (eK:= .i64) (cX:= .i64) (by simp) (by simp) (by simp) (by simp) (by rfl) (by simp) Hr (by simp) (by simp) (by omega) (by omega) (by omega) (fun aF=>⟨rfl,by decide⟩) ?_
   rintro ae2 b5 T6 cP-
   simp
   refine ck (by simpa using(bw.ext (bl.aw (ch.aw cP))).row) (by simp) ?_
   rw[Ey]
   simp[mg,je]
   have Uw:=AB.row.us.2
   obtain⟨cs,⟨gd,cw⟩,U2⟩:=AB
   have gy:cs=fU us:=Qi gd fun _ i x af=>U2 i x af
   subst gy
   rcases cw with⟨aH,-⟩ | ⟨pa,U,cap,l,all,rfl,-,rD,EG,LL,bC,ev⟩
   ·omega
   rw[Nat.mul_one]at bC ev
   have vm:all=all.take U++(fU us++all.drop (U+us.length)):=by
    rw[ev,<-List.drop_drop,List.take_append_drop,List.take_append_drop]
   have Bk:(all.take U).length=U:=by rw[List.length_take];omega
   generalize all.take U=pre at vm Bk
   generalize all.drop (U+us.length)=post at vm
   subst vm
   have UH:=cP.get_some LL
   have vg:0<val aG:=by
    have:=vf.le (by intro e;simp[e]at yv)
    have aa:=Nat.pow_pos (n:=aG.length-1) (show 0<4294967296 by decide)
    omega
   have aiw:val aG<4294967296^(m+2):=by have:=ks oi.2;rwa[yv]at this
   have mf:val (us.drop (d+1))<val aG:=by
    have o:=Hg us (d+1)
    rw[Nat.min_eq_left (by omega)]at o
    have aa:=ks bw.2
    rw[Ey,show d+(m+2)=d+1+(m+1) by omega,Nat.pow_add]at aa
    have aA:4294967296^(d+1)*val (us.drop (d+1))<4294967296^(d+1)*(4294967296^(m+1)*2^s):=by
     have:val a*2^s<4294967296^(d+1)*4294967296^(m+1)*2^s:=Nat.mul_lt_mul_of_pos_right aa (Nat.pow_pos (by decide))
     rw[Nat.mul_assoc]at this
     omega
    have bj:=Nat.lt_of_mul_lt_mul_left aA
    have bJ:4294967296^(m+1)*2^s<=val b*2^s:=Nat.mul_le_mul_right _ LU.2
    omega
   refine c7.mk (by kernel_rfl) (fun k c_ en dx=>k<=d+1/\c_ 13= .int .i64 ((k:Int)-1)/\Ext aS dx/\Ext H dx/\∃dT pL:List Nat,dx[pa]?=some (.own 124 l (pre++(fU dT++post)))/\dT.length=us.length/\(∀x∈dT,x<4294967296)/\bH bU.length 124 1 false gp dx ae2 pL/\pL.length=d+1/\
    val dT+val aG*(4294967296^k*val (pL.drop k))=val us/\val (dT.drop k)<val aG) (d+1) ?_ ?_
   ·refine⟨Nat.le_refl _,by simp,ch.aw cP,bl.aw (ch.aw cP),us,_,UH,rfl,Uw,T6,by simp,?_,mf⟩
    rw[List.drop_eq_nil_of_le (by simp),show val []=0 from rfl,Nat.mul_zero,Nat.mul_zero,Nat.add_zero]
   ·rintro k c_ en dx ⟨ak,lZ,cu,NA,dT,pL,AK,W0,vF,kB,rT,hinv,vu⟩ K aV
    simp at lZ
    simp[lZ]
    refine bs.bZ (fun aU=>?_) (fun aU=>?_)
    ·obtain⟨j,rfl⟩:∃j,k=j+1:=⟨k-1,by omega⟩
     have aY:((j+1:Nat):Int)-1=(j:Int):=by omega
     have nr:(j:Int)+1-1=(j:Int):=by omega
     have bk:IntKind.i64.wrap ((j:Int)+((m:Int)+2))=(j:Int)+((m:Int)+2):=b8 (by omega) (by omega)
     have bp:IntKind.i64.wrap ((j:Int)+((m:Int)+2)+1)=((j+m+3:Nat):Int):=by rw[b8 (by omega) (by omega)];omega
     have pb:IntKind.i64.wrap ((j:Int)-1)=(j:Int)-1:=b8 (by omega) (by omega)
     have e0:IntKind.i64.wrap (j:Int)=(j:Int):=b8 (by omega) (by omega)
     try simp
     simp[lZ,aY,nr,bk,bp]
     have aiF:us.length<=cap:=rD
     refine PX (b:=pa) (i:=U) (len:=us.length) (cap:=cap) (l:=j) (h:=j+m+3) (e:=124) (R:=1) (by simp) AK rfl (by simp) (by simp) (by simp[dN]) (by simp[eY];omega) (by omega) (by omega) (by omega) ?_
     simp
     obtain⟨n3,bf⟩:∃n3,(dT.drop j).take (m+3)=n3:=⟨_,rfl⟩
     obtain⟨ad,br⟩:∃ad,(dT.drop j).drop (m+3)=ad:=⟨_,rfl⟩
     have ve:n3.length=m+3:=by rw[<-bf];simp;omega
     have Uf:ad.length=dT.length-(j+(m+3)):=by rw[<-br];simp[Nat.sub_sub]
     have Fk:dT=dT.take j++(n3++ad):=by rw[<-bf,<-br,List.take_append_drop,List.take_append_drop]
     have Up:∀x∈n3,x<4294967296:=fun x J=>vF x (by rw[Fk];simp[J])
     have Ug:∀x∈ad,x<4294967296:=fun x J=>vF x (by rw[Fk];simp[J])
     have M_:(dT.take j).length=j:=by simp;omega
     have l8:val (dT.drop j)=val n3+4294967296^(m+3)*val ad:=by
      have:dT.drop j=n3++ad:=by rw[<-bf,<-br,List.take_append_drop]
      rw[this,nT,ve]
     have L1:val (dT.drop j)<4294967296*val aG:=by
      rw[uj _ _ (by omega)]
      have:=w7 (l:=dT) (by decide) vF j
      omega
     have og:val ad=0:=by
      rcases Nat.eq_zero_or_pos (val ad)with h | h
      ·exact h
      ·exfalso
       have o:4294967296^(m+3)*1<=4294967296^(m+3)*val ad:=Nat.mul_le_mul_left _ h
       have aa:4294967296*val aG<=4294967296*4294967296^(m+2):=Nat.mul_le_mul_left _ (by omega)
       have aA:(4294967296:Nat)^(m+3)=4294967296*4294967296^(m+2):=by rw[Nat.pow_succ,Nat.mul_comm]
       omega
     rw[og,Nat.mul_zero,Nat.add_zero]at l8
     have UD:dx[pa]?=some (.own 124 l ((pre++fU (dT.take j))++(fU n3++(fU ad++post)))):=by
      rw[AK]
      congr 2
      conv=>lhs;rw[Fk]
      simp[fU]
     have mD:j+m+3-j=m+3:=by omega
     rw[mD]
     refine aT.mk (R0 (m:=m) UD (by simp[fU,Bk];omega) ve Up (fun X aW=>oi.ext (cu.set EG aW)) yv (by omega) qz (by rw[<-l8];exact L1)) ?_
     rintro u c6 ⟨⟨q,rfl,av⟩,sN,rfl,Uo,Uq,vf⟩
     have Bn:q<4294967296:=by rw[av,Nat.div_lt_iff_lt_mul vg,<-l8];exact L1
     simp
     have U0:pa<dx.length:=(cJ.1 AK).1
     have LS:pa<bU.length:=(cJ.1 LL).1
     refine kp (ad:=gp) (n:=j) (k:=bU.length) (xs:=pL) (a:=q) (by simpa using kB.abH LS (fun u y h=>h)) (by simp) (by omega) ⟨by simp,Bn⟩ (by simpa using zx _) (by simp) (fun _ _ _ _ _ h=>h) (by simp) (by simp) (by simp) (by decide) ?_
     rintro oS eV eW cW-rM LV
     simp at eW LV
     have L5:∀cE:ab,cE.length<=pa->Ext cE dx->Ext cE eV:=fun cE aH J=>cW cE (by omega) (by simpa using J.set aH (X:= .own 124 l ((pre++fU (dT.take j))++(fU sN++(fU ad++post)))) (by simp))
     have UE:eV[pa]?=some (.own 124 l (pre++(fU (dT.take j++(sN++ad))++post))):=by
      rw[LV pa LS,List.getElem?_set_self U0]
      simp[fU]
     simp[lZ,aY]
     refine aV j _ _ _ (by omega) ⟨by omega,by simp[pb],L5 _ EG cu,L5 _ (Nat.le_trans bl.len EG) NA,_,_,UE,?_,?_,by simpa using eW,by simp[rT],?_,?_⟩
     ·rw[List.length_append,List.length_append,M_,Uo,Uf];omega
     ·intro x J
      rcases List.mem_append.1 J with J | J
      ·exact vF x (List.mem_of_mem_take J)
      ·rcases List.mem_append.1 J with J | J
       ·exact Uq x J
       ·exact Ug x J
     ·have o:val dT=val (dT.take j)+4294967296^j*val n3:=by
       have:=Hg dT j
       rw[Nat.min_eq_left (by omega),l8]at this
       exact this
      have aa:val (dT.take j++(sN++ad))=val (dT.take j)+4294967296^j*val sN:=by
       rw[nT,nT,M_,og,Nat.mul_zero,Nat.add_zero]
      have aA:val ((pL.set j q).drop j)=q+4294967296*val (pL.drop (j+1)):=by
       rw[uj _ _ (by simp;omega),List.getElem?_set_self (by omega),List.drop_set_of_lt (by omega)]
       rfl
      have bj:=Nat.div_add_mod (val n3) (val aG)
      rw[<-av,<-vf]at bj
      rw[aa,aA]
      rw[o,Nat.pow_succ]at hinv
      generalize (4294967296:Nat)^j=E at*
      generalize val (pL.drop (j+1))=Z at*
      have rl:val aG*(E*(q+4294967296*Z))=E*(val aG*q)+val aG*(E*4294967296*Z):=by grind
      have Dz:E*val n3=E*(val aG*q)+E*val sN:=by rw[<-Nat.mul_add,bj]
      omega
     ·have:(dT.take j++(sN++ad)).drop j=sN++ad:=by
       rw[List.drop_append_of_le_length (by omega),List.drop_eq_nil_of_le (by omega),List.nil_append]
      rw[this,nT,og,Nat.mul_zero,Nat.add_zero,vf]
      exact Nat.mod_lt _ vg
    ·have pr:k=0:=by omega
     subst pr
     simp at hinv vu
     have Uu:db dx 124 (.slice (some ⟨pa,U,none⟩) us.length cap) dT:=by
      refine⟨⟨_,cap,by rw[W0],by omega,by simp,fun _=>⟨pa,U,_,_,rfl,AK,rfl,rfl,?_,?_⟩⟩,vF⟩
      ·simp[fU,Bk]
      ·rw[<-Bk,List.drop_append_of_le_length (Nat.le_refl _),List.drop_length,List.nil_append,Nat.mul_one,List.take_append_of_le_length (by simp[fU])]
       rw[List.take_of_length_le (by simp[fU])]
       rfl
     try simp
     refine aT.mk (mm kB.row.us (by omega)) ?_
     rintro q c6 ⟨rfl,h4,A5,qh,tJ,-⟩
     refine⟨Ext.refl _,?_⟩
     simp
     refine qY (e:=124) (R:=1) (ay:=false) (l:=0) (h:=m+2) (ad:=gp) (xs:=dT) (by simpa using Uu.row) (by simp) (by simp) (.inr rfl) (by simp[dN]) (by simp[eY];omega) (by omega) (by omega) ?_
     intro alK al
     simp at al
     simp
     refine aT.mk (mm al.us (by simp;omega)) ?_
     rintro t eV ⟨rfl,lt,aZ,Us,tK,-⟩
     simp
     have ai6:lt.length<=m+2:=by
      refine Us.length_le ?_
      rw[tK]
      have:=ks (l:=dT.take (m+2)) fun x J=>vF x (List.mem_of_mem_take J)
      rw[List.length_take]at this
      exact Nat.lt_of_lt_of_le this (Nat.pow_le_pow_right (by decide) (Nat.min_le_left _ _))
     refine aT.mk (Sw aZ (by omega) Fg) ?_
     rintro z fz ⟨dy,vV,A6,ph,nA⟩
     simp[bd]
     have WU:val (dT.take (m+2))=val dT:=by
      have o:=Hg dT (m+2)
      rw[Nat.min_eq_left (by omega)]at o
      rcases Nat.eq_zero_or_pos (val (dT.drop (m+2)))with h | h
      ·rw[h,Nat.mul_zero,Nat.add_zero]at o;exact o.symm
      ·have aa:4294967296^(m+2)*1<=4294967296^(m+2)*val (dT.drop (m+2)):=Nat.mul_le_mul_left _ h
       omega
     have tt:0<2^s:=Nat.pow_pos (by decide)
     have Wx:val pL=val a/val b:=by
      have o:val us/val aG=val pL:=by
       rw[<-hinv,Nat.add_mul_div_left _ _ vg,Nat.div_eq_of_lt vu,Nat.zero_add]
      rw[<-o,Ni,jc,Nat.mul_div_mul_right _ _ tt]
     have Br:val dT=(val a % val b)*2^s:=by
      have o:val us % val aG=val dT:=by
       rw[<-hinv,Nat.add_mul_mod_self_left,Nat.mod_eq_of_lt vu]
      rw[<-o,Ni,jc,Nat.mul_mod_mul_right]
     exact aC _ _ ⟨NA.aw dy,_,_,h4,vV,rfl,A5.ext dy,qh,by rw[tJ,Wx],A6,ph,by rw[nA,tK,WU,Br,Nat.mul_div_cancel _ tt]⟩
instance:b7 du:=⟨fun h J=>h.ext J⟩
theorem yV{neg:Bool}{v:Value}{l:List Nat}{H:ab}(eJ:db H 124 v l)(bf:Trim l):aO prog 92 [.bool neg,v] H (fun w H1=>Ext H H1/\du H1 w (if neg=true then-(val l:Int)else val l)):=by
 obtain⟨a,c,rfl⟩:=eJ.len
 exact tR.mono fun w H1 ⟨J,hw⟩=>⟨J,du.mk' hw (eJ.ext J) bf⟩
theorem du.whole{H:ab}{v:Value}{z:Int}(h:du H v z):Whole prog 78 v:=by
 obtain⟨a,c,l,rfl,-⟩:=h
 exact⟨by simp,by simp,by simp[eS]⟩
theorem du.us{H:ab}{s:Bool}{v:Value}{z:Int}(h:du H (.agg #[.bool s,v]) z):∃l,s=decide (z<0)/\db H 124 v l/\Trim l/\val l=z.natAbs:=by
 obtain⟨a,c,l,he,aa,aA,bj⟩:=h
 simp at he
 obtain⟨rfl,rfl⟩:=he
 exact⟨l,rfl,aa,aA,bj⟩
theorem aa0{a b q r:Int}(ag:b≠0)(av:q=if(!(decide (a<0)==decide (b<0)))=true then-((a.natAbs/b.natAbs:Nat):Int)else((a.natAbs/b.natAbs:Nat):Int))(al:r=if decide (a<0)=true then-((a.natAbs % b.natAbs:Nat):Int)else((a.natAbs % b.natAbs:Nat):Int)):
  (if a.natAbs % b.natAbs=0\/(!(decide (a<0)==decide (b<0)))=false then q else q-1)=a.fdiv b/\(if a.natAbs % b.natAbs=0\/(!(decide (a<0)==decide (b<0)))=false then r else r+b)=a.fmod b:=by
 have hm:a.fmod b=a-b*a.fdiv b:=Int.fmod_def a b
 have key:∀Q:Int,(0<b->b*Q<=a/\a<b*Q+b)->(b<0->a<=b*Q/\b*Q+b<a)->Q=a.fdiv b:=by
  intro Q o aa
  rcases Int.lt_or_lt_of_ne ag with h | h
  ·obtain⟨c9,gi⟩:=aa h
   have e:a.fdiv b=(-a).fdiv (-b):=by rw[Int.neg_fdiv_neg]
   rw[e,Int.fdiv_eq_ediv_of_nonneg _ (by omega)]
   refine(Int.ediv_eq_iff_of_pos (by omega)).2 ?_ |>.symm
   constructor<;>grind
  ·obtain⟨c9,gi⟩:=o h
   rw[Int.fdiv_eq_ediv_of_nonneg _ (by omega)]
   refine(Int.ediv_eq_iff_of_pos (by omega)).2 ?_ |>.symm
   constructor<;>grind
 have np:=Nat.div_add_mod a.natAbs b.natAbs
 have eG:=Nat.mod_lt a.natAbs (show 0<b.natAbs by omega)
 generalize a.natAbs/b.natAbs=x at*
 generalize a.natAbs % b.natAbs=y at*
 have aU:(b.natAbs:Int)*x+y=a.natAbs:=by exact_mod_cast np
 have aC:(if y=0\/(!(decide (a<0)==decide (b<0)))=false then q else q-1)=a.fdiv b:=by
  refine key _ (fun h=>?_) (fun h=>?_)
  ·have bp:decide (b<0)=false:=by simp;omega
   have bD:(b.natAbs:Int)=b:=by omega
   rw[bD]at aU
   by_cases aL:a<0
   ·have bk:decide (a<0)=true:=by simpa using aL
    have bw:(a.natAbs:Int)= -a:=by omega
    simp[bk,bp]at av⊢
    rw[bw]at aU
    rw[av]
    split
    ·constructor<;>grind
    ·constructor<;>grind
   ·have bk:decide (a<0)=false:=by simpa using aL
    have bw:(a.natAbs:Int)=a:=by omega
    simp[bk,bp]at av⊢
    rw[bw]at aU
    rw[av]
    constructor<;>grind
  ·have bp:decide (b<0)=true:=by simpa using h
   have bD:(b.natAbs:Int)= -b:=by omega
   rw[bD]at aU
   by_cases aL:a<0
   ·have bk:decide (a<0)=true:=by simpa using aL
    have bw:(a.natAbs:Int)= -a:=by omega
    simp[bk,bp]at av⊢
    rw[bw]at aU
    rw[av]
    constructor<;>grind
   ·have bk:decide (a<0)=false:=by simpa using aL
    have bw:(a.natAbs:Int)=a:=by omega
    simp[bk,bp]at av⊢
    rw[bw]at aU
    rw[av]
    split
    ·constructor<;>grind
    ·constructor<;>grind
 refine⟨aC,?_⟩
 rw[hm,<-aC]
 by_cases aL:a<0<;>by_cases df:b<0
 ·have bw:(a.natAbs:Int)= -a:=by omega
  have bD:(b.natAbs:Int)= -b:=by omega
  rw[bw,bD]at aU
  simp[aL,df]at av al⊢
  rw[av,al];grind
 ·have bw:(a.natAbs:Int)= -a:=by omega
  have bD:(b.natAbs:Int)=b:=by omega
  rw[bw,bD]at aU
  simp[aL,df]at av al⊢
  rw[av,al]
  split<;>grind
 ·have bw:(a.natAbs:Int)=a:=by omega
  have bD:(b.natAbs:Int)= -b:=by omega
  rw[bw,bD]at aU
  simp[aL,df]at av al⊢
  rw[av,al]
  split<;>grind
 ·have bw:(a.natAbs:Int)=a:=by omega
  have bD:(b.natAbs:Int)=b:=by omega
  rw[bw,bD]at aU
  simp[aL,df]at av al⊢
  rw[av,al];grind
theorem aa1{v w:Value}{a b:Int}{H:ab}(bw:du H v a)(bD:du H w b)(a7:Fits a)(kz:Fits b)(ag:b≠0):aO prog 119 [v,w] H (fun u H1=>Ext H H1/\∃x y,u= .tuple #[x,y]/\du H1 x (a.fdiv b)/\du H1 y (a.fmod b)):=by
 refine aO.b9 fun Q aC=>?_
 apply Yp (by simp)
 have Qz:=bw.whole
 have QA:=bD.whole
 obtain⟨s1,b4,cB,cm,rfl⟩:=bw.shape
 obtain⟨s2,cM,cL,cI,rfl⟩:=bD.shape
 obtain⟨dg,rfl,xw,pg,yt⟩:=bw.us
 obtain⟨dM,rfl,AH,lq,tF⟩:=bD.us
 have kD:=a7.length pg yt
 have jV:=kz.length lq tF
 have VR:0<dM.length:=by rw[lq.pos,tF];omega
 simp[I0]
 have bu:Ext H (H++[.dead,.dead,.dead,.dead]):=Ext.more H (by simp)
 refine aT.mk (OK (xw.ext bu) pg (AH.ext bu) lq VR (by omega) (by omega)) ?_
 rintro u H1 ⟨bq,q,r,h4,vV,rfl,av,qh,tJ,al,ph,nA⟩
 simp
 rw[yt,tF]at tJ nA
 refine aT.mk (yV av qh) ?_
 rintro x aS ⟨bl,J⟩
 refine⟨bl,?_⟩
 simp
 refine aT.mk (yV (al.ext bl) ph) ?_
 rintro y bN ⟨bK,aI⟩
 refine⟨bK,?_⟩
 have aW:=J.ext bK
 simp
 refine c2.mk J.whole ?_
 simp
 refine c2.mk aI.whole ?_
 have cP:Ext H (bN++[.dead,.dead]):=(bu.aw (bq.aw (bl.aw bK))).aw (Ext.more bN (by simp))
 have cu:Ext bN (bN++[.dead,.dead]):=Ext.more bN (by simp)
 have WA:=(al.ext bl).ext (bK.aw cu)
 obtain⟨mU,yf⟩:=aa0 (a:=a) (b:=b) (q:=_) (r:=_) ag rfl rfl
 rw[tJ]at aW
 rw[nA]at aI
 have A6:0<vV.length↔¬(a.natAbs % b.natAbs=0):=by rw[ph.pos,nA];omega
 refine cc.join (by kernel_rfl) (fun cT dO bU=>Ext H bU/\du bU (dO 8) (a.fdiv b)/\du bU (dO 9) (a.fmod b)) ?_ ?_
 ·rintro K aV-
  rw[kJ]
  refine cc.join (by kernel_rfl) (fun cT dO bU=>bU=bN++[.dead,.dead]/\∃c:Bool,cT 38= .bool c/\(c=true↔¬(a.natAbs % b.natAbs=0\/(!(decide (a<0)==decide (b<0)))=false))) ?_ ?_
  ·rintro cZ c3-
   simp
   refine ck (by simpa using WA.row) (by simp) ?_
   simp
   refine bs.bZ (fun aU=>?_) (fun aU=>?_)
   ·simp[aU]
    refine c3 _ _ _ ⟨rfl,(!(decide (a<0)==decide (b<0))),by simp,?_⟩
    have:=A6.1 aU
    simp[this]
   ·simp[aU]
    refine c3 _ _ _ ⟨rfl,false,by simp,?_⟩
    have:a.natAbs % b.natAbs=0:=by
     rcases Nat.eq_zero_or_pos (a.natAbs % b.natAbs)with h | h
     ·exact h
     ·exact absurd (A6.2 (by omega)) aU
    simp[this]
  ·rintro cT dO bU ⟨rfl,c,K_,ae⟩
   simp at K_
   simp[K_]
   refine bs.mk (fun gb=>?_) (fun gb=>?_)
   ·have xI:=ae.1 gb
    rw[if_neg xI]at mU yf
    try simp
    refine aT.mk (v5 (by omega) (by omega)) ?_
    rintro U b5 ⟨cR,aQ⟩
    refine⟨cR,?_⟩
    simp
    have f1:Fits 1:=Fits.small (by decide)
    have Wv:Fits (if(!(decide (a<0)==decide (b<0)))=true then-((a.natAbs/b.natAbs:Nat):Int)else((a.natAbs/b.natAbs:Nat):Int)):=by
     have:a.natAbs/b.natAbs<=a.natAbs:=Nat.div_le_self _ _
     unfold Fits at a7⊢
     split<;>omega
    have WB:Fits (if decide (a<0)=true then-((a.natAbs % b.natAbs:Nat):Int)else((a.natAbs % b.natAbs:Nat):Int)):=by
     have:a.natAbs % b.natAbs<=a.natAbs:=Nat.mod_le _ _
     unfold Fits at a7⊢
     split<;>omega
    refine aT.mk (Py (aW.ext (cu.aw cR)) aQ Wv f1) ?_
    rintro eD dx ⟨cW,pz⟩
    refine⟨cW,?_⟩
    simp
    refine aT.mk (zS ((aI.ext (cu.aw cR)).ext cW) ((bD.ext cP).ext (cR.aw cW)) WB kz) ?_
    rintro m8 c6 ⟨dy,qC⟩
    simp
    refine c2.mk pz.whole ?_
    simp
    refine c2.mk qC.whole ?_
    rw[mU]at pz
    rw[yf]at qC
    exact aV _ _ _ ⟨cP.aw (cR.aw (cW.aw dy)),by simpa using pz.ext dy,by simpa using qC⟩
   ·have xI:(a.natAbs % b.natAbs=0\/(!(decide (a<0)==decide (b<0)))=false):=by
     apply Classical.byContradiction
     intro h
     rw[ae.2 h]at gb
     cases gb
    rw[if_pos xI]at mU yf
    rw[mU]at aW
    rw[yf]at aI
    exact aV _ _ _ ⟨cP,by simpa using aW.ext cu,by simpa using aI.ext cu⟩
 ·rintro cT dO bU ⟨J,cN,eB⟩
  simp at cN eB
  simp
  refine c2.mk cN.whole ?_
  simp
  refine c2.mk eB.whole ?_
  simp[bd]
  exact aC _ _ ⟨J,_,_,rfl,cN,eB⟩
theorem KX{v w:Value}{a b:Int}{H:ab}(bw:du H v a)(bD:du H w b)(a7:Fits a)(kz:Fits b):aO prog 102 [v,w] H (fun u H1=>Ext H H1/\du H1 u (Int.gcd a b)):=by
 refine aO.b9 fun Q aC=>?_
 apply Ym (by simp)
 have Qz:=bw.whole
 have QA:=bD.whole
 obtain⟨s1,b4,cB,cm,rfl⟩:=bw.shape
 obtain⟨s2,cM,cL,cI,rfl⟩:=bD.shape
 obtain⟨dg,rfl,xw,pg,yt⟩:=bw.us
 obtain⟨dM,rfl,AH,lq,tF⟩:=bD.us
 have kD:=a7.length pg yt
 have jV:=kz.length lq tF
 simp[IZ]
 have bu:Ext H (H++[.dead,.dead,.dead]):=Ext.more H (by simp)
 refine c7.mk (by kernel_rfl) (fun n az bE H1=>Ext H H1/\∃x y:List Nat,n=val y/\db H1 124 (az 5) x/\Trim x/\x.length<=1000000/\db H1 124 (az 6) y/\Trim y/\y.length<=1000000/\Nat.gcd (val x) (val y)=Int.gcd a b) (val dM) ?_ ?_
 ·exact⟨bu,dg,dM,rfl,by simpa using xw.ext bu,pg,kD,by simpa using AH.ext bu,lq,jV,by rw[yt,tF];rfl⟩
 ·rintro n az bE H1 ⟨bq,x,y,rfl,J,AG,E4,aI,rA,vH,aX⟩ K aV
  simp at J aI
  simp
  refine ck (by simpa using aI.row) (by simp) ?_
  simp
  refine bs.bZ (fun aU=>?_) (fun aU=>?_)
  ·try simp
   refine aT.mk (OK J AG aI rA aU (by omega) (by omega)) ?_
   rintro u aS ⟨bl,q,r,h4,vV,rfl,av,qh,tJ,al,ph,nA⟩
   simp
   have tL:0<val y:=(rA.pos).1 aU
   refine aV (val vV) _ _ _ (by rw[nA];exact Nat.mod_lt _ tL) ⟨bq.aw bl,y,vV,rfl,by simpa using aI.ext bl,rA,vH,by simpa using al,ph,?_,?_⟩
   ·refine Nat.le_trans (ph.length_le (n:=y.length) ?_) vH
    rw[nA]
    exact Nat.lt_trans (Nat.mod_lt _ tL) (ks aI.2)
   ·rw[nA,<-aX,Nat.gcd_comm (val x) (val y),Nat.gcd_rec (val y) (val x),Nat.gcd_comm]
  ·try simp
   have vQ:y=[]:=List.eq_nil_of_length_eq_zero (by omega)
   subst vQ
   refine aT.mk (yV J AG) ?_
   rintro u aS ⟨bl,hu⟩
   simp
   refine c2.mk hu.whole ?_
   simp[bd]
   simp[val]at aX
   rw[aX]at hu
   exact aC _ _ ⟨bq.aw bl,by simpa using hu⟩
def cf(H:ab)(v:Value)(q:Rat):Prop:=fA H v q.num q.den
instance:b7 cf:=⟨fun h J=>fA.ext h J⟩
theorem cf.ext{H H1:ab}{v:Value}{q:Rat}(h:cf H v q)(J:Ext H H1):cf H1 v q:=fA.ext h J
theorem fA.whole{H:ab}{v:Value}{n d:Int}(h:fA H v n d):Whole prog 80 v:=by
 obtain⟨s1,b4,cB,cm,s2,cM,cL,cI,rfl,-⟩:=h.shape
 exact⟨by simp,by simp,by simp[eS]⟩
theorem cf.whole{H:ab}{v:Value}{q:Rat}(h:cf H v q):Whole prog 80 v:=fA.whole h
theorem cf.kept{H aF:ab}{e:Nat}{s v:Value}{q:Rat}(h:cf H v q)(ak:Kept H aF s e)(cF:124≠e):cf aF v q:=fA.kept h ak cF
theorem Fits.le{a b:Int}(a7:Fits a)(h:b.natAbs<=a.natAbs):Fits b:=Nat.lt_of_le_of_lt h a7
def dh(N:Nat)(q:Rat):Prop:=q.num.natAbs<2^N/\q.den<2^N
theorem Fits.bits{z:Int}{N:Nat}(h:z.natAbs<2^N)(bP:N<=32000000):Fits z:=by
 exact aaP 1000000 h (by omega)
theorem dh.num{N:Nat}{q:Rat}(h:dh N q)(bP:N<=32000000):Fits q.num:=Fits.bits h.1 bP
theorem dh.den{N:Nat}{q:Rat}(h:dh N q)(bP:N<=32000000):Fits q.den:=Fits.bits (z:=q.den) (by simpa using h.2) bP
theorem dh.mono{N M:Nat}{q:Rat}(h:dh N q)(AA:N<=M):dh M q:=⟨Nat.lt_of_lt_of_le h.1 (Nat.pow_le_pow_right (by decide) AA),Nat.lt_of_lt_of_le h.2 (Nat.pow_le_pow_right (by decide) AA)⟩
theorem dh.int{N:Nat}{z:Int}(h:z.natAbs<2^N)(bP:0<N):dh N (z:Rat):=⟨by rw[Rat.num_intCast];exact h,by rw[Rat.den_intCast];exact Nat.one_lt_two_pow (by omega)⟩
theorem dh.neg{N:Nat}{q:Rat}(h:dh N q):dh N (-q):=⟨by rw[Rat.neg_num,Int.natAbs_neg];exact h.1,h.2⟩
theorem w2(n:Int)(d:Nat)(aD:d≠0):(Rat.divInt n d).num=n/(Nat.gcd n.natAbs d:Nat)/\(Rat.divInt n d).den=d/Nat.gcd n.natAbs d:=by
 rw[Rat.divInt_ofNat,Rat.mkRat_def,dif_neg aD,Rat.normalize_eq aD]
 exact⟨rfl,rfl⟩
theorem dh.divInt{N:Nat}{n:Int}{d:Nat}(aD:d≠0)(aJ:n.natAbs<2^N)(kW:d<2^N):dh N (Rat.divInt n d):=by
 obtain⟨o,aa⟩:=w2 n d aD
 refine⟨?_,?_⟩
 ·rw[o,Int.natAbs_ediv_of_dvd (Int.ofNat_dvd_left.2 (Nat.gcd_dvd_left _ _))]
  exact Nat.lt_of_le_of_lt (Nat.div_le_self _ _) aJ
 ·rw[aa]
  exact Nat.lt_of_le_of_lt (Nat.div_le_self _ _) kW
theorem dh.add{N M:Nat}{a b:Rat}(aL:dh N a)(ag:dh M b):dh (N+M+1) (a+b):=by
 rw[Rat.add_def',<-Rat.divInt_ofNat]
 have o:(a.num*b.den).natAbs<2^(N+M):=by
  rw[Int.natAbs_mul,Int.natAbs_natCast,Nat.pow_add]
  exact Nat.mul_lt_mul'' aL.1 ag.2
 have aa:(b.num*a.den).natAbs<2^(N+M):=by
  rw[Int.natAbs_mul,Int.natAbs_natCast,Nat.add_comm,Nat.pow_add]
  exact Nat.mul_lt_mul'' ag.1 aL.2
 refine dh.divInt (Nat.mul_ne_zero a.den_nz b.den_nz) ?_ ?_
 ·rw[Nat.pow_succ]
  have:=Int.natAbs_add_le (a.num*b.den) (b.num*a.den)
  omega
 ·have:a.den*b.den<2^(N+M):=by rw[Nat.pow_add];exact Nat.mul_lt_mul'' aL.2 ag.2
  rw[Nat.pow_succ]
  omega
theorem F1{f:FuncId}{args:List Value}{H:ab}{z:Int}(h:aO prog f args H (fun u H1=>Ext H H1/\du H1 u z)):aO prog f args H (fun u H1=>Ext H H1/\∃s a n c,u= .agg #[.bool s,.slice a n c]/\du H1 (.agg #[.bool s,.slice a n c]) z):=
 h.mono fun u H1 ⟨J,hu⟩=>by
  obtain⟨s,a,n,c,rfl⟩:=hu.shape
  exact⟨J,_,_,_,_,rfl,hu⟩
theorem O3{v w:Value}{a b:Int}{H:ab}(bw:du H v a)(bD:du H w b)(a7:Fits a)(kz:Fits b)(ag:b≠0):aO prog 119 [v,w] H (fun u H1=>Ext H H1/\∃s1 b4 cB cm s2 cM cL cI,u= .tuple #[.agg #[.bool s1,.slice b4 cB cm],.agg #[.bool s2,.slice cM cL cI]]/\du H1 (.agg #[.bool s1,.slice b4 cB cm]) (a.fdiv b)/\du H1 (.agg #[.bool s2,.slice cM cL cI]) (a.fmod b)):=
 (aa1 bw bD a7 kz ag).mono fun u H1 ⟨J,x,y,hu,o,aa⟩=>by
  obtain⟨s1,b4,cB,cm,rfl⟩:=o.shape
  obtain⟨s2,cM,cL,cI,rfl⟩:=aa.shape
  exact⟨J,_,_,_,_,_,_,_,_,hu,o,aa⟩
def wL(H:ab)(v w:Value)(n d:Int):Prop:=∃(ec:Int) (fD lY:Nat) (s1:Bool) (b4:Option Addr) (cB cm:Nat) (s2:Bool) (cM:Option Addr) (cL cI:Nat),v= .agg #[.bool s1,.slice b4 cB cm]/\w= .agg #[.bool s2,.slice cM cL cI]/\du H (.agg #[.bool s1,.slice b4 cB cm]) ec/\du H (.agg #[.bool s2,.slice cM cL cI]) fD/\Fits ec/\Fits fD/\Fits lY/\
 Int.gcd ec fD=lY/\0<lY/\lY<=fD/\(Rat.divInt n d).num=ec/lY/\(Rat.divInt n d).den=fD/lY/\(lY:Int)∣ec/\lY∣fD/\du H v ec/\du H w fD
theorem wL.mk'{H:ab}{v w:Value}{n d ec:Int}{fD:Nat}(bP:du H v ec)(ej:du H w fD)(Ak:Fits ec)(w5:Fits fD)(jT:fD≠0)(ig:Rat.divInt ec fD=Rat.divInt n d):wL H v w n d:=by
 have ET:0<Nat.gcd ec.natAbs fD:=Nat.gcd_pos_of_pos_right _ (by omega)
 have rJ:Nat.gcd ec.natAbs fD<=fD:=Nat.le_of_dvd (by omega) (Nat.gcd_dvd_right _ _)
 obtain⟨ih,j9⟩:=w2 ec fD jT
 have Mc:=Nat.gcd_dvd_left ec.natAbs fD
 have Mb:=Nat.gcd_dvd_right ec.natAbs fD
 obtain⟨Pj,JL,Oq,J7,rfl⟩:=bP.shape
 obtain⟨Pk,JM,Ot,J8,rfl⟩:=ej.shape
 rw[ig]at ih j9
 exact⟨ec,fD,Nat.gcd ec.natAbs fD,Pj,JL,Oq,J7,Pk,JM,Ot,J8,rfl,rfl,bP,ej,Ak,w5,w5.le (by omega),rfl,ET,rJ,ih,j9,Int.ofNat_dvd_left.2 Mc,Mb,bP,ej⟩
theorem aa3{v w:Value}{n d:Int}{H:ab}(bw:du H v n)(bD:du H w d)(fn:Fits n)(fd:Fits d)(aD:d≠0):aO prog 106 [v,w] H (fun u H1=>Ext H H1/\cf H1 u (Rat.divInt n d)):=by
 refine aO.b9 fun Q aC=>?_
 apply YD (by simp)
 have Qz:=bw.whole
 have QA:=bD.whole
 have s8:=bw
 have Tu:=bD
 obtain⟨s1,b4,cB,cm,rfl⟩:=bw.shape
 obtain⟨s2,cM,cL,cI,rfl⟩:=bD.shape
 simp[I8]
 have bu:Ext H (H++[.dead,.dead,.dead]):=Ext.more H (by simp)
 refine cc.join (by kernel_rfl) (fun cT dO bU=>Ext H bU/\wL bU (dO 2) (dO 3) n d) ?_ ?_
 ·rintro K aV Lt
  obtain⟨dM,rfl,AH,lq,tF⟩:=bD.us
  simp
  refine bs.bZ (fun aU=>?_) (fun aU=>?_)
  ·have e:((d.natAbs:Nat):Int)= -d:=by omega
   try simp
   refine aT.mk (B0 (bw.ext bu)) ?_
   rintro x H1 ⟨bq,J⟩
   refine⟨bq,?_⟩
   simp
   refine aT.mk (B0 (bD.ext (bu.aw bq))) ?_
   rintro y aS ⟨bl,aI⟩
   simp
   refine c2.mk J.whole ?_
   simp
   refine c2.mk aI.whole ?_
   refine aV _ _ _ ⟨bu.aw (bq.aw bl),wL.mk' (ec:= -n) (fD:=d.natAbs) (by simpa using J.ext bl) (by rw[e];simpa using aI) fn.neg (by rw[e];exact fd.neg) (by omega) (by rw[e,Rat.neg_divInt_neg])⟩
  ·have e:((d.natAbs:Nat):Int)=d:=by omega
   exact aV _ _ _ ⟨bu,wL.mk' (ec:=n) (fD:=d.natAbs) (by simpa using bw.ext bu) (by rw[e];simpa using bD.ext bu) fn (by rw[e];exact fd) (by omega) (by rw[e])⟩
 ·rintro cT dO bU ⟨ch,ec,fD,lY,Pj,JL,Oq,J7,Pk,JM,Ot,J8,j_,iZ,bP,ej,Ak,w5,rm,SM,ET,rJ,ih,j9,Mc,Mb,-,-⟩
  simp at j_ iZ
  simp[j_,iZ]
  refine aT.mk (KX bP ej Ak w5) ?_
  rintro g b5 ⟨cP,aX⟩
  rw[SM]at aX
  have f1:Fits 1:=Fits.small (by decide)
  simp
  refine c2.mk aX.whole ?_
  simp
  have cu:Ext b5 (b5++[.dead]):=Ext.dead b5
  refine aT.mk (v5 (by omega) (by omega)) ?_
  rintro U dx ⟨cR,aQ⟩
  refine⟨cR,?_⟩
  simp
  refine aT.mk (FY (aX.ext (cu.aw cR)) aQ rm f1) ?_
  rintro c c6 ⟨cW,rfl⟩
  simp
  have FL:Ext b5 c6:=cu.aw (cR.aw cW)
  have pD:Ext bU c6:=cP.aw FL
  refine bs.bZ (fun ae=>?_) (fun ae=>?_)
  ·have mM:lY=1:=by
    by_cases o:(lY:Int)<1
    ·omega
    ·rw[if_neg o]at ae
     split at ae
     ·omega
     ·cases ae
   rw[mM]at ih j9
   simp only[Int.natCast_one,Int.ediv_one,Nat.div_one]at ih j9
   simp[j_,iZ]
   simp[bd]
   refine aC _ _ ⟨ch.aw pD,_,_,_,_,rfl,?_,?_⟩
   ·rw[ih];exact bP.ext pD
   ·rw[j9];exact ej.ext pD
  ·try simp
   have Md:(lY:Int)≠0:=by omega
   simp[j_,iZ]
   refine aT.mk (O3 (bP.ext pD) (aX.ext FL) Ak rm Md) ?_
   rintro u eV ⟨dy,t1,hs,kl,bk,t2,lf,Ob,bp,rfl,ya,ye⟩
   simp[iZ]
   have gL:Ext eV (eV++[.dead,.dead]):=Ext.more eV (by simp)
   have FM:=dy.aw gL
   refine aT.mk (O3 (ej.ext (pD.aw FM)) (aX.ext (FL.aw FM)) w5 rm Md) ?_
   rintro u fz ⟨gq,t3,wU,Oc,e0,t4,JS,Od,mD,rfl,oH,qw⟩
   simp
   have gr:Ext fz (fz++[.dead,.dead]):=Ext.more fz (by simp)
   have MR:=ya.ext (gL.aw (gq.aw gr))
   have MT:=oH.ext gr
   have bk:ec.fdiv lY=(Rat.divInt n d).num:=by rw[ih,Int.fdiv_eq_ediv_of_nonneg _ (by omega)]
   have bp:(fD:Int).fdiv lY=((Rat.divInt n d).den:Int):=by rw[j9,Int.fdiv_eq_ediv_of_nonneg _ (by omega)];rfl
   rw[bk]at MR
   rw[bp]at MT
   simp[bd]
   exact aC _ _ ⟨ch.aw (pD.aw (FM.aw (gq.aw gr))),_,_,_,_,rfl,MR,MT⟩
theorem abc{v:Value}{a:Rat}{H:ab}(bw:cf H v a):aO prog 109 [v] H (fun u H1=>Ext H H1/\cf H1 u (-a)):=by
 refine aO.b9 fun Q aC=>?_
 apply Yy (by simp)
 obtain⟨s1,b4,cB,cm,s2,cM,cL,cI,rfl,bP,ej⟩:=fA.shape bw
 simp[I5]
 have bu:Ext H (H++[.dead,.dead]):=Ext.more H (by simp)
 refine aT.mk (F1 (B0 (bP.ext bu))) ?_
 rintro u H1 ⟨bq,lH,eM,hn,eQ,rfl,hu⟩
 refine⟨bq,?_⟩
 simp[bd]
 refine aC _ _ ⟨bu.aw bq,_,_,_,_,rfl,?_,ej.ext (bu.aw bq)⟩
 rw[Rat.neg_num];exact hu
theorem Gv{v w:Value}{a b:Rat}{N M:Nat}{H:ab}(bw:cf H v a)(bD:cf H w b)(ah:dh N a)(k2:dh M b)(bP:N+M+1<=32000000):aO prog 77 [v,w] H (fun u H1=>Ext H H1/\cf H1 u (a+b)):=by
 refine aO.b9 fun Q aC=>?_
 apply Yv (by simp)
 obtain⟨s1,b4,cB,cm,s2,cM,cL,cI,rfl,tc,jM⟩:=fA.shape bw
 obtain⟨lH,eM,hn,eQ,pM,p1,r9,p6,rfl,xk,iw⟩:=fA.shape bD
 simp[I3]
 have bu:Ext H (H++[.dead,.dead,.dead]):=Ext.more H (by simp)
 refine cc.join (by kernel_rfl) (fun cT dO bU=>Ext H bU/\cT 10= .bool (decide (a.den=1/\b.den=1))) ?_ ?_
 ·rintro K aV-
  simp
  refine aT.mk (F2 (fA.ext bw bu) (by have:=a.den_pos;omega)) ?_
  rintro u H1 ⟨bq,rfl⟩
  simp
  refine bs.bZ (fun ae=>?_) (fun ae=>?_)
  ·simp[ae]
   refine aT.mk (F2 (fA.ext bD (bu.aw bq)) (by have:=b.den_pos;omega)) ?_
   rintro u aS ⟨bl,rfl⟩
   simp[ae]
   have g3:a.den=1:=by omega
   refine aV _ _ _ ⟨bu.aw (bq.aw bl),?_⟩
   simp[g3]
   have:((b.den:Int)=1)↔b.den=1:=by omega
   simp[this]
  ·simp[ae]
   have g3:¬a.den=1:=by omega
   exact aV _ _ _ ⟨bu.aw bq,by simp[g3]⟩
 ·rintro cT dO bU ⟨ch,gU⟩
  simp only[hl]at gU
  simp at gU
  have a7:=ah.num (by omega)
  have kz:=k2.num (by omega)
  have KL:=ah.den (by omega)
  have KM:=k2.den (by omega)
  simp[gU]
  refine bs.mk (fun ae=>?_) (fun ae=>?_)
  ·simp at ae
   simp
   refine aT.mk (zS (tc.ext ch) (xk.ext ch) a7 kz) ?_
   rintro u b5 ⟨cP,hu⟩
   simp
   refine aT.mk (Tf hu) ?_
   rintro u dx ⟨cu,mV⟩
   simp
   refine c2.mk (fA.whole mV) ?_
   simp[bd]
   refine aC _ _ ⟨ch.aw (cP.aw cu),?_⟩
   have e:a+b=((a.num+b.num:Int):Rat):=by
    rw[Rat.intCast_add]
    congr 1
    ·exact Rat.ext rfl ae.1
    ·exact Rat.ext rfl ae.2
   show fA _ _ _ _
   rw[e,Rat.num_intCast,Rat.den_intCast]
   exact mV
  ·try simp
   refine aT.mk (yZ (tc.ext ch) (iw.ext ch) a7 KM) ?_
   rintro x b5 ⟨cP,J⟩
   refine⟨cP,?_⟩
   simp
   refine aT.mk (yZ (xk.ext (ch.aw cP)) (jM.ext (ch.aw cP)) kz KL) ?_
   rintro y dx ⟨cu,aI⟩
   refine⟨cu,?_⟩
   have hs:(a.num*b.den).natAbs<2^(N+M):=by
    rw[Int.natAbs_mul,Int.natAbs_natCast,Nat.pow_add];exact Nat.mul_lt_mul'' ah.1 k2.2
   have lf:(b.num*a.den).natAbs<2^(N+M):=by
    rw[Int.natAbs_mul,Int.natAbs_natCast,Nat.add_comm,Nat.pow_add];exact Nat.mul_lt_mul'' k2.1 ah.2
   have wU:((a.den:Int)*b.den).natAbs<2^(N+M):=by
    rw[Int.natAbs_mul,Int.natAbs_natCast,Int.natAbs_natCast,Nat.pow_add];exact Nat.mul_lt_mul'' ah.2 k2.2
   simp
   refine aT.mk (zS (J.ext cu) aI (Fits.bits hs (by omega)) (Fits.bits lf (by omega))) ?_
   rintro z c6 ⟨cR,aM⟩
   refine⟨cR,?_⟩
   simp
   have pD:=ch.aw (cP.aw (cu.aw cR))
   refine aT.mk (yZ (jM.ext pD) (iw.ext pD) KL KM) ?_
   rintro w eV ⟨cW,hw⟩
   simp
   have JS:(a.num*b.den+b.num*a.den).natAbs<2^(N+M+1):=by
    have:=Int.natAbs_add_le (a.num*b.den) (b.num*a.den)
    rw[Nat.pow_succ];omega
   refine aT.mk (aa3 (aM.ext cW) hw (Fits.bits JS (by omega)) (Fits.bits wU (by omega)) (by have:=Nat.mul_ne_zero a.den_nz b.den_nz;exact_mod_cast this)) ?_
   rintro w fz ⟨dy,BI⟩
   simp
   refine c2.mk BI.whole ?_
   simp[bd]
   refine aC _ _ ⟨pD.aw (cW.aw dy),?_⟩
   rw[Rat.add_def',<-Rat.divInt_ofNat]
   simpa using BI
theorem OX{v w:Value}{a b:Rat}{N:Nat}{H:ab}(bw:cf H v a)(bD:cf H w b)(ah:dh N a)(k2:dh N b)(bP:N<=1000000):aO prog 77 [v,w] H (fun u H1=>Ext H H1/\cf H1 u (a+b)):=Gv bw bD ah k2 (by omega)
theorem Gx{v w:Value}{a b:Rat}{N:Nat}{H:ab}(bw:cf H v a)(bD:cf H w b)(ah:dh N a)(k2:dh N b)(bP:N<=1000000):aO prog 87 [v,w] H (fun u H1=>Ext H H1/\cf H1 u (a-b)):=by
 refine aO.b9 fun Q aC=>?_
 apply YC (by simp)
 obtain⟨s1,b4,cB,cm,s2,cM,cL,cI,rfl,tc,jM⟩:=fA.shape bw
 obtain⟨lH,eM,hn,eQ,pM,p1,r9,p6,rfl,xk,iw⟩:=fA.shape bD
 simp[I7]
 have bu:Ext H (H++[.dead,.dead,.dead]):=Ext.more H (by simp)
 refine aT.mk (abc (bD.ext bu)) ?_
 rintro u H1 ⟨bq,hu⟩
 refine⟨bq,?_⟩
 simp
 refine aT.mk (OX (bw.ext (bu.aw bq)) hu ah k2.neg bP) ?_
 rintro w aS ⟨bl,hw⟩
 simp
 refine c2.mk hw.whole ?_
 simp[bd]
 refine aC _ _ ⟨bu.aw (bq.aw bl),?_⟩
 rw[Rat.sub_eq_add_neg]
 exact hw
theorem OY{v w:Value}{a b:Rat}{N M:Nat}{H:ab}(bw:cf H v a)(bD:cf H w b)(ah:dh N a)(k2:dh M b)(bP:N+M+1<=32000000):aO prog 35 [v,w] H (fun u H1=>Ext H H1/\u= .int .i64 (if a<b then-1 else if a=b then 0 else 1)):=by
 refine aO.b9 fun Q aC=>?_
 apply Yw (by simp)
 obtain⟨s1,b4,cB,cm,s2,cM,cL,cI,rfl,tc,jM⟩:=fA.shape bw
 obtain⟨lH,eM,hn,eQ,pM,p1,r9,p6,rfl,xk,iw⟩:=fA.shape bD
 simp[I4]
 have bu:Ext H (H++[.dead,.dead]):=Ext.more H (by simp)
 refine aT.mk (yZ (tc.ext bu) (iw.ext bu) (ah.num (by omega)) (k2.den (by omega))) ?_
 rintro x H1 ⟨bq,J⟩
 refine⟨bq,?_⟩
 simp
 refine aT.mk (yZ (xk.ext (bu.aw bq)) (jM.ext (bu.aw bq)) (k2.num (by omega)) (ah.den (by omega))) ?_
 rintro y aS ⟨bl,aI⟩
 have hs:(a.num*b.den).natAbs<2^(N+M):=by
  rw[Int.natAbs_mul,Int.natAbs_natCast,Nat.pow_add];exact Nat.mul_lt_mul'' ah.1 k2.2
 have lf:(b.num*a.den).natAbs<2^(N+M):=by
  rw[Int.natAbs_mul,Int.natAbs_natCast,Nat.add_comm,Nat.pow_add];exact Nat.mul_lt_mul'' k2.1 ah.2
 simp
 refine aT.mk (FY (J.ext bl) aI (Fits.bits hs (by omega)) (Fits.bits lf (by omega))) ?_
 rintro c bN ⟨bK,rfl⟩
 simp[bd]
 refine aC _ _ ⟨bu.aw (bq.aw (bl.aw bK)),?_⟩
 simp only[Rat.lt_iff,Rat.eq_iff_mul_eq_mul]
theorem Cd{v w:Value}{a b:Rat}{N:Nat}{H:ab}(bw:cf H v a)(bD:cf H w b)(ah:dh N a)(k2:dh N b)(bP:N<=1000000):aO prog 35 [v,w] H (fun u H1=>Ext H H1/\u= .int .i64 (if a<b then-1 else if a=b then 0 else 1)):=OY bw bD ah k2 (by omega)
theorem Gw{v:Value}{a:Rat}{H:ab}(bw:cf H v a):aO prog 75 [v] H (fun u H1=>Ext H H1/\u= .int .i64 (if a<0 then-1 else if a=0 then 0 else 1)):=
 (abg bw).mono fun u H1 ⟨J,hu⟩=>⟨J,by
  rw[hu]
  have o:a.num=0↔a=0:=Rat.num_eq_zero
  have aa:0<=a.num↔0<=a:=Rat.num_nonneg
  have aA:a.num<0↔a<0:=by rw[<-Int.not_le,aa,Rat.not_le]
  simp only[o,aA]⟩
theorem Cf{n:Int}{H:ab}(o: -9223372036854775808<=n)(aa:n<9223372036854775808):aO prog 59 [.int .i64 n] H (fun u H1=>Ext H H1/\cf H1 u (n:Rat)):=
 (afa o aa).mono fun u H1 ⟨J,hu⟩=>⟨J,by show fA _ _ _ _;rw[Rat.num_intCast,Rat.den_intCast];exact hu⟩
theorem abS{v:Value}{a:Int}{H:ab}(bw:du H v a)(aH:a.natAbs<=4611686018427387904):aO prog 37 [v] H (fun u H1=>Ext H H1/\u= .tuple #[.int .i64 a,.bool true]):=by
 refine aO.b9 fun Q aC=>?_
 apply Yr (by simp)
 obtain⟨s1,b4,cB,cm,rfl⟩:=bw.shape
 obtain⟨l,rfl,eJ,bf,an⟩:=bw.us
 have ar:l.length<=2:=bf.length_le (by rw[an];omega)
 simp[I1]
 have bu:Ext H (H++[.dead]):=Ext.more H (by simp)
 refine ck (by simpa using(eJ.ext bu).row) (by simp) ?_
 simp
 refine bs.bZ (fun ae=>by omega) (fun ae=>?_)
 try simp
 refine ck (by simpa using(eJ.ext bu).row) (by simp) ?_
 simp
 refine c7.range (by kernel_rfl) l.length (by omega) (by simp) (by rfl) (by simp) (by decide) (by decide) (fun i bR c4 aS=>aS=H++[.dead]/\∃n:Nat,bR 4= .int .u64 n/\n=val (l.take i)) ?_ ?_ ?_
 ·exact⟨rfl,0,by simp,by simp[val]⟩
 ·rintro i bR c4 aS af a_ ⟨rfl,n,bj,aJ⟩ K aV
  simp at a_ bj
  simp[a_]
  obtain⟨y,aI⟩:∃y,l[i]?.getD 0=y:=⟨_,rfl⟩
  have yE:l[i]?=some y:=by rw[<-aI,bz af];rfl
  have pE:y<4294967296:=aI▸eJ.lt i
  refine cv (ad:=gp) (n:=i) (by simpa using(eJ.ext bu).row) (by simp[a_]) yE (by simp) (by simp) (by simp) (.inr rfl) ?_
  rintro p u ⟨rfl,-⟩
  have r3:IntKind.u64.wrap (y:Int)=(y:Int):=gv (by omega) (by omega)
  have hk:val (l.take (i+1))=n+4294967296^i*y:=by rw[jm,aI,<-aJ]
  have jX:n<4294967296^i:=by
   rw[aJ]
   have:=ks (l:=l.take i) fun x J=>eJ.2 x (List.mem_of_mem_take J)
   rwa[List.length_take,Nat.min_eq_left (by omega)]at this
  rcases(show i=0\/i=1 by omega)with rfl | rfl
  ·have Wc:n=0:=by simp at jX;exact jX
   subst Wc
   have Bh:qN (0:Int) (y:Int)=(y:Int):=by
    have:=v9 (r:=0) (by decide) pE
    simpa using this
   have E5:IntKind.i64.wrap 0=0:=by decide
   simp[a_,bj,r3,E5,Bh]
   exact aV _ _ _ (by simp[a_]) ⟨rfl,y,by simp,by rw[hk];simp⟩
  ·have E5:IntKind.i64.wrap 32=32:=by decide
   obtain⟨s,ao⟩:∃s,y*4294967296=s:=⟨_,rfl⟩
   have kX:IntKind.u64.wrap ((y:Int)*4294967296)=(s:Int):=by rw[gv (by omega) (by omega)];omega
   have aY:=v9 (r:=y) pE (show n<4294967296 by simpa using jX)
   rw[ao]at aY
   obtain⟨t,bM⟩:∃t,s+n=t:=⟨_,rfl⟩
   have jU:qN (n:Int) (s:Int)=(t:Int):=by
    rw[<-bM,<-aY];unfold qN;congr 2;rw[BitVec.or_comm]
   simp[a_,bj,r3,E5,kX,jU]
   exact aV _ _ _ (by simp[a_]) ⟨rfl,t,by simp,by rw[hk];omega⟩
 ·rintro bR c4 aS a_ ⟨rfl,n,bj,aJ⟩
  rw[List.take_length,an]at aJ
  simp at bj
  simp[bj]
  refine bs.bZ (fun ae=>by omega) (fun ae=>?_)
  try simp
  have MD:IntKind.i64.wrap (n:Int)=(n:Int):=b8 (by omega) (by omega)
  refine bs.bZ (fun aL=>?_) (fun aL=>?_)
  ·have mS:IntKind.i64.wrap (-(n:Int))= -(n:Int):=b8 (by omega) (by omega)
   simp[bj,MD,mS,bd]
   refine aC _ _ ⟨bu,?_⟩
   congr 4
   omega
  ·simp[bj,MD,bd]
   refine aC _ _ ⟨bu,?_⟩
   congr 4
   omega
def b2(l:List Nat):ByteArray:=⟨(l.map UInt8.ofNat).toArray⟩
def Bytes(l:List Nat):Prop:=∀x∈l,x<256
theorem iu(l:List Nat):(b2 l).size=l.length:=by simp[b2,ByteArray.size]
theorem Ro(l:List Nat)(h:Bytes l)(i:Nat)(af:i<l.length):((b2 l).data.getD i 0).toNat=l[i]?.getD 0:=by
 have J:=h l[i] (List.getElem_mem af)
 simp only[b2,Array.getD_eq_getD_getElem?,List.getElem?_toArray,List.getElem?_map,bz af,Option.map_some,Option.getD_some]
 simp[UInt8.toNat_ofNat,Nat.mod_eq_of_lt J]
theorem uH(l:List Nat):(b2 l).toList=l.map UInt8.ofNat:=by
 rw[ByteArray.toList_eq]
 simp[b2]
theorem Rn(a b:List Nat):b2 a++b2 b=b2 (a++b):=by
 apply ByteArray.ext
 simp[b2]
theorem o_(l:List Nat)(i j:Nat):(b2 l).extract i j=b2 ((l.drop i).take (j-i)):=by
 apply ByteArray.ext
 simp[b2,List.map_drop,List.map_take]
theorem ofNat_inj{x y:Nat}(J:x<256)(aI:y<256)(h:UInt8.ofNat x=UInt8.ofNat y):x=y:=by
 have:=congrArg UInt8.toNat h
 simpa[UInt8.toNat_ofNat,Nat.mod_eq_of_lt J,Nat.mod_eq_of_lt aI]using this
theorem Dn{a b:List Nat}(aL:Bytes a)(ag:Bytes b):((b2 a).toList==(b2 b).toList)=decide (a=b):=by
 rw[uH,uH]
 by_cases h:a=b
 ·subst h;simp
 ·rw[decide_eq_false h,beq_eq_false_iff_ne]
  intro e
  apply h
  apply List.ext_getElem?
  intro i
  have:=congrArg (fun l:List UInt8=>l[i]?) e
  simp only[List.getElem?_map]at this
  cases o:a[i]? with
  | none=>
   cases aa:b[i]? with
   | none=>rfl
   | some y=>rw[o,aa]at this;cases this
  | some x=>
   cases aa:b[i]? with
   | none=>rw[o,aa]at this;simp at this
   | some y=>
    rw[o,aa]at this
    simp only[Option.map_some,Option.some.injEq]at this
    rw[ofNat_inj (aL x (List.mem_of_getElem? o)) (ag y (List.mem_of_getElem? aa)) this]
theorem GO(l:List Nat):strOfNums (l.map fun n:Nat=>(n:Int))=b2 l:=by
 apply ByteArray.ext
 simp[strOfNums,b2]
def nd(H:ab)(v:Value)(n:Nat):Prop:=v= .int .u8 (n:Int)/\n<256
instance:b7 nd:=⟨fun h _=>h⟩
theorem Hp(n:Int):Whole prog 5 (.int .u8 n):=⟨by kernel_rfl,rfl,by rw[if_neg (by simp[eS])];exact⟨by kernel_rfl,rfl⟩⟩
theorem Row.bytes{H:ab}{e:Nat}{v:Value}{l:List Nat}(h:Row e 1 false nd H v l):ey H e 1 v l.length ((l.map fun n:Nat=>(n:Int)).map (Value.int .u8))/\Bytes l:=by
 obtain⟨cs,o,aa⟩:=h
 have gy:cs=(l.map fun n:Nat=>(n:Int)).map (Value.int .u8):=by
  obtain⟨a,cap,an,aA,bj,bJ⟩:=o
  apply List.ext_getElem?
  intro i
  by_cases af:i<l.length
  ·have:=(aa i _ (bz af)).1
   simp only[eA,Bool.false_eq_true,if_false]at this
   rw[bz (by omega)]at this⊢
   simp only[Option.getD_some]at this
   rw[this]
   simp[bz af]
  ·rw[List.getElem?_eq_none (by omega),List.getElem?_eq_none (by simp;omega)]
 subst gy
 exact⟨o,fun x J=>by obtain⟨i,af⟩:=List.getElem?_of_mem J;exact(aa i x af).2⟩
theorem abb{k:Nat}{v:Value}{xs:List Nat}{H:ab}(cw:bH k 5 1 false nd H v xs)(ar:xs.length<4611686018427387904):
  aO prog 108 [v] H (fun u H1=>u= .tuple #[]/\bH k 5 1 false nd H1 v xs.reverse/\∀cE:ab,cE.length<=k->Ext cE H->Ext cE H1):=by
 refine aO.b9 fun Q aC=>?_
 apply Zq (by simp)
 simp[JD]
 refine ck (by simpa using cw.row) (by simp) ?_
 have aJ:IntKind.i64.wrap ((xs.length:Int)-1)=(xs.length:Int)-1:=b8 (by omega) (by omega)
 simp[aJ]
 refine c7.mk (by kernel_rfl) (fun m az bE H1=>∃(i:Nat) (bS:List Nat),m=xs.length-2*i/\az 2= .int .i64 i/\az 3= .int .i64 ((xs.length:Int)-1-i)/\i<=xs.length/\2*i<=xs.length+1/\bH k 5 1 false nd H1 v bS/\bS.length=xs.length/\(∀cE:ab,cE.length<=k->Ext cE H->Ext cE H1)/\
  ∀j,j<xs.length->bS[j]?=if j<i\/xs.length-1-i<j then xs[xs.length-1-j]? else xs[j]?) xs.length ?_ ?_
 ·refine⟨0,xs,by omega,by simp,by simp,by omega,by omega,cw,rfl,fun _ _ h=>h,fun j aY=>?_⟩
  rw[if_neg (by omega)]
 ·rintro m az bE H1 ⟨i,bS,rfl,aa,aA,af,ix,iW,pE,bq,nE⟩ K aV
  simp at aa aA
  simp[aa,aA]
  refine bs.bZ (fun ae=>?_) (fun ae=>?_)
  ·obtain⟨j,aY⟩:∃j,xs.length-1-i=j:=⟨_,rfl⟩
   have fE:(xs.length:Int)-1-i=(j:Int):=by omega
   rw[fE]at aA ae
   obtain⟨a,aL⟩:∃a,bS[j]?=some a:=⟨_,bz (by omega)⟩
   obtain⟨b,ag⟩:∃b,bS[i]?=some b:=⟨_,bz (by omega)⟩
   have bk:IntKind.i64.wrap ((i:Int)+1)=(i:Int)+1:=b8 (by omega) (by omega)
   have bp:IntKind.i64.wrap ((j:Int)-1)=(j:Int)-1:=b8 (by omega) (by omega)
   try simp
   simp[aa,aA]
   refine cv (ad:=nd) (n:=j) (by simpa using iW.row) (by simp) aL (by simp) (by simp) (by simp) (.inr rfl) ?_
   rintro c9 mn ⟨rfl,UK⟩
   simp[aa,aA]
   refine cv (ad:=nd) (n:=i) (by simpa using iW.row) (by simp) ag (by simp) (by simp) (by simp) (.inr rfl) ?_
   rintro gi kq ⟨rfl,UO⟩
   refine kp (ad:=nd) (n:=i) (a:=a) (by simpa using iW) (by simp) (by omega) ⟨by simp,UK⟩ (by simpa using Hp _) (by simp) (fun _ _ _ _ _ h=>h) (by simp) (by simp) (by simp) (by decide) ?_
   rintro eT aS gI bl- - -
   simp at gI
   refine kp (ad:=nd) (n:=j) (a:=b) (by simpa using gI) (by simp) (by simp;omega) ⟨by simp,UO⟩ (by simpa using Hp _) (by simp) (fun _ _ _ _ _ h=>h) (by simp) (by simp) (by simp) (by decide) ?_
   rintro gj bN ib bK- - -
   simp at ib
   simp[aa,aA,bk,bp]
   refine aV (xs.length-2*(i+1)) _ _ _ (by omega) ⟨i+1,_,rfl,by simp,by simp;omega,by omega,by omega,by simpa using ib,by simp[pE],fun cE aH J=>bK cE aH (bl cE aH (bq cE aH J)),fun t bM=>?_⟩
   have NM:=nE j (by omega)
   have vR:=nE i (by omega)
   rw[if_neg (by omega),aL]at NM
   rw[if_neg (by omega),ag]at vR
   by_cases BB:t=j
   ·subst BB
    rw[List.getElem?_set_self (by simp;omega),if_pos (by omega),show xs.length-1-t=i by omega,vR]
   ·rw[List.getElem?_set_ne (Ne.symm BB)]
    by_cases BA:t=i
    ·subst BA
     rw[List.getElem?_set_self (by omega),if_pos (by omega),aY,NM]
    ·rw[List.getElem?_set_ne (Ne.symm BA),nE t bM]
     by_cases av:t<i\/xs.length-1-i<t
     ·rw[if_pos av,if_pos (by omega)]
     ·rw[if_neg av,if_neg (by omega)]
  ·try simp
   simp[bd]
   refine aC _ _ ⟨rfl,?_,bq⟩
   have:bS=xs.reverse:=by
    apply List.ext_getElem?
    intro t
    by_cases bM:t<xs.length
    ·rw[nE t bM,List.getElem?_reverse bM]
     split
     ·rfl
     ·have:t=xs.length-1-t:=by omega
      rw[<-this]
    ·rw[List.getElem?_eq_none (by omega),List.getElem?_eq_none (by simp;omega)]
   rw[<-this]
   exact iW
def iF(n:Nat):List Nat:=if h:n=0 then[]else(48+n % 10)::iF (n/10)
termination_by n
decreasing_by omega
theorem sh:iF 0=[]:=by unfold iF;simp
theorem sg{n:Nat}(h:0<n):iF n=(48+n % 10)::iF (n/10):=by
 conv=>lhs;unfold iF
 rw[dif_neg (by omega)]
theorem aa4(n:Nat):Bytes (iF n):=by
 induction n using Nat.strongRecOn with
 | _ n a1=>
  rcases Nat.eq_zero_or_pos n with h | h
  ·subst h;rw[sh];intro x J;cases J
  ·rw[sg h]
   intro x J
   rcases List.mem_cons.1 J with rfl | J
   ·omega
   ·exact a1 (n/10) (by omega) x J
theorem O6(n k:Nat)(h:n<10^k):(iF n).length<=k:=by
 induction k generalizing n with
 | zero=>simp at h;subst h;rw[sh];simp
 | succ k a1=>
  rcases Nat.eq_zero_or_pos n with aH | aH
  ·subst aH;rw[sh];simp
  ·rw[sg aH]
   simp only[List.length_cons]
   have:=a1 (n/10) (by rw[Nat.pow_succ]at h;omega)
   omega
def dec(n:Nat):List Nat:=if n=0 then[48]else(iF n).reverse
theorem Aa(n:Nat):Bytes (dec n):=by
 unfold dec
 split
 ·intro x J;simp at J;omega
 ·intro x J;exact aa4 n x (by simpa using J)
@[simp] theorem ahr:hG undef=none:=rfl
@[simp] theorem agy(w:Bool)(dA cZ:Prop)(ax:bb dA cZ):o0 dA cZ ax none w=cZ:=by unfold o0 nV;simp
theorem acf{v:Value}{x:List Nat}{H:ab}(aW:db H 124 v x)(bf:Trim x)(ar:x.length<=1000000):aO prog 78 [v] H (fun u H1=>Ext H H1/\u= .string (b2 (dec (val x)))):=by
 refine aO.b9 fun Q aC=>?_
 apply YO (by simp)
 simp[Jc]
 refine ck (by simpa using aW.row) (by simp) ?_
 simp
 refine bs.bZ (fun ae=>?_) (fun ae=>?_)
 ·have bu:x=[]:=by simpa using ae
  subst bu
  simp[bd]
  exact aC _ _ ⟨Ext.refl _,by rw[show dec (val [])=[48]from by simp[dec,val]];rfl⟩
 try simp
 have g4:0<val x:=bf.pos.1 (by
  rcases Nat.eq_zero_or_pos x.length with h | h
  ·exact absurd (by simpa using h) ae
  ·exact h)
 have aiJ:(iF (val x)).length<100000000:=by
  have o:=aaT 1000000 (ks aW.2) ar
  have:=O6 _ _ o
  omega
 refine c7.mk (by kernel_rfl) (fun n az bE H1=>Ext H H1/\∃(y b:List Nat),n=val y/\db H1 124 (az 0) y/\Trim y/\y.length<=1000000/\bH H.length 5 1 false nd H1 (az 3) b/\iF (val x)=b++iF (val y)) (val x) ?_ ?_
 ·exact⟨Ext.refl _,x,[],rfl,by simpa using aW,bf,ar,by simpa using bH.nil _ _ _ _ _ _,rfl⟩
 ·rintro n az bE H1 ⟨bq,y,b,rfl,aI,rA,vH,ag,aD⟩ K aV
  simp at aI ag
  simp
  refine ck (by simpa using aI.row) (by simp) ?_
  simp
  refine bs.bZ (fun aU=>?_) (fun aU=>?_)
  ·try simp
   have tL:0<val y:=rA.pos.1 aU
   refine aT.mk (J6 (w:=1000000000) aI (by omega) (by decide) (by decide)) ?_
   rintro u aS ⟨bl,q,h4,rfl,av,qh,tJ⟩
   obtain⟨fg,gK⟩:∃fg,val y % 1000000000=fg:=⟨_,rfl⟩
   have Wz:fg<1000000000:=by rw[<-gK];exact Nat.mod_lt _ (by decide)
   rw[gK]
   simp
   have jv:val y=val h4*1000000000+fg:=by have:=Nat.div_add_mod (val y) 1000000000;rw[tJ];omega
   refine c7.mk (by kernel_rfl) (fun m c_ en bN=>db bN 124 q h4/\Ext H bN/\∃(r:Nat) (cy:List Nat),m<=9/\c_ 6= .int .i64 ((9-m:Nat):Int)/\c_ 5= .int .u32 r/\r<10^m/\bH H.length 5 1 false nd bN (c_ 3) cy/\iF (val x)=cy++iF (val h4*10^m+r)) 9 ?_ ?_
   ·refine⟨av,bq.aw bl,fg,b,by omega,by simp,by simp,by omega,by simpa using b7.ext ag bl,?_⟩
    rw[aD,jv]
   ·rintro m c_ en bN ⟨bK,yA,r,cy,hm,ds,bJ,al,df,jT⟩ cZ c3
    simp at ds bJ df
    simp only[kJ]
    refine cc.join (by kernel_rfl) (fun cT dO bU=>bU=bN/\∃c:Bool,cT 28= .bool c/\(c=true↔0<m/\(0<h4.length\/0<r))) ?_ ?_
    ·rintro nb fN-
     rcases Nat.eq_zero_or_pos m with aH | aH
     ·have sY:(((9-m:Nat):Int)<9)=False:=by simp;omega
      simp[ds,sY]
      refine fN _ _ _ ⟨rfl,false,by simp,?_⟩
      simp[aH]
     ·have sY:(((9-m:Nat):Int)<9)=True:=by simp;omega
      simp[ds,sY]
      refine ck (by simpa using bK.row) (by simp) ?_
      rcases Nat.eq_zero_or_pos h4.length with qs | qs
      ·simp[ds,sY,qs,bJ]
       refine fN _ _ _ ⟨rfl,decide (0<r),by simp,?_⟩
       simp[aH,qs]
      ·have SA:((0:Int)<(h4.length:Int))=True:=by simp;omega
       simp[ds,sY,qs,SA]
       refine fN _ _ _ ⟨rfl,true,by simp,?_⟩
       simp[aH,qs]
    ·rintro cT dO bU ⟨rfl,c,K7,ae⟩
     simp at K7
     simp[K7]
     refine bs.mk (fun gb=>?_) (fun gb=>?_)
     ·have xH:=ae.1 gb
      obtain⟨m1,rfl⟩:∃m1,m=m1+1:=⟨m-1,by omega⟩
      try simp
      have bk:IntKind.u32.wrap (48+((r % 10:Nat):Int))=((48+r % 10:Nat):Int):=by rw[mr (by omega) (by omega)];omega
      have bp:((r:Int).tmod 10)=((r % 10:Nat):Int):=rfl
      have e0:((r:Int).tdiv 10)=((r/10:Nat):Int):=rfl
      obtain⟨Ad,rG⟩:∃Ad,r % 10=Ad:=⟨_,rfl⟩
      obtain⟨dW,fO⟩:∃dW,r/10=dW:=⟨_,rfl⟩
      rw[rG]at bk bp
      rw[fO]at e0
      obtain⟨uJ,LX⟩:∃uJ,48+Ad=uJ:=⟨_,rfl⟩
      rw[LX]at bk
      have ja:r<4294967296:=by
       have:10^(m1+1)<=10^9:=Nat.pow_le_pow_right (by decide) hm
       omega
      have mD:IntKind.u8.wrap (uJ:Int)=(uJ:Int):=sB (by omega) (by omega)
      have pb:IntKind.u32.wrap (dW:Int)=(dW:Int):=mr (by omega) (by omega)
      simp[bJ,bk,bp,mD]
      refine uc (ad:=nd) (xs:=cy) (a:=uJ) (k:=H.length) (e:=5) (R:=1) (bF:=1) (ay:=false) (z:= .int .u8 0) (by simpa using df) ⟨by simp,by omega⟩ (by simpa using Hp _) (by simp) (fun _ _ _ _ _ h=>h) (by simp) (by simp) (by simp) (by simp) (by simp) (by simp) (by simp) (by rfl) (by rfl) (by decide) (by decide) (by decide) ?_ (Ext.len yA) ?_
      ·have:cy.length<=(iF (val x)).length:=by rw[jT];simp
       omega
      rintro p au b5 td cP vC
      have rl:IntKind.i64.wrap (((9-(m1+1):Nat):Int)+1)=((9-m1:Nat):Int):=by rw[b8 (by omega) (by omega)];omega
      simp at rl
      simp[bJ,e0,pb,ds,rl]
      obtain⟨P,hZ⟩:∃P,10^m1=P:=⟨_,rfl⟩
      have qf:10^(m1+1)=P*10:=by rw[Nat.pow_succ,hZ]
      rw[qf]at al jT
      have T9:0<P:=by rw[<-hZ];exact Nat.pow_pos (by decide)
      refine c3 m1 _ _ _ (by omega) ⟨⟨bK.1.kept vC (by decide),bK.2⟩,cP _ (Nat.le_refl _) yA,dW,cy++[uJ],by omega,by simp[rl],by simp,by rw[hZ];omega,by simpa using td,?_⟩
      rw[hZ]
      rw[jT]
      have bV:val h4*(P*10)+r=(val h4*P)*10+r:=by rw[Nat.mul_assoc]
      rw[bV]
      rw[sg (n:=(val h4*P)*10+r) (by
       rcases xH.2 with h | h
       ·have cN:=qh.pos.1 h
        have eB:=Nat.mul_pos cN T9
        omega
       ·omega)]
      have gU:(val h4*P*10+r) % 10=Ad:=by omega
      have jL:(val h4*P*10+r)/10=val h4*P+dW:=by omega
      rw[gU,jL,LX]
      simp
     ·try simp
      have TX:val h4*10^m+r=val h4:=by
       have aJ:¬(0<m/\(0<h4.length\/0<r)):=fun h=>by rw[ae.2 h]at gb;cases gb
       rcases Nat.eq_zero_or_pos m with aH | aH
       ·subst aH;simp at al⊢;omega
       ·have o:¬0<h4.length:=fun h=>aJ ⟨aH,Or.inl h⟩
        have aa:¬0<r:=fun h=>aJ ⟨aH,Or.inr h⟩
        have aA:val h4=0:=by
         rcases Nat.eq_zero_or_pos (val h4)with h | h
         ·exact h
         ·exact absurd (qh.pos.2 h) o
        rw[aA];omega
      rw[TX]at jT
      refine aV (val h4) _ _ _ (by omega) ⟨yA,h4,cy,rfl,by simpa using bK,qh,?_,by simpa using df,jT⟩
      rcases Nat.lt_or_ge y.length h4.length with h | h
      ·have:=Trim.vW qh aI.2 h
       omega
      ·omega
  ·try simp
   have vQ:val y=0:=by
    rcases Nat.eq_zero_or_pos (val y)with h | h
    ·exact h
    ·exact absurd (rA.pos.2 h) aU
   rw[vQ,sh,List.append_nil]at aD
   refine aT.mk (abb ag (by rw[<-aD];omega)) ?_
   rintro u aS ⟨rfl,kV,bl⟩
   have vq:=kV.row.bytes
   simp only[List.length_reverse]at vq
   simp
   refine PQ (xs:=b.reverse.map fun n:Nat=>(n:Int)) (by rfl) (by rfl) (by rfl) (by simpa using vq.1) ?_
   simp[bd,GO]
   refine aC _ _ ⟨bl _ (Nat.le_refl _) bq,?_⟩
   rw[<-List.map_reverse,GO,<-aD]
   unfold dec
   rw[if_neg (by omega)]
variable {P:Program} {r:List bG} {Q:Fr->ab->Prop} {F:Fr} {H:ab}
theorem h6{d t:Nat}{x:Operand}{l:List Nat}{ax:bb (bt d t x::r) Q}(an:aq F x= .string (b2 l))(bM:iG P t=true)(K:ba P r Q .mk (a2 F d (.int .i64 l.length)) H):ba P (bt d t x::r) Q ax F H:=by
 rw[jk,an,ZN,if_pos bM,iu]
 exact K
theorem sV{a b:List Nat}(h:a.length+b.length<=9223372036854775807):(if(b2 a).size+(b2 b).size<=9223372036854775807 then some (Value.string (b2 a++b2 b))else none)=some (.string (b2 (a++b))):=by
 rw[iu,iu,if_pos h,Rn]
theorem N5:({data:= #[45]}:ByteArray)=b2 [45]:=rfl
theorem N6:({data:= #[47]}:ByteArray)=b2 [47]:=rfl
def fH(q:Rat):List Nat:=(if q.num<0 then[45]else[])++dec q.num.natAbs++(if q.den=1 then[]else 47::dec q.den)
def ia(q:Rat):Prop:=(dec q.num.natAbs).length<=4000/\(q.den=1\/(dec q.den).length<=4000)
instance(q:Rat):Decidable (ia q):=by unfold ia;exact inferInstance
theorem PG{v:Value}{x d:List Nat}{H:ab}(aW:db H 124 v x)(bf:Trim x)(ar:x.length<=1000000)(aD:dec (val x)=d):aO prog 78 [v] H (fun u H1=>Ext H H1/\u= .string (b2 d)):=by
 subst aD
 exact acf aW bf ar
theorem Pd{v:Value}{q:Rat}{N:Nat}{H:ab}(an:cf H v q)(ao:dh N q)(bP:N<=32000000):
  aO prog 51 [v] H (fun u H1=>Ext H H1/\u=if ia q then .tuple #[.string (b2 (fH q)),.int .i64 0]else .tuple #[.string (b2 []),.int .i64 5]):=by
 refine aO.b9 fun Q aC=>?_
 apply Yz (by simp)
 have DF:=ao.num bP
 have Ag:=ao.den bP
 have Fx:=an
 obtain⟨s1,b4,cB,cm,s2,cM,cL,cI,rfl,o,aa⟩:=an.shape
 obtain⟨yM,rfl,Et,lp,nz⟩:=o.us
 obtain⟨yN,rfl,xv,ic,jb⟩:=aa.us
 obtain⟨d1,hL⟩:∃d,dec q.num.natAbs=d:=⟨_,rfl⟩
 obtain⟨d2,kW⟩:∃d,dec q.den=d:=⟨_,rfl⟩
 simp[I6]
 have bu:Ext H (H++[.dead]):=Ext.more H (by simp)
 refine aT.mk (PG (d:=d1) (Et.ext bu) lp (DF.length lp nz) (by rw[nz,hL])) ?_
 rintro u H1 ⟨bq,rfl⟩
 simp
 refine h6 (l:=d1) (by simp) (by rfl) ?_
 simp
 refine bs.bZ (fun ae=>?_) (fun ae=>?_)
 ·try simp
  simp[bd]
  refine aC _ _ ⟨bu.aw bq,?_⟩
  rw[if_neg (by unfold ia;rw[hL];omega)]
  rfl
 try simp
 refine cc.join (by kernel_rfl) (fun cT dO bU=>bU=H1/\cT 4= .string (b2 ((if q.num<0 then[45]else[])++d1))) ?_ ?_
 ·rintro K aV-
  simp
  refine bs.bZ (fun ao=>?_) (fun ao=>?_)
  ·simp[N5,sV (a:=[45]) (b:=d1) (by simp;omega)]
   refine aV _ _ _ ⟨rfl,?_⟩
   simp[ao]
  ·try simp
   refine aV _ _ _ ⟨rfl,?_⟩
   simp[ao]
 ·rintro cT dO bU ⟨rfl,bj⟩
  simp at bj
  simp
  have W3:=cf.ext Fx (bu.aw bq)
  refine aT.mk (F2 W3 (by have:=q.den_pos;omega)) ?_
  rintro u aS ⟨bl,rfl⟩
  simp
  refine bs.bZ (fun af=>?_) (fun af=>?_)
  ·have gz:q.den=1:=by omega
   try simp
   simp[bd]
   refine aC _ _ ⟨bu.aw (bq.aw bl),?_⟩
   rw[if_pos ⟨by rw[hL];omega,Or.inl gz⟩]
   simp[fH,gz,hL,bj]
  have gz:¬q.den=1:=by omega
  try simp
  refine aT.mk (PG (d:=d2) (xv.ext (bu.aw (bq.aw bl))) ic (Ag.length ic jb) (by rw[jb];simpa using kW)) ?_
  rintro u bN ⟨bK,rfl⟩
  simp
  refine h6 (l:=d2) (by simp) (by rfl) ?_
  simp
  refine bs.bZ (fun nn=>?_) (fun nn=>?_)
  ·try simp
   simp[bd]
   refine aC _ _ ⟨bu.aw (bq.aw (bl.aw bK)),?_⟩
   rw[if_neg (by unfold ia;rw[hL,kW];omega)]
   rfl
  ·obtain⟨GK,oJ⟩:∃l,((if q.num<0 then[45]else[])++d1:List Nat)=l:=⟨_,rfl⟩
   have kf:GK.length<=1+d1.length:=by rw[<-oJ];split<;>simp<;>omega
   rw[oJ]at bj
   simp[bj,N6,sV (a:=GK) (b:=[47]) (by simp;omega),sV (a:=GK++[47]) (b:=d2) (by simp;omega),bd]
   refine aC _ _ ⟨bu.aw (bq.aw (bl.aw bK)),?_⟩
   rw[if_pos ⟨by rw[hL];omega,Or.inr (by rw[kW];omega)⟩]
   simp[fH,gz,hL,kW,<-oJ]
def di(c:Nat):List Nat->List Nat×Option (List Nat)
 | []=>([],none)
 | x::r=>if x=c then([],some r)else(x::(di c r).1,(di c r).2)
theorem uM{c:Nat}{l r:List Nat}(h:(di c l).2=some r):l=(di c l).1++c::r:=by
 induction l with
 | nil=>simp[di]at h
 | cons x l a1=>
  unfold di at h⊢
  split at h
  ·next J=>simp at h;subst h;simp[J]
  ·next J=>simp[J];exact a1 h
theorem uL{c:Nat}{l:List Nat}(h:(di c l).2=none):(di c l).1=l:=by
 induction l with
 | nil=>simp[di]
 | cons x l a1=>
  unfold di at h⊢
  split at h
  ·simp at h
  ·next J=>simp[J];exact a1 h
theorem Kp{c:Nat}(l:List Nat):c∉(di c l).1:=by
 induction l with
 | nil=>simp[di]
 | cons x l a1=>
  unfold di
  split
  ·simp
  ·next J=>simp;exact⟨fun h=>J h.symm,a1⟩
theorem Rp(l:List Nat)(i:Nat)(af:i<l.length):(b2 l)[i]! =UInt8.ofNat l[i]:=by
 have o:i<(b2 l).size:=by rw[iu];exact af
 rw[getElem!_pos (b2 l) i o]
 simp[b2,ByteArray.getElem_eq_getElem_data]
theorem S_{c:Nat}{l:List Nat}(ar:Bytes l)(ae:c<256):((List.range (b2 l).size).find? fun i=>(b2 l)[i]! ==UInt8.ofNat c)=(di c l).2.map fun _=>(di c l).1.length:=by
 rw[iu]
 have key:∀i (af:i<l.length),((b2 l)[i]! ==UInt8.ofNat c)=decide (l[i]=c):=by
  intro i af
  rw[Rp l i af]
  by_cases h:l[i]=c
  ·rw[h];simp
  ·rw[decide_eq_false h,beq_eq_false_iff_ne]
   intro e
   exact h (ofNat_inj (ar _ (List.getElem_mem af)) ae e)
 cases al:(di c l).2 with
 | none=>
  rw[Option.map_none,List.find?_range_eq_none]
  intro i af
  rw[key i af]
  have o:=uL al
  have aa:=Kp (c:=c) l
  rw[o]at aa
  have:l[i]≠c:=fun e=>aa (e▸List.getElem_mem af)
  simp[this]
 | some r=>
  rw[Option.map_some,List.find?_range_eq_some]
  have o:=uM al
  have aa:=Kp (c:=c) l
  generalize (di c l).1=a at o aa
  subst o
  refine⟨?_,by simp,?_⟩
  ·rw[key _ (by simp)];simp
  ·intro j aY
   rw[key _ (by simp;omega)]
   rw[List.getElem_append_left aY]
   have:a[j]≠c:=fun e=>aa (e▸List.getElem_mem aY)
   simp[this]
def nF(c:Nat)(l:List Nat):Int:=match(di c l).2 with | some _=>((di c l).1.length:Int) | none=> -1
theorem XD{l:List Nat}{c:Nat}{H:ab}(ar:Bytes l)(ae:c<256):
  aO prog 133 [.string (b2 l),.int .u8 c] H (fun u H1=>H1=H/\u= .int .i64 (nF c l)):=by
 refine⟨.int .i64 (nF c l),H,.inr ⟨⟨by simp[hg,flat],by simp[flat,hg],?_⟩,rfl⟩,rfl,rfl⟩
 have aH:(prog.funcs[133]?).isSome=true:=by kernel_rfl
 have aa:((prog.funcs[133]?).map fun fn=>fn.name== "runtime.NumGoroutine")=some false:=by kernel_rfl
 have aA:((prog.funcs[133]?).map fun fn=>fn.body.isNone)=some true:=by kernel_rfl
 have bj:((prog.funcs[133]?).map fun fn=>Extern.findNext fn)=some none:=by kernel_rfl
 have bJ:((prog.funcs[133]?).map fun fn=>Extern.find fn)=some (some Extern.BytealgIndexByte.indexByte):=by kernel_rfl
 obtain⟨fn,aB⟩:=Option.isSome_iff_exists.1 aH
 rw[aB]at aa aA bj bJ
 simp only[Option.map_some,Option.some.injEq]at aa aA bj bJ
 have bk:dH prog program=some prog:=rfl
 have bp:∀m,dH prog (mark m)=some ():=fun m=>rfl
 have e0:dH prog (Extern.BytealgIndexByte.indexByte #[.string (b2 l),.int .u8 c])=some (.int .i64 (nF c l)):=by
  have mD:(c:Int).toNat.toUInt8=UInt8.ofNat c:=by simp
  show dH prog ((pure (b2 l):Sem ByteArray)>>=fun b=>(pure (c:Int).toNat.toUInt8:Sem UInt8)>>=fun c=>match(List.range b.size).find? fun i=>b[i]! ==c with | some i=>pure (goInt i) | none=>pure (goInt (-1)))=_
  simp only[fP,ff,Option.bind_some,mD,S_ ar ae]
  unfold nF
  cases(di c l).2<;>simp[ff]<;>rfl
 have uV:¬fn.name= "runtime.NumGoroutine" :=by simpa using aa
 have rq:fn.body=none:=by simpa using aA
 simp[callFunc,fP,pK,bk,aB,uV,rq,bj,bJ,bp,e0,ff]
section
variable {P:Program} {r:List bG} {Q:Fr->ab->Prop} {F:Fr} {H:ab}
theorem nP{d t n:Nat}{x i:Operand}{l:List Nat}{mZ:IntKind}{ax:bb (ew d t x i::r) Q}(an:aq F x= .string (b2 l))(bD:Bytes l)(af:aq F i= .int mZ n)(aJ:n<l.length)(bM:iG P t=true)(K:ba P r Q .mk (a2 F d (.int .u8 (l[n]?.getD 0:Nat))) H):ba P (ew d t x i::r) Q ax F H:=by
 have e:(((b2 l).data.getD ((n:Int).toNat) 0).toNat:Int)=((l[n]?.getD 0:Nat):Int):=by rw[Int.toNat_natCast,Ro l bD n aJ]
 have ae:iG P t=true/\(0:Int)<=(n:Int)/\(n:Int)<((b2 l).size:Int):=⟨bM,by omega,by rw[iu];omega⟩
 rw[k3,an,af,HQ,pY]
 refine dI.mk ae ?_
 rw[e]
 exact K
end
theorem XA(c:Nat):nF c [c]=0:=by simp[nF,di]
theorem XE{l:List Nat}{c:Nat}{H:ab}(ar:Bytes l)(ae:c<256):
  aO prog 128 [.string (b2 l),.int .u8 c] H (fun u H1=>H1=H/\u= .int .i64 (nF c l)):=by
 refine aO.b9 fun Q aC=>?_
 apply Zx (by simp)
 simp[JK]
 refine aT.mk (XD ar ae) ?_
 rintro u H ⟨rfl,rfl⟩
 simp[bd]
 exact aC _ _ ⟨rfl,rfl⟩
theorem XI{l:List Nat}{c:Nat}{H:ab}(ar:Bytes l)(ae:c<256):
  aO prog 120 [.string (b2 l),.string (b2 [c])] H (fun u H1=>H1=H/\u= .int .i64 (nF c l)):=by
 refine aO.b9 fun Q aC=>?_
 apply Zw (by simp)
 simp[JJ]
 refine h6 (l:=[c]) (by simp) (by rfl) ?_
 simp
 refine cc.join (by kernel_rfl) (fun cT dO bU=>bU=H/\cT 16= .bool (decide ([c]=l))) ?_ ?_
 ·rintro K aV-
  simp
  refine aV _ _ _ ⟨rfl,?_⟩
  simp[Dn (a:=[c]) (b:=l) (by intro x J;simp at J;omega) ar]
 ·rintro cT dO H ⟨rfl,K5⟩
  simp at K5
  simp[K5]
  refine bs.bZ (fun he=>?_) (fun he=>?_)
  ·subst he
   try simp
   simp[bd]
   exact aC _ _ ⟨rfl,by rw[XA]⟩
  ·try simp
   refine nP (n:=0) (mZ:= .i64) (l:=[c]) (by simp) (by intro x J;simp at J;omega) (by simp) (by simp) (by rfl) ?_
   simp
   refine aT.mk (XE ar ae) ?_
   rintro u H ⟨rfl,rfl⟩
   simp[bd]
   exact aC _ _ ⟨rfl,rfl⟩
theorem abR{l:List Nat}{c:Nat}{H:ab}(ar:Bytes l)(ae:c<256)(hlen:l.length<4611686018427387904):
  aO prog 114 [.string (b2 l),.string (b2 [c])] H (fun u H1=>H1=H/\u= .tuple #[.string (b2 (di c l).1),.string (b2 ((di c l).2.getD [])),.bool (di c l).2.isSome]):=by
 refine aO.b9 fun Q aC=>?_
 apply Zt (by simp)
 simp[JG]
 refine aT.mk (XI ar ae) ?_
 rintro u H ⟨rfl,rfl⟩
 cases al:(di c l).2 with
 | none=>
  have e:nF c l= -1:=by simp[nF,al]
  simp[e,bd]
  refine aC _ _ ⟨rfl,?_⟩
  rw[uL al,al]
  rfl
 | some q=>
  have o:=uM al
  have e:nF c l=((di c l).1.length:Int):=by simp[nF,al]
  obtain⟨a,aL⟩:∃a,(di c l).1=a:=⟨_,rfl⟩
  rw[aL]at o e
  simp[e]
  refine ue (l:=0) (h:=a.length) (s:=b2 l) (by simp) (by rfl) (by simp[dN]) (by simp[eY]) (by omega) (by rw[iu,o];simp) ?_
  simp
  refine h6 (l:=[c]) (by simp) (by rfl) ?_
  have ai3:l.length=a.length+1+q.length:=by rw[o];simp;omega
  have SV:IntKind.i64.wrap ((a.length:Int)+1)=((a.length+1:Nat):Int):=by rw[b8 (by omega) (by omega)];omega
  simp[SV]
  refine ue (l:=a.length+1) (h:=l.length) (s:=b2 l) (by simp) (by rfl) (by simp[dN];omega) (by simp[eY,iu]) (by omega) (by rw[iu];omega) ?_
  simp[bd]
  refine aC _ _ ⟨rfl,?_⟩
  rw[o_,o_,al,aL]
  have bk:((List.drop 0 l).take (a.length-0))=a:=by rw[o];simp
  have bp:((List.drop (a.length+1) l).take (l.length-(a.length+1)))=q:=by
   rw[List.take_of_length_le (by simp)]
   rw[o,show a++c::q=(a++[c])++q from by simp,List.drop_left' (by simp)]
  rw[bk,bp]
  rfl
theorem RU{l:List Nat}{c:Nat}{H:ab}(ar:Bytes l)(ae:c<256)(hlen:l.length<4611686018427387904):
  aO prog 98 [.string (b2 l),.string (b2 [c])] H (fun u H1=>H1=H/\u= .tuple #[.string (b2 (di c l).1),.string (b2 ((di c l).2.getD [])),.bool (di c l).2.isSome]):=by
 refine aO.b9 fun Q aC=>?_
 apply Zr (by simp)
 simp[JE]
 refine aT.mk (abR ar ae hlen) ?_
 rintro u H ⟨rfl,rfl⟩
 simp[bd]
 exact aC _ _ ⟨rfl,rfl⟩
theorem UM{l:List Nat}{c:Nat}{H:ab}(ar:Bytes l)(ae:c<256):
  aO prog 121 [.string (b2 l),.string (b2 [c])] H (fun u H1=>H1=H/\u= .bool (decide (l.head?=some c))):=by
 refine aO.b9 fun Q aC=>?_
 apply Zv (by simp)
 simp[JI]
 refine cc.join (by kernel_rfl) (fun cT dO bU=>bU=H/\cT 4= .bool (decide (l.head?=some c))) ?_ ?_
 ·rintro K aV-
  simp
  refine h6 (l:=l) (by simp) (by rfl) ?_
  simp
  refine h6 (l:=[c]) (by simp) (by rfl) ?_
  cases l with
  | nil=>
   simp
   refine aV _ _ _ ⟨rfl,by simp⟩
  | cons x r=>
   have e:((1:Int)<=((r.length:Int)+1))=True:=by simp;omega
   simp[e]
   refine h6 (l:=[c]) (by simp) (by rfl) ?_
   simp
   refine ue (l:=0) (h:=1) (s:=b2 (x::r)) (by simp) (by rfl) (by simp[dN]) (by simp[eY]) (by omega) (by rw[iu];simp) ?_
   rw[o_]
   simp
   refine aV _ _ _ ⟨rfl,?_⟩
   have J:x<256:=ar x (by simp)
   simp[Dn (a:=[x]) (b:=[c]) (by intro y aI;simp at aI;omega) (by intro y aI;simp at aI;omega)]
 ·rintro cT dO H ⟨rfl,bj⟩
  simp at bj
  simp[bj,bd]
  exact aC _ _ ⟨rfl,rfl⟩
def jj(c:Nat)(l:List Nat):List Nat:=if l.head?=some c then l.tail else l
theorem abQ{l:List Nat}{c:Nat}{H:ab}(ar:Bytes l)(ae:c<256):
  aO prog 115 [.string (b2 l),.string (b2 [c])] H (fun u H1=>H1=H/\u= .tuple #[.string (b2 (jj c l)),.bool (decide (l.head?=some c))]):=by
 refine aO.b9 fun Q aC=>?_
 apply Zu (by simp)
 simp[JH]
 refine aT.mk (UM ar ae) ?_
 rintro u H ⟨rfl,rfl⟩
 by_cases h:l.head?=some c
 ·simp[h]
  refine h6 (l:=[c]) (by simp) (by rfl) ?_
  simp
  refine ue (l:=1) (h:=l.length) (s:=b2 l) (by simp) (by rfl) (by simp[dN]) (by simp[eY,iu]) ?_ (by rw[iu];omega) ?_
  ·cases l with
   | nil=>simp at h
   | cons x r=>simp
  rw[o_]
  simp[bd]
  refine aC _ _ ⟨rfl,?_⟩
  unfold jj
  rw[if_pos h,List.take_of_length_le (by simp)]
  simp[h]
 ·simp[h,bd]
  refine aC _ _ ⟨rfl,?_⟩
  unfold jj
  rw[if_neg h]
  simp[h]
theorem RQ{l:List Nat}{c:Nat}{H:ab}(ar:Bytes l)(ae:c<256):
  aO prog 99 [.string (b2 l),.string (b2 [c])] H (fun u H1=>H1=H/\u= .tuple #[.string (b2 (jj c l)),.bool (decide (l.head?=some c))]):=by
 refine aO.b9 fun Q aC=>?_
 apply Zs (by simp)
 simp[JF]
 refine aT.mk (abQ ar ae) ?_
 rintro u H ⟨rfl,rfl⟩
 simp[bd]
 exact aC _ _ ⟨rfl,rfl⟩
def fr(c:Nat):Prop:=48<=c/\c<=57
instance(c:Nat):Decidable (fr c):=by unfold fr;exact inferInstance
def hU(l:List Nat):Prop:=(∀c∈l,fr c)/\l≠[]/\¬(l.head?=some 48/\1<l.length)/\l.length<=4000
instance(l:List Nat):Decidable (hU l):=by unfold hU;exact inferInstance
def c8(l:List Nat):Nat:=l.foldl (fun a c=>10*a+(c-48)) 0
theorem Ky(l:List Nat)(a:Nat):l.foldl (fun a c=>10*a+(c-48)) a=a*10^l.length+c8 l:=by
 induction l generalizing a with
 | nil=>simp[c8]
 | cons c l a1=>
  unfold c8
  simp only[List.foldl_cons,List.length_cons]
  rw[a1,a1 (10*0+(c-48)),Nat.pow_succ]
  rw[show(10*a+(c-48))*10^l.length=a*(10^l.length*10)+(c-48)*10^l.length from by rw[Nat.add_mul];congr 1;rw[Nat.mul_comm 10 a,Nat.mul_assoc,Nat.mul_comm 10]]
  simp;omega
theorem w4(a b:List Nat):c8 (a++b)=c8 a*10^b.length+c8 b:=by
 unfold c8
 rw[List.foldl_append]
 exact Ky b _
theorem Dy(c:Nat)(r:List Nat):c8 (c::r)=(c-48)*10^r.length+c8 r:=by
 conv=>lhs;unfold c8
 rw[List.foldl_cons,Ky]
 simp
theorem Sz(c:Nat):c8 [c]=c-48:=by simp[c8]
theorem qa{l:List Nat}(h:∀c∈l,fr c):c8 l<10^l.length:=by
 induction l with
 | nil=>simp[c8]
 | cons c r a1=>
  have o:=a1 fun x J=>h x (by simp[J])
  have aa:=h c (by simp)
  unfold fr at aa
  rw[Dy,List.length_cons,Nat.pow_succ]
  have aA:(c-48)*10^r.length<=9*10^r.length:=Nat.mul_le_mul_right _ (by omega)
  omega
theorem KD{l:List Nat}{i:Nat}(af:i<l.length):c8 (l.take (i+1))=c8 (l.take i)*10+(l[i]?.getD 0-48):=by
 rw[List.take_succ_eq_append_getElem af,w4,Sz,bz af]
 simp
theorem aam{l:List Nat}{H:ab}(ar:Bytes l)(hlen:l.length<4611686018427387904):
  aO prog 100 [.string (b2 l)] H (fun u H1=>Ext H H1/\if hU l then∃v x,u= .tuple #[v,.bool true]/\db H1 124 v x/\Trim x/\val x=c8 l else u= .tuple #[.slice none 0 0,.bool false]):=by
 refine aO.b9 fun Q aC=>?_
 apply YN (by simp)
 simp[Jb]
 refine h6 (l:=l) (by simp) (by rfl) ?_
 simp
 refine c7.range (by kernel_rfl) l.length (by omega) (by simp) (by rfl) (by simp) (by decide) (by decide) (fun i bR c4 aS=>aS=H/\∀c∈l.take i,fr c) ?_ ?_ ?_
 ·exact⟨rfl,by simp⟩
 ·rintro i az bE H1 af a_ ⟨rfl,aD⟩ K aV
  simp at a_
  simp[a_]
  refine cc.join (by kernel_rfl) (fun cT dO bU=>bU=H1/\cT 24= .bool (decide (¬fr (l[i]?.getD 0)))) ?_ ?_
  ·rintro cZ c3-
   obtain⟨c,ae⟩:∃c,l[i]?.getD 0=c:=⟨_,rfl⟩
   simp
   refine nP (n:=i) (mZ:= .i64) (l:=l) (by simp) ar (by simp) af (by rfl) ?_
   rw[ae]
   rcases Nat.lt_or_ge c 48 with o | o
   ·have bk:((c:Int)<48)=True:=by simp;omega
    simp[bk]
    refine c3 _ _ _ ⟨rfl,?_⟩
    simp[fr];omega
   ·have bk:((c:Int)<48)=False:=by simp;omega
    simp[bk]
    refine nP (n:=i) (mZ:= .i64) (l:=l) (by simp) ar (by simp) af (by rfl) ?_
    rw[ae]
    rcases Nat.lt_or_ge 57 c with aa | aa
    ·have bp:((57:Int)<c)=True:=by simp;omega
     simp[bp]
     refine c3 _ _ _ ⟨rfl,?_⟩
     simp[fr];omega
    ·have bp:((57:Int)<c)=False:=by simp;omega
     simp[bp]
     refine c3 _ _ _ ⟨rfl,?_⟩
     simp[fr];omega
  ·rintro cT dO bU ⟨rfl,K6⟩
   simp at K6
   simp[K6]
   refine bs.bZ (fun aX=>?_) (fun aX=>?_)
   ·refine aV _ _ _ (by simp[a_]) ⟨rfl,?_⟩
    intro c ae
    rw[List.take_succ_eq_append_getElem af]at ae
    rcases List.mem_append.1 ae with ae | ae
    ·exact aD c ae
    ·simp at ae
     subst ae
     rw[bz af]at aX
     exact aX
   ·simp[bd]
    refine aC _ _ ⟨Ext.refl _,?_⟩
    rw[if_neg ?_]
    rintro⟨o,-⟩
    apply aX
    rw[bz af]
    exact o _ (List.getElem_mem af)
 ·rintro az bE H1 a_ ⟨rfl,aD⟩
  rw[List.take_length]at aD
  simp
  refine cc.join (by kernel_rfl) (fun cT dO bU=>bU=H1/\∃b:Bool,cT 42= .bool b/\(b=false↔(l≠[]/\¬(l.head?=some 48/\1<l.length)/\l.length<=4000))) ?_ ?_
  ·rintro cZ c3-
   cases l with
   | nil=>
    have hH:(b2 []).toList.isEmpty=true:=by simp[uH]
    simp[hH]
    refine c3 _ _ _ ⟨rfl,true,by simp,by simp⟩
   | cons c r=>
    have hH:(b2 (c::r)).toList.isEmpty=false:=by simp[uH]
    simp[hH]
    refine nP (n:=0) (mZ:= .i64) (l:=c::r) (by simp) ar (by simp) (by simp) (by rfl) ?_
    by_cases Ao:c=48
    ·subst Ao
     simp
     refine h6 (l:=48::r) (by simp) (by rfl) ?_
     rcases Nat.eq_zero_or_pos r.length with al | al
     ·simp[al]
      refine h6 (l:=48::r) (by simp) (by rfl) ?_
      simp[al]
      refine c3 _ _ _ ⟨rfl,false,by simp,by simp[al]⟩
     ·have bk:((1:Int)<((r.length:Int)+1))=True:=by simp;omega
      simp[bk]
      refine c3 _ _ _ ⟨rfl,true,by simp,Iff.intro (fun h=>by cases h) (fun h=>absurd ⟨by simp,by simp;omega⟩ h.2.1)⟩
    ·have bk:((c:Int)=48)=False:=by simp;omega
     simp[bk]
     refine h6 (l:=c::r) (by simp) (by rfl) ?_
     simp
     refine c3 _ _ _ ⟨rfl,decide (4000<r.length+1),by simp;omega,?_⟩
     simp[Ao]
  ·rintro cT dO bU ⟨rfl,b,La,ag⟩
   simp at La
   simp[La]
   refine bs.mk (fun ae=>?_) (fun ae=>?_)
   ·simp[bd]
    refine aC _ _ ⟨Ext.refl _,?_⟩
    rw[if_neg ?_]
    rintro⟨o,aa⟩
    have:=ag.2 aa
    rw[this]at ae
    cases ae
   ·have gC:hU l:=⟨aD,ag.1 ae⟩
    simp only[gC,if_true]at aC
    simp
    have A1:l.length<=4000:=gC.2.2.2
    refine c7.mk (by kernel_rfl) (fun n az bE H1=>Ext bU H1/\∃(p s x:List Nat) (v:Value),n=s.length/\l=p++s/\az 0= .string (b2 s)/\az 5=v/\db H1 124 v x/\Trim x/\val x=c8 p) l.length ?_ ?_
    ·exact⟨Ext.refl _,[],l,[],_,rfl,rfl,by simp,rfl,⟨ey.nil _ _ _,by simp⟩,Trim.nil,by simp[c8,val]⟩
    ·rintro n eI fR b5 ⟨cP,p,s,x,v,rfl,kc,aH,bJ,eJ,bf,an⟩ cZ c3
     simp at aH bJ
     have tA:Bytes s:=fun c ae=>ar c (by rw[kc];simp[ae])
     have MN:∀c∈p,fr c:=fun c ae=>aD c (by rw[kc];simp[ae])
     have Fh:∀c∈s,fr c:=fun c ae=>aD c (by rw[kc];simp[ae])
     have iN:p.length+s.length<=4000:=by rw[kc]at A1;simpa using A1
     cases ao:s with
     | nil=>
      have hH:(b2 []).toList.isEmpty=true:=by simp[uH]
      subst ao
      simp[aH,hH]
      rw[List.append_nil]at kc
      exact aC _ _ ⟨cP,v,x,by simp[bd,bJ],eJ,bf,by rw[an,kc]⟩
     | cons c r=>
      have hH:(b2 s).toList.isEmpty=false:=by simp[uH,ao]
      have tC:0<s.length:=by rw[ao];simp
      obtain⟨lA,kd⟩:∃lA,s.length-1=lA:=⟨_,rfl⟩
      obtain⟨kl,nu⟩:∃kl,lA % 9=kl:=⟨_,rfl⟩
      obtain⟨n,aJ⟩:∃n,kl+1=n:=⟨_,rfl⟩
      have ajb:n<=9/\n<=s.length/\0<n:=by omega
      have SD:IntKind.i64.wrap ((s.length:Int)-1)=(lA:Int):=by rw[b8 (by omega) (by omega)];omega
      have SE:((lA:Int)).tmod 9=(kl:Int):=by rw[<-nu];rfl
      have SF:IntKind.i64.wrap ((kl:Int)+1)=(n:Int):=by rw[b8 (by omega) (by omega)];omega
      have DA:IntKind.i64.wrap (kl:Int)=(kl:Int):=by rw[b8 (by omega) (by omega)]
      simp[aH,hH]
      refine h6 (l:=s) (by simp) (by rfl) ?_
      simp[SD,SE,SF,DA]
      refine c7.range (by kernel_rfl) n (by omega) (by simp) (by rfl) (by simp) (by decide) (by decide) (fun i jI lO dx=>dx=b5/\∃a e:Nat,jI 7= .int .u32 a/\jI 8= .int .u32 e/\a=c8 (s.take i)/\e=10^i) ?_ ?_ ?_
      ·refine⟨rfl,0,1,by simp,by simp,by simp[c8],by simp⟩
      ·rintro i jI lO dx af At ⟨rfl,a,e,bV,cN,aL,he⟩ nb fN
       simp at At bV cN
       have AX:i<s.length:=by omega
       obtain⟨uI,xH⟩:∃uI,s[i]?.getD 0=uI:=⟨_,rfl⟩
       have U1:fr uI:=Fh uI (by rw[<-xH,bz AX];exact List.getElem_mem AX)
       unfold fr at U1
       have oo:a<10^i:=by
        have:=qa (l:=s.take i) fun c ae=>Fh c (List.mem_of_mem_take ae)
        rw[<-aL,List.length_take,Nat.min_eq_left (by omega)]at this
        exact this
       have Vz:10^i<=10^8:=Nat.pow_le_pow_right (by decide) (by omega)
       rw[<-he]at oo Vz
       obtain⟨m,hm⟩:∃m,10*a=m:=⟨_,rfl⟩
       obtain⟨d,jT⟩:∃d,uI-48=d:=⟨_,rfl⟩
       obtain⟨md,Mu⟩:∃md,m+d=md:=⟨_,rfl⟩
       obtain⟨c5,oy⟩:∃c5,10*e=c5:=⟨_,rfl⟩
       have f1:IntKind.u32.wrap (10*(a:Int))=(m:Int):=by rw[mr (by omega) (by omega)];omega
       have f2:IntKind.u8.wrap ((uI:Int)-48)=(d:Int):=by rw[sB (by omega) (by omega)];omega
       have f3:IntKind.u32.wrap (d:Int)=(d:Int):=mr (by omega) (by omega)
       have f4:IntKind.u32.wrap ((m:Int)+d)=(md:Int):=by rw[mr (by omega) (by omega)];omega
       have f5:IntKind.u32.wrap (10*(e:Int))=(c5:Int):=by rw[mr (by omega) (by omega)];omega
       simp[At,bV,cN,aH,f1,f5]
       refine nP (n:=i) (mZ:= .i64) (l:=s) (by simp[aH]) tA (by simp) AX (by rfl) ?_
       rw[xH]
       simp[f2,f3,f4,f5,cN]
       refine fN _ _ _ (by simp[At]) ⟨rfl,md,c5,by simp,by simp,?_,?_⟩
       ·rw[KD AX,xH,<-aL];omega
       ·rw[Nat.pow_succ,<-he];omega
      ·rintro jI lO dx At ⟨rfl,a,e,bV,cN,aL,he⟩
       simp at bV cN
       simp[bV,cN,bJ]
       have EN:e<=10^9:=by rw[he];exact Nat.pow_le_pow_right (by decide) (by omega)
       have oo:a<10^n:=by
        have:=qa (l:=s.take n) fun c ae=>Fh c (List.mem_of_mem_take ae)
        rw[<-aL,List.length_take,Nat.min_eq_left (by omega)]at this
        exact this
       rw[<-he]at oo
       have cu:Ext dx (dx++[.own 124 false [.int .u32 (e:Int)]]):=Ext.more dx (by simp)
       have Uv:db (dx++[.own 124 false [.int .u32 (e:Int)]]) 124 (.slice (some ⟨dx.length,0,none⟩) 1 1) [e]:=by
        simpa using db.fresh dx 124 [e] 1 1 (by omega) rfl (by intro y aI;simp at aI;omega) false
       refine sq (e:=124) (R:=1) (z:= .int .u32 0) (out:=[.int .u32 e]) (by simp) (by simp) (by simp) (by rfl) (by rfl) (by omega) (by omega) (by omega) ?_ (by simp) ?_
       ·simp[jr,qL]
       have jB:x.length<=4000:=by
        refine bf.length_le ?_
        rw[an]
        refine Nat.lt_of_lt_of_le (qa MN) (Nat.le_trans (sf 10 p.length 4000 (by decide) (show p.length<=4000 by omega)) (Gt 10 4294967296 4000 (by decide)))
       simp[bJ]
       refine aT.mk (PH (eJ.ext cu) Uv (by omega) (by simp)) ?_
       rintro w c6 ⟨cR,afE,Uy,AG,jd⟩
       simp[bV]
       have cW:Ext c6 (c6++[.own 124 false [.int .u32 (a:Int)]]):=Ext.more c6 (by simp)
       have xw:db (c6++[.own 124 false [.int .u32 (a:Int)]]) 124 (.slice (some ⟨c6.length,0,none⟩) 1 1) [a]:=by
        simpa using db.fresh c6 124 [a] 1 1 (by omega) rfl (by intro y aI;simp at aI;omega) false
       refine sq (e:=124) (R:=1) (z:= .int .u32 0) (out:=[.int .u32 a]) (by simp) (by simp) (by simp) (by rfl) (by rfl) (by omega) (by omega) (by omega) ?_ (by simp) ?_
       ·simp[jr,qL]
       simp
       refine aT.mk (mm xw (by simp)) ?_
       rintro hq eV ⟨rfl,fk,UA,aiv,W8,V2⟩
       simp
       have ajv:afE.length<=5000:=by
        refine AG.length_le ?_
        rw[jd,an]
        have jL:val [e]=e:=by simp[val]
        rw[jL]
        exact aaR 5000 (qa MN) EN (by omega)
       refine aT.mk (OO (Uy.ext cW) UA (by omega) (by simp at V2;omega)) ?_
       rintro cn fz ⟨dy,eD,Uz,Ut,W7⟩
       simp[aH]
       refine ue (l:=n) (h:=s.length) (s:=b2 s) (by simp[aH]) (by rfl) (by simp[dN]) (by simp[eY,iu]) (by omega) (by rw[iu];omega) ?_
       rw[o_]
       simp
       have hL:(s.drop n).take (s.length-n)=s.drop n:=List.take_of_length_le (by simp)
       refine c3 (s.drop n).length _ _ _ (by simp;omega) ⟨cP.aw (cu.aw (cR.aw (cW.aw dy))),p++s.take n,s.drop n,eD,cn,rfl,by simp[kc],by simp[hL],by simp,Uz,Ut,?_⟩
       rw[W7,jd,an,W8,w4,List.length_take,Nat.min_eq_left (by omega),<-he,<-aL]
       simp[val]
@[simp] theorem ahS(d t n:Nat)(a5:List (Nat×Operand)):(eP d t n a5).d=some d:=rfl
def qO(l:List Nat):List Nat:=(di 47 l).1
def kr(l:List Nat):Option (List Nat):=(di 47 l).2
def gT(l:List Nat):List Nat:=jj 45 (qO l)
def lB(l:List Nat):Bool:=decide ((qO l).head?=some 45)
def CW(l:List Nat):Prop:=∀u,kr l=some u->hU u/\1<c8 u
def et(l:List Nat):Nat:=match kr l with | some u=>c8 u | none=>1
def fT(l:List Nat):Int:=if lB l=true then-(c8 (gT l):Int)else c8 (gT l)
def hC(l:List Nat):Prop:=hU (gT l)/\CW l/\¬(lB l=true/\c8 (gT l)=0)/\(kr l=none\/Int.gcd (fT l) (et l)=1)
theorem Bytes.tail{c:Nat}{l:List Nat}(h:Bytes l):Bytes (jj c l):=by
 unfold jj
 split
 ·exact fun x J=>h x (List.mem_of_mem_tail J)
 ·exact h
theorem Ko{c:Nat}{l:List Nat}:(∀x∈(di c l).1,x∈l)/\∀u,(di c l).2=some u->∀x∈u,x∈l:=by
 cases al:(di c l).2 with
 | none=>exact⟨fun x J=>by rw[uL al]at J;exact J,fun u hu=>by cases hu⟩
 | some r=>
  have o:=uM al
  refine⟨fun x J=>by rw[o];simp[J],fun u hu x J=>?_⟩
  cases hu
  rw[o];simp[J]
theorem z_{c:Nat}{l:List Nat}:(di c l).1.length<=l.length/\∀u,(di c l).2=some u->u.length<=l.length:=by
 cases al:(di c l).2 with
 | none=>exact⟨by rw[uL al];omega,fun u hu=>by cases hu⟩
 | some r=>
  have o:=congrArg List.length (uM al)
  simp at o
  exact⟨by omega,fun u hu=>by cases hu;omega⟩
theorem Ow{l:List Nat}{H:ab}(ar:Bytes l)(hlen:l.length<4611686018427387904):
  aO prog 100 [.string (b2 l)] H (fun u H1=>Ext H H1/\∃v b x,u= .tuple #[v,.bool b]/\db H1 124 v x/\Trim x/\x.length<=4000/\(b=true↔hU l)/\(b=true->val x=c8 l)):=
 (aam ar hlen).mono fun u H1 ⟨J,hu⟩=>by
  by_cases aD:hU l
  ·rw[if_pos aD]at hu
   obtain⟨v,x,rfl,eJ,bf,an⟩:=hu
   refine⟨J,v,true,x,rfl,eJ,bf,?_,by simp[aD],fun _=>an⟩
   refine bf.length_le ?_
   rw[an]
   exact Nat.lt_of_lt_of_le (qa aD.1) (Nat.le_trans (sf 10 _ 4000 (by decide) aD.2.2.2) (Gt 10 4294967296 4000 (by decide)))
  ·rw[if_neg aD]at hu
   subst hu
   exact⟨J,_,false,[],rfl,⟨ey.nil _ _ _,by simp⟩,Trim.nil,by simp,by simp[aD],by simp⟩
theorem aaA{l:List Nat}{H:ab}(ar:Bytes l)(hlen:l.length<4611686018427387904):
  aO prog 74 [.string (b2 l)] H (fun u H1=>Ext H H1/\∃v,(hC l/\u= .tuple #[v,.bool true]/\cf H1 v (Rat.divInt (fT l) (et l))\/¬hC l/\u= .tuple #[v,.bool false])/\∃s1 b4 cB cm s2 cM cL cI,v= .agg #[.bool s1,.slice b4 cB cm,.bool s2,.slice cM cL cI]):=by
 refine aO.b9 fun Q aC=>?_
 apply Yu (by simp)
 have LD:Bytes (qO l):=fun x J=>ar x (Ko.1 x J)
 have ais:(qO l).length<=l.length:=z_.1
 simp[I2,N6,N5]
 refine aT.mk (RU ar (by decide) hlen) ?_
 rintro u H1 ⟨rfl,rfl⟩
 simp
 refine aT.mk (RQ LD (by decide)) ?_
 rintro u H1 ⟨rfl,rfl⟩
 simp
 refine aT.mk (Ow (l:=gT l) (LD.tail) ?_) ?_
 ·unfold gT jj;split
  ·rw[List.length_tail];omega
  ·omega
 rintro u H1 ⟨bq,alJ,JZ,zz,rfl,Ev,LJ,ai4,xG,Nm⟩
 simp
 have Et:db (H1++[.own 124 false [.int .u32 1]]) 124 (.slice (some ⟨H1.length,0,none⟩) 1 1) [1]:=by
  simpa using db.fresh H1 124 [1] 1 1 (by omega) rfl (by simp) false
 refine sq (e:=124) (R:=1) (z:= .int .u32 0) (out:=[.int .u32 1]) (by simp) (by simp) (by simp) (by rfl) (by rfl) (by omega) (by omega) (by omega) ?_ (by simp) ?_
 ·simp[jr,qL]
 simp
 have bl:Ext H1 (H1++[.own 124 false [.int .u32 1]]):=Ext.more H1 (by simp)
 refine cc.join (by kernel_rfl) (fun cT dO bU=>Ext (H1++[.own 124 false [.int .u32 1]]) bU/\∃(w:Value) (y:List Nat) (b:Bool),cT 11=w/\cT 12= .bool b/\db bU 124 w y/\Trim y/\y.length<=4000/\(b=true↔CW l)/\(b=true->val y=et l)) ?_ ?_
 ·rintro K aV-
  cases al:kr l with
  | none=>
   have fO:(di 47 l).2=none:=al
   simp[fO]
   refine aV _ _ _ ⟨Ext.refl _,.slice (some ⟨H1.length,0,none⟩) 1 1,[1],true,rfl,rfl,Et,by simp[Trim],by simp,?_,?_⟩
   ·simp only[true_iff];intro u hu;rw[al]at hu;cases hu
   ·intro _;simp[et,al,val]
  | some q=>
   have fO:(di 47 l).2=some q:=al
   have Bn:Bytes q:=fun x J=>ar x (Ko.2 q fO x J)
   have rT:=z_.2 q fO
   simp[fO]
   refine aT.mk (Ow (l:=q) Bn (by omega)) ?_
   rintro u aS ⟨bK,Qs,Q9,QF,rfl,Eu,Es,rN,mJ,yu⟩
   cases Q9 with
   | false=>
    have ig:¬hU q:=fun h=>by have:=mJ.2 h;cases this
    simp
    refine aV _ _ _ ⟨bK,Qs,QF,false,by simp,by simp,Eu,Es,rN,?_,by simp⟩
    simp only[Bool.false_eq_true,false_iff]
    intro h
    exact ig (h q al).1
   | true=>
    have rF:hU q:=mJ.1 rfl
    have an:=yu rfl
    simp
    have cP:Ext aS (aS++[.own 124 false [.int .u32 1]]):=Ext.more aS (by simp)
    have xv:db (aS++[.own 124 false [.int .u32 1]]) 124 (.slice (some ⟨aS.length,0,none⟩) 1 1) [1]:=by
     simpa using db.fresh aS 124 [1] 1 1 (by omega) rfl (by simp) false
    refine sq (e:=124) (R:=1) (z:= .int .u32 0) (out:=[.int .u32 1]) (by simp) (by simp) (by simp) (by rfl) (by rfl) (by omega) (by omega) (by omega) ?_ (by simp) ?_
    ·simp[jr,qL]
    simp
    refine aT.mk (Ds (Eu.ext cP) xv Es (by simp[Trim]) (by omega) (by simp)) ?_
    rintro u dx ⟨rfl,rfl⟩
    have bk:val [1]=1:=by simp[val]
    rw[bk,an]
    obtain⟨c,ae⟩:∃c:Int,(if c8 q<1 then-1 else if 1<c8 q then 1 else 0:Int)=c:=⟨_,rfl⟩
    rw[ae]
    simp
    refine aV _ _ _ ⟨bK.aw cP,Qs,QF,decide (0<c),by simp,by simp,Eu.ext cP,Es,rN,?_,?_⟩
    ·rw[decide_eq_true_iff]
     have aH:0<c↔1<c8 q:=by rw[<-ae];split<;>(try split)<;>omega
     rw[aH]
     exact⟨fun h u hu=>by rw[al]at hu;cases hu;exact⟨rF,h⟩,fun h=>(h q al).2⟩
    ·intro _;rw[an];simp[et,al]
 ·rintro cT dO bU ⟨ch,w,y,b,jL,An,LK,rA,vH,ag,tL⟩
  simp at jL An
  refine cc.join (by kernel_rfl) (fun eI fR b5=>b5=bU/\∃g:Bool,eI 57= .bool g/\(g=false↔(JZ=true/\b=true/\¬(lB l=true/\zz.length=0)))) ?_ ?_
  ·rintro K aV-
   cases JZ with
   | false=>
    simp
    refine aV _ _ _ ⟨rfl,true,by simp,by simp⟩
   | true=>
    cases b with
    | false=>
     simp[An]
     refine aV _ _ _ ⟨rfl,true,by simp,by simp⟩
    | true=>
     have Ux:=Ev.ext (bl.aw ch)
     by_cases hm:(qO l).head?=some 45
     ·have tn:(di 47 l).1.head?=some 45:=hm
      simp[An,tn]
      refine ck (by simpa using Ux.row) (by simp) ?_
      simp
      refine aV _ _ _ ⟨rfl,decide (zz.length=0),by simp,by simp[lB,hm]⟩
     ·have tn:¬(di 47 l).1.head?=some 45:=hm
      simp[An,tn]
      refine aV _ _ _ ⟨rfl,false,by simp,by simp[lB,hm]⟩
  ·rintro eI fR b5 ⟨rfl,g,Lc,aX⟩
   simp at Lc
   simp[Lc]
   have oO:Ext H b5:=(Ext.more H (by simp)).aw (bq.aw (bl.aw ch))
   refine bs.mk (fun ae=>?_) (fun ae=>?_)
   ·have aJ:¬hC l:=by
     rintro⟨o,aa,aA,-⟩
     have:=aX.2 ⟨xG.2 o,ag.2 aa,fun⟨bj,bJ⟩=>aA ⟨bj,by rw[<-Nm (xG.2 o),(List.length_eq_zero_iff.1 bJ)];rfl⟩⟩
     rw[this]at ae;cases ae
    simp[bd]
    exact aC _ _ ⟨oO,_,.inr ⟨aJ,rfl⟩,_,_,_,_,_,_,_,_,rfl⟩
   ·obtain⟨l5,kV,LP⟩:=aX.1 ae
    have nz:=Nm l5
    have jb:=tL kV
    simp
    have SG:(if lB l=true then-(val zz:Int)else val zz)=fT l:=by rw[nz];rfl
    have DA:(if false=true then-(val y:Int)else val y)=(et l:Int):=by rw[jb];rfl
    refine aT.mk (F1 (yV (neg:=lB l) (Ev.ext (bl.aw ch)) LJ)) ?_
    rintro mn dx ⟨cu,s1,b4,cB,cm,rfl,ij⟩
    rw[SG]at ij
    simp[jL]
    refine aT.mk (F1 (yV (neg:=false) (LK.ext cu) rA)) ?_
    rintro kq c6 ⟨cR,s2,cM,cL,cI,rfl,jg⟩
    rw[DA]at jg
    simp
    have xL:0<et l:=by
     have o:=ag.1 kV
     unfold et
     cases hu:kr l with
     | none=>simp
     | some q=>have:=(o q hu).2;simp;omega
    have cW:Ext c6 (c6++[.dead]):=Ext.more c6 (by simp)
    refine cc.join (by kernel_rfl) (fun q6 sG eV=>Ext (c6++[.dead]) eV/\sG 2= .agg #[.bool s1,.slice b4 cB cm,.bool s2,.slice cM cL cI]/\∃g:Bool,q6 3= .bool g/\(g=true↔(kr l=none\/Int.gcd (fT l) (et l)=1))) ?_ ?_
    ·rintro K aV-
     cases al:kr l with
     | none=>
      have fO:(di 47 l).2=none:=al
      simp[fO]
      refine aV _ _ _ ⟨Ext.refl _,by simp,true,by simp,by simp[al]⟩
     | some q=>
      have fO:(di 47 l).2=some q:=al
      simp[fO]
      have DF:Fits (fT l):=by
       have o:(fT l).natAbs=val zz:=by unfold fT;rw[<-nz];split<;>omega
       unfold Fits;rw[o]
       exact Nat.lt_of_lt_of_le (ks Ev.2) (sf 4294967296 _ 1000000 (by decide) (by omega))
      have Ag:Fits (et l):=by
       unfold Fits;rw[Int.natAbs_natCast,<-jb]
       exact Nat.lt_of_lt_of_le (ks LK.2) (sf 4294967296 _ 1000000 (by decide) (by omega))
      refine aT.mk (KX ((ij.ext cR).ext cW) (jg.ext cW) DF Ag) ?_
      rintro nQ fz ⟨dy,tP⟩
      refine⟨dy,?_⟩
      simp
      refine aT.mk (v5 (n:=1) (by omega) (by omega)) ?_
      rintro pP k9 ⟨gL,yF⟩
      refine⟨gL,?_⟩
      simp
      have S0:Fits ((Int.gcd (fT l) (et l):Nat):Int):=by
       have aa:Int.gcd (fT l) (et l)<=et l:=Nat.le_of_dvd xL (Int.ofNat_dvd.1 (Int.gcd_dvd_right _ _))
       exact Ag.le (by simpa using aa)
      refine aT.mk (FY (tP.ext gL) yF S0 (Fits.small (by decide))) ?_
      rintro oX iS ⟨gq,rfl⟩
      refine⟨gq,?_⟩
      obtain⟨ez,gb⟩:∃ez:Int,(if((Int.gcd (fT l) (et l):Nat):Int)<1 then-1 else if((Int.gcd (fT l) (et l):Nat):Int)=1 then 0 else 1:Int)=ez:=⟨_,rfl⟩
      rw[gb]
      simp
      refine aV _ _ _ ⟨dy.aw (gL.aw gq),by simp,decide (ez=0),by simp,?_⟩
      rw[decide_eq_true_iff]
      simp only[al,reduceCtorEq,false_or]
      rw[<-gb]
      split
      ·omega
      ·split<;>omega
    ·rintro q6 sG eV ⟨dy,gV,js,aA,Ma⟩
     simp at gV aA
     simp[gV,aA,bd]
     have NK:=(cu.aw (cR.aw (cW.aw dy)))
     have gC:hC l↔js=true:=by
      rw[Ma]
      refine⟨fun h=>h.2.2.2,fun h=>⟨xG.1 l5,ag.1 kV,fun⟨bj,bJ⟩=>LP ⟨bj,?_⟩,h⟩⟩
      rw[<-nz]at bJ
      exact(Nat.eq_zero_or_pos _).resolve_right fun h=>by have:=LJ.pos.1 h;omega
     cases js with
     | true=>
      have mM:Int.gcd (fT l) (et l)=1:=by
       rcases Ma.1 rfl with h | h
       ·have:et l=1:=by simp[et,h]
        rw[this];simp
       ·exact h
      refine aC _ _ ⟨oO.aw NK,_,.inl ⟨gC.2 rfl,rfl,?_⟩,_,_,_,_,_,_,_,_,rfl⟩
      obtain⟨bk,bp⟩:=w2 (fT l) (et l) (by omega)
      have xR:Nat.gcd (fT l).natAbs (et l)=1:=mM
      rw[xR]at bk bp
      refine⟨_,_,_,_,rfl,?_,?_⟩
      ·rw[bk];simpa using ij.ext (cR.aw (cW.aw dy))
      ·rw[bp];simpa using jg.ext (cW.aw dy)
     | false=>
      refine aC _ _ ⟨oO.aw NK,_,.inr ⟨fun h=>(by have:=gC.1 h;cases this),rfl⟩,_,_,_,_,_,_,_,_,rfl⟩
abbrev jo(H:ab)(v:Value)(r:List Rat):Prop:=Row 80 4 true cf H v r
instance:b7 jo:=⟨fun h J=>b7.ext (ad:=Row 80 4 true cf) h J⟩
abbrev hX(H:ab)(v:Value)(t:List (List Rat)):Prop:=Row 120 1 false jo H v t
instance:b7 hX:=⟨fun h J=>b7.ext (ad:=Row 120 1 false jo) h J⟩
theorem hX.ext{H H1:ab}{v:Value}{t:List (List Rat)}(h:hX H v t)(J:Ext H H1):hX H1 v t:=b7.ext h J
def hB(r:List Rat):Rat:=r.foldl (·+·) 0
theorem O1{r:List Rat}{i:Nat}{q:Rat}(h:r[i]?=some q):hB (r.take (i+1))=hB (r.take i)+q:=by
 have af:=(cJ.1 h).1
 rw[List.take_succ_eq_append_getElem af]
 unfold hB
 rw[List.foldl_append]
 simp[(cJ.1 h).2]
theorem yR{v:Value}{t:List (List Rat)}{j N:Nat}{row:List Rat}{H:ab}(bf:hX H v t)(al:t[j]?=some row)(ar:row.length<4611686018427387904)(gf:t.length<4611686018427387904)(ao:∀k,dh N (hB (row.take k)))(he:∀q∈row,dh N q)(bP:N<=1000000):
  aO prog 65 [.agg #[v],.int .i64 j] H (fun u H1=>Ext H H1/\cf H1 u (hB row)):=by
 refine aO.b9 fun Q aC=>?_
 apply Y7 (by simp)
 obtain⟨a,c,rfl⟩:=Row.len bf
 simp[Jr]
 have bu:Ext H (H++[.dead,.dead]):=Ext.more H (by simp)
 refine aT.mk (Cf (n:=0) (by omega) (by omega)) ?_
 rintro y_ H1 ⟨bq,nx⟩
 simp
 refine c2.mk nx.whole ?_
 simp
 have bl:Ext H1 (H1++[.dead]):=Ext.more H1 (by simp)
 have ic:=bf.ext (bu.aw (bq.aw bl))
 refine cv (ad:=jo) (xs:=t) (n:=j) (a:=row) (e:=120) (R:=1) (ay:=false) (by simpa using ic) (by simp) al (by simp) (by simp) (by simp) (by decide) ?_
 intro Gk He rY
 refine ck (ad:=cf) (xs:=row) (by simpa using rY) (by simp) ?_
 simp
 refine c7.range (by kernel_rfl) row.length (by omega) (by simp) (by rfl) (by simp) (by decide) (by decide) (fun i bR c4 aS=>Ext (H1++[.dead]) aS/\cf aS (c4 5) (hB (row.take i))) ?_ ?_ ?_
 ·refine⟨Ext.refl _,?_⟩
  simpa[hB]using nx.ext bl
 ·rintro i bR c4 aS af a_ ⟨bK,ma⟩ K aV
  simp at a_ ma
  simp[a_]
  obtain⟨x,J⟩:∃x,row[i]?=some x:=⟨_,bz af⟩
  refine cv (ad:=cf) (xs:=row) (n:=i) (a:=x) (e:=80) (R:=4) (ay:=true) (by simpa using b7.ext rY bK) (by simp[a_]) J (by simp) (by simp) (by simp) (by decide) ?_
  intro c9 u hu
  simp
  refine c2.mk hu.whole ?_
  simp
  have ch:Ext aS (aS++[.dead]):=Ext.more aS (by simp)
  refine aT.mk (OX (ma.ext ch) (hu.ext ch) (ao i) (he x (List.mem_of_getElem? J)) bP) ?_
  rintro w bN ⟨cP,hw⟩
  simp
  refine c2.mk hw.whole ?_
  refine aV _ _ _ (by simp[a_]) ⟨bK.aw (ch.aw cP),?_⟩
  rw[O1 J]
  simpa using hw
 ·rintro bR c4 aS a_ ⟨bK,ma⟩
  simp at ma
  simp
  refine c2.mk ma.whole ?_
  simp[bd]
  exact aC _ _ ⟨bu.aw (bq.aw (bl.aw bK)),ma⟩
end Go.dq
end
