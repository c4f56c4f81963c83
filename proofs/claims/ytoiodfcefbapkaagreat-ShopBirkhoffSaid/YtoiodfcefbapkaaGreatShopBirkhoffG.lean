/- Part of the proof of ShopBirkhoff. -/
import Derived.Test.YtoiodfcefbapkaaGreatShopBirkhoffF
set_option linter.unusedVariables false
set_option linter.unusedSimpArgs false
section
set_option maxRecDepth 8000
set_option maxHeartbeats 1000000
namespace Go.cl
open Go.Proofs
open Go.Proofs.Tryz (prog)
attribute [-simp] gk hq iM
theorem IK(l:List Nat)(k:Nat):val l=val (l.take k)+4294967296^(min k l.length)*val (l.drop k):=by
 conv=>lhs;rw[<-List.take_append_drop k l,ou]
 rw[List.length_take]
theorem gE.whole{H:ad}{u:Value}{y:Nat}(h:gE H u y):Whole prog 124 u:=h.1▸AB _
theorem Qc{v w:Value}{a b:List Nat}{H:ad}(bE:de H 124 v a)(p1:Trim a)(bK:de H 124 w b)(l5:Trim b)(nR:0<b.length)(iV:a.length<1048570)(iq:b.length<1048570):
  aX prog 117 [v,w] H (fun u H1=>Ext H H1/\∃q r l m,u= .tuple #[q,r]/\de H1 124 q l/\Trim l/\val l=val a/val b/\de H1 124 r m/\Trim m/\val m=val a % val b):=by
 refine aX.cc fun Q aD=>?_
 apply aae (by simp)
 simp[Kr]
 refine aY.mk (Ez bE bK p1 l5 (by omega) (by omega)) ?_
 rintro c H ⟨rfl,rfl⟩
 simp
 refine br.b_ (fun ag=>?_) (fun ag=>?_)
 ·have a3:val a<val b:=by
   rcases Nat.lt_or_ge (val a) (val b)with h | h
   ·exact h
   ·rw[if_neg (by omega)]at ag;split at ag<;>omega
  try simp
  refine DG (e:=124) (R:=1) (bI:=4) (k:=H.length) (z:= .int .u32 0) (ay:=false) (ae:=gE) (xs:=[]) (bY:=a) (by simpa using bB.nil _ _ _ _ _ _) (by simpa using bE.row) (fun u y h=>h.whole) (fun _ _ _ _ _ h=>h) (by simp) (by simp) (by simp) (by simp) (.inr rfl) (by simp) (by simp) (by rfl) (by decide) (by simp;omega) (Nat.le_refl _) ?_
  rintro aw aI cR J-
  simp[bf]
  refine aD _ _ ⟨J H (Nat.le_refl _) (Ext.refl _),_,_,[],a,rfl,⟨eA.nil _ _ _,by simp⟩,Trim.nil,?_,cR.row.us,p1,?_⟩
  ·rw[Nat.div_eq_of_lt a3];rfl
  ·rw[Nat.mod_eq_of_lt a3]
 ·have h0:val b<=val a:=by
   rcases Nat.lt_or_ge (val a) (val b)with h | h
   ·rw[if_pos h]at ag;omega
   ·exact h
  try simp
  refine cD (by simpa using bK.row) (by simp) ?_
  simp
  refine br.b_ (fun jV=>?_) (fun jV=>?_)
  ·have hg:b.length=1:=by omega
   obtain⟨y,rfl⟩:=List.length_eq_one_iff.1 hg
   have wY:0<y:=by
    have:=l5
    simp[Trim]at this
    omega
   have ql:y<4294967296:=bK.2 y (by simp)
   try simp
   refine cF (ae:=gE) (n:=0) (by simpa using bK.row) (by simp) (a:=y) (by simp) (by simp) (by simp) (by simp) (.inr rfl) ?_
   rintro p u ⟨rfl,-⟩
   simp
   refine aY.mk (Lp bE (by omega) wY ql) ?_
   rintro u aT ⟨J,q,l,rfl,aq,we,uJ⟩
   simp
   have lB:val a % y<4294967296:=Nat.lt_trans (Nat.mod_lt _ wY) ql
   obtain⟨r,al⟩:∃r,val a % y=r:=⟨_,rfl⟩
   rw[al]at lB
   refine u5 (e:=124) (R:=1) (z:= .int .u32 0) (out:=[.int .u32 (r:Int)]) (by simp) (by simp) (by simp) (by rfl) (by rfl) (by omega) (by omega) (by omega) ?_ (by simp) ?_
   ·simp[jQ,made,pD]
    rw[<-al]
    simp
   simp
   have ey:=de.fresh aT 124 [r] 1 1 (Nat.le_refl _) rfl (by simpa using lB) false
   refine aY.mk (mW (l:=[r]) (by simpa using ey) (by simp)) ?_
   rintro u bS ⟨rfl,m,hm,M8,re,-⟩
   simp[bf]
   refine aD _ _ ⟨J.snoc _ _ _,_,_,l,m,rfl,aq.ext ((Ext.refl _).snoc _ _ _),we,by rw[uJ];simp[val],hm,M8,?_⟩
   rw[re,<-al]
   simp[val]
  ·try simp
   obtain⟨m,hg⟩:∃m,b.length=m+2:=⟨b.length-2,by omega⟩
   refine cD (by simpa using bK.row) (by simp) ?_
   have h2:IntKind.i64.wrap ((m:Int)+2-1)=(m:Int)+1:=by rw[b2 (by omega) (by omega)];omega
   rw[hg]
   simp[h2]
   obtain⟨tD,sl⟩:∃x,b[m+1]?.getD 0=x:=⟨_,rfl⟩
   have FP:b[m+1]?=some tD:=by rw[<-sl,bs (by omega)];rfl
   have Wi:tD<4294967296:=bK.2 tD (List.mem_of_getElem? FP)
   have Wh:0<tD:=by
    have:=l5
    rw[Trim,List.getLast?_eq_getElem?,hg,show m+2-1=m+1 by omega,FP]at this
    rcases Nat.eq_zero_or_pos tD with q | q
    ·rw[q]at this;exact absurd rfl this
    ·exact q
   refine cF (ae:=gE) (n:=m+1) (by simpa using bK.row) (by simp) FP (by simp) (by simp) (by simp) (.inr rfl) ?_
   rintro p u ⟨rfl,-⟩
   simp
   refine aY.mk (abw Wi Wh) ?_
   rintro u H ⟨rfl,s,rfl,GA,wx⟩
   simp
   refine aY.mk (RH bK (by omega) GA) ?_
   rintro anl aT ⟨bh,alp,Vh,akQ,Xv⟩
   simp
   refine aY.mk (mW Vh.row.us (by omega)) ?_
   rintro ank aT ⟨rfl,aH,oZ,wh,jC,-⟩
   simp
   rw[Xv]at jC
   have Nj:val b<4294967296^(m+1)*(tD+1)/\4294967296^(m+1)<=val b:=by
    have o:=jK b (m+1)
    rw[show b.take (m+1+1)=b from by rw[<-hg,List.take_length],sl]at o
    have aa:=kQ (l:=b.take (m+1)) fun x J=>bK.2 x (List.mem_of_mem_take J)
    rw[List.length_take,Nat.min_eq_left (by omega)]at aa
    have aE:=l5.le (by intro e;simp[e]at hg)
    rw[hg,show m+2-1=m+1 by omega]at aE
    refine⟨?_,aE⟩
    rw[o,Nat.mul_add]
    omega
   have zA:aH.length=m+2:=by
    have o:aH.length<=m+2:=by
     refine wh.length_le ?_
     rw[jC]
     have:4294967296^(m+1)*(tD+1)*2^s<=4294967296^(m+1)*4294967296:=by
      rw[Nat.mul_assoc]
      refine Nat.mul_le_mul_left _ ?_
      have e:(4294967296:Nat)=2^s*2^(32-s):=by rw[<-Nat.pow_add];rw[show s+(32-s)=32 by omega]
      rw[Nat.mul_comm,e]
      refine Nat.mul_le_mul_left _ ?_
      refine Nat.lt_of_mul_lt_mul_left (a:=2^s) ?_
      rw[<-e,Nat.mul_comm]
      exact wx
     rw[<-Nat.pow_succ]at this
     exact Nat.lt_of_lt_of_le (Nat.mul_lt_mul_of_pos_right Nj.1 (Nat.pow_pos (by decide))) this
    have aa:m+2<=aH.length:=by
     rcases Nat.lt_or_ge aH.length (m+2)with h | h
     ·exfalso
      have aE:=kQ oZ.2
      rw[jC]at aE
      have bA:4294967296^aH.length<=4294967296^(m+1):=Nat.pow_le_pow_right (by decide) (by omega)
      have bQ:val b*1<=val b*2^s:=Nat.mul_le_mul_left _ (Nat.pow_pos (by decide))
      omega
     ·exact h
    omega
   have rf:aH[m+1]?.getD 0≠0:=by
    have:=wh
    rw[Trim,List.getLast?_eq_getElem?,zA,show m+2-1=m+1 by omega,bs (by omega)]at this
    rw[bs (by omega)]
    exact fun h=>this (by rw[<-h];rfl)
   refine aY.mk (RH (bE.ext bh) (by omega) GA) ?_
   rintro ans bT ⟨b8,us,BC,ak6,ON⟩
   simp
   refine cD (by simpa using(oZ.ext b8).row) (by simp) ?_
   rw[zA]
   simp
   refine cD (by simpa using(bE.ext (bh.av b8)).row) (by simp) ?_
   have tZ:b.length<=a.length:=by
    rcases Nat.lt_or_ge a.length b.length with h | h
    ·have:=l5.w6 bE.2 h;omega
    ·exact h
   obtain⟨d,FJ⟩:∃d,a.length=d+(m+2):=⟨a.length-(m+2),by omega⟩
   have n5:IntKind.i64.wrap ((d:Int)+((m:Int)+2)-((m:Int)+2))=(d:Int):=by rw[b2 (by omega) (by omega)];omega
   have nu:IntKind.i64.wrap ((d:Int)+1)=(d:Int)+1:=b2 (by omega) (by omega)
   have jE:IntKind.i64.wrap (d:Int)=(d:Int):=b2 (by omega) (by omega)
   rw[FJ]
   simp[n5,nu,jE]
   refine tf (e:=124) (R:=1) (bI:=4) (n:=d+1) (ay:=false) (z:= .int .u32 0) (ae:=gE) (a:=0) (e6:= .i64) (dc:= .i64) (by simp) (by simp) (by simp) (by simp) (by rfl) (by simp) IW (by simp) (by simp) (by omega) (by omega) (by omega) (fun aI=>⟨rfl,by decide⟩) ?_
   rintro agF b7 Vi ct-
   simp
   refine cD (by simpa using(bE.ext (bh.av (b8.av ct))).row) (by simp) ?_
   rw[FJ]
   simp[n5,jE]
   have VJ:=BC.row.us.2
   obtain⟨cs,⟨gV,cR⟩,Wn⟩:=BC
   have gp:cs=gl us:=RE gV fun _ i x ab=>Wn i x ab
   subst gp
   rcases cR with⟨aG,-⟩ | ⟨pV,U,cap,l,all,rfl,-,sm,FQ,M_,bF,dv⟩
   ·omega
   rw[Nat.mul_one]at bF dv
   have wq:all=all.take U++(gl us++all.drop (U+us.length)):=by
    rw[dv,<-List.drop_drop,List.take_append_drop,List.take_append_drop]
   have Cn:(all.take U).length=U:=by rw[List.length_take];omega
   generalize all.take U=pre at wq Cn
   generalize all.drop (U+us.length)=post at wq
   subst wq
   have VW:=ct.get_some M_
   have wi:0<val aH:=by
    have:=wh.le (by intro e;simp[e]at zA)
    have aa:=Nat.pow_pos (n:=aH.length-1) (show 0<4294967296 by decide)
    omega
   have aj7:val aH<4294967296^(m+2):=by have:=kQ oZ.2;rwa[zA]at this
   have nt:val (us.drop (d+1))<val aH:=by
    have o:=IK us (d+1)
    rw[Nat.min_eq_left (by omega)]at o
    have aa:=kQ bE.2
    rw[FJ,show d+(m+2)=d+1+(m+1) by omega,Nat.pow_add]at aa
    have aE:4294967296^(d+1)*val (us.drop (d+1))<4294967296^(d+1)*(4294967296^(m+1)*2^s):=by
     have:val a*2^s<4294967296^(d+1)*4294967296^(m+1)*2^s:=Nat.mul_lt_mul_of_pos_right aa (Nat.pow_pos (by decide))
     rw[Nat.mul_assoc]at this
     omega
    have bA:=Nat.lt_of_mul_lt_mul_left aE
    have bQ:4294967296^(m+1)*2^s<=val b*2^s:=Nat.mul_le_mul_right _ Nj.2
    omega
   refine c6.mk (by kernel_rfl) (fun k di ev dx=>k<=d+1/\di 13= .int .i64 ((k:Int)-1)/\Ext aT dx/\Ext H dx/\∃dV lb:List Nat,dx[pV]?=some (.own 124 l (pre++(gl dV++post)))/\dV.length=us.length/\(∀x∈dV,x<4294967296)/\bB bT.length 124 1 false gE dx agF lb/\lb.length=d+1/\
    val dV+val aH*(4294967296^k*val (lb.drop k))=val us/\val (dV.drop k)<val aH) (d+1) ?_ ?_
   ·refine⟨Nat.le_refl _,by simp,b8.av ct,bh.av (b8.av ct),us,_,VW,rfl,VJ,Vi,by simp,?_,nt⟩
    rw[List.drop_eq_nil_of_le (by simp),show val []=0 from rfl,Nat.mul_zero,Nat.mul_zero,Nat.add_zero]
   ·rintro k di ev dx ⟨ah,g5,cB,O5,dV,lb,BL,Yv,wN,jw,q_,hinv,wC⟩ K a4
    simp at g5
    simp[g5]
    refine br.b_ (fun aK=>?_) (fun aK=>?_)
    ·obtain⟨j,rfl⟩:∃j,k=j+1:=⟨k-1,by omega⟩
     have aN:((j+1:Nat):Int)-1=(j:Int):=by omega
     have kF:(j:Int)+1-1=(j:Int):=by omega
     have bn:IntKind.i64.wrap ((j:Int)+((m:Int)+2))=(j:Int)+((m:Int)+2):=b2 (by omega) (by omega)
     have bj:IntKind.i64.wrap ((j:Int)+((m:Int)+2)+1)=((j+m+3:Nat):Int):=by rw[b2 (by omega) (by omega)];omega
     have nO:IntKind.i64.wrap ((j:Int)-1)=(j:Int)-1:=b2 (by omega) (by omega)
     have fT:IntKind.i64.wrap (j:Int)=(j:Int):=b2 (by omega) (by omega)
     try simp
     simp[g5,aN,kF,bn,bj]
     have aki:us.length<=cap:=sm
     refine Rg (b:=pV) (i:=U) (len:=us.length) (cap:=cap) (l:=j) (h:=j+m+3) (e:=124) (R:=1) (by simp) BL rfl (by simp) (by simp) (by simp[ea]) (by simp[fo];omega) (by omega) (by omega) (by omega) ?_
     simp
     obtain⟨oH,bd⟩:∃oH,(dV.drop j).take (m+3)=oH:=⟨_,rfl⟩
     obtain⟨ae,bq⟩:∃ae,(dV.drop j).drop (m+3)=ae:=⟨_,rfl⟩
     have we:oH.length=m+3:=by rw[<-bd];simp;omega
     have Vu:ae.length=dV.length-(j+(m+3)):=by rw[<-bq];simp[Nat.sub_sub]
     have GF:dV=dV.take j++(oH++ae):=by rw[<-bd,<-bq,List.take_append_drop,List.take_append_drop]
     have VD:∀x∈oH,x<4294967296:=fun x J=>wN x (by rw[GF];simp[J])
     have Vv:∀x∈ae,x<4294967296:=fun x J=>wN x (by rw[GF];simp[J])
     have OD:(dV.take j).length=j:=by simp;omega
     have mJ:val (dV.drop j)=val oH+4294967296^(m+3)*val ae:=by
      have:dV.drop j=oH++ae:=by rw[<-bd,<-bq,List.take_append_drop]
      rw[this,ou,we]
     have Nq:val (dV.drop j)<4294967296*val aH:=by
      rw[ve _ _ (by omega)]
      have:=yg (l:=dV) (by decide) wN j
      omega
     have oX:val ae=0:=by
      rcases Nat.eq_zero_or_pos (val ae)with h | h
      ·exact h
      ·exfalso
       have o:4294967296^(m+3)*1<=4294967296^(m+3)*val ae:=Nat.mul_le_mul_left _ h
       have aa:4294967296*val aH<=4294967296*4294967296^(m+2):=Nat.mul_le_mul_left _ (by omega)
       have aE:(4294967296:Nat)^(m+3)=4294967296*4294967296^(m+2):=by rw[Nat.pow_succ,Nat.mul_comm]
       omega
     rw[oX,Nat.mul_zero,Nat.add_zero]at mJ
     have VS:dx[pV]?=some (.own 124 l ((pre++gl (dV.take j))++(gl oH++(gl ae++post)))):=by
      rw[BL]
      congr 2
      conv=>lhs;rw[GF]
      simp[gl]
     have lp:j+m+3-j=m+3:=by omega
     rw[lp]
     refine aY.mk (Tg (m:=m) VS (by simp[gl,Cn];omega) we VD (fun X aZ=>oZ.ext (cB.set FQ aZ)) zA (by omega) rf (by rw[<-mJ];exact Nq)) ?_
     rintro u cw ⟨⟨q,rfl,aq⟩,tv,rfl,VC,VE,wh⟩
     have Cq:q<4294967296:=by rw[aq,Nat.div_lt_iff_lt_mul wi,<-mJ];exact Nq
     simp
     have Wj:pV<dx.length:=(cn.1 BL).1
     have Ni:pV<bT.length:=(cn.1 M_).1
     refine ja (ae:=gE) (n:=j) (k:=bT.length) (xs:=lb) (a:=q) (by simpa using jw.adl Ni (fun u y h=>h)) (by simp) (by omega) ⟨by simp,Cq⟩ (by simpa using AB _) (by simp) (fun _ _ _ _ _ h=>h) (by simp) (by simp) (by simp) (by decide) ?_
     rintro py dW eJ cH-sz Nl
     simp at eJ Nl
     have Nv:∀cJ:ad,cJ.length<=pV->Ext cJ dx->Ext cJ dW:=fun cJ aG J=>cH cJ (by omega) (by simpa using J.set aG (X:= .own 124 l ((pre++gl (dV.take j))++(gl tv++(gl ae++post)))) (by simp))
     have VT:dW[pV]?=some (.own 124 l (pre++(gl (dV.take j++(tv++ae))++post))):=by
      rw[Nl pV Ni,List.getElem?_set_self Wj]
      simp[gl]
     simp[g5,aN]
     refine a4 j _ _ _ (by omega) ⟨by omega,by simp[nO],Nv _ FQ cB,Nv _ (Nat.le_trans bh.len FQ) O5,_,_,VT,?_,?_,by simpa using eJ,by simp[q_],?_,?_⟩
     ·rw[List.length_append,List.length_append,OD,VC,Vu];omega
     ·intro x J
      rcases List.mem_append.1 J with J | J
      ·exact wN x (List.mem_of_mem_take J)
      ·rcases List.mem_append.1 J with J | J
       ·exact VE x J
       ·exact Vv x J
     ·have o:val dV=val (dV.take j)+4294967296^j*val oH:=by
       have:=IK dV j
       rw[Nat.min_eq_left (by omega),mJ]at this
       exact this
      have aa:val (dV.take j++(tv++ae))=val (dV.take j)+4294967296^j*val tv:=by
       rw[ou,ou,OD,oX,Nat.mul_zero,Nat.add_zero]
      have aE:val ((lb.set j q).drop j)=q+4294967296*val (lb.drop (j+1)):=by
       rw[ve _ _ (by simp;omega),List.getElem?_set_self (by omega),List.drop_set_of_lt (by omega)]
       rfl
      have bA:=Nat.div_add_mod (val oH) (val aH)
      rw[<-aq,<-wh]at bA
      rw[aa,aE]
      rw[o,Nat.pow_succ]at hinv
      generalize (4294967296:Nat)^j=E at*
      generalize val (lb.drop (j+1))=Z at*
      have oP:val aH*(E*(q+4294967296*Z))=E*(val aH*q)+val aH*(E*4294967296*Z):=by grind
      have L3:E*val oH=E*(val aH*q)+E*val tv:=by rw[<-Nat.mul_add,bA]
      omega
     ·have:(dV.take j++(tv++ae)).drop j=tv++ae:=by
       rw[List.drop_append_of_le_length (by omega),List.drop_eq_nil_of_le (by omega),List.nil_append]
      rw[this,ou,oX,Nat.mul_zero,Nat.add_zero,wh]
      exact Nat.mod_lt _ wi
    ·have lA:k=0:=by omega
     subst lA
     simp at hinv wC
     have VH:de dx 124 (.slice (some ⟨pV,U,none⟩) us.length cap) dV:=by
      refine⟨⟨_,cap,by rw[Yv],by omega,by simp,fun _=>⟨pV,U,_,_,rfl,BL,rfl,rfl,?_,?_⟩⟩,wN⟩
      ·simp[gl,Cn]
      ·rw[<-Cn,List.drop_append_of_le_length (Nat.le_refl _),List.drop_length,List.nil_append,Nat.mul_one,List.take_append_of_le_length (by simp[gl])]
       rw[List.take_of_length_le (by simp[gl])]
       rfl
     try simp
     refine aY.mk (mW jw.row.us (by omega)) ?_
     rintro q cw ⟨rfl,ix,B7,q0,uK,-⟩
     refine⟨Ext.refl _,?_⟩
     simp
     refine tg (e:=124) (R:=1) (ay:=false) (l:=0) (h:=m+2) (ae:=gE) (xs:=dV) (by simpa using VH.row) (by simp) (by simp) (.inr rfl) (by simp[ea]) (by simp[fo];omega) (by omega) (by omega) ?_
     intro ano al
     simp at al
     simp
     refine aY.mk (mW al.us (by simp;omega)) ?_
     rintro t dW ⟨rfl,lt,a3,VF,uL,-⟩
     simp
     have akK:lt.length<=m+2:=by
      refine VF.length_le ?_
      rw[uL]
      have:=kQ (l:=dV.take (m+2)) fun x J=>wN x (List.mem_of_mem_take J)
      rw[List.length_take]at this
      exact Nat.lt_of_lt_of_le this (Nat.pow_le_pow_right (by decide) (Nat.min_le_left _ _))
     refine aY.mk (TM a3 (by omega) GA) ?_
     rintro z eH ⟨c_,w5,B8,p2,n4⟩
     simp[bf]
     have Yn:val (dV.take (m+2))=val dV:=by
      have o:=IK dV (m+2)
      rw[Nat.min_eq_left (by omega)]at o
      rcases Nat.eq_zero_or_pos (val (dV.drop (m+2)))with h | h
      ·rw[h,Nat.mul_zero,Nat.add_zero]at o;exact o.symm
      ·have aa:4294967296^(m+2)*1<=4294967296^(m+2)*val (dV.drop (m+2)):=Nat.mul_le_mul_left _ h
       omega
     have qb:0<2^s:=Nat.pow_pos (by decide)
     have XR:val lb=val a/val b:=by
      have o:val us/val aH=val lb:=by
       rw[<-hinv,Nat.add_mul_div_left _ _ wi,Nat.div_eq_of_lt wC,Nat.zero_add]
      rw[<-o,ON,jC,Nat.mul_div_mul_right _ _ qb]
     have Cu:val dV=(val a % val b)*2^s:=by
      have o:val us % val aH=val dV:=by
       rw[<-hinv,Nat.add_mul_mod_self_left,Nat.mod_eq_of_lt wC]
      rw[<-o,ON,jC,Nat.mul_mod_mul_right]
     exact aD _ _ ⟨O5.av c_,_,_,ix,w5,rfl,B7.ext c_,q0,by rw[uK,XR],B8,p2,by rw[n4,uL,Yn,Cu,Nat.mul_div_cancel _ qb]⟩
instance:bM du:=⟨fun h J=>h.ext J⟩
theorem zY{neg:Bool}{v:Value}{l:List Nat}{H:ad}(ey:de H 124 v l)(bd:Trim l):aX prog 92 [.bool neg,v] H (fun w H1=>Ext H H1/\du H1 w (if neg=true then-(val l:Int)else val l)):=by
 obtain⟨a,c,rfl⟩:=ey.len
 exact uS.mono fun w H1 ⟨J,hw⟩=>⟨J,du.mk' hw (ey.ext J) bd⟩
theorem du.whole{H:ad}{v:Value}{z:Int}(h:du H v z):Whole prog 78 v:=by
 obtain⟨a,c,l,rfl,-⟩:=h
 exact⟨by simp,by simp,by simp[e7]⟩
theorem du.us{H:ad}{s:Bool}{v:Value}{z:Int}(h:du H (.agg #[.bool s,v]) z):∃l,s=decide (z<0)/\de H 124 v l/\Trim l/\val l=z.natAbs:=by
 obtain⟨a,c,l,he,aa,aE,bA⟩:=h
 simp at he
 obtain⟨rfl,rfl⟩:=he
 exact⟨l,rfl,aa,aE,bA⟩
theorem acF{a b q r:Int}(af:b≠0)(aq:q=if(!(decide (a<0)==decide (b<0)))=true then-((a.natAbs/b.natAbs:Nat):Int)else((a.natAbs/b.natAbs:Nat):Int))(al:r=if decide (a<0)=true then-((a.natAbs % b.natAbs:Nat):Int)else((a.natAbs % b.natAbs:Nat):Int)):
  (if a.natAbs % b.natAbs=0\/(!(decide (a<0)==decide (b<0)))=false then q else q-1)=a.fdiv b/\(if a.natAbs % b.natAbs=0\/(!(decide (a<0)==decide (b<0)))=false then r else r+b)=a.fmod b:=by
 have hm:a.fmod b=a-b*a.fdiv b:=Int.fmod_def a b
 have key:∀Q:Int,(0<b->b*Q<=a/\a<b*Q+b)->(b<0->a<=b*Q/\b*Q+b<a)->Q=a.fdiv b:=by
  intro Q o aa
  rcases Int.lt_or_lt_of_ne af with h | h
  ·obtain⟨dh,gZ⟩:=aa h
   have e:a.fdiv b=(-a).fdiv (-b):=by rw[Int.neg_fdiv_neg]
   rw[e,Int.fdiv_eq_ediv_of_nonneg _ (by omega)]
   refine(Int.ediv_eq_iff_of_pos (by omega)).2 ?_ |>.symm
   constructor<;>grind
  ·obtain⟨dh,gZ⟩:=o h
   rw[Int.fdiv_eq_ediv_of_nonneg _ (by omega)]
   refine(Int.ediv_eq_iff_of_pos (by omega)).2 ?_ |>.symm
   constructor<;>grind
 have nS:=Nat.div_add_mod a.natAbs b.natAbs
 have eM:=Nat.mod_lt a.natAbs (show 0<b.natAbs by omega)
 generalize a.natAbs/b.natAbs=x at*
 generalize a.natAbs % b.natAbs=y at*
 have aK:(b.natAbs:Int)*x+y=a.natAbs:=by exact_mod_cast nS
 have aD:(if y=0\/(!(decide (a<0)==decide (b<0)))=false then q else q-1)=a.fdiv b:=by
  refine key _ (fun h=>?_) (fun h=>?_)
  ·have bj:decide (b<0)=false:=by simp;omega
   have bK:(b.natAbs:Int)=b:=by omega
   rw[bK]at aK
   by_cases aL:a<0
   ·have bn:decide (a<0)=true:=by simpa using aL
    have bE:(a.natAbs:Int)= -a:=by omega
    simp[bn,bj]at aq⊢
    rw[bE]at aK
    rw[aq]
    split
    ·constructor<;>grind
    ·constructor<;>grind
   ·have bn:decide (a<0)=false:=by simpa using aL
    have bE:(a.natAbs:Int)=a:=by omega
    simp[bn,bj]at aq⊢
    rw[bE]at aK
    rw[aq]
    constructor<;>grind
  ·have bj:decide (b<0)=true:=by simpa using h
   have bK:(b.natAbs:Int)= -b:=by omega
   rw[bK]at aK
   by_cases aL:a<0
   ·have bn:decide (a<0)=true:=by simpa using aL
    have bE:(a.natAbs:Int)= -a:=by omega
    simp[bn,bj]at aq⊢
    rw[bE]at aK
    rw[aq]
    constructor<;>grind
   ·have bn:decide (a<0)=false:=by simpa using aL
    have bE:(a.natAbs:Int)=a:=by omega
    simp[bn,bj]at aq⊢
    rw[bE]at aK
    rw[aq]
    split
    ·constructor<;>grind
    ·constructor<;>grind
 refine⟨aD,?_⟩
 rw[hm,<-aD]
 by_cases aL:a<0<;>by_cases cZ:b<0
 ·have bE:(a.natAbs:Int)= -a:=by omega
  have bK:(b.natAbs:Int)= -b:=by omega
  rw[bE,bK]at aK
  simp[aL,cZ]at aq al⊢
  rw[aq,al];grind
 ·have bE:(a.natAbs:Int)= -a:=by omega
  have bK:(b.natAbs:Int)=b:=by omega
  rw[bE,bK]at aK
  simp[aL,cZ]at aq al⊢
  rw[aq,al]
  split<;>grind
 ·have bE:(a.natAbs:Int)=a:=by omega
  have bK:(b.natAbs:Int)= -b:=by omega
  rw[bE,bK]at aK
  simp[aL,cZ]at aq al⊢
  rw[aq,al]
  split<;>grind
 ·have bE:(a.natAbs:Int)=a:=by omega
  have bK:(b.natAbs:Int)=b:=by omega
  rw[bE,bK]at aK
  simp[aL,cZ]at aq al⊢
  rw[aq,al];grind
theorem acG{v w:Value}{a b:Int}{H:ad}(bE:du H v a)(bK:du H w b)(a8:Fits a)(k0:Fits b)(af:b≠0):aX prog 119 [v,w] H (fun u H1=>Ext H H1/\∃x y,u= .tuple #[x,y]/\du H1 x (a.fdiv b)/\du H1 y (a.fmod b)):=by
 refine aX.cc fun Q aD=>?_
 apply ZT (by simp)
 have RV:=bE.whole
 have RW:=bK.whole
 obtain⟨s1,b3,c4,cx,rfl⟩:=bE.shape
 obtain⟨s2,cM,c9,cN,rfl⟩:=bK.shape
 obtain⟨dg,rfl,yH,p1,zy⟩:=bE.us
 obtain⟨dq,rfl,BJ,l5,uH⟩:=bK.us
 have iV:=a8.length p1 zy
 have iq:=k0.length l5 uH
 have W5:0<dq.length:=by rw[l5.pos,uH];omega
 simp[Kg]
 have bz:Ext H (H++[.dead,.dead,.dead,.dead]):=Ext.more H (by simp)
 refine aY.mk (Qc (yH.ext bz) p1 (BJ.ext bz) l5 W5 (by omega) (by omega)) ?_
 rintro u H1 ⟨bp,q,r,ix,w5,rfl,aq,q0,uK,al,p2,n4⟩
 simp
 rw[zy,uH]at uK n4
 refine aY.mk (zY aq q0) ?_
 rintro x aT ⟨bh,J⟩
 refine⟨bh,?_⟩
 simp
 refine aY.mk (zY (al.ext bh) p2) ?_
 rintro y bS ⟨bO,aP⟩
 refine⟨bO,?_⟩
 have aZ:=J.ext bO
 simp
 refine cY.mk J.whole ?_
 simp
 refine cY.mk aP.whole ?_
 have ct:Ext H (bS++[.dead,.dead]):=(bz.av (bp.av (bh.av bO))).av (Ext.more bS (by simp))
 have cB:Ext bS (bS++[.dead,.dead]):=Ext.more bS (by simp)
 have XU:=(al.ext bh).ext (bO.av cB)
 obtain⟨ns,zm⟩:=acF (a:=a) (b:=b) (q:=_) (r:=_) af rfl rfl
 rw[uK]at aZ
 rw[n4]at aP
 have B8:0<w5.length↔¬(a.natAbs % b.natAbs=0):=by rw[p2.pos,n4];omega
 refine bV.join (by kernel_rfl) (fun cQ dQ bT=>Ext H bT/\du bT (dQ 8) (a.fdiv b)/\du bT (dQ 9) (a.fmod b)) ?_ ?_
 ·rintro K a4-
  rw[kP]
  refine bV.join (by kernel_rfl) (fun cQ dQ bT=>bT=bS++[.dead,.dead]/\∃c:Bool,cQ 38= .bool c/\(c=true↔¬(a.natAbs % b.natAbs=0\/(!(decide (a<0)==decide (b<0)))=false))) ?_ ?_
  ·rintro c5 dB-
   simp
   refine cD (by simpa using XU.row) (by simp) ?_
   simp
   refine br.b_ (fun aK=>?_) (fun aK=>?_)
   ·simp[aK]
    refine dB _ _ _ ⟨rfl,(!(decide (a<0)==decide (b<0))),by simp,?_⟩
    have:=B8.1 aK
    simp[this]
   ·simp[aK]
    refine dB _ _ _ ⟨rfl,false,by simp,?_⟩
    have:a.natAbs % b.natAbs=0:=by
     rcases Nat.eq_zero_or_pos (a.natAbs % b.natAbs)with h | h
     ·exact h
     ·exact absurd (B8.2 (by omega)) aK
    simp[this]
  ·rintro cQ dQ bT ⟨rfl,c,Mx,ag⟩
   simp at Mx
   simp[Mx]
   refine br.mk (fun gy=>?_) (fun gy=>?_)
   ·have yU:=ag.1 gy
    rw[if_neg yU]at ns zm
    try simp
    refine aY.mk (xa (by omega) (by omega)) ?_
    rintro U b7 ⟨ch,aW⟩
    refine⟨ch,?_⟩
    simp
    have f1:Fits 1:=Fits.small (by decide)
    have XP:Fits (if(!(decide (a<0)==decide (b<0)))=true then-((a.natAbs/b.natAbs:Nat):Int)else((a.natAbs/b.natAbs:Nat):Int)):=by
     have:a.natAbs/b.natAbs<=a.natAbs:=Nat.div_le_self _ _
     unfold Fits at a8⊢
     split<;>omega
    have XV:Fits (if decide (a<0)=true then-((a.natAbs % b.natAbs:Nat):Int)else((a.natAbs % b.natAbs:Nat):Int)):=by
     have:a.natAbs % b.natAbs<=a.natAbs:=Nat.mod_le _ _
     unfold Fits at a8⊢
     split<;>omega
    refine aY.mk (Q0 (aZ.ext (cB.av ch)) aW XP f1) ?_
    rintro eN dx ⟨cH,sN⟩
    refine⟨cH,?_⟩
    simp
    refine aY.mk (AY ((aP.ext (cB.av ch)).ext cH) ((bK.ext ct).ext (ch.av cH)) XV k0) ?_
    rintro nE cw ⟨c_,rk⟩
    simp
    refine cY.mk sN.whole ?_
    simp
    refine cY.mk rk.whole ?_
    rw[ns]at sN
    rw[zm]at rk
    exact a4 _ _ _ ⟨ct.av (ch.av (cH.av c_)),by simpa using sN.ext c_,by simpa using rk⟩
   ·have yU:(a.natAbs % b.natAbs=0\/(!(decide (a<0)==decide (b<0)))=false):=by
     apply Classical.byContradiction
     intro h
     rw[ag.2 h]at gy
     cases gy
    rw[if_pos yU]at ns zm
    rw[ns]at aZ
    rw[zm]at aP
    exact a4 _ _ _ ⟨ct,by simpa using aZ.ext cB,by simpa using aP.ext cB⟩
 ·rintro cQ dQ bT ⟨J,cz,fz⟩
  simp at cz fz
  simp
  refine cY.mk cz.whole ?_
  simp
  refine cY.mk fz.whole ?_
  simp[bf]
  exact aD _ _ ⟨J,_,_,rfl,cz,fz⟩
theorem Mm{v w:Value}{a b:Int}{H:ad}(bE:du H v a)(bK:du H w b)(a8:Fits a)(k0:Fits b):aX prog 102 [v,w] H (fun u H1=>Ext H H1/\du H1 u (Int.gcd a b)):=by
 refine aX.cc fun Q aD=>?_
 apply ZQ (by simp)
 have RV:=bE.whole
 have RW:=bK.whole
 obtain⟨s1,b3,c4,cx,rfl⟩:=bE.shape
 obtain⟨s2,cM,c9,cN,rfl⟩:=bK.shape
 obtain⟨dg,rfl,yH,p1,zy⟩:=bE.us
 obtain⟨dq,rfl,BJ,l5,uH⟩:=bK.us
 have iV:=a8.length p1 zy
 have iq:=k0.length l5 uH
 simp[Kf]
 have bz:Ext H (H++[.dead,.dead,.dead]):=Ext.more H (by simp)
 refine c6.mk (by kernel_rfl) (fun n az bH H1=>Ext H H1/\∃x y:List Nat,n=val y/\de H1 124 (az 5) x/\Trim x/\x.length<=1000000/\de H1 124 (az 6) y/\Trim y/\y.length<=1000000/\Nat.gcd (val x) (val y)=Int.gcd a b) (val dq) ?_ ?_
 ·exact⟨bz,dg,dq,rfl,by simpa using yH.ext bz,p1,iV,by simpa using BJ.ext bz,l5,iq,by rw[zy,uH];rfl⟩
 ·rintro n az bH H1 ⟨bp,x,y,rfl,J,BI,Gi,aP,si,wP,a1⟩ K a4
  simp at J aP
  simp
  refine cD (by simpa using aP.row) (by simp) ?_
  simp
  refine br.b_ (fun aK=>?_) (fun aK=>?_)
  ·try simp
   refine aY.mk (Qc J BI aP si aK (by omega) (by omega)) ?_
   rintro u aT ⟨bh,q,r,ix,w5,rfl,aq,q0,uK,al,p2,n4⟩
   simp
   have uM:0<val y:=(si.pos).1 aK
   refine a4 (val w5) _ _ _ (by rw[n4];exact Nat.mod_lt _ uM) ⟨bp.av bh,y,w5,rfl,by simpa using aP.ext bh,si,wP,by simpa using al,p2,?_,?_⟩
   ·refine Nat.le_trans (p2.length_le (n:=y.length) ?_) wP
    rw[n4]
    exact Nat.lt_trans (Nat.mod_lt _ uM) (kQ aP.2)
   ·rw[n4,<-a1,Nat.gcd_comm (val x) (val y),Nat.gcd_rec (val y) (val x),Nat.gcd_comm]
  ·try simp
   have wY:y=[]:=List.eq_nil_of_length_eq_zero (by omega)
   subst wY
   refine aY.mk (zY J BI) ?_
   rintro u aT ⟨bh,hu⟩
   simp
   refine cY.mk hu.whole ?_
   simp[bf]
   simp[val]at a1
   rw[a1]at hu
   exact aD _ _ ⟨bp.av bh,by simpa using hu⟩
def ck(H:ad)(v:Value)(q:Rat):Prop:=fK H v q.num q.den
instance:bM ck:=⟨fun h J=>fK.ext h J⟩
theorem ck.ext{H H1:ad}{v:Value}{q:Rat}(h:ck H v q)(J:Ext H H1):ck H1 v q:=fK.ext h J
theorem fK.whole{H:ad}{v:Value}{n d:Int}(h:fK H v n d):Whole prog 80 v:=by
 obtain⟨s1,b3,c4,cx,s2,cM,c9,cN,rfl,-⟩:=h.shape
 exact⟨by simp,by simp,by simp[e7]⟩
theorem ck.whole{H:ad}{v:Value}{q:Rat}(h:ck H v q):Whole prog 80 v:=fK.whole h
theorem ck.kept{H aI:ad}{e:Nat}{s v:Value}{q:Rat}(h:ck H v q)(ah:Kept H aI s e)(c2:124≠e):ck aI v q:=fK.kept h ah c2
theorem Fits.le{a b:Int}(a8:Fits a)(h:b.natAbs<=a.natAbs):Fits b:=Nat.lt_of_le_of_lt h a8
def dj(N:Nat)(q:Rat):Prop:=q.num.natAbs<2^N/\q.den<2^N
theorem Fits.bits{z:Int}{N:Nat}(h:z.natAbs<2^N)(bW:N<=32000000):Fits z:=by
 exact acs 1000000 h (by omega)
theorem dj.num{N:Nat}{q:Rat}(h:dj N q)(bW:N<=32000000):Fits q.num:=Fits.bits h.1 bW
theorem dj.den{N:Nat}{q:Rat}(h:dj N q)(bW:N<=32000000):Fits q.den:=Fits.bits (z:=q.den) (by simpa using h.2) bW
theorem dj.mono{N M:Nat}{q:Rat}(h:dj N q)(BA:N<=M):dj M q:=⟨Nat.lt_of_lt_of_le h.1 (Nat.pow_le_pow_right (by decide) BA),Nat.lt_of_lt_of_le h.2 (Nat.pow_le_pow_right (by decide) BA)⟩
theorem dj.int{N:Nat}{z:Int}(h:z.natAbs<2^N)(bW:0<N):dj N (z:Rat):=⟨by rw[Rat.num_intCast];exact h,by rw[Rat.den_intCast];exact Nat.one_lt_two_pow (by omega)⟩
theorem dj.neg{N:Nat}{q:Rat}(h:dj N q):dj N (-q):=⟨by rw[Rat.neg_num,Int.natAbs_neg];exact h.1,h.2⟩
theorem Bg(n:Int)(d:Nat)(aA:d≠0):(Rat.divInt n d).num=n/(Nat.gcd n.natAbs d:Nat)/\(Rat.divInt n d).den=d/Nat.gcd n.natAbs d:=by
 rw[Rat.divInt_ofNat,Rat.mkRat_def,dif_neg aA,Rat.normalize_eq aA]
 exact⟨rfl,rfl⟩
theorem dj.divInt{N:Nat}{n:Int}{d:Nat}(aA:d≠0)(aF:n.natAbs<2^N)(mI:d<2^N):dj N (Rat.divInt n d):=by
 obtain⟨o,aa⟩:=Bg n d aA
 refine⟨?_,?_⟩
 ·rw[o,Int.natAbs_ediv_of_dvd (Int.ofNat_dvd_left.2 (Nat.gcd_dvd_left _ _))]
  exact Nat.lt_of_le_of_lt (Nat.div_le_self _ _) aF
 ·rw[aa]
  exact Nat.lt_of_le_of_lt (Nat.div_le_self _ _) mI
theorem dj.add{N M:Nat}{a b:Rat}(aL:dj N a)(af:dj M b):dj (N+M+1) (a+b):=by
 rw[Rat.add_def',<-Rat.divInt_ofNat]
 have o:(a.num*b.den).natAbs<2^(N+M):=by
  rw[Int.natAbs_mul,Int.natAbs_natCast,Nat.pow_add]
  exact Nat.mul_lt_mul'' aL.1 af.2
 have aa:(b.num*a.den).natAbs<2^(N+M):=by
  rw[Int.natAbs_mul,Int.natAbs_natCast,Nat.add_comm,Nat.pow_add]
  exact Nat.mul_lt_mul'' af.1 aL.2
 refine dj.divInt (Nat.mul_ne_zero a.den_nz b.den_nz) ?_ ?_
 ·rw[Nat.pow_succ]
  have:=Int.natAbs_add_le (a.num*b.den) (b.num*a.den)
  omega
 ·have:a.den*b.den<2^(N+M):=by rw[Nat.pow_add];exact Nat.mul_lt_mul'' aL.2 af.2
  rw[Nat.pow_succ]
  omega
theorem Hl{f:FuncId}{args:List Value}{H:ad}{z:Int}(h:aX prog f args H (fun u H1=>Ext H H1/\du H1 u z)):aX prog f args H (fun u H1=>Ext H H1/\∃s a n c,u= .agg #[.bool s,.slice a n c]/\du H1 (.agg #[.bool s,.slice a n c]) z):=
 h.mono fun u H1 ⟨J,hu⟩=>by
  obtain⟨s,a,n,c,rfl⟩:=hu.shape
  exact⟨J,_,_,_,_,rfl,hu⟩
theorem Qw{v w:Value}{a b:Int}{H:ad}(bE:du H v a)(bK:du H w b)(a8:Fits a)(k0:Fits b)(af:b≠0):aX prog 119 [v,w] H (fun u H1=>Ext H H1/\∃s1 b3 c4 cx s2 cM c9 cN,u= .tuple #[.agg #[.bool s1,.slice b3 c4 cx],.agg #[.bool s2,.slice cM c9 cN]]/\du H1 (.agg #[.bool s1,.slice b3 c4 cx]) (a.fdiv b)/\du H1 (.agg #[.bool s2,.slice cM c9 cN]) (a.fmod b)):=
 (acG bE bK a8 k0 af).mono fun u H1 ⟨J,x,y,hu,o,aa⟩=>by
  obtain⟨s1,b3,c4,cx,rfl⟩:=o.shape
  obtain⟨s2,cM,c9,cN,rfl⟩:=aa.shape
  exact⟨J,_,_,_,_,_,_,_,_,hu,o,aa⟩
def xS(H:ad)(v w:Value)(n d:Int):Prop:=∃(ed:Int) (fM mC:Nat) (s1:Bool) (b3:Option Addr) (c4 cx:Nat) (s2:Bool) (cM:Option Addr) (c9 cN:Nat),v= .agg #[.bool s1,.slice b3 c4 cx]/\w= .agg #[.bool s2,.slice cM c9 cN]/\du H (.agg #[.bool s1,.slice b3 c4 cx]) ed/\du H (.agg #[.bool s2,.slice cM c9 cN]) fM/\Fits ed/\Fits fM/\Fits mC/\
 Int.gcd ed fM=mC/\0<mC/\mC<=fM/\(Rat.divInt n d).num=ed/mC/\(Rat.divInt n d).den=fM/mC/\(mC:Int)∣ed/\mC∣fM/\du H v ed/\du H w fM
theorem xS.mk'{H:ad}{v w:Value}{n d ed:Int}{fM:Nat}(bW:du H v ed)(fh:du H w fM)(Bo:Fits ed)(yd:Fits fM)(l8:fM≠0)(mM:Rat.divInt ed fM=Rat.divInt n d):xS H v w n d:=by
 have F4:0<Nat.gcd ed.natAbs fM:=Nat.gcd_pos_of_pos_right _ (by omega)
 have sq:Nat.gcd ed.natAbs fM<=fM:=Nat.le_of_dvd (by omega) (Nat.gcd_dvd_right _ _)
 obtain⟨ko,kB⟩:=Bg ed fM l8
 have NC:=Nat.gcd_dvd_left ed.natAbs fM
 have NB:=Nat.gcd_dvd_right ed.natAbs fM
 obtain⟨QK,K2,PX,Lq,rfl⟩:=bW.shape
 obtain⟨QL,K3,PY,Lr,rfl⟩:=fh.shape
 rw[mM]at ko kB
 exact⟨ed,fM,Nat.gcd ed.natAbs fM,QK,K2,PX,Lq,QL,K3,PY,Lr,rfl,rfl,bW,fh,Bo,yd,yd.le (by omega),rfl,F4,sq,ko,kB,Int.ofNat_dvd_left.2 NC,NB,bW,fh⟩
theorem acI{v w:Value}{n d:Int}{H:ad}(bE:du H v n)(bK:du H w d)(fn:Fits n)(fd:Fits d)(aA:d≠0):aX prog 106 [v,w] H (fun u H1=>Ext H H1/\ck H1 u (Rat.divInt n d)):=by
 refine aX.cc fun Q aD=>?_
 apply Z7 (by simp)
 have RV:=bE.whole
 have RW:=bK.whole
 have ym:=bE
 have UD:=bK
 obtain⟨s1,b3,c4,cx,rfl⟩:=bE.shape
 obtain⟨s2,cM,c9,cN,rfl⟩:=bK.shape
 simp[Ko]
 have bz:Ext H (H++[.dead,.dead,.dead]):=Ext.more H (by simp)
 refine bV.join (by kernel_rfl) (fun cQ dQ bT=>Ext H bT/\xS bT (dQ 2) (dQ 3) n d) ?_ ?_
 ·rintro K a4 MP
  obtain⟨dq,rfl,BJ,l5,uH⟩:=bK.us
  simp
  refine br.b_ (fun aK=>?_) (fun aK=>?_)
  ·have e:((d.natAbs:Nat):Int)= -d:=by omega
   try simp
   refine aY.mk (C5 (bE.ext bz)) ?_
   rintro x H1 ⟨bp,J⟩
   refine⟨bp,?_⟩
   simp
   refine aY.mk (C5 (bK.ext (bz.av bp))) ?_
   rintro y aT ⟨bh,aP⟩
   simp
   refine cY.mk J.whole ?_
   simp
   refine cY.mk aP.whole ?_
   refine a4 _ _ _ ⟨bz.av (bp.av bh),xS.mk' (ed:= -n) (fM:=d.natAbs) (by simpa using J.ext bh) (by rw[e];simpa using aP) fn.neg (by rw[e];exact fd.neg) (by omega) (by rw[e,Rat.neg_divInt_neg])⟩
  ·have e:((d.natAbs:Nat):Int)=d:=by omega
   exact a4 _ _ _ ⟨bz,xS.mk' (ed:=n) (fM:=d.natAbs) (by simpa using bE.ext bz) (by rw[e];simpa using bK.ext bz) fn (by rw[e];exact fd) (by omega) (by rw[e])⟩
 ·rintro cQ dQ bT ⟨b8,ed,fM,mC,QK,K2,PX,Lq,QL,K3,PY,Lr,kC,jy,bW,fh,Bo,yd,r6,T3,F4,sq,ko,kB,NC,NB,-,-⟩
  simp at kC jy
  simp[kC,jy]
  refine aY.mk (Mm bW fh Bo yd) ?_
  rintro g b7 ⟨ct,a1⟩
  rw[T3]at a1
  have f1:Fits 1:=Fits.small (by decide)
  simp
  refine cY.mk a1.whole ?_
  simp
  have cB:Ext b7 (b7++[.dead]):=Ext.dead b7
  refine aY.mk (xa (by omega) (by omega)) ?_
  rintro U dx ⟨ch,aW⟩
  refine⟨ch,?_⟩
  simp
  refine aY.mk (Hj (a1.ext (cB.av ch)) aW r6 f1) ?_
  rintro c cw ⟨cH,rfl⟩
  simp
  have G5:Ext b7 cw:=cB.av (ch.av cH)
  have lE:Ext bT cw:=ct.av G5
  refine br.b_ (fun ag=>?_) (fun ag=>?_)
  ·have nj:mC=1:=by
    by_cases o:(mC:Int)<1
    ·omega
    ·rw[if_neg o]at ag
     split at ag
     ·omega
     ·cases ag
   rw[nj]at ko kB
   simp only[Int.natCast_one,Int.ediv_one,Nat.div_one]at ko kB
   simp[kC,jy]
   simp[bf]
   refine aD _ _ ⟨b8.av lE,_,_,_,_,rfl,?_,?_⟩
   ·rw[ko];exact bW.ext lE
   ·rw[kB];exact fh.ext lE
  ·try simp
   have ND:(mC:Int)≠0:=by omega
   simp[kC,jy]
   refine aY.mk (Qw (bW.ext lE) (a1.ext G5) Bo r6 ND) ?_
   rintro u dW ⟨c_,t1,gT,ji,bn,t2,kX,Hw,bj,rfl,zg,zl⟩
   simp[jy]
   have fq:Ext dW (dW++[.dead,.dead]):=Ext.more dW (by simp)
   have G6:=c_.av fq
   refine aY.mk (Qw (fh.ext (lE.av G6)) (a1.ext (G5.av G6)) yd r6 ND) ?_
   rintro u eH ⟨e4,t3,tA,Hx,fT,t4,K9,PG,lp,rfl,pd,ra⟩
   simp
   have e5:Ext eH (eH++[.dead,.dead]):=Ext.more eH (by simp)
   have Oh:=zg.ext (fq.av (e4.av e5))
   have Oj:=pd.ext e5
   have bn:ed.fdiv mC=(Rat.divInt n d).num:=by rw[ko,Int.fdiv_eq_ediv_of_nonneg _ (by omega)]
   have bj:(fM:Int).fdiv mC=((Rat.divInt n d).den:Int):=by rw[kB,Int.fdiv_eq_ediv_of_nonneg _ (by omega)];rfl
   rw[bn]at Oh
   rw[bj]at Oj
   simp[bf]
   exact aD _ _ ⟨b8.av (lE.av (G6.av (e4.av e5))),_,_,_,_,rfl,Oh,Oj⟩
theorem acQ{v:Value}{a:Rat}{H:ad}(bE:ck H v a):aX prog 109 [v] H (fun u H1=>Ext H H1/\ck H1 u (-a)):=by
 refine aX.cc fun Q aD=>?_
 apply Z2 (by simp)
 obtain⟨s1,b3,c4,cx,s2,cM,c9,cN,rfl,bW,fh⟩:=fK.shape bE
 simp[Kl]
 have bz:Ext H (H++[.dead,.dead]):=Ext.more H (by simp)
 refine aY.mk (Hl (C5 (bW.ext bz))) ?_
 rintro u H1 ⟨bp,mU,d_,j4,eg,rfl,hu⟩
 refine⟨bp,?_⟩
 simp[bf]
 refine aD _ _ ⟨bz.av bp,_,_,_,_,rfl,?_,fh.ext (bz.av bp)⟩
 rw[Rat.neg_num];exact hu
theorem HV{v w:Value}{a b:Rat}{N M:Nat}{H:ad}(bE:ck H v a)(bK:ck H w b)(aj:dj N a)(lI:dj M b)(bW:N+M+1<=32000000):aX prog 77 [v,w] H (fun u H1=>Ext H H1/\ck H1 u (a+b)):=by
 refine aX.cc fun Q aD=>?_
 apply ZZ (by simp)
 obtain⟨s1,b3,c4,cx,s2,cM,c9,cN,rfl,tS,lv⟩:=fK.shape bE
 obtain⟨mU,d_,j4,eg,rE,oI,HC,qK,rfl,yw,iS⟩:=fK.shape bK
 simp[Kj]
 have bz:Ext H (H++[.dead,.dead,.dead]):=Ext.more H (by simp)
 refine bV.join (by kernel_rfl) (fun cQ dQ bT=>Ext H bT/\cQ 10= .bool (decide (a.den=1/\b.den=1))) ?_ ?_
 ·rintro K a4-
  simp
  refine aY.mk (Hm (fK.ext bE bz) (by have:=a.den_pos;omega)) ?_
  rintro u H1 ⟨bp,rfl⟩
  simp
  refine br.b_ (fun ag=>?_) (fun ag=>?_)
  ·simp[ag]
   refine aY.mk (Hm (fK.ext bK (bz.av bp)) (by have:=b.den_pos;omega)) ?_
   rintro u aT ⟨bh,rfl⟩
   simp[ag]
   have hh:a.den=1:=by omega
   refine a4 _ _ _ ⟨bz.av (bp.av bh),?_⟩
   simp[hh]
   have:((b.den:Int)=1)↔b.den=1:=by omega
   simp[this]
  ·simp[ag]
   have hh:¬a.den=1:=by omega
   exact a4 _ _ _ ⟨bz.av bp,by simp[hh]⟩
 ·rintro cQ dQ bT ⟨b8,fy⟩
  simp only[g_]at fy
  simp at fy
  have a8:=aj.num (by omega)
  have k0:=lI.num (by omega)
  have Mc:=aj.den (by omega)
  have Md:=lI.den (by omega)
  simp[fy]
  refine br.mk (fun ag=>?_) (fun ag=>?_)
  ·simp at ag
   simp
   refine aY.mk (AY (tS.ext b8) (yw.ext b8) a8 k0) ?_
   rintro u b7 ⟨ct,hu⟩
   simp
   refine aY.mk (Um hu) ?_
   rintro u dx ⟨cB,wW⟩
   simp
   refine cY.mk (fK.whole wW) ?_
   simp[bf]
   refine aD _ _ ⟨b8.av (ct.av cB),?_⟩
   have e:a+b=((a.num+b.num:Int):Rat):=by
    rw[Rat.intCast_add]
    congr 1
    ·exact Rat.ext rfl ag.1
    ·exact Rat.ext rfl ag.2
   show fK _ _ _ _
   rw[e,Rat.num_intCast,Rat.den_intCast]
   exact wW
  ·try simp
   refine aY.mk (z4 (tS.ext b8) (iS.ext b8) a8 Md) ?_
   rintro x b7 ⟨ct,J⟩
   refine⟨ct,?_⟩
   simp
   refine aY.mk (z4 (yw.ext (b8.av ct)) (lv.ext (b8.av ct)) k0 Mc) ?_
   rintro y dx ⟨cB,aP⟩
   refine⟨cB,?_⟩
   have gT:(a.num*b.den).natAbs<2^(N+M):=by
    rw[Int.natAbs_mul,Int.natAbs_natCast,Nat.pow_add];exact Nat.mul_lt_mul'' aj.1 lI.2
   have kX:(b.num*a.den).natAbs<2^(N+M):=by
    rw[Int.natAbs_mul,Int.natAbs_natCast,Nat.add_comm,Nat.pow_add];exact Nat.mul_lt_mul'' lI.1 aj.2
   have tA:((a.den:Int)*b.den).natAbs<2^(N+M):=by
    rw[Int.natAbs_mul,Int.natAbs_natCast,Int.natAbs_natCast,Nat.pow_add];exact Nat.mul_lt_mul'' aj.2 lI.2
   simp
   refine aY.mk (AY (J.ext cB) aP (Fits.bits gT (by omega)) (Fits.bits kX (by omega))) ?_
   rintro z cw ⟨ch,aQ⟩
   refine⟨ch,?_⟩
   simp
   have lE:=b8.av (ct.av (cB.av ch))
   refine aY.mk (z4 (lv.ext lE) (iS.ext lE) Mc Md) ?_
   rintro w dW ⟨cH,hw⟩
   simp
   have K9:(a.num*b.den+b.num*a.den).natAbs<2^(N+M+1):=by
    have:=Int.natAbs_add_le (a.num*b.den) (b.num*a.den)
    rw[Nat.pow_succ];omega
   refine aY.mk (acI (aQ.ext cH) hw (Fits.bits K9 (by omega)) (Fits.bits tA (by omega)) (by have:=Nat.mul_ne_zero a.den_nz b.den_nz;exact_mod_cast this)) ?_
   rintro w eH ⟨c_,CK⟩
   simp
   refine cY.mk CK.whole ?_
   simp[bf]
   refine aD _ _ ⟨lE.av (cH.av c_),?_⟩
   rw[Rat.add_def',<-Rat.divInt_ofNat]
   simpa using CK
theorem Qq{v w:Value}{a b:Rat}{N:Nat}{H:ad}(bE:ck H v a)(bK:ck H w b)(aj:dj N a)(lI:dj N b)(bW:N<=1000000):aX prog 77 [v,w] H (fun u H1=>Ext H H1/\ck H1 u (a+b)):=HV bE bK aj lI (by omega)
theorem HX{v w:Value}{a b:Rat}{N:Nat}{H:ad}(bE:ck H v a)(bK:ck H w b)(aj:dj N a)(lI:dj N b)(bW:N<=1000000):aX prog 87 [v,w] H (fun u H1=>Ext H H1/\ck H1 u (a-b)):=by
 refine aX.cc fun Q aD=>?_
 apply Z6 (by simp)
 obtain⟨s1,b3,c4,cx,s2,cM,c9,cN,rfl,tS,lv⟩:=fK.shape bE
 obtain⟨mU,d_,j4,eg,rE,oI,HC,qK,rfl,yw,iS⟩:=fK.shape bK
 simp[Kn]
 have bz:Ext H (H++[.dead,.dead,.dead]):=Ext.more H (by simp)
 refine aY.mk (acQ (bK.ext bz)) ?_
 rintro u H1 ⟨bp,hu⟩
 refine⟨bp,?_⟩
 simp
 refine aY.mk (Qq (bE.ext (bz.av bp)) hu aj lI.neg bW) ?_
 rintro w aT ⟨bh,hw⟩
 simp
 refine cY.mk hw.whole ?_
 simp[bf]
 refine aD _ _ ⟨bz.av (bp.av bh),?_⟩
 rw[Rat.sub_eq_add_neg]
 exact hw
theorem Qr{v w:Value}{a b:Rat}{N M:Nat}{H:ad}(bE:ck H v a)(bK:ck H w b)(aj:dj N a)(lI:dj M b)(bW:N+M+1<=32000000):aX prog 35 [v,w] H (fun u H1=>Ext H H1/\u= .int .i64 (if a<b then-1 else if a=b then 0 else 1)):=by
 refine aX.cc fun Q aD=>?_
 apply Z0 (by simp)
 obtain⟨s1,b3,c4,cx,s2,cM,c9,cN,rfl,tS,lv⟩:=fK.shape bE
 obtain⟨mU,d_,j4,eg,rE,oI,HC,qK,rfl,yw,iS⟩:=fK.shape bK
 simp[Kk]
 have bz:Ext H (H++[.dead,.dead]):=Ext.more H (by simp)
 refine aY.mk (z4 (tS.ext bz) (iS.ext bz) (aj.num (by omega)) (lI.den (by omega))) ?_
 rintro x H1 ⟨bp,J⟩
 refine⟨bp,?_⟩
 simp
 refine aY.mk (z4 (yw.ext (bz.av bp)) (lv.ext (bz.av bp)) (lI.num (by omega)) (aj.den (by omega))) ?_
 rintro y aT ⟨bh,aP⟩
 have gT:(a.num*b.den).natAbs<2^(N+M):=by
  rw[Int.natAbs_mul,Int.natAbs_natCast,Nat.pow_add];exact Nat.mul_lt_mul'' aj.1 lI.2
 have kX:(b.num*a.den).natAbs<2^(N+M):=by
  rw[Int.natAbs_mul,Int.natAbs_natCast,Nat.add_comm,Nat.pow_add];exact Nat.mul_lt_mul'' lI.1 aj.2
 simp
 refine aY.mk (Hj (J.ext bh) aP (Fits.bits gT (by omega)) (Fits.bits kX (by omega))) ?_
 rintro c bS ⟨bO,rfl⟩
 simp[bf]
 refine aD _ _ ⟨bz.av (bp.av (bh.av bO)),?_⟩
 simp only[Rat.lt_iff,Rat.eq_iff_mul_eq_mul]
theorem xh{v w:Value}{a b:Rat}{N:Nat}{H:ad}(bE:ck H v a)(bK:ck H w b)(aj:dj N a)(lI:dj N b)(bW:N<=1000000):aX prog 35 [v,w] H (fun u H1=>Ext H H1/\u= .int .i64 (if a<b then-1 else if a=b then 0 else 1)):=Qr bE bK aj lI (by omega)
theorem HW{v:Value}{a:Rat}{H:ad}(bE:ck H v a):aX prog 75 [v] H (fun u H1=>Ext H H1/\u= .int .i64 (if a<0 then-1 else if a=0 then 0 else 1)):=
 (acV bE).mono fun u H1 ⟨J,hu⟩=>⟨J,by
  rw[hu]
  have o:a.num=0↔a=0:=Rat.num_eq_zero
  have aa:0<=a.num↔0<=a:=Rat.num_nonneg
  have aE:a.num<0↔a<0:=by rw[<-Int.not_le,aa,Rat.not_le]
  simp only[o,aE]⟩
theorem Aa{n:Int}{H:ad}(o: -9223372036854775808<=n)(aa:n<9223372036854775808):aX prog 59 [.int .i64 n] H (fun u H1=>Ext H H1/\ck H1 u (n:Rat)):=
 (agM o aa).mono fun u H1 ⟨J,hu⟩=>⟨J,by show fK _ _ _ _;rw[Rat.num_intCast,Rat.den_intCast];exact hu⟩
theorem adv{v:Value}{a:Int}{H:ad}(bE:du H v a)(aG:a.natAbs<=4611686018427387904):aX prog 37 [v] H (fun u H1=>Ext H H1/\u= .tuple #[.int .i64 a,.bool true]):=by
 refine aX.cc fun Q aD=>?_
 apply ZV (by simp)
 obtain⟨s1,b3,c4,cx,rfl⟩:=bE.shape
 obtain⟨l,rfl,ey,bd,an⟩:=bE.us
 have au:l.length<=2:=bd.length_le (by rw[an];omega)
 simp[Kh]
 have bz:Ext H (H++[.dead]):=Ext.more H (by simp)
 refine cD (by simpa using(ey.ext bz).row) (by simp) ?_
 simp
 refine br.b_ (fun ag=>by omega) (fun ag=>?_)
 try simp
 refine cD (by simpa using(ey.ext bz).row) (by simp) ?_
 simp
 refine c6.range (by kernel_rfl) l.length (by omega) (by simp) (by rfl) (by simp) (by decide) (by decide) (fun i bU dd aT=>aT=H++[.dead]/\∃n:Nat,bU 4= .int .u64 n/\n=val (l.take i)) ?_ ?_ ?_
 ·exact⟨rfl,0,by simp,by simp[val]⟩
 ·rintro i bU dd aT ab a7 ⟨rfl,n,bA,aF⟩ K a4
  simp at a7 bA
  simp[a7]
  obtain⟨y,aP⟩:∃y,l[i]?.getD 0=y:=⟨_,rfl⟩
  have zN:l[i]?=some y:=by rw[<-aP,bs ab];rfl
  have ql:y<4294967296:=aP▸ey.lt i
  refine cF (ae:=gE) (n:=i) (by simpa using(ey.ext bz).row) (by simp[a7]) zN (by simp) (by simp) (by simp) (.inr rfl) ?_
  rintro p u ⟨rfl,-⟩
  have sP:IntKind.u64.wrap (y:Int)=(y:Int):=gI (by omega) (by omega)
  have hk:val (l.take (i+1))=n+4294967296^i*y:=by rw[jK,aP,<-aF]
  have jz:n<4294967296^i:=by
   rw[aF]
   have:=kQ (l:=l.take i) fun x J=>ey.2 x (List.mem_of_mem_take J)
   rwa[List.length_take,Nat.min_eq_left (by omega)]at this
  rcases(show i=0\/i=1 by omega)with rfl | rfl
  ·have Xu:n=0:=by simp at jz;exact jz
   subst Xu
   have Cj:rz (0:Int) (y:Int)=(y:Int):=by
    have:=xd (r:=0) (by decide) ql
    simpa using this
   have Gj:IntKind.i64.wrap 0=0:=by decide
   simp[a7,bA,sP,Gj,Cj]
   exact a4 _ _ _ (by simp[a7]) ⟨rfl,y,by simp,by rw[hk];simp⟩
  ·have Gj:IntKind.i64.wrap 32=32:=by decide
   obtain⟨s,ao⟩:∃s,y*4294967296=s:=⟨_,rfl⟩
   have iX:IntKind.u64.wrap ((y:Int)*4294967296)=(s:Int):=by rw[gI (by omega) (by omega)];omega
   have aN:=xd (r:=y) ql (show n<4294967296 by simpa using jz)
   rw[ao]at aN
   obtain⟨t,bG⟩:∃t,s+n=t:=⟨_,rfl⟩
   have mK:rz (n:Int) (s:Int)=(t:Int):=by
    rw[<-bG,<-aN];unfold rz;congr 2;rw[BitVec.or_comm]
   simp[a7,bA,sP,Gj,iX,mK]
   exact a4 _ _ _ (by simp[a7]) ⟨rfl,t,by simp,by rw[hk];omega⟩
 ·rintro bU dd aT a7 ⟨rfl,n,bA,aF⟩
  rw[List.take_length,an]at aF
  simp at bA
  simp[bA]
  refine br.b_ (fun ag=>by omega) (fun ag=>?_)
  try simp
  have N5:IntKind.i64.wrap (n:Int)=(n:Int):=b2 (by omega) (by omega)
  refine br.b_ (fun aL=>?_) (fun aL=>?_)
  ·have q8:IntKind.i64.wrap (-(n:Int))= -(n:Int):=b2 (by omega) (by omega)
   simp[bA,N5,q8,bf]
   refine aD _ _ ⟨bz,?_⟩
   congr 4
   omega
  ·simp[bA,N5,bf]
   refine aD _ _ ⟨bz,?_⟩
   congr 4
   omega
def cv(l:List Nat):ByteArray:=⟨(l.map UInt8.ofNat).toArray⟩
def Bytes(l:List Nat):Prop:=∀x∈l,x<256
theorem kc(l:List Nat):(cv l).size=l.length:=by simp[cv,ByteArray.size]
theorem SK(l:List Nat)(h:Bytes l)(i:Nat)(ab:i<l.length):((cv l).data.getD i 0).toNat=l[i]?.getD 0:=by
 have J:=h l[i] (List.getElem_mem ab)
 simp only[cv,Array.getD_eq_getD_getElem?,List.getElem?_toArray,List.getElem?_map,bs ab,Option.map_some,Option.getD_some]
 simp[UInt8.toNat_ofNat,Nat.mod_eq_of_lt J]
theorem vB(l:List Nat):(cv l).toList=l.map UInt8.ofNat:=by
 rw[ByteArray.toList_eq]
 simp[cv]
theorem SJ(a b:List Nat):cv a++cv b=cv (a++b):=by
 apply ByteArray.ext
 simp[cv]
theorem r0(l:List Nat)(i j:Nat):(cv l).extract i j=cv ((l.drop i).take (j-i)):=by
 apply ByteArray.ext
 simp[cv,List.map_drop,List.map_take]
theorem ofNat_inj{x y:Nat}(J:x<256)(aP:y<256)(h:UInt8.ofNat x=UInt8.ofNat y):x=y:=by
 have:=congrArg UInt8.toNat h
 simpa[UInt8.toNat_ofNat,Nat.mod_eq_of_lt J,Nat.mod_eq_of_lt aP]using this
theorem Ln{a b:List Nat}(aL:Bytes a)(af:Bytes b):((cv a).toList==(cv b).toList)=decide (a=b):=by
 rw[vB,vB]
 by_cases h:a=b
 ·subst h;simp
 ·rw[decide_eq_false h,beq_eq_false_iff_ne]
  intro e
  apply h
  apply List.ext_getElem?
  intro i
  have:=congrArg (fun l:List UInt8=>l[i]?) e
  simp only[List.getElem?_map]at this
  cases o:a[i]? with
  | none=>
   cases aa:b[i]? with
   | none=>rfl
   | some y=>rw[o,aa]at this;cases this
  | some x=>
   cases aa:b[i]? with
   | none=>rw[o,aa]at this;simp at this
   | some y=>
    rw[o,aa]at this
    simp only[Option.map_some,Option.some.injEq]at this
    rw[ofNat_inj (aL x (List.mem_of_getElem? o)) (af y (List.mem_of_getElem? aa)) this]
theorem QZ(l:List Nat):strOfNums (l.map fun n:Nat=>(n:Int))=cv l:=by
 apply ByteArray.ext
 simp[strOfNums,cv]
def nK(H:ad)(v:Value)(n:Nat):Prop:=v= .int .u8 (n:Int)/\n<256
instance:bM nK:=⟨fun h _=>h⟩
theorem IU(n:Int):Whole prog 5 (.int .u8 n):=⟨by kernel_rfl,rfl,by rw[if_neg (by simp[e7])];exact⟨by kernel_rfl,rfl⟩⟩
theorem Row.bytes{H:ad}{e:Nat}{v:Value}{l:List Nat}(h:Row e 1 false nK H v l):eA H e 1 v l.length ((l.map fun n:Nat=>(n:Int)).map (Value.int .u8))/\Bytes l:=by
 obtain⟨cs,o,aa⟩:=h
 have gp:cs=(l.map fun n:Nat=>(n:Int)).map (Value.int .u8):=by
  obtain⟨a,cap,an,aE,bA,bQ⟩:=o
  apply List.ext_getElem?
  intro i
  by_cases ab:i<l.length
  ·have:=(aa i _ (bs ab)).1
   simp only[eI,Bool.false_eq_true,if_false]at this
   rw[bs (by omega)]at this⊢
   simp only[Option.getD_some]at this
   rw[this]
   simp[bs ab]
  ·rw[List.getElem?_eq_none (by omega),List.getElem?_eq_none (by simp;omega)]
 subst gp
 exact⟨o,fun x J=>by obtain⟨i,ab⟩:=List.getElem?_of_mem J;exact(aa i x ab).2⟩
theorem acP{k:Nat}{v:Value}{xs:List Nat}{H:ad}(cR:bB k 5 1 false nK H v xs)(au:xs.length<4611686018427387904):
  aX prog 108 [v] H (fun u H1=>u= .tuple #[]/\bB k 5 1 false nK H1 v xs.reverse/\∀cJ:ad,cJ.length<=k->Ext cJ H->Ext cJ H1):=by
 refine aX.cc fun Q aD=>?_
 apply aaU (by simp)
 simp[KU]
 refine cD (by simpa using cR.row) (by simp) ?_
 have aF:IntKind.i64.wrap ((xs.length:Int)-1)=(xs.length:Int)-1:=b2 (by omega) (by omega)
 simp[aF]
 refine c6.mk (by kernel_rfl) (fun m az bH H1=>∃(i:Nat) (bY:List Nat),m=xs.length-2*i/\az 2= .int .i64 i/\az 3= .int .i64 ((xs.length:Int)-1-i)/\i<=xs.length/\2*i<=xs.length+1/\bB k 5 1 false nK H1 v bY/\bY.length=xs.length/\(∀cJ:ad,cJ.length<=k->Ext cJ H->Ext cJ H1)/\
  ∀j,j<xs.length->bY[j]?=if j<i\/xs.length-1-i<j then xs[xs.length-1-j]? else xs[j]?) xs.length ?_ ?_
 ·refine⟨0,xs,by omega,by simp,by simp,by omega,by omega,cR,rfl,fun _ _ h=>h,fun j aN=>?_⟩
  rw[if_neg (by omega)]
 ·rintro m az bH H1 ⟨i,bY,rfl,aa,aE,ab,iU,jv,ql,bp,n7⟩ K a4
  simp at aa aE
  simp[aa,aE]
  refine br.b_ (fun ag=>?_) (fun ag=>?_)
  ·obtain⟨j,aN⟩:∃j,xs.length-1-i=j:=⟨_,rfl⟩
   have fA:(xs.length:Int)-1-i=(j:Int):=by omega
   rw[fA]at aE ag
   obtain⟨a,aL⟩:∃a,bY[j]?=some a:=⟨_,bs (by omega)⟩
   obtain⟨b,af⟩:∃b,bY[i]?=some b:=⟨_,bs (by omega)⟩
   have bn:IntKind.i64.wrap ((i:Int)+1)=(i:Int)+1:=b2 (by omega) (by omega)
   have bj:IntKind.i64.wrap ((j:Int)-1)=(j:Int)-1:=b2 (by omega) (by omega)
   try simp
   simp[aa,aE]
   refine cF (ae:=nK) (n:=j) (by simpa using jv.row) (by simp) aL (by simp) (by simp) (by simp) (.inr rfl) ?_
   rintro dh qx ⟨rfl,VZ⟩
   simp[aa,aE]
   refine cF (ae:=nK) (n:=i) (by simpa using jv.row) (by simp) af (by simp) (by simp) (by simp) (.inr rfl) ?_
   rintro gZ mr ⟨rfl,yR⟩
   refine ja (ae:=nK) (n:=i) (a:=a) (by simpa using jv) (by simp) (by omega) ⟨by simp,VZ⟩ (by simpa using IU _) (by simp) (fun _ _ _ _ _ h=>h) (by simp) (by simp) (by simp) (by decide) ?_
   rintro fP aT fU bh- - -
   simp at fU
   refine ja (ae:=nK) (n:=j) (a:=b) (by simpa using fU) (by simp) (by simp;omega) ⟨by simp,yR⟩ (by simpa using IU _) (by simp) (fun _ _ _ _ _ h=>h) (by simp) (by simp) (by simp) (by decide) ?_
   rintro ho bS iD bO- - -
   simp at iD
   simp[aa,aE,bn,bj]
   refine a4 (xs.length-2*(i+1)) _ _ _ (by omega) ⟨i+1,_,rfl,by simp,by simp;omega,by omega,by omega,by simpa using iD,by simp[ql],fun cJ aG J=>bO cJ aG (bh cJ aG (bp cJ aG J)),fun t bG=>?_⟩
   have Pf:=n7 j (by omega)
   have wZ:=n7 i (by omega)
   rw[if_neg (by omega),aL]at Pf
   rw[if_neg (by omega),af]at wZ
   by_cases CG:t=j
   ·subst CG
    rw[List.getElem?_set_self (by simp;omega),if_pos (by omega),show xs.length-1-t=i by omega,wZ]
   ·rw[List.getElem?_set_ne (Ne.symm CG)]
    by_cases CF:t=i
    ·subst CF
     rw[List.getElem?_set_self (by omega),if_pos (by omega),aN,Pf]
    ·rw[List.getElem?_set_ne (Ne.symm CF),n7 t bG]
     by_cases aq:t<i\/xs.length-1-i<t
     ·rw[if_pos aq,if_pos (by omega)]
     ·rw[if_neg aq,if_neg (by omega)]
  ·try simp
   simp[bf]
   refine aD _ _ ⟨rfl,?_,bp⟩
   have:bY=xs.reverse:=by
    apply List.ext_getElem?
    intro t
    by_cases bG:t<xs.length
    ·rw[n7 t bG,List.getElem?_reverse bG]
     split
     ·rfl
     ·have:t=xs.length-1-t:=by omega
      rw[<-this]
    ·rw[List.getElem?_eq_none (by omega),List.getElem?_eq_none (by simp;omega)]
   rw[<-this]
   exact jv
def jG(n:Nat):List Nat:=if h:n=0 then[]else(48+n % 10)::jG (n/10)
termination_by n
decreasing_by omega
theorem xk:jG 0=[]:=by unfold jG;simp
theorem Dk{n:Nat}(h:0<n):jG n=(48+n % 10)::jG (n/10):=by
 conv=>lhs;unfold jG
 rw[dif_neg (by omega)]
theorem acJ(n:Nat):Bytes (jG n):=by
 induction n using Nat.strongRecOn with
 | _ n a2=>
  rcases Nat.eq_zero_or_pos n with h | h
  ·subst h;rw[xk];intro x J;cases J
  ·rw[Dk h]
   intro x J
   rcases List.mem_cons.1 J with rfl | J
   ·omega
   ·exact a2 (n/10) (by omega) x J
theorem Qz(n k:Nat)(h:n<10^k):(jG n).length<=k:=by
 induction k generalizing n with
 | zero=>simp at h;subst h;rw[xk];simp
 | succ k a2=>
  rcases Nat.eq_zero_or_pos n with aG | aG
  ·subst aG;rw[xk];simp
  ·rw[Dk aG]
   simp only[List.length_cons]
   have:=a2 (n/10) (by rw[Nat.pow_succ]at h;omega)
   omega
def dec(n:Nat):List Nat:=if n=0 then[48]else(jG n).reverse
theorem LP(n:Nat):Bytes (dec n):=by
 unfold dec
 split
 ·intro x J;simp at J;omega
 ·intro x J;exact acJ n x (by simpa using J)
@[simp] theorem ai4:hy undef=none:=rfl
@[simp] theorem ah9(w:Bool)(cy c5:Prop)(ax:bc cy c5):pK cy c5 ax none w=c5:=by unfold pK ow;simp
theorem adP{v:Value}{x:List Nat}{H:ad}(aZ:de H 124 v x)(bd:Trim x)(au:x.length<=1000000):aX prog 78 [v] H (fun u H1=>Ext H H1/\u= .string (cv (dec (val x)))):=by
 refine aX.cc fun Q aD=>?_
 apply aah (by simp)
 simp[Kt]
 refine cD (by simpa using aZ.row) (by simp) ?_
 simp
 refine br.b_ (fun ag=>?_) (fun ag=>?_)
 ·have bz:x=[]:=by simpa using ag
  subst bz
  simp[bf]
  exact aD _ _ ⟨Ext.refl _,by rw[show dec (val [])=[48]from by simp[dec,val]];rfl⟩
 try simp
 have iu:0<val x:=bd.pos.1 (by
  rcases Nat.eq_zero_or_pos x.length with h | h
  ·exact absurd (by simpa using h) ag
  ·exact h)
 have akn:(jG (val x)).length<100000000:=by
  have o:=acx 1000000 (kQ aZ.2) au
  have:=Qz _ _ o
  omega
 refine c6.mk (by kernel_rfl) (fun n az bH H1=>Ext H H1/\∃(y b:List Nat),n=val y/\de H1 124 (az 0) y/\Trim y/\y.length<=1000000/\bB H.length 5 1 false nK H1 (az 3) b/\jG (val x)=b++jG (val y)) (val x) ?_ ?_
 ·exact⟨Ext.refl _,x,[],rfl,by simpa using aZ,bd,au,by simpa using bB.nil _ _ _ _ _ _,rfl⟩
 ·rintro n az bH H1 ⟨bp,y,b,rfl,aP,si,wP,af,aA⟩ K a4
  simp at aP af
  simp
  refine cD (by simpa using aP.row) (by simp) ?_
  simp
  refine br.b_ (fun aK=>?_) (fun aK=>?_)
  ·try simp
   have uM:0<val y:=si.pos.1 aK
   refine aY.mk (Lp (w:=1000000000) aP (by omega) (by decide) (by decide)) ?_
   rintro u aT ⟨bh,q,ix,rfl,aq,q0,uK⟩
   obtain⟨eF,fp⟩:∃eF,val y % 1000000000=eF:=⟨_,rfl⟩
   have XT:eF<1000000000:=by rw[<-fp];exact Nat.mod_lt _ (by decide)
   rw[fp]
   simp
   have eZ:val y=val ix*1000000000+eF:=by have:=Nat.div_add_mod (val y) 1000000000;rw[uK];omega
   refine c6.mk (by kernel_rfl) (fun m di ev bS=>de bS 124 q ix/\Ext H bS/\∃(r:Nat) (cg:List Nat),m<=9/\di 6= .int .i64 ((9-m:Nat):Int)/\di 5= .int .u32 r/\r<10^m/\bB H.length 5 1 false nK bS (di 3) cg/\jG (val x)=cg++jG (val ix*10^m+r)) 9 ?_ ?_
   ·refine⟨aq,bp.av bh,eF,b,by omega,by simp,by simp,by omega,by simpa using bM.ext af bh,?_⟩
    rw[aA,eZ]
   ·rintro m di ev bS ⟨bO,zI,r,cg,hm,dY,bQ,al,cZ,l8⟩ c5 dB
    simp at dY bQ cZ
    simp only[kP]
    refine bV.join (by kernel_rfl) (fun cQ dQ bT=>bT=bS/\∃c:Bool,cQ 28= .bool c/\(c=true↔0<m/\(0<ix.length\/0<r))) ?_ ?_
    ·rintro ln eW-
     rcases Nat.eq_zero_or_pos m with aG | aG
     ·have yc:(((9-m:Nat):Int)<9)=False:=by simp;omega
      simp[dY,yc]
      refine eW _ _ _ ⟨rfl,false,by simp,?_⟩
      simp[aG]
     ·have yc:(((9-m:Nat):Int)<9)=True:=by simp;omega
      simp[dY,yc]
      refine cD (by simpa using bO.row) (by simp) ?_
      rcases Nat.eq_zero_or_pos ix.length with q4 | q4
      ·simp[dY,yc,q4,bQ]
       refine eW _ _ _ ⟨rfl,decide (0<r),by simp,?_⟩
       simp[aG,q4]
      ·have TS:((0:Int)<(ix.length:Int))=True:=by simp;omega
       simp[dY,yc,q4,TS]
       refine eW _ _ _ ⟨rfl,true,by simp,?_⟩
       simp[aG,q4]
    ·rintro cQ dQ bT ⟨rfl,c,qR,ag⟩
     simp at qR
     simp[qR]
     refine br.mk (fun gy=>?_) (fun gy=>?_)
     ·have yT:=ag.1 gy
      obtain⟨ny,rfl⟩:∃ny,m=ny+1:=⟨m-1,by omega⟩
      try simp
      have bn:IntKind.u32.wrap (48+((r % 10:Nat):Int))=((48+r % 10:Nat):Int):=by rw[mZ (by omega) (by omega)];omega
      have bj:((r:Int).tmod 10)=((r % 10:Nat):Int):=rfl
      have fT:((r:Int).tdiv 10)=((r/10:Nat):Int):=rfl
      obtain⟨Bf,wB⟩:∃Bf,r % 10=Bf:=⟨_,rfl⟩
      obtain⟨dG,fW⟩:∃dG,r/10=dG:=⟨_,rfl⟩
      rw[wB]at bn bj
      rw[fW]at fT
      obtain⟨vF,Nn⟩:∃vF,48+Bf=vF:=⟨_,rfl⟩
      rw[Nn]at bn
      have lB:r<4294967296:=by
       have:10^(ny+1)<=10^9:=Nat.pow_le_pow_right (by decide) hm
       omega
      have lp:IntKind.u8.wrap (vF:Int)=(vF:Int):=D0 (by omega) (by omega)
      have nO:IntKind.u32.wrap (dG:Int)=(dG:Int):=mZ (by omega) (by omega)
      simp[bQ,bn,bj,lp]
      refine rJ (ae:=nK) (xs:=cg) (a:=vF) (k:=H.length) (e:=5) (R:=1) (bI:=1) (ay:=false) (z:= .int .u8 0) (by simpa using cZ) ⟨by simp,by omega⟩ (by simpa using IU _) (by simp) (fun _ _ _ _ _ h=>h) (by simp) (by simp) (by simp) (by simp) (by simp) (by simp) (by simp) (by rfl) (by rfl) (by decide) (by decide) (by decide) ?_ (Ext.len zI) ?_
      ·have:cg.length<=(jG (val x)).length:=by rw[l8];simp
       omega
      rintro p aw b7 l3 ct F_
      have oP:IntKind.i64.wrap (((9-(ny+1):Nat):Int)+1)=((9-ny:Nat):Int):=by rw[b2 (by omega) (by omega)];omega
      simp at oP
      simp[bQ,fT,nO,dY,oP]
      obtain⟨P,hA⟩:∃P,10^ny=P:=⟨_,rfl⟩
      have BD:10^(ny+1)=P*10:=by rw[Nat.pow_succ,hA]
      rw[BD]at al l8
      have Vm:0<P:=by rw[<-hA];exact Nat.pow_pos (by decide)
      refine dB ny _ _ _ (by omega) ⟨⟨bO.1.kept F_ (by decide),bO.2⟩,ct _ (Nat.le_refl _) zI,dG,cg++[vF],by omega,by simp[oP],by simp,by rw[hA];omega,by simpa using l3,?_⟩
      rw[hA]
      rw[l8]
      have cf:val ix*(P*10)+r=(val ix*P)*10+r:=by rw[Nat.mul_assoc]
      rw[cf]
      rw[Dk (n:=(val ix*P)*10+r) (by
       rcases yT.2 with h | h
       ·have cz:=q0.pos.1 h
        have fz:=Nat.mul_pos cz Vm
        omega
       ·omega)]
      have fy:(val ix*P*10+r) % 10=Bf:=by omega
      have nb:(val ix*P*10+r)/10=val ix*P+dG:=by omega
      rw[fy,nb,Nn]
      simp
     ·try simp
      have U7:val ix*10^m+r=val ix:=by
       have aF:¬(0<m/\(0<ix.length\/0<r)):=fun h=>by rw[ag.2 h]at gy;cases gy
       rcases Nat.eq_zero_or_pos m with aG | aG
       ·subst aG;simp at al⊢;omega
       ·have o:¬0<ix.length:=fun h=>aF ⟨aG,Or.inl h⟩
        have aa:¬0<r:=fun h=>aF ⟨aG,Or.inr h⟩
        have aE:val ix=0:=by
         rcases Nat.eq_zero_or_pos (val ix)with h | h
         ·exact h
         ·exact absurd (q0.pos.2 h) o
        rw[aE];omega
      rw[U7]at l8
      refine a4 (val ix) _ _ _ (by omega) ⟨zI,ix,cg,rfl,by simpa using bO,q0,?_,by simpa using cZ,l8⟩
      rcases Nat.lt_or_ge y.length ix.length with h | h
      ·have:=Trim.w6 q0 aP.2 h
       omega
      ·omega
  ·try simp
   have wY:val y=0:=by
    rcases Nat.eq_zero_or_pos (val y)with h | h
    ·exact h
    ·exact absurd (si.pos.2 h) aK
   rw[wY,xk,List.append_nil]at aA
   refine aY.mk (acP af (by rw[<-aA];omega)) ?_
   rintro u aT ⟨rfl,mG,bh⟩
   have wx:=mG.row.bytes
   simp only[List.length_reverse]at wx
   simp
   refine ad6 (xs:=b.reverse.map fun n:Nat=>(n:Int)) (by rfl) (by rfl) (by rfl) (by simpa using wx.1) ?_
   simp[bf,QZ]
   refine aD _ _ ⟨bh _ (Nat.le_refl _) bp,?_⟩
   rw[<-List.map_reverse,QZ,<-aA]
   unfold dec
   rw[if_neg (by omega)]
variable {P:Program} {r:List bJ} {Q:Fr->ad->Prop} {F:Fr} {H:ad}
theorem jm{d t:Nat}{x:Operand}{l:List Nat}{ax:bc (bt d t x::r) Q}(an:ar F x= .string (cv l))(bG:jl P t=true)(K:ba P r Q .mk (a5 F d (.int .i64 l.length)) H):ba P (bt d t x::r) Q ax F H:=by
 rw[hq,an,abh,if_pos bG,kc]
 exact K
theorem Ex{a b:List Nat}(h:a.length+b.length<=9223372036854775807):(if(cv a).size+(cv b).size<=9223372036854775807 then some (Value.string (cv a++cv b))else none)=some (.string (cv (a++b))):=by
 rw[kc,kc,if_pos h,SJ]
theorem Pz:({data:= #[45]}:ByteArray)=cv [45]:=rfl
theorem PA:({data:= #[47]}:ByteArray)=cv [47]:=rfl
def gh(q:Rat):List Nat:=(if q.num<0 then[45]else[])++dec q.num.natAbs++(if q.den=1 then[]else 47::dec q.den)
def lS(q:Rat):Prop:=(dec q.num.natAbs).length<=4000/\(q.den=1\/(dec q.den).length<=4000)
instance(q:Rat):Decidable (lS q):=by unfold lS;exact inferInstance
theorem Q7{v:Value}{x d:List Nat}{H:ad}(aZ:de H 124 v x)(bd:Trim x)(au:x.length<=1000000)(aA:dec (val x)=d):aX prog 78 [v] H (fun u H1=>Ext H H1/\u= .string (cv d)):=by
 subst aA
 exact adP aZ bd au
theorem H4{v:Value}{q:Rat}{N:Nat}{H:ad}(an:ck H v q)(ao:dj N q)(bW:N<=32000000):
  aX prog 51 [v] H (fun u H1=>Ext H H1/\u=if lS q then .tuple #[.string (cv (gh q)),.int .i64 0]else .tuple #[.string (cv []),.int .i64 5]):=by
 refine aX.cc fun Q aD=>?_
 apply Z3 (by simp)
 have EN:=ao.num bW
 have Bk:=ao.den bW
 have GP:=an
 obtain⟨s1,b3,c4,cx,s2,cM,c9,cN,rfl,o,aa⟩:=an.shape
 obtain⟨CW,rfl,FE,hK,n3⟩:=o.us
 obtain⟨CX,rfl,yG,iE,jB⟩:=aa.us
 obtain⟨d1,iT⟩:∃d,dec q.num.natAbs=d:=⟨_,rfl⟩
 obtain⟨d2,mI⟩:∃d,dec q.den=d:=⟨_,rfl⟩
 simp[Km]
 have bz:Ext H (H++[.dead]):=Ext.more H (by simp)
 refine aY.mk (Q7 (d:=d1) (FE.ext bz) hK (EN.length hK n3) (by rw[n3,iT])) ?_
 rintro u H1 ⟨bp,rfl⟩
 simp
 refine jm (l:=d1) (by simp) (by rfl) ?_
 simp
 refine br.b_ (fun ag=>?_) (fun ag=>?_)
 ·try simp
  simp[bf]
  refine aD _ _ ⟨bz.av bp,?_⟩
  rw[if_neg (by unfold lS;rw[iT];omega)]
  rfl
 try simp
 refine bV.join (by kernel_rfl) (fun cQ dQ bT=>bT=H1/\cQ 4= .string (cv ((if q.num<0 then[45]else[])++d1))) ?_ ?_
 ·rintro K a4-
  simp
  refine br.b_ (fun ao=>?_) (fun ao=>?_)
  ·simp[Pz,Ex (a:=[45]) (b:=d1) (by simp;omega)]
   refine a4 _ _ _ ⟨rfl,?_⟩
   simp[ao]
  ·try simp
   refine a4 _ _ _ ⟨rfl,?_⟩
   simp[ao]
 ·rintro cQ dQ bT ⟨rfl,bA⟩
  simp at bA
  simp
  have Yy:=ck.ext GP (bz.av bp)
  refine aY.mk (Hm Yy (by have:=q.den_pos;omega)) ?_
  rintro u aT ⟨bh,rfl⟩
  simp
  refine br.b_ (fun ab=>?_) (fun ab=>?_)
  ·have fV:q.den=1:=by omega
   try simp
   simp[bf]
   refine aD _ _ ⟨bz.av (bp.av bh),?_⟩
   rw[if_pos ⟨by rw[iT];omega,Or.inl fV⟩]
   simp[gh,fV,iT,bA]
  have fV:¬q.den=1:=by omega
  try simp
  refine aY.mk (Q7 (d:=d2) (yG.ext (bz.av (bp.av bh))) iE (Bk.length iE jB) (by rw[jB];simpa using mI)) ?_
  rintro u bS ⟨bO,rfl⟩
  simp
  refine jm (l:=d2) (by simp) (by rfl) ?_
  simp
  refine br.b_ (fun ni=>?_) (fun ni=>?_)
  ·try simp
   simp[bf]
   refine aD _ _ ⟨bz.av (bp.av (bh.av bO)),?_⟩
   rw[if_neg (by unfold lS;rw[iT,mI];omega)]
   rfl
  ·obtain⟨H9,uC⟩:∃l,((if q.num<0 then[45]else[])++d1:List Nat)=l:=⟨_,rfl⟩
   have mc:H9.length<=1+d1.length:=by rw[<-uC];split<;>simp<;>omega
   rw[uC]at bA
   simp[bA,PA,Ex (a:=H9) (b:=[47]) (by simp;omega),Ex (a:=H9++[47]) (b:=d2) (by simp;omega),bf]
   refine aD _ _ ⟨bz.av (bp.av (bh.av bO)),?_⟩
   rw[if_pos ⟨by rw[iT];omega,Or.inr (by rw[mI];omega)⟩]
   simp[gh,fV,iT,mI,<-uC]
def dm(c:Nat):List Nat->List Nat×Option (List Nat)
 | []=>([],none)
 | x::r=>if x=c then([],some r)else(x::(dm c r).1,(dm c r).2)
theorem vI{c:Nat}{l r:List Nat}(h:(dm c l).2=some r):l=(dm c l).1++c::r:=by
 induction l with
 | nil=>simp[dm]at h
 | cons x l a2=>
  unfold dm at h⊢
  split at h
  ·next J=>simp at h;subst h;simp[J]
  ·next J=>simp[J];exact a2 h
theorem vH{c:Nat}{l:List Nat}(h:(dm c l).2=none):(dm c l).1=l:=by
 induction l with
 | nil=>simp[dm]
 | cons x l a2=>
  unfold dm at h⊢
  split at h
  ·simp at h
  ·next J=>simp[J];exact a2 h
theorem LO{c:Nat}(l:List Nat):c∉(dm c l).1:=by
 induction l with
 | nil=>simp[dm]
 | cons x l a2=>
  unfold dm
  split
  ·simp
  ·next J=>simp;exact⟨fun h=>J h.symm,a2⟩
theorem SL(l:List Nat)(i:Nat)(ab:i<l.length):(cv l)[i]! =UInt8.ofNat l[i]:=by
 have o:i<(cv l).size:=by rw[kc];exact ab
 rw[getElem!_pos (cv l) i o]
 simp[cv,ByteArray.getElem_eq_getElem_data]
theorem Uh{c:Nat}{l:List Nat}(au:Bytes l)(ag:c<256):((List.range (cv l).size).find? fun i=>(cv l)[i]! ==UInt8.ofNat c)=(dm c l).2.map fun _=>(dm c l).1.length:=by
 rw[kc]
 have key:∀i (ab:i<l.length),((cv l)[i]! ==UInt8.ofNat c)=decide (l[i]=c):=by
  intro i ab
  rw[SL l i ab]
  by_cases h:l[i]=c
  ·rw[h];simp
  ·rw[decide_eq_false h,beq_eq_false_iff_ne]
   intro e
   exact h (ofNat_inj (au _ (List.getElem_mem ab)) ag e)
 cases al:(dm c l).2 with
 | none=>
  rw[Option.map_none,List.find?_range_eq_none]
  intro i ab
  rw[key i ab]
  have o:=vH al
  have aa:=LO (c:=c) l
  rw[o]at aa
  have:l[i]≠c:=fun e=>aa (e▸List.getElem_mem ab)
  simp[this]
 | some r=>
  rw[Option.map_some,List.find?_range_eq_some]
  have o:=vI al
  have aa:=LO (c:=c) l
  generalize (dm c l).1=a at o aa
  subst o
  refine⟨?_,by simp,?_⟩
  ·rw[key _ (by simp)];simp
  ·intro j aN
   rw[key _ (by simp;omega)]
   rw[List.getElem_append_left aN]
   have:a[j]≠c:=fun e=>aa (e▸List.getElem_mem aN)
   simp[this]
def n8(c:Nat)(l:List Nat):Int:=match(dm c l).2 with | some _=>((dm c l).1.length:Int) | none=> -1
theorem Za{l:List Nat}{c:Nat}{H:ad}(au:Bytes l)(ag:c<256):
  aX prog 133 [.string (cv l),.int .u8 c] H (fun u H1=>H1=H/\u= .int .i64 (n8 c l)):=by
 refine⟨.int .i64 (n8 c l),H,.inr ⟨⟨by simp[hd,flat],by simp[flat,hd],?_⟩,rfl⟩,rfl,rfl⟩
 have aG:(prog.funcs[133]?).isSome=true:=by kernel_rfl
 have aa:((prog.funcs[133]?).map fun fn=>fn.name== "runtime.NumGoroutine")=some false:=by kernel_rfl
 have aE:((prog.funcs[133]?).map fun fn=>fn.body.isNone)=some true:=by kernel_rfl
 have bA:((prog.funcs[133]?).map fun fn=>Extern.findNext fn)=some none:=by kernel_rfl
 have bQ:((prog.funcs[133]?).map fun fn=>Extern.find fn)=some (some Extern.BytealgIndexByte.indexByte):=by kernel_rfl
 obtain⟨fn,aC⟩:=Option.isSome_iff_exists.1 aG
 rw[aC]at aa aE bA bQ
 simp only[Option.map_some,Option.some.injEq]at aa aE bA bQ
 have bn:dK prog program=some prog:=rfl
 have bj:∀m,dK prog (mark m)=some ():=fun m=>rfl
 have fT:dK prog (Extern.BytealgIndexByte.indexByte #[.string (cv l),.int .u8 c])=some (.int .i64 (n8 c l)):=by
  have lp:(c:Int).toNat.toUInt8=UInt8.ofNat c:=by simp
  show dK prog ((pure (cv l):Sem ByteArray)>>=fun b=>(pure (c:Int).toNat.toUInt8:Sem UInt8)>>=fun c=>match(List.range b.size).find? fun i=>b[i]! ==c with | some i=>pure (goInt i) | none=>pure (goInt (-1)))=_
  simp only[fX,fr,Option.bind_some,lp,Uh au ag]
  unfold n8
  cases(dm c l).2<;>simp[fr]<;>rfl
 have vP:¬fn.name= "runtime.NumGoroutine" :=by simpa using aa
 have UB:fn.body=none:=by simpa using aE
 simp[callFunc,fX,qq,bn,aC,vP,UB,bA,bQ,bj,fT,fr]
section
variable {P:Program} {r:List bJ} {Q:Fr->ad->Prop} {F:Fr} {H:ad}
theorem pF{d t n:Nat}{x i:Operand}{l:List Nat}{oa:IntKind}{ax:bc (ez d t x i::r) Q}(an:ar F x= .string (cv l))(bK:Bytes l)(ab:ar F i= .int oa n)(aF:n<l.length)(bG:jl P t=true)(K:ba P r Q .mk (a5 F d (.int .u8 (l[n]?.getD 0:Nat))) H):ba P (ez d t x i::r) Q ax F H:=by
 have e:(((cv l).data.getD ((n:Int).toNat) 0).toNat:Int)=((l[n]?.getD 0:Nat):Int):=by rw[Int.toNat_natCast,SK l bK n aF]
 have ag:jl P t=true/\(0:Int)<=(n:Int)/\(n:Int)<((cv l).size:Int):=⟨bG,by omega,by rw[kc];omega⟩
 rw[iM,an,ab,Jh,m5]
 refine dz.mk ag ?_
 rw[e]
 exact K
end
theorem Y7(c:Nat):n8 c [c]=0:=by simp[n8,dm]
theorem Zb{l:List Nat}{c:Nat}{H:ad}(au:Bytes l)(ag:c<256):
  aX prog 128 [.string (cv l),.int .u8 c] H (fun u H1=>H1=H/\u= .int .i64 (n8 c l)):=by
 refine aX.cc fun Q aD=>?_
 apply aa1 (by simp)
 simp[K1]
 refine aY.mk (Za au ag) ?_
 rintro u H ⟨rfl,rfl⟩
 simp[bf]
 exact aD _ _ ⟨rfl,rfl⟩
theorem Zf{l:List Nat}{c:Nat}{H:ad}(au:Bytes l)(ag:c<256):
  aX prog 120 [.string (cv l),.string (cv [c])] H (fun u H1=>H1=H/\u= .int .i64 (n8 c l)):=by
 refine aX.cc fun Q aD=>?_
 apply aa0 (by simp)
 simp[K0]
 refine jm (l:=[c]) (by simp) (by rfl) ?_
 simp
 refine bV.join (by kernel_rfl) (fun cQ dQ bT=>bT=H/\cQ 16= .bool (decide ([c]=l))) ?_ ?_
 ·rintro K a4-
  simp
  refine a4 _ _ _ ⟨rfl,?_⟩
  simp[Ln (a:=[c]) (b:=l) (by intro x J;simp at J;omega) au]
 ·rintro cQ dQ H ⟨rfl,pX⟩
  simp at pX
  simp[pX]
  refine br.b_ (fun he=>?_) (fun he=>?_)
  ·subst he
   try simp
   simp[bf]
   exact aD _ _ ⟨rfl,by rw[Y7]⟩
  ·try simp
   refine pF (n:=0) (oa:= .i64) (l:=[c]) (by simp) (by intro x J;simp at J;omega) (by simp) (by simp) (by rfl) ?_
   simp
   refine aY.mk (Zb au ag) ?_
   rintro u H ⟨rfl,rfl⟩
   simp[bf]
   exact aD _ _ ⟨rfl,rfl⟩
theorem adu{l:List Nat}{c:Nat}{H:ad}(au:Bytes l)(ag:c<256)(hlen:l.length<4611686018427387904):
  aX prog 114 [.string (cv l),.string (cv [c])] H (fun u H1=>H1=H/\u= .tuple #[.string (cv (dm c l).1),.string (cv ((dm c l).2.getD [])),.bool (dm c l).2.isSome]):=by
 refine aX.cc fun Q aD=>?_
 apply aaX (by simp)
 simp[KX]
 refine aY.mk (Zf au ag) ?_
 rintro u H ⟨rfl,rfl⟩
 cases al:(dm c l).2 with
 | none=>
  have e:n8 c l= -1:=by simp[n8,al]
  simp[e,bf]
  refine aD _ _ ⟨rfl,?_⟩
  rw[vH al,al]
  rfl
 | some q=>
  have o:=vI al
  have e:n8 c l=((dm c l).1.length:Int):=by simp[n8,al]
  obtain⟨a,aL⟩:∃a,(dm c l).1=a:=⟨_,rfl⟩
  rw[aL]at o e
  simp[e]
  refine xz (l:=0) (h:=a.length) (s:=cv l) (by simp) (by rfl) (by simp[ea]) (by simp[fo]) (by omega) (by rw[kc,o];simp) ?_
  simp
  refine jm (l:=[c]) (by simp) (by rfl) ?_
  have akH:l.length=a.length+1+q.length:=by rw[o];simp;omega
  have T8:IntKind.i64.wrap ((a.length:Int)+1)=((a.length+1:Nat):Int):=by rw[b2 (by omega) (by omega)];omega
  simp[T8]
  refine xz (l:=a.length+1) (h:=l.length) (s:=cv l) (by simp) (by rfl) (by simp[ea];omega) (by simp[fo,kc]) (by omega) (by rw[kc];omega) ?_
  simp[bf]
  refine aD _ _ ⟨rfl,?_⟩
  rw[r0,r0,al,aL]
  have bn:((List.drop 0 l).take (a.length-0))=a:=by rw[o];simp
  have bj:((List.drop (a.length+1) l).take (l.length-(a.length+1)))=q:=by
   rw[List.take_of_length_le (by simp)]
   rw[o,show a++c::q=(a++[c])++q from by simp,List.drop_left' (by simp)]
  rw[bn,bj]
  rfl
theorem Tc{l:List Nat}{c:Nat}{H:ad}(au:Bytes l)(ag:c<256)(hlen:l.length<4611686018427387904):
  aX prog 98 [.string (cv l),.string (cv [c])] H (fun u H1=>H1=H/\u= .tuple #[.string (cv (dm c l).1),.string (cv ((dm c l).2.getD [])),.bool (dm c l).2.isSome]):=by
 refine aX.cc fun Q aD=>?_
 apply aaV (by simp)
 simp[KV]
 refine aY.mk (adu au ag hlen) ?_
 rintro u H ⟨rfl,rfl⟩
 simp[bf]
 exact aD _ _ ⟨rfl,rfl⟩
theorem V4{l:List Nat}{c:Nat}{H:ad}(au:Bytes l)(ag:c<256):
  aX prog 121 [.string (cv l),.string (cv [c])] H (fun u H1=>H1=H/\u= .bool (decide (l.head?=some c))):=by
 refine aX.cc fun Q aD=>?_
 apply aaZ (by simp)
 simp[KZ]
 refine bV.join (by kernel_rfl) (fun cQ dQ bT=>bT=H/\cQ 4= .bool (decide (l.head?=some c))) ?_ ?_
 ·rintro K a4-
  simp
  refine jm (l:=l) (by simp) (by rfl) ?_
  simp
  refine jm (l:=[c]) (by simp) (by rfl) ?_
  cases l with
  | nil=>
   simp
   refine a4 _ _ _ ⟨rfl,by simp⟩
  | cons x r=>
   have e:((1:Int)<=((r.length:Int)+1))=True:=by simp;omega
   simp[e]
   refine jm (l:=[c]) (by simp) (by rfl) ?_
   simp
   refine xz (l:=0) (h:=1) (s:=cv (x::r)) (by simp) (by rfl) (by simp[ea]) (by simp[fo]) (by omega) (by rw[kc];simp) ?_
   rw[r0]
   simp
   refine a4 _ _ _ ⟨rfl,?_⟩
   have J:x<256:=au x (by simp)
   simp[Ln (a:=[x]) (b:=[c]) (by intro y aP;simp at aP;omega) (by intro y aP;simp at aP;omega)]
 ·rintro cQ dQ H ⟨rfl,bA⟩
  simp at bA
  simp[bA,bf]
  exact aD _ _ ⟨rfl,rfl⟩
def j5(c:Nat)(l:List Nat):List Nat:=if l.head?=some c then l.tail else l
theorem adt{l:List Nat}{c:Nat}{H:ad}(au:Bytes l)(ag:c<256):
  aX prog 115 [.string (cv l),.string (cv [c])] H (fun u H1=>H1=H/\u= .tuple #[.string (cv (j5 c l)),.bool (decide (l.head?=some c))]):=by
 refine aX.cc fun Q aD=>?_
 apply aaY (by simp)
 simp[KY]
 refine aY.mk (V4 au ag) ?_
 rintro u H ⟨rfl,rfl⟩
 by_cases h:l.head?=some c
 ·simp[h]
  refine jm (l:=[c]) (by simp) (by rfl) ?_
  simp
  refine xz (l:=1) (h:=l.length) (s:=cv l) (by simp) (by rfl) (by simp[ea]) (by simp[fo,kc]) ?_ (by rw[kc];omega) ?_
  ·cases l with
   | nil=>simp at h
   | cons x r=>simp
  rw[r0]
  simp[bf]
  refine aD _ _ ⟨rfl,?_⟩
  unfold j5
  rw[if_pos h,List.take_of_length_le (by simp)]
  simp[h]
 ·simp[h,bf]
  refine aD _ _ ⟨rfl,?_⟩
  unfold j5
  rw[if_neg h]
  simp[h]
theorem Ta{l:List Nat}{c:Nat}{H:ad}(au:Bytes l)(ag:c<256):
  aX prog 99 [.string (cv l),.string (cv [c])] H (fun u H1=>H1=H/\u= .tuple #[.string (cv (j5 c l)),.bool (decide (l.head?=some c))]):=by
 refine aX.cc fun Q aD=>?_
 apply aaW (by simp)
 simp[KW]
 refine aY.mk (adt au ag) ?_
 rintro u H ⟨rfl,rfl⟩
 simp[bf]
 exact aD _ _ ⟨rfl,rfl⟩
def ia(c:Nat):Prop:=48<=c/\c<=57
instance(c:Nat):Decidable (ia c):=by unfold ia;exact inferInstance
def ib(l:List Nat):Prop:=(∀c∈l,ia c)/\l≠[]/\¬(l.head?=some 48/\1<l.length)/\l.length<=4000
instance(l:List Nat):Decidable (ib l):=by unfold ib;exact inferInstance
def dN(l:List Nat):Nat:=l.foldl (fun a c=>10*a+(c-48)) 0
theorem LZ(l:List Nat)(a:Nat):l.foldl (fun a c=>10*a+(c-48)) a=a*10^l.length+dN l:=by
 induction l generalizing a with
 | nil=>simp[dN]
 | cons c l a2=>
  unfold dN
  simp only[List.foldl_cons,List.length_cons]
  rw[a2,a2 (10*0+(c-48)),Nat.pow_succ]
  rw[show(10*a+(c-48))*10^l.length=a*(10^l.length*10)+(c-48)*10^l.length from by rw[Nat.add_mul];congr 1;rw[Nat.mul_comm 10 a,Nat.mul_assoc,Nat.mul_comm 10]]
  simp;omega
theorem Bh(a b:List Nat):dN (a++b)=dN a*10^b.length+dN b:=by
 unfold dN
 rw[List.foldl_append]
 exact LZ b _
theorem TP(c:Nat)(r:List Nat):dN (c::r)=(c-48)*10^r.length+dN r:=by
 conv=>lhs;unfold dN
 rw[List.foldl_cons,LZ]
 simp
theorem TQ(c:Nat):dN [c]=c-48:=by simp[dN]
theorem r4{l:List Nat}(h:∀c∈l,ia c):dN l<10^l.length:=by
 induction l with
 | nil=>simp[dN]
 | cons c r a2=>
  have o:=a2 fun x J=>h x (by simp[J])
  have aa:=h c (by simp)
  unfold ia at aa
  rw[TP,List.length_cons,Nat.pow_succ]
  have aE:(c-48)*10^r.length<=9*10^r.length:=Nat.mul_le_mul_right _ (by omega)
  omega
theorem L1{l:List Nat}{i:Nat}(ab:i<l.length):dN (l.take (i+1))=dN (l.take i)*10+(l[i]?.getD 0-48):=by
 rw[List.take_succ_eq_append_getElem ab,Bh,TQ,bs ab]
 simp
theorem ab1{l:List Nat}{H:ad}(au:Bytes l)(hlen:l.length<4611686018427387904):
  aX prog 100 [.string (cv l)] H (fun u H1=>Ext H H1/\if ib l then∃v x,u= .tuple #[v,.bool true]/\de H1 124 v x/\Trim x/\val x=dN l else u= .tuple #[.slice none 0 0,.bool false]):=by
 refine aX.cc fun Q aD=>?_
 apply aag (by simp)
 simp[Ks]
 refine jm (l:=l) (by simp) (by rfl) ?_
 simp
 refine c6.range (by kernel_rfl) l.length (by omega) (by simp) (by rfl) (by simp) (by decide) (by decide) (fun i bU dd aT=>aT=H/\∀c∈l.take i,ia c) ?_ ?_ ?_
 ·exact⟨rfl,by simp⟩
 ·rintro i az bH H1 ab a7 ⟨rfl,aA⟩ K a4
  simp at a7
  simp[a7]
  refine bV.join (by kernel_rfl) (fun cQ dQ bT=>bT=H1/\cQ 24= .bool (decide (¬ia (l[i]?.getD 0)))) ?_ ?_
  ·rintro c5 dB-
   obtain⟨c,ag⟩:∃c,l[i]?.getD 0=c:=⟨_,rfl⟩
   simp
   refine pF (n:=i) (oa:= .i64) (l:=l) (by simp) au (by simp) ab (by rfl) ?_
   rw[ag]
   rcases Nat.lt_or_ge c 48 with o | o
   ·have bn:((c:Int)<48)=True:=by simp;omega
    simp[bn]
    refine dB _ _ _ ⟨rfl,?_⟩
    simp[ia];omega
   ·have bn:((c:Int)<48)=False:=by simp;omega
    simp[bn]
    refine pF (n:=i) (oa:= .i64) (l:=l) (by simp) au (by simp) ab (by rfl) ?_
    rw[ag]
    rcases Nat.lt_or_ge 57 c with aa | aa
    ·have bj:((57:Int)<c)=True:=by simp;omega
     simp[bj]
     refine dB _ _ _ ⟨rfl,?_⟩
     simp[ia];omega
    ·have bj:((57:Int)<c)=False:=by simp;omega
     simp[bj]
     refine dB _ _ _ ⟨rfl,?_⟩
     simp[ia];omega
  ·rintro cQ dQ bT ⟨rfl,Mu⟩
   simp at Mu
   simp[Mu]
   refine br.b_ (fun a1=>?_) (fun a1=>?_)
   ·refine a4 _ _ _ (by simp[a7]) ⟨rfl,?_⟩
    intro c ag
    rw[List.take_succ_eq_append_getElem ab]at ag
    rcases List.mem_append.1 ag with ag | ag
    ·exact aA c ag
    ·simp at ag
     subst ag
     rw[bs ab]at a1
     exact a1
   ·simp[bf]
    refine aD _ _ ⟨Ext.refl _,?_⟩
    rw[if_neg ?_]
    rintro⟨o,-⟩
    apply a1
    rw[bs ab]
    exact o _ (List.getElem_mem ab)
 ·rintro az bH H1 a7 ⟨rfl,aA⟩
  rw[List.take_length]at aA
  simp
  refine bV.join (by kernel_rfl) (fun cQ dQ bT=>bT=H1/\∃b:Bool,cQ 42= .bool b/\(b=false↔(l≠[]/\¬(l.head?=some 48/\1<l.length)/\l.length<=4000))) ?_ ?_
  ·rintro c5 dB-
   cases l with
   | nil=>
    have hV:(cv []).toList.isEmpty=true:=by simp[vB]
    simp[hV]
    refine dB _ _ _ ⟨rfl,true,by simp,by simp⟩
   | cons c r=>
    have hV:(cv (c::r)).toList.isEmpty=false:=by simp[vB]
    simp[hV]
    refine pF (n:=0) (oa:= .i64) (l:=c::r) (by simp) au (by simp) (by simp) (by rfl) ?_
    by_cases r_:c=48
    ·subst r_
     simp
     refine jm (l:=48::r) (by simp) (by rfl) ?_
     rcases Nat.eq_zero_or_pos r.length with al | al
     ·simp[al]
      refine jm (l:=48::r) (by simp) (by rfl) ?_
      simp[al]
      refine dB _ _ _ ⟨rfl,false,by simp,by simp[al]⟩
     ·have bn:((1:Int)<((r.length:Int)+1))=True:=by simp;omega
      simp[bn]
      refine dB _ _ _ ⟨rfl,true,by simp,Iff.intro (fun h=>by cases h) (fun h=>absurd ⟨by simp,by simp;omega⟩ h.2.1)⟩
    ·have bn:((c:Int)=48)=False:=by simp;omega
     simp[bn]
     refine jm (l:=c::r) (by simp) (by rfl) ?_
     simp
     refine dB _ _ _ ⟨rfl,decide (4000<r.length+1),by simp;omega,?_⟩
     simp[r_]
  ·rintro cQ dQ bT ⟨rfl,b,vR,af⟩
   simp at vR
   simp[vR]
   refine br.mk (fun ag=>?_) (fun ag=>?_)
   ·simp[bf]
    refine aD _ _ ⟨Ext.refl _,?_⟩
    rw[if_neg ?_]
    rintro⟨o,aa⟩
    have:=af.2 aa
    rw[this]at ag
    cases ag
   ·have gW:ib l:=⟨aA,af.1 ag⟩
    simp only[gW,if_true]at aD
    simp
    have uj:l.length<=4000:=gW.2.2.2
    refine c6.mk (by kernel_rfl) (fun n az bH H1=>Ext bT H1/\∃(p s x:List Nat) (v:Value),n=s.length/\l=p++s/\az 0= .string (cv s)/\az 5=v/\de H1 124 v x/\Trim x/\val x=dN p) l.length ?_ ?_
    ·exact⟨Ext.refl _,[],l,[],_,rfl,rfl,by simp,rfl,⟨eA.nil _ _ _,by simp⟩,Trim.nil,by simp[dN,val]⟩
    ·rintro n fa gJ b7 ⟨ct,p,s,x,v,rfl,iW,aG,bQ,ey,bd,an⟩ c5 dB
     simp at aG bQ
     have X4:Bytes s:=fun c ag=>au c (by rw[iW];simp[ag])
     have Oe:∀c∈p,ia c:=fun c ag=>aA c (by rw[iW];simp[ag])
     have GB:∀c∈s,ia c:=fun c ag=>aA c (by rw[iW];simp[ag])
     have h3:p.length+s.length<=4000:=by rw[iW]at uj;simpa using uj
     cases ao:s with
     | nil=>
      have hV:(cv []).toList.isEmpty=true:=by simp[vB]
      subst ao
      simp[aG,hV]
      rw[List.append_nil]at iW
      exact aD _ _ ⟨ct,v,x,by simp[bf,bQ],ey,bd,by rw[an,iW]⟩
     | cons c r=>
      have hV:(cv s).toList.isEmpty=false:=by simp[vB,ao]
      have uD:0<s.length:=by rw[ao];simp
      obtain⟨mh,nY⟩:∃mh,s.length-1=mh:=⟨_,rfl⟩
      obtain⟨ji,pa⟩:∃ji,mh % 9=ji:=⟨_,rfl⟩
      obtain⟨n,aF⟩:∃n,ji+1=n:=⟨_,rfl⟩
      have akP:n<=9/\n<=s.length/\0<n:=by omega
      have TU:IntKind.i64.wrap ((s.length:Int)-1)=(mh:Int):=by rw[b2 (by omega) (by omega)];omega
      have TV:((mh:Int)).tmod 9=(ji:Int):=by rw[<-pa];rfl
      have TW:IntKind.i64.wrap ((ji:Int)+1)=(n:Int):=by rw[b2 (by omega) (by omega)];omega
      have EI:IntKind.i64.wrap (ji:Int)=(ji:Int):=by rw[b2 (by omega) (by omega)]
      simp[aG,hV]
      refine jm (l:=s) (by simp) (by rfl) ?_
      simp[TU,TV,TW,EI]
      refine c6.range (by kernel_rfl) n (by omega) (by simp) (by rfl) (by simp) (by decide) (by decide) (fun i j8 lP dx=>dx=b7/\∃a e:Nat,j8 7= .int .u32 a/\j8 8= .int .u32 e/\a=dN (s.take i)/\e=10^i) ?_ ?_ ?_
      ·refine⟨rfl,0,1,by simp,by simp,by simp[dN],by simp⟩
      ·rintro i j8 lP dx ab Bt ⟨rfl,a,e,cf,cz,aL,he⟩ ln eW
       simp at Bt cf cz
       have BY:i<s.length:=by omega
       obtain⟨vE,yT⟩:∃vE,s[i]?.getD 0=vE:=⟨_,rfl⟩
       have Wm:ia vE:=GB vE (by rw[<-yT,bs BY];exact List.getElem_mem BY)
       unfold ia at Wm
       have tZ:a<10^i:=by
        have:=r4 (l:=s.take i) fun c ag=>GB c (List.mem_of_mem_take ag)
        rw[<-aL,List.length_take,Nat.min_eq_left (by omega)]at this
        exact this
       have WQ:10^i<=10^8:=Nat.pow_le_pow_right (by decide) (by omega)
       rw[<-he]at tZ WQ
       obtain⟨m,hm⟩:∃m,10*a=m:=⟨_,rfl⟩
       obtain⟨d,l8⟩:∃d,vE-48=d:=⟨_,rfl⟩
       obtain⟨md,NZ⟩:∃md,m+d=md:=⟨_,rfl⟩
       obtain⟨c0,nT⟩:∃c0,10*e=c0:=⟨_,rfl⟩
       have f1:IntKind.u32.wrap (10*(a:Int))=(m:Int):=by rw[mZ (by omega) (by omega)];omega
       have f2:IntKind.u8.wrap ((vE:Int)-48)=(d:Int):=by rw[D0 (by omega) (by omega)];omega
       have f3:IntKind.u32.wrap (d:Int)=(d:Int):=mZ (by omega) (by omega)
       have f4:IntKind.u32.wrap ((m:Int)+d)=(md:Int):=by rw[mZ (by omega) (by omega)];omega
       have f5:IntKind.u32.wrap (10*(e:Int))=(c0:Int):=by rw[mZ (by omega) (by omega)];omega
       simp[Bt,cf,cz,aG,f1,f5]
       refine pF (n:=i) (oa:= .i64) (l:=s) (by simp[aG]) X4 (by simp) BY (by rfl) ?_
       rw[yT]
       simp[f2,f3,f4,f5,cz]
       refine eW _ _ _ (by simp[Bt]) ⟨rfl,md,c0,by simp,by simp,?_,?_⟩
       ·rw[L1 BY,yT,<-aL];omega
       ·rw[Nat.pow_succ,<-he];omega
      ·rintro j8 lP dx Bt ⟨rfl,a,e,cf,cz,aL,he⟩
       simp at cf cz
       simp[cf,cz,bQ]
       have FZ:e<=10^9:=by rw[he];exact Nat.pow_le_pow_right (by decide) (by omega)
       have tZ:a<10^n:=by
        have:=r4 (l:=s.take n) fun c ag=>GB c (List.mem_of_mem_take ag)
        rw[<-aL,List.length_take,Nat.min_eq_left (by omega)]at this
        exact this
       rw[<-he]at tZ
       have cB:Ext dx (dx++[.own 124 false [.int .u32 (e:Int)]]):=Ext.more dx (by simp)
       have VI:de (dx++[.own 124 false [.int .u32 (e:Int)]]) 124 (.slice (some ⟨dx.length,0,none⟩) 1 1) [e]:=by
        simpa using de.fresh dx 124 [e] 1 1 (by omega) rfl (by intro y aP;simp at aP;omega) false
       refine u5 (e:=124) (R:=1) (z:= .int .u32 0) (out:=[.int .u32 e]) (by simp) (by simp) (by simp) (by rfl) (by rfl) (by omega) (by omega) (by omega) ?_ (by simp) ?_
       ·simp[jQ,rv]
       have kK:x.length<=4000:=by
        refine bd.length_le ?_
        rw[an]
        refine Nat.lt_of_lt_of_le (r4 Oe) (Nat.le_trans (s4 10 p.length 4000 (by decide) (show p.length<=4000 by omega)) (HS 10 4294967296 4000 (by decide)))
       simp[bQ]
       refine aY.mk (Q8 (ey.ext cB) VI (by omega) (by simp)) ?_
       rintro w cw ⟨ch,ahg,VL,BI,jD⟩
       simp[cf]
       have cH:Ext cw (cw++[.own 124 false [.int .u32 (a:Int)]]):=Ext.more cw (by simp)
       have yH:de (cw++[.own 124 false [.int .u32 (a:Int)]]) 124 (.slice (some ⟨cw.length,0,none⟩) 1 1) [a]:=by
        simpa using de.fresh cw 124 [a] 1 1 (by omega) rfl (by intro y aP;simp at aP;omega) false
       refine u5 (e:=124) (R:=1) (z:= .int .u32 0) (out:=[.int .u32 a]) (by simp) (by simp) (by simp) (by rfl) (by rfl) (by omega) (by omega) (by omega) ?_ (by simp) ?_
       ·simp[jQ,rv]
       simp
       refine aY.mk (mW yH (by simp)) ?_
       rintro iN dW ⟨rfl,fv,VN,aj6,YD,Xd⟩
       simp
       have ala:ahg.length<=5000:=by
        refine BI.length_le ?_
        rw[jD,an]
        have nb:val [e]=e:=by simp[val]
        rw[nb]
        exact acv 5000 (r4 Oe) FZ (by omega)
       refine aY.mk (Qg (VL.ext cH) VN (by omega) (by simp at Xd;omega)) ?_
       rintro cW eH ⟨c_,eN,VM,VG,YC⟩
       simp[aG]
       refine xz (l:=n) (h:=s.length) (s:=cv s) (by simp[aG]) (by rfl) (by simp[ea]) (by simp[fo,kc]) (by omega) (by rw[kc];omega) ?_
       rw[r0]
       simp
       have iT:(s.drop n).take (s.length-n)=s.drop n:=List.take_of_length_le (by simp)
       refine dB (s.drop n).length _ _ _ (by simp;omega) ⟨ct.av (cB.av (ch.av (cH.av c_))),p++s.take n,s.drop n,eN,cW,rfl,by simp[iW],by simp[iT],by simp,VM,VG,?_⟩
       rw[YC,jD,an,YD,Bh,List.length_take,Nat.min_eq_left (by omega),<-he,<-aL]
       simp[val]
@[simp] theorem ajv(d t n:Nat)(aM:List (Nat×Operand)):(eC d t n aM).d=some d:=rfl
def sX(l:List Nat):List Nat:=(dm 47 l).1
def lg(l:List Nat):Option (List Nat):=(dm 47 l).2
def hz(l:List Nat):List Nat:=j5 45 (sX l)
def mi(l:List Nat):Bool:=decide ((sX l).head?=some 45)
def D5(l:List Nat):Prop:=∀u,lg l=some u->ib u/\1<dN u
def eD(l:List Nat):Nat:=match lg l with | some u=>dN u | none=>1
def gF(l:List Nat):Int:=if mi l=true then-(dN (hz l):Int)else dN (hz l)
def jr(l:List Nat):Prop:=ib (hz l)/\D5 l/\¬(mi l=true/\dN (hz l)=0)/\(lg l=none\/Int.gcd (gF l) (eD l)=1)
theorem Bytes.tail{c:Nat}{l:List Nat}(h:Bytes l):Bytes (j5 c l):=by
 unfold j5
 split
 ·exact fun x J=>h x (List.mem_of_mem_tail J)
 ·exact h
theorem LN{c:Nat}{l:List Nat}:(∀x∈(dm c l).1,x∈l)/\∀u,(dm c l).2=some u->∀x∈u,x∈l:=by
 cases al:(dm c l).2 with
 | none=>exact⟨fun x J=>by rw[vH al]at J;exact J,fun u hu=>by cases hu⟩
 | some r=>
  have o:=vI al
  refine⟨fun x J=>by rw[o];simp[J],fun u hu x J=>?_⟩
  cases hu
  rw[o];simp[J]
theorem LM{c:Nat}{l:List Nat}:(dm c l).1.length<=l.length/\∀u,(dm c l).2=some u->u.length<=l.length:=by
 cases al:(dm c l).2 with
 | none=>exact⟨by rw[vH al];omega,fun u hu=>by cases hu⟩
 | some r=>
  have o:=congrArg List.length (vI al)
  simp at o
  exact⟨by omega,fun u hu=>by cases hu;omega⟩
theorem P1{l:List Nat}{H:ad}(au:Bytes l)(hlen:l.length<4611686018427387904):
  aX prog 100 [.string (cv l)] H (fun u H1=>Ext H H1/\∃v b x,u= .tuple #[v,.bool b]/\de H1 124 v x/\Trim x/\x.length<=4000/\(b=true↔ib l)/\(b=true->val x=dN l)):=
 (ab1 au hlen).mono fun u H1 ⟨J,hu⟩=>by
  by_cases aA:ib l
  ·rw[if_pos aA]at hu
   obtain⟨v,x,rfl,ey,bd,an⟩:=hu
   refine⟨J,v,true,x,rfl,ey,bd,?_,by simp[aA],fun _=>an⟩
   refine bd.length_le ?_
   rw[an]
   exact Nat.lt_of_lt_of_le (r4 aA.1) (Nat.le_trans (s4 10 _ 4000 (by decide) aA.2.2.2) (HS 10 4294967296 4000 (by decide)))
  ·rw[if_neg aA]at hu
   subst hu
   exact⟨J,_,false,[],rfl,⟨eA.nil _ _ _,by simp⟩,Trim.nil,by simp,by simp[aA],by simp⟩
theorem ace{l:List Nat}{H:ad}(au:Bytes l)(hlen:l.length<4611686018427387904):
  aX prog 74 [.string (cv l)] H (fun u H1=>Ext H H1/\∃v,(jr l/\u= .tuple #[v,.bool true]/\ck H1 v (Rat.divInt (gF l) (eD l))\/¬jr l/\u= .tuple #[v,.bool false])/\∃s1 b3 c4 cx s2 cM c9 cN,v= .agg #[.bool s1,.slice b3 c4 cx,.bool s2,.slice cM c9 cN]):=by
 refine aX.cc fun Q aD=>?_
 apply ZY (by simp)
 have M1:Bytes (sX l):=fun x J=>au x (LN.1 x J)
 have aj4:(sX l).length<=l.length:=LM.1
 simp[Ki,PA,Pz]
 refine aY.mk (Tc au (by decide) hlen) ?_
 rintro u H1 ⟨rfl,rfl⟩
 simp
 refine aY.mk (Ta M1 (by decide)) ?_
 rintro u H1 ⟨rfl,rfl⟩
 simp
 refine aY.mk (P1 (l:=hz l) (M1.tail) ?_) ?_
 ·unfold hz j5;split
  ·rw[List.length_tail];omega
  ·omega
 rintro u H1 ⟨bp,ann,Lh,AF,rfl,FG,wg,akI,yS,OR⟩
 simp
 have FE:de (H1++[.own 124 false [.int .u32 1]]) 124 (.slice (some ⟨H1.length,0,none⟩) 1 1) [1]:=by
  simpa using de.fresh H1 124 [1] 1 1 (by omega) rfl (by simp) false
 refine u5 (e:=124) (R:=1) (z:= .int .u32 0) (out:=[.int .u32 1]) (by simp) (by simp) (by simp) (by rfl) (by rfl) (by omega) (by omega) (by omega) ?_ (by simp) ?_
 ·simp[jQ,rv]
 simp
 have bh:Ext H1 (H1++[.own 124 false [.int .u32 1]]):=Ext.more H1 (by simp)
 refine bV.join (by kernel_rfl) (fun cQ dQ bT=>Ext (H1++[.own 124 false [.int .u32 1]]) bT/\∃(w:Value) (y:List Nat) (b:Bool),cQ 11=w/\cQ 12= .bool b/\de bT 124 w y/\Trim y/\y.length<=4000/\(b=true↔D5 l)/\(b=true->val y=eD l)) ?_ ?_
 ·rintro K a4-
  cases al:lg l with
  | none=>
   have fW:(dm 47 l).2=none:=al
   simp[fW]
   refine a4 _ _ _ ⟨Ext.refl _,.slice (some ⟨H1.length,0,none⟩) 1 1,[1],true,rfl,rfl,FE,by simp[Trim],by simp,?_,?_⟩
   ·simp only[true_iff];intro u hu;rw[al]at hu;cases hu
   ·intro _;simp[eD,al,val]
  | some q=>
   have fW:(dm 47 l).2=some q:=al
   have Cq:Bytes q:=fun x J=>au x (LN.2 q fW x J)
   have q_:=LM.2 q fW
   simp[fW]
   refine aY.mk (P1 (l:=q) Cq (by omega)) ?_
   rintro u aT ⟨bO,RO,St,R0,rfl,FF,FD,sA,lz,zz⟩
   cases St with
   | false=>
    have mM:¬ib q:=fun h=>by have:=lz.2 h;cases this
    simp
    refine a4 _ _ _ ⟨bO,RO,R0,false,by simp,by simp,FF,FD,sA,?_,by simp⟩
    simp only[Bool.false_eq_true,false_iff]
    intro h
    exact mM (h q al).1
   | true=>
    have wA:ib q:=lz.1 rfl
    have an:=zz rfl
    simp
    have ct:Ext aT (aT++[.own 124 false [.int .u32 1]]):=Ext.more aT (by simp)
    have yG:de (aT++[.own 124 false [.int .u32 1]]) 124 (.slice (some ⟨aT.length,0,none⟩) 1 1) [1]:=by
     simpa using de.fresh aT 124 [1] 1 1 (by omega) rfl (by simp) false
    refine u5 (e:=124) (R:=1) (z:= .int .u32 0) (out:=[.int .u32 1]) (by simp) (by simp) (by simp) (by rfl) (by rfl) (by omega) (by omega) (by omega) ?_ (by simp) ?_
    ·simp[jQ,rv]
    simp
    refine aY.mk (Ez (FF.ext ct) yG FD (by simp[Trim]) (by omega) (by simp)) ?_
    rintro u dx ⟨rfl,rfl⟩
    have bn:val [1]=1:=by simp[val]
    rw[bn,an]
    obtain⟨c,ag⟩:∃c:Int,(if dN q<1 then-1 else if 1<dN q then 1 else 0:Int)=c:=⟨_,rfl⟩
    rw[ag]
    simp
    refine a4 _ _ _ ⟨bO.av ct,RO,R0,decide (0<c),by simp,by simp,FF.ext ct,FD,sA,?_,?_⟩
    ·rw[decide_eq_true_iff]
     have aG:0<c↔1<dN q:=by rw[<-ag];split<;>(try split)<;>omega
     rw[aG]
     exact⟨fun h u hu=>by rw[al]at hu;cases hu;exact⟨wA,h⟩,fun h=>(h q al).2⟩
    ·intro _;rw[an];simp[eD,al]
 ·rintro cQ dQ bT ⟨b8,w,y,b,nb,iR,M9,si,wP,af,uM⟩
  simp at nb iR
  refine bV.join (by kernel_rfl) (fun fa gJ b7=>b7=bT/\∃g:Bool,fa 57= .bool g/\(g=false↔(Lh=true/\b=true/\¬(mi l=true/\AF.length=0)))) ?_ ?_
  ·rintro K a4-
   cases Lh with
   | false=>
    simp
    refine a4 _ _ _ ⟨rfl,true,by simp,by simp⟩
   | true=>
    cases b with
    | false=>
     simp[iR]
     refine a4 _ _ _ ⟨rfl,true,by simp,by simp⟩
    | true=>
     have VK:=FG.ext (bh.av b8)
     by_cases hm:(sX l).head?=some 45
     ·have uo:(dm 47 l).1.head?=some 45:=hm
      simp[iR,uo]
      refine cD (by simpa using VK.row) (by simp) ?_
      simp
      refine a4 _ _ _ ⟨rfl,decide (AF.length=0),by simp,by simp[mi,hm]⟩
     ·have uo:¬(dm 47 l).1.head?=some 45:=hm
      simp[iR,uo]
      refine a4 _ _ _ ⟨rfl,false,by simp,by simp[mi,hm]⟩
  ·rintro fa gJ b7 ⟨rfl,g,Mz,a1⟩
   simp at Mz
   simp[Mz]
   have pr:Ext H b7:=(Ext.more H (by simp)).av (bp.av (bh.av b8))
   refine br.mk (fun ag=>?_) (fun ag=>?_)
   ·have aF:¬jr l:=by
     rintro⟨o,aa,aE,-⟩
     have:=a1.2 ⟨yS.2 o,af.2 aa,fun⟨bA,bQ⟩=>aE ⟨bA,by rw[<-OR (yS.2 o),(List.length_eq_zero_iff.1 bQ)];rfl⟩⟩
     rw[this]at ag;cases ag
    simp[bf]
    exact aD _ _ ⟨pr,_,.inr ⟨aF,rfl⟩,_,_,_,_,_,_,_,_,rfl⟩
   ·obtain⟨jV,mG,Nd⟩:=a1.1 ag
    have n3:=OR jV
    have jB:=uM mG
    simp
    have TX:(if mi l=true then-(val AF:Int)else val AF)=gF l:=by rw[n3];rfl
    have EI:(if false=true then-(val y:Int)else val y)=(eD l:Int):=by rw[jB];rfl
    refine aY.mk (Hl (zY (neg:=mi l) (FG.ext (bh.av b8)) wg)) ?_
    rintro qx dx ⟨cB,s1,b3,c4,cx,rfl,iJ⟩
    rw[TX]at iJ
    simp[nb]
    refine aY.mk (Hl (zY (neg:=false) (M9.ext cB) si)) ?_
    rintro mr cw ⟨ch,s2,cM,c9,cN,rfl,j1⟩
    rw[EI]at j1
    simp
    have yX:0<eD l:=by
     have o:=af.1 mG
     unfold eD
     cases hu:lg l with
     | none=>simp
     | some q=>have:=(o q hu).2;simp;omega
    have cH:Ext cw (cw++[.dead]):=Ext.more cw (by simp)
    refine bV.join (by kernel_rfl) (fun kR m3 dW=>Ext (cw++[.dead]) dW/\m3 2= .agg #[.bool s1,.slice b3 c4 cx,.bool s2,.slice cM c9 cN]/\∃g:Bool,kR 3= .bool g/\(g=true↔(lg l=none\/Int.gcd (gF l) (eD l)=1))) ?_ ?_
    ·rintro K a4-
     cases al:lg l with
     | none=>
      have fW:(dm 47 l).2=none:=al
      simp[fW]
      refine a4 _ _ _ ⟨Ext.refl _,by simp,true,by simp,by simp[al]⟩
     | some q=>
      have fW:(dm 47 l).2=some q:=al
      simp[fW]
      have EN:Fits (gF l):=by
       have o:(gF l).natAbs=val AF:=by unfold gF;rw[<-n3];split<;>omega
       unfold Fits;rw[o]
       exact Nat.lt_of_lt_of_le (kQ FG.2) (s4 4294967296 _ 1000000 (by decide) (by omega))
      have Bk:Fits (eD l):=by
       unfold Fits;rw[Int.natAbs_natCast,<-jB]
       exact Nat.lt_of_lt_of_le (kQ M9.2) (s4 4294967296 _ 1000000 (by decide) (by omega))
      refine aY.mk (Mm ((iJ.ext ch).ext cH) (j1.ext cH) EN Bk) ?_
      rintro pG eH ⟨c_,qm⟩
      refine⟨c_,?_⟩
      simp
      refine aY.mk (xa (n:=1) (by omega) (by omega)) ?_
      rintro DT ku ⟨fq,sQ⟩
      refine⟨fq,?_⟩
      simp
      have Ua:Fits ((Int.gcd (gF l) (eD l):Nat):Int):=by
       have aa:Int.gcd (gF l) (eD l)<=eD l:=Nat.le_of_dvd yX (Int.ofNat_dvd.1 (Int.gcd_dvd_right _ _))
       exact Bk.le (by simpa using aa)
      refine aY.mk (Hj (qm.ext fq) sQ Ua (Fits.small (by decide))) ?_
      rintro mX hR ⟨e4,rfl⟩
      refine⟨e4,?_⟩
      obtain⟨eV,gy⟩:∃eV:Int,(if((Int.gcd (gF l) (eD l):Nat):Int)<1 then-1 else if((Int.gcd (gF l) (eD l):Nat):Int)=1 then 0 else 1:Int)=eV:=⟨_,rfl⟩
      rw[gy]
      simp
      refine a4 _ _ _ ⟨c_.av (fq.av e4),by simp,decide (eV=0),by simp,?_⟩
      rw[decide_eq_true_iff]
      simp only[al,reduceCtorEq,false_or]
      rw[<-gy]
      split
      ·omega
      ·split<;>omega
    ·rintro kR m3 dW ⟨c_,g6,jR,aE,NA⟩
     simp at g6 aE
     simp[g6,aE,bf]
     have Pd:=(cB.av (ch.av (cH.av c_)))
     have gW:jr l↔jR=true:=by
      rw[NA]
      refine⟨fun h=>h.2.2.2,fun h=>⟨yS.1 jV,af.1 mG,fun⟨bA,bQ⟩=>Nd ⟨bA,?_⟩,h⟩⟩
      rw[<-n3]at bQ
      exact(Nat.eq_zero_or_pos _).resolve_right fun h=>by have:=wg.pos.1 h;omega
     cases jR with
     | true=>
      have nj:Int.gcd (gF l) (eD l)=1:=by
       rcases NA.1 rfl with h | h
       ·have:eD l=1:=by simp[eD,h]
        rw[this];simp
       ·exact h
      refine aD _ _ ⟨pr.av Pd,_,.inl ⟨gW.2 rfl,rfl,?_⟩,_,_,_,_,_,_,_,_,rfl⟩
      obtain⟨bn,bj⟩:=Bg (gF l) (eD l) (by omega)
      have y3:Nat.gcd (gF l).natAbs (eD l)=1:=nj
      rw[y3]at bn bj
      refine⟨_,_,_,_,rfl,?_,?_⟩
      ·rw[bn];simpa using iJ.ext (ch.av (cH.av c_))
      ·rw[bj];simpa using j1.ext (cH.av c_)
     | false=>
      refine aD _ _ ⟨pr.av Pd,_,.inr ⟨fun h=>(by have:=gW.1 h;cases this),rfl⟩,_,_,_,_,_,_,_,_,rfl⟩
abbrev jO(H:ad)(v:Value)(r:List Rat):Prop:=Row 80 4 true ck H v r
instance:bM jO:=⟨fun h J=>bM.ext (ae:=Row 80 4 true ck) h J⟩
abbrev ig(H:ad)(v:Value)(t:List (List Rat)):Prop:=Row 120 1 false jO H v t
instance:bM ig:=⟨fun h J=>bM.ext (ae:=Row 120 1 false jO) h J⟩
theorem ig.ext{H H1:ad}{v:Value}{t:List (List Rat)}(h:ig H v t)(J:Ext H H1):ig H1 v t:=bM.ext h J
def eS(r:List Rat):Rat:=r.foldl (·+·) 0
theorem Qu{r:List Rat}{i:Nat}{q:Rat}(h:r[i]?=some q):eS (r.take (i+1))=eS (r.take i)+q:=by
 have ab:=(cn.1 h).1
 rw[List.take_succ_eq_append_getElem ab]
 unfold eS
 rw[List.foldl_append]
 simp[(cn.1 h).2]
theorem ru{v:Value}{t:List (List Rat)}{j N:Nat}{row:List Rat}{H:ad}(bd:ig H v t)(al:t[j]?=some row)(au:row.length<4611686018427387904)(gg:t.length<4611686018427387904)(ao:∀k,dj N (eS (row.take k)))(he:∀q∈row,dj N q)(bW:N<=1000000):
  aX prog 65 [.agg #[v],.int .i64 j] H (fun u H1=>Ext H H1/\ck H1 u (eS row)):=by
 refine aX.cc fun Q aD=>?_
 apply aaA (by simp)
 obtain⟨a,c,rfl⟩:=Row.len bd
 simp[KI]
 have bz:Ext H (H++[.dead,.dead]):=Ext.more H (by simp)
 refine aY.mk (Aa (n:=0) (by omega) (by omega)) ?_
 rintro xp H1 ⟨bp,n1⟩
 simp
 refine cY.mk n1.whole ?_
 simp
 have bh:Ext H1 (H1++[.dead]):=Ext.more H1 (by simp)
 have iE:=bd.ext (bz.av (bp.av bh))
 refine cF (ae:=jO) (xs:=t) (n:=j) (a:=row) (e:=120) (R:=1) (ay:=false) (by simpa using iE) (by simp) al (by simp) (by simp) (by simp) (by decide) ?_
 intro HJ II qf
 refine cD (ae:=ck) (xs:=row) (by simpa using qf) (by simp) ?_
 simp
 refine c6.range (by kernel_rfl) row.length (by omega) (by simp) (by rfl) (by simp) (by decide) (by decide) (fun i bU dd aT=>Ext (H1++[.dead]) aT/\ck aT (dd 5) (eS (row.take i))) ?_ ?_ ?_
 ·refine⟨Ext.refl _,?_⟩
  simpa[eS]using n1.ext bh
 ·rintro i bU dd aT ab a7 ⟨bO,mN⟩ K a4
  simp at a7 mN
  simp[a7]
  obtain⟨x,J⟩:∃x,row[i]?=some x:=⟨_,bs ab⟩
  refine cF (ae:=ck) (xs:=row) (n:=i) (a:=x) (e:=80) (R:=4) (ay:=true) (by simpa using bM.ext qf bO) (by simp[a7]) J (by simp) (by simp) (by simp) (by decide) ?_
  intro dh u hu
  simp
  refine cY.mk hu.whole ?_
  simp
  have b8:Ext aT (aT++[.dead]):=Ext.more aT (by simp)
  refine aY.mk (Qq (mN.ext b8) (hu.ext b8) (ao i) (he x (List.mem_of_getElem? J)) bW) ?_
  rintro w bS ⟨ct,hw⟩
  simp
  refine cY.mk hw.whole ?_
  refine a4 _ _ _ (by simp[a7]) ⟨bO.av (b8.av ct),?_⟩
  rw[Qu J]
  simpa using hw
 ·rintro bU dd aT a7 ⟨bO,mN⟩
  simp at mN
  simp
  refine cY.mk mN.whole ?_
  simp[bf]
  exact aD _ _ ⟨bz.av (bp.av (bh.av bO)),mN⟩
end Go.cl
end
