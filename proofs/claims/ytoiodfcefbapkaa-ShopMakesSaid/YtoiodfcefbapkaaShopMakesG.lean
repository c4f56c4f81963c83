/- Part of the proof of ShopMakes. -/
import Derived.Test.YtoiodfcefbapkaaShopMakesF
set_option linter.unusedVariables false
set_option linter.unusedSimpArgs false
section
set_option maxRecDepth 8000
set_option maxHeartbeats 1000000
namespace Go.b9
open Go.Proofs
open Go.Proofs.Try (prog)
attribute [-simp] fJ gN hI
theorem Fk(l:List Nat)(k:Nat):val l=val (l.take k)+4294967296^(min k l.length)*val (l.drop k):=by
 conv=>lhs;rw[<-List.take_append_drop k l,mY]
 rw[List.length_take]
theorem fM.whole{H:ab}{u:Value}{y:Nat}(h:fM H u y):Whole prog 95 u:=h.1▸xZ _
theorem LG{v w:Value}{a b:List Nat}{H:ab}(bO:cO H 95 v a)(n6:Trim a)(bS:cO H 95 w b)(kH:Trim b)(mq:0<b.length)(jT:a.length<1048570)(jq:b.length<1048570):
  a0 prog 79 [v,w] H (fun u H1=>Ext H H1/\∃q r l m,u= .tuple #[q,r]/\cO H1 95 q l/\Trim l/\val l=val a/val b/\cO H1 95 r m/\Trim m/\val m=val a % val b):=by
 refine a0.cq fun Q aG=>?_
 apply Us (by simp)
 simp[GM]
 refine a7.mk (BE bO bS n6 kH (by omega) (by omega)) ?_
 rintro c H ⟨rfl,rfl⟩
 simp
 refine bG.cC (fun ag=>?_) (fun ag=>?_)
 ·have a3:val a<val b:=by
   rcases Nat.lt_or_ge (val a) (val b)with h | h
   ·exact h
   ·rw[if_neg (by omega)]at ag;split at ag<;>omega
  try simp
  refine AQ (e:=95) (J:=1) (bs:=4) (k:=H.length) (z:= .int .u32 0) (ay:=false) (af:=fM) (xs:=[]) (bH:=a) (by simpa using bz.nil _ _ _ _ _ _) (by simpa using bO.row) (fun u y h=>h.whole) (fun _ _ _ _ _ h=>h) (by simp) (by simp) (by simp) (by simp) (.inr rfl) (by simp) (by simp) (by rfl) (by decide) (by simp;omega) (Nat.le_refl _) ?_
  rintro au aC cL I-
  simp[bj]
  refine aG _ _ ⟨I H (Nat.le_refl _) (Ext.refl _),_,_,[],a,rfl,⟨ec.nil _ _ _,by simp⟩,Trim.nil,?_,cL.row.us,n6,?_⟩
  ·rw[Nat.div_eq_of_lt a3];rfl
  ·rw[Nat.mod_eq_of_lt a3]
 ·have jR:val b<=val a:=by
   rcases Nat.lt_or_ge (val a) (val b)with h | h
   ·rw[if_pos h]at ag;omega
   ·exact h
  try simp
  refine cY (by simpa using bS.row) (by simp) ?_
  simp
  refine bG.cC (fun mr=>?_) (fun mr=>?_)
  ·have gD:b.length=1:=by omega
   obtain⟨y,rfl⟩:=List.length_eq_one_iff.1 gD
   have ui:0<y:=by
    have:=kH
    simp[Trim]at this
    omega
   have ou:y<4294967296:=bS.2 y (by simp)
   try simp
   refine cK (af:=fM) (n:=0) (by simpa using bS.row) (by simp) (a:=y) (by simp) (by simp) (by simp) (by simp) (.inr rfl) ?_
   rintro p u ⟨rfl,-⟩
   simp
   refine a7.mk (Hx bO (by omega) ui ou) ?_
   rintro u aY ⟨I,q,l,rfl,av,tz,sk⟩
   simp
   have jW:val a % y<4294967296:=Nat.lt_trans (Nat.mod_lt _ ui) ou
   obtain⟨r,aj⟩:∃r,val a % y=r:=⟨_,rfl⟩
   rw[aj]at jW
   refine sH (e:=95) (J:=1) (z:= .int .u32 0) (out:=[.int .u32 (r:Int)]) (by simp) (by simp) (by simp) (by rfl) (by rfl) (by omega) (by omega) (by omega) ?_ (by simp) ?_
   ·simp[iy,made,nI]
    rw[<-aj]
    simp
   simp
   have eb:=cO.fresh aY 95 [r] 1 1 (Nat.le_refl _) rfl (by simpa using jW) false
   refine a7.mk (lp (l:=[r]) (by simpa using eb) (by simp)) ?_
   rintro u bZ ⟨rfl,m,hm,QK,pj,-⟩
   simp[bj]
   refine aG _ _ ⟨I.snoc _ _ _,_,_,l,m,rfl,av.ext ((Ext.refl _).snoc _ _ _),tz,by rw[sk];simp[val],hm,QK,?_⟩
   rw[pj,<-aj]
   simp[val]
  ·try simp
   obtain⟨m,gD⟩:∃m,b.length=m+2:=⟨b.length-2,by omega⟩
   refine cY (by simpa using bS.row) (by simp) ?_
   have kK:IntKind.i64.wrap ((m:Int)+2-1)=(m:Int)+1:=by rw[cP (by omega) (by omega)];omega
   rw[gD]
   simp[kK]
   obtain⟨rr,qk⟩:∃x,b[m+1]?.getD 0=x:=⟨_,rfl⟩
   have CQ:b[m+1]?=some rr:=by rw[<-qk,bx (by omega)];rfl
   have Rl:rr<4294967296:=bS.2 rr (List.mem_of_getElem? CQ)
   have Rk:0<rr:=by
    have:=kH
    rw[Trim,List.getLast?_eq_getElem?,gD,show m+2-1=m+1 by omega,CQ]at this
    rcases Nat.eq_zero_or_pos rr with q | q
    ·rw[q]at this;exact absurd rfl this
    ·exact q
   refine cK (af:=fM) (n:=m+1) (by simpa using bS.row) (by simp) CQ (by simp) (by simp) (by simp) (.inr rfl) ?_
   rintro p u ⟨rfl,-⟩
   simp
   refine a7.mk (VJ Rl Rk) ?_
   rintro u H ⟨rfl,s,rfl,Dt,tI⟩
   simp
   refine a7.mk (M_ bS (by omega) Dt) ?_
   rintro agr aY ⟨bu,aex,Qo,ad9,Ss⟩
   simp
   refine a7.mk (lp Qo.row.us (by omega)) ?_
   rintro agq aY ⟨rfl,aA,nm,tA,ig,-⟩
   simp
   rw[Ss]at ig
   have Jd:val b<4294967296^(m+1)*(rr+1)/\4294967296^(m+1)<=val b:=by
    have o:=iu b (m+1)
    rw[show b.take (m+1+1)=b from by rw[<-gD,List.take_length],qk]at o
    have aa:=jC (l:=b.take (m+1)) fun x I=>bS.2 x (List.mem_of_mem_take I)
    rw[List.length_take,Nat.min_eq_left (by omega)]at aa
    have aD:=kH.le (by intro e;simp[e]at gD)
    rw[gD,show m+2-1=m+1 by omega]at aD
    refine⟨?_,aD⟩
    rw[o,Nat.mul_add]
    omega
   have w5:aA.length=m+2:=by
    have o:aA.length<=m+2:=by
     refine tA.length_le ?_
     rw[ig]
     have:4294967296^(m+1)*(rr+1)*2^s<=4294967296^(m+1)*4294967296:=by
      rw[Nat.mul_assoc]
      refine Nat.mul_le_mul_left _ ?_
      have e:(4294967296:Nat)=2^s*2^(32-s):=by rw[<-Nat.pow_add];rw[show s+(32-s)=32 by omega]
      rw[Nat.mul_comm,e]
      refine Nat.mul_le_mul_left _ ?_
      refine Nat.lt_of_mul_lt_mul_left (a:=2^s) ?_
      rw[<-e,Nat.mul_comm]
      exact tI
     rw[<-Nat.pow_succ]at this
     exact Nat.lt_of_lt_of_le (Nat.mul_lt_mul_of_pos_right Jd.1 (Nat.pow_pos (by decide))) this
    have aa:m+2<=aA.length:=by
     rcases Nat.lt_or_ge aA.length (m+2)with h | h
     ·exfalso
      have aD:=jC nm.2
      rw[ig]at aD
      have bD:4294967296^aA.length<=4294967296^(m+1):=Nat.pow_le_pow_right (by decide) (by omega)
      have b2:val b*1<=val b*2^s:=Nat.mul_le_mul_left _ (Nat.pow_pos (by decide))
      omega
     ·exact h
    omega
   have pk:aA[m+1]?.getD 0≠0:=by
    have:=tA
    rw[Trim,List.getLast?_eq_getElem?,w5,show m+2-1=m+1 by omega,bx (by omega)]at this
    rw[bx (by omega)]
    exact fun h=>this (by rw[<-h];rfl)
   refine a7.mk (M_ (bO.ext bu) (by omega) Dt) ?_
   rintro agx bR ⟨b5,us,yU,aeh,Kj⟩
   simp
   refine cY (by simpa using(nm.ext b5).row) (by simp) ?_
   rw[w5]
   simp
   refine cY (by simpa using(bO.ext (bu.aB b5)).row) (by simp) ?_
   have rQ:b.length<=a.length:=by
    rcases Nat.lt_or_ge a.length b.length with h | h
    ·have:=kH.uu bO.2 h;omega
    ·exact h
   obtain⟨d,CH⟩:∃d,a.length=d+(m+2):=⟨a.length-(m+2),by omega⟩
   have Kp:IntKind.i64.wrap ((d:Int)+((m:Int)+2)-((m:Int)+2))=(d:Int):=by rw[cP (by omega) (by omega)];omega
   have qH:IntKind.i64.wrap ((d:Int)+1)=(d:Int)+1:=cP (by omega) (by omega)
   have oj:IntKind.i64.wrap (d:Int)=(d:Int):=cP (by omega) (by omega)
   rw[CH]
   simp[Kp,qH,oj]
   refine q5 (e:=95) (J:=1) (bs:=4) (n:=d+1) (ay:=false) (z:= .int .u32 0) (af:=fM) (a:=0) (eo:= .i64) (cB:= .i64) (by simp) (by simp) (by simp) (by simp) (by rfl) (by simp) Fu (by simp) (by simp) (by omega) (by omega) (by omega) (fun aC=>⟨rfl,by decide⟩) ?_
   rintro aaa b_ Qp c1-
   simp
   refine cY (by simpa using(bO.ext (bu.aB (b5.aB c1))).row) (by simp) ?_
   rw[CH]
   simp[Kp,oj]
   have QP:=yU.row.us.2
   obtain⟨cs,⟨gu,cL⟩,Rq⟩:=yU
   have fX:cs=fv us:=M5 gu fun _ i x ad=>Rq i x ad
   subst fX
   rcases cL with⟨aH,-⟩ | ⟨nX,U,cap,l,all,rfl,-,qm,CR,I9,bq,cQ⟩
   ·omega
   rw[Nat.mul_one]at bq cQ
   have CI:all=all.take U++(fv us++all.drop (U+us.length)):=by
    rw[cQ,<-List.drop_drop,List.take_append_drop,List.take_append_drop]
   have zz:(all.take U).length=U:=by rw[List.length_take];omega
   generalize all.take U=pre at CI zz
   generalize all.drop (U+us.length)=post at CI
   subst CI
   have Q2:=c1.get_some I9
   have tB:0<val aA:=by
    have:=tA.le (by intro e;simp[e]at w5)
    have aa:=Nat.pow_pos (n:=aA.length-1) (show 0<4294967296 by decide)
    omega
   have adz:val aA<4294967296^(m+2):=by have:=jC nm.2;rwa[w5]at this
   have lT:val (us.drop (d+1))<val aA:=by
    have o:=Fk us (d+1)
    rw[Nat.min_eq_left (by omega)]at o
    have aa:=jC bO.2
    rw[CH,show d+(m+2)=d+1+(m+1) by omega,Nat.pow_add]at aa
    have aD:4294967296^(d+1)*val (us.drop (d+1))<4294967296^(d+1)*(4294967296^(m+1)*2^s):=by
     have:val a*2^s<4294967296^(d+1)*4294967296^(m+1)*2^s:=Nat.mul_lt_mul_of_pos_right aa (Nat.pow_pos (by decide))
     rw[Nat.mul_assoc]at this
     omega
    have bD:=Nat.lt_of_mul_lt_mul_left aD
    have b2:4294967296^(m+1)*2^s<=val b*2^s:=Nat.mul_le_mul_right _ Jd.2
    omega
   refine dy.mk (by kernel_rfl) (fun k dG e7 dX=>k<=d+1/\dG 13= .int .i64 ((k:Int)-1)/\Ext aY dX/\Ext H dX/\∃du oA:List Nat,dX[nX]?=some (.own 95 l (pre++(fv du++post)))/\du.length=us.length/\(∀x∈du,x<4294967296)/\bz bR.length 95 1 false fM dX aaa oA/\oA.length=d+1/\
    val du+val aA*(4294967296^k*val (oA.drop k))=val us/\val (du.drop k)<val aA) (d+1) ?_ ?_
   ·refine⟨Nat.le_refl _,by simp,b5.aB c1,bu.aB (b5.aB c1),us,_,Q2,rfl,QP,Qp,by simp,?_,lT⟩
    rw[List.drop_eq_nil_of_le (by simp),show val []=0 from rfl,Nat.mul_zero,Nat.mul_zero,Nat.add_zero]
   ·rintro k dG e7 dX ⟨ai,h8,cH,Ky,du,oA,y1,Tf,tX,o1,r9,hinv,tM⟩ K a1
    simp at h8
    simp[h8]
    refine bG.cC (fun aT=>?_) (fun aT=>?_)
    ·obtain⟨j,rfl⟩:∃j,k=j+1:=⟨k-1,by omega⟩
     have aQ:((j+1:Nat):Int)-1=(j:Int):=by omega
     have my:(j:Int)+1-1=(j:Int):=by omega
     have bp:IntKind.i64.wrap ((j:Int)+((m:Int)+2))=(j:Int)+((m:Int)+2):=cP (by omega) (by omega)
     have bo:IntKind.i64.wrap ((j:Int)+((m:Int)+2)+1)=((j+m+3:Nat):Int):=by rw[cP (by omega) (by omega)];omega
     have rA:IntKind.i64.wrap ((j:Int)-1)=(j:Int)-1:=cP (by omega) (by omega)
     have e0:IntKind.i64.wrap (j:Int)=(j:Int):=cP (by omega) (by omega)
     try simp
     simp[h8,aQ,my,bp,bo]
     have adF:us.length<=cap:=qm
     refine ML (b:=nX) (i:=U) (len:=us.length) (cap:=cap) (l:=j) (h:=j+m+3) (e:=95) (J:=1) (by simp) y1 rfl (by simp) (by simp) (by simp[dN]) (by simp[fo];omega) (by omega) (by omega) (by omega) ?_
     simp
     obtain⟨na,bc⟩:∃na,(du.drop j).take (m+3)=na:=⟨_,rfl⟩
     obtain⟨af,bl⟩:∃af,(du.drop j).drop (m+3)=af:=⟨_,rfl⟩
     have tz:na.length=m+3:=by rw[<-bc];simp;omega
     have Qx:af.length=du.length-(j+(m+3)):=by rw[<-bl];simp[Nat.sub_sub]
     have Dx:du=du.take j++(na++af):=by rw[<-bc,<-bl,List.take_append_drop,List.take_append_drop]
     have QI:∀x∈na,x<4294967296:=fun x I=>tX x (by rw[Dx];simp[I])
     have Qy:∀x∈af,x<4294967296:=fun x I=>tX x (by rw[Dx];simp[I])
     have Kb:(du.take j).length=j:=by simp;omega
     have lf:val (du.drop j)=val na+4294967296^(m+3)*val af:=by
      have:du.drop j=na++af:=by rw[<-bc,<-bl,List.take_append_drop]
      rw[this,mY,tz]
     have Ji:val (du.drop j)<4294967296*val aA:=by
      rw[sM _ _ (by omega)]
      have:=vG (l:=du) (by decide) tX j
      omega
     have Cv:val af=0:=by
      rcases Nat.eq_zero_or_pos (val af)with h | h
      ·exact h
      ·exfalso
       have o:4294967296^(m+3)*1<=4294967296^(m+3)*val af:=Nat.mul_le_mul_left _ h
       have aa:4294967296*val aA<=4294967296*4294967296^(m+2):=Nat.mul_le_mul_left _ (by omega)
       have aD:(4294967296:Nat)^(m+3)=4294967296*4294967296^(m+2):=by rw[Nat.pow_succ,Nat.mul_comm]
       omega
     rw[Cv,Nat.mul_zero,Nat.add_zero]at lf
     have QY:dX[nX]?=some (.own 95 l ((pre++fv (du.take j))++(fv na++(fv af++post)))):=by
      rw[y1]
      congr 2
      conv=>lhs;rw[Dx]
      simp[fv]
     have j7:j+m+3-j=m+3:=by omega
     rw[j7]
     refine a7.mk (Oz (m:=m) QY (by simp[fv,zz];omega) tz QI (fun X aR=>nm.ext (cH.set CR aR)) w5 (by omega) pk (by rw[<-lf];exact Ji)) ?_
     rintro u cE ⟨⟨q,rfl,av⟩,rl,rfl,QH,QJ,tA⟩
     have zB:q<4294967296:=by rw[av,Nat.div_lt_iff_lt_mul tB,<-lf];exact Ji
     simp
     have Rm:nX<dX.length:=(cd.1 y1).1
     have Jc:nX<bR.length:=(cd.1 I9).1
     refine ja (af:=fM) (n:=j) (k:=bR.length) (xs:=oA) (a:=q) (by simpa using o1.Xq Jc (fun u y h=>h)) (by simp) (by omega) ⟨by simp,zB⟩ (by simpa using xZ _) (by simp) (fun _ _ _ _ _ h=>h) (by simp) (by simp) (by simp) (by decide) ?_
     rintro qU eE fm c9-wJ Je
     simp at fm Je
     have Jm:∀cx:ab,cx.length<=nX->Ext cx dX->Ext cx eE:=fun cx aH I=>c9 cx (by omega) (by simpa using I.set aH (X:= .own 95 l ((pre++fv (du.take j))++(fv rl++(fv af++post)))) (by simp))
     have QZ:eE[nX]?=some (.own 95 l (pre++(fv (du.take j++(rl++af))++post))):=by
      rw[Je nX Jc,List.getElem?_set_self Rm]
      simp[fv]
     simp[h8,aQ]
     refine a1 j _ _ _ (by omega) ⟨by omega,by simp[rA],Jm _ CR cH,Jm _ (Nat.le_trans bu.len CR) Ky,_,_,QZ,?_,?_,by simpa using fm,by simp[r9],?_,?_⟩
     ·rw[List.length_append,List.length_append,Kb,QH,Qx];omega
     ·intro x I
      rcases List.mem_append.1 I with I | I
      ·exact tX x (List.mem_of_mem_take I)
      ·rcases List.mem_append.1 I with I | I
       ·exact QJ x I
       ·exact Qy x I
     ·have o:val du=val (du.take j)+4294967296^j*val na:=by
       have:=Fk du j
       rw[Nat.min_eq_left (by omega),lf]at this
       exact this
      have aa:val (du.take j++(rl++af))=val (du.take j)+4294967296^j*val rl:=by
       rw[mY,mY,Kb,Cv,Nat.mul_zero,Nat.add_zero]
      have aD:val ((oA.set j q).drop j)=q+4294967296*val (oA.drop (j+1)):=by
       rw[sM _ _ (by simp;omega),List.getElem?_set_self (by omega),List.drop_set_of_lt (by omega)]
       rfl
      have bD:=Nat.div_add_mod (val na) (val aA)
      rw[<-av,<-tA]at bD
      rw[aa,aD]
      rw[o,Nat.pow_succ]at hinv
      generalize (4294967296:Nat)^j=E at*
      generalize val (oA.drop (j+1))=Z at*
      have p6:val aA*(E*(q+4294967296*Z))=E*(val aA*q)+val aA*(E*4294967296*Z):=by grind
      have adm:E*val na=E*(val aA*q)+E*val rl:=by rw[<-Nat.mul_add,bD]
      omega
     ·have:(du.take j++(rl++af)).drop j=rl++af:=by
       rw[List.drop_append_of_le_length (by omega),List.drop_eq_nil_of_le (by omega),List.nil_append]
      rw[this,mY,Cv,Nat.mul_zero,Nat.add_zero,tA]
      exact Nat.mod_lt _ tB
    ·have qt:k=0:=by omega
     subst qt
     simp at hinv tM
     have QN:cO dX 95 (.slice (some ⟨nX,U,none⟩) us.length cap) du:=by
      refine⟨⟨_,cap,by rw[Tf],by omega,by simp,fun _=>⟨nX,U,_,_,rfl,y1,rfl,rfl,?_,?_⟩⟩,tX⟩
      ·simp[fv,zz]
      ·rw[<-zz,List.drop_append_of_le_length (Nat.le_refl _),List.drop_length,List.nil_append,Nat.mul_one,List.take_append_of_le_length (by simp[fv])]
       rw[List.take_of_length_le (by simp[fv])]
       rfl
     try simp
     refine a7.mk (lp o1.row.us (by omega)) ?_
     rintro q cE ⟨rfl,hx,Sa,o2,sl,-⟩
     refine⟨Ext.refl _,?_⟩
     simp
     refine q7 (e:=95) (J:=1) (ay:=false) (l:=0) (h:=m+2) (af:=fM) (xs:=du) (by simpa using QN.row) (by simp) (by simp) (.inr rfl) (by simp[dN]) (by simp[fo];omega) (by omega) (by omega) ?_
     intro agu aj
     simp at aj
     simp
     refine a7.mk (lp aj.us (by simp;omega)) ?_
     rintro t eE ⟨rfl,lt,a3,QL,sm,-⟩
     simp
     have ad2:lt.length<=m+2:=by
      refine QL.length_le ?_
      rw[sm]
      have:=jC (l:=du.take (m+2)) fun x I=>tX x (List.mem_of_mem_take I)
      rw[List.length_take]at this
      exact Nat.lt_of_lt_of_le this (Nat.pow_le_pow_right (by decide) (Nat.min_le_left _ _))
     refine a7.mk (O2 a3 (by omega) Dt) ?_
     rintro z e8 ⟨dA,ur,zm,rN,mF⟩
     simp[bj]
     have S_:val (du.take (m+2))=val du:=by
      have o:=Fk du (m+2)
      rw[Nat.min_eq_left (by omega)]at o
      rcases Nat.eq_zero_or_pos (val (du.drop (m+2)))with h | h
      ·rw[h,Nat.mul_zero,Nat.add_zero]at o;exact o.symm
      ·have aa:4294967296^(m+2)*1<=4294967296^(m+2)*val (du.drop (m+2)):=Nat.mul_le_mul_left _ h
       omega
     have r7:0<2^s:=Nat.pow_pos (by decide)
     have SL:val oA=val a/val b:=by
      have o:val us/val aA=val oA:=by
       rw[<-hinv,Nat.add_mul_div_left _ _ tB,Nat.div_eq_of_lt tM,Nat.zero_add]
      rw[<-o,Kj,ig,Nat.mul_div_mul_right _ _ r7]
     have zE:val du=(val a % val b)*2^s:=by
      have o:val us % val aA=val du:=by
       rw[<-hinv,Nat.add_mul_mod_self_left,Nat.mod_eq_of_lt tM]
      rw[<-o,Kj,ig,Nat.mul_mod_mul_right]
     exact aG _ _ ⟨Ky.aB dA,_,_,hx,ur,rfl,Sa.ext dA,o2,by rw[sl,SL],zm,rN,by rw[mF,sm,S_,zE,Nat.mul_div_cancel _ r7]⟩
instance:bM c5:=⟨fun h I=>h.ext I⟩
theorem xp{neg:Bool}{v:Value}{l:List Nat}{H:ab}(eb:cO H 95 v l)(bc:Trim l):a0 prog 54 [.bool neg,v] H (fun w H1=>Ext H H1/\c5 H1 w (if neg=true then-(val l:Int)else val l)):=by
 obtain⟨a,c,rfl⟩:=eb.len
 exact sw.mono fun w H1 ⟨I,hw⟩=>⟨I,c5.mk' hw (eb.ext I) bc⟩
theorem c5.whole{H:ab}{v:Value}{z:Int}(h:c5 H v z):Whole prog 42 v:=by
 obtain⟨a,c,l,rfl,-⟩:=h
 exact⟨by simp,by simp,by simp[eB]⟩
theorem c5.us{H:ab}{s:Bool}{v:Value}{z:Int}(h:c5 H (.agg #[.bool s,v]) z):∃l,s=decide (z<0)/\cO H 95 v l/\Trim l/\val l=z.natAbs:=by
 obtain⟨a,c,l,he,aa,aD,bD⟩:=h
 simp at he
 obtain⟨rfl,rfl⟩:=he
 exact⟨l,rfl,aa,aD,bD⟩
theorem WN{a b q r:Int}(ae:b≠0)(av:q=if(!(decide (a<0)==decide (b<0)))=true then-((a.natAbs/b.natAbs:Nat):Int)else((a.natAbs/b.natAbs:Nat):Int))(aj:r=if decide (a<0)=true then-((a.natAbs % b.natAbs:Nat):Int)else((a.natAbs % b.natAbs:Nat):Int)):
  (if a.natAbs % b.natAbs=0\/(!(decide (a<0)==decide (b<0)))=false then q else q-1)=a.fdiv b/\(if a.natAbs % b.natAbs=0\/(!(decide (a<0)==decide (b<0)))=false then r else r+b)=a.fmod b:=by
 have hm:a.fmod b=a-b*a.fdiv b:=Int.fmod_def a b
 have key:∀Q:Int,(0<b->b*Q<=a/\a<b*Q+b)->(b<0->a<=b*Q/\b*Q+b<a)->Q=a.fdiv b:=by
  intro Q o aa
  rcases Int.lt_or_lt_of_ne ae with h | h
  ·obtain⟨dp,hd⟩:=aa h
   have e:a.fdiv b=(-a).fdiv (-b):=by rw[Int.neg_fdiv_neg]
   rw[e,Int.fdiv_eq_ediv_of_nonneg _ (by omega)]
   refine(Int.ediv_eq_iff_of_pos (by omega)).2 ?_ |>.symm
   constructor<;>grind
  ·obtain⟨dp,hd⟩:=o h
   rw[Int.fdiv_eq_ediv_of_nonneg _ (by omega)]
   refine(Int.ediv_eq_iff_of_pos (by omega)).2 ?_ |>.symm
   constructor<;>grind
 have mw:=Nat.div_add_mod a.natAbs b.natAbs
 have fp:=Nat.mod_lt a.natAbs (show 0<b.natAbs by omega)
 generalize a.natAbs/b.natAbs=x at*
 generalize a.natAbs % b.natAbs=y at*
 have aT:(b.natAbs:Int)*x+y=a.natAbs:=by exact_mod_cast mw
 have aG:(if y=0\/(!(decide (a<0)==decide (b<0)))=false then q else q-1)=a.fdiv b:=by
  refine key _ (fun h=>?_) (fun h=>?_)
  ·have bo:decide (b<0)=false:=by simp;omega
   have bS:(b.natAbs:Int)=b:=by omega
   rw[bS]at aT
   by_cases aF:a<0
   ·have bp:decide (a<0)=true:=by simpa using aF
    have bO:(a.natAbs:Int)= -a:=by omega
    simp[bp,bo]at av⊢
    rw[bO]at aT
    rw[av]
    split
    ·constructor<;>grind
    ·constructor<;>grind
   ·have bp:decide (a<0)=false:=by simpa using aF
    have bO:(a.natAbs:Int)=a:=by omega
    simp[bp,bo]at av⊢
    rw[bO]at aT
    rw[av]
    constructor<;>grind
  ·have bo:decide (b<0)=true:=by simpa using h
   have bS:(b.natAbs:Int)= -b:=by omega
   rw[bS]at aT
   by_cases aF:a<0
   ·have bp:decide (a<0)=true:=by simpa using aF
    have bO:(a.natAbs:Int)= -a:=by omega
    simp[bp,bo]at av⊢
    rw[bO]at aT
    rw[av]
    constructor<;>grind
   ·have bp:decide (a<0)=false:=by simpa using aF
    have bO:(a.natAbs:Int)=a:=by omega
    simp[bp,bo]at av⊢
    rw[bO]at aT
    rw[av]
    split
    ·constructor<;>grind
    ·constructor<;>grind
 refine⟨aG,?_⟩
 rw[hm,<-aG]
 by_cases aF:a<0<;>by_cases cM:b<0
 ·have bO:(a.natAbs:Int)= -a:=by omega
  have bS:(b.natAbs:Int)= -b:=by omega
  rw[bO,bS]at aT
  simp[aF,cM]at av aj⊢
  rw[av,aj];grind
 ·have bO:(a.natAbs:Int)= -a:=by omega
  have bS:(b.natAbs:Int)=b:=by omega
  rw[bO,bS]at aT
  simp[aF,cM]at av aj⊢
  rw[av,aj]
  split<;>grind
 ·have bO:(a.natAbs:Int)=a:=by omega
  have bS:(b.natAbs:Int)= -b:=by omega
  rw[bO,bS]at aT
  simp[aF,cM]at av aj⊢
  rw[av,aj]
  split<;>grind
 ·have bO:(a.natAbs:Int)=a:=by omega
  have bS:(b.natAbs:Int)=b:=by omega
  rw[bO,bS]at aT
  simp[aF,cM]at av aj⊢
  rw[av,aj];grind
theorem WO{v w:Value}{a b:Int}{H:ab}(bO:c5 H v a)(bS:c5 H w b)(bk:Fits a)(jJ:Fits b)(ae:b≠0):a0 prog 82 [v,w] H (fun u H1=>Ext H H1/\∃x y,u= .tuple #[x,y]/\c5 H1 x (a.fdiv b)/\c5 H1 y (a.fmod b)):=by
 refine a0.cq fun Q aG=>?_
 apply T7 (by simp)
 have Nh:=bO.whole
 have Ni:=bS.whole
 obtain⟨s1,b1,dx,cG,rfl⟩:=bO.shape
 obtain⟨s2,ds,dF,dh,rfl⟩:=bS.shape
 obtain⟨dR,rfl,wc,n6,w3⟩:=bO.us
 obtain⟨fG,rfl,yZ,kH,si⟩:=bS.us
 have jT:=bk.length n6 w3
 have jq:=jJ.length kH si
 have R4:0<fG.length:=by rw[kH.pos,si];omega
 simp[GA]
 have ck:Ext H (H++[.dead,.dead,.dead,.dead]):=Ext.more H (by simp)
 refine a7.mk (LG (wc.ext ck) n6 (yZ.ext ck) kH R4 (by omega) (by omega)) ?_
 rintro u H1 ⟨bI,q,r,hx,ur,rfl,av,o2,sl,aj,rN,mF⟩
 simp
 rw[w3,si]at sl mF
 refine a7.mk (xp av o2) ?_
 rintro x aY ⟨bu,I⟩
 refine⟨bu,?_⟩
 simp
 refine a7.mk (xp (aj.ext bu) rN) ?_
 rintro y bZ ⟨bP,aJ⟩
 refine⟨bP,?_⟩
 have aR:=I.ext bP
 simp
 refine ev.mk I.whole ?_
 simp
 refine ev.mk aJ.whole ?_
 have c1:Ext H (bZ++[.dead,.dead]):=(ck.aB (bI.aB (bu.aB bP))).aB (Ext.more bZ (by simp))
 have cH:Ext bZ (bZ++[.dead,.dead]):=Ext.more bZ (by simp)
 have SN:=(aj.ext bu).ext (bP.aB cH)
 obtain⟨lR,wU⟩:=WN (a:=a) (b:=b) (q:=_) (r:=_) ae rfl rfl
 rw[sl]at aR
 rw[mF]at aJ
 have zm:0<ur.length↔¬(a.natAbs % b.natAbs=0):=by rw[rN.pos,mF];omega
 refine bV.join (by kernel_rfl) (fun c7 dV bR=>Ext H bR/\c5 bR (dV 8) (a.fdiv b)/\c5 bR (dV 9) (a.fmod b)) ?_ ?_
 ·rintro K a1-
  rw[kp]
  refine bV.join (by kernel_rfl) (fun c7 dV bR=>bR=bZ++[.dead,.dead]/\∃c:Bool,c7 38= .bool c/\(c=true↔¬(a.natAbs % b.natAbs=0\/(!(decide (a<0)==decide (b<0)))=false))) ?_ ?_
  ·rintro cT ee-
   simp
   refine cY (by simpa using SN.row) (by simp) ?_
   simp
   refine bG.cC (fun aT=>?_) (fun aT=>?_)
   ·simp[aT]
    refine ee _ _ _ ⟨rfl,(!(decide (a<0)==decide (b<0))),by simp,?_⟩
    have:=zm.1 aT
    simp[this]
   ·simp[aT]
    refine ee _ _ _ ⟨rfl,false,by simp,?_⟩
    have:a.natAbs % b.natAbs=0:=by
     rcases Nat.eq_zero_or_pos (a.natAbs % b.natAbs)with h | h
     ·exact h
     ·exact absurd (zm.2 (by omega)) aT
    simp[this]
  ·rintro c7 dV bR ⟨rfl,c,IB,ag⟩
   simp at IB
   simp[IB]
   refine bG.mk (fun fE=>?_) (fun fE=>?_)
   ·have wq:=ag.1 fE
    rw[if_neg wq]at lR wU
    try simp
    refine a7.mk (uz (by omega) (by omega)) ?_
    rintro U b_ ⟨cA,aK⟩
    refine⟨cA,?_⟩
    simp
    have f1:Fits 1:=Fits.small (by decide)
    have SK:Fits (if(!(decide (a<0)==decide (b<0)))=true then-((a.natAbs/b.natAbs:Nat):Int)else((a.natAbs/b.natAbs:Nat):Int)):=by
     have:a.natAbs/b.natAbs<=a.natAbs:=Nat.div_le_self _ _
     unfold Fits at bk⊢
     split<;>omega
    have SO:Fits (if decide (a<0)=true then-((a.natAbs % b.natAbs:Nat):Int)else((a.natAbs % b.natAbs:Nat):Int)):=by
     have:a.natAbs % b.natAbs<=a.natAbs:=Nat.mod_le _ _
     unfold Fits at bk⊢
     split<;>omega
    refine a7.mk (Mr (aR.ext (cH.aB cA)) aK SK f1) ?_
    rintro eh dX ⟨c9,oq⟩
    refine⟨c9,?_⟩
    simp
    refine a7.mk (yh ((aJ.ext (cH.aB cA)).ext c9) ((bS.ext c1).ext (cA.aB c9)) SO jJ) ?_
    rintro l7 cE ⟨dA,ps⟩
    simp
    refine ev.mk oq.whole ?_
    simp
    refine ev.mk ps.whole ?_
    rw[lR]at oq
    rw[wU]at ps
    exact a1 _ _ _ ⟨c1.aB (cA.aB (c9.aB dA)),by simpa using oq.ext dA,by simpa using ps⟩
   ·have wq:(a.natAbs % b.natAbs=0\/(!(decide (a<0)==decide (b<0)))=false):=by
     apply Classical.byContradiction
     intro h
     rw[ag.2 h]at fE
     cases fE
    rw[if_pos wq]at lR wU
    rw[lR]at aR
    rw[wU]at aJ
    exact a1 _ _ _ ⟨c1,by simpa using aR.ext cH,by simpa using aJ.ext cH⟩
 ·rintro c7 dV bR ⟨I,d_,n0⟩
  simp at d_ n0
  simp
  refine ev.mk d_.whole ?_
  simp
  refine ev.mk n0.whole ?_
  simp[bj]
  exact aG _ _ ⟨I,_,_,rfl,d_,n0⟩
theorem Io{v w:Value}{a b:Int}{H:ab}(bO:c5 H v a)(bS:c5 H w b)(bk:Fits a)(jJ:Fits b):a0 prog 64 [v,w] H (fun u H1=>Ext H H1/\c5 H1 u (Int.gcd a b)):=by
 refine a0.cq fun Q aG=>?_
 apply T4 (by simp)
 have Nh:=bO.whole
 have Ni:=bS.whole
 obtain⟨s1,b1,dx,cG,rfl⟩:=bO.shape
 obtain⟨s2,ds,dF,dh,rfl⟩:=bS.shape
 obtain⟨dR,rfl,wc,n6,w3⟩:=bO.us
 obtain⟨fG,rfl,yZ,kH,si⟩:=bS.us
 have jT:=bk.length n6 w3
 have jq:=jJ.length kH si
 simp[Gz]
 have ck:Ext H (H++[.dead,.dead,.dead]):=Ext.more H (by simp)
 refine dy.mk (by kernel_rfl) (fun n az bC H1=>Ext H H1/\∃x y:List Nat,n=val y/\cO H1 95 (az 5) x/\Trim x/\x.length<=1000000/\cO H1 95 (az 6) y/\Trim y/\y.length<=1000000/\Nat.gcd (val x) (val y)=Int.gcd a b) (val fG) ?_ ?_
 ·exact⟨ck,dR,fG,rfl,by simpa using wc.ext ck,n6,jT,by simpa using yZ.ext ck,kH,jq,by rw[w3,si];rfl⟩
 ·rintro n az bC H1 ⟨bI,x,y,rfl,I,yY,ad3,aJ,qh,zp,aU⟩ K a1
  simp at I aJ
  simp
  refine cY (by simpa using aJ.row) (by simp) ?_
  simp
  refine bG.cC (fun aT=>?_) (fun aT=>?_)
  ·try simp
   refine a7.mk (LG I yY aJ qh aT (by omega) (by omega)) ?_
   rintro u aY ⟨bu,q,r,hx,ur,rfl,av,o2,sl,aj,rN,mF⟩
   simp
   have sn:0<val y:=(qh.pos).1 aT
   refine a1 (val ur) _ _ _ (by rw[mF];exact Nat.mod_lt _ sn) ⟨bI.aB bu,y,ur,rfl,by simpa using aJ.ext bu,qh,zp,by simpa using aj,rN,?_,?_⟩
   ·refine Nat.le_trans (rN.length_le (n:=y.length) ?_) zp
    rw[mF]
    exact Nat.lt_trans (Nat.mod_lt _ sn) (jC aJ.2)
   ·rw[mF,<-aU,Nat.gcd_comm (val x) (val y),Nat.gcd_rec (val y) (val x),Nat.gcd_comm]
  ·try simp
   have ui:y=[]:=List.eq_nil_of_length_eq_zero (by omega)
   subst ui
   refine a7.mk (xp I yY) ?_
   rintro u aY ⟨bu,hu⟩
   simp
   refine ev.mk hu.whole ?_
   simp[bj]
   simp[val]at aU
   rw[aU]at hu
   exact aG _ _ ⟨bI.aB bu,by simpa using hu⟩
def b4(H:ab)(v:Value)(q:Rat):Prop:=e_ H v q.num q.den
instance:bM b4:=⟨fun h I=>e_.ext h I⟩
theorem b4.ext{H H1:ab}{v:Value}{q:Rat}(h:b4 H v q)(I:Ext H H1):b4 H1 v q:=e_.ext h I
theorem e_.whole{H:ab}{v:Value}{n d:Int}(h:e_ H v n d):Whole prog 44 v:=by
 obtain⟨s1,b1,dx,cG,s2,ds,dF,dh,rfl,-⟩:=h.shape
 exact⟨by simp,by simp,by simp[eB]⟩
theorem b4.whole{H:ab}{v:Value}{q:Rat}(h:b4 H v q):Whole prog 44 v:=e_.whole h
theorem b4.kept{H aC:ab}{e:Nat}{s v:Value}{q:Rat}(h:b4 H v q)(ai:Kept H aC s e)(cF:95≠e):b4 aC v q:=e_.kept h ai cF
theorem Fits.le{a b:Int}(bk:Fits a)(h:b.natAbs<=a.natAbs):Fits b:=Nat.lt_of_le_of_lt h bk
def c4(N:Nat)(q:Rat):Prop:=q.num.natAbs<2^N/\q.den<2^N
theorem Fits.bits{z:Int}{N:Nat}(h:z.natAbs<2^N)(cj:N<=32000000):Fits z:=by
 exact Wz 1000000 h (by omega)
theorem c4.num{N:Nat}{q:Rat}(h:c4 N q)(cj:N<=32000000):Fits q.num:=Fits.bits h.1 cj
theorem c4.den{N:Nat}{q:Rat}(h:c4 N q)(cj:N<=32000000):Fits q.den:=Fits.bits (z:=q.den) (by simpa using h.2) cj
theorem c4.mono{N M:Nat}{q:Rat}(h:c4 N q)(I3:N<=M):c4 M q:=⟨Nat.lt_of_lt_of_le h.1 (Nat.pow_le_pow_right (by decide) I3),Nat.lt_of_lt_of_le h.2 (Nat.pow_le_pow_right (by decide) I3)⟩
theorem c4.int{N:Nat}{z:Int}(h:z.natAbs<2^N)(cj:0<N):c4 N (z:Rat):=⟨by rw[Rat.num_intCast];exact h,by rw[Rat.den_intCast];exact Nat.one_lt_two_pow (by omega)⟩
theorem c4.neg{N:Nat}{q:Rat}(h:c4 N q):c4 N (-q):=⟨by rw[Rat.neg_num,Int.natAbs_neg];exact h.1,h.2⟩
theorem BK(n:Int)(d:Nat)(aL:d≠0):(Rat.divInt n d).num=n/(Nat.gcd n.natAbs d:Nat)/\(Rat.divInt n d).den=d/Nat.gcd n.natAbs d:=by
 rw[Rat.divInt_ofNat,Rat.mkRat_def,dif_neg aL,Rat.normalize_eq aL]
 exact⟨rfl,rfl⟩
theorem c4.divInt{N:Nat}{n:Int}{d:Nat}(aL:d≠0)(aE:n.natAbs<2^N)(o5:d<2^N):c4 N (Rat.divInt n d):=by
 obtain⟨o,aa⟩:=BK n d aL
 refine⟨?_,?_⟩
 ·rw[o,Int.natAbs_ediv_of_dvd (Int.ofNat_dvd_left.2 (Nat.gcd_dvd_left _ _))]
  exact Nat.lt_of_le_of_lt (Nat.div_le_self _ _) aE
 ·rw[aa]
  exact Nat.lt_of_le_of_lt (Nat.div_le_self _ _) o5
theorem c4.add{N M:Nat}{a b:Rat}(aF:c4 N a)(ae:c4 M b):c4 (N+M+1) (a+b):=by
 rw[Rat.add_def',<-Rat.divInt_ofNat]
 have o:(a.num*b.den).natAbs<2^(N+M):=by
  rw[Int.natAbs_mul,Int.natAbs_natCast,Nat.pow_add]
  exact Nat.mul_lt_mul'' aF.1 ae.2
 have aa:(b.num*a.den).natAbs<2^(N+M):=by
  rw[Int.natAbs_mul,Int.natAbs_natCast,Nat.add_comm,Nat.pow_add]
  exact Nat.mul_lt_mul'' ae.1 aF.2
 refine c4.divInt (Nat.mul_ne_zero a.den_nz b.den_nz) ?_ ?_
 ·rw[Nat.pow_succ]
  have:=Int.natAbs_add_le (a.num*b.den) (b.num*a.den)
  omega
 ·have:a.den*b.den<2^(N+M):=by rw[Nat.pow_add];exact Nat.mul_lt_mul'' aF.2 ae.2
  rw[Nat.pow_succ]
  omega
theorem D2{f:FuncId}{args:List Value}{H:ab}{z:Int}(h:a0 prog f args H (fun u H1=>Ext H H1/\c5 H1 u z)):a0 prog f args H (fun u H1=>Ext H H1/\∃s a n c,u= .agg #[.bool s,.slice a n c]/\c5 H1 (.agg #[.bool s,.slice a n c]) z):=
 h.mono fun u H1 ⟨I,hu⟩=>by
  obtain⟨s,a,n,c,rfl⟩:=hu.shape
  exact⟨I,_,_,_,_,rfl,hu⟩
theorem LY{v w:Value}{a b:Int}{H:ab}(bO:c5 H v a)(bS:c5 H w b)(bk:Fits a)(jJ:Fits b)(ae:b≠0):a0 prog 82 [v,w] H (fun u H1=>Ext H H1/\∃s1 b1 dx cG s2 ds dF dh,u= .tuple #[.agg #[.bool s1,.slice b1 dx cG],.agg #[.bool s2,.slice ds dF dh]]/\c5 H1 (.agg #[.bool s1,.slice b1 dx cG]) (a.fdiv b)/\c5 H1 (.agg #[.bool s2,.slice ds dF dh]) (a.fmod b)):=
 (WO bO bS bk jJ ae).mono fun u H1 ⟨I,x,y,hu,o,aa⟩=>by
  obtain⟨s1,b1,dx,cG,rfl⟩:=o.shape
  obtain⟨s2,ds,dF,dh,rfl⟩:=aa.shape
  exact⟨I,_,_,_,_,_,_,_,_,hu,o,aa⟩
def vk(H:ab)(v w:Value)(n d:Int):Prop:=∃(dI:Int) (fc k5:Nat) (s1:Bool) (b1:Option Addr) (dx cG:Nat) (s2:Bool) (ds:Option Addr) (dF dh:Nat),v= .agg #[.bool s1,.slice b1 dx cG]/\w= .agg #[.bool s2,.slice ds dF dh]/\c5 H (.agg #[.bool s1,.slice b1 dx cG]) dI/\c5 H (.agg #[.bool s2,.slice ds dF dh]) fc/\Fits dI/\Fits fc/\Fits k5/\
 Int.gcd dI fc=k5/\0<k5/\k5<=fc/\(Rat.divInt n d).num=dI/k5/\(Rat.divInt n d).den=fc/k5/\(k5:Int)∣dI/\k5∣fc/\c5 H v dI/\c5 H w fc
theorem vk.mk'{H:ab}{v w:Value}{n d dI:Int}{fc:Nat}(cj:c5 H v dI)(ho:c5 H w fc)(yI:Fits dI)(vE:Fits fc)(kI:fc≠0)(t_:Rat.divInt dI fc=Rat.divInt n d):vk H v w n d:=by
 have Jw:0<Nat.gcd dI.natAbs fc:=Nat.gcd_pos_of_pos_right _ (by omega)
 have qo:Nat.gcd dI.natAbs fc<=fc:=Nat.le_of_dvd (by omega) (Nat.gcd_dvd_right _ _)
 obtain⟨kg,n9⟩:=BK dI fc kI
 have Jt:=Nat.gcd_dvd_left dI.natAbs fc
 have Js:=Nat.gcd_dvd_right dI.natAbs fc
 obtain⟨Mb,Hn,Ln,Hy,rfl⟩:=cj.shape
 obtain⟨Mc,Ho,Lo,Hz,rfl⟩:=ho.shape
 rw[t_]at kg n9
 exact⟨dI,fc,Nat.gcd dI.natAbs fc,Mb,Hn,Ln,Hy,Mc,Ho,Lo,Hz,rfl,rfl,cj,ho,yI,vE,vE.le (by omega),rfl,Jw,qo,kg,n9,Int.ofNat_dvd_left.2 Jt,Js,cj,ho⟩
theorem WR{v w:Value}{n d:Int}{H:ab}(bO:c5 H v n)(bS:c5 H w d)(fn:Fits n)(fd:Fits d)(aL:d≠0):a0 prog 69 [v,w] H (fun u H1=>Ext H H1/\b4 H1 u (Rat.divInt n d)):=by
 refine a0.cq fun Q aG=>?_
 apply Uk (by simp)
 have Nh:=bO.whole
 have Ni:=bS.whole
 have vJ:=bO
 have PM:=bS
 obtain⟨s1,b1,dx,cG,rfl⟩:=bO.shape
 obtain⟨s2,ds,dF,dh,rfl⟩:=bS.shape
 simp[GJ]
 have ck:Ext H (H++[.dead,.dead,.dead]):=Ext.more H (by simp)
 refine bV.join (by kernel_rfl) (fun c7 dV bR=>Ext H bR/\vk bR (dV 2) (dV 3) n d) ?_ ?_
 ·rintro K a1 IU
  obtain⟨fG,rfl,yZ,kH,si⟩:=bS.us
  simp
  refine bG.cC (fun aT=>?_) (fun aT=>?_)
  ·have e:((d.natAbs:Nat):Int)= -d:=by omega
   try simp
   refine a7.mk (Ab (bO.ext ck)) ?_
   rintro x H1 ⟨bI,I⟩
   refine⟨bI,?_⟩
   simp
   refine a7.mk (Ab (bS.ext (ck.aB bI))) ?_
   rintro y aY ⟨bu,aJ⟩
   simp
   refine ev.mk I.whole ?_
   simp
   refine ev.mk aJ.whole ?_
   refine a1 _ _ _ ⟨ck.aB (bI.aB bu),vk.mk' (dI:= -n) (fc:=d.natAbs) (by simpa using I.ext bu) (by rw[e];simpa using aJ) fn.neg (by rw[e];exact fd.neg) (by omega) (by rw[e,Rat.neg_divInt_neg])⟩
  ·have e:((d.natAbs:Nat):Int)=d:=by omega
   exact a1 _ _ _ ⟨ck,vk.mk' (dI:=n) (fc:=d.natAbs) (by simpa using bO.ext ck) (by rw[e];simpa using bS.ext ck) fn (by rw[e];exact fd) (by omega) (by rw[e])⟩
 ·rintro c7 dV bR ⟨b5,dI,fc,k5,Mb,Hn,Ln,Hy,Mc,Ho,Lo,Hz,jm,ia,cj,ho,yI,vE,BV,Pj,Jw,qo,kg,n9,Jt,Js,-,-⟩
  simp at jm ia
  simp[jm,ia]
  refine a7.mk (Io cj ho yI vE) ?_
  rintro g b_ ⟨c1,aU⟩
  rw[Pj]at aU
  have f1:Fits 1:=Fits.small (by decide)
  simp
  refine ev.mk aU.whole ?_
  simp
  have cH:Ext b_ (b_++[.dead]):=Ext.dead b_
  refine a7.mk (uz (by omega) (by omega)) ?_
  rintro U dX ⟨cA,aK⟩
  refine⟨cA,?_⟩
  simp
  refine a7.mk (D0 (aU.ext (cH.aB cA)) aK BV f1) ?_
  rintro c cE ⟨c9,rfl⟩
  simp
  have DT:Ext b_ cE:=cH.aB (cA.aB c9)
  have ot:Ext bR cE:=c1.aB DT
  refine bG.cC (fun ag=>?_) (fun ag=>?_)
  ·have n_:k5=1:=by
    by_cases o:(k5:Int)<1
    ·omega
    ·rw[if_neg o]at ag
     split at ag
     ·omega
     ·cases ag
   rw[n_]at kg n9
   simp only[Int.natCast_one,Int.ediv_one,Nat.div_one]at kg n9
   simp[jm,ia]
   simp[bj]
   refine aG _ _ ⟨b5.aB ot,_,_,_,_,rfl,?_,?_⟩
   ·rw[kg];exact cj.ext ot
   ·rw[n9];exact ho.ext ot
  ·try simp
   have Ju:(k5:Int)≠0:=by omega
   simp[jm,ia]
   refine a7.mk (LY (cj.ext ot) (aU.ext DT) yI BV Ju) ?_
   rintro u eE ⟨dA,t1,gQ,hY,bp,t2,kB,Ec,bo,rfl,SG,Dq⟩
   simp[ia]
   have fF:Ext eE (eE++[.dead,.dead]):=Ext.more eE (by simp)
   have DU:=dA.aB fF
   refine a7.mk (LY (ho.ext (ot.aB DU)) (aU.ext (DT.aB DU)) vE BV Ju) ?_
   rintro u e8 ⟨fP,t3,oR,Ed,e0,t4,s6,K8,j7,rfl,r8,r_⟩
   simp
   have hG:Ext e8 (e8++[.dead,.dead]):=Ext.more e8 (by simp)
   have J1:=SG.ext (fF.aB (fP.aB hG))
   have J2:=r8.ext hG
   have bp:dI.fdiv k5=(Rat.divInt n d).num:=by rw[kg,Int.fdiv_eq_ediv_of_nonneg _ (by omega)]
   have bo:(fc:Int).fdiv k5=((Rat.divInt n d).den:Int):=by rw[n9,Int.fdiv_eq_ediv_of_nonneg _ (by omega)];rfl
   rw[bp]at J1
   rw[bo]at J2
   simp[bj]
   exact aG _ _ ⟨b5.aB (ot.aB (DU.aB (fP.aB hG))),_,_,_,_,rfl,J1,J2⟩
theorem WZ{v:Value}{a:Rat}{H:ab}(bO:b4 H v a):a0 prog 71 [v] H (fun u H1=>Ext H H1/\b4 H1 u (-a)):=by
 refine a0.cq fun Q aG=>?_
 apply Uf (by simp)
 obtain⟨s1,b1,dx,cG,s2,ds,dF,dh,rfl,cj,ho⟩:=e_.shape bO
 simp[GG]
 have ck:Ext H (H++[.dead,.dead]):=Ext.more H (by simp)
 refine a7.mk (D2 (Ab (cj.ext ck))) ?_
 rintro u H1 ⟨bI,q0,fj,jA,fk,rfl,hu⟩
 refine⟨bI,?_⟩
 simp[bj]
 refine aG _ _ ⟨ck.aB bI,_,_,_,_,rfl,?_,ho.ext (ck.aB bI)⟩
 rw[Rat.neg_num];exact hu
theorem Ey{v w:Value}{a b:Rat}{N M:Nat}{H:ab}(bO:b4 H v a)(bS:b4 H w b)(al:c4 N a)(kn:c4 M b)(cj:N+M+1<=32000000):a0 prog 40 [v,w] H (fun u H1=>Ext H H1/\b4 H1 u (a+b)):=by
 refine a0.cq fun Q aG=>?_
 apply Uc (by simp)
 obtain⟨s1,b1,dx,cG,s2,ds,dF,dh,rfl,rK,vL⟩:=e_.shape bO
 obtain⟨q0,fj,jA,fk,Md,Bs,Lp,BA,rfl,vV,vM⟩:=e_.shape bS
 simp[GD]
 have ck:Ext H (H++[.dead,.dead,.dead]):=Ext.more H (by simp)
 refine bV.join (by kernel_rfl) (fun c7 dV bR=>Ext H bR/\c7 10= .bool (decide (a.den=1/\b.den=1))) ?_ ?_
 ·rintro K a1-
  simp
  refine a7.mk (D3 (e_.ext bO ck) (by have:=a.den_pos;omega)) ?_
  rintro u H1 ⟨bI,rfl⟩
  simp
  refine bG.cC (fun ag=>?_) (fun ag=>?_)
  ·simp[ag]
   refine a7.mk (D3 (e_.ext bS (ck.aB bI)) (by have:=b.den_pos;omega)) ?_
   rintro u aY ⟨bu,rfl⟩
   simp[ag]
   have lb:a.den=1:=by omega
   refine a1 _ _ _ ⟨ck.aB (bI.aB bu),?_⟩
   simp[lb]
   have:((b.den:Int)=1)↔b.den=1:=by omega
   simp[this]
  ·simp[ag]
   have lb:¬a.den=1:=by omega
   exact a1 _ _ _ ⟨ck.aB bI,by simp[lb]⟩
 ·rintro c7 dV bR ⟨b5,hN⟩
  simp only[jY]at hN
  simp at hN
  have bk:=al.num (by omega)
  have jJ:=kn.num (by omega)
  have Ib:=al.den (by omega)
  have Ic:=kn.den (by omega)
  simp[hN]
  refine bG.mk (fun ag=>?_) (fun ag=>?_)
  ·simp at ag
   simp
   refine a7.mk (yh (rK.ext b5) (vV.ext b5) bk jJ) ?_
   rintro u b_ ⟨c1,hu⟩
   simp
   refine a7.mk (PA hu) ?_
   rintro u dX ⟨cH,kM⟩
   simp
   refine ev.mk (e_.whole kM) ?_
   simp[bj]
   refine aG _ _ ⟨b5.aB (c1.aB cH),?_⟩
   have e:a+b=((a.num+b.num:Int):Rat):=by
    rw[Rat.intCast_add]
    congr 1
    ·exact Rat.ext rfl ag.1
    ·exact Rat.ext rfl ag.2
   show e_ _ _ _ _
   rw[e,Rat.num_intCast,Rat.den_intCast]
   exact kM
  ·try simp
   refine a7.mk (xv (rK.ext b5) (vM.ext b5) bk Ic) ?_
   rintro x b_ ⟨c1,I⟩
   refine⟨c1,?_⟩
   simp
   refine a7.mk (xv (vV.ext (b5.aB c1)) (vL.ext (b5.aB c1)) jJ Ib) ?_
   rintro y dX ⟨cH,aJ⟩
   refine⟨cH,?_⟩
   have gQ:(a.num*b.den).natAbs<2^(N+M):=by
    rw[Int.natAbs_mul,Int.natAbs_natCast,Nat.pow_add];exact Nat.mul_lt_mul'' al.1 kn.2
   have kB:(b.num*a.den).natAbs<2^(N+M):=by
    rw[Int.natAbs_mul,Int.natAbs_natCast,Nat.add_comm,Nat.pow_add];exact Nat.mul_lt_mul'' kn.1 al.2
   have oR:((a.den:Int)*b.den).natAbs<2^(N+M):=by
    rw[Int.natAbs_mul,Int.natAbs_natCast,Int.natAbs_natCast,Nat.pow_add];exact Nat.mul_lt_mul'' al.2 kn.2
   simp
   refine a7.mk (yh (I.ext cH) aJ (Fits.bits gQ (by omega)) (Fits.bits kB (by omega))) ?_
   rintro z cE ⟨cA,aP⟩
   refine⟨cA,?_⟩
   simp
   have ot:=b5.aB (c1.aB (cH.aB cA))
   refine a7.mk (xv (vL.ext ot) (vM.ext ot) Ib Ic) ?_
   rintro w eE ⟨c9,hw⟩
   simp
   have s6:(a.num*b.den+b.num*a.den).natAbs<2^(N+M+1):=by
    have:=Int.natAbs_add_le (a.num*b.den) (b.num*a.den)
    rw[Nat.pow_succ];omega
   refine a7.mk (WR (aP.ext c9) hw (Fits.bits s6 (by omega)) (Fits.bits oR (by omega)) (by have:=Nat.mul_ne_zero a.den_nz b.den_nz;exact_mod_cast this)) ?_
   rintro w e8 ⟨dA,Kq⟩
   simp
   refine ev.mk Kq.whole ?_
   simp[bj]
   refine aG _ _ ⟨ot.aB (c9.aB dA),?_⟩
   rw[Rat.add_def',<-Rat.divInt_ofNat]
   simpa using Kq
theorem LS{v w:Value}{a b:Rat}{N:Nat}{H:ab}(bO:b4 H v a)(bS:b4 H w b)(al:c4 N a)(kn:c4 N b)(cj:N<=1000000):a0 prog 40 [v,w] H (fun u H1=>Ext H H1/\b4 H1 u (a+b)):=Ey bO bS al kn (by omega)
theorem EA{v w:Value}{a b:Rat}{N:Nat}{H:ab}(bO:b4 H v a)(bS:b4 H w b)(al:c4 N a)(kn:c4 N b)(cj:N<=1000000):a0 prog 47 [v,w] H (fun u H1=>Ext H H1/\b4 H1 u (a-b)):=by
 refine a0.cq fun Q aG=>?_
 apply Uj (by simp)
 obtain⟨s1,b1,dx,cG,s2,ds,dF,dh,rfl,rK,vL⟩:=e_.shape bO
 obtain⟨q0,fj,jA,fk,Md,Bs,Lp,BA,rfl,vV,vM⟩:=e_.shape bS
 simp[GI]
 have ck:Ext H (H++[.dead,.dead,.dead]):=Ext.more H (by simp)
 refine a7.mk (WZ (bS.ext ck)) ?_
 rintro u H1 ⟨bI,hu⟩
 refine⟨bI,?_⟩
 simp
 refine a7.mk (LS (bO.ext (ck.aB bI)) hu al kn.neg cj) ?_
 rintro w aY ⟨bu,hw⟩
 simp
 refine ev.mk hw.whole ?_
 simp[bj]
 refine aG _ _ ⟨ck.aB (bI.aB bu),?_⟩
 rw[Rat.sub_eq_add_neg]
 exact hw
theorem LU{v w:Value}{a b:Rat}{N M:Nat}{H:ab}(bO:b4 H v a)(bS:b4 H w b)(al:c4 N a)(kn:c4 M b)(cj:N+M+1<=32000000):a0 prog 31 [v,w] H (fun u H1=>Ext H H1/\u= .int .i64 (if a<b then-1 else if a=b then 0 else 1)):=by
 refine a0.cq fun Q aG=>?_
 apply Ud (by simp)
 obtain⟨s1,b1,dx,cG,s2,ds,dF,dh,rfl,rK,vL⟩:=e_.shape bO
 obtain⟨q0,fj,jA,fk,Md,Bs,Lp,BA,rfl,vV,vM⟩:=e_.shape bS
 simp[GF]
 have ck:Ext H (H++[.dead,.dead]):=Ext.more H (by simp)
 refine a7.mk (xv (rK.ext ck) (vM.ext ck) (al.num (by omega)) (kn.den (by omega))) ?_
 rintro x H1 ⟨bI,I⟩
 refine⟨bI,?_⟩
 simp
 refine a7.mk (xv (vV.ext (ck.aB bI)) (vL.ext (ck.aB bI)) (kn.num (by omega)) (al.den (by omega))) ?_
 rintro y aY ⟨bu,aJ⟩
 have gQ:(a.num*b.den).natAbs<2^(N+M):=by
  rw[Int.natAbs_mul,Int.natAbs_natCast,Nat.pow_add];exact Nat.mul_lt_mul'' al.1 kn.2
 have kB:(b.num*a.den).natAbs<2^(N+M):=by
  rw[Int.natAbs_mul,Int.natAbs_natCast,Nat.add_comm,Nat.pow_add];exact Nat.mul_lt_mul'' kn.1 al.2
 simp
 refine a7.mk (D0 (I.ext bu) aJ (Fits.bits gQ (by omega)) (Fits.bits kB (by omega))) ?_
 rintro c bZ ⟨bP,rfl⟩
 simp[bj]
 refine aG _ _ ⟨ck.aB (bI.aB (bu.aB bP)),?_⟩
 simp only[Rat.lt_iff,Rat.eq_iff_mul_eq_mul]
theorem uG{v w:Value}{a b:Rat}{N:Nat}{H:ab}(bO:b4 H v a)(bS:b4 H w b)(al:c4 N a)(kn:c4 N b)(cj:N<=1000000):a0 prog 31 [v,w] H (fun u H1=>Ext H H1/\u= .int .i64 (if a<b then-1 else if a=b then 0 else 1)):=LU bO bS al kn (by omega)
theorem Ez{v:Value}{a:Rat}{H:ab}(bO:b4 H v a):a0 prog 38 [v] H (fun u H1=>Ext H H1/\u= .int .i64 (if a<0 then-1 else if a=0 then 0 else 1)):=
 (W4 bO).mono fun u H1 ⟨I,hu⟩=>⟨I,by
  rw[hu]
  have o:a.num=0↔a=0:=Rat.num_eq_zero
  have aa:0<=a.num↔0<=a:=Rat.num_nonneg
  have aD:a.num<0↔a<0:=by rw[<-Int.not_le,aa,Rat.not_le]
  simp only[o,aD]⟩
theorem xC{n:Int}{H:ab}(o: -9223372036854775808<=n)(aa:n<9223372036854775808):a0 prog 14 [.int .i64 n] H (fun u H1=>Ext H H1/\b4 H1 u (n:Rat)):=
 (aak o aa).mono fun u H1 ⟨I,hu⟩=>⟨I,by show e_ _ _ _ _;rw[Rat.num_intCast,Rat.den_intCast];exact hu⟩
theorem Xy{v:Value}{a:Int}{H:ab}(bO:c5 H v a)(aH:a.natAbs<=4611686018427387904):a0 prog 27 [v] H (fun u H1=>Ext H H1/\u= .tuple #[.int .i64 a,.bool true]):=by
 refine a0.cq fun Q aG=>?_
 apply T9 (by simp)
 obtain⟨s1,b1,dx,cG,rfl⟩:=bO.shape
 obtain⟨l,rfl,eb,bc,ao⟩:=bO.us
 have ar:l.length<=2:=bc.length_le (by rw[ao];omega)
 simp[GB]
 have ck:Ext H (H++[.dead]):=Ext.more H (by simp)
 refine cY (by simpa using(eb.ext ck).row) (by simp) ?_
 simp
 refine bG.cC (fun ag=>by omega) (fun ag=>?_)
 try simp
 refine cY (by simpa using(eb.ext ck).row) (by simp) ?_
 simp
 refine dy.range (by kernel_rfl) l.length (by omega) (by simp) (by rfl) (by simp) (by decide) (by decide) (fun i bQ dq aY=>aY=H++[.dead]/\∃n:Nat,bQ 4= .int .u64 n/\n=val (l.take i)) ?_ ?_ ?_
 ·exact⟨rfl,0,by simp,by simp[val]⟩
 ·rintro i bQ dq aY ad a2 ⟨rfl,n,bD,aE⟩ K a1
  simp at a2 bD
  simp[a2]
  obtain⟨y,aJ⟩:∃y,l[i]?.getD 0=y:=⟨_,rfl⟩
  have TB:l[i]?=some y:=by rw[<-aJ,bx ad];rfl
  have ou:y<4294967296:=aJ▸eb.lt i
  refine cK (af:=fM) (n:=i) (by simpa using(eb.ext ck).row) (by simp[a2]) TB (by simp) (by simp) (by simp) (.inr rfl) ?_
  rintro p u ⟨rfl,-⟩
  have qL:IntKind.u64.wrap (y:Int)=(y:Int):=fR (by omega) (by omega)
  have gV:val (l.take (i+1))=n+4294967296^i*y:=by rw[iu,aJ,<-aE]
  have jU:n<4294967296^i:=by
   rw[aE]
   have:=jC (l:=l.take i) fun x I=>eb.2 x (List.mem_of_mem_take I)
   rwa[List.length_take,Nat.min_eq_left (by omega)]at this
  rcases(show i=0\/i=1 by omega)with rfl | rfl
  ·have Sp:n=0:=by simp at jU;exact jU
   subst Sp
   have zw:pE (0:Int) (y:Int)=(y:Int):=by
    have:=uC (r:=0) (by decide) ou
    simpa using this
   have Dh:IntKind.i64.wrap 0=0:=by decide
   simp[a2,bD,qL,Dh,zw]
   exact a1 _ _ _ (by simp[a2]) ⟨rfl,y,by simp,by rw[gV];simp⟩
  ·have Dh:IntKind.i64.wrap 32=32:=by decide
   obtain⟨s,an⟩:∃s,y*4294967296=s:=⟨_,rfl⟩
   have iV:IntKind.u64.wrap ((y:Int)*4294967296)=(s:Int):=by rw[fR (by omega) (by omega)];omega
   have aQ:=uC (r:=y) ou (show n<4294967296 by simpa using jU)
   rw[an]at aQ
   obtain⟨t,bt⟩:∃t,s+n=t:=⟨_,rfl⟩
   have lh:pE (n:Int) (s:Int)=(t:Int):=by
    rw[<-bt,<-aQ];unfold pE;congr 2;rw[BitVec.or_comm]
   simp[a2,bD,qL,Dh,iV,lh]
   exact a1 _ _ _ (by simp[a2]) ⟨rfl,t,by simp,by rw[gV];omega⟩
 ·rintro bQ dq aY a2 ⟨rfl,n,bD,aE⟩
  rw[List.take_length,ao]at aE
  simp at bD
  simp[bD]
  refine bG.cC (fun ag=>by omega) (fun ag=>?_)
  try simp
  have JQ:IntKind.i64.wrap (n:Int)=(n:Int):=cP (by omega) (by omega)
  refine bG.cC (fun aF=>?_) (fun aF=>?_)
  ·have Dj:IntKind.i64.wrap (-(n:Int))= -(n:Int):=cP (by omega) (by omega)
   simp[bD,JQ,Dj,bj]
   refine aG _ _ ⟨ck,?_⟩
   congr 4
   omega
  ·simp[bD,JQ,bj]
   refine aG _ _ ⟨ck,?_⟩
   congr 4
   omega
def cn(l:List Nat):ByteArray:=⟨(l.map UInt8.ofNat).toArray⟩
def Bytes(l:List Nat):Prop:=∀x∈l,x<256
theorem k2(l:List Nat):(cn l).size=l.length:=by simp[cn,ByteArray.size]
theorem N4(l:List Nat)(h:Bytes l)(i:Nat)(ad:i<l.length):((cn l).data.getD i 0).toNat=l[i]?.getD 0:=by
 have I:=h l[i] (List.getElem_mem ad)
 simp only[cn,Array.getD_eq_getD_getElem?,List.getElem?_toArray,List.getElem?_map,bx ad,Option.map_some,Option.getD_some]
 simp[UInt8.toNat_ofNat,Nat.mod_eq_of_lt I]
theorem s_(l:List Nat):(cn l).toList=l.map UInt8.ofNat:=by
 rw[ByteArray.toList_eq]
 simp[cn]
theorem N3(a b:List Nat):cn a++cn b=cn (a++b):=by
 apply ByteArray.ext
 simp[cn]
theorem vt(l:List Nat)(i j:Nat):(cn l).extract i j=cn ((l.drop i).take (j-i)):=by
 apply ByteArray.ext
 simp[cn,List.map_drop,List.map_take]
theorem ofNat_inj{x y:Nat}(I:x<256)(aJ:y<256)(h:UInt8.ofNat x=UInt8.ofNat y):x=y:=by
 have:=congrArg UInt8.toNat h
 simpa[UInt8.toNat_ofNat,Nat.mod_eq_of_lt I,Nat.mod_eq_of_lt aJ]using this
theorem Hw{a b:List Nat}(aF:Bytes a)(ae:Bytes b):((cn a).toList==(cn b).toList)=decide (a=b):=by
 rw[s_,s_]
 by_cases h:a=b
 ·subst h;simp
 ·rw[decide_eq_false h,beq_eq_false_iff_ne]
  intro e
  apply h
  apply List.ext_getElem?
  intro i
  have:=congrArg (fun l:List UInt8=>l[i]?) e
  simp only[List.getElem?_map]at this
  cases o:a[i]? with
  | none=>
   cases aa:b[i]? with
   | none=>rfl
   | some y=>rw[o,aa]at this;cases this
  | some x=>
   cases aa:b[i]? with
   | none=>rw[o,aa]at this;simp at this
   | some y=>
    rw[o,aa]at this
    simp only[Option.map_some,Option.some.injEq]at this
    rw[ofNat_inj (aF x (List.mem_of_getElem? o)) (ae y (List.mem_of_getElem? aa)) this]
theorem Mq(l:List Nat):strOfNums (l.map fun n:Nat=>(n:Int))=cn l:=by
 apply ByteArray.ext
 simp[strOfNums,cn]
def mg(H:ab)(v:Value)(n:Nat):Prop:=v= .int .u8 (n:Int)/\n<256
instance:bM mg:=⟨fun h _=>h⟩
theorem Fq(n:Int):Whole prog 5 (.int .u8 n):=⟨by kernel_rfl,rfl,by rw[if_neg (by simp[eB])];exact⟨by kernel_rfl,rfl⟩⟩
theorem Row.bytes{H:ab}{e:Nat}{v:Value}{l:List Nat}(h:Row e 1 false mg H v l):ec H e 1 v l.length ((l.map fun n:Nat=>(n:Int)).map (Value.int .u8))/\Bytes l:=by
 obtain⟨cs,o,aa⟩:=h
 have fX:cs=(l.map fun n:Nat=>(n:Int)).map (Value.int .u8):=by
  obtain⟨a,cap,ao,aD,bD,b2⟩:=o
  apply List.ext_getElem?
  intro i
  by_cases ad:i<l.length
  ·have:=(aa i _ (bx ad)).1
   simp only[ea,Bool.false_eq_true,if_false]at this
   rw[bx (by omega)]at this⊢
   simp only[Option.getD_some]at this
   rw[this]
   simp[bx ad]
  ·rw[List.getElem?_eq_none (by omega),List.getElem?_eq_none (by simp;omega)]
 subst fX
 exact⟨o,fun x I=>by obtain⟨i,ad⟩:=List.getElem?_of_mem I;exact(aa i x ad).2⟩
theorem WY{k:Nat}{v:Value}{xs:List Nat}{H:ab}(cL:bz k 5 1 false mg H v xs)(ar:xs.length<4611686018427387904):
  a0 prog 57 [v] H (fun u H1=>u= .tuple #[]/\bz k 5 1 false mg H1 v xs.reverse/\∀cx:ab,cx.length<=k->Ext cx H->Ext cx H1):=by
 refine a0.cq fun Q aG=>?_
 apply U9 (by simp)
 simp[Hf]
 refine cY (by simpa using cL.row) (by simp) ?_
 have aE:IntKind.i64.wrap ((xs.length:Int)-1)=(xs.length:Int)-1:=cP (by omega) (by omega)
 simp[aE]
 refine dy.mk (by kernel_rfl) (fun m az bC H1=>∃(i:Nat) (bH:List Nat),m=xs.length-2*i/\az 2= .int .i64 i/\az 3= .int .i64 ((xs.length:Int)-1-i)/\i<=xs.length/\2*i<=xs.length+1/\bz k 5 1 false mg H1 v bH/\bH.length=xs.length/\(∀cx:ab,cx.length<=k->Ext cx H->Ext cx H1)/\
  ∀j,j<xs.length->bH[j]?=if j<i\/xs.length-1-i<j then xs[xs.length-1-j]? else xs[j]?) xs.length ?_ ?_
 ·refine⟨0,xs,by omega,by simp,by simp,by omega,by omega,cL,rfl,fun _ _ h=>h,fun j aQ=>?_⟩
  rw[if_neg (by omega)]
 ·rintro m az bC H1 ⟨i,bH,rfl,aa,aD,ad,hO,jL,ou,bI,mK⟩ K a1
  simp at aa aD
  simp[aa,aD]
  refine bG.cC (fun ag=>?_) (fun ag=>?_)
  ·obtain⟨j,aQ⟩:∃j,xs.length-1-i=j:=⟨_,rfl⟩
   have fe:(xs.length:Int)-1-i=(j:Int):=by omega
   rw[fe]at aD ag
   obtain⟨a,aF⟩:∃a,bH[j]?=some a:=⟨_,bx (by omega)⟩
   obtain⟨b,ae⟩:∃b,bH[i]?=some b:=⟨_,bx (by omega)⟩
   have bp:IntKind.i64.wrap ((i:Int)+1)=(i:Int)+1:=cP (by omega) (by omega)
   have bo:IntKind.i64.wrap ((j:Int)-1)=(j:Int)-1:=cP (by omega) (by omega)
   try simp
   simp[aa,aD]
   refine cK (af:=mg) (n:=j) (by simpa using jL.row) (by simp) aF (by simp) (by simp) (by simp) (.inr rfl) ?_
   rintro dp nK ⟨rfl,Q3⟩
   simp[aa,aD]
   refine cK (af:=mg) (n:=i) (by simpa using jL.row) (by simp) ae (by simp) (by simp) (by simp) (.inr rfl) ?_
   rintro hd lq ⟨rfl,CM⟩
   refine ja (af:=mg) (n:=i) (a:=a) (by simpa using jL) (by simp) (by omega) ⟨by simp,Q3⟩ (by simpa using Fq _) (by simp) (fun _ _ _ _ _ h=>h) (by simp) (by simp) (by simp) (by decide) ?_
   rintro eM aY hD bu- - -
   simp at hD
   refine ja (af:=mg) (n:=j) (a:=b) (by simpa using hD) (by simp) (by simp;omega) ⟨by simp,CM⟩ (by simpa using Fq _) (by simp) (fun _ _ _ _ _ h=>h) (by simp) (by simp) (by simp) (by decide) ?_
   rintro gK bZ ka bP- - -
   simp at ka
   simp[aa,aD,bp,bo]
   refine a1 (xs.length-2*(i+1)) _ _ _ (by omega) ⟨i+1,_,rfl,by simp,by simp;omega,by omega,by omega,by simpa using ka,by simp[ou],fun cx aH I=>bP cx aH (bu cx aH (bI cx aH I)),fun t bt=>?_⟩
   have KK:=mK j (by omega)
   have KJ:=mK i (by omega)
   rw[if_neg (by omega),aF]at KK
   rw[if_neg (by omega),ae]at KJ
   by_cases zO:t=j
   ·subst zO
    rw[List.getElem?_set_self (by simp;omega),if_pos (by omega),show xs.length-1-t=i by omega,KJ]
   ·rw[List.getElem?_set_ne (Ne.symm zO)]
    by_cases zN:t=i
    ·subst zN
     rw[List.getElem?_set_self (by omega),if_pos (by omega),aQ,KK]
    ·rw[List.getElem?_set_ne (Ne.symm zN),mK t bt]
     by_cases av:t<i\/xs.length-1-i<t
     ·rw[if_pos av,if_pos (by omega)]
     ·rw[if_neg av,if_neg (by omega)]
  ·try simp
   simp[bj]
   refine aG _ _ ⟨rfl,?_,bI⟩
   have:bH=xs.reverse:=by
    apply List.ext_getElem?
    intro t
    by_cases bt:t<xs.length
    ·rw[mK t bt,List.getElem?_reverse bt]
     split
     ·rfl
     ·have:t=xs.length-1-t:=by omega
      rw[<-this]
    ·rw[List.getElem?_eq_none (by omega),List.getElem?_eq_none (by simp;omega)]
   rw[<-this]
   exact jL
def il(n:Nat):List Nat:=if h:n=0 then[]else(48+n % 10)::il (n/10)
termination_by n
decreasing_by omega
theorem uI:il 0=[]:=by unfold il;simp
theorem Au{n:Nat}(h:0<n):il n=(48+n % 10)::il (n/10):=by
 conv=>lhs;unfold il
 rw[dif_neg (by omega)]
theorem WS(n:Nat):Bytes (il n):=by
 induction n using Nat.strongRecOn with
 | _ n aV=>
  rcases Nat.eq_zero_or_pos n with h | h
  ·subst h;rw[uI];intro x I;cases I
  ·rw[Au h]
   intro x I
   rcases List.mem_cons.1 I with rfl | I
   ·omega
   ·exact aV (n/10) (by omega) x I
theorem L1(n k:Nat)(h:n<10^k):(il n).length<=k:=by
 induction k generalizing n with
 | zero=>simp at h;subst h;rw[uI];simp
 | succ k aV=>
  rcases Nat.eq_zero_or_pos n with aH | aH
  ·subst aH;rw[uI];simp
  ·rw[Au aH]
   simp only[List.length_cons]
   have:=aV (n/10) (by rw[Nat.pow_succ]at h;omega)
   omega
def dec(n:Nat):List Nat:=if n=0 then[48]else(il n).reverse
theorem HV(n:Nat):Bytes (dec n):=by
 unfold dec
 split
 ·intro x I;simp at I;omega
 ·intro x I;exact WS n x (by simpa using I)
@[simp] theorem acA:gR undef=none:=rfl
@[simp] theorem abF(w:Bool)(cu cT:Prop)(aw:a_ cu cT):nO cu cT aw none w=cT:=by unfold nO m2;simp
theorem XU{v:Value}{x:List Nat}{H:ab}(aR:cO H 95 v x)(bc:Trim x)(ar:x.length<=1000000):a0 prog 33 [v] H (fun u H1=>Ext H H1/\u= .string (cn (dec (val x)))):=by
 refine a0.cq fun Q aG=>?_
 apply Uv (by simp)
 simp[GO]
 refine cY (by simpa using aR.row) (by simp) ?_
 simp
 refine bG.cC (fun ag=>?_) (fun ag=>?_)
 ·have ck:x=[]:=by simpa using ag
  subst ck
  simp[bj]
  exact aG _ _ ⟨Ext.refl _,by rw[show dec (val [])=[48]from by simp[dec,val]];rfl⟩
 try simp
 have hP:0<val x:=bc.pos.1 (by
  rcases Nat.eq_zero_or_pos x.length with h | h
  ·exact absurd (by simpa using h) ag
  ·exact h)
 have adI:(il (val x)).length<100000000:=by
  have o:=WD 1000000 (jC aR.2) ar
  have:=L1 _ _ o
  omega
 refine dy.mk (by kernel_rfl) (fun n az bC H1=>Ext H H1/\∃(y b:List Nat),n=val y/\cO H1 95 (az 0) y/\Trim y/\y.length<=1000000/\bz H.length 5 1 false mg H1 (az 3) b/\il (val x)=b++il (val y)) (val x) ?_ ?_
 ·exact⟨Ext.refl _,x,[],rfl,by simpa using aR,bc,ar,by simpa using bz.nil _ _ _ _ _ _,rfl⟩
 ·rintro n az bC H1 ⟨bI,y,b,rfl,aJ,qh,zp,ae,aL⟩ K a1
  simp at aJ ae
  simp
  refine cY (by simpa using aJ.row) (by simp) ?_
  simp
  refine bG.cC (fun aT=>?_) (fun aT=>?_)
  ·try simp
   have sn:0<val y:=qh.pos.1 aT
   refine a7.mk (Hx (w:=1000000000) aJ (by omega) (by decide) (by decide)) ?_
   rintro u aY ⟨bu,q,hx,rfl,av,o2,sl⟩
   obtain⟨dS,eV⟩:∃dS,val y % 1000000000=dS:=⟨_,rfl⟩
   have SM:dS<1000000000:=by rw[<-eV];exact Nat.mod_lt _ (by decide)
   rw[eV]
   simp
   have gh:val y=val hx*1000000000+dS:=by have:=Nat.div_add_mod (val y) 1000000000;rw[sl];omega
   refine dy.mk (by kernel_rfl) (fun m dG e7 bZ=>cO bZ 95 q hx/\Ext H bZ/\∃(r:Nat) (ca:List Nat),m<=9/\dG 6= .int .i64 ((9-m:Nat):Int)/\dG 5= .int .u32 r/\r<10^m/\bz H.length 5 1 false mg bZ (dG 3) ca/\il (val x)=ca++il (val hx*10^m+r)) 9 ?_ ?_
   ·refine⟨av,bI.aB bu,dS,b,by omega,by simp,by simp,by omega,by simpa using bM.ext ae bu,?_⟩
    rw[aL,gh]
   ·rintro m dG e7 bZ ⟨bP,w_,r,ca,hm,gC,b2,aj,cM,kI⟩ cT ee
    simp at gC b2 cM
    simp only[kp]
    refine bV.join (by kernel_rfl) (fun c7 dV bR=>bR=bZ/\∃c:Bool,c7 28= .bool c/\(c=true↔0<m/\(0<hx.length\/0<r))) ?_ ?_
    ·rintro m4 fN-
     rcases Nat.eq_zero_or_pos m with aH | aH
     ·have vC:(((9-m:Nat):Int)<9)=False:=by simp;omega
      simp[gC,vC]
      refine fN _ _ _ ⟨rfl,false,by simp,?_⟩
      simp[aH]
     ·have vC:(((9-m:Nat):Int)<9)=True:=by simp;omega
      simp[gC,vC]
      refine cY (by simpa using bP.row) (by simp) ?_
      rcases Nat.eq_zero_or_pos hx.length with o_ | o_
      ·simp[gC,vC,o_,b2]
       refine fN _ _ _ ⟨rfl,decide (0<r),by simp,?_⟩
       simp[aH,o_]
      ·have O8:((0:Int)<(hx.length:Int))=True:=by simp;omega
       simp[gC,vC,o_,O8]
       refine fN _ _ _ ⟨rfl,true,by simp,?_⟩
       simp[aH,o_]
    ·rintro c7 dV bR ⟨rfl,c,Iy,ag⟩
     simp at Iy
     simp[Iy]
     refine bG.mk (fun fE=>?_) (fun fE=>?_)
     ·have wo:=ag.1 fE
      obtain⟨lY,rfl⟩:∃lY,m=lY+1:=⟨m-1,by omega⟩
      try simp
      have bp:IntKind.u32.wrap (48+((r % 10:Nat):Int))=((48+r % 10:Nat):Int):=by rw[lu (by omega) (by omega)];omega
      have bo:((r:Int).tmod 10)=((r % 10:Nat):Int):=rfl
      have e0:((r:Int).tdiv 10)=((r/10:Nat):Int):=rfl
      obtain⟨yC,Rx⟩:∃yC,r % 10=yC:=⟨_,rfl⟩
      obtain⟨di,fq⟩:∃di,r/10=di:=⟨_,rfl⟩
      rw[Rx]at bp bo
      rw[fq]at e0
      obtain⟨tc,Jg⟩:∃tc,48+yC=tc:=⟨_,rfl⟩
      rw[Jg]at bp
      have jW:r<4294967296:=by
       have:10^(lY+1)<=10^9:=Nat.pow_le_pow_right (by decide) hm
       omega
      have j7:IntKind.u8.wrap (tc:Int)=(tc:Int):=Ft (by omega) (by omega)
      have rA:IntKind.u32.wrap (di:Int)=(di:Int):=lu (by omega) (by omega)
      simp[b2,bp,bo,j7]
      refine q6 (af:=mg) (xs:=ca) (a:=tc) (k:=H.length) (e:=5) (J:=1) (bs:=1) (ay:=false) (z:= .int .u8 0) (by simpa using cM) ⟨by simp,by omega⟩ (by simpa using Fq _) (by simp) (fun _ _ _ _ _ h=>h) (by simp) (by simp) (by simp) (by simp) (by simp) (by simp) (by simp) (by rfl) (by rfl) (by decide) (by decide) (by decide) ?_ (Ext.len w_) ?_
      ·have:ca.length<=(il (val x)).length:=by rw[kI];simp
       omega
      rintro p au b_ yT c1 zf
      have p6:IntKind.i64.wrap (((9-(lY+1):Nat):Int)+1)=((9-lY:Nat):Int):=by rw[cP (by omega) (by omega)];omega
      simp at p6
      simp[b2,e0,rA,gC,p6]
      obtain⟨P,h9⟩:∃P,10^lY=P:=⟨_,rfl⟩
      have tu:10^(lY+1)=P*10:=by rw[Nat.pow_succ,h9]
      rw[tu]at aj kI
      have Qs:0<P:=by rw[<-h9];exact Nat.pow_pos (by decide)
      refine ee lY _ _ _ (by omega) ⟨⟨bP.1.kept zf (by decide),bP.2⟩,c1 _ (Nat.le_refl _) w_,di,ca++[tc],by omega,by simp[p6],by simp,by rw[h9];omega,by simpa using yT,?_⟩
      rw[h9]
      rw[kI]
      have cJ:val hx*(P*10)+r=(val hx*P)*10+r:=by rw[Nat.mul_assoc]
      rw[cJ]
      rw[Au (n:=(val hx*P)*10+r) (by
       rcases wo.2 with h | h
       ·have d_:=o2.pos.1 h
        have n0:=Nat.mul_pos d_ Qs
        omega
       ·omega)]
      have hN:(val hx*P*10+r) % 10=yC:=by omega
      have ng:(val hx*P*10+r)/10=val hx*P+di:=by omega
      rw[hN,ng,Jg]
      simp
     ·try simp
      have Qf:val hx*10^m+r=val hx:=by
       have aE:¬(0<m/\(0<hx.length\/0<r)):=fun h=>by rw[ag.2 h]at fE;cases fE
       rcases Nat.eq_zero_or_pos m with aH | aH
       ·subst aH;simp at aj⊢;omega
       ·have o:¬0<hx.length:=fun h=>aE ⟨aH,Or.inl h⟩
        have aa:¬0<r:=fun h=>aE ⟨aH,Or.inr h⟩
        have aD:val hx=0:=by
         rcases Nat.eq_zero_or_pos (val hx)with h | h
         ·exact h
         ·exact absurd (o2.pos.2 h) o
        rw[aD];omega
      rw[Qf]at kI
      refine a1 (val hx) _ _ _ (by omega) ⟨w_,hx,ca,rfl,by simpa using bP,o2,?_,by simpa using cM,kI⟩
      rcases Nat.lt_or_ge y.length hx.length with h | h
      ·have:=Trim.uu o2 aJ.2 h
       omega
      ·omega
  ·try simp
   have ui:val y=0:=by
    rcases Nat.eq_zero_or_pos (val y)with h | h
    ·exact h
    ·exact absurd (qh.pos.2 h) aT
   rw[ui,uI,List.append_nil]at aL
   refine a7.mk (WY ae (by rw[<-aL];omega)) ?_
   rintro u aY ⟨rfl,o3,bu⟩
   have tI:=o3.row.bytes
   simp only[List.length_reverse]at tI
   simp
   refine X9 (xs:=b.reverse.map fun n:Nat=>(n:Int)) (by rfl) (by rfl) (by rfl) (by simpa using tI.1) ?_
   simp[bj,Mq]
   refine aG _ _ ⟨bu _ (Nat.le_refl _) bI,?_⟩
   rw[<-List.map_reverse,Mq,<-aL]
   unfold dec
   rw[if_neg (by omega)]
variable {P:Program} {r:List br} {Q:Fr->ab->Prop} {F:Fr} {H:ab}
theorem l5{d t:Nat}{x:Operand}{l:List Nat}{aw:a_ (bB d t x::r) Q}(ao:aq F x= .string (cn l))(bt:iq P t=true)(K:a8 P r Q .mk (aX F d (.int .i64 l.length)) H):a8 P (bB d t x::r) Q aw F H:=by
 rw[gN,ao,Vy,if_pos bt,k2]
 exact K
theorem BC{a b:List Nat}(h:a.length+b.length<=9223372036854775807):(if(cn a).size+(cn b).size<=9223372036854775807 then some (Value.string (cn a++cn b))else none)=some (.string (cn (a++b))):=by
 rw[k2,k2,if_pos h,N3]
theorem K0:({data:= #[45]}:ByteArray)=cn [45]:=rfl
theorem K1:({data:= #[47]}:ByteArray)=cn [47]:=rfl
def fu(q:Rat):List Nat:=(if q.num<0 then[45]else[])++dec q.num.natAbs++(if q.den=1 then[]else 47::dec q.den)
def kx(q:Rat):Prop:=(dec q.num.natAbs).length<=4000/\(q.den=1\/(dec q.den).length<=4000)
instance(q:Rat):Decidable (kx q):=by unfold kx;exact inferInstance
theorem MA{v:Value}{x d:List Nat}{H:ab}(aR:cO H 95 v x)(bc:Trim x)(ar:x.length<=1000000)(aL:dec (val x)=d):a0 prog 33 [v] H (fun u H1=>Ext H H1/\u= .string (cn d)):=by
 subst aL
 exact XU aR bc ar
theorem EI{v:Value}{q:Rat}{N:Nat}{H:ab}(ao:b4 H v q)(an:c4 N q)(cj:N<=32000000):
  a0 prog 15 [v] H (fun u H1=>Ext H H1/\u=if kx q then .tuple #[.string (cn (fu q)),.int .i64 0]else .tuple #[.string (cn []),.int .i64 5]):=by
 refine a0.cq fun Q aG=>?_
 apply Ug (by simp)
 have BT:=an.num cj
 have yF:=an.den cj
 have DG:=ao
 obtain⟨s1,b1,dx,cG,s2,ds,dF,dh,rfl,o,aa⟩:=ao.shape
 obtain⟨Vq,rfl,CD,jl,mE⟩:=o.us
 obtain⟨Vr,rfl,wb,n5,jX⟩:=aa.us
 obtain⟨d1,kJ⟩:∃d,dec q.num.natAbs=d:=⟨_,rfl⟩
 obtain⟨d2,o5⟩:∃d,dec q.den=d:=⟨_,rfl⟩
 simp[GH]
 have ck:Ext H (H++[.dead]):=Ext.more H (by simp)
 refine a7.mk (MA (d:=d1) (CD.ext ck) jl (BT.length jl mE) (by rw[mE,kJ])) ?_
 rintro u H1 ⟨bI,rfl⟩
 simp
 refine l5 (l:=d1) (by simp) (by rfl) ?_
 simp
 refine bG.cC (fun ag=>?_) (fun ag=>?_)
 ·try simp
  simp[bj]
  refine aG _ _ ⟨ck.aB bI,?_⟩
  rw[if_neg (by unfold kx;rw[kJ];omega)]
  rfl
 try simp
 refine bV.join (by kernel_rfl) (fun c7 dV bR=>bR=H1/\c7 4= .string (cn ((if q.num<0 then[45]else[])++d1))) ?_ ?_
 ·rintro K a1-
  simp
  refine bG.cC (fun an=>?_) (fun an=>?_)
  ·simp[K0,BC (a:=[45]) (b:=d1) (by simp;omega)]
   refine a1 _ _ _ ⟨rfl,?_⟩
   simp[an]
  ·try simp
   refine a1 _ _ _ ⟨rfl,?_⟩
   simp[an]
 ·rintro c7 dV bR ⟨rfl,bD⟩
  simp at bD
  simp
  have Ti:=b4.ext DG (ck.aB bI)
  refine a7.mk (D3 Ti (by have:=q.den_pos;omega)) ?_
  rintro u aY ⟨bu,rfl⟩
  simp
  refine bG.cC (fun ad=>?_) (fun ad=>?_)
  ·have kd:q.den=1:=by omega
   try simp
   simp[bj]
   refine aG _ _ ⟨ck.aB (bI.aB bu),?_⟩
   rw[if_pos ⟨by rw[kJ];omega,Or.inl kd⟩]
   simp[fu,kd,kJ,bD]
  have kd:¬q.den=1:=by omega
  try simp
  refine a7.mk (MA (d:=d2) (wb.ext (ck.aB (bI.aB bu))) n5 (yF.length n5 jX) (by rw[jX];simpa using o5)) ?_
  rintro u bZ ⟨bP,rfl⟩
  simp
  refine l5 (l:=d2) (by simp) (by rfl) ?_
  simp
  refine bG.cC (fun mu=>?_) (fun mu=>?_)
  ·try simp
   simp[bj]
   refine aG _ _ ⟨ck.aB (bI.aB (bu.aB bP)),?_⟩
   rw[if_neg (by unfold kx;rw[kJ,o5];omega)]
   rfl
  ·obtain⟨EM,se⟩:∃l,((if q.num<0 then[45]else[])++d1:List Nat)=l:=⟨_,rfl⟩
   have lS:EM.length<=1+d1.length:=by rw[<-se];split<;>simp<;>omega
   rw[se]at bD
   simp[bD,K1,BC (a:=EM) (b:=[47]) (by simp;omega),BC (a:=EM++[47]) (b:=d2) (by simp;omega),bj]
   refine aG _ _ ⟨ck.aB (bI.aB (bu.aB bP)),?_⟩
   rw[if_pos ⟨by rw[kJ];omega,Or.inr (by rw[o5];omega)⟩]
   simp[fu,kd,kJ,o5,<-se]
def dB(c:Nat):List Nat->List Nat×Option (List Nat)
 | []=>([],none)
 | x::r=>if x=c then([],some r)else(x::(dB c r).1,(dB c r).2)
theorem vB{c:Nat}{l r:List Nat}(h:(dB c l).2=some r):l=(dB c l).1++c::r:=by
 induction l with
 | nil=>simp[dB]at h
 | cons x l aV=>
  unfold dB at h⊢
  split at h
  ·next I=>simp at h;subst h;simp[I]
  ·next I=>simp[I];exact aV h
theorem vA{c:Nat}{l:List Nat}(h:(dB c l).2=none):(dB c l).1=l:=by
 induction l with
 | nil=>simp[dB]
 | cons x l aV=>
  unfold dB at h⊢
  split at h
  ·simp at h
  ·next I=>simp[I];exact aV h
theorem HS{c:Nat}(l:List Nat):c∉(dB c l).1:=by
 induction l with
 | nil=>simp[dB]
 | cons x l aV=>
  unfold dB
  split
  ·simp
  ·next I=>simp;exact⟨fun h=>I h.symm,aV⟩
theorem N5(l:List Nat)(i:Nat)(ad:i<l.length):(cn l)[i]! =UInt8.ofNat l[i]:=by
 have o:i<(cn l).size:=by rw[k2];exact ad
 rw[getElem!_pos (cn l) i o]
 simp[cn,ByteArray.getElem_eq_getElem_data]
theorem Py{c:Nat}{l:List Nat}(ar:Bytes l)(ag:c<256):((List.range (cn l).size).find? fun i=>(cn l)[i]! ==UInt8.ofNat c)=(dB c l).2.map fun _=>(dB c l).1.length:=by
 rw[k2]
 have key:∀i (ad:i<l.length),((cn l)[i]! ==UInt8.ofNat c)=decide (l[i]=c):=by
  intro i ad
  rw[N5 l i ad]
  by_cases h:l[i]=c
  ·rw[h];simp
  ·rw[decide_eq_false h,beq_eq_false_iff_ne]
   intro e
   exact h (ofNat_inj (ar _ (List.getElem_mem ad)) ag e)
 cases aj:(dB c l).2 with
 | none=>
  rw[Option.map_none,List.find?_range_eq_none]
  intro i ad
  rw[key i ad]
  have o:=vA aj
  have aa:=HS (c:=c) l
  rw[o]at aa
  have:l[i]≠c:=fun e=>aa (e▸List.getElem_mem ad)
  simp[this]
 | some r=>
  rw[Option.map_some,List.find?_range_eq_some]
  have o:=vB aj
  have aa:=HS (c:=c) l
  generalize (dB c l).1=a at o aa
  subst o
  refine⟨?_,by simp,?_⟩
  ·rw[key _ (by simp)];simp
  ·intro j aQ
   rw[key _ (by simp;omega)]
   rw[List.getElem_append_left aQ]
   have:a[j]≠c:=fun e=>aa (e▸List.getElem_mem aQ)
   simp[this]
def mL(c:Nat)(l:List Nat):Int:=match(dB c l).2 with | some _=>((dB c l).1.length:Int) | none=> -1
theorem TK{l:List Nat}{c:Nat}{H:ab}(ar:Bytes l)(ag:c<256):
  a0 prog 97 [.string (cn l),.int .u8 c] H (fun u H1=>H1=H/\u= .int .i64 (mL c l)):=by
 refine⟨.int .i64 (mL c l),H,.inr ⟨⟨by simp[gB,flat],by simp[flat,gB],?_⟩,rfl⟩,rfl,rfl⟩
 have aH:(prog.funcs[97]?).isSome=true:=by kernel_rfl
 have aa:((prog.funcs[97]?).map fun fn=>fn.name== "runtime.NumGoroutine")=some false:=by kernel_rfl
 have aD:((prog.funcs[97]?).map fun fn=>fn.body.isNone)=some true:=by kernel_rfl
 have bD:((prog.funcs[97]?).map fun fn=>Extern.findNext fn)=some none:=by kernel_rfl
 have b2:((prog.funcs[97]?).map fun fn=>Extern.find fn)=some (some Extern.BytealgIndexByte.indexByte):=by kernel_rfl
 obtain⟨fn,ax⟩:=Option.isSome_iff_exists.1 aH
 rw[ax]at aa aD bD b2
 simp only[Option.map_some,Option.some.injEq]at aa aD bD b2
 have bp:dk prog program=some prog:=rfl
 have bo:∀m,dk prog (mark m)=some ():=fun m=>rfl
 have e0:dk prog (Extern.BytealgIndexByte.indexByte #[.string (cn l),.int .u8 c])=some (.int .i64 (mL c l)):=by
  have j7:(c:Int).toNat.toUInt8=UInt8.ofNat c:=by simp
  show dk prog ((pure (cn l):Sem ByteArray)>>=fun b=>(pure (c:Int).toNat.toUInt8:Sem UInt8)>>=fun c=>match(List.range b.size).find? fun i=>b[i]! ==c with | some i=>pure (goInt i) | none=>pure (goInt (-1)))=_
  simp only[fr,eN,Option.bind_some,j7,Py ar ag]
  unfold mL
  cases(dB c l).2<;>simp[eN]<;>rfl
 have tl:¬fn.name= "runtime.NumGoroutine" :=by simpa using aa
 have PL:fn.body=none:=by simpa using aD
 simp[callFunc,fr,oz,bp,ax,tl,PL,bD,b2,bo,e0,eN]
section
variable {P:Program} {r:List br} {Q:Fr->ab->Prop} {F:Fr} {H:ab}
theorem xS{d t n:Nat}{x i:Operand}{l:List Nat}{uo:IntKind}{aw:a_ (ew d t x i::r) Q}(ao:aq F x= .string (cn l))(bS:Bytes l)(ad:aq F i= .int uo n)(aE:n<l.length)(bt:iq P t=true)(K:a8 P r Q .mk (aX F d (.int .u8 (l[n]?.getD 0:Nat))) H):a8 P (ew d t x i::r) Q aw F H:=by
 have e:(((cn l).data.getD ((n:Int).toNat) 0).toNat:Int)=((l[n]?.getD 0:Nat):Int):=by rw[Int.toNat_natCast,N4 l bS n aE]
 have ag:iq P t=true/\(0:Int)<=(n:Int)/\(n:Int)<((cn l).size:Int):=⟨bt,by omega,by rw[k2];omega⟩
 rw[hI,ao,ad,FX,m9]
 refine df.mk ag ?_
 rw[e]
 exact K
end
theorem TH(c:Nat):mL c [c]=0:=by simp[mL,dB]
theorem TL{l:List Nat}{c:Nat}{H:ab}(ar:Bytes l)(ag:c<256):
  a0 prog 92 [.string (cn l),.int .u8 c] H (fun u H1=>H1=H/\u= .int .i64 (mL c l)):=by
 refine a0.cq fun Q aG=>?_
 apply Vf (by simp)
 simp[Hm]
 refine a7.mk (TK ar ag) ?_
 rintro u H ⟨rfl,rfl⟩
 simp[bj]
 exact aG _ _ ⟨rfl,rfl⟩
theorem TP{l:List Nat}{c:Nat}{H:ab}(ar:Bytes l)(ag:c<256):
  a0 prog 84 [.string (cn l),.string (cn [c])] H (fun u H1=>H1=H/\u= .int .i64 (mL c l)):=by
 refine a0.cq fun Q aG=>?_
 apply Ve (by simp)
 simp[Hl]
 refine l5 (l:=[c]) (by simp) (by rfl) ?_
 simp
 refine bV.join (by kernel_rfl) (fun c7 dV bR=>bR=H/\c7 16= .bool (decide ([c]=l))) ?_ ?_
 ·rintro K a1-
  simp
  refine a1 _ _ _ ⟨rfl,?_⟩
  simp[Hw (a:=[c]) (b:=l) (by intro x I;simp at I;omega) ar]
 ·rintro c7 dV H ⟨rfl,Iw⟩
  simp at Iw
  simp[Iw]
  refine bG.cC (fun he=>?_) (fun he=>?_)
  ·subst he
   try simp
   simp[bj]
   exact aG _ _ ⟨rfl,by rw[TH]⟩
  ·try simp
   refine xS (n:=0) (uo:= .i64) (l:=[c]) (by simp) (by intro x I;simp at I;omega) (by simp) (by simp) (by rfl) ?_
   simp
   refine a7.mk (TL ar ag) ?_
   rintro u H ⟨rfl,rfl⟩
   simp[bj]
   exact aG _ _ ⟨rfl,rfl⟩
theorem Xx{l:List Nat}{c:Nat}{H:ab}(ar:Bytes l)(ag:c<256)(hlen:l.length<4611686018427387904):
  a0 prog 76 [.string (cn l),.string (cn [c])] H (fun u H1=>H1=H/\u= .tuple #[.string (cn (dB c l).1),.string (cn ((dB c l).2.getD [])),.bool (dB c l).2.isSome]):=by
 refine a0.cq fun Q aG=>?_
 apply Vb (by simp)
 simp[Hi]
 refine a7.mk (TP ar ag) ?_
 rintro u H ⟨rfl,rfl⟩
 cases aj:(dB c l).2 with
 | none=>
  have e:mL c l= -1:=by simp[mL,aj]
  simp[e,bj]
  refine aG _ _ ⟨rfl,?_⟩
  rw[vA aj,aj]
  rfl
 | some q=>
  have o:=vB aj
  have e:mL c l=((dB c l).1.length:Int):=by simp[mL,aj]
  obtain⟨a,aF⟩:∃a,(dB c l).1=a:=⟨_,rfl⟩
  rw[aF]at o e
  simp[e]
  refine xU (l:=0) (h:=a.length) (s:=cn l) (by simp) (by rfl) (by simp[dN]) (by simp[fo]) (by omega) (by rw[k2,o];simp) ?_
  simp
  refine l5 (l:=[c]) (by simp) (by rfl) ?_
  have ad0:l.length=a.length+1+q.length:=by rw[o];simp;omega
  have Pr:IntKind.i64.wrap ((a.length:Int)+1)=((a.length+1:Nat):Int):=by rw[cP (by omega) (by omega)];omega
  simp[Pr]
  refine xU (l:=a.length+1) (h:=l.length) (s:=cn l) (by simp) (by rfl) (by simp[dN];omega) (by simp[fo,k2]) (by omega) (by rw[k2];omega) ?_
  simp[bj]
  refine aG _ _ ⟨rfl,?_⟩
  rw[vt,vt,aj,aF]
  have bp:((List.drop 0 l).take (a.length-0))=a:=by rw[o];simp
  have bo:((List.drop (a.length+1) l).take (l.length-(a.length+1)))=q:=by
   rw[List.take_of_length_le (by simp)]
   rw[o,show a++c::q=(a++[c])++q from by simp,List.drop_left' (by simp)]
  rw[bp,bo]
  rfl
theorem Ou{l:List Nat}{c:Nat}{H:ab}(ar:Bytes l)(ag:c<256)(hlen:l.length<4611686018427387904):
  a0 prog 60 [.string (cn l),.string (cn [c])] H (fun u H1=>H1=H/\u= .tuple #[.string (cn (dB c l).1),.string (cn ((dB c l).2.getD [])),.bool (dB c l).2.isSome]):=by
 refine a0.cq fun Q aG=>?_
 apply U_ (by simp)
 simp[Hg]
 refine a7.mk (Xx ar ag hlen) ?_
 rintro u H ⟨rfl,rfl⟩
 simp[bj]
 exact aG _ _ ⟨rfl,rfl⟩
theorem Q8{l:List Nat}{c:Nat}{H:ab}(ar:Bytes l)(ag:c<256):
  a0 prog 85 [.string (cn l),.string (cn [c])] H (fun u H1=>H1=H/\u= .bool (decide (l.head?=some c))):=by
 refine a0.cq fun Q aG=>?_
 apply Vd (by simp)
 simp[Hk]
 refine bV.join (by kernel_rfl) (fun c7 dV bR=>bR=H/\c7 4= .bool (decide (l.head?=some c))) ?_ ?_
 ·rintro K a1-
  simp
  refine l5 (l:=l) (by simp) (by rfl) ?_
  simp
  refine l5 (l:=[c]) (by simp) (by rfl) ?_
  cases l with
  | nil=>
   simp
   refine a1 _ _ _ ⟨rfl,by simp⟩
  | cons x r=>
   have e:((1:Int)<=((r.length:Int)+1))=True:=by simp;omega
   simp[e]
   refine l5 (l:=[c]) (by simp) (by rfl) ?_
   simp
   refine xU (l:=0) (h:=1) (s:=cn (x::r)) (by simp) (by rfl) (by simp[dN]) (by simp[fo]) (by omega) (by rw[k2];simp) ?_
   rw[vt]
   simp
   refine a1 _ _ _ ⟨rfl,?_⟩
   have I:x<256:=ar x (by simp)
   simp[Hw (a:=[x]) (b:=[c]) (by intro y aJ;simp at aJ;omega) (by intro y aJ;simp at aJ;omega)]
 ·rintro c7 dV H ⟨rfl,bD⟩
  simp at bD
  simp[bD,bj]
  exact aG _ _ ⟨rfl,rfl⟩
def ko(c:Nat)(l:List Nat):List Nat:=if l.head?=some c then l.tail else l
theorem Xw{l:List Nat}{c:Nat}{H:ab}(ar:Bytes l)(ag:c<256):
  a0 prog 77 [.string (cn l),.string (cn [c])] H (fun u H1=>H1=H/\u= .tuple #[.string (cn (ko c l)),.bool (decide (l.head?=some c))]):=by
 refine a0.cq fun Q aG=>?_
 apply Vc (by simp)
 simp[Hj]
 refine a7.mk (Q8 ar ag) ?_
 rintro u H ⟨rfl,rfl⟩
 by_cases h:l.head?=some c
 ·simp[h]
  refine l5 (l:=[c]) (by simp) (by rfl) ?_
  simp
  refine xU (l:=1) (h:=l.length) (s:=cn l) (by simp) (by rfl) (by simp[dN]) (by simp[fo,k2]) ?_ (by rw[k2];omega) ?_
  ·cases l with
   | nil=>simp at h
   | cons x r=>simp
  rw[vt]
  simp[bj]
  refine aG _ _ ⟨rfl,?_⟩
  unfold ko
  rw[if_pos h,List.take_of_length_le (by simp)]
  simp[h]
 ·simp[h,bj]
  refine aG _ _ ⟨rfl,?_⟩
  unfold ko
  rw[if_neg h]
  simp[h]
theorem Oq{l:List Nat}{c:Nat}{H:ab}(ar:Bytes l)(ag:c<256):
  a0 prog 61 [.string (cn l),.string (cn [c])] H (fun u H1=>H1=H/\u= .tuple #[.string (cn (ko c l)),.bool (decide (l.head?=some c))]):=by
 refine a0.cq fun Q aG=>?_
 apply Va (by simp)
 simp[Hh]
 refine a7.mk (Xw ar ag) ?_
 rintro u H ⟨rfl,rfl⟩
 simp[bj]
 exact aG _ _ ⟨rfl,rfl⟩
def iL(c:Nat):Prop:=48<=c/\c<=57
instance(c:Nat):Decidable (iL c):=by unfold iL;exact inferInstance
def l_(l:List Nat):Prop:=(∀c∈l,iL c)/\l≠[]/\¬(l.head?=some 48/\1<l.length)/\l.length<=4000
instance(l:List Nat):Decidable (l_ l):=by unfold l_;exact inferInstance
def fl(l:List Nat):Nat:=l.foldl (fun a c=>10*a+(c-48)) 0
theorem H2(l:List Nat)(a:Nat):l.foldl (fun a c=>10*a+(c-48)) a=a*10^l.length+fl l:=by
 induction l generalizing a with
 | nil=>simp[fl]
 | cons c l aV=>
  unfold fl
  simp only[List.foldl_cons,List.length_cons]
  rw[aV,aV (10*0+(c-48)),Nat.pow_succ]
  rw[show(10*a+(c-48))*10^l.length=a*(10^l.length*10)+(c-48)*10^l.length from by rw[Nat.add_mul];congr 1;rw[Nat.mul_comm 10 a,Nat.mul_assoc,Nat.mul_comm 10]]
  simp;omega
theorem BM(a b:List Nat):fl (a++b)=fl a*10^b.length+fl b:=by
 unfold fl
 rw[List.foldl_append]
 exact H2 b _
theorem O4(c:Nat)(r:List Nat):fl (c::r)=(c-48)*10^r.length+fl r:=by
 conv=>lhs;unfold fl
 rw[List.foldl_cons,H2]
 simp
theorem O5(c:Nat):fl [c]=c-48:=by simp[fl]
theorem tg{l:List Nat}(h:∀c∈l,iL c):fl l<10^l.length:=by
 induction l with
 | nil=>simp[fl]
 | cons c r aV=>
  have o:=aV fun x I=>h x (by simp[I])
  have aa:=h c (by simp)
  unfold iL at aa
  rw[O4,List.length_cons,Nat.pow_succ]
  have aD:(c-48)*10^r.length<=9*10^r.length:=Nat.mul_le_mul_right _ (by omega)
  omega
theorem O7{l:List Nat}{i:Nat}(ad:i<l.length):fl (l.take (i+1))=fl (l.take i)*10+(l[i]?.getD 0-48):=by
 rw[List.take_succ_eq_append_getElem ad,BM,O5,bx ad]
 simp
theorem V9{l:List Nat}{H:ab}(ar:Bytes l)(hlen:l.length<4611686018427387904):
  a0 prog 62 [.string (cn l)] H (fun u H1=>Ext H H1/\if l_ l then∃v x,u= .tuple #[v,.bool true]/\cO H1 95 v x/\Trim x/\val x=fl l else u= .tuple #[.slice none 0 0,.bool false]):=by
 refine a0.cq fun Q aG=>?_
 apply Uu (by simp)
 simp[GN]
 refine l5 (l:=l) (by simp) (by rfl) ?_
 simp
 refine dy.range (by kernel_rfl) l.length (by omega) (by simp) (by rfl) (by simp) (by decide) (by decide) (fun i bQ dq aY=>aY=H/\∀c∈l.take i,iL c) ?_ ?_ ?_
 ·exact⟨rfl,by simp⟩
 ·rintro i az bC H1 ad a2 ⟨rfl,aL⟩ K a1
  simp at a2
  simp[a2]
  refine bV.join (by kernel_rfl) (fun c7 dV bR=>bR=H1/\c7 24= .bool (decide (¬iL (l[i]?.getD 0)))) ?_ ?_
  ·rintro cT ee-
   obtain⟨c,ag⟩:∃c,l[i]?.getD 0=c:=⟨_,rfl⟩
   simp
   refine xS (n:=i) (uo:= .i64) (l:=l) (by simp) ar (by simp) ad (by rfl) ?_
   rw[ag]
   rcases Nat.lt_or_ge c 48 with o | o
   ·have bp:((c:Int)<48)=True:=by simp;omega
    simp[bp]
    refine ee _ _ _ ⟨rfl,?_⟩
    simp[iL];omega
   ·have bp:((c:Int)<48)=False:=by simp;omega
    simp[bp]
    refine xS (n:=i) (uo:= .i64) (l:=l) (by simp) ar (by simp) ad (by rfl) ?_
    rw[ag]
    rcases Nat.lt_or_ge 57 c with aa | aa
    ·have bo:((57:Int)<c)=True:=by simp;omega
     simp[bo]
     refine ee _ _ _ ⟨rfl,?_⟩
     simp[iL];omega
    ·have bo:((57:Int)<c)=False:=by simp;omega
     simp[bo]
     refine ee _ _ _ ⟨rfl,?_⟩
     simp[iL];omega
  ·rintro c7 dV bR ⟨rfl,Ix⟩
   simp at Ix
   simp[Ix]
   refine bG.cC (fun aU=>?_) (fun aU=>?_)
   ·refine a1 _ _ _ (by simp[a2]) ⟨rfl,?_⟩
    intro c ag
    rw[List.take_succ_eq_append_getElem ad]at ag
    rcases List.mem_append.1 ag with ag | ag
    ·exact aL c ag
    ·simp at ag
     subst ag
     rw[bx ad]at aU
     exact aU
   ·simp[bj]
    refine aG _ _ ⟨Ext.refl _,?_⟩
    rw[if_neg ?_]
    rintro⟨o,-⟩
    apply aU
    rw[bx ad]
    exact o _ (List.getElem_mem ad)
 ·rintro az bC H1 a2 ⟨rfl,aL⟩
  rw[List.take_length]at aL
  simp
  refine bV.join (by kernel_rfl) (fun c7 dV bR=>bR=H1/\∃b:Bool,c7 42= .bool b/\(b=false↔(l≠[]/\¬(l.head?=some 48/\1<l.length)/\l.length<=4000))) ?_ ?_
  ·rintro cT ee-
   cases l with
   | nil=>
    have h7:(cn []).toList.isEmpty=true:=by simp[s_]
    simp[h7]
    refine ee _ _ _ ⟨rfl,true,by simp,by simp⟩
   | cons c r=>
    have h7:(cn (c::r)).toList.isEmpty=false:=by simp[s_]
    simp[h7]
    refine xS (n:=0) (uo:= .i64) (l:=c::r) (by simp) ar (by simp) (by simp) (by rfl) ?_
    by_cases qa:c=48
    ·subst qa
     simp
     refine l5 (l:=48::r) (by simp) (by rfl) ?_
     rcases Nat.eq_zero_or_pos r.length with aj | aj
     ·simp[aj]
      refine l5 (l:=48::r) (by simp) (by rfl) ?_
      simp[aj]
      refine ee _ _ _ ⟨rfl,false,by simp,by simp[aj]⟩
     ·have bp:((1:Int)<((r.length:Int)+1))=True:=by simp;omega
      simp[bp]
      refine ee _ _ _ ⟨rfl,true,by simp,Iff.intro (fun h=>by cases h) (fun h=>absurd ⟨by simp,by simp;omega⟩ h.2.1)⟩
    ·have bp:((c:Int)=48)=False:=by simp;omega
     simp[bp]
     refine l5 (l:=c::r) (by simp) (by rfl) ?_
     simp
     refine ee _ _ _ ⟨rfl,decide (4000<r.length+1),by simp;omega,?_⟩
     simp[qa]
  ·rintro c7 dV bR ⟨rfl,b,tm,ae⟩
   simp at tm
   simp[tm]
   refine bG.mk (fun ag=>?_) (fun ag=>?_)
   ·simp[bj]
    refine aG _ _ ⟨Ext.refl _,?_⟩
    rw[if_neg ?_]
    rintro⟨o,aa⟩
    have:=ae.2 aa
    rw[this]at ag
    cases ag
   ·have iU:l_ l:=⟨aL,ae.1 ag⟩
    simp only[iU,if_true]at aG
    simp
    have tW:l.length<=4000:=iU.2.2.2
    refine dy.mk (by kernel_rfl) (fun n az bC H1=>Ext bR H1/\∃(p s x:List Nat) (v:Value),n=s.length/\l=p++s/\az 0= .string (cn s)/\az 5=v/\cO H1 95 v x/\Trim x/\val x=fl p) l.length ?_ ?_
    ·exact⟨Ext.refl _,[],l,[],_,rfl,rfl,by simp,rfl,⟨ec.nil _ _ _,by simp⟩,Trim.nil,by simp[fl,val]⟩
    ·rintro n fS hj b_ ⟨c1,p,s,x,v,rfl,jr,aH,b2,eb,bc,ao⟩ cT ee
     simp at aH b2
     have SU:Bytes s:=fun c ag=>ar c (by rw[jr];simp[ag])
     have JX:∀c∈p,iL c:=fun c ag=>aL c (by rw[jr];simp[ag])
     have Du:∀c∈s,iL c:=fun c ag=>aL c (by rw[jr];simp[ag])
     have kh:p.length+s.length<=4000:=by rw[jr]at tW;simpa using tW
     cases an:s with
     | nil=>
      have h7:(cn []).toList.isEmpty=true:=by simp[s_]
      subst an
      simp[aH,h7]
      rw[List.append_nil]at jr
      exact aG _ _ ⟨c1,v,x,by simp[bj,b2],eb,bc,by rw[ao,jr]⟩
     | cons c r=>
      have h7:(cn s).toList.isEmpty=false:=by simp[s_,an]
      have sf:0<s.length:=by rw[an];simp
      obtain⟨kO,wK⟩:∃kO,s.length-1=kO:=⟨_,rfl⟩
      obtain⟨hY,zq⟩:∃hY,kO % 9=hY:=⟨_,rfl⟩
      obtain⟨n,aE⟩:∃n,hY+1=n:=⟨_,rfl⟩
      have ad8:n<=9/\n<=s.length/\0<n:=by omega
      have O_:IntKind.i64.wrap ((s.length:Int)-1)=(kO:Int):=by rw[cP (by omega) (by omega)];omega
      have Pa:((kO:Int)).tmod 9=(hY:Int):=by rw[<-zq];rfl
      have Pb:IntKind.i64.wrap ((hY:Int)+1)=(n:Int):=by rw[cP (by omega) (by omega)];omega
      have BO:IntKind.i64.wrap (hY:Int)=(hY:Int):=by rw[cP (by omega) (by omega)]
      simp[aH,h7]
      refine l5 (l:=s) (by simp) (by rfl) ?_
      simp[O_,Pa,Pb,BO]
      refine dy.range (by kernel_rfl) n (by omega) (by simp) (by rfl) (by simp) (by decide) (by decide) (fun i m0 pU dX=>dX=b_/\∃a e:Nat,m0 7= .int .u32 a/\m0 8= .int .u32 e/\a=fl (s.take i)/\e=10^i) ?_ ?_ ?_
      ·refine⟨rfl,0,1,by simp,by simp,by simp[fl],by simp⟩
      ·rintro i m0 pU dX ad yN ⟨rfl,a,e,cJ,d_,aF,he⟩ m4 fN
       simp at yN cJ d_
       have zd:i<s.length:=by omega
       obtain⟨tb,wo⟩:∃tb,s[i]?.getD 0=tb:=⟨_,rfl⟩
       have Rp:iL tb:=Du tb (by rw[<-wo,bx zd];exact List.getElem_mem zd)
       unfold iL at Rp
       have rQ:a<10^i:=by
        have:=tg (l:=s.take i) fun c ag=>Du c (List.mem_of_mem_take ag)
        rw[<-aF,List.length_take,Nat.min_eq_left (by omega)]at this
        exact this
       have RP:10^i<=10^8:=Nat.pow_le_pow_right (by decide) (by omega)
       rw[<-he]at rQ RP
       obtain⟨m,hm⟩:∃m,10*a=m:=⟨_,rfl⟩
       obtain⟨d,kI⟩:∃d,tb-48=d:=⟨_,rfl⟩
       obtain⟨md,ad5⟩:∃md,m+d=md:=⟨_,rfl⟩
       obtain⟨cI,rU⟩:∃cI,10*e=cI:=⟨_,rfl⟩
       have f1:IntKind.u32.wrap (10*(a:Int))=(m:Int):=by rw[lu (by omega) (by omega)];omega
       have f2:IntKind.u8.wrap ((tb:Int)-48)=(d:Int):=by rw[Ft (by omega) (by omega)];omega
       have f3:IntKind.u32.wrap (d:Int)=(d:Int):=lu (by omega) (by omega)
       have f4:IntKind.u32.wrap ((m:Int)+d)=(md:Int):=by rw[lu (by omega) (by omega)];omega
       have f5:IntKind.u32.wrap (10*(e:Int))=(cI:Int):=by rw[lu (by omega) (by omega)];omega
       simp[yN,cJ,d_,aH,f1,f5]
       refine xS (n:=i) (uo:= .i64) (l:=s) (by simp[aH]) SU (by simp) zd (by rfl) ?_
       rw[wo]
       simp[f2,f3,f4,f5,d_]
       refine fN _ _ _ (by simp[yN]) ⟨rfl,md,cI,by simp,by simp,?_,?_⟩
       ·rw[O7 zd,wo,<-aF];omega
       ·rw[Nat.pow_succ,<-he];omega
      ·rintro m0 pU dX yN ⟨rfl,a,e,cJ,d_,aF,he⟩
       simp at cJ d_
       simp[cJ,d_,b2]
       have CZ:e<=10^9:=by rw[he];exact Nat.pow_le_pow_right (by decide) (by omega)
       have rQ:a<10^n:=by
        have:=tg (l:=s.take n) fun c ag=>Du c (List.mem_of_mem_take ag)
        rw[<-aF,List.length_take,Nat.min_eq_left (by omega)]at this
        exact this
       rw[<-he]at rQ
       have cH:Ext dX (dX++[.own 95 false [.int .u32 (e:Int)]]):=Ext.more dX (by simp)
       have QO:cO (dX++[.own 95 false [.int .u32 (e:Int)]]) 95 (.slice (some ⟨dX.length,0,none⟩) 1 1) [e]:=by
        simpa using cO.fresh dX 95 [e] 1 1 (by omega) rfl (by intro y aJ;simp at aJ;omega) false
       refine sH (e:=95) (J:=1) (z:= .int .u32 0) (out:=[.int .u32 e]) (by simp) (by simp) (by simp) (by rfl) (by rfl) (by omega) (by omega) (by omega) ?_ (by simp) ?_
       ·simp[iy,pB]
       have iW:x.length<=4000:=by
        refine bc.length_le ?_
        rw[ao]
        refine Nat.lt_of_lt_of_le (tg JX) (Nat.le_trans (sA 10 p.length 4000 (by decide) (show p.length<=4000 by omega)) (Ev 10 4294967296 4000 (by decide)))
       simp[b2]
       refine a7.mk (MB (eb.ext cH) QO (by omega) (by simp)) ?_
       rintro w cE ⟨cA,aaM,QR,yY,ih⟩
       simp[cJ]
       have c9:Ext cE (cE++[.own 95 false [.int .u32 (a:Int)]]):=Ext.more cE (by simp)
       have wc:cO (cE++[.own 95 false [.int .u32 (a:Int)]]) 95 (.slice (some ⟨cE.length,0,none⟩) 1 1) [a]:=by
        simpa using cO.fresh cE 95 [a] 1 1 (by omega) rfl (by intro y aJ;simp at aJ;omega) false
       refine sH (e:=95) (J:=1) (z:= .int .u32 0) (out:=[.int .u32 a]) (by simp) (by simp) (by simp) (by rfl) (by rfl) (by omega) (by omega) (by omega) ?_ (by simp) ?_
       ·simp[iy,pB]
       simp
       refine a7.mk (lp wc (by simp)) ?_
       rintro hK eE ⟨rfl,ra,QT,ady,Tm,Se⟩
       simp
       have ael:aaM.length<=5000:=by
        refine yY.length_le ?_
        rw[ih,ao]
        have ng:val [e]=e:=by simp[val]
        rw[ng]
        exact WB 5000 (tg JX) CZ (by omega)
       refine a7.mk (LJ (QR.ext c9) QT (by omega) (by simp at Se;omega)) ?_
       rintro cc e8 ⟨dA,eh,QS,QM,Tl⟩
       simp[aH]
       refine xU (l:=n) (h:=s.length) (s:=cn s) (by simp[aH]) (by rfl) (by simp[dN]) (by simp[fo,k2]) (by omega) (by rw[k2];omega) ?_
       rw[vt]
       simp
       have kJ:(s.drop n).take (s.length-n)=s.drop n:=List.take_of_length_le (by simp)
       refine ee (s.drop n).length _ _ _ (by simp;omega) ⟨c1.aB (cH.aB (cA.aB (c9.aB dA))),p++s.take n,s.drop n,eh,cc,rfl,by simp[jr],by simp[kJ],by simp,QS,QM,?_⟩
       rw[Tl,ih,ao,Tm,BM,List.length_take,Nat.min_eq_left (by omega),<-he,<-aF]
       simp[val]
@[simp] theorem acY(d t n:Nat)(aZ:List (Nat×Operand)):(fb d t n aZ).d=some d:=rfl
def qT(l:List Nat):List Nat:=(dB 47 l).1
def l6(l:List Nat):Option (List Nat):=(dB 47 l).2
def nY(l:List Nat):List Nat:=ko 45 (qT l)
def nE(l:List Nat):Bool:=decide ((qT l).head?=some 45)
def Fy(l:List Nat):Prop:=∀u,l6 l=some u->l_ u/\1<fl u
def gT(l:List Nat):Nat:=match l6 l with | some u=>fl u | none=>1
def i_(l:List Nat):Int:=if nE l=true then-(fl (nY l):Int)else fl (nY l)
def m_(l:List Nat):Prop:=l_ (nY l)/\Fy l/\¬(nE l=true/\fl (nY l)=0)/\(l6 l=none\/Int.gcd (i_ l) (gT l)=1)
theorem Bytes.tail{c:Nat}{l:List Nat}(h:Bytes l):Bytes (ko c l):=by
 unfold ko
 split
 ·exact fun x I=>h x (List.mem_of_mem_tail I)
 ·exact h
theorem HR{c:Nat}{l:List Nat}:(∀x∈(dB c l).1,x∈l)/\∀u,(dB c l).2=some u->∀x∈u,x∈l:=by
 cases aj:(dB c l).2 with
 | none=>exact⟨fun x I=>by rw[vA aj]at I;exact I,fun u hu=>by cases hu⟩
 | some r=>
  have o:=vB aj
  refine⟨fun x I=>by rw[o];simp[I],fun u hu x I=>?_⟩
  cases hu
  rw[o];simp[I]
theorem HQ{c:Nat}{l:List Nat}:(dB c l).1.length<=l.length/\∀u,(dB c l).2=some u->u.length<=l.length:=by
 cases aj:(dB c l).2 with
 | none=>exact⟨by rw[vA aj];omega,fun u hu=>by cases hu⟩
 | some r=>
  have o:=congrArg List.length (vB aj)
  simp at o
  exact⟨by omega,fun u hu=>by cases hu;omega⟩
theorem Ls{l:List Nat}{H:ab}(ar:Bytes l)(hlen:l.length<4611686018427387904):
  a0 prog 62 [.string (cn l)] H (fun u H1=>Ext H H1/\∃v b x,u= .tuple #[v,.bool b]/\cO H1 95 v x/\Trim x/\x.length<=4000/\(b=true↔l_ l)/\(b=true->val x=fl l)):=
 (V9 ar hlen).mono fun u H1 ⟨I,hu⟩=>by
  by_cases aL:l_ l
  ·rw[if_pos aL]at hu
   obtain⟨v,x,rfl,eb,bc,ao⟩:=hu
   refine⟨I,v,true,x,rfl,eb,bc,?_,by simp[aL],fun _=>ao⟩
   refine bc.length_le ?_
   rw[ao]
   exact Nat.lt_of_lt_of_le (tg aL.1) (Nat.le_trans (sA 10 _ 4000 (by decide) aL.2.2.2) (Ev 10 4294967296 4000 (by decide)))
  ·rw[if_neg aL]at hu
   subst hu
   exact⟨I,_,false,[],rfl,⟨ec.nil _ _ _,by simp⟩,Trim.nil,by simp,by simp[aL],by simp⟩
theorem Wk{l:List Nat}{H:ab}(ar:Bytes l)(hlen:l.length<4611686018427387904):
  a0 prog 37 [.string (cn l)] H (fun u H1=>Ext H H1/\∃v,(m_ l/\u= .tuple #[v,.bool true]/\b4 H1 v (Rat.divInt (i_ l) (gT l))\/¬m_ l/\u= .tuple #[v,.bool false])/\∃s1 b1 dx cG s2 ds dF dh,v= .agg #[.bool s1,.slice b1 dx cG,.bool s2,.slice ds dF dh]):=by
 refine a0.cq fun Q aG=>?_
 apply Ub (by simp)
 have I4:Bytes (qT l):=fun x I=>ar x (HR.1 x I)
 have adx:(qT l).length<=l.length:=HQ.1
 simp[GC,K1,K0]
 refine a7.mk (Ou ar (by decide) hlen) ?_
 rintro u H1 ⟨rfl,rfl⟩
 simp
 refine a7.mk (Oq I4 (by decide)) ?_
 rintro u H1 ⟨rfl,rfl⟩
 simp
 refine a7.mk (Ls (l:=nY l) (I4.tail) ?_) ?_
 ·unfold nY ko;split
  ·rw[List.length_tail];omega
  ·omega
 rintro u H1 ⟨bI,agt,Hu,x2,rfl,CF,I7,ad1,wm,Kn⟩
 simp
 have CD:cO (H1++[.own 95 false [.int .u32 1]]) 95 (.slice (some ⟨H1.length,0,none⟩) 1 1) [1]:=by
  simpa using cO.fresh H1 95 [1] 1 1 (by omega) rfl (by simp) false
 refine sH (e:=95) (J:=1) (z:= .int .u32 0) (out:=[.int .u32 1]) (by simp) (by simp) (by simp) (by rfl) (by rfl) (by omega) (by omega) (by omega) ?_ (by simp) ?_
 ·simp[iy,pB]
 simp
 have bu:Ext H1 (H1++[.own 95 false [.int .u32 1]]):=Ext.more H1 (by simp)
 refine bV.join (by kernel_rfl) (fun c7 dV bR=>Ext (H1++[.own 95 false [.int .u32 1]]) bR/\∃(w:Value) (y:List Nat) (b:Bool),c7 11=w/\c7 12= .bool b/\cO bR 95 w y/\Trim y/\y.length<=4000/\(b=true↔Fy l)/\(b=true->val y=gT l)) ?_ ?_
 ·rintro K a1-
  cases aj:l6 l with
  | none=>
   have fq:(dB 47 l).2=none:=aj
   simp[fq]
   refine a1 _ _ _ ⟨Ext.refl _,.slice (some ⟨H1.length,0,none⟩) 1 1,[1],true,rfl,rfl,CD,by simp[Trim],by simp,?_,?_⟩
   ·simp only[true_iff];intro u hu;rw[aj]at hu;cases hu
   ·intro _;simp[gT,aj,val]
  | some q=>
   have fq:(dB 47 l).2=some q:=aj
   have zB:Bytes q:=fun x I=>ar x (HR.2 q fq x I)
   have r9:=HQ.2 q fq
   simp[fq]
   refine a7.mk (Ls (l:=q) zB (by omega)) ?_
   rintro u aY ⟨bP,Nd,NR,Nm,rfl,CE,CC,qv,lJ,w4⟩
   cases NR with
   | false=>
    have t_:¬l_ q:=fun h=>by have:=lJ.2 h;cases this
    simp
    refine a1 _ _ _ ⟨bP,Nd,Nm,false,by simp,by simp,CE,CC,qv,?_,by simp⟩
    simp only[Bool.false_eq_true,false_iff]
    intro h
    exact t_ (h q aj).1
   | true=>
    have Rw:l_ q:=lJ.1 rfl
    have ao:=w4 rfl
    simp
    have c1:Ext aY (aY++[.own 95 false [.int .u32 1]]):=Ext.more aY (by simp)
    have wb:cO (aY++[.own 95 false [.int .u32 1]]) 95 (.slice (some ⟨aY.length,0,none⟩) 1 1) [1]:=by
     simpa using cO.fresh aY 95 [1] 1 1 (by omega) rfl (by simp) false
    refine sH (e:=95) (J:=1) (z:= .int .u32 0) (out:=[.int .u32 1]) (by simp) (by simp) (by simp) (by rfl) (by rfl) (by omega) (by omega) (by omega) ?_ (by simp) ?_
    ·simp[iy,pB]
    simp
    refine a7.mk (BE (CE.ext c1) wb CC (by simp[Trim]) (by omega) (by simp)) ?_
    rintro u dX ⟨rfl,rfl⟩
    have bp:val [1]=1:=by simp[val]
    rw[bp,ao]
    obtain⟨c,ag⟩:∃c:Int,(if fl q<1 then-1 else if 1<fl q then 1 else 0:Int)=c:=⟨_,rfl⟩
    rw[ag]
    simp
    refine a1 _ _ _ ⟨bP.aB c1,Nd,Nm,decide (0<c),by simp,by simp,CE.ext c1,CC,qv,?_,?_⟩
    ·rw[decide_eq_true_iff]
     have aH:0<c↔1<fl q:=by rw[<-ag];split<;>(try split)<;>omega
     rw[aH]
     exact⟨fun h u hu=>by rw[aj]at hu;cases hu;exact⟨Rw,h⟩,fun h=>(h q aj).2⟩
    ·intro _;rw[ao];simp[gT,aj]
 ·rintro c7 dV bR ⟨b5,w,y,b,ng,nZ,I8,qh,zp,ae,sn⟩
  simp at ng nZ
  refine bV.join (by kernel_rfl) (fun fS hj b_=>b_=bR/\∃g:Bool,fS 57= .bool g/\(g=false↔(Hu=true/\b=true/\¬(nE l=true/\x2.length=0)))) ?_ ?_
  ·rintro K a1-
   cases Hu with
   | false=>
    simp
    refine a1 _ _ _ ⟨rfl,true,by simp,by simp⟩
   | true=>
    cases b with
    | false=>
     simp[nZ]
     refine a1 _ _ _ ⟨rfl,true,by simp,by simp⟩
    | true=>
     have QQ:=CF.ext (bu.aB b5)
     by_cases hm:(qT l).head?=some 45
     ·have r1:(dB 47 l).1.head?=some 45:=hm
      simp[nZ,r1]
      refine cY (by simpa using QQ.row) (by simp) ?_
      simp
      refine a1 _ _ _ ⟨rfl,decide (x2.length=0),by simp,by simp[nE,hm]⟩
     ·have r1:¬(dB 47 l).1.head?=some 45:=hm
      simp[nZ,r1]
      refine a1 _ _ _ ⟨rfl,false,by simp,by simp[nE,hm]⟩
  ·rintro fS hj b_ ⟨rfl,g,ID,aU⟩
   simp at ID
   simp[ID]
   have nB:Ext H b_:=(Ext.more H (by simp)).aB (bI.aB (bu.aB b5))
   refine bG.mk (fun ag=>?_) (fun ag=>?_)
   ·have aE:¬m_ l:=by
     rintro⟨o,aa,aD,-⟩
     have:=aU.2 ⟨wm.2 o,ae.2 aa,fun⟨bD,b2⟩=>aD ⟨bD,by rw[<-Kn (wm.2 o),(List.length_eq_zero_iff.1 b2)];rfl⟩⟩
     rw[this]at ag;cases ag
    simp[bj]
    exact aG _ _ ⟨nB,_,.inr ⟨aE,rfl⟩,_,_,_,_,_,_,_,_,rfl⟩
   ·obtain⟨mr,o3,o4⟩:=aU.1 ag
    have mE:=Kn mr
    have jX:=sn o3
    simp
    have Pc:(if nE l=true then-(val x2:Int)else val x2)=i_ l:=by rw[mE];rfl
    have BO:(if false=true then-(val y:Int)else val y)=(gT l:Int):=by rw[jX];rfl
    refine a7.mk (D2 (xp (neg:=nE l) (CF.ext (bu.aB b5)) I7)) ?_
    rintro nK dX ⟨cH,s1,b1,dx,cG,rfl,pt⟩
    rw[Pc]at pt
    simp[ng]
    refine a7.mk (D2 (xp (neg:=false) (I8.ext cH) qh)) ?_
    rintro lq cE ⟨cA,s2,ds,dF,dh,rfl,uj⟩
    rw[BO]at uj
    simp
    have Ry:0<gT l:=by
     have o:=ae.1 o3
     unfold gT
     cases hu:l6 l with
     | none=>simp
     | some q=>have:=(o q hu).2;simp;omega
    have c9:Ext cE (cE++[.dead]):=Ext.more cE (by simp)
    refine bV.join (by kernel_rfl) (fun m1 oK eE=>Ext (cE++[.dead]) eE/\oK 2= .agg #[.bool s1,.slice b1 dx cG,.bool s2,.slice ds dF dh]/\∃g:Bool,m1 3= .bool g/\(g=true↔(l6 l=none\/Int.gcd (i_ l) (gT l)=1))) ?_ ?_
    ·rintro K a1-
     cases aj:l6 l with
     | none=>
      have fq:(dB 47 l).2=none:=aj
      simp[fq]
      refine a1 _ _ _ ⟨Ext.refl _,by simp,true,by simp,by simp[aj]⟩
     | some q=>
      have fq:(dB 47 l).2=some q:=aj
      simp[fq]
      have BT:Fits (i_ l):=by
       have o:(i_ l).natAbs=val x2:=by unfold i_;rw[<-mE];split<;>omega
       unfold Fits;rw[o]
       exact Nat.lt_of_lt_of_le (jC CF.2) (sA 4294967296 _ 1000000 (by decide) (by omega))
      have yF:Fits (gT l):=by
       unfold Fits;rw[Int.natAbs_natCast,<-jX]
       exact Nat.lt_of_lt_of_le (jC I8.2) (sA 4294967296 _ 1000000 (by decide) (by omega))
      refine a7.mk (Io ((pt.ext cA).ext c9) (uj.ext c9) BT yF) ?_
      rintro pK e8 ⟨dA,xe⟩
      refine⟨dA,?_⟩
      simp
      refine a7.mk (uz (n:=1) (by omega) (by omega)) ?_
      rintro M6 mb ⟨fF,zY⟩
      refine⟨fF,?_⟩
      simp
      have Pt:Fits ((Int.gcd (i_ l) (gT l):Nat):Int):=by
       have aa:Int.gcd (i_ l) (gT l)<=gT l:=Nat.le_of_dvd Ry (Int.ofNat_dvd.1 (Int.gcd_dvd_right _ _))
       exact yF.le (by simpa using aa)
      refine a7.mk (D0 (xe.ext fF) zY Pt (Fits.small (by decide))) ?_
      rintro oE hU ⟨fP,rfl⟩
      refine⟨fP,?_⟩
      obtain⟨gS,fE⟩:∃gS:Int,(if((Int.gcd (i_ l) (gT l):Nat):Int)<1 then-1 else if((Int.gcd (i_ l) (gT l):Nat):Int)=1 then 0 else 1:Int)=gS:=⟨_,rfl⟩
      rw[fE]
      simp
      refine a1 _ _ _ ⟨dA.aB (fF.aB fP),by simp,decide (gS=0),by simp,?_⟩
      rw[decide_eq_true_iff]
      simp only[aj,reduceCtorEq,false_or]
      rw[<-fE]
      split
      ·omega
      ·split<;>omega
    ·rintro m1 oK eE ⟨dA,gr,iz,aD,Jr⟩
     simp at gr aD
     simp[gr,aD,bj]
     have KH:=(cH.aB (cA.aB (c9.aB dA)))
     have iU:m_ l↔iz=true:=by
      rw[Jr]
      refine⟨fun h=>h.2.2.2,fun h=>⟨wm.1 mr,ae.1 o3,fun⟨bD,b2⟩=>o4 ⟨bD,?_⟩,h⟩⟩
      rw[<-mE]at b2
      exact(Nat.eq_zero_or_pos _).resolve_right fun h=>by have:=I7.pos.1 h;omega
     cases iz with
     | true=>
      have n_:Int.gcd (i_ l) (gT l)=1:=by
       rcases Jr.1 rfl with h | h
       ·have:gT l=1:=by simp[gT,h]
        rw[this];simp
       ·exact h
      refine aG _ _ ⟨nB.aB KH,_,.inl ⟨iU.2 rfl,rfl,?_⟩,_,_,_,_,_,_,_,_,rfl⟩
      obtain⟨bp,bo⟩:=BK (i_ l) (gT l) (by omega)
      have wD:Nat.gcd (i_ l).natAbs (gT l)=1:=n_
      rw[wD]at bp bo
      refine⟨_,_,_,_,rfl,?_,?_⟩
      ·rw[bp];simpa using pt.ext (cA.aB (c9.aB dA))
      ·rw[bo];simpa using uj.ext (c9.aB dA)
     | false=>
      refine aG _ _ ⟨nB.aB KH,_,.inr ⟨fun h=>(by have:=iU.1 h;cases this),rfl⟩,_,_,_,_,_,_,_,_,rfl⟩
abbrev iw(H:ab)(v:Value)(r:List Rat):Prop:=Row 44 4 true b4 H v r
instance:bM iw:=⟨fun h I=>bM.ext (af:=Row 44 4 true b4) h I⟩
abbrev hl(H:ab)(v:Value)(t:List (List Rat)):Prop:=Row 84 1 false iw H v t
instance:bM hl:=⟨fun h I=>bM.ext (af:=Row 84 1 false iw) h I⟩
theorem hl.ext{H H1:ab}{v:Value}{t:List (List Rat)}(h:hl H v t)(I:Ext H H1):hl H1 v t:=bM.ext h I
def ep(r:List Rat):Rat:=r.foldl (·+·) 0
theorem LX{r:List Rat}{i:Nat}{q:Rat}(h:r[i]?=some q):ep (r.take (i+1))=ep (r.take i)+q:=by
 have ad:=(cd.1 h).1
 rw[List.take_succ_eq_append_getElem ad]
 unfold ep
 rw[List.foldl_append]
 simp[(cd.1 h).2]
theorem pz{v:Value}{t:List (List Rat)}{j N:Nat}{row:List Rat}{H:ab}(bc:hl H v t)(aj:t[j]?=some row)(ar:row.length<4611686018427387904)(fO:t.length<4611686018427387904)(an:∀k,c4 N (ep (row.take k)))(he:∀q∈row,c4 N q)(cj:N<=1000000):
  a0 prog 30 [.agg #[v],.int .i64 j] H (fun u H1=>Ext H H1/\b4 H1 u (ep row)):=by
 refine a0.cq fun Q aG=>?_
 apply UO (by simp)
 obtain⟨a,c,rfl⟩:=Row.len bc
 simp[G4]
 have ck:Ext H (H++[.dead,.dead]):=Ext.more H (by simp)
 refine a7.mk (xC (n:=0) (by omega) (by omega)) ?_
 rintro qZ H1 ⟨bI,mC⟩
 simp
 refine ev.mk mC.whole ?_
 simp
 have bu:Ext H1 (H1++[.dead]):=Ext.more H1 (by simp)
 have n5:=bc.ext (ck.aB (bI.aB bu))
 refine cK (af:=iw) (xs:=t) (n:=j) (a:=row) (e:=84) (J:=1) (ay:=false) (by simpa using n5) (by simp) aj (by simp) (by simp) (by simp) (by decide) ?_
 intro En Fi oh
 refine cY (af:=b4) (xs:=row) (by simpa using oh) (by simp) ?_
 simp
 refine dy.range (by kernel_rfl) row.length (by omega) (by simp) (by rfl) (by simp) (by decide) (by decide) (fun i bQ dq aY=>Ext (H1++[.dead]) aY/\b4 aY (dq 5) (ep (row.take i))) ?_ ?_ ?_
 ·refine⟨Ext.refl _,?_⟩
  simpa[ep]using mC.ext bu
 ·rintro i bQ dq aY ad a2 ⟨bP,qC⟩ K a1
  simp at a2 qC
  simp[a2]
  obtain⟨x,I⟩:∃x,row[i]?=some x:=⟨_,bx ad⟩
  refine cK (af:=b4) (xs:=row) (n:=i) (a:=x) (e:=44) (J:=4) (ay:=true) (by simpa using bM.ext oh bP) (by simp[a2]) I (by simp) (by simp) (by simp) (by decide) ?_
  intro dp u hu
  simp
  refine ev.mk hu.whole ?_
  simp
  have b5:Ext aY (aY++[.dead]):=Ext.more aY (by simp)
  refine a7.mk (LS (qC.ext b5) (hu.ext b5) (an i) (he x (List.mem_of_getElem? I)) cj) ?_
  rintro w bZ ⟨c1,hw⟩
  simp
  refine ev.mk hw.whole ?_
  refine a1 _ _ _ (by simp[a2]) ⟨bP.aB (b5.aB c1),?_⟩
  rw[LX I]
  simpa using hw
 ·rintro bQ dq aY a2 ⟨bP,qC⟩
  simp at qC
  simp
  refine ev.mk qC.whole ?_
  simp[bj]
  exact aG _ _ ⟨ck.aB (bI.aB (bu.aB bP)),qC⟩
end Go.b9
end
