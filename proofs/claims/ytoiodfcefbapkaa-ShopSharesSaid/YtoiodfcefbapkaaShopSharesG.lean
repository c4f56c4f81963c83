/- Part of the proof of ShopShares. -/
import Derived.Test.YtoiodfcefbapkaaShopSharesF
set_option linter.unusedVariables false
set_option linter.unusedSimpArgs false
section
set_option maxRecDepth 8000
set_option maxHeartbeats 1000000
namespace Go.b_
open Go.Proofs
open Go.Proofs.Try (prog)
attribute [-simp] fL gO hK
theorem Fj(l:List Nat)(k:Nat):val l=val (l.take k)+4294967296^(min k l.length)*val (l.drop k):=by
 conv=>lhs;rw[<-List.take_append_drop k l,m0]
 rw[List.length_take]
theorem fO.whole{H:ab}{u:Value}{y:Nat}(h:fO H u y):Whole prog 95 u:=h.1▸x1 _
theorem LK{v w:Value}{a b:List Nat}{H:ab}(bQ:cO H 95 v a)(ob:Trim a)(bR:cO H 95 w b)(kQ:Trim b)(mw:0<b.length)(j0:a.length<1048570)(jv:b.length<1048570):
  aZ prog 79 [v,w] H (fun u H1=>Ext H H1/\∃q r l m,u= .tuple #[q,r]/\cO H1 95 q l/\Trim l/\val l=val a/val b/\cO H1 95 r m/\Trim m/\val m=val a % val b):=by
 refine aZ.cr fun Q aG=>?_
 apply UI (by simp)
 simp[GK]
 refine a4.mk (BB bQ bR ob kQ (by omega) (by omega)) ?_
 rintro c H ⟨rfl,rfl⟩
 simp
 refine bG.cE (fun ag=>?_) (fun ag=>?_)
 ·have a5:val a<val b:=by
   rcases Nat.lt_or_ge (val a) (val b)with h | h
   ·exact h
   ·rw[if_neg (by omega)]at ag;split at ag<;>omega
  try simp
  refine AP (e:=95) (R:=1) (bs:=4) (k:=H.length) (z:= .int .u32 0) (ay:=false) (ae:=fO) (xs:=[]) (bI:=a) (by simpa using bz.nil _ _ _ _ _ _) (by simpa using bQ.row) (fun u y h=>h.whole) (fun _ _ _ _ _ h=>h) (by simp) (by simp) (by simp) (by simp) (.inr rfl) (by simp) (by simp) (by rfl) (by decide) (by simp;omega) (Nat.le_refl _) ?_
  rintro av aC cV I-
  simp[bj]
  refine aG _ _ ⟨I H (Nat.le_refl _) (Ext.refl _),_,_,[],a,rfl,⟨ea.nil _ _ _,by simp⟩,Trim.nil,?_,cV.row.us,ob,?_⟩
  ·rw[Nat.div_eq_of_lt a5];rfl
  ·rw[Nat.mod_eq_of_lt a5]
 ·have jX:val b<=val a:=by
   rcases Nat.lt_or_ge (val a) (val b)with h | h
   ·rw[if_pos h]at ag;omega
   ·exact h
  try simp
  refine cN (by simpa using bR.row) (by simp) ?_
  simp
  refine bG.cE (fun kR=>?_) (fun kR=>?_)
  ·have gF:b.length=1:=by omega
   obtain⟨y,rfl⟩:=List.length_eq_one_iff.1 gF
   have uj:0<y:=by
    have:=kQ
    simp[Trim]at this
    omega
   have oA:y<4294967296:=bR.2 y (by simp)
   try simp
   refine cI (ae:=fO) (n:=0) (by simpa using bR.row) (by simp) (a:=y) (by simp) (by simp) (by simp) (by simp) (.inr rfl) ?_
   rintro p u ⟨rfl,-⟩
   simp
   refine a4.mk (Hx bQ (by omega) uj oA) ?_
   rintro u a0 ⟨I,q,l,rfl,au,tC,sn⟩
   simp
   have j5:val a % y<4294967296:=Nat.lt_trans (Nat.mod_lt _ uj) oA
   obtain⟨r,aj⟩:∃r,val a % y=r:=⟨_,rfl⟩
   rw[aj]at j5
   refine sL (e:=95) (R:=1) (z:= .int .u32 0) (out:=[.int .u32 (r:Int)]) (by simp) (by simp) (by simp) (by rfl) (by rfl) (by omega) (by omega) (by omega) ?_ (by simp) ?_
   ·simp[iF,made,nQ]
    rw[<-aj]
    simp
   simp
   have d_:=cO.fresh a0 95 [r] 1 1 (Nat.le_refl _) rfl (by simpa using j5) false
   refine a4.mk (lB (l:=[r]) (by simpa using d_) (by simp)) ?_
   rintro u bZ ⟨rfl,m,hm,QS,ps,-⟩
   simp[bj]
   refine aG _ _ ⟨I.snoc _ _ _,_,_,l,m,rfl,au.ext ((Ext.refl _).snoc _ _ _),tC,by rw[sn];simp[val],hm,QS,?_⟩
   rw[ps,<-aj]
   simp[val]
  ·try simp
   obtain⟨m,gF⟩:∃m,b.length=m+2:=⟨b.length-2,by omega⟩
   refine cN (by simpa using bR.row) (by simp) ?_
   have j2:IntKind.i64.wrap ((m:Int)+2-1)=(m:Int)+1:=by rw[cP (by omega) (by omega)];omega
   rw[gF]
   simp[j2]
   obtain⟨rC,qp⟩:∃x,b[m+1]?.getD 0=x:=⟨_,rfl⟩
   have CN:b[m+1]?=some rC:=by rw[<-qp,bt (by omega)];rfl
   have Rv:rC<4294967296:=bR.2 rC (List.mem_of_getElem? CN)
   have Ru:0<rC:=by
    have:=kQ
    rw[Trim,List.getLast?_eq_getElem?,gF,show m+2-1=m+1 by omega,CN]at this
    rcases Nat.eq_zero_or_pos rC with q | q
    ·rw[q]at this;exact absurd rfl this
    ·exact q
   refine cI (ae:=fO) (n:=m+1) (by simpa using bR.row) (by simp) CN (by simp) (by simp) (by simp) (.inr rfl) ?_
   rintro p u ⟨rfl,-⟩
   simp
   refine a4.mk (VZ Rv Ru) ?_
   rintro u H ⟨rfl,s,rfl,Dr,tL⟩
   simp
   refine a4.mk (Nc bR (by omega) Dr) ?_
   rintro agB a0 ⟨bx,aeJ,Qw,aem,SE⟩
   simp
   refine a4.mk (lB Qw.row.us (by omega)) ?_
   rintro agA a0 ⟨rfl,aB,ns,tD,ir,-⟩
   simp
   rw[SE]at ir
   have Je:val b<4294967296^(m+1)*(rC+1)/\4294967296^(m+1)<=val b:=by
    have o:=iA b (m+1)
    rw[show b.take (m+1+1)=b from by rw[<-gF,List.take_length],qp]at o
    have aa:=jH (l:=b.take (m+1)) fun x I=>bR.2 x (List.mem_of_mem_take I)
    rw[List.length_take,Nat.min_eq_left (by omega)]at aa
    have aD:=kQ.le (by intro e;simp[e]at gF)
    rw[gF,show m+2-1=m+1 by omega]at aD
    refine⟨?_,aD⟩
    rw[o,Nat.mul_add]
    omega
   have w1:aB.length=m+2:=by
    have o:aB.length<=m+2:=by
     refine tD.length_le ?_
     rw[ir]
     have:4294967296^(m+1)*(rC+1)*2^s<=4294967296^(m+1)*4294967296:=by
      rw[Nat.mul_assoc]
      refine Nat.mul_le_mul_left _ ?_
      have e:(4294967296:Nat)=2^s*2^(32-s):=by rw[<-Nat.pow_add];rw[show s+(32-s)=32 by omega]
      rw[Nat.mul_comm,e]
      refine Nat.mul_le_mul_left _ ?_
      refine Nat.lt_of_mul_lt_mul_left (a:=2^s) ?_
      rw[<-e,Nat.mul_comm]
      exact tL
     rw[<-Nat.pow_succ]at this
     exact Nat.lt_of_lt_of_le (Nat.mul_lt_mul_of_pos_right Je.1 (Nat.pow_pos (by decide))) this
    have aa:m+2<=aB.length:=by
     rcases Nat.lt_or_ge aB.length (m+2)with h | h
     ·exfalso
      have aD:=jH ns.2
      rw[ir]at aD
      have bD:4294967296^aB.length<=4294967296^(m+1):=Nat.pow_le_pow_right (by decide) (by omega)
      have b2:val b*1<=val b*2^s:=Nat.mul_le_mul_left _ (Nat.pow_pos (by decide))
      omega
     ·exact h
    omega
   have pt:aB[m+1]?.getD 0≠0:=by
    have:=tD
    rw[Trim,List.getLast?_eq_getElem?,w1,show m+2-1=m+1 by omega,bt (by omega)]at this
    rw[bt (by omega)]
    exact fun h=>this (by rw[<-h];rfl)
   refine a4.mk (Nc (bQ.ext bx) (by omega) Dr) ?_
   rintro agG bP ⟨b0,us,yT,aev,Kk⟩
   simp
   refine cN (by simpa using(ns.ext b0).row) (by simp) ?_
   rw[w1]
   simp
   refine cN (by simpa using(bQ.ext (bx.az b0)).row) (by simp) ?_
   have rU:b.length<=a.length:=by
    rcases Nat.lt_or_ge a.length b.length with h | h
    ·have:=kQ.uv bQ.2 h;omega
    ·exact h
   obtain⟨d,CE⟩:∃d,a.length=d+(m+2):=⟨a.length-(m+2),by omega⟩
   have Kq:IntKind.i64.wrap ((d:Int)+((m:Int)+2)-((m:Int)+2))=(d:Int):=by rw[cP (by omega) (by omega)];omega
   have zS:IntKind.i64.wrap ((d:Int)+1)=(d:Int)+1:=cP (by omega) (by omega)
   have ox:IntKind.i64.wrap (d:Int)=(d:Int):=cP (by omega) (by omega)
   rw[CE]
   simp[Kq,zS,ox]
   refine q_ (e:=95) (R:=1) (bs:=4) (n:=d+1) (ay:=false) (z:= .int .u32 0) (ae:=fO) (a:=0) (eg:= .i64) (cB:= .i64) (by simp) (by simp) (by simp) (by simp) (by rfl) (by simp) Ft (by simp) (by simp) (by omega) (by omega) (by omega) (fun aC=>⟨rfl,by decide⟩) ?_
   rintro aap ca Qx c1-
   simp
   refine cN (by simpa using(bQ.ext (bx.az (b0.az c1))).row) (by simp) ?_
   rw[CE]
   simp[Kq,ox]
   have QX:=yT.row.us.2
   obtain⟨cs,⟨g1,cV⟩,RA⟩:=yT
   have fX:cs=fx us:=M8 g1 fun _ i x ad=>RA i x ad
   subst fX
   rcases cV with⟨aH,-⟩ | ⟨n4,U,cap,l,all,rfl,-,qs,CO,I_,bp,cQ⟩
   ·omega
   rw[Nat.mul_one]at bp cQ
   have CF:all=all.take U++(fx us++all.drop (U+us.length)):=by
    rw[cQ,<-List.drop_drop,List.take_append_drop,List.take_append_drop]
   have zB:(all.take U).length=U:=by rw[List.length_take];omega
   generalize all.take U=pre at CF zB
   generalize all.drop (U+us.length)=post at CF
   subst CF
   have Q_:=c1.get_some I_
   have tE:0<val aB:=by
    have:=tD.le (by intro e;simp[e]at w1)
    have aa:=Nat.pow_pos (n:=aB.length-1) (show 0<4294967296 by decide)
    omega
   have adN:val aB<4294967296^(m+2):=by have:=jH ns.2;rwa[w1]at this
   have lV:val (us.drop (d+1))<val aB:=by
    have o:=Fj us (d+1)
    rw[Nat.min_eq_left (by omega)]at o
    have aa:=jH bQ.2
    rw[CE,show d+(m+2)=d+1+(m+1) by omega,Nat.pow_add]at aa
    have aD:4294967296^(d+1)*val (us.drop (d+1))<4294967296^(d+1)*(4294967296^(m+1)*2^s):=by
     have:val a*2^s<4294967296^(d+1)*4294967296^(m+1)*2^s:=Nat.mul_lt_mul_of_pos_right aa (Nat.pow_pos (by decide))
     rw[Nat.mul_assoc]at this
     omega
    have bD:=Nat.lt_of_mul_lt_mul_left aD
    have b2:4294967296^(m+1)*2^s<=val b*2^s:=Nat.mul_le_mul_right _ Je.2
    omega
   refine dx.mk (by kernel_rfl) (fun k dQ fr dU=>k<=d+1/\dQ 13= .int .i64 ((k:Int)-1)/\Ext a0 dU/\Ext H dU/\∃dv oG:List Nat,dU[n4]?=some (.own 95 l (pre++(fx dv++post)))/\dv.length=us.length/\(∀x∈dv,x<4294967296)/\bz bP.length 95 1 false fO dU aap oG/\oG.length=d+1/\
    val dv+val aB*(4294967296^k*val (oG.drop k))=val us/\val (dv.drop k)<val aB) (d+1) ?_ ?_
   ·refine⟨Nat.le_refl _,by simp,b0.az c1,bx.az (b0.az c1),us,_,Q_,rfl,QX,Qx,by simp,?_,lV⟩
    rw[List.drop_eq_nil_of_le (by simp),show val []=0 from rfl,Nat.mul_zero,Nat.mul_zero,Nat.add_zero]
   ·rintro k dQ fr dU ⟨ah,ic,cD,Kz,dv,oG,y1,Tu,tZ,o8,sb,hinv,tO⟩ K a1
    simp at ic
    simp[ic]
    refine bG.cE (fun aR=>?_) (fun aR=>?_)
    ·obtain⟨j,rfl⟩:∃j,k=j+1:=⟨k-1,by omega⟩
     have aI:((j+1:Nat):Int)-1=(j:Int):=by omega
     have ju:(j:Int)+1-1=(j:Int):=by omega
     have bq:IntKind.i64.wrap ((j:Int)+((m:Int)+2))=(j:Int)+((m:Int)+2):=cP (by omega) (by omega)
     have bh:IntKind.i64.wrap ((j:Int)+((m:Int)+2)+1)=((j+m+3:Nat):Int):=by rw[cP (by omega) (by omega)];omega
     have rG:IntKind.i64.wrap ((j:Int)-1)=(j:Int)-1:=cP (by omega) (by omega)
     have e1:IntKind.i64.wrap (j:Int)=(j:Int):=cP (by omega) (by omega)
     try simp
     simp[ic,aI,ju,bq,bh]
     have adS:us.length<=cap:=qs
     refine MP (b:=n4) (i:=U) (len:=us.length) (cap:=cap) (l:=j) (h:=j+m+3) (e:=95) (R:=1) (by simp) y1 rfl (by simp) (by simp) (by simp[dN]) (by simp[fl];omega) (by omega) (by omega) (by omega) ?_
     simp
     obtain⟨nf,ba⟩:∃nf,(dv.drop j).take (m+3)=nf:=⟨_,rfl⟩
     obtain⟨ae,bl⟩:∃ae,(dv.drop j).drop (m+3)=ae:=⟨_,rfl⟩
     have tC:nf.length=m+3:=by rw[<-ba];simp;omega
     have QF:ae.length=dv.length-(j+(m+3)):=by rw[<-bl];simp[Nat.sub_sub]
     have Dv:dv=dv.take j++(nf++ae):=by rw[<-ba,<-bl,List.take_append_drop,List.take_append_drop]
     have QQ:∀x∈nf,x<4294967296:=fun x I=>tZ x (by rw[Dv];simp[I])
     have QG:∀x∈ae,x<4294967296:=fun x I=>tZ x (by rw[Dv];simp[I])
     have Kc:(dv.take j).length=j:=by simp;omega
     have lr:val (dv.drop j)=val nf+4294967296^(m+3)*val ae:=by
      have:dv.drop j=nf++ae:=by rw[<-ba,<-bl,List.take_append_drop]
      rw[this,m0,tC]
     have Jj:val (dv.drop j)<4294967296*val aB:=by
      rw[sQ _ _ (by omega)]
      have:=vF (l:=dv) (by decide) tZ j
      omega
     have Cs:val ae=0:=by
      rcases Nat.eq_zero_or_pos (val ae)with h | h
      ·exact h
      ·exfalso
       have o:4294967296^(m+3)*1<=4294967296^(m+3)*val ae:=Nat.mul_le_mul_left _ h
       have aa:4294967296*val aB<=4294967296*4294967296^(m+2):=Nat.mul_le_mul_left _ (by omega)
       have aD:(4294967296:Nat)^(m+3)=4294967296*4294967296^(m+2):=by rw[Nat.pow_succ,Nat.mul_comm]
       omega
     rw[Cs,Nat.mul_zero,Nat.add_zero]at lr
     have Q6:dU[n4]?=some (.own 95 l ((pre++fx (dv.take j))++(fx nf++(fx ae++post)))):=by
      rw[y1]
      congr 2
      conv=>lhs;rw[Dv]
      simp[fx]
     have kg:j+m+3-j=m+3:=by omega
     rw[kg]
     refine a4.mk (OH (m:=m) Q6 (by simp[fx,zB];omega) tC QQ (fun X aS=>ns.ext (cD.set CO aS)) w1 (by omega) pt (by rw[<-lr];exact Jj)) ?_
     rintro u cy ⟨⟨q,rfl,au⟩,rv,rfl,QP,QR,tD⟩
     have zD:q<4294967296:=by rw[au,Nat.div_lt_iff_lt_mul tE,<-lr];exact Jj
     simp
     have Rw:n4<dU.length:=(cc.1 y1).1
     have Jd:n4<bP.length:=(cc.1 I_).1
     refine iR (ae:=fO) (n:=j) (k:=bP.length) (xs:=oG) (a:=q) (by simpa using o8.XC Jd (fun u y h=>h)) (by simp) (by omega) ⟨by simp,zD⟩ (by simpa using x1 _) (by simp) (fun _ _ _ _ _ h=>h) (by simp) (by simp) (by simp) (by decide) ?_
     rintro qX eG e2 dh-zi Jf
     simp at e2 Jf
     have Jn:∀cx:ab,cx.length<=n4->Ext cx dU->Ext cx eG:=fun cx aH I=>dh cx (by omega) (by simpa using I.set aH (X:= .own 95 l ((pre++fx (dv.take j))++(fx rv++(fx ae++post)))) (by simp))
     have Q7:eG[n4]?=some (.own 95 l (pre++(fx (dv.take j++(rv++ae))++post))):=by
      rw[Jf n4 Jd,List.getElem?_set_self Rw]
      simp[fx]
     simp[ic,aI]
     refine a1 j _ _ _ (by omega) ⟨by omega,by simp[rG],Jn _ CO cD,Jn _ (Nat.le_trans bx.len CO) Kz,_,_,Q7,?_,?_,by simpa using e2,by simp[sb],?_,?_⟩
     ·rw[List.length_append,List.length_append,Kc,QP,QF];omega
     ·intro x I
      rcases List.mem_append.1 I with I | I
      ·exact tZ x (List.mem_of_mem_take I)
      ·rcases List.mem_append.1 I with I | I
       ·exact QR x I
       ·exact QG x I
     ·have o:val dv=val (dv.take j)+4294967296^j*val nf:=by
       have:=Fj dv j
       rw[Nat.min_eq_left (by omega),lr]at this
       exact this
      have aa:val (dv.take j++(rv++ae))=val (dv.take j)+4294967296^j*val rv:=by
       rw[m0,m0,Kc,Cs,Nat.mul_zero,Nat.add_zero]
      have aD:val ((oG.set j q).drop j)=q+4294967296*val (oG.drop (j+1)):=by
       rw[sQ _ _ (by simp;omega),List.getElem?_set_self (by omega),List.drop_set_of_lt (by omega)]
       rfl
      have bD:=Nat.div_add_mod (val nf) (val aB)
      rw[<-au,<-tD]at bD
      rw[aa,aD]
      rw[o,Nat.pow_succ]at hinv
      generalize (4294967296:Nat)^j=E at*
      generalize val (oG.drop (j+1))=Z at*
      have qa:val aB*(E*(q+4294967296*Z))=E*(val aB*q)+val aB*(E*4294967296*Z):=by grind
      have adA:E*val nf=E*(val aB*q)+E*val rv:=by rw[<-Nat.mul_add,bD]
      omega
     ·have:(dv.take j++(rv++ae)).drop j=rv++ae:=by
       rw[List.drop_append_of_le_length (by omega),List.drop_eq_nil_of_le (by omega),List.nil_append]
      rw[this,m0,Cs,Nat.mul_zero,Nat.add_zero,tD]
      exact Nat.mod_lt _ tE
    ·have om:k=0:=by omega
     subst om
     simp at hinv tO
     have QV:cO dU 95 (.slice (some ⟨n4,U,none⟩) us.length cap) dv:=by
      refine⟨⟨_,cap,by rw[Tu],by omega,by simp,fun _=>⟨n4,U,_,_,rfl,y1,rfl,rfl,?_,?_⟩⟩,tZ⟩
      ·simp[fx,zB]
      ·rw[<-zB,List.drop_append_of_le_length (Nat.le_refl _),List.drop_length,List.nil_append,Nat.mul_one,List.take_append_of_le_length (by simp[fx])]
       rw[List.take_of_length_le (by simp[fx])]
       rfl
     try simp
     refine a4.mk (lB o8.row.us (by omega)) ?_
     rintro q cy ⟨rfl,hy,Sm,o9,so,-⟩
     refine⟨Ext.refl _,?_⟩
     simp
     refine rb (e:=95) (R:=1) (ay:=false) (l:=0) (h:=m+2) (ae:=fO) (xs:=dv) (by simpa using QV.row) (by simp) (by simp) (.inr rfl) (by simp[dN]) (by simp[fl];omega) (by omega) (by omega) ?_
     intro agE aj
     simp at aj
     simp
     refine a4.mk (lB aj.us (by simp;omega)) ?_
     rintro t eG ⟨rfl,lt,a5,QT,sq,-⟩
     simp
     have aef:lt.length<=m+2:=by
      refine QT.length_le ?_
      rw[sq]
      have:=jH (l:=dv.take (m+2)) fun x I=>tZ x (List.mem_of_mem_take I)
      rw[List.length_take]at this
      exact Nat.lt_of_lt_of_le this (Nat.pow_le_pow_right (by decide) (Nat.min_le_left _ _))
     refine a4.mk (O_ a5 (by omega) Dr) ?_
     rintro z eE ⟨dj,uu,zn,rR,mJ⟩
     simp[bj]
     have To:val (dv.take (m+2))=val dv:=by
      have o:=Fj dv (m+2)
      rw[Nat.min_eq_left (by omega)]at o
      rcases Nat.eq_zero_or_pos (val (dv.drop (m+2)))with h | h
      ·rw[h,Nat.mul_zero,Nat.add_zero]at o;exact o.symm
      ·have aa:4294967296^(m+2)*1<=4294967296^(m+2)*val (dv.drop (m+2)):=Nat.mul_le_mul_left _ h
       omega
     have oq:0<2^s:=Nat.pow_pos (by decide)
     have SZ:val oG=val a/val b:=by
      have o:val us/val aB=val oG:=by
       rw[<-hinv,Nat.add_mul_div_left _ _ tE,Nat.div_eq_of_lt tO,Nat.zero_add]
      rw[<-o,Kk,ir,Nat.mul_div_mul_right _ _ oq]
     have zG:val dv=(val a % val b)*2^s:=by
      have o:val us % val aB=val dv:=by
       rw[<-hinv,Nat.add_mul_mod_self_left,Nat.mod_eq_of_lt tO]
      rw[<-o,Kk,ir,Nat.mul_mod_mul_right]
     exact aG _ _ ⟨Kz.az dj,_,_,hy,uu,rfl,Sm.ext dj,o9,by rw[so,SZ],zn,rR,by rw[mJ,sq,To,zG,Nat.mul_div_cancel _ oq]⟩
instance:bJ c5:=⟨fun h I=>h.ext I⟩
theorem xl{neg:Bool}{v:Value}{l:List Nat}{H:ab}(d_:cO H 95 v l)(ba:Trim l):aZ prog 54 [.bool neg,v] H (fun w H1=>Ext H H1/\c5 H1 w (if neg=true then-(val l:Int)else val l)):=by
 obtain⟨a,c,rfl⟩:=d_.len
 exact sz.mono fun w H1 ⟨I,hw⟩=>⟨I,c5.mk' hw (d_.ext I) ba⟩
theorem c5.whole{H:ab}{v:Value}{z:Int}(h:c5 H v z):Whole prog 42 v:=by
 obtain⟨a,c,l,rfl,-⟩:=h
 exact⟨by simp,by simp,by simp[eB]⟩
theorem c5.us{H:ab}{s:Bool}{v:Value}{z:Int}(h:c5 H (.agg #[.bool s,v]) z):∃l,s=decide (z<0)/\cO H 95 v l/\Trim l/\val l=z.natAbs:=by
 obtain⟨a,c,l,he,aa,aD,bD⟩:=h
 simp at he
 obtain⟨rfl,rfl⟩:=he
 exact⟨l,rfl,aa,aD,bD⟩
theorem W0{a b q r:Int}(af:b≠0)(au:q=if(!(decide (a<0)==decide (b<0)))=true then-((a.natAbs/b.natAbs:Nat):Int)else((a.natAbs/b.natAbs:Nat):Int))(aj:r=if decide (a<0)=true then-((a.natAbs % b.natAbs:Nat):Int)else((a.natAbs % b.natAbs:Nat):Int)):
  (if a.natAbs % b.natAbs=0\/(!(decide (a<0)==decide (b<0)))=false then q else q-1)=a.fdiv b/\(if a.natAbs % b.natAbs=0\/(!(decide (a<0)==decide (b<0)))=false then r else r+b)=a.fmod b:=by
 have hm:a.fmod b=a-b*a.fdiv b:=Int.fmod_def a b
 have key:∀Q:Int,(0<b->b*Q<=a/\a<b*Q+b)->(b<0->a<=b*Q/\b*Q+b<a)->Q=a.fdiv b:=by
  intro Q o aa
  rcases Int.lt_or_lt_of_ne af with h | h
  ·obtain⟨dF,hI⟩:=aa h
   have e:a.fdiv b=(-a).fdiv (-b):=by rw[Int.neg_fdiv_neg]
   rw[e,Int.fdiv_eq_ediv_of_nonneg _ (by omega)]
   refine(Int.ediv_eq_iff_of_pos (by omega)).2 ?_ |>.symm
   constructor<;>grind
  ·obtain⟨dF,hI⟩:=o h
   rw[Int.fdiv_eq_ediv_of_nonneg _ (by omega)]
   refine(Int.ediv_eq_iff_of_pos (by omega)).2 ?_ |>.symm
   constructor<;>grind
 have mz:=Nat.div_add_mod a.natAbs b.natAbs
 have fm:=Nat.mod_lt a.natAbs (show 0<b.natAbs by omega)
 generalize a.natAbs/b.natAbs=x at*
 generalize a.natAbs % b.natAbs=y at*
 have aR:(b.natAbs:Int)*x+y=a.natAbs:=by exact_mod_cast mz
 have aG:(if y=0\/(!(decide (a<0)==decide (b<0)))=false then q else q-1)=a.fdiv b:=by
  refine key _ (fun h=>?_) (fun h=>?_)
  ·have bh:decide (b<0)=false:=by simp;omega
   have bR:(b.natAbs:Int)=b:=by omega
   rw[bR]at aR
   by_cases aF:a<0
   ·have bq:decide (a<0)=true:=by simpa using aF
    have bQ:(a.natAbs:Int)= -a:=by omega
    simp[bq,bh]at au⊢
    rw[bQ]at aR
    rw[au]
    split
    ·constructor<;>grind
    ·constructor<;>grind
   ·have bq:decide (a<0)=false:=by simpa using aF
    have bQ:(a.natAbs:Int)=a:=by omega
    simp[bq,bh]at au⊢
    rw[bQ]at aR
    rw[au]
    constructor<;>grind
  ·have bh:decide (b<0)=true:=by simpa using h
   have bR:(b.natAbs:Int)= -b:=by omega
   rw[bR]at aR
   by_cases aF:a<0
   ·have bq:decide (a<0)=true:=by simpa using aF
    have bQ:(a.natAbs:Int)= -a:=by omega
    simp[bq,bh]at au⊢
    rw[bQ]at aR
    rw[au]
    constructor<;>grind
   ·have bq:decide (a<0)=false:=by simpa using aF
    have bQ:(a.natAbs:Int)=a:=by omega
    simp[bq,bh]at au⊢
    rw[bQ]at aR
    rw[au]
    split
    ·constructor<;>grind
    ·constructor<;>grind
 refine⟨aG,?_⟩
 rw[hm,<-aG]
 by_cases aF:a<0<;>by_cases cK:b<0
 ·have bQ:(a.natAbs:Int)= -a:=by omega
  have bR:(b.natAbs:Int)= -b:=by omega
  rw[bQ,bR]at aR
  simp[aF,cK]at au aj⊢
  rw[au,aj];grind
 ·have bQ:(a.natAbs:Int)= -a:=by omega
  have bR:(b.natAbs:Int)=b:=by omega
  rw[bQ,bR]at aR
  simp[aF,cK]at au aj⊢
  rw[au,aj]
  split<;>grind
 ·have bQ:(a.natAbs:Int)=a:=by omega
  have bR:(b.natAbs:Int)= -b:=by omega
  rw[bQ,bR]at aR
  simp[aF,cK]at au aj⊢
  rw[au,aj]
  split<;>grind
 ·have bQ:(a.natAbs:Int)=a:=by omega
  have bR:(b.natAbs:Int)=b:=by omega
  rw[bQ,bR]at aR
  simp[aF,cK]at au aj⊢
  rw[au,aj];grind
theorem W1{v w:Value}{a b:Int}{H:ab}(bQ:c5 H v a)(bR:c5 H w b)(bk:Fits a)(jN:Fits b)(af:b≠0):aZ prog 82 [v,w] H (fun u H1=>Ext H H1/\∃x y,u= .tuple #[x,y]/\c5 H1 x (a.fdiv b)/\c5 H1 y (a.fmod b)):=by
 refine aZ.cr fun Q aG=>?_
 apply Um (by simp)
 have Nk:=bQ.whole
 have Nl:=bR.whole
 obtain⟨s1,b4,du,cJ,rfl⟩:=bQ.shape
 obtain⟨s2,dq,dE,db,rfl⟩:=bR.shape
 obtain⟨dS,rfl,wa,ob,wZ⟩:=bQ.us
 obtain⟨ff,rfl,yZ,kQ,sl⟩:=bR.us
 have j0:=bk.length ob wZ
 have jv:=jN.length kQ sl
 have Sg:0<ff.length:=by rw[kQ.pos,sl];omega
 simp[Gy]
 have cn:Ext H (H++[.dead,.dead,.dead,.dead]):=Ext.more H (by simp)
 refine a4.mk (LK (wa.ext cn) ob (yZ.ext cn) kQ Sg (by omega) (by omega)) ?_
 rintro u H1 ⟨bH,q,r,hy,uu,rfl,au,o9,so,aj,rR,mJ⟩
 simp
 rw[wZ,sl]at so mJ
 refine a4.mk (xl au o9) ?_
 rintro x a0 ⟨bx,I⟩
 refine⟨bx,?_⟩
 simp
 refine a4.mk (xl (aj.ext bx) rR) ?_
 rintro y bZ ⟨bL,aL⟩
 refine⟨bL,?_⟩
 have aS:=I.ext bL
 simp
 refine ew.mk I.whole ?_
 simp
 refine ew.mk aL.whole ?_
 have c1:Ext H (bZ++[.dead,.dead]):=(cn.az (bH.az (bx.az bL))).az (Ext.more bZ (by simp))
 have cD:Ext bZ (bZ++[.dead,.dead]):=Ext.more bZ (by simp)
 have S1:=(aj.ext bx).ext (bL.az cD)
 obtain⟨lU,wQ⟩:=W0 (a:=a) (b:=b) (q:=_) (r:=_) af rfl rfl
 rw[so]at aS
 rw[mJ]at aL
 have zn:0<uu.length↔¬(a.natAbs % b.natAbs=0):=by rw[rR.pos,mJ];omega
 refine bU.join (by kernel_rfl) (fun cT dJ bP=>Ext H bP/\c5 bP (dJ 8) (a.fdiv b)/\c5 bP (dJ 9) (a.fmod b)) ?_ ?_
 ·rintro K a1-
  rw[k1]
  refine bU.join (by kernel_rfl) (fun cT dJ bP=>bP=bZ++[.dead,.dead]/\∃c:Bool,cT 38= .bool c/\(c=true↔¬(a.natAbs % b.natAbs=0\/(!(decide (a<0)==decide (b<0)))=false))) ?_ ?_
  ·rintro cU ed-
   simp
   refine cN (by simpa using S1.row) (by simp) ?_
   simp
   refine bG.cE (fun aR=>?_) (fun aR=>?_)
   ·simp[aR]
    refine ed _ _ _ ⟨rfl,(!(decide (a<0)==decide (b<0))),by simp,?_⟩
    have:=zn.1 aR
    simp[this]
   ·simp[aR]
    refine ed _ _ _ ⟨rfl,false,by simp,?_⟩
    have:a.natAbs % b.natAbs=0:=by
     rcases Nat.eq_zero_or_pos (a.natAbs % b.natAbs)with h | h
     ·exact h
     ·exact absurd (zn.2 (by omega)) aR
    simp[this]
  ·rintro cT dJ bP ⟨rfl,c,IB,ag⟩
   simp at IB
   simp[IB]
   refine bG.mk (fun fH=>?_) (fun fH=>?_)
   ·have wm:=ag.1 fH
    rw[if_neg wm]at lU wQ
    try simp
    refine a4.mk (uA (by omega) (by omega)) ?_
    rintro U ca ⟨cz,aM⟩
    refine⟨cz,?_⟩
    simp
    have f1:Fits 1:=Fits.small (by decide)
    have SY:Fits (if(!(decide (a<0)==decide (b<0)))=true then-((a.natAbs/b.natAbs:Nat):Int)else((a.natAbs/b.natAbs:Nat):Int)):=by
     have:a.natAbs/b.natAbs<=a.natAbs:=Nat.div_le_self _ _
     unfold Fits at bk⊢
     split<;>omega
    have S2:Fits (if decide (a<0)=true then-((a.natAbs % b.natAbs:Nat):Int)else((a.natAbs % b.natAbs:Nat):Int)):=by
     have:a.natAbs % b.natAbs<=a.natAbs:=Nat.mod_le _ _
     unfold Fits at bk⊢
     split<;>omega
    refine a4.mk (Mu (aS.ext (cD.az cz)) aM SY f1) ?_
    rintro ei dU ⟨dh,oz⟩
    refine⟨dh,?_⟩
    simp
    refine a4.mk (yj ((aL.ext (cD.az cz)).ext dh) ((bR.ext c1).ext (cz.az dh)) S2 jN) ?_
    rintro ma cy ⟨dj,pz⟩
    simp
    refine ew.mk oz.whole ?_
    simp
    refine ew.mk pz.whole ?_
    rw[lU]at oz
    rw[wQ]at pz
    exact a1 _ _ _ ⟨c1.az (cz.az (dh.az dj)),by simpa using oz.ext dj,by simpa using pz⟩
   ·have wm:(a.natAbs % b.natAbs=0\/(!(decide (a<0)==decide (b<0)))=false):=by
     apply Classical.byContradiction
     intro h
     rw[ag.2 h]at fH
     cases fH
    rw[if_pos wm]at lU wQ
    rw[lU]at aS
    rw[wQ]at aL
    exact a1 _ _ _ ⟨c1,by simpa using aS.ext cD,by simpa using aL.ext cD⟩
 ·rintro cT dJ bP ⟨I,dY,n8⟩
  simp at dY n8
  simp
  refine ew.mk dY.whole ?_
  simp
  refine ew.mk n8.whole ?_
  simp[bj]
  exact aG _ _ ⟨I,_,_,rfl,dY,n8⟩
theorem Ip{v w:Value}{a b:Int}{H:ab}(bQ:c5 H v a)(bR:c5 H w b)(bk:Fits a)(jN:Fits b):aZ prog 64 [v,w] H (fun u H1=>Ext H H1/\c5 H1 u (Int.gcd a b)):=by
 refine aZ.cr fun Q aG=>?_
 apply Uj (by simp)
 have Nk:=bQ.whole
 have Nl:=bR.whole
 obtain⟨s1,b4,du,cJ,rfl⟩:=bQ.shape
 obtain⟨s2,dq,dE,db,rfl⟩:=bR.shape
 obtain⟨dS,rfl,wa,ob,wZ⟩:=bQ.us
 obtain⟨ff,rfl,yZ,kQ,sl⟩:=bR.us
 have j0:=bk.length ob wZ
 have jv:=jN.length kQ sl
 simp[Gx]
 have cn:Ext H (H++[.dead,.dead,.dead]):=Ext.more H (by simp)
 refine dx.mk (by kernel_rfl) (fun n aA bC H1=>Ext H H1/\∃x y:List Nat,n=val y/\cO H1 95 (aA 5) x/\Trim x/\x.length<=1000000/\cO H1 95 (aA 6) y/\Trim y/\y.length<=1000000/\Nat.gcd (val x) (val y)=Int.gcd a b) (val ff) ?_ ?_
 ·exact⟨cn,dS,ff,rfl,by simpa using wa.ext cn,ob,j0,by simpa using yZ.ext cn,kQ,jv,by rw[wZ,sl];rfl⟩
 ·rintro n aA bC H1 ⟨bH,x,y,rfl,I,yY,aeg,aL,qm,zq,aV⟩ K a1
  simp at I aL
  simp
  refine cN (by simpa using aL.row) (by simp) ?_
  simp
  refine bG.cE (fun aR=>?_) (fun aR=>?_)
  ·try simp
   refine a4.mk (LK I yY aL qm aR (by omega) (by omega)) ?_
   rintro u a0 ⟨bx,q,r,hy,uu,rfl,au,o9,so,aj,rR,mJ⟩
   simp
   have sr:0<val y:=(qm.pos).1 aR
   refine a1 (val uu) _ _ _ (by rw[mJ];exact Nat.mod_lt _ sr) ⟨bH.az bx,y,uu,rfl,by simpa using aL.ext bx,qm,zq,by simpa using aj,rR,?_,?_⟩
   ·refine Nat.le_trans (rR.length_le (n:=y.length) ?_) zq
    rw[mJ]
    exact Nat.lt_trans (Nat.mod_lt _ sr) (jH aL.2)
   ·rw[mJ,<-aV,Nat.gcd_comm (val x) (val y),Nat.gcd_rec (val y) (val x),Nat.gcd_comm]
  ·try simp
   have uj:y=[]:=List.eq_nil_of_length_eq_zero (by omega)
   subst uj
   refine a4.mk (xl I yY) ?_
   rintro u a0 ⟨bx,hu⟩
   simp
   refine ew.mk hu.whole ?_
   simp[bj]
   simp[val]at aV
   rw[aV]at hu
   exact aG _ _ ⟨bH.az bx,by simpa using hu⟩
def b3(H:ab)(v:Value)(q:Rat):Prop:=e7 H v q.num q.den
instance:bJ b3:=⟨fun h I=>e7.ext h I⟩
theorem b3.ext{H H1:ab}{v:Value}{q:Rat}(h:b3 H v q)(I:Ext H H1):b3 H1 v q:=e7.ext h I
theorem e7.whole{H:ab}{v:Value}{n d:Int}(h:e7 H v n d):Whole prog 44 v:=by
 obtain⟨s1,b4,du,cJ,s2,dq,dE,db,rfl,-⟩:=h.shape
 exact⟨by simp,by simp,by simp[eB]⟩
theorem b3.whole{H:ab}{v:Value}{q:Rat}(h:b3 H v q):Whole prog 44 v:=e7.whole h
theorem b3.kept{H aC:ab}{e:Nat}{s v:Value}{q:Rat}(h:b3 H v q)(ah:Kept H aC s e)(cG:95≠e):b3 aC v q:=e7.kept h ah cG
theorem Fits.le{a b:Int}(bk:Fits a)(h:b.natAbs<=a.natAbs):Fits b:=Nat.lt_of_le_of_lt h bk
def c4(N:Nat)(q:Rat):Prop:=q.num.natAbs<2^N/\q.den<2^N
theorem Fits.bits{z:Int}{N:Nat}(h:z.natAbs<2^N)(cm:N<=32000000):Fits z:=by
 exact WN 1000000 h (by omega)
theorem c4.num{N:Nat}{q:Rat}(h:c4 N q)(cm:N<=32000000):Fits q.num:=Fits.bits h.1 cm
theorem c4.den{N:Nat}{q:Rat}(h:c4 N q)(cm:N<=32000000):Fits q.den:=Fits.bits (z:=q.den) (by simpa using h.2) cm
theorem c4.mono{N M:Nat}{q:Rat}(h:c4 N q)(I3:N<=M):c4 M q:=⟨Nat.lt_of_lt_of_le h.1 (Nat.pow_le_pow_right (by decide) I3),Nat.lt_of_lt_of_le h.2 (Nat.pow_le_pow_right (by decide) I3)⟩
theorem c4.int{N:Nat}{z:Int}(h:z.natAbs<2^N)(cm:0<N):c4 N (z:Rat):=⟨by rw[Rat.num_intCast];exact h,by rw[Rat.den_intCast];exact Nat.one_lt_two_pow (by omega)⟩
theorem c4.neg{N:Nat}{q:Rat}(h:c4 N q):c4 N (-q):=⟨by rw[Rat.neg_num,Int.natAbs_neg];exact h.1,h.2⟩
theorem BH(n:Int)(d:Nat)(aJ:d≠0):(Rat.divInt n d).num=n/(Nat.gcd n.natAbs d:Nat)/\(Rat.divInt n d).den=d/Nat.gcd n.natAbs d:=by
 rw[Rat.divInt_ofNat,Rat.mkRat_def,dif_neg aJ,Rat.normalize_eq aJ]
 exact⟨rfl,rfl⟩
theorem c4.divInt{N:Nat}{n:Int}{d:Nat}(aJ:d≠0)(aE:n.natAbs<2^N)(pb:d<2^N):c4 N (Rat.divInt n d):=by
 obtain⟨o,aa⟩:=BH n d aJ
 refine⟨?_,?_⟩
 ·rw[o,Int.natAbs_ediv_of_dvd (Int.ofNat_dvd_left.2 (Nat.gcd_dvd_left _ _))]
  exact Nat.lt_of_le_of_lt (Nat.div_le_self _ _) aE
 ·rw[aa]
  exact Nat.lt_of_le_of_lt (Nat.div_le_self _ _) pb
theorem c4.add{N M:Nat}{a b:Rat}(aF:c4 N a)(af:c4 M b):c4 (N+M+1) (a+b):=by
 rw[Rat.add_def',<-Rat.divInt_ofNat]
 have o:(a.num*b.den).natAbs<2^(N+M):=by
  rw[Int.natAbs_mul,Int.natAbs_natCast,Nat.pow_add]
  exact Nat.mul_lt_mul'' aF.1 af.2
 have aa:(b.num*a.den).natAbs<2^(N+M):=by
  rw[Int.natAbs_mul,Int.natAbs_natCast,Nat.add_comm,Nat.pow_add]
  exact Nat.mul_lt_mul'' af.1 aF.2
 refine c4.divInt (Nat.mul_ne_zero a.den_nz b.den_nz) ?_ ?_
 ·rw[Nat.pow_succ]
  have:=Int.natAbs_add_le (a.num*b.den) (b.num*a.den)
  omega
 ·have:a.den*b.den<2^(N+M):=by rw[Nat.pow_add];exact Nat.mul_lt_mul'' aF.2 af.2
  rw[Nat.pow_succ]
  omega
theorem D2{f:FuncId}{args:List Value}{H:ab}{z:Int}(h:aZ prog f args H (fun u H1=>Ext H H1/\c5 H1 u z)):aZ prog f args H (fun u H1=>Ext H H1/\∃s a n c,u= .agg #[.bool s,.slice a n c]/\c5 H1 (.agg #[.bool s,.slice a n c]) z):=
 h.mono fun u H1 ⟨I,hu⟩=>by
  obtain⟨s,a,n,c,rfl⟩:=hu.shape
  exact⟨I,_,_,_,_,rfl,hu⟩
theorem L3{v w:Value}{a b:Int}{H:ab}(bQ:c5 H v a)(bR:c5 H w b)(bk:Fits a)(jN:Fits b)(af:b≠0):aZ prog 82 [v,w] H (fun u H1=>Ext H H1/\∃s1 b4 du cJ s2 dq dE db,u= .tuple #[.agg #[.bool s1,.slice b4 du cJ],.agg #[.bool s2,.slice dq dE db]]/\c5 H1 (.agg #[.bool s1,.slice b4 du cJ]) (a.fdiv b)/\c5 H1 (.agg #[.bool s2,.slice dq dE db]) (a.fmod b)):=
 (W1 bQ bR bk jN af).mono fun u H1 ⟨I,x,y,hu,o,aa⟩=>by
  obtain⟨s1,b4,du,cJ,rfl⟩:=o.shape
  obtain⟨s2,dq,dE,db,rfl⟩:=aa.shape
  exact⟨I,_,_,_,_,_,_,_,_,hu,o,aa⟩
def vi(H:ab)(v w:Value)(n d:Int):Prop:=∃(dI:Int) (fa lh:Nat) (s1:Bool) (b4:Option Addr) (du cJ:Nat) (s2:Bool) (dq:Option Addr) (dE db:Nat),v= .agg #[.bool s1,.slice b4 du cJ]/\w= .agg #[.bool s2,.slice dq dE db]/\c5 H (.agg #[.bool s1,.slice b4 du cJ]) dI/\c5 H (.agg #[.bool s2,.slice dq dE db]) fa/\Fits dI/\Fits fa/\Fits lh/\
 Int.gcd dI fa=lh/\0<lh/\lh<=fa/\(Rat.divInt n d).num=dI/lh/\(Rat.divInt n d).den=fa/lh/\(lh:Int)∣dI/\lh∣fa/\c5 H v dI/\c5 H w fa
theorem vi.mk'{H:ab}{v w:Value}{n d dI:Int}{fa:Nat}(cm:c5 H v dI)(hq:c5 H w fa)(yH:Fits dI)(vD:Fits fa)(kS:fa≠0)(ub:Rat.divInt dI fa=Rat.divInt n d):vi H v w n d:=by
 have Jx:0<Nat.gcd dI.natAbs fa:=Nat.gcd_pos_of_pos_right _ (by omega)
 have qu:Nat.gcd dI.natAbs fa<=fa:=Nat.le_of_dvd (by omega) (Nat.gcd_dvd_right _ _)
 obtain⟨ko,oe⟩:=BH dI fa kS
 have Ju:=Nat.gcd_dvd_left dI.natAbs fa
 have Jt:=Nat.gcd_dvd_right dI.natAbs fa
 obtain⟨Mf,Hm,Ls,Hy,rfl⟩:=cm.shape
 obtain⟨Mg,Hn,Lt,Hz,rfl⟩:=hq.shape
 rw[ub]at ko oe
 exact⟨dI,fa,Nat.gcd dI.natAbs fa,Mf,Hm,Ls,Hy,Mg,Hn,Lt,Hz,rfl,rfl,cm,hq,yH,vD,vD.le (by omega),rfl,Jx,qu,ko,oe,Int.ofNat_dvd_left.2 Ju,Jt,cm,hq⟩
theorem W3{v w:Value}{n d:Int}{H:ab}(bQ:c5 H v n)(bR:c5 H w d)(fn:Fits n)(fd:Fits d)(aJ:d≠0):aZ prog 69 [v,w] H (fun u H1=>Ext H H1/\b3 H1 u (Rat.divInt n d)):=by
 refine aZ.cr fun Q aG=>?_
 apply UA (by simp)
 have Nk:=bQ.whole
 have Nl:=bR.whole
 have vI:=bQ
 have PU:=bR
 obtain⟨s1,b4,du,cJ,rfl⟩:=bQ.shape
 obtain⟨s2,dq,dE,db,rfl⟩:=bR.shape
 simp[GH]
 have cn:Ext H (H++[.dead,.dead,.dead]):=Ext.more H (by simp)
 refine bU.join (by kernel_rfl) (fun cT dJ bP=>Ext H bP/\vi bP (dJ 2) (dJ 3) n d) ?_ ?_
 ·rintro K a1 IU
  obtain⟨ff,rfl,yZ,kQ,sl⟩:=bR.us
  simp
  refine bG.cE (fun aR=>?_) (fun aR=>?_)
  ·have e:((d.natAbs:Nat):Int)= -d:=by omega
   try simp
   refine a4.mk (Ad (bQ.ext cn)) ?_
   rintro x H1 ⟨bH,I⟩
   refine⟨bH,?_⟩
   simp
   refine a4.mk (Ad (bR.ext (cn.az bH))) ?_
   rintro y a0 ⟨bx,aL⟩
   simp
   refine ew.mk I.whole ?_
   simp
   refine ew.mk aL.whole ?_
   refine a1 _ _ _ ⟨cn.az (bH.az bx),vi.mk' (dI:= -n) (fa:=d.natAbs) (by simpa using I.ext bx) (by rw[e];simpa using aL) fn.neg (by rw[e];exact fd.neg) (by omega) (by rw[e,Rat.neg_divInt_neg])⟩
  ·have e:((d.natAbs:Nat):Int)=d:=by omega
   exact a1 _ _ _ ⟨cn,vi.mk' (dI:=n) (fa:=d.natAbs) (by simpa using bQ.ext cn) (by rw[e];simpa using bR.ext cn) fn (by rw[e];exact fd) (by omega) (by rw[e])⟩
 ·rintro cT dJ bP ⟨b0,dI,fa,lh,Mf,Hm,Ls,Hy,Mg,Hn,Lt,Hz,jr,ig,cm,hq,yH,vD,BS,Pr,Jx,qu,ko,oe,Ju,Jt,-,-⟩
  simp at jr ig
  simp[jr,ig]
  refine a4.mk (Ip cm hq yH vD) ?_
  rintro g ca ⟨c1,aV⟩
  rw[Pr]at aV
  have f1:Fits 1:=Fits.small (by decide)
  simp
  refine ew.mk aV.whole ?_
  simp
  have cD:Ext ca (ca++[.dead]):=Ext.dead ca
  refine a4.mk (uA (by omega) (by omega)) ?_
  rintro U dU ⟨cz,aM⟩
  refine⟨cz,?_⟩
  simp
  refine a4.mk (D0 (aV.ext (cD.az cz)) aM BS f1) ?_
  rintro c cy ⟨dh,rfl⟩
  simp
  have DS:Ext ca cy:=cD.az (cz.az dh)
  have kq:Ext bP cy:=c1.az DS
  refine bG.cE (fun ag=>?_) (fun ag=>?_)
  ·have og:lh=1:=by
    by_cases o:(lh:Int)<1
    ·omega
    ·rw[if_neg o]at ag
     split at ag
     ·omega
     ·cases ag
   rw[og]at ko oe
   simp only[Int.natCast_one,Int.ediv_one,Nat.div_one]at ko oe
   simp[jr,ig]
   simp[bj]
   refine aG _ _ ⟨b0.az kq,_,_,_,_,rfl,?_,?_⟩
   ·rw[ko];exact cm.ext kq
   ·rw[oe];exact hq.ext kq
  ·try simp
   have Jv:(lh:Int)≠0:=by omega
   simp[jr,ig]
   refine a4.mk (L3 (cm.ext kq) (aV.ext DS) yH BS Jv) ?_
   rintro u eG ⟨dj,t1,gC,h2,bq,t2,kJ,Ec,bh,rfl,SS,Dn⟩
   simp[ig]
   have fI:Ext eG (eG++[.dead,.dead]):=Ext.more eG (by simp)
   have DT:=dj.az fI
   refine a4.mk (L3 (hq.ext (kq.az DT)) (aV.ext (DS.az DT)) vD BS Jv) ?_
   rintro u eE ⟨fB,t3,s8,Ed,e1,t4,s9,K_,kg,rfl,sa,sc⟩
   simp
   have hc:Ext eE (eE++[.dead,.dead]):=Ext.more eE (by simp)
   have J2:=SS.ext (fI.az (fB.az hc))
   have J3:=sa.ext hc
   have bq:dI.fdiv lh=(Rat.divInt n d).num:=by rw[ko,Int.fdiv_eq_ediv_of_nonneg _ (by omega)]
   have bh:(fa:Int).fdiv lh=((Rat.divInt n d).den:Int):=by rw[oe,Int.fdiv_eq_ediv_of_nonneg _ (by omega)];rfl
   rw[bq]at J2
   rw[bh]at J3
   simp[bj]
   exact aG _ _ ⟨b0.az (kq.az (DT.az (fB.az hc))),_,_,_,_,rfl,J2,J3⟩
theorem Xa{v:Value}{a:Rat}{H:ab}(bQ:b3 H v a):aZ prog 71 [v] H (fun u H1=>Ext H H1/\b3 H1 u (-a)):=by
 refine aZ.cr fun Q aG=>?_
 apply Uv (by simp)
 obtain⟨s1,b4,du,cJ,s2,dq,dE,db,rfl,cm,hq⟩:=e7.shape bQ
 simp[GD]
 have cn:Ext H (H++[.dead,.dead]):=Ext.more H (by simp)
 refine a4.mk (D2 (Ad (cm.ext cn))) ?_
 rintro u H1 ⟨bH,q4,e9,jF,e_,rfl,hu⟩
 refine⟨bH,?_⟩
 simp[bj]
 refine aG _ _ ⟨cn.az bH,_,_,_,_,rfl,?_,hq.ext (cn.az bH)⟩
 rw[Rat.neg_num];exact hu
theorem Ey{v w:Value}{a b:Rat}{N M:Nat}{H:ab}(bQ:b3 H v a)(bR:b3 H w b)(al:c4 N a)(kx:c4 M b)(cm:N+M+1<=32000000):aZ prog 40 [v,w] H (fun u H1=>Ext H H1/\b3 H1 u (a+b)):=by
 refine aZ.cr fun Q aG=>?_
 apply Us (by simp)
 obtain⟨s1,b4,du,cJ,s2,dq,dE,db,rfl,rP,vK⟩:=e7.shape bQ
 obtain⟨q4,e9,jF,e_,Mh,Bp,Lu,Bw,rfl,vU,vL⟩:=e7.shape bR
 simp[GB]
 have cn:Ext H (H++[.dead,.dead,.dead]):=Ext.more H (by simp)
 refine bU.join (by kernel_rfl) (fun cT dJ bP=>Ext H bP/\cT 10= .bool (decide (a.den=1/\b.den=1))) ?_ ?_
 ·rintro K a1-
  simp
  refine a4.mk (D3 (e7.ext bQ cn) (by have:=a.den_pos;omega)) ?_
  rintro u H1 ⟨bH,rfl⟩
  simp
  refine bG.cE (fun ag=>?_) (fun ag=>?_)
  ·simp[ag]
   refine a4.mk (D3 (e7.ext bR (cn.az bH)) (by have:=b.den_pos;omega)) ?_
   rintro u a0 ⟨bx,rfl⟩
   simp[ag]
   have lp:a.den=1:=by omega
   refine a1 _ _ _ ⟨cn.az (bH.az bx),?_⟩
   simp[lp]
   have:((b.den:Int)=1)↔b.den=1:=by omega
   simp[this]
  ·simp[ag]
   have lp:¬a.den=1:=by omega
   exact a1 _ _ _ ⟨cn.az bH,by simp[lp]⟩
 ·rintro cT dJ bP ⟨b0,hP⟩
  simp only[kt]at hP
  simp at hP
  have bk:=al.num (by omega)
  have jN:=kx.num (by omega)
  have Ic:=al.den (by omega)
  have Ie:=kx.den (by omega)
  simp[hP]
  refine bG.mk (fun ag=>?_) (fun ag=>?_)
  ·simp at ag
   simp
   refine a4.mk (yj (rP.ext b0) (vU.ext b0) bk jN) ?_
   rintro u ca ⟨c1,hu⟩
   simp
   refine a4.mk (PI hu) ?_
   rintro u dU ⟨cD,lW⟩
   simp
   refine ew.mk (e7.whole lW) ?_
   simp[bj]
   refine aG _ _ ⟨b0.az (c1.az cD),?_⟩
   have e:a+b=((a.num+b.num:Int):Rat):=by
    rw[Rat.intCast_add]
    congr 1
    ·exact Rat.ext rfl ag.1
    ·exact Rat.ext rfl ag.2
   show e7 _ _ _ _
   rw[e,Rat.num_intCast,Rat.den_intCast]
   exact lW
  ·try simp
   refine a4.mk (xq (rP.ext b0) (vL.ext b0) bk Ie) ?_
   rintro x ca ⟨c1,I⟩
   refine⟨c1,?_⟩
   simp
   refine a4.mk (xq (vU.ext (b0.az c1)) (vK.ext (b0.az c1)) jN Ic) ?_
   rintro y dU ⟨cD,aL⟩
   refine⟨cD,?_⟩
   have gC:(a.num*b.den).natAbs<2^(N+M):=by
    rw[Int.natAbs_mul,Int.natAbs_natCast,Nat.pow_add];exact Nat.mul_lt_mul'' al.1 kx.2
   have kJ:(b.num*a.den).natAbs<2^(N+M):=by
    rw[Int.natAbs_mul,Int.natAbs_natCast,Nat.add_comm,Nat.pow_add];exact Nat.mul_lt_mul'' kx.1 al.2
   have s8:((a.den:Int)*b.den).natAbs<2^(N+M):=by
    rw[Int.natAbs_mul,Int.natAbs_natCast,Int.natAbs_natCast,Nat.pow_add];exact Nat.mul_lt_mul'' al.2 kx.2
   simp
   refine a4.mk (yj (I.ext cD) aL (Fits.bits gC (by omega)) (Fits.bits kJ (by omega))) ?_
   rintro z cy ⟨cz,aP⟩
   refine⟨cz,?_⟩
   simp
   have kq:=b0.az (c1.az (cD.az cz))
   refine a4.mk (xq (vK.ext kq) (vL.ext kq) Ic Ie) ?_
   rintro w eG ⟨dh,hw⟩
   simp
   have s9:(a.num*b.den+b.num*a.den).natAbs<2^(N+M+1):=by
    have:=Int.natAbs_add_le (a.num*b.den) (b.num*a.den)
    rw[Nat.pow_succ];omega
   refine a4.mk (W3 (aP.ext dh) hw (Fits.bits s9 (by omega)) (Fits.bits s8 (by omega)) (by have:=Nat.mul_ne_zero a.den_nz b.den_nz;exact_mod_cast this)) ?_
   rintro w eE ⟨dj,Kr⟩
   simp
   refine ew.mk Kr.whole ?_
   simp[bj]
   refine aG _ _ ⟨kq.az (dh.az dj),?_⟩
   rw[Rat.add_def',<-Rat.divInt_ofNat]
   simpa using Kr
theorem LX{v w:Value}{a b:Rat}{N:Nat}{H:ab}(bQ:b3 H v a)(bR:b3 H w b)(al:c4 N a)(kx:c4 N b)(cm:N<=1000000):aZ prog 40 [v,w] H (fun u H1=>Ext H H1/\b3 H1 u (a+b)):=Ey bQ bR al kx (by omega)
theorem EA{v w:Value}{a b:Rat}{N:Nat}{H:ab}(bQ:b3 H v a)(bR:b3 H w b)(al:c4 N a)(kx:c4 N b)(cm:N<=1000000):aZ prog 47 [v,w] H (fun u H1=>Ext H H1/\b3 H1 u (a-b)):=by
 refine aZ.cr fun Q aG=>?_
 apply Uz (by simp)
 obtain⟨s1,b4,du,cJ,s2,dq,dE,db,rfl,rP,vK⟩:=e7.shape bQ
 obtain⟨q4,e9,jF,e_,Mh,Bp,Lu,Bw,rfl,vU,vL⟩:=e7.shape bR
 simp[GG]
 have cn:Ext H (H++[.dead,.dead,.dead]):=Ext.more H (by simp)
 refine a4.mk (Xa (bR.ext cn)) ?_
 rintro u H1 ⟨bH,hu⟩
 refine⟨bH,?_⟩
 simp
 refine a4.mk (LX (bQ.ext (cn.az bH)) hu al kx.neg cm) ?_
 rintro w a0 ⟨bx,hw⟩
 simp
 refine ew.mk hw.whole ?_
 simp[bj]
 refine aG _ _ ⟨cn.az (bH.az bx),?_⟩
 rw[Rat.sub_eq_add_neg]
 exact hw
theorem LY{v w:Value}{a b:Rat}{N M:Nat}{H:ab}(bQ:b3 H v a)(bR:b3 H w b)(al:c4 N a)(kx:c4 M b)(cm:N+M+1<=32000000):aZ prog 31 [v,w] H (fun u H1=>Ext H H1/\u= .int .i64 (if a<b then-1 else if a=b then 0 else 1)):=by
 refine aZ.cr fun Q aG=>?_
 apply Ut (by simp)
 obtain⟨s1,b4,du,cJ,s2,dq,dE,db,rfl,rP,vK⟩:=e7.shape bQ
 obtain⟨q4,e9,jF,e_,Mh,Bp,Lu,Bw,rfl,vU,vL⟩:=e7.shape bR
 simp[GC]
 have cn:Ext H (H++[.dead,.dead]):=Ext.more H (by simp)
 refine a4.mk (xq (rP.ext cn) (vL.ext cn) (al.num (by omega)) (kx.den (by omega))) ?_
 rintro x H1 ⟨bH,I⟩
 refine⟨bH,?_⟩
 simp
 refine a4.mk (xq (vU.ext (cn.az bH)) (vK.ext (cn.az bH)) (kx.num (by omega)) (al.den (by omega))) ?_
 rintro y a0 ⟨bx,aL⟩
 have gC:(a.num*b.den).natAbs<2^(N+M):=by
  rw[Int.natAbs_mul,Int.natAbs_natCast,Nat.pow_add];exact Nat.mul_lt_mul'' al.1 kx.2
 have kJ:(b.num*a.den).natAbs<2^(N+M):=by
  rw[Int.natAbs_mul,Int.natAbs_natCast,Nat.add_comm,Nat.pow_add];exact Nat.mul_lt_mul'' kx.1 al.2
 simp
 refine a4.mk (D0 (I.ext bx) aL (Fits.bits gC (by omega)) (Fits.bits kJ (by omega))) ?_
 rintro c bZ ⟨bL,rfl⟩
 simp[bj]
 refine aG _ _ ⟨cn.az (bH.az (bx.az bL)),?_⟩
 simp only[Rat.lt_iff,Rat.eq_iff_mul_eq_mul]
theorem uH{v w:Value}{a b:Rat}{N:Nat}{H:ab}(bQ:b3 H v a)(bR:b3 H w b)(al:c4 N a)(kx:c4 N b)(cm:N<=1000000):aZ prog 31 [v,w] H (fun u H1=>Ext H H1/\u= .int .i64 (if a<b then-1 else if a=b then 0 else 1)):=LY bQ bR al kx (by omega)
theorem Ez{v:Value}{a:Rat}{H:ab}(bQ:b3 H v a):aZ prog 38 [v] H (fun u H1=>Ext H H1/\u= .int .i64 (if a<0 then-1 else if a=0 then 0 else 1)):=
 (Xf bQ).mono fun u H1 ⟨I,hu⟩=>⟨I,by
  rw[hu]
  have o:a.num=0↔a=0:=Rat.num_eq_zero
  have aa:0<=a.num↔0<=a:=Rat.num_nonneg
  have aD:a.num<0↔a<0:=by rw[<-Int.not_le,aa,Rat.not_le]
  simp only[o,aD]⟩
theorem xB{n:Int}{H:ab}(o: -9223372036854775808<=n)(aa:n<9223372036854775808):aZ prog 14 [.int .i64 n] H (fun u H1=>Ext H H1/\b3 H1 u (n:Rat)):=
 (aaz o aa).mono fun u H1 ⟨I,hu⟩=>⟨I,by show e7 _ _ _ _;rw[Rat.num_intCast,Rat.den_intCast];exact hu⟩
theorem XL{v:Value}{a:Int}{H:ab}(bQ:c5 H v a)(aH:a.natAbs<=4611686018427387904):aZ prog 27 [v] H (fun u H1=>Ext H H1/\u= .tuple #[.int .i64 a,.bool true]):=by
 refine aZ.cr fun Q aG=>?_
 apply Uo (by simp)
 obtain⟨s1,b4,du,cJ,rfl⟩:=bQ.shape
 obtain⟨l,rfl,d_,ba,ao⟩:=bQ.us
 have ar:l.length<=2:=ba.length_le (by rw[ao];omega)
 simp[Gz]
 have cn:Ext H (H++[.dead]):=Ext.more H (by simp)
 refine cN (by simpa using(d_.ext cn).row) (by simp) ?_
 simp
 refine bG.cE (fun ag=>by omega) (fun ag=>?_)
 try simp
 refine cN (by simpa using(d_.ext cn).row) (by simp) ?_
 simp
 refine dx.range (by kernel_rfl) l.length (by omega) (by simp) (by rfl) (by simp) (by decide) (by decide) (fun i bV dz a0=>a0=H++[.dead]/\∃n:Nat,bV 4= .int .u64 n/\n=val (l.take i)) ?_ ?_ ?_
 ·exact⟨rfl,0,by simp,by simp[val]⟩
 ·rintro i bV dz a0 ad a2 ⟨rfl,n,bD,aE⟩ K a1
  simp at a2 bD
  simp[a2]
  obtain⟨y,aL⟩:∃y,l[i]?.getD 0=y:=⟨_,rfl⟩
  have TQ:l[i]?=some y:=by rw[<-aL,bt ad];rfl
  have oA:y<4294967296:=aL▸d_.lt i
  refine cI (ae:=fO) (n:=i) (by simpa using(d_.ext cn).row) (by simp[a2]) TQ (by simp) (by simp) (by simp) (.inr rfl) ?_
  rintro p u ⟨rfl,-⟩
  have qO:IntKind.u64.wrap (y:Int)=(y:Int):=fR (by omega) (by omega)
  have g4:val (l.take (i+1))=n+4294967296^i*y:=by rw[iA,aL,<-aE]
  have j1:n<4294967296^i:=by
   rw[aE]
   have:=jH (l:=l.take i) fun x I=>d_.2 x (List.mem_of_mem_take I)
   rwa[List.length_take,Nat.min_eq_left (by omega)]at this
  rcases(show i=0\/i=1 by omega)with rfl | rfl
  ·have SB:n=0:=by simp at j1;exact j1
   subst SB
   have zy:pJ (0:Int) (y:Int)=(y:Int):=by
    have:=uD (r:=0) (by decide) oA
    simpa using this
   have Df:IntKind.i64.wrap 0=0:=by decide
   simp[a2,bD,qO,Df,zy]
   exact a1 _ _ _ (by simp[a2]) ⟨rfl,y,by simp,by rw[g4];simp⟩
  ·have Df:IntKind.i64.wrap 32=32:=by decide
   obtain⟨s,an⟩:∃s,y*4294967296=s:=⟨_,rfl⟩
   have iq:IntKind.u64.wrap ((y:Int)*4294967296)=(s:Int):=by rw[fR (by omega) (by omega)];omega
   have aI:=uD (r:=y) oA (show n<4294967296 by simpa using j1)
   rw[an]at aI
   obtain⟨t,bu⟩:∃t,s+n=t:=⟨_,rfl⟩
   have lv:pJ (n:Int) (s:Int)=(t:Int):=by
    rw[<-bu,<-aI];unfold pJ;congr 2;rw[BitVec.or_comm]
   simp[a2,bD,qO,Df,iq,lv]
   exact a1 _ _ _ (by simp[a2]) ⟨rfl,t,by simp,by rw[g4];omega⟩
 ·rintro bV dz a0 a2 ⟨rfl,n,bD,aE⟩
  rw[List.take_length,ao]at aE
  simp at bD
  simp[bD]
  refine bG.cE (fun ag=>by omega) (fun ag=>?_)
  try simp
  have JR:IntKind.i64.wrap (n:Int)=(n:Int):=cP (by omega) (by omega)
  refine bG.cE (fun aF=>?_) (fun aF=>?_)
  ·have Dh:IntKind.i64.wrap (-(n:Int))= -(n:Int):=cP (by omega) (by omega)
   simp[bD,JR,Dh,bj]
   refine aG _ _ ⟨cn,?_⟩
   congr 4
   omega
  ·simp[bD,JR,bj]
   refine aG _ _ ⟨cn,?_⟩
   congr 4
   omega
def ct(l:List Nat):ByteArray:=⟨(l.map UInt8.ofNat).toArray⟩
def Bytes(l:List Nat):Prop:=∀x∈l,x<256
theorem ld(l:List Nat):(ct l).size=l.length:=by simp[ct,ByteArray.size]
theorem Oa(l:List Nat)(h:Bytes l)(i:Nat)(ad:i<l.length):((ct l).data.getD i 0).toNat=l[i]?.getD 0:=by
 have I:=h l[i] (List.getElem_mem ad)
 simp only[ct,Array.getD_eq_getD_getElem?,List.getElem?_toArray,List.getElem?_map,bt ad,Option.map_some,Option.getD_some]
 simp[UInt8.toNat_ofNat,Nat.mod_eq_of_lt I]
theorem tc(l:List Nat):(ct l).toList=l.map UInt8.ofNat:=by
 rw[ByteArray.toList_eq]
 simp[ct]
theorem N_(a b:List Nat):ct a++ct b=ct (a++b):=by
 apply ByteArray.ext
 simp[ct]
theorem vs(l:List Nat)(i j:Nat):(ct l).extract i j=ct ((l.drop i).take (j-i)):=by
 apply ByteArray.ext
 simp[ct,List.map_drop,List.map_take]
theorem ofNat_inj{x y:Nat}(I:x<256)(aL:y<256)(h:UInt8.ofNat x=UInt8.ofNat y):x=y:=by
 have:=congrArg UInt8.toNat h
 simpa[UInt8.toNat_ofNat,Nat.mod_eq_of_lt I,Nat.mod_eq_of_lt aL]using this
theorem Hw{a b:List Nat}(aF:Bytes a)(af:Bytes b):((ct a).toList==(ct b).toList)=decide (a=b):=by
 rw[tc,tc]
 by_cases h:a=b
 ·subst h;simp
 ·rw[decide_eq_false h,beq_eq_false_iff_ne]
  intro e
  apply h
  apply List.ext_getElem?
  intro i
  have:=congrArg (fun l:List UInt8=>l[i]?) e
  simp only[List.getElem?_map]at this
  cases o:a[i]? with
  | none=>
   cases aa:b[i]? with
   | none=>rfl
   | some y=>rw[o,aa]at this;cases this
  | some x=>
   cases aa:b[i]? with
   | none=>rw[o,aa]at this;simp at this
   | some y=>
    rw[o,aa]at this
    simp only[Option.map_some,Option.some.injEq]at this
    rw[ofNat_inj (aF x (List.mem_of_getElem? o)) (af y (List.mem_of_getElem? aa)) this]
theorem Mt(l:List Nat):strOfNums (l.map fun n:Nat=>(n:Int))=ct l:=by
 apply ByteArray.ext
 simp[strOfNums,ct]
def ml(H:ab)(v:Value)(n:Nat):Prop:=v= .int .u8 (n:Int)/\n<256
instance:bJ ml:=⟨fun h _=>h⟩
theorem Fp(n:Int):Whole prog 5 (.int .u8 n):=⟨by kernel_rfl,rfl,by rw[if_neg (by simp[eB])];exact⟨by kernel_rfl,rfl⟩⟩
theorem Row.bytes{H:ab}{e:Nat}{v:Value}{l:List Nat}(h:Row e 1 false ml H v l):ea H e 1 v l.length ((l.map fun n:Nat=>(n:Int)).map (Value.int .u8))/\Bytes l:=by
 obtain⟨cs,o,aa⟩:=h
 have fX:cs=(l.map fun n:Nat=>(n:Int)).map (Value.int .u8):=by
  obtain⟨a,cap,ao,aD,bD,b2⟩:=o
  apply List.ext_getElem?
  intro i
  by_cases ad:i<l.length
  ·have:=(aa i _ (bt ad)).1
   simp only[dZ,Bool.false_eq_true,if_false]at this
   rw[bt (by omega)]at this⊢
   simp only[Option.getD_some]at this
   rw[this]
   simp[bt ad]
  ·rw[List.getElem?_eq_none (by omega),List.getElem?_eq_none (by simp;omega)]
 subst fX
 exact⟨o,fun x I=>by obtain⟨i,ad⟩:=List.getElem?_of_mem I;exact(aa i x ad).2⟩
theorem W_{k:Nat}{v:Value}{xs:List Nat}{H:ab}(cV:bz k 5 1 false ml H v xs)(ar:xs.length<4611686018427387904):
  aZ prog 57 [v] H (fun u H1=>u= .tuple #[]/\bz k 5 1 false ml H1 v xs.reverse/\∀cx:ab,cx.length<=k->Ext cx H->Ext cx H1):=by
 refine aZ.cr fun Q aG=>?_
 apply Vp (by simp)
 simp[He]
 refine cN (by simpa using cV.row) (by simp) ?_
 have aE:IntKind.i64.wrap ((xs.length:Int)-1)=(xs.length:Int)-1:=cP (by omega) (by omega)
 simp[aE]
 refine dx.mk (by kernel_rfl) (fun m aA bC H1=>∃(i:Nat) (bI:List Nat),m=xs.length-2*i/\aA 2= .int .i64 i/\aA 3= .int .i64 ((xs.length:Int)-1-i)/\i<=xs.length/\2*i<=xs.length+1/\bz k 5 1 false ml H1 v bI/\bI.length=xs.length/\(∀cx:ab,cx.length<=k->Ext cx H->Ext cx H1)/\
  ∀j,j<xs.length->bI[j]?=if j<i\/xs.length-1-i<j then xs[xs.length-1-j]? else xs[j]?) xs.length ?_ ?_
 ·refine⟨0,xs,by omega,by simp,by simp,by omega,by omega,cV,rfl,fun _ _ h=>h,fun j aI=>?_⟩
  rw[if_neg (by omega)]
 ·rintro m aA bC H1 ⟨i,bI,rfl,aa,aD,ad,hQ,jQ,oA,bH,mN⟩ K a1
  simp at aa aD
  simp[aa,aD]
  refine bG.cE (fun ag=>?_) (fun ag=>?_)
  ·obtain⟨j,aI⟩:∃j,xs.length-1-i=j:=⟨_,rfl⟩
   have fc:(xs.length:Int)-1-i=(j:Int):=by omega
   rw[fc]at aD ag
   obtain⟨a,aF⟩:∃a,bI[j]?=some a:=⟨_,bt (by omega)⟩
   obtain⟨b,af⟩:∃b,bI[i]?=some b:=⟨_,bt (by omega)⟩
   have bq:IntKind.i64.wrap ((i:Int)+1)=(i:Int)+1:=cP (by omega) (by omega)
   have bh:IntKind.i64.wrap ((j:Int)-1)=(j:Int)-1:=cP (by omega) (by omega)
   try simp
   simp[aa,aD]
   refine cI (ae:=ml) (n:=j) (by simpa using jQ.row) (by simp) aF (by simp) (by simp) (by simp) (.inr rfl) ?_
   rintro dF pP ⟨rfl,Ra⟩
   simp[aa,aD]
   refine cI (ae:=ml) (n:=i) (by simpa using jQ.row) (by simp) af (by simp) (by simp) (by simp) (.inr rfl) ?_
   rintro hI k2 ⟨rfl,CJ⟩
   refine iR (ae:=ml) (n:=i) (a:=a) (by simpa using jQ) (by simp) (by omega) ⟨by simp,Ra⟩ (by simpa using Fp _) (by simp) (fun _ _ _ _ _ h=>h) (by simp) (by simp) (by simp) (by decide) ?_
   rintro fQ a0 hF bx- - -
   simp at hF
   refine iR (ae:=ml) (n:=j) (a:=b) (by simpa using hF) (by simp) (by simp;omega) ⟨by simp,CJ⟩ (by simpa using Fp _) (by simp) (fun _ _ _ _ _ h=>h) (by simp) (by simp) (by simp) (by decide) ?_
   rintro gL bZ kk bL- - -
   simp at kk
   simp[aa,aD,bq,bh]
   refine a1 (xs.length-2*(i+1)) _ _ _ (by omega) ⟨i+1,_,rfl,by simp,by simp;omega,by omega,by omega,by simpa using kk,by simp[oA],fun cx aH I=>bL cx aH (bx cx aH (bH cx aH I)),fun t bu=>?_⟩
   have KL:=mN j (by omega)
   have KK:=mN i (by omega)
   rw[if_neg (by omega),aF]at KL
   rw[if_neg (by omega),af]at KK
   by_cases zP:t=j
   ·subst zP
    rw[List.getElem?_set_self (by simp;omega),if_pos (by omega),show xs.length-1-t=i by omega,KK]
   ·rw[List.getElem?_set_ne (Ne.symm zP)]
    by_cases zO:t=i
    ·subst zO
     rw[List.getElem?_set_self (by omega),if_pos (by omega),aI,KL]
    ·rw[List.getElem?_set_ne (Ne.symm zO),mN t bu]
     by_cases au:t<i\/xs.length-1-i<t
     ·rw[if_pos au,if_pos (by omega)]
     ·rw[if_neg au,if_neg (by omega)]
  ·try simp
   simp[bj]
   refine aG _ _ ⟨rfl,?_,bH⟩
   have:bI=xs.reverse:=by
    apply List.ext_getElem?
    intro t
    by_cases bu:t<xs.length
    ·rw[mN t bu,List.getElem?_reverse bu]
     split
     ·rfl
     ·have:t=xs.length-1-t:=by omega
      rw[<-this]
    ·rw[List.getElem?_eq_none (by omega),List.getElem?_eq_none (by simp;omega)]
   rw[<-this]
   exact jQ
def iw(n:Nat):List Nat:=if h:n=0 then[]else(48+n % 10)::iw (n/10)
termination_by n
decreasing_by omega
theorem uJ:iw 0=[]:=by unfold iw;simp
theorem Av{n:Nat}(h:0<n):iw n=(48+n % 10)::iw (n/10):=by
 conv=>lhs;unfold iw
 rw[dif_neg (by omega)]
theorem W4(n:Nat):Bytes (iw n):=by
 induction n using Nat.strongRecOn with
 | _ n aW=>
  rcases Nat.eq_zero_or_pos n with h | h
  ·subst h;rw[uJ];intro x I;cases I
  ·rw[Av h]
   intro x I
   rcases List.mem_cons.1 I with rfl | I
   ·omega
   ·exact aW (n/10) (by omega) x I
theorem L5(n k:Nat)(h:n<10^k):(iw n).length<=k:=by
 induction k generalizing n with
 | zero=>simp at h;subst h;rw[uJ];simp
 | succ k aW=>
  rcases Nat.eq_zero_or_pos n with aH | aH
  ·subst aH;rw[uJ];simp
  ·rw[Av aH]
   simp only[List.length_cons]
   have:=aW (n/10) (by rw[Nat.pow_succ]at h;omega)
   omega
def dec(n:Nat):List Nat:=if n=0 then[48]else(iw n).reverse
theorem HV(n:Nat):Bytes (dec n):=by
 unfold dec
 split
 ·intro x I;simp at I;omega
 ·intro x I;exact W4 n x (by simpa using I)
@[simp] theorem acP:gR undef=none:=rfl
@[simp] theorem abU(w:Bool)(ck cU:Prop)(aw:a_ ck cU):nU ck cU aw none w=cU:=by unfold nU m7;simp
theorem X7{v:Value}{x:List Nat}{H:ab}(aS:cO H 95 v x)(ba:Trim x)(ar:x.length<=1000000):aZ prog 33 [v] H (fun u H1=>Ext H H1/\u= .string (ct (dec (val x)))):=by
 refine aZ.cr fun Q aG=>?_
 apply UL (by simp)
 simp[GM]
 refine cN (by simpa using aS.row) (by simp) ?_
 simp
 refine bG.cE (fun ag=>?_) (fun ag=>?_)
 ·have cn:x=[]:=by simpa using ag
  subst cn
  simp[bj]
  exact aG _ _ ⟨Ext.refl _,by rw[show dec (val [])=[48]from by simp[dec,val]];rfl⟩
 try simp
 have ht:0<val x:=ba.pos.1 (by
  rcases Nat.eq_zero_or_pos x.length with h | h
  ·exact absurd (by simpa using h) ag
  ·exact h)
 have adV:(iw (val x)).length<100000000:=by
  have o:=WS 1000000 (jH aS.2) ar
  have:=L5 _ _ o
  omega
 refine dx.mk (by kernel_rfl) (fun n aA bC H1=>Ext H H1/\∃(y b:List Nat),n=val y/\cO H1 95 (aA 0) y/\Trim y/\y.length<=1000000/\bz H.length 5 1 false ml H1 (aA 3) b/\iw (val x)=b++iw (val y)) (val x) ?_ ?_
 ·exact⟨Ext.refl _,x,[],rfl,by simpa using aS,ba,ar,by simpa using bz.nil _ _ _ _ _ _,rfl⟩
 ·rintro n aA bC H1 ⟨bH,y,b,rfl,aL,qm,zq,af,aJ⟩ K a1
  simp at aL af
  simp
  refine cN (by simpa using aL.row) (by simp) ?_
  simp
  refine bG.cE (fun aR=>?_) (fun aR=>?_)
  ·try simp
   have sr:0<val y:=qm.pos.1 aR
   refine a4.mk (Hx (w:=1000000000) aL (by omega) (by decide) (by decide)) ?_
   rintro u a0 ⟨bx,q,hy,rfl,au,o9,so⟩
   obtain⟨eb,eP⟩:∃eb,val y % 1000000000=eb:=⟨_,rfl⟩
   have S0:eb<1000000000:=by rw[<-eP];exact Nat.mod_lt _ (by decide)
   rw[eP]
   simp
   have fb:val y=val hy*1000000000+eb:=by have:=Nat.div_add_mod (val y) 1000000000;rw[so];omega
   refine dx.mk (by kernel_rfl) (fun m dQ fr bZ=>cO bZ 95 q hy/\Ext H bZ/\∃(r:Nat) (cb:List Nat),m<=9/\dQ 6= .int .i64 ((9-m:Nat):Int)/\dQ 5= .int .u32 r/\r<10^m/\bz H.length 5 1 false ml bZ (dQ 3) cb/\iw (val x)=cb++iw (val hy*10^m+r)) 9 ?_ ?_
   ·refine⟨au,bH.az bx,eb,b,by omega,by simp,by simp,by omega,by simpa using bJ.ext af bx,?_⟩
    rw[aJ,fb]
   ·rintro m dQ fr bZ ⟨bL,w6,r,cb,hm,gE,b2,aj,cK,kS⟩ cU ed
    simp at gE b2 cK
    simp only[k1]
    refine bU.join (by kernel_rfl) (fun cT dJ bP=>bP=bZ/\∃c:Bool,cT 28= .bool c/\(c=true↔0<m/\(0<hy.length\/0<r))) ?_ ?_
    ·rintro nW gr-
     rcases Nat.eq_zero_or_pos m with aH | aH
     ·have vC:(((9-m:Nat):Int)<9)=False:=by simp;omega
      simp[gE,vC]
      refine gr _ _ _ ⟨rfl,false,by simp,?_⟩
      simp[aH]
     ·have vC:(((9-m:Nat):Int)<9)=True:=by simp;omega
      simp[gE,vC]
      refine cN (by simpa using bL.row) (by simp) ?_
      rcases Nat.eq_zero_or_pos hy.length with pf | pf
      ·simp[gE,vC,pf,b2]
       refine gr _ _ _ ⟨rfl,decide (0<r),by simp,?_⟩
       simp[aH,pf]
      ·have Pf:((0:Int)<(hy.length:Int))=True:=by simp;omega
       simp[gE,vC,pf,Pf]
       refine gr _ _ _ ⟨rfl,true,by simp,?_⟩
       simp[aH,pf]
    ·rintro cT dJ bP ⟨rfl,c,n7,ag⟩
     simp at n7
     simp[n7]
     refine bG.mk (fun fH=>?_) (fun fH=>?_)
     ·have wk:=ag.1 fH
      obtain⟨l1,rfl⟩:∃l1,m=l1+1:=⟨m-1,by omega⟩
      try simp
      have bq:IntKind.u32.wrap (48+((r % 10:Nat):Int))=((48+r % 10:Nat):Int):=by rw[lD (by omega) (by omega)];omega
      have bh:((r:Int).tmod 10)=((r % 10:Nat):Int):=rfl
      have e1:((r:Int).tdiv 10)=((r/10:Nat):Int):=rfl
      obtain⟨yB,RH⟩:∃yB,r % 10=yB:=⟨_,rfl⟩
      obtain⟨di,fo⟩:∃di,r/10=di:=⟨_,rfl⟩
      rw[RH]at bq bh
      rw[fo]at e1
      obtain⟨te,Jh⟩:∃te,48+yB=te:=⟨_,rfl⟩
      rw[Jh]at bq
      have j5:r<4294967296:=by
       have:10^(l1+1)<=10^9:=Nat.pow_le_pow_right (by decide) hm
       omega
      have kg:IntKind.u8.wrap (te:Int)=(te:Int):=Fs (by omega) (by omega)
      have rG:IntKind.u32.wrap (di:Int)=(di:Int):=lD (by omega) (by omega)
      simp[b2,bq,bh,kg]
      refine ra (ae:=ml) (xs:=cb) (a:=te) (k:=H.length) (e:=5) (R:=1) (bs:=1) (ay:=false) (z:= .int .u8 0) (by simpa using cK) ⟨by simp,by omega⟩ (by simpa using Fp _) (by simp) (fun _ _ _ _ _ h=>h) (by simp) (by simp) (by simp) (by simp) (by simp) (by simp) (by simp) (by rfl) (by rfl) (by decide) (by decide) (by decide) ?_ (Ext.len w6) ?_
      ·have:cb.length<=(iw (val x)).length:=by rw[kS];simp
       omega
      rintro p av ca yS c1 zf
      have qa:IntKind.i64.wrap (((9-(l1+1):Nat):Int)+1)=((9-l1:Nat):Int):=by rw[cP (by omega) (by omega)];omega
      simp at qa
      simp[b2,e1,rG,gE,qa]
      obtain⟨P,i_⟩:∃P,10^l1=P:=⟨_,rfl⟩
      have yU:10^(l1+1)=P*10:=by rw[Nat.pow_succ,i_]
      rw[yU]at aj kS
      have QA:0<P:=by rw[<-i_];exact Nat.pow_pos (by decide)
      refine ed l1 _ _ _ (by omega) ⟨⟨bL.1.kept zf (by decide),bL.2⟩,c1 _ (Nat.le_refl _) w6,di,cb++[te],by omega,by simp[qa],by simp,by rw[i_];omega,by simpa using yS,?_⟩
      rw[i_]
      rw[kS]
      have c8:val hy*(P*10)+r=(val hy*P)*10+r:=by rw[Nat.mul_assoc]
      rw[c8]
      rw[Av (n:=(val hy*P)*10+r) (by
       rcases wk.2 with h | h
       ·have dY:=o9.pos.1 h
        have n8:=Nat.mul_pos dY QA
        omega
       ·omega)]
      have hP:(val hy*P*10+r) % 10=yB:=by omega
      have nm:(val hy*P*10+r)/10=val hy*P+di:=by omega
      rw[hP,nm,Jh]
      simp
     ·try simp
      have Ql:val hy*10^m+r=val hy:=by
       have aE:¬(0<m/\(0<hy.length\/0<r)):=fun h=>by rw[ag.2 h]at fH;cases fH
       rcases Nat.eq_zero_or_pos m with aH | aH
       ·subst aH;simp at aj⊢;omega
       ·have o:¬0<hy.length:=fun h=>aE ⟨aH,Or.inl h⟩
        have aa:¬0<r:=fun h=>aE ⟨aH,Or.inr h⟩
        have aD:val hy=0:=by
         rcases Nat.eq_zero_or_pos (val hy)with h | h
         ·exact h
         ·exact absurd (o9.pos.2 h) o
        rw[aD];omega
      rw[Ql]at kS
      refine a1 (val hy) _ _ _ (by omega) ⟨w6,hy,cb,rfl,by simpa using bL,o9,?_,by simpa using cK,kS⟩
      rcases Nat.lt_or_ge y.length hy.length with h | h
      ·have:=Trim.uv o9 aL.2 h
       omega
      ·omega
  ·try simp
   have uj:val y=0:=by
    rcases Nat.eq_zero_or_pos (val y)with h | h
    ·exact h
    ·exact absurd (qm.pos.2 h) aR
   rw[uj,uJ,List.append_nil]at aJ
   refine a4.mk (W_ af (by rw[<-aJ];omega)) ?_
   rintro u a0 ⟨rfl,o_,bx⟩
   have tL:=o_.row.bytes
   simp only[List.length_reverse]at tL
   simp
   refine Ym (xs:=b.reverse.map fun n:Nat=>(n:Int)) (by rfl) (by rfl) (by rfl) (by simpa using tL.1) ?_
   simp[bj,Mt]
   refine aG _ _ ⟨bx _ (Nat.le_refl _) bH,?_⟩
   rw[<-List.map_reverse,Mt,<-aJ]
   unfold dec
   rw[if_neg (by omega)]
variable {P:Program} {r:List br} {Q:Fr->ab->Prop} {F:Fr} {H:ab}
theorem l9{d t:Nat}{x:Operand}{l:List Nat}{aw:a_ (bA d t x::r) Q}(ao:aq F x= .string (ct l))(bu:iy P t=true)(K:a8 P r Q .mk (aY F d (.int .i64 l.length)) H):a8 P (bA d t x::r) Q aw F H:=by
 rw[gO,ao,VP,if_pos bu,ld]
 exact K
theorem Bz{a b:List Nat}(h:a.length+b.length<=9223372036854775807):(if(ct a).size+(ct b).size<=9223372036854775807 then some (Value.string (ct a++ct b))else none)=some (.string (ct (a++b))):=by
 rw[ld,ld,if_pos h,N_]
theorem K2:({data:= #[45]}:ByteArray)=ct [45]:=rfl
theorem K3:({data:= #[47]}:ByteArray)=ct [47]:=rfl
def fu(q:Rat):List Nat:=(if q.num<0 then[45]else[])++dec q.num.natAbs++(if q.den=1 then[]else 47::dec q.den)
def kF(q:Rat):Prop:=(dec q.num.natAbs).length<=4000/\(q.den=1\/(dec q.den).length<=4000)
instance(q:Rat):Decidable (kF q):=by unfold kF;exact inferInstance
theorem MD{v:Value}{x d:List Nat}{H:ab}(aS:cO H 95 v x)(ba:Trim x)(ar:x.length<=1000000)(aJ:dec (val x)=d):aZ prog 33 [v] H (fun u H1=>Ext H H1/\u= .string (ct d)):=by
 subst aJ
 exact X7 aS ba ar
theorem EG{v:Value}{q:Rat}{N:Nat}{H:ab}(ao:b3 H v q)(an:c4 N q)(cm:N<=32000000):
  aZ prog 15 [v] H (fun u H1=>Ext H H1/\u=if kF q then .tuple #[.string (ct (fu q)),.int .i64 0]else .tuple #[.string (ct []),.int .i64 5]):=by
 refine aZ.cr fun Q aG=>?_
 apply Uw (by simp)
 have BQ:=an.num cm
 have yE:=an.den cm
 have DF:=ao
 obtain⟨s1,b4,du,cJ,s2,dq,dE,db,rfl,o,aa⟩:=ao.shape
 obtain⟨VH,rfl,CA,h0,mI⟩:=o.us
 obtain⟨VI,rfl,v_,mv,j6⟩:=aa.us
 obtain⟨d1,kT⟩:∃d,dec q.num.natAbs=d:=⟨_,rfl⟩
 obtain⟨d2,pb⟩:∃d,dec q.den=d:=⟨_,rfl⟩
 simp[GF]
 have cn:Ext H (H++[.dead]):=Ext.more H (by simp)
 refine a4.mk (MD (d:=d1) (CA.ext cn) h0 (BQ.length h0 mI) (by rw[mI,kT])) ?_
 rintro u H1 ⟨bH,rfl⟩
 simp
 refine l9 (l:=d1) (by simp) (by rfl) ?_
 simp
 refine bG.cE (fun ag=>?_) (fun ag=>?_)
 ·try simp
  simp[bj]
  refine aG _ _ ⟨cn.az bH,?_⟩
  rw[if_neg (by unfold kF;rw[kT];omega)]
  rfl
 try simp
 refine bU.join (by kernel_rfl) (fun cT dJ bP=>bP=H1/\cT 4= .string (ct ((if q.num<0 then[45]else[])++d1))) ?_ ?_
 ·rintro K a1-
  simp
  refine bG.cE (fun an=>?_) (fun an=>?_)
  ·simp[K2,Bz (a:=[45]) (b:=d1) (by simp;omega)]
   refine a1 _ _ _ ⟨rfl,?_⟩
   simp[an]
  ·try simp
   refine a1 _ _ _ ⟨rfl,?_⟩
   simp[an]
 ·rintro cT dJ bP ⟨rfl,bD⟩
  simp at bD
  simp
  have Tx:=b3.ext DF (cn.az bH)
  refine a4.mk (D3 Tx (by have:=q.den_pos;omega)) ?_
  rintro u a0 ⟨bx,rfl⟩
  simp
  refine bG.cE (fun ad=>?_) (fun ad=>?_)
  ·have km:q.den=1:=by omega
   try simp
   simp[bj]
   refine aG _ _ ⟨cn.az (bH.az bx),?_⟩
   rw[if_pos ⟨by rw[kT];omega,Or.inl km⟩]
   simp[fu,km,kT,bD]
  have km:¬q.den=1:=by omega
  try simp
  refine a4.mk (MD (d:=d2) (v_.ext (cn.az (bH.az bx))) mv (yE.length mv j6) (by rw[j6];simpa using pb)) ?_
  rintro u bZ ⟨bL,rfl⟩
  simp
  refine l9 (l:=d2) (by simp) (by rfl) ?_
  simp
  refine bG.cE (fun mx=>?_) (fun mx=>?_)
  ·try simp
   simp[bj]
   refine aG _ _ ⟨cn.az (bH.az (bx.az bL)),?_⟩
   rw[if_neg (by unfold kF;rw[kT,pb];omega)]
   rfl
  ·obtain⟨EK,sh⟩:∃l,((if q.num<0 then[45]else[])++d1:List Nat)=l:=⟨_,rfl⟩
   have mG:EK.length<=1+d1.length:=by rw[<-sh];split<;>simp<;>omega
   rw[sh]at bD
   simp[bD,K3,Bz (a:=EK) (b:=[47]) (by simp;omega),Bz (a:=EK++[47]) (b:=d2) (by simp;omega),bj]
   refine aG _ _ ⟨cn.az (bH.az (bx.az bL)),?_⟩
   rw[if_pos ⟨by rw[kT];omega,Or.inr (by rw[pb];omega)⟩]
   simp[fu,km,kT,pb,<-sh]
def dD(c:Nat):List Nat->List Nat×Option (List Nat)
 | []=>([],none)
 | x::r=>if x=c then([],some r)else(x::(dD c r).1,(dD c r).2)
theorem vB{c:Nat}{l r:List Nat}(h:(dD c l).2=some r):l=(dD c l).1++c::r:=by
 induction l with
 | nil=>simp[dD]at h
 | cons x l aW=>
  unfold dD at h⊢
  split at h
  ·next I=>simp at h;subst h;simp[I]
  ·next I=>simp[I];exact aW h
theorem vA{c:Nat}{l:List Nat}(h:(dD c l).2=none):(dD c l).1=l:=by
 induction l with
 | nil=>simp[dD]
 | cons x l aW=>
  unfold dD at h⊢
  split at h
  ·simp at h
  ·next I=>simp[I];exact aW h
theorem HS{c:Nat}(l:List Nat):c∉(dD c l).1:=by
 induction l with
 | nil=>simp[dD]
 | cons x l aW=>
  unfold dD
  split
  ·simp
  ·next I=>simp;exact⟨fun h=>I h.symm,aW⟩
theorem Ob(l:List Nat)(i:Nat)(ad:i<l.length):(ct l)[i]! =UInt8.ofNat l[i]:=by
 have o:i<(ct l).size:=by rw[ld];exact ad
 rw[getElem!_pos (ct l) i o]
 simp[ct,ByteArray.getElem_eq_getElem_data]
theorem PG{c:Nat}{l:List Nat}(ar:Bytes l)(ag:c<256):((List.range (ct l).size).find? fun i=>(ct l)[i]! ==UInt8.ofNat c)=(dD c l).2.map fun _=>(dD c l).1.length:=by
 rw[ld]
 have key:∀i (ad:i<l.length),((ct l)[i]! ==UInt8.ofNat c)=decide (l[i]=c):=by
  intro i ad
  rw[Ob l i ad]
  by_cases h:l[i]=c
  ·rw[h];simp
  ·rw[decide_eq_false h,beq_eq_false_iff_ne]
   intro e
   exact h (ofNat_inj (ar _ (List.getElem_mem ad)) ag e)
 cases aj:(dD c l).2 with
 | none=>
  rw[Option.map_none,List.find?_range_eq_none]
  intro i ad
  rw[key i ad]
  have o:=vA aj
  have aa:=HS (c:=c) l
  rw[o]at aa
  have:l[i]≠c:=fun e=>aa (e▸List.getElem_mem ad)
  simp[this]
 | some r=>
  rw[Option.map_some,List.find?_range_eq_some]
  have o:=vB aj
  have aa:=HS (c:=c) l
  generalize (dD c l).1=a at o aa
  subst o
  refine⟨?_,by simp,?_⟩
  ·rw[key _ (by simp)];simp
  ·intro j aI
   rw[key _ (by simp;omega)]
   rw[List.getElem_append_left aI]
   have:a[j]≠c:=fun e=>aa (e▸List.getElem_mem aI)
   simp[this]
def mO(c:Nat)(l:List Nat):Int:=match(dD c l).2 with | some _=>((dD c l).1.length:Int) | none=> -1
theorem T0{l:List Nat}{c:Nat}{H:ab}(ar:Bytes l)(ag:c<256):
  aZ prog 97 [.string (ct l),.int .u8 c] H (fun u H1=>H1=H/\u= .int .i64 (mO c l)):=by
 refine⟨.int .i64 (mO c l),H,.inr ⟨⟨by simp[gD,flat],by simp[flat,gD],?_⟩,rfl⟩,rfl,rfl⟩
 have aH:(prog.funcs[97]?).isSome=true:=by kernel_rfl
 have aa:((prog.funcs[97]?).map fun fn=>fn.name== "runtime.NumGoroutine")=some false:=by kernel_rfl
 have aD:((prog.funcs[97]?).map fun fn=>fn.body.isNone)=some true:=by kernel_rfl
 have bD:((prog.funcs[97]?).map fun fn=>Extern.findNext fn)=some none:=by kernel_rfl
 have b2:((prog.funcs[97]?).map fun fn=>Extern.find fn)=some (some Extern.BytealgIndexByte.indexByte):=by kernel_rfl
 obtain⟨fn,ax⟩:=Option.isSome_iff_exists.1 aH
 rw[ax]at aa aD bD b2
 simp only[Option.map_some,Option.some.injEq]at aa aD bD b2
 have bq:dk prog program=some prog:=rfl
 have bh:∀m,dk prog (mark m)=some ():=fun m=>rfl
 have e1:dk prog (Extern.BytealgIndexByte.indexByte #[.string (ct l),.int .u8 c])=some (.int .i64 (mO c l)):=by
  have kg:(c:Int).toNat.toUInt8=UInt8.ofNat c:=by simp
  show dk prog ((pure (ct l):Sem ByteArray)>>=fun b=>(pure (c:Int).toNat.toUInt8:Sem UInt8)>>=fun c=>match(List.range b.size).find? fun i=>b[i]! ==c with | some i=>pure (goInt i) | none=>pure (goInt (-1)))=_
  simp only[fp,eQ,Option.bind_some,kg,PG ar ag]
  unfold mO
  cases(dD c l).2<;>simp[eQ]<;>rfl
 have tp:¬fn.name= "runtime.NumGoroutine" :=by simpa using aa
 have PT:fn.body=none:=by simpa using aD
 simp[callFunc,fp,oF,bq,ax,tp,PT,bD,b2,bh,e1,eQ]
section
variable {P:Program} {r:List br} {Q:Fr->ab->Prop} {F:Fr} {H:ab}
theorem xT{d t n:Nat}{x i:Operand}{l:List Nat}{uq:IntKind}{aw:a_ (ey d t x i::r) Q}(ao:aq F x= .string (ct l))(bR:Bytes l)(ad:aq F i= .int uq n)(aE:n<l.length)(bu:iy P t=true)(K:a8 P r Q .mk (aY F d (.int .u8 (l[n]?.getD 0:Nat))) H):a8 P (ey d t x i::r) Q aw F H:=by
 have e:(((ct l).data.getD ((n:Int).toNat) 0).toNat:Int)=((l[n]?.getD 0:Nat):Int):=by rw[Int.toNat_natCast,Oa l bR n aE]
 have ag:iy P t=true/\(0:Int)<=(n:Int)/\(n:Int)<((ct l).size:Int):=⟨bu,by omega,by rw[ld];omega⟩
 rw[hK,ao,ad,FV,nc]
 refine df.mk ag ?_
 rw[e]
 exact K
end
theorem TX(c:Nat):mO c [c]=0:=by simp[mO,dD]
theorem T1{l:List Nat}{c:Nat}{H:ab}(ar:Bytes l)(ag:c<256):
  aZ prog 92 [.string (ct l),.int .u8 c] H (fun u H1=>H1=H/\u= .int .i64 (mO c l)):=by
 refine aZ.cr fun Q aG=>?_
 apply Vw (by simp)
 simp[Hl]
 refine a4.mk (T0 ar ag) ?_
 rintro u H ⟨rfl,rfl⟩
 simp[bj]
 exact aG _ _ ⟨rfl,rfl⟩
theorem T5{l:List Nat}{c:Nat}{H:ab}(ar:Bytes l)(ag:c<256):
  aZ prog 84 [.string (ct l),.string (ct [c])] H (fun u H1=>H1=H/\u= .int .i64 (mO c l)):=by
 refine aZ.cr fun Q aG=>?_
 apply Vv (by simp)
 simp[Hk]
 refine l9 (l:=[c]) (by simp) (by rfl) ?_
 simp
 refine bU.join (by kernel_rfl) (fun cT dJ bP=>bP=H/\cT 16= .bool (decide ([c]=l))) ?_ ?_
 ·rintro K a1-
  simp
  refine a1 _ _ _ ⟨rfl,?_⟩
  simp[Hw (a:=[c]) (b:=l) (by intro x I;simp at I;omega) ar]
 ·rintro cT dJ H ⟨rfl,Ix⟩
  simp at Ix
  simp[Ix]
  refine bG.cE (fun he=>?_) (fun he=>?_)
  ·subst he
   try simp
   simp[bj]
   exact aG _ _ ⟨rfl,by rw[TX]⟩
  ·try simp
   refine xT (n:=0) (uq:= .i64) (l:=[c]) (by simp) (by intro x I;simp at I;omega) (by simp) (by simp) (by rfl) ?_
   simp
   refine a4.mk (T1 ar ag) ?_
   rintro u H ⟨rfl,rfl⟩
   simp[bj]
   exact aG _ _ ⟨rfl,rfl⟩
theorem XK{l:List Nat}{c:Nat}{H:ab}(ar:Bytes l)(ag:c<256)(hlen:l.length<4611686018427387904):
  aZ prog 76 [.string (ct l),.string (ct [c])] H (fun u H1=>H1=H/\u= .tuple #[.string (ct (dD c l).1),.string (ct ((dD c l).2.getD [])),.bool (dD c l).2.isSome]):=by
 refine aZ.cr fun Q aG=>?_
 apply Vs (by simp)
 simp[Hh]
 refine a4.mk (T5 ar ag) ?_
 rintro u H ⟨rfl,rfl⟩
 cases aj:(dD c l).2 with
 | none=>
  have e:mO c l= -1:=by simp[mO,aj]
  simp[e,bj]
  refine aG _ _ ⟨rfl,?_⟩
  rw[vA aj,aj]
  rfl
 | some q=>
  have o:=vB aj
  have e:mO c l=((dD c l).1.length:Int):=by simp[mO,aj]
  obtain⟨a,aF⟩:∃a,(dD c l).1=a:=⟨_,rfl⟩
  rw[aF]at o e
  simp[e]
  refine xW (l:=0) (h:=a.length) (s:=ct l) (by simp) (by rfl) (by simp[dN]) (by simp[fl]) (by omega) (by rw[ld,o];simp) ?_
  simp
  refine l9 (l:=[c]) (by simp) (by rfl) ?_
  have aed:l.length=a.length+1+q.length:=by rw[o];simp;omega
  have Pz:IntKind.i64.wrap ((a.length:Int)+1)=((a.length+1:Nat):Int):=by rw[cP (by omega) (by omega)];omega
  simp[Pz]
  refine xW (l:=a.length+1) (h:=l.length) (s:=ct l) (by simp) (by rfl) (by simp[dN];omega) (by simp[fl,ld]) (by omega) (by rw[ld];omega) ?_
  simp[bj]
  refine aG _ _ ⟨rfl,?_⟩
  rw[vs,vs,aj,aF]
  have bq:((List.drop 0 l).take (a.length-0))=a:=by rw[o];simp
  have bh:((List.drop (a.length+1) l).take (l.length-(a.length+1)))=q:=by
   rw[List.take_of_length_le (by simp)]
   rw[o,show a++c::q=(a++[c])++q from by simp,List.drop_left' (by simp)]
  rw[bq,bh]
  rfl
theorem OD{l:List Nat}{c:Nat}{H:ab}(ar:Bytes l)(ag:c<256)(hlen:l.length<4611686018427387904):
  aZ prog 60 [.string (ct l),.string (ct [c])] H (fun u H1=>H1=H/\u= .tuple #[.string (ct (dD c l).1),.string (ct ((dD c l).2.getD [])),.bool (dD c l).2.isSome]):=by
 refine aZ.cr fun Q aG=>?_
 apply Vq (by simp)
 simp[Hf]
 refine a4.mk (XK ar ag hlen) ?_
 rintro u H ⟨rfl,rfl⟩
 simp[bj]
 exact aG _ _ ⟨rfl,rfl⟩
theorem Rf{l:List Nat}{c:Nat}{H:ab}(ar:Bytes l)(ag:c<256):
  aZ prog 85 [.string (ct l),.string (ct [c])] H (fun u H1=>H1=H/\u= .bool (decide (l.head?=some c))):=by
 refine aZ.cr fun Q aG=>?_
 apply Vu (by simp)
 simp[Hj]
 refine bU.join (by kernel_rfl) (fun cT dJ bP=>bP=H/\cT 4= .bool (decide (l.head?=some c))) ?_ ?_
 ·rintro K a1-
  simp
  refine l9 (l:=l) (by simp) (by rfl) ?_
  simp
  refine l9 (l:=[c]) (by simp) (by rfl) ?_
  cases l with
  | nil=>
   simp
   refine a1 _ _ _ ⟨rfl,by simp⟩
  | cons x r=>
   have e:((1:Int)<=((r.length:Int)+1))=True:=by simp;omega
   simp[e]
   refine l9 (l:=[c]) (by simp) (by rfl) ?_
   simp
   refine xW (l:=0) (h:=1) (s:=ct (x::r)) (by simp) (by rfl) (by simp[dN]) (by simp[fl]) (by omega) (by rw[ld];simp) ?_
   rw[vs]
   simp
   refine a1 _ _ _ ⟨rfl,?_⟩
   have I:x<256:=ar x (by simp)
   simp[Hw (a:=[x]) (b:=[c]) (by intro y aL;simp at aL;omega) (by intro y aL;simp at aL;omega)]
 ·rintro cT dJ H ⟨rfl,bD⟩
  simp at bD
  simp[bD,bj]
  exact aG _ _ ⟨rfl,rfl⟩
def ky(c:Nat)(l:List Nat):List Nat:=if l.head?=some c then l.tail else l
theorem XJ{l:List Nat}{c:Nat}{H:ab}(ar:Bytes l)(ag:c<256):
  aZ prog 77 [.string (ct l),.string (ct [c])] H (fun u H1=>H1=H/\u= .tuple #[.string (ct (ky c l)),.bool (decide (l.head?=some c))]):=by
 refine aZ.cr fun Q aG=>?_
 apply Vt (by simp)
 simp[Hi]
 refine a4.mk (Rf ar ag) ?_
 rintro u H ⟨rfl,rfl⟩
 by_cases h:l.head?=some c
 ·simp[h]
  refine l9 (l:=[c]) (by simp) (by rfl) ?_
  simp
  refine xW (l:=1) (h:=l.length) (s:=ct l) (by simp) (by rfl) (by simp[dN]) (by simp[fl,ld]) ?_ (by rw[ld];omega) ?_
  ·cases l with
   | nil=>simp at h
   | cons x r=>simp
  rw[vs]
  simp[bj]
  refine aG _ _ ⟨rfl,?_⟩
  unfold ky
  rw[if_pos h,List.take_of_length_le (by simp)]
  simp[h]
 ·simp[h,bj]
  refine aG _ _ ⟨rfl,?_⟩
  unfold ky
  rw[if_neg h]
  simp[h]
theorem OB{l:List Nat}{c:Nat}{H:ab}(ar:Bytes l)(ag:c<256):
  aZ prog 61 [.string (ct l),.string (ct [c])] H (fun u H1=>H1=H/\u= .tuple #[.string (ct (ky c l)),.bool (decide (l.head?=some c))]):=by
 refine aZ.cr fun Q aG=>?_
 apply Vr (by simp)
 simp[Hg]
 refine a4.mk (XJ ar ag) ?_
 rintro u H ⟨rfl,rfl⟩
 simp[bj]
 exact aG _ _ ⟨rfl,rfl⟩
def iT(c:Nat):Prop:=48<=c/\c<=57
instance(c:Nat):Decidable (iT c):=by unfold iT;exact inferInstance
def me(l:List Nat):Prop:=(∀c∈l,iT c)/\l≠[]/\¬(l.head?=some 48/\1<l.length)/\l.length<=4000
instance(l:List Nat):Decidable (me l):=by unfold me;exact inferInstance
def fk(l:List Nat):Nat:=l.foldl (fun a c=>10*a+(c-48)) 0
theorem H3(l:List Nat)(a:Nat):l.foldl (fun a c=>10*a+(c-48)) a=a*10^l.length+fk l:=by
 induction l generalizing a with
 | nil=>simp[fk]
 | cons c l aW=>
  unfold fk
  simp only[List.foldl_cons,List.length_cons]
  rw[aW,aW (10*0+(c-48)),Nat.pow_succ]
  rw[show(10*a+(c-48))*10^l.length=a*(10^l.length*10)+(c-48)*10^l.length from by rw[Nat.add_mul];congr 1;rw[Nat.mul_comm 10 a,Nat.mul_assoc,Nat.mul_comm 10]]
  simp;omega
theorem BJ(a b:List Nat):fk (a++b)=fk a*10^b.length+fk b:=by
 unfold fk
 rw[List.foldl_append]
 exact H3 b _
theorem Pb(c:Nat)(r:List Nat):fk (c::r)=(c-48)*10^r.length+fk r:=by
 conv=>lhs;unfold fk
 rw[List.foldl_cons,H3]
 simp
theorem Pc(c:Nat):fk [c]=c-48:=by simp[fk]
theorem ti{l:List Nat}(h:∀c∈l,iT c):fk l<10^l.length:=by
 induction l with
 | nil=>simp[fk]
 | cons c r aW=>
  have o:=aW fun x I=>h x (by simp[I])
  have aa:=h c (by simp)
  unfold iT at aa
  rw[Pb,List.length_cons,Nat.pow_succ]
  have aD:(c-48)*10^r.length<=9*10^r.length:=Nat.mul_le_mul_right _ (by omega)
  omega
theorem Pe{l:List Nat}{i:Nat}(ad:i<l.length):fk (l.take (i+1))=fk (l.take i)*10+(l[i]?.getD 0-48):=by
 rw[List.take_succ_eq_append_getElem ad,BJ,Pc,bt ad]
 simp
theorem Wn{l:List Nat}{H:ab}(ar:Bytes l)(hlen:l.length<4611686018427387904):
  aZ prog 62 [.string (ct l)] H (fun u H1=>Ext H H1/\if me l then∃v x,u= .tuple #[v,.bool true]/\cO H1 95 v x/\Trim x/\val x=fk l else u= .tuple #[.slice none 0 0,.bool false]):=by
 refine aZ.cr fun Q aG=>?_
 apply UK (by simp)
 simp[GL]
 refine l9 (l:=l) (by simp) (by rfl) ?_
 simp
 refine dx.range (by kernel_rfl) l.length (by omega) (by simp) (by rfl) (by simp) (by decide) (by decide) (fun i bV dz a0=>a0=H/\∀c∈l.take i,iT c) ?_ ?_ ?_
 ·exact⟨rfl,by simp⟩
 ·rintro i aA bC H1 ad a2 ⟨rfl,aJ⟩ K a1
  simp at a2
  simp[a2]
  refine bU.join (by kernel_rfl) (fun cT dJ bP=>bP=H1/\cT 24= .bool (decide (¬iT (l[i]?.getD 0)))) ?_ ?_
  ·rintro cU ed-
   obtain⟨c,ag⟩:∃c,l[i]?.getD 0=c:=⟨_,rfl⟩
   simp
   refine xT (n:=i) (uq:= .i64) (l:=l) (by simp) ar (by simp) ad (by rfl) ?_
   rw[ag]
   rcases Nat.lt_or_ge c 48 with o | o
   ·have bq:((c:Int)<48)=True:=by simp;omega
    simp[bq]
    refine ed _ _ _ ⟨rfl,?_⟩
    simp[iT];omega
   ·have bq:((c:Int)<48)=False:=by simp;omega
    simp[bq]
    refine xT (n:=i) (uq:= .i64) (l:=l) (by simp) ar (by simp) ad (by rfl) ?_
    rw[ag]
    rcases Nat.lt_or_ge 57 c with aa | aa
    ·have bh:((57:Int)<c)=True:=by simp;omega
     simp[bh]
     refine ed _ _ _ ⟨rfl,?_⟩
     simp[iT];omega
    ·have bh:((57:Int)<c)=False:=by simp;omega
     simp[bh]
     refine ed _ _ _ ⟨rfl,?_⟩
     simp[iT];omega
  ·rintro cT dJ bP ⟨rfl,Iy⟩
   simp at Iy
   simp[Iy]
   refine bG.cE (fun aV=>?_) (fun aV=>?_)
   ·refine a1 _ _ _ (by simp[a2]) ⟨rfl,?_⟩
    intro c ag
    rw[List.take_succ_eq_append_getElem ad]at ag
    rcases List.mem_append.1 ag with ag | ag
    ·exact aJ c ag
    ·simp at ag
     subst ag
     rw[bt ad]at aV
     exact aV
   ·simp[bj]
    refine aG _ _ ⟨Ext.refl _,?_⟩
    rw[if_neg ?_]
    rintro⟨o,-⟩
    apply aV
    rw[bt ad]
    exact o _ (List.getElem_mem ad)
 ·rintro aA bC H1 a2 ⟨rfl,aJ⟩
  rw[List.take_length]at aJ
  simp
  refine bU.join (by kernel_rfl) (fun cT dJ bP=>bP=H1/\∃b:Bool,cT 42= .bool b/\(b=false↔(l≠[]/\¬(l.head?=some 48/\1<l.length)/\l.length<=4000))) ?_ ?_
  ·rintro cU ed-
   cases l with
   | nil=>
    have ib:(ct []).toList.isEmpty=true:=by simp[tc]
    simp[ib]
    refine ed _ _ _ ⟨rfl,true,by simp,by simp⟩
   | cons c r=>
    have ib:(ct (c::r)).toList.isEmpty=false:=by simp[tc]
    simp[ib]
    refine xT (n:=0) (uq:= .i64) (l:=c::r) (by simp) ar (by simp) (by simp) (by rfl) ?_
    by_cases qf:c=48
    ·subst qf
     simp
     refine l9 (l:=48::r) (by simp) (by rfl) ?_
     rcases Nat.eq_zero_or_pos r.length with aj | aj
     ·simp[aj]
      refine l9 (l:=48::r) (by simp) (by rfl) ?_
      simp[aj]
      refine ed _ _ _ ⟨rfl,false,by simp,by simp[aj]⟩
     ·have bq:((1:Int)<((r.length:Int)+1))=True:=by simp;omega
      simp[bq]
      refine ed _ _ _ ⟨rfl,true,by simp,Iff.intro (fun h=>by cases h) (fun h=>absurd ⟨by simp,by simp;omega⟩ h.2.1)⟩
    ·have bq:((c:Int)=48)=False:=by simp;omega
     simp[bq]
     refine l9 (l:=c::r) (by simp) (by rfl) ?_
     simp
     refine ed _ _ _ ⟨rfl,decide (4000<r.length+1),by simp;omega,?_⟩
     simp[qf]
  ·rintro cT dJ bP ⟨rfl,b,tq,af⟩
   simp at tq
   simp[tq]
   refine bG.mk (fun ag=>?_) (fun ag=>?_)
   ·simp[bj]
    refine aG _ _ ⟨Ext.refl _,?_⟩
    rw[if_neg ?_]
    rintro⟨o,aa⟩
    have:=af.2 aa
    rw[this]at ag
    cases ag
   ·have jc:me l:=⟨aJ,af.1 ag⟩
    simp only[jc,if_true]at aG
    simp
    have tY:l.length<=4000:=jc.2.2.2
    refine dx.mk (by kernel_rfl) (fun n aA bC H1=>Ext bP H1/\∃(p s x:List Nat) (v:Value),n=s.length/\l=p++s/\aA 0= .string (ct s)/\aA 5=v/\cO H1 95 v x/\Trim x/\val x=fk p) l.length ?_ ?_
    ·exact⟨Ext.refl _,[],l,[],_,rfl,rfl,by simp,rfl,⟨ea.nil _ _ _,by simp⟩,Trim.nil,by simp[fk,val]⟩
    ·rintro n fS hl ca ⟨c1,p,s,x,v,rfl,jw,aH,b2,d_,ba,ao⟩ cU ed
     simp at aH b2
     have S7:Bytes s:=fun c ag=>ar c (by rw[jw];simp[ag])
     have JY:∀c∈p,iT c:=fun c ag=>aJ c (by rw[jw];simp[ag])
     have Ds:∀c∈s,iT c:=fun c ag=>aJ c (by rw[jw];simp[ag])
     have jd:p.length+s.length<=4000:=by rw[jw]at tY;simpa using tY
     cases an:s with
     | nil=>
      have ib:(ct []).toList.isEmpty=true:=by simp[tc]
      subst an
      simp[aH,ib]
      rw[List.append_nil]at jw
      exact aG _ _ ⟨c1,v,x,by simp[bj,b2],d_,ba,by rw[ao,jw]⟩
     | cons c r=>
      have ib:(ct s).toList.isEmpty=false:=by simp[tc,an]
      have si:0<s.length:=by rw[an];simp
      obtain⟨kX,wG⟩:∃kX,s.length-1=kX:=⟨_,rfl⟩
      obtain⟨h2,zr⟩:∃h2,kX % 9=h2:=⟨_,rfl⟩
      obtain⟨n,aE⟩:∃n,h2+1=n:=⟨_,rfl⟩
      have ael:n<=9/\n<=s.length/\0<n:=by omega
      have Ph:IntKind.i64.wrap ((s.length:Int)-1)=(kX:Int):=by rw[cP (by omega) (by omega)];omega
      have Pj:((kX:Int)).tmod 9=(h2:Int):=by rw[<-zr];rfl
      have Pk:IntKind.i64.wrap ((h2:Int)+1)=(n:Int):=by rw[cP (by omega) (by omega)];omega
      have BL:IntKind.i64.wrap (h2:Int)=(h2:Int):=by rw[cP (by omega) (by omega)]
      simp[aH,ib]
      refine l9 (l:=s) (by simp) (by rfl) ?_
      simp[Ph,Pj,Pk,BL]
      refine dx.range (by kernel_rfl) n (by omega) (by simp) (by rfl) (by simp) (by decide) (by decide) (fun i m3 pZ dU=>dU=ca/\∃a e:Nat,m3 7= .int .u32 a/\m3 8= .int .u32 e/\a=fk (s.take i)/\e=10^i) ?_ ?_ ?_
      ·refine⟨rfl,0,1,by simp,by simp,by simp[fk],by simp⟩
      ·rintro i m3 pZ dU ad yM ⟨rfl,a,e,c8,dY,aF,he⟩ nW gr
       simp at yM c8 dY
       have zd:i<s.length:=by omega
       obtain⟨td,wk⟩:∃td,s[i]?.getD 0=td:=⟨_,rfl⟩
       have Rz:iT td:=Ds td (by rw[<-wk,bt zd];exact List.getElem_mem zd)
       unfold iT at Rz
       have rU:a<10^i:=by
        have:=ti (l:=s.take i) fun c ag=>Ds c (List.mem_of_mem_take ag)
        rw[<-aF,List.length_take,Nat.min_eq_left (by omega)]at this
        exact this
       have RZ:10^i<=10^8:=Nat.pow_le_pow_right (by decide) (by omega)
       rw[<-he]at rU RZ
       obtain⟨m,hm⟩:∃m,10*a=m:=⟨_,rfl⟩
       obtain⟨d,kS⟩:∃d,td-48=d:=⟨_,rfl⟩
       obtain⟨md,aei⟩:∃md,m+d=md:=⟨_,rfl⟩
       obtain⟨cH,rY⟩:∃cH,10*e=cH:=⟨_,rfl⟩
       have f1:IntKind.u32.wrap (10*(a:Int))=(m:Int):=by rw[lD (by omega) (by omega)];omega
       have f2:IntKind.u8.wrap ((td:Int)-48)=(d:Int):=by rw[Fs (by omega) (by omega)];omega
       have f3:IntKind.u32.wrap (d:Int)=(d:Int):=lD (by omega) (by omega)
       have f4:IntKind.u32.wrap ((m:Int)+d)=(md:Int):=by rw[lD (by omega) (by omega)];omega
       have f5:IntKind.u32.wrap (10*(e:Int))=(cH:Int):=by rw[lD (by omega) (by omega)];omega
       simp[yM,c8,dY,aH,f1,f5]
       refine xT (n:=i) (uq:= .i64) (l:=s) (by simp[aH]) S7 (by simp) zd (by rfl) ?_
       rw[wk]
       simp[f2,f3,f4,f5,dY]
       refine gr _ _ _ (by simp[yM]) ⟨rfl,md,cH,by simp,by simp,?_,?_⟩
       ·rw[Pe zd,wk,<-aF];omega
       ·rw[Nat.pow_succ,<-he];omega
      ·rintro m3 pZ dU yM ⟨rfl,a,e,c8,dY,aF,he⟩
       simp at c8 dY
       simp[c8,dY,b2]
       have CW:e<=10^9:=by rw[he];exact Nat.pow_le_pow_right (by decide) (by omega)
       have rU:a<10^n:=by
        have:=ti (l:=s.take n) fun c ag=>Ds c (List.mem_of_mem_take ag)
        rw[<-aF,List.length_take,Nat.min_eq_left (by omega)]at this
        exact this
       rw[<-he]at rU
       have cD:Ext dU (dU++[.own 95 false [.int .u32 (e:Int)]]):=Ext.more dU (by simp)
       have QW:cO (dU++[.own 95 false [.int .u32 (e:Int)]]) 95 (.slice (some ⟨dU.length,0,none⟩) 1 1) [e]:=by
        simpa using cO.fresh dU 95 [e] 1 1 (by omega) rfl (by intro y aL;simp at aL;omega) false
       refine sL (e:=95) (R:=1) (z:= .int .u32 0) (out:=[.int .u32 e]) (by simp) (by simp) (by simp) (by rfl) (by rfl) (by omega) (by omega) (by omega) ?_ (by simp) ?_
       ·simp[iF,pH]
       have j7:x.length<=4000:=by
        refine ba.length_le ?_
        rw[ao]
        refine Nat.lt_of_lt_of_le (ti JY) (Nat.le_trans (sD 10 p.length 4000 (by decide) (show p.length<=4000 by omega)) (Ev 10 4294967296 4000 (by decide)))
       simp[b2]
       refine a4.mk (ME (d_.ext cD) QW (by omega) (by simp)) ?_
       rintro w cy ⟨cz,aa1,QZ,yY,iu⟩
       simp[c8]
       have dh:Ext cy (cy++[.own 95 false [.int .u32 (a:Int)]]):=Ext.more cy (by simp)
       have wa:cO (cy++[.own 95 false [.int .u32 (a:Int)]]) 95 (.slice (some ⟨cy.length,0,none⟩) 1 1) [a]:=by
        simpa using cO.fresh cy 95 [a] 1 1 (by omega) rfl (by intro y aL;simp at aL;omega) false
       refine sL (e:=95) (R:=1) (z:= .int .u32 0) (out:=[.int .u32 a]) (by simp) (by simp) (by simp) (by rfl) (by rfl) (by omega) (by omega) (by omega) ?_ (by simp) ?_
       ·simp[iF,pH]
       simp
       refine a4.mk (lB wa (by simp)) ?_
       rintro h6 eG ⟨rfl,ri,Q1,adM,TB,Sq⟩
       simp
       have aez:aa1.length<=5000:=by
        refine yY.length_le ?_
        rw[iu,ao]
        have nm:val [e]=e:=by simp[val]
        rw[nm]
        exact WQ 5000 (ti JY) CW (by omega)
       refine a4.mk (LN (QZ.ext dh) Q1 (by omega) (by simp at Sq;omega)) ?_
       rintro cf eE ⟨dj,ei,Q0,QU,TA⟩
       simp[aH]
       refine xW (l:=n) (h:=s.length) (s:=ct s) (by simp[aH]) (by rfl) (by simp[dN]) (by simp[fl,ld]) (by omega) (by rw[ld];omega) ?_
       rw[vs]
       simp
       have kT:(s.drop n).take (s.length-n)=s.drop n:=List.take_of_length_le (by simp)
       refine ed (s.drop n).length _ _ _ (by simp;omega) ⟨c1.az (cD.az (cz.az (dh.az dj))),p++s.take n,s.drop n,ei,cf,rfl,by simp[jw],by simp[kT],by simp,Q0,QU,?_⟩
       rw[TA,iu,ao,TB,BJ,List.length_take,Nat.min_eq_left (by omega),<-he,<-aF]
       simp[val]
@[simp] theorem adf(d t n:Nat)(aU:List (Nat×Operand)):(fj d t n aU).d=some d:=rfl
def qW(l:List Nat):List Nat:=(dD 47 l).1
def l_(l:List Nat):Option (List Nat):=(dD 47 l).2
def n5(l:List Nat):List Nat:=ky 45 (qW l)
def nL(l:List Nat):Bool:=decide ((qW l).head?=some 45)
def Fx(l:List Nat):Prop:=∀u,l_ l=some u->me u/\1<fk u
def gT(l:List Nat):Nat:=match l_ l with | some u=>fk u | none=>1
def jg(l:List Nat):Int:=if nL l=true then-(fk (n5 l):Int)else fk (n5 l)
def nd(l:List Nat):Prop:=me (n5 l)/\Fx l/\¬(nL l=true/\fk (n5 l)=0)/\(l_ l=none\/Int.gcd (jg l) (gT l)=1)
theorem Bytes.tail{c:Nat}{l:List Nat}(h:Bytes l):Bytes (ky c l):=by
 unfold ky
 split
 ·exact fun x I=>h x (List.mem_of_mem_tail I)
 ·exact h
theorem HR{c:Nat}{l:List Nat}:(∀x∈(dD c l).1,x∈l)/\∀u,(dD c l).2=some u->∀x∈u,x∈l:=by
 cases aj:(dD c l).2 with
 | none=>exact⟨fun x I=>by rw[vA aj]at I;exact I,fun u hu=>by cases hu⟩
 | some r=>
  have o:=vB aj
  refine⟨fun x I=>by rw[o];simp[I],fun u hu x I=>?_⟩
  cases hu
  rw[o];simp[I]
theorem HQ{c:Nat}{l:List Nat}:(dD c l).1.length<=l.length/\∀u,(dD c l).2=some u->u.length<=l.length:=by
 cases aj:(dD c l).2 with
 | none=>exact⟨by rw[vA aj];omega,fun u hu=>by cases hu⟩
 | some r=>
  have o:=congrArg List.length (vB aj)
  simp at o
  exact⟨by omega,fun u hu=>by cases hu;omega⟩
theorem Lx{l:List Nat}{H:ab}(ar:Bytes l)(hlen:l.length<4611686018427387904):
  aZ prog 62 [.string (ct l)] H (fun u H1=>Ext H H1/\∃v b x,u= .tuple #[v,.bool b]/\cO H1 95 v x/\Trim x/\x.length<=4000/\(b=true↔me l)/\(b=true->val x=fk l)):=
 (Wn ar hlen).mono fun u H1 ⟨I,hu⟩=>by
  by_cases aJ:me l
  ·rw[if_pos aJ]at hu
   obtain⟨v,x,rfl,d_,ba,ao⟩:=hu
   refine⟨I,v,true,x,rfl,d_,ba,?_,by simp[aJ],fun _=>ao⟩
   refine ba.length_le ?_
   rw[ao]
   exact Nat.lt_of_lt_of_le (ti aJ.1) (Nat.le_trans (sD 10 _ 4000 (by decide) aJ.2.2.2) (Ev 10 4294967296 4000 (by decide)))
  ·rw[if_neg aJ]at hu
   subst hu
   exact⟨I,_,false,[],rfl,⟨ea.nil _ _ _,by simp⟩,Trim.nil,by simp,by simp[aJ],by simp⟩
theorem Wx{l:List Nat}{H:ab}(ar:Bytes l)(hlen:l.length<4611686018427387904):
  aZ prog 37 [.string (ct l)] H (fun u H1=>Ext H H1/\∃v,(nd l/\u= .tuple #[v,.bool true]/\b3 H1 v (Rat.divInt (jg l) (gT l))\/¬nd l/\u= .tuple #[v,.bool false])/\∃s1 b4 du cJ s2 dq dE db,v= .agg #[.bool s1,.slice b4 du cJ,.bool s2,.slice dq dE db]):=by
 refine aZ.cr fun Q aG=>?_
 apply Ur (by simp)
 have I4:Bytes (qW l):=fun x I=>ar x (HR.1 x I)
 have adL:(qW l).length<=l.length:=HQ.1
 simp[GA,K3,K2]
 refine a4.mk (OD ar (by decide) hlen) ?_
 rintro u H1 ⟨rfl,rfl⟩
 simp
 refine a4.mk (OB I4 (by decide)) ?_
 rintro u H1 ⟨rfl,rfl⟩
 simp
 refine a4.mk (Lx (l:=n5 l) (I4.tail) ?_) ?_
 ·unfold n5 ky;split
  ·rw[List.length_tail];omega
  ·omega
 rintro u H1 ⟨bH,agD,Hu,x4,rfl,CC,I8,aee,wj,Ko⟩
 simp
 have CA:cO (H1++[.own 95 false [.int .u32 1]]) 95 (.slice (some ⟨H1.length,0,none⟩) 1 1) [1]:=by
  simpa using cO.fresh H1 95 [1] 1 1 (by omega) rfl (by simp) false
 refine sL (e:=95) (R:=1) (z:= .int .u32 0) (out:=[.int .u32 1]) (by simp) (by simp) (by simp) (by rfl) (by rfl) (by omega) (by omega) (by omega) ?_ (by simp) ?_
 ·simp[iF,pH]
 simp
 have bx:Ext H1 (H1++[.own 95 false [.int .u32 1]]):=Ext.more H1 (by simp)
 refine bU.join (by kernel_rfl) (fun cT dJ bP=>Ext (H1++[.own 95 false [.int .u32 1]]) bP/\∃(w:Value) (y:List Nat) (b:Bool),cT 11=w/\cT 12= .bool b/\cO bP 95 w y/\Trim y/\y.length<=4000/\(b=true↔Fx l)/\(b=true->val y=gT l)) ?_ ?_
 ·rintro K a1-
  cases aj:l_ l with
  | none=>
   have fo:(dD 47 l).2=none:=aj
   simp[fo]
   refine a1 _ _ _ ⟨Ext.refl _,.slice (some ⟨H1.length,0,none⟩) 1 1,[1],true,rfl,rfl,CA,by simp[Trim],by simp,?_,?_⟩
   ·simp only[true_iff];intro u hu;rw[aj]at hu;cases hu
   ·intro _;simp[gT,aj,val]
  | some q=>
   have fo:(dD 47 l).2=some q:=aj
   have zD:Bytes q:=fun x I=>ar x (HR.2 q fo x I)
   have sb:=HQ.2 q fo
   simp[fo]
   refine a4.mk (Lx (l:=q) zD (by omega)) ?_
   rintro u a0 ⟨bL,Nh,NY,Np,rfl,CB,Cz,qz,lM,w0⟩
   cases NY with
   | false=>
    have ub:¬me q:=fun h=>by have:=lM.2 h;cases this
    simp
    refine a1 _ _ _ ⟨bL,Nh,Np,false,by simp,by simp,CB,Cz,qz,?_,by simp⟩
    simp only[Bool.false_eq_true,false_iff]
    intro h
    exact ub (h q aj).1
   | true=>
    have RG:me q:=lM.1 rfl
    have ao:=w0 rfl
    simp
    have c1:Ext a0 (a0++[.own 95 false [.int .u32 1]]):=Ext.more a0 (by simp)
    have v_:cO (a0++[.own 95 false [.int .u32 1]]) 95 (.slice (some ⟨a0.length,0,none⟩) 1 1) [1]:=by
     simpa using cO.fresh a0 95 [1] 1 1 (by omega) rfl (by simp) false
    refine sL (e:=95) (R:=1) (z:= .int .u32 0) (out:=[.int .u32 1]) (by simp) (by simp) (by simp) (by rfl) (by rfl) (by omega) (by omega) (by omega) ?_ (by simp) ?_
    ·simp[iF,pH]
    simp
    refine a4.mk (BB (CB.ext c1) v_ Cz (by simp[Trim]) (by omega) (by simp)) ?_
    rintro u dU ⟨rfl,rfl⟩
    have bq:val [1]=1:=by simp[val]
    rw[bq,ao]
    obtain⟨c,ag⟩:∃c:Int,(if fk q<1 then-1 else if 1<fk q then 1 else 0:Int)=c:=⟨_,rfl⟩
    rw[ag]
    simp
    refine a1 _ _ _ ⟨bL.az c1,Nh,Np,decide (0<c),by simp,by simp,CB.ext c1,Cz,qz,?_,?_⟩
    ·rw[decide_eq_true_iff]
     have aH:0<c↔1<fk q:=by rw[<-ag];split<;>(try split)<;>omega
     rw[aH]
     exact⟨fun h u hu=>by rw[aj]at hu;cases hu;exact⟨RG,h⟩,fun h=>(h q aj).2⟩
    ·intro _;rw[ao];simp[gT,aj]
 ·rintro cT dJ bP ⟨b0,w,y,b,nm,n6,I9,qm,zq,af,sr⟩
  simp at nm n6
  refine bU.join (by kernel_rfl) (fun fS hl ca=>ca=bP/\∃g:Bool,fS 57= .bool g/\(g=false↔(Hu=true/\b=true/\¬(nL l=true/\x4.length=0)))) ?_ ?_
  ·rintro K a1-
   cases Hu with
   | false=>
    simp
    refine a1 _ _ _ ⟨rfl,true,by simp,by simp⟩
   | true=>
    cases b with
    | false=>
     simp[n6]
     refine a1 _ _ _ ⟨rfl,true,by simp,by simp⟩
    | true=>
     have QY:=CC.ext (bx.az b0)
     by_cases hm:(qW l).head?=some 45
     ·have r6:(dD 47 l).1.head?=some 45:=hm
      simp[n6,r6]
      refine cN (by simpa using QY.row) (by simp) ?_
      simp
      refine a1 _ _ _ ⟨rfl,decide (x4.length=0),by simp,by simp[nL,hm]⟩
     ·have r6:¬(dD 47 l).1.head?=some 45:=hm
      simp[n6,r6]
      refine a1 _ _ _ ⟨rfl,false,by simp,by simp[nL,hm]⟩
  ·rintro fS hl ca ⟨rfl,g,ID,aV⟩
   simp at ID
   simp[ID]
   have nH:Ext H ca:=(Ext.more H (by simp)).az (bH.az (bx.az b0))
   refine bG.mk (fun ag=>?_) (fun ag=>?_)
   ·have aE:¬nd l:=by
     rintro⟨o,aa,aD,-⟩
     have:=aV.2 ⟨wj.2 o,af.2 aa,fun⟨bD,b2⟩=>aD ⟨bD,by rw[<-Ko (wj.2 o),(List.length_eq_zero_iff.1 b2)];rfl⟩⟩
     rw[this]at ag;cases ag
    simp[bj]
    exact aG _ _ ⟨nH,_,.inr ⟨aE,rfl⟩,_,_,_,_,_,_,_,_,rfl⟩
   ·obtain⟨kR,o_,pa⟩:=aV.1 ag
    have mI:=Ko kR
    have j6:=sr o_
    simp
    have Pl:(if nL l=true then-(val x4:Int)else val x4)=jg l:=by rw[mI];rfl
    have BL:(if false=true then-(val y:Int)else val y)=(gT l:Int):=by rw[j6];rfl
    refine a4.mk (D2 (xl (neg:=nL l) (CC.ext (bx.az b0)) I8)) ?_
    rintro pP dU ⟨cD,s1,b4,du,cJ,rfl,pA⟩
    rw[Pl]at pA
    simp[nm]
    refine a4.mk (D2 (xl (neg:=false) (I9.ext cD) qm)) ?_
    rintro k2 cy ⟨cz,s2,dq,dE,db,rfl,uk⟩
    rw[BL]at uk
    simp
    have RI:0<gT l:=by
     have o:=af.1 o_
     unfold gT
     cases hu:l_ l with
     | none=>simp
     | some q=>have:=(o q hu).2;simp;omega
    have dh:Ext cy (cy++[.dead]):=Ext.more cy (by simp)
    refine bU.join (by kernel_rfl) (fun m4 oR eG=>Ext (cy++[.dead]) eG/\oR 2= .agg #[.bool s1,.slice b4 du cJ,.bool s2,.slice dq dE db]/\∃g:Bool,m4 3= .bool g/\(g=true↔(l_ l=none\/Int.gcd (jg l) (gT l)=1))) ?_ ?_
    ·rintro K a1-
     cases aj:l_ l with
     | none=>
      have fo:(dD 47 l).2=none:=aj
      simp[fo]
      refine a1 _ _ _ ⟨Ext.refl _,by simp,true,by simp,by simp[aj]⟩
     | some q=>
      have fo:(dD 47 l).2=some q:=aj
      simp[fo]
      have BQ:Fits (jg l):=by
       have o:(jg l).natAbs=val x4:=by unfold jg;rw[<-mI];split<;>omega
       unfold Fits;rw[o]
       exact Nat.lt_of_lt_of_le (jH CC.2) (sD 4294967296 _ 1000000 (by decide) (by omega))
      have yE:Fits (gT l):=by
       unfold Fits;rw[Int.natAbs_natCast,<-j6]
       exact Nat.lt_of_lt_of_le (jH I9.2) (sD 4294967296 _ 1000000 (by decide) (by omega))
      refine a4.mk (Ip ((pA.ext cz).ext dh) (uk.ext dh) BQ yE) ?_
      rintro oK eE ⟨dj,xa⟩
      refine⟨dj,?_⟩
      simp
      refine a4.mk (uA (n:=1) (by omega) (by omega)) ?_
      rintro M9 mg ⟨fI,z0⟩
      refine⟨fI,?_⟩
      simp
      have PB:Fits ((Int.gcd (jg l) (gT l):Nat):Int):=by
       have aa:Int.gcd (jg l) (gT l)<=gT l:=Nat.le_of_dvd RI (Int.ofNat_dvd.1 (Int.gcd_dvd_right _ _))
       exact yE.le (by simpa using aa)
      refine a4.mk (D0 (xa.ext fI) z0 PB (Fits.small (by decide))) ?_
      rintro oL hM ⟨fB,rfl⟩
      refine⟨fB,?_⟩
      obtain⟨gS,fH⟩:∃gS:Int,(if((Int.gcd (jg l) (gT l):Nat):Int)<1 then-1 else if((Int.gcd (jg l) (gT l):Nat):Int)=1 then 0 else 1:Int)=gS:=⟨_,rfl⟩
      rw[fH]
      simp
      refine a1 _ _ _ ⟨dj.az (fI.az fB),by simp,decide (gS=0),by simp,?_⟩
      rw[decide_eq_true_iff]
      simp only[aj,reduceCtorEq,false_or]
      rw[<-fH]
      split
      ·omega
      ·split<;>omega
    ·rintro m4 oR eG ⟨dj,gq,iG,aD,Js⟩
     simp at gq aD
     simp[gq,aD,bj]
     have KI:=(cD.az (cz.az (dh.az dj)))
     have jc:nd l↔iG=true:=by
      rw[Js]
      refine⟨fun h=>h.2.2.2,fun h=>⟨wj.1 kR,af.1 o_,fun⟨bD,b2⟩=>pa ⟨bD,?_⟩,h⟩⟩
      rw[<-mI]at b2
      exact(Nat.eq_zero_or_pos _).resolve_right fun h=>by have:=I8.pos.1 h;omega
     cases iG with
     | true=>
      have og:Int.gcd (jg l) (gT l)=1:=by
       rcases Js.1 rfl with h | h
       ·have:gT l=1:=by simp[gT,h]
        rw[this];simp
       ·exact h
      refine aG _ _ ⟨nH.az KI,_,.inl ⟨jc.2 rfl,rfl,?_⟩,_,_,_,_,_,_,_,_,rfl⟩
      obtain⟨bq,bh⟩:=BH (jg l) (gT l) (by omega)
      have wA:Nat.gcd (jg l).natAbs (gT l)=1:=og
      rw[wA]at bq bh
      refine⟨_,_,_,_,rfl,?_,?_⟩
      ·rw[bq];simpa using pA.ext (cz.az (dh.az dj))
      ·rw[bh];simpa using uk.ext (dh.az dj)
     | false=>
      refine aG _ _ ⟨nH.az KI,_,.inr ⟨fun h=>(by have:=jc.1 h;cases this),rfl⟩,_,_,_,_,_,_,_,_,rfl⟩
abbrev iD(H:ab)(v:Value)(r:List Rat):Prop:=Row 44 4 true b3 H v r
instance:bJ iD:=⟨fun h I=>bJ.ext (ae:=Row 44 4 true b3) h I⟩
abbrev ho(H:ab)(v:Value)(t:List (List Rat)):Prop:=Row 84 1 false iD H v t
instance:bJ ho:=⟨fun h I=>bJ.ext (ae:=Row 84 1 false iD) h I⟩
theorem ho.ext{H H1:ab}{v:Value}{t:List (List Rat)}(h:ho H v t)(I:Ext H H1):ho H1 v t:=bJ.ext h I
def er(r:List Rat):Rat:=r.foldl (·+·) 0
theorem L1{r:List Rat}{i:Nat}{q:Rat}(h:r[i]?=some q):er (r.take (i+1))=er (r.take i)+q:=by
 have ad:=(cc.1 h).1
 rw[List.take_succ_eq_append_getElem ad]
 unfold er
 rw[List.foldl_append]
 simp[(cc.1 h).2]
theorem pF{v:Value}{t:List (List Rat)}{j N:Nat}{row:List Rat}{H:ab}(ba:ho H v t)(aj:t[j]?=some row)(ar:row.length<4611686018427387904)(fP:t.length<4611686018427387904)(an:∀k,c4 N (er (row.take k)))(he:∀q∈row,c4 N q)(cm:N<=1000000):
  aZ prog 30 [.agg #[v],.int .i64 j] H (fun u H1=>Ext H H1/\b3 H1 u (er row)):=by
 refine aZ.cr fun Q aG=>?_
 apply U6 (by simp)
 obtain⟨a,c,rfl⟩:=Row.len ba
 simp[G3]
 have cn:Ext H (H++[.dead,.dead]):=Ext.more H (by simp)
 refine a4.mk (xB (n:=0) (by omega) (by omega)) ?_
 rintro uO H1 ⟨bH,mF⟩
 simp
 refine ew.mk mF.whole ?_
 simp
 have bx:Ext H1 (H1++[.dead]):=Ext.more H1 (by simp)
 have mv:=ba.ext (cn.az (bH.az bx))
 refine cI (ae:=iD) (xs:=t) (n:=j) (a:=row) (e:=84) (R:=1) (ay:=false) (by simpa using mv) (by simp) aj (by simp) (by simp) (by simp) (by decide) ?_
 intro Eo Fh ov
 refine cN (ae:=b3) (xs:=row) (by simpa using ov) (by simp) ?_
 simp
 refine dx.range (by kernel_rfl) row.length (by omega) (by simp) (by rfl) (by simp) (by decide) (by decide) (fun i bV dz a0=>Ext (H1++[.dead]) a0/\b3 a0 (dz 5) (er (row.take i))) ?_ ?_ ?_
 ·refine⟨Ext.refl _,?_⟩
  simpa[er]using mF.ext bx
 ·rintro i bV dz a0 ad a2 ⟨bL,qF⟩ K a1
  simp at a2 qF
  simp[a2]
  obtain⟨x,I⟩:∃x,row[i]?=some x:=⟨_,bt ad⟩
  refine cI (ae:=b3) (xs:=row) (n:=i) (a:=x) (e:=44) (R:=4) (ay:=true) (by simpa using bJ.ext ov bL) (by simp[a2]) I (by simp) (by simp) (by simp) (by decide) ?_
  intro dF u hu
  simp
  refine ew.mk hu.whole ?_
  simp
  have b0:Ext a0 (a0++[.dead]):=Ext.more a0 (by simp)
  refine a4.mk (LX (qF.ext b0) (hu.ext b0) (an i) (he x (List.mem_of_getElem? I)) cm) ?_
  rintro w bZ ⟨c1,hw⟩
  simp
  refine ew.mk hw.whole ?_
  refine a1 _ _ _ (by simp[a2]) ⟨bL.az (b0.az c1),?_⟩
  rw[L1 I]
  simpa using hw
 ·rintro bV dz a0 a2 ⟨bL,qF⟩
  simp at qF
  simp
  refine ew.mk qF.whole ?_
  simp[bj]
  exact aG _ _ ⟨cn.az (bH.az (bx.az bL)),qF⟩
end Go.b_
end
