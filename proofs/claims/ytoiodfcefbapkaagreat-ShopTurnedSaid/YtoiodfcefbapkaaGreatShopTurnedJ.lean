/- Part of the proof of ShopTurned. -/
import Derived.Test.YtoiodfcefbapkaaGreatShopTurnedI
set_option linter.unusedVariables false
set_option linter.unusedSimpArgs false
section
set_option maxRecDepth 8000
set_option maxHeartbeats 1000000
namespace Go.cW
open Go.Proofs
open Go.Proofs.Tryz (prog)
attribute [-simp] hF iq ka
def b2(N:Nat)(z:Int):Prop:=z.natAbs<10000^N
theorem b2.mono{N M:Nat}{z:Int}(h:b2 N z)(zY:N<=M):b2 M z:=Nat.lt_of_lt_of_le h (Nat.pow_le_pow_right (by decide) zY)
theorem b2.neg{N:Nat}{z:Int}(h:b2 N z):b2 N (-z):=by unfold b2;rw[Int.natAbs_neg];exact h
theorem b2.le{N:Nat}{a b:Int}(h:b2 N a)(hle:b.natAbs<=a.natAbs):b2 N b:=Nat.lt_of_le_of_lt hle h
theorem b2.add{N:Nat}{a b:Int}(aO:b2 N a)(ag:b2 N b):b2 (N+1) (a+b):=by
 unfold b2 at*
 have:=Int.natAbs_add_le a b
 rw[Nat.pow_succ]
 omega
theorem b2.mul{N M:Nat}{a b:Int}(aO:b2 N a)(ag:b2 M b):b2 (N+M) (a*b):=by
 unfold b2 at*
 rw[Int.natAbs_mul,Nat.pow_add]
 exact Nat.mul_lt_mul'' aO ag
theorem b2.small{N:Nat}{z:Int}(h:z.natAbs<10000)(bQ:0<N):b2 N z:=by
 have:(10000:Nat)^1<=10000^N:=Nat.pow_le_pow_right (by decide) bQ
 unfold b2
 omega
theorem b2.i64{z:Int}(o: -9223372036854775808<=z)(aa:z<9223372036854775808):b2 5 z:=by
 unfold b2
 have:(10000:Nat)^5=100000000000000000000:=by decide
 omega
theorem b2.len{N:Nat}{s:Bool}{aQ:List Nat}{z:Int}(h:b2 N z)(bc:fU aQ)(aN:z=fh s (bq aQ)):aQ.length<=N:=eh.len bc aN h
theorem IX{v w:Value}{x y:Int}{N:Nat}{H:ab}(bx:eh H v x)(bE:eh H w y)(k4:b2 N x)(k5:b2 N y)(bQ:N<=10000000000):aP prog 56 [v,w] H (fun u H1=>Ext H H1/\eh H1 u (x+y)):=by
 refine aP.b9 fun Q aD=>?_
 obtain⟨s1,b1,cn,d1,rfl,eN,kG,k7,hC,fu⟩:=bx
 obtain⟨s2,cA,cD,d2,rfl,gO,h_,hx,iV,lY⟩:=bE
 have gh:=k4.len k7 hC
 have iz:=k5.len hx iV
 clear k4 k5
 apply WL (by simp)
 simp[Hu]
 have br:Ext H (H++[.dead,.dead,.dead]):=Ext.more H (by simp)
 refine bt.mk (fun ag=>?_) (fun ag=>?_)
 ·have ao:s1=s2:=by simpa using ag
  simp
  refine aV.mk (Qp (eN.ext br) (gO.ext br) kG h_ (by omega) (by omega)) ?_
  rintro _ H1 ⟨bw,eB,eL,d3,rfl,m1,nT,iB,mx⟩
  refine⟨bw,?_⟩
  simp
  refine aV.mk (p4 m1 nT (by omega)) ?_
  rintro u aR ⟨bf,hu⟩
  simp
  refine cN.mk hu.whole ?_
  simp[bd]
  refine aD _ _ ⟨br.aw (bw.aw bf),?_⟩
  have e:x+y=fh s1 (bq d3):=by
   rw[hC,iV,iB,<-ao]
   cases s1<;>simp[fh];omega
  rw[e]
  exact hu
 ·have ao:s1≠s2:=by simpa using ag
  simp
  refine aV.mk (Ox (eN.ext br) (gO.ext br) kG h_ k7 hx (by omega) (by omega)) ?_
  rintro _ H1 ⟨rfl,rfl⟩
  simp
  refine bt.b6 (fun ae=>?_) (fun ae=>?_)
  ·have hy:bq d2<=bq d1:=by
    by_cases h:bq d1<bq d2
    ·rw[if_pos h]at ae;omega
    ·omega
   have hlen:d2.length<=d1.length:=by
    by_cases h:d2.length<=d1.length
    ·exact h
    ·have:=hx.yh kG (by omega);omega
   simp
   refine aV.mk (CA (eN.ext br) (gO.ext br) kG h_ (by omega) hy hlen) ?_
   rintro _ H1 ⟨bw,eB,eL,d3,rfl,m1,nT,iB,mx⟩
   refine⟨bw,?_⟩
   simp
   refine aV.mk (p4 m1 nT (by omega)) ?_
   rintro u aR ⟨bf,hu⟩
   simp
   refine cN.mk hu.whole ?_
   simp[bd]
   refine aD _ _ ⟨br.aw (bw.aw bf),?_⟩
   have e:x+y=fh s1 (bq d3):=by
    rw[hC,iV,iB]
    cases s1<;>cases s2<;>simp[fh]at ao⊢<;>omega
   rw[e]
   exact hu
  ·have a5:bq d1<bq d2:=by
    by_cases h:bq d1<bq d2
    ·exact h
    ·rw[if_neg h]at ae
     split at ae<;>omega
   have hlen:d1.length<=d2.length:=by
    by_cases h:d1.length<=d2.length
    ·exact h
    ·have:=k7.yh h_ (by omega);omega
   simp
   refine aV.mk (CA (gO.ext br) (eN.ext br) h_ kG (by omega) (by omega) hlen) ?_
   rintro _ H1 ⟨bw,eB,eL,d3,rfl,m1,nT,iB,mx⟩
   refine⟨bw,?_⟩
   simp
   refine aV.mk (p4 m1 nT (by omega)) ?_
   rintro u aR ⟨bf,hu⟩
   simp
   refine cN.mk hu.whole ?_
   simp[bd]
   refine aD _ _ ⟨br.aw (bw.aw bf),?_⟩
   have e:x+y=fh s2 (bq d3):=by
    rw[hC,iV,iB]
    cases s1<;>cases s2<;>simp[fh]at ao⊢<;>omega
   rw[e]
   exact hu
theorem CF{v w:Value}{x y:Int}{N:Nat}{H:ab}(bx:eh H v x)(bE:eh H w y)(k4:b2 N x)(k5:b2 N y)(bQ:N<=10000000000):aP prog 71 [v,w] H (fun u H1=>Ext H H1/\eh H1 u (x-y)):=by
 refine aP.b9 fun Q aD=>?_
 have aid:=bx.whole
 have Wa:=bE.whole
 have wH:=bx
 have sd:=bE
 obtain⟨s1,b1,cn,d1,rfl,-⟩:=wH
 obtain⟨s2,cA,cD,d2,rfl,-⟩:=sd
 apply WZ (by simp)
 simp[HH]
 have br:Ext H (H++[.dead,.dead,.dead]):=Ext.more H (by simp)
 refine aV.mk (I4 (bE.ext br)) ?_
 rintro u H1 ⟨bw,hu⟩
 refine⟨bw,?_⟩
 simp
 refine aV.mk (IX (bx.ext (br.aw bw)) hu k4 k5.neg bQ) ?_
 rintro w aR ⟨bf,hw⟩
 simp
 refine cN.mk hw.whole ?_
 simp[bd]
 exact aD _ _ ⟨br.aw (bw.aw bf),by rw[Int.sub_eq_add_neg];exact hw⟩
theorem Cx{v w:Value}{x y:Int}{N:Nat}{H:ab}(bx:eh H v x)(bE:eh H w y)(k4:b2 N x)(k5:b2 N y)(bQ:N<=10000000000):aP prog 44 [v,w] H (fun u H1=>Ext H H1/\u= .int .i64 (if x<y then-1 else if x=y then 0 else 1)):=by
 refine aP.b9 fun Q aD=>?_
 have wH:=bx
 have sd:=bE
 obtain⟨s1,b1,cn,d1,rfl,-⟩:=wH
 obtain⟨s2,cA,cD,d2,rfl,-⟩:=sd
 apply WN (by simp)
 simp[Hw]
 have br:Ext H (H++[.dead,.dead]):=Ext.more H (by simp)
 refine aV.mk (CF (bx.ext br) (bE.ext br) k4 k5 bQ) ?_
 rintro u H1 ⟨bw,hu⟩
 simp
 refine aV.mk (Jb hu) ?_
 rintro w aR ⟨bf,rfl⟩
 simp[bd]
 refine aD _ _ ⟨br.aw (bw.aw bf),?_⟩
 congr 1
 by_cases o:x<y
 ·rw[if_pos (by omega),if_pos o]
 ·rw[if_neg (by omega),if_neg o]
  by_cases aa:x=y
  ·rw[if_pos (by omega),if_pos aa]
  ·rw[if_neg (by omega),if_neg aa]
theorem adI{aQ:List Nat}{j d:Nat}(aW:j<aQ.length):bq (aQ.set j d)+10000^j*(aQ[j]?.getD 0)=bq aQ+10000^j*d:=by
 rw[yU (aQ.set j d) j (by simp;omega),yU aQ j (by omega)]
 have o:(aQ.set j d).take j=aQ.take j:=by rw[List.take_set_of_le (Nat.le_refl j)]
 rw[o,vO (aQ:=aQ.set j d) (by simpa using aW),vO aW,List.getElem?_set_self aW]
 have aa:(aQ.set j d).drop (j+1)=aQ.drop (j+1):=by rw[List.drop_set_of_lt (by omega)]
 rw[aa]
 simp only[Option.getD_some]
 rw[Nat.mul_add,Nat.mul_add]
 omega
theorem eD.set{aQ:List Nat}{j d:Nat}(h:eD aQ)(aA:d<10000):eD (aQ.set j d):=fun x J=>by
 rcases List.mem_or_eq_of_mem_set J with J | rfl
 ·exact h x J
 ·exact aA
theorem Y7{V O R e1 X P i k a b d dT s:Nat}(h:V+10000^(i+k)*e1=P+10000^i*(a*X))(ao:s=R+e1+a*b)(aA:d+10000*dT=s)(nX:O+10000^(i+k)*R=V+10000^(i+k)*d):O+10000^(i+(k+1))*dT=P+10000^i*(a*(X+10000^k*b)):=by
 have o:10000^(i+(k+1))*dT=10000^(i+k)*(10000*dT):=by
  rw[<-Nat.add_assoc,Nat.pow_succ,Nat.mul_assoc]
 have aa:10000^(i+k)*d+10000^(i+k)*(10000*dT)=10000^(i+k)*R+10000^(i+k)*e1+10000^(i+k)*(a*b):=by
  rw[<-Nat.mul_add,<-Nat.mul_add,<-Nat.mul_add,aA,ao]
 have aB:10000^(i+k)*(a*b)=10000^i*(a*(10000^k*b)):=by
  rw[Nat.pow_add,Nat.mul_assoc]
  congr 1
  rw[<-Nat.mul_assoc,<-Nat.mul_assoc,Nat.mul_comm (10000^k) a]
 rw[Nat.mul_add,Nat.mul_add,o]
 omega
theorem Y8{A B a i df V e1:Nat}(bx:A<10000^i)(aO:a<10000)(bE:B<10000^df)(h:V+10000^(i+(df+1))*e1=A*B+10000^i*(a*B)):e1=0:=by
 rcases Nat.eq_zero_or_pos e1 with aI | aI
 ·exact aI
 ·exfalso
  have o:A*B+10000^i*(a*B)=(A+10000^i*a)*B:=by rw[Nat.add_mul,Nat.mul_assoc]
  have aa:A+10000^i*a<10000^(i+1):=by
   have aB:10000^i*(a+1)<=10000^i*10000:=Nat.mul_le_mul_left _ aO
   rw[Nat.mul_add,Nat.mul_one]at aB
   rw[Nat.pow_succ]
   omega
  have aB:(A+10000^i*a)*B<10000^(i+1)*10000^df:=Nat.mul_lt_mul'' aa bE
  rw[<-Nat.pow_add]at aB
  have bs:10000^(i+(df+1))*1<=10000^(i+(df+1))*e1:=Nat.mul_le_mul_left _ aI
  have bJ:i+(df+1)=i+1+df:=by omega
  rw[bJ]at h bs
  omega
theorem tG{v w:Value}{x y:Int}{N:Nat}{H:ab}(bx:eh H v x)(bE:eh H w y)(k4:b2 N x)(k5:b2 N y)(bQ:N<=1000000000):aP prog 45 [v,w] H (fun u H1=>Ext H H1/\eh H1 u (x*y)):=by
 refine aP.b9 fun Q aD=>?_
 obtain⟨s1,b1,cn,fb,rfl,eN,kG,k7,hC,fu⟩:=bx
 obtain⟨s2,cA,cD,f_,rfl,gO,h_,hx,iV,lY⟩:=bE
 have gh:=k4.len k7 hC
 have iz:=k5.len hx iV
 clear k4 k5
 obtain⟨c_,kq⟩:∃c_,c_=fb.length:=⟨_,rfl⟩
 obtain⟨df,jG⟩:∃df,df=f_.length:=⟨_,rfl⟩
 rw[<-kq]at eN gh
 rw[<-jG]at gO iz
 rw[<-kq,<-jG]
 apply WU (by simp)
 simp[HC]
 have br:Ext H (H++[.dead,.dead,.dead]):=Ext.more H (by simp)
 have Dv:=eN.ext br
 have Tb:=gO.ext br
 have l2:IntKind.i64.wrap ((c_:Int)+(df:Int))=((c_+df:Nat):Int):=by rw[b7 (by omega) (by omega)];simp
 have jq:IntKind.i64.wrap (((c_:Int)+(df:Int))+1)=((c_+df+1:Nat):Int):=by rw[b7 (by omega) (by omega)];simp
 refine cP (af:=dh) (xs:=fb) (by simpa using Dv) (by simp) ?_
 simp[<-kq]
 refine cP (af:=dh) (xs:=f_) (by simpa using Tb) (by simp) ?_
 simp[<-jG,l2,jq]
 refine yM (e:=3) (U:=1) (bI:=8) (aC:=false) (n:=c_+df+1) (e4:= .i64) (c9:= .i64) (z:= .int .i64 0) (af:=dh) (a:=0) (by simp) (by simp) (by simp) (by rfl) (by rfl) (by simp) (kd 0) (by simp) (by simp) (by decide) (by decide) (by omega) (fun aH=>rfl) ?_
 intro ll ln H1 Dm EK
 have iN:=Dm.le (cb:=H.length) (by simp)
 have bw:=br.aw EK
 simp
 refine dm.mk (by kernel_rfl) (fun m bR c5 aR=>∃(i:Nat) (R:List Nat),m=c_-i/\i<=c_/\bR 6= .int .i64 (i:Int)/\Ext H aR/\bH H.length 3 1 false dh aR (.slice ll (c_+df+1) ln) R/\R.length=c_+df+1/\eD R/\bq R=bq (fb.take i)*bq f_) c_ ⟨0,List.replicate (c_+df+1) 0,by omega,by omega,by simp,bw,iN,by simp,fun d aA=>by rw[List.mem_replicate]at aA;omega,by rw[Gt];simp[bq]⟩ ?_
 rintro m bR c5 aR ⟨i,R,rfl,ad,dP,bf,fR,dI,xx,iQ⟩ K aX
 simp at dP
 simp[dP]
 refine cP (af:=dh) (xs:=fb) (by simpa using eN.ext bf) (by simp) ?_
 simp[<-kq]
 refine bt.b6 (fun a5=>?_) (fun hy=>?_)
 ·refine Exists.elim (⟨_,bB (show i<fb.length by omega)⟩:∃d,fb[i]?=some d) fun hp k_=>?_
  have w9:fb[i]?.getD 0=hp:=by rw[k_];rfl
  have uD:hp<10000:=w9▸kG.get i
  simp
  refine dm.mk (by kernel_rfl) (fun m dt ez bP=>∃(k e1:Nat) (R:List Nat),m=df+1-k/\k<=df+1/\e1<10000/\(k=df+1->e1=0)/\dt 7= .int .i64 (e1:Int)/\dt 8= .int .i64 (k:Int)/\Ext H bP/\bH H.length 3 1 false dh bP (.slice ll (c_+df+1) ln) R/\R.length=c_+df+1/\eD R/\bq R+10000^(i+k)*e1=bq (fb.take i)*bq f_+10000^i*(hp*bq (f_.take k))) (df+1) ⟨0,0,R,by omega,by omega,by omega,by omega,by simp,by simp,bf,fR,dI,xx,by rw[iQ];simp[bq]⟩ ?_
  rintro m dt ez bP ⟨k,e1,rp,rfl,ak,jC,sy,cd,cS,bG,gx,LL,Eg,iB⟩ mg fA
  simp at cd cS
  have Dw:=gO.ext bG
  have Ta:=eN.ext bG
  simp only[l8]
  refine ca.join (by kernel_rfl) (fun c0 dS b0=>b0=bP/\c0 34= .bool (decide (k<df\/0<e1))) ?_ ?_
  ·rintro pt h2-
   simp[cS]
   refine cP (af:=dh) (xs:=f_) (by simpa using Dw) (by simp) ?_
   simp[<-jG]
   by_cases hg:k<df
   ·simp[hg]
    exact h2 _ _ _ ⟨rfl,by simp[hg]⟩
   ·simp[hg,cd]
    exact h2 _ _ _ ⟨rfl,by simp[hg]⟩
  ·rintro c0 dS b0 ⟨rfl,C8⟩
   simp only[ik]at C8
   simp at C8
   simp[C8]
   refine bt.mk (fun ag=>?_) (fun ag=>?_)
   ·simp at ag
    have ahG:k<=df:=by omega
    have Mx:IntKind.i64.wrap ((i:Int)+(k:Int))=((i+k:Nat):Int):=by rw[b7 (by omega) (by omega)];simp
    have aho:=h_.get k
    refine Exists.elim (⟨_,bB (show i+k<rp.length by omega)⟩:∃d,rp[i+k]?=some d) fun ou xy=>?_
    have LK:rp[i+k]?.getD 0=ou:=by rw[xy];rfl
    have ahY:ou<10000:=LK▸Eg.get (i+k)
    have Wg:IntKind.i64.wrap ((ou:Int)+(e1:Int))=((ou+e1:Nat):Int):=by rw[b7 (by omega) (by omega)];simp
    simp[dP,cS,Mx]
    refine cY (af:=dh) (xs:=rp) (n:=i+k) (a:=ou) (e:=3) (U:=1) (aC:=false) (by simpa using gx.row) (by simp) xy (by simp) (by simp) (by simp) (by decide) ?_
    rintro iD mL rfl
    simp[cd,Wg]
    have LS:hp*f_[k]?.getD 0<=9999*9999:=Nat.mul_le_mul (by omega) (by omega)
    refine ca.join (by kernel_rfl) (fun fi gE b8=>b8=b0/\fi 9= .int .i64 ((ou+e1+hp*f_[k]?.getD 0:Nat):Int)) ?_ ?_
    ·rintro y9 lM-
     simp[cS]
     refine cP (af:=dh) (xs:=f_) (by simpa using Dw) (by simp) ?_
     simp[<-jG]
     refine bt.b6 (fun q1=>?_) (fun q1=>?_)
     ·refine Exists.elim (⟨_,bB (show k<f_.length by omega)⟩:∃d,f_[k]?=some d) fun pA DM=>?_
      rw[DM]at LS
      simp at LS
      have EJ:IntKind.i64.wrap ((hp:Int)*(pA:Int))=((hp*pA:Nat):Int):=by
       rw[show(hp:Int)*(pA:Int)=((hp*pA:Nat):Int) by simp]
       exact b7 (by omega) (by omega)
      have mD:IntKind.i64.wrap (((ou:Int)+(e1:Int))+(hp:Int)*(pA:Int))=((ou+e1+hp*pA:Nat):Int):=by
       rw[show((ou:Int)+(e1:Int))+(hp:Int)*(pA:Int)=((ou+e1+hp*pA:Nat):Int) by simp]
       exact b7 (by omega) (by omega)
      simp[dP]
      refine cY (af:=dh) (xs:=fb) (n:=i) (a:=hp) (e:=3) (U:=1) (aC:=false) (by simpa using Ta) (by simp[dP]) k_ (by simp) (by simp) (by simp) (by decide) ?_
      rintro ns vM rfl
      simp[cS]
      refine cY (af:=dh) (xs:=f_) (n:=k) (a:=pA) (e:=3) (U:=1) (aC:=false) (by simpa using Dw) (by simp[cS]) DM (by simp) (by simp) (by simp) (by decide) ?_
      rintro p8 adA rfl
      simp[EJ,mD]
      exact lM _ _ _ ⟨rfl,by simp[DM]⟩
     ·have:f_[k]?=none:=List.getElem?_eq_none (by omega)
      try simp
      exact lM _ _ _ ⟨rfl,by simp[this]⟩
    ·rintro fi gE b8 ⟨rfl,ej⟩
     simp only[ik]at ej
     simp at ej
     refine Exists.elim (⟨_,rfl⟩:∃S,S=ou+e1+hp*f_[k]?.getD 0) fun S bM=>?_
     have Sq:fi 9= .int .i64 (S:Int):=by rw[ej,bM];simp
     have m9:(S:Int).tmod 10000=((S % 10000:Nat):Int):=rfl
     have lV:(S:Int).tdiv 10000=((S/10000:Nat):Int):=rfl
     have Wh:IntKind.i64.wrap ((S:Int)/10000)=(S:Int)/10000:=b7 (by omega) (by omega)
     have nh:IntKind.i64.wrap ((k:Int)+1)=((k+1:Nat):Int):=by rw[b7 (by omega) (by omega)];simp
     simp[dP,cS,Sq,Mx,m9,lV,Wh]
     refine kR (k:=H.length) (e:=3) (U:=1) (aC:=false) (n:=i+k) (af:=dh) (xs:=rp) (a:=S % 10000) (by simpa using gx) (by simp) (by omega) (by simp[dh]) (by simpa using kd _) (by simp) (fun _ _ _ _ _ h=>h) (by simp) (by simp) (by simp) (by decide) ?_
     rintro p9 eW eM c1 o0 qZ-
     simp at eM
     simp[cS,nh]
     have sM:=adI (aQ:=rp) (j:=i+k) (d:=S % 10000) (by omega)
     rw[LK]at sM
     have dd:=Y7 (X:=bq (f_.take k)) (b:=f_[k]?.getD 0) (d:=S % 10000) (dT:=S/10000) iB bM (by omega) sM
     rw[<-tp]at dd
     refine fA (df+1-(k+1)) _ _ _ (by omega) ⟨k+1,S/10000,rp.set (i+k) (S % 10000),rfl,by omega,by omega,fun he=>?_,by simp,by simp,c1 _ (Nat.le_refl _) bG,eM,by simp[LL],Eg.set (Nat.mod_lt _ (by decide)),dd⟩
     have UA:k=df:=by omega
     have xR:f_.take (k+1)=f_:=List.take_of_length_le (by omega)
     rw[xR,UA]at dd
     refine Y8 (A:=bq (fb.take i)) (B:=bq f_) (a:=hp) (i:=i) (df:=df) ?_ uD ?_ dd
     ·have:=rL (kG.take i)
      rw[List.length_take,Nat.min_eq_left (by omega)]at this
      exact this
     ·have:=rL h_
      rw[<-jG]at this
      exact this
   ·simp at ag
    have DR:e1=0:=by omega
    have xR:f_.take k=f_:=List.take_of_length_le (by omega)
    rw[DR,xR]at iB
    have iC:IntKind.i64.wrap ((i:Int)+1)=((i+1:Nat):Int):=by rw[b7 (by omega) (by omega)];simp
    simp[dP,iC]
    refine aX (c_-(i+1)) _ _ _ (by omega) ⟨i+1,rp,rfl,by omega,by simp,bG,gx,LL,Eg,?_⟩
    rw[tp,w9,Nat.add_mul,Nat.mul_assoc]
    simpa using iB
 ·have xR:fb.take i=fb:=List.take_of_length_le (by omega)
  rw[xR]at iQ
  have Lp:=p4 (s:=s1 !=s2) (aQ:=R) (a:=ll) (c:=ln) (H:=aR) (by rw[dI];exact fR.row) xx (by omega)
  rw[dI]at Lp
  simp
  refine aV.mk Lp ?_
  rintro u bP ⟨bG,hu⟩
  simp
  refine cN.mk hu.whole ?_
  simp[bd]
  refine aD _ _ ⟨bf.aw bG,?_⟩
  have e:x*y=fh (s1 !=s2) (bq R):=by
   rw[hC,iV,iQ]
   cases s1<;>cases s2<;>simp[fh,Int.neg_mul,Int.mul_neg]
  rw[e]
  exact hu
attribute [simp] pC
def P6(H:ab)(u:Value)(n:Nat):Prop:=∃a c aQ,u= .slice a aQ.length c/\jN H (.slice a aQ.length c) aQ/\eD aQ/\fU aQ/\bq aQ=n
theorem rC{s:Bool}{aQ:List Nat}{n:Nat}(h:(n:Int)=fh s (bq aQ))(bc:fU aQ)(ao:aQ=[]->s=false):s=false/\bq aQ=n:=by
 cases s with
 | false=>exact⟨rfl,by simp[fh]at h;omega⟩
 | true=>
  simp[fh]at h
  have aI:bq aQ=0:=by omega
  have:=ao (bc.zero.1 aI)
  cases this
theorem b2.aQ{aQ:List Nat}(h:eD aQ):b2 aQ.length (bq aQ:Int):=by
 unfold b2
 rw[Int.natAbs_natCast]
 exact rL h
theorem Jc{v:Value}{x:List Nat}{d:Nat}{H:ab}(bx:jN H v x)(J:eD x)(cJ:fU x)(ar:x.length<900000000)(aA:d<=10000):aP prog 97 [v,.int .i64 d] H (fun u H1=>Ext H H1/\P6 H1 u (bq x*d)):=by
 refine aP.b9 fun Q aD=>?_
 obtain⟨a,c,rfl⟩:=Row.len bx
 apply W7 (by simp)
 simp[HP]
 refine aV.mk (r2 (by omega) (by omega)) ?_
 rintro u H1 ⟨bw,hu⟩
 simp
 have so:eh H1 (.agg #[.bool false,.slice a x.length c]) (bq x):=⟨false,a,c,x,rfl,bx.ext bw,J,cJ,rfl,fun _=>rfl⟩
 refine aV.mk (tG (N:=x.length+5) so hu ((b2.aQ J).mono (by omega)) (b2.mono (b2.i64 (by omega) (by omega)) (by omega)) (by omega)) ?_
 rintro _ aR ⟨bf,s2,cA,cD,d2,rfl,gO,h_,hx,iV,lY⟩
 have aa:s2=false/\bq d2=bq x*d:=rC (by rw[<-iV];simp) hx lY
 have iz:d2.length<=x.length+5+(x.length+5):=b2.len (N:=x.length+5+(x.length+5)) (z:=(bq x:Int)*d) (b2.mul ((b2.aQ J).mono (by omega)) (b2.mono (b2.i64 (by omega) (by omega)) (by omega))) hx iV
 simp
 refine aV.mk (p4 gO h_ (by omega)) ?_
 rintro _ bP ⟨bG,l6,eB,eL,d3,rfl,m1,nT,ib,s4,En⟩
 rw[aa.1]at s4
 have aB:l6=false/\bq d3=bq d2:=rC (by rw[<-s4];simp[fh]) ib En
 simp[bd]
 exact aD _ _ ⟨bw.aw (bf.aw bG),eB,eL,d3,rfl,m1,nT,ib,by rw[aB.2,aa.2]⟩
theorem bH.pos{α:Type}{k e U:Nat}{aC:Bool}{af:ab->Value->α->Prop}{H:ab}{v:Value}{xs:List α}(h:bH k e U aC af H v xs)(J:0<xs.length):0<H.length:=by
 obtain⟨cs,⟨o,aa⟩,aB⟩:=h
 rcases aa with⟨aI,-⟩ | ⟨c,i,cap,l,all,aY,a3,bN,ck,eU,g9⟩
 ·omega
 ·have:=(cH.1 eU).1
  omega
theorem JS{a b q r:Int}(ag:0<b)(h:r+b*q=a)(aI:0<=r)(o:r<b):a.fdiv b=q/\a.fmod b=r:=by
 rw[Int.fdiv_eq_ediv_of_nonneg _ (by omega),Int.fmod_eq_emod_of_nonneg _ (by omega)]
 exact(Int.ediv_emod_unique ag).2 ⟨h,aI,o⟩
theorem fU.Fb{a b:List Nat}(aO:fU a)(ag:eD b)(h:bq a<=bq b):a.length<=b.length:=by
 by_cases ar:a.length<=b.length
 ·exact ar
 ·have:=aO.yh ag (by omega);omega
theorem Q2{X Q B af a bb S:Nat}(h:X=Q*B+af)(bM:S=a+10000*af)(g4:bb*B<=S):a+10000*X=(bb+10000*Q)*B+(S-bb*B):=by
 rw[Nat.add_mul,Nat.mul_assoc]
 omega
theorem Cy{v w:Value}{x y:Int}{N:Nat}{H:ab}(bx:eh H v x)(bE:eh H w y)(k4:b2 N x)(k5:b2 N y)(bQ:N<=100000000)(aK:0<y):aP prog 70 [v,w] H (fun u H1=>Ext H H1/\∃q r,u= .tuple #[q,r]/\eh H1 q (x.fdiv y)/\eh H1 r (x.fmod y)):=by
 refine aP.b9 fun Q aD=>?_
 have Se:=k4
 have Sf:=k5
 have sd:=bE
 obtain⟨s1,b1,cn,fb,rfl,eN,kG,k7,hC,fu⟩:=bx
 obtain⟨s2,cA,cD,f_,rfl,gO,h_,hx,iV,lY⟩:=bE
 have gh:=k4.len k7 hC
 have iz:=k5.len hx iV
 obtain⟨rfl,aii⟩:s2=false/\bq f_=y.natAbs:=rC (by rw[<-iV];omega) hx lY
 obtain⟨c_,kq⟩:∃c_,c_=fb.length:=⟨_,rfl⟩
 obtain⟨iv,zP⟩:∃iv,iv=bq f_:=⟨_,rfl⟩
 have Kk:0<iv:=by omega
 clear k4 k5
 apply WQ (by simp)
 simp[Hy]
 have br:Ext H (H++[.dead,.dead,.dead,.dead]):=Ext.more H (by simp)
 refine cP (af:=dh) (xs:=fb) (by simpa using eN.ext br) (by simp) ?_
 refine yM (e:=3) (U:=1) (bI:=8) (aC:=false) (n:=fb.length) (e4:= .i64) (c9:= .i64) (z:= .int .i64 0) (af:=dh) (a:=0) (by simp) (by simp) (by simp) (by rfl) (by rfl) (by simp) (kd 0) (by simp) (by simp) (by decide) (by decide) (by omega) (fun aH=>rfl) ?_
 intro ll ln H1 Dm EK
 have iN:=Dm.le (cb:=H.length) (by simp)
 have bw:=br.aw EK
 refine qg (e:=3) (U:=1) (by simp) (by simp) ?_
 simp
 refine cP (af:=dh) (xs:=fb) (by simpa using eN.ext bw) (by simp) ?_
 have mC:IntKind.i64.wrap ((fb.length:Int)-1)=(fb.length:Int)-1:=b7 (by omega) (by omega)
 simp[mC]
 refine dm.mk (by kernel_rfl) (fun m bR c5 aR=>∃(R:List Nat) (vA:Option Addr) (rc:Nat) (rs:List Nat),m<=fb.length/\bR 8= .int .i64 ((m:Int)-1)/\bR 7= .slice vA rs.length rc/\Ext H aR/\bH H.length 3 1 false dh aR (.slice ll fb.length ln) R/\R.length=fb.length/\eD R/\jN aR (.slice vA rs.length rc) rs/\eD rs/\fU rs/\bq rs<iv/\bq (R.take m)=0/\bq (fb.drop m)=bq (R.drop m)*iv+bq rs) fb.length ⟨List.replicate fb.length 0,some ⟨0,0,none⟩,0,[],Nat.le_refl _,by simp,by simp,bw,iN,by simp,fun d aA=>by rw[List.mem_replicate]at aA;omega,(bH.void 0 _ _ 0 _ _ _).row,eD.nil,fU.nil,by simpa[bq]using Kk,by rw[List.take_of_length_le (by simp),Gt],by rw[List.drop_of_length_le (by simp)];simp[bq]⟩ ?_
 rintro m bR c5 aR ⟨R,vA,rc,rs,hm,cS,cd,bf,fR,dI,xx,KG,Kn,oU,ah4,AB,AD⟩ K aX
 simp at cS cd
 simp[cS]
 refine bt.b6 (fun hy=>?_) (fun hy=>?_)
 ·refine Exists.elim (⟨m-1,by omega⟩:∃i:Nat,m=i+1) fun i ad=>?_
  have h4:(m:Int)-1=(i:Int):=by omega
  have iC:IntKind.i64.wrap ((i:Int)-1)=(i:Int)-1:=b7 (by omega) (by omega)
  refine Exists.elim (⟨_,bB (show i<fb.length by omega)⟩:∃d,fb[i]?=some d) fun hp k_=>?_
  have w9:fb[i]?.getD 0=hp:=by rw[k_];rfl
  have uD:hp<10000:=w9▸kG.get i
  have kJ:rs.length<=f_.length:=oU.Fb h_ (by omega)
  have Ln:=Ext.len bf
  rw[ad]at AD AB
  simp[cS,h4]
  refine cY (af:=dh) (xs:=fb) (n:=i) (a:=hp) (e:=3) (U:=1) (aC:=false) (by simpa using eN.ext bf) (by simp[cS,h4]) k_ (by simp) (by simp) (by simp) (by decide) ?_
  rintro fC ph rfl
  refine yL (e:=3) (U:=1) (aC:=false) (z:= .int .i64 0) (af:=dh) (a:=hp) (fun aH _=>by simp[dh]) (by simpa using kd _) (by simp) (by simp) (by simp) (by rfl) (by rfl) (by rfl) (by decide) (by decide) ?_
  intro v4 b0 kH cj
  simp[cd]
  refine OR (k:=aR.length) (e:=3) (U:=1) (aC:=false) (bI:=8) (z:= .int .i64 0) (af:=dh) (xs:=[hp]) (bS:=rs) (by simpa using kH) (by simpa[cd]using KG.ext cj) (fun u y h=>by rw[show u=_ from h];exact kd y) (fun aH dz u y ak h=>h) (by simp) (by simp) (by simp) (by simp) (by decide) (by rfl) (by rfl) (by rfl) (by decide) (by simp;omega) (by have:=Ext.len cj;omega) ?_
  intro afx agf b8 sh cR D6
  have mW:[hp].length+rs.length=(hp::rs).length:=by simp;omega
  rw[mW]at sh
  have o4:=cR _ (Nat.le_refl _) cj
  simp only[mW]
  simp
  refine aV.mk (M_ (s:=false) (aQ:=hp::rs) sh.row (fun d aA=>by
   rcases List.mem_cons.1 aA with rfl | aA
   ·exact uD
   ·exact Kn d aA) (by simp;omega)) ?_
  rintro _ dN ⟨cI,l6,eB,eL,d3,rfl,gx,nT,ib,s4,En⟩
  have m1:jN dN (.slice eB d3.length eL) d3:=gx.row
  have aB:l6=false/\bq d3=hp+10000*bq rs:=rC (by rw[<-s4];simp[fh,bq]) ib En
  have oS:bq d3<10000*iv:=by rw[aB.2];omega
  have ME:=bf.aw (o4.aw cI)
  have mx:d3.length<=f_.length+1:=by
   refine ib.len (n:=f_.length+1) ?_
   have:=rL h_
   rw[Nat.pow_succ,<-zP]at*
   omega
  simp
  refine dm.mk (by kernel_rfl) (fun w ly lz cU=>∃bb gp:Nat,w=gp-bb/\bb<gp/\gp<=10000/\ly 9= .int .i64 (bb:Int)/\ly 10= .int .i64 (gp:Int)/\Ext dN cU/\bb*iv<=bq d3/\bq d3<gp*iv) 10000 ⟨0,10000,by omega,by omega,by omega,by simp,by simp,Ext.refl _,by omega,oS⟩ ?_
  rintro w ly lz cU ⟨bb,gp,rfl,xu,Ur,ej,h9,cw,g4,h3⟩ PZ wR
  simp at ej h9
  have l2:IntKind.i64.wrap ((gp:Int)-(bb:Int))=(gp:Int)-(bb:Int):=b7 (by omega) (by omega)
  simp[ej,h9,l2]
  refine bt.b6 (fun oX=>?_) (fun oX=>?_)
  ·have jq:IntKind.i64.wrap ((bb:Int)+(gp:Int))=((bb+gp:Nat):Int):=by rw[b7 (by omega) (by omega)];simp
   have lV:((bb:Int)+(gp:Int)).tdiv 2=(((bb+gp)/2:Nat):Int):=by
    rw[show(bb:Int)+(gp:Int)=((bb+gp:Nat):Int) by simp];rfl
   refine Exists.elim (⟨(bb+gp)/2,rfl⟩:∃md,md=(bb+gp)/2) fun md Lv=>?_
   rw[<-Lv]at lV
   have iT:IntKind.i64.wrap (md:Int)=(md:Int):=b7 (by omega) (by omega)
   simp[ej,h9,jq,lV,iT]
   refine aV.mk (Jc (gO.ext (ME.aw cw)) h_ hx (by omega) (by omega)) ?_
   rintro _ eW ⟨c1,Qa,Qy,d9,rfl,Dx,Dd,ur,sQ⟩
   rw[<-zP]at sQ
   have UF:d9.length<=f_.length+1:=by
    refine ur.len (n:=f_.length+1) ?_
    have o:=rL h_
    have aa:iv*md<=iv*9999:=Nat.mul_le_mul_left _ (by omega)
    rw[sQ,Nat.pow_succ,<-zP]at*
    omega
   simp
   refine aV.mk (Ox Dx (m1.ext (cw.aw c1)) Dd nT ur ib (by omega) (by omega)) ?_
   rintro _ kX ⟨rfl,rfl⟩
   simp
   refine bt.b6 (fun ae=>?_) (fun ae=>?_)
   ·have hle:md*iv<=bq d3:=by
     rw[Nat.mul_comm,<-sQ]
     by_cases o:bq d9<bq d3
     ·omega
     ·rw[if_neg o]at ae
      by_cases aa:bq d9=bq d3
      ·omega
      ·rw[if_neg aa]at ae;omega
    simp
    exact wR (gp-md) _ _ _ (by omega) ⟨md,gp,rfl,by omega,Ur,by simp,by simp[h9],cw.aw c1,hle,h3⟩
   ·have a5:bq d3<md*iv:=by
     rw[Nat.mul_comm,<-sQ]
     by_cases o:bq d9<bq d3
     ·rw[if_pos o]at ae;omega
     ·by_cases aa:bq d9=bq d3
      ·rw[if_neg o,if_pos aa]at ae;omega
      ·omega
    simp
    exact wR (md-bb) _ _ _ (by omega) ⟨bb,md,rfl,by omega,by omega,by simp[ej],by simp,cw.aw c1,g4,a5⟩
  ·obtain rfl:gp=bb+1:=by omega
   have UM:bb<10000:=by omega
   have ia:=b3.ext (af:=bH H.length 3 1 false dh) fR (o4.aw (cI.aw cw))
   have x2:=ME.aw cw
   simp[cS,h4,ej]
   refine kR (k:=H.length) (e:=3) (U:=1) (aC:=false) (n:=i) (af:=dh) (xs:=R) (a:=bb) (by simpa using ia) (by simp[cS,h4]) (by omega) (by simp[dh,ej]) (by simpa[ej]using kd _) (by simp) (fun _ _ _ _ _ h=>h) (by simp) (by simp) (by simp) (by decide) ?_
   rintro p9 eW eM c1 o0 qZ-
   simp at eM o0
   have MC:=c1 _ (Nat.le_refl _) x2
   have S0:=b3.ext (af:=bH b8.length 3 1 false dh) gx cw
   have Lo:=Ext.len o4
   have ah0:0<b8.length:=sh.pos (by simp)
   have z1:jN eW (.slice eB d3.length eL) d3:=(S0.beside (by omega) o0 (fun b aI ag c8=>by
    have o:=(gx.ge ag aI).1
    have aa:=(fR.ge c8 aI).2
    omega) fun _ _ h=>h).row
   have Us:bq d3<(bb+1)*iv:=h3
   simp[ej]
   refine aV.mk (Jc (gO.ext MC) h_ hx (by omega) (by omega)) ?_
   rintro _ fJ ⟨dF,Qa,Qy,d9,rfl,Dx,Dd,ur,sQ⟩
   rw[<-zP,Nat.mul_comm]at sQ
   simp
   refine aV.mk (CA (z1.ext dF) Dx nT Dd (by omega) (by omega) (ur.Fb nT (by omega))) ?_
   rintro _ kX ⟨gI,afw,agd,d10,rfl,Dv,Sw,V3,ahH⟩
   simp
   refine aV.mk (p4 (s:=false) Dv Sw (by omega)) ?_
   rintro _ iJ ⟨fY,Z9,P8,Qv,d11,rfl,S_,Sx,KI,Wt,VC⟩
   have jf:Z9=false/\bq d11=bq d10:=rC (by rw[<-Wt];simp[fh]) KI VC
   have vc:=dF.aw (gI.aw fY)
   rw[Nat.succ_mul]at Us
   simp[cS,h4,iC]
   refine aX i _ _ _ (by omega) ⟨R.set i bb,P8,Qv,d11,by omega,by simp,by simp,MC.aw vc,b3.ext (af:=bH _ _ _ _ dh) eM vc,by simp[dI],xx.set UM,S_,Sx,KI,by omega,?_,?_⟩
   ·rw[List.take_set_of_le (Nat.le_refl i)]
    rw[tp]at AB
    omega
   ·rw[vO (aQ:=fb) (by omega),vO (aQ:=R.set i bb) (by simp;omega),w9,List.getElem?_set_self (by omega),List.drop_set_of_lt (by omega),jf.2,V3,sQ]
    exact Q2 AD aB.2 g4
 ·have m8:m=0:=by omega
  have LJ:bq fb=bq R*iv+bq rs:=by rw[m8]at AD;simpa using AD
  have kJ:rs.length<=f_.length:=oU.Fb h_ (by omega)
  have Ar:=p4 (s:=s1) (aQ:=R) (a:=ll) (c:=ln) (H:=aR) (by rw[dI];exact fR.row) xx (by omega)
  rw[dI]at Ar
  simp
  refine aV.mk Ar ?_
  rintro ZL bP ⟨bG,av⟩
  simp[cd]
  refine aV.mk (p4 (s:=false) (KG.ext bG) Kn (by omega)) ?_
  rintro _ b0 ⟨cj,qc,qA,qE,d4,rfl,si,Kl,uq,x7,AT⟩
  have bs:qc=false/\bq d4=bq rs:=rC (by rw[<-x7];simp[fh]) uq AT
  have KO:eh b0 (.agg #[.bool qc,.slice qA d4.length qE]) (bq rs):=⟨qc,qA,qE,d4,rfl,si,Kl,uq,by rw[bs.1,bs.2];rfl,AT⟩
  have EM:=bf.aw (bG.aw cj)
  simp
  refine cN.mk av.whole ?_
  simp
  have cR:Ext b0 (b0++[.dead,.dead]):=Ext.more b0 (by simp)
  refine ca.join (by kernel_rfl) (fun me oC dN=>dN=b0++[.dead,.dead]/\me 83= .bool (s1&&decide (0<d4.length))) ?_ ?_
  ·rintro cV dw-
   cases s1 with
   | false=>
    simp
    exact dw _ _ _ ⟨rfl,by simp⟩
   | true=>
    simp
    refine cP (af:=dh) (xs:=d4) (by simpa using si.ext cR) (by simp) ?_
    simp
    exact dw _ _ _ ⟨rfl,by simp⟩
  ·rintro me oC dN ⟨rfl,Db⟩
   simp only[ik]at Db
   simp at Db
   simp[Db]
   refine bt.mk (fun ag=>?_) (fun ag=>?_)
   ·have lR:s1=true/\0<d4.length:=by simpa using ag
    have ah5:0<bq rs:=by
     rcases Nat.eq_zero_or_pos (bq rs)with h | h
     ·rw[<-bs.2]at h
      have:=uq.zero.1 h
      rw[this]at lR
      simp at lR
     ·exact h
    have o5:=cR
    have RY:b2 (N+2) x:=Se.mono (by omega)
    have JN:b2 (N+2) y:=Sf.mono (by omega)
    have q6:bq R<=bq fb:=by
     have:bq R*1<=bq R*iv:=Nat.mul_le_mul_left _ Kk
     omega
    have R0:b2 (N+2) (fh s1 (bq R)):=RY.le (by rw[BI,hC,BI];exact q6)
    have R1:b2 (N+2) (bq rs:Int):=JN.le (by omega)
    simp
    refine aV.mk (r2 (v:=1) (by omega) (by omega)) ?_
    rintro u cU ⟨cw,hu⟩
    refine⟨cw,?_⟩
    simp
    refine aV.mk (CF (N:=N+2) (av.ext (cj.aw (cR.aw cw))) hu R0 (b2.small (by decide) (by omega)) (by omega)) ?_
    rintro _ eW ⟨c1,L2⟩
    refine⟨c1,?_⟩
    simp
    have rh:=cR.aw (cw.aw c1)
    refine aV.mk (CF (N:=N+2) (sd.ext (EM.aw rh)) (KO.ext rh) JN R1 (by omega)) ?_
    rintro _ fJ ⟨dF,L8⟩
    simp
    refine cN.mk L2.whole ?_
    simp
    refine cN.mk L8.whole ?_
    simp[bd]
    have Wn:=EM.aw (rh.aw dF)
    have he:x= -((bq R*iv+bq rs:Nat):Int):=by rw[hC,lR.1,LJ];rfl
    have EZ:y=(iv:Int):=by omega
    have pP:x.fdiv y=fh s1 (bq R)-1/\x.fmod y=y-(bq rs:Int):=by
     refine JS aK ?_ (by omega) (by omega)
     rw[he,lR.1,EZ]
     simp only[fh,if_true,Int.natCast_add,Int.natCast_mul]
     rw[Int.mul_sub,Int.mul_neg,Int.mul_comm (iv:Int)]
     omega
    exact aD _ _ ⟨Wn,_,_,rfl,by rw[pP.1];exact L2.ext dF,by rw[pP.2];exact L8⟩
   ·have lR:s1=false\/d4.length=0:=by
     cases s1 with
     | false=>exact .inl rfl
     | true=>simp at ag;exact .inr (by simp[ag])
    simp
    refine cN.mk av.whole ?_
    simp[bd]
    have EZ:y=(iv:Int):=by omega
    have pP:x.fdiv y=fh s1 (bq R)/\x.fmod y=(bq rs:Int):=by
     refine JS aK ?_ (by omega) (by omega)
     rw[hC,LJ,EZ]
     rcases lR with h | h
     ·rw[h]
      simp only[fh,Bool.false_eq_true,if_false,Int.natCast_add,Int.natCast_mul]
      rw[Int.mul_comm (iv:Int)]
      omega
     ·have gR:bq rs=0:=by
       rw[<-bs.2,List.eq_nil_of_length_eq_zero h];rfl
      rw[gR]
      cases s1
      ·simp only[fh,Bool.false_eq_true,if_false,Int.natCast_add,Int.natCast_mul]
       rw[Int.mul_comm (iv:Int)]
       simp
      ·simp only[fh,if_true,Int.natCast_add,Int.natCast_mul]
       rw[Int.mul_neg,Int.mul_comm (iv:Int)]
       simp
    exact aD _ _ ⟨EM.aw cR,_,_,rfl,by rw[pP.1];exact av.ext (cj.aw cR),by rw[pP.2];exact KO.ext cR⟩
theorem I1{v w:Value}{x y:Int}{N:Nat}{H:ab}(bx:eh H v x)(bE:eh H w y)(k4:b2 N x)(k5:b2 N y)(bQ:N<=100000000):aP prog 69 [v,w] H (fun u H1=>Ext H H1/\eh H1 u (Int.gcd x y:Nat)):=by
 refine aP.b9 fun Q aD=>?_
 have wH:=bx
 have sd:=bE
 obtain⟨s1,b1,cn,d1,rfl,-⟩:=wH
 obtain⟨s2,cA,cD,d2,rfl,-⟩:=sd
 apply WR (by simp)
 simp[Hz]
 have br:Ext H (H++[.dead,.dead,.dead]):=Ext.more H (by simp)
 refine aV.mk (IW (bx.ext br)) ?_
 rintro u H1 ⟨bw,hu⟩
 refine⟨bw,?_⟩
 try simp
 refine aV.mk (IW (bE.ext (br.aw bw))) ?_
 rintro w aR ⟨bf,hw⟩
 try simp
 refine cN.mk hu.whole ?_
 try simp
 refine cN.mk hw.whole ?_
 try simp
 have ks:=br.aw (bw.aw bf)
 refine dm.mk (by kernel_rfl) (fun m dt ez bP=>∃p q:Nat,m=q/\Ext aR bP/\eh bP (ez 2) p/\eh bP (ez 3) q/\Nat.gcd p q=Int.gcd x y/\b2 N p/\b2 N q) y.natAbs ⟨x.natAbs,y.natAbs,rfl,Ext.refl _,by simpa using hu.ext bf,by simpa using hw,rfl,k4.le (by simp),k5.le (by simp)⟩ ?_
 rintro m dt ez bP ⟨p,q,rfl,bG,a2,av,aU,R9,CZ⟩ K aX
 have Vi:=av
 obtain⟨qc,qA,qE,d4,nU,si,Kl,uq,x7,AT⟩:=Vi
 simp at nU a2 av
 simp[nU]
 refine cP (af:=dh) (xs:=d4) (by simpa using si) (by simp) ?_
 try simp
 have bs:=rC (n:=m) x7 uq AT
 refine bt.b6 (fun a5=>?_) (fun a5=>?_)
 ·have Vp:(0:Int)<(m:Int):=by
   rcases Nat.eq_zero_or_pos m with h | h
   ·rw[<-bs.2]at h
    have:=uq.zero.1 h
    rw[this]at a5
    simp at a5
   ·omega
  try simp
  refine aV.mk (Cy a2 av R9 CZ bQ Vp) ?_
  rintro _ b8 ⟨cR,ZL,aiK,rfl,Vr,AS⟩
  have Uh:((p:Int)).fmod (m:Int)=((p % m:Nat):Int):=by
   rw[Int.fmod_eq_emod_of_nonneg _ (by omega)];rfl
  rw[Uh]at AS
  try simp
  refine cN.mk Vr.whole ?_
  try simp
  refine cN.mk AS.whole ?_
  try simp
  refine cN.mk av.whole ?_
  try simp
  refine cN.mk AS.whole ?_
  try simp
  have fj:Ext b8 (b8++[.dead,.dead]):=Ext.more b8 (by simp)
  have q1:p % m<m:=Nat.mod_lt _ (by omega)
  refine aX (p % m) _ _ _ q1 ⟨m,p % m,rfl,bG.aw (cR.aw fj),?_,by simpa using AS.ext fj,?_,CZ,CZ.le (by omega)⟩
  ·simpa using av.ext (cR.aw fj)
  ·rw[<-aU,Nat.gcd_comm p m,Nat.gcd_rec m p,Nat.gcd_comm]
 ·have m8:m=0:=by
   have:d4=[]:=List.eq_nil_of_length_eq_zero (by omega)
   rw[<-bs.2,this];rfl
  have AJ:p=Int.gcd x y:=by rw[<-aU,m8];simp
  try simp
  refine cN.mk a2.whole ?_
  simp[bd]
  exact aD _ _ ⟨ks.aw bG,by rw[<-AJ];exact a2⟩
def g0(H:ab)(v:Value)(n d:Int):Prop:=∃s1 b1 cT cn s2 cA c2 cD,v= .agg #[.bool s1,.slice b1 cT cn,.bool s2,.slice cA c2 cD]/\eh H (.agg #[.bool s1,.slice b1 cT cn]) n/\eh H (.agg #[.bool s2,.slice cA c2 cD]) d
theorem g0.ext{H H1:ab}{v:Value}{n d:Int}(h:g0 H v n d)(J:Ext H H1):g0 H1 v n d:=by
 obtain⟨s1,b1,cT,cn,s2,cA,c2,cD,e,o,aa⟩:=h
 exact⟨s1,b1,cT,cn,s2,cA,c2,cD,e,o.ext J,aa.ext J⟩
theorem g0.whole{H:ab}{v:Value}{n d:Int}(h:g0 H v n d):Whole prog 42 v:=by
 obtain⟨s1,b1,cT,cn,s2,cA,c2,cD,rfl,-⟩:=h
 exact⟨by rfl,by simp[Value.cells,Value.oneCell'],by simp[e3]⟩
theorem eh.shape{H:ab}{v:Value}{z:Int}(h:eh H v z):∃s a n c,v= .agg #[.bool s,.slice a n c]:=by
 obtain⟨s,a,c,aQ,h,-⟩:=h
 exact⟨_,_,_,_,h⟩
theorem BU{d:Nat}{x y:Operand}{r:List bF}{F:Fr}{H:ab}{Q:Fr->ab->Prop}{n m:Int}{ax:ba (dC d 42 [(0,x),(1,y)]::r) Q}(J:eh H (aq F x) n)(aK:eh H (aq F y) m)
  (K:∀u,g0 H u n m->a_ prog r Q .mk (a1 F d u) H):a_ prog (dC d 42 [(0,x),(1,y)]::r) Q ax F H:=by
 obtain⟨s1,b1,cT,cn,an⟩:=J.shape
 obtain⟨s2,cA,c2,cD,hw⟩:=aK.shape
 have:=K _ ⟨s1,b1,cT,cn,s2,cA,c2,cD,rfl,an▸J,hw▸aK⟩
 simp[an,hw]
 exact this
attribute [-simp] qB
theorem zp{n:Int}{H:ab}(o: -9223372036854775808<=n)(aa:n<9223372036854775808):aP prog 19 [.int .i64 n] H (fun u H1=>Ext H H1/\g0 H1 u n 1):=by
 refine aP.b9 fun Q aD=>?_
 apply W1 (by simp)
 simp[HJ]
 have br:=Ext.dead H
 refine aV.mk (r2 o aa) ?_
 rintro u H1 ⟨bw,hu⟩
 try simp
 refine aV.mk (r2 (v:=1) (by omega) (by omega)) ?_
 rintro w aR ⟨bf,hw⟩
 try simp
 refine BU (n:=n) (m:=1) (by simpa using hu.ext bf) (by simpa using hw) ?_
 intro q av
 try simp
 refine cN.mk av.whole ?_
 simp[bd]
 exact aD _ _ ⟨br.aw (bw.aw bf),av⟩
theorem IY{v w:Value}{cT d1 c2 d2:Int}{N:Nat}{H:ab}(bx:g0 H v cT d1)(bE:g0 H w c2 d2)(f1:b2 N cT)(f2:b2 N d1)(f3:b2 N c2)(f4:b2 N d2)(bQ:N<=1000000000):aP prog 26 [v,w] H (fun u H1=>Ext H H1/\g0 H1 u (cT*d2+c2*d1) (d1*d2)):=by
 refine aP.b9 fun Q aD=>?_
 obtain⟨s1,b1,Bb,cn,s2,cA,Bc,cD,rfl,lW,ic⟩:=bx
 obtain⟨l6,eB,Yz,eL,qc,qA,YA,qE,rfl,lX,lT⟩:=bE
 apply WM (by simp)
 simp[Hv]
 have br:Ext H (H++[.dead,.dead,.dead]):=Ext.more H (by simp)
 refine aV.mk (tG (lW.ext br) (lT.ext br) f1 f4 bQ) ?_
 rintro u H1 ⟨bw,hu⟩
 refine⟨bw,?_⟩
 try simp
 have oi:=br.aw bw
 refine aV.mk (tG (lX.ext oi) (ic.ext oi) f3 f2 bQ) ?_
 rintro w aR ⟨bf,hw⟩
 refine⟨bf,?_⟩
 try simp
 refine aV.mk (IX (N:=N+N) (hu.ext bf) hw (f1.mul f4) (f3.mul f2) (by omega)) ?_
 rintro z bP ⟨bG,aN⟩
 refine⟨bG,?_⟩
 try simp
 have l3:=oi.aw (bf.aw bG)
 refine aV.mk (tG (ic.ext l3) (lT.ext l3) f2 f4 bQ) ?_
 rintro y b0 ⟨cj,aK⟩
 try simp
 refine BU (n:=cT*d2+c2*d1) (m:=d1*d2) (by simpa using aN.ext cj) (by simpa using aK) ?_
 intro q av
 try simp
 refine cN.mk av.whole ?_
 simp[bd]
 exact aD _ _ ⟨l3.aw cj,av⟩
theorem Qc{v w:Value}{cT d1 c2 d2:Int}{N:Nat}{H:ab}(bx:g0 H v cT d1)(bE:g0 H w c2 d2)(f1:b2 N cT)(f2:b2 N d1)(f3:b2 N c2)(f4:b2 N d2)(bQ:N<=1000000000):aP prog 17 [v,w] H (fun u H1=>Ext H H1/\u= .int .i64 (if cT*d2<c2*d1 then-1 else if cT*d2=c2*d1 then 0 else 1)):=by
 refine aP.b9 fun Q aD=>?_
 obtain⟨s1,b1,Bb,cn,s2,cA,Bc,cD,rfl,lW,ic⟩:=bx
 obtain⟨l6,eB,Yz,eL,qc,qA,YA,qE,rfl,lX,lT⟩:=bE
 apply WO (by simp)
 simp[Hx]
 have br:Ext H (H++[.dead,.dead]):=Ext.more H (by simp)
 refine aV.mk (tG (lW.ext br) (lT.ext br) f1 f4 bQ) ?_
 rintro u H1 ⟨bw,hu⟩
 refine⟨bw,?_⟩
 try simp
 have oi:=br.aw bw
 refine aV.mk (tG (lX.ext oi) (ic.ext oi) f3 f2 bQ) ?_
 rintro w aR ⟨bf,hw⟩
 try simp
 refine aV.mk (Cx (N:=N+N) (hu.ext bf) hw (f1.mul f4) (f3.mul f2) (by omega)) ?_
 rintro z bP ⟨bG,rfl⟩
 simp[bd]
 exact aD _ _ ⟨oi.aw (bf.aw bG),rfl⟩
theorem Ql{v:Value}{n d:Int}{N:Nat}{H:ab}(bx:g0 H v n d)(aA:0<d)(f1:b2 N n)(f2:b2 N d)(bQ:N<=100000000):aP prog 43 [v] H (fun u H1=>Ext H H1/\g0 H1 u (Rat.divInt n d).num (Rat.divInt n d).den):=by
 refine aP.b9 fun Q aD=>?_
 obtain⟨s1,b1,Bb,cn,s2,cA,Bc,cD,rfl,lW,ic⟩:=bx
 apply WT (by simp)
 simp[HB]
 have br:Ext H (H++[.dead,.dead]):=Ext.more H (by simp)
 have xj:0<Int.gcd n d:=Int.gcd_pos_of_ne_zero_right _ (by omega)
 have D0:Int.gcd n d<=d.natAbs:=Nat.le_of_dvd (by omega) (Int.gcd_dvd_natAbs_right n d)
 have qK:b2 N (Int.gcd n d:Nat):=f2.le (by simpa using D0)
 refine aV.mk (I1 (lW.ext br) (ic.ext br) f1 f2 bQ) ?_
 rintro u H1 ⟨bw,hu⟩
 try simp
 refine cN.mk hu.whole ?_
 try simp
 have EV:=Ext.dead H1
 have oi:=br.aw (bw.aw EV)
 refine aV.mk (Cy (lW.ext oi) (hu.ext EV) f1 qK bQ (by omega)) ?_
 rintro _ aR ⟨bf,aY,ee,rfl,xF,q8⟩
 try simp
 refine cN.mk xF.whole ?_
 try simp
 refine cN.mk q8.whole ?_
 try simp
 have MP:Ext aR (aR++[.dead,.dead]):=Ext.more aR (by simp)
 have gi:=bf.aw MP
 refine aV.mk (Cy (ic.ext (oi.aw gi)) (hu.ext (EV.aw gi)) f2 qK bQ (by omega)) ?_
 rintro _ bP ⟨bG,a3,fF,rfl,ob,na⟩
 try simp
 refine cN.mk ob.whole ?_
 try simp
 refine cN.mk na.whole ?_
 try simp
 have EW:Ext bP (bP++[.dead,.dead]):=Ext.more bP (by simp)
 have o:=zD n d.natAbs (by omega)
 have K3:((d.natAbs:Nat):Int)=d:=by omega
 rw[K3]at o
 have bm:n.fdiv (Int.gcd n d:Nat)=(Rat.divInt n d).num:=by
  rw[o.1,Int.fdiv_eq_ediv_of_nonneg _ (by omega)];rfl
 have bk:d.fdiv (Int.gcd n d:Nat)=((Rat.divInt n d).den:Int):=by
  rw[o.2,Int.fdiv_eq_ediv_of_nonneg _ (by omega),Int.natCast_ediv,K3];rfl
 rw[bm]at xF
 rw[bk]at ob
 refine BU (n:=(Rat.divInt n d).num) (m:=(Rat.divInt n d).den) (by simpa using xF.ext (MP.aw (bG.aw EW))) (by simpa using ob.ext EW) ?_
 intro q av
 try simp
 refine cN.mk av.whole ?_
 simp[bd]
 exact aD _ _ ⟨oi.aw (gi.aw (bG.aw EW)),av⟩
end Go.cW
end
section
set_option maxRecDepth 8000
set_option maxHeartbeats 1000000
namespace Go.cW
open Go.Proofs
open Go.Proofs.Tryz (prog)
attribute [-simp] hF iq ka
theorem eh.zero(H:ab):eh H (.agg #[.bool false,.slice none 0 0]) 0:=⟨false,none,0,[],rfl,Row.nil _ _ _ _ _,eD.nil,fU.nil,rfl,fun _=>rfl⟩
theorem Rz{l:List Nat}{k bb n:Nat}{aQ:List Nat}(g4:bb<=k)(ak:k<=l.length)(bs:bb=0\/k=bb+4)(aG:aQ.length=n)(h:dE l=dE (l.take k)*10000^n+bq aQ):dE l=dE (l.take bb)*10000^(n+1)+bq (aQ++[dE ((l.drop bb).take (k-bb))]):=by
 have e:l.take k=l.take bb++(l.drop bb).take (k-bb):=by
  have:=List.take_append_drop bb (l.take k)
  rw[List.take_take,Nat.min_eq_left g4,List.drop_take]at this
  exact this.symm
 have gz:((l.drop bb).take (k-bb)).length=k-bb:=by simp;omega
 rw[h,e,zE,gz,vP,aG,Nat.add_mul]
 rcases bs with rfl | rfl
 ·simp[dE,Nat.mul_comm];omega
 ·have bm:10000^(n+1)=10000^n*10000:=by rw[Nat.pow_succ]
  have bk:(10:Nat)^4=10000:=by decide
  rw[show bb+4-bb=4 by omega,bm,bk]
  generalize 10000^n=P
  generalize dE (l.take bb)=X
  generalize dE ((l.drop bb).take 4)=C
  rw[Nat.mul_comm C P,Nat.mul_assoc,Nat.mul_comm 10000 P]
  omega
theorem JC{l:List Nat}{H:ab}(ar:Bytes l)(hlen:l.length<4611686018427387904):
  aP prog 80 [.string (cg l)] H (fun u H1=>Ext H H1/\∃v z,u= .tuple #[v,.bool (decide (hK l))]/\eh H1 v z/\(hK l->z=dE l)/\(¬hK l->z=0)):=by
 refine aP.b9 fun Q aD=>?_
 apply W2 (by simp)
 simp[HK]
 have br:Ext H (H++[.dead]):=Ext.dead H
 have fail:∀nF,Ext H nF->¬hK l->Q (.tuple #[.agg #[.bool false,.slice none 0 0],.bool false]) nF:=fun nF J g5=>aD _ _ ⟨J,_,0,by rw[decide_eq_false g5],eh.zero _,fun h=>absurd h g5,fun _=>rfl⟩
 refine ca.join (by kernel_rfl) (fun ay bD H1=>H1=H++[.dead]/\∃b,ay 25= .bool b/\(b=false↔(l≠[]/\¬(l.head?=some 48/\1<l.length)/\l.length<=4000))) ?_ ?_
 ·rintro K aX-
  simp
  refine iF (l:=l) (by simp) (by rfl) ?_
  by_cases aI:l.length<1
  ·have hs:((l.length:Int)<1)=True:=by simp;omega
   simp[hs]
   refine aX _ _ _ ⟨rfl,true,by simp,?_⟩
   have:l=[]:=List.eq_nil_of_length_eq_zero (by omega)
   simp[this]
  ·have hs:((l.length:Int)<1)=False:=by simp;omega
   have cQ:l≠[]:=by rintro rfl;simp at aI
   simp[hs]
   refine iF (l:=l) (by simp) (by rfl) ?_
   by_cases o:4000<l.length
   ·have bm:((4000:Int)<(l.length:Int))=True:=by simp;omega
    simp[bm]
    refine aX _ _ _ ⟨rfl,true,by simp,?_⟩
    simp;omega
   ·have bm:((4000:Int)<(l.length:Int))=False:=by simp;omega
    simp[bm]
    refine oz (n:=0) (nn:= .i64) (l:=l) (by simp) ar (by simp) (by omega) (by rfl) ?_
    have su:l.head?=some (l[0]?.getD 0):=by
     rw[List.head?_eq_getElem?,bB (by omega)];rfl
    by_cases aa:l[0]?.getD 0=48
    ·have bk:(((l[0]?.getD 0:Nat):Int)=48)=True:=by simp;omega
     simp[bk]
     refine iF (l:=l) (by simp) (by rfl) ?_
     simp
     refine aX _ _ _ ⟨rfl,decide (1<l.length),by simp;omega,?_⟩
     rw[su,aa]
     simp[cQ];omega
    ·have bk:(((l[0]?.getD 0:Nat):Int)=48)=False:=by simp;omega
     simp[bk]
     refine aX _ _ _ ⟨rfl,false,by simp,?_⟩
     rw[su]
     simp[cQ,aa];omega
 rintro ay bD H1 ⟨rfl,b,tY,ag⟩
 simp at tY
 simp[tY]
 refine bt.mk (fun jU=>?_) (fun jU=>?_)
 ·simp[bd]
  refine fail _ br fun h=>?_
  rw[ag.2 ⟨h.2.1,h.2.2.1,h.2.2.2⟩]at jU
  cases jU
 have iA:=ag.1 jU
 simp
 refine iF (l:=l) (by simp) (by rfl) ?_
 simp
 refine dm.mk (by kernel_rfl) (fun m bR c5 aR=>∃(k:Nat) (a:Int) (aQ:List Nat) (ep:Option Addr) (eG:Nat),m=k/\k<=l.length/\bR 5= .int .i64 a/\(0<a->a=k)/\(a<=0->k=0)/\ -4<=a/\c5 4= .agg #[.bool false,.slice ep aQ.length eG]/\bH H.length 3 1 false dh aR (.slice ep aQ.length eG) aQ/\eD aQ/\(∀c∈l.drop k,hJ c)/\dE l=dE (l.take k)*10000^aQ.length+bq aQ/\Ext H aR/\aQ.length<=l.length-k) l.length ⟨l.length,l.length,[],none,0,rfl,Nat.le_refl _,by simp,fun _=>rfl,by omega,by omega,by simp,bH.nil _ _ _ _ _ _,eD.nil,by simp,by simp[bq],Ext.more H (by simp),by simp⟩ ?_
 rintro m bR c5 aR ⟨k,a,aQ,ep,eG,rfl,ak,bJ,TH,TI,ahi,zS,cy,eH,qV,an,bf,jE⟩ K aX
 simp at bJ zS
 simp[bJ]
 refine bt.b6 (fun KP=>?_) (fun KP=>?_)
 ·have ahj:=TH KP
  refine Exists.elim (⟨m-4,rfl⟩:∃bb,bb=m-4) fun bb g4=>?_
  have ahT:(if(a-4)>0 then(a-4)else 0)=(bb:Int):=by split<;>omega
  have UT:(if(0:Int)<a-4 then a-4 else 0)=(bb:Int):=by split<;>omega
  have Lu:(if 4<a then a-4 else 0)=(bb:Int):=by split<;>omega
  have l2:IntKind.i64.wrap (a-4)=a-4:=b7 (by omega) (by omega)
  simp[bJ,l2,UT,Lu]
  refine dm.mk (by kernel_rfl) (fun w dt ez bP=>∃i:Nat,w=m-i/\bb<=i/\i<=m/\dt 7= .int .i64 (i:Int)/\bP=aR/\(∀c∈(l.drop bb).take (i-bb),hJ c)/\dt 6= .int .i64 (dE ((l.drop bb).take (i-bb)):Nat)) (m-bb) ⟨bb,rfl,Nat.le_refl _,by omega,by simp[Lu],rfl,by simp,by simp[dE]⟩ ?_
  rintro w dt ez bP ⟨i,rfl,Aq,oY,cd,rfl,uO,dP⟩ mg fA
  simp at cd dP
  have Uv:((i:Int)<a)=(i<m):=by simp;omega
  simp[bJ,cd,Uv]
  have gg:i-bb<=4:=by omega
  have Ej:(10:Nat)^(i-bb)<=10^4:=Nat.pow_le_pow_right (by decide) gg
  have jC:=qI uO
  have gz:((l.drop bb).take (i-bb)).length=i-bb:=by simp;omega
  rw[gz]at jC
  refine bt.b6 (fun a5=>?_) (fun a5=>?_)
  ·have cC:i<l.length:=by omega
   refine Exists.elim (⟨_,rfl⟩:∃c,c=l[i]?.getD 0) fun c ae=>?_
   have ahs:c<256:=by
    rw[ae,bB cC]
    exact ar _ (List.getElem_mem cC)
   have T2:(l.drop bb)[i-bb]?.getD 0=c:=by rw[List.getElem?_drop,show bb+(i-bb)=i by omega,ae]
   try simp
   refine ca.join (by kernel_rfl) (fun c0 dS b0=>b0=bP/\c0 51= .bool (decide (¬hJ c))) ?_ ?_
   ·rintro cV dw-
    simp[cd]
    refine oz (n:=i) (nn:= .i64) (l:=l) (by simp) ar (by simp[cd]) cC (by rfl) ?_
    rw[<-ae]
    rcases Nat.lt_or_ge c 48 with o | o
    ·have bm:((c:Int)<48)=True:=by simp;omega
     simp[bm]
     refine dw _ _ _ ⟨rfl,?_⟩
     simp[hJ];omega
    ·have bm:((c:Int)<48)=False:=by simp;omega
     simp[bm,cd]
     refine oz (n:=i) (nn:= .i64) (l:=l) (by simp) ar (by simp[cd]) cC (by rfl) ?_
     rw[<-ae]
     rcases Nat.lt_or_ge 57 c with aa | aa
     ·have bk:((57:Int)<c)=True:=by simp;omega
      simp[bk]
      refine dw _ _ _ ⟨rfl,?_⟩
      simp[hJ];omega
     ·have bk:((57:Int)<c)=False:=by simp;omega
      simp[bk]
      refine dw _ _ _ ⟨rfl,?_⟩
      simp[hJ];omega
   ·rintro c0 dS b0 ⟨rfl,C_⟩
    simp only[ik]at C_
    simp at C_
    simp[C_]
    refine bt.b6 (fun aU=>?_) (fun aU=>?_)
    ·have Ad:48<=c/\c<=57:=aU
     refine Exists.elim (⟨_,rfl⟩:∃D,D=dE ((l.drop bb).take (i-bb))) fun D wL=>?_
     rw[<-wL]at dP jC
     have wM:D<1000:=by
      have:(10:Nat)^(i-bb)<=10^3:=Nat.pow_le_pow_right (by decide) (by omega)
      omega
     have mD:IntKind.u8.wrap ((c:Int)-48)=((c-48:Nat):Int):=by rw[B_ (by omega) (by omega)];omega
     have vb:IntKind.i64.wrap (10*(D:Int))=10*(D:Int):=b7 (by omega) (by omega)
     have Wd:IntKind.i64.wrap ((c-48:Nat):Int)=((c-48:Nat):Int):=b7 (by omega) (by omega)
     have Wb:IntKind.i64.wrap (10*(D:Int)+((c-48:Nat):Int))=10*(D:Int)+((c-48:Nat):Int):=b7 (by omega) (by omega)
     have iC:IntKind.i64.wrap ((i:Int)+1)=((i+1:Nat):Int):=by rw[b7 (by omega) (by omega)];simp
     simp[dP,cd,vb]
     refine oz (n:=i) (nn:= .i64) (l:=l) (by simp) ar (by simp[cd]) cC (by rfl) ?_
     rw[<-ae]
     simp[cd,mD,Wd,Wb,iC]
     refine fA (m-(i+1)) _ _ _ (by omega) ⟨i+1,rfl,by omega,by omega,by simp,rfl,?_,?_⟩
     ·rw[show i+1-bb=(i-bb)+1 by omega,List.take_add_one]
      intro dT gQ
      rcases List.mem_append.1 gQ with gQ | gQ
      ·exact uO dT gQ
      ·rw[List.getElem?_drop,show bb+(i-bb)=i by omega,bB cC]at gQ
       simp at gQ
       have:c=l[i]:=by rw[ae,bB cC];rfl
       rw[gQ,<-this];exact aU
     ·rw[show i+1-bb=(i-bb)+1 by omega,JH (by simp;omega),T2,<-wL]
      simp;omega
    ·simp[bd]
     refine fail _ bf fun h=>aU ?_
     have:c∈l:=by
      rw[ae,bB cC]
      exact List.getElem_mem cC
     exact h.1 c this
  ·have Uu:i=m:=by omega
   rw[Uu]at uO jC dP
   refine Exists.elim (⟨_,rfl⟩:∃D,D=dE ((l.drop bb).take (m-bb))) fun D wL=>?_
   rw[<-wL]at dP jC
   have ah2:(10:Nat)^(m-bb)<=10^4:=Nat.pow_le_pow_right (by decide) (by omega)
   have wM:D<10000:=by
    have:(10:Nat)^4=10000:=by decide
    omega
   have j5:=Ext.len bf
   simp[zS,dP]
   refine yO (k:=H.length) (e:=3) (U:=1) (aC:=false) (bI:=8) (z:= .int .i64 0) (af:=dh) (xs:=aQ) (a:=D) (by simpa using cy) (by simp[dh,dP]) (by simpa[dP]using kd _) (by simp) (fun _ _ _ _ _ h=>h) (by simp) (by simp) (by simp) (by simp) (by simp) (by rfl) (by rfl) (by rfl) (by rfl) (by decide) (by decide) (by decide) (by omega) (by omega) ?_
   intro ns v_ wo dN jA cI sA
   simp[zS,bJ,l2]
   refine aX bb _ _ _ (by omega) ⟨bb,a-4,aQ++[D],v_,wo,rfl,by omega,by simp,fun h=>by omega,fun h=>by omega,by omega,by simp,by simpa using jA,eH.snoc wM,?_,?_,cI _ (Nat.le_refl _) bf,by simp;omega⟩
   ·intro dT gQ
    have e:l.drop bb=(l.drop bb).take (m-bb)++l.drop m:=by
     have:=List.take_append_drop (m-bb) (l.drop bb)
     rw[List.drop_drop,show bb+(m-bb)=m by omega]at this
     exact this.symm
    rw[e]at gQ
    rcases List.mem_append.1 gQ with gQ | gQ
    ·exact uO dT gQ
    ·exact qV dT gQ
   ·rw[List.length_append,List.length_singleton,wL]
    exact Rz (by omega) ak (by omega) rfl an
 ·have sy:=TI (by omega)
  rw[sy]at qV an
  simp[dE]at qV
  have Km:hK l:=⟨qV,iA⟩
  simp[zS]
  refine aV.mk (p4 (s:=false) cy.row eH (by omega)) ?_
  rintro u bP ⟨bG,hu⟩
  simp
  refine cN.mk hu.whole ?_
  simp[bd]
  refine aD _ _ ⟨bf.aw bG,_,_,by rw[decide_eq_true Km],hu,fun _=>?_,fun h=>absurd Km h⟩
  rw[an]
  simp[fh,dE]
def f4(d:Nat):List Nat:=[48+d/1000,48+d/100 % 10,48+d/10 % 10,48+d % 10]
theorem RC(l:List Nat)(c:Nat):dE (l++[c])=dE l*10+(c-48):=by
 rw[zE];simp[dE]
theorem I2{v:Value}{n d:Int}{N:Nat}{q:Rat}{H:ab}(av:q=Rat.divInt n d)(bx:g0 H v n d)(aA:0<d)(f1:b2 N n)(f2:b2 N d)(bQ:N<=100000000):aP prog 43 [v] H (fun u H1=>Ext H H1/\g0 H1 u q.num q.den):=by
 subst av
 exact Ql bx aA f1 f2 bQ
theorem Ju{c:Nat}{l u:List Nat}(h:(db c l).2=some u):l.take (db c l).1.length=(db c l).1/\l.drop ((db c l).1.length+1)=u/\(db c l).1.length<l.length:=by
 have e:=tP h
 obtain⟨R,aM⟩:∃R,R=(db c l).1:=⟨_,rfl⟩
 rw[<-aM]at e⊢
 rw[e]
 simp
theorem Jv{c:Nat}{l:List Nat}(h:(db c l).2=none):(db c l).1.length=l.length:=by rw[tO h]
theorem NQ(l:List Nat):(db 47 (ju 45 l)).1=g3 l/\(db 47 (ju 45 l)).2=kz l/\decide (l.head?=some 45)=lk l:=by
 unfold g3 kz lk rr ju
 cases l with
 | nil=>simp[db]
 | cons c r=>
  by_cases h:c=45
  ·subst h
   simp[db]
  ·by_cases aa:c=47
   ·subst aa
    simp[db]
   ·simp[db,h,aa]
theorem NN{l:List Nat}(h:h1 l):l.length<=8002:=by
 obtain⟨o,aa,-⟩:=h
 obtain⟨da,gB,-⟩:=NQ l
 have aA:=o.2.2.2
 have bO:l.length<=(ju 45 l).length+1:=by
  unfold ju
  split
  ·simp;omega
  ·omega
 cases hu:kz l with
 | none=>
  have:=Jv (c:=47) (l:=ju 45 l) (by rw[gB,hu])
  rw[da]at this
  omega
 | some u=>
  have aB:=(aa u hu).1.2.2.2
  have bs:=tP (c:=47) (l:=ju 45 l) (by rw[gB,hu])
  rw[da]at bs
  have:=congrArg List.length bs
  simp at this
  omega
theorem b2.dE{l:List Nat}(h:hK l):b2 1000 (Go.cW.dE l:Int):=by
 unfold b2
 rw[Int.natAbs_natCast]
 have o:=qI h.1
 have aa:=rz 10 l.length 4000 (by decide) h.2.2.2
 have aB:=Fz 10 4 1000 4000 (by decide)
 have bs:(10:Nat)^4=10000:=by decide
 rw[bs]at aB
 rw[<-aB]
 exact Nat.lt_of_lt_of_le o aa
theorem g0.zero(H:ab):g0 H (.agg #[.bool false,.slice none 0 0,.bool false,.slice none 0 0]) 0 0:=⟨false,none,0,0,false,none,0,0,rfl,eh.zero H,eh.zero H⟩
theorem QR(c:Nat)(l:List Nat):l.take (db c l).1.length=(db c l).1:=by
 cases h:(db c l).2 with
 | none=>rw[tO h,List.take_length]
 | some u=>exact(Ju h).1
theorem NB(l:List Nat)(d:Int):Int.gcd (fZ l) d=Int.gcd (dE (g3 l)) d:=by
 unfold fZ
 split
 ·rw[Int.neg_gcd]
 ·rfl
theorem I_{l:List Nat}{H:ab}(ar:Bytes l)(hlen:l.length<4611686018427387904):
  aP prog 54 [.string (cg l)] H (fun u H1=>Ext H H1/\∃v n d b,u= .tuple #[v,.bool b]/\(b=true↔h1 l)/\g0 H1 v n d/\(h1 l->n=fZ l/\d=er l)):=by
 refine aP.b9 fun Q aD=>?_
 obtain⟨t,bO⟩:∃t,t=ju 45 l:=⟨_,rfl⟩
 obtain⟨da,gB,fC⟩:=NQ l
 rw[<-bO]at da gB
 have Ey:Bytes t:=bO▸ar.tail
 have oe:t.length<=l.length:=by
  rw[bO];unfold ju
  split
  ·simp
  ·exact Nat.le_refl _
 apply WX (by simp)
 simp[HF]
 have br:Ext H (H++[.dead]):=Ext.dead H
 have fail:∀nF,Ext H nF->¬h1 l->Q (.tuple #[.agg #[.bool false,.slice none 0 0,.bool false,.slice none 0 0],.bool false]) nF:=fun nF J g5=>aD _ _ ⟨J,_,0,0,false,rfl,⟨fun h=>(by cases h),fun h=>absurd h g5⟩,g0.zero _,fun h=>absurd h g5⟩
 refine iF (l:=l) (by simp) (by rfl) ?_
 simp
 refine bt.b6 (fun UN=>?_) (fun UN=>?_)
 ·simp[bd]
  exact fail _ br fun h=>by have:=NN h;omega
 ·refine ca.join (by kernel_rfl) (fun ay bD H1=>H1=H++[.dead]/\ay 4= .string (cg t)/\ay 5= .bool (lk l)) ?_ ?_
  ·rintro K aX-
   rw[l8]
   refine ca.join (by kernel_rfl) (fun ay bD H1=>H1=H++[.dead]/\ay 25= .bool (decide (l.head?=some 45))) ?_ ?_
   ·rintro cV dw-
    simp
    refine iF (l:=l) (by simp) (by rfl) ?_
    by_cases aI:0<l.length
    ·have hs:((0:Int)<(l.length:Int))=True:=by simp;omega
     have su:l.head?=some (l[0]?.getD 0):=by
      rw[List.head?_eq_getElem?,bB aI];rfl
     simp[aI]
     refine oz (n:=0) (nn:= .i64) (l:=l) (by simp) ar (by simp) aI (by rfl) ?_
     simp
     refine dw _ _ _ ⟨rfl,?_⟩
     rw[su]
     simp;omega
    ·have:l=[]:=List.eq_nil_of_length_eq_zero (by omega)
     simp[this]
     refine dw _ _ _ ⟨rfl,by simp[this]⟩
   ·rintro ay bD H1 ⟨rfl,tY⟩
    simp only[ik]at tY
    simp at tY
    simp[tY]
    refine bt.b6 (fun ae=>?_) (fun ae=>?_)
    ·have ahQ:0<l.length:=by
      cases l with
      | nil=>simp at ae
      | cons x r=>simp
     simp
     refine Gg (s:=cg l) (l:=1) (h:=l.length) (by simp) (by rfl) (by simp[dM]) (by simp[e2,jy]) (by omega) (by rw[jy];omega) ?_
     have sO:(l.drop 1).take (l.length-1)=t:=by
      rw[bO,ju,if_pos ae,List.drop_one,List.take_of_length_le (by simp)]
     simp only[qD,sO]
     simp
     refine aX _ _ _ ⟨rfl,by simp,?_⟩
     rw[<-fC,decide_eq_true ae];simp
    ·have sO:t=l:=by rw[bO,ju,if_neg ae]
     try simp
     refine aX _ _ _ ⟨rfl,by simp[sO],?_⟩
     rw[<-fC,decide_eq_false ae];simp
  ·rintro ay bD H1 ⟨rfl,bs,bJ⟩
   simp at bs bJ
   simp[bs]
   refine iF (l:=t) (by simp[bs]) (by rfl) ?_
   simp[bs]
   refine iF (l:=t) (by simp[bs]) (by rfl) ?_
   have mC:IntKind.i64.wrap ((t.length:Int)-1)=(t.length:Int)-1:=b7 (by omega) (by omega)
   simp[mC]
   refine dm.mk (by kernel_rfl) (fun m bR c5 aR=>m<=t.length/\bR 7= .int .i64 ((m:Int)-1)/\aR=H++[.dead]/\bR 6= .int .i64 ((m+(db 47 (t.drop m)).1.length:Nat):Int)) t.length ⟨Nat.le_refl _,by simp,rfl,by simp[db]⟩ ?_
   rintro m bR c5 aR ⟨hm,cd,rfl,dP⟩ K aX
   simp at cd dP
   simp[cd]
   refine bt.b6 (fun hy=>?_) (fun hy=>?_)
   ·refine Exists.elim (⟨m-1,by omega⟩:∃i:Nat,m=i+1) fun i ad=>?_
    have h4:(m:Int)-1=(i:Int):=by omega
    have iC:IntKind.i64.wrap ((i:Int)-1)=(i:Int)-1:=b7 (by omega) (by omega)
    have cC:i<t.length:=by omega
    have uM:t.drop i=t[i]::t.drop m:=by rw[ad,List.drop_eq_getElem_cons cC]
    refine ca.join (by kernel_rfl) (fun dt ez bP=>bP=H++[.dead]/\dt 6= .int .i64 ((i+(db 47 (t.drop i)).1.length:Nat):Int)) ?_ ?_
    ·rintro cV dw-
     simp[bs,cd,h4]
     refine oz (n:=i) (nn:= .i64) (l:=t) (by simp[bs]) Ey (by simp[cd,h4]) cC (by rfl) ?_
     simp
     have la:t[i]?.getD 0=t[i]:=by rw[bB cC];rfl
     refine bt.mk (fun ae=>?_) (fun ae=>?_)
     ·have ae:t[i]=47:=by have:=ae;simp[cC]at this;omega
      simp[cd,h4]
      refine dw _ _ _ ⟨rfl,?_⟩
      rw[uM]
      simp[db,ae]
     ·have ae:t[i]≠47:=by have:=ae;simp[cC]at this;omega
      try simp
      refine dw _ _ _ ⟨rfl,?_⟩
      rw[uM]
      simp[db,ae,dP]
      omega
    ·rintro dt ez bP ⟨rfl,tZ⟩
     simp at tZ
     simp[cd,h4,iC]
     refine aX i _ _ _ (by omega) ⟨by omega,by simp,rfl,?_⟩
     simpa using tZ
   ·have m8:m=0:=by omega
    rw[m8]at dP
    simp[da]at dP
    have oa:=QR 47 t
    rw[da]at oa
    have jE:(g3 l).length<=t.length:=by rw[<-oa];simp;omega
    have T8:Bytes (g3 l):=by rw[<-oa];exact fun x J=>Ey x (List.mem_of_mem_take J)
    simp[bs,dP]
    refine Gg (s:=cg t) (l:=0) (h:=(g3 l).length) (by simp[bs]) (by rfl) (by simp[dM]) (by simp[e2,dP]) (by omega) (by rw[jy];omega) ?_
    have sO:(t.drop 0).take ((g3 l).length-0)=g3 l:=by simpa using oa
    simp only[qD,sO]
    try simp
    refine aV.mk (JC T8 (by omega)) ?_
    rintro _ eW ⟨c1,_,kS,rfl,⟨Oo,tD,tJ,wx,rfl,z1,Sy,DA,MW,L9⟩,u5,U3⟩
    have DI:eh eW (.agg #[.bool Oo,.slice tD wx.length tJ]) kS:=⟨Oo,tD,tJ,wx,rfl,z1,Sy,DA,MW,L9⟩
    have f8:b2 1000 kS:=by
     by_cases aA:hK (g3 l)
     ·rw[u5 aA];exact b2.dE aA
     ·rw[U3 aA];exact b2.small (by decide) (by decide)
    try simp
    have dF:=Ext.dead eW
    refine aV.mk (r2 (v:=1) (by omega) (by omega)) ?_
    rintro adL kX ⟨gI,vb⟩
    try simp
    refine cN.mk vb.whole ?_
    try simp
    have fY:=Ext.dead kX
    have vc:=dF.aw (gI.aw fY)
    have MA:=br.aw (c1.aw vc)
    refine ca.join (by kernel_rfl) (fun rP qt h6=>Ext (kX++[.dead]) h6/\eh h6 (qt 10) (er l)/\Ce l/\(kz l=none\/Int.gcd kS (er l)=1)/\b2 1000 (er l)) ?_ ?_
    ·rintro cV dw SI
     simp[dP]
     refine iF (l:=t) (by simp[bs]) (by rfl) ?_
     try simp
     cases hu:kz l with
     | none=>
      have he:=Jv (c:=47) (l:=t) (by rw[gB,hu])
      rw[da]at he
      have bm:¬(g3 l).length<t.length:=by omega
      have jV:er l=1:=by unfold er;rw[hu]
      refine bt.b6 (fun a5=>absurd a5 (by omega)) (fun _=>?_)
      refine dw _ _ _ ⟨Ext.refl _,?_,fun u nc=>(by rw[hu]at nc;cases nc),.inl hu,by rw[jV];exact b2.small (by decide) (by decide)⟩
      rw[jV]
      simpa using vb.ext fY
     | some u=>
      have jB:=Ju (c:=47) (l:=t) (u:=u) (by rw[gB,hu])
      rw[da]at jB
      have jV:er l=dE u:=by unfold er;rw[hu]
      have VY:Bytes u:=by rw[<-jB.2.1];exact fun x J=>Ey x (List.mem_of_mem_drop J)
      have kK:u.length<=t.length:=by rw[<-jB.2.1];simp
      have mD:IntKind.i64.wrap (((g3 l).length:Int)+1)=(((g3 l).length+1:Nat):Int):=by rw[b7 (by omega) (by omega)];simp
      refine bt.b6 (fun _=>?_) (fun a5=>absurd (show((g3 l).length:Int)<(t.length:Int) by omega) (by omega))
      simp[bs,dP,mD]
      refine Gg (s:=cg t) (l:=(g3 l).length+1) (h:=t.length) (by simp[bs]) (by rfl) (by simp[dM];omega) (by simp[e2,jy]) (by omega) (by rw[jy];omega) ?_
      have VR:(t.drop ((g3 l).length+1)).take (t.length-((g3 l).length+1))=u:=by
       rw[jB.2.1,List.take_of_length_le]
       rw[<-jB.2.1];simp
      simp only[qD,VR]
      try simp
      refine aV.mk (JC VY (by omega)) ?_
      rintro _ ke ⟨hR,adD,ma,rfl,w7,AE,U2⟩
      have f13:b2 1000 ma:=by
       by_cases aA:hK u
       ·rw[AE aA];exact b2.dE aA
       ·rw[U2 aA];exact b2.small (by decide) (by decide)
      try simp
      refine cN.mk w7.whole ?_
      try simp
      have ni:=Ext.dead ke
      refine ca.join (by kernel_rfl) (fun rQ tv kf=>Ext (ke++[.dead]) kf/\∃bad,rQ 77= .bool bad/\(bad=false↔hK u/\2<=ma/\Int.gcd kS ma=1)) ?_ ?_
      ·rintro mg fA-
       by_cases n4:hK u
       ·simp[n4]
        refine aV.mk (r2 (v:=2) (by omega) (by omega)) ?_
        rintro Gw kf ⟨g6,xZ⟩
        refine⟨g6,?_⟩
        try simp
        refine aV.mk (Cx (N:=1000) (w7.ext (ni.aw g6)) xZ f13 (b2.small (by decide) (by decide)) (by decide)) ?_
        rintro _ rS ⟨j4,rfl⟩
        have o3:=ni.aw (g6.aw j4)
        by_cases a5:ma<2
        ·simp[a5]
         exact fA _ _ _ ⟨g6.aw j4,true,by simp,by simp;omega⟩
        ·have U0:¬((if ma<2 then(-1:Int)else if ma=2 then 0 else 1)<0):=by
          rw[if_neg a5];split<;>omega
         simp[U0]
         refine aV.mk (I1 (N:=1000) (DI.ext (vc.aw (hR.aw o3))) (w7.ext o3) f8 f13 (by decide)) ?_
         rintro Py y6 ⟨nj,A3⟩
         try simp
         refine aV.mk (r2 (v:=1) (by omega) (by omega)) ?_
         rintro akB pr ⟨sY,V9⟩
         try simp
         have qK:b2 1000 (Int.gcd kS ma:Nat):=f13.le (by
          have:=Nat.le_of_dvd (by omega) (Int.gcd_dvd_natAbs_right kS ma)
          simpa using this)
         refine aV.mk (Cx (N:=1000) (A3.ext sY) V9 qK (b2.small (by decide) (by decide)) (by decide)) ?_
         rintro _ y7 ⟨iU,rfl⟩
         try simp
         refine fA _ _ _ ⟨g6.aw (j4.aw (nj.aw (sY.aw iU))),decide (Int.gcd kS ma≠1),?_,?_⟩
         ·have D1:0<Int.gcd kS ma:=Int.gcd_pos_of_ne_zero_right _ (by omega)
          by_cases mv:Int.gcd kS ma=1
          ·simp[mv]
          ·simp[mv,show¬(((Int.gcd kS ma:Nat):Int)<1) by omega,show¬(((Int.gcd kS ma:Nat):Int)=1) by omega]
         ·simp[n4];omega
       ·simp[n4]
        exact fA _ _ _ ⟨Ext.refl _,true,by simp,by simp[n4]⟩
      ·rintro rQ tv kf ⟨g6,bad,sc,n0⟩
       simp only[ik]at sc
       simp at sc
       simp[sc]
       refine bt.mk (fun ag=>?_) (fun ag=>?_)
       ·simp
        refine SI _ _ _ _ (by simp) ?_
        simp[bd]
        refine fail _ (MA.aw (hR.aw (ni.aw g6))) fun a2=>?_
        obtain⟨aY,a3,bN,ck⟩:=a2
        have n4:=(a3 u hu).1
        have oX:=(a3 u hu).2
        have aU:Int.gcd kS ma=1:=by
         rcases ck with h | h
         ·rw[hu]at h;cases h
         ·rw[NB,jV,<-u5 aY]at h
          rw[AE n4];exact h
        have:=n0.2 ⟨n4,by rw[AE n4];omega,aU⟩
        rw[this]at ag
        cases ag
       ·have aU:=n0.1 ag
        have E2:=AE aU.1
        have aa:=aU.2.1
        have aB:=aU.2.2
        simp
        refine cN.mk w7.whole ?_
        try simp
        refine dw _ _ _ ⟨hR.aw (ni.aw g6),?_,fun Pj nc=>?_,.inr ?_,?_⟩
        ·rw[jV,<-E2]
         simpa using w7.ext (ni.aw g6)
        ·rw[hu]at nc
         have:=Option.some.inj nc
         subst this
         exact⟨aU.1,by omega⟩
        ·rw[jV,<-E2];exact aB
        ·rw[jV,<-E2];exact f13
    ·rintro rP qt h6 ⟨gi,qU,Sz,Uj,ag2⟩
     simp at qU
     have ET:=vc.aw gi
     have MB:=MA.aw gi
     have qZ:hK (g3 l)->(kS=0↔wx=[]):=fun aA=>by
      have o:=rC (n:=dE (g3 l)) (by rw[<-MW];exact(u5 aA).symm) DA L9
      rw[u5 aA,<-DA.zero,o.2]
      omega
     try simp only[l8]
     refine ca.join (by kernel_rfl) (fun rQ tv kf=>kf=h6/\∃bad,rQ 90= .bool bad/\(bad=false↔hK (g3 l)/\¬(lk l=true/\kS=0))) ?_ ?_
     ·rintro mg fA-
      by_cases aA:hK (g3 l)
      ·cases Aw:lk l with
       | false=>
        rw[Aw]at bJ
        simp[aA,bJ]
        exact fA _ _ _ ⟨rfl,false,by simp,by simp[aA,Aw]⟩
       | true=>
        rw[Aw]at bJ
        simp[aA,bJ]
        refine cP (af:=dh) (xs:=wx) (by simpa using z1.ext ET) (by simp) ?_
        simp
        refine fA _ _ _ ⟨rfl,decide (wx=[]),by simp,?_⟩
        simp[aA,Aw,qZ aA]
      ·simp[aA]
       exact fA _ _ _ ⟨rfl,true,by simp,by simp[aA]⟩
     ·rintro rQ tv kf ⟨rfl,bad,Dc,n0⟩
      simp only[ik]at Dc
      simp at Dc
      simp[Dc]
      refine bt.mk (fun ag=>?_) (fun ag=>?_)
      ·simp[bd]
       refine fail _ MB fun a2=>?_
       obtain⟨aY,a3,bN,ck⟩:=a2
       have:=n0.2 ⟨aY,by rw[u5 aY];intro h;exact bN ⟨h.1,by omega⟩⟩
       rw[this]at ag
       cases ag
      ·have aU:=n0.1 ag
       have aN:=u5 aU.1
       have jj:h1 l:=⟨aU.1,Sz,by rw[aN]at aU;intro h;exact aU.2 ⟨h.1,by omega⟩,by
        rcases Uj with h | h
        ·exact .inl h
        ·refine .inr ?_
         rw[NB,<-aN];exact h⟩
       have jJ:(if lk l=true then-kS else kS)=fZ l:=by
        unfold fZ
        rw[aN]
       refine ca.join (by kernel_rfl) (fun PU GK rS=>Ext kf rS/\eh rS (GK 8) (fZ l)) ?_ ?_
       ·rintro pt h2-
        simp[bJ]
        refine bt.mk (fun m9=>?_) (fun m9=>?_)
        ·simp
         refine aV.mk (I4 (DI.ext ET)) ?_
         rintro Py y6 ⟨nj,A3⟩
         simp
         refine cN.mk A3.whole ?_
         try simp
         refine h2 _ _ _ ⟨nj,?_⟩
         rw[<-jJ,if_pos m9]
         simpa using A3
        ·try simp
         refine h2 _ _ _ ⟨Ext.refl _,?_⟩
         rw[<-jJ,if_neg (by simp[m9])]
         simpa using DI.ext ET
       ·rintro PU GK rS ⟨j4,LA⟩
        simp at LA
        simp[-qB]
        refine BU (n:=fZ l) (m:=er l) (by simpa using LA) (by simpa using qU.ext j4) ?_
        intro q av
        simp
        refine cN.mk av.whole ?_
        simp[bd]
        exact aD _ _ ⟨MB.aw j4,q,_,_,true,rfl,⟨fun _=>jj,fun _=>rfl⟩,av,fun _=>⟨rfl,rfl⟩⟩
theorem Qu{l:List Nat}{H:ab}(ar:Bytes l)(hlen:l.length<4611686018427387904):
  aP prog 25 [.string (cg l)] H (fun u H1=>Ext H H1/\∃b,u= .bool b/\(b=true↔h1 l)):=by
 refine aP.b9 fun Q aD=>?_
 apply W0 (by simp)
 simp[HI]
 refine aV.mk (I_ ar hlen) ?_
 rintro _ H1 ⟨bw,q,n,d,b,rfl,ag,av,kr⟩
 simp
 refine cN.mk av.whole ?_
 simp[bd]
 exact aD _ _ ⟨bw.aw (Ext.dead H1),b,rfl,ag⟩
theorem CC{l:List Nat}{H:ab}(ar:Bytes l)(hlen:l.length<4611686018427387904):
  aP prog 23 [.string (cg l)] H (fun u H1=>Ext H H1/\∃n d,g0 H1 u n d/\(h1 l->n=fZ l/\d=er l)):=by
 refine aP.b9 fun Q aD=>?_
 apply WW (by simp)
 simp[HE]
 have br:=Ext.dead H
 refine aV.mk (I_ ar hlen) ?_
 rintro _ H1 ⟨bw,q,n,d,b,rfl,ag,av,kr⟩
 simp
 refine cN.mk av.whole ?_
 try simp
 refine cN.mk av.whole ?_
 simp[bd]
 exact aD _ _ ⟨br.aw (bw.aw (Ext.dead H1)),n,d,av.ext (Ext.dead H1),kr⟩
theorem b2.den{l:List Nat}(h:h1 l):b2 1000 (er l:Int):=by
 unfold er
 cases hu:kz l with
 | none=>exact b2.small (by decide) (by decide)
 | some u=>exact b2.dE (h.2.1 u hu).1
theorem b2.num{l:List Nat}(h:h1 l):b2 1000 (fZ l):=by
 unfold fZ
 split
 ·exact(b2.dE h.1).neg
 ·exact b2.dE h.1
theorem nC{i:Nat}(h:i<4611686018427387904):IntKind.i64.wrap ((i:Int)+1)=((i+1:Nat):Int):=by rw[b7 (by omega) (by omega)];omega
theorem vQ{t:List (List Int)}:eT t↔(1<=t.length/\t.length<=8)/\∀r∈t,(r.length=(t[0]?.getD []).length/\1<=r.length/\r.length<=8)/\∀x∈r,0<=x/\x<=1000:=by
 constructor
 ·intro h
  have ar:=h.len
  obtain⟨o,aa,aB,bs,bJ⟩:=h
  refine⟨⟨o,aa⟩,fun r al=>?_⟩
  have e:=ar r al
  refine⟨⟨e,by omega,by omega⟩,fun x J=>?_⟩
  have:=bJ r al
  unfold lG at this
  simp at this
  have:=this.2 x J
  omega
 ·rintro⟨⟨o,aa⟩,h⟩
  have aI:t[0]?.getD []∈t:=by rw[bB (by omega)];exact List.getElem_mem (by omega)
  have:=(h _ aI).1
  refine⟨o,aa,this.2.1,this.2.2,fun r al=>?_⟩
  have:=h r al
  unfold lG
  simp
  exact⟨this.1.1,fun x J=>by have:=this.2 x J;omega⟩
section
variable {P:Program} {r:List bF} {F:Fr} {H:ab} {Q:Fr->ab->Prop} {α:Type}
end
structure rN (lh l5:List Int) (M kind:Int) (w:Nat):Prop where
 Yu:∀x∈lh,x<=M
 e4:∀x∈l5,x<=M
 at_:(kind=0/\lh[w]?=some M/\∀(i:Nat) (x:Int),i<w->lh[i]?=some x->x<M)\/(kind=1/\(∀x∈lh,x<M)/\l5[w]?=some M/\∀(i:Nat) (x:Int),i<w->l5[i]?=some x->x<M)
theorem rN.uniq{lh l5:List Int}{M tx kind Ba:Int}{w gD:Nat}(h:rN lh l5 M kind w)(cu:rN lh l5 tx Ba gD):M=tx/\kind=Ba/\w=gD:=by
 have le:∀{M tx kind Ba:Int} {w gD:Nat},rN lh l5 M kind w->rN lh l5 tx Ba gD->M<=tx:=fun h cu=>by
  rcases h.at_ with⟨-,o,-⟩ | ⟨-,-,o,-⟩
  ·exact cu.Yu _ (List.mem_of_getElem? o)
  ·exact cu.e4 _ (List.mem_of_getElem? o)
 have e:M=tx:=Int.le_antisymm (le h cu) (le cu h)
 subst e
 refine⟨rfl,?_⟩
 rcases h.at_ with⟨bm,o,aa⟩ | ⟨bm,aI,o,aa⟩<;>rcases cu.at_ with⟨bk,cq,iy⟩ | ⟨bk,cB,cq,iy⟩
 ·refine⟨by rw[bm,bk],?_⟩
  rcases Nat.lt_trichotomy w gD with a5 | he | a5
  ·exact absurd (iy _ _ a5 o) (Int.lt_irrefl _)
  ·exact he
  ·exact absurd (aa _ _ a5 cq) (Int.lt_irrefl _)
 ·exact absurd (cB _ (List.mem_of_getElem? o)) (Int.lt_irrefl _)
 ·exact absurd (aI _ (List.mem_of_getElem? cq)) (Int.lt_irrefl _)
 ·refine⟨by rw[bm,bk],?_⟩
  rcases Nat.lt_trichotomy w gD with a5 | he | a5
  ·exact absurd (iy _ _ a5 o) (Int.lt_irrefl _)
  ·exact he
  ·exact absurd (aa _ _ a5 cq) (Int.lt_irrefl _)
theorem Nv{t:List (List Int)}(bO:0<t.length):∃M:Int,(dx (dL (cF t)) t.length).1=(M:Rat)/\(t.map List.sum)[(dx (dL (cF t)) t.length).2]?=some M/\(∀x∈t.map List.sum,x<=M)/\∀(i:Nat) (x:Int),i<(dx (dL (cF t)) t.length).2->(t.map List.sum)[i]?=some x->x<M:=by
 have q0:∀(i:Nat) (x:Int),(t.map List.sum)[i]?=some x->dL (cF t) i=(x:Rat):=fun i x h=>by
  rw[List.getElem?_map]at h
  rw[FM]
  cases ad:t[i]? with
  | none=>rw[ad]at h;cases h
  | some r=>rw[ad]at h;simp at h;simp[h]
 obtain⟨o,aa⟩:=s8 (dL (cF t)) t.length
 have hw:(dx (dL (cF t)) t.length).2<t.length:=by omega
 have aU:(t.map List.sum)[(dx (dL (cF t)) t.length).2]?=some (t[(dx (dL (cF t)) t.length).2]'hw).sum:=by
  rw[List.getElem?_map,bB hw];rfl
 refine⟨_,by rw[o,q0 _ _ aU],aU,fun x J=>?_,fun i x ad J=>?_⟩
 ·obtain⟨i,ad⟩:=List.mem_iff_getElem?.1 J
  have cC:i<t.length:=by have:=(cH.1 ad).1;simpa using this
  have:=Bh (dL (cF t)) cC
  rw[o,q0 _ _ ad,q0 _ _ aU]at this
  exact_mod_cast this
 ·have:=Y4 (dL (cF t)) ad
  rw[o,q0 _ _ J,q0 _ _ aU]at this
  exact_mod_cast this
theorem Qo{t:List (List Int)}{m:Nat}(hm:m=(t[0]?.getD []).length)(bO:0<t.length)(aI:0<m):rN (t.map List.sum) ((fM m t).map List.sum) (fV t).1 (fV t).2.1 (fV t).2.2:=by
 obtain⟨nG,ug,SG,Dh,SH⟩:=Nv bO
 have oe:(fM m t).length=m:=by simp[fM]
 obtain⟨K,aX,Kt,Kw,Kv⟩:=Nv (t:=fM m t) (by omega)
 rw[oe]at aX Kt Kv
 have bE:fV t=if(dx (dL (cF t)) t.length).1<(dx (dL (cF (fM m t))) m).1 then((dx (dL (cF (fM m t))) m).1.num,1,(dx (dL (cF (fM m t))) m).2)else((dx (dL (cF t)) t.length).1.num,0,(dx (dL (cF t)) t.length).2):=by
  unfold fV
  rw[<-hm]
 rw[bE,ug,aX]
 by_cases a5:nG<K
 ·rw[if_pos (by exact_mod_cast a5)]
  simp only[Rat.num_intCast]
  exact⟨fun x J=>by have:=Dh x J;omega,Kw,.inr ⟨rfl,fun x J=>by have:=Dh x J;omega,Kt,Kv⟩⟩
 ·rw[if_neg (fun h=>a5 (by exact_mod_cast h))]
  simp only[Rat.num_intCast]
  exact⟨Dh,fun x J=>by have:=Kw x J;omega,.inl ⟨rfl,SG,SH⟩⟩
def lJ(t:List (List Int))(i k:Nat):Int:=(t[i]?.getD [])[k]?.getD 0
structure afm (l:List Int) (z:Int):Prop where
 le:∀x∈l,x<=z
 at_:z=0\/z∈l
 iX:0<=z
end Go.cW
end
section
set_option maxRecDepth 8000
set_option maxHeartbeats 1000000
namespace Go.cW
open Go.Proofs
open Go.Proofs.Tryz (prog)
attribute [-simp] hF iq ka
attribute [-simp] qB
theorem CO{l:List Nat}(h:h1 l):(0:Int)<er l:=by
 have:=h.2.1
 unfold er
 cases hu:kz l with
 | none=>simp
 | some u=>have:=(this u hu).2;simp;omega
theorem Q1{n d:Int}(aA:0<d):0<Rat.divInt n d↔0<n:=by
 have jD:(0:Rat)<(d:Rat):=by exact_mod_cast aA
 rw[Rat.divInt_eq_div]
 constructor
 ·intro h
  have:=Rat.mul_pos h jD
  rw[Rat.div_mul_cancel (Rat.ne_of_gt jD)]at this
  exact_mod_cast this
 ·intro h
  have aG:(0:Rat)<(n:Rat):=by exact_mod_cast h
  rw[Rat.div_def]
  exact Rat.mul_pos aG (Rat.inv_pos.2 jD)
theorem adE{l:List Nat}(h:h1 l):0<g_ l↔0<fZ l:=Q1 (CO h)
theorem aag{v:Value}{bC:List (List Nat×List Int)}{n m:Nat}{H:ab}(jj:Row 93 2 true eK H v bC)(bE:∀p∈bC,Bytes p.1)(hlen:∀p∈bC,p.1.length<4611686018427387904/\p.2.length<65536)(mB:bC.length<4611686018427387904)(lX:n<1000)(lV:m<1000):
  aP prog 14 [v,.int .i64 n,.int .i64 m] H (fun u H1=>Ext H H1/\∃b,u= .bool b/\(b=true↔∀p∈bC,py n m p)):=by
 refine aP.b9 fun Q aD=>?_
 have fail:∀{H1 p},Ext H H1->p∈bC->¬py n m p->Q (.bool false) H1:=fun J a2 g5=>aD _ _ ⟨J,false,rfl,⟨fun h=>(by cases h),fun h=>absurd (h _ a2) g5⟩⟩
 apply XS (by simp)
 simp[Ii]
 have aie:Ext H (H++[.dead]):=Ext.dead H
 refine dm.mk (by kernel_rfl) (fun w ay bD H1=>∃i:Nat,w=bC.length-i/\i<=bC.length/\ay 7= .int .i64 (i:Int)/\Ext H H1/\∀p∈bC.take i,py n m p) bC.length ⟨0,by omega,by omega,by simp,Ext.refl _,by simp⟩ ?_
 rintro w ay bD H1 ⟨i,rfl,ad,cd,bw,ey⟩ K aX
 simp at cd
 have z0:=b3.ext (af:=Row _ _ _ eK) jj bw
 simp[cd]
 refine cP (af:=eK) (xs:=bC) (by simpa using z0) (by simp) ?_
 simp
 refine bt.b6 (fun a5=>?_) (fun a5=>?_)
 ·refine Exists.elim (⟨_,bB a5⟩:∃p,bC[i]?=some p) fun p a2=>?_
  have jn:=List.mem_of_getElem? a2
  have AI:=bE p jn
  have ig:=hlen p jn
  have iC:=nC (show i<4611686018427387904 by omega)
  simp[cd]
  refine OT (xs:=bC) (n:=i) (a:=p) (by simpa using z0) (by simp[cd]) a2 (by simp) ?_
  intro p9 tD tJ xp
  try simp
  have fj:=Ext.dead H1
  have Wo:=bw.aw fj
  refine ca.join (by kernel_rfl) (fun bR c5 aR=>Ext (H1++[.dead]) aR/\∃bad,bR 39= .bool bad/\(bad=false↔h1 p.1/\0<g_ p.1/\p.2.length=m)) ?_ ?_
  ·rintro cV dw-
   simp
   refine aV.mk (Qu AI ig.1) ?_
   rintro _ bP ⟨bG,b,rfl,ag⟩
   cases b with
   | false=>
    simp
    exact dw _ _ _ ⟨bG,true,by simp,⟨fun h=>(by cases h),fun h=>by have:=ag.2 h.1;cases this⟩⟩
   | true=>
    have jo:=ag.1 rfl
    simp
    refine aV.mk (CC AI ig.1) ?_
    rintro _ b0 ⟨cj,rm,d4,⟨s1,b1,cT,cn,s2,cA,c2,cD,rfl,hC,iV⟩,kr⟩
    have LC:=(kr jo).1
    simp
    refine aV.mk (Jb hC) ?_
    rintro _ b8 ⟨cR,rfl⟩
    have mE:=bG.aw (cj.aw cR)
    have Ms:=adE jo
    by_cases hA:0<rm
    ·have od:¬((if rm<0 then(-1:Int)else if rm=0 then 0 else 1)<=0):=by
      rw[if_neg (by omega),if_neg (by omega)];omega
     simp[od]
     refine cP (af:=IR) (xs:=p.2) (by simpa using b3.ext (af:=dO) xp (fj.aw mE)) (by simp) ?_
     simp
     refine dw _ _ _ ⟨mE,!decide ((p.2.length:Int)=m),by simp,?_⟩
     simp[jo,Ms,<-LC,hA]
     omega
    ·have od:((if rm<0 then(-1:Int)else if rm=0 then 0 else 1)<=0):=by
      split
      ·omega
      ·rw[if_pos (by omega)];omega
     simp[od]
     refine dw _ _ _ ⟨mE,true,by simp,?_⟩
     simp[jo,Ms,<-LC,hA]
  ·rintro bR c5 aR ⟨bf,bad,C9,n0⟩
   simp only[ik]at C9
   simp at C9
   have ks:=Wo.aw bf
   simp[C9]
   refine bt.mk (fun ag=>?_) (fun ag=>?_)
   ·simp[bd]
    refine fail ks jn fun ao=>?_
    have:=n0.2 ao.1
    rw[this]at ag
    cases ag
   ·have aU:=n0.1 ag
    have xE:=aU.2.2
    have jF:=b3.ext (af:=dO) xp (fj.aw bf)
    have l2:IntKind.i64.wrap ((n:Int)-1)=(n:Int)-1:=b7 (by omega) (by omega)
    simp
    refine dm.mk (by kernel_rfl) (fun w dt ez bP=>∃k:Nat,w=m-k/\k<=m/\dt 9= .int .i64 (k:Int)/\bP=aR/\∀j,j<k->rU n p.2 j) m ⟨0,by omega,by omega,by simp,rfl,fun j aW=>by omega⟩ ?_
    rintro w dt ez bP ⟨k,rfl,ak,ej,rfl,uX⟩ mg fA
    simp at ej
    simp[ej]
    refine bt.b6 (fun hg=>?_) (fun hg=>?_)
    ·refine Exists.elim (⟨_,bB (show k<p.2.length by omega)⟩:∃x,p.2[k]?=some x) fun x J=>?_
     have nh:=nC (show k<4611686018427387904 by omega)
     simp[ej]
     refine cY (af:=IR) (xs:=p.2) (n:=k) (a:=x) (e:=3) (U:=1) (aC:=false) (by simpa using jF) (by simp[ej]) J (by simp) (by simp) (by simp) (by decide) ?_
     rintro yr Gi rfl
     simp[l2]
     refine aV.mk WA ?_
     rintro _ bP ⟨rfl,rfl⟩
     simp
     refine bt.mk (fun fT=>?_) (fun fT=>?_)
     ·simp at fT
      simp[bd]
      refine fail ks jn fun ao=>?_
      obtain⟨eu,aY,a3,bN,ck⟩:=((ya.1 ao.2).2 k hg)
      rw[J]at aY
      have:=Option.some.inj aY
      subst this
      omega
     ·simp at fT
      simp
      refine dm.mk (by kernel_rfl) (fun w c0 dS b0=>∃l:Nat,w=k-l/\l<=k/\c0 10= .int .i64 (l:Int)/\b0=bP/\∀j,j<l->¬(0<=x/\p.2[j]?=some x)) k ⟨0,by omega,by omega,by simp,rfl,fun j aW=>by omega⟩ ?_
      rintro w c0 dS b0 ⟨l,rfl,ar,h9,rfl,g5⟩ pt h2
      simp at h9
      simp[ej,h9]
      refine bt.b6 (fun u1=>?_) (fun u1=>?_)
      ·refine Exists.elim (⟨_,bB (show l<p.2.length by omega)⟩:∃y,p.2[l]?=some y) fun y aK=>?_
       have mC:=nC (show l<4611686018427387904 by omega)
       try simp
       refine ca.join (by kernel_rfl) (fun fi gE b8=>b8=b0/\fi 77= .bool (decide (0<=x/\x=y))) ?_ ?_
       ·rintro y9 lM-
        simp[ej]
        refine cY (af:=IR) (xs:=p.2) (n:=k) (a:=x) (e:=3) (U:=1) (aC:=false) (by simpa using jF) (by simp[ej]) J (by simp) (by simp) (by simp) (by decide) ?_
        rintro Br rJ rfl
        by_cases aI:0<=x
        ·simp[aI,ej]
         refine tf (af:=IR) (xs:=p.2) (n:=k) (a:=x) (e:=3) (U:=1) (aC:=false) (by simp[aI]) (by decide) (by simpa using jF) (by simp[ej]) J (by simp) (by simp) (by simp) (by decide) ?_
         rintro Bs Gj rfl
         simp[aI,h9]
         refine tf (af:=IR) (xs:=p.2) (n:=l) (a:=y) (e:=3) (U:=1) (aC:=false) (by simp[aI]) (by decide) (by simpa using jF) (by simp[h9]) aK (by simp) (by simp) (by simp) (by decide) ?_
         rintro vu B7 rfl
         simp
         exact lM _ _ _ ⟨rfl,by simp[aI]⟩
        ·simp[aI]
         exact lM _ _ _ ⟨rfl,by simp[aI]⟩
       ·rintro fi gE b8 ⟨rfl,sc⟩
        simp only[ik]at sc
        simp at sc
        simp[sc]
        refine bt.mk (fun uG=>?_) (fun uG=>?_)
        ·simp at uG
         simp[bd]
         refine fail ks jn fun ao=>?_
         obtain⟨eu,aY,a3,bN,ck⟩:=((ya.1 ao.2).2 k hg)
         rw[J]at aY
         have:=Option.some.inj aY
         subst this
         exact ck uG.1 (List.mem_of_getElem? (i:=l) (by rw[List.getElem?_take_of_lt u1,aK,uG.2]))
        ·simp at uG
         simp[h9,mC]
         refine h2 (k-(l+1)) _ _ _ (by omega) ⟨l+1,rfl,by omega,by simp,rfl,fun j aW=>?_⟩
         by_cases gg:j<l
         ·exact g5 j gg
         ·obtain rfl:j=l:=by omega
          rintro⟨cq,iy⟩
          rw[aK]at iy
          exact uG cq (Option.some.inj iy).symm
      ·simp[ej,nh]
       refine fA (m-(k+1)) _ _ _ (by omega) ⟨k+1,rfl,by omega,by simp,rfl,fun j aW=>?_⟩
       by_cases xq:j<k
       ·exact uX j xq
       ·obtain rfl:j=k:=by omega
        refine⟨x,J,by omega,by omega,fun aI hh=>?_⟩
        obtain⟨a,aO⟩:=List.mem_iff_getElem?.1 hh
        have pK:a<j:=by have:=(cH.1 aO).1;simp at this;omega
        rw[List.getElem?_take_of_lt pK]at aO
        exact g5 a (by omega) ⟨aI,aO⟩
    ·have j0:k=m:=by omega
     simp[cd,iC]
     refine aX (bC.length-(i+1)) _ _ _ (by omega) ⟨i+1,rfl,by omega,by simp,ks,fun q av=>?_⟩
     rw[List.take_add_one,a2]at av
     rcases List.mem_append.1 av with av | av
     ·exact ey q av
     ·simp at av
      subst av
      exact⟨aU,ya.2 ⟨xE,fun j aW=>uX j (by omega)⟩⟩
 ·simp[bd]
  rw[List.take_of_length_le (by omega)]at ey
  exact aD _ _ ⟨bw,true,rfl,⟨fun _=>ey,fun _=>rfl⟩⟩
section
variable {r:List bF} {F:Fr} {H:ab} {Q:Fr->ab->Prop}
theorem Ov{v:Value}{bC:List (List Nat×List Int)}{n:Nat}{a:List Nat×List Int}(bo:Row 93 2 true eK H v bC)(aO:bC[n]?=some a):∃b R cap X all eB eL,v= .slice (some ⟨b,R,none⟩) bC.length cap/\H[b]?=some X/\X.cells?=some all/\all[R+n*2]?=some (.string (cg a.1))/\all[R+n*2+1]?=some (.slice eB a.2.length eL)/\dO H (.slice eB a.2.length eL) a.2:=by
 obtain⟨b,R,cap,X,all,⟨an,aT,ae,bz,hu⟩ | ⟨aY,a3⟩⟩:=bo.at aO
 ·simp only[if_true]at hu
  obtain⟨eB,j9,eL,he,aa⟩:=hu
  obtain⟨fz,dT,pN⟩:=aa.len
  simp at pN
  obtain⟨rfl,rfl,rfl⟩:=pN
  simp at he
  refine⟨b,R,cap,X,all,eB,eL,an,aT,ae,?_,?_,aa⟩
  ·have:=congrArg (fun l:List Value=>l[0]?) he
   simpa[List.getElem?_take,List.getElem?_drop]using this
  ·have:=congrArg (fun l:List Value=>l[1]?) he
   simpa[List.getElem?_take,List.getElem?_drop]using this
 ·cases aY
theorem OX{d t d1 d2 n:Nat}{x i:Operand}{bC:List (List Nat×List Int)}{a:List Nat×List Int}{ax:ba (bn d t x i::a9 d1 93 (T d) 0::aF d2 45 (T d1)::r) Q}(bo:Row 93 2 true eK H (aq F x) bC)(ad:aq F i= .int .i64 (n:Int))(aO:bC[n]?=some a)
  (bO:e_ prog t=some 93)(K:∀p q,a_ prog r Q .mk (a1 (a1 (a1 F d p) d1 q) d2 (.string (cg a.1))) H):a_ prog (bn d t x i::a9 d1 93 (T d) 0::aF d2 45 (T d1)::r) Q ax F H:=by
 have ar:n<bC.length:=(cH.1 aO).1
 obtain⟨b,R,cap,X,all,eB,eL,an,aT,ae,aI,o,aa⟩:=Ov bo aO
 rw[hF,an,ad,rX,pw,bO,gb,show bp prog 93=some 2 by rfl,gb,rV]
 refine dB.mk ⟨by omega,by omega⟩ ?_
 rw[OU]
 simp only[nQ,jv,qx,show fQ prog 93 0=some 0 by rfl,gb,Nat.add_zero]
 rw[BV]
 simp only[nQ,jv,qx,aT,Option.bind_some,ae,gb,show dq prog 45=some false by rfl,Int.toNat_natCast,y0,aI]
 exact K _ _
theorem abj{d t d1 d2 n:Nat}{x i:Operand}{bC:List (List Nat×List Int)}{a:List Nat×List Int}{ax:ba (bn d t x i::a9 d1 93 (T d) 1::aF d2 34 (T d1)::r) Q}(bo:Row 93 2 true eK H (aq F x) bC)(ad:aq F i= .int .i64 (n:Int))(aO:bC[n]?=some a)
  (bO:e_ prog t=some 93)(K:∀p q u,dO H u a.2->a_ prog r Q .mk (a1 (a1 (a1 F d p) d1 q) d2 u) H):a_ prog (bn d t x i::a9 d1 93 (T d) 1::aF d2 34 (T d1)::r) Q ax F H:=by
 have ar:n<bC.length:=(cH.1 aO).1
 obtain⟨b,R,cap,X,all,eB,eL,an,aT,ae,aI,o,aa⟩:=Ov bo aO
 rw[hF,an,ad,rX,pw,bO,gb,show bp prog 93=some 2 by rfl,gb,rV]
 refine dB.mk ⟨by omega,by omega⟩ ?_
 rw[OU]
 simp only[nQ,jv,qx,show fQ prog 93 1=some 1 by rfl,gb]
 rw[BV]
 simp only[nQ,jv,qx,aT,Option.bind_some,ae,gb,show dq prog 34=some false by rfl,Int.toNat_natCast,y0,o]
 exact K _ _ _ aa
end
theorem dn.wC{N:Nat}{q:Rat}(h:dn N q):b2 N q.num/\b2 N (q.den:Int):=by
 have a2:2^N<=10000^N:=Nat.pow_le_pow_left (by decide) N
 refine⟨?_,?_⟩
 ·exact Nat.lt_of_lt_of_le h.1 a2
 ·exact Nat.lt_of_lt_of_le h.2 a2
theorem IP{q:Rat}{n d:Int}(aA:0<d):q+Rat.divInt n d=Rat.divInt (q.num*d+n*q.den) (q.den*d):=by
 have h:=Rat.divInt_add_divInt q.num n (d₁:=q.den) (d₂:=d) (by have:=q.den_pos;omega) (by omega)
 rw[<-h,Rat.num_divInt_den]
theorem YI{v:Value}{bC:List (List Nat×List Int)}{H:ab}(jj:Row 93 2 true eK H v bC)(bE:∀p∈bC,Bytes p.1)(hlen:∀p∈bC,p.1.length<4611686018427387904)(mB:bC.length<=2000)(iA:∀p∈bC,h1 p.1):
  aP prog 18 [v] H (fun u H1=>Ext H H1/\g0 H1 u (dV (parts bC)).num (dV (parts bC)).den):=by
 refine aP.b9 fun Q aD=>?_
 apply XR (by simp)
 simp[Ih]
 have br:=Ext.dead H
 refine aV.mk (zp (n:=0) (by omega) (by omega)) ?_
 rintro a7 H1 ⟨bw,l2⟩
 simp
 refine cN.mk l2.whole ?_
 simp
 have bf:=Ext.dead H1
 refine dm.mk (by kernel_rfl) (fun w dt ez bP=>∃i:Nat,w=bC.length-i/\i<=bC.length/\dt 4= .int .i64 (i:Int)/\Ext H bP/\g0 bP (ez 3) (dV (parts (bC.take i))).num (dV (parts (bC.take i))).den) bC.length ⟨0,by omega,by omega,by simp,br.aw (bw.aw bf),by simpa[parts,dV]using l2.ext bf⟩ ?_
 rintro w dt ez bP ⟨i,rfl,ad,bs,bG,xH⟩ K aX
 simp at bs xH
 have uk:=b3.ext (af:=Row _ _ _ eK) jj bG
 simp[bs]
 refine cP (af:=eK) (xs:=bC) (by simpa using uk) (by simp) ?_
 simp
 refine bt.b6 (fun a5=>?_) (fun a5=>?_)
 ·refine Exists.elim (⟨_,bB a5⟩:∃p,bC[i]?=some p) fun p a2=>?_
  have jn:=List.mem_of_getElem? a2
  have jo:=iA p jn
  have iC:=nC (show i<4611686018427387904 by omega)
  have c7:=(yI (bC:=bC.take i) fun q av=>iA q (List.mem_of_mem_take av)).1
  have ld:(bC.take i).length=i:=by simp;omega
  rw[ld]at c7
  have xO:gC i<=26580001:=by unfold gC;omega
  refine Exists.elim (⟨gC i+1000,rfl,by omega,by omega,by omega⟩:∃N,N=gC i+1000/\gC i<=N/\1000<=N/\N<=26581001) fun N bQ=>?_
  have f1:b2 N (dV (parts (bC.take i))).num:=c7.wC.1.mono bQ.2.1
  have f2:b2 N ((dV (parts (bC.take i))).den:Int):=c7.wC.2.mono bQ.2.1
  have f3:b2 N (fZ p.1):=(b2.num jo).mono bQ.2.2.1
  have f4:b2 N (er p.1:Int):=(b2.den jo).mono bQ.2.2.1
  have KD:=bQ.2.2.2
  clear bQ xO
  have aA:=CO jo
  have Ed:dV (parts (bC.take (i+1)))=Rat.divInt ((dV (parts (bC.take i))).num*er p.1+fZ p.1*(dV (parts (bC.take i))).den) ((dV (parts (bC.take i))).den*er p.1):=by
   rw[Fu a2,NT]
   exact IP aA
  have xf:(0:Int)<(dV (parts (bC.take i))).den*er p.1:=Int.mul_pos (by have:=(dV (parts (bC.take i))).den_pos;omega) aA
  simp[bs]
  refine OX (bC:=bC) (n:=i) (a:=p) (by simpa using uk) (by simp[bs]) a2 (by simp) ?_
  intro iD eU
  simp
  refine aV.mk (CC (bE p jn) (hlen p jn)) ?_
  rintro adN dN ⟨cI,aiu,d6,AM,kr⟩
  refine⟨cI,?_⟩
  have bm:=(kr jo).1
  have bk:=(kr jo).2
  subst bm bk
  try simp
  refine aV.mk (IY (N:=N) (xH.ext cI) AM f1 f2 f3 f4 (by omega)) ?_
  rintro adO cU ⟨cw,Vn⟩
  try simp
  refine aV.mk (I2 (N:=N+N+1) Ed Vn xf ((f1.mul f4).add (f3.mul f2)) ((f2.mul f4).mono (by omega)) (by omega)) ?_
  rintro Pz eW ⟨c1,LX⟩
  try simp
  refine cN.mk LX.whole ?_
  simp[bs,iC]
  refine aX (bC.length-(i+1)) _ _ _ (by omega) ⟨i+1,rfl,by omega,by simp,bG.aw (cI.aw (cw.aw c1)),by simpa using LX⟩
 ·simp
  refine cN.mk xH.whole ?_
  simp[bd]
  rw[List.take_of_length_le (by omega)]at xH
  exact aD _ _ ⟨bG,xH⟩
abbrev zf(H:ab)(v:Value)(eJ:List (List (List Nat×List Int))):Prop:=Row 27 1 false (Row 93 2 true eK) H v eJ
instance:b3 zf:=⟨fun h J=>b3.ext (af:=Row 27 1 false (Row 93 2 true eK)) h J⟩
theorem Zo(a b:List (List Nat×List Int)):parts (a++b)=parts a++parts b:=by simp[parts]
theorem R7{α:Type}{eJ:List (List α)}{p:Nat}{pl:List α}(h:eJ[p]?=some pl):(eJ.take (p+1)).flatten=(eJ.take p).flatten++pl:=by
 rw[List.take_add_one,h];simp
theorem Q0(x:Int):Rat.divInt x 1=(x:Rat):=by
 have:=Rat.num_divInt_den (x:Rat)
 rw[Rat.num_intCast,Rat.den_intCast]at this
 exact this
theorem Ze{q:Rat}{x:Int}:q=((x:Int):Rat)↔q.num*1=x*q.den:=by
 constructor
 ·intro h;rw[h];simp
 ·intro h
  rw[<-Rat.num_divInt_den q,show q.num=x*(q.den:Int) by omega]
  have o:=Rat.divInt_mul_right (n:=x) (d:=1) (a:=(q.den:Int)) (by have:=q.den_pos;omega)
  rw[Int.one_mul]at o
  rw[o]
  exact Q0 x
theorem I0{v w:Value}{q:Rat}{x:Int}{N:Nat}{H:ab}(bx:g0 H v q.num q.den)(bE:g0 H w x 1)(f1:b2 N q.num)(f2:b2 N q.den)(f3:b2 N x)(f4:b2 N 1)(bQ:N<=1000000000):aP prog 17 [v,w] H (fun u H1=>Ext H H1/\∃z,u= .int .i64 z/\(z=0↔q=((x:Int):Rat))):=by
 refine aP.mono (Qc bx bE f1 f2 f3 f4 bQ) ?_
 rintro _ H1 ⟨bw,rfl⟩
 refine⟨bw,_,rfl,?_⟩
 rw[Ze]
 split
 ·omega
 ·split<;>omega
theorem Q4{v w:Value}{t:List (List Int)}{eJ:List (List (List Nat×List Int))}{H:ab}(ed:hn H v t)(an:eT t)(jj:zf H w eJ)(bE:∀pl∈eJ,∀p∈pl,Bytes p.1)(hlen:∀pl∈eJ,∀p∈pl,p.1.length<4611686018427387904)(ah1:eJ.length<4611686018427387904)(mB:eJ.flatten.length<=2000)(iA:∀pl∈eJ,∀p∈pl,h1 p.1/\p.2.length=(t[0]?.getD []).length):
  aP prog 16 [v,w] H (fun u H1=>Ext H H1/\∃b,u= .bool b/\(b=true↔∀i k,i<t.length->k<(t[0]?.getD []).length->fv (parts eJ.flatten) i k=((lJ t i k:Int):Rat))):=by
 refine aP.b9 fun Q aD=>?_
 obtain⟨m,hm⟩:∃m,m=(t[0]?.getD []).length:=⟨_,rfl⟩
 have ao:=an.small
 have eO:=an.len
 have v1:=an.1
 have v2:=an.2.1
 have v4:=an.2.2.2.1
 rw[<-hm]at eO v4 iA aD
 have fail:∀{H1 i k},Ext H H1->i<t.length->k<m->fv (parts eJ.flatten) i k≠((lJ t i k:Int):Rat)->Q (.bool false) H1:=fun J ad ak g5=>aD _ _ ⟨J,false,rfl,⟨fun h=>(by cases h),fun h=>absurd (h _ _ ad ak) g5⟩⟩
 apply XQ (by simp)
 simp[Ig]
 refine dm.mk (by kernel_rfl) (fun a7 ay bD H1=>∃i:Nat,a7=t.length-i/\i<=t.length/\ay 5= .int .i64 (i:Int)/\Ext H H1/\∀j k,j<i->k<m->fv (parts eJ.flatten) j k=((lJ t j k:Int):Rat)) t.length ⟨0,by omega,by omega,by simp,Ext.refl _,fun j k aW=>by omega⟩ ?_
 rintro a7 ay bD H1 ⟨i,rfl,ad,bJ,bw,ey⟩ K aX
 simp at bJ
 have Dg:=b3.ext (af:=hn) ed bw
 simp[bJ]
 refine cP (af:=dO) (xs:=t) (by simpa using Dg) (by simp) ?_
 simp
 refine bt.b6 (fun a5=>?_) (fun a5=>?_)
 ·refine Exists.elim (⟨_,bB a5⟩:∃p,t[i]?=some p) fun row eR=>?_
  have hh:=List.mem_of_getElem? eR
  have kJ:=eO _ hh
  have iC:=nC (show i<4611686018427387904 by omega)
  simp
  refine dm.mk (by kernel_rfl) (fun hl bR c5 aR=>∃k:Nat,hl=m-k/\k<=m/\bR 6= .int .i64 (k:Int)/\Ext H aR/\∀j,j<k->fv (parts eJ.flatten) i j=((lJ t i j:Int):Rat)) m ⟨0,by omega,by omega,by simp,bw,fun j aW=>by omega⟩ ?_
  rintro hl bR c5 aR ⟨k,rfl,ak,dP,bf,uE⟩ cV dw
  simp at dP
  have uf:=b3.ext (af:=hn) ed bf
  simp[bJ,dP]
  refine cY (af:=dO) (xs:=t) (n:=i) (a:=row) (e:=34) (U:=1) (aC:=false) (by simpa using uf) (by simp[bJ]) eR (by simp) (by simp) (by simp) (by decide) ?_
  rintro p9 u8 VW
  try simp
  refine cP (af:=IR) (xs:=row) (by simpa using VW) (by simp) ?_
  simp only[kJ]
  simp[dP]
  refine bt.b6 (fun hg=>?_) (fun hg=>?_)
  ·refine Exists.elim (⟨_,bB (show k<row.length by omega)⟩:∃p,row[k]?=some p) fun x J=>?_
   have nh:=nC (show k<4611686018427387904 by omega)
   have EU:=(ao _ hh).2 x (List.mem_of_getElem? J)
   have Af:lJ t i k=x:=by unfold lJ;rw[eR];simp[J]
   simp
   refine aV.mk (zp (n:=0) (by omega) (by omega)) ?_
   rintro cM bP ⟨bG,iT⟩
   simp
   refine cN.mk iT.whole ?_
   simp
   have fj:=Ext.dead bP
   have l3:=bf.aw (bG.aw fj)
   refine dm.mk (by kernel_rfl) (fun vR c0 dS b0=>∃p:Nat,vR=eJ.length-p/\p<=eJ.length/\c0 8= .int .i64 (p:Int)/\Ext H b0/\g0 b0 (dS 7) (fv (parts (eJ.take p).flatten) i k).num (fv (parts (eJ.take p).flatten) i k).den) eJ.length ⟨0,by omega,by omega,by simp,l3,by simpa[parts,fv]using iT.ext fj⟩ ?_
   rintro vR c0 dS b0 ⟨p,rfl,a2,cS,cj,sH⟩ pt h2
   simp at cS sH
   have S5:=b3.ext (af:=zf) jj cj
   simp[cS]
   refine cP (af:=Row 93 2 true eK) (xs:=eJ) (by simpa using S5) (by simp) ?_
   simp
   refine bt.b6 (fun ig=>?_) (fun ig=>?_)
   ·refine Exists.elim (⟨_,bB ig⟩:∃da,eJ[p]?=some da) fun pl xC=>?_
    have xD:=List.mem_of_getElem? xC
    have EJ:=nC (show p<4611686018427387904 by omega)
    have uS:=R7 xC
    have Ug:((eJ.take p).flatten++pl).length<=eJ.flatten.length:=by
     rw[<-uS]
     have:=congrArg (fun l:List (List (List Nat×List Int))=>l.flatten.length) (List.take_append_drop (p+1) eJ)
     simp only[List.flatten_append,List.length_append]at this
     omega
    rw[List.length_append]at Ug
    simp
    refine dm.mk (by kernel_rfl) (fun ql fi gE b8=>∃s:Nat,ql=pl.length-s/\s<=pl.length/\fi 9= .int .i64 (s:Int)/\Ext H b8/\g0 b8 (gE 7) (fv (parts ((eJ.take p).flatten++pl.take s)) i k).num (fv (parts ((eJ.take p).flatten++pl.take s)) i k).den) pl.length ⟨0,by omega,by omega,by simp,cj,by simpa using sH⟩ ?_
    rintro ql fi gE b8 ⟨s,rfl,ld,ej,cR,u6⟩ y9 lM
    simp at ej u6
    have Ds:=b3.ext (af:=zf) jj cR
    simp[cS,ej]
    refine cY (af:=Row 93 2 true eK) (xs:=eJ) (n:=p) (a:=pl) (e:=27) (U:=1) (aC:=false) (by simpa using Ds) (by simp[cS]) xC (by simp) (by simp) (by simp) (by decide) ?_
    rintro Zm ajZ VX
    try simp
    refine cP (af:=eK) (xs:=pl) (by simpa using VX) (by simp) ?_
    simp[ej]
    refine bt.b6 (fun AX=>?_) (fun AX=>?_)
    ·refine Exists.elim (⟨_,bB AX⟩:∃da,pl[s]?=some da) fun bC AV=>?_
     have AW:=List.mem_of_getElem? AV
     have jo:=(iA pl xD bC AW).1
     have gg:=(iA pl xD bC AW).2
     have mD:=nC (show s<4611686018427387904 by omega)
     refine Exists.elim (⟨_,bB (show k<bC.2.length by omega)⟩:∃da,bC.2[k]?=some da) fun y aK=>?_
     have oa:=(yI (bC:=(eJ.take p).flatten++pl.take s) fun q av=>by
      rcases List.mem_append.1 av with av | av
      ·obtain⟨l,gh,iz⟩:=List.mem_flatten.1 av
       exact(iA l (List.mem_of_mem_take gh) q iz).1
      ·exact(iA pl xD q (List.mem_of_mem_take av)).1).2 i k
     have c7:=oa.wC
     have xO:gC ((eJ.take p).flatten++pl.take s).length<=26580001:=by
      have:((eJ.take p).flatten++pl.take s).length<=2000:=by simp only[List.length_append,List.length_take];omega
      unfold gC;omega
     have aA:=CO jo
     have LH:fv (parts ((eJ.take p).flatten++pl.take (s+1))) i k=fv (parts ((eJ.take p).flatten++pl.take s)) i k+if y=(i:Int)then g_ bC.1 else 0:=by
      rw[List.take_add_one,AV,<-List.append_assoc,Zo (_++_)]
      simp only[Option.toList_some,parts,List.map_cons,List.map_nil]
      rw[NY]
      unfold il
      simp[aK]
     refine Exists.elim (⟨gC ((eJ.take p).flatten++pl.take s).length+1000,by omega,by omega,by omega⟩:∃N,gC ((eJ.take p).flatten++pl.take s).length<=N/\1000<=N/\N<=26581001) fun N bQ=>?_
     have f1:=c7.1.mono bQ.1
     have f2:=c7.2.mono bQ.1
     have f3:b2 N (fZ bC.1):=(b2.num jo).mono bQ.2.1
     have f4:b2 N (er bC.1:Int):=(b2.den jo).mono bQ.2.1
     have KD:=bQ.2.2
     clear xO c7 oa bQ
     refine Exists.elim (⟨_,rfl⟩:∃q,q=fv (parts ((eJ.take p).flatten++pl.take s)) i k) fun q oc=>?_
     simp only[<-oc]at u6 f1 f2 LH
     have pJ:q+g_ bC.1=Rat.divInt (q.num*er bC.1+fZ bC.1*q.den) (q.den*er bC.1):=IP aA
     have xf:(0:Int)<q.den*er bC.1:=Int.mul_pos (by have:=q.den_pos;omega) aA
     try simp
     refine ca.join (by kernel_rfl) (fun me oC dN=>Ext b8 dN/\g0 dN (oC 7) (q+if y=(i:Int)then g_ bC.1 else 0).num (q+if y=(i:Int)then g_ bC.1 else 0).den) ?_ ?_
     ·rintro PY zV-
      simp[cS,ej]
      refine cY (af:=Row 93 2 true eK) (xs:=eJ) (n:=p) (a:=pl) (e:=27) (U:=1) (aC:=false) (by simpa using Ds) (by simp[cS]) xC (by simp) (by simp) (by simp) (by decide) ?_
      rintro yr Gi Ez
      simp[ej]
      refine abj (bC:=pl) (n:=s) (a:=bC) (by simpa using Ez) (by simp[ej]) AV (by simp) ?_
      intro Br aiH rJ VS
      simp[dP]
      refine cY (af:=IR) (xs:=bC.2) (n:=k) (a:=y) (e:=3) (U:=1) (aC:=false) (by simpa using VS) (by simp[dP]) aK (by simp) (by simp) (by simp) (by decide) ?_
      rintro Bs Gj rfl
      simp[bJ]
      refine bt.b6 (fun ve=>?_) (fun ve=>?_)
      ·simp[cS,ej]
       refine cY (af:=Row 93 2 true eK) (xs:=eJ) (n:=p) (a:=pl) (e:=27) (U:=1) (aC:=false) (by simpa using Ds) (by simp[cS]) xC (by simp) (by simp) (by simp) (by decide) ?_
       rintro vu B7 xT
       simp[ej]
       refine OX (bC:=pl) (n:=s) (a:=bC) (by simpa using xT) (by simp[ej]) AV (by simp) ?_
       intro Ft aiI
       simp
       refine aV.mk (CC (bE pl xD bC AW) (hlen pl xD bC AW)) ?_
       rintro Gw kf ⟨g6,ait,d15,Vl,kr⟩
       refine⟨g6,?_⟩
       have bm:=(kr jo).1
       have bk:=(kr jo).2
       subst bm bk
       try simp
       refine aV.mk (IY (N:=N) (u6.ext g6) Vl f1 f2 f3 f4 (by omega)) ?_
       rintro Px rS ⟨j4,Vm⟩
       try simp
       refine aV.mk (I2 (N:=N+N+1) pJ Vm xf ((f1.mul f4).add (f3.mul f2)) ((f2.mul f4).mono (by omega)) (by omega)) ?_
       rintro Py y6 ⟨nj,LV⟩
       try simp
       refine cN.mk LV.whole ?_
       try simp
       refine zV _ _ _ ⟨g6.aw (j4.aw nj),?_⟩
       rw[if_pos ve]
       simpa using LV
      ·try simp
       refine zV _ _ _ ⟨Ext.refl _,?_⟩
       rw[if_neg ve,show q+0=q from Rat.add_zero q]
       simpa using u6
     ·rintro me oC dN ⟨cI,AM⟩
      simp at AM
      simp[ej,mD]
      refine lM (pl.length-(s+1)) _ _ _ (by omega) ⟨s+1,rfl,by omega,by simp,cR.aw cI,?_⟩
      rw[LH]
      simpa using AM
    ·have VH:s=pl.length:=by omega
     simp[cS,EJ]
     refine h2 (eJ.length-(p+1)) _ _ _ (by omega) ⟨p+1,rfl,by omega,by simp,cR,?_⟩
     rw[uS]
     rw[VH,List.take_length]at u6
     simpa using u6
   ·rw[List.take_of_length_le (by omega)]at sH
    simp[bJ,dP]
    refine cY (af:=dO) (xs:=t) (n:=i) (a:=row) (e:=34) (U:=1) (aC:=false) (by simpa using b3.ext (af:=hn) ed cj) (by simp[bJ]) eR (by simp) (by simp) (by simp) (by decide) ?_
    rintro yr Gi Ez
    simp[dP]
    refine cY (af:=IR) (xs:=row) (n:=k) (a:=x) (e:=3) (U:=1) (aC:=false) (by simpa using Ez) (by simp[dP]) J (by simp) (by simp) (by simp) (by decide) ?_
    rintro Br rJ rfl
    simp
    refine aV.mk (zp (n:=x) (by omega) (by omega)) ?_
    rintro Pw h6 ⟨gi,EI⟩
    refine⟨gi,?_⟩
    try simp
    have oa:=(yI (bC:=eJ.flatten) fun q av=>by
     obtain⟨l,gh,iz⟩:=List.mem_flatten.1 av
     exact(iA l gh q iz).1).2 i k
    have xO:gC eJ.flatten.length<=26580001:=by unfold gC;omega
    refine Exists.elim (⟨gC eJ.flatten.length+1000,by omega,by omega,by omega⟩:∃N,gC eJ.flatten.length<=N/\1000<=N/\N<=26581001) fun N bQ=>?_
    have f1:=oa.wC.1.mono bQ.1
    have f2:=oa.wC.2.mono bQ.1
    have f3:b2 N x:=(b2.i64 (z:=x) (by omega) (by omega)).mono (by omega)
    have f4:b2 N 1:=b2.small (by decide) (by omega)
    have KD:=bQ.2.2
    clear xO oa bQ
    refine Exists.elim (⟨_,rfl⟩:∃q,q=fv (parts eJ.flatten) i k) fun q oc=>?_
    simp only[<-oc]at sH f1 f2
    refine aV.mk (I0 (N:=N) (q:=q) (x:=x) (sH.ext gi) EI f1 f2 f3 f4 (by omega)) ?_
    rintro _ ke ⟨hR,z,rfl,aN⟩
    have MH:=cj.aw (gi.aw hR)
    by_cases AQ:q=((x:Int):Rat)
    ·obtain rfl:=aN.2 AQ
     simp[dP,nh]
     refine dw (m-(k+1)) _ _ _ (by omega) ⟨k+1,rfl,by omega,by simp,MH,fun j aW=>?_⟩
     by_cases xq:j<k
     ·exact uE j xq
     ·obtain rfl:j=k:=by omega
      rw[<-oc,AQ,Af]
    ·have s3:¬z=0:=fun h=>AQ (aN.1 h)
     simp[s3,bd]
     exact fail MH a5 hg (by rw[<-oc,Af];exact AQ)
  ·have j0:k=m:=by omega
   simp[bJ,iC]
   refine aX (t.length-(i+1)) _ _ _ (by omega) ⟨i+1,rfl,by omega,by simp,bf,fun j cb aW jZ=>?_⟩
   by_cases fs:j<i
   ·exact ey j cb fs jZ
   ·obtain rfl:j=i:=by omega
    exact uE cb (by omega)
 ·simp[bd]
  exact aD _ _ ⟨bw,true,rfl,⟨fun _ j k aW ak=>ey j k (by omega) ak,fun _=>rfl⟩⟩
end Go.cW
end
section
set_option maxRecDepth 8000
set_option maxHeartbeats 1000000
namespace Go.cW
attribute [-simp] hF iq ka
attribute [-simp] qB
theorem Bz(n:Nat):(∀c∈iY n,hJ c)/\dE (iY n).reverse=n/\(0<n->iY n≠[]/\(iY n).getLast?≠some 48):=by
 induction n using Nat.strongRecOn with
 | _ n a0=>
  by_cases h:n=0
  ·subst h
   rw[vB]
   simp[dE]
  ·obtain⟨i1,i2,i3⟩:=a0 (n/10) (by omega)
   rw[BA (by omega)]
   refine⟨fun c ae=>?_,?_,fun _=>⟨by simp,?_⟩⟩
   ·rcases List.mem_cons.1 ae with ae | ae
    ·subst ae;unfold hJ;omega
    ·exact i1 c ae
   ·rw[List.reverse_cons,RC,i2]
    omega
   ·by_cases o:n/10=0
    ·rw[o,vB]
     simp
     omega
    ·have:=i3 (by omega)
     rw[List.getLast?_cons]
     cases aU:(iY (n/10)).getLast? with
     | none=>exact absurd (List.getLast?_eq_none_iff.1 aU) this.1
     | some c=>
      rw[aU]at this
      simp
      exact fun h=>this.2 (by rw[h])
theorem CN(n:Nat):∀c∈dec n,hJ c:=by
 unfold dec
 split
 ·intro c ae;simp at ae;subst ae;decide
 ·intro c ae;exact(Bz n).1 c (List.mem_reverse.1 ae)
theorem zB(n:Nat):dE (dec n)=n:=by
 unfold dec
 split
 ·rename_i h;rw[h];rfl
 ·exact(Bz n).2.1
theorem QX(n:Nat):dec n≠[]:=by
 unfold dec
 split
 ·simp
 ·rename_i h
  have:=((Bz n).2.2 (by omega)).1
  simpa using this
theorem JB{n:Nat}(h:(dec n).length<=4000):hK (dec n):=by
 refine⟨CN n,QX n,?_,h⟩
 rintro⟨o,aa⟩
 unfold dec at o aa
 split at o
 ·rename_i aI
  rw[if_pos aI]at aa
  simp at aa
 ·rename_i aI
  rw[List.head?_reverse]at o
  exact((Bz n).2.2 (by omega)).2 o
theorem QQ{c:Nat}{a:List Nat}(b:List Nat)(h:c∉a):db c (a++c::b)=(a,some b):=by
 induction a with
 | nil=>simp[db]
 | cons x a a0=>
  have o:x≠c:=fun e=>h (by simp[e])
  have aa:=a0 fun e=>h (by simp[e])
  simp[db,o,aa]
theorem QP{c:Nat}{a:List Nat}(h:c∉a):db c a=(a,none):=by
 induction a with
 | nil=>simp[db]
 | cons x a a0=>
  have o:x≠c:=fun e=>h (by simp[e])
  have aa:=a0 fun e=>h (by simp[e])
  simp[db,o,aa]
theorem Bo{q:Rat}(h:lD q):h1 (gr q)/\fZ (gr q)=q.num/\er (gr q)=q.den:=by
 have bx:47∉((if q.num<0 then[45]else[])++dec q.num.natAbs):=by
  intro hm
  rcases List.mem_append.1 hm with hm | hm
  ·split at hm<;>simp at hm
  ·have:=CN _ _ hm
   unfold hJ at this
   omega
 have KZ:db 47 (gr q)=((if q.num<0 then[45]else[])++dec q.num.natAbs,if q.den=1 then none else some (dec q.den)):=by
  unfold gr
  by_cases aA:q.den=1
  ·rw[if_pos aA,if_pos aA,List.append_nil]
   exact QP bx
  ·rw[if_neg aA,if_neg aA]
   exact QQ _ bx
 have LN:rr (gr q)=(if q.num<0 then[45]else[])++dec q.num.natAbs:=by unfold rr;rw[KZ]
 have Mm:kz (gr q)=if q.den=1 then none else some (dec q.den):=by unfold kz;rw[KZ]
 have su:(dec q.num.natAbs).head?≠some 45:=by
  intro c4
  have:=CN _ _ (List.mem_of_mem_head? c4)
  unfold hJ at this
  omega
 have pU:lk (gr q)=decide (q.num<0):=by
  unfold lk
  rw[LN]
  by_cases aG:q.num<0
  ·simp[aG]
  ·simp only[aG,if_false,List.nil_append]
   simp[su]
 have qV:g3 (gr q)=dec q.num.natAbs:=by
  unfold g3 ju
  rw[LN]
  by_cases aG:q.num<0
  ·simp[aG]
  ·simp only[aG,if_false,List.nil_append]
   rw[if_neg su]
 have jV:er (gr q)=q.den:=by
  unfold er
  rw[Mm]
  by_cases aA:q.den=1
  ·simp[aA]
  ·simp[aA,zB]
 have jJ:fZ (gr q)=q.num:=by
  unfold fZ
  rw[pU,qV,zB]
  by_cases aG:q.num<0
  ·simp[aG];omega
  ·simp[aG];omega
 refine⟨⟨?_,?_,?_,?_⟩,jJ,jV⟩
 ·rw[qV];exact JB h.1
 ·intro u hu
  rw[Mm]at hu
  split at hu
  ·cases hu
  ·rename_i aA
   obtain rfl:=Option.some.inj hu
   have a2:=q.den_pos
   rw[zB]
   refine⟨JB ?_,by omega⟩
   rcases h.2 with h | h
   ·exact absurd h aA
   ·exact h
 ·rw[pU,qV,zB]
  rintro⟨o,aa⟩
  have:=of_decide_eq_true o
  omega
 ·right
  rw[jJ,jV]
  exact q.reduced
theorem Zc(q:Rat):Bytes (gr q):=by
 unfold gr
 intro x J
 rcases List.mem_append.1 J with J | J
 ·rcases List.mem_append.1 J with J | J
  ·split at J<;>simp at J
   omega
  ·exact Jz _ x J
 ·split at J
  ·cases J
  ·rcases List.mem_cons.1 J with J | J
   ·omega
   ·exact Jz _ x J
theorem NC{q:Rat}(h:lD q):g_ (gr q)=q:=by
 obtain⟨o,aa,aB⟩:=Bo h
 unfold g_
 rw[aa,aB,Rat.num_divInt_den]
theorem Zp{a6:List (Rat×List Int)}(h:∀p∈a6,lD p.1):parts (a6.map fun p=>(gr p.1,p.2))=a6:=by
 unfold parts
 rw[List.map_map]
 conv=>rhs;rw[<-List.map_id a6]
 apply List.map_congr_left
 intro p a2
 simp[NC (h p a2)]
end Go.cW
end
section
set_option maxRecDepth 8000
set_option maxHeartbeats 1000000
namespace Go.cW
open Go.Proofs
open Go.Proofs.Tryz (prog)
attribute [-simp] hF iq ka
attribute [-simp] qB
def iZ(a6:List (Rat×List Int)):List (List Nat×List Int):=a6.map fun p=>(gr p.1,p.2)
structure tA (t:List (List Int)) (a6:List (Rat×List Int)):Prop where
 ok:∀p∈iZ a6,py t.length (t[0]?.getD []).length p
 one:∀p∈iZ a6,h1 p.1/\er p.1=1
 parts:parts (iZ a6)=a6
 mY:(iZ a6).length<=(t.length+(t[0]?.getD []).length)*(t.length+(t[0]?.getD []).length)
 wA:(iZ a6).length<=256
 sum:∀i k,i<t.length->k<(t[0]?.getD []).length->fv a6 i k=((lJ t i k:Int):Rat)
 len:dV a6=(((fV t).1:Int):Rat)
 bytes:∀p∈iZ a6,Bytes p.1
 short:∀p∈iZ a6,p.1.length<4611686018427387904/\p.2.length<65536
theorem tA.mk'{t:List (List Int)}{a6:List (Rat×List Int)}(an:eT t)(h:ze t.length (t[0]?.getD []).length (bU (cF t)) (((fV t).1:Int):Rat) a6)(hm:∀p∈a6,e6 1 p.1):tA t a6:=by
 have l1:=BT (t:=t) rfl rfl an.small (by have:=an.2.1;omega)
 have hA:=Fv fun p a2=>(h.BJ p a2).1
 have hint:∀p∈a6,∃z:Int,p.1=(z:Rat)/\0<z/\z<=1000000000:=fun p a2=>by
  obtain⟨z,aN⟩:=hm p a2
  have e:p.1=(z:Rat):=by
   rw[<-aN]
   have:((1:Nat):Rat)=1:=rfl
   rw[this,Rat.mul_one]
  refine⟨z,e,?_,?_⟩
  ·have:=(h.BJ p a2).1
   rw[e]at this
   exact_mod_cast this
  ·have:=hA.2 p a2
   rw[h.len,e]at this
   have:z<=(fV t).1:=by exact_mod_cast this
   have:=l1.2
   omega
 have jJ:∀p∈a6,lD p.1:=fun p a2=>by
  obtain⟨z,aN,aI,o⟩:=hint p a2
  rw[aN]
  exact(dn.int (N:=64) (by omega) (by decide)).Fm (by decide)
 have Va:=Zp jJ
 have ey:∀p∈iZ a6,∃q∈a6,p=(gr q.1,q.2):=fun p a2=>by
  unfold iZ at a2
  rw[List.mem_map]at a2
  obtain⟨q,av,rfl⟩:=a2
  exact⟨q,av,rfl⟩
 refine⟨fun p a2=>?_,fun p a2=>?_,Va,?_,?_,fun i k ad ak=>?_,h.len,fun p a2=>?_,fun p a2=>?_⟩
 ·obtain⟨q,av,rfl⟩:=ey p a2
  have o:=Bo (jJ q av)
  have aa:=h.BJ q av
  exact⟨⟨o.1,by rw[NC (jJ q av)];exact aa.1,aa.2.len⟩,aa.2⟩
 ·obtain⟨q,av,rfl⟩:=ey p a2
  have o:=Bo (jJ q av)
  obtain⟨z,aN,-⟩:=hint q av
  refine⟨o.1,?_⟩
  rw[o.2.2,aN,Rat.den_intCast]
 ·unfold iZ
  rw[List.length_map]
  exact h.mY
 ·unfold iZ
  rw[List.length_map]
  have o:=an.2.1
  have aa:=an.2.2.2.1
  exact Nat.le_trans h.mY (Nat.mul_le_mul (show _<=16 by omega) (show _<=16 by omega))
 ·rw[h.sum i k ad ak,pd]
  rfl
 ·obtain⟨q,av,rfl⟩:=ey p a2
  exact Zc _
 ·obtain⟨q,av,rfl⟩:=ey p a2
  have o:=NN (Bo (jJ q av)).1
  have aa:=(h.BJ q av).2.len
  have aB:=an.2.2.2.1
  refine⟨?_,?_⟩
  ·show(gr q.1).length<_
   omega
  ·show q.2.length<_
   omega
theorem tA.Q3{t:List (List Int)}{a6:List (Rat×List Int)}(h:tA t a6):tt t (iZ a6):=by
 refine⟨⟨h.ok,by have:=h.wA;omega⟩,fun j k aW ak=>?_⟩
 rw[h.parts,h.sum j k aW ak,pd]
 rfl
section
variable {P:Program} {r:List bF} {F:Fr} {H:ab} {Q:Fr->ab->Prop} {α:Type}
theorem Ge{d t e:Nat}{x y:Operand}{z:Value}{af:ab->Value->α->Prop}{a b:α}{ax:ba (eF d t 2 [(0,x),(1,y)]::r) Q}(aO:∀aH,Ext H aH->af aH (aq F x) a)(ag:∀aH,Ext H aH->af aH (aq F y) b)(bO:P.underlying t=some (.slice e))(ao:bp P e=some 1)(aN:dA P e=some z)(dU:flat z=true)(di:z.cells.size=1)
  (aM:jd (fun i=>some (i*1,1)) (made z (2*1)) [(0,aq F x),(1,aq F y)]=some [aq F x,aq F y])(K:∀v aH,Row e 1 false af aH v [a,b]->Ext H aH->a_ P r Q .mk (a1 F d v) aH):a_ P (eF d t 2 [(0,x),(1,y)]::r) Q ax F H:=by
 have J:Ext H (H++[.own e false [aq F x,aq F y]]):=(Ext.refl H).snoc _ _ _
 refine te bO ao aN dU di (by decide) (by decide) (by decide) aM rfl (K _ _ ⟨[aq F x,aq F y],h7.fG (k:=0) ⟨rfl,.inr ⟨H.length,0,2,false,[aq F x,aq F y],rfl,by omega,Nat.le_refl _,Nat.zero_le _,by simp,by simp,by simp⟩⟩,fun i u ad=>?_⟩ J)
 match i with
 | 0=>simp at ad;subst ad;simpa[ev]using aO _ J
 | 1=>simp at ad;subst ad;simpa[ev]using ag _ J
 | n+2=>simp at ad
end
def t0:List (List Int):=[[2,1],[1,2]]
theorem BS:eT t0:=by decide
theorem aaT:fV t0=(3,0,0):=by
 have h:=Qo (t:=t0) (m:=2) rfl (by decide) (by decide)
 have aa:rN (t0.map List.sum) ((fM 2 t0).map List.sum) 3 0 0:=by
  have bm:t0.map List.sum=[3,3]:=by decide
  have bk:(fM 2 t0).map List.sum=[3,3]:=by decide
  rw[bm,bk]
  exact⟨by simp,by simp,.inl ⟨rfl,rfl,fun i x ad=>by omega⟩⟩
 obtain⟨aB,bs,bJ⟩:=h.uniq aa
 exact Prod.ext aB (Prod.ext bs bJ)
theorem Zd(z:Int)(h:0<=z):gr ((z:Int):Rat)=dec z.natAbs:=by
 unfold gr
 rw[Rat.num_intCast,Rat.den_intCast,if_neg (by omega)]
 simp
theorem YK:({data:= #[51]}:ByteArray)=cg [51]:=rfl
theorem YM{H:ab}:aP prog 12 [] H (fun u H1=>Ext H H1/\u= .bool true):=by
 refine aP.b9 fun Q aD=>?_
 have ag:=aaT
 apply Xf (by simp)
 simp[HW]
 refine Ge (e:=3) (z:= .int .i64 0) (af:=IR) (a:=2) (b:=1) (fun _ _=>rfl) (fun _ _=>rfl) (by simp) (by simp) (by rfl) (by rfl) (by rfl) (by rfl) ?_
 intro pg H1 og bw
 refine Ge (e:=3) (z:= .int .i64 0) (af:=IR) (a:=1) (b:=2) (fun _ _=>rfl) (fun _ _=>rfl) (by simp) (by simp) (by rfl) (by rfl) (by rfl) (by rfl) ?_
 intro lv aR oh bf
 have Mi:dO aR pg [2,1]:=b3.ext (af:=dO) og bf
 refine Exists.elim (Row.len Mi) fun b1 jW=>Exists.elim jW fun cn jW=>?_
 refine Exists.elim (Row.len oh) fun cA iP=>Exists.elim iP fun cD iP=>?_
 refine Ge (e:=34) (z:= .slice none 0 0) (af:=dO) (a:=[2,1]) (b:=[1,2]) (fun aH J=>by simpa using b3.ext (af:=dO) Mi J) (fun aH J=>by simpa using b3.ext (af:=dO) oh J) (by simp) (by simp) (by rfl) (by rfl) (by rfl) (by simp[jW,iP];rfl) ?_
 intro ph bP nd bG
 have ed:hn bP ph t0:=nd
 have l3:=bw.aw (bf.aw bG)
 simp
 refine aV.mk (zo (Row.s5 ed) (by decide) (by decide)) ?_
 rintro yS b0 ⟨cj,EE,-⟩
 have k3:=EE BS
 rw[ag]at k3
 subst k3
 have Kq:=b3.ext (af:=hn) ed cj
 simp
 refine aV.mk (NR (Row.s5 Kq) (by decide) (by decide)) ?_
 rintro mL b8 ⟨cR,xU,-⟩
 refine Exists.elim (xU BS) fun ql bJ=>Exists.elim bJ fun a6 bJ=>?_
 have mW:=bJ.1
 subst mW
 have a4:=tA.mk' BS bJ.2.1 bJ.2.2.1
 have eR:=bJ.2.2.2
 have SD:=b3.ext (af:=hn) Kq cR
 simp
 refine aV.mk (Rp (Row.s5 SD) (by decide) (by decide) eR a4.bytes a4.short (by have:=a4.wA;exact Nat.le_trans this (by decide))) ?_
 rintro vM dN ⟨cI,V5,-,-⟩
 have qJ:=V5 BS a4.Q3
 have ig:dV (parts (iZ a6))=((3:Int):Rat):=by rw[a4.parts,a4.len,ag]
 have AA:gr ((3:Int):Rat)=[51]:=by
  rw[Zd 3 (by decide)]
  simp[dec,iY]
 have iA:lD ((3:Int):Rat):=(dn.int (N:=64) (by decide) (by decide)).Fm (by decide)
 change vM=if lD (dV (parts (iZ a6)))then Value.tuple #[.string (cg (gr (dV (parts (iZ a6))))),.int .i64 0]else _ at qJ
 rw[ig,if_pos iA,AA]at qJ
 subst qJ
 simp[vL,YK,bd]
 exact aD _ _ ⟨l3.aw (cj.aw (cR.aw cI)),rfl⟩
theorem ca.kP{P:Program}{a b:eY}{Q:dH->Fr->Fr->ab->Prop}{ax:ba (eY.seq a b) Q}{F G:Fr}{H:ab}(h:∀K:Fr->Fr->ab->Prop,(∀ay bD H1,ca P b Q .mk ay bD H1->K ay bD H1)->ca P a (mJ K Q) .mk F G H):ca P (.seq a b) Q ax F G H:=
 h _ fun _ _ _ h=>h
theorem adS{H:ab}{v:Value}{xs:List (List Nat×List Int)}(h:Row 93 2 true eK H v xs):Whole prog 27 v:=by
 obtain⟨a,c,rfl⟩:=Row.len h
 exact⟨by rfl,by rfl,by simp[e3]⟩
end Go.cW
end
section
namespace Go.cW
end Go.cW
end
section
set_option maxRecDepth 8000
set_option maxHeartbeats 1000000
namespace Go.cW
open Go.Proofs
open Go.Proofs.Tryz (prog)
attribute [-simp] hF iq ka
attribute [-simp] qB
end Go.cW
end
section
set_option maxRecDepth 8000
set_option maxHeartbeats 1000000
namespace Go.cW
theorem aaY{n m:Nat}{t:List (List Rat)}{L:Rat}(h:fo n m t)(aG:0<n)(hm:0<m)(o:∀i,i<n->bX m (bU t i)<=L)(aa:∀k,k<m->bX n (fun i=>bU t i k)<=L):gj n m t<=L:=by
 have a:=s8 (dL t) n
 have b:=s8 (dL (eS m t)) m
 unfold gj
 split
 ·rw[b.1]
  have ak:(dx (dL (eS m t)) m).2<m:=by omega
  have e:bX n (fun i=>bU t i (dx (dL (eS m t)) m).2)=dL (eS m t) (dx (dL (eS m t)) m).2:=by
   rw[yu h.eS ak]
   exact hE fun i ad=>(tS h ad ak).symm
  rw[<-e]
  exact aa _ ak
 ·rw[a.1]
  have ad:(dx (dL t) n).2<n:=by omega
  rw[yu h ad]
  exact o _ ad
end Go.cW
end
section
set_option maxRecDepth 8000
set_option maxHeartbeats 1000000
namespace Go.cW
open Go.Proofs
open Go.Proofs.Tryz (prog)
attribute [-simp] hF iq ka
attribute [-simp] qB
end Go.cW
end
