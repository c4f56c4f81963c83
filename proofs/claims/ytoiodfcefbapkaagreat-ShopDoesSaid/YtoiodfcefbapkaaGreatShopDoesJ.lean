/- Part of the proof of ShopDoes. -/
import Derived.Test.YtoiodfcefbapkaaGreatShopDoesI
set_option linter.unusedVariables false
set_option linter.unusedSimpArgs false
section
set_option maxRecDepth 8000
set_option maxHeartbeats 1000000
namespace Go.dq
open Go.Proofs
open Go.Proofs.Tryz (prog)
attribute [-simp] il jk k3
def b0(N:Nat)(z:Int):Prop:=z.natAbs<10000^N
theorem b0.mono{N M:Nat}{z:Int}(h:b0 N z)(AA:N<=M):b0 M z:=Nat.lt_of_lt_of_le h (Nat.pow_le_pow_right (by decide) AA)
theorem b0.neg{N:Nat}{z:Int}(h:b0 N z):b0 N (-z):=by unfold b0;rw[Int.natAbs_neg];exact h
theorem b0.le{N:Nat}{a b:Int}(h:b0 N a)(hle:b.natAbs<=a.natAbs):b0 N b:=Nat.lt_of_le_of_lt hle h
theorem b0.add{N:Nat}{a b:Int}(aL:b0 N a)(ag:b0 N b):b0 (N+1) (a+b):=by
 unfold b0 at*
 have:=Int.natAbs_add_le a b
 rw[Nat.pow_succ]
 omega
theorem b0.mul{N M:Nat}{a b:Int}(aL:b0 N a)(ag:b0 M b):b0 (N+M) (a*b):=by
 unfold b0 at*
 rw[Int.natAbs_mul,Nat.pow_add]
 exact Nat.mul_lt_mul'' aL ag
theorem b0.small{N:Nat}{z:Int}(h:z.natAbs<10000)(bP:0<N):b0 N z:=by
 have:(10000:Nat)^1<=10000^N:=Nat.pow_le_pow_right (by decide) bP
 unfold b0
 omega
theorem b0.i64{z:Int}(o: -9223372036854775808<=z)(aa:z<9223372036854775808):b0 5 z:=by
 unfold b0
 have:(10000:Nat)^5=100000000000000000000:=by decide
 omega
theorem b0.len{N:Nat}{s:Bool}{aK:List Nat}{z:Int}(h:b0 N z)(bf:f_ aK)(aM:z=e9 s (bx aK)):aK.length<=N:=ed.len bf aM h
theorem JU{v w:Value}{x y:Int}{N:Nat}{H:ab}(bw:ed H v x)(bD:ed H w y)(lj:b0 N x)(lk:b0 N y)(bP:N<=10000000000):aO prog 56 [v,w] H (fun u H1=>Ext H H1/\ed H1 u (x+y)):=by
 refine aO.b9 fun Q aC=>?_
 obtain⟨s1,b4,cm,d1,rfl,eX,jM,lp,ij,fG⟩:=bw
 obtain⟨s2,cM,cI,d2,rfl,hI,iw,ic,jg,ma⟩:=bD
 have fY:=lj.len lp ij
 have iM:=lk.len ic jg
 clear lj lk
 apply XL (by simp)
 simp[Iq]
 have bu:Ext H (H++[.dead,.dead,.dead]):=Ext.more H (by simp)
 refine bs.mk (fun ag=>?_) (fun ag=>?_)
 ·have ao:s1=s2:=by simpa using ag
  simp
  refine aT.mk (Rm (eX.ext bu) (hI.ext bu) jM iw (by omega) (by omega)) ?_
  rintro _ H1 ⟨bq,eM,eQ,d3,rfl,qg,ob,iz,mQ⟩
  refine⟨bq,?_⟩
  simp
  refine aT.mk (qI qg ob (by omega)) ?_
  rintro u aS ⟨bl,hu⟩
  simp
  refine c2.mk hu.whole ?_
  simp[bd]
  refine aC _ _ ⟨bu.aw (bq.aw bl),?_⟩
  have e:x+y=e9 s1 (bx d3):=by
   rw[ij,jg,iz,<-ao]
   cases s1<;>simp[e9];omega
  rw[e]
  exact hu
 ·have ao:s1≠s2:=by simpa using ag
  simp
  refine aT.mk (Pr (eX.ext bu) (hI.ext bu) jM iw lp ic (by omega) (by omega)) ?_
  rintro _ H1 ⟨rfl,rfl⟩
  simp
  refine bs.bZ (fun ae=>?_) (fun ae=>?_)
  ·have hh:bx d2<=bx d1:=by
    by_cases h:bx d1<bx d2
    ·rw[if_pos h]at ae;omega
    ·omega
   have hlen:d2.length<=d1.length:=by
    by_cases h:d2.length<=d1.length
    ·exact h
    ·have:=ic.yT jM (by omega);omega
   simp
   refine aT.mk (Dj (eX.ext bu) (hI.ext bu) jM iw (by omega) hh hlen) ?_
   rintro _ H1 ⟨bq,eM,eQ,d3,rfl,qg,ob,iz,mQ⟩
   refine⟨bq,?_⟩
   simp
   refine aT.mk (qI qg ob (by omega)) ?_
   rintro u aS ⟨bl,hu⟩
   simp
   refine c2.mk hu.whole ?_
   simp[bd]
   refine aC _ _ ⟨bu.aw (bq.aw bl),?_⟩
   have e:x+y=e9 s1 (bx d3):=by
    rw[ij,jg,iz]
    cases s1<;>cases s2<;>simp[e9]at ao⊢<;>omega
   rw[e]
   exact hu
  ·have aZ:bx d1<bx d2:=by
    by_cases h:bx d1<bx d2
    ·exact h
    ·rw[if_neg h]at ae
     split at ae<;>omega
   have hlen:d1.length<=d2.length:=by
    by_cases h:d1.length<=d2.length
    ·exact h
    ·have:=lp.yT iw (by omega);omega
   simp
   refine aT.mk (Dj (hI.ext bu) (eX.ext bu) iw jM (by omega) (by omega) hlen) ?_
   rintro _ H1 ⟨bq,eM,eQ,d3,rfl,qg,ob,iz,mQ⟩
   refine⟨bq,?_⟩
   simp
   refine aT.mk (qI qg ob (by omega)) ?_
   rintro u aS ⟨bl,hu⟩
   simp
   refine c2.mk hu.whole ?_
   simp[bd]
   refine aC _ _ ⟨bu.aw (bq.aw bl),?_⟩
   have e:x+y=e9 s2 (bx d3):=by
    rw[ij,jg,iz]
    cases s1<;>cases s2<;>simp[e9]at ao⊢<;>omega
   rw[e]
   exact hu
theorem Dp{v w:Value}{x y:Int}{N:Nat}{H:ab}(bw:ed H v x)(bD:ed H w y)(lj:b0 N x)(lk:b0 N y)(bP:N<=10000000000):aO prog 71 [v,w] H (fun u H1=>Ext H H1/\ed H1 u (x-y)):=by
 refine aO.b9 fun Q aC=>?_
 have ajt:=bw.whole
 have Xb:=bD.whole
 have w_:=bw
 have s9:=bD
 obtain⟨s1,b4,cm,d1,rfl,-⟩:=w_
 obtain⟨s2,cM,cI,d2,rfl,-⟩:=s9
 apply XZ (by simp)
 simp[IE]
 have bu:Ext H (H++[.dead,.dead,.dead]):=Ext.more H (by simp)
 refine aT.mk (J0 (bD.ext bu)) ?_
 rintro u H1 ⟨bq,hu⟩
 refine⟨bq,?_⟩
 simp
 refine aT.mk (JU (bw.ext (bu.aw bq)) hu lj lk.neg bP) ?_
 rintro w aS ⟨bl,hw⟩
 simp
 refine c2.mk hw.whole ?_
 simp[bd]
 exact aC _ _ ⟨bu.aw (bq.aw bl),by rw[Int.sub_eq_add_neg];exact hw⟩
theorem Df{v w:Value}{x y:Int}{N:Nat}{H:ab}(bw:ed H v x)(bD:ed H w y)(lj:b0 N x)(lk:b0 N y)(bP:N<=10000000000):aO prog 44 [v,w] H (fun u H1=>Ext H H1/\u= .int .i64 (if x<y then-1 else if x=y then 0 else 1)):=by
 refine aO.b9 fun Q aC=>?_
 have w_:=bw
 have s9:=bD
 obtain⟨s1,b4,cm,d1,rfl,-⟩:=w_
 obtain⟨s2,cM,cI,d2,rfl,-⟩:=s9
 apply XN (by simp)
 simp[Is]
 have bu:Ext H (H++[.dead,.dead]):=Ext.more H (by simp)
 refine aT.mk (Dp (bw.ext bu) (bD.ext bu) lj lk bP) ?_
 rintro u H1 ⟨bq,hu⟩
 simp
 refine aT.mk (J4 hu) ?_
 rintro w aS ⟨bl,rfl⟩
 simp[bd]
 refine aC _ _ ⟨bu.aw (bq.aw bl),?_⟩
 congr 1
 by_cases o:x<y
 ·rw[if_pos (by omega),if_pos o]
 ·rw[if_neg (by omega),if_neg o]
  by_cases aa:x=y
  ·rw[if_pos (by omega),if_pos aa]
  ·rw[if_neg (by omega),if_neg aa]
theorem ae0{aK:List Nat}{j d:Nat}(aY:j<aK.length):bx (aK.set j d)+10000^j*(aK[j]?.getD 0)=bx aK+10000^j*d:=by
 rw[zw (aK.set j d) j (by simp;omega),zw aK j (by omega)]
 have o:(aK.set j d).take j=aK.take j:=by rw[List.take_set_of_le (Nat.le_refl j)]
 rw[o,wq (aK:=aK.set j d) (by simpa using aY),wq aY,List.getElem?_set_self aY]
 have aa:(aK.set j d).drop (j+1)=aK.drop (j+1):=by rw[List.drop_set_of_lt (by omega)]
 rw[aa]
 simp only[Option.getD_some]
 rw[Nat.mul_add,Nat.mul_add]
 omega
theorem eH.set{aK:List Nat}{j d:Nat}(h:eH aK)(aD:d<10000):eH (aK.set j d):=fun x J=>by
 rcases List.mem_or_eq_of_mem_set J with J | rfl
 ·exact h x J
 ·exact aD
theorem aah{V O U e7 X P i k a b d dY s:Nat}(h:V+10000^(i+k)*e7=P+10000^i*(a*X))(ao:s=U+e7+a*b)(aD:d+10000*dY=s)(oh:O+10000^(i+k)*U=V+10000^(i+k)*d):O+10000^(i+(k+1))*dY=P+10000^i*(a*(X+10000^k*b)):=by
 have o:10000^(i+(k+1))*dY=10000^(i+k)*(10000*dY):=by
  rw[<-Nat.add_assoc,Nat.pow_succ,Nat.mul_assoc]
 have aa:10000^(i+k)*d+10000^(i+k)*(10000*dY)=10000^(i+k)*U+10000^(i+k)*e7+10000^(i+k)*(a*b):=by
  rw[<-Nat.mul_add,<-Nat.mul_add,<-Nat.mul_add,aD,ao]
 have aA:10000^(i+k)*(a*b)=10000^i*(a*(10000^k*b)):=by
  rw[Nat.pow_add,Nat.mul_assoc]
  congr 1
  rw[<-Nat.mul_assoc,<-Nat.mul_assoc,Nat.mul_comm (10000^k) a]
 rw[Nat.mul_add,Nat.mul_add,o]
 omega
theorem aai{A B a i dM V e7:Nat}(bw:A<10000^i)(aL:a<10000)(bD:B<10000^dM)(h:V+10000^(i+(dM+1))*e7=A*B+10000^i*(a*B)):e7=0:=by
 rcases Nat.eq_zero_or_pos e7 with aH | aH
 ·exact aH
 ·exfalso
  have o:A*B+10000^i*(a*B)=(A+10000^i*a)*B:=by rw[Nat.add_mul,Nat.mul_assoc]
  have aa:A+10000^i*a<10000^(i+1):=by
   have aA:10000^i*(a+1)<=10000^i*10000:=Nat.mul_le_mul_left _ aL
   rw[Nat.mul_add,Nat.mul_one]at aA
   rw[Nat.pow_succ]
   omega
  have aA:(A+10000^i*a)*B<10000^(i+1)*10000^dM:=Nat.mul_lt_mul'' aa bD
  rw[<-Nat.pow_add]at aA
  have bj:10000^(i+(dM+1))*1<=10000^(i+(dM+1))*e7:=Nat.mul_le_mul_left _ aH
  have bJ:i+(dM+1)=i+1+dM:=by omega
  rw[bJ]at h bj
  omega
theorem uF{v w:Value}{x y:Int}{N:Nat}{H:ab}(bw:ed H v x)(bD:ed H w y)(lj:b0 N x)(lk:b0 N y)(bP:N<=1000000000):aO prog 45 [v,w] H (fun u H1=>Ext H H1/\ed H1 u (x*y)):=by
 refine aO.b9 fun Q aC=>?_
 obtain⟨s1,b4,cm,fk,rfl,eX,jM,lp,ij,fG⟩:=bw
 obtain⟨s2,cM,cI,gk,rfl,hI,iw,ic,jg,ma⟩:=bD
 have fY:=lj.len lp ij
 have iM:=lk.len ic jg
 clear lj lk
 obtain⟨dg,kD⟩:∃dg,dg=fk.length:=⟨_,rfl⟩
 obtain⟨dM,jV⟩:∃dM,dM=gk.length:=⟨_,rfl⟩
 rw[<-kD]at eX fY
 rw[<-jV]at hI iM
 rw[<-kD,<-jV]
 apply XT (by simp)
 simp[Iy]
 have bu:Ext H (H++[.dead,.dead,.dead]):=Ext.more H (by simp)
 have Ej:=eX.ext bu
 have Ue:=hI.ext bu
 have mg:IntKind.i64.wrap ((dg:Int)+(dM:Int))=((dg+dM:Nat):Int):=by rw[b8 (by omega) (by omega)];simp
 have nB:IntKind.i64.wrap (((dg:Int)+(dM:Int))+1)=((dg+dM+1:Nat):Int):=by rw[b8 (by omega) (by omega)];simp
 refine ck (ad:=de) (xs:=fk) (by simpa using Ej) (by simp) ?_
 simp[<-kD]
 refine ck (ad:=de) (xs:=gk) (by simpa using Ue) (by simp) ?_
 simp[<-jV,mg,nB]
 refine zm (e:=3) (R:=1) (bF:=8) (ay:=false) (n:=dg+dM+1) (eK:= .i64) (cX:= .i64) (z:= .int .i64 0) (ad:=de) (a:=0) (by simp) (by simp) (by simp) (by rfl) (by rfl) (by simp) (jn 0) (by simp) (by simp) (by decide) (by decide) (by omega) (fun aF=>rfl) ?_
 intro lC lD H1 Eb FF
 have iW:=Eb.le (b_:=H.length) (by simp)
 have bq:=bu.aw FF
 simp
 refine c7.mk (by kernel_rfl) (fun m bR c4 aS=>∃(i:Nat) (U:List Nat),m=dg-i/\i<=dg/\bR 6= .int .i64 (i:Int)/\Ext H aS/\bH H.length 3 1 false de aS (.slice lC (dg+dM+1) lD) U/\U.length=dg+dM+1/\eH U/\bx U=bx (fk.take i)*bx gk) dg ⟨0,List.replicate (dg+dM+1) 0,by omega,by omega,by simp,bq,iW,by simp,fun d aD=>by rw[List.mem_replicate]at aD;omega,by rw[Hi];simp[bx]⟩ ?_
 rintro m bR c4 aS ⟨i,U,rfl,af,ds,bl,gI,dQ,x3,jb⟩ K aV
 simp at ds
 simp[ds]
 refine ck (ad:=de) (xs:=fk) (by simpa using eX.ext bl) (by simp) ?_
 simp[<-kD]
 refine bs.bZ (fun aZ=>?_) (fun hh=>?_)
 ·refine Exists.elim (⟨_,bz (show i<fk.length by omega)⟩:∃d,fk[i]?=some d) fun hE jQ=>?_
  have xC:fk[i]?.getD 0=hE:=by rw[jQ];rfl
  have vl:hE<10000:=xC▸jM.get i
  simp
  refine c7.mk (by kernel_rfl) (fun m c_ en bN=>∃(k e7:Nat) (U:List Nat),m=dM+1-k/\k<=dM+1/\e7<10000/\(k=dM+1->e7=0)/\c_ 7= .int .i64 (e7:Int)/\c_ 8= .int .i64 (k:Int)/\Ext H bN/\bH H.length 3 1 false de bN (.slice lC (dg+dM+1) lD) U/\U.length=dg+dM+1/\eH U/\bx U+10000^(i+k)*e7=bx (fk.take i)*bx gk+10000^i*(hE*bx (gk.take k))) (dM+1) ⟨0,0,U,by omega,by omega,by omega,by omega,by simp,by simp,bl,gI,dQ,x3,by rw[jb];simp[bx]⟩ ?_
  rintro m c_ en bN ⟨k,e7,sa,rfl,ak,jS,pr,bV,cN,bK,ib,MJ,E_,iz⟩ nb fN
  simp at bV cN
  have Ek:=hI.ext bK
  have Ud:=eX.ext bK
  simp only[kJ]
  refine cc.join (by kernel_rfl) (fun cT dO bU=>bU=bN/\cT 34= .bool (decide (k<dM\/0<e7))) ?_ ?_
  ·rintro nZ g1-
   simp[cN]
   refine ck (ad:=de) (xs:=gk) (by simpa using Ek) (by simp) ?_
   simp[<-jV]
   by_cases gB:k<dM
   ·simp[gB]
    exact g1 _ _ _ ⟨rfl,by simp[gB]⟩
   ·simp[gB,bV]
    exact g1 _ _ _ ⟨rfl,by simp[gB]⟩
  ·rintro cT dO bU ⟨rfl,DT⟩
   simp only[hl]at DT
   simp at DT
   simp[DT]
   refine bs.mk (fun ag=>?_) (fun ag=>?_)
   ·simp at ag
    have aiV:k<=dM:=by omega
    have Nq:IntKind.i64.wrap ((i:Int)+(k:Int))=((i+k:Nat):Int):=by rw[b8 (by omega) (by omega)];simp
    have aiA:=iw.get k
    refine Exists.elim (⟨_,bz (show i+k<sa.length by omega)⟩:∃d,sa[i+k]?=some d) fun oR x4=>?_
    have MI:sa[i+k]?.getD 0=oR:=by rw[x4];rfl
    have aje:oR<10000:=MI▸E_.get (i+k)
    have Xh:IntKind.i64.wrap ((oR:Int)+(e7:Int))=((oR+e7:Nat):Int):=by rw[b8 (by omega) (by omega)];simp
    simp[ds,cN,Nq]
    refine cv (ad:=de) (xs:=sa) (n:=i+k) (a:=oR) (e:=3) (R:=1) (ay:=false) (by simpa using ib.row) (by simp) x4 (by simp) (by simp) (by simp) (by decide) ?_
    rintro iD oX rfl
    simp[bV,Xh]
    have MQ:hE*gk[k]?.getD 0<=9999*9999:=Nat.mul_le_mul (by omega) (by omega)
    refine cc.join (by kernel_rfl) (fun eI fR b5=>b5=bU/\eI 9= .int .i64 ((oR+e7+hE*gk[k]?.getD 0:Nat):Int)) ?_ ?_
    ·rintro wE jO-
     simp[cN]
     refine ck (ad:=de) (xs:=gk) (by simpa using Ek) (by simp) ?_
     simp[<-jV]
     refine bs.bZ (fun rO=>?_) (fun rO=>?_)
     ·refine Exists.elim (⟨_,bz (show k<gk.length by omega)⟩:∃d,gk[k]?=some d) fun p4 ED=>?_
      rw[ED]at MQ
      simp at MQ
      have FE:IntKind.i64.wrap ((hE:Int)*(p4:Int))=((hE*p4:Nat):Int):=by
       rw[show(hE:Int)*(p4:Int)=((hE*p4:Nat):Int) by simp]
       exact b8 (by omega) (by omega)
      have mW:IntKind.i64.wrap (((oR:Int)+(e7:Int))+(hE:Int)*(p4:Int))=((oR+e7+hE*p4:Nat):Int):=by
       rw[show((oR:Int)+(e7:Int))+(hE:Int)*(p4:Int)=((oR+e7+hE*p4:Nat):Int) by simp]
       exact b8 (by omega) (by omega)
      simp[ds]
      refine cv (ad:=de) (xs:=fk) (n:=i) (a:=hE) (e:=3) (R:=1) (ay:=false) (by simpa using Ud) (by simp[ds]) jQ (by simp) (by simp) (by simp) (by decide) ?_
      rintro mj sx rfl
      simp[cN]
      refine cv (ad:=de) (xs:=gk) (n:=k) (a:=p4) (e:=3) (R:=1) (ay:=false) (by simpa using Ek) (by simp[cN]) ED (by simp) (by simp) (by simp) (by decide) ?_
      rintro qP CP rfl
      simp[FE,mW]
      exact jO _ _ _ ⟨rfl,by simp[ED]⟩
     ·have:gk[k]?=none:=List.getElem?_eq_none (by omega)
      try simp
      exact jO _ _ _ ⟨rfl,by simp[this]⟩
    ·rintro eI fR b5 ⟨rfl,eB⟩
     simp only[hl]at eB
     simp at eB
     refine Exists.elim (⟨_,rfl⟩:∃S,S=oR+e7+hE*gk[k]?.getD 0) fun S bL=>?_
     have Tt:eI 9= .int .i64 (S:Int):=by rw[eB,bL];simp
     have nu:(S:Int).tmod 10000=((S % 10000:Nat):Int):=rfl
     have l9:(S:Int).tdiv 10000=((S/10000:Nat):Int):=rfl
     have Xi:IntKind.i64.wrap ((S:Int)/10000)=(S:Int)/10000:=b8 (by omega) (by omega)
     have nC:IntKind.i64.wrap ((k:Int)+1)=((k+1:Nat):Int):=by rw[b8 (by omega) (by omega)];simp
     simp[ds,cN,Tt,Nq,nu,l9,Xi]
     refine kp (k:=H.length) (e:=3) (R:=1) (ay:=false) (n:=i+k) (ad:=de) (xs:=sa) (a:=S % 10000) (by simpa using ib) (by simp) (by omega) (by simp[de]) (by simpa using jn _) (by simp) (fun _ _ _ _ _ h=>h) (by simp) (by simp) (by simp) (by decide) ?_
     rintro oS eV eW cW pt rM-
     simp at eW
     simp[cN,nC]
     have tB:=ae0 (aK:=sa) (j:=i+k) (d:=S % 10000) (by omega)
     rw[MI]at tB
     have dc:=aah (X:=bx (gk.take k)) (b:=gk[k]?.getD 0) (d:=S % 10000) (dY:=S/10000) iz bL (by omega) tB
     rw[<-uk]at dc
     refine fN (dM+1-(k+1)) _ _ _ (by omega) ⟨k+1,S/10000,sa.set (i+k) (S % 10000),rfl,by omega,by omega,fun he=>?_,by simp,by simp,cW _ (Nat.le_refl _) bK,eW,by simp[MJ],E_.set (Nat.mod_lt _ (by decide)),dc⟩
     have VI:k=dM:=by omega
     have yo:gk.take (k+1)=gk:=List.take_of_length_le (by omega)
     rw[yo,VI]at dc
     refine aai (A:=bx (fk.take i)) (B:=bx gk) (a:=hE) (i:=i) (dM:=dM) ?_ vl ?_ dc
     ·have:=sz (jM.take i)
      rw[List.length_take,Nat.min_eq_left (by omega)]at this
      exact this
     ·have:=sz iw
      rw[<-jV]at this
      exact this
   ·simp at ag
    have EI:e7=0:=by omega
    have yo:gk.take k=gk:=List.take_of_length_le (by omega)
    rw[EI,yo]at iz
    have gW:IntKind.i64.wrap ((i:Int)+1)=((i+1:Nat):Int):=by rw[b8 (by omega) (by omega)];simp
    simp[ds,gW]
    refine aV (dg-(i+1)) _ _ _ (by omega) ⟨i+1,sa,rfl,by omega,by simp,bK,ib,MJ,E_,?_⟩
    rw[uk,xC,Nat.add_mul,Nat.mul_assoc]
    simpa using iz
 ·have yo:fk.take i=fk:=List.take_of_length_le (by omega)
  rw[yo]at jb
  have Mn:=qI (s:=s1 !=s2) (aK:=U) (a:=lC) (c:=lD) (H:=aS) (by rw[dQ];exact gI.row) x3 (by omega)
  rw[dQ]at Mn
  simp
  refine aT.mk Mn ?_
  rintro u bN ⟨bK,hu⟩
  simp
  refine c2.mk hu.whole ?_
  simp[bd]
  refine aC _ _ ⟨bl.aw bK,?_⟩
  have e:x*y=e9 (s1 !=s2) (bx U):=by
   rw[ij,jg,jb]
   cases s1<;>cases s2<;>simp[e9,Int.neg_mul,Int.mul_neg]
  rw[e]
  exact hu
attribute [simp] p8
def Q0(H:ab)(u:Value)(n:Nat):Prop:=∃a c aK,u= .slice a aK.length c/\j2 H (.slice a aK.length c) aK/\eH aK/\f_ aK/\bx aK=n
theorem qT{s:Bool}{aK:List Nat}{n:Nat}(h:(n:Int)=e9 s (bx aK))(bf:f_ aK)(ao:aK=[]->s=false):s=false/\bx aK=n:=by
 cases s with
 | false=>exact⟨rfl,by simp[e9]at h;omega⟩
 | true=>
  simp[e9]at h
  have aH:bx aK=0:=by omega
  have:=ao (bf.zero.1 aH)
  cases this
theorem b0.aK{aK:List Nat}(h:eH aK):b0 aK.length (bx aK:Int):=by
 unfold b0
 rw[Int.natAbs_natCast]
 exact sz h
theorem J5{v:Value}{x:List Nat}{d:Nat}{H:ab}(bw:j2 H v x)(J:eH x)(cY:f_ x)(ar:x.length<900000000)(aD:d<=10000):aO prog 97 [v,.int .i64 d] H (fun u H1=>Ext H H1/\Q0 H1 u (bx x*d)):=by
 refine aO.b9 fun Q aC=>?_
 obtain⟨a,c,rfl⟩:=Row.len bw
 apply X8 (by simp)
 simp[IN]
 refine aT.mk (sR (by omega) (by omega)) ?_
 rintro u H1 ⟨bq,hu⟩
 simp
 have om:ed H1 (.agg #[.bool false,.slice a x.length c]) (bx x):=⟨false,a,c,x,rfl,bw.ext bq,J,cY,rfl,fun _=>rfl⟩
 refine aT.mk (uF (N:=x.length+5) om hu ((b0.aK J).mono (by omega)) (b0.mono (b0.i64 (by omega) (by omega)) (by omega)) (by omega)) ?_
 rintro _ aS ⟨bl,s2,cM,cI,d2,rfl,hI,iw,ic,jg,ma⟩
 have aa:s2=false/\bx d2=bx x*d:=qT (by rw[<-jg];simp) ic ma
 have iM:d2.length<=x.length+5+(x.length+5):=b0.len (N:=x.length+5+(x.length+5)) (z:=(bx x:Int)*d) (b0.mul ((b0.aK J).mono (by omega)) (b0.mono (b0.i64 (by omega) (by omega)) (by omega))) ic jg
 simp
 refine aT.mk (qI hI iw (by omega)) ?_
 rintro _ bN ⟨bK,lH,eM,eQ,d3,rfl,qg,ob,hv,tP,yg⟩
 rw[aa.1]at tP
 have aA:lH=false/\bx d3=bx d2:=qT (by rw[<-tP];simp[e9]) hv yg
 simp[bd]
 exact aC _ _ ⟨bq.aw (bl.aw bK),eM,eQ,d3,rfl,qg,ob,hv,by rw[aA.2,aa.2]⟩
theorem bH.pos{α:Type}{k e R:Nat}{ay:Bool}{ad:ab->Value->α->Prop}{H:ab}{v:Value}{xs:List α}(h:bH k e R ay ad H v xs)(J:0<xs.length):0<H.length:=by
 obtain⟨cs,⟨o,aa⟩,aA⟩:=h
 rcases aa with⟨aH,-⟩ | ⟨c,i,cap,l,all,a0,a4,bI,cj,e8,g9⟩
 ·omega
 ·have:=(cJ.1 e8).1
  omega
theorem KN{a b q r:Int}(ag:0<b)(h:r+b*q=a)(aH:0<=r)(o:r<b):a.fdiv b=q/\a.fmod b=r:=by
 rw[Int.fdiv_eq_ediv_of_nonneg _ (by omega),Int.fmod_eq_emod_of_nonneg _ (by omega)]
 exact(Int.ediv_emod_unique ag).2 ⟨h,aH,o⟩
theorem f_.F8{a b:List Nat}(aL:f_ a)(ag:eH b)(h:bx a<=bx b):a.length<=b.length:=by
 by_cases ar:a.length<=b.length
 ·exact ar
 ·have:=aL.yT ag (by omega);omega
theorem R3{X Q B ad a bc S:Nat}(h:X=Q*B+ad)(bL:S=a+10000*ad)(hi:bc*B<=S):a+10000*X=(bc+10000*Q)*B+(S-bc*B):=by
 rw[Nat.add_mul,Nat.mul_assoc]
 omega
theorem Dg{v w:Value}{x y:Int}{N:Nat}{H:ab}(bw:ed H v x)(bD:ed H w y)(lj:b0 N x)(lk:b0 N y)(bP:N<=100000000)(aI:0<y):aO prog 70 [v,w] H (fun u H1=>Ext H H1/\∃q r,u= .tuple #[q,r]/\ed H1 q (x.fdiv y)/\ed H1 r (x.fmod y)):=by
 refine aO.b9 fun Q aC=>?_
 have Ti:=lj
 have Tj:=lk
 have s9:=bD
 obtain⟨s1,b4,cm,fk,rfl,eX,jM,lp,ij,fG⟩:=bw
 obtain⟨s2,cM,cI,gk,rfl,hI,iw,ic,jg,ma⟩:=bD
 have fY:=lj.len lp ij
 have iM:=lk.len ic jg
 obtain⟨rfl,ajx⟩:s2=false/\bx gk=y.natAbs:=qT (by rw[<-jg];omega) ic ma
 obtain⟨dg,kD⟩:∃dg,dg=fk.length:=⟨_,rfl⟩
 obtain⟨iI,Aq⟩:∃iI,iI=bx gk:=⟨_,rfl⟩
 have Lh:0<iI:=by omega
 clear lj lk
 apply XP (by simp)
 simp[Iu]
 have bu:Ext H (H++[.dead,.dead,.dead,.dead]):=Ext.more H (by simp)
 refine ck (ad:=de) (xs:=fk) (by simpa using eX.ext bu) (by simp) ?_
 refine zm (e:=3) (R:=1) (bF:=8) (ay:=false) (n:=fk.length) (eK:= .i64) (cX:= .i64) (z:= .int .i64 0) (ad:=de) (a:=0) (by simp) (by simp) (by simp) (by rfl) (by rfl) (by simp) (jn 0) (by simp) (by simp) (by decide) (by decide) (by omega) (fun aF=>rfl) ?_
 intro lC lD H1 Eb FF
 have iW:=Eb.le (b_:=H.length) (by simp)
 have bq:=bu.aw FF
 refine sr (e:=3) (R:=1) (by simp) (by simp) ?_
 simp
 refine ck (ad:=de) (xs:=fk) (by simpa using eX.ext bq) (by simp) ?_
 have ly:IntKind.i64.wrap ((fk.length:Int)-1)=(fk.length:Int)-1:=b8 (by omega) (by omega)
 simp[ly]
 refine c7.mk (by kernel_rfl) (fun m bR c4 aS=>∃(U:List Nat) (GA:Option Addr) (rc:Nat) (rs:List Nat),m<=fk.length/\bR 8= .int .i64 ((m:Int)-1)/\bR 7= .slice GA rs.length rc/\Ext H aS/\bH H.length 3 1 false de aS (.slice lC fk.length lD) U/\U.length=fk.length/\eH U/\j2 aS (.slice GA rs.length rc) rs/\eH rs/\f_ rs/\bx rs<iI/\bx (U.take m)=0/\bx (fk.drop m)=bx (U.drop m)*iI+bx rs) fk.length ⟨List.replicate fk.length 0,some ⟨0,0,none⟩,0,[],Nat.le_refl _,by simp,by simp,bq,iW,by simp,fun d aD=>by rw[List.mem_replicate]at aD;omega,(bH.void 0 _ _ 0 _ _ _).row,eH.nil,f_.nil,by simpa[bx]using Lh,by rw[List.take_of_length_le (by simp),Hi],by rw[List.drop_of_length_le (by simp)];simp[bx]⟩ ?_
 rintro m bR c4 aS ⟨U,GA,rc,rs,hm,cN,bV,bl,gI,dQ,x3,LG,Lk,ph,ajk,Bd,Be⟩ K aV
 simp at cN bV
 simp[cN]
 refine bs.bZ (fun hh=>?_) (fun hh=>?_)
 ·refine Exists.elim (⟨m-1,by omega⟩:∃i:Nat,m=i+1) fun i af=>?_
  have hj:(m:Int)-1=(i:Int):=by omega
  have gW:IntKind.i64.wrap ((i:Int)-1)=(i:Int)-1:=b8 (by omega) (by omega)
  refine Exists.elim (⟨_,bz (show i<fk.length by omega)⟩:∃d,fk[i]?=some d) fun hE jQ=>?_
  have xC:fk[i]?.getD 0=hE:=by rw[jQ];rfl
  have vl:hE<10000:=xC▸jM.get i
  have ja:rs.length<=gk.length:=ph.F8 iw (by omega)
  have Mm:=Ext.len bl
  rw[af]at Be Bd
  simp[cN,hj]
  refine cv (ad:=de) (xs:=fk) (n:=i) (a:=hE) (e:=3) (R:=1) (ay:=false) (by simpa using eX.ext bl) (by simp[cN,hj]) jQ (by simp) (by simp) (by simp) (by decide) ?_
  rintro eT nQ rfl
  refine zl (e:=3) (R:=1) (ay:=false) (z:= .int .i64 0) (ad:=de) (a:=hE) (fun aF _=>by simp[de]) (by simpa using jn _) (by simp) (by simp) (by simp) (by rfl) (by rfl) (by rfl) (by decide) (by decide) ?_
  intro v4 bU kT ch
  simp[bV]
  refine PN (k:=aS.length) (e:=3) (R:=1) (ay:=false) (bF:=8) (z:= .int .i64 0) (ad:=de) (xs:=[hE]) (bS:=rs) (by simpa using kT) (by simpa[bV]using LG.ext ch) (fun u y h=>by rw[show u=_ from h];exact jn y) (fun aF dC u y ak h=>h) (by simp) (by simp) (by simp) (by simp) (by decide) (by rfl) (by rfl) (by rfl) (by decide) (by simp;omega) (by have:=Ext.len ch;omega) ?_
  intro agO ahu b5 td cP vC
  have pb:[hE].length+rs.length=(hE::rs).length:=by simp;omega
  rw[pb]at td
  have pB:=cP _ (Nat.le_refl _) ch
  simp only[pb]
  simp
  refine aT.mk (N2 (s:=false) (aK:=hE::rs) td.row (fun d aD=>by
   rcases List.mem_cons.1 aD with rfl | aD
   ·exact vl
   ·exact Lk d aD) (by simp;omega)) ?_
  rintro _ dx ⟨cu,lH,eM,eQ,d3,rfl,ib,ob,hv,tP,yg⟩
  have qg:j2 dx (.slice eM d3.length eQ) d3:=ib.row
  have aA:lH=false/\bx d3=hE+10000*bx rs:=qT (by rw[<-tP];simp[e9,bx]) hv yg
  have lo:bx d3<10000*iI:=by rw[aA.2];omega
  have Nw:=bl.aw (pB.aw cu)
  have mQ:d3.length<=gk.length+1:=by
   refine hv.len (n:=gk.length+1) ?_
   have:=sz iw
   rw[Nat.pow_succ,<-Aq]at*
   omega
  simp
  refine c7.mk (by kernel_rfl) (fun w lN lP c6=>∃bc gz:Nat,w=gz-bc/\bc<gz/\gz<=10000/\lN 9= .int .i64 (bc:Int)/\lN 10= .int .i64 (gz:Int)/\Ext dx c6/\bc*iI<=bx d3/\bx d3<gz*iI) 10000 ⟨0,10000,by omega,by omega,by omega,by simp,by simp,Ext.refl _,by omega,lo⟩ ?_
  rintro w lN lP c6 ⟨bc,gz,rfl,xZ,Vx,eB,gU,cR,hi,ie⟩ QW xi
  simp at eB gU
  have mg:IntKind.i64.wrap ((gz:Int)-(bc:Int))=(gz:Int)-(bc:Int):=b8 (by omega) (by omega)
  simp[eB,gU,mg]
  refine bs.bZ (fun po=>?_) (fun po=>?_)
  ·have nB:IntKind.i64.wrap ((bc:Int)+(gz:Int))=((bc+gz:Nat):Int):=by rw[b8 (by omega) (by omega)];simp
   have l9:((bc:Int)+(gz:Int)).tdiv 2=(((bc+gz)/2:Nat):Int):=by
    rw[show(bc:Int)+(gz:Int)=((bc+gz:Nat):Int) by simp];rfl
   refine Exists.elim (⟨(bc+gz)/2,rfl⟩:∃md,md=(bc+gz)/2) fun md Mu=>?_
   rw[<-Mu]at l9
   have je:IntKind.i64.wrap (md:Int)=(md:Int):=b8 (by omega) (by omega)
   simp[eB,gU,nB,l9,je]
   refine aT.mk (J5 (hI.ext (Nw.aw cR)) iw ic (by omega) (by omega)) ?_
   rintro _ eV ⟨cW,Q5,Rw,d9,rfl,El,D1,vc,tE⟩
   rw[<-Aq]at tE
   have VQ:d9.length<=gk.length+1:=by
    refine vc.len (n:=gk.length+1) ?_
    have o:=sz iw
    have aa:iI*md<=iI*9999:=Nat.mul_le_mul_left _ (by omega)
    rw[tE,Nat.pow_succ,<-Aq]at*
    omega
   simp
   refine aT.mk (Pr El (qg.ext (cR.aw cW)) D1 ob vc hv (by omega) (by omega)) ?_
   rintro _ k9 ⟨rfl,rfl⟩
   simp
   refine bs.bZ (fun ae=>?_) (fun ae=>?_)
   ·have hle:md*iI<=bx d3:=by
     rw[Nat.mul_comm,<-tE]
     by_cases o:bx d9<bx d3
     ·omega
     ·rw[if_neg o]at ae
      by_cases aa:bx d9=bx d3
      ·omega
      ·rw[if_neg aa]at ae;omega
    simp
    exact xi (gz-md) _ _ _ (by omega) ⟨md,gz,rfl,by omega,Vx,by simp,by simp[gU],cR.aw cW,hle,ie⟩
   ·have aZ:bx d3<md*iI:=by
     rw[Nat.mul_comm,<-tE]
     by_cases o:bx d9<bx d3
     ·rw[if_pos o]at ae;omega
     ·by_cases aa:bx d9=bx d3
      ·rw[if_neg o,if_pos aa]at ae;omega
      ·omega
    simp
    exact xi (md-bc) _ _ _ (by omega) ⟨bc,md,rfl,by omega,by omega,by simp[eB],by simp,cR.aw cW,hi,aZ⟩
  ·obtain rfl:gz=bc+1:=by omega
   have VY:bc<10000:=by omega
   have jP:=b7.ext (ad:=bH H.length 3 1 false de) gI (pB.aw (cu.aw cR))
   have yz:=Nw.aw cR
   simp[cN,hj,eB]
   refine kp (k:=H.length) (e:=3) (R:=1) (ay:=false) (n:=i) (ad:=de) (xs:=U) (a:=bc) (by simpa using jP) (by simp[cN,hj]) (by omega) (by simp[de,eB]) (by simpa[eB]using jn _) (by simp) (fun _ _ _ _ _ h=>h) (by simp) (by simp) (by simp) (by decide) ?_
   rintro oS eV eW cW pt rM-
   simp at eW pt
   have Nu:=cW _ (Nat.le_refl _) yz
   have T3:=b7.ext (ad:=bH b5.length 3 1 false de) ib cR
   have EY:=Ext.len pB
   have ajg:0<b5.length:=td.pos (by simp)
   have AD:j2 eV (.slice eM d3.length eQ) d3:=(T3.beside (by omega) pt (fun b aH ag df=>by
    have o:=(ib.ge ag aH).1
    have aa:=(gI.ge df aH).2
    omega) fun _ _ h=>h).row
   have Vy:bx d3<(bc+1)*iI:=ie
   simp[eB]
   refine aT.mk (J5 (hI.ext Nu) iw ic (by omega) (by omega)) ?_
   rintro _ fz ⟨dy,Q5,Rw,d9,rfl,El,D1,vc,tE⟩
   rw[<-Aq,Nat.mul_comm]at tE
   simp
   refine aT.mk (Dj (AD.ext dy) El ob D1 (by omega) (by omega) (vc.F8 ob (by omega))) ?_
   rintro _ k9 ⟨gL,agN,ahs,d10,rfl,Ej,Tz,W4,aiW⟩
   simp
   refine aT.mk (qI (s:=false) Ej Tz (by omega)) ?_
   rintro _ iS ⟨gq,abp,Q2,Rt,d11,rfl,Uc,TA,LH,Xu,WG⟩
   have jL:abp=false/\bx d11=bx d10:=qT (by rw[<-Xu];simp[e9]) LH WG
   have vP:=dy.aw (gL.aw gq)
   rw[Nat.succ_mul]at Vy
   simp[cN,hj,gW]
   refine aV i _ _ _ (by omega) ⟨U.set i bc,Q2,Rt,d11,by omega,by simp,by simp,Nu.aw vP,b7.ext (ad:=bH _ _ _ _ de) eW vP,by simp[dQ],x3.set VY,Uc,TA,LH,by omega,?_,?_⟩
   ·rw[List.take_set_of_le (Nat.le_refl i)]
    rw[uk]at Bd
    omega
   ·rw[wq (aK:=fk) (by omega),wq (aK:=U.set i bc) (by simp;omega),xC,List.getElem?_set_self (by omega),List.drop_set_of_lt (by omega),jL.2,W4,tE]
    exact R3 Be aA.2 hi
 ·have kd:m=0:=by omega
  have MH:bx fk=bx U*iI+bx rs:=by rw[kd]at Be;simpa using Be
  have ja:rs.length<=gk.length:=ph.F8 iw (by omega)
  have A5:=qI (s:=s1) (aK:=U) (a:=lC) (c:=lD) (H:=aS) (by rw[dQ];exact gI.row) x3 (by omega)
  rw[dQ]at A5
  simp
  refine aT.mk A5 ?_
  rintro aa2 bN ⟨bK,av⟩
  simp[bV]
  refine aT.mk (qI (s:=false) (LG.ext bK) Lk (by omega)) ?_
  rintro _ bU ⟨ch,pM,p1,p6,d4,rfl,te,Li,u_,yF,Bt⟩
  have bj:pM=false/\bx d4=bx rs:=qT (by rw[<-yF];simp[e9]) u_ Bt
  have LM:ed bU (.agg #[.bool pM,.slice p1 d4.length p6]) (bx rs):=⟨pM,p1,p6,d4,rfl,te,Li,u_,by rw[bj.1,bj.2];rfl,Bt⟩
  have FH:=bl.aw (bK.aw ch)
  simp
  refine c2.mk av.whole ?_
  simp
  have cP:Ext bU (bU++[.dead,.dead]):=Ext.more bU (by simp)
  refine cc.join (by kernel_rfl) (fun jI lO dx=>dx=bU++[.dead,.dead]/\jI 83= .bool (s1&&decide (0<d4.length))) ?_ ?_
  ·rintro cZ c3-
   cases s1 with
   | false=>
    simp
    exact c3 _ _ _ ⟨rfl,by simp⟩
   | true=>
    simp
    refine ck (ad:=de) (xs:=d4) (by simpa using te.ext cP) (by simp) ?_
    simp
    exact c3 _ _ _ ⟨rfl,by simp⟩
  ·rintro jI lO dx ⟨rfl,DZ⟩
   simp only[hl]at DZ
   simp at DZ
   simp[DZ]
   refine bs.mk (fun ag=>?_) (fun ag=>?_)
   ·have kV:s1=true/\0<d4.length:=by simpa using ag
    have ajl:0<bx rs:=by
     rcases Nat.eq_zero_or_pos (bx rs)with h | h
     ·rw[<-bj.2]at h
      have:=u_.zero.1 h
      rw[this]at kV
      simp at kV
     ·exact h
    have pC:=cP
    have SZ:b0 (N+2) x:=Ti.mono (by omega)
    have KI:b0 (N+2) y:=Tj.mono (by omega)
    have rT:bx U<=bx fk:=by
     have:bx U*1<=bx U*iI:=Nat.mul_le_mul_left _ Lh
     omega
    have S1:b0 (N+2) (e9 s1 (bx U)):=SZ.le (by rw[Cp,ij,Cp];exact rT)
    have S2:b0 (N+2) (bx rs:Int):=KI.le (by omega)
    simp
    refine aT.mk (sR (v:=1) (by omega) (by omega)) ?_
    rintro u c6 ⟨cR,hu⟩
    refine⟨cR,?_⟩
    simp
    refine aT.mk (Dp (N:=N+2) (av.ext (ch.aw (cP.aw cR))) hu S1 (b0.small (by decide) (by omega)) (by omega)) ?_
    rintro _ eV ⟨cW,MZ⟩
    refine⟨cW,?_⟩
    simp
    have r2:=cP.aw (cR.aw cW)
    refine aT.mk (Dp (N:=N+2) (s9.ext (FH.aw r2)) (LM.ext r2) KI S2 (by omega)) ?_
    rintro _ fz ⟨dy,M4⟩
    simp
    refine c2.mk MZ.whole ?_
    simp
    refine c2.mk M4.whole ?_
    simp[bd]
    have Xo:=FH.aw (r2.aw dy)
    have he:x= -((bx U*iI+bx rs:Nat):Int):=by rw[ij,kV.1,MH];rfl
    have FT:y=(iI:Int):=by omega
    have oA:x.fdiv y=e9 s1 (bx U)-1/\x.fmod y=y-(bx rs:Int):=by
     refine KN aI ?_ (by omega) (by omega)
     rw[he,kV.1,FT]
     simp only[e9,if_true,Int.natCast_add,Int.natCast_mul]
     rw[Int.mul_sub,Int.mul_neg,Int.mul_comm (iI:Int)]
     omega
    exact aC _ _ ⟨Xo,_,_,rfl,by rw[oA.1];exact MZ.ext dy,by rw[oA.2];exact M4⟩
   ·have kV:s1=false\/d4.length=0:=by
     cases s1 with
     | false=>exact .inl rfl
     | true=>simp at ag;exact .inr (by simp[ag])
    simp
    refine c2.mk av.whole ?_
    simp[bd]
    have FT:y=(iI:Int):=by omega
    have oA:x.fdiv y=e9 s1 (bx U)/\x.fmod y=(bx rs:Int):=by
     refine KN aI ?_ (by omega) (by omega)
     rw[ij,MH,FT]
     rcases kV with h | h
     ·rw[h]
      simp only[e9,Bool.false_eq_true,if_false,Int.natCast_add,Int.natCast_mul]
      rw[Int.mul_comm (iI:Int)]
      omega
     ·have gK:bx rs=0:=by
       rw[<-bj.2,List.eq_nil_of_length_eq_zero h];rfl
      rw[gK]
      cases s1
      ·simp only[e9,Bool.false_eq_true,if_false,Int.natCast_add,Int.natCast_mul]
       rw[Int.mul_comm (iI:Int)]
       simp
      ·simp only[e9,if_true,Int.natCast_add,Int.natCast_mul]
       rw[Int.mul_neg,Int.mul_comm (iI:Int)]
       simp
    exact aC _ _ ⟨FH.aw cP,_,_,rfl,by rw[oA.1];exact av.ext (ch.aw cP),by rw[oA.2];exact LM.ext cP⟩
theorem JY{v w:Value}{x y:Int}{N:Nat}{H:ab}(bw:ed H v x)(bD:ed H w y)(lj:b0 N x)(lk:b0 N y)(bP:N<=100000000):aO prog 69 [v,w] H (fun u H1=>Ext H H1/\ed H1 u (Int.gcd x y:Nat)):=by
 refine aO.b9 fun Q aC=>?_
 have w_:=bw
 have s9:=bD
 obtain⟨s1,b4,cm,d1,rfl,-⟩:=w_
 obtain⟨s2,cM,cI,d2,rfl,-⟩:=s9
 apply XQ (by simp)
 simp[Iv]
 have bu:Ext H (H++[.dead,.dead,.dead]):=Ext.more H (by simp)
 refine aT.mk (De (bw.ext bu)) ?_
 rintro u H1 ⟨bq,hu⟩
 refine⟨bq,?_⟩
 try simp
 refine aT.mk (De (bD.ext (bu.aw bq))) ?_
 rintro w aS ⟨bl,hw⟩
 try simp
 refine c2.mk hu.whole ?_
 try simp
 refine c2.mk hw.whole ?_
 try simp
 have jY:=bu.aw (bq.aw bl)
 refine c7.mk (by kernel_rfl) (fun m c_ en bN=>∃p q:Nat,m=q/\Ext aS bN/\ed bN (en 2) p/\ed bN (en 3) q/\Nat.gcd p q=Int.gcd x y/\b0 N p/\b0 N q) y.natAbs ⟨x.natAbs,y.natAbs,rfl,Ext.refl _,by simpa using hu.ext bl,by simpa using hw,rfl,lj.le (by simp),lk.le (by simp)⟩ ?_
 rintro m c_ en bN ⟨p,q,rfl,bK,aU,av,aX,Tb,DJ⟩ K aV
 have Wp:=av
 obtain⟨pM,p1,p6,d4,oc,te,Li,u_,yF,Bt⟩:=Wp
 simp at oc aU av
 simp[oc]
 refine ck (ad:=de) (xs:=d4) (by simpa using te) (by simp) ?_
 try simp
 have bj:=qT (n:=m) yF u_ Bt
 refine bs.bZ (fun aZ=>?_) (fun aZ=>?_)
 ·have Ww:(0:Int)<(m:Int):=by
   rcases Nat.eq_zero_or_pos m with h | h
   ·rw[<-bj.2]at h
    have:=u_.zero.1 h
    rw[this]at aZ
    simp at aZ
   ·omega
  try simp
  refine aT.mk (Dg aU av Tb DJ bP Ww) ?_
  rintro _ b5 ⟨cP,aa2,ajX,rfl,Wy,Bs⟩
  have Vn:((p:Int)).fmod (m:Int)=((p % m:Nat):Int):=by
   rw[Int.fmod_eq_emod_of_nonneg _ (by omega)];rfl
  rw[Vn]at Bs
  try simp
  refine c2.mk Wy.whole ?_
  try simp
  refine c2.mk Bs.whole ?_
  try simp
  refine c2.mk av.whole ?_
  try simp
  refine c2.mk Bs.whole ?_
  try simp
  have fu:Ext b5 (b5++[.dead,.dead]):=Ext.more b5 (by simp)
  have rO:p % m<m:=Nat.mod_lt _ (by omega)
  refine aV (p % m) _ _ _ rO ⟨m,p % m,rfl,bK.aw (cP.aw fu),?_,by simpa using Bs.ext fu,?_,DJ,DJ.le (by omega)⟩
  ·simpa using av.ext (cP.aw fu)
  ·rw[<-aX,Nat.gcd_comm p m,Nat.gcd_rec m p,Nat.gcd_comm]
 ·have kd:m=0:=by
   have:d4=[]:=List.eq_nil_of_length_eq_zero (by omega)
   rw[<-bj.2,this];rfl
  have Bj:p=Int.gcd x y:=by rw[<-aX,kd];simp
  try simp
  refine c2.mk aU.whole ?_
  simp[bd]
  exact aC _ _ ⟨jY.aw bK,by rw[<-Bj];exact aU⟩
def gG(H:ab)(v:Value)(n d:Int):Prop:=∃s1 b4 cB cm s2 cM cL cI,v= .agg #[.bool s1,.slice b4 cB cm,.bool s2,.slice cM cL cI]/\ed H (.agg #[.bool s1,.slice b4 cB cm]) n/\ed H (.agg #[.bool s2,.slice cM cL cI]) d
theorem gG.ext{H H1:ab}{v:Value}{n d:Int}(h:gG H v n d)(J:Ext H H1):gG H1 v n d:=by
 obtain⟨s1,b4,cB,cm,s2,cM,cL,cI,e,o,aa⟩:=h
 exact⟨s1,b4,cB,cm,s2,cM,cL,cI,e,o.ext J,aa.ext J⟩
theorem gG.whole{H:ab}{v:Value}{n d:Int}(h:gG H v n d):Whole prog 42 v:=by
 obtain⟨s1,b4,cB,cm,s2,cM,cL,cI,rfl,-⟩:=h
 exact⟨by rfl,by simp[Value.cells,Value.oneCell'],by simp[eS]⟩
theorem ed.shape{H:ab}{v:Value}{z:Int}(h:ed H v z):∃s a n c,v= .agg #[.bool s,.slice a n c]:=by
 obtain⟨s,a,c,aK,h,-⟩:=h
 exact⟨_,_,_,_,h⟩
theorem CA{d:Nat}{x y:Operand}{r:List bG}{F:Fr}{H:ab}{Q:Fr->ab->Prop}{n m:Int}{ax:bb (dF d 42 [(0,x),(1,y)]::r) Q}(J:ed H (aq F x) n)(aI:ed H (aq F y) m)
  (K:∀u,gG H u n m->ba prog r Q .mk (a2 F d u) H):ba prog (dF d 42 [(0,x),(1,y)]::r) Q ax F H:=by
 obtain⟨s1,b4,cB,cm,an⟩:=J.shape
 obtain⟨s2,cM,cL,cI,hw⟩:=aI.shape
 have:=K _ ⟨s1,b4,cB,cm,s2,cM,cL,cI,rfl,an▸J,hw▸aI⟩
 simp[an,hw]
 exact this
attribute [-simp] sQ
theorem zY{n:Int}{H:ab}(o: -9223372036854775808<=n)(aa:n<9223372036854775808):aO prog 19 [.int .i64 n] H (fun u H1=>Ext H H1/\gG H1 u n 1):=by
 refine aO.b9 fun Q aC=>?_
 apply X1 (by simp)
 simp[IG]
 have bu:=Ext.dead H
 refine aT.mk (sR o aa) ?_
 rintro u H1 ⟨bq,hu⟩
 try simp
 refine aT.mk (sR (v:=1) (by omega) (by omega)) ?_
 rintro w aS ⟨bl,hw⟩
 try simp
 refine CA (n:=n) (m:=1) (by simpa using hu.ext bl) (by simpa using hw) ?_
 intro q av
 try simp
 refine c2.mk av.whole ?_
 simp[bd]
 exact aC _ _ ⟨bu.aw (bq.aw bl),av⟩
theorem JV{v w:Value}{cB d1 cL d2:Int}{N:Nat}{H:ab}(bw:gG H v cB d1)(bD:gG H w cL d2)(f1:b0 N cB)(f2:b0 N d1)(f3:b0 N cL)(f4:b0 N d2)(bP:N<=1000000000):aO prog 26 [v,w] H (fun u H1=>Ext H H1/\gG H1 u (cB*d2+cL*d1) (d1*d2)):=by
 refine aO.b9 fun Q aC=>?_
 obtain⟨s1,b4,yM,cm,s2,cM,yN,cI,rfl,l_,hL⟩:=bw
 obtain⟨lH,eM,NZ,eQ,pM,p1,N0,p6,rfl,nv,kW⟩:=bD
 apply XM (by simp)
 simp[Ir]
 have bu:Ext H (H++[.dead,.dead,.dead]):=Ext.more H (by simp)
 refine aT.mk (uF (l_.ext bu) (kW.ext bu) f1 f4 bP) ?_
 rintro u H1 ⟨bq,hu⟩
 refine⟨bq,?_⟩
 try simp
 have oN:=bu.aw bq
 refine aT.mk (uF (nv.ext oN) (hL.ext oN) f3 f2 bP) ?_
 rintro w aS ⟨bl,hw⟩
 refine⟨bl,?_⟩
 try simp
 refine aT.mk (JU (N:=N+N) (hu.ext bl) hw (f1.mul f4) (f3.mul f2) (by omega)) ?_
 rintro z bN ⟨bK,aM⟩
 refine⟨bK,?_⟩
 try simp
 have jZ:=oN.aw (bl.aw bK)
 refine aT.mk (uF (hL.ext jZ) (kW.ext jZ) f2 f4 bP) ?_
 rintro y bU ⟨ch,aI⟩
 try simp
 refine CA (n:=cB*d2+cL*d1) (m:=d1*d2) (by simpa using aM.ext ch) (by simpa using aI) ?_
 intro q av
 try simp
 refine c2.mk av.whole ?_
 simp[bd]
 exact aC _ _ ⟨jZ.aw ch,av⟩
theorem JX{v w:Value}{cB d1 cL d2:Int}{N:Nat}{H:ab}(bw:gG H v cB d1)(bD:gG H w cL d2)(f1:b0 N cB)(f2:b0 N d1)(f3:b0 N cL)(f4:b0 N d2)(bP:N<=1000000000):aO prog 17 [v,w] H (fun u H1=>Ext H H1/\u= .int .i64 (if cB*d2<cL*d1 then-1 else if cB*d2=cL*d1 then 0 else 1)):=by
 refine aO.b9 fun Q aC=>?_
 obtain⟨s1,b4,yM,cm,s2,cM,yN,cI,rfl,l_,hL⟩:=bw
 obtain⟨lH,eM,NZ,eQ,pM,p1,N0,p6,rfl,nv,kW⟩:=bD
 apply XO (by simp)
 simp[It]
 have bu:Ext H (H++[.dead,.dead]):=Ext.more H (by simp)
 refine aT.mk (uF (l_.ext bu) (kW.ext bu) f1 f4 bP) ?_
 rintro u H1 ⟨bq,hu⟩
 refine⟨bq,?_⟩
 try simp
 have oN:=bu.aw bq
 refine aT.mk (uF (nv.ext oN) (hL.ext oN) f3 f2 bP) ?_
 rintro w aS ⟨bl,hw⟩
 try simp
 refine aT.mk (Df (N:=N+N) (hu.ext bl) hw (f1.mul f4) (f3.mul f2) (by omega)) ?_
 rintro z bN ⟨bK,rfl⟩
 simp[bd]
 exact aC _ _ ⟨oN.aw (bl.aw bK),rfl⟩
theorem Rg{v:Value}{n d:Int}{N:Nat}{H:ab}(bw:gG H v n d)(aD:0<d)(f1:b0 N n)(f2:b0 N d)(bP:N<=100000000):aO prog 43 [v] H (fun u H1=>Ext H H1/\gG H1 u (Rat.divInt n d).num (Rat.divInt n d).den):=by
 refine aO.b9 fun Q aC=>?_
 obtain⟨s1,b4,yM,cm,s2,cM,yN,cI,rfl,l_,hL⟩:=bw
 apply XS (by simp)
 simp[Ix]
 have bu:Ext H (H++[.dead,.dead]):=Ext.more H (by simp)
 have xP:0<Int.gcd n d:=Int.gcd_pos_of_ne_zero_right _ (by omega)
 have ES:Int.gcd n d<=d.natAbs:=Nat.le_of_dvd (by omega) (Int.gcd_dvd_natAbs_right n d)
 have rm:b0 N (Int.gcd n d:Nat):=f2.le (by simpa using ES)
 refine aT.mk (JY (l_.ext bu) (hL.ext bu) f1 f2 bP) ?_
 rintro u H1 ⟨bq,hu⟩
 try simp
 refine c2.mk hu.whole ?_
 try simp
 have FO:=Ext.dead H1
 have oN:=bu.aw (bq.aw FO)
 refine aT.mk (Dg (l_.ext oN) (hu.ext FO) f1 rm bP (by omega)) ?_
 rintro _ aS ⟨bl,a0,eg,rfl,ya,ye⟩
 try simp
 refine c2.mk ya.whole ?_
 try simp
 refine c2.mk ye.whole ?_
 try simp
 have NI:Ext aS (aS++[.dead,.dead]):=Ext.more aS (by simp)
 have gr:=bl.aw NI
 refine aT.mk (Dg (hL.ext (oN.aw gr)) (hu.ext (FO.aw gr)) f2 rm bP (by omega)) ?_
 rintro _ bN ⟨bK,a4,fZ,rfl,oH,qw⟩
 try simp
 refine c2.mk oH.whole ?_
 try simp
 refine c2.mk qw.whole ?_
 try simp
 have FP:Ext bN (bN++[.dead,.dead]):=Ext.more bN (by simp)
 have o:=w2 n d.natAbs (by omega)
 have AS:((d.natAbs:Nat):Int)=d:=by omega
 rw[AS]at o
 have bk:n.fdiv (Int.gcd n d:Nat)=(Rat.divInt n d).num:=by
  rw[o.1,Int.fdiv_eq_ediv_of_nonneg _ (by omega)];rfl
 have bp:d.fdiv (Int.gcd n d:Nat)=((Rat.divInt n d).den:Int):=by
  rw[o.2,Int.fdiv_eq_ediv_of_nonneg _ (by omega),Int.natCast_ediv,AS];rfl
 rw[bk]at ya
 rw[bp]at oH
 refine CA (n:=(Rat.divInt n d).num) (m:=(Rat.divInt n d).den) (by simpa using ya.ext (NI.aw (bK.aw FP))) (by simpa using oH.ext FP) ?_
 intro q av
 try simp
 refine c2.mk av.whole ?_
 simp[bd]
 exact aC _ _ ⟨oN.aw (gr.aw (bK.aw FP)),av⟩
end Go.dq
end
section
set_option maxRecDepth 8000
set_option maxHeartbeats 1000000
namespace Go.dq
open Go.Proofs
open Go.Proofs.Tryz (prog)
attribute [-simp] il jk k3
theorem ed.zero(H:ab):ed H (.agg #[.bool false,.slice none 0 0]) 0:=⟨false,none,0,[],rfl,Row.nil _ _ _ _ _,eH.nil,f_.nil,rfl,fun _=>rfl⟩
theorem Sy{l:List Nat}{k bc n:Nat}{aK:List Nat}(hi:bc<=k)(ak:k<=l.length)(bj:bc=0\/k=bc+4)(aJ:aK.length=n)(h:c8 l=c8 (l.take k)*10000^n+bx aK):c8 l=c8 (l.take bc)*10000^(n+1)+bx (aK++[c8 ((l.drop bc).take (k-bc))]):=by
 have e:l.take k=l.take bc++(l.drop bc).take (k-bc):=by
  have:=List.take_append_drop bc (l.take k)
  rw[List.take_take,Nat.min_eq_left hi,List.drop_take]at this
  exact this.symm
 have gd:((l.drop bc).take (k-bc)).length=k-bc:=by simp;omega
 rw[h,e,w4,gd,wu,aJ,Nat.add_mul]
 rcases bj with rfl | rfl
 ·simp[c8,Nat.mul_comm];omega
 ·have bk:10000^(n+1)=10000^n*10000:=by rw[Nat.pow_succ]
  have bp:(10:Nat)^4=10000:=by decide
  rw[show bc+4-bc=4 by omega,bk,bp]
  generalize 10000^n=P
  generalize c8 (l.take bc)=X
  generalize c8 ((l.drop bc).take 4)=C
  rw[Nat.mul_comm C P,Nat.mul_assoc,Nat.mul_comm 10000 P]
  omega
theorem Ku{l:List Nat}{H:ab}(ar:Bytes l)(hlen:l.length<4611686018427387904):
  aO prog 80 [.string (b2 l)] H (fun u H1=>Ext H H1/\∃v z,u= .tuple #[v,.bool (decide (hU l))]/\ed H1 v z/\(hU l->z=c8 l)/\(¬hU l->z=0)):=by
 refine aO.b9 fun Q aC=>?_
 apply X2 (by simp)
 simp[IH]
 have bu:Ext H (H++[.dead]):=Ext.dead H
 have fail:∀nW,Ext H nW->¬hU l->Q (.tuple #[.agg #[.bool false,.slice none 0 0],.bool false]) nW:=fun nW J gh=>aC _ _ ⟨J,_,0,by rw[decide_eq_false gh],ed.zero _,fun h=>absurd h gh,fun _=>rfl⟩
 refine cc.join (by kernel_rfl) (fun az bE H1=>H1=H++[.dead]/\∃b,az 25= .bool b/\(b=false↔(l≠[]/\¬(l.head?=some 48/\1<l.length)/\l.length<=4000))) ?_ ?_
 ·rintro K aV-
  simp
  refine h6 (l:=l) (by simp) (by rfl) ?_
  by_cases aH:l.length<1
  ·have hH:((l.length:Int)<1)=True:=by simp;omega
   simp[hH]
   refine aV _ _ _ ⟨rfl,true,by simp,?_⟩
   have:l=[]:=List.eq_nil_of_length_eq_zero (by omega)
   simp[this]
  ·have hH:((l.length:Int)<1)=False:=by simp;omega
   have cF:l≠[]:=by rintro rfl;simp at aH
   simp[hH]
   refine h6 (l:=l) (by simp) (by rfl) ?_
   by_cases o:4000<l.length
   ·have bk:((4000:Int)<(l.length:Int))=True:=by simp;omega
    simp[bk]
    refine aV _ _ _ ⟨rfl,true,by simp,?_⟩
    simp;omega
   ·have bk:((4000:Int)<(l.length:Int))=False:=by simp;omega
    simp[bk]
    refine nP (n:=0) (mZ:= .i64) (l:=l) (by simp) ar (by simp) (by omega) (by rfl) ?_
    have qn:l.head?=some (l[0]?.getD 0):=by
     rw[List.head?_eq_getElem?,bz (by omega)];rfl
    by_cases aa:l[0]?.getD 0=48
    ·have bp:(((l[0]?.getD 0:Nat):Int)=48)=True:=by simp;omega
     simp[bp]
     refine h6 (l:=l) (by simp) (by rfl) ?_
     simp
     refine aV _ _ _ ⟨rfl,decide (1<l.length),by simp;omega,?_⟩
     rw[qn,aa]
     simp[cF];omega
    ·have bp:(((l[0]?.getD 0:Nat):Int)=48)=False:=by simp;omega
     simp[bp]
     refine aV _ _ _ ⟨rfl,false,by simp,?_⟩
     rw[qn]
     simp[cF,aa];omega
 rintro az bE H1 ⟨rfl,b,uW,ag⟩
 simp at uW
 simp[uW]
 refine bs.mk (fun l5=>?_) (fun l5=>?_)
 ·simp[bd]
  refine fail _ bu fun h=>?_
  rw[ag.2 ⟨h.2.1,h.2.2.1,h.2.2.2⟩]at l5
  cases l5
 have gC:=ag.1 l5
 simp
 refine h6 (l:=l) (by simp) (by rfl) ?_
 simp
 refine c7.mk (by kernel_rfl) (fun m bR c4 aS=>∃(k:Nat) (a:Int) (aK:List Nat) (ef:Option Addr) (ez:Nat),m=k/\k<=l.length/\bR 5= .int .i64 a/\(0<a->a=k)/\(a<=0->k=0)/\ -4<=a/\c4 4= .agg #[.bool false,.slice ef aK.length ez]/\bH H.length 3 1 false de aS (.slice ef aK.length ez) aK/\eH aK/\(∀c∈l.drop k,fr c)/\c8 l=c8 (l.take k)*10000^aK.length+bx aK/\Ext H aS/\aK.length<=l.length-k) l.length ⟨l.length,l.length,[],none,0,rfl,Nat.le_refl _,by simp,fun _=>rfl,by omega,by omega,by simp,bH.nil _ _ _ _ _ _,eH.nil,by simp,by simp[bx],Ext.more H (by simp),by simp⟩ ?_
 rintro m bR c4 aS ⟨k,a,aK,ef,ez,rfl,ak,bJ,UI,UJ,aix,Au,cw,ej,rH,an,bl,iY⟩ K aV
 simp at bJ Au
 simp[bJ]
 refine bs.bZ (fun LN=>?_) (fun LN=>?_)
 ·have aiy:=UI LN
  refine Exists.elim (⟨m-4,rfl⟩:∃bc,bc=m-4) fun bc hi=>?_
  have ai8:(if(a-4)>0 then(a-4)else 0)=(bc:Int):=by split<;>omega
  have V3:(if(0:Int)<a-4 then a-4 else 0)=(bc:Int):=by split<;>omega
  have Ms:(if 4<a then a-4 else 0)=(bc:Int):=by split<;>omega
  have mg:IntKind.i64.wrap (a-4)=a-4:=b8 (by omega) (by omega)
  simp[bJ,mg,V3,Ms]
  refine c7.mk (by kernel_rfl) (fun w c_ en bN=>∃i:Nat,w=m-i/\bc<=i/\i<=m/\c_ 7= .int .i64 (i:Int)/\bN=aS/\(∀c∈(l.drop bc).take (i-bc),fr c)/\c_ 6= .int .i64 (c8 ((l.drop bc).take (i-bc)):Nat)) (m-bc) ⟨bc,rfl,Nat.le_refl _,by omega,by simp[Ms],rfl,by simp,by simp[c8]⟩ ?_
  rintro w c_ en bN ⟨i,rfl,ai2,pq,bV,rfl,rG,ds⟩ nb fN
  simp at bV ds
  have VB:((i:Int)<a)=(i<m):=by simp;omega
  simp[bJ,bV,VB]
  have gf:i-bc<=4:=by omega
  have Fc:(10:Nat)^(i-bc)<=10^4:=Nat.pow_le_pow_right (by decide) gf
  have jS:=qa rG
  have gd:((l.drop bc).take (i-bc)).length=i-bc:=by simp;omega
  rw[gd]at jS
  refine bs.bZ (fun aZ=>?_) (fun aZ=>?_)
  ·have cK:i<l.length:=by omega
   refine Exists.elim (⟨_,rfl⟩:∃c,c=l[i]?.getD 0) fun c ae=>?_
   have aiG:c<256:=by
    rw[ae,bz cK]
    exact ar _ (List.getElem_mem cK)
   have U7:(l.drop bc)[i-bc]?.getD 0=c:=by rw[List.getElem?_drop,show bc+(i-bc)=i by omega,ae]
   try simp
   refine cc.join (by kernel_rfl) (fun cT dO bU=>bU=bN/\cT 51= .bool (decide (¬fr c))) ?_ ?_
   ·rintro cZ c3-
    simp[bV]
    refine nP (n:=i) (mZ:= .i64) (l:=l) (by simp) ar (by simp[bV]) cK (by rfl) ?_
    rw[<-ae]
    rcases Nat.lt_or_ge c 48 with o | o
    ·have bk:((c:Int)<48)=True:=by simp;omega
     simp[bk]
     refine c3 _ _ _ ⟨rfl,?_⟩
     simp[fr];omega
    ·have bk:((c:Int)<48)=False:=by simp;omega
     simp[bk,bV]
     refine nP (n:=i) (mZ:= .i64) (l:=l) (by simp) ar (by simp[bV]) cK (by rfl) ?_
     rw[<-ae]
     rcases Nat.lt_or_ge 57 c with aa | aa
     ·have bp:((57:Int)<c)=True:=by simp;omega
      simp[bp]
      refine c3 _ _ _ ⟨rfl,?_⟩
      simp[fr];omega
     ·have bp:((57:Int)<c)=False:=by simp;omega
      simp[bp]
      refine c3 _ _ _ ⟨rfl,?_⟩
      simp[fr];omega
   ·rintro cT dO bU ⟨rfl,DW⟩
    simp only[hl]at DW
    simp at DW
    simp[DW]
    refine bs.bZ (fun aX=>?_) (fun aX=>?_)
    ·have AR:48<=c/\c<=57:=aX
     refine Exists.elim (⟨_,rfl⟩:∃D,D=c8 ((l.drop bc).take (i-bc))) fun D xc=>?_
     rw[<-xc]at ds jS
     have Ar:D<1000:=by
      have:(10:Nat)^(i-bc)<=10^3:=Nat.pow_le_pow_right (by decide) (by omega)
      omega
     have mW:IntKind.u8.wrap ((c:Int)-48)=((c-48:Nat):Int):=by rw[sB (by omega) (by omega)];omega
     have vO:IntKind.i64.wrap (10*(D:Int))=10*(D:Int):=b8 (by omega) (by omega)
     have Xe:IntKind.i64.wrap ((c-48:Nat):Int)=((c-48:Nat):Int):=b8 (by omega) (by omega)
     have Xc:IntKind.i64.wrap (10*(D:Int)+((c-48:Nat):Int))=10*(D:Int)+((c-48:Nat):Int):=b8 (by omega) (by omega)
     have gW:IntKind.i64.wrap ((i:Int)+1)=((i+1:Nat):Int):=by rw[b8 (by omega) (by omega)];simp
     simp[ds,bV,vO]
     refine nP (n:=i) (mZ:= .i64) (l:=l) (by simp) ar (by simp[bV]) cK (by rfl) ?_
     rw[<-ae]
     simp[bV,mW,Xe,Xc,gW]
     refine fN (m-(i+1)) _ _ _ (by omega) ⟨i+1,rfl,by omega,by omega,by simp,rfl,?_,?_⟩
     ·rw[show i+1-bc=(i-bc)+1 by omega,List.take_add_one]
      intro dY g3
      rcases List.mem_append.1 g3 with g3 | g3
      ·exact rG dY g3
      ·rw[List.getElem?_drop,show bc+(i-bc)=i by omega,bz cK]at g3
       simp at g3
       have:c=l[i]:=by rw[ae,bz cK];rfl
       rw[g3,<-this];exact aX
     ·rw[show i+1-bc=(i-bc)+1 by omega,KD (by simp;omega),U7,<-xc]
      simp;omega
    ·simp[bd]
     refine fail _ bl fun h=>aX ?_
     have:c∈l:=by
      rw[ae,bz cK]
      exact List.getElem_mem cK
     exact h.1 c this
  ·have VA:i=m:=by omega
   rw[VA]at rG jS ds
   refine Exists.elim (⟨_,rfl⟩:∃D,D=c8 ((l.drop bc).take (m-bc))) fun D xc=>?_
   rw[<-xc]at ds jS
   have aji:(10:Nat)^(m-bc)<=10^4:=Nat.pow_le_pow_right (by decide) (by omega)
   have Ar:D<10000:=by
    have:(10:Nat)^4=10000:=by decide
    omega
   have jB:=Ext.len bl
   simp[Au,ds]
   refine zo (k:=H.length) (e:=3) (R:=1) (ay:=false) (bF:=8) (z:= .int .i64 0) (ad:=de) (xs:=aK) (a:=D) (by simpa using cw) (by simp[de,ds]) (by simpa[ds]using jn _) (by simp) (fun _ _ _ _ _ h=>h) (by simp) (by simp) (by simp) (by simp) (by simp) (by rfl) (by rfl) (by rfl) (by rfl) (by decide) (by decide) (by decide) (by omega) (by omega) ?_
   intro mj wN wX dx kB cu qq
   simp[Au,bJ,mg]
   refine aV bc _ _ _ (by omega) ⟨bc,a-4,aK++[D],wN,wX,rfl,by omega,by simp,fun h=>by omega,fun h=>by omega,by omega,by simp,by simpa using kB,ej.snoc Ar,?_,?_,cu _ (Nat.le_refl _) bl,by simp;omega⟩
   ·intro dY g3
    have e:l.drop bc=(l.drop bc).take (m-bc)++l.drop m:=by
     have:=List.take_append_drop (m-bc) (l.drop bc)
     rw[List.drop_drop,show bc+(m-bc)=m by omega]at this
     exact this.symm
    rw[e]at g3
    rcases List.mem_append.1 g3 with g3 | g3
    ·exact rG dY g3
    ·exact rH dY g3
   ·rw[List.length_append,List.length_singleton,xc]
    exact Sy (by omega) ak (by omega) rfl an
 ·have pr:=UJ (by omega)
  rw[pr]at rH an
  simp[c8]at rH
  have Lj:hU l:=⟨rH,gC⟩
  simp[Au]
  refine aT.mk (qI (s:=false) cw.row ej (by omega)) ?_
  rintro u bN ⟨bK,hu⟩
  simp
  refine c2.mk hu.whole ?_
  simp[bd]
  refine aC _ _ ⟨bl.aw bK,_,_,by rw[decide_eq_true Lj],hu,fun _=>?_,fun h=>absurd Lj h⟩
  rw[an]
  simp[e9,c8]
theorem acx{d1 d2:Nat}{Hs q2 m7 Ht:Operand}{r:List bG}{F:Fr}{H:ab}{Q:Fr->ab->Prop}{jF cB cL hn:Int}{ax:bb (eP d1 61 4 [(0,Hs),(1,q2),(2,m7),(3,Ht)]::cg d2 61 9 (T d1)::r) Q}(aH:aq F Hs= .int .u8 jF)(o:aq F q2= .int .u8 cB)(aa:aq F m7= .int .u8 cL)(aA:aq F Ht= .int .u8 hn)
  (K:∀p aF,Ext H aF->ba prog r Q .mk (a2 (a2 F d1 p) d2 (.string (strOfNums [jF,cB,cL,hn]))) aF):ba prog (eP d1 61 4 [(0,Hs),(1,q2),(2,m7),(3,Ht)]::cg d2 61 9 (T d1)::r) Q ax F H:=by
 refine sq (e:=5) (R:=1) (z:= .int .u8 0) (out:=[.int .u8 jF,.int .u8 cB,.int .u8 cL,.int .u8 hn]) (by simp) (by simp) (by rfl) (by rfl) (by rfl) (by decide) (by decide) (by decide) ?_ (by rfl) ?_
 ·simp only[List.map_cons,List.map_nil,aH,o,aa,aA]
  rfl
 ·have bL:ey (H++[.own 5 false [.int .u8 jF,.int .u8 cB,.int .u8 cL,.int .u8 hn]]) 5 1 (aq (a2 F d1 (.slice (some ⟨H.length,0,none⟩) 4 4)) (T d1)) ([jF,cB,cL,hn]:List Int).length (([jF,cB,cL,hn]:List Int).map (Value.int .u8)):=
   ⟨some ⟨H.length,0,none⟩,4,by simp,Nat.le_refl _,rfl,fun _=>⟨H.length,0,.own 5 false [.int .u8 jF,.int .u8 cB,.int .u8 cL,.int .u8 hn],[.int .u8 jF,.int .u8 cB,.int .u8 cL,.int .u8 hn],rfl,by simp,rfl,rfl,by simp,by simp⟩⟩
  refine PQ (e:=5) (by simp) (by rfl) (by rfl) bL ?_
  exact K _ _ ((Ext.refl H).snoc _ _ _)
def f4(d:Nat):List Nat:=[48+d/1000,48+d/100 % 10,48+d/10 % 10,48+d % 10]
def lh(aK:List Nat):List Nat:=(aK.reverse.map f4).flatten
theorem SX{d:Nat}(h:d<10000):∀c∈f4 d,fr c:=by
 intro c ae
 simp[f4]at ae
 unfold fr
 omega
theorem SY{d:Nat}(h:d<10000):c8 (f4 d)=d:=by
 simp[f4,c8]
 omega
theorem Ah(d:Nat)(aK:List Nat):lh (d::aK)=lh aK++f4 d:=by simp[lh]
theorem S7{aK:List Nat}(h:eH aK):∀c∈lh aK,fr c:=by
 induction aK with
 | nil=>simp[lh]
 | cons d aK a1=>
  rw[Ah]
  intro c ae
  rcases List.mem_append.1 ae with ae | ae
  ·exact a1 (fun x J=>h x (by simp[J])) c ae
  ·exact SX (h d (by simp)) c ae
theorem S8{aK:List Nat}(h:eH aK):c8 (lh aK)=bx aK:=by
 induction aK with
 | nil=>simp[lh,c8,bx]
 | cons d aK a1=>
  rw[Ah,w4,a1 fun x J=>h x (by simp[J]),SY (h d (by simp))]
  simp[f4,bx]
  omega
theorem fr.bytes{l:List Nat}(h:∀c∈l,fr c):Bytes l:=fun c ae=>by
 have:=h c ae
 unfold fr at this
 omega
theorem KB(l:List Nat)(c:Nat):c8 (l++[c])=c8 l*10+(c-48):=by
 rw[w4];simp[c8]
theorem Kz{l:List Nat}(h:∀c∈l,fr c)(aJ:l≠[])(cO:l.head?≠some 48):0<c8 l:=by
 cases l with
 | nil=>exact absurd rfl aJ
 | cons c r=>
  rw[Dy]
  have o:=h c (by simp)
  have aa:c≠48:=fun e=>cO (by simp[e])
  unfold fr at o
  have aA:1*10^r.length<=(c-48)*10^r.length:=Nat.mul_le_mul_right _ (by omega)
  have bj:=Nat.pow_pos (n:=r.length) (show 0<10 by decide)
  omega
theorem O7:∀(k:Nat) (l:List Nat),l.length=k->(∀c∈l,fr c)->l.head?≠some 48->iF (c8 l)=l.reverse
 | 0,l,ak,_,_=>by
  have:l=[]:=List.eq_nil_of_length_eq_zero ak
  subst this
  simp[c8,sh]
 | k+1,l,ak,h,cO=>by
  have cF:l≠[]:=by rintro rfl;simp at ak
  have aU:=Kz h cF cO
  obtain⟨a,c,rfl⟩:∃a c,l=a++[c]:=⟨l.dropLast,l.getLast cF,(List.dropLast_concat_getLast cF).symm⟩
  have ae:=h c (by simp)
  unfold fr at ae
  have a1:=O7 k a (by simpa using ak) (fun x J=>h x (by simp[J])) (fun e=>cO (by
   cases a with
   | nil=>simp at e
   | cons x a=>simpa using e))
  rw[KB]at aU⊢
  rw[sg aU,List.reverse_append]
  have bk:(c8 a*10+(c-48)) % 10=c-48:=by omega
  have bp:(c8 a*10+(c-48))/10=c8 a:=by omega
  rw[bk,bp,a1]
  simp
  omega
theorem RY{l:List Nat}(h:∀c∈l,fr c)(aJ:l≠[])(cO:l.head?≠some 48):l=dec (c8 l):=by
 have aU:=Kz h aJ cO
 unfold dec
 rw[if_neg (by omega),O7 l.length l rfl h cO,List.reverse_reverse]
theorem S9{v:Value}{n N:Nat}{H:ab}(om:ed H v n)(fn:b0 N n)(bP:N<=100000000):aO prog 52 [v] H (fun u H1=>Ext H H1/\u= .string (b2 (dec n))):=by
 refine aO.b9 fun Q aC=>?_
 obtain⟨s,a,c,aK,rfl,br,ej,bf,aM,ao⟩:=om
 have ar:=fn.len bf aM
 have By:=qT aM bf ao
 clear fn
 apply X3 (by simp)
 simp[II]
 have bu:Ext H (H++[.dead]):=Ext.dead H
 have qJ:({data:= #[]}:ByteArray)=b2 []:=rfl
 have ZT:({data:= #[48]}:ByteArray)=b2 [48]:=rfl
 refine ck (ad:=de) (xs:=aK) (by simpa using br.ext bu) (by simp) ?_
 simp
 refine bs.bZ (fun aH=>?_) (fun aH=>?_)
 ·have aH:aK=[]:=by simpa using aH
  have jX:n=0:=by rw[<-By.2,aH];rfl
  simp[bd]
  exact aC _ _ ⟨bu,by rw[ZT,jX];rfl⟩
 ·have aH:aK≠[]:=by simpa using aH
  have ajc:0<n:=by
   rcases Nat.eq_zero_or_pos n with h | h
   ·rw[h]at By;exact absurd (bf.zero.1 By.2) aH
   ·exact h
  have ly:IntKind.i64.wrap ((aK.length:Int)-1)=(aK.length:Int)-1:=b8 (by omega) (by omega)
  simp
  refine ck (ad:=de) (xs:=aK) (by simpa using br.ext bu) (by simp) ?_
  simp[ly,qJ]
  refine c7.mk (by kernel_rfl) (fun m az bE H1=>m<=aK.length/\az 4= .int .i64 ((m:Int)-1)/\az 3= .string (b2 (lh (aK.drop m)))/\Ext H H1) aK.length ⟨Nat.le_refl _,by simp,by simp[lh],bu⟩ ?_
  rintro m az bE H1 ⟨hm,bj,aA,bq⟩ K aV
  simp at bj aA
  simp[bj]
  refine bs.bZ (fun hh=>?_) (fun hh=>?_)
  ·refine Exists.elim (⟨m-1,by omega⟩:∃i:Nat,m=i+1) fun i af=>?_
   have hj:(m:Int)-1=(i:Int):=by omega
   have gW:IntKind.i64.wrap ((i:Int)-1)=(i:Int)-1:=b8 (by omega) (by omega)
   refine Exists.elim (⟨_,bz (show i<aK.length by omega)⟩:∃d,aK[i]?=some d) fun d aD=>?_
   have Vd:d<10000:=by
    have:=ej.get i
    rw[aD]at this;exact this
   have ti:(lh (aK.drop m)).length<=4*aK.length:=by
    have:∀l:List Nat,(lh l).length=4*l.length:=fun l=>by
     induction l with
     | nil=>rfl
     | cons x l a1=>rw[Ah,List.length_append,a1];simp[f4];omega
    rw[this];simp;omega
   have a0:IntKind.i64.wrap ((d:Int).tdiv 1000)=((d/1000:Nat):Int):=by rw[show(d:Int).tdiv 1000=((d/1000:Nat):Int)from rfl];exact b8 (by omega) (by omega)
   have a4:IntKind.i64.wrap ((d:Int).tdiv 100)=((d/100:Nat):Int):=by rw[show(d:Int).tdiv 100=((d/100:Nat):Int)from rfl];exact b8 (by omega) (by omega)
   have bI:IntKind.i64.wrap ((d:Int).tdiv 10)=((d/10:Nat):Int):=by rw[show(d:Int).tdiv 10=((d/10:Nat):Int)from rfl];exact b8 (by omega) (by omega)
   simp[bj,hj]
   refine cv (ad:=de) (xs:=aK) (n:=i) (a:=d) (e:=3) (R:=1) (ay:=false) (by simpa using br.ext bq) (by simp[bj,hj]) aD (by simp) (by simp) (by simp) (by decide) ?_
   rintro gi kq rfl
   have c9:IntKind.i64.wrap ((d:Int)/1000)=(d:Int)/1000:=b8 (by omega) (by omega)
   have gi:IntKind.i64.wrap ((d:Int)/100)=(d:Int)/100:=b8 (by omega) (by omega)
   have eT:IntKind.i64.wrap ((d:Int)/10)=(d:Int)/10:=b8 (by omega) (by omega)
   have Ob:((d:Int)/100).tmod 10=(d:Int)/100 % 10:=Int.tmod_eq_emod_of_nonneg (by omega)
   have Oc:((d:Int)/10).tmod 10=(d:Int)/10 % 10:=Int.tmod_eq_emod_of_nonneg (by omega)
   have Od:(d:Int).tmod 10=(d:Int) % 10:=Int.tmod_eq_emod_of_nonneg (by omega)
   have a6:IntKind.i64.wrap (48+(d:Int)/1000)=48+(d:Int)/1000:=b8 (by omega) (by omega)
   have hq:IntKind.i64.wrap (48+(d:Int)/100 % 10)=48+(d:Int)/100 % 10:=b8 (by omega) (by omega)
   have cn:IntKind.i64.wrap (48+(d:Int)/10 % 10)=48+(d:Int)/10 % 10:=b8 (by omega) (by omega)
   have sA:IntKind.i64.wrap (48+(d:Int) % 10)=48+(d:Int) % 10:=b8 (by omega) (by omega)
   have mn:IntKind.u8.wrap (48+(d:Int)/1000)=48+(d:Int)/1000:=sB (by omega) (by omega)
   have kq:IntKind.u8.wrap (48+(d:Int)/100 % 10)=48+(d:Int)/100 % 10:=sB (by omega) (by omega)
   have nQ:IntKind.u8.wrap (48+(d:Int)/10 % 10)=48+(d:Int)/10 % 10:=sB (by omega) (by omega)
   have pP:IntKind.u8.wrap (48+(d:Int) % 10)=48+(d:Int) % 10:=sB (by omega) (by omega)
   simp[c9,gi,eT,Ob,Oc,Od,a6,hq,cn,sA,mn,kq,nQ,pP]
   refine acx (jF:=((48+d/1000:Nat):Int)) (cB:=((48+d/100 % 10:Nat):Int)) (cL:=((48+d/10 % 10:Nat):Int)) (hn:=((48+d % 10:Nat):Int)) (by simp) (by simp) (by simp) (by simp) ?_
   intro pp b5 cP
   have dc:strOfNums [((48+d/1000:Nat):Int),((48+d/100 % 10:Nat):Int),((48+d/10 % 10:Nat):Int),((48+d % 10:Nat):Int)]=b2 (f4 d):=GO (f4 d)
   rw[dc]
   have U3:=sV (a:=lh (aK.drop m)) (b:=f4 d) (by have:(f4 d).length=4:=rfl;omega)
   simp[aA,bj,hj,gW,U3]
   refine aV i _ _ _ (by omega) ⟨by omega,by simp,?_,bq.aw cP⟩
   have rF:aK.drop i=d::aK.drop m:=by
    rw[show aK.drop m=aK.drop (i+1) by rw[af],List.drop_eq_getElem_cons (show i<aK.length by omega)]
    congr 1
    exact(cJ.1 aD).2
   rw[rF,Ah]
   simp
  ·have kd:m=0:=by omega
   rw[kd]at aA
   simp at aA
   have oA:=S7 ej
   have tj:=S8 ej
   rw[By.2]at tj
   try simp
   refine c7.mk (by kernel_rfl) (fun w bR c4 aS=>∃t:List Nat,w=t.length/\bR 3= .string (b2 t)/\aS=H1/\(∀c∈t,fr c)/\c8 t=n/\t.length<=(lh aK).length) (lh aK).length ⟨lh aK,rfl,by simp[aA],rfl,oA,tj,Nat.le_refl _⟩ ?_
   rintro w bR c4 aS ⟨t,rfl,rq,rfl,vL,Ft,me⟩ cZ c3
   simp at rq
   have Fs:t≠[]:=by rintro rfl;simp[c8]at Ft;omega
   have BC:0<t.length:=List.length_pos_iff.2 Fs
   have qn:t.head?=some (t[0]?.getD 0):=by
    rw[List.head?_eq_getElem?,bz BC];rfl
   simp[rq]
   refine nP (n:=0) (mZ:= .i64) (l:=t) (by simp[rq]) (fr.bytes vL) (by simp) BC (by rfl) ?_
   simp
   refine bs.mk (fun ae=>?_) (fun ae=>?_)
   ·have ae:t[0]?.getD 0=48:=by have:=ae;simp at this;omega
    simp[rq]
    refine CF (s:=b2 t) (l:=1) (h:=t.length) (by simp[rq]) (by rfl) (by simp[dN]) (by simp[eY,iu]) (by omega) (by rw[iu];omega) ?_
    have rI:(t.drop 1).take (t.length-1)=t.tail:=by
     rw[List.drop_one,List.take_of_length_le (by simp)]
    simp only[o_,rI]
    try simp
    have qy:t=48::t.tail:=by
     cases t with
     | nil=>exact absurd rfl Fs
     | cons x r=>simp at ae;rw[ae];rfl
    refine c3 t.tail.length _ _ _ (by simp;omega) ⟨t.tail,rfl,by simp,rfl,fun c ae=>vL c (List.mem_of_mem_tail ae),?_,by simp;omega⟩
    rw[<-Ft]
    conv=>rhs;rw[qy,Dy]
    simp
   ·have ae:t[0]?.getD 0≠48:=by have:=ae;simp at this;omega
    simp[rq,bd]
    refine aC _ _ ⟨bq,?_⟩
    have:=RY vL Fs (by rw[qn];simpa using ae)
    rw[Ft]at this
    rw[<-this]
theorem ed.minus{H:ab}{s:Bool}{a:Option Addr}{n c:Nat}{z:Int}(h:ed H (.agg #[.bool s,.slice a n c]) z):s=decide (z<0):=by
 obtain⟨dC,fC,dY,aK,he,br,ej,bf,aM,ao⟩:=h
 simp at he
 obtain⟨rfl,-⟩:=he
 cases s with
 | false=>simp[e9]at aM;simp;omega
 | true=>
  have:bx aK≠0:=fun h=>by
   have:=ao (bf.zero.1 h)
   cases this
  simp[e9]at aM
  simp;omega
theorem Kt{n:Nat}:dec n=[49]↔n=1:=by
 constructor
 ·intro h
  unfold dec at h
  split at h
  ·cases h
  ·rename_i aH
   have aU:0<n:=by omega
   rw[sg aU]at h
   have o:iF (n/10)=[]:=by
    have:=congrArg List.length h
    simp at this
    exact this
   have aa:n/10=0:=by
    rcases Nat.eq_zero_or_pos (n/10)with aa | aa
    ·exact aa
    ·rw[sg aa]at o;cases o
   rw[o]at h
   simp at h
   omega
 ·rintro rfl
  unfold dec
  rw[if_neg (by decide),sg (by decide),show 1/10=0 from rfl,sh]
  rfl
theorem KQ{v:Value}{n N:Nat}{A:List Nat}{H:ab}(bw:A=dec n)(om:ed H v n)(fn:b0 N n)(bP:N<=100000000):aO prog 52 [v] H (fun u H1=>Ext H H1/\u= .string (b2 A)):=by
 subst bw
 exact S9 om fn bP
theorem Dl{v:Value}{n d:Int}{N:Nat}{q:Rat}{H:ab}(av:q=Rat.divInt n d)(bw:gG H v n d)(aD:0<d)(f1:b0 N n)(f2:b0 N d)(bP:N<=100000000):aO prog 43 [v] H (fun u H1=>Ext H H1/\gG H1 u q.num q.den):=by
 subst av
 exact Rg bw aD f1 f2 bP
theorem Rh{v:Value}{n d:Int}{N:Nat}{H:ab}(bw:gG H v n d)(aD:0<d)(f1:b0 N n)(f2:b0 N d)(bP:N<=100000000):aO prog 21 [v] H (fun u H1=>Ext H H1/\u=if ia (Rat.divInt n d)then .tuple #[.string (b2 (fH (Rat.divInt n d))),.bool true]else .tuple #[.string (b2 []),.bool false]):=by
 refine aO.b9 fun Q aC=>?_
 have s8:=bw
 obtain⟨s1,b4,yM,cm,s2,cM,yN,cI,rfl,l_,hL⟩:=bw
 obtain⟨q,av⟩:∃q,q=Rat.divInt n d:=⟨_,rfl⟩
 have ig:=w2 n d.natAbs (by omega)
 have AS:((d.natAbs:Nat):Int)=d:=by omega
 rw[AS,<-av]at ig
 have aC:∀(v:Value) (H1:ab),Ext H H1/\v=(if ia q then .tuple #[.string (b2 (fH q)),.bool true]else .tuple #[.string (b2 []),.bool false])->Q v H1:=fun v H1 h=>aC v H1 (by rw[av]at h;exact h)
 have Te:b0 N q.num:=f1.le (by
  rw[ig.1,Int.natAbs_ediv_of_dvd (Int.ofNat_dvd_left.2 (Nat.gcd_dvd_left _ _))]
  exact Nat.div_le_self _ _)
 have Td:b0 N (q.den:Int):=f2.le (by
  rw[ig.2]
  have:=Nat.div_le_self d.natAbs (Nat.gcd n.natAbs d.natAbs)
  simp;omega)
 obtain⟨A,bw⟩:∃A,A=dec q.num.natAbs:=⟨_,rfl⟩
 obtain⟨D,ej⟩:∃D,D=dec q.den:=⟨_,rfl⟩
 apply XV (by simp)
 simp[IA]
 have bu:Ext H (H++[.dead]):=Ext.dead H
 have qJ:({data:= #[]}:ByteArray)=b2 []:=rfl
 have ZR:({data:= #[45]}:ByteArray)=b2 [45]:=rfl
 have ZS:({data:= #[47]}:ByteArray)=b2 [47]:=rfl
 have ZU:({data:= #[49]}:ByteArray)=b2 [49]:=rfl
 refine aT.mk (Dl av (s8.ext bu) aD f1 f2 bP) ?_
 rintro _ H1 ⟨bq,lH,eM,NZ,eQ,pM,p1,N0,p6,rfl,MB,ou⟩
 have yg:=MB.minus
 simp
 refine aT.mk (De MB) ?_
 rintro u aS ⟨bl,hu⟩
 refine⟨bl,?_⟩
 simp
 refine aT.mk (KQ bw hu (Te.le (by simp)) bP) ?_
 rintro _ bN ⟨bK,rfl⟩
 refine⟨bK,?_⟩
 simp
 refine aT.mk (KQ ej (ou.ext (bl.aw bK)) Td bP) ?_
 rintro _ bU ⟨ch,rfl⟩
 have r1:=bu.aw (bq.aw (bl.aw (bK.aw ch)))
 have aim:Bytes A:=bw▸Aa _
 have Ar:Bytes D:=ej▸Aa _
 have gC:ia q↔A.length<=4000/\D.length<=4000:=by
  unfold ia
  rw[<-bw,<-ej]
  constructor
  ·rintro⟨o,aa | aa⟩
   ·refine⟨o,?_⟩
    rw[ej,Kt.2 aa];decide
   ·exact⟨o,aa⟩
  ·rintro⟨o,aa⟩
   exact⟨o,.inr aa⟩
 have jM:D=[49]↔q.den=1:=by rw[ej];exact Kt
 try simp
 refine cc.join (by kernel_rfl) (fun eI fR b5=>b5=bU/\eI 22= .bool (!decide (ia q))) ?_ ?_
 ·rintro K aV-
  simp
  refine h6 (l:=A) (by simp) (by rfl) ?_
  by_cases oo:4000<A.length
  ·have bk:((4000:Int)<(A.length:Int))=True:=by simp;omega
   simp[bk]
   refine aV _ _ _ ⟨rfl,?_⟩
   have h:¬ia q:=by rw[gC];omega
   simp[h]
  ·have bk:((4000:Int)<(A.length:Int))=False:=by simp;omega
   simp[bk]
   refine h6 (l:=D) (by simp) (by rfl) ?_
   simp
   refine aV _ _ _ ⟨rfl,?_⟩
   by_cases iY:4000<D.length
   ·have h:¬ia q:=by rw[gC];omega
    simp[h];omega
   ·have h:ia q:=by rw[gC];omega
    simp[h];omega
 rintro eI fR b5 ⟨rfl,DQ⟩
 simp only[hl]at DQ
 simp at DQ
 simp[DQ]
 refine bs.bZ (fun ak=>?_) (fun ak=>?_)
 ·have oo:=(gC.1 ak).1
  have iY:=(gC.1 ak).2
  have U4:=sV (a:=[45]) (b:=A) (by simp;omega)
  refine cc.join (by kernel_rfl) (fun jI lO dx=>dx=b5/\jI 4= .string (b2 ((if q.num<0 then[45]else[])++A))) ?_ ?_
  ·rintro K aV-
   simp
   rw[yg]
   refine bs.bZ (fun mS=>?_) (fun mS=>?_)
   ·simp[ZR,U4]
    refine aV _ _ _ ⟨rfl,?_⟩
    simp[mS]
   ·try simp
    refine aV _ _ _ ⟨rfl,?_⟩
    simp[mS]
  ·rintro jI lO dx ⟨rfl,bj⟩
   simp only[hl]at bj
   simp at bj
   refine Exists.elim (⟨_,rfl⟩:∃S,S=(if q.num<0 then[45]else[])++A) fun S bL=>?_
   rw[<-bL]at bj
   have aiu:S.length<=4001:=by
    rw[bL,List.length_append]
    split<;>simp<;>omega
   have U5:=sV (a:=[47]) (b:=D) (by simp;omega)
   have U6:=sV (a:=S) (b:=47::D) (by simp;omega)
   have UQ:((b2 D).toList==(b2 [49]).toList)=decide (D=[49]):=Dn Ar (by intro x J;simp at J;omega)
   refine cc.join (by kernel_rfl) (fun lN lP c6=>c6=dx/\lN 4= .string (b2 (fH q))) ?_ ?_
   ·rintro K aV-
    simp[ZU,UQ]
    refine bs.bZ (fun o=>?_) (fun o=>?_)
    ·try simp
     refine aV _ _ _ ⟨rfl,?_⟩
     have:q.den=1:=jM.1 o
     unfold fH
     rw[if_pos this,<-bw,List.append_nil,<-bL]
     simp[bj]
    ·have:¬q.den=1:=fun h=>o (jM.2 h)
     simp[bj,ZS,U5,U6]
     refine aV _ _ _ ⟨rfl,?_⟩
     unfold fH
     rw[if_neg this,<-bw,<-bL,<-ej]
     simp
   ·rintro lN lP c6 ⟨rfl,DV⟩
    simp only[hl]at DV
    simp at DV
    simp[DV,bd]
    exact aC _ _ ⟨r1,by rw[if_pos ak]⟩
 ·simp[bd]
  exact aC _ _ ⟨r1,by rw[if_neg ak];rfl⟩
theorem Km{c:Nat}{l u:List Nat}(h:(di c l).2=some u):l.take (di c l).1.length=(di c l).1/\l.drop ((di c l).1.length+1)=u/\(di c l).1.length<l.length:=by
 have e:=uM h
 obtain⟨U,aQ⟩:∃U,U=(di c l).1:=⟨_,rfl⟩
 rw[<-aQ]at e⊢
 rw[e]
 simp
theorem Kn{c:Nat}{l:List Nat}(h:(di c l).2=none):(di c l).1.length=l.length:=by rw[uL h]
theorem OL(l:List Nat):(di 47 (jj 45 l)).1=gT l/\(di 47 (jj 45 l)).2=kr l/\decide (l.head?=some 45)=lB l:=by
 unfold gT kr lB qO jj
 cases l with
 | nil=>simp[di]
 | cons c r=>
  by_cases h:c=45
  ·subst h
   simp[di]
  ·by_cases aa:c=47
   ·subst aa
    simp[di]
   ·simp[di,h,aa]
theorem Gl{l:List Nat}(h:hC l):l.length<=8002:=by
 obtain⟨o,aa,-⟩:=h
 obtain⟨c9,gi,-⟩:=OL l
 have aD:=o.2.2.2
 have bM:l.length<=(jj 45 l).length+1:=by
  unfold jj
  split
  ·simp;omega
  ·omega
 cases hu:kr l with
 | none=>
  have:=Kn (c:=47) (l:=jj 45 l) (by rw[gi,hu])
  rw[c9]at this
  omega
 | some u=>
  have aA:=(aa u hu).1.2.2.2
  have bj:=uM (c:=47) (l:=jj 45 l) (by rw[gi,hu])
  rw[c9]at bj
  have:=congrArg List.length bj
  simp at this
  omega
theorem b0.c8{l:List Nat}(h:hU l):b0 1000 (Go.dq.c8 l:Int):=by
 unfold b0
 rw[Int.natAbs_natCast]
 have o:=qa h.1
 have aa:=sf 10 l.length 4000 (by decide) h.2.2.2
 have aA:=Gs 10 4 1000 4000 (by decide)
 have bj:(10:Nat)^4=10000:=by decide
 rw[bj]at aA
 rw[<-aA]
 exact Nat.lt_of_lt_of_le o aa
theorem gG.zero(H:ab):gG H (.agg #[.bool false,.slice none 0 0,.bool false,.slice none 0 0]) 0 0:=⟨false,none,0,0,false,none,0,0,rfl,ed.zero H,ed.zero H⟩
theorem RP(c:Nat)(l:List Nat):l.take (di c l).1.length=(di c l).1:=by
 cases h:(di c l).2 with
 | none=>rw[uL h,List.take_length]
 | some u=>exact(Km h).1
theorem Ox(l:List Nat)(d:Int):Int.gcd (fT l) d=Int.gcd (c8 (gT l)) d:=by
 unfold fT
 split
 ·rw[Int.neg_gcd]
 ·rfl
theorem J3{l:List Nat}{H:ab}(ar:Bytes l)(hlen:l.length<4611686018427387904):
  aO prog 54 [.string (b2 l)] H (fun u H1=>Ext H H1/\∃v n d b,u= .tuple #[v,.bool b]/\(b=true↔hC l)/\gG H1 v n d/\(hC l->n=fT l/\d=et l)):=by
 refine aO.b9 fun Q aC=>?_
 obtain⟨t,bM⟩:∃t,t=jj 45 l:=⟨_,rfl⟩
 obtain⟨c9,gi,eT⟩:=OL l
 rw[<-bM]at c9 gi
 have Fq:Bytes t:=bM▸ar.tail
 have me:t.length<=l.length:=by
  rw[bM];unfold jj
  split
  ·simp
  ·exact Nat.le_refl _
 apply XX (by simp)
 simp[IC]
 have bu:Ext H (H++[.dead]):=Ext.dead H
 have fail:∀nW,Ext H nW->¬hC l->Q (.tuple #[.agg #[.bool false,.slice none 0 0,.bool false,.slice none 0 0],.bool false]) nW:=fun nW J gh=>aC _ _ ⟨J,_,0,0,false,rfl,⟨fun h=>(by cases h),fun h=>absurd h gh⟩,gG.zero _,fun h=>absurd h gh⟩
 refine h6 (l:=l) (by simp) (by rfl) ?_
 simp
 refine bs.bZ (fun A4=>?_) (fun A4=>?_)
 ·simp[bd]
  exact fail _ bu fun h=>by have:=Gl h;omega
 ·refine cc.join (by kernel_rfl) (fun az bE H1=>H1=H++[.dead]/\az 4= .string (b2 t)/\az 5= .bool (lB l)) ?_ ?_
  ·rintro K aV-
   rw[kJ]
   refine cc.join (by kernel_rfl) (fun az bE H1=>H1=H++[.dead]/\az 25= .bool (decide (l.head?=some 45))) ?_ ?_
   ·rintro cZ c3-
    simp
    refine h6 (l:=l) (by simp) (by rfl) ?_
    by_cases aH:0<l.length
    ·have hH:((0:Int)<(l.length:Int))=True:=by simp;omega
     have qn:l.head?=some (l[0]?.getD 0):=by
      rw[List.head?_eq_getElem?,bz aH];rfl
     simp[aH]
     refine nP (n:=0) (mZ:= .i64) (l:=l) (by simp) ar (by simp) aH (by rfl) ?_
     simp
     refine c3 _ _ _ ⟨rfl,?_⟩
     rw[qn]
     simp;omega
    ·have:l=[]:=List.eq_nil_of_length_eq_zero (by omega)
     simp[this]
     refine c3 _ _ _ ⟨rfl,by simp[this]⟩
   ·rintro az bE H1 ⟨rfl,uW⟩
    simp only[hl]at uW
    simp at uW
    simp[uW]
    refine bs.bZ (fun ae=>?_) (fun ae=>?_)
    ·have ai5:0<l.length:=by
      cases l with
      | nil=>simp at ae
      | cons x r=>simp
     simp
     refine CF (s:=b2 l) (l:=1) (h:=l.length) (by simp) (by rfl) (by simp[dN]) (by simp[eY,iu]) (by omega) (by rw[iu];omega) ?_
     have qy:(l.drop 1).take (l.length-1)=t:=by
      rw[bM,jj,if_pos ae,List.drop_one,List.take_of_length_le (by simp)]
     simp only[o_,qy]
     simp
     refine aV _ _ _ ⟨rfl,by simp,?_⟩
     rw[<-eT,decide_eq_true ae];simp
    ·have qy:t=l:=by rw[bM,jj,if_neg ae]
     try simp
     refine aV _ _ _ ⟨rfl,by simp[qy],?_⟩
     rw[<-eT,decide_eq_false ae];simp
  ·rintro az bE H1 ⟨rfl,bj,bJ⟩
   simp at bj bJ
   simp[bj]
   refine h6 (l:=t) (by simp[bj]) (by rfl) ?_
   simp[bj]
   refine h6 (l:=t) (by simp[bj]) (by rfl) ?_
   have ly:IntKind.i64.wrap ((t.length:Int)-1)=(t.length:Int)-1:=b8 (by omega) (by omega)
   simp[ly]
   refine c7.mk (by kernel_rfl) (fun m bR c4 aS=>m<=t.length/\bR 7= .int .i64 ((m:Int)-1)/\aS=H++[.dead]/\bR 6= .int .i64 ((m+(di 47 (t.drop m)).1.length:Nat):Int)) t.length ⟨Nat.le_refl _,by simp,rfl,by simp[di]⟩ ?_
   rintro m bR c4 aS ⟨hm,bV,rfl,ds⟩ K aV
   simp at bV ds
   simp[bV]
   refine bs.bZ (fun hh=>?_) (fun hh=>?_)
   ·refine Exists.elim (⟨m-1,by omega⟩:∃i:Nat,m=i+1) fun i af=>?_
    have hj:(m:Int)-1=(i:Int):=by omega
    have gW:IntKind.i64.wrap ((i:Int)-1)=(i:Int)-1:=b8 (by omega) (by omega)
    have cK:i<t.length:=by omega
    have rF:t.drop i=t[i]::t.drop m:=by rw[af,List.drop_eq_getElem_cons cK]
    refine cc.join (by kernel_rfl) (fun c_ en bN=>bN=H++[.dead]/\c_ 6= .int .i64 ((i+(di 47 (t.drop i)).1.length:Nat):Int)) ?_ ?_
    ·rintro cZ c3-
     simp[bj,bV,hj]
     refine nP (n:=i) (mZ:= .i64) (l:=t) (by simp[bj]) Fq (by simp[bV,hj]) cK (by rfl) ?_
     simp
     have lu:t[i]?.getD 0=t[i]:=by rw[bz cK];rfl
     refine bs.mk (fun ae=>?_) (fun ae=>?_)
     ·have ae:t[i]=47:=by have:=ae;simp[cK]at this;omega
      simp[bV,hj]
      refine c3 _ _ _ ⟨rfl,?_⟩
      rw[rF]
      simp[di,ae]
     ·have ae:t[i]≠47:=by have:=ae;simp[cK]at this;omega
      try simp
      refine c3 _ _ _ ⟨rfl,?_⟩
      rw[rF]
      simp[di,ae,ds]
      omega
    ·rintro c_ en bN ⟨rfl,uX⟩
     simp at uX
     simp[bV,hj,gW]
     refine aV i _ _ _ (by omega) ⟨by omega,by simp,rfl,?_⟩
     simpa using uX
   ·have kd:m=0:=by omega
    rw[kd]at ds
    simp[c9]at ds
    have oG:=RP 47 t
    rw[c9]at oG
    have iY:(gT l).length<=t.length:=by rw[<-oG];simp;omega
    have Vc:Bytes (gT l):=by rw[<-oG];exact fun x J=>Fq x (List.mem_of_mem_take J)
    simp[bj,ds]
    refine CF (s:=b2 t) (l:=0) (h:=(gT l).length) (by simp[bj]) (by rfl) (by simp[dN]) (by simp[eY,ds]) (by omega) (by rw[iu];omega) ?_
    have qy:(t.drop 0).take ((gT l).length-0)=gT l:=by simpa using oG
    simp only[o_,qy]
    try simp
    refine aT.mk (Ku Vc (by omega)) ?_
    rintro _ eV ⟨cW,_,k4,rfl,⟨Pl,p2,p7,w3,rfl,AD,TB,vb,NO,M5⟩,vI,Wa⟩
    have Ex:ed eV (.agg #[.bool Pl,.slice p2 w3.length p7]) k4:=⟨Pl,p2,p7,w3,rfl,AD,TB,vb,NO,M5⟩
    have f8:b0 1000 k4:=by
     by_cases aD:hU (gT l)
     ·rw[vI aD];exact b0.c8 aD
     ·rw[Wa aD];exact b0.small (by decide) (by decide)
    try simp
    have dy:=Ext.dead eV
    refine aT.mk (sR (v:=1) (by omega) (by omega)) ?_
    rintro ae3 k9 ⟨gL,vO⟩
    try simp
    refine c2.mk vO.whole ?_
    try simp
    have gq:=Ext.dead k9
    have vP:=dy.aw (gL.aw gq)
    have Ns:=bu.aw (cW.aw vP)
    refine cc.join (by kernel_rfl) (fun sE q8 im=>Ext (k9++[.dead]) im/\ed im (q8 10) (et l)/\CW l/\(kr l=none\/Int.gcd k4 (et l)=1)/\b0 1000 (et l)) ?_ ?_
    ·rintro cZ c3 TM
     simp[ds]
     refine h6 (l:=t) (by simp[bj]) (by rfl) ?_
     try simp
     cases hu:kr l with
     | none=>
      have he:=Kn (c:=47) (l:=t) (by rw[gi,hu])
      rw[c9]at he
      have bk:¬(gT l).length<t.length:=by omega
      have j9:et l=1:=by unfold et;rw[hu]
      refine bs.bZ (fun aZ=>absurd aZ (by omega)) (fun _=>?_)
      refine c3 _ _ _ ⟨Ext.refl _,?_,fun u ny=>(by rw[hu]at ny;cases ny),.inl hu,by rw[j9];exact b0.small (by decide) (by decide)⟩
      rw[j9]
      simpa using vO.ext gq
     | some u=>
      have jR:=Km (c:=47) (l:=t) (u:=u) (by rw[gi,hu])
      rw[c9]at jR
      have j9:et l=c8 u:=by unfold et;rw[hu]
      have WZ:Bytes u:=by rw[<-jR.2.1];exact fun x J=>Fq x (List.mem_of_mem_drop J)
      have kY:u.length<=t.length:=by rw[<-jR.2.1];simp
      have mW:IntKind.i64.wrap (((gT l).length:Int)+1)=(((gT l).length+1:Nat):Int):=by rw[b8 (by omega) (by omega)];simp
      refine bs.bZ (fun _=>?_) (fun aZ=>absurd (show((gT l).length:Int)<(t.length:Int) by omega) (by omega))
      simp[bj,ds,mW]
      refine CF (s:=b2 t) (l:=(gT l).length+1) (h:=t.length) (by simp[bj]) (by rfl) (by simp[dN];omega) (by simp[eY,iu]) (by omega) (by rw[iu];omega) ?_
      have WV:(t.drop ((gT l).length+1)).take (t.length-((gT l).length+1))=u:=by
       rw[jR.2.1,List.take_of_length_le]
       rw[<-jR.2.1];simp
      simp only[o_,WV]
      try simp
      refine aT.mk (Ku WZ (by omega)) ?_
      rintro _ kM ⟨iA,aeU,mu,rfl,xA,Bf,V_⟩
      have f13:b0 1000 mu:=by
       by_cases aD:hU u
       ·rw[Bf aD];exact b0.c8 aD
       ·rw[V_ aD];exact b0.small (by decide) (by decide)
      try simp
      refine c2.mk xA.whole ?_
      try simp
      have nD:=Ext.dead kM
      refine cc.join (by kernel_rfl) (fun sF uv kN=>Ext (kM++[.dead]) kN/\∃bad,sF 77= .bool bad/\(bad=false↔hU u/\2<=mu/\Int.gcd k4 mu=1)) ?_ ?_
      ·rintro nb fN-
       by_cases ox:hU u
       ·simp[ox]
        refine aT.mk (sR (v:=2) (by omega) (by omega)) ?_
        rintro Hm kN ⟨hN,yx⟩
        refine⟨hN,?_⟩
        try simp
        refine aT.mk (Df (N:=1000) (xA.ext (nD.aw hN)) yx f13 (b0.small (by decide) (by decide)) (by decide)) ?_
        rintro _ sH ⟨kh,rfl⟩
        have pA:=nD.aw (hN.aw kh)
        by_cases aZ:mu<2
        ·simp[aZ]
         exact fN _ _ _ ⟨hN.aw kh,true,by simp,by simp;omega⟩
        ·have V8:¬((if mu<2 then(-1:Int)else if mu=2 then 0 else 1)<0):=by
          rw[if_neg aZ];split<;>omega
         simp[V8]
         refine aT.mk (JY (N:=1000) (Ex.ext (vP.aw (iA.aw pA))) (xA.ext pA) f8 f13 (by decide)) ?_
         rintro Qw zH ⟨qB,BG⟩
         try simp
         refine aT.mk (sR (v:=1) (by omega) (by omega)) ?_
         rintro alP pV ⟨tM,W9⟩
         try simp
         have rm:b0 1000 (Int.gcd k4 mu:Nat):=f13.le (by
          have:=Nat.le_of_dvd (by omega) (Int.gcd_dvd_natAbs_right k4 mu)
          simpa using this)
         refine aT.mk (Df (N:=1000) (BG.ext tM) W9 rm (b0.small (by decide) (by decide)) (by decide)) ?_
         rintro _ zI ⟨jf,rfl⟩
         try simp
         refine fN _ _ _ ⟨hN.aw (kh.aw (qB.aw (tM.aw jf))),decide (Int.gcd k4 mu≠1),?_,?_⟩
         ·have ET:0<Int.gcd k4 mu:=Int.gcd_pos_of_ne_zero_right _ (by omega)
          by_cases mM:Int.gcd k4 mu=1
          ·simp[mM]
          ·simp[mM,show¬(((Int.gcd k4 mu:Nat):Int)<1) by omega,show¬(((Int.gcd k4 mu:Nat):Int)=1) by omega]
         ·simp[ox];omega
       ·simp[ox]
        exact fN _ _ _ ⟨Ext.refl _,true,by simp,by simp[ox]⟩
      ·rintro sF uv kN ⟨hN,bad,s7,l6⟩
       simp only[hl]at s7
       simp at s7
       simp[s7]
       refine bs.mk (fun ag=>?_) (fun ag=>?_)
       ·simp
        refine TM _ _ _ _ (by simp) ?_
        simp[bd]
        refine fail _ (Ns.aw (iA.aw (nD.aw hN))) fun aU=>?_
        obtain⟨a0,a4,bI,cj⟩:=aU
        have ox:=(a4 u hu).1
        have po:=(a4 u hu).2
        have aX:Int.gcd k4 mu=1:=by
         rcases cj with h | h
         ·rw[hu]at h;cases h
         ·rw[Ox,j9,<-vI a0]at h
          rw[Bf ox];exact h
        have:=l6.2 ⟨ox,by rw[Bf ox];omega,aX⟩
        rw[this]at ag
        cases ag
       ·have aX:=l6.1 ag
        have FW:=Bf aX.1
        have aa:=aX.2.1
        have aA:=aX.2.2
        simp
        refine c2.mk xA.whole ?_
        try simp
        refine c3 _ _ _ ⟨iA.aw (nD.aw hN),?_,fun Qh ny=>?_,.inr ?_,?_⟩
        ·rw[j9,<-FW]
         simpa using xA.ext (nD.aw hN)
        ·rw[hu]at ny
         have:=Option.some.inj ny
         subst this
         exact⟨aX.1,by omega⟩
        ·rw[j9,<-FW];exact aA
        ·rw[j9,<-FW];exact f13
    ·rintro sE q8 im ⟨gr,rE,TC,Vp,aie⟩
     simp at rE
     have FN:=vP.aw gr
     have Nt:=Ns.aw gr
     have rM:hU (gT l)->(k4=0↔w3=[]):=fun aD=>by
      have o:=qT (n:=c8 (gT l)) (by rw[<-NO];exact(vI aD).symm) vb M5
      rw[vI aD,<-vb.zero,o.2]
      omega
     try simp only[kJ]
     refine cc.join (by kernel_rfl) (fun sF uv kN=>kN=im/\∃bad,sF 90= .bool bad/\(bad=false↔hU (gT l)/\¬(lB l=true/\k4=0))) ?_ ?_
     ·rintro nb fN-
      by_cases aD:hU (gT l)
      ·cases x0:lB l with
       | false=>
        rw[x0]at bJ
        simp[aD,bJ]
        exact fN _ _ _ ⟨rfl,false,by simp,by simp[aD,x0]⟩
       | true=>
        rw[x0]at bJ
        simp[aD,bJ]
        refine ck (ad:=de) (xs:=w3) (by simpa using AD.ext FN) (by simp) ?_
        simp
        refine fN _ _ _ ⟨rfl,decide (w3=[]),by simp,?_⟩
        simp[aD,x0,rM aD]
      ·simp[aD]
       exact fN _ _ _ ⟨rfl,true,by simp,by simp[aD]⟩
     ·rintro sF uv kN ⟨rfl,bad,D0,l6⟩
      simp only[hl]at D0
      simp at D0
      simp[D0]
      refine bs.mk (fun ag=>?_) (fun ag=>?_)
      ·simp[bd]
       refine fail _ Nt fun aU=>?_
       obtain⟨a0,a4,bI,cj⟩:=aU
       have:=l6.2 ⟨a0,by rw[vI a0];intro h;exact bI ⟨h.1,by omega⟩⟩
       rw[this]at ag
       cases ag
      ·have aX:=l6.1 ag
       have aM:=vI aX.1
       have hZ:hC l:=⟨aX.1,TC,by rw[aM]at aX;intro h;exact aX.2 ⟨h.1,by omega⟩,by
        rcases Vp with h | h
        ·exact .inl h
        ·refine .inr ?_
         rw[Ox,<-aM];exact h⟩
       have ih:(if lB l=true then-k4 else k4)=fT l:=by
        unfold fT
        rw[aM]
       refine cc.join (by kernel_rfl) (fun QS HB sH=>Ext kN sH/\ed sH (HB 8) (fT l)) ?_ ?_
       ·rintro nZ g1-
        simp[bJ]
        refine bs.mk (fun nu=>?_) (fun nu=>?_)
        ·simp
         refine aT.mk (J0 (Ex.ext FN)) ?_
         rintro Qw zH ⟨qB,BG⟩
         simp
         refine c2.mk BG.whole ?_
         try simp
         refine g1 _ _ _ ⟨qB,?_⟩
         rw[<-ih,if_pos nu]
         simpa using BG
        ·try simp
         refine g1 _ _ _ ⟨Ext.refl _,?_⟩
         rw[<-ih,if_neg (by simp[nu])]
         simpa using Ex.ext FN
       ·rintro QS HB sH ⟨kh,Mz⟩
        simp at Mz
        simp[-sQ]
        refine CA (n:=fT l) (m:=et l) (by simpa using Mz) (by simpa using rE.ext kh) ?_
        intro q av
        simp
        refine c2.mk av.whole ?_
        simp[bd]
        exact aC _ _ ⟨Nt.aw kh,q,_,_,true,rfl,⟨fun _=>hZ,fun _=>rfl⟩,av,fun _=>⟨rfl,rfl⟩⟩
theorem Rs{l:List Nat}{H:ab}(ar:Bytes l)(hlen:l.length<4611686018427387904):
  aO prog 25 [.string (b2 l)] H (fun u H1=>Ext H H1/\∃b,u= .bool b/\(b=true↔hC l)):=by
 refine aO.b9 fun Q aC=>?_
 apply X0 (by simp)
 simp[IF]
 refine aT.mk (J3 ar hlen) ?_
 rintro _ H1 ⟨bq,q,n,d,b,rfl,ag,av,ig⟩
 simp
 refine c2.mk av.whole ?_
 simp[bd]
 exact aC _ _ ⟨bq.aw (Ext.dead H1),b,rfl,ag⟩
theorem zX{l:List Nat}{H:ab}(ar:Bytes l)(hlen:l.length<4611686018427387904):
  aO prog 23 [.string (b2 l)] H (fun u H1=>Ext H H1/\∃n d,gG H1 u n d/\(hC l->n=fT l/\d=et l)):=by
 refine aO.b9 fun Q aC=>?_
 apply XW (by simp)
 simp[IB]
 have bu:=Ext.dead H
 refine aT.mk (J3 ar hlen) ?_
 rintro _ H1 ⟨bq,q,n,d,b,rfl,ag,av,ig⟩
 simp
 refine c2.mk av.whole ?_
 try simp
 refine c2.mk av.whole ?_
 simp[bd]
 exact aC _ _ ⟨bu.aw (bq.aw (Ext.dead H1)),n,d,av.ext (Ext.dead H1),ig⟩
theorem b0.den{l:List Nat}(h:hC l):b0 1000 (et l:Int):=by
 unfold et
 cases hu:kr l with
 | none=>exact b0.small (by decide) (by decide)
 | some u=>exact b0.c8 (h.2.1 u hu).1
theorem b0.num{l:List Nat}(h:hC l):b0 1000 (fT l):=by
 unfold fT
 split
 ·exact(b0.c8 h.1).neg
 ·exact b0.c8 h.1
theorem Kl{v:Value}{l:List Int}{H:ab}(dj:dV H v l):
  aO prog 30 [v,.int .i64 9] H (fun u H1=>Ext H H1/\dV H1 u (l.take 9)):=by
 refine aO.b9 fun Q aC=>?_
 apply Yf (by simp)
 have x0:(if(l.length:Int)<9 then(l.length:Int)else 9)=((min l.length 9:Nat):Int):=by split<;>omega
 simp[IV]
 refine sr (e:=3) (R:=1) (by simp) (by simp) ?_
 simp
 refine ck (ad:=IR) (xs:=l) (by simpa using dj) (by simp) ?_
 simp
 refine qY (e:=3) (R:=1) (ay:=false) (ad:=IR) (xs:=l) (l:=0) (h:=min l.length 9) (by simpa using dj) (by simp) (by simp) (by decide) (by simp[dN]) (by simp[eY];split<;>omega) (by omega) (by omega) ?_
 intro mo iz
 have e0:(l.drop 0).take (min l.length 9-0)=l.take 9:=by
  rw[List.drop_zero,Nat.sub_zero]
  by_cases h:l.length<=9
  ·rw[Nat.min_eq_left h,List.take_length,List.take_of_length_le h]
  ·rw[Nat.min_eq_right (by omega)]
 rw[e0]at iz
 refine Cz (k:=H.length) (e:=3) (R:=1) (ay:=false) (bF:=8) (z:= .int .i64 0) (ad:=IR) (xs:=[]) (bS:=l.take 9) (by simpa using bH.void _ _ _ _ _ _ _) (by simpa using iz) (fun u y h=>by rw[show u=_ from h];exact jn y) (fun aF dC u y ak h=>h) (by simp) (by simp) (by simp) (by simp) (by decide) (by rfl) (by rfl) (by rfl) (by decide) (by simp;omega) (Nat.le_refl _) ?_
 intro w bU kT ch VH
 simp[bd]
 exact aC _ _ ⟨ch _ (Nat.le_refl _) (Ext.refl _),by simpa using kT.row⟩
def uN(x:List (List Int)):List (List Int):=(x.take 9).map (·.take 9)
theorem acb{v:Value}{x:List (List Int)}{H:ab}(dj:fK H v x):
  aO prog 8 [v] H (fun u H1=>Ext H H1/\fK H1 u (uN x)):=by
 refine aO.b9 fun Q aC=>?_
 apply Yi (by simp)
 simp[IY]
 refine sr (e:=34) (R:=1) (by simp) (by simp) ?_
 simp
 refine c7.mk (by kernel_rfl) (fun m az bE H1=>∃i:Nat,m=x.length-i/\i<=x.length/\i<=9/\az 4= .int .i64 (i:Int)/\Ext H H1/\bH H.length 34 1 false dV H1 (az 3) ((x.take i).map (·.take 9))) x.length ⟨0,by omega,by omega,by omega,by simp,Ext.refl _,by simpa using bH.void _ _ _ _ _ _ _⟩ ?_
 rintro m az bE H1 ⟨i,rfl,af,aiP,bj,bq,cw⟩ K aV
 simp at bj cw
 have ta:=b7.ext (ad:=fK) dj bq
 simp only[kJ]
 refine cc.join (by kernel_rfl) (fun bR c4 aS=>aS=H1/\bR 13= .bool (decide (i<x.length/\i<=8))) ?_ ?_
 ·rintro cZ c3-
  simp[bj]
  refine ck (ad:=dV) (xs:=x) (by simpa using ta) (by simp) ?_
  by_cases aZ:i<x.length
  ·simp[aZ,bj]
   exact c3 _ _ _ ⟨rfl,by simp[aZ];omega⟩
  ·simp[aZ,bj]
   exact c3 _ _ _ ⟨rfl,by simp[aZ]⟩
 ·rintro bR c4 aS ⟨rfl,lZ⟩
  simp only[hl]at lZ
  simp at lZ
  simp[lZ]
  refine bs.mk (fun ag=>?_) (fun ag=>?_)
  ·simp at ag
   refine Exists.elim (⟨_,bz ag.1⟩:∃p,x[i]?=some p) fun row dL=>?_
   simp[bj]
   refine cv (ad:=dV) (xs:=x) (n:=i) (a:=row) (e:=34) (R:=1) (ay:=false) (by simpa using ta) (by simp[bj]) dL (by simp) (by simp) (by simp) (by decide) ?_
   rintro iD oX vN
   try simp
   refine aT.mk (Kl vN) ?_
   rintro sx dx ⟨cu,mV⟩
   have hlen:=Ext.len (bq.aw cu)
   try simp
   refine uc (k:=H.length) (e:=34) (R:=1) (ay:=false) (bF:=24) (z:= .slice none 0 0) (ad:=dV) (xs:=(x.take i).map (·.take 9)) (a:=row.take 9) (by simpa using b7.ext (ad:=bH _ _ _ _ dV) cw cu) (by simpa using mV) (by simpa using mV.whole) (by simp) (fun aF dC u y ak h=>h.kept ak (by decide)) (by simp) (by simp) (by simp) (by simp) (by simp) (by rfl) (by rfl) (by rfl) (by rfl) (by decide) (by decide) (by decide) (by simp;omega) (by omega) ?_
   intro qP zv c6 jP cR mP
   have hw:IntKind.i64.wrap ((i:Int)+1)=((i+1:Nat):Int):=by rw[b8 (by omega) (by omega)];omega
   simp[bj,hw]
   refine aV (x.length-(i+1)) _ _ _ (by omega) ⟨i+1,rfl,by omega,by omega,by simp,cR _ (Nat.le_refl _) (bq.aw cu),?_⟩
   rw[List.take_add_one,dL]
   simpa using jP
  ·simp at ag
   simp[bd]
   refine aC _ _ ⟨bq,?_⟩
   have:x.take i=x.take 9:=by
    by_cases h:i<x.length
    ·have:=ag h;rw[show i=9 by omega]
    ·rw[List.take_of_length_le (by omega),List.take_of_length_le (by omega)]
   unfold uN
   rw[<-this,List.map_take]
   exact cw.row
theorem kK{i:Nat}(h:i<4611686018427387904):IntKind.i64.wrap ((i:Int)+1)=((i+1:Nat):Int):=by rw[b8 (by omega) (by omega)];omega
theorem Hj{t:List (List Int)}:g0 t↔(1<=t.length/\t.length<=8)/\∀r∈t,(r.length=(t[0]?.getD []).length/\1<=r.length/\r.length<=8)/\∀x∈r,0<=x/\x<=1000:=by
 constructor
 ·intro h
  have ar:=h.len
  obtain⟨o,aa,aA,bj,bJ⟩:=h
  refine⟨⟨o,aa⟩,fun r al=>?_⟩
  have e:=ar r al
  refine⟨⟨e,by omega,by omega⟩,fun x J=>?_⟩
  have:=bJ r al
  unfold lV at this
  simp at this
  have:=this.2 x J
  omega
 ·rintro⟨⟨o,aa⟩,h⟩
  have aH:t[0]?.getD []∈t:=by rw[bz (by omega)];exact List.getElem_mem (by omega)
  have:=(h _ aH).1
  refine⟨o,aa,this.2.1,this.2.2,fun r al=>?_⟩
  have:=h r al
  unfold lV
  simp
  exact⟨this.1.1,fun x J=>by have:=this.2 x J;omega⟩
theorem PE{v:Value}{t:List (List Int)}{H:ab}(dj:fK H v t)(ar:t.length<4611686018427387904)(al:∀r∈t,r.length<4611686018427387904):
  aO prog 11 [v] H (fun u H1=>H1=H/\u= .bool (decide (g0 t))):=by
 refine aO.b9 fun Q aC=>?_
 have no:∀{r x},r∈t->x∈r->¬(0<=x/\x<=1000)->Q (.bool false) H:=fun al J h=>aC _ _ ⟨rfl,by
  have:¬g0 t:=fun an=>h (((Hj.1 an).2 _ al).2 _ J)
  simp[this]⟩
 apply YX (by simp)
 simp[Jj]
 refine c7.mk (by kernel_rfl) (fun m az bE H1=>∃i:Nat,m=t.length-i/\i<=t.length/\az 3= .int .i64 (i:Int)/\H1=H/\∀r∈t.take i,(r.length=(t[0]?.getD []).length/\1<=r.length/\r.length<=8)/\∀x∈r,0<=x/\x<=1000) t.length ⟨0,by omega,by omega,by simp,rfl,by simp⟩ ?_
 rintro m az bE H1 ⟨i,rfl,af,aA,rfl,ev⟩ K aV
 simp at aA
 simp[aA]
 refine ck (ad:=dV) (xs:=t) (by simpa using dj) (by simp) ?_
 simp
 refine bs.bZ (fun aZ=>?_) (fun aZ=>?_)
 ·refine Exists.elim (⟨_,bz aZ⟩:∃p,t[i]?=some p) fun row dL=>?_
  refine Exists.elim (⟨_,bz (show 0<t.length by omega)⟩:∃p,t[0]?=some p) fun kG qx=>?_
  have gg:=List.mem_of_getElem? dL
  have ja:=al _ gg
  have hw:=kK (show i<4611686018427387904 by omega)
  try simp only[kJ]
  refine cc.join (by kernel_rfl) (fun bR c4 aS=>aS=H1/\bR 29= .bool (decide (¬(row.length=kG.length/\1<=row.length/\row.length<=8)))) ?_ ?_
  ·rintro cZ c3-
   simp[aA]
   refine cv (ad:=dV) (xs:=t) (n:=i) (a:=row) (e:=34) (R:=1) (ay:=false) (by simpa using dj) (by simp[aA]) dL (by simp) (by simp) (by simp) (by decide) ?_
   rintro iD oX vN
   try simp
   refine ck (ad:=IR) (xs:=row) (by simpa using vN) (by simp) ?_
   try simp
   refine cv (ad:=dV) (xs:=t) (n:=0) (a:=kG) (e:=34) (R:=1) (ay:=false) (by simpa using dj) (by simp) qx (by simp) (by simp) (by simp) (by decide) ?_
   rintro mj sx mV
   try simp
   refine ck (ad:=IR) (xs:=kG) (by simpa using mV) (by simp) ?_
   by_cases he:row.length=kG.length
   ·simp[he,aA]
    refine qX (ad:=dV) (xs:=t) (n:=i) (a:=row) (e:=34) (R:=1) (ay:=false) (by simp) (by decide) (by simpa using dj) (by simp[aA]) dL (by simp) (by simp) (by simp) (by decide) ?_
    rintro qP CP ys
    try simp
    refine ck (ad:=IR) (xs:=row) (by simpa using ys) (by simp) ?_
    try simp
    refine aT.mk BO ?_
    rintro _ _ ⟨rfl,rfl⟩
    try simp
    refine c3 _ _ _ ⟨rfl,?_⟩
    simp[he]
    generalize kG.length=z
    rw[Bool.eq_iff_iff]
    simp
    omega
   ·have oy:¬((row.length:Int)=kG.length):=by omega
    simp[oy,aA]
    exact c3 _ _ _ ⟨rfl,by simp[he]⟩
  ·rintro bR c4 aS ⟨rfl,DS⟩
   simp only[hl]at DS
   simp at DS
   simp[DS]
   refine bs.mk (fun ag=>?_) (fun ag=>?_)
   ·have kV:¬(row.length=kG.length/\1<=row.length/\row.length<=8):=fun h=>by
     obtain⟨o,aa,aA⟩:=h
     rw[o]at ag
     rw[o]at aa aA
     generalize kG.length=z at ag aa aA
     simp at ag
     omega
    simp[bd]
    refine aC _ _ ⟨rfl,?_⟩
    have:¬g0 t:=fun an=>by
     have:=((Hj.1 an).2 _ gg).1
     rw[qx]at this
     exact kV this
    simp[this]
   ·have ag:row.length=kG.length/\1<=row.length/\row.length<=8:=by
     simp at ag;omega
    simp
    refine c7.mk (by kernel_rfl) (fun m c_ en bN=>∃k:Nat,m=row.length-k/\k<=row.length/\c_ 4= .int .i64 (k:Int)/\bN=aS/\∀x∈row.take k,0<=x/\x<=1000) row.length ⟨0,by omega,by omega,by simp,rfl,by simp⟩ ?_
    rintro m c_ en bN ⟨k,rfl,ak,bj,rfl,Ez⟩ nb fN
    simp at bj
    simp[aA,bj]
    refine cv (ad:=dV) (xs:=t) (n:=i) (a:=row) (e:=34) (R:=1) (ay:=false) (by simpa using dj) (by simp[aA]) dL (by simp) (by simp) (by simp) (by decide) ?_
    rintro oS u8 rX
    try simp
    refine ck (ad:=IR) (xs:=row) (by simpa using rX) (by simp) ?_
    try simp[aA,bj]
    refine bs.bZ (fun gB=>?_) (fun gB=>?_)
    ·refine Exists.elim (⟨_,bz (show k<row.length by omega)⟩:∃p,row[k]?=some p) fun x J=>?_
     simp[aA,bj]
     refine cv (ad:=dV) (xs:=t) (n:=i) (a:=row) (e:=34) (R:=1) (ay:=false) (by simpa using dj) (by simp[aA]) dL (by simp) (by simp) (by simp) (by decide) ?_
     rintro B8 Qj Fv
     simp[bj]
     refine cv (ad:=IR) (xs:=row) (n:=k) (a:=x) (e:=3) (R:=1) (ay:=false) (by simpa using Fv) (by simp[bj]) J (by simp) (by simp) (by simp) (by decide) ?_
     rintro tX zs rfl
     simp
     refine aT.mk BO ?_
     rintro _ _ ⟨rfl,rfl⟩
     try simp
     have nC:=kK (show k<4611686018427387904 by omega)
     refine bs.mk (fun fe=>?_) (fun fe=>?_)
     rotate_left
     ·simp at fe
      simp[bj,nC]
      refine fN (row.length-(k+1)) _ _ _ (by omega) ⟨k+1,rfl,by omega,by simp,rfl,fun y aI=>?_⟩
      rw[List.take_add_one,J]at aI
      rcases List.mem_append.1 aI with aI | aI
      ·exact Ez y aI
      ·simp at aI;subst aI;exact fe
     ·simp at fe
      simp[bd]
      exact no gg (List.mem_of_getElem? J) (by omega)
    ·have VJ:k=row.length:=by omega
     simp[aA,hw]
     refine aV (t.length-(i+1)) _ _ _ (by omega) ⟨i+1,rfl,by omega,by simp,rfl,fun r al=>?_⟩
     rw[List.take_add_one,dL]at al
     rcases List.mem_append.1 al with al | al
     ·exact ev r al
     ·simp at al
      subst al
      rw[VJ,List.take_length]at Ez
      rw[qx]
      exact⟨ag,Ez⟩
 ·simp
  refine ck (ad:=dV) (xs:=t) (by simpa using dj) (by simp) ?_
  simp
  refine aT.mk BO ?_
  rintro _ _ ⟨rfl,rfl⟩
  simp[bd]
  refine aC _ _ ⟨rfl,?_⟩
  rw[List.take_of_length_le (by omega)]at ev
  have:g0 t↔1<=t.length/\t.length<=8:=by
   rw[Hj]
   exact⟨fun h=>h.1,fun h=>⟨h,ev⟩⟩
  simp only[this]
  simp
  rw[Bool.eq_iff_iff]
  simp
  omega
section
variable {P:Program} {r:List bG} {F:Fr} {H:ab} {Q:Fr->ab->Prop} {α:Type}
theorem acB{eE:Bool}{d t e R bF n:Nat}{ay:Bool}{x y:Operand}{eK cX:IntKind}{z:Value}{ad:ab->Value->α->Prop}{a:α}{ax:bb ((⟨eE,none,some d,.makeSlice t x y⟩:bG)::r) Q}(hu:P.underlying t=some (.slice e))(ao:bA P e=some R)(ag:bytes? P e=some bF)(aM:dD P e=some z)(dS:flat z=true)
  (ea:dr P e=some ay)(hw:Whole P e z)(J:aq F x= .int eK (n:Int))(aI:aq F y= .int cX (n:Int))(cV:0<R)(dZ:0<bF)(bC:bF*n<=281474976710656)(br:∀aF,ad aF z a)
  (K:∀v aF,bH H.length e R ay ad aF v (List.replicate n a)->Ext H aF->(n=0/\v= .slice (some ⟨0,0,none⟩) 0 0/\aF=H\/0<n/\v= .slice (some ⟨H.length,0,none⟩) n n/\aF=H++[.own e false (made z (n*R))])->ba P r Q .mk (a2 F d v) aF):ba P ((⟨eE,none,some d,.makeSlice t x y⟩:bG)::r) Q ax F H:=by
 have dd:z.cells.size=R:=by have:=hw.1;rw[ao]at this;exact(Option.some.inj this).symm
 by_cases aJ:n=0
 ·subst aJ
  exact jl (v:= .slice (some ⟨0,0,none⟩) 0 0) rfl rfl rfl (fun U aQ=> .vX aQ hu ao ag J aI) (fun U aQ=>by simp[bW,aQ]) (.inr (Ext.refl H)) (K _ H (bH.void _ _ _ _ _ _ _) (Ext.refl H) (.inl ⟨rfl,rfl,rfl⟩))
 ·refine jl (v:= .slice (some ⟨H.length,0,none⟩) n n) rfl rfl rfl (fun U aQ=> .make aQ hu ao ag aM dS dd J aI cV dZ (Nat.le_refl _) (by omega) bC) (fun U aQ=>by simp[bW,aQ]) (.inr ((Ext.refl H).snoc _ _ _)) (K _ _ ⟨made z (n*R),⟨by simp[qK],.inr ⟨H.length,0,n,false,made z (n*R),by simp,by omega,by simp,Nat.le_refl _,by simp,by simp[qK],?_⟩⟩,fun i x af=>?_⟩ ((Ext.refl H).snoc _ _ _) (.inr ⟨by omega,rfl,rfl⟩))
  ·rw[List.drop_zero,List.take_of_length_le (by simp[qK])]
  ·rw[List.getElem?_replicate]at af
   split at af
   ·rename_i aZ
    obtain rfl:=Option.some.inj af
    have hm:=Oe z R n i dd aZ cV
    have:eA ay R (made z (n*R)) i=z:=by
     have cn:=hw.2.2
     unfold eA
     cases ay with
     | true=>
      have aL:eS z=true:=by
       cases av:eS z with
       | true=>rfl
       | false=>rw[av]at cn;simp at cn;rw[cn.1]at ea;cases ea
      simp only[if_true]
      rw[hm,Array.toArray_toList]
      exact(uC aL).symm
     | false=>
      have aL:eS z=false:=by
       cases av:eS z with
       | false=>rfl
       | true=>rw[av]at cn;simp at cn;rw[cn]at ea;cases ea
      rw[aL]at cn
      simp at cn
      have o:R=1:=by rw[<-dd,cn.2];rfl
      subst o
      simp only[Bool.false_eq_true,if_false]
      have aa:(made z (n*1))[i]?=(((made z (n*1)).drop (i*1)).take 1)[0]?:=by
       rw[List.getElem?_take_of_lt (by omega),List.getElem?_drop];simp
      rw[aa,hm,cn.2]
      rfl
    rw[this]
    exact br _
   ·cases af
theorem PU{eE:Bool}{d t e R bF n:Nat}{ay:Bool}{x y:Operand}{eK cX:IntKind}{z:Value}{ad:ab->Value->α->Prop}{a:α}{ax:bb ((⟨eE,none,some d,.makeSlice t x y⟩:bG)::r) Q}(hu:P.underlying t=some (.slice e))(ao:bA P e=some R)(ag:bytes? P e=some bF)(aM:dD P e=some z)(dS:flat z=true)
  (ea:dr P e=some ay)(hw:Whole P e z)(J:aq F x= .int eK (n:Int))(aI:aq F y= .int cX (n:Int))(cV:0<R)(dZ:0<bF)(bC:bF*n<=281474976710656)(br:∀aF,ad aF z a)
  (K:∀ef ez aF,bH H.length e R ay ad aF (.slice ef n ez) (List.replicate n a)->Ext H aF->ba P r Q .mk (a2 F d (.slice ef n ez)) aF):ba P ((⟨eE,none,some d,.makeSlice t x y⟩:bG)::r) Q ax F H:=
 acB hu ao ag aM dS ea hw J aI cV dZ bC br fun v aF cw pz ae=>by
  have ar:=cw.len
  rw[List.length_replicate]at ar
  obtain⟨ef,ez,rfl⟩:=ar
  exact K ef ez aF cw pz
end
structure lL (dt eb:List Int) (M kind:Int) (w:Nat):Prop where
 Zz:∀x∈dt,x<=M
 eK:∀x∈eb,x<=M
 at_:(kind=0/\dt[w]?=some M/\∀(i:Nat) (x:Int),i<w->dt[i]?=some x->x<M)\/(kind=1/\(∀x∈dt,x<M)/\eb[w]?=some M/\∀(i:Nat) (x:Int),i<w->eb[i]?=some x->x<M)
theorem lL.uniq{dt eb:List Int}{M ux kind BS:Int}{w gQ:Nat}(h:lL dt eb M kind w)(cA:lL dt eb ux BS gQ):M=ux/\kind=BS/\w=gQ:=by
 have le:∀{M ux kind BS:Int} {w gQ:Nat},lL dt eb M kind w->lL dt eb ux BS gQ->M<=ux:=fun h cA=>by
  rcases h.at_ with⟨-,o,-⟩ | ⟨-,-,o,-⟩
  ·exact cA.Zz _ (List.mem_of_getElem? o)
  ·exact cA.eK _ (List.mem_of_getElem? o)
 have e:M=ux:=Int.le_antisymm (le h cA) (le cA h)
 subst e
 refine⟨rfl,?_⟩
 rcases h.at_ with⟨bk,o,aa⟩ | ⟨bk,aH,o,aa⟩<;>rcases cA.at_ with⟨bp,cr,iL⟩ | ⟨bp,cz,cr,iL⟩
 ·refine⟨by rw[bk,bp],?_⟩
  rcases Nat.lt_trichotomy w gQ with aZ | he | aZ
  ·exact absurd (iL _ _ aZ o) (Int.lt_irrefl _)
  ·exact he
  ·exact absurd (aa _ _ aZ cr) (Int.lt_irrefl _)
 ·exact absurd (cz _ (List.mem_of_getElem? o)) (Int.lt_irrefl _)
 ·exact absurd (aH _ (List.mem_of_getElem? cr)) (Int.lt_irrefl _)
 ·refine⟨by rw[bk,bp],?_⟩
  rcases Nat.lt_trichotomy w gQ with aZ | he | aZ
  ·exact absurd (iL _ _ aZ o) (Int.lt_irrefl _)
  ·exact he
  ·exact absurd (aa _ _ aZ cr) (Int.lt_irrefl _)
theorem Oo{t:List (List Int)}(bM:0<t.length):∃M:Int,(dG (dU (da t)) t.length).1=(M:Rat)/\(t.map List.sum)[(dG (dU (da t)) t.length).2]?=some M/\(∀x∈t.map List.sum,x<=M)/\∀(i:Nat) (x:Int),i<(dG (dU (da t)) t.length).2->(t.map List.sum)[i]?=some x->x<M:=by
 have rN:∀(i:Nat) (x:Int),(t.map List.sum)[i]?=some x->dU (da t) i=(x:Rat):=fun i x h=>by
  rw[List.getElem?_map]at h
  rw[GG]
  cases af:t[i]? with
  | none=>rw[af]at h;cases h
  | some r=>rw[af]at h;simp at h;simp[h]
 obtain⟨o,aa⟩:=tT (dU (da t)) t.length
 have hw:(dG (dU (da t)) t.length).2<t.length:=by omega
 have aX:(t.map List.sum)[(dG (dU (da t)) t.length).2]?=some (t[(dG (dU (da t)) t.length).2]'hw).sum:=by
  rw[List.getElem?_map,bz hw];rfl
 refine⟨_,by rw[o,rN _ _ aX],aX,fun x J=>?_,fun i x af J=>?_⟩
 ·obtain⟨i,af⟩:=List.mem_iff_getElem?.1 J
  have cK:i<t.length:=by have:=(cJ.1 af).1;simpa using this
  have:=BX (dU (da t)) cK
  rw[o,rN _ _ af,rN _ _ aX]at this
  exact_mod_cast this
 ·have:=aae (dU (da t)) af
  rw[o,rN _ _ J,rN _ _ aX]at this
  exact_mod_cast this
theorem J2{t:List (List Int)}{m:Nat}(hm:m=(t[0]?.getD []).length)(bM:0<t.length)(aH:0<m):lL (t.map List.sum) ((gP m t).map List.sum) (ir t).1 (ir t).2.1 (ir t).2.2:=by
 obtain⟨nX,od,TK,D6,TL⟩:=Oo bM
 have me:(gP m t).length=m:=by simp[gP]
 obtain⟨K,aV,Ls,Lv,Lu⟩:=Oo (t:=gP m t) (by omega)
 rw[me]at aV Ls Lu
 have bD:ir t=if(dG (dU (da t)) t.length).1<(dG (dU (da (gP m t))) m).1 then((dG (dU (da (gP m t))) m).1.num,1,(dG (dU (da (gP m t))) m).2)else((dG (dU (da t)) t.length).1.num,0,(dG (dU (da t)) t.length).2):=by
  unfold ir
  rw[<-hm]
 rw[bD,od,aV]
 by_cases aZ:nX<K
 ·rw[if_pos (by exact_mod_cast aZ)]
  simp only[Rat.num_intCast]
  exact⟨fun x J=>by have:=D6 x J;omega,Lv,.inr ⟨rfl,fun x J=>by have:=D6 x J;omega,Ls,Lu⟩⟩
 ·rw[if_neg (fun h=>aZ (by exact_mod_cast h))]
  simp only[Rat.num_intCast]
  exact⟨D6,fun x J=>by have:=Lv x J;omega,.inl ⟨rfl,TK,TL⟩⟩
def mE(t:List (List Int))(i k:Nat):Int:=(t[i]?.getD [])[k]?.getD 0
def kk(t:List (List Int))(i k a:Nat):Int:=if a<i then(t[a]?.getD []).sum else if a=i then((t[i]?.getD []).take k).sum else 0
def km(t:List (List Int))(i k b:Nat):Int:=((t.take i).map fun r=>r[b]?.getD 0).sum+if b<k then mE t i b else 0
theorem acd{row:List Int}{k:Nat}{x:Int}(J:row[k]?=some x):(row.take (k+1)).sum=(row.take k).sum+x:=by
 rw[List.take_add_one,J];simp
theorem ZA{t:List (List Int)}{i k a:Nat}{row:List Int}{x:Int}(al:t[i]?=some row)(J:row[k]?=some x):kk t i (k+1) a=if a=i then kk t i k i+x else kk t i k a:=by
 unfold kk
 by_cases h:a=i
 ·subst h
  simp[al,acd J]
 ·simp[h]
theorem Z5{t:List (List Int)}{i k b:Nat}{row:List Int}{x:Int}(al:t[i]?=some row)(J:row[k]?=some x):km t i (k+1) b=if b=k then km t i k k+x else km t i k b:=by
 unfold km mE
 by_cases h:b=k
 ·subst h
  simp[al,J]
 ·rw[if_neg h]
  by_cases aa:b<k
  ·rw[if_pos (by omega),if_pos aa]
  ·rw[if_neg (by omega),if_neg aa]
theorem ZB{t:List (List Int)}{i a:Nat}{row:List Int}(al:t[i]?=some row):kk t i row.length a=kk t (i+1) 0 a:=by
 unfold kk
 by_cases h:a<i
 ·rw[if_pos h,if_pos (by omega)]
 ·by_cases aa:a=i
  ·subst aa
   simp[al]
  ·rw[if_neg h,if_neg aa,if_neg (by omega)]
   split<;>simp
theorem Z6{t:List (List Int)}{i b:Nat}{row:List Int}(al:t[i]?=some row)(ag:b<row.length):km t i row.length b=km t (i+1) 0 b:=by
 unfold km mE
 rw[if_pos ag,List.take_add_one,al]
 simp
theorem ZC{t:List (List Int)}(ao:jJ t)(i k a:Nat):0<=kk t i k a/\kk t i k a<=1000000000:=by
 have g:∀i k:Nat,0<=((t[i]?.getD []).take k).sum/\((t[i]?.getD []).take k).sum<=1000000000:=fun i k=>by
  cases al:t[i]? with
  | none=>simp
  | some r=>
   have:=ao r (List.mem_of_getElem? al)
   exact jJ.sum (by simp;omega) fun x J=>this.2 x (List.mem_of_mem_take J)
 unfold kk
 split
 ·have:=g a (t[a]?.getD []).length
  rwa[List.take_length]at this
 ·split
  ·exact g i k
  ·omega
theorem Z7{t:List (List Int)}(ao:jJ t)(ar:t.length<1000)(i k b:Nat):0<=km t i k b/\km t i k b<=2000000000:=by
 have g:∀r∈t,0<=r[b]?.getD 0/\r[b]?.getD 0<=1000000:=fun r al=>by
  cases J:r[b]? with
  | none=>simp
  | some x=>exact(ao r al).2 x (List.mem_of_getElem? J)
 have o:0<=((t.take i).map fun r=>r[b]?.getD 0).sum/\((t.take i).map fun r=>r[b]?.getD 0).sum<=1000000000:=jJ.sum (by simp;omega) fun x J=>by
  rw[List.mem_map]at J
  obtain⟨r,al,rfl⟩:=J
  exact g r (List.mem_of_mem_take al)
 have aa:0<=mE t i b/\mE t i b<=1000000:=by
  unfold mE
  cases al:t[i]? with
  | none=>simp
  | some r=>exact g r (List.mem_of_getElem? al)
 unfold km
 split<;>omega
theorem HD{dt:List Int}{n:Nat}{f g:Nat->Int}{x:Int}{i:Nat}(af:i<n)(h:dt.length=n/\∀a,a<n->dt[a]?=some (f a))(aX:∀a,g a=if a=i then x else f a):(dt.set i x).length=n/\∀a,a<n->(dt.set i x)[a]?=some (g a):=by
 refine⟨by simp[h.1],fun a aL=>?_⟩
 rw[aX,List.getElem?_set]
 by_cases jQ:i=a
 ·subst jQ
  simp[h.1,af]
 ·rw[if_neg jQ,if_neg (Ne.symm jQ),h.2 a aL]
theorem ZW{v:Value}{t:List (List Int)}{m:Nat}{H:ab}(hm:m=(t[0]?.getD []).length)(dj:fK H v t)(an:g0 t):
  aO prog 40 [v] H (fun u H1=>Ext H H1/\∃a b,u= .tuple #[a,b]/\dV H1 a (t.map List.sum)/\dV H1 b ((gP m t).map List.sum)):=by
 refine aO.b9 fun Q aC=>?_
 have ao:=an.small
 have eG:=an.len
 have v1:=an.1
 have v2:=an.2.1
 have mo:=an.2.2.1
 have v4:=an.2.2.2.1
 rw[<-hm]at eG mo v4
 obtain⟨kG,qx⟩:∃p,t[0]?=some p:=⟨_,bz (show 0<t.length by omega)⟩
 have gK:kG.length=m:=eG _ (List.mem_of_getElem? qx)
 have g4:0<H.length:=by
  obtain⟨b,i,cap,X,all,-,aW,-⟩:=(Row.yJ dj).at (by omega)
  have:=(cJ.1 aW).1
  omega
 obtain⟨n,aJ⟩:∃n,n=t.length:=⟨_,rfl⟩
 apply YV (by simp)
 simp[Jh]
 refine ck (ad:=dV) (xs:=t) (by simpa using dj) (by simp) ?_
 simp only[<-aJ]
 try simp
 refine PU (e:=3) (R:=1) (bF:=8) (ay:=false) (n:=n) (eK:= .i64) (cX:= .i64) (z:= .int .i64 0) (ad:=IR) (a:=0) (by simp) (by simp) (by simp) (by rfl) (by rfl) (by simp) (jn 0) (by simp) (by simp) (by decide) (by decide) (by omega) (fun aF=>rfl) ?_
 intro pF pG H1 Lo bq
 simp
 have ta:=b7.ext (ad:=fK) dj bq
 refine cv (ad:=dV) (xs:=t) (n:=0) (a:=kG) (e:=34) (R:=1) (ay:=false) (by simpa using ta) (by simp) qx (by simp) (by simp) (by simp) (by decide) ?_
 rintro mj sx mV
 try simp
 refine ck (ad:=IR) (xs:=kG) (by simpa using mV) (by simp) ?_
 simp only[gK]
 try simp
 refine PU (e:=3) (R:=1) (bF:=8) (ay:=false) (n:=m) (eK:= .i64) (cX:= .i64) (z:= .int .i64 0) (ad:=IR) (a:=0) (by simp) (by simp) (by simp) (by rfl) (by rfl) (by simp) (jn 0) (by simp) (by simp) (by decide) (by decide) (by omega) (fun aF=>rfl) ?_
 intro F5 cX aS c3 bl
 have fY:=Ext.len bq
 have cF:∀b,0<b->inBlock (.slice pF n pG) b->¬inBlock (.slice F5 m cX) b:=fun b aH o aa=>by
  have:=Lo.ge o aH
  have:=c3.ge aa aH
  omega
 have TI:=b7.ext (ad:=bH _ _ _ _ IR) Lo bl
 have D7:=c3.le fY
 have Aw:=b7.ext (ad:=fK) ta bl
 have jY:=bq.aw bl
 try simp
 refine c7.mk (by kernel_rfl) (fun w c_ en bN=>∃(i:Nat) (dt eb:List Int),w=n-i/\i<=n/\c_ 6= .int .i64 (i:Int)/\Ext H bN/\bH H.length 3 1 false IR bN (.slice pF n pG) dt/\bH H.length 3 1 false IR bN (.slice F5 m cX) eb/\(dt.length=n/\∀a,a<n->dt[a]?=some (kk t i 0 a))/\(eb.length=m/\∀a,a<m->eb[a]?=some (km t i 0 a))) n ⟨0,List.replicate n 0,List.replicate m 0,by omega,by omega,by simp,jY,TI,D7,⟨by simp,fun a aL=>by simp[kk,aL]⟩,⟨by simp,fun a aL=>by simp[km,aL]⟩⟩ ?_
 rintro w c_ en bN ⟨i,dt,eb,rfl,af,ds,bK,Lp,fN,ns,oE⟩ K aV
 simp at ds
 have ln:=b7.ext (ad:=fK) dj bK
 simp[ds]
 refine ck (ad:=dV) (xs:=t) (by simpa using ln) (by simp) ?_
 simp only[<-aJ]
 simp
 refine bs.bZ (fun aZ=>?_) (fun aZ=>?_)
 ·refine Exists.elim (⟨_,bz (show i<t.length by omega)⟩:∃p,t[i]?=some p) fun row dL=>?_
  have gg:=List.mem_of_getElem? dL
  have ja:=eG _ gg
  have gW:=kK (show i<4611686018427387904 by omega)
  simp
  refine c7.mk (by kernel_rfl) (fun w cT dO bU=>∃(k:Nat) (dt eb:List Int),w=m-k/\k<=m/\cT 7= .int .i64 (k:Int)/\Ext H bU/\bH H.length 3 1 false IR bU (.slice pF n pG) dt/\bH H.length 3 1 false IR bU (.slice F5 m cX) eb/\(dt.length=n/\∀a,a<n->dt[a]?=some (kk t i k a))/\(eb.length=m/\∀a,a<m->eb[a]?=some (km t i k a))) m ⟨0,dt,eb,by omega,by omega,by simp,bK,Lp,fN,ns,oE⟩ ?_
  rintro w cT dO bU ⟨k,dt,eb,rfl,ak,bV,ch,D5,g1,ns,oE⟩ nZ TQ
  simp at bV
  have xh:=b7.ext (ad:=fK) dj ch
  simp[ds,bV]
  refine cv (ad:=dV) (xs:=t) (n:=i) (a:=row) (e:=34) (R:=1) (ay:=false) (by simpa using xh) (by simp[ds]) dL (by simp) (by simp) (by simp) (by decide) ?_
  rintro oS u8 rX
  try simp
  refine ck (ad:=IR) (xs:=row) (by simpa using rX) (by simp) ?_
  simp only[ja]
  simp[bV]
  refine bs.bZ (fun gB=>?_) (fun gB=>?_)
  ·refine Exists.elim (⟨_,bz (show k<row.length by omega)⟩:∃p,row[k]?=some p) fun x J=>?_
   have nC:=kK (show k<4611686018427387904 by omega)
   have BN:=(ao _ gg).2 x (List.mem_of_getElem? J)
   have qp:=ZC ao i k i
   have nu:=Z7 ao (by omega) i k k
   have py:IntKind.i64.wrap (kk t i k i+x)=kk t i k i+x:=b8 (by omega) (by omega)
   have BK:IntKind.i64.wrap (km t i k k+x)=km t i k k+x:=b8 (by omega) (by omega)
   simp[ds,bV]
   refine cv (ad:=IR) (xs:=dt) (n:=i) (a:=kk t i k i) (e:=3) (R:=1) (ay:=false) (by simpa using D5.row) (by simp[ds]) (ns.2 i (by omega)) (by simp) (by simp) (by simp) (by decide) ?_
   rintro B8 Qj rfl
   simp[ds,bV]
   refine cv (ad:=dV) (xs:=t) (n:=i) (a:=row) (e:=34) (R:=1) (ay:=false) (by simpa using xh) (by simp[ds]) dL (by simp) (by simp) (by simp) (by decide) ?_
   rintro tX zs yq
   simp[bV]
   refine cv (ad:=IR) (xs:=row) (n:=k) (a:=x) (e:=3) (R:=1) (ay:=false) (by simpa using yq) (by simp[bV]) J (by simp) (by simp) (by simp) (by decide) ?_
   rintro y2 qZ rfl
   simp[py]
   refine kp (k:=H.length) (e:=3) (R:=1) (ay:=false) (n:=i) (ad:=IR) (xs:=dt) (a:=kk t i k i+x) (by simpa using D5) (by simp[ds]) (by omega) (by simp[IR]) (by simpa using jn _) (by simp) (fun aF dC u y ak h=>h) (by simp) (by simp) (by simp) (by decide) ?_
   intro y3 b5 Lq cP vC EY aiD
   have BL:=cP _ (Nat.le_refl _) ch
   have D4:=b7.ext (ad:=fK) dj BL
   simp at Lq vC
   have jO:=g1.beside g4 vC (fun b aH o aa=>cF b aH aa o) fun _ _ h=>h
   have VF:=HD (i:=i) (by omega) ns (fun a=>ZA dL J)
   simp[ds,bV]
   refine cv (ad:=IR) (xs:=eb) (n:=k) (a:=km t i k k) (e:=3) (R:=1) (ay:=false) (by simpa using jO.row) (by simp[bV]) (oE.2 k (by omega)) (by simp) (by simp) (by simp) (by decide) ?_
   rintro tY zt rfl
   simp[ds,bV]
   refine cv (ad:=dV) (xs:=t) (n:=i) (a:=row) (e:=34) (R:=1) (ay:=false) (by simpa using D4) (by simp[ds]) dL (by simp) (by simp) (by simp) (by decide) ?_
   rintro B7 G_ BE
   simp[bV]
   refine cv (ad:=IR) (xs:=row) (n:=k) (a:=x) (e:=3) (R:=1) (ay:=false) (by simpa using BE) (by simp[bV]) J (by simp) (by simp) (by simp) (by decide) ?_
   rintro aau aeP rfl
   simp[BK]
   refine kp (k:=H.length) (e:=3) (R:=1) (ay:=false) (n:=k) (ad:=IR) (xs:=eb) (a:=km t i k k+x) (by simpa using jO) (by simp[bV]) (by omega) (by simp[IR]) (by simpa using jn _) (by simp) (fun aF dC u y ak h=>h) (by simp) (by simp) (by simp) (by decide) ?_
   intro aav dx qd cu qq VP aiE
   have Xn:=cu _ (Nat.le_refl _) BL
   simp at qd qq
   have TJ:=Lq.beside g4 qq (fun b aH o aa=>cF b aH o aa) fun _ _ h=>h
   have VK:=HD (i:=k) (by omega) oE (fun a=>Z5 dL J)
   simp[bV,nC]
   exact TQ (m-(k+1)) _ _ _ (by omega) ⟨k+1,_,_,rfl,by omega,by simp,Xn,TJ,qd,VF,VK⟩
  ·have i_:k=m:=by omega
   simp[ds,gW]
   refine aV (n-(i+1)) _ _ _ (by omega) ⟨i+1,dt,eb,rfl,by omega,by simp,ch,D5,g1,⟨ns.1,fun a aL=>?_⟩,⟨oE.1,fun a aL=>?_⟩⟩
   ·rw[ns.2 a aL,<-ZB dL,ja,i_]
   ·rw[oE.2 a aL,<-Z6 dL (by omega),ja,i_]
 ·have fe:i=n:=by omega
  simp[bd]
  have SO:dt=t.map List.sum:=by
   apply List.ext_getElem?
   intro a
   by_cases aL:a<n
   ·rw[ns.2 a aL,List.getElem?_map,bz (by omega)]
    simp[kk,show a<i by omega,bz (show a<t.length by omega)]
   ·rw[List.getElem?_eq_none (by omega),List.getElem?_eq_none (by simp;omega)]
  have SP:eb=(gP m t).map List.sum:=by
   apply List.ext_getElem?
   intro a
   by_cases aL:a<m
   ·rw[oE.2 a aL]
    unfold gP km
    rw[List.take_of_length_le (by omega)]
    simp[aL]
   ·rw[List.getElem?_eq_none (by omega),List.getElem?_eq_none (by simp[gP];omega)]
  refine aC _ _ ⟨bK,_,_,rfl,?_,?_⟩
  ·rw[<-SO];exact Lp.row
  ·rw[<-SP];exact fN.row
structure o3 (l:List Int) (z:Int):Prop where
 le:∀x∈l,x<=z
 at_:z=0\/z∈l
 iC:0<=z
theorem o3.nil:o3 [] 0:=⟨by simp,.inl rfl,Int.le_refl _⟩
theorem o3.snoc{l:List Int}{z x:Int}(h:o3 l z):o3 (l++[x]) (if z<x then x else z):=by
 split
 ·have:=h.iC
  refine⟨fun y aI=>?_,.inr (by simp),by omega⟩
  rcases List.mem_append.1 aI with aI | aI
  ·have:=h.le y aI;omega
  ·simp at aI;omega
 ·refine⟨fun y aI=>?_,?_,h.iC⟩
  ·rcases List.mem_append.1 aI with aI | aI
   ·exact h.le y aI
   ·simp at aI;omega
  ·rcases h.at_ with h | h
   ·exact .inl h
   ·exact .inr (by simp[h])
theorem lL.mY{dt eb:List Int}{z:Int}{i:Nat}(h:o3 (dt++eb) z)(af:dt[i]?=some z)(aB:∀x∈dt.take i,x≠z):lL dt eb z 0 i:=
 ⟨fun x J=>h.le x (by simp[J]),fun x J=>h.le x (by simp[J]),.inl ⟨rfl,af,fun a x aL J=>by
  have o:=h.le x (by simp[List.mem_of_getElem? J])
  have aa:=aB x (List.mem_of_getElem? (by rw[List.getElem?_take_of_lt aL];exact J))
  omega⟩⟩
theorem lL.Z8{dt eb:List Int}{z:Int}{i:Nat}(h:o3 (dt++eb) z)(aY:∀x∈dt,x≠z)(af:eb[i]?=some z)(aB:∀x∈eb.take i,x≠z):lL dt eb z 1 i:=
 ⟨fun x J=>h.le x (by simp[J]),fun x J=>h.le x (by simp[J]),.inr ⟨rfl,fun x J=>by
  have o:=h.le x (by simp[J])
  have aa:=aY x J
  omega,af,fun a x aL J=>by
  have o:=h.le x (by simp[List.mem_of_getElem? J])
  have aa:=aB x (List.mem_of_getElem? (by rw[List.getElem?_take_of_lt aL];exact J))
  omega⟩⟩
theorem Rk{v:Value}{t:List (List Int)}{H:ab}(dj:fK H v t)(an:g0 t):
  aO prog 13 [v] H (fun u H1=>Ext H H1/\u= .tuple #[.int .i64 (ir t).1,.int .i64 (ir t).2.1,.int .i64 (ir t).2.2]):=by
 refine aO.b9 fun Q aC=>?_
 obtain⟨m,hm⟩:∃m,m=(t[0]?.getD []).length:=⟨_,rfl⟩
 have ao:=an.small
 have v1:=an.1
 have v2:=an.2.1
 have mo:=an.2.2.1
 have v4:=an.2.2.2.1
 rw[<-hm]at mo v4
 have bD:=J2 hm (by omega) (by omega)
 obtain⟨dt,ns⟩:∃dt,dt=t.map List.sum:=⟨_,rfl⟩
 obtain⟨eb,oE⟩:∃eb,eb=(gP m t).map List.sum:=⟨_,rfl⟩
 rw[<-ns,<-oE]at bD
 have gf:dt.length=t.length:=by rw[ns];simp
 have gB:eb.length=m:=by rw[oE];simp[gP]
 have mO:∀x∈dt,0<=x:=fun x J=>by
  rw[ns,List.mem_map]at J
  obtain⟨r,al,rfl⟩:=J
  exact(jJ.sum (ao r al).1 (ao r al).2).1
 have done:∀{z kind:Int} {w:Nat} {H1:ab},Ext H H1->lL dt eb z kind w->Q (.tuple #[.int .i64 z,.int .i64 kind,.int .i64 (w:Int)]) H1:=fun J ag=>by
  obtain⟨bk,bp,e0⟩:=ag.uniq bD
  exact aC _ _ ⟨J,by rw[bk,bp,e0]⟩
 apply YS (by simp)
 simp[Je]
 refine aT.mk (ZW hm dj an) ?_
 simp only[<-ns,<-oE]
 rintro _ H1 ⟨bq,gM,ajE,rfl,od,aV⟩
 simp
 refine c7.mk (by kernel_rfl) (fun w c_ en bN=>∃(i:Nat) (z:Int),w=dt.length-i/\i<=dt.length/\c_ 8= .int .i64 (i:Int)/\c_ 7= .int .i64 z/\bN=H1/\o3 (dt.take i) z) dt.length ⟨0,0,by omega,by omega,by simp,by simp,rfl,by simpa using o3.nil⟩ ?_
 rintro w c_ en bN ⟨i,z,rfl,af,cN,bV,rfl,aM⟩ K fM
 simp at cN bV
 simp[cN]
 refine ck (ad:=IR) (xs:=dt) (by simpa using od) (by simp) ?_
 simp
 refine bs.bZ (fun aZ=>?_) (fun aZ=>?_)
 ·refine Exists.elim (⟨_,bz aZ⟩:∃p,dt[i]?=some p) fun x J=>?_
  have gW:=kK (show i<4611686018427387904 by omega)
  simp[cN,bV]
  refine cv (ad:=IR) (xs:=dt) (n:=i) (a:=x) (e:=3) (R:=1) (ay:=false) (by simpa using od) (by simp[cN]) J (by simp) (by simp) (by simp) (by decide) ?_
  rintro gj pP rfl
  simp[bV,cN,gW]
  refine fM (dt.length-(i+1)) _ _ _ (by omega) ⟨i+1,_,rfl,by omega,by simp,by simp;rfl,rfl,?_⟩
  rw[List.take_add_one,J]
  exact aM.snoc
 ·rw[show i=dt.length by omega,List.take_length]at aM
  simp
  refine c7.mk (by kernel_rfl) (fun w cT dO bU=>∃(k:Nat) (z:Int),w=eb.length-k/\k<=eb.length/\cT 9= .int .i64 (k:Int)/\cT 7= .int .i64 z/\bU=bN/\o3 (dt++eb.take k) z) eb.length ⟨0,z,by omega,by omega,by simp,by simp[bV],rfl,by simpa using aM⟩ ?_
  rintro w cT dO bU ⟨k,z,rfl,ak,eB,bV,rfl,aM⟩ nZ g1
  simp at eB bV
  simp[eB]
  refine ck (ad:=IR) (xs:=eb) (by simpa using aV) (by simp) ?_
  simp
  refine bs.bZ (fun aZ=>?_) (fun aZ=>?_)
  ·refine Exists.elim (⟨_,bz aZ⟩:∃p,eb[k]?=some p) fun x J=>?_
   have gW:=kK (show k<4611686018427387904 by omega)
   simp[eB,bV]
   refine cv (ad:=IR) (xs:=eb) (n:=k) (a:=x) (e:=3) (R:=1) (ay:=false) (by simpa using aV) (by simp[eB]) J (by simp) (by simp) (by simp) (by decide) ?_
   rintro gj pP rfl
   simp[bV,eB,gW]
   refine g1 (eb.length-(k+1)) _ _ _ (by omega) ⟨k+1,_,rfl,by omega,by simp,by simp;rfl,rfl,?_⟩
   rw[List.take_add_one,J,<-List.append_assoc]
   exact aM.snoc
  ·rw[show k=eb.length by omega,List.take_length]at aM
   simp
   refine c7.mk (by kernel_rfl) (fun w eI fR b5=>∃(i:Nat),w=dt.length-i/\i<=dt.length/\eI 10= .int .i64 (i:Int)/\b5=bU/\∀x∈dt.take i,x≠z) dt.length ⟨0,by omega,by omega,by simp,rfl,by simp⟩ ?_
   rintro w eI fR b5 ⟨i,rfl,af,gU,rfl,aB⟩ wE jO
   simp at gU
   simp[gU]
   refine ck (ad:=IR) (xs:=dt) (by simpa using od) (by simp) ?_
   simp
   refine bs.bZ (fun aZ=>?_) (fun aZ=>?_)
   ·refine Exists.elim (⟨_,bz aZ⟩:∃p,dt[i]?=some p) fun x J=>?_
    have gW:=kK (show i<4611686018427387904 by omega)
    simp[gU,bV]
    refine cv (ad:=IR) (xs:=dt) (n:=i) (a:=x) (e:=3) (R:=1) (ay:=false) (by simpa using od) (by simp[gU]) J (by simp) (by simp) (by simp) (by decide) ?_
    rintro gj pP rfl
    simp[bV]
    refine bs.bZ (fun he=>?_) (fun he=>?_)
    ·simp[bV,gU,bd]
     exact done bq (lL.mY aM (by rw[J,he]) aB)
    ·simp[gU,gW]
     refine jO (dt.length-(i+1)) _ _ _ (by omega) ⟨i+1,rfl,by omega,by simp,rfl,fun y aI=>?_⟩
     rw[List.take_add_one,J]at aI
     rcases List.mem_append.1 aI with aI | aI
     ·exact aB y aI
     ·simp at aI;subst aI;exact he
   ·rw[show i=dt.length by omega,List.take_length]at aB
    have Xw:z∈eb:=by
     have aH:dt[0]?=some (dt[0]'(by omega)):=bz (by omega)
     have kd:=List.mem_of_getElem? aH
     have b4:=mO _ kd
     have cM:=aM.le _ (List.mem_append_left _ kd)
     have eM:=aB _ kd
     rcases aM.at_ with h | h
     ·omega
     ·rcases List.mem_append.1 h with h | h
      ·exact absurd rfl (aB z h)
      ·exact h
    refine Exists.elim (List.mem_iff_getElem?.1 Xw) fun hP pr=>?_
    have aiS:hP<eb.length:=(cJ.1 pr).1
    simp
    refine c7.mk (by kernel_rfl) (fun w jI lO dx=>∃(i:Nat),w=hP-i/\i<=hP/\jI 11= .int .i64 (i:Int)/\dx=b5/\∀x∈eb.take i,x≠z) hP ⟨0,by omega,by omega,by simp,rfl,by simp⟩ ?_
    rintro w jI lO dx ⟨i,rfl,af,jL,rfl,L6⟩ HE qd
    simp at jL
    refine Exists.elim (⟨_,bz (show i<eb.length by omega)⟩:∃p,eb[i]?=some p) fun x J=>?_
    have gW:=kK (show i<4611686018427387904 by omega)
    simp[jL,bV]
    refine cv (ad:=IR) (xs:=eb) (n:=i) (a:=x) (e:=3) (R:=1) (ay:=false) (by simpa using aV) (by simp[jL]) J (by simp) (by simp) (by simp) (by decide) ?_
    rintro gj pP rfl
    simp[bV]
    refine bs.bZ (fun he=>?_) (fun he=>?_)
    ·simp[bV,jL,bd]
     exact done bq (lL.Z8 aM aB (by rw[J,he]) L6)
    ·simp[jL,gW]
     have rL:i≠hP:=fun h=>he (by rw[h,pr]at J;exact(Option.some.inj J).symm)
     refine qd (hP-(i+1)) _ _ _ (by omega) ⟨i+1,rfl,by omega,by simp,rfl,fun y aI=>?_⟩
     rw[List.take_add_one,J]at aI
     rcases List.mem_append.1 aI with aI | aI
     ·exact L6 y aI
     ·simp at aI;subst aI;exact he
end Go.dq
end
