/- Part of the proof of ShopJoined. -/
import Derived.Test.YtoiodfcefbapkaaGreatShopJoinedI
set_option linter.unusedVariables false
set_option linter.unusedSimpArgs false
section
set_option maxRecDepth 8000
set_option maxHeartbeats 1000000
namespace Go.cJ
open Go.Proofs
open Go.Proofs.Tryz (prog)
attribute [-simp] hq hX jG
def b4(N:Nat)(z:Int):Prop:=z.natAbs<10000^N
theorem b4.mono{N M:Nat}{z:Int}(h:b4 N z)(zC:N<=M):b4 M z:=Nat.lt_of_lt_of_le h (Nat.pow_le_pow_right (by decide) zC)
theorem b4.neg{N:Nat}{z:Int}(h:b4 N z):b4 N (-z):=by unfold b4;rw[Int.natAbs_neg];exact h
theorem b4.le{N:Nat}{a b:Int}(h:b4 N a)(hle:b.natAbs<=a.natAbs):b4 N b:=Nat.lt_of_le_of_lt hle h
theorem b4.add{N:Nat}{a b:Int}(aO:b4 N a)(ag:b4 N b):b4 (N+1) (a+b):=by
 unfold b4 at*
 have:=Int.natAbs_add_le a b
 rw[Nat.pow_succ]
 omega
theorem b4.mul{N M:Nat}{a b:Int}(aO:b4 N a)(ag:b4 M b):b4 (N+M) (a*b):=by
 unfold b4 at*
 rw[Int.natAbs_mul,Nat.pow_add]
 exact Nat.mul_lt_mul'' aO ag
theorem b4.small{N:Nat}{z:Int}(h:z.natAbs<10000)(bX:0<N):b4 N z:=by
 have:(10000:Nat)^1<=10000^N:=Nat.pow_le_pow_right (by decide) bX
 unfold b4
 omega
theorem b4.i64{z:Int}(o: -9223372036854775808<=z)(aa:z<9223372036854775808):b4 5 z:=by
 unfold b4
 have:(10000:Nat)^5=100000000000000000000:=by decide
 omega
theorem b4.len{N:Nat}{s:Bool}{aN:List Nat}{z:Int}(h:b4 N z)(bc:fK aN)(aM:z=fb s (bp aN)):aN.length<=N:=eg.len bc aM h
theorem IC{v w:Value}{x y:Int}{N:Nat}{H:ab}(bt:eg H v x)(bC:eg H w y)(kW:b4 N x)(kX:b4 N y)(bX:N<=10000000000):aP prog 56 [v,w] H (fun u H1=>Ext H H1/\eg H1 u (x+y)):=by
 refine aP.b9 fun Q aE=>?_
 obtain⟨s1,bY,cm,d1,rfl,eI,kA,k0,iu,fq⟩:=bt
 obtain⟨s2,cC,cF,d2,rfl,gI,h1,h3,jk,lN⟩:=bC
 have gL:=kW.len k0 iu
 have jU:=kX.len h3 jk
 clear kW kX
 apply Wp (by simp)
 simp[He]
 have bn:Ext H (H++[.dead,.dead,.dead]):=Ext.more H (by simp)
 refine bH.mk (fun ag=>?_) (fun ag=>?_)
 ·have ao:s1=s2:=by simpa using ag
  simp
  refine aV.mk (P6 (eI.ext bn) (gI.ext bn) kA h1 (by omega) (by omega)) ?_
  rintro _ H1 ⟨bx,eC,eJ,d3,rfl,pE,nS,jg,mm⟩
  refine⟨bx,?_⟩
  simp
  refine aV.mk (p6 pE nS (by omega)) ?_
  rintro u aR ⟨bm,hu⟩
  simp
  refine cO.mk hu.whole ?_
  simp[bf]
  refine aE _ _ ⟨bn.aw (bx.aw bm),?_⟩
  have e:x+y=fb s1 (bp d3):=by
   rw[iu,jk,jg,<-ao]
   cases s1<;>simp[fb];omega
  rw[e]
  exact hu
 ·have ao:s1≠s2:=by simpa using ag
  simp
  refine aV.mk (N9 (eI.ext bn) (gI.ext bn) kA h1 k0 h3 (by omega) (by omega)) ?_
  rintro _ H1 ⟨rfl,rfl⟩
  simp
  refine bH.b_ (fun ad=>?_) (fun ad=>?_)
  ·have hl:bp d2<=bp d1:=by
    by_cases h:bp d1<bp d2
    ·rw[if_pos h]at ad;omega
    ·omega
   have hlen:d2.length<=d1.length:=by
    by_cases h:d2.length<=d1.length
    ·exact h
    ·have:=h3.x0 kA (by omega);omega
   simp
   refine aV.mk (Ca (eI.ext bn) (gI.ext bn) kA h1 (by omega) hl hlen) ?_
   rintro _ H1 ⟨bx,eC,eJ,d3,rfl,pE,nS,jg,mm⟩
   refine⟨bx,?_⟩
   simp
   refine aV.mk (p6 pE nS (by omega)) ?_
   rintro u aR ⟨bm,hu⟩
   simp
   refine cO.mk hu.whole ?_
   simp[bf]
   refine aE _ _ ⟨bn.aw (bx.aw bm),?_⟩
   have e:x+y=fb s1 (bp d3):=by
    rw[iu,jk,jg]
    cases s1<;>cases s2<;>simp[fb]at ao⊢<;>omega
   rw[e]
   exact hu
  ·have a6:bp d1<bp d2:=by
    by_cases h:bp d1<bp d2
    ·exact h
    ·rw[if_neg h]at ad
     split at ad<;>omega
   have hlen:d1.length<=d2.length:=by
    by_cases h:d1.length<=d2.length
    ·exact h
    ·have:=k0.x0 h1 (by omega);omega
   simp
   refine aV.mk (Ca (gI.ext bn) (eI.ext bn) h1 kA (by omega) (by omega) hlen) ?_
   rintro _ H1 ⟨bx,eC,eJ,d3,rfl,pE,nS,jg,mm⟩
   refine⟨bx,?_⟩
   simp
   refine aV.mk (p6 pE nS (by omega)) ?_
   rintro u aR ⟨bm,hu⟩
   simp
   refine cO.mk hu.whole ?_
   simp[bf]
   refine aE _ _ ⟨bn.aw (bx.aw bm),?_⟩
   have e:x+y=fb s2 (bp d3):=by
    rw[iu,jk,jg]
    cases s1<;>cases s2<;>simp[fb]at ao⊢<;>omega
   rw[e]
   exact hu
theorem Ce{v w:Value}{x y:Int}{N:Nat}{H:ab}(bt:eg H v x)(bC:eg H w y)(kW:b4 N x)(kX:b4 N y)(bX:N<=10000000000):aP prog 71 [v,w] H (fun u H1=>Ext H H1/\eg H1 u (x-y)):=by
 refine aP.b9 fun Q aE=>?_
 have ahP:=bt.whole
 have VQ:=bC.whole
 have wq:=bt
 have sg:=bC
 obtain⟨s1,bY,cm,d1,rfl,-⟩:=wq
 obtain⟨s2,cC,cF,d2,rfl,-⟩:=sg
 apply WC (by simp)
 simp[Hr]
 have bn:Ext H (H++[.dead,.dead,.dead]):=Ext.more H (by simp)
 refine aV.mk (II (bC.ext bn)) ?_
 rintro u H1 ⟨bx,hu⟩
 refine⟨bx,?_⟩
 simp
 refine aV.mk (IC (bt.ext (bn.aw bx)) hu kW kX.neg bX) ?_
 rintro w aR ⟨bm,hw⟩
 simp
 refine cO.mk hw.whole ?_
 simp[bf]
 exact aE _ _ ⟨bn.aw (bx.aw bm),by rw[Int.sub_eq_add_neg];exact hw⟩
theorem B8{v w:Value}{x y:Int}{N:Nat}{H:ab}(bt:eg H v x)(bC:eg H w y)(kW:b4 N x)(kX:b4 N y)(bX:N<=10000000000):aP prog 44 [v,w] H (fun u H1=>Ext H H1/\u= .int .i64 (if x<y then-1 else if x=y then 0 else 1)):=by
 refine aP.b9 fun Q aE=>?_
 have wq:=bt
 have sg:=bC
 obtain⟨s1,bY,cm,d1,rfl,-⟩:=wq
 obtain⟨s2,cC,cF,d2,rfl,-⟩:=sg
 apply Wr (by simp)
 simp[Hg]
 have bn:Ext H (H++[.dead,.dead]):=Ext.more H (by simp)
 refine aV.mk (Ce (bt.ext bn) (bC.ext bn) kW kX bX) ?_
 rintro u H1 ⟨bx,hu⟩
 simp
 refine aV.mk (P_ hu) ?_
 rintro w aR ⟨bm,rfl⟩
 simp[bf]
 refine aE _ _ ⟨bn.aw (bx.aw bm),?_⟩
 congr 1
 by_cases o:x<y
 ·rw[if_pos (by omega),if_pos o]
 ·rw[if_neg (by omega),if_neg o]
  by_cases aa:x=y
  ·rw[if_pos (by omega),if_pos aa]
  ·rw[if_neg (by omega),if_neg aa]
theorem adl{aN:List Nat}{j d:Nat}(aX:j<aN.length):bp (aN.set j d)+10000^j*(aN[j]?.getD 0)=bp aN+10000^j*d:=by
 rw[yB (aN.set j d) j (by simp;omega),yB aN j (by omega)]
 have o:(aN.set j d).take j=aN.take j:=by rw[List.take_set_of_le (Nat.le_refl j)]
 rw[o,vy (aN:=aN.set j d) (by simpa using aX),vy aX,List.getElem?_set_self aX]
 have aa:(aN.set j d).drop (j+1)=aN.drop (j+1):=by rw[List.drop_set_of_lt (by omega)]
 rw[aa]
 simp only[Option.getD_some]
 rw[Nat.mul_add,Nat.mul_add]
 omega
theorem eB.set{aN:List Nat}{j d:Nat}(h:eB aN)(aB:d<10000):eB (aN.set j d):=fun x J=>by
 rcases List.mem_or_eq_of_mem_set J with J | rfl
 ·exact h x J
 ·exact aB
theorem YH{V O R eT X P i k a b d dR s:Nat}(h:V+10000^(i+k)*eT=P+10000^i*(a*X))(ao:s=R+eT+a*b)(aB:d+10000*dR=s)(nW:O+10000^(i+k)*R=V+10000^(i+k)*d):O+10000^(i+(k+1))*dR=P+10000^i*(a*(X+10000^k*b)):=by
 have o:10000^(i+(k+1))*dR=10000^(i+k)*(10000*dR):=by
  rw[<-Nat.add_assoc,Nat.pow_succ,Nat.mul_assoc]
 have aa:10000^(i+k)*d+10000^(i+k)*(10000*dR)=10000^(i+k)*R+10000^(i+k)*eT+10000^(i+k)*(a*b):=by
  rw[<-Nat.mul_add,<-Nat.mul_add,<-Nat.mul_add,aB,ao]
 have aA:10000^(i+k)*(a*b)=10000^i*(a*(10000^k*b)):=by
  rw[Nat.pow_add,Nat.mul_assoc]
  congr 1
  rw[<-Nat.mul_assoc,<-Nat.mul_assoc,Nat.mul_comm (10000^k) a]
 rw[Nat.mul_add,Nat.mul_add,o]
 omega
theorem YI{A B a i da V eT:Nat}(bt:A<10000^i)(aO:a<10000)(bC:B<10000^da)(h:V+10000^(i+(da+1))*eT=A*B+10000^i*(a*B)):eT=0:=by
 rcases Nat.eq_zero_or_pos eT with aH | aH
 ·exact aH
 ·exfalso
  have o:A*B+10000^i*(a*B)=(A+10000^i*a)*B:=by rw[Nat.add_mul,Nat.mul_assoc]
  have aa:A+10000^i*a<10000^(i+1):=by
   have aA:10000^i*(a+1)<=10000^i*10000:=Nat.mul_le_mul_left _ aO
   rw[Nat.mul_add,Nat.mul_one]at aA
   rw[Nat.pow_succ]
   omega
  have aA:(A+10000^i*a)*B<10000^(i+1)*10000^da:=Nat.mul_lt_mul'' aa bC
  rw[<-Nat.pow_add]at aA
  have bo:10000^(i+(da+1))*1<=10000^(i+(da+1))*eT:=Nat.mul_le_mul_left _ aH
  have bK:i+(da+1)=i+1+da:=by omega
  rw[bK]at h bo
  omega
theorem tD{v w:Value}{x y:Int}{N:Nat}{H:ab}(bt:eg H v x)(bC:eg H w y)(kW:b4 N x)(kX:b4 N y)(bX:N<=1000000000):aP prog 45 [v,w] H (fun u H1=>Ext H H1/\eg H1 u (x*y)):=by
 refine aP.b9 fun Q aE=>?_
 obtain⟨s1,bY,cm,e7,rfl,eI,kA,k0,iu,fq⟩:=bt
 obtain⟨s2,cC,cF,fR,rfl,gI,h1,h3,jk,lN⟩:=bC
 have gL:=kW.len k0 iu
 have jU:=kX.len h3 jk
 clear kW kX
 obtain⟨c5,ki⟩:∃c5,c5=e7.length:=⟨_,rfl⟩
 obtain⟨da,jA⟩:∃da,da=fR.length:=⟨_,rfl⟩
 rw[<-ki]at eI gL
 rw[<-jA]at gI jU
 rw[<-ki,<-jA]
 apply Wx (by simp)
 simp[Hm]
 have bn:Ext H (H++[.dead,.dead,.dead]):=Ext.more H (by simp)
 have C0:=eI.ext bn
 have SS:=gI.ext bn
 have nb:IntKind.i64.wrap ((c5:Int)+(da:Int))=((c5+da:Nat):Int):=by rw[b6 (by omega) (by omega)];simp
 have mx:IntKind.i64.wrap (((c5:Int)+(da:Int))+1)=((c5+da+1:Nat):Int):=by rw[b6 (by omega) (by omega)];simp
 refine c9 (af:=dd) (xs:=e7) (by simpa using C0) (by simp) ?_
 simp[<-ki]
 refine c9 (af:=dd) (xs:=fR) (by simpa using SS) (by simp) ?_
 simp[<-jA,nb,mx]
 refine yt (e:=3) (U:=1) (bA:=8) (aC:=false) (n:=c5+da+1) (eW:= .i64) (c4:= .i64) (z:= .int .i64 0) (af:=dd) (a:=0) (by simp) (by simp) (by simp) (by rfl) (by rfl) (by simp) (j8 0) (by simp) (by simp) (by decide) (by decide) (by omega) (fun aF=>rfl) ?_
 intro ld lf H1 CT Ei
 have iJ:=CT.le (b5:=H.length) (by simp)
 have bx:=bn.aw Ei
 simp
 refine dF.mk (by kernel_rfl) (fun m bU dp aR=>∃(i:Nat) (R:List Nat),m=c5-i/\i<=c5/\bU 6= .int .i64 (i:Int)/\Ext H aR/\bB H.length 3 1 false dd aR (.slice ld (c5+da+1) lf) R/\R.length=c5+da+1/\eB R/\bp R=bp (e7.take i)*bp fR) c5 ⟨0,List.replicate (c5+da+1) 0,by omega,by omega,by simp,bx,iJ,by simp,fun d aB=>by rw[List.mem_replicate]at aB;omega,by rw[F5];simp[bp]⟩ ?_
 rintro m bU dp aR ⟨i,R,rfl,ae,dM,bm,fI,dI,xh,h8⟩ K a0
 simp at dM
 simp[dM]
 refine c9 (af:=dd) (xs:=e7) (by simpa using eI.ext bm) (by simp) ?_
 simp[<-ki]
 refine bH.b_ (fun a6=>?_) (fun hl=>?_)
 ·refine Exists.elim (⟨_,bJ (show i<e7.length by omega)⟩:∃d,e7[i]?=some d) fun hd k3=>?_
  have wW:e7[i]?.getD 0=hd:=by rw[k3];rfl
  have uv:hd<10000:=wW▸kA.get i
  simp
  refine dF.mk (by kernel_rfl) (fun m dh ey bP=>∃(k eT:Nat) (R:List Nat),m=da+1-k/\k<=da+1/\eT<10000/\(k=da+1->eT=0)/\dh 7= .int .i64 (eT:Int)/\dh 8= .int .i64 (k:Int)/\Ext H bP/\bB H.length 3 1 false dd bP (.slice ld (c5+da+1) lf) R/\R.length=c5+da+1/\eB R/\bp R+10000^(i+k)*eT=bp (e7.take i)*bp fR+10000^i*(hd*bp (fR.take k))) (da+1) ⟨0,0,R,by omega,by omega,by omega,by omega,by simp,by simp,bm,fI,dI,xh,by rw[h8];simp[bp]⟩ ?_
  rintro m dh ey bP ⟨k,eT,rp,rfl,aj,iL,sA,cg,dj,bN,hi,Lo,DP,jg⟩ nG fX
  simp at cg dj
  have C1:=gI.ext bN
  have SR:=eI.ext bN
  simp only[mE]
  refine cc.join (by kernel_rfl) (fun cY dW b1=>b1=bP/\cY 34= .bool (decide (k<da\/0<eT))) ?_ ?_
  ·rintro qs im-
   simp[dj]
   refine c9 (af:=dd) (xs:=fR) (by simpa using C1) (by simp) ?_
   simp[<-jA]
   by_cases je:k<da
   ·simp[je]
    exact im _ _ _ ⟨rfl,by simp[je]⟩
   ·simp[je,cg]
    exact im _ _ _ ⟨rfl,by simp[je]⟩
  ·rintro cY dW b1 ⟨rfl,CF⟩
   simp only[jn]at CF
   simp at CF
   simp[CF]
   refine bH.mk (fun ag=>?_) (fun ag=>?_)
   ·simp at ag
    have ahi:k<=da:=by omega
    have L9:IntKind.i64.wrap ((i:Int)+(k:Int))=((i+k:Nat):Int):=by rw[b6 (by omega) (by omega)];simp
    have agZ:=h1.get k
    refine Exists.elim (⟨_,bJ (show i+k<rp.length by omega)⟩:∃d,rp[i+k]?=some d) fun oq xi=>?_
    have Ln:rp[i+k]?.getD 0=oq:=by rw[xi];rfl
    have ahB:oq<10000:=Ln▸DP.get (i+k)
    have VW:IntKind.i64.wrap ((oq:Int)+(eT:Int))=((oq+eT:Nat):Int):=by rw[b6 (by omega) (by omega)];simp
    simp[dM,dj,L9]
    refine dc (af:=dd) (xs:=rp) (n:=i+k) (a:=oq) (e:=3) (U:=1) (aC:=false) (by simpa using hi.row) (by simp) xi (by simp) (by simp) (by simp) (by decide) ?_
    rintro iv mG rfl
    simp[cg,VW]
    have Lv:hd*fR[k]?.getD 0<=9999*9999:=Nat.mul_le_mul (by omega) (by omega)
    refine cc.join (by kernel_rfl) (fun fS hz cb=>cb=b1/\fS 9= .int .i64 ((oq+eT+hd*fR[k]?.getD 0:Nat):Int)) ?_ ?_
    ·rintro Gv pB-
     simp[dj]
     refine c9 (af:=dd) (xs:=fR) (by simpa using C1) (by simp) ?_
     simp[<-jA]
     refine bH.b_ (fun q1=>?_) (fun q1=>?_)
     ·refine Exists.elim (⟨_,bJ (show k<fR.length by omega)⟩:∃d,fR[k]?=some d) fun ps Dh=>?_
      rw[Dh]at Lv
      simp at Lv
      have VX:IntKind.i64.wrap ((hd:Int)*(ps:Int))=((hd*ps:Nat):Int):=by
       rw[show(hd:Int)*(ps:Int)=((hd*ps:Nat):Int) by simp]
       exact b6 (by omega) (by omega)
      have oe:IntKind.i64.wrap (((oq:Int)+(eT:Int))+(hd:Int)*(ps:Int))=((oq+eT+hd*ps:Nat):Int):=by
       rw[show((oq:Int)+(eT:Int))+(hd:Int)*(ps:Int)=((oq+eT+hd*ps:Nat):Int) by simp]
       exact b6 (by omega) (by omega)
      simp[dM]
      refine dc (af:=dd) (xs:=e7) (n:=i) (a:=hd) (e:=3) (U:=1) (aC:=false) (by simpa using SR) (by simp[dM]) k3 (by simp) (by simp) (by simp) (by decide) ?_
      rintro nn vv rfl
      simp[dj]
      refine dc (af:=dd) (xs:=fR) (n:=k) (a:=ps) (e:=3) (U:=1) (aC:=false) (by simpa using C1) (by simp[dj]) Dh (by simp) (by simp) (by simp) (by decide) ?_
      rintro p_ FY rfl
      simp[VX,oe]
      exact pB _ _ _ ⟨rfl,by simp[Dh]⟩
     ·have:fR[k]?=none:=List.getElem?_eq_none (by omega)
      try simp
      exact pB _ _ _ ⟨rfl,by simp[this]⟩
    ·rintro fS hz cb ⟨rfl,h0⟩
     simp only[jn]at h0
     simp at h0
     refine Exists.elim (⟨_,rfl⟩:∃S,S=oq+eT+hd*fR[k]?.getD 0) fun S bE=>?_
     have R1:fS 9= .int .i64 (S:Int):=by rw[h0,bE];simp
     have mo:(S:Int).tmod 10000=((S % 10000:Nat):Int):=rfl
     have mq:(S:Int).tdiv 10000=((S/10000:Nat):Int):=rfl
     have VY:IntKind.i64.wrap ((S:Int)/10000)=(S:Int)/10000:=b6 (by omega) (by omega)
     have rf:IntKind.i64.wrap ((k:Int)+1)=((k+1:Nat):Int):=by rw[b6 (by omega) (by omega)];simp
     simp[dM,dj,R1,L9,mo,mq,VY]
     refine kK (k:=H.length) (e:=3) (U:=1) (aC:=false) (n:=i+k) (af:=dd) (xs:=rp) (a:=S % 10000) (by simpa using hi) (by simp) (by omega) (by simp[dd]) (by simpa using j8 _) (by simp) (fun _ _ _ _ _ h=>h) (by simp) (by simp) (by simp) (by decide) ?_
     rintro ru eN eH c1 n8 qZ-
     simp at eH
     simp[dj,rf]
     have sM:=adl (aN:=rp) (j:=i+k) (d:=S % 10000) (by omega)
     rw[Ln]at sM
     have c8:=YH (X:=bp (fR.take k)) (b:=fR[k]?.getD 0) (d:=S % 10000) (dR:=S/10000) jg bE (by omega) sM
     rw[<-tk]at c8
     refine fX (da+1-(k+1)) _ _ _ (by omega) ⟨k+1,S/10000,rp.set (i+k) (S % 10000),rfl,by omega,by omega,fun he=>?_,by simp,by simp,c1 _ (Nat.le_refl _) bN,eH,by simp[Lo],DP.set (Nat.mod_lt _ (by decide)),c8⟩
     have Ui:k=da:=by omega
     have xA:fR.take (k+1)=fR:=List.take_of_length_le (by omega)
     rw[xA,Ui]at c8
     refine YI (A:=bp (e7.take i)) (B:=bp fR) (a:=hd) (i:=i) (da:=da) ?_ uv ?_ c8
     ·have:=rP (kA.take i)
      rw[List.length_take,Nat.min_eq_left (by omega)]at this
      exact this
     ·have:=rP h1
      rw[<-jA]at this
      exact this
   ·simp at ag
    have Dl:eT=0:=by omega
    have xA:fR.take k=fR:=List.take_of_length_le (by omega)
    rw[Dl,xA]at jg
    have jZ:IntKind.i64.wrap ((i:Int)+1)=((i+1:Nat):Int):=by rw[b6 (by omega) (by omega)];simp
    simp[dM,jZ]
    refine a0 (c5-(i+1)) _ _ _ (by omega) ⟨i+1,rp,rfl,by omega,by simp,bN,hi,Lo,DP,?_⟩
    rw[tk,wW,Nat.add_mul,Nat.mul_assoc]
    simpa using jg
 ·have xA:e7.take i=e7:=List.take_of_length_le (by omega)
  rw[xA]at h8
  have K4:=p6 (s:=s1 !=s2) (aN:=R) (a:=ld) (c:=lf) (H:=aR) (by rw[dI];exact fI.row) xh (by omega)
  rw[dI]at K4
  simp
  refine aV.mk K4 ?_
  rintro u bP ⟨bN,hu⟩
  simp
  refine cO.mk hu.whole ?_
  simp[bf]
  refine aE _ _ ⟨bm.aw bN,?_⟩
  have e:x*y=fb (s1 !=s2) (bp R):=by
   rw[iu,jk,h8]
   cases s1<;>cases s2<;>simp[fb,Int.neg_mul,Int.mul_neg]
  rw[e]
  exact hu
attribute [simp] pv
def PJ(H:ab)(u:Value)(n:Nat):Prop:=∃a c aN,u= .slice a aN.length c/\jI H (.slice a aN.length c) aN/\eB aN/\fK aN/\bp aN=n
theorem rD{s:Bool}{aN:List Nat}{n:Nat}(h:(n:Int)=fb s (bp aN))(bc:fK aN)(ao:aN=[]->s=false):s=false/\bp aN=n:=by
 cases s with
 | false=>exact⟨rfl,by simp[fb]at h;omega⟩
 | true=>
  simp[fb]at h
  have aH:bp aN=0:=by omega
  have:=ao (bc.zero.1 aH)
  cases this
theorem b4.aN{aN:List Nat}(h:eB aN):b4 aN.length (bp aN:Int):=by
 unfold b4
 rw[Int.natAbs_natCast]
 exact rP h
theorem IN{v:Value}{x:List Nat}{d:Nat}{H:ab}(bt:jI H v x)(J:eB x)(cI:fK x)(ar:x.length<900000000)(aB:d<=10000):aP prog 97 [v,.int .i64 d] H (fun u H1=>Ext H H1/\PJ H1 u (bp x*d)):=by
 refine aP.b9 fun Q aE=>?_
 obtain⟨a,c,rfl⟩:=Row.len bt
 apply WL (by simp)
 simp[Hz]
 refine aV.mk (r6 (by omega) (by omega)) ?_
 rintro u H1 ⟨bx,hu⟩
 simp
 have so:eg H1 (.agg #[.bool false,.slice a x.length c]) (bp x):=⟨false,a,c,x,rfl,bt.ext bx,J,cI,rfl,fun _=>rfl⟩
 refine aV.mk (tD (N:=x.length+5) so hu ((b4.aN J).mono (by omega)) (b4.mono (b4.i64 (by omega) (by omega)) (by omega)) (by omega)) ?_
 rintro _ aR ⟨bm,s2,cC,cF,d2,rfl,gI,h1,h3,jk,lN⟩
 have aa:s2=false/\bp d2=bp x*d:=rD (by rw[<-jk];simp) h3 lN
 have jU:d2.length<=x.length+5+(x.length+5):=b4.len (N:=x.length+5+(x.length+5)) (z:=(bp x:Int)*d) (b4.mul ((b4.aN J).mono (by omega)) (b4.mono (b4.i64 (by omega) (by omega)) (by omega))) h3 jk
 simp
 refine aV.mk (p6 gI h1 (by omega)) ?_
 rintro _ bP ⟨bN,lU,eC,eJ,d3,rfl,pE,nS,hP,s0,DW⟩
 rw[aa.1]at s0
 have aA:lU=false/\bp d3=bp d2:=rD (by rw[<-s0];simp[fb]) hP DW
 simp[bf]
 exact aE _ _ ⟨bx.aw (bm.aw bN),eC,eJ,d3,rfl,pE,nS,hP,by rw[aA.2,aa.2]⟩
theorem bB.pos{α:Type}{k e U:Nat}{aC:Bool}{af:ab->Value->α->Prop}{H:ab}{v:Value}{xs:List α}(h:bB k e U aC af H v xs)(J:0<xs.length):0<H.length:=by
 obtain⟨cs,⟨o,aa⟩,aA⟩:=h
 rcases aa with⟨aH,-⟩ | ⟨c,i,cap,l,all,a1,a3,bG,cn,e5,g2⟩
 ·omega
 ·have:=(cK.1 e5).1
  omega
theorem Jv{a b q r:Int}(ag:0<b)(h:r+b*q=a)(aH:0<=r)(o:r<b):a.fdiv b=q/\a.fmod b=r:=by
 rw[Int.fdiv_eq_ediv_of_nonneg _ (by omega),Int.fmod_eq_emod_of_nonneg _ (by omega)]
 exact(Int.ediv_emod_unique ag).2 ⟨h,aH,o⟩
theorem fK.EJ{a b:List Nat}(aO:fK a)(ag:eB b)(h:bp a<=bp b):a.length<=b.length:=by
 by_cases ar:a.length<=b.length
 ·exact ar
 ·have:=aO.x0 ag (by omega);omega
theorem QI{X Q B af a bb S:Nat}(h:X=Q*B+af)(bE:S=a+10000*af)(g0:bb*B<=S):a+10000*X=(bb+10000*Q)*B+(S-bb*B):=by
 rw[Nat.add_mul,Nat.mul_assoc]
 omega
theorem B9{v w:Value}{x y:Int}{N:Nat}{H:ab}(bt:eg H v x)(bC:eg H w y)(kW:b4 N x)(kX:b4 N y)(bX:N<=100000000)(aL:0<y):aP prog 70 [v,w] H (fun u H1=>Ext H H1/\∃q r,u= .tuple #[q,r]/\eg H1 q (x.fdiv y)/\eg H1 r (x.fmod y)):=by
 refine aP.b9 fun Q aE=>?_
 have RP:=kW
 have RQ:=kX
 have sg:=bC
 obtain⟨s1,bY,cm,e7,rfl,eI,kA,k0,iu,fq⟩:=bt
 obtain⟨s2,cC,cF,fR,rfl,gI,h1,h3,jk,lN⟩:=bC
 have gL:=kW.len k0 iu
 have jU:=kX.len h3 jk
 obtain⟨rfl,ahS⟩:s2=false/\bp fR=y.natAbs:=rD (by rw[<-jk];omega) h3 lN
 obtain⟨c5,ki⟩:∃c5,c5=e7.length:=⟨_,rfl⟩
 obtain⟨ie,zt⟩:∃ie,ie=bp fR:=⟨_,rfl⟩
 have JY:0<ie:=by omega
 clear kW kX
 apply Wt (by simp)
 simp[Hi]
 have bn:Ext H (H++[.dead,.dead,.dead,.dead]):=Ext.more H (by simp)
 refine c9 (af:=dd) (xs:=e7) (by simpa using eI.ext bn) (by simp) ?_
 refine yt (e:=3) (U:=1) (bA:=8) (aC:=false) (n:=e7.length) (eW:= .i64) (c4:= .i64) (z:= .int .i64 0) (af:=dd) (a:=0) (by simp) (by simp) (by simp) (by rfl) (by rfl) (by simp) (j8 0) (by simp) (by simp) (by decide) (by decide) (by omega) (fun aF=>rfl) ?_
 intro ld lf H1 CT Ei
 have iJ:=CT.le (b5:=H.length) (by simp)
 have bx:=bn.aw Ei
 refine pc (e:=3) (U:=1) (by simp) (by simp) ?_
 simp
 refine c9 (af:=dd) (xs:=e7) (by simpa using eI.ext bx) (by simp) ?_
 have od:IntKind.i64.wrap ((e7.length:Int)-1)=(e7.length:Int)-1:=b6 (by omega) (by omega)
 simp[od]
 refine dF.mk (by kernel_rfl) (fun m bU dp aR=>∃(R:List Nat) (vj:Option Addr) (rc:Nat) (rs:List Nat),m<=e7.length/\bU 8= .int .i64 ((m:Int)-1)/\bU 7= .slice vj rs.length rc/\Ext H aR/\bB H.length 3 1 false dd aR (.slice ld e7.length lf) R/\R.length=e7.length/\eB R/\jI aR (.slice vj rs.length rc) rs/\eB rs/\fK rs/\bp rs<ie/\bp (R.take m)=0/\bp (e7.drop m)=bp (R.drop m)*ie+bp rs) e7.length ⟨List.replicate e7.length 0,some ⟨0,0,none⟩,0,[],Nat.le_refl _,by simp,by simp,bx,iJ,by simp,fun d aB=>by rw[List.mem_replicate]at aB;omega,(bB.void 0 _ _ 0 _ _ _).row,eB.nil,fK.nil,by simpa[bp]using JY,by rw[List.take_of_length_le (by simp),F5],by rw[List.drop_of_length_le (by simp)];simp[bp]⟩ ?_
 rintro m bU dp aR ⟨R,vj,rc,rs,hm,dj,cg,bm,fI,dI,xh,Kj,J2,mW,ahG,Ag,Ah⟩ K a0
 simp at dj cg
 simp[dj]
 refine bH.b_ (fun hl=>?_) (fun hl=>?_)
 ·refine Exists.elim (⟨m-1,by omega⟩:∃i:Nat,m=i+1) fun i ae=>?_
  have hR:(m:Int)-1=(i:Int):=by omega
  have jZ:IntKind.i64.wrap ((i:Int)-1)=(i:Int)-1:=b6 (by omega) (by omega)
  refine Exists.elim (⟨_,bJ (show i<e7.length by omega)⟩:∃d,e7[i]?=some d) fun hd k3=>?_
  have wW:e7[i]?.getD 0=hd:=by rw[k3];rfl
  have uv:hd<10000:=wW▸kA.get i
  have lM:rs.length<=fR.length:=mW.EJ h1 (by omega)
  have K2:=Ext.len bm
  rw[ae]at Ah Ag
  simp[dj,hR]
  refine dc (af:=dd) (xs:=e7) (n:=i) (a:=hd) (e:=3) (U:=1) (aC:=false) (by simpa using eI.ext bm) (by simp[dj,hR]) k3 (by simp) (by simp) (by simp) (by decide) ?_
  rintro eM rN rfl
  refine Bu (e:=3) (U:=1) (aC:=false) (z:= .int .i64 0) (af:=dd) (a:=hd) (fun aF _=>by simp[dd]) (by simpa using j8 _) (by simp) (by simp) (by simp) (by rfl) (by rfl) (by rfl) (by decide) (by decide) ?_
  intro v4 b1 jP cr
  simp[cg]
  refine Ox (k:=aR.length) (e:=3) (U:=1) (aC:=false) (bA:=8) (z:= .int .i64 0) (af:=dd) (xs:=[hd]) (bO:=rs) (by simpa using jP) (by simpa[cg]using Kj.ext cr) (fun u y h=>by rw[show u=_ from h];exact j8 y) (fun aF dv u y aj h=>h) (by simp) (by simp) (by simp) (by simp) (by decide) (by rfl) (by rfl) (by rfl) (by decide) (by simp;omega) (by have:=Ext.len cr;omega) ?_
  intro ae8 afP cb pD c0 DE
  have mS:[hd].length+rs.length=(hd::rs).length:=by simp;omega
  rw[mS]at pD
  have o2:=c0 _ (Nat.le_refl _) cr
  simp only[mS]
  simp
  refine aV.mk (ML (s:=false) (aN:=hd::rs) pD.row (fun d aB=>by
   rcases List.mem_cons.1 aB with rfl | aB
   ·exact uv
   ·exact J2 d aB) (by simp;omega)) ?_
  rintro _ dQ ⟨cL,lU,eC,eJ,d3,rfl,hi,nS,hP,s0,DW⟩
  have pE:jI dQ (.slice eC d3.length eJ) d3:=hi.row
  have aA:lU=false/\bp d3=hd+10000*bp rs:=rD (by rw[<-s0];simp[fb,bp]) hP DW
  have me:bp d3<10000*ie:=by rw[aA.2];omega
  have Mf:=bm.aw (o2.aw cL)
  have mm:d3.length<=fR.length+1:=by
   refine hP.len (n:=fR.length+1) ?_
   have:=rP h1
   rw[Nat.pow_succ,<-zt]at*
   omega
  simp
  refine dF.mk (by kernel_rfl) (fun w nA mK cS=>∃bb gd:Nat,w=gd-bb/\bb<gd/\gd<=10000/\nA 9= .int .i64 (bb:Int)/\nA 10= .int .i64 (gd:Int)/\Ext dQ cS/\bb*ie<=bp d3/\bp d3<gd*ie) 10000 ⟨0,10000,by omega,by omega,by omega,by simp,by simp,Ext.refl _,by omega,me⟩ ?_
  rintro w nA mK cS ⟨bb,gd,rfl,xd,T9,h0,gZ,cD,g0,hQ⟩ PC wD
  simp at h0 gZ
  have nb:IntKind.i64.wrap ((gd:Int)-(bb:Int))=(gd:Int)-(bb:Int):=b6 (by omega) (by omega)
  simp[h0,gZ,nb]
  refine bH.b_ (fun oU=>?_) (fun oU=>?_)
  ·have mx:IntKind.i64.wrap ((bb:Int)+(gd:Int))=((bb+gd:Nat):Int):=by rw[b6 (by omega) (by omega)];simp
   have mq:((bb:Int)+(gd:Int)).tdiv 2=(((bb+gd)/2:Nat):Int):=by
    rw[show(bb:Int)+(gd:Int)=((bb+gd:Nat):Int) by simp];rfl
   refine Exists.elim (⟨(bb+gd)/2,rfl⟩:∃md,md=(bb+gd)/2) fun md K_=>?_
   rw[<-K_]at mq
   have ir:IntKind.i64.wrap (md:Int)=(md:Int):=b6 (by omega) (by omega)
   simp[h0,gZ,mx,mq,ir]
   refine aV.mk (IN (gI.ext (Mf.aw cD)) h1 h3 (by omega) (by omega)) ?_
   rintro _ eN ⟨c1,PO,Qf,d9,rfl,C2,CL,uh,pX⟩
   rw[<-zt]at pX
   have Un:d9.length<=fR.length+1:=by
    refine uh.len (n:=fR.length+1) ?_
    have o:=rP h1
    have aa:ie*md<=ie*9999:=Nat.mul_le_mul_left _ (by omega)
    rw[pX,Nat.pow_succ,<-zt]at*
    omega
   simp
   refine aV.mk (N9 C2 (pE.ext (cD.aw c1)) CL nS uh hP (by omega) (by omega)) ?_
   rintro _ kq ⟨rfl,rfl⟩
   simp
   refine bH.b_ (fun ad=>?_) (fun ad=>?_)
   ·have hle:md*ie<=bp d3:=by
     rw[Nat.mul_comm,<-pX]
     by_cases o:bp d9<bp d3
     ·omega
     ·rw[if_neg o]at ad
      by_cases aa:bp d9=bp d3
      ·omega
      ·rw[if_neg aa]at ad;omega
    simp
    exact wD (gd-md) _ _ _ (by omega) ⟨md,gd,rfl,by omega,T9,by simp,by simp[gZ],cD.aw c1,hle,hQ⟩
   ·have a6:bp d3<md*ie:=by
     rw[Nat.mul_comm,<-pX]
     by_cases o:bp d9<bp d3
     ·rw[if_pos o]at ad;omega
     ·by_cases aa:bp d9=bp d3
      ·rw[if_neg o,if_pos aa]at ad;omega
      ·omega
    simp
    exact wD (md-bb) _ _ _ (by omega) ⟨bb,md,rfl,by omega,by omega,by simp[h0],by simp,cD.aw c1,g0,a6⟩
  ·obtain rfl:gd=bb+1:=by omega
   have Uu:bb<10000:=by omega
   have h2:=b7.ext (af:=bB H.length 3 1 false dd) fI (o2.aw (cL.aw cD))
   have xI:=Mf.aw cD
   simp[dj,hR,h0]
   refine kK (k:=H.length) (e:=3) (U:=1) (aC:=false) (n:=i) (af:=dd) (xs:=R) (a:=bb) (by simpa using h2) (by simp[dj,hR]) (by omega) (by simp[dd,h0]) (by simpa[h0]using j8 _) (by simp) (fun _ _ _ _ _ h=>h) (by simp) (by simp) (by simp) (by decide) ?_
   rintro ru eN eH c1 n8 qZ-
   simp at eH n8
   have Md:=c1 _ (Nat.le_refl _) xI
   have SF:=b7.ext (af:=bB cb.length 3 1 false dd) hi cD
   have K3:=Ext.len o2
   have ahD:0<cb.length:=pD.pos (by simp)
   have zE:jI eN (.slice eC d3.length eJ) d3:=(SF.beside (by omega) n8 (fun b aH ag c3=>by
    have o:=(hi.ge ag aH).1
    have aa:=(fI.ge c3 aH).2
    omega) fun _ _ h=>h).row
   have T_:bp d3<(bb+1)*ie:=hQ
   simp[h0]
   refine aV.mk (IN (gI.ext Md) h1 h3 (by omega) (by omega)) ?_
   rintro _ fC ⟨dx,PO,Qf,d9,rfl,C2,CL,uh,pX⟩
   rw[<-zt,Nat.mul_comm]at pX
   simp
   refine aV.mk (Ca (zE.ext dx) C2 nS CL (by omega) (by omega) (uh.EJ nS (by omega))) ?_
   rintro _ kq ⟨fQ,ae7,afN,d10,rfl,C0,R8,Ec,ahj⟩
   simp
   refine aV.mk (p6 (s:=false) C0 R8 (by omega)) ?_
   rintro _ iD ⟨fY,ZM,PL,Qc,d11,rfl,SQ,R9,Kl,V9,Vl⟩
   have ma:ZM=false/\bp d11=bp d10:=rD (by rw[<-V9];simp[fb]) Kl Vl
   have uY:=dx.aw (fQ.aw fY)
   rw[Nat.succ_mul]at T_
   simp[dj,hR,jZ]
   refine a0 i _ _ _ (by omega) ⟨R.set i bb,PL,Qc,d11,by omega,by simp,by simp,Md.aw uY,b7.ext (af:=bB _ _ _ _ dd) eH uY,by simp[dI],xh.set Uu,SQ,R9,Kl,by omega,?_,?_⟩
   ·rw[List.take_set_of_le (Nat.le_refl i)]
    rw[tk]at Ag
    omega
   ·rw[vy (aN:=e7) (by omega),vy (aN:=R.set i bb) (by simp;omega),wW,List.getElem?_set_self (by omega),List.drop_set_of_lt (by omega),ma.2,Ec,pX]
    exact QI Ah aA.2 g0
 ·have m4:m=0:=by omega
  have Lm:bp e7=bp R*ie+bp rs:=by rw[m4]at Ah;simpa using Ah
  have lM:rs.length<=fR.length:=mW.EJ h1 (by omega)
  have z8:=p6 (s:=s1) (aN:=R) (a:=ld) (c:=lf) (H:=aR) (by rw[dI];exact fI.row) xh (by omega)
  rw[dI]at z8
  simp
  refine aV.mk z8 ?_
  rintro Zp bP ⟨bN,av⟩
  simp[cg]
  refine aV.mk (p6 (s:=false) (Kj.ext bN) J2 (by omega)) ?_
  rintro _ b1 ⟨cr,qd,qy,qB,d4,rfl,oP,JZ,pF,xQ,Aw⟩
  have bo:qd=false/\bp d4=bp rs:=rD (by rw[<-xQ];simp[fb]) pF Aw
  have Kq:eg b1 (.agg #[.bool qd,.slice qy d4.length qB]) (bp rs):=⟨qd,qy,qB,d4,rfl,oP,JZ,pF,by rw[bo.1,bo.2];rfl,Aw⟩
  have Ej:=bm.aw (bN.aw cr)
  simp
  refine cO.mk av.whole ?_
  simp
  have c0:Ext b1 (b1++[.dead,.dead]):=Ext.more b1 (by simp)
  refine cc.join (by kernel_rfl) (fun nz rV dQ=>dQ=b1++[.dead,.dead]/\nz 83= .bool (s1&&decide (0<d4.length))) ?_ ?_
  ·rintro cT dT-
   cases s1 with
   | false=>
    simp
    exact dT _ _ _ ⟨rfl,by simp⟩
   | true=>
    simp
    refine c9 (af:=dd) (xs:=d4) (by simpa using oP.ext c0) (by simp) ?_
    simp
    exact dT _ _ _ ⟨rfl,by simp⟩
  ·rintro nz rV dQ ⟨rfl,CJ⟩
   simp only[jn]at CJ
   simp at CJ
   simp[CJ]
   refine bH.mk (fun ag=>?_) (fun ag=>?_)
   ·have lG:s1=true/\0<d4.length:=by simpa using ag
    have ahH:0<bp rs:=by
     rcases Nat.eq_zero_or_pos (bp rs)with h | h
     ·rw[<-bo.2]at h
      have:=pF.zero.1 h
      rw[this]at lG
      simp at lG
     ·exact h
    have o3:=c0
    have Rz:b4 (N+2) x:=RP.mono (by omega)
    have Jq:b4 (N+2) y:=RQ.mono (by omega)
    have q6:bp R<=bp e7:=by
     have:bp R*1<=bp R*ie:=Nat.mul_le_mul_left _ JY
     omega
    have RB:b4 (N+2) (fb s1 (bp R)):=Rz.le (by rw[Bk,iu,Bk];exact q6)
    have RC:b4 (N+2) (bp rs:Int):=Jq.le (by omega)
    simp
    refine aV.mk (r6 (v:=1) (by omega) (by omega)) ?_
    rintro u cS ⟨cD,hu⟩
    refine⟨cD,?_⟩
    simp
    refine aV.mk (Ce (N:=N+2) (av.ext (cr.aw (c0.aw cD))) hu RB (b4.small (by decide) (by omega)) (by omega)) ?_
    rintro _ eN ⟨c1,LD⟩
    refine⟨c1,?_⟩
    simp
    have ri:=c0.aw (cD.aw c1)
    refine aV.mk (Ce (N:=N+2) (sg.ext (Ej.aw ri)) (Kq.ext ri) Jq RC (by omega)) ?_
    rintro _ fC ⟨dx,LK⟩
    simp
    refine cO.mk LD.whole ?_
    simp
    refine cO.mk LK.whole ?_
    simp[bf]
    have V4:=Ej.aw (ri.aw dx)
    have he:x= -((bp R*ie+bp rs:Nat):Int):=by rw[iu,lG.1,Lm];rfl
    have Ev:y=(ie:Int):=by omega
    have pL:x.fdiv y=fb s1 (bp R)-1/\x.fmod y=y-(bp rs:Int):=by
     refine Jv aL ?_ (by omega) (by omega)
     rw[he,lG.1,Ev]
     simp only[fb,if_true,Int.natCast_add,Int.natCast_mul]
     rw[Int.mul_sub,Int.mul_neg,Int.mul_comm (ie:Int)]
     omega
    exact aE _ _ ⟨V4,_,_,rfl,by rw[pL.1];exact LD.ext dx,by rw[pL.2];exact LK⟩
   ·have lG:s1=false\/d4.length=0:=by
     cases s1 with
     | false=>exact .inl rfl
     | true=>simp at ag;exact .inr (by simp[ag])
    simp
    refine cO.mk av.whole ?_
    simp[bf]
    have Ev:y=(ie:Int):=by omega
    have pL:x.fdiv y=fb s1 (bp R)/\x.fmod y=(bp rs:Int):=by
     refine Jv aL ?_ (by omega) (by omega)
     rw[iu,Lm,Ev]
     rcases lG with h | h
     ·rw[h]
      simp only[fb,Bool.false_eq_true,if_false,Int.natCast_add,Int.natCast_mul]
      rw[Int.mul_comm (ie:Int)]
      omega
     ·have g9:bp rs=0:=by
       rw[<-bo.2,List.eq_nil_of_length_eq_zero h];rfl
      rw[g9]
      cases s1
      ·simp only[fb,Bool.false_eq_true,if_false,Int.natCast_add,Int.natCast_mul]
       rw[Int.mul_comm (ie:Int)]
       simp
      ·simp only[fb,if_true,Int.natCast_add,Int.natCast_mul]
       rw[Int.mul_neg,Int.mul_comm (ie:Int)]
       simp
    exact aE _ _ ⟨Ej.aw c0,_,_,rfl,by rw[pL.1];exact av.ext (cr.aw c0),by rw[pL.2];exact Kq.ext c0⟩
theorem IG{v w:Value}{x y:Int}{N:Nat}{H:ab}(bt:eg H v x)(bC:eg H w y)(kW:b4 N x)(kX:b4 N y)(bX:N<=100000000):aP prog 69 [v,w] H (fun u H1=>Ext H H1/\eg H1 u (Int.gcd x y:Nat)):=by
 refine aP.b9 fun Q aE=>?_
 have wq:=bt
 have sg:=bC
 obtain⟨s1,bY,cm,d1,rfl,-⟩:=wq
 obtain⟨s2,cC,cF,d2,rfl,-⟩:=sg
 apply Wu (by simp)
 simp[Hj]
 have bn:Ext H (H++[.dead,.dead,.dead]):=Ext.more H (by simp)
 refine aV.mk (IB (bt.ext bn)) ?_
 rintro u H1 ⟨bx,hu⟩
 refine⟨bx,?_⟩
 try simp
 refine aV.mk (IB (bC.ext (bn.aw bx))) ?_
 rintro w aR ⟨bm,hw⟩
 try simp
 refine cO.mk hu.whole ?_
 try simp
 refine cO.mk hw.whole ?_
 try simp
 have nc:=bn.aw (bx.aw bm)
 refine dF.mk (by kernel_rfl) (fun m dh ey bP=>∃p q:Nat,m=q/\Ext aR bP/\eg bP (ey 2) p/\eg bP (ey 3) q/\Nat.gcd p q=Int.gcd x y/\b4 N p/\b4 N q) y.natAbs ⟨x.natAbs,y.natAbs,rfl,Ext.refl _,by simpa using hu.ext bm,by simpa using hw,rfl,kW.le (by simp),kX.le (by simp)⟩ ?_
 rintro m dh ey bP ⟨p,q,rfl,bN,aY,av,aU,RJ,Cx⟩ K a0
 have U0:=av
 obtain⟨qd,qy,qB,d4,nT,oP,JZ,pF,xQ,Aw⟩:=U0
 simp at nT aY av
 simp[nT]
 refine c9 (af:=dd) (xs:=d4) (by simpa using oP) (by simp) ?_
 try simp
 have bo:=rD (n:=m) xQ pF Aw
 refine bH.b_ (fun a6=>?_) (fun a6=>?_)
 ·have U7:(0:Int)<(m:Int):=by
   rcases Nat.eq_zero_or_pos m with h | h
   ·rw[<-bo.2]at h
    have:=pF.zero.1 h
    rw[this]at a6
    simp at a6
   ·omega
  try simp
  refine aV.mk (B9 aY av RJ Cx bX U7) ?_
  rintro _ cb ⟨c0,Zp,aik,rfl,U9,Av⟩
  have TZ:((p:Int)).fmod (m:Int)=((p % m:Nat):Int):=by
   rw[Int.fmod_eq_emod_of_nonneg _ (by omega)];rfl
  rw[TZ]at Av
  try simp
  refine cO.mk U9.whole ?_
  try simp
  refine cO.mk Av.whole ?_
  try simp
  refine cO.mk av.whole ?_
  try simp
  refine cO.mk Av.whole ?_
  try simp
  have gg:Ext cb (cb++[.dead,.dead]):=Ext.more cb (by simp)
  have q1:p % m<m:=Nat.mod_lt _ (by omega)
  refine a0 (p % m) _ _ _ q1 ⟨m,p % m,rfl,bN.aw (c0.aw gg),?_,by simpa using Av.ext gg,?_,Cx,Cx.le (by omega)⟩
  ·simpa using av.ext (c0.aw gg)
  ·rw[<-aU,Nat.gcd_comm p m,Nat.gcd_rec m p,Nat.gcd_comm]
 ·have m4:m=0:=by
   have:d4=[]:=List.eq_nil_of_length_eq_zero (by omega)
   rw[<-bo.2,this];rfl
  have An:p=Int.gcd x y:=by rw[<-aU,m4];simp
  try simp
  refine cO.mk aY.whole ?_
  simp[bf]
  exact aE _ _ ⟨nc.aw bN,by rw[<-An];exact aY⟩
def hB(H:ab)(v:Value)(n d:Int):Prop:=∃s1 bY cQ cm s2 cC cW cF,v= .agg #[.bool s1,.slice bY cQ cm,.bool s2,.slice cC cW cF]/\eg H (.agg #[.bool s1,.slice bY cQ cm]) n/\eg H (.agg #[.bool s2,.slice cC cW cF]) d
theorem hB.ext{H H1:ab}{v:Value}{n d:Int}(h:hB H v n d)(J:Ext H H1):hB H1 v n d:=by
 obtain⟨s1,bY,cQ,cm,s2,cC,cW,cF,e,o,aa⟩:=h
 exact⟨s1,bY,cQ,cm,s2,cC,cW,cF,e,o.ext J,aa.ext J⟩
theorem hB.whole{H:ab}{v:Value}{n d:Int}(h:hB H v n d):Whole prog 42 v:=by
 obtain⟨s1,bY,cQ,cm,s2,cC,cW,cF,rfl,-⟩:=h
 exact⟨by rfl,by simp[Value.cells,Value.oneCell'],by simp[e3]⟩
theorem eg.shape{H:ab}{v:Value}{z:Int}(h:eg H v z):∃s a n c,v= .agg #[.bool s,.slice a n c]:=by
 obtain⟨s,a,c,aN,h,-⟩:=h
 exact⟨_,_,_,_,h⟩
theorem Bv{d:Nat}{x y:Operand}{r:List bz}{F:Fr}{H:ab}{Q:Fr->ab->Prop}{n m:Int}{ax:ba (dB d 42 [(0,x),(1,y)]::r) Q}(J:eg H (aq F x) n)(aL:eg H (aq F y) m)
  (K:∀u,hB H u n m->a_ prog r Q .mk (a4 F d u) H):a_ prog (dB d 42 [(0,x),(1,y)]::r) Q ax F H:=by
 obtain⟨s1,bY,cQ,cm,an⟩:=J.shape
 obtain⟨s2,cC,cW,cF,hw⟩:=aL.shape
 have:=K _ ⟨s1,bY,cQ,cm,s2,cC,cW,cF,rfl,an▸J,hw▸aL⟩
 simp[an,hw]
 exact this
attribute [-simp] pr
theorem IP{n:Int}{H:ab}(o: -9223372036854775808<=n)(aa:n<9223372036854775808):aP prog 19 [.int .i64 n] H (fun u H1=>Ext H H1/\hB H1 u n 1):=by
 refine aP.b9 fun Q aE=>?_
 apply WE (by simp)
 simp[Ht]
 have bn:=Ext.dead H
 refine aV.mk (r6 o aa) ?_
 rintro u H1 ⟨bx,hu⟩
 try simp
 refine aV.mk (r6 (v:=1) (by omega) (by omega)) ?_
 rintro w aR ⟨bm,hw⟩
 try simp
 refine Bv (n:=n) (m:=1) (by simpa using hu.ext bm) (by simpa using hw) ?_
 intro q av
 try simp
 refine cO.mk av.whole ?_
 simp[bf]
 exact aE _ _ ⟨bn.aw (bx.aw bm),av⟩
theorem ID{v w:Value}{cQ d1 cW d2:Int}{N:Nat}{H:ab}(bt:hB H v cQ d1)(bC:hB H w cW d2)(f1:b4 N cQ)(f2:b4 N d1)(f3:b4 N cW)(f4:b4 N d2)(bX:N<=1000000000):aP prog 26 [v,w] H (fun u H1=>Ext H H1/\hB H1 u (cQ*d2+cW*d1) (d1*d2)):=by
 refine aP.b9 fun Q aE=>?_
 obtain⟨s1,bY,AM,cm,s2,cC,AN,cF,rfl,k7,h4⟩:=bt
 obtain⟨lU,eC,Yb,eJ,qd,qy,Yc,qB,rfl,m5,lI⟩:=bC
 apply Wq (by simp)
 simp[Hf]
 have bn:Ext H (H++[.dead,.dead,.dead]):=Ext.more H (by simp)
 refine aV.mk (tD (k7.ext bn) (lI.ext bn) f1 f4 bX) ?_
 rintro u H1 ⟨bx,hu⟩
 refine⟨bx,?_⟩
 try simp
 have og:=bn.aw bx
 refine aV.mk (tD (m5.ext og) (h4.ext og) f3 f2 bX) ?_
 rintro w aR ⟨bm,hw⟩
 refine⟨bm,?_⟩
 try simp
 refine aV.mk (IC (N:=N+N) (hu.ext bm) hw (f1.mul f4) (f3.mul f2) (by omega)) ?_
 rintro z bP ⟨bN,aM⟩
 refine⟨bN,?_⟩
 try simp
 have nd:=og.aw (bm.aw bN)
 refine aV.mk (tD (h4.ext nd) (lI.ext nd) f2 f4 bX) ?_
 rintro y b1 ⟨cr,aL⟩
 try simp
 refine Bv (n:=cQ*d2+cW*d1) (m:=d1*d2) (by simpa using aM.ext cr) (by simpa using aL) ?_
 intro q av
 try simp
 refine cO.mk av.whole ?_
 simp[bf]
 exact aE _ _ ⟨nd.aw cr,av⟩
theorem IF{v w:Value}{cQ d1 cW d2:Int}{N:Nat}{H:ab}(bt:hB H v cQ d1)(bC:hB H w cW d2)(f1:b4 N cQ)(f2:b4 N d1)(f3:b4 N cW)(f4:b4 N d2)(bX:N<=1000000000):aP prog 17 [v,w] H (fun u H1=>Ext H H1/\u= .int .i64 (if cQ*d2<cW*d1 then-1 else if cQ*d2=cW*d1 then 0 else 1)):=by
 refine aP.b9 fun Q aE=>?_
 obtain⟨s1,bY,AM,cm,s2,cC,AN,cF,rfl,k7,h4⟩:=bt
 obtain⟨lU,eC,Yb,eJ,qd,qy,Yc,qB,rfl,m5,lI⟩:=bC
 apply Ws (by simp)
 simp[Hh]
 have bn:Ext H (H++[.dead,.dead]):=Ext.more H (by simp)
 refine aV.mk (tD (k7.ext bn) (lI.ext bn) f1 f4 bX) ?_
 rintro u H1 ⟨bx,hu⟩
 refine⟨bx,?_⟩
 try simp
 have og:=bn.aw bx
 refine aV.mk (tD (m5.ext og) (h4.ext og) f3 f2 bX) ?_
 rintro w aR ⟨bm,hw⟩
 try simp
 refine aV.mk (B8 (N:=N+N) (hu.ext bm) hw (f1.mul f4) (f3.mul f2) (by omega)) ?_
 rintro z bP ⟨bN,rfl⟩
 simp[bf]
 exact aE _ _ ⟨og.aw (bm.aw bN),rfl⟩
theorem P1{v:Value}{n d:Int}{N:Nat}{H:ab}(bt:hB H v n d)(aB:0<d)(f1:b4 N n)(f2:b4 N d)(bX:N<=100000000):aP prog 43 [v] H (fun u H1=>Ext H H1/\hB H1 u (Rat.divInt n d).num (Rat.divInt n d).den):=by
 refine aP.b9 fun Q aE=>?_
 obtain⟨s1,bY,AM,cm,s2,cC,AN,cF,rfl,k7,h4⟩:=bt
 apply Ww (by simp)
 simp[Hl]
 have bn:Ext H (H++[.dead,.dead]):=Ext.more H (by simp)
 have w6:0<Int.gcd n d:=Int.gcd_pos_of_ne_zero_right _ (by omega)
 have Dx:Int.gcd n d<=d.natAbs:=Nat.le_of_dvd (by omega) (Int.gcd_dvd_natAbs_right n d)
 have qI:b4 N (Int.gcd n d:Nat):=f2.le (by simpa using Dx)
 refine aV.mk (IG (k7.ext bn) (h4.ext bn) f1 f2 bX) ?_
 rintro u H1 ⟨bx,hu⟩
 try simp
 refine cO.mk hu.whole ?_
 try simp
 have Er:=Ext.dead H1
 have og:=bn.aw (bx.aw Er)
 refine aV.mk (B9 (k7.ext og) (hu.ext Er) f1 qI bX (by omega)) ?_
 rintro _ aR ⟨bm,a1,ed,rfl,xm,xr⟩
 try simp
 refine cO.mk xm.whole ?_
 try simp
 refine cO.mk xr.whole ?_
 try simp
 have Mq:Ext aR (aR++[.dead,.dead]):=Ext.more aR (by simp)
 have gP:=bm.aw Mq
 refine aV.mk (B9 (h4.ext (og.aw gP)) (hu.ext (Er.aw gP)) f2 qI bX (by omega)) ?_
 rintro _ bP ⟨bN,a3,fA,rfl,n_,pV⟩
 try simp
 refine cO.mk n_.whole ?_
 try simp
 refine cO.mk pV.whole ?_
 try simp
 have Es:Ext bP (bP++[.dead,.dead]):=Ext.more bP (by simp)
 have o:=zf n d.natAbs (by omega)
 have KF:((d.natAbs:Nat):Int)=d:=by omega
 rw[KF]at o
 have bk:n.fdiv (Int.gcd n d:Nat)=(Rat.divInt n d).num:=by
  rw[o.1,Int.fdiv_eq_ediv_of_nonneg _ (by omega)];rfl
 have bg:d.fdiv (Int.gcd n d:Nat)=((Rat.divInt n d).den:Int):=by
  rw[o.2,Int.fdiv_eq_ediv_of_nonneg _ (by omega),Int.natCast_ediv,KF];rfl
 rw[bk]at xm
 rw[bg]at n_
 refine Bv (n:=(Rat.divInt n d).num) (m:=(Rat.divInt n d).den) (by simpa using xm.ext (Mq.aw (bN.aw Es))) (by simpa using n_.ext Es) ?_
 intro q av
 try simp
 refine cO.mk av.whole ?_
 simp[bf]
 exact aE _ _ ⟨og.aw (gP.aw (bN.aw Es)),av⟩
end Go.cJ
end
section
set_option maxRecDepth 8000
set_option maxHeartbeats 1000000
namespace Go.cJ
open Go.Proofs
open Go.Proofs.Tryz (prog)
attribute [-simp] hq hX jG
theorem eg.zero(H:ab):eg H (.agg #[.bool false,.slice none 0 0]) 0:=⟨false,none,0,[],rfl,Row.nil _ _ _ _ _,eB.nil,fK.nil,rfl,fun _=>rfl⟩
theorem Rc{l:List Nat}{k bb n:Nat}{aN:List Nat}(g0:bb<=k)(aj:k<=l.length)(bo:bb=0\/k=bb+4)(aG:aN.length=n)(h:dD l=dD (l.take k)*10000^n+bp aN):dD l=dD (l.take bb)*10000^(n+1)+bp (aN++[dD ((l.drop bb).take (k-bb))]):=by
 have e:l.take k=l.take bb++(l.drop bb).take (k-bb):=by
  have:=List.take_append_drop bb (l.take k)
  rw[List.take_take,Nat.min_eq_left g0,List.drop_take]at this
  exact this.symm
 have fP:((l.drop bb).take (k-bb)).length=k-bb:=by simp;omega
 rw[h,e,zg,fP,vz,aG,Nat.add_mul]
 rcases bo with rfl | rfl
 ·simp[dD,Nat.mul_comm];omega
 ·have bk:10000^(n+1)=10000^n*10000:=by rw[Nat.pow_succ]
  have bg:(10:Nat)^4=10000:=by decide
  rw[show bb+4-bb=4 by omega,bk,bg]
  generalize 10000^n=P
  generalize dD (l.take bb)=X
  generalize dD ((l.drop bb).take 4)=C
  rw[Nat.mul_comm C P,Nat.mul_assoc,Nat.mul_comm 10000 P]
  omega
theorem Jf{l:List Nat}{H:ab}(ar:Bytes l)(hlen:l.length<4611686018427387904):
  aP prog 80 [.string (cf l)] H (fun u H1=>Ext H H1/\∃v z,u= .tuple #[v,.bool (decide (hx l))]/\eg H1 v z/\(hx l->z=dD l)/\(¬hx l->z=0)):=by
 refine aP.b9 fun Q aE=>?_
 apply WG (by simp)
 simp[Hu]
 have bn:Ext H (H++[.dead]):=Ext.dead H
 have fail:∀nD,Ext H nD->¬hx l->Q (.tuple #[.agg #[.bool false,.slice none 0 0],.bool false]) nD:=fun nD J iO=>aE _ _ ⟨J,_,0,by rw[decide_eq_false iO],eg.zero _,fun h=>absurd h iO,fun _=>rfl⟩
 refine cc.join (by kernel_rfl) (fun az bD H1=>H1=H++[.dead]/\∃b,az 25= .bool b/\(b=false↔(l≠[]/\¬(l.head?=some 48/\1<l.length)/\l.length<=4000))) ?_ ?_
 ·rintro K a0-
  simp
  refine ix (l:=l) (by simp) (by rfl) ?_
  by_cases aH:l.length<1
  ·have hh:((l.length:Int)<1)=True:=by simp;omega
   simp[hh]
   refine a0 _ _ _ ⟨rfl,true,by simp,?_⟩
   have:l=[]:=List.eq_nil_of_length_eq_zero (by omega)
   simp[this]
  ·have hh:((l.length:Int)<1)=False:=by simp;omega
   have cN:l≠[]:=by rintro rfl;simp at aH
   simp[hh]
   refine ix (l:=l) (by simp) (by rfl) ?_
   by_cases o:4000<l.length
   ·have bk:((4000:Int)<(l.length:Int))=True:=by simp;omega
    simp[bk]
    refine a0 _ _ _ ⟨rfl,true,by simp,?_⟩
    simp;omega
   ·have bk:((4000:Int)<(l.length:Int))=False:=by simp;omega
    simp[bk]
    refine ox (n:=0) (nh:= .i64) (l:=l) (by simp) ar (by simp) (by omega) (by rfl) ?_
    have sw:l.head?=some (l[0]?.getD 0):=by
     rw[List.head?_eq_getElem?,bJ (by omega)];rfl
    by_cases aa:l[0]?.getD 0=48
    ·have bg:(((l[0]?.getD 0:Nat):Int)=48)=True:=by simp;omega
     simp[bg]
     refine ix (l:=l) (by simp) (by rfl) ?_
     simp
     refine a0 _ _ _ ⟨rfl,decide (1<l.length),by simp;omega,?_⟩
     rw[sw,aa]
     simp[cN];omega
    ·have bg:(((l[0]?.getD 0:Nat):Int)=48)=False:=by simp;omega
     simp[bg]
     refine a0 _ _ _ ⟨rfl,false,by simp,?_⟩
     rw[sw]
     simp[cN,aa];omega
 rintro az bD H1 ⟨rfl,b,tT,ag⟩
 simp at tT
 simp[tT]
 refine bH.mk (fun kC=>?_) (fun kC=>?_)
 ·simp[bf]
  refine fail _ bn fun h=>?_
  rw[ag.2 ⟨h.2.1,h.2.2.1,h.2.2.2⟩]at kC
  cases kC
 have jW:=ag.1 kC
 simp
 refine ix (l:=l) (by simp) (by rfl) ?_
 simp
 refine dF.mk (by kernel_rfl) (fun m bU dp aR=>∃(k:Nat) (a:Int) (aN:List Nat) (er:Option Addr) (eE:Nat),m=k/\k<=l.length/\bU 5= .int .i64 a/\(0<a->a=k)/\(a<=0->k=0)/\ -4<=a/\dp 4= .agg #[.bool false,.slice er aN.length eE]/\bB H.length 3 1 false dd aR (.slice er aN.length eE) aN/\eB aN/\(∀c∈l.drop k,hv c)/\dD l=dD (l.take k)*10000^aN.length+bp aN/\Ext H aR/\aN.length<=l.length-k) l.length ⟨l.length,l.length,[],none,0,rfl,Nat.le_refl _,by simp,fun _=>rfl,by omega,by omega,by simp,bB.nil _ _ _ _ _ _,eB.nil,by simp,by simp[bp],Ext.more H (by simp),by simp⟩ ?_
 rintro m bU dp aR ⟨k,a,aN,er,eE,rfl,aj,bK,Tp,Tq,agT,zw,cy,eU,qV,an,bm,jz⟩ K a0
 simp at bK zw
 simp[bK]
 refine bH.b_ (fun Kr=>?_) (fun Kr=>?_)
 ·have agU:=Tp Kr
  refine Exists.elim (⟨m-4,rfl⟩:∃bb,bb=m-4) fun bb g0=>?_
  have ahw:(if(a-4)>0 then(a-4)else 0)=(bb:Int):=by split<;>omega
  have UA:(if(0:Int)<a-4 then a-4 else 0)=(bb:Int):=by split<;>omega
  have K9:(if 4<a then a-4 else 0)=(bb:Int):=by split<;>omega
  have nb:IntKind.i64.wrap (a-4)=a-4:=b6 (by omega) (by omega)
  simp[bK,nb,UA,K9]
  refine dF.mk (by kernel_rfl) (fun w dh ey bP=>∃i:Nat,w=m-i/\bb<=i/\i<=m/\dh 7= .int .i64 (i:Int)/\bP=aR/\(∀c∈(l.drop bb).take (i-bb),hv c)/\dh 6= .int .i64 (dD ((l.drop bb).take (i-bb)):Nat)) (m-bb) ⟨bb,rfl,Nat.le_refl _,by omega,by simp[K9],rfl,by simp,by simp[dD]⟩ ?_
  rintro w dh ey bP ⟨i,rfl,ahq,oV,cg,rfl,uD,dM⟩ nG fX
  simp at cg dM
  have Uc:((i:Int)<a)=(i<m):=by simp;omega
  simp[bK,cg,Uc]
  have gA:i-bb<=4:=by omega
  have DT:(10:Nat)^(i-bb)<=10^4:=Nat.pow_le_pow_right (by decide) gA
  have iL:=qG uD
  have fP:((l.drop bb).take (i-bb)).length=i-bb:=by simp;omega
  rw[fP]at iL
  refine bH.b_ (fun a6=>?_) (fun a6=>?_)
  ·have cA:i<l.length:=by omega
   refine Exists.elim (⟨_,rfl⟩:∃c,c=l[i]?.getD 0) fun c ad=>?_
   have ag3:c<256:=by
    rw[ad,bJ cA]
    exact ar _ (List.getElem_mem cA)
   have TJ:(l.drop bb)[i-bb]?.getD 0=c:=by rw[List.getElem?_drop,show bb+(i-bb)=i by omega,ad]
   try simp
   refine cc.join (by kernel_rfl) (fun cY dW b1=>b1=bP/\cY 51= .bool (decide (¬hv c))) ?_ ?_
   ·rintro cT dT-
    simp[cg]
    refine ox (n:=i) (nh:= .i64) (l:=l) (by simp) ar (by simp[cg]) cA (by rfl) ?_
    rw[<-ad]
    rcases Nat.lt_or_ge c 48 with o | o
    ·have bk:((c:Int)<48)=True:=by simp;omega
     simp[bk]
     refine dT _ _ _ ⟨rfl,?_⟩
     simp[hv];omega
    ·have bk:((c:Int)<48)=False:=by simp;omega
     simp[bk,cg]
     refine ox (n:=i) (nh:= .i64) (l:=l) (by simp) ar (by simp[cg]) cA (by rfl) ?_
     rw[<-ad]
     rcases Nat.lt_or_ge 57 c with aa | aa
     ·have bg:((57:Int)<c)=True:=by simp;omega
      simp[bg]
      refine dT _ _ _ ⟨rfl,?_⟩
      simp[hv];omega
     ·have bg:((57:Int)<c)=False:=by simp;omega
      simp[bg]
      refine dT _ _ _ ⟨rfl,?_⟩
      simp[hv];omega
   ·rintro cY dW b1 ⟨rfl,CG⟩
    simp only[jn]at CG
    simp at CG
    simp[CG]
    refine bH.b_ (fun aU=>?_) (fun aU=>?_)
    ·have zV:48<=c/\c<=57:=aU
     refine Exists.elim (⟨_,rfl⟩:∃D,D=dD ((l.drop bb).take (i-bb))) fun D wy=>?_
     rw[<-wy]at dM iL
     have J1:D<1000:=by
      have:(10:Nat)^(i-bb)<=10^3:=Nat.pow_le_pow_right (by decide) (by omega)
      omega
     have oe:IntKind.u8.wrap ((c:Int)-48)=((c-48:Nat):Int):=by rw[BK (by omega) (by omega)];omega
     have AD:IntKind.i64.wrap (10*(D:Int))=10*(D:Int):=b6 (by omega) (by omega)
     have VT:IntKind.i64.wrap ((c-48:Nat):Int)=((c-48:Nat):Int):=b6 (by omega) (by omega)
     have VR:IntKind.i64.wrap (10*(D:Int)+((c-48:Nat):Int))=10*(D:Int)+((c-48:Nat):Int):=b6 (by omega) (by omega)
     have jZ:IntKind.i64.wrap ((i:Int)+1)=((i+1:Nat):Int):=by rw[b6 (by omega) (by omega)];simp
     simp[dM,cg,AD]
     refine ox (n:=i) (nh:= .i64) (l:=l) (by simp) ar (by simp[cg]) cA (by rfl) ?_
     rw[<-ad]
     simp[cg,oe,VT,VR,jZ]
     refine fX (m-(i+1)) _ _ _ (by omega) ⟨i+1,rfl,by omega,by omega,by simp,rfl,?_,?_⟩
     ·rw[show i+1-bb=(i-bb)+1 by omega,List.take_add_one]
      intro dR gK
      rcases List.mem_append.1 gK with gK | gK
      ·exact uD dR gK
      ·rw[List.getElem?_drop,show bb+(i-bb)=i by omega,bJ cA]at gK
       simp at gK
       have:c=l[i]:=by rw[ad,bJ cA];rfl
       rw[gK,<-this];exact aU
     ·rw[show i+1-bb=(i-bb)+1 by omega,Jl (by simp;omega),TJ,<-wy]
      simp;omega
    ·simp[bf]
     refine fail _ bm fun h=>aU ?_
     have:c∈l:=by
      rw[ad,bJ cA]
      exact List.getElem_mem cA
     exact h.1 c this
  ·have Ub:i=m:=by omega
   rw[Ub]at uD iL dM
   refine Exists.elim (⟨_,rfl⟩:∃D,D=dD ((l.drop bb).take (m-bb))) fun D wy=>?_
   rw[<-wy]at dM iL
   have ahE:(10:Nat)^(m-bb)<=10^4:=Nat.pow_le_pow_right (by decide) (by omega)
   have J1:D<10000:=by
    have:(10:Nat)^4=10000:=by decide
    omega
   have jj:=Ext.len bm
   simp[zw,dM]
   refine yv (k:=H.length) (e:=3) (U:=1) (aC:=false) (bA:=8) (z:= .int .i64 0) (af:=dd) (xs:=aN) (a:=D) (by simpa using cy) (by simp[dd,dM]) (by simpa[dM]using j8 _) (by simp) (fun _ _ _ _ _ h=>h) (by simp) (by simp) (by simp) (by simp) (by simp) (by rfl) (by rfl) (by rfl) (by rfl) (by decide) (by decide) (by decide) (by omega) (by omega) ?_
   intro nn vR v7 dQ jx cL sC
   simp[zw,bK,nb]
   refine a0 bb _ _ _ (by omega) ⟨bb,a-4,aN++[D],vR,v7,rfl,by omega,by simp,fun h=>by omega,fun h=>by omega,by omega,by simp,by simpa using jx,eU.snoc J1,?_,?_,cL _ (Nat.le_refl _) bm,by simp;omega⟩
   ·intro dR gK
    have e:l.drop bb=(l.drop bb).take (m-bb)++l.drop m:=by
     have:=List.take_append_drop (m-bb) (l.drop bb)
     rw[List.drop_drop,show bb+(m-bb)=m by omega]at this
     exact this.symm
    rw[e]at gK
    rcases List.mem_append.1 gK with gK | gK
    ·exact uD dR gK
    ·exact qV dR gK
   ·rw[List.length_append,List.length_singleton,wy]
    exact Rc (by omega) aj (by omega) rfl an
 ·have sA:=Tq (by omega)
  rw[sA]at qV an
  simp[dD]at qV
  have J0:hx l:=⟨qV,jW⟩
  simp[zw]
  refine aV.mk (p6 (s:=false) cy.row eU (by omega)) ?_
  rintro u bP ⟨bN,hu⟩
  simp
  refine cO.mk hu.whole ?_
  simp[bf]
  refine aE _ _ ⟨bm.aw bN,_,_,by rw[decide_eq_true J0],hu,fun _=>?_,fun h=>absurd J0 h⟩
  rw[an]
  simp[fb,dD]
def f4(d:Nat):List Nat:=[48+d/1000,48+d/100 % 10,48+d/10 % 10,48+d % 10]
theorem Rf(l:List Nat)(c:Nat):dD (l++[c])=dD l*10+(c-48):=by
 rw[zg];simp[dD]
theorem P2{v:Value}{n d:Int}{N:Nat}{q:Rat}{H:ab}(av:q=Rat.divInt n d)(bt:hB H v n d)(aB:0<d)(f1:b4 N n)(f2:b4 N d)(bX:N<=100000000):aP prog 43 [v] H (fun u H1=>Ext H H1/\hB H1 u q.num q.den):=by
 subst av
 exact P1 bt aB f1 f2 bX
theorem I8{c:Nat}{l u:List Nat}(h:(c6 c l).2=some u):l.take (c6 c l).1.length=(c6 c l).1/\l.drop ((c6 c l).1.length+1)=u/\(c6 c l).1.length<l.length:=by
 have e:=tK h
 obtain⟨R,aK⟩:∃R,R=(c6 c l).1:=⟨_,rfl⟩
 rw[<-aK]at e⊢
 rw[e]
 simp
theorem I9{c:Nat}{l:List Nat}(h:(c6 c l).2=none):(c6 c l).1.length=l.length:=by rw[tJ h]
theorem Nx(l:List Nat):(c6 47 (jq 45 l)).1=gY l/\(c6 47 (jq 45 l)).2=ko l/\decide (l.head?=some 45)=lb l:=by
 unfold gY ko lb rr jq
 cases l with
 | nil=>simp[c6]
 | cons c r=>
  by_cases h:c=45
  ·subst h
   simp[c6]
  ·by_cases aa:c=47
   ·subst aa
    simp[c6]
   ·simp[c6,h,aa]
theorem E2{l:List Nat}(h:iE l):l.length<=8002:=by
 obtain⟨o,aa,-⟩:=h
 obtain⟨dm,fZ,-⟩:=Nx l
 have aB:=o.2.2.2
 have bM:l.length<=(jq 45 l).length+1:=by
  unfold jq
  split
  ·simp;omega
  ·omega
 cases hu:ko l with
 | none=>
  have:=I9 (c:=47) (l:=jq 45 l) (by rw[fZ,hu])
  rw[dm]at this
  omega
 | some u=>
  have aA:=(aa u hu).1.2.2.2
  have bo:=tK (c:=47) (l:=jq 45 l) (by rw[fZ,hu])
  rw[dm]at bo
  have:=congrArg List.length bo
  simp at this
  omega
theorem b4.dD{l:List Nat}(h:hx l):b4 1000 (Go.cJ.dD l:Int):=by
 unfold b4
 rw[Int.natAbs_natCast]
 have o:=qG h.1
 have aa:=rA 10 l.length 4000 (by decide) h.2.2.2
 have aA:=Fa 10 4 1000 4000 (by decide)
 have bo:(10:Nat)^4=10000:=by decide
 rw[bo]at aA
 rw[<-aA]
 exact Nat.lt_of_lt_of_le o aa
theorem hB.zero(H:ab):hB H (.agg #[.bool false,.slice none 0 0,.bool false,.slice none 0 0]) 0 0:=⟨false,none,0,0,false,none,0,0,rfl,eg.zero H,eg.zero H⟩
theorem Qy(c:Nat)(l:List Nat):l.take (c6 c l).1.length=(c6 c l).1:=by
 cases h:(c6 c l).2 with
 | none=>rw[tJ h,List.take_length]
 | some u=>exact(I8 h).1
theorem Nf(l:List Nat)(d:Int):Int.gcd (gv l) d=Int.gcd (dD (gY l)) d:=by
 unfold gv
 split
 ·rw[Int.neg_gcd]
 ·rfl
theorem IL{l:List Nat}{H:ab}(ar:Bytes l)(hlen:l.length<4611686018427387904):
  aP prog 54 [.string (cf l)] H (fun u H1=>Ext H H1/\∃v n d b,u= .tuple #[v,.bool b]/\(b=true↔iE l)/\hB H1 v n d/\(iE l->n=gv l/\d=eF l)):=by
 refine aP.b9 fun Q aE=>?_
 obtain⟨t,bM⟩:∃t,t=jq 45 l:=⟨_,rfl⟩
 obtain⟨dm,fZ,eM⟩:=Nx l
 rw[<-bM]at dm fZ
 have D6:Bytes t:=bM▸ar.tail
 have ob:t.length<=l.length:=by
  rw[bM];unfold jq
  split
  ·simp
  ·exact Nat.le_refl _
 apply WA (by simp)
 simp[Hp]
 have bn:Ext H (H++[.dead]):=Ext.dead H
 have fail:∀nD,Ext H nD->¬iE l->Q (.tuple #[.agg #[.bool false,.slice none 0 0,.bool false,.slice none 0 0],.bool false]) nD:=fun nD J iO=>aE _ _ ⟨J,_,0,0,false,rfl,⟨fun h=>(by cases h),fun h=>absurd h iO⟩,hB.zero _,fun h=>absurd h iO⟩
 refine ix (l:=l) (by simp) (by rfl) ?_
 simp
 refine bH.b_ (fun z7=>?_) (fun z7=>?_)
 ·simp[bf]
  exact fail _ bn fun h=>by have:=E2 h;omega
 ·refine cc.join (by kernel_rfl) (fun az bD H1=>H1=H++[.dead]/\az 4= .string (cf t)/\az 5= .bool (lb l)) ?_ ?_
  ·rintro K a0-
   rw[mE]
   refine cc.join (by kernel_rfl) (fun az bD H1=>H1=H++[.dead]/\az 25= .bool (decide (l.head?=some 45))) ?_ ?_
   ·rintro cT dT-
    simp
    refine ix (l:=l) (by simp) (by rfl) ?_
    by_cases aH:0<l.length
    ·have hh:((0:Int)<(l.length:Int))=True:=by simp;omega
     have sw:l.head?=some (l[0]?.getD 0):=by
      rw[List.head?_eq_getElem?,bJ aH];rfl
     simp[aH]
     refine ox (n:=0) (nh:= .i64) (l:=l) (by simp) ar (by simp) aH (by rfl) ?_
     simp
     refine dT _ _ _ ⟨rfl,?_⟩
     rw[sw]
     simp;omega
    ·have:l=[]:=List.eq_nil_of_length_eq_zero (by omega)
     simp[this]
     refine dT _ _ _ ⟨rfl,by simp[this]⟩
   ·rintro az bD H1 ⟨rfl,tT⟩
    simp only[jn]at tT
    simp at tT
    simp[tT]
    refine bH.b_ (fun ad=>?_) (fun ad=>?_)
    ·have aht:0<l.length:=by
      cases l with
      | nil=>simp at ad
      | cons x r=>simp
     simp
     refine FU (s:=cf l) (l:=1) (h:=l.length) (by simp) (by rfl) (by simp[dO]) (by simp[e2,ju]) (by omega) (by rw[ju];omega) ?_
     have sP:(l.drop 1).take (l.length-1)=t:=by
      rw[bM,jq,if_pos ad,List.drop_one,List.take_of_length_le (by simp)]
     simp only[qA,sP]
     simp
     refine a0 _ _ _ ⟨rfl,by simp,?_⟩
     rw[<-eM,decide_eq_true ad];simp
    ·have sP:t=l:=by rw[bM,jq,if_neg ad]
     try simp
     refine a0 _ _ _ ⟨rfl,by simp[sP],?_⟩
     rw[<-eM,decide_eq_false ad];simp
  ·rintro az bD H1 ⟨rfl,bo,bK⟩
   simp at bo bK
   simp[bo]
   refine ix (l:=t) (by simp[bo]) (by rfl) ?_
   simp[bo]
   refine ix (l:=t) (by simp[bo]) (by rfl) ?_
   have od:IntKind.i64.wrap ((t.length:Int)-1)=(t.length:Int)-1:=b6 (by omega) (by omega)
   simp[od]
   refine dF.mk (by kernel_rfl) (fun m bU dp aR=>m<=t.length/\bU 7= .int .i64 ((m:Int)-1)/\aR=H++[.dead]/\bU 6= .int .i64 ((m+(c6 47 (t.drop m)).1.length:Nat):Int)) t.length ⟨Nat.le_refl _,by simp,rfl,by simp[c6]⟩ ?_
   rintro m bU dp aR ⟨hm,cg,rfl,dM⟩ K a0
   simp at cg dM
   simp[cg]
   refine bH.b_ (fun hl=>?_) (fun hl=>?_)
   ·refine Exists.elim (⟨m-1,by omega⟩:∃i:Nat,m=i+1) fun i ae=>?_
    have hR:(m:Int)-1=(i:Int):=by omega
    have jZ:IntKind.i64.wrap ((i:Int)-1)=(i:Int)-1:=b6 (by omega) (by omega)
    have cA:i<t.length:=by omega
    have uB:t.drop i=t[i]::t.drop m:=by rw[ae,List.drop_eq_getElem_cons cA]
    refine cc.join (by kernel_rfl) (fun dh ey bP=>bP=H++[.dead]/\dh 6= .int .i64 ((i+(c6 47 (t.drop i)).1.length:Nat):Int)) ?_ ?_
    ·rintro cT dT-
     simp[bo,cg,hR]
     refine ox (n:=i) (nh:= .i64) (l:=t) (by simp[bo]) D6 (by simp[cg,hR]) cA (by rfl) ?_
     simp
     have k5:t[i]?.getD 0=t[i]:=by rw[bJ cA];rfl
     refine bH.mk (fun ad=>?_) (fun ad=>?_)
     ·have ad:t[i]=47:=by have:=ad;simp[cA]at this;omega
      simp[cg,hR]
      refine dT _ _ _ ⟨rfl,?_⟩
      rw[uB]
      simp[c6,ad]
     ·have ad:t[i]≠47:=by have:=ad;simp[cA]at this;omega
      try simp
      refine dT _ _ _ ⟨rfl,?_⟩
      rw[uB]
      simp[c6,ad,dM]
      omega
    ·rintro dh ey bP ⟨rfl,tU⟩
     simp at tU
     simp[cg,hR,jZ]
     refine a0 i _ _ _ (by omega) ⟨by omega,by simp,rfl,?_⟩
     simpa using tU
   ·have m4:m=0:=by omega
    rw[m4]at dM
    simp[dm]at dM
    have Ao:=Qy 47 t
    rw[dm]at Ao
    have jz:(gY l).length<=t.length:=by rw[<-Ao];simp;omega
    have TP:Bytes (gY l):=by rw[<-Ao];exact fun x J=>D6 x (List.mem_of_mem_take J)
    simp[bo,dM]
    refine FU (s:=cf t) (l:=0) (h:=(gY l).length) (by simp[bo]) (by rfl) (by simp[dO]) (by simp[e2,dM]) (by omega) (by rw[ju];omega) ?_
    have sP:(t.drop 0).take ((gY l).length-0)=gY l:=by simpa using Ao
    simp only[qA,sP]
    try simp
    refine aV.mk (Jf TP (by omega)) ?_
    rintro _ eN ⟨c1,_,kL,rfl,⟨N4,vS,v8,wc,rfl,zE,R_,C5,My,LL⟩,uR,UJ⟩
    have Dc:eg eN (.agg #[.bool N4,.slice vS wc.length v8]) kL:=⟨N4,vS,v8,wc,rfl,zE,R_,C5,My,LL⟩
    have f8:b4 1000 kL:=by
     by_cases aB:hx (gY l)
     ·rw[uR aB];exact b4.dD aB
     ·rw[UJ aB];exact b4.small (by decide) (by decide)
    try simp
    have dx:=Ext.dead eN
    refine aV.mk (r6 (v:=1) (by omega) (by omega)) ?_
    rintro aka kq ⟨fQ,AD⟩
    try simp
    refine cO.mk AD.whole ?_
    try simp
    have fY:=Ext.dead kq
    have uY:=dx.aw (fQ.aw fY)
    have Mb:=bn.aw (c1.aw uY)
    refine cc.join (by kernel_rfl) (fun rT qq ig=>Ext (kq++[.dead]) ig/\eg ig (qq 10) (eF l)/\BR l/\(ko l=none\/Int.gcd kL (eF l)=1)/\b4 1000 (eF l)) ?_ ?_
    ·rintro cT dT Sm
     simp[dM]
     refine ix (l:=t) (by simp[bo]) (by rfl) ?_
     try simp
     cases hu:ko l with
     | none=>
      have he:=I9 (c:=47) (l:=t) (by rw[fZ,hu])
      rw[dm]at he
      have bk:¬(gY l).length<t.length:=by omega
      have jQ:eF l=1:=by unfold eF;rw[hu]
      refine bH.b_ (fun a6=>absurd a6 (by omega)) (fun _=>?_)
      refine dT _ _ _ ⟨Ext.refl _,?_,fun u m9=>(by rw[hu]at m9;cases m9),.inl hu,by rw[jQ];exact b4.small (by decide) (by decide)⟩
      rw[jQ]
      simpa using AD.ext fY
     | some u=>
      have jy:=I8 (c:=47) (l:=t) (u:=u) (by rw[fZ,hu])
      rw[dm]at jy
      have jQ:eF l=dD u:=by unfold eF;rw[hu]
      have VG:Bytes u:=by rw[<-jy.2.1];exact fun x J=>D6 x (List.mem_of_mem_drop J)
      have kF:u.length<=t.length:=by rw[<-jy.2.1];simp
      have oe:IntKind.i64.wrap (((gY l).length:Int)+1)=(((gY l).length+1:Nat):Int):=by rw[b6 (by omega) (by omega)];simp
      refine bH.b_ (fun _=>?_) (fun a6=>absurd (show((gY l).length:Int)<(t.length:Int) by omega) (by omega))
      simp[bo,dM,oe]
      refine FU (s:=cf t) (l:=(gY l).length+1) (h:=t.length) (by simp[bo]) (by rfl) (by simp[dO];omega) (by simp[e2,ju]) (by omega) (by rw[ju];omega) ?_
      have VB:(t.drop ((gY l).length+1)).take (t.length-((gY l).length+1))=u:=by
       rw[jy.2.1,List.take_of_length_le]
       rw[<-jy.2.1];simp
      simp only[qA,VB]
      try simp
      refine aV.mk (Jf VG (by omega)) ?_
      rintro _ kr ⟨hS,adh,lZ,rfl,wU,Ai,UI⟩
      have f13:b4 1000 lZ:=by
       by_cases aB:hx u
       ·rw[Ai aB];exact b4.dD aB
       ·rw[UI aB];exact b4.small (by decide) (by decide)
      try simp
      refine cO.mk wU.whole ?_
      try simp
      have lR:=Ext.dead kr
      refine cc.join (by kernel_rfl) (fun rU tq ks=>Ext (kr++[.dead]) ks/\∃bad,rU 77= .bool bad/\(bad=false↔hx u/\2<=lZ/\Int.gcd kL lZ=1)) ?_ ?_
      ·rintro nG fX-
       by_cases n2:hx u
       ·simp[n2]
        refine aV.mk (r6 (v:=2) (by omega) (by omega)) ?_
        rintro F9 ks ⟨hT,ra⟩
        refine⟨hT,?_⟩
        try simp
        refine aV.mk (B8 (N:=1000) (wU.ext (lR.aw hT)) ra f13 (b4.small (by decide) (by decide)) (by decide)) ?_
        rintro _ rX ⟨ji,rfl⟩
        have o0:=lR.aw (hT.aw ji)
        by_cases a6:lZ<2
        ·simp[a6]
         exact fX _ _ _ ⟨hT.aw ji,true,by simp,by simp;omega⟩
        ·have UG:¬((if lZ<2 then(-1:Int)else if lZ=2 then 0 else 1)<0):=by
          rw[if_neg a6];split<;>omega
         simp[UG]
         refine aV.mk (IG (N:=1000) (Dc.ext (uY.aw (hS.aw o0))) (wU.ext o0) f8 f13 (by decide)) ?_
         rintro Pc yN ⟨oh,uX⟩
         try simp
         refine aV.mk (r6 (v:=1) (by omega) (by omega)) ?_
         rintro ado oB ⟨o1,Eh⟩
         try simp
         have qI:b4 1000 (Int.gcd kL lZ:Nat):=f13.le (by
          have:=Nat.le_of_dvd (by omega) (Int.gcd_dvd_natAbs_right kL lZ)
          simpa using this)
         refine aV.mk (B8 (N:=1000) (uX.ext o1) Eh qI (b4.small (by decide) (by decide)) (by decide)) ?_
         rintro _ vI ⟨h9,rfl⟩
         try simp
         refine fX _ _ _ ⟨hT.aw (ji.aw (oh.aw (o1.aw h9))),decide (Int.gcd kL lZ≠1),?_,?_⟩
         ·have Dy:0<Int.gcd kL lZ:=Int.gcd_pos_of_ne_zero_right _ (by omega)
          by_cases mi:Int.gcd kL lZ=1
          ·simp[mi]
          ·simp[mi,show¬(((Int.gcd kL lZ:Nat):Int)<1) by omega,show¬(((Int.gcd kL lZ:Nat):Int)=1) by omega]
         ·simp[n2];omega
       ·simp[n2]
        exact fX _ _ _ ⟨Ext.refl _,true,by simp,by simp[n2]⟩
      ·rintro rU tq ks ⟨hT,bad,CH,qS⟩
       simp only[jn]at CH
       simp at CH
       simp[CH]
       refine bH.mk (fun ag=>?_) (fun ag=>?_)
       ·simp
        refine Sm _ _ _ _ (by simp) ?_
        simp[bf]
        refine fail _ (Mb.aw (hS.aw (lR.aw hT))) fun aY=>?_
        obtain⟨a1,a3,bG,cn⟩:=aY
        have n2:=(a3 u hu).1
        have oU:=(a3 u hu).2
        have aU:Int.gcd kL lZ=1:=by
         rcases cn with h | h
         ·rw[hu]at h;cases h
         ·rw[Nf,jQ,<-uR a1]at h
          rw[Ai n2];exact h
        have:=qS.2 ⟨n2,by rw[Ai n2];omega,aU⟩
        rw[this]at ag
        cases ag
       ·have aU:=qS.1 ag
        have Ey:=Ai aU.1
        have aa:=aU.2.1
        have aA:=aU.2.2
        simp
        refine cO.mk wU.whole ?_
        try simp
        refine dT _ _ _ ⟨hS.aw (lR.aw hT),?_,fun OW m9=>?_,.inr ?_,?_⟩
        ·rw[jQ,<-Ey]
         simpa using wU.ext (lR.aw hT)
        ·rw[hu]at m9
         have:=Option.some.inj m9
         subst this
         exact⟨aU.1,by omega⟩
        ·rw[jQ,<-Ey];exact aA
        ·rw[jQ,<-Ey];exact f13
    ·rintro rT qq ig ⟨gP,qU,Sa,T1,agC⟩
     simp at qU
     have Ep:=uY.aw gP
     have Mc:=Mb.aw gP
     have qZ:hx (gY l)->(kL=0↔wc=[]):=fun aB=>by
      have o:=rD (n:=dD (gY l)) (by rw[<-My];exact(uR aB).symm) C5 LL
      rw[uR aB,<-C5.zero,o.2]
      omega
     try simp only[mE]
     refine cc.join (by kernel_rfl) (fun rU tq ks=>ks=ig/\∃bad,rU 90= .bool bad/\(bad=false↔hx (gY l)/\¬(lb l=true/\kL=0))) ?_ ?_
     ·rintro nG fX-
      by_cases aB:hx (gY l)
      ·cases Ab:lb l with
       | false=>
        rw[Ab]at bK
        simp[aB,bK]
        exact fX _ _ _ ⟨rfl,false,by simp,by simp[aB,Ab]⟩
       | true=>
        rw[Ab]at bK
        simp[aB,bK]
        refine c9 (af:=dd) (xs:=wc) (by simpa using zE.ext Ep) (by simp) ?_
        simp
        refine fX _ _ _ ⟨rfl,decide (wc=[]),by simp,?_⟩
        simp[aB,Ab,qZ aB]
      ·simp[aB]
       exact fX _ _ _ ⟨rfl,true,by simp,by simp[aB]⟩
     ·rintro rU tq ks ⟨rfl,bad,CK,qS⟩
      simp only[jn]at CK
      simp at CK
      simp[CK]
      refine bH.mk (fun ag=>?_) (fun ag=>?_)
      ·simp[bf]
       refine fail _ Mc fun aY=>?_
       obtain⟨a1,a3,bG,cn⟩:=aY
       have:=qS.2 ⟨a1,by rw[uR a1];intro h;exact bG ⟨h.1,by omega⟩⟩
       rw[this]at ag
       cases ag
      ·have aU:=qS.1 ag
       have aM:=uR aU.1
       have kZ:iE l:=⟨aU.1,Sa,by rw[aM]at aU;intro h;exact aU.2 ⟨h.1,by omega⟩,by
        rcases T1 with h | h
        ·exact .inl h
        ·refine .inr ?_
         rw[Nf,<-aM];exact h⟩
       have jD:(if lb l=true then-kL else kL)=gv l:=by
        unfold gv
        rw[aM]
       refine cc.join (by kernel_rfl) (fun Py Gt rX=>Ext ks rX/\eg rX (Gt 8) (gv l)) ?_ ?_
       ·rintro qs im-
        simp[bK]
        refine bH.mk (fun mo=>?_) (fun mo=>?_)
        ·simp
         refine aV.mk (II (Dc.ext Ep)) ?_
         rintro Pc yN ⟨oh,uX⟩
         simp
         refine cO.mk uX.whole ?_
         try simp
         refine im _ _ _ ⟨oh,?_⟩
         rw[<-jD,if_pos mo]
         simpa using uX
        ·try simp
         refine im _ _ _ ⟨Ext.refl _,?_⟩
         rw[<-jD,if_neg (by simp[mo])]
         simpa using Dc.ext Ep
       ·rintro Py Gt rX ⟨ji,Le⟩
        simp at Le
        simp[-pr]
        refine Bv (n:=gv l) (m:=eF l) (by simpa using Le) (by simpa using qU.ext ji) ?_
        intro q av
        simp
        refine cO.mk av.whole ?_
        simp[bf]
        exact aE _ _ ⟨Mc.aw ji,q,_,_,true,rfl,⟨fun _=>kZ,fun _=>rfl⟩,av,fun _=>⟨rfl,rfl⟩⟩
theorem Qb{l:List Nat}{H:ab}(ar:Bytes l)(hlen:l.length<4611686018427387904):
  aP prog 25 [.string (cf l)] H (fun u H1=>Ext H H1/\∃b,u= .bool b/\(b=true↔iE l)):=by
 refine aP.b9 fun Q aE=>?_
 apply WD (by simp)
 simp[Hs]
 refine aV.mk (IL ar hlen) ?_
 rintro _ H1 ⟨bx,q,n,d,b,rfl,ag,av,m6⟩
 simp
 refine cO.mk av.whole ?_
 simp[bf]
 exact aE _ _ ⟨bx.aw (Ext.dead H1),b,rfl,ag⟩
theorem Cc{l:List Nat}{H:ab}(ar:Bytes l)(hlen:l.length<4611686018427387904):
  aP prog 23 [.string (cf l)] H (fun u H1=>Ext H H1/\∃n d,hB H1 u n d/\(iE l->n=gv l/\d=eF l)):=by
 refine aP.b9 fun Q aE=>?_
 apply Wz (by simp)
 simp[Ho]
 have bn:=Ext.dead H
 refine aV.mk (IL ar hlen) ?_
 rintro _ H1 ⟨bx,q,n,d,b,rfl,ag,av,m6⟩
 simp
 refine cO.mk av.whole ?_
 try simp
 refine cO.mk av.whole ?_
 simp[bf]
 exact aE _ _ ⟨bn.aw (bx.aw (Ext.dead H1)),n,d,av.ext (Ext.dead H1),m6⟩
theorem b4.den{l:List Nat}(h:iE l):b4 1000 (eF l:Int):=by
 unfold eF
 cases hu:ko l with
 | none=>exact b4.small (by decide) (by decide)
 | some u=>exact b4.dD (h.2.1 u hu).1
theorem b4.num{l:List Nat}(h:iE l):b4 1000 (gv l):=by
 unfold gv
 split
 ·exact(b4.dD h.1).neg
 ·exact b4.dD h.1
theorem yD{i:Nat}(h:i<4611686018427387904):IntKind.i64.wrap ((i:Int)+1)=((i+1:Nat):Int):=by rw[b6 (by omega) (by omega)];omega
theorem F6{t:List (List Int)}:gV t↔(1<=t.length/\t.length<=8)/\∀r∈t,(r.length=(t[0]?.getD []).length/\1<=r.length/\r.length<=8)/\∀x∈r,0<=x/\x<=1000:=by
 constructor
 ·intro h
  have ar:=h.len
  obtain⟨o,aa,aA,bo,bK⟩:=h
  refine⟨⟨o,aa⟩,fun r al=>?_⟩
  have e:=ar r al
  refine⟨⟨e,by omega,by omega⟩,fun x J=>?_⟩
  have:=bK r al
  unfold ly at this
  simp at this
  have:=this.2 x J
  omega
 ·rintro⟨⟨o,aa⟩,h⟩
  have aH:t[0]?.getD []∈t:=by rw[bJ (by omega)];exact List.getElem_mem (by omega)
  have:=(h _ aH).1
  refine⟨o,aa,this.2.1,this.2.2,fun r al=>?_⟩
  have:=h r al
  unfold ly
  simp
  exact⟨this.1.1,fun x J=>by have:=this.2 x J;omega⟩
section
variable {P:Program} {r:List bz} {F:Fr} {H:ab} {Q:Fr->ab->Prop} {α:Type}
end
structure rR (k_ lT:List Int) (M kind:Int) (w:Nat):Prop where
 X7:∀x∈k_,x<=M
 eW:∀x∈lT,x<=M
 at_:(kind=0/\k_[w]?=some M/\∀(i:Nat) (x:Int),i<w->k_[i]?=some x->x<M)\/(kind=1/\(∀x∈k_,x<M)/\lT[w]?=some M/\∀(i:Nat) (x:Int),i<w->lT[i]?=some x->x<M)
theorem rR.uniq{k_ lT:List Int}{M tt kind AL:Int}{w gx:Nat}(h:rR k_ lT M kind w)(cv:rR k_ lT tt AL gx):M=tt/\kind=AL/\w=gx:=by
 have le:∀{M tt kind AL:Int} {w gx:Nat},rR k_ lT M kind w->rR k_ lT tt AL gx->M<=tt:=fun h cv=>by
  rcases h.at_ with⟨-,o,-⟩ | ⟨-,-,o,-⟩
  ·exact cv.X7 _ (List.mem_of_getElem? o)
  ·exact cv.eW _ (List.mem_of_getElem? o)
 have e:M=tt:=Int.le_antisymm (le h cv) (le cv h)
 subst e
 refine⟨rfl,?_⟩
 rcases h.at_ with⟨bk,o,aa⟩ | ⟨bk,aH,o,aa⟩<;>rcases cv.at_ with⟨bg,cj,jv⟩ | ⟨bg,cq,cj,jv⟩
 ·refine⟨by rw[bk,bg],?_⟩
  rcases Nat.lt_trichotomy w gx with a6 | he | a6
  ·exact absurd (jv _ _ a6 o) (Int.lt_irrefl _)
  ·exact he
  ·exact absurd (aa _ _ a6 cj) (Int.lt_irrefl _)
 ·exact absurd (cq _ (List.mem_of_getElem? o)) (Int.lt_irrefl _)
 ·exact absurd (aH _ (List.mem_of_getElem? cj)) (Int.lt_irrefl _)
 ·refine⟨by rw[bk,bg],?_⟩
  rcases Nat.lt_trichotomy w gx with a6 | he | a6
  ·exact absurd (jv _ _ a6 o) (Int.lt_irrefl _)
  ·exact he
  ·exact absurd (aa _ _ a6 cj) (Int.lt_irrefl _)
theorem M8{t:List (List Int)}(bM:0<t.length):∃M:Int,(dy (dL (cX t)) t.length).1=(M:Rat)/\(t.map List.sum)[(dy (dL (cX t)) t.length).2]?=some M/\(∀x∈t.map List.sum,x<=M)/\∀(i:Nat) (x:Int),i<(dy (dL (cX t)) t.length).2->(t.map List.sum)[i]?=some x->x<M:=by
 have q0:∀(i:Nat) (x:Int),(t.map List.sum)[i]?=some x->dL (cX t) i=(x:Rat):=fun i x h=>by
  rw[List.getElem?_map]at h
  rw[Fp]
  cases ae:t[i]? with
  | none=>rw[ae]at h;cases h
  | some r=>rw[ae]at h;simp at h;simp[h]
 obtain⟨o,aa⟩:=s6 (dL (cX t)) t.length
 have hw:(dy (dL (cX t)) t.length).2<t.length:=by omega
 have aU:(t.map List.sum)[(dy (dL (cX t)) t.length).2]?=some (t[(dy (dL (cX t)) t.length).2]'hw).sum:=by
  rw[List.getElem?_map,bJ hw];rfl
 refine⟨_,by rw[o,q0 _ _ aU],aU,fun x J=>?_,fun i x ae J=>?_⟩
 ·obtain⟨i,ae⟩:=List.mem_iff_getElem?.1 J
  have cA:i<t.length:=by have:=(cK.1 ae).1;simpa using this
  have:=AS (dL (cX t)) cA
  rw[o,q0 _ _ ae,q0 _ _ aU]at this
  exact_mod_cast this
 ·have:=YE (dL (cX t)) ae
  rw[o,q0 _ _ J,q0 _ _ aU]at this
  exact_mod_cast this
theorem P5{t:List (List Int)}{m:Nat}(hm:m=(t[0]?.getD []).length)(bM:0<t.length)(aH:0<m):rR (t.map List.sum) ((hK m t).map List.sum) (il t).1 (il t).2.1 (il t).2.2:=by
 obtain⟨nE,qN,Sk,CO,Sl⟩:=M8 bM
 have ob:(hK m t).length=m:=by simp[hK]
 obtain⟨K,a0,J8,Ka,J_⟩:=M8 (t:=hK m t) (by omega)
 rw[ob]at a0 J8 J_
 have bC:il t=if(dy (dL (cX t)) t.length).1<(dy (dL (cX (hK m t))) m).1 then((dy (dL (cX (hK m t))) m).1.num,1,(dy (dL (cX (hK m t))) m).2)else((dy (dL (cX t)) t.length).1.num,0,(dy (dL (cX t)) t.length).2):=by
  unfold il
  rw[<-hm]
 rw[bC,qN,a0]
 by_cases a6:nE<K
 ·rw[if_pos (by exact_mod_cast a6)]
  simp only[Rat.num_intCast]
  exact⟨fun x J=>by have:=CO x J;omega,Ka,.inr ⟨rfl,fun x J=>by have:=CO x J;omega,J8,J_⟩⟩
 ·rw[if_neg (fun h=>a6 (by exact_mod_cast h))]
  simp only[Rat.num_intCast]
  exact⟨CO,fun x J=>by have:=Ka x J;omega,.inl ⟨rfl,Sk,Sl⟩⟩
def oK(t:List (List Int))(i k:Nat):Int:=(t[i]?.getD [])[k]?.getD 0
structure aeX (l:List Int) (z:Int):Prop where
 le:∀x∈l,x<=z
 at_:z=0\/z∈l
 iS:0<=z
end Go.cJ
end
section
set_option maxRecDepth 8000
set_option maxHeartbeats 1000000
namespace Go.cJ
open Go.Proofs
open Go.Proofs.Tryz (prog)
attribute [-simp] hq hX jG
attribute [-simp] pr
theorem QG{l:List Nat}(h:iE l):(0:Int)<eF l:=by
 have:=h.2.1
 unfold eF
 cases hu:ko l with
 | none=>simp
 | some u=>have:=(this u hu).2;simp;omega
section
variable {r:List bz} {F:Fr} {H:ab} {Q:Fr->ab->Prop}
theorem Z4{v:Value}{b0:List (List Nat×List Int)}{n:Nat}{a:List Nat×List Int}(br:Row 93 2 true e_ H v b0)(aO:b0[n]?=some a):∃b R cap X all eC eJ,v= .slice (some ⟨b,R,none⟩) b0.length cap/\H[b]?=some X/\X.cells?=some all/\all[R+n*2]?=some (.string (cf a.1))/\all[R+n*2+1]?=some (.slice eC a.2.length eJ)/\dV H (.slice eC a.2.length eJ) a.2:=by
 obtain⟨b,R,cap,X,all,⟨an,aQ,ad,bw,hu⟩ | ⟨a1,a3⟩⟩:=br.at aO
 ·simp only[if_true]at hu
  obtain⟨eC,j3,eJ,he,aa⟩:=hu
  obtain⟨fw,dR,pJ⟩:=aa.len
  simp at pJ
  obtain⟨rfl,rfl,rfl⟩:=pJ
  simp at he
  refine⟨b,R,cap,X,all,eC,eJ,an,aQ,ad,?_,?_,aa⟩
  ·have:=congrArg (fun l:List Value=>l[0]?) he
   simpa[List.getElem?_take,List.getElem?_drop]using this
  ·have:=congrArg (fun l:List Value=>l[1]?) he
   simpa[List.getElem?_take,List.getElem?_drop]using this
 ·cases a1
theorem aaW{d t d1 d2 n:Nat}{x i:Operand}{b0:List (List Nat×List Int)}{a:List Nat×List Int}{ax:ba (bu d t x i::a9 d1 93 (T d) 0::aI d2 45 (T d1)::r) Q}(br:Row 93 2 true e_ H (aq F x) b0)(ae:aq F i= .int .i64 (n:Int))(aO:b0[n]?=some a)
  (bM:fe prog t=some 93)(K:∀p q,a_ prog r Q .mk (a4 (a4 (a4 F d p) d1 q) d2 (.string (cf a.1))) H):a_ prog (bu d t x i::a9 d1 93 (T d) 0::aI d2 45 (T d1)::r) Q ax F H:=by
 have ar:n<b0.length:=(cK.1 aO).1
 obtain⟨b,R,cap,X,all,eC,eJ,an,aQ,ad,aH,o,aa⟩:=Z4 br aO
 rw[hq,an,ae,tw,qw,bM,gF,show bq prog 93=some 2 by rfl,gF,tu]
 refine dE.mk ⟨by omega,by omega⟩ ?_
 rw[aaP]
 simp only[py,j6,tv,show fL prog 93 0=some 0 by rfl,gF,Nat.add_zero]
 rw[FR]
 simp only[py,j6,tv,aQ,Option.bind_some,ad,gF,show ds prog 45=some false by rfl,Int.toNat_natCast,BP,aH]
 exact K _ _
end
theorem de.nQ{N:Nat}{q:Rat}(h:de N q):b4 N q.num/\b4 N (q.den:Int):=by
 have aY:2^N<=10000^N:=Nat.pow_le_pow_left (by decide) N
 refine⟨?_,?_⟩
 ·exact Nat.lt_of_lt_of_le h.1 aY
 ·exact Nat.lt_of_lt_of_le h.2 aY
theorem PQ{q:Rat}{n d:Int}(aB:0<d):q+Rat.divInt n d=Rat.divInt (q.num*d+n*q.den) (q.den*d):=by
 have h:=Rat.divInt_add_divInt q.num n (d₁:=q.den) (d₂:=d) (by have:=q.den_pos;omega) (by omega)
 rw[<-h,Rat.num_divInt_den]
theorem MN{v:Value}{b0:List (List Nat×List Int)}{H:ab}(kZ:Row 93 2 true e_ H v b0)(bC:∀p∈b0,Bytes p.1)(hlen:∀p∈b0,p.1.length<4611686018427387904)(oa:b0.length<=2000)(jW:∀p∈b0,iE p.1):
  aP prog 18 [v] H (fun u H1=>Ext H H1/\hB H1 u (du (parts b0)).num (du (parts b0)).den):=by
 refine aP.b9 fun Q aE=>?_
 apply Xv (by simp)
 simp[HY]
 have bn:=Ext.dead H
 refine aV.mk (IP (n:=0) (by omega) (by omega)) ?_
 rintro a7 H1 ⟨bx,nb⟩
 simp
 refine cO.mk nb.whole ?_
 simp
 have bm:=Ext.dead H1
 refine dF.mk (by kernel_rfl) (fun w dh ey bP=>∃i:Nat,w=b0.length-i/\i<=b0.length/\dh 4= .int .i64 (i:Int)/\Ext H bP/\hB bP (ey 3) (du (parts (b0.take i))).num (du (parts (b0.take i))).den) b0.length ⟨0,by omega,by omega,by simp,bn.aw (bx.aw bm),by simpa[parts,du]using nb.ext bm⟩ ?_
 rintro w dh ey bP ⟨i,rfl,ae,bo,bN,xo⟩ K a0
 simp at bo xo
 have ud:=b7.ext (af:=Row _ _ _ e_) kZ bN
 simp[bo]
 refine c9 (af:=e_) (xs:=b0) (by simpa using ud) (by simp) ?_
 simp
 refine bH.b_ (fun a6=>?_) (fun a6=>?_)
 ·refine Exists.elim (⟨_,bJ a6⟩:∃p,b0[i]?=some p) fun p aY=>?_
  have lL:=List.mem_of_getElem? aY
  have pU:=jW p lL
  have jZ:=yD (show i<4611686018427387904 by omega)
  have df:=(FF (b0:=b0.take i) fun q av=>jW q (List.mem_of_mem_take av)).1
  have lO:(b0.take i).length=i:=by simp;omega
  rw[lO]at df
  have Vu:ib i<=26580001:=by unfold ib;omega
  refine Exists.elim (⟨ib i+1000,rfl,by omega,by omega,by omega⟩:∃N,N=ib i+1000/\ib i<=N/\1000<=N/\N<=26581001) fun N bX=>?_
  have f1:b4 N (du (parts (b0.take i))).num:=df.nQ.1.mono bX.2.1
  have f2:b4 N ((du (parts (b0.take i))).den:Int):=df.nQ.2.mono bX.2.1
  have f3:b4 N (gv p.1):=(b4.num pU).mono bX.2.2.1
  have f4:b4 N (eF p.1:Int):=(b4.den pU).mono bX.2.2.1
  have agO:=bX.2.2.2
  clear bX Vu
  have aB:=QG pU
  have DM:du (parts (b0.take (i+1)))=Rat.divInt ((du (parts (b0.take i))).num*eF p.1+gv p.1*(du (parts (b0.take i))).den) ((du (parts (b0.take i))).den*eF p.1):=by
   rw[E3 aY,Ny]
   exact PQ aB
  have Dq:(0:Int)<(du (parts (b0.take i))).den*eF p.1:=Int.mul_pos (by have:=(du (parts (b0.take i))).den_pos;omega) aB
  simp[bo]
  refine aaW (b0:=b0) (n:=i) (a:=p) (by simpa using ud) (by simp[bo]) aY (by simp) ?_
  intro iv e5
  simp
  refine aV.mk (Cc (bC p lL) (hlen p lL)) ?_
  rintro Ga dQ ⟨cL,ah6,d6,U4,m6⟩
  refine⟨cL,?_⟩
  have bk:=(m6 pU).1
  have bg:=(m6 pU).2
  subst bk bg
  try simp
  refine aV.mk (ID (N:=N) (xo.ext cL) U4 f1 f2 f3 f4 (by omega)) ?_
  rintro Pd cS ⟨cD,U5⟩
  try simp
  refine aV.mk (P2 (N:=N+N+1) DM U5 Dq ((f1.mul f4).add (f3.mul f2)) ((f2.mul f4).mono (by omega)) (by omega)) ?_
  rintro Gb eN ⟨c1,Ly⟩
  try simp
  refine cO.mk Ly.whole ?_
  simp[bo,jZ]
  refine a0 (b0.length-(i+1)) _ _ _ (by omega) ⟨i+1,rfl,by omega,by simp,bN.aw (cL.aw (cD.aw c1)),by simpa using Ly⟩
 ·simp
  refine cO.mk xo.whole ?_
  simp[bf]
  rw[List.take_of_length_le (by omega)]at xo
  exact aE _ _ ⟨bN,xo⟩
abbrev PG(H:ab)(v:Value)(Y2:List (List (List Nat×List Int))):Prop:=Row 27 1 false (Row 93 2 true e_) H v Y2
instance:b7 PG:=⟨fun h J=>b7.ext (af:=Row 27 1 false (Row 93 2 true e_)) h J⟩
end Go.cJ
end
section
set_option maxRecDepth 8000
set_option maxHeartbeats 1000000
namespace Go.cJ
attribute [-simp] hq hX jG
attribute [-simp] pr
theorem Bb(n:Nat):(∀c∈iT n,hv c)/\dD (iT n).reverse=n/\(0<n->iT n≠[]/\(iT n).getLast?≠some 48):=by
 induction n using Nat.strongRecOn with
 | _ n a2=>
  by_cases h:n=0
  ·subst h
   rw[vk]
   simp[dD]
  ·obtain⟨i1,i2,i3⟩:=a2 (n/10) (by omega)
   rw[Bc (by omega)]
   refine⟨fun c ad=>?_,?_,fun _=>⟨by simp,?_⟩⟩
   ·rcases List.mem_cons.1 ad with ad | ad
    ·subst ad;unfold hv;omega
    ·exact i1 c ad
   ·rw[List.reverse_cons,Rf,i2]
    omega
   ·by_cases o:n/10=0
    ·rw[o,vk]
     simp
     omega
    ·have:=i3 (by omega)
     rw[List.getLast?_cons]
     cases aU:(iT (n/10)).getLast? with
     | none=>exact absurd (List.getLast?_eq_none_iff.1 aU) this.1
     | some c=>
      rw[aU]at this
      simp
      exact fun h=>this.2 (by rw[h])
theorem Cm(n:Nat):∀c∈dec n,hv c:=by
 unfold dec
 split
 ·intro c ad;simp at ad;subst ad;decide
 ·intro c ad;exact(Bb n).1 c (List.mem_reverse.1 ad)
theorem zd(n:Nat):dD (dec n)=n:=by
 unfold dec
 split
 ·rename_i h;rw[h];rfl
 ·exact(Bb n).2.1
theorem QE(n:Nat):dec n≠[]:=by
 unfold dec
 split
 ·simp
 ·rename_i h
  have:=((Bb n).2.2 (by omega)).1
  simpa using this
theorem Je{n:Nat}(h:(dec n).length<=4000):hx (dec n):=by
 refine⟨Cm n,QE n,?_,h⟩
 rintro⟨o,aa⟩
 unfold dec at o aa
 split at o
 ·rename_i aH
  rw[if_pos aH]at aa
  simp at aa
 ·rename_i aH
  rw[List.head?_reverse]at o
  exact((Bb n).2.2 (by omega)).2 o
theorem Qx{c:Nat}{a:List Nat}(b:List Nat)(h:c∉a):c6 c (a++c::b)=(a,some b):=by
 induction a with
 | nil=>simp[c6]
 | cons x a a2=>
  have o:x≠c:=fun e=>h (by simp[e])
  have aa:=a2 fun e=>h (by simp[e])
  simp[c6,o,aa]
theorem Qw{c:Nat}{a:List Nat}(h:c∉a):c6 c a=(a,none):=by
 induction a with
 | nil=>simp[c6]
 | cons x a a2=>
  have o:x≠c:=fun e=>h (by simp[e])
  have aa:=a2 fun e=>h (by simp[e])
  simp[c6,o,aa]
theorem x_{q:Rat}(h:kR q):iE (gh q)/\gv (gh q)=q.num/\eF (gh q)=q.den:=by
 have bt:47∉((if q.num<0 then[45]else[])++dec q.num.natAbs):=by
  intro hm
  rcases List.mem_append.1 hm with hm | hm
  ·split at hm<;>simp at hm
  ·have:=Cm _ _ hm
   unfold hv at this
   omega
 have KB:c6 47 (gh q)=((if q.num<0 then[45]else[])++dec q.num.natAbs,if q.den=1 then none else some (dec q.den)):=by
  unfold gh
  by_cases aB:q.den=1
  ·rw[if_pos aB,if_pos aB,List.append_nil]
   exact Qw bt
  ·rw[if_neg aB,if_neg aB]
   exact Qx _ bt
 have Lq:rr (gh q)=(if q.num<0 then[45]else[])++dec q.num.natAbs:=by unfold rr;rw[KB]
 have L0:ko (gh q)=if q.den=1 then none else some (dec q.den):=by unfold ko;rw[KB]
 have sw:(dec q.num.natAbs).head?≠some 45:=by
  intro cV
  have:=Cm _ _ (List.mem_of_mem_head? cV)
  unfold hv at this
  omega
 have pR:lb (gh q)=decide (q.num<0):=by
  unfold lb
  rw[Lq]
  by_cases aG:q.num<0
  ·simp[aG]
  ·simp only[aG,if_false,List.nil_append]
   simp[sw]
 have qV:gY (gh q)=dec q.num.natAbs:=by
  unfold gY jq
  rw[Lq]
  by_cases aG:q.num<0
  ·simp[aG]
  ·simp only[aG,if_false,List.nil_append]
   rw[if_neg sw]
 have jQ:eF (gh q)=q.den:=by
  unfold eF
  rw[L0]
  by_cases aB:q.den=1
  ·simp[aB]
  ·simp[aB,zd]
 have jD:gv (gh q)=q.num:=by
  unfold gv
  rw[pR,qV,zd]
  by_cases aG:q.num<0
  ·simp[aG];omega
  ·simp[aG];omega
 refine⟨⟨?_,?_,?_,?_⟩,jD,jQ⟩
 ·rw[qV];exact Je h.1
 ·intro u hu
  rw[L0]at hu
  split at hu
  ·cases hu
  ·rename_i aB
   obtain rfl:=Option.some.inj hu
   have aY:=q.den_pos
   rw[zd]
   refine⟨Je ?_,by omega⟩
   rcases h.2 with h | h
   ·exact absurd h aB
   ·exact h
 ·rw[pR,qV,zd]
  rintro⟨o,aa⟩
  have:=of_decide_eq_true o
  omega
 ·right
  rw[jD,jQ]
  exact q.reduced
theorem A0(q:Rat):Bytes (gh q):=by
 unfold gh
 intro x J
 rcases List.mem_append.1 J with J | J
 ·rcases List.mem_append.1 J with J | J
  ·split at J<;>simp at J
   omega
  ·exact Jc _ x J
 ·split at J
  ·cases J
  ·rcases List.mem_cons.1 J with J | J
   ·omega
   ·exact Jc _ x J
theorem Ng{q:Rat}(h:kR q):iz (gh q)=q:=by
 obtain⟨o,aa,aA⟩:=x_ h
 unfold iz
 rw[aa,aA,Rat.num_divInt_den]
theorem Y0{aW:List (Rat×List Int)}(h:∀p∈aW,kR p.1):parts (aW.map fun p=>(gh p.1,p.2))=aW:=by
 unfold parts
 rw[List.map_map]
 conv=>rhs;rw[<-List.map_id aW]
 apply List.map_congr_left
 intro p aY
 simp[Ng (h p aY)]
end Go.cJ
end
section
set_option maxRecDepth 8000
set_option maxHeartbeats 1000000
namespace Go.cJ
open Go.Proofs
open Go.Proofs.Tryz (prog)
attribute [-simp] hq hX jG
attribute [-simp] pr
def fc(aW:List (Rat×List Int)):List (List Nat×List Int):=aW.map fun p=>(gh p.1,p.2)
structure r0 (t:List (List Int)) (aW:List (Rat×List Int)):Prop where
 ok:∀p∈fc aW,r1 t.length (t[0]?.getD []).length p
 one:∀p∈fc aW,iE p.1/\eF p.1=1
 parts:parts (fc aW)=aW
 mU:(fc aW).length<=(t.length+(t[0]?.getD []).length)*(t.length+(t[0]?.getD []).length)
 zl:(fc aW).length<=256
 sum:∀i k,i<t.length->k<(t[0]?.getD []).length->gw aW i k=((oK t i k:Int):Rat)
 len:du aW=(((il t).1:Int):Rat)
 bytes:∀p∈fc aW,Bytes p.1
 short:∀p∈fc aW,p.1.length<4611686018427387904/\p.2.length<65536
theorem r0.mk'{t:List (List Int)}{aW:List (Rat×List Int)}(an:gV t)(h:yU t.length (t[0]?.getD []).length (bZ (cX t)) (((il t).1:Int):Rat) aW)(hm:∀p∈aW,eY 1 p.1):r0 t aW:=by
 have mv:=vr (t:=t) rfl rfl an.small (by have:=an.2.1;omega)
 have h6:=E6 fun p aY=>(h.Bl p aY).1
 have hint:∀p∈aW,∃z:Int,p.1=(z:Rat)/\0<z/\z<=1000000000:=fun p aY=>by
  obtain⟨z,aM⟩:=hm p aY
  have e:p.1=(z:Rat):=by
   rw[<-aM]
   have:((1:Nat):Rat)=1:=rfl
   rw[this,Rat.mul_one]
  refine⟨z,e,?_,?_⟩
  ·have:=(h.Bl p aY).1
   rw[e]at this
   exact_mod_cast this
  ·have:=h6.2 p aY
   rw[h.len,e]at this
   have:z<=(il t).1:=by exact_mod_cast this
   have:=mv.2
   omega
 have jD:∀p∈aW,kR p.1:=fun p aY=>by
  obtain⟨z,aM,aH,o⟩:=hint p aY
  rw[aM]
  exact(de.int (N:=64) (by omega) (by decide)).AZ (by decide)
 have Am:=Y0 jD
 have e1:∀p∈fc aW,∃q∈aW,p=(gh q.1,q.2):=fun p aY=>by
  unfold fc at aY
  rw[List.mem_map]at aY
  obtain⟨q,av,rfl⟩:=aY
  exact⟨q,av,rfl⟩
 refine⟨fun p aY=>?_,fun p aY=>?_,Am,?_,?_,fun i k ae aj=>?_,h.len,fun p aY=>?_,fun p aY=>?_⟩
 ·obtain⟨q,av,rfl⟩:=e1 p aY
  have o:=x_ (jD q av)
  have aa:=h.Bl q av
  exact⟨⟨o.1,by rw[Ng (jD q av)];exact aa.1,aa.2.len⟩,aa.2⟩
 ·obtain⟨q,av,rfl⟩:=e1 p aY
  have o:=x_ (jD q av)
  obtain⟨z,aM,-⟩:=hint q av
  refine⟨o.1,?_⟩
  rw[o.2.2,aM,Rat.den_intCast]
 ·unfold fc
  rw[List.length_map]
  exact h.mU
 ·unfold fc
  rw[List.length_map]
  have o:=an.2.1
  have aa:=an.2.2.2.1
  exact Nat.le_trans h.mU (Nat.mul_le_mul (show _<=16 by omega) (show _<=16 by omega))
 ·rw[h.sum i k ae aj,vh]
  rfl
 ·obtain⟨q,av,rfl⟩:=e1 p aY
  exact A0 _
 ·obtain⟨q,av,rfl⟩:=e1 p aY
  have o:=E2 (x_ (jD q av)).1
  have aa:=(h.Bl q av).2.len
  have aA:=an.2.2.2.1
  refine⟨?_,?_⟩
  ·show(gh q.1).length<_
   omega
  ·show q.2.length<_
   omega
theorem r0.QJ{t:List (List Int)}{aW:List (Rat×List Int)}(h:r0 t aW):pj t (fc aW):=by
 refine⟨⟨h.ok,by have:=h.zl;omega⟩,fun j k aX aj=>?_⟩
 rw[h.parts,h.sum j k aX aj,vh]
 rfl
section
variable {P:Program} {r:List bz} {F:Fr} {H:ab} {Q:Fr->ab->Prop} {α:Type}
theorem FQ{d t e:Nat}{x y:Operand}{z:Value}{af:ab->Value->α->Prop}{a b:α}{ax:ba (ei d t 2 [(0,x),(1,y)]::r) Q}(aO:∀aF,Ext H aF->af aF (aq F x) a)(ag:∀aF,Ext H aF->af aF (aq F y) b)(bM:P.underlying t=some (.slice e))(ao:bq P e=some 1)(aM:dA P e=some z)(dS:flat z=true)(dg:z.cells.size=1)
  (aK:iY (fun i=>some (i*1,1)) (made z (2*1)) [(0,aq F x),(1,aq F y)]=some [aq F x,aq F y])(K:∀v aF,Row e 1 false af aF v [a,b]->Ext H aF->a_ P r Q .mk (a4 F d v) aF):a_ P (ei d t 2 [(0,x),(1,y)]::r) Q ax F H:=by
 have J:Ext H (H++[.own e false [aq F x,aq F y]]):=(Ext.refl H).snoc _ _ _
 refine tc bM ao aM dS dg (by decide) (by decide) (by decide) aK rfl (K _ _ ⟨[aq F x,aq F y],hY.fF (k:=0) ⟨rfl,.inr ⟨H.length,0,2,false,[aq F x,aq F y],rfl,by omega,Nat.le_refl _,Nat.zero_le _,by simp,by simp,by simp⟩⟩,fun i u ae=>?_⟩ J)
 match i with
 | 0=>simp at ae;subst ae;simpa[et]using aO _ J
 | 1=>simp at ae;subst ae;simpa[et]using ag _ J
 | n+2=>simp at ae
end
def t0:List (List Int):=[[2,1],[1,2]]
theorem Bt:gV t0:=by decide
theorem aau:il t0=(3,0,0):=by
 have h:=P5 (t:=t0) (m:=2) rfl (by decide) (by decide)
 have aa:rR (t0.map List.sum) ((hK 2 t0).map List.sum) 3 0 0:=by
  have bk:t0.map List.sum=[3,3]:=by decide
  have bg:(hK 2 t0).map List.sum=[3,3]:=by decide
  rw[bk,bg]
  exact⟨by simp,by simp,.inl ⟨rfl,rfl,fun i x ae=>by omega⟩⟩
 obtain⟨aA,bo,bK⟩:=h.uniq aa
 exact Prod.ext aA (Prod.ext bo bK)
theorem YN(z:Int)(h:0<=z):gh ((z:Int):Rat)=dec z.natAbs:=by
 unfold gh
 rw[Rat.num_intCast,Rat.den_intCast,if_neg (by omega)]
 simp
theorem Yl:({data:= #[51]}:ByteArray)=cf [51]:=rfl
theorem Yn{H:ab}:aP prog 12 [] H (fun u H1=>Ext H H1/\u= .bool true):=by
 refine aP.b9 fun Q aE=>?_
 have ag:=aau
 apply WV (by simp)
 simp[HG]
 refine FQ (e:=3) (z:= .int .i64 0) (af:=IR) (a:=2) (b:=1) (fun _ _=>rfl) (fun _ _=>rfl) (by simp) (by simp) (by rfl) (by rfl) (by rfl) (by rfl) ?_
 intro mF H1 oc bx
 refine FQ (e:=3) (z:= .int .i64 0) (af:=IR) (a:=1) (b:=2) (fun _ _=>rfl) (fun _ _=>rfl) (by simp) (by simp) (by rfl) (by rfl) (by rfl) (by rfl) ?_
 intro ln aR mw bm
 have LW:dV aR mF [2,1]:=b7.ext (af:=dV) oc bm
 refine Exists.elim (Row.len LW) fun bY jR=>Exists.elim jR fun cm jR=>?_
 refine Exists.elim (Row.len mw) fun cC iN=>Exists.elim iN fun cF iN=>?_
 refine FQ (e:=34) (z:= .slice none 0 0) (af:=dV) (a:=[2,1]) (b:=[1,2]) (fun aF J=>by simpa using b7.ext (af:=dV) LW J) (fun aF J=>by simpa using b7.ext (af:=dV) mw J) (by simp) (by simp) (by rfl) (by rfl) (by rfl) (by simp[jR,iN];rfl) ?_
 intro rN bP oZ bN
 have eu:ih bP rN t0:=oZ
 have nd:=bx.aw (bm.aw bN)
 simp
 refine aV.mk (IK (Row.s3 eu) (by decide) (by decide)) ?_
 rintro BH b1 ⟨cr,VL,-⟩
 have l8:=VL Bt
 rw[ag]at l8
 subst l8
 have J5:=b7.ext (af:=ih) eu cr
 simp
 refine aV.mk (E4 (Row.s3 J5) (by decide) (by decide)) ?_
 rintro mG cb ⟨c0,xC,-⟩
 refine Exists.elim (xC Bt) fun vA bK=>Exists.elim bK fun aW bK=>?_
 have mS:=bK.1
 subst mS
 have a5:=r0.mk' Bt bK.2.1 bK.2.2.1
 have fj:=bK.2.2.2
 have Sg:=b7.ext (af:=ih) J5 c0
 simp
 refine aV.mk (Jg (Row.s3 Sg) (by decide) (by decide) fj a5.bytes a5.short (by have:=a5.zl;exact Nat.le_trans this (by decide))) ?_
 rintro vv dQ ⟨cL,Ed,-,-⟩
 have oJ:=Ed Bt a5.QJ
 have kE:du (parts (fc aW))=((3:Int):Rat):=by rw[a5.parts,a5.len,ag]
 have Af:gh ((3:Int):Rat)=[51]:=by
  rw[YN 3 (by decide)]
  simp[dec,iT]
 have jW:kR ((3:Int):Rat):=(de.int (N:=64) (by decide) (by decide)).AZ (by decide)
 change vv=if kR (du (parts (fc aW)))then Value.tuple #[.string (cf (gh (du (parts (fc aW))))),.int .i64 0]else _ at oJ
 rw[kE,if_pos jW,Af]at oJ
 subst oJ
 simp[vu,Yl,bf]
 exact aE _ _ ⟨nd.aw (cr.aw (c0.aw cL)),rfl⟩
theorem cc.lV{P:Program}{a b:eR}{Q:dH->Fr->Fr->ab->Prop}{ax:ba (eR.seq a b) Q}{F G:Fr}{H:ab}(h:∀K:Fr->Fr->ab->Prop,(∀az bD H1,cc P b Q .mk az bD H1->K az bD H1)->cc P a (mC K Q) .mk F G H):cc P (.seq a b) Q ax F G H:=
 h _ fun _ _ _ h=>h
end Go.cJ
end
section
namespace Go.cJ
theorem nF.row{n m:Nat}{p:Rat×List Int}(h:nF n m p.2)(aH:0<=p.1){i:Nat}(ae:i<n):bS m (fun k=>gi p i k)<=p.1:=by
 by_cases aj:∃k:Nat,p.2[k]?=some (i:Int)
 ·obtain⟨k,aj⟩:=aj
  have:bS m (fun b5=>gi p i b5)=bS m (fun b5=>if b5=k then p.1 else 0):=g3 fun b5 _=>by
   unfold gi
   by_cases o:b5=k
   ·subst o;simp[aj]
   ·rw[if_neg o,if_neg fun aa=>o (EC (h.inj i ae) aa aj)]
  rw[this,rG k (fun _=>p.1)]
  split
  ·exact Rat.le_refl
  ·exact aH
 ·have:bS m (fun b5=>gi p i b5)=bS m (fun _=>0):=g3 fun b5 _=>by
   unfold gi
   rw[if_neg fun aa=>aj ⟨b5,aa⟩]
  rw[this,rH]
  exact aH
theorem nF.qF{n m:Nat}{p:Rat×List Int}(h:nF n m p.2)(aH:0<=p.1){k:Nat}(aj:k<m):bS n (fun i=>gi p i k)<=p.1:=by
 rcases h.NW k aj with o | ⟨j,aX,o⟩
 ·have:bS n (fun i=>gi p i k)=bS n (fun _=>0):=g3 fun i _=>by
   unfold gi
   rw[if_neg fun aa=>by rw[o]at aa;have:=Option.some.inj aa;omega]
  rw[this,rH]
  exact aH
 ·have:bS n (fun i=>gi p i k)=bS n (fun i=>if i=j then p.1 else 0):=g3 fun i _=>by
   unfold gi
   rw[o]
   by_cases aa:i=j
   ·subst aa;simp
   ·rw[if_neg aa,if_neg];simp;omega
  rw[this,rG j (fun _=>p.1),if_pos aX]
  exact Rat.le_refl
theorem Y6{n m:Nat}{aW:List (Rat×List Int)}(h:∀p∈aW,0<=p.1/\nF n m p.2){i:Nat}(ae:i<n):bS m (fun k=>gw aW i k)<=du aW:=by
 induction aW with
 | nil=>simp only[gw,du];rw[rH];exact Rat.le_refl
 | cons p aW a2=>
  simp only[gw,du]
  rw[FA]
  have o:=(h p (by simp)).2.row (h p (by simp)).1 ae
  have aa:=a2 fun q av=>h q (by simp[av])
  grind
theorem Y5{n m:Nat}{aW:List (Rat×List Int)}(h:∀p∈aW,0<=p.1/\nF n m p.2){k:Nat}(aj:k<m):bS n (fun i=>gw aW i k)<=du aW:=by
 induction aW with
 | nil=>simp only[gw,du];rw[rH];exact Rat.le_refl
 | cons p aW a2=>
  simp only[gw,du]
  rw[FA]
  have o:=(h p (by simp)).2.qF (h p (by simp)).1 aj
  have aa:=a2 fun q av=>h q (by simp[av])
  grind
end Go.cJ
end
section
set_option maxRecDepth 8000
set_option maxHeartbeats 1000000
namespace Go.cJ
open Go.Proofs
open Go.Proofs.Tryz (prog)
attribute [-simp] hq hX jG
attribute [-simp] pr
end Go.cJ
end
section
set_option maxRecDepth 8000
set_option maxHeartbeats 1000000
namespace Go.cJ
theorem aaA{n m:Nat}{t:List (List Rat)}{L:Rat}(h:fh n m t)(aG:0<n)(hm:0<m)(o:∀i,i<n->bS m (bZ t i)<=L)(aa:∀k,k<m->bS n (fun i=>bZ t i k)<=L):gk n m t<=L:=by
 have a:=s6 (dL t) n
 have b:=s6 (dL (ff m t)) m
 unfold gk
 split
 ·rw[b.1]
  have aj:(dy (dL (ff m t)) m).2<m:=by omega
  have e:bS n (fun i=>bZ t i (dy (dL (ff m t)) m).2)=dL (ff m t) (dy (dL (ff m t)) m).2:=by
   rw[yc h.ff aj]
   exact g3 fun i ae=>(tN h ae aj).symm
  rw[<-e]
  exact aa _ aj
 ·rw[a.1]
  have ae:(dy (dL t) n).2<n:=by omega
  rw[yc h ae]
  exact o _ ae
theorem pj.Yo{t:List (List Int)}{b0:List (List Nat×List Int)}(an:gV t)(h:pj t b0):(((il t).1:Int):Rat)<=du (parts b0):=by
 have aB:fh t.length (t[0]?.getD []).length (cX t):=A9 rfl an.len
 rw[<-(vr (t:=t) rfl rfl an.small (by have:=an.2.1;omega)).1]
 have aY:∀p∈parts b0,0<=p.1/\nF t.length (t[0]?.getD []).length p.2:=fun p aY=>by
  unfold parts at aY
  rw[List.mem_map]at aY
  obtain⟨q,av,rfl⟩:=aY
  have:=h.1.1 q av
  exact⟨Rat.le_of_lt this.1.2.1,this.2⟩
 refine aaA aB an.1 an.2.2.1 (fun i ae=>?_) fun k aj=>?_
 ·rw[<-g3 fun k aj=>h.2 i k ae aj]
  exact Y6 aY ae
 ·rw[<-g3 fun i ae=>h.2 i k ae aj]
  exact Y5 aY aj
end Go.cJ
end
section
set_option maxRecDepth 8000
set_option maxHeartbeats 1000000
namespace Go.cJ
open Go.Proofs
open Go.Proofs.Tryz (prog)
attribute [-simp] hq hX jG
attribute [-simp] pr
theorem PS{v w:Value}{q:Rat}{x:Int}{N:Nat}{H:ab}(bt:hB H v q.num q.den)(bC:hB H w x 1)(f1:b4 N q.num)(f2:b4 N q.den)(f3:b4 N x)(f4:b4 N 1)(bX:N<=1000000000):aP prog 17 [v,w] H (fun u H1=>Ext H H1/\∃z,u= .int .i64 z/\(0<=z↔((x:Int):Rat)<=q)):=by
 refine aP.mono (IF bt bC f1 f2 f3 f4 bX) ?_
 rintro _ H1 ⟨bx,rfl⟩
 refine⟨bx,_,rfl,?_⟩
 rw[Rat.le_iff,Rat.num_intCast,Rat.den_intCast]
 split
 ·omega
 ·split<;>omega
end Go.cJ
end
section
set_option maxRecDepth 8000
set_option maxHeartbeats 1000000
namespace Go.cJ
open Go.Proofs
open Go.Proofs.Tryz (prog)
open Go.RowKit
class j_ {α:Type} (af:ab->Value->α->Prop):Prop where
 app:∀{H N:ab} {v:Value} {x:α},af H v x->af (H++N) v x
theorem ep.app{H N:ab}{e U n:Nat}{v:Value}{cs:List Value}(h:ep H e U v n cs):ep (H++N) e U v n cs:=by
 obtain⟨a,cap,o,aa,aA,bo⟩:=h
 refine⟨a,cap,o,aa,aA,fun ad=>?_⟩
 obtain⟨b,i,X,all,a1,a3,bG⟩:=bo ad
 exact⟨b,i,X,all,a1,by rw[List.getElem?_append_left (cK.1 a3).1];exact a3,bG⟩
instance{α:Type}{e U:Nat}{aC:Bool}{af:ab->Value->α->Prop}[j_ af]:j_ (Row e U aC af):=⟨fun⟨cs,o,aa⟩=>⟨cs,o.app,fun i x ae=>j_.app (aa i x ae)⟩⟩
instance:j_ IR:=⟨fun h=>h⟩
def tL(aC:Bool)(cs:List Value):Value:=if aC=true then .agg cs.toArray else cs[0]?.getD undef
def lv(H:Type)(enc:TypeId×Value->H)(w:World)(t:TypeId)(cs:List Value):Prop:=∃fuel x,DataW.trod enc prog w 0 (fun _=>true) true fuel t cs=some x
def nH(w:World)(ah:bd)(H:ab):Prop:=ck prog w.heap.size ah H w/\∀b,¬hA H b
def gl{α:Type}(w:World)(rd:List Value->Prop)(aC:Bool)(af:ab->Value->α->Prop):Prop:=
 ∀cs,rd cs->∀ah H,nH w ah H->∃bs N I4 x,nH w bs (H++N)/\(∀b k,ah b=some k->bs b=some k)/\cB bs I4 cs/\af (H++N) (tL aC I4) x
theorem cB.one{ah:bd}{v au:Value}(h:bl ah v au):cB ah [v] [au]:=⟨rfl,fun i x y J aL=>by
 match i with
 | 0=>simp at J aL;subst J aL;exact h
 | n+1=>simp at J⟩
theorem gl.flat{α:Type}{w:World}{rd:List Value->Prop}{af:ab->Value->α->Prop}(h:∀cs,rd cs->∃v au x,cs=[au]/\(∀ah,bl ah v au)/\∀H,af H v x):gl w rd false af:=fun cs ad ah H dk=>by
 obtain⟨v,au,x,rfl,o,aa⟩:=h cs ad
 exact⟨ah,[],[v],x,by simpa using dk,fun _ _ h=>h,cB.one (o ah),aa _⟩
theorem gl.int{w:World}{H:Type}{enc:TypeId×Value->H}:gl w (lv H enc w 3) false IR:=gl.flat fun cs ⟨fuel,x,h⟩=>by
 obtain⟨n,rfl,-⟩:=DataW.trod_int (k:= .i64) (by rfl) h
 exact⟨_,_,n,rfl,fun ah=> .int _ _,fun H=>rfl⟩
theorem gl.many{α:Type}{w:World}{rd:List Value->Prop}{aC:Bool}{af:ab->Value->α->Prop}[j_ af](h:gl w rd aC af):∀(L:List (List Value)),(∀cs∈L,rd cs)->∀ah H,nH w ah H->
  ∃(bs:bd) (N:ab) (M:List (List Value)) (xs:List α),nH w bs (H++N)/\(∀b k,ah b=some k->bs b=some k)/\M.length=L.length/\xs.length=L.length/\∀(i:Nat) (c:List Value),L[i]?=some c->∃cm x,M[i]?=some cm/\xs[i]?=some x/\cB bs cm c/\af (H++N) (tL aC cm) x
 | [],_,ah,H,dk=>⟨ah,[],[],[],by simpa using dk,fun _ _ h=>h,rfl,rfl,fun i c h=>by simp at h⟩
 | a::L,e1,ah,H,dk=>by
  obtain⟨bs,vL,cm,yE,dm,fZ,eM,gC⟩:=h a (e1 a (by simp)) ah H dk
  obtain⟨lo,vM,M,xs,a1,a3,bG,cn,e5⟩:=gl.many h L (fun c ad=>e1 c (by simp[ad])) bs (H++vL) dm
  refine⟨lo,vL++vM,cm::M,yE::xs,by rw[<-List.append_assoc];exact a1,fun b k ag=>a3 b k (fZ b k ag),by simp[bG],by simp[cn],fun i c ad=>?_⟩
  match i with
  | 0=>
   simp at ad
   subst ad
   exact⟨cm,yE,rfl,rfl,cB.ext a3 eM,by rw[<-List.append_assoc];exact j_.app gC⟩
  | n+1=>
   obtain⟨cF,qk,ed,fA,hV,lj⟩:=e5 n c (by simpa using ad)
   exact⟨cF,qk,by simpa using ed,by simpa using fA,hV,by rw[<-List.append_assoc];exact lj⟩
theorem nH.snoc{w:World}{ah:bd}{H:ab}(h:nH w ah H){e:TypeId}{inf:TypeInfo}{b R:Nat}{cs eA:List Value}(ae:(prog).info? e=some inf)(ag:b<w.heap.size)(dk:cB ah cs eA)
  (Dk:∀i v,eA[i]?=some v->w.cell? ⟨b,R+i,none⟩=some v):
  ∃bs,nH w bs (H++[.ro e cs])/\(∀c k,ah c=some k->bs c=some k)/\bs H.length=some ⟨b,R,0,inf.size,false⟩:=by
 obtain⟨bE,iO⟩:=h
 have a6:∀c k,ah c=some k->c<H.length:=fun c k ad=>(bE.eK c k ad).2
 have m1:∀c k,ah c=some k->(fun c=>if c=H.length then some (⟨b,R,0,inf.size,false⟩:iC)else ah c) c=some k:=fun c k ad=>by
  have:=a6 c k ad
  show(if c=H.length then _ else _)=_
  rw[if_neg (by omega)]
  exact ad
 have Lk:∀c,¬hA (H++[.ro e cs]) c:=by
  rintro c ⟨cP,l,eA,h⟩
  rcases Nat.lt_or_ge c H.length with ad | ad
  ·rw[List.getElem?_append_left ad]at h
   exact iO c ⟨cP,l,eA,h⟩
  ·rw[List.getElem?_append_right ad]at h
   match av:c-H.length with
   | 0=>rw[av]at h;simp at h
   | n+1=>rw[av]at h;simp at h
 refine⟨fun c=>if c=H.length then some ⟨b,R,0,inf.size,false⟩else ah c,⟨⟨by simp,Nat.le_refl _,fun c k ad=>?_,fun c k y ad aL=>?_,fun c dR k b5 _ _ _ aK=>absurd aK (Lk c)⟩,Lk⟩,m1,by simp⟩
 ·have aY:=bE.pos
  split at ad
  ·next av=>subst av;simp;exact aY
  ·have:=bE.eK c k ad
   simp
   omega
 ·split at ad
  ·next av=>
   subst av
   obtain rfl:=Option.some.inj ad
   rw[List.getElem?_append_right (Nat.le_refl _),Nat.sub_self]at aL
   obtain rfl:=Option.some.inj aL
   refine .ro ae rfl (fun i v an=>?_) ag
   have cA:=(cK.1 an).1
   have dJ:=bJ (l:=eA) (i:=i) (by rw[<-dk.1];exact cA)
   exact⟨_,Dk i _ dJ,(dk.2 i _ _ an dJ).ext m1⟩
  ·have:=a6 c k ad
   rw[List.getElem?_append_left this]at aL
   exact(bE.e0 c k y ad aL).gu m1 (fun _=>rfl) (Nat.le_refl _)
theorem Qh{w:World}{a:Addr}{v:Value}(h:w.cell? a=some v):a.block<w.heap.size:=by
 rcases Nat.lt_or_ge a.block w.heap.size with o | o
 ·exact o
 ·unfold World.cell? at h
  rw[Array.getElem?_eq_none o]at h
  simp at h
theorem Qj{w:World}{x:Addr}{n:Nat}{cs:List Value}(aG:0<n)(ar:cs.length=n)(h:∀i v,cs[i]?=some v->w.cell? (x.add i)=some v):x.spot=none/\x.block<w.heap.size/\∀i v,cs[i]?=some v->w.cell? ⟨x.block,x.off+i,none⟩=some v:=by
 have aH:=h 0 _ (bJ (by omega))
 have hh:x.add 0=x:=by simp[Addr.add]
 rw[hh]at aH
 have sO:=World.cell?_spot aH
 refine⟨sO,Qh aH,fun i v ae=>?_⟩
 have:=h i v ae
 obtain⟨b,R,s⟩:=x
 simp only at sO
 subst sO
 by_cases zZ:i=0
 ·subst zZ;simpa[Addr.add]using this
 ·simpa[Addr.add,zZ]using this
theorem sc{L:List (List Value)}{n:Nat}(h:∀c∈L,c.length=n):L.flatten.length=L.length*n:=by
 induction L with
 | nil=>simp
 | cons a L a2=>
  rw[List.flatten_cons,List.length_append,a2 fun c ad=>h c (by simp[ad]),h a (by simp),List.length_cons,Nat.succ_mul,Nat.add_comm]
theorem Jz{L:List (List Value)}{n:Nat}(h:∀c∈L,c.length=n){i:Nat}{c:List Value}(ae:L[i]?=some c):(L.flatten.drop (i*n)).take n=c:=by
 induction L generalizing i with
 | nil=>simp at ae
 | cons a L a2=>
  have aO:=h a (by simp)
  match i with
  | 0=>
   simp at ae
   subst ae
   rw[List.flatten_cons,Nat.zero_mul,List.drop_zero,List.take_append_of_le_length (by omega),List.take_of_length_le (by omega)]
  | m+1=>
   rw[List.flatten_cons,show(m+1)*n=a.length+m*n by rw[aO,Nat.succ_mul,Nat.add_comm],List.drop_append,List.drop_of_length_le (by omega),List.nil_append,Nat.add_sub_cancel_left]
   exact a2 (fun c ad=>h c (by simp[ad])) (by simpa using ae)
theorem Cv{L:List (List Value)}{n:Nat}(h:∀c∈L,c.length=n){q:Nat}{v:Value}(an:L.flatten[q]?=some v):∃i j c,L[i]?=some c/\c[j]?=some v/\j<n/\q=i*n+j:=by
 have av:=(cK.1 an).1
 rw[sc h]at av
 have aG:0<n:=by exact Nat.pos_of_ne_zero fun aH=>by subst aH;simp at av
 have ae:q/n<L.length:=(Nat.div_lt_iff_lt_mul aG).2 av
 have aX:=Nat.mod_lt q aG
 have xp:q=(q/n)*n+q % n:=by rw[Nat.mul_comm];exact(Nat.div_add_mod q n).symm
 have dk:=bJ ae
 refine⟨q/n,q % n,_,dk,?_,aX,xp⟩
 have:=Jz h dk
 rw[<-this,List.getElem?_take_of_lt aX,List.getElem?_drop,<-xp]
 exact an
theorem Addr.add_add(a:Addr)(i j:Nat):(a.add i).add j=a.add (i+j):=Go.Deep.add_add a i j
theorem gl.slice{α:Type}{w:World}{vJ:Type}{enc:TypeId×Value->vJ}{t e:TypeId}{U:Nat}{aC:Bool}{af:ab->Value->α->Prop}[j_ af]{inf:TypeInfo}(bM:(prog).underlying t=some (.slice e))(df:(prog).cellsOf e=U)(o:aC=true\/U=1)(aH:0<U)
  (ae:(prog).info? e=some inf)(ao:inf.size=U)(h:gl w (lv vJ enc w e) aC af):gl w (lv vJ enc w t) false (Row e U aC af):=by
 rintro cs ⟨fuel,x,J⟩ ah H dk
 rcases Go.Deep.open_slice bM J with⟨rfl,_⟩ | ⟨a,len,cap,m,n,D,ae4,rfl,_,ar,hm,UD,_,Ds⟩
 ·exact⟨ah,[],[.slice none 0 0],[],by simpa using dk,fun _ _ h=>h,cB.one .rn,Row.nil _ _ _ _ _⟩
 ·have ahx:m=cap:=by simpa using UD
  by_cases aM:len=0
  ·subst aM
   have ag:=dk.1.pos
   exact⟨ah,[],[.slice (some ⟨1,0,none⟩) 0 0],[],by simpa using dk,fun _ _ h=>h,cB.one (.empty (by decide) _ _),[],ep.void _ _ _ _,fun i x h=>by simp at h⟩
  ·obtain⟨g,aU⟩:=Go.Deep.choose_lt (α:=List Value) (n:=len) (p:=fun i c=>w.cells? 0 (a.add (i*U)) U=some c/\lv vJ enc w e c) fun i ae=>by
    obtain⟨c,a1,a3⟩:=Ds i (by omega)
    rw[df]at a1
    exact⟨c,a1,_,_,a3⟩
   obtain⟨L,Kb⟩:∃L,L=(List.range len).map g:=⟨_,rfl⟩
   have Ke:L.length=len:=by rw[Kb];simp
   have Kc:∀i c,L[i]?=some c->i<len/\c=g i:=fun i c ad=>by
    have cA:=(cK.1 ad).1
    rw[Kb,List.getElem?_map,List.getElem?_range (by omega)]at ad
    exact⟨by omega,(Option.some.inj ad).symm⟩
   have iq:∀c∈L,c.length=U/\lv vJ enc w e c:=fun c ad=>by
    obtain⟨i,ae⟩:=List.mem_iff_getElem?.1 ad
    obtain⟨a1,rfl⟩:=Kc i c ae
    obtain⟨ed,fA⟩:=aU i a1
    exact⟨(World.cells?_some ed).2.1,fA⟩
   obtain⟨bs,N,M,xs,dm,fZ,eM,gC,iv⟩:=gl.many h L (fun c ad=>(iq c ad).2) ah H dk
   have CS:∀i cm,M[i]?=some cm->∃c x,L[i]?=some c/\xs[i]?=some x/\cB bs cm c/\af (H++N) (tL aC cm) x:=fun i cm ad=>by
    have cA:=(cK.1 ad).1
    have Kd:=bJ (l:=L) (i:=i) (by omega)
    obtain⟨cF,qk,ed,fA,hV,lj⟩:=iv i _ Kd
    rw[ad]at ed
    obtain rfl:=Option.some.inj ed
    exact⟨_,qk,Kd,fA,hV,lj⟩
   have ua:∀c∈M,c.length=U:=fun c ad=>by
    obtain⟨i,ae⟩:=List.mem_iff_getElem?.1 ad
    obtain⟨cF,qk,ed,fA,hV,-⟩:=CS i c ae
    rw[hV.1]
    exact(iq cF (List.mem_of_getElem? ed)).1
   have zA:∀c∈L,c.length=U:=fun c ad=>(iq c ad).1
   have CQ:cB bs M.flatten L.flatten:=by
    refine⟨by rw[sc ua,sc zA,eM],fun q v au an dJ=>?_⟩
    obtain⟨i,j,c,a1,a3,bG,cn⟩:=Cv ua an
    obtain⟨jE,ea,dR,A7,Zh,Zi,Zj⟩:=Cv zA dJ
    have Dz:i=jE:=by
     have bk:(i*U+j)/U=i:=by rw[Nat.mul_comm,Nat.mul_add_div aH,Nat.div_eq_of_lt bG];rfl
     have bg:(jE*U+ea)/U=jE:=by rw[Nat.mul_comm,Nat.mul_add_div aH,Nat.div_eq_of_lt Zi];rfl
     rw[<-bk,<-bg,<-cn,<-Zj]
    subst Dz
    obtain rfl:j=ea:=by omega
    obtain⟨cF,qk,ed,fA,hV,-⟩:=CS i c a1
    rw[A7]at ed
    obtain rfl:=Option.some.inj ed
    exact hV.2 j v au a3 Zh
   have iM:∀q v,L.flatten[q]?=some v->w.cell? (a.add q)=some v:=fun q v an=>by
    obtain⟨i,j,c,a1,a3,bG,rfl⟩:=Cv zA an
    obtain⟨ed,rfl⟩:=Kc i c a1
    have fA:=(World.cells?_some (aU i ed).1).2.2 j bG
    rw[Addr.add_add]at fA
    rw[fA,a3]
   have Dv:L.flatten.length=len*U:=by rw[sc zA,Ke]
   obtain⟨sO,nZ,gb⟩:=Qj (x:=a) (n:=len*U) (Nat.mul_pos (by omega) aH) Dv iM
   obtain⟨lo,s1,s2,lU⟩:=dm.snoc (e:=e) ae nZ CQ gb
   obtain⟨ae9,afi,afq⟩:=a
   simp only at sO
   subst sO
   have Ti:=bl.slice (i:=0) (len:=len) (cap:=cap) (dC:=cap) lU (by omega) ar (Nat.le_refl _) (fun _=>rfl) (fun h=>by cases h)
   refine⟨lo,N++[.ro e M.flatten],[.slice (some ⟨(H++N).length,0,none⟩) len cap],xs,by rw[<-List.append_assoc];exact s1,fun b k ag=>s2 b k (fZ b k ag),cB.one (by simpa using Ti),?_⟩
   rw[<-List.append_assoc]
   refine⟨M.flatten,⟨_,cap,by simp[tL,gC,Ke],by omega,by rw[sc ua,eM,gC],fun _=>⟨_,0,_,_,rfl,List.getElem?_concat_length,rfl,rfl,?_,?_⟩⟩,fun i y aL=>?_⟩
   ·rw[sc ua,eM,gC];omega
   ·rw[List.drop_zero,List.take_of_length_le (by rw[sc ua,eM,gC];omega)]
   ·have cA:=(cK.1 aL).1
    have Kg:=bJ (l:=M) (i:=i) (by omega)
    obtain⟨cF,qk,ed,fA,hV,lj⟩:=CS i _ Kg
    rw[aL]at fA
    obtain rfl:=Option.some.inj fA
    have bk:et aC U M.flatten i=tL aC M[i]:=by
     have n3:=Jz ua Kg
     unfold et tL
     rcases o with rfl | rfl
     ·rw[if_pos rfl,if_pos rfl,n3]
     ·cases aC with
      | true=>rw[if_pos rfl,if_pos rfl,n3]
      | false=>
       rw[if_neg (by decide),if_neg (by decide),<-n3,List.getElem?_take_of_lt (by decide),List.getElem?_drop]
       simp
    rw[bk]
    exact j_.app lj
theorem nH.start{w:World}:nH w (fun _=>none) [.dead]:=
 ⟨⟨by simp,Nat.le_refl _,(fun b k h=>by cases h),(fun b k x h=>by cases h),fun b cu k b5 h=>by cases h⟩,by
  rintro b ⟨e,l,cs,h⟩
  match b with
  | 0=>simp at h
  | n+1=>simp at h⟩
theorem Step.below{ah bs:bd}{H H1:ab}{w a7:World}(h:Step ah H w bs H1 a7)(iO:∀b,¬hA H b):Below w.heap.size w a7:=
 ⟨h.os,h.tape,h.output,h.size,fun g aU=>h.frame g aU fun b k _ aK=>absurd aK (iO b)⟩
theorem YC:(prog).follows .mixedOrders=true:=by kernel_rfl
theorem gl.pair{α β:Type}{w:World}{H:Type}{enc:TypeId×Value->H}{t t0 t1:TypeId}{BZ:ab->Value->α->Prop}{fi:ab->Value->β->Prop}[j_ BZ](hu:∃f0 f1,(prog).underlying t=some (.struct #[f0,f1])/\f0.offset=0/\f1.offset=1/\f0.type=t0/\f1.type=t1)
  (r8:(prog).cellsOf t0=1)(cm:(prog).cellsOf t1=1)(l7:(prog).cellsOf t=2)(A:gl w (lv H enc w t0) false BZ)(B:gl w (lv H enc w t1) false fi):
  gl w (lv H enc w t) true (fun G v (p:α×β)=>∃a b,v= .agg #[a,b]/\BZ G a p.1/\fi G b p.2):=by
 rintro cs ⟨fuel,x,h⟩ ah G dk
 obtain⟨f0,f1,hu,YO,YP,rfl,rfl⟩:=hu
 obtain⟨xs,k,aj,xM,fP,jj,ay⟩:=DataW.trod_struct hu h
 have cq:=ay 0 _ rfl
 have cj:=ay 1 _ rfl
 rw[l7]at fP
 match cs,fP,xs,jj with
 | [fg,mF],_,[akh,aki],_=>
  simp[YO,r8]at cq
  simp[YP,cm]at cj
  obtain⟨bs,vL,yg,a,dm,fZ,eM,gC⟩:=A [fg] ⟨_,_,cq⟩ ah G dk
  obtain⟨lo,vM,s1,b,a1,a3,bG,cn⟩:=B [mF] ⟨_,_,cj⟩ bs _ dm
  match yg,eM,s1,bG with
  | [v0],eM,[v1],bG=>
   refine⟨lo,vL++vM,[v0,v1],(a,b),by rw[<-List.append_assoc];exact a1,fun b k ag=>a3 b k (fZ b k ag),(cB.ext a3 eM).append bG,?_⟩
   rw[<-List.append_assoc]
   exact⟨v0,v1,rfl,j_.app gC,cn⟩
  | [],eM,_,_=>exact absurd eM.1 (by simp)
  | _::_::_,eM,_,_=>exact absurd eM.1 (by simp)
  | [_],_,[],bG=>exact absurd bG.1 (by simp)
  | [_],_,_::_::_,bG=>exact absurd bG.1 (by simp)
def PI(H:ab)(v:Value)(l:List Nat):Prop:=v= .string (cf l)/\Bytes l
instance:j_ PI:=⟨fun h=>h⟩
def PH(H:ab)(v:Value)(p:List Nat×List Int):Prop:=e_ H v p/\Bytes p.1
instance:j_ PH:=⟨fun⟨⟨a,n,c,h,o⟩,ag⟩=>⟨⟨a,n,c,h,j_.app o⟩,ag⟩⟩
theorem Qg{f:FuncId}{args:List Value}{H:ab}{Q:Value->ab->Prop}(aG:(match dz prog (callFunc f args.toArray)with | some (.value _)=>true | _=>false)=false)(h:aP prog f args H Q):∃v H1,dX prog (.call f args H) (.val v H1)/\Q v H1:=by
 obtain⟨v,H1,⟨-,al⟩ | ⟨⟨-,-,al⟩,-⟩,av⟩:=h
 ·exact⟨v,H1,al,av⟩
 ·rw[al]at aG
  cases aG
theorem adp{w:World}{f:FuncId}{args kT:List Value}{ah:bd}{H:ab}(dk:nH w ah H)(bt:cB ah args kT)(aG:(match dz prog (callFunc f args.toArray)with | some (.value _)=>true | _=>false)=false)
  (h:aP prog f args H fun v H1=>Ext H H1/\v= .bool true):Calls prog f kT.toArray w fun e gx=>e= .returned (.bool true)/\Below w.heap.size w gx:=by
 obtain⟨u,H1,br,J,rfl⟩:=Qg aG h
 refine(ZI YC br (kT:=kT.toArray) (by simpa using bt) dk.1).mono fun e gx he=>?_
 obtain⟨au,bs,rfl,an,-,c8⟩:=he
 cases an
 exact⟨rfl,c8.below dk.2⟩
theorem cB.single{ah:bd}{l:List Value}{v:Value}(h:cB ah l [v]):∃u,l=[u]:=by
 match l,h.1 with
 | [u],_=>exact⟨u,rfl⟩
end Go.cJ
end
section
set_option maxRecDepth 8000
set_option maxHeartbeats 1000000
namespace Go.cJ
open Go.Proofs
open Go.Proofs.Tryz (prog)
attribute [-simp] hq hX jG
theorem RI{v n:Int}{H:ab}(aG:0<n)(m5:n<1000000):aP prog 55 [.int .i64 v,.int .i64 n] H (fun u H1=>H1=H/\u= .int .i64 (v % n)):=by
 refine aP.b9 fun Q aE=>?_
 apply WU (by simp)
 have jC:¬n=0:=by omega
 have o:=Int.tmod_lt_of_pos v aG
 have aa: -n<v.tmod n:=by
  have:=Int.tmod_lt_of_pos (-v) aG
  rw[Int.neg_tmod]at this
  omega
 have aA:IntKind.i64.wrap (v.tmod n+n)=v.tmod n+n:=b6 (by omega) (by omega)
 have bo:(v.tmod n+n).tmod n=v % n:=by
  rw[Int.tmod_eq_emod_of_nonneg (by omega),Int.add_emod_right]
  have bK:=Int.mul_tdiv_add_tmod v n
  have dM:v.tmod n=v-n*v.tdiv n:=by omega
  rw[dM,Int.sub_mul_emod_self_left]
 simp[HF,jC,aA,bo,bf]
 exact aE _ _ ⟨rfl,rfl⟩
def ni(l:List Int)(n m:Nat)(w:Int):List (List Int):=(List.range n).map fun i=>(List.range m).map fun k=>match l[i*m+k]? with
 | some x=>x % w
 | none=>0
theorem MW{v:Value}{l:List Int}{a b:Nat}{w:Int}{H:ab}(eu:dV H v l)(aO:a<256)(ag:b<256)(hw:0<=w)(mx:w<10000):
  aP prog 24 [v,.int .u8 a,.int .u8 b,.int .i64 w] H (fun u H1=>Ext H H1/\ih H1 u (ni l (a % 8+1) (b % 8+1) (w+1))):=by
 refine aP.b9 fun Q aE=>?_
 obtain⟨n,aG⟩:∃n,n=a % 8+1:=⟨_,rfl⟩
 obtain⟨m,hm⟩:∃m,m=b % 8+1:=⟨_,rfl⟩
 rw[<-aG,<-hm]at aE
 obtain⟨vj,Vc⟩:∃r,r=a % 8:=⟨_,rfl⟩
 obtain⟨NP,Vd⟩:∃r,r=b % 8:=⟨_,rfl⟩
 have bY:IntKind.i64.wrap (a:Int)=a:=b6 (by omega) (by omega)
 have cC:(a:Int).tmod 8=(vj:Int):=by rw[Vc];exact(Int.ofNat_tmod a 8).symm
 have eC:IntKind.i64.wrap ((vj:Int)+1)=(n:Int):=by rw[b6 (by omega) (by omega)];omega
 have gH:IntKind.i64.wrap (b:Int)=b:=b6 (by omega) (by omega)
 have kc:(b:Int).tmod 8=(NP:Int):=by rw[Vd];exact(Int.ofNat_tmod b 8).symm
 have r5:IntKind.i64.wrap ((NP:Int)+1)=(m:Int):=by rw[b6 (by omega) (by omega)];omega
 have a7:IntKind.i64.wrap (w+1)=w+1:=b6 (by omega) (by omega)
 have Lg:n<=8:=by omega
 have xe:m<=8:=by omega
 apply WW (by simp)
 simp only[HH]
 refine cc.lV fun dr fN=>?_
 simp
 refine fN _ _ _ ?_
 clear fN
 refine cc.lV fun dr fN=>?_
 simp[bY,cC,eC,gH,kc,r5]
 refine fN _ _ _ ?_
 clear fN
 refine cc.lV fun dr fN=>?_
 simp
 refine pc (e:=34) (U:=1) (by simp) (by simp) ?_
 simp
 refine fN _ _ _ ?_
 clear fN
 obtain⟨cell,iM⟩:∃cell:Nat->Nat->Int,cell=fun i k=>match l[i*m+k]? with
  | some x=>x % (w+1)
  | none=>0:=⟨_,rfl⟩
 have Uz:ni l n m (w+1)=(List.range n).map fun i=>(List.range m).map (cell i):=by rw[iM];rfl
 rw[Uz]at aE
 refine cc.lV fun dr fN=>?_
 simp
 refine dF.mk (by kernel_rfl) (fun q az bD H1=>∃i:Nat,q=n-i/\i<=n/\az 12= .int .i64 (i:Int)/\Ext H H1/\bB H.length 34 1 false dV H1 (az 11) ((List.range i).map fun i=>(List.range m).map (cell i))) n ⟨0,by omega,by omega,by simp,Ext.refl _,by simpa using bB.void _ _ _ _ _ _ _⟩ ?_
 rintro q az bD H1 ⟨i,rfl,ae,iI,bx,cy⟩ K a0
 simp at iI cy
 have Sf:=b7.ext (af:=dV) eu bx
 have jZ:=yD (show i<4611686018427387904 by omega)
 simp[iI]
 refine bH.mk (fun a6=>?_) (fun a6=>?_)
 ·simp at a6
  refine pc (e:=3) (U:=1) (by simp) (by simp) ?_
  simp
  have K5:=Ext.len bx
  refine dF.mk (by kernel_rfl) (fun q bU dp aR=>∃k:Nat,q=m-k/\k<=m/\bU 14= .int .i64 (k:Int)/\Ext H1 aR/\bB H1.length 3 1 false IR aR (bU 13) ((List.range k).map (cell i))) m ⟨0,by omega,by omega,by simp,Ext.refl _,by simpa using bB.void _ _ _ _ _ _ _⟩ ?_
  rintro q bU dp aR ⟨k,rfl,aj,wo,bm,fI⟩ cT dT
  simp at wo fI
  have rf:=yD (show k<4611686018427387904 by omega)
  have zy:=b7.ext (af:=dV) Sf bm
  have oV:i*m<=7*8:=Nat.mul_le_mul (by omega) xe
  refine Exists.elim (⟨_,rfl⟩:∃y,y=i*m) fun y aL=>?_
  have bk:IntKind.i64.wrap ((i:Int)*(m:Int))=(y:Int):=by
   have:(i:Int)*(m:Int)=(y:Int):=by rw[aL];simp
   rw[this,b6 (by omega) (by omega)]
  have bg:IntKind.i64.wrap ((y:Int)+(k:Int))=((y+k:Nat):Int):=by rw[b6 (by omega) (by omega)];omega
  simp[wo,iI]
  refine bH.mk (fun pP=>?_) (fun pP=>?_)
  ·simp at pP
   simp
   refine cc.join (by kernel_rfl) (fun dh ey bP=>bP=aR/\dh 15= .int .i64 (cell i k)) ?_ ?_
   ·rintro nG fX-
    simp[wo,iI,bk,bg]
    refine c9 (af:=IR) (xs:=l) (by simpa using zy) (by simp) ?_
    by_cases hlen:y+k<l.length
    ·have J:=bJ hlen
     refine Exists.elim (⟨_,J⟩:∃x,l[y+k]?=some x) fun x J=>?_
     have sD:(y:Int)+(k:Int)<(l.length:Int):=by omega
     simp[hlen,sD,wo,iI,bk,bg]
     refine dc (af:=IR) (xs:=l) (n:=y+k) (a:=x) (e:=3) (U:=1) (aC:=false) (by simpa using zy) (by simp) J (by simp) (by simp) (by simp) (by decide) ?_
     rintro iv mG uV
     obtain rfl:mG= .int .i64 x:=uV
     simp[a7]
     refine aV.mk (RI (by omega) (by omega)) ?_
     rintro _ _ ⟨rfl,rfl⟩
     simp
     refine fX _ _ _ ⟨rfl,?_⟩
     rw[iM]
     simp[<-aL,J]
    ·have sD:¬(y:Int)+(k:Int)<(l.length:Int):=by omega
     simp[hlen,sD]
     refine fX _ _ _ ⟨rfl,?_⟩
     rw[iM]
     simp[<-aL,List.getElem?_eq_none (show l.length<=y+k by omega)]
   rintro dh ey bP ⟨rfl,CC⟩
   simp only[jn]at CC
   simp at CC
   simp[CC]
   refine qh (k:=H1.length) (e:=3) (U:=1) (aC:=false) (bA:=8) (z:= .int .i64 0) (af:=IR) (xs:=(List.range k).map (cell i)) (a:=cell i k) (by simpa using fI) (by simp[IR]) (by simpa using j8 _) (by simp) (fun aF dv u y aj h=>h) (by simp) (by simp) (by simp) (by simp) (by simp) (by rfl) (by rfl) (by rfl) (by rfl) (by decide) (by decide) (by decide) (by simp;omega) (by have:=Ext.len bm;omega) ?_
   intro nn v6 dQ jx cL sC
   simp[wo,rf]
   refine dT (m-(k+1)) _ _ _ (by omega) ⟨k+1,rfl,by omega,by simp,cL _ (Nat.le_refl _) bm,?_⟩
   rw[List.range_succ,List.map_append]
   simpa using jx
  ·simp at pP
   obtain rfl:k=m:=by omega
   have gI:=fI.row
   have hi:=b7.ext (af:=bB _ _ _ _ dV) cy bm
   simp
   refine qh (k:=H.length) (e:=34) (U:=1) (aC:=false) (bA:=24) (z:= .slice none 0 0) (af:=dV) (xs:=(List.range i).map fun i=>(List.range k).map (cell i)) (a:=(List.range k).map (cell i)) (by simpa using hi) (by simpa using gI) (by simpa using dV.whole gI) (by simp) (fun aF dv u y aj h=>h.kept aj (by decide)) (by simp) (by simp) (by simp) (by simp) (by simp) (by rfl) (by rfl) (by rfl) (by rfl) (by decide) (by decide) (by decide) (by simp;omega) (by have:=Ext.len bm;omega) ?_
   intro p_ vx cS h2 cD k6
   simp[iI,jZ]
   refine a0 (n-(i+1)) _ _ _ (by omega) ⟨i+1,rfl,by omega,by simp,cD _ (Nat.le_refl _) (bx.aw bm),?_⟩
   rw[List.range_succ,List.map_append]
   simpa using h2
 ·simp at a6
  obtain rfl:i=n:=by omega
  refine fN _ _ _ ?_
  simp[bf]
  exact aE _ _ ⟨bx,cy.row⟩
end Go.cJ
end
section
set_option maxRecDepth 8000
set_option maxHeartbeats 1000000
namespace Go.cJ
theorem EO{l:List Int}{n m:Nat}{w:Int}:(ni l n m w).length=n:=by simp[ni]
theorem EP{l:List Int}{n m:Nat}{w:Int}(aG:0<n):((ni l n m w)[0]?.getD []).length=m:=by
 unfold ni
 rw[List.getElem?_map,List.getElem?_range aG]
 simp
theorem MX{l:List Int}{n m:Nat}{w:Int}(aH:0<w)(hw:w<=1001)(aG:1<=n)(Lg:n<=8)(hm:1<=m)(xe:m<=8):gV (ni l n m w)/\∀r∈ni l n m w,∀x∈r,0<=x/\x<w:=by
 have key:∀r∈ni l n m w,r.length=m/\∀x∈r,0<=x/\x<w:=fun r al=>by
  unfold ni at al
  rw[List.mem_map]at al
  obtain⟨i,-,rfl⟩:=al
  refine⟨by simp,fun x J=>?_⟩
  rw[List.mem_map]at J
  obtain⟨k,-,rfl⟩:=J
  split
  ·exact⟨Int.emod_nonneg _ (by omega),Int.emod_lt_of_pos _ aH⟩
  ·omega
 refine⟨F6.2 ⟨by rw[EO];omega,fun r al=>?_⟩,fun r al=>(key r al).2⟩
 rw[EP aG,(key r al).1]
 exact⟨⟨rfl,hm,xe⟩,fun x J=>by have:=(key r al).2 x J;omega⟩
theorem gV.get{t:List (List Int)}(an:gV t){i k:Nat}(ae:i<t.length)(aj:k<(t[0]?.getD []).length):∃r x,t[i]?=some r/\r∈t/\r[k]?=some x/\x∈r/\oK t i k=x/\0<=x/\x<=1000:=by
 have al:=bJ ae
 have hm:=List.getElem_mem ae
 have ar:=an.len _ hm
 have J:=bJ (l:=t[i]) (i:=k) (by omega)
 have Mr:=List.getElem_mem (l:=t[i]) (n:=k) (by omega)
 refine⟨_,_,al,hm,J,Mr,?_,((F6.1 an).2 _ hm).2 _ Mr⟩
 unfold oK
 rw[al]
 simp[J]
end Go.cJ
end
section
set_option maxRecDepth 8000
set_option maxHeartbeats 1000000
namespace Go.cJ
open Go.Proofs
open Go.Proofs.Tryz (prog)
attribute [-simp] hq hX jG
attribute [-simp] pr
end Go.cJ
end
section
set_option maxRecDepth 8000
set_option maxHeartbeats 1000000
namespace Go.cJ
open Go.Proofs
open Go.Proofs.Tryz (prog)
open Go.RowKit
def yV(H:ab)(v:Value)(a:Nat):Prop:=v= .int .u8 a/\a<256
instance:j_ yV:=⟨fun h=>h⟩
theorem gl.u8{w:World}{H:Type}{enc:TypeId×Value->H}:gl w (lv H enc w 5) false yV:=gl.flat fun cs ⟨fuel,x,h⟩=>by
 obtain⟨n,rfl,-,hw⟩:=DataW.trod_int (k:= .u8) (by rfl) h
 have ag:0<=n/\n<256:=by
  simp[Lit.wf,IntKind.min,IntKind.max,IntKind.signed,IntKind.bits]at hw
  omega
 obtain⟨a,rfl⟩:∃a:Nat,n=a:=⟨n.toNat,by omega⟩
 exact⟨_,_,a,rfl,fun ah=> .int _ _,fun H=>⟨rfl,by omega⟩⟩
theorem gl.row{w:World}{H:Type}{enc:TypeId×Value->H}:gl w (lv H enc w 34) false dV:=
 gl.slice (by rfl) (by rfl) (.inr rfl) (by decide) (by rfl) (by rfl) gl.int
end Go.cJ
end
