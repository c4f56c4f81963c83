/- Part of the proof of ShopTurned. -/
import Derived.Test.YtoiodfcefbapkaaGreatShopTurnedF
set_option linter.unusedVariables false
set_option linter.unusedSimpArgs false
section
set_option maxRecDepth 8000
set_option maxHeartbeats 1000000
namespace Go.cW
open Go.Proofs
open Go.Proofs.Tryz (prog)
attribute [-simp] hF iq ka
theorem Gr(l:List Nat)(k:Nat):val l=val (l.take k)+4294967296^(min k l.length)*val (l.drop k):=by
 conv=>lhs;rw[<-List.take_append_drop k l,nB]
 rw[List.length_take]
theorem gf.whole{H:ab}{u:Value}{y:Nat}(h:gf H u y):Whole prog 124 u:=h.1▸yV _
theorem NP{v w:Value}{a b:List Nat}{H:ab}(bx:c6 H 124 v a)(oT:Trim a)(bE:c6 H 124 w b)(k8:Trim b)(m2:0<b.length)(kq:a.length<1048570)(jG:b.length<1048570):
  aP prog 117 [v,w] H (fun u H1=>Ext H H1/\∃q r l m,u= .tuple #[q,r]/\c6 H1 124 q l/\Trim l/\val l=val a/val b/\c6 H1 124 r m/\Trim m/\val m=val a % val b):=by
 refine aP.b9 fun Q aD=>?_
 apply XJ (by simp)
 simp[Ia]
 refine aV.mk (CJ bx bE oT k8 (by omega) (by omega)) ?_
 rintro c H ⟨rfl,rfl⟩
 simp
 refine bt.b6 (fun ae=>?_) (fun ae=>?_)
 ·have a5:val a<val b:=by
   rcases Nat.lt_or_ge (val a) (val b)with h | h
   ·exact h
   ·rw[if_neg (by omega)]at ae;split at ae<;>omega
  try simp
  refine Gd (e:=124) (U:=1) (bI:=4) (k:=H.length) (z:= .int .u32 0) (aC:=false) (af:=gf) (xs:=[]) (bS:=a) (by simpa using bH.nil _ _ _ _ _ _) (by simpa using bx.row) (fun u y h=>h.whole) (fun _ _ _ _ _ h=>h) (by simp) (by simp) (by simp) (by simp) (.inr rfl) (by simp) (by simp) (by rfl) (by decide) (by simp;omega) (Nat.le_refl _) ?_
  rintro au aH cy J-
  simp[bd]
  refine aD _ _ ⟨J H (Nat.le_refl _) (Ext.refl _),_,_,[],a,rfl,⟨eo.nil _ _ _,by simp⟩,Trim.nil,?_,cy.row.us,oT,?_⟩
  ·rw[Nat.div_eq_of_lt a5];rfl
  ·rw[Nat.mod_eq_of_lt a5]
 ·have hy:val b<=val a:=by
   rcases Nat.lt_or_ge (val a) (val b)with h | h
   ·rw[if_pos h]at ae;omega
   ·exact h
  try simp
  refine cP (by simpa using bE.row) (by simp) ?_
  simp
  refine bt.b6 (fun jU=>?_) (fun jU=>?_)
  ·have gP:b.length=1:=by omega
   obtain⟨y,rfl⟩:=List.length_eq_one_iff.1 gP
   have vd:0<y:=by
    have:=k8
    simp[Trim]at this
    omega
   have o7:y<4294967296:=bE.2 y (by simp)
   try simp
   refine cY (af:=gf) (n:=0) (by simpa using bE.row) (by simp) (a:=y) (by simp) (by simp) (by simp) (by simp) (.inr rfl) ?_
   rintro p u ⟨rfl,-⟩
   simp
   refine aV.mk (Jd bx (by omega) vd o7) ?_
   rintro u aR ⟨J,q,l,rfl,av,uv,sT⟩
   simp
   have kJ:val a % y<4294967296:=Nat.lt_trans (Nat.mod_lt _ vd) o7
   obtain⟨r,al⟩:∃r,val a % y=r:=⟨_,rfl⟩
   rw[al]at kJ
   refine te (e:=124) (U:=1) (z:= .int .u32 0) (out:=[.int .u32 (r:Int)]) (by simp) (by simp) (by simp) (by rfl) (by rfl) (by omega) (by omega) (by omega) ?_ (by simp) ?_
   ·simp[jd,made,oy]
    rw[<-al]
    simp
   simp
   have ea:=c6.fresh aR 124 [r] 1 1 (Nat.le_refl _) rfl (by simpa using kJ) false
   refine aV.mk (l7 (l:=[r]) (by simpa using ea) (by simp)) ?_
   rintro u bP ⟨rfl,m,hm,w3,sU,-⟩
   simp[bd]
   refine aD _ _ ⟨J.snoc _ _ _,_,_,l,m,rfl,av.ext ((Ext.refl _).snoc _ _ _),uv,by rw[sT];simp[val],hm,w3,?_⟩
   rw[sU,<-al]
   simp[val]
  ·try simp
   obtain⟨m,gP⟩:∃m,b.length=m+2:=⟨b.length-2,by omega⟩
   refine cP (by simpa using bE.row) (by simp) ?_
   have lW:IntKind.i64.wrap ((m:Int)+2-1)=(m:Int)+1:=by rw[b7 (by omega) (by omega)];omega
   rw[gP]
   simp[lW]
   obtain⟨r4,uJ⟩:∃x,b[m+1]?.getD 0=x:=⟨_,rfl⟩
   have DO:b[m+1]?=some r4:=by rw[<-uJ,bB (by omega)];rfl
   have TY:r4<4294967296:=bE.2 r4 (List.mem_of_getElem? DO)
   have TX:0<r4:=by
    have:=k8
    rw[Trim,List.getLast?_eq_getElem?,gP,show m+2-1=m+1 by omega,DO]at this
    rcases Nat.eq_zero_or_pos r4 with q | q
    ·rw[q]at this;exact absurd rfl this
    ·exact q
   refine cY (af:=gf) (n:=m+1) (by simpa using bE.row) (by simp) DO (by simp) (by simp) (by simp) (.inr rfl) ?_
   rintro p u ⟨rfl,-⟩
   simp
   refine aV.mk (YU TY TX) ?_
   rintro u H ⟨rfl,s,rfl,Eo,uI⟩
   simp
   refine aV.mk (Po bE (by omega) Eo) ?_
   rintro aks aR ⟨bf,aiw,S2,ahX,U6⟩
   simp
   refine aV.mk (l7 S2.row.us (by omega)) ?_
   rintro akr aR ⟨rfl,aE,nY,uw,iR,-⟩
   simp
   rw[U6]at iR
   have KV:val b<4294967296^(m+1)*(r4+1)/\4294967296^(m+1)<=val b:=by
    have o:=ja b (m+1)
    rw[show b.take (m+1+1)=b from by rw[<-gP,List.take_length],uJ]at o
    have aa:=kb (l:=b.take (m+1)) fun x J=>bE.2 x (List.mem_of_mem_take J)
    rw[List.length_take,Nat.min_eq_left (by omega)]at aa
    have aB:=k8.le (by intro e;simp[e]at gP)
    rw[gP,show m+2-1=m+1 by omega]at aB
    refine⟨?_,aB⟩
    rw[o,Nat.mul_add]
    omega
   have xX:aE.length=m+2:=by
    have o:aE.length<=m+2:=by
     refine uw.length_le ?_
     rw[iR]
     have:4294967296^(m+1)*(r4+1)*2^s<=4294967296^(m+1)*4294967296:=by
      rw[Nat.mul_assoc]
      refine Nat.mul_le_mul_left _ ?_
      have e:(4294967296:Nat)=2^s*2^(32-s):=by rw[<-Nat.pow_add];rw[show s+(32-s)=32 by omega]
      rw[Nat.mul_comm,e]
      refine Nat.mul_le_mul_left _ ?_
      refine Nat.lt_of_mul_lt_mul_left (a:=2^s) ?_
      rw[<-e,Nat.mul_comm]
      exact uI
     rw[<-Nat.pow_succ]at this
     exact Nat.lt_of_lt_of_le (Nat.mul_lt_mul_of_pos_right KV.1 (Nat.pow_pos (by decide))) this
    have aa:m+2<=aE.length:=by
     rcases Nat.lt_or_ge aE.length (m+2)with h | h
     ·exfalso
      have aB:=kb nY.2
      rw[iR]at aB
      have bs:4294967296^aE.length<=4294967296^(m+1):=Nat.pow_le_pow_right (by decide) (by omega)
      have bJ:val b*1<=val b*2^s:=Nat.mul_le_mul_left _ (Nat.pow_pos (by decide))
      omega
     ·exact h
    omega
   have pX:aE[m+1]?.getD 0≠0:=by
    have:=uw
    rw[Trim,List.getLast?_eq_getElem?,xX,show m+2-1=m+1 by omega,bB (by omega)]at this
    rw[bB (by omega)]
    exact fun h=>this (by rw[<-h];rfl)
   refine aV.mk (Po (bx.ext bf) (by omega) Eo) ?_
   rintro akz b0 ⟨cj,us,zZ,aia,Mn⟩
   simp
   refine cP (by simpa using(nY.ext cj).row) (by simp) ?_
   rw[xX]
   simp
   refine cP (by simpa using(bx.ext (bf.aw cj)).row) (by simp) ?_
   have pK:b.length<=a.length:=by
    rcases Nat.lt_or_ge a.length b.length with h | h
    ·have:=k8.vl bx.2 h;omega
    ·exact h
   obtain⟨d,DJ⟩:∃d,a.length=d+(m+2):=⟨a.length-(m+2),by omega⟩
   have l2:IntKind.i64.wrap ((d:Int)+((m:Int)+2)-((m:Int)+2))=(d:Int):=by rw[b7 (by omega) (by omega)];omega
   have jq:IntKind.i64.wrap ((d:Int)+1)=(d:Int)+1:=b7 (by omega) (by omega)
   have iT:IntKind.i64.wrap (d:Int)=(d:Int):=b7 (by omega) (by omega)
   rw[DJ]
   simp[l2,jq,iT]
   refine rH (e:=124) (U:=1) (bI:=4) (n:=d+1) (aC:=false) (z:= .int .u32 0) (af:=gf) (a:=0) (e4:= .i64) (c9:= .i64) (by simp) (by simp) (by simp) (by simp) (by rfl) (by simp) GB (by simp) (by simp) (by omega) (by omega) (by omega) (fun aH=>⟨rfl,by decide⟩) ?_
   rintro adK b8 S3 cR-
   simp
   refine cP (by simpa using(bx.ext (bf.aw (cj.aw cR))).row) (by simp) ?_
   rw[DJ]
   simp[l2,iT]
   have Tu:=zZ.row.us.2
   obtain⟨cs,⟨gz,cy⟩,T1⟩:=zZ
   have gn:cs=fN us:=Pl gz fun _ i x ad=>T1 i x ad
   subst gn
   rcases cy with⟨aI,-⟩ | ⟨oN,R,cap,l,all,rfl,-,qT,DP,KN,bz,ey⟩
   ·omega
   rw[Nat.mul_one]at bz ey
   have uE:all=all.take R++(fN us++all.drop (R+us.length)):=by
    rw[ey,<-List.drop_drop,List.take_append_drop,List.take_append_drop]
   have AK:(all.take R).length=R:=by rw[List.length_take];omega
   generalize all.take R=pre at uE AK
   generalize all.drop (R+us.length)=post at uE
   subst uE
   have TG:=cR.get_some KN
   have uy:0<val aE:=by
    have:=uw.le (by intro e;simp[e]at xX)
    have aa:=Nat.pow_pos (n:=aE.length-1) (show 0<4294967296 by decide)
    omega
   have ahh:val aE<4294967296^(m+2):=by have:=kb nY.2;rwa[xX]at this
   have l1:val (us.drop (d+1))<val aE:=by
    have o:=Gr us (d+1)
    rw[Nat.min_eq_left (by omega)]at o
    have aa:=kb bx.2
    rw[DJ,show d+(m+2)=d+1+(m+1) by omega,Nat.pow_add]at aa
    have aB:4294967296^(d+1)*val (us.drop (d+1))<4294967296^(d+1)*(4294967296^(m+1)*2^s):=by
     have:val a*2^s<4294967296^(d+1)*4294967296^(m+1)*2^s:=Nat.mul_lt_mul_of_pos_right aa (Nat.pow_pos (by decide))
     rw[Nat.mul_assoc]at this
     omega
    have bs:=Nat.lt_of_mul_lt_mul_left aB
    have bJ:4294967296^(m+1)*2^s<=val b*2^s:=Nat.mul_le_mul_right _ KV.2
    omega
   refine dm.mk (by kernel_rfl) (fun k dt ez dN=>k<=d+1/\dt 13= .int .i64 ((k:Int)-1)/\Ext aR dN/\Ext H dN/\∃dK pc:List Nat,dN[oN]?=some (.own 124 l (pre++(fN dK++post)))/\dK.length=us.length/\(∀x∈dK,x<4294967296)/\bH b0.length 124 1 false gf dN adK pc/\pc.length=d+1/\
    val dK+val aE*(4294967296^k*val (pc.drop k))=val us/\val (dK.drop k)<val aE) (d+1) ?_ ?_
   ·refine⟨Nat.le_refl _,by simp,cj.aw cR,bf.aw (cj.aw cR),us,_,TG,rfl,Tu,S3,by simp,?_,l1⟩
    rw[List.drop_eq_nil_of_le (by simp),show val []=0 from rfl,Nat.mul_zero,Nat.mul_zero,Nat.add_zero]
   ·rintro k dt ez dN ⟨ak,oP,cI,MI,dK,pc,z8,VZ,u2,jA,q6,hinv,uP⟩ K aX
    simp at oP
    simp[oP]
    refine bt.b6 (fun a2=>?_) (fun a2=>?_)
    ·obtain⟨j,rfl⟩:∃j,k=j+1:=⟨k-1,by omega⟩
     have aW:((j+1:Nat):Int)-1=(j:Int):=by omega
     have m6:(j:Int)+1-1=(j:Int):=by omega
     have bm:IntKind.i64.wrap ((j:Int)+((m:Int)+2))=(j:Int)+((m:Int)+2):=b7 (by omega) (by omega)
     have bk:IntKind.i64.wrap ((j:Int)+((m:Int)+2)+1)=((j+m+3:Nat):Int):=by rw[b7 (by omega) (by omega)];omega
     have mW:IntKind.i64.wrap ((j:Int)-1)=(j:Int)-1:=b7 (by omega) (by omega)
     have fP:IntKind.i64.wrap (j:Int)=(j:Int):=b7 (by omega) (by omega)
     try simp
     simp[oP,aW,m6,bm,bk]
     have ahr:us.length<=cap:=qT
     refine OY (b:=oN) (i:=R) (len:=us.length) (cap:=cap) (l:=j) (h:=j+m+3) (e:=124) (U:=1) (by simp) z8 rfl (by simp) (by simp) (by simp[dM]) (by simp[e2];omega) (by omega) (by omega) (by omega) ?_
     simp
     obtain⟨nK,bc⟩:∃nK,(dK.drop j).take (m+3)=nK:=⟨_,rfl⟩
     obtain⟨af,bo⟩:∃af,(dK.drop j).drop (m+3)=af:=⟨_,rfl⟩
     have uv:nK.length=m+3:=by rw[<-bc];simp;omega
     have Tc:af.length=dK.length-(j+(m+3)):=by rw[<-bo];simp[Nat.sub_sub]
     have Et:dK=dK.take j++(nK++af):=by rw[<-bc,<-bo,List.take_append_drop,List.take_append_drop]
     have Tm:∀x∈nK,x<4294967296:=fun x J=>u2 x (by rw[Et];simp[J])
     have Td:∀x∈af,x<4294967296:=fun x J=>u2 x (by rw[Et];simp[J])
     have Md:(dK.take j).length=j:=by simp;omega
     have lU:val (dK.drop j)=val nK+4294967296^(m+3)*val af:=by
      have:dK.drop j=nK++af:=by rw[<-bc,<-bo,List.take_append_drop]
      rw[this,nB,uv]
     have K2:val (dK.drop j)<4294967296*val aE:=by
      rw[tn _ _ (by omega)]
      have:=wD (l:=dK) (by decide) u2 j
      omega
     have nW:val af=0:=by
      rcases Nat.eq_zero_or_pos (val af)with h | h
      ·exact h
      ·exfalso
       have o:4294967296^(m+3)*1<=4294967296^(m+3)*val af:=Nat.mul_le_mul_left _ h
       have aa:4294967296*val aE<=4294967296*4294967296^(m+2):=Nat.mul_le_mul_left _ (by omega)
       have aB:(4294967296:Nat)^(m+3)=4294967296*4294967296^(m+2):=by rw[Nat.pow_succ,Nat.mul_comm]
       omega
     rw[nW,Nat.mul_zero,Nat.add_zero]at lU
     have TC:dN[oN]?=some (.own 124 l ((pre++fN (dK.take j))++(fN nK++(fN af++post)))):=by
      rw[z8]
      congr 2
      conv=>lhs;rw[Et]
      simp[fN]
     have k3:j+m+3-j=m+3:=by omega
     rw[k3]
     refine aV.mk (QZ (m:=m) TC (by simp[fN,AK];omega) uv Tm (fun X aT=>nY.ext (cI.set DP aT)) xX (by omega) pX (by rw[<-lU];exact K2)) ?_
     rintro u cU ⟨⟨q,rfl,av⟩,rY,rfl,Tl,Tn,uw⟩
     have AN:q<4294967296:=by rw[av,Nat.div_lt_iff_lt_mul uy,<-lU];exact K2
     simp
     have TZ:oN<dN.length:=(cH.1 z8).1
     have KU:oN<b0.length:=(cH.1 KN).1
     refine kR (af:=gf) (n:=j) (k:=b0.length) (xs:=pc) (a:=q) (by simpa using jA.aap KU (fun u y h=>h)) (by simp) (by omega) ⟨by simp,AN⟩ (by simpa using yV _) (by simp) (fun _ _ _ _ _ h=>h) (by simp) (by simp) (by simp) (by decide) ?_
     rintro p9 eW eM c1-qZ KW
     simp at eM KW
     have K7:∀cx:ab,cx.length<=oN->Ext cx dN->Ext cx eW:=fun cx aI J=>c1 cx (by omega) (by simpa using J.set aI (X:= .own 124 l ((pre++fN (dK.take j))++(fN rY++(fN af++post)))) (by simp))
     have TD:eW[oN]?=some (.own 124 l (pre++(fN (dK.take j++(rY++af))++post))):=by
      rw[KW oN KU,List.getElem?_set_self TZ]
      simp[fN]
     simp[oP,aW]
     refine aX j _ _ _ (by omega) ⟨by omega,by simp[mW],K7 _ DP cI,K7 _ (Nat.le_trans bf.len DP) MI,_,_,TD,?_,?_,by simpa using eM,by simp[q6],?_,?_⟩
     ·rw[List.length_append,List.length_append,Md,Tl,Tc];omega
     ·intro x J
      rcases List.mem_append.1 J with J | J
      ·exact u2 x (List.mem_of_mem_take J)
      ·rcases List.mem_append.1 J with J | J
       ·exact Tn x J
       ·exact Td x J
     ·have o:val dK=val (dK.take j)+4294967296^j*val nK:=by
       have:=Gr dK j
       rw[Nat.min_eq_left (by omega),lU]at this
       exact this
      have aa:val (dK.take j++(rY++af))=val (dK.take j)+4294967296^j*val rY:=by
       rw[nB,nB,Md,nW,Nat.mul_zero,Nat.add_zero]
      have aB:val ((pc.set j q).drop j)=q+4294967296*val (pc.drop (j+1)):=by
       rw[tn _ _ (by simp;omega),List.getElem?_set_self (by omega),List.drop_set_of_lt (by omega)]
       rfl
      have bs:=Nat.div_add_mod (val nK) (val aE)
      rw[<-av,<-uw]at bs
      rw[aa,aB]
      rw[o,Nat.pow_succ]at hinv
      generalize (4294967296:Nat)^j=E at*
      generalize val (pc.drop (j+1))=Z at*
      have qJ:val aE*(E*(q+4294967296*Z))=E*(val aE*q)+val aE*(E*4294967296*Z):=by grind
      have ag1:E*val nK=E*(val aE*q)+E*val rY:=by rw[<-Nat.mul_add,bs]
      omega
     ·have:(dK.take j++(rY++af)).drop j=rY++af:=by
       rw[List.drop_append_of_le_length (by omega),List.drop_eq_nil_of_le (by omega),List.nil_append]
      rw[this,nB,nW,Nat.mul_zero,Nat.add_zero,uw]
      exact Nat.mod_lt _ uy
    ·have sy:k=0:=by omega
     subst sy
     simp at hinv uP
     have Ts:c6 dN 124 (.slice (some ⟨oN,R,none⟩) us.length cap) dK:=by
      refine⟨⟨_,cap,by rw[VZ],by omega,by simp,fun _=>⟨oN,R,_,_,rfl,z8,rfl,rfl,?_,?_⟩⟩,u2⟩
      ·simp[fN,AK]
      ·rw[<-AK,List.drop_append_of_le_length (Nat.le_refl _),List.drop_length,List.nil_append,Nat.mul_one,List.take_append_of_le_length (by simp[fN])]
       rw[List.take_of_length_le (by simp[fN])]
       rfl
     try simp
     refine aV.mk (l7 jA.row.us (by omega)) ?_
     rintro q cU ⟨rfl,hU,Ar,pI,sV,-⟩
     refine⟨Ext.refl _,?_⟩
     simp
     refine qi (e:=124) (U:=1) (aC:=false) (l:=0) (h:=m+2) (af:=gf) (xs:=dK) (by simpa using Ts.row) (by simp) (by simp) (.inr rfl) (by simp[dM]) (by simp[e2];omega) (by omega) (by omega) ?_
     intro akv al
     simp at al
     simp
     refine aV.mk (l7 al.us (by simp;omega)) ?_
     rintro t eW ⟨rfl,lt,a5,To,sW,-⟩
     simp
     have ahR:lt.length<=m+2:=by
      refine To.length_le ?_
      rw[sW]
      have:=kb (l:=dK.take (m+2)) fun x J=>u2 x (List.mem_of_mem_take J)
      rw[List.length_take]at this
      exact Nat.lt_of_lt_of_le this (Nat.pow_le_pow_right (by decide) (Nat.min_le_left _ _))
     refine aV.mk (Rw a5 (by omega) Eo) ?_
     rintro z fJ ⟨dF,vk,As,oU,ng⟩
     simp[bd]
     have VQ:val (dK.take (m+2))=val dK:=by
      have o:=Gr dK (m+2)
      rw[Nat.min_eq_left (by omega)]at o
      rcases Nat.eq_zero_or_pos (val (dK.drop (m+2)))with h | h
      ·rw[h,Nat.mul_zero,Nat.add_zero]at o;exact o.symm
      ·have aa:4294967296^(m+2)*1<=4294967296^(m+2)*val (dK.drop (m+2)):=Nat.mul_le_mul_left _ h
       omega
     have sG:0<2^s:=Nat.pow_pos (by decide)
     have Vq:val pc=val a/val b:=by
      have o:val us/val aE=val pc:=by
       rw[<-hinv,Nat.add_mul_div_left _ _ uy,Nat.div_eq_of_lt uP,Nat.zero_add]
      rw[<-o,Mn,iR,Nat.mul_div_mul_right _ _ sG]
     have AR:val dK=(val a % val b)*2^s:=by
      have o:val us % val aE=val dK:=by
       rw[<-hinv,Nat.add_mul_mod_self_left,Nat.mod_eq_of_lt uP]
      rw[<-o,Mn,iR,Nat.mul_mod_mul_right]
     exact aD _ _ ⟨MI.aw dF,_,_,hU,vk,rfl,Ar.ext dF,pI,by rw[sV,Vq],As,oU,by rw[ng,sW,VQ,AR,Nat.mul_div_cancel _ sG]⟩
instance:b3 dj:=⟨fun h J=>h.ext J⟩
theorem yj{neg:Bool}{v:Value}{l:List Nat}{H:ab}(ea:c6 H 124 v l)(bc:Trim l):aP prog 92 [.bool neg,v] H (fun w H1=>Ext H H1/\dj H1 w (if neg=true then-(val l:Int)else val l)):=by
 obtain⟨a,c,rfl⟩:=ea.len
 exact s7.mono fun w H1 ⟨J,hw⟩=>⟨J,dj.mk' hw (ea.ext J) bc⟩
theorem dj.whole{H:ab}{v:Value}{z:Int}(h:dj H v z):Whole prog 78 v:=by
 obtain⟨a,c,l,rfl,-⟩:=h
 exact⟨by simp,by simp,by simp[e3]⟩
theorem dj.us{H:ab}{s:Bool}{v:Value}{z:Int}(h:dj H (.agg #[.bool s,v]) z):∃l,s=decide (z<0)/\c6 H 124 v l/\Trim l/\val l=z.natAbs:=by
 obtain⟨a,c,l,he,aa,aB,bs⟩:=h
 simp at he
 obtain⟨rfl,rfl⟩:=he
 exact⟨l,rfl,aa,aB,bs⟩
theorem ZJ{a b q r:Int}(ag:b≠0)(av:q=if(!(decide (a<0)==decide (b<0)))=true then-((a.natAbs/b.natAbs:Nat):Int)else((a.natAbs/b.natAbs:Nat):Int))(al:r=if decide (a<0)=true then-((a.natAbs % b.natAbs:Nat):Int)else((a.natAbs % b.natAbs:Nat):Int)):
  (if a.natAbs % b.natAbs=0\/(!(decide (a<0)==decide (b<0)))=false then q else q-1)=a.fdiv b/\(if a.natAbs % b.natAbs=0\/(!(decide (a<0)==decide (b<0)))=false then r else r+b)=a.fmod b:=by
 have hm:a.fmod b=a-b*a.fdiv b:=Int.fmod_def a b
 have key:∀Q:Int,(0<b->b*Q<=a/\a<b*Q+b)->(b<0->a<=b*Q/\b*Q+b<a)->Q=a.fdiv b:=by
  intro Q o aa
  rcases Int.lt_or_lt_of_ne ag with h | h
  ·obtain⟨da,gB⟩:=aa h
   have e:a.fdiv b=(-a).fdiv (-b):=by rw[Int.neg_fdiv_neg]
   rw[e,Int.fdiv_eq_ediv_of_nonneg _ (by omega)]
   refine(Int.ediv_eq_iff_of_pos (by omega)).2 ?_ |>.symm
   constructor<;>grind
  ·obtain⟨da,gB⟩:=o h
   rw[Int.fdiv_eq_ediv_of_nonneg _ (by omega)]
   refine(Int.ediv_eq_iff_of_pos (by omega)).2 ?_ |>.symm
   constructor<;>grind
 have m4:=Nat.div_add_mod a.natAbs b.natAbs
 have eO:=Nat.mod_lt a.natAbs (show 0<b.natAbs by omega)
 generalize a.natAbs/b.natAbs=x at*
 generalize a.natAbs % b.natAbs=y at*
 have a2:(b.natAbs:Int)*x+y=a.natAbs:=by exact_mod_cast m4
 have aD:(if y=0\/(!(decide (a<0)==decide (b<0)))=false then q else q-1)=a.fdiv b:=by
  refine key _ (fun h=>?_) (fun h=>?_)
  ·have bk:decide (b<0)=false:=by simp;omega
   have bE:(b.natAbs:Int)=b:=by omega
   rw[bE]at a2
   by_cases aO:a<0
   ·have bm:decide (a<0)=true:=by simpa using aO
    have bx:(a.natAbs:Int)= -a:=by omega
    simp[bm,bk]at av⊢
    rw[bx]at a2
    rw[av]
    split
    ·constructor<;>grind
    ·constructor<;>grind
   ·have bm:decide (a<0)=false:=by simpa using aO
    have bx:(a.natAbs:Int)=a:=by omega
    simp[bm,bk]at av⊢
    rw[bx]at a2
    rw[av]
    constructor<;>grind
  ·have bk:decide (b<0)=true:=by simpa using h
   have bE:(b.natAbs:Int)= -b:=by omega
   rw[bE]at a2
   by_cases aO:a<0
   ·have bm:decide (a<0)=true:=by simpa using aO
    have bx:(a.natAbs:Int)= -a:=by omega
    simp[bm,bk]at av⊢
    rw[bx]at a2
    rw[av]
    constructor<;>grind
   ·have bm:decide (a<0)=false:=by simpa using aO
    have bx:(a.natAbs:Int)=a:=by omega
    simp[bm,bk]at av⊢
    rw[bx]at a2
    rw[av]
    split
    ·constructor<;>grind
    ·constructor<;>grind
 refine⟨aD,?_⟩
 rw[hm,<-aD]
 by_cases aO:a<0<;>by_cases c8:b<0
 ·have bx:(a.natAbs:Int)= -a:=by omega
  have bE:(b.natAbs:Int)= -b:=by omega
  rw[bx,bE]at a2
  simp[aO,c8]at av al⊢
  rw[av,al];grind
 ·have bx:(a.natAbs:Int)= -a:=by omega
  have bE:(b.natAbs:Int)=b:=by omega
  rw[bx,bE]at a2
  simp[aO,c8]at av al⊢
  rw[av,al]
  split<;>grind
 ·have bx:(a.natAbs:Int)=a:=by omega
  have bE:(b.natAbs:Int)= -b:=by omega
  rw[bx,bE]at a2
  simp[aO,c8]at av al⊢
  rw[av,al]
  split<;>grind
 ·have bx:(a.natAbs:Int)=a:=by omega
  have bE:(b.natAbs:Int)=b:=by omega
  rw[bx,bE]at a2
  simp[aO,c8]at av al⊢
  rw[av,al];grind
theorem ZK{v w:Value}{a b:Int}{H:ab}(bx:dj H v a)(bE:dj H w b)(a9:Fits a)(km:Fits b)(ag:b≠0):aP prog 119 [v,w] H (fun u H1=>Ext H H1/\∃x y,u= .tuple #[x,y]/\dj H1 x (a.fdiv b)/\dj H1 y (a.fmod b)):=by
 refine aP.b9 fun Q aD=>?_
 apply Xn (by simp)
 have PA:=bx.whole
 have PB:=bE.whole
 obtain⟨s1,b1,cT,cn,rfl⟩:=bx.shape
 obtain⟨s2,cA,c2,cD,rfl⟩:=bE.shape
 obtain⟨c_,rfl,w4,oT,xV⟩:=bx.us
 obtain⟨df,rfl,sm,k8,sR⟩:=bE.us
 have kq:=a9.length oT xV
 have jG:=km.length k8 sR
 have UG:0<df.length:=by rw[k8.pos,sR];omega
 simp[HZ]
 have br:Ext H (H++[.dead,.dead,.dead,.dead]):=Ext.more H (by simp)
 refine aV.mk (NP (w4.ext br) oT (sm.ext br) k8 UG (by omega) (by omega)) ?_
 rintro u H1 ⟨bw,q,r,hU,vk,rfl,av,pI,sV,al,oU,ng⟩
 simp
 rw[xV,sR]at sV ng
 refine aV.mk (yj av pI) ?_
 rintro x aR ⟨bf,J⟩
 refine⟨bf,?_⟩
 simp
 refine aV.mk (yj (al.ext bf) oU) ?_
 rintro y bP ⟨bG,aK⟩
 refine⟨bG,?_⟩
 have aT:=J.ext bG
 simp
 refine cN.mk J.whole ?_
 simp
 refine cN.mk aK.whole ?_
 have cR:Ext H (bP++[.dead,.dead]):=(br.aw (bw.aw (bf.aw bG))).aw (Ext.more bP (by simp))
 have cI:Ext bP (bP++[.dead,.dead]):=Ext.more bP (by simp)
 have Vt:=(al.ext bf).ext (bG.aw cI)
 obtain⟨mA,xJ⟩:=ZJ (a:=a) (b:=b) (q:=_) (r:=_) ag rfl rfl
 rw[sV]at aT
 rw[ng]at aK
 have As:0<vk.length↔¬(a.natAbs % b.natAbs=0):=by rw[oU.pos,ng];omega
 refine ca.join (by kernel_rfl) (fun c0 dS b0=>Ext H b0/\dj b0 (dS 8) (a.fdiv b)/\dj b0 (dS 9) (a.fmod b)) ?_ ?_
 ·rintro K aX-
  rw[l8]
  refine ca.join (by kernel_rfl) (fun c0 dS b0=>b0=bP++[.dead,.dead]/\∃c:Bool,c0 38= .bool c/\(c=true↔¬(a.natAbs % b.natAbs=0\/(!(decide (a<0)==decide (b<0)))=false))) ?_ ?_
  ·rintro cV dw-
   simp
   refine cP (by simpa using Vt.row) (by simp) ?_
   simp
   refine bt.b6 (fun a2=>?_) (fun a2=>?_)
   ·simp[a2]
    refine dw _ _ _ ⟨rfl,(!(decide (a<0)==decide (b<0))),by simp,?_⟩
    have:=As.1 a2
    simp[this]
   ·simp[a2]
    refine dw _ _ _ ⟨rfl,false,by simp,?_⟩
    have:a.natAbs % b.natAbs=0:=by
     rcases Nat.eq_zero_or_pos (a.natAbs % b.natAbs)with h | h
     ·exact h
     ·exact absurd (As.2 (by omega)) a2
    simp[this]
  ·rintro c0 dS b0 ⟨rfl,c,Kc,ae⟩
   simp at Kc
   simp[Kc]
   refine bt.mk (fun fX=>?_) (fun fX=>?_)
   ·have xc:=ae.1 fX
    rw[if_neg xc]at mA xJ
    try simp
    refine aV.mk (vq (by omega) (by omega)) ?_
    rintro R b8 ⟨cw,aM⟩
    refine⟨cw,?_⟩
    simp
    have f1:Fits 1:=Fits.small (by decide)
    have Vo:Fits (if(!(decide (a<0)==decide (b<0)))=true then-((a.natAbs/b.natAbs:Nat):Int)else((a.natAbs/b.natAbs:Nat):Int)):=by
     have:a.natAbs/b.natAbs<=a.natAbs:=Nat.div_le_self _ _
     unfold Fits at a9⊢
     split<;>omega
    have Vu:Fits (if decide (a<0)=true then-((a.natAbs % b.natAbs:Nat):Int)else((a.natAbs % b.natAbs:Nat):Int)):=by
     have:a.natAbs % b.natAbs<=a.natAbs:=Nat.mod_le _ _
     unfold Fits at a9⊢
     split<;>omega
    refine aV.mk (OF (aT.ext (cI.aw cw)) aM Vo f1) ?_
    rintro eu dN ⟨c1,rf⟩
    refine⟨c1,?_⟩
    simp
    refine aV.mk (zi ((aK.ext (cI.aw cw)).ext c1) ((bE.ext cR).ext (cw.aw c1)) Vu km) ?_
    rintro mM cU ⟨dF,pZ⟩
    simp
    refine cN.mk rf.whole ?_
    simp
    refine cN.mk pZ.whole ?_
    rw[mA]at rf
    rw[xJ]at pZ
    exact aX _ _ _ ⟨cR.aw (cw.aw (c1.aw dF)),by simpa using rf.ext dF,by simpa using pZ⟩
   ·have xc:(a.natAbs % b.natAbs=0\/(!(decide (a<0)==decide (b<0)))=false):=by
     apply Classical.byContradiction
     intro h
     rw[ae.2 h]at fX
     cases fX
    rw[if_pos xc]at mA xJ
    rw[mA]at aT
    rw[xJ]at aK
    exact aX _ _ _ ⟨cR,by simpa using aT.ext cI,by simpa using aK.ext cI⟩
 ·rintro c0 dS b0 ⟨J,cS,ej⟩
  simp at cS ej
  simp
  refine cN.mk cS.whole ?_
  simp
  refine cN.mk ej.whole ?_
  simp[bd]
  exact aD _ _ ⟨J,_,_,rfl,cS,ej⟩
theorem J0{v w:Value}{a b:Int}{H:ab}(bx:dj H v a)(bE:dj H w b)(a9:Fits a)(km:Fits b):aP prog 102 [v,w] H (fun u H1=>Ext H H1/\dj H1 u (Int.gcd a b)):=by
 refine aP.b9 fun Q aD=>?_
 apply Xk (by simp)
 have PA:=bx.whole
 have PB:=bE.whole
 obtain⟨s1,b1,cT,cn,rfl⟩:=bx.shape
 obtain⟨s2,cA,c2,cD,rfl⟩:=bE.shape
 obtain⟨c_,rfl,w4,oT,xV⟩:=bx.us
 obtain⟨df,rfl,sm,k8,sR⟩:=bE.us
 have kq:=a9.length oT xV
 have jG:=km.length k8 sR
 simp[HY]
 have br:Ext H (H++[.dead,.dead,.dead]):=Ext.more H (by simp)
 refine dm.mk (by kernel_rfl) (fun n ay bD H1=>Ext H H1/\∃x y:List Nat,n=val y/\c6 H1 124 (ay 5) x/\Trim x/\x.length<=1000000/\c6 H1 124 (ay 6) y/\Trim y/\y.length<=1000000/\Nat.gcd (val x) (val y)=Int.gcd a b) (val df) ?_ ?_
 ·exact⟨br,c_,df,rfl,by simpa using w4.ext br,oT,kq,by simpa using sm.ext br,k8,jG,by rw[xV,sR];rfl⟩
 ·rintro n ay bD H1 ⟨bw,x,y,rfl,J,z5,Ea,aK,qQ,u4,aU⟩ K aX
  simp at J aK
  simp
  refine cP (by simpa using aK.row) (by simp) ?_
  simp
  refine bt.b6 (fun a2=>?_) (fun a2=>?_)
  ·try simp
   refine aV.mk (NP J z5 aK qQ a2 (by omega) (by omega)) ?_
   rintro u aR ⟨bf,q,r,hU,vk,rfl,av,pI,sV,al,oU,ng⟩
   simp
   have sX:0<val y:=(qQ.pos).1 a2
   refine aX (val vk) _ _ _ (by rw[ng];exact Nat.mod_lt _ sX) ⟨bw.aw bf,y,vk,rfl,by simpa using aK.ext bf,qQ,u4,by simpa using al,oU,?_,?_⟩
   ·refine Nat.le_trans (oU.length_le (n:=y.length) ?_) u4
    rw[ng]
    exact Nat.lt_trans (Nat.mod_lt _ sX) (kb aK.2)
   ·rw[ng,<-aU,Nat.gcd_comm (val x) (val y),Nat.gcd_rec (val y) (val x),Nat.gcd_comm]
  ·try simp
   have vd:y=[]:=List.eq_nil_of_length_eq_zero (by omega)
   subst vd
   refine aV.mk (yj J z5) ?_
   rintro u aR ⟨bf,hu⟩
   simp
   refine cN.mk hu.whole ?_
   simp[bd]
   simp[val]at aU
   rw[aU]at hu
   exact aD _ _ ⟨bw.aw bf,by simpa using hu⟩
def cc(H:ab)(v:Value)(q:Rat):Prop:=fp H v q.num q.den
instance:b3 cc:=⟨fun h J=>fp.ext h J⟩
theorem cc.ext{H H1:ab}{v:Value}{q:Rat}(h:cc H v q)(J:Ext H H1):cc H1 v q:=fp.ext h J
theorem fp.whole{H:ab}{v:Value}{n d:Int}(h:fp H v n d):Whole prog 80 v:=by
 obtain⟨s1,b1,cT,cn,s2,cA,c2,cD,rfl,-⟩:=h.shape
 exact⟨by simp,by simp,by simp[e3]⟩
theorem cc.whole{H:ab}{v:Value}{q:Rat}(h:cc H v q):Whole prog 80 v:=fp.whole h
theorem cc.kept{H aH:ab}{e:Nat}{s v:Value}{q:Rat}(h:cc H v q)(ak:Kept H aH s e)(cQ:124≠e):cc aH v q:=fp.kept h ak cQ
theorem Fits.le{a b:Int}(a9:Fits a)(h:b.natAbs<=a.natAbs):Fits b:=Nat.lt_of_le_of_lt h a9
def dn(N:Nat)(q:Rat):Prop:=q.num.natAbs<2^N/\q.den<2^N
theorem Fits.bits{z:Int}{N:Nat}(h:z.natAbs<2^N)(bQ:N<=32000000):Fits z:=by
 exact Zy 1000000 h (by omega)
theorem dn.num{N:Nat}{q:Rat}(h:dn N q)(bQ:N<=32000000):Fits q.num:=Fits.bits h.1 bQ
theorem dn.den{N:Nat}{q:Rat}(h:dn N q)(bQ:N<=32000000):Fits q.den:=Fits.bits (z:=q.den) (by simpa using h.2) bQ
theorem dn.mono{N M:Nat}{q:Rat}(h:dn N q)(zY:N<=M):dn M q:=⟨Nat.lt_of_lt_of_le h.1 (Nat.pow_le_pow_right (by decide) zY),Nat.lt_of_lt_of_le h.2 (Nat.pow_le_pow_right (by decide) zY)⟩
theorem dn.int{N:Nat}{z:Int}(h:z.natAbs<2^N)(bQ:0<N):dn N (z:Rat):=⟨by rw[Rat.num_intCast];exact h,by rw[Rat.den_intCast];exact Nat.one_lt_two_pow (by omega)⟩
theorem dn.neg{N:Nat}{q:Rat}(h:dn N q):dn N (-q):=⟨by rw[Rat.neg_num,Int.natAbs_neg];exact h.1,h.2⟩
theorem zD(n:Int)(d:Nat)(aA:d≠0):(Rat.divInt n d).num=n/(Nat.gcd n.natAbs d:Nat)/\(Rat.divInt n d).den=d/Nat.gcd n.natAbs d:=by
 rw[Rat.divInt_ofNat,Rat.mkRat_def,dif_neg aA,Rat.normalize_eq aA]
 exact⟨rfl,rfl⟩
theorem dn.divInt{N:Nat}{n:Int}{d:Nat}(aA:d≠0)(aG:n.natAbs<2^N)(lT:d<2^N):dn N (Rat.divInt n d):=by
 obtain⟨o,aa⟩:=zD n d aA
 refine⟨?_,?_⟩
 ·rw[o,Int.natAbs_ediv_of_dvd (Int.ofNat_dvd_left.2 (Nat.gcd_dvd_left _ _))]
  exact Nat.lt_of_le_of_lt (Nat.div_le_self _ _) aG
 ·rw[aa]
  exact Nat.lt_of_le_of_lt (Nat.div_le_self _ _) lT
theorem dn.add{N M:Nat}{a b:Rat}(aO:dn N a)(ag:dn M b):dn (N+M+1) (a+b):=by
 rw[Rat.add_def',<-Rat.divInt_ofNat]
 have o:(a.num*b.den).natAbs<2^(N+M):=by
  rw[Int.natAbs_mul,Int.natAbs_natCast,Nat.pow_add]
  exact Nat.mul_lt_mul'' aO.1 ag.2
 have aa:(b.num*a.den).natAbs<2^(N+M):=by
  rw[Int.natAbs_mul,Int.natAbs_natCast,Nat.add_comm,Nat.pow_add]
  exact Nat.mul_lt_mul'' ag.1 aO.2
 refine dn.divInt (Nat.mul_ne_zero a.den_nz b.den_nz) ?_ ?_
 ·rw[Nat.pow_succ]
  have:=Int.natAbs_add_le (a.num*b.den) (b.num*a.den)
  omega
 ·have:a.den*b.den<2^(N+M):=by rw[Nat.pow_add];exact Nat.mul_lt_mul'' aO.2 ag.2
  rw[Nat.pow_succ]
  omega
theorem E6{f:FuncId}{args:List Value}{H:ab}{z:Int}(h:aP prog f args H (fun u H1=>Ext H H1/\dj H1 u z)):aP prog f args H (fun u H1=>Ext H H1/\∃s a n c,u= .agg #[.bool s,.slice a n c]/\dj H1 (.agg #[.bool s,.slice a n c]) z):=
 h.mono fun u H1 ⟨J,hu⟩=>by
  obtain⟨s,a,n,c,rfl⟩:=hu.shape
  exact⟨J,_,_,_,_,rfl,hu⟩
theorem N9{v w:Value}{a b:Int}{H:ab}(bx:dj H v a)(bE:dj H w b)(a9:Fits a)(km:Fits b)(ag:b≠0):aP prog 119 [v,w] H (fun u H1=>Ext H H1/\∃s1 b1 cT cn s2 cA c2 cD,u= .tuple #[.agg #[.bool s1,.slice b1 cT cn],.agg #[.bool s2,.slice cA c2 cD]]/\dj H1 (.agg #[.bool s1,.slice b1 cT cn]) (a.fdiv b)/\dj H1 (.agg #[.bool s2,.slice cA c2 cD]) (a.fmod b)):=
 (ZK bx bE a9 km ag).mono fun u H1 ⟨J,x,y,hu,o,aa⟩=>by
  obtain⟨s1,b1,cT,cn,rfl⟩:=o.shape
  obtain⟨s2,cA,c2,cD,rfl⟩:=aa.shape
  exact⟨J,_,_,_,_,_,_,_,_,hu,o,aa⟩
def v8(H:ab)(v w:Value)(n d:Int):Prop:=∃(dW:Int) (fr lK:Nat) (s1:Bool) (b1:Option Addr) (cT cn:Nat) (s2:Bool) (cA:Option Addr) (c2 cD:Nat),v= .agg #[.bool s1,.slice b1 cT cn]/\w= .agg #[.bool s2,.slice cA c2 cD]/\dj H (.agg #[.bool s1,.slice b1 cT cn]) dW/\dj H (.agg #[.bool s2,.slice cA c2 cD]) fr/\Fits dW/\Fits fr/\Fits lK/\
 Int.gcd dW fr=lK/\0<lK/\lK<=fr/\(Rat.divInt n d).num=dW/lK/\(Rat.divInt n d).den=fr/lK/\(lK:Int)∣dW/\lK∣fr/\dj H v dW/\dj H w fr
theorem v8.mk'{H:ab}{v w:Value}{n d dW:Int}{fr:Nat}(bQ:dj H v dW)(eH:dj H w fr)(zK:Fits dW)(wz:Fits fr)(jD:fr≠0)(kr:Rat.divInt dW fr=Rat.divInt n d):v8 H v w n d:=by
 have D1:0<Nat.gcd dW.natAbs fr:=Nat.gcd_pos_of_pos_right _ (by omega)
 have qW:Nat.gcd dW.natAbs fr<=fr:=Nat.le_of_dvd (by omega) (Nat.gcd_dvd_right _ _)
 obtain⟨jJ,jV⟩:=zD dW fr jD
 have Ld:=Nat.gcd_dvd_left dW.natAbs fr
 have Lc:=Nat.gcd_dvd_right dW.natAbs fr
 obtain⟨Om,IL,Nw,Je,rfl⟩:=bQ.shape
 obtain⟨On,IM,Nx,Jf,rfl⟩:=eH.shape
 rw[kr]at jJ jV
 exact⟨dW,fr,Nat.gcd dW.natAbs fr,Om,IL,Nw,Je,On,IM,Nx,Jf,rfl,rfl,bQ,eH,zK,wz,wz.le (by omega),rfl,D1,qW,jJ,jV,Int.ofNat_dvd_left.2 Ld,Lc,bQ,eH⟩
theorem ZM{v w:Value}{n d:Int}{H:ab}(bx:dj H v n)(bE:dj H w d)(fn:Fits n)(fd:Fits d)(aA:d≠0):aP prog 106 [v,w] H (fun u H1=>Ext H H1/\cc H1 u (Rat.divInt n d)):=by
 refine aP.b9 fun Q aD=>?_
 apply XB (by simp)
 have PA:=bx.whole
 have PB:=bE.whole
 have wI:=bx
 have Sr:=bE
 obtain⟨s1,b1,cT,cn,rfl⟩:=bx.shape
 obtain⟨s2,cA,c2,cD,rfl⟩:=bE.shape
 simp[H8]
 have br:Ext H (H++[.dead,.dead,.dead]):=Ext.more H (by simp)
 refine ca.join (by kernel_rfl) (fun c0 dS b0=>Ext H b0/\v8 b0 (dS 2) (dS 3) n d) ?_ ?_
 ·rintro K aX Ku
  obtain⟨df,rfl,sm,k8,sR⟩:=bE.us
  simp
  refine bt.b6 (fun a2=>?_) (fun a2=>?_)
  ·have e:((d.natAbs:Nat):Int)= -d:=by omega
   try simp
   refine aV.mk (Bk (bx.ext br)) ?_
   rintro x H1 ⟨bw,J⟩
   refine⟨bw,?_⟩
   simp
   refine aV.mk (Bk (bE.ext (br.aw bw))) ?_
   rintro y aR ⟨bf,aK⟩
   simp
   refine cN.mk J.whole ?_
   simp
   refine cN.mk aK.whole ?_
   refine aX _ _ _ ⟨br.aw (bw.aw bf),v8.mk' (dW:= -n) (fr:=d.natAbs) (by simpa using J.ext bf) (by rw[e];simpa using aK) fn.neg (by rw[e];exact fd.neg) (by omega) (by rw[e,Rat.neg_divInt_neg])⟩
  ·have e:((d.natAbs:Nat):Int)=d:=by omega
   exact aX _ _ _ ⟨br,v8.mk' (dW:=n) (fr:=d.natAbs) (by simpa using bx.ext br) (by rw[e];simpa using bE.ext br) fn (by rw[e];exact fd) (by omega) (by rw[e])⟩
 ·rintro c0 dS b0 ⟨cj,dW,fr,lK,Om,IL,Nw,Je,On,IM,Nx,Jf,jW,iP,bQ,eH,zK,wz,qK,RQ,D1,qW,jJ,jV,Ld,Lc,-,-⟩
  simp at jW iP
  simp[jW,iP]
  refine aV.mk (J0 bQ eH zK wz) ?_
  rintro g b8 ⟨cR,aU⟩
  rw[RQ]at aU
  have f1:Fits 1:=Fits.small (by decide)
  simp
  refine cN.mk aU.whole ?_
  simp
  have cI:Ext b8 (b8++[.dead]):=Ext.dead b8
  refine aV.mk (vq (by omega) (by omega)) ?_
  rintro R dN ⟨cw,aM⟩
  refine⟨cw,?_⟩
  simp
  refine aV.mk (E4 (aU.ext (cI.aw cw)) aM qK f1) ?_
  rintro c cU ⟨c1,rfl⟩
  simp
  have ER:Ext b8 cU:=cI.aw (cw.aw c1)
  have o6:Ext b0 cU:=cR.aw ER
  refine bt.b6 (fun ae=>?_) (fun ae=>?_)
  ·have mv:lK=1:=by
    by_cases o:(lK:Int)<1
    ·omega
    ·rw[if_neg o]at ae
     split at ae
     ·omega
     ·cases ae
   rw[mv]at jJ jV
   simp only[Int.natCast_one,Int.ediv_one,Nat.div_one]at jJ jV
   simp[jW,iP]
   simp[bd]
   refine aD _ _ ⟨cj.aw o6,_,_,_,_,rfl,?_,?_⟩
   ·rw[jJ];exact bQ.ext o6
   ·rw[jV];exact eH.ext o6
  ·try simp
   have Le:(lK:Int)≠0:=by omega
   simp[jW,iP]
   refine aV.mk (N9 (bQ.ext o6) (aU.ext ER) zK qK Le) ?_
   rintro u eW ⟨dF,t1,gN,j8,bm,t2,kj,aiq,bk,rfl,xF,q8⟩
   simp[iP]
   have gI:Ext eW (eW++[.dead,.dead]):=Ext.more eW (by simp)
   have ES:=dF.aw gI
   refine aV.mk (N9 (eH.ext (o6.aw ES)) (aU.ext (ER.aw ES)) wz qK Le) ?_
   rintro u fJ ⟨fY,t3,r1,air,fP,t4,IU,ais,k3,rfl,ob,na⟩
   simp
   have gi:Ext fJ (fJ++[.dead,.dead]):=Ext.more fJ (by simp)
   have LU:=xF.ext (gI.aw (fY.aw gi))
   have LW:=ob.ext gi
   have bm:dW.fdiv lK=(Rat.divInt n d).num:=by rw[jJ,Int.fdiv_eq_ediv_of_nonneg _ (by omega)]
   have bk:(fr:Int).fdiv lK=((Rat.divInt n d).den:Int):=by rw[jV,Int.fdiv_eq_ediv_of_nonneg _ (by omega)];rfl
   rw[bm]at LU
   rw[bk]at LW
   simp[bd]
   exact aD _ _ ⟨cj.aw (o6.aw (ES.aw (fY.aw gi))),_,_,_,_,rfl,LU,LW⟩
theorem ZV{v:Value}{a:Rat}{H:ab}(bx:cc H v a):aP prog 109 [v] H (fun u H1=>Ext H H1/\cc H1 u (-a)):=by
 refine aP.b9 fun Q aD=>?_
 apply Xw (by simp)
 obtain⟨s1,b1,cT,cn,s2,cA,c2,cD,rfl,bQ,eH⟩:=fp.shape bx
 simp[H5]
 have br:Ext H (H++[.dead,.dead]):=Ext.more H (by simp)
 refine aV.mk (E6 (Bk (bQ.ext br))) ?_
 rintro u H1 ⟨bw,l6,eB,j9,eL,rfl,hu⟩
 refine⟨bw,?_⟩
 simp[bd]
 refine aD _ _ ⟨br.aw bw,_,_,_,_,rfl,?_,eH.ext (br.aw bw)⟩
 rw[Rat.neg_num];exact hu
theorem FD{v w:Value}{a b:Rat}{N M:Nat}{H:ab}(bx:cc H v a)(bE:cc H w b)(aj:dn N a)(kO:dn M b)(bQ:N+M+1<=32000000):aP prog 77 [v,w] H (fun u H1=>Ext H H1/\cc H1 u (a+b)):=by
 refine aP.b9 fun Q aD=>?_
 apply Xt (by simp)
 obtain⟨s1,b1,cT,cn,s2,cA,c2,cD,rfl,sg,kG⟩:=fp.shape bx
 obtain⟨l6,eB,j9,eL,qc,qA,rm,qE,rfl,wT,h_⟩:=fp.shape bE
 simp[H3]
 have br:Ext H (H++[.dead,.dead,.dead]):=Ext.more H (by simp)
 refine ca.join (by kernel_rfl) (fun c0 dS b0=>Ext H b0/\c0 10= .bool (decide (a.den=1/\b.den=1))) ?_ ?_
 ·rintro K aX-
  simp
  refine aV.mk (E7 (fp.ext bx br) (by have:=a.den_pos;omega)) ?_
  rintro u H1 ⟨bw,rfl⟩
  simp
  refine bt.b6 (fun ae=>?_) (fun ae=>?_)
  ·simp[ae]
   refine aV.mk (E7 (fp.ext bE (br.aw bw)) (by have:=b.den_pos;omega)) ?_
   rintro u aR ⟨bf,rfl⟩
   simp[ae]
   have gQ:a.den=1:=by omega
   refine aX _ _ _ ⟨br.aw (bw.aw bf),?_⟩
   simp[gQ]
   have:((b.den:Int)=1)↔b.den=1:=by omega
   simp[this]
  ·simp[ae]
   have gQ:¬a.den=1:=by omega
   exact aX _ _ _ ⟨br.aw bw,by simp[gQ]⟩
 ·rintro c0 dS b0 ⟨cj,h9⟩
  simp only[ik]at h9
  simp at h9
  have a9:=aj.num (by omega)
  have km:=kO.num (by omega)
  have JQ:=aj.den (by omega)
  have JR:=kO.den (by omega)
  simp[h9]
  refine bt.mk (fun ae=>?_) (fun ae=>?_)
  ·simp at ae
   simp
   refine aV.mk (zi (sg.ext cj) (wT.ext cj) a9 km) ?_
   rintro u b8 ⟨cR,hu⟩
   simp
   refine aV.mk (Sa hu) ?_
   rintro u dN ⟨cI,va⟩
   simp
   refine cN.mk (fp.whole va) ?_
   simp[bd]
   refine aD _ _ ⟨cj.aw (cR.aw cI),?_⟩
   have e:a+b=((a.num+b.num:Int):Rat):=by
    rw[Rat.intCast_add]
    congr 1
    ·exact Rat.ext rfl ae.1
    ·exact Rat.ext rfl ae.2
   show fp _ _ _ _
   rw[e,Rat.num_intCast,Rat.den_intCast]
   exact va
  ·try simp
   refine aV.mk (yp (sg.ext cj) (h_.ext cj) a9 JR) ?_
   rintro x b8 ⟨cR,J⟩
   refine⟨cR,?_⟩
   simp
   refine aV.mk (yp (wT.ext (cj.aw cR)) (kG.ext (cj.aw cR)) km JQ) ?_
   rintro y dN ⟨cI,aK⟩
   refine⟨cI,?_⟩
   have gN:(a.num*b.den).natAbs<2^(N+M):=by
    rw[Int.natAbs_mul,Int.natAbs_natCast,Nat.pow_add];exact Nat.mul_lt_mul'' aj.1 kO.2
   have kj:(b.num*a.den).natAbs<2^(N+M):=by
    rw[Int.natAbs_mul,Int.natAbs_natCast,Nat.add_comm,Nat.pow_add];exact Nat.mul_lt_mul'' kO.1 aj.2
   have r1:((a.den:Int)*b.den).natAbs<2^(N+M):=by
    rw[Int.natAbs_mul,Int.natAbs_natCast,Int.natAbs_natCast,Nat.pow_add];exact Nat.mul_lt_mul'' aj.2 kO.2
   simp
   refine aV.mk (zi (J.ext cI) aK (Fits.bits gN (by omega)) (Fits.bits kj (by omega))) ?_
   rintro z cU ⟨cw,aN⟩
   refine⟨cw,?_⟩
   simp
   have o6:=cj.aw (cR.aw (cI.aw cw))
   refine aV.mk (yp (kG.ext o6) (h_.ext o6) JQ JR) ?_
   rintro w eW ⟨c1,hw⟩
   simp
   have IU:(a.num*b.den+b.num*a.den).natAbs<2^(N+M+1):=by
    have:=Int.natAbs_add_le (a.num*b.den) (b.num*a.den)
    rw[Nat.pow_succ];omega
   refine aV.mk (ZM (aN.ext c1) hw (Fits.bits IU (by omega)) (Fits.bits r1 (by omega)) (by have:=Nat.mul_ne_zero a.den_nz b.den_nz;exact_mod_cast this)) ?_
   rintro w fJ ⟨dF,Mv⟩
   simp
   refine cN.mk Mv.whole ?_
   simp[bd]
   refine aD _ _ ⟨o6.aw (c1.aw dF),?_⟩
   rw[Rat.add_def',<-Rat.divInt_ofNat]
   simpa using Mv
theorem N3{v w:Value}{a b:Rat}{N:Nat}{H:ab}(bx:cc H v a)(bE:cc H w b)(aj:dn N a)(kO:dn N b)(bQ:N<=1000000):aP prog 77 [v,w] H (fun u H1=>Ext H H1/\cc H1 u (a+b)):=FD bx bE aj kO (by omega)
theorem FF{v w:Value}{a b:Rat}{N:Nat}{H:ab}(bx:cc H v a)(bE:cc H w b)(aj:dn N a)(kO:dn N b)(bQ:N<=1000000):aP prog 87 [v,w] H (fun u H1=>Ext H H1/\cc H1 u (a-b)):=by
 refine aP.b9 fun Q aD=>?_
 apply XA (by simp)
 obtain⟨s1,b1,cT,cn,s2,cA,c2,cD,rfl,sg,kG⟩:=fp.shape bx
 obtain⟨l6,eB,j9,eL,qc,qA,rm,qE,rfl,wT,h_⟩:=fp.shape bE
 simp[H7]
 have br:Ext H (H++[.dead,.dead,.dead]):=Ext.more H (by simp)
 refine aV.mk (ZV (bE.ext br)) ?_
 rintro u H1 ⟨bw,hu⟩
 refine⟨bw,?_⟩
 simp
 refine aV.mk (N3 (bx.ext (br.aw bw)) hu aj kO.neg bQ) ?_
 rintro w aR ⟨bf,hw⟩
 simp
 refine cN.mk hw.whole ?_
 simp[bd]
 refine aD _ _ ⟨br.aw (bw.aw bf),?_⟩
 rw[Rat.sub_eq_add_neg]
 exact hw
theorem N4{v w:Value}{a b:Rat}{N M:Nat}{H:ab}(bx:cc H v a)(bE:cc H w b)(aj:dn N a)(kO:dn M b)(bQ:N+M+1<=32000000):aP prog 35 [v,w] H (fun u H1=>Ext H H1/\u= .int .i64 (if a<b then-1 else if a=b then 0 else 1)):=by
 refine aP.b9 fun Q aD=>?_
 apply Xu (by simp)
 obtain⟨s1,b1,cT,cn,s2,cA,c2,cD,rfl,sg,kG⟩:=fp.shape bx
 obtain⟨l6,eB,j9,eL,qc,qA,rm,qE,rfl,wT,h_⟩:=fp.shape bE
 simp[H4]
 have br:Ext H (H++[.dead,.dead]):=Ext.more H (by simp)
 refine aV.mk (yp (sg.ext br) (h_.ext br) (aj.num (by omega)) (kO.den (by omega))) ?_
 rintro x H1 ⟨bw,J⟩
 refine⟨bw,?_⟩
 simp
 refine aV.mk (yp (wT.ext (br.aw bw)) (kG.ext (br.aw bw)) (kO.num (by omega)) (aj.den (by omega))) ?_
 rintro y aR ⟨bf,aK⟩
 have gN:(a.num*b.den).natAbs<2^(N+M):=by
  rw[Int.natAbs_mul,Int.natAbs_natCast,Nat.pow_add];exact Nat.mul_lt_mul'' aj.1 kO.2
 have kj:(b.num*a.den).natAbs<2^(N+M):=by
  rw[Int.natAbs_mul,Int.natAbs_natCast,Nat.add_comm,Nat.pow_add];exact Nat.mul_lt_mul'' kO.1 aj.2
 simp
 refine aV.mk (E4 (J.ext bf) aK (Fits.bits gN (by omega)) (Fits.bits kj (by omega))) ?_
 rintro c bP ⟨bG,rfl⟩
 simp[bd]
 refine aD _ _ ⟨br.aw (bw.aw (bf.aw bG)),?_⟩
 simp only[Rat.lt_iff,Rat.eq_iff_mul_eq_mul]
theorem Bx{v w:Value}{a b:Rat}{N:Nat}{H:ab}(bx:cc H v a)(bE:cc H w b)(aj:dn N a)(kO:dn N b)(bQ:N<=1000000):aP prog 35 [v,w] H (fun u H1=>Ext H H1/\u= .int .i64 (if a<b then-1 else if a=b then 0 else 1)):=N4 bx bE aj kO (by omega)
theorem FE{v:Value}{a:Rat}{H:ab}(bx:cc H v a):aP prog 75 [v] H (fun u H1=>Ext H H1/\u= .int .i64 (if a<0 then-1 else if a=0 then 0 else 1)):=
 (Z0 bx).mono fun u H1 ⟨J,hu⟩=>⟨J,by
  rw[hu]
  have o:a.num=0↔a=0:=Rat.num_eq_zero
  have aa:0<=a.num↔0<=a:=Rat.num_nonneg
  have aB:a.num<0↔a<0:=by rw[<-Int.not_le,aa,Rat.not_le]
  simp only[o,aB]⟩
theorem By{n:Int}{H:ab}(o: -9223372036854775808<=n)(aa:n<9223372036854775808):aP prog 59 [.int .i64 n] H (fun u H1=>Ext H H1/\cc H1 u (n:Rat)):=
 (adT o aa).mono fun u H1 ⟨J,hu⟩=>⟨J,by show fp _ _ _ _;rw[Rat.num_intCast,Rat.den_intCast];exact hu⟩
theorem aaz{v:Value}{a:Int}{H:ab}(bx:dj H v a)(aI:a.natAbs<=4611686018427387904):aP prog 37 [v] H (fun u H1=>Ext H H1/\u= .tuple #[.int .i64 a,.bool true]):=by
 refine aP.b9 fun Q aD=>?_
 apply Xp (by simp)
 obtain⟨s1,b1,cT,cn,rfl⟩:=bx.shape
 obtain⟨l,rfl,ea,bc,an⟩:=bx.us
 have ar:l.length<=2:=bc.length_le (by rw[an];omega)
 simp[H0]
 have br:Ext H (H++[.dead]):=Ext.more H (by simp)
 refine cP (by simpa using(ea.ext br).row) (by simp) ?_
 simp
 refine bt.b6 (fun ae=>by omega) (fun ae=>?_)
 try simp
 refine cP (by simpa using(ea.ext br).row) (by simp) ?_
 simp
 refine dm.range (by kernel_rfl) l.length (by omega) (by simp) (by rfl) (by simp) (by decide) (by decide) (fun i bR c5 aR=>aR=H++[.dead]/\∃n:Nat,bR 4= .int .u64 n/\n=val (l.take i)) ?_ ?_ ?_
 ·exact⟨rfl,0,by simp,by simp[val]⟩
 ·rintro i bR c5 aR ad a4 ⟨rfl,n,bs,aG⟩ K aX
  simp at a4 bs
  simp[a4]
  obtain⟨y,aK⟩:∃y,l[i]?.getD 0=y:=⟨_,rfl⟩
  have x6:l[i]?=some y:=by rw[<-aK,bB ad];rfl
  have o7:y<4294967296:=aK▸ea.lt i
  refine cY (af:=gf) (n:=i) (by simpa using(ea.ext br).row) (by simp[a4]) x6 (by simp) (by simp) (by simp) (.inr rfl) ?_
  rintro p u ⟨rfl,-⟩
  have ri:IntKind.u64.wrap (y:Int)=(y:Int):=gk (by omega) (by omega)
  have gU:val (l.take (i+1))=n+4294967296^i*y:=by rw[ja,aK,<-aG]
  have jI:n<4294967296^i:=by
   rw[aG]
   have:=kb (l:=l.take i) fun x J=>ea.2 x (List.mem_of_mem_take J)
   rwa[List.length_take,Nat.min_eq_left (by omega)]at this
  rcases(show i=0\/i=1 by omega)with rfl | rfl
  ·have U5:n=0:=by simp at jI;exact jI
   subst U5
   have AG:p7 (0:Int) (y:Int)=(y:Int):=by
    have:=vt (r:=0) (by decide) o7
    simpa using this
   have Eb:IntKind.i64.wrap 0=0:=by decide
   simp[a4,bs,ri,Eb,AG]
   exact aX _ _ _ (by simp[a4]) ⟨rfl,y,by simp,by rw[gU];simp⟩
  ·have Eb:IntKind.i64.wrap 32=32:=by decide
   obtain⟨s,ao⟩:∃s,y*4294967296=s:=⟨_,rfl⟩
   have mB:IntKind.u64.wrap ((y:Int)*4294967296)=(s:Int):=by rw[gk (by omega) (by omega)];omega
   have aW:=vt (r:=y) o7 (show n<4294967296 by simpa using jI)
   rw[ao]at aW
   obtain⟨t,bO⟩:∃t,s+n=t:=⟨_,rfl⟩
   have jF:p7 (n:Int) (s:Int)=(t:Int):=by
    rw[<-bO,<-aW];unfold p7;congr 2;rw[BitVec.or_comm]
   simp[a4,bs,ri,Eb,mB,jF]
   exact aX _ _ _ (by simp[a4]) ⟨rfl,t,by simp,by rw[gU];omega⟩
 ·rintro bR c5 aR a4 ⟨rfl,n,bs,aG⟩
  rw[List.take_length,an]at aG
  simp at bs
  simp[bs]
  refine bt.b6 (fun ae=>by omega) (fun ae=>?_)
  try simp
  have LF:IntKind.i64.wrap (n:Int)=(n:Int):=b7 (by omega) (by omega)
  refine bt.b6 (fun aO=>?_) (fun aO=>?_)
  ·have pW:IntKind.i64.wrap (-(n:Int))= -(n:Int):=b7 (by omega) (by omega)
   simp[bs,LF,pW,bd]
   refine aD _ _ ⟨br,?_⟩
   congr 4
   omega
  ·simp[bs,LF,bd]
   refine aD _ _ ⟨br,?_⟩
   congr 4
   omega
def cg(l:List Nat):ByteArray:=⟨(l.map UInt8.ofNat).toArray⟩
def Bytes(l:List Nat):Prop:=∀x∈l,x<256
theorem jy(l:List Nat):(cg l).size=l.length:=by simp[cg,ByteArray.size]
theorem Qr(l:List Nat)(h:Bytes l)(i:Nat)(ad:i<l.length):((cg l).data.getD i 0).toNat=l[i]?.getD 0:=by
 have J:=h l[i] (List.getElem_mem ad)
 simp only[cg,Array.getD_eq_getD_getElem?,List.getElem?_toArray,List.getElem?_map,bB ad,Option.map_some,Option.getD_some]
 simp[UInt8.toNat_ofNat,Nat.mod_eq_of_lt J]
theorem tI(l:List Nat):(cg l).toList=l.map UInt8.ofNat:=by
 rw[ByteArray.toList_eq]
 simp[cg]
theorem Qq(a b:List Nat):cg a++cg b=cg (a++b):=by
 apply ByteArray.ext
 simp[cg]
theorem qD(l:List Nat)(i j:Nat):(cg l).extract i j=cg ((l.drop i).take (j-i)):=by
 apply ByteArray.ext
 simp[cg,List.map_drop,List.map_take]
theorem ofNat_inj{x y:Nat}(J:x<256)(aK:y<256)(h:UInt8.ofNat x=UInt8.ofNat y):x=y:=by
 have:=congrArg UInt8.toNat h
 simpa[UInt8.toNat_ofNat,Nat.mod_eq_of_lt J,Nat.mod_eq_of_lt aK]using this
theorem Ja{a b:List Nat}(aO:Bytes a)(ag:Bytes b):((cg a).toList==(cg b).toList)=decide (a=b):=by
 rw[tI,tI]
 by_cases h:a=b
 ·subst h;simp
 ·rw[decide_eq_false h,beq_eq_false_iff_ne]
  intro e
  apply h
  apply List.ext_getElem?
  intro i
  have:=congrArg (fun l:List UInt8=>l[i]?) e
  simp only[List.getElem?_map]at this
  cases o:a[i]? with
  | none=>
   cases aa:b[i]? with
   | none=>rfl
   | some y=>rw[o,aa]at this;cases this
  | some x=>
   cases aa:b[i]? with
   | none=>rw[o,aa]at this;simp at this
   | some y=>
    rw[o,aa]at this
    simp only[Option.map_some,Option.some.injEq]at this
    rw[ofNat_inj (aO x (List.mem_of_getElem? o)) (ag y (List.mem_of_getElem? aa)) this]
theorem OE(l:List Nat):strOfNums (l.map fun n:Nat=>(n:Int))=cg l:=by
 apply ByteArray.ext
 simp[strOfNums,cg]
def mS(H:ab)(v:Value)(n:Nat):Prop:=v= .int .u8 (n:Int)/\n<256
instance:b3 mS:=⟨fun h _=>h⟩
theorem Gz(n:Int):Whole prog 5 (.int .u8 n):=⟨by kernel_rfl,rfl,by rw[if_neg (by simp[e3])];exact⟨by kernel_rfl,rfl⟩⟩
theorem Row.bytes{H:ab}{e:Nat}{v:Value}{l:List Nat}(h:Row e 1 false mS H v l):eo H e 1 v l.length ((l.map fun n:Nat=>(n:Int)).map (Value.int .u8))/\Bytes l:=by
 obtain⟨cs,o,aa⟩:=h
 have gn:cs=(l.map fun n:Nat=>(n:Int)).map (Value.int .u8):=by
  obtain⟨a,cap,an,aB,bs,bJ⟩:=o
  apply List.ext_getElem?
  intro i
  by_cases ad:i<l.length
  ·have:=(aa i _ (bB ad)).1
   simp only[ev,Bool.false_eq_true,if_false]at this
   rw[bB (by omega)]at this⊢
   simp only[Option.getD_some]at this
   rw[this]
   simp[bB ad]
  ·rw[List.getElem?_eq_none (by omega),List.getElem?_eq_none (by simp;omega)]
 subst gn
 exact⟨o,fun x J=>by obtain⟨i,ad⟩:=List.getElem?_of_mem J;exact(aa i x ad).2⟩
theorem ZU{k:Nat}{v:Value}{xs:List Nat}{H:ab}(cy:bH k 5 1 false mS H v xs)(ar:xs.length<4611686018427387904):
  aP prog 108 [v] H (fun u H1=>u= .tuple #[]/\bH k 5 1 false mS H1 v xs.reverse/\∀cx:ab,cx.length<=k->Ext cx H->Ext cx H1):=by
 refine aP.b9 fun Q aD=>?_
 apply Yl (by simp)
 simp[ID]
 refine cP (by simpa using cy.row) (by simp) ?_
 have aG:IntKind.i64.wrap ((xs.length:Int)-1)=(xs.length:Int)-1:=b7 (by omega) (by omega)
 simp[aG]
 refine dm.mk (by kernel_rfl) (fun m ay bD H1=>∃(i:Nat) (bS:List Nat),m=xs.length-2*i/\ay 2= .int .i64 i/\ay 3= .int .i64 ((xs.length:Int)-1-i)/\i<=xs.length/\2*i<=xs.length+1/\bH k 5 1 false mS H1 v bS/\bS.length=xs.length/\(∀cx:ab,cx.length<=k->Ext cx H->Ext cx H1)/\
  ∀j,j<xs.length->bS[j]?=if j<i\/xs.length-1-i<j then xs[xs.length-1-j]? else xs[j]?) xs.length ?_ ?_
 ·refine⟨0,xs,by omega,by simp,by simp,by omega,by omega,cy,rfl,fun _ _ h=>h,fun j aW=>?_⟩
  rw[if_neg (by omega)]
 ·rintro m ay bD H1 ⟨i,bS,rfl,aa,aB,ad,ie,iN,o7,bw,nk⟩ K aX
  simp at aa aB
  simp[aa,aB]
  refine bt.b6 (fun ae=>?_) (fun ae=>?_)
  ·obtain⟨j,aW⟩:∃j,xs.length-1-i=j:=⟨_,rfl⟩
   have fs:(xs.length:Int)-1-i=(j:Int):=by omega
   rw[fs]at aB ae
   obtain⟨a,aO⟩:∃a,bS[j]?=some a:=⟨_,bB (by omega)⟩
   obtain⟨b,ag⟩:∃b,bS[i]?=some b:=⟨_,bB (by omega)⟩
   have bm:IntKind.i64.wrap ((i:Int)+1)=(i:Int)+1:=b7 (by omega) (by omega)
   have bk:IntKind.i64.wrap ((j:Int)-1)=(j:Int)-1:=b7 (by omega) (by omega)
   try simp
   simp[aa,aB]
   refine cY (af:=mS) (n:=j) (by simpa using iN.row) (by simp) aO (by simp) (by simp) (by simp) (.inr rfl) ?_
   rintro da pg ⟨rfl,TJ⟩
   simp[aa,aB]
   refine cY (af:=mS) (n:=i) (by simpa using iN.row) (by simp) ag (by simp) (by simp) (by simp) (.inr rfl) ?_
   rintro gB lv ⟨rfl,TO⟩
   refine kR (af:=mS) (n:=i) (a:=a) (by simpa using iN) (by simp) (by omega) ⟨by simp,TJ⟩ (by simpa using Gz _) (by simp) (fun _ _ _ _ _ h=>h) (by simp) (by simp) (by simp) (by decide) ?_
   rintro fC aR fR bf- - -
   simp at fR
   refine kR (af:=mS) (n:=j) (a:=b) (by simpa using fR) (by simp) (by simp;omega) ⟨by simp,TO⟩ (by simpa using Gz _) (by simp) (fun _ _ _ _ _ h=>h) (by simp) (by simp) (by simp) (by decide) ?_
   rintro g8 bP gx bG- - -
   simp at gx
   simp[aa,aB,bm,bk]
   refine aX (xs.length-2*(i+1)) _ _ _ (by omega) ⟨i+1,_,rfl,by simp,by simp;omega,by omega,by omega,by simpa using gx,by simp[o7],fun cx aI J=>bG cx aI (bf cx aI (bw cx aI J)),fun t bO=>?_⟩
   have MU:=nk j (by omega)
   have ve:=nk i (by omega)
   rw[if_neg (by omega),aO]at MU
   rw[if_neg (by omega),ag]at ve
   by_cases A1:t=j
   ·subst A1
    rw[List.getElem?_set_self (by simp;omega),if_pos (by omega),show xs.length-1-t=i by omega,ve]
   ·rw[List.getElem?_set_ne (Ne.symm A1)]
    by_cases A0:t=i
    ·subst A0
     rw[List.getElem?_set_self (by omega),if_pos (by omega),aW,MU]
    ·rw[List.getElem?_set_ne (Ne.symm A0),nk t bO]
     by_cases av:t<i\/xs.length-1-i<t
     ·rw[if_pos av,if_pos (by omega)]
     ·rw[if_neg av,if_neg (by omega)]
  ·try simp
   simp[bd]
   refine aD _ _ ⟨rfl,?_,bw⟩
   have:bS=xs.reverse:=by
    apply List.ext_getElem?
    intro t
    by_cases bO:t<xs.length
    ·rw[nk t bO,List.getElem?_reverse bO]
     split
     ·rfl
     ·have:t=xs.length-1-t:=by omega
      rw[<-this]
    ·rw[List.getElem?_eq_none (by omega),List.getElem?_eq_none (by simp;omega)]
   rw[<-this]
   exact iN
def iY(n:Nat):List Nat:=if h:n=0 then[]else(48+n % 10)::iY (n/10)
termination_by n
decreasing_by omega
theorem vB:iY 0=[]:=by unfold iY;simp
theorem BA{n:Nat}(h:0<n):iY n=(48+n % 10)::iY (n/10):=by
 conv=>lhs;unfold iY
 rw[dif_neg (by omega)]
theorem ZN(n:Nat):Bytes (iY n):=by
 induction n using Nat.strongRecOn with
 | _ n a0=>
  rcases Nat.eq_zero_or_pos n with h | h
  ·subst h;rw[vB];intro x J;cases J
  ·rw[BA h]
   intro x J
   rcases List.mem_cons.1 J with rfl | J
   ·omega
   ·exact a0 (n/10) (by omega) x J
theorem Ob(n k:Nat)(h:n<10^k):(iY n).length<=k:=by
 induction k generalizing n with
 | zero=>simp at h;subst h;rw[vB];simp
 | succ k a0=>
  rcases Nat.eq_zero_or_pos n with aI | aI
  ·subst aI;rw[vB];simp
  ·rw[BA aI]
   simp only[List.length_cons]
   have:=a0 (n/10) (by rw[Nat.pow_succ]at h;omega)
   omega
def dec(n:Nat):List Nat:=if n=0 then[48]else(iY n).reverse
theorem Jz(n:Nat):Bytes (dec n):=by
 unfold dec
 split
 ·intro x J;simp at J;omega
 ·intro x J;exact ZN n x (by simpa using J)
@[simp] theorem agc:hr undef=none:=rfl
@[simp] theorem afg(w:Bool)(dk cV:Prop)(ax:ba dk cV):oD dk cV ax none w=cV:=by unfold oD nE;simp
theorem aaV{v:Value}{x:List Nat}{H:ab}(aT:c6 H 124 v x)(bc:Trim x)(ar:x.length<=1000000):aP prog 78 [v] H (fun u H1=>Ext H H1/\u= .string (cg (dec (val x)))):=by
 refine aP.b9 fun Q aD=>?_
 apply XM (by simp)
 simp[Ic]
 refine cP (by simpa using aT.row) (by simp) ?_
 simp
 refine bt.b6 (fun ae=>?_) (fun ae=>?_)
 ·have br:x=[]:=by simpa using ae
  subst br
  simp[bd]
  exact aD _ _ ⟨Ext.refl _,by rw[show dec (val [])=[48]from by simp[dec,val]];rfl⟩
 try simp
 have hA:0<val x:=bc.pos.1 (by
  rcases Nat.eq_zero_or_pos x.length with h | h
  ·exact absurd (by simpa using h) ae
  ·exact h)
 have ahw:(iY (val x)).length<100000000:=by
  have o:=ZC 1000000 (kb aT.2) ar
  have:=Ob _ _ o
  omega
 refine dm.mk (by kernel_rfl) (fun n ay bD H1=>Ext H H1/\∃(y b:List Nat),n=val y/\c6 H1 124 (ay 0) y/\Trim y/\y.length<=1000000/\bH H.length 5 1 false mS H1 (ay 3) b/\iY (val x)=b++iY (val y)) (val x) ?_ ?_
 ·exact⟨Ext.refl _,x,[],rfl,by simpa using aT,bc,ar,by simpa using bH.nil _ _ _ _ _ _,rfl⟩
 ·rintro n ay bD H1 ⟨bw,y,b,rfl,aK,qQ,u4,ag,aA⟩ K aX
  simp at aK ag
  simp
  refine cP (by simpa using aK.row) (by simp) ?_
  simp
  refine bt.b6 (fun a2=>?_) (fun a2=>?_)
  ·try simp
   have sX:0<val y:=qQ.pos.1 a2
   refine aV.mk (Jd (w:=1000000000) aK (by omega) (by decide) (by decide)) ?_
   rintro u aR ⟨bf,q,hU,rfl,av,pI,sV⟩
   obtain⟨fE,gR⟩:∃fE,val y % 1000000000=fE:=⟨_,rfl⟩
   have Vs:fE<1000000000:=by rw[<-gR];exact Nat.mod_lt _ (by decide)
   rw[gR]
   simp
   have ji:val y=val hU*1000000000+fE:=by have:=Nat.div_add_mod (val y) 1000000000;rw[sV];omega
   refine dm.mk (by kernel_rfl) (fun m dt ez bP=>c6 bP 124 q hU/\Ext H bP/\∃(r:Nat) (ct:List Nat),m<=9/\dt 6= .int .i64 ((9-m:Nat):Int)/\dt 5= .int .u32 r/\r<10^m/\bH H.length 5 1 false mS bP (dt 3) ct/\iY (val x)=ct++iY (val hU*10^m+r)) 9 ?_ ?_
   ·refine⟨av,bw.aw bf,fE,b,by omega,by simp,by simp,by omega,by simpa using b3.ext ag bf,?_⟩
    rw[aA,ji]
   ·rintro m dt ez bP ⟨bG,x3,r,ct,hm,dP,bJ,al,c8,jD⟩ cV dw
    simp at dP bJ c8
    simp only[l8]
    refine ca.join (by kernel_rfl) (fun c0 dS b0=>b0=bP/\∃c:Bool,c0 28= .bool c/\(c=true↔0<m/\(0<hU.length\/0<r))) ?_ ?_
    ·rintro mg fA-
     rcases Nat.eq_zero_or_pos m with aI | aI
     ·have wy:(((9-m:Nat):Int)<9)=False:=by simp;omega
      simp[dP,wy]
      refine fA _ _ _ ⟨rfl,false,by simp,?_⟩
      simp[aI]
     ·have wy:(((9-m:Nat):Int)<9)=True:=by simp;omega
      simp[dP,wy]
      refine cP (by simpa using bG.row) (by simp) ?_
      rcases Nat.eq_zero_or_pos hU.length with pS | pS
      ·simp[dP,wy,pS,bJ]
       refine fA _ _ _ ⟨rfl,decide (0<r),by simp,?_⟩
       simp[aI,pS]
      ·have RD:((0:Int)<(hU.length:Int))=True:=by simp;omega
       simp[dP,wy,pS,RD]
       refine fA _ _ _ ⟨rfl,true,by simp,?_⟩
       simp[aI,pS]
    ·rintro c0 dS b0 ⟨rfl,c,J_,ae⟩
     simp at J_
     simp[J_]
     refine bt.mk (fun fX=>?_) (fun fX=>?_)
     ·have xb:=ae.1 fX
      obtain⟨mG,rfl⟩:∃mG,m=mG+1:=⟨m-1,by omega⟩
      try simp
      have bm:IntKind.u32.wrap (48+((r % 10:Nat):Int))=((48+r % 10:Nat):Int):=by rw[l_ (by omega) (by omega)];omega
      have bk:((r:Int).tmod 10)=((r % 10:Nat):Int):=rfl
      have fP:((r:Int).tdiv 10)=((r/10:Nat):Int):=rfl
      obtain⟨zC,uO⟩:∃zC,r % 10=zC:=⟨_,rfl⟩
      obtain⟨dR,fB⟩:∃dR,r/10=dR:=⟨_,rfl⟩
      rw[uO]at bm bk
      rw[fB]at fP
      obtain⟨tL,KY⟩:∃tL,48+zC=tL:=⟨_,rfl⟩
      rw[KY]at bm
      have kJ:r<4294967296:=by
       have:10^(mG+1)<=10^9:=Nat.pow_le_pow_right (by decide) hm
       omega
      have k3:IntKind.u8.wrap (tL:Int)=(tL:Int):=B_ (by omega) (by omega)
      have mW:IntKind.u32.wrap (dR:Int)=(dR:Int):=l_ (by omega) (by omega)
      simp[bJ,bm,bk,k3]
      refine qh (af:=mS) (xs:=ct) (a:=tL) (k:=H.length) (e:=5) (U:=1) (bI:=1) (aC:=false) (z:= .int .u8 0) (by simpa using c8) ⟨by simp,by omega⟩ (by simpa using Gz _) (by simp) (fun _ _ _ _ _ h=>h) (by simp) (by simp) (by simp) (by simp) (by simp) (by simp) (by simp) (by rfl) (by rfl) (by decide) (by decide) (by decide) ?_ (Ext.len x3) ?_
      ·have:ct.length<=(iY (val x)).length:=by rw[jD];simp
       omega
      rintro p au b8 sh cR D6
      have qJ:IntKind.i64.wrap (((9-(mG+1):Nat):Int)+1)=((9-mG:Nat):Int):=by rw[b7 (by omega) (by omega)];omega
      simp at qJ
      simp[bJ,fP,mW,dP,qJ]
      obtain⟨P,jj⟩:∃P,10^mG=P:=⟨_,rfl⟩
      have z0:10^(mG+1)=P*10:=by rw[Nat.pow_succ,jj]
      rw[z0]at al jD
      have S6:0<P:=by rw[<-jj];exact Nat.pow_pos (by decide)
      refine dw mG _ _ _ (by omega) ⟨⟨bG.1.kept D6 (by decide),bG.2⟩,cR _ (Nat.le_refl _) x3,dR,ct++[tL],by omega,by simp[qJ],by simp,by rw[jj];omega,by simpa using sh,?_⟩
      rw[jj]
      rw[jD]
      have cd:val hU*(P*10)+r=(val hU*P)*10+r:=by rw[Nat.mul_assoc]
      rw[cd]
      rw[BA (n:=(val hU*P)*10+r) (by
       rcases xb.2 with h | h
       ·have cS:=pI.pos.1 h
        have ej:=Nat.mul_pos cS S6
        omega
       ·omega)]
      have h9:(val hU*P*10+r) % 10=zC:=by omega
      have jf:(val hU*P*10+r)/10=val hU*P+dR:=by omega
      rw[h9,jf,KY]
      simp
     ·try simp
      have SU:val hU*10^m+r=val hU:=by
       have aG:¬(0<m/\(0<hU.length\/0<r)):=fun h=>by rw[ae.2 h]at fX;cases fX
       rcases Nat.eq_zero_or_pos m with aI | aI
       ·subst aI;simp at al⊢;omega
       ·have o:¬0<hU.length:=fun h=>aG ⟨aI,Or.inl h⟩
        have aa:¬0<r:=fun h=>aG ⟨aI,Or.inr h⟩
        have aB:val hU=0:=by
         rcases Nat.eq_zero_or_pos (val hU)with h | h
         ·exact h
         ·exact absurd (pI.pos.2 h) o
        rw[aB];omega
      rw[SU]at jD
      refine aX (val hU) _ _ _ (by omega) ⟨x3,hU,ct,rfl,by simpa using bG,pI,?_,by simpa using c8,jD⟩
      rcases Nat.lt_or_ge y.length hU.length with h | h
      ·have:=Trim.vl pI aK.2 h
       omega
      ·omega
  ·try simp
   have vd:val y=0:=by
    rcases Nat.eq_zero_or_pos (val y)with h | h
    ·exact h
    ·exact absurd (qQ.pos.2 h) a2
   rw[vd,vB,List.append_nil]at aA
   refine aV.mk (ZU ag (by rw[<-aA];omega)) ?_
   rintro u aR ⟨rfl,lR,bf⟩
   have uI:=lR.row.bytes
   simp only[List.length_reverse]at uI
   simp
   refine abb (xs:=b.reverse.map fun n:Nat=>(n:Int)) (by rfl) (by rfl) (by rfl) (by simpa using uI.1) ?_
   simp[bd,OE]
   refine aD _ _ ⟨bf _ (Nat.le_refl _) bw,?_⟩
   rw[<-List.map_reverse,OE,<-aA]
   unfold dec
   rw[if_neg (by omega)]
variable {P:Program} {r:List bF} {Q:Fr->ab->Prop} {F:Fr} {H:ab}
theorem iF{d t:Nat}{x:Operand}{l:List Nat}{ax:ba (bA d t x::r) Q}(an:aq F x= .string (cg l))(bO:iE P t=true)(K:a_ P r Q .mk (a1 F d (.int .i64 l.length)) H):a_ P (bA d t x::r) Q ax F H:=by
 rw[iq,an,YH,if_pos bO,jy]
 exact K
theorem CH{a b:List Nat}(h:a.length+b.length<=9223372036854775807):(if(cg a).size+(cg b).size<=9223372036854775807 then some (Value.string (cg a++cg b))else none)=some (.string (cg (a++b))):=by
 rw[jy,jy,if_pos h,Qq]
theorem Nc:({data:= #[45]}:ByteArray)=cg [45]:=rfl
theorem Nd:({data:= #[47]}:ByteArray)=cg [47]:=rfl
def gr(q:Rat):List Nat:=(if q.num<0 then[45]else[])++dec q.num.natAbs++(if q.den=1 then[]else 47::dec q.den)
def lD(q:Rat):Prop:=(dec q.num.natAbs).length<=4000/\(q.den=1\/(dec q.den).length<=4000)
instance(q:Rat):Decidable (lD q):=by unfold lD;exact inferInstance
theorem OM{v:Value}{x d:List Nat}{H:ab}(aT:c6 H 124 v x)(bc:Trim x)(ar:x.length<=1000000)(aA:dec (val x)=d):aP prog 78 [v] H (fun u H1=>Ext H H1/\u= .string (cg d)):=by
 subst aA
 exact aaV aT bc ar
theorem Oh{v:Value}{q:Rat}{N:Nat}{H:ab}(an:cc H v q)(ao:dn N q)(bQ:N<=32000000):
  aP prog 51 [v] H (fun u H1=>Ext H H1/\u=if lD q then .tuple #[.string (cg (gr q)),.int .i64 0]else .tuple #[.string (cg []),.int .i64 5]):=by
 refine aP.b9 fun Q aD=>?_
 apply Xx (by simp)
 have CV:=ao.num bQ
 have zH:=ao.den bQ
 have EC:=an
 obtain⟨s1,b1,cT,cn,s2,cA,c2,cD,rfl,o,aa⟩:=an.shape
 obtain⟨Bb,rfl,DF,k7,nf⟩:=o.us
 obtain⟨Bc,rfl,qR,hx,iQ⟩:=aa.us
 obtain⟨d1,ic⟩:∃d,dec q.num.natAbs=d:=⟨_,rfl⟩
 obtain⟨d2,lT⟩:∃d,dec q.den=d:=⟨_,rfl⟩
 simp[H6]
 have br:Ext H (H++[.dead]):=Ext.more H (by simp)
 refine aV.mk (OM (d:=d1) (DF.ext br) k7 (CV.length k7 nf) (by rw[nf,ic])) ?_
 rintro u H1 ⟨bw,rfl⟩
 simp
 refine iF (l:=d1) (by simp) (by rfl) ?_
 simp
 refine bt.b6 (fun ae=>?_) (fun ae=>?_)
 ·try simp
  simp[bd]
  refine aD _ _ ⟨br.aw bw,?_⟩
  rw[if_neg (by unfold lD;rw[ic];omega)]
  rfl
 try simp
 refine ca.join (by kernel_rfl) (fun c0 dS b0=>b0=H1/\c0 4= .string (cg ((if q.num<0 then[45]else[])++d1))) ?_ ?_
 ·rintro K aX-
  simp
  refine bt.b6 (fun ao=>?_) (fun ao=>?_)
  ·simp[Nc,CH (a:=[45]) (b:=d1) (by simp;omega)]
   refine aX _ _ _ ⟨rfl,?_⟩
   simp[ao]
  ·try simp
   refine aX _ _ _ ⟨rfl,?_⟩
   simp[ao]
 ·rintro c0 dS b0 ⟨rfl,bs⟩
  simp at bs
  simp
  have V2:=cc.ext EC (br.aw bw)
  refine aV.mk (E7 V2 (by have:=q.den_pos;omega)) ?_
  rintro u aR ⟨bf,rfl⟩
  simp
  refine bt.b6 (fun ad=>?_) (fun ad=>?_)
  ·have gp:q.den=1:=by omega
   try simp
   simp[bd]
   refine aD _ _ ⟨br.aw (bw.aw bf),?_⟩
   rw[if_pos ⟨by rw[ic];omega,Or.inl gp⟩]
   simp[gr,gp,ic,bs]
  have gp:¬q.den=1:=by omega
  try simp
  refine aV.mk (OM (d:=d2) (qR.ext (br.aw (bw.aw bf))) hx (zH.length hx iQ) (by rw[iQ];simpa using lT)) ?_
  rintro u bP ⟨bG,rfl⟩
  simp
  refine iF (l:=d2) (by simp) (by rfl) ?_
  simp
  refine bt.b6 (fun m3=>?_) (fun m3=>?_)
  ·try simp
   simp[bd]
   refine aD _ _ ⟨br.aw (bw.aw (bf.aw bG)),?_⟩
   rw[if_neg (by unfold lD;rw[ic,lT];omega)]
   rfl
  ·obtain⟨FT,od⟩:∃l,((if q.num<0 then[45]else[])++d1:List Nat)=l:=⟨_,rfl⟩
   have ld:FT.length<=1+d1.length:=by rw[<-od];split<;>simp<;>omega
   rw[od]at bs
   simp[bs,Nd,CH (a:=FT) (b:=[47]) (by simp;omega),CH (a:=FT++[47]) (b:=d2) (by simp;omega),bd]
   refine aD _ _ ⟨br.aw (bw.aw (bf.aw bG)),?_⟩
   rw[if_pos ⟨by rw[ic];omega,Or.inr (by rw[lT];omega)⟩]
   simp[gr,gp,ic,lT,<-od]
def db(c:Nat):List Nat->List Nat×Option (List Nat)
 | []=>([],none)
 | x::r=>if x=c then([],some r)else(x::(db c r).1,(db c r).2)
theorem tP{c:Nat}{l r:List Nat}(h:(db c l).2=some r):l=(db c l).1++c::r:=by
 induction l with
 | nil=>simp[db]at h
 | cons x l a0=>
  unfold db at h⊢
  split at h
  ·next J=>simp at h;subst h;simp[J]
  ·next J=>simp[J];exact a0 h
theorem tO{c:Nat}{l:List Nat}(h:(db c l).2=none):(db c l).1=l:=by
 induction l with
 | nil=>simp[db]
 | cons x l a0=>
  unfold db at h⊢
  split at h
  ·simp at h
  ·next J=>simp[J];exact a0 h
theorem Jy{c:Nat}(l:List Nat):c∉(db c l).1:=by
 induction l with
 | nil=>simp[db]
 | cons x l a0=>
  unfold db
  split
  ·simp
  ·next J=>simp;exact⟨fun h=>J h.symm,a0⟩
theorem Qs(l:List Nat)(i:Nat)(ad:i<l.length):(cg l)[i]! =UInt8.ofNat l[i]:=by
 have o:i<(cg l).size:=by rw[jy];exact ad
 rw[getElem!_pos (cg l) i o]
 simp[cg,ByteArray.getElem_eq_getElem_data]
theorem R6{c:Nat}{l:List Nat}(ar:Bytes l)(ae:c<256):((List.range (cg l).size).find? fun i=>(cg l)[i]! ==UInt8.ofNat c)=(db c l).2.map fun _=>(db c l).1.length:=by
 rw[jy]
 have key:∀i (ad:i<l.length),((cg l)[i]! ==UInt8.ofNat c)=decide (l[i]=c):=by
  intro i ad
  rw[Qs l i ad]
  by_cases h:l[i]=c
  ·rw[h];simp
  ·rw[decide_eq_false h,beq_eq_false_iff_ne]
   intro e
   exact h (ofNat_inj (ar _ (List.getElem_mem ad)) ae e)
 cases al:(db c l).2 with
 | none=>
  rw[Option.map_none,List.find?_range_eq_none]
  intro i ad
  rw[key i ad]
  have o:=tO al
  have aa:=Jy (c:=c) l
  rw[o]at aa
  have:l[i]≠c:=fun e=>aa (e▸List.getElem_mem ad)
  simp[this]
 | some r=>
  rw[Option.map_some,List.find?_range_eq_some]
  have o:=tP al
  have aa:=Jy (c:=c) l
  generalize (db c l).1=a at o aa
  subst o
  refine⟨?_,by simp,?_⟩
  ·rw[key _ (by simp)];simp
  ·intro j aW
   rw[key _ (by simp;omega)]
   rw[List.getElem_append_left aW]
   have:a[j]≠c:=fun e=>aa (e▸List.getElem_mem aW)
   simp[this]
def nm(c:Nat)(l:List Nat):Int:=match(db c l).2 with | some _=>((db c l).1.length:Int) | none=> -1
theorem WC{l:List Nat}{c:Nat}{H:ab}(ar:Bytes l)(ae:c<256):
  aP prog 133 [.string (cg l),.int .u8 c] H (fun u H1=>H1=H/\u= .int .i64 (nm c l)):=by
 refine⟨.int .i64 (nm c l),H,.inr ⟨⟨by simp[hb,flat],by simp[flat,hb],?_⟩,rfl⟩,rfl,rfl⟩
 have aI:(prog.funcs[133]?).isSome=true:=by kernel_rfl
 have aa:((prog.funcs[133]?).map fun fn=>fn.name== "runtime.NumGoroutine")=some false:=by kernel_rfl
 have aB:((prog.funcs[133]?).map fun fn=>fn.body.isNone)=some true:=by kernel_rfl
 have bs:((prog.funcs[133]?).map fun fn=>Extern.findNext fn)=some none:=by kernel_rfl
 have bJ:((prog.funcs[133]?).map fun fn=>Extern.find fn)=some (some Extern.BytealgIndexByte.indexByte):=by kernel_rfl
 obtain⟨fn,az⟩:=Option.isSome_iff_exists.1 aI
 rw[az]at aa aB bs bJ
 simp only[Option.map_some,Option.some.injEq]at aa aB bs bJ
 have bm:dy prog program=some prog:=rfl
 have bk:∀m,dy prog (mark m)=some ():=fun m=>rfl
 have fP:dy prog (Extern.BytealgIndexByte.indexByte #[.string (cg l),.int .u8 c])=some (.int .i64 (nm c l)):=by
  have k3:(c:Int).toNat.toUInt8=UInt8.ofNat c:=by simp
  show dy prog ((pure (cg l):Sem ByteArray)>>=fun b=>(pure (c:Int).toNat.toUInt8:Sem UInt8)>>=fun c=>match(List.range b.size).find? fun i=>b[i]! ==c with | some i=>pure (goInt i) | none=>pure (goInt (-1)))=_
  simp only[fD,e9,Option.bind_some,k3,R6 ar ae]
  unfold nm
  cases(db c l).2<;>simp[e9]<;>rfl
 have tX:¬fn.name= "runtime.NumGoroutine" :=by simpa using aa
 have Sp:fn.body=none:=by simpa using aB
 simp[callFunc,fD,pb,bm,az,tX,Sp,bs,bJ,bk,fP,e9]
section
variable {P:Program} {r:List bF} {Q:Fr->ab->Prop} {F:Fr} {H:ab}
theorem oz{d t n:Nat}{x i:Operand}{l:List Nat}{nn:IntKind}{ax:ba (ek d t x i::r) Q}(an:aq F x= .string (cg l))(bE:Bytes l)(ad:aq F i= .int nn n)(aG:n<l.length)(bO:iE P t=true)(K:a_ P r Q .mk (a1 F d (.int .u8 (l[n]?.getD 0:Nat))) H):a_ P (ek d t x i::r) Q ax F H:=by
 have e:(((cg l).data.getD ((n:Int).toNat) 0).toNat:Int)=((l[n]?.getD 0:Nat):Int):=by rw[Int.toNat_natCast,Qr l bE n aG]
 have ae:iE P t=true/\(0:Int)<=(n:Int)/\(n:Int)<((cg l).size:Int):=⟨bO,by omega,by rw[jy];omega⟩
 rw[ka,an,ad,GY,pw]
 refine dB.mk ae ?_
 rw[e]
 exact K
end
theorem Wy(c:Nat):nm c [c]=0:=by simp[nm,db]
theorem WD{l:List Nat}{c:Nat}{H:ab}(ar:Bytes l)(ae:c<256):
  aP prog 128 [.string (cg l),.int .u8 c] H (fun u H1=>H1=H/\u= .int .i64 (nm c l)):=by
 refine aP.b9 fun Q aD=>?_
 apply Ys (by simp)
 simp[IK]
 refine aV.mk (WC ar ae) ?_
 rintro u H ⟨rfl,rfl⟩
 simp[bd]
 exact aD _ _ ⟨rfl,rfl⟩
theorem WI{l:List Nat}{c:Nat}{H:ab}(ar:Bytes l)(ae:c<256):
  aP prog 120 [.string (cg l),.string (cg [c])] H (fun u H1=>H1=H/\u= .int .i64 (nm c l)):=by
 refine aP.b9 fun Q aD=>?_
 apply Yr (by simp)
 simp[IJ]
 refine iF (l:=[c]) (by simp) (by rfl) ?_
 simp
 refine ca.join (by kernel_rfl) (fun c0 dS b0=>b0=H/\c0 16= .bool (decide ([c]=l))) ?_ ?_
 ·rintro K aX-
  simp
  refine aX _ _ _ ⟨rfl,?_⟩
  simp[Ja (a:=[c]) (b:=l) (by intro x J;simp at J;omega) ar]
 ·rintro c0 dS H ⟨rfl,J8⟩
  simp at J8
  simp[J8]
  refine bt.b6 (fun he=>?_) (fun he=>?_)
  ·subst he
   try simp
   simp[bd]
   exact aD _ _ ⟨rfl,by rw[Wy]⟩
  ·try simp
   refine oz (n:=0) (nn:= .i64) (l:=[c]) (by simp) (by intro x J;simp at J;omega) (by simp) (by simp) (by rfl) ?_
   simp
   refine aV.mk (WD ar ae) ?_
   rintro u H ⟨rfl,rfl⟩
   simp[bd]
   exact aD _ _ ⟨rfl,rfl⟩
theorem aay{l:List Nat}{c:Nat}{H:ab}(ar:Bytes l)(ae:c<256)(hlen:l.length<4611686018427387904):
  aP prog 114 [.string (cg l),.string (cg [c])] H (fun u H1=>H1=H/\u= .tuple #[.string (cg (db c l).1),.string (cg ((db c l).2.getD [])),.bool (db c l).2.isSome]):=by
 refine aP.b9 fun Q aD=>?_
 apply Yo (by simp)
 simp[IG]
 refine aV.mk (WI ar ae) ?_
 rintro u H ⟨rfl,rfl⟩
 cases al:(db c l).2 with
 | none=>
  have e:nm c l= -1:=by simp[nm,al]
  simp[e,bd]
  refine aD _ _ ⟨rfl,?_⟩
  rw[tO al,al]
  rfl
 | some q=>
  have o:=tP al
  have e:nm c l=((db c l).1.length:Int):=by simp[nm,al]
  obtain⟨a,aO⟩:∃a,(db c l).1=a:=⟨_,rfl⟩
  rw[aO]at o e
  simp[e]
  refine vK (l:=0) (h:=a.length) (s:=cg l) (by simp) (by rfl) (by simp[dM]) (by simp[e2]) (by omega) (by rw[jy,o];simp) ?_
  simp
  refine iF (l:=[c]) (by simp) (by rfl) ?_
  have ahO:l.length=a.length+1+q.length:=by rw[o];simp;omega
  have RW:IntKind.i64.wrap ((a.length:Int)+1)=((a.length+1:Nat):Int):=by rw[b7 (by omega) (by omega)];omega
  simp[RW]
  refine vK (l:=a.length+1) (h:=l.length) (s:=cg l) (by simp) (by rfl) (by simp[dM];omega) (by simp[e2,jy]) (by omega) (by rw[jy];omega) ?_
  simp[bd]
  refine aD _ _ ⟨rfl,?_⟩
  rw[qD,qD,al,aO]
  have bm:((List.drop 0 l).take (a.length-0))=a:=by rw[o];simp
  have bk:((List.drop (a.length+1) l).take (l.length-(a.length+1)))=q:=by
   rw[List.take_of_length_le (by simp)]
   rw[o,show a++c::q=(a++[c])++q from by simp,List.drop_left' (by simp)]
  rw[bm,bk]
  rfl
theorem QU{l:List Nat}{c:Nat}{H:ab}(ar:Bytes l)(ae:c<256)(hlen:l.length<4611686018427387904):
  aP prog 98 [.string (cg l),.string (cg [c])] H (fun u H1=>H1=H/\u= .tuple #[.string (cg (db c l).1),.string (cg ((db c l).2.getD [])),.bool (db c l).2.isSome]):=by
 refine aP.b9 fun Q aD=>?_
 apply Ym (by simp)
 simp[IE]
 refine aV.mk (aay ar ae hlen) ?_
 rintro u H ⟨rfl,rfl⟩
 simp[bd]
 exact aD _ _ ⟨rfl,rfl⟩
theorem TL{l:List Nat}{c:Nat}{H:ab}(ar:Bytes l)(ae:c<256):
  aP prog 121 [.string (cg l),.string (cg [c])] H (fun u H1=>H1=H/\u= .bool (decide (l.head?=some c))):=by
 refine aP.b9 fun Q aD=>?_
 apply Yq (by simp)
 simp[II]
 refine ca.join (by kernel_rfl) (fun c0 dS b0=>b0=H/\c0 4= .bool (decide (l.head?=some c))) ?_ ?_
 ·rintro K aX-
  simp
  refine iF (l:=l) (by simp) (by rfl) ?_
  simp
  refine iF (l:=[c]) (by simp) (by rfl) ?_
  cases l with
  | nil=>
   simp
   refine aX _ _ _ ⟨rfl,by simp⟩
  | cons x r=>
   have e:((1:Int)<=((r.length:Int)+1))=True:=by simp;omega
   simp[e]
   refine iF (l:=[c]) (by simp) (by rfl) ?_
   simp
   refine vK (l:=0) (h:=1) (s:=cg (x::r)) (by simp) (by rfl) (by simp[dM]) (by simp[e2]) (by omega) (by rw[jy];simp) ?_
   rw[qD]
   simp
   refine aX _ _ _ ⟨rfl,?_⟩
   have J:x<256:=ar x (by simp)
   simp[Ja (a:=[x]) (b:=[c]) (by intro y aK;simp at aK;omega) (by intro y aK;simp at aK;omega)]
 ·rintro c0 dS H ⟨rfl,bs⟩
  simp at bs
  simp[bs,bd]
  exact aD _ _ ⟨rfl,rfl⟩
def ju(c:Nat)(l:List Nat):List Nat:=if l.head?=some c then l.tail else l
theorem aax{l:List Nat}{c:Nat}{H:ab}(ar:Bytes l)(ae:c<256):
  aP prog 115 [.string (cg l),.string (cg [c])] H (fun u H1=>H1=H/\u= .tuple #[.string (cg (ju c l)),.bool (decide (l.head?=some c))]):=by
 refine aP.b9 fun Q aD=>?_
 apply Yp (by simp)
 simp[IH]
 refine aV.mk (TL ar ae) ?_
 rintro u H ⟨rfl,rfl⟩
 by_cases h:l.head?=some c
 ·simp[h]
  refine iF (l:=[c]) (by simp) (by rfl) ?_
  simp
  refine vK (l:=1) (h:=l.length) (s:=cg l) (by simp) (by rfl) (by simp[dM]) (by simp[e2,jy]) ?_ (by rw[jy];omega) ?_
  ·cases l with
   | nil=>simp at h
   | cons x r=>simp
  rw[qD]
  simp[bd]
  refine aD _ _ ⟨rfl,?_⟩
  unfold ju
  rw[if_pos h,List.take_of_length_le (by simp)]
  simp[h]
 ·simp[h,bd]
  refine aD _ _ ⟨rfl,?_⟩
  unfold ju
  rw[if_neg h]
  simp[h]
theorem QS{l:List Nat}{c:Nat}{H:ab}(ar:Bytes l)(ae:c<256):
  aP prog 99 [.string (cg l),.string (cg [c])] H (fun u H1=>H1=H/\u= .tuple #[.string (cg (ju c l)),.bool (decide (l.head?=some c))]):=by
 refine aP.b9 fun Q aD=>?_
 apply Yn (by simp)
 simp[IF]
 refine aV.mk (aax ar ae) ?_
 rintro u H ⟨rfl,rfl⟩
 simp[bd]
 exact aD _ _ ⟨rfl,rfl⟩
def hJ(c:Nat):Prop:=48<=c/\c<=57
instance(c:Nat):Decidable (hJ c):=by unfold hJ;exact inferInstance
def hK(l:List Nat):Prop:=(∀c∈l,hJ c)/\l≠[]/\¬(l.head?=some 48/\1<l.length)/\l.length<=4000
instance(l:List Nat):Decidable (hK l):=by unfold hK;exact inferInstance
def dE(l:List Nat):Nat:=l.foldl (fun a c=>10*a+(c-48)) 0
theorem JF(l:List Nat)(a:Nat):l.foldl (fun a c=>10*a+(c-48)) a=a*10^l.length+dE l:=by
 induction l generalizing a with
 | nil=>simp[dE]
 | cons c l a0=>
  unfold dE
  simp only[List.foldl_cons,List.length_cons]
  rw[a0,a0 (10*0+(c-48)),Nat.pow_succ]
  rw[show(10*a+(c-48))*10^l.length=a*(10^l.length*10)+(c-48)*10^l.length from by rw[Nat.add_mul];congr 1;rw[Nat.mul_comm 10 a,Nat.mul_assoc,Nat.mul_comm 10]]
  simp;omega
theorem zE(a b:List Nat):dE (a++b)=dE a*10^b.length+dE b:=by
 unfold dE
 rw[List.foldl_append]
 exact JF b _
theorem RA(c:Nat)(r:List Nat):dE (c::r)=(c-48)*10^r.length+dE r:=by
 conv=>lhs;unfold dE
 rw[List.foldl_cons,JF]
 simp
theorem RB(c:Nat):dE [c]=c-48:=by simp[dE]
theorem qI{l:List Nat}(h:∀c∈l,hJ c):dE l<10^l.length:=by
 induction l with
 | nil=>simp[dE]
 | cons c r a0=>
  have o:=a0 fun x J=>h x (by simp[J])
  have aa:=h c (by simp)
  unfold hJ at aa
  rw[RA,List.length_cons,Nat.pow_succ]
  have aB:(c-48)*10^r.length<=9*10^r.length:=Nat.mul_le_mul_right _ (by omega)
  omega
theorem JH{l:List Nat}{i:Nat}(ad:i<l.length):dE (l.take (i+1))=dE (l.take i)*10+(l[i]?.getD 0-48):=by
 rw[List.take_succ_eq_append_getElem ad,zE,RB,bB ad]
 simp
theorem Zb{l:List Nat}{H:ab}(ar:Bytes l)(hlen:l.length<4611686018427387904):
  aP prog 100 [.string (cg l)] H (fun u H1=>Ext H H1/\if hK l then∃v x,u= .tuple #[v,.bool true]/\c6 H1 124 v x/\Trim x/\val x=dE l else u= .tuple #[.slice none 0 0,.bool false]):=by
 refine aP.b9 fun Q aD=>?_
 apply XL (by simp)
 simp[Ib]
 refine iF (l:=l) (by simp) (by rfl) ?_
 simp
 refine dm.range (by kernel_rfl) l.length (by omega) (by simp) (by rfl) (by simp) (by decide) (by decide) (fun i bR c5 aR=>aR=H/\∀c∈l.take i,hJ c) ?_ ?_ ?_
 ·exact⟨rfl,by simp⟩
 ·rintro i ay bD H1 ad a4 ⟨rfl,aA⟩ K aX
  simp at a4
  simp[a4]
  refine ca.join (by kernel_rfl) (fun c0 dS b0=>b0=H1/\c0 24= .bool (decide (¬hJ (l[i]?.getD 0)))) ?_ ?_
  ·rintro cV dw-
   obtain⟨c,ae⟩:∃c,l[i]?.getD 0=c:=⟨_,rfl⟩
   simp
   refine oz (n:=i) (nn:= .i64) (l:=l) (by simp) ar (by simp) ad (by rfl) ?_
   rw[ae]
   rcases Nat.lt_or_ge c 48 with o | o
   ·have bm:((c:Int)<48)=True:=by simp;omega
    simp[bm]
    refine dw _ _ _ ⟨rfl,?_⟩
    simp[hJ];omega
   ·have bm:((c:Int)<48)=False:=by simp;omega
    simp[bm]
    refine oz (n:=i) (nn:= .i64) (l:=l) (by simp) ar (by simp) ad (by rfl) ?_
    rw[ae]
    rcases Nat.lt_or_ge 57 c with aa | aa
    ·have bk:((57:Int)<c)=True:=by simp;omega
     simp[bk]
     refine dw _ _ _ ⟨rfl,?_⟩
     simp[hJ];omega
    ·have bk:((57:Int)<c)=False:=by simp;omega
     simp[bk]
     refine dw _ _ _ ⟨rfl,?_⟩
     simp[hJ];omega
  ·rintro c0 dS b0 ⟨rfl,J9⟩
   simp at J9
   simp[J9]
   refine bt.b6 (fun aU=>?_) (fun aU=>?_)
   ·refine aX _ _ _ (by simp[a4]) ⟨rfl,?_⟩
    intro c ae
    rw[List.take_succ_eq_append_getElem ad]at ae
    rcases List.mem_append.1 ae with ae | ae
    ·exact aA c ae
    ·simp at ae
     subst ae
     rw[bB ad]at aU
     exact aU
   ·simp[bd]
    refine aD _ _ ⟨Ext.refl _,?_⟩
    rw[if_neg ?_]
    rintro⟨o,-⟩
    apply aU
    rw[bB ad]
    exact o _ (List.getElem_mem ad)
 ·rintro ay bD H1 a4 ⟨rfl,aA⟩
  rw[List.take_length]at aA
  simp
  refine ca.join (by kernel_rfl) (fun c0 dS b0=>b0=H1/\∃b:Bool,c0 42= .bool b/\(b=false↔(l≠[]/\¬(l.head?=some 48/\1<l.length)/\l.length<=4000))) ?_ ?_
  ·rintro cV dw-
   cases l with
   | nil=>
    have hs:(cg []).toList.isEmpty=true:=by simp[tI]
    simp[hs]
    refine dw _ _ _ ⟨rfl,true,by simp,by simp⟩
   | cons c r=>
    have hs:(cg (c::r)).toList.isEmpty=false:=by simp[tI]
    simp[hs]
    refine oz (n:=0) (nn:= .i64) (l:=c::r) (by simp) ar (by simp) (by simp) (by rfl) ?_
    by_cases zN:c=48
    ·subst zN
     simp
     refine iF (l:=48::r) (by simp) (by rfl) ?_
     rcases Nat.eq_zero_or_pos r.length with al | al
     ·simp[al]
      refine iF (l:=48::r) (by simp) (by rfl) ?_
      simp[al]
      refine dw _ _ _ ⟨rfl,false,by simp,by simp[al]⟩
     ·have bm:((1:Int)<((r.length:Int)+1))=True:=by simp;omega
      simp[bm]
      refine dw _ _ _ ⟨rfl,true,by simp,Iff.intro (fun h=>by cases h) (fun h=>absurd ⟨by simp,by simp;omega⟩ h.2.1)⟩
    ·have bm:((c:Int)=48)=False:=by simp;omega
     simp[bm]
     refine iF (l:=c::r) (by simp) (by rfl) ?_
     simp
     refine dw _ _ _ ⟨rfl,decide (4000<r.length+1),by simp;omega,?_⟩
     simp[zN]
  ·rintro c0 dS b0 ⟨rfl,b,Kd,ag⟩
   simp at Kd
   simp[Kd]
   refine bt.mk (fun ae=>?_) (fun ae=>?_)
   ·simp[bd]
    refine aD _ _ ⟨Ext.refl _,?_⟩
    rw[if_neg ?_]
    rintro⟨o,aa⟩
    have:=ag.2 aa
    rw[this]at ae
    cases ae
   ·have iA:hK l:=⟨aA,ag.1 ae⟩
    simp only[iA,if_true]at aD
    simp
    have An:l.length<=4000:=iA.2.2.2
    refine dm.mk (by kernel_rfl) (fun n ay bD H1=>Ext b0 H1/\∃(p s x:List Nat) (v:Value),n=s.length/\l=p++s/\ay 0= .string (cg s)/\ay 5=v/\c6 H1 124 v x/\Trim x/\val x=dE p) l.length ?_ ?_
    ·exact⟨Ext.refl _,[],l,[],_,rfl,rfl,by simp,rfl,⟨eo.nil _ _ _,by simp⟩,Trim.nil,by simp[dE,val]⟩
    ·rintro n fi gE b8 ⟨cR,p,s,x,v,rfl,j1,aI,bJ,ea,bc,an⟩ cV dw
     simp at aI bJ
     have VD:Bytes s:=fun c ae=>ar c (by rw[j1];simp[ae])
     have LP:∀c∈p,hJ c:=fun c ae=>aA c (by rw[j1];simp[ae])
     have Ep:∀c∈s,hJ c:=fun c ae=>aA c (by rw[j1];simp[ae])
     have ig:p.length+s.length<=4000:=by rw[j1]at An;simpa using An
     cases ao:s with
     | nil=>
      have hs:(cg []).toList.isEmpty=true:=by simp[tI]
      subst ao
      simp[aI,hs]
      rw[List.append_nil]at j1
      exact aD _ _ ⟨cR,v,x,by simp[bd,bJ],ea,bc,by rw[an,j1]⟩
     | cons c r=>
      have hs:(cg s).toList.isEmpty=false:=by simp[tI,ao]
      have sN:0<s.length:=by rw[ao];simp
      obtain⟨lj,m8⟩:∃lj,s.length-1=lj:=⟨_,rfl⟩
      obtain⟨j8,m9⟩:∃j8,lj % 9=j8:=⟨_,rfl⟩
      obtain⟨n,aG⟩:∃n,j8+1=n:=⟨_,rfl⟩
      have ahW:n<=9/\n<=s.length/\0<n:=by omega
      have RH:IntKind.i64.wrap ((s.length:Int)-1)=(lj:Int):=by rw[b7 (by omega) (by omega)];omega
      have RI:((lj:Int)).tmod 9=(j8:Int):=by rw[<-m9];rfl
      have RJ:IntKind.i64.wrap ((j8:Int)+1)=(n:Int):=by rw[b7 (by omega) (by omega)];omega
      have CQ:IntKind.i64.wrap (j8:Int)=(j8:Int):=by rw[b7 (by omega) (by omega)]
      simp[aI,hs]
      refine iF (l:=s) (by simp) (by rfl) ?_
      simp[RH,RI,RJ,CQ]
      refine dm.range (by kernel_rfl) n (by omega) (by simp) (by rfl) (by simp) (by decide) (by decide) (fun i me oC dN=>dN=b8/\∃a e:Nat,me 7= .int .u32 a/\me 8= .int .u32 e/\a=dE (s.take i)/\e=10^i) ?_ ?_ ?_
      ·refine⟨rfl,0,1,by simp,by simp,by simp[dE],by simp⟩
      ·rintro i me oC dN ad zR ⟨rfl,a,e,cd,cS,aO,he⟩ mg fA
       simp at zR cd cS
       have Aj:i<s.length:=by omega
       obtain⟨tK,xb⟩:∃tK,s[i]?.getD 0=tK:=⟨_,rfl⟩
       have T0:hJ tK:=Ep tK (by rw[<-xb,bB Aj];exact List.getElem_mem Aj)
       unfold hJ at T0
       have pK:a<10^i:=by
        have:=qI (l:=s.take i) fun c ae=>Ep c (List.mem_of_mem_take ae)
        rw[<-aO,List.length_take,Nat.min_eq_left (by omega)]at this
        exact this
       have Ut:10^i<=10^8:=Nat.pow_le_pow_right (by decide) (by omega)
       rw[<-he]at pK Ut
       obtain⟨m,hm⟩:∃m,10*a=m:=⟨_,rfl⟩
       obtain⟨d,jD⟩:∃d,tK-48=d:=⟨_,rfl⟩
       obtain⟨md,Lv⟩:∃md,m+d=md:=⟨_,rfl⟩
       obtain⟨cX,pN⟩:∃cX,10*e=cX:=⟨_,rfl⟩
       have f1:IntKind.u32.wrap (10*(a:Int))=(m:Int):=by rw[l_ (by omega) (by omega)];omega
       have f2:IntKind.u8.wrap ((tK:Int)-48)=(d:Int):=by rw[B_ (by omega) (by omega)];omega
       have f3:IntKind.u32.wrap (d:Int)=(d:Int):=l_ (by omega) (by omega)
       have f4:IntKind.u32.wrap ((m:Int)+d)=(md:Int):=by rw[l_ (by omega) (by omega)];omega
       have f5:IntKind.u32.wrap (10*(e:Int))=(cX:Int):=by rw[l_ (by omega) (by omega)];omega
       simp[zR,cd,cS,aI,f1,f5]
       refine oz (n:=i) (nn:= .i64) (l:=s) (by simp[aI]) VD (by simp) Aj (by rfl) ?_
       rw[xb]
       simp[f2,f3,f4,f5,cS]
       refine fA _ _ _ (by simp[zR]) ⟨rfl,md,cX,by simp,by simp,?_,?_⟩
       ·rw[JH Aj,xb,<-aO];omega
       ·rw[Nat.pow_succ,<-he];omega
      ·rintro me oC dN zR ⟨rfl,a,e,cd,cS,aO,he⟩
       simp at cd cS
       simp[cd,cS,bJ]
       have DW:e<=10^9:=by rw[he];exact Nat.pow_le_pow_right (by decide) (by omega)
       have pK:a<10^n:=by
        have:=qI (l:=s.take n) fun c ae=>Ep c (List.mem_of_mem_take ae)
        rw[<-aO,List.length_take,Nat.min_eq_left (by omega)]at this
        exact this
       rw[<-he]at pK
       have cI:Ext dN (dN++[.own 124 false [.int .u32 (e:Int)]]):=Ext.more dN (by simp)
       have Tt:c6 (dN++[.own 124 false [.int .u32 (e:Int)]]) 124 (.slice (some ⟨dN.length,0,none⟩) 1 1) [e]:=by
        simpa using c6.fresh dN 124 [e] 1 1 (by omega) rfl (by intro y aK;simp at aK;omega) false
       refine te (e:=124) (U:=1) (z:= .int .u32 0) (out:=[.int .u32 e]) (by simp) (by simp) (by simp) (by rfl) (by rfl) (by omega) (by omega) (by omega) ?_ (by simp) ?_
       ·simp[jd,p5]
       have j5:x.length<=4000:=by
        refine bc.length_le ?_
        rw[an]
        refine Nat.lt_of_lt_of_le (qI LP) (Nat.le_trans (rz 10 p.length 4000 (by decide) (show p.length<=4000 by omega)) (FA 10 4294967296 4000 (by decide)))
       simp[bJ]
       refine aV.mk (ON (ea.ext cI) Tt (by omega) (by simp)) ?_
       rintro w cU ⟨cw,aen,Tx,z5,iS⟩
       simp[cd]
       have c1:Ext cU (cU++[.own 124 false [.int .u32 (a:Int)]]):=Ext.more cU (by simp)
       have w4:c6 (cU++[.own 124 false [.int .u32 (a:Int)]]) 124 (.slice (some ⟨cU.length,0,none⟩) 1 1) [a]:=by
        simpa using c6.fresh cU 124 [a] 1 1 (by omega) rfl (by intro y aK;simp at aK;omega) false
       refine te (e:=124) (U:=1) (z:= .int .u32 0) (out:=[.int .u32 a]) (by simp) (by simp) (by simp) (by rfl) (by rfl) (by omega) (by omega) (by omega) ?_ (by simp) ?_
       ·simp[jd,p5]
       simp
       refine aV.mk (l7 w4 (by simp)) ?_
       rintro hl eW ⟨rfl,fb,Tz,ahg,V7,UR⟩
       simp
       have aif:aen.length<=5000:=by
        refine z5.length_le ?_
        rw[iS,an]
        have jf:val [e]=e:=by simp[val]
        rw[jf]
        exact ZA 5000 (qI LP) DW (by omega)
       refine aV.mk (NU (Tx.ext c1) Tz (by omega) (by simp at UR;omega)) ?_
       rintro cM fJ ⟨dF,eu,Ty,Tp,V6⟩
       simp[aI]
       refine vK (l:=n) (h:=s.length) (s:=cg s) (by simp[aI]) (by rfl) (by simp[dM]) (by simp[e2,jy]) (by omega) (by rw[jy];omega) ?_
       rw[qD]
       simp
       have ic:(s.drop n).take (s.length-n)=s.drop n:=List.take_of_length_le (by simp)
       refine dw (s.drop n).length _ _ _ (by simp;omega) ⟨cR.aw (cI.aw (cw.aw (c1.aw dF))),p++s.take n,s.drop n,eu,cM,rfl,by simp[j1],by simp[ic],by simp,Ty,Tp,?_⟩
       rw[V6,iS,an,V7,zE,List.length_take,Nat.min_eq_left (by omega),<-he,<-aO]
       simp[val]
@[simp] theorem agE(d t n:Nat)(a6:List (Nat×Operand)):(eF d t n a6).d=some d:=rfl
def rr(l:List Nat):List Nat:=(db 47 l).1
def kz(l:List Nat):Option (List Nat):=(db 47 l).2
def g3(l:List Nat):List Nat:=ju 45 (rr l)
def lk(l:List Nat):Bool:=decide ((rr l).head?=some 45)
def Ce(l:List Nat):Prop:=∀u,kz l=some u->hK u/\1<dE u
def er(l:List Nat):Nat:=match kz l with | some u=>dE u | none=>1
def fZ(l:List Nat):Int:=if lk l=true then-(dE (g3 l):Int)else dE (g3 l)
def h1(l:List Nat):Prop:=hK (g3 l)/\Ce l/\¬(lk l=true/\dE (g3 l)=0)/\(kz l=none\/Int.gcd (fZ l) (er l)=1)
theorem Bytes.tail{c:Nat}{l:List Nat}(h:Bytes l):Bytes (ju c l):=by
 unfold ju
 split
 ·exact fun x J=>h x (List.mem_of_mem_tail J)
 ·exact h
theorem Jx{c:Nat}{l:List Nat}:(∀x∈(db c l).1,x∈l)/\∀u,(db c l).2=some u->∀x∈u,x∈l:=by
 cases al:(db c l).2 with
 | none=>exact⟨fun x J=>by rw[tO al]at J;exact J,fun u hu=>by cases hu⟩
 | some r=>
  have o:=tP al
  refine⟨fun x J=>by rw[o];simp[J],fun u hu x J=>?_⟩
  cases hu
  rw[o];simp[J]
theorem Jw{c:Nat}{l:List Nat}:(db c l).1.length<=l.length/\∀u,(db c l).2=some u->u.length<=l.length:=by
 cases al:(db c l).2 with
 | none=>exact⟨by rw[tO al];omega,fun u hu=>by cases hu⟩
 | some r=>
  have o:=congrArg List.length (tP al)
  simp at o
  exact⟨by omega,fun u hu=>by cases hu;omega⟩
theorem NA{l:List Nat}{H:ab}(ar:Bytes l)(hlen:l.length<4611686018427387904):
  aP prog 100 [.string (cg l)] H (fun u H1=>Ext H H1/\∃v b x,u= .tuple #[v,.bool b]/\c6 H1 124 v x/\Trim x/\x.length<=4000/\(b=true↔hK l)/\(b=true->val x=dE l)):=
 (Zb ar hlen).mono fun u H1 ⟨J,hu⟩=>by
  by_cases aA:hK l
  ·rw[if_pos aA]at hu
   obtain⟨v,x,rfl,ea,bc,an⟩:=hu
   refine⟨J,v,true,x,rfl,ea,bc,?_,by simp[aA],fun _=>an⟩
   refine bc.length_le ?_
   rw[an]
   exact Nat.lt_of_lt_of_le (qI aA.1) (Nat.le_trans (rz 10 _ 4000 (by decide) aA.2.2.2) (FA 10 4294967296 4000 (by decide)))
  ·rw[if_neg aA]at hu
   subst hu
   exact⟨J,_,false,[],rfl,⟨eo.nil _ _ _,by simp⟩,Trim.nil,by simp,by simp[aA],by simp⟩
theorem Zn{l:List Nat}{H:ab}(ar:Bytes l)(hlen:l.length<4611686018427387904):
  aP prog 74 [.string (cg l)] H (fun u H1=>Ext H H1/\∃v,(h1 l/\u= .tuple #[v,.bool true]/\cc H1 v (Rat.divInt (fZ l) (er l))\/¬h1 l/\u= .tuple #[v,.bool false])/\∃s1 b1 cT cn s2 cA c2 cD,v= .agg #[.bool s1,.slice b1 cT cn,.bool s2,.slice cA c2 cD]):=by
 refine aP.b9 fun Q aD=>?_
 apply Xs (by simp)
 have KE:Bytes (rr l):=fun x J=>ar x (Jx.1 x J)
 have ahe:(rr l).length<=l.length:=Jw.1
 simp[H2,Nd,Nc]
 refine aV.mk (QU ar (by decide) hlen) ?_
 rintro u H1 ⟨rfl,rfl⟩
 simp
 refine aV.mk (QS KE (by decide)) ?_
 rintro u H1 ⟨rfl,rfl⟩
 simp
 refine aV.mk (NA (l:=g3 l) (KE.tail) ?_) ?_
 ·unfold g3 ju;split
  ·rw[List.length_tail];omega
  ·omega
 rintro u H1 ⟨bw,aku,I3,yY,rfl,ux,sl,ahP,xa,Mr⟩
 simp
 have DF:c6 (H1++[.own 124 false [.int .u32 1]]) 124 (.slice (some ⟨H1.length,0,none⟩) 1 1) [1]:=by
  simpa using c6.fresh H1 124 [1] 1 1 (by omega) rfl (by simp) false
 refine te (e:=124) (U:=1) (z:= .int .u32 0) (out:=[.int .u32 1]) (by simp) (by simp) (by simp) (by rfl) (by rfl) (by omega) (by omega) (by omega) ?_ (by simp) ?_
 ·simp[jd,p5]
 simp
 have bf:Ext H1 (H1++[.own 124 false [.int .u32 1]]):=Ext.more H1 (by simp)
 refine ca.join (by kernel_rfl) (fun c0 dS b0=>Ext (H1++[.own 124 false [.int .u32 1]]) b0/\∃(w:Value) (y:List Nat) (b:Bool),c0 11=w/\c0 12= .bool b/\c6 b0 124 w y/\Trim y/\y.length<=4000/\(b=true↔Ce l)/\(b=true->val y=er l)) ?_ ?_
 ·rintro K aX-
  cases al:kz l with
  | none=>
   have fB:(db 47 l).2=none:=al
   simp[fB]
   refine aX _ _ _ ⟨Ext.refl _,.slice (some ⟨H1.length,0,none⟩) 1 1,[1],true,rfl,rfl,DF,by simp[Trim],by simp,?_,?_⟩
   ·simp only[true_iff];intro u hu;rw[al]at hu;cases hu
   ·intro _;simp[er,al,val]
  | some q=>
   have fB:(db 47 l).2=some q:=al
   have AN:Bytes q:=fun x J=>ar x (Jx.2 q fB x J)
   have q6:=Jw.2 q fB
   simp[fB]
   refine aV.mk (NA (l:=q) AN (by omega)) ?_
   rintro u aR ⟨bG,Pu,Qd,PG,rfl,DG,DE,q0,mr,xW⟩
   cases Qd with
   | false=>
    have kr:¬hK q:=fun h=>by have:=mr.2 h;cases this
    simp
    refine aX _ _ _ ⟨bG,Pu,PG,false,by simp,by simp,DG,DE,q0,?_,by simp⟩
    simp only[Bool.false_eq_true,false_iff]
    intro h
    exact kr (h q al).1
   | true=>
    have uM:hK q:=mr.1 rfl
    have an:=xW rfl
    simp
    have cR:Ext aR (aR++[.own 124 false [.int .u32 1]]):=Ext.more aR (by simp)
    have qR:c6 (aR++[.own 124 false [.int .u32 1]]) 124 (.slice (some ⟨aR.length,0,none⟩) 1 1) [1]:=by
     simpa using c6.fresh aR 124 [1] 1 1 (by omega) rfl (by simp) false
    refine te (e:=124) (U:=1) (z:= .int .u32 0) (out:=[.int .u32 1]) (by simp) (by simp) (by simp) (by rfl) (by rfl) (by omega) (by omega) (by omega) ?_ (by simp) ?_
    ·simp[jd,p5]
    simp
    refine aV.mk (CJ (DG.ext cR) qR DE (by simp[Trim]) (by omega) (by simp)) ?_
    rintro u dN ⟨rfl,rfl⟩
    have bm:val [1]=1:=by simp[val]
    rw[bm,an]
    obtain⟨c,ae⟩:∃c:Int,(if dE q<1 then-1 else if 1<dE q then 1 else 0:Int)=c:=⟨_,rfl⟩
    rw[ae]
    simp
    refine aX _ _ _ ⟨bG.aw cR,Pu,PG,decide (0<c),by simp,by simp,DG.ext cR,DE,q0,?_,?_⟩
    ·rw[decide_eq_true_iff]
     have aI:0<c↔1<dE q:=by rw[<-ae];split<;>(try split)<;>omega
     rw[aI]
     exact⟨fun h u hu=>by rw[al]at hu;cases hu;exact⟨uM,h⟩,fun h=>(h q al).2⟩
    ·intro _;rw[an];simp[er,al]
 ·rintro c0 dS b0 ⟨cj,w,y,b,jf,nR,KM,qQ,u4,ag,sX⟩
  simp at jf nR
  refine ca.join (by kernel_rfl) (fun fi gE b8=>b8=b0/\∃g:Bool,fi 57= .bool g/\(g=false↔(I3=true/\b=true/\¬(lk l=true/\yY.length=0)))) ?_ ?_
  ·rintro K aX-
   cases I3 with
   | false=>
    simp
    refine aX _ _ _ ⟨rfl,true,by simp,by simp⟩
   | true=>
    cases b with
    | false=>
     simp[nR]
     refine aX _ _ _ ⟨rfl,true,by simp,by simp⟩
    | true=>
     have Tw:=ux.ext (bf.aw cj)
     by_cases hm:(rr l).head?=some 45
     ·have sC:(db 47 l).1.head?=some 45:=hm
      simp[nR,sC]
      refine cP (by simpa using Tw.row) (by simp) ?_
      simp
      refine aX _ _ _ ⟨rfl,decide (yY.length=0),by simp,by simp[lk,hm]⟩
     ·have sC:¬(db 47 l).1.head?=some 45:=hm
      simp[nR,sC]
      refine aX _ _ _ ⟨rfl,false,by simp,by simp[lk,hm]⟩
  ·rintro fi gE b8 ⟨rfl,g,Kf,aU⟩
   simp at Kf
   simp[Kf]
   have oj:Ext H b8:=(Ext.more H (by simp)).aw (bw.aw (bf.aw cj))
   refine bt.mk (fun ae=>?_) (fun ae=>?_)
   ·have aG:¬h1 l:=by
     rintro⟨o,aa,aB,-⟩
     have:=aU.2 ⟨xa.2 o,ag.2 aa,fun⟨bs,bJ⟩=>aB ⟨bs,by rw[<-Mr (xa.2 o),(List.length_eq_zero_iff.1 bJ)];rfl⟩⟩
     rw[this]at ae;cases ae
    simp[bd]
    exact aD _ _ ⟨oj,_,.inr ⟨aG,rfl⟩,_,_,_,_,_,_,_,_,rfl⟩
   ·obtain⟨jU,lR,KR⟩:=aU.1 ae
    have nf:=Mr jU
    have iQ:=sX lR
    simp
    have RK:(if lk l=true then-(val yY:Int)else val yY)=fZ l:=by rw[nf];rfl
    have CQ:(if false=true then-(val y:Int)else val y)=(er l:Int):=by rw[iQ];rfl
    refine aV.mk (E6 (yj (neg:=lk l) (ux.ext (bf.aw cj)) sl)) ?_
    rintro pg dN ⟨cI,s1,b1,cT,cn,rfl,hC⟩
    rw[RK]at hC
    simp[jf]
    refine aV.mk (E6 (yj (neg:=false) (KM.ext cI) qQ)) ?_
    rintro lv cU ⟨cw,s2,cA,c2,cD,rfl,iV⟩
    rw[CQ]at iV
    simp
    have xf:0<er l:=by
     have o:=ag.1 lR
     unfold er
     cases hu:kz l with
     | none=>simp
     | some q=>have:=(o q hu).2;simp;omega
    have c1:Ext cU (cU++[.dead]):=Ext.more cU (by simp)
    refine ca.join (by kernel_rfl) (fun qq rR eW=>Ext (cU++[.dead]) eW/\rR 2= .agg #[.bool s1,.slice b1 cT cn,.bool s2,.slice cA c2 cD]/\∃g:Bool,qq 3= .bool g/\(g=true↔(kz l=none\/Int.gcd (fZ l) (er l)=1))) ?_ ?_
    ·rintro K aX-
     cases al:kz l with
     | none=>
      have fB:(db 47 l).2=none:=al
      simp[fB]
      refine aX _ _ _ ⟨Ext.refl _,by simp,true,by simp,by simp[al]⟩
     | some q=>
      have fB:(db 47 l).2=some q:=al
      simp[fB]
      have CV:Fits (fZ l):=by
       have o:(fZ l).natAbs=val yY:=by unfold fZ;rw[<-nf];split<;>omega
       unfold Fits;rw[o]
       exact Nat.lt_of_lt_of_le (kb ux.2) (rz 4294967296 _ 1000000 (by decide) (by omega))
      have zH:Fits (er l):=by
       unfold Fits;rw[Int.natAbs_natCast,<-iQ]
       exact Nat.lt_of_lt_of_le (kb KM.2) (rz 4294967296 _ 1000000 (by decide) (by omega))
      refine aV.mk (J0 ((hC.ext cw).ext c1) (iV.ext c1) CV zH) ?_
      rintro ph fJ ⟨dF,s4⟩
      refine⟨dF,?_⟩
      simp
      refine aV.mk (vq (n:=1) (by omega) (by omega)) ?_
      rintro yS kX ⟨gI,x7⟩
      refine⟨gI,?_⟩
      simp
      have RZ:Fits ((Int.gcd (fZ l) (er l):Nat):Int):=by
       have aa:Int.gcd (fZ l) (er l)<=er l:=Nat.le_of_dvd xf (Int.ofNat_dvd.1 (Int.gcd_dvd_right _ _))
       exact zH.le (by simpa using aa)
      refine aV.mk (E4 (s4.ext gI) x7 RZ (Fits.small (by decide))) ?_
      rintro mL iJ ⟨fY,rfl⟩
      refine⟨fY,?_⟩
      obtain⟨eG,fX⟩:∃eG:Int,(if((Int.gcd (fZ l) (er l):Nat):Int)<1 then-1 else if((Int.gcd (fZ l) (er l):Nat):Int)=1 then 0 else 1:Int)=eG:=⟨_,rfl⟩
      rw[fX]
      simp
      refine aX _ _ _ ⟨dF.aw (gI.aw fY),by simp,decide (eG=0),by simp,?_⟩
      rw[decide_eq_true_iff]
      simp only[al,reduceCtorEq,false_or]
      rw[<-fX]
      split
      ·omega
      ·split<;>omega
    ·rintro qq rR eW ⟨dF,gH,je,aB,Lb⟩
     simp at gH aB
     simp[gH,aB,bd]
     have MS:=(cI.aw (cw.aw (c1.aw dF)))
     have iA:h1 l↔je=true:=by
      rw[Lb]
      refine⟨fun h=>h.2.2.2,fun h=>⟨xa.1 jU,ag.1 lR,fun⟨bs,bJ⟩=>KR ⟨bs,?_⟩,h⟩⟩
      rw[<-nf]at bJ
      exact(Nat.eq_zero_or_pos _).resolve_right fun h=>by have:=sl.pos.1 h;omega
     cases je with
     | true=>
      have mv:Int.gcd (fZ l) (er l)=1:=by
       rcases Lb.1 rfl with h | h
       ·have:er l=1:=by simp[er,h]
        rw[this];simp
       ·exact h
      refine aD _ _ ⟨oj.aw MS,_,.inl ⟨iA.2 rfl,rfl,?_⟩,_,_,_,_,_,_,_,_,rfl⟩
      obtain⟨bm,bk⟩:=zD (fZ l) (er l) (by omega)
      have xl:Nat.gcd (fZ l).natAbs (er l)=1:=mv
      rw[xl]at bm bk
      refine⟨_,_,_,_,rfl,?_,?_⟩
      ·rw[bm];simpa using hC.ext (cw.aw (c1.aw dF))
      ·rw[bk];simpa using iV.ext (c1.aw dF)
     | false=>
      refine aD _ _ ⟨oj.aw MS,_,.inr ⟨fun h=>(by have:=iA.1 h;cases this),rfl⟩,_,_,_,_,_,_,_,_,rfl⟩
abbrev jb(H:ab)(v:Value)(r:List Rat):Prop:=Row 80 4 true cc H v r
instance:b3 jb:=⟨fun h J=>b3.ext (af:=Row 80 4 true cc) h J⟩
abbrev hN(H:ab)(v:Value)(t:List (List Rat)):Prop:=Row 120 1 false jb H v t
instance:b3 hN:=⟨fun h J=>b3.ext (af:=Row 120 1 false jb) h J⟩
theorem hN.ext{H H1:ab}{v:Value}{t:List (List Rat)}(h:hN H v t)(J:Ext H H1):hN H1 v t:=b3.ext h J
def hk(r:List Rat):Rat:=r.foldl (·+·) 0
theorem N7{r:List Rat}{i:Nat}{q:Rat}(h:r[i]?=some q):hk (r.take (i+1))=hk (r.take i)+q:=by
 have ad:=(cH.1 h).1
 rw[List.take_succ_eq_append_getElem ad]
 unfold hk
 rw[List.foldl_append]
 simp[(cH.1 h).2]
theorem yf{v:Value}{t:List (List Rat)}{j N:Nat}{row:List Rat}{H:ab}(bc:hN H v t)(al:t[j]?=some row)(ar:row.length<4611686018427387904)(gg:t.length<4611686018427387904)(ao:∀k,dn N (hk (row.take k)))(he:∀q∈row,dn N q)(bQ:N<=1000000):
  aP prog 65 [.agg #[v],.int .i64 j] H (fun u H1=>Ext H H1/\cc H1 u (hk row)):=by
 refine aP.b9 fun Q aD=>?_
 apply X2 (by simp)
 obtain⟨a,c,rfl⟩:=Row.len bc
 simp[Ir]
 have br:Ext H (H++[.dead,.dead]):=Ext.more H (by simp)
 refine aV.mk (By (n:=0) (by omega) (by omega)) ?_
 rintro FR H1 ⟨bw,nb⟩
 simp
 refine cN.mk nb.whole ?_
 simp
 have bf:Ext H1 (H1++[.dead]):=Ext.more H1 (by simp)
 have hx:=bc.ext (br.aw (bw.aw bf))
 refine cY (af:=jb) (xs:=t) (n:=j) (a:=row) (e:=120) (U:=1) (aC:=false) (by simpa using hx) (by simp) al (by simp) (by simp) (by simp) (by decide) ?_
 intro Fs Gp q_
 refine cP (af:=cc) (xs:=row) (by simpa using q_) (by simp) ?_
 simp
 refine dm.range (by kernel_rfl) row.length (by omega) (by simp) (by rfl) (by simp) (by decide) (by decide) (fun i bR c5 aR=>Ext (H1++[.dead]) aR/\cc aR (c5 5) (hk (row.take i))) ?_ ?_ ?_
 ·refine⟨Ext.refl _,?_⟩
  simpa[hk]using nb.ext bf
 ·rintro i bR c5 aR ad a4 ⟨bG,lY⟩ K aX
  simp at a4 lY
  simp[a4]
  obtain⟨x,J⟩:∃x,row[i]?=some x:=⟨_,bB ad⟩
  refine cY (af:=cc) (xs:=row) (n:=i) (a:=x) (e:=80) (U:=4) (aC:=true) (by simpa using b3.ext q_ bG) (by simp[a4]) J (by simp) (by simp) (by simp) (by decide) ?_
  intro da u hu
  simp
  refine cN.mk hu.whole ?_
  simp
  have cj:Ext aR (aR++[.dead]):=Ext.more aR (by simp)
  refine aV.mk (N3 (lY.ext cj) (hu.ext cj) (ao i) (he x (List.mem_of_getElem? J)) bQ) ?_
  rintro w bP ⟨cR,hw⟩
  simp
  refine cN.mk hw.whole ?_
  refine aX _ _ _ (by simp[a4]) ⟨bG.aw (cj.aw cR),?_⟩
  rw[N7 J]
  simpa using hw
 ·rintro bR c5 aR a4 ⟨bG,lY⟩
  simp at lY
  simp
  refine cN.mk lY.whole ?_
  simp[bd]
  exact aD _ _ ⟨br.aw (bw.aw (bf.aw bG)),lY⟩
end Go.cW
end
