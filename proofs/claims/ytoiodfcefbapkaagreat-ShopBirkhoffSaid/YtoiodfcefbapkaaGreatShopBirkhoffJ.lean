/- Part of the proof of ShopBirkhoff. -/
import Derived.Test.YtoiodfcefbapkaaGreatShopBirkhoffI
set_option linter.unusedVariables false
set_option linter.unusedSimpArgs false
section
set_option maxRecDepth 8000
set_option maxHeartbeats 1000000
namespace Go.cl
open Go.Proofs
open Go.Proofs.Tryz (prog)
attribute [-simp] gk hq iM
theorem Li{v:Value}{z:Int}{H:ad}(tY:et H v z):aX prog 81 [v] H (fun u H1=>Ext H H1/\et H1 u (-z)):=by
 refine aX.cc fun Q aD=>?_
 obtain⟨s,a,c,a0,rfl,bq,fh,bd,rfl,ao⟩:=tY
 apply Zr (by simp)
 simp[JW]
 have bz:Ext H (H++[.dead,.dead]):=Ext.more H (by simp)
 have oX:=bq.ext bz
 simp[xA]
 cases s with
 | true=>
  simp[bf]
  exact aD _ _ ⟨bz,false,a,c,a0,rfl,oX,fh,bd,by simp[fE],fun _=>rfl⟩
 | false=>
  simp
  refine cD (ae:=ds) (xs:=a0) (by simpa using oX) (by simp) ?_
  simp[bf]
  refine aD _ _ ⟨bz,decide (0<a0.length),a,c,a0,rfl,oX,fh,bd,?_,fun h=>by simp[h]⟩
  by_cases h:0<a0.length
  ·simp[h,fE]
  ·have:a0=[]:=List.eq_nil_of_length_eq_zero (by omega)
   subst this
   simp[fE,bx]
theorem La{v:Value}{z:Int}{H:ad}(tY:et H v z):aX prog 53 [v] H (fun u H1=>Ext H H1/\et H1 u z.natAbs):=by
 refine aX.cc fun Q aD=>?_
 obtain⟨s,a,c,a0,rfl,bq,fh,bd,rfl,ao⟩:=tY
 apply Zh (by simp)
 simp[JM,bf]
 have bz:Ext H (H++[.dead,.dead]):=Ext.more H (by simp)
 exact aD _ _ ⟨bz,false,a,c,a0,rfl,bq.ext bz,fh,bd,by rw[Dt];rfl,fun _=>rfl⟩
theorem SM{v:Value}{z:Int}{H:ad}(tY:et H v z):aX prog 41 [v] H (fun u H1=>Ext H H1/\u= .int .i64 (if z<0 then-1 else if z=0 then 0 else 1)):=by
 refine aX.cc fun Q aD=>?_
 obtain⟨s,a,c,a0,rfl,bq,fh,bd,rfl,ao⟩:=tY
 apply Zu (by simp)
 simp[JZ]
 have bz:Ext H (H++[.dead]):=Ext.dead H
 refine cD (ae:=ds) (xs:=a0) (by simpa using bq.ext bz) (by simp) ?_
 simp
 refine br.b_ (fun aG=>?_) (fun aG=>?_)
 ·have aG:a0=[]:=by simpa using aG
  subst aG
  simp[bf]
  exact aD _ _ ⟨bz,by cases s<;>simp[fE,bx]⟩
 ·have aG:a0≠[]:=by simpa using aG
  have an:0<bx a0:=by
   have:=bd.zero
   rcases Nat.eq_zero_or_pos (bx a0)with h | h
   ·exact absurd (this.1 h) aG
   ·exact h
  cases s with
  | true=>
   simp[bf]
   exact aD _ _ ⟨bz,by simp[fE];omega⟩
  | false=>
   try simp[bf]
   refine aD _ _ ⟨bz,?_⟩
   simp only[fE,Bool.false_eq_true,if_false]
   rw[if_neg (by omega),if_neg (by omega)]
def Jj(H:ad)(u:Value)(n:Nat)(l:Nat):Prop:=∃a c a0,u= .slice a a0.length c/\ks H (.slice a a0.length c) a0/\eT a0/\bx a0=n/\a0.length<=l
theorem vf(a0:List Nat)(i:Nat):bx (a0.take (i+1))=bx (a0.take i)+10000^i*(a0[i]?.getD 0):=by
 by_cases ab:i<a0.length
 ·exact agE ab
 ·rw[List.take_of_length_le (by omega),List.take_of_length_le (by omega),List.getElem?_eq_none (by omega)]
  simp
theorem aci{A B O c x y i:Nat}(h:O+10000^i*c=A+B):O+10000^i*((c+x+y) % 10000)+10000^(i+1)*((c+x+y)/10000)=A+10000^i*x+(B+10000^i*y):=by
 have aE:10000^i*((c+x+y) % 10000)+10000^(i+1)*((c+x+y)/10000)=10000^i*c+10000^i*x+10000^i*y:=by
  rw[Nat.pow_succ,Nat.mul_assoc,<-Nat.mul_add,<-Nat.mul_add,<-Nat.mul_add]
  congr 1
  omega
 omega
theorem SI{v w:Value}{x y:List Nat}{H:ad}(bE:ks H v x)(bK:ks H w y)(J:eT x)(aP:eT y)(Gi:x.length<100000000000)(wP:y.length<100000000000):
  aX prog 82 [v,w] H (fun u H1=>Ext H H1/\Jj H1 u (bx x+bx y) (max x.length y.length+1)):=by
 refine aX.cc fun Q aD=>?_
 apply ZA (by simp)
 obtain⟨a,c,rfl⟩:=Row.len bE
 obtain⟨cM,cN,rfl⟩:=Row.len bK
 simp[J5]
 refine qv (e:=3) (R:=1) (by simp) (by simp) ?_
 simp
 refine c6.mk (by kernel_rfl) (fun m az bH H1=>∃(i fg:Nat) (out:List Nat) (eB:Option Addr) (eV:Nat),m=max x.length y.length+1-i/\i<=max x.length y.length+1/\(i=max x.length y.length+1->fg=0)/\fg<=1/\az 7= .int .i64 (i:Int)/\az 6= .int .i64 (fg:Int)/\az 5= .slice eB i eV/\out.length=i/\bB H.length 3 1 false ds H1 (.slice eB i eV) out/\eT out/\bx out+10000^i*fg=bx (x.take i)+bx (y.take i)/\Ext H H1) (max x.length y.length+1) ⟨0,0,[],some ⟨0,0,none⟩,0,by omega,by omega,fun _=>rfl,by omega,by simp,by simp,by simp,rfl,bB.void _ _ _ _ _ _ _,eT.nil,by simp[bx],Ext.refl _⟩ ?_
 rintro m az bH H1 ⟨i,fg,out,eB,eV,rfl,ab,akt,Np,cf,dY,bQ,dT,cR,v7,an,bp⟩ K a4
 simp at cf dY bQ
 have vT:=bE.ext bp
 have sb:=bK.ext bp
 simp only[kP]
 refine bV.join (by kernel_rfl) (fun bU dd aT=>aT=H1/\bU 23= .bool (decide (i<x.length\/i<y.length\/0<fg))) ?_ ?_
 ·rintro c5 dB-
  simp[cf]
  refine cD (ae:=ds) (xs:=x) (by simpa using vT) (by simp) ?_
  simp[cf]
  by_cases uf:i<x.length
  ·simp[uf]
   exact dB _ _ _ ⟨rfl,by simp[uf]⟩
  ·simp[uf,cf]
   refine cD (ae:=ds) (xs:=y) (by simpa using sb) (by simp) ?_
   simp
   by_cases BZ:i<y.length
   ·simp[BZ]
    exact dB _ _ _ ⟨rfl,by simp[BZ]⟩
   ·simp[BZ,dY]
    exact dB _ _ _ ⟨rfl,by simp[uf,BZ]⟩
 ·rintro bU dd aT ⟨rfl,EZ⟩
  simp only[g_]at EZ
  simp at EZ
  simp[EZ]
  refine br.mk (fun af=>?_) (fun af=>?_)
  ·simp at af
   have p7:i<max x.length y.length+1:=by omega
   have fi:=J.get i
   have ps:=aP.get i
   simp[dY]
   refine bV.join (by kernel_rfl) (fun di ev bS=>bS=aT/\di 8= .int .i64 ((fg+x[i]?.getD 0:Nat):Int)) ?_ ?_
   ·rintro ln eW-
    simp[cf]
    refine cD (ae:=ds) (xs:=x) (by simpa using vT) (by simp) ?_
    simp
    refine br.b_ (fun a3=>?_) (fun a3=>?_)
    ·refine Exists.elim (⟨_,bs a3⟩:∃d,x[i]?=some d) fun d aA=>?_
     have hw:IntKind.i64.wrap ((fg:Int)+(d:Int))=((fg+d:Nat):Int):=by rw[aA]at fi;simp at fi;rw[b2 (by omega) (by omega)];simp
     simp[cf]
     refine cF (ae:=ds) (xs:=x) (n:=i) (a:=d) (e:=3) (R:=1) (ay:=false) (by simpa using vT) (by simp[cf]) aA (by simp) (by simp) (by simp) (by decide) ?_
     rintro ho DT rfl
     simp[hw]
     exact eW _ _ _ ⟨rfl,by simp[aA]⟩
    ·have:x[i]?=none:=List.getElem?_eq_none (by omega)
     try simp
     exact eW _ _ _ ⟨rfl,by simp[this]⟩
   ·rintro di ev bS ⟨rfl,cz⟩
    simp only[g_]at cz
    simp at cz
    refine bV.join (by kernel_rfl) (fun cQ dQ bT=>bT=bS/\cQ 8= .int .i64 ((fg+x[i]?.getD 0+y[i]?.getD 0:Nat):Int)) ?_ ?_
    ·rintro oz g7-
     simp[cf]
     refine cD (ae:=ds) (xs:=y) (by simpa using sb) (by simp) ?_
     simp
     refine br.b_ (fun a3=>?_) (fun a3=>?_)
     ·refine Exists.elim (⟨_,bs a3⟩:∃d,y[i]?=some d) fun d aA=>?_
      have hw:IntKind.i64.wrap ((fg:Int)+(x[i]?.getD 0:Nat)+(d:Int))=((fg+x[i]?.getD 0+d:Nat):Int):=by rw[aA]at ps;simp at ps;rw[b2 (by omega) (by omega)];simp
      simp[cf,cz]
      refine cF (ae:=ds) (xs:=y) (n:=i) (a:=d) (e:=3) (R:=1) (ay:=false) (by simpa using sb) (by simp[cf]) aA (by simp) (by simp) (by simp) (by decide) ?_
      rintro iK mX rfl
      simp[hw]
      exact g7 _ _ _ ⟨rfl,by simp[aA]⟩
     ·have:y[i]?=none:=List.getElem?_eq_none (by omega)
      try simp
      exact g7 _ _ _ ⟨rfl,by simp[this,cz]⟩
    ·rintro cQ dQ bT ⟨rfl,cz⟩
     simp only[g_]at cz
     simp at cz
     refine Exists.elim (⟨_,rfl⟩:∃S,S=fg+x[i]?.getD 0+y[i]?.getD 0) fun S bP=>?_
     have sa:cQ 8= .int .i64 (S:Int):=by rw[cz,bP];simp
     have aj5:S<20000:=by omega
     have pa:(S:Int).tmod 10000=((S % 10000:Nat):Int):=rfl
     have nq:(S:Int).tdiv 10000=((S/10000:Nat):Int):=rfl
     have nu:IntKind.i64.wrap ((S:Int)/10000)=(S:Int)/10000:=b2 (by omega) (by omega)
     have jE:IntKind.i64.wrap ((i:Int)+1)=((i+1:Nat):Int):=by rw[b2 (by omega) (by omega)];simp
     have gA:=Ext.len bp
     simp[bQ,sa,pa]
     refine At (k:=H.length) (e:=3) (R:=1) (ay:=false) (bI:=8) (z:= .int .i64 0) (ae:=ds) (xs:=out) (a:=S % 10000) (by simpa using cR) (by simp[ds]) (by simpa using hH _) (by simp) (fun _ _ _ _ _ h=>h) (by simp) (by simp) (by simp) (by simp) (by simp) (by rfl) (by rfl) (by rfl) (by rfl) (by decide) (by decide) (by decide) (by omega) (by omega) ?_
     intro mT xU x6 dx jw cB sx
     rw[dT]at jw
     simp only[dT]
     simp[sa,cf,nq,nu,jE]
     refine a4 (max x.length y.length+1-(i+1)) _ _ _ (by omega) ⟨i+1,S/10000,out++[S % 10000],xU,x6,rfl,by omega,fun he=>?_,by omega,by simp,by simp,by simp,by simp[dT],jw,v7.snoc (Nat.mod_lt _ (by decide)),?_,cB _ (Nat.le_refl _) bp⟩
     ·have o:x[i]?=none:=List.getElem?_eq_none (by omega)
      have aa:y[i]?=none:=List.getElem?_eq_none (by omega)
      rw[o,aa]at bP
      simp at bP
      omega
     ·rw[xE,dT,vf x i,vf y i,bP]
      exact aci an
  ·simp at af
   have FU:fg=0:=by omega
   have YY:x.take i=x:=List.take_of_length_le (by omega)
   have Hg:y.take i=y:=List.take_of_length_le (by omega)
   rw[FU,YY,Hg]at an
   simp[bQ,bf]
   refine aD _ _ ⟨bp,eB,eV,out,by rw[dT],by rw[dT];exact cR.row,v7,by omega,by omega⟩
theorem abj{A B O:Nat}{i x y b d cg:Nat}(h:A+10000^i*b=O+B)(ao:x+10000*cg=d+y+b):A+10000^i*x+10000^(i+1)*cg=O+10000^i*d+(B+10000^i*y):=by
 have aE:10000^i*x+10000^(i+1)*cg=10000^i*d+10000^i*y+10000^i*b:=by
  rw[Nat.pow_succ,Nat.mul_assoc,<-Nat.mul_add,<-Nat.mul_add,<-Nat.mul_add,ao]
 omega
theorem Es{v w:Value}{x y:List Nat}{H:ad}(bE:ks H v x)(bK:ks H w y)(J:eT x)(aP:eT y)(Gi:x.length<100000000000)(hle:bx y<=bx x)(Pg:y.length<=x.length):
  aX prog 84 [v,w] H (fun u H1=>Ext H H1/\Jj H1 u (bx x-bx y) x.length):=by
 refine aX.cc fun Q aD=>?_
 apply Zz (by simp)
 obtain⟨a,c,rfl⟩:=Row.len bE
 obtain⟨cM,cN,rfl⟩:=Row.len bK
 simp[J4]
 refine qv (e:=3) (R:=1) (by simp) (by simp) ?_
 simp
 refine c6.mk (by kernel_rfl) (fun m az bH H1=>∃(i kZ:Nat) (out:List Nat) (eB:Option Addr) (eV:Nat),m=x.length-i/\i<=x.length/\kZ<=1/\az 7= .int .i64 (i:Int)/\az 6= .int .i64 (kZ:Int)/\az 5= .slice eB i eV/\out.length=i/\bB H.length 3 1 false ds H1 (.slice eB i eV) out/\eT out/\bx (x.take i)+10000^i*kZ=bx out+bx (y.take i)/\Ext H H1) x.length ⟨0,0,[],some ⟨0,0,none⟩,0,by omega,by omega,by omega,by simp,by simp,by simp,rfl,bB.void _ _ _ _ _ _ _,eT.nil,by simp[bx],Ext.refl _⟩ ?_
 rintro m az bH H1 ⟨i,kZ,out,eB,eV,rfl,ab,akf,cf,dY,bQ,dT,cR,v7,an,bp⟩ K a4
 simp at cf dY bQ
 have vT:=bE.ext bp
 have sb:=bK.ext bp
 simp[cf]
 refine cD (ae:=ds) (xs:=x) (by simpa using vT) (by simp) ?_
 simp
 refine br.b_ (fun uf=>?_) (fun uf=>?_)
 ·refine Exists.elim (⟨_,bs uf⟩:∃d,x[i]?=some d) fun d aA=>?_
  have Ns:x[i]?.getD 0=d:=by rw[aA];rfl
  have akm:d<10000:=Ns▸J.get i
  have Hf:=aP.get i
  have hw:IntKind.i64.wrap ((d:Int)-(kZ:Int))=(d:Int)-(kZ:Int):=b2 (by omega) (by omega)
  simp[cf]
  refine cF (ae:=ds) (xs:=x) (n:=i) (a:=d) (e:=3) (R:=1) (ay:=false) (by simpa using vT) (by simp[cf]) aA (by simp) (by simp) (by simp) (by decide) ?_
  rintro ho DT rfl
  simp[dY,hw]
  refine bV.join (by kernel_rfl) (fun di ev bS=>bS=H1/\di 8= .int .i64 ((d:Int)-(kZ:Int)-(y[i]?.getD 0:Nat))) ?_ ?_
  ·rintro ln eW-
   simp[cf]
   refine cD (ae:=ds) (xs:=y) (by simpa using sb) (by simp) ?_
   simp
   refine br.b_ (fun a3=>?_) (fun a3=>?_)
   ·refine Exists.elim (⟨_,bs a3⟩:∃d,y[i]?=some d) fun e he=>?_
    have nu:IntKind.i64.wrap ((d:Int)-(kZ:Int)-(e:Int))=(d:Int)-(kZ:Int)-(e:Int):=by rw[he]at Hf;simp at Hf;exact b2 (by omega) (by omega)
    simp[cf]
    refine cF (ae:=ds) (xs:=y) (n:=i) (a:=e) (e:=3) (R:=1) (ay:=false) (by simpa using sb) (by simp[cf]) he (by simp) (by simp) (by simp) (by decide) ?_
    rintro iK mX rfl
    simp[nu]
    exact eW _ _ _ ⟨rfl,by simp[he]⟩
   ·have:y[i]?=none:=List.getElem?_eq_none (by omega)
    try simp
    exact eW _ _ _ ⟨rfl,by simp[this]⟩
  ·rintro di ev bS ⟨rfl,cz⟩
   simp only[g_]at cz
   simp at cz
   refine Exists.elim (⟨_,rfl⟩:∃e,e=y[i]?.getD 0) fun e he=>?_
   rw[<-he]at cz Hf
   simp
   refine bV.join (by kernel_rfl) (fun cQ dQ bT=>bT=bS/\∃vK cg:Nat,cQ 8= .int .i64 (vK:Int)/\cQ 6= .int .i64 (cg:Int)/\vK<10000/\cg<=1/\d+10000*cg=vK+e+kZ) ?_ ?_
   ·rintro oz g7-
    simp[cz]
    refine br.b_ (fun q8=>?_) (fun q8=>?_)
    ·have jE:IntKind.i64.wrap ((d:Int)-(kZ:Int)-(e:Int)+10000)=(d:Int)-(kZ:Int)-(e:Int)+10000:=b2 (by omega) (by omega)
     simp[cz,jE]
     refine g7 _ _ _ ⟨rfl,((d:Int)-(kZ:Int)-(e:Int)+10000).toNat,1,by simp;omega,by simp,by omega,by omega,by omega⟩
    ·try simp
     refine g7 _ _ _ ⟨rfl,((d:Int)-(kZ:Int)-(e:Int)).toNat,0,by simp[cz];omega,by simp,by omega,by omega,by omega⟩
   ·rintro cQ dQ bT ⟨rfl,vK,cg,sa,vS,wA,cZ,c3⟩
    simp only[g_]at sa vS
    simp at sa vS
    have jE:IntKind.i64.wrap ((i:Int)+1)=((i+1:Nat):Int):=by rw[b2 (by omega) (by omega)];simp
    have gA:=Ext.len bp
    simp[bQ,sa]
    refine At (k:=H.length) (e:=3) (R:=1) (ay:=false) (bI:=8) (z:= .int .i64 0) (ae:=ds) (xs:=out) (a:=vK) (by simpa using cR) (by simp[ds,sa]) (by simpa[sa]using hH _) (by simp) (fun _ _ _ _ _ h=>h) (by simp) (by simp) (by simp) (by simp) (by simp) (by rfl) (by rfl) (by rfl) (by rfl) (by decide) (by decide) (by decide) (by omega) (by omega) ?_
    intro mT xU x6 dx jw cB sx
    rw[dT]at jw
    simp only[dT]
    simp[cf,jE]
    refine a4 (x.length-(i+1)) _ _ _ (by omega) ⟨i+1,cg,out++[vK],xU,x6,rfl,by omega,cZ,by simp,by simp[vS],by simp,by simp[dT],jw,v7.snoc wA,?_,cB _ (Nat.le_refl _) bp⟩
    rw[xE,dT,vf x i,vf y i,Ns,<-he]
    exact abj an c3
 ·obtain rfl:i=x.length:=by omega
  have Hg:y.take x.length=y:=List.take_of_length_le (by omega)
  rw[List.take_length,Hg]at an
  have Gn:=tk v7
  rw[dT]at Gn
  have akg:10000^x.length*kZ=0:=by
   rcases Nat.eq_zero_or_pos kZ with h | h
   ·rw[h];rfl
   ·have:kZ=1:=by omega
    rw[this]at an
    omega
  simp[bQ,bf]
  exact aD _ _ ⟨bp,eB,eV,out,by rw[dT],by rw[dT];exact cR.row,v7,by omega,by omega⟩
def b6(N:Nat)(z:Int):Prop:=z.natAbs<10000^N
theorem b6.mono{N M:Nat}{z:Int}(h:b6 N z)(BA:N<=M):b6 M z:=Nat.lt_of_lt_of_le h (Nat.pow_le_pow_right (by decide) BA)
theorem b6.neg{N:Nat}{z:Int}(h:b6 N z):b6 N (-z):=by unfold b6;rw[Int.natAbs_neg];exact h
theorem b6.le{N:Nat}{a b:Int}(h:b6 N a)(hle:b.natAbs<=a.natAbs):b6 N b:=Nat.lt_of_le_of_lt hle h
theorem b6.add{N:Nat}{a b:Int}(aL:b6 N a)(af:b6 N b):b6 (N+1) (a+b):=by
 unfold b6 at*
 have:=Int.natAbs_add_le a b
 rw[Nat.pow_succ]
 omega
theorem b6.mul{N M:Nat}{a b:Int}(aL:b6 N a)(af:b6 M b):b6 (N+M) (a*b):=by
 unfold b6 at*
 rw[Int.natAbs_mul,Nat.pow_add]
 exact Nat.mul_lt_mul'' aL af
theorem b6.small{N:Nat}{z:Int}(h:z.natAbs<10000)(bW:0<N):b6 N z:=by
 have:(10000:Nat)^1<=10000^N:=Nat.pow_le_pow_right (by decide) bW
 unfold b6
 omega
theorem b6.i64{z:Int}(o: -9223372036854775808<=z)(aa:z<9223372036854775808):b6 5 z:=by
 unfold b6
 have:(10000:Nat)^5=100000000000000000000:=by decide
 omega
theorem b6.len{N:Nat}{s:Bool}{a0:List Nat}{z:Int}(h:b6 N z)(bd:gv a0)(aQ:z=fE s (bx a0)):a0.length<=N:=et.len bd aQ h
theorem Lb{v w:Value}{x y:Int}{N:Nat}{H:ad}(bE:et H v x)(bK:et H w y)(lZ:b6 N x)(l0:b6 N y)(bW:N<=10000000000):aX prog 56 [v,w] H (fun u H1=>Ext H H1/\et H1 u (x+y)):=by
 refine aX.cc fun Q aD=>?_
 obtain⟨s1,b3,cx,d1,rfl,e0,lv,hK,iJ,fO⟩:=bE
 obtain⟨s2,cM,cN,d2,rfl,hX,iS,iE,j1,mN⟩:=bK
 have gA:=lZ.len hK iJ
 have im:=l0.len iE j1
 clear lZ l0
 apply Zi (by simp)
 simp[JN]
 have bz:Ext H (H++[.dead,.dead,.dead]):=Ext.more H (by simp)
 refine br.mk (fun af=>?_) (fun af=>?_)
 ·have ao:s1=s2:=by simpa using af
  simp
  refine aY.mk (SI (e0.ext bz) (hX.ext bz) lv iS (by omega) (by omega)) ?_
  rintro _ H1 ⟨bp,d_,eg,d3,rfl,qX,oS,j0,nn⟩
  refine⟨bp,?_⟩
  simp
  refine aY.mk (rr qX oS (by omega)) ?_
  rintro u aT ⟨bh,hu⟩
  simp
  refine cY.mk hu.whole ?_
  simp[bf]
  refine aD _ _ ⟨bz.av (bp.av bh),?_⟩
  have e:x+y=fE s1 (bx d3):=by
   rw[iJ,j1,j0,<-ao]
   cases s1<;>simp[fE];omega
  rw[e]
  exact hu
 ·have ao:s1≠s2:=by simpa using af
  simp
  refine aY.mk (QT (e0.ext bz) (hX.ext bz) lv iS hK iE (by omega) (by omega)) ?_
  rintro _ H1 ⟨rfl,rfl⟩
  simp
  refine br.b_ (fun ag=>?_) (fun ag=>?_)
  ·have h0:bx d2<=bx d1:=by
    by_cases h:bx d1<bx d2
    ·rw[if_pos h]at ag;omega
    ·omega
   have hlen:d2.length<=d1.length:=by
    by_cases h:d2.length<=d1.length
    ·exact h
    ·have:=iE.zW lv (by omega);omega
   simp
   refine aY.mk (Es (e0.ext bz) (hX.ext bz) lv iS (by omega) h0 hlen) ?_
   rintro _ H1 ⟨bp,d_,eg,d3,rfl,qX,oS,j0,nn⟩
   refine⟨bp,?_⟩
   simp
   refine aY.mk (rr qX oS (by omega)) ?_
   rintro u aT ⟨bh,hu⟩
   simp
   refine cY.mk hu.whole ?_
   simp[bf]
   refine aD _ _ ⟨bz.av (bp.av bh),?_⟩
   have e:x+y=fE s1 (bx d3):=by
    rw[iJ,j1,j0]
    cases s1<;>cases s2<;>simp[fE]at ao⊢<;>omega
   rw[e]
   exact hu
  ·have a3:bx d1<bx d2:=by
    by_cases h:bx d1<bx d2
    ·exact h
    ·rw[if_neg h]at ag
     split at ag<;>omega
   have hlen:d1.length<=d2.length:=by
    by_cases h:d1.length<=d2.length
    ·exact h
    ·have:=hK.zW iS (by omega);omega
   simp
   refine aY.mk (Es (hX.ext bz) (e0.ext bz) iS lv (by omega) (by omega) hlen) ?_
   rintro _ H1 ⟨bp,d_,eg,d3,rfl,qX,oS,j0,nn⟩
   refine⟨bp,?_⟩
   simp
   refine aY.mk (rr qX oS (by omega)) ?_
   rintro u aT ⟨bh,hu⟩
   simp
   refine cY.mk hu.whole ?_
   simp[bf]
   refine aD _ _ ⟨bz.av (bp.av bh),?_⟩
   have e:x+y=fE s2 (bx d3):=by
    rw[iJ,j1,j0]
    cases s1<;>cases s2<;>simp[fE]at ao⊢<;>omega
   rw[e]
   exact hu
theorem Ev{v w:Value}{x y:Int}{N:Nat}{H:ad}(bE:et H v x)(bK:et H w y)(lZ:b6 N x)(l0:b6 N y)(bW:N<=10000000000):aX prog 71 [v,w] H (fun u H1=>Ext H H1/\et H1 u (x-y)):=by
 refine aX.cc fun Q aD=>?_
 have ak9:=bE.whole
 have YG:=bK.whole
 have yl:=bE
 have tO:=bK
 obtain⟨s1,b3,cx,d1,rfl,-⟩:=yl
 obtain⟨s2,cM,cN,d2,rfl,-⟩:=tO
 apply Zv (by simp)
 simp[J0]
 have bz:Ext H (H++[.dead,.dead,.dead]):=Ext.more H (by simp)
 refine aY.mk (Li (bK.ext bz)) ?_
 rintro u H1 ⟨bp,hu⟩
 refine⟨bp,?_⟩
 simp
 refine aY.mk (Lb (bE.ext (bz.av bp)) hu lZ l0.neg bW) ?_
 rintro w aT ⟨bh,hw⟩
 simp
 refine cY.mk hw.whole ?_
 simp[bf]
 exact aD _ _ ⟨bz.av (bp.av bh),by rw[Int.sub_eq_add_neg];exact hw⟩
theorem Eo{v w:Value}{x y:Int}{N:Nat}{H:ad}(bE:et H v x)(bK:et H w y)(lZ:b6 N x)(l0:b6 N y)(bW:N<=10000000000):aX prog 44 [v,w] H (fun u H1=>Ext H H1/\u= .int .i64 (if x<y then-1 else if x=y then 0 else 1)):=by
 refine aX.cc fun Q aD=>?_
 have yl:=bE
 have tO:=bK
 obtain⟨s1,b3,cx,d1,rfl,-⟩:=yl
 obtain⟨s2,cM,cN,d2,rfl,-⟩:=tO
 apply Zk (by simp)
 simp[JP]
 have bz:Ext H (H++[.dead,.dead]):=Ext.more H (by simp)
 refine aY.mk (Ev (bE.ext bz) (bK.ext bz) lZ l0 bW) ?_
 rintro u H1 ⟨bp,hu⟩
 simp
 refine aY.mk (SM hu) ?_
 rintro w aT ⟨bh,rfl⟩
 simp[bf]
 refine aD _ _ ⟨bz.av (bp.av bh),?_⟩
 congr 1
 by_cases o:x<y
 ·rw[if_pos (by omega),if_pos o]
 ·rw[if_neg (by omega),if_neg o]
  by_cases aa:x=y
  ·rw[if_pos (by omega),if_pos aa]
  ·rw[if_neg (by omega),if_neg aa]
theorem agD{a0:List Nat}{j d:Nat}(aN:j<a0.length):bx (a0.set j d)+10000^j*(a0[j]?.getD 0)=bx a0+10000^j*d:=by
 rw[AA (a0.set j d) j (by simp;omega),AA a0 j (by omega)]
 have o:(a0.set j d).take j=a0.take j:=by rw[List.take_set_of_le (Nat.le_refl j)]
 rw[o,xD (a0:=a0.set j d) (by simpa using aN),xD aN,List.getElem?_set_self aN]
 have aa:(a0.set j d).drop (j+1)=a0.drop (j+1):=by rw[List.drop_set_of_lt (by omega)]
 rw[aa]
 simp only[Option.getD_some]
 rw[Nat.mul_add,Nat.mul_add]
 omega
theorem eT.set{a0:List Nat}{j d:Nat}(h:eT a0)(aA:d<10000):eT (a0.set j d):=fun x J=>by
 rcases List.mem_or_eq_of_mem_set J with J | rfl
 ·exact h x J
 ·exact aA
theorem abU{V O U fg X P i k a b d dA s:Nat}(h:V+10000^(i+k)*fg=P+10000^i*(a*X))(ao:s=U+fg+a*b)(aA:d+10000*dA=s)(oY:O+10000^(i+k)*U=V+10000^(i+k)*d):O+10000^(i+(k+1))*dA=P+10000^i*(a*(X+10000^k*b)):=by
 have o:10000^(i+(k+1))*dA=10000^(i+k)*(10000*dA):=by
  rw[<-Nat.add_assoc,Nat.pow_succ,Nat.mul_assoc]
 have aa:10000^(i+k)*d+10000^(i+k)*(10000*dA)=10000^(i+k)*U+10000^(i+k)*fg+10000^(i+k)*(a*b):=by
  rw[<-Nat.mul_add,<-Nat.mul_add,<-Nat.mul_add,aA,ao]
 have aE:10000^(i+k)*(a*b)=10000^i*(a*(10000^k*b)):=by
  rw[Nat.pow_add,Nat.mul_assoc]
  congr 1
  rw[<-Nat.mul_assoc,<-Nat.mul_assoc,Nat.mul_comm (10000^k) a]
 rw[Nat.mul_add,Nat.mul_add,o]
 omega
theorem abV{A B a i dq V fg:Nat}(bE:A<10000^i)(aL:a<10000)(bK:B<10000^dq)(h:V+10000^(i+(dq+1))*fg=A*B+10000^i*(a*B)):fg=0:=by
 rcases Nat.eq_zero_or_pos fg with aG | aG
 ·exact aG
 ·exfalso
  have o:A*B+10000^i*(a*B)=(A+10000^i*a)*B:=by rw[Nat.add_mul,Nat.mul_assoc]
  have aa:A+10000^i*a<10000^(i+1):=by
   have aE:10000^i*(a+1)<=10000^i*10000:=Nat.mul_le_mul_left _ aL
   rw[Nat.mul_add,Nat.mul_one]at aE
   rw[Nat.pow_succ]
   omega
  have aE:(A+10000^i*a)*B<10000^(i+1)*10000^dq:=Nat.mul_lt_mul'' aa bK
  rw[<-Nat.pow_add]at aE
  have bA:10000^(i+(dq+1))*1<=10000^(i+(dq+1))*fg:=Nat.mul_le_mul_left _ aG
  have bQ:i+(dq+1)=i+1+dq:=by omega
  rw[bQ]at h bA
  omega
theorem vz{v w:Value}{x y:Int}{N:Nat}{H:ad}(bE:et H v x)(bK:et H w y)(lZ:b6 N x)(l0:b6 N y)(bW:N<=1000000000):aX prog 45 [v,w] H (fun u H1=>Ext H H1/\et H1 u (x*y)):=by
 refine aX.cc fun Q aD=>?_
 obtain⟨s1,b3,cx,fv,rfl,e0,lv,hK,iJ,fO⟩:=bE
 obtain⟨s2,cM,cN,gB,rfl,hX,iS,iE,j1,mN⟩:=bK
 have gA:=lZ.len hK iJ
 have im:=l0.len iE j1
 clear lZ l0
 obtain⟨dg,iV⟩:∃dg,dg=fv.length:=⟨_,rfl⟩
 obtain⟨dq,iq⟩:∃dq,dq=gB.length:=⟨_,rfl⟩
 rw[<-iV]at e0 gA
 rw[<-iq]at hX im
 rw[<-iV,<-iq]
 apply Zq (by simp)
 simp[JV]
 have bz:Ext H (H++[.dead,.dead,.dead]):=Ext.more H (by simp)
 have Fu:=e0.ext bz
 have Vt:=hX.ext bz
 have n5:IntKind.i64.wrap ((dg:Int)+(dq:Int))=((dg+dq:Nat):Int):=by rw[b2 (by omega) (by omega)];simp
 have nu:IntKind.i64.wrap (((dg:Int)+(dq:Int))+1)=((dg+dq+1:Nat):Int):=by rw[b2 (by omega) (by omega)];simp
 refine cD (ae:=ds) (xs:=fv) (by simpa using Fu) (by simp) ?_
 simp[<-iV]
 refine cD (ae:=ds) (xs:=gB) (by simpa using Vt) (by simp) ?_
 simp[<-iq,n5,nu]
 refine u6 (e:=3) (R:=1) (bI:=8) (ay:=false) (n:=dg+dq+1) (e6:= .i64) (dc:= .i64) (z:= .int .i64 0) (ae:=ds) (a:=0) (by simp) (by simp) (by simp) (by rfl) (by rfl) (by simp) (hH 0) (by simp) (by simp) (by decide) (by decide) (by omega) (fun aI=>rfl) ?_
 intro mj ml H1 Fj GZ
 have jv:=Fj.le (b1:=H.length) (by simp)
 have bp:=bz.av GZ
 simp
 refine c6.mk (by kernel_rfl) (fun m bU dd aT=>∃(i:Nat) (U:List Nat),m=dg-i/\i<=dg/\bU 6= .int .i64 (i:Int)/\Ext H aT/\bB H.length 3 1 false ds aT (.slice mj (dg+dq+1) ml) U/\U.length=dg+dq+1/\eT U/\bx U=bx (fv.take i)*bx gB) dg ⟨0,List.replicate (dg+dq+1) 0,by omega,by omega,by simp,bp,jv,by simp,fun d aA=>by rw[List.mem_replicate]at aA;omega,by rw[IM];simp[bx]⟩ ?_
 rintro m bU dd aT ⟨i,U,rfl,ab,dY,bh,fU,dT,za,jB⟩ K a4
 simp at dY
 simp[dY]
 refine cD (ae:=ds) (xs:=fv) (by simpa using e0.ext bh) (by simp) ?_
 simp[<-iV]
 refine br.b_ (fun a3=>?_) (fun h0=>?_)
 ·refine Exists.elim (⟨_,bs (show i<fv.length by omega)⟩:∃d,fv[i]?=some d) fun hT k4=>?_
  have yO:fv[i]?.getD 0=hT:=by rw[k4];rfl
  have nf:hT<10000:=yO▸lv.get i
  simp
  refine c6.mk (by kernel_rfl) (fun m di ev bS=>∃(k fg:Nat) (U:List Nat),m=dq+1-k/\k<=dq+1/\fg<10000/\(k=dq+1->fg=0)/\di 7= .int .i64 (fg:Int)/\di 8= .int .i64 (k:Int)/\Ext H bS/\bB H.length 3 1 false ds bS (.slice mj (dg+dq+1) ml) U/\U.length=dg+dq+1/\eT U/\bx U+10000^(i+k)*fg=bx (fv.take i)*bx gB+10000^i*(hT*bx (gB.take k))) (dq+1) ⟨0,0,U,by omega,by omega,by omega,by omega,by simp,by simp,bh,fU,dT,za,by rw[jB];simp[bx]⟩ ?_
  rintro m di ev bS ⟨k,fg,sV,rfl,ah,kk,lA,cf,cz,bO,iD,Oa,Gp,j0⟩ ln eW
  simp at cf cz
  have Fv:=hX.ext bO
  have Vs:=e0.ext bO
  simp only[kP]
  refine bV.join (by kernel_rfl) (fun cQ dQ bT=>bT=bS/\cQ 34= .bool (decide (k<dq\/0<fg))) ?_ ?_
  ·rintro oz g7-
   simp[cz]
   refine cD (ae:=ds) (xs:=gB) (by simpa using Fv) (by simp) ?_
   simp[<-iq]
   by_cases iG:k<dq
   ·simp[iG]
    exact g7 _ _ _ ⟨rfl,by simp[iG]⟩
   ·simp[iG,cf]
    exact g7 _ _ _ ⟨rfl,by simp[iG]⟩
  ·rintro cQ dQ bT ⟨rfl,E0⟩
   simp only[g_]at E0
   simp at E0
   simp[E0]
   refine br.mk (fun af=>?_) (fun af=>?_)
   ·simp at af
    have akv:k<=dq:=by omega
    have OU:IntKind.i64.wrap ((i:Int)+(k:Int))=((i+k:Nat):Int):=by rw[b2 (by omega) (by omega)];simp
    have ake:=iS.get k
    refine Exists.elim (⟨_,bs (show i+k<sV.length by omega)⟩:∃d,sV[i+k]?=some d) fun pw zb=>?_
    have N_:sV[i+k]?.getD 0=pw:=by rw[zb];rfl
    have akR:pw<10000:=N_▸Gp.get (i+k)
    have YN:IntKind.i64.wrap ((pw:Int)+(fg:Int))=((pw+fg:Nat):Int):=by rw[b2 (by omega) (by omega)];simp
    simp[dY,cz,OU]
    refine cF (ae:=ds) (xs:=sV) (n:=i+k) (a:=pw) (e:=3) (R:=1) (ay:=false) (by simpa using iD.row) (by simp) zb (by simp) (by simp) (by simp) (by decide) ?_
    rintro iK mX rfl
    simp[cf,YN]
    have Og:hT*gB[k]?.getD 0<=9999*9999:=Nat.mul_le_mul (by omega) (by omega)
    refine bV.join (by kernel_rfl) (fun fa gJ b7=>b7=bT/\fa 9= .int .i64 ((pw+fg+hT*gB[k]?.getD 0:Nat):Int)) ?_ ?_
    ·rintro xO l2-
     simp[cz]
     refine cD (ae:=ds) (xs:=gB) (by simpa using Fv) (by simp) ?_
     simp[<-iq]
     refine br.b_ (fun sB=>?_) (fun sB=>?_)
     ·refine Exists.elim (⟨_,bs (show k<gB.length by omega)⟩:∃d,gB[k]?=some d) fun qI FN=>?_
      rw[FN]at Og
      simp at Og
      have zF:IntKind.i64.wrap ((hT:Int)*(qI:Int))=((hT*qI:Nat):Int):=by
       rw[show(hT:Int)*(qI:Int)=((hT*qI:Nat):Int) by simp]
       exact b2 (by omega) (by omega)
      have k9:IntKind.i64.wrap (((pw:Int)+(fg:Int))+(hT:Int)*(qI:Int))=((pw+fg+hT*qI:Nat):Int):=by
       rw[show((pw:Int)+(fg:Int))+(hT:Int)*(qI:Int)=((pw+fg+hT*qI:Nat):Int) by simp]
       exact b2 (by omega) (by omega)
      simp[dY]
      refine cF (ae:=ds) (xs:=fv) (n:=i) (a:=hT) (e:=3) (R:=1) (ay:=false) (by simpa using Vs) (by simp[dY]) k4 (by simp) (by simp) (by simp) (by decide) ?_
      rintro mT va rfl
      simp[cz]
      refine cF (ae:=ds) (xs:=gB) (n:=k) (a:=qI) (e:=3) (R:=1) (ay:=false) (by simpa using Fv) (by simp[cz]) FN (by simp) (by simp) (by simp) (by decide) ?_
      rintro px Ay rfl
      simp[zF,k9]
      exact l2 _ _ _ ⟨rfl,by simp[FN]⟩
     ·have:gB[k]?=none:=List.getElem?_eq_none (by omega)
      try simp
      exact l2 _ _ _ ⟨rfl,by simp[this]⟩
    ·rintro fa gJ b7 ⟨rfl,fz⟩
     simp only[g_]at fz
     simp at fz
     refine Exists.elim (⟨_,rfl⟩:∃S,S=pw+fg+hT*gB[k]?.getD 0) fun S bP=>?_
     have UC:fa 9= .int .i64 (S:Int):=by rw[fz,bP];simp
     have pa:(S:Int).tmod 10000=((S % 10000:Nat):Int):=rfl
     have nq:(S:Int).tdiv 10000=((S/10000:Nat):Int):=rfl
     have YO:IntKind.i64.wrap ((S:Int)/10000)=(S:Int)/10000:=b2 (by omega) (by omega)
     have sM:IntKind.i64.wrap ((k:Int)+1)=((k+1:Nat):Int):=by rw[b2 (by omega) (by omega)];simp
     simp[dY,cz,UC,OU,pa,nq,YO]
     refine ja (k:=H.length) (e:=3) (R:=1) (ay:=false) (n:=i+k) (ae:=ds) (xs:=sV) (a:=S % 10000) (by simpa using iD) (by simp) (by omega) (by simp[ds]) (by simpa using hH _) (by simp) (fun _ _ _ _ _ h=>h) (by simp) (by simp) (by simp) (by decide) ?_
     rintro py dW eJ cH qa sz-
     simp at eJ
     simp[cz,sM]
     have uB:=agD (a0:=sV) (j:=i+k) (d:=S % 10000) (by omega)
     rw[N_]at uB
     have c3:=abU (X:=bx (gB.take k)) (b:=gB[k]?.getD 0) (d:=S % 10000) (dA:=S/10000) j0 bP (by omega) uB
     rw[<-vf]at c3
     refine eW (dq+1-(k+1)) _ _ _ (by omega) ⟨k+1,S/10000,sV.set (i+k) (S % 10000),rfl,by omega,by omega,fun he=>?_,by simp,by simp,cH _ (Nat.le_refl _) bO,eJ,by simp[Oa],Gp.set (Nat.mod_lt _ (by decide)),c3⟩
     have W0:k=dq:=by omega
     have wU:gB.take (k+1)=gB:=List.take_of_length_le (by omega)
     rw[wU,W0]at c3
     refine abV (A:=bx (fv.take i)) (B:=bx gB) (a:=hT) (i:=i) (dq:=dq) ?_ nf ?_ c3
     ·have:=tk (lv.take i)
      rw[List.length_take,Nat.min_eq_left (by omega)]at this
      exact this
     ·have:=tk iS
      rw[<-iq]at this
      exact this
   ·simp at af
    have FU:fg=0:=by omega
    have wU:gB.take k=gB:=List.take_of_length_le (by omega)
    rw[FU,wU]at j0
    have jh:IntKind.i64.wrap ((i:Int)+1)=((i+1:Nat):Int):=by rw[b2 (by omega) (by omega)];simp
    simp[dY,jh]
    refine a4 (dg-(i+1)) _ _ _ (by omega) ⟨i+1,sV,rfl,by omega,by simp,bO,iD,Oa,Gp,?_⟩
    rw[vf,yO,Nat.add_mul,Nat.mul_assoc]
    simpa using j0
 ·have wU:fv.take i=fv:=List.take_of_length_le (by omega)
  rw[wU]at jB
  have NV:=rr (s:=s1 !=s2) (a0:=U) (a:=mj) (c:=ml) (H:=aT) (by rw[dT];exact fU.row) za (by omega)
  rw[dT]at NV
  simp
  refine aY.mk NV ?_
  rintro u bS ⟨bO,hu⟩
  simp
  refine cY.mk hu.whole ?_
  simp[bf]
  refine aD _ _ ⟨bh.av bO,?_⟩
  have e:x*y=fE (s1 !=s2) (bx U):=by
   rw[iJ,j1,jB]
   cases s1<;>cases s2<;>simp[fE,Int.neg_mul,Int.mul_neg]
  rw[e]
  exact hu
attribute [simp] qM
def Sl(H:ad)(u:Value)(n:Nat):Prop:=∃a c a0,u= .slice a a0.length c/\ks H (.slice a a0.length c) a0/\eT a0/\gv a0/\bx a0=n
theorem s8{s:Bool}{a0:List Nat}{n:Nat}(h:(n:Int)=fE s (bx a0))(bd:gv a0)(ao:a0=[]->s=false):s=false/\bx a0=n:=by
 cases s with
 | false=>exact⟨rfl,by simp[fE]at h;omega⟩
 | true=>
  simp[fE]at h
  have aG:bx a0=0:=by omega
  have:=ao (bd.zero.1 aG)
  cases this
theorem b6.a0{a0:List Nat}(h:eT a0):b6 a0.length (bx a0:Int):=by
 unfold b6
 rw[Int.natAbs_natCast]
 exact tk h
theorem Lo{v:Value}{x:List Nat}{d:Nat}{H:ad}(bE:ks H v x)(J:eT x)(cV:gv x)(au:x.length<900000000)(aA:d<=10000):aX prog 97 [v,.int .i64 d] H (fun u H1=>Ext H H1/\Sl H1 u (bx x*d)):=by
 refine aX.cc fun Q aD=>?_
 obtain⟨a,c,rfl⟩:=Row.len bE
 apply ZC (by simp)
 simp[J7]
 refine aY.mk (tB (by omega) (by omega)) ?_
 rintro u H1 ⟨bp,hu⟩
 simp
 have tY:et H1 (.agg #[.bool false,.slice a x.length c]) (bx x):=⟨false,a,c,x,rfl,bE.ext bp,J,cV,rfl,fun _=>rfl⟩
 refine aY.mk (vz (N:=x.length+5) tY hu ((b6.a0 J).mono (by omega)) (b6.mono (b6.i64 (by omega) (by omega)) (by omega)) (by omega)) ?_
 rintro _ aT ⟨bh,s2,cM,cN,d2,rfl,hX,iS,iE,j1,mN⟩
 have aa:s2=false/\bx d2=bx x*d:=s8 (by rw[<-j1];simp) iE mN
 have im:d2.length<=x.length+5+(x.length+5):=b6.len (N:=x.length+5+(x.length+5)) (z:=(bx x:Int)*d) (b6.mul ((b6.a0 J).mono (by omega)) (b6.mono (b6.i64 (by omega) (by omega)) (by omega))) iE j1
 simp
 refine aY.mk (rr hX iS (by omega)) ?_
 rintro _ bS ⟨bO,mU,d_,eg,d3,rfl,qX,oS,jT,qm,Gz⟩
 rw[aa.1]at qm
 have aE:mU=false/\bx d3=bx d2:=s8 (by rw[<-qm];simp[fE]) jT Gz
 simp[bf]
 exact aD _ _ ⟨bp.av (bh.av bO),d_,eg,d3,rfl,qX,oS,jT,by rw[aE.2,aa.2]⟩
theorem bB.pos{α:Type}{k e R:Nat}{ay:Bool}{ae:ad->Value->α->Prop}{H:ad}{v:Value}{xs:List α}(h:bB k e R ay ae H v xs)(J:0<xs.length):0<H.length:=by
 obtain⟨cs,⟨o,aa⟩,aE⟩:=h
 rcases aa with⟨aG,-⟩ | ⟨c,i,cap,l,all,aU,aO,bw,cj,eR,g0⟩
 ·omega
 ·have:=(cn.1 eR).1
  omega
theorem Me{a b q r:Int}(af:0<b)(h:r+b*q=a)(aG:0<=r)(o:r<b):a.fdiv b=q/\a.fmod b=r:=by
 rw[Int.fdiv_eq_ediv_of_nonneg _ (by omega),Int.fmod_eq_emod_of_nonneg _ (by omega)]
 exact(Int.ediv_emod_unique af).2 ⟨h,aG,o⟩
theorem gv.Hs{a b:List Nat}(aL:gv a)(af:eT b)(h:bx a<=bx b):a.length<=b.length:=by
 by_cases au:a.length<=b.length
 ·exact au
 ·have:=aL.zW af (by omega);omega
theorem Ti{X Q B ae a bg S:Nat}(h:X=Q*B+ae)(bP:S=a+10000*ae)(hC:bg*B<=S):a+10000*X=(bg+10000*Q)*B+(S-bg*B):=by
 rw[Nat.add_mul,Nat.mul_assoc]
 omega
theorem Ep{v w:Value}{x y:Int}{N:Nat}{H:ad}(bE:et H v x)(bK:et H w y)(lZ:b6 N x)(l0:b6 N y)(bW:N<=100000000)(aP:0<y):aX prog 70 [v,w] H (fun u H1=>Ext H H1/\∃q r,u= .tuple #[q,r]/\et H1 q (x.fdiv y)/\et H1 r (x.fmod y)):=by
 refine aX.cc fun Q aD=>?_
 have Uq:=lZ
 have Ur:=l0
 have tO:=bK
 obtain⟨s1,b3,cx,fv,rfl,e0,lv,hK,iJ,fO⟩:=bE
 obtain⟨s2,cM,cN,gB,rfl,hX,iS,iE,j1,mN⟩:=bK
 have gA:=lZ.len hK iJ
 have im:=l0.len iE j1
 obtain⟨rfl,alc⟩:s2=false/\bx gB=y.natAbs:=s8 (by rw[<-j1];omega) iE mN
 obtain⟨dg,iV⟩:∃dg,dg=fv.length:=⟨_,rfl⟩
 obtain⟨jc,Br⟩:∃jc,jc=bx gB:=⟨_,rfl⟩
 have ME:0<jc:=by omega
 clear lZ l0
 apply Zm (by simp)
 simp[JR]
 have bz:Ext H (H++[.dead,.dead,.dead,.dead]):=Ext.more H (by simp)
 refine cD (ae:=ds) (xs:=fv) (by simpa using e0.ext bz) (by simp) ?_
 refine u6 (e:=3) (R:=1) (bI:=8) (ay:=false) (n:=fv.length) (e6:= .i64) (dc:= .i64) (z:= .int .i64 0) (ae:=ds) (a:=0) (by simp) (by simp) (by simp) (by rfl) (by rfl) (by simp) (hH 0) (by simp) (by simp) (by decide) (by decide) (by omega) (fun aI=>rfl) ?_
 intro mj ml H1 Fj GZ
 have jv:=Fj.le (b1:=H.length) (by simp)
 have bp:=bz.av GZ
 refine qv (e:=3) (R:=1) (by simp) (by simp) ?_
 simp
 refine cD (ae:=ds) (xs:=fv) (by simpa using e0.ext bp) (by simp) ?_
 have pk:IntKind.i64.wrap ((fv.length:Int)-1)=(fv.length:Int)-1:=b2 (by omega) (by omega)
 simp[pk]
 refine c6.mk (by kernel_rfl) (fun m bU dd aT=>∃(U:List Nat) (kq:Option Addr) (rc:Nat) (rs:List Nat),m<=fv.length/\bU 8= .int .i64 ((m:Int)-1)/\bU 7= .slice kq rs.length rc/\Ext H aT/\bB H.length 3 1 false ds aT (.slice mj fv.length ml) U/\U.length=fv.length/\eT U/\ks aT (.slice kq rs.length rc) rs/\eT rs/\gv rs/\bx rs<jc/\bx (U.take m)=0/\bx (fv.drop m)=bx (U.drop m)*jc+bx rs) fv.length ⟨List.replicate fv.length 0,some ⟨0,0,none⟩,0,[],Nat.le_refl _,by simp,by simp,bp,jv,by simp,fun d aA=>by rw[List.mem_replicate]at aA;omega,(bB.void 0 _ _ 0 _ _ _).row,eT.nil,gv.nil,by simpa[bx]using ME,by rw[List.take_of_length_le (by simp),IM],by rw[List.drop_of_length_le (by simp)];simp[bx]⟩ ?_
 rintro m bU dd aT ⟨U,kq,rc,rs,hm,cz,cf,bh,fU,dT,za,M4,MJ,p2,ak0,Cf,Cg⟩ K a4
 simp at cz cf
 simp[cz]
 refine br.b_ (fun h0=>?_) (fun h0=>?_)
 ·refine Exists.elim (⟨m-1,by omega⟩:∃i:Nat,m=i+1) fun i ab=>?_
  have iH:(m:Int)-1=(i:Int):=by omega
  have jh:IntKind.i64.wrap ((i:Int)-1)=(i:Int)-1:=b2 (by omega) (by omega)
  refine Exists.elim (⟨_,bs (show i<fv.length by omega)⟩:∃d,fv[i]?=some d) fun hT k4=>?_
  have yO:fv[i]?.getD 0=hT:=by rw[k4];rfl
  have nf:hT<10000:=yO▸lv.get i
  have lB:rs.length<=gB.length:=p2.Hs iS (by omega)
  have NU:=Ext.len bh
  rw[ab]at Cg Cf
  simp[cz,iH]
  refine cF (ae:=ds) (xs:=fv) (n:=i) (a:=hT) (e:=3) (R:=1) (ay:=false) (by simpa using e0.ext bh) (by simp[cz,iH]) k4 (by simp) (by simp) (by simp) (by decide) ?_
  rintro fP pG rfl
  refine xw (e:=3) (R:=1) (ay:=false) (z:= .int .i64 0) (ae:=ds) (a:=hT) (fun aI _=>by simp[ds]) (by simpa using hH _) (by simp) (by simp) (by simp) (by rfl) (by rfl) (by rfl) (by decide) (by decide) ?_
  intro v4 bT g8 b8
  simp[cf]
  refine Rb (k:=aT.length) (e:=3) (R:=1) (ay:=false) (bI:=8) (z:= .int .i64 0) (ae:=ds) (xs:=[hT]) (bY:=rs) (by simpa using g8) (by simpa[cf]using M4.ext b8) (fun u y h=>by rw[show u=_ from h];exact hH y) (fun aI dp u y ah h=>h) (by simp) (by simp) (by simp) (by simp) (by decide) (by rfl) (by rfl) (by rfl) (by decide) (by simp;omega) (by have:=Ext.len b8;omega) ?_
  intro aip ai7 b7 l3 ct F_
  have nO:[hT].length+rs.length=(hT::rs).length:=by simp;omega
  rw[nO]at l3
  have qj:=ct _ (Nat.le_refl _) b8
  simp only[nO]
  simp
  refine aY.mk (Pv (s:=false) (a0:=hT::rs) l3.row (fun d aA=>by
   rcases List.mem_cons.1 aA with rfl | aA
   ·exact nf
   ·exact MJ d aA) (by simp;omega)) ?_
  rintro _ dx ⟨cB,mU,d_,eg,d3,rfl,iD,oS,jT,qm,Gz⟩
  have qX:ks dx (.slice d_ d3.length eg) d3:=iD.row
  have aE:mU=false/\bx d3=hT+10000*bx rs:=s8 (by rw[<-qm];simp[fE,bx]) jT Gz
  have p0:bx d3<10000*jc:=by rw[aE.2];omega
  have O1:=bh.av (qj.av cB)
  have nn:d3.length<=gB.length+1:=by
   refine jT.len (n:=gB.length+1) ?_
   have:=tk iS
   rw[Nat.pow_succ,<-Br]at*
   omega
  simp
  refine c6.mk (by kernel_rfl) (fun w jq j9 cw=>∃bg fV:Nat,w=fV-bg/\bg<fV/\fV<=10000/\jq 9= .int .i64 (bg:Int)/\jq 10= .int .i64 (fV:Int)/\Ext dx cw/\bg*jc<=bx d3/\bx d3<fV*jc) 10000 ⟨0,10000,by omega,by omega,by omega,by simp,by simp,Ext.refl _,by omega,p0⟩ ?_
  rintro w jq j9 cw ⟨bg,fV,rfl,y7,WN,fz,fy,ch,hC,iF⟩ I5 sd
  simp at fz fy
  have n5:IntKind.i64.wrap ((fV:Int)-(bg:Int))=(fV:Int)-(bg:Int):=b2 (by omega) (by omega)
  simp[fz,fy,n5]
  refine br.b_ (fun p6=>?_) (fun p6=>?_)
  ·have nu:IntKind.i64.wrap ((bg:Int)+(fV:Int))=((bg+fV:Nat):Int):=by rw[b2 (by omega) (by omega)];simp
   have nq:((bg:Int)+(fV:Int)).tdiv 2=(((bg+fV)/2:Nat):Int):=by
    rw[show(bg:Int)+(fV:Int)=((bg+fV:Nat):Int) by simp];rfl
   refine Exists.elim (⟨(bg+fV)/2,rfl⟩:∃md,md=(bg+fV)/2) fun md NZ=>?_
   rw[<-NZ]at nq
   have jE:IntKind.i64.wrap (md:Int)=(md:Int):=b2 (by omega) (by omega)
   simp[fz,fy,nu,nq,jE]
   refine aY.mk (Lo (hX.ext (O1.av ch)) iS iE (by omega) (by omega)) ?_
   rintro _ dW ⟨cH,K4,vD,d9,rfl,Fw,E8,sh,uG⟩
   rw[<-Br]at uG
   have W4:d9.length<=gB.length+1:=by
    refine sh.len (n:=gB.length+1) ?_
    have o:=tk iS
    have aa:jc*md<=jc*9999:=Nat.mul_le_mul_left _ (by omega)
    rw[uG,Nat.pow_succ,<-Br]at*
    omega
   simp
   refine aY.mk (QT Fw (qX.ext (ch.av cH)) E8 oS sh jT (by omega) (by omega)) ?_
   rintro _ ku ⟨rfl,rfl⟩
   simp
   refine br.b_ (fun ag=>?_) (fun ag=>?_)
   ·have hle:md*jc<=bx d3:=by
     rw[Nat.mul_comm,<-uG]
     by_cases o:bx d9<bx d3
     ·omega
     ·rw[if_neg o]at ag
      by_cases aa:bx d9=bx d3
      ·omega
      ·rw[if_neg aa]at ag;omega
    simp
    exact sd (fV-md) _ _ _ (by omega) ⟨md,fV,rfl,by omega,WN,by simp,by simp[fy],ch.av cH,hle,iF⟩
   ·have a3:bx d3<md*jc:=by
     rw[Nat.mul_comm,<-uG]
     by_cases o:bx d9<bx d3
     ·rw[if_pos o]at ag;omega
     ·by_cases aa:bx d9=bx d3
      ·rw[if_neg o,if_pos aa]at ag;omega
      ·omega
    simp
    exact sd (md-bg) _ _ _ (by omega) ⟨bg,md,rfl,by omega,by omega,by simp[fz],by simp,ch.av cH,hC,a3⟩
  ·obtain rfl:fV=bg+1:=by omega
   have W9:bg<10000:=by omega
   have hf:=bM.ext (ae:=bB H.length 3 1 false ds) fU (qj.av (cB.av ch))
   have zH:=O1.av ch
   simp[cz,iH,fz]
   refine ja (k:=H.length) (e:=3) (R:=1) (ay:=false) (n:=i) (ae:=ds) (xs:=U) (a:=bg) (by simpa using hf) (by simp[cz,iH]) (by omega) (by simp[ds,fz]) (by simpa[fz]using hH _) (by simp) (fun _ _ _ _ _ h=>h) (by simp) (by simp) (by simp) (by decide) ?_
   rintro py dW eJ cH qa sz-
   simp at eJ qa
   have OY:=cH _ (Nat.le_refl _) zH
   have Ve:=bM.ext (ae:=bB b7.length 3 1 false ds) iD ch
   have Ga:=Ext.len qj
   have akU:0<b7.length:=l3.pos (by simp)
   have BE:ks dW (.slice d_ d3.length eg) d3:=(Ve.beside (by omega) qa (fun b aG af cZ=>by
    have o:=(iD.ge af aG).1
    have aa:=(fU.ge cZ aG).2
    omega) fun _ _ h=>h).row
   have WO:bx d3<(bg+1)*jc:=iF
   simp[fz]
   refine aY.mk (Lo (hX.ext OY) iS iE (by omega) (by omega)) ?_
   rintro _ eH ⟨c_,K4,vD,d9,rfl,Fw,E8,sh,uG⟩
   rw[<-Br,Nat.mul_comm]at uG
   simp
   refine aY.mk (Es (BE.ext c_) Fw oS E8 (by omega) (by omega) (sh.Hs oS (by omega))) ?_
   rintro _ ku ⟨fq,aio,ai5,d10,rfl,Fu,UJ,Yz,akw⟩
   simp
   refine aY.mk (rr (s:=false) Fu UJ (by omega)) ?_
   rintro _ hR ⟨e4,ac4,Sn,SO,d11,rfl,Vr,UK,M6,Y0,X3⟩
   have nb:ac4=false/\bx d11=bx d10:=s8 (by rw[<-Y0];simp[fE]) M6 X3
   have wX:=c_.av (fq.av e4)
   rw[Nat.succ_mul]at WO
   simp[cz,iH,jh]
   refine a4 i _ _ _ (by omega) ⟨U.set i bg,Sn,SO,d11,by omega,by simp,by simp,OY.av wX,bM.ext (ae:=bB _ _ _ _ ds) eJ wX,by simp[dT],za.set W9,Vr,UK,M6,by omega,?_,?_⟩
   ·rw[List.take_set_of_le (Nat.le_refl i)]
    rw[vf]at Cf
    omega
   ·rw[xD (a0:=fv) (by omega),xD (a0:=U.set i bg) (by simp;omega),yO,List.getElem?_set_self (by omega),List.drop_set_of_lt (by omega),nb.2,Yz,uG]
    exact Ti Cg aE.2 hC
 ·have nY:m=0:=by omega
  have N9:bx fv=bx U*jc+bx rs:=by rw[nY]at Cg;simpa using Cg
  have lB:rs.length<=gB.length:=p2.Hs iS (by omega)
  have B7:=rr (s:=s1) (a0:=U) (a:=mj) (c:=ml) (H:=aT) (by rw[dT];exact fU.row) za (by omega)
  rw[dT]at B7
  simp
  refine aY.mk B7 ?_
  rintro acH bS ⟨bO,aq⟩
  simp[cf]
  refine aY.mk (rr (s:=false) (M4.ext bO) MJ (by omega)) ?_
  rintro _ bT ⟨b8,rE,oI,qK,d4,rfl,tT,MG,qY,sQ,wR⟩
  have bA:rE=false/\bx d4=bx rs:=s8 (by rw[<-sQ];simp[fE]) qY wR
  have Na:et bT (.agg #[.bool rE,.slice oI d4.length qK]) (bx rs):=⟨rE,oI,qK,d4,rfl,tT,MG,qY,by rw[bA.1,bA.2];rfl,wR⟩
  have G1:=bh.av (bO.av b8)
  simp
  refine cY.mk aq.whole ?_
  simp
  have ct:Ext bT (bT++[.dead,.dead]):=Ext.more bT (by simp)
  refine bV.join (by kernel_rfl) (fun j8 lP dx=>dx=bT++[.dead,.dead]/\j8 83= .bool (s1&&decide (0<d4.length))) ?_ ?_
  ·rintro c5 dB-
   cases s1 with
   | false=>
    simp
    exact dB _ _ _ ⟨rfl,by simp⟩
   | true=>
    simp
    refine cD (ae:=ds) (xs:=d4) (by simpa using tT.ext ct) (by simp) ?_
    simp
    exact dB _ _ _ ⟨rfl,by simp⟩
  ·rintro j8 lP dx ⟨rfl,tN⟩
   simp only[g_]at tN
   simp at tN
   simp[tN]
   refine br.mk (fun af=>?_) (fun af=>?_)
   ·have mG:s1=true/\0<d4.length:=by simpa using af
    have ak1:0<bx rs:=by
     rcases Nat.eq_zero_or_pos (bx rs)with h | h
     ·rw[<-bA.2]at h
      have:=qY.zero.1 h
      rw[this]at mG
      simp at mG
     ·exact h
    have qk:=ct
    have T_:b6 (N+2) x:=Uq.mono (by omega)
    have L_:b6 (N+2) y:=Ur.mono (by omega)
    have q_:bx U<=bx fv:=by
     have:bx U*1<=bx U*jc:=Nat.mul_le_mul_left _ ME
     omega
    have Ub:b6 (N+2) (fE s1 (bx U)):=T_.le (by rw[Dt,iJ,Dt];exact q_)
    have Uc:b6 (N+2) (bx rs:Int):=L_.le (by omega)
    simp
    refine aY.mk (tB (v:=1) (by omega) (by omega)) ?_
    rintro u cw ⟨ch,hu⟩
    refine⟨ch,?_⟩
    simp
    refine aY.mk (Ev (N:=N+2) (aq.ext (b8.av (ct.av ch))) hu Ub (b6.small (by decide) (by omega)) (by omega)) ?_
    rintro _ dW ⟨cH,Oo⟩
    refine⟨cH,?_⟩
    simp
    have sO:=ct.av (ch.av cH)
    refine aY.mk (Ev (N:=N+2) (tO.ext (G1.av sO)) (Na.ext sO) L_ Uc (by omega)) ?_
    rintro _ eH ⟨c_,Ov⟩
    simp
    refine cY.mk Oo.whole ?_
    simp
    refine cY.mk Ov.whole ?_
    simp[bf]
    have YU:=G1.av (sO.av c_)
    have he:x= -((bx U*jc+bx rs:Nat):Int):=by rw[iJ,mG.1,N9];rfl
    have He:y=(jc:Int):=by omega
    have q2:x.fdiv y=fE s1 (bx U)-1/\x.fmod y=y-(bx rs:Int):=by
     refine Me aP ?_ (by omega) (by omega)
     rw[he,mG.1,He]
     simp only[fE,if_true,Int.natCast_add,Int.natCast_mul]
     rw[Int.mul_sub,Int.mul_neg,Int.mul_comm (jc:Int)]
     omega
    exact aD _ _ ⟨YU,_,_,rfl,by rw[q2.1];exact Oo.ext c_,by rw[q2.2];exact Ov⟩
   ·have mG:s1=false\/d4.length=0:=by
     cases s1 with
     | false=>exact .inl rfl
     | true=>simp at af;exact .inr (by simp[af])
    simp
    refine cY.mk aq.whole ?_
    simp[bf]
    have He:y=(jc:Int):=by omega
    have q2:x.fdiv y=fE s1 (bx U)/\x.fmod y=(bx rs:Int):=by
     refine Me aP ?_ (by omega) (by omega)
     rw[iJ,N9,He]
     rcases mG with h | h
     ·rw[h]
      simp only[fE,Bool.false_eq_true,if_false,Int.natCast_add,Int.natCast_mul]
      rw[Int.mul_comm (jc:Int)]
      omega
     ·have fp:bx rs=0:=by
       rw[<-bA.2,List.eq_nil_of_length_eq_zero h];rfl
      rw[fp]
      cases s1
      ·simp only[fE,Bool.false_eq_true,if_false,Int.natCast_add,Int.natCast_mul]
       rw[Int.mul_comm (jc:Int)]
       simp
      ·simp only[fE,if_true,Int.natCast_add,Int.natCast_mul]
       rw[Int.mul_neg,Int.mul_comm (jc:Int)]
       simp
    exact aD _ _ ⟨G1.av ct,_,_,rfl,by rw[q2.1];exact aq.ext (b8.av ct),by rw[q2.2];exact Na.ext ct⟩
theorem Lf{v w:Value}{x y:Int}{N:Nat}{H:ad}(bE:et H v x)(bK:et H w y)(lZ:b6 N x)(l0:b6 N y)(bW:N<=100000000):aX prog 69 [v,w] H (fun u H1=>Ext H H1/\et H1 u (Int.gcd x y:Nat)):=by
 refine aX.cc fun Q aD=>?_
 have yl:=bE
 have tO:=bK
 obtain⟨s1,b3,cx,d1,rfl,-⟩:=yl
 obtain⟨s2,cM,cN,d2,rfl,-⟩:=tO
 apply Zn (by simp)
 simp[JS]
 have bz:Ext H (H++[.dead,.dead,.dead]):=Ext.more H (by simp)
 refine aY.mk (La (bE.ext bz)) ?_
 rintro u H1 ⟨bp,hu⟩
 refine⟨bp,?_⟩
 try simp
 refine aY.mk (La (bK.ext (bz.av bp))) ?_
 rintro w aT ⟨bh,hw⟩
 try simp
 refine cY.mk hu.whole ?_
 try simp
 refine cY.mk hw.whole ?_
 try simp
 have n6:=bz.av (bp.av bh)
 refine c6.mk (by kernel_rfl) (fun m di ev bS=>∃p q:Nat,m=q/\Ext aT bS/\et bS (ev 2) p/\et bS (ev 3) q/\Nat.gcd p q=Int.gcd x y/\b6 N p/\b6 N q) y.natAbs ⟨x.natAbs,y.natAbs,rfl,Ext.refl _,by simpa using hu.ext bh,by simpa using hw,rfl,lZ.le (by simp),l0.le (by simp)⟩ ?_
 rintro m di ev bS ⟨p,q,rfl,bO,aK,aq,a1,Uk,ES⟩ K a4
 have XJ:=aq
 obtain⟨rE,oI,qK,d4,oU,tT,MG,qY,sQ,wR⟩:=XJ
 simp at oU aK aq
 simp[oU]
 refine cD (ae:=ds) (xs:=d4) (by simpa using tT) (by simp) ?_
 try simp
 have bA:=s8 (n:=m) sQ qY wR
 refine br.b_ (fun a3=>?_) (fun a3=>?_)
 ·have XQ:(0:Int)<(m:Int):=by
   rcases Nat.eq_zero_or_pos m with h | h
   ·rw[<-bA.2]at h
    have:=qY.zero.1 h
    rw[this]at a3
    simp at a3
   ·omega
  try simp
  refine aY.mk (Ep aK aq Uk ES bW XQ) ?_
  rintro _ b7 ⟨ct,acH,alE,rfl,XS,Cv⟩
  have WC:((p:Int)).fmod (m:Int)=((p % m:Nat):Int):=by
   rw[Int.fmod_eq_emod_of_nonneg _ (by omega)];rfl
  rw[WC]at Cv
  try simp
  refine cY.mk XS.whole ?_
  try simp
  refine cY.mk Cv.whole ?_
  try simp
  refine cY.mk aq.whole ?_
  try simp
  refine cY.mk Cv.whole ?_
  try simp
  have fi:Ext b7 (b7++[.dead,.dead]):=Ext.more b7 (by simp)
  have sB:p % m<m:=Nat.mod_lt _ (by omega)
  refine a4 (p % m) _ _ _ sB ⟨m,p % m,rfl,bO.av (ct.av fi),?_,by simpa using Cv.ext fi,?_,ES,ES.le (by omega)⟩
  ·simpa using aq.ext (ct.av fi)
  ·rw[<-a1,Nat.gcd_comm p m,Nat.gcd_rec m p,Nat.gcd_comm]
 ·have nY:m=0:=by
   have:d4=[]:=List.eq_nil_of_length_eq_zero (by omega)
   rw[<-bA.2,this];rfl
  have Cm:p=Int.gcd x y:=by rw[<-a1,nY];simp
  try simp
  refine cY.mk aK.whole ?_
  simp[bf]
  exact aD _ _ ⟨n6.av bO,by rw[<-Cm];exact aK⟩
def ht(H:ad)(v:Value)(n d:Int):Prop:=∃s1 b3 c4 cx s2 cM c9 cN,v= .agg #[.bool s1,.slice b3 c4 cx,.bool s2,.slice cM c9 cN]/\et H (.agg #[.bool s1,.slice b3 c4 cx]) n/\et H (.agg #[.bool s2,.slice cM c9 cN]) d
theorem ht.ext{H H1:ad}{v:Value}{n d:Int}(h:ht H v n d)(J:Ext H H1):ht H1 v n d:=by
 obtain⟨s1,b3,c4,cx,s2,cM,c9,cN,e,o,aa⟩:=h
 exact⟨s1,b3,c4,cx,s2,cM,c9,cN,e,o.ext J,aa.ext J⟩
theorem ht.whole{H:ad}{v:Value}{n d:Int}(h:ht H v n d):Whole prog 42 v:=by
 obtain⟨s1,b3,c4,cx,s2,cM,c9,cN,rfl,-⟩:=h
 exact⟨by rfl,by simp[Value.cells,Value.oneCell'],by simp[e7]⟩
theorem et.shape{H:ad}{v:Value}{z:Int}(h:et H v z):∃s a n c,v= .agg #[.bool s,.slice a n c]:=by
 obtain⟨s,a,c,a0,h,-⟩:=h
 exact⟨_,_,_,_,h⟩
theorem DH{d:Nat}{x y:Operand}{r:List bJ}{F:Fr}{H:ad}{Q:Fr->ad->Prop}{n m:Int}{ax:bc (dF d 42 [(0,x),(1,y)]::r) Q}(J:et H (ar F x) n)(aP:et H (ar F y) m)
  (K:∀u,ht H u n m->ba prog r Q .mk (a5 F d u) H):ba prog (dF d 42 [(0,x),(1,y)]::r) Q ax F H:=by
 obtain⟨s1,b3,c4,cx,an⟩:=J.shape
 obtain⟨s2,cM,c9,cN,hw⟩:=aP.shape
 have:=K _ ⟨s1,b3,c4,cx,s2,cM,c9,cN,rfl,an▸J,hw▸aP⟩
 simp[an,hw]
 exact this
attribute [-simp] pT
theorem A4{n:Int}{H:ad}(o: -9223372036854775808<=n)(aa:n<9223372036854775808):aX prog 19 [.int .i64 n] H (fun u H1=>Ext H H1/\ht H1 u n 1):=by
 refine aX.cc fun Q aD=>?_
 apply Zw (by simp)
 simp[J1]
 have bz:=Ext.dead H
 refine aY.mk (tB o aa) ?_
 rintro u H1 ⟨bp,hu⟩
 try simp
 refine aY.mk (tB (v:=1) (by omega) (by omega)) ?_
 rintro w aT ⟨bh,hw⟩
 try simp
 refine DH (n:=n) (m:=1) (by simpa using hu.ext bh) (by simpa using hw) ?_
 intro q aq
 try simp
 refine cY.mk aq.whole ?_
 simp[bf]
 exact aD _ _ ⟨bz.av (bp.av bh),aq⟩
theorem Lc{v w:Value}{c4 d1 c9 d2:Int}{N:Nat}{H:ad}(bE:ht H v c4 d1)(bK:ht H w c9 d2)(f1:b6 N c4)(f2:b6 N d1)(f3:b6 N c9)(f4:b6 N d2)(bW:N<=1000000000):aX prog 26 [v,w] H (fun u H1=>Ext H H1/\ht H1 u (c4*d2+c9*d1) (d1*d2)):=by
 refine aX.cc fun Q aD=>?_
 obtain⟨s1,b3,CW,cx,s2,cM,CX,cN,rfl,h2,iT⟩:=bE
 obtain⟨mU,d_,aa9,eg,rE,oI,aba,qK,rfl,nZ,mI⟩:=bK
 apply Zj (by simp)
 simp[JO]
 have bz:Ext H (H++[.dead,.dead,.dead]):=Ext.more H (by simp)
 refine aY.mk (vz (h2.ext bz) (mI.ext bz) f1 f4 bW) ?_
 rintro u H1 ⟨bp,hu⟩
 refine⟨bp,?_⟩
 try simp
 have pn:=bz.av bp
 refine aY.mk (vz (nZ.ext pn) (iT.ext pn) f3 f2 bW) ?_
 rintro w aT ⟨bh,hw⟩
 refine⟨bh,?_⟩
 try simp
 refine aY.mk (Lb (N:=N+N) (hu.ext bh) hw (f1.mul f4) (f3.mul f2) (by omega)) ?_
 rintro z bS ⟨bO,aQ⟩
 refine⟨bO,?_⟩
 try simp
 have mP:=pn.av (bh.av bO)
 refine aY.mk (vz (iT.ext mP) (mI.ext mP) f2 f4 bW) ?_
 rintro y bT ⟨b8,aP⟩
 try simp
 refine DH (n:=c4*d2+c9*d1) (m:=d1*d2) (by simpa using aQ.ext b8) (by simpa using aP) ?_
 intro q aq
 try simp
 refine cY.mk aq.whole ?_
 simp[bf]
 exact aD _ _ ⟨mP.av b8,aq⟩
theorem Ss{v w:Value}{c4 d1 c9 d2:Int}{N:Nat}{H:ad}(bE:ht H v c4 d1)(bK:ht H w c9 d2)(f1:b6 N c4)(f2:b6 N d1)(f3:b6 N c9)(f4:b6 N d2)(bW:N<=1000000000):aX prog 17 [v,w] H (fun u H1=>Ext H H1/\u= .int .i64 (if c4*d2<c9*d1 then-1 else if c4*d2=c9*d1 then 0 else 1)):=by
 refine aX.cc fun Q aD=>?_
 obtain⟨s1,b3,CW,cx,s2,cM,CX,cN,rfl,h2,iT⟩:=bE
 obtain⟨mU,d_,aa9,eg,rE,oI,aba,qK,rfl,nZ,mI⟩:=bK
 apply Zl (by simp)
 simp[JQ]
 have bz:Ext H (H++[.dead,.dead]):=Ext.more H (by simp)
 refine aY.mk (vz (h2.ext bz) (mI.ext bz) f1 f4 bW) ?_
 rintro u H1 ⟨bp,hu⟩
 refine⟨bp,?_⟩
 try simp
 have pn:=bz.av bp
 refine aY.mk (vz (nZ.ext pn) (iT.ext pn) f3 f2 bW) ?_
 rintro w aT ⟨bh,hw⟩
 try simp
 refine aY.mk (Eo (N:=N+N) (hu.ext bh) hw (f1.mul f4) (f3.mul f2) (by omega)) ?_
 rintro z bS ⟨bO,rfl⟩
 simp[bf]
 exact aD _ _ ⟨pn.av (bh.av bO),rfl⟩
theorem SB{v:Value}{n d:Int}{N:Nat}{H:ad}(bE:ht H v n d)(aA:0<d)(f1:b6 N n)(f2:b6 N d)(bW:N<=100000000):aX prog 43 [v] H (fun u H1=>Ext H H1/\ht H1 u (Rat.divInt n d).num (Rat.divInt n d).den):=by
 refine aX.cc fun Q aD=>?_
 obtain⟨s1,b3,CW,cx,s2,cM,CX,cN,rfl,h2,iT⟩:=bE
 apply Zp (by simp)
 simp[JU]
 have bz:Ext H (H++[.dead,.dead]):=Ext.more H (by simp)
 have y1:0<Int.gcd n d:=Int.gcd_pos_of_ne_zero_right _ (by omega)
 have F3:Int.gcd n d<=d.natAbs:=Nat.le_of_dvd (by omega) (Int.gcd_dvd_natAbs_right n d)
 have r6:b6 N (Int.gcd n d:Nat):=f2.le (by simpa using F3)
 refine aY.mk (Lf (h2.ext bz) (iT.ext bz) f1 f2 bW) ?_
 rintro u H1 ⟨bp,hu⟩
 try simp
 refine cY.mk hu.whole ?_
 try simp
 have G9:=Ext.dead H1
 have pn:=bz.av (bp.av G9)
 refine aY.mk (Ep (h2.ext pn) (hu.ext G9) f1 r6 bW (by omega)) ?_
 rintro _ aT ⟨bh,aU,ec,rfl,zg,zl⟩
 try simp
 refine cY.mk zg.whole ?_
 try simp
 refine cY.mk zl.whole ?_
 try simp
 have Pb:Ext aT (aT++[.dead,.dead]):=Ext.more aT (by simp)
 have e5:=bh.av Pb
 refine aY.mk (Ep (iT.ext (pn.av e5)) (hu.ext (G9.av e5)) f2 r6 bW (by omega)) ?_
 rintro _ bS ⟨bO,aO,fs,rfl,pd,ra⟩
 try simp
 refine cY.mk pd.whole ?_
 try simp
 refine cY.mk ra.whole ?_
 try simp
 have Ha:Ext bS (bS++[.dead,.dead]):=Ext.more bS (by simp)
 have o:=Bg n d.natAbs (by omega)
 have Nr:((d.natAbs:Nat):Int)=d:=by omega
 rw[Nr]at o
 have bn:n.fdiv (Int.gcd n d:Nat)=(Rat.divInt n d).num:=by
  rw[o.1,Int.fdiv_eq_ediv_of_nonneg _ (by omega)];rfl
 have bj:d.fdiv (Int.gcd n d:Nat)=((Rat.divInt n d).den:Int):=by
  rw[o.2,Int.fdiv_eq_ediv_of_nonneg _ (by omega),Int.natCast_ediv,Nr];rfl
 rw[bn]at zg
 rw[bj]at pd
 refine DH (n:=(Rat.divInt n d).num) (m:=(Rat.divInt n d).den) (by simpa using zg.ext (Pb.av (bO.av Ha))) (by simpa using pd.ext Ha) ?_
 intro q aq
 try simp
 refine cY.mk aq.whole ?_
 simp[bf]
 exact aD _ _ ⟨pn.av (e5.av (bO.av Ha)),aq⟩
end Go.cl
end
section
set_option maxRecDepth 8000
set_option maxHeartbeats 1000000
namespace Go.cl
open Go.Proofs
open Go.Proofs.Tryz (prog)
attribute [-simp] gk hq iM
theorem et.zero(H:ad):et H (.agg #[.bool false,.slice none 0 0]) 0:=⟨false,none,0,[],rfl,Row.nil _ _ _ _ _,eT.nil,gv.nil,rfl,fun _=>rfl⟩
theorem TO{l:List Nat}{k bg n:Nat}{a0:List Nat}(hC:bg<=k)(ah:k<=l.length)(bA:bg=0\/k=bg+4)(aF:a0.length=n)(h:dN l=dN (l.take k)*10000^n+bx a0):dN l=dN (l.take bg)*10000^(n+1)+bx (a0++[dN ((l.drop bg).take (k-bg))]):=by
 have e:l.take k=l.take bg++(l.drop bg).take (k-bg):=by
  have:=List.take_append_drop bg (l.take k)
  rw[List.take_take,Nat.min_eq_left hC,List.drop_take]at this
  exact this.symm
 have gV:((l.drop bg).take (k-bg)).length=k-bg:=by simp;omega
 rw[h,e,Bh,gV,xE,aF,Nat.add_mul]
 rcases bA with rfl | rfl
 ·simp[dN,Nat.mul_comm];omega
 ·have bn:10000^(n+1)=10000^n*10000:=by rw[Nat.pow_succ]
  have bj:(10:Nat)^4=10000:=by decide
  rw[show bg+4-bg=4 by omega,bn,bj]
  generalize 10000^n=P
  generalize dN (l.take bg)=X
  generalize dN ((l.drop bg).take 4)=C
  rw[Nat.mul_comm C P,Nat.mul_assoc,Nat.mul_comm 10000 P]
  omega
theorem LV{l:List Nat}{H:ad}(au:Bytes l)(hlen:l.length<4611686018427387904):
  aX prog 80 [.string (cv l)] H (fun u H1=>Ext H H1/\∃v z,u= .tuple #[v,.bool (decide (ib l))]/\et H1 v z/\(ib l->z=dN l)/\(¬ib l->z=0)):=by
 refine aX.cc fun Q aD=>?_
 apply Zx (by simp)
 simp[J2]
 have bz:Ext H (H++[.dead]):=Ext.dead H
 have fail:∀jM,Ext H jM->¬ib l->Q (.tuple #[.agg #[.bool false,.slice none 0 0],.bool false]) jM:=fun jM J gO=>aD _ _ ⟨J,_,0,by rw[decide_eq_false gO],et.zero _,fun h=>absurd h gO,fun _=>rfl⟩
 refine bV.join (by kernel_rfl) (fun az bH H1=>H1=H++[.dead]/\∃b,az 25= .bool b/\(b=false↔(l≠[]/\¬(l.head?=some 48/\1<l.length)/\l.length<=4000))) ?_ ?_
 ·rintro K a4-
  simp
  refine jm (l:=l) (by simp) (by rfl) ?_
  by_cases aG:l.length<1
  ·have hV:((l.length:Int)<1)=True:=by simp;omega
   simp[hV]
   refine a4 _ _ _ ⟨rfl,true,by simp,?_⟩
   have:l=[]:=List.eq_nil_of_length_eq_zero (by omega)
   simp[this]
  ·have hV:((l.length:Int)<1)=False:=by simp;omega
   have c2:l≠[]:=by rintro rfl;simp at aG
   simp[hV]
   refine jm (l:=l) (by simp) (by rfl) ?_
   by_cases o:4000<l.length
   ·have bn:((4000:Int)<(l.length:Int))=True:=by simp;omega
    simp[bn]
    refine a4 _ _ _ ⟨rfl,true,by simp,?_⟩
    simp;omega
   ·have bn:((4000:Int)<(l.length:Int))=False:=by simp;omega
    simp[bn]
    refine pF (n:=0) (oa:= .i64) (l:=l) (by simp) au (by simp) (by omega) (by rfl) ?_
    have ud:l.head?=some (l[0]?.getD 0):=by
     rw[List.head?_eq_getElem?,bs (by omega)];rfl
    by_cases aa:l[0]?.getD 0=48
    ·have bj:(((l[0]?.getD 0:Nat):Int)=48)=True:=by simp;omega
     simp[bj]
     refine jm (l:=l) (by simp) (by rfl) ?_
     simp
     refine a4 _ _ _ ⟨rfl,decide (1<l.length),by simp;omega,?_⟩
     rw[ud,aa]
     simp[c2];omega
    ·have bj:(((l[0]?.getD 0:Nat):Int)=48)=False:=by simp;omega
     simp[bj]
     refine a4 _ _ _ ⟨rfl,false,by simp,?_⟩
     rw[ud]
     simp[c2,aa];omega
 rintro az bH H1 ⟨rfl,b,vQ,af⟩
 simp at vQ
 simp[vQ]
 refine br.mk (fun jV=>?_) (fun jV=>?_)
 ·simp[bf]
  refine fail _ bz fun h=>?_
  rw[af.2 ⟨h.2.1,h.2.2.1,h.2.2.2⟩]at jV
  cases jV
 have gW:=af.1 jV
 simp
 refine jm (l:=l) (by simp) (by rfl) ?_
 simp
 refine c6.mk (by kernel_rfl) (fun m bU dd aT=>∃(k:Nat) (a:Int) (a0:List Nat) (eB:Option Addr) (eV:Nat),m=k/\k<=l.length/\bU 5= .int .i64 a/\(0<a->a=k)/\(a<=0->k=0)/\ -4<=a/\dd 4= .agg #[.bool false,.slice eB a0.length eV]/\bB H.length 3 1 false ds aT (.slice eB a0.length eV) a0/\eT a0/\(∀c∈l.drop k,ia c)/\dN l=dN (l.take k)*10000^a0.length+bx a0/\Ext H aT/\a0.length<=l.length-k) l.length ⟨l.length,l.length,[],none,0,rfl,Nat.le_refl _,by simp,fun _=>rfl,by omega,by omega,by simp,bB.nil _ _ _ _ _ _,eT.nil,by simp,by simp[bx],Ext.more H (by simp),by simp⟩ ?_
 rintro m bU dd aT ⟨k,a,a0,eB,eV,rfl,ah,bQ,VX,VY,aj8,Bu,cR,fh,so,an,bh,kl⟩ K a4
 simp at bQ Bu
 simp[bQ]
 refine br.b_ (fun Nb=>?_) (fun Nb=>?_)
 ·have aj9:=VX Nb
  refine Exists.elim (⟨m-4,rfl⟩:∃bg,bg=m-4) fun bg hC=>?_
  have akM:(if(a-4)>0 then(a-4)else 0)=(bg:Int):=by split<;>omega
  have Xh:(if(0:Int)<a-4 then a-4 else 0)=(bg:Int):=by split<;>omega
  have NY:(if 4<a then a-4 else 0)=(bg:Int):=by split<;>omega
  have n5:IntKind.i64.wrap (a-4)=a-4:=b2 (by omega) (by omega)
  simp[bQ,n5,Xh,NY]
  refine c6.mk (by kernel_rfl) (fun w di ev bS=>∃i:Nat,w=m-i/\bg<=i/\i<=m/\di 7= .int .i64 (i:Int)/\bS=aT/\(∀c∈(l.drop bg).take (i-bg),ia c)/\di 6= .int .i64 (dN ((l.drop bg).take (i-bg)):Nat)) (m-bg) ⟨bg,rfl,Nat.le_refl _,by omega,by simp[NY],rfl,by simp,by simp[dN]⟩ ?_
  rintro w di ev bS ⟨i,rfl,B6,p7,cf,rfl,wB,dY⟩ ln eW
  simp at cf dY
  have WS:((i:Int)<a)=(i<m):=by simp;omega
  simp[bQ,cf,WS]
  have gg:i-bg<=4:=by omega
  have Gt:(10:Nat)^(i-bg)<=10^4:=Nat.pow_le_pow_right (by decide) gg
  have kk:=r4 wB
  have gV:((l.drop bg).take (i-bg)).length=i-bg:=by simp;omega
  rw[gV]at kk
  refine br.b_ (fun a3=>?_) (fun a3=>?_)
  ·have cA:i<l.length:=by omega
   refine Exists.elim (⟨_,rfl⟩:∃c,c=l[i]?.getD 0) fun c ag=>?_
   have akj:c<256:=by
    rw[ag,bs cA]
    exact au _ (List.getElem_mem cA)
   have Wo:(l.drop bg)[i-bg]?.getD 0=c:=by rw[List.getElem?_drop,show bg+(i-bg)=i by omega,ag]
   try simp
   refine bV.join (by kernel_rfl) (fun cQ dQ bT=>bT=bS/\cQ 51= .bool (decide (¬ia c))) ?_ ?_
   ·rintro c5 dB-
    simp[cf]
    refine pF (n:=i) (oa:= .i64) (l:=l) (by simp) au (by simp[cf]) cA (by rfl) ?_
    rw[<-ag]
    rcases Nat.lt_or_ge c 48 with o | o
    ·have bn:((c:Int)<48)=True:=by simp;omega
     simp[bn]
     refine dB _ _ _ ⟨rfl,?_⟩
     simp[ia];omega
    ·have bn:((c:Int)<48)=False:=by simp;omega
     simp[bn,cf]
     refine pF (n:=i) (oa:= .i64) (l:=l) (by simp) au (by simp[cf]) cA (by rfl) ?_
     rw[<-ag]
     rcases Nat.lt_or_ge 57 c with aa | aa
     ·have bj:((57:Int)<c)=True:=by simp;omega
      simp[bj]
      refine dB _ _ _ ⟨rfl,?_⟩
      simp[ia];omega
     ·have bj:((57:Int)<c)=False:=by simp;omega
      simp[bj]
      refine dB _ _ _ ⟨rfl,?_⟩
      simp[ia];omega
   ·rintro cQ dQ bT ⟨rfl,E2⟩
    simp only[g_]at E2
    simp at E2
    simp[E2]
    refine br.b_ (fun a1=>?_) (fun a1=>?_)
    ·have BS:48<=c/\c<=57:=a1
     refine Exists.elim (⟨_,rfl⟩:∃D,D=dN ((l.drop bg).take (i-bg))) fun D yo=>?_
     rw[<-yo]at dY kk
     have MI:D<1000:=by
      have:(10:Nat)^(i-bg)<=10^3:=Nat.pow_le_pow_right (by decide) (by omega)
      omega
     have k9:IntKind.u8.wrap ((c:Int)-48)=((c-48:Nat):Int):=by rw[D0 (by omega) (by omega)];omega
     have sL:IntKind.i64.wrap (10*(D:Int))=10*(D:Int):=b2 (by omega) (by omega)
     have YJ:IntKind.i64.wrap ((c-48:Nat):Int)=((c-48:Nat):Int):=b2 (by omega) (by omega)
     have GY:IntKind.i64.wrap (10*(D:Int)+((c-48:Nat):Int))=10*(D:Int)+((c-48:Nat):Int):=b2 (by omega) (by omega)
     have jh:IntKind.i64.wrap ((i:Int)+1)=((i+1:Nat):Int):=by rw[b2 (by omega) (by omega)];simp
     simp[dY,cf,sL]
     refine pF (n:=i) (oa:= .i64) (l:=l) (by simp) au (by simp[cf]) cA (by rfl) ?_
     rw[<-ag]
     simp[cf,k9,YJ,GY,jh]
     refine eW (m-(i+1)) _ _ _ (by omega) ⟨i+1,rfl,by omega,by omega,by simp,rfl,?_,?_⟩
     ·rw[show i+1-bg=(i-bg)+1 by omega,List.take_add_one]
      intro dA hh
      rcases List.mem_append.1 hh with hh | hh
      ·exact wB dA hh
      ·rw[List.getElem?_drop,show bg+(i-bg)=i by omega,bs cA]at hh
       simp at hh
       have:c=l[i]:=by rw[ag,bs cA];rfl
       rw[hh,<-this];exact a1
     ·rw[show i+1-bg=(i-bg)+1 by omega,L1 (by simp;omega),Wo,<-yo]
      simp;omega
    ·simp[bf]
     refine fail _ bh fun h=>a1 ?_
     have:c∈l:=by
      rw[ag,bs cA]
      exact List.getElem_mem cA
     exact h.1 c this
  ·have WR:i=m:=by omega
   rw[WR]at wB kk dY
   refine Exists.elim (⟨_,rfl⟩:∃D,D=dN ((l.drop bg).take (m-bg))) fun D yo=>?_
   rw[<-yo]at dY kk
   have akY:(10:Nat)^(m-bg)<=10^4:=Nat.pow_le_pow_right (by decide) (by omega)
   have MI:D<10000:=by
    have:(10:Nat)^4=10000:=by decide
    omega
   have kK:=Ext.len bh
   simp[Bu,dY]
   refine At (k:=H.length) (e:=3) (R:=1) (ay:=false) (bI:=8) (z:= .int .i64 0) (ae:=ds) (xs:=a0) (a:=D) (by simpa using cR) (by simp[ds,dY]) (by simpa[dY]using hH _) (by simp) (fun _ _ _ _ _ h=>h) (by simp) (by simp) (by simp) (by simp) (by simp) (by rfl) (by rfl) (by rfl) (by rfl) (by decide) (by decide) (by decide) (by omega) (by omega) ?_
   intro mT xU x6 dx jw cB sx
   simp[Bu,bQ,n5]
   refine a4 bg _ _ _ (by omega) ⟨bg,a-4,a0++[D],xU,x6,rfl,by omega,by simp,fun h=>by omega,fun h=>by omega,by omega,by simp,by simpa using jw,fh.snoc MI,?_,?_,cB _ (Nat.le_refl _) bh,by simp;omega⟩
   ·intro dA hh
    have e:l.drop bg=(l.drop bg).take (m-bg)++l.drop m:=by
     have:=List.take_append_drop (m-bg) (l.drop bg)
     rw[List.drop_drop,show bg+(m-bg)=m by omega]at this
     exact this.symm
    rw[e]at hh
    rcases List.mem_append.1 hh with hh | hh
    ·exact wB dA hh
    ·exact so dA hh
   ·rw[List.length_append,List.length_singleton,yo]
    exact TO (by omega) ah (by omega) rfl an
 ·have lA:=VY (by omega)
  rw[lA]at so an
  simp[dN]at so
  have MH:ib l:=⟨so,gW⟩
  simp[Bu]
  refine aY.mk (rr (s:=false) cR.row fh (by omega)) ?_
  rintro u bS ⟨bO,hu⟩
  simp
  refine cY.mk hu.whole ?_
  simp[bf]
  refine aD _ _ ⟨bh.av bO,_,_,by rw[decide_eq_true MH],hu,fun _=>?_,fun h=>absurd MH h⟩
  rw[an]
  simp[fE,dN]
def f4(d:Nat):List Nat:=[48+d/1000,48+d/100 % 10,48+d/10 % 10,48+d % 10]
theorem TR(l:List Nat)(c:Nat):dN (l++[c])=dN l*10+(c-48):=by
 rw[Bh];simp[dN]
theorem Lg{v:Value}{n d:Int}{N:Nat}{q:Rat}{H:ad}(aq:q=Rat.divInt n d)(bE:ht H v n d)(aA:0<d)(f1:b6 N n)(f2:b6 N d)(bW:N<=100000000):aX prog 43 [v] H (fun u H1=>Ext H H1/\ht H1 u q.num q.den):=by
 subst aq
 exact SB bE aA f1 f2 bW
theorem LK{c:Nat}{l u:List Nat}(h:(dm c l).2=some u):l.take (dm c l).1.length=(dm c l).1/\l.drop ((dm c l).1.length+1)=u/\(dm c l).1.length<l.length:=by
 have e:=vI h
 obtain⟨U,aW⟩:∃U,U=(dm c l).1:=⟨_,rfl⟩
 rw[<-aW]at e⊢
 rw[e]
 simp
theorem LL{c:Nat}{l:List Nat}(h:(dm c l).2=none):(dm c l).1.length=l.length:=by rw[vH h]
theorem Qd(l:List Nat):(dm 47 (j5 45 l)).1=hz l/\(dm 47 (j5 45 l)).2=lg l/\decide (l.head?=some 45)=mi l:=by
 unfold hz lg mi sX j5
 cases l with
 | nil=>simp[dm]
 | cons c r=>
  by_cases h:c=45
  ·subst h
   simp[dm]
  ·by_cases aa:c=47
   ·subst aa
    simp[dm]
   ·simp[dm,h,aa]
theorem HK{l:List Nat}(h:jr l):l.length<=8002:=by
 obtain⟨o,aa,-⟩:=h
 obtain⟨dh,gZ,-⟩:=Qd l
 have aA:=o.2.2.2
 have bG:l.length<=(j5 45 l).length+1:=by
  unfold j5
  split
  ·simp;omega
  ·omega
 cases hu:lg l with
 | none=>
  have:=LL (c:=47) (l:=j5 45 l) (by rw[gZ,hu])
  rw[dh]at this
  omega
 | some u=>
  have aE:=(aa u hu).1.2.2.2
  have bA:=vI (c:=47) (l:=j5 45 l) (by rw[gZ,hu])
  rw[dh]at bA
  have:=congrArg List.length bA
  simp at this
  omega
theorem b6.dN{l:List Nat}(h:ib l):b6 1000 (Go.cl.dN l:Int):=by
 unfold b6
 rw[Int.natAbs_natCast]
 have o:=r4 h.1
 have aa:=s4 10 l.length 4000 (by decide) h.2.2.2
 have aE:=HR 10 4 1000 4000 (by decide)
 have bA:(10:Nat)^4=10000:=by decide
 rw[bA]at aE
 rw[<-aE]
 exact Nat.lt_of_lt_of_le o aa
theorem ht.zero(H:ad):ht H (.agg #[.bool false,.slice none 0 0,.bool false,.slice none 0 0]) 0 0:=⟨false,none,0,0,false,none,0,0,rfl,et.zero H,et.zero H⟩
theorem S_(c:Nat)(l:List Nat):l.take (dm c l).1.length=(dm c l).1:=by
 cases h:(dm c l).2 with
 | none=>rw[vH h,List.take_length]
 | some u=>exact(LK h).1
theorem P2(l:List Nat)(d:Int):Int.gcd (gF l) d=Int.gcd (dN (hz l)) d:=by
 unfold gF
 split
 ·rw[Int.neg_gcd]
 ·rfl
theorem SH{l:List Nat}{H:ad}(au:Bytes l)(hlen:l.length<4611686018427387904):
  aX prog 54 [.string (cv l)] H (fun u H1=>Ext H H1/\∃v n d b,u= .tuple #[v,.bool b]/\(b=true↔jr l)/\ht H1 v n d/\(jr l->n=gF l/\d=eD l)):=by
 refine aX.cc fun Q aD=>?_
 obtain⟨t,bG⟩:∃t,t=j5 45 l:=⟨_,rfl⟩
 obtain⟨dh,gZ,fP⟩:=Qd l
 rw[<-bG]at dh gZ
 have GL:Bytes t:=bG▸au.tail
 have pf:t.length<=l.length:=by
  rw[bG];unfold j5
  split
  ·simp
  ·exact Nat.le_refl _
 apply Zt (by simp)
 simp[JY]
 have bz:Ext H (H++[.dead]):=Ext.dead H
 have fail:∀jM,Ext H jM->¬jr l->Q (.tuple #[.agg #[.bool false,.slice none 0 0,.bool false,.slice none 0 0],.bool false]) jM:=fun jM J gO=>aD _ _ ⟨J,_,0,0,false,rfl,⟨fun h=>(by cases h),fun h=>absurd h gO⟩,ht.zero _,fun h=>absurd h gO⟩
 refine jm (l:=l) (by simp) (by rfl) ?_
 simp
 refine br.b_ (fun W_=>?_) (fun W_=>?_)
 ·simp[bf]
  exact fail _ bz fun h=>by have:=HK h;omega
 ·refine bV.join (by kernel_rfl) (fun az bH H1=>H1=H++[.dead]/\az 4= .string (cv t)/\az 5= .bool (mi l)) ?_ ?_
  ·rintro K a4-
   rw[kP]
   refine bV.join (by kernel_rfl) (fun az bH H1=>H1=H++[.dead]/\az 25= .bool (decide (l.head?=some 45))) ?_ ?_
   ·rintro c5 dB-
    simp
    refine jm (l:=l) (by simp) (by rfl) ?_
    by_cases aG:0<l.length
    ·have hV:((0:Int)<(l.length:Int))=True:=by simp;omega
     have ud:l.head?=some (l[0]?.getD 0):=by
      rw[List.head?_eq_getElem?,bs aG];rfl
     simp[aG]
     refine pF (n:=0) (oa:= .i64) (l:=l) (by simp) au (by simp) aG (by rfl) ?_
     simp
     refine dB _ _ _ ⟨rfl,?_⟩
     rw[ud]
     simp;omega
    ·have:l=[]:=List.eq_nil_of_length_eq_zero (by omega)
     simp[this]
     refine dB _ _ _ ⟨rfl,by simp[this]⟩
   ·rintro az bH H1 ⟨rfl,vQ⟩
    simp only[g_]at vQ
    simp at vQ
    simp[vQ]
    refine br.b_ (fun ag=>?_) (fun ag=>?_)
    ·have akJ:0<l.length:=by
      cases l with
      | nil=>simp at ag
      | cons x r=>simp
     simp
     refine Iz (s:=cv l) (l:=1) (h:=l.length) (by simp) (by rfl) (by simp[ea]) (by simp[fo,kc]) (by omega) (by rw[kc];omega) ?_
     have uE:(l.drop 1).take (l.length-1)=t:=by
      rw[bG,j5,if_pos ag,List.drop_one,List.take_of_length_le (by simp)]
     simp only[r0,uE]
     simp
     refine a4 _ _ _ ⟨rfl,by simp,?_⟩
     rw[<-fP,decide_eq_true ag];simp
    ·have uE:t=l:=by rw[bG,j5,if_neg ag]
     try simp
     refine a4 _ _ _ ⟨rfl,by simp[uE],?_⟩
     rw[<-fP,decide_eq_false ag];simp
  ·rintro az bH H1 ⟨rfl,bA,bQ⟩
   simp at bA bQ
   simp[bA]
   refine jm (l:=t) (by simp[bA]) (by rfl) ?_
   simp[bA]
   refine jm (l:=t) (by simp[bA]) (by rfl) ?_
   have pk:IntKind.i64.wrap ((t.length:Int)-1)=(t.length:Int)-1:=b2 (by omega) (by omega)
   simp[pk]
   refine c6.mk (by kernel_rfl) (fun m bU dd aT=>m<=t.length/\bU 7= .int .i64 ((m:Int)-1)/\aT=H++[.dead]/\bU 6= .int .i64 ((m+(dm 47 (t.drop m)).1.length:Nat):Int)) t.length ⟨Nat.le_refl _,by simp,rfl,by simp[dm]⟩ ?_
   rintro m bU dd aT ⟨hm,cf,rfl,dY⟩ K a4
   simp at cf dY
   simp[cf]
   refine br.b_ (fun h0=>?_) (fun h0=>?_)
   ·refine Exists.elim (⟨m-1,by omega⟩:∃i:Nat,m=i+1) fun i ab=>?_
    have iH:(m:Int)-1=(i:Int):=by omega
    have jh:IntKind.i64.wrap ((i:Int)-1)=(i:Int)-1:=b2 (by omega) (by omega)
    have cA:i<t.length:=by omega
    have wA:t.drop i=t[i]::t.drop m:=by rw[ab,List.drop_eq_getElem_cons cA]
    refine bV.join (by kernel_rfl) (fun di ev bS=>bS=H++[.dead]/\di 6= .int .i64 ((i+(dm 47 (t.drop i)).1.length:Nat):Int)) ?_ ?_
    ·rintro c5 dB-
     simp[bA,cf,iH]
     refine pF (n:=i) (oa:= .i64) (l:=t) (by simp[bA]) GL (by simp[cf,iH]) cA (by rfl) ?_
     simp
     have l_:t[i]?.getD 0=t[i]:=by rw[bs cA];rfl
     refine br.mk (fun ag=>?_) (fun ag=>?_)
     ·have ag:t[i]=47:=by have:=ag;simp[cA]at this;omega
      simp[cf,iH]
      refine dB _ _ _ ⟨rfl,?_⟩
      rw[wA]
      simp[dm,ag]
     ·have ag:t[i]≠47:=by have:=ag;simp[cA]at this;omega
      try simp
      refine dB _ _ _ ⟨rfl,?_⟩
      rw[wA]
      simp[dm,ag,dY]
      omega
    ·rintro di ev bS ⟨rfl,vS⟩
     simp at vS
     simp[cf,iH,jh]
     refine a4 i _ _ _ (by omega) ⟨by omega,by simp,rfl,?_⟩
     simpa using vS
   ·have nY:m=0:=by omega
    rw[nY]at dY
    simp[dh]at dY
    have pc:=S_ 47 t
    rw[dh]at pc
    have kl:(hz l).length<=t.length:=by rw[<-pc];simp;omega
    have Wt:Bytes (hz l):=by rw[<-pc];exact fun x J=>GL x (List.mem_of_mem_take J)
    simp[bA,dY]
    refine Iz (s:=cv t) (l:=0) (h:=(hz l).length) (by simp[bA]) (by rfl) (by simp[ea]) (by simp[fo,dY]) (by omega) (by rw[kc];omega) ?_
    have uE:(t.drop 0).take ((hz l).length-0)=hz l:=by simpa using pc
    simp only[r0,uE]
    try simp
    refine aY.mk (LV Wt (by omega)) ?_
    rintro _ dW ⟨cH,_,lJ,rfl,⟨QM,vw,vC,yb,rfl,BE,UL,yB,Ph,Ow⟩,wQ,Xr⟩
    have FI:et dW (.agg #[.bool QM,.slice vw yb.length vC]) lJ:=⟨QM,vw,vC,yb,rfl,BE,UL,yB,Ph,Ow⟩
    have f8:b6 1000 lJ:=by
     by_cases aA:ib (hz l)
     ·rw[wQ aA];exact b6.dN aA
     ·rw[Xr aA];exact b6.small (by decide) (by decide)
    try simp
    have c_:=Ext.dead dW
    refine aY.mk (tB (v:=1) (by omega) (by omega)) ?_
    rintro RQ ku ⟨fq,sL⟩
    try simp
    refine cY.mk sL.whole ?_
    try simp
    have e4:=Ext.dead ku
    have wX:=c_.av (fq.av e4)
    have OW:=bz.av (cH.av wX)
    refine bV.join (by kernel_rfl) (fun tp rS gS=>Ext (ku++[.dead]) gS/\et gS (rS 10) (eD l)/\D5 l/\(lg l=none\/Int.gcd lJ (eD l)=1)/\b6 1000 (eD l)) ?_ ?_
    ·rintro c5 dB UY
     simp[dY]
     refine jm (l:=t) (by simp[bA]) (by rfl) ?_
     try simp
     cases hu:lg l with
     | none=>
      have he:=LL (c:=47) (l:=t) (by rw[gZ,hu])
      rw[dh]at he
      have bn:¬(hz l).length<t.length:=by omega
      have kB:eD l=1:=by unfold eD;rw[hu]
      refine br.b_ (fun a3=>absurd a3 (by omega)) (fun _=>?_)
      refine dB _ _ _ ⟨Ext.refl _,?_,fun u n2=>(by rw[hu]at n2;cases n2),.inl hu,by rw[kB];exact b6.small (by decide) (by decide)⟩
      rw[kB]
      simpa using sL.ext e4
     | some u=>
      have jU:=LK (c:=47) (l:=t) (u:=u) (by rw[gZ,hu])
      rw[dh]at jU
      have kB:eD l=dN u:=by unfold eD;rw[hu]
      have Yu:Bytes u:=by rw[<-jU.2.1];exact fun x J=>GL x (List.mem_of_mem_drop J)
      have jA:u.length<=t.length:=by rw[<-jU.2.1];simp
      have k9:IntKind.i64.wrap (((hz l).length:Int)+1)=(((hz l).length+1:Nat):Int):=by rw[b2 (by omega) (by omega)];simp
      refine br.b_ (fun _=>?_) (fun a3=>absurd (show((hz l).length:Int)<(t.length:Int) by omega) (by omega))
      simp[bA,dY,k9]
      refine Iz (s:=cv t) (l:=(hz l).length+1) (h:=t.length) (by simp[bA]) (by rfl) (by simp[ea];omega) (by simp[fo,kc]) (by omega) (by rw[kc];omega) ?_
      have Yo:(t.drop ((hz l).length+1)).take (t.length-((hz l).length+1))=u:=by
       rw[jU.2.1,List.take_of_length_le]
       rw[<-jU.2.1];simp
      simp only[r0,Yo]
      try simp
      refine aY.mk (LV Yu (by omega)) ?_
      rintro _ j_ ⟨gX,agz,m0,rfl,yL,Ch,Xq⟩
      have f13:b6 1000 m0:=by
       by_cases aA:ib u
       ·rw[Ch aA];exact b6.dN aA
       ·rw[Xq aA];exact b6.small (by decide) (by decide)
      try simp
      refine cY.mk yL.whole ?_
      try simp
      have hD:=Ext.dead j_
      refine bV.join (by kernel_rfl) (fun tr vn lk=>Ext (j_++[.dead]) lk/\∃bad,tr 77= .bool bad/\(bad=false↔ib u/\2<=m0/\Int.gcd lJ m0=1)) ?_ ?_
      ·rintro ln eW-
       by_cases o5:ib u
       ·simp[o5]
        refine aY.mk (tB (v:=2) (by omega) (by omega)) ?_
        rintro IQ lk ⟨h4,zD⟩
        refine⟨h4,?_⟩
        try simp
        refine aY.mk (Eo (N:=1000) (yL.ext (hD.av h4)) zD f13 (b6.small (by decide) (by decide)) (by decide)) ?_
        rintro _ pL ⟨kJ,rfl⟩
        have qi:=hD.av (h4.av kJ)
        by_cases a3:m0<2
        ·simp[a3]
         exact eW _ _ _ ⟨h4.av kJ,true,by simp,by simp;omega⟩
        ·have Xo:¬((if m0<2 then(-1:Int)else if m0=2 then 0 else 1)<0):=by
          rw[if_neg a3];split<;>omega
         simp[Xo]
         refine aY.mk (Lf (N:=1000) (FI.ext (wX.av (gX.av qi))) (yL.ext qi) f8 f13 (by decide)) ?_
         rintro RT xL ⟨po,CI⟩
         try simp
         refine aY.mk (tB (v:=1) (by omega) (by omega)) ?_
         rintro ant ox ⟨nv,YE⟩
         try simp
         have r6:b6 1000 (Int.gcd lJ m0:Nat):=f13.le (by
          have:=Nat.le_of_dvd (by omega) (Int.gcd_dvd_natAbs_right lJ m0)
          simpa using this)
         refine aY.mk (Eo (N:=1000) (CI.ext nv) YE r6 (b6.small (by decide) (by decide)) (by decide)) ?_
         rintro _ AN ⟨iI,rfl⟩
         try simp
         refine eW _ _ _ ⟨h4.av (kJ.av (po.av (nv.av iI))),decide (Int.gcd lJ m0≠1),?_,?_⟩
         ·have F4:0<Int.gcd lJ m0:=Int.gcd_pos_of_ne_zero_right _ (by omega)
          by_cases nj:Int.gcd lJ m0=1
          ·simp[nj]
          ·simp[nj,show¬(((Int.gcd lJ m0:Nat):Int)<1) by omega,show¬(((Int.gcd lJ m0:Nat):Int)=1) by omega]
         ·simp[o5];omega
       ·simp[o5]
        exact eW _ _ _ ⟨Ext.refl _,true,by simp,by simp[o5]⟩
      ·rintro tr vn lk ⟨h4,bad,E5,jW⟩
       simp only[g_]at E5
       simp at E5
       simp[E5]
       refine br.mk (fun af=>?_) (fun af=>?_)
       ·simp
        refine UY _ _ _ _ (by simp) ?_
        simp[bf]
        refine fail _ (OW.av (gX.av (hD.av h4))) fun aK=>?_
        obtain⟨aU,aO,bw,cj⟩:=aK
        have o5:=(aO u hu).1
        have p6:=(aO u hu).2
        have a1:Int.gcd lJ m0=1:=by
         rcases cj with h | h
         ·rw[hu]at h;cases h
         ·rw[P2,kB,<-wQ aU]at h
          rw[Ch o5];exact h
        have:=jW.2 ⟨o5,by rw[Ch o5];omega,a1⟩
        rw[this]at af
        cases af
       ·have a1:=jW.1 af
        have Hh:=Ch a1.1
        have aa:=a1.2.1
        have aE:=a1.2.2
        simp
        refine cY.mk yL.whole ?_
        try simp
        refine dB _ _ _ ⟨gX.av (hD.av h4),?_,fun RB n2=>?_,.inr ?_,?_⟩
        ·rw[kB,<-Hh]
         simpa using yL.ext (hD.av h4)
        ·rw[hu]at n2
         have:=Option.some.inj n2
         subst this
         exact⟨a1.1,by omega⟩
        ·rw[kB,<-Hh];exact aE
        ·rw[kB,<-Hh];exact f13
    ·rintro tp rS gS ⟨e5,sn,UM,WE,ajS⟩
     simp at sn
     have G7:=wX.av e5
     have OX:=OW.av e5
     have sz:ib (hz l)->(lJ=0↔yb=[]):=fun aA=>by
      have o:=s8 (n:=dN (hz l)) (by rw[<-Ph];exact(wQ aA).symm) yB Ow
      rw[wQ aA,<-yB.zero,o.2]
      omega
     try simp only[kP]
     refine bV.join (by kernel_rfl) (fun tr vn lk=>lk=gS/\∃bad,tr 90= .bool bad/\(bad=false↔ib (hz l)/\¬(mi l=true/\lJ=0))) ?_ ?_
     ·rintro ln eW-
      by_cases aA:ib (hz l)
      ·cases Ca:mi l with
       | false=>
        rw[Ca]at bQ
        simp[aA,bQ]
        exact eW _ _ _ ⟨rfl,false,by simp,by simp[aA,Ca]⟩
       | true=>
        rw[Ca]at bQ
        simp[aA,bQ]
        refine cD (ae:=ds) (xs:=yb) (by simpa using BE.ext G7) (by simp) ?_
        simp
        refine eW _ _ _ ⟨rfl,decide (yb=[]),by simp,?_⟩
        simp[aA,Ca,sz aA]
      ·simp[aA]
       exact eW _ _ _ ⟨rfl,true,by simp,by simp[aA]⟩
     ·rintro tr vn lk ⟨rfl,bad,E7,jW⟩
      simp only[g_]at E7
      simp at E7
      simp[E7]
      refine br.mk (fun af=>?_) (fun af=>?_)
      ·simp[bf]
       refine fail _ OX fun aK=>?_
       obtain⟨aU,aO,bw,cj⟩:=aK
       have:=jW.2 ⟨aU,by rw[wQ aU];intro h;exact bw ⟨h.1,by omega⟩⟩
       rw[this]at af
       cases af
      ·have a1:=jW.1 af
       have aQ:=wQ a1.1
       have hA:jr l:=⟨a1.1,UM,by rw[aQ]at a1;intro h;exact a1.2 ⟨h.1,by omega⟩,by
        rcases WE with h | h
        ·exact .inl h
        ·refine .inr ?_
         rw[P2,<-aQ];exact h⟩
       have ko:(if mi l=true then-lJ else lJ)=gF l:=by
        unfold gF
        rw[aQ]
       refine bV.join (by kernel_rfl) (fun AJ AM pL=>Ext lk pL/\et pL (AM 8) (gF l)) ?_ ?_
       ·rintro oz g7-
        simp[bQ]
        refine br.mk (fun pa=>?_) (fun pa=>?_)
        ·simp
         refine aY.mk (Li (FI.ext G7)) ?_
         rintro RT xL ⟨po,CI⟩
         simp
         refine cY.mk CI.whole ?_
         try simp
         refine g7 _ _ _ ⟨po,?_⟩
         rw[<-ko,if_pos pa]
         simpa using CI
        ·try simp
         refine g7 _ _ _ ⟨Ext.refl _,?_⟩
         rw[<-ko,if_neg (by simp[pa])]
         simpa using FI.ext G7
       ·rintro AJ AM pL ⟨kJ,N3⟩
        simp at N3
        simp[-pT]
        refine DH (n:=gF l) (m:=eD l) (by simpa using N3) (by simpa using sn.ext kJ) ?_
        intro q aq
        simp
        refine cY.mk aq.whole ?_
        simp[bf]
        exact aD _ _ ⟨OX.av kJ,q,_,_,true,rfl,⟨fun _=>hA,fun _=>rfl⟩,aq,fun _=>⟨rfl,rfl⟩⟩
theorem Lj{l:List Nat}{H:ad}(au:Bytes l)(hlen:l.length<4611686018427387904):
  aX prog 23 [.string (cv l)] H (fun u H1=>Ext H H1/\∃n d,ht H1 u n d/\(jr l->n=gF l/\d=eD l)):=by
 refine aX.cc fun Q aD=>?_
 apply Zs (by simp)
 simp[JX]
 have bz:=Ext.dead H
 refine aY.mk (SH au hlen) ?_
 rintro _ H1 ⟨bp,q,n,d,b,rfl,af,aq,mM⟩
 simp
 refine cY.mk aq.whole ?_
 try simp
 refine cY.mk aq.whole ?_
 simp[bf]
 exact aD _ _ ⟨bz.av (bp.av (Ext.dead H1)),n,d,aq.ext (Ext.dead H1),mM⟩
theorem b6.den{l:List Nat}(h:jr l):b6 1000 (eD l:Int):=by
 unfold eD
 cases hu:lg l with
 | none=>exact b6.small (by decide) (by decide)
 | some u=>exact b6.dN (h.2.1 u hu).1
theorem b6.num{l:List Nat}(h:jr l):b6 1000 (gF l):=by
 unfold gF
 split
 ·exact(b6.dN h.1).neg
 ·exact b6.dN h.1
theorem lh{i:Nat}(h:i<4611686018427387904):IntKind.i64.wrap ((i:Int)+1)=((i+1:Nat):Int):=by rw[b2 (by omega) (by omega)];omega
theorem IN{t:List (List Int)}:g2 t↔(1<=t.length/\t.length<=8)/\∀r∈t,(r.length=(t[0]?.getD []).length/\1<=r.length/\r.length<=8)/\∀x∈r,0<=x/\x<=1000:=by
 constructor
 ·intro h
  have au:=h.len
  obtain⟨o,aa,aE,bA,bQ⟩:=h
  refine⟨⟨o,aa⟩,fun r al=>?_⟩
  have e:=au r al
  refine⟨⟨e,by omega,by omega⟩,fun x J=>?_⟩
  have:=bQ r al
  unfold mz at this
  simp at this
  have:=this.2 x J
  omega
 ·rintro⟨⟨o,aa⟩,h⟩
  have aG:t[0]?.getD []∈t:=by rw[bs (by omega)];exact List.getElem_mem (by omega)
  have:=(h _ aG).1
  refine⟨o,aa,this.2.1,this.2.2,fun r al=>?_⟩
  have:=h r al
  unfold mz
  simp
  exact⟨this.1.1,fun x J=>by have:=this.2 x J;omega⟩
section
variable {P:Program} {r:List bJ} {F:Fr} {H:ad} {Q:Fr->ad->Prop} {α:Type}
end
structure tm (mg mS:List Int) (M kind:Int) (w:Nat):Prop where
 aa4:∀x∈mg,x<=M
 e6:∀x∈mS,x<=M
 at_:(kind=0/\mg[w]?=some M/\∀(i:Nat) (x:Int),i<w->mg[i]?=some x->x<M)\/(kind=1/\(∀x∈mg,x<M)/\mS[w]?=some M/\∀(i:Nat) (x:Int),i<w->mS[i]?=some x->x<M)
theorem tm.uniq{mg mS:List Int}{M vq kind CV:Int}{w g1:Nat}(h:tm mg mS M kind w)(cq:tm mg mS vq CV g1):M=vq/\kind=CV/\w=g1:=by
 have le:∀{M vq kind CV:Int} {w g1:Nat},tm mg mS M kind w->tm mg mS vq CV g1->M<=vq:=fun h cq=>by
  rcases h.at_ with⟨-,o,-⟩ | ⟨-,-,o,-⟩
  ·exact cq.aa4 _ (List.mem_of_getElem? o)
  ·exact cq.e6 _ (List.mem_of_getElem? o)
 have e:M=vq:=Int.le_antisymm (le h cq) (le cq h)
 subst e
 refine⟨rfl,?_⟩
 rcases h.at_ with⟨bn,o,aa⟩ | ⟨bn,aG,o,aa⟩<;>rcases cq.at_ with⟨bj,cK,kf⟩ | ⟨bj,cP,cK,kf⟩
 ·refine⟨by rw[bn,bj],?_⟩
  rcases Nat.lt_trichotomy w g1 with a3 | he | a3
  ·exact absurd (kf _ _ a3 o) (Int.lt_irrefl _)
  ·exact he
  ·exact absurd (aa _ _ a3 cK) (Int.lt_irrefl _)
 ·exact absurd (cP _ (List.mem_of_getElem? o)) (Int.lt_irrefl _)
 ·exact absurd (aG _ (List.mem_of_getElem? cK)) (Int.lt_irrefl _)
 ·refine⟨by rw[bn,bj],?_⟩
  rcases Nat.lt_trichotomy w g1 with a3 | he | a3
  ·exact absurd (kf _ _ a3 o) (Int.lt_irrefl _)
  ·exact he
  ·exact absurd (aa _ _ a3 cK) (Int.lt_irrefl _)
theorem PT{t:List (List Int)}(bG:0<t.length):∃M:Int,(dI (dU (cr t)) t.length).1=(M:Rat)/\(t.map List.sum)[(dI (dU (cr t)) t.length).2]?=some M/\(∀x∈t.map List.sum,x<=M)/\∀(i:Nat) (x:Int),i<(dI (dU (cr t)) t.length).2->(t.map List.sum)[i]?=some x->x<M:=by
 have sA:∀(i:Nat) (x:Int),(t.map List.sum)[i]?=some x->dU (cr t) i=(x:Rat):=fun i x h=>by
  rw[List.getElem?_map]at h
  rw[qs]
  cases ab:t[i]? with
  | none=>rw[ab]at h;cases h
  | some r=>rw[ab]at h;simp at h;simp[h]
 obtain⟨o,aa⟩:=uT (dU (cr t)) t.length
 have hw:(dI (dU (cr t)) t.length).2<t.length:=by omega
 have a1:(t.map List.sum)[(dI (dU (cr t)) t.length).2]?=some (t[(dI (dU (cr t)) t.length).2]'hw).sum:=by
  rw[List.getElem?_map,bs hw];rfl
 refine⟨_,by rw[o,sA _ _ a1],a1,fun x J=>?_,fun i x ab J=>?_⟩
 ·obtain⟨i,ab⟩:=List.mem_iff_getElem?.1 J
  have cA:i<t.length:=by have:=(cn.1 ab).1;simpa using this
  have:=C2 (dU (cr t)) cA
  rw[o,sA _ _ ab,sA _ _ a1]at this
  exact_mod_cast this
 ·have:=abO (dU (cr t)) ab
  rw[o,sA _ _ J,sA _ _ a1]at this
  exact_mod_cast this
theorem SE{t:List (List Int)}{m:Nat}(hm:m=(t[0]?.getD []).length)(bG:0<t.length)(aG:0<m):tm (t.map List.sum) ((fZ m t).map List.sum) (jf t).1 (jf t).2.1 (jf t).2.2:=by
 obtain⟨dX,ij,UU,Fb,UX⟩:=PT bG
 have pf:(fZ m t).length=m:=by simp[fZ]
 obtain⟨K,a4,MO,MR,MQ⟩:=PT (t:=fZ m t) (by omega)
 rw[pf]at a4 MO MQ
 have bK:jf t=if(dI (dU (cr t)) t.length).1<(dI (dU (cr (fZ m t))) m).1 then((dI (dU (cr (fZ m t))) m).1.num,1,(dI (dU (cr (fZ m t))) m).2)else((dI (dU (cr t)) t.length).1.num,0,(dI (dU (cr t)) t.length).2):=by
  unfold jf
  rw[<-hm]
 rw[bK,ij,a4]
 by_cases a3:dX<K
 ·rw[if_pos (by exact_mod_cast a3)]
  simp only[Rat.num_intCast]
  exact⟨fun x J=>by have:=Fb x J;omega,MR,.inr ⟨rfl,fun x J=>by have:=Fb x J;omega,MO,MQ⟩⟩
 ·rw[if_neg (fun h=>a3 (by exact_mod_cast h))]
  simp only[Rat.num_intCast]
  exact⟨Fb,fun x J=>by have:=MR x J;omega,.inl ⟨rfl,UU,UX⟩⟩
def dH(t:List (List Int))(i k:Nat):Int:=(t[i]?.getD [])[k]?.getD 0
structure aid (l:List Int) (z:Int):Prop where
 le:∀x∈l,x<=z
 at_:z=0\/z∈l
 jj:0<=z
end Go.cl
end
section
set_option maxRecDepth 8000
set_option maxHeartbeats 1000000
namespace Go.cl
open Go.Proofs
open Go.Proofs.Tryz (prog)
attribute [-simp] gk hq iM
attribute [-simp] pT
theorem LU{l:List Nat}(h:jr l):(0:Int)<eD l:=by
 have:=h.2.1
 unfold eD
 cases hu:lg l with
 | none=>simp
 | some u=>have:=(this u hu).2;simp;omega
section
variable {r:List bJ} {F:Fr} {H:ad} {Q:Fr->ad->Prop}
theorem QR{v:Value}{aR:List (List Nat×List Int)}{n:Nat}{a:List Nat×List Int}(bq:Row 93 2 true eO H v aR)(aL:aR[n]?=some a):∃b U cap X all d_ eg,v= .slice (some ⟨b,U,none⟩) aR.length cap/\H[b]?=some X/\X.cells?=some all/\all[U+n*2]?=some (.string (cv a.1))/\all[U+n*2+1]?=some (.slice d_ a.2.length eg)/\ee H (.slice d_ a.2.length eg) a.2:=by
 obtain⟨b,U,cap,X,all,⟨an,aZ,ag,bF,hu⟩ | ⟨aU,aO⟩⟩:=bq.at aL
 ·simp only[if_true]at hu
  obtain⟨d_,j4,eg,he,aa⟩:=hu
  obtain⟨eL,dA,nT⟩:=aa.len
  simp at nT
  obtain⟨rfl,rfl,rfl⟩:=nT
  simp at he
  refine⟨b,U,cap,X,all,d_,eg,an,aZ,ag,?_,?_,aa⟩
  ·have:=congrArg (fun l:List Value=>l[0]?) he
   simpa[List.getElem?_take,List.getElem?_drop]using this
  ·have:=congrArg (fun l:List Value=>l[1]?) he
   simpa[List.getElem?_take,List.getElem?_drop]using this
 ·cases aU
theorem Rf{d t d1 d2 n:Nat}{x i:Operand}{aR:List (List Nat×List Int)}{a:List Nat×List Int}{ax:bc (bb d t x i::a8 d1 93 (T d) 0::aB d2 45 (T d1)::r) Q}(bq:Row 93 2 true eO H (ar F x) aR)(ab:ar F i= .int .i64 (n:Int))(aL:aR[n]?=some a)
  (bG:e1 prog t=some 93)(K:∀p q,ba prog r Q .mk (a5 (a5 (a5 F d p) d1 q) d2 (.string (cv a.1))) H):ba prog (bb d t x i::a8 d1 93 (T d) 0::aB d2 45 (T d1)::r) Q ax F H:=by
 have au:n<aR.length:=(cn.1 aL).1
 obtain⟨b,U,cap,X,all,d_,eg,an,aZ,ag,aG,o,aa⟩:=QR bq aL
 rw[gk,an,ab,oG,m5,bG,eG,show bu prog 93=some 2 by rfl,eG,oE]
 refine dz.mk ⟨by omega,by omega⟩ ?_
 rw[xx]
 simp only[ke,hG,lo,show fG prog 93 0=some 0 by rfl,eG,Nat.add_zero]
 rw[te]
 simp only[ke,hG,lo,aZ,Option.bind_some,ag,eG,show dk prog 45=some false by rfl,Int.toNat_natCast,rP,aG]
 exact K _ _
theorem aeh{d t d1 d2 n:Nat}{x i:Operand}{aR:List (List Nat×List Int)}{a:List Nat×List Int}{ax:bc (bb d t x i::a8 d1 93 (T d) 1::aB d2 34 (T d1)::r) Q}(bq:Row 93 2 true eO H (ar F x) aR)(ab:ar F i= .int .i64 (n:Int))(aL:aR[n]?=some a)
  (bG:e1 prog t=some 93)(K:∀p q u,ee H u a.2->ba prog r Q .mk (a5 (a5 (a5 F d p) d1 q) d2 u) H):ba prog (bb d t x i::a8 d1 93 (T d) 1::aB d2 34 (T d1)::r) Q ax F H:=by
 have au:n<aR.length:=(cn.1 aL).1
 obtain⟨b,U,cap,X,all,d_,eg,an,aZ,ag,aG,o,aa⟩:=QR bq aL
 rw[gk,an,ab,oG,m5,bG,eG,show bu prog 93=some 2 by rfl,eG,oE]
 refine dz.mk ⟨by omega,by omega⟩ ?_
 rw[xx]
 simp only[ke,hG,lo,show fG prog 93 1=some 1 by rfl,eG]
 rw[te]
 simp only[ke,hG,lo,aZ,Option.bind_some,ag,eG,show dk prog 34=some false by rfl,Int.toNat_natCast,rP,o]
 exact K _ _ _ aa
end
theorem dj.yf{N:Nat}{q:Rat}(h:dj N q):b6 N q.num/\b6 N (q.den:Int):=by
 have aK:2^N<=10000^N:=Nat.pow_le_pow_left (by decide) N
 refine⟨?_,?_⟩
 ·exact Nat.lt_of_lt_of_le h.1 aK
 ·exact Nat.lt_of_lt_of_le h.2 aK
theorem K6{q:Rat}{n d:Int}(aA:0<d):q+Rat.divInt n d=Rat.divInt (q.num*d+n*q.den) (q.den*d):=by
 have h:=Rat.divInt_add_divInt q.num n (d₁:=q.den) (d₂:=d) (by have:=q.den_pos;omega) (by omega)
 rw[<-h,Rat.num_divInt_den]
theorem abi{v:Value}{aR:List (List Nat×List Int)}{H:ad}(hA:Row 93 2 true eO H v aR)(bK:∀p∈aR,Bytes p.1)(hlen:∀p∈aR,p.1.length<4611686018427387904)(iX:aR.length<=2000)(gW:∀p∈aR,jr p.1):
  aX prog 18 [v] H (fun u H1=>Ext H H1/\ht H1 u (dJ (parts aR)).num (dJ (parts aR)).den):=by
 refine aX.cc fun Q aD=>?_
 apply aam (by simp)
 simp[Kw]
 have bz:=Ext.dead H
 refine aY.mk (A4 (n:=0) (by omega) (by omega)) ?_
 rintro a9 H1 ⟨bp,n5⟩
 simp
 refine cY.mk n5.whole ?_
 simp
 have bh:=Ext.dead H1
 refine c6.mk (by kernel_rfl) (fun w di ev bS=>∃i:Nat,w=aR.length-i/\i<=aR.length/\di 4= .int .i64 (i:Int)/\Ext H bS/\ht bS (ev 3) (dJ (parts (aR.take i))).num (dJ (parts (aR.take i))).den) aR.length ⟨0,by omega,by omega,by simp,bz.av (bp.av bh),by simpa[parts,dJ]using n5.ext bh⟩ ?_
 rintro w di ev bS ⟨i,rfl,ab,bA,bO,zi⟩ K a4
 simp at bA zi
 have v9:=bM.ext (ae:=Row _ _ _ eO) hA bO
 simp[bA]
 refine cD (ae:=eO) (xs:=aR) (by simpa using v9) (by simp) ?_
 simp
 refine br.b_ (fun a3=>?_) (fun a3=>?_)
 ·refine Exists.elim (⟨_,bs a3⟩:∃p,aR[i]?=some p) fun p aK=>?_
  have ir:=List.mem_of_getElem? aK
  have mb:=gW p ir
  have jh:=lh (show i<4611686018427387904 by omega)
  have df:=(xt (aR:=aR.take i) fun q aq=>gW q (List.mem_of_mem_take aq)).1
  have mc:(aR.take i).length=i:=by simp;omega
  rw[mc]at df
  have zs:gG i<=26580001:=by unfold gG;omega
  refine Exists.elim (⟨gG i+1000,rfl,by omega,by omega,by omega⟩:∃N,N=gG i+1000/\gG i<=N/\1000<=N/\N<=26581001) fun N bW=>?_
  have f1:b6 N (dJ (parts (aR.take i))).num:=df.yf.1.mono bW.2.1
  have f2:b6 N ((dJ (parts (aR.take i))).den:Int):=df.yf.2.mono bW.2.1
  have f3:b6 N (gF p.1):=(b6.num mb).mono bW.2.2.1
  have f4:b6 N (eD p.1:Int):=(b6.den mb).mono bW.2.2.1
  have M0:=bW.2.2.2
  clear bW zs
  have aA:=LU mb
  have Gl:dJ (parts (aR.take (i+1)))=Rat.divInt ((dJ (parts (aR.take i))).num*eD p.1+gF p.1*(dJ (parts (aR.take i))).den) ((dJ (parts (aR.take i))).den*eD p.1):=by
   rw[HL aK,Qf]
   exact K6 aA
  have yX:(0:Int)<(dJ (parts (aR.take i))).den*eD p.1:=Int.mul_pos (by have:=(dJ (parts (aR.take i))).den_pos;omega) aA
  simp[bA]
  refine Rf (aR:=aR) (n:=i) (a:=p) (by simpa using v9) (by simp[bA]) aK (by simp) ?_
  intro iK eR
  simp
  refine aY.mk (Lj (bK p ir) (hlen p ir)) ?_
  rintro agG dx ⟨cB,aln,d6,Cp,mM⟩
  refine⟨cB,?_⟩
  have bn:=(mM mb).1
  have bj:=(mM mb).2
  subst bn bj
  try simp
  refine aY.mk (Lc (N:=N) (zi.ext cB) Cp f1 f2 f3 f4 (by omega)) ?_
  rintro DX cw ⟨ch,XO⟩
  try simp
  refine aY.mk (Lg (N:=N+N+1) Gl XO yX ((f1.mul f4).add (f3.mul f2)) ((f2.mul f4).mono (by omega)) (by omega)) ?_
  rintro RU dW ⟨cH,Ok⟩
  try simp
  refine cY.mk Ok.whole ?_
  simp[bA,jh]
  refine a4 (aR.length-(i+1)) _ _ _ (by omega) ⟨i+1,rfl,by omega,by simp,bO.av (cB.av (ch.av cH)),by simpa using Ok⟩
 ·simp
  refine cY.mk zi.whole ?_
  simp[bf]
  rw[List.take_of_length_le (by omega)]at zi
  exact aD _ _ ⟨bO,zi⟩
abbrev AV(H:ad)(v:Value)(eY:List (List (List Nat×List Int))):Prop:=Row 27 1 false (Row 93 2 true eO) H v eY
instance:bM AV:=⟨fun h J=>bM.ext (ae:=Row 27 1 false (Row 93 2 true eO)) h J⟩
theorem acf(a b:List (List Nat×List Int)):parts (a++b)=parts a++parts b:=by simp[parts]
theorem Ui{α:Type}{eY:List (List α)}{p:Nat}{pl:List α}(h:eY[p]?=some pl):(eY.take (p+1)).flatten=(eY.take p).flatten++pl:=by
 rw[List.take_add_one,h];simp
theorem Th(x:Int):Rat.divInt x 1=(x:Rat):=by
 have:=Rat.num_divInt_den (x:Rat)
 rw[Rat.num_intCast,Rat.den_intCast]at this
 exact this
theorem ab3{q:Rat}{x:Int}:q=((x:Int):Rat)↔q.num*1=x*q.den:=by
 constructor
 ·intro h;rw[h];simp
 ·intro h
  rw[<-Rat.num_divInt_den q,show q.num=x*(q.den:Int) by omega]
  have o:=Rat.divInt_mul_right (n:=x) (d:=1) (a:=(q.den:Int)) (by have:=q.den_pos;omega)
  rw[Int.one_mul]at o
  rw[o]
  exact Th x
theorem Le{v w:Value}{q:Rat}{x:Int}{N:Nat}{H:ad}(bE:ht H v q.num q.den)(bK:ht H w x 1)(f1:b6 N q.num)(f2:b6 N q.den)(f3:b6 N x)(f4:b6 N 1)(bW:N<=1000000000):aX prog 17 [v,w] H (fun u H1=>Ext H H1/\∃z,u= .int .i64 z/\(z=0↔q=((x:Int):Rat))):=by
 refine aX.mono (Ss bE bK f1 f2 f3 f4 bW) ?_
 rintro _ H1 ⟨bp,rfl⟩
 refine⟨bp,_,rfl,?_⟩
 rw[ab3]
 split
 ·omega
 ·split<;>omega
theorem Tk{v w:Value}{t:List (List Int)}{eY:List (List (List Nat×List Int))}{H:ad}(ew:gr H v t)(an:g2 t)(hA:AV H w eY)(bK:∀pl∈eY,∀p∈pl,Bytes p.1)(hlen:∀pl∈eY,∀p∈pl,p.1.length<4611686018427387904)(akX:eY.length<4611686018427387904)(iX:eY.flatten.length<=2000)(gW:∀pl∈eY,∀p∈pl,jr p.1/\p.2.length=(t[0]?.getD []).length):
  aX prog 16 [v,w] H (fun u H1=>Ext H H1/\∃b,u= .bool b/\(b=true↔∀i k,i<t.length->k<(t[0]?.getD []).length->en (parts eY.flatten) i k=((dH t i k:Int):Rat))):=by
 refine aX.cc fun Q aD=>?_
 obtain⟨m,hm⟩:∃m,m=(t[0]?.getD []).length:=⟨_,rfl⟩
 have ao:=an.small
 have eM:=an.len
 have v1:=an.1
 have v2:=an.2.1
 have v4:=an.2.2.2.1
 rw[<-hm]at eM v4 gW aD
 have fail:∀{H1 i k},Ext H H1->i<t.length->k<m->en (parts eY.flatten) i k≠((dH t i k:Int):Rat)->Q (.bool false) H1:=fun J ab ah gO=>aD _ _ ⟨J,false,rfl,⟨fun h=>(by cases h),fun h=>absurd (h _ _ ab ah) gO⟩⟩
 apply aal (by simp)
 simp[Kv]
 refine c6.mk (by kernel_rfl) (fun a9 az bH H1=>∃i:Nat,a9=t.length-i/\i<=t.length/\az 5= .int .i64 (i:Int)/\Ext H H1/\∀j k,j<i->k<m->en (parts eY.flatten) j k=((dH t j k:Int):Rat)) t.length ⟨0,by omega,by omega,by simp,Ext.refl _,fun j k aN=>by omega⟩ ?_
 rintro a9 az bH H1 ⟨i,rfl,ab,bQ,bp,dv⟩ K a4
 simp at bQ
 have Fa:=bM.ext (ae:=gr) ew bp
 simp[bQ]
 refine cD (ae:=ee) (xs:=t) (by simpa using Fa) (by simp) ?_
 simp
 refine br.b_ (fun a3=>?_) (fun a3=>?_)
 ·refine Exists.elim (⟨_,bs a3⟩:∃p,t[i]?=some p) fun row ei=>?_
  have hM:=List.mem_of_getElem? ei
  have lB:=eM _ hM
  have jh:=lh (show i<4611686018427387904 by omega)
  simp
  refine c6.mk (by kernel_rfl) (fun iN bU dd aT=>∃k:Nat,iN=m-k/\k<=m/\bU 6= .int .i64 (k:Int)/\Ext H aT/\∀j,j<k->en (parts eY.flatten) i j=((dH t i j:Int):Rat)) m ⟨0,by omega,by omega,by simp,bp,fun j aN=>by omega⟩ ?_
  rintro iN bU dd aT ⟨k,rfl,ah,dY,bh,wq⟩ c5 dB
  simp at dY
  have vZ:=bM.ext (ae:=gr) ew bh
  simp[bQ,dY]
  refine cF (ae:=ee) (xs:=t) (n:=i) (a:=row) (e:=34) (R:=1) (ay:=false) (by simpa using vZ) (by simp[bQ]) ei (by simp) (by simp) (by simp) (by decide) ?_
  rintro py u8 Ys
  try simp
  refine cD (ae:=IR) (xs:=row) (by simpa using Ys) (by simp) ?_
  simp only[lB]
  simp[dY]
  refine br.b_ (fun iG=>?_) (fun iG=>?_)
  ·refine Exists.elim (⟨_,bs (show k<row.length by omega)⟩:∃p,row[k]?=some p) fun x J=>?_
   have sM:=lh (show k<4611686018427387904 by omega)
   have G8:=(ao _ hM).2 x (List.mem_of_getElem? J)
   have BV:dH t i k=x:=by unfold dH;rw[ei];simp[J]
   simp
   refine aY.mk (A4 (n:=0) (by omega) (by omega)) ?_
   rintro cW bS ⟨bO,jE⟩
   simp
   refine cY.mk jE.whole ?_
   simp
   have fi:=Ext.dead bS
   have mP:=bh.av (bO.av fi)
   refine c6.mk (by kernel_rfl) (fun pH cQ dQ bT=>∃p:Nat,pH=eY.length-p/\p<=eY.length/\cQ 8= .int .i64 (p:Int)/\Ext H bT/\ht bT (dQ 7) (en (parts (eY.take p).flatten) i k).num (en (parts (eY.take p).flatten) i k).den) eY.length ⟨0,by omega,by omega,by simp,mP,by simpa[parts,en]using jE.ext fi⟩ ?_
   rintro pH cQ dQ bT ⟨p,rfl,aK,cz,b8,uw⟩ oz g7
   simp at cz uw
   have Vl:=bM.ext (ae:=AV) hA b8
   simp[cz]
   refine cD (ae:=Row 93 2 true eO) (xs:=eY) (by simpa using Vl) (by simp) ?_
   simp
   refine br.b_ (fun h3=>?_) (fun h3=>?_)
   ·refine Exists.elim (⟨_,bs h3⟩:∃dh,eY[p]?=some dh) fun pl ze=>?_
    have zf:=List.mem_of_getElem? ze
    have zF:=lh (show p<4611686018427387904 by omega)
    have wF:=Ui ze
    have WB:((eY.take p).flatten++pl).length<=eY.flatten.length:=by
     rw[<-wF]
     have:=congrArg (fun l:List (List (List Nat×List Int))=>l.flatten.length) (List.take_append_drop (p+1) eY)
     simp only[List.flatten_append,List.length_append]at this
     omega
    rw[List.length_append]at WB
    simp
    refine c6.mk (by kernel_rfl) (fun vg fa gJ b7=>∃s:Nat,vg=pl.length-s/\s<=pl.length/\fa 9= .int .i64 (s:Int)/\Ext H b7/\ht b7 (gJ 7) (en (parts ((eY.take p).flatten++pl.take s)) i k).num (en (parts ((eY.take p).flatten++pl.take s)) i k).den) pl.length ⟨0,by omega,by omega,by simp,b8,by simpa using uw⟩ ?_
    rintro vg fa gJ b7 ⟨s,rfl,mc,fz,ct,sG⟩ xO l2
    simp at fz sG
    have qW:=bM.ext (ae:=AV) hA ct
    simp[cz,fz]
    refine cF (ae:=Row 93 2 true eO) (xs:=eY) (n:=p) (a:=pl) (e:=27) (R:=1) (ay:=false) (by simpa using qW) (by simp[cz]) ze (by simp) (by simp) (by simp) (by decide) ?_
    rintro Dd IF Yt
    try simp
    refine cD (ae:=eO) (xs:=pl) (by simpa using Yt) (by simp) ?_
    simp[fz]
    refine br.b_ (fun CB=>?_) (fun CB=>?_)
    ·refine Exists.elim (⟨_,bs CB⟩:∃dh,pl[s]?=some dh) fun aR Cy=>?_
     have Cz:=List.mem_of_getElem? Cy
     have mb:=(gW pl zf aR Cz).1
     have gg:=(gW pl zf aR Cz).2
     have k9:=lh (show s<4611686018427387904 by omega)
     refine Exists.elim (⟨_,bs (show k<aR.2.length by omega)⟩:∃dh,aR.2[k]?=some dh) fun y aP=>?_
     have pc:=(xt (aR:=(eY.take p).flatten++pl.take s) fun q aq=>by
      rcases List.mem_append.1 aq with aq | aq
      ·obtain⟨l,gA,im⟩:=List.mem_flatten.1 aq
       exact(gW l (List.mem_of_mem_take gA) q im).1
      ·exact(gW pl zf q (List.mem_of_mem_take aq)).1).2 i k
     have df:=pc.yf
     have zs:gG ((eY.take p).flatten++pl.take s).length<=26580001:=by
      have:((eY.take p).flatten++pl.take s).length<=2000:=by simp only[List.length_append,List.length_take];omega
      unfold gG;omega
     have aA:=LU mb
     have N7:en (parts ((eY.take p).flatten++pl.take (s+1))) i k=en (parts ((eY.take p).flatten++pl.take s)) i k+if y=(i:Int)then hr aR.1 else 0:=by
      rw[List.take_add_one,Cy,<-List.append_assoc,acf (_++_)]
      simp only[Option.toList_some,parts,List.map_cons,List.map_nil]
      rw[Ql]
      unfold gi
      simp[aP]
     refine Exists.elim (⟨gG ((eY.take p).flatten++pl.take s).length+1000,by omega,by omega,by omega⟩:∃N,gG ((eY.take p).flatten++pl.take s).length<=N/\1000<=N/\N<=26581001) fun N bW=>?_
     have f1:=df.1.mono bW.1
     have f2:=df.2.mono bW.1
     have f3:b6 N (gF aR.1):=(b6.num mb).mono bW.2.1
     have f4:b6 N (eD aR.1:Int):=(b6.den mb).mono bW.2.1
     have M0:=bW.2.2
     clear zs df pc bW
     refine Exists.elim (⟨_,rfl⟩:∃q,q=en (parts ((eY.take p).flatten++pl.take s)) i k) fun q pe=>?_
     simp only[<-pe]at sG f1 f2 N7
     have ng:q+hr aR.1=Rat.divInt (q.num*eD aR.1+gF aR.1*q.den) (q.den*eD aR.1):=K6 aA
     have yX:(0:Int)<q.den*eD aR.1:=Int.mul_pos (by have:=q.den_pos;omega) aA
     try simp
     refine bV.join (by kernel_rfl) (fun j8 lP dx=>Ext b7 dx/\ht dx (lP 7) (q+if y=(i:Int)then hr aR.1 else 0).num (q+if y=(i:Int)then hr aR.1 else 0).den) ?_ ?_
     ·rintro D_ oV-
      simp[cz,fz]
      refine cF (ae:=Row 93 2 true eO) (xs:=eY) (n:=p) (a:=pl) (e:=27) (R:=1) (ay:=false) (by simpa using qW) (by simp[cz]) ze (by simp) (by simp) (by simp) (by decide) ?_
      rintro sY Ax GM
      simp[fz]
      refine aeh (aR:=pl) (n:=s) (a:=aR) (by simpa using GM) (by simp[fz]) Cy (by simp) ?_
      intro uX alz qy Yp
      simp[dY]
      refine cF (ae:=IR) (xs:=aR.2) (n:=k) (a:=y) (e:=3) (R:=1) (ay:=false) (by simpa using Yp) (by simp[dY]) aP (by simp) (by simp) (by simp) (by decide) ?_
      rintro uY IB rfl
      simp[bQ]
      refine br.b_ (fun wZ=>?_) (fun wZ=>?_)
      ·simp[cz,fz]
       refine cF (ae:=Row 93 2 true eO) (xs:=eY) (n:=p) (a:=pl) (e:=27) (R:=1) (ay:=false) (by simpa using qW) (by simp[cz]) ze (by simp) (by simp) (by simp) (by decide) ?_
       rintro xe IC zw
       simp[fz]
       refine Rf (aR:=pl) (n:=s) (a:=aR) (by simpa using zw) (by simp[fz]) Cy (by simp) ?_
       intro Dc alB
       simp
       refine aY.mk (Lj (bK pl zf aR Cz) (hlen pl zf aR Cz)) ?_
       rintro IQ lk ⟨h4,alm,d15,XM,mM⟩
       refine⟨h4,?_⟩
       have bn:=(mM mb).1
       have bj:=(mM mb).2
       subst bn bj
       try simp
       refine aY.mk (Lc (N:=N) (sG.ext h4) XM f1 f2 f3 f4 (by omega)) ?_
       rintro RS pL ⟨kJ,XN⟩
       try simp
       refine aY.mk (Lg (N:=N+N+1) ng XN yX ((f1.mul f4).add (f3.mul f2)) ((f2.mul f4).mono (by omega)) (by omega)) ?_
       rintro RT xL ⟨po,Oi⟩
       try simp
       refine cY.mk Oi.whole ?_
       try simp
       refine oV _ _ _ ⟨h4.av (kJ.av po),?_⟩
       rw[if_pos wZ]
       simpa using Oi
      ·try simp
       refine oV _ _ _ ⟨Ext.refl _,?_⟩
       rw[if_neg wZ,show q+0=q from Rat.add_zero q]
       simpa using sG
     ·rintro j8 lP dx ⟨cB,Cp⟩
      simp at Cp
      simp[fz,k9]
      refine l2 (pl.length-(s+1)) _ _ _ (by omega) ⟨s+1,rfl,by omega,by simp,ct.av cB,?_⟩
      rw[N7]
      simpa using Cp
    ·have X_:s=pl.length:=by omega
     simp[cz,zF]
     refine g7 (eY.length-(p+1)) _ _ _ (by omega) ⟨p+1,rfl,by omega,by simp,ct,?_⟩
     rw[wF]
     rw[X_,List.take_length]at sG
     simpa using sG
   ·rw[List.take_of_length_le (by omega)]at uw
    simp[bQ,dY]
    refine cF (ae:=ee) (xs:=t) (n:=i) (a:=row) (e:=34) (R:=1) (ay:=false) (by simpa using bM.ext (ae:=gr) ew b8) (by simp[bQ]) ei (by simp) (by simp) (by simp) (by decide) ?_
    rintro sY Ax GM
    simp[dY]
    refine cF (ae:=IR) (xs:=row) (n:=k) (a:=x) (e:=3) (R:=1) (ay:=false) (by simpa using GM) (by simp[dY]) J (by simp) (by simp) (by simp) (by decide) ?_
    rintro uX qy rfl
    simp
    refine aY.mk (A4 (n:=x) (by omega) (by omega)) ?_
    rintro DW gS ⟨e5,zC⟩
    refine⟨e5,?_⟩
    try simp
    have pc:=(xt (aR:=eY.flatten) fun q aq=>by
     obtain⟨l,gA,im⟩:=List.mem_flatten.1 aq
     exact(gW l gA q im).1).2 i k
    have zs:gG eY.flatten.length<=26580001:=by unfold gG;omega
    refine Exists.elim (⟨gG eY.flatten.length+1000,by omega,by omega,by omega⟩:∃N,gG eY.flatten.length<=N/\1000<=N/\N<=26581001) fun N bW=>?_
    have f1:=pc.yf.1.mono bW.1
    have f2:=pc.yf.2.mono bW.1
    have f3:b6 N x:=(b6.i64 (z:=x) (by omega) (by omega)).mono (by omega)
    have f4:b6 N 1:=b6.small (by decide) (by omega)
    have M0:=bW.2.2
    clear zs pc bW
    refine Exists.elim (⟨_,rfl⟩:∃q,q=en (parts eY.flatten) i k) fun q pe=>?_
    simp only[<-pe]at uw f1 f2
    refine aY.mk (Le (N:=N) (q:=q) (x:=x) (uw.ext e5) zC f1 f2 f3 f4 (by omega)) ?_
    rintro _ j_ ⟨gX,z,rfl,aQ⟩
    have O4:=b8.av (e5.av gX)
    by_cases Ct:q=((x:Int):Rat)
    ·obtain rfl:=aQ.2 Ct
     simp[dY,sM]
     refine dB (m-(k+1)) _ _ _ (by omega) ⟨k+1,rfl,by omega,by simp,O4,fun j aN=>?_⟩
     by_cases nV:j<k
     ·exact wq j nV
     ·obtain rfl:j=k:=by omega
      rw[<-pe,Ct,BV]
    ·have uP:¬z=0:=fun h=>Ct (aQ.1 h)
     simp[uP,bf]
     exact fail O4 a3 iG (by rw[<-pe,BV];exact Ct)
  ·have km:k=m:=by omega
   simp[bQ,jh]
   refine a4 (t.length-(i+1)) _ _ _ (by omega) ⟨i+1,rfl,by omega,by simp,bh,fun j b1 aN gM=>?_⟩
   by_cases fA:j<i
   ·exact dv j b1 fA gM
   ·obtain rfl:j=i:=by omega
    exact wq b1 (by omega)
 ·simp[bf]
  exact aD _ _ ⟨bp,true,rfl,⟨fun _ j k aN ah=>dv j k (by omega) ah,fun _=>rfl⟩⟩
end Go.cl
end
section
set_option maxRecDepth 8000
set_option maxHeartbeats 1000000
namespace Go.cl
attribute [-simp] gk hq iM
attribute [-simp] pT
theorem Dj(n:Nat):(∀c∈jG n,ia c)/\dN (jG n).reverse=n/\(0<n->jG n≠[]/\(jG n).getLast?≠some 48):=by
 induction n using Nat.strongRecOn with
 | _ n a2=>
  by_cases h:n=0
  ·subst h
   rw[xk]
   simp[dN]
  ·obtain⟨i1,i2,i3⟩:=a2 (n/10) (by omega)
   rw[Dk (by omega)]
   refine⟨fun c ag=>?_,?_,fun _=>⟨by simp,?_⟩⟩
   ·rcases List.mem_cons.1 ag with ag | ag
    ·subst ag;unfold ia;omega
    ·exact i1 c ag
   ·rw[List.reverse_cons,TR,i2]
    omega
   ·by_cases o:n/10=0
    ·rw[o,xk]
     simp
     omega
    ·have:=i3 (by omega)
     rw[List.getLast?_cons]
     cases a1:(jG (n/10)).getLast? with
     | none=>exact absurd (List.getLast?_eq_none_iff.1 a1) this.1
     | some c=>
      rw[a1]at this
      simp
      exact fun h=>this.2 (by rw[h])
theorem EE(n:Nat):∀c∈dec n,ia c:=by
 unfold dec
 split
 ·intro c ag;simp at ag;subst ag;decide
 ·intro c ag;exact(Dj n).1 c (List.mem_reverse.1 ag)
theorem Be(n:Nat):dN (dec n)=n:=by
 unfold dec
 split
 ·rename_i h;rw[h];rfl
 ·exact(Dj n).2.1
theorem Tf(n:Nat):dec n≠[]:=by
 unfold dec
 split
 ·simp
 ·rename_i h
  have:=((Dj n).2.2 (by omega)).1
  simpa using this
theorem LR{n:Nat}(h:(dec n).length<=4000):ib (dec n):=by
 refine⟨EE n,Tf n,?_,h⟩
 rintro⟨o,aa⟩
 unfold dec at o aa
 split at o
 ·rename_i aG
  rw[if_pos aG]at aa
  simp at aa
 ·rename_i aG
  rw[List.head?_reverse]at o
  exact((Dj n).2.2 (by omega)).2 o
theorem S9{c:Nat}{a:List Nat}(b:List Nat)(h:c∉a):dm c (a++c::b)=(a,some b):=by
 induction a with
 | nil=>simp[dm]
 | cons x a a2=>
  have o:x≠c:=fun e=>h (by simp[e])
  have aa:=a2 fun e=>h (by simp[e])
  simp[dm,o,aa]
theorem S8{c:Nat}{a:List Nat}(h:c∉a):dm c a=(a,none):=by
 induction a with
 | nil=>simp[dm]
 | cons x a a2=>
  have o:x≠c:=fun e=>h (by simp[e])
  have aa:=a2 fun e=>h (by simp[e])
  simp[dm,o,aa]
theorem z6{q:Rat}(h:lS q):jr (gh q)/\gF (gh q)=q.num/\eD (gh q)=q.den:=by
 have bE:47∉((if q.num<0 then[45]else[])++dec q.num.natAbs):=by
  intro hm
  rcases List.mem_append.1 hm with hm | hm
  ·split at hm<;>simp at hm
  ·have:=EE _ _ hm
   unfold ia at this
   omega
 have No:dm 47 (gh q)=((if q.num<0 then[45]else[])++dec q.num.natAbs,if q.den=1 then none else some (dec q.den)):=by
  unfold gh
  by_cases aA:q.den=1
  ·rw[if_pos aA,if_pos aA,List.append_nil]
   exact S8 bE
  ·rw[if_neg aA,if_neg aA]
   exact S9 _ bE
 have Oc:sX (gh q)=(if q.num<0 then[45]else[])++dec q.num.natAbs:=by unfold sX;rw[No]
 have OM:lg (gh q)=if q.den=1 then none else some (dec q.den):=by unfold lg;rw[No]
 have ud:(dec q.num.natAbs).head?≠some 45:=by
  intro db
  have:=EE _ _ (List.mem_of_mem_head? db)
  unfold ia at this
  omega
 have q6:mi (gh q)=decide (q.num<0):=by
  unfold mi
  rw[Oc]
  by_cases aF:q.num<0
  ·simp[aF]
  ·simp only[aF,if_false,List.nil_append]
   simp[ud]
 have so:hz (gh q)=dec q.num.natAbs:=by
  unfold hz j5
  rw[Oc]
  by_cases aF:q.num<0
  ·simp[aF]
  ·simp only[aF,if_false,List.nil_append]
   rw[if_neg ud]
 have kB:eD (gh q)=q.den:=by
  unfold eD
  rw[OM]
  by_cases aA:q.den=1
  ·simp[aA]
  ·simp[aA,Be]
 have ko:gF (gh q)=q.num:=by
  unfold gF
  rw[q6,so,Be]
  by_cases aF:q.num<0
  ·simp[aF];omega
  ·simp[aF];omega
 refine⟨⟨?_,?_,?_,?_⟩,ko,kB⟩
 ·rw[so];exact LR h.1
 ·intro u hu
  rw[OM]at hu
  split at hu
  ·cases hu
  ·rename_i aA
   obtain rfl:=Option.some.inj hu
   have aK:=q.den_pos
   rw[Be]
   refine⟨LR ?_,by omega⟩
   rcases h.2 with h | h
   ·exact absurd h aA
   ·exact h
 ·rw[q6,so,Be]
  rintro⟨o,aa⟩
  have:=of_decide_eq_true o
  omega
 ·right
  rw[ko,kB]
  exact q.reduced
theorem P3(q:Rat):Bytes (gh q):=by
 unfold gh
 intro x J
 rcases List.mem_append.1 J with J | J
 ·rcases List.mem_append.1 J with J | J
  ·split at J<;>simp at J
   omega
  ·exact LP _ x J
 ·split at J
  ·cases J
  ·rcases List.mem_cons.1 J with J | J
   ·omega
   ·exact LP _ x J
theorem C_{q:Rat}(h:lS q):hr (gh q)=q:=by
 obtain⟨o,aa,aE⟩:=z6 h
 unfold hr
 rw[aa,aE,Rat.num_divInt_den]
theorem acg{aM:List (Rat×List Int)}(h:∀p∈aM,lS p.1):parts (aM.map fun p=>(gh p.1,p.2))=aM:=by
 unfold parts
 rw[List.map_map]
 conv=>rhs;rw[<-List.map_id aM]
 apply List.map_congr_left
 intro p aK
 simp[C_ (h p aK)]
end Go.cl
end
section
set_option maxRecDepth 8000
set_option maxHeartbeats 1000000
namespace Go.cl
open Go.Proofs
open Go.Proofs.Tryz (prog)
attribute [-simp] gk hq iM
attribute [-simp] pT
def jI(aM:List (Rat×List Int)):List (List Nat×List Int):=aM.map fun p=>(gh p.1,p.2)
structure vs (t:List (List Int)) (aM:List (Rat×List Int)):Prop where
 ok:∀p∈jI aM,rX t.length (t[0]?.getD []).length p
 one:∀p∈jI aM,jr p.1/\eD p.1=1
 parts:parts (jI aM)=aM
 nQ:(jI aM).length<=(t.length+(t[0]?.getD []).length)*(t.length+(t[0]?.getD []).length)
 Bl:(jI aM).length<=256
 sum:∀i k,i<t.length->k<(t[0]?.getD []).length->en aM i k=((dH t i k:Int):Rat)
 len:dJ aM=(((jf t).1:Int):Rat)
 bytes:∀p∈jI aM,Bytes p.1
 short:∀p∈jI aM,p.1.length<4611686018427387904/\p.2.length<65536
theorem vs.mk'{t:List (List Int)}{aM:List (Rat×List Int)}(an:g2 t)(h:AU t.length (t[0]?.getD []).length (b0 (cr t)) (((jf t).1:Int):Rat) aM)(hm:∀p∈aM,fk 1 p.1):vs t aM:=by
 have nt:=Iq (t:=t) rfl rfl an.small (by have:=an.2.1;omega)
 have iu:=De fun p aK=>(h.Dv p aK).1
 have hint:∀p∈aM,∃z:Int,p.1=(z:Rat)/\0<z/\z<=1000000000:=fun p aK=>by
  obtain⟨z,aQ⟩:=hm p aK
  have e:p.1=(z:Rat):=by
   rw[<-aQ]
   have:((1:Nat):Rat)=1:=rfl
   rw[this,Rat.mul_one]
  refine⟨z,e,?_,?_⟩
  ·have:=(h.Dv p aK).1
   rw[e]at this
   exact_mod_cast this
  ·have:=iu.2 p aK
   rw[h.len,e]at this
   have:z<=(jf t).1:=by exact_mod_cast this
   have:=nt.2
   omega
 have ko:∀p∈aM,lS p.1:=fun p aK=>by
  obtain⟨z,aQ,aG,o⟩:=hint p aK
  rw[aQ]
  exact(dj.int (N:=64) (by omega) (by decide)).C9 (by decide)
 have XB:=acg ko
 have dv:∀p∈jI aM,∃q∈aM,p=(gh q.1,q.2):=fun p aK=>by
  unfold jI at aK
  rw[List.mem_map]at aK
  obtain⟨q,aq,rfl⟩:=aK
  exact⟨q,aq,rfl⟩
 refine⟨fun p aK=>?_,fun p aK=>?_,XB,?_,?_,fun i k ab ah=>?_,h.len,fun p aK=>?_,fun p aK=>?_⟩
 ·obtain⟨q,aq,rfl⟩:=dv p aK
  have o:=z6 (ko q aq)
  have aa:=h.Dv q aq
  exact⟨⟨o.1,by rw[C_ (ko q aq)];exact aa.1,aa.2.len⟩,aa.2⟩
 ·obtain⟨q,aq,rfl⟩:=dv p aK
  have o:=z6 (ko q aq)
  obtain⟨z,aQ,-⟩:=hint q aq
  refine⟨o.1,?_⟩
  rw[o.2.2,aQ,Rat.den_intCast]
 ·unfold jI
  rw[List.length_map]
  exact h.nQ
 ·unfold jI
  rw[List.length_map]
  have o:=an.2.1
  have aa:=an.2.2.2.1
  exact Nat.le_trans h.nQ (Nat.mul_le_mul (show _<=16 by omega) (show _<=16 by omega))
 ·rw[h.sum i k ab ah,pA]
  rfl
 ·obtain⟨q,aq,rfl⟩:=dv p aK
  exact P3 _
 ·obtain⟨q,aq,rfl⟩:=dv p aK
  have o:=HK (z6 (ko q aq)).1
  have aa:=(h.Dv q aq).2.len
  have aE:=an.2.2.2.1
  refine⟨?_,?_⟩
  ·show(gh q.1).length<_
   omega
  ·show q.2.length<_
   omega
theorem vs.Tj{t:List (List Int)}{aM:List (Rat×List Int)}(h:vs t aM):vk t (jI aM):=by
 refine⟨⟨h.ok,by have:=h.Bl;omega⟩,fun j k aN ah=>?_⟩
 rw[h.parts,h.sum j k aN ah,pA]
 rfl
section
variable {P:Program} {r:List bJ} {F:Fr} {H:ad} {Q:Fr->ad->Prop} {α:Type}
theorem Ix{d t e:Nat}{x y:Operand}{z:Value}{ae:ad->Value->α->Prop}{a b:α}{ax:bc (eC d t 2 [(0,x),(1,y)]::r) Q}(aL:∀aI,Ext H aI->ae aI (ar F x) a)(af:∀aI,Ext H aI->ae aI (ar F y) b)(bG:P.underlying t=some (.slice e))(ao:bu P e=some 1)(aQ:dL P e=some z)(eb:flat z=true)(dt:z.cells.size=1)
  (aW:jQ (fun i=>some (i*1,1)) (made z (2*1)) [(0,ar F x),(1,ar F y)]=some [ar F x,ar F y])(K:∀v aI,Row e 1 false ae aI v [a,b]->Ext H aI->ba P r Q .mk (a5 F d v) aI):ba P (eC d t 2 [(0,x),(1,y)]::r) Q ax F H:=by
 have J:Ext H (H++[.own e false [ar F x,ar F y]]):=(Ext.refl H).snoc _ _ _
 refine u5 bG ao aQ eb dt (by decide) (by decide) (by decide) aW rfl (K _ _ ⟨[ar F x,ar F y],iP.gj (k:=0) ⟨rfl,.inr ⟨H.length,0,2,false,[ar F x,ar F y],rfl,by omega,Nat.le_refl _,Nat.zero_le _,by simp,by simp,by simp⟩⟩,fun i u ab=>?_⟩ J)
 match i with
 | 0=>simp at ab;subst ab;simpa[eI]using aL _ J
 | 1=>simp at ab;subst ab;simpa[eI]using af _ J
 | n+2=>simp at ab
end
def t0:List (List Int):=[[2,1],[1,2]]
theorem DE:g2 t0:=by decide
theorem adN:jf t0=(3,0,0):=by
 have h:=SE (t:=t0) (m:=2) rfl (by decide) (by decide)
 have aa:tm (t0.map List.sum) ((fZ 2 t0).map List.sum) 3 0 0:=by
  have bn:t0.map List.sum=[3,3]:=by decide
  have bj:(fZ 2 t0).map List.sum=[3,3]:=by decide
  rw[bn,bj]
  exact⟨by simp,by simp,.inl ⟨rfl,rfl,fun i x ab=>by omega⟩⟩
 obtain⟨aE,bA,bQ⟩:=h.uniq aa
 exact Prod.ext aE (Prod.ext bA bQ)
theorem ab2(z:Int)(h:0<=z):gh ((z:Int):Rat)=dec z.natAbs:=by
 unfold gh
 rw[Rat.num_intCast,Rat.den_intCast,if_neg (by omega)]
 simp
theorem abl:({data:= #[51]}:ByteArray)=cv [51]:=rfl
theorem abn{H:ad}:aX prog 12 [] H (fun u H1=>Ext H H1/\u= .bool true):=by
 refine aX.cc fun Q aD=>?_
 have af:=adN
 apply ZL (by simp)
 simp[Kd]
 refine Ix (e:=3) (z:= .int .i64 0) (ae:=IR) (a:=2) (b:=1) (fun _ _=>rfl) (fun _ _=>rfl) (by simp) (by simp) (by rfl) (by rfl) (by rfl) (by rfl) ?_
 intro qx H1 ph bp
 refine Ix (e:=3) (z:= .int .i64 0) (ae:=IR) (a:=1) (b:=2) (fun _ _=>rfl) (fun _ _=>rfl) (by simp) (by simp) (by rfl) (by rfl) (by rfl) (by rfl) ?_
 intro mr aT pj bh
 have OI:ee aT qx [2,1]:=bM.ext (ae:=ee) ph bh
 refine Exists.elim (Row.len OI) fun b3 kC=>Exists.elim kC fun cx kC=>?_
 refine Exists.elim (Row.len pj) fun cM jy=>Exists.elim jy fun cN jy=>?_
 refine Ix (e:=34) (z:= .slice none 0 0) (ae:=ee) (a:=[2,1]) (b:=[1,2]) (fun aI J=>by simpa using bM.ext (ae:=ee) OI J) (fun aI J=>by simpa using bM.ext (ae:=ee) pj J) (by simp) (by simp) (by rfl) (by rfl) (by rfl) (by simp[kC,jy];rfl) ?_
 intro pG bS lD bO
 have ew:gr bS pG t0:=lD
 have mP:=bp.av (bh.av bO)
 simp
 refine aY.mk (Ll (Row.w1 ew) (by decide) (by decide)) ?_
 rintro DT bT ⟨b8,YA,-⟩
 have lp:=YA DE
 rw[af]at lp
 subst lp
 have ML:=bM.ext (ae:=gr) ew b8
 simp
 refine aY.mk (Qe (Row.w1 ML) (by decide) (by decide)) ?_
 rintro mX b7 ⟨ct,GR,-⟩
 refine Exists.elim (GR DE) fun vg bQ=>Exists.elim bQ fun aM bQ=>?_
 have nO:=bQ.1
 subst nO
 have a7:=vs.mk' DE bQ.2.1 bQ.2.2.1
 have ei:=bQ.2.2.2
 have UR:=bM.ext (ae:=gr) ML ct
 simp
 refine aY.mk (TG (Row.w1 UR) (by decide) (by decide) ei a7.bytes a7.short (by have:=a7.Bl;exact Nat.le_trans this (by decide))) ?_
 rintro va dx ⟨cB,GS,-,-⟩
 have oP:=GS DE a7.Tj
 have h3:dJ (parts (jI aM))=((3:Int):Rat):=by rw[a7.parts,a7.len,af]
 have Ce:gh ((3:Int):Rat)=[51]:=by
  rw[ab2 3 (by decide)]
  simp[dec,jG]
 have gW:lS ((3:Int):Rat):=(dj.int (N:=64) (by decide) (by decide)).C9 (by decide)
 change va=if lS (dJ (parts (jI aM)))then Value.tuple #[.string (cv (gh (dJ (parts (jI aM))))),.int .i64 0]else _ at oP
 rw[h3,if_pos gW,Ce]at oP
 subst oP
 simp[xA,abl,bf]
 exact aD _ _ ⟨mP.av (b8.av (ct.av cB)),rfl⟩
theorem bV.ft{P:Program}{a b:fc}{Q:dS->Fr->Fr->ad->Prop}{ax:bc (fc.seq a b) Q}{F G:Fr}{H:ad}(h:∀K:Fr->Fr->ad->Prop,(∀az bH H1,bV P b Q .mk az bH H1->K az bH H1)->bV P a (nC K Q) .mk F G H):bV P (.seq a b) Q ax F G H:=
 h _ fun _ _ _ h=>h
theorem agL{H:ad}{v:Value}{xs:List (List Nat×List Int)}(h:Row 93 2 true eO H v xs):Whole prog 27 v:=by
 obtain⟨a,c,rfl⟩:=Row.len h
 exact⟨by rfl,by rfl,by simp[e7]⟩
end Go.cl
end
section
namespace Go.cl
end Go.cl
end
section
set_option maxRecDepth 8000
set_option maxHeartbeats 1000000
namespace Go.cl
open Go.Proofs
open Go.Proofs.Tryz (prog)
attribute [-simp] gk hq iM
attribute [-simp] pT
end Go.cl
end
section
set_option maxRecDepth 8000
set_option maxHeartbeats 1000000
namespace Go.cl
theorem adT{n m:Nat}{t:List (List Rat)}{L:Rat}(h:e_ n m t)(aF:0<n)(hm:0<m)(o:∀i,i<n->bC m (b0 t i)<=L)(aa:∀k,k<m->bC n (fun i=>b0 t i k)<=L):gH n m t<=L:=by
 have a:=uT (dU t) n
 have b:=uT (dU (e8 m t)) m
 unfold gH
 split
 ·rw[b.1]
  have ah:(dI (dU (e8 m t)) m).2<m:=by omega
  have e:bC n (fun i=>b0 t i (dI (dU (e8 m t)) m).2)=dU (e8 m t) (dI (dU (e8 m t)) m).2:=by
   rw[rD h.e8 ah]
   exact fF fun i ab=>(r5 h ab ah).symm
  rw[<-e]
  exact aa _ ah
 ·rw[a.1]
  have ab:(dI (dU t) n).2<n:=by omega
  rw[rD h ab]
  exact o _ ab
end Go.cl
end
section
set_option maxRecDepth 8000
set_option maxHeartbeats 1000000
namespace Go.cl
open Go.Proofs
open Go.Proofs.Tryz (prog)
attribute [-simp] gk hq iM
attribute [-simp] pT
end Go.cl
end
