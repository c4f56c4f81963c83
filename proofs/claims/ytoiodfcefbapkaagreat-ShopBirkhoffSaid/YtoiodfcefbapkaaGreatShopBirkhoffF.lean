/- Part of the proof of ShopBirkhoff. -/
import Derived.Test.YtoiodfcefbapkaaGreatShopBirkhoffE
set_option linter.unusedVariables false
set_option linter.unusedSimpArgs false
section
set_option maxRecDepth 8000
namespace Go.cl
open Go.Proofs
open Go.Proofs.Tryz (prog)
theorem mW{v:Value}{l:List Nat}{H:ad}(ey:de H 124 v l)(hlen:l.length<4611686018427387904):aX prog 110 [v] H (fun aw H1=>H1=H/\∃da,de H 124 aw da/\Trim da/\val da=val l/\da.length<=l.length):=by
 refine aX.cc fun Q aD=>?_
 apply aaj (by simp)
 simp[JB]
 refine lQ.mk (ai:=fun n F H1=>H1=H/\∃da k,de H 124 (F 0) da/\l=da++List.replicate k 0/\n=da.length) l.length ⟨rfl,l,0,by simpa[]using ey,by simp,rfl⟩ ?_
 rintro n F H1 ⟨rfl,da,k,mE,au,rfl⟩ K a4
 have uk:da.length<=l.length:=by rw[au];simp
 have hk:val da=val l:=by rw[au,ou,IL];simp
 obtain⟨a,cap,an⟩:=mE.1.len
 simp[an]
 refine br.b_ (fun aF=>?_) (fun aF=>?_)
 ·obtain⟨b,i,dM,X,all,he,aZ,ag,bF,l_⟩:=mE.at aF
  rw[an]at he
  cases he
  have bn:((da.length:Int)-1).toNat=da.length-1:=by omega
  have bj:=Q6 da aF
  simp(disch:=omega)[aF,an,b2]
  refine dz.mk ⟨by omega,by omega⟩ ?_
  simp[aZ,ag,bn,l_ _ (show da.length-1<da.length by omega)]
  refine br.b_ (fun aQ=>?_) (fun aQ=>?_)
  ·simp(disch:=omega)[an,b2]
   refine aei (n:=da.length) (l:=0) (h:=da.length-1) (e:=124) (R:=1) (by simpa[an]using mE.1) (by simp) (by simp) rfl (by simp[fo];omega) (by omega) (by omega) (fun aw dC=>?_)
   simp
   refine a4 (da.length-1) _ _ (by omega) ⟨rfl,da.take (da.length-1),k+1,⟨?_,fun x J=>mE.2 x (List.mem_of_mem_take J)⟩,?_,by simp⟩
   ·simpa[Nat.min_eq_left,List.map_take]using dC
   ·rw[au]
    conv=>lhs;rw[<-bj]
    have:da[da.length-1]?.getD 0=0:=by omega
    rw[this,List.replicate_succ,List.append_assoc]
    rfl
  ·simp[an]
   refine aD _ _ ⟨rfl,da,an▸mE,fun h=>aQ ?_,hk,uk⟩
   rw[List.getLast?_eq_getElem?]at h
   simp[h]
 ·simp[aF,an]
  have:da=[]:=List.eq_nil_of_length_eq_zero (by omega)
  exact aD _ _ ⟨rfl,da,an▸mE,by simp[this,Trim],hk,uk⟩
theorem K5{x y c:Nat}{H:ad}(J:x<4294967296)(aP:y<4294967296)(ag:c<=1):aX prog 122 [.int .u32 x,.int .u32 y,.int .u32 c] H (fun aw H1=>H1=H/\∃s d:Nat,aw= .tuple #[.int .u32 s,.int .u32 d]/\s<4294967296/\d<=1/\s+4294967296*d=x+y+c):=by
 refine aX.cc fun Q aD=>?_
 apply ZD (by simp)
 simp(disch:=first | omega | (simp<;>fail) | fail) [Jk,gI,pI,bf,nP]
 refine aD _ _ ⟨rfl,(x+y+c) % 4294967296,(x+y+c)/4294967296,?_,by omega,by omega,by omega⟩
 simp
 omega
theorem Ez{v w:Value}{a b:List Nat}{H:ad}(bE:de H 124 v a)(bK:de H 124 w b)(p1:Trim a)(l5:Trim b)(iV:a.length<4611686018427387904)(iq:b.length<4611686018427387904):
  aX prog 101 [v,w] H (fun aw H1=>H1=H/\aw= .int .i64 (if val a<val b then-1 else if val b<val a then 1 else 0)):=by
 refine aX.cc fun Q aD=>?_
 apply Z_ (by simp)
 obtain⟨eB,ac,rfl⟩:=bE.len
 obtain⟨K_,Ld,rfl⟩:=bK.len
 simp(disch:=omega)[Jy,b2]
 refine br.b_ (fun aF=>?_) (fun aF=>?_)
 ·have hlen:a.length=b.length:=by omega
  simp(disch:=omega)[b2]
  refine lQ.mk (ai:=fun n F H1=>H1=H/\F 0= .slice eB a.length ac/\F 1= .slice K_ b.length Ld/\F 5= .int .i64 ((n:Int)-1)/\n<=a.length/\a.drop n=b.drop n) a.length ⟨rfl,by simp,by simp,by simp,Nat.le_refl _,by rw[List.drop_eq_nil_of_le (by omega),List.drop_eq_nil_of_le (by omega)]⟩ ?_
  rintro n F H1 ⟨rfl,aG,o,bQ,h1,aA⟩ K a4
  simp[aG,o,bQ]
  refine br.b_ (fun aK=>?_) (fun aK=>?_)
  ·obtain⟨gT,i1,x7,AW,AZ,kC,o0,l7,Nx,p5⟩:=bE.at (by omega)
   obtain⟨kX,i2,Ew,Eg,Em,jy,sk,ni,o7,sr⟩:=bK.at (by omega)
   cases kC
   cases jy
   have bn:((n:Int)-1).toNat=n-1:=by omega
   simp[aG,o,bQ]
   refine dz.mk ⟨by omega,by omega⟩ ?_
   simp[aG,o,bQ,o0,l7,bn,p5 _ (show n-1<a.length by omega)]
   refine dz.mk ⟨by omega,by omega⟩ ?_
   simp[aG,o,bQ,sk,ni,bn,sr _ (show n-1<b.length by omega)]
   have EJ:a.drop (n-1)=a[n-1]?.getD 0::a.drop n:=by
    rw[List.drop_eq_getElem_cons (by omega),bs (by omega),Option.getD_some,Nat.sub_add_cancel (by omega)]
   have EK:b.drop (n-1)=b[n-1]?.getD 0::b.drop n:=by
    rw[List.drop_eq_getElem_cons (by omega),bs (by omega),Option.getD_some,Nat.sub_add_cancel (by omega)]
   refine br.b_ (fun aq=>?_) (fun aq=>?_)
   ·simp(disch:=omega)[bQ,b2]
    refine a4 (n-1) _ _ (by omega) ⟨rfl,by simp[aG],by simp[o],by simp;omega,by omega,?_⟩
    rw[EJ,EK,aA]
    congr 1
    omega
   ·have key:∀(x y:List Nat),(∀z∈x,z<4294967296)->(∀z∈y,z<4294967296)->x.length=y.length->x.drop (n-1)=x[n-1]?.getD 0::x.drop n->y.drop (n-1)=y[n-1]?.getD 0::y.drop n->x.drop n=y.drop n->n-1<x.length->x[n-1]?.getD 0<y[n-1]?.getD 0->val x<val y:=by
     intro x y J aP CP ex T9 fi a3 kK
     have v1:val x=val (x.take (n-1))+4294967296^(n-1)*(x[n-1]?.getD 0+4294967296*val (x.drop n)):=by
      conv=>lhs;rw[<-List.take_append_drop (n-1) x,ou,ex]
      simp only[val,List.length_take,Nat.min_eq_left (Nat.le_of_lt a3)]
     have v2:val y=val (y.take (n-1))+4294967296^(n-1)*(y[n-1]?.getD 0+4294967296*val (y.drop n)):=by
      conv=>lhs;rw[<-List.take_append_drop (n-1) y,ou,T9]
      simp only[val,List.length_take,Nat.min_eq_left (show n-1<=y.length by omega)]
     have vd:val (x.take (n-1))<4294967296^(n-1):=by
      have:=kQ (l:=x.take (n-1)) fun z aQ=>J z (List.mem_of_mem_take aQ)
      rwa[List.length_take,Nat.min_eq_left (Nat.le_of_lt a3)]at this
     have v4:4294967296^(n-1)*(x[n-1]?.getD 0+4294967296*val (x.drop n)+1)<=4294967296^(n-1)*(y[n-1]?.getD 0+4294967296*val (y.drop n)):=Nat.mul_le_mul_left _ (by rw[fi];omega)
     rw[Nat.mul_add,Nat.mul_one]at v4
     omega
    simp(disch:=omega)[aG,o,bQ,b2]
    refine dz.mk ⟨by omega,by omega⟩ ?_
    simp[aG,o,bQ,o0,l7,bn,p5 _ (show n-1<a.length by omega)]
    refine dz.mk ⟨by omega,by omega⟩ ?_
    simp[aG,o,bQ,sk,ni,bn,sr _ (show n-1<b.length by omega)]
    refine br.b_ (fun a3=>?_) (fun a3=>?_)
    ·simp[bf]
     refine aD _ _ ⟨rfl,?_⟩
     rw[if_pos (key a b bE.2 bK.2 hlen EJ EK aA (by omega) (by omega))]
    ·simp[bf]
     have:=key b a bK.2 bE.2 hlen.symm EK EJ aA.symm (by omega) (by omega)
     refine aD _ _ ⟨rfl,?_⟩
     rw[if_neg (by omega),if_pos this]
  ·have jz:n=0:=by omega
   subst jz
   simp[bf]
   have:a=b:=by simpa using aA
   exact aD _ _ ⟨rfl,by rw[this];simp⟩
 ·simp
  refine br.b_ (fun h1=>?_) (fun h1=>?_)
  ·simp[bf]
   have:=l5.w6 bE.2 (by omega)
   exact aD _ _ ⟨rfl,by simp[this]⟩
  ·simp[bf]
   have:=p1.w6 bK.2 (by omega)
   exact aD _ _ ⟨rfl,by rw[if_neg (by omega),if_pos this]⟩
theorem agJ(b:BitVec 32):IntKind.u32.wrap (b.toNat:Int)=b.toNat:=mZ (Int.natCast_nonneg _) (by have:=b.isLt;omega)
theorem adS{z:Nat}(h:z<4294967296):z/2147483648=(z.testBit 31).toNat:=by
 rw[Nat.testBit_eq_decide_div_mod_eq]
 have:z/2^31=z/2147483648:=rfl
 rw[this]
 by_cases aQ:z<2147483648
 ·rw[Nat.div_eq_of_lt aQ];rfl
 ·have:z/2147483648=1:=by omega
  rw[this];rfl
theorem Ir{z:Nat}(h:z<4294967296):z.testBit 31=decide (2147483648<=z):=by
 rw[Nat.testBit_eq_decide_div_mod_eq]
 have:z/2^31=z/2147483648:=rfl
 rw[this]
 by_cases aQ:z<2147483648
 ·rw[Nat.div_eq_of_lt aQ];simp;omega
 ·have:z/2147483648=1:=by omega
  rw[this];simp;omega
theorem SD(x y c:Nat)(J:x<4294967296)(aP:y<4294967296)(ag:c<=1):
  (((4294967295^^^x)&&&y) ||| ((4294967295^^^(x^^^y))&&&((x+8589934592-y-c) % 4294967296)))/2147483648=if x<y+c then 1 else 0:=by
 have aA:(x+8589934592-y-c) % 4294967296<4294967296:=Nat.mod_lt _ (by decide)
 rw[adS]
 ·simp only[Nat.testBit_or,Nat.testBit_and,Nat.testBit_xor,Ir J,Ir aP,Ir aA,show Nat.testBit 4294967295 31=true from by decide]
  by_cases o:2147483648<=x<;>by_cases aa:2147483648<=y<;>by_cases aE:x<y+c<;>simp[o,aa,aE]<;>omega
 ·exact Nat.or_lt_two_pow (n:=32) (Nat.and_lt_two_pow _ aP) (Nat.and_lt_two_pow _ aA)
theorem Ie{x y c:Nat}{H:ad}(J:x<4294967296)(aP:y<4294967296)(ag:c<=1):aX prog 127 [.int .u32 x,.int .u32 y,.int .u32 c] H (fun aw H1=>H1=H/\∃s d:Nat,aw= .tuple #[.int .u32 s,.int .u32 d]/\s<4294967296/\d<=1/\x+4294967296*d=s+y+c):=by
 refine aX.cc fun Q aD=>?_
 apply ZI (by simp)
 obtain⟨d,aA⟩:∃d:Nat,d=(x+8589934592-y-c) % 4294967296:=⟨_,rfl⟩
 have bn:IntKind.u32.wrap (IntKind.u32.wrap ((x:Int)-y)-c)=(d:Int):=by
  rw[pI,pI]
  omega
 have bj:IntKind.u32.max=4294967295:=rfl
 have l8:d<4294967296:=by omega
 simp(disch:=first | omega | (simp<;>fail) | fail) [Jl,bf,nP,bn,bj,agJ]
 refine aD _ _ ⟨rfl,d,if x<y+c then 1 else 0,?_,l8,by split<;>omega,by split<;>omega⟩
 have af:=SD x y c J aP ag
 rw[<-aA]at af
 have aF:((4294967295#32^^^BitVec.ofNat 32 x)&&&BitVec.ofNat 32 y ||| (4294967295#32^^^(BitVec.ofNat 32 x^^^BitVec.ofNat 32 y))&&&BitVec.ofNat 32 d).toNat=((4294967295^^^x)&&&y ||| (4294967295^^^(x^^^y))&&&d):=by
  rw[BitVec.toNat_or,BitVec.toNat_and,BitVec.toNat_and,BitVec.toNat_xor,BitVec.toNat_xor,BitVec.toNat_xor,BitVec.toNat_ofNat,BitVec.toNat_ofNat,BitVec.toNat_ofNat,BitVec.toNat_ofNat,Nat.mod_eq_of_lt J,Nat.mod_eq_of_lt aP,Nat.mod_eq_of_lt l8]
 show Value.tuple #[.int .u32 d,.int .u32 ((((4294967295#32^^^BitVec.ofNat 32 x)&&&BitVec.ofNat 32 y ||| (4294967295#32^^^(BitVec.ofNat 32 x^^^BitVec.ofNat 32 y))&&&BitVec.ofNat 32 d).toNat:Int)/2147483648)]=_
 rw[aF]
 have:(((4294967295^^^x)&&&y ||| (4294967295^^^(x^^^y))&&&d:Nat):Int)/2147483648=((((4294967295^^^x)&&&y ||| (4294967295^^^(x^^^y))&&&d)/2147483648:Nat):Int):=by simp
 rw[this,af]
theorem rv(n:Nat):made (.int .u32 0) n=(List.replicate n 0).map fun(x:Nat)=>Value.int .u32 (x:Int):=by
 unfold made
 apply List.ext_getElem (by simp)
 intro i o aa
 simp[Value.cells,Nat.mod_one]
@[simp] theorem aja(k:IntKind)(n:Int):(Value.int k n).cells= #[.int k n]:=rfl
@[simp] theorem alr(k:IntKind)(n:Int):(Value.int k n).oneCell'=true:=rfl
@[simp] theorem anv(cs:List Value)(i:Nat)(v:Value):mY cs i [v]=cs.set i v:=rfl
@[simp] theorem abb(H:ad)(X:bN):(H++[X])[H.length]?=some X:=by simp
@[simp] theorem aiV(e:TypeId)(l:Bool)(cs:List Value):(some (bN.own e l cs)).bind bN.cells?=some cs:=rfl
@[simp] theorem ajb(e:TypeId)(l:Bool)(cs:List Value):(bN.own e l cs).cells?=some cs:=rfl
@[simp] theorem ajc(e:TypeId)(cs:List Value):(bN.ro e cs).cells?=some cs:=rfl
theorem oe{H:ad}{b:Nat}{X:bN}(h:H[b]?=some X)(N:ad):(H++N)[b]?=some X:=by
 rw[List.getElem?_append_left (cn.1 h).1];exact h
theorem de.fresh(H:ad)(e:Nat)(l:List Nat)(n c:Nat)(aF:n<=c)(au:l.length=c)(a3:∀x∈l,x<4294967296)(b:Bool):de (H++[.own e b (l.map fun(x:Nat)=>Value.int .u32 (x:Int))]) e (.slice (some ⟨H.length,0,none⟩) n c) (l.take n):=by
 refine⟨⟨_,c,by simp[au,Nat.min_eq_left aF],by simp[au,Nat.min_eq_left aF];omega,by simp,fun ag=>⟨H.length,0,_,_,rfl,abb H _,rfl,rfl,by simp[au];omega,by simp[au,Nat.min_eq_left aF,List.map_take]⟩⟩,fun x J=>a3 x (List.mem_of_mem_take J)⟩
theorem tj(l:List Nat)(i x:Nat)(ab:i<l.length):val ((l.set i x).take (i+1))=val (l.take i)+4294967296^i*x:=by
 rw[List.take_set,List.take_succ_eq_append_getElem ab,List.set_append_right _ _ (by simp;omega)]
 simp[Nat.min_eq_left (Nat.le_of_lt ab),ou,val]
theorem jK(l:List Nat)(i:Nat):val (l.take (i+1))=val (l.take i)+4294967296^i*(l[i]?.getD 0):=by
 by_cases ab:i<l.length
 ·rw[List.take_succ_eq_append_getElem ab,ou,bs ab]
  simp[val,Nat.min_eq_left (Nat.le_of_lt ab)]
 ·rw[List.take_of_length_le (by omega),List.take_of_length_le (by omega),List.getElem?_eq_none (by omega)]
  simp
theorem yg{l:List Nat}{m:Nat}(hm:0<m)(h:∀x∈l,x<m)(k:Nat):l[k]?.getD 0<m:=by
 by_cases ah:k<l.length
 ·rw[bs ah];exact h _ (List.getElem_mem ah)
 ·rw[List.getElem?_eq_none (by omega)];exact hm
theorem Qg{v w:Value}{a b:List Nat}{H:ad}(bE:de H 124 v a)(bK:de H 124 w b)(iV:a.length<1048576)(iq:b.length<1048576):
  aX prog 116 [v,w] H (fun aw H1=>Ext H H1/\∃l,de H1 124 aw l/\Trim l/\val l=val a+val b):=by
 refine aX.cc fun Q aD=>?_
 apply aaf (by simp)
 obtain⟨eB,ac,rfl⟩:=bE.len
 obtain⟨K_,Ld,rfl⟩:=bK.len
 simp only[JA]
 rw[cS]
 simp[-cS]
 rw[cS]
 refine hv.cut (fun az H1=>H=H1/\∃x y jn nF dg dq,az 0= .slice x dg.length jn/\az 1= .slice y dq.length nF/\de H 124 (.slice x dg.length jn) dg/\de H 124 (.slice y dq.length nF) dq/\dq.length<=dg.length/\dg.length<1048576/\val dg+val dq=val a+val b) ?_ ?_
 ·intro K a4
  simp(disch:=omega)[b2]
  refine br.b_ (fun au=>?_) (fun au=>?_)
  ·simp
   exact a4 _ _ ⟨rfl,_,_,_,_,b,a,by simp,by simp,bK,bE,by omega,iq,by omega⟩
  ·simp
   exact a4 _ _ ⟨rfl,_,_,_,_,a,b,by simp,by simp,bE,bK,by omega,iV,by omega⟩
 ·rintro F H1 ⟨rfl,x,y,jn,nF,dg,dq,aG,o,aZ,l6,hle,a3,hk⟩
  rw[cS]
  simp(disch:=omega)[aG,o,b2,-cS]
  refine Ar (e:=124) (R:=1) (bI:=4) (e6:= .i64) (dc:= .i64) (l:=dg.length+1) (c:=dg.length+1) (z:= .int .u32 0) (by simp) (by simp) (by simp) (by simp) (by rfl) (by rfl) (by simp) (by simp) (by omega) (by omega) (Nat.le_refl _) (by omega) (by omega) ?_
  simp[-cS,rv]
  rw[cS]
  simp[-cS]
  rw[cS]
  refine hv.cut (fun az H1=>az 0= .slice x dg.length jn/\az 5= .slice (some ⟨H.length,0,none⟩) (dg.length+1) (dg.length+1)/\∃(out:List Nat) (c:Nat),H1=H++[.own 124 false (out.map fun(x:Nat)=>Value.int .u32 (x:Int))]/\az 6= .int .u32 c/\c<=1/\out.length=dg.length+1/\(∀x∈out,x<4294967296)/\val (out.take dg.length)+4294967296^dg.length*c=val dg+val dq) ?_ ?_
  ·intro K a4
   simp(disch:=omega)[aG,o,b2]
   refine lQ.mk (ai:=fun n az H1=>∃i:Nat,n=dg.length-i/\i<=dg.length/\az 0= .slice x dg.length jn/\az 1= .slice y dq.length nF/\az 21= .int .i64 dg.length/\az 22= .int .i64 i/\az 5= .slice (some ⟨H.length,0,none⟩) (dg.length+1) (dg.length+1)/\∃(out:List Nat) (c:Nat),H1=H++[.own 124 false (out.map fun(x:Nat)=>Value.int .u32 (x:Int))]/\az 6= .int .u32 c/\c<=1/\out.length=dg.length+1/\(∀x∈out,x<4294967296)/\val (out.take i)+4294967296^i*c=val (dg.take i)+val (dq.take i)) dg.length ?_ ?_
   ·refine⟨0,by omega,by omega,by simp[aG],by simp[o],by simp,by simp,by simp,List.replicate (dg.length+1) 0,0,by simp,by simp,by omega,by simp,by simp,by simp[val]⟩
   ·rintro n az H1 ⟨i,rfl,ab,cP,cK,r7,iQ,e3,out,c,rfl,gU,ag,dT,jZ,an⟩ er kh
    simp[r7,iQ]
    refine br.b_ (fun kn=>?_) (fun kn=>?_)
    ·simp[cP,cK,e3,gU,iQ,-cS]
     obtain⟨gT,i1,x7,AW,AZ,kC,o0,l7,Nx,p5⟩:=aZ.at (by omega)
     cases kC
     have yJ:=oe o0 [.own 124 false (out.map fun(x:Nat)=>Value.int .u32 (x:Int))]
     rw[cS,IA,cS]
     simp[cP,cK,e3,gU,iQ,-cS]
     rw[cS]
     simp[cP,cK,e3,gU,iQ,-cS]
     rw[cS]
     refine hv.cut (fun bU aT=>H++[.own 124 false (out.map fun(x:Nat)=>Value.int .u32 (x:Int))]=aT/\bU 0=az 0/\bU 1=az 1/\bU 5=az 5/\bU 6=az 6/\bU 7= .int .i64 i/\bU 21=az 21/\bU 22=az 22/\bU 8= .int .u32 (dq[i]?.getD 0:Nat)) ?_ ?_
     ·intro c5 dB
      simp[cK]
      refine br.b_ (fun y5=>?_) (fun y5=>?_)
      ·obtain⟨kX,i2,Ew,Eg,Em,jy,sk,ni,o7,sr⟩:=l6.at (by omega)
       cases jy
       have tX:=oe sk [.own 124 false (out.map fun(x:Nat)=>Value.int .u32 (x:Int))]
       simp[cK]
       refine dz.mk (by omega) ?_
       simp[cK,tX,ni,sr _ y5]
       exact dB _ _ ⟨rfl,by simp,by simp[cK],by simp,by simp,by simp,by simp,by simp,by simp⟩
      ·simp[cK]
       exact dB _ _ ⟨rfl,by simp,by simp[cK],by simp,by simp,by simp,by simp,by simp,by rw[List.getElem?_eq_none (by omega)];simp⟩
     ·rintro bU aT ⟨rfl,f0,f1,f5,f6,f7,f21,f22,f8⟩
      simp[f0,f1,f5,f6,f7,f8,cP,cK,e3,gU]
      refine dz.mk (by omega) ?_
      simp[f0,f1,f5,f6,f7,f8,cP,cK,e3,gU,yJ,l7,p5 _ kn]
      refine aY.mk (K5 (aZ.lt i) (l6.lt i) ag) ?_
      rintro v bS ⟨rfl,s,d,rfl,ao,aA,zn⟩
      simp[f0,f1,f5,f6,f7,f8,f22,cP,cK,e3,gU,iQ]
      refine dz.mk (by omega) ?_
      simp(disch:=omega)[f0,f1,f5,f6,f7,f8,f22,cP,cK,e3,gU,iQ,b2]
      refine dz.mk (by omega) ?_
      simp(disch:=omega)[f0,f1,f5,f6,f7,f8,f22,cP,cK,e3,gU,iQ,b2]
      refine kh (dg.length-(i+1)) _ _ (by omega) ⟨i+1,by omega,by omega,by simp[f0,cP],by simp[f1,cK],by simp[f21,r7],by simp,by simp[f5,e3],out.set i s,d,by simp[List.map_set],by simp,aA,by simp[dT],?_,?_⟩
      ·intro z aQ
       rcases List.mem_or_eq_of_mem_set aQ with aQ | rfl
       ·exact jZ z aQ
       ·exact ao
      ·rw[tj _ _ _ (by omega),jK dg,jK dq,Nat.pow_succ]
       have:4294967296^i*(s+4294967296*d)=4294967296^i*(dg[i]?.getD 0+dq[i]?.getD 0+c):=by rw[zn]
       grind
    ·simp
     have:i=dg.length:=by omega
     subst this
     refine a4 _ _ ⟨by simp[cP],by simp[e3],out,c,rfl,by simp[gU],ag,dT,jZ,?_⟩
     rw[an,List.take_length,List.take_of_length_le hle]
  ·rintro az H1 ⟨cP,e3,out,c,rfl,gU,ag,dT,jZ,an⟩
   rw[cS]
   simp[cP,e3,gU,-cS]
   refine dz.mk (by omega) ?_
   simp[cP,e3,gU,-cS]
   refine dz.mk (by omega) ?_
   rw[cS]
   have uB:(List.map (fun(x:Nat)=>Value.int .u32 (x:Int)) out).set dg.length (.int .u32 (c:Int))=(out.set dg.length c).map fun(x:Nat)=>Value.int .u32 (x:Int):=by simp[List.map_set]
   simp[cP,e3,gU,-cS,uB,-List.map_set]
   have sB:∀z∈out.set dg.length c,z<4294967296:=fun z aQ=>by
    rcases List.mem_or_eq_of_mem_set aQ with aQ | rfl
    ·exact jZ z aQ
    ·omega
   have ey:=de.fresh H 124 (out.set dg.length c) (dg.length+1) (dg.length+1) (Nat.le_refl _) (by simp[dT]) sB false
   refine aY.mk (mW ey (by simp[dT];omega)) ?_
   rintro v H1 ⟨rfl,da,dR,bd,dC,-⟩
   simp[bf,-List.map_set]
   refine aD _ _ ⟨(Ext.refl H).snoc _ _ _,da,dR,bd,?_⟩
   rw[dC,tj _ _ _ (by omega),an,hk]
theorem PN{v w:Value}{a b:List Nat}{H:ad}(bE:de H 124 v a)(bK:de H 124 w b)(iV:a.length<1048576)(hle:b.length<=a.length)(hk:val b<=val a):
  aX prog 118 [v,w] H (fun aw H1=>Ext H H1/\∃l,de H1 124 aw l/\Trim l/\val l=val a-val b):=by
 refine aX.cc fun Q aD=>?_
 apply aad (by simp)
 obtain⟨x,jn,rfl⟩:=bE.len
 obtain⟨y,nF,rfl⟩:=bK.len
 by_cases qQ:a.length=0
 ·have yN:a=[]:=List.eq_nil_of_length_eq_zero qQ
  have nR:b=[]:=List.eq_nil_of_length_eq_zero (by omega)
  subst yN nR
  simp only[Ei]
  rw[cS]
  simp[-cS]
  rw[cS]
  simp[-cS]
  refine DI (e:=124) (R:=1) (bI:=4) (e6:= .i64) (dc:= .i64) (by simp) (by simp) (by simp) (by simp) (by simp) ?_
  simp
  refine lQ.mk (ai:=fun n az H1=>H=H1/\az 13= .int .i64 0/\az 14= .int .i64 0/\az 5= .slice (some ⟨0,0,none⟩) 0 0) 0 ⟨rfl,by simp,by simp,by simp⟩ ?_
  rintro n az H1 ⟨rfl,ET,EU,e3⟩ K a4
  simp[ET,EU,e3]
  refine aY.mk (mW (l:=[]) ⟨eA.void H _ _ _,by simp⟩ (by simp)) ?_
  rintro v H1 ⟨rfl,da,dR,bd,dC,-⟩
  simp[bf]
  exact aD _ _ ⟨Ext.refl _,da,dR,bd,by simpa[val]using dC⟩
 simp only[Ei]
 rw[cS]
 simp[-cS]
 rw[cS]
 simp(disch:=omega)[b2,-cS]
 refine Ar (e:=124) (R:=1) (bI:=4) (e6:= .i64) (dc:= .i64) (l:=a.length) (c:=a.length) (z:= .int .u32 0) (by simp) (by simp) (by simp) (by simp) (by rfl) (by rfl) (by simp) (by simp) (by omega) (by omega) (Nat.le_refl _) (by omega) (by omega) ?_
 simp[-cS,rv]
 rw[cS]
 simp[-cS]
 rw[cS]
 refine hv.cut (fun az H1=>az 5= .slice (some ⟨H.length,0,none⟩) a.length a.length/\∃(out:List Nat) (c:Nat),H1=H++[.own 124 false (out.map fun(x:Nat)=>Value.int .u32 (x:Int))]/\out.length=a.length/\(∀x∈out,x<4294967296)/\val a+4294967296^a.length*c=val out+val b) ?_ ?_
 ·intro K a4
  simp(disch:=omega)[b2]
  refine lQ.mk (ai:=fun n az H1=>∃i:Nat,n=a.length-i/\i<=a.length/\az 0= .slice x a.length jn/\az 1= .slice y b.length nF/\az 13= .int .i64 a.length/\az 14= .int .i64 i/\az 5= .slice (some ⟨H.length,0,none⟩) a.length a.length/\∃(out:List Nat) (c:Nat),H1=H++[.own 124 false (out.map fun(x:Nat)=>Value.int .u32 (x:Int))]/\az 6= .int .u32 c/\c<=1/\out.length=a.length/\(∀x∈out,x<4294967296)/\val (a.take i)+4294967296^i*c=val (out.take i)+val (b.take i)) a.length ?_ ?_
  ·refine⟨0,by omega,by omega,by simp,by simp,by simp,by simp,by simp,List.replicate a.length 0,0,by simp,by simp,by omega,by simp,by simp,by simp[val]⟩
  ·rintro n az H1 ⟨i,rfl,ab,cP,cK,r7,iQ,e3,out,c,rfl,gU,ag,dT,jZ,an⟩ er kh
   simp[r7,iQ]
   refine br.b_ (fun kn=>?_) (fun kn=>?_)
   ·simp[cP,cK,e3,gU,iQ,-cS]
    obtain⟨gT,i1,x7,AW,AZ,kC,o0,l7,Nx,p5⟩:=bE.at (by omega)
    cases kC
    have yJ:=oe o0 [.own 124 false (out.map fun(x:Nat)=>Value.int .u32 (x:Int))]
    rw[cS,IA,cS]
    simp[cP,cK,e3,gU,iQ,-cS]
    rw[cS]
    simp[cP,cK,e3,gU,iQ,-cS]
    rw[cS]
    refine hv.cut (fun bU aT=>H++[.own 124 false (out.map fun(x:Nat)=>Value.int .u32 (x:Int))]=aT/\bU 0=az 0/\bU 1=az 1/\bU 5=az 5/\bU 6=az 6/\bU 7= .int .i64 i/\bU 13=az 13/\bU 14=az 14/\bU 8= .int .u32 (b[i]?.getD 0:Nat)) ?_ ?_
    ·intro c5 dB
     simp[cK]
     refine br.b_ (fun y5=>?_) (fun y5=>?_)
     ·obtain⟨kX,i2,Ew,Eg,Em,jy,sk,ni,o7,sr⟩:=bK.at (by omega)
      cases jy
      have tX:=oe sk [.own 124 false (out.map fun(x:Nat)=>Value.int .u32 (x:Int))]
      simp[cK]
      refine dz.mk (by omega) ?_
      simp[cK,tX,ni,sr _ y5]
      exact dB _ _ ⟨rfl,by simp,by simp[cK],by simp,by simp,by simp,by simp,by simp,by simp⟩
     ·simp[cK]
      exact dB _ _ ⟨rfl,by simp,by simp[cK],by simp,by simp,by simp,by simp,by simp,by rw[List.getElem?_eq_none (by omega)];simp⟩
    ·rintro bU aT ⟨rfl,f0,f1,f5,f6,f7,f21,f22,f8⟩
     simp[f0,f1,f5,f6,f7,f8,cP,cK,e3,gU]
     refine dz.mk (by omega) ?_
     simp[f0,f1,f5,f6,f7,f8,cP,cK,e3,gU,yJ,l7,p5 _ kn]
     refine aY.mk (Ie (bE.lt i) (bK.lt i) ag) ?_
     rintro v bS ⟨rfl,s,d,rfl,ao,aA,zn⟩
     simp[f0,f1,f5,f6,f7,f8,f22,cP,cK,e3,gU,iQ]
     refine dz.mk (by omega) ?_
     simp(disch:=omega)[f0,f1,f5,f6,f7,f8,f22,cP,cK,e3,gU,iQ,b2]
     refine dz.mk (by omega) ?_
     simp(disch:=omega)[f0,f1,f5,f6,f7,f8,f22,cP,cK,e3,gU,iQ,b2]
     refine kh (a.length-(i+1)) _ _ (by omega) ⟨i+1,by omega,by omega,by simp[f0,cP],by simp[f1,cK],by simp[f21,r7],by simp,by simp[f5,e3],out.set i s,d,by simp[List.map_set],by simp,aA,by simp[dT],?_,?_⟩
     ·intro z aQ
      rcases List.mem_or_eq_of_mem_set aQ with aQ | rfl
      ·exact jZ z aQ
      ·exact ao
     ·rw[tj _ _ _ (by omega),jK a,jK b,Nat.pow_succ]
      have:4294967296^i*(a[i]?.getD 0+4294967296*d)=4294967296^i*(s+b[i]?.getD 0+c):=by rw[zn]
      grind
   ·simp
    have:i=a.length:=by omega
    subst this
    refine a4 _ _ ⟨by simp[e3],out,c,rfl,dT,jZ,?_⟩
    rw[List.take_length,List.take_of_length_le hle,<-dT,List.take_length]at an
    rw[<-dT]
    exact an
 ·rintro az H1 ⟨e3,out,c,rfl,dT,jZ,an⟩
  have Gq:=kQ jZ
  have mH:c=0:=by
   rcases Nat.eq_zero_or_pos c with h | h
   ·exact h
   ·have:4294967296^a.length*1<=4294967296^a.length*c:=Nat.mul_le_mul_left _ h
    rw[dT]at Gq
    omega
  subst mH
  rw[cS]
  simp[e3,-cS]
  have ey:=de.fresh H 124 out a.length a.length (Nat.le_refl _) dT jZ false
  refine aY.mk (mW ey (by simp[dT];omega)) ?_
  rintro v H1 ⟨rfl,da,dR,bd,dC,-⟩
  simp[bf]
  refine aD _ _ ⟨(Ext.refl H).snoc _ _ _,da,dR,bd,?_⟩
  rw[dC,<-dT,List.take_length]
  omega
theorem RK(l:List Nat)(i x:Nat)(ab:i<l.length):val (l.set i x)+4294967296^i*(l[i]?.getD 0)=val l+4294967296^i*x:=by
 induction l generalizing i with
 | nil=>simp at ab
 | cons y l a2=>
  cases i with
  | zero=>simp[val];omega
  | succ i=>
   simp only[List.set_cons_succ,val,List.getElem?_cons_succ,Nat.pow_succ]
   have:=a2 i (by simpa using ab)
   grind
theorem HA{p q:Nat}(aK:p<4294967296)(aq:q<4294967296):IntKind.u64.wrap ((p:Int)*q)=((p*q:Nat):Int):=by
 have XG:p*q<=4294967295*4294967295:=Nat.mul_le_mul (by omega) (by omega)
 have o:(p:Int)*q=((p*q:Nat):Int):=by simp
 rw[o]
 exact gI (Int.natCast_nonneg _) (by omega)
theorem Mp{l:List Nat}{i j x:Nat}(h:i≠j):(l.set i x)[j]?.getD 0=l[j]?.getD 0:=by rw[List.getElem?_set_ne h]
theorem Q8{v w:Value}{a b:List Nat}{H:ad}(bE:de H 124 v a)(bK:de H 124 w b)(iV:a.length<1048576)(iq:b.length<1048576):
  aX prog 93 [v,w] H (fun aw H1=>Ext H H1/\∃l,de H1 124 aw l/\Trim l/\val l=val a*val b):=by
 refine aX.cc fun Q aD=>?_
 apply aai (by simp)
 obtain⟨x,jn,rfl⟩:=bE.len
 obtain⟨y,nF,rfl⟩:=bK.len
 by_cases qQ:a.length+b.length=0
 ·have yN:a=[]:=List.eq_nil_of_length_eq_zero (by omega)
  have nR:b=[]:=List.eq_nil_of_length_eq_zero (by omega)
  subst yN nR
  simp only[Ej]
  rw[cS]
  simp[-cS]
  rw[cS]
  simp(disch:=omega)[-cS,b2]
  refine DI (e:=124) (R:=1) (bI:=4) (e6:= .i64) (dc:= .i64) (by simp) (by simp) (by simp) (by simp) (by simp) ?_
  simp
  refine lQ.mk (ai:=fun n az H1=>H=H1/\az 19= .int .i64 0/\az 20= .int .i64 0/\az 5= .slice (some ⟨0,0,none⟩) 0 0) 0 ⟨rfl,by simp,by simp,by simp⟩ ?_
  rintro n az H1 ⟨rfl,ET,EU,e3⟩ K a4
  simp[ET,EU,e3]
  refine aY.mk (mW (l:=[]) ⟨eA.void H _ _ _,by simp⟩ (by simp)) ?_
  rintro v H1 ⟨rfl,da,dR,bd,dC,-⟩
  simp[bf]
  exact aD _ _ ⟨Ext.refl _,da,dR,bd,by simpa[val]using dC⟩
 simp only[Ej]
 rw[cS]
 simp[-cS]
 rw[cS]
 simp(disch:=omega)[b2,-cS]
 refine Ar (e:=124) (R:=1) (bI:=4) (e6:= .i64) (dc:= .i64) (l:=a.length+b.length) (c:=a.length+b.length) (z:= .int .u32 0) (by simp) (by simp) (by simp) (by simp) (by rfl) (by rfl) (by simp) (by simp) (by omega) (by omega) (Nat.le_refl _) (by omega) (by omega) ?_
 simp[-cS,rv]
 rw[cS]
 refine hv.cut (fun az H1=>az 5= .slice (some ⟨H.length,0,none⟩) (a.length+b.length) (a.length+b.length)/\∃(out:List Nat),H1=H++[.own 124 false (out.map fun(x:Nat)=>Value.int .u32 (x:Int))]/\out.length=a.length+b.length/\(∀x∈out,x<4294967296)/\val out=val a*val b) ?_ ?_
 ·intro K a4
  simp(disch:=omega)[b2]
  refine lQ.mk (ai:=fun n az H1=>∃i:Nat,n=a.length-i/\i<=a.length/\az 18= .slice x a.length jn/\az 1= .slice y b.length nF/\az 19= .int .i64 a.length/\az 20= .int .i64 i/\az 5= .slice (some ⟨H.length,0,none⟩) (a.length+b.length) (a.length+b.length)/\∃(out:List Nat),H1=H++[.own 124 false (out.map fun(x:Nat)=>Value.int .u32 (x:Int))]/\out.length=a.length+b.length/\(∀x∈out,x<4294967296)/\(∀k,i+b.length<=k->out[k]?.getD 0=0)/\val out=val (a.take i)*val b) a.length ?_ ?_
  ·refine⟨0,by omega,by omega,by simp,by simp,by simp,by simp,by simp,List.replicate (a.length+b.length) 0,by simp,by simp,by simp,?_,by simp[val,IL]⟩
   intro k ah
   rw[List.getElem?_replicate]
   split<;>rfl
  ·rintro n az H1 ⟨i,rfl,ab,cP,cK,r7,iQ,e3,out,rfl,dT,jZ,aQ,an⟩ er kh
   simp[r7,iQ]
   refine br.b_ (fun kn=>?_) (fun kn=>?_)
   ·simp[cP,cK,e3,iQ,-cS]
    obtain⟨gT,i1,x7,AW,AZ,kC,o0,l7,-,p5⟩:=bE.at (by omega)
    cases kC
    have yJ:=oe o0 [.own 124 false (out.map fun(x:Nat)=>Value.int .u32 (x:Int))]
    obtain⟨p,aK⟩:∃p,a[i]?.getD 0=p:=⟨_,rfl⟩
    have h3:p<4294967296:=aK▸bE.lt i
    have kD:=p5 _ kn
    rw[aK]at kD
    rw[cS,IA,cS]
    simp[cP,cK,e3,iQ,-cS]
    refine dz.mk (by omega) ?_
    simp[cP,cK,e3,iQ,-cS,yJ,l7,kD]
    rw[cS]
    simp[-cS]
    rw[cS]
    refine hv.cut (fun bU aT=>bU 18=az 18/\bU 1=az 1/\bU 19=az 19/\bU 20=az 20/\bU 5=az 5/\bU 6= .int .i64 i/\∃(hE:List Nat) (c:Nat),aT=H++[.own 124 false (hE.map fun(x:Nat)=>Value.int .u32 (x:Int))]/\bU 8= .int .u64 c/\c<4294967296/\hE.length=a.length+b.length/\(∀x∈hE,x<4294967296)/\(∀k,i+b.length<=k->hE[k]?.getD 0=0)/\val hE+4294967296^(i+b.length)*c=val (a.take i)*val b+4294967296^i*(p*val b)) ?_ ?_
    ·intro c5 dB
     rw[cS]
     simp[cK]
     refine lQ.mk (ai:=fun n bU aT=>∃j:Nat,n=b.length-j/\j<=b.length/\bU 18=az 18/\bU 1=az 1/\bU 25=az 1/\bU 26= .int .i64 b.length/\bU 27= .int .i64 j/\bU 7= .int .u32 p/\bU 19=az 19/\bU 20=az 20/\bU 5=az 5/\bU 6= .int .i64 i/\∃(hE:List Nat) (c:Nat),aT=H++[.own 124 false (hE.map fun(x:Nat)=>Value.int .u32 (x:Int))]/\bU 8= .int .u64 c/\c<4294967296/\hE.length=a.length+b.length/\(∀x∈hE,x<4294967296)/\(∀k,i+b.length<=k->hE[k]?.getD 0=0)/\val hE+4294967296^(i+j)*c=val (a.take i)*val b+4294967296^i*(p*val (b.take j))) b.length ?_ ?_
     ·exact⟨0,by omega,by omega,by simp,by simp[cK],by simp[cK],by simp,by simp,by simp,by simp,by simp,by simp,by simp,out,0,by simp,by simp,by omega,dT,jZ,aQ,by simp[val,an]⟩
     ·rintro n bU aT ⟨j,rfl,aN,f18,f1,f25,f26,f27,f7,f19,f20,f5,f6,hE,c,rfl,f8,ag,Ci,zc,uO,dC⟩ ln eW
      simp[f26,f27]
      refine br.b_ (fun sB=>?_) (fun sB=>?_)
      ·obtain⟨kX,i2,Ew,Eg,Em,jy,sk,ni,-,sr⟩:=bK.at (by omega)
       cases jy
       have tX:=oe sk [.own 124 false (hE.map fun(x:Nat)=>Value.int .u32 (x:Int))]
       obtain⟨q,aq⟩:∃q,b[j]?.getD 0=q:=⟨_,rfl⟩
       have q_:q<4294967296:=aq▸bK.lt j
       have kE:=sr _ sB
       rw[aq]at kE
       obtain⟨U,aW⟩:∃U,hE[i+j]?.getD 0=U:=⟨_,rfl⟩
       have akS:U<4294967296:=aW▸yg (by decide) zc _
       have NF:hE[i+j]?=some U:=by rw[bs (by omega)]at aW⊢;simpa using aW
       have XG:p*q<=4294967295*4294967295:=Nat.mul_le_mul (by omega) (by omega)
       simp[f25,f27,cK]
       refine dz.mk (by omega) ?_
       have t1:((i:Int)+j).toNat=i+j:=by omega
       obtain⟨m,hm⟩:∃m,p*q=m:=⟨_,rfl⟩
       have pE:IntKind.u64.wrap ((p:Int)*q)=(m:Int):=hm▸HA h3 q_
       obtain⟨s,ao⟩:∃s,(m+U+c) % 4294967296=s:=⟨_,rfl⟩
       obtain⟨d,aA⟩:∃d,(m+U+c)/4294967296=d:=⟨_,rfl⟩
       have b4:IntKind.u32.wrap ((m:Int)+U+c)=(s:Int):=by rw[pI];omega
       have iL:((m:Int)+U+c)/4294967296=(d:Int):=by omega
       simp(disch:=first | omega | (simp<;>fail) | fail) [f5,f6,f7,f8,f25,f27,cK,e3,tX,ni,kE,b2,gI,pE,-getElem?_pos]
       refine dz.mk (by omega) ?_
       simp(disch:=first | omega | (simp<;>fail) | fail) [f5,f6,f7,f8,f25,f27,cK,e3,tX,ni,kE,b2,gI,pE,t1,NF,-getElem?_pos,b4,iL,nP]
       refine dz.mk (by omega) ?_
       simp(disch:=first | omega | (simp<;>fail) | fail) [f5,f6,f7,f8,f25,f27,cK,e3,tX,ni,kE,b2,gI,pE,t1,NF,-getElem?_pos,b4,iL,nP]
       refine dz.mk (by omega) ?_
       simp(disch:=first | omega | (simp<;>fail) | fail) [f27,b2]
       refine eW (b.length-(j+1)) _ _ (by omega) ⟨j+1,by omega,by omega,by simp[f18],by simp[f1],by simp[f25],by simp[f26],by simp,by simp[f7],by simp[f19],by simp[f20],by simp[f5],by simp[f6],hE.set (i+j) s,d,by simp[List.map_set],by simp,by omega,by simp[Ci],?_,?_,?_⟩
       ·intro z aQ
        rcases List.mem_or_eq_of_mem_set aQ with aQ | rfl
        ·exact zc z aQ
        ·omega
       ·intro k ah
        rw[Mp (by omega)]
        exact uO k ah
       ·have o:=RK hE (i+j) s (by omega)
        rw[aW]at o
        rw[jK b,aq,show i+(j+1)=i+j+1 from rfl,Nat.pow_succ]
        have aa:s+4294967296*d=p*q+U+c:=by omega
        have aE:4294967296^(i+j)*(s+4294967296*d)=4294967296^(i+j)*(p*q+U+c):=by rw[aa]
        rw[Nat.pow_add]at*
        grind
      ·simp
       have:j=b.length:=by omega
       subst this
       exact dB _ _ ⟨by simp[f18],by simp[f1],by simp[f19],by simp[f20],by simp[f5],by simp[f6],hE,c,rfl,by simp[f8],ag,Ci,zc,uO,by rw[dC,List.take_length]⟩
    ·rintro bU aT ⟨f18,f1,f19,f20,f5,f6,hE,c,rfl,f8,ag,Ci,zc,uO,dC⟩
     have pE:IntKind.u32.wrap (c:Int)=(c:Int):=mZ (by omega) (by omega)
     have t1:((i:Int)+b.length).toNat=i+b.length:=by omega
     simp(disch:=first | omega | (simp<;>fail) | fail) [f18,f1,f19,f20,f5,f6,f8,cP,cK,e3,iQ,b2,pE]
     refine dz.mk (by omega) ?_
     simp(disch:=first | omega | (simp<;>fail) | fail) [f18,f1,f19,f20,f5,f6,f8,cP,cK,e3,iQ,b2,pE,t1]
     refine dz.mk (by omega) ?_
     simp(disch:=first | omega | (simp<;>fail) | fail) [f20,iQ,b2]
     refine kh (a.length-(i+1)) _ _ (by omega) ⟨i+1,by omega,by omega,by simp[f18,cP],by simp[f1,cK],by simp[f19,r7],by simp,by simp[f5,e3],hE.set (i+b.length) c,by simp[List.map_set],by simp[Ci],?_,?_,?_⟩
     ·intro z aQ
      rcases List.mem_or_eq_of_mem_set aQ with aQ | rfl
      ·exact zc z aQ
      ·omega
     ·intro k ah
      rw[Mp (by omega)]
      exact uO k (by omega)
     ·have o:=RK hE (i+b.length) c (by omega)
      rw[uO _ (Nat.le_refl _)]at o
      rw[jK a,aK,Nat.add_mul]
      grind
   ·simp
    have:i=a.length:=by omega
    subst this
    exact a4 _ _ ⟨by simp[e3],out,rfl,dT,jZ,by rw[an,List.take_length]⟩
 ·rintro az H1 ⟨e3,out,rfl,dT,jZ,an⟩
  rw[cS]
  simp[e3,-cS]
  have ey:=de.fresh H 124 out (a.length+b.length) (a.length+b.length) (Nat.le_refl _) dT jZ false
  refine aY.mk (mW ey (by simp[dT];omega)) ?_
  rintro v H1 ⟨rfl,da,dR,bd,dC,-⟩
  simp[bf]
  refine aD _ _ ⟨(Ext.refl H).snoc _ _ _,da,dR,bd,?_⟩
  rw[dC,<-dT,List.take_length,an]
@[simp] theorem aiN(H N:ad):(H++N)[H.length]?=N[0]?:=by rw[List.getElem?_append_right (Nat.le_refl _),Nat.sub_self]
@[simp] theorem ai9(b:Bool):(Value.bool b).cells= #[.bool b]:=rfl
@[simp] theorem ajd(a:Option Addr)(n c:Nat):(Value.slice a n c).cells= #[.slice a n c]:=rfl
@[simp] theorem ai8(cs:Array Value):(Value.agg cs).cells=cs:=rfl
@[simp] theorem aje(s:ByteArray):(Value.string s).cells= #[.string s]:=rfl
@[simp] theorem alq(b:Bool):(Value.bool b).oneCell'=true:=rfl
@[simp] theorem als(a:Option Addr)(n c:Nat):(Value.slice a n c).oneCell'=true:=rfl
@[simp] theorem alu(s:ByteArray):(Value.string s).oneCell'=true:=rfl
@[simp] theorem anu(cs:List Value)(i:Nat):mY cs i []=dr cs i []:=rfl
@[simp] theorem anw(cs:List Value)(i:Nat)(v w:Value)(aH:List Value):mY cs i (v::w::aH)=dr cs i (v::w::aH):=rfl
theorem Ext.more(H:ad){N:ad}(h:∀x∈N,∀e cs,x≠ .ro e cs):Ext H (H++N):=⟨N,rfl,h⟩
theorem eA.set{H:ad}{e R n b:Nat}{v:Value}{cs:List Value}{X Y:bN}(h:eA H e R v n cs)(af:H[b]?=some Y)(he:Y.elem?≠some e):eA (H.set b X) e R v n cs:=by
 obtain⟨a,cap,an,o,aa,aE⟩:=h
 refine⟨a,cap,an,o,aa,fun ag=>?_⟩
 obtain⟨cg,i,Sm,all,aU,aO,bw,cj,eR⟩:=aE ag
 refine⟨cg,i,Sm,all,aU,?_,bw,cj,eR⟩
 have:b≠cg:=fun c0=>by
  subst c0
  rw[af]at aO
  exact he (Option.some.inj aO▸cj)
 rw[List.getElem?_set_ne this]
 exact aO
theorem de.set{H:ad}{e b:Nat}{v:Value}{l:List Nat}{X Y:bN}(h:de H e v l)(af:H[b]?=some Y)(he:Y.elem?≠some e):de (H.set b X) e v l:=⟨h.1.set af he,h.2⟩
theorem uS{neg:Bool}{a:Option Addr}{n c:Nat}{H:ad}:aX prog 92 [.bool neg,.slice a n c] H (fun v H1=>Ext H H1/\v= .agg #[.bool (neg&&decide (0<n)),.slice a n c]):=by
 refine aX.cc fun Q aD=>?_
 apply aac (by simp)
 simp[Jz]
 cases neg<;>simp[dr,bf]
 ·exact aD _ _ ⟨Ext.more H (by simp),by simp⟩
 ·exact aD _ _ ⟨Ext.more H (by simp),by simp⟩
def du(H:ad)(v:Value)(z:Int):Prop:=∃(a:Option Addr) (c:Nat) (l:List Nat),v= .agg #[.bool (decide (z<0)),.slice a l.length c]/\de H 124 (.slice a l.length c) l/\Trim l/\val l=z.natAbs
theorem du.ext{H H1:ad}{v:Value}{z:Int}(h:du H v z)(J:Ext H H1):du H1 v z:=by
 obtain⟨a,c,l,o,aa,aE⟩:=h
 exact⟨a,c,l,o,aa.ext J,aE⟩
theorem Trim.pos{l:List Nat}(h:Trim l):0<l.length↔0<val l:=by
 have:=h.zero
 constructor
 ·intro o
  rcases Nat.eq_zero_or_pos (val l)with aa | aa
  ·rw[this.1 aa]at o;simp at o
  ·exact aa
 ·intro o
  rcases Nat.eq_zero_or_pos l.length with aa | aa
  ·rw[List.eq_nil_of_length_eq_zero aa]at o;simp[val]at o
  ·exact aa
theorem du.mk'{H:ad}{v:Value}{neg:Bool}{l:List Nat}{a:Option Addr}{c:Nat}(an:v= .agg #[.bool (neg&&decide (0<l.length)),.slice a l.length c])(ey:de H 124 (.slice a l.length c) l)(bd:Trim l):du H v (if neg=true then-(val l:Int)else val l):=by
 refine⟨a,c,l,?_,ey,bd,by cases neg<;>simp⟩
 rw[an]
 have:=bd.pos
 cases neg
 ·have e:decide ((if false=true then-(val l:Int)else(val l:Int))<0)=false:=by simp
  rw[e];simp
 ·have e:decide ((if true=true then-(val l:Int)else(val l:Int))<0)=decide (0<l.length):=by
   simp only[if_true]
   by_cases h:0<l.length
   ·have:=this.1 h
    simp[h];omega
   ·have aa:¬0<val l:=fun aa=>h (this.2 aa)
    simp[h];omega
  rw[e];simp
theorem xa{n:Int}{H:ad}(o: -9223372036854775808<=n)(aa:n<9223372036854775808):aX prog 88 [.int .i64 n] H (fun v H1=>Ext H H1/\du H1 v n):=by
 refine aX.cc fun Q aD=>?_
 apply ZX (by simp)
 simp only[Jt]
 rw[cS]
 simp[-cS]
 rw[cS]
 simp[-cS]
 rw[cS]
 refine hv.cut (fun az H1=>H1=H++[.own 78 false [.bool false,.slice none 0 0]]/\az 0= .int .i64 n/\az 2= .pointer (some ⟨H.length,0,none⟩)/\az 3= .int .u64 n.natAbs) ?_ ?_
 ·intro K a4
  simp
  refine br.b_ (fun h=>?_) (fun h=>?_)
  ·simp
   refine a4 _ _ ⟨rfl,by simp,by simp,?_⟩
   simp[RY]
   omega
  ·simp
   refine a4 _ _ ⟨rfl,by simp,by simp,?_⟩
   simp[RY]
   omega
 ·rintro F H1 ⟨rfl,f0,f2,f3⟩
  have af:n.natAbs<18446744073709551616:=by omega
  obtain⟨m,hm⟩:∃m,n.natAbs=m:=⟨_,rfl⟩
  rw[hm]at f3 af
  obtain⟨bg,hC⟩:∃bg,m % 4294967296=bg:=⟨_,rfl⟩
  obtain⟨ab,iF⟩:∃ab,m/4294967296=ab:=⟨_,rfl⟩
  have bn:IntKind.u32.wrap (m:Int)=(bg:Int):=by rw[pI];omega
  have bj:IntKind.u32.wrap ((m:Int)/4294967296)=(ab:Int):=by rw[pI];omega
  rw[cS]
  simp(disch:=first | omega | (simp<;>fail) | fail) [f0,f2,f3,bn,bj,nP,-cS]
  refine u5 (e:=124) (R:=1) (z:= .int .u32 0) (out:=[.int .u32 bg,.int .u32 ab]) (by simp) (by simp) (by simp) (by rfl) (by rfl) (by omega) (by omega) (by omega) ?_ (by simp) ?_
  ·simp[jQ,rv]
  simp[-cS]
  have ey:=de.fresh (H++[.own 78 false [.bool false,.slice none 0 0]]) 124 [bg,ab] 2 2 (by omega) (by simp) (by simp;omega) false
  simp at ey
  refine aY.mk (mW ey (by simp)) ?_
  rintro v H1 ⟨rfl,l,au,bd,an,hlen⟩
  obtain⟨a,c,rfl⟩:=au.len
  simp[f0,f2,-cS]
  refine aY.mk uS ?_
  rintro v H1 ⟨J,rfl⟩
  have cP:H1[H.length]?=some (.own 78 false [.bool false,.slice none 0 0]):=J.get_some (by simp)
  have a3:H.length<H1.length:=(cn.1 cP).1
  have bz:Ext H H1:=(Ext.more H (by simp)).av J
  simp[f2,cP,List.getElem?_set_self a3,dr,bf,-getElem?_pos]
  refine aD _ _ ⟨bz.set (Nat.le_refl _) (by simp),?_⟩
  have hk:val l=n.natAbs:=by
   rw[an]
   simp[val]
   omega
  have yG:de (H1.set H.length (.own 78 false [.bool (decide (n<0)&&decide (0<l.length)),.slice a l.length c])) 124 (.slice a l.length c) l:=(au.ext J).set cP (by simp[bN.elem?])
  have q7:=du.mk' (neg:=decide (n<0)) rfl yG bd
  rw[hk]at q7
  have aQ:(if decide (n<0)=true then-((n.natAbs:Nat):Int)else(n.natAbs:Int))=n:=by
   simp only[decide_eq_true_eq]
   split<;>omega
  rwa[aQ]at q7
def Fits(z:Int):Prop:=z.natAbs<4294967296^1000000
theorem Fits.length{z:Int}(h:Fits z){l:List Nat}(bd:Trim l)(an:val l=z.natAbs):l.length<=1000000:=bd.length_le (by rw[an];exact h)
theorem s4(a n m:Nat)(aL:0<a)(h:n<=m):a^n<=a^m:=Nat.pow_le_pow_right aL h
theorem HS(a b n:Nat)(h:a<=b):a^n<=b^n:=Nat.pow_le_pow_left h n
theorem HR(a n m k:Nat)(h:n*m=k):a^k=(a^n)^m:=by rw[<-h,Nat.pow_mul]
theorem acw(k:Nat):(4294967296:Nat)^k=2^(32*k):=by rw[Nat.pow_mul]
theorem acs{v N:Nat}(M:Nat)(h:v<2^N)(bW:N<=32*M):v<4294967296^M:=by
 rw[acw];exact Nat.lt_of_lt_of_le h (Nat.pow_le_pow_right (by decide) bW)
theorem acx{v n:Nat}(m:Nat)(h:v<4294967296^n)(aF:n<=m):v<10^(10*m):=by
 rw[Nat.pow_mul];exact Nat.lt_of_lt_of_le h (Nat.le_trans (Nat.pow_le_pow_right (by decide) aF) (Nat.pow_le_pow_left (by decide) m))
theorem acu(a n b c9 m k k_:Nat)(h:n*m=k)(aa:c9*m=k_)(hle:a^n<=b^c9):a^k<=b^k_:=by
 rw[<-h,<-aa,Nat.pow_mul,Nat.pow_mul];exact Nat.pow_le_pow_left hle m
theorem acv{v e n:Nat}(m:Nat)(h:v<10^n)(he:e<=10^9)(aF:n+9<m):v*e<4294967296^m:=by
 refine Nat.lt_of_le_of_lt (Nat.mul_le_mul (Nat.le_of_lt h) he) (Nat.lt_of_lt_of_le ?_ (Nat.pow_le_pow_left (show 10<=4294967296 by decide) m))
 rw[<-Nat.pow_add];exact Nat.pow_lt_pow_right (by decide) aF
theorem HT(n:Nat)(h:n≠0):1<2^n:=Nat.one_lt_two_pow h
theorem Fits.small{z:Int}(h:z.natAbs<4294967296^8):Fits z:=Nat.lt_of_lt_of_le h (s4 4294967296 8 1000000 (by decide) (by decide))
theorem Fits.neg{z:Int}(h:Fits z):Fits (-z):=by unfold Fits at*;rwa[Int.natAbs_neg]
theorem C5{v:Value}{a:Int}{H:ad}(bE:du H v a):aX prog 113 [v] H (fun v H1=>Ext H H1/\du H1 v (-a)):=by
 refine aX.cc fun Q aD=>?_
 apply ZS (by simp)
 obtain⟨x,jn,l,rfl,ey,bd,an⟩:=bE
 simp[Jq]
 refine aY.mk uS ?_
 rintro v H1 ⟨J,rfl⟩
 have cP:H1[H.length+1]?=some (.own 78 false [.bool false,.slice none 0 0]):=J.get_some (by simp)
 have a3:H.length+1<H1.length:=(cn.1 cP).1
 have bz:Ext H H1:=(Ext.more H (by simp)).av J
 simp[cP,List.getElem?_set_self a3,dr,bf,-getElem?_pos]
 refine aD _ _ ⟨bz.set (by omega) (by simp),?_⟩
 have q7:=du.mk' (neg:= !decide (a<0)) rfl ((ey.ext bz).set (X:= .own 78 false [.bool (!decide (a<0)&&decide (0<l.length)),.slice x l.length jn]) cP (by simp[bN.elem?])) bd
 rw[an]at q7
 have aQ:(if(!decide (a<0))=true then-((a.natAbs:Nat):Int)else(a.natAbs:Int))= -a:=by
  simp
  split<;>omega
 rw[aQ]at q7
 exact q7
theorem QS{v:Value}{a:Int}{H:ad}(bE:du H v a):aX prog 95 [v] H (fun v H1=>Ext H H1/\v= .int .i64 (if a<0 then-1 else if a=0 then 0 else 1)):=by
 refine aX.cc fun Q aD=>?_
 apply ZU (by simp)
 obtain⟨x,jn,l,rfl,ey,bd,an⟩:=bE
 have aK:=bd.pos
 simp[Jr]
 refine br.b_ (fun h=>?_) (fun h=>?_)
 ·simp[bf]
  refine aD _ _ ⟨Ext.more H (by simp),?_⟩
  have:a=0:=by
   rw[h]at an
   simp[val]at an
   omega
  simp[this]
 ·simp
  have aG:a≠0:=fun aG=>by
   have:0<l.length:=List.length_pos_iff.2 h
   rw[aG]at an
   omega
  refine br.b_ (fun o=>?_) (fun o=>?_)
  ·simp[bf]
   exact aD _ _ ⟨Ext.more H (by simp),by simp[o]⟩
  ·simp[bf]
   exact aD _ _ ⟨Ext.more H (by simp),by simp[o,aG]⟩
theorem AY{v w:Value}{a b:Int}{H:ad}(bE:du H v a)(bK:du H w b)(a8:Fits a)(k0:Fits b):aX prog 105 [v,w] H (fun v H1=>Ext H H1/\du H1 v (a+b)):=by
 refine aX.cc fun Q aD=>?_
 apply ZO (by simp)
 obtain⟨x,jn,dg,rfl,ey,bd,an⟩:=bE
 obtain⟨y,nF,dq,rfl,mE,yA,dC⟩:=bK
 have iV:=a8.length bd an
 have iq:=k0.length yA dC
 have bO:Ext H (H++[.own 78 false [.bool (decide (a<0)),.slice x dg.length jn],.own 78 false [.bool (decide (b<0)),.slice y dq.length nF],.own 78 false [.bool false,.slice none 0 0]]):=Ext.more H (by simp)
 have fin:∀(neg:Bool) (H1 aT:ad) (l:List Nat) (m:Option Addr) (nz:Nat),Ext (H++[.own 78 false [.bool (decide (a<0)),.slice x dg.length jn],.own 78 false [.bool (decide (b<0)),.slice y dq.length nF],.own 78 false [.bool false,.slice none 0 0]]) H1->de H1 124 (.slice m l.length nz) l->Trim l->
   (if neg=true then-(val l:Int)else val l)=a+b->Ext H1 aT->aT[H.length+2]?=some (.own 78 false [.bool false,.slice none 0 0])/\Q (.agg #[.bool (neg&&decide (0<l.length)),.slice m l.length nz]) (aT.set (H.length+2) (.own 78 false [.bool (neg&&decide (0<l.length)),.slice m l.length nz]))/\H.length+2<aT.length:=by
  intro neg H1 aT l m nz o aa aE bA bQ
  have cP:aT[H.length+2]?=some (.own 78 false [.bool false,.slice none 0 0]):=(o.av bQ).get_some (by simp)
  refine⟨cP,aD _ _ ⟨(bO.av (o.av bQ)).set (by omega) (by simp),?_⟩,(cn.1 cP).1⟩
  have:=du.mk' (neg:=neg) rfl ((aa.ext bQ).set (X:= .own 78 false [.bool (neg&&decide (0<l.length)),.slice m l.length nz]) cP (by simp[bN.elem?])) aE
  rwa[bA]at this
 simp[Jn]
 refine br.b_ (fun h=>?_) (fun h=>?_)
 ·simp
  refine aY.mk (Qg (ey.ext bO) (mE.ext bO) (by omega) (by omega)) ?_
  rintro v H1 ⟨J,l,au,jT,j0⟩
  refine⟨J,?_⟩
  obtain⟨m,nz,rfl⟩:=au.len
  simp
  refine aY.mk uS ?_
  rintro v aT ⟨bh,rfl⟩
  obtain⟨cP,cK,kf⟩:=fin (decide (a<0)) H1 aT l m nz J au jT (by
   have cq:a<0↔b<0:=by simpa using h
   rw[j0,an,dC];simp;split<;>omega) bh
  simp[cP,List.getElem?_set_self kf,dr,bf,-getElem?_pos]
  exact cK
 ·simp
  refine aY.mk (Ez (ey.ext bO) (mE.ext bO) bd yA (by omega) (by omega)) ?_
  rintro v H1 ⟨rfl,rfl⟩
  simp
  refine br.b_ (fun o=>?_) (fun o=>?_)
  ·have h0:val dq<=val dg:=by
    rcases Nat.lt_or_ge (val dg) (val dq)with aa | aa
    ·rw[if_pos aa]at o;omega
    ·exact aa
   simp
   refine aY.mk (PN (ey.ext bO) (mE.ext bO) (by omega) ?_ h0) ?_
   ·rcases Nat.lt_or_ge dg.length dq.length with aa | aa
    ·have:=yA.w6 ey.2 aa
     omega
    ·exact aa
   rintro v H1 ⟨J,l,au,jT,j0⟩
   refine⟨J,?_⟩
   obtain⟨m,nz,rfl⟩:=au.len
   simp
   refine aY.mk uS ?_
   rintro v aT ⟨bh,rfl⟩
   obtain⟨cP,cK,kf⟩:=fin (decide (a<0)) H1 aT l m nz J au jT (by
    have cq:¬(a<0↔b<0):=by simpa using h
    rw[j0,an,dC,Int.ofNat_sub (by omega)];simp;split<;>omega) bh
   simp[cP,List.getElem?_set_self kf,dr,bf,-getElem?_pos]
   exact cK
  ·have h0:val dg<=val dq:=by
    rcases Nat.lt_or_ge (val dg) (val dq)with aa | aa
    ·omega
    ·rw[if_neg (by omega)]at o
     split at o<;>omega
   simp
   refine aY.mk (PN (mE.ext bO) (ey.ext bO) (by omega) ?_ h0) ?_
   ·rcases Nat.lt_or_ge dq.length dg.length with aa | aa
    ·have:=bd.w6 mE.2 aa
     omega
    ·exact aa
   rintro v H1 ⟨J,l,au,jT,j0⟩
   refine⟨J,?_⟩
   obtain⟨m,nz,rfl⟩:=au.len
   simp
   refine aY.mk uS ?_
   rintro v aT ⟨bh,rfl⟩
   obtain⟨cP,cK,kf⟩:=fin (decide (b<0)) H1 aT l m nz J au jT (by
    have cq:¬(a<0↔b<0):=by simpa using h
    rw[j0,an,dC,Int.ofNat_sub (by omega)];simp;split<;>omega) bh
   simp[cP,List.getElem?_set_self kf,dr,bf,-getElem?_pos]
   exact cK
attribute [simp] List.getElem?_cons_zero List.getElem?_cons_succ
theorem du.set{H:ad}{v:Value}{z:Int}{b:Nat}{X Y:bN}(h:du H v z)(af:H[b]?=some Y)(he:Y.elem?≠some 124):du (H.set b X) v z:=by
 obtain⟨a,c,l,o,aa,aE⟩:=h
 exact⟨a,c,l,o,aa.set af he,aE⟩
theorem du.shape{H:ad}{v:Value}{z:Int}(h:du H v z):∃s a n c,v= .agg #[.bool s,.slice a n c]:=by
 obtain⟨a,c,l,o,-⟩:=h
 exact⟨_,_,_,_,o⟩
theorem Q0{v w:Value}{a b:Int}{H:ad}(bE:du H v a)(bK:du H w b)(a8:Fits a)(k0:Fits b):aX prog 94 [v,w] H (fun v H1=>Ext H H1/\du H1 v (a-b)):=by
 refine aX.cc fun Q aD=>?_
 apply ZW (by simp)
 obtain⟨s1,b3,c4,cx,rfl⟩:=bE.shape
 obtain⟨s2,cM,c9,cN,rfl⟩:=bK.shape
 have bO:Ext H (H++[.own 78 false [.bool s1,.slice b3 c4 cx],.own 78 false [.bool s2,.slice cM c9 cN],.own 78 false [.bool false,.slice none 0 0]]):=Ext.more H (by simp)
 simp[Js]
 refine aY.mk (C5 (bK.ext bO)) ?_
 rintro v H1 ⟨J,an⟩
 refine⟨J,?_⟩
 simp
 refine aY.mk (AY (bE.ext (bO.av J)) an a8 k0.neg) ?_
 rintro v aT ⟨bh,jB⟩
 have cP:aT[H.length+2]?=some (.own 78 false [.bool false,.slice none 0 0]):=(J.av bh).get_some (by simp)
 have a3:=(cn.1 cP).1
 obtain⟨mU,d_,j4,eg,rfl⟩:=jB.shape
 simp[cP,List.getElem?_set_self a3,dr,bf,-getElem?_pos]
 exact aD _ _ ⟨(bO.av (J.av bh)).set (by omega) (by simp),jB.set cP (by simp[bN.elem?])⟩
theorem z4{v w:Value}{a b:Int}{H:ad}(bE:du H v a)(bK:du H w b)(a8:Fits a)(k0:Fits b):aX prog 66 [v,w] H (fun v H1=>Ext H H1/\du H1 v (a*b)):=by
 refine aX.cc fun Q aD=>?_
 apply ZR (by simp)
 obtain⟨x,jn,dg,rfl,ey,bd,an⟩:=bE
 obtain⟨y,nF,dq,rfl,mE,yA,dC⟩:=bK
 have iV:=a8.length bd an
 have iq:=k0.length yA dC
 have bO:Ext H (H++[.own 78 false [.bool (decide (a<0)),.slice x dg.length jn],.own 78 false [.bool (decide (b<0)),.slice y dq.length nF],.own 78 false [.bool false,.slice none 0 0]]):=Ext.more H (by simp)
 simp[Jp]
 refine aY.mk (Q8 (ey.ext bO) (mE.ext bO) (by omega) (by omega)) ?_
 rintro v H1 ⟨J,l,au,jT,j0⟩
 refine⟨J,?_⟩
 obtain⟨m,nz,rfl⟩:=au.len
 simp
 refine aY.mk uS ?_
 rintro v aT ⟨bh,rfl⟩
 have cP:aT[H.length+2]?=some (.own 78 false [.bool false,.slice none 0 0]):=(J.av bh).get_some (by simp)
 have a3:=(cn.1 cP).1
 have q7:=du.mk' rfl (au.ext bh) jT (neg:= !(decide (a<0)==decide (b<0)))
 have aQ:(if(!(decide (a<0)==decide (b<0)))=true then-(val l:Int)else(val l:Int))=a*b:=by
  rw[j0,an,dC]
  rcases Int.natAbs_eq a with aL | aL<;>rcases Int.natAbs_eq b with af | af<;>generalize a.natAbs=p at* <;>generalize b.natAbs=q at* <;>subst aL af<;>by_cases aK:p=0<;>by_cases aq:q=0<;>simp[aK,aq,Int.mul_neg,Int.neg_mul]<;>omega
 rw[aQ]at q7
 obtain⟨tA,Nd⟩:∃tA,(!(decide (a<0)==decide (b<0))&&decide (0<l.length))=tA:=⟨_,rfl⟩
 simp[cP,List.getElem?_set_self a3,dr,bf,-getElem?_pos]
 refine aD _ _ ⟨(bO.av (J.av bh)).set (by omega) (by simp),?_⟩
 have:=q7.set (X:= .own 78 false [.bool (!(decide (a<0)==decide (b<0))&&decide (0<l.length)),.slice m l.length nz]) cP (by simp[bN.elem?])
 simpa using this
theorem Hj{v w:Value}{a b:Int}{H:ad}(bE:du H v a)(bK:du H w b)(a8:Fits a)(k0:Fits b):aX prog 67 [v,w] H (fun v H1=>Ext H H1/\v= .int .i64 (if a<b then-1 else if a=b then 0 else 1)):=by
 refine aX.cc fun Q aD=>?_
 apply ZP (by simp)
 obtain⟨s1,b3,c4,cx,rfl⟩:=bE.shape
 obtain⟨s2,cM,c9,cN,rfl⟩:=bK.shape
 have bO:Ext H (H++[.own 78 false [.bool s1,.slice b3 c4 cx],.own 78 false [.bool s2,.slice cM c9 cN]]):=Ext.more H (by simp)
 simp[Jo]
 refine aY.mk (Q0 (bE.ext bO) (bK.ext bO) a8 k0) ?_
 rintro v H1 ⟨J,an⟩
 simp
 refine aY.mk (QS an) ?_
 rintro v aT ⟨bh,rfl⟩
 simp[bf]
 refine aD _ _ ⟨bO.av (J.av bh),?_⟩
 congr 1
 split<;>split<;>omega
def fK(H:ad)(v:Value)(n d:Int):Prop:=∃hU mh gT ji,v= .agg #[hU,mh,gT,ji]/\du H (.agg #[hU,mh]) n/\du H (.agg #[gT,ji]) d
theorem fK.ext{H H1:ad}{v:Value}{n d:Int}(h:fK H v n d)(J:Ext H H1):fK H1 v n d:=by
 obtain⟨hU,mh,gT,ji,o,aa,aE⟩:=h
 exact⟨hU,mh,gT,ji,o,aa.ext J,aE.ext J⟩
theorem fK.set{H:ad}{v:Value}{n d:Int}{b:Nat}{X Y:bN}(h:fK H v n d)(af:H[b]?=some Y)(he:Y.elem?≠some 124):fK (H.set b X) v n d:=by
 obtain⟨hU,mh,gT,ji,o,aa,aE⟩:=h
 exact⟨hU,mh,gT,ji,o,aa.set af he,aE.set af he⟩
theorem fK.shape{H:ad}{v:Value}{n d:Int}(h:fK H v n d):∃s1 b3 c4 cx s2 cM c9 cN,v= .agg #[.bool s1,.slice b3 c4 cx,.bool s2,.slice cM c9 cN]/\du H (.agg #[.bool s1,.slice b3 c4 cx]) n/\du H (.agg #[.bool s2,.slice cM c9 cN]) d:=by
 obtain⟨hU,mh,gT,ji,o,aa,aE⟩:=h
 obtain⟨s1,b3,c4,cx,bn⟩:=aa.shape
 obtain⟨s2,cM,c9,cN,bj⟩:=aE.shape
 simp at bn bj
 obtain⟨rfl,rfl⟩:=bn
 obtain⟨rfl,rfl⟩:=bj
 exact⟨s1,b3,c4,cx,s2,cM,c9,cN,o,aa,aE⟩
theorem Um{v:Value}{a:Int}{H:ad}(bE:du H v a):aX prog 104 [v] H (fun v H1=>Ext H H1/\fK H1 v a 1):=by
 refine aX.cc fun Q aD=>?_
 apply ZN (by simp)
 obtain⟨s1,b3,c4,cx,rfl⟩:=bE.shape
 have bO:Ext H (H++[.own 78 false [.bool s1,.slice b3 c4 cx],.own 80 false [.bool false,.slice none 0 0,.bool false,.slice none 0 0]]):=Ext.more H (by simp)
 simp[Jm]
 refine aY.mk (xa (by omega) (by omega)) ?_
 rintro v H1 ⟨J,an⟩
 refine⟨J,?_⟩
 obtain⟨mU,d_,j4,eg,rfl⟩:=an.shape
 have cP:H1[H.length+1]?=some (.own 80 false [.bool false,.slice none 0 0,.bool false,.slice none 0 0]):=J.get_some (by simp)
 have a3:=(cn.1 cP).1
 simp[cP,List.getElem?_set_self a3,dr,bf,-getElem?_pos]
 refine aD _ _ ⟨(bO.av J).set (by omega) (by simp),?_⟩
 exact fK.set ⟨_,_,_,_,rfl,bE.ext (bO.av J),an⟩ cP (by simp[bN.elem?])
theorem agM{n:Int}{H:ad}(o: -9223372036854775808<=n)(aa:n<9223372036854775808):aX prog 59 [.int .i64 n] H (fun v H1=>Ext H H1/\fK H1 v n 1):=by
 refine aX.cc fun Q aD=>?_
 apply Z8 (by simp)
 have bO:Ext H (H++[.own 80 false [.bool false,.slice none 0 0,.bool false,.slice none 0 0]]):=Ext.more H (by simp)
 simp[Jx]
 refine aY.mk (xa o aa) ?_
 rintro v H1 ⟨J,an⟩
 simp
 refine aY.mk (xa (by omega) (by omega)) ?_
 rintro v aT ⟨bh,jB⟩
 obtain⟨s1,b3,c4,cx,rfl⟩:=an.shape
 obtain⟨mU,d_,j4,eg,rfl⟩:=jB.shape
 have cP:aT[H.length]?=some (.own 80 false [.bool false,.slice none 0 0,.bool false,.slice none 0 0]):=(J.av bh).get_some (by simp)
 have a3:=(cn.1 cP).1
 simp[cP,List.getElem?_set_self a3,dr,bf,-getElem?_pos]
 refine aD _ _ ⟨(bO.av (J.av bh)).set (by omega) (by simp),?_⟩
 exact fK.set ⟨_,_,_,_,rfl,an.ext bh,jB⟩ cP (by simp[bN.elem?])
theorem Hm{v:Value}{n d:Int}{H:ad}(bE:fK H v n d)(aA:0<d):aX prog 79 [v] H (fun v H1=>Ext H H1/\v= .bool (decide (d=1))):=by
 refine aX.cc fun Q aD=>?_
 apply Z1 (by simp)
 obtain⟨s1,b3,c4,cx,s2,cM,c9,cN,rfl,bW,fh⟩:=bE.shape
 obtain⟨x,jn,l,he,ey,bd,an⟩:=fh
 simp at he
 obtain⟨rfl,rfl,rfl,rfl⟩:=he
 simp[Ju]
 refine br.b_ (fun h=>?_) (fun h=>?_)
 ·obtain⟨b,i,cap,X,all,he,aZ,ag,-,l_⟩:=ey.at (by omega)
  cases he
  have FH:=oe aZ [.own 80 false [.bool s1,.slice b3 c4 cx,.bool (decide (d<0)),.slice (some ⟨b,i,none⟩) l.length cN]]
  obtain⟨y,rfl⟩:=List.length_eq_one_iff.1 (show l.length=1 by omega)
  have aP:=l_ 0 (by simp)
  simp at aP
  simp[val]at an
  simp[oe aZ,ag,aP,bf,-getElem?_pos]
  refine aD _ _ ⟨Ext.more H (by simp),?_⟩
  congr 1
  simp
  omega
 ·simp[h,bf]
  refine aD _ _ ⟨Ext.more H (by simp),?_⟩
  have:d≠1:=fun e=>by
   subst e
   have o:=bd.length_le (n:=1) (by rw[an];decide)
   have:=bd.pos
   omega
  simp[this]
theorem acV{v:Value}{n d:Int}{H:ad}(bE:fK H v n d):aX prog 75 [v] H (fun v H1=>Ext H H1/\v= .int .i64 (if n<0 then-1 else if n=0 then 0 else 1)):=by
 refine aX.cc fun Q aD=>?_
 apply Z5 (by simp)
 obtain⟨s1,b3,c4,cx,s2,cM,c9,cN,rfl,bW,fh⟩:=bE.shape
 have bO:Ext H (H++[.own 80 false [.bool s1,.slice b3 c4 cx,.bool s2,.slice cM c9 cN]]):=Ext.more H (by simp)
 simp[Jw]
 refine aY.mk (QS (bW.ext bO)) ?_
 rintro v H1 ⟨J,rfl⟩
 simp[bf]
 exact aD _ _ ⟨bO.av J,rfl⟩
theorem HI{v:Value}{n d:Int}{H:ad}(bE:fK H v n d):aX prog 36 [v] H (fun v H1=>Ext H H1/\du H1 v n):=by
 refine aX.cc fun Q aD=>?_
 apply Z4 (by simp)
 obtain⟨s1,b3,c4,cx,s2,cM,c9,cN,rfl,bW,fh⟩:=bE.shape
 simp[Jv,dr,bf]
 have bO:Ext H (H++[.own 80 false [.bool s1,.slice b3 c4 cx,.bool s2,.slice cM c9 cN],.own 78 false [.bool s1,.slice b3 c4 cx]]):=Ext.more H (by simp)
 exact aD _ _ ⟨bO,bW.ext bO⟩
def rz(a b:Int):Int:=IntKind.u64.wrap ((BitVec.ofInt 64 a ||| BitVec.ofInt 64 b).toNat:Int)
@[simp high] theorem alQ(P:Program)(t:Nat)(a b:Int):ej P .or t (.int .u64 a) (.int .u64 b)=some (.int .u64 (rz a b)):=QO
theorem xd{r x:Nat}(al:r<4294967296)(J:x<4294967296):rz ((r*4294967296:Nat):Int) (x:Int)=((r*4294967296+x:Nat):Int):=by
 unfold rz
 have o:(BitVec.ofInt 64 ((r*4294967296:Nat):Int) ||| BitVec.ofInt 64 (x:Int)).toNat=r*4294967296+x:=by
  rw[BitVec.ofInt_natCast,BitVec.ofInt_natCast,BitVec.toNat_or,BitVec.toNat_ofNat,BitVec.toNat_ofNat,Nat.mod_eq_of_lt (by omega),Nat.mod_eq_of_lt (by omega)]
  have:=Nat.two_pow_add_eq_or_of_lt (i:=32) (b:=x) J r
  rw[Nat.mul_comm]at this
  exact this.symm
 rw[o]
 exact gI (by omega) (by omega)
@[simp high] theorem alV(P:Program)(t:Nat)(a:Int):ej P .shl t (.int .u64 a) (.int .u64 32)=some (.int .u64 (IntKind.u64.wrap (a*4294967296))):=by
 rw[ac9,if_neg (by decide)]
 rfl
theorem ve(l:List Nat)(i:Nat)(ab:i<l.length):val (l.drop i)=l[i]?.getD 0+4294967296*val (l.drop (i+1)):=by
 rw[List.drop_eq_getElem_cons ab,bs ab]
 rfl
theorem Lp{v:Value}{a:List Nat}{w:Nat}{H:ad}(bE:de H 124 v a)(iV:a.length<1048576)(rh:0<w)(hw:w<4294967296):
  aX prog 107 [v,.int .u32 w] H (fun aw H1=>Ext H H1/\∃q l,aw= .tuple #[q,.int .u32 (val a % w:Nat)]/\de H1 124 q l/\Trim l/\val l=val a/w):=by
 refine aX.cc fun Q aD=>?_
 apply Z9 (by simp)
 obtain⟨x,jn,rfl⟩:=bE.len
 have jh:IntKind.u64.wrap (w:Int)=(w:Int):=gI (by omega) (by omega)
 by_cases qQ:a.length=0
 ·have yN:a=[]:=List.eq_nil_of_length_eq_zero qQ
  subst yN
  simp only[Eh]
  rw[cS]
  simp[-cS]
  rw[cS]
  simp[-cS]
  refine DI (e:=124) (R:=1) (bI:=4) (e6:= .i64) (dc:= .i64) (by simp) (by simp) (by simp) (by simp) (by simp) ?_
  simp(disch:=omega)[b2]
  refine lQ.mk (ai:=fun n az H1=>H=H1/\az 8= .int .i64 (-1)/\az 6= .slice (some ⟨0,0,none⟩) 0 0/\az 7= .int .u64 0) 0 ⟨rfl,by simp,by simp,by simp⟩ ?_
  rintro n az H1 ⟨rfl,jR,gU,l1⟩ K a4
  simp[gU,l1,jR]
  refine aY.mk (mW (l:=[]) ⟨eA.void H _ _ _,by simp⟩ (by simp)) ?_
  rintro v H1 ⟨rfl,da,dR,bd,dC,-⟩
  simp[bf,l1,pI]
  refine aD _ _ ⟨Ext.refl _,v,da,by simp[val],dR,bd,by simpa[val]using dC⟩
 simp only[Eh]
 rw[cS]
 simp[-cS]
 rw[cS]
 simp(disch:=omega)[b2,-cS]
 refine Ar (e:=124) (R:=1) (bI:=4) (e6:= .i64) (dc:= .i64) (l:=a.length) (c:=a.length) (z:= .int .u32 0) (by simp) (by simp) (by simp) (by simp) (by rfl) (by rfl) (by simp) (by simp) (by omega) (by omega) (Nat.le_refl _) (by omega) (by omega) ?_
 simp[-cS,rv]
 rw[cS]
 simp[-cS]
 rw[cS]
 refine hv.cut (fun az H1=>az 6= .slice (some ⟨H.length,0,none⟩) a.length a.length/\∃(out:List Nat) (r:Nat),H1=H++[.own 124 false (out.map fun(x:Nat)=>Value.int .u32 (x:Int))]/\out.length=a.length/\(∀x∈out,x<4294967296)/\az 7= .int .u64 r/\r<w/\val a=val out*w+r) ?_ ?_
 ·intro K a4
  simp(disch:=omega)[b2]
  refine lQ.mk (ai:=fun n az H1=>n<=a.length/\az 0= .slice x a.length jn/\az 1= .int .u32 w/\az 8= .int .i64 ((n:Int)-1)/\az 6= .slice (some ⟨H.length,0,none⟩) a.length a.length/\∃(out:List Nat) (r:Nat),H1=H++[.own 124 false (out.map fun(x:Nat)=>Value.int .u32 (x:Int))]/\out.length=a.length/\(∀x∈out,x<4294967296)/\az 7= .int .u64 r/\r<w/\val (a.drop n)=val (out.drop n)*w+r) a.length ?_ ?_
  ·refine⟨Nat.le_refl _,by simp,by simp,by simp,by simp,List.replicate a.length 0,0,by simp,by simp,by simp,by simp,rh,?_⟩
   rw[List.drop_eq_nil_of_le (by simp),List.drop_eq_nil_of_le (by simp)]
   simp[val]
  ·rintro n az H1 ⟨aF,cP,cK,jR,gU,out,r,rfl,dT,jZ,l1,al,an⟩ er kh
   simp[jR]
   refine br.b_ (fun aK=>?_) (fun aK=>?_)
   ·obtain⟨gT,i1,x7,AW,AZ,kC,o0,l7,-,p5⟩:=bE.at (by omega)
    cases kC
    have bn:((n:Int)-1).toNat=n-1:=by omega
    obtain⟨p,sE⟩:∃p,a[n-1]?.getD 0=p:=⟨_,rfl⟩
    have h3:p<4294967296:=sE▸bE.lt _
    have kD:=p5 (n-1) (by omega)
    rw[sE]at kD
    obtain⟨s,ao⟩:∃s,r*4294967296=s:=⟨_,rfl⟩
    have iX:IntKind.u64.wrap ((r:Int)*4294967296)=(s:Int):=by
     rw[gI (by omega) (by omega)]
     omega
    have aN:=xd (r:=r) (by omega) h3
    rw[ao]at aN
    obtain⟨t,bG⟩:∃t,s+p=t:=⟨_,rfl⟩
    rw[bG]at aN
    obtain⟨q,aq⟩:∃q,t/w=q:=⟨_,rfl⟩
    obtain⟨m,hm⟩:∃m,t % w=m:=⟨_,rfl⟩
    have nS:=Nat.div_add_mod t w
    rw[aq,hm]at nS
    have eM:m<w:=hm▸Nat.mod_lt _ rh
    have q_:q<4294967296:=by
     rw[<-aq]
     refine(Nat.div_lt_iff_lt_mul rh).2 ?_
     have:(r+1)*4294967296<=w*4294967296:=Nat.mul_le_mul_right _ al
     rw[Nat.mul_comm 4294967296]
     omega
    have OE:(t:Int).tdiv w=(q:Int):=by rw[<-aq];rfl
    have wV:(t:Int).tmod w=(m:Int):=by rw[<-hm];rfl
    have Cs:IntKind.u64.wrap (q:Int)=(q:Int):=gI (by omega) (by omega)
    have On:IntKind.u32.wrap (q:Int)=(q:Int):=mZ (by omega) (by omega)
    have Gt:IntKind.u64.wrap (p:Int)=(p:Int):=gI (by omega) (by omega)
    have OS:¬(w=0):=by omega
    simp[cP,jR,l1,iX]
    refine dz.mk ⟨by omega,by omega⟩ ?_
    simp[cP,jR,l1,gU,cK,bn,oe o0,l7,kD,-getElem?_pos,Gt,iX,aN,jh,OE,wV,Cs,On,OS]
    refine dz.mk ⟨by omega,by omega⟩ ?_
    simp(disch:=omega)[cP,jR,l1,gU,cK,bn,oe o0,l7,kD,-getElem?_pos,Gt,iX,aN,jh,OE,wV,Cs,On,OS,b2]
    refine dz.mk (by omega) ?_
    simp(disch:=omega)[jR,b2]
    refine kh (n-1) _ _ (by omega) ⟨by omega,by simp[cP],by simp[cK],by simp;omega,by simp[gU],out.set (n-1) q,m,by simp[List.map_set],by simp[dT],?_,by simp,eM,?_⟩
    ·intro z aQ
     rcases List.mem_or_eq_of_mem_set aQ with aQ | rfl
     ·exact jZ z aQ
     ·exact q_
    ·rw[ve a (n-1) (by omega),ve (out.set (n-1) q) (n-1) (by simp;omega),sE,Nat.sub_add_cancel (by omega),an,List.drop_set_of_lt (by omega),List.getElem?_set_self (by omega)]
     simp only[Option.getD_some]
     have bQ:s+p=w*q+m:=by omega
     grind
   ·simp
    have:n=0:=by omega
    subst this
    exact a4 _ _ ⟨by simp[gU],out,r,rfl,dT,jZ,by simp[l1],al,by simpa using an⟩
 ·rintro az H1 ⟨gU,out,r,rfl,dT,jZ,l1,al,an⟩
  have ey:=de.fresh H 124 out a.length a.length (Nat.le_refl _) dT jZ false
  have fW:IntKind.u32.wrap (r:Int)=(r:Int):=mZ (by omega) (by omega)
  rw[cS]
  simp[gU,-cS]
  refine aY.mk (mW ey (by simp[dT];omega)) ?_
  rintro v H1 ⟨rfl,da,dR,bd,dC,-⟩
  simp[bf,l1,fW]
  rw[<-dT,List.take_length]at dC
  have o:val a/w=val out:=by rw[an,Nat.mul_comm,Nat.mul_add_div rh,Nat.div_eq_of_lt al,Nat.add_zero]
  have aa:val a % w=r:=by rw[an,Nat.mul_comm,Nat.mul_add_mod,Nat.mod_eq_of_lt al]
  exact aD _ _ ⟨(Ext.refl H).snoc _ _ _,v,da,by rw[aa],dR,bd,by rw[dC,o]⟩
theorem Y9{v bg ab:Int}{H:ad}:aX prog 39 [.int .i64 v,.int .i64 bg,.int .i64 ab] H (fun w H1=>H1=H/\w= .bool (decide (bg<=v/\v<=ab))):=by
 refine aX.cc fun Q aD=>?_
 apply aao (by simp)
 simp[JC]
 refine br.b_ (fun h=>?_) (fun h=>?_)
 ·simp[h,bf]
  exact aD _ _ ⟨rfl,by simp[h]⟩
 ·simp[h,bf]
  exact aD _ _ ⟨rfl,by simp[h]⟩
theorem agN{x:Int}{H:ad}:aX prog 64 [.int .i64 x] H (fun w H1=>H1=H/\w= .bool (decide (x<0\/1000<x))):=by
 refine aX.cc fun Q aD=>?_
 apply aaJ (by simp)
 simp[JH]
 refine br.b_ (fun h=>?_) (fun h=>?_)
 ·simp[h,bf]
  exact aD _ _ ⟨rfl,by simp[h]⟩
 ·simp[h,bf]
  exact aD _ _ ⟨rfl,by simp[h]⟩
def ll(H:ad)(v:Value)(l:List Int):Prop:=eA H 3 1 v l.length (l.map (Value.int .i64))
theorem ll.ext{H H1:ad}{v:Value}{l:List Int}(h:ll H v l)(J:Ext H H1):ll H1 v l:=eA.ext h J
theorem ll.at{H:ad}{v:Value}{l:List Int}(h:ll H v l)(aF:0<l.length):∃b i cap X all,v= .slice (some ⟨b,i,none⟩) l.length cap/\H[b]?=some X/\X.cells?=some all/\∀k,k<l.length->all[i+k]?=some (.int .i64 (l[k]?.getD 0)):=by
 obtain⟨b,i,cap,X,all,o,aa,aE,bA,bQ⟩:=eA.at h aF
 refine⟨b,i,cap,X,all,o,aa,aE,fun k ah=>?_⟩
 rw[bQ k (by omega),List.getElem?_map,bs ah]
 simp
theorem ll.len{H:ad}{v:Value}{l:List Int}(h:ll H v l):∃a cap,v= .slice a l.length cap:=eA.len h
theorem Ze{v:Value}{l:List Int}{H:ad}(ew:ll H v l)(au:l.length<4611686018427387904):
  aX prog 91 [v,.func (.func 64) #[] #[]] H (fun w H1=>H1=H/\∃n:Int,w= .int .i64 n/\(0<=n↔∃x∈l,x<0\/1000<x)):=by
 refine aX.cc fun Q aD=>?_
 apply aaP (by simp)
 obtain⟨a,cap,rfl⟩:=ew.len
 simp[JL]
 refine lQ.mk (ai:=fun n az H1=>∃i:Nat,n=l.length-i/\i<=l.length/\H=H1/\az 0= .slice a l.length cap/\az 1= .func (.func 64) #[] #[]/\az 7= .int .i64 l.length/\az 8= .int .i64 i/\∀x∈l.take i,¬(x<0\/1000<x)) l.length ?_ ?_
 ·exact⟨0,by omega,by omega,rfl,by simp,by simp,by simp,by simp,by simp⟩
 ·rintro n az H1 ⟨i,rfl,ab,rfl,cP,cK,l1,jR,dv⟩ K a4
  simp[l1,jR]
  refine br.b_ (fun a3=>?_) (fun a3=>?_)
  ·obtain⟨b,U,dM,X,all,he,aZ,ag,l_⟩:=ew.at (by omega)
   cases he
   simp[cP,cK,jR]
   refine dz.mk (by omega) ?_
   simp[cP,cK,jR,aZ,ag,l_ _ a3]
   refine aY.mk agN ?_
   rintro v H1 ⟨rfl,rfl⟩
   simp
   have hM:l[i]?.getD 0∈l:=by rw[bs a3];exact List.getElem_mem a3
   refine br.mk (fun hw=>?_) (fun hw=>?_)
   ·simp[bf]
    refine aD _ _ ⟨rfl,i,rfl,?_⟩
    simp at hw
    exact⟨fun _=>⟨_,hM,by omega⟩,fun _=>by omega⟩
   ·simp(disch:=omega)[jR,b2]
    refine a4 (l.length-(i+1)) _ _ (by omega) ⟨i+1,by omega,by omega,rfl,by simp[cP],by simp[cK],by simp[l1],by simp,?_⟩
    intro x J
    rw[List.take_succ_eq_append_getElem a3]at J
    rcases List.mem_append.1 J with J | J
    ·exact dv x J
    ·simp at J
     simp at hw
     rw[bs a3]at hw
     subst J
     simpa using hw
  ·simp[bf]
   have:i=l.length:=by omega
   subst this
   rw[List.take_length]at dv
   exact aD _ _ ⟨rfl,-1,rfl,by simp;intro x J;have:=dv x J;omega⟩
theorem S1{v:Value}{l:List Int}{H:ad}(ew:ll H v l)(au:l.length<4611686018427387904):
  aX prog 63 [v,.func (.func 64) #[] #[]] H (fun w H1=>H1=H/\w= .bool (decide (∃x∈l,x<0\/1000<x))):=by
 refine aX.cc fun Q aD=>?_
 apply aaM (by simp)
 simp[JJ]
 refine aY.mk (Ze ew au) ?_
 rintro v H1 ⟨rfl,n,rfl,aF⟩
 simp[bf]
 exact aD _ _ ⟨rfl,by simp[aF]⟩
def kS(H:ad)(v:Value)(t:List (List Int)):Prop:=∃aH:List Value,eA H 34 1 v t.length aH/\aH.length=t.length/\∀i,i<t.length->ll H (aH[i]?.getD undef) (t[i]?.getD [])
theorem kS.ext{H H1:ad}{v:Value}{t:List (List Int)}(h:kS H v t)(J:Ext H H1):kS H1 v t:=by
 obtain⟨aH,o,aa,aE⟩:=h
 exact⟨aH,o.ext J,aa,fun i ab=>(aE i ab).ext J⟩
theorem kS.len{H:ad}{v:Value}{t:List (List Int)}(h:kS H v t):∃a cap,v= .slice a t.length cap:=by
 obtain⟨aH,o,-⟩:=h
 exact o.len
theorem kS.at{H:ad}{v:Value}{t:List (List Int)}(h:kS H v t)(aF:0<t.length):∃b i cap X all,v= .slice (some ⟨b,i,none⟩) t.length cap/\H[b]?=some X/\X.cells?=some all/\∀k,k<t.length->∃a c,all[i+k]?=some (.slice a (t[k]?.getD []).length c)/\ll H (.slice a (t[k]?.getD []).length c) (t[k]?.getD []):=by
 obtain⟨aH,o,aa,aE⟩:=h
 obtain⟨b,i,cap,X,all,bn,bj,fT,lp,nO⟩:=o.at aF
 refine⟨b,i,cap,X,all,bn,bj,fT,fun k ah=>?_⟩
 have k6:=aE k ah
 obtain⟨a,c,an⟩:=k6.len
 refine⟨a,c,?_,an▸k6⟩
 rw[nO k (by omega),<-an,bs (by omega)]
 simp
def mz(n:Nat)(r:List Int):Bool:=decide (r.length≠n) || decide (∃x∈r,x<0\/1000<x)
theorem acU{v w:Value}{r:List Int}{t:List (List Int)}{H:ad}{cE:Nat}(bq:ll H w r)(bd:kS H v t)(bG:0<t.length)(wy:H[cE]?=some (.own 22 false [v]))(au:r.length<4611686018427387904):
  aX prog 62 [w,.pointer (some ⟨cE,0,none⟩)] H (fun u H1=>H1=H/\u= .bool (mz (t[0]?.getD []).length r)):=by
 refine aX.cc fun Q aD=>?_
 apply aaI (by simp)
 obtain⟨a,cap,rfl⟩:=bq.len
 obtain⟨b,i,dM,X,all,rfl,aZ,ag,l_⟩:=bd.at bG
 obtain⟨AX,jg,aG,-⟩:=l_ 0 bG
 simp[JG,wy,-getElem?_pos]
 refine dz.mk (by omega) ?_
 simp only[Nat.add_zero]at aG
 simp[wy,aZ,ag,aG,-getElem?_pos]
 refine br.b_ (fun h=>?_) (fun h=>?_)
 ·simp[h]
  refine aY.mk (S1 bq au) ?_
  rintro u H1 ⟨rfl,rfl⟩
  simp[bf]
  refine aD _ _ ⟨rfl,?_⟩
  simp[mz]
  intro c2
  exact absurd (by omega) c2
 ·simp[h,bf]
  refine aD _ _ ⟨rfl,?_⟩
  simp[mz]
  exact .inl (by omega)
theorem Zd{v:Value}{t:List (List Int)}{H:ad}{cE:Nat}(bd:kS H v t)(bG:0<t.length)(wy:H[cE]?=some (.own 22 false [v]))(au:t.length<4611686018427387904)(al:∀r∈t,r.length<4611686018427387904):
  aX prog 90 [v,.func (.func 62) #[] #[.pointer (some ⟨cE,0,none⟩)]] H (fun w H1=>H1=H/\∃n:Int,w= .int .i64 n/\(0<=n↔∃r∈t,mz (t[0]?.getD []).length r=true)):=by
 refine aX.cc fun Q aD=>?_
 apply aaO (by simp)
 obtain⟨b,U,cap,X,all,rfl,aZ,ag,l_⟩:=bd.at bG
 simp[JK]
 refine lQ.mk (ai:=fun n az H1=>∃i:Nat,n=t.length-i/\i<=t.length/\H=H1/\az 0= .slice (some ⟨b,U,none⟩) t.length cap/\az 1= .func (.func 62) #[] #[.pointer (some ⟨cE,0,none⟩)]/\az 7= .int .i64 t.length/\az 8= .int .i64 i/\∀r∈t.take i,¬(mz (t[0]?.getD []).length r=true)) t.length ?_ ?_
 ·exact⟨0,by omega,by omega,rfl,by simp,by simp,by simp,by simp,by simp⟩
 ·rintro n az H1 ⟨i,rfl,ab,rfl,cP,cK,l1,jR,dv⟩ K a4
  simp[l1,jR]
  refine br.b_ (fun a3=>?_) (fun a3=>?_)
  ·obtain⟨b3,cx,o,ew⟩:=l_ i a3
   simp[cP,cK,jR]
   refine dz.mk (by omega) ?_
   simp[cP,cK,jR,aZ,ag,o,-getElem?_pos]
   have hM:t[i]?.getD []∈t:=by rw[bs a3];exact List.getElem_mem a3
   refine aY.mk (acU ew bd bG wy (al _ hM)) ?_
   rintro v H1 ⟨rfl,rfl⟩
   simp
   refine br.mk (fun hw=>?_) (fun hw=>?_)
   ·simp[bf]
    exact aD _ _ ⟨rfl,i,rfl,fun _=>⟨_,hM,hw⟩,fun _=>by omega⟩
   ·simp(disch:=omega)[jR,b2]
    refine a4 (t.length-(i+1)) _ _ (by omega) ⟨i+1,by omega,by omega,rfl,by simp[cP],by simp[cK],by simp[l1],by simp,?_⟩
    intro x J
    rw[List.take_succ_eq_append_getElem a3]at J
    rcases List.mem_append.1 J with J | J
    ·exact dv x J
    ·simp at J
     rw[bs a3]at hw
     subst J
     simpa using hw
  ·simp[bf]
   have:i=t.length:=by omega
   subst this
   rw[List.take_length]at dv
   refine aD _ _ ⟨rfl,-1,rfl,?_⟩
   constructor
   ·intro h;omega
   ·rintro⟨r,o,aa⟩
    exact absurd aa (dv r o)
theorem S0{v:Value}{t:List (List Int)}{H:ad}{cE:Nat}(bd:kS H v t)(bG:0<t.length)(wy:H[cE]?=some (.own 22 false [v]))(au:t.length<4611686018427387904)(al:∀r∈t,r.length<4611686018427387904):
  aX prog 61 [v,.func (.func 62) #[] #[.pointer (some ⟨cE,0,none⟩)]] H (fun w H1=>H1=H/\w= .bool (decide (∃r∈t,mz (t[0]?.getD []).length r=true))):=by
 refine aX.cc fun Q aD=>?_
 apply aaL (by simp)
 simp[JI]
 refine aY.mk (Zd bd bG wy au al) ?_
 rintro v H1 ⟨rfl,n,rfl,aF⟩
 simp[bf]
 refine aD _ _ ⟨rfl,?_⟩
 congr 1
 exact decide_eq_decide.2 aF
def g2(t:List (List Int)):Prop:=1<=t.length/\t.length<=8/\1<=(t[0]?.getD []).length/\(t[0]?.getD []).length<=8/\∀r∈t,mz (t[0]?.getD []).length r=false
instance(t:List (List Int)):Decidable (g2 t):=by unfold g2;infer_instance
theorem DV{v:Value}{t:List (List Int)}{H:ad}(bd:kS H v t)(au:t.length<4611686018427387904)(al:∀r∈t,r.length<4611686018427387904):
  aX prog 31 [v] H (fun w H1=>Ext H H1/\w= .bool (decide (g2 t))):=by
 refine aX.cc fun Q aD=>?_
 apply aaH (by simp)
 obtain⟨a,cap,rfl⟩:=bd.len
 have J:Ext H (H++[.own 22 false [.slice a t.length cap]]):=Ext.more H (by simp)
 have no:¬g2 t->Q (.bool false) (H++[.own 22 false [.slice a t.length cap]]):=fun h=>aD _ _ ⟨J,by simp[h]⟩
 simp[JF]
 refine br.b_ (fun o=>?_) (fun o=>?_)
 ·simp[o,bf]
  exact no fun h=>by have:=h.1;omega
 ·obtain⟨b,i,dM,X,all,he,aZ,ag,l_⟩:=bd.at (by omega)
  cases he
  obtain⟨AX,jg,aG,-⟩:=l_ 0 (by omega)
  simp only[Nat.add_zero]at aG
  simp[o]
  refine br.b_ (fun aa=>?_) (fun aa=>?_)
  ·simp[o,aa,bf]
   exact no fun h=>by have:=h.2.1;omega
  ·simp[o,aa]
   refine dz.mk (by omega) ?_
   simp[o,aa,oe aZ,ag,aG,-getElem?_pos]
   refine br.b_ (fun aE=>?_) (fun aE=>?_)
   ·simp[aE,bf]
    exact no fun h=>by have:=h.2.2.1;omega
   ·simp[aE]
    refine dz.mk (by omega) ?_
    simp[aE,oe aZ,ag,aG,-getElem?_pos]
    refine br.b_ (fun bA=>?_) (fun bA=>?_)
    ·simp[bA,bf]
     exact no fun h=>by have:=h.2.2.2.1;omega
    ·simp[bA]
     refine aY.mk (S0 (cE:=H.length) (bd.ext J) (by omega) (by simp) au al) ?_
     rintro u H1 ⟨rfl,rfl⟩
     simp[bf]
     refine aD _ _ ⟨J,?_⟩
     have:g2 t↔¬(∃r∈t,mz (t[0]?.getD []).length r=true):=by
      constructor
      ·rintro⟨-,-,-,-,h⟩ ⟨r,aU,aO⟩
       rw[h r aU]at aO
       cases aO
      ·intro h
       refine⟨by omega,by omega,by omega,by omega,fun r q=>?_⟩
       cases af:mz (t[0]?.getD []).length r with
       | false=>rfl
       | true=>exact absurd ⟨r,q,af⟩ h
     have e:decide (g2 t)= !decide (∃r∈t,mz (t[0]?.getD []).length r=true):=by
      rw[<-decide_not]
      exact decide_eq_decide.2 this
     rw[e]
end Go.cl
end
section
set_option maxRecDepth 8000
namespace Go.cl
theorem du.kept{H aI:ad}{e:Nat}{s v:Value}{z:Int}(h:du H v z)(ah:Kept H aI s e)(c2:124≠e):du aI v z:=by
 obtain⟨a,c,l,o,aa,aE⟩:=h
 exact⟨a,c,l,o,⟨aa.1.kept ah c2,aa.2⟩,aE⟩
theorem fK.kept{H aI:ad}{e:Nat}{s v:Value}{n d:Int}(h:fK H v n d)(ah:Kept H aI s e)(c2:124≠e):fK aI v n d:=by
 obtain⟨hU,mh,gT,ji,o,aa,aE⟩:=h
 exact⟨hU,mh,gT,ji,o,aa.kept ah c2,aE.kept ah c2⟩
end Go.cl
end
section
set_option maxRecDepth 8000
namespace Go.cl
open Go.Proofs
open Go.Proofs.Tryz (prog)
end Go.cl
end
section
set_option maxRecDepth 8000
namespace Go.cl
open Go.Proofs
open Go.Proofs.Tryz (prog)
attribute [-simp] gk hq
def gE(H:ad)(v:Value)(n:Nat):Prop:=v= .int .u32 (n:Int)/\n<4294967296
instance:bM gE:=⟨fun h _=>h⟩
theorem de.row{H:ad}{e:Nat}{v:Value}{l:List Nat}(h:de H e v l):Row e 1 false gE H v l:=⟨_,h.1,fun i x ab=>⟨by simp[eI,List.getElem?_map,ab],h.2 x (List.mem_of_getElem? ab)⟩⟩
theorem RE{cs:List Value}{l:List Nat}(au:cs.length=l.length*1)(h:∀H i x,l[i]?=some x->gE H (eI false 1 cs i) x):cs=l.map fun(n:Nat)=>Value.int .u32 (n:Int):=by
 apply List.ext_getElem?
 intro i
 rw[List.getElem?_map]
 by_cases ab:i<l.length
 ·have:=(h [] i _ (bs ab)).1
  simp only[eI,Bool.false_eq_true,if_false]at this
  rw[bs ab]
  rw[bs (by omega)]at this⊢
  simpa using this
 ·rw[List.getElem?_eq_none (by omega),List.getElem?_eq_none (by omega)];rfl
theorem Row.us{H:ad}{e:Nat}{v:Value}{l:List Nat}(h:Row e 1 false gE H v l):de H e v l:=by
 obtain⟨cs,o,aa⟩:=h
 obtain⟨a,cap,an,aE,bA,bQ⟩:=o
 have:=RE bA (fun _ i x ab=>aa i x ab)
 subst this
 exact⟨⟨a,cap,an,aE,bA,bQ⟩,fun x J=>by obtain⟨i,ab⟩:=List.getElem?_of_mem J;exact(aa i x ab).2⟩
theorem IW:Whole prog 124 (.int .u32 0):=⟨by kernel_rfl,by kernel_rfl,by rw[if_neg (by decide)];exact⟨by kernel_rfl,rfl⟩⟩
theorem AB(n:Int):Whole prog 124 (.int .u32 n):=⟨by kernel_rfl,rfl,by rw[if_neg (by simp[e7])];exact⟨by kernel_rfl,rfl⟩⟩
def HH(a b:Int):Int:=IntKind.u32.wrap ((BitVec.ofInt 32 a ||| BitVec.ofInt 32 b).toNat:Int)
@[simp high] theorem alP(P:Program)(t:Nat)(a b:Int):ej P .or t (.int .u32 a) (.int .u32 b)=some (.int .u32 (HH a b)):=QO
theorem RH{v:Value}{x:List Nat}{n:Nat}{H:ad}(aZ:de H 124 v x)(au:x.length<1048576)(aF:n<32):
  aX prog 124 [v,.int .i64 n] H (fun aw H1=>Ext H H1/\∃out,bB H.length 124 1 false gE H1 aw out/\out.length=x.length+1/\val out=val x*2^n):=by
 refine aX.cc fun Q aD=>?_
 apply aak (by simp)
 simp[Ku]
 refine cD (by simpa using aZ.row) (by simp) ?_
 simp(disch:=omega)[b2]
 refine tf (e:=124) (R:=1) (bI:=4) (n:=x.length+1) (ay:=false) (z:= .int .u32 0) (ae:=gE) (a:=0) (e6:= .i64) (dc:= .i64) (by simp) (by simp) (by simp) (by simp) (by rfl) (by simp) IW (by simp) (by simp) (by omega) (by omega) (by omega) (fun aI=>⟨rfl,by decide⟩) ?_
 rintro U H1 cR bp-
 simp
 refine cD (by simpa using(aZ.ext bp).row) (by simp) ?_
 simp
 refine c6.range (by kernel_rfl) x.length (by omega) (by simp) (by rfl) (by simp) (by decide) (by decide) (fun i bU dd aT=>Ext H aT/\∃out:List Nat,bB H.length 124 1 false gE aT U out/\out.length=x.length+1/\val (out.take (i+1))=val (x.take i)*2^n/\out[i]?.getD 0<2^n/\∀j,i<j->out[j]?.getD 0=0) ?_ ?_ ?_
 ·exact⟨bp,List.replicate (x.length+1) 0,cR,by simp,by simp[List.take_replicate,IL,val],by simp[Nat.pow_pos],fun j aN=>by rw[List.getElem?_replicate];split<;>rfl⟩
 ·rintro i bU dd aT ab a7 ⟨bh,out,fU,dT,hk,a3,aQ⟩ K a4
  simp at a7
  simp[a7]
  refine cF (ae:=gE) (n:=i) (by simpa using(aZ.ext bh).row) (by simp[a7]) (bs ab) (by simp) (by simp) (by simp) (.inr rfl) ?_
  rintro p u ⟨rfl,hu⟩
  obtain⟨y,aP⟩:∃y,x[i]=y:=⟨_,rfl⟩
  rw[aP]at hu
  have zM:x[i]?.getD 0=y:=by rw[bs ab,aP];rfl
  have ajX:2^n<=2^31:=Nat.pow_le_pow_right (by decide) (by omega)
  obtain⟨t,bG⟩:∃t,y*2^n=t:=⟨_,rfl⟩
  have pf:t<4294967296*2^n:=by rw[<-bG];exact Nat.mul_lt_mul_of_pos_right hu (Nat.pow_pos (by decide))
  have GJ:(y:Int)*2^n=(t:Int):=by rw[<-bG];push_cast;rfl
  have iX:IntKind.u64.wrap ((y:Int)*2^n)=(t:Int):=by rw[GJ,gI (by omega) (by omega)]
  have sP:IntKind.u64.wrap (y:Int)=(y:Int):=gI (by omega) (by omega)
  have Gk:min n 64=n:=by omega
  have jz:¬((n:Int)<0):=by omega
  simp[aP,sP,Gk,jz,iX,a7]
  refine cF (ae:=gE) (n:=i) (by simpa using fU.row) (by simp) (bs (show i<out.length by omega)) (by simp) (by simp) (by simp) (.inr rfl) ?_
  rintro gZ mr ⟨rfl,pj⟩
  have db:out[i]?.getD 0=out[i]:=by rw[bs (by omega)];rfl
  rw[db]at a3
  generalize out[i]'(by omega)=h at*
  obtain⟨fQ,Yi⟩:∃fQ,t % 4294967296=fQ:=⟨_,rfl⟩
  obtain⟨nD,ak3⟩:∃nD,t/4294967296=nD:=⟨_,rfl⟩
  obtain⟨s,ao⟩:∃s,h+fQ=s:=⟨_,rfl⟩
  have Yh:IntKind.u32.wrap (t:Int)=(fQ:Int):=by rw[pI];omega
  have hmul:fQ=2^n*(fQ/2^n):=by
   have o:2^n∣fQ:=by
    have:(4294967296:Nat)=2^n*2^(32-n):=by rw[<-Nat.pow_add];rw[show n+(32-n)=32 by omega]
    rw[<-Yi,<-bG,this,Nat.mul_comm y,Nat.mul_mod_mul_left]
    exact Nat.dvd_mul_right _ _
   exact(Nat.mul_div_cancel' o).symm
  have wS:s<4294967296:=by
   have this:(4294967296:Nat)=2^n*2^(32-n):=by rw[<-Nat.pow_add];rw[show n+(32-n)=32 by omega]
   have aq:fQ/2^n<2^(32-n):=by
    refine(Nat.div_lt_iff_lt_mul (Nat.pow_pos (by decide))).2 ?_
    rw[Nat.mul_comm (2^(32-n)),<-this]
    omega
   have pd:2^n*(fQ/2^n+1)<=2^n*2^(32-n):=Nat.mul_le_mul_left _ aq
   rw[Nat.mul_add,Nat.mul_one,<-hmul,<-this]at pd
   omega
  have Cj:HH (h:Int) (fQ:Int)=(s:Int):=by
   unfold HH
   rw[BitVec.ofInt_natCast,BitVec.ofInt_natCast,BitVec.toNat_or,BitVec.toNat_ofNat,BitVec.toNat_ofNat,Nat.mod_eq_of_lt (show h<2^32 by omega),Nat.mod_eq_of_lt (by omega)]
   have aa:=Nat.two_pow_add_eq_or_of_lt (i:=n) (b:=h) a3 (fQ/2^n)
   rw[<-hmul]at aa
   rw[Nat.or_comm,<-aa,mZ (by omega) (by omega)]
   omega
  simp[Yh,Cj]
  refine ja (ae:=gE) (n:=i) (a:=s) (by simpa using fU) (by simp) (by omega) ⟨by simp,wS⟩ (by simpa using AB _) (by simp) (fun _ _ _ _ _ h=>h) (by simp) (by simp) (by simp) (by decide) ?_
  rintro fP bS iD bO- - -
  simp at iD
  have zI:=bO H (Nat.le_refl _) bh
  have jX:IntKind.i64.wrap ((i:Int)+1)=((i+1:Nat):Int):=by rw[b2 (by omega) (by omega)];simp
  have zq:IntKind.u32.wrap ((t:Int).fdiv 4294967296)=(nD:Int):=by
   rw[nP _ (by decide),mZ (by omega) (by omega)]
   omega
  simp[a7,jX,zq]
  have OF:nD<2^n:=by omega
  refine ja (ae:=gE) (n:=i+1) (a:=nD) (by simpa using iD) (by simp) (by simp;omega) ⟨by simp,by omega⟩ (by simpa using AB _) (by simp) (fun _ _ _ _ _ h=>h) (by simp) (by simp) (by simp) (by decide) ?_
  rintro ho bT g8 b8- - -
  simp at g8
  simp
  refine a4 _ _ _ (by simp[a7]) ⟨b8 H (Nat.le_refl _) zI,_,by simpa using g8,by simp[dT],?_,?_,?_⟩
  ·rw[List.take_succ_eq_append_getElem (by simp;omega),List.take_set_of_le (by omega),List.getElem_set_self,ou,tj _ _ _ (by omega)]
   rw[jK,db]at hk
   rw[jK,zM]
   simp[val,Nat.min_eq_left (show i+1<=out.length by omega)]
   rw[Nat.add_mul,<-hk,Nat.mul_assoc,bG,Nat.pow_succ,<-ao]
   have:t=fQ+4294967296*nD:=by omega
   rw[this]
   grind
  ·rw[List.getElem?_set_self (by simp;omega)];exact OF
  ·intro j aN
   rw[List.getElem?_set_ne (by omega),List.getElem?_set_ne (by omega)]
   exact aQ j (by omega)
 ·rintro bU dd aT a7 ⟨bh,out,fU,dT,hk,-,-⟩
  simp[bf]
  refine aD _ _ ⟨bh,out,fU,dT,?_⟩
  rw[List.take_of_length_le (by omega),List.take_length]at hk
  exact hk
theorem RJ{N:Nat}:∀(l:List Nat) (m:Nat),(∀i,i<l.length->l[i]?.getD 0=N/4294967296^(m+i) % 4294967296)->N/4294967296^m<4294967296^l.length->val l=N/4294967296^m
 | [],m,h,bW=>by simp only[List.length_nil,Nat.pow_zero,Nat.lt_one_iff]at bW;rw[bW];rfl
 | x::l,m,h,bW=>by
  have aG:=h 0 (by simp)
  simp at aG
  have aA:N/4294967296^(m+1)=N/4294967296^m/4294967296:=by rw[Nat.pow_succ,Nat.div_div_eq_div_mul]
  have a2:=RJ l (m+1) (fun i ab=>by have:=h (i+1) (by simpa using ab);simp at this;rw[this,Nat.add_assoc,Nat.add_comm 1 i]) (by
   rw[aA]
   simp only[List.length_cons,Nat.pow_succ]at bW
   exact(Nat.div_lt_iff_lt_mul (by decide)).2 bW)
  simp only[val]
  rw[a2,aA]
  omega
theorem RL(x:List Nat)(J:∀y∈x,y<4294967296):∀i,val x/4294967296^i=val (x.drop i)
 | 0=>by simp
 | i+1=>by
  rw[Nat.pow_succ,<-Nat.div_div_eq_div_mul,RL x J i]
  by_cases ab:i<x.length
  ·rw[ve _ _ ab]
   have:x[i]?.getD 0<4294967296:=by rw[bs ab];exact J _ (List.getElem_mem ab)
   omega
  ·rw[List.drop_eq_nil_of_le (by omega),List.drop_eq_nil_of_le (by omega)]
   simp[val]
theorem adq(x:List Nat)(J:∀y∈x,y<4294967296)(i n:Nat)(aF:n<32):val x/2^n/4294967296^i % 4294967296=(x[i]?.getD 0+4294967296*(x[i+1]?.getD 0))/2^n % 4294967296:=by
 rw[Nat.div_div_eq_div_mul,Nat.mul_comm,<-Nat.div_div_eq_div_mul,RL x J i]
 have e:(4294967296:Nat)=2^n*2^(32-n):=by rw[<-Nat.pow_add];rw[show n+(32-n)=32 by omega]
 have an:val (x.drop i)=x[i]?.getD 0+4294967296*(x[i+1]?.getD 0)+2^n*(4294967296*(2^(32-n)*val (x.drop (i+2)))):=by
  have aa:val (x.drop i)=x[i]?.getD 0+4294967296*(x[i+1]?.getD 0+4294967296*val (x.drop (i+2))):=by
   by_cases ab:i<x.length
   ·rw[ve _ _ ab]
    by_cases iU:i+1<x.length
    ·rw[ve _ _ iU]
    ·rw[List.drop_eq_nil_of_le (show x.length<=i+1 by omega),List.drop_eq_nil_of_le (by omega),List.getElem?_eq_none (l:=x) (i:=i+1) (by omega)];simp[val]
   ·rw[List.drop_eq_nil_of_le (by omega),List.drop_eq_nil_of_le (by omega),List.getElem?_eq_none (by omega),List.getElem?_eq_none (by omega)];simp[val]
  rw[aa,Nat.mul_left_comm (2^n),<-Nat.mul_assoc (2^n),<-e]
  omega
 rw[an,Nat.add_mul_div_left _ _ (Nat.pow_pos (by decide)),Nat.add_mul_mod_self_left]
theorem TM{v:Value}{x:List Nat}{n:Nat}{H:ad}(aZ:de H 124 v x)(au:x.length<1048576)(aF:n<32):
  aX prog 126 [v,.int .i64 n] H (fun aw H1=>Ext H H1/\∃l,de H1 124 aw l/\Trim l/\val l=val x/2^n):=by
 refine aX.cc fun Q aD=>?_
 apply aab (by simp)
 simp[Kq]
 refine cD (by simpa using aZ.row) (by simp) ?_
 refine tf (e:=124) (R:=1) (bI:=4) (n:=x.length) (ay:=false) (z:= .int .u32 0) (ae:=gE) (a:=0) (e6:= .i64) (dc:= .i64) (by simp) (by simp) (by simp) (by simp) (by rfl) (by simp) IW (by simp) (by simp) (by omega) (by omega) (by omega) (fun aI=>⟨rfl,by decide⟩) ?_
 rintro U H1 cR bp-
 simp
 refine cD (by simpa using(aZ.ext bp).row) (by simp) ?_
 simp
 refine c6.range (by kernel_rfl) x.length (by omega) (by simp) (by rfl) (by simp) (by decide) (by decide) (fun i bU dd aT=>Ext H aT/\∃out:List Nat,bB H.length 124 1 false gE aT U out/\out.length=x.length/\∀j,j<i->out[j]?.getD 0=val x/2^n/4294967296^j % 4294967296) ?_ ?_ ?_
 ·exact⟨bp,List.replicate x.length 0,cR,by simp,fun j aN=>by omega⟩
 ·rintro i bU dd aT ab a7 ⟨bh,out,fU,dT,hk⟩ K a4
  simp at a7
  simp[a7]
  refine cF (ae:=gE) (n:=i) (by simpa using(aZ.ext bh).row) (by simp[a7]) (bs ab) (by simp) (by simp) (by simp) (.inr rfl) ?_
  rintro p u ⟨rfl,hu⟩
  obtain⟨y,aP⟩:∃y,x[i]=y:=⟨_,rfl⟩
  rw[aP]at hu
  have zM:x[i]?.getD 0=y:=by rw[bs ab,aP];rfl
  have sP:IntKind.u64.wrap (y:Int)=(y:Int):=gI (by omega) (by omega)
  have jX:IntKind.i64.wrap ((i:Int)+1)=((i+1:Nat):Int):=by rw[b2 (by omega) (by omega)];simp
  simp[aP,sP,jX]
  obtain⟨z,aQ⟩:∃z,x[i+1]?.getD 0=z:=⟨_,rfl⟩
  have rl:z<4294967296:=aQ▸aZ.lt _
  refine bV.join (by kernel_rfl) (fun di ev bS=>bS=aT/\∃t:Nat,di 7= .int .u64 t/\t=y+4294967296*z) ?_ ?_
  ·rintro er h1-
   simp[jX]
   refine cD (by simpa using(aZ.ext bh).row) (by simp) ?_
   simp
   refine br.b_ (fun a3=>?_) (fun a3=>?_)
   ·simp[jX]
    have iU:i+1<x.length:=by omega
    refine cF (ae:=gE) (n:=i+1) (by simpa using(aZ.ext bh).row) (by simp) (bs iU) (by simp) (by simp) (by simp) (.inr rfl) ?_
    rintro p u ⟨rfl,lD⟩
    have uO:x[i+1]=z:=by rw[bs iU]at aQ;exact aQ
    have Y5:IntKind.u64.wrap (z:Int)=(z:Int):=gI (by omega) (by omega)
    obtain⟨s,ao⟩:∃s,z*4294967296=s:=⟨_,rfl⟩
    have dt:IntKind.u64.wrap ((z:Int)*4294967296)=(s:Int):=by rw[gI (by omega) (by omega)];omega
    have aN:=xd (r:=z) rl hu
    rw[ao]at aN
    have mK:rz (y:Int) (s:Int)=((s+y:Nat):Int):=by
     rw[<-aN];unfold rz;congr 2;rw[BitVec.or_comm]
    obtain⟨t,bG⟩:∃t,s+y=t:=⟨_,rfl⟩
    rw[bG]at mK
    simp[uO,Y5,dt,mK]
    exact h1 _ _ _ ⟨rfl,t,by simp,by omega⟩
   ·have uP:z=0:=by rw[<-aQ,List.getElem?_eq_none (by omega)];rfl
    exact h1 _ _ _ ⟨rfl,y,by simp,by omega⟩
  ·rintro di ev bS ⟨rfl,t,cf,bG⟩
   simp at cf
   have Ge:=adq x aZ.2 i n aF
   rw[zM,aQ]at Ge
   rw[<-bG]at Ge
   obtain⟨w,hw⟩:∃w,t/2^n % 4294967296=w:=⟨_,rfl⟩
   have Gk:min n 64=n:=by omega
   have jz:¬((n:Int)<0):=by omega
   have Yf:IntKind.u32.wrap ((t:Int).fdiv (2^n))=(w:Int):=by
    rw[nP _ (by exact_mod_cast Nat.zero_le _),pI,<-hw]
    rw[Int.natCast_emod,Int.natCast_ediv,Int.natCast_pow]
    rfl
   simp[cf,Gk,jz,Yf]
   refine ja (ae:=gE) (n:=i) (a:=w) (by simpa using fU) (by simp) (by omega) ⟨by simp,by omega⟩ (by simpa using AB _) (by simp) (fun _ _ _ _ _ h=>h) (by simp) (by simp) (by simp) (by decide) ?_
   rintro fP bT iD bO- - -
   simp at iD
   simp
   refine a4 _ _ _ (by simp[a7]) ⟨bO H (Nat.le_refl _) bh,_,by simpa using iD,by simp[dT],fun j aN=>?_⟩
   by_cases fA:j=i
   ·subst fA
    rw[List.getElem?_set_self (by omega),Ge,hw]
    rfl
   ·rw[List.getElem?_set_ne (Ne.symm fA)]
    exact hk j (by omega)
 ·rintro bU dd aT a7 ⟨bh,out,fU,dT,hk⟩
  simp
  have ey:de aT 124 U out:=fU.row.us
  refine aY.mk (mW ey (by omega)) ?_
  rintro v bS ⟨rfl,l,gA,im,nn,-⟩
  simp[bf]
  refine aD _ _ ⟨bh,l,gA,im,?_⟩
  have:=RJ out 0 (fun j aN=>by rw[hk j (by omega),Nat.zero_add]) (by
   rw[Nat.pow_zero,Nat.div_one,dT]
   exact Nat.lt_of_le_of_lt (Nat.div_le_self _ _) (kQ aZ.2))
  rw[nn,this,Nat.pow_zero,Nat.div_one]
end Go.cl
end
section
set_option maxRecDepth 8000
namespace Go.cl
section
variable {E ul f_ top hs aH cG:Nat}
theorem Ux(jA:ul<E)(zv:f_<4294967296)(rf:0<cG):(ul+E*(f_+4294967296*top))/(hs+E*(aH+4294967296*cG))<=top/cG:=by
 have b5:0<E:=by omega
 rw[Nat.le_div_iff_mul_le rf]
 generalize aq:(ul+E*(f_+4294967296*top))/(hs+E*(aH+4294967296*cG))=q
 have o:q*(hs+E*(aH+4294967296*cG))<=ul+E*(f_+4294967296*top):=by rw[<-aq];exact Nat.div_mul_le_self _ _
 have aa:E*(4294967296*(q*cG))<=q*(hs+E*(aH+4294967296*cG)):=by
  have:q*(hs+E*(aH+4294967296*cG))=q*hs+q*E*aH+E*(4294967296*(q*cG)):=by grind
  omega
 have aE:ul+E*(f_+4294967296*top)<E*(4294967296*(top+1)):=by
  have:E*(f_+1)<=E*4294967296:=Nat.mul_le_mul_left _ zv
  grind
 have bA:E*(4294967296*(q*cG))<E*(4294967296*(top+1)):=by omega
 have bQ:=Nat.lt_of_mul_lt_mul_left bA
 omega
theorem Uz{g r:Nat}(jA:ul<E)(bG:g*cG+r=top)(h:r*4294967296+f_<g*aH):(ul+E*(f_+4294967296*top))/(hs+E*(aH+4294967296*cG))<g:=by
 have b5:0<E:=by omega
 have a1:0<g:=by
  rcases Nat.eq_zero_or_pos g with q | q
  ·subst q;simp at h
  ·exact q
 have an:0<aH:=by
  rcases Nat.eq_zero_or_pos aH with q | q
  ·subst q;simp at h
  ·exact q
 have oY:0<hs+E*(aH+4294967296*cG):=by
  have:=Nat.mul_pos b5 an
  have:E*aH<=E*(aH+4294967296*cG):=Nat.mul_le_mul_left _ (by omega)
  omega
 rw[Nat.div_lt_iff_lt_mul oY]
 have o:f_+4294967296*top+1<=g*(aH+4294967296*cG):=by
  rw[<-bG]
  have:g*(aH+4294967296*cG)=g*aH+4294967296*(g*cG):=by grind
  omega
 have aa:E*(f_+4294967296*top+1)<=E*(g*(aH+4294967296*cG)):=Nat.mul_le_mul_left _ o
 have aE:g*(hs+E*(aH+4294967296*cG))=g*hs+E*(g*(aH+4294967296*cG)):=by grind
 have bA:E*(f_+4294967296*top+1)=E*(f_+4294967296*top)+E:=by rw[Nat.mul_add,Nat.mul_one]
 omega
theorem Uy{g r:Nat}(uJ:hs<E)(rf:0<cG)(a1:g<4294967296)(bG:g*cG+r=top)(h:g*aH<=r*4294967296+f_):g<=(ul+E*(f_+4294967296*top))/(hs+E*(aH+4294967296*cG))+1:=by
 have b5:0<E:=by omega
 rcases Nat.eq_zero_or_pos g with q | q
 ·rw[q];exact Nat.zero_le _
 have oY:0<hs+E*(aH+4294967296*cG):=by
  have:0<E*(aH+4294967296*cG):=Nat.mul_pos b5 (by omega)
  omega
 have aG:g-1<=(ul+E*(f_+4294967296*top))/(hs+E*(aH+4294967296*cG)):=by
  rw[Nat.le_div_iff_mul_le oY]
  have o:g*(aH+4294967296*cG)<=f_+4294967296*top:=by
   rw[<-bG]
   have:g*(aH+4294967296*cG)=g*aH+4294967296*(g*cG):=by grind
   omega
  have aa:E*(g*(aH+4294967296*cG))<=E*(f_+4294967296*top):=Nat.mul_le_mul_left _ o
  have aE:g*(hs+E*(aH+4294967296*cG))=g*hs+E*(g*(aH+4294967296*cG)):=by grind
  have bA:g*hs<=g*E:=Nat.mul_le_mul_left _ (by omega)
  have bQ:g*E<=4294967296*E:=Nat.mul_le_mul_right _ (by omega)
  have dY:E*4294967296<=E*(aH+4294967296*cG):=Nat.mul_le_mul_left _ (by omega)
  have cf:(g-1)*(hs+E*(aH+4294967296*cG))+(hs+E*(aH+4294967296*cG))=g*(hs+E*(aH+4294967296*cG)):=by
   rw[<-Nat.succ_mul];congr 1;omega
  rw[Nat.mul_comm E 4294967296]at dY
  omega
 exact Nat.sub_le_iff_le_add.1 aG
theorem Uw{g r:Nat}(uJ:hs<E)(kI:aH<4294967296)(rf:0<cG)(a1:g<4294967296)(bG:g*cG+r=top)(al:4294967296<=r):g<=(ul+E*(f_+4294967296*top))/(hs+E*(aH+4294967296*cG)):=by
 have b5:0<E:=by omega
 have oY:0<hs+E*(aH+4294967296*cG):=by
  have:0<E*(aH+4294967296*cG):=Nat.mul_pos b5 (by omega)
  omega
 rw[Nat.le_div_iff_mul_le oY]
 have o:hs+E*(aH+4294967296*cG)<=E*(4294967296*(cG+1)):=by
  have:E*(aH+1)<=E*4294967296:=Nat.mul_le_mul_left _ kI
  grind
 have aa:g*(hs+E*(aH+4294967296*cG))<=g*(E*(4294967296*(cG+1))):=Nat.mul_le_mul_left _ o
 have aE:g*(E*(4294967296*(cG+1)))=E*(4294967296*(g*cG+g)):=by grind
 have bA:E*(4294967296*(g*cG+g))<=E*(4294967296*top):=Nat.mul_le_mul_left _ (Nat.mul_le_mul_left _ (by omega))
 have bQ:E*(4294967296*top)<=E*(f_+4294967296*top):=Nat.mul_le_mul_left _ (by omega)
 omega
end
theorem agB(l:List Nat)(n:Nat)(au:l.length=n+1)(aF:2<=n):val l=val (l.take (n-2))+4294967296^(n-2)*(l[n-2]?.getD 0+4294967296*(l[n-1]?.getD 0+4294967296*(l[n]?.getD 0))):=by
 have hV:l.take (n+1)=l:=by rw[<-au,List.take_length]
 have o:=jK l n
 have aa:=jK l (n-1)
 have aE:=jK l (n-2)
 rw[show n-1+1=n by omega]at aa
 rw[show n-2+1=n-1 by omega]at aE
 rw[hV]at o
 rw[o,aa,aE]
 have dh:(4294967296:Nat)^(n-1)=4294967296^(n-2)*4294967296:=by rw[<-Nat.pow_succ];congr 1;omega
 have gZ:(4294967296:Nat)^n=4294967296^(n-2)*4294967296*4294967296:=by rw[<-Nat.pow_succ,<-Nat.pow_succ];congr 1;omega
 rw[dh,gZ]
 generalize (4294967296:Nat)^(n-2)=E
 grind
theorem agA(l:List Nat)(n:Nat)(au:l.length=n)(aF:2<=n):val l=val (l.take (n-2))+4294967296^(n-2)*(l[n-2]?.getD 0+4294967296*(l[n-1]?.getD 0)):=by
 have hV:l.take n=l:=by rw[<-au,List.take_length]
 have aa:=jK l (n-1)
 have aE:=jK l (n-2)
 rw[show n-1+1=n by omega,hV]at aa
 rw[show n-2+1=n-1 by omega]at aE
 rw[aa,aE]
 have dh:(4294967296:Nat)^(n-1)=4294967296^(n-2)*4294967296:=by rw[<-Nat.pow_succ];congr 1;omega
 rw[dh]
 generalize (4294967296:Nat)^(n-2)=E
 grind
def gl(l:List Nat):List Value:=l.map fun(n:Nat)=>Value.int .u32 (n:Int)
section
variable {P:Program} {r:List bJ} {F:Fr} {H:ad} {Q:Fr->ad->Prop}
theorem u7{d t d2 e n b U cap:Nat}{l:Bool}{x i:Operand}{pre post:List Value}{us:List Nat}{ax:bc (bb d t x i::aB d2 e (T d)::r) Q}(aZ:H[b]?=some (.own e l (pre++(gl us++post))))(aW:pre.length=U)(J:ar F x= .slice (some ⟨b,U,none⟩) us.length cap)(ab:ar F i= .int .i64 (n:Int))(aF:n<us.length)
  (bG:e1 P t=some e)(ao:bu P e=some 1)(eE:dk P e=some false)(K:∀p,ba P r Q .mk (a5 (a5 F d p) d2 (.int .u32 ((us[n]?.getD 0:Nat):Int))) H):ba P (bb d t x i::aB d2 e (T d)::r) Q ax F H:=by
 rw[gk,J,ab,oG,m5,bG,eG,ao,eG,oE]
 refine dz.mk ⟨by omega,by omega⟩ ?_
 rw[te]
 simp only[ke,hG,lo,aZ,Option.bind_some,bN.cells?,eG,eE,Int.toNat_natCast,rP]
 have:(pre++(gl us++post))[U+n*1]?=some (.int .u32 ((us[n]?.getD 0:Nat):Int)):=by
  unfold gl
  rw[List.getElem?_append_right (by omega),List.getElem?_append_left (by simp;omega),List.getElem?_map]
  rw[show U+n*1-pre.length=n by omega,bs aF]
  rfl
 rw[this,eG]
 exact K _
theorem aed{j d t d2 e n b U cap:Nat}{w l:Bool}{x i:Operand}{pre post:List Value}{us:List Nat}{ax:bc (bb d t x i::aJ j w (aB d2 e (T d))::r) Q}(a1:hy (F j)=some w)(nk:j≠d)(aZ:H[b]?=some (.own e l (pre++(gl us++post))))(aW:pre.length=U)(J:ar F x= .slice (some ⟨b,U,none⟩) us.length cap)(ab:ar F i= .int .i64 (n:Int))(aF:n<us.length)
  (bG:e1 P t=some e)(ao:bu P e=some 1)(eE:dk P e=some false)(K:∀p,ba P r Q .mk (a5 (a5 F d p) d2 (.int .u32 ((us[n]?.getD 0:Nat):Int))) H):ba P (bb d t x i::aJ j w (aB d2 e (T d))::r) Q ax F H:=by
 have aG:ba P (bb d t x i::aB d2 e (T d)::r) Q .mk F H:=u7 aZ aW J ab aF bG ao eE K
 rw[gk,J,ab,oG,m5,bG,eG,ao,eG,oE]at aG⊢
 exact⟨aG.1,xy (by rw[hF _ _ nk];exact a1) aG.2⟩
theorem DK{d t e n b U cap z:Nat}{l:Bool}{x i y:Operand}{pre post:List Value}{us:List Nat}{ax:bc (bb d t x i::st e (T d) y::r) Q}(aZ:H[b]?=some (.own e l (pre++(gl us++post))))(aW:pre.length=U)(J:ar F x= .slice (some ⟨b,U,none⟩) us.length cap)(ab:ar F i= .int .i64 (n:Int))(aF:n<us.length)
  (aP:∀v,ar (a5 F d v) y= .int .u32 (z:Int))(bG:e1 P t=some e)(ao:bu P e=some 1)(K:∀p,ba P r Q .mk (a5 F d p) (H.set b (.own e l (pre++(gl (us.set n z)++post))))):ba P (bb d t x i::st e (T d) y::r) Q ax F H:=by
 rw[gk,J,ab,oG,m5,bG,eG,ao,eG,oE]
 refine dz.mk ⟨by omega,by omega⟩ ?_
 rw[Ri]
 simp only[ke,hG,lo,aZ,Je,Int.toNat_natCast,aP]
 refine dz.mk ⟨by rw[ao];rfl,by simp[gl];omega,by simp⟩ ?_
 have:mY (pre++(gl us++post)) (U+n*1) (Value.int IntKind.u32 (z:Int)).cells.toList=pre++(gl (us.set n z)++post):=by
  show(pre++(gl us++post)).set (U+n*1) (.int .u32 (z:Int))=_
  unfold gl
  rw[List.set_append_right _ _ (by omega),List.set_append_left _ _ (by simp;omega)]
  rw[show U+n*1-pre.length=n by omega,List.map_set]
 rw[aP,this]
 exact K _
end
end Go.cl
end
section
set_option maxRecDepth 8000
namespace Go.cl
open Go.Proofs
open Go.Proofs.Tryz (prog)
attribute [-simp] gk hq
theorem QQ{H:ad}{b:Nat}{X:bN}(h:H[b]?=some X):H.set b X=H:=by
 apply List.ext_getElem?
 intro i
 by_cases ab:b=i
 ·subst ab;rw[List.getElem?_set_self (cn.1 h).1,h]
 ·rw[List.getElem?_set_ne ab]
theorem Tg{v:Value}{b U cap m:Nat}{l:Bool}{pre post:List Value}{us aH:List Nat}{H:ad}(aZ:H[b]?=some (.own 124 l (pre++(gl us++post))))(aW:pre.length=U)(uF:us.length=m+3)(jA:∀x∈us,x<4294967296)
  (oY:∀X,(∀e cs,X≠ .ro e cs)->de (H.set b X) 124 v aH)(kI:aH.length=m+2)(hm:m<1048576)(rf:aH[m+1]?.getD 0≠0)(a3:val us<4294967296*val aH):
  aX prog 125 [.slice (some ⟨b,U,none⟩) (m+3) cap,v] H (fun w H1=>(∃q:Nat,w= .int .u32 (q:Int)/\q=val us/val aH)/\∃dV,H1=H.set b (.own 124 l (pre++(gl dV++post)))/\dV.length=m+3/\(∀x∈dV,x<4294967296)/\val dV=val us % val aH):=by
 refine aX.cc fun Q aD=>?_
 apply aaa (by simp)
 have hg:=(cn.1 aZ).1
 have oZ:=fun dV:List Nat=>oY (.own 124 l (pre++(gl dV++post))) (by simp)
 have wj:Row 124 1 false gE H v aH:=by
  have:=(oZ us).row
  rwa[QQ aZ]at this
 obtain⟨anj,anm,rfl⟩:=wj.len
 rw[kI]at oY oZ wj⊢
 have h2:IntKind.i64.wrap ((m:Int)+2-1)=(m:Int)+1:=by rw[b2 (by omega) (by omega)];omega
 have CM:IntKind.i64.wrap (m:Int)=(m:Int):=b2 (by omega) (by omega)
 have nZ:IntKind.i64.wrap ((m:Int)+2-2)=(m:Int):=by rw[b2 (by omega) (by omega)];omega
 obtain⟨mr,pj⟩:∃x,us[m+2]?.getD 0=x:=⟨_,rfl⟩
 obtain⟨qx,ph⟩:∃x,us[m+1]?.getD 0=x:=⟨_,rfl⟩
 obtain⟨f_,zv⟩:∃x,us[m]?.getD 0=x:=⟨_,rfl⟩
 obtain⟨cG,uL⟩:∃x,aH[m+1]?.getD 0=x:=⟨_,rfl⟩
 obtain⟨v0,GQ⟩:∃x,aH[m]?.getD 0=x:=⟨_,rfl⟩
 have sj:∀k,us[k]?.getD 0<4294967296:=fun k=>yg (by decide) jA k
 have BK:∀k,aH[k]?.getD 0<4294967296:=fun k=>yg (by decide) (oZ us).2 k
 have PD:=pj▸sj (m+2)
 have abr:=ph▸sj (m+1)
 have PC:=zv▸sj m
 have alk:=uL▸BK (m+1)
 have C1:=GQ▸BK m
 rw[uL]at rf
 have GW:aH[m+1]?=some cG:=by rw[<-uL,bs (by omega)];rfl
 have Yx:aH[m]?=some v0:=by rw[<-GQ,bs (by omega)];rfl
 obtain⟨top,nt⟩:∃x,mr*4294967296+qx=x:=⟨_,rfl⟩
 obtain⟨E,b5⟩:∃E,4294967296^m=E:=⟨_,rfl⟩
 have yI:val us=val (us.take m)+E*(f_+4294967296*top):=by
  have:=agB us (m+2) uF (by omega)
  simp only[Nat.add_sub_cancel,show m+2-1=m+1 by omega,zv,ph,pj,b5]at this
  rw[this,<-nt]
  grind
 have wk:val aH=val (aH.take m)+E*(v0+4294967296*cG):=by
  have:=agA aH (m+2) kI (by omega)
  simpa only[Nat.add_sub_cancel,show m+2-1=m+1 by omega,GQ,uL,b5]using this
 have OL:val (us.take m)<E:=by
  have:=kQ (l:=us.take m) fun x J=>jA x (List.mem_of_mem_take J)
  rwa[List.length_take,Nat.min_eq_left (by omega),b5]at this
 have OQ:val (aH.take m)<E:=by
  have:=kQ (l:=aH.take m) fun x J=>(oZ us).2 x (List.mem_of_mem_take J)
  rwa[List.length_take,Nat.min_eq_left (by omega),b5]at this
 have zB:0<cG:=by omega
 obtain⟨q,aq⟩:∃q,val us/val aH=q:=⟨_,rfl⟩
 have wi:0<val aH:=by
  rw[wk]
  have:0<E*(v0+4294967296*cG):=Nat.mul_pos (by omega) (by omega)
  omega
 have Cq:q<4294967296:=by rw[<-aq,Nat.div_lt_iff_lt_mul wi];exact a3
 have ak4:top<4294967296*cG+4294967296:=by
  have o:E*(4294967296*top)<4294967296*(E*(4294967296*(cG+1))):=by
   have b3:E*(4294967296*top)<=val us:=by rw[yI];have:E*(4294967296*top)<=E*(f_+4294967296*top):=Nat.mul_le_mul_left _ (by omega);omega
   have cM:val aH<E*(4294967296*(cG+1)):=by
    rw[wk]
    have:E*(v0+1)<=E*4294967296:=Nat.mul_le_mul_left _ C1
    grind
   omega
  have aa:E*(4294967296*top)<E*(4294967296*(4294967296*(cG+1))):=by
   have:4294967296*(E*(4294967296*(cG+1)))=E*(4294967296*(4294967296*(cG+1))):=by grind
   omega
  have:=Nat.lt_of_mul_lt_mul_left aa
  omega
 have ED:IntKind.u64.wrap (cG:Int)=(cG:Int):=gI (by omega) (by omega)
 have Td:IntKind.u64.wrap (v0:Int)=(v0:Int):=gI (by omega) (by omega)
 have S5:IntKind.u64.wrap (mr:Int)=(mr:Int):=gI (by omega) (by omega)
 have S4:IntKind.u64.wrap (qx:Int)=(qx:Int):=gI (by omega) (by omega)
 have S3:IntKind.u64.wrap (f_:Int)=(f_:Int):=gI (by omega) (by omega)
 obtain⟨s2,mN⟩:∃s,mr*4294967296=s:=⟨_,rfl⟩
 have X5:IntKind.u64.wrap ((mr:Int)*4294967296)=(s2:Int):=by rw[gI (by omega) (by omega)];omega
 have CG:rz (s2:Int) (qx:Int)=(top:Int):=by
  have:=xd (r:=mr) PD abr
  rw[mN]at this
  rw[this];omega
 obtain⟨cP,y1⟩:∃g,top/cG=g:=⟨_,rfl⟩
 obtain⟨eF,fp⟩:∃g,top % cG=g:=⟨_,rfl⟩
 have nS:=Nat.div_add_mod top cG
 rw[y1,fp]at nS
 have XT:eF<cG:=by rw[<-fp];exact Nat.mod_lt _ zB
 have Co:q<=cP:=by
  have:=Ux (E:=E) (ul:=val (us.take m)) (f_:=f_) (top:=top) (hs:=val (aH.take m)) (aH:=v0) (cG:=cG) OL PC zB
  rw[<-yI,<-wk,aq,y1]at this
  exact this
 have akq:cP<8589934592:=by
  rw[<-y1,Nat.div_lt_iff_lt_mul zB]
  omega
 have ediv:((top:Int).tdiv cG)=(cP:Int):=by rw[<-y1];rfl
 have emod:((top:Int).tmod cG)=(eF:Int):=by rw[<-fp];rfl
 have agK:IntKind.u64.wrap (cP:Int)=(cP:Int):=gI (by omega) (by omega)
 have ak8:¬((cG:Int)=0):=by omega
 simp[Kp,hq]
 refine u7 (cap:=cap) (n:=m+2) aZ aW (by simp[uF]) (by simp) (by omega) (by simp) (by simp) (by simp) fun dh=>?_
 simp[pj,S5,X5,h2]
 refine u7 (cap:=cap) (n:=m+1) aZ aW (by simp[uF]) (by simp) (by omega) (by simp) (by simp) (by simp) fun gZ=>?_
 simp[ph,S4,CG,h2]
 refine cF (ae:=gE) (n:=m+1) (by simpa using wj) (by simp) GW (by simp) (by simp) (by simp) (.inr rfl) ?_
 rintro fP cW ⟨rfl,-⟩
 simp[ED,h2,ediv,agK,rf]
 refine cF (ae:=gE) (n:=m+1) (by simpa using wj) (by simp) GW (by simp) (by simp) (by simp) (.inr rfl) ?_
 rintro ho pH ⟨rfl,-⟩
 simp[ED,emod,rf]
 have WI:∀g r,g*cG+r=top->(4294967296<=g\/r*4294967296+f_<g*v0)->q<g:=fun g r o aa=>by
  rcases aa with aa | aa
  ·omega
  ·have:=Uz (E:=E) (ul:=val (us.take m)) (f_:=f_) (top:=top) (hs:=val (aH.take m)) (aH:=v0) (cG:=cG) OL o aa
   rwa[<-yI,<-wk,aq]at this
 have F3:∀g r,g<4294967296->g*cG+r=top->¬r*4294967296+f_<g*v0->g<=q+1:=fun g r aG o aa=>by
  have:=Uy (E:=E) (ul:=val (us.take m)) (f_:=f_) (top:=top) (hs:=val (aH.take m)) (aH:=v0) (cG:=cG) OQ zB aG o (by omega)
  rwa[<-yI,<-wk,aq]at this
 have WG:∀g r,g<4294967296->g*cG+r=top->4294967296<=r->g<=q:=fun g r aG o aa=>by
  have:=Uw (E:=E) (ul:=val (us.take m)) (f_:=f_) (top:=top) (hs:=val (aH.take m)) (aH:=v0) (cG:=cG) OQ C1 zB aG o aa
  rwa[<-yI,<-wk,aq]at this
 refine bV.join (by kernel_rfl) (fun di ev bS=>bS=H/\∃g:Nat,di 7= .int .u64 g/\g<4294967296/\q<=g/\g<=q+1) ?_ ?_
 ·rintro er h1-
  simp only[agk,agn]
  refine c6.mk (by kernel_rfl) (fun g di ev bS=>bS=H/\∃r:Nat,di 7= .int .u64 g/\di 8= .int .u64 r/\g*cG+r=top/\r<4294967296/\q<=g) cP ⟨rfl,eF,by simp,by simp,by rw[Nat.mul_comm];exact nS,by omega,Co⟩ ?_
  rintro g di ev bS ⟨rfl,r,cf,cz,NG,lB,Ol⟩ K a4
  simp at cf cz
  have akr:g<8589934592:=by
   have:g*cG<8589934592*cG:=by
    have:4294967296*cG<=4294967296*cG:=Nat.le_refl _
    omega
   exact Nat.lt_of_mul_lt_mul_right this
  simp only[kP]
  refine bV.join (by kernel_rfl) (fun cQ dQ bT=>bT=bS/\∃c:Bool,cQ 68= .bool c/\(c=true↔(4294967296<=g\/r*4294967296+f_<g*v0))) ?_ ?_
  ·rintro c5 N4-
   have zq:((g:Int).fdiv 4294967296)=((g/4294967296:Nat):Int):=by rw[nP _ (by decide)];omega
   simp[cf,zq]
   refine br.b_ (fun ag=>?_) (fun ag=>?_)
   ·simp[ag]
    exact N4 _ _ _ ⟨rfl,true,by simp,by simp;omega⟩
   ·simp[ag]
    have wG:g<4294967296:=by omega
    refine qw (ae:=gE) (n:=m) (by simp[ag]) (by decide) (by simpa using wj) (by simp[CM]) Yx (by simp) (by simp) (by simp) (.inr rfl) ?_
    rintro iK vg ⟨rfl,-⟩
    have hmul:IntKind.u64.wrap ((g:Int)*v0)=((g*v0:Nat):Int):=HA wG C1
    obtain⟨ajW,NI⟩:∃x,g*v0=x:=⟨_,rfl⟩
    obtain⟨rs,uA⟩:∃x,r*4294967296=x:=⟨_,rfl⟩
    have X8:IntKind.u64.wrap ((r:Int)*4294967296)=(rs:Int):=by rw[gI (by omega) (by omega)];omega
    rw[NI]at hmul
    simp[ag,Td,cf,cz,hmul,X8]
    refine aed (cap:=cap) (n:=m) (by simp[ag]) (by decide) aZ aW (by simp[uF]) (by simp[CM]) (by omega) (by simp) (by simp) (by simp) fun mT=>?_
    have aN:=xd (r:=r) lB PC
    rw[uA]at aN
    obtain⟨alD,Ou⟩:∃x,rs+f_=x:=⟨_,rfl⟩
    rw[Ou]at aN
    simp[ag,zv,S3,aN]
    refine N4 _ _ _ ⟨rfl,_,by simp;rfl,?_⟩
    simp[NI,uA,Ou]
    omega
  ·rintro cQ dQ bT ⟨rfl,c,MB,gy⟩
   simp at MB
   simp[MB]
   refine br.mk (fun ag=>?_) (fun ag=>?_)
   ·have akZ:=WI g r NG (gy.1 ag)
    have nj:IntKind.u64.wrap ((g:Int)-1)=((g-1:Nat):Int):=by rw[gI (by omega) (by omega)];omega
    obtain⟨lr,F2⟩:∃x,g-1=x:=⟨_,rfl⟩
    rw[F2]at nj
    simp[cf,nj,cz,h2]
    refine cF (ae:=gE) (n:=m+1) (by simpa using wj) (by simp) GW (by simp) (by simp) (by simp) (.inr rfl) ?_
    rintro iK vg ⟨rfl,-⟩
    obtain⟨dG,fW⟩:∃x,r+cG=x:=⟨_,rfl⟩
    have ng:IntKind.u64.wrap ((r:Int)+cG)=(dG:Int):=by rw[gI (by omega) (by omega)];omega
    have zq:((dG:Int).fdiv 4294967296)=((dG/4294967296:Nat):Int):=by rw[nP _ (by decide)];omega
    have NH:lr*cG+dG=top:=by
     have:g*cG=lr*cG+cG:=by rw[show g=lr+1 by omega,Nat.succ_mul]
     omega
    simp[ED,ng,zq]
    refine br.b_ (fun aA=>?_) (fun aA=>?_)
    ·have Wy:4294967296<=dG:=by omega
     have Nz:lr<4294967296:=by
      have:lr*cG<4294967296*cG:=by omega
      exact Nat.lt_of_mul_lt_mul_right this
     exact h1 _ _ _ ⟨rfl,lr,by simp,Nz,by omega,Nat.le_succ_of_le (WG lr dG Nz NH Wy)⟩
    ·exact a4 lr _ _ _ (by omega) ⟨rfl,dG,by simp,by simp,NH,by omega,by omega⟩
   ·have akk:¬(4294967296<=g\/r*4294967296+f_<g*v0):=fun h=>by rw[gy.2 h]at ag;cases ag
    have wG:g<4294967296:=by omega
    exact h1 _ _ _ ⟨rfl,g,by simp[cf],wG,Ol,F3 g r wG NG (by omega)⟩
 ·rintro di ev bS ⟨rfl,g,cf,wG,Ol,aks⟩
  simp at cf
  simp[hq]
  refine c6.range (by kernel_rfl) (m+2) (by omega) (by simp) (by rfl) (by simp) (by decide) (by decide) (fun i cQ dQ bT=>∃(dV:List Nat) (c d:Nat),bT=bS.set b (.own 124 l (pre++(gl dV++post)))/\dV.length=m+3/\(∀x∈dV,x<4294967296)/\(∀j,i<=j->dV[j]?.getD 0=us[j]?.getD 0)/\cQ 9= .int .u64 c/\cQ 10= .int .u32 d/\c<4294967296/\d<=1/\val (dV.take i)+g*val (aH.take i)=val (us.take i)+4294967296^i*(c+d)) ?_ ?_ ?_
  ·exact⟨us,0,0,(QQ aZ).symm,uF,jA,fun _ _=>rfl,by simp,by simp,by decide,by decide,by simp[val]⟩
  ·rintro i cQ dQ bT ab a7 ⟨dV,c,d,rfl,dR,kn,Cw,fz,fy,ag,aA,hk⟩ K a4
   simp at a7 fz fy
   obtain⟨rL,uI⟩:∃x,aH[i]?.getD 0=x:=⟨_,rfl⟩
   have Hv:=uI▸BK i
   have GV:aH[i]?=some rL:=by rw[<-uI,bs (by omega)];rfl
   obtain⟨xB,GO⟩:∃x,us[i]?.getD 0=x:=⟨_,rfl⟩
   have abt:=GO▸sj i
   have Te:IntKind.u64.wrap (rL:Int)=(rL:Int):=gI (by omega) (by omega)
   obtain⟨t0,GK⟩:∃x,g*rL=x:=⟨_,rfl⟩
   have nY:IntKind.u64.wrap ((g:Int)*rL)=(t0:Int):=by rw[HA wG Hv,GK]
   have ak2:t0<=4294967295*4294967295:=by rw[<-GK];exact Nat.mul_le_mul (by omega) (by omega)
   obtain⟨t,bG⟩:∃x,t0+c=x:=⟨_,rfl⟩
   have pa:IntKind.u64.wrap ((t0:Int)+c)=(t:Int):=by rw[gI (by omega) (by omega)];omega
   obtain⟨fQ,pf⟩:∃x,t % 4294967296=x:=⟨_,rfl⟩
   obtain⟨nD,OF⟩:∃x,t/4294967296=x:=⟨_,rfl⟩
   have nq:((t:Int).fdiv 4294967296)=(nD:Int):=by rw[nP _ (by decide)];omega
   have B_:IntKind.u32.wrap (t:Int)=(fQ:Int):=by rw[pI];omega
   simp[a7,cf]
   refine cF (ae:=gE) (n:=i) (by simpa using(oZ dV).row) (by simp) GV (by simp) (by simp) (by simp) (.inr rfl) ?_
   rintro iK vg ⟨rfl,-⟩
   have FH:(bS.set b (.own 124 l (pre++(gl dV++post))))[b]?=some (.own 124 l (pre++(gl dV++post))):=List.getElem?_set_self hg
   simp[a7,cf,fz,fy,Te,nY,pa,nq]
   refine u7 (b:=b) (l:=l) (pre:=pre) (us:=dV) (post:=post) (cap:=cap) (n:=i) FH aW (by simp[dR]) (by simp) (by omega) (by simp) (by simp) (by simp) fun mT=>?_
   rw[Cw i (Nat.le_refl _),GO]
   simp[B_,fy]
   refine aY.mk (Ie abt (by omega) aA) ?_
   rintro w b7 ⟨rfl,s,fM,rfl,ao,l8,wS⟩
   simp
   refine DK (b:=b) (l:=l) (pre:=pre) (us:=dV) (post:=post) (cap:=cap) (n:=i) (z:=s) FH aW (by simp[dR]) (by simp) (by omega) (by simp) (by simp) (by simp) fun px=>?_
   simp
   refine a4 _ _ _ (by simp[a7]) ⟨dV.set i s,nD,fM,by simp,by simp[dR],?_,?_,by simp,by simp,by omega,l8,?_⟩
   ·intro x J
    rcases List.mem_or_eq_of_mem_set J with J | rfl
    ·exact kn x J
    ·exact ao
   ·intro j aN
    rw[List.getElem?_set_ne (by omega)]
    exact Cw j (by omega)
   ·rw[tj _ _ _ (by omega),jK aH,jK us,uI,GO,Nat.pow_succ]
    generalize 4294967296^i=E at*
    have GH:xB+4294967296*fM=s+fQ+d:=wS
    have GJ:t=fQ+4294967296*nD:=by omega
    have bn:g*(val (aH.take i)+E*rL)=g*val (aH.take i)+E*t0:=by rw[<-GK];grind
    rw[bn]
    have bj:E*xB+E*(4294967296*fM)=E*s+E*fQ+E*d:=by rw[<-Nat.mul_add,GH,Nat.mul_add,Nat.mul_add]
    have fT:E*t0+E*c=E*fQ+E*(4294967296*nD):=by rw[<-Nat.mul_add,bG,GJ,Nat.mul_add]
    have lp:E*4294967296*(nD+fM)=E*(4294967296*nD)+E*(4294967296*fM):=by grind
    rw[Nat.mul_add]at hk
    omega
  ·rintro cQ dQ bT a7 ⟨dV,c,d,rfl,dR,kn,Cw,fz,fy,ag,aA,hk⟩
   simp at fz fy
   have wo:=fun ws:List Nat=>(List.getElem?_set_self (l:=bS) (a:= .own 124 l (pre++(gl ws++post))) hg)
   have FT:IntKind.u32.wrap (c:Int)=(c:Int):=mZ (by omega) (by omega)
   simp
   refine u7 (b:=b) (l:=l) (pre:=pre) (us:=dV) (post:=post) (cap:=cap) (n:=m+2) (wo dV) aW (by simp[dR]) (by simp) (by omega) (by simp) (by simp) (by simp) fun mT=>?_
   rw[Cw (m+2) (Nat.le_refl _),pj]
   simp[fz,fy,FT]
   refine aY.mk (Ie PD ag aA) ?_
   rintro w b7 ⟨rfl,s,d2,rfl,ao,mI,wS⟩
   simp
   refine DK (b:=b) (l:=l) (pre:=pre) (us:=dV) (post:=post) (cap:=cap) (n:=m+2) (z:=s) (wo dV) aW (by simp[dR]) (by simp) (by omega) (by simp) (by simp) (by simp) fun px=>?_
   simp
   obtain⟨ws,k9⟩:∃ws,dV.set (m+2) s=ws:=⟨_,rfl⟩
   have pk:ws.length=m+3:=by rw[<-k9];simp[dR]
   have CL:∀x∈ws,x<4294967296:=by
    intro x J
    rw[<-k9]at J
    rcases List.mem_or_eq_of_mem_set J with J | rfl
    ·exact kn x J
    ·exact ao
   have OV:ws[m+2]?.getD 0=s:=by rw[<-k9,List.getElem?_set_self (by omega)];rfl
   have full:∀(x:List Nat) (k:Nat),x.length=k->x.take k=x:=fun x k h=>by rw[<-h,List.take_length]
   obtain⟨mv,sc⟩:∃mv,4294967296^(m+2)=mv:=⟨_,rfl⟩
   have YQ:val ws+g*val aH=val us+mv*4294967296*d2:=by
    have bn:=tj dV (m+2) s (by omega)
    rw[k9,full ws _ pk,sc]at bn
    have bj:=jK us (m+2)
    rw[full us _ uF,pj,sc]at bj
    rw[full aH _ kI,sc]at hk
    rw[bn,bj]
    have:mv*mr+mv*(4294967296*d2)=mv*s+mv*(c+d):=by rw[<-Nat.mul_add,<-Nat.mul_add];congr 1;omega
    have:mv*4294967296*d2=mv*(4294967296*d2):=by grind
    omega
   rw[k9]
   have Cu:val us % val aH=val us-q*val aH/\q*val aH<=val us/\val us<(q+1)*val aH:=by
    have o:=Nat.div_add_mod (val us) (val aH)
    have aa:=Nat.mod_lt (val us) wi
    rw[aq,Nat.mul_comm]at o
    refine⟨by omega,by omega,?_⟩
    rw[Nat.succ_mul]
    omega
   have YG:val ws<mv*4294967296:=by
    have:=kQ CL
    rwa[pk,Nat.pow_succ,sc]at this
   refine bV.join (by kernel_rfl) (fun fa gJ b7=>fa 7= .int .u64 q/\∃xF:List Nat,b7=bS.set b (.own 124 l (pre++(gl xF++post)))/\xF.length=m+3/\(∀x∈xF,x<4294967296)/\val xF=val us % val aH) ?_ ?_
   ·rintro er h1-
    simp
    refine br.b_ (fun aK=>?_) (fun aK=>?_)
    ·have iT:d2=1:=by omega
     subst iT
     have a1:g=q+1:=by
      have:q<g:=by
       rcases Nat.lt_or_ge q g with h | h
       ·exact h
       ·have:g*val aH<=q*val aH:=Nat.mul_le_mul_right _ h
        omega
      omega
     have WK:IntKind.u64.wrap ((g:Int)-1)=(q:Int):=by rw[gI (by omega) (by omega)];omega
     simp[cf,WK,hq]
     refine c6.range (by kernel_rfl) (m+2) (by omega) (by simp) (by rfl) (by simp) (by decide) (by decide) (fun i j8 lP dx=>∃(xs:List Nat) (cL:Nat),dx=bS.set b (.own 124 l (pre++(gl xs++post)))/\xs.length=m+3/\(∀x∈xs,x<4294967296)/\(∀j,i<=j->xs[j]?.getD 0=ws[j]?.getD 0)/\j8 13= .int .u32 cL/\cL<=1/\val (xs.take i)+4294967296^i*cL=val (ws.take i)+val (aH.take i)) ?_ ?_ ?_
     ·exact⟨ws,0,rfl,pk,CL,fun _ _=>rfl,by simp,by decide,by simp[val]⟩
     ·rintro i j8 lP dx ab a7 ⟨xs,cL,rfl,kK,Hd,h5,g5,Ck,Pc⟩ K a4
      simp at a7 g5
      obtain⟨rL,uI⟩:∃x,aH[i]?.getD 0=x:=⟨_,rfl⟩
      have Hv:=uI▸BK i
      have GV:aH[i]?=some rL:=by rw[<-uI,bs (by omega)];rfl
      obtain⟨fI,Hc⟩:∃x,ws[i]?.getD 0=x:=⟨_,rfl⟩
      have abv:fI<4294967296:=Hc▸yg (by decide) CL i
      simp[a7]
      refine u7 (b:=b) (l:=l) (pre:=pre) (us:=xs) (post:=post) (cap:=cap) (n:=i) (wo xs) aW (by simp[kK]) (by simp) (by omega) (by simp) (by simp) (by simp) fun py=>?_
      rw[h5 i (Nat.le_refl _),Hc]
      simp
      refine cF (ae:=gE) (n:=i) (by simpa using(oZ xs).row) (by simp) GV (by simp) (by simp) (by simp) (.inr rfl) ?_
      rintro Dd agH ⟨rfl,-⟩
      simp[g5]
      refine aY.mk (K5 abv Hv Ck) ?_
      rintro w cw ⟨rfl,y,Da,rfl,aP,Xy,GH⟩
      simp
      refine DK (b:=b) (l:=l) (pre:=pre) (us:=xs) (post:=post) (cap:=cap) (n:=i) (z:=y) (wo xs) aW (by simp[kK]) (by simp) (by omega) (by simp) (by simp) (by simp) fun sY=>?_
      simp
      refine a4 _ _ _ (by simp[a7]) ⟨xs.set i y,Da,by simp,by simp[kK],?_,?_,by simp,Xy,?_⟩
      ·intro x J
       rcases List.mem_or_eq_of_mem_set J with J | rfl
       ·exact Hd x J
       ·exact aP
      ·intro j aN
       rw[List.getElem?_set_ne (by omega)]
       exact h5 j (by omega)
      ·rw[tj _ _ _ (by omega),jK aH,jK ws,uI,Hc,Nat.pow_succ]
       generalize 4294967296^i=E at*
       have bn:E*y+E*(4294967296*Da)=E*fI+E*rL+E*cL:=by rw[<-Nat.mul_add,GH,Nat.mul_add,Nat.mul_add]
       have bj:E*4294967296*Da=E*(4294967296*Da):=by grind
       omega
     ·rintro j8 lP dx a7 ⟨xs,cL,rfl,kK,Hd,h5,g5,Ck,Pc⟩
      simp at g5
      simp
      refine u7 (b:=b) (l:=l) (pre:=pre) (us:=xs) (post:=post) (cap:=cap) (n:=m+2) (wo xs) aW (by simp[kK]) (by simp) (by omega) (by simp) (by simp) (by simp) fun py=>?_
      rw[h5 (m+2) (Nat.le_refl _),OV]
      obtain⟨y,aP⟩:∃y,(s+cL) % 4294967296=y:=⟨_,rfl⟩
      have sP:IntKind.u32.wrap ((s:Int)+cL)=(y:Int):=by rw[pI];omega
      simp[g5,sP]
      refine DK (b:=b) (l:=l) (pre:=pre) (us:=xs) (post:=post) (cap:=cap) (n:=m+2) (z:=y) (wo xs) aW (by simp[kK]) (by simp) (by omega) (by simp) (by simp) (by simp) fun sY=>?_
      simp
      have ql:∀x∈xs.set (m+2) y,x<4294967296:=by
       intro x J
       rcases List.mem_or_eq_of_mem_set J with J | rfl
       ·exact Hd x J
       ·omega
      refine h1 _ _ _ ⟨by simp,xs.set (m+2) y,by simp,by simp[kK],ql,?_⟩
      have bn:=tj xs (m+2) y (by omega)
      rw[full (xs.set (m+2) y) (m+2+1) (by simp[kK]),sc]at bn
      have Xa:=kQ ql
      rw[List.length_set,kK,Nat.pow_succ,sc]at Xa
      have bj:=jK ws (m+2)
      rw[full ws _ pk,OV,sc]at bj
      rw[full aH _ kI,sc]at Pc
      rw[Cu.1]
      rw[a1,Nat.succ_mul]at YQ
      rcases Nat.lt_or_ge (s+cL) 4294967296 with o | o
      ·have:y=s+cL:=by omega
       subst this
       rw[Nat.mul_add]at bn
       omega
      ·have:s+cL=y+4294967296:=by omega
       have fT:mv*s+mv*cL=mv*y+mv*4294967296:=by rw[<-Nat.mul_add,this,Nat.mul_add]
       omega
    ·have Ws:d2=0:=by omega
     subst Ws
     have a1:g=q:=by
      have:g<=q:=by
       rcases Nat.lt_or_ge q g with h | h
       ·have:(q+1)*val aH<=g*val aH:=Nat.mul_le_mul_right _ h
        omega
       ·exact h
      omega
     subst a1
     exact h1 _ _ _ ⟨by simp[cf],ws,rfl,pk,CL,by rw[Cu.1];omega⟩
   ·rintro fa gJ b7 ⟨MC,xF,rfl,Ga,Xb,GR⟩
    simp at MC
    have Cs:IntKind.u32.wrap (q:Int)=(q:Int):=mZ (by omega) (by omega)
    simp[MC,Cs,bf]
    exact aD _ _ ⟨⟨q,rfl,aq.symm⟩,xF,rfl,Ga,Xb,GR⟩
end Go.cl
end
section
set_option maxRecDepth 8000
namespace Go.cl
open Go.Proofs
open Go.Proofs.Tryz (prog)
attribute [-simp] gk hq iM
theorem aea{P:Program}{r:List bJ}{F:Fr}{H:ad}{Q:Fr->ad->Prop}{d t n:Nat}{x i:Operand}{s:ByteArray}{y:Nat}{ax:bc (ez d t x i::r) Q}(ao:ar F x= .string s)(bG:jl P t=true)(ah:∃k,ar F i= .int k (n:Int))(aF:n<s.size)(aP:(s.data.getD n 0).toNat=y)(K:ba P r Q .mk (a5 F d (.int .u8 (y:Int))) H):ba P (ez d t x i::r) Q ax F H:=by
 obtain⟨k,ah⟩:=ah
 rw[iM,ao,ah,Jh,m5]
 refine dz.mk ⟨bG,by omega,by omega⟩ ?_
 rw[Int.toNat_natCast,aP]
 exact K
theorem ad9{P:Program}{r:List bJ}{F:Fr}{H:ad}{Q:Fr->ad->Prop}{d t n m:Nat}{x i:Operand}{s:ByteArray}{p:Nat->Nat->Prop}{ax:bc (ez d t x i::r) Q}(ao:ar F x= .string s)(bG:jl P t=true)(ah:∃k,ar F i= .int k (n:Int))(hm:s.size=m)(aF:n<m)(aK:∀j,j<m->p j (s.data.getD j 0).toNat)(K:∀y,p n y->ba P r Q .mk (a5 F d (.int .u8 (y:Int))) H):ba P (ez d t x i::r) Q ax F H:=
 aea ao bG ah (by omega) rfl (K _ (aK n aF))
theorem abf{x:Nat}{H:ad}(J:x<4294967296):aX prog 132 [.int .u32 x] H (fun v H1=>H1=H/\∃n:Nat,v= .int .i64 n/\x<2^n/\n<=32/\(0<x->0<n)):=by
 refine aX.cc fun Q aD=>?_
 apply ZF (by simp)
 unfold J9
 simp only[kP]
 simp
 refine bV.join (by kernel_rfl) (fun az bH H1=>H1=H/\∃y n:Nat,az 0= .int .u32 y/\az 2= .int .i64 n/\y<65536/\x<(y+1)*2^n/\n<=16/\(0<x->0<n\/0<y)) ?_ ?_
 ·rintro er h1-
  simp
  refine br.b_ (fun ag=>?_) (fun ag=>?_)
  ·have:((x:Int).fdiv 65536)=((x/65536:Nat):Int):=by rw[nP _ (by decide)];omega
   simp[this]
   exact h1 _ _ _ ⟨rfl,x/65536,16,by simp,by simp,by omega,by omega,by decide,by omega⟩
  ·exact h1 _ _ _ ⟨rfl,x,0,by simp,by simp,by omega,by omega,by decide,by omega⟩
 ·rintro az bH H1 ⟨rfl,y,n,aG,aa,aP,CP,aF,iu⟩
  simp at aG aa
  refine bV.join (by kernel_rfl) (fun di ev bS=>bS=H1/\∃nE ed:Nat,di 0= .int .u32 nE/\di 2= .int .i64 ed/\nE<256/\x<(nE+1)*2^ed/\ed<=24/\(0<x->0<ed\/0<nE)) ?_ ?_
  ·rintro er h1-
   simp[aG]
   refine br.b_ (fun ag=>?_) (fun ag=>?_)
   ·have bn:((y:Int).fdiv 256)=((y/256:Nat):Int):=by rw[nP _ (by decide)];omega
    have bj:IntKind.i64.wrap ((n:Int)+8)=((n+8:Nat):Int):=by rw[b2 (by omega) (by omega)];simp
    simp[aG,bn,aa,bj]
    refine h1 _ _ _ ⟨rfl,y/256,n+8,by simp,by simp,by omega,?_,by omega,fun _=> .inl (by omega)⟩
    have:(y+1)*2^n<=((y/256+1)*256)*2^n:=Nat.mul_le_mul_right _ (by omega)
    rw[Nat.pow_add,Nat.mul_comm (2^n),<-Nat.mul_assoc,show(2:Nat)^8=256 from rfl]
    omega
   ·exact h1 _ _ _ ⟨rfl,y,n,by simp[aG],by simp[aa],by omega,CP,by omega,iu⟩
  ·rintro di ev bS ⟨rfl,nE,ed,r8,vP,rk,alb,akO,XF⟩
   simp at r8 vP
   have hV:IntKind.u8.wrap (nE:Int)=(nE:Int):=D0 (by omega) (by omega)
   simp[r8,vP,hV]
   refine ad9 (n:=nE) (m:=256) (p:=fun j z=>j<2^z/\z<=8/\(0<j->0<z)) rfl (by simp) ⟨.u8,by simp⟩ (by kernel_rfl) rk (of_decide_eq_true (by kernel_rfl)) ?_
   rintro z ⟨iJ,j1,qm⟩
   have fT:IntKind.i64.wrap (z:Int)=(z:Int):=b2 (by omega) (by omega)
   have lp:IntKind.i64.wrap ((ed:Int)+z)=((ed+z:Nat):Int):=by rw[b2 (by omega) (by omega)];simp
   simp[fT,lp,bf]
   refine aD _ _ ⟨rfl,ed+z,by simp,?_,by omega,fun h=>by have:=XF h;omega⟩
   have:(nE+1)*2^ed<=2^z*2^ed:=Nat.mul_le_mul_right _ iJ
   rw[Nat.pow_add,Nat.mul_comm (2^ed)]
   omega
theorem abw{x:Nat}{H:ad}(J:x<4294967296)(aG:0<x):aX prog 123 [.int .u32 x] H (fun v H1=>H1=H/\∃n:Nat,v= .int .i64 n/\n<32/\x*2^n<4294967296):=by
 refine aX.cc fun Q aD=>?_
 apply ZE (by simp)
 simp[J8]
 refine aY.mk (abf J) ?_
 rintro v H1 ⟨rfl,n,rfl,o,aa,aE⟩
 have e:IntKind.i64.wrap (32-(n:Int))=((32-n:Nat):Int):=by rw[b2 (by omega) (by omega)];omega
 obtain⟨s,ao⟩:∃s,32-n=s:=⟨_,rfl⟩
 rw[ao]at e
 simp[e,bf]
 refine aD _ _ ⟨rfl,s,rfl,by have:=aE aG;omega,?_⟩
 have:x*2^s<2^n*2^s:=Nat.mul_lt_mul_of_pos_right o (Nat.pow_pos (by decide))
 rw[<-Nat.pow_add,show n+s=32 by omega]at this
 exact this
end Go.cl
end
