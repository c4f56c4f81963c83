/- Part of the proof of ShopJoined. -/
import Derived.Test.YtoiodfcefbapkaaGreatShopJoinedE
set_option linter.unusedVariables false
set_option linter.unusedSimpArgs false
section
set_option maxRecDepth 8000
namespace Go.cJ
open Go.Proofs
open Go.Proofs.Tryz (prog)
theorem lW{v:Value}{l:List Nat}{H:ab}(ec:cZ H 124 v l)(hlen:l.length<4611686018427387904):aP prog 110 [v] H (fun au H1=>H1=H/\∃c_,cZ H 124 au c_/\Trim c_/\val c_=val l/\c_.length<=l.length):=by
 refine aP.b9 fun Q aE=>?_
 apply Xt (by simp)
 simp[G4]
 refine kQ.mk (ai:=fun n F H1=>H1=H/\∃c_ k,cZ H 124 (F 0) c_/\l=c_++List.replicate k 0/\n=c_.length) l.length ⟨rfl,l,0,by simpa[]using ec,by simp,rfl⟩ ?_
 rintro n F H1 ⟨rfl,c_,k,lE,ar,rfl⟩ K a0
 have sD:c_.length<=l.length:=by rw[ar];simp
 have gO:val c_=val l:=by rw[ar,nx,F4];simp
 obtain⟨a,cap,an⟩:=lE.1.len
 simp[an]
 refine bH.b_ (fun aG=>?_) (fun aG=>?_)
 ·obtain⟨b,i,dC,X,all,he,aQ,ad,bw,k5⟩:=lE.at aG
  rw[an]at he
  cases he
  have bk:((c_.length:Int)-1).toNat=c_.length-1:=by omega
  have bg:=Om c_ aG
  simp(disch:=omega)[aG,an,b6]
  refine dE.mk ⟨by omega,by omega⟩ ?_
  simp[aQ,ad,bk,k5 _ (show c_.length-1<c_.length by omega)]
  refine bH.b_ (fun aM=>?_) (fun aM=>?_)
  ·simp(disch:=omega)[an,b6]
   refine aaX (n:=c_.length) (l:=0) (h:=c_.length-1) (e:=124) (U:=1) (by simpa[an]using lE.1) (by simp) (by simp) rfl (by simp[e2];omega) (by omega) (by omega) (fun au dJ=>?_)
   simp
   refine a0 (c_.length-1) _ _ (by omega) ⟨rfl,c_.take (c_.length-1),k+1,⟨?_,fun x J=>lE.2 x (List.mem_of_mem_take J)⟩,?_,by simp⟩
   ·simpa[Nat.min_eq_left,List.map_take]using dJ
   ·rw[ar]
    conv=>lhs;rw[<-bg]
    have:c_[c_.length-1]?.getD 0=0:=by omega
    rw[this,List.replicate_succ,List.append_assoc]
    rfl
  ·simp[an]
   refine aE _ _ ⟨rfl,c_,an▸lE,fun h=>aM ?_,gO,sD⟩
   rw[List.getLast?_eq_getElem?]at h
   simp[h]
 ·simp[aG,an]
  have:c_=[]:=List.eq_nil_of_length_eq_zero (by omega)
  exact aE _ _ ⟨rfl,c_,an▸lE,by simp[this,Trim],gO,sD⟩
theorem Iv{x y c:Nat}{H:ab}(J:x<4294967296)(aL:y<4294967296)(ad:c<=1):aP prog 122 [.int .u32 x,.int .u32 y,.int .u32 c] H (fun au H1=>H1=H/\∃s d:Nat,au= .tuple #[.int .u32 s,.int .u32 d]/\s<4294967296/\d<=1/\s+4294967296*d=x+y+c):=by
 refine aP.b9 fun Q aE=>?_
 apply WM (by simp)
 simp(disch:=first | omega | (simp<;>fail) | fail) [GM,f_,oy,bf,mT]
 refine aE _ _ ⟨rfl,(x+y+c) % 4294967296,(x+y+c)/4294967296,?_,by omega,by omega,by omega⟩
 simp
 omega
theorem Ci{v w:Value}{a b:List Nat}{H:ab}(bt:cZ H 124 v a)(bC:cZ H 124 w b)(oQ:Trim a)(k1:Trim b)(ki:a.length<4611686018427387904)(jA:b.length<4611686018427387904):
  aP prog 101 [v,w] H (fun au H1=>H1=H/\au= .int .i64 (if val a<val b then-1 else if val b<val a then 1 else 0)):=by
 refine aP.b9 fun Q aE=>?_
 apply Xj (by simp)
 obtain⟨er,ac,rfl⟩:=bt.len
 obtain⟨IA,IE,rfl⟩:=bC.len
 simp(disch:=omega)[G1,b6]
 refine bH.b_ (fun aG=>?_) (fun aG=>?_)
 ·have hlen:a.length=b.length:=by omega
  simp(disch:=omega)[b6]
  refine kQ.mk (ai:=fun n F H1=>H1=H/\F 0= .slice er a.length ac/\F 1= .slice IA b.length IE/\F 5= .int .i64 ((n:Int)-1)/\n<=a.length/\a.drop n=b.drop n) a.length ⟨rfl,by simp,by simp,by simp,Nat.le_refl _,by rw[List.drop_eq_nil_of_le (by omega),List.drop_eq_nil_of_le (by omega)]⟩ ?_
  rintro n F H1 ⟨rfl,aH,o,bK,hn,aB⟩ K a0
  simp[aH,o,bK]
  refine bH.b_ (fun aY=>?_) (fun aY=>?_)
  ·obtain⟨gH,i1,v9,yW,yZ,jR,nY,lH,KM,oT⟩:=bt.at (by omega)
   obtain⟨kc,i2,Cf,B1,B6,iN,qR,mZ,n4,qX⟩:=bC.at (by omega)
   cases jR
   cases iN
   have bk:((n:Int)-1).toNat=n-1:=by omega
   simp[aH,o,bK]
   refine dE.mk ⟨by omega,by omega⟩ ?_
   simp[aH,o,bK,nY,lH,bk,oT _ (show n-1<a.length by omega)]
   refine dE.mk ⟨by omega,by omega⟩ ?_
   simp[aH,o,bK,qR,mZ,bk,qX _ (show n-1<b.length by omega)]
   have Cp:a.drop (n-1)=a[n-1]?.getD 0::a.drop n:=by
    rw[List.drop_eq_getElem_cons (by omega),bJ (by omega),Option.getD_some,Nat.sub_add_cancel (by omega)]
   have Cq:b.drop (n-1)=b[n-1]?.getD 0::b.drop n:=by
    rw[List.drop_eq_getElem_cons (by omega),bJ (by omega),Option.getD_some,Nat.sub_add_cancel (by omega)]
   refine bH.b_ (fun av=>?_) (fun av=>?_)
   ·simp(disch:=omega)[bK,b6]
    refine a0 (n-1) _ _ (by omega) ⟨rfl,by simp[aH],by simp[o],by simp;omega,by omega,?_⟩
    rw[Cp,Cq,aB]
    congr 1
    omega
   ·have key:∀(x y:List Nat),(∀z∈x,z<4294967296)->(∀z∈y,z<4294967296)->x.length=y.length->x.drop (n-1)=x[n-1]?.getD 0::x.drop n->y.drop (n-1)=y[n-1]?.getD 0::y.drop n->x.drop n=y.drop n->n-1<x.length->x[n-1]?.getD 0<y[n-1]?.getD 0->val x<val y:=by
     intro x y J aL xM ex Ry gg a6 jj
     have v1:val x=val (x.take (n-1))+4294967296^(n-1)*(x[n-1]?.getD 0+4294967296*val (x.drop n)):=by
      conv=>lhs;rw[<-List.take_append_drop (n-1) x,nx,ex]
      simp only[val,List.length_take,Nat.min_eq_left (Nat.le_of_lt a6)]
     have v2:val y=val (y.take (n-1))+4294967296^(n-1)*(y[n-1]?.getD 0+4294967296*val (y.drop n)):=by
      conv=>lhs;rw[<-List.take_append_drop (n-1) y,nx,Ry]
      simp only[val,List.length_take,Nat.min_eq_left (show n-1<=y.length by omega)]
     have ti:val (x.take (n-1))<4294967296^(n-1):=by
      have:=j7 (l:=x.take (n-1)) fun z aM=>J z (List.mem_of_mem_take aM)
      rwa[List.length_take,Nat.min_eq_left (Nat.le_of_lt a6)]at this
     have v4:4294967296^(n-1)*(x[n-1]?.getD 0+4294967296*val (x.drop n)+1)<=4294967296^(n-1)*(y[n-1]?.getD 0+4294967296*val (y.drop n)):=Nat.mul_le_mul_left _ (by rw[gg];omega)
     rw[Nat.mul_add,Nat.mul_one]at v4
     omega
    simp(disch:=omega)[aH,o,bK,b6]
    refine dE.mk ⟨by omega,by omega⟩ ?_
    simp[aH,o,bK,nY,lH,bk,oT _ (show n-1<a.length by omega)]
    refine dE.mk ⟨by omega,by omega⟩ ?_
    simp[aH,o,bK,qR,mZ,bk,qX _ (show n-1<b.length by omega)]
    refine bH.b_ (fun a6=>?_) (fun a6=>?_)
    ·simp[bf]
     refine aE _ _ ⟨rfl,?_⟩
     rw[if_pos (key a b bt.2 bC.2 hlen Cp Cq aB (by omega) (by omega))]
    ·simp[bf]
     have:=key b a bC.2 bt.2 hlen.symm Cq Cp aB.symm (by omega) (by omega)
     refine aE _ _ ⟨rfl,?_⟩
     rw[if_neg (by omega),if_pos this]
  ·have jC:n=0:=by omega
   subst jC
   simp[bf]
   have:a=b:=by simpa using aB
   exact aE _ _ ⟨rfl,by rw[this];simp⟩
 ·simp
  refine bH.b_ (fun hn=>?_) (fun hn=>?_)
  ·simp[bf]
   have:=k1.u6 bt.2 (by omega)
   exact aE _ _ ⟨rfl,by simp[this]⟩
  ·simp[bf]
   have:=oQ.u6 bC.2 (by omega)
   exact aE _ _ ⟨rfl,by rw[if_neg (by omega),if_pos this]⟩
theorem adq(b:BitVec 32):IntKind.u32.wrap (b.toNat:Int)=b.toNat:=lY (Int.natCast_nonneg _) (by have:=b.isLt;omega)
theorem aaz{z:Nat}(h:z<4294967296):z/2147483648=(z.testBit 31).toNat:=by
 rw[Nat.testBit_eq_decide_div_mod_eq]
 have:z/2^31=z/2147483648:=rfl
 rw[this]
 by_cases aM:z<2147483648
 ·rw[Nat.div_eq_of_lt aM];rfl
 ·have:z/2147483648=1:=by omega
  rw[this];rfl
theorem FO{z:Nat}(h:z<4294967296):z.testBit 31=decide (2147483648<=z):=by
 rw[Nat.testBit_eq_decide_div_mod_eq]
 have:z/2^31=z/2147483648:=rfl
 rw[this]
 by_cases aM:z<2147483648
 ·rw[Nat.div_eq_of_lt aM];simp;omega
 ·have:z/2147483648=1:=by omega
  rw[this];simp;omega
theorem P4(x y c:Nat)(J:x<4294967296)(aL:y<4294967296)(ad:c<=1):
  (((4294967295^^^x)&&&y) ||| ((4294967295^^^(x^^^y))&&&((x+8589934592-y-c) % 4294967296)))/2147483648=if x<y+c then 1 else 0:=by
 have aB:(x+8589934592-y-c) % 4294967296<4294967296:=Nat.mod_lt _ (by decide)
 rw[aaz]
 ·simp only[Nat.testBit_or,Nat.testBit_and,Nat.testBit_xor,FO J,FO aL,FO aB,show Nat.testBit 4294967295 31=true from by decide]
  by_cases o:2147483648<=x<;>by_cases aa:2147483648<=y<;>by_cases aA:x<y+c<;>simp[o,aa,aA]<;>omega
 ·exact Nat.or_lt_two_pow (n:=32) (Nat.and_lt_two_pow _ aL) (Nat.and_lt_two_pow _ aB)
theorem Fz{x y c:Nat}{H:ab}(J:x<4294967296)(aL:y<4294967296)(ad:c<=1):aP prog 127 [.int .u32 x,.int .u32 y,.int .u32 c] H (fun au H1=>H1=H/\∃s d:Nat,au= .tuple #[.int .u32 s,.int .u32 d]/\s<4294967296/\d<=1/\x+4294967296*d=s+y+c):=by
 refine aP.b9 fun Q aE=>?_
 apply WS (by simp)
 obtain⟨d,aB⟩:∃d:Nat,d=(x+8589934592-y-c) % 4294967296:=⟨_,rfl⟩
 have bk:IntKind.u32.wrap (IntKind.u32.wrap ((x:Int)-y)-c)=(d:Int):=by
  rw[oy,oy]
  omega
 have bg:IntKind.u32.max=4294967295:=rfl
 have k4:d<4294967296:=by omega
 simp(disch:=first | omega | (simp<;>fail) | fail) [GN,bf,mT,bk,bg,adq]
 refine aE _ _ ⟨rfl,d,if x<y+c then 1 else 0,?_,k4,by split<;>omega,by split<;>omega⟩
 have ag:=P4 x y c J aL ad
 rw[<-aB]at ag
 have aG:((4294967295#32^^^BitVec.ofNat 32 x)&&&BitVec.ofNat 32 y ||| (4294967295#32^^^(BitVec.ofNat 32 x^^^BitVec.ofNat 32 y))&&&BitVec.ofNat 32 d).toNat=((4294967295^^^x)&&&y ||| (4294967295^^^(x^^^y))&&&d):=by
  rw[BitVec.toNat_or,BitVec.toNat_and,BitVec.toNat_and,BitVec.toNat_xor,BitVec.toNat_xor,BitVec.toNat_xor,BitVec.toNat_ofNat,BitVec.toNat_ofNat,BitVec.toNat_ofNat,BitVec.toNat_ofNat,Nat.mod_eq_of_lt J,Nat.mod_eq_of_lt aL,Nat.mod_eq_of_lt k4]
 show Value.tuple #[.int .u32 d,.int .u32 ((((4294967295#32^^^BitVec.ofNat 32 x)&&&BitVec.ofNat 32 y ||| (4294967295#32^^^(BitVec.ofNat 32 x^^^BitVec.ofNat 32 y))&&&BitVec.ofNat 32 d).toNat:Int)/2147483648)]=_
 rw[aG]
 have:(((4294967295^^^x)&&&y ||| (4294967295^^^(x^^^y))&&&d:Nat):Int)/2147483648=((((4294967295^^^x)&&&y ||| (4294967295^^^(x^^^y))&&&d)/2147483648:Nat):Int):=by simp
 rw[this,ag]
theorem p7(n:Nat):made (.int .u32 0) n=(List.replicate n 0).map fun(x:Nat)=>Value.int .u32 (x:Int):=by
 unfold made
 apply List.ext_getElem (by simp)
 intro i o aa
 simp[Value.cells,Nat.mod_one]
@[simp] theorem afS(k:IntKind)(n:Int):(Value.int k n).cells= #[.int k n]:=rfl
@[simp] theorem aia(k:IntKind)(n:Int):(Value.int k n).oneCell'=true:=rfl
@[simp] theorem akf(cs:List Value)(i:Nat)(v:Value):lX cs i [v]=cs.set i v:=rfl
@[simp] theorem Yd(H:ab)(X:bI):(H++[X])[H.length]?=some X:=by simp
@[simp] theorem afD(e:TypeId)(l:Bool)(cs:List Value):(some (bI.own e l cs)).bind bI.cells?=some cs:=rfl
@[simp] theorem afT(e:TypeId)(l:Bool)(cs:List Value):(bI.own e l cs).cells?=some cs:=rfl
@[simp] theorem afU(e:TypeId)(cs:List Value):(bI.ro e cs).cells?=some cs:=rfl
theorem nm{H:ab}{b:Nat}{X:bI}(h:H[b]?=some X)(N:ab):(H++N)[b]?=some X:=by
 rw[List.getElem?_append_left (cK.1 h).1];exact h
theorem cZ.fresh(H:ab)(e:Nat)(l:List Nat)(n c:Nat)(aG:n<=c)(ar:l.length=c)(a6:∀x∈l,x<4294967296)(b:Bool):cZ (H++[.own e b (l.map fun(x:Nat)=>Value.int .u32 (x:Int))]) e (.slice (some ⟨H.length,0,none⟩) n c) (l.take n):=by
 refine⟨⟨_,c,by simp[ar,Nat.min_eq_left aG],by simp[ar,Nat.min_eq_left aG];omega,by simp,fun ad=>⟨H.length,0,_,_,rfl,Yd H _,rfl,rfl,by simp[ar];omega,by simp[ar,Nat.min_eq_left aG,List.map_take]⟩⟩,fun x J=>a6 x (List.mem_of_mem_take J)⟩
theorem rO(l:List Nat)(i x:Nat)(ae:i<l.length):val ((l.set i x).take (i+1))=val (l.take i)+4294967296^i*x:=by
 rw[List.take_set,List.take_succ_eq_append_getElem ae,List.set_append_right _ _ (by simp;omega)]
 simp[Nat.min_eq_left (Nat.le_of_lt ae),nx,val]
theorem iV(l:List Nat)(i:Nat):val (l.take (i+1))=val (l.take i)+4294967296^i*(l[i]?.getD 0):=by
 by_cases ae:i<l.length
 ·rw[List.take_succ_eq_append_getElem ae,nx,bJ ae]
  simp[val,Nat.min_eq_left (Nat.le_of_lt ae)]
 ·rw[List.take_of_length_le (by omega),List.take_of_length_le (by omega),List.getElem?_eq_none (by omega)]
  simp
theorem wj{l:List Nat}{m:Nat}(hm:0<m)(h:∀x∈l,x<m)(k:Nat):l[k]?.getD 0<m:=by
 by_cases aj:k<l.length
 ·rw[bJ aj];exact h _ (List.getElem_mem aj)
 ·rw[List.getElem?_eq_none (by omega)];exact hm
theorem Nz{v w:Value}{a b:List Nat}{H:ab}(bt:cZ H 124 v a)(bC:cZ H 124 w b)(ki:a.length<1048576)(jA:b.length<1048576):
  aP prog 116 [v,w] H (fun au H1=>Ext H H1/\∃l,cZ H1 124 au l/\Trim l/\val l=val a+val b):=by
 refine aP.b9 fun Q aE=>?_
 apply Xp (by simp)
 obtain⟨er,ac,rfl⟩:=bt.len
 obtain⟨IA,IE,rfl⟩:=bC.len
 simp only[G3]
 rw[cE]
 simp[-cE]
 rw[cE]
 refine gW.cut (fun az H1=>H=H1/\∃x y iB mI c5 da,az 0= .slice x c5.length iB/\az 1= .slice y da.length mI/\cZ H 124 (.slice x c5.length iB) c5/\cZ H 124 (.slice y da.length mI) da/\da.length<=c5.length/\c5.length<1048576/\val c5+val da=val a+val b) ?_ ?_
 ·intro K a0
  simp(disch:=omega)[b6]
  refine bH.b_ (fun ar=>?_) (fun ar=>?_)
  ·simp
   exact a0 _ _ ⟨rfl,_,_,_,_,b,a,by simp,by simp,bC,bt,by omega,jA,by omega⟩
  ·simp
   exact a0 _ _ ⟨rfl,_,_,_,_,a,b,by simp,by simp,bt,bC,by omega,ki,by omega⟩
 ·rintro F H1 ⟨rfl,x,y,iB,mI,c5,da,aH,o,aQ,k2,hle,a6,gO⟩
  rw[cE]
  simp(disch:=omega)[aH,o,b6,-cE]
  refine yu (e:=124) (U:=1) (bA:=4) (eW:= .i64) (c4:= .i64) (l:=c5.length+1) (c:=c5.length+1) (z:= .int .u32 0) (by simp) (by simp) (by simp) (by simp) (by rfl) (by rfl) (by simp) (by simp) (by omega) (by omega) (Nat.le_refl _) (by omega) (by omega) ?_
  simp[-cE,p7]
  rw[cE]
  simp[-cE]
  rw[cE]
  refine gW.cut (fun az H1=>az 0= .slice x c5.length iB/\az 5= .slice (some ⟨H.length,0,none⟩) (c5.length+1) (c5.length+1)/\∃(out:List Nat) (c:Nat),H1=H++[.own 124 false (out.map fun(x:Nat)=>Value.int .u32 (x:Int))]/\az 6= .int .u32 c/\c<=1/\out.length=c5.length+1/\(∀x∈out,x<4294967296)/\val (out.take c5.length)+4294967296^c5.length*c=val c5+val da) ?_ ?_
  ·intro K a0
   simp(disch:=omega)[aH,o,b6]
   refine kQ.mk (ai:=fun n az H1=>∃i:Nat,n=c5.length-i/\i<=c5.length/\az 0= .slice x c5.length iB/\az 1= .slice y da.length mI/\az 21= .int .i64 c5.length/\az 22= .int .i64 i/\az 5= .slice (some ⟨H.length,0,none⟩) (c5.length+1) (c5.length+1)/\∃(out:List Nat) (c:Nat),H1=H++[.own 124 false (out.map fun(x:Nat)=>Value.int .u32 (x:Int))]/\az 6= .int .u32 c/\c<=1/\out.length=c5.length+1/\(∀x∈out,x<4294967296)/\val (out.take i)+4294967296^i*c=val (c5.take i)+val (da.take i)) c5.length ?_ ?_
   ·refine⟨0,by omega,by omega,by simp[aH],by simp[o],by simp,by simp,by simp,List.replicate (c5.length+1) 0,0,by simp,by simp,by omega,by simp,by simp,by simp[val]⟩
   ·rintro n az H1 ⟨i,rfl,ae,cq,cj,qJ,hZ,eL,out,c,rfl,gp,ad,dI,jf,an⟩ ef jw
    simp[qJ,hZ]
    refine bH.b_ (fun jB=>?_) (fun jB=>?_)
    ·simp[cq,cj,eL,gp,hZ,-cE]
     obtain⟨gH,i1,v9,yW,yZ,jR,nY,lH,KM,oT⟩:=aQ.at (by omega)
     cases jR
     have wS:=nm nY [.own 124 false (out.map fun(x:Nat)=>Value.int .u32 (x:Int))]
     rw[cE,FV,cE]
     simp[cq,cj,eL,gp,hZ,-cE]
     rw[cE]
     simp[cq,cj,eL,gp,hZ,-cE]
     rw[cE]
     refine gW.cut (fun bU aR=>H++[.own 124 false (out.map fun(x:Nat)=>Value.int .u32 (x:Int))]=aR/\bU 0=az 0/\bU 1=az 1/\bU 5=az 5/\bU 6=az 6/\bU 7= .int .i64 i/\bU 21=az 21/\bU 22=az 22/\bU 8= .int .u32 (da[i]?.getD 0:Nat)) ?_ ?_
     ·intro cT dT
      simp[cj]
      refine bH.b_ (fun w_=>?_) (fun w_=>?_)
      ·obtain⟨kc,i2,Cf,B1,B6,iN,qR,mZ,n4,qX⟩:=k2.at (by omega)
       cases iN
       have sn:=nm qR [.own 124 false (out.map fun(x:Nat)=>Value.int .u32 (x:Int))]
       simp[cj]
       refine dE.mk (by omega) ?_
       simp[cj,sn,mZ,qX _ w_]
       exact dT _ _ ⟨rfl,by simp,by simp[cj],by simp,by simp,by simp,by simp,by simp,by simp⟩
      ·simp[cj]
       exact dT _ _ ⟨rfl,by simp,by simp[cj],by simp,by simp,by simp,by simp,by simp,by rw[List.getElem?_eq_none (by omega)];simp⟩
     ·rintro bU aR ⟨rfl,f0,f1,f5,f6,f7,f21,f22,f8⟩
      simp[f0,f1,f5,f6,f7,f8,cq,cj,eL,gp]
      refine dE.mk (by omega) ?_
      simp[f0,f1,f5,f6,f7,f8,cq,cj,eL,gp,wS,lH,oT _ jB]
      refine aV.mk (Iv (aQ.lt i) (k2.lt i) ad) ?_
      rintro v bP ⟨rfl,s,d,rfl,ao,aB,DZ⟩
      simp[f0,f1,f5,f6,f7,f8,f22,cq,cj,eL,gp,hZ]
      refine dE.mk (by omega) ?_
      simp(disch:=omega)[f0,f1,f5,f6,f7,f8,f22,cq,cj,eL,gp,hZ,b6]
      refine dE.mk (by omega) ?_
      simp(disch:=omega)[f0,f1,f5,f6,f7,f8,f22,cq,cj,eL,gp,hZ,b6]
      refine jw (c5.length-(i+1)) _ _ (by omega) ⟨i+1,by omega,by omega,by simp[f0,cq],by simp[f1,cj],by simp[f21,qJ],by simp,by simp[f5,eL],out.set i s,d,by simp[List.map_set],by simp,aB,by simp[dI],?_,?_⟩
      ·intro z aM
       rcases List.mem_or_eq_of_mem_set aM with aM | rfl
       ·exact jf z aM
       ·exact ao
      ·rw[rO _ _ _ (by omega),iV c5,iV da,Nat.pow_succ]
       have:4294967296^i*(s+4294967296*d)=4294967296^i*(c5[i]?.getD 0+da[i]?.getD 0+c):=by rw[DZ]
       grind
    ·simp
     have:i=c5.length:=by omega
     subst this
     refine a0 _ _ ⟨by simp[cq],by simp[eL],out,c,rfl,by simp[gp],ad,dI,jf,?_⟩
     rw[an,List.take_length,List.take_of_length_le hle]
  ·rintro az H1 ⟨cq,eL,out,c,rfl,gp,ad,dI,jf,an⟩
   rw[cE]
   simp[cq,eL,gp,-cE]
   refine dE.mk (by omega) ?_
   simp[cq,eL,gp,-cE]
   refine dE.mk (by omega) ?_
   rw[cE]
   have sM:(List.map (fun(x:Nat)=>Value.int .u32 (x:Int)) out).set c5.length (.int .u32 (c:Int))=(out.set c5.length c).map fun(x:Nat)=>Value.int .u32 (x:Int):=by simp[List.map_set]
   simp[cq,eL,gp,-cE,sM,-List.map_set]
   have q1:∀z∈out.set c5.length c,z<4294967296:=fun z aM=>by
    rcases List.mem_or_eq_of_mem_set aM with aM | rfl
    ·exact jf z aM
    ·omega
   have ec:=cZ.fresh H 124 (out.set c5.length c) (c5.length+1) (c5.length+1) (Nat.le_refl _) (by simp[dI]) q1 false
   refine aV.mk (lW ec (by simp[dI];omega)) ?_
   rintro v H1 ⟨rfl,c_,dG,bc,dJ,-⟩
   simp[bf,-List.map_set]
   refine aE _ _ ⟨(Ext.refl H).snoc _ _ _,c_,dG,bc,?_⟩
   rw[dJ,rO _ _ _ (by omega),an,gO]
theorem M4{v w:Value}{a b:List Nat}{H:ab}(bt:cZ H 124 v a)(bC:cZ H 124 w b)(ki:a.length<1048576)(hle:b.length<=a.length)(gO:val b<=val a):
  aP prog 118 [v,w] H (fun au H1=>Ext H H1/\∃l,cZ H1 124 au l/\Trim l/\val l=val a-val b):=by
 refine aP.b9 fun Q aE=>?_
 apply Xn (by simp)
 obtain⟨x,iB,rfl⟩:=bt.len
 obtain⟨y,mI,rfl⟩:=bC.len
 by_cases pA:a.length=0
 ·have wV:a=[]:=List.eq_nil_of_length_eq_zero pA
  have mX:b=[]:=List.eq_nil_of_length_eq_zero (by omega)
  subst wV mX
  simp only[B3]
  rw[cE]
  simp[-cE]
  rw[cE]
  simp[-cE]
  refine Bw (e:=124) (U:=1) (bA:=4) (eW:= .i64) (c4:= .i64) (by simp) (by simp) (by simp) (by simp) (by simp) ?_
  simp
  refine kQ.mk (ai:=fun n az H1=>H=H1/\az 13= .int .i64 0/\az 14= .int .i64 0/\az 5= .slice (some ⟨0,0,none⟩) 0 0) 0 ⟨rfl,by simp,by simp,by simp⟩ ?_
  rintro n az H1 ⟨rfl,Cy,Cz,eL⟩ K a0
  simp[Cy,Cz,eL]
  refine aV.mk (lW (l:=[]) ⟨ep.void H _ _ _,by simp⟩ (by simp)) ?_
  rintro v H1 ⟨rfl,c_,dG,bc,dJ,-⟩
  simp[bf]
  exact aE _ _ ⟨Ext.refl _,c_,dG,bc,by simpa[val]using dJ⟩
 simp only[B3]
 rw[cE]
 simp[-cE]
 rw[cE]
 simp(disch:=omega)[b6,-cE]
 refine yu (e:=124) (U:=1) (bA:=4) (eW:= .i64) (c4:= .i64) (l:=a.length) (c:=a.length) (z:= .int .u32 0) (by simp) (by simp) (by simp) (by simp) (by rfl) (by rfl) (by simp) (by simp) (by omega) (by omega) (Nat.le_refl _) (by omega) (by omega) ?_
 simp[-cE,p7]
 rw[cE]
 simp[-cE]
 rw[cE]
 refine gW.cut (fun az H1=>az 5= .slice (some ⟨H.length,0,none⟩) a.length a.length/\∃(out:List Nat) (c:Nat),H1=H++[.own 124 false (out.map fun(x:Nat)=>Value.int .u32 (x:Int))]/\out.length=a.length/\(∀x∈out,x<4294967296)/\val a+4294967296^a.length*c=val out+val b) ?_ ?_
 ·intro K a0
  simp(disch:=omega)[b6]
  refine kQ.mk (ai:=fun n az H1=>∃i:Nat,n=a.length-i/\i<=a.length/\az 0= .slice x a.length iB/\az 1= .slice y b.length mI/\az 13= .int .i64 a.length/\az 14= .int .i64 i/\az 5= .slice (some ⟨H.length,0,none⟩) a.length a.length/\∃(out:List Nat) (c:Nat),H1=H++[.own 124 false (out.map fun(x:Nat)=>Value.int .u32 (x:Int))]/\az 6= .int .u32 c/\c<=1/\out.length=a.length/\(∀x∈out,x<4294967296)/\val (a.take i)+4294967296^i*c=val (out.take i)+val (b.take i)) a.length ?_ ?_
  ·refine⟨0,by omega,by omega,by simp,by simp,by simp,by simp,by simp,List.replicate a.length 0,0,by simp,by simp,by omega,by simp,by simp,by simp[val]⟩
  ·rintro n az H1 ⟨i,rfl,ae,cq,cj,qJ,hZ,eL,out,c,rfl,gp,ad,dI,jf,an⟩ ef jw
   simp[qJ,hZ]
   refine bH.b_ (fun jB=>?_) (fun jB=>?_)
   ·simp[cq,cj,eL,gp,hZ,-cE]
    obtain⟨gH,i1,v9,yW,yZ,jR,nY,lH,KM,oT⟩:=bt.at (by omega)
    cases jR
    have wS:=nm nY [.own 124 false (out.map fun(x:Nat)=>Value.int .u32 (x:Int))]
    rw[cE,FV,cE]
    simp[cq,cj,eL,gp,hZ,-cE]
    rw[cE]
    simp[cq,cj,eL,gp,hZ,-cE]
    rw[cE]
    refine gW.cut (fun bU aR=>H++[.own 124 false (out.map fun(x:Nat)=>Value.int .u32 (x:Int))]=aR/\bU 0=az 0/\bU 1=az 1/\bU 5=az 5/\bU 6=az 6/\bU 7= .int .i64 i/\bU 13=az 13/\bU 14=az 14/\bU 8= .int .u32 (b[i]?.getD 0:Nat)) ?_ ?_
    ·intro cT dT
     simp[cj]
     refine bH.b_ (fun w_=>?_) (fun w_=>?_)
     ·obtain⟨kc,i2,Cf,B1,B6,iN,qR,mZ,n4,qX⟩:=bC.at (by omega)
      cases iN
      have sn:=nm qR [.own 124 false (out.map fun(x:Nat)=>Value.int .u32 (x:Int))]
      simp[cj]
      refine dE.mk (by omega) ?_
      simp[cj,sn,mZ,qX _ w_]
      exact dT _ _ ⟨rfl,by simp,by simp[cj],by simp,by simp,by simp,by simp,by simp,by simp⟩
     ·simp[cj]
      exact dT _ _ ⟨rfl,by simp,by simp[cj],by simp,by simp,by simp,by simp,by simp,by rw[List.getElem?_eq_none (by omega)];simp⟩
    ·rintro bU aR ⟨rfl,f0,f1,f5,f6,f7,f21,f22,f8⟩
     simp[f0,f1,f5,f6,f7,f8,cq,cj,eL,gp]
     refine dE.mk (by omega) ?_
     simp[f0,f1,f5,f6,f7,f8,cq,cj,eL,gp,wS,lH,oT _ jB]
     refine aV.mk (Fz (bt.lt i) (bC.lt i) ad) ?_
     rintro v bP ⟨rfl,s,d,rfl,ao,aB,DZ⟩
     simp[f0,f1,f5,f6,f7,f8,f22,cq,cj,eL,gp,hZ]
     refine dE.mk (by omega) ?_
     simp(disch:=omega)[f0,f1,f5,f6,f7,f8,f22,cq,cj,eL,gp,hZ,b6]
     refine dE.mk (by omega) ?_
     simp(disch:=omega)[f0,f1,f5,f6,f7,f8,f22,cq,cj,eL,gp,hZ,b6]
     refine jw (a.length-(i+1)) _ _ (by omega) ⟨i+1,by omega,by omega,by simp[f0,cq],by simp[f1,cj],by simp[f21,qJ],by simp,by simp[f5,eL],out.set i s,d,by simp[List.map_set],by simp,aB,by simp[dI],?_,?_⟩
     ·intro z aM
      rcases List.mem_or_eq_of_mem_set aM with aM | rfl
      ·exact jf z aM
      ·exact ao
     ·rw[rO _ _ _ (by omega),iV a,iV b,Nat.pow_succ]
      have:4294967296^i*(a[i]?.getD 0+4294967296*d)=4294967296^i*(s+b[i]?.getD 0+c):=by rw[DZ]
      grind
   ·simp
    have:i=a.length:=by omega
    subst this
    refine a0 _ _ ⟨by simp[eL],out,c,rfl,dI,jf,?_⟩
    rw[List.take_length,List.take_of_length_le hle,<-dI,List.take_length]at an
    rw[<-dI]
    exact an
 ·rintro az H1 ⟨eL,out,c,rfl,dI,jf,an⟩
  have DQ:=j7 jf
  have pI:c=0:=by
   rcases Nat.eq_zero_or_pos c with h | h
   ·exact h
   ·have:4294967296^a.length*1<=4294967296^a.length*c:=Nat.mul_le_mul_left _ h
    rw[dI]at DQ
    omega
  subst pI
  rw[cE]
  simp[eL,-cE]
  have ec:=cZ.fresh H 124 out a.length a.length (Nat.le_refl _) dI jf false
  refine aV.mk (lW ec (by simp[dI];omega)) ?_
  rintro v H1 ⟨rfl,c_,dG,bc,dJ,-⟩
  simp[bf]
  refine aE _ _ ⟨(Ext.refl H).snoc _ _ _,c_,dG,bc,?_⟩
  rw[dJ,<-dI,List.take_length]
  omega
theorem O5(l:List Nat)(i x:Nat)(ae:i<l.length):val (l.set i x)+4294967296^i*(l[i]?.getD 0)=val l+4294967296^i*x:=by
 induction l generalizing i with
 | nil=>simp at ae
 | cons y l a2=>
  cases i with
  | zero=>simp[val];omega
  | succ i=>
   simp only[List.set_cons_succ,val,List.getElem?_cons_succ,Nat.pow_succ]
   have:=a2 i (by simpa using ae)
   grind
theorem ET{p q:Nat}(aY:p<4294967296)(av:q<4294967296):IntKind.u64.wrap ((p:Int)*q)=((p*q:Nat):Int):=by
 have UX:p*q<=4294967295*4294967295:=Nat.mul_le_mul (by omega) (by omega)
 have o:(p:Int)*q=((p*q:Nat):Int):=by simp
 rw[o]
 exact f_ (Int.natCast_nonneg _) (by omega)
theorem JG{l:List Nat}{i j x:Nat}(h:i≠j):(l.set i x)[j]?.getD 0=l[j]?.getD 0:=by rw[List.getElem?_set_ne h]
theorem Oo{v w:Value}{a b:List Nat}{H:ab}(bt:cZ H 124 v a)(bC:cZ H 124 w b)(ki:a.length<1048576)(jA:b.length<1048576):
  aP prog 93 [v,w] H (fun au H1=>Ext H H1/\∃l,cZ H1 124 au l/\Trim l/\val l=val a*val b):=by
 refine aP.b9 fun Q aE=>?_
 apply Xs (by simp)
 obtain⟨x,iB,rfl⟩:=bt.len
 obtain⟨y,mI,rfl⟩:=bC.len
 by_cases pA:a.length+b.length=0
 ·have wV:a=[]:=List.eq_nil_of_length_eq_zero (by omega)
  have mX:b=[]:=List.eq_nil_of_length_eq_zero (by omega)
  subst wV mX
  simp only[B4]
  rw[cE]
  simp[-cE]
  rw[cE]
  simp(disch:=omega)[-cE,b6]
  refine Bw (e:=124) (U:=1) (bA:=4) (eW:= .i64) (c4:= .i64) (by simp) (by simp) (by simp) (by simp) (by simp) ?_
  simp
  refine kQ.mk (ai:=fun n az H1=>H=H1/\az 19= .int .i64 0/\az 20= .int .i64 0/\az 5= .slice (some ⟨0,0,none⟩) 0 0) 0 ⟨rfl,by simp,by simp,by simp⟩ ?_
  rintro n az H1 ⟨rfl,Cy,Cz,eL⟩ K a0
  simp[Cy,Cz,eL]
  refine aV.mk (lW (l:=[]) ⟨ep.void H _ _ _,by simp⟩ (by simp)) ?_
  rintro v H1 ⟨rfl,c_,dG,bc,dJ,-⟩
  simp[bf]
  exact aE _ _ ⟨Ext.refl _,c_,dG,bc,by simpa[val]using dJ⟩
 simp only[B4]
 rw[cE]
 simp[-cE]
 rw[cE]
 simp(disch:=omega)[b6,-cE]
 refine yu (e:=124) (U:=1) (bA:=4) (eW:= .i64) (c4:= .i64) (l:=a.length+b.length) (c:=a.length+b.length) (z:= .int .u32 0) (by simp) (by simp) (by simp) (by simp) (by rfl) (by rfl) (by simp) (by simp) (by omega) (by omega) (Nat.le_refl _) (by omega) (by omega) ?_
 simp[-cE,p7]
 rw[cE]
 refine gW.cut (fun az H1=>az 5= .slice (some ⟨H.length,0,none⟩) (a.length+b.length) (a.length+b.length)/\∃(out:List Nat),H1=H++[.own 124 false (out.map fun(x:Nat)=>Value.int .u32 (x:Int))]/\out.length=a.length+b.length/\(∀x∈out,x<4294967296)/\val out=val a*val b) ?_ ?_
 ·intro K a0
  simp(disch:=omega)[b6]
  refine kQ.mk (ai:=fun n az H1=>∃i:Nat,n=a.length-i/\i<=a.length/\az 18= .slice x a.length iB/\az 1= .slice y b.length mI/\az 19= .int .i64 a.length/\az 20= .int .i64 i/\az 5= .slice (some ⟨H.length,0,none⟩) (a.length+b.length) (a.length+b.length)/\∃(out:List Nat),H1=H++[.own 124 false (out.map fun(x:Nat)=>Value.int .u32 (x:Int))]/\out.length=a.length+b.length/\(∀x∈out,x<4294967296)/\(∀k,i+b.length<=k->out[k]?.getD 0=0)/\val out=val (a.take i)*val b) a.length ?_ ?_
  ·refine⟨0,by omega,by omega,by simp,by simp,by simp,by simp,by simp,List.replicate (a.length+b.length) 0,by simp,by simp,by simp,?_,by simp[val,F4]⟩
   intro k aj
   rw[List.getElem?_replicate]
   split<;>rfl
  ·rintro n az H1 ⟨i,rfl,ae,cq,cj,qJ,hZ,eL,out,rfl,dI,jf,aM,an⟩ ef jw
   simp[qJ,hZ]
   refine bH.b_ (fun jB=>?_) (fun jB=>?_)
   ·simp[cq,cj,eL,hZ,-cE]
    obtain⟨gH,i1,v9,yW,yZ,jR,nY,lH,-,oT⟩:=bt.at (by omega)
    cases jR
    have wS:=nm nY [.own 124 false (out.map fun(x:Nat)=>Value.int .u32 (x:Int))]
    obtain⟨p,aY⟩:∃p,a[i]?.getD 0=p:=⟨_,rfl⟩
    have kE:p<4294967296:=aY▸bt.lt i
    have jS:=oT _ jB
    rw[aY]at jS
    rw[cE,FV,cE]
    simp[cq,cj,eL,hZ,-cE]
    refine dE.mk (by omega) ?_
    simp[cq,cj,eL,hZ,-cE,wS,lH,jS]
    rw[cE]
    simp[-cE]
    rw[cE]
    refine gW.cut (fun bU aR=>bU 18=az 18/\bU 1=az 1/\bU 19=az 19/\bU 20=az 20/\bU 5=az 5/\bU 6= .int .i64 i/\∃(g1:List Nat) (c:Nat),aR=H++[.own 124 false (g1.map fun(x:Nat)=>Value.int .u32 (x:Int))]/\bU 8= .int .u64 c/\c<4294967296/\g1.length=a.length+b.length/\(∀x∈g1,x<4294967296)/\(∀k,i+b.length<=k->g1[k]?.getD 0=0)/\val g1+4294967296^(i+b.length)*c=val (a.take i)*val b+4294967296^i*(p*val b)) ?_ ?_
    ·intro cT dT
     rw[cE]
     simp[cj]
     refine kQ.mk (ai:=fun n bU aR=>∃j:Nat,n=b.length-j/\j<=b.length/\bU 18=az 18/\bU 1=az 1/\bU 25=az 1/\bU 26= .int .i64 b.length/\bU 27= .int .i64 j/\bU 7= .int .u32 p/\bU 19=az 19/\bU 20=az 20/\bU 5=az 5/\bU 6= .int .i64 i/\∃(g1:List Nat) (c:Nat),aR=H++[.own 124 false (g1.map fun(x:Nat)=>Value.int .u32 (x:Int))]/\bU 8= .int .u64 c/\c<4294967296/\g1.length=a.length+b.length/\(∀x∈g1,x<4294967296)/\(∀k,i+b.length<=k->g1[k]?.getD 0=0)/\val g1+4294967296^(i+j)*c=val (a.take i)*val b+4294967296^i*(p*val (b.take j))) b.length ?_ ?_
     ·exact⟨0,by omega,by omega,by simp,by simp[cj],by simp[cj],by simp,by simp,by simp,by simp,by simp,by simp,by simp,out,0,by simp,by simp,by omega,dI,jf,aM,by simp[val,an]⟩
     ·rintro n bU aR ⟨j,rfl,aX,f18,f1,f25,f26,f27,f7,f19,f20,f5,f6,g1,c,rfl,f8,ad,Aj,xk,sZ,dJ⟩ nG fX
      simp[f26,f27]
      refine bH.b_ (fun q1=>?_) (fun q1=>?_)
      ·obtain⟨kc,i2,Cf,B1,B6,iN,qR,mZ,-,qX⟩:=bC.at (by omega)
       cases iN
       have sn:=nm qR [.own 124 false (g1.map fun(x:Nat)=>Value.int .u32 (x:Int))]
       obtain⟨q,av⟩:∃q,b[j]?.getD 0=q:=⟨_,rfl⟩
       have q6:q<4294967296:=av▸bC.lt j
       have jT:=qX _ q1
       rw[av]at jT
       obtain⟨R,aK⟩:∃R,g1[i+j]?.getD 0=R:=⟨_,rfl⟩
       have ahC:R<4294967296:=aK▸wj (by decide) xk _
       have KT:g1[i+j]?=some R:=by rw[bJ (by omega)]at aK⊢;simpa using aK
       have UX:p*q<=4294967295*4294967295:=Nat.mul_le_mul (by omega) (by omega)
       simp[f25,f27,cj]
       refine dE.mk (by omega) ?_
       have t1:((i:Int)+j).toNat=i+j:=by omega
       obtain⟨m,hm⟩:∃m,p*q=m:=⟨_,rfl⟩
       have vs:IntKind.u64.wrap ((p:Int)*q)=(m:Int):=hm▸ET kE q6
       obtain⟨s,ao⟩:∃s,(m+R+c) % 4294967296=s:=⟨_,rfl⟩
       obtain⟨d,aB⟩:∃d,(m+R+c)/4294967296=d:=⟨_,rfl⟩
       have bV:IntKind.u32.wrap ((m:Int)+R+c)=(s:Int):=by rw[oy];omega
       have hW:((m:Int)+R+c)/4294967296=(d:Int):=by omega
       simp(disch:=first | omega | (simp<;>fail) | fail) [f5,f6,f7,f8,f25,f27,cj,eL,sn,mZ,jT,b6,f_,vs,-getElem?_pos]
       refine dE.mk (by omega) ?_
       simp(disch:=first | omega | (simp<;>fail) | fail) [f5,f6,f7,f8,f25,f27,cj,eL,sn,mZ,jT,b6,f_,vs,t1,KT,-getElem?_pos,bV,hW,mT]
       refine dE.mk (by omega) ?_
       simp(disch:=first | omega | (simp<;>fail) | fail) [f5,f6,f7,f8,f25,f27,cj,eL,sn,mZ,jT,b6,f_,vs,t1,KT,-getElem?_pos,bV,hW,mT]
       refine dE.mk (by omega) ?_
       simp(disch:=first | omega | (simp<;>fail) | fail) [f27,b6]
       refine fX (b.length-(j+1)) _ _ (by omega) ⟨j+1,by omega,by omega,by simp[f18],by simp[f1],by simp[f25],by simp[f26],by simp,by simp[f7],by simp[f19],by simp[f20],by simp[f5],by simp[f6],g1.set (i+j) s,d,by simp[List.map_set],by simp,by omega,by simp[Aj],?_,?_,?_⟩
       ·intro z aM
        rcases List.mem_or_eq_of_mem_set aM with aM | rfl
        ·exact xk z aM
        ·omega
       ·intro k aj
        rw[JG (by omega)]
        exact sZ k aj
       ·have o:=O5 g1 (i+j) s (by omega)
        rw[aK]at o
        rw[iV b,av,show i+(j+1)=i+j+1 from rfl,Nat.pow_succ]
        have aa:s+4294967296*d=p*q+R+c:=by omega
        have aA:4294967296^(i+j)*(s+4294967296*d)=4294967296^(i+j)*(p*q+R+c):=by rw[aa]
        rw[Nat.pow_add]at*
        grind
      ·simp
       have:j=b.length:=by omega
       subst this
       exact dT _ _ ⟨by simp[f18],by simp[f1],by simp[f19],by simp[f20],by simp[f5],by simp[f6],g1,c,rfl,by simp[f8],ad,Aj,xk,sZ,by rw[dJ,List.take_length]⟩
    ·rintro bU aR ⟨f18,f1,f19,f20,f5,f6,g1,c,rfl,f8,ad,Aj,xk,sZ,dJ⟩
     have vs:IntKind.u32.wrap (c:Int)=(c:Int):=lY (by omega) (by omega)
     have t1:((i:Int)+b.length).toNat=i+b.length:=by omega
     simp(disch:=first | omega | (simp<;>fail) | fail) [f18,f1,f19,f20,f5,f6,f8,cq,cj,eL,hZ,b6,vs]
     refine dE.mk (by omega) ?_
     simp(disch:=first | omega | (simp<;>fail) | fail) [f18,f1,f19,f20,f5,f6,f8,cq,cj,eL,hZ,b6,vs,t1]
     refine dE.mk (by omega) ?_
     simp(disch:=first | omega | (simp<;>fail) | fail) [f20,hZ,b6]
     refine jw (a.length-(i+1)) _ _ (by omega) ⟨i+1,by omega,by omega,by simp[f18,cq],by simp[f1,cj],by simp[f19,qJ],by simp,by simp[f5,eL],g1.set (i+b.length) c,by simp[List.map_set],by simp[Aj],?_,?_,?_⟩
     ·intro z aM
      rcases List.mem_or_eq_of_mem_set aM with aM | rfl
      ·exact xk z aM
      ·omega
     ·intro k aj
      rw[JG (by omega)]
      exact sZ k (by omega)
     ·have o:=O5 g1 (i+b.length) c (by omega)
      rw[sZ _ (Nat.le_refl _)]at o
      rw[iV a,aY,Nat.add_mul]
      grind
   ·simp
    have:i=a.length:=by omega
    subst this
    exact a0 _ _ ⟨by simp[eL],out,rfl,dI,jf,by rw[an,List.take_length]⟩
 ·rintro az H1 ⟨eL,out,rfl,dI,jf,an⟩
  rw[cE]
  simp[eL,-cE]
  have ec:=cZ.fresh H 124 out (a.length+b.length) (a.length+b.length) (Nat.le_refl _) dI jf false
  refine aV.mk (lW ec (by simp[dI];omega)) ?_
  rintro v H1 ⟨rfl,c_,dG,bc,dJ,-⟩
  simp[bf]
  refine aE _ _ ⟨(Ext.refl H).snoc _ _ _,c_,dG,bc,?_⟩
  rw[dJ,<-dI,List.take_length,an]
@[simp] theorem afv(H N:ab):(H++N)[H.length]?=N[0]?:=by rw[List.getElem?_append_right (Nat.le_refl _),Nat.sub_self]
@[simp] theorem afR(b:Bool):(Value.bool b).cells= #[.bool b]:=rfl
@[simp] theorem afV(a:Option Addr)(n c:Nat):(Value.slice a n c).cells= #[.slice a n c]:=rfl
@[simp] theorem afQ(cs:Array Value):(Value.agg cs).cells=cs:=rfl
@[simp] theorem afW(s:ByteArray):(Value.string s).cells= #[.string s]:=rfl
@[simp] theorem ah9(b:Bool):(Value.bool b).oneCell'=true:=rfl
@[simp] theorem aib(a:Option Addr)(n c:Nat):(Value.slice a n c).oneCell'=true:=rfl
@[simp] theorem aic(s:ByteArray):(Value.string s).oneCell'=true:=rfl
@[simp] theorem ake(cs:List Value)(i:Nat):lX cs i []=db cs i []:=rfl
@[simp] theorem akg(cs:List Value)(i:Nat)(v w:Value)(aD:List Value):lX cs i (v::w::aD)=db cs i (v::w::aD):=rfl
theorem Ext.more(H:ab){N:ab}(h:∀x∈N,∀e cs,x≠ .ro e cs):Ext H (H++N):=⟨N,rfl,h⟩
theorem ep.set{H:ab}{e U n b:Nat}{v:Value}{cs:List Value}{X Y:bI}(h:ep H e U v n cs)(ag:H[b]?=some Y)(he:Y.elem?≠some e):ep (H.set b X) e U v n cs:=by
 obtain⟨a,cap,an,o,aa,aA⟩:=h
 refine⟨a,cap,an,o,aa,fun ad=>?_⟩
 obtain⟨cu,i,PK,all,a1,a3,bG,cn,e5⟩:=aA ad
 refine⟨cu,i,PK,all,a1,?_,bG,cn,e5⟩
 have:b≠cu:=fun cP=>by
  subst cP
  rw[ag]at a3
  exact he (Option.some.inj a3▸cn)
 rw[List.getElem?_set_ne this]
 exact a3
theorem cZ.set{H:ab}{e b:Nat}{v:Value}{l:List Nat}{X Y:bI}(h:cZ H e v l)(ag:H[b]?=some Y)(he:Y.elem?≠some e):cZ (H.set b X) e v l:=⟨h.1.set ag he,h.2⟩
theorem s5{neg:Bool}{a:Option Addr}{n c:Nat}{H:ab}:aP prog 92 [.bool neg,.slice a n c] H (fun v H1=>Ext H H1/\v= .agg #[.bool (neg&&decide (0<n)),.slice a n c]):=by
 refine aP.b9 fun Q aE=>?_
 apply Xm (by simp)
 simp[G2]
 cases neg<;>simp[db,bf]
 ·exact aE _ _ ⟨Ext.more H (by simp),by simp⟩
 ·exact aE _ _ ⟨Ext.more H (by simp),by simp⟩
def di(H:ab)(v:Value)(z:Int):Prop:=∃(a:Option Addr) (c:Nat) (l:List Nat),v= .agg #[.bool (decide (z<0)),.slice a l.length c]/\cZ H 124 (.slice a l.length c) l/\Trim l/\val l=z.natAbs
theorem di.ext{H H1:ab}{v:Value}{z:Int}(h:di H v z)(J:Ext H H1):di H1 v z:=by
 obtain⟨a,c,l,o,aa,aA⟩:=h
 exact⟨a,c,l,o,aa.ext J,aA⟩
theorem Trim.pos{l:List Nat}(h:Trim l):0<l.length↔0<val l:=by
 have:=h.zero
 constructor
 ·intro o
  rcases Nat.eq_zero_or_pos (val l)with aa | aa
  ·rw[this.1 aa]at o;simp at o
  ·exact aa
 ·intro o
  rcases Nat.eq_zero_or_pos l.length with aa | aa
  ·rw[List.eq_nil_of_length_eq_zero aa]at o;simp[val]at o
  ·exact aa
theorem di.mk'{H:ab}{v:Value}{neg:Bool}{l:List Nat}{a:Option Addr}{c:Nat}(an:v= .agg #[.bool (neg&&decide (0<l.length)),.slice a l.length c])(ec:cZ H 124 (.slice a l.length c) l)(bc:Trim l):di H v (if neg=true then-(val l:Int)else val l):=by
 refine⟨a,c,l,?_,ec,bc,by cases neg<;>simp⟩
 rw[an]
 have:=bc.pos
 cases neg
 ·have e:decide ((if false=true then-(val l:Int)else(val l:Int))<0)=false:=by simp
  rw[e];simp
 ·have e:decide ((if true=true then-(val l:Int)else(val l:Int))<0)=decide (0<l.length):=by
   simp only[if_true]
   by_cases h:0<l.length
   ·have:=this.1 h
    simp[h];omega
   ·have aa:¬0<val l:=fun aa=>h (this.2 aa)
    simp[h];omega
  rw[e];simp
theorem vb{n:Int}{H:ab}(o: -9223372036854775808<=n)(aa:n<9223372036854775808):aP prog 88 [.int .i64 n] H (fun v H1=>Ext H H1/\di H1 v n):=by
 refine aP.b9 fun Q aE=>?_
 apply W7 (by simp)
 simp only[GW]
 rw[cE]
 simp[-cE]
 rw[cE]
 simp[-cE]
 rw[cE]
 refine gW.cut (fun az H1=>H1=H++[.own 78 false [.bool false,.slice none 0 0]]/\az 0= .int .i64 n/\az 2= .pointer (some ⟨H.length,0,none⟩)/\az 3= .int .u64 n.natAbs) ?_ ?_
 ·intro K a0
  simp
  refine bH.b_ (fun h=>?_) (fun h=>?_)
  ·simp
   refine a0 _ _ ⟨rfl,by simp,by simp,?_⟩
   simp[Pj]
   omega
  ·simp
   refine a0 _ _ ⟨rfl,by simp,by simp,?_⟩
   simp[Pj]
   omega
 ·rintro F H1 ⟨rfl,f0,f2,f3⟩
  have ag:n.natAbs<18446744073709551616:=by omega
  obtain⟨m,hm⟩:∃m,n.natAbs=m:=⟨_,rfl⟩
  rw[hm]at f3 ag
  obtain⟨bb,g0⟩:∃bb,m % 4294967296=bb:=⟨_,rfl⟩
  obtain⟨ae,hQ⟩:∃ae,m/4294967296=ae:=⟨_,rfl⟩
  have bk:IntKind.u32.wrap (m:Int)=(bb:Int):=by rw[oy];omega
  have bg:IntKind.u32.wrap ((m:Int)/4294967296)=(ae:Int):=by rw[oy];omega
  rw[cE]
  simp(disch:=first | omega | (simp<;>fail) | fail) [f0,f2,f3,bk,bg,mT,-cE]
  refine tc (e:=124) (U:=1) (z:= .int .u32 0) (out:=[.int .u32 bb,.int .u32 ae]) (by simp) (by simp) (by simp) (by rfl) (by rfl) (by omega) (by omega) (by omega) ?_ (by simp) ?_
  ·simp[iY,p7]
  simp[-cE]
  have ec:=cZ.fresh (H++[.own 78 false [.bool false,.slice none 0 0]]) 124 [bb,ae] 2 2 (by omega) (by simp) (by simp;omega) false
  simp at ec
  refine aV.mk (lW ec (by simp)) ?_
  rintro v H1 ⟨rfl,l,ar,bc,an,hlen⟩
  obtain⟨a,c,rfl⟩:=ar.len
  simp[f0,f2,-cE]
  refine aV.mk s5 ?_
  rintro v H1 ⟨J,rfl⟩
  have cq:H1[H.length]?=some (.own 78 false [.bool false,.slice none 0 0]):=J.get_some (by simp)
  have a6:H.length<H1.length:=(cK.1 cq).1
  have bn:Ext H H1:=(Ext.more H (by simp)).aw J
  simp[f2,cq,List.getElem?_set_self a6,db,bf,-getElem?_pos]
  refine aE _ _ ⟨bn.set (Nat.le_refl _) (by simp),?_⟩
  have gO:val l=n.natAbs:=by
   rw[an]
   simp[val]
   omega
  have sm:cZ (H1.set H.length (.own 78 false [.bool (decide (n<0)&&decide (0<l.length)),.slice a l.length c])) 124 (.slice a l.length c) l:=(ar.ext J).set cq (by simp[bI.elem?])
  have pS:=di.mk' (neg:=decide (n<0)) rfl sm bc
  rw[gO]at pS
  have aM:(if decide (n<0)=true then-((n.natAbs:Nat):Int)else(n.natAbs:Int))=n:=by
   simp only[decide_eq_true_eq]
   split<;>omega
  rwa[aM]at pS
def Fits(z:Int):Prop:=z.natAbs<4294967296^1000000
theorem Fits.length{z:Int}(h:Fits z){l:List Nat}(bc:Trim l)(an:val l=z.natAbs):l.length<=1000000:=bc.length_le (by rw[an];exact h)
theorem rA(a n m:Nat)(aO:0<a)(h:n<=m):a^n<=a^m:=Nat.pow_le_pow_right aO h
theorem Fb(a b n:Nat)(h:a<=b):a^n<=b^n:=Nat.pow_le_pow_left h n
theorem Fa(a n m k:Nat)(h:n*m=k):a^k=(a^n)^m:=by rw[<-h,Nat.pow_mul]
theorem Zf(k:Nat):(4294967296:Nat)^k=2^(32*k):=by rw[Nat.pow_mul]
theorem Zc{v N:Nat}(M:Nat)(h:v<2^N)(bX:N<=32*M):v<4294967296^M:=by
 rw[Zf];exact Nat.lt_of_lt_of_le h (Nat.pow_le_pow_right (by decide) bX)
theorem Zg{v n:Nat}(m:Nat)(h:v<4294967296^n)(aG:n<=m):v<10^(10*m):=by
 rw[Nat.pow_mul];exact Nat.lt_of_lt_of_le h (Nat.le_trans (Nat.pow_le_pow_right (by decide) aG) (Nat.pow_le_pow_left (by decide) m))
theorem Zd(a n b cW m k kj:Nat)(h:n*m=k)(aa:cW*m=kj)(hle:a^n<=b^cW):a^k<=b^kj:=by
 rw[<-h,<-aa,Nat.pow_mul,Nat.pow_mul];exact Nat.pow_le_pow_left hle m
theorem Ze{v e n:Nat}(m:Nat)(h:v<10^n)(he:e<=10^9)(aG:n+9<m):v*e<4294967296^m:=by
 refine Nat.lt_of_le_of_lt (Nat.mul_le_mul (Nat.le_of_lt h) he) (Nat.lt_of_lt_of_le ?_ (Nat.pow_le_pow_left (show 10<=4294967296 by decide) m))
 rw[<-Nat.pow_add];exact Nat.pow_lt_pow_right (by decide) aG
theorem Fc(n:Nat)(h:n≠0):1<2^n:=Nat.one_lt_two_pow h
theorem Fits.small{z:Int}(h:z.natAbs<4294967296^8):Fits z:=Nat.lt_of_lt_of_le h (rA 4294967296 8 1000000 (by decide) (by decide))
theorem Fits.neg{z:Int}(h:Fits z):Fits (-z):=by unfold Fits at*;rwa[Int.natAbs_neg]
theorem AV{v:Value}{a:Int}{H:ab}(bt:di H v a):aP prog 113 [v] H (fun v H1=>Ext H H1/\di H1 v (-a)):=by
 refine aP.b9 fun Q aE=>?_
 apply W2 (by simp)
 obtain⟨x,iB,l,rfl,ec,bc,an⟩:=bt
 simp[GS]
 refine aV.mk s5 ?_
 rintro v H1 ⟨J,rfl⟩
 have cq:H1[H.length+1]?=some (.own 78 false [.bool false,.slice none 0 0]):=J.get_some (by simp)
 have a6:H.length+1<H1.length:=(cK.1 cq).1
 have bn:Ext H H1:=(Ext.more H (by simp)).aw J
 simp[cq,List.getElem?_set_self a6,db,bf,-getElem?_pos]
 refine aE _ _ ⟨bn.set (by omega) (by simp),?_⟩
 have pS:=di.mk' (neg:= !decide (a<0)) rfl ((ec.ext bn).set (X:= .own 78 false [.bool (!decide (a<0)&&decide (0<l.length)),.slice x l.length iB]) cq (by simp[bI.elem?])) bc
 rw[an]at pS
 have aM:(if(!decide (a<0))=true then-((a.natAbs:Nat):Int)else(a.natAbs:Int))= -a:=by
  simp
  split<;>omega
 rw[aM]at pS
 exact pS
theorem N8{v:Value}{a:Int}{H:ab}(bt:di H v a):aP prog 95 [v] H (fun v H1=>Ext H H1/\v= .int .i64 (if a<0 then-1 else if a=0 then 0 else 1)):=by
 refine aP.b9 fun Q aE=>?_
 apply W4 (by simp)
 obtain⟨x,iB,l,rfl,ec,bc,an⟩:=bt
 have aY:=bc.pos
 simp[GU]
 refine bH.b_ (fun h=>?_) (fun h=>?_)
 ·simp[bf]
  refine aE _ _ ⟨Ext.more H (by simp),?_⟩
  have:a=0:=by
   rw[h]at an
   simp[val]at an
   omega
  simp[this]
 ·simp
  have aH:a≠0:=fun aH=>by
   have:0<l.length:=List.length_pos_iff.2 h
   rw[aH]at an
   omega
  refine bH.b_ (fun o=>?_) (fun o=>?_)
  ·simp[bf]
   exact aE _ _ ⟨Ext.more H (by simp),by simp[o]⟩
  ·simp[bf]
   exact aE _ _ ⟨Ext.more H (by simp),by simp[o,aH]⟩
theorem yY{v w:Value}{a b:Int}{H:ab}(bt:di H v a)(bC:di H w b)(a9:Fits a)(kf:Fits b):aP prog 105 [v,w] H (fun v H1=>Ext H H1/\di H1 v (a+b)):=by
 refine aP.b9 fun Q aE=>?_
 apply WY (by simp)
 obtain⟨x,iB,c5,rfl,ec,bc,an⟩:=bt
 obtain⟨y,mI,da,rfl,lE,wJ,dJ⟩:=bC
 have ki:=a9.length bc an
 have jA:=kf.length wJ dJ
 have bN:Ext H (H++[.own 78 false [.bool (decide (a<0)),.slice x c5.length iB],.own 78 false [.bool (decide (b<0)),.slice y da.length mI],.own 78 false [.bool false,.slice none 0 0]]):=Ext.more H (by simp)
 have fin:∀(neg:Bool) (H1 aR:ab) (l:List Nat) (m:Option Addr) (mA:Nat),Ext (H++[.own 78 false [.bool (decide (a<0)),.slice x c5.length iB],.own 78 false [.bool (decide (b<0)),.slice y da.length mI],.own 78 false [.bool false,.slice none 0 0]]) H1->cZ H1 124 (.slice m l.length mA) l->Trim l->
   (if neg=true then-(val l:Int)else val l)=a+b->Ext H1 aR->aR[H.length+2]?=some (.own 78 false [.bool false,.slice none 0 0])/\Q (.agg #[.bool (neg&&decide (0<l.length)),.slice m l.length mA]) (aR.set (H.length+2) (.own 78 false [.bool (neg&&decide (0<l.length)),.slice m l.length mA]))/\H.length+2<aR.length:=by
  intro neg H1 aR l m mA o aa aA bo bK
  have cq:aR[H.length+2]?=some (.own 78 false [.bool false,.slice none 0 0]):=(o.aw bK).get_some (by simp)
  refine⟨cq,aE _ _ ⟨(bN.aw (o.aw bK)).set (by omega) (by simp),?_⟩,(cK.1 cq).1⟩
  have:=di.mk' (neg:=neg) rfl ((aa.ext bK).set (X:= .own 78 false [.bool (neg&&decide (0<l.length)),.slice m l.length mA]) cq (by simp[bI.elem?])) aA
  rwa[bo]at this
 simp[GP]
 refine bH.b_ (fun h=>?_) (fun h=>?_)
 ·simp
  refine aV.mk (Nz (ec.ext bN) (lE.ext bN) (by omega) (by omega)) ?_
  rintro v H1 ⟨J,l,ar,hP,jg⟩
  refine⟨J,?_⟩
  obtain⟨m,mA,rfl⟩:=ar.len
  simp
  refine aV.mk s5 ?_
  rintro v aR ⟨bm,rfl⟩
  obtain⟨cq,cj,jv⟩:=fin (decide (a<0)) H1 aR l m mA J ar hP (by
   have cv:a<0↔b<0:=by simpa using h
   rw[jg,an,dJ];simp;split<;>omega) bm
  simp[cq,List.getElem?_set_self jv,db,bf,-getElem?_pos]
  exact cj
 ·simp
  refine aV.mk (Ci (ec.ext bN) (lE.ext bN) bc wJ (by omega) (by omega)) ?_
  rintro v H1 ⟨rfl,rfl⟩
  simp
  refine bH.b_ (fun o=>?_) (fun o=>?_)
  ·have hl:val da<=val c5:=by
    rcases Nat.lt_or_ge (val c5) (val da)with aa | aa
    ·rw[if_pos aa]at o;omega
    ·exact aa
   simp
   refine aV.mk (M4 (ec.ext bN) (lE.ext bN) (by omega) ?_ hl) ?_
   ·rcases Nat.lt_or_ge c5.length da.length with aa | aa
    ·have:=wJ.u6 ec.2 aa
     omega
    ·exact aa
   rintro v H1 ⟨J,l,ar,hP,jg⟩
   refine⟨J,?_⟩
   obtain⟨m,mA,rfl⟩:=ar.len
   simp
   refine aV.mk s5 ?_
   rintro v aR ⟨bm,rfl⟩
   obtain⟨cq,cj,jv⟩:=fin (decide (a<0)) H1 aR l m mA J ar hP (by
    have cv:¬(a<0↔b<0):=by simpa using h
    rw[jg,an,dJ,Int.ofNat_sub (by omega)];simp;split<;>omega) bm
   simp[cq,List.getElem?_set_self jv,db,bf,-getElem?_pos]
   exact cj
  ·have hl:val c5<=val da:=by
    rcases Nat.lt_or_ge (val c5) (val da)with aa | aa
    ·omega
    ·rw[if_neg (by omega)]at o
     split at o<;>omega
   simp
   refine aV.mk (M4 (lE.ext bN) (ec.ext bN) (by omega) ?_ hl) ?_
   ·rcases Nat.lt_or_ge da.length c5.length with aa | aa
    ·have:=bc.u6 lE.2 aa
     omega
    ·exact aa
   rintro v H1 ⟨J,l,ar,hP,jg⟩
   refine⟨J,?_⟩
   obtain⟨m,mA,rfl⟩:=ar.len
   simp
   refine aV.mk s5 ?_
   rintro v aR ⟨bm,rfl⟩
   obtain⟨cq,cj,jv⟩:=fin (decide (b<0)) H1 aR l m mA J ar hP (by
    have cv:¬(a<0↔b<0):=by simpa using h
    rw[jg,an,dJ,Int.ofNat_sub (by omega)];simp;split<;>omega) bm
   simp[cq,List.getElem?_set_self jv,db,bf,-getElem?_pos]
   exact cj
attribute [simp] List.getElem?_cons_zero List.getElem?_cons_succ
theorem di.set{H:ab}{v:Value}{z:Int}{b:Nat}{X Y:bI}(h:di H v z)(ag:H[b]?=some Y)(he:Y.elem?≠some 124):di (H.set b X) v z:=by
 obtain⟨a,c,l,o,aa,aA⟩:=h
 exact⟨a,c,l,o,aa.set ag he,aA⟩
theorem di.shape{H:ab}{v:Value}{z:Int}(h:di H v z):∃s a n c,v= .agg #[.bool s,.slice a n c]:=by
 obtain⟨a,c,l,o,-⟩:=h
 exact⟨_,_,_,_,o⟩
theorem Og{v w:Value}{a b:Int}{H:ab}(bt:di H v a)(bC:di H w b)(a9:Fits a)(kf:Fits b):aP prog 94 [v,w] H (fun v H1=>Ext H H1/\di H1 v (a-b)):=by
 refine aP.b9 fun Q aE=>?_
 apply W6 (by simp)
 obtain⟨s1,bY,cQ,cm,rfl⟩:=bt.shape
 obtain⟨s2,cC,cW,cF,rfl⟩:=bC.shape
 have bN:Ext H (H++[.own 78 false [.bool s1,.slice bY cQ cm],.own 78 false [.bool s2,.slice cC cW cF],.own 78 false [.bool false,.slice none 0 0]]):=Ext.more H (by simp)
 simp[GV]
 refine aV.mk (AV (bC.ext bN)) ?_
 rintro v H1 ⟨J,an⟩
 refine⟨J,?_⟩
 simp
 refine aV.mk (yY (bt.ext (bN.aw J)) an a9 kf.neg) ?_
 rintro v aR ⟨bm,h8⟩
 have cq:aR[H.length+2]?=some (.own 78 false [.bool false,.slice none 0 0]):=(J.aw bm).get_some (by simp)
 have a6:=(cK.1 cq).1
 obtain⟨lU,eC,j3,eJ,rfl⟩:=h8.shape
 simp[cq,List.getElem?_set_self a6,db,bf,-getElem?_pos]
 exact aE _ _ ⟨(bN.aw (J.aw bm)).set (by omega) (by simp),h8.set cq (by simp[bI.elem?])⟩
theorem x8{v w:Value}{a b:Int}{H:ab}(bt:di H v a)(bC:di H w b)(a9:Fits a)(kf:Fits b):aP prog 66 [v,w] H (fun v H1=>Ext H H1/\di H1 v (a*b)):=by
 refine aP.b9 fun Q aE=>?_
 apply W1 (by simp)
 obtain⟨x,iB,c5,rfl,ec,bc,an⟩:=bt
 obtain⟨y,mI,da,rfl,lE,wJ,dJ⟩:=bC
 have ki:=a9.length bc an
 have jA:=kf.length wJ dJ
 have bN:Ext H (H++[.own 78 false [.bool (decide (a<0)),.slice x c5.length iB],.own 78 false [.bool (decide (b<0)),.slice y da.length mI],.own 78 false [.bool false,.slice none 0 0]]):=Ext.more H (by simp)
 simp[GR]
 refine aV.mk (Oo (ec.ext bN) (lE.ext bN) (by omega) (by omega)) ?_
 rintro v H1 ⟨J,l,ar,hP,jg⟩
 refine⟨J,?_⟩
 obtain⟨m,mA,rfl⟩:=ar.len
 simp
 refine aV.mk s5 ?_
 rintro v aR ⟨bm,rfl⟩
 have cq:aR[H.length+2]?=some (.own 78 false [.bool false,.slice none 0 0]):=(J.aw bm).get_some (by simp)
 have a6:=(cK.1 cq).1
 have pS:=di.mk' rfl (ar.ext bm) hP (neg:= !(decide (a<0)==decide (b<0)))
 have aM:(if(!(decide (a<0)==decide (b<0)))=true then-(val l:Int)else(val l:Int))=a*b:=by
  rw[jg,an,dJ]
  rcases Int.natAbs_eq a with aO | aO<;>rcases Int.natAbs_eq b with ag | ag<;>generalize a.natAbs=p at* <;>generalize b.natAbs=q at* <;>subst aO ag<;>by_cases aY:p=0<;>by_cases av:q=0<;>simp[aY,av,Int.mul_neg,Int.neg_mul]<;>omega
 rw[aM]at pS
 obtain⟨r5,Kt⟩:∃r5,(!(decide (a<0)==decide (b<0))&&decide (0<l.length))=r5:=⟨_,rfl⟩
 simp[cq,List.getElem?_set_self a6,db,bf,-getElem?_pos]
 refine aE _ _ ⟨(bN.aw (J.aw bm)).set (by omega) (by simp),?_⟩
 have:=pS.set (X:= .own 78 false [.bool (!(decide (a<0)==decide (b<0))&&decide (0<l.length)),.slice m l.length mA]) cq (by simp[bI.elem?])
 simpa using this
theorem EA{v w:Value}{a b:Int}{H:ab}(bt:di H v a)(bC:di H w b)(a9:Fits a)(kf:Fits b):aP prog 67 [v,w] H (fun v H1=>Ext H H1/\v= .int .i64 (if a<b then-1 else if a=b then 0 else 1)):=by
 refine aP.b9 fun Q aE=>?_
 apply WZ (by simp)
 obtain⟨s1,bY,cQ,cm,rfl⟩:=bt.shape
 obtain⟨s2,cC,cW,cF,rfl⟩:=bC.shape
 have bN:Ext H (H++[.own 78 false [.bool s1,.slice bY cQ cm],.own 78 false [.bool s2,.slice cC cW cF]]):=Ext.more H (by simp)
 simp[GQ]
 refine aV.mk (Og (bt.ext bN) (bC.ext bN) a9 kf) ?_
 rintro v H1 ⟨J,an⟩
 simp
 refine aV.mk (N8 an) ?_
 rintro v aR ⟨bm,rfl⟩
 simp[bf]
 refine aE _ _ ⟨bN.aw (J.aw bm),?_⟩
 congr 1
 split<;>split<;>omega
def fm(H:ab)(v:Value)(n d:Int):Prop:=∃hf la gH j2,v= .agg #[hf,la,gH,j2]/\di H (.agg #[hf,la]) n/\di H (.agg #[gH,j2]) d
theorem fm.ext{H H1:ab}{v:Value}{n d:Int}(h:fm H v n d)(J:Ext H H1):fm H1 v n d:=by
 obtain⟨hf,la,gH,j2,o,aa,aA⟩:=h
 exact⟨hf,la,gH,j2,o,aa.ext J,aA.ext J⟩
theorem fm.set{H:ab}{v:Value}{n d:Int}{b:Nat}{X Y:bI}(h:fm H v n d)(ag:H[b]?=some Y)(he:Y.elem?≠some 124):fm (H.set b X) v n d:=by
 obtain⟨hf,la,gH,j2,o,aa,aA⟩:=h
 exact⟨hf,la,gH,j2,o,aa.set ag he,aA.set ag he⟩
theorem fm.shape{H:ab}{v:Value}{n d:Int}(h:fm H v n d):∃s1 bY cQ cm s2 cC cW cF,v= .agg #[.bool s1,.slice bY cQ cm,.bool s2,.slice cC cW cF]/\di H (.agg #[.bool s1,.slice bY cQ cm]) n/\di H (.agg #[.bool s2,.slice cC cW cF]) d:=by
 obtain⟨hf,la,gH,j2,o,aa,aA⟩:=h
 obtain⟨s1,bY,cQ,cm,bk⟩:=aa.shape
 obtain⟨s2,cC,cW,cF,bg⟩:=aA.shape
 simp at bk bg
 obtain⟨rfl,rfl⟩:=bk
 obtain⟨rfl,rfl⟩:=bg
 exact⟨s1,bY,cQ,cm,s2,cC,cW,cF,o,aa,aA⟩
theorem RL{v:Value}{a:Int}{H:ab}(bt:di H v a):aP prog 104 [v] H (fun v H1=>Ext H H1/\fm H1 v a 1):=by
 refine aP.b9 fun Q aE=>?_
 apply WX (by simp)
 obtain⟨s1,bY,cQ,cm,rfl⟩:=bt.shape
 have bN:Ext H (H++[.own 78 false [.bool s1,.slice bY cQ cm],.own 80 false [.bool false,.slice none 0 0,.bool false,.slice none 0 0]]):=Ext.more H (by simp)
 simp[GO]
 refine aV.mk (vb (by omega) (by omega)) ?_
 rintro v H1 ⟨J,an⟩
 refine⟨J,?_⟩
 obtain⟨lU,eC,j3,eJ,rfl⟩:=an.shape
 have cq:H1[H.length+1]?=some (.own 80 false [.bool false,.slice none 0 0,.bool false,.slice none 0 0]):=J.get_some (by simp)
 have a6:=(cK.1 cq).1
 simp[cq,List.getElem?_set_self a6,db,bf,-getElem?_pos]
 refine aE _ _ ⟨(bN.aw J).set (by omega) (by simp),?_⟩
 exact fm.set ⟨_,_,_,_,rfl,bt.ext (bN.aw J),an⟩ cq (by simp[bI.elem?])
theorem ads{n:Int}{H:ab}(o: -9223372036854775808<=n)(aa:n<9223372036854775808):aP prog 59 [.int .i64 n] H (fun v H1=>Ext H H1/\fm H1 v n 1):=by
 refine aP.b9 fun Q aE=>?_
 apply Xh (by simp)
 have bN:Ext H (H++[.own 80 false [.bool false,.slice none 0 0,.bool false,.slice none 0 0]]):=Ext.more H (by simp)
 simp[G0]
 refine aV.mk (vb o aa) ?_
 rintro v H1 ⟨J,an⟩
 simp
 refine aV.mk (vb (by omega) (by omega)) ?_
 rintro v aR ⟨bm,h8⟩
 obtain⟨s1,bY,cQ,cm,rfl⟩:=an.shape
 obtain⟨lU,eC,j3,eJ,rfl⟩:=h8.shape
 have cq:aR[H.length]?=some (.own 80 false [.bool false,.slice none 0 0,.bool false,.slice none 0 0]):=(J.aw bm).get_some (by simp)
 have a6:=(cK.1 cq).1
 simp[cq,List.getElem?_set_self a6,db,bf,-getElem?_pos]
 refine aE _ _ ⟨(bN.aw (J.aw bm)).set (by omega) (by simp),?_⟩
 exact fm.set ⟨_,_,_,_,rfl,an.ext bm,h8⟩ cq (by simp[bI.elem?])
theorem EE{v:Value}{n d:Int}{H:ab}(bt:fm H v n d)(aB:0<d):aP prog 79 [v] H (fun v H1=>Ext H H1/\v= .bool (decide (d=1))):=by
 refine aP.b9 fun Q aE=>?_
 apply Xa (by simp)
 obtain⟨s1,bY,cQ,cm,s2,cC,cW,cF,rfl,bX,eU⟩:=bt.shape
 obtain⟨x,iB,l,he,ec,bc,an⟩:=eU
 simp at he
 obtain⟨rfl,rfl,rfl,rfl⟩:=he
 simp[GX]
 refine bH.b_ (fun h=>?_) (fun h=>?_)
 ·obtain⟨b,i,cap,X,all,he,aQ,ad,-,k5⟩:=ec.at (by omega)
  cases he
  have Db:=nm aQ [.own 80 false [.bool s1,.slice bY cQ cm,.bool (decide (d<0)),.slice (some ⟨b,i,none⟩) l.length cF]]
  obtain⟨y,rfl⟩:=List.length_eq_one_iff.1 (show l.length=1 by omega)
  have aL:=k5 0 (by simp)
  simp at aL
  simp[val]at an
  simp[nm aQ,ad,aL,bf,-getElem?_pos]
  refine aE _ _ ⟨Ext.more H (by simp),?_⟩
  congr 1
  simp
  omega
 ·simp[h,bf]
  refine aE _ _ ⟨Ext.more H (by simp),?_⟩
  have:d≠1:=fun e=>by
   subst e
   have o:=bc.length_le (n:=1) (by rw[an];decide)
   have:=bc.pos
   omega
  simp[this]
theorem ZD{v:Value}{n d:Int}{H:ab}(bt:fm H v n d):aP prog 75 [v] H (fun v H1=>Ext H H1/\v= .int .i64 (if n<0 then-1 else if n=0 then 0 else 1)):=by
 refine aP.b9 fun Q aE=>?_
 apply Xe (by simp)
 obtain⟨s1,bY,cQ,cm,s2,cC,cW,cF,rfl,bX,eU⟩:=bt.shape
 have bN:Ext H (H++[.own 80 false [.bool s1,.slice bY cQ cm,.bool s2,.slice cC cW cF]]):=Ext.more H (by simp)
 simp[GZ]
 refine aV.mk (N8 (bX.ext bN)) ?_
 rintro v H1 ⟨J,rfl⟩
 simp[bf]
 exact aE _ _ ⟨bN.aw J,rfl⟩
theorem Nl{v:Value}{n d:Int}{H:ab}(bt:fm H v n d):aP prog 36 [v] H (fun v H1=>Ext H H1/\di H1 v n):=by
 refine aP.b9 fun Q aE=>?_
 apply Xd (by simp)
 obtain⟨s1,bY,cQ,cm,s2,cC,cW,cF,rfl,bX,eU⟩:=bt.shape
 simp[GY,db,bf]
 have bN:Ext H (H++[.own 80 false [.bool s1,.slice bY cQ cm,.bool s2,.slice cC cW cF],.own 78 false [.bool s1,.slice bY cQ cm]]):=Ext.more H (by simp)
 exact aE _ _ ⟨bN,bX.ext bN⟩
def p9(a b:Int):Int:=IntKind.u64.wrap ((BitVec.ofInt 64 a ||| BitVec.ofInt 64 b).toNat:Int)
@[simp high] theorem aiw(P:Program)(t:Nat)(a b:Int):dZ P .or t (.int .u64 a) (.int .u64 b)=some (.int .u64 (p9 a b)):=N5
theorem ve{r x:Nat}(al:r<4294967296)(J:x<4294967296):p9 ((r*4294967296:Nat):Int) (x:Int)=((r*4294967296+x:Nat):Int):=by
 unfold p9
 have o:(BitVec.ofInt 64 ((r*4294967296:Nat):Int) ||| BitVec.ofInt 64 (x:Int)).toNat=r*4294967296+x:=by
  rw[BitVec.ofInt_natCast,BitVec.ofInt_natCast,BitVec.toNat_or,BitVec.toNat_ofNat,BitVec.toNat_ofNat,Nat.mod_eq_of_lt (by omega),Nat.mod_eq_of_lt (by omega)]
  have:=Nat.two_pow_add_eq_or_of_lt (i:=32) (b:=x) J r
  rw[Nat.mul_comm]at this
  exact this.symm
 rw[o]
 exact f_ (by omega) (by omega)
@[simp high] theorem aiB(P:Program)(t:Nat)(a:Int):dZ P .shl t (.int .u64 a) (.int .u64 32)=some (.int .u64 (IntKind.u64.wrap (a*4294967296))):=by
 rw[ZS,if_neg (by decide)]
 rfl
theorem tj(l:List Nat)(i:Nat)(ae:i<l.length):val (l.drop i)=l[i]?.getD 0+4294967296*val (l.drop (i+1)):=by
 rw[List.drop_eq_getElem_cons ae,bJ ae]
 rfl
theorem IQ{v:Value}{a:List Nat}{w:Nat}{H:ab}(bt:cZ H 124 v a)(ki:a.length<1048576)(pZ:0<w)(hw:w<4294967296):
  aP prog 107 [v,.int .u32 w] H (fun au H1=>Ext H H1/\∃q l,au= .tuple #[q,.int .u32 (val a % w:Nat)]/\cZ H1 124 q l/\Trim l/\val l=val a/w):=by
 refine aP.b9 fun Q aE=>?_
 apply Xi (by simp)
 obtain⟨x,iB,rfl⟩:=bt.len
 have jZ:IntKind.u64.wrap (w:Int)=(w:Int):=f_ (by omega) (by omega)
 by_cases pA:a.length=0
 ·have wV:a=[]:=List.eq_nil_of_length_eq_zero pA
  subst wV
  simp only[B2]
  rw[cE]
  simp[-cE]
  rw[cE]
  simp[-cE]
  refine Bw (e:=124) (U:=1) (bA:=4) (eW:= .i64) (c4:= .i64) (by simp) (by simp) (by simp) (by simp) (by simp) ?_
  simp(disch:=omega)[b6]
  refine kQ.mk (ai:=fun n az H1=>H=H1/\az 8= .int .i64 (-1)/\az 6= .slice (some ⟨0,0,none⟩) 0 0/\az 7= .int .u64 0) 0 ⟨rfl,by simp,by simp,by simp⟩ ?_
  rintro n az H1 ⟨rfl,iZ,gp,kY⟩ K a0
  simp[gp,kY,iZ]
  refine aV.mk (lW (l:=[]) ⟨ep.void H _ _ _,by simp⟩ (by simp)) ?_
  rintro v H1 ⟨rfl,c_,dG,bc,dJ,-⟩
  simp[bf,kY,oy]
  refine aE _ _ ⟨Ext.refl _,v,c_,by simp[val],dG,bc,by simpa[val]using dJ⟩
 simp only[B2]
 rw[cE]
 simp[-cE]
 rw[cE]
 simp(disch:=omega)[b6,-cE]
 refine yu (e:=124) (U:=1) (bA:=4) (eW:= .i64) (c4:= .i64) (l:=a.length) (c:=a.length) (z:= .int .u32 0) (by simp) (by simp) (by simp) (by simp) (by rfl) (by rfl) (by simp) (by simp) (by omega) (by omega) (Nat.le_refl _) (by omega) (by omega) ?_
 simp[-cE,p7]
 rw[cE]
 simp[-cE]
 rw[cE]
 refine gW.cut (fun az H1=>az 6= .slice (some ⟨H.length,0,none⟩) a.length a.length/\∃(out:List Nat) (r:Nat),H1=H++[.own 124 false (out.map fun(x:Nat)=>Value.int .u32 (x:Int))]/\out.length=a.length/\(∀x∈out,x<4294967296)/\az 7= .int .u64 r/\r<w/\val a=val out*w+r) ?_ ?_
 ·intro K a0
  simp(disch:=omega)[b6]
  refine kQ.mk (ai:=fun n az H1=>n<=a.length/\az 0= .slice x a.length iB/\az 1= .int .u32 w/\az 8= .int .i64 ((n:Int)-1)/\az 6= .slice (some ⟨H.length,0,none⟩) a.length a.length/\∃(out:List Nat) (r:Nat),H1=H++[.own 124 false (out.map fun(x:Nat)=>Value.int .u32 (x:Int))]/\out.length=a.length/\(∀x∈out,x<4294967296)/\az 7= .int .u64 r/\r<w/\val (a.drop n)=val (out.drop n)*w+r) a.length ?_ ?_
  ·refine⟨Nat.le_refl _,by simp,by simp,by simp,by simp,List.replicate a.length 0,0,by simp,by simp,by simp,by simp,pZ,?_⟩
   rw[List.drop_eq_nil_of_le (by simp),List.drop_eq_nil_of_le (by simp)]
   simp[val]
  ·rintro n az H1 ⟨aG,cq,cj,iZ,gp,out,r,rfl,dI,jf,kY,al,an⟩ ef jw
   simp[iZ]
   refine bH.b_ (fun aY=>?_) (fun aY=>?_)
   ·obtain⟨gH,i1,v9,yW,yZ,jR,nY,lH,-,oT⟩:=bt.at (by omega)
    cases jR
    have bk:((n:Int)-1).toNat=n-1:=by omega
    obtain⟨p,q4⟩:∃p,a[n-1]?.getD 0=p:=⟨_,rfl⟩
    have kE:p<4294967296:=q4▸bt.lt _
    have jS:=oT (n-1) (by omega)
    rw[q4]at jS
    obtain⟨s,ao⟩:∃s,r*4294967296=s:=⟨_,rfl⟩
    have oa:IntKind.u64.wrap ((r:Int)*4294967296)=(s:Int):=by
     rw[f_ (by omega) (by omega)]
     omega
    have aX:=ve (r:=r) (by omega) kE
    rw[ao]at aX
    obtain⟨t,bM⟩:∃t,s+p=t:=⟨_,rfl⟩
    rw[bM]at aX
    obtain⟨q,av⟩:∃q,t/w=q:=⟨_,rfl⟩
    obtain⟨m,hm⟩:∃m,t % w=m:=⟨_,rfl⟩
    have m0:=Nat.div_add_mod t w
    rw[av,hm]at m0
    have eV:m<w:=hm▸Nat.mod_lt _ pZ
    have q6:q<4294967296:=by
     rw[<-av]
     refine(Nat.div_lt_iff_lt_mul pZ).2 ?_
     have:(r+1)*4294967296<=w*4294967296:=Nat.mul_le_mul_right _ al
     rw[Nat.mul_comm 4294967296]
     omega
    have LR:(t:Int).tdiv w=(q:Int):=by rw[<-av];rfl
    have LU:(t:Int).tmod w=(m:Int):=by rw[<-hm];rfl
    have At:IntKind.u64.wrap (q:Int)=(q:Int):=f_ (by omega) (by omega)
    have LC:IntKind.u32.wrap (q:Int)=(q:Int):=lY (by omega) (by omega)
    have DT:IntKind.u64.wrap (p:Int)=(p:Int):=f_ (by omega) (by omega)
    have L6:¬(w=0):=by omega
    simp[cq,iZ,kY,oa]
    refine dE.mk ⟨by omega,by omega⟩ ?_
    simp[cq,iZ,kY,gp,cj,bk,nm nY,lH,jS,-getElem?_pos,DT,oa,aX,jZ,LR,LU,At,LC,L6]
    refine dE.mk ⟨by omega,by omega⟩ ?_
    simp(disch:=omega)[cq,iZ,kY,gp,cj,bk,nm nY,lH,jS,-getElem?_pos,DT,oa,aX,jZ,LR,LU,At,LC,L6,b6]
    refine dE.mk (by omega) ?_
    simp(disch:=omega)[iZ,b6]
    refine jw (n-1) _ _ (by omega) ⟨by omega,by simp[cq],by simp[cj],by simp;omega,by simp[gp],out.set (n-1) q,m,by simp[List.map_set],by simp[dI],?_,by simp,eV,?_⟩
    ·intro z aM
     rcases List.mem_or_eq_of_mem_set aM with aM | rfl
     ·exact jf z aM
     ·exact q6
    ·rw[tj a (n-1) (by omega),tj (out.set (n-1) q) (n-1) (by simp;omega),q4,Nat.sub_add_cancel (by omega),an,List.drop_set_of_lt (by omega),List.getElem?_set_self (by omega)]
     simp only[Option.getD_some]
     have bK:s+p=w*q+m:=by omega
     grind
   ·simp
    have:n=0:=by omega
    subst this
    exact a0 _ _ ⟨by simp[gp],out,r,rfl,dI,jf,by simp[kY],al,by simpa using an⟩
 ·rintro az H1 ⟨gp,out,r,rfl,dI,jf,kY,al,an⟩
  have ec:=cZ.fresh H 124 out a.length a.length (Nat.le_refl _) dI jf false
  have fx:IntKind.u32.wrap (r:Int)=(r:Int):=lY (by omega) (by omega)
  rw[cE]
  simp[gp,-cE]
  refine aV.mk (lW ec (by simp[dI];omega)) ?_
  rintro v H1 ⟨rfl,c_,dG,bc,dJ,-⟩
  simp[bf,kY,fx]
  rw[<-dI,List.take_length]at dJ
  have o:val a/w=val out:=by rw[an,Nat.mul_comm,Nat.mul_add_div pZ,Nat.div_eq_of_lt al,Nat.add_zero]
  have aa:val a % w=r:=by rw[an,Nat.mul_comm,Nat.mul_add_mod,Nat.mod_eq_of_lt al]
  exact aE _ _ ⟨(Ext.refl H).snoc _ _ _,v,c_,by rw[aa],dG,bc,by rw[dJ,o]⟩
theorem adt{x:Int}{H:ab}:aP prog 64 [.int .i64 x] H (fun w H1=>H1=H/\w= .bool (decide (x<0\/1000<x))):=by
 refine aP.b9 fun Q aE=>?_
 apply XN (by simp)
 simp[G9]
 refine bH.b_ (fun h=>?_) (fun h=>?_)
 ·simp[h,bf]
  exact aE _ _ ⟨rfl,by simp[h]⟩
 ·simp[h,bf]
  exact aE _ _ ⟨rfl,by simp[h]⟩
def kt(H:ab)(v:Value)(l:List Int):Prop:=ep H 3 1 v l.length (l.map (Value.int .i64))
theorem kt.ext{H H1:ab}{v:Value}{l:List Int}(h:kt H v l)(J:Ext H H1):kt H1 v l:=ep.ext h J
theorem kt.at{H:ab}{v:Value}{l:List Int}(h:kt H v l)(aG:0<l.length):∃b i cap X all,v= .slice (some ⟨b,i,none⟩) l.length cap/\H[b]?=some X/\X.cells?=some all/\∀k,k<l.length->all[i+k]?=some (.int .i64 (l[k]?.getD 0)):=by
 obtain⟨b,i,cap,X,all,o,aa,aA,bo,bK⟩:=ep.at h aG
 refine⟨b,i,cap,X,all,o,aa,aA,fun k aj=>?_⟩
 rw[bK k (by omega),List.getElem?_map,bJ aj]
 simp
theorem kt.len{H:ab}{v:Value}{l:List Int}(h:kt H v l):∃a cap,v= .slice a l.length cap:=ep.len h
theorem Wl{v:Value}{l:List Int}{H:ab}(eu:kt H v l)(ar:l.length<4611686018427387904):
  aP prog 91 [v,.func (.func 64) #[] #[]] H (fun w H1=>H1=H/\∃n:Int,w= .int .i64 n/\(0<=n↔∃x∈l,x<0\/1000<x)):=by
 refine aP.b9 fun Q aE=>?_
 apply XT (by simp)
 obtain⟨a,cap,rfl⟩:=eu.len
 simp[Hc]
 refine kQ.mk (ai:=fun n az H1=>∃i:Nat,n=l.length-i/\i<=l.length/\H=H1/\az 0= .slice a l.length cap/\az 1= .func (.func 64) #[] #[]/\az 7= .int .i64 l.length/\az 8= .int .i64 i/\∀x∈l.take i,¬(x<0\/1000<x)) l.length ?_ ?_
 ·exact⟨0,by omega,by omega,rfl,by simp,by simp,by simp,by simp,by simp⟩
 ·rintro n az H1 ⟨i,rfl,ae,rfl,cq,cj,kY,iZ,e1⟩ K a0
  simp[kY,iZ]
  refine bH.b_ (fun a6=>?_) (fun a6=>?_)
  ·obtain⟨b,R,dC,X,all,he,aQ,ad,k5⟩:=eu.at (by omega)
   cases he
   simp[cq,cj,iZ]
   refine dE.mk (by omega) ?_
   simp[cq,cj,iZ,aQ,ad,k5 _ a6]
   refine aV.mk adt ?_
   rintro v H1 ⟨rfl,rfl⟩
   simp
   have iq:l[i]?.getD 0∈l:=by rw[bJ a6];exact List.getElem_mem a6
   refine bH.mk (fun hw=>?_) (fun hw=>?_)
   ·simp[bf]
    refine aE _ _ ⟨rfl,i,rfl,?_⟩
    simp at hw
    exact⟨fun _=>⟨_,iq,by omega⟩,fun _=>by omega⟩
   ·simp(disch:=omega)[iZ,b6]
    refine a0 (l.length-(i+1)) _ _ (by omega) ⟨i+1,by omega,by omega,rfl,by simp[cq],by simp[cj],by simp[kY],by simp,?_⟩
    intro x J
    rw[List.take_succ_eq_append_getElem a6]at J
    rcases List.mem_append.1 J with J | J
    ·exact e1 x J
    ·simp at J
     simp at hw
     rw[bJ a6]at hw
     subst J
     simpa using hw
  ·simp[bf]
   have:i=l.length:=by omega
   subst this
   rw[List.take_length]at e1
   exact aE _ _ ⟨rfl,-1,rfl,by simp;intro x J;have:=e1 x J;omega⟩
theorem Qq{v:Value}{l:List Int}{H:ab}(eu:kt H v l)(ar:l.length<4611686018427387904):
  aP prog 63 [v,.func (.func 64) #[] #[]] H (fun w H1=>H1=H/\w= .bool (decide (∃x∈l,x<0\/1000<x))):=by
 refine aP.b9 fun Q aE=>?_
 apply XQ (by simp)
 simp[Ha]
 refine aV.mk (Wl eu ar) ?_
 rintro v H1 ⟨rfl,n,rfl,aG⟩
 simp[bf]
 exact aE _ _ ⟨rfl,by simp[aG]⟩
def j9(H:ab)(v:Value)(t:List (List Int)):Prop:=∃aD:List Value,ep H 34 1 v t.length aD/\aD.length=t.length/\∀i,i<t.length->kt H (aD[i]?.getD undef) (t[i]?.getD [])
theorem j9.ext{H H1:ab}{v:Value}{t:List (List Int)}(h:j9 H v t)(J:Ext H H1):j9 H1 v t:=by
 obtain⟨aD,o,aa,aA⟩:=h
 exact⟨aD,o.ext J,aa,fun i ae=>(aA i ae).ext J⟩
theorem j9.len{H:ab}{v:Value}{t:List (List Int)}(h:j9 H v t):∃a cap,v= .slice a t.length cap:=by
 obtain⟨aD,o,-⟩:=h
 exact o.len
theorem j9.at{H:ab}{v:Value}{t:List (List Int)}(h:j9 H v t)(aG:0<t.length):∃b i cap X all,v= .slice (some ⟨b,i,none⟩) t.length cap/\H[b]?=some X/\X.cells?=some all/\∀k,k<t.length->∃a c,all[i+k]?=some (.slice a (t[k]?.getD []).length c)/\kt H (.slice a (t[k]?.getD []).length c) (t[k]?.getD []):=by
 obtain⟨aD,o,aa,aA⟩:=h
 obtain⟨b,i,cap,X,all,bk,bg,fW,l8,mS⟩:=o.at aG
 refine⟨b,i,cap,X,all,bk,bg,fW,fun k aj=>?_⟩
 have n7:=aA k aj
 obtain⟨a,c,an⟩:=n7.len
 refine⟨a,c,?_,an▸n7⟩
 rw[mS k (by omega),<-an,bJ (by omega)]
 simp
def ly(n:Nat)(r:List Int):Bool:=decide (r.length≠n) || decide (∃x∈r,x<0\/1000<x)
theorem ZC{v w:Value}{r:List Int}{t:List (List Int)}{H:ab}{cl:Nat}(br:kt H w r)(bc:j9 H v t)(bM:0<t.length)(uz:H[cl]?=some (.own 22 false [v]))(ar:r.length<4611686018427387904):
  aP prog 62 [w,.pointer (some ⟨cl,0,none⟩)] H (fun u H1=>H1=H/\u= .bool (ly (t[0]?.getD []).length r)):=by
 refine aP.b9 fun Q aE=>?_
 apply XM (by simp)
 obtain⟨a,cap,rfl⟩:=br.len
 obtain⟨b,i,dC,X,all,rfl,aQ,ad,k5⟩:=bc.at bM
 obtain⟨yX,r8,aH,-⟩:=k5 0 bM
 simp[G8,uz,-getElem?_pos]
 refine dE.mk (by omega) ?_
 simp only[Nat.add_zero]at aH
 simp[uz,aQ,ad,aH,-getElem?_pos]
 refine bH.b_ (fun h=>?_) (fun h=>?_)
 ·simp[h]
  refine aV.mk (Qq br ar) ?_
  rintro u H1 ⟨rfl,rfl⟩
  simp[bf]
  refine aE _ _ ⟨rfl,?_⟩
  simp[ly]
  intro cN
  exact absurd (by omega) cN
 ·simp[h,bf]
  refine aE _ _ ⟨rfl,?_⟩
  simp[ly]
  exact .inl (by omega)
theorem Wk{v:Value}{t:List (List Int)}{H:ab}{cl:Nat}(bc:j9 H v t)(bM:0<t.length)(uz:H[cl]?=some (.own 22 false [v]))(ar:t.length<4611686018427387904)(al:∀r∈t,r.length<4611686018427387904):
  aP prog 90 [v,.func (.func 62) #[] #[.pointer (some ⟨cl,0,none⟩)]] H (fun w H1=>H1=H/\∃n:Int,w= .int .i64 n/\(0<=n↔∃r∈t,ly (t[0]?.getD []).length r=true)):=by
 refine aP.b9 fun Q aE=>?_
 apply XS (by simp)
 obtain⟨b,R,cap,X,all,rfl,aQ,ad,k5⟩:=bc.at bM
 simp[Hb]
 refine kQ.mk (ai:=fun n az H1=>∃i:Nat,n=t.length-i/\i<=t.length/\H=H1/\az 0= .slice (some ⟨b,R,none⟩) t.length cap/\az 1= .func (.func 62) #[] #[.pointer (some ⟨cl,0,none⟩)]/\az 7= .int .i64 t.length/\az 8= .int .i64 i/\∀r∈t.take i,¬(ly (t[0]?.getD []).length r=true)) t.length ?_ ?_
 ·exact⟨0,by omega,by omega,rfl,by simp,by simp,by simp,by simp,by simp⟩
 ·rintro n az H1 ⟨i,rfl,ae,rfl,cq,cj,kY,iZ,e1⟩ K a0
  simp[kY,iZ]
  refine bH.b_ (fun a6=>?_) (fun a6=>?_)
  ·obtain⟨bY,cm,o,eu⟩:=k5 i a6
   simp[cq,cj,iZ]
   refine dE.mk (by omega) ?_
   simp[cq,cj,iZ,aQ,ad,o,-getElem?_pos]
   have iq:t[i]?.getD []∈t:=by rw[bJ a6];exact List.getElem_mem a6
   refine aV.mk (ZC eu bc bM uz (al _ iq)) ?_
   rintro v H1 ⟨rfl,rfl⟩
   simp
   refine bH.mk (fun hw=>?_) (fun hw=>?_)
   ·simp[bf]
    exact aE _ _ ⟨rfl,i,rfl,fun _=>⟨_,iq,hw⟩,fun _=>by omega⟩
   ·simp(disch:=omega)[iZ,b6]
    refine a0 (t.length-(i+1)) _ _ (by omega) ⟨i+1,by omega,by omega,rfl,by simp[cq],by simp[cj],by simp[kY],by simp,?_⟩
    intro x J
    rw[List.take_succ_eq_append_getElem a6]at J
    rcases List.mem_append.1 J with J | J
    ·exact e1 x J
    ·simp at J
     rw[bJ a6]at hw
     subst J
     simpa using hw
  ·simp[bf]
   have:i=t.length:=by omega
   subst this
   rw[List.take_length]at e1
   refine aE _ _ ⟨rfl,-1,rfl,?_⟩
   constructor
   ·intro h;omega
   ·rintro⟨r,o,aa⟩
    exact absurd aa (e1 r o)
theorem Qp{v:Value}{t:List (List Int)}{H:ab}{cl:Nat}(bc:j9 H v t)(bM:0<t.length)(uz:H[cl]?=some (.own 22 false [v]))(ar:t.length<4611686018427387904)(al:∀r∈t,r.length<4611686018427387904):
  aP prog 61 [v,.func (.func 62) #[] #[.pointer (some ⟨cl,0,none⟩)]] H (fun w H1=>H1=H/\w= .bool (decide (∃r∈t,ly (t[0]?.getD []).length r=true))):=by
 refine aP.b9 fun Q aE=>?_
 apply XP (by simp)
 simp[G_]
 refine aV.mk (Wk bc bM uz ar al) ?_
 rintro v H1 ⟨rfl,n,rfl,aG⟩
 simp[bf]
 refine aE _ _ ⟨rfl,?_⟩
 congr 1
 exact decide_eq_decide.2 aG
def gV(t:List (List Int)):Prop:=1<=t.length/\t.length<=8/\1<=(t[0]?.getD []).length/\(t[0]?.getD []).length<=8/\∀r∈t,ly (t[0]?.getD []).length r=false
instance(t:List (List Int)):Decidable (gV t):=by unfold gV;infer_instance
theorem F7{v:Value}{t:List (List Int)}{H:ab}(bc:j9 H v t)(ar:t.length<4611686018427387904)(al:∀r∈t,r.length<4611686018427387904):
  aP prog 31 [v] H (fun w H1=>Ext H H1/\w= .bool (decide (gV t))):=by
 refine aP.b9 fun Q aE=>?_
 apply XL (by simp)
 obtain⟨a,cap,rfl⟩:=bc.len
 have J:Ext H (H++[.own 22 false [.slice a t.length cap]]):=Ext.more H (by simp)
 have no:¬gV t->Q (.bool false) (H++[.own 22 false [.slice a t.length cap]]):=fun h=>aE _ _ ⟨J,by simp[h]⟩
 simp[G7]
 refine bH.b_ (fun o=>?_) (fun o=>?_)
 ·simp[o,bf]
  exact no fun h=>by have:=h.1;omega
 ·obtain⟨b,i,dC,X,all,he,aQ,ad,k5⟩:=bc.at (by omega)
  cases he
  obtain⟨yX,r8,aH,-⟩:=k5 0 (by omega)
  simp only[Nat.add_zero]at aH
  simp[o]
  refine bH.b_ (fun aa=>?_) (fun aa=>?_)
  ·simp[o,aa,bf]
   exact no fun h=>by have:=h.2.1;omega
  ·simp[o,aa]
   refine dE.mk (by omega) ?_
   simp[o,aa,nm aQ,ad,aH,-getElem?_pos]
   refine bH.b_ (fun aA=>?_) (fun aA=>?_)
   ·simp[aA,bf]
    exact no fun h=>by have:=h.2.2.1;omega
   ·simp[aA]
    refine dE.mk (by omega) ?_
    simp[aA,nm aQ,ad,aH,-getElem?_pos]
    refine bH.b_ (fun bo=>?_) (fun bo=>?_)
    ·simp[bo,bf]
     exact no fun h=>by have:=h.2.2.2.1;omega
    ·simp[bo]
     refine aV.mk (Qp (cl:=H.length) (bc.ext J) (by omega) (by simp) ar al) ?_
     rintro u H1 ⟨rfl,rfl⟩
     simp[bf]
     refine aE _ _ ⟨J,?_⟩
     have:gV t↔¬(∃r∈t,ly (t[0]?.getD []).length r=true):=by
      constructor
      ·rintro⟨-,-,-,-,h⟩ ⟨r,a1,a3⟩
       rw[h r a1]at a3
       cases a3
      ·intro h
       refine⟨by omega,by omega,by omega,by omega,fun r q=>?_⟩
       cases ag:ly (t[0]?.getD []).length r with
       | false=>rfl
       | true=>exact absurd ⟨r,q,ag⟩ h
     have e:decide (gV t)= !decide (∃r∈t,ly (t[0]?.getD []).length r=true):=by
      rw[<-decide_not]
      exact decide_eq_decide.2 this
     rw[e]
end Go.cJ
end
section
set_option maxRecDepth 8000
namespace Go.cJ
theorem di.kept{H aF:ab}{e:Nat}{s v:Value}{z:Int}(h:di H v z)(aj:Kept H aF s e)(cN:124≠e):di aF v z:=by
 obtain⟨a,c,l,o,aa,aA⟩:=h
 exact⟨a,c,l,o,⟨aa.1.kept aj cN,aa.2⟩,aA⟩
theorem fm.kept{H aF:ab}{e:Nat}{s v:Value}{n d:Int}(h:fm H v n d)(aj:Kept H aF s e)(cN:124≠e):fm aF v n d:=by
 obtain⟨hf,la,gH,j2,o,aa,aA⟩:=h
 exact⟨hf,la,gH,j2,o,aa.kept aj cN,aA.kept aj cN⟩
end Go.cJ
end
section
set_option maxRecDepth 8000
namespace Go.cJ
open Go.Proofs
open Go.Proofs.Tryz (prog)
end Go.cJ
end
section
set_option maxRecDepth 8000
namespace Go.cJ
open Go.Proofs
open Go.Proofs.Tryz (prog)
attribute [-simp] hq hX
def fV(H:ab)(v:Value)(n:Nat):Prop:=v= .int .u32 (n:Int)/\n<4294967296
instance:b7 fV:=⟨fun h _=>h⟩
theorem cZ.row{H:ab}{e:Nat}{v:Value}{l:List Nat}(h:cZ H e v l):Row e 1 false fV H v l:=⟨_,h.1,fun i x ae=>⟨by simp[et,List.getElem?_map,ae],h.2 x (List.mem_of_getElem? ae)⟩⟩
theorem OZ{cs:List Value}{l:List Nat}(ar:cs.length=l.length*1)(h:∀H i x,l[i]?=some x->fV H (et false 1 cs i) x):cs=l.map fun(n:Nat)=>Value.int .u32 (n:Int):=by
 apply List.ext_getElem?
 intro i
 rw[List.getElem?_map]
 by_cases ae:i<l.length
 ·have:=(h [] i _ (bJ ae)).1
  simp only[et,Bool.false_eq_true,if_false]at this
  rw[bJ ae]
  rw[bJ (by omega)]at this⊢
  simpa using this
 ·rw[List.getElem?_eq_none (by omega),List.getElem?_eq_none (by omega)];rfl
theorem Row.us{H:ab}{e:Nat}{v:Value}{l:List Nat}(h:Row e 1 false fV H v l):cZ H e v l:=by
 obtain⟨cs,o,aa⟩:=h
 obtain⟨a,cap,an,aA,bo,bK⟩:=o
 have:=OZ bo (fun _ i x ae=>aa i x ae)
 subst this
 exact⟨⟨a,cap,an,aA,bo,bK⟩,fun x J=>by obtain⟨i,ae⟩:=List.getElem?_of_mem J;exact(aa i x ae).2⟩
theorem Gg:Whole prog 124 (.int .u32 0):=⟨by kernel_rfl,by kernel_rfl,by rw[if_neg (by decide)];exact⟨by kernel_rfl,rfl⟩⟩
theorem yC(n:Int):Whole prog 124 (.int .u32 n):=⟨by kernel_rfl,rfl,by rw[if_neg (by simp[e3])];exact⟨by kernel_rfl,rfl⟩⟩
def EZ(a b:Int):Int:=IntKind.u32.wrap ((BitVec.ofInt 32 a ||| BitVec.ofInt 32 b).toNat:Int)
@[simp high] theorem aiv(P:Program)(t:Nat)(a b:Int):dZ P .or t (.int .u32 a) (.int .u32 b)=some (.int .u32 (EZ a b)):=N5
theorem O3{v:Value}{x:List Nat}{n:Nat}{H:ab}(aQ:cZ H 124 v x)(ar:x.length<1048576)(aG:n<32):
  aP prog 124 [v,.int .i64 n] H (fun au H1=>Ext H H1/\∃out,bB H.length 124 1 false fV H1 au out/\out.length=x.length+1/\val out=val x*2^n):=by
 refine aP.b9 fun Q aE=>?_
 apply Xu (by simp)
 simp[HX]
 refine c9 (by simpa using aQ.row) (by simp) ?_
 simp(disch:=omega)[b6]
 refine rK (e:=124) (U:=1) (bA:=4) (n:=x.length+1) (aC:=false) (z:= .int .u32 0) (af:=fV) (a:=0) (eW:= .i64) (c4:= .i64) (by simp) (by simp) (by simp) (by simp) (by rfl) (by simp) Gg (by simp) (by simp) (by omega) (by omega) (by omega) (fun aF=>⟨rfl,by decide⟩) ?_
 rintro R H1 cy bx-
 simp
 refine c9 (by simpa using(aQ.ext bx).row) (by simp) ?_
 simp
 refine dF.range (by kernel_rfl) x.length (by omega) (by simp) (by rfl) (by simp) (by decide) (by decide) (fun i bU dp aR=>Ext H aR/\∃out:List Nat,bB H.length 124 1 false fV aR R out/\out.length=x.length+1/\val (out.take (i+1))=val (x.take i)*2^n/\out[i]?.getD 0<2^n/\∀j,i<j->out[j]?.getD 0=0) ?_ ?_ ?_
 ·exact⟨bx,List.replicate (x.length+1) 0,cy,by simp,by simp[List.take_replicate,F4,val],by simp[Nat.pow_pos],fun j aX=>by rw[List.getElem?_replicate];split<;>rfl⟩
 ·rintro i bU dp aR ae a5 ⟨bm,out,fI,dI,gO,a6,aM⟩ K a0
  simp at a5
  simp[a5]
  refine dc (af:=fV) (n:=i) (by simpa using(aQ.ext bm).row) (by simp[a5]) (bJ ae) (by simp) (by simp) (by simp) (.inr rfl) ?_
  rintro p u ⟨rfl,hu⟩
  obtain⟨y,aL⟩:∃y,x[i]=y:=⟨_,rfl⟩
  rw[aL]at hu
  have xN:x[i]?.getD 0=y:=by rw[bJ ae,aL];rfl
  have agH:2^n<=2^31:=Nat.pow_le_pow_right (by decide) (by omega)
  obtain⟨t,bM⟩:∃t,y*2^n=t:=⟨_,rfl⟩
  have ob:t<4294967296*2^n:=by rw[<-bM];exact Nat.mul_lt_mul_of_pos_right hu (Nat.pow_pos (by decide))
  have D4:(y:Int)*2^n=(t:Int):=by rw[<-bM];push_cast;rfl
  have oa:IntKind.u64.wrap ((y:Int)*2^n)=(t:Int):=by rw[D4,f_ (by omega) (by omega)]
  have rj:IntKind.u64.wrap (y:Int)=(y:Int):=f_ (by omega) (by omega)
  have DL:min n 64=n:=by omega
  have jC:¬((n:Int)<0):=by omega
  simp[aL,rj,DL,jC,oa,a5]
  refine dc (af:=fV) (n:=i) (by simpa using fI.row) (by simp) (bJ (show i<out.length by omega)) (by simp) (by simp) (by simp) (.inr rfl) ?_
  rintro fZ ln ⟨rfl,mw⟩
  have cV:out[i]?.getD 0=out[i]:=by rw[bJ (by omega)];rfl
  rw[cV]at a6
  generalize out[i]'(by omega)=h at*
  obtain⟨fr,Vx⟩:∃fr,t % 4294967296=fr:=⟨_,rfl⟩
  obtain⟨mD,ahJ⟩:∃mD,t/4294967296=mD:=⟨_,rfl⟩
  obtain⟨s,ao⟩:∃s,h+fr=s:=⟨_,rfl⟩
  have Vw:IntKind.u32.wrap (t:Int)=(fr:Int):=by rw[oy];omega
  have hmul:fr=2^n*(fr/2^n):=by
   have o:2^n∣fr:=by
    have:(4294967296:Nat)=2^n*2^(32-n):=by rw[<-Nat.pow_add];rw[show n+(32-n)=32 by omega]
    rw[<-Vx,<-bM,this,Nat.mul_comm y,Nat.mul_mod_mul_left]
    exact Nat.dvd_mul_right _ _
   exact(Nat.mul_div_cancel' o).symm
  have uT:s<4294967296:=by
   have this:(4294967296:Nat)=2^n*2^(32-n):=by rw[<-Nat.pow_add];rw[show n+(32-n)=32 by omega]
   have av:fr/2^n<2^(32-n):=by
    refine(Nat.div_lt_iff_lt_mul (Nat.pow_pos (by decide))).2 ?_
    rw[Nat.mul_comm (2^(32-n)),<-this]
    omega
   have n_:2^n*(fr/2^n+1)<=2^n*2^(32-n):=Nat.mul_le_mul_left _ av
   rw[Nat.mul_add,Nat.mul_one,<-hmul,<-this]at n_
   omega
  have Ak:EZ (h:Int) (fr:Int)=(s:Int):=by
   unfold EZ
   rw[BitVec.ofInt_natCast,BitVec.ofInt_natCast,BitVec.toNat_or,BitVec.toNat_ofNat,BitVec.toNat_ofNat,Nat.mod_eq_of_lt (show h<2^32 by omega),Nat.mod_eq_of_lt (by omega)]
   have aa:=Nat.two_pow_add_eq_or_of_lt (i:=n) (b:=h) a6 (fr/2^n)
   rw[<-hmul]at aa
   rw[Nat.or_comm,<-aa,lY (by omega) (by omega)]
   omega
  simp[Vw,Ak]
  refine kK (af:=fV) (n:=i) (a:=s) (by simpa using fI) (by simp) (by omega) ⟨by simp,uT⟩ (by simpa using yC _) (by simp) (fun _ _ _ _ _ h=>h) (by simp) (by simp) (by simp) (by decide) ?_
  rintro eM bP hi bN- - -
  simp at hi
  have xK:=bN H (Nat.le_refl _) bm
  have jd:IntKind.i64.wrap ((i:Int)+1)=((i+1:Nat):Int):=by rw[b6 (by omega) (by omega)];simp
  have xw:IntKind.u32.wrap ((t:Int).fdiv 4294967296)=(mD:Int):=by
   rw[mT _ (by decide),lY (by omega) (by omega)]
   omega
  simp[a5,jd,xw]
  have LS:mD<2^n:=by omega
  refine kK (af:=fV) (n:=i+1) (a:=mD) (by simpa using hi) (by simp) (by simp;omega) ⟨by simp,by omega⟩ (by simpa using yC _) (by simp) (fun _ _ _ _ _ h=>h) (by simp) (by simp) (by simp) (by decide) ?_
  rintro gC b1 jP cr- - -
  simp at jP
  simp
  refine a0 _ _ _ (by simp[a5]) ⟨cr H (Nat.le_refl _) xK,_,by simpa using jP,by simp[dI],?_,?_,?_⟩
  ·rw[List.take_succ_eq_append_getElem (by simp;omega),List.take_set_of_le (by omega),List.getElem_set_self,nx,rO _ _ _ (by omega)]
   rw[iV,cV]at gO
   rw[iV,xN]
   simp[val,Nat.min_eq_left (show i+1<=out.length by omega)]
   rw[Nat.add_mul,<-gO,Nat.mul_assoc,bM,Nat.pow_succ,<-ao]
   have:t=fr+4294967296*mD:=by omega
   rw[this]
   grind
  ·rw[List.getElem?_set_self (by simp;omega)];exact LS
  ·intro j aX
   rw[List.getElem?_set_ne (by omega),List.getElem?_set_ne (by omega)]
   exact aM j (by omega)
 ·rintro bU dp aR a5 ⟨bm,out,fI,dI,gO,-,-⟩
  simp[bf]
  refine aE _ _ ⟨bm,out,fI,dI,?_⟩
  rw[List.take_of_length_le (by omega),List.take_length]at gO
  exact gO
theorem O4{N:Nat}:∀(l:List Nat) (m:Nat),(∀i,i<l.length->l[i]?.getD 0=N/4294967296^(m+i) % 4294967296)->N/4294967296^m<4294967296^l.length->val l=N/4294967296^m
 | [],m,h,bX=>by simp only[List.length_nil,Nat.pow_zero,Nat.lt_one_iff]at bX;rw[bX];rfl
 | x::l,m,h,bX=>by
  have aH:=h 0 (by simp)
  simp at aH
  have aB:N/4294967296^(m+1)=N/4294967296^m/4294967296:=by rw[Nat.pow_succ,Nat.div_div_eq_div_mul]
  have a2:=O4 l (m+1) (fun i ae=>by have:=h (i+1) (by simpa using ae);simp at this;rw[this,Nat.add_assoc,Nat.add_comm 1 i]) (by
   rw[aB]
   simp only[List.length_cons,Nat.pow_succ]at bX
   exact(Nat.div_lt_iff_lt_mul (by decide)).2 bX)
  simp only[val]
  rw[a2,aB]
  omega
theorem O6(x:List Nat)(J:∀y∈x,y<4294967296):∀i,val x/4294967296^i=val (x.drop i)
 | 0=>by simp
 | i+1=>by
  rw[Nat.pow_succ,<-Nat.div_div_eq_div_mul,O6 x J i]
  by_cases ae:i<x.length
  ·rw[tj _ _ ae]
   have:x[i]?.getD 0<4294967296:=by rw[bJ ae];exact J _ (List.getElem_mem ae)
   omega
  ·rw[List.drop_eq_nil_of_le (by omega),List.drop_eq_nil_of_le (by omega)]
   simp[val]
theorem Z7(x:List Nat)(J:∀y∈x,y<4294967296)(i n:Nat)(aG:n<32):val x/2^n/4294967296^i % 4294967296=(x[i]?.getD 0+4294967296*(x[i+1]?.getD 0))/2^n % 4294967296:=by
 rw[Nat.div_div_eq_div_mul,Nat.mul_comm,<-Nat.div_div_eq_div_mul,O6 x J i]
 have e:(4294967296:Nat)=2^n*2^(32-n):=by rw[<-Nat.pow_add];rw[show n+(32-n)=32 by omega]
 have an:val (x.drop i)=x[i]?.getD 0+4294967296*(x[i+1]?.getD 0)+2^n*(4294967296*(2^(32-n)*val (x.drop (i+2)))):=by
  have aa:val (x.drop i)=x[i]?.getD 0+4294967296*(x[i+1]?.getD 0+4294967296*val (x.drop (i+2))):=by
   by_cases ae:i<x.length
   ·rw[tj _ _ ae]
    by_cases h5:i+1<x.length
    ·rw[tj _ _ h5]
    ·rw[List.drop_eq_nil_of_le (show x.length<=i+1 by omega),List.drop_eq_nil_of_le (by omega),List.getElem?_eq_none (l:=x) (i:=i+1) (by omega)];simp[val]
   ·rw[List.drop_eq_nil_of_le (by omega),List.drop_eq_nil_of_le (by omega),List.getElem?_eq_none (by omega),List.getElem?_eq_none (by omega)];simp[val]
  rw[aa,Nat.mul_left_comm (2^n),<-Nat.mul_assoc (2^n),<-e]
  omega
 rw[an,Nat.add_mul_div_left _ _ (Nat.pow_pos (by decide)),Nat.add_mul_mod_self_left]
theorem Ra{v:Value}{x:List Nat}{n:Nat}{H:ab}(aQ:cZ H 124 v x)(ar:x.length<1048576)(aG:n<32):
  aP prog 126 [v,.int .i64 n] H (fun au H1=>Ext H H1/\∃l,cZ H1 124 au l/\Trim l/\val l=val x/2^n):=by
 refine aP.b9 fun Q aE=>?_
 apply Xl (by simp)
 simp[HT]
 refine c9 (by simpa using aQ.row) (by simp) ?_
 refine rK (e:=124) (U:=1) (bA:=4) (n:=x.length) (aC:=false) (z:= .int .u32 0) (af:=fV) (a:=0) (eW:= .i64) (c4:= .i64) (by simp) (by simp) (by simp) (by simp) (by rfl) (by simp) Gg (by simp) (by simp) (by omega) (by omega) (by omega) (fun aF=>⟨rfl,by decide⟩) ?_
 rintro R H1 cy bx-
 simp
 refine c9 (by simpa using(aQ.ext bx).row) (by simp) ?_
 simp
 refine dF.range (by kernel_rfl) x.length (by omega) (by simp) (by rfl) (by simp) (by decide) (by decide) (fun i bU dp aR=>Ext H aR/\∃out:List Nat,bB H.length 124 1 false fV aR R out/\out.length=x.length/\∀j,j<i->out[j]?.getD 0=val x/2^n/4294967296^j % 4294967296) ?_ ?_ ?_
 ·exact⟨bx,List.replicate x.length 0,cy,by simp,fun j aX=>by omega⟩
 ·rintro i bU dp aR ae a5 ⟨bm,out,fI,dI,gO⟩ K a0
  simp at a5
  simp[a5]
  refine dc (af:=fV) (n:=i) (by simpa using(aQ.ext bm).row) (by simp[a5]) (bJ ae) (by simp) (by simp) (by simp) (.inr rfl) ?_
  rintro p u ⟨rfl,hu⟩
  obtain⟨y,aL⟩:∃y,x[i]=y:=⟨_,rfl⟩
  rw[aL]at hu
  have xN:x[i]?.getD 0=y:=by rw[bJ ae,aL];rfl
  have rj:IntKind.u64.wrap (y:Int)=(y:Int):=f_ (by omega) (by omega)
  have jd:IntKind.i64.wrap ((i:Int)+1)=((i+1:Nat):Int):=by rw[b6 (by omega) (by omega)];simp
  simp[aL,rj,jd]
  obtain⟨z,aM⟩:∃z,x[i+1]?.getD 0=z:=⟨_,rfl⟩
  have p2:z<4294967296:=aM▸aQ.lt _
  refine cc.join (by kernel_rfl) (fun dh ey bP=>bP=aR/\∃t:Nat,dh 7= .int .u64 t/\t=y+4294967296*z) ?_ ?_
  ·rintro ef hn-
   simp[jd]
   refine c9 (by simpa using(aQ.ext bm).row) (by simp) ?_
   simp
   refine bH.b_ (fun a6=>?_) (fun a6=>?_)
   ·simp[jd]
    have h5:i+1<x.length:=by omega
    refine dc (af:=fV) (n:=i+1) (by simpa using(aQ.ext bm).row) (by simp) (bJ h5) (by simp) (by simp) (by simp) (.inr rfl) ?_
    rintro p u ⟨rfl,oZ⟩
    have sZ:x[i+1]=z:=by rw[bJ h5]at aM;exact aM
    have Wd:IntKind.u64.wrap (z:Int)=(z:Int):=f_ (by omega) (by omega)
    obtain⟨s,ao⟩:∃s,z*4294967296=s:=⟨_,rfl⟩
    have dg:IntKind.u64.wrap ((z:Int)*4294967296)=(s:Int):=by rw[f_ (by omega) (by omega)];omega
    have aX:=ve (r:=z) p2 hu
    rw[ao]at aX
    have lK:p9 (y:Int) (s:Int)=((s+y:Nat):Int):=by
     rw[<-aX];unfold p9;congr 2;rw[BitVec.or_comm]
    obtain⟨t,bM⟩:∃t,s+y=t:=⟨_,rfl⟩
    rw[bM]at lK
    simp[sZ,Wd,dg,lK]
    exact hn _ _ _ ⟨rfl,t,by simp,by omega⟩
   ·have xP:z=0:=by rw[<-aM,List.getElem?_eq_none (by omega)];rfl
    exact hn _ _ _ ⟨rfl,y,by simp,by omega⟩
  ·rintro dh ey bP ⟨rfl,t,cg,bM⟩
   simp at cg
   have DG:=Z7 x aQ.2 i n aG
   rw[xN,aM]at DG
   rw[<-bM]at DG
   obtain⟨w,hw⟩:∃w,t/2^n % 4294967296=w:=⟨_,rfl⟩
   have DL:min n 64=n:=by omega
   have jC:¬((n:Int)<0):=by omega
   have Vt:IntKind.u32.wrap ((t:Int).fdiv (2^n))=(w:Int):=by
    rw[mT _ (by exact_mod_cast Nat.zero_le _),oy,<-hw]
    rw[Int.natCast_emod,Int.natCast_ediv,Int.natCast_pow]
    rfl
   simp[cg,DL,jC,Vt]
   refine kK (af:=fV) (n:=i) (a:=w) (by simpa using fI) (by simp) (by omega) ⟨by simp,by omega⟩ (by simpa using yC _) (by simp) (fun _ _ _ _ _ h=>h) (by simp) (by simp) (by simp) (by decide) ?_
   rintro eM b1 hi bN- - -
   simp at hi
   simp
   refine a0 _ _ _ (by simp[a5]) ⟨bN H (Nat.le_refl _) bm,_,by simpa using hi,by simp[dI],fun j aX=>?_⟩
   by_cases fE:j=i
   ·subst fE
    rw[List.getElem?_set_self (by omega),DG,hw]
    rfl
   ·rw[List.getElem?_set_ne (Ne.symm fE)]
    exact gO j (by omega)
 ·rintro bU dp aR a5 ⟨bm,out,fI,dI,gO⟩
  simp
  have ec:cZ aR 124 R out:=fI.row.us
  refine aV.mk (lW ec (by omega)) ?_
  rintro v bP ⟨rfl,l,gL,jU,mm,-⟩
  simp[bf]
  refine aE _ _ ⟨bm,l,gL,jU,?_⟩
  have:=O4 out 0 (fun j aX=>by rw[gO j (by omega),Nat.zero_add]) (by
   rw[Nat.pow_zero,Nat.div_one,dI]
   exact Nat.lt_of_le_of_lt (Nat.div_le_self _ _) (j7 aQ.2))
  rw[mm,this,Nat.pow_zero,Nat.div_one]
end Go.cJ
end
section
set_option maxRecDepth 8000
namespace Go.cJ
section
variable {E ul fg top gT aD ct:Nat}
theorem RW(kF:ul<E)(xB:fg<4294967296)(pY:0<ct):(ul+E*(fg+4294967296*top))/(gT+E*(aD+4294967296*ct))<=top/ct:=by
 have bW:0<E:=by omega
 rw[Nat.le_div_iff_mul_le pY]
 generalize av:(ul+E*(fg+4294967296*top))/(gT+E*(aD+4294967296*ct))=q
 have o:q*(gT+E*(aD+4294967296*ct))<=ul+E*(fg+4294967296*top):=by rw[<-av];exact Nat.div_mul_le_self _ _
 have aa:E*(4294967296*(q*ct))<=q*(gT+E*(aD+4294967296*ct)):=by
  have:q*(gT+E*(aD+4294967296*ct))=q*gT+q*E*aD+E*(4294967296*(q*ct)):=by grind
  omega
 have aA:ul+E*(fg+4294967296*top)<E*(4294967296*(top+1)):=by
  have:E*(fg+1)<=E*4294967296:=Nat.mul_le_mul_left _ xB
  grind
 have bo:E*(4294967296*(q*ct))<E*(4294967296*(top+1)):=by omega
 have bK:=Nat.lt_of_mul_lt_mul_left bo
 omega
theorem RY{g r:Nat}(kF:ul<E)(bM:g*ct+r=top)(h:r*4294967296+fg<g*aD):(ul+E*(fg+4294967296*top))/(gT+E*(aD+4294967296*ct))<g:=by
 have bW:0<E:=by omega
 have aU:0<g:=by
  rcases Nat.eq_zero_or_pos g with q | q
  ·subst q;simp at h
  ·exact q
 have an:0<aD:=by
  rcases Nat.eq_zero_or_pos aD with q | q
  ·subst q;simp at h
  ·exact q
 have nW:0<gT+E*(aD+4294967296*ct):=by
  have:=Nat.mul_pos bW an
  have:E*aD<=E*(aD+4294967296*ct):=Nat.mul_le_mul_left _ (by omega)
  omega
 rw[Nat.div_lt_iff_lt_mul nW]
 have o:fg+4294967296*top+1<=g*(aD+4294967296*ct):=by
  rw[<-bM]
  have:g*(aD+4294967296*ct)=g*aD+4294967296*(g*ct):=by grind
  omega
 have aa:E*(fg+4294967296*top+1)<=E*(g*(aD+4294967296*ct)):=Nat.mul_le_mul_left _ o
 have aA:g*(gT+E*(aD+4294967296*ct))=g*gT+E*(g*(aD+4294967296*ct)):=by grind
 have bo:E*(fg+4294967296*top+1)=E*(fg+4294967296*top)+E:=by rw[Nat.mul_add,Nat.mul_one]
 omega
theorem RX{g r:Nat}(sS:gT<E)(pY:0<ct)(aU:g<4294967296)(bM:g*ct+r=top)(h:g*aD<=r*4294967296+fg):g<=(ul+E*(fg+4294967296*top))/(gT+E*(aD+4294967296*ct))+1:=by
 have bW:0<E:=by omega
 rcases Nat.eq_zero_or_pos g with q | q
 ·rw[q];exact Nat.zero_le _
 have nW:0<gT+E*(aD+4294967296*ct):=by
  have:0<E*(aD+4294967296*ct):=Nat.mul_pos bW (by omega)
  omega
 have aH:g-1<=(ul+E*(fg+4294967296*top))/(gT+E*(aD+4294967296*ct)):=by
  rw[Nat.le_div_iff_mul_le nW]
  have o:g*(aD+4294967296*ct)<=fg+4294967296*top:=by
   rw[<-bM]
   have:g*(aD+4294967296*ct)=g*aD+4294967296*(g*ct):=by grind
   omega
  have aa:E*(g*(aD+4294967296*ct))<=E*(fg+4294967296*top):=Nat.mul_le_mul_left _ o
  have aA:g*(gT+E*(aD+4294967296*ct))=g*gT+E*(g*(aD+4294967296*ct)):=by grind
  have bo:g*gT<=g*E:=Nat.mul_le_mul_left _ (by omega)
  have bK:g*E<=4294967296*E:=Nat.mul_le_mul_right _ (by omega)
  have dM:E*4294967296<=E*(aD+4294967296*ct):=Nat.mul_le_mul_left _ (by omega)
  have cg:(g-1)*(gT+E*(aD+4294967296*ct))+(gT+E*(aD+4294967296*ct))=g*(gT+E*(aD+4294967296*ct)):=by
   rw[<-Nat.succ_mul];congr 1;omega
  rw[Nat.mul_comm E 4294967296]at dM
  omega
 exact Nat.sub_le_iff_le_add.1 aH
theorem RV{g r:Nat}(sS:gT<E)(jh:aD<4294967296)(pY:0<ct)(aU:g<4294967296)(bM:g*ct+r=top)(al:4294967296<=r):g<=(ul+E*(fg+4294967296*top))/(gT+E*(aD+4294967296*ct)):=by
 have bW:0<E:=by omega
 have nW:0<gT+E*(aD+4294967296*ct):=by
  have:0<E*(aD+4294967296*ct):=Nat.mul_pos bW (by omega)
  omega
 rw[Nat.le_div_iff_mul_le nW]
 have o:gT+E*(aD+4294967296*ct)<=E*(4294967296*(ct+1)):=by
  have:E*(aD+1)<=E*4294967296:=Nat.mul_le_mul_left _ jh
  grind
 have aa:g*(gT+E*(aD+4294967296*ct))<=g*(E*(4294967296*(ct+1))):=Nat.mul_le_mul_left _ o
 have aA:g*(E*(4294967296*(ct+1)))=E*(4294967296*(g*ct+g)):=by grind
 have bo:E*(4294967296*(g*ct+g))<=E*(4294967296*top):=Nat.mul_le_mul_left _ (Nat.mul_le_mul_left _ (by omega))
 have bK:E*(4294967296*top)<=E*(fg+4294967296*top):=Nat.mul_le_mul_left _ (by omega)
 omega
end
theorem adj(l:List Nat)(n:Nat)(ar:l.length=n+1)(aG:2<=n):val l=val (l.take (n-2))+4294967296^(n-2)*(l[n-2]?.getD 0+4294967296*(l[n-1]?.getD 0+4294967296*(l[n]?.getD 0))):=by
 have hh:l.take (n+1)=l:=by rw[<-ar,List.take_length]
 have o:=iV l n
 have aa:=iV l (n-1)
 have aA:=iV l (n-2)
 rw[show n-1+1=n by omega]at aa
 rw[show n-2+1=n-1 by omega]at aA
 rw[hh]at o
 rw[o,aa,aA]
 have dm:(4294967296:Nat)^(n-1)=4294967296^(n-2)*4294967296:=by rw[<-Nat.pow_succ];congr 1;omega
 have fZ:(4294967296:Nat)^n=4294967296^(n-2)*4294967296*4294967296:=by rw[<-Nat.pow_succ,<-Nat.pow_succ];congr 1;omega
 rw[dm,fZ]
 generalize (4294967296:Nat)^(n-2)=E
 grind
theorem adi(l:List Nat)(n:Nat)(ar:l.length=n)(aG:2<=n):val l=val (l.take (n-2))+4294967296^(n-2)*(l[n-2]?.getD 0+4294967296*(l[n-1]?.getD 0)):=by
 have hh:l.take n=l:=by rw[<-ar,List.take_length]
 have aa:=iV l (n-1)
 have aA:=iV l (n-2)
 rw[show n-1+1=n by omega,hh]at aa
 rw[show n-2+1=n-1 by omega]at aA
 rw[aa,aA]
 have dm:(4294967296:Nat)^(n-1)=4294967296^(n-2)*4294967296:=by rw[<-Nat.pow_succ];congr 1;omega
 rw[dm]
 generalize (4294967296:Nat)^(n-2)=E
 grind
def fG(l:List Nat):List Value:=l.map fun(n:Nat)=>Value.int .u32 (n:Int)
section
variable {P:Program} {r:List bz} {F:Fr} {H:ab} {Q:Fr->ab->Prop}
theorem td{d t d2 e n b R cap:Nat}{l:Bool}{x i:Operand}{pre post:List Value}{us:List Nat}{ax:ba (bu d t x i::aI d2 e (T d)::r) Q}(aQ:H[b]?=some (.own e l (pre++(fG us++post))))(aK:pre.length=R)(J:aq F x= .slice (some ⟨b,R,none⟩) us.length cap)(ae:aq F i= .int .i64 (n:Int))(aG:n<us.length)
  (bM:fe P t=some e)(ao:bq P e=some 1)(ek:ds P e=some false)(K:∀p,a_ P r Q .mk (a4 (a4 F d p) d2 (.int .u32 ((us[n]?.getD 0:Nat):Int))) H):a_ P (bu d t x i::aI d2 e (T d)::r) Q ax F H:=by
 rw[hq,J,ae,tw,qw,bM,gF,ao,gF,tu]
 refine dE.mk ⟨by omega,by omega⟩ ?_
 rw[FR]
 simp only[py,j6,tv,aQ,Option.bind_some,bI.cells?,gF,ek,Int.toNat_natCast,BP]
 have:(pre++(fG us++post))[R+n*1]?=some (.int .u32 ((us[n]?.getD 0:Nat):Int)):=by
  unfold fG
  rw[List.getElem?_append_right (by omega),List.getElem?_append_left (by simp;omega),List.getElem?_map]
  rw[show R+n*1-pre.length=n by omega,bJ aG]
  rfl
 rw[this,gF]
 exact K _
theorem aaV{j d t d2 e n b R cap:Nat}{w l:Bool}{x i:Operand}{pre post:List Value}{us:List Nat}{ax:ba (bu d t x i::aT j w (aI d2 e (T d))::r) Q}(aU:hg (F j)=some w)(DC:j≠d)(aQ:H[b]?=some (.own e l (pre++(fG us++post))))(aK:pre.length=R)(J:aq F x= .slice (some ⟨b,R,none⟩) us.length cap)(ae:aq F i= .int .i64 (n:Int))(aG:n<us.length)
  (bM:fe P t=some e)(ao:bq P e=some 1)(ek:ds P e=some false)(K:∀p,a_ P r Q .mk (a4 (a4 F d p) d2 (.int .u32 ((us[n]?.getD 0:Nat):Int))) H):a_ P (bu d t x i::aT j w (aI d2 e (T d))::r) Q ax F H:=by
 have aH:a_ P (bu d t x i::aI d2 e (T d)::r) Q .mk F H:=td aQ aK J ae aG bM ao ek K
 rw[hq,J,ae,tw,qw,bM,gF,ao,gF,tu]at aH⊢
 exact⟨aH.1,Oz (by rw[iy _ _ DC];exact aU) aH.2⟩
theorem By{d t e n b R cap z:Nat}{l:Bool}{x i y:Operand}{pre post:List Value}{us:List Nat}{ax:ba (bu d t x i::st e (T d) y::r) Q}(aQ:H[b]?=some (.own e l (pre++(fG us++post))))(aK:pre.length=R)(J:aq F x= .slice (some ⟨b,R,none⟩) us.length cap)(ae:aq F i= .int .i64 (n:Int))(aG:n<us.length)
  (aL:∀v,aq (a4 F d v) y= .int .u32 (z:Int))(bM:fe P t=some e)(ao:bq P e=some 1)(K:∀p,a_ P r Q .mk (a4 F d p) (H.set b (.own e l (pre++(fG (us.set n z)++post))))):a_ P (bu d t x i::st e (T d) y::r) Q ax F H:=by
 rw[hq,J,ae,tw,qw,bM,gF,ao,gF,tu]
 refine dE.mk ⟨by omega,by omega⟩ ?_
 rw[OD]
 simp only[py,j6,tv,aQ,GG,Int.toNat_natCast,aL]
 refine dE.mk ⟨by rw[ao];rfl,by simp[fG];omega,by simp⟩ ?_
 have:lX (pre++(fG us++post)) (R+n*1) (Value.int IntKind.u32 (z:Int)).cells.toList=pre++(fG (us.set n z)++post):=by
  show(pre++(fG us++post)).set (R+n*1) (.int .u32 (z:Int))=_
  unfold fG
  rw[List.set_append_right _ _ (by omega),List.set_append_left _ _ (by simp;omega)]
  rw[show R+n*1-pre.length=n by omega,List.map_set]
 rw[aL,this]
 exact K _
end
end Go.cJ
end
section
set_option maxRecDepth 8000
namespace Go.cJ
open Go.Proofs
open Go.Proofs.Tryz (prog)
attribute [-simp] hq hX
theorem N7{H:ab}{b:Nat}{X:bI}(h:H[b]?=some X):H.set b X=H:=by
 apply List.ext_getElem?
 intro i
 by_cases ae:b=i
 ·subst ae;rw[List.getElem?_set_self (cK.1 h).1,h]
 ·rw[List.getElem?_set_ne ae]
theorem QH{v:Value}{b R cap m:Nat}{l:Bool}{pre post:List Value}{us aD:List Nat}{H:ab}(aQ:H[b]?=some (.own 124 l (pre++(fG us++post))))(aK:pre.length=R)(pW:us.length=m+3)(kF:∀x∈us,x<4294967296)
  (nW:∀X,(∀e cs,X≠ .ro e cs)->cZ (H.set b X) 124 v aD)(jh:aD.length=m+2)(hm:m<1048576)(pY:aD[m+1]?.getD 0≠0)(a6:val us<4294967296*val aD):
  aP prog 125 [.slice (some ⟨b,R,none⟩) (m+3) cap,v] H (fun w H1=>(∃q:Nat,w= .int .u32 (q:Int)/\q=val us/val aD)/\∃dK,H1=H.set b (.own 124 l (pre++(fG dK++post)))/\dK.length=m+3/\(∀x∈dK,x<4294967296)/\val dK=val us % val aD):=by
 refine aP.b9 fun Q aE=>?_
 apply Xk (by simp)
 have gJ:=(cK.1 aQ).1
 have nX:=fun dK:List Nat=>nW (.own 124 l (pre++(fG dK++post))) (by simp)
 have uo:Row 124 1 false fV H v aD:=by
  have:=(nX us).row
  rwa[N7 aQ]at this
 obtain⟨aj0,aj3,rfl⟩:=uo.len
 rw[jh]at nW nX uo⊢
 have k7:IntKind.i64.wrap ((m:Int)+2-1)=(m:Int)+1:=by rw[b6 (by omega) (by omega)];omega
 have L_:IntKind.i64.wrap (m:Int)=(m:Int):=b6 (by omega) (by omega)
 have m5:IntKind.i64.wrap ((m:Int)+2-2)=(m:Int):=by rw[b6 (by omega) (by omega)];omega
 obtain⟨ln,mw⟩:∃x,us[m+2]?.getD 0=x:=⟨_,rfl⟩
 obtain⟨mF,oc⟩:∃x,us[m+1]?.getD 0=x:=⟨_,rfl⟩
 obtain⟨fg,xB⟩:∃x,us[m]?.getD 0=x:=⟨_,rfl⟩
 obtain⟨ct,sV⟩:∃x,aD[m+1]?.getD 0=x:=⟨_,rfl⟩
 obtain⟨v0,Eb⟩:∃x,aD[m]?.getD 0=x:=⟨_,rfl⟩
 have zN:∀k,us[k]?.getD 0<4294967296:=fun k=>wj (by decide) kF k
 have zO:∀k,aD[k]?.getD 0<4294967296:=fun k=>wj (by decide) (nX us).2 k
 have MT:=mw▸zN (m+2)
 have Ys:=oc▸zN (m+1)
 have MS:=xB▸zN m
 have ah0:=sV▸zO (m+1)
 have AR:=Eb▸zO m
 rw[sV]at pY
 have Eg:aD[m+1]?=some ct:=by rw[<-sV,bJ (by omega)];rfl
 have VJ:aD[m]?=some v0:=by rw[<-Eb,bJ (by omega)];rfl
 obtain⟨top,mv⟩:∃x,ln*4294967296+mF=x:=⟨_,rfl⟩
 obtain⟨E,bW⟩:∃E,4294967296^m=E:=⟨_,rfl⟩
 have wR:val us=val (us.take m)+E*(fg+4294967296*top):=by
  have:=adj us (m+2) pW (by omega)
  simp only[Nat.add_sub_cancel,show m+2-1=m+1 by omega,xB,oc,mw,bW]at this
  rw[this,<-mv]
  grind
 have uq:val aD=val (aD.take m)+E*(v0+4294967296*ct):=by
  have:=adi aD (m+2) jh (by omega)
  simpa only[Nat.add_sub_cancel,show m+2-1=m+1 by omega,Eb,sV,bW]using this
 have LZ:val (us.take m)<E:=by
  have:=j7 (l:=us.take m) fun x J=>kF x (List.mem_of_mem_take J)
  rwa[List.length_take,Nat.min_eq_left (by omega),bW]at this
 have L4:val (aD.take m)<E:=by
  have:=j7 (l:=aD.take m) fun x J=>(nX us).2 x (List.mem_of_mem_take J)
  rwa[List.length_take,Nat.min_eq_left (by omega),bW]at this
 have xG:0<ct:=by omega
 obtain⟨q,av⟩:∃q,val us/val aD=q:=⟨_,rfl⟩
 have um:0<val aD:=by
  rw[uq]
  have:0<E*(v0+4294967296*ct):=Nat.mul_pos (by omega) (by omega)
  omega
 have Ar:q<4294967296:=by rw[<-av,Nat.div_lt_iff_lt_mul um];exact a6
 have ahK:top<4294967296*ct+4294967296:=by
  have o:E*(4294967296*top)<4294967296*(E*(4294967296*(ct+1))):=by
   have bY:E*(4294967296*top)<=val us:=by rw[wR];have:E*(4294967296*top)<=E*(fg+4294967296*top):=Nat.mul_le_mul_left _ (by omega);omega
   have cC:val aD<E*(4294967296*(ct+1)):=by
    rw[uq]
    have:E*(v0+1)<=E*4294967296:=Nat.mul_le_mul_left _ AR
    grind
   omega
  have aa:E*(4294967296*top)<E*(4294967296*(4294967296*(ct+1))):=by
   have:4294967296*(E*(4294967296*(ct+1)))=E*(4294967296*(4294967296*(ct+1))):=by grind
   omega
  have:=Nat.lt_of_mul_lt_mul_left aa
  omega
 have Cl:IntKind.u64.wrap (ct:Int)=(ct:Int):=f_ (by omega) (by omega)
 have QC:IntKind.u64.wrap (v0:Int)=(v0:Int):=f_ (by omega) (by omega)
 have Qt:IntKind.u64.wrap (ln:Int)=(ln:Int):=f_ (by omega) (by omega)
 have Qs:IntKind.u64.wrap (mF:Int)=(mF:Int):=f_ (by omega) (by omega)
 have Qr:IntKind.u64.wrap (fg:Int)=(fg:Int):=f_ (by omega) (by omega)
 obtain⟨s2,lN⟩:∃s,ln*4294967296=s:=⟨_,rfl⟩
 have Vn:IntKind.u64.wrap ((ln:Int)*4294967296)=(s2:Int):=by rw[f_ (by omega) (by omega)];omega
 have AA:p9 (s2:Int) (mF:Int)=(top:Int):=by
  have:=ve (r:=ln) MT Ys
  rw[lN]at this
  rw[this];omega
 obtain⟨cq,w6⟩:∃g,top/ct=g:=⟨_,rfl⟩
 obtain⟨fz,g9⟩:∃g,top % ct=g:=⟨_,rfl⟩
 have m0:=Nat.div_add_mod top ct
 rw[w6,g9]at m0
 have U_:fz<ct:=by rw[<-g9];exact Nat.mod_lt _ xG
 have Aq:q<=cq:=by
  have:=RW (E:=E) (ul:=val (us.take m)) (fg:=fg) (top:=top) (gT:=val (aD.take m)) (aD:=v0) (ct:=ct) LZ MS xG
  rw[<-wR,<-uq,av,w6]at this
  exact this
 have aha:cq<8589934592:=by
  rw[<-w6,Nat.div_lt_iff_lt_mul xG]
  omega
 have ediv:((top:Int).tdiv ct)=(cq:Int):=by rw[<-w6];rfl
 have emod:((top:Int).tmod ct)=(fz:Int):=by rw[<-g9];rfl
 have adr:IntKind.u64.wrap (cq:Int)=(cq:Int):=f_ (by omega) (by omega)
 have ahO:¬((ct:Int)=0):=by omega
 simp[HS,hX]
 refine td (cap:=cap) (n:=m+2) aQ aK (by simp[pW]) (by simp) (by omega) (by simp) (by simp) (by simp) fun dm=>?_
 simp[mw,Qt,Vn,k7]
 refine td (cap:=cap) (n:=m+1) aQ aK (by simp[pW]) (by simp) (by omega) (by simp) (by simp) (by simp) fun fZ=>?_
 simp[oc,Qs,AA,k7]
 refine dc (af:=fV) (n:=m+1) (by simpa using uo) (by simp) Eg (by simp) (by simp) (by simp) (.inr rfl) ?_
 rintro eM cH ⟨rfl,-⟩
 simp[Cl,k7,ediv,adr,pY]
 refine dc (af:=fV) (n:=m+1) (by simpa using uo) (by simp) Eg (by simp) (by simp) (by simp) (.inr rfl) ?_
 rintro gC F_ ⟨rfl,-⟩
 simp[Cl,emod,pY]
 have T4:∀g r,g*ct+r=top->(4294967296<=g\/r*4294967296+fg<g*v0)->q<g:=fun g r o aa=>by
  rcases aa with aa | aa
  ·omega
  ·have:=RY (E:=E) (ul:=val (us.take m)) (fg:=fg) (top:=top) (gT:=val (aD.take m)) (aD:=v0) (ct:=ct) LZ o aa
   rwa[<-wR,<-uq,av]at this
 have Dx:∀g r,g<4294967296->g*ct+r=top->¬r*4294967296+fg<g*v0->g<=q+1:=fun g r aH o aa=>by
  have:=RX (E:=E) (ul:=val (us.take m)) (fg:=fg) (top:=top) (gT:=val (aD.take m)) (aD:=v0) (ct:=ct) L4 xG aH o (by omega)
  rwa[<-wR,<-uq,av]at this
 have T2:∀g r,g<4294967296->g*ct+r=top->4294967296<=r->g<=q:=fun g r aH o aa=>by
  have:=RV (E:=E) (ul:=val (us.take m)) (fg:=fg) (top:=top) (gT:=val (aD.take m)) (aD:=v0) (ct:=ct) L4 AR xG aH o aa
  rwa[<-wR,<-uq,av]at this
 refine cc.join (by kernel_rfl) (fun dh ey bP=>bP=H/\∃g:Nat,dh 7= .int .u64 g/\g<4294967296/\q<=g/\g<=q+1) ?_ ?_
 ·rintro ef hn-
  simp only[ac2,ac5]
  refine dF.mk (by kernel_rfl) (fun g dh ey bP=>bP=H/\∃r:Nat,dh 7= .int .u64 g/\dh 8= .int .u64 r/\g*ct+r=top/\r<4294967296/\q<=g) cq ⟨rfl,fz,by simp,by simp,by rw[Nat.mul_comm];exact m0,by omega,Aq⟩ ?_
  rintro g dh ey bP ⟨rfl,r,cg,dj,KU,lM,Lz⟩ K a0
  simp at cg dj
  have ahb:g<8589934592:=by
   have:g*ct<8589934592*ct:=by
    have:4294967296*ct<=4294967296*ct:=Nat.le_refl _
    omega
   exact Nat.lt_of_mul_lt_mul_right this
  simp only[mE]
  refine cc.join (by kernel_rfl) (fun cY dW b1=>b1=bP/\∃c:Bool,cY 68= .bool c/\(c=true↔(4294967296<=g\/r*4294967296+fg<g*v0))) ?_ ?_
  ·rintro cT Lf-
   have xw:((g:Int).fdiv 4294967296)=((g/4294967296:Nat):Int):=by rw[mT _ (by decide)];omega
   simp[cg,xw]
   refine bH.b_ (fun ad=>?_) (fun ad=>?_)
   ·simp[ad]
    exact Lf _ _ _ ⟨rfl,true,by simp,by simp;omega⟩
   ·simp[ad]
    have uI:g<4294967296:=by omega
    refine ys (af:=fV) (n:=m) (by simp[ad]) (by decide) (by simpa using uo) (by simp[L_]) VJ (by simp) (by simp) (by simp) (.inr rfl) ?_
    rintro iv vA ⟨rfl,-⟩
    have hmul:IntKind.u64.wrap ((g:Int)*v0)=((g*v0:Nat):Int):=ET uI AR
    obtain⟨agG,KW⟩:∃x,g*v0=x:=⟨_,rfl⟩
    obtain⟨rs,sL⟩:∃x,r*4294967296=x:=⟨_,rfl⟩
    have Vo:IntKind.u64.wrap ((r:Int)*4294967296)=(rs:Int):=by rw[f_ (by omega) (by omega)];omega
    rw[KW]at hmul
    simp[ad,QC,cg,dj,hmul,Vo]
    refine aaV (cap:=cap) (n:=m) (by simp[ad]) (by decide) aQ aK (by simp[pW]) (by simp[L_]) (by omega) (by simp) (by simp) (by simp) fun nn=>?_
    have aX:=ve (r:=r) lM MS
    rw[sL]at aX
    obtain⟨Fq,LJ⟩:∃x,rs+fg=x:=⟨_,rfl⟩
    rw[LJ]at aX
    simp[ad,xB,Qr,aX]
    refine Lf _ _ _ ⟨rfl,_,by simp;rfl,?_⟩
    simp[KW,sL,LJ]
    omega
  ·rintro cY dW b1 ⟨rfl,c,JV,fO⟩
   simp at JV
   simp[JV]
   refine bH.mk (fun ad=>?_) (fun ad=>?_)
   ·have ahF:=T4 g r KU (fO.1 ad)
    have mi:IntKind.u64.wrap ((g:Int)-1)=((g-1:Nat):Int):=by rw[f_ (by omega) (by omega)];omega
    obtain⟨ky,Dw⟩:∃x,g-1=x:=⟨_,rfl⟩
    rw[Dw]at mi
    simp[cg,mi,dj,k7]
    refine dc (af:=fV) (n:=m+1) (by simpa using uo) (by simp) Eg (by simp) (by simp) (by simp) (.inr rfl) ?_
    rintro iv vA ⟨rfl,-⟩
    obtain⟨dP,fx⟩:∃x,r+ct=x:=⟨_,rfl⟩
    have sq:IntKind.u64.wrap ((r:Int)+ct)=(dP:Int):=by rw[f_ (by omega) (by omega)];omega
    have xw:((dP:Int).fdiv 4294967296)=((dP/4294967296:Nat):Int):=by rw[mT _ (by decide)];omega
    have KV:ky*ct+dP=top:=by
     have:g*ct=ky*ct+ct:=by rw[show g=ky+1 by omega,Nat.succ_mul]
     omega
    simp[Cl,sq,xw]
    refine bH.b_ (fun aB=>?_) (fun aB=>?_)
    ·have TV:4294967296<=dP:=by omega
     have KO:ky<4294967296:=by
      have:ky*ct<4294967296*ct:=by omega
      exact Nat.lt_of_mul_lt_mul_right this
     exact hn _ _ _ ⟨rfl,ky,by simp,KO,by omega,Nat.le_succ_of_le (T2 ky dP KO KV TV)⟩
    ·exact a0 ky _ _ _ (by omega) ⟨rfl,dP,by simp,by simp,KV,by omega,by omega⟩
   ·have ag4:¬(4294967296<=g\/r*4294967296+fg<g*v0):=fun h=>by rw[fO.2 h]at ad;cases ad
    have uI:g<4294967296:=by omega
    exact hn _ _ _ ⟨rfl,g,by simp[cg],uI,Lz,Dx g r uI KU (by omega)⟩
 ·rintro dh ey bP ⟨rfl,g,cg,uI,Lz,ahc⟩
  simp at cg
  simp[hX]
  refine dF.range (by kernel_rfl) (m+2) (by omega) (by simp) (by rfl) (by simp) (by decide) (by decide) (fun i cY dW b1=>∃(dK:List Nat) (c d:Nat),b1=bP.set b (.own 124 l (pre++(fG dK++post)))/\dK.length=m+3/\(∀x∈dK,x<4294967296)/\(∀j,i<=j->dK[j]?.getD 0=us[j]?.getD 0)/\cY 9= .int .u64 c/\cY 10= .int .u32 d/\c<4294967296/\d<=1/\val (dK.take i)+g*val (aD.take i)=val (us.take i)+4294967296^i*(c+d)) ?_ ?_ ?_
  ·exact⟨us,0,0,(N7 aQ).symm,pW,kF,fun _ _=>rfl,by simp,by simp,by decide,by decide,by simp[val]⟩
  ·rintro i cY dW b1 ae a5 ⟨dK,c,d,rfl,dG,jB,Ax,h0,gZ,ad,aB,gO⟩ K a0
   simp at a5 h0 gZ
   obtain⟨qj,sR⟩:∃x,aD[i]?.getD 0=x:=⟨_,rfl⟩
   have EM:=sR▸zO i
   have Ef:aD[i]?=some qj:=by rw[<-sR,bJ (by omega)];rfl
   obtain⟨vw,D_⟩:∃x,us[i]?.getD 0=x:=⟨_,rfl⟩
   have Yt:=D_▸zN i
   have QD:IntKind.u64.wrap (qj:Int)=(qj:Int):=f_ (by omega) (by omega)
   obtain⟨t0,D5⟩:∃x,g*qj=x:=⟨_,rfl⟩
   have m4:IntKind.u64.wrap ((g:Int)*qj)=(t0:Int):=by rw[ET uI EM,D5]
   have ahI:t0<=4294967295*4294967295:=by rw[<-D5];exact Nat.mul_le_mul (by omega) (by omega)
   obtain⟨t,bM⟩:∃x,t0+c=x:=⟨_,rfl⟩
   have mo:IntKind.u64.wrap ((t0:Int)+c)=(t:Int):=by rw[f_ (by omega) (by omega)];omega
   obtain⟨fr,ob⟩:∃x,t % 4294967296=x:=⟨_,rfl⟩
   obtain⟨mD,LS⟩:∃x,t/4294967296=x:=⟨_,rfl⟩
   have mq:((t:Int).fdiv 4294967296)=(mD:Int):=by rw[mT _ (by decide)];omega
   have Aa:IntKind.u32.wrap (t:Int)=(fr:Int):=by rw[oy];omega
   simp[a5,cg]
   refine dc (af:=fV) (n:=i) (by simpa using(nX dK).row) (by simp) Ef (by simp) (by simp) (by simp) (.inr rfl) ?_
   rintro iv vA ⟨rfl,-⟩
   have Db:(bP.set b (.own 124 l (pre++(fG dK++post))))[b]?=some (.own 124 l (pre++(fG dK++post))):=List.getElem?_set_self gJ
   simp[a5,cg,h0,gZ,QD,m4,mo,mq]
   refine td (b:=b) (l:=l) (pre:=pre) (us:=dK) (post:=post) (cap:=cap) (n:=i) Db aK (by simp[dG]) (by simp) (by omega) (by simp) (by simp) (by simp) fun nn=>?_
   rw[Ax i (Nat.le_refl _),D_]
   simp[Aa,gZ]
   refine aV.mk (Fz Yt (by omega) aB) ?_
   rintro w cb ⟨rfl,s,fo,rfl,ao,k4,uT⟩
   simp
   refine By (b:=b) (l:=l) (pre:=pre) (us:=dK) (post:=post) (cap:=cap) (n:=i) (z:=s) Db aK (by simp[dG]) (by simp) (by omega) (by simp) (by simp) (by simp) fun p_=>?_
   simp
   refine a0 _ _ _ (by simp[a5]) ⟨dK.set i s,mD,fo,by simp,by simp[dG],?_,?_,by simp,by simp,by omega,k4,?_⟩
   ·intro x J
    rcases List.mem_or_eq_of_mem_set J with J | rfl
    ·exact jB x J
    ·exact ao
   ·intro j aX
    rw[List.getElem?_set_ne (by omega)]
    exact Ax j (by omega)
   ·rw[rO _ _ _ (by omega),iV aD,iV us,sR,D_,Nat.pow_succ]
    generalize 4294967296^i=E at*
    have D2:vw+4294967296*fo=s+fr+d:=uT
    have D4:t=fr+4294967296*mD:=by omega
    have bk:g*(val (aD.take i)+E*qj)=g*val (aD.take i)+E*t0:=by rw[<-D5];grind
    rw[bk]
    have bg:E*vw+E*(4294967296*fo)=E*s+E*fr+E*d:=by rw[<-Nat.mul_add,D2,Nat.mul_add,Nat.mul_add]
    have fW:E*t0+E*c=E*fr+E*(4294967296*mD):=by rw[<-Nat.mul_add,bM,D4,Nat.mul_add]
    have l8:E*4294967296*(mD+fo)=E*(4294967296*mD)+E*(4294967296*fo):=by grind
    rw[Nat.mul_add]at gO
    omega
  ·rintro cY dW b1 a5 ⟨dK,c,d,rfl,dG,jB,Ax,h0,gZ,ad,aB,gO⟩
   simp at h0 gZ
   have uu:=fun ws:List Nat=>(List.getElem?_set_self (l:=bP) (a:= .own 124 l (pre++(fG ws++post))) gJ)
   have Dk:IntKind.u32.wrap (c:Int)=(c:Int):=lY (by omega) (by omega)
   simp
   refine td (b:=b) (l:=l) (pre:=pre) (us:=dK) (post:=post) (cap:=cap) (n:=m+2) (uu dK) aK (by simp[dG]) (by simp) (by omega) (by simp) (by simp) (by simp) fun nn=>?_
   rw[Ax (m+2) (Nat.le_refl _),mw]
   simp[h0,gZ,Dk]
   refine aV.mk (Fz MT ad aB) ?_
   rintro w cb ⟨rfl,s,d2,rfl,ao,lI,uT⟩
   simp
   refine By (b:=b) (l:=l) (pre:=pre) (us:=dK) (post:=post) (cap:=cap) (n:=m+2) (z:=s) (uu dK) aK (by simp[dG]) (by simp) (by omega) (by simp) (by simp) (by simp) fun p_=>?_
   simp
   obtain⟨ws,oe⟩:∃ws,dK.set (m+2) s=ws:=⟨_,rfl⟩
   have od:ws.length=m+3:=by rw[<-oe];simp[dG]
   have AG:∀x∈ws,x<4294967296:=by
    intro x J
    rw[<-oe]at J
    rcases List.mem_or_eq_of_mem_set J with J | rfl
    ·exact jB x J
    ·exact ao
   have Ma:ws[m+2]?.getD 0=s:=by rw[<-oe,List.getElem?_set_self (by omega)];rfl
   have full:∀(x:List Nat) (k:Nat),x.length=k->x.take k=x:=fun x k h=>by rw[<-h,List.take_length]
   obtain⟨lp,qM⟩:∃lp,4294967296^(m+2)=lp:=⟨_,rfl⟩
   have V0:val ws+g*val aD=val us+lp*4294967296*d2:=by
    have bk:=rO dK (m+2) s (by omega)
    rw[oe,full ws _ od,qM]at bk
    have bg:=iV us (m+2)
    rw[full us _ pW,mw,qM]at bg
    rw[full aD _ jh,qM]at gO
    rw[bk,bg]
    have:lp*ln+lp*(4294967296*d2)=lp*s+lp*(c+d):=by rw[<-Nat.mul_add,<-Nat.mul_add];congr 1;omega
    have:lp*4294967296*d2=lp*(4294967296*d2):=by grind
    omega
   rw[oe]
   have Au:val us % val aD=val us-q*val aD/\q*val aD<=val us/\val us<(q+1)*val aD:=by
    have o:=Nat.div_add_mod (val us) (val aD)
    have aa:=Nat.mod_lt (val us) um
    rw[av,Nat.mul_comm]at o
    refine⟨by omega,by omega,?_⟩
    rw[Nat.succ_mul]
    omega
   have VQ:val ws<lp*4294967296:=by
    have:=j7 AG
    rwa[od,Nat.pow_succ,qM]at this
   refine cc.join (by kernel_rfl) (fun fS hz cb=>fS 7= .int .u64 q/\∃vB:List Nat,cb=bP.set b (.own 124 l (pre++(fG vB++post)))/\vB.length=m+3/\(∀x∈vB,x<4294967296)/\val vB=val us % val aD) ?_ ?_
   ·rintro ef hn-
    simp
    refine bH.b_ (fun aY=>?_) (fun aY=>?_)
    ·have h4:d2=1:=by omega
     subst h4
     have aU:g=q+1:=by
      have:q<g:=by
       rcases Nat.lt_or_ge q g with h | h
       ·exact h
       ·have:g*val aD<=q*val aD:=Nat.mul_le_mul_right _ h
        omega
      omega
     have T6:IntKind.u64.wrap ((g:Int)-1)=(q:Int):=by rw[f_ (by omega) (by omega)];omega
     simp[cg,T6,hX]
     refine dF.range (by kernel_rfl) (m+2) (by omega) (by simp) (by rfl) (by simp) (by decide) (by decide) (fun i nz rV dQ=>∃(xs:List Nat) (cw:Nat),dQ=bP.set b (.own 124 l (pre++(fG xs++post)))/\xs.length=m+3/\(∀x∈xs,x<4294967296)/\(∀j,i<=j->xs[j]?.getD 0=ws[j]?.getD 0)/\nz 13= .int .u32 cw/\cw<=1/\val (xs.take i)+4294967296^i*cw=val (ws.take i)+val (aD.take i)) ?_ ?_ ?_
     ·exact⟨ws,0,rfl,od,AG,fun _ _=>rfl,by simp,by decide,by simp[val]⟩
     ·rintro i nz rV dQ ae a5 ⟨xs,cw,rfl,jj,Eu,ho,oM,Al,Ms⟩ K a0
      simp at a5 oM
      obtain⟨qj,sR⟩:∃x,aD[i]?.getD 0=x:=⟨_,rfl⟩
      have EM:=sR▸zO i
      have Ef:aD[i]?=some qj:=by rw[<-sR,bJ (by omega)];rfl
      obtain⟨fs,Et⟩:∃x,ws[i]?.getD 0=x:=⟨_,rfl⟩
      have Yv:fs<4294967296:=Et▸wj (by decide) AG i
      simp[a5]
      refine td (b:=b) (l:=l) (pre:=pre) (us:=xs) (post:=post) (cap:=cap) (n:=i) (uu xs) aK (by simp[jj]) (by simp) (by omega) (by simp) (by simp) (by simp) fun ru=>?_
      rw[ho i (Nat.le_refl _),Et]
      simp
      refine dc (af:=fV) (n:=i) (by simpa using(nX xs).row) (by simp) Ef (by simp) (by simp) (by simp) (.inr rfl) ?_
      rintro YY akd ⟨rfl,-⟩
      simp[oM]
      refine aV.mk (Iv Yv EM Al) ?_
      rintro w cS ⟨rfl,y,A1,rfl,aL,UP,D2⟩
      simp
      refine By (b:=b) (l:=l) (pre:=pre) (us:=xs) (post:=post) (cap:=cap) (n:=i) (z:=y) (uu xs) aK (by simp[jj]) (by simp) (by omega) (by simp) (by simp) (by simp) fun E1=>?_
      simp
      refine a0 _ _ _ (by simp[a5]) ⟨xs.set i y,A1,by simp,by simp[jj],?_,?_,by simp,UP,?_⟩
      ·intro x J
       rcases List.mem_or_eq_of_mem_set J with J | rfl
       ·exact Eu x J
       ·exact aL
      ·intro j aX
       rw[List.getElem?_set_ne (by omega)]
       exact ho j (by omega)
      ·rw[rO _ _ _ (by omega),iV aD,iV ws,sR,Et,Nat.pow_succ]
       generalize 4294967296^i=E at*
       have bk:E*y+E*(4294967296*A1)=E*fs+E*qj+E*cw:=by rw[<-Nat.mul_add,D2,Nat.mul_add,Nat.mul_add]
       have bg:E*4294967296*A1=E*(4294967296*A1):=by grind
       omega
     ·rintro nz rV dQ a5 ⟨xs,cw,rfl,jj,Eu,ho,oM,Al,Ms⟩
      simp at oM
      simp
      refine td (b:=b) (l:=l) (pre:=pre) (us:=xs) (post:=post) (cap:=cap) (n:=m+2) (uu xs) aK (by simp[jj]) (by simp) (by omega) (by simp) (by simp) (by simp) fun ru=>?_
      rw[ho (m+2) (Nat.le_refl _),Ma]
      obtain⟨y,aL⟩:∃y,(s+cw) % 4294967296=y:=⟨_,rfl⟩
      have rj:IntKind.u32.wrap ((s:Int)+cw)=(y:Int):=by rw[oy];omega
      simp[oM,rj]
      refine By (b:=b) (l:=l) (pre:=pre) (us:=xs) (post:=post) (cap:=cap) (n:=m+2) (z:=y) (uu xs) aK (by simp[jj]) (by simp) (by omega) (by simp) (by simp) (by simp) fun E1=>?_
      simp
      have o5:∀x∈xs.set (m+2) y,x<4294967296:=by
       intro x J
       rcases List.mem_or_eq_of_mem_set J with J | rfl
       ·exact Eu x J
       ·omega
      refine hn _ _ _ ⟨by simp,xs.set (m+2) y,by simp,by simp[jj],o5,?_⟩
      have bk:=rO xs (m+2) y (by omega)
      rw[full (xs.set (m+2) y) (m+2+1) (by simp[jj]),qM]at bk
      have Uv:=j7 o5
      rw[List.length_set,jj,Nat.pow_succ,qM]at Uv
      have bg:=iV ws (m+2)
      rw[full ws _ od,Ma,qM]at bg
      rw[full aD _ jh,qM]at Ms
      rw[Au.1]
      rw[aU,Nat.succ_mul]at V0
      rcases Nat.lt_or_ge (s+cw) 4294967296 with o | o
      ·have:y=s+cw:=by omega
       subst this
       rw[Nat.mul_add]at bk
       omega
      ·have:s+cw=y+4294967296:=by omega
       have fW:lp*s+lp*cw=lp*y+lp*4294967296:=by rw[<-Nat.mul_add,this,Nat.mul_add]
       omega
    ·have TO:d2=0:=by omega
     subst TO
     have aU:g=q:=by
      have:g<=q:=by
       rcases Nat.lt_or_ge q g with h | h
       ·have:(q+1)*val aD<=g*val aD:=Nat.mul_le_mul_right _ h
        omega
       ·exact h
      omega
     subst aU
     exact hn _ _ _ ⟨by simp[cg],ws,rfl,od,AG,by rw[Au.1];omega⟩
   ·rintro fS hz cb ⟨JW,vB,rfl,K3,Uw,xC⟩
    simp at JW
    have At:IntKind.u32.wrap (q:Int)=(q:Int):=lY (by omega) (by omega)
    simp[JW,At,bf]
    exact aE _ _ ⟨⟨q,rfl,av.symm⟩,vB,rfl,K3,Uw,xC⟩
end Go.cJ
end
section
set_option maxRecDepth 8000
namespace Go.cJ
open Go.Proofs
open Go.Proofs.Tryz (prog)
attribute [-simp] hq hX jG
theorem aaS{P:Program}{r:List bz}{F:Fr}{H:ab}{Q:Fr->ab->Prop}{d t n:Nat}{x i:Operand}{s:ByteArray}{y:Nat}{ax:ba (en d t x i::r) Q}(ao:aq F x= .string s)(bM:iw P t=true)(aj:∃k,aq F i= .int k (n:Int))(aG:n<s.size)(aL:(s.data.getD n 0).toNat=y)(K:a_ P r Q .mk (a4 F d (.int .u8 (y:Int))) H):a_ P (en d t x i::r) Q ax F H:=by
 obtain⟨k,aj⟩:=aj
 rw[jG,ao,aj,GJ,qw]
 refine dE.mk ⟨bM,by omega,by omega⟩ ?_
 rw[Int.toNat_natCast,aL]
 exact K
theorem aaR{P:Program}{r:List bz}{F:Fr}{H:ab}{Q:Fr->ab->Prop}{d t n m:Nat}{x i:Operand}{s:ByteArray}{p:Nat->Nat->Prop}{ax:ba (en d t x i::r) Q}(ao:aq F x= .string s)(bM:iw P t=true)(aj:∃k,aq F i= .int k (n:Int))(hm:s.size=m)(aG:n<m)(aY:∀j,j<m->p j (s.data.getD j 0).toNat)(K:∀y,p n y->a_ P r Q .mk (a4 F d (.int .u8 (y:Int))) H):a_ P (en d t x i::r) Q ax F H:=
 aaS ao bM aj (by omega) rfl (K _ (aY n aG))
theorem Yh{x:Nat}{H:ab}(J:x<4294967296):aP prog 132 [.int .u32 x] H (fun v H1=>H1=H/\∃n:Nat,v= .int .i64 n/\x<2^n/\n<=32/\(0<x->0<n)):=by
 refine aP.b9 fun Q aE=>?_
 apply WO (by simp)
 unfold HB
 simp only[mE]
 simp
 refine cc.join (by kernel_rfl) (fun az bD H1=>H1=H/\∃y n:Nat,az 0= .int .u32 y/\az 2= .int .i64 n/\y<65536/\x<(y+1)*2^n/\n<=16/\(0<x->0<n\/0<y)) ?_ ?_
 ·rintro ef hn-
  simp
  refine bH.b_ (fun ad=>?_) (fun ad=>?_)
  ·have:((x:Int).fdiv 65536)=((x/65536:Nat):Int):=by rw[mT _ (by decide)];omega
   simp[this]
   exact hn _ _ _ ⟨rfl,x/65536,16,by simp,by simp,by omega,by omega,by decide,by omega⟩
  ·exact hn _ _ _ ⟨rfl,x,0,by simp,by simp,by omega,by omega,by decide,by omega⟩
 ·rintro az bD H1 ⟨rfl,y,n,aH,aa,aL,xM,aG,h6⟩
  simp at aH aa
  refine cc.join (by kernel_rfl) (fun dh ey bP=>bP=H1/\∃mH dU:Nat,dh 0= .int .u32 mH/\dh 2= .int .i64 dU/\mH<256/\x<(mH+1)*2^dU/\dU<=24/\(0<x->0<dU\/0<mH)) ?_ ?_
  ·rintro ef hn-
   simp[aH]
   refine bH.b_ (fun ad=>?_) (fun ad=>?_)
   ·have bk:((y:Int).fdiv 256)=((y/256:Nat):Int):=by rw[mT _ (by decide)];omega
    have bg:IntKind.i64.wrap ((n:Int)+8)=((n+8:Nat):Int):=by rw[b6 (by omega) (by omega)];simp
    simp[aH,bk,aa,bg]
    refine hn _ _ _ ⟨rfl,y/256,n+8,by simp,by simp,by omega,?_,by omega,fun _=> .inl (by omega)⟩
    have:(y+1)*2^n<=((y/256+1)*256)*2^n:=Nat.mul_le_mul_right _ (by omega)
    rw[Nat.pow_add,Nat.mul_comm (2^n),<-Nat.mul_assoc,show(2:Nat)^8=256 from rfl]
    omega
   ·exact hn _ _ _ ⟨rfl,y,n,by simp[aH],by simp[aa],by omega,xM,by omega,h6⟩
  ·rintro dh ey bP ⟨rfl,mH,dU,qK,tS,p1,ahR,ahy,UW⟩
   simp at qK tS
   have hh:IntKind.u8.wrap (mH:Int)=(mH:Int):=BK (by omega) (by omega)
   simp[qK,tS,hh]
   refine aaR (n:=mH) (m:=256) (p:=fun j z=>j<2^z/\z<=8/\(0<j->0<z)) rfl (by simp) ⟨.u8,by simp⟩ (by kernel_rfl) p1 (of_decide_eq_true (by kernel_rfl)) ?_
   rintro z ⟨iu,jk,s0⟩
   have fW:IntKind.i64.wrap (z:Int)=(z:Int):=b6 (by omega) (by omega)
   have l8:IntKind.i64.wrap ((dU:Int)+z)=((dU+z:Nat):Int):=by rw[b6 (by omega) (by omega)];simp
   simp[fW,l8,bf]
   refine aE _ _ ⟨rfl,dU+z,by simp,?_,by omega,fun h=>by have:=UW h;omega⟩
   have:(mH+1)*2^dU<=2^z*2^dU:=Nat.mul_le_mul_right _ iu
   rw[Nat.pow_add,Nat.mul_comm (2^dU)]
   omega
theorem Yw{x:Nat}{H:ab}(J:x<4294967296)(aH:0<x):aP prog 123 [.int .u32 x] H (fun v H1=>H1=H/\∃n:Nat,v= .int .i64 n/\n<32/\x*2^n<4294967296):=by
 refine aP.b9 fun Q aE=>?_
 apply WN (by simp)
 simp[HA]
 refine aV.mk (Yh J) ?_
 rintro v H1 ⟨rfl,n,rfl,o,aa,aA⟩
 have e:IntKind.i64.wrap (32-(n:Int))=((32-n:Nat):Int):=by rw[b6 (by omega) (by omega)];omega
 obtain⟨s,ao⟩:∃s,32-n=s:=⟨_,rfl⟩
 rw[ao]at e
 simp[e,bf]
 refine aE _ _ ⟨rfl,s,rfl,by have:=aA aH;omega,?_⟩
 have:x*2^s<2^n*2^s:=Nat.mul_lt_mul_of_pos_right o (Nat.pow_pos (by decide))
 rw[<-Nat.pow_add,show n+s=32 by omega]at this
 exact this
end Go.cJ
end
