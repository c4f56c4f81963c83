/- Part of the proof of ShopDoes. -/
import Derived.Test.YtoiodfcefbapkaaGreatShopDoesE
set_option linter.unusedVariables false
set_option linter.unusedSimpArgs false
section
set_option maxRecDepth 8000
namespace Go.dq
open Go.Proofs
open Go.Proofs.Tryz (prog)
theorem mm{v:Value}{l:List Nat}{H:ab}(eJ:db H 124 v l)(hlen:l.length<4611686018427387904):aO prog 110 [v] H (fun au H1=>H1=H/\∃dn,db H 124 au dn/\Trim dn/\val dn=val l/\dn.length<=l.length):=by
 refine aO.b9 fun Q aC=>?_
 apply YQ (by simp)
 simp[Ib]
 refine k_.mk (ai:=fun n F H1=>H1=H/\∃dn k,db H 124 (F 0) dn/\l=dn++List.replicate k 0/\n=dn.length) l.length ⟨rfl,l,0,by simpa[]using eJ,by simp,rfl⟩ ?_
 rintro n F H1 ⟨rfl,dn,k,l3,ar,rfl⟩ K aV
 have E0:dn.length<=l.length:=by rw[ar];simp
 have hk:val dn=val l:=by rw[ar,nT,Hh];simp
 obtain⟨a,cap,an⟩:=l3.1.len
 simp[an]
 refine bs.bZ (fun aJ=>?_) (fun aJ=>?_)
 ·obtain⟨b,i,dJ,X,all,he,aW,ae,bC,lu⟩:=l3.at aJ
  rw[an]at he
  cases he
  have bk:((dn.length:Int)-1).toNat=dn.length-1:=by omega
  have bp:=PF dn aJ
  simp(disch:=omega)[aJ,an,b8]
  refine dI.mk ⟨by omega,by omega⟩ ?_
  simp[aW,ae,bk,lu _ (show dn.length-1<dn.length by omega)]
  refine bs.bZ (fun aM=>?_) (fun aM=>?_)
  ·simp(disch:=omega)[an,b8]
   refine acG (n:=dn.length) (l:=0) (h:=dn.length-1) (e:=124) (R:=1) (by simpa[an]using l3.1) (by simp) (by simp) rfl (by simp[eY];omega) (by omega) (by omega) (fun au dR=>?_)
   simp
   refine aV (dn.length-1) _ _ (by omega) ⟨rfl,dn.take (dn.length-1),k+1,⟨?_,fun x J=>l3.2 x (List.mem_of_mem_take J)⟩,?_,by simp⟩
   ·simpa[Nat.min_eq_left,List.map_take]using dR
   ·rw[ar]
    conv=>lhs;rw[<-bp]
    have:dn[dn.length-1]?.getD 0=0:=by omega
    rw[this,List.replicate_succ,List.append_assoc]
    rfl
  ·simp[an]
   refine aC _ _ ⟨rfl,dn,an▸l3,fun h=>aM ?_,hk,E0⟩
   rw[List.getLast?_eq_getElem?]at h
   simp[h]
 ·simp[aJ,an]
  have:dn=[]:=List.eq_nil_of_length_eq_zero (by omega)
  exact aC _ _ ⟨rfl,dn,an▸l3,by simp[this,Trim],hk,E0⟩
theorem JN{x y c:Nat}{H:ab}(J:x<4294967296)(aI:y<4294967296)(ae:c<=1):aO prog 122 [.int .u32 x,.int .u32 y,.int .u32 c] H (fun au H1=>H1=H/\∃s d:Nat,au= .tuple #[.int .u32 s,.int .u32 d]/\s<4294967296/\d<=1/\s+4294967296*d=x+y+c):=by
 refine aO.b9 fun Q aC=>?_
 apply X9 (by simp)
 simp(disch:=first | omega | (simp<;>fail) | fail) [HU,gv,oY,bd,ni]
 refine aC _ _ ⟨rfl,(x+y+c) % 4294967296,(x+y+c)/4294967296,?_,by omega,by omega,by omega⟩
 simp
 omega
theorem Ds{v w:Value}{a b:List Nat}{H:ab}(bw:db H 124 v a)(bD:db H 124 w b)(pg:Trim a)(lq:Trim b)(kD:a.length<4611686018427387904)(jV:b.length<4611686018427387904):
  aO prog 101 [v,w] H (fun au H1=>H1=H/\au= .int .i64 (if val a<val b then-1 else if val b<val a then 1 else 0)):=by
 refine aO.b9 fun Q aC=>?_
 apply YG (by simp)
 obtain⟨ef,ac,rfl⟩:=bw.len
 obtain⟨JT,JW,rfl⟩:=bD.len
 simp(disch:=omega)[H9,b8]
 refine bs.bZ (fun aJ=>?_) (fun aJ=>?_)
 ·have hlen:a.length=b.length:=by omega
  simp(disch:=omega)[b8]
  refine k_.mk (ai:=fun n F H1=>H1=H/\F 0= .slice ef a.length ac/\F 1= .slice JT b.length JW/\F 5= .int .i64 ((n:Int)-1)/\n<=a.length/\a.drop n=b.drop n) a.length ⟨rfl,by simp,by simp,by simp,Nat.le_refl _,by rw[List.drop_eq_nil_of_le (by omega),List.drop_eq_nil_of_le (by omega)]⟩ ?_
  rintro n F H1 ⟨rfl,aH,o,bJ,hM,aD⟩ K aV
  simp[aH,o,bJ]
  refine bs.bZ (fun aU=>?_) (fun aU=>?_)
  ·obtain⟨hs,i1,wY,zQ,zT,j_,oj,l7,L8,pn⟩:=bw.at (by omega)
   obtain⟨lf,i2,Dq,C8,Dc,iZ,rB,nn,oB,rK⟩:=bD.at (by omega)
   cases j_
   cases iZ
   have bk:((n:Int)-1).toNat=n-1:=by omega
   simp[aH,o,bJ]
   refine dI.mk ⟨by omega,by omega⟩ ?_
   simp[aH,o,bJ,oj,l7,bk,pn _ (show n-1<a.length by omega)]
   refine dI.mk ⟨by omega,by omega⟩ ?_
   simp[aH,o,bJ,rB,nn,bk,rK _ (show n-1<b.length by omega)]
   have DB:a.drop (n-1)=a[n-1]?.getD 0::a.drop n:=by
    rw[List.drop_eq_getElem_cons (by omega),bz (by omega),Option.getD_some,Nat.sub_add_cancel (by omega)]
   have DC:b.drop (n-1)=b[n-1]?.getD 0::b.drop n:=by
    rw[List.drop_eq_getElem_cons (by omega),bz (by omega),Option.getD_some,Nat.sub_add_cancel (by omega)]
   refine bs.bZ (fun av=>?_) (fun av=>?_)
   ·simp(disch:=omega)[bJ,b8]
    refine aV (n-1) _ _ (by omega) ⟨rfl,by simp[aH],by simp[o],by simp;omega,by omega,?_⟩
    rw[DB,DC,aD]
    congr 1
    omega
   ·have key:∀(x y:List Nat),(∀z∈x,z<4294967296)->(∀z∈y,z<4294967296)->x.length=y.length->x.drop (n-1)=x[n-1]?.getD 0::x.drop n->y.drop (n-1)=y[n-1]?.getD 0::y.drop n->x.drop n=y.drop n->n-1<x.length->x[n-1]?.getD 0<y[n-1]?.getD 0->val x<val y:=by
     intro x y J aI yC ex SW fu aZ jB
     have v1:val x=val (x.take (n-1))+4294967296^(n-1)*(x[n-1]?.getD 0+4294967296*val (x.drop n)):=by
      conv=>lhs;rw[<-List.take_append_drop (n-1) x,nT,ex]
      simp only[val,List.length_take,Nat.min_eq_left (Nat.le_of_lt aZ)]
     have v2:val y=val (y.take (n-1))+4294967296^(n-1)*(y[n-1]?.getD 0+4294967296*val (y.drop n)):=by
      conv=>lhs;rw[<-List.take_append_drop (n-1) y,nT,SW]
      simp only[val,List.length_take,Nat.min_eq_left (show n-1<=y.length by omega)]
     have mo:val (x.take (n-1))<4294967296^(n-1):=by
      have:=ks (l:=x.take (n-1)) fun z aM=>J z (List.mem_of_mem_take aM)
      rwa[List.length_take,Nat.min_eq_left (Nat.le_of_lt aZ)]at this
     have v4:4294967296^(n-1)*(x[n-1]?.getD 0+4294967296*val (x.drop n)+1)<=4294967296^(n-1)*(y[n-1]?.getD 0+4294967296*val (y.drop n)):=Nat.mul_le_mul_left _ (by rw[fu];omega)
     rw[Nat.mul_add,Nat.mul_one]at v4
     omega
    simp(disch:=omega)[aH,o,bJ,b8]
    refine dI.mk ⟨by omega,by omega⟩ ?_
    simp[aH,o,bJ,oj,l7,bk,pn _ (show n-1<a.length by omega)]
    refine dI.mk ⟨by omega,by omega⟩ ?_
    simp[aH,o,bJ,rB,nn,bk,rK _ (show n-1<b.length by omega)]
    refine bs.bZ (fun aZ=>?_) (fun aZ=>?_)
    ·simp[bd]
     refine aC _ _ ⟨rfl,?_⟩
     rw[if_pos (key a b bw.2 bD.2 hlen DB DC aD (by omega) (by omega))]
    ·simp[bd]
     have:=key b a bD.2 bw.2 hlen.symm DC DB aD.symm (by omega) (by omega)
     refine aC _ _ ⟨rfl,?_⟩
     rw[if_neg (by omega),if_pos this]
  ·have jX:n=0:=by omega
   subst jX
   simp[bd]
   have:a=b:=by simpa using aD
   exact aC _ _ ⟨rfl,by rw[this];simp⟩
 ·simp
  refine bs.bZ (fun hM=>?_) (fun hM=>?_)
  ·simp[bd]
   have:=lq.vW bw.2 (by omega)
   exact aC _ _ ⟨rfl,by simp[this]⟩
  ·simp[bd]
   have:=pg.vW bD.2 (by omega)
   exact aC _ _ ⟨rfl,by rw[if_neg (by omega),if_pos this]⟩
theorem ae7(b:BitVec 32):IntKind.u32.wrap (b.toNat:Int)=b.toNat:=mr (Int.natCast_nonneg _) (by have:=b.isLt;omega)
theorem ach{z:Nat}(h:z<4294967296):z/2147483648=(z.testBit 31).toNat:=by
 rw[Nat.testBit_eq_decide_div_mod_eq]
 have:z/2^31=z/2147483648:=rfl
 rw[this]
 by_cases aM:z<2147483648
 ·rw[Nat.div_eq_of_lt aM];rfl
 ·have:z/2147483648=1:=by omega
  rw[this];rfl
theorem G4{z:Nat}(h:z<4294967296):z.testBit 31=decide (2147483648<=z):=by
 rw[Nat.testBit_eq_decide_div_mod_eq]
 have:z/2^31=z/2147483648:=rfl
 rw[this]
 by_cases aM:z<2147483648
 ·rw[Nat.div_eq_of_lt aM];simp;omega
 ·have:z/2147483648=1:=by omega
  rw[this];simp;omega
theorem Rj(x y c:Nat)(J:x<4294967296)(aI:y<4294967296)(ae:c<=1):
  (((4294967295^^^x)&&&y) ||| ((4294967295^^^(x^^^y))&&&((x+8589934592-y-c) % 4294967296)))/2147483648=if x<y+c then 1 else 0:=by
 have aD:(x+8589934592-y-c) % 4294967296<4294967296:=Nat.mod_lt _ (by decide)
 rw[ach]
 ·simp only[Nat.testBit_or,Nat.testBit_and,Nat.testBit_xor,G4 J,G4 aI,G4 aD,show Nat.testBit 4294967295 31=true from by decide]
  by_cases o:2147483648<=x<;>by_cases aa:2147483648<=y<;>by_cases aA:x<y+c<;>simp[o,aa,aA]<;>omega
 ·exact Nat.or_lt_two_pow (n:=32) (Nat.and_lt_two_pow _ aI) (Nat.and_lt_two_pow _ aD)
theorem GP{x y c:Nat}{H:ab}(J:x<4294967296)(aI:y<4294967296)(ae:c<=1):aO prog 127 [.int .u32 x,.int .u32 y,.int .u32 c] H (fun au H1=>H1=H/\∃s d:Nat,au= .tuple #[.int .u32 s,.int .u32 d]/\s<4294967296/\d<=1/\x+4294967296*d=s+y+c):=by
 refine aO.b9 fun Q aC=>?_
 apply Yd (by simp)
 obtain⟨d,aD⟩:∃d:Nat,d=(x+8589934592-y-c) % 4294967296:=⟨_,rfl⟩
 have bk:IntKind.u32.wrap (IntKind.u32.wrap ((x:Int)-y)-c)=(d:Int):=by
  rw[oY,oY]
  omega
 have bp:IntKind.u32.max=4294967295:=rfl
 have jT:d<4294967296:=by omega
 simp(disch:=first | omega | (simp<;>fail) | fail) [HV,bd,ni,bk,bp,ae7]
 refine aC _ _ ⟨rfl,d,if x<y+c then 1 else 0,?_,jT,by split<;>omega,by split<;>omega⟩
 have ag:=Rj x y c J aI ae
 rw[<-aD]at ag
 have aJ:((4294967295#32^^^BitVec.ofNat 32 x)&&&BitVec.ofNat 32 y ||| (4294967295#32^^^(BitVec.ofNat 32 x^^^BitVec.ofNat 32 y))&&&BitVec.ofNat 32 d).toNat=((4294967295^^^x)&&&y ||| (4294967295^^^(x^^^y))&&&d):=by
  rw[BitVec.toNat_or,BitVec.toNat_and,BitVec.toNat_and,BitVec.toNat_xor,BitVec.toNat_xor,BitVec.toNat_xor,BitVec.toNat_ofNat,BitVec.toNat_ofNat,BitVec.toNat_ofNat,BitVec.toNat_ofNat,Nat.mod_eq_of_lt J,Nat.mod_eq_of_lt aI,Nat.mod_eq_of_lt jT]
 show Value.tuple #[.int .u32 d,.int .u32 ((((4294967295#32^^^BitVec.ofNat 32 x)&&&BitVec.ofNat 32 y ||| (4294967295#32^^^(BitVec.ofNat 32 x^^^BitVec.ofNat 32 y))&&&BitVec.ofNat 32 d).toNat:Int)/2147483648)]=_
 rw[aJ]
 have:(((4294967295^^^x)&&&y ||| (4294967295^^^(x^^^y))&&&d:Nat):Int)/2147483648=((((4294967295^^^x)&&&y ||| (4294967295^^^(x^^^y))&&&d)/2147483648:Nat):Int):=by simp
 rw[this,ag]
theorem qL(n:Nat):made (.int .u32 0) n=(List.replicate n 0).map fun(x:Nat)=>Value.int .u32 (x:Int):=by
 unfold made
 apply List.ext_getElem (by simp)
 intro i o aa
 simp[Value.cells,Nat.mod_one]
@[simp] theorem ahx(k:IntKind)(n:Int):(Value.int k n).cells= #[.int k n]:=rfl
@[simp] theorem ajN(k:IntKind)(n:Int):(Value.int k n).oneCell'=true:=rfl
@[simp] theorem alR(cs:List Value)(i:Nat)(v:Value):mq cs i [v]=cs.set i v:=rfl
@[simp] theorem ZH(H:ab)(X:bO):(H++[X])[H.length]?=some X:=by simp
@[simp] theorem ahi(e:TypeId)(l:Bool)(cs:List Value):(some (bO.own e l cs)).bind bO.cells?=some cs:=rfl
@[simp] theorem ahy(e:TypeId)(l:Bool)(cs:List Value):(bO.own e l cs).cells?=some cs:=rfl
@[simp] theorem ahz(e:TypeId)(cs:List Value):(bO.ro e cs).cells?=some cs:=rfl
theorem nI{H:ab}{b:Nat}{X:bO}(h:H[b]?=some X)(N:ab):(H++N)[b]?=some X:=by
 rw[List.getElem?_append_left (cJ.1 h).1];exact h
theorem db.fresh(H:ab)(e:Nat)(l:List Nat)(n c:Nat)(aJ:n<=c)(ar:l.length=c)(aZ:∀x∈l,x<4294967296)(b:Bool):db (H++[.own e b (l.map fun(x:Nat)=>Value.int .u32 (x:Int))]) e (.slice (some ⟨H.length,0,none⟩) n c) (l.take n):=by
 refine⟨⟨_,c,by simp[ar,Nat.min_eq_left aJ],by simp[ar,Nat.min_eq_left aJ];omega,by simp,fun ae=>⟨H.length,0,_,_,rfl,ZH H _,rfl,rfl,by simp[ar];omega,by simp[ar,Nat.min_eq_left aJ,List.map_take]⟩⟩,fun x J=>aZ x (List.mem_of_mem_take J)⟩
theorem sy(l:List Nat)(i x:Nat)(af:i<l.length):val ((l.set i x).take (i+1))=val (l.take i)+4294967296^i*x:=by
 rw[List.take_set,List.take_succ_eq_append_getElem af,List.set_append_right _ _ (by simp;omega)]
 simp[Nat.min_eq_left (Nat.le_of_lt af),nT,val]
theorem jm(l:List Nat)(i:Nat):val (l.take (i+1))=val (l.take i)+4294967296^i*(l[i]?.getD 0):=by
 by_cases af:i<l.length
 ·rw[List.take_succ_eq_append_getElem af,nT,bz af]
  simp[val,Nat.min_eq_left (Nat.le_of_lt af)]
 ·rw[List.take_of_length_le (by omega),List.take_of_length_le (by omega),List.getElem?_eq_none (by omega)]
  simp
theorem w7{l:List Nat}{m:Nat}(hm:0<m)(h:∀x∈l,x<m)(k:Nat):l[k]?.getD 0<m:=by
 by_cases ak:k<l.length
 ·rw[bz ak];exact h _ (List.getElem_mem ak)
 ·rw[List.getElem?_eq_none (by omega)];exact hm
theorem OO{v w:Value}{a b:List Nat}{H:ab}(bw:db H 124 v a)(bD:db H 124 w b)(kD:a.length<1048576)(jV:b.length<1048576):
  aO prog 116 [v,w] H (fun au H1=>Ext H H1/\∃l,db H1 124 au l/\Trim l/\val l=val a+val b):=by
 refine aO.b9 fun Q aC=>?_
 apply YM (by simp)
 obtain⟨ef,ac,rfl⟩:=bw.len
 obtain⟨JT,JW,rfl⟩:=bD.len
 simp only[Ia]
 rw[cQ]
 simp[-cQ]
 rw[cQ]
 refine hd.cut (fun az H1=>H=H1/\∃x y iQ m9 dg dM,az 0= .slice x dg.length iQ/\az 1= .slice y dM.length m9/\db H 124 (.slice x dg.length iQ) dg/\db H 124 (.slice y dM.length m9) dM/\dM.length<=dg.length/\dg.length<1048576/\val dg+val dM=val a+val b) ?_ ?_
 ·intro K aV
  simp(disch:=omega)[b8]
  refine bs.bZ (fun ar=>?_) (fun ar=>?_)
  ·simp
   exact aV _ _ ⟨rfl,_,_,_,_,b,a,by simp,by simp,bD,bw,by omega,jV,by omega⟩
  ·simp
   exact aV _ _ ⟨rfl,_,_,_,_,a,b,by simp,by simp,bw,bD,by omega,kD,by omega⟩
 ·rintro F H1 ⟨rfl,x,y,iQ,m9,dg,dM,aH,o,aW,lr,hle,aZ,hk⟩
  rw[cQ]
  simp(disch:=omega)[aH,o,b8,-cQ]
  refine zn (e:=124) (R:=1) (bF:=4) (eK:= .i64) (cX:= .i64) (l:=dg.length+1) (c:=dg.length+1) (z:= .int .u32 0) (by simp) (by simp) (by simp) (by simp) (by rfl) (by rfl) (by simp) (by simp) (by omega) (by omega) (Nat.le_refl _) (by omega) (by omega) ?_
  simp[-cQ,qL]
  rw[cQ]
  simp[-cQ]
  rw[cQ]
  refine hd.cut (fun az H1=>az 0= .slice x dg.length iQ/\az 5= .slice (some ⟨H.length,0,none⟩) (dg.length+1) (dg.length+1)/\∃(out:List Nat) (c:Nat),H1=H++[.own 124 false (out.map fun(x:Nat)=>Value.int .u32 (x:Int))]/\az 6= .int .u32 c/\c<=1/\out.length=dg.length+1/\(∀x∈out,x<4294967296)/\val (out.take dg.length)+4294967296^dg.length*c=val dg+val dM) ?_ ?_
  ·intro K aV
   simp(disch:=omega)[aH,o,b8]
   refine k_.mk (ai:=fun n az H1=>∃i:Nat,n=dg.length-i/\i<=dg.length/\az 0= .slice x dg.length iQ/\az 1= .slice y dM.length m9/\az 21= .int .i64 dg.length/\az 22= .int .i64 i/\az 5= .slice (some ⟨H.length,0,none⟩) (dg.length+1) (dg.length+1)/\∃(out:List Nat) (c:Nat),H1=H++[.own 124 false (out.map fun(x:Nat)=>Value.int .u32 (x:Int))]/\az 6= .int .u32 c/\c<=1/\out.length=dg.length+1/\(∀x∈out,x<4294967296)/\val (out.take i)+4294967296^i*c=val (dg.take i)+val (dM.take i)) dg.length ?_ ?_
   ·refine⟨0,by omega,by omega,by simp[aH],by simp[o],by simp,by simp,by simp,List.replicate (dg.length+1) 0,0,by simp,by simp,by omega,by simp,by simp,by simp[val]⟩
   ·rintro n az H1 ⟨i,rfl,af,cz,cr,rn,iv,e1,out,c,rfl,gH,ae,dQ,jy,an⟩ er jN
    simp[rn,iv]
    refine bs.bZ (fun jW=>?_) (fun jW=>?_)
    ·simp[cz,cr,e1,gH,iv,-cQ]
     obtain⟨hs,i1,wY,zQ,zT,j_,oj,l7,L8,pn⟩:=aW.at (by omega)
     cases j_
     have xy:=nI oj [.own 124 false (out.map fun(x:Nat)=>Value.int .u32 (x:Int))]
     rw[cQ,G8,cQ]
     simp[cz,cr,e1,gH,iv,-cQ]
     rw[cQ]
     simp[cz,cr,e1,gH,iv,-cQ]
     rw[cQ]
     refine hd.cut (fun bR aS=>H++[.own 124 false (out.map fun(x:Nat)=>Value.int .u32 (x:Int))]=aS/\bR 0=az 0/\bR 1=az 1/\bR 5=az 5/\bR 6=az 6/\bR 7= .int .i64 i/\bR 21=az 21/\bR 22=az 22/\bR 8= .int .u32 (dM[i]?.getD 0:Nat)) ?_ ?_
     ·intro cZ c3
      simp[cr]
      refine bs.bZ (fun xT=>?_) (fun xT=>?_)
      ·obtain⟨lf,i2,Dq,C8,Dc,iZ,rB,nn,oB,rK⟩:=lr.at (by omega)
       cases iZ
       have tg:=nI rB [.own 124 false (out.map fun(x:Nat)=>Value.int .u32 (x:Int))]
       simp[cr]
       refine dI.mk (by omega) ?_
       simp[cr,tg,nn,rK _ xT]
       exact c3 _ _ ⟨rfl,by simp,by simp[cr],by simp,by simp,by simp,by simp,by simp,by simp⟩
      ·simp[cr]
       exact c3 _ _ ⟨rfl,by simp,by simp[cr],by simp,by simp,by simp,by simp,by simp,by rw[List.getElem?_eq_none (by omega)];simp⟩
     ·rintro bR aS ⟨rfl,f0,f1,f5,f6,f7,f21,f22,f8⟩
      simp[f0,f1,f5,f6,f7,f8,cz,cr,e1,gH]
      refine dI.mk (by omega) ?_
      simp[f0,f1,f5,f6,f7,f8,cz,cr,e1,gH,xy,l7,pn _ jW]
      refine aT.mk (JN (aW.lt i) (lr.lt i) ae) ?_
      rintro v bN ⟨rfl,s,d,rfl,ao,aD,Fi⟩
      simp[f0,f1,f5,f6,f7,f8,f22,cz,cr,e1,gH,iv]
      refine dI.mk (by omega) ?_
      simp(disch:=omega)[f0,f1,f5,f6,f7,f8,f22,cz,cr,e1,gH,iv,b8]
      refine dI.mk (by omega) ?_
      simp(disch:=omega)[f0,f1,f5,f6,f7,f8,f22,cz,cr,e1,gH,iv,b8]
      refine jN (dg.length-(i+1)) _ _ (by omega) ⟨i+1,by omega,by omega,by simp[f0,cz],by simp[f1,cr],by simp[f21,rn],by simp,by simp[f5,e1],out.set i s,d,by simp[List.map_set],by simp,aD,by simp[dQ],?_,?_⟩
      ·intro z aM
       rcases List.mem_or_eq_of_mem_set aM with aM | rfl
       ·exact jy z aM
       ·exact ao
      ·rw[sy _ _ _ (by omega),jm dg,jm dM,Nat.pow_succ]
       have:4294967296^i*(s+4294967296*d)=4294967296^i*(dg[i]?.getD 0+dM[i]?.getD 0+c):=by rw[Fi]
       grind
    ·simp
     have:i=dg.length:=by omega
     subst this
     refine aV _ _ ⟨by simp[cz],by simp[e1],out,c,rfl,by simp[gH],ae,dQ,jy,?_⟩
     rw[an,List.take_length,List.take_of_length_le hle]
  ·rintro az H1 ⟨cz,e1,out,c,rfl,gH,ae,dQ,jy,an⟩
   rw[cQ]
   simp[cz,e1,gH,-cQ]
   refine dI.mk (by omega) ?_
   simp[cz,e1,gH,-cQ]
   refine dI.mk (by omega) ?_
   rw[cQ]
   have tB:(List.map (fun(x:Nat)=>Value.int .u32 (x:Int)) out).set dg.length (.int .u32 (c:Int))=(out.set dg.length c).map fun(x:Nat)=>Value.int .u32 (x:Int):=by simp[List.map_set]
   simp[cz,e1,gH,-cQ,tB,-List.map_set]
   have rO:∀z∈out.set dg.length c,z<4294967296:=fun z aM=>by
    rcases List.mem_or_eq_of_mem_set aM with aM | rfl
    ·exact jy z aM
    ·omega
   have eJ:=db.fresh H 124 (out.set dg.length c) (dg.length+1) (dg.length+1) (Nat.le_refl _) (by simp[dQ]) rO false
   refine aT.mk (mm eJ (by simp[dQ];omega)) ?_
   rintro v H1 ⟨rfl,dn,dK,bf,dR,-⟩
   simp[bd,-List.map_set]
   refine aC _ _ ⟨(Ext.refl H).snoc _ _ _,dn,dK,bf,?_⟩
   rw[dR,sy _ _ _ (by omega),an,hk]
theorem Ok{v w:Value}{a b:List Nat}{H:ab}(bw:db H 124 v a)(bD:db H 124 w b)(kD:a.length<1048576)(hle:b.length<=a.length)(hk:val b<=val a):
  aO prog 118 [v,w] H (fun au H1=>Ext H H1/\∃l,db H1 124 au l/\Trim l/\val l=val a-val b):=by
 refine aO.b9 fun Q aC=>?_
 apply YK (by simp)
 obtain⟨x,iQ,rfl⟩:=bw.len
 obtain⟨y,m9,rfl⟩:=bD.len
 by_cases qc:a.length=0
 ·have xB:a=[]:=List.eq_nil_of_length_eq_zero qc
  have nm:b=[]:=List.eq_nil_of_length_eq_zero (by omega)
  subst xB nm
  simp only[C_]
  rw[cQ]
  simp[-cQ]
  rw[cQ]
  simp[-cQ]
  refine CC (e:=124) (R:=1) (bF:=4) (eK:= .i64) (cX:= .i64) (by simp) (by simp) (by simp) (by simp) (by simp) ?_
  simp
  refine k_.mk (ai:=fun n az H1=>H=H1/\az 13= .int .i64 0/\az 14= .int .i64 0/\az 5= .slice (some ⟨0,0,none⟩) 0 0) 0 ⟨rfl,by simp,by simp,by simp⟩ ?_
  rintro n az H1 ⟨rfl,DK,DL,e1⟩ K aV
  simp[DK,DL,e1]
  refine aT.mk (mm (l:=[]) ⟨ey.void H _ _ _,by simp⟩ (by simp)) ?_
  rintro v H1 ⟨rfl,dn,dK,bf,dR,-⟩
  simp[bd]
  exact aC _ _ ⟨Ext.refl _,dn,dK,bf,by simpa[val]using dR⟩
 simp only[C_]
 rw[cQ]
 simp[-cQ]
 rw[cQ]
 simp(disch:=omega)[b8,-cQ]
 refine zn (e:=124) (R:=1) (bF:=4) (eK:= .i64) (cX:= .i64) (l:=a.length) (c:=a.length) (z:= .int .u32 0) (by simp) (by simp) (by simp) (by simp) (by rfl) (by rfl) (by simp) (by simp) (by omega) (by omega) (Nat.le_refl _) (by omega) (by omega) ?_
 simp[-cQ,qL]
 rw[cQ]
 simp[-cQ]
 rw[cQ]
 refine hd.cut (fun az H1=>az 5= .slice (some ⟨H.length,0,none⟩) a.length a.length/\∃(out:List Nat) (c:Nat),H1=H++[.own 124 false (out.map fun(x:Nat)=>Value.int .u32 (x:Int))]/\out.length=a.length/\(∀x∈out,x<4294967296)/\val a+4294967296^a.length*c=val out+val b) ?_ ?_
 ·intro K aV
  simp(disch:=omega)[b8]
  refine k_.mk (ai:=fun n az H1=>∃i:Nat,n=a.length-i/\i<=a.length/\az 0= .slice x a.length iQ/\az 1= .slice y b.length m9/\az 13= .int .i64 a.length/\az 14= .int .i64 i/\az 5= .slice (some ⟨H.length,0,none⟩) a.length a.length/\∃(out:List Nat) (c:Nat),H1=H++[.own 124 false (out.map fun(x:Nat)=>Value.int .u32 (x:Int))]/\az 6= .int .u32 c/\c<=1/\out.length=a.length/\(∀x∈out,x<4294967296)/\val (a.take i)+4294967296^i*c=val (out.take i)+val (b.take i)) a.length ?_ ?_
  ·refine⟨0,by omega,by omega,by simp,by simp,by simp,by simp,by simp,List.replicate a.length 0,0,by simp,by simp,by omega,by simp,by simp,by simp[val]⟩
  ·rintro n az H1 ⟨i,rfl,af,cz,cr,rn,iv,e1,out,c,rfl,gH,ae,dQ,jy,an⟩ er jN
   simp[rn,iv]
   refine bs.bZ (fun jW=>?_) (fun jW=>?_)
   ·simp[cz,cr,e1,gH,iv,-cQ]
    obtain⟨hs,i1,wY,zQ,zT,j_,oj,l7,L8,pn⟩:=bw.at (by omega)
    cases j_
    have xy:=nI oj [.own 124 false (out.map fun(x:Nat)=>Value.int .u32 (x:Int))]
    rw[cQ,G8,cQ]
    simp[cz,cr,e1,gH,iv,-cQ]
    rw[cQ]
    simp[cz,cr,e1,gH,iv,-cQ]
    rw[cQ]
    refine hd.cut (fun bR aS=>H++[.own 124 false (out.map fun(x:Nat)=>Value.int .u32 (x:Int))]=aS/\bR 0=az 0/\bR 1=az 1/\bR 5=az 5/\bR 6=az 6/\bR 7= .int .i64 i/\bR 13=az 13/\bR 14=az 14/\bR 8= .int .u32 (b[i]?.getD 0:Nat)) ?_ ?_
    ·intro cZ c3
     simp[cr]
     refine bs.bZ (fun xT=>?_) (fun xT=>?_)
     ·obtain⟨lf,i2,Dq,C8,Dc,iZ,rB,nn,oB,rK⟩:=bD.at (by omega)
      cases iZ
      have tg:=nI rB [.own 124 false (out.map fun(x:Nat)=>Value.int .u32 (x:Int))]
      simp[cr]
      refine dI.mk (by omega) ?_
      simp[cr,tg,nn,rK _ xT]
      exact c3 _ _ ⟨rfl,by simp,by simp[cr],by simp,by simp,by simp,by simp,by simp,by simp⟩
     ·simp[cr]
      exact c3 _ _ ⟨rfl,by simp,by simp[cr],by simp,by simp,by simp,by simp,by simp,by rw[List.getElem?_eq_none (by omega)];simp⟩
    ·rintro bR aS ⟨rfl,f0,f1,f5,f6,f7,f21,f22,f8⟩
     simp[f0,f1,f5,f6,f7,f8,cz,cr,e1,gH]
     refine dI.mk (by omega) ?_
     simp[f0,f1,f5,f6,f7,f8,cz,cr,e1,gH,xy,l7,pn _ jW]
     refine aT.mk (GP (bw.lt i) (bD.lt i) ae) ?_
     rintro v bN ⟨rfl,s,d,rfl,ao,aD,Fi⟩
     simp[f0,f1,f5,f6,f7,f8,f22,cz,cr,e1,gH,iv]
     refine dI.mk (by omega) ?_
     simp(disch:=omega)[f0,f1,f5,f6,f7,f8,f22,cz,cr,e1,gH,iv,b8]
     refine dI.mk (by omega) ?_
     simp(disch:=omega)[f0,f1,f5,f6,f7,f8,f22,cz,cr,e1,gH,iv,b8]
     refine jN (a.length-(i+1)) _ _ (by omega) ⟨i+1,by omega,by omega,by simp[f0,cz],by simp[f1,cr],by simp[f21,rn],by simp,by simp[f5,e1],out.set i s,d,by simp[List.map_set],by simp,aD,by simp[dQ],?_,?_⟩
     ·intro z aM
      rcases List.mem_or_eq_of_mem_set aM with aM | rfl
      ·exact jy z aM
      ·exact ao
     ·rw[sy _ _ _ (by omega),jm a,jm b,Nat.pow_succ]
      have:4294967296^i*(a[i]?.getD 0+4294967296*d)=4294967296^i*(s+b[i]?.getD 0+c):=by rw[Fi]
      grind
   ·simp
    have:i=a.length:=by omega
    subst this
    refine aV _ _ ⟨by simp[e1],out,c,rfl,dQ,jy,?_⟩
    rw[List.take_length,List.take_of_length_le hle,<-dQ,List.take_length]at an
    rw[<-dQ]
    exact an
 ·rintro az H1 ⟨e1,out,c,rfl,dQ,jy,an⟩
  have Fa:=ks jy
  have qk:c=0:=by
   rcases Nat.eq_zero_or_pos c with h | h
   ·exact h
   ·have:4294967296^a.length*1<=4294967296^a.length*c:=Nat.mul_le_mul_left _ h
    rw[dQ]at Fa
    omega
  subst qk
  rw[cQ]
  simp[e1,-cQ]
  have eJ:=db.fresh H 124 out a.length a.length (Nat.le_refl _) dQ jy false
  refine aT.mk (mm eJ (by simp[dQ];omega)) ?_
  rintro v H1 ⟨rfl,dn,dK,bf,dR,-⟩
  simp[bd]
  refine aC _ _ ⟨(Ext.refl H).snoc _ _ _,dn,dK,bf,?_⟩
  rw[dR,<-dQ,List.take_length]
  omega
theorem Qo(l:List Nat)(i x:Nat)(af:i<l.length):val (l.set i x)+4294967296^i*(l[i]?.getD 0)=val l+4294967296^i*x:=by
 induction l generalizing i with
 | nil=>simp at af
 | cons y l a1=>
  cases i with
  | zero=>simp[val];omega
  | succ i=>
   simp only[List.set_cons_succ,val,List.getElem?_cons_succ,Nat.pow_succ]
   have:=a1 i (by simpa using af)
   grind
theorem Gd{p q:Nat}(aU:p<4294967296)(av:q<4294967296):IntKind.u64.wrap ((p:Int)*q)=((p*q:Nat):Int):=by
 have Wm:p*q<=4294967295*4294967295:=Nat.mul_le_mul (by omega) (by omega)
 have o:(p:Int)*q=((p*q:Nat):Int):=by simp
 rw[o]
 exact gv (Int.natCast_nonneg _) (by omega)
theorem K0{l:List Nat}{i j x:Nat}(h:i≠j):(l.set i x)[j]?.getD 0=l[j]?.getD 0:=by rw[List.getElem?_set_ne h]
theorem PH{v w:Value}{a b:List Nat}{H:ab}(bw:db H 124 v a)(bD:db H 124 w b)(kD:a.length<1048576)(jV:b.length<1048576):
  aO prog 93 [v,w] H (fun au H1=>Ext H H1/\∃l,db H1 124 au l/\Trim l/\val l=val a*val b):=by
 refine aO.b9 fun Q aC=>?_
 apply YP (by simp)
 obtain⟨x,iQ,rfl⟩:=bw.len
 obtain⟨y,m9,rfl⟩:=bD.len
 by_cases qc:a.length+b.length=0
 ·have xB:a=[]:=List.eq_nil_of_length_eq_zero (by omega)
  have nm:b=[]:=List.eq_nil_of_length_eq_zero (by omega)
  subst xB nm
  simp only[Da]
  rw[cQ]
  simp[-cQ]
  rw[cQ]
  simp(disch:=omega)[-cQ,b8]
  refine CC (e:=124) (R:=1) (bF:=4) (eK:= .i64) (cX:= .i64) (by simp) (by simp) (by simp) (by simp) (by simp) ?_
  simp
  refine k_.mk (ai:=fun n az H1=>H=H1/\az 19= .int .i64 0/\az 20= .int .i64 0/\az 5= .slice (some ⟨0,0,none⟩) 0 0) 0 ⟨rfl,by simp,by simp,by simp⟩ ?_
  rintro n az H1 ⟨rfl,DK,DL,e1⟩ K aV
  simp[DK,DL,e1]
  refine aT.mk (mm (l:=[]) ⟨ey.void H _ _ _,by simp⟩ (by simp)) ?_
  rintro v H1 ⟨rfl,dn,dK,bf,dR,-⟩
  simp[bd]
  exact aC _ _ ⟨Ext.refl _,dn,dK,bf,by simpa[val]using dR⟩
 simp only[Da]
 rw[cQ]
 simp[-cQ]
 rw[cQ]
 simp(disch:=omega)[b8,-cQ]
 refine zn (e:=124) (R:=1) (bF:=4) (eK:= .i64) (cX:= .i64) (l:=a.length+b.length) (c:=a.length+b.length) (z:= .int .u32 0) (by simp) (by simp) (by simp) (by simp) (by rfl) (by rfl) (by simp) (by simp) (by omega) (by omega) (Nat.le_refl _) (by omega) (by omega) ?_
 simp[-cQ,qL]
 rw[cQ]
 refine hd.cut (fun az H1=>az 5= .slice (some ⟨H.length,0,none⟩) (a.length+b.length) (a.length+b.length)/\∃(out:List Nat),H1=H++[.own 124 false (out.map fun(x:Nat)=>Value.int .u32 (x:Int))]/\out.length=a.length+b.length/\(∀x∈out,x<4294967296)/\val out=val a*val b) ?_ ?_
 ·intro K aV
  simp(disch:=omega)[b8]
  refine k_.mk (ai:=fun n az H1=>∃i:Nat,n=a.length-i/\i<=a.length/\az 18= .slice x a.length iQ/\az 1= .slice y b.length m9/\az 19= .int .i64 a.length/\az 20= .int .i64 i/\az 5= .slice (some ⟨H.length,0,none⟩) (a.length+b.length) (a.length+b.length)/\∃(out:List Nat),H1=H++[.own 124 false (out.map fun(x:Nat)=>Value.int .u32 (x:Int))]/\out.length=a.length+b.length/\(∀x∈out,x<4294967296)/\(∀k,i+b.length<=k->out[k]?.getD 0=0)/\val out=val (a.take i)*val b) a.length ?_ ?_
  ·refine⟨0,by omega,by omega,by simp,by simp,by simp,by simp,by simp,List.replicate (a.length+b.length) 0,by simp,by simp,by simp,?_,by simp[val,Hh]⟩
   intro k ak
   rw[List.getElem?_replicate]
   split<;>rfl
  ·rintro n az H1 ⟨i,rfl,af,cz,cr,rn,iv,e1,out,rfl,dQ,jy,aM,an⟩ er jN
   simp[rn,iv]
   refine bs.bZ (fun jW=>?_) (fun jW=>?_)
   ·simp[cz,cr,e1,iv,-cQ]
    obtain⟨hs,i1,wY,zQ,zT,j_,oj,l7,-,pn⟩:=bw.at (by omega)
    cases j_
    have xy:=nI oj [.own 124 false (out.map fun(x:Nat)=>Value.int .u32 (x:Int))]
    obtain⟨p,aU⟩:∃p,a[i]?.getD 0=p:=⟨_,rfl⟩
    have iN:p<4294967296:=aU▸bw.lt i
    have ka:=pn _ jW
    rw[aU]at ka
    rw[cQ,G8,cQ]
    simp[cz,cr,e1,iv,-cQ]
    refine dI.mk (by omega) ?_
    simp[cz,cr,e1,iv,-cQ,xy,l7,ka]
    rw[cQ]
    simp[-cQ]
    rw[cQ]
    refine hd.cut (fun bR aS=>bR 18=az 18/\bR 1=az 1/\bR 19=az 19/\bR 20=az 20/\bR 5=az 5/\bR 6= .int .i64 i/\∃(ho:List Nat) (c:Nat),aS=H++[.own 124 false (ho.map fun(x:Nat)=>Value.int .u32 (x:Int))]/\bR 8= .int .u64 c/\c<4294967296/\ho.length=a.length+b.length/\(∀x∈ho,x<4294967296)/\(∀k,i+b.length<=k->ho[k]?.getD 0=0)/\val ho+4294967296^(i+b.length)*c=val (a.take i)*val b+4294967296^i*(p*val b)) ?_ ?_
    ·intro cZ c3
     rw[cQ]
     simp[cr]
     refine k_.mk (ai:=fun n bR aS=>∃j:Nat,n=b.length-j/\j<=b.length/\bR 18=az 18/\bR 1=az 1/\bR 25=az 1/\bR 26= .int .i64 b.length/\bR 27= .int .i64 j/\bR 7= .int .u32 p/\bR 19=az 19/\bR 20=az 20/\bR 5=az 5/\bR 6= .int .i64 i/\∃(ho:List Nat) (c:Nat),aS=H++[.own 124 false (ho.map fun(x:Nat)=>Value.int .u32 (x:Int))]/\bR 8= .int .u64 c/\c<4294967296/\ho.length=a.length+b.length/\(∀x∈ho,x<4294967296)/\(∀k,i+b.length<=k->ho[k]?.getD 0=0)/\val ho+4294967296^(i+j)*c=val (a.take i)*val b+4294967296^i*(p*val (b.take j))) b.length ?_ ?_
     ·exact⟨0,by omega,by omega,by simp,by simp[cr],by simp[cr],by simp,by simp,by simp,by simp,by simp,by simp,by simp,out,0,by simp,by simp,by omega,dQ,jy,aM,by simp[val,an]⟩
     ·rintro n bR aS ⟨j,rfl,aY,f18,f1,f25,f26,f27,f7,f19,f20,f5,f6,ho,c,rfl,f8,ae,Bg,x6,tO,dR⟩ nb fN
      simp[f26,f27]
      refine bs.bZ (fun rO=>?_) (fun rO=>?_)
      ·obtain⟨lf,i2,Dq,C8,Dc,iZ,rB,nn,-,rK⟩:=bD.at (by omega)
       cases iZ
       have tg:=nI rB [.own 124 false (ho.map fun(x:Nat)=>Value.int .u32 (x:Int))]
       obtain⟨q,av⟩:∃q,b[j]?.getD 0=q:=⟨_,rfl⟩
       have rT:q<4294967296:=av▸bD.lt j
       have kb:=rK _ rO
       rw[av]at kb
       obtain⟨U,aQ⟩:∃U,ho[i+j]?.getD 0=U:=⟨_,rfl⟩
       have ajf:U<4294967296:=aQ▸w7 (by decide) x6 _
       have Me:ho[i+j]?=some U:=by rw[bz (by omega)]at aQ⊢;simpa using aQ
       have Wm:p*q<=4294967295*4294967295:=Nat.mul_le_mul (by omega) (by omega)
       simp[f25,f27,cr]
       refine dI.mk (by omega) ?_
       have t1:((i:Int)+j).toNat=i+j:=by omega
       obtain⟨m,hm⟩:∃m,p*q=m:=⟨_,rfl⟩
       have wm:IntKind.u64.wrap ((p:Int)*q)=(m:Int):=hm▸Gd iN rT
       obtain⟨s,ao⟩:∃s,(m+U+c) % 4294967296=s:=⟨_,rfl⟩
       obtain⟨d,aD⟩:∃d,(m+U+c)/4294967296=d:=⟨_,rfl⟩
       have b1:IntKind.u32.wrap ((m:Int)+U+c)=(s:Int):=by rw[oY];omega
       have ik:((m:Int)+U+c)/4294967296=(d:Int):=by omega
       simp(disch:=first | omega | (simp<;>fail) | fail) [f5,f6,f7,f8,f25,f27,cr,e1,tg,nn,kb,b8,gv,wm,-getElem?_pos]
       refine dI.mk (by omega) ?_
       simp(disch:=first | omega | (simp<;>fail) | fail) [f5,f6,f7,f8,f25,f27,cr,e1,tg,nn,kb,b8,gv,wm,t1,Me,-getElem?_pos,b1,ik,ni]
       refine dI.mk (by omega) ?_
       simp(disch:=first | omega | (simp<;>fail) | fail) [f5,f6,f7,f8,f25,f27,cr,e1,tg,nn,kb,b8,gv,wm,t1,Me,-getElem?_pos,b1,ik,ni]
       refine dI.mk (by omega) ?_
       simp(disch:=first | omega | (simp<;>fail) | fail) [f27,b8]
       refine fN (b.length-(j+1)) _ _ (by omega) ⟨j+1,by omega,by omega,by simp[f18],by simp[f1],by simp[f25],by simp[f26],by simp,by simp[f7],by simp[f19],by simp[f20],by simp[f5],by simp[f6],ho.set (i+j) s,d,by simp[List.map_set],by simp,by omega,by simp[Bg],?_,?_,?_⟩
       ·intro z aM
        rcases List.mem_or_eq_of_mem_set aM with aM | rfl
        ·exact x6 z aM
        ·omega
       ·intro k ak
        rw[K0 (by omega)]
        exact tO k ak
       ·have o:=Qo ho (i+j) s (by omega)
        rw[aQ]at o
        rw[jm b,av,show i+(j+1)=i+j+1 from rfl,Nat.pow_succ]
        have aa:s+4294967296*d=p*q+U+c:=by omega
        have aA:4294967296^(i+j)*(s+4294967296*d)=4294967296^(i+j)*(p*q+U+c):=by rw[aa]
        rw[Nat.pow_add]at*
        grind
      ·simp
       have:j=b.length:=by omega
       subst this
       exact c3 _ _ ⟨by simp[f18],by simp[f1],by simp[f19],by simp[f20],by simp[f5],by simp[f6],ho,c,rfl,by simp[f8],ae,Bg,x6,tO,by rw[dR,List.take_length]⟩
    ·rintro bR aS ⟨f18,f1,f19,f20,f5,f6,ho,c,rfl,f8,ae,Bg,x6,tO,dR⟩
     have wm:IntKind.u32.wrap (c:Int)=(c:Int):=mr (by omega) (by omega)
     have t1:((i:Int)+b.length).toNat=i+b.length:=by omega
     simp(disch:=first | omega | (simp<;>fail) | fail) [f18,f1,f19,f20,f5,f6,f8,cz,cr,e1,iv,b8,wm]
     refine dI.mk (by omega) ?_
     simp(disch:=first | omega | (simp<;>fail) | fail) [f18,f1,f19,f20,f5,f6,f8,cz,cr,e1,iv,b8,wm,t1]
     refine dI.mk (by omega) ?_
     simp(disch:=first | omega | (simp<;>fail) | fail) [f20,iv,b8]
     refine jN (a.length-(i+1)) _ _ (by omega) ⟨i+1,by omega,by omega,by simp[f18,cz],by simp[f1,cr],by simp[f19,rn],by simp,by simp[f5,e1],ho.set (i+b.length) c,by simp[List.map_set],by simp[Bg],?_,?_,?_⟩
     ·intro z aM
      rcases List.mem_or_eq_of_mem_set aM with aM | rfl
      ·exact x6 z aM
      ·omega
     ·intro k ak
      rw[K0 (by omega)]
      exact tO k (by omega)
     ·have o:=Qo ho (i+b.length) c (by omega)
      rw[tO _ (Nat.le_refl _)]at o
      rw[jm a,aU,Nat.add_mul]
      grind
   ·simp
    have:i=a.length:=by omega
    subst this
    exact aV _ _ ⟨by simp[e1],out,rfl,dQ,jy,by rw[an,List.take_length]⟩
 ·rintro az H1 ⟨e1,out,rfl,dQ,jy,an⟩
  rw[cQ]
  simp[e1,-cQ]
  have eJ:=db.fresh H 124 out (a.length+b.length) (a.length+b.length) (Nat.le_refl _) dQ jy false
  refine aT.mk (mm eJ (by simp[dQ];omega)) ?_
  rintro v H1 ⟨rfl,dn,dK,bf,dR,-⟩
  simp[bd]
  refine aC _ _ ⟨(Ext.refl H).snoc _ _ _,dn,dK,bf,?_⟩
  rw[dR,<-dQ,List.take_length,an]
@[simp] theorem aha(H N:ab):(H++N)[H.length]?=N[0]?:=by rw[List.getElem?_append_right (Nat.le_refl _),Nat.sub_self]
@[simp] theorem ahw(b:Bool):(Value.bool b).cells= #[.bool b]:=rfl
@[simp] theorem ahA(a:Option Addr)(n c:Nat):(Value.slice a n c).cells= #[.slice a n c]:=rfl
@[simp] theorem ahv(cs:Array Value):(Value.agg cs).cells=cs:=rfl
@[simp] theorem ahB(s:ByteArray):(Value.string s).cells= #[.string s]:=rfl
@[simp] theorem ajM(b:Bool):(Value.bool b).oneCell'=true:=rfl
@[simp] theorem ajO(a:Option Addr)(n c:Nat):(Value.slice a n c).oneCell'=true:=rfl
@[simp] theorem ajP(s:ByteArray):(Value.string s).oneCell'=true:=rfl
@[simp] theorem alQ(cs:List Value)(i:Nat):mq cs i []=dp cs i []:=rfl
@[simp] theorem alS(cs:List Value)(i:Nat)(v w:Value)(aG:List Value):mq cs i (v::w::aG)=dp cs i (v::w::aG):=rfl
theorem Ext.more(H:ab){N:ab}(h:∀x∈N,∀e cs,x≠ .ro e cs):Ext H (H++N):=⟨N,rfl,h⟩
theorem ey.set{H:ab}{e R n b:Nat}{v:Value}{cs:List Value}{X Y:bO}(h:ey H e R v n cs)(ag:H[b]?=some Y)(he:Y.elem?≠some e):ey (H.set b X) e R v n cs:=by
 obtain⟨a,cap,an,o,aa,aA⟩:=h
 refine⟨a,cap,an,o,aa,fun ae=>?_⟩
 obtain⟨cy,i,Q1,all,a0,a4,bI,cj,e8⟩:=aA ae
 refine⟨cy,i,Q1,all,a0,?_,bI,cj,e8⟩
 have:b≠cy:=fun c5=>by
  subst c5
  rw[ag]at a4
  exact he (Option.some.inj a4▸cj)
 rw[List.getElem?_set_ne this]
 exact a4
theorem db.set{H:ab}{e b:Nat}{v:Value}{l:List Nat}{X Y:bO}(h:db H e v l)(ag:H[b]?=some Y)(he:Y.elem?≠some e):db (H.set b X) e v l:=⟨h.1.set ag he,h.2⟩
theorem tR{neg:Bool}{a:Option Addr}{n c:Nat}{H:ab}:aO prog 92 [.bool neg,.slice a n c] H (fun v H1=>Ext H H1/\v= .agg #[.bool (neg&&decide (0<n)),.slice a n c]):=by
 refine aO.b9 fun Q aC=>?_
 apply YJ (by simp)
 simp[H_]
 cases neg<;>simp[dp,bd]
 ·exact aC _ _ ⟨Ext.more H (by simp),by simp⟩
 ·exact aC _ _ ⟨Ext.more H (by simp),by simp⟩
def du(H:ab)(v:Value)(z:Int):Prop:=∃(a:Option Addr) (c:Nat) (l:List Nat),v= .agg #[.bool (decide (z<0)),.slice a l.length c]/\db H 124 (.slice a l.length c) l/\Trim l/\val l=z.natAbs
theorem du.ext{H H1:ab}{v:Value}{z:Int}(h:du H v z)(J:Ext H H1):du H1 v z:=by
 obtain⟨a,c,l,o,aa,aA⟩:=h
 exact⟨a,c,l,o,aa.ext J,aA⟩
theorem Trim.pos{l:List Nat}(h:Trim l):0<l.length↔0<val l:=by
 have:=h.zero
 constructor
 ·intro o
  rcases Nat.eq_zero_or_pos (val l)with aa | aa
  ·rw[this.1 aa]at o;simp at o
  ·exact aa
 ·intro o
  rcases Nat.eq_zero_or_pos l.length with aa | aa
  ·rw[List.eq_nil_of_length_eq_zero aa]at o;simp[val]at o
  ·exact aa
theorem du.mk'{H:ab}{v:Value}{neg:Bool}{l:List Nat}{a:Option Addr}{c:Nat}(an:v= .agg #[.bool (neg&&decide (0<l.length)),.slice a l.length c])(eJ:db H 124 (.slice a l.length c) l)(bf:Trim l):du H v (if neg=true then-(val l:Int)else val l):=by
 refine⟨a,c,l,?_,eJ,bf,by cases neg<;>simp⟩
 rw[an]
 have:=bf.pos
 cases neg
 ·have e:decide ((if false=true then-(val l:Int)else(val l:Int))<0)=false:=by simp
  rw[e];simp
 ·have e:decide ((if true=true then-(val l:Int)else(val l:Int))<0)=decide (0<l.length):=by
   simp only[if_true]
   by_cases h:0<l.length
   ·have:=this.1 h
    simp[h];omega
   ·have aa:¬0<val l:=fun aa=>h (this.2 aa)
    simp[h];omega
  rw[e];simp
theorem v5{n:Int}{H:ab}(o: -9223372036854775808<=n)(aa:n<9223372036854775808):aO prog 88 [.int .i64 n] H (fun v H1=>Ext H H1/\du H1 v n):=by
 refine aO.b9 fun Q aC=>?_
 apply Yt (by simp)
 simp only[H4]
 rw[cQ]
 simp[-cQ]
 rw[cQ]
 simp[-cQ]
 rw[cQ]
 refine hd.cut (fun az H1=>H1=H++[.own 78 false [.bool false,.slice none 0 0]]/\az 0= .int .i64 n/\az 2= .pointer (some ⟨H.length,0,none⟩)/\az 3= .int .u64 n.natAbs) ?_ ?_
 ·intro K aV
  simp
  refine bs.bZ (fun h=>?_) (fun h=>?_)
  ·simp
   refine aV _ _ ⟨rfl,by simp,by simp,?_⟩
   simp[QD]
   omega
  ·simp
   refine aV _ _ ⟨rfl,by simp,by simp,?_⟩
   simp[QD]
   omega
 ·rintro F H1 ⟨rfl,f0,f2,f3⟩
  have ag:n.natAbs<18446744073709551616:=by omega
  obtain⟨m,hm⟩:∃m,n.natAbs=m:=⟨_,rfl⟩
  rw[hm]at f3 ag
  obtain⟨bc,hi⟩:∃bc,m % 4294967296=bc:=⟨_,rfl⟩
  obtain⟨af,ie⟩:∃af,m/4294967296=af:=⟨_,rfl⟩
  have bk:IntKind.u32.wrap (m:Int)=(bc:Int):=by rw[oY];omega
  have bp:IntKind.u32.wrap ((m:Int)/4294967296)=(af:Int):=by rw[oY];omega
  rw[cQ]
  simp(disch:=first | omega | (simp<;>fail) | fail) [f0,f2,f3,bk,bp,ni,-cQ]
  refine sq (e:=124) (R:=1) (z:= .int .u32 0) (out:=[.int .u32 bc,.int .u32 af]) (by simp) (by simp) (by simp) (by rfl) (by rfl) (by omega) (by omega) (by omega) ?_ (by simp) ?_
  ·simp[jr,qL]
  simp[-cQ]
  have eJ:=db.fresh (H++[.own 78 false [.bool false,.slice none 0 0]]) 124 [bc,af] 2 2 (by omega) (by simp) (by simp;omega) false
  simp at eJ
  refine aT.mk (mm eJ (by simp)) ?_
  rintro v H1 ⟨rfl,l,ar,bf,an,hlen⟩
  obtain⟨a,c,rfl⟩:=ar.len
  simp[f0,f2,-cQ]
  refine aT.mk tR ?_
  rintro v H1 ⟨J,rfl⟩
  have cz:H1[H.length]?=some (.own 78 false [.bool false,.slice none 0 0]):=J.get_some (by simp)
  have aZ:H.length<H1.length:=(cJ.1 cz).1
  have bu:Ext H H1:=(Ext.more H (by simp)).aw J
  simp[f2,cz,List.getElem?_set_self aZ,dp,bd,-getElem?_pos]
  refine aC _ _ ⟨bu.set (Nat.le_refl _) (by simp),?_⟩
  have hk:val l=n.natAbs:=by
   rw[an]
   simp[val]
   omega
  have xv:db (H1.set H.length (.own 78 false [.bool (decide (n<0)&&decide (0<l.length)),.slice a l.length c])) 124 (.slice a l.length c) l:=(ar.ext J).set cz (by simp[bO.elem?])
  have qv:=du.mk' (neg:=decide (n<0)) rfl xv bf
  rw[hk]at qv
  have aM:(if decide (n<0)=true then-((n.natAbs:Nat):Int)else(n.natAbs:Int))=n:=by
   simp only[decide_eq_true_eq]
   split<;>omega
  rwa[aM]at qv
def Fits(z:Int):Prop:=z.natAbs<4294967296^1000000
theorem Fits.length{z:Int}(h:Fits z){l:List Nat}(bf:Trim l)(an:val l=z.natAbs):l.length<=1000000:=bf.length_le (by rw[an];exact h)
theorem sf(a n m:Nat)(aL:0<a)(h:n<=m):a^n<=a^m:=Nat.pow_le_pow_right aL h
theorem Gt(a b n:Nat)(h:a<=b):a^n<=b^n:=Nat.pow_le_pow_left h n
theorem Gs(a n m k:Nat)(h:n*m=k):a^k=(a^n)^m:=by rw[<-h,Nat.pow_mul]
theorem aaS(k:Nat):(4294967296:Nat)^k=2^(32*k):=by rw[Nat.pow_mul]
theorem aaP{v N:Nat}(M:Nat)(h:v<2^N)(bP:N<=32*M):v<4294967296^M:=by
 rw[aaS];exact Nat.lt_of_lt_of_le h (Nat.pow_le_pow_right (by decide) bP)
theorem aaT{v n:Nat}(m:Nat)(h:v<4294967296^n)(aJ:n<=m):v<10^(10*m):=by
 rw[Nat.pow_mul];exact Nat.lt_of_lt_of_le h (Nat.le_trans (Nat.pow_le_pow_right (by decide) aJ) (Nat.pow_le_pow_left (by decide) m))
theorem aaQ(a n b cL m k mi:Nat)(h:n*m=k)(aa:cL*m=mi)(hle:a^n<=b^cL):a^k<=b^mi:=by
 rw[<-h,<-aa,Nat.pow_mul,Nat.pow_mul];exact Nat.pow_le_pow_left hle m
theorem aaR{v e n:Nat}(m:Nat)(h:v<10^n)(he:e<=10^9)(aJ:n+9<m):v*e<4294967296^m:=by
 refine Nat.lt_of_le_of_lt (Nat.mul_le_mul (Nat.le_of_lt h) he) (Nat.lt_of_lt_of_le ?_ (Nat.pow_le_pow_left (show 10<=4294967296 by decide) m))
 rw[<-Nat.pow_add];exact Nat.pow_lt_pow_right (by decide) aJ
theorem Gu(n:Nat)(h:n≠0):1<2^n:=Nat.one_lt_two_pow h
theorem Fits.small{z:Int}(h:z.natAbs<4294967296^8):Fits z:=Nat.lt_of_lt_of_le h (sf 4294967296 8 1000000 (by decide) (by decide))
theorem Fits.neg{z:Int}(h:Fits z):Fits (-z):=by unfold Fits at*;rwa[Int.natAbs_neg]
theorem B0{v:Value}{a:Int}{H:ab}(bw:du H v a):aO prog 113 [v] H (fun v H1=>Ext H H1/\du H1 v (-a)):=by
 refine aO.b9 fun Q aC=>?_
 apply Yo (by simp)
 obtain⟨x,iQ,l,rfl,eJ,bf,an⟩:=bw
 simp[H0]
 refine aT.mk tR ?_
 rintro v H1 ⟨J,rfl⟩
 have cz:H1[H.length+1]?=some (.own 78 false [.bool false,.slice none 0 0]):=J.get_some (by simp)
 have aZ:H.length+1<H1.length:=(cJ.1 cz).1
 have bu:Ext H H1:=(Ext.more H (by simp)).aw J
 simp[cz,List.getElem?_set_self aZ,dp,bd,-getElem?_pos]
 refine aC _ _ ⟨bu.set (by omega) (by simp),?_⟩
 have qv:=du.mk' (neg:= !decide (a<0)) rfl ((eJ.ext bu).set (X:= .own 78 false [.bool (!decide (a<0)&&decide (0<l.length)),.slice x l.length iQ]) cz (by simp[bO.elem?])) bf
 rw[an]at qv
 have aM:(if(!decide (a<0))=true then-((a.natAbs:Nat):Int)else(a.natAbs:Int))= -a:=by
  simp
  split<;>omega
 rw[aM]at qv
 exact qv
theorem Pq{v:Value}{a:Int}{H:ab}(bw:du H v a):aO prog 95 [v] H (fun v H1=>Ext H H1/\v= .int .i64 (if a<0 then-1 else if a=0 then 0 else 1)):=by
 refine aO.b9 fun Q aC=>?_
 apply Yq (by simp)
 obtain⟨x,iQ,l,rfl,eJ,bf,an⟩:=bw
 have aU:=bf.pos
 simp[H2]
 refine bs.bZ (fun h=>?_) (fun h=>?_)
 ·simp[bd]
  refine aC _ _ ⟨Ext.more H (by simp),?_⟩
  have:a=0:=by
   rw[h]at an
   simp[val]at an
   omega
  simp[this]
 ·simp
  have aH:a≠0:=fun aH=>by
   have:0<l.length:=List.length_pos_iff.2 h
   rw[aH]at an
   omega
  refine bs.bZ (fun o=>?_) (fun o=>?_)
  ·simp[bd]
   exact aC _ _ ⟨Ext.more H (by simp),by simp[o]⟩
  ·simp[bd]
   exact aC _ _ ⟨Ext.more H (by simp),by simp[o,aH]⟩
theorem zS{v w:Value}{a b:Int}{H:ab}(bw:du H v a)(bD:du H w b)(a7:Fits a)(kz:Fits b):aO prog 105 [v,w] H (fun v H1=>Ext H H1/\du H1 v (a+b)):=by
 refine aO.b9 fun Q aC=>?_
 apply Yk (by simp)
 obtain⟨x,iQ,dg,rfl,eJ,bf,an⟩:=bw
 obtain⟨y,m9,dM,rfl,l3,xp,dR⟩:=bD
 have kD:=a7.length bf an
 have jV:=kz.length xp dR
 have bK:Ext H (H++[.own 78 false [.bool (decide (a<0)),.slice x dg.length iQ],.own 78 false [.bool (decide (b<0)),.slice y dM.length m9],.own 78 false [.bool false,.slice none 0 0]]):=Ext.more H (by simp)
 have fin:∀(neg:Bool) (H1 aS:ab) (l:List Nat) (m:Option Addr) (m2:Nat),Ext (H++[.own 78 false [.bool (decide (a<0)),.slice x dg.length iQ],.own 78 false [.bool (decide (b<0)),.slice y dM.length m9],.own 78 false [.bool false,.slice none 0 0]]) H1->db H1 124 (.slice m l.length m2) l->Trim l->
   (if neg=true then-(val l:Int)else val l)=a+b->Ext H1 aS->aS[H.length+2]?=some (.own 78 false [.bool false,.slice none 0 0])/\Q (.agg #[.bool (neg&&decide (0<l.length)),.slice m l.length m2]) (aS.set (H.length+2) (.own 78 false [.bool (neg&&decide (0<l.length)),.slice m l.length m2]))/\H.length+2<aS.length:=by
  intro neg H1 aS l m m2 o aa aA bj bJ
  have cz:aS[H.length+2]?=some (.own 78 false [.bool false,.slice none 0 0]):=(o.aw bJ).get_some (by simp)
  refine⟨cz,aC _ _ ⟨(bK.aw (o.aw bJ)).set (by omega) (by simp),?_⟩,(cJ.1 cz).1⟩
  have:=du.mk' (neg:=neg) rfl ((aa.ext bJ).set (X:= .own 78 false [.bool (neg&&decide (0<l.length)),.slice m l.length m2]) cz (by simp[bO.elem?])) aA
  rwa[bj]at this
 simp[HX]
 refine bs.bZ (fun h=>?_) (fun h=>?_)
 ·simp
  refine aT.mk (OO (eJ.ext bK) (l3.ext bK) (by omega) (by omega)) ?_
  rintro v H1 ⟨J,l,ar,hv,iz⟩
  refine⟨J,?_⟩
  obtain⟨m,m2,rfl⟩:=ar.len
  simp
  refine aT.mk tR ?_
  rintro v aS ⟨bl,rfl⟩
  obtain⟨cz,cr,iL⟩:=fin (decide (a<0)) H1 aS l m m2 J ar hv (by
   have cA:a<0↔b<0:=by simpa using h
   rw[iz,an,dR];simp;split<;>omega) bl
  simp[cz,List.getElem?_set_self iL,dp,bd,-getElem?_pos]
  exact cr
 ·simp
  refine aT.mk (Ds (eJ.ext bK) (l3.ext bK) bf xp (by omega) (by omega)) ?_
  rintro v H1 ⟨rfl,rfl⟩
  simp
  refine bs.bZ (fun o=>?_) (fun o=>?_)
  ·have hh:val dM<=val dg:=by
    rcases Nat.lt_or_ge (val dg) (val dM)with aa | aa
    ·rw[if_pos aa]at o;omega
    ·exact aa
   simp
   refine aT.mk (Ok (eJ.ext bK) (l3.ext bK) (by omega) ?_ hh) ?_
   ·rcases Nat.lt_or_ge dg.length dM.length with aa | aa
    ·have:=xp.vW eJ.2 aa
     omega
    ·exact aa
   rintro v H1 ⟨J,l,ar,hv,iz⟩
   refine⟨J,?_⟩
   obtain⟨m,m2,rfl⟩:=ar.len
   simp
   refine aT.mk tR ?_
   rintro v aS ⟨bl,rfl⟩
   obtain⟨cz,cr,iL⟩:=fin (decide (a<0)) H1 aS l m m2 J ar hv (by
    have cA:¬(a<0↔b<0):=by simpa using h
    rw[iz,an,dR,Int.ofNat_sub (by omega)];simp;split<;>omega) bl
   simp[cz,List.getElem?_set_self iL,dp,bd,-getElem?_pos]
   exact cr
  ·have hh:val dg<=val dM:=by
    rcases Nat.lt_or_ge (val dg) (val dM)with aa | aa
    ·omega
    ·rw[if_neg (by omega)]at o
     split at o<;>omega
   simp
   refine aT.mk (Ok (l3.ext bK) (eJ.ext bK) (by omega) ?_ hh) ?_
   ·rcases Nat.lt_or_ge dM.length dg.length with aa | aa
    ·have:=bf.vW l3.2 aa
     omega
    ·exact aa
   rintro v H1 ⟨J,l,ar,hv,iz⟩
   refine⟨J,?_⟩
   obtain⟨m,m2,rfl⟩:=ar.len
   simp
   refine aT.mk tR ?_
   rintro v aS ⟨bl,rfl⟩
   obtain⟨cz,cr,iL⟩:=fin (decide (b<0)) H1 aS l m m2 J ar hv (by
    have cA:¬(a<0↔b<0):=by simpa using h
    rw[iz,an,dR,Int.ofNat_sub (by omega)];simp;split<;>omega) bl
   simp[cz,List.getElem?_set_self iL,dp,bd,-getElem?_pos]
   exact cr
attribute [simp] List.getElem?_cons_zero List.getElem?_cons_succ
theorem du.set{H:ab}{v:Value}{z:Int}{b:Nat}{X Y:bO}(h:du H v z)(ag:H[b]?=some Y)(he:Y.elem?≠some 124):du (H.set b X) v z:=by
 obtain⟨a,c,l,o,aa,aA⟩:=h
 exact⟨a,c,l,o,aa.set ag he,aA⟩
theorem du.shape{H:ab}{v:Value}{z:Int}(h:du H v z):∃s a n c,v= .agg #[.bool s,.slice a n c]:=by
 obtain⟨a,c,l,o,-⟩:=h
 exact⟨_,_,_,_,o⟩
theorem Py{v w:Value}{a b:Int}{H:ab}(bw:du H v a)(bD:du H w b)(a7:Fits a)(kz:Fits b):aO prog 94 [v,w] H (fun v H1=>Ext H H1/\du H1 v (a-b)):=by
 refine aO.b9 fun Q aC=>?_
 apply Ys (by simp)
 obtain⟨s1,b4,cB,cm,rfl⟩:=bw.shape
 obtain⟨s2,cM,cL,cI,rfl⟩:=bD.shape
 have bK:Ext H (H++[.own 78 false [.bool s1,.slice b4 cB cm],.own 78 false [.bool s2,.slice cM cL cI],.own 78 false [.bool false,.slice none 0 0]]):=Ext.more H (by simp)
 simp[H3]
 refine aT.mk (B0 (bD.ext bK)) ?_
 rintro v H1 ⟨J,an⟩
 refine⟨J,?_⟩
 simp
 refine aT.mk (zS (bw.ext (bK.aw J)) an a7 kz.neg) ?_
 rintro v aS ⟨bl,jb⟩
 have cz:aS[H.length+2]?=some (.own 78 false [.bool false,.slice none 0 0]):=(J.aw bl).get_some (by simp)
 have aZ:=(cJ.1 cz).1
 obtain⟨lH,eM,hn,eQ,rfl⟩:=jb.shape
 simp[cz,List.getElem?_set_self aZ,dp,bd,-getElem?_pos]
 exact aC _ _ ⟨(bK.aw (J.aw bl)).set (by omega) (by simp),jb.set cz (by simp[bO.elem?])⟩
theorem yZ{v w:Value}{a b:Int}{H:ab}(bw:du H v a)(bD:du H w b)(a7:Fits a)(kz:Fits b):aO prog 66 [v,w] H (fun v H1=>Ext H H1/\du H1 v (a*b)):=by
 refine aO.b9 fun Q aC=>?_
 apply Yn (by simp)
 obtain⟨x,iQ,dg,rfl,eJ,bf,an⟩:=bw
 obtain⟨y,m9,dM,rfl,l3,xp,dR⟩:=bD
 have kD:=a7.length bf an
 have jV:=kz.length xp dR
 have bK:Ext H (H++[.own 78 false [.bool (decide (a<0)),.slice x dg.length iQ],.own 78 false [.bool (decide (b<0)),.slice y dM.length m9],.own 78 false [.bool false,.slice none 0 0]]):=Ext.more H (by simp)
 simp[HZ]
 refine aT.mk (PH (eJ.ext bK) (l3.ext bK) (by omega) (by omega)) ?_
 rintro v H1 ⟨J,l,ar,hv,iz⟩
 refine⟨J,?_⟩
 obtain⟨m,m2,rfl⟩:=ar.len
 simp
 refine aT.mk tR ?_
 rintro v aS ⟨bl,rfl⟩
 have cz:aS[H.length+2]?=some (.own 78 false [.bool false,.slice none 0 0]):=(J.aw bl).get_some (by simp)
 have aZ:=(cJ.1 cz).1
 have qv:=du.mk' rfl (ar.ext bl) hv (neg:= !(decide (a<0)==decide (b<0)))
 have aM:(if(!(decide (a<0)==decide (b<0)))=true then-(val l:Int)else(val l:Int))=a*b:=by
  rw[iz,an,dR]
  rcases Int.natAbs_eq a with aL | aL<;>rcases Int.natAbs_eq b with ag | ag<;>generalize a.natAbs=p at* <;>generalize b.natAbs=q at* <;>subst aL ag<;>by_cases aU:p=0<;>by_cases av:q=0<;>simp[aU,av,Int.mul_neg,Int.neg_mul]<;>omega
 rw[aM]at qv
 obtain⟨wU,LP⟩:∃wU,(!(decide (a<0)==decide (b<0))&&decide (0<l.length))=wU:=⟨_,rfl⟩
 simp[cz,List.getElem?_set_self aZ,dp,bd,-getElem?_pos]
 refine aC _ _ ⟨(bK.aw (J.aw bl)).set (by omega) (by simp),?_⟩
 have:=qv.set (X:= .own 78 false [.bool (!(decide (a<0)==decide (b<0))&&decide (0<l.length)),.slice m l.length m2]) cz (by simp[bO.elem?])
 simpa using this
theorem FY{v w:Value}{a b:Int}{H:ab}(bw:du H v a)(bD:du H w b)(a7:Fits a)(kz:Fits b):aO prog 67 [v,w] H (fun v H1=>Ext H H1/\v= .int .i64 (if a<b then-1 else if a=b then 0 else 1)):=by
 refine aO.b9 fun Q aC=>?_
 apply Yl (by simp)
 obtain⟨s1,b4,cB,cm,rfl⟩:=bw.shape
 obtain⟨s2,cM,cL,cI,rfl⟩:=bD.shape
 have bK:Ext H (H++[.own 78 false [.bool s1,.slice b4 cB cm],.own 78 false [.bool s2,.slice cM cL cI]]):=Ext.more H (by simp)
 simp[HY]
 refine aT.mk (Py (bw.ext bK) (bD.ext bK) a7 kz) ?_
 rintro v H1 ⟨J,an⟩
 simp
 refine aT.mk (Pq an) ?_
 rintro v aS ⟨bl,rfl⟩
 simp[bd]
 refine aC _ _ ⟨bK.aw (J.aw bl),?_⟩
 congr 1
 split<;>split<;>omega
def fA(H:ab)(v:Value)(n d:Int):Prop:=∃hF lA hs kl,v= .agg #[hF,lA,hs,kl]/\du H (.agg #[hF,lA]) n/\du H (.agg #[hs,kl]) d
theorem fA.ext{H H1:ab}{v:Value}{n d:Int}(h:fA H v n d)(J:Ext H H1):fA H1 v n d:=by
 obtain⟨hF,lA,hs,kl,o,aa,aA⟩:=h
 exact⟨hF,lA,hs,kl,o,aa.ext J,aA.ext J⟩
theorem fA.set{H:ab}{v:Value}{n d:Int}{b:Nat}{X Y:bO}(h:fA H v n d)(ag:H[b]?=some Y)(he:Y.elem?≠some 124):fA (H.set b X) v n d:=by
 obtain⟨hF,lA,hs,kl,o,aa,aA⟩:=h
 exact⟨hF,lA,hs,kl,o,aa.set ag he,aA.set ag he⟩
theorem fA.shape{H:ab}{v:Value}{n d:Int}(h:fA H v n d):∃s1 b4 cB cm s2 cM cL cI,v= .agg #[.bool s1,.slice b4 cB cm,.bool s2,.slice cM cL cI]/\du H (.agg #[.bool s1,.slice b4 cB cm]) n/\du H (.agg #[.bool s2,.slice cM cL cI]) d:=by
 obtain⟨hF,lA,hs,kl,o,aa,aA⟩:=h
 obtain⟨s1,b4,cB,cm,bk⟩:=aa.shape
 obtain⟨s2,cM,cL,cI,bp⟩:=aA.shape
 simp at bk bp
 obtain⟨rfl,rfl⟩:=bk
 obtain⟨rfl,rfl⟩:=bp
 exact⟨s1,b4,cB,cm,s2,cM,cL,cI,o,aa,aA⟩
theorem Tf{v:Value}{a:Int}{H:ab}(bw:du H v a):aO prog 104 [v] H (fun v H1=>Ext H H1/\fA H1 v a 1):=by
 refine aO.b9 fun Q aC=>?_
 apply Yj (by simp)
 obtain⟨s1,b4,cB,cm,rfl⟩:=bw.shape
 have bK:Ext H (H++[.own 78 false [.bool s1,.slice b4 cB cm],.own 80 false [.bool false,.slice none 0 0,.bool false,.slice none 0 0]]):=Ext.more H (by simp)
 simp[HW]
 refine aT.mk (v5 (by omega) (by omega)) ?_
 rintro v H1 ⟨J,an⟩
 refine⟨J,?_⟩
 obtain⟨lH,eM,hn,eQ,rfl⟩:=an.shape
 have cz:H1[H.length+1]?=some (.own 80 false [.bool false,.slice none 0 0,.bool false,.slice none 0 0]):=J.get_some (by simp)
 have aZ:=(cJ.1 cz).1
 simp[cz,List.getElem?_set_self aZ,dp,bd,-getElem?_pos]
 refine aC _ _ ⟨(bK.aw J).set (by omega) (by simp),?_⟩
 exact fA.set ⟨_,_,_,_,rfl,bw.ext (bK.aw J),an⟩ cz (by simp[bO.elem?])
theorem afa{n:Int}{H:ab}(o: -9223372036854775808<=n)(aa:n<9223372036854775808):aO prog 59 [.int .i64 n] H (fun v H1=>Ext H H1/\fA H1 v n 1):=by
 refine aO.b9 fun Q aC=>?_
 apply YE (by simp)
 have bK:Ext H (H++[.own 80 false [.bool false,.slice none 0 0,.bool false,.slice none 0 0]]):=Ext.more H (by simp)
 simp[H8]
 refine aT.mk (v5 o aa) ?_
 rintro v H1 ⟨J,an⟩
 simp
 refine aT.mk (v5 (by omega) (by omega)) ?_
 rintro v aS ⟨bl,jb⟩
 obtain⟨s1,b4,cB,cm,rfl⟩:=an.shape
 obtain⟨lH,eM,hn,eQ,rfl⟩:=jb.shape
 have cz:aS[H.length]?=some (.own 80 false [.bool false,.slice none 0 0,.bool false,.slice none 0 0]):=(J.aw bl).get_some (by simp)
 have aZ:=(cJ.1 cz).1
 simp[cz,List.getElem?_set_self aZ,dp,bd,-getElem?_pos]
 refine aC _ _ ⟨(bK.aw (J.aw bl)).set (by omega) (by simp),?_⟩
 exact fA.set ⟨_,_,_,_,rfl,an.ext bl,jb⟩ cz (by simp[bO.elem?])
theorem F2{v:Value}{n d:Int}{H:ab}(bw:fA H v n d)(aD:0<d):aO prog 79 [v] H (fun v H1=>Ext H H1/\v= .bool (decide (d=1))):=by
 refine aO.b9 fun Q aC=>?_
 apply Yx (by simp)
 obtain⟨s1,b4,cB,cm,s2,cM,cL,cI,rfl,bP,ej⟩:=bw.shape
 obtain⟨x,iQ,l,he,eJ,bf,an⟩:=ej
 simp at he
 obtain⟨rfl,rfl,rfl,rfl⟩:=he
 simp[H5]
 refine bs.bZ (fun h=>?_) (fun h=>?_)
 ·obtain⟨b,i,cap,X,all,he,aW,ae,-,lu⟩:=eJ.at (by omega)
  cases he
  have Ew:=nI aW [.own 80 false [.bool s1,.slice b4 cB cm,.bool (decide (d<0)),.slice (some ⟨b,i,none⟩) l.length cI]]
  obtain⟨y,rfl⟩:=List.length_eq_one_iff.1 (show l.length=1 by omega)
  have aI:=lu 0 (by simp)
  simp at aI
  simp[val]at an
  simp[nI aW,ae,aI,bd,-getElem?_pos]
  refine aC _ _ ⟨Ext.more H (by simp),?_⟩
  congr 1
  simp
  omega
 ·simp[h,bd]
  refine aC _ _ ⟨Ext.more H (by simp),?_⟩
  have:d≠1:=fun e=>by
   subst e
   have o:=bf.length_le (n:=1) (by rw[an];decide)
   have:=bf.pos
   omega
  simp[this]
theorem abg{v:Value}{n d:Int}{H:ab}(bw:fA H v n d):aO prog 75 [v] H (fun v H1=>Ext H H1/\v= .int .i64 (if n<0 then-1 else if n=0 then 0 else 1)):=by
 refine aO.b9 fun Q aC=>?_
 apply YB (by simp)
 obtain⟨s1,b4,cB,cm,s2,cM,cL,cI,rfl,bP,ej⟩:=bw.shape
 have bK:Ext H (H++[.own 80 false [.bool s1,.slice b4 cB cm,.bool s2,.slice cM cL cI]]):=Ext.more H (by simp)
 simp[H7]
 refine aT.mk (Pq (bP.ext bK)) ?_
 rintro v H1 ⟨J,rfl⟩
 simp[bd]
 exact aC _ _ ⟨bK.aw J,rfl⟩
theorem OE{v:Value}{n d:Int}{H:ab}(bw:fA H v n d):aO prog 36 [v] H (fun v H1=>Ext H H1/\du H1 v n):=by
 refine aO.b9 fun Q aC=>?_
 apply YA (by simp)
 obtain⟨s1,b4,cB,cm,s2,cM,cL,cI,rfl,bP,ej⟩:=bw.shape
 simp[H6,dp,bd]
 have bK:Ext H (H++[.own 80 false [.bool s1,.slice b4 cB cm,.bool s2,.slice cM cL cI],.own 78 false [.bool s1,.slice b4 cB cm]]):=Ext.more H (by simp)
 exact aC _ _ ⟨bK,bP.ext bK⟩
def qN(a b:Int):Int:=IntKind.u64.wrap ((BitVec.ofInt 64 a ||| BitVec.ofInt 64 b).toNat:Int)
@[simp high] theorem aj9(P:Program)(t:Nat)(a b:Int):eh P .or t (.int .u64 a) (.int .u64 b)=some (.int .u64 (qN a b)):=Pm
theorem v9{r x:Nat}(al:r<4294967296)(J:x<4294967296):qN ((r*4294967296:Nat):Int) (x:Int)=((r*4294967296+x:Nat):Int):=by
 unfold qN
 have o:(BitVec.ofInt 64 ((r*4294967296:Nat):Int) ||| BitVec.ofInt 64 (x:Int)).toNat=r*4294967296+x:=by
  rw[BitVec.ofInt_natCast,BitVec.ofInt_natCast,BitVec.toNat_or,BitVec.toNat_ofNat,BitVec.toNat_ofNat,Nat.mod_eq_of_lt (by omega),Nat.mod_eq_of_lt (by omega)]
  have:=Nat.two_pow_add_eq_or_of_lt (i:=32) (b:=x) J r
  rw[Nat.mul_comm]at this
  exact this.symm
 rw[o]
 exact gv (by omega) (by omega)
@[simp high] theorem ake(P:Program)(t:Nat)(a:Int):eh P .shl t (.int .u64 a) (.int .u64 32)=some (.int .u64 (IntKind.u64.wrap (a*4294967296))):=by
 rw[abw,if_neg (by decide)]
 rfl
theorem uj(l:List Nat)(i:Nat)(af:i<l.length):val (l.drop i)=l[i]?.getD 0+4294967296*val (l.drop (i+1)):=by
 rw[List.drop_eq_getElem_cons af,bz af]
 rfl
theorem J6{v:Value}{a:List Nat}{w:Nat}{H:ab}(bw:db H 124 v a)(kD:a.length<1048576)(qA:0<w)(hw:w<4294967296):
  aO prog 107 [v,.int .u32 w] H (fun au H1=>Ext H H1/\∃q l,au= .tuple #[q,.int .u32 (val a % w:Nat)]/\db H1 124 q l/\Trim l/\val l=val a/w):=by
 refine aO.b9 fun Q aC=>?_
 apply YF (by simp)
 obtain⟨x,iQ,rfl⟩:=bw.len
 have gW:IntKind.u64.wrap (w:Int)=(w:Int):=gv (by omega) (by omega)
 by_cases qc:a.length=0
 ·have xB:a=[]:=List.eq_nil_of_length_eq_zero qc
  subst xB
  simp only[C9]
  rw[cQ]
  simp[-cQ]
  rw[cQ]
  simp[-cQ]
  refine CC (e:=124) (R:=1) (bF:=4) (eK:= .i64) (cX:= .i64) (by simp) (by simp) (by simp) (by simp) (by simp) ?_
  simp(disch:=omega)[b8]
  refine k_.mk (ai:=fun n az H1=>H=H1/\az 8= .int .i64 (-1)/\az 6= .slice (some ⟨0,0,none⟩) 0 0/\az 7= .int .u64 0) 0 ⟨rfl,by simp,by simp,by simp⟩ ?_
  rintro n az H1 ⟨rfl,js,gH,ll⟩ K aV
  simp[gH,ll,js]
  refine aT.mk (mm (l:=[]) ⟨ey.void H _ _ _,by simp⟩ (by simp)) ?_
  rintro v H1 ⟨rfl,dn,dK,bf,dR,-⟩
  simp[bd,ll,oY]
  refine aC _ _ ⟨Ext.refl _,v,dn,by simp[val],dK,bf,by simpa[val]using dR⟩
 simp only[C9]
 rw[cQ]
 simp[-cQ]
 rw[cQ]
 simp(disch:=omega)[b8,-cQ]
 refine zn (e:=124) (R:=1) (bF:=4) (eK:= .i64) (cX:= .i64) (l:=a.length) (c:=a.length) (z:= .int .u32 0) (by simp) (by simp) (by simp) (by simp) (by rfl) (by rfl) (by simp) (by simp) (by omega) (by omega) (Nat.le_refl _) (by omega) (by omega) ?_
 simp[-cQ,qL]
 rw[cQ]
 simp[-cQ]
 rw[cQ]
 refine hd.cut (fun az H1=>az 6= .slice (some ⟨H.length,0,none⟩) a.length a.length/\∃(out:List Nat) (r:Nat),H1=H++[.own 124 false (out.map fun(x:Nat)=>Value.int .u32 (x:Int))]/\out.length=a.length/\(∀x∈out,x<4294967296)/\az 7= .int .u64 r/\r<w/\val a=val out*w+r) ?_ ?_
 ·intro K aV
  simp(disch:=omega)[b8]
  refine k_.mk (ai:=fun n az H1=>n<=a.length/\az 0= .slice x a.length iQ/\az 1= .int .u32 w/\az 8= .int .i64 ((n:Int)-1)/\az 6= .slice (some ⟨H.length,0,none⟩) a.length a.length/\∃(out:List Nat) (r:Nat),H1=H++[.own 124 false (out.map fun(x:Nat)=>Value.int .u32 (x:Int))]/\out.length=a.length/\(∀x∈out,x<4294967296)/\az 7= .int .u64 r/\r<w/\val (a.drop n)=val (out.drop n)*w+r) a.length ?_ ?_
  ·refine⟨Nat.le_refl _,by simp,by simp,by simp,by simp,List.replicate a.length 0,0,by simp,by simp,by simp,by simp,qA,?_⟩
   rw[List.drop_eq_nil_of_le (by simp),List.drop_eq_nil_of_le (by simp)]
   simp[val]
  ·rintro n az H1 ⟨aJ,cz,cr,js,gH,out,r,rfl,dQ,jy,ll,al,an⟩ er jN
   simp[js]
   refine bs.bZ (fun aU=>?_) (fun aU=>?_)
   ·obtain⟨hs,i1,wY,zQ,zT,j_,oj,l7,-,pn⟩:=bw.at (by omega)
    cases j_
    have bk:((n:Int)-1).toNat=n-1:=by omega
    obtain⟨p,rR⟩:∃p,a[n-1]?.getD 0=p:=⟨_,rfl⟩
    have iN:p<4294967296:=rR▸bw.lt _
    have ka:=pn (n-1) (by omega)
    rw[rR]at ka
    obtain⟨s,ao⟩:∃s,r*4294967296=s:=⟨_,rfl⟩
    have kX:IntKind.u64.wrap ((r:Int)*4294967296)=(s:Int):=by
     rw[gv (by omega) (by omega)]
     omega
    have aY:=v9 (r:=r) (by omega) iN
    rw[ao]at aY
    obtain⟨t,bM⟩:∃t,s+p=t:=⟨_,rfl⟩
    rw[bM]at aY
    obtain⟨q,av⟩:∃q,t/w=q:=⟨_,rfl⟩
    obtain⟨m,hm⟩:∃m,t % w=m:=⟨_,rfl⟩
    have np:=Nat.div_add_mod t w
    rw[av,hm]at np
    have eG:m<w:=hm▸Nat.mod_lt _ qA
    have rT:q<4294967296:=by
     rw[<-av]
     refine(Nat.div_lt_iff_lt_mul qA).2 ?_
     have:(r+1)*4294967296<=w*4294967296:=Nat.mul_le_mul_right _ al
     rw[Nat.mul_comm 4294967296]
     omega
    have vL:(t:Int).tdiv w=(q:Int):=by rw[<-av];rfl
    have Nb:(t:Int).tmod w=(m:Int):=by rw[<-hm];rfl
    have Bp:IntKind.u64.wrap (q:Int)=(q:Int):=gv (by omega) (by omega)
    have MY:IntKind.u32.wrap (q:Int)=(q:Int):=mr (by omega) (by omega)
    have Fc:IntKind.u64.wrap (p:Int)=(p:Int):=gv (by omega) (by omega)
    have No:¬(w=0):=by omega
    simp[cz,js,ll,kX]
    refine dI.mk ⟨by omega,by omega⟩ ?_
    simp[cz,js,ll,gH,cr,bk,nI oj,l7,ka,-getElem?_pos,Fc,kX,aY,gW,vL,Nb,Bp,MY,No]
    refine dI.mk ⟨by omega,by omega⟩ ?_
    simp(disch:=omega)[cz,js,ll,gH,cr,bk,nI oj,l7,ka,-getElem?_pos,Fc,kX,aY,gW,vL,Nb,Bp,MY,No,b8]
    refine dI.mk (by omega) ?_
    simp(disch:=omega)[js,b8]
    refine jN (n-1) _ _ (by omega) ⟨by omega,by simp[cz],by simp[cr],by simp;omega,by simp[gH],out.set (n-1) q,m,by simp[List.map_set],by simp[dQ],?_,by simp,eG,?_⟩
    ·intro z aM
     rcases List.mem_or_eq_of_mem_set aM with aM | rfl
     ·exact jy z aM
     ·exact rT
    ·rw[uj a (n-1) (by omega),uj (out.set (n-1) q) (n-1) (by simp;omega),rR,Nat.sub_add_cancel (by omega),an,List.drop_set_of_lt (by omega),List.getElem?_set_self (by omega)]
     simp only[Option.getD_some]
     have bJ:s+p=w*q+m:=by omega
     grind
   ·simp
    have:n=0:=by omega
    subst this
    exact aV _ _ ⟨by simp[gH],out,r,rfl,dQ,jy,by simp[ll],al,by simpa using an⟩
 ·rintro az H1 ⟨gH,out,r,rfl,dQ,jy,ll,al,an⟩
  have eJ:=db.fresh H 124 out a.length a.length (Nat.le_refl _) dQ jy false
  have fO:IntKind.u32.wrap (r:Int)=(r:Int):=mr (by omega) (by omega)
  rw[cQ]
  simp[gH,-cQ]
  refine aT.mk (mm eJ (by simp[dQ];omega)) ?_
  rintro v H1 ⟨rfl,dn,dK,bf,dR,-⟩
  simp[bd,ll,fO]
  rw[<-dQ,List.take_length]at dR
  have o:val a/w=val out:=by rw[an,Nat.mul_comm,Nat.mul_add_div qA,Nat.div_eq_of_lt al,Nat.add_zero]
  have aa:val a % w=r:=by rw[an,Nat.mul_comm,Nat.mul_add_mod,Nat.mod_eq_of_lt al]
  exact aC _ _ ⟨(Ext.refl H).snoc _ _ _,v,dn,by rw[aa],dK,bf,by rw[dR,o]⟩
theorem BO{v bc af:Int}{H:ab}:aO prog 39 [.int .i64 v,.int .i64 bc,.int .i64 af] H (fun w H1=>H1=H/\w= .bool (decide (bc<=v/\v<=af))):=by
 refine aO.b9 fun Q aC=>?_
 apply YY (by simp)
 simp[Ic]
 refine bs.bZ (fun h=>?_) (fun h=>?_)
 ·simp[h,bd]
  exact aC _ _ ⟨rfl,by simp[h]⟩
 ·simp[h,bd]
  exact aC _ _ ⟨rfl,by simp[h]⟩
theorem afb{x:Int}{H:ab}:aO prog 64 [.int .i64 x] H (fun w H1=>H1=H/\w= .bool (decide (x<0\/1000<x))):=by
 refine aO.b9 fun Q aC=>?_
 apply Zf (by simp)
 simp[Ij]
 refine bs.bZ (fun h=>?_) (fun h=>?_)
 ·simp[h,bd]
  exact aC _ _ ⟨rfl,by simp[h]⟩
 ·simp[h,bd]
  exact aC _ _ ⟨rfl,by simp[h]⟩
def kO(H:ab)(v:Value)(l:List Int):Prop:=ey H 3 1 v l.length (l.map (Value.int .i64))
theorem kO.ext{H H1:ab}{v:Value}{l:List Int}(h:kO H v l)(J:Ext H H1):kO H1 v l:=ey.ext h J
theorem kO.at{H:ab}{v:Value}{l:List Int}(h:kO H v l)(aJ:0<l.length):∃b i cap X all,v= .slice (some ⟨b,i,none⟩) l.length cap/\H[b]?=some X/\X.cells?=some all/\∀k,k<l.length->all[i+k]?=some (.int .i64 (l[k]?.getD 0)):=by
 obtain⟨b,i,cap,X,all,o,aa,aA,bj,bJ⟩:=ey.at h aJ
 refine⟨b,i,cap,X,all,o,aa,aA,fun k ak=>?_⟩
 rw[bJ k (by omega),List.getElem?_map,bz ak]
 simp
theorem kO.len{H:ab}{v:Value}{l:List Int}(h:kO H v l):∃a cap,v= .slice a l.length cap:=ey.len h
theorem XH{v:Value}{l:List Int}{H:ab}(dj:kO H v l)(ar:l.length<4611686018427387904):
  aO prog 91 [v,.func (.func 64) #[] #[]] H (fun w H1=>H1=H/\∃n:Int,w= .int .i64 n/\(0<=n↔∃x∈l,x<0\/1000<x)):=by
 refine aO.b9 fun Q aC=>?_
 apply Zl (by simp)
 obtain⟨a,cap,rfl⟩:=dj.len
 simp[Io]
 refine k_.mk (ai:=fun n az H1=>∃i:Nat,n=l.length-i/\i<=l.length/\H=H1/\az 0= .slice a l.length cap/\az 1= .func (.func 64) #[] #[]/\az 7= .int .i64 l.length/\az 8= .int .i64 i/\∀x∈l.take i,¬(x<0\/1000<x)) l.length ?_ ?_
 ·exact⟨0,by omega,by omega,rfl,by simp,by simp,by simp,by simp,by simp⟩
 ·rintro n az H1 ⟨i,rfl,af,rfl,cz,cr,ll,js,ev⟩ K aV
  simp[ll,js]
  refine bs.bZ (fun aZ=>?_) (fun aZ=>?_)
  ·obtain⟨b,U,dJ,X,all,he,aW,ae,lu⟩:=dj.at (by omega)
   cases he
   simp[cz,cr,js]
   refine dI.mk (by omega) ?_
   simp[cz,cr,js,aW,ae,lu _ aZ]
   refine aT.mk afb ?_
   rintro v H1 ⟨rfl,rfl⟩
   simp
   have gg:l[i]?.getD 0∈l:=by rw[bz aZ];exact List.getElem_mem aZ
   refine bs.mk (fun hw=>?_) (fun hw=>?_)
   ·simp[bd]
    refine aC _ _ ⟨rfl,i,rfl,?_⟩
    simp at hw
    exact⟨fun _=>⟨_,gg,by omega⟩,fun _=>by omega⟩
   ·simp(disch:=omega)[js,b8]
    refine aV (l.length-(i+1)) _ _ (by omega) ⟨i+1,by omega,by omega,rfl,by simp[cz],by simp[cr],by simp[ll],by simp,?_⟩
    intro x J
    rw[List.take_succ_eq_append_getElem aZ]at J
    rcases List.mem_append.1 J with J | J
    ·exact ev x J
    ·simp at J
     simp at hw
     rw[bz aZ]at hw
     subst J
     simpa using hw
  ·simp[bd]
   have:i=l.length:=by omega
   subst this
   rw[List.take_length]at ev
   exact aC _ _ ⟨rfl,-1,rfl,by simp;intro x J;have:=ev x J;omega⟩
theorem RH{v:Value}{l:List Int}{H:ab}(dj:kO H v l)(ar:l.length<4611686018427387904):
  aO prog 63 [v,.func (.func 64) #[] #[]] H (fun w H1=>H1=H/\w= .bool (decide (∃x∈l,x<0\/1000<x))):=by
 refine aO.b9 fun Q aC=>?_
 apply Zi (by simp)
 simp[Il]
 refine aT.mk (XH dj ar) ?_
 rintro v H1 ⟨rfl,n,rfl,aJ⟩
 simp[bd]
 exact aC _ _ ⟨rfl,by simp[aJ]⟩
def kt(H:ab)(v:Value)(t:List (List Int)):Prop:=∃aG:List Value,ey H 34 1 v t.length aG/\aG.length=t.length/\∀i,i<t.length->kO H (aG[i]?.getD undef) (t[i]?.getD [])
theorem kt.ext{H H1:ab}{v:Value}{t:List (List Int)}(h:kt H v t)(J:Ext H H1):kt H1 v t:=by
 obtain⟨aG,o,aa,aA⟩:=h
 exact⟨aG,o.ext J,aa,fun i af=>(aA i af).ext J⟩
theorem kt.len{H:ab}{v:Value}{t:List (List Int)}(h:kt H v t):∃a cap,v= .slice a t.length cap:=by
 obtain⟨aG,o,-⟩:=h
 exact o.len
theorem kt.at{H:ab}{v:Value}{t:List (List Int)}(h:kt H v t)(aJ:0<t.length):∃b i cap X all,v= .slice (some ⟨b,i,none⟩) t.length cap/\H[b]?=some X/\X.cells?=some all/\∀k,k<t.length->∃a c,all[i+k]?=some (.slice a (t[k]?.getD []).length c)/\kO H (.slice a (t[k]?.getD []).length c) (t[k]?.getD []):=by
 obtain⟨aG,o,aa,aA⟩:=h
 obtain⟨b,i,cap,X,all,bk,bp,e0,mD,pb⟩:=o.at aJ
 refine⟨b,i,cap,X,all,bk,bp,e0,fun k ak=>?_⟩
 have oD:=aA k ak
 obtain⟨a,c,an⟩:=oD.len
 refine⟨a,c,?_,an▸oD⟩
 rw[pb k (by omega),<-an,bz (by omega)]
 simp
def lV(n:Nat)(r:List Int):Bool:=decide (r.length≠n) || decide (∃x∈r,x<0\/1000<x)
theorem abf{v w:Value}{r:List Int}{t:List (List Int)}{H:ab}{cq:Nat}(br:kO H w r)(bf:kt H v t)(bM:0<t.length)(vr:H[cq]?=some (.own 22 false [v]))(ar:r.length<4611686018427387904):
  aO prog 62 [w,.pointer (some ⟨cq,0,none⟩)] H (fun u H1=>H1=H/\u= .bool (lV (t[0]?.getD []).length r)):=by
 refine aO.b9 fun Q aC=>?_
 apply Ze (by simp)
 obtain⟨a,cap,rfl⟩:=br.len
 obtain⟨b,i,dJ,X,all,rfl,aW,ae,lu⟩:=bf.at bM
 obtain⟨zR,sU,aH,-⟩:=lu 0 bM
 simp[Ii,vr,-getElem?_pos]
 refine dI.mk (by omega) ?_
 simp only[Nat.add_zero]at aH
 simp[vr,aW,ae,aH,-getElem?_pos]
 refine bs.bZ (fun h=>?_) (fun h=>?_)
 ·simp[h]
  refine aT.mk (RH br ar) ?_
  rintro u H1 ⟨rfl,rfl⟩
  simp[bd]
  refine aC _ _ ⟨rfl,?_⟩
  simp[lV]
  intro cF
  exact absurd (by omega) cF
 ·simp[h,bd]
  refine aC _ _ ⟨rfl,?_⟩
  simp[lV]
  exact .inl (by omega)
theorem XG{v:Value}{t:List (List Int)}{H:ab}{cq:Nat}(bf:kt H v t)(bM:0<t.length)(vr:H[cq]?=some (.own 22 false [v]))(ar:t.length<4611686018427387904)(al:∀r∈t,r.length<4611686018427387904):
  aO prog 90 [v,.func (.func 62) #[] #[.pointer (some ⟨cq,0,none⟩)]] H (fun w H1=>H1=H/\∃n:Int,w= .int .i64 n/\(0<=n↔∃r∈t,lV (t[0]?.getD []).length r=true)):=by
 refine aO.b9 fun Q aC=>?_
 apply Zk (by simp)
 obtain⟨b,U,cap,X,all,rfl,aW,ae,lu⟩:=bf.at bM
 simp[Im]
 refine k_.mk (ai:=fun n az H1=>∃i:Nat,n=t.length-i/\i<=t.length/\H=H1/\az 0= .slice (some ⟨b,U,none⟩) t.length cap/\az 1= .func (.func 62) #[] #[.pointer (some ⟨cq,0,none⟩)]/\az 7= .int .i64 t.length/\az 8= .int .i64 i/\∀r∈t.take i,¬(lV (t[0]?.getD []).length r=true)) t.length ?_ ?_
 ·exact⟨0,by omega,by omega,rfl,by simp,by simp,by simp,by simp,by simp⟩
 ·rintro n az H1 ⟨i,rfl,af,rfl,cz,cr,ll,js,ev⟩ K aV
  simp[ll,js]
  refine bs.bZ (fun aZ=>?_) (fun aZ=>?_)
  ·obtain⟨b4,cm,o,dj⟩:=lu i aZ
   simp[cz,cr,js]
   refine dI.mk (by omega) ?_
   simp[cz,cr,js,aW,ae,o,-getElem?_pos]
   have gg:t[i]?.getD []∈t:=by rw[bz aZ];exact List.getElem_mem aZ
   refine aT.mk (abf dj bf bM vr (al _ gg)) ?_
   rintro v H1 ⟨rfl,rfl⟩
   simp
   refine bs.mk (fun hw=>?_) (fun hw=>?_)
   ·simp[bd]
    exact aC _ _ ⟨rfl,i,rfl,fun _=>⟨_,gg,hw⟩,fun _=>by omega⟩
   ·simp(disch:=omega)[js,b8]
    refine aV (t.length-(i+1)) _ _ (by omega) ⟨i+1,by omega,by omega,rfl,by simp[cz],by simp[cr],by simp[ll],by simp,?_⟩
    intro x J
    rw[List.take_succ_eq_append_getElem aZ]at J
    rcases List.mem_append.1 J with J | J
    ·exact ev x J
    ·simp at J
     rw[bz aZ]at hw
     subst J
     simpa using hw
  ·simp[bd]
   have:i=t.length:=by omega
   subst this
   rw[List.take_length]at ev
   refine aC _ _ ⟨rfl,-1,rfl,?_⟩
   constructor
   ·intro h;omega
   ·rintro⟨r,o,aa⟩
    exact absurd aa (ev r o)
theorem RG{v:Value}{t:List (List Int)}{H:ab}{cq:Nat}(bf:kt H v t)(bM:0<t.length)(vr:H[cq]?=some (.own 22 false [v]))(ar:t.length<4611686018427387904)(al:∀r∈t,r.length<4611686018427387904):
  aO prog 61 [v,.func (.func 62) #[] #[.pointer (some ⟨cq,0,none⟩)]] H (fun w H1=>H1=H/\w= .bool (decide (∃r∈t,lV (t[0]?.getD []).length r=true))):=by
 refine aO.b9 fun Q aC=>?_
 apply Zh (by simp)
 simp[Ik]
 refine aT.mk (XG bf bM vr ar al) ?_
 rintro v H1 ⟨rfl,n,rfl,aJ⟩
 simp[bd]
 refine aC _ _ ⟨rfl,?_⟩
 congr 1
 exact decide_eq_decide.2 aJ
def g0(t:List (List Int)):Prop:=1<=t.length/\t.length<=8/\1<=(t[0]?.getD []).length/\(t[0]?.getD []).length<=8/\∀r∈t,lV (t[0]?.getD []).length r=false
instance(t:List (List Int)):Decidable (g0 t):=by unfold g0;infer_instance
theorem Hk{v:Value}{t:List (List Int)}{H:ab}(bf:kt H v t)(ar:t.length<4611686018427387904)(al:∀r∈t,r.length<4611686018427387904):
  aO prog 31 [v] H (fun w H1=>Ext H H1/\w= .bool (decide (g0 t))):=by
 refine aO.b9 fun Q aC=>?_
 apply Zd (by simp)
 obtain⟨a,cap,rfl⟩:=bf.len
 have J:Ext H (H++[.own 22 false [.slice a t.length cap]]):=Ext.more H (by simp)
 have no:¬g0 t->Q (.bool false) (H++[.own 22 false [.slice a t.length cap]]):=fun h=>aC _ _ ⟨J,by simp[h]⟩
 simp[Ih]
 refine bs.bZ (fun o=>?_) (fun o=>?_)
 ·simp[o,bd]
  exact no fun h=>by have:=h.1;omega
 ·obtain⟨b,i,dJ,X,all,he,aW,ae,lu⟩:=bf.at (by omega)
  cases he
  obtain⟨zR,sU,aH,-⟩:=lu 0 (by omega)
  simp only[Nat.add_zero]at aH
  simp[o]
  refine bs.bZ (fun aa=>?_) (fun aa=>?_)
  ·simp[o,aa,bd]
   exact no fun h=>by have:=h.2.1;omega
  ·simp[o,aa]
   refine dI.mk (by omega) ?_
   simp[o,aa,nI aW,ae,aH,-getElem?_pos]
   refine bs.bZ (fun aA=>?_) (fun aA=>?_)
   ·simp[aA,bd]
    exact no fun h=>by have:=h.2.2.1;omega
   ·simp[aA]
    refine dI.mk (by omega) ?_
    simp[aA,nI aW,ae,aH,-getElem?_pos]
    refine bs.bZ (fun bj=>?_) (fun bj=>?_)
    ·simp[bj,bd]
     exact no fun h=>by have:=h.2.2.2.1;omega
    ·simp[bj]
     refine aT.mk (RG (cq:=H.length) (bf.ext J) (by omega) (by simp) ar al) ?_
     rintro u H1 ⟨rfl,rfl⟩
     simp[bd]
     refine aC _ _ ⟨J,?_⟩
     have:g0 t↔¬(∃r∈t,lV (t[0]?.getD []).length r=true):=by
      constructor
      ·rintro⟨-,-,-,-,h⟩ ⟨r,a0,a4⟩
       rw[h r a0]at a4
       cases a4
      ·intro h
       refine⟨by omega,by omega,by omega,by omega,fun r q=>?_⟩
       cases ag:lV (t[0]?.getD []).length r with
       | false=>rfl
       | true=>exact absurd ⟨r,q,ag⟩ h
     have e:decide (g0 t)= !decide (∃r∈t,lV (t[0]?.getD []).length r=true):=by
      rw[<-decide_not]
      exact decide_eq_decide.2 this
     rw[e]
end Go.dq
end
section
set_option maxRecDepth 8000
namespace Go.dq
theorem du.kept{H aF:ab}{e:Nat}{s v:Value}{z:Int}(h:du H v z)(ak:Kept H aF s e)(cF:124≠e):du aF v z:=by
 obtain⟨a,c,l,o,aa,aA⟩:=h
 exact⟨a,c,l,o,⟨aa.1.kept ak cF,aa.2⟩,aA⟩
theorem fA.kept{H aF:ab}{e:Nat}{s v:Value}{n d:Int}(h:fA H v n d)(ak:Kept H aF s e)(cF:124≠e):fA aF v n d:=by
 obtain⟨hF,lA,hs,kl,o,aa,aA⟩:=h
 exact⟨hF,lA,hs,kl,o,aa.kept ak cF,aA.kept ak cF⟩
end Go.dq
end
section
set_option maxRecDepth 8000
namespace Go.dq
open Go.Proofs
open Go.Proofs.Tryz (prog)
end Go.dq
end
section
set_option maxRecDepth 8000
namespace Go.dq
open Go.Proofs
open Go.Proofs.Tryz (prog)
attribute [-simp] il jk
def gp(H:ab)(v:Value)(n:Nat):Prop:=v= .int .u32 (n:Int)/\n<4294967296
instance:b7 gp:=⟨fun h _=>h⟩
theorem db.row{H:ab}{e:Nat}{v:Value}{l:List Nat}(h:db H e v l):Row e 1 false gp H v l:=⟨_,h.1,fun i x af=>⟨by simp[eA,List.getElem?_map,af],h.2 x (List.mem_of_getElem? af)⟩⟩
theorem Qi{cs:List Value}{l:List Nat}(ar:cs.length=l.length*1)(h:∀H i x,l[i]?=some x->gp H (eA false 1 cs i) x):cs=l.map fun(n:Nat)=>Value.int .u32 (n:Int):=by
 apply List.ext_getElem?
 intro i
 rw[List.getElem?_map]
 by_cases af:i<l.length
 ·have:=(h [] i _ (bz af)).1
  simp only[eA,Bool.false_eq_true,if_false]at this
  rw[bz af]
  rw[bz (by omega)]at this⊢
  simpa using this
 ·rw[List.getElem?_eq_none (by omega),List.getElem?_eq_none (by omega)];rfl
theorem Row.us{H:ab}{e:Nat}{v:Value}{l:List Nat}(h:Row e 1 false gp H v l):db H e v l:=by
 obtain⟨cs,o,aa⟩:=h
 obtain⟨a,cap,an,aA,bj,bJ⟩:=o
 have:=Qi bj (fun _ i x af=>aa i x af)
 subst this
 exact⟨⟨a,cap,an,aA,bj,bJ⟩,fun x J=>by obtain⟨i,af⟩:=List.getElem?_of_mem J;exact(aa i x af).2⟩
theorem Hr:Whole prog 124 (.int .u32 0):=⟨by kernel_rfl,by kernel_rfl,by rw[if_neg (by decide)];exact⟨by kernel_rfl,rfl⟩⟩
theorem zx(n:Int):Whole prog 124 (.int .u32 n):=⟨by kernel_rfl,rfl,by rw[if_neg (by simp[eS])];exact⟨by kernel_rfl,rfl⟩⟩
def Gj(a b:Int):Int:=IntKind.u32.wrap ((BitVec.ofInt 32 a ||| BitVec.ofInt 32 b).toNat:Int)
@[simp high] theorem aj8(P:Program)(t:Nat)(a b:Int):eh P .or t (.int .u32 a) (.int .u32 b)=some (.int .u32 (Gj a b)):=Pm
theorem Qm{v:Value}{x:List Nat}{n:Nat}{H:ab}(aW:db H 124 v x)(ar:x.length<1048576)(aJ:n<32):
  aO prog 124 [v,.int .i64 n] H (fun au H1=>Ext H H1/\∃out,bH H.length 124 1 false gp H1 au out/\out.length=x.length+1/\val out=val x*2^n):=by
 refine aO.b9 fun Q aC=>?_
 apply YR (by simp)
 simp[Jd]
 refine ck (by simpa using aW.row) (by simp) ?_
 simp(disch:=omega)[b8]
 refine su (e:=124) (R:=1) (bF:=4) (n:=x.length+1) (ay:=false) (z:= .int .u32 0) (ad:=gp) (a:=0) (eK:= .i64) (cX:= .i64) (by simp) (by simp) (by simp) (by simp) (by rfl) (by simp) Hr (by simp) (by simp) (by omega) (by omega) (by omega) (fun aF=>⟨rfl,by decide⟩) ?_
 rintro U H1 cw bq-
 simp
 refine ck (by simpa using(aW.ext bq).row) (by simp) ?_
 simp
 refine c7.range (by kernel_rfl) x.length (by omega) (by simp) (by rfl) (by simp) (by decide) (by decide) (fun i bR c4 aS=>Ext H aS/\∃out:List Nat,bH H.length 124 1 false gp aS U out/\out.length=x.length+1/\val (out.take (i+1))=val (x.take i)*2^n/\out[i]?.getD 0<2^n/\∀j,i<j->out[j]?.getD 0=0) ?_ ?_ ?_
 ·exact⟨bq,List.replicate (x.length+1) 0,cw,by simp,by simp[List.take_replicate,Hh,val],by simp[Nat.pow_pos],fun j aY=>by rw[List.getElem?_replicate];split<;>rfl⟩
 ·rintro i bR c4 aS af a_ ⟨bl,out,gI,dQ,hk,aZ,aM⟩ K aV
  simp at a_
  simp[a_]
  refine cv (ad:=gp) (n:=i) (by simpa using(aW.ext bl).row) (by simp[a_]) (bz af) (by simp) (by simp) (by simp) (.inr rfl) ?_
  rintro p u ⟨rfl,hu⟩
  obtain⟨y,aI⟩:∃y,x[i]=y:=⟨_,rfl⟩
  rw[aI]at hu
  have yD:x[i]?.getD 0=y:=by rw[bz af,aI];rfl
  have aik:2^n<=2^31:=Nat.pow_le_pow_right (by decide) (by omega)
  obtain⟨t,bM⟩:∃t,y*2^n=t:=⟨_,rfl⟩
  have me:t<4294967296*2^n:=by rw[<-bM];exact Nat.mul_lt_mul_of_pos_right hu (Nat.pow_pos (by decide))
  have Fo:(y:Int)*2^n=(t:Int):=by rw[<-bM];push_cast;rfl
  have kX:IntKind.u64.wrap ((y:Int)*2^n)=(t:Int):=by rw[Fo,gv (by omega) (by omega)]
  have r3:IntKind.u64.wrap (y:Int)=(y:Int):=gv (by omega) (by omega)
  have E6:min n 64=n:=by omega
  have jX:¬((n:Int)<0):=by omega
  simp[aI,r3,E6,jX,kX,a_]
  refine cv (ad:=gp) (n:=i) (by simpa using gI.row) (by simp) (bz (show i<out.length by omega)) (by simp) (by simp) (by simp) (.inr rfl) ?_
  rintro gi kq ⟨rfl,oM⟩
  have cO:out[i]?.getD 0=out[i]:=by rw[bz (by omega)];rfl
  rw[cO]at aZ
  generalize out[i]'(by omega)=h at*
  obtain⟨fI,WS⟩:∃fI,t % 4294967296=fI:=⟨_,rfl⟩
  obtain⟨m6,ajn⟩:∃m6,t/4294967296=m6:=⟨_,rfl⟩
  obtain⟨s,ao⟩:∃s,h+fI=s:=⟨_,rfl⟩
  have WR:IntKind.u32.wrap (t:Int)=(fI:Int):=by rw[oY];omega
  have hmul:fI=2^n*(fI/2^n):=by
   have o:2^n∣fI:=by
    have:(4294967296:Nat)=2^n*2^(32-n):=by rw[<-Nat.pow_add];rw[show n+(32-n)=32 by omega]
    rw[<-WS,<-bM,this,Nat.mul_comm y,Nat.mul_mod_mul_left]
    exact Nat.dvd_mul_right _ _
   exact(Nat.mul_div_cancel' o).symm
  have Bx:s<4294967296:=by
   have this:(4294967296:Nat)=2^n*2^(32-n):=by rw[<-Nat.pow_add];rw[show n+(32-n)=32 by omega]
   have av:fI/2^n<2^(32-n):=by
    refine(Nat.div_lt_iff_lt_mul (Nat.pow_pos (by decide))).2 ?_
    rw[Nat.mul_comm (2^(32-n)),<-this]
    omega
   have oH:2^n*(fI/2^n+1)<=2^n*2^(32-n):=Nat.mul_le_mul_left _ av
   rw[Nat.mul_add,Nat.mul_one,<-hmul,<-this]at oH
   omega
  have Bh:Gj (h:Int) (fI:Int)=(s:Int):=by
   unfold Gj
   rw[BitVec.ofInt_natCast,BitVec.ofInt_natCast,BitVec.toNat_or,BitVec.toNat_ofNat,BitVec.toNat_ofNat,Nat.mod_eq_of_lt (show h<2^32 by omega),Nat.mod_eq_of_lt (by omega)]
   have aa:=Nat.two_pow_add_eq_or_of_lt (i:=n) (b:=h) aZ (fI/2^n)
   rw[<-hmul]at aa
   rw[Nat.or_comm,<-aa,mr (by omega) (by omega)]
   omega
  simp[WR,Bh]
  refine kp (ad:=gp) (n:=i) (a:=s) (by simpa using gI) (by simp) (by omega) ⟨by simp,Bx⟩ (by simpa using zx _) (by simp) (fun _ _ _ _ _ h=>h) (by simp) (by simp) (by simp) (by decide) ?_
  rintro eT bN ib bK- - -
  simp at ib
  have yA:=bK H (Nat.le_refl _) bl
  have jx:IntKind.i64.wrap ((i:Int)+1)=((i+1:Nat):Int):=by rw[b8 (by omega) (by omega)];simp
  have yj:IntKind.u32.wrap ((t:Int).fdiv 4294967296)=(m6:Int):=by
   rw[ni _ (by decide),mr (by omega) (by omega)]
   omega
  simp[a_,jx,yj]
  have Na:m6<2^n:=by omega
  refine kp (ad:=gp) (n:=i+1) (a:=m6) (by simpa using ib) (by simp) (by simp;omega) ⟨by simp,by omega⟩ (by simpa using zx _) (by simp) (fun _ _ _ _ _ h=>h) (by simp) (by simp) (by simp) (by decide) ?_
  rintro gj bU kT ch- - -
  simp at kT
  simp
  refine aV _ _ _ (by simp[a_]) ⟨ch H (Nat.le_refl _) yA,_,by simpa using kT,by simp[dQ],?_,?_,?_⟩
  ·rw[List.take_succ_eq_append_getElem (by simp;omega),List.take_set_of_le (by omega),List.getElem_set_self,nT,sy _ _ _ (by omega)]
   rw[jm,cO]at hk
   rw[jm,yD]
   simp[val,Nat.min_eq_left (show i+1<=out.length by omega)]
   rw[Nat.add_mul,<-hk,Nat.mul_assoc,bM,Nat.pow_succ,<-ao]
   have:t=fI+4294967296*m6:=by omega
   rw[this]
   grind
  ·rw[List.getElem?_set_self (by simp;omega)];exact Na
  ·intro j aY
   rw[List.getElem?_set_ne (by omega),List.getElem?_set_ne (by omega)]
   exact aM j (by omega)
 ·rintro bR c4 aS a_ ⟨bl,out,gI,dQ,hk,-,-⟩
  simp[bd]
  refine aC _ _ ⟨bl,out,gI,dQ,?_⟩
  rw[List.take_of_length_le (by omega),List.take_length]at hk
  exact hk
theorem Qn{N:Nat}:∀(l:List Nat) (m:Nat),(∀i,i<l.length->l[i]?.getD 0=N/4294967296^(m+i) % 4294967296)->N/4294967296^m<4294967296^l.length->val l=N/4294967296^m
 | [],m,h,bP=>by simp only[List.length_nil,Nat.pow_zero,Nat.lt_one_iff]at bP;rw[bP];rfl
 | x::l,m,h,bP=>by
  have aH:=h 0 (by simp)
  simp at aH
  have aD:N/4294967296^(m+1)=N/4294967296^m/4294967296:=by rw[Nat.pow_succ,Nat.div_div_eq_div_mul]
  have a1:=Qn l (m+1) (fun i af=>by have:=h (i+1) (by simpa using af);simp at this;rw[this,Nat.add_assoc,Nat.add_comm 1 i]) (by
   rw[aD]
   simp only[List.length_cons,Nat.pow_succ]at bP
   exact(Nat.div_lt_iff_lt_mul (by decide)).2 bP)
  simp only[val]
  rw[a1,aD]
  omega
theorem Qp(x:List Nat)(J:∀y∈x,y<4294967296):∀i,val x/4294967296^i=val (x.drop i)
 | 0=>by simp
 | i+1=>by
  rw[Nat.pow_succ,<-Nat.div_div_eq_div_mul,Qp x J i]
  by_cases af:i<x.length
  ·rw[uj _ _ af]
   have:x[i]?.getD 0<4294967296:=by rw[bz af];exact J _ (List.getElem_mem af)
   omega
  ·rw[List.drop_eq_nil_of_le (by omega),List.drop_eq_nil_of_le (by omega)]
   simp[val]
theorem abM(x:List Nat)(J:∀y∈x,y<4294967296)(i n:Nat)(aJ:n<32):val x/2^n/4294967296^i % 4294967296=(x[i]?.getD 0+4294967296*(x[i+1]?.getD 0))/2^n % 4294967296:=by
 rw[Nat.div_div_eq_div_mul,Nat.mul_comm,<-Nat.div_div_eq_div_mul,Qp x J i]
 have e:(4294967296:Nat)=2^n*2^(32-n):=by rw[<-Nat.pow_add];rw[show n+(32-n)=32 by omega]
 have an:val (x.drop i)=x[i]?.getD 0+4294967296*(x[i+1]?.getD 0)+2^n*(4294967296*(2^(32-n)*val (x.drop (i+2)))):=by
  have aa:val (x.drop i)=x[i]?.getD 0+4294967296*(x[i+1]?.getD 0+4294967296*val (x.drop (i+2))):=by
   by_cases af:i<x.length
   ·rw[uj _ _ af]
    by_cases ix:i+1<x.length
    ·rw[uj _ _ ix]
    ·rw[List.drop_eq_nil_of_le (show x.length<=i+1 by omega),List.drop_eq_nil_of_le (by omega),List.getElem?_eq_none (l:=x) (i:=i+1) (by omega)];simp[val]
   ·rw[List.drop_eq_nil_of_le (by omega),List.drop_eq_nil_of_le (by omega),List.getElem?_eq_none (by omega),List.getElem?_eq_none (by omega)];simp[val]
  rw[aa,Nat.mul_left_comm (2^n),<-Nat.mul_assoc (2^n),<-e]
  omega
 rw[an,Nat.add_mul_div_left _ _ (Nat.pow_pos (by decide)),Nat.add_mul_mod_self_left]
theorem Sw{v:Value}{x:List Nat}{n:Nat}{H:ab}(aW:db H 124 v x)(ar:x.length<1048576)(aJ:n<32):
  aO prog 126 [v,.int .i64 n] H (fun au H1=>Ext H H1/\∃l,db H1 124 au l/\Trim l/\val l=val x/2^n):=by
 refine aO.b9 fun Q aC=>?_
 apply YI (by simp)
 simp[I_]
 refine ck (by simpa using aW.row) (by simp) ?_
 refine su (e:=124) (R:=1) (bF:=4) (n:=x.length) (ay:=false) (z:= .int .u32 0) (ad:=gp) (a:=0) (eK:= .i64) (cX:= .i64) (by simp) (by simp) (by simp) (by simp) (by rfl) (by simp) Hr (by simp) (by simp) (by omega) (by omega) (by omega) (fun aF=>⟨rfl,by decide⟩) ?_
 rintro U H1 cw bq-
 simp
 refine ck (by simpa using(aW.ext bq).row) (by simp) ?_
 simp
 refine c7.range (by kernel_rfl) x.length (by omega) (by simp) (by rfl) (by simp) (by decide) (by decide) (fun i bR c4 aS=>Ext H aS/\∃out:List Nat,bH H.length 124 1 false gp aS U out/\out.length=x.length/\∀j,j<i->out[j]?.getD 0=val x/2^n/4294967296^j % 4294967296) ?_ ?_ ?_
 ·exact⟨bq,List.replicate x.length 0,cw,by simp,fun j aY=>by omega⟩
 ·rintro i bR c4 aS af a_ ⟨bl,out,gI,dQ,hk⟩ K aV
  simp at a_
  simp[a_]
  refine cv (ad:=gp) (n:=i) (by simpa using(aW.ext bl).row) (by simp[a_]) (bz af) (by simp) (by simp) (by simp) (.inr rfl) ?_
  rintro p u ⟨rfl,hu⟩
  obtain⟨y,aI⟩:∃y,x[i]=y:=⟨_,rfl⟩
  rw[aI]at hu
  have yD:x[i]?.getD 0=y:=by rw[bz af,aI];rfl
  have r3:IntKind.u64.wrap (y:Int)=(y:Int):=gv (by omega) (by omega)
  have jx:IntKind.i64.wrap ((i:Int)+1)=((i+1:Nat):Int):=by rw[b8 (by omega) (by omega)];simp
  simp[aI,r3,jx]
  obtain⟨z,aM⟩:∃z,x[i+1]?.getD 0=z:=⟨_,rfl⟩
  have qE:z<4294967296:=aM▸aW.lt _
  refine cc.join (by kernel_rfl) (fun c_ en bN=>bN=aS/\∃t:Nat,c_ 7= .int .u64 t/\t=y+4294967296*z) ?_ ?_
  ·rintro er hM-
   simp[jx]
   refine ck (by simpa using(aW.ext bl).row) (by simp) ?_
   simp
   refine bs.bZ (fun aZ=>?_) (fun aZ=>?_)
   ·simp[jx]
    have ix:i+1<x.length:=by omega
    refine cv (ad:=gp) (n:=i+1) (by simpa using(aW.ext bl).row) (by simp) (bz ix) (by simp) (by simp) (by simp) (.inr rfl) ?_
    rintro p u ⟨rfl,px⟩
    have tO:x[i+1]=z:=by rw[bz ix]at aM;exact aM
    have Xz:IntKind.u64.wrap (z:Int)=(z:Int):=gv (by omega) (by omega)
    obtain⟨s,ao⟩:∃s,z*4294967296=s:=⟨_,rfl⟩
    have dd:IntKind.u64.wrap ((z:Int)*4294967296)=(s:Int):=by rw[gv (by omega) (by omega)];omega
    have aY:=v9 (r:=z) qE hu
    rw[ao]at aY
    have jU:qN (y:Int) (s:Int)=((s+y:Nat):Int):=by
     rw[<-aY];unfold qN;congr 2;rw[BitVec.or_comm]
    obtain⟨t,bM⟩:∃t,s+y=t:=⟨_,rfl⟩
    rw[bM]at jU
    simp[tO,Xz,dd,jU]
    exact hM _ _ _ ⟨rfl,t,by simp,by omega⟩
   ·have qD:z=0:=by rw[<-aM,List.getElem?_eq_none (by omega)];rfl
    exact hM _ _ _ ⟨rfl,y,by simp,by omega⟩
  ·rintro c_ en bN ⟨rfl,t,bV,bM⟩
   simp at bV
   have E1:=abM x aW.2 i n aJ
   rw[yD,aM]at E1
   rw[<-bM]at E1
   obtain⟨w,hw⟩:∃w,t/2^n % 4294967296=w:=⟨_,rfl⟩
   have E6:min n 64=n:=by omega
   have jX:¬((n:Int)<0):=by omega
   have WO:IntKind.u32.wrap ((t:Int).fdiv (2^n))=(w:Int):=by
    rw[ni _ (by exact_mod_cast Nat.zero_le _),oY,<-hw]
    rw[Int.natCast_emod,Int.natCast_ediv,Int.natCast_pow]
    rfl
   simp[bV,E6,jX,WO]
   refine kp (ad:=gp) (n:=i) (a:=w) (by simpa using gI) (by simp) (by omega) ⟨by simp,by omega⟩ (by simpa using zx _) (by simp) (fun _ _ _ _ _ h=>h) (by simp) (by simp) (by simp) (by decide) ?_
   rintro eT bU ib bK- - -
   simp at ib
   simp
   refine aV _ _ _ (by simp[a_]) ⟨bK H (Nat.le_refl _) bl,_,by simpa using ib,by simp[dQ],fun j aY=>?_⟩
   by_cases fE:j=i
   ·subst fE
    rw[List.getElem?_set_self (by omega),E1,hw]
    rfl
   ·rw[List.getElem?_set_ne (Ne.symm fE)]
    exact hk j (by omega)
 ·rintro bR c4 aS a_ ⟨bl,out,gI,dQ,hk⟩
  simp
  have eJ:db aS 124 U out:=gI.row.us
  refine aT.mk (mm eJ (by omega)) ?_
  rintro v bN ⟨rfl,l,fY,iM,mQ,-⟩
  simp[bd]
  refine aC _ _ ⟨bl,l,fY,iM,?_⟩
  have:=Qn out 0 (fun j aY=>by rw[hk j (by omega),Nat.zero_add]) (by
   rw[Nat.pow_zero,Nat.div_one,dQ]
   exact Nat.lt_of_le_of_lt (Nat.div_le_self _ _) (ks aW.2))
  rw[mQ,this,Nat.pow_zero,Nat.div_one]
end Go.dq
end
section
set_option maxRecDepth 8000
namespace Go.dq
section
variable {E ul fw top hb aG cx:Nat}
theorem Tp(kY:ul<E)(yp:fw<4294967296)(qz:0<cx):(ul+E*(fw+4294967296*top))/(hb+E*(aG+4294967296*cx))<=top/cx:=by
 have b3:0<E:=by omega
 rw[Nat.le_div_iff_mul_le qz]
 generalize av:(ul+E*(fw+4294967296*top))/(hb+E*(aG+4294967296*cx))=q
 have o:q*(hb+E*(aG+4294967296*cx))<=ul+E*(fw+4294967296*top):=by rw[<-av];exact Nat.div_mul_le_self _ _
 have aa:E*(4294967296*(q*cx))<=q*(hb+E*(aG+4294967296*cx)):=by
  have:q*(hb+E*(aG+4294967296*cx))=q*hb+q*E*aG+E*(4294967296*(q*cx)):=by grind
  omega
 have aA:ul+E*(fw+4294967296*top)<E*(4294967296*(top+1)):=by
  have:E*(fw+1)<=E*4294967296:=Nat.mul_le_mul_left _ yp
  grind
 have bj:E*(4294967296*(q*cx))<E*(4294967296*(top+1)):=by omega
 have bJ:=Nat.lt_of_mul_lt_mul_left bj
 omega
theorem Tr{g r:Nat}(kY:ul<E)(bM:g*cx+r=top)(h:r*4294967296+fw<g*aG):(ul+E*(fw+4294967296*top))/(hb+E*(aG+4294967296*cx))<g:=by
 have b3:0<E:=by omega
 have aX:0<g:=by
  rcases Nat.eq_zero_or_pos g with q | q
  ·subst q;simp at h
  ·exact q
 have an:0<aG:=by
  rcases Nat.eq_zero_or_pos aG with q | q
  ·subst q;simp at h
  ·exact q
 have oh:0<hb+E*(aG+4294967296*cx):=by
  have:=Nat.mul_pos b3 an
  have:E*aG<=E*(aG+4294967296*cx):=Nat.mul_le_mul_left _ (by omega)
  omega
 rw[Nat.div_lt_iff_lt_mul oh]
 have o:fw+4294967296*top+1<=g*(aG+4294967296*cx):=by
  rw[<-bM]
  have:g*(aG+4294967296*cx)=g*aG+4294967296*(g*cx):=by grind
  omega
 have aa:E*(fw+4294967296*top+1)<=E*(g*(aG+4294967296*cx)):=Nat.mul_le_mul_left _ o
 have aA:g*(hb+E*(aG+4294967296*cx))=g*hb+E*(g*(aG+4294967296*cx)):=by grind
 have bj:E*(fw+4294967296*top+1)=E*(fw+4294967296*top)+E:=by rw[Nat.mul_add,Nat.mul_one]
 omega
theorem Tq{g r:Nat}(tH:hb<E)(qz:0<cx)(aX:g<4294967296)(bM:g*cx+r=top)(h:g*aG<=r*4294967296+fw):g<=(ul+E*(fw+4294967296*top))/(hb+E*(aG+4294967296*cx))+1:=by
 have b3:0<E:=by omega
 rcases Nat.eq_zero_or_pos g with q | q
 ·rw[q];exact Nat.zero_le _
 have oh:0<hb+E*(aG+4294967296*cx):=by
  have:0<E*(aG+4294967296*cx):=Nat.mul_pos b3 (by omega)
  omega
 have aH:g-1<=(ul+E*(fw+4294967296*top))/(hb+E*(aG+4294967296*cx)):=by
  rw[Nat.le_div_iff_mul_le oh]
  have o:g*(aG+4294967296*cx)<=fw+4294967296*top:=by
   rw[<-bM]
   have:g*(aG+4294967296*cx)=g*aG+4294967296*(g*cx):=by grind
   omega
  have aa:E*(g*(aG+4294967296*cx))<=E*(fw+4294967296*top):=Nat.mul_le_mul_left _ o
  have aA:g*(hb+E*(aG+4294967296*cx))=g*hb+E*(g*(aG+4294967296*cx)):=by grind
  have bj:g*hb<=g*E:=Nat.mul_le_mul_left _ (by omega)
  have bJ:g*E<=4294967296*E:=Nat.mul_le_mul_right _ (by omega)
  have ds:E*4294967296<=E*(aG+4294967296*cx):=Nat.mul_le_mul_left _ (by omega)
  have bV:(g-1)*(hb+E*(aG+4294967296*cx))+(hb+E*(aG+4294967296*cx))=g*(hb+E*(aG+4294967296*cx)):=by
   rw[<-Nat.succ_mul];congr 1;omega
  rw[Nat.mul_comm E 4294967296]at ds
  omega
 exact Nat.sub_le_iff_le_add.1 aH
theorem To{g r:Nat}(tH:hb<E)(kg:aG<4294967296)(qz:0<cx)(aX:g<4294967296)(bM:g*cx+r=top)(al:4294967296<=r):g<=(ul+E*(fw+4294967296*top))/(hb+E*(aG+4294967296*cx)):=by
 have b3:0<E:=by omega
 have oh:0<hb+E*(aG+4294967296*cx):=by
  have:0<E*(aG+4294967296*cx):=Nat.mul_pos b3 (by omega)
  omega
 rw[Nat.le_div_iff_mul_le oh]
 have o:hb+E*(aG+4294967296*cx)<=E*(4294967296*(cx+1)):=by
  have:E*(aG+1)<=E*4294967296:=Nat.mul_le_mul_left _ kg
  grind
 have aa:g*(hb+E*(aG+4294967296*cx))<=g*(E*(4294967296*(cx+1))):=Nat.mul_le_mul_left _ o
 have aA:g*(E*(4294967296*(cx+1)))=E*(4294967296*(g*cx+g)):=by grind
 have bj:E*(4294967296*(g*cx+g))<=E*(4294967296*top):=Nat.mul_le_mul_left _ (Nat.mul_le_mul_left _ (by omega))
 have bJ:E*(4294967296*top)<=E*(fw+4294967296*top):=Nat.mul_le_mul_left _ (by omega)
 omega
end
theorem aeY(l:List Nat)(n:Nat)(ar:l.length=n+1)(aJ:2<=n):val l=val (l.take (n-2))+4294967296^(n-2)*(l[n-2]?.getD 0+4294967296*(l[n-1]?.getD 0+4294967296*(l[n]?.getD 0))):=by
 have hH:l.take (n+1)=l:=by rw[<-ar,List.take_length]
 have o:=jm l n
 have aa:=jm l (n-1)
 have aA:=jm l (n-2)
 rw[show n-1+1=n by omega]at aa
 rw[show n-2+1=n-1 by omega]at aA
 rw[hH]at o
 rw[o,aa,aA]
 have c9:(4294967296:Nat)^(n-1)=4294967296^(n-2)*4294967296:=by rw[<-Nat.pow_succ];congr 1;omega
 have gi:(4294967296:Nat)^n=4294967296^(n-2)*4294967296*4294967296:=by rw[<-Nat.pow_succ,<-Nat.pow_succ];congr 1;omega
 rw[c9,gi]
 generalize (4294967296:Nat)^(n-2)=E
 grind
theorem aeX(l:List Nat)(n:Nat)(ar:l.length=n)(aJ:2<=n):val l=val (l.take (n-2))+4294967296^(n-2)*(l[n-2]?.getD 0+4294967296*(l[n-1]?.getD 0)):=by
 have hH:l.take n=l:=by rw[<-ar,List.take_length]
 have aa:=jm l (n-1)
 have aA:=jm l (n-2)
 rw[show n-1+1=n by omega,hH]at aa
 rw[show n-2+1=n-1 by omega]at aA
 rw[aa,aA]
 have c9:(4294967296:Nat)^(n-1)=4294967296^(n-2)*4294967296:=by rw[<-Nat.pow_succ];congr 1;omega
 rw[c9]
 generalize (4294967296:Nat)^(n-2)=E
 grind
def fU(l:List Nat):List Value:=l.map fun(n:Nat)=>Value.int .u32 (n:Int)
section
variable {P:Program} {r:List bG} {F:Fr} {H:ab} {Q:Fr->ab->Prop}
theorem ud{d t d2 e n b U cap:Nat}{l:Bool}{x i:Operand}{pre post:List Value}{us:List Nat}{ax:bb (bg d t x i::aE d2 e (T d)::r) Q}(aW:H[b]?=some (.own e l (pre++(fU us++post))))(aQ:pre.length=U)(J:aq F x= .slice (some ⟨b,U,none⟩) us.length cap)(af:aq F i= .int .i64 (n:Int))(aJ:n<us.length)
  (bM:fi P t=some e)(ao:bA P e=some 1)(ea:dr P e=some false)(K:∀p,ba P r Q .mk (a2 (a2 F d p) d2 (.int .u32 ((us[n]?.getD 0:Nat):Int))) H):ba P (bg d t x i::aE d2 e (T d)::r) Q ax F H:=by
 rw[il,J,af,sM,pY,bM,gm,ao,gm,sK]
 refine dI.mk ⟨by omega,by omega⟩ ?_
 rw[CB]
 simp only[n9,jG,rb,aW,Option.bind_some,bO.cells?,gm,ea,Int.toNat_natCast,zB]
 have:(pre++(fU us++post))[U+n*1]?=some (.int .u32 ((us[n]?.getD 0:Nat):Int)):=by
  unfold fU
  rw[List.getElem?_append_right (by omega),List.getElem?_append_left (by simp;omega),List.getElem?_map]
  rw[show U+n*1-pre.length=n by omega,bz aJ]
  rfl
 rw[this,gm]
 exact K _
theorem acF{j d t d2 e n b U cap:Nat}{w l:Bool}{x i:Operand}{pre post:List Value}{us:List Nat}{ax:bb (bg d t x i::aN j w (aE d2 e (T d))::r) Q}(aX:hG (F j)=some w)(EW:j≠d)(aW:H[b]?=some (.own e l (pre++(fU us++post))))(aQ:pre.length=U)(J:aq F x= .slice (some ⟨b,U,none⟩) us.length cap)(af:aq F i= .int .i64 (n:Int))(aJ:n<us.length)
  (bM:fi P t=some e)(ao:bA P e=some 1)(ea:dr P e=some false)(K:∀p,ba P r Q .mk (a2 (a2 F d p) d2 (.int .u32 ((us[n]?.getD 0:Nat):Int))) H):ba P (bg d t x i::aN j w (aE d2 e (T d))::r) Q ax F H:=by
 have aH:ba P (bg d t x i::aE d2 e (T d)::r) Q .mk F H:=ud aW aQ J af aJ bM ao ea K
 rw[il,J,af,sM,pY,bM,gm,ao,gm,sK]at aH⊢
 exact⟨aH.1,PT (by rw[iP _ _ EW];exact aX) aH.2⟩
theorem CG{d t e n b U cap z:Nat}{l:Bool}{x i y:Operand}{pre post:List Value}{us:List Nat}{ax:bb (bg d t x i::st e (T d) y::r) Q}(aW:H[b]?=some (.own e l (pre++(fU us++post))))(aQ:pre.length=U)(J:aq F x= .slice (some ⟨b,U,none⟩) us.length cap)(af:aq F i= .int .i64 (n:Int))(aJ:n<us.length)
  (aI:∀v,aq (a2 F d v) y= .int .u32 (z:Int))(bM:fi P t=some e)(ao:bA P e=some 1)(K:∀p,ba P r Q .mk (a2 F d p) (H.set b (.own e l (pre++(fU (us.set n z)++post))))):ba P (bg d t x i::st e (T d) y::r) Q ax F H:=by
 rw[il,J,af,sM,pY,bM,gm,ao,gm,sK]
 refine dI.mk ⟨by omega,by omega⟩ ?_
 rw[PZ]
 simp only[n9,jG,rb,aW,HN,Int.toNat_natCast,aI]
 refine dI.mk ⟨by rw[ao];rfl,by simp[fU];omega,by simp⟩ ?_
 have:mq (pre++(fU us++post)) (U+n*1) (Value.int IntKind.u32 (z:Int)).cells.toList=pre++(fU (us.set n z)++post):=by
  show(pre++(fU us++post)).set (U+n*1) (.int .u32 (z:Int))=_
  unfold fU
  rw[List.set_append_right _ _ (by omega),List.set_append_left _ _ (by simp;omega)]
  rw[show U+n*1-pre.length=n by omega,List.map_set]
 rw[aI,this]
 exact K _
end
end Go.dq
end
section
set_option maxRecDepth 8000
namespace Go.dq
open Go.Proofs
open Go.Proofs.Tryz (prog)
attribute [-simp] il jk
theorem Po{H:ab}{b:Nat}{X:bO}(h:H[b]?=some X):H.set b X=H:=by
 apply List.ext_getElem?
 intro i
 by_cases af:b=i
 ·subst af;rw[List.getElem?_set_self (cJ.1 h).1,h]
 ·rw[List.getElem?_set_ne af]
theorem R0{v:Value}{b U cap m:Nat}{l:Bool}{pre post:List Value}{us aG:List Nat}{H:ab}(aW:H[b]?=some (.own 124 l (pre++(fU us++post))))(aQ:pre.length=U)(tD:us.length=m+3)(kY:∀x∈us,x<4294967296)
  (oh:∀X,(∀e cs,X≠ .ro e cs)->db (H.set b X) 124 v aG)(kg:aG.length=m+2)(hm:m<1048576)(qz:aG[m+1]?.getD 0≠0)(aZ:val us<4294967296*val aG):
  aO prog 125 [.slice (some ⟨b,U,none⟩) (m+3) cap,v] H (fun w H1=>(∃q:Nat,w= .int .u32 (q:Int)/\q=val us/val aG)/\∃dT,H1=H.set b (.own 124 l (pre++(fU dT++post)))/\dT.length=m+3/\(∀x∈dT,x<4294967296)/\val dT=val us % val aG):=by
 refine aO.b9 fun Q aC=>?_
 apply YH (by simp)
 have g2:=(cJ.1 aW).1
 have oi:=fun dT:List Nat=>oh (.own 124 l (pre++(fU dT++post))) (by simp)
 have vh:Row 124 1 false gp H v aG:=by
  have:=(oi us).row
  rwa[Po aW]at this
 obtain⟨alF,alI,rfl⟩:=vh.len
 rw[kg]at oh oi vh⊢
 have l_:IntKind.i64.wrap ((m:Int)+2-1)=(m:Int)+1:=by rw[b8 (by omega) (by omega)];omega
 have BK:IntKind.i64.wrap (m:Int)=(m:Int):=b8 (by omega) (by omega)
 have nv:IntKind.i64.wrap ((m:Int)+2-2)=(m:Int):=by rw[b8 (by omega) (by omega)];omega
 obtain⟨kq,oM⟩:∃x,us[m+2]?.getD 0=x:=⟨_,rfl⟩
 obtain⟨mn,oL⟩:∃x,us[m+1]?.getD 0=x:=⟨_,rfl⟩
 obtain⟨fw,yp⟩:∃x,us[m]?.getD 0=x:=⟨_,rfl⟩
 obtain⟨cx,tK⟩:∃x,aG[m+1]?.getD 0=x:=⟨_,rfl⟩
 obtain⟨v0,Fy⟩:∃x,aG[m]?.getD 0=x:=⟨_,rfl⟩
 have AI:∀k,us[k]?.getD 0<4294967296:=fun k=>w7 (by decide) kY k
 have AJ:∀k,aG[k]?.getD 0<4294967296:=fun k=>w7 (by decide) (oi us).2 k
 have N9:=oM▸AI (m+2)
 have Z0:=oL▸AI (m+1)
 have N8:=yp▸AI m
 have ajG:=tK▸AJ (m+1)
 have BW:=Fy▸AJ m
 rw[tK]at qz
 have FC:aG[m+1]?=some cx:=by rw[<-tK,bz (by omega)];rfl
 have W2:aG[m]?=some v0:=by rw[<-Fy,bz (by omega)];rfl
 obtain⟨top,mf⟩:∃x,kq*4294967296+mn=x:=⟨_,rfl⟩
 obtain⟨E,b3⟩:∃E,4294967296^m=E:=⟨_,rfl⟩
 have xx:val us=val (us.take m)+E*(fw+4294967296*top):=by
  have:=aeY us (m+2) tD (by omega)
  simp only[Nat.add_sub_cancel,show m+2-1=m+1 by omega,yp,oL,oM,b3]at this
  rw[this,<-mf]
  grind
 have vi:val aG=val (aG.take m)+E*(v0+4294967296*cx):=by
  have:=aeX aG (m+2) kg (by omega)
  simpa only[Nat.add_sub_cancel,show m+2-1=m+1 by omega,Fy,tK,b3]using this
 have Ng:val (us.take m)<E:=by
  have:=ks (l:=us.take m) fun x J=>kY x (List.mem_of_mem_take J)
  rwa[List.length_take,Nat.min_eq_left (by omega),b3]at this
 have Nl:val (aG.take m)<E:=by
  have:=ks (l:=aG.take m) fun x J=>(oi us).2 x (List.mem_of_mem_take J)
  rwa[List.length_take,Nat.min_eq_left (by omega),b3]at this
 have yw:0<cx:=by omega
 obtain⟨q,av⟩:∃q,val us/val aG=q:=⟨_,rfl⟩
 have vg:0<val aG:=by
  rw[vi]
  have:0<E*(v0+4294967296*cx):=Nat.mul_pos (by omega) (by omega)
  omega
 have Bn:q<4294967296:=by rw[<-av,Nat.div_lt_iff_lt_mul vg];exact aZ
 have ajo:top<4294967296*cx+4294967296:=by
  have o:E*(4294967296*top)<4294967296*(E*(4294967296*(cx+1))):=by
   have b4:E*(4294967296*top)<=val us:=by rw[xx];have:E*(4294967296*top)<=E*(fw+4294967296*top):=Nat.mul_le_mul_left _ (by omega);omega
   have cM:val aG<E*(4294967296*(cx+1)):=by
    rw[vi]
    have:E*(v0+1)<=E*4294967296:=Nat.mul_le_mul_left _ BW
    grind
   omega
  have aa:E*(4294967296*top)<E*(4294967296*(4294967296*(cx+1))):=by
   have:4294967296*(E*(4294967296*(cx+1)))=E*(4294967296*(4294967296*(cx+1))):=by grind
   omega
  have:=Nat.lt_of_mul_lt_mul_left aa
  omega
 have Dv:IntKind.u64.wrap (cx:Int)=(cx:Int):=gv (by omega) (by omega)
 have RV:IntKind.u64.wrap (v0:Int)=(v0:Int):=gv (by omega) (by omega)
 have RK:IntKind.u64.wrap (kq:Int)=(kq:Int):=gv (by omega) (by omega)
 have RJ:IntKind.u64.wrap (mn:Int)=(mn:Int):=gv (by omega) (by omega)
 have RI:IntKind.u64.wrap (fw:Int)=(fw:Int):=gv (by omega) (by omega)
 obtain⟨s2,ma⟩:∃s,kq*4294967296=s:=⟨_,rfl⟩
 have WH:IntKind.u64.wrap ((kq:Int)*4294967296)=(s2:Int):=by rw[gv (by omega) (by omega)];omega
 have BB:qN (s2:Int) (mn:Int)=(top:Int):=by
  have:=v9 (r:=kq) N9 Z0
  rw[ma]at this
  rw[this];omega
 obtain⟨cz,xP⟩:∃g,top/cx=g:=⟨_,rfl⟩
 obtain⟨fg,gK⟩:∃g,top % cx=g:=⟨_,rfl⟩
 have np:=Nat.div_add_mod top cx
 rw[xP,gK]at np
 have Wz:fg<cx:=by rw[<-gK];exact Nat.mod_lt _ yw
 have Bl:q<=cz:=by
  have:=Tp (E:=E) (ul:=val (us.take m)) (fw:=fw) (top:=top) (hb:=val (aG.take m)) (aG:=v0) (cx:=cx) Ng N8 yw
  rw[<-xx,<-vi,av,xP]at this
  exact this
 have aiM:cz<8589934592:=by
  rw[<-xP,Nat.div_lt_iff_lt_mul yw]
  omega
 have ediv:((top:Int).tdiv cx)=(cz:Int):=by rw[<-xP];rfl
 have emod:((top:Int).tmod cx)=(fg:Int):=by rw[<-gK];rfl
 have ae8:IntKind.u64.wrap (cz:Int)=(cz:Int):=gv (by omega) (by omega)
 have ajs:¬((cx:Int)=0):=by omega
 simp[I9,jk]
 refine ud (cap:=cap) (n:=m+2) aW aQ (by simp[tD]) (by simp) (by omega) (by simp) (by simp) (by simp) fun c9=>?_
 simp[oM,RK,WH,l_]
 refine ud (cap:=cap) (n:=m+1) aW aQ (by simp[tD]) (by simp) (by omega) (by simp) (by simp) (by simp) fun gi=>?_
 simp[oL,RJ,BB,l_]
 refine cv (ad:=gp) (n:=m+1) (by simpa using vh) (by simp) FC (by simp) (by simp) (by simp) (.inr rfl) ?_
 rintro eT cn ⟨rfl,-⟩
 simp[Dv,l_,ediv,ae8,qz]
 refine cv (ad:=gp) (n:=m+1) (by simpa using vh) (by simp) FC (by simp) (by simp) (by simp) (.inr rfl) ?_
 rintro gj sA ⟨rfl,-⟩
 simp[Dv,emod,qz]
 have Vs:∀g r,g*cx+r=top->(4294967296<=g\/r*4294967296+fw<g*v0)->q<g:=fun g r o aa=>by
  rcases aa with aa | aa
  ·omega
  ·have:=Tr (E:=E) (ul:=val (us.take m)) (fw:=fw) (top:=top) (hb:=val (aG.take m)) (aG:=v0) (cx:=cx) Ng o aa
   rwa[<-xx,<-vi,av]at this
 have ES:∀g r,g<4294967296->g*cx+r=top->¬r*4294967296+fw<g*v0->g<=q+1:=fun g r aH o aa=>by
  have:=Tq (E:=E) (ul:=val (us.take m)) (fw:=fw) (top:=top) (hb:=val (aG.take m)) (aG:=v0) (cx:=cx) Nl yw aH o (by omega)
  rwa[<-xx,<-vi,av]at this
 have Vq:∀g r,g<4294967296->g*cx+r=top->4294967296<=r->g<=q:=fun g r aH o aa=>by
  have:=To (E:=E) (ul:=val (us.take m)) (fw:=fw) (top:=top) (hb:=val (aG.take m)) (aG:=v0) (cx:=cx) Nl BW yw aH o aa
  rwa[<-xx,<-vi,av]at this
 refine cc.join (by kernel_rfl) (fun c_ en bN=>bN=H/\∃g:Nat,c_ 7= .int .u64 g/\g<4294967296/\q<=g/\g<=q+1) ?_ ?_
 ·rintro er hM-
  simp only[aeJ,aeM]
  refine c7.mk (by kernel_rfl) (fun g c_ en bN=>bN=H/\∃r:Nat,c_ 7= .int .u64 g/\c_ 8= .int .u64 r/\g*cx+r=top/\r<4294967296/\q<=g) cz ⟨rfl,fg,by simp,by simp,by rw[Nat.mul_comm];exact np,by omega,Bl⟩ ?_
  rintro g c_ en bN ⟨rfl,r,bV,cN,Mf,ja,MV⟩ K aV
  simp at bV cN
  have aiN:g<8589934592:=by
   have:g*cx<8589934592*cx:=by
    have:4294967296*cx<=4294967296*cx:=Nat.le_refl _
    omega
   exact Nat.lt_of_mul_lt_mul_right this
  simp only[kJ]
  refine cc.join (by kernel_rfl) (fun cT dO bU=>bU=bN/\∃c:Bool,cT 68= .bool c/\(c=true↔(4294967296<=g\/r*4294967296+fw<g*v0))) ?_ ?_
  ·rintro cZ MA-
   have yj:((g:Int).fdiv 4294967296)=((g/4294967296:Nat):Int):=by rw[ni _ (by decide)];omega
   simp[bV,yj]
   refine bs.bZ (fun ae=>?_) (fun ae=>?_)
   ·simp[ae]
    exact MA _ _ _ ⟨rfl,true,by simp,by simp;omega⟩
   ·simp[ae]
    have vx:g<4294967296:=by omega
    refine qX (ad:=gp) (n:=m) (by simp[ae]) (by decide) (by simpa using vh) (by simp[BK]) W2 (by simp) (by simp) (by simp) (.inr rfl) ?_
    rintro iD um ⟨rfl,-⟩
    have hmul:IntKind.u64.wrap ((g:Int)*v0)=((g*v0:Nat):Int):=Gd vx BW
    obtain⟨aij,Mh⟩:∃x,g*v0=x:=⟨_,rfl⟩
    obtain⟨rs,tz⟩:∃x,r*4294967296=x:=⟨_,rfl⟩
    have WJ:IntKind.u64.wrap ((r:Int)*4294967296)=(rs:Int):=by rw[gv (by omega) (by omega)];omega
    rw[Mh]at hmul
    simp[ae,RV,bV,cN,hmul,WJ]
    refine acF (cap:=cap) (n:=m) (by simp[ae]) (by decide) aW aQ (by simp[tD]) (by simp[BK]) (by omega) (by simp) (by simp) (by simp) fun mj=>?_
    have aY:=v9 (r:=r) ja N8
    rw[tz]at aY
    obtain⟨ajW,M3⟩:∃x,rs+fw=x:=⟨_,rfl⟩
    rw[M3]at aY
    simp[ae,yp,RI,aY]
    refine MA _ _ _ ⟨rfl,_,by simp;rfl,?_⟩
    simp[Mh,tz,M3]
    omega
  ·rintro cT dO bU ⟨rfl,c,Le,gb⟩
   simp at Le
   simp[Le]
   refine bs.mk (fun ae=>?_) (fun ae=>?_)
   ·have ajj:=Vs g r Mf (gb.1 ae)
    have mM:IntKind.u64.wrap ((g:Int)-1)=((g-1:Nat):Int):=by rw[gv (by omega) (by omega)];omega
    obtain⟨kR,ER⟩:∃x,g-1=x:=⟨_,rfl⟩
    rw[ER]at mM
    simp[bV,mM,cN,l_]
    refine cv (ad:=gp) (n:=m+1) (by simpa using vh) (by simp) FC (by simp) (by simp) (by simp) (.inr rfl) ?_
    rintro iD um ⟨rfl,-⟩
    obtain⟨dW,fO⟩:∃x,r+cx=x:=⟨_,rfl⟩
    have qi:IntKind.u64.wrap ((r:Int)+cx)=(dW:Int):=by rw[gv (by omega) (by omega)];omega
    have yj:((dW:Int).fdiv 4294967296)=((dW/4294967296:Nat):Int):=by rw[ni _ (by decide)];omega
    have Mg:kR*cx+dW=top:=by
     have:g*cx=kR*cx+cx:=by rw[show g=kR+1 by omega,Nat.succ_mul]
     omega
    simp[Dv,qi,yj]
    refine bs.bZ (fun aD=>?_) (fun aD=>?_)
    ·have Vi:4294967296<=dW:=by omega
     have L_:kR<4294967296:=by
      have:kR*cx<4294967296*cx:=by omega
      exact Nat.lt_of_mul_lt_mul_right this
     exact hM _ _ _ ⟨rfl,kR,by simp,L_,by omega,Nat.le_succ_of_le (Vq kR dW L_ Mg Vi)⟩
    ·exact aV kR _ _ _ (by omega) ⟨rfl,dW,by simp,by simp,Mg,by omega,by omega⟩
   ·have aiH:¬(4294967296<=g\/r*4294967296+fw<g*v0):=fun h=>by rw[gb.2 h]at ae;cases ae
    have vx:g<4294967296:=by omega
    exact hM _ _ _ ⟨rfl,g,by simp[bV],vx,MV,ES g r vx Mf (by omega)⟩
 ·rintro c_ en bN ⟨rfl,g,bV,vx,MV,aiO⟩
  simp at bV
  simp[jk]
  refine c7.range (by kernel_rfl) (m+2) (by omega) (by simp) (by rfl) (by simp) (by decide) (by decide) (fun i cT dO bU=>∃(dT:List Nat) (c d:Nat),bU=bN.set b (.own 124 l (pre++(fU dT++post)))/\dT.length=m+3/\(∀x∈dT,x<4294967296)/\(∀j,i<=j->dT[j]?.getD 0=us[j]?.getD 0)/\cT 9= .int .u64 c/\cT 10= .int .u32 d/\c<4294967296/\d<=1/\val (dT.take i)+g*val (aG.take i)=val (us.take i)+4294967296^i*(c+d)) ?_ ?_ ?_
  ·exact⟨us,0,0,(Po aW).symm,tD,kY,fun _ _=>rfl,by simp,by simp,by decide,by decide,by simp[val]⟩
  ·rintro i cT dO bU af a_ ⟨dT,c,d,rfl,dK,jW,Bu,eB,gU,ae,aD,hk⟩ K aV
   simp at a_ eB gU
   obtain⟨q1,tG⟩:∃x,aG[i]?.getD 0=x:=⟨_,rfl⟩
   have Ga:=tG▸AJ i
   have FB:aG[i]?=some q1:=by rw[<-tG,bz (by omega)];rfl
   obtain⟨wo,Fw⟩:∃x,us[i]?.getD 0=x:=⟨_,rfl⟩
   have Z1:=Fw▸AI i
   have RW:IntKind.u64.wrap (q1:Int)=(q1:Int):=gv (by omega) (by omega)
   obtain⟨t0,Fp⟩:∃x,g*q1=x:=⟨_,rfl⟩
   have kd:IntKind.u64.wrap ((g:Int)*q1)=(t0:Int):=by rw[Gd vx Ga,Fp]
   have ajm:t0<=4294967295*4294967295:=by rw[<-Fp];exact Nat.mul_le_mul (by omega) (by omega)
   obtain⟨t,bM⟩:∃x,t0+c=x:=⟨_,rfl⟩
   have nu:IntKind.u64.wrap ((t0:Int)+c)=(t:Int):=by rw[gv (by omega) (by omega)];omega
   obtain⟨fI,me⟩:∃x,t % 4294967296=x:=⟨_,rfl⟩
   obtain⟨m6,Na⟩:∃x,t/4294967296=x:=⟨_,rfl⟩
   have l9:((t:Int).fdiv 4294967296)=(m6:Int):=by rw[ni _ (by decide)];omega
   have A8:IntKind.u32.wrap (t:Int)=(fI:Int):=by rw[oY];omega
   simp[a_,bV]
   refine cv (ad:=gp) (n:=i) (by simpa using(oi dT).row) (by simp) FB (by simp) (by simp) (by simp) (.inr rfl) ?_
   rintro iD um ⟨rfl,-⟩
   have Ew:(bN.set b (.own 124 l (pre++(fU dT++post))))[b]?=some (.own 124 l (pre++(fU dT++post))):=List.getElem?_set_self g2
   simp[a_,bV,eB,gU,RW,kd,nu,l9]
   refine ud (b:=b) (l:=l) (pre:=pre) (us:=dT) (post:=post) (cap:=cap) (n:=i) Ew aQ (by simp[dK]) (by simp) (by omega) (by simp) (by simp) (by simp) fun mj=>?_
   rw[Bu i (Nat.le_refl _),Fw]
   simp[A8,gU]
   refine aT.mk (GP Z1 (by omega) aD) ?_
   rintro w b5 ⟨rfl,s,fD,rfl,ao,jT,Bx⟩
   simp
   refine CG (b:=b) (l:=l) (pre:=pre) (us:=dT) (post:=post) (cap:=cap) (n:=i) (z:=s) Ew aQ (by simp[dK]) (by simp) (by omega) (by simp) (by simp) (by simp) fun qP=>?_
   simp
   refine aV _ _ _ (by simp[a_]) ⟨dT.set i s,m6,fD,by simp,by simp[dK],?_,?_,by simp,by simp,by omega,jT,?_⟩
   ·intro x J
    rcases List.mem_or_eq_of_mem_set J with J | rfl
    ·exact jW x J
    ·exact ao
   ·intro j aY
    rw[List.getElem?_set_ne (by omega)]
    exact Bu j (by omega)
   ·rw[sy _ _ _ (by omega),jm aG,jm us,tG,Fw,Nat.pow_succ]
    generalize 4294967296^i=E at*
    have Fl:wo+4294967296*fD=s+fI+d:=Bx
    have Fo:t=fI+4294967296*m6:=by omega
    have bk:g*(val (aG.take i)+E*q1)=g*val (aG.take i)+E*t0:=by rw[<-Fp];grind
    rw[bk]
    have bp:E*wo+E*(4294967296*fD)=E*s+E*fI+E*d:=by rw[<-Nat.mul_add,Fl,Nat.mul_add,Nat.mul_add]
    have e0:E*t0+E*c=E*fI+E*(4294967296*m6):=by rw[<-Nat.mul_add,bM,Fo,Nat.mul_add]
    have mD:E*4294967296*(m6+fD)=E*(4294967296*m6)+E*(4294967296*fD):=by grind
    rw[Nat.mul_add]at hk
    omega
  ·rintro cT dO bU a_ ⟨dT,c,d,rfl,dK,jW,Bu,eB,gU,ae,aD,hk⟩
   simp at eB gU
   have vk:=fun ws:List Nat=>(List.getElem?_set_self (l:=bN) (a:= .own 124 l (pre++(fU ws++post))) g2)
   have EH:IntKind.u32.wrap (c:Int)=(c:Int):=mr (by omega) (by omega)
   simp
   refine ud (b:=b) (l:=l) (pre:=pre) (us:=dT) (post:=post) (cap:=cap) (n:=m+2) (vk dT) aQ (by simp[dK]) (by simp) (by omega) (by simp) (by simp) (by simp) fun mj=>?_
   rw[Bu (m+2) (Nat.le_refl _),oM]
   simp[eB,gU,EH]
   refine aT.mk (GP N9 ae aD) ?_
   rintro w b5 ⟨rfl,s,d2,rfl,ao,kW,Bx⟩
   simp
   refine CG (b:=b) (l:=l) (pre:=pre) (us:=dT) (post:=post) (cap:=cap) (n:=m+2) (z:=s) (vk dT) aQ (by simp[dK]) (by simp) (by omega) (by simp) (by simp) (by simp) fun qP=>?_
   simp
   obtain⟨ws,mW⟩:∃ws,dT.set (m+2) s=ws:=⟨_,rfl⟩
   have ly:ws.length=m+3:=by rw[<-mW];simp[dK]
   have BJ:∀x∈ws,x<4294967296:=by
    intro x J
    rw[<-mW]at J
    rcases List.mem_or_eq_of_mem_set J with J | rfl
    ·exact jW x J
    ·exact ao
   have Nr:ws[m+2]?.getD 0=s:=by rw[<-mW,List.getElem?_set_self (by omega)];rfl
   have full:∀(x:List Nat) (k:Nat),x.length=k->x.take k=x:=fun x k h=>by rw[<-h,List.take_length]
   obtain⟨lM,ru⟩:∃lM,4294967296^(m+2)=lM:=⟨_,rfl⟩
   have Xk:val ws+g*val aG=val us+lM*4294967296*d2:=by
    have bk:=sy dT (m+2) s (by omega)
    rw[mW,full ws _ ly,ru]at bk
    have bp:=jm us (m+2)
    rw[full us _ tD,oM,ru]at bp
    rw[full aG _ kg,ru]at hk
    rw[bk,bp]
    have:lM*kq+lM*(4294967296*d2)=lM*s+lM*(c+d):=by rw[<-Nat.mul_add,<-Nat.mul_add];congr 1;omega
    have:lM*4294967296*d2=lM*(4294967296*d2):=by grind
    omega
   rw[mW]
   have Br:val us % val aG=val us-q*val aG/\q*val aG<=val us/\val us<(q+1)*val aG:=by
    have o:=Nat.div_add_mod (val us) (val aG)
    have aa:=Nat.mod_lt (val us) vg
    rw[av,Nat.mul_comm]at o
    refine⟨by omega,by omega,?_⟩
    rw[Nat.succ_mul]
    omega
   have Xb:val ws<lM*4294967296:=by
    have:=ks BJ
    rwa[ly,Nat.pow_succ,ru]at this
   refine cc.join (by kernel_rfl) (fun eI fR b5=>eI 7= .int .u64 q/\∃wv:List Nat,b5=bN.set b (.own 124 l (pre++(fU wv++post)))/\wv.length=m+3/\(∀x∈wv,x<4294967296)/\val wv=val us % val aG) ?_ ?_
   ·rintro er hM-
    simp
    refine bs.bZ (fun aU=>?_) (fun aU=>?_)
    ·have hL:d2=1:=by omega
     subst hL
     have aX:g=q+1:=by
      have:q<g:=by
       rcases Nat.lt_or_ge q g with h | h
       ·exact h
       ·have:g*val aG<=q*val aG:=Nat.mul_le_mul_right _ h
        omega
      omega
     have Vu:IntKind.u64.wrap ((g:Int)-1)=(q:Int):=by rw[gv (by omega) (by omega)];omega
     simp[bV,Vu,jk]
     refine c7.range (by kernel_rfl) (m+2) (by omega) (by simp) (by rfl) (by simp) (by decide) (by decide) (fun i jI lO dx=>∃(xs:List Nat) (cC:Nat),dx=bN.set b (.own 124 l (pre++(fU xs++post)))/\xs.length=m+3/\(∀x∈xs,x<4294967296)/\(∀j,i<=j->xs[j]?.getD 0=ws[j]?.getD 0)/\jI 13= .int .u32 cC/\cC<=1/\val (xs.take i)+4294967296^i*cC=val (ws.take i)+val (aG.take i)) ?_ ?_ ?_
     ·exact⟨ws,0,rfl,ly,BJ,fun _ _=>rfl,by simp,by decide,by simp[val]⟩
     ·rintro i jI lO dx af a_ ⟨xs,cC,rfl,jB,FR,hO,lZ,vJ,NJ⟩ K aV
      simp at a_ lZ
      obtain⟨q1,tG⟩:∃x,aG[i]?.getD 0=x:=⟨_,rfl⟩
      have Ga:=tG▸AJ i
      have FB:aG[i]?=some q1:=by rw[<-tG,bz (by omega)];rfl
      obtain⟨fx,FQ⟩:∃x,ws[i]?.getD 0=x:=⟨_,rfl⟩
      have Z3:fx<4294967296:=FQ▸w7 (by decide) BJ i
      simp[a_]
      refine ud (b:=b) (l:=l) (pre:=pre) (us:=xs) (post:=post) (cap:=cap) (n:=i) (vk xs) aQ (by simp[jB]) (by simp) (by omega) (by simp) (by simp) (by simp) fun oS=>?_
      rw[hO i (Nat.le_refl _),FQ]
      simp
      refine cv (ad:=gp) (n:=i) (by simpa using(oi xs).row) (by simp) FB (by simp) (by simp) (by simp) (.inr rfl) ?_
      rintro B8 ae5 ⟨rfl,-⟩
      simp[lZ]
      refine aT.mk (JN Z3 Ga vJ) ?_
      rintro w c6 ⟨rfl,y,B5,rfl,aI,Wg,Fl⟩
      simp
      refine CG (b:=b) (l:=l) (pre:=pre) (us:=xs) (post:=post) (cap:=cap) (n:=i) (z:=y) (vk xs) aQ (by simp[jB]) (by simp) (by omega) (by simp) (by simp) (by simp) fun tX=>?_
      simp
      refine aV _ _ _ (by simp[a_]) ⟨xs.set i y,B5,by simp,by simp[jB],?_,?_,by simp,Wg,?_⟩
      ·intro x J
       rcases List.mem_or_eq_of_mem_set J with J | rfl
       ·exact FR x J
       ·exact aI
      ·intro j aY
       rw[List.getElem?_set_ne (by omega)]
       exact hO j (by omega)
      ·rw[sy _ _ _ (by omega),jm aG,jm ws,tG,FQ,Nat.pow_succ]
       generalize 4294967296^i=E at*
       have bk:E*y+E*(4294967296*B5)=E*fx+E*q1+E*cC:=by rw[<-Nat.mul_add,Fl,Nat.mul_add,Nat.mul_add]
       have bp:E*4294967296*B5=E*(4294967296*B5):=by grind
       omega
     ·rintro jI lO dx a_ ⟨xs,cC,rfl,jB,FR,hO,lZ,vJ,NJ⟩
      simp at lZ
      simp
      refine ud (b:=b) (l:=l) (pre:=pre) (us:=xs) (post:=post) (cap:=cap) (n:=m+2) (vk xs) aQ (by simp[jB]) (by simp) (by omega) (by simp) (by simp) (by simp) fun oS=>?_
      rw[hO (m+2) (Nat.le_refl _),Nr]
      obtain⟨y,aI⟩:∃y,(s+cC) % 4294967296=y:=⟨_,rfl⟩
      have r3:IntKind.u32.wrap ((s:Int)+cC)=(y:Int):=by rw[oY];omega
      simp[lZ,r3]
      refine CG (b:=b) (l:=l) (pre:=pre) (us:=xs) (post:=post) (cap:=cap) (n:=m+2) (z:=y) (vk xs) aQ (by simp[jB]) (by simp) (by omega) (by simp) (by simp) (by simp) fun tX=>?_
      simp
      have pE:∀x∈xs.set (m+2) y,x<4294967296:=by
       intro x J
       rcases List.mem_or_eq_of_mem_set J with J | rfl
       ·exact FR x J
       ·omega
      refine hM _ _ _ ⟨by simp,xs.set (m+2) y,by simp,by simp[jB],pE,?_⟩
      have bk:=sy xs (m+2) y (by omega)
      rw[full (xs.set (m+2) y) (m+2+1) (by simp[jB]),ru]at bk
      have VZ:=ks pE
      rw[List.length_set,jB,Nat.pow_succ,ru]at VZ
      have bp:=jm ws (m+2)
      rw[full ws _ ly,Nr,ru]at bp
      rw[full aG _ kg,ru]at NJ
      rw[Br.1]
      rw[aX,Nat.succ_mul]at Xk
      rcases Nat.lt_or_ge (s+cC) 4294967296 with o | o
      ·have:y=s+cC:=by omega
       subst this
       rw[Nat.mul_add]at bk
       omega
      ·have:s+cC=y+4294967296:=by omega
       have e0:lM*s+lM*cC=lM*y+lM*4294967296:=by rw[<-Nat.mul_add,this,Nat.mul_add]
       omega
    ·have Vb:d2=0:=by omega
     subst Vb
     have aX:g=q:=by
      have:g<=q:=by
       rcases Nat.lt_or_ge q g with h | h
       ·have:(q+1)*val aG<=g*val aG:=Nat.mul_le_mul_right _ h
        omega
       ·exact h
      omega
     subst aX
     exact hM _ _ _ ⟨by simp[bV],ws,rfl,ly,BJ,by rw[Br.1];omega⟩
   ·rintro eI fR b5 ⟨Lf,wv,rfl,EY,V0,Fz⟩
    simp at Lf
    have Bp:IntKind.u32.wrap (q:Int)=(q:Int):=mr (by omega) (by omega)
    simp[Lf,Bp,bd]
    exact aC _ _ ⟨⟨q,rfl,av.symm⟩,wv,rfl,EY,V0,Fz⟩
end Go.dq
end
section
set_option maxRecDepth 8000
namespace Go.dq
open Go.Proofs
open Go.Proofs.Tryz (prog)
attribute [-simp] il jk k3
theorem acA{P:Program}{r:List bG}{F:Fr}{H:ab}{Q:Fr->ab->Prop}{d t n:Nat}{x i:Operand}{s:ByteArray}{y:Nat}{ax:bb (ew d t x i::r) Q}(ao:aq F x= .string s)(bM:iG P t=true)(ak:∃k,aq F i= .int k (n:Int))(aJ:n<s.size)(aI:(s.data.getD n 0).toNat=y)(K:ba P r Q .mk (a2 F d (.int .u8 (y:Int))) H):ba P (ew d t x i::r) Q ax F H:=by
 obtain⟨k,ak⟩:=ak
 rw[k3,ao,ak,HQ,pY]
 refine dI.mk ⟨bM,by omega,by omega⟩ ?_
 rw[Int.toNat_natCast,aI]
 exact K
theorem acz{P:Program}{r:List bG}{F:Fr}{H:ab}{Q:Fr->ab->Prop}{d t n m:Nat}{x i:Operand}{s:ByteArray}{p:Nat->Nat->Prop}{ax:bb (ew d t x i::r) Q}(ao:aq F x= .string s)(bM:iG P t=true)(ak:∃k,aq F i= .int k (n:Int))(hm:s.size=m)(aJ:n<m)(aU:∀j,j<m->p j (s.data.getD j 0).toNat)(K:∀y,p n y->ba P r Q .mk (a2 F d (.int .u8 (y:Int))) H):ba P (ew d t x i::r) Q ax F H:=
 acA ao bM ak (by omega) rfl (K _ (aU n aJ))
theorem ZL{x:Nat}{H:ab}(J:x<4294967296):aO prog 132 [.int .u32 x] H (fun v H1=>H1=H/\∃n:Nat,v= .int .i64 n/\x<2^n/\n<=32/\(0<x->0<n)):=by
 refine aO.b9 fun Q aC=>?_
 apply Ya (by simp)
 unfold IQ
 simp only[kJ]
 simp
 refine cc.join (by kernel_rfl) (fun az bE H1=>H1=H/\∃y n:Nat,az 0= .int .u32 y/\az 2= .int .i64 n/\y<65536/\x<(y+1)*2^n/\n<=16/\(0<x->0<n\/0<y)) ?_ ?_
 ·rintro er hM-
  simp
  refine bs.bZ (fun ae=>?_) (fun ae=>?_)
  ·have:((x:Int).fdiv 65536)=((x/65536:Nat):Int):=by rw[ni _ (by decide)];omega
   simp[this]
   exact hM _ _ _ ⟨rfl,x/65536,16,by simp,by simp,by omega,by omega,by decide,by omega⟩
  ·exact hM _ _ _ ⟨rfl,x,0,by simp,by simp,by omega,by omega,by decide,by omega⟩
 ·rintro az bE H1 ⟨rfl,y,n,aH,aa,aI,yC,aJ,g4⟩
  simp at aH aa
  refine cc.join (by kernel_rfl) (fun c_ en bN=>bN=H1/\∃m8 ec:Nat,c_ 0= .int .u32 m8/\c_ 2= .int .i64 ec/\m8<256/\x<(m8+1)*2^ec/\ec<=24/\(0<x->0<ec\/0<m8)) ?_ ?_
  ·rintro er hM-
   simp[aH]
   refine bs.bZ (fun ae=>?_) (fun ae=>?_)
   ·have bk:((y:Int).fdiv 256)=((y/256:Nat):Int):=by rw[ni _ (by decide)];omega
    have bp:IntKind.i64.wrap ((n:Int)+8)=((n+8:Nat):Int):=by rw[b8 (by omega) (by omega)];simp
    simp[aH,bk,aa,bp]
    refine hM _ _ _ ⟨rfl,y/256,n+8,by simp,by simp,by omega,?_,by omega,fun _=> .inl (by omega)⟩
    have:(y+1)*2^n<=((y/256+1)*256)*2^n:=Nat.mul_le_mul_right _ (by omega)
    rw[Nat.pow_add,Nat.mul_comm (2^n),<-Nat.mul_assoc,show(2:Nat)^8=256 from rfl]
    omega
   ·exact hM _ _ _ ⟨rfl,y,n,by simp[aH],by simp[aa],by omega,yC,by omega,g4⟩
  ·rintro c_ en bN ⟨rfl,m8,ec,rp,uV,qC,ajw,aja,Wl⟩
   simp at rp uV
   have hH:IntKind.u8.wrap (m8:Int)=(m8:Int):=sB (by omega) (by omega)
   simp[rp,uV,hH]
   refine acz (n:=m8) (m:=256) (p:=fun j z=>j<2^z/\z<=8/\(0<j->0<z)) rfl (by simp) ⟨.u8,by simp⟩ (by kernel_rfl) qC (of_decide_eq_true (by kernel_rfl)) ?_
   rintro z ⟨ij,jg,tP⟩
   have e0:IntKind.i64.wrap (z:Int)=(z:Int):=b8 (by omega) (by omega)
   have mD:IntKind.i64.wrap ((ec:Int)+z)=((ec+z:Nat):Int):=by rw[b8 (by omega) (by omega)];simp
   simp[e0,mD,bd]
   refine aC _ _ ⟨rfl,ec+z,by simp,?_,by omega,fun h=>by have:=Wl h;omega⟩
   have:(m8+1)*2^ec<=2^z*2^ec:=Nat.mul_le_mul_right _ ij
   rw[Nat.pow_add,Nat.mul_comm (2^ec)]
   omega
theorem Z4{x:Nat}{H:ab}(J:x<4294967296)(aH:0<x):aO prog 123 [.int .u32 x] H (fun v H1=>H1=H/\∃n:Nat,v= .int .i64 n/\n<32/\x*2^n<4294967296):=by
 refine aO.b9 fun Q aC=>?_
 apply X_ (by simp)
 simp[IP]
 refine aT.mk (ZL J) ?_
 rintro v H1 ⟨rfl,n,rfl,o,aa,aA⟩
 have e:IntKind.i64.wrap (32-(n:Int))=((32-n:Nat):Int):=by rw[b8 (by omega) (by omega)];omega
 obtain⟨s,ao⟩:∃s,32-n=s:=⟨_,rfl⟩
 rw[ao]at e
 simp[e,bd]
 refine aC _ _ ⟨rfl,s,rfl,by have:=aA aH;omega,?_⟩
 have:x*2^s<2^n*2^s:=Nat.mul_lt_mul_of_pos_right o (Nat.pow_pos (by decide))
 rw[<-Nat.pow_add,show n+s=32 by omega]at this
 exact this
end Go.dq
end
