/- Part of the proof of ShopTurned. -/
import Derived.Test.YtoiodfcefbapkaaGreatShopTurnedE
set_option linter.unusedVariables false
set_option linter.unusedSimpArgs false
section
set_option maxRecDepth 8000
namespace Go.cW
open Go.Proofs
open Go.Proofs.Tryz (prog)
theorem l7{v:Value}{l:List Nat}{H:ab}(ea:c6 H 124 v l)(hlen:l.length<4611686018427387904):aP prog 110 [v] H (fun au H1=>H1=H/\∃de,c6 H 124 au de/\Trim de/\val de=val l/\de.length<=l.length):=by
 refine aP.b9 fun Q aD=>?_
 apply XO (by simp)
 simp[Hi]
 refine kY.mk (ai:=fun n F H1=>H1=H/\∃de k,c6 H 124 (F 0) de/\l=de++List.replicate k 0/\n=de.length) l.length ⟨rfl,l,0,by simpa[]using ea,by simp,rfl⟩ ?_
 rintro n F H1 ⟨rfl,de,k,lO,ar,rfl⟩ K aX
 have sB:de.length<=l.length:=by rw[ar];simp
 have gU:val de=val l:=by rw[ar,nB,Gs];simp
 obtain⟨a,cap,an⟩:=lO.1.len
 simp[an]
 refine bt.b6 (fun aG=>?_) (fun aG=>?_)
 ·obtain⟨b,i,dD,X,all,he,aT,ae,bz,la⟩:=lO.at aG
  rw[an]at he
  cases he
  have bm:((de.length:Int)-1).toNat=de.length-1:=by omega
  have bk:=OL de aG
  simp(disch:=omega)[aG,an,b7]
  refine dB.mk ⟨by omega,by omega⟩ ?_
  simp[aT,ae,bm,la _ (show de.length-1<de.length by omega)]
  refine bt.b6 (fun aN=>?_) (fun aN=>?_)
  ·simp(disch:=omega)[an,b7]
   refine abk (n:=de.length) (l:=0) (h:=de.length-1) (e:=124) (U:=1) (by simpa[an]using lO.1) (by simp) (by simp) rfl (by simp[e2];omega) (by omega) (by omega) (fun au dJ=>?_)
   simp
   refine aX (de.length-1) _ _ (by omega) ⟨rfl,de.take (de.length-1),k+1,⟨?_,fun x J=>lO.2 x (List.mem_of_mem_take J)⟩,?_,by simp⟩
   ·simpa[Nat.min_eq_left,List.map_take]using dJ
   ·rw[ar]
    conv=>lhs;rw[<-bk]
    have:de[de.length-1]?.getD 0=0:=by omega
    rw[this,List.replicate_succ,List.append_assoc]
    rfl
  ·simp[an]
   refine aD _ _ ⟨rfl,de,an▸lO,fun h=>aN ?_,gU,sB⟩
   rw[List.getLast?_eq_getElem?]at h
   simp[h]
 ·simp[aG,an]
  have:de=[]:=List.eq_nil_of_length_eq_zero (by omega)
  exact aD _ _ ⟨rfl,de,an▸lO,by simp[this,Trim],gU,sB⟩
theorem IN{x y c:Nat}{H:ab}(J:x<4294967296)(aK:y<4294967296)(ae:c<=1):aP prog 122 [.int .u32 x,.int .u32 y,.int .u32 c] H (fun au H1=>H1=H/\∃s d:Nat,au= .tuple #[.int .u32 s,.int .u32 d]/\s<4294967296/\d<=1/\s+4294967296*d=x+y+c):=by
 refine aP.b9 fun Q aD=>?_
 apply W8 (by simp)
 simp(disch:=first | omega | (simp<;>fail) | fail) [G2,gk,oA,bd,mX]
 refine aD _ _ ⟨rfl,(x+y+c) % 4294967296,(x+y+c)/4294967296,?_,by omega,by omega,by omega⟩
 simp
 omega
theorem CJ{v w:Value}{a b:List Nat}{H:ab}(bx:c6 H 124 v a)(bE:c6 H 124 w b)(oT:Trim a)(k8:Trim b)(kq:a.length<4611686018427387904)(jG:b.length<4611686018427387904):
  aP prog 101 [v,w] H (fun au H1=>H1=H/\au= .int .i64 (if val a<val b then-1 else if val b<val a then 1 else 0)):=by
 refine aP.b9 fun Q aD=>?_
 apply XE (by simp)
 obtain⟨ep,ac,rfl⟩:=bx.len
 obtain⟨IV,IZ,rfl⟩:=bE.len
 simp(disch:=omega)[Hf,b7]
 refine bt.b6 (fun aG=>?_) (fun aG=>?_)
 ·have hlen:a.length=b.length:=by omega
  simp(disch:=omega)[b7]
  refine kY.mk (ai:=fun n F H1=>H1=H/\F 0= .slice ep a.length ac/\F 1= .slice IV b.length IZ/\F 5= .int .i64 ((n:Int)-1)/\n<=a.length/\a.drop n=b.drop n) a.length ⟨rfl,by simp,by simp,by simp,Nat.le_refl _,by rw[List.drop_eq_nil_of_le (by omega),List.drop_eq_nil_of_le (by omega)]⟩ ?_
  rintro n F H1 ⟨rfl,aI,o,bJ,hz,aA⟩ K aX
  simp[aI,o,bJ]
  refine bt.b6 (fun a2=>?_) (fun a2=>?_)
  ·obtain⟨gN,i1,zs,zg,zj,jW,nZ,lS,K9,oW⟩:=bx.at (by omega)
   obtain⟨kj,i2,CG,Cq,Cv,iP,qS,m3,n6,qX⟩:=bE.at (by omega)
   cases jW
   cases iP
   have bm:((n:Int)-1).toNat=n-1:=by omega
   simp[aI,o,bJ]
   refine dB.mk ⟨by omega,by omega⟩ ?_
   simp[aI,o,bJ,nZ,lS,bm,oW _ (show n-1<a.length by omega)]
   refine dB.mk ⟨by omega,by omega⟩ ?_
   simp[aI,o,bJ,qS,m3,bm,qX _ (show n-1<b.length by omega)]
   have CR:a.drop (n-1)=a[n-1]?.getD 0::a.drop n:=by
    rw[List.drop_eq_getElem_cons (by omega),bB (by omega),Option.getD_some,Nat.sub_add_cancel (by omega)]
   have CS:b.drop (n-1)=b[n-1]?.getD 0::b.drop n:=by
    rw[List.drop_eq_getElem_cons (by omega),bB (by omega),Option.getD_some,Nat.sub_add_cancel (by omega)]
   refine bt.b6 (fun av=>?_) (fun av=>?_)
   ·simp(disch:=omega)[bJ,b7]
    refine aX (n-1) _ _ (by omega) ⟨rfl,by simp[aI],by simp[o],by simp;omega,by omega,?_⟩
    rw[CR,CS,aA]
    congr 1
    omega
   ·have key:∀(x y:List Nat),(∀z∈x,z<4294967296)->(∀z∈y,z<4294967296)->x.length=y.length->x.drop (n-1)=x[n-1]?.getD 0::x.drop n->y.drop (n-1)=y[n-1]?.getD 0::y.drop n->x.drop n=y.drop n->n-1<x.length->x[n-1]?.getD 0<y[n-1]?.getD 0->val x<val y:=by
     intro x y J aK A7 ex RX fj a5 j5
     have v1:val x=val (x.take (n-1))+4294967296^(n-1)*(x[n-1]?.getD 0+4294967296*val (x.drop n)):=by
      conv=>lhs;rw[<-List.take_append_drop (n-1) x,nB,ex]
      simp only[val,List.length_take,Nat.min_eq_left (Nat.le_of_lt a5)]
     have v2:val y=val (y.take (n-1))+4294967296^(n-1)*(y[n-1]?.getD 0+4294967296*val (y.drop n)):=by
      conv=>lhs;rw[<-List.take_append_drop (n-1) y,nB,RX]
      simp only[val,List.length_take,Nat.min_eq_left (show n-1<=y.length by omega)]
     have tl:val (x.take (n-1))<4294967296^(n-1):=by
      have:=kb (l:=x.take (n-1)) fun z aN=>J z (List.mem_of_mem_take aN)
      rwa[List.length_take,Nat.min_eq_left (Nat.le_of_lt a5)]at this
     have v4:4294967296^(n-1)*(x[n-1]?.getD 0+4294967296*val (x.drop n)+1)<=4294967296^(n-1)*(y[n-1]?.getD 0+4294967296*val (y.drop n)):=Nat.mul_le_mul_left _ (by rw[fj];omega)
     rw[Nat.mul_add,Nat.mul_one]at v4
     omega
    simp(disch:=omega)[aI,o,bJ,b7]
    refine dB.mk ⟨by omega,by omega⟩ ?_
    simp[aI,o,bJ,nZ,lS,bm,oW _ (show n-1<a.length by omega)]
    refine dB.mk ⟨by omega,by omega⟩ ?_
    simp[aI,o,bJ,qS,m3,bm,qX _ (show n-1<b.length by omega)]
    refine bt.b6 (fun a5=>?_) (fun a5=>?_)
    ·simp[bd]
     refine aD _ _ ⟨rfl,?_⟩
     rw[if_pos (key a b bx.2 bE.2 hlen CR CS aA (by omega) (by omega))]
    ·simp[bd]
     have:=key b a bE.2 bx.2 hlen.symm CS CR aA.symm (by omega) (by omega)
     refine aD _ _ ⟨rfl,?_⟩
     rw[if_neg (by omega),if_pos this]
  ·have jI:n=0:=by omega
   subst jI
   simp[bd]
   have:a=b:=by simpa using aA
   exact aD _ _ ⟨rfl,by rw[this];simp⟩
 ·simp
  refine bt.b6 (fun hz=>?_) (fun hz=>?_)
  ·simp[bd]
   have:=k8.vl bx.2 (by omega)
   exact aD _ _ ⟨rfl,by simp[this]⟩
  ·simp[bd]
   have:=oT.vl bE.2 (by omega)
   exact aD _ _ ⟨rfl,by rw[if_neg (by omega),if_pos this]⟩
theorem adQ(b:BitVec 32):IntKind.u32.wrap (b.toNat:Int)=b.toNat:=l_ (Int.natCast_nonneg _) (by have:=b.isLt;omega)
theorem aaX{z:Nat}(h:z<4294967296):z/2147483648=(z.testBit 31).toNat:=by
 rw[Nat.testBit_eq_decide_div_mod_eq]
 have:z/2^31=z/2147483648:=rfl
 rw[this]
 by_cases aN:z<2147483648
 ·rw[Nat.div_eq_of_lt aN];rfl
 ·have:z/2147483648=1:=by omega
  rw[this];rfl
theorem Ga{z:Nat}(h:z<4294967296):z.testBit 31=decide (2147483648<=z):=by
 rw[Nat.testBit_eq_decide_div_mod_eq]
 have:z/2^31=z/2147483648:=rfl
 rw[this]
 by_cases aN:z<2147483648
 ·rw[Nat.div_eq_of_lt aN];simp;omega
 ·have:z/2147483648=1:=by omega
  rw[this];simp;omega
theorem Qn(x y c:Nat)(J:x<4294967296)(aK:y<4294967296)(ae:c<=1):
  (((4294967295^^^x)&&&y) ||| ((4294967295^^^(x^^^y))&&&((x+8589934592-y-c) % 4294967296)))/2147483648=if x<y+c then 1 else 0:=by
 have aA:(x+8589934592-y-c) % 4294967296<4294967296:=Nat.mod_lt _ (by decide)
 rw[aaX]
 ·simp only[Nat.testBit_or,Nat.testBit_and,Nat.testBit_xor,Ga J,Ga aK,Ga aA,show Nat.testBit 4294967295 31=true from by decide]
  by_cases o:2147483648<=x<;>by_cases aa:2147483648<=y<;>by_cases aB:x<y+c<;>simp[o,aa,aB]<;>omega
 ·exact Nat.or_lt_two_pow (n:=32) (Nat.and_lt_two_pow _ aK) (Nat.and_lt_two_pow _ aA)
theorem FX{x y c:Nat}{H:ab}(J:x<4294967296)(aK:y<4294967296)(ae:c<=1):aP prog 127 [.int .u32 x,.int .u32 y,.int .u32 c] H (fun au H1=>H1=H/\∃s d:Nat,au= .tuple #[.int .u32 s,.int .u32 d]/\s<4294967296/\d<=1/\x+4294967296*d=s+y+c):=by
 refine aP.b9 fun Q aD=>?_
 apply Xc (by simp)
 obtain⟨d,aA⟩:∃d:Nat,d=(x+8589934592-y-c) % 4294967296:=⟨_,rfl⟩
 have bm:IntKind.u32.wrap (IntKind.u32.wrap ((x:Int)-y)-c)=(d:Int):=by
  rw[oA,oA]
  omega
 have bk:IntKind.u32.max=4294967295:=rfl
 have jD:d<4294967296:=by omega
 simp(disch:=first | omega | (simp<;>fail) | fail) [G3,bd,mX,bm,bk,adQ]
 refine aD _ _ ⟨rfl,d,if x<y+c then 1 else 0,?_,jD,by split<;>omega,by split<;>omega⟩
 have ag:=Qn x y c J aK ae
 rw[<-aA]at ag
 have aG:((4294967295#32^^^BitVec.ofNat 32 x)&&&BitVec.ofNat 32 y ||| (4294967295#32^^^(BitVec.ofNat 32 x^^^BitVec.ofNat 32 y))&&&BitVec.ofNat 32 d).toNat=((4294967295^^^x)&&&y ||| (4294967295^^^(x^^^y))&&&d):=by
  rw[BitVec.toNat_or,BitVec.toNat_and,BitVec.toNat_and,BitVec.toNat_xor,BitVec.toNat_xor,BitVec.toNat_xor,BitVec.toNat_ofNat,BitVec.toNat_ofNat,BitVec.toNat_ofNat,BitVec.toNat_ofNat,Nat.mod_eq_of_lt J,Nat.mod_eq_of_lt aK,Nat.mod_eq_of_lt jD]
 show Value.tuple #[.int .u32 d,.int .u32 ((((4294967295#32^^^BitVec.ofNat 32 x)&&&BitVec.ofNat 32 y ||| (4294967295#32^^^(BitVec.ofNat 32 x^^^BitVec.ofNat 32 y))&&&BitVec.ofNat 32 d).toNat:Int)/2147483648)]=_
 rw[aG]
 have:(((4294967295^^^x)&&&y ||| (4294967295^^^(x^^^y))&&&d:Nat):Int)/2147483648=((((4294967295^^^x)&&&y ||| (4294967295^^^(x^^^y))&&&d)/2147483648:Nat):Int):=by simp
 rw[this,ag]
theorem p5(n:Nat):made (.int .u32 0) n=(List.replicate n 0).map fun(x:Nat)=>Value.int .u32 (x:Int):=by
 unfold made
 apply List.ext_getElem (by simp)
 intro i o aa
 simp[Value.cells,Nat.mod_one]
@[simp] theorem agj(k:IntKind)(n:Int):(Value.int k n).cells= #[.int k n]:=rfl
@[simp] theorem aiy(k:IntKind)(n:Int):(Value.int k n).oneCell'=true:=rfl
@[simp] theorem akE(cs:List Value)(i:Nat)(v:Value):l9 cs i [v]=cs.set i v:=rfl
@[simp] theorem YB(H:ab)(X:bK):(H++[X])[H.length]?=some X:=by simp
@[simp] theorem af3(e:TypeId)(l:Bool)(cs:List Value):(some (bK.own e l cs)).bind bK.cells?=some cs:=rfl
@[simp] theorem agk(e:TypeId)(l:Bool)(cs:List Value):(bK.own e l cs).cells?=some cs:=rfl
@[simp] theorem agl(e:TypeId)(cs:List Value):(bK.ro e cs).cells?=some cs:=rfl
theorem nr{H:ab}{b:Nat}{X:bK}(h:H[b]?=some X)(N:ab):(H++N)[b]?=some X:=by
 rw[List.getElem?_append_left (cH.1 h).1];exact h
theorem c6.fresh(H:ab)(e:Nat)(l:List Nat)(n c:Nat)(aG:n<=c)(ar:l.length=c)(a5:∀x∈l,x<4294967296)(b:Bool):c6 (H++[.own e b (l.map fun(x:Nat)=>Value.int .u32 (x:Int))]) e (.slice (some ⟨H.length,0,none⟩) n c) (l.take n):=by
 refine⟨⟨_,c,by simp[ar,Nat.min_eq_left aG],by simp[ar,Nat.min_eq_left aG];omega,by simp,fun ae=>⟨H.length,0,_,_,rfl,YB H _,rfl,rfl,by simp[ar];omega,by simp[ar,Nat.min_eq_left aG,List.map_take]⟩⟩,fun x J=>a5 x (List.mem_of_mem_take J)⟩
theorem rK(l:List Nat)(i x:Nat)(ad:i<l.length):val ((l.set i x).take (i+1))=val (l.take i)+4294967296^i*x:=by
 rw[List.take_set,List.take_succ_eq_append_getElem ad,List.set_append_right _ _ (by simp;omega)]
 simp[Nat.min_eq_left (Nat.le_of_lt ad),nB,val]
theorem ja(l:List Nat)(i:Nat):val (l.take (i+1))=val (l.take i)+4294967296^i*(l[i]?.getD 0):=by
 by_cases ad:i<l.length
 ·rw[List.take_succ_eq_append_getElem ad,nB,bB ad]
  simp[val,Nat.min_eq_left (Nat.le_of_lt ad)]
 ·rw[List.take_of_length_le (by omega),List.take_of_length_le (by omega),List.getElem?_eq_none (by omega)]
  simp
theorem wD{l:List Nat}{m:Nat}(hm:0<m)(h:∀x∈l,x<m)(k:Nat):l[k]?.getD 0<m:=by
 by_cases ak:k<l.length
 ·rw[bB ak];exact h _ (List.getElem_mem ak)
 ·rw[List.getElem?_eq_none (by omega)];exact hm
theorem NU{v w:Value}{a b:List Nat}{H:ab}(bx:c6 H 124 v a)(bE:c6 H 124 w b)(kq:a.length<1048576)(jG:b.length<1048576):
  aP prog 116 [v,w] H (fun au H1=>Ext H H1/\∃l,c6 H1 124 au l/\Trim l/\val l=val a+val b):=by
 refine aP.b9 fun Q aD=>?_
 apply XK (by simp)
 obtain⟨ep,ac,rfl⟩:=bx.len
 obtain⟨IV,IZ,rfl⟩:=bE.len
 simp only[Hh]
 rw[cE]
 simp[-cE]
 rw[cE]
 refine g1.cut (fun ay H1=>H=H1/\∃x y iH mN c_ df,ay 0= .slice x c_.length iH/\ay 1= .slice y df.length mN/\c6 H 124 (.slice x c_.length iH) c_/\c6 H 124 (.slice y df.length mN) df/\df.length<=c_.length/\c_.length<1048576/\val c_+val df=val a+val b) ?_ ?_
 ·intro K aX
  simp(disch:=omega)[b7]
  refine bt.b6 (fun ar=>?_) (fun ar=>?_)
  ·simp
   exact aX _ _ ⟨rfl,_,_,_,_,b,a,by simp,by simp,bE,bx,by omega,jG,by omega⟩
  ·simp
   exact aX _ _ ⟨rfl,_,_,_,_,a,b,by simp,by simp,bx,bE,by omega,kq,by omega⟩
 ·rintro F H1 ⟨rfl,x,y,iH,mN,c_,df,aI,o,aT,k9,hle,a5,gU⟩
  rw[cE]
  simp(disch:=omega)[aI,o,b7,-cE]
  refine yN (e:=124) (U:=1) (bI:=4) (e4:= .i64) (c9:= .i64) (l:=c_.length+1) (c:=c_.length+1) (z:= .int .u32 0) (by simp) (by simp) (by simp) (by simp) (by rfl) (by rfl) (by simp) (by simp) (by omega) (by omega) (Nat.le_refl _) (by omega) (by omega) ?_
  simp[-cE,p5]
  rw[cE]
  simp[-cE]
  rw[cE]
  refine g1.cut (fun ay H1=>ay 0= .slice x c_.length iH/\ay 5= .slice (some ⟨H.length,0,none⟩) (c_.length+1) (c_.length+1)/\∃(out:List Nat) (c:Nat),H1=H++[.own 124 false (out.map fun(x:Nat)=>Value.int .u32 (x:Int))]/\ay 6= .int .u32 c/\c<=1/\out.length=c_.length+1/\(∀x∈out,x<4294967296)/\val (out.take c_.length)+4294967296^c_.length*c=val c_+val df) ?_ ?_
  ·intro K aX
   simp(disch:=omega)[aI,o,b7]
   refine kY.mk (ai:=fun n ay H1=>∃i:Nat,n=c_.length-i/\i<=c_.length/\ay 0= .slice x c_.length iH/\ay 1= .slice y df.length mN/\ay 21= .int .i64 c_.length/\ay 22= .int .i64 i/\ay 5= .slice (some ⟨H.length,0,none⟩) (c_.length+1) (c_.length+1)/\∃(out:List Nat) (c:Nat),H1=H++[.own 124 false (out.map fun(x:Nat)=>Value.int .u32 (x:Int))]/\ay 6= .int .u32 c/\c<=1/\out.length=c_.length+1/\(∀x∈out,x<4294967296)/\val (out.take i)+4294967296^i*c=val (c_.take i)+val (df.take i)) c_.length ?_ ?_
   ·refine⟨0,by omega,by omega,by simp[aI],by simp[o],by simp,by simp,by simp,List.replicate (c_.length+1) 0,0,by simp,by simp,by omega,by simp,by simp,by simp[val]⟩
   ·rintro n ay H1 ⟨i,rfl,ad,cB,cq,qL,h8,eQ,out,c,rfl,gw,ae,dI,jm,an⟩ eg jz
    simp[qL,h8]
    refine bt.b6 (fun jH=>?_) (fun jH=>?_)
    ·simp[cB,cq,eQ,gw,h8,-cE]
     obtain⟨gN,i1,zs,zg,zj,jW,nZ,lS,K9,oW⟩:=aT.at (by omega)
     cases jW
     have w5:=nr nZ [.own 124 false (out.map fun(x:Nat)=>Value.int .u32 (x:Int))]
     rw[cE,Gh,cE]
     simp[cB,cq,eQ,gw,h8,-cE]
     rw[cE]
     simp[cB,cq,eQ,gw,h8,-cE]
     rw[cE]
     refine g1.cut (fun bR aR=>H++[.own 124 false (out.map fun(x:Nat)=>Value.int .u32 (x:Int))]=aR/\bR 0=ay 0/\bR 1=ay 1/\bR 5=ay 5/\bR 6=ay 6/\bR 7= .int .i64 i/\bR 21=ay 21/\bR 22=ay 22/\bR 8= .int .u32 (df[i]?.getD 0:Nat)) ?_ ?_
     ·intro cV dw
      simp[cq]
      refine bt.b6 (fun xn=>?_) (fun xn=>?_)
      ·obtain⟨kj,i2,CG,Cq,Cv,iP,qS,m3,n6,qX⟩:=k9.at (by omega)
       cases iP
       have sn:=nr qS [.own 124 false (out.map fun(x:Nat)=>Value.int .u32 (x:Int))]
       simp[cq]
       refine dB.mk (by omega) ?_
       simp[cq,sn,m3,qX _ xn]
       exact dw _ _ ⟨rfl,by simp,by simp[cq],by simp,by simp,by simp,by simp,by simp,by simp⟩
      ·simp[cq]
       exact dw _ _ ⟨rfl,by simp,by simp[cq],by simp,by simp,by simp,by simp,by simp,by rw[List.getElem?_eq_none (by omega)];simp⟩
     ·rintro bR aR ⟨rfl,f0,f1,f5,f6,f7,f21,f22,f8⟩
      simp[f0,f1,f5,f6,f7,f8,cB,cq,eQ,gw]
      refine dB.mk (by omega) ?_
      simp[f0,f1,f5,f6,f7,f8,cB,cq,eQ,gw,w5,lS,oW _ jH]
      refine aV.mk (IN (aT.lt i) (k9.lt i) ae) ?_
      rintro v bP ⟨rfl,s,d,rfl,ao,aA,Er⟩
      simp[f0,f1,f5,f6,f7,f8,f22,cB,cq,eQ,gw,h8]
      refine dB.mk (by omega) ?_
      simp(disch:=omega)[f0,f1,f5,f6,f7,f8,f22,cB,cq,eQ,gw,h8,b7]
      refine dB.mk (by omega) ?_
      simp(disch:=omega)[f0,f1,f5,f6,f7,f8,f22,cB,cq,eQ,gw,h8,b7]
      refine jz (c_.length-(i+1)) _ _ (by omega) ⟨i+1,by omega,by omega,by simp[f0,cB],by simp[f1,cq],by simp[f21,qL],by simp,by simp[f5,eQ],out.set i s,d,by simp[List.map_set],by simp,aA,by simp[dI],?_,?_⟩
      ·intro z aN
       rcases List.mem_or_eq_of_mem_set aN with aN | rfl
       ·exact jm z aN
       ·exact ao
      ·rw[rK _ _ _ (by omega),ja c_,ja df,Nat.pow_succ]
       have:4294967296^i*(s+4294967296*d)=4294967296^i*(c_[i]?.getD 0+df[i]?.getD 0+c):=by rw[Er]
       grind
    ·simp
     have:i=c_.length:=by omega
     subst this
     refine aX _ _ ⟨by simp[cB],by simp[eQ],out,c,rfl,by simp[gw],ae,dI,jm,?_⟩
     rw[an,List.take_length,List.take_of_length_le hle]
  ·rintro ay H1 ⟨cB,eQ,out,c,rfl,gw,ae,dI,jm,an⟩
   rw[cE]
   simp[cB,eQ,gw,-cE]
   refine dB.mk (by omega) ?_
   simp[cB,eQ,gw,-cE]
   refine dB.mk (by omega) ?_
   rw[cE]
   have sM:(List.map (fun(x:Nat)=>Value.int .u32 (x:Int)) out).set c_.length (.int .u32 (c:Int))=(out.set c_.length c).map fun(x:Nat)=>Value.int .u32 (x:Int):=by simp[List.map_set]
   simp[cB,eQ,gw,-cE,sM,-List.map_set]
   have q1:∀z∈out.set c_.length c,z<4294967296:=fun z aN=>by
    rcases List.mem_or_eq_of_mem_set aN with aN | rfl
    ·exact jm z aN
    ·omega
   have ea:=c6.fresh H 124 (out.set c_.length c) (c_.length+1) (c_.length+1) (Nat.le_refl _) (by simp[dI]) q1 false
   refine aV.mk (l7 ea (by simp[dI];omega)) ?_
   rintro v H1 ⟨rfl,de,dG,bc,dJ,-⟩
   simp[bd,-List.map_set]
   refine aD _ _ ⟨(Ext.refl H).snoc _ _ _,de,dG,bc,?_⟩
   rw[dJ,rK _ _ _ (by omega),an,gU]
theorem Nr{v w:Value}{a b:List Nat}{H:ab}(bx:c6 H 124 v a)(bE:c6 H 124 w b)(kq:a.length<1048576)(hle:b.length<=a.length)(gU:val b<=val a):
  aP prog 118 [v,w] H (fun au H1=>Ext H H1/\∃l,c6 H1 124 au l/\Trim l/\val l=val a-val b):=by
 refine aP.b9 fun Q aD=>?_
 apply XI (by simp)
 obtain⟨x,iH,rfl⟩:=bx.len
 obtain⟨y,mN,rfl⟩:=bE.len
 by_cases pG:a.length=0
 ·have w8:a=[]:=List.eq_nil_of_length_eq_zero pG
  have m2:b=[]:=List.eq_nil_of_length_eq_zero (by omega)
  subst w8 m2
  simp only[Cs]
  rw[cE]
  simp[-cE]
  rw[cE]
  simp[-cE]
  refine BW (e:=124) (U:=1) (bI:=4) (e4:= .i64) (c9:= .i64) (by simp) (by simp) (by simp) (by simp) (by simp) ?_
  simp
  refine kY.mk (ai:=fun n ay H1=>H=H1/\ay 13= .int .i64 0/\ay 14= .int .i64 0/\ay 5= .slice (some ⟨0,0,none⟩) 0 0) 0 ⟨rfl,by simp,by simp,by simp⟩ ?_
  rintro n ay H1 ⟨rfl,C0,C1,eQ⟩ K aX
  simp[C0,C1,eQ]
  refine aV.mk (l7 (l:=[]) ⟨eo.void H _ _ _,by simp⟩ (by simp)) ?_
  rintro v H1 ⟨rfl,de,dG,bc,dJ,-⟩
  simp[bd]
  exact aD _ _ ⟨Ext.refl _,de,dG,bc,by simpa[val]using dJ⟩
 simp only[Cs]
 rw[cE]
 simp[-cE]
 rw[cE]
 simp(disch:=omega)[b7,-cE]
 refine yN (e:=124) (U:=1) (bI:=4) (e4:= .i64) (c9:= .i64) (l:=a.length) (c:=a.length) (z:= .int .u32 0) (by simp) (by simp) (by simp) (by simp) (by rfl) (by rfl) (by simp) (by simp) (by omega) (by omega) (Nat.le_refl _) (by omega) (by omega) ?_
 simp[-cE,p5]
 rw[cE]
 simp[-cE]
 rw[cE]
 refine g1.cut (fun ay H1=>ay 5= .slice (some ⟨H.length,0,none⟩) a.length a.length/\∃(out:List Nat) (c:Nat),H1=H++[.own 124 false (out.map fun(x:Nat)=>Value.int .u32 (x:Int))]/\out.length=a.length/\(∀x∈out,x<4294967296)/\val a+4294967296^a.length*c=val out+val b) ?_ ?_
 ·intro K aX
  simp(disch:=omega)[b7]
  refine kY.mk (ai:=fun n ay H1=>∃i:Nat,n=a.length-i/\i<=a.length/\ay 0= .slice x a.length iH/\ay 1= .slice y b.length mN/\ay 13= .int .i64 a.length/\ay 14= .int .i64 i/\ay 5= .slice (some ⟨H.length,0,none⟩) a.length a.length/\∃(out:List Nat) (c:Nat),H1=H++[.own 124 false (out.map fun(x:Nat)=>Value.int .u32 (x:Int))]/\ay 6= .int .u32 c/\c<=1/\out.length=a.length/\(∀x∈out,x<4294967296)/\val (a.take i)+4294967296^i*c=val (out.take i)+val (b.take i)) a.length ?_ ?_
  ·refine⟨0,by omega,by omega,by simp,by simp,by simp,by simp,by simp,List.replicate a.length 0,0,by simp,by simp,by omega,by simp,by simp,by simp[val]⟩
  ·rintro n ay H1 ⟨i,rfl,ad,cB,cq,qL,h8,eQ,out,c,rfl,gw,ae,dI,jm,an⟩ eg jz
   simp[qL,h8]
   refine bt.b6 (fun jH=>?_) (fun jH=>?_)
   ·simp[cB,cq,eQ,gw,h8,-cE]
    obtain⟨gN,i1,zs,zg,zj,jW,nZ,lS,K9,oW⟩:=bx.at (by omega)
    cases jW
    have w5:=nr nZ [.own 124 false (out.map fun(x:Nat)=>Value.int .u32 (x:Int))]
    rw[cE,Gh,cE]
    simp[cB,cq,eQ,gw,h8,-cE]
    rw[cE]
    simp[cB,cq,eQ,gw,h8,-cE]
    rw[cE]
    refine g1.cut (fun bR aR=>H++[.own 124 false (out.map fun(x:Nat)=>Value.int .u32 (x:Int))]=aR/\bR 0=ay 0/\bR 1=ay 1/\bR 5=ay 5/\bR 6=ay 6/\bR 7= .int .i64 i/\bR 13=ay 13/\bR 14=ay 14/\bR 8= .int .u32 (b[i]?.getD 0:Nat)) ?_ ?_
    ·intro cV dw
     simp[cq]
     refine bt.b6 (fun xn=>?_) (fun xn=>?_)
     ·obtain⟨kj,i2,CG,Cq,Cv,iP,qS,m3,n6,qX⟩:=bE.at (by omega)
      cases iP
      have sn:=nr qS [.own 124 false (out.map fun(x:Nat)=>Value.int .u32 (x:Int))]
      simp[cq]
      refine dB.mk (by omega) ?_
      simp[cq,sn,m3,qX _ xn]
      exact dw _ _ ⟨rfl,by simp,by simp[cq],by simp,by simp,by simp,by simp,by simp,by simp⟩
     ·simp[cq]
      exact dw _ _ ⟨rfl,by simp,by simp[cq],by simp,by simp,by simp,by simp,by simp,by rw[List.getElem?_eq_none (by omega)];simp⟩
    ·rintro bR aR ⟨rfl,f0,f1,f5,f6,f7,f21,f22,f8⟩
     simp[f0,f1,f5,f6,f7,f8,cB,cq,eQ,gw]
     refine dB.mk (by omega) ?_
     simp[f0,f1,f5,f6,f7,f8,cB,cq,eQ,gw,w5,lS,oW _ jH]
     refine aV.mk (FX (bx.lt i) (bE.lt i) ae) ?_
     rintro v bP ⟨rfl,s,d,rfl,ao,aA,Er⟩
     simp[f0,f1,f5,f6,f7,f8,f22,cB,cq,eQ,gw,h8]
     refine dB.mk (by omega) ?_
     simp(disch:=omega)[f0,f1,f5,f6,f7,f8,f22,cB,cq,eQ,gw,h8,b7]
     refine dB.mk (by omega) ?_
     simp(disch:=omega)[f0,f1,f5,f6,f7,f8,f22,cB,cq,eQ,gw,h8,b7]
     refine jz (a.length-(i+1)) _ _ (by omega) ⟨i+1,by omega,by omega,by simp[f0,cB],by simp[f1,cq],by simp[f21,qL],by simp,by simp[f5,eQ],out.set i s,d,by simp[List.map_set],by simp,aA,by simp[dI],?_,?_⟩
     ·intro z aN
      rcases List.mem_or_eq_of_mem_set aN with aN | rfl
      ·exact jm z aN
      ·exact ao
     ·rw[rK _ _ _ (by omega),ja a,ja b,Nat.pow_succ]
      have:4294967296^i*(a[i]?.getD 0+4294967296*d)=4294967296^i*(s+b[i]?.getD 0+c):=by rw[Er]
      grind
   ·simp
    have:i=a.length:=by omega
    subst this
    refine aX _ _ ⟨by simp[eQ],out,c,rfl,dI,jm,?_⟩
    rw[List.take_length,List.take_of_length_le hle,<-dI,List.take_length]at an
    rw[<-dI]
    exact an
 ·rintro ay H1 ⟨eQ,out,c,rfl,dI,jm,an⟩
  have Eh:=kb jm
  have pM:c=0:=by
   rcases Nat.eq_zero_or_pos c with h | h
   ·exact h
   ·have:4294967296^a.length*1<=4294967296^a.length*c:=Nat.mul_le_mul_left _ h
    rw[dI]at Eh
    omega
  subst pM
  rw[cE]
  simp[eQ,-cE]
  have ea:=c6.fresh H 124 out a.length a.length (Nat.le_refl _) dI jm false
  refine aV.mk (l7 ea (by simp[dI];omega)) ?_
  rintro v H1 ⟨rfl,de,dG,bc,dJ,-⟩
  simp[bd]
  refine aD _ _ ⟨(Ext.refl H).snoc _ _ _,de,dG,bc,?_⟩
  rw[dJ,<-dI,List.take_length]
  omega
theorem Pq(l:List Nat)(i x:Nat)(ad:i<l.length):val (l.set i x)+4294967296^i*(l[i]?.getD 0)=val l+4294967296^i*x:=by
 induction l generalizing i with
 | nil=>simp at ad
 | cons y l a0=>
  cases i with
  | zero=>simp[val];omega
  | succ i=>
   simp only[List.set_cons_succ,val,List.getElem?_cons_succ,Nat.pow_succ]
   have:=a0 i (by simpa using ad)
   grind
theorem Fi{p q:Nat}(a2:p<4294967296)(av:q<4294967296):IntKind.u64.wrap ((p:Int)*q)=((p*q:Nat):Int):=by
 have Vf:p*q<=4294967295*4294967295:=Nat.mul_le_mul (by omega) (by omega)
 have o:(p:Int)*q=((p*q:Nat):Int):=by simp
 rw[o]
 exact gk (Int.natCast_nonneg _) (by omega)
theorem J3{l:List Nat}{i j x:Nat}(h:i≠j):(l.set i x)[j]?.getD 0=l[j]?.getD 0:=by rw[List.getElem?_set_ne h]
theorem ON{v w:Value}{a b:List Nat}{H:ab}(bx:c6 H 124 v a)(bE:c6 H 124 w b)(kq:a.length<1048576)(jG:b.length<1048576):
  aP prog 93 [v,w] H (fun au H1=>Ext H H1/\∃l,c6 H1 124 au l/\Trim l/\val l=val a*val b):=by
 refine aP.b9 fun Q aD=>?_
 apply XN (by simp)
 obtain⟨x,iH,rfl⟩:=bx.len
 obtain⟨y,mN,rfl⟩:=bE.len
 by_cases pG:a.length+b.length=0
 ·have w8:a=[]:=List.eq_nil_of_length_eq_zero (by omega)
  have m2:b=[]:=List.eq_nil_of_length_eq_zero (by omega)
  subst w8 m2
  simp only[Ct]
  rw[cE]
  simp[-cE]
  rw[cE]
  simp(disch:=omega)[-cE,b7]
  refine BW (e:=124) (U:=1) (bI:=4) (e4:= .i64) (c9:= .i64) (by simp) (by simp) (by simp) (by simp) (by simp) ?_
  simp
  refine kY.mk (ai:=fun n ay H1=>H=H1/\ay 19= .int .i64 0/\ay 20= .int .i64 0/\ay 5= .slice (some ⟨0,0,none⟩) 0 0) 0 ⟨rfl,by simp,by simp,by simp⟩ ?_
  rintro n ay H1 ⟨rfl,C0,C1,eQ⟩ K aX
  simp[C0,C1,eQ]
  refine aV.mk (l7 (l:=[]) ⟨eo.void H _ _ _,by simp⟩ (by simp)) ?_
  rintro v H1 ⟨rfl,de,dG,bc,dJ,-⟩
  simp[bd]
  exact aD _ _ ⟨Ext.refl _,de,dG,bc,by simpa[val]using dJ⟩
 simp only[Ct]
 rw[cE]
 simp[-cE]
 rw[cE]
 simp(disch:=omega)[b7,-cE]
 refine yN (e:=124) (U:=1) (bI:=4) (e4:= .i64) (c9:= .i64) (l:=a.length+b.length) (c:=a.length+b.length) (z:= .int .u32 0) (by simp) (by simp) (by simp) (by simp) (by rfl) (by rfl) (by simp) (by simp) (by omega) (by omega) (Nat.le_refl _) (by omega) (by omega) ?_
 simp[-cE,p5]
 rw[cE]
 refine g1.cut (fun ay H1=>ay 5= .slice (some ⟨H.length,0,none⟩) (a.length+b.length) (a.length+b.length)/\∃(out:List Nat),H1=H++[.own 124 false (out.map fun(x:Nat)=>Value.int .u32 (x:Int))]/\out.length=a.length+b.length/\(∀x∈out,x<4294967296)/\val out=val a*val b) ?_ ?_
 ·intro K aX
  simp(disch:=omega)[b7]
  refine kY.mk (ai:=fun n ay H1=>∃i:Nat,n=a.length-i/\i<=a.length/\ay 18= .slice x a.length iH/\ay 1= .slice y b.length mN/\ay 19= .int .i64 a.length/\ay 20= .int .i64 i/\ay 5= .slice (some ⟨H.length,0,none⟩) (a.length+b.length) (a.length+b.length)/\∃(out:List Nat),H1=H++[.own 124 false (out.map fun(x:Nat)=>Value.int .u32 (x:Int))]/\out.length=a.length+b.length/\(∀x∈out,x<4294967296)/\(∀k,i+b.length<=k->out[k]?.getD 0=0)/\val out=val (a.take i)*val b) a.length ?_ ?_
  ·refine⟨0,by omega,by omega,by simp,by simp,by simp,by simp,by simp,List.replicate (a.length+b.length) 0,by simp,by simp,by simp,?_,by simp[val,Gs]⟩
   intro k ak
   rw[List.getElem?_replicate]
   split<;>rfl
  ·rintro n ay H1 ⟨i,rfl,ad,cB,cq,qL,h8,eQ,out,rfl,dI,jm,aN,an⟩ eg jz
   simp[qL,h8]
   refine bt.b6 (fun jH=>?_) (fun jH=>?_)
   ·simp[cB,cq,eQ,h8,-cE]
    obtain⟨gN,i1,zs,zg,zj,jW,nZ,lS,-,oW⟩:=bx.at (by omega)
    cases jW
    have w5:=nr nZ [.own 124 false (out.map fun(x:Nat)=>Value.int .u32 (x:Int))]
    obtain⟨p,a2⟩:∃p,a[i]?.getD 0=p:=⟨_,rfl⟩
    have ig:p<4294967296:=a2▸bx.lt i
    have jX:=oW _ jH
    rw[a2]at jX
    rw[cE,Gh,cE]
    simp[cB,cq,eQ,h8,-cE]
    refine dB.mk (by omega) ?_
    simp[cB,cq,eQ,h8,-cE,w5,lS,jX]
    rw[cE]
    simp[-cE]
    rw[cE]
    refine g1.cut (fun bR aR=>bR 18=ay 18/\bR 1=ay 1/\bR 19=ay 19/\bR 20=ay 20/\bR 5=ay 5/\bR 6= .int .i64 i/\∃(g7:List Nat) (c:Nat),aR=H++[.own 124 false (g7.map fun(x:Nat)=>Value.int .u32 (x:Int))]/\bR 8= .int .u64 c/\c<4294967296/\g7.length=a.length+b.length/\(∀x∈g7,x<4294967296)/\(∀k,i+b.length<=k->g7[k]?.getD 0=0)/\val g7+4294967296^(i+b.length)*c=val (a.take i)*val b+4294967296^i*(p*val b)) ?_ ?_
    ·intro cV dw
     rw[cE]
     simp[cq]
     refine kY.mk (ai:=fun n bR aR=>∃j:Nat,n=b.length-j/\j<=b.length/\bR 18=ay 18/\bR 1=ay 1/\bR 25=ay 1/\bR 26= .int .i64 b.length/\bR 27= .int .i64 j/\bR 7= .int .u32 p/\bR 19=ay 19/\bR 20=ay 20/\bR 5=ay 5/\bR 6= .int .i64 i/\∃(g7:List Nat) (c:Nat),aR=H++[.own 124 false (g7.map fun(x:Nat)=>Value.int .u32 (x:Int))]/\bR 8= .int .u64 c/\c<4294967296/\g7.length=a.length+b.length/\(∀x∈g7,x<4294967296)/\(∀k,i+b.length<=k->g7[k]?.getD 0=0)/\val g7+4294967296^(i+j)*c=val (a.take i)*val b+4294967296^i*(p*val (b.take j))) b.length ?_ ?_
     ·exact⟨0,by omega,by omega,by simp,by simp[cq],by simp[cq],by simp,by simp,by simp,by simp,by simp,by simp,by simp,out,0,by simp,by simp,by omega,dI,jm,aN,by simp[val,an]⟩
     ·rintro n bR aR ⟨j,rfl,aW,f18,f1,f25,f26,f27,f7,f19,f20,f5,f6,g7,c,rfl,f8,ae,AF,xA,s0,dJ⟩ mg fA
      simp[f26,f27]
      refine bt.b6 (fun q1=>?_) (fun q1=>?_)
      ·obtain⟨kj,i2,CG,Cq,Cv,iP,qS,m3,-,qX⟩:=bE.at (by omega)
       cases iP
       have sn:=nr qS [.own 124 false (g7.map fun(x:Nat)=>Value.int .u32 (x:Int))]
       obtain⟨q,av⟩:∃q,b[j]?.getD 0=q:=⟨_,rfl⟩
       have q6:q<4294967296:=av▸bE.lt j
       have jY:=qX _ q1
       rw[av]at jY
       obtain⟨R,aM⟩:∃R,g7[i+j]?.getD 0=R:=⟨_,rfl⟩
       have ahZ:R<4294967296:=aM▸wD (by decide) xA _
       have Lf:g7[i+j]?=some R:=by rw[bB (by omega)]at aM⊢;simpa using aM
       have Vf:p*q<=4294967295*4294967295:=Nat.mul_le_mul (by omega) (by omega)
       simp[f25,f27,cq]
       refine dB.mk (by omega) ?_
       have t1:((i:Int)+j).toNat=i+j:=by omega
       obtain⟨m,hm⟩:∃m,p*q=m:=⟨_,rfl⟩
       have vJ:IntKind.u64.wrap ((p:Int)*q)=(m:Int):=hm▸Fi ig q6
       obtain⟨s,ao⟩:∃s,(m+R+c) % 4294967296=s:=⟨_,rfl⟩
       obtain⟨d,aA⟩:∃d,(m+R+c)/4294967296=d:=⟨_,rfl⟩
       have bY:IntKind.u32.wrap ((m:Int)+R+c)=(s:Int):=by rw[oA];omega
       have h5:((m:Int)+R+c)/4294967296=(d:Int):=by omega
       simp(disch:=first | omega | (simp<;>fail) | fail) [f5,f6,f7,f8,f25,f27,cq,eQ,sn,m3,jY,b7,gk,vJ,-getElem?_pos]
       refine dB.mk (by omega) ?_
       simp(disch:=first | omega | (simp<;>fail) | fail) [f5,f6,f7,f8,f25,f27,cq,eQ,sn,m3,jY,b7,gk,vJ,t1,Lf,-getElem?_pos,bY,h5,mX]
       refine dB.mk (by omega) ?_
       simp(disch:=first | omega | (simp<;>fail) | fail) [f5,f6,f7,f8,f25,f27,cq,eQ,sn,m3,jY,b7,gk,vJ,t1,Lf,-getElem?_pos,bY,h5,mX]
       refine dB.mk (by omega) ?_
       simp(disch:=first | omega | (simp<;>fail) | fail) [f27,b7]
       refine fA (b.length-(j+1)) _ _ (by omega) ⟨j+1,by omega,by omega,by simp[f18],by simp[f1],by simp[f25],by simp[f26],by simp,by simp[f7],by simp[f19],by simp[f20],by simp[f5],by simp[f6],g7.set (i+j) s,d,by simp[List.map_set],by simp,by omega,by simp[AF],?_,?_,?_⟩
       ·intro z aN
        rcases List.mem_or_eq_of_mem_set aN with aN | rfl
        ·exact xA z aN
        ·omega
       ·intro k ak
        rw[J3 (by omega)]
        exact s0 k ak
       ·have o:=Pq g7 (i+j) s (by omega)
        rw[aM]at o
        rw[ja b,av,show i+(j+1)=i+j+1 from rfl,Nat.pow_succ]
        have aa:s+4294967296*d=p*q+R+c:=by omega
        have aB:4294967296^(i+j)*(s+4294967296*d)=4294967296^(i+j)*(p*q+R+c):=by rw[aa]
        rw[Nat.pow_add]at*
        grind
      ·simp
       have:j=b.length:=by omega
       subst this
       exact dw _ _ ⟨by simp[f18],by simp[f1],by simp[f19],by simp[f20],by simp[f5],by simp[f6],g7,c,rfl,by simp[f8],ae,AF,xA,s0,by rw[dJ,List.take_length]⟩
    ·rintro bR aR ⟨f18,f1,f19,f20,f5,f6,g7,c,rfl,f8,ae,AF,xA,s0,dJ⟩
     have vJ:IntKind.u32.wrap (c:Int)=(c:Int):=l_ (by omega) (by omega)
     have t1:((i:Int)+b.length).toNat=i+b.length:=by omega
     simp(disch:=first | omega | (simp<;>fail) | fail) [f18,f1,f19,f20,f5,f6,f8,cB,cq,eQ,h8,b7,vJ]
     refine dB.mk (by omega) ?_
     simp(disch:=first | omega | (simp<;>fail) | fail) [f18,f1,f19,f20,f5,f6,f8,cB,cq,eQ,h8,b7,vJ,t1]
     refine dB.mk (by omega) ?_
     simp(disch:=first | omega | (simp<;>fail) | fail) [f20,h8,b7]
     refine jz (a.length-(i+1)) _ _ (by omega) ⟨i+1,by omega,by omega,by simp[f18,cB],by simp[f1,cq],by simp[f19,qL],by simp,by simp[f5,eQ],g7.set (i+b.length) c,by simp[List.map_set],by simp[AF],?_,?_,?_⟩
     ·intro z aN
      rcases List.mem_or_eq_of_mem_set aN with aN | rfl
      ·exact xA z aN
      ·omega
     ·intro k ak
      rw[J3 (by omega)]
      exact s0 k (by omega)
     ·have o:=Pq g7 (i+b.length) c (by omega)
      rw[s0 _ (Nat.le_refl _)]at o
      rw[ja a,a2,Nat.add_mul]
      grind
   ·simp
    have:i=a.length:=by omega
    subst this
    exact aX _ _ ⟨by simp[eQ],out,rfl,dI,jm,by rw[an,List.take_length]⟩
 ·rintro ay H1 ⟨eQ,out,rfl,dI,jm,an⟩
  rw[cE]
  simp[eQ,-cE]
  have ea:=c6.fresh H 124 out (a.length+b.length) (a.length+b.length) (Nat.le_refl _) dI jm false
  refine aV.mk (l7 ea (by simp[dI];omega)) ?_
  rintro v H1 ⟨rfl,de,dG,bc,dJ,-⟩
  simp[bd]
  refine aD _ _ ⟨(Ext.refl H).snoc _ _ _,de,dG,bc,?_⟩
  rw[dJ,<-dI,List.take_length,an]
@[simp] theorem afV(H N:ab):(H++N)[H.length]?=N[0]?:=by rw[List.getElem?_append_right (Nat.le_refl _),Nat.sub_self]
@[simp] theorem agi(b:Bool):(Value.bool b).cells= #[.bool b]:=rfl
@[simp] theorem agm(a:Option Addr)(n c:Nat):(Value.slice a n c).cells= #[.slice a n c]:=rfl
@[simp] theorem agh(cs:Array Value):(Value.agg cs).cells=cs:=rfl
@[simp] theorem agn(s:ByteArray):(Value.string s).cells= #[.string s]:=rfl
@[simp] theorem aix(b:Bool):(Value.bool b).oneCell'=true:=rfl
@[simp] theorem aiz(a:Option Addr)(n c:Nat):(Value.slice a n c).oneCell'=true:=rfl
@[simp] theorem aiA(s:ByteArray):(Value.string s).oneCell'=true:=rfl
@[simp] theorem akD(cs:List Value)(i:Nat):l9 cs i []=dg cs i []:=rfl
@[simp] theorem akF(cs:List Value)(i:Nat)(v w:Value)(aE:List Value):l9 cs i (v::w::aE)=dg cs i (v::w::aE):=rfl
theorem Ext.more(H:ab){N:ab}(h:∀x∈N,∀e cs,x≠ .ro e cs):Ext H (H++N):=⟨N,rfl,h⟩
theorem eo.set{H:ab}{e U n b:Nat}{v:Value}{cs:List Value}{X Y:bK}(h:eo H e U v n cs)(ag:H[b]?=some Y)(he:Y.elem?≠some e):eo (H.set b X) e U v n cs:=by
 obtain⟨a,cap,an,o,aa,aB⟩:=h
 refine⟨a,cap,an,o,aa,fun ae=>?_⟩
 obtain⟨ct,i,P7,all,aY,a3,bN,ck,eU⟩:=aB ae
 refine⟨ct,i,P7,all,aY,?_,bN,ck,eU⟩
 have:b≠ct:=fun cX=>by
  subst cX
  rw[ag]at a3
  exact he (Option.some.inj a3▸ck)
 rw[List.getElem?_set_ne this]
 exact a3
theorem c6.set{H:ab}{e b:Nat}{v:Value}{l:List Nat}{X Y:bK}(h:c6 H e v l)(ag:H[b]?=some Y)(he:Y.elem?≠some e):c6 (H.set b X) e v l:=⟨h.1.set ag he,h.2⟩
theorem s7{neg:Bool}{a:Option Addr}{n c:Nat}{H:ab}:aP prog 92 [.bool neg,.slice a n c] H (fun v H1=>Ext H H1/\v= .agg #[.bool (neg&&decide (0<n)),.slice a n c]):=by
 refine aP.b9 fun Q aD=>?_
 apply XH (by simp)
 simp[Hg]
 cases neg<;>simp[dg,bd]
 ·exact aD _ _ ⟨Ext.more H (by simp),by simp⟩
 ·exact aD _ _ ⟨Ext.more H (by simp),by simp⟩
def dj(H:ab)(v:Value)(z:Int):Prop:=∃(a:Option Addr) (c:Nat) (l:List Nat),v= .agg #[.bool (decide (z<0)),.slice a l.length c]/\c6 H 124 (.slice a l.length c) l/\Trim l/\val l=z.natAbs
theorem dj.ext{H H1:ab}{v:Value}{z:Int}(h:dj H v z)(J:Ext H H1):dj H1 v z:=by
 obtain⟨a,c,l,o,aa,aB⟩:=h
 exact⟨a,c,l,o,aa.ext J,aB⟩
theorem Trim.pos{l:List Nat}(h:Trim l):0<l.length↔0<val l:=by
 have:=h.zero
 constructor
 ·intro o
  rcases Nat.eq_zero_or_pos (val l)with aa | aa
  ·rw[this.1 aa]at o;simp at o
  ·exact aa
 ·intro o
  rcases Nat.eq_zero_or_pos l.length with aa | aa
  ·rw[List.eq_nil_of_length_eq_zero aa]at o;simp[val]at o
  ·exact aa
theorem dj.mk'{H:ab}{v:Value}{neg:Bool}{l:List Nat}{a:Option Addr}{c:Nat}(an:v= .agg #[.bool (neg&&decide (0<l.length)),.slice a l.length c])(ea:c6 H 124 (.slice a l.length c) l)(bc:Trim l):dj H v (if neg=true then-(val l:Int)else val l):=by
 refine⟨a,c,l,?_,ea,bc,by cases neg<;>simp⟩
 rw[an]
 have:=bc.pos
 cases neg
 ·have e:decide ((if false=true then-(val l:Int)else(val l:Int))<0)=false:=by simp
  rw[e];simp
 ·have e:decide ((if true=true then-(val l:Int)else(val l:Int))<0)=decide (0<l.length):=by
   simp only[if_true]
   by_cases h:0<l.length
   ·have:=this.1 h
    simp[h];omega
   ·have aa:¬0<val l:=fun aa=>h (this.2 aa)
    simp[h];omega
  rw[e];simp
theorem vq{n:Int}{H:ab}(o: -9223372036854775808<=n)(aa:n<9223372036854775808):aP prog 88 [.int .i64 n] H (fun v H1=>Ext H H1/\dj H1 v n):=by
 refine aP.b9 fun Q aD=>?_
 apply Xr (by simp)
 simp only[Ha]
 rw[cE]
 simp[-cE]
 rw[cE]
 simp[-cE]
 rw[cE]
 refine g1.cut (fun ay H1=>H1=H++[.own 78 false [.bool false,.slice none 0 0]]/\ay 0= .int .i64 n/\ay 2= .pointer (some ⟨H.length,0,none⟩)/\ay 3= .int .u64 n.natAbs) ?_ ?_
 ·intro K aX
  simp
  refine bt.b6 (fun h=>?_) (fun h=>?_)
  ·simp
   refine aX _ _ ⟨rfl,by simp,by simp,?_⟩
   simp[PE]
   omega
  ·simp
   refine aX _ _ ⟨rfl,by simp,by simp,?_⟩
   simp[PE]
   omega
 ·rintro F H1 ⟨rfl,f0,f2,f3⟩
  have ag:n.natAbs<18446744073709551616:=by omega
  obtain⟨m,hm⟩:∃m,n.natAbs=m:=⟨_,rfl⟩
  rw[hm]at f3 ag
  obtain⟨bb,g4⟩:∃bb,m % 4294967296=bb:=⟨_,rfl⟩
  obtain⟨ad,h3⟩:∃ad,m/4294967296=ad:=⟨_,rfl⟩
  have bm:IntKind.u32.wrap (m:Int)=(bb:Int):=by rw[oA];omega
  have bk:IntKind.u32.wrap ((m:Int)/4294967296)=(ad:Int):=by rw[oA];omega
  rw[cE]
  simp(disch:=first | omega | (simp<;>fail) | fail) [f0,f2,f3,bm,bk,mX,-cE]
  refine te (e:=124) (U:=1) (z:= .int .u32 0) (out:=[.int .u32 bb,.int .u32 ad]) (by simp) (by simp) (by simp) (by rfl) (by rfl) (by omega) (by omega) (by omega) ?_ (by simp) ?_
  ·simp[jd,p5]
  simp[-cE]
  have ea:=c6.fresh (H++[.own 78 false [.bool false,.slice none 0 0]]) 124 [bb,ad] 2 2 (by omega) (by simp) (by simp;omega) false
  simp at ea
  refine aV.mk (l7 ea (by simp)) ?_
  rintro v H1 ⟨rfl,l,ar,bc,an,hlen⟩
  obtain⟨a,c,rfl⟩:=ar.len
  simp[f0,f2,-cE]
  refine aV.mk s7 ?_
  rintro v H1 ⟨J,rfl⟩
  have cB:H1[H.length]?=some (.own 78 false [.bool false,.slice none 0 0]):=J.get_some (by simp)
  have a5:H.length<H1.length:=(cH.1 cB).1
  have br:Ext H H1:=(Ext.more H (by simp)).aw J
  simp[f2,cB,List.getElem?_set_self a5,dg,bd,-getElem?_pos]
  refine aD _ _ ⟨br.set (Nat.le_refl _) (by simp),?_⟩
  have gU:val l=n.natAbs:=by
   rw[an]
   simp[val]
   omega
  have qR:c6 (H1.set H.length (.own 78 false [.bool (decide (n<0)&&decide (0<l.length)),.slice a l.length c])) 124 (.slice a l.length c) l:=(ar.ext J).set cB (by simp[bK.elem?])
  have pV:=dj.mk' (neg:=decide (n<0)) rfl qR bc
  rw[gU]at pV
  have aN:(if decide (n<0)=true then-((n.natAbs:Nat):Int)else(n.natAbs:Int))=n:=by
   simp only[decide_eq_true_eq]
   split<;>omega
  rwa[aN]at pV
def Fits(z:Int):Prop:=z.natAbs<4294967296^1000000
theorem Fits.length{z:Int}(h:Fits z){l:List Nat}(bc:Trim l)(an:val l=z.natAbs):l.length<=1000000:=bc.length_le (by rw[an];exact h)
theorem rz(a n m:Nat)(aO:0<a)(h:n<=m):a^n<=a^m:=Nat.pow_le_pow_right aO h
theorem FA(a b n:Nat)(h:a<=b):a^n<=b^n:=Nat.pow_le_pow_left h n
theorem Fz(a n m k:Nat)(h:n*m=k):a^k=(a^n)^m:=by rw[<-h,Nat.pow_mul]
theorem ZB(k:Nat):(4294967296:Nat)^k=2^(32*k):=by rw[Nat.pow_mul]
theorem Zy{v N:Nat}(M:Nat)(h:v<2^N)(bQ:N<=32*M):v<4294967296^M:=by
 rw[ZB];exact Nat.lt_of_lt_of_le h (Nat.pow_le_pow_right (by decide) bQ)
theorem ZC{v n:Nat}(m:Nat)(h:v<4294967296^n)(aG:n<=m):v<10^(10*m):=by
 rw[Nat.pow_mul];exact Nat.lt_of_lt_of_le h (Nat.le_trans (Nat.pow_le_pow_right (by decide) aG) (Nat.pow_le_pow_left (by decide) m))
theorem Zz(a n b c2 m k kt:Nat)(h:n*m=k)(aa:c2*m=kt)(hle:a^n<=b^c2):a^k<=b^kt:=by
 rw[<-h,<-aa,Nat.pow_mul,Nat.pow_mul];exact Nat.pow_le_pow_left hle m
theorem ZA{v e n:Nat}(m:Nat)(h:v<10^n)(he:e<=10^9)(aG:n+9<m):v*e<4294967296^m:=by
 refine Nat.lt_of_le_of_lt (Nat.mul_le_mul (Nat.le_of_lt h) he) (Nat.lt_of_lt_of_le ?_ (Nat.pow_le_pow_left (show 10<=4294967296 by decide) m))
 rw[<-Nat.pow_add];exact Nat.pow_lt_pow_right (by decide) aG
theorem FB(n:Nat)(h:n≠0):1<2^n:=Nat.one_lt_two_pow h
theorem Fits.small{z:Int}(h:z.natAbs<4294967296^8):Fits z:=Nat.lt_of_lt_of_le h (rz 4294967296 8 1000000 (by decide) (by decide))
theorem Fits.neg{z:Int}(h:Fits z):Fits (-z):=by unfold Fits at*;rwa[Int.natAbs_neg]
theorem Bk{v:Value}{a:Int}{H:ab}(bx:dj H v a):aP prog 113 [v] H (fun v H1=>Ext H H1/\dj H1 v (-a)):=by
 refine aP.b9 fun Q aD=>?_
 apply Xm (by simp)
 obtain⟨x,iH,l,rfl,ea,bc,an⟩:=bx
 simp[G8]
 refine aV.mk s7 ?_
 rintro v H1 ⟨J,rfl⟩
 have cB:H1[H.length+1]?=some (.own 78 false [.bool false,.slice none 0 0]):=J.get_some (by simp)
 have a5:H.length+1<H1.length:=(cH.1 cB).1
 have br:Ext H H1:=(Ext.more H (by simp)).aw J
 simp[cB,List.getElem?_set_self a5,dg,bd,-getElem?_pos]
 refine aD _ _ ⟨br.set (by omega) (by simp),?_⟩
 have pV:=dj.mk' (neg:= !decide (a<0)) rfl ((ea.ext br).set (X:= .own 78 false [.bool (!decide (a<0)&&decide (0<l.length)),.slice x l.length iH]) cB (by simp[bK.elem?])) bc
 rw[an]at pV
 have aN:(if(!decide (a<0))=true then-((a.natAbs:Nat):Int)else(a.natAbs:Int))= -a:=by
  simp
  split<;>omega
 rw[aN]at pV
 exact pV
theorem Ow{v:Value}{a:Int}{H:ab}(bx:dj H v a):aP prog 95 [v] H (fun v H1=>Ext H H1/\v= .int .i64 (if a<0 then-1 else if a=0 then 0 else 1)):=by
 refine aP.b9 fun Q aD=>?_
 apply Xo (by simp)
 obtain⟨x,iH,l,rfl,ea,bc,an⟩:=bx
 have a2:=bc.pos
 simp[G9]
 refine bt.b6 (fun h=>?_) (fun h=>?_)
 ·simp[bd]
  refine aD _ _ ⟨Ext.more H (by simp),?_⟩
  have:a=0:=by
   rw[h]at an
   simp[val]at an
   omega
  simp[this]
 ·simp
  have aI:a≠0:=fun aI=>by
   have:0<l.length:=List.length_pos_iff.2 h
   rw[aI]at an
   omega
  refine bt.b6 (fun o=>?_) (fun o=>?_)
  ·simp[bd]
   exact aD _ _ ⟨Ext.more H (by simp),by simp[o]⟩
  ·simp[bd]
   exact aD _ _ ⟨Ext.more H (by simp),by simp[o,aI]⟩
theorem zi{v w:Value}{a b:Int}{H:ab}(bx:dj H v a)(bE:dj H w b)(a9:Fits a)(km:Fits b):aP prog 105 [v,w] H (fun v H1=>Ext H H1/\dj H1 v (a+b)):=by
 refine aP.b9 fun Q aD=>?_
 apply Xi (by simp)
 obtain⟨x,iH,c_,rfl,ea,bc,an⟩:=bx
 obtain⟨y,mN,df,rfl,lO,wY,dJ⟩:=bE
 have kq:=a9.length bc an
 have jG:=km.length wY dJ
 have bG:Ext H (H++[.own 78 false [.bool (decide (a<0)),.slice x c_.length iH],.own 78 false [.bool (decide (b<0)),.slice y df.length mN],.own 78 false [.bool false,.slice none 0 0]]):=Ext.more H (by simp)
 have fin:∀(neg:Bool) (H1 aR:ab) (l:List Nat) (m:Option Addr) (mH:Nat),Ext (H++[.own 78 false [.bool (decide (a<0)),.slice x c_.length iH],.own 78 false [.bool (decide (b<0)),.slice y df.length mN],.own 78 false [.bool false,.slice none 0 0]]) H1->c6 H1 124 (.slice m l.length mH) l->Trim l->
   (if neg=true then-(val l:Int)else val l)=a+b->Ext H1 aR->aR[H.length+2]?=some (.own 78 false [.bool false,.slice none 0 0])/\Q (.agg #[.bool (neg&&decide (0<l.length)),.slice m l.length mH]) (aR.set (H.length+2) (.own 78 false [.bool (neg&&decide (0<l.length)),.slice m l.length mH]))/\H.length+2<aR.length:=by
  intro neg H1 aR l m mH o aa aB bs bJ
  have cB:aR[H.length+2]?=some (.own 78 false [.bool false,.slice none 0 0]):=(o.aw bJ).get_some (by simp)
  refine⟨cB,aD _ _ ⟨(bG.aw (o.aw bJ)).set (by omega) (by simp),?_⟩,(cH.1 cB).1⟩
  have:=dj.mk' (neg:=neg) rfl ((aa.ext bJ).set (X:= .own 78 false [.bool (neg&&decide (0<l.length)),.slice m l.length mH]) cB (by simp[bK.elem?])) aB
  rwa[bs]at this
 simp[G5]
 refine bt.b6 (fun h=>?_) (fun h=>?_)
 ·simp
  refine aV.mk (NU (ea.ext bG) (lO.ext bG) (by omega) (by omega)) ?_
  rintro v H1 ⟨J,l,ar,ib,iB⟩
  refine⟨J,?_⟩
  obtain⟨m,mH,rfl⟩:=ar.len
  simp
  refine aV.mk s7 ?_
  rintro v aR ⟨bf,rfl⟩
  obtain⟨cB,cq,iy⟩:=fin (decide (a<0)) H1 aR l m mH J ar ib (by
   have cu:a<0↔b<0:=by simpa using h
   rw[iB,an,dJ];simp;split<;>omega) bf
  simp[cB,List.getElem?_set_self iy,dg,bd,-getElem?_pos]
  exact cq
 ·simp
  refine aV.mk (CJ (ea.ext bG) (lO.ext bG) bc wY (by omega) (by omega)) ?_
  rintro v H1 ⟨rfl,rfl⟩
  simp
  refine bt.b6 (fun o=>?_) (fun o=>?_)
  ·have hy:val df<=val c_:=by
    rcases Nat.lt_or_ge (val c_) (val df)with aa | aa
    ·rw[if_pos aa]at o;omega
    ·exact aa
   simp
   refine aV.mk (Nr (ea.ext bG) (lO.ext bG) (by omega) ?_ hy) ?_
   ·rcases Nat.lt_or_ge c_.length df.length with aa | aa
    ·have:=wY.vl ea.2 aa
     omega
    ·exact aa
   rintro v H1 ⟨J,l,ar,ib,iB⟩
   refine⟨J,?_⟩
   obtain⟨m,mH,rfl⟩:=ar.len
   simp
   refine aV.mk s7 ?_
   rintro v aR ⟨bf,rfl⟩
   obtain⟨cB,cq,iy⟩:=fin (decide (a<0)) H1 aR l m mH J ar ib (by
    have cu:¬(a<0↔b<0):=by simpa using h
    rw[iB,an,dJ,Int.ofNat_sub (by omega)];simp;split<;>omega) bf
   simp[cB,List.getElem?_set_self iy,dg,bd,-getElem?_pos]
   exact cq
  ·have hy:val c_<=val df:=by
    rcases Nat.lt_or_ge (val c_) (val df)with aa | aa
    ·omega
    ·rw[if_neg (by omega)]at o
     split at o<;>omega
   simp
   refine aV.mk (Nr (lO.ext bG) (ea.ext bG) (by omega) ?_ hy) ?_
   ·rcases Nat.lt_or_ge df.length c_.length with aa | aa
    ·have:=bc.vl lO.2 aa
     omega
    ·exact aa
   rintro v H1 ⟨J,l,ar,ib,iB⟩
   refine⟨J,?_⟩
   obtain⟨m,mH,rfl⟩:=ar.len
   simp
   refine aV.mk s7 ?_
   rintro v aR ⟨bf,rfl⟩
   obtain⟨cB,cq,iy⟩:=fin (decide (b<0)) H1 aR l m mH J ar ib (by
    have cu:¬(a<0↔b<0):=by simpa using h
    rw[iB,an,dJ,Int.ofNat_sub (by omega)];simp;split<;>omega) bf
   simp[cB,List.getElem?_set_self iy,dg,bd,-getElem?_pos]
   exact cq
attribute [simp] List.getElem?_cons_zero List.getElem?_cons_succ
theorem dj.set{H:ab}{v:Value}{z:Int}{b:Nat}{X Y:bK}(h:dj H v z)(ag:H[b]?=some Y)(he:Y.elem?≠some 124):dj (H.set b X) v z:=by
 obtain⟨a,c,l,o,aa,aB⟩:=h
 exact⟨a,c,l,o,aa.set ag he,aB⟩
theorem dj.shape{H:ab}{v:Value}{z:Int}(h:dj H v z):∃s a n c,v= .agg #[.bool s,.slice a n c]:=by
 obtain⟨a,c,l,o,-⟩:=h
 exact⟨_,_,_,_,o⟩
theorem OF{v w:Value}{a b:Int}{H:ab}(bx:dj H v a)(bE:dj H w b)(a9:Fits a)(km:Fits b):aP prog 94 [v,w] H (fun v H1=>Ext H H1/\dj H1 v (a-b)):=by
 refine aP.b9 fun Q aD=>?_
 apply Xq (by simp)
 obtain⟨s1,b1,cT,cn,rfl⟩:=bx.shape
 obtain⟨s2,cA,c2,cD,rfl⟩:=bE.shape
 have bG:Ext H (H++[.own 78 false [.bool s1,.slice b1 cT cn],.own 78 false [.bool s2,.slice cA c2 cD],.own 78 false [.bool false,.slice none 0 0]]):=Ext.more H (by simp)
 simp[G_]
 refine aV.mk (Bk (bE.ext bG)) ?_
 rintro v H1 ⟨J,an⟩
 refine⟨J,?_⟩
 simp
 refine aV.mk (zi (bx.ext (bG.aw J)) an a9 km.neg) ?_
 rintro v aR ⟨bf,iQ⟩
 have cB:aR[H.length+2]?=some (.own 78 false [.bool false,.slice none 0 0]):=(J.aw bf).get_some (by simp)
 have a5:=(cH.1 cB).1
 obtain⟨l6,eB,j9,eL,rfl⟩:=iQ.shape
 simp[cB,List.getElem?_set_self a5,dg,bd,-getElem?_pos]
 exact aD _ _ ⟨(bG.aw (J.aw bf)).set (by omega) (by simp),iQ.set cB (by simp[bK.elem?])⟩
theorem yp{v w:Value}{a b:Int}{H:ab}(bx:dj H v a)(bE:dj H w b)(a9:Fits a)(km:Fits b):aP prog 66 [v,w] H (fun v H1=>Ext H H1/\dj H1 v (a*b)):=by
 refine aP.b9 fun Q aD=>?_
 apply Xl (by simp)
 obtain⟨x,iH,c_,rfl,ea,bc,an⟩:=bx
 obtain⟨y,mN,df,rfl,lO,wY,dJ⟩:=bE
 have kq:=a9.length bc an
 have jG:=km.length wY dJ
 have bG:Ext H (H++[.own 78 false [.bool (decide (a<0)),.slice x c_.length iH],.own 78 false [.bool (decide (b<0)),.slice y df.length mN],.own 78 false [.bool false,.slice none 0 0]]):=Ext.more H (by simp)
 simp[G7]
 refine aV.mk (ON (ea.ext bG) (lO.ext bG) (by omega) (by omega)) ?_
 rintro v H1 ⟨J,l,ar,ib,iB⟩
 refine⟨J,?_⟩
 obtain⟨m,mH,rfl⟩:=ar.len
 simp
 refine aV.mk s7 ?_
 rintro v aR ⟨bf,rfl⟩
 have cB:aR[H.length+2]?=some (.own 78 false [.bool false,.slice none 0 0]):=(J.aw bf).get_some (by simp)
 have a5:=(cH.1 cB).1
 have pV:=dj.mk' rfl (ar.ext bf) ib (neg:= !(decide (a<0)==decide (b<0)))
 have aN:(if(!(decide (a<0)==decide (b<0)))=true then-(val l:Int)else(val l:Int))=a*b:=by
  rw[iB,an,dJ]
  rcases Int.natAbs_eq a with aO | aO<;>rcases Int.natAbs_eq b with ag | ag<;>generalize a.natAbs=p at* <;>generalize b.natAbs=q at* <;>subst aO ag<;>by_cases a2:p=0<;>by_cases av:q=0<;>simp[a2,av,Int.mul_neg,Int.neg_mul]<;>omega
 rw[aN]at pV
 obtain⟨r1,KR⟩:∃r1,(!(decide (a<0)==decide (b<0))&&decide (0<l.length))=r1:=⟨_,rfl⟩
 simp[cB,List.getElem?_set_self a5,dg,bd,-getElem?_pos]
 refine aD _ _ ⟨(bG.aw (J.aw bf)).set (by omega) (by simp),?_⟩
 have:=pV.set (X:= .own 78 false [.bool (!(decide (a<0)==decide (b<0))&&decide (0<l.length)),.slice m l.length mH]) cB (by simp[bK.elem?])
 simpa using this
theorem E4{v w:Value}{a b:Int}{H:ab}(bx:dj H v a)(bE:dj H w b)(a9:Fits a)(km:Fits b):aP prog 67 [v,w] H (fun v H1=>Ext H H1/\v= .int .i64 (if a<b then-1 else if a=b then 0 else 1)):=by
 refine aP.b9 fun Q aD=>?_
 apply Xj (by simp)
 obtain⟨s1,b1,cT,cn,rfl⟩:=bx.shape
 obtain⟨s2,cA,c2,cD,rfl⟩:=bE.shape
 have bG:Ext H (H++[.own 78 false [.bool s1,.slice b1 cT cn],.own 78 false [.bool s2,.slice cA c2 cD]]):=Ext.more H (by simp)
 simp[G6]
 refine aV.mk (OF (bx.ext bG) (bE.ext bG) a9 km) ?_
 rintro v H1 ⟨J,an⟩
 simp
 refine aV.mk (Ow an) ?_
 rintro v aR ⟨bf,rfl⟩
 simp[bd]
 refine aD _ _ ⟨bG.aw (J.aw bf),?_⟩
 congr 1
 split<;>split<;>omega
def fp(H:ab)(v:Value)(n d:Int):Prop:=∃hq lj gN j8,v= .agg #[hq,lj,gN,j8]/\dj H (.agg #[hq,lj]) n/\dj H (.agg #[gN,j8]) d
theorem fp.ext{H H1:ab}{v:Value}{n d:Int}(h:fp H v n d)(J:Ext H H1):fp H1 v n d:=by
 obtain⟨hq,lj,gN,j8,o,aa,aB⟩:=h
 exact⟨hq,lj,gN,j8,o,aa.ext J,aB.ext J⟩
theorem fp.set{H:ab}{v:Value}{n d:Int}{b:Nat}{X Y:bK}(h:fp H v n d)(ag:H[b]?=some Y)(he:Y.elem?≠some 124):fp (H.set b X) v n d:=by
 obtain⟨hq,lj,gN,j8,o,aa,aB⟩:=h
 exact⟨hq,lj,gN,j8,o,aa.set ag he,aB.set ag he⟩
theorem fp.shape{H:ab}{v:Value}{n d:Int}(h:fp H v n d):∃s1 b1 cT cn s2 cA c2 cD,v= .agg #[.bool s1,.slice b1 cT cn,.bool s2,.slice cA c2 cD]/\dj H (.agg #[.bool s1,.slice b1 cT cn]) n/\dj H (.agg #[.bool s2,.slice cA c2 cD]) d:=by
 obtain⟨hq,lj,gN,j8,o,aa,aB⟩:=h
 obtain⟨s1,b1,cT,cn,bm⟩:=aa.shape
 obtain⟨s2,cA,c2,cD,bk⟩:=aB.shape
 simp at bm bk
 obtain⟨rfl,rfl⟩:=bm
 obtain⟨rfl,rfl⟩:=bk
 exact⟨s1,b1,cT,cn,s2,cA,c2,cD,o,aa,aB⟩
theorem Sa{v:Value}{a:Int}{H:ab}(bx:dj H v a):aP prog 104 [v] H (fun v H1=>Ext H H1/\fp H1 v a 1):=by
 refine aP.b9 fun Q aD=>?_
 apply Xh (by simp)
 obtain⟨s1,b1,cT,cn,rfl⟩:=bx.shape
 have bG:Ext H (H++[.own 78 false [.bool s1,.slice b1 cT cn],.own 80 false [.bool false,.slice none 0 0,.bool false,.slice none 0 0]]):=Ext.more H (by simp)
 simp[G4]
 refine aV.mk (vq (by omega) (by omega)) ?_
 rintro v H1 ⟨J,an⟩
 refine⟨J,?_⟩
 obtain⟨l6,eB,j9,eL,rfl⟩:=an.shape
 have cB:H1[H.length+1]?=some (.own 80 false [.bool false,.slice none 0 0,.bool false,.slice none 0 0]):=J.get_some (by simp)
 have a5:=(cH.1 cB).1
 simp[cB,List.getElem?_set_self a5,dg,bd,-getElem?_pos]
 refine aD _ _ ⟨(bG.aw J).set (by omega) (by simp),?_⟩
 exact fp.set ⟨_,_,_,_,rfl,bx.ext (bG.aw J),an⟩ cB (by simp[bK.elem?])
theorem adT{n:Int}{H:ab}(o: -9223372036854775808<=n)(aa:n<9223372036854775808):aP prog 59 [.int .i64 n] H (fun v H1=>Ext H H1/\fp H1 v n 1):=by
 refine aP.b9 fun Q aD=>?_
 apply XC (by simp)
 have bG:Ext H (H++[.own 80 false [.bool false,.slice none 0 0,.bool false,.slice none 0 0]]):=Ext.more H (by simp)
 simp[He]
 refine aV.mk (vq o aa) ?_
 rintro v H1 ⟨J,an⟩
 simp
 refine aV.mk (vq (by omega) (by omega)) ?_
 rintro v aR ⟨bf,iQ⟩
 obtain⟨s1,b1,cT,cn,rfl⟩:=an.shape
 obtain⟨l6,eB,j9,eL,rfl⟩:=iQ.shape
 have cB:aR[H.length]?=some (.own 80 false [.bool false,.slice none 0 0,.bool false,.slice none 0 0]):=(J.aw bf).get_some (by simp)
 have a5:=(cH.1 cB).1
 simp[cB,List.getElem?_set_self a5,dg,bd,-getElem?_pos]
 refine aD _ _ ⟨(bG.aw (J.aw bf)).set (by omega) (by simp),?_⟩
 exact fp.set ⟨_,_,_,_,rfl,an.ext bf,iQ⟩ cB (by simp[bK.elem?])
theorem E7{v:Value}{n d:Int}{H:ab}(bx:fp H v n d)(aA:0<d):aP prog 79 [v] H (fun v H1=>Ext H H1/\v= .bool (decide (d=1))):=by
 refine aP.b9 fun Q aD=>?_
 apply Xv (by simp)
 obtain⟨s1,b1,cT,cn,s2,cA,c2,cD,rfl,bQ,eH⟩:=bx.shape
 obtain⟨x,iH,l,he,ea,bc,an⟩:=eH
 simp at he
 obtain⟨rfl,rfl,rfl,rfl⟩:=he
 simp[Hb]
 refine bt.b6 (fun h=>?_) (fun h=>?_)
 ·obtain⟨b,i,cap,X,all,he,aT,ae,-,la⟩:=ea.at (by omega)
  cases he
  have DH:=nr aT [.own 80 false [.bool s1,.slice b1 cT cn,.bool (decide (d<0)),.slice (some ⟨b,i,none⟩) l.length cD]]
  obtain⟨y,rfl⟩:=List.length_eq_one_iff.1 (show l.length=1 by omega)
  have aK:=la 0 (by simp)
  simp at aK
  simp[val]at an
  simp[nr aT,ae,aK,bd,-getElem?_pos]
  refine aD _ _ ⟨Ext.more H (by simp),?_⟩
  congr 1
  simp
  omega
 ·simp[h,bd]
  refine aD _ _ ⟨Ext.more H (by simp),?_⟩
  have:d≠1:=fun e=>by
   subst e
   have o:=bc.length_le (n:=1) (by rw[an];decide)
   have:=bc.pos
   omega
  simp[this]
theorem Z0{v:Value}{n d:Int}{H:ab}(bx:fp H v n d):aP prog 75 [v] H (fun v H1=>Ext H H1/\v= .int .i64 (if n<0 then-1 else if n=0 then 0 else 1)):=by
 refine aP.b9 fun Q aD=>?_
 apply Xz (by simp)
 obtain⟨s1,b1,cT,cn,s2,cA,c2,cD,rfl,bQ,eH⟩:=bx.shape
 have bG:Ext H (H++[.own 80 false [.bool s1,.slice b1 cT cn,.bool s2,.slice cA c2 cD]]):=Ext.more H (by simp)
 simp[Hd]
 refine aV.mk (Ow (bQ.ext bG)) ?_
 rintro v H1 ⟨J,rfl⟩
 simp[bd]
 exact aD _ _ ⟨bG.aw J,rfl⟩
theorem NI{v:Value}{n d:Int}{H:ab}(bx:fp H v n d):aP prog 36 [v] H (fun v H1=>Ext H H1/\dj H1 v n):=by
 refine aP.b9 fun Q aD=>?_
 apply Xy (by simp)
 obtain⟨s1,b1,cT,cn,s2,cA,c2,cD,rfl,bQ,eH⟩:=bx.shape
 simp[Hc,dg,bd]
 have bG:Ext H (H++[.own 80 false [.bool s1,.slice b1 cT cn,.bool s2,.slice cA c2 cD],.own 78 false [.bool s1,.slice b1 cT cn]]):=Ext.more H (by simp)
 exact aD _ _ ⟨bG,bQ.ext bG⟩
def p7(a b:Int):Int:=IntKind.u64.wrap ((BitVec.ofInt 64 a ||| BitVec.ofInt 64 b).toNat:Int)
@[simp high] theorem aiW(P:Program)(t:Nat)(a b:Int):dZ P .or t (.int .u64 a) (.int .u64 b)=some (.int .u64 (p7 a b)):=Oq
theorem vt{r x:Nat}(al:r<4294967296)(J:x<4294967296):p7 ((r*4294967296:Nat):Int) (x:Int)=((r*4294967296+x:Nat):Int):=by
 unfold p7
 have o:(BitVec.ofInt 64 ((r*4294967296:Nat):Int) ||| BitVec.ofInt 64 (x:Int)).toNat=r*4294967296+x:=by
  rw[BitVec.ofInt_natCast,BitVec.ofInt_natCast,BitVec.toNat_or,BitVec.toNat_ofNat,BitVec.toNat_ofNat,Nat.mod_eq_of_lt (by omega),Nat.mod_eq_of_lt (by omega)]
  have:=Nat.two_pow_add_eq_or_of_lt (i:=32) (b:=x) J r
  rw[Nat.mul_comm]at this
  exact this.symm
 rw[o]
 exact gk (by omega) (by omega)
@[simp high] theorem ai1(P:Program)(t:Nat)(a:Int):dZ P .shl t (.int .u64 a) (.int .u64 32)=some (.int .u64 (IntKind.u64.wrap (a*4294967296))):=by
 rw[aae,if_neg (by decide)]
 rfl
theorem tn(l:List Nat)(i:Nat)(ad:i<l.length):val (l.drop i)=l[i]?.getD 0+4294967296*val (l.drop (i+1)):=by
 rw[List.drop_eq_getElem_cons ad,bB ad]
 rfl
theorem Jd{v:Value}{a:List Nat}{w:Nat}{H:ab}(bx:c6 H 124 v a)(kq:a.length<1048576)(pY:0<w)(hw:w<4294967296):
  aP prog 107 [v,.int .u32 w] H (fun au H1=>Ext H H1/\∃q l,au= .tuple #[q,.int .u32 (val a % w:Nat)]/\c6 H1 124 q l/\Trim l/\val l=val a/w):=by
 refine aP.b9 fun Q aD=>?_
 apply XD (by simp)
 obtain⟨x,iH,rfl⟩:=bx.len
 have iC:IntKind.u64.wrap (w:Int)=(w:Int):=gk (by omega) (by omega)
 by_cases pG:a.length=0
 ·have w8:a=[]:=List.eq_nil_of_length_eq_zero pG
  subst w8
  simp only[Cr]
  rw[cE]
  simp[-cE]
  rw[cE]
  simp[-cE]
  refine BW (e:=124) (U:=1) (bI:=4) (e4:= .i64) (c9:= .i64) (by simp) (by simp) (by simp) (by simp) (by simp) ?_
  simp(disch:=omega)[b7]
  refine kY.mk (ai:=fun n ay H1=>H=H1/\ay 8= .int .i64 (-1)/\ay 6= .slice (some ⟨0,0,none⟩) 0 0/\ay 7= .int .u64 0) 0 ⟨rfl,by simp,by simp,by simp⟩ ?_
  rintro n ay H1 ⟨rfl,je,gw,k6⟩ K aX
  simp[gw,k6,je]
  refine aV.mk (l7 (l:=[]) ⟨eo.void H _ _ _,by simp⟩ (by simp)) ?_
  rintro v H1 ⟨rfl,de,dG,bc,dJ,-⟩
  simp[bd,k6,oA]
  refine aD _ _ ⟨Ext.refl _,v,de,by simp[val],dG,bc,by simpa[val]using dJ⟩
 simp only[Cr]
 rw[cE]
 simp[-cE]
 rw[cE]
 simp(disch:=omega)[b7,-cE]
 refine yN (e:=124) (U:=1) (bI:=4) (e4:= .i64) (c9:= .i64) (l:=a.length) (c:=a.length) (z:= .int .u32 0) (by simp) (by simp) (by simp) (by simp) (by rfl) (by rfl) (by simp) (by simp) (by omega) (by omega) (Nat.le_refl _) (by omega) (by omega) ?_
 simp[-cE,p5]
 rw[cE]
 simp[-cE]
 rw[cE]
 refine g1.cut (fun ay H1=>ay 6= .slice (some ⟨H.length,0,none⟩) a.length a.length/\∃(out:List Nat) (r:Nat),H1=H++[.own 124 false (out.map fun(x:Nat)=>Value.int .u32 (x:Int))]/\out.length=a.length/\(∀x∈out,x<4294967296)/\ay 7= .int .u64 r/\r<w/\val a=val out*w+r) ?_ ?_
 ·intro K aX
  simp(disch:=omega)[b7]
  refine kY.mk (ai:=fun n ay H1=>n<=a.length/\ay 0= .slice x a.length iH/\ay 1= .int .u32 w/\ay 8= .int .i64 ((n:Int)-1)/\ay 6= .slice (some ⟨H.length,0,none⟩) a.length a.length/\∃(out:List Nat) (r:Nat),H1=H++[.own 124 false (out.map fun(x:Nat)=>Value.int .u32 (x:Int))]/\out.length=a.length/\(∀x∈out,x<4294967296)/\ay 7= .int .u64 r/\r<w/\val (a.drop n)=val (out.drop n)*w+r) a.length ?_ ?_
  ·refine⟨Nat.le_refl _,by simp,by simp,by simp,by simp,List.replicate a.length 0,0,by simp,by simp,by simp,by simp,pY,?_⟩
   rw[List.drop_eq_nil_of_le (by simp),List.drop_eq_nil_of_le (by simp)]
   simp[val]
  ·rintro n ay H1 ⟨aG,cB,cq,je,gw,out,r,rfl,dI,jm,k6,al,an⟩ eg jz
   simp[je]
   refine bt.b6 (fun a2=>?_) (fun a2=>?_)
   ·obtain⟨gN,i1,zs,zg,zj,jW,nZ,lS,-,oW⟩:=bx.at (by omega)
    cases jW
    have bm:((n:Int)-1).toNat=n-1:=by omega
    obtain⟨p,q4⟩:∃p,a[n-1]?.getD 0=p:=⟨_,rfl⟩
    have ig:p<4294967296:=q4▸bx.lt _
    have jX:=oW (n-1) (by omega)
    rw[q4]at jX
    obtain⟨s,ao⟩:∃s,r*4294967296=s:=⟨_,rfl⟩
    have mB:IntKind.u64.wrap ((r:Int)*4294967296)=(s:Int):=by
     rw[gk (by omega) (by omega)]
     omega
    have aW:=vt (r:=r) (by omega) ig
    rw[ao]at aW
    obtain⟨t,bO⟩:∃t,s+p=t:=⟨_,rfl⟩
    rw[bO]at aW
    obtain⟨q,av⟩:∃q,t/w=q:=⟨_,rfl⟩
    obtain⟨m,hm⟩:∃m,t % w=m:=⟨_,rfl⟩
    have m4:=Nat.div_add_mod t w
    rw[av,hm]at m4
    have eO:m<w:=hm▸Nat.mod_lt _ pY
    have q6:q<4294967296:=by
     rw[<-av]
     refine(Nat.div_lt_iff_lt_mul pY).2 ?_
     have:(r+1)*4294967296<=w*4294967296:=Nat.mul_le_mul_right _ al
     rw[Nat.mul_comm 4294967296]
     omega
    have Me:(t:Int).tdiv w=(q:Int):=by rw[<-av];rfl
    have Mg:(t:Int).tmod w=(m:Int):=by rw[<-hm];rfl
    have AP:IntKind.u64.wrap (q:Int)=(q:Int):=gk (by omega) (by omega)
    have L1:IntKind.u32.wrap (q:Int)=(q:Int):=l_ (by omega) (by omega)
    have Ej:IntKind.u64.wrap (p:Int)=(p:Int):=gk (by omega) (by omega)
    have Mt:¬(w=0):=by omega
    simp[cB,je,k6,mB]
    refine dB.mk ⟨by omega,by omega⟩ ?_
    simp[cB,je,k6,gw,cq,bm,nr nZ,lS,jX,-getElem?_pos,Ej,mB,aW,iC,Me,Mg,AP,L1,Mt]
    refine dB.mk ⟨by omega,by omega⟩ ?_
    simp(disch:=omega)[cB,je,k6,gw,cq,bm,nr nZ,lS,jX,-getElem?_pos,Ej,mB,aW,iC,Me,Mg,AP,L1,Mt,b7]
    refine dB.mk (by omega) ?_
    simp(disch:=omega)[je,b7]
    refine jz (n-1) _ _ (by omega) ⟨by omega,by simp[cB],by simp[cq],by simp;omega,by simp[gw],out.set (n-1) q,m,by simp[List.map_set],by simp[dI],?_,by simp,eO,?_⟩
    ·intro z aN
     rcases List.mem_or_eq_of_mem_set aN with aN | rfl
     ·exact jm z aN
     ·exact q6
    ·rw[tn a (n-1) (by omega),tn (out.set (n-1) q) (n-1) (by simp;omega),q4,Nat.sub_add_cancel (by omega),an,List.drop_set_of_lt (by omega),List.getElem?_set_self (by omega)]
     simp only[Option.getD_some]
     have bJ:s+p=w*q+m:=by omega
     grind
   ·simp
    have:n=0:=by omega
    subst this
    exact aX _ _ ⟨by simp[gw],out,r,rfl,dI,jm,by simp[k6],al,by simpa using an⟩
 ·rintro ay H1 ⟨gw,out,r,rfl,dI,jm,k6,al,an⟩
  have ea:=c6.fresh H 124 out a.length a.length (Nat.le_refl _) dI jm false
  have fB:IntKind.u32.wrap (r:Int)=(r:Int):=l_ (by omega) (by omega)
  rw[cE]
  simp[gw,-cE]
  refine aV.mk (l7 ea (by simp[dI];omega)) ?_
  rintro v H1 ⟨rfl,de,dG,bc,dJ,-⟩
  simp[bd,k6,fB]
  rw[<-dI,List.take_length]at dJ
  have o:val a/w=val out:=by rw[an,Nat.mul_comm,Nat.mul_add_div pY,Nat.div_eq_of_lt al,Nat.add_zero]
  have aa:val a % w=r:=by rw[an,Nat.mul_comm,Nat.mul_add_mod,Nat.mod_eq_of_lt al]
  exact aD _ _ ⟨(Ext.refl H).snoc _ _ _,v,de,by rw[aa],dG,bc,by rw[dJ,o]⟩
theorem WA{v bb ad:Int}{H:ab}:aP prog 39 [.int .i64 v,.int .i64 bb,.int .i64 ad] H (fun w H1=>H1=H/\w= .bool (decide (bb<=v/\v<=ad))):=by
 refine aP.b9 fun Q aD=>?_
 apply XT (by simp)
 simp[Hj]
 refine bt.b6 (fun h=>?_) (fun h=>?_)
 ·simp[h,bd]
  exact aD _ _ ⟨rfl,by simp[h]⟩
 ·simp[h,bd]
  exact aD _ _ ⟨rfl,by simp[h]⟩
theorem adU{x:Int}{H:ab}:aP prog 64 [.int .i64 x] H (fun w H1=>H1=H/\w= .bool (decide (x<0\/1000<x))):=by
 refine aP.b9 fun Q aD=>?_
 apply Ya (by simp)
 simp[Ho]
 refine bt.b6 (fun h=>?_) (fun h=>?_)
 ·simp[h,bd]
  exact aD _ _ ⟨rfl,by simp[h]⟩
 ·simp[h,bd]
  exact aD _ _ ⟨rfl,by simp[h]⟩
def kB(H:ab)(v:Value)(l:List Int):Prop:=eo H 3 1 v l.length (l.map (Value.int .i64))
theorem kB.ext{H H1:ab}{v:Value}{l:List Int}(h:kB H v l)(J:Ext H H1):kB H1 v l:=eo.ext h J
theorem kB.at{H:ab}{v:Value}{l:List Int}(h:kB H v l)(aG:0<l.length):∃b i cap X all,v= .slice (some ⟨b,i,none⟩) l.length cap/\H[b]?=some X/\X.cells?=some all/\∀k,k<l.length->all[i+k]?=some (.int .i64 (l[k]?.getD 0)):=by
 obtain⟨b,i,cap,X,all,o,aa,aB,bs,bJ⟩:=eo.at h aG
 refine⟨b,i,cap,X,all,o,aa,aB,fun k ak=>?_⟩
 rw[bJ k (by omega),List.getElem?_map,bB ak]
 simp
theorem kB.len{H:ab}{v:Value}{l:List Int}(h:kB H v l):∃a cap,v= .slice a l.length cap:=eo.len h
theorem WH{v:Value}{l:List Int}{H:ab}(ed:kB H v l)(ar:l.length<4611686018427387904):
  aP prog 91 [v,.func (.func 64) #[] #[]] H (fun w H1=>H1=H/\∃n:Int,w= .int .i64 n/\(0<=n↔∃x∈l,x<0\/1000<x)):=by
 refine aP.b9 fun Q aD=>?_
 apply Yg (by simp)
 obtain⟨a,cap,rfl⟩:=ed.len
 simp[Hs]
 refine kY.mk (ai:=fun n ay H1=>∃i:Nat,n=l.length-i/\i<=l.length/\H=H1/\ay 0= .slice a l.length cap/\ay 1= .func (.func 64) #[] #[]/\ay 7= .int .i64 l.length/\ay 8= .int .i64 i/\∀x∈l.take i,¬(x<0\/1000<x)) l.length ?_ ?_
 ·exact⟨0,by omega,by omega,rfl,by simp,by simp,by simp,by simp,by simp⟩
 ·rintro n ay H1 ⟨i,rfl,ad,rfl,cB,cq,k6,je,ey⟩ K aX
  simp[k6,je]
  refine bt.b6 (fun a5=>?_) (fun a5=>?_)
  ·obtain⟨b,R,dD,X,all,he,aT,ae,la⟩:=ed.at (by omega)
   cases he
   simp[cB,cq,je]
   refine dB.mk (by omega) ?_
   simp[cB,cq,je,aT,ae,la _ a5]
   refine aV.mk adU ?_
   rintro v H1 ⟨rfl,rfl⟩
   simp
   have hh:l[i]?.getD 0∈l:=by rw[bB a5];exact List.getElem_mem a5
   refine bt.mk (fun hw=>?_) (fun hw=>?_)
   ·simp[bd]
    refine aD _ _ ⟨rfl,i,rfl,?_⟩
    simp at hw
    exact⟨fun _=>⟨_,hh,by omega⟩,fun _=>by omega⟩
   ·simp(disch:=omega)[je,b7]
    refine aX (l.length-(i+1)) _ _ (by omega) ⟨i+1,by omega,by omega,rfl,by simp[cB],by simp[cq],by simp[k6],by simp,?_⟩
    intro x J
    rw[List.take_succ_eq_append_getElem a5]at J
    rcases List.mem_append.1 J with J | J
    ·exact ey x J
    ·simp at J
     simp at hw
     rw[bB a5]at hw
     subst J
     simpa using hw
  ·simp[bd]
   have:i=l.length:=by omega
   subst this
   rw[List.take_length]at ey
   exact aD _ _ ⟨rfl,-1,rfl,by simp;intro x J;have:=ey x J;omega⟩
theorem QJ{v:Value}{l:List Int}{H:ab}(ed:kB H v l)(ar:l.length<4611686018427387904):
  aP prog 63 [v,.func (.func 64) #[] #[]] H (fun w H1=>H1=H/\w= .bool (decide (∃x∈l,x<0\/1000<x))):=by
 refine aP.b9 fun Q aD=>?_
 apply Yd (by simp)
 simp[Hq]
 refine aV.mk (WH ed ar) ?_
 rintro v H1 ⟨rfl,n,rfl,aG⟩
 simp[bd]
 exact aD _ _ ⟨rfl,by simp[aG]⟩
def kg(H:ab)(v:Value)(t:List (List Int)):Prop:=∃aE:List Value,eo H 34 1 v t.length aE/\aE.length=t.length/\∀i,i<t.length->kB H (aE[i]?.getD undef) (t[i]?.getD [])
theorem kg.ext{H H1:ab}{v:Value}{t:List (List Int)}(h:kg H v t)(J:Ext H H1):kg H1 v t:=by
 obtain⟨aE,o,aa,aB⟩:=h
 exact⟨aE,o.ext J,aa,fun i ad=>(aB i ad).ext J⟩
theorem kg.len{H:ab}{v:Value}{t:List (List Int)}(h:kg H v t):∃a cap,v= .slice a t.length cap:=by
 obtain⟨aE,o,-⟩:=h
 exact o.len
theorem kg.at{H:ab}{v:Value}{t:List (List Int)}(h:kg H v t)(aG:0<t.length):∃b i cap X all,v= .slice (some ⟨b,i,none⟩) t.length cap/\H[b]?=some X/\X.cells?=some all/\∀k,k<t.length->∃a c,all[i+k]?=some (.slice a (t[k]?.getD []).length c)/\kB H (.slice a (t[k]?.getD []).length c) (t[k]?.getD []):=by
 obtain⟨aE,o,aa,aB⟩:=h
 obtain⟨b,i,cap,X,all,bm,bk,fP,k3,mW⟩:=o.at aG
 refine⟨b,i,cap,X,all,bm,bk,fP,fun k ak=>?_⟩
 have n9:=aB k ak
 obtain⟨a,c,an⟩:=n9.len
 refine⟨a,c,?_,an▸n9⟩
 rw[mW k (by omega),<-an,bB (by omega)]
 simp
def lG(n:Nat)(r:List Int):Bool:=decide (r.length≠n) || decide (∃x∈r,x<0\/1000<x)
theorem ZZ{v w:Value}{r:List Int}{t:List (List Int)}{H:ab}{cm:Nat}(bo:kB H w r)(bc:kg H v t)(bO:0<t.length)(uK:H[cm]?=some (.own 22 false [v]))(ar:r.length<4611686018427387904):
  aP prog 62 [w,.pointer (some ⟨cm,0,none⟩)] H (fun u H1=>H1=H/\u= .bool (lG (t[0]?.getD []).length r)):=by
 refine aP.b9 fun Q aD=>?_
 apply X_ (by simp)
 obtain⟨a,cap,rfl⟩:=bo.len
 obtain⟨b,i,dD,X,all,rfl,aT,ae,la⟩:=bc.at bO
 obtain⟨zh,wm,aI,-⟩:=la 0 bO
 simp[Hn,uK,-getElem?_pos]
 refine dB.mk (by omega) ?_
 simp only[Nat.add_zero]at aI
 simp[uK,aT,ae,aI,-getElem?_pos]
 refine bt.b6 (fun h=>?_) (fun h=>?_)
 ·simp[h]
  refine aV.mk (QJ bo ar) ?_
  rintro u H1 ⟨rfl,rfl⟩
  simp[bd]
  refine aD _ _ ⟨rfl,?_⟩
  simp[lG]
  intro cQ
  exact absurd (by omega) cQ
 ·simp[h,bd]
  refine aD _ _ ⟨rfl,?_⟩
  simp[lG]
  exact .inl (by omega)
theorem WG{v:Value}{t:List (List Int)}{H:ab}{cm:Nat}(bc:kg H v t)(bO:0<t.length)(uK:H[cm]?=some (.own 22 false [v]))(ar:t.length<4611686018427387904)(al:∀r∈t,r.length<4611686018427387904):
  aP prog 90 [v,.func (.func 62) #[] #[.pointer (some ⟨cm,0,none⟩)]] H (fun w H1=>H1=H/\∃n:Int,w= .int .i64 n/\(0<=n↔∃r∈t,lG (t[0]?.getD []).length r=true)):=by
 refine aP.b9 fun Q aD=>?_
 apply Yf (by simp)
 obtain⟨b,R,cap,X,all,rfl,aT,ae,la⟩:=bc.at bO
 simp[Hr]
 refine kY.mk (ai:=fun n ay H1=>∃i:Nat,n=t.length-i/\i<=t.length/\H=H1/\ay 0= .slice (some ⟨b,R,none⟩) t.length cap/\ay 1= .func (.func 62) #[] #[.pointer (some ⟨cm,0,none⟩)]/\ay 7= .int .i64 t.length/\ay 8= .int .i64 i/\∀r∈t.take i,¬(lG (t[0]?.getD []).length r=true)) t.length ?_ ?_
 ·exact⟨0,by omega,by omega,rfl,by simp,by simp,by simp,by simp,by simp⟩
 ·rintro n ay H1 ⟨i,rfl,ad,rfl,cB,cq,k6,je,ey⟩ K aX
  simp[k6,je]
  refine bt.b6 (fun a5=>?_) (fun a5=>?_)
  ·obtain⟨b1,cn,o,ed⟩:=la i a5
   simp[cB,cq,je]
   refine dB.mk (by omega) ?_
   simp[cB,cq,je,aT,ae,o,-getElem?_pos]
   have hh:t[i]?.getD []∈t:=by rw[bB a5];exact List.getElem_mem a5
   refine aV.mk (ZZ ed bc bO uK (al _ hh)) ?_
   rintro v H1 ⟨rfl,rfl⟩
   simp
   refine bt.mk (fun hw=>?_) (fun hw=>?_)
   ·simp[bd]
    exact aD _ _ ⟨rfl,i,rfl,fun _=>⟨_,hh,hw⟩,fun _=>by omega⟩
   ·simp(disch:=omega)[je,b7]
    refine aX (t.length-(i+1)) _ _ (by omega) ⟨i+1,by omega,by omega,rfl,by simp[cB],by simp[cq],by simp[k6],by simp,?_⟩
    intro x J
    rw[List.take_succ_eq_append_getElem a5]at J
    rcases List.mem_append.1 J with J | J
    ·exact ey x J
    ·simp at J
     rw[bB a5]at hw
     subst J
     simpa using hw
  ·simp[bd]
   have:i=t.length:=by omega
   subst this
   rw[List.take_length]at ey
   refine aD _ _ ⟨rfl,-1,rfl,?_⟩
   constructor
   ·intro h;omega
   ·rintro⟨r,o,aa⟩
    exact absurd aa (ey r o)
theorem QI{v:Value}{t:List (List Int)}{H:ab}{cm:Nat}(bc:kg H v t)(bO:0<t.length)(uK:H[cm]?=some (.own 22 false [v]))(ar:t.length<4611686018427387904)(al:∀r∈t,r.length<4611686018427387904):
  aP prog 61 [v,.func (.func 62) #[] #[.pointer (some ⟨cm,0,none⟩)]] H (fun w H1=>H1=H/\w= .bool (decide (∃r∈t,lG (t[0]?.getD []).length r=true))):=by
 refine aP.b9 fun Q aD=>?_
 apply Yc (by simp)
 simp[Hp]
 refine aV.mk (WG bc bO uK ar al) ?_
 rintro v H1 ⟨rfl,n,rfl,aG⟩
 simp[bd]
 refine aD _ _ ⟨rfl,?_⟩
 congr 1
 exact decide_eq_decide.2 aG
def eT(t:List (List Int)):Prop:=1<=t.length/\t.length<=8/\1<=(t[0]?.getD []).length/\(t[0]?.getD []).length<=8/\∀r∈t,lG (t[0]?.getD []).length r=false
instance(t:List (List Int)):Decidable (eT t):=by unfold eT;infer_instance
theorem Gu{v:Value}{t:List (List Int)}{H:ab}(bc:kg H v t)(ar:t.length<4611686018427387904)(al:∀r∈t,r.length<4611686018427387904):
  aP prog 31 [v] H (fun w H1=>Ext H H1/\w= .bool (decide (eT t))):=by
 refine aP.b9 fun Q aD=>?_
 apply X9 (by simp)
 obtain⟨a,cap,rfl⟩:=bc.len
 have J:Ext H (H++[.own 22 false [.slice a t.length cap]]):=Ext.more H (by simp)
 have no:¬eT t->Q (.bool false) (H++[.own 22 false [.slice a t.length cap]]):=fun h=>aD _ _ ⟨J,by simp[h]⟩
 simp[Hm]
 refine bt.b6 (fun o=>?_) (fun o=>?_)
 ·simp[o,bd]
  exact no fun h=>by have:=h.1;omega
 ·obtain⟨b,i,dD,X,all,he,aT,ae,la⟩:=bc.at (by omega)
  cases he
  obtain⟨zh,wm,aI,-⟩:=la 0 (by omega)
  simp only[Nat.add_zero]at aI
  simp[o]
  refine bt.b6 (fun aa=>?_) (fun aa=>?_)
  ·simp[o,aa,bd]
   exact no fun h=>by have:=h.2.1;omega
  ·simp[o,aa]
   refine dB.mk (by omega) ?_
   simp[o,aa,nr aT,ae,aI,-getElem?_pos]
   refine bt.b6 (fun aB=>?_) (fun aB=>?_)
   ·simp[aB,bd]
    exact no fun h=>by have:=h.2.2.1;omega
   ·simp[aB]
    refine dB.mk (by omega) ?_
    simp[aB,nr aT,ae,aI,-getElem?_pos]
    refine bt.b6 (fun bs=>?_) (fun bs=>?_)
    ·simp[bs,bd]
     exact no fun h=>by have:=h.2.2.2.1;omega
    ·simp[bs]
     refine aV.mk (QI (cm:=H.length) (bc.ext J) (by omega) (by simp) ar al) ?_
     rintro u H1 ⟨rfl,rfl⟩
     simp[bd]
     refine aD _ _ ⟨J,?_⟩
     have:eT t↔¬(∃r∈t,lG (t[0]?.getD []).length r=true):=by
      constructor
      ·rintro⟨-,-,-,-,h⟩ ⟨r,aY,a3⟩
       rw[h r aY]at a3
       cases a3
      ·intro h
       refine⟨by omega,by omega,by omega,by omega,fun r q=>?_⟩
       cases ag:lG (t[0]?.getD []).length r with
       | false=>rfl
       | true=>exact absurd ⟨r,q,ag⟩ h
     have e:decide (eT t)= !decide (∃r∈t,lG (t[0]?.getD []).length r=true):=by
      rw[<-decide_not]
      exact decide_eq_decide.2 this
     rw[e]
end Go.cW
end
section
set_option maxRecDepth 8000
namespace Go.cW
theorem dj.kept{H aH:ab}{e:Nat}{s v:Value}{z:Int}(h:dj H v z)(ak:Kept H aH s e)(cQ:124≠e):dj aH v z:=by
 obtain⟨a,c,l,o,aa,aB⟩:=h
 exact⟨a,c,l,o,⟨aa.1.kept ak cQ,aa.2⟩,aB⟩
theorem fp.kept{H aH:ab}{e:Nat}{s v:Value}{n d:Int}(h:fp H v n d)(ak:Kept H aH s e)(cQ:124≠e):fp aH v n d:=by
 obtain⟨hq,lj,gN,j8,o,aa,aB⟩:=h
 exact⟨hq,lj,gN,j8,o,aa.kept ak cQ,aB.kept ak cQ⟩
end Go.cW
end
section
set_option maxRecDepth 8000
namespace Go.cW
open Go.Proofs
open Go.Proofs.Tryz (prog)
end Go.cW
end
section
set_option maxRecDepth 8000
namespace Go.cW
open Go.Proofs
open Go.Proofs.Tryz (prog)
attribute [-simp] hF iq
def gf(H:ab)(v:Value)(n:Nat):Prop:=v= .int .u32 (n:Int)/\n<4294967296
instance:b3 gf:=⟨fun h _=>h⟩
theorem c6.row{H:ab}{e:Nat}{v:Value}{l:List Nat}(h:c6 H e v l):Row e 1 false gf H v l:=⟨_,h.1,fun i x ad=>⟨by simp[ev,List.getElem?_map,ad],h.2 x (List.mem_of_getElem? ad)⟩⟩
theorem Pl{cs:List Value}{l:List Nat}(ar:cs.length=l.length*1)(h:∀H i x,l[i]?=some x->gf H (ev false 1 cs i) x):cs=l.map fun(n:Nat)=>Value.int .u32 (n:Int):=by
 apply List.ext_getElem?
 intro i
 rw[List.getElem?_map]
 by_cases ad:i<l.length
 ·have:=(h [] i _ (bB ad)).1
  simp only[ev,Bool.false_eq_true,if_false]at this
  rw[bB ad]
  rw[bB (by omega)]at this⊢
  simpa using this
 ·rw[List.getElem?_eq_none (by omega),List.getElem?_eq_none (by omega)];rfl
theorem Row.us{H:ab}{e:Nat}{v:Value}{l:List Nat}(h:Row e 1 false gf H v l):c6 H e v l:=by
 obtain⟨cs,o,aa⟩:=h
 obtain⟨a,cap,an,aB,bs,bJ⟩:=o
 have:=Pl bs (fun _ i x ad=>aa i x ad)
 subst this
 exact⟨⟨a,cap,an,aB,bs,bJ⟩,fun x J=>by obtain⟨i,ad⟩:=List.getElem?_of_mem J;exact(aa i x ad).2⟩
theorem GB:Whole prog 124 (.int .u32 0):=⟨by kernel_rfl,by kernel_rfl,by rw[if_neg (by decide)];exact⟨by kernel_rfl,rfl⟩⟩
theorem yV(n:Int):Whole prog 124 (.int .u32 n):=⟨by kernel_rfl,rfl,by rw[if_neg (by simp[e3])];exact⟨by kernel_rfl,rfl⟩⟩
def Fq(a b:Int):Int:=IntKind.u32.wrap ((BitVec.ofInt 32 a ||| BitVec.ofInt 32 b).toNat:Int)
@[simp high] theorem aiV(P:Program)(t:Nat)(a b:Int):dZ P .or t (.int .u32 a) (.int .u32 b)=some (.int .u32 (Fq a b)):=Oq
theorem Po{v:Value}{x:List Nat}{n:Nat}{H:ab}(aT:c6 H 124 v x)(ar:x.length<1048576)(aG:n<32):
  aP prog 124 [v,.int .i64 n] H (fun au H1=>Ext H H1/\∃out,bH H.length 124 1 false gf H1 au out/\out.length=x.length+1/\val out=val x*2^n):=by
 refine aP.b9 fun Q aD=>?_
 apply XP (by simp)
 simp[Ie]
 refine cP (by simpa using aT.row) (by simp) ?_
 simp(disch:=omega)[b7]
 refine rH (e:=124) (U:=1) (bI:=4) (n:=x.length+1) (aC:=false) (z:= .int .u32 0) (af:=gf) (a:=0) (e4:= .i64) (c9:= .i64) (by simp) (by simp) (by simp) (by simp) (by rfl) (by simp) GB (by simp) (by simp) (by omega) (by omega) (by omega) (fun aH=>⟨rfl,by decide⟩) ?_
 rintro R H1 cy bw-
 simp
 refine cP (by simpa using(aT.ext bw).row) (by simp) ?_
 simp
 refine dm.range (by kernel_rfl) x.length (by omega) (by simp) (by rfl) (by simp) (by decide) (by decide) (fun i bR c5 aR=>Ext H aR/\∃out:List Nat,bH H.length 124 1 false gf aR R out/\out.length=x.length+1/\val (out.take (i+1))=val (x.take i)*2^n/\out[i]?.getD 0<2^n/\∀j,i<j->out[j]?.getD 0=0) ?_ ?_ ?_
 ·exact⟨bw,List.replicate (x.length+1) 0,cy,by simp,by simp[List.take_replicate,Gs,val],by simp[Nat.pow_pos],fun j aW=>by rw[List.getElem?_replicate];split<;>rfl⟩
 ·rintro i bR c5 aR ad a4 ⟨bf,out,fR,dI,gU,a5,aN⟩ K aX
  simp at a4
  simp[a4]
  refine cY (af:=gf) (n:=i) (by simpa using(aT.ext bf).row) (by simp[a4]) (bB ad) (by simp) (by simp) (by simp) (.inr rfl) ?_
  rintro p u ⟨rfl,hu⟩
  obtain⟨y,aK⟩:∃y,x[i]=y:=⟨_,rfl⟩
  rw[aK]at hu
  have x5:x[i]?.getD 0=y:=by rw[bB ad,aK];rfl
  have ag7:2^n<=2^31:=Nat.pow_le_pow_right (by decide) (by omega)
  obtain⟨t,bO⟩:∃t,y*2^n=t:=⟨_,rfl⟩
  have oe:t<4294967296*2^n:=by rw[<-bO];exact Nat.mul_lt_mul_of_pos_right hu (Nat.pow_pos (by decide))
  have Ew:(y:Int)*2^n=(t:Int):=by rw[<-bO];push_cast;rfl
  have mB:IntKind.u64.wrap ((y:Int)*2^n)=(t:Int):=by rw[Ew,gk (by omega) (by omega)]
  have ri:IntKind.u64.wrap (y:Int)=(y:Int):=gk (by omega) (by omega)
  have Ec:min n 64=n:=by omega
  have jI:¬((n:Int)<0):=by omega
  simp[aK,ri,Ec,jI,mB,a4]
  refine cY (af:=gf) (n:=i) (by simpa using fR.row) (by simp) (bB (show i<out.length by omega)) (by simp) (by simp) (by simp) (.inr rfl) ?_
  rintro gB lv ⟨rfl,oh⟩
  have c4:out[i]?.getD 0=out[i]:=by rw[bB (by omega)];rfl
  rw[c4]at a5
  generalize out[i]'(by omega)=h at*
  obtain⟨fw,VN⟩:∃fw,t % 4294967296=fw:=⟨_,rfl⟩
  obtain⟨mK,ah7⟩:∃mK,t/4294967296=mK:=⟨_,rfl⟩
  obtain⟨s,ao⟩:∃s,h+fw=s:=⟨_,rfl⟩
  have VM:IntKind.u32.wrap (t:Int)=(fw:Int):=by rw[oA];omega
  have hmul:fw=2^n*(fw/2^n):=by
   have o:2^n∣fw:=by
    have:(4294967296:Nat)=2^n*2^(32-n):=by rw[<-Nat.pow_add];rw[show n+(32-n)=32 by omega]
    rw[<-VN,<-bO,this,Nat.mul_comm y,Nat.mul_mod_mul_left]
    exact Nat.dvd_mul_right _ _
   exact(Nat.mul_div_cancel' o).symm
  have AY:s<4294967296:=by
   have this:(4294967296:Nat)=2^n*2^(32-n):=by rw[<-Nat.pow_add];rw[show n+(32-n)=32 by omega]
   have av:fw/2^n<2^(32-n):=by
    refine(Nat.div_lt_iff_lt_mul (Nat.pow_pos (by decide))).2 ?_
    rw[Nat.mul_comm (2^(32-n)),<-this]
    omega
   have ob:2^n*(fw/2^n+1)<=2^n*2^(32-n):=Nat.mul_le_mul_left _ av
   rw[Nat.mul_add,Nat.mul_one,<-hmul,<-this]at ob
   omega
  have AG:Fq (h:Int) (fw:Int)=(s:Int):=by
   unfold Fq
   rw[BitVec.ofInt_natCast,BitVec.ofInt_natCast,BitVec.toNat_or,BitVec.toNat_ofNat,BitVec.toNat_ofNat,Nat.mod_eq_of_lt (show h<2^32 by omega),Nat.mod_eq_of_lt (by omega)]
   have aa:=Nat.two_pow_add_eq_or_of_lt (i:=n) (b:=h) a5 (fw/2^n)
   rw[<-hmul]at aa
   rw[Nat.or_comm,<-aa,l_ (by omega) (by omega)]
   omega
  simp[VM,AG]
  refine kR (af:=gf) (n:=i) (a:=s) (by simpa using fR) (by simp) (by omega) ⟨by simp,AY⟩ (by simpa using yV _) (by simp) (fun _ _ _ _ _ h=>h) (by simp) (by simp) (by simp) (by decide) ?_
  rintro fC bP gx bG- - -
  simp at gx
  have x3:=bG H (Nat.le_refl _) bf
  have jl:IntKind.i64.wrap ((i:Int)+1)=((i+1:Nat):Int):=by rw[b7 (by omega) (by omega)];simp
  have xM:IntKind.u32.wrap ((t:Int).fdiv 4294967296)=(mK:Int):=by
   rw[mX _ (by decide),l_ (by omega) (by omega)]
   omega
  simp[a4,jl,xM]
  have Mf:mK<2^n:=by omega
  refine kR (af:=gf) (n:=i+1) (a:=mK) (by simpa using gx) (by simp) (by simp;omega) ⟨by simp,by omega⟩ (by simpa using yV _) (by simp) (fun _ _ _ _ _ h=>h) (by simp) (by simp) (by simp) (by decide) ?_
  rintro g8 b0 kH cj- - -
  simp at kH
  simp
  refine aX _ _ _ (by simp[a4]) ⟨cj H (Nat.le_refl _) x3,_,by simpa using kH,by simp[dI],?_,?_,?_⟩
  ·rw[List.take_succ_eq_append_getElem (by simp;omega),List.take_set_of_le (by omega),List.getElem_set_self,nB,rK _ _ _ (by omega)]
   rw[ja,c4]at gU
   rw[ja,x5]
   simp[val,Nat.min_eq_left (show i+1<=out.length by omega)]
   rw[Nat.add_mul,<-gU,Nat.mul_assoc,bO,Nat.pow_succ,<-ao]
   have:t=fw+4294967296*mK:=by omega
   rw[this]
   grind
  ·rw[List.getElem?_set_self (by simp;omega)];exact Mf
  ·intro j aW
   rw[List.getElem?_set_ne (by omega),List.getElem?_set_ne (by omega)]
   exact aN j (by omega)
 ·rintro bR c5 aR a4 ⟨bf,out,fR,dI,gU,-,-⟩
  simp[bd]
  refine aD _ _ ⟨bf,out,fR,dI,?_⟩
  rw[List.take_of_length_le (by omega),List.take_length]at gU
  exact gU
theorem Pp{N:Nat}:∀(l:List Nat) (m:Nat),(∀i,i<l.length->l[i]?.getD 0=N/4294967296^(m+i) % 4294967296)->N/4294967296^m<4294967296^l.length->val l=N/4294967296^m
 | [],m,h,bQ=>by simp only[List.length_nil,Nat.pow_zero,Nat.lt_one_iff]at bQ;rw[bQ];rfl
 | x::l,m,h,bQ=>by
  have aI:=h 0 (by simp)
  simp at aI
  have aA:N/4294967296^(m+1)=N/4294967296^m/4294967296:=by rw[Nat.pow_succ,Nat.div_div_eq_div_mul]
  have a0:=Pp l (m+1) (fun i ad=>by have:=h (i+1) (by simpa using ad);simp at this;rw[this,Nat.add_assoc,Nat.add_comm 1 i]) (by
   rw[aA]
   simp only[List.length_cons,Nat.pow_succ]at bQ
   exact(Nat.div_lt_iff_lt_mul (by decide)).2 bQ)
  simp only[val]
  rw[a0,aA]
  omega
theorem Pr(x:List Nat)(J:∀y∈x,y<4294967296):∀i,val x/4294967296^i=val (x.drop i)
 | 0=>by simp
 | i+1=>by
  rw[Nat.pow_succ,<-Nat.div_div_eq_div_mul,Pr x J i]
  by_cases ad:i<x.length
  ·rw[tn _ _ ad]
   have:x[i]?.getD 0<4294967296:=by rw[bB ad];exact J _ (List.getElem_mem ad)
   omega
  ·rw[List.drop_eq_nil_of_le (by omega),List.drop_eq_nil_of_le (by omega)]
   simp[val]
theorem aat(x:List Nat)(J:∀y∈x,y<4294967296)(i n:Nat)(aG:n<32):val x/2^n/4294967296^i % 4294967296=(x[i]?.getD 0+4294967296*(x[i+1]?.getD 0))/2^n % 4294967296:=by
 rw[Nat.div_div_eq_div_mul,Nat.mul_comm,<-Nat.div_div_eq_div_mul,Pr x J i]
 have e:(4294967296:Nat)=2^n*2^(32-n):=by rw[<-Nat.pow_add];rw[show n+(32-n)=32 by omega]
 have an:val (x.drop i)=x[i]?.getD 0+4294967296*(x[i+1]?.getD 0)+2^n*(4294967296*(2^(32-n)*val (x.drop (i+2)))):=by
  have aa:val (x.drop i)=x[i]?.getD 0+4294967296*(x[i+1]?.getD 0+4294967296*val (x.drop (i+2))):=by
   by_cases ad:i<x.length
   ·rw[tn _ _ ad]
    by_cases ie:i+1<x.length
    ·rw[tn _ _ ie]
    ·rw[List.drop_eq_nil_of_le (show x.length<=i+1 by omega),List.drop_eq_nil_of_le (by omega),List.getElem?_eq_none (l:=x) (i:=i+1) (by omega)];simp[val]
   ·rw[List.drop_eq_nil_of_le (by omega),List.drop_eq_nil_of_le (by omega),List.getElem?_eq_none (by omega),List.getElem?_eq_none (by omega)];simp[val]
  rw[aa,Nat.mul_left_comm (2^n),<-Nat.mul_assoc (2^n),<-e]
  omega
 rw[an,Nat.add_mul_div_left _ _ (Nat.pow_pos (by decide)),Nat.add_mul_mod_self_left]
theorem Rw{v:Value}{x:List Nat}{n:Nat}{H:ab}(aT:c6 H 124 v x)(ar:x.length<1048576)(aG:n<32):
  aP prog 126 [v,.int .i64 n] H (fun au H1=>Ext H H1/\∃l,c6 H1 124 au l/\Trim l/\val l=val x/2^n):=by
 refine aP.b9 fun Q aD=>?_
 apply XG (by simp)
 simp[H_]
 refine cP (by simpa using aT.row) (by simp) ?_
 refine rH (e:=124) (U:=1) (bI:=4) (n:=x.length) (aC:=false) (z:= .int .u32 0) (af:=gf) (a:=0) (e4:= .i64) (c9:= .i64) (by simp) (by simp) (by simp) (by simp) (by rfl) (by simp) GB (by simp) (by simp) (by omega) (by omega) (by omega) (fun aH=>⟨rfl,by decide⟩) ?_
 rintro R H1 cy bw-
 simp
 refine cP (by simpa using(aT.ext bw).row) (by simp) ?_
 simp
 refine dm.range (by kernel_rfl) x.length (by omega) (by simp) (by rfl) (by simp) (by decide) (by decide) (fun i bR c5 aR=>Ext H aR/\∃out:List Nat,bH H.length 124 1 false gf aR R out/\out.length=x.length/\∀j,j<i->out[j]?.getD 0=val x/2^n/4294967296^j % 4294967296) ?_ ?_ ?_
 ·exact⟨bw,List.replicate x.length 0,cy,by simp,fun j aW=>by omega⟩
 ·rintro i bR c5 aR ad a4 ⟨bf,out,fR,dI,gU⟩ K aX
  simp at a4
  simp[a4]
  refine cY (af:=gf) (n:=i) (by simpa using(aT.ext bf).row) (by simp[a4]) (bB ad) (by simp) (by simp) (by simp) (.inr rfl) ?_
  rintro p u ⟨rfl,hu⟩
  obtain⟨y,aK⟩:∃y,x[i]=y:=⟨_,rfl⟩
  rw[aK]at hu
  have x5:x[i]?.getD 0=y:=by rw[bB ad,aK];rfl
  have ri:IntKind.u64.wrap (y:Int)=(y:Int):=gk (by omega) (by omega)
  have jl:IntKind.i64.wrap ((i:Int)+1)=((i+1:Nat):Int):=by rw[b7 (by omega) (by omega)];simp
  simp[aK,ri,jl]
  obtain⟨z,aN⟩:∃z,x[i+1]?.getD 0=z:=⟨_,rfl⟩
  have p0:z<4294967296:=aN▸aT.lt _
  refine ca.join (by kernel_rfl) (fun dt ez bP=>bP=aR/\∃t:Nat,dt 7= .int .u64 t/\t=y+4294967296*z) ?_ ?_
  ·rintro eg hz-
   simp[jl]
   refine cP (by simpa using(aT.ext bf).row) (by simp) ?_
   simp
   refine bt.b6 (fun a5=>?_) (fun a5=>?_)
   ·simp[jl]
    have ie:i+1<x.length:=by omega
    refine cY (af:=gf) (n:=i+1) (by simpa using(aT.ext bf).row) (by simp) (bB ie) (by simp) (by simp) (by simp) (.inr rfl) ?_
    rintro p u ⟨rfl,nd⟩
    have s0:x[i+1]=z:=by rw[bB ie]at aN;exact aN
    have Wx:IntKind.u64.wrap (z:Int)=(z:Int):=gk (by omega) (by omega)
    obtain⟨s,ao⟩:∃s,z*4294967296=s:=⟨_,rfl⟩
    have di:IntKind.u64.wrap ((z:Int)*4294967296)=(s:Int):=by rw[gk (by omega) (by omega)];omega
    have aW:=vt (r:=z) p0 hu
    rw[ao]at aW
    have jF:p7 (y:Int) (s:Int)=((s+y:Nat):Int):=by
     rw[<-aW];unfold p7;congr 2;rw[BitVec.or_comm]
    obtain⟨t,bO⟩:∃t,s+y=t:=⟨_,rfl⟩
    rw[bO]at jF
    simp[s0,Wx,di,jF]
    exact hz _ _ _ ⟨rfl,t,by simp,by omega⟩
   ·have s3:z=0:=by rw[<-aN,List.getElem?_eq_none (by omega)];rfl
    exact hz _ _ _ ⟨rfl,y,by simp,by omega⟩
  ·rintro dt ez bP ⟨rfl,t,cd,bO⟩
   simp at cd
   have D8:=aat x aT.2 i n aG
   rw[x5,aN]at D8
   rw[<-bO]at D8
   obtain⟨w,hw⟩:∃w,t/2^n % 4294967296=w:=⟨_,rfl⟩
   have Ec:min n 64=n:=by omega
   have jI:¬((n:Int)<0):=by omega
   have VK:IntKind.u32.wrap ((t:Int).fdiv (2^n))=(w:Int):=by
    rw[mX _ (by exact_mod_cast Nat.zero_le _),oA,<-hw]
    rw[Int.natCast_emod,Int.natCast_ediv,Int.natCast_pow]
    rfl
   simp[cd,Ec,jI,VK]
   refine kR (af:=gf) (n:=i) (a:=w) (by simpa using fR) (by simp) (by omega) ⟨by simp,by omega⟩ (by simpa using yV _) (by simp) (fun _ _ _ _ _ h=>h) (by simp) (by simp) (by simp) (by decide) ?_
   rintro fC b0 gx bG- - -
   simp at gx
   simp
   refine aX _ _ _ (by simp[a4]) ⟨bG H (Nat.le_refl _) bf,_,by simpa using gx,by simp[dI],fun j aW=>?_⟩
   by_cases fs:j=i
   ·subst fs
    rw[List.getElem?_set_self (by omega),D8,hw]
    rfl
   ·rw[List.getElem?_set_ne (Ne.symm fs)]
    exact gU j (by omega)
 ·rintro bR c5 aR a4 ⟨bf,out,fR,dI,gU⟩
  simp
  have ea:c6 aR 124 R out:=fR.row.us
  refine aV.mk (l7 ea (by omega)) ?_
  rintro v bP ⟨rfl,l,gh,iz,mx,-⟩
  simp[bd]
  refine aD _ _ ⟨bf,l,gh,iz,?_⟩
  have:=Pp out 0 (fun j aW=>by rw[gU j (by omega),Nat.zero_add]) (by
   rw[Nat.pow_zero,Nat.div_one,dI]
   exact Nat.lt_of_le_of_lt (Nat.div_le_self _ _) (kb aT.2))
  rw[mx,this,Nat.pow_zero,Nat.div_one]
end Go.cW
end
section
set_option maxRecDepth 8000
namespace Go.cW
section
variable {E ul fI top gY aE cr:Nat}
theorem Sl(kK:ul<E)(xS:fI<4294967296)(pX:0<cr):(ul+E*(fI+4294967296*top))/(gY+E*(aE+4294967296*cr))<=top/cr:=by
 have bZ:0<E:=by omega
 rw[Nat.le_div_iff_mul_le pX]
 generalize av:(ul+E*(fI+4294967296*top))/(gY+E*(aE+4294967296*cr))=q
 have o:q*(gY+E*(aE+4294967296*cr))<=ul+E*(fI+4294967296*top):=by rw[<-av];exact Nat.div_mul_le_self _ _
 have aa:E*(4294967296*(q*cr))<=q*(gY+E*(aE+4294967296*cr)):=by
  have:q*(gY+E*(aE+4294967296*cr))=q*gY+q*E*aE+E*(4294967296*(q*cr)):=by grind
  omega
 have aB:ul+E*(fI+4294967296*top)<E*(4294967296*(top+1)):=by
  have:E*(fI+1)<=E*4294967296:=Nat.mul_le_mul_left _ xS
  grind
 have bs:E*(4294967296*(q*cr))<E*(4294967296*(top+1)):=by omega
 have bJ:=Nat.lt_of_mul_lt_mul_left bs
 omega
theorem Sn{g r:Nat}(kK:ul<E)(bO:g*cr+r=top)(h:r*4294967296+fI<g*aE):(ul+E*(fI+4294967296*top))/(gY+E*(aE+4294967296*cr))<g:=by
 have bZ:0<E:=by omega
 have aU:0<g:=by
  rcases Nat.eq_zero_or_pos g with q | q
  ·subst q;simp at h
  ·exact q
 have an:0<aE:=by
  rcases Nat.eq_zero_or_pos aE with q | q
  ·subst q;simp at h
  ·exact q
 have nX:0<gY+E*(aE+4294967296*cr):=by
  have:=Nat.mul_pos bZ an
  have:E*aE<=E*(aE+4294967296*cr):=Nat.mul_le_mul_left _ (by omega)
  omega
 rw[Nat.div_lt_iff_lt_mul nX]
 have o:fI+4294967296*top+1<=g*(aE+4294967296*cr):=by
  rw[<-bO]
  have:g*(aE+4294967296*cr)=g*aE+4294967296*(g*cr):=by grind
  omega
 have aa:E*(fI+4294967296*top+1)<=E*(g*(aE+4294967296*cr)):=Nat.mul_le_mul_left _ o
 have aB:g*(gY+E*(aE+4294967296*cr))=g*gY+E*(g*(aE+4294967296*cr)):=by grind
 have bs:E*(fI+4294967296*top+1)=E*(fI+4294967296*top)+E:=by rw[Nat.mul_add,Nat.mul_one]
 omega
theorem Sm{g r:Nat}(sT:gY<E)(pX:0<cr)(aU:g<4294967296)(bO:g*cr+r=top)(h:g*aE<=r*4294967296+fI):g<=(ul+E*(fI+4294967296*top))/(gY+E*(aE+4294967296*cr))+1:=by
 have bZ:0<E:=by omega
 rcases Nat.eq_zero_or_pos g with q | q
 ·rw[q];exact Nat.zero_le _
 have nX:0<gY+E*(aE+4294967296*cr):=by
  have:0<E*(aE+4294967296*cr):=Nat.mul_pos bZ (by omega)
  omega
 have aI:g-1<=(ul+E*(fI+4294967296*top))/(gY+E*(aE+4294967296*cr)):=by
  rw[Nat.le_div_iff_mul_le nX]
  have o:g*(aE+4294967296*cr)<=fI+4294967296*top:=by
   rw[<-bO]
   have:g*(aE+4294967296*cr)=g*aE+4294967296*(g*cr):=by grind
   omega
  have aa:E*(g*(aE+4294967296*cr))<=E*(fI+4294967296*top):=Nat.mul_le_mul_left _ o
  have aB:g*(gY+E*(aE+4294967296*cr))=g*gY+E*(g*(aE+4294967296*cr)):=by grind
  have bs:g*gY<=g*E:=Nat.mul_le_mul_left _ (by omega)
  have bJ:g*E<=4294967296*E:=Nat.mul_le_mul_right _ (by omega)
  have dP:E*4294967296<=E*(aE+4294967296*cr):=Nat.mul_le_mul_left _ (by omega)
  have cd:(g-1)*(gY+E*(aE+4294967296*cr))+(gY+E*(aE+4294967296*cr))=g*(gY+E*(aE+4294967296*cr)):=by
   rw[<-Nat.succ_mul];congr 1;omega
  rw[Nat.mul_comm E 4294967296]at dP
  omega
 exact Nat.sub_le_iff_le_add.1 aI
theorem Sk{g r:Nat}(sT:gY<E)(j3:aE<4294967296)(pX:0<cr)(aU:g<4294967296)(bO:g*cr+r=top)(al:4294967296<=r):g<=(ul+E*(fI+4294967296*top))/(gY+E*(aE+4294967296*cr)):=by
 have bZ:0<E:=by omega
 have nX:0<gY+E*(aE+4294967296*cr):=by
  have:0<E*(aE+4294967296*cr):=Nat.mul_pos bZ (by omega)
  omega
 rw[Nat.le_div_iff_mul_le nX]
 have o:gY+E*(aE+4294967296*cr)<=E*(4294967296*(cr+1)):=by
  have:E*(aE+1)<=E*4294967296:=Nat.mul_le_mul_left _ j3
  grind
 have aa:g*(gY+E*(aE+4294967296*cr))<=g*(E*(4294967296*(cr+1))):=Nat.mul_le_mul_left _ o
 have aB:g*(E*(4294967296*(cr+1)))=E*(4294967296*(g*cr+g)):=by grind
 have bs:E*(4294967296*(g*cr+g))<=E*(4294967296*top):=Nat.mul_le_mul_left _ (Nat.mul_le_mul_left _ (by omega))
 have bJ:E*(4294967296*top)<=E*(fI+4294967296*top):=Nat.mul_le_mul_left _ (by omega)
 omega
end
theorem adG(l:List Nat)(n:Nat)(ar:l.length=n+1)(aG:2<=n):val l=val (l.take (n-2))+4294967296^(n-2)*(l[n-2]?.getD 0+4294967296*(l[n-1]?.getD 0+4294967296*(l[n]?.getD 0))):=by
 have hs:l.take (n+1)=l:=by rw[<-ar,List.take_length]
 have o:=ja l n
 have aa:=ja l (n-1)
 have aB:=ja l (n-2)
 rw[show n-1+1=n by omega]at aa
 rw[show n-2+1=n-1 by omega]at aB
 rw[hs]at o
 rw[o,aa,aB]
 have da:(4294967296:Nat)^(n-1)=4294967296^(n-2)*4294967296:=by rw[<-Nat.pow_succ];congr 1;omega
 have gB:(4294967296:Nat)^n=4294967296^(n-2)*4294967296*4294967296:=by rw[<-Nat.pow_succ,<-Nat.pow_succ];congr 1;omega
 rw[da,gB]
 generalize (4294967296:Nat)^(n-2)=E
 grind
theorem adF(l:List Nat)(n:Nat)(ar:l.length=n)(aG:2<=n):val l=val (l.take (n-2))+4294967296^(n-2)*(l[n-2]?.getD 0+4294967296*(l[n-1]?.getD 0)):=by
 have hs:l.take n=l:=by rw[<-ar,List.take_length]
 have aa:=ja l (n-1)
 have aB:=ja l (n-2)
 rw[show n-1+1=n by omega,hs]at aa
 rw[show n-2+1=n-1 by omega]at aB
 rw[aa,aB]
 have da:(4294967296:Nat)^(n-1)=4294967296^(n-2)*4294967296:=by rw[<-Nat.pow_succ];congr 1;omega
 rw[da]
 generalize (4294967296:Nat)^(n-2)=E
 grind
def fN(l:List Nat):List Value:=l.map fun(n:Nat)=>Value.int .u32 (n:Int)
section
variable {P:Program} {r:List bF} {F:Fr} {H:ab} {Q:Fr->ab->Prop}
theorem tg{d t d2 e n b R cap:Nat}{l:Bool}{x i:Operand}{pre post:List Value}{us:List Nat}{ax:ba (bn d t x i::aF d2 e (T d)::r) Q}(aT:H[b]?=some (.own e l (pre++(fN us++post))))(aM:pre.length=R)(J:aq F x= .slice (some ⟨b,R,none⟩) us.length cap)(ad:aq F i= .int .i64 (n:Int))(aG:n<us.length)
  (bO:e_ P t=some e)(ao:bp P e=some 1)(et:dq P e=some false)(K:∀p,a_ P r Q .mk (a1 (a1 F d p) d2 (.int .u32 ((us[n]?.getD 0:Nat):Int))) H):a_ P (bn d t x i::aF d2 e (T d)::r) Q ax F H:=by
 rw[hF,J,ad,rX,pw,bO,gb,ao,gb,rV]
 refine dB.mk ⟨by omega,by omega⟩ ?_
 rw[BV]
 simp only[nQ,jv,qx,aT,Option.bind_some,bK.cells?,gb,et,Int.toNat_natCast,y0]
 have:(pre++(fN us++post))[R+n*1]?=some (.int .u32 ((us[n]?.getD 0:Nat):Int)):=by
  unfold fN
  rw[List.getElem?_append_right (by omega),List.getElem?_append_left (by simp;omega),List.getElem?_map]
  rw[show R+n*1-pre.length=n by omega,bB aG]
  rfl
 rw[this,gb]
 exact K _
theorem abi{j d t d2 e n b R cap:Nat}{w l:Bool}{x i:Operand}{pre post:List Value}{us:List Nat}{ax:ba (bn d t x i::aL j w (aF d2 e (T d))::r) Q}(aU:hr (F j)=some w)(D4:j≠d)(aT:H[b]?=some (.own e l (pre++(fN us++post))))(aM:pre.length=R)(J:aq F x= .slice (some ⟨b,R,none⟩) us.length cap)(ad:aq F i= .int .i64 (n:Int))(aG:n<us.length)
  (bO:e_ P t=some e)(ao:bp P e=some 1)(et:dq P e=some false)(K:∀p,a_ P r Q .mk (a1 (a1 F d p) d2 (.int .u32 ((us[n]?.getD 0:Nat):Int))) H):a_ P (bn d t x i::aL j w (aF d2 e (T d))::r) Q ax F H:=by
 have aI:a_ P (bn d t x i::aF d2 e (T d)::r) Q .mk F H:=tg aT aM J ad aG bO ao et K
 rw[hF,J,ad,rX,pw,bO,gb,ao,gb,rV]at aI⊢
 exact⟨aI.1,OV (by rw[iG _ _ D4];exact aU) aI.2⟩
theorem BY{d t e n b R cap z:Nat}{l:Bool}{x i y:Operand}{pre post:List Value}{us:List Nat}{ax:ba (bn d t x i::st e (T d) y::r) Q}(aT:H[b]?=some (.own e l (pre++(fN us++post))))(aM:pre.length=R)(J:aq F x= .slice (some ⟨b,R,none⟩) us.length cap)(ad:aq F i= .int .i64 (n:Int))(aG:n<us.length)
  (aK:∀v,aq (a1 F d v) y= .int .u32 (z:Int))(bO:e_ P t=some e)(ao:bp P e=some 1)(K:∀p,a_ P r Q .mk (a1 F d p) (H.set b (.own e l (pre++(fN (us.set n z)++post))))):a_ P (bn d t x i::st e (T d) y::r) Q ax F H:=by
 rw[hF,J,ad,rX,pw,bO,gb,ao,gb,rV]
 refine dB.mk ⟨by omega,by omega⟩ ?_
 rw[O0]
 simp only[nQ,jv,qx,aT,GV,Int.toNat_natCast,aK]
 refine dB.mk ⟨by rw[ao];rfl,by simp[fN];omega,by simp⟩ ?_
 have:l9 (pre++(fN us++post)) (R+n*1) (Value.int IntKind.u32 (z:Int)).cells.toList=pre++(fN (us.set n z)++post):=by
  show(pre++(fN us++post)).set (R+n*1) (.int .u32 (z:Int))=_
  unfold fN
  rw[List.set_append_right _ _ (by omega),List.set_append_left _ _ (by simp;omega)]
  rw[show R+n*1-pre.length=n by omega,List.map_set]
 rw[aK,this]
 exact K _
end
end Go.cW
end
section
set_option maxRecDepth 8000
namespace Go.cW
open Go.Proofs
open Go.Proofs.Tryz (prog)
attribute [-simp] hF iq
theorem Ou{H:ab}{b:Nat}{X:bK}(h:H[b]?=some X):H.set b X=H:=by
 apply List.ext_getElem?
 intro i
 by_cases ad:b=i
 ·subst ad;rw[List.getElem?_set_self (cH.1 h).1,h]
 ·rw[List.getElem?_set_ne ad]
theorem QZ{v:Value}{b R cap m:Nat}{l:Bool}{pre post:List Value}{us aE:List Nat}{H:ab}(aT:H[b]?=some (.own 124 l (pre++(fN us++post))))(aM:pre.length=R)(sP:us.length=m+3)(kK:∀x∈us,x<4294967296)
  (nX:∀X,(∀e cs,X≠ .ro e cs)->c6 (H.set b X) 124 v aE)(j3:aE.length=m+2)(hm:m<1048576)(pX:aE[m+1]?.getD 0≠0)(a5:val us<4294967296*val aE):
  aP prog 125 [.slice (some ⟨b,R,none⟩) (m+3) cap,v] H (fun w H1=>(∃q:Nat,w= .int .u32 (q:Int)/\q=val us/val aE)/\∃dK,H1=H.set b (.own 124 l (pre++(fN dK++post)))/\dK.length=m+3/\(∀x∈dK,x<4294967296)/\val dK=val us % val aE):=by
 refine aP.b9 fun Q aD=>?_
 apply XF (by simp)
 have gP:=(cH.1 aT).1
 have nY:=fun dK:List Nat=>nX (.own 124 l (pre++(fN dK++post))) (by simp)
 have uz:Row 124 1 false gf H v aE:=by
  have:=(nY us).row
  rwa[Ou aT]at this
 obtain⟨akq,akt,rfl⟩:=uz.len
 rw[j3]at nX nY uz⊢
 have lW:IntKind.i64.wrap ((m:Int)+2-1)=(m:Int)+1:=by rw[b7 (by omega) (by omega)];omega
 have My:IntKind.i64.wrap (m:Int)=(m:Int):=b7 (by omega) (by omega)
 have lX:IntKind.i64.wrap ((m:Int)+2-2)=(m:Int):=by rw[b7 (by omega) (by omega)];omega
 obtain⟨lv,oh⟩:∃x,us[m+2]?.getD 0=x:=⟨_,rfl⟩
 obtain⟨pg,og⟩:∃x,us[m+1]?.getD 0=x:=⟨_,rfl⟩
 obtain⟨fI,xS⟩:∃x,us[m]?.getD 0=x:=⟨_,rfl⟩
 obtain⟨cr,sW⟩:∃x,aE[m+1]?.getD 0=x:=⟨_,rfl⟩
 obtain⟨v0,ED⟩:∃x,aE[m]?.getD 0=x:=⟨_,rfl⟩
 have z6:∀k,us[k]?.getD 0<4294967296:=fun k=>wD (by decide) kK k
 have z7:∀k,aE[k]?.getD 0<4294967296:=fun k=>wD (by decide) (nY us).2 k
 have Nh:=oh▸z6 (m+2)
 have YQ:=og▸z6 (m+1)
 have Ng:=xS▸z6 m
 have aip:=sW▸z7 (m+1)
 have Bg:=ED▸z7 m
 rw[sW]at pX
 have EH:aE[m+1]?=some cr:=by rw[<-sW,bB (by omega)];rfl
 have V1:aE[m]?=some v0:=by rw[<-ED,bB (by omega)];rfl
 obtain⟨top,l1⟩:∃x,lv*4294967296+pg=x:=⟨_,rfl⟩
 obtain⟨E,bZ⟩:∃E,4294967296^m=E:=⟨_,rfl⟩
 have lP:val us=val (us.take m)+E*(fI+4294967296*top):=by
  have:=adG us (m+2) sP (by omega)
  simp only[Nat.add_sub_cancel,show m+2-1=m+1 by omega,xS,og,oh,bZ]at this
  rw[this,<-l1]
  grind
 have uA:val aE=val (aE.take m)+E*(v0+4294967296*cr):=by
  have:=adF aE (m+2) j3 (by omega)
  simpa only[Nat.add_sub_cancel,show m+2-1=m+1 by omega,ED,sW,bZ]using this
 have Ml:val (us.take m)<E:=by
  have:=kb (l:=us.take m) fun x J=>kK x (List.mem_of_mem_take J)
  rwa[List.length_take,Nat.min_eq_left (by omega),bZ]at this
 have Mq:val (aE.take m)<E:=by
  have:=kb (l:=aE.take m) fun x J=>(nY us).2 x (List.mem_of_mem_take J)
  rwa[List.length_take,Nat.min_eq_left (by omega),bZ]at this
 have xY:0<cr:=by omega
 obtain⟨q,av⟩:∃q,val us/val aE=q:=⟨_,rfl⟩
 have uy:0<val aE:=by
  rw[uA]
  have:0<E*(v0+4294967296*cr):=Nat.mul_pos (by omega) (by omega)
  omega
 have AN:q<4294967296:=by rw[<-av,Nat.div_lt_iff_lt_mul uy];exact a5
 have ah8:top<4294967296*cr+4294967296:=by
  have o:E*(4294967296*top)<4294967296*(E*(4294967296*(cr+1))):=by
   have b1:E*(4294967296*top)<=val us:=by rw[lP];have:E*(4294967296*top)<=E*(fI+4294967296*top):=Nat.mul_le_mul_left _ (by omega);omega
   have cA:val aE<E*(4294967296*(cr+1)):=by
    rw[uA]
    have:E*(v0+1)<=E*4294967296:=Nat.mul_le_mul_left _ Bg
    grind
   omega
  have aa:E*(4294967296*top)<E*(4294967296*(4294967296*(cr+1))):=by
   have:4294967296*(E*(4294967296*(cr+1)))=E*(4294967296*(4294967296*(cr+1))):=by grind
   omega
  have:=Nat.lt_of_mul_lt_mul_left aa
  omega
 have CM:IntKind.u64.wrap (cr:Int)=(cr:Int):=gk (by omega) (by omega)
 have QV:IntKind.u64.wrap (v0:Int)=(v0:Int):=gk (by omega) (by omega)
 have QM:IntKind.u64.wrap (lv:Int)=(lv:Int):=gk (by omega) (by omega)
 have QL:IntKind.u64.wrap (pg:Int)=(pg:Int):=gk (by omega) (by omega)
 have QK:IntKind.u64.wrap (fI:Int)=(fI:Int):=gk (by omega) (by omega)
 obtain⟨s2,lY⟩:∃s,lv*4294967296=s:=⟨_,rfl⟩
 have VE:IntKind.u64.wrap ((lv:Int)*4294967296)=(s2:Int):=by rw[gk (by omega) (by omega)];omega
 have A1:p7 (s2:Int) (pg:Int)=(top:Int):=by
  have:=vt (r:=lv) Nh YQ
  rw[lY]at this
  rw[this];omega
 obtain⟨cB,xj⟩:∃g,top/cr=g:=⟨_,rfl⟩
 obtain⟨fE,gR⟩:∃g,top % cr=g:=⟨_,rfl⟩
 have m4:=Nat.div_add_mod top cr
 rw[xj,gR]at m4
 have Vs:fE<cr:=by rw[<-gR];exact Nat.mod_lt _ xY
 have AL:q<=cB:=by
  have:=Sl (E:=E) (ul:=val (us.take m)) (fI:=fI) (top:=top) (gY:=val (aE.take m)) (aE:=v0) (cr:=cr) Ml Ng xY
  rw[<-lP,<-uA,av,xj]at this
  exact this
 have ahz:cB<8589934592:=by
  rw[<-xj,Nat.div_lt_iff_lt_mul xY]
  omega
 have ediv:((top:Int).tdiv cr)=(cB:Int):=by rw[<-xj];rfl
 have emod:((top:Int).tmod cr)=(fE:Int):=by rw[<-gR];rfl
 have adR:IntKind.u64.wrap (cB:Int)=(cB:Int):=gk (by omega) (by omega)
 have aic:¬((cr:Int)=0):=by omega
 simp[H9,iq]
 refine tg (cap:=cap) (n:=m+2) aT aM (by simp[sP]) (by simp) (by omega) (by simp) (by simp) (by simp) fun da=>?_
 simp[oh,QM,VE,lW]
 refine tg (cap:=cap) (n:=m+1) aT aM (by simp[sP]) (by simp) (by omega) (by simp) (by simp) (by simp) fun gB=>?_
 simp[og,QL,A1,lW]
 refine cY (af:=gf) (n:=m+1) (by simpa using uz) (by simp) EH (by simp) (by simp) (by simp) (.inr rfl) ?_
 rintro fC cM ⟨rfl,-⟩
 simp[CM,lW,ediv,adR,pX]
 refine cY (af:=gf) (n:=m+1) (by simpa using uz) (by simp) EH (by simp) (by simp) (by simp) (.inr rfl) ?_
 rintro g8 vR ⟨rfl,-⟩
 simp[CM,emod,pX]
 have Um:∀g r,g*cr+r=top->(4294967296<=g\/r*4294967296+fI<g*v0)->q<g:=fun g r o aa=>by
  rcases aa with aa | aa
  ·omega
  ·have:=Sn (E:=E) (ul:=val (us.take m)) (fI:=fI) (top:=top) (gY:=val (aE.take m)) (aE:=v0) (cr:=cr) Ml o aa
   rwa[<-lP,<-uA,av]at this
 have D0:∀g r,g<4294967296->g*cr+r=top->¬r*4294967296+fI<g*v0->g<=q+1:=fun g r aI o aa=>by
  have:=Sm (E:=E) (ul:=val (us.take m)) (fI:=fI) (top:=top) (gY:=val (aE.take m)) (aE:=v0) (cr:=cr) Mq xY aI o (by omega)
  rwa[<-lP,<-uA,av]at this
 have Uk:∀g r,g<4294967296->g*cr+r=top->4294967296<=r->g<=q:=fun g r aI o aa=>by
  have:=Sk (E:=E) (ul:=val (us.take m)) (fI:=fI) (top:=top) (gY:=val (aE.take m)) (aE:=v0) (cr:=cr) Mq Bg xY aI o aa
  rwa[<-lP,<-uA,av]at this
 refine ca.join (by kernel_rfl) (fun dt ez bP=>bP=H/\∃g:Nat,dt 7= .int .u64 g/\g<4294967296/\q<=g/\g<=q+1) ?_ ?_
 ·rintro eg hz-
  simp only[adr,adu]
  refine dm.mk (by kernel_rfl) (fun g dt ez bP=>bP=H/\∃r:Nat,dt 7= .int .u64 g/\dt 8= .int .u64 r/\g*cr+r=top/\r<4294967296/\q<=g) cB ⟨rfl,fE,by simp,by simp,by rw[Nat.mul_comm];exact m4,by omega,AL⟩ ?_
  rintro g dt ez bP ⟨rfl,r,cd,cS,Lg,kJ,LY⟩ K aX
  simp at cd cS
  have ahA:g<8589934592:=by
   have:g*cr<8589934592*cr:=by
    have:4294967296*cr<=4294967296*cr:=Nat.le_refl _
    omega
   exact Nat.lt_of_mul_lt_mul_right this
  simp only[l8]
  refine ca.join (by kernel_rfl) (fun c0 dS b0=>b0=bP/\∃c:Bool,c0 68= .bool c/\(c=true↔(4294967296<=g\/r*4294967296+fI<g*v0))) ?_ ?_
  ·rintro cV LB-
   have xM:((g:Int).fdiv 4294967296)=((g/4294967296:Nat):Int):=by rw[mX _ (by decide)];omega
   simp[cd,xM]
   refine bt.b6 (fun ae=>?_) (fun ae=>?_)
   ·simp[ae]
    exact LB _ _ _ ⟨rfl,true,by simp,by simp;omega⟩
   ·simp[ae]
    have uU:g<4294967296:=by omega
    refine tf (af:=gf) (n:=m) (by simp[ae]) (by decide) (by simpa using uz) (by simp[My]) V1 (by simp) (by simp) (by simp) (.inr rfl) ?_
    rintro iD ql ⟨rfl,-⟩
    have hmul:IntKind.u64.wrap ((g:Int)*v0)=((g*v0:Nat):Int):=Fi uU Bg
    obtain⟨ag6,Li⟩:∃x,g*v0=x:=⟨_,rfl⟩
    obtain⟨rs,sL⟩:∃x,r*4294967296=x:=⟨_,rfl⟩
    have VF:IntKind.u64.wrap ((r:Int)*4294967296)=(rs:Int):=by rw[gk (by omega) (by omega)];omega
    rw[Li]at hmul
    simp[ae,QV,cd,cS,hmul,VF]
    refine abi (cap:=cap) (n:=m) (by simp[ae]) (by decide) aT aM (by simp[sP]) (by simp[My]) (by omega) (by simp) (by simp) (by simp) fun ns=>?_
    have aW:=vt (r:=r) kJ Ng
    rw[sL]at aW
    obtain⟨aiJ,L7⟩:∃x,rs+fI=x:=⟨_,rfl⟩
    rw[L7]at aW
    simp[ae,xS,QK,aW]
    refine LB _ _ _ ⟨rfl,_,by simp;rfl,?_⟩
    simp[Li,sL,L7]
    omega
  ·rintro c0 dS b0 ⟨rfl,c,Kh,fX⟩
   simp at Kh
   simp[Kh]
   refine bt.mk (fun ae=>?_) (fun ae=>?_)
   ·have ah3:=Um g r Lg (fX.1 ae)
    have mv:IntKind.u64.wrap ((g:Int)-1)=((g-1:Nat):Int):=by rw[gk (by omega) (by omega)];omega
    obtain⟨kE,DZ⟩:∃x,g-1=x:=⟨_,rfl⟩
    rw[DZ]at mv
    simp[cd,mv,cS,lW]
    refine cY (af:=gf) (n:=m+1) (by simpa using uz) (by simp) EH (by simp) (by simp) (by simp) (.inr rfl) ?_
    rintro iD ql ⟨rfl,-⟩
    obtain⟨dR,fB⟩:∃x,r+cr=x:=⟨_,rfl⟩
    have pJ:IntKind.u64.wrap ((r:Int)+cr)=(dR:Int):=by rw[gk (by omega) (by omega)];omega
    have xM:((dR:Int).fdiv 4294967296)=((dR/4294967296:Nat):Int):=by rw[mX _ (by decide)];omega
    have Lh:kE*cr+dR=top:=by
     have:g*cr=kE*cr+cr:=by rw[show g=kE+1 by omega,Nat.succ_mul]
     omega
    simp[CM,pJ,xM]
    refine bt.b6 (fun aA=>?_) (fun aA=>?_)
    ·have Uc:4294967296<=dR:=by omega
     have La:kE<4294967296:=by
      have:kE*cr<4294967296*cr:=by omega
      exact Nat.lt_of_mul_lt_mul_right this
     exact hz _ _ _ ⟨rfl,kE,by simp,La,by omega,Nat.le_succ_of_le (Uk kE dR La Lh Uc)⟩
    ·exact aX kE _ _ _ (by omega) ⟨rfl,dR,by simp,by simp,Lh,by omega,by omega⟩
   ·have aht:¬(4294967296<=g\/r*4294967296+fI<g*v0):=fun h=>by rw[fX.2 h]at ae;cases ae
    have uU:g<4294967296:=by omega
    exact hz _ _ _ ⟨rfl,g,by simp[cd],uU,LY,D0 g r uU Lg (by omega)⟩
 ·rintro dt ez bP ⟨rfl,g,cd,uU,LY,ahB⟩
  simp at cd
  simp[iq]
  refine dm.range (by kernel_rfl) (m+2) (by omega) (by simp) (by rfl) (by simp) (by decide) (by decide) (fun i c0 dS b0=>∃(dK:List Nat) (c d:Nat),b0=bP.set b (.own 124 l (pre++(fN dK++post)))/\dK.length=m+3/\(∀x∈dK,x<4294967296)/\(∀j,i<=j->dK[j]?.getD 0=us[j]?.getD 0)/\c0 9= .int .u64 c/\c0 10= .int .u32 d/\c<4294967296/\d<=1/\val (dK.take i)+g*val (aE.take i)=val (us.take i)+4294967296^i*(c+d)) ?_ ?_ ?_
  ·exact⟨us,0,0,(Ou aT).symm,sP,kK,fun _ _=>rfl,by simp,by simp,by decide,by decide,by simp[val]⟩
  ·rintro i c0 dS b0 ad a4 ⟨dK,c,d,rfl,dG,jH,AU,ej,h9,ae,aA,gU⟩ K aX
   simp at a4 ej h9
   obtain⟨qk,sS⟩:∃x,aE[i]?.getD 0=x:=⟨_,rfl⟩
   have Ff:=sS▸z7 i
   have EG:aE[i]?=some qk:=by rw[<-sS,bB (by omega)];rfl
   obtain⟨vN,EB⟩:∃x,us[i]?.getD 0=x:=⟨_,rfl⟩
   have YR:=EB▸z6 i
   have QW:IntKind.u64.wrap (qk:Int)=(qk:Int):=gk (by omega) (by omega)
   obtain⟨t0,Ex⟩:∃x,g*qk=x:=⟨_,rfl⟩
   have m8:IntKind.u64.wrap ((g:Int)*qk)=(t0:Int):=by rw[Fi uU Ff,Ex]
   have ah6:t0<=4294967295*4294967295:=by rw[<-Ex];exact Nat.mul_le_mul (by omega) (by omega)
   obtain⟨t,bO⟩:∃x,t0+c=x:=⟨_,rfl⟩
   have m9:IntKind.u64.wrap ((t0:Int)+c)=(t:Int):=by rw[gk (by omega) (by omega)];omega
   obtain⟨fw,oe⟩:∃x,t % 4294967296=x:=⟨_,rfl⟩
   obtain⟨mK,Mf⟩:∃x,t/4294967296=x:=⟨_,rfl⟩
   have lV:((t:Int).fdiv 4294967296)=(mK:Int):=by rw[mX _ (by decide)];omega
   have Au:IntKind.u32.wrap (t:Int)=(fw:Int):=by rw[oA];omega
   simp[a4,cd]
   refine cY (af:=gf) (n:=i) (by simpa using(nY dK).row) (by simp) EG (by simp) (by simp) (by simp) (.inr rfl) ?_
   rintro iD ql ⟨rfl,-⟩
   have DH:(bP.set b (.own 124 l (pre++(fN dK++post))))[b]?=some (.own 124 l (pre++(fN dK++post))):=List.getElem?_set_self gP
   simp[a4,cd,ej,h9,QW,m8,m9,lV]
   refine tg (b:=b) (l:=l) (pre:=pre) (us:=dK) (post:=post) (cap:=cap) (n:=i) DH aM (by simp[dG]) (by simp) (by omega) (by simp) (by simp) (by simp) fun ns=>?_
   rw[AU i (Nat.le_refl _),EB]
   simp[Au,h9]
   refine aV.mk (FX YR (by omega) aA) ?_
   rintro w b8 ⟨rfl,s,fr,rfl,ao,jD,AY⟩
   simp
   refine BY (b:=b) (l:=l) (pre:=pre) (us:=dK) (post:=post) (cap:=cap) (n:=i) (z:=s) DH aM (by simp[dG]) (by simp) (by omega) (by simp) (by simp) (by simp) fun p8=>?_
   simp
   refine aX _ _ _ (by simp[a4]) ⟨dK.set i s,mK,fr,by simp,by simp[dG],?_,?_,by simp,by simp,by omega,jD,?_⟩
   ·intro x J
    rcases List.mem_or_eq_of_mem_set J with J | rfl
    ·exact jH x J
    ·exact ao
   ·intro j aW
    rw[List.getElem?_set_ne (by omega)]
    exact AU j (by omega)
   ·rw[rK _ _ _ (by omega),ja aE,ja us,sS,EB,Nat.pow_succ]
    generalize 4294967296^i=E at*
    have Eu:vN+4294967296*fr=s+fw+d:=AY
    have Ew:t=fw+4294967296*mK:=by omega
    have bm:g*(val (aE.take i)+E*qk)=g*val (aE.take i)+E*t0:=by rw[<-Ex];grind
    rw[bm]
    have bk:E*vN+E*(4294967296*fr)=E*s+E*fw+E*d:=by rw[<-Nat.mul_add,Eu,Nat.mul_add,Nat.mul_add]
    have fP:E*t0+E*c=E*fw+E*(4294967296*mK):=by rw[<-Nat.mul_add,bO,Ew,Nat.mul_add]
    have k3:E*4294967296*(mK+fr)=E*(4294967296*mK)+E*(4294967296*fr):=by grind
    rw[Nat.mul_add]at gU
    omega
  ·rintro c0 dS b0 a4 ⟨dK,c,d,rfl,dG,jH,AU,ej,h9,ae,aA,gU⟩
   simp at ej h9
   have uC:=fun ws:List Nat=>(List.getElem?_set_self (l:=bP) (a:= .own 124 l (pre++(fN ws++post))) gP)
   have DQ:IntKind.u32.wrap (c:Int)=(c:Int):=l_ (by omega) (by omega)
   simp
   refine tg (b:=b) (l:=l) (pre:=pre) (us:=dK) (post:=post) (cap:=cap) (n:=m+2) (uC dK) aM (by simp[dG]) (by simp) (by omega) (by simp) (by simp) (by simp) fun ns=>?_
   rw[AU (m+2) (Nat.le_refl _),oh]
   simp[ej,h9,DQ]
   refine aV.mk (FX Nh ae aA) ?_
   rintro w b8 ⟨rfl,s,d2,rfl,ao,lT,AY⟩
   simp
   refine BY (b:=b) (l:=l) (pre:=pre) (us:=dK) (post:=post) (cap:=cap) (n:=m+2) (z:=s) (uC dK) aM (by simp[dG]) (by simp) (by omega) (by simp) (by simp) (by simp) fun p8=>?_
   simp
   obtain⟨ws,mD⟩:∃ws,dK.set (m+2) s=ws:=⟨_,rfl⟩
   have mC:ws.length=m+3:=by rw[<-mD];simp[dG]
   have A5:∀x∈ws,x<4294967296:=by
    intro x J
    rw[<-mD]at J
    rcases List.mem_or_eq_of_mem_set J with J | rfl
    ·exact jH x J
    ·exact ao
   have Mz:ws[m+2]?.getD 0=s:=by rw[<-mD,List.getElem?_set_self (by omega)];rfl
   have full:∀(x:List Nat) (k:Nat),x.length=k->x.take k=x:=fun x k h=>by rw[<-h,List.take_length]
   obtain⟨lx,qO⟩:∃lx,4294967296^(m+2)=lx:=⟨_,rfl⟩
   have Wj:val ws+g*val aE=val us+lx*4294967296*d2:=by
    have bm:=rK dK (m+2) s (by omega)
    rw[mD,full ws _ mC,qO]at bm
    have bk:=ja us (m+2)
    rw[full us _ sP,oh,qO]at bk
    rw[full aE _ j3,qO]at gU
    rw[bm,bk]
    have:lx*lv+lx*(4294967296*d2)=lx*s+lx*(c+d):=by rw[<-Nat.mul_add,<-Nat.mul_add];congr 1;omega
    have:lx*4294967296*d2=lx*(4294967296*d2):=by grind
    omega
   rw[mD]
   have AR:val us % val aE=val us-q*val aE/\q*val aE<=val us/\val us<(q+1)*val aE:=by
    have o:=Nat.div_add_mod (val us) (val aE)
    have aa:=Nat.mod_lt (val us) uy
    rw[av,Nat.mul_comm]at o
    refine⟨by omega,by omega,?_⟩
    rw[Nat.succ_mul]
    omega
   have Wa:val ws<lx*4294967296:=by
    have:=kb A5
    rwa[mC,Nat.pow_succ,qO]at this
   refine ca.join (by kernel_rfl) (fun fi gE b8=>fi 7= .int .u64 q/\∃vS:List Nat,b8=bP.set b (.own 124 l (pre++(fN vS++post)))/\vS.length=m+3/\(∀x∈vS,x<4294967296)/\val vS=val us % val aE) ?_ ?_
   ·rintro eg hz-
    simp
    refine bt.b6 (fun a2=>?_) (fun a2=>?_)
    ·have ic:d2=1:=by omega
     subst ic
     have aU:g=q+1:=by
      have:q<g:=by
       rcases Nat.lt_or_ge q g with h | h
       ·exact h
       ·have:g*val aE<=q*val aE:=Nat.mul_le_mul_right _ h
        omega
      omega
     have Uo:IntKind.u64.wrap ((g:Int)-1)=(q:Int):=by rw[gk (by omega) (by omega)];omega
     simp[cd,Uo,iq]
     refine dm.range (by kernel_rfl) (m+2) (by omega) (by simp) (by rfl) (by simp) (by decide) (by decide) (fun i me oC dN=>∃(xs:List Nat) (cv:Nat),dN=bP.set b (.own 124 l (pre++(fN xs++post)))/\xs.length=m+3/\(∀x∈xs,x<4294967296)/\(∀j,i<=j->xs[j]?.getD 0=ws[j]?.getD 0)/\me 13= .int .u32 cv/\cv<=1/\val (xs.take i)+4294967296^i*cv=val (ws.take i)+val (aE.take i)) ?_ ?_ ?_
     ·exact⟨ws,0,rfl,mC,A5,fun _ _=>rfl,by simp,by decide,by simp[val]⟩
     ·rintro i me oC dN ad a4 ⟨xs,cv,rfl,j5,EY,hB,oP,AH,MR⟩ K aX
      simp at a4 oP
      obtain⟨qk,sS⟩:∃x,aE[i]?.getD 0=x:=⟨_,rfl⟩
      have Ff:=sS▸z7 i
      have EG:aE[i]?=some qk:=by rw[<-sS,bB (by omega)];rfl
      obtain⟨fl,EX⟩:∃x,ws[i]?.getD 0=x:=⟨_,rfl⟩
      have YT:fl<4294967296:=EX▸wD (by decide) A5 i
      simp[a4]
      refine tg (b:=b) (l:=l) (pre:=pre) (us:=xs) (post:=post) (cap:=cap) (n:=i) (uC xs) aM (by simp[j5]) (by simp) (by omega) (by simp) (by simp) (by simp) fun p9=>?_
      rw[hB i (Nat.le_refl _),EX]
      simp
      refine cY (af:=gf) (n:=i) (by simpa using(nY xs).row) (by simp) EG (by simp) (by simp) (by simp) (.inr rfl) ?_
      rintro Zm akC ⟨rfl,-⟩
      simp[oP]
      refine aV.mk (IN YT Ff AH) ?_
      rintro w cU ⟨rfl,y,Bp,rfl,aK,U9,Eu⟩
      simp
      refine BY (b:=b) (l:=l) (pre:=pre) (us:=xs) (post:=post) (cap:=cap) (n:=i) (z:=y) (uC xs) aM (by simp[j5]) (by simp) (by omega) (by simp) (by simp) (by simp) fun yr=>?_
      simp
      refine aX _ _ _ (by simp[a4]) ⟨xs.set i y,Bp,by simp,by simp[j5],?_,?_,by simp,U9,?_⟩
      ·intro x J
       rcases List.mem_or_eq_of_mem_set J with J | rfl
       ·exact EY x J
       ·exact aK
      ·intro j aW
       rw[List.getElem?_set_ne (by omega)]
       exact hB j (by omega)
      ·rw[rK _ _ _ (by omega),ja aE,ja ws,sS,EX,Nat.pow_succ]
       generalize 4294967296^i=E at*
       have bm:E*y+E*(4294967296*Bp)=E*fl+E*qk+E*cv:=by rw[<-Nat.mul_add,Eu,Nat.mul_add,Nat.mul_add]
       have bk:E*4294967296*Bp=E*(4294967296*Bp):=by grind
       omega
     ·rintro me oC dN a4 ⟨xs,cv,rfl,j5,EY,hB,oP,AH,MR⟩
      simp at oP
      simp
      refine tg (b:=b) (l:=l) (pre:=pre) (us:=xs) (post:=post) (cap:=cap) (n:=m+2) (uC xs) aM (by simp[j5]) (by simp) (by omega) (by simp) (by simp) (by simp) fun p9=>?_
      rw[hB (m+2) (Nat.le_refl _),Mz]
      obtain⟨y,aK⟩:∃y,(s+cv) % 4294967296=y:=⟨_,rfl⟩
      have ri:IntKind.u32.wrap ((s:Int)+cv)=(y:Int):=by rw[oA];omega
      simp[oP,ri]
      refine BY (b:=b) (l:=l) (pre:=pre) (us:=xs) (post:=post) (cap:=cap) (n:=m+2) (z:=y) (uC xs) aM (by simp[j5]) (by simp) (by omega) (by simp) (by simp) (by simp) fun yr=>?_
      simp
      have o7:∀x∈xs.set (m+2) y,x<4294967296:=by
       intro x J
       rcases List.mem_or_eq_of_mem_set J with J | rfl
       ·exact EY x J
       ·omega
      refine hz _ _ _ ⟨by simp,xs.set (m+2) y,by simp,by simp[j5],o7,?_⟩
      have bm:=rK xs (m+2) y (by omega)
      rw[full (xs.set (m+2) y) (m+2+1) (by simp[j5]),qO]at bm
      have UO:=kb o7
      rw[List.length_set,j5,Nat.pow_succ,qO]at UO
      have bk:=ja ws (m+2)
      rw[full ws _ mC,Mz,qO]at bk
      rw[full aE _ j3,qO]at MR
      rw[AR.1]
      rw[aU,Nat.succ_mul]at Wj
      rcases Nat.lt_or_ge (s+cv) 4294967296 with o | o
      ·have:y=s+cv:=by omega
       subst this
       rw[Nat.mul_add]at bm
       omega
      ·have:s+cv=y+4294967296:=by omega
       have fP:lx*s+lx*cv=lx*y+lx*4294967296:=by rw[<-Nat.mul_add,this,Nat.mul_add]
       omega
    ·have T7:d2=0:=by omega
     subst T7
     have aU:g=q:=by
      have:g<=q:=by
       rcases Nat.lt_or_ge q g with h | h
       ·have:(q+1)*val aE<=g*val aE:=Nat.mul_le_mul_right _ h
        omega
       ·exact h
      omega
     subst aU
     exact hz _ _ _ ⟨by simp[cd],ws,rfl,mC,A5,by rw[AR.1];omega⟩
   ·rintro fi gE b8 ⟨Ki,vS,rfl,Lo,UP,xU⟩
    simp at Ki
    have AP:IntKind.u32.wrap (q:Int)=(q:Int):=l_ (by omega) (by omega)
    simp[Ki,AP,bd]
    exact aD _ _ ⟨⟨q,rfl,av.symm⟩,vS,rfl,Lo,UP,xU⟩
end Go.cW
end
section
set_option maxRecDepth 8000
namespace Go.cW
open Go.Proofs
open Go.Proofs.Tryz (prog)
attribute [-simp] hF iq ka
theorem abf{P:Program}{r:List bF}{F:Fr}{H:ab}{Q:Fr->ab->Prop}{d t n:Nat}{x i:Operand}{s:ByteArray}{y:Nat}{ax:ba (ek d t x i::r) Q}(ao:aq F x= .string s)(bO:iE P t=true)(ak:∃k,aq F i= .int k (n:Int))(aG:n<s.size)(aK:(s.data.getD n 0).toNat=y)(K:a_ P r Q .mk (a1 F d (.int .u8 (y:Int))) H):a_ P (ek d t x i::r) Q ax F H:=by
 obtain⟨k,ak⟩:=ak
 rw[ka,ao,ak,GY,pw]
 refine dB.mk ⟨bO,by omega,by omega⟩ ?_
 rw[Int.toNat_natCast,aK]
 exact K
theorem abe{P:Program}{r:List bF}{F:Fr}{H:ab}{Q:Fr->ab->Prop}{d t n m:Nat}{x i:Operand}{s:ByteArray}{p:Nat->Nat->Prop}{ax:ba (ek d t x i::r) Q}(ao:aq F x= .string s)(bO:iE P t=true)(ak:∃k,aq F i= .int k (n:Int))(hm:s.size=m)(aG:n<m)(a2:∀j,j<m->p j (s.data.getD j 0).toNat)(K:∀y,p n y->a_ P r Q .mk (a1 F d (.int .u8 (y:Int))) H):a_ P (ek d t x i::r) Q ax F H:=
 abf ao bO ak (by omega) rfl (K _ (a2 n aG))
theorem YF{x:Nat}{H:ab}(J:x<4294967296):aP prog 132 [.int .u32 x] H (fun v H1=>H1=H/\∃n:Nat,v= .int .i64 n/\x<2^n/\n<=32/\(0<x->0<n)):=by
 refine aP.b9 fun Q aD=>?_
 apply W_ (by simp)
 unfold HR
 simp only[l8]
 simp
 refine ca.join (by kernel_rfl) (fun ay bD H1=>H1=H/\∃y n:Nat,ay 0= .int .u32 y/\ay 2= .int .i64 n/\y<65536/\x<(y+1)*2^n/\n<=16/\(0<x->0<n\/0<y)) ?_ ?_
 ·rintro eg hz-
  simp
  refine bt.b6 (fun ae=>?_) (fun ae=>?_)
  ·have:((x:Int).fdiv 65536)=((x/65536:Nat):Int):=by rw[mX _ (by decide)];omega
   simp[this]
   exact hz _ _ _ ⟨rfl,x/65536,16,by simp,by simp,by omega,by omega,by decide,by omega⟩
  ·exact hz _ _ _ ⟨rfl,x,0,by simp,by simp,by omega,by omega,by decide,by omega⟩
 ·rintro ay bD H1 ⟨rfl,y,n,aI,aa,aK,A7,aG,hA⟩
  simp at aI aa
  refine ca.join (by kernel_rfl) (fun dt ez bP=>bP=H1/\∃mM dW:Nat,dt 0= .int .u32 mM/\dt 2= .int .i64 dW/\mM<256/\x<(mM+1)*2^dW/\dW<=24/\(0<x->0<dW\/0<mM)) ?_ ?_
  ·rintro eg hz-
   simp[aI]
   refine bt.b6 (fun ae=>?_) (fun ae=>?_)
   ·have bm:((y:Int).fdiv 256)=((y/256:Nat):Int):=by rw[mX _ (by decide)];omega
    have bk:IntKind.i64.wrap ((n:Int)+8)=((n+8:Nat):Int):=by rw[b7 (by omega) (by omega)];simp
    simp[aI,bm,aa,bk]
    refine hz _ _ _ ⟨rfl,y/256,n+8,by simp,by simp,by omega,?_,by omega,fun _=> .inl (by omega)⟩
    have:(y+1)*2^n<=((y/256+1)*256)*2^n:=Nat.mul_le_mul_right _ (by omega)
    rw[Nat.pow_add,Nat.mul_comm (2^n),<-Nat.mul_assoc,show(2:Nat)^8=256 from rfl]
    omega
   ·exact hz _ _ _ ⟨rfl,y,n,by simp[aI],by simp[aa],by omega,A7,by omega,hA⟩
  ·rintro dt ez bP ⟨rfl,mM,dW,qM,tX,pZ,aih,ahV,Ve⟩
   simp at qM tX
   have hs:IntKind.u8.wrap (mM:Int)=(mM:Int):=B_ (by omega) (by omega)
   simp[qM,tX,hs]
   refine abe (n:=mM) (m:=256) (p:=fun j z=>j<2^z/\z<=8/\(0<j->0<z)) rfl (by simp) ⟨.u8,by simp⟩ (by kernel_rfl) pZ (of_decide_eq_true (by kernel_rfl)) ?_
   rintro z ⟨hC,iV,s4⟩
   have fP:IntKind.i64.wrap (z:Int)=(z:Int):=b7 (by omega) (by omega)
   have k3:IntKind.i64.wrap ((dW:Int)+z)=((dW+z:Nat):Int):=by rw[b7 (by omega) (by omega)];simp
   simp[fP,k3,bd]
   refine aD _ _ ⟨rfl,dW+z,by simp,?_,by omega,fun h=>by have:=Ve h;omega⟩
   have:(mM+1)*2^dW<=2^z*2^dW:=Nat.mul_le_mul_right _ hC
   rw[Nat.pow_add,Nat.mul_comm (2^dW)]
   omega
theorem YU{x:Nat}{H:ab}(J:x<4294967296)(aI:0<x):aP prog 123 [.int .u32 x] H (fun v H1=>H1=H/\∃n:Nat,v= .int .i64 n/\n<32/\x*2^n<4294967296):=by
 refine aP.b9 fun Q aD=>?_
 apply W9 (by simp)
 simp[HQ]
 refine aV.mk (YF J) ?_
 rintro v H1 ⟨rfl,n,rfl,o,aa,aB⟩
 have e:IntKind.i64.wrap (32-(n:Int))=((32-n:Nat):Int):=by rw[b7 (by omega) (by omega)];omega
 obtain⟨s,ao⟩:∃s,32-n=s:=⟨_,rfl⟩
 rw[ao]at e
 simp[e,bd]
 refine aD _ _ ⟨rfl,s,rfl,by have:=aB aI;omega,?_⟩
 have:x*2^s<2^n*2^s:=Nat.mul_lt_mul_of_pos_right o (Nat.pow_pos (by decide))
 rw[<-Nat.pow_add,show n+s=32 by omega]at this
 exact this
end Go.cW
end
