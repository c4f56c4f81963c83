/- Part of the proof of ShopShares. -/
import Derived.Test.YtoiodfcefbapkaaShopSharesE
set_option linter.unusedVariables false
set_option linter.unusedSimpArgs false
section
set_option maxRecDepth 8000
namespace Go.b_
open Go.Proofs
open Go.Proofs.Try (prog)
theorem lB{v:Value}{l:List Nat}{H:ab}(d_:cO H 95 v l)(hlen:l.length<4611686018427387904):aZ prog 55 [v] H (fun av H1=>H1=H/\∃c2,cO H 95 av c2/\Trim c2/\val c2=val l/\c2.length<=l.length):=by
 refine aZ.cr fun Q aG=>?_
 apply UN (by simp)
 simp[Gd]
 refine kE.mk (ak:=fun n F H1=>H1=H/\∃c2 k,cO H 95 (F 0) c2/\l=c2++List.replicate k 0/\n=c2.length) l.length ⟨rfl,l,0,by simpa[]using d_,by simp,rfl⟩ ?_
 rintro n F H1 ⟨rfl,c2,k,ll,ar,rfl⟩ K a1
 have C_:c2.length<=l.length:=by rw[ar];simp
 have g4:val c2=val l:=by rw[ar,m0,Fk];simp
 obtain⟨a,cap,ao⟩:=ll.1.len
 simp[ao]
 refine bG.cE (fun aE=>?_) (fun aE=>?_)
 ·obtain⟨b,i,dn,X,all,he,aS,ag,bp,lu⟩:=ll.at aE
  rw[ao]at he
  cases he
  have bq:((c2.length:Int)-1).toNat=c2.length-1:=by omega
  have bh:=MC c2 aE
  simp(disch:=omega)[aE,ao,cP]
  refine df.mk ⟨by omega,by omega⟩ ?_
  simp[aS,ag,bq,lu _ (show c2.length-1<c2.length by omega)]
  refine bG.cE (fun aP=>?_) (fun aP=>?_)
  ·simp(disch:=omega)[ao,cP]
   refine Yz (n:=c2.length) (l:=0) (h:=c2.length-1) (e:=95) (R:=1) (by simpa[ao]using ll.1) (by simp) (by simp) rfl (by simp[fl];omega) (by omega) (by omega) (fun av dd=>?_)
   simp
   refine a1 (c2.length-1) _ _ (by omega) ⟨rfl,c2.take (c2.length-1),k+1,⟨?_,fun x I=>ll.2 x (List.mem_of_mem_take I)⟩,?_,by simp⟩
   ·simpa[Nat.min_eq_left,List.map_take]using dd
   ·rw[ar]
    conv=>lhs;rw[<-bh]
    have:c2[c2.length-1]?.getD 0=0:=by omega
    rw[this,List.replicate_succ,List.append_assoc]
    rfl
  ·simp[ao]
   refine aG _ _ ⟨rfl,c2,ao▸ll,fun h=>aP ?_,g4,C_⟩
   rw[List.getLast?_eq_getElem?]at h
   simp[h]
 ·simp[aE,ao]
  have:c2=[]:=List.eq_nil_of_length_eq_zero (by omega)
  exact aG _ _ ⟨rfl,c2,ao▸ll,by simp[this,Trim],g4,C_⟩
theorem Ho{x y c:Nat}{H:ab}(I:x<4294967296)(aL:y<4294967296)(ag:c<=1):aZ prog 86 [.int .u32 x,.int .u32 y,.int .u32 c] H (fun av H1=>H1=H/\∃s d:Nat,av= .tuple #[.int .u32 s,.int .u32 d]/\s<4294967296/\d<=1/\s+4294967296*d=x+y+c):=by
 refine aZ.cr fun Q aG=>?_
 apply T7 (by simp)
 simp(disch:=first | omega | (simp<;>fail) | fail) [FX,fR,nS,bj,mq]
 refine aG _ _ ⟨rfl,(x+y+c) % 4294967296,(x+y+c)/4294967296,?_,by omega,by omega,by omega⟩
 simp
 omega
theorem BB{v w:Value}{a b:List Nat}{H:ab}(bQ:cO H 95 v a)(bR:cO H 95 w b)(ob:Trim a)(kQ:Trim b)(j0:a.length<4611686018427387904)(jv:b.length<4611686018427387904):
  aZ prog 63 [v,w] H (fun av H1=>H1=H/\av= .int .i64 (if val a<val b then-1 else if val b<val a then 1 else 0)):=by
 refine aZ.cr fun Q aG=>?_
 apply UD (by simp)
 obtain⟨fW,ac,rfl⟩:=bQ.len
 obtain⟨Hr,Hs,rfl⟩:=bR.len
 simp(disch:=omega)[Ga,cP]
 refine bG.cE (fun aE=>?_) (fun aE=>?_)
 ·have hlen:a.length=b.length:=by omega
  simp(disch:=omega)[cP]
  refine kE.mk (ak:=fun n F H1=>H1=H/\F 0= .slice fW a.length ac/\F 1= .slice Hr b.length Hs/\F 5= .int .i64 ((n:Int)-1)/\n<=a.length/\a.drop n=b.drop n) a.length ⟨rfl,by simp,by simp,by simp,Nat.le_refl _,by rw[List.drop_eq_nil_of_le (by omega),List.drop_eq_nil_of_le (by omega)]⟩ ?_
  rintro n F H1 ⟨rfl,aH,o,b2,hb,aJ⟩ K a1
  simp[aH,o,b2]
  refine bG.cE (fun aR=>?_) (fun aR=>?_)
  ·obtain⟨gC,i1,yr,yh,yk,jr,nt,lq,Jp,oh⟩:=bQ.at (by omega)
   obtain⟨kJ,i2,By,Bl,Br,ig,qo,mx,nz,qv⟩:=bR.at (by omega)
   cases jr
   cases ig
   have bq:((n:Int)-1).toNat=n-1:=by omega
   simp[aH,o,b2]
   refine df.mk ⟨by omega,by omega⟩ ?_
   simp[aH,o,b2,nt,lq,bq,oh _ (show n-1<a.length by omega)]
   refine df.mk ⟨by omega,by omega⟩ ?_
   simp[aH,o,b2,qo,mx,bq,qv _ (show n-1<b.length by omega)]
   have BM:a.drop (n-1)=a[n-1]?.getD 0::a.drop n:=by
    rw[List.drop_eq_getElem_cons (by omega),bt (by omega),Option.getD_some,Nat.sub_add_cancel (by omega)]
   have BN:b.drop (n-1)=b[n-1]?.getD 0::b.drop n:=by
    rw[List.drop_eq_getElem_cons (by omega),bt (by omega),Option.getD_some,Nat.sub_add_cancel (by omega)]
   refine bG.cE (fun au=>?_) (fun au=>?_)
   ·simp(disch:=omega)[b2,cP]
    refine a1 (n-1) _ _ (by omega) ⟨rfl,by simp[aH],by simp[o],by simp;omega,by omega,?_⟩
    rw[BM,BN,aJ]
    congr 1
    omega
   ·have key:∀(x y:List Nat),(∀z∈x,z<4294967296)->(∀z∈y,z<4294967296)->x.length=y.length->x.drop (n-1)=x[n-1]?.getD 0::x.drop n->y.drop (n-1)=y[n-1]?.getD 0::y.drop n->x.drop n=y.drop n->n-1<x.length->x[n-1]?.getD 0<y[n-1]?.getD 0->val x<val y:=by
     intro x y I aL nI ex PA gV a5 j7
     have v1:val x=val (x.take (n-1))+4294967296^(n-1)*(x[n-1]?.getD 0+4294967296*val (x.drop n)):=by
      conv=>lhs;rw[<-List.take_append_drop (n-1) x,m0,ex]
      simp only[val,List.length_take,Nat.min_eq_left (Nat.le_of_lt a5)]
     have v2:val y=val (y.take (n-1))+4294967296^(n-1)*(y[n-1]?.getD 0+4294967296*val (y.drop n)):=by
      conv=>lhs;rw[<-List.take_append_drop (n-1) y,m0,PA]
      simp only[val,List.length_take,Nat.min_eq_left (show n-1<=y.length by omega)]
     have pS:val (x.take (n-1))<4294967296^(n-1):=by
      have:=jH (l:=x.take (n-1)) fun z aP=>I z (List.mem_of_mem_take aP)
      rwa[List.length_take,Nat.min_eq_left (Nat.le_of_lt a5)]at this
     have v4:4294967296^(n-1)*(x[n-1]?.getD 0+4294967296*val (x.drop n)+1)<=4294967296^(n-1)*(y[n-1]?.getD 0+4294967296*val (y.drop n)):=Nat.mul_le_mul_left _ (by rw[gV];omega)
     rw[Nat.mul_add,Nat.mul_one]at v4
     omega
    simp(disch:=omega)[aH,o,b2,cP]
    refine df.mk ⟨by omega,by omega⟩ ?_
    simp[aH,o,b2,nt,lq,bq,oh _ (show n-1<a.length by omega)]
    refine df.mk ⟨by omega,by omega⟩ ?_
    simp[aH,o,b2,qo,mx,bq,qv _ (show n-1<b.length by omega)]
    refine bG.cE (fun a5=>?_) (fun a5=>?_)
    ·simp[bj]
     refine aG _ _ ⟨rfl,?_⟩
     rw[if_pos (key a b bQ.2 bR.2 hlen BM BN aJ (by omega) (by omega))]
    ·simp[bj]
     have:=key b a bR.2 bQ.2 hlen.symm BN BM aJ.symm (by omega) (by omega)
     refine aG _ _ ⟨rfl,?_⟩
     rw[if_neg (by omega),if_pos this]
  ·have j1:n=0:=by omega
   subst j1
   simp[bj]
   have:a=b:=by simpa using aJ
   exact aG _ _ ⟨rfl,by rw[this];simp⟩
 ·simp
  refine bG.cE (fun hb=>?_) (fun hb=>?_)
  ·simp[bj]
   have:=kQ.uv bQ.2 (by omega)
   exact aG _ _ ⟨rfl,by simp[this]⟩
  ·simp[bj]
   have:=ob.uv bR.2 (by omega)
   exact aG _ _ ⟨rfl,by rw[if_neg (by omega),if_pos this]⟩
theorem aax(b:BitVec 32):IntKind.u32.wrap (b.toNat:Int)=b.toNat:=lD (Int.natCast_nonneg _) (by have:=b.isLt;omega)
theorem X_{z:Nat}(h:z<4294967296):z/2147483648=(z.testBit 31).toNat:=by
 rw[Nat.testBit_eq_decide_div_mod_eq]
 have:z/2^31=z/2147483648:=rfl
 rw[this]
 by_cases aP:z<2147483648
 ·rw[Nat.div_eq_of_lt aP];rfl
 ·have:z/2147483648=1:=by omega
  rw[this];rfl
theorem E2{z:Nat}(h:z<4294967296):z.testBit 31=decide (2147483648<=z):=by
 rw[Nat.testBit_eq_decide_div_mod_eq]
 have:z/2^31=z/2147483648:=rfl
 rw[this]
 by_cases aP:z<2147483648
 ·rw[Nat.div_eq_of_lt aP];simp;omega
 ·have:z/2147483648=1:=by omega
  rw[this];simp;omega
theorem N7(x y c:Nat)(I:x<4294967296)(aL:y<4294967296)(ag:c<=1):
  (((4294967295^^^x)&&&y) ||| ((4294967295^^^(x^^^y))&&&((x+8589934592-y-c) % 4294967296)))/2147483648=if x<y+c then 1 else 0:=by
 have aJ:(x+8589934592-y-c) % 4294967296<4294967296:=Nat.mod_lt _ (by decide)
 rw[X_]
 ·simp only[Nat.testBit_or,Nat.testBit_and,Nat.testBit_xor,E2 I,E2 aL,E2 aJ,show Nat.testBit 4294967295 31=true from by decide]
  by_cases o:2147483648<=x<;>by_cases aa:2147483648<=y<;>by_cases aD:x<y+c<;>simp[o,aa,aD]<;>omega
 ·exact Nat.or_lt_two_pow (n:=32) (Nat.and_lt_two_pow _ aL) (Nat.and_lt_two_pow _ aJ)
theorem EP{x y c:Nat}{H:ab}(I:x<4294967296)(aL:y<4294967296)(ag:c<=1):aZ prog 91 [.int .u32 x,.int .u32 y,.int .u32 c] H (fun av H1=>H1=H/\∃s d:Nat,av= .tuple #[.int .u32 s,.int .u32 d]/\s<4294967296/\d<=1/\x+4294967296*d=s+y+c):=by
 refine aZ.cr fun Q aG=>?_
 apply Ub (by simp)
 obtain⟨d,aJ⟩:∃d:Nat,d=(x+8589934592-y-c) % 4294967296:=⟨_,rfl⟩
 have bq:IntKind.u32.wrap (IntKind.u32.wrap ((x:Int)-y)-c)=(d:Int):=by
  rw[nS,nS]
  omega
 have bh:IntKind.u32.max=4294967295:=rfl
 have kS:d<4294967296:=by omega
 simp(disch:=first | omega | (simp<;>fail) | fail) [FY,bj,mq,bq,bh,aax]
 refine aG _ _ ⟨rfl,d,if x<y+c then 1 else 0,?_,kS,by split<;>omega,by split<;>omega⟩
 have af:=N7 x y c I aL ag
 rw[<-aJ]at af
 have aE:((4294967295#32^^^BitVec.ofNat 32 x)&&&BitVec.ofNat 32 y ||| (4294967295#32^^^(BitVec.ofNat 32 x^^^BitVec.ofNat 32 y))&&&BitVec.ofNat 32 d).toNat=((4294967295^^^x)&&&y ||| (4294967295^^^(x^^^y))&&&d):=by
  rw[BitVec.toNat_or,BitVec.toNat_and,BitVec.toNat_and,BitVec.toNat_xor,BitVec.toNat_xor,BitVec.toNat_xor,BitVec.toNat_ofNat,BitVec.toNat_ofNat,BitVec.toNat_ofNat,BitVec.toNat_ofNat,Nat.mod_eq_of_lt I,Nat.mod_eq_of_lt aL,Nat.mod_eq_of_lt kS]
 show Value.tuple #[.int .u32 d,.int .u32 ((((4294967295#32^^^BitVec.ofNat 32 x)&&&BitVec.ofNat 32 y ||| (4294967295#32^^^(BitVec.ofNat 32 x^^^BitVec.ofNat 32 y))&&&BitVec.ofNat 32 d).toNat:Int)/2147483648)]=_
 rw[aE]
 have:(((4294967295^^^x)&&&y ||| (4294967295^^^(x^^^y))&&&d:Nat):Int)/2147483648=((((4294967295^^^x)&&&y ||| (4294967295^^^(x^^^y))&&&d)/2147483648:Nat):Int):=by simp
 rw[this,af]
theorem pH(n:Nat):made (.int .u32 0) n=(List.replicate n 0).map fun(x:Nat)=>Value.int .u32 (x:Int):=by
 unfold made
 apply List.ext_getElem (by simp)
 intro i o aa
 simp[Value.cells,Nat.mod_one]
@[simp] theorem acT(k:IntKind)(n:Int):(Value.int k n).cells= #[.int k n]:=rfl
@[simp] theorem aeL(k:IntKind)(n:Int):(Value.int k n).oneCell'=true:=rfl
@[simp] theorem agK(cs:List Value)(i:Nat)(v:Value):lC cs i [v]=cs.set i v:=rfl
@[simp] theorem VJ(H:ab)(X:bB):(H++[X])[H.length]?=some X:=by simp
@[simp] theorem acG(e:TypeId)(l:Bool)(cs:List Value):(some (bB.own e l cs)).bind bB.cells?=some cs:=rfl
@[simp] theorem acU(e:TypeId)(l:Bool)(cs:List Value):(bB.own e l cs).cells?=some cs:=rfl
@[simp] theorem acV(e:TypeId)(cs:List Value):(bB.ro e cs).cells?=some cs:=rfl
theorem mR{H:ab}{b:Nat}{X:bB}(h:H[b]?=some X)(N:ab):(H++N)[b]?=some X:=by
 rw[List.getElem?_append_left (cc.1 h).1];exact h
theorem cO.fresh(H:ab)(e:Nat)(l:List Nat)(n c:Nat)(aE:n<=c)(ar:l.length=c)(a5:∀x∈l,x<4294967296)(b:Bool):cO (H++[.own e b (l.map fun(x:Nat)=>Value.int .u32 (x:Int))]) e (.slice (some ⟨H.length,0,none⟩) n c) (l.take n):=by
 refine⟨⟨_,c,by simp[ar,Nat.min_eq_left aE],by simp[ar,Nat.min_eq_left aE];omega,by simp,fun ag=>⟨H.length,0,_,_,rfl,VJ H _,rfl,rfl,by simp[ar];omega,by simp[ar,Nat.min_eq_left aE,List.map_take]⟩⟩,fun x I=>a5 x (List.mem_of_mem_take I)⟩
theorem rf(l:List Nat)(i x:Nat)(ad:i<l.length):val ((l.set i x).take (i+1))=val (l.take i)+4294967296^i*x:=by
 rw[List.take_set,List.take_succ_eq_append_getElem ad,List.set_append_right _ _ (by simp;omega)]
 simp[Nat.min_eq_left (Nat.le_of_lt ad),m0,val]
theorem iA(l:List Nat)(i:Nat):val (l.take (i+1))=val (l.take i)+4294967296^i*(l[i]?.getD 0):=by
 by_cases ad:i<l.length
 ·rw[List.take_succ_eq_append_getElem ad,m0,bt ad]
  simp[val,Nat.min_eq_left (Nat.le_of_lt ad)]
 ·rw[List.take_of_length_le (by omega),List.take_of_length_le (by omega),List.getElem?_eq_none (by omega)]
  simp
theorem vF{l:List Nat}{m:Nat}(hm:0<m)(h:∀x∈l,x<m)(k:Nat):l[k]?.getD 0<m:=by
 by_cases ah:k<l.length
 ·rw[bt ah];exact h _ (List.getElem_mem ah)
 ·rw[List.getElem?_eq_none (by omega)];exact hm
theorem LN{v w:Value}{a b:List Nat}{H:ab}(bQ:cO H 95 v a)(bR:cO H 95 w b)(j0:a.length<1048576)(jv:b.length<1048576):
  aZ prog 78 [v,w] H (fun av H1=>Ext H H1/\∃l,cO H1 95 av l/\Trim l/\val l=val a+val b):=by
 refine aZ.cr fun Q aG=>?_
 apply UJ (by simp)
 obtain⟨fW,ac,rfl⟩:=bQ.len
 obtain⟨Hr,Hs,rfl⟩:=bR.len
 simp only[Gc]
 rw[cw]
 simp[-cw]
 rw[cw]
 refine gQ.cut (fun aA H1=>H=H1/\∃x y h7 mb dS ff,aA 0= .slice x dS.length h7/\aA 1= .slice y ff.length mb/\cO H 95 (.slice x dS.length h7) dS/\cO H 95 (.slice y ff.length mb) ff/\ff.length<=dS.length/\dS.length<1048576/\val dS+val ff=val a+val b) ?_ ?_
 ·intro K a1
  simp(disch:=omega)[cP]
  refine bG.cE (fun ar=>?_) (fun ar=>?_)
  ·simp
   exact a1 _ _ ⟨rfl,_,_,_,_,b,a,by simp,by simp,bR,bQ,by omega,jv,by omega⟩
  ·simp
   exact a1 _ _ ⟨rfl,_,_,_,_,a,b,by simp,by simp,bQ,bR,by omega,j0,by omega⟩
 ·rintro F H1 ⟨rfl,x,y,h7,mb,dS,ff,aH,o,aS,lL,hle,a5,g4⟩
  rw[cw]
  simp(disch:=omega)[aH,o,cP,-cw]
  refine xV (e:=95) (R:=1) (bs:=4) (eg:= .i64) (cB:= .i64) (l:=dS.length+1) (c:=dS.length+1) (z:= .int .u32 0) (by simp) (by simp) (by simp) (by simp) (by rfl) (by rfl) (by simp) (by simp) (by omega) (by omega) (Nat.le_refl _) (by omega) (by omega) ?_
  simp[-cw,pH]
  rw[cw]
  simp[-cw]
  rw[cw]
  refine gQ.cut (fun aA H1=>aA 0= .slice x dS.length h7/\aA 5= .slice (some ⟨H.length,0,none⟩) (dS.length+1) (dS.length+1)/\∃(out:List Nat) (c:Nat),H1=H++[.own 95 false (out.map fun(x:Nat)=>Value.int .u32 (x:Int))]/\aA 6= .int .u32 c/\c<=1/\out.length=dS.length+1/\(∀x∈out,x<4294967296)/\val (out.take dS.length)+4294967296^dS.length*c=val dS+val ff) ?_ ?_
  ·intro K a1
   simp(disch:=omega)[aH,o,cP]
   refine kE.mk (ak:=fun n aA H1=>∃i:Nat,n=dS.length-i/\i<=dS.length/\aA 0= .slice x dS.length h7/\aA 1= .slice y ff.length mb/\aA 21= .int .i64 dS.length/\aA 22= .int .i64 i/\aA 5= .slice (some ⟨H.length,0,none⟩) (dS.length+1) (dS.length+1)/\∃(out:List Nat) (c:Nat),H1=H++[.own 95 false (out.map fun(x:Nat)=>Value.int .u32 (x:Int))]/\aA 6= .int .u32 c/\c<=1/\out.length=dS.length+1/\(∀x∈out,x<4294967296)/\val (out.take i)+4294967296^i*c=val (dS.take i)+val (ff.take i)) dS.length ?_ ?_
   ·refine⟨0,by omega,by omega,by simp[aH],by simp[o],by simp,by simp,by simp,List.replicate (dS.length+1) 0,0,by simp,by simp,by omega,by simp,by simp,by simp[val]⟩
   ·rintro n aA H1 ⟨i,rfl,ad,cv,cl,qd,hO,eA,out,c,rfl,gf,ag,e3,iL,ao⟩ dW iZ
    simp[qd,hO]
    refine bG.cE (fun jb=>?_) (fun jb=>?_)
    ·simp[cv,cl,eA,gf,hO,-cw]
     obtain⟨gC,i1,yr,yh,yk,jr,nt,lq,Jp,oh⟩:=aS.at (by omega)
     cases jr
     have wc:=mR nt [.own 95 false (out.map fun(x:Nat)=>Value.int .u32 (x:Int))]
     rw[cw,E7,cw]
     simp[cv,cl,eA,gf,hO,-cw]
     rw[cw]
     simp[cv,cl,eA,gf,hO,-cw]
     rw[cw]
     refine gQ.cut (fun bV a0=>H++[.own 95 false (out.map fun(x:Nat)=>Value.int .u32 (x:Int))]=a0/\bV 0=aA 0/\bV 1=aA 1/\bV 5=aA 5/\bV 6=aA 6/\bV 7= .int .i64 i/\bV 21=aA 21/\bV 22=aA 22/\bV 8= .int .u32 (ff[i]?.getD 0:Nat)) ?_ ?_
     ·intro cU ed
      simp[cl]
      refine bG.cE (fun wD=>?_) (fun wD=>?_)
      ·obtain⟨kJ,i2,By,Bl,Br,ig,qo,mx,nz,qv⟩:=lL.at (by omega)
       cases ig
       have rS:=mR qo [.own 95 false (out.map fun(x:Nat)=>Value.int .u32 (x:Int))]
       simp[cl]
       refine df.mk (by omega) ?_
       simp[cl,rS,mx,qv _ wD]
       exact ed _ _ ⟨rfl,by simp,by simp[cl],by simp,by simp,by simp,by simp,by simp,by simp⟩
      ·simp[cl]
       exact ed _ _ ⟨rfl,by simp,by simp[cl],by simp,by simp,by simp,by simp,by simp,by rw[List.getElem?_eq_none (by omega)];simp⟩
     ·rintro bV a0 ⟨rfl,f0,f1,f5,f6,f7,f21,f22,f8⟩
      simp[f0,f1,f5,f6,f7,f8,cv,cl,eA,gf]
      refine df.mk (by omega) ?_
      simp[f0,f1,f5,f6,f7,f8,cv,cl,eA,gf,wc,lq,oh _ jb]
      refine a4.mk (Ho (aS.lt i) (lL.lt i) ag) ?_
      rintro v bZ ⟨rfl,s,d,rfl,an,aJ,wR⟩
      simp[f0,f1,f5,f6,f7,f8,f22,cv,cl,eA,gf,hO]
      refine df.mk (by omega) ?_
      simp(disch:=omega)[f0,f1,f5,f6,f7,f8,f22,cv,cl,eA,gf,hO,cP]
      refine df.mk (by omega) ?_
      simp(disch:=omega)[f0,f1,f5,f6,f7,f8,f22,cv,cl,eA,gf,hO,cP]
      refine iZ (dS.length-(i+1)) _ _ (by omega) ⟨i+1,by omega,by omega,by simp[f0,cv],by simp[f1,cl],by simp[f21,qd],by simp,by simp[f5,eA],out.set i s,d,by simp[List.map_set],by simp,aJ,by simp[e3],?_,?_⟩
      ·intro z aP
       rcases List.mem_or_eq_of_mem_set aP with aP | rfl
       ·exact iL z aP
       ·exact an
      ·rw[rf _ _ _ (by omega),iA dS,iA ff,Nat.pow_succ]
       have:4294967296^i*(s+4294967296*d)=4294967296^i*(dS[i]?.getD 0+ff[i]?.getD 0+c):=by rw[wR]
       grind
    ·simp
     have:i=dS.length:=by omega
     subst this
     refine a1 _ _ ⟨by simp[cv],by simp[eA],out,c,rfl,by simp[gf],ag,e3,iL,?_⟩
     rw[ao,List.take_length,List.take_of_length_le hle]
  ·rintro aA H1 ⟨cv,eA,out,c,rfl,gf,ag,e3,iL,ao⟩
   rw[cw]
   simp[cv,eA,gf,-cw]
   refine df.mk (by omega) ?_
   simp[cv,eA,gf,-cw]
   refine df.mk (by omega) ?_
   rw[cw]
   have zJ:(List.map (fun(x:Nat)=>Value.int .u32 (x:Int)) out).set dS.length (.int .u32 (c:Int))=(out.set dS.length c).map fun(x:Nat)=>Value.int .u32 (x:Int):=by simp[List.map_set]
   simp[cv,eA,gf,-cw,zJ,-List.map_set]
   have zo:∀z∈out.set dS.length c,z<4294967296:=fun z aP=>by
    rcases List.mem_or_eq_of_mem_set aP with aP | rfl
    ·exact iL z aP
    ·omega
   have d_:=cO.fresh H 95 (out.set dS.length c) (dS.length+1) (dS.length+1) (Nat.le_refl _) (by simp[e3]) zo false
   refine a4.mk (lB d_ (by simp[e3];omega)) ?_
   rintro v H1 ⟨rfl,c2,dA,ba,dd,-⟩
   simp[bj,-List.map_set]
   refine aG _ _ ⟨(Ext.refl H).snoc _ _ _,c2,dA,ba,?_⟩
   rw[dd,rf _ _ _ (by omega),ao,g4]
theorem Lj{v w:Value}{a b:List Nat}{H:ab}(bQ:cO H 95 v a)(bR:cO H 95 w b)(j0:a.length<1048576)(hle:b.length<=a.length)(g4:val b<=val a):
  aZ prog 80 [v,w] H (fun av H1=>Ext H H1/\∃l,cO H1 95 av l/\Trim l/\val l=val a-val b):=by
 refine aZ.cr fun Q aG=>?_
 apply UH (by simp)
 obtain⟨x,h7,rfl⟩:=bQ.len
 obtain⟨y,mb,rfl⟩:=bR.len
 by_cases o4:a.length=0
 ·have wg:a=[]:=List.eq_nil_of_length_eq_zero o4
  have mw:b=[]:=List.eq_nil_of_length_eq_zero (by omega)
  subst wg mw
  simp only[Bn]
  rw[cw]
  simp[-cw]
  rw[cw]
  simp[-cw]
  refine AS (e:=95) (R:=1) (bs:=4) (eg:= .i64) (cB:= .i64) (by simp) (by simp) (by simp) (by simp) (by simp) ?_
  simp
  refine kE.mk (ak:=fun n aA H1=>H=H1/\aA 13= .int .i64 0/\aA 14= .int .i64 0/\aA 5= .slice (some ⟨0,0,none⟩) 0 0) 0 ⟨rfl,by simp,by simp,by simp⟩ ?_
  rintro n aA H1 ⟨rfl,BV,BW,eA⟩ K a1
  simp[BV,BW,eA]
  refine a4.mk (lB (l:=[]) ⟨ea.void H _ _ _,by simp⟩ (by simp)) ?_
  rintro v H1 ⟨rfl,c2,dA,ba,dd,-⟩
  simp[bj]
  exact aG _ _ ⟨Ext.refl _,c2,dA,ba,by simpa[val]using dd⟩
 simp only[Bn]
 rw[cw]
 simp[-cw]
 rw[cw]
 simp(disch:=omega)[cP,-cw]
 refine xV (e:=95) (R:=1) (bs:=4) (eg:= .i64) (cB:= .i64) (l:=a.length) (c:=a.length) (z:= .int .u32 0) (by simp) (by simp) (by simp) (by simp) (by rfl) (by rfl) (by simp) (by simp) (by omega) (by omega) (Nat.le_refl _) (by omega) (by omega) ?_
 simp[-cw,pH]
 rw[cw]
 simp[-cw]
 rw[cw]
 refine gQ.cut (fun aA H1=>aA 5= .slice (some ⟨H.length,0,none⟩) a.length a.length/\∃(out:List Nat) (c:Nat),H1=H++[.own 95 false (out.map fun(x:Nat)=>Value.int .u32 (x:Int))]/\out.length=a.length/\(∀x∈out,x<4294967296)/\val a+4294967296^a.length*c=val out+val b) ?_ ?_
 ·intro K a1
  simp(disch:=omega)[cP]
  refine kE.mk (ak:=fun n aA H1=>∃i:Nat,n=a.length-i/\i<=a.length/\aA 0= .slice x a.length h7/\aA 1= .slice y b.length mb/\aA 13= .int .i64 a.length/\aA 14= .int .i64 i/\aA 5= .slice (some ⟨H.length,0,none⟩) a.length a.length/\∃(out:List Nat) (c:Nat),H1=H++[.own 95 false (out.map fun(x:Nat)=>Value.int .u32 (x:Int))]/\aA 6= .int .u32 c/\c<=1/\out.length=a.length/\(∀x∈out,x<4294967296)/\val (a.take i)+4294967296^i*c=val (out.take i)+val (b.take i)) a.length ?_ ?_
  ·refine⟨0,by omega,by omega,by simp,by simp,by simp,by simp,by simp,List.replicate a.length 0,0,by simp,by simp,by omega,by simp,by simp,by simp[val]⟩
  ·rintro n aA H1 ⟨i,rfl,ad,cv,cl,qd,hO,eA,out,c,rfl,gf,ag,e3,iL,ao⟩ dW iZ
   simp[qd,hO]
   refine bG.cE (fun jb=>?_) (fun jb=>?_)
   ·simp[cv,cl,eA,gf,hO,-cw]
    obtain⟨gC,i1,yr,yh,yk,jr,nt,lq,Jp,oh⟩:=bQ.at (by omega)
    cases jr
    have wc:=mR nt [.own 95 false (out.map fun(x:Nat)=>Value.int .u32 (x:Int))]
    rw[cw,E7,cw]
    simp[cv,cl,eA,gf,hO,-cw]
    rw[cw]
    simp[cv,cl,eA,gf,hO,-cw]
    rw[cw]
    refine gQ.cut (fun bV a0=>H++[.own 95 false (out.map fun(x:Nat)=>Value.int .u32 (x:Int))]=a0/\bV 0=aA 0/\bV 1=aA 1/\bV 5=aA 5/\bV 6=aA 6/\bV 7= .int .i64 i/\bV 13=aA 13/\bV 14=aA 14/\bV 8= .int .u32 (b[i]?.getD 0:Nat)) ?_ ?_
    ·intro cU ed
     simp[cl]
     refine bG.cE (fun wD=>?_) (fun wD=>?_)
     ·obtain⟨kJ,i2,By,Bl,Br,ig,qo,mx,nz,qv⟩:=bR.at (by omega)
      cases ig
      have rS:=mR qo [.own 95 false (out.map fun(x:Nat)=>Value.int .u32 (x:Int))]
      simp[cl]
      refine df.mk (by omega) ?_
      simp[cl,rS,mx,qv _ wD]
      exact ed _ _ ⟨rfl,by simp,by simp[cl],by simp,by simp,by simp,by simp,by simp,by simp⟩
     ·simp[cl]
      exact ed _ _ ⟨rfl,by simp,by simp[cl],by simp,by simp,by simp,by simp,by simp,by rw[List.getElem?_eq_none (by omega)];simp⟩
    ·rintro bV a0 ⟨rfl,f0,f1,f5,f6,f7,f21,f22,f8⟩
     simp[f0,f1,f5,f6,f7,f8,cv,cl,eA,gf]
     refine df.mk (by omega) ?_
     simp[f0,f1,f5,f6,f7,f8,cv,cl,eA,gf,wc,lq,oh _ jb]
     refine a4.mk (EP (bQ.lt i) (bR.lt i) ag) ?_
     rintro v bZ ⟨rfl,s,d,rfl,an,aJ,wR⟩
     simp[f0,f1,f5,f6,f7,f8,f22,cv,cl,eA,gf,hO]
     refine df.mk (by omega) ?_
     simp(disch:=omega)[f0,f1,f5,f6,f7,f8,f22,cv,cl,eA,gf,hO,cP]
     refine df.mk (by omega) ?_
     simp(disch:=omega)[f0,f1,f5,f6,f7,f8,f22,cv,cl,eA,gf,hO,cP]
     refine iZ (a.length-(i+1)) _ _ (by omega) ⟨i+1,by omega,by omega,by simp[f0,cv],by simp[f1,cl],by simp[f21,qd],by simp,by simp[f5,eA],out.set i s,d,by simp[List.map_set],by simp,aJ,by simp[e3],?_,?_⟩
     ·intro z aP
      rcases List.mem_or_eq_of_mem_set aP with aP | rfl
      ·exact iL z aP
      ·exact an
     ·rw[rf _ _ _ (by omega),iA a,iA b,Nat.pow_succ]
      have:4294967296^i*(a[i]?.getD 0+4294967296*d)=4294967296^i*(s+b[i]?.getD 0+c):=by rw[wR]
      grind
   ·simp
    have:i=a.length:=by omega
    subst this
    refine a1 _ _ ⟨by simp[eA],out,c,rfl,e3,iL,?_⟩
    rw[List.take_length,List.take_of_length_le hle,<-e3,List.take_length]at ao
    rw[<-e3]
    exact ao
 ·rintro aA H1 ⟨eA,out,c,rfl,e3,iL,ao⟩
  have Di:=jH iL
  have qq:c=0:=by
   rcases Nat.eq_zero_or_pos c with h | h
   ·exact h
   ·have:4294967296^a.length*1<=4294967296^a.length*c:=Nat.mul_le_mul_left _ h
    rw[e3]at Di
    omega
  subst qq
  rw[cw]
  simp[eA,-cw]
  have d_:=cO.fresh H 95 out a.length a.length (Nat.le_refl _) e3 iL false
  refine a4.mk (lB d_ (by simp[e3];omega)) ?_
  rintro v H1 ⟨rfl,c2,dA,ba,dd,-⟩
  simp[bj]
  refine aG _ _ ⟨(Ext.refl H).snoc _ _ _,c2,dA,ba,?_⟩
  rw[dd,<-e3,List.take_length]
  omega
theorem Nf(l:List Nat)(i x:Nat)(ad:i<l.length):val (l.set i x)+4294967296^i*(l[i]?.getD 0)=val l+4294967296^i*x:=by
 induction l generalizing i with
 | nil=>simp at ad
 | cons y l aW=>
  cases i with
  | zero=>simp[val];omega
  | succ i=>
   simp only[List.set_cons_succ,val,List.getElem?_cons_succ,Nat.pow_succ]
   have:=aW i (by simpa using ad)
   grind
theorem Eg{p q:Nat}(aR:p<4294967296)(au:q<4294967296):IntKind.u64.wrap ((p:Int)*q)=((p*q:Nat):Int):=by
 have SP:p*q<=4294967295*4294967295:=Nat.mul_le_mul (by omega) (by omega)
 have o:(p:Int)*q=((p*q:Nat):Int):=by simp
 rw[o]
 exact fR (Int.natCast_nonneg _) (by omega)
theorem Is{l:List Nat}{i j x:Nat}(h:i≠j):(l.set i x)[j]?.getD 0=l[j]?.getD 0:=by rw[List.getElem?_set_ne h]
theorem ME{v w:Value}{a b:List Nat}{H:ab}(bQ:cO H 95 v a)(bR:cO H 95 w b)(j0:a.length<1048576)(jv:b.length<1048576):
  aZ prog 74 [v,w] H (fun av H1=>Ext H H1/\∃l,cO H1 95 av l/\Trim l/\val l=val a*val b):=by
 refine aZ.cr fun Q aG=>?_
 apply UM (by simp)
 obtain⟨x,h7,rfl⟩:=bQ.len
 obtain⟨y,mb,rfl⟩:=bR.len
 by_cases o4:a.length+b.length=0
 ·have wg:a=[]:=List.eq_nil_of_length_eq_zero (by omega)
  have mw:b=[]:=List.eq_nil_of_length_eq_zero (by omega)
  subst wg mw
  simp only[Bo]
  rw[cw]
  simp[-cw]
  rw[cw]
  simp(disch:=omega)[-cw,cP]
  refine AS (e:=95) (R:=1) (bs:=4) (eg:= .i64) (cB:= .i64) (by simp) (by simp) (by simp) (by simp) (by simp) ?_
  simp
  refine kE.mk (ak:=fun n aA H1=>H=H1/\aA 19= .int .i64 0/\aA 20= .int .i64 0/\aA 5= .slice (some ⟨0,0,none⟩) 0 0) 0 ⟨rfl,by simp,by simp,by simp⟩ ?_
  rintro n aA H1 ⟨rfl,BV,BW,eA⟩ K a1
  simp[BV,BW,eA]
  refine a4.mk (lB (l:=[]) ⟨ea.void H _ _ _,by simp⟩ (by simp)) ?_
  rintro v H1 ⟨rfl,c2,dA,ba,dd,-⟩
  simp[bj]
  exact aG _ _ ⟨Ext.refl _,c2,dA,ba,by simpa[val]using dd⟩
 simp only[Bo]
 rw[cw]
 simp[-cw]
 rw[cw]
 simp(disch:=omega)[cP,-cw]
 refine xV (e:=95) (R:=1) (bs:=4) (eg:= .i64) (cB:= .i64) (l:=a.length+b.length) (c:=a.length+b.length) (z:= .int .u32 0) (by simp) (by simp) (by simp) (by simp) (by rfl) (by rfl) (by simp) (by simp) (by omega) (by omega) (Nat.le_refl _) (by omega) (by omega) ?_
 simp[-cw,pH]
 rw[cw]
 refine gQ.cut (fun aA H1=>aA 5= .slice (some ⟨H.length,0,none⟩) (a.length+b.length) (a.length+b.length)/\∃(out:List Nat),H1=H++[.own 95 false (out.map fun(x:Nat)=>Value.int .u32 (x:Int))]/\out.length=a.length+b.length/\(∀x∈out,x<4294967296)/\val out=val a*val b) ?_ ?_
 ·intro K a1
  simp(disch:=omega)[cP]
  refine kE.mk (ak:=fun n aA H1=>∃i:Nat,n=a.length-i/\i<=a.length/\aA 18= .slice x a.length h7/\aA 1= .slice y b.length mb/\aA 19= .int .i64 a.length/\aA 20= .int .i64 i/\aA 5= .slice (some ⟨H.length,0,none⟩) (a.length+b.length) (a.length+b.length)/\∃(out:List Nat),H1=H++[.own 95 false (out.map fun(x:Nat)=>Value.int .u32 (x:Int))]/\out.length=a.length+b.length/\(∀x∈out,x<4294967296)/\(∀k,i+b.length<=k->out[k]?.getD 0=0)/\val out=val (a.take i)*val b) a.length ?_ ?_
  ·refine⟨0,by omega,by omega,by simp,by simp,by simp,by simp,by simp,List.replicate (a.length+b.length) 0,by simp,by simp,by simp,?_,by simp[val,Fk]⟩
   intro k ah
   rw[List.getElem?_replicate]
   split<;>rfl
  ·rintro n aA H1 ⟨i,rfl,ad,cv,cl,qd,hO,eA,out,rfl,e3,iL,aP,ao⟩ dW iZ
   simp[qd,hO]
   refine bG.cE (fun jb=>?_) (fun jb=>?_)
   ·simp[cv,cl,eA,hO,-cw]
    obtain⟨gC,i1,yr,yh,yk,jr,nt,lq,-,oh⟩:=bQ.at (by omega)
    cases jr
    have wc:=mR nt [.own 95 false (out.map fun(x:Nat)=>Value.int .u32 (x:Int))]
    obtain⟨p,aR⟩:∃p,a[i]?.getD 0=p:=⟨_,rfl⟩
    have jd:p<4294967296:=aR▸bQ.lt i
    have js:=oh _ jb
    rw[aR]at js
    rw[cw,E7,cw]
    simp[cv,cl,eA,hO,-cw]
    refine df.mk (by omega) ?_
    simp[cv,cl,eA,hO,-cw,wc,lq,js]
    rw[cw]
    simp[-cw]
    rw[cw]
    refine gQ.cut (fun bV a0=>bV 18=aA 18/\bV 1=aA 1/\bV 19=aA 19/\bV 20=aA 20/\bV 5=aA 5/\bV 6= .int .i64 i/\∃(gW:List Nat) (c:Nat),a0=H++[.own 95 false (gW.map fun(x:Nat)=>Value.int .u32 (x:Int))]/\bV 8= .int .u64 c/\c<4294967296/\gW.length=a.length+b.length/\(∀x∈gW,x<4294967296)/\(∀k,i+b.length<=k->gW[k]?.getD 0=0)/\val gW+4294967296^(i+b.length)*c=val (a.take i)*val b+4294967296^i*(p*val b)) ?_ ?_
    ·intro cU ed
     rw[cw]
     simp[cl]
     refine kE.mk (ak:=fun n bV a0=>∃j:Nat,n=b.length-j/\j<=b.length/\bV 18=aA 18/\bV 1=aA 1/\bV 25=aA 1/\bV 26= .int .i64 b.length/\bV 27= .int .i64 j/\bV 7= .int .u32 p/\bV 19=aA 19/\bV 20=aA 20/\bV 5=aA 5/\bV 6= .int .i64 i/\∃(gW:List Nat) (c:Nat),a0=H++[.own 95 false (gW.map fun(x:Nat)=>Value.int .u32 (x:Int))]/\bV 8= .int .u64 c/\c<4294967296/\gW.length=a.length+b.length/\(∀x∈gW,x<4294967296)/\(∀k,i+b.length<=k->gW[k]?.getD 0=0)/\val gW+4294967296^(i+j)*c=val (a.take i)*val b+4294967296^i*(p*val (b.take j))) b.length ?_ ?_
     ·exact⟨0,by omega,by omega,by simp,by simp[cl],by simp[cl],by simp,by simp,by simp,by simp,by simp,by simp,by simp,out,0,by simp,by simp,by omega,e3,iL,aP,by simp[val,ao]⟩
     ·rintro n bV a0 ⟨j,rfl,aI,f18,f1,f25,f26,f27,f7,f19,f20,f5,f6,gW,c,rfl,f8,ag,zx,wK,sx,dd⟩ nW gr
      simp[f26,f27]
      refine bG.cE (fun zo=>?_) (fun zo=>?_)
      ·obtain⟨kJ,i2,By,Bl,Br,ig,qo,mx,-,qv⟩:=bR.at (by omega)
       cases ig
       have rS:=mR qo [.own 95 false (gW.map fun(x:Nat)=>Value.int .u32 (x:Int))]
       obtain⟨q,au⟩:∃q,b[j]?.getD 0=q:=⟨_,rfl⟩
       have sb:q<4294967296:=au▸bR.lt j
       have jt:=qv _ zo
       rw[au]at jt
       obtain⟨U,aM⟩:∃U,gW[i+j]?.getD 0=U:=⟨_,rfl⟩
       have aen:U<4294967296:=aM▸vF (by decide) wK _
       have Jw:gW[i+j]?=some U:=by rw[bt (by omega)]at aM⊢;simpa using aM
       have SP:p*q<=4294967295*4294967295:=Nat.mul_le_mul (by omega) (by omega)
       simp[f25,f27,cl]
       refine df.mk (by omega) ?_
       have t1:((i:Int)+j).toNat=i+j:=by omega
       obtain⟨m,hm⟩:∃m,p*q=m:=⟨_,rfl⟩
       have uU:IntKind.u64.wrap ((p:Int)*q)=(m:Int):=hm▸Eg jd sb
       obtain⟨s,an⟩:∃s,(m+U+c) % 4294967296=s:=⟨_,rfl⟩
       obtain⟨d,aJ⟩:∃d,(m+U+c)/4294967296=d:=⟨_,rfl⟩
       have bO:IntKind.u32.wrap ((m:Int)+U+c)=(s:Int):=by rw[nS];omega
       have hJ:((m:Int)+U+c)/4294967296=(d:Int):=by omega
       simp(disch:=first | omega | (simp<;>fail) | fail) [f5,f6,f7,f8,f25,f27,cl,eA,rS,mx,jt,cP,fR,uU,-getElem?_pos]
       refine df.mk (by omega) ?_
       simp(disch:=first | omega | (simp<;>fail) | fail) [f5,f6,f7,f8,f25,f27,cl,eA,rS,mx,jt,cP,fR,uU,t1,Jw,-getElem?_pos,bO,hJ,mq]
       refine df.mk (by omega) ?_
       simp(disch:=first | omega | (simp<;>fail) | fail) [f5,f6,f7,f8,f25,f27,cl,eA,rS,mx,jt,cP,fR,uU,t1,Jw,-getElem?_pos,bO,hJ,mq]
       refine df.mk (by omega) ?_
       simp(disch:=first | omega | (simp<;>fail) | fail) [f27,cP]
       refine gr (b.length-(j+1)) _ _ (by omega) ⟨j+1,by omega,by omega,by simp[f18],by simp[f1],by simp[f25],by simp[f26],by simp,by simp[f7],by simp[f19],by simp[f20],by simp[f5],by simp[f6],gW.set (i+j) s,d,by simp[List.map_set],by simp,by omega,by simp[zx],?_,?_,?_⟩
       ·intro z aP
        rcases List.mem_or_eq_of_mem_set aP with aP | rfl
        ·exact wK z aP
        ·omega
       ·intro k ah
        rw[Is (by omega)]
        exact sx k ah
       ·have o:=Nf gW (i+j) s (by omega)
        rw[aM]at o
        rw[iA b,au,show i+(j+1)=i+j+1 from rfl,Nat.pow_succ]
        have aa:s+4294967296*d=p*q+U+c:=by omega
        have aD:4294967296^(i+j)*(s+4294967296*d)=4294967296^(i+j)*(p*q+U+c):=by rw[aa]
        rw[Nat.pow_add]at*
        grind
      ·simp
       have:j=b.length:=by omega
       subst this
       exact ed _ _ ⟨by simp[f18],by simp[f1],by simp[f19],by simp[f20],by simp[f5],by simp[f6],gW,c,rfl,by simp[f8],ag,zx,wK,sx,by rw[dd,List.take_length]⟩
    ·rintro bV a0 ⟨f18,f1,f19,f20,f5,f6,gW,c,rfl,f8,ag,zx,wK,sx,dd⟩
     have uU:IntKind.u32.wrap (c:Int)=(c:Int):=lD (by omega) (by omega)
     have t1:((i:Int)+b.length).toNat=i+b.length:=by omega
     simp(disch:=first | omega | (simp<;>fail) | fail) [f18,f1,f19,f20,f5,f6,f8,cv,cl,eA,hO,cP,uU]
     refine df.mk (by omega) ?_
     simp(disch:=first | omega | (simp<;>fail) | fail) [f18,f1,f19,f20,f5,f6,f8,cv,cl,eA,hO,cP,uU,t1]
     refine df.mk (by omega) ?_
     simp(disch:=first | omega | (simp<;>fail) | fail) [f20,hO,cP]
     refine iZ (a.length-(i+1)) _ _ (by omega) ⟨i+1,by omega,by omega,by simp[f18,cv],by simp[f1,cl],by simp[f19,qd],by simp,by simp[f5,eA],gW.set (i+b.length) c,by simp[List.map_set],by simp[zx],?_,?_,?_⟩
     ·intro z aP
      rcases List.mem_or_eq_of_mem_set aP with aP | rfl
      ·exact wK z aP
      ·omega
     ·intro k ah
      rw[Is (by omega)]
      exact sx k (by omega)
     ·have o:=Nf gW (i+b.length) c (by omega)
      rw[sx _ (Nat.le_refl _)]at o
      rw[iA a,aR,Nat.add_mul]
      grind
   ·simp
    have:i=a.length:=by omega
    subst this
    exact a1 _ _ ⟨by simp[eA],out,rfl,e3,iL,by rw[ao,List.take_length]⟩
 ·rintro aA H1 ⟨eA,out,rfl,e3,iL,ao⟩
  rw[cw]
  simp[eA,-cw]
  have d_:=cO.fresh H 95 out (a.length+b.length) (a.length+b.length) (Nat.le_refl _) e3 iL false
  refine a4.mk (lB d_ (by simp[e3];omega)) ?_
  rintro v H1 ⟨rfl,c2,dA,ba,dd,-⟩
  simp[bj]
  refine aG _ _ ⟨(Ext.refl H).snoc _ _ _,c2,dA,ba,?_⟩
  rw[dd,<-e3,List.take_length,ao]
@[simp] theorem acz(H N:ab):(H++N)[H.length]?=N[0]?:=by rw[List.getElem?_append_right (Nat.le_refl _),Nat.sub_self]
@[simp] theorem acS(b:Bool):(Value.bool b).cells= #[.bool b]:=rfl
@[simp] theorem acW(a:Option Addr)(n c:Nat):(Value.slice a n c).cells= #[.slice a n c]:=rfl
@[simp] theorem acR(cs:Array Value):(Value.agg cs).cells=cs:=rfl
@[simp] theorem acX(s:ByteArray):(Value.string s).cells= #[.string s]:=rfl
@[simp] theorem aeK(b:Bool):(Value.bool b).oneCell'=true:=rfl
@[simp] theorem aeM(a:Option Addr)(n c:Nat):(Value.slice a n c).oneCell'=true:=rfl
@[simp] theorem aeN(s:ByteArray):(Value.string s).oneCell'=true:=rfl
@[simp] theorem agJ(cs:List Value)(i:Nat):lC cs i []=c3 cs i []:=rfl
@[simp] theorem agL(cs:List Value)(i:Nat)(v w:Value)(aB:List Value):lC cs i (v::w::aB)=c3 cs i (v::w::aB):=rfl
theorem Ext.more(H:ab){N:ab}(h:∀x∈N,∀e cs,x≠ .ro e cs):Ext H (H++N):=⟨N,rfl,h⟩
theorem ea.set{H:ab}{e R n b:Nat}{v:Value}{cs:List Value}{X Y:bB}(h:ea H e R v n cs)(af:H[b]?=some Y)(he:Y.elem?≠some e):ea (H.set b X) e R v n cs:=by
 obtain⟨a,cap,ao,o,aa,aD⟩:=h
 refine⟨a,cap,ao,o,aa,fun ag=>?_⟩
 obtain⟨cb,i,NU,all,aT,aQ,bn,b8,eD⟩:=aD ag
 refine⟨cb,i,NU,all,aT,?_,bn,b8,eD⟩
 have:b≠cb:=fun cH=>by
  subst cH
  rw[af]at aQ
  exact he (Option.some.inj aQ▸b8)
 rw[List.getElem?_set_ne this]
 exact aQ
theorem cO.set{H:ab}{e b:Nat}{v:Value}{l:List Nat}{X Y:bB}(h:cO H e v l)(af:H[b]?=some Y)(he:Y.elem?≠some e):cO (H.set b X) e v l:=⟨h.1.set af he,h.2⟩
theorem sz{neg:Bool}{a:Option Addr}{n c:Nat}{H:ab}:aZ prog 54 [.bool neg,.slice a n c] H (fun v H1=>Ext H H1/\v= .agg #[.bool (neg&&decide (0<n)),.slice a n c]):=by
 refine aZ.cr fun Q aG=>?_
 apply UG (by simp)
 simp[Gb]
 cases neg<;>simp[c3,bj]
 ·exact aG _ _ ⟨Ext.more H (by simp),by simp⟩
 ·exact aG _ _ ⟨Ext.more H (by simp),by simp⟩
def c5(H:ab)(v:Value)(z:Int):Prop:=∃(a:Option Addr) (c:Nat) (l:List Nat),v= .agg #[.bool (decide (z<0)),.slice a l.length c]/\cO H 95 (.slice a l.length c) l/\Trim l/\val l=z.natAbs
theorem c5.ext{H H1:ab}{v:Value}{z:Int}(h:c5 H v z)(I:Ext H H1):c5 H1 v z:=by
 obtain⟨a,c,l,o,aa,aD⟩:=h
 exact⟨a,c,l,o,aa.ext I,aD⟩
theorem Trim.pos{l:List Nat}(h:Trim l):0<l.length↔0<val l:=by
 have:=h.zero
 constructor
 ·intro o
  rcases Nat.eq_zero_or_pos (val l)with aa | aa
  ·rw[this.1 aa]at o;simp at o
  ·exact aa
 ·intro o
  rcases Nat.eq_zero_or_pos l.length with aa | aa
  ·rw[List.eq_nil_of_length_eq_zero aa]at o;simp[val]at o
  ·exact aa
theorem c5.mk'{H:ab}{v:Value}{neg:Bool}{l:List Nat}{a:Option Addr}{c:Nat}(ao:v= .agg #[.bool (neg&&decide (0<l.length)),.slice a l.length c])(d_:cO H 95 (.slice a l.length c) l)(ba:Trim l):c5 H v (if neg=true then-(val l:Int)else val l):=by
 refine⟨a,c,l,?_,d_,ba,by cases neg<;>simp⟩
 rw[ao]
 have:=ba.pos
 cases neg
 ·have e:decide ((if false=true then-(val l:Int)else(val l:Int))<0)=false:=by simp
  rw[e];simp
 ·have e:decide ((if true=true then-(val l:Int)else(val l:Int))<0)=decide (0<l.length):=by
   simp only[if_true]
   by_cases h:0<l.length
   ·have:=this.1 h
    simp[h];omega
   ·have aa:¬0<val l:=fun aa=>h (this.2 aa)
    simp[h];omega
  rw[e];simp
theorem uA{n:Int}{H:ab}(o: -9223372036854775808<=n)(aa:n<9223372036854775808):aZ prog 32 [.int .i64 n] H (fun v H1=>Ext H H1/\c5 H1 v n):=by
 refine aZ.cr fun Q aG=>?_
 apply Uq (by simp)
 simp only[F6]
 rw[cw]
 simp[-cw]
 rw[cw]
 simp[-cw]
 rw[cw]
 refine gQ.cut (fun aA H1=>H1=H++[.own 42 false [.bool false,.slice none 0 0]]/\aA 0= .int .i64 n/\aA 2= .pointer (some ⟨H.length,0,none⟩)/\aA 3= .int .u64 n.natAbs) ?_ ?_
 ·intro K a1
  simp
  refine bG.cE (fun h=>?_) (fun h=>?_)
  ·simp
   refine a1 _ _ ⟨rfl,by simp,by simp,?_⟩
   simp[Nn]
   omega
  ·simp
   refine a1 _ _ ⟨rfl,by simp,by simp,?_⟩
   simp[Nn]
   omega
 ·rintro F H1 ⟨rfl,f0,f2,f3⟩
  have af:n.natAbs<18446744073709551616:=by omega
  obtain⟨m,hm⟩:∃m,n.natAbs=m:=⟨_,rfl⟩
  rw[hm]at f3 af
  obtain⟨bX,il⟩:∃bX,m % 4294967296=bX:=⟨_,rfl⟩
  obtain⟨ad,ih⟩:∃ad,m/4294967296=ad:=⟨_,rfl⟩
  have bq:IntKind.u32.wrap (m:Int)=(bX:Int):=by rw[nS];omega
  have bh:IntKind.u32.wrap ((m:Int)/4294967296)=(ad:Int):=by rw[nS];omega
  rw[cw]
  simp(disch:=first | omega | (simp<;>fail) | fail) [f0,f2,f3,bq,bh,mq,-cw]
  refine sL (e:=95) (R:=1) (z:= .int .u32 0) (out:=[.int .u32 bX,.int .u32 ad]) (by simp) (by simp) (by simp) (by rfl) (by rfl) (by omega) (by omega) (by omega) ?_ (by simp) ?_
  ·simp[iF,pH]
  simp[-cw]
  have d_:=cO.fresh (H++[.own 42 false [.bool false,.slice none 0 0]]) 95 [bX,ad] 2 2 (by omega) (by simp) (by simp;omega) false
  simp at d_
  refine a4.mk (lB d_ (by simp)) ?_
  rintro v H1 ⟨rfl,l,ar,ba,ao,hlen⟩
  obtain⟨a,c,rfl⟩:=ar.len
  simp[f0,f2,-cw]
  refine a4.mk sz ?_
  rintro v H1 ⟨I,rfl⟩
  have cv:H1[H.length]?=some (.own 42 false [.bool false,.slice none 0 0]):=I.get_some (by simp)
  have a5:H.length<H1.length:=(cc.1 cv).1
  have cn:Ext H H1:=(Ext.more H (by simp)).az I
  simp[f2,cv,List.getElem?_set_self a5,c3,bj,-getElem?_pos]
  refine aG _ _ ⟨cn.set (Nat.le_refl _) (by simp),?_⟩
  have g4:val l=n.natAbs:=by
   rw[ao]
   simp[val]
   omega
  have v_:cO (H1.set H.length (.own 42 false [.bool (decide (n<0)&&decide (0<l.length)),.slice a l.length c])) 95 (.slice a l.length c) l:=(ar.ext I).set cv (by simp[bB.elem?])
  have pk:=c5.mk' (neg:=decide (n<0)) rfl v_ ba
  rw[g4]at pk
  have aP:(if decide (n<0)=true then-((n.natAbs:Nat):Int)else(n.natAbs:Int))=n:=by
   simp only[decide_eq_true_eq]
   split<;>omega
  rwa[aP]at pk
def Fits(z:Int):Prop:=z.natAbs<4294967296^1000000
theorem Fits.length{z:Int}(h:Fits z){l:List Nat}(ba:Trim l)(ao:val l=z.natAbs):l.length<=1000000:=ba.length_le (by rw[ao];exact h)
theorem sD(a n m:Nat)(aF:0<a)(h:n<=m):a^n<=a^m:=Nat.pow_le_pow_right aF h
theorem Ev(a b n:Nat)(h:a<=b):a^n<=b^n:=Nat.pow_le_pow_left h n
theorem LV(a n m k:Nat)(h:n*m=k):a^k=(a^n)^m:=by rw[<-h,Nat.pow_mul]
theorem WR(k:Nat):(4294967296:Nat)^k=2^(32*k):=by rw[Nat.pow_mul]
theorem WN{v N:Nat}(M:Nat)(h:v<2^N)(cm:N<=32*M):v<4294967296^M:=by
 rw[WR];exact Nat.lt_of_lt_of_le h (Nat.pow_le_pow_right (by decide) cm)
theorem WS{v n:Nat}(m:Nat)(h:v<4294967296^n)(aE:n<=m):v<10^(10*m):=by
 rw[Nat.pow_mul];exact Nat.lt_of_lt_of_le h (Nat.le_trans (Nat.pow_le_pow_right (by decide) aE) (Nat.pow_le_pow_left (by decide) m))
theorem WO(a n b dE m k lz:Nat)(h:n*m=k)(aa:dE*m=lz)(hle:a^n<=b^dE):a^k<=b^lz:=by
 rw[<-h,<-aa,Nat.pow_mul,Nat.pow_mul];exact Nat.pow_le_pow_left hle m
theorem WQ{v e n:Nat}(m:Nat)(h:v<10^n)(he:e<=10^9)(aE:n+9<m):v*e<4294967296^m:=by
 refine Nat.lt_of_le_of_lt (Nat.mul_le_mul (Nat.le_of_lt h) he) (Nat.lt_of_lt_of_le ?_ (Nat.pow_le_pow_left (show 10<=4294967296 by decide) m))
 rw[<-Nat.pow_add];exact Nat.pow_lt_pow_right (by decide) aE
theorem Ew(n:Nat)(h:n≠0):1<2^n:=Nat.one_lt_two_pow h
theorem Fits.small{z:Int}(h:z.natAbs<4294967296^8):Fits z:=Nat.lt_of_lt_of_le h (sD 4294967296 8 1000000 (by decide) (by decide))
theorem Fits.neg{z:Int}(h:Fits z):Fits (-z):=by unfold Fits at*;rwa[Int.natAbs_neg]
theorem Ad{v:Value}{a:Int}{H:ab}(bQ:c5 H v a):aZ prog 81 [v] H (fun v H1=>Ext H H1/\c5 H1 v (-a)):=by
 refine aZ.cr fun Q aG=>?_
 apply Ul (by simp)
 obtain⟨x,h7,l,rfl,d_,ba,ao⟩:=bQ
 simp[F3]
 refine a4.mk sz ?_
 rintro v H1 ⟨I,rfl⟩
 have cv:H1[H.length+1]?=some (.own 42 false [.bool false,.slice none 0 0]):=I.get_some (by simp)
 have a5:H.length+1<H1.length:=(cc.1 cv).1
 have cn:Ext H H1:=(Ext.more H (by simp)).az I
 simp[cv,List.getElem?_set_self a5,c3,bj,-getElem?_pos]
 refine aG _ _ ⟨cn.set (by omega) (by simp),?_⟩
 have pk:=c5.mk' (neg:= !decide (a<0)) rfl ((d_.ext cn).set (X:= .own 42 false [.bool (!decide (a<0)&&decide (0<l.length)),.slice x l.length h7]) cv (by simp[bB.elem?])) ba
 rw[ao]at pk
 have aP:(if(!decide (a<0))=true then-((a.natAbs:Nat):Int)else(a.natAbs:Int))= -a:=by
  simp
  split<;>omega
 rw[aP]at pk
 exact pk
theorem Mm{v:Value}{a:Int}{H:ab}(bQ:c5 H v a):aZ prog 65 [v] H (fun v H1=>Ext H H1/\v= .int .i64 (if a<0 then-1 else if a=0 then 0 else 1)):=by
 refine aZ.cr fun Q aG=>?_
 apply Un (by simp)
 obtain⟨x,h7,l,rfl,d_,ba,ao⟩:=bQ
 have aR:=ba.pos
 simp[F4]
 refine bG.cE (fun h=>?_) (fun h=>?_)
 ·simp[bj]
  refine aG _ _ ⟨Ext.more H (by simp),?_⟩
  have:a=0:=by
   rw[h]at ao
   simp[val]at ao
   omega
  simp[this]
 ·simp
  have aH:a≠0:=fun aH=>by
   have:0<l.length:=List.length_pos_iff.2 h
   rw[aH]at ao
   omega
  refine bG.cE (fun o=>?_) (fun o=>?_)
  ·simp[bj]
   exact aG _ _ ⟨Ext.more H (by simp),by simp[o]⟩
  ·simp[bj]
   exact aG _ _ ⟨Ext.more H (by simp),by simp[o,aH]⟩
theorem yj{v w:Value}{a b:Int}{H:ab}(bQ:c5 H v a)(bR:c5 H w b)(bk:Fits a)(jN:Fits b):aZ prog 68 [v,w] H (fun v H1=>Ext H H1/\c5 H1 v (a+b)):=by
 refine aZ.cr fun Q aG=>?_
 apply Uh (by simp)
 obtain⟨x,h7,dS,rfl,d_,ba,ao⟩:=bQ
 obtain⟨y,mb,ff,rfl,ll,vY,dd⟩:=bR
 have j0:=bk.length ba ao
 have jv:=jN.length vY dd
 have bL:Ext H (H++[.own 42 false [.bool (decide (a<0)),.slice x dS.length h7],.own 42 false [.bool (decide (b<0)),.slice y ff.length mb],.own 42 false [.bool false,.slice none 0 0]]):=Ext.more H (by simp)
 have fin:∀(neg:Bool) (H1 a0:ab) (l:List Nat) (m:Option Addr) (l2:Nat),Ext (H++[.own 42 false [.bool (decide (a<0)),.slice x dS.length h7],.own 42 false [.bool (decide (b<0)),.slice y ff.length mb],.own 42 false [.bool false,.slice none 0 0]]) H1->cO H1 95 (.slice m l.length l2) l->Trim l->
   (if neg=true then-(val l:Int)else val l)=a+b->Ext H1 a0->a0[H.length+2]?=some (.own 42 false [.bool false,.slice none 0 0])/\Q (.agg #[.bool (neg&&decide (0<l.length)),.slice m l.length l2]) (a0.set (H.length+2) (.own 42 false [.bool (neg&&decide (0<l.length)),.slice m l.length l2]))/\H.length+2<a0.length:=by
  intro neg H1 a0 l m l2 o aa aD bD b2
  have cv:a0[H.length+2]?=some (.own 42 false [.bool false,.slice none 0 0]):=(o.az b2).get_some (by simp)
  refine⟨cv,aG _ _ ⟨(bL.az (o.az b2)).set (by omega) (by simp),?_⟩,(cc.1 cv).1⟩
  have:=c5.mk' (neg:=neg) rfl ((aa.ext b2).set (X:= .own 42 false [.bool (neg&&decide (0<l.length)),.slice m l.length l2]) cv (by simp[bB.elem?])) aD
  rwa[bD]at this
 simp[F0]
 refine bG.cE (fun h=>?_) (fun h=>?_)
 ·simp
  refine a4.mk (LN (d_.ext bL) (ll.ext bL) (by omega) (by omega)) ?_
  rintro v H1 ⟨I,l,ar,iI,ow⟩
  refine⟨I,?_⟩
  obtain⟨m,l2,rfl⟩:=ar.len
  simp
  refine a4.mk sz ?_
  rintro v a0 ⟨bx,rfl⟩
  obtain⟨cv,cl,iX⟩:=fin (decide (a<0)) H1 a0 l m l2 I ar iI (by
   have b5:a<0↔b<0:=by simpa using h
   rw[ow,ao,dd];simp;split<;>omega) bx
  simp[cv,List.getElem?_set_self iX,c3,bj,-getElem?_pos]
  exact cl
 ·simp
  refine a4.mk (BB (d_.ext bL) (ll.ext bL) ba vY (by omega) (by omega)) ?_
  rintro v H1 ⟨rfl,rfl⟩
  simp
  refine bG.cE (fun o=>?_) (fun o=>?_)
  ·have jX:val ff<=val dS:=by
    rcases Nat.lt_or_ge (val dS) (val ff)with aa | aa
    ·rw[if_pos aa]at o;omega
    ·exact aa
   simp
   refine a4.mk (Lj (d_.ext bL) (ll.ext bL) (by omega) ?_ jX) ?_
   ·rcases Nat.lt_or_ge dS.length ff.length with aa | aa
    ·have:=vY.uv d_.2 aa
     omega
    ·exact aa
   rintro v H1 ⟨I,l,ar,iI,ow⟩
   refine⟨I,?_⟩
   obtain⟨m,l2,rfl⟩:=ar.len
   simp
   refine a4.mk sz ?_
   rintro v a0 ⟨bx,rfl⟩
   obtain⟨cv,cl,iX⟩:=fin (decide (a<0)) H1 a0 l m l2 I ar iI (by
    have b5:¬(a<0↔b<0):=by simpa using h
    rw[ow,ao,dd,Int.ofNat_sub (by omega)];simp;split<;>omega) bx
   simp[cv,List.getElem?_set_self iX,c3,bj,-getElem?_pos]
   exact cl
  ·have jX:val dS<=val ff:=by
    rcases Nat.lt_or_ge (val dS) (val ff)with aa | aa
    ·omega
    ·rw[if_neg (by omega)]at o
     split at o<;>omega
   simp
   refine a4.mk (Lj (ll.ext bL) (d_.ext bL) (by omega) ?_ jX) ?_
   ·rcases Nat.lt_or_ge ff.length dS.length with aa | aa
    ·have:=ba.uv ll.2 aa
     omega
    ·exact aa
   rintro v H1 ⟨I,l,ar,iI,ow⟩
   refine⟨I,?_⟩
   obtain⟨m,l2,rfl⟩:=ar.len
   simp
   refine a4.mk sz ?_
   rintro v a0 ⟨bx,rfl⟩
   obtain⟨cv,cl,iX⟩:=fin (decide (b<0)) H1 a0 l m l2 I ar iI (by
    have b5:¬(a<0↔b<0):=by simpa using h
    rw[ow,ao,dd,Int.ofNat_sub (by omega)];simp;split<;>omega) bx
   simp[cv,List.getElem?_set_self iX,c3,bj,-getElem?_pos]
   exact cl
attribute [simp] List.getElem?_cons_zero List.getElem?_cons_succ
theorem c5.set{H:ab}{v:Value}{z:Int}{b:Nat}{X Y:bB}(h:c5 H v z)(af:H[b]?=some Y)(he:Y.elem?≠some 95):c5 (H.set b X) v z:=by
 obtain⟨a,c,l,o,aa,aD⟩:=h
 exact⟨a,c,l,o,aa.set af he,aD⟩
theorem c5.shape{H:ab}{v:Value}{z:Int}(h:c5 H v z):∃s a n c,v= .agg #[.bool s,.slice a n c]:=by
 obtain⟨a,c,l,o,-⟩:=h
 exact⟨_,_,_,_,o⟩
theorem Mu{v w:Value}{a b:Int}{H:ab}(bQ:c5 H v a)(bR:c5 H w b)(bk:Fits a)(jN:Fits b):aZ prog 75 [v,w] H (fun v H1=>Ext H H1/\c5 H1 v (a-b)):=by
 refine aZ.cr fun Q aG=>?_
 apply Up (by simp)
 obtain⟨s1,b4,du,cJ,rfl⟩:=bQ.shape
 obtain⟨s2,dq,dE,db,rfl⟩:=bR.shape
 have bL:Ext H (H++[.own 42 false [.bool s1,.slice b4 du cJ],.own 42 false [.bool s2,.slice dq dE db],.own 42 false [.bool false,.slice none 0 0]]):=Ext.more H (by simp)
 simp[F5]
 refine a4.mk (Ad (bR.ext bL)) ?_
 rintro v H1 ⟨I,ao⟩
 refine⟨I,?_⟩
 simp
 refine a4.mk (yj (bQ.ext (bL.az I)) ao bk jN.neg) ?_
 rintro v a0 ⟨bx,j6⟩
 have cv:a0[H.length+2]?=some (.own 42 false [.bool false,.slice none 0 0]):=(I.az bx).get_some (by simp)
 have a5:=(cc.1 cv).1
 obtain⟨q4,e9,jF,e_,rfl⟩:=j6.shape
 simp[cv,List.getElem?_set_self a5,c3,bj,-getElem?_pos]
 exact aG _ _ ⟨(bL.az (I.az bx)).set (by omega) (by simp),j6.set cv (by simp[bB.elem?])⟩
theorem xq{v w:Value}{a b:Int}{H:ab}(bQ:c5 H v a)(bR:c5 H w b)(bk:Fits a)(jN:Fits b):aZ prog 52 [v,w] H (fun v H1=>Ext H H1/\c5 H1 v (a*b)):=by
 refine aZ.cr fun Q aG=>?_
 apply Uk (by simp)
 obtain⟨x,h7,dS,rfl,d_,ba,ao⟩:=bQ
 obtain⟨y,mb,ff,rfl,ll,vY,dd⟩:=bR
 have j0:=bk.length ba ao
 have jv:=jN.length vY dd
 have bL:Ext H (H++[.own 42 false [.bool (decide (a<0)),.slice x dS.length h7],.own 42 false [.bool (decide (b<0)),.slice y ff.length mb],.own 42 false [.bool false,.slice none 0 0]]):=Ext.more H (by simp)
 simp[F2]
 refine a4.mk (ME (d_.ext bL) (ll.ext bL) (by omega) (by omega)) ?_
 rintro v H1 ⟨I,l,ar,iI,ow⟩
 refine⟨I,?_⟩
 obtain⟨m,l2,rfl⟩:=ar.len
 simp
 refine a4.mk sz ?_
 rintro v a0 ⟨bx,rfl⟩
 have cv:a0[H.length+2]?=some (.own 42 false [.bool false,.slice none 0 0]):=(I.az bx).get_some (by simp)
 have a5:=(cc.1 cv).1
 have pk:=c5.mk' rfl (ar.ext bx) iI (neg:= !(decide (a<0)==decide (b<0)))
 have aP:(if(!(decide (a<0)==decide (b<0)))=true then-(val l:Int)else(val l:Int))=a*b:=by
  rw[ow,ao,dd]
  rcases Int.natAbs_eq a with aF | aF<;>rcases Int.natAbs_eq b with af | af<;>generalize a.natAbs=p at* <;>generalize b.natAbs=q at* <;>subst aF af<;>by_cases aR:p=0<;>by_cases au:q=0<;>simp[aR,au,Int.mul_neg,Int.neg_mul]<;>omega
 rw[aP]at pk
 obtain⟨s8,pa⟩:∃s8,(!(decide (a<0)==decide (b<0))&&decide (0<l.length))=s8:=⟨_,rfl⟩
 simp[cv,List.getElem?_set_self a5,c3,bj,-getElem?_pos]
 refine aG _ _ ⟨(bL.az (I.az bx)).set (by omega) (by simp),?_⟩
 have:=pk.set (X:= .own 42 false [.bool (!(decide (a<0)==decide (b<0))&&decide (0<l.length)),.slice m l.length l2]) cv (by simp[bB.elem?])
 simpa using this
theorem D0{v w:Value}{a b:Int}{H:ab}(bQ:c5 H v a)(bR:c5 H w b)(bk:Fits a)(jN:Fits b):aZ prog 53 [v,w] H (fun v H1=>Ext H H1/\v= .int .i64 (if a<b then-1 else if a=b then 0 else 1)):=by
 refine aZ.cr fun Q aG=>?_
 apply Ui (by simp)
 obtain⟨s1,b4,du,cJ,rfl⟩:=bQ.shape
 obtain⟨s2,dq,dE,db,rfl⟩:=bR.shape
 have bL:Ext H (H++[.own 42 false [.bool s1,.slice b4 du cJ],.own 42 false [.bool s2,.slice dq dE db]]):=Ext.more H (by simp)
 simp[F1]
 refine a4.mk (Mu (bQ.ext bL) (bR.ext bL) bk jN) ?_
 rintro v H1 ⟨I,ao⟩
 simp
 refine a4.mk (Mm ao) ?_
 rintro v a0 ⟨bx,rfl⟩
 simp[bj]
 refine aG _ _ ⟨bL.az (I.az bx),?_⟩
 congr 1
 split<;>split<;>omega
def e7(H:ab)(v:Value)(n d:Int):Prop:=∃g8 kX gC h2,v= .agg #[g8,kX,gC,h2]/\c5 H (.agg #[g8,kX]) n/\c5 H (.agg #[gC,h2]) d
theorem e7.ext{H H1:ab}{v:Value}{n d:Int}(h:e7 H v n d)(I:Ext H H1):e7 H1 v n d:=by
 obtain⟨g8,kX,gC,h2,o,aa,aD⟩:=h
 exact⟨g8,kX,gC,h2,o,aa.ext I,aD.ext I⟩
theorem e7.set{H:ab}{v:Value}{n d:Int}{b:Nat}{X Y:bB}(h:e7 H v n d)(af:H[b]?=some Y)(he:Y.elem?≠some 95):e7 (H.set b X) v n d:=by
 obtain⟨g8,kX,gC,h2,o,aa,aD⟩:=h
 exact⟨g8,kX,gC,h2,o,aa.set af he,aD.set af he⟩
theorem e7.shape{H:ab}{v:Value}{n d:Int}(h:e7 H v n d):∃s1 b4 du cJ s2 dq dE db,v= .agg #[.bool s1,.slice b4 du cJ,.bool s2,.slice dq dE db]/\c5 H (.agg #[.bool s1,.slice b4 du cJ]) n/\c5 H (.agg #[.bool s2,.slice dq dE db]) d:=by
 obtain⟨g8,kX,gC,h2,o,aa,aD⟩:=h
 obtain⟨s1,b4,du,cJ,bq⟩:=aa.shape
 obtain⟨s2,dq,dE,db,bh⟩:=aD.shape
 simp at bq bh
 obtain⟨rfl,rfl⟩:=bq
 obtain⟨rfl,rfl⟩:=bh
 exact⟨s1,b4,du,cJ,s2,dq,dE,db,o,aa,aD⟩
theorem PI{v:Value}{a:Int}{H:ab}(bQ:c5 H v a):aZ prog 67 [v] H (fun v H1=>Ext H H1/\e7 H1 v a 1):=by
 refine aZ.cr fun Q aG=>?_
 apply Ug (by simp)
 obtain⟨s1,b4,du,cJ,rfl⟩:=bQ.shape
 have bL:Ext H (H++[.own 42 false [.bool s1,.slice b4 du cJ],.own 44 false [.bool false,.slice none 0 0,.bool false,.slice none 0 0]]):=Ext.more H (by simp)
 simp[FZ]
 refine a4.mk (uA (by omega) (by omega)) ?_
 rintro v H1 ⟨I,ao⟩
 refine⟨I,?_⟩
 obtain⟨q4,e9,jF,e_,rfl⟩:=ao.shape
 have cv:H1[H.length+1]?=some (.own 44 false [.bool false,.slice none 0 0,.bool false,.slice none 0 0]):=I.get_some (by simp)
 have a5:=(cc.1 cv).1
 simp[cv,List.getElem?_set_self a5,c3,bj,-getElem?_pos]
 refine aG _ _ ⟨(bL.az I).set (by omega) (by simp),?_⟩
 exact e7.set ⟨_,_,_,_,rfl,bQ.ext (bL.az I),ao⟩ cv (by simp[bB.elem?])
theorem aaz{n:Int}{H:ab}(o: -9223372036854775808<=n)(aa:n<9223372036854775808):aZ prog 14 [.int .i64 n] H (fun v H1=>Ext H H1/\e7 H1 v n 1):=by
 refine aZ.cr fun Q aG=>?_
 apply UB (by simp)
 have bL:Ext H (H++[.own 44 false [.bool false,.slice none 0 0,.bool false,.slice none 0 0]]):=Ext.more H (by simp)
 simp[F_]
 refine a4.mk (uA o aa) ?_
 rintro v H1 ⟨I,ao⟩
 simp
 refine a4.mk (uA (by omega) (by omega)) ?_
 rintro v a0 ⟨bx,j6⟩
 obtain⟨s1,b4,du,cJ,rfl⟩:=ao.shape
 obtain⟨q4,e9,jF,e_,rfl⟩:=j6.shape
 have cv:a0[H.length]?=some (.own 44 false [.bool false,.slice none 0 0,.bool false,.slice none 0 0]):=(I.az bx).get_some (by simp)
 have a5:=(cc.1 cv).1
 simp[cv,List.getElem?_set_self a5,c3,bj,-getElem?_pos]
 refine aG _ _ ⟨(bL.az (I.az bx)).set (by omega) (by simp),?_⟩
 exact e7.set ⟨_,_,_,_,rfl,ao.ext bx,j6⟩ cv (by simp[bB.elem?])
theorem D3{v:Value}{n d:Int}{H:ab}(bQ:e7 H v n d)(aJ:0<d):aZ prog 34 [v] H (fun v H1=>Ext H H1/\v= .bool (decide (d=1))):=by
 refine aZ.cr fun Q aG=>?_
 apply Uu (by simp)
 obtain⟨s1,b4,du,cJ,s2,dq,dE,db,rfl,cm,hq⟩:=bQ.shape
 obtain⟨x,h7,l,he,d_,ba,ao⟩:=hq
 simp at he
 obtain⟨rfl,rfl,rfl,rfl⟩:=he
 simp[F7]
 refine bG.cE (fun h=>?_) (fun h=>?_)
 ·obtain⟨b,i,cap,X,all,he,aS,ag,-,lu⟩:=d_.at (by omega)
  cases he
  have CD:=mR aS [.own 44 false [.bool s1,.slice b4 du cJ,.bool (decide (d<0)),.slice (some ⟨b,i,none⟩) l.length db]]
  obtain⟨y,rfl⟩:=List.length_eq_one_iff.1 (show l.length=1 by omega)
  have aL:=lu 0 (by simp)
  simp at aL
  simp[val]at ao
  simp[mR aS,ag,aL,bj,-getElem?_pos]
  refine aG _ _ ⟨Ext.more H (by simp),?_⟩
  congr 1
  simp
  omega
 ·simp[h,bj]
  refine aG _ _ ⟨Ext.more H (by simp),?_⟩
  have:d≠1:=fun e=>by
   subst e
   have o:=ba.length_le (n:=1) (by rw[ao];decide)
   have:=ba.pos
   omega
  simp[this]
theorem Xf{v:Value}{n d:Int}{H:ab}(bQ:e7 H v n d):aZ prog 38 [v] H (fun v H1=>Ext H H1/\v= .int .i64 (if n<0 then-1 else if n=0 then 0 else 1)):=by
 refine aZ.cr fun Q aG=>?_
 apply Uy (by simp)
 obtain⟨s1,b4,du,cJ,s2,dq,dE,db,rfl,cm,hq⟩:=bQ.shape
 have bL:Ext H (H++[.own 44 false [.bool s1,.slice b4 du cJ,.bool s2,.slice dq dE db]]):=Ext.more H (by simp)
 simp[F9]
 refine a4.mk (Mm (cm.ext bL)) ?_
 rintro v H1 ⟨I,rfl⟩
 simp[bj]
 exact aG _ _ ⟨bL.az I,rfl⟩
theorem En{v:Value}{n d:Int}{H:ab}(bQ:e7 H v n d):aZ prog 26 [v] H (fun v H1=>Ext H H1/\c5 H1 v n):=by
 refine aZ.cr fun Q aG=>?_
 apply Ux (by simp)
 obtain⟨s1,b4,du,cJ,s2,dq,dE,db,rfl,cm,hq⟩:=bQ.shape
 simp[F8,c3,bj]
 have bL:Ext H (H++[.own 44 false [.bool s1,.slice b4 du cJ,.bool s2,.slice dq dE db],.own 42 false [.bool s1,.slice b4 du cJ]]):=Ext.more H (by simp)
 exact aG _ _ ⟨bL,cm.ext bL⟩
def pJ(a b:Int):Int:=IntKind.u64.wrap ((BitVec.ofInt 64 a ||| BitVec.ofInt 64 b).toNat:Int)
@[simp high] theorem ae5(P:Program)(t:Nat)(a b:Int):dO P .or t (.int .u64 a) (.int .u64 b)=some (.int .u64 (pJ a b)):=Mj
theorem uD{r x:Nat}(aj:r<4294967296)(I:x<4294967296):pJ ((r*4294967296:Nat):Int) (x:Int)=((r*4294967296+x:Nat):Int):=by
 unfold pJ
 have o:(BitVec.ofInt 64 ((r*4294967296:Nat):Int) ||| BitVec.ofInt 64 (x:Int)).toNat=r*4294967296+x:=by
  rw[BitVec.ofInt_natCast,BitVec.ofInt_natCast,BitVec.toNat_or,BitVec.toNat_ofNat,BitVec.toNat_ofNat,Nat.mod_eq_of_lt (by omega),Nat.mod_eq_of_lt (by omega)]
  have:=Nat.two_pow_add_eq_or_of_lt (i:=32) (b:=x) I r
  rw[Nat.mul_comm]at this
  exact this.symm
 rw[o]
 exact fR (by omega) (by omega)
@[simp high] theorem afa(P:Program)(t:Nat)(a:Int):dO P .shl t (.int .u64 a) (.int .u64 32)=some (.int .u64 (IntKind.u64.wrap (a*4294967296))):=by
 rw[Xs,if_neg (by decide)]
 rfl
theorem sQ(l:List Nat)(i:Nat)(ad:i<l.length):val (l.drop i)=l[i]?.getD 0+4294967296*val (l.drop (i+1)):=by
 rw[List.drop_eq_getElem_cons ad,bt ad]
 rfl
theorem Hx{v:Value}{a:List Nat}{w:Nat}{H:ab}(bQ:cO H 95 v a)(j0:a.length<1048576)(pv:0<w)(hw:w<4294967296):
  aZ prog 56 [v,.int .u32 w] H (fun av H1=>Ext H H1/\∃q l,av= .tuple #[q,.int .u32 (val a % w:Nat)]/\cO H1 95 q l/\Trim l/\val l=val a/w):=by
 refine aZ.cr fun Q aG=>?_
 apply UC (by simp)
 obtain⟨x,h7,rfl⟩:=bQ.len
 have qK:IntKind.u64.wrap (w:Int)=(w:Int):=fR (by omega) (by omega)
 by_cases o4:a.length=0
 ·have wg:a=[]:=List.eq_nil_of_length_eq_zero o4
  subst wg
  simp only[Bm]
  rw[cw]
  simp[-cw]
  rw[cw]
  simp[-cw]
  refine AS (e:=95) (R:=1) (bs:=4) (eg:= .i64) (cB:= .i64) (by simp) (by simp) (by simp) (by simp) (by simp) ?_
  simp(disch:=omega)[cP]
  refine kE.mk (ak:=fun n aA H1=>H=H1/\aA 8= .int .i64 (-1)/\aA 6= .slice (some ⟨0,0,none⟩) 0 0/\aA 7= .int .u64 0) 0 ⟨rfl,by simp,by simp,by simp⟩ ?_
  rintro n aA H1 ⟨rfl,iG,gf,kN⟩ K a1
  simp[gf,kN,iG]
  refine a4.mk (lB (l:=[]) ⟨ea.void H _ _ _,by simp⟩ (by simp)) ?_
  rintro v H1 ⟨rfl,c2,dA,ba,dd,-⟩
  simp[bj,kN,nS]
  refine aG _ _ ⟨Ext.refl _,v,c2,by simp[val],dA,ba,by simpa[val]using dd⟩
 simp only[Bm]
 rw[cw]
 simp[-cw]
 rw[cw]
 simp(disch:=omega)[cP,-cw]
 refine xV (e:=95) (R:=1) (bs:=4) (eg:= .i64) (cB:= .i64) (l:=a.length) (c:=a.length) (z:= .int .u32 0) (by simp) (by simp) (by simp) (by simp) (by rfl) (by rfl) (by simp) (by simp) (by omega) (by omega) (Nat.le_refl _) (by omega) (by omega) ?_
 simp[-cw,pH]
 rw[cw]
 simp[-cw]
 rw[cw]
 refine gQ.cut (fun aA H1=>aA 6= .slice (some ⟨H.length,0,none⟩) a.length a.length/\∃(out:List Nat) (r:Nat),H1=H++[.own 95 false (out.map fun(x:Nat)=>Value.int .u32 (x:Int))]/\out.length=a.length/\(∀x∈out,x<4294967296)/\aA 7= .int .u64 r/\r<w/\val a=val out*w+r) ?_ ?_
 ·intro K a1
  simp(disch:=omega)[cP]
  refine kE.mk (ak:=fun n aA H1=>n<=a.length/\aA 0= .slice x a.length h7/\aA 1= .int .u32 w/\aA 8= .int .i64 ((n:Int)-1)/\aA 6= .slice (some ⟨H.length,0,none⟩) a.length a.length/\∃(out:List Nat) (r:Nat),H1=H++[.own 95 false (out.map fun(x:Nat)=>Value.int .u32 (x:Int))]/\out.length=a.length/\(∀x∈out,x<4294967296)/\aA 7= .int .u64 r/\r<w/\val (a.drop n)=val (out.drop n)*w+r) a.length ?_ ?_
  ·refine⟨Nat.le_refl _,by simp,by simp,by simp,by simp,List.replicate a.length 0,0,by simp,by simp,by simp,by simp,pv,?_⟩
   rw[List.drop_eq_nil_of_le (by simp),List.drop_eq_nil_of_le (by simp)]
   simp[val]
  ·rintro n aA H1 ⟨aE,cv,cl,iG,gf,out,r,rfl,e3,iL,kN,aj,ao⟩ dW iZ
   simp[iG]
   refine bG.cE (fun aR=>?_) (fun aR=>?_)
   ·obtain⟨gC,i1,yr,yh,yk,jr,nt,lq,-,oh⟩:=bQ.at (by omega)
    cases jr
    have bq:((n:Int)-1).toNat=n-1:=by omega
    obtain⟨p,qC⟩:∃p,a[n-1]?.getD 0=p:=⟨_,rfl⟩
    have jd:p<4294967296:=qC▸bQ.lt _
    have js:=oh (n-1) (by omega)
    rw[qC]at js
    obtain⟨s,an⟩:∃s,r*4294967296=s:=⟨_,rfl⟩
    have iq:IntKind.u64.wrap ((r:Int)*4294967296)=(s:Int):=by
     rw[fR (by omega) (by omega)]
     omega
    have aI:=uD (r:=r) (by omega) jd
    rw[an]at aI
    obtain⟨t,bu⟩:∃t,s+p=t:=⟨_,rfl⟩
    rw[bu]at aI
    obtain⟨q,au⟩:∃q,t/w=q:=⟨_,rfl⟩
    obtain⟨m,hm⟩:∃m,t % w=m:=⟨_,rfl⟩
    have mz:=Nat.div_add_mod t w
    rw[au,hm]at mz
    have fm:m<w:=hm▸Nat.mod_lt _ pv
    have sb:q<4294967296:=by
     rw[<-au]
     refine(Nat.div_lt_iff_lt_mul pv).2 ?_
     have:(r+1)*4294967296<=w*4294967296:=Nat.mul_le_mul_right _ aj
     rw[Nat.mul_comm 4294967296]
     omega
    have Kd:(t:Int).tdiv w=(q:Int):=by rw[<-au];rfl
    have uf:(t:Int).tmod w=(m:Int):=by rw[<-hm];rfl
    have zF:IntKind.u64.wrap (q:Int)=(q:Int):=fR (by omega) (by omega)
    have J6:IntKind.u32.wrap (q:Int)=(q:Int):=lD (by omega) (by omega)
    have J1:IntKind.u64.wrap (p:Int)=(p:Int):=fR (by omega) (by omega)
    have Kp:¬(w=0):=by omega
    simp[cv,iG,kN,iq]
    refine df.mk ⟨by omega,by omega⟩ ?_
    simp[cv,iG,kN,gf,cl,bq,mR nt,lq,js,-getElem?_pos,J1,iq,aI,qK,Kd,uf,zF,J6,Kp]
    refine df.mk ⟨by omega,by omega⟩ ?_
    simp(disch:=omega)[cv,iG,kN,gf,cl,bq,mR nt,lq,js,-getElem?_pos,J1,iq,aI,qK,Kd,uf,zF,J6,Kp,cP]
    refine df.mk (by omega) ?_
    simp(disch:=omega)[iG,cP]
    refine iZ (n-1) _ _ (by omega) ⟨by omega,by simp[cv],by simp[cl],by simp;omega,by simp[gf],out.set (n-1) q,m,by simp[List.map_set],by simp[e3],?_,by simp,fm,?_⟩
    ·intro z aP
     rcases List.mem_or_eq_of_mem_set aP with aP | rfl
     ·exact iL z aP
     ·exact sb
    ·rw[sQ a (n-1) (by omega),sQ (out.set (n-1) q) (n-1) (by simp;omega),qC,Nat.sub_add_cancel (by omega),ao,List.drop_set_of_lt (by omega),List.getElem?_set_self (by omega)]
     simp only[Option.getD_some]
     have b2:s+p=w*q+m:=by omega
     grind
   ·simp
    have:n=0:=by omega
    subst this
    exact a1 _ _ ⟨by simp[gf],out,r,rfl,e3,iL,by simp[kN],aj,by simpa using ao⟩
 ·rintro aA H1 ⟨gf,out,r,rfl,e3,iL,kN,aj,ao⟩
  have d_:=cO.fresh H 95 out a.length a.length (Nat.le_refl _) e3 iL false
  have fo:IntKind.u32.wrap (r:Int)=(r:Int):=lD (by omega) (by omega)
  rw[cw]
  simp[gf,-cw]
  refine a4.mk (lB d_ (by simp[e3];omega)) ?_
  rintro v H1 ⟨rfl,c2,dA,ba,dd,-⟩
  simp[bj,kN,fo]
  rw[<-e3,List.take_length]at dd
  have o:val a/w=val out:=by rw[ao,Nat.mul_comm,Nat.mul_add_div pv,Nat.div_eq_of_lt aj,Nat.add_zero]
  have aa:val a % w=r:=by rw[ao,Nat.mul_comm,Nat.mul_add_mod,Nat.mod_eq_of_lt aj]
  exact aG _ _ ⟨(Ext.refl H).snoc _ _ _,v,c2,by rw[aa],dA,ba,by rw[dd,o]⟩
theorem z1{v bX ad:Int}{H:ab}:aZ prog 20 [.int .i64 v,.int .i64 bX,.int .i64 ad] H (fun w H1=>H1=H/\w= .bool (decide (bX<=v/\v<=ad))):=by
 refine aZ.cr fun Q aG=>?_
 apply UT (by simp)
 simp[Ge]
 refine bG.cE (fun h=>?_) (fun h=>?_)
 ·simp[h,bj]
  exact aG _ _ ⟨rfl,by simp[h]⟩
 ·simp[h,bj]
  exact aG _ _ ⟨rfl,by simp[h]⟩
theorem aaA{x:Int}{H:ab}:aZ prog 51 [.int .i64 x] H (fun w H1=>H1=H/\w= .bool (decide (x<0\/1000<x))):=by
 refine aZ.cr fun Q aG=>?_
 apply Ve (by simp)
 simp[Gj]
 refine bG.cE (fun h=>?_) (fun h=>?_)
 ·simp[h,bj]
  exact aG _ _ ⟨rfl,by simp[h]⟩
 ·simp[h,bj]
  exact aG _ _ ⟨rfl,by simp[h]⟩
def kf(H:ab)(v:Value)(l:List Int):Prop:=ea H 3 1 v l.length (l.map (Value.int .i64))
theorem kf.ext{H H1:ab}{v:Value}{l:List Int}(h:kf H v l)(I:Ext H H1):kf H1 v l:=ea.ext h I
theorem kf.at{H:ab}{v:Value}{l:List Int}(h:kf H v l)(aE:0<l.length):∃b i cap X all,v= .slice (some ⟨b,i,none⟩) l.length cap/\H[b]?=some X/\X.cells?=some all/\∀k,k<l.length->all[i+k]?=some (.int .i64 (l[k]?.getD 0)):=by
 obtain⟨b,i,cap,X,all,o,aa,aD,bD,b2⟩:=ea.at h aE
 refine⟨b,i,cap,X,all,o,aa,aD,fun k ah=>?_⟩
 rw[b2 k (by omega),List.getElem?_map,bt ah]
 simp
theorem kf.len{H:ab}{v:Value}{l:List Int}(h:kf H v l):∃a cap,v= .slice a l.length cap:=ea.len h
theorem T4{v:Value}{l:List Int}{H:ab}(dc:kf H v l)(ar:l.length<4611686018427387904):
  aZ prog 73 [v,.func (.func 51) #[] #[]] H (fun w H1=>H1=H/\∃n:Int,w= .int .i64 n/\(0<=n↔∃x∈l,x<0\/1000<x)):=by
 refine aZ.cr fun Q aG=>?_
 apply Vk (by simp)
 obtain⟨a,cap,rfl⟩:=dc.len
 simp[Gn]
 refine kE.mk (ak:=fun n aA H1=>∃i:Nat,n=l.length-i/\i<=l.length/\H=H1/\aA 0= .slice a l.length cap/\aA 1= .func (.func 51) #[] #[]/\aA 7= .int .i64 l.length/\aA 8= .int .i64 i/\∀x∈l.take i,¬(x<0\/1000<x)) l.length ?_ ?_
 ·exact⟨0,by omega,by omega,rfl,by simp,by simp,by simp,by simp,by simp⟩
 ·rintro n aA H1 ⟨i,rfl,ad,rfl,cv,cl,kN,iG,cQ⟩ K a1
  simp[kN,iG]
  refine bG.cE (fun a5=>?_) (fun a5=>?_)
  ·obtain⟨b,U,dn,X,all,he,aS,ag,lu⟩:=dc.at (by omega)
   cases he
   simp[cv,cl,iG]
   refine df.mk (by omega) ?_
   simp[cv,cl,iG,aS,ag,lu _ a5]
   refine a4.mk aaA ?_
   rintro v H1 ⟨rfl,rfl⟩
   simp
   have gh:l[i]?.getD 0∈l:=by rw[bt a5];exact List.getElem_mem a5
   refine bG.mk (fun hw=>?_) (fun hw=>?_)
   ·simp[bj]
    refine aG _ _ ⟨rfl,i,rfl,?_⟩
    simp at hw
    exact⟨fun _=>⟨_,gh,by omega⟩,fun _=>by omega⟩
   ·simp(disch:=omega)[iG,cP]
    refine a1 (l.length-(i+1)) _ _ (by omega) ⟨i+1,by omega,by omega,rfl,by simp[cv],by simp[cl],by simp[kN],by simp,?_⟩
    intro x I
    rw[List.take_succ_eq_append_getElem a5]at I
    rcases List.mem_append.1 I with I | I
    ·exact cQ x I
    ·simp at I
     simp at hw
     rw[bt a5]at hw
     subst I
     simpa using hw
  ·simp[bj]
   have:i=l.length:=by omega
   subst this
   rw[List.take_length]at cQ
   exact aG _ _ ⟨rfl,-1,rfl,by simp;intro x I;have:=cQ x I;omega⟩
theorem On{v:Value}{l:List Int}{H:ab}(dc:kf H v l)(ar:l.length<4611686018427387904):
  aZ prog 50 [v,.func (.func 51) #[] #[]] H (fun w H1=>H1=H/\w= .bool (decide (∃x∈l,x<0\/1000<x))):=by
 refine aZ.cr fun Q aG=>?_
 apply Vh (by simp)
 simp[Gl]
 refine a4.mk (T4 dc ar) ?_
 rintro v H1 ⟨rfl,n,rfl,aE⟩
 simp[bj]
 exact aG _ _ ⟨rfl,by simp[aE]⟩
def jI(H:ab)(v:Value)(t:List (List Int)):Prop:=∃aB:List Value,ea H 25 1 v t.length aB/\aB.length=t.length/\∀i,i<t.length->kf H (aB[i]?.getD undef) (t[i]?.getD [])
theorem jI.ext{H H1:ab}{v:Value}{t:List (List Int)}(h:jI H v t)(I:Ext H H1):jI H1 v t:=by
 obtain⟨aB,o,aa,aD⟩:=h
 exact⟨aB,o.ext I,aa,fun i ad=>(aD i ad).ext I⟩
theorem jI.len{H:ab}{v:Value}{t:List (List Int)}(h:jI H v t):∃a cap,v= .slice a t.length cap:=by
 obtain⟨aB,o,-⟩:=h
 exact o.len
theorem jI.at{H:ab}{v:Value}{t:List (List Int)}(h:jI H v t)(aE:0<t.length):∃b i cap X all,v= .slice (some ⟨b,i,none⟩) t.length cap/\H[b]?=some X/\X.cells?=some all/\∀k,k<t.length->∃a c,all[i+k]?=some (.slice a (t[k]?.getD []).length c)/\kf H (.slice a (t[k]?.getD []).length c) (t[k]?.getD []):=by
 obtain⟨aB,o,aa,aD⟩:=h
 obtain⟨b,i,cap,X,all,bq,bh,e1,kg,rG⟩:=o.at aE
 refine⟨b,i,cap,X,all,bq,bh,e1,fun k ah=>?_⟩
 have jY:=aD k ah
 obtain⟨a,c,ao⟩:=jY.len
 refine⟨a,c,?_,ao▸jY⟩
 rw[rG k (by omega),<-ao,bt (by omega)]
 simp
def lb(n:Nat)(r:List Int):Bool:=decide (r.length≠n) || decide (∃x∈r,x<0\/1000<x)
theorem Xe{v w:Value}{r:List Int}{t:List (List Int)}{H:ab}{cZ:Nat}(bl:kf H w r)(ba:jI H v t)(bu:0<t.length)(tM:H[cZ]?=some (.own 22 false [v]))(ar:r.length<4611686018427387904):
  aZ prog 49 [w,.pointer (some ⟨cZ,0,none⟩)] H (fun u H1=>H1=H/\u= .bool (lb (t[0]?.getD []).length r)):=by
 refine aZ.cr fun Q aG=>?_
 apply Vd (by simp)
 obtain⟨a,cap,rfl⟩:=bl.len
 obtain⟨b,i,dn,X,all,rfl,aS,ag,lu⟩:=ba.at bu
 obtain⟨yi,vu,aH,-⟩:=lu 0 bu
 simp[Gi,tM,-getElem?_pos]
 refine df.mk (by omega) ?_
 simp only[Nat.add_zero]at aH
 simp[tM,aS,ag,aH,-getElem?_pos]
 refine bG.cE (fun h=>?_) (fun h=>?_)
 ·simp[h]
  refine a4.mk (On bl ar) ?_
  rintro u H1 ⟨rfl,rfl⟩
  simp[bj]
  refine aG _ _ ⟨rfl,?_⟩
  simp[lb]
  intro cG
  exact absurd (by omega) cG
 ·simp[h,bj]
  refine aG _ _ ⟨rfl,?_⟩
  simp[lb]
  exact .inl (by omega)
theorem T3{v:Value}{t:List (List Int)}{H:ab}{cZ:Nat}(ba:jI H v t)(bu:0<t.length)(tM:H[cZ]?=some (.own 22 false [v]))(ar:t.length<4611686018427387904)(aj:∀r∈t,r.length<4611686018427387904):
  aZ prog 72 [v,.func (.func 49) #[] #[.pointer (some ⟨cZ,0,none⟩)]] H (fun w H1=>H1=H/\∃n:Int,w= .int .i64 n/\(0<=n↔∃r∈t,lb (t[0]?.getD []).length r=true)):=by
 refine aZ.cr fun Q aG=>?_
 apply Vj (by simp)
 obtain⟨b,U,cap,X,all,rfl,aS,ag,lu⟩:=ba.at bu
 simp[Gm]
 refine kE.mk (ak:=fun n aA H1=>∃i:Nat,n=t.length-i/\i<=t.length/\H=H1/\aA 0= .slice (some ⟨b,U,none⟩) t.length cap/\aA 1= .func (.func 49) #[] #[.pointer (some ⟨cZ,0,none⟩)]/\aA 7= .int .i64 t.length/\aA 8= .int .i64 i/\∀r∈t.take i,¬(lb (t[0]?.getD []).length r=true)) t.length ?_ ?_
 ·exact⟨0,by omega,by omega,rfl,by simp,by simp,by simp,by simp,by simp⟩
 ·rintro n aA H1 ⟨i,rfl,ad,rfl,cv,cl,kN,iG,cQ⟩ K a1
  simp[kN,iG]
  refine bG.cE (fun a5=>?_) (fun a5=>?_)
  ·obtain⟨b4,cJ,o,dc⟩:=lu i a5
   simp[cv,cl,iG]
   refine df.mk (by omega) ?_
   simp[cv,cl,iG,aS,ag,o,-getElem?_pos]
   have gh:t[i]?.getD []∈t:=by rw[bt a5];exact List.getElem_mem a5
   refine a4.mk (Xe dc ba bu tM (aj _ gh)) ?_
   rintro v H1 ⟨rfl,rfl⟩
   simp
   refine bG.mk (fun hw=>?_) (fun hw=>?_)
   ·simp[bj]
    exact aG _ _ ⟨rfl,i,rfl,fun _=>⟨_,gh,hw⟩,fun _=>by omega⟩
   ·simp(disch:=omega)[iG,cP]
    refine a1 (t.length-(i+1)) _ _ (by omega) ⟨i+1,by omega,by omega,rfl,by simp[cv],by simp[cl],by simp[kN],by simp,?_⟩
    intro x I
    rw[List.take_succ_eq_append_getElem a5]at I
    rcases List.mem_append.1 I with I | I
    ·exact cQ x I
    ·simp at I
     rw[bt a5]at hw
     subst I
     simpa using hw
  ·simp[bj]
   have:i=t.length:=by omega
   subst this
   rw[List.take_length]at cQ
   refine aG _ _ ⟨rfl,-1,rfl,?_⟩
   constructor
   ·intro h;omega
   ·rintro⟨r,o,aa⟩
    exact absurd aa (cQ r o)
theorem Om{v:Value}{t:List (List Int)}{H:ab}{cZ:Nat}(ba:jI H v t)(bu:0<t.length)(tM:H[cZ]?=some (.own 22 false [v]))(ar:t.length<4611686018427387904)(aj:∀r∈t,r.length<4611686018427387904):
  aZ prog 48 [v,.func (.func 49) #[] #[.pointer (some ⟨cZ,0,none⟩)]] H (fun w H1=>H1=H/\w= .bool (decide (∃r∈t,lb (t[0]?.getD []).length r=true))):=by
 refine aZ.cr fun Q aG=>?_
 apply Vg (by simp)
 simp[Gk]
 refine a4.mk (T3 ba bu tM ar aj) ?_
 rintro v H1 ⟨rfl,n,rfl,aE⟩
 simp[bj]
 refine aG _ _ ⟨rfl,?_⟩
 congr 1
 exact decide_eq_decide.2 aE
def fT(t:List (List Int)):Prop:=1<=t.length/\t.length<=8/\1<=(t[0]?.getD []).length/\(t[0]?.getD []).length<=8/\∀r∈t,lb (t[0]?.getD []).length r=false
instance(t:List (List Int)):Decidable (fT t):=by unfold fT;infer_instance
theorem A4{v:Value}{t:List (List Int)}{H:ab}(ba:jI H v t)(ar:t.length<4611686018427387904)(aj:∀r∈t,r.length<4611686018427387904):
  aZ prog 28 [v] H (fun w H1=>Ext H H1/\w= .bool (decide (fT t))):=by
 refine aZ.cr fun Q aG=>?_
 apply Vc (by simp)
 obtain⟨a,cap,rfl⟩:=ba.len
 have I:Ext H (H++[.own 22 false [.slice a t.length cap]]):=Ext.more H (by simp)
 have no:¬fT t->Q (.bool false) (H++[.own 22 false [.slice a t.length cap]]):=fun h=>aG _ _ ⟨I,by simp[h]⟩
 simp[Gh]
 refine bG.cE (fun o=>?_) (fun o=>?_)
 ·simp[o,bj]
  exact no fun h=>by have:=h.1;omega
 ·obtain⟨b,i,dn,X,all,he,aS,ag,lu⟩:=ba.at (by omega)
  cases he
  obtain⟨yi,vu,aH,-⟩:=lu 0 (by omega)
  simp only[Nat.add_zero]at aH
  simp[o]
  refine bG.cE (fun aa=>?_) (fun aa=>?_)
  ·simp[o,aa,bj]
   exact no fun h=>by have:=h.2.1;omega
  ·simp[o,aa]
   refine df.mk (by omega) ?_
   simp[o,aa,mR aS,ag,aH,-getElem?_pos]
   refine bG.cE (fun aD=>?_) (fun aD=>?_)
   ·simp[aD,bj]
    exact no fun h=>by have:=h.2.2.1;omega
   ·simp[aD]
    refine df.mk (by omega) ?_
    simp[aD,mR aS,ag,aH,-getElem?_pos]
    refine bG.cE (fun bD=>?_) (fun bD=>?_)
    ·simp[bD,bj]
     exact no fun h=>by have:=h.2.2.2.1;omega
    ·simp[bD]
     refine a4.mk (Om (cZ:=H.length) (ba.ext I) (by omega) (by simp) ar aj) ?_
     rintro u H1 ⟨rfl,rfl⟩
     simp[bj]
     refine aG _ _ ⟨I,?_⟩
     have:fT t↔¬(∃r∈t,lb (t[0]?.getD []).length r=true):=by
      constructor
      ·rintro⟨-,-,-,-,h⟩ ⟨r,aT,aQ⟩
       rw[h r aT]at aQ
       cases aQ
      ·intro h
       refine⟨by omega,by omega,by omega,by omega,fun r q=>?_⟩
       cases af:lb (t[0]?.getD []).length r with
       | false=>rfl
       | true=>exact absurd ⟨r,q,af⟩ h
     have e:decide (fT t)= !decide (∃r∈t,lb (t[0]?.getD []).length r=true):=by
      rw[<-decide_not]
      exact decide_eq_decide.2 this
     rw[e]
end Go.b_
end
section
set_option maxRecDepth 8000
namespace Go.b_
theorem c5.kept{H aC:ab}{e:Nat}{s v:Value}{z:Int}(h:c5 H v z)(ah:Kept H aC s e)(cG:95≠e):c5 aC v z:=by
 obtain⟨a,c,l,o,aa,aD⟩:=h
 exact⟨a,c,l,o,⟨aa.1.kept ah cG,aa.2⟩,aD⟩
theorem e7.kept{H aC:ab}{e:Nat}{s v:Value}{n d:Int}(h:e7 H v n d)(ah:Kept H aC s e)(cG:95≠e):e7 aC v n d:=by
 obtain⟨g8,kX,gC,h2,o,aa,aD⟩:=h
 exact⟨g8,kX,gC,h2,o,aa.kept ah cG,aD.kept ah cG⟩
end Go.b_
end
section
set_option maxRecDepth 8000
namespace Go.b_
open Go.Proofs
open Go.Proofs.Try (prog)
end Go.b_
end
section
set_option maxRecDepth 8000
namespace Go.b_
open Go.Proofs
open Go.Proofs.Try (prog)
attribute [-simp] fL gO
def fO(H:ab)(v:Value)(n:Nat):Prop:=v= .int .u32 (n:Int)/\n<4294967296
instance:bJ fO:=⟨fun h _=>h⟩
theorem cO.row{H:ab}{e:Nat}{v:Value}{l:List Nat}(h:cO H e v l):Row e 1 false fO H v l:=⟨_,h.1,fun i x ad=>⟨by simp[dZ,List.getElem?_map,ad],h.2 x (List.mem_of_getElem? ad)⟩⟩
theorem M8{cs:List Value}{l:List Nat}(ar:cs.length=l.length*1)(h:∀H i x,l[i]?=some x->fO H (dZ false 1 cs i) x):cs=l.map fun(n:Nat)=>Value.int .u32 (n:Int):=by
 apply List.ext_getElem?
 intro i
 rw[List.getElem?_map]
 by_cases ad:i<l.length
 ·have:=(h [] i _ (bt ad)).1
  simp only[dZ,Bool.false_eq_true,if_false]at this
  rw[bt ad]
  rw[bt (by omega)]at this⊢
  simpa using this
 ·rw[List.getElem?_eq_none (by omega),List.getElem?_eq_none (by omega)];rfl
theorem Row.us{H:ab}{e:Nat}{v:Value}{l:List Nat}(h:Row e 1 false fO H v l):cO H e v l:=by
 obtain⟨cs,o,aa⟩:=h
 obtain⟨a,cap,ao,aD,bD,b2⟩:=o
 have:=M8 bD (fun _ i x ad=>aa i x ad)
 subst this
 exact⟨⟨a,cap,ao,aD,bD,b2⟩,fun x I=>by obtain⟨i,ad⟩:=List.getElem?_of_mem I;exact(aa i x ad).2⟩
theorem Ft:Whole prog 95 (.int .u32 0):=⟨by kernel_rfl,by kernel_rfl,by rw[if_neg (by decide)];exact⟨by kernel_rfl,rfl⟩⟩
theorem x1(n:Int):Whole prog 95 (.int .u32 n):=⟨by kernel_rfl,rfl,by rw[if_neg (by simp[eB])];exact⟨by kernel_rfl,rfl⟩⟩
def Em(a b:Int):Int:=IntKind.u32.wrap ((BitVec.ofInt 32 a ||| BitVec.ofInt 32 b).toNat:Int)
@[simp high] theorem ae4(P:Program)(t:Nat)(a b:Int):dO P .or t (.int .u32 a) (.int .u32 b)=some (.int .u32 (Em a b)):=Mj
theorem Nc{v:Value}{x:List Nat}{n:Nat}{H:ab}(aS:cO H 95 v x)(ar:x.length<1048576)(aE:n<32):
  aZ prog 88 [v,.int .i64 n] H (fun av H1=>Ext H H1/\∃out,bz H.length 95 1 false fO H1 av out/\out.length=x.length+1/\val out=val x*2^n):=by
 refine aZ.cr fun Q aG=>?_
 apply UO (by simp)
 simp[GN]
 refine cN (by simpa using aS.row) (by simp) ?_
 simp(disch:=omega)[cP]
 refine q_ (e:=95) (R:=1) (bs:=4) (n:=x.length+1) (ay:=false) (z:= .int .u32 0) (ae:=fO) (a:=0) (eg:= .i64) (cB:= .i64) (by simp) (by simp) (by simp) (by simp) (by rfl) (by simp) Ft (by simp) (by simp) (by omega) (by omega) (by omega) (fun aC=>⟨rfl,by decide⟩) ?_
 rintro U H1 cV bH-
 simp
 refine cN (by simpa using(aS.ext bH).row) (by simp) ?_
 simp
 refine dx.range (by kernel_rfl) x.length (by omega) (by simp) (by rfl) (by simp) (by decide) (by decide) (fun i bV dz a0=>Ext H a0/\∃out:List Nat,bz H.length 95 1 false fO a0 U out/\out.length=x.length+1/\val (out.take (i+1))=val (x.take i)*2^n/\out[i]?.getD 0<2^n/\∀j,i<j->out[j]?.getD 0=0) ?_ ?_ ?_
 ·exact⟨bH,List.replicate (x.length+1) 0,cV,by simp,by simp[List.take_replicate,Fk,val],by simp[Nat.pow_pos],fun j aI=>by rw[List.getElem?_replicate];split<;>rfl⟩
 ·rintro i bV dz a0 ad a2 ⟨bx,out,hF,e3,g4,a5,aP⟩ K a1
  simp at a2
  simp[a2]
  refine cI (ae:=fO) (n:=i) (by simpa using(aS.ext bx).row) (by simp[a2]) (bt ad) (by simp) (by simp) (by simp) (.inr rfl) ?_
  rintro p u ⟨rfl,hu⟩
  obtain⟨y,aL⟩:∃y,x[i]=y:=⟨_,rfl⟩
  rw[aL]at hu
  have w9:x[i]?.getD 0=y:=by rw[bt ad,aL];rfl
  have adF:2^n<=2^31:=Nat.pow_le_pow_right (by decide) (by omega)
  obtain⟨t,bu⟩:∃t,y*2^n=t:=⟨_,rfl⟩
  have mH:t<4294967296*2^n:=by rw[<-bu];exact Nat.mul_lt_mul_of_pos_right hu (Nat.pow_pos (by decide))
  have Dy:(y:Int)*2^n=(t:Int):=by rw[<-bu];push_cast;rfl
  have iq:IntKind.u64.wrap ((y:Int)*2^n)=(t:Int):=by rw[Dy,fR (by omega) (by omega)]
  have qO:IntKind.u64.wrap (y:Int)=(y:Int):=fR (by omega) (by omega)
  have Dg:min n 64=n:=by omega
  have j1:¬((n:Int)<0):=by omega
  simp[aL,qO,Dg,j1,iq,a2]
  refine cI (ae:=fO) (n:=i) (by simpa using hF.row) (by simp) (bt (show i<out.length by omega)) (by simp) (by simp) (by simp) (.inr rfl) ?_
  rintro hI k2 ⟨rfl,nF⟩
  have cR:out[i]?.getD 0=out[i]:=by rw[bt (by omega)];rfl
  rw[cR]at a5
  generalize out[i]'(by omega)=h at*
  obtain⟨fg,Tk⟩:∃fg,t % 4294967296=fg:=⟨_,rfl⟩
  obtain⟨l8,aer⟩:∃l8,t/4294967296=l8:=⟨_,rfl⟩
  obtain⟨s,an⟩:∃s,h+fg=s:=⟨_,rfl⟩
  have Tj:IntKind.u32.wrap (t:Int)=(fg:Int):=by rw[nS];omega
  have hmul:fg=2^n*(fg/2^n):=by
   have o:2^n∣fg:=by
    have:(4294967296:Nat)=2^n*2^(32-n):=by rw[<-Nat.pow_add];rw[show n+(32-n)=32 by omega]
    rw[<-Tk,<-bu,this,Nat.mul_comm y,Nat.mul_mod_mul_left]
    exact Nat.dvd_mul_right _ _
   exact(Nat.mul_div_cancel' o).symm
  have ud:s<4294967296:=by
   have this:(4294967296:Nat)=2^n*2^(32-n):=by rw[<-Nat.pow_add];rw[show n+(32-n)=32 by omega]
   have au:fg/2^n<2^(32-n):=by
    refine(Nat.div_lt_iff_lt_mul (Nat.pow_pos (by decide))).2 ?_
    rw[Nat.mul_comm (2^(32-n)),<-this]
    omega
   have sa:2^n*(fg/2^n+1)<=2^n*2^(32-n):=Nat.mul_le_mul_left _ au
   rw[Nat.mul_add,Nat.mul_one,<-hmul,<-this]at sa
   omega
  have zy:Em (h:Int) (fg:Int)=(s:Int):=by
   unfold Em
   rw[BitVec.ofInt_natCast,BitVec.ofInt_natCast,BitVec.toNat_or,BitVec.toNat_ofNat,BitVec.toNat_ofNat,Nat.mod_eq_of_lt (show h<2^32 by omega),Nat.mod_eq_of_lt (by omega)]
   have aa:=Nat.two_pow_add_eq_or_of_lt (i:=n) (b:=h) a5 (fg/2^n)
   rw[<-hmul]at aa
   rw[Nat.or_comm,<-aa,lD (by omega) (by omega)]
   omega
  simp[Tj,zy]
  refine iR (ae:=fO) (n:=i) (a:=s) (by simpa using hF) (by simp) (by omega) ⟨by simp,ud⟩ (by simpa using x1 _) (by simp) (fun _ _ _ _ _ h=>h) (by simp) (by simp) (by simp) (by decide) ?_
  rintro fQ bZ kk bL- - -
  simp at kk
  have w6:=bL H (Nat.le_refl _) bx
  have iJ:IntKind.i64.wrap ((i:Int)+1)=((i+1:Nat):Int):=by rw[cP (by omega) (by omega)];simp
  have wU:IntKind.u32.wrap ((t:Int).fdiv 4294967296)=(l8:Int):=by
   rw[mq _ (by decide),lD (by omega) (by omega)]
   omega
  simp[a2,iJ,wU]
  have Ke:l8<2^n:=by omega
  refine iR (ae:=fO) (n:=i+1) (a:=l8) (by simpa using kk) (by simp) (by simp;omega) ⟨by simp,by omega⟩ (by simpa using x1 _) (by simp) (fun _ _ _ _ _ h=>h) (by simp) (by simp) (by simp) (by decide) ?_
  rintro gL bP hZ b0- - -
  simp at hZ
  simp
  refine a1 _ _ _ (by simp[a2]) ⟨b0 H (Nat.le_refl _) w6,_,by simpa using hZ,by simp[e3],?_,?_,?_⟩
  ·rw[List.take_succ_eq_append_getElem (by simp;omega),List.take_set_of_le (by omega),List.getElem_set_self,m0,rf _ _ _ (by omega)]
   rw[iA,cR]at g4
   rw[iA,w9]
   simp[val,Nat.min_eq_left (show i+1<=out.length by omega)]
   rw[Nat.add_mul,<-g4,Nat.mul_assoc,bu,Nat.pow_succ,<-an]
   have:t=fg+4294967296*l8:=by omega
   rw[this]
   grind
  ·rw[List.getElem?_set_self (by simp;omega)];exact Ke
  ·intro j aI
   rw[List.getElem?_set_ne (by omega),List.getElem?_set_ne (by omega)]
   exact aP j (by omega)
 ·rintro bV dz a0 a2 ⟨bx,out,hF,e3,g4,-,-⟩
  simp[bj]
  refine aG _ _ ⟨bx,out,hF,e3,?_⟩
  rw[List.take_of_length_le (by omega),List.take_length]at g4
  exact g4
theorem Nd{N:Nat}:∀(l:List Nat) (m:Nat),(∀i,i<l.length->l[i]?.getD 0=N/4294967296^(m+i) % 4294967296)->N/4294967296^m<4294967296^l.length->val l=N/4294967296^m
 | [],m,h,cm=>by simp only[List.length_nil,Nat.pow_zero,Nat.lt_one_iff]at cm;rw[cm];rfl
 | x::l,m,h,cm=>by
  have aH:=h 0 (by simp)
  simp at aH
  have aJ:N/4294967296^(m+1)=N/4294967296^m/4294967296:=by rw[Nat.pow_succ,Nat.div_div_eq_div_mul]
  have aW:=Nd l (m+1) (fun i ad=>by have:=h (i+1) (by simpa using ad);simp at this;rw[this,Nat.add_assoc,Nat.add_comm 1 i]) (by
   rw[aJ]
   simp only[List.length_cons,Nat.pow_succ]at cm
   exact(Nat.div_lt_iff_lt_mul (by decide)).2 cm)
  simp only[val]
  rw[aW,aJ]
  omega
theorem Ng(x:List Nat)(I:∀y∈x,y<4294967296):∀i,val x/4294967296^i=val (x.drop i)
 | 0=>by simp
 | i+1=>by
  rw[Nat.pow_succ,<-Nat.div_div_eq_div_mul,Ng x I i]
  by_cases ad:i<x.length
  ·rw[sQ _ _ ad]
   have:x[i]?.getD 0<4294967296:=by rw[bt ad];exact I _ (List.getElem_mem ad)
   omega
  ·rw[List.drop_eq_nil_of_le (by omega),List.drop_eq_nil_of_le (by omega)]
   simp[val]
theorem XG(x:List Nat)(I:∀y∈x,y<4294967296)(i n:Nat)(aE:n<32):val x/2^n/4294967296^i % 4294967296=(x[i]?.getD 0+4294967296*(x[i+1]?.getD 0))/2^n % 4294967296:=by
 rw[Nat.div_div_eq_div_mul,Nat.mul_comm,<-Nat.div_div_eq_div_mul,Ng x I i]
 have e:(4294967296:Nat)=2^n*2^(32-n):=by rw[<-Nat.pow_add];rw[show n+(32-n)=32 by omega]
 have ao:val (x.drop i)=x[i]?.getD 0+4294967296*(x[i+1]?.getD 0)+2^n*(4294967296*(2^(32-n)*val (x.drop (i+2)))):=by
  have aa:val (x.drop i)=x[i]?.getD 0+4294967296*(x[i+1]?.getD 0+4294967296*val (x.drop (i+2))):=by
   by_cases ad:i<x.length
   ·rw[sQ _ _ ad]
    by_cases hQ:i+1<x.length
    ·rw[sQ _ _ hQ]
    ·rw[List.drop_eq_nil_of_le (show x.length<=i+1 by omega),List.drop_eq_nil_of_le (by omega),List.getElem?_eq_none (l:=x) (i:=i+1) (by omega)];simp[val]
   ·rw[List.drop_eq_nil_of_le (by omega),List.drop_eq_nil_of_le (by omega),List.getElem?_eq_none (by omega),List.getElem?_eq_none (by omega)];simp[val]
  rw[aa,Nat.mul_left_comm (2^n),<-Nat.mul_assoc (2^n),<-e]
  omega
 rw[ao,Nat.add_mul_div_left _ _ (Nat.pow_pos (by decide)),Nat.add_mul_mod_self_left]
theorem O_{v:Value}{x:List Nat}{n:Nat}{H:ab}(aS:cO H 95 v x)(ar:x.length<1048576)(aE:n<32):
  aZ prog 90 [v,.int .i64 n] H (fun av H1=>Ext H H1/\∃l,cO H1 95 av l/\Trim l/\val l=val x/2^n):=by
 refine aZ.cr fun Q aG=>?_
 apply UF (by simp)
 simp[GJ]
 refine cN (by simpa using aS.row) (by simp) ?_
 refine q_ (e:=95) (R:=1) (bs:=4) (n:=x.length) (ay:=false) (z:= .int .u32 0) (ae:=fO) (a:=0) (eg:= .i64) (cB:= .i64) (by simp) (by simp) (by simp) (by simp) (by rfl) (by simp) Ft (by simp) (by simp) (by omega) (by omega) (by omega) (fun aC=>⟨rfl,by decide⟩) ?_
 rintro U H1 cV bH-
 simp
 refine cN (by simpa using(aS.ext bH).row) (by simp) ?_
 simp
 refine dx.range (by kernel_rfl) x.length (by omega) (by simp) (by rfl) (by simp) (by decide) (by decide) (fun i bV dz a0=>Ext H a0/\∃out:List Nat,bz H.length 95 1 false fO a0 U out/\out.length=x.length/\∀j,j<i->out[j]?.getD 0=val x/2^n/4294967296^j % 4294967296) ?_ ?_ ?_
 ·exact⟨bH,List.replicate x.length 0,cV,by simp,fun j aI=>by omega⟩
 ·rintro i bV dz a0 ad a2 ⟨bx,out,hF,e3,g4⟩ K a1
  simp at a2
  simp[a2]
  refine cI (ae:=fO) (n:=i) (by simpa using(aS.ext bx).row) (by simp[a2]) (bt ad) (by simp) (by simp) (by simp) (.inr rfl) ?_
  rintro p u ⟨rfl,hu⟩
  obtain⟨y,aL⟩:∃y,x[i]=y:=⟨_,rfl⟩
  rw[aL]at hu
  have w9:x[i]?.getD 0=y:=by rw[bt ad,aL];rfl
  have qO:IntKind.u64.wrap (y:Int)=(y:Int):=fR (by omega) (by omega)
  have iJ:IntKind.i64.wrap ((i:Int)+1)=((i+1:Nat):Int):=by rw[cP (by omega) (by omega)];simp
  simp[aL,qO,iJ]
  obtain⟨z,aP⟩:∃z,x[i+1]?.getD 0=z:=⟨_,rfl⟩
  have pB:z<4294967296:=aP▸aS.lt _
  refine bU.join (by kernel_rfl) (fun dQ fr bZ=>bZ=a0/\∃t:Nat,dQ 7= .int .u64 t/\t=y+4294967296*z) ?_ ?_
  ·rintro dW hb-
   simp[iJ]
   refine cN (by simpa using(aS.ext bx).row) (by simp) ?_
   simp
   refine bG.cE (fun a5=>?_) (fun a5=>?_)
   ·simp[iJ]
    have hQ:i+1<x.length:=by omega
    refine cI (ae:=fO) (n:=i+1) (by simpa using(aS.ext bx).row) (by simp) (bt hQ) (by simp) (by simp) (by simp) (.inr rfl) ?_
    rintro p u ⟨rfl,jy⟩
    have sx:x[i+1]=z:=by rw[bt hQ]at aP;exact aP
    have TW:IntKind.u64.wrap (z:Int)=(z:Int):=fR (by omega) (by omega)
    obtain⟨s,an⟩:∃s,z*4294967296=s:=⟨_,rfl⟩
    have cY:IntKind.u64.wrap ((z:Int)*4294967296)=(s:Int):=by rw[fR (by omega) (by omega)];omega
    have aI:=uD (r:=z) pB hu
    rw[an]at aI
    have lv:pJ (y:Int) (s:Int)=((s+y:Nat):Int):=by
     rw[<-aI];unfold pJ;congr 2;rw[BitVec.or_comm]
    obtain⟨t,bu⟩:∃t,s+y=t:=⟨_,rfl⟩
    rw[bu]at lv
    simp[sx,TW,cY,lv]
    exact hb _ _ _ ⟨rfl,t,by simp,by omega⟩
   ·have w_:z=0:=by rw[<-aP,List.getElem?_eq_none (by omega)];rfl
    exact hb _ _ _ ⟨rfl,y,by simp,by omega⟩
  ·rintro dQ fr bZ ⟨rfl,t,c8,bu⟩
   simp at c8
   have Db:=XG x aS.2 i n aE
   rw[w9,aP]at Db
   rw[<-bu]at Db
   obtain⟨w,hw⟩:∃w,t/2^n % 4294967296=w:=⟨_,rfl⟩
   have Dg:min n 64=n:=by omega
   have j1:¬((n:Int)<0):=by omega
   have Th:IntKind.u32.wrap ((t:Int).fdiv (2^n))=(w:Int):=by
    rw[mq _ (by exact_mod_cast Nat.zero_le _),nS,<-hw]
    rw[Int.natCast_emod,Int.natCast_ediv,Int.natCast_pow]
    rfl
   simp[c8,Dg,j1,Th]
   refine iR (ae:=fO) (n:=i) (a:=w) (by simpa using hF) (by simp) (by omega) ⟨by simp,by omega⟩ (by simpa using x1 _) (by simp) (fun _ _ _ _ _ h=>h) (by simp) (by simp) (by simp) (by decide) ?_
   rintro fQ bP kk bL- - -
   simp at kk
   simp
   refine a1 _ _ _ (by simp[a2]) ⟨bL H (Nat.le_refl _) bx,_,by simpa using kk,by simp[e3],fun j aI=>?_⟩
   by_cases fc:j=i
   ·subst fc
    rw[List.getElem?_set_self (by omega),Db,hw]
    rfl
   ·rw[List.getElem?_set_ne (Ne.symm fc)]
    exact g4 j (by omega)
 ·rintro bV dz a0 a2 ⟨bx,out,hF,e3,g4⟩
  simp
  have d_:cO a0 95 U out:=hF.row.us
  refine a4.mk (lB d_ (by omega)) ?_
  rintro v bZ ⟨rfl,l,ha,jZ,pg,-⟩
  simp[bj]
  refine aG _ _ ⟨bx,l,ha,jZ,?_⟩
  have:=Nd out 0 (fun j aI=>by rw[g4 j (by omega),Nat.zero_add]) (by
   rw[Nat.pow_zero,Nat.div_one,e3]
   exact Nat.lt_of_le_of_lt (Nat.div_le_self _ _) (jH aS.2))
  rw[pg,this,Nat.pow_zero,Nat.div_one]
end Go.b_
end
section
set_option maxRecDepth 8000
namespace Go.b_
section
variable {E ul fq top gP aB ch:Nat}
theorem PO(jz:ul<E)(wY:fq<4294967296)(pt:0<ch):(ul+E*(fq+4294967296*top))/(gP+E*(aB+4294967296*ch))<=top/ch:=by
 have bK:0<E:=by omega
 rw[Nat.le_div_iff_mul_le pt]
 generalize au:(ul+E*(fq+4294967296*top))/(gP+E*(aB+4294967296*ch))=q
 have o:q*(gP+E*(aB+4294967296*ch))<=ul+E*(fq+4294967296*top):=by rw[<-au];exact Nat.div_mul_le_self _ _
 have aa:E*(4294967296*(q*ch))<=q*(gP+E*(aB+4294967296*ch)):=by
  have:q*(gP+E*(aB+4294967296*ch))=q*gP+q*E*aB+E*(4294967296*(q*ch)):=by grind
  omega
 have aD:ul+E*(fq+4294967296*top)<E*(4294967296*(top+1)):=by
  have:E*(fq+1)<=E*4294967296:=Nat.mul_le_mul_left _ wY
  grind
 have bD:E*(4294967296*(q*ch))<E*(4294967296*(top+1)):=by omega
 have b2:=Nat.lt_of_mul_lt_mul_left bD
 omega
theorem PR{g r:Nat}(jz:ul<E)(bu:g*ch+r=top)(h:r*4294967296+fq<g*aB):(ul+E*(fq+4294967296*top))/(gP+E*(aB+4294967296*ch))<g:=by
 have bK:0<E:=by omega
 have aV:0<g:=by
  rcases Nat.eq_zero_or_pos g with q | q
  ·subst q;simp at h
  ·exact q
 have ao:0<aB:=by
  rcases Nat.eq_zero_or_pos aB with q | q
  ·subst q;simp at h
  ·exact q
 have oc:0<gP+E*(aB+4294967296*ch):=by
  have:=Nat.mul_pos bK ao
  have:E*aB<=E*(aB+4294967296*ch):=Nat.mul_le_mul_left _ (by omega)
  omega
 rw[Nat.div_lt_iff_lt_mul oc]
 have o:fq+4294967296*top+1<=g*(aB+4294967296*ch):=by
  rw[<-bu]
  have:g*(aB+4294967296*ch)=g*aB+4294967296*(g*ch):=by grind
  omega
 have aa:E*(fq+4294967296*top+1)<=E*(g*(aB+4294967296*ch)):=Nat.mul_le_mul_left _ o
 have aD:g*(gP+E*(aB+4294967296*ch))=g*gP+E*(g*(aB+4294967296*ch)):=by grind
 have bD:E*(fq+4294967296*top+1)=E*(fq+4294967296*top)+E:=by rw[Nat.mul_add,Nat.mul_one]
 omega
theorem PQ{g r:Nat}(sn:gP<E)(pt:0<ch)(aV:g<4294967296)(bu:g*ch+r=top)(h:g*aB<=r*4294967296+fq):g<=(ul+E*(fq+4294967296*top))/(gP+E*(aB+4294967296*ch))+1:=by
 have bK:0<E:=by omega
 rcases Nat.eq_zero_or_pos g with q | q
 ·rw[q];exact Nat.zero_le _
 have oc:0<gP+E*(aB+4294967296*ch):=by
  have:0<E*(aB+4294967296*ch):=Nat.mul_pos bK (by omega)
  omega
 have aH:g-1<=(ul+E*(fq+4294967296*top))/(gP+E*(aB+4294967296*ch)):=by
  rw[Nat.le_div_iff_mul_le oc]
  have o:g*(aB+4294967296*ch)<=fq+4294967296*top:=by
   rw[<-bu]
   have:g*(aB+4294967296*ch)=g*aB+4294967296*(g*ch):=by grind
   omega
  have aa:E*(g*(aB+4294967296*ch))<=E*(fq+4294967296*top):=Nat.mul_le_mul_left _ o
  have aD:g*(gP+E*(aB+4294967296*ch))=g*gP+E*(g*(aB+4294967296*ch)):=by grind
  have bD:g*gP<=g*E:=Nat.mul_le_mul_left _ (by omega)
  have b2:g*E<=4294967296*E:=Nat.mul_le_mul_right _ (by omega)
  have gE:E*4294967296<=E*(aB+4294967296*ch):=Nat.mul_le_mul_left _ (by omega)
  have c8:(g-1)*(gP+E*(aB+4294967296*ch))+(gP+E*(aB+4294967296*ch))=g*(gP+E*(aB+4294967296*ch)):=by
   rw[<-Nat.succ_mul];congr 1;omega
  rw[Nat.mul_comm E 4294967296]at gE
  omega
 exact Nat.sub_le_iff_le_add.1 aH
theorem PN{g r:Nat}(sn:gP<E)(jA:aB<4294967296)(pt:0<ch)(aV:g<4294967296)(bu:g*ch+r=top)(aj:4294967296<=r):g<=(ul+E*(fq+4294967296*top))/(gP+E*(aB+4294967296*ch)):=by
 have bK:0<E:=by omega
 have oc:0<gP+E*(aB+4294967296*ch):=by
  have:0<E*(aB+4294967296*ch):=Nat.mul_pos bK (by omega)
  omega
 rw[Nat.le_div_iff_mul_le oc]
 have o:gP+E*(aB+4294967296*ch)<=E*(4294967296*(ch+1)):=by
  have:E*(aB+1)<=E*4294967296:=Nat.mul_le_mul_left _ jA
  grind
 have aa:g*(gP+E*(aB+4294967296*ch))<=g*(E*(4294967296*(ch+1))):=Nat.mul_le_mul_left _ o
 have aD:g*(E*(4294967296*(ch+1)))=E*(4294967296*(g*ch+g)):=by grind
 have bD:E*(4294967296*(g*ch+g))<=E*(4294967296*top):=Nat.mul_le_mul_left _ (Nat.mul_le_mul_left _ (by omega))
 have b2:E*(4294967296*top)<=E*(fq+4294967296*top):=Nat.mul_le_mul_left _ (by omega)
 omega
end
theorem aao(l:List Nat)(n:Nat)(ar:l.length=n+1)(aE:2<=n):val l=val (l.take (n-2))+4294967296^(n-2)*(l[n-2]?.getD 0+4294967296*(l[n-1]?.getD 0+4294967296*(l[n]?.getD 0))):=by
 have ib:l.take (n+1)=l:=by rw[<-ar,List.take_length]
 have o:=iA l n
 have aa:=iA l (n-1)
 have aD:=iA l (n-2)
 rw[show n-1+1=n by omega]at aa
 rw[show n-2+1=n-1 by omega]at aD
 rw[ib]at o
 rw[o,aa,aD]
 have dF:(4294967296:Nat)^(n-1)=4294967296^(n-2)*4294967296:=by rw[<-Nat.pow_succ];congr 1;omega
 have hI:(4294967296:Nat)^n=4294967296^(n-2)*4294967296*4294967296:=by rw[<-Nat.pow_succ,<-Nat.pow_succ];congr 1;omega
 rw[dF,hI]
 generalize (4294967296:Nat)^(n-2)=E
 grind
theorem aan(l:List Nat)(n:Nat)(ar:l.length=n)(aE:2<=n):val l=val (l.take (n-2))+4294967296^(n-2)*(l[n-2]?.getD 0+4294967296*(l[n-1]?.getD 0)):=by
 have ib:l.take n=l:=by rw[<-ar,List.take_length]
 have aa:=iA l (n-1)
 have aD:=iA l (n-2)
 rw[show n-1+1=n by omega,ib]at aa
 rw[show n-2+1=n-1 by omega]at aD
 rw[aa,aD]
 have dF:(4294967296:Nat)^(n-1)=4294967296^(n-2)*4294967296:=by rw[<-Nat.pow_succ];congr 1;omega
 rw[dF]
 generalize (4294967296:Nat)^(n-2)=E
 grind
def fx(l:List Nat):List Value:=l.map fun(n:Nat)=>Value.int .u32 (n:Int)
section
variable {P:Program} {r:List br} {F:Fr} {H:ab} {Q:Fr->ab->Prop}
theorem sM{d t d2 e n b U cap:Nat}{l:Bool}{x i:Operand}{pre post:List Value}{us:List Nat}{aw:a_ (bb d t x i::aO d2 e (T d)::r) Q}(aS:H[b]?=some (.own e l (pre++(fx us++post))))(aM:pre.length=U)(I:aq F x= .slice (some ⟨b,U,none⟩) us.length cap)(ad:aq F i= .int .i64 (n:Int))(aE:n<us.length)
  (bu:eR P t=some e)(an:bm P e=some 1)(dM:da P e=some false)(K:∀p,a8 P r Q .mk (aY (aY F d p) d2 (.int .u32 ((us[n]?.getD 0:Nat):Int))) H):a8 P (bb d t x i::aO d2 e (T d)::r) Q aw F H:=by
 rw[fL,I,ad,oW,nc,bu,e0,an,e0,oU]
 refine df.mk ⟨by omega,by omega⟩ ?_
 rw[uX]
 simp only[kL,hL,mj,aS,Option.bind_some,bB.cells?,e0,dM,Int.toNat_natCast,sU]
 have:(pre++(fx us++post))[U+n*1]?=some (.int .u32 ((us[n]?.getD 0:Nat):Int)):=by
  unfold fx
  rw[List.getElem?_append_right (by omega),List.getElem?_append_left (by simp;omega),List.getElem?_map]
  rw[show U+n*1-pre.length=n by omega,bt aE]
  rfl
 rw[this,e0]
 exact K _
theorem Yv{j d t d2 e n b U cap:Nat}{w l:Bool}{x i:Operand}{pre post:List Value}{us:List Nat}{aw:a_ (bb d t x i::aN j w (aO d2 e (T d))::r) Q}(aV:gR (F j)=some w)(lP:j≠d)(aS:H[b]?=some (.own e l (pre++(fx us++post))))(aM:pre.length=U)(I:aq F x= .slice (some ⟨b,U,none⟩) us.length cap)(ad:aq F i= .int .i64 (n:Int))(aE:n<us.length)
  (bu:eR P t=some e)(an:bm P e=some 1)(dM:da P e=some false)(K:∀p,a8 P r Q .mk (aY (aY F d p) d2 (.int .u32 ((us[n]?.getD 0:Nat):Int))) H):a8 P (bb d t x i::aN j w (aO d2 e (T d))::r) Q aw F H:=by
 have aH:a8 P (bb d t x i::aO d2 e (T d)::r) Q .mk F H:=sM aS aM I ad aE bu an dM K
 rw[fL,I,ad,oW,nc,bu,e0,an,e0,oU]at aH⊢
 exact⟨aH.1,uW (by rw[gX _ _ lP];exact aV) aH.2⟩
theorem AV{d t e n b U cap z:Nat}{l:Bool}{x i y:Operand}{pre post:List Value}{us:List Nat}{aw:a_ (bb d t x i::st e (T d) y::r) Q}(aS:H[b]?=some (.own e l (pre++(fx us++post))))(aM:pre.length=U)(I:aq F x= .slice (some ⟨b,U,none⟩) us.length cap)(ad:aq F i= .int .i64 (n:Int))(aE:n<us.length)
  (aL:∀v,aq (aY F d v) y= .int .u32 (z:Int))(bu:eR P t=some e)(an:bm P e=some 1)(K:∀p,a8 P r Q .mk (aY F d p) (H.set b (.own e l (pre++(fx (us.set n z)++post))))):a8 P (bb d t x i::st e (T d) y::r) Q aw F H:=by
 rw[fL,I,ad,oW,nc,bu,e0,an,e0,oU]
 refine df.mk ⟨by omega,by omega⟩ ?_
 rw[MR]
 simp only[kL,hL,mj,aS,FR,Int.toNat_natCast,aL]
 refine df.mk ⟨by rw[an];rfl,by simp[fx];omega,by simp⟩ ?_
 have:lC (pre++(fx us++post)) (U+n*1) (Value.int IntKind.u32 (z:Int)).cells.toList=pre++(fx (us.set n z)++post):=by
  show(pre++(fx us++post)).set (U+n*1) (.int .u32 (z:Int))=_
  unfold fx
  rw[List.set_append_right _ _ (by omega),List.set_append_left _ _ (by simp;omega)]
  rw[show U+n*1-pre.length=n by omega,List.map_set]
 rw[aL,this]
 exact K _
end
end Go.b_
end
section
set_option maxRecDepth 8000
namespace Go.b_
open Go.Proofs
open Go.Proofs.Try (prog)
attribute [-simp] fL gO
theorem Ml{H:ab}{b:Nat}{X:bB}(h:H[b]?=some X):H.set b X=H:=by
 apply List.ext_getElem?
 intro i
 by_cases ad:b=i
 ·subst ad;rw[List.getElem?_set_self (cc.1 h).1,h]
 ·rw[List.getElem?_set_ne ad]
theorem OH{v:Value}{b U cap m:Nat}{l:Bool}{pre post:List Value}{us aB:List Nat}{H:ab}(aS:H[b]?=some (.own 95 l (pre++(fx us++post))))(aM:pre.length=U)(sk:us.length=m+3)(jz:∀x∈us,x<4294967296)
  (oc:∀X,(∀e cs,X≠ .ro e cs)->cO (H.set b X) 95 v aB)(jA:aB.length=m+2)(hm:m<1048576)(pt:aB[m+1]?.getD 0≠0)(a5:val us<4294967296*val aB):
  aZ prog 89 [.slice (some ⟨b,U,none⟩) (m+3) cap,v] H (fun w H1=>(∃q:Nat,w= .int .u32 (q:Int)/\q=val us/val aB)/\∃dv,H1=H.set b (.own 95 l (pre++(fx dv++post)))/\dv.length=m+3/\(∀x∈dv,x<4294967296)/\val dv=val us % val aB):=by
 refine aZ.cr fun Q aG=>?_
 apply UE (by simp)
 have gF:=(cc.1 aS).1
 have ns:=fun dv:List Nat=>oc (.own 95 l (pre++(fx dv++post))) (by simp)
 have tF:Row 95 1 false fO H v aB:=by
  have:=(ns us).row
  rwa[Ml aS]at this
 obtain⟨agz,agC,rfl⟩:=tF.len
 rw[jA]at oc ns tF⊢
 have j2:IntKind.i64.wrap ((m:Int)+2-1)=(m:Int)+1:=by rw[cP (by omega) (by omega)];omega
 have zV:IntKind.i64.wrap (m:Int)=(m:Int):=cP (by omega) (by omega)
 have pn:IntKind.i64.wrap ((m:Int)+2-2)=(m:Int):=by rw[cP (by omega) (by omega)];omega
 obtain⟨k2,nF⟩:∃x,us[m+2]?.getD 0=x:=⟨_,rfl⟩
 obtain⟨pP,nE⟩:∃x,us[m+1]?.getD 0=x:=⟨_,rfl⟩
 obtain⟨fq,wY⟩:∃x,us[m]?.getD 0=x:=⟨_,rfl⟩
 obtain⟨ch,sq⟩:∃x,aB[m+1]?.getD 0=x:=⟨_,rfl⟩
 obtain⟨v0,DG⟩:∃x,aB[m]?.getD 0=x:=⟨_,rfl⟩
 have qn:∀k,us[k]?.getD 0<4294967296:=fun k=>vF (by decide) jz k
 have y0:∀k,aB[k]?.getD 0<4294967296:=fun k=>vF (by decide) (ns us).2 k
 have K7:=nF▸qn (m+2)
 have VV:=nE▸qn (m+1)
 have K6:=wY▸qn m
 have aeH:=sq▸y0 (m+1)
 have z_:=DG▸y0 m
 rw[sq]at pt
 have DK:aB[m+1]?=some ch:=by rw[<-sq,bt (by omega)];rfl
 have Tw:aB[m]?=some v0:=by rw[<-DG,bt (by omega)];rfl
 obtain⟨top,lV⟩:∃x,k2*4294967296+pP=x:=⟨_,rfl⟩
 obtain⟨E,bK⟩:∃E,4294967296^m=E:=⟨_,rfl⟩
 have wb:val us=val (us.take m)+E*(fq+4294967296*top):=by
  have:=aao us (m+2) sk (by omega)
  simp only[Nat.add_sub_cancel,show m+2-1=m+1 by omega,wY,nE,nF,bK]at this
  rw[this,<-lV]
  grind
 have tG:val aB=val (aB.take m)+E*(v0+4294967296*ch):=by
  have:=aan aB (m+2) jA (by omega)
  simpa only[Nat.add_sub_cancel,show m+2-1=m+1 by omega,DG,sq,bK]using this
 have Ki:val (us.take m)<E:=by
  have:=jH (l:=us.take m) fun x I=>jz x (List.mem_of_mem_take I)
  rwa[List.length_take,Nat.min_eq_left (by omega),bK]at this
 have Kn:val (aB.take m)<E:=by
  have:=jH (l:=aB.take m) fun x I=>(ns us).2 x (List.mem_of_mem_take I)
  rwa[List.length_take,Nat.min_eq_left (by omega),bK]at this
 have w2:0<ch:=by omega
 obtain⟨q,au⟩:∃q,val us/val aB=q:=⟨_,rfl⟩
 have tE:0<val aB:=by
  rw[tG]
  have:0<E*(v0+4294967296*ch):=Nat.mul_pos (by omega) (by omega)
  omega
 have zD:q<4294967296:=by rw[<-au,Nat.div_lt_iff_lt_mul tE];exact a5
 have aet:top<4294967296*ch+4294967296:=by
  have o:E*(4294967296*top)<4294967296*(E*(4294967296*(ch+1))):=by
   have b4:E*(4294967296*top)<=val us:=by rw[wb];have:E*(4294967296*top)<=E*(fq+4294967296*top):=Nat.mul_le_mul_left _ (by omega);omega
   have dq:val aB<E*(4294967296*(ch+1)):=by
    rw[tG]
    have:E*(v0+1)<=E*4294967296:=Nat.mul_le_mul_left _ z_
    grind
   omega
  have aa:E*(4294967296*top)<E*(4294967296*(4294967296*(ch+1))):=by
   have:4294967296*(E*(4294967296*(ch+1)))=E*(4294967296*(4294967296*(ch+1))):=by grind
   omega
  have:=Nat.lt_of_mul_lt_mul_left aa
  omega
 have BE:IntKind.u64.wrap (ch:Int)=(ch:Int):=fR (by omega) (by omega)
 have OE:IntKind.u64.wrap (v0:Int)=(v0:Int):=fR (by omega) (by omega)
 have Ou:IntKind.u64.wrap (k2:Int)=(k2:Int):=fR (by omega) (by omega)
 have Ot:IntKind.u64.wrap (pP:Int)=(pP:Int):=fR (by omega) (by omega)
 have Oq:IntKind.u64.wrap (fq:Int)=(fq:Int):=fR (by omega) (by omega)
 obtain⟨s2,qF⟩:∃s,k2*4294967296=s:=⟨_,rfl⟩
 have S8:IntKind.u64.wrap ((k2:Int)*4294967296)=(s2:Int):=by rw[fR (by omega) (by omega)];omega
 have zP:pJ (s2:Int) (pP:Int)=(top:Int):=by
  have:=uD (r:=k2) K7 VV
  rw[qF]at this
  rw[this];omega
 obtain⟨cv,zc⟩:∃g,top/ch=g:=⟨_,rfl⟩
 obtain⟨eb,eP⟩:∃g,top % ch=g:=⟨_,rfl⟩
 have mz:=Nat.div_add_mod top ch
 rw[zc,eP]at mz
 have S0:eb<ch:=by rw[<-eP];exact Nat.mod_lt _ w2
 have zC:q<=cv:=by
  have:=PO (E:=E) (ul:=val (us.take m)) (fq:=fq) (top:=top) (gP:=val (aB.take m)) (aB:=v0) (ch:=ch) Ki K6 w2
  rw[<-wb,<-tG,au,zc]at this
  exact this
 have adY:cv<8589934592:=by
  rw[<-zc,Nat.div_lt_iff_lt_mul w2]
  omega
 have ediv:((top:Int).tdiv ch)=(cv:Int):=by rw[<-zc];rfl
 have emod:((top:Int).tmod ch)=(eb:Int):=by rw[<-eP];rfl
 have aay:IntKind.u64.wrap (cv:Int)=(cv:Int):=fR (by omega) (by omega)
 have aex:¬((ch:Int)=0):=by omega
 simp[GI,gO]
 refine sM (cap:=cap) (n:=m+2) aS aM (by simp[sk]) (by simp) (by omega) (by simp) (by simp) (by simp) fun dF=>?_
 simp[nF,Ou,S8,j2]
 refine sM (cap:=cap) (n:=m+1) aS aM (by simp[sk]) (by simp) (by omega) (by simp) (by simp) (by simp) fun hI=>?_
 simp[nE,Ot,zP,j2]
 refine cI (ae:=fO) (n:=m+1) (by simpa using tF) (by simp) DK (by simp) (by simp) (by simp) (.inr rfl) ?_
 rintro fQ cf ⟨rfl,-⟩
 simp[BE,j2,ediv,aay,pt]
 refine cI (ae:=fO) (n:=m+1) (by simpa using tF) (by simp) DK (by simp) (by simp) (by simp) (.inr rfl) ?_
 rintro gL rh ⟨rfl,-⟩
 simp[BE,emod,pt]
 have RU:∀g r,g*ch+r=top->(4294967296<=g\/r*4294967296+fq<g*v0)->q<g:=fun g r o aa=>by
  rcases aa with aa | aa
  ·omega
  ·have:=PR (E:=E) (ul:=val (us.take m)) (fq:=fq) (top:=top) (gP:=val (aB.take m)) (aB:=v0) (ch:=ch) Ki o aa
   rwa[<-wb,<-tG,au]at this
 have RT:∀g r,g<4294967296->g*ch+r=top->¬r*4294967296+fq<g*v0->g<=q+1:=fun g r aH o aa=>by
  have:=PQ (E:=E) (ul:=val (us.take m)) (fq:=fq) (top:=top) (gP:=val (aB.take m)) (aB:=v0) (ch:=ch) Kn w2 aH o (by omega)
  rwa[<-wb,<-tG,au]at this
 have RR:∀g r,g<4294967296->g*ch+r=top->4294967296<=r->g<=q:=fun g r aH o aa=>by
  have:=PN (E:=E) (ul:=val (us.take m)) (fq:=fq) (top:=top) (gP:=val (aB.take m)) (aB:=v0) (ch:=ch) Kn z_ w2 aH o aa
  rwa[<-wb,<-tG,au]at this
 refine bU.join (by kernel_rfl) (fun dQ fr bZ=>bZ=H/\∃g:Nat,dQ 7= .int .u64 g/\g<4294967296/\q<=g/\g<=q+1) ?_ ?_
 ·rintro dW hb-
  simp only[Z9,aab]
  refine dx.mk (by kernel_rfl) (fun g dQ fr bZ=>bZ=H/\∃r:Nat,dQ 7= .int .u64 g/\dQ 8= .int .u64 r/\g*ch+r=top/\r<4294967296/\q<=g) cv ⟨rfl,eb,by simp,by simp,by rw[Nat.mul_comm];exact mz,by omega,zC⟩ ?_
  rintro g dQ fr bZ ⟨rfl,r,c8,dY,Jy,j5,J4⟩ K a1
  simp at c8 dY
  have adZ:g<8589934592:=by
   have:g*ch<8589934592*ch:=by
    have:4294967296*ch<=4294967296*ch:=Nat.le_refl _
    omega
   exact Nat.lt_of_mul_lt_mul_right this
  simp only[k1]
  refine bU.join (by kernel_rfl) (fun cT dJ bP=>bP=bZ/\∃c:Bool,cT 68= .bool c/\(c=true↔(4294967296<=g\/r*4294967296+fq<g*v0))) ?_ ?_
  ·rintro cU JQ-
   have wU:((g:Int).fdiv 4294967296)=((g/4294967296:Nat):Int):=by rw[mq _ (by decide)];omega
   simp[c8,wU]
   refine bG.cE (fun ag=>?_) (fun ag=>?_)
   ·simp[ag]
    exact JQ _ _ _ ⟨rfl,true,by simp,by simp;omega⟩
   ·simp[ag]
    have tR:g<4294967296:=by omega
    refine mX (ae:=fO) (n:=m) (by simp[ag]) (by decide) (by simpa using tF) (by simp[zV]) Tw (by simp) (by simp) (by simp) (.inr rfl) ?_
    rintro iP A5 ⟨rfl,-⟩
    have hmul:IntKind.u64.wrap ((g:Int)*v0)=((g*v0:Nat):Int):=Eg tR z_
    obtain⟨adE,JA⟩:∃x,g*v0=x:=⟨_,rfl⟩
    obtain⟨rs,sg⟩:∃x,r*4294967296=x:=⟨_,rfl⟩
    have S_:IntKind.u64.wrap ((r:Int)*4294967296)=(rs:Int):=by rw[fR (by omega) (by omega)];omega
    rw[JA]at hmul
    simp[ag,OE,c8,dY,hmul,S_]
    refine Yv (cap:=cap) (n:=m) (by simp[ag]) (by decide) aS aM (by simp[sk]) (by simp[zV]) (by omega) (by simp) (by simp) (by simp) fun nN=>?_
    have aI:=uD (r:=r) j5 K6
    rw[sg]at aI
    obtain⟨aeT,J8⟩:∃x,rs+fq=x:=⟨_,rfl⟩
    rw[J8]at aI
    simp[ag,wY,Oq,aI]
    refine JQ _ _ _ ⟨rfl,_,by simp;rfl,?_⟩
    simp[JA,sg,J8]
    omega
  ·rintro cT dJ bP ⟨rfl,c,IF,fH⟩
   simp at IF
   simp[IF]
   refine bG.mk (fun ag=>?_) (fun ag=>?_)
   ·have aep:=RU g r Jy (fH.1 ag)
    have og:IntKind.u64.wrap ((g:Int)-1)=((g-1:Nat):Int):=by rw[fR (by omega) (by omega)];omega
    obtain⟨ki,C1⟩:∃x,g-1=x:=⟨_,rfl⟩
    rw[C1]at og
    simp[c8,og,dY,j2]
    refine cI (ae:=fO) (n:=m+1) (by simpa using tF) (by simp) DK (by simp) (by simp) (by simp) (.inr rfl) ?_
    rintro iP A5 ⟨rfl,-⟩
    obtain⟨di,fo⟩:∃x,r+ch=x:=⟨_,rfl⟩
    have rT:IntKind.u64.wrap ((r:Int)+ch)=(di:Int):=by rw[fR (by omega) (by omega)];omega
    have wU:((di:Int).fdiv 4294967296)=((di/4294967296:Nat):Int):=by rw[mq _ (by decide)];omega
    have Jz:ki*ch+di=top:=by
     have:g*ch=ki*ch+ch:=by rw[show g=ki+1 by omega,Nat.succ_mul]
     omega
    simp[BE,rT,wU]
    refine bG.cE (fun aJ=>?_) (fun aJ=>?_)
    ·have RN:4294967296<=di:=by omega
     have Jr:ki<4294967296:=by
      have:ki*ch<4294967296*ch:=by omega
      exact Nat.lt_of_mul_lt_mul_right this
     exact hb _ _ _ ⟨rfl,ki,by simp,Jr,by omega,Nat.le_succ_of_le (RR ki di Jr Jz RN)⟩
    ·exact a1 ki _ _ _ (by omega) ⟨rfl,di,by simp,by simp,Jz,by omega,by omega⟩
   ·have adT:¬(4294967296<=g\/r*4294967296+fq<g*v0):=fun h=>by rw[fH.2 h]at ag;cases ag
    have tR:g<4294967296:=by omega
    exact hb _ _ _ ⟨rfl,g,by simp[c8],tR,J4,RT g r tR Jy (by omega)⟩
 ·rintro dQ fr bZ ⟨rfl,g,c8,tR,J4,ad0⟩
  simp at c8
  simp[gO]
  refine dx.range (by kernel_rfl) (m+2) (by omega) (by simp) (by rfl) (by simp) (by decide) (by decide) (fun i cT dJ bP=>∃(dv:List Nat) (c d:Nat),bP=bZ.set b (.own 95 l (pre++(fx dv++post)))/\dv.length=m+3/\(∀x∈dv,x<4294967296)/\(∀j,i<=j->dv[j]?.getD 0=us[j]?.getD 0)/\cT 9= .int .u64 c/\cT 10= .int .u32 d/\c<4294967296/\d<=1/\val (dv.take i)+g*val (aB.take i)=val (us.take i)+4294967296^i*(c+d)) ?_ ?_ ?_
  ·exact⟨us,0,0,(Ml aS).symm,sk,jz,fun _ _=>rfl,by simp,by simp,by decide,by decide,by simp[val]⟩
  ·rintro i cT dJ bP ad a2 ⟨dv,c,d,rfl,dA,jb,zH,n8,hP,ag,aJ,g4⟩ K a1
   simp at a2 n8 hP
   obtain⟨pT,sm⟩:∃x,aB[i]?.getD 0=x:=⟨_,rfl⟩
   have Eb:=sm▸y0 i
   have DJ:aB[i]?=some pT:=by rw[<-sm,bt (by omega)];rfl
   obtain⟨u1,DE⟩:∃x,us[i]?.getD 0=x:=⟨_,rfl⟩
   have VW:=DE▸qn i
   have OF:IntKind.u64.wrap (pT:Int)=(pT:Int):=fR (by omega) (by omega)
   obtain⟨t0,Dz⟩:∃x,g*pT=x:=⟨_,rfl⟩
   have wG:IntKind.u64.wrap ((g:Int)*pT)=(t0:Int):=by rw[Eg tR Eb,Dz]
   have aeq:t0<=4294967295*4294967295:=by rw[<-Dz];exact Nat.mul_le_mul (by omega) (by omega)
   obtain⟨t,bu⟩:∃x,t0+c=x:=⟨_,rfl⟩
   have zr:IntKind.u64.wrap ((t0:Int)+c)=(t:Int):=by rw[fR (by omega) (by omega)];omega
   obtain⟨fg,mH⟩:∃x,t % 4294967296=x:=⟨_,rfl⟩
   obtain⟨l8,Ke⟩:∃x,t/4294967296=x:=⟨_,rfl⟩
   have ua:((t:Int).fdiv 4294967296)=(l8:Int):=by rw[mq _ (by decide)];omega
   have zs:IntKind.u32.wrap (t:Int)=(fg:Int):=by rw[nS];omega
   simp[a2,c8]
   refine cI (ae:=fO) (n:=i) (by simpa using(ns dv).row) (by simp) DJ (by simp) (by simp) (by simp) (.inr rfl) ?_
   rintro iP A5 ⟨rfl,-⟩
   have CD:(bZ.set b (.own 95 l (pre++(fx dv++post))))[b]?=some (.own 95 l (pre++(fx dv++post))):=List.getElem?_set_self gF
   simp[a2,c8,n8,hP,OF,wG,zr,ua]
   refine sM (b:=b) (l:=l) (pre:=pre) (us:=dv) (post:=post) (cap:=cap) (n:=i) CD aM (by simp[dA]) (by simp) (by omega) (by simp) (by simp) (by simp) fun nN=>?_
   rw[zH i (Nat.le_refl _),DE]
   simp[zs,hP]
   refine a4.mk (EP VW (by omega) aJ) ?_
   rintro w ca ⟨rfl,s,fa,rfl,an,kS,ud⟩
   simp
   refine AV (b:=b) (l:=l) (pre:=pre) (us:=dv) (post:=post) (cap:=cap) (n:=i) (z:=s) CD aM (by simp[dA]) (by simp) (by omega) (by simp) (by simp) (by simp) fun oD=>?_
   simp
   refine a1 _ _ _ (by simp[a2]) ⟨dv.set i s,l8,fa,by simp,by simp[dA],?_,?_,by simp,by simp,by omega,kS,?_⟩
   ·intro x I
    rcases List.mem_or_eq_of_mem_set I with I | rfl
    ·exact jb x I
    ·exact an
   ·intro j aI
    rw[List.getElem?_set_ne (by omega)]
    exact zH j (by omega)
   ·rw[rf _ _ _ (by omega),iA aB,iA us,sm,DE,Nat.pow_succ]
    generalize 4294967296^i=E at*
    have Dw:u1+4294967296*fa=s+fg+d:=ud
    have Dy:t=fg+4294967296*l8:=by omega
    have bq:g*(val (aB.take i)+E*pT)=g*val (aB.take i)+E*t0:=by rw[<-Dz];grind
    rw[bq]
    have bh:E*u1+E*(4294967296*fa)=E*s+E*fg+E*d:=by rw[<-Nat.mul_add,Dw,Nat.mul_add,Nat.mul_add]
    have e1:E*t0+E*c=E*fg+E*(4294967296*l8):=by rw[<-Nat.mul_add,bu,Dy,Nat.mul_add]
    have kg:E*4294967296*(l8+fa)=E*(4294967296*l8)+E*(4294967296*fa):=by grind
    rw[Nat.mul_add]at g4
    omega
  ·rintro cT dJ bP a2 ⟨dv,c,d,rfl,dA,jb,zH,n8,hP,ag,aJ,g4⟩
   simp at n8 hP
   have tI:=fun ws:List Nat=>(List.getElem?_set_self (l:=bZ) (a:= .own 95 l (pre++(fx ws++post))) gF)
   have CQ:IntKind.u32.wrap (c:Int)=(c:Int):=lD (by omega) (by omega)
   simp
   refine sM (b:=b) (l:=l) (pre:=pre) (us:=dv) (post:=post) (cap:=cap) (n:=m+2) (tI dv) aM (by simp[dA]) (by simp) (by omega) (by simp) (by simp) (by simp) fun nN=>?_
   rw[zH (m+2) (Nat.le_refl _),nF]
   simp[n8,hP,CQ]
   refine a4.mk (EP K7 ag aJ) ?_
   rintro w ca ⟨rfl,s,d2,rfl,an,pb,ud⟩
   simp
   refine AV (b:=b) (l:=l) (pre:=pre) (us:=dv) (post:=post) (cap:=cap) (n:=m+2) (z:=s) (tI dv) aM (by simp[dA]) (by simp) (by omega) (by simp) (by simp) (by simp) fun oD=>?_
   simp
   obtain⟨ws,su⟩:∃ws,dv.set (m+2) s=ws:=⟨_,rfl⟩
   have w4:ws.length=m+3:=by rw[<-su];simp[dA]
   have zU:∀x∈ws,x<4294967296:=by
    intro x I
    rw[<-su]at I
    rcases List.mem_or_eq_of_mem_set I with I | rfl
    ·exact jb x I
    ·exact an
   have Kt:ws[m+2]?.getD 0=s:=by rw[<-su,List.getElem?_set_self (by omega)];rfl
   have full:∀(x:List Nat) (k:Nat),x.length=k->x.take k=x:=fun x k h=>by rw[<-h,List.take_length]
   obtain⟨k4,qh⟩:∃k4,4294967296^(m+2)=k4:=⟨_,rfl⟩
   have TJ:val ws+g*val aB=val us+k4*4294967296*d2:=by
    have bq:=rf dv (m+2) s (by omega)
    rw[su,full ws _ w4,qh]at bq
    have bh:=iA us (m+2)
    rw[full us _ sk,nF,qh]at bh
    rw[full aB _ jA,qh]at g4
    rw[bq,bh]
    have:k4*k2+k4*(4294967296*d2)=k4*s+k4*(c+d):=by rw[<-Nat.mul_add,<-Nat.mul_add];congr 1;omega
    have:k4*4294967296*d2=k4*(4294967296*d2):=by grind
    omega
   rw[su]
   have zG:val us % val aB=val us-q*val aB/\q*val aB<=val us/\val us<(q+1)*val aB:=by
    have o:=Nat.div_add_mod (val us) (val aB)
    have aa:=Nat.mod_lt (val us) tE
    rw[au,Nat.mul_comm]at o
    refine⟨by omega,by omega,?_⟩
    rw[Nat.succ_mul]
    omega
   have aey:val ws<k4*4294967296:=by
    have:=jH zU
    rwa[w4,Nat.pow_succ,qh]at this
   refine bU.join (by kernel_rfl) (fun fS hl ca=>fS 7= .int .u64 q/\∃u4:List Nat,ca=bZ.set b (.own 95 l (pre++(fx u4++post)))/\u4.length=m+3/\(∀x∈u4,x<4294967296)/\val u4=val us % val aB) ?_ ?_
   ·rintro dW hb-
    simp
    refine bG.cE (fun aR=>?_) (fun aR=>?_)
    ·have kT:d2=1:=by omega
     subst kT
     have aV:g=q+1:=by
      have:q<g:=by
       rcases Nat.lt_or_ge q g with h | h
       ·exact h
       ·have:g*val aB<=q*val aB:=Nat.mul_le_mul_right _ h
        omega
      omega
     have RW:IntKind.u64.wrap ((g:Int)-1)=(q:Int):=by rw[fR (by omega) (by omega)];omega
     simp[c8,RW,gO]
     refine dx.range (by kernel_rfl) (m+2) (by omega) (by simp) (by rfl) (by simp) (by decide) (by decide) (fun i m3 pZ dU=>∃(xs:List Nat) (cq:Nat),dU=bZ.set b (.own 95 l (pre++(fx xs++post)))/\xs.length=m+3/\(∀x∈xs,x<4294967296)/\(∀j,i<=j->xs[j]?.getD 0=ws[j]?.getD 0)/\m3 13= .int .u32 cq/\cq<=1/\val (xs.take i)+4294967296^i*cq=val (ws.take i)+val (aB.take i)) ?_ ?_ ?_
     ·exact⟨ws,0,rfl,w4,zU,fun _ _=>rfl,by simp,by decide,by simp[val]⟩
     ·rintro i m3 pZ dU ad a2 ⟨xs,cq,rfl,j7,DY,hd,ic,zz,KH⟩ K a1
      simp at a2 ic
      obtain⟨pT,sm⟩:∃x,aB[i]?.getD 0=x:=⟨_,rfl⟩
      have Eb:=sm▸y0 i
      have DJ:aB[i]?=some pT:=by rw[<-sm,bt (by omega)];rfl
      obtain⟨e5,DX⟩:∃x,ws[i]?.getD 0=x:=⟨_,rfl⟩
      have VY:e5<4294967296:=DX▸vF (by decide) zU i
      simp[a2]
      refine sM (b:=b) (l:=l) (pre:=pre) (us:=xs) (post:=post) (cap:=cap) (n:=i) (tI xs) aM (by simp[j7]) (by simp) (by omega) (by simp) (by simp) (by simp) fun qX=>?_
      rw[hd i (Nat.le_refl _),DX]
      simp
      refine cI (ae:=fO) (n:=i) (by simpa using(ns xs).row) (by simp) DJ (by simp) (by simp) (by simp) (.inr rfl) ?_
      rintro Er agI ⟨rfl,-⟩
      simp[ic]
      refine a4.mk (Ho VY Eb zz) ?_
      rintro w cy ⟨rfl,y,Aj,rfl,aL,SH,Dw⟩
      simp
      refine AV (b:=b) (l:=l) (pre:=pre) (us:=xs) (post:=post) (cap:=cap) (n:=i) (z:=y) (tI xs) aM (by simp[j7]) (by simp) (by omega) (by simp) (by simp) (by simp) fun xv=>?_
      simp
      refine a1 _ _ _ (by simp[a2]) ⟨xs.set i y,Aj,by simp,by simp[j7],?_,?_,by simp,SH,?_⟩
      ·intro x I
       rcases List.mem_or_eq_of_mem_set I with I | rfl
       ·exact DY x I
       ·exact aL
      ·intro j aI
       rw[List.getElem?_set_ne (by omega)]
       exact hd j (by omega)
      ·rw[rf _ _ _ (by omega),iA aB,iA ws,sm,DX,Nat.pow_succ]
       generalize 4294967296^i=E at*
       have bq:E*y+E*(4294967296*Aj)=E*e5+E*pT+E*cq:=by rw[<-Nat.mul_add,Dw,Nat.mul_add,Nat.mul_add]
       have bh:E*4294967296*Aj=E*(4294967296*Aj):=by grind
       omega
     ·rintro m3 pZ dU a2 ⟨xs,cq,rfl,j7,DY,hd,ic,zz,KH⟩
      simp at ic
      simp
      refine sM (b:=b) (l:=l) (pre:=pre) (us:=xs) (post:=post) (cap:=cap) (n:=m+2) (tI xs) aM (by simp[j7]) (by simp) (by omega) (by simp) (by simp) (by simp) fun qX=>?_
      rw[hd (m+2) (Nat.le_refl _),Kt]
      obtain⟨y,aL⟩:∃y,(s+cq) % 4294967296=y:=⟨_,rfl⟩
      have qO:IntKind.u32.wrap ((s:Int)+cq)=(y:Int):=by rw[nS];omega
      simp[ic,qO]
      refine AV (b:=b) (l:=l) (pre:=pre) (us:=xs) (post:=post) (cap:=cap) (n:=m+2) (z:=y) (tI xs) aM (by simp[j7]) (by simp) (by omega) (by simp) (by simp) (by simp) fun xv=>?_
      simp
      have oA:∀x∈xs.set (m+2) y,x<4294967296:=by
       intro x I
       rcases List.mem_or_eq_of_mem_set I with I | rfl
       ·exact DY x I
       ·omega
      refine hb _ _ _ ⟨by simp,xs.set (m+2) y,by simp,by simp[j7],oA,?_⟩
      have bq:=rf xs (m+2) y (by omega)
      rw[full (xs.set (m+2) y) (m+2+1) (by simp[j7]),qh]at bq
      have Sn:=jH oA
      rw[List.length_set,j7,Nat.pow_succ,qh]at Sn
      have bh:=iA ws (m+2)
      rw[full ws _ w4,Kt,qh]at bh
      rw[full aB _ jA,qh]at KH
      rw[zG.1]
      rw[aV,Nat.succ_mul]at TJ
      rcases Nat.lt_or_ge (s+cq) 4294967296 with o | o
      ·have:y=s+cq:=by omega
       subst this
       rw[Nat.mul_add]at bq
       omega
      ·have:s+cq=y+4294967296:=by omega
       have e1:k4*s+k4*cq=k4*y+k4*4294967296:=by rw[<-Nat.mul_add,this,Nat.mul_add]
       omega
    ·have RF:d2=0:=by omega
     subst RF
     have aV:g=q:=by
      have:g<=q:=by
       rcases Nat.lt_or_ge q g with h | h
       ·have:(q+1)*val aB<=g*val aB:=Nat.mul_le_mul_right _ h
        omega
       ·exact h
      omega
     subst aV
     exact hb _ _ _ ⟨by simp[c8],ws,rfl,w4,zU,by rw[zG.1];omega⟩
   ·rintro fS hl ca ⟨IG,u4,rfl,C8,So,DH⟩
    simp at IG
    have zF:IntKind.u32.wrap (q:Int)=(q:Int):=lD (by omega) (by omega)
    simp[IG,zF,bj]
    exact aG _ _ ⟨⟨q,rfl,au.symm⟩,u4,rfl,C8,So,DH⟩
end Go.b_
end
section
set_option maxRecDepth 8000
namespace Go.b_
open Go.Proofs
open Go.Proofs.Try (prog)
attribute [-simp] fL gO hK
theorem Yq{P:Program}{r:List br}{F:Fr}{H:ab}{Q:Fr->ab->Prop}{d t n:Nat}{x i:Operand}{s:ByteArray}{y:Nat}{aw:a_ (ey d t x i::r) Q}(an:aq F x= .string s)(bu:iy P t=true)(ah:∃k,aq F i= .int k (n:Int))(aE:n<s.size)(aL:(s.data.getD n 0).toNat=y)(K:a8 P r Q .mk (aY F d (.int .u8 (y:Int))) H):a8 P (ey d t x i::r) Q aw F H:=by
 obtain⟨k,ah⟩:=ah
 rw[hK,an,ah,FV,nc]
 refine df.mk ⟨bu,by omega,by omega⟩ ?_
 rw[Int.toNat_natCast,aL]
 exact K
theorem Yp{P:Program}{r:List br}{F:Fr}{H:ab}{Q:Fr->ab->Prop}{d t n m:Nat}{x i:Operand}{s:ByteArray}{p:Nat->Nat->Prop}{aw:a_ (ey d t x i::r) Q}(an:aq F x= .string s)(bu:iy P t=true)(ah:∃k,aq F i= .int k (n:Int))(hm:s.size=m)(aE:n<m)(aR:∀j,j<m->p j (s.data.getD j 0).toNat)(K:∀y,p n y->a8 P r Q .mk (aY F d (.int .u8 (y:Int))) H):a8 P (ey d t x i::r) Q aw F H:=
 Yq an bu ah (by omega) rfl (K _ (aR n aE))
theorem VN{x:Nat}{H:ab}(I:x<4294967296):aZ prog 96 [.int .u32 x] H (fun v H1=>H1=H/\∃n:Nat,v= .int .i64 n/\x<2^n/\n<=32/\(0<x->0<n)):=by
 refine aZ.cr fun Q aG=>?_
 apply T9 (by simp)
 unfold Gq
 simp only[k1]
 simp
 refine bU.join (by kernel_rfl) (fun aA bC H1=>H1=H/\∃y n:Nat,aA 0= .int .u32 y/\aA 2= .int .i64 n/\y<65536/\x<(y+1)*2^n/\n<=16/\(0<x->0<n\/0<y)) ?_ ?_
 ·rintro dW hb-
  simp
  refine bG.cE (fun ag=>?_) (fun ag=>?_)
  ·have:((x:Int).fdiv 65536)=((x/65536:Nat):Int):=by rw[mq _ (by decide)];omega
   simp[this]
   exact hb _ _ _ ⟨rfl,x/65536,16,by simp,by simp,by omega,by omega,by decide,by omega⟩
  ·exact hb _ _ _ ⟨rfl,x,0,by simp,by simp,by omega,by omega,by decide,by omega⟩
 ·rintro aA bC H1 ⟨rfl,y,n,aH,aa,aL,nI,aE,ht⟩
  simp at aH aa
  refine bU.join (by kernel_rfl) (fun dQ fr bZ=>bZ=H1/\∃ma dI:Nat,dQ 0= .int .u32 ma/\dQ 2= .int .i64 dI/\ma<256/\x<(ma+1)*2^dI/\dI<=24/\(0<x->0<dI\/0<ma)) ?_ ?_
  ·rintro dW hb-
   simp[aH]
   refine bG.cE (fun ag=>?_) (fun ag=>?_)
   ·have bq:((y:Int).fdiv 256)=((y/256:Nat):Int):=by rw[mq _ (by decide)];omega
    have bh:IntKind.i64.wrap ((n:Int)+8)=((n+8:Nat):Int):=by rw[cP (by omega) (by omega)];simp
    simp[aH,bq,aa,bh]
    refine hb _ _ _ ⟨rfl,y/256,n+8,by simp,by simp,by omega,?_,by omega,fun _=> .inl (by omega)⟩
    have:(y+1)*2^n<=((y/256+1)*256)*2^n:=Nat.mul_le_mul_right _ (by omega)
    rw[Nat.pow_add,Nat.mul_comm (2^n),<-Nat.mul_assoc,show(2:Nat)^8=256 from rfl]
    omega
   ·exact hb _ _ _ ⟨rfl,y,n,by simp[aH],by simp[aa],by omega,nI,by omega,ht⟩
  ·rintro dQ fr bZ ⟨rfl,ma,dI,qe,tp,pz,aeA,aek,SO⟩
   simp at qe tp
   have ib:IntKind.u8.wrap (ma:Int)=(ma:Int):=Fs (by omega) (by omega)
   simp[qe,tp,ib]
   refine Yp (n:=ma) (m:=256) (p:=fun j z=>j<2^z/\z<=8/\(0<j->0<z)) rfl (by simp) ⟨.u8,by simp⟩ (by kernel_rfl) pz (of_decide_eq_true (by kernel_rfl)) ?_
   rintro z ⟨pA,uk,xa⟩
   have e1:IntKind.i64.wrap (z:Int)=(z:Int):=cP (by omega) (by omega)
   have kg:IntKind.i64.wrap ((dI:Int)+z)=((dI+z:Nat):Int):=by rw[cP (by omega) (by omega)];simp
   simp[e1,kg,bj]
   refine aG _ _ ⟨rfl,dI+z,by simp,?_,by omega,fun h=>by have:=SO h;omega⟩
   have:(ma+1)*2^dI<=2^z*2^dI:=Nat.mul_le_mul_right _ pA
   rw[Nat.pow_add,Nat.mul_comm (2^dI)]
   omega
theorem VZ{x:Nat}{H:ab}(I:x<4294967296)(aH:0<x):aZ prog 87 [.int .u32 x] H (fun v H1=>H1=H/\∃n:Nat,v= .int .i64 n/\n<32/\x*2^n<4294967296):=by
 refine aZ.cr fun Q aG=>?_
 apply T8 (by simp)
 simp[Gp]
 refine a4.mk (VN I) ?_
 rintro v H1 ⟨rfl,n,rfl,o,aa,aD⟩
 have e:IntKind.i64.wrap (32-(n:Int))=((32-n:Nat):Int):=by rw[cP (by omega) (by omega)];omega
 obtain⟨s,an⟩:∃s,32-n=s:=⟨_,rfl⟩
 rw[an]at e
 simp[e,bj]
 refine aG _ _ ⟨rfl,s,rfl,by have:=aD aH;omega,?_⟩
 have:x*2^s<2^n*2^s:=Nat.mul_lt_mul_of_pos_right o (Nat.pow_pos (by decide))
 rw[<-Nat.pow_add,show n+s=32 by omega]at this
 exact this
end Go.b_
end
