/- Part of the proof of ShopMakes. -/
import Derived.Test.YtoiodfcefbapkaaShopMakesE
set_option linter.unusedVariables false
set_option linter.unusedSimpArgs false
section
set_option maxRecDepth 8000
namespace Go.b9
open Go.Proofs
open Go.Proofs.Try (prog)
theorem lp{v:Value}{l:List Nat}{H:ab}(eb:cO H 95 v l)(hlen:l.length<4611686018427387904):a0 prog 55 [v] H (fun au H1=>H1=H/\∃c2,cO H 95 au c2/\Trim c2/\val c2=val l/\c2.length<=l.length):=by
 refine a0.cq fun Q aG=>?_
 apply Ux (by simp)
 simp[Gf]
 refine kv.mk (ak:=fun n F H1=>H1=H/\∃c2 k,cO H 95 (F 0) c2/\l=c2++List.replicate k 0/\n=c2.length) l.length ⟨rfl,l,0,by simpa[]using eb,by simp,rfl⟩ ?_
 rintro n F H1 ⟨rfl,c2,k,k9,ar,rfl⟩ K a1
 have Dc:c2.length<=l.length:=by rw[ar];simp
 have gV:val c2=val l:=by rw[ar,mY,Fl];simp
 obtain⟨a,cap,ao⟩:=k9.1.len
 simp[ao]
 refine bG.cC (fun aE=>?_) (fun aE=>?_)
 ·obtain⟨b,i,dm,X,all,he,aR,ag,bq,lg⟩:=k9.at aE
  rw[ao]at he
  cases he
  have bp:((c2.length:Int)-1).toNat=c2.length-1:=by omega
  have bo:=Mz c2 aE
  simp(disch:=omega)[aE,ao,cP]
  refine df.mk ⟨by omega,by omega⟩ ?_
  simp[aR,ag,bp,lg _ (show c2.length-1<c2.length by omega)]
  refine bG.cC (fun aP=>?_) (fun aP=>?_)
  ·simp(disch:=omega)[ao,cP]
   refine Yl (n:=c2.length) (l:=0) (h:=c2.length-1) (e:=95) (J:=1) (by simpa[ao]using k9.1) (by simp) (by simp) rfl (by simp[fo];omega) (by omega) (by omega) (fun au dc=>?_)
   simp
   refine a1 (c2.length-1) _ _ (by omega) ⟨rfl,c2.take (c2.length-1),k+1,⟨?_,fun x I=>k9.2 x (List.mem_of_mem_take I)⟩,?_,by simp⟩
   ·simpa[Nat.min_eq_left,List.map_take]using dc
   ·rw[ar]
    conv=>lhs;rw[<-bo]
    have:c2[c2.length-1]?.getD 0=0:=by omega
    rw[this,List.replicate_succ,List.append_assoc]
    rfl
  ·simp[ao]
   refine aG _ _ ⟨rfl,c2,ao▸k9,fun h=>aP ?_,gV,Dc⟩
   rw[List.getLast?_eq_getElem?]at h
   simp[h]
 ·simp[aE,ao]
  have:c2=[]:=List.eq_nil_of_length_eq_zero (by omega)
  exact aG _ _ ⟨rfl,c2,ao▸k9,by simp[this,Trim],gV,Dc⟩
theorem Hp{x y c:Nat}{H:ab}(I:x<4294967296)(aJ:y<4294967296)(ag:c<=1):a0 prog 86 [.int .u32 x,.int .u32 y,.int .u32 c] H (fun au H1=>H1=H/\∃s d:Nat,au= .tuple #[.int .u32 s,.int .u32 d]/\s<4294967296/\d<=1/\s+4294967296*d=x+y+c):=by
 refine a0.cq fun Q aG=>?_
 apply TR (by simp)
 simp(disch:=first | omega | (simp<;>fail) | fail) [FZ,fR,nM,bj,ml]
 refine aG _ _ ⟨rfl,(x+y+c) % 4294967296,(x+y+c)/4294967296,?_,by omega,by omega,by omega⟩
 simp
 omega
theorem BE{v w:Value}{a b:List Nat}{H:ab}(bO:cO H 95 v a)(bS:cO H 95 w b)(n6:Trim a)(kH:Trim b)(jT:a.length<4611686018427387904)(jq:b.length<4611686018427387904):
  a0 prog 63 [v,w] H (fun au H1=>H1=H/\au= .int .i64 (if val a<val b then-1 else if val b<val a then 1 else 0)):=by
 refine a0.cq fun Q aG=>?_
 apply Un (by simp)
 obtain⟨fW,ac,rfl⟩:=bO.len
 obtain⟨Hs,Ht,rfl⟩:=bS.len
 simp(disch:=omega)[Gc,cP]
 refine bG.cC (fun aE=>?_) (fun aE=>?_)
 ·have hlen:a.length=b.length:=by omega
  simp(disch:=omega)[cP]
  refine kv.mk (ak:=fun n F H1=>H1=H/\F 0= .slice fW a.length ac/\F 1= .slice Hs b.length Ht/\F 5= .int .i64 ((n:Int)-1)/\n<=a.length/\a.drop n=b.drop n) a.length ⟨rfl,by simp,by simp,by simp,Nat.le_refl _,by rw[List.drop_eq_nil_of_le (by omega),List.drop_eq_nil_of_le (by omega)]⟩ ?_
  rintro n F H1 ⟨rfl,aH,o,b2,g_,aL⟩ K a1
  simp[aH,o,b2]
  refine bG.cC (fun aT=>?_) (fun aT=>?_)
  ·obtain⟨gQ,i1,vw,yf,yi,jm,nn,ld,Jo,oa⟩:=bO.at (by omega)
   obtain⟨kB,i2,BB,Bo,Bt,ia,qj,mu,nt,qp⟩:=bS.at (by omega)
   cases jm
   cases ia
   have bp:((n:Int)-1).toNat=n-1:=by omega
   simp[aH,o,b2]
   refine df.mk ⟨by omega,by omega⟩ ?_
   simp[aH,o,b2,nn,ld,bp,oa _ (show n-1<a.length by omega)]
   refine df.mk ⟨by omega,by omega⟩ ?_
   simp[aH,o,b2,qj,mu,bp,qp _ (show n-1<b.length by omega)]
   have BP:a.drop (n-1)=a[n-1]?.getD 0::a.drop n:=by
    rw[List.drop_eq_getElem_cons (by omega),bx (by omega),Option.getD_some,Nat.sub_add_cancel (by omega)]
   have BQ:b.drop (n-1)=b[n-1]?.getD 0::b.drop n:=by
    rw[List.drop_eq_getElem_cons (by omega),bx (by omega),Option.getD_some,Nat.sub_add_cancel (by omega)]
   refine bG.cC (fun av=>?_) (fun av=>?_)
   ·simp(disch:=omega)[b2,cP]
    refine a1 (n-1) _ _ (by omega) ⟨rfl,by simp[aH],by simp[o],by simp;omega,by omega,?_⟩
    rw[BP,BQ,aL]
    congr 1
    omega
   ·have key:∀(x y:List Nat),(∀z∈x,z<4294967296)->(∀z∈y,z<4294967296)->x.length=y.length->x.drop (n-1)=x[n-1]?.getD 0::x.drop n->y.drop (n-1)=y[n-1]?.getD 0::y.drop n->x.drop n=y.drop n->n-1<x.length->x[n-1]?.getD 0<y[n-1]?.getD 0->val x<val y:=by
     intro x y I aJ mJ ex Ps hs a3 iW
     have v1:val x=val (x.take (n-1))+4294967296^(n-1)*(x[n-1]?.getD 0+4294967296*val (x.drop n)):=by
      conv=>lhs;rw[<-List.take_append_drop (n-1) x,mY,ex]
      simp only[val,List.length_take,Nat.min_eq_left (Nat.le_of_lt a3)]
     have v2:val y=val (y.take (n-1))+4294967296^(n-1)*(y[n-1]?.getD 0+4294967296*val (y.drop n)):=by
      conv=>lhs;rw[<-List.take_append_drop (n-1) y,mY,Ps]
      simp only[val,List.length_take,Nat.min_eq_left (show n-1<=y.length by omega)]
     have pM:val (x.take (n-1))<4294967296^(n-1):=by
      have:=jC (l:=x.take (n-1)) fun z aP=>I z (List.mem_of_mem_take aP)
      rwa[List.length_take,Nat.min_eq_left (Nat.le_of_lt a3)]at this
     have v4:4294967296^(n-1)*(x[n-1]?.getD 0+4294967296*val (x.drop n)+1)<=4294967296^(n-1)*(y[n-1]?.getD 0+4294967296*val (y.drop n)):=Nat.mul_le_mul_left _ (by rw[hs];omega)
     rw[Nat.mul_add,Nat.mul_one]at v4
     omega
    simp(disch:=omega)[aH,o,b2,cP]
    refine df.mk ⟨by omega,by omega⟩ ?_
    simp[aH,o,b2,nn,ld,bp,oa _ (show n-1<a.length by omega)]
    refine df.mk ⟨by omega,by omega⟩ ?_
    simp[aH,o,b2,qj,mu,bp,qp _ (show n-1<b.length by omega)]
    refine bG.cC (fun a3=>?_) (fun a3=>?_)
    ·simp[bj]
     refine aG _ _ ⟨rfl,?_⟩
     rw[if_pos (key a b bO.2 bS.2 hlen BP BQ aL (by omega) (by omega))]
    ·simp[bj]
     have:=key b a bS.2 bO.2 hlen.symm BQ BP aL.symm (by omega) (by omega)
     refine aG _ _ ⟨rfl,?_⟩
     rw[if_neg (by omega),if_pos this]
  ·have jU:n=0:=by omega
   subst jU
   simp[bj]
   have:a=b:=by simpa using aL
   exact aG _ _ ⟨rfl,by rw[this];simp⟩
 ·simp
  refine bG.cC (fun g_=>?_) (fun g_=>?_)
  ·simp[bj]
   have:=kH.uu bO.2 (by omega)
   exact aG _ _ ⟨rfl,by simp[this]⟩
  ·simp[bj]
   have:=n6.uu bS.2 (by omega)
   exact aG _ _ ⟨rfl,by rw[if_neg (by omega),if_pos this]⟩
theorem aai(b:BitVec 32):IntKind.u32.wrap (b.toNat:Int)=b.toNat:=lu (Int.natCast_nonneg _) (by have:=b.isLt;omega)
theorem XW{z:Nat}(h:z<4294967296):z/2147483648=(z.testBit 31).toNat:=by
 rw[Nat.testBit_eq_decide_div_mod_eq]
 have:z/2^31=z/2147483648:=rfl
 rw[this]
 by_cases aP:z<2147483648
 ·rw[Nat.div_eq_of_lt aP];rfl
 ·have:z/2147483648=1:=by omega
  rw[this];rfl
theorem E3{z:Nat}(h:z<4294967296):z.testBit 31=decide (2147483648<=z):=by
 rw[Nat.testBit_eq_decide_div_mod_eq]
 have:z/2^31=z/2147483648:=rfl
 rw[this]
 by_cases aP:z<2147483648
 ·rw[Nat.div_eq_of_lt aP];simp;omega
 ·have:z/2147483648=1:=by omega
  rw[this];simp;omega
theorem N0(x y c:Nat)(I:x<4294967296)(aJ:y<4294967296)(ag:c<=1):
  (((4294967295^^^x)&&&y) ||| ((4294967295^^^(x^^^y))&&&((x+8589934592-y-c) % 4294967296)))/2147483648=if x<y+c then 1 else 0:=by
 have aL:(x+8589934592-y-c) % 4294967296<4294967296:=Nat.mod_lt _ (by decide)
 rw[XW]
 ·simp only[Nat.testBit_or,Nat.testBit_and,Nat.testBit_xor,E3 I,E3 aJ,E3 aL,show Nat.testBit 4294967295 31=true from by decide]
  by_cases o:2147483648<=x<;>by_cases aa:2147483648<=y<;>by_cases aD:x<y+c<;>simp[o,aa,aD]<;>omega
 ·exact Nat.or_lt_two_pow (n:=32) (Nat.and_lt_two_pow _ aJ) (Nat.and_lt_two_pow _ aL)
theorem ER{x y c:Nat}{H:ab}(I:x<4294967296)(aJ:y<4294967296)(ag:c<=1):a0 prog 91 [.int .u32 x,.int .u32 y,.int .u32 c] H (fun au H1=>H1=H/\∃s d:Nat,au= .tuple #[.int .u32 s,.int .u32 d]/\s<4294967296/\d<=1/\x+4294967296*d=s+y+c):=by
 refine a0.cq fun Q aG=>?_
 apply TW (by simp)
 obtain⟨d,aL⟩:∃d:Nat,d=(x+8589934592-y-c) % 4294967296:=⟨_,rfl⟩
 have bp:IntKind.u32.wrap (IntKind.u32.wrap ((x:Int)-y)-c)=(d:Int):=by
  rw[nM,nM]
  omega
 have bo:IntKind.u32.max=4294967295:=rfl
 have kI:d<4294967296:=by omega
 simp(disch:=first | omega | (simp<;>fail) | fail) [F0,bj,ml,bp,bo,aai]
 refine aG _ _ ⟨rfl,d,if x<y+c then 1 else 0,?_,kI,by split<;>omega,by split<;>omega⟩
 have ae:=N0 x y c I aJ ag
 rw[<-aL]at ae
 have aE:((4294967295#32^^^BitVec.ofNat 32 x)&&&BitVec.ofNat 32 y ||| (4294967295#32^^^(BitVec.ofNat 32 x^^^BitVec.ofNat 32 y))&&&BitVec.ofNat 32 d).toNat=((4294967295^^^x)&&&y ||| (4294967295^^^(x^^^y))&&&d):=by
  rw[BitVec.toNat_or,BitVec.toNat_and,BitVec.toNat_and,BitVec.toNat_xor,BitVec.toNat_xor,BitVec.toNat_xor,BitVec.toNat_ofNat,BitVec.toNat_ofNat,BitVec.toNat_ofNat,BitVec.toNat_ofNat,Nat.mod_eq_of_lt I,Nat.mod_eq_of_lt aJ,Nat.mod_eq_of_lt kI]
 show Value.tuple #[.int .u32 d,.int .u32 ((((4294967295#32^^^BitVec.ofNat 32 x)&&&BitVec.ofNat 32 y ||| (4294967295#32^^^(BitVec.ofNat 32 x^^^BitVec.ofNat 32 y))&&&BitVec.ofNat 32 d).toNat:Int)/2147483648)]=_
 rw[aE]
 have:(((4294967295^^^x)&&&y ||| (4294967295^^^(x^^^y))&&&d:Nat):Int)/2147483648=((((4294967295^^^x)&&&y ||| (4294967295^^^(x^^^y))&&&d)/2147483648:Nat):Int):=by simp
 rw[this,ae]
theorem pB(n:Nat):made (.int .u32 0) n=(List.replicate n 0).map fun(x:Nat)=>Value.int .u32 (x:Int):=by
 unfold made
 apply List.ext_getElem (by simp)
 intro i o aa
 simp[Value.cells,Nat.mod_one]
@[simp] theorem acE(k:IntKind)(n:Int):(Value.int k n).cells= #[.int k n]:=rfl
@[simp] theorem aez(k:IntKind)(n:Int):(Value.int k n).oneCell'=true:=rfl
@[simp] theorem agB(cs:List Value)(i:Nat)(v:Value):lr cs i [v]=cs.set i v:=rfl
@[simp] theorem Vs(H:ab)(X:bA):(H++[X])[H.length]?=some X:=by simp
@[simp] theorem acq(e:TypeId)(l:Bool)(cs:List Value):(some (bA.own e l cs)).bind bA.cells?=some cs:=rfl
@[simp] theorem acF(e:TypeId)(l:Bool)(cs:List Value):(bA.own e l cs).cells?=some cs:=rfl
@[simp] theorem acG(e:TypeId)(cs:List Value):(bA.ro e cs).cells?=some cs:=rfl
theorem mO{H:ab}{b:Nat}{X:bA}(h:H[b]?=some X)(N:ab):(H++N)[b]?=some X:=by
 rw[List.getElem?_append_left (cd.1 h).1];exact h
theorem cO.fresh(H:ab)(e:Nat)(l:List Nat)(n c:Nat)(aE:n<=c)(ar:l.length=c)(a3:∀x∈l,x<4294967296)(b:Bool):cO (H++[.own e b (l.map fun(x:Nat)=>Value.int .u32 (x:Int))]) e (.slice (some ⟨H.length,0,none⟩) n c) (l.take n):=by
 refine⟨⟨_,c,by simp[ar,Nat.min_eq_left aE],by simp[ar,Nat.min_eq_left aE];omega,by simp,fun ag=>⟨H.length,0,_,_,rfl,Vs H _,rfl,rfl,by simp[ar];omega,by simp[ar,Nat.min_eq_left aE,List.map_take]⟩⟩,fun x I=>a3 x (List.mem_of_mem_take I)⟩
theorem q9(l:List Nat)(i x:Nat)(ad:i<l.length):val ((l.set i x).take (i+1))=val (l.take i)+4294967296^i*x:=by
 rw[List.take_set,List.take_succ_eq_append_getElem ad,List.set_append_right _ _ (by simp;omega)]
 simp[Nat.min_eq_left (Nat.le_of_lt ad),mY,val]
theorem iu(l:List Nat)(i:Nat):val (l.take (i+1))=val (l.take i)+4294967296^i*(l[i]?.getD 0):=by
 by_cases ad:i<l.length
 ·rw[List.take_succ_eq_append_getElem ad,mY,bx ad]
  simp[val,Nat.min_eq_left (Nat.le_of_lt ad)]
 ·rw[List.take_of_length_le (by omega),List.take_of_length_le (by omega),List.getElem?_eq_none (by omega)]
  simp
theorem vG{l:List Nat}{m:Nat}(hm:0<m)(h:∀x∈l,x<m)(k:Nat):l[k]?.getD 0<m:=by
 by_cases ai:k<l.length
 ·rw[bx ai];exact h _ (List.getElem_mem ai)
 ·rw[List.getElem?_eq_none (by omega)];exact hm
theorem LJ{v w:Value}{a b:List Nat}{H:ab}(bO:cO H 95 v a)(bS:cO H 95 w b)(jT:a.length<1048576)(jq:b.length<1048576):
  a0 prog 78 [v,w] H (fun au H1=>Ext H H1/\∃l,cO H1 95 au l/\Trim l/\val l=val a+val b):=by
 refine a0.cq fun Q aG=>?_
 apply Ut (by simp)
 obtain⟨fW,ac,rfl⟩:=bO.len
 obtain⟨Hs,Ht,rfl⟩:=bS.len
 simp only[Ge]
 rw[cw]
 simp[-cw]
 rw[cw]
 refine gP.cut (fun az H1=>H=H1/\∃x y h1 l8 dR fG,az 0= .slice x dR.length h1/\az 1= .slice y fG.length l8/\cO H 95 (.slice x dR.length h1) dR/\cO H 95 (.slice y fG.length l8) fG/\fG.length<=dR.length/\dR.length<1048576/\val dR+val fG=val a+val b) ?_ ?_
 ·intro K a1
  simp(disch:=omega)[cP]
  refine bG.cC (fun ar=>?_) (fun ar=>?_)
  ·simp
   exact a1 _ _ ⟨rfl,_,_,_,_,b,a,by simp,by simp,bS,bO,by omega,jq,by omega⟩
  ·simp
   exact a1 _ _ ⟨rfl,_,_,_,_,a,b,by simp,by simp,bO,bS,by omega,jT,by omega⟩
 ·rintro F H1 ⟨rfl,x,y,h1,l8,dR,fG,aH,o,aR,lH,hle,a3,gV⟩
  rw[cw]
  simp(disch:=omega)[aH,o,cP,-cw]
  refine xT (e:=95) (J:=1) (bs:=4) (eo:= .i64) (cB:= .i64) (l:=dR.length+1) (c:=dR.length+1) (z:= .int .u32 0) (by simp) (by simp) (by simp) (by simp) (by rfl) (by rfl) (by simp) (by simp) (by omega) (by omega) (Nat.le_refl _) (by omega) (by omega) ?_
  simp[-cw,pB]
  rw[cw]
  simp[-cw]
  rw[cw]
  refine gP.cut (fun az H1=>az 0= .slice x dR.length h1/\az 5= .slice (some ⟨H.length,0,none⟩) (dR.length+1) (dR.length+1)/\∃(out:List Nat) (c:Nat),H1=H++[.own 95 false (out.map fun(x:Nat)=>Value.int .u32 (x:Int))]/\az 6= .int .u32 c/\c<=1/\out.length=dR.length+1/\(∀x∈out,x<4294967296)/\val (out.take dR.length)+4294967296^dR.length*c=val dR+val fG) ?_ ?_
  ·intro K a1
   simp(disch:=omega)[aH,o,cP]
   refine kv.mk (ak:=fun n az H1=>∃i:Nat,n=dR.length-i/\i<=dR.length/\az 0= .slice x dR.length h1/\az 1= .slice y fG.length l8/\az 21= .int .i64 dR.length/\az 22= .int .i64 i/\az 5= .slice (some ⟨H.length,0,none⟩) (dR.length+1) (dR.length+1)/\∃(out:List Nat) (c:Nat),H1=H++[.own 95 false (out.map fun(x:Nat)=>Value.int .u32 (x:Int))]/\az 6= .int .u32 c/\c<=1/\out.length=dR.length+1/\(∀x∈out,x<4294967296)/\val (out.take i)+4294967296^i*c=val (dR.take i)+val (fG.take i)) dR.length ?_ ?_
   ·refine⟨0,by omega,by omega,by simp[aH],by simp[o],by simp,by simp,by simp,List.replicate (dR.length+1) 0,0,by simp,by simp,by omega,by simp,by simp,by simp[val]⟩
   ·rintro n az H1 ⟨i,rfl,ad,ch,cb,p9,hM,eA,out,c,rfl,gg,ag,e1,iD,ao⟩ dY iP
    simp[p9,hM]
    refine bG.cC (fun iT=>?_) (fun iT=>?_)
    ·simp[ch,cb,eA,gg,hM,-cw]
     obtain⟨gQ,i1,vw,yf,yi,jm,nn,ld,Jo,oa⟩:=aR.at (by omega)
     cases jm
     have wg:=mO nn [.own 95 false (out.map fun(x:Nat)=>Value.int .u32 (x:Int))]
     rw[cw,E9,cw]
     simp[ch,cb,eA,gg,hM,-cw]
     rw[cw]
     simp[ch,cb,eA,gg,hM,-cw]
     rw[cw]
     refine gP.cut (fun bQ aY=>H++[.own 95 false (out.map fun(x:Nat)=>Value.int .u32 (x:Int))]=aY/\bQ 0=az 0/\bQ 1=az 1/\bQ 5=az 5/\bQ 6=az 6/\bQ 7= .int .i64 i/\bQ 21=az 21/\bQ 22=az 22/\bQ 8= .int .u32 (fG[i]?.getD 0:Nat)) ?_ ?_
     ·intro cT ee
      simp[cb]
      refine bG.cC (fun wG=>?_) (fun wG=>?_)
      ·obtain⟨kB,i2,BB,Bo,Bt,ia,qj,mu,nt,qp⟩:=lH.at (by omega)
       cases ia
       have rO:=mO qj [.own 95 false (out.map fun(x:Nat)=>Value.int .u32 (x:Int))]
       simp[cb]
       refine df.mk (by omega) ?_
       simp[cb,rO,mu,qp _ wG]
       exact ee _ _ ⟨rfl,by simp,by simp[cb],by simp,by simp,by simp,by simp,by simp,by simp⟩
      ·simp[cb]
       exact ee _ _ ⟨rfl,by simp,by simp[cb],by simp,by simp,by simp,by simp,by simp,by rw[List.getElem?_eq_none (by omega)];simp⟩
     ·rintro bQ aY ⟨rfl,f0,f1,f5,f6,f7,f21,f22,f8⟩
      simp[f0,f1,f5,f6,f7,f8,ch,cb,eA,gg]
      refine df.mk (by omega) ?_
      simp[f0,f1,f5,f6,f7,f8,ch,cb,eA,gg,wg,ld,oa _ iT]
      refine a7.mk (Hp (aR.lt i) (lH.lt i) ag) ?_
      rintro v bZ ⟨rfl,s,d,rfl,an,aL,wV⟩
      simp[f0,f1,f5,f6,f7,f8,f22,ch,cb,eA,gg,hM]
      refine df.mk (by omega) ?_
      simp(disch:=omega)[f0,f1,f5,f6,f7,f8,f22,ch,cb,eA,gg,hM,cP]
      refine df.mk (by omega) ?_
      simp(disch:=omega)[f0,f1,f5,f6,f7,f8,f22,ch,cb,eA,gg,hM,cP]
      refine iP (dR.length-(i+1)) _ _ (by omega) ⟨i+1,by omega,by omega,by simp[f0,ch],by simp[f1,cb],by simp[f21,p9],by simp,by simp[f5,eA],out.set i s,d,by simp[List.map_set],by simp,aL,by simp[e1],?_,?_⟩
      ·intro z aP
       rcases List.mem_or_eq_of_mem_set aP with aP | rfl
       ·exact iD z aP
       ·exact an
      ·rw[q9 _ _ _ (by omega),iu dR,iu fG,Nat.pow_succ]
       have:4294967296^i*(s+4294967296*d)=4294967296^i*(dR[i]?.getD 0+fG[i]?.getD 0+c):=by rw[wV]
       grind
    ·simp
     have:i=dR.length:=by omega
     subst this
     refine a1 _ _ ⟨by simp[ch],by simp[eA],out,c,rfl,by simp[gg],ag,e1,iD,?_⟩
     rw[ao,List.take_length,List.take_of_length_le hle]
  ·rintro az H1 ⟨ch,eA,out,c,rfl,gg,ag,e1,iD,ao⟩
   rw[cw]
   simp[ch,eA,gg,-cw]
   refine df.mk (by omega) ?_
   simp[ch,eA,gg,-cw]
   refine df.mk (by omega) ?_
   rw[cw]
   have zH:(List.map (fun(x:Nat)=>Value.int .u32 (x:Int)) out).set dR.length (.int .u32 (c:Int))=(out.set dR.length c).map fun(x:Nat)=>Value.int .u32 (x:Int):=by simp[List.map_set]
   simp[ch,eA,gg,-cw,zH,-List.map_set]
   have zn:∀z∈out.set dR.length c,z<4294967296:=fun z aP=>by
    rcases List.mem_or_eq_of_mem_set aP with aP | rfl
    ·exact iD z aP
    ·omega
   have eb:=cO.fresh H 95 (out.set dR.length c) (dR.length+1) (dR.length+1) (Nat.le_refl _) (by simp[e1]) zn false
   refine a7.mk (lp eb (by simp[e1];omega)) ?_
   rintro v H1 ⟨rfl,c2,dz,bc,dc,-⟩
   simp[bj,-List.map_set]
   refine aG _ _ ⟨(Ext.refl H).snoc _ _ _,c2,dz,bc,?_⟩
   rw[dc,q9 _ _ _ (by omega),ao,gV]
theorem Lf{v w:Value}{a b:List Nat}{H:ab}(bO:cO H 95 v a)(bS:cO H 95 w b)(jT:a.length<1048576)(hle:b.length<=a.length)(gV:val b<=val a):
  a0 prog 80 [v,w] H (fun au H1=>Ext H H1/\∃l,cO H1 95 au l/\Trim l/\val l=val a-val b):=by
 refine a0.cq fun Q aG=>?_
 apply Ur (by simp)
 obtain⟨x,h1,rfl⟩:=bO.len
 obtain⟨y,l8,rfl⟩:=bS.len
 by_cases oX:a.length=0
 ·have wi:a=[]:=List.eq_nil_of_length_eq_zero oX
  have mq:b=[]:=List.eq_nil_of_length_eq_zero (by omega)
  subst wi mq
  simp only[Bq]
  rw[cw]
  simp[-cw]
  rw[cw]
  simp[-cw]
  refine AU (e:=95) (J:=1) (bs:=4) (eo:= .i64) (cB:= .i64) (by simp) (by simp) (by simp) (by simp) (by simp) ?_
  simp
  refine kv.mk (ak:=fun n az H1=>H=H1/\az 13= .int .i64 0/\az 14= .int .i64 0/\az 5= .slice (some ⟨0,0,none⟩) 0 0) 0 ⟨rfl,by simp,by simp,by simp⟩ ?_
  rintro n az H1 ⟨rfl,BY,BZ,eA⟩ K a1
  simp[BY,BZ,eA]
  refine a7.mk (lp (l:=[]) ⟨ec.void H _ _ _,by simp⟩ (by simp)) ?_
  rintro v H1 ⟨rfl,c2,dz,bc,dc,-⟩
  simp[bj]
  exact aG _ _ ⟨Ext.refl _,c2,dz,bc,by simpa[val]using dc⟩
 simp only[Bq]
 rw[cw]
 simp[-cw]
 rw[cw]
 simp(disch:=omega)[cP,-cw]
 refine xT (e:=95) (J:=1) (bs:=4) (eo:= .i64) (cB:= .i64) (l:=a.length) (c:=a.length) (z:= .int .u32 0) (by simp) (by simp) (by simp) (by simp) (by rfl) (by rfl) (by simp) (by simp) (by omega) (by omega) (Nat.le_refl _) (by omega) (by omega) ?_
 simp[-cw,pB]
 rw[cw]
 simp[-cw]
 rw[cw]
 refine gP.cut (fun az H1=>az 5= .slice (some ⟨H.length,0,none⟩) a.length a.length/\∃(out:List Nat) (c:Nat),H1=H++[.own 95 false (out.map fun(x:Nat)=>Value.int .u32 (x:Int))]/\out.length=a.length/\(∀x∈out,x<4294967296)/\val a+4294967296^a.length*c=val out+val b) ?_ ?_
 ·intro K a1
  simp(disch:=omega)[cP]
  refine kv.mk (ak:=fun n az H1=>∃i:Nat,n=a.length-i/\i<=a.length/\az 0= .slice x a.length h1/\az 1= .slice y b.length l8/\az 13= .int .i64 a.length/\az 14= .int .i64 i/\az 5= .slice (some ⟨H.length,0,none⟩) a.length a.length/\∃(out:List Nat) (c:Nat),H1=H++[.own 95 false (out.map fun(x:Nat)=>Value.int .u32 (x:Int))]/\az 6= .int .u32 c/\c<=1/\out.length=a.length/\(∀x∈out,x<4294967296)/\val (a.take i)+4294967296^i*c=val (out.take i)+val (b.take i)) a.length ?_ ?_
  ·refine⟨0,by omega,by omega,by simp,by simp,by simp,by simp,by simp,List.replicate a.length 0,0,by simp,by simp,by omega,by simp,by simp,by simp[val]⟩
  ·rintro n az H1 ⟨i,rfl,ad,ch,cb,p9,hM,eA,out,c,rfl,gg,ag,e1,iD,ao⟩ dY iP
   simp[p9,hM]
   refine bG.cC (fun iT=>?_) (fun iT=>?_)
   ·simp[ch,cb,eA,gg,hM,-cw]
    obtain⟨gQ,i1,vw,yf,yi,jm,nn,ld,Jo,oa⟩:=bO.at (by omega)
    cases jm
    have wg:=mO nn [.own 95 false (out.map fun(x:Nat)=>Value.int .u32 (x:Int))]
    rw[cw,E9,cw]
    simp[ch,cb,eA,gg,hM,-cw]
    rw[cw]
    simp[ch,cb,eA,gg,hM,-cw]
    rw[cw]
    refine gP.cut (fun bQ aY=>H++[.own 95 false (out.map fun(x:Nat)=>Value.int .u32 (x:Int))]=aY/\bQ 0=az 0/\bQ 1=az 1/\bQ 5=az 5/\bQ 6=az 6/\bQ 7= .int .i64 i/\bQ 13=az 13/\bQ 14=az 14/\bQ 8= .int .u32 (b[i]?.getD 0:Nat)) ?_ ?_
    ·intro cT ee
     simp[cb]
     refine bG.cC (fun wG=>?_) (fun wG=>?_)
     ·obtain⟨kB,i2,BB,Bo,Bt,ia,qj,mu,nt,qp⟩:=bS.at (by omega)
      cases ia
      have rO:=mO qj [.own 95 false (out.map fun(x:Nat)=>Value.int .u32 (x:Int))]
      simp[cb]
      refine df.mk (by omega) ?_
      simp[cb,rO,mu,qp _ wG]
      exact ee _ _ ⟨rfl,by simp,by simp[cb],by simp,by simp,by simp,by simp,by simp,by simp⟩
     ·simp[cb]
      exact ee _ _ ⟨rfl,by simp,by simp[cb],by simp,by simp,by simp,by simp,by simp,by rw[List.getElem?_eq_none (by omega)];simp⟩
    ·rintro bQ aY ⟨rfl,f0,f1,f5,f6,f7,f21,f22,f8⟩
     simp[f0,f1,f5,f6,f7,f8,ch,cb,eA,gg]
     refine df.mk (by omega) ?_
     simp[f0,f1,f5,f6,f7,f8,ch,cb,eA,gg,wg,ld,oa _ iT]
     refine a7.mk (ER (bO.lt i) (bS.lt i) ag) ?_
     rintro v bZ ⟨rfl,s,d,rfl,an,aL,wV⟩
     simp[f0,f1,f5,f6,f7,f8,f22,ch,cb,eA,gg,hM]
     refine df.mk (by omega) ?_
     simp(disch:=omega)[f0,f1,f5,f6,f7,f8,f22,ch,cb,eA,gg,hM,cP]
     refine df.mk (by omega) ?_
     simp(disch:=omega)[f0,f1,f5,f6,f7,f8,f22,ch,cb,eA,gg,hM,cP]
     refine iP (a.length-(i+1)) _ _ (by omega) ⟨i+1,by omega,by omega,by simp[f0,ch],by simp[f1,cb],by simp[f21,p9],by simp,by simp[f5,eA],out.set i s,d,by simp[List.map_set],by simp,aL,by simp[e1],?_,?_⟩
     ·intro z aP
      rcases List.mem_or_eq_of_mem_set aP with aP | rfl
      ·exact iD z aP
      ·exact an
     ·rw[q9 _ _ _ (by omega),iu a,iu b,Nat.pow_succ]
      have:4294967296^i*(a[i]?.getD 0+4294967296*d)=4294967296^i*(s+b[i]?.getD 0+c):=by rw[wV]
      grind
   ·simp
    have:i=a.length:=by omega
    subst this
    refine a1 _ _ ⟨by simp[eA],out,c,rfl,e1,iD,?_⟩
    rw[List.take_length,List.take_of_length_le hle,<-e1,List.take_length]at ao
    rw[<-e1]
    exact ao
 ·rintro az H1 ⟨eA,out,c,rfl,e1,iD,ao⟩
  have Dk:=jC iD
  have ql:c=0:=by
   rcases Nat.eq_zero_or_pos c with h | h
   ·exact h
   ·have:4294967296^a.length*1<=4294967296^a.length*c:=Nat.mul_le_mul_left _ h
    rw[e1]at Dk
    omega
  subst ql
  rw[cw]
  simp[eA,-cw]
  have eb:=cO.fresh H 95 out a.length a.length (Nat.le_refl _) e1 iD false
  refine a7.mk (lp eb (by simp[e1];omega)) ?_
  rintro v H1 ⟨rfl,c2,dz,bc,dc,-⟩
  simp[bj]
  refine aG _ _ ⟨(Ext.refl H).snoc _ _ _,c2,dz,bc,?_⟩
  rw[dc,<-e1,List.take_length]
  omega
theorem Nb(l:List Nat)(i x:Nat)(ad:i<l.length):val (l.set i x)+4294967296^i*(l[i]?.getD 0)=val l+4294967296^i*x:=by
 induction l generalizing i with
 | nil=>simp at ad
 | cons y l aV=>
  cases i with
  | zero=>simp[val];omega
  | succ i=>
   simp only[List.set_cons_succ,val,List.getElem?_cons_succ,Nat.pow_succ]
   have:=aV i (by simpa using ad)
   grind
theorem Eg{p q:Nat}(aT:p<4294967296)(av:q<4294967296):IntKind.u64.wrap ((p:Int)*q)=((p*q:Nat):Int):=by
 have SD:p*q<=4294967295*4294967295:=Nat.mul_le_mul (by omega) (by omega)
 have o:(p:Int)*q=((p*q:Nat):Int):=by simp
 rw[o]
 exact fR (Int.natCast_nonneg _) (by omega)
theorem Ir{l:List Nat}{i j x:Nat}(h:i≠j):(l.set i x)[j]?.getD 0=l[j]?.getD 0:=by rw[List.getElem?_set_ne h]
theorem MB{v w:Value}{a b:List Nat}{H:ab}(bO:cO H 95 v a)(bS:cO H 95 w b)(jT:a.length<1048576)(jq:b.length<1048576):
  a0 prog 74 [v,w] H (fun au H1=>Ext H H1/\∃l,cO H1 95 au l/\Trim l/\val l=val a*val b):=by
 refine a0.cq fun Q aG=>?_
 apply Uw (by simp)
 obtain⟨x,h1,rfl⟩:=bO.len
 obtain⟨y,l8,rfl⟩:=bS.len
 by_cases oX:a.length+b.length=0
 ·have wi:a=[]:=List.eq_nil_of_length_eq_zero (by omega)
  have mq:b=[]:=List.eq_nil_of_length_eq_zero (by omega)
  subst wi mq
  simp only[Br]
  rw[cw]
  simp[-cw]
  rw[cw]
  simp(disch:=omega)[-cw,cP]
  refine AU (e:=95) (J:=1) (bs:=4) (eo:= .i64) (cB:= .i64) (by simp) (by simp) (by simp) (by simp) (by simp) ?_
  simp
  refine kv.mk (ak:=fun n az H1=>H=H1/\az 19= .int .i64 0/\az 20= .int .i64 0/\az 5= .slice (some ⟨0,0,none⟩) 0 0) 0 ⟨rfl,by simp,by simp,by simp⟩ ?_
  rintro n az H1 ⟨rfl,BY,BZ,eA⟩ K a1
  simp[BY,BZ,eA]
  refine a7.mk (lp (l:=[]) ⟨ec.void H _ _ _,by simp⟩ (by simp)) ?_
  rintro v H1 ⟨rfl,c2,dz,bc,dc,-⟩
  simp[bj]
  exact aG _ _ ⟨Ext.refl _,c2,dz,bc,by simpa[val]using dc⟩
 simp only[Br]
 rw[cw]
 simp[-cw]
 rw[cw]
 simp(disch:=omega)[cP,-cw]
 refine xT (e:=95) (J:=1) (bs:=4) (eo:= .i64) (cB:= .i64) (l:=a.length+b.length) (c:=a.length+b.length) (z:= .int .u32 0) (by simp) (by simp) (by simp) (by simp) (by rfl) (by rfl) (by simp) (by simp) (by omega) (by omega) (Nat.le_refl _) (by omega) (by omega) ?_
 simp[-cw,pB]
 rw[cw]
 refine gP.cut (fun az H1=>az 5= .slice (some ⟨H.length,0,none⟩) (a.length+b.length) (a.length+b.length)/\∃(out:List Nat),H1=H++[.own 95 false (out.map fun(x:Nat)=>Value.int .u32 (x:Int))]/\out.length=a.length+b.length/\(∀x∈out,x<4294967296)/\val out=val a*val b) ?_ ?_
 ·intro K a1
  simp(disch:=omega)[cP]
  refine kv.mk (ak:=fun n az H1=>∃i:Nat,n=a.length-i/\i<=a.length/\az 18= .slice x a.length h1/\az 1= .slice y b.length l8/\az 19= .int .i64 a.length/\az 20= .int .i64 i/\az 5= .slice (some ⟨H.length,0,none⟩) (a.length+b.length) (a.length+b.length)/\∃(out:List Nat),H1=H++[.own 95 false (out.map fun(x:Nat)=>Value.int .u32 (x:Int))]/\out.length=a.length+b.length/\(∀x∈out,x<4294967296)/\(∀k,i+b.length<=k->out[k]?.getD 0=0)/\val out=val (a.take i)*val b) a.length ?_ ?_
  ·refine⟨0,by omega,by omega,by simp,by simp,by simp,by simp,by simp,List.replicate (a.length+b.length) 0,by simp,by simp,by simp,?_,by simp[val,Fl]⟩
   intro k ai
   rw[List.getElem?_replicate]
   split<;>rfl
  ·rintro n az H1 ⟨i,rfl,ad,ch,cb,p9,hM,eA,out,rfl,e1,iD,aP,ao⟩ dY iP
   simp[p9,hM]
   refine bG.cC (fun iT=>?_) (fun iT=>?_)
   ·simp[ch,cb,eA,hM,-cw]
    obtain⟨gQ,i1,vw,yf,yi,jm,nn,ld,-,oa⟩:=bO.at (by omega)
    cases jm
    have wg:=mO nn [.own 95 false (out.map fun(x:Nat)=>Value.int .u32 (x:Int))]
    obtain⟨p,aT⟩:∃p,a[i]?.getD 0=p:=⟨_,rfl⟩
    have kh:p<4294967296:=aT▸bO.lt i
    have jn:=oa _ iT
    rw[aT]at jn
    rw[cw,E9,cw]
    simp[ch,cb,eA,hM,-cw]
    refine df.mk (by omega) ?_
    simp[ch,cb,eA,hM,-cw,wg,ld,jn]
    rw[cw]
    simp[-cw]
    rw[cw]
    refine gP.cut (fun bQ aY=>bQ 18=az 18/\bQ 1=az 1/\bQ 19=az 19/\bQ 20=az 20/\bQ 5=az 5/\bQ 6= .int .i64 i/\∃(gW:List Nat) (c:Nat),aY=H++[.own 95 false (gW.map fun(x:Nat)=>Value.int .u32 (x:Int))]/\bQ 8= .int .u64 c/\c<4294967296/\gW.length=a.length+b.length/\(∀x∈gW,x<4294967296)/\(∀k,i+b.length<=k->gW[k]?.getD 0=0)/\val gW+4294967296^(i+b.length)*c=val (a.take i)*val b+4294967296^i*(p*val b)) ?_ ?_
    ·intro cT ee
     rw[cw]
     simp[cb]
     refine kv.mk (ak:=fun n bQ aY=>∃j:Nat,n=b.length-j/\j<=b.length/\bQ 18=az 18/\bQ 1=az 1/\bQ 25=az 1/\bQ 26= .int .i64 b.length/\bQ 27= .int .i64 j/\bQ 7= .int .u32 p/\bQ 19=az 19/\bQ 20=az 20/\bQ 5=az 5/\bQ 6= .int .i64 i/\∃(gW:List Nat) (c:Nat),aY=H++[.own 95 false (gW.map fun(x:Nat)=>Value.int .u32 (x:Int))]/\bQ 8= .int .u64 c/\c<4294967296/\gW.length=a.length+b.length/\(∀x∈gW,x<4294967296)/\(∀k,i+b.length<=k->gW[k]?.getD 0=0)/\val gW+4294967296^(i+j)*c=val (a.take i)*val b+4294967296^i*(p*val (b.take j))) b.length ?_ ?_
     ·exact⟨0,by omega,by omega,by simp,by simp[cb],by simp[cb],by simp,by simp,by simp,by simp,by simp,by simp,by simp,out,0,by simp,by simp,by omega,e1,iD,aP,by simp[val,ao]⟩
     ·rintro n bQ aY ⟨j,rfl,aQ,f18,f1,f25,f26,f27,f7,f19,f20,f5,f6,gW,c,rfl,f8,ag,zv,wO,su,dc⟩ m4 fN
      simp[f26,f27]
      refine bG.cC (fun zn=>?_) (fun zn=>?_)
      ·obtain⟨kB,i2,BB,Bo,Bt,ia,qj,mu,-,qp⟩:=bS.at (by omega)
       cases ia
       have rO:=mO qj [.own 95 false (gW.map fun(x:Nat)=>Value.int .u32 (x:Int))]
       obtain⟨q,av⟩:∃q,b[j]?.getD 0=q:=⟨_,rfl⟩
       have r9:q<4294967296:=av▸bS.lt j
       have jo:=qp _ zn
       rw[av]at jo
       obtain⟨U,aK⟩:∃U,gW[i+j]?.getD 0=U:=⟨_,rfl⟩
       have aea:U<4294967296:=aK▸vG (by decide) wO _
       have Jv:gW[i+j]?=some U:=by rw[bx (by omega)]at aK⊢;simpa using aK
       have SD:p*q<=4294967295*4294967295:=Nat.mul_le_mul (by omega) (by omega)
       simp[f25,f27,cb]
       refine df.mk (by omega) ?_
       have t1:((i:Int)+j).toNat=i+j:=by omega
       obtain⟨m,hm⟩:∃m,p*q=m:=⟨_,rfl⟩
       have uS:IntKind.u64.wrap ((p:Int)*q)=(m:Int):=hm▸Eg kh r9
       obtain⟨s,an⟩:∃s,(m+U+c) % 4294967296=s:=⟨_,rfl⟩
       obtain⟨d,aL⟩:∃d,(m+U+c)/4294967296=d:=⟨_,rfl⟩
       have bL:IntKind.u32.wrap ((m:Int)+U+c)=(s:Int):=by rw[nM];omega
       have hH:((m:Int)+U+c)/4294967296=(d:Int):=by omega
       simp(disch:=first | omega | (simp<;>fail) | fail) [f5,f6,f7,f8,f25,f27,cb,eA,rO,mu,jo,cP,fR,uS,-getElem?_pos]
       refine df.mk (by omega) ?_
       simp(disch:=first | omega | (simp<;>fail) | fail) [f5,f6,f7,f8,f25,f27,cb,eA,rO,mu,jo,cP,fR,uS,t1,Jv,-getElem?_pos,bL,hH,ml]
       refine df.mk (by omega) ?_
       simp(disch:=first | omega | (simp<;>fail) | fail) [f5,f6,f7,f8,f25,f27,cb,eA,rO,mu,jo,cP,fR,uS,t1,Jv,-getElem?_pos,bL,hH,ml]
       refine df.mk (by omega) ?_
       simp(disch:=first | omega | (simp<;>fail) | fail) [f27,cP]
       refine fN (b.length-(j+1)) _ _ (by omega) ⟨j+1,by omega,by omega,by simp[f18],by simp[f1],by simp[f25],by simp[f26],by simp,by simp[f7],by simp[f19],by simp[f20],by simp[f5],by simp[f6],gW.set (i+j) s,d,by simp[List.map_set],by simp,by omega,by simp[zv],?_,?_,?_⟩
       ·intro z aP
        rcases List.mem_or_eq_of_mem_set aP with aP | rfl
        ·exact wO z aP
        ·omega
       ·intro k ai
        rw[Ir (by omega)]
        exact su k ai
       ·have o:=Nb gW (i+j) s (by omega)
        rw[aK]at o
        rw[iu b,av,show i+(j+1)=i+j+1 from rfl,Nat.pow_succ]
        have aa:s+4294967296*d=p*q+U+c:=by omega
        have aD:4294967296^(i+j)*(s+4294967296*d)=4294967296^(i+j)*(p*q+U+c):=by rw[aa]
        rw[Nat.pow_add]at*
        grind
      ·simp
       have:j=b.length:=by omega
       subst this
       exact ee _ _ ⟨by simp[f18],by simp[f1],by simp[f19],by simp[f20],by simp[f5],by simp[f6],gW,c,rfl,by simp[f8],ag,zv,wO,su,by rw[dc,List.take_length]⟩
    ·rintro bQ aY ⟨f18,f1,f19,f20,f5,f6,gW,c,rfl,f8,ag,zv,wO,su,dc⟩
     have uS:IntKind.u32.wrap (c:Int)=(c:Int):=lu (by omega) (by omega)
     have t1:((i:Int)+b.length).toNat=i+b.length:=by omega
     simp(disch:=first | omega | (simp<;>fail) | fail) [f18,f1,f19,f20,f5,f6,f8,ch,cb,eA,hM,cP,uS]
     refine df.mk (by omega) ?_
     simp(disch:=first | omega | (simp<;>fail) | fail) [f18,f1,f19,f20,f5,f6,f8,ch,cb,eA,hM,cP,uS,t1]
     refine df.mk (by omega) ?_
     simp(disch:=first | omega | (simp<;>fail) | fail) [f20,hM,cP]
     refine iP (a.length-(i+1)) _ _ (by omega) ⟨i+1,by omega,by omega,by simp[f18,ch],by simp[f1,cb],by simp[f19,p9],by simp,by simp[f5,eA],gW.set (i+b.length) c,by simp[List.map_set],by simp[zv],?_,?_,?_⟩
     ·intro z aP
      rcases List.mem_or_eq_of_mem_set aP with aP | rfl
      ·exact wO z aP
      ·omega
     ·intro k ai
      rw[Ir (by omega)]
      exact su k (by omega)
     ·have o:=Nb gW (i+b.length) c (by omega)
      rw[su _ (Nat.le_refl _)]at o
      rw[iu a,aT,Nat.add_mul]
      grind
   ·simp
    have:i=a.length:=by omega
    subst this
    exact a1 _ _ ⟨by simp[eA],out,rfl,e1,iD,by rw[ao,List.take_length]⟩
 ·rintro az H1 ⟨eA,out,rfl,e1,iD,ao⟩
  rw[cw]
  simp[eA,-cw]
  have eb:=cO.fresh H 95 out (a.length+b.length) (a.length+b.length) (Nat.le_refl _) e1 iD false
  refine a7.mk (lp eb (by simp[e1];omega)) ?_
  rintro v H1 ⟨rfl,c2,dz,bc,dc,-⟩
  simp[bj]
  refine aG _ _ ⟨(Ext.refl H).snoc _ _ _,c2,dz,bc,?_⟩
  rw[dc,<-e1,List.take_length,ao]
@[simp] theorem aci(H N:ab):(H++N)[H.length]?=N[0]?:=by rw[List.getElem?_append_right (Nat.le_refl _),Nat.sub_self]
@[simp] theorem acD(b:Bool):(Value.bool b).cells= #[.bool b]:=rfl
@[simp] theorem acH(a:Option Addr)(n c:Nat):(Value.slice a n c).cells= #[.slice a n c]:=rfl
@[simp] theorem acC(cs:Array Value):(Value.agg cs).cells=cs:=rfl
@[simp] theorem acI(s:ByteArray):(Value.string s).cells= #[.string s]:=rfl
@[simp] theorem aey(b:Bool):(Value.bool b).oneCell'=true:=rfl
@[simp] theorem aeA(a:Option Addr)(n c:Nat):(Value.slice a n c).oneCell'=true:=rfl
@[simp] theorem aeB(s:ByteArray):(Value.string s).oneCell'=true:=rfl
@[simp] theorem agA(cs:List Value)(i:Nat):lr cs i []=c3 cs i []:=rfl
@[simp] theorem agC(cs:List Value)(i:Nat)(v w:Value)(aA:List Value):lr cs i (v::w::aA)=c3 cs i (v::w::aA):=rfl
theorem Ext.more(H:ab){N:ab}(h:∀x∈N,∀e cs,x≠ .ro e cs):Ext H (H++N):=⟨N,rfl,h⟩
theorem ec.set{H:ab}{e J n b:Nat}{v:Value}{cs:List Value}{X Y:bA}(h:ec H e J v n cs)(ae:H[b]?=some Y)(he:Y.elem?≠some e):ec (H.set b X) e J v n cs:=by
 obtain⟨a,cap,ao,o,aa,aD⟩:=h
 refine⟨a,cap,ao,o,aa,fun ag=>?_⟩
 obtain⟨ca,i,NN,all,aS,aM,bh,b0,ey⟩:=aD ag
 refine⟨ca,i,NN,all,aS,?_,bh,b0,ey⟩
 have:b≠ca:=fun cI=>by
  subst cI
  rw[ae]at aM
  exact he (Option.some.inj aM▸b0)
 rw[List.getElem?_set_ne this]
 exact aM
theorem cO.set{H:ab}{e b:Nat}{v:Value}{l:List Nat}{X Y:bA}(h:cO H e v l)(ae:H[b]?=some Y)(he:Y.elem?≠some e):cO (H.set b X) e v l:=⟨h.1.set ae he,h.2⟩
theorem sw{neg:Bool}{a:Option Addr}{n c:Nat}{H:ab}:a0 prog 54 [.bool neg,.slice a n c] H (fun v H1=>Ext H H1/\v= .agg #[.bool (neg&&decide (0<n)),.slice a n c]):=by
 refine a0.cq fun Q aG=>?_
 apply Uq (by simp)
 simp[Gd]
 cases neg<;>simp[c3,bj]
 ·exact aG _ _ ⟨Ext.more H (by simp),by simp⟩
 ·exact aG _ _ ⟨Ext.more H (by simp),by simp⟩
def c5(H:ab)(v:Value)(z:Int):Prop:=∃(a:Option Addr) (c:Nat) (l:List Nat),v= .agg #[.bool (decide (z<0)),.slice a l.length c]/\cO H 95 (.slice a l.length c) l/\Trim l/\val l=z.natAbs
theorem c5.ext{H H1:ab}{v:Value}{z:Int}(h:c5 H v z)(I:Ext H H1):c5 H1 v z:=by
 obtain⟨a,c,l,o,aa,aD⟩:=h
 exact⟨a,c,l,o,aa.ext I,aD⟩
theorem Trim.pos{l:List Nat}(h:Trim l):0<l.length↔0<val l:=by
 have:=h.zero
 constructor
 ·intro o
  rcases Nat.eq_zero_or_pos (val l)with aa | aa
  ·rw[this.1 aa]at o;simp at o
  ·exact aa
 ·intro o
  rcases Nat.eq_zero_or_pos l.length with aa | aa
  ·rw[List.eq_nil_of_length_eq_zero aa]at o;simp[val]at o
  ·exact aa
theorem c5.mk'{H:ab}{v:Value}{neg:Bool}{l:List Nat}{a:Option Addr}{c:Nat}(ao:v= .agg #[.bool (neg&&decide (0<l.length)),.slice a l.length c])(eb:cO H 95 (.slice a l.length c) l)(bc:Trim l):c5 H v (if neg=true then-(val l:Int)else val l):=by
 refine⟨a,c,l,?_,eb,bc,by cases neg<;>simp⟩
 rw[ao]
 have:=bc.pos
 cases neg
 ·have e:decide ((if false=true then-(val l:Int)else(val l:Int))<0)=false:=by simp
  rw[e];simp
 ·have e:decide ((if true=true then-(val l:Int)else(val l:Int))<0)=decide (0<l.length):=by
   simp only[if_true]
   by_cases h:0<l.length
   ·have:=this.1 h
    simp[h];omega
   ·have aa:¬0<val l:=fun aa=>h (this.2 aa)
    simp[h];omega
  rw[e];simp
theorem uz{n:Int}{H:ab}(o: -9223372036854775808<=n)(aa:n<9223372036854775808):a0 prog 32 [.int .i64 n] H (fun v H1=>Ext H H1/\c5 H1 v n):=by
 refine a0.cq fun Q aG=>?_
 apply Ua (by simp)
 simp only[F8]
 rw[cw]
 simp[-cw]
 rw[cw]
 simp[-cw]
 rw[cw]
 refine gP.cut (fun az H1=>H1=H++[.own 42 false [.bool false,.slice none 0 0]]/\az 0= .int .i64 n/\az 2= .pointer (some ⟨H.length,0,none⟩)/\az 3= .int .u64 n.natAbs) ?_ ?_
 ·intro K a1
  simp
  refine bG.cC (fun h=>?_) (fun h=>?_)
  ·simp
   refine a1 _ _ ⟨rfl,by simp,by simp,?_⟩
   simp[Nk]
   omega
  ·simp
   refine a1 _ _ ⟨rfl,by simp,by simp,?_⟩
   simp[Nk]
   omega
 ·rintro F H1 ⟨rfl,f0,f2,f3⟩
  have ae:n.natAbs<18446744073709551616:=by omega
  obtain⟨m,hm⟩:∃m,n.natAbs=m:=⟨_,rfl⟩
  rw[hm]at f3 ae
  obtain⟨bX,ie⟩:∃bX,m % 4294967296=bX:=⟨_,rfl⟩
  obtain⟨ad,ib⟩:∃ad,m/4294967296=ad:=⟨_,rfl⟩
  have bp:IntKind.u32.wrap (m:Int)=(bX:Int):=by rw[nM];omega
  have bo:IntKind.u32.wrap ((m:Int)/4294967296)=(ad:Int):=by rw[nM];omega
  rw[cw]
  simp(disch:=first | omega | (simp<;>fail) | fail) [f0,f2,f3,bp,bo,ml,-cw]
  refine sH (e:=95) (J:=1) (z:= .int .u32 0) (out:=[.int .u32 bX,.int .u32 ad]) (by simp) (by simp) (by simp) (by rfl) (by rfl) (by omega) (by omega) (by omega) ?_ (by simp) ?_
  ·simp[iy,pB]
  simp[-cw]
  have eb:=cO.fresh (H++[.own 42 false [.bool false,.slice none 0 0]]) 95 [bX,ad] 2 2 (by omega) (by simp) (by simp;omega) false
  simp at eb
  refine a7.mk (lp eb (by simp)) ?_
  rintro v H1 ⟨rfl,l,ar,bc,ao,hlen⟩
  obtain⟨a,c,rfl⟩:=ar.len
  simp[f0,f2,-cw]
  refine a7.mk sw ?_
  rintro v H1 ⟨I,rfl⟩
  have ch:H1[H.length]?=some (.own 42 false [.bool false,.slice none 0 0]):=I.get_some (by simp)
  have a3:H.length<H1.length:=(cd.1 ch).1
  have ck:Ext H H1:=(Ext.more H (by simp)).aB I
  simp[f2,ch,List.getElem?_set_self a3,c3,bj,-getElem?_pos]
  refine aG _ _ ⟨ck.set (Nat.le_refl _) (by simp),?_⟩
  have gV:val l=n.natAbs:=by
   rw[ao]
   simp[val]
   omega
  have wb:cO (H1.set H.length (.own 42 false [.bool (decide (n<0)&&decide (0<l.length)),.slice a l.length c])) 95 (.slice a l.length c) l:=(ar.ext I).set ch (by simp[bA.elem?])
  have pe:=c5.mk' (neg:=decide (n<0)) rfl wb bc
  rw[gV]at pe
  have aP:(if decide (n<0)=true then-((n.natAbs:Nat):Int)else(n.natAbs:Int))=n:=by
   simp only[decide_eq_true_eq]
   split<;>omega
  rwa[aP]at pe
def Fits(z:Int):Prop:=z.natAbs<4294967296^1000000
theorem Fits.length{z:Int}(h:Fits z){l:List Nat}(bc:Trim l)(ao:val l=z.natAbs):l.length<=1000000:=bc.length_le (by rw[ao];exact h)
theorem sA(a n m:Nat)(aF:0<a)(h:n<=m):a^n<=a^m:=Nat.pow_le_pow_right aF h
theorem Ev(a b n:Nat)(h:a<=b):a^n<=b^n:=Nat.pow_le_pow_left h n
theorem LQ(a n m k:Nat)(h:n*m=k):a^k=(a^n)^m:=by rw[<-h,Nat.pow_mul]
theorem WC(k:Nat):(4294967296:Nat)^k=2^(32*k):=by rw[Nat.pow_mul]
theorem Wz{v N:Nat}(M:Nat)(h:v<2^N)(cj:N<=32*M):v<4294967296^M:=by
 rw[WC];exact Nat.lt_of_lt_of_le h (Nat.pow_le_pow_right (by decide) cj)
theorem WD{v n:Nat}(m:Nat)(h:v<4294967296^n)(aE:n<=m):v<10^(10*m):=by
 rw[Nat.pow_mul];exact Nat.lt_of_lt_of_le h (Nat.le_trans (Nat.pow_le_pow_right (by decide) aE) (Nat.pow_le_pow_left (by decide) m))
theorem WA(a n b dF m k ll:Nat)(h:n*m=k)(aa:dF*m=ll)(hle:a^n<=b^dF):a^k<=b^ll:=by
 rw[<-h,<-aa,Nat.pow_mul,Nat.pow_mul];exact Nat.pow_le_pow_left hle m
theorem WB{v e n:Nat}(m:Nat)(h:v<10^n)(he:e<=10^9)(aE:n+9<m):v*e<4294967296^m:=by
 refine Nat.lt_of_le_of_lt (Nat.mul_le_mul (Nat.le_of_lt h) he) (Nat.lt_of_lt_of_le ?_ (Nat.pow_le_pow_left (show 10<=4294967296 by decide) m))
 rw[<-Nat.pow_add];exact Nat.pow_lt_pow_right (by decide) aE
theorem Ew(n:Nat)(h:n≠0):1<2^n:=Nat.one_lt_two_pow h
theorem Fits.small{z:Int}(h:z.natAbs<4294967296^8):Fits z:=Nat.lt_of_lt_of_le h (sA 4294967296 8 1000000 (by decide) (by decide))
theorem Fits.neg{z:Int}(h:Fits z):Fits (-z):=by unfold Fits at*;rwa[Int.natAbs_neg]
theorem Ab{v:Value}{a:Int}{H:ab}(bO:c5 H v a):a0 prog 81 [v] H (fun v H1=>Ext H H1/\c5 H1 v (-a)):=by
 refine a0.cq fun Q aG=>?_
 apply T6 (by simp)
 obtain⟨x,h1,l,rfl,eb,bc,ao⟩:=bO
 simp[F5]
 refine a7.mk sw ?_
 rintro v H1 ⟨I,rfl⟩
 have ch:H1[H.length+1]?=some (.own 42 false [.bool false,.slice none 0 0]):=I.get_some (by simp)
 have a3:H.length+1<H1.length:=(cd.1 ch).1
 have ck:Ext H H1:=(Ext.more H (by simp)).aB I
 simp[ch,List.getElem?_set_self a3,c3,bj,-getElem?_pos]
 refine aG _ _ ⟨ck.set (by omega) (by simp),?_⟩
 have pe:=c5.mk' (neg:= !decide (a<0)) rfl ((eb.ext ck).set (X:= .own 42 false [.bool (!decide (a<0)&&decide (0<l.length)),.slice x l.length h1]) ch (by simp[bA.elem?])) bc
 rw[ao]at pe
 have aP:(if(!decide (a<0))=true then-((a.natAbs:Nat):Int)else(a.natAbs:Int))= -a:=by
  simp
  split<;>omega
 rw[aP]at pe
 exact pe
theorem Mi{v:Value}{a:Int}{H:ab}(bO:c5 H v a):a0 prog 65 [v] H (fun v H1=>Ext H H1/\v= .int .i64 (if a<0 then-1 else if a=0 then 0 else 1)):=by
 refine a0.cq fun Q aG=>?_
 apply T8 (by simp)
 obtain⟨x,h1,l,rfl,eb,bc,ao⟩:=bO
 have aT:=bc.pos
 simp[F6]
 refine bG.cC (fun h=>?_) (fun h=>?_)
 ·simp[bj]
  refine aG _ _ ⟨Ext.more H (by simp),?_⟩
  have:a=0:=by
   rw[h]at ao
   simp[val]at ao
   omega
  simp[this]
 ·simp
  have aH:a≠0:=fun aH=>by
   have:0<l.length:=List.length_pos_iff.2 h
   rw[aH]at ao
   omega
  refine bG.cC (fun o=>?_) (fun o=>?_)
  ·simp[bj]
   exact aG _ _ ⟨Ext.more H (by simp),by simp[o]⟩
  ·simp[bj]
   exact aG _ _ ⟨Ext.more H (by simp),by simp[o,aH]⟩
theorem yh{v w:Value}{a b:Int}{H:ab}(bO:c5 H v a)(bS:c5 H w b)(bk:Fits a)(jJ:Fits b):a0 prog 68 [v,w] H (fun v H1=>Ext H H1/\c5 H1 v (a+b)):=by
 refine a0.cq fun Q aG=>?_
 apply T2 (by simp)
 obtain⟨x,h1,dR,rfl,eb,bc,ao⟩:=bO
 obtain⟨y,l8,fG,rfl,k9,v3,dc⟩:=bS
 have jT:=bk.length bc ao
 have jq:=jJ.length v3 dc
 have bP:Ext H (H++[.own 42 false [.bool (decide (a<0)),.slice x dR.length h1],.own 42 false [.bool (decide (b<0)),.slice y fG.length l8],.own 42 false [.bool false,.slice none 0 0]]):=Ext.more H (by simp)
 have fin:∀(neg:Bool) (H1 aY:ab) (l:List Nat) (m:Option Addr) (lZ:Nat),Ext (H++[.own 42 false [.bool (decide (a<0)),.slice x dR.length h1],.own 42 false [.bool (decide (b<0)),.slice y fG.length l8],.own 42 false [.bool false,.slice none 0 0]]) H1->cO H1 95 (.slice m l.length lZ) l->Trim l->
   (if neg=true then-(val l:Int)else val l)=a+b->Ext H1 aY->aY[H.length+2]?=some (.own 42 false [.bool false,.slice none 0 0])/\Q (.agg #[.bool (neg&&decide (0<l.length)),.slice m l.length lZ]) (aY.set (H.length+2) (.own 42 false [.bool (neg&&decide (0<l.length)),.slice m l.length lZ]))/\H.length+2<aY.length:=by
  intro neg H1 aY l m lZ o aa aD bD b2
  have ch:aY[H.length+2]?=some (.own 42 false [.bool false,.slice none 0 0]):=(o.aB b2).get_some (by simp)
  refine⟨ch,aG _ _ ⟨(bP.aB (o.aB b2)).set (by omega) (by simp),?_⟩,(cd.1 ch).1⟩
  have:=c5.mk' (neg:=neg) rfl ((aa.ext b2).set (X:= .own 42 false [.bool (neg&&decide (0<l.length)),.slice m l.length lZ]) ch (by simp[bA.elem?])) aD
  rwa[bD]at this
 simp[F2]
 refine bG.cC (fun h=>?_) (fun h=>?_)
 ·simp
  refine a7.mk (LJ (eb.ext bP) (k9.ext bP) (by omega) (by omega)) ?_
  rintro v H1 ⟨I,l,ar,iQ,oi⟩
  refine⟨I,?_⟩
  obtain⟨m,lZ,rfl⟩:=ar.len
  simp
  refine a7.mk sw ?_
  rintro v aY ⟨bu,rfl⟩
  obtain⟨ch,cb,iO⟩:=fin (decide (a<0)) H1 aY l m lZ I ar iQ (by
   have b7:a<0↔b<0:=by simpa using h
   rw[oi,ao,dc];simp;split<;>omega) bu
  simp[ch,List.getElem?_set_self iO,c3,bj,-getElem?_pos]
  exact cb
 ·simp
  refine a7.mk (BE (eb.ext bP) (k9.ext bP) bc v3 (by omega) (by omega)) ?_
  rintro v H1 ⟨rfl,rfl⟩
  simp
  refine bG.cC (fun o=>?_) (fun o=>?_)
  ·have jR:val fG<=val dR:=by
    rcases Nat.lt_or_ge (val dR) (val fG)with aa | aa
    ·rw[if_pos aa]at o;omega
    ·exact aa
   simp
   refine a7.mk (Lf (eb.ext bP) (k9.ext bP) (by omega) ?_ jR) ?_
   ·rcases Nat.lt_or_ge dR.length fG.length with aa | aa
    ·have:=v3.uu eb.2 aa
     omega
    ·exact aa
   rintro v H1 ⟨I,l,ar,iQ,oi⟩
   refine⟨I,?_⟩
   obtain⟨m,lZ,rfl⟩:=ar.len
   simp
   refine a7.mk sw ?_
   rintro v aY ⟨bu,rfl⟩
   obtain⟨ch,cb,iO⟩:=fin (decide (a<0)) H1 aY l m lZ I ar iQ (by
    have b7:¬(a<0↔b<0):=by simpa using h
    rw[oi,ao,dc,Int.ofNat_sub (by omega)];simp;split<;>omega) bu
   simp[ch,List.getElem?_set_self iO,c3,bj,-getElem?_pos]
   exact cb
  ·have jR:val dR<=val fG:=by
    rcases Nat.lt_or_ge (val dR) (val fG)with aa | aa
    ·omega
    ·rw[if_neg (by omega)]at o
     split at o<;>omega
   simp
   refine a7.mk (Lf (k9.ext bP) (eb.ext bP) (by omega) ?_ jR) ?_
   ·rcases Nat.lt_or_ge fG.length dR.length with aa | aa
    ·have:=bc.uu k9.2 aa
     omega
    ·exact aa
   rintro v H1 ⟨I,l,ar,iQ,oi⟩
   refine⟨I,?_⟩
   obtain⟨m,lZ,rfl⟩:=ar.len
   simp
   refine a7.mk sw ?_
   rintro v aY ⟨bu,rfl⟩
   obtain⟨ch,cb,iO⟩:=fin (decide (b<0)) H1 aY l m lZ I ar iQ (by
    have b7:¬(a<0↔b<0):=by simpa using h
    rw[oi,ao,dc,Int.ofNat_sub (by omega)];simp;split<;>omega) bu
   simp[ch,List.getElem?_set_self iO,c3,bj,-getElem?_pos]
   exact cb
attribute [simp] List.getElem?_cons_zero List.getElem?_cons_succ
theorem c5.set{H:ab}{v:Value}{z:Int}{b:Nat}{X Y:bA}(h:c5 H v z)(ae:H[b]?=some Y)(he:Y.elem?≠some 95):c5 (H.set b X) v z:=by
 obtain⟨a,c,l,o,aa,aD⟩:=h
 exact⟨a,c,l,o,aa.set ae he,aD⟩
theorem c5.shape{H:ab}{v:Value}{z:Int}(h:c5 H v z):∃s a n c,v= .agg #[.bool s,.slice a n c]:=by
 obtain⟨a,c,l,o,-⟩:=h
 exact⟨_,_,_,_,o⟩
theorem Mr{v w:Value}{a b:Int}{H:ab}(bO:c5 H v a)(bS:c5 H w b)(bk:Fits a)(jJ:Fits b):a0 prog 75 [v,w] H (fun v H1=>Ext H H1/\c5 H1 v (a-b)):=by
 refine a0.cq fun Q aG=>?_
 apply T_ (by simp)
 obtain⟨s1,b1,dx,cG,rfl⟩:=bO.shape
 obtain⟨s2,ds,dF,dh,rfl⟩:=bS.shape
 have bP:Ext H (H++[.own 42 false [.bool s1,.slice b1 dx cG],.own 42 false [.bool s2,.slice ds dF dh],.own 42 false [.bool false,.slice none 0 0]]):=Ext.more H (by simp)
 simp[F7]
 refine a7.mk (Ab (bS.ext bP)) ?_
 rintro v H1 ⟨I,ao⟩
 refine⟨I,?_⟩
 simp
 refine a7.mk (yh (bO.ext (bP.aB I)) ao bk jJ.neg) ?_
 rintro v aY ⟨bu,jX⟩
 have ch:aY[H.length+2]?=some (.own 42 false [.bool false,.slice none 0 0]):=(I.aB bu).get_some (by simp)
 have a3:=(cd.1 ch).1
 obtain⟨q0,fj,jA,fk,rfl⟩:=jX.shape
 simp[ch,List.getElem?_set_self a3,c3,bj,-getElem?_pos]
 exact aG _ _ ⟨(bP.aB (I.aB bu)).set (by omega) (by simp),jX.set ch (by simp[bA.elem?])⟩
theorem xv{v w:Value}{a b:Int}{H:ab}(bO:c5 H v a)(bS:c5 H w b)(bk:Fits a)(jJ:Fits b):a0 prog 52 [v,w] H (fun v H1=>Ext H H1/\c5 H1 v (a*b)):=by
 refine a0.cq fun Q aG=>?_
 apply T5 (by simp)
 obtain⟨x,h1,dR,rfl,eb,bc,ao⟩:=bO
 obtain⟨y,l8,fG,rfl,k9,v3,dc⟩:=bS
 have jT:=bk.length bc ao
 have jq:=jJ.length v3 dc
 have bP:Ext H (H++[.own 42 false [.bool (decide (a<0)),.slice x dR.length h1],.own 42 false [.bool (decide (b<0)),.slice y fG.length l8],.own 42 false [.bool false,.slice none 0 0]]):=Ext.more H (by simp)
 simp[F4]
 refine a7.mk (MB (eb.ext bP) (k9.ext bP) (by omega) (by omega)) ?_
 rintro v H1 ⟨I,l,ar,iQ,oi⟩
 refine⟨I,?_⟩
 obtain⟨m,lZ,rfl⟩:=ar.len
 simp
 refine a7.mk sw ?_
 rintro v aY ⟨bu,rfl⟩
 have ch:aY[H.length+2]?=some (.own 42 false [.bool false,.slice none 0 0]):=(I.aB bu).get_some (by simp)
 have a3:=(cd.1 ch).1
 have pe:=c5.mk' rfl (ar.ext bu) iQ (neg:= !(decide (a<0)==decide (b<0)))
 have aP:(if(!(decide (a<0)==decide (b<0)))=true then-(val l:Int)else(val l:Int))=a*b:=by
  rw[oi,ao,dc]
  rcases Int.natAbs_eq a with aF | aF<;>rcases Int.natAbs_eq b with ae | ae<;>generalize a.natAbs=p at* <;>generalize b.natAbs=q at* <;>subst aF ae<;>by_cases aT:p=0<;>by_cases av:q=0<;>simp[aT,av,Int.mul_neg,Int.neg_mul]<;>omega
 rw[aP]at pe
 obtain⟨oR,o4⟩:∃oR,(!(decide (a<0)==decide (b<0))&&decide (0<l.length))=oR:=⟨_,rfl⟩
 simp[ch,List.getElem?_set_self a3,c3,bj,-getElem?_pos]
 refine aG _ _ ⟨(bP.aB (I.aB bu)).set (by omega) (by simp),?_⟩
 have:=pe.set (X:= .own 42 false [.bool (!(decide (a<0)==decide (b<0))&&decide (0<l.length)),.slice m l.length lZ]) ch (by simp[bA.elem?])
 simpa using this
theorem D0{v w:Value}{a b:Int}{H:ab}(bO:c5 H v a)(bS:c5 H w b)(bk:Fits a)(jJ:Fits b):a0 prog 53 [v,w] H (fun v H1=>Ext H H1/\v= .int .i64 (if a<b then-1 else if a=b then 0 else 1)):=by
 refine a0.cq fun Q aG=>?_
 apply T3 (by simp)
 obtain⟨s1,b1,dx,cG,rfl⟩:=bO.shape
 obtain⟨s2,ds,dF,dh,rfl⟩:=bS.shape
 have bP:Ext H (H++[.own 42 false [.bool s1,.slice b1 dx cG],.own 42 false [.bool s2,.slice ds dF dh]]):=Ext.more H (by simp)
 simp[F3]
 refine a7.mk (Mr (bO.ext bP) (bS.ext bP) bk jJ) ?_
 rintro v H1 ⟨I,ao⟩
 simp
 refine a7.mk (Mi ao) ?_
 rintro v aY ⟨bu,rfl⟩
 simp[bj]
 refine aG _ _ ⟨bP.aB (I.aB bu),?_⟩
 congr 1
 split<;>split<;>omega
def e_(H:ab)(v:Value)(n d:Int):Prop:=∃g7 kO gQ hY,v= .agg #[g7,kO,gQ,hY]/\c5 H (.agg #[g7,kO]) n/\c5 H (.agg #[gQ,hY]) d
theorem e_.ext{H H1:ab}{v:Value}{n d:Int}(h:e_ H v n d)(I:Ext H H1):e_ H1 v n d:=by
 obtain⟨g7,kO,gQ,hY,o,aa,aD⟩:=h
 exact⟨g7,kO,gQ,hY,o,aa.ext I,aD.ext I⟩
theorem e_.set{H:ab}{v:Value}{n d:Int}{b:Nat}{X Y:bA}(h:e_ H v n d)(ae:H[b]?=some Y)(he:Y.elem?≠some 95):e_ (H.set b X) v n d:=by
 obtain⟨g7,kO,gQ,hY,o,aa,aD⟩:=h
 exact⟨g7,kO,gQ,hY,o,aa.set ae he,aD.set ae he⟩
theorem e_.shape{H:ab}{v:Value}{n d:Int}(h:e_ H v n d):∃s1 b1 dx cG s2 ds dF dh,v= .agg #[.bool s1,.slice b1 dx cG,.bool s2,.slice ds dF dh]/\c5 H (.agg #[.bool s1,.slice b1 dx cG]) n/\c5 H (.agg #[.bool s2,.slice ds dF dh]) d:=by
 obtain⟨g7,kO,gQ,hY,o,aa,aD⟩:=h
 obtain⟨s1,b1,dx,cG,bp⟩:=aa.shape
 obtain⟨s2,ds,dF,dh,bo⟩:=aD.shape
 simp at bp bo
 obtain⟨rfl,rfl⟩:=bp
 obtain⟨rfl,rfl⟩:=bo
 exact⟨s1,b1,dx,cG,s2,ds,dF,dh,o,aa,aD⟩
theorem PA{v:Value}{a:Int}{H:ab}(bO:c5 H v a):a0 prog 67 [v] H (fun v H1=>Ext H H1/\e_ H1 v a 1):=by
 refine a0.cq fun Q aG=>?_
 apply T1 (by simp)
 obtain⟨s1,b1,dx,cG,rfl⟩:=bO.shape
 have bP:Ext H (H++[.own 42 false [.bool s1,.slice b1 dx cG],.own 44 false [.bool false,.slice none 0 0,.bool false,.slice none 0 0]]):=Ext.more H (by simp)
 simp[F1]
 refine a7.mk (uz (by omega) (by omega)) ?_
 rintro v H1 ⟨I,ao⟩
 refine⟨I,?_⟩
 obtain⟨q0,fj,jA,fk,rfl⟩:=ao.shape
 have ch:H1[H.length+1]?=some (.own 44 false [.bool false,.slice none 0 0,.bool false,.slice none 0 0]):=I.get_some (by simp)
 have a3:=(cd.1 ch).1
 simp[ch,List.getElem?_set_self a3,c3,bj,-getElem?_pos]
 refine aG _ _ ⟨(bP.aB I).set (by omega) (by simp),?_⟩
 exact e_.set ⟨_,_,_,_,rfl,bO.ext (bP.aB I),ao⟩ ch (by simp[bA.elem?])
theorem aak{n:Int}{H:ab}(o: -9223372036854775808<=n)(aa:n<9223372036854775808):a0 prog 14 [.int .i64 n] H (fun v H1=>Ext H H1/\e_ H1 v n 1):=by
 refine a0.cq fun Q aG=>?_
 apply Ul (by simp)
 have bP:Ext H (H++[.own 44 false [.bool false,.slice none 0 0,.bool false,.slice none 0 0]]):=Ext.more H (by simp)
 simp[Gb]
 refine a7.mk (uz o aa) ?_
 rintro v H1 ⟨I,ao⟩
 simp
 refine a7.mk (uz (by omega) (by omega)) ?_
 rintro v aY ⟨bu,jX⟩
 obtain⟨s1,b1,dx,cG,rfl⟩:=ao.shape
 obtain⟨q0,fj,jA,fk,rfl⟩:=jX.shape
 have ch:aY[H.length]?=some (.own 44 false [.bool false,.slice none 0 0,.bool false,.slice none 0 0]):=(I.aB bu).get_some (by simp)
 have a3:=(cd.1 ch).1
 simp[ch,List.getElem?_set_self a3,c3,bj,-getElem?_pos]
 refine aG _ _ ⟨(bP.aB (I.aB bu)).set (by omega) (by simp),?_⟩
 exact e_.set ⟨_,_,_,_,rfl,ao.ext bu,jX⟩ ch (by simp[bA.elem?])
theorem D3{v:Value}{n d:Int}{H:ab}(bO:e_ H v n d)(aL:0<d):a0 prog 34 [v] H (fun v H1=>Ext H H1/\v= .bool (decide (d=1))):=by
 refine a0.cq fun Q aG=>?_
 apply Ue (by simp)
 obtain⟨s1,b1,dx,cG,s2,ds,dF,dh,rfl,cj,ho⟩:=bO.shape
 obtain⟨x,h1,l,he,eb,bc,ao⟩:=ho
 simp at he
 obtain⟨rfl,rfl,rfl,rfl⟩:=he
 simp[F9]
 refine bG.cC (fun h=>?_) (fun h=>?_)
 ·obtain⟨b,i,cap,X,all,he,aR,ag,-,lg⟩:=eb.at (by omega)
  cases he
  have CG:=mO aR [.own 44 false [.bool s1,.slice b1 dx cG,.bool (decide (d<0)),.slice (some ⟨b,i,none⟩) l.length dh]]
  obtain⟨y,rfl⟩:=List.length_eq_one_iff.1 (show l.length=1 by omega)
  have aJ:=lg 0 (by simp)
  simp at aJ
  simp[val]at ao
  simp[mO aR,ag,aJ,bj,-getElem?_pos]
  refine aG _ _ ⟨Ext.more H (by simp),?_⟩
  congr 1
  simp
  omega
 ·simp[h,bj]
  refine aG _ _ ⟨Ext.more H (by simp),?_⟩
  have:d≠1:=fun e=>by
   subst e
   have o:=bc.length_le (n:=1) (by rw[ao];decide)
   have:=bc.pos
   omega
  simp[this]
theorem W4{v:Value}{n d:Int}{H:ab}(bO:e_ H v n d):a0 prog 38 [v] H (fun v H1=>Ext H H1/\v= .int .i64 (if n<0 then-1 else if n=0 then 0 else 1)):=by
 refine a0.cq fun Q aG=>?_
 apply Ui (by simp)
 obtain⟨s1,b1,dx,cG,s2,ds,dF,dh,rfl,cj,ho⟩:=bO.shape
 have bP:Ext H (H++[.own 44 false [.bool s1,.slice b1 dx cG,.bool s2,.slice ds dF dh]]):=Ext.more H (by simp)
 simp[Ga]
 refine a7.mk (Mi (cj.ext bP)) ?_
 rintro v H1 ⟨I,rfl⟩
 simp[bj]
 exact aG _ _ ⟨bP.aB I,rfl⟩
theorem Ly{v:Value}{n d:Int}{H:ab}(bO:e_ H v n d):a0 prog 26 [v] H (fun v H1=>Ext H H1/\c5 H1 v n):=by
 refine a0.cq fun Q aG=>?_
 apply Uh (by simp)
 obtain⟨s1,b1,dx,cG,s2,ds,dF,dh,rfl,cj,ho⟩:=bO.shape
 simp[F_,c3,bj]
 have bP:Ext H (H++[.own 44 false [.bool s1,.slice b1 dx cG,.bool s2,.slice ds dF dh],.own 42 false [.bool s1,.slice b1 dx cG]]):=Ext.more H (by simp)
 exact aG _ _ ⟨bP,cj.ext bP⟩
def pE(a b:Int):Int:=IntKind.u64.wrap ((BitVec.ofInt 64 a ||| BitVec.ofInt 64 b).toNat:Int)
@[simp high] theorem aeT(P:Program)(t:Nat)(a b:Int):dO P .or t (.int .u64 a) (.int .u64 b)=some (.int .u64 (pE a b)):=Mf
theorem uC{r x:Nat}(aj:r<4294967296)(I:x<4294967296):pE ((r*4294967296:Nat):Int) (x:Int)=((r*4294967296+x:Nat):Int):=by
 unfold pE
 have o:(BitVec.ofInt 64 ((r*4294967296:Nat):Int) ||| BitVec.ofInt 64 (x:Int)).toNat=r*4294967296+x:=by
  rw[BitVec.ofInt_natCast,BitVec.ofInt_natCast,BitVec.toNat_or,BitVec.toNat_ofNat,BitVec.toNat_ofNat,Nat.mod_eq_of_lt (by omega),Nat.mod_eq_of_lt (by omega)]
  have:=Nat.two_pow_add_eq_or_of_lt (i:=32) (b:=x) I r
  rw[Nat.mul_comm]at this
  exact this.symm
 rw[o]
 exact fR (by omega) (by omega)
@[simp high] theorem aeY(P:Program)(t:Nat)(a:Int):dO P .shl t (.int .u64 a) (.int .u64 32)=some (.int .u64 (IntKind.u64.wrap (a*4294967296))):=by
 rw[Xg,if_neg (by decide)]
 rfl
theorem sM(l:List Nat)(i:Nat)(ad:i<l.length):val (l.drop i)=l[i]?.getD 0+4294967296*val (l.drop (i+1)):=by
 rw[List.drop_eq_getElem_cons ad,bx ad]
 rfl
theorem Hx{v:Value}{a:List Nat}{w:Nat}{H:ab}(bO:cO H 95 v a)(jT:a.length<1048576)(pn:0<w)(hw:w<4294967296):
  a0 prog 56 [v,.int .u32 w] H (fun au H1=>Ext H H1/\∃q l,au= .tuple #[q,.int .u32 (val a % w:Nat)]/\cO H1 95 q l/\Trim l/\val l=val a/w):=by
 refine a0.cq fun Q aG=>?_
 apply Um (by simp)
 obtain⟨x,h1,rfl⟩:=bO.len
 have oo:IntKind.u64.wrap (w:Int)=(w:Int):=fR (by omega) (by omega)
 by_cases oX:a.length=0
 ·have wi:a=[]:=List.eq_nil_of_length_eq_zero oX
  subst wi
  simp only[Bp]
  rw[cw]
  simp[-cw]
  rw[cw]
  simp[-cw]
  refine AU (e:=95) (J:=1) (bs:=4) (eo:= .i64) (cB:= .i64) (by simp) (by simp) (by simp) (by simp) (by simp) ?_
  simp(disch:=omega)[cP]
  refine kv.mk (ak:=fun n az H1=>H=H1/\az 8= .int .i64 (-1)/\az 6= .slice (some ⟨0,0,none⟩) 0 0/\az 7= .int .u64 0) 0 ⟨rfl,by simp,by simp,by simp⟩ ?_
  rintro n az H1 ⟨rfl,iz,gg,kF⟩ K a1
  simp[gg,kF,iz]
  refine a7.mk (lp (l:=[]) ⟨ec.void H _ _ _,by simp⟩ (by simp)) ?_
  rintro v H1 ⟨rfl,c2,dz,bc,dc,-⟩
  simp[bj,kF,nM]
  refine aG _ _ ⟨Ext.refl _,v,c2,by simp[val],dz,bc,by simpa[val]using dc⟩
 simp only[Bp]
 rw[cw]
 simp[-cw]
 rw[cw]
 simp(disch:=omega)[cP,-cw]
 refine xT (e:=95) (J:=1) (bs:=4) (eo:= .i64) (cB:= .i64) (l:=a.length) (c:=a.length) (z:= .int .u32 0) (by simp) (by simp) (by simp) (by simp) (by rfl) (by rfl) (by simp) (by simp) (by omega) (by omega) (Nat.le_refl _) (by omega) (by omega) ?_
 simp[-cw,pB]
 rw[cw]
 simp[-cw]
 rw[cw]
 refine gP.cut (fun az H1=>az 6= .slice (some ⟨H.length,0,none⟩) a.length a.length/\∃(out:List Nat) (r:Nat),H1=H++[.own 95 false (out.map fun(x:Nat)=>Value.int .u32 (x:Int))]/\out.length=a.length/\(∀x∈out,x<4294967296)/\az 7= .int .u64 r/\r<w/\val a=val out*w+r) ?_ ?_
 ·intro K a1
  simp(disch:=omega)[cP]
  refine kv.mk (ak:=fun n az H1=>n<=a.length/\az 0= .slice x a.length h1/\az 1= .int .u32 w/\az 8= .int .i64 ((n:Int)-1)/\az 6= .slice (some ⟨H.length,0,none⟩) a.length a.length/\∃(out:List Nat) (r:Nat),H1=H++[.own 95 false (out.map fun(x:Nat)=>Value.int .u32 (x:Int))]/\out.length=a.length/\(∀x∈out,x<4294967296)/\az 7= .int .u64 r/\r<w/\val (a.drop n)=val (out.drop n)*w+r) a.length ?_ ?_
  ·refine⟨Nat.le_refl _,by simp,by simp,by simp,by simp,List.replicate a.length 0,0,by simp,by simp,by simp,by simp,pn,?_⟩
   rw[List.drop_eq_nil_of_le (by simp),List.drop_eq_nil_of_le (by simp)]
   simp[val]
  ·rintro n az H1 ⟨aE,ch,cb,iz,gg,out,r,rfl,e1,iD,kF,aj,ao⟩ dY iP
   simp[iz]
   refine bG.cC (fun aT=>?_) (fun aT=>?_)
   ·obtain⟨gQ,i1,vw,yf,yi,jm,nn,ld,-,oa⟩:=bO.at (by omega)
    cases jm
    have bp:((n:Int)-1).toNat=n-1:=by omega
    obtain⟨p,qz⟩:∃p,a[n-1]?.getD 0=p:=⟨_,rfl⟩
    have kh:p<4294967296:=qz▸bO.lt _
    have jn:=oa (n-1) (by omega)
    rw[qz]at jn
    obtain⟨s,an⟩:∃s,r*4294967296=s:=⟨_,rfl⟩
    have iV:IntKind.u64.wrap ((r:Int)*4294967296)=(s:Int):=by
     rw[fR (by omega) (by omega)]
     omega
    have aQ:=uC (r:=r) (by omega) kh
    rw[an]at aQ
    obtain⟨t,bt⟩:∃t,s+p=t:=⟨_,rfl⟩
    rw[bt]at aQ
    obtain⟨q,av⟩:∃q,t/w=q:=⟨_,rfl⟩
    obtain⟨m,hm⟩:∃m,t % w=m:=⟨_,rfl⟩
    have mw:=Nat.div_add_mod t w
    rw[av,hm]at mw
    have fp:m<w:=hm▸Nat.mod_lt _ pn
    have r9:q<4294967296:=by
     rw[<-av]
     refine(Nat.div_lt_iff_lt_mul pn).2 ?_
     have:(r+1)*4294967296<=w*4294967296:=Nat.mul_le_mul_right _ aj
     rw[Nat.mul_comm 4294967296]
     omega
    have Kc:(t:Int).tdiv w=(q:Int):=by rw[<-av];rfl
    have ud:(t:Int).tmod w=(m:Int):=by rw[<-hm];rfl
    have zD:IntKind.u64.wrap (q:Int)=(q:Int):=fR (by omega) (by omega)
    have J5:IntKind.u32.wrap (q:Int)=(q:Int):=lu (by omega) (by omega)
    have J0:IntKind.u64.wrap (p:Int)=(p:Int):=fR (by omega) (by omega)
    have Ko:¬(w=0):=by omega
    simp[ch,iz,kF,iV]
    refine df.mk ⟨by omega,by omega⟩ ?_
    simp[ch,iz,kF,gg,cb,bp,mO nn,ld,jn,-getElem?_pos,J0,iV,aQ,oo,Kc,ud,zD,J5,Ko]
    refine df.mk ⟨by omega,by omega⟩ ?_
    simp(disch:=omega)[ch,iz,kF,gg,cb,bp,mO nn,ld,jn,-getElem?_pos,J0,iV,aQ,oo,Kc,ud,zD,J5,Ko,cP]
    refine df.mk (by omega) ?_
    simp(disch:=omega)[iz,cP]
    refine iP (n-1) _ _ (by omega) ⟨by omega,by simp[ch],by simp[cb],by simp;omega,by simp[gg],out.set (n-1) q,m,by simp[List.map_set],by simp[e1],?_,by simp,fp,?_⟩
    ·intro z aP
     rcases List.mem_or_eq_of_mem_set aP with aP | rfl
     ·exact iD z aP
     ·exact r9
    ·rw[sM a (n-1) (by omega),sM (out.set (n-1) q) (n-1) (by simp;omega),qz,Nat.sub_add_cancel (by omega),ao,List.drop_set_of_lt (by omega),List.getElem?_set_self (by omega)]
     simp only[Option.getD_some]
     have b2:s+p=w*q+m:=by omega
     grind
   ·simp
    have:n=0:=by omega
    subst this
    exact a1 _ _ ⟨by simp[gg],out,r,rfl,e1,iD,by simp[kF],aj,by simpa using ao⟩
 ·rintro az H1 ⟨gg,out,r,rfl,e1,iD,kF,aj,ao⟩
  have eb:=cO.fresh H 95 out a.length a.length (Nat.le_refl _) e1 iD false
  have fq:IntKind.u32.wrap (r:Int)=(r:Int):=lu (by omega) (by omega)
  rw[cw]
  simp[gg,-cw]
  refine a7.mk (lp eb (by simp[e1];omega)) ?_
  rintro v H1 ⟨rfl,c2,dz,bc,dc,-⟩
  simp[bj,kF,fq]
  rw[<-e1,List.take_length]at dc
  have o:val a/w=val out:=by rw[ao,Nat.mul_comm,Nat.mul_add_div pn,Nat.div_eq_of_lt aj,Nat.add_zero]
  have aa:val a % w=r:=by rw[ao,Nat.mul_comm,Nat.mul_add_mod,Nat.mod_eq_of_lt aj]
  exact aG _ _ ⟨(Ext.refl H).snoc _ _ _,v,c2,by rw[aa],dz,bc,by rw[dc,o]⟩
theorem zZ{v bX ad:Int}{H:ab}:a0 prog 20 [.int .i64 v,.int .i64 bX,.int .i64 ad] H (fun w H1=>H1=H/\w= .bool (decide (bX<=v/\v<=ad))):=by
 refine a0.cq fun Q aG=>?_
 apply UD (by simp)
 simp[Gg]
 refine bG.cC (fun h=>?_) (fun h=>?_)
 ·simp[h,bj]
  exact aG _ _ ⟨rfl,by simp[h]⟩
 ·simp[h,bj]
  exact aG _ _ ⟨rfl,by simp[h]⟩
theorem aal{x:Int}{H:ab}:a0 prog 51 [.int .i64 x] H (fun w H1=>H1=H/\w= .bool (decide (x<0\/1000<x))):=by
 refine a0.cq fun Q aG=>?_
 apply UY (by simp)
 simp[Gl]
 refine bG.cC (fun h=>?_) (fun h=>?_)
 ·simp[h,bj]
  exact aG _ _ ⟨rfl,by simp[h]⟩
 ·simp[h,bj]
  exact aG _ _ ⟨rfl,by simp[h]⟩
def j5(H:ab)(v:Value)(l:List Int):Prop:=ec H 3 1 v l.length (l.map (Value.int .i64))
theorem j5.ext{H H1:ab}{v:Value}{l:List Int}(h:j5 H v l)(I:Ext H H1):j5 H1 v l:=ec.ext h I
theorem j5.at{H:ab}{v:Value}{l:List Int}(h:j5 H v l)(aE:0<l.length):∃b i cap X all,v= .slice (some ⟨b,i,none⟩) l.length cap/\H[b]?=some X/\X.cells?=some all/\∀k,k<l.length->all[i+k]?=some (.int .i64 (l[k]?.getD 0)):=by
 obtain⟨b,i,cap,X,all,o,aa,aD,bD,b2⟩:=ec.at h aE
 refine⟨b,i,cap,X,all,o,aa,aD,fun k ai=>?_⟩
 rw[b2 k (by omega),List.getElem?_map,bx ai]
 simp
theorem j5.len{H:ab}{v:Value}{l:List Int}(h:j5 H v l):∃a cap,v= .slice a l.length cap:=ec.len h
theorem TO{v:Value}{l:List Int}{H:ab}(da:j5 H v l)(ar:l.length<4611686018427387904):
  a0 prog 73 [v,.func (.func 51) #[] #[]] H (fun w H1=>H1=H/\∃n:Int,w= .int .i64 n/\(0<=n↔∃x∈l,x<0\/1000<x)):=by
 refine a0.cq fun Q aG=>?_
 apply U4 (by simp)
 obtain⟨a,cap,rfl⟩:=da.len
 simp[Gq]
 refine kv.mk (ak:=fun n az H1=>∃i:Nat,n=l.length-i/\i<=l.length/\H=H1/\az 0= .slice a l.length cap/\az 1= .func (.func 51) #[] #[]/\az 7= .int .i64 l.length/\az 8= .int .i64 i/\∀x∈l.take i,¬(x<0\/1000<x)) l.length ?_ ?_
 ·exact⟨0,by omega,by omega,rfl,by simp,by simp,by simp,by simp,by simp⟩
 ·rintro n az H1 ⟨i,rfl,ad,rfl,ch,cb,kF,iz,cQ⟩ K a1
  simp[kF,iz]
  refine bG.cC (fun a3=>?_) (fun a3=>?_)
  ·obtain⟨b,U,dm,X,all,he,aR,ag,lg⟩:=da.at (by omega)
   cases he
   simp[ch,cb,iz]
   refine df.mk (by omega) ?_
   simp[ch,cb,iz,aR,ag,lg _ a3]
   refine a7.mk aal ?_
   rintro v H1 ⟨rfl,rfl⟩
   simp
   have gj:l[i]?.getD 0∈l:=by rw[bx a3];exact List.getElem_mem a3
   refine bG.mk (fun hw=>?_) (fun hw=>?_)
   ·simp[bj]
    refine aG _ _ ⟨rfl,i,rfl,?_⟩
    simp at hw
    exact⟨fun _=>⟨_,gj,by omega⟩,fun _=>by omega⟩
   ·simp(disch:=omega)[iz,cP]
    refine a1 (l.length-(i+1)) _ _ (by omega) ⟨i+1,by omega,by omega,rfl,by simp[ch],by simp[cb],by simp[kF],by simp,?_⟩
    intro x I
    rw[List.take_succ_eq_append_getElem a3]at I
    rcases List.mem_append.1 I with I | I
    ·exact cQ x I
    ·simp at I
     simp at hw
     rw[bx a3]at hw
     subst I
     simpa using hw
  ·simp[bj]
   have:i=l.length:=by omega
   subst this
   rw[List.take_length]at cQ
   exact aG _ _ ⟨rfl,-1,rfl,by simp;intro x I;have:=cQ x I;omega⟩
theorem Og{v:Value}{l:List Int}{H:ab}(da:j5 H v l)(ar:l.length<4611686018427387904):
  a0 prog 50 [v,.func (.func 51) #[] #[]] H (fun w H1=>H1=H/\w= .bool (decide (∃x∈l,x<0\/1000<x))):=by
 refine a0.cq fun Q aG=>?_
 apply U1 (by simp)
 simp[Gn]
 refine a7.mk (TO da ar) ?_
 rintro v H1 ⟨rfl,n,rfl,aE⟩
 simp[bj]
 exact aG _ _ ⟨rfl,by simp[aE]⟩
def jD(H:ab)(v:Value)(t:List (List Int)):Prop:=∃aA:List Value,ec H 25 1 v t.length aA/\aA.length=t.length/\∀i,i<t.length->j5 H (aA[i]?.getD undef) (t[i]?.getD [])
theorem jD.ext{H H1:ab}{v:Value}{t:List (List Int)}(h:jD H v t)(I:Ext H H1):jD H1 v t:=by
 obtain⟨aA,o,aa,aD⟩:=h
 exact⟨aA,o.ext I,aa,fun i ad=>(aD i ad).ext I⟩
theorem jD.len{H:ab}{v:Value}{t:List (List Int)}(h:jD H v t):∃a cap,v= .slice a t.length cap:=by
 obtain⟨aA,o,-⟩:=h
 exact o.len
theorem jD.at{H:ab}{v:Value}{t:List (List Int)}(h:jD H v t)(aE:0<t.length):∃b i cap X all,v= .slice (some ⟨b,i,none⟩) t.length cap/\H[b]?=some X/\X.cells?=some all/\∀k,k<t.length->∃a c,all[i+k]?=some (.slice a (t[k]?.getD []).length c)/\j5 H (.slice a (t[k]?.getD []).length c) (t[k]?.getD []):=by
 obtain⟨aA,o,aa,aD⟩:=h
 obtain⟨b,i,cap,X,all,bp,bo,e0,j7,rA⟩:=o.at aE
 refine⟨b,i,cap,X,all,bp,bo,e0,fun k ai=>?_⟩
 have jS:=aD k ai
 obtain⟨a,c,ao⟩:=jS.len
 refine⟨a,c,?_,ao▸jS⟩
 rw[rA k (by omega),<-ao,bx (by omega)]
 simp
def k1(n:Nat)(r:List Int):Bool:=decide (r.length≠n) || decide (∃x∈r,x<0\/1000<x)
theorem W3{v w:Value}{r:List Int}{t:List (List Int)}{H:ab}{cZ:Nat}(bl:j5 H w r)(bc:jD H v t)(bt:0<t.length)(tJ:H[cZ]?=some (.own 22 false [v]))(ar:r.length<4611686018427387904):
  a0 prog 49 [w,.pointer (some ⟨cZ,0,none⟩)] H (fun u H1=>H1=H/\u= .bool (k1 (t[0]?.getD []).length r)):=by
 refine a0.cq fun Q aG=>?_
 apply UX (by simp)
 obtain⟨a,cap,rfl⟩:=bl.len
 obtain⟨b,i,dm,X,all,rfl,aR,ag,lg⟩:=bc.at bt
 obtain⟨yg,ru,aH,-⟩:=lg 0 bt
 simp[Gk,tJ,-getElem?_pos]
 refine df.mk (by omega) ?_
 simp only[Nat.add_zero]at aH
 simp[tJ,aR,ag,aH,-getElem?_pos]
 refine bG.cC (fun h=>?_) (fun h=>?_)
 ·simp[h]
  refine a7.mk (Og bl ar) ?_
  rintro u H1 ⟨rfl,rfl⟩
  simp[bj]
  refine aG _ _ ⟨rfl,?_⟩
  simp[k1]
  intro cF
  exact absurd (by omega) cF
 ·simp[h,bj]
  refine aG _ _ ⟨rfl,?_⟩
  simp[k1]
  exact .inl (by omega)
theorem TN{v:Value}{t:List (List Int)}{H:ab}{cZ:Nat}(bc:jD H v t)(bt:0<t.length)(tJ:H[cZ]?=some (.own 22 false [v]))(ar:t.length<4611686018427387904)(aj:∀r∈t,r.length<4611686018427387904):
  a0 prog 72 [v,.func (.func 49) #[] #[.pointer (some ⟨cZ,0,none⟩)]] H (fun w H1=>H1=H/\∃n:Int,w= .int .i64 n/\(0<=n↔∃r∈t,k1 (t[0]?.getD []).length r=true)):=by
 refine a0.cq fun Q aG=>?_
 apply U3 (by simp)
 obtain⟨b,U,cap,X,all,rfl,aR,ag,lg⟩:=bc.at bt
 simp[Gp]
 refine kv.mk (ak:=fun n az H1=>∃i:Nat,n=t.length-i/\i<=t.length/\H=H1/\az 0= .slice (some ⟨b,U,none⟩) t.length cap/\az 1= .func (.func 49) #[] #[.pointer (some ⟨cZ,0,none⟩)]/\az 7= .int .i64 t.length/\az 8= .int .i64 i/\∀r∈t.take i,¬(k1 (t[0]?.getD []).length r=true)) t.length ?_ ?_
 ·exact⟨0,by omega,by omega,rfl,by simp,by simp,by simp,by simp,by simp⟩
 ·rintro n az H1 ⟨i,rfl,ad,rfl,ch,cb,kF,iz,cQ⟩ K a1
  simp[kF,iz]
  refine bG.cC (fun a3=>?_) (fun a3=>?_)
  ·obtain⟨b1,cG,o,da⟩:=lg i a3
   simp[ch,cb,iz]
   refine df.mk (by omega) ?_
   simp[ch,cb,iz,aR,ag,o,-getElem?_pos]
   have gj:t[i]?.getD []∈t:=by rw[bx a3];exact List.getElem_mem a3
   refine a7.mk (W3 da bc bt tJ (aj _ gj)) ?_
   rintro v H1 ⟨rfl,rfl⟩
   simp
   refine bG.mk (fun hw=>?_) (fun hw=>?_)
   ·simp[bj]
    exact aG _ _ ⟨rfl,i,rfl,fun _=>⟨_,gj,hw⟩,fun _=>by omega⟩
   ·simp(disch:=omega)[iz,cP]
    refine a1 (t.length-(i+1)) _ _ (by omega) ⟨i+1,by omega,by omega,rfl,by simp[ch],by simp[cb],by simp[kF],by simp,?_⟩
    intro x I
    rw[List.take_succ_eq_append_getElem a3]at I
    rcases List.mem_append.1 I with I | I
    ·exact cQ x I
    ·simp at I
     rw[bx a3]at hw
     subst I
     simpa using hw
  ·simp[bj]
   have:i=t.length:=by omega
   subst this
   rw[List.take_length]at cQ
   refine aG _ _ ⟨rfl,-1,rfl,?_⟩
   constructor
   ·intro h;omega
   ·rintro⟨r,o,aa⟩
    exact absurd aa (cQ r o)
theorem Of{v:Value}{t:List (List Int)}{H:ab}{cZ:Nat}(bc:jD H v t)(bt:0<t.length)(tJ:H[cZ]?=some (.own 22 false [v]))(ar:t.length<4611686018427387904)(aj:∀r∈t,r.length<4611686018427387904):
  a0 prog 48 [v,.func (.func 49) #[] #[.pointer (some ⟨cZ,0,none⟩)]] H (fun w H1=>H1=H/\w= .bool (decide (∃r∈t,k1 (t[0]?.getD []).length r=true))):=by
 refine a0.cq fun Q aG=>?_
 apply U0 (by simp)
 simp[Gm]
 refine a7.mk (TN bc bt tJ ar aj) ?_
 rintro v H1 ⟨rfl,n,rfl,aE⟩
 simp[bj]
 refine aG _ _ ⟨rfl,?_⟩
 congr 1
 exact decide_eq_decide.2 aE
def fT(t:List (List Int)):Prop:=1<=t.length/\t.length<=8/\1<=(t[0]?.getD []).length/\(t[0]?.getD []).length<=8/\∀r∈t,k1 (t[0]?.getD []).length r=false
instance(t:List (List Int)):Decidable (fT t):=by unfold fT;infer_instance
theorem A6{v:Value}{t:List (List Int)}{H:ab}(bc:jD H v t)(ar:t.length<4611686018427387904)(aj:∀r∈t,r.length<4611686018427387904):
  a0 prog 28 [v] H (fun w H1=>Ext H H1/\w= .bool (decide (fT t))):=by
 refine a0.cq fun Q aG=>?_
 apply UW (by simp)
 obtain⟨a,cap,rfl⟩:=bc.len
 have I:Ext H (H++[.own 22 false [.slice a t.length cap]]):=Ext.more H (by simp)
 have no:¬fT t->Q (.bool false) (H++[.own 22 false [.slice a t.length cap]]):=fun h=>aG _ _ ⟨I,by simp[h]⟩
 simp[Gj]
 refine bG.cC (fun o=>?_) (fun o=>?_)
 ·simp[o,bj]
  exact no fun h=>by have:=h.1;omega
 ·obtain⟨b,i,dm,X,all,he,aR,ag,lg⟩:=bc.at (by omega)
  cases he
  obtain⟨yg,ru,aH,-⟩:=lg 0 (by omega)
  simp only[Nat.add_zero]at aH
  simp[o]
  refine bG.cC (fun aa=>?_) (fun aa=>?_)
  ·simp[o,aa,bj]
   exact no fun h=>by have:=h.2.1;omega
  ·simp[o,aa]
   refine df.mk (by omega) ?_
   simp[o,aa,mO aR,ag,aH,-getElem?_pos]
   refine bG.cC (fun aD=>?_) (fun aD=>?_)
   ·simp[aD,bj]
    exact no fun h=>by have:=h.2.2.1;omega
   ·simp[aD]
    refine df.mk (by omega) ?_
    simp[aD,mO aR,ag,aH,-getElem?_pos]
    refine bG.cC (fun bD=>?_) (fun bD=>?_)
    ·simp[bD,bj]
     exact no fun h=>by have:=h.2.2.2.1;omega
    ·simp[bD]
     refine a7.mk (Of (cZ:=H.length) (bc.ext I) (by omega) (by simp) ar aj) ?_
     rintro u H1 ⟨rfl,rfl⟩
     simp[bj]
     refine aG _ _ ⟨I,?_⟩
     have:fT t↔¬(∃r∈t,k1 (t[0]?.getD []).length r=true):=by
      constructor
      ·rintro⟨-,-,-,-,h⟩ ⟨r,aS,aM⟩
       rw[h r aS]at aM
       cases aM
      ·intro h
       refine⟨by omega,by omega,by omega,by omega,fun r q=>?_⟩
       cases ae:k1 (t[0]?.getD []).length r with
       | false=>rfl
       | true=>exact absurd ⟨r,q,ae⟩ h
     have e:decide (fT t)= !decide (∃r∈t,k1 (t[0]?.getD []).length r=true):=by
      rw[<-decide_not]
      exact decide_eq_decide.2 this
     rw[e]
end Go.b9
end
section
set_option maxRecDepth 8000
namespace Go.b9
theorem c5.kept{H aC:ab}{e:Nat}{s v:Value}{z:Int}(h:c5 H v z)(ai:Kept H aC s e)(cF:95≠e):c5 aC v z:=by
 obtain⟨a,c,l,o,aa,aD⟩:=h
 exact⟨a,c,l,o,⟨aa.1.kept ai cF,aa.2⟩,aD⟩
theorem e_.kept{H aC:ab}{e:Nat}{s v:Value}{n d:Int}(h:e_ H v n d)(ai:Kept H aC s e)(cF:95≠e):e_ aC v n d:=by
 obtain⟨g7,kO,gQ,hY,o,aa,aD⟩:=h
 exact⟨g7,kO,gQ,hY,o,aa.kept ai cF,aD.kept ai cF⟩
end Go.b9
end
section
set_option maxRecDepth 8000
namespace Go.b9
open Go.Proofs
open Go.Proofs.Try (prog)
end Go.b9
end
section
set_option maxRecDepth 8000
namespace Go.b9
open Go.Proofs
open Go.Proofs.Try (prog)
attribute [-simp] fJ gN
def fM(H:ab)(v:Value)(n:Nat):Prop:=v= .int .u32 (n:Int)/\n<4294967296
instance:bM fM:=⟨fun h _=>h⟩
theorem cO.row{H:ab}{e:Nat}{v:Value}{l:List Nat}(h:cO H e v l):Row e 1 false fM H v l:=⟨_,h.1,fun i x ad=>⟨by simp[ea,List.getElem?_map,ad],h.2 x (List.mem_of_getElem? ad)⟩⟩
theorem M5{cs:List Value}{l:List Nat}(ar:cs.length=l.length*1)(h:∀H i x,l[i]?=some x->fM H (ea false 1 cs i) x):cs=l.map fun(n:Nat)=>Value.int .u32 (n:Int):=by
 apply List.ext_getElem?
 intro i
 rw[List.getElem?_map]
 by_cases ad:i<l.length
 ·have:=(h [] i _ (bx ad)).1
  simp only[ea,Bool.false_eq_true,if_false]at this
  rw[bx ad]
  rw[bx (by omega)]at this⊢
  simpa using this
 ·rw[List.getElem?_eq_none (by omega),List.getElem?_eq_none (by omega)];rfl
theorem Row.us{H:ab}{e:Nat}{v:Value}{l:List Nat}(h:Row e 1 false fM H v l):cO H e v l:=by
 obtain⟨cs,o,aa⟩:=h
 obtain⟨a,cap,ao,aD,bD,b2⟩:=o
 have:=M5 bD (fun _ i x ad=>aa i x ad)
 subst this
 exact⟨⟨a,cap,ao,aD,bD,b2⟩,fun x I=>by obtain⟨i,ad⟩:=List.getElem?_of_mem I;exact(aa i x ad).2⟩
theorem Fu:Whole prog 95 (.int .u32 0):=⟨by kernel_rfl,by kernel_rfl,by rw[if_neg (by decide)];exact⟨by kernel_rfl,rfl⟩⟩
theorem xZ(n:Int):Whole prog 95 (.int .u32 n):=⟨by kernel_rfl,rfl,by rw[if_neg (by simp[eB])];exact⟨by kernel_rfl,rfl⟩⟩
def Em(a b:Int):Int:=IntKind.u32.wrap ((BitVec.ofInt 32 a ||| BitVec.ofInt 32 b).toNat:Int)
@[simp high] theorem aeS(P:Program)(t:Nat)(a b:Int):dO P .or t (.int .u32 a) (.int .u32 b)=some (.int .u32 (Em a b)):=Mf
theorem M_{v:Value}{x:List Nat}{n:Nat}{H:ab}(aR:cO H 95 v x)(ar:x.length<1048576)(aE:n<32):
  a0 prog 88 [v,.int .i64 n] H (fun au H1=>Ext H H1/\∃out,bz H.length 95 1 false fM H1 au out/\out.length=x.length+1/\val out=val x*2^n):=by
 refine a0.cq fun Q aG=>?_
 apply Uy (by simp)
 simp[GP]
 refine cY (by simpa using aR.row) (by simp) ?_
 simp(disch:=omega)[cP]
 refine q5 (e:=95) (J:=1) (bs:=4) (n:=x.length+1) (ay:=false) (z:= .int .u32 0) (af:=fM) (a:=0) (eo:= .i64) (cB:= .i64) (by simp) (by simp) (by simp) (by simp) (by rfl) (by simp) Fu (by simp) (by simp) (by omega) (by omega) (by omega) (fun aC=>⟨rfl,by decide⟩) ?_
 rintro U H1 cL bI-
 simp
 refine cY (by simpa using(aR.ext bI).row) (by simp) ?_
 simp
 refine dy.range (by kernel_rfl) x.length (by omega) (by simp) (by rfl) (by simp) (by decide) (by decide) (fun i bQ dq aY=>Ext H aY/\∃out:List Nat,bz H.length 95 1 false fM aY U out/\out.length=x.length+1/\val (out.take (i+1))=val (x.take i)*2^n/\out[i]?.getD 0<2^n/\∀j,i<j->out[j]?.getD 0=0) ?_ ?_ ?_
 ·exact⟨bI,List.replicate (x.length+1) 0,cL,by simp,by simp[List.take_replicate,Fl,val],by simp[Nat.pow_pos],fun j aQ=>by rw[List.getElem?_replicate];split<;>rfl⟩
 ·rintro i bQ dq aY ad a2 ⟨bu,out,hD,e1,gV,a3,aP⟩ K a1
  simp at a2
  simp[a2]
  refine cK (af:=fM) (n:=i) (by simpa using(aR.ext bu).row) (by simp[a2]) (bx ad) (by simp) (by simp) (by simp) (.inr rfl) ?_
  rintro p u ⟨rfl,hu⟩
  obtain⟨y,aJ⟩:∃y,x[i]=y:=⟨_,rfl⟩
  rw[aJ]at hu
  have xc:x[i]?.getD 0=y:=by rw[bx ad,aJ];rfl
  have adr:2^n<=2^31:=Nat.pow_le_pow_right (by decide) (by omega)
  obtain⟨t,bt⟩:∃t,y*2^n=t:=⟨_,rfl⟩
  have mD:t<4294967296*2^n:=by rw[<-bt];exact Nat.mul_lt_mul_of_pos_right hu (Nat.pow_pos (by decide))
  have DA:(y:Int)*2^n=(t:Int):=by rw[<-bt];push_cast;rfl
  have iV:IntKind.u64.wrap ((y:Int)*2^n)=(t:Int):=by rw[DA,fR (by omega) (by omega)]
  have qL:IntKind.u64.wrap (y:Int)=(y:Int):=fR (by omega) (by omega)
  have Di:min n 64=n:=by omega
  have jU:¬((n:Int)<0):=by omega
  simp[aJ,qL,Di,jU,iV,a2]
  refine cK (af:=fM) (n:=i) (by simpa using hD.row) (by simp) (bx (show i<out.length by omega)) (by simp) (by simp) (by simp) (.inr rfl) ?_
  rintro hd lq ⟨rfl,nz⟩
  have cR:out[i]?.getD 0=out[i]:=by rw[bx (by omega)];rfl
  rw[cR]at a3
  generalize out[i]'(by omega)=h at*
  obtain⟨fg,S6⟩:∃fg,t % 4294967296=fg:=⟨_,rfl⟩
  obtain⟨l4,aed⟩:∃l4,t/4294967296=l4:=⟨_,rfl⟩
  obtain⟨s,an⟩:∃s,h+fg=s:=⟨_,rfl⟩
  have S5:IntKind.u32.wrap (t:Int)=(fg:Int):=by rw[nM];omega
  have hmul:fg=2^n*(fg/2^n):=by
   have o:2^n∣fg:=by
    have:(4294967296:Nat)=2^n*2^(32-n):=by rw[<-Nat.pow_add];rw[show n+(32-n)=32 by omega]
    rw[<-S6,<-bt,this,Nat.mul_comm y,Nat.mul_mod_mul_left]
    exact Nat.dvd_mul_right _ _
   exact(Nat.mul_div_cancel' o).symm
  have ub:s<4294967296:=by
   have this:(4294967296:Nat)=2^n*2^(32-n):=by rw[<-Nat.pow_add];rw[show n+(32-n)=32 by omega]
   have av:fg/2^n<2^(32-n):=by
    refine(Nat.div_lt_iff_lt_mul (Nat.pow_pos (by decide))).2 ?_
    rw[Nat.mul_comm (2^(32-n)),<-this]
    omega
   have r8:2^n*(fg/2^n+1)<=2^n*2^(32-n):=Nat.mul_le_mul_left _ av
   rw[Nat.mul_add,Nat.mul_one,<-hmul,<-this]at r8
   omega
  have zw:Em (h:Int) (fg:Int)=(s:Int):=by
   unfold Em
   rw[BitVec.ofInt_natCast,BitVec.ofInt_natCast,BitVec.toNat_or,BitVec.toNat_ofNat,BitVec.toNat_ofNat,Nat.mod_eq_of_lt (show h<2^32 by omega),Nat.mod_eq_of_lt (by omega)]
   have aa:=Nat.two_pow_add_eq_or_of_lt (i:=n) (b:=h) a3 (fg/2^n)
   rw[<-hmul]at aa
   rw[Nat.or_comm,<-aa,lu (by omega) (by omega)]
   omega
  simp[S5,zw]
  refine ja (af:=fM) (n:=i) (a:=s) (by simpa using hD) (by simp) (by omega) ⟨by simp,ub⟩ (by simpa using xZ _) (by simp) (fun _ _ _ _ _ h=>h) (by simp) (by simp) (by simp) (by decide) ?_
  rintro eM bZ ka bP- - -
  simp at ka
  have w_:=bP H (Nat.le_refl _) bu
  have iC:IntKind.i64.wrap ((i:Int)+1)=((i+1:Nat):Int):=by rw[cP (by omega) (by omega)];simp
  have wY:IntKind.u32.wrap ((t:Int).fdiv 4294967296)=(l4:Int):=by
   rw[ml _ (by decide),lu (by omega) (by omega)]
   omega
  simp[a2,iC,wY]
  have Kd:l4<2^n:=by omega
  refine ja (af:=fM) (n:=i+1) (a:=l4) (by simpa using ka) (by simp) (by simp;omega) ⟨by simp,by omega⟩ (by simpa using xZ _) (by simp) (fun _ _ _ _ _ h=>h) (by simp) (by simp) (by simp) (by decide) ?_
  rintro gK bR kb b5- - -
  simp at kb
  simp
  refine a1 _ _ _ (by simp[a2]) ⟨b5 H (Nat.le_refl _) w_,_,by simpa using kb,by simp[e1],?_,?_,?_⟩
  ·rw[List.take_succ_eq_append_getElem (by simp;omega),List.take_set_of_le (by omega),List.getElem_set_self,mY,q9 _ _ _ (by omega)]
   rw[iu,cR]at gV
   rw[iu,xc]
   simp[val,Nat.min_eq_left (show i+1<=out.length by omega)]
   rw[Nat.add_mul,<-gV,Nat.mul_assoc,bt,Nat.pow_succ,<-an]
   have:t=fg+4294967296*l4:=by omega
   rw[this]
   grind
  ·rw[List.getElem?_set_self (by simp;omega)];exact Kd
  ·intro j aQ
   rw[List.getElem?_set_ne (by omega),List.getElem?_set_ne (by omega)]
   exact aP j (by omega)
 ·rintro bQ dq aY a2 ⟨bu,out,hD,e1,gV,-,-⟩
  simp[bj]
  refine aG _ _ ⟨bu,out,hD,e1,?_⟩
  rw[List.take_of_length_le (by omega),List.take_length]at gV
  exact gV
theorem Na{N:Nat}:∀(l:List Nat) (m:Nat),(∀i,i<l.length->l[i]?.getD 0=N/4294967296^(m+i) % 4294967296)->N/4294967296^m<4294967296^l.length->val l=N/4294967296^m
 | [],m,h,cj=>by simp only[List.length_nil,Nat.pow_zero,Nat.lt_one_iff]at cj;rw[cj];rfl
 | x::l,m,h,cj=>by
  have aH:=h 0 (by simp)
  simp at aH
  have aL:N/4294967296^(m+1)=N/4294967296^m/4294967296:=by rw[Nat.pow_succ,Nat.div_div_eq_div_mul]
  have aV:=Na l (m+1) (fun i ad=>by have:=h (i+1) (by simpa using ad);simp at this;rw[this,Nat.add_assoc,Nat.add_comm 1 i]) (by
   rw[aL]
   simp only[List.length_cons,Nat.pow_succ]at cj
   exact(Nat.div_lt_iff_lt_mul (by decide)).2 cj)
  simp only[val]
  rw[aV,aL]
  omega
theorem Nc(x:List Nat)(I:∀y∈x,y<4294967296):∀i,val x/4294967296^i=val (x.drop i)
 | 0=>by simp
 | i+1=>by
  rw[Nat.pow_succ,<-Nat.div_div_eq_div_mul,Nc x I i]
  by_cases ad:i<x.length
  ·rw[sM _ _ ad]
   have:x[i]?.getD 0<4294967296:=by rw[bx ad];exact I _ (List.getElem_mem ad)
   omega
  ·rw[List.drop_eq_nil_of_le (by omega),List.drop_eq_nil_of_le (by omega)]
   simp[val]
theorem Xt(x:List Nat)(I:∀y∈x,y<4294967296)(i n:Nat)(aE:n<32):val x/2^n/4294967296^i % 4294967296=(x[i]?.getD 0+4294967296*(x[i+1]?.getD 0))/2^n % 4294967296:=by
 rw[Nat.div_div_eq_div_mul,Nat.mul_comm,<-Nat.div_div_eq_div_mul,Nc x I i]
 have e:(4294967296:Nat)=2^n*2^(32-n):=by rw[<-Nat.pow_add];rw[show n+(32-n)=32 by omega]
 have ao:val (x.drop i)=x[i]?.getD 0+4294967296*(x[i+1]?.getD 0)+2^n*(4294967296*(2^(32-n)*val (x.drop (i+2)))):=by
  have aa:val (x.drop i)=x[i]?.getD 0+4294967296*(x[i+1]?.getD 0+4294967296*val (x.drop (i+2))):=by
   by_cases ad:i<x.length
   ·rw[sM _ _ ad]
    by_cases hO:i+1<x.length
    ·rw[sM _ _ hO]
    ·rw[List.drop_eq_nil_of_le (show x.length<=i+1 by omega),List.drop_eq_nil_of_le (by omega),List.getElem?_eq_none (l:=x) (i:=i+1) (by omega)];simp[val]
   ·rw[List.drop_eq_nil_of_le (by omega),List.drop_eq_nil_of_le (by omega),List.getElem?_eq_none (by omega),List.getElem?_eq_none (by omega)];simp[val]
  rw[aa,Nat.mul_left_comm (2^n),<-Nat.mul_assoc (2^n),<-e]
  omega
 rw[ao,Nat.add_mul_div_left _ _ (Nat.pow_pos (by decide)),Nat.add_mul_mod_self_left]
theorem O2{v:Value}{x:List Nat}{n:Nat}{H:ab}(aR:cO H 95 v x)(ar:x.length<1048576)(aE:n<32):
  a0 prog 90 [v,.int .i64 n] H (fun au H1=>Ext H H1/\∃l,cO H1 95 au l/\Trim l/\val l=val x/2^n):=by
 refine a0.cq fun Q aG=>?_
 apply Up (by simp)
 simp[GL]
 refine cY (by simpa using aR.row) (by simp) ?_
 refine q5 (e:=95) (J:=1) (bs:=4) (n:=x.length) (ay:=false) (z:= .int .u32 0) (af:=fM) (a:=0) (eo:= .i64) (cB:= .i64) (by simp) (by simp) (by simp) (by simp) (by rfl) (by simp) Fu (by simp) (by simp) (by omega) (by omega) (by omega) (fun aC=>⟨rfl,by decide⟩) ?_
 rintro U H1 cL bI-
 simp
 refine cY (by simpa using(aR.ext bI).row) (by simp) ?_
 simp
 refine dy.range (by kernel_rfl) x.length (by omega) (by simp) (by rfl) (by simp) (by decide) (by decide) (fun i bQ dq aY=>Ext H aY/\∃out:List Nat,bz H.length 95 1 false fM aY U out/\out.length=x.length/\∀j,j<i->out[j]?.getD 0=val x/2^n/4294967296^j % 4294967296) ?_ ?_ ?_
 ·exact⟨bI,List.replicate x.length 0,cL,by simp,fun j aQ=>by omega⟩
 ·rintro i bQ dq aY ad a2 ⟨bu,out,hD,e1,gV⟩ K a1
  simp at a2
  simp[a2]
  refine cK (af:=fM) (n:=i) (by simpa using(aR.ext bu).row) (by simp[a2]) (bx ad) (by simp) (by simp) (by simp) (.inr rfl) ?_
  rintro p u ⟨rfl,hu⟩
  obtain⟨y,aJ⟩:∃y,x[i]=y:=⟨_,rfl⟩
  rw[aJ]at hu
  have xc:x[i]?.getD 0=y:=by rw[bx ad,aJ];rfl
  have qL:IntKind.u64.wrap (y:Int)=(y:Int):=fR (by omega) (by omega)
  have iC:IntKind.i64.wrap ((i:Int)+1)=((i+1:Nat):Int):=by rw[cP (by omega) (by omega)];simp
  simp[aJ,qL,iC]
  obtain⟨z,aP⟩:∃z,x[i+1]?.getD 0=z:=⟨_,rfl⟩
  have pv:z<4294967296:=aP▸aR.lt _
  refine bV.join (by kernel_rfl) (fun dG e7 bZ=>bZ=aY/\∃t:Nat,dG 7= .int .u64 t/\t=y+4294967296*z) ?_ ?_
  ·rintro dY g_-
   simp[iC]
   refine cY (by simpa using(aR.ext bu).row) (by simp) ?_
   simp
   refine bG.cC (fun a3=>?_) (fun a3=>?_)
   ·simp[iC]
    have hO:i+1<x.length:=by omega
    refine cK (af:=fM) (n:=i+1) (by simpa using(aR.ext bu).row) (by simp) (bx hO) (by simp) (by simp) (by simp) (.inr rfl) ?_
    rintro p u ⟨rfl,kj⟩
    have su:x[i+1]=z:=by rw[bx hO]at aP;exact aP
    have TG:IntKind.u64.wrap (z:Int)=(z:Int):=fR (by omega) (by omega)
    obtain⟨s,an⟩:∃s,z*4294967296=s:=⟨_,rfl⟩
    have cW:IntKind.u64.wrap ((z:Int)*4294967296)=(s:Int):=by rw[fR (by omega) (by omega)];omega
    have aQ:=uC (r:=z) pv hu
    rw[an]at aQ
    have lh:pE (y:Int) (s:Int)=((s+y:Nat):Int):=by
     rw[<-aQ];unfold pE;congr 2;rw[BitVec.or_comm]
    obtain⟨t,bt⟩:∃t,s+y=t:=⟨_,rfl⟩
    rw[bt]at lh
    simp[su,TG,cW,lh]
    exact g_ _ _ _ ⟨rfl,t,by simp,by omega⟩
   ·have xd:z=0:=by rw[<-aP,List.getElem?_eq_none (by omega)];rfl
    exact g_ _ _ _ ⟨rfl,y,by simp,by omega⟩
  ·rintro dG e7 bZ ⟨rfl,t,cJ,bt⟩
   simp at cJ
   have Dd:=Xt x aR.2 i n aE
   rw[xc,aP]at Dd
   rw[<-bt]at Dd
   obtain⟨w,hw⟩:∃w,t/2^n % 4294967296=w:=⟨_,rfl⟩
   have Di:min n 64=n:=by omega
   have jU:¬((n:Int)<0):=by omega
   have S3:IntKind.u32.wrap ((t:Int).fdiv (2^n))=(w:Int):=by
    rw[ml _ (by exact_mod_cast Nat.zero_le _),nM,<-hw]
    rw[Int.natCast_emod,Int.natCast_ediv,Int.natCast_pow]
    rfl
   simp[cJ,Di,jU,S3]
   refine ja (af:=fM) (n:=i) (a:=w) (by simpa using hD) (by simp) (by omega) ⟨by simp,by omega⟩ (by simpa using xZ _) (by simp) (fun _ _ _ _ _ h=>h) (by simp) (by simp) (by simp) (by decide) ?_
   rintro eM bR ka bP- - -
   simp at ka
   simp
   refine a1 _ _ _ (by simp[a2]) ⟨bP H (Nat.le_refl _) bu,_,by simpa using ka,by simp[e1],fun j aQ=>?_⟩
   by_cases fe:j=i
   ·subst fe
    rw[List.getElem?_set_self (by omega),Dd,hw]
    rfl
   ·rw[List.getElem?_set_ne (Ne.symm fe)]
    exact gV j (by omega)
 ·rintro bQ dq aY a2 ⟨bu,out,hD,e1,gV⟩
  simp
  have eb:cO aY 95 U out:=hD.row.us
  refine a7.mk (lp eb (by omega)) ?_
  rintro v bZ ⟨rfl,l,g9,kf,pa,-⟩
  simp[bj]
  refine aG _ _ ⟨bu,l,g9,kf,?_⟩
  have:=Na out 0 (fun j aQ=>by rw[gV j (by omega),Nat.zero_add]) (by
   rw[Nat.pow_zero,Nat.div_one,e1]
   exact Nat.lt_of_le_of_lt (Nat.div_le_self _ _) (jC aR.2))
  rw[pa,this,Nat.pow_zero,Nat.div_one]
end Go.b9
end
section
set_option maxRecDepth 8000
namespace Go.b9
section
variable {E ul e3 top gO aA cf:Nat}
theorem PH(ju:ul<E)(w2:e3<4294967296)(pk:0<cf):(ul+E*(e3+4294967296*top))/(gO+E*(aA+4294967296*cf))<=top/cf:=by
 have bJ:0<E:=by omega
 rw[Nat.le_div_iff_mul_le pk]
 generalize av:(ul+E*(e3+4294967296*top))/(gO+E*(aA+4294967296*cf))=q
 have o:q*(gO+E*(aA+4294967296*cf))<=ul+E*(e3+4294967296*top):=by rw[<-av];exact Nat.div_mul_le_self _ _
 have aa:E*(4294967296*(q*cf))<=q*(gO+E*(aA+4294967296*cf)):=by
  have:q*(gO+E*(aA+4294967296*cf))=q*gO+q*E*aA+E*(4294967296*(q*cf)):=by grind
  omega
 have aD:ul+E*(e3+4294967296*top)<E*(4294967296*(top+1)):=by
  have:E*(e3+1)<=E*4294967296:=Nat.mul_le_mul_left _ w2
  grind
 have bD:E*(4294967296*(q*cf))<E*(4294967296*(top+1)):=by omega
 have b2:=Nat.lt_of_mul_lt_mul_left bD
 omega
theorem PJ{g r:Nat}(ju:ul<E)(bt:g*cf+r=top)(h:r*4294967296+e3<g*aA):(ul+E*(e3+4294967296*top))/(gO+E*(aA+4294967296*cf))<g:=by
 have bJ:0<E:=by omega
 have aU:0<g:=by
  rcases Nat.eq_zero_or_pos g with q | q
  ·subst q;simp at h
  ·exact q
 have ao:0<aA:=by
  rcases Nat.eq_zero_or_pos aA with q | q
  ·subst q;simp at h
  ·exact q
 have n7:0<gO+E*(aA+4294967296*cf):=by
  have:=Nat.mul_pos bJ ao
  have:E*aA<=E*(aA+4294967296*cf):=Nat.mul_le_mul_left _ (by omega)
  omega
 rw[Nat.div_lt_iff_lt_mul n7]
 have o:e3+4294967296*top+1<=g*(aA+4294967296*cf):=by
  rw[<-bt]
  have:g*(aA+4294967296*cf)=g*aA+4294967296*(g*cf):=by grind
  omega
 have aa:E*(e3+4294967296*top+1)<=E*(g*(aA+4294967296*cf)):=Nat.mul_le_mul_left _ o
 have aD:g*(gO+E*(aA+4294967296*cf))=g*gO+E*(g*(aA+4294967296*cf)):=by grind
 have bD:E*(e3+4294967296*top+1)=E*(e3+4294967296*top)+E:=by rw[Nat.mul_add,Nat.mul_one]
 omega
theorem PI{g r:Nat}(sk:gO<E)(pk:0<cf)(aU:g<4294967296)(bt:g*cf+r=top)(h:g*aA<=r*4294967296+e3):g<=(ul+E*(e3+4294967296*top))/(gO+E*(aA+4294967296*cf))+1:=by
 have bJ:0<E:=by omega
 rcases Nat.eq_zero_or_pos g with q | q
 ·rw[q];exact Nat.zero_le _
 have n7:0<gO+E*(aA+4294967296*cf):=by
  have:0<E*(aA+4294967296*cf):=Nat.mul_pos bJ (by omega)
  omega
 have aH:g-1<=(ul+E*(e3+4294967296*top))/(gO+E*(aA+4294967296*cf)):=by
  rw[Nat.le_div_iff_mul_le n7]
  have o:g*(aA+4294967296*cf)<=e3+4294967296*top:=by
   rw[<-bt]
   have:g*(aA+4294967296*cf)=g*aA+4294967296*(g*cf):=by grind
   omega
  have aa:E*(g*(aA+4294967296*cf))<=E*(e3+4294967296*top):=Nat.mul_le_mul_left _ o
  have aD:g*(gO+E*(aA+4294967296*cf))=g*gO+E*(g*(aA+4294967296*cf)):=by grind
  have bD:g*gO<=g*E:=Nat.mul_le_mul_left _ (by omega)
  have b2:g*E<=4294967296*E:=Nat.mul_le_mul_right _ (by omega)
  have gC:E*4294967296<=E*(aA+4294967296*cf):=Nat.mul_le_mul_left _ (by omega)
  have cJ:(g-1)*(gO+E*(aA+4294967296*cf))+(gO+E*(aA+4294967296*cf))=g*(gO+E*(aA+4294967296*cf)):=by
   rw[<-Nat.succ_mul];congr 1;omega
  rw[Nat.mul_comm E 4294967296]at gC
  omega
 exact Nat.sub_le_iff_le_add.1 aH
theorem PG{g r:Nat}(sk:gO<E)(jv:aA<4294967296)(pk:0<cf)(aU:g<4294967296)(bt:g*cf+r=top)(aj:4294967296<=r):g<=(ul+E*(e3+4294967296*top))/(gO+E*(aA+4294967296*cf)):=by
 have bJ:0<E:=by omega
 have n7:0<gO+E*(aA+4294967296*cf):=by
  have:0<E*(aA+4294967296*cf):=Nat.mul_pos bJ (by omega)
  omega
 rw[Nat.le_div_iff_mul_le n7]
 have o:gO+E*(aA+4294967296*cf)<=E*(4294967296*(cf+1)):=by
  have:E*(aA+1)<=E*4294967296:=Nat.mul_le_mul_left _ jv
  grind
 have aa:g*(gO+E*(aA+4294967296*cf))<=g*(E*(4294967296*(cf+1))):=Nat.mul_le_mul_left _ o
 have aD:g*(E*(4294967296*(cf+1)))=E*(4294967296*(g*cf+g)):=by grind
 have bD:E*(4294967296*(g*cf+g))<=E*(4294967296*top):=Nat.mul_le_mul_left _ (Nat.mul_le_mul_left _ (by omega))
 have b2:E*(4294967296*top)<=E*(e3+4294967296*top):=Nat.mul_le_mul_left _ (by omega)
 omega
end
theorem Z_(l:List Nat)(n:Nat)(ar:l.length=n+1)(aE:2<=n):val l=val (l.take (n-2))+4294967296^(n-2)*(l[n-2]?.getD 0+4294967296*(l[n-1]?.getD 0+4294967296*(l[n]?.getD 0))):=by
 have h7:l.take (n+1)=l:=by rw[<-ar,List.take_length]
 have o:=iu l n
 have aa:=iu l (n-1)
 have aD:=iu l (n-2)
 rw[show n-1+1=n by omega]at aa
 rw[show n-2+1=n-1 by omega]at aD
 rw[h7]at o
 rw[o,aa,aD]
 have dp:(4294967296:Nat)^(n-1)=4294967296^(n-2)*4294967296:=by rw[<-Nat.pow_succ];congr 1;omega
 have hd:(4294967296:Nat)^n=4294967296^(n-2)*4294967296*4294967296:=by rw[<-Nat.pow_succ,<-Nat.pow_succ];congr 1;omega
 rw[dp,hd]
 generalize (4294967296:Nat)^(n-2)=E
 grind
theorem Z9(l:List Nat)(n:Nat)(ar:l.length=n)(aE:2<=n):val l=val (l.take (n-2))+4294967296^(n-2)*(l[n-2]?.getD 0+4294967296*(l[n-1]?.getD 0)):=by
 have h7:l.take n=l:=by rw[<-ar,List.take_length]
 have aa:=iu l (n-1)
 have aD:=iu l (n-2)
 rw[show n-1+1=n by omega,h7]at aa
 rw[show n-2+1=n-1 by omega]at aD
 rw[aa,aD]
 have dp:(4294967296:Nat)^(n-1)=4294967296^(n-2)*4294967296:=by rw[<-Nat.pow_succ];congr 1;omega
 rw[dp]
 generalize (4294967296:Nat)^(n-2)=E
 grind
def fv(l:List Nat):List Value:=l.map fun(n:Nat)=>Value.int .u32 (n:Int)
section
variable {P:Program} {r:List br} {F:Fr} {H:ab} {Q:Fr->ab->Prop}
theorem sI{d t d2 e n b U cap:Nat}{l:Bool}{x i:Operand}{pre post:List Value}{us:List Nat}{aw:a_ (bb d t x i::aO d2 e (T d)::r) Q}(aR:H[b]?=some (.own e l (pre++(fv us++post))))(aK:pre.length=U)(I:aq F x= .slice (some ⟨b,U,none⟩) us.length cap)(ad:aq F i= .int .i64 (n:Int))(aE:n<us.length)
  (bt:eO P t=some e)(an:bn P e=some 1)(dM:c_ P e=some false)(K:∀p,a8 P r Q .mk (aX (aX F d p) d2 (.int .u32 ((us[n]?.getD 0:Nat):Int))) H):a8 P (bb d t x i::aO d2 e (T d)::r) Q aw F H:=by
 rw[fJ,I,ad,oO,m9,bt,eY,an,eY,oM]
 refine df.mk ⟨by omega,by omega⟩ ?_
 rw[uW]
 simp only[kD,hJ,mf,aR,Option.bind_some,bA.cells?,eY,dM,Int.toNat_natCast,sQ]
 have:(pre++(fv us++post))[U+n*1]?=some (.int .u32 ((us[n]?.getD 0:Nat):Int)):=by
  unfold fv
  rw[List.getElem?_append_right (by omega),List.getElem?_append_left (by simp;omega),List.getElem?_map]
  rw[show U+n*1-pre.length=n by omega,bx aE]
  rfl
 rw[this,eY]
 exact K _
theorem Yi{j d t d2 e n b U cap:Nat}{w l:Bool}{x i:Operand}{pre post:List Value}{us:List Nat}{aw:a_ (bb d t x i::aN j w (aO d2 e (T d))::r) Q}(aU:gR (F j)=some w)(lM:j≠d)(aR:H[b]?=some (.own e l (pre++(fv us++post))))(aK:pre.length=U)(I:aq F x= .slice (some ⟨b,U,none⟩) us.length cap)(ad:aq F i= .int .i64 (n:Int))(aE:n<us.length)
  (bt:eO P t=some e)(an:bn P e=some 1)(dM:c_ P e=some false)(K:∀p,a8 P r Q .mk (aX (aX F d p) d2 (.int .u32 ((us[n]?.getD 0:Nat):Int))) H):a8 P (bb d t x i::aN j w (aO d2 e (T d))::r) Q aw F H:=by
 have aH:a8 P (bb d t x i::aO d2 e (T d)::r) Q .mk F H:=sI aR aK I ad aE bt an dM K
 rw[fJ,I,ad,oO,m9,bt,eY,an,eY,oM]at aH⊢
 exact⟨aH.1,uV (by rw[gY _ _ lM];exact aU) aH.2⟩
theorem AX{d t e n b U cap z:Nat}{l:Bool}{x i y:Operand}{pre post:List Value}{us:List Nat}{aw:a_ (bb d t x i::st e (T d) y::r) Q}(aR:H[b]?=some (.own e l (pre++(fv us++post))))(aK:pre.length=U)(I:aq F x= .slice (some ⟨b,U,none⟩) us.length cap)(ad:aq F i= .int .i64 (n:Int))(aE:n<us.length)
  (aJ:∀v,aq (aX F d v) y= .int .u32 (z:Int))(bt:eO P t=some e)(an:bn P e=some 1)(K:∀p,a8 P r Q .mk (aX F d p) (H.set b (.own e l (pre++(fv (us.set n z)++post))))):a8 P (bb d t x i::st e (T d) y::r) Q aw F H:=by
 rw[fJ,I,ad,oO,m9,bt,eY,an,eY,oM]
 refine df.mk ⟨by omega,by omega⟩ ?_
 rw[MN]
 simp only[kD,hJ,mf,aR,FU,Int.toNat_natCast,aJ]
 refine df.mk ⟨by rw[an];rfl,by simp[fv];omega,by simp⟩ ?_
 have:lr (pre++(fv us++post)) (U+n*1) (Value.int IntKind.u32 (z:Int)).cells.toList=pre++(fv (us.set n z)++post):=by
  show(pre++(fv us++post)).set (U+n*1) (.int .u32 (z:Int))=_
  unfold fv
  rw[List.set_append_right _ _ (by omega),List.set_append_left _ _ (by simp;omega)]
  rw[show U+n*1-pre.length=n by omega,List.map_set]
 rw[aJ,this]
 exact K _
end
end Go.b9
end
section
set_option maxRecDepth 8000
namespace Go.b9
open Go.Proofs
open Go.Proofs.Try (prog)
attribute [-simp] fJ gN
theorem Mh{H:ab}{b:Nat}{X:bA}(h:H[b]?=some X):H.set b X=H:=by
 apply List.ext_getElem?
 intro i
 by_cases ad:b=i
 ·subst ad;rw[List.getElem?_set_self (cd.1 h).1,h]
 ·rw[List.getElem?_set_ne ad]
theorem Oz{v:Value}{b U cap m:Nat}{l:Bool}{pre post:List Value}{us aA:List Nat}{H:ab}(aR:H[b]?=some (.own 95 l (pre++(fv us++post))))(aK:pre.length=U)(sh:us.length=m+3)(ju:∀x∈us,x<4294967296)
  (n7:∀X,(∀e cs,X≠ .ro e cs)->cO (H.set b X) 95 v aA)(jv:aA.length=m+2)(hm:m<1048576)(pk:aA[m+1]?.getD 0≠0)(a3:val us<4294967296*val aA):
  a0 prog 89 [.slice (some ⟨b,U,none⟩) (m+3) cap,v] H (fun w H1=>(∃q:Nat,w= .int .u32 (q:Int)/\q=val us/val aA)/\∃du,H1=H.set b (.own 95 l (pre++(fv du++post)))/\du.length=m+3/\(∀x∈du,x<4294967296)/\val du=val us % val aA):=by
 refine a0.cq fun Q aG=>?_
 apply Uo (by simp)
 have gD:=(cd.1 aR).1
 have nm:=fun du:List Nat=>n7 (.own 95 l (pre++(fv du++post))) (by simp)
 have tC:Row 95 1 false fM H v aA:=by
  have:=(nm us).row
  rwa[Mh aR]at this
 obtain⟨agp,ags,rfl⟩:=tC.len
 rw[jv]at n7 nm tC⊢
 have kK:IntKind.i64.wrap ((m:Int)+2-1)=(m:Int)+1:=by rw[cP (by omega) (by omega)];omega
 have zT:IntKind.i64.wrap (m:Int)=(m:Int):=cP (by omega) (by omega)
 have r2:IntKind.i64.wrap ((m:Int)+2-2)=(m:Int):=by rw[cP (by omega) (by omega)];omega
 obtain⟨lq,nz⟩:∃x,us[m+2]?.getD 0=x:=⟨_,rfl⟩
 obtain⟨nK,ny⟩:∃x,us[m+1]?.getD 0=x:=⟨_,rfl⟩
 obtain⟨e3,w2⟩:∃x,us[m]?.getD 0=x:=⟨_,rfl⟩
 obtain⟨cf,sm⟩:∃x,aA[m+1]?.getD 0=x:=⟨_,rfl⟩
 obtain⟨v0,DH⟩:∃x,aA[m]?.getD 0=x:=⟨_,rfl⟩
 have qi:∀k,us[k]?.getD 0<4294967296:=fun k=>vG (by decide) ju k
 have y0:∀k,aA[k]?.getD 0<4294967296:=fun k=>vG (by decide) (nm us).2 k
 have K5:=nz▸qi (m+2)
 have VF:=ny▸qi (m+1)
 have K4:=w2▸qi m
 have aeu:=sm▸y0 (m+1)
 have z8:=DH▸y0 m
 rw[sm]at pk
 have DL:aA[m+1]?=some cf:=by rw[<-sm,bx (by omega)];rfl
 have Th:aA[m]?=some v0:=by rw[<-DH,bx (by omega)];rfl
 obtain⟨top,lT⟩:∃x,lq*4294967296+nK=x:=⟨_,rfl⟩
 obtain⟨E,bJ⟩:∃E,4294967296^m=E:=⟨_,rfl⟩
 have we:val us=val (us.take m)+E*(e3+4294967296*top):=by
  have:=Z_ us (m+2) sh (by omega)
  simp only[Nat.add_sub_cancel,show m+2-1=m+1 by omega,w2,ny,nz,bJ]at this
  rw[this,<-lT]
  grind
 have tD:val aA=val (aA.take m)+E*(v0+4294967296*cf):=by
  have:=Z9 aA (m+2) jv (by omega)
  simpa only[Nat.add_sub_cancel,show m+2-1=m+1 by omega,DH,sm,bJ]using this
 have Kh:val (us.take m)<E:=by
  have:=jC (l:=us.take m) fun x I=>ju x (List.mem_of_mem_take I)
  rwa[List.length_take,Nat.min_eq_left (by omega),bJ]at this
 have Km:val (aA.take m)<E:=by
  have:=jC (l:=aA.take m) fun x I=>(nm us).2 x (List.mem_of_mem_take I)
  rwa[List.length_take,Nat.min_eq_left (by omega),bJ]at this
 have w6:0<cf:=by omega
 obtain⟨q,av⟩:∃q,val us/val aA=q:=⟨_,rfl⟩
 have tB:0<val aA:=by
  rw[tD]
  have:0<E*(v0+4294967296*cf):=Nat.mul_pos (by omega) (by omega)
  omega
 have zB:q<4294967296:=by rw[<-av,Nat.div_lt_iff_lt_mul tB];exact a3
 have aef:top<4294967296*cf+4294967296:=by
  have o:E*(4294967296*top)<4294967296*(E*(4294967296*(cf+1))):=by
   have b1:E*(4294967296*top)<=val us:=by rw[we];have:E*(4294967296*top)<=E*(e3+4294967296*top):=Nat.mul_le_mul_left _ (by omega);omega
   have ds:val aA<E*(4294967296*(cf+1)):=by
    rw[tD]
    have:E*(v0+1)<=E*4294967296:=Nat.mul_le_mul_left _ z8
    grind
   omega
  have aa:E*(4294967296*top)<E*(4294967296*(4294967296*(cf+1))):=by
   have:4294967296*(E*(4294967296*(cf+1)))=E*(4294967296*(4294967296*(cf+1))):=by grind
   omega
  have:=Nat.lt_of_mul_lt_mul_left aa
  omega
 have BH:IntKind.u64.wrap (cf:Int)=(cf:Int):=fR (by omega) (by omega)
 have Ov:IntKind.u64.wrap (v0:Int)=(v0:Int):=fR (by omega) (by omega)
 have Oj:IntKind.u64.wrap (lq:Int)=(lq:Int):=fR (by omega) (by omega)
 have Oi:IntKind.u64.wrap (nK:Int)=(nK:Int):=fR (by omega) (by omega)
 have Oh:IntKind.u64.wrap (e3:Int)=(e3:Int):=fR (by omega) (by omega)
 obtain⟨s2,qC⟩:∃s,lq*4294967296=s:=⟨_,rfl⟩
 have SV:IntKind.u64.wrap ((lq:Int)*4294967296)=(s2:Int):=by rw[fR (by omega) (by omega)];omega
 have zO:pE (s2:Int) (nK:Int)=(top:Int):=by
  have:=uC (r:=lq) K5 VF
  rw[qC]at this
  rw[this];omega
 obtain⟨ch,zc⟩:∃g,top/cf=g:=⟨_,rfl⟩
 obtain⟨dS,eV⟩:∃g,top % cf=g:=⟨_,rfl⟩
 have mw:=Nat.div_add_mod top cf
 rw[zc,eV]at mw
 have SM:dS<cf:=by rw[<-eV];exact Nat.mod_lt _ w6
 have zA:q<=ch:=by
  have:=PH (E:=E) (ul:=val (us.take m)) (e3:=e3) (top:=top) (gO:=val (aA.take m)) (aA:=v0) (cf:=cf) Kh K4 w6
  rw[<-we,<-tD,av,zc]at this
  exact this
 have adL:ch<8589934592:=by
  rw[<-zc,Nat.div_lt_iff_lt_mul w6]
  omega
 have ediv:((top:Int).tdiv cf)=(ch:Int):=by rw[<-zc];rfl
 have emod:((top:Int).tmod cf)=(dS:Int):=by rw[<-eV];rfl
 have aaj:IntKind.u64.wrap (ch:Int)=(ch:Int):=fR (by omega) (by omega)
 have aej:¬((cf:Int)=0):=by omega
 simp[GK,gN]
 refine sI (cap:=cap) (n:=m+2) aR aK (by simp[sh]) (by simp) (by omega) (by simp) (by simp) (by simp) fun dp=>?_
 simp[nz,Oj,SV,kK]
 refine sI (cap:=cap) (n:=m+1) aR aK (by simp[sh]) (by simp) (by omega) (by simp) (by simp) (by simp) fun hd=>?_
 simp[ny,Oi,zO,kK]
 refine cK (af:=fM) (n:=m+1) (by simpa using tC) (by simp) DL (by simp) (by simp) (by simp) (.inr rfl) ?_
 rintro eM cc ⟨rfl,-⟩
 simp[BH,kK,ediv,aaj,pk]
 refine cK (af:=fM) (n:=m+1) (by simpa using tC) (by simp) DL (by simp) (by simp) (by simp) (.inr rfl) ?_
 rintro gK q_ ⟨rfl,-⟩
 simp[BH,emod,pk]
 have RK:∀g r,g*cf+r=top->(4294967296<=g\/r*4294967296+e3<g*v0)->q<g:=fun g r o aa=>by
  rcases aa with aa | aa
  ·omega
  ·have:=PJ (E:=E) (ul:=val (us.take m)) (e3:=e3) (top:=top) (gO:=val (aA.take m)) (aA:=v0) (cf:=cf) Kh o aa
   rwa[<-we,<-tD,av]at this
 have RJ:∀g r,g<4294967296->g*cf+r=top->¬r*4294967296+e3<g*v0->g<=q+1:=fun g r aH o aa=>by
  have:=PI (E:=E) (ul:=val (us.take m)) (e3:=e3) (top:=top) (gO:=val (aA.take m)) (aA:=v0) (cf:=cf) Km w6 aH o (by omega)
  rwa[<-we,<-tD,av]at this
 have RH:∀g r,g<4294967296->g*cf+r=top->4294967296<=r->g<=q:=fun g r aH o aa=>by
  have:=PG (E:=E) (ul:=val (us.take m)) (e3:=e3) (top:=top) (gO:=val (aA.take m)) (aA:=v0) (cf:=cf) Km z8 w6 aH o aa
  rwa[<-we,<-tD,av]at this
 refine bV.join (by kernel_rfl) (fun dG e7 bZ=>bZ=H/\∃g:Nat,dG 7= .int .u64 g/\g<4294967296/\q<=g/\g<=q+1) ?_ ?_
 ·rintro dY g_-
  simp only[ZV,ZY]
  refine dy.mk (by kernel_rfl) (fun g dG e7 bZ=>bZ=H/\∃r:Nat,dG 7= .int .u64 g/\dG 8= .int .u64 r/\g*cf+r=top/\r<4294967296/\q<=g) ch ⟨rfl,dS,by simp,by simp,by rw[Nat.mul_comm];exact mw,by omega,zA⟩ ?_
  rintro g dG e7 bZ ⟨rfl,r,cJ,d_,Jx,jW,J3⟩ K a1
  simp at cJ d_
  have adM:g<8589934592:=by
   have:g*cf<8589934592*cf:=by
    have:4294967296*cf<=4294967296*cf:=Nat.le_refl _
    omega
   exact Nat.lt_of_mul_lt_mul_right this
  simp only[kp]
  refine bV.join (by kernel_rfl) (fun c7 dV bR=>bR=bZ/\∃c:Bool,c7 68= .bool c/\(c=true↔(4294967296<=g\/r*4294967296+e3<g*v0))) ?_ ?_
  ·rintro cT JP-
   have wY:((g:Int).fdiv 4294967296)=((g/4294967296:Nat):Int):=by rw[ml _ (by decide)];omega
   simp[cJ,wY]
   refine bG.cC (fun ag=>?_) (fun ag=>?_)
   ·simp[ag]
    exact JP _ _ _ ⟨rfl,true,by simp,by simp;omega⟩
   ·simp[ag]
    have tP:g<4294967296:=by omega
    refine mV (af:=fM) (n:=m) (by simp[ag]) (by decide) (by simpa using tC) (by simp[zT]) Th (by simp) (by simp) (by simp) (.inr rfl) ?_
    rintro iI A7 ⟨rfl,-⟩
    have hmul:IntKind.u64.wrap ((g:Int)*v0)=((g*v0:Nat):Int):=Eg tP z8
    obtain⟨adq,Jz⟩:∃x,g*v0=x:=⟨_,rfl⟩
    obtain⟨rs,sd⟩:∃x,r*4294967296=x:=⟨_,rfl⟩
    have SW:IntKind.u64.wrap ((r:Int)*4294967296)=(rs:Int):=by rw[fR (by omega) (by omega)];omega
    rw[Jz]at hmul
    simp[ag,Ov,cJ,d_,hmul,SW]
    refine Yi (cap:=cap) (n:=m) (by simp[ag]) (by decide) aR aK (by simp[sh]) (by simp[zT]) (by omega) (by simp) (by simp) (by simp) fun mP=>?_
    have aQ:=uC (r:=r) jW K4
    rw[sd]at aQ
    obtain⟨aeH,J7⟩:∃x,rs+e3=x:=⟨_,rfl⟩
    rw[J7]at aQ
    simp[ag,w2,Oh,aQ]
    refine JP _ _ _ ⟨rfl,_,by simp;rfl,?_⟩
    simp[Jz,sd,J7]
    omega
  ·rintro c7 dV bR ⟨rfl,c,IF,fE⟩
   simp at IF
   simp[IF]
   refine bG.mk (fun ag=>?_) (fun ag=>?_)
   ·have aeb:=RK g r Jx (fE.1 ag)
    have n_:IntKind.u64.wrap ((g:Int)-1)=((g-1:Nat):Int):=by rw[fR (by omega) (by omega)];omega
    obtain⟨j9,C4⟩:∃x,g-1=x:=⟨_,rfl⟩
    rw[C4]at n_
    simp[cJ,n_,d_,kK]
    refine cK (af:=fM) (n:=m+1) (by simpa using tC) (by simp) DL (by simp) (by simp) (by simp) (.inr rfl) ?_
    rintro iI A7 ⟨rfl,-⟩
    obtain⟨di,fq⟩:∃x,r+cf=x:=⟨_,rfl⟩
    have rP:IntKind.u64.wrap ((r:Int)+cf)=(di:Int):=by rw[fR (by omega) (by omega)];omega
    have wY:((di:Int).fdiv 4294967296)=((di/4294967296:Nat):Int):=by rw[ml _ (by decide)];omega
    have Jy:j9*cf+di=top:=by
     have:g*cf=j9*cf+cf:=by rw[show g=j9+1 by omega,Nat.succ_mul]
     omega
    simp[BH,rP,wY]
    refine bG.cC (fun aL=>?_) (fun aL=>?_)
    ·have RD:4294967296<=di:=by omega
     have Jq:j9<4294967296:=by
      have:j9*cf<4294967296*cf:=by omega
      exact Nat.lt_of_mul_lt_mul_right this
     exact g_ _ _ _ ⟨rfl,j9,by simp,Jq,by omega,Nat.le_succ_of_le (RH j9 di Jq Jy RD)⟩
    ·exact a1 j9 _ _ _ (by omega) ⟨rfl,di,by simp,by simp,Jy,by omega,by omega⟩
   ·have adG:¬(4294967296<=g\/r*4294967296+e3<g*v0):=fun h=>by rw[fE.2 h]at ag;cases ag
    have tP:g<4294967296:=by omega
    exact g_ _ _ _ ⟨rfl,g,by simp[cJ],tP,J3,RJ g r tP Jx (by omega)⟩
 ·rintro dG e7 bZ ⟨rfl,g,cJ,tP,J3,adN⟩
  simp at cJ
  simp[gN]
  refine dy.range (by kernel_rfl) (m+2) (by omega) (by simp) (by rfl) (by simp) (by decide) (by decide) (fun i c7 dV bR=>∃(du:List Nat) (c d:Nat),bR=bZ.set b (.own 95 l (pre++(fv du++post)))/\du.length=m+3/\(∀x∈du,x<4294967296)/\(∀j,i<=j->du[j]?.getD 0=us[j]?.getD 0)/\c7 9= .int .u64 c/\c7 10= .int .u32 d/\c<4294967296/\d<=1/\val (du.take i)+g*val (aA.take i)=val (us.take i)+4294967296^i*(c+d)) ?_ ?_ ?_
  ·exact⟨us,0,0,(Mh aR).symm,sh,ju,fun _ _=>rfl,by simp,by simp,by decide,by decide,by simp[val]⟩
  ·rintro i c7 dV bR ad a2 ⟨du,c,d,rfl,dz,iT,zF,n0,hN,ag,aL,gV⟩ K a1
   simp at a2 n0 hN
   obtain⟨pN,sj⟩:∃x,aA[i]?.getD 0=x:=⟨_,rfl⟩
   have Eb:=sj▸y0 i
   have DK:aA[i]?=some pN:=by rw[<-sj,bx (by omega)];rfl
   obtain⟨u0,DF⟩:∃x,us[i]?.getD 0=x:=⟨_,rfl⟩
   have VG:=DF▸qi i
   have Ow:IntKind.u64.wrap (pN:Int)=(pN:Int):=fR (by omega) (by omega)
   obtain⟨t0,DB⟩:∃x,g*pN=x:=⟨_,rfl⟩
   have wK:IntKind.u64.wrap ((g:Int)*pN)=(t0:Int):=by rw[Eg tP Eb,DB]
   have aec:t0<=4294967295*4294967295:=by rw[<-DB];exact Nat.mul_le_mul (by omega) (by omega)
   obtain⟨t,bt⟩:∃x,t0+c=x:=⟨_,rfl⟩
   have zq:IntKind.u64.wrap ((t0:Int)+c)=(t:Int):=by rw[fR (by omega) (by omega)];omega
   obtain⟨fg,mD⟩:∃x,t % 4294967296=x:=⟨_,rfl⟩
   obtain⟨l4,Kd⟩:∃x,t/4294967296=x:=⟨_,rfl⟩
   have tZ:((t:Int).fdiv 4294967296)=(l4:Int):=by rw[ml _ (by decide)];omega
   have zr:IntKind.u32.wrap (t:Int)=(fg:Int):=by rw[nM];omega
   simp[a2,cJ]
   refine cK (af:=fM) (n:=i) (by simpa using(nm du).row) (by simp) DK (by simp) (by simp) (by simp) (.inr rfl) ?_
   rintro iI A7 ⟨rfl,-⟩
   have CG:(bZ.set b (.own 95 l (pre++(fv du++post))))[b]?=some (.own 95 l (pre++(fv du++post))):=List.getElem?_set_self gD
   simp[a2,cJ,n0,hN,Ow,wK,zq,tZ]
   refine sI (b:=b) (l:=l) (pre:=pre) (us:=du) (post:=post) (cap:=cap) (n:=i) CG aK (by simp[dz]) (by simp) (by omega) (by simp) (by simp) (by simp) fun mP=>?_
   rw[zF i (Nat.le_refl _),DF]
   simp[zr,hN]
   refine a7.mk (ER VG (by omega) aL) ?_
   rintro w b_ ⟨rfl,s,fc,rfl,an,kI,ub⟩
   simp
   refine AX (b:=b) (l:=l) (pre:=pre) (us:=du) (post:=post) (cap:=cap) (n:=i) (z:=s) CG aK (by simp[dz]) (by simp) (by omega) (by simp) (by simp) (by simp) fun ox=>?_
   simp
   refine a1 _ _ _ (by simp[a2]) ⟨du.set i s,l4,fc,by simp,by simp[dz],?_,?_,by simp,by simp,by omega,kI,?_⟩
   ·intro x I
    rcases List.mem_or_eq_of_mem_set I with I | rfl
    ·exact iT x I
    ·exact an
   ·intro j aQ
    rw[List.getElem?_set_ne (by omega)]
    exact zF j (by omega)
   ·rw[q9 _ _ _ (by omega),iu aA,iu us,sj,DF,Nat.pow_succ]
    generalize 4294967296^i=E at*
    have Dy:u0+4294967296*fc=s+fg+d:=ub
    have DA:t=fg+4294967296*l4:=by omega
    have bp:g*(val (aA.take i)+E*pN)=g*val (aA.take i)+E*t0:=by rw[<-DB];grind
    rw[bp]
    have bo:E*u0+E*(4294967296*fc)=E*s+E*fg+E*d:=by rw[<-Nat.mul_add,Dy,Nat.mul_add,Nat.mul_add]
    have e0:E*t0+E*c=E*fg+E*(4294967296*l4):=by rw[<-Nat.mul_add,bt,DA,Nat.mul_add]
    have j7:E*4294967296*(l4+fc)=E*(4294967296*l4)+E*(4294967296*fc):=by grind
    rw[Nat.mul_add]at gV
    omega
  ·rintro c7 dV bR a2 ⟨du,c,d,rfl,dz,iT,zF,n0,hN,ag,aL,gV⟩
   simp at n0 hN
   have tF:=fun ws:List Nat=>(List.getElem?_set_self (l:=bZ) (a:= .own 95 l (pre++(fv ws++post))) gD)
   have CT:IntKind.u32.wrap (c:Int)=(c:Int):=lu (by omega) (by omega)
   simp
   refine sI (b:=b) (l:=l) (pre:=pre) (us:=du) (post:=post) (cap:=cap) (n:=m+2) (tF du) aK (by simp[dz]) (by simp) (by omega) (by simp) (by simp) (by simp) fun mP=>?_
   rw[zF (m+2) (Nat.le_refl _),nz]
   simp[n0,hN,CT]
   refine a7.mk (ER K5 ag aL) ?_
   rintro w b_ ⟨rfl,s,d2,rfl,an,o5,ub⟩
   simp
   refine AX (b:=b) (l:=l) (pre:=pre) (us:=du) (post:=post) (cap:=cap) (n:=m+2) (z:=s) (tF du) aK (by simp[dz]) (by simp) (by omega) (by simp) (by simp) (by simp) fun ox=>?_
   simp
   obtain⟨ws,sq⟩:∃ws,du.set (m+2) s=ws:=⟨_,rfl⟩
   have w8:ws.length=m+3:=by rw[<-sq];simp[dz]
   have zS:∀x∈ws,x<4294967296:=by
    intro x I
    rw[<-sq]at I
    rcases List.mem_or_eq_of_mem_set I with I | rfl
    ·exact iT x I
    ·exact an
   have Ks:ws[m+2]?.getD 0=s:=by rw[<-sq,List.getElem?_set_self (by omega)];rfl
   have full:∀(x:List Nat) (k:Nat),x.length=k->x.take k=x:=fun x k h=>by rw[<-h,List.take_length]
   obtain⟨kV,qb⟩:∃kV,4294967296^(m+2)=kV:=⟨_,rfl⟩
   have Tu:val ws+g*val aA=val us+kV*4294967296*d2:=by
    have bp:=q9 du (m+2) s (by omega)
    rw[sq,full ws _ w8,qb]at bp
    have bo:=iu us (m+2)
    rw[full us _ sh,nz,qb]at bo
    rw[full aA _ jv,qb]at gV
    rw[bp,bo]
    have:kV*lq+kV*(4294967296*d2)=kV*s+kV*(c+d):=by rw[<-Nat.mul_add,<-Nat.mul_add];congr 1;omega
    have:kV*4294967296*d2=kV*(4294967296*d2):=by grind
    omega
   rw[sq]
   have zE:val us % val aA=val us-q*val aA/\q*val aA<=val us/\val us<(q+1)*val aA:=by
    have o:=Nat.div_add_mod (val us) (val aA)
    have aa:=Nat.mod_lt (val us) tB
    rw[av,Nat.mul_comm]at o
    refine⟨by omega,by omega,?_⟩
    rw[Nat.succ_mul]
    omega
   have aek:val ws<kV*4294967296:=by
    have:=jC zS
    rwa[w8,Nat.pow_succ,qb]at this
   refine bV.join (by kernel_rfl) (fun fS hj b_=>fS 7= .int .u64 q/\∃u3:List Nat,b_=bZ.set b (.own 95 l (pre++(fv u3++post)))/\u3.length=m+3/\(∀x∈u3,x<4294967296)/\val u3=val us % val aA) ?_ ?_
   ·rintro dY g_-
    simp
    refine bG.cC (fun aT=>?_) (fun aT=>?_)
    ·have kJ:d2=1:=by omega
     subst kJ
     have aU:g=q+1:=by
      have:q<g:=by
       rcases Nat.lt_or_ge q g with h | h
       ·exact h
       ·have:g*val aA<=q*val aA:=Nat.mul_le_mul_right _ h
        omega
      omega
     have RM:IntKind.u64.wrap ((g:Int)-1)=(q:Int):=by rw[fR (by omega) (by omega)];omega
     simp[cJ,RM,gN]
     refine dy.range (by kernel_rfl) (m+2) (by omega) (by simp) (by rfl) (by simp) (by decide) (by decide) (fun i m0 pU dX=>∃(xs:List Nat) (cl:Nat),dX=bZ.set b (.own 95 l (pre++(fv xs++post)))/\xs.length=m+3/\(∀x∈xs,x<4294967296)/\(∀j,i<=j->xs[j]?.getD 0=ws[j]?.getD 0)/\m0 13= .int .u32 cl/\cl<=1/\val (xs.take i)+4294967296^i*cl=val (ws.take i)+val (aA.take i)) ?_ ?_ ?_
     ·exact⟨ws,0,rfl,w8,zS,fun _ _=>rfl,by simp,by decide,by simp[val]⟩
     ·rintro i m0 pU dX ad a2 ⟨xs,cl,rfl,iW,DY,ha,h8,zx,KG⟩ K a1
      simp at a2 h8
      obtain⟨pN,sj⟩:∃x,aA[i]?.getD 0=x:=⟨_,rfl⟩
      have Eb:=sj▸y0 i
      have DK:aA[i]?=some pN:=by rw[<-sj,bx (by omega)];rfl
      obtain⟨e4,DX⟩:∃x,ws[i]?.getD 0=x:=⟨_,rfl⟩
      have VI:e4<4294967296:=DX▸vG (by decide) zS i
      simp[a2]
      refine sI (b:=b) (l:=l) (pre:=pre) (us:=xs) (post:=post) (cap:=cap) (n:=i) (tF xs) aK (by simp[iW]) (by simp) (by omega) (by simp) (by simp) (by simp) fun qU=>?_
      rw[ha i (Nat.le_refl _),DX]
      simp
      refine cK (af:=fM) (n:=i) (by simpa using(nm xs).row) (by simp) DK (by simp) (by simp) (by simp) (.inr rfl) ?_
      rintro Am agz ⟨rfl,-⟩
      simp[h8]
      refine a7.mk (Hp VI Eb zx) ?_
      rintro w cE ⟨rfl,y,Ah,rfl,aJ,Sv,Dy⟩
      simp
      refine AX (b:=b) (l:=l) (pre:=pre) (us:=xs) (post:=post) (cap:=cap) (n:=i) (z:=y) (tF xs) aK (by simp[iW]) (by simp) (by omega) (by simp) (by simp) (by simp) fun Aj=>?_
      simp
      refine a1 _ _ _ (by simp[a2]) ⟨xs.set i y,Ah,by simp,by simp[iW],?_,?_,by simp,Sv,?_⟩
      ·intro x I
       rcases List.mem_or_eq_of_mem_set I with I | rfl
       ·exact DY x I
       ·exact aJ
      ·intro j aQ
       rw[List.getElem?_set_ne (by omega)]
       exact ha j (by omega)
      ·rw[q9 _ _ _ (by omega),iu aA,iu ws,sj,DX,Nat.pow_succ]
       generalize 4294967296^i=E at*
       have bp:E*y+E*(4294967296*Ah)=E*e4+E*pN+E*cl:=by rw[<-Nat.mul_add,Dy,Nat.mul_add,Nat.mul_add]
       have bo:E*4294967296*Ah=E*(4294967296*Ah):=by grind
       omega
     ·rintro m0 pU dX a2 ⟨xs,cl,rfl,iW,DY,ha,h8,zx,KG⟩
      simp at h8
      simp
      refine sI (b:=b) (l:=l) (pre:=pre) (us:=xs) (post:=post) (cap:=cap) (n:=m+2) (tF xs) aK (by simp[iW]) (by simp) (by omega) (by simp) (by simp) (by simp) fun qU=>?_
      rw[ha (m+2) (Nat.le_refl _),Ks]
      obtain⟨y,aJ⟩:∃y,(s+cl) % 4294967296=y:=⟨_,rfl⟩
      have qL:IntKind.u32.wrap ((s:Int)+cl)=(y:Int):=by rw[nM];omega
      simp[h8,qL]
      refine AX (b:=b) (l:=l) (pre:=pre) (us:=xs) (post:=post) (cap:=cap) (n:=m+2) (z:=y) (tF xs) aK (by simp[iW]) (by simp) (by omega) (by simp) (by simp) (by simp) fun Aj=>?_
      simp
      have ou:∀x∈xs.set (m+2) y,x<4294967296:=by
       intro x I
       rcases List.mem_or_eq_of_mem_set I with I | rfl
       ·exact DY x I
       ·omega
      refine g_ _ _ _ ⟨by simp,xs.set (m+2) y,by simp,by simp[iW],ou,?_⟩
      have bp:=q9 xs (m+2) y (by omega)
      rw[full (xs.set (m+2) y) (m+2+1) (by simp[iW]),qb]at bp
      have Sb:=jC ou
      rw[List.length_set,iW,Nat.pow_succ,qb]at Sb
      have bo:=iu ws (m+2)
      rw[full ws _ w8,Ks,qb]at bo
      rw[full aA _ jv,qb]at KG
      rw[zE.1]
      rw[aU,Nat.succ_mul]at Tu
      rcases Nat.lt_or_ge (s+cl) 4294967296 with o | o
      ·have:y=s+cl:=by omega
       subst this
       rw[Nat.mul_add]at bp
       omega
      ·have:s+cl=y+4294967296:=by omega
       have e0:kV*s+kV*cl=kV*y+kV*4294967296:=by rw[<-Nat.mul_add,this,Nat.mul_add]
       omega
    ·have Rv:d2=0:=by omega
     subst Rv
     have aU:g=q:=by
      have:g<=q:=by
       rcases Nat.lt_or_ge q g with h | h
       ·have:(q+1)*val aA<=g*val aA:=Nat.mul_le_mul_right _ h
        omega
       ·exact h
      omega
     subst aU
     exact g_ _ _ _ ⟨by simp[cJ],ws,rfl,w8,zS,by rw[zE.1];omega⟩
   ·rintro fS hj b_ ⟨IG,u3,rfl,Da,Sc,DI⟩
    simp at IG
    have zD:IntKind.u32.wrap (q:Int)=(q:Int):=lu (by omega) (by omega)
    simp[IG,zD,bj]
    exact aG _ _ ⟨⟨q,rfl,av.symm⟩,u3,rfl,Da,Sc,DI⟩
end Go.b9
end
section
set_option maxRecDepth 8000
namespace Go.b9
open Go.Proofs
open Go.Proofs.Try (prog)
attribute [-simp] fJ gN hI
theorem Yd{P:Program}{r:List br}{F:Fr}{H:ab}{Q:Fr->ab->Prop}{d t n:Nat}{x i:Operand}{s:ByteArray}{y:Nat}{aw:a_ (ew d t x i::r) Q}(an:aq F x= .string s)(bt:iq P t=true)(ai:∃k,aq F i= .int k (n:Int))(aE:n<s.size)(aJ:(s.data.getD n 0).toNat=y)(K:a8 P r Q .mk (aX F d (.int .u8 (y:Int))) H):a8 P (ew d t x i::r) Q aw F H:=by
 obtain⟨k,ai⟩:=ai
 rw[hI,an,ai,FX,m9]
 refine df.mk ⟨bt,by omega,by omega⟩ ?_
 rw[Int.toNat_natCast,aJ]
 exact K
theorem Yc{P:Program}{r:List br}{F:Fr}{H:ab}{Q:Fr->ab->Prop}{d t n m:Nat}{x i:Operand}{s:ByteArray}{p:Nat->Nat->Prop}{aw:a_ (ew d t x i::r) Q}(an:aq F x= .string s)(bt:iq P t=true)(ai:∃k,aq F i= .int k (n:Int))(hm:s.size=m)(aE:n<m)(aT:∀j,j<m->p j (s.data.getD j 0).toNat)(K:∀y,p n y->a8 P r Q .mk (aX F d (.int .u8 (y:Int))) H):a8 P (ew d t x i::r) Q aw F H:=
 Yd an bt ai (by omega) rfl (K _ (aT n aE))
theorem Vw{x:Nat}{H:ab}(I:x<4294967296):a0 prog 96 [.int .u32 x] H (fun v H1=>H1=H/\∃n:Nat,v= .int .i64 n/\x<2^n/\n<=32/\(0<x->0<n)):=by
 refine a0.cq fun Q aG=>?_
 apply TT (by simp)
 unfold Gs
 simp only[kp]
 simp
 refine bV.join (by kernel_rfl) (fun az bC H1=>H1=H/\∃y n:Nat,az 0= .int .u32 y/\az 2= .int .i64 n/\y<65536/\x<(y+1)*2^n/\n<=16/\(0<x->0<n\/0<y)) ?_ ?_
 ·rintro dY g_-
  simp
  refine bG.cC (fun ag=>?_) (fun ag=>?_)
  ·have:((x:Int).fdiv 65536)=((x/65536:Nat):Int):=by rw[ml _ (by decide)];omega
   simp[this]
   exact g_ _ _ _ ⟨rfl,x/65536,16,by simp,by simp,by omega,by omega,by decide,by omega⟩
  ·exact g_ _ _ _ ⟨rfl,x,0,by simp,by simp,by omega,by omega,by decide,by omega⟩
 ·rintro az bC H1 ⟨rfl,y,n,aH,aa,aJ,mJ,aE,hP⟩
  simp at aH aa
  refine bV.join (by kernel_rfl) (fun dG e7 bZ=>bZ=H1/\∃l7 dI:Nat,dG 0= .int .u32 l7/\dG 2= .int .i64 dI/\l7<256/\x<(l7+1)*2^dI/\dI<=24/\(0<x->0<dI\/0<l7)) ?_ ?_
  ·rintro dY g_-
   simp[aH]
   refine bG.cC (fun ag=>?_) (fun ag=>?_)
   ·have bp:((y:Int).fdiv 256)=((y/256:Nat):Int):=by rw[ml _ (by decide)];omega
    have bo:IntKind.i64.wrap ((n:Int)+8)=((n+8:Nat):Int):=by rw[cP (by omega) (by omega)];simp
    simp[aH,bp,aa,bo]
    refine g_ _ _ _ ⟨rfl,y/256,n+8,by simp,by simp,by omega,?_,by omega,fun _=> .inl (by omega)⟩
    have:(y+1)*2^n<=((y/256+1)*256)*2^n:=Nat.mul_le_mul_right _ (by omega)
    rw[Nat.pow_add,Nat.mul_comm (2^n),<-Nat.mul_assoc,show(2:Nat)^8=256 from rfl]
    omega
   ·exact g_ _ _ _ ⟨rfl,y,n,by simp[aH],by simp[aa],by omega,mJ,by omega,hP⟩
  ·rintro dG e7 bZ ⟨rfl,l7,dI,p_,tl,ps,aem,ad7,SC⟩
   simp at p_ tl
   have h7:IntKind.u8.wrap (l7:Int)=(l7:Int):=Ft (by omega) (by omega)
   simp[p_,tl,h7]
   refine Yc (n:=l7) (m:=256) (p:=fun j z=>j<2^z/\z<=8/\(0<j->0<z)) rfl (by simp) ⟨.u8,by simp⟩ (by kernel_rfl) ps (of_decide_eq_true (by kernel_rfl)) ?_
   rintro z ⟨pt,uj,xe⟩
   have e0:IntKind.i64.wrap (z:Int)=(z:Int):=cP (by omega) (by omega)
   have j7:IntKind.i64.wrap ((dI:Int)+z)=((dI+z:Nat):Int):=by rw[cP (by omega) (by omega)];simp
   simp[e0,j7,bj]
   refine aG _ _ ⟨rfl,dI+z,by simp,?_,by omega,fun h=>by have:=SC h;omega⟩
   have:(l7+1)*2^dI<=2^z*2^dI:=Nat.mul_le_mul_right _ pt
   rw[Nat.pow_add,Nat.mul_comm (2^dI)]
   omega
theorem VJ{x:Nat}{H:ab}(I:x<4294967296)(aH:0<x):a0 prog 87 [.int .u32 x] H (fun v H1=>H1=H/\∃n:Nat,v= .int .i64 n/\n<32/\x*2^n<4294967296):=by
 refine a0.cq fun Q aG=>?_
 apply TS (by simp)
 simp[Gr]
 refine a7.mk (Vw I) ?_
 rintro v H1 ⟨rfl,n,rfl,o,aa,aD⟩
 have e:IntKind.i64.wrap (32-(n:Int))=((32-n:Nat):Int):=by rw[cP (by omega) (by omega)];omega
 obtain⟨s,an⟩:∃s,32-n=s:=⟨_,rfl⟩
 rw[an]at e
 simp[e,bj]
 refine aG _ _ ⟨rfl,s,rfl,by have:=aD aH;omega,?_⟩
 have:x*2^s<2^n*2^s:=Nat.mul_lt_mul_of_pos_right o (Nat.pow_pos (by decide))
 rw[<-Nat.pow_add,show n+s=32 by omega]at this
 exact this
end Go.b9
end
