/- ShopDoes returns true for every input and leaves it as it was: no condition. -/
import Derived.Test.YtoiodfcefbapkaaGreatShopDoesJ
set_option linter.unusedVariables false
set_option linter.unusedSimpArgs false
section
set_option maxRecDepth 8000
set_option maxHeartbeats 1000000
namespace Go.dq
open Go.Proofs
open Go.Proofs.Tryz (prog)
attribute [-simp] il jk k3
attribute [-simp] sQ
theorem Ac{l:List Nat}(h:hC l):(0:Int)<et l:=by
 have:=h.2.1
 unfold et
 cases hu:kr l with
 | none=>simp
 | some u=>have:=(this u hu).2;simp;omega
theorem R2{n d:Int}(aD:0<d):0<Rat.divInt n d↔0<n:=by
 have jT:(0:Rat)<(d:Rat):=by exact_mod_cast aD
 rw[Rat.divInt_eq_div]
 constructor
 ·intro h
  have:=Rat.mul_pos h jT
  rw[Rat.div_mul_cancel (Rat.ne_of_gt jT)]at this
  exact_mod_cast this
 ·intro h
  have aJ:(0:Rat)<(n:Rat):=by exact_mod_cast h
  rw[Rat.div_def]
  exact Rat.mul_pos aJ (Rat.inv_pos.2 jT)
theorem aeV{l:List Nat}(h:hC l):0<ha l↔0<fT l:=R2 (Ac h)
theorem aby{v:Value}{a8:List (List Nat×List Int)}{n m:Nat}{H:ab}(hZ:Row 93 2 true dX H v a8)(bD:∀p∈a8,Bytes p.1)(hlen:∀p∈a8,p.1.length<4611686018427387904/\p.2.length<65536)(kX:a8.length<4611686018427387904)(nv:n<1000)(l9:m<1000):
  aO prog 14 [v,.int .i64 n,.int .i64 m] H (fun u H1=>Ext H H1/\∃b,u= .bool b/\(b=true↔∀p∈a8,p0 n m p)):=by
 refine aO.b9 fun Q aC=>?_
 have fail:∀{H1 p},Ext H H1->p∈a8->¬p0 n m p->Q (.bool false) H1:=fun J aU gh=>aC _ _ ⟨J,false,rfl,⟨fun h=>(by cases h),fun h=>absurd (h _ aU) gh⟩⟩
 apply YW (by simp)
 simp[Ji]
 have aju:Ext H (H++[.dead]):=Ext.dead H
 refine c7.mk (by kernel_rfl) (fun w az bE H1=>∃i:Nat,w=a8.length-i/\i<=a8.length/\az 7= .int .i64 (i:Int)/\Ext H H1/\∀p∈a8.take i,p0 n m p) a8.length ⟨0,by omega,by omega,by simp,Ext.refl _,by simp⟩ ?_
 rintro w az bE H1 ⟨i,rfl,af,bV,bq,ev⟩ K aV
 simp at bV
 have qf:=b7.ext (ad:=Row _ _ _ dX) hZ bq
 simp[bV]
 refine ck (ad:=dX) (xs:=a8) (by simpa using qf) (by simp) ?_
 simp
 refine bs.bZ (fun aZ=>?_) (fun aZ=>?_)
 ·refine Exists.elim (⟨_,bz aZ⟩:∃p,a8[i]?=some p) fun p aU=>?_
  have jz:=List.mem_of_getElem? aU
  have Bi:=bD p jz
  have iN:=hlen p jz
  have gW:=kK (show i<4611686018427387904 by omega)
  simp[bV]
  refine PR (xs:=a8) (n:=i) (a:=p) (by simpa using qf) (by simp[bV]) aU (by simp) ?_
  intro oS p2 p7 xV
  try simp
  have fu:=Ext.dead H1
  have Xp:=bq.aw fu
  refine cc.join (by kernel_rfl) (fun bR c4 aS=>Ext (H1++[.dead]) aS/\∃bad,bR 39= .bool bad/\(bad=false↔hC p.1/\0<ha p.1/\p.2.length=m)) ?_ ?_
  ·rintro cZ c3-
   simp
   refine aT.mk (Rs Bi iN.1) ?_
   rintro _ bN ⟨bK,b,rfl,ag⟩
   cases b with
   | false=>
    simp
    exact c3 _ _ _ ⟨bK,true,by simp,⟨fun h=>(by cases h),fun h=>by have:=ag.2 h.1;cases this⟩⟩
   | true=>
    have jA:=ag.1 rfl
    simp
    refine aT.mk (zX Bi iN.1) ?_
    rintro _ bU ⟨ch,r9,d4,⟨s1,b4,cB,cm,s2,cM,cL,cI,rfl,ij,jg⟩,ig⟩
    have MC:=(ig jA).1
    simp
    refine aT.mk (J4 ij) ?_
    rintro _ b5 ⟨cP,rfl⟩
    have mX:=bK.aw (ch.aw cP)
    have Nn:=aeV jA
    by_cases g4:0<r9
    ·have oJ:¬((if r9<0 then(-1:Int)else if r9=0 then 0 else 1)<=0):=by
      rw[if_neg (by omega),if_neg (by omega)];omega
     simp[oJ]
     refine ck (ad:=IR) (xs:=p.2) (by simpa using b7.ext (ad:=dV) xV (fu.aw mX)) (by simp) ?_
     simp
     refine c3 _ _ _ ⟨mX,!decide ((p.2.length:Int)=m),by simp,?_⟩
     simp[jA,Nn,<-MC,g4]
     omega
    ·have oJ:((if r9<0 then(-1:Int)else if r9=0 then 0 else 1)<=0):=by
      split
      ·omega
      ·rw[if_pos (by omega)];omega
     simp[oJ]
     refine c3 _ _ _ ⟨mX,true,by simp,?_⟩
     simp[jA,Nn,<-MC,g4]
  ·rintro bR c4 aS ⟨bl,bad,DU,l6⟩
   simp only[hl]at DU
   simp at DU
   have jY:=Xp.aw bl
   simp[DU]
   refine bs.mk (fun ag=>?_) (fun ag=>?_)
   ·simp[bd]
    refine fail jY jz fun ao=>?_
    have:=l6.2 ao.1
    rw[this]at ag
    cases ag
   ·have aX:=l6.1 ag
    have x_:=aX.2.2
    have jU:=b7.ext (ad:=dV) xV (fu.aw bl)
    have mg:IntKind.i64.wrap ((n:Int)-1)=(n:Int)-1:=b8 (by omega) (by omega)
    simp
    refine c7.mk (by kernel_rfl) (fun w c_ en bN=>∃k:Nat,w=m-k/\k<=m/\c_ 9= .int .i64 (k:Int)/\bN=aS/\∀j,j<k->sJ n p.2 j) m ⟨0,by omega,by omega,by simp,rfl,fun j aY=>by omega⟩ ?_
    rintro w c_ en bN ⟨k,rfl,ak,eB,rfl,vA⟩ nb fN
    simp at eB
    simp[eB]
    refine bs.bZ (fun gB=>?_) (fun gB=>?_)
    ·refine Exists.elim (⟨_,bz (show k<p.2.length by omega)⟩:∃x,p.2[k]?=some x) fun x J=>?_
     have nC:=kK (show k<4611686018427387904 by omega)
     simp[eB]
     refine cv (ad:=IR) (xs:=p.2) (n:=k) (a:=x) (e:=3) (R:=1) (ay:=false) (by simpa using jU) (by simp[eB]) J (by simp) (by simp) (by simp) (by decide) ?_
     rintro tX zs rfl
     simp[mg]
     refine aT.mk BO ?_
     rintro _ bN ⟨rfl,rfl⟩
     simp
     refine bs.mk (fun fe=>?_) (fun fe=>?_)
     ·simp at fe
      simp[bd]
      refine fail jY jz fun ao=>?_
      obtain⟨eD,a0,a4,bI,cj⟩:=((yK.1 ao.2).2 k gB)
      rw[J]at a0
      have:=Option.some.inj a0
      subst this
      omega
     ·simp at fe
      simp
      refine c7.mk (by kernel_rfl) (fun w cT dO bU=>∃l:Nat,w=k-l/\l<=k/\cT 10= .int .i64 (l:Int)/\bU=bN/\∀j,j<l->¬(0<=x/\p.2[j]?=some x)) k ⟨0,by omega,by omega,by simp,rfl,fun j aY=>by omega⟩ ?_
      rintro w cT dO bU ⟨l,rfl,ar,gU,rfl,gh⟩ nZ g1
      simp at gU
      simp[eB,gU]
      refine bs.bZ (fun Mp=>?_) (fun Mp=>?_)
      ·refine Exists.elim (⟨_,bz (show l<p.2.length by omega)⟩:∃y,p.2[l]?=some y) fun y aI=>?_
       have ly:=kK (show l<4611686018427387904 by omega)
       try simp
       refine cc.join (by kernel_rfl) (fun eI fR b5=>b5=bU/\eI 77= .bool (decide (0<=x/\x=y))) ?_ ?_
       ·rintro wE jO-
        simp[eB]
        refine cv (ad:=IR) (xs:=p.2) (n:=k) (a:=x) (e:=3) (R:=1) (ay:=false) (by simpa using jU) (by simp[eB]) J (by simp) (by simp) (by simp) (by decide) ?_
        rintro y2 qZ rfl
        by_cases aH:0<=x
        ·simp[aH,eB]
         refine qX (ad:=IR) (xs:=p.2) (n:=k) (a:=x) (e:=3) (R:=1) (ay:=false) (by simp[aH]) (by decide) (by simpa using jU) (by simp[eB]) J (by simp) (by simp) (by simp) (by decide) ?_
         rintro y3 G9 rfl
         simp[aH,gU]
         refine qX (ad:=IR) (xs:=p.2) (n:=l) (a:=y) (e:=3) (R:=1) (ay:=false) (by simp[aH]) (by decide) (by simpa using jU) (by simp[gU]) aI (by simp) (by simp) (by simp) (by decide) ?_
         rintro tY zt rfl
         simp
         exact jO _ _ _ ⟨rfl,by simp[aH]⟩
        ·simp[aH]
         exact jO _ _ _ ⟨rfl,by simp[aH]⟩
       ·rintro eI fR b5 ⟨rfl,s7⟩
        simp only[hl]at s7
        simp at s7
        simp[s7]
        refine bs.mk (fun vo=>?_) (fun vo=>?_)
        ·simp at vo
         simp[bd]
         refine fail jY jz fun ao=>?_
         obtain⟨eD,a0,a4,bI,cj⟩:=((yK.1 ao.2).2 k gB)
         rw[J]at a0
         have:=Option.some.inj a0
         subst this
         exact cj vo.1 (List.mem_of_getElem? (i:=l) (by rw[List.getElem?_take_of_lt Mp,aI,vo.2]))
        ·simp at vo
         simp[gU,ly]
         refine g1 (k-(l+1)) _ _ _ (by omega) ⟨l+1,rfl,by omega,by simp,rfl,fun j aY=>?_⟩
         by_cases gf:j<l
         ·exact gh j gf
         ·obtain rfl:j=l:=by omega
          rintro⟨cr,iL⟩
          rw[aI]at iL
          exact vo cr (Option.some.inj iL).symm
      ·simp[eB,nC]
       refine fN (m-(k+1)) _ _ _ (by omega) ⟨k+1,rfl,by omega,by simp,rfl,fun j aY=>?_⟩
       by_cases xW:j<k
       ·exact vA j xW
       ·obtain rfl:j=k:=by omega
        refine⟨x,J,by omega,by omega,fun aH gg=>?_⟩
        obtain⟨a,aL⟩:=List.mem_iff_getElem?.1 gg
        have oo:a<j:=by have:=(cJ.1 aL).1;simp at this;omega
        rw[List.getElem?_take_of_lt oo]at aL
        exact gh a (by omega) ⟨aH,aL⟩
    ·have i_:k=m:=by omega
     simp[bV,gW]
     refine aV (a8.length-(i+1)) _ _ _ (by omega) ⟨i+1,rfl,by omega,by simp,jY,fun q av=>?_⟩
     rw[List.take_add_one,aU]at av
     rcases List.mem_append.1 av with av | av
     ·exact ev q av
     ·simp at av
      subst av
      exact⟨aX,yK.2 ⟨x_,fun j aY=>vA j (by omega)⟩⟩
 ·simp[bd]
  rw[List.take_of_length_le (by omega)]at ev
  exact aC _ _ ⟨bq,true,rfl,⟨fun _=>ev,fun _=>rfl⟩⟩
section
variable {r:List bG} {F:Fr} {H:ab} {Q:Fr->ab->Prop}
theorem Pp{v:Value}{a8:List (List Nat×List Int)}{n:Nat}{a:List Nat×List Int}(br:Row 93 2 true dX H v a8)(aL:a8[n]?=some a):∃b U cap X all eM eQ,v= .slice (some ⟨b,U,none⟩) a8.length cap/\H[b]?=some X/\X.cells?=some all/\all[U+n*2]?=some (.string (b2 a.1))/\all[U+n*2+1]?=some (.slice eM a.2.length eQ)/\dV H (.slice eM a.2.length eQ) a.2:=by
 obtain⟨b,U,cap,X,all,⟨an,aW,ae,bC,hu⟩ | ⟨a0,a4⟩⟩:=br.at aL
 ·simp only[if_true]at hu
  obtain⟨eM,hn,eQ,he,aa⟩:=hu
  obtain⟨fC,dY,oy⟩:=aa.len
  simp at oy
  obtain⟨rfl,rfl,rfl⟩:=oy
  simp at he
  refine⟨b,U,cap,X,all,eM,eQ,an,aW,ae,?_,?_,aa⟩
  ·have:=congrArg (fun l:List Value=>l[0]?) he
   simpa[List.getElem?_take,List.getElem?_drop]using this
  ·have:=congrArg (fun l:List Value=>l[1]?) he
   simpa[List.getElem?_take,List.getElem?_drop]using this
 ·cases a0
theorem CD{d t d1 d2 n:Nat}{x i:Operand}{a8:List (List Nat×List Int)}{a:List Nat×List Int}{ax:bb (bg d t x i::a7 d1 93 (T d) 0::aE d2 45 (T d1)::r) Q}(br:Row 93 2 true dX H (aq F x) a8)(af:aq F i= .int .i64 (n:Int))(aL:a8[n]?=some a)
  (bM:fi prog t=some 93)(K:∀p q,ba prog r Q .mk (a2 (a2 (a2 F d p) d1 q) d2 (.string (b2 a.1))) H):ba prog (bg d t x i::a7 d1 93 (T d) 0::aE d2 45 (T d1)::r) Q ax F H:=by
 have ar:n<a8.length:=(cJ.1 aL).1
 obtain⟨b,U,cap,X,all,eM,eQ,an,aW,ae,aH,o,aa⟩:=Pp br aL
 rw[il,an,af,sM,pY,bM,gm,show bA prog 93=some 2 by rfl,gm,sK]
 refine dI.mk ⟨by omega,by omega⟩ ?_
 rw[PS]
 simp only[n9,jG,rb,show fW prog 93 0=some 0 by rfl,gm,Nat.add_zero]
 rw[CB]
 simp only[n9,jG,rb,aW,Option.bind_some,ae,gm,show dr prog 45=some false by rfl,Int.toNat_natCast,zB,aH]
 exact K _ _
theorem PW{d t d1 d2 n:Nat}{x i:Operand}{a8:List (List Nat×List Int)}{a:List Nat×List Int}{ax:bb (bg d t x i::a7 d1 93 (T d) 1::aE d2 34 (T d1)::r) Q}(br:Row 93 2 true dX H (aq F x) a8)(af:aq F i= .int .i64 (n:Int))(aL:a8[n]?=some a)
  (bM:fi prog t=some 93)(K:∀p q u,dV H u a.2->ba prog r Q .mk (a2 (a2 (a2 F d p) d1 q) d2 u) H):ba prog (bg d t x i::a7 d1 93 (T d) 1::aE d2 34 (T d1)::r) Q ax F H:=by
 have ar:n<a8.length:=(cJ.1 aL).1
 obtain⟨b,U,cap,X,all,eM,eQ,an,aW,ae,aH,o,aa⟩:=Pp br aL
 rw[il,an,af,sM,pY,bM,gm,show bA prog 93=some 2 by rfl,gm,sK]
 refine dI.mk ⟨by omega,by omega⟩ ?_
 rw[PS]
 simp only[n9,jG,rb,show fW prog 93 1=some 1 by rfl,gm]
 rw[CB]
 simp only[n9,jG,rb,aW,Option.bind_some,ae,gm,show dr prog 34=some false by rfl,Int.toNat_natCast,zB,o]
 exact K _ _ _ aa
end
theorem dh.n_{N:Nat}{q:Rat}(h:dh N q):b0 N q.num/\b0 N (q.den:Int):=by
 have aU:2^N<=10000^N:=Nat.pow_le_pow_left (by decide) N
 refine⟨?_,?_⟩
 ·exact Nat.lt_of_lt_of_le h.1 aU
 ·exact Nat.lt_of_lt_of_le h.2 aU
theorem JO{q:Rat}{n d:Int}(aD:0<d):q+Rat.divInt n d=Rat.divInt (q.num*d+n*q.den) (q.den*d):=by
 have h:=Rat.divInt_add_divInt q.num n (d₁:=q.den) (d₂:=d) (by have:=q.den_pos;omega) (by omega)
 rw[<-h,Rat.num_divInt_den]
theorem ZO{v:Value}{a8:List (List Nat×List Int)}{H:ab}(hZ:Row 93 2 true dX H v a8)(bD:∀p∈a8,Bytes p.1)(hlen:∀p∈a8,p.1.length<4611686018427387904)(kX:a8.length<=2000)(gC:∀p∈a8,hC p.1):
  aO prog 18 [v] H (fun u H1=>Ext H H1/\gG H1 u (dv (parts a8)).num (dv (parts a8)).den):=by
 refine aO.b9 fun Q aC=>?_
 apply YU (by simp)
 simp[Jg]
 have bu:=Ext.dead H
 refine aT.mk (zY (n:=0) (by omega) (by omega)) ?_
 rintro a6 H1 ⟨bq,mg⟩
 simp
 refine c2.mk mg.whole ?_
 simp
 have bl:=Ext.dead H1
 refine c7.mk (by kernel_rfl) (fun w c_ en bN=>∃i:Nat,w=a8.length-i/\i<=a8.length/\c_ 4= .int .i64 (i:Int)/\Ext H bN/\gG bN (en 3) (dv (parts (a8.take i))).num (dv (parts (a8.take i))).den) a8.length ⟨0,by omega,by omega,by simp,bu.aw (bq.aw bl),by simpa[parts,dv]using mg.ext bl⟩ ?_
 rintro w c_ en bN ⟨i,rfl,af,bj,bK,yc⟩ K aV
 simp at bj yc
 have u7:=b7.ext (ad:=Row _ _ _ dX) hZ bK
 simp[bj]
 refine ck (ad:=dX) (xs:=a8) (by simpa using u7) (by simp) ?_
 simp
 refine bs.bZ (fun aZ=>?_) (fun aZ=>?_)
 ·refine Exists.elim (⟨_,bz aZ⟩:∃p,a8[i]?=some p) fun p aU=>?_
  have jz:=List.mem_of_getElem? aU
  have jA:=gC p jz
  have gW:=kK (show i<4611686018427387904 by omega)
  have cV:=(zk (a8:=a8.take i) fun q av=>gC q (List.mem_of_mem_take av)).1
  have kf:(a8.take i).length=i:=by simp;omega
  rw[kf]at cV
  have yl:gO i<=26580001:=by unfold gO;omega
  refine Exists.elim (⟨gO i+1000,rfl,by omega,by omega,by omega⟩:∃N,N=gO i+1000/\gO i<=N/\1000<=N/\N<=26581001) fun N bP=>?_
  have f1:b0 N (dv (parts (a8.take i))).num:=cV.n_.1.mono bP.2.1
  have f2:b0 N ((dv (parts (a8.take i))).den:Int):=cV.n_.2.mono bP.2.1
  have f3:b0 N (fT p.1):=(b0.num jA).mono bP.2.2.1
  have f4:b0 N (et p.1:Int):=(b0.den jA).mono bP.2.2.1
  have LC:=bP.2.2.2
  clear bP yl
  have aD:=Ac jA
  have E7:dv (parts (a8.take (i+1)))=Rat.divInt ((dv (parts (a8.take i))).num*et p.1+fT p.1*(dv (parts (a8.take i))).den) ((dv (parts (a8.take i))).den*et p.1):=by
   rw[Gm aU,ON]
   exact JO aD
  have xL:(0:Int)<(dv (parts (a8.take i))).den*et p.1:=Int.mul_pos (by have:=(dv (parts (a8.take i))).den_pos;omega) aD
  simp[bj]
  refine CD (a8:=a8) (n:=i) (a:=p) (by simpa using u7) (by simp[bj]) aU (by simp) ?_
  intro iD e8
  simp
  refine aT.mk (zX (bD p jz) (hlen p jz)) ?_
  rintro Qx dx ⟨cu,ajI,d6,Bm,ig⟩
  refine⟨cu,?_⟩
  have bk:=(ig jA).1
  have bp:=(ig jA).2
  subst bk bp
  try simp
  refine aT.mk (JV (N:=N) (yc.ext cu) Bm f1 f2 f3 f4 (by omega)) ?_
  rintro ae4 c6 ⟨cR,Wu⟩
  try simp
  refine aT.mk (Dl (N:=N+N+1) E7 Wu xL ((f1.mul f4).add (f3.mul f2)) ((f2.mul f4).mono (by omega)) (by omega)) ?_
  rintro Qy eV ⟨cW,MU⟩
  try simp
  refine c2.mk MU.whole ?_
  simp[bj,gW]
  refine aV (a8.length-(i+1)) _ _ _ (by omega) ⟨i+1,rfl,by omega,by simp,bK.aw (cu.aw (cR.aw cW)),by simpa using MU⟩
 ·simp
  refine c2.mk yc.whole ?_
  simp[bd]
  rw[List.take_of_length_le (by omega)]at yc
  exact aC _ _ ⟨bK,yc⟩
abbrev zP(H:ab)(v:Value)(eU:List (List (List Nat×List Int))):Prop:=Row 27 1 false (Row 93 2 true dX) H v eU
instance:b7 zP:=⟨fun h J=>b7.ext (ad:=Row 27 1 false (Row 93 2 true dX)) h J⟩
theorem aaB(a b:List (List Nat×List Int)):parts (a++b)=parts a++parts b:=by simp[parts]
theorem Ta{α:Type}{eU:List (List α)}{p:Nat}{pl:List α}(h:eU[p]?=some pl):(eU.take (p+1)).flatten=(eU.take p).flatten++pl:=by
 rw[List.take_add_one,h];simp
theorem R1(x:Int):Rat.divInt x 1=(x:Rat):=by
 have:=Rat.num_divInt_den (x:Rat)
 rw[Rat.num_intCast,Rat.den_intCast]at this
 exact this
theorem aao{q:Rat}{x:Int}:q=((x:Int):Rat)↔q.num*1=x*q.den:=by
 constructor
 ·intro h;rw[h];simp
 ·intro h
  rw[<-Rat.num_divInt_den q,show q.num=x*(q.den:Int) by omega]
  have o:=Rat.divInt_mul_right (n:=x) (d:=1) (a:=(q.den:Int)) (by have:=q.den_pos;omega)
  rw[Int.one_mul]at o
  rw[o]
  exact R1 x
theorem Q7{v w:Value}{q:Rat}{x:Int}{N:Nat}{H:ab}(bw:gG H v q.num q.den)(bD:gG H w x 1)(f1:b0 N q.num)(f2:b0 N q.den)(f3:b0 N x)(f4:b0 N 1)(bP:N<=1000000000):aO prog 17 [v,w] H (fun u H1=>Ext H H1/\∃z,u= .int .i64 z/\(z=0↔q=((x:Int):Rat))):=by
 refine aO.mono (JX bw bD f1 f2 f3 f4 bP) ?_
 rintro _ H1 ⟨bq,rfl⟩
 refine⟨bq,_,rfl,?_⟩
 rw[aao]
 split
 ·omega
 ·split<;>omega
theorem R5{v w:Value}{t:List (List Int)}{eU:List (List (List Nat×List Int))}{H:ab}(dj:fK H v t)(an:g0 t)(hZ:zP H w eU)(bD:∀pl∈eU,∀p∈pl,Bytes p.1)(hlen:∀pl∈eU,∀p∈pl,p.1.length<4611686018427387904)(ajh:eU.length<4611686018427387904)(kX:eU.flatten.length<=2000)(gC:∀pl∈eU,∀p∈pl,hC p.1/\p.2.length=(t[0]?.getD []).length):
  aO prog 16 [v,w] H (fun u H1=>Ext H H1/\∃b,u= .bool b/\(b=true↔∀i k,i<t.length->k<(t[0]?.getD []).length->e2 (parts eU.flatten) i k=((mE t i k:Int):Rat))):=by
 refine aO.b9 fun Q aC=>?_
 obtain⟨m,hm⟩:∃m,m=(t[0]?.getD []).length:=⟨_,rfl⟩
 have ao:=an.small
 have eG:=an.len
 have v1:=an.1
 have v2:=an.2.1
 have v4:=an.2.2.2.1
 rw[<-hm]at eG v4 gC aC
 have fail:∀{H1 i k},Ext H H1->i<t.length->k<m->e2 (parts eU.flatten) i k≠((mE t i k:Int):Rat)->Q (.bool false) H1:=fun J af ak gh=>aC _ _ ⟨J,false,rfl,⟨fun h=>(by cases h),fun h=>absurd (h _ _ af ak) gh⟩⟩
 apply YT (by simp)
 simp[Jf]
 refine c7.mk (by kernel_rfl) (fun a6 az bE H1=>∃i:Nat,a6=t.length-i/\i<=t.length/\az 5= .int .i64 (i:Int)/\Ext H H1/\∀j k,j<i->k<m->e2 (parts eU.flatten) j k=((mE t j k:Int):Rat)) t.length ⟨0,by omega,by omega,by simp,Ext.refl _,fun j k aY=>by omega⟩ ?_
 rintro a6 az bE H1 ⟨i,rfl,af,bJ,bq,ev⟩ K aV
 simp at bJ
 have ta:=b7.ext (ad:=fK) dj bq
 simp[bJ]
 refine ck (ad:=dV) (xs:=t) (by simpa using ta) (by simp) ?_
 simp
 refine bs.bZ (fun aZ=>?_) (fun aZ=>?_)
 ·refine Exists.elim (⟨_,bz aZ⟩:∃p,t[i]?=some p) fun row dL=>?_
  have gg:=List.mem_of_getElem? dL
  have ja:=eG _ gg
  have gW:=kK (show i<4611686018427387904 by omega)
  simp
  refine c7.mk (by kernel_rfl) (fun hq bR c4 aS=>∃k:Nat,hq=m-k/\k<=m/\bR 6= .int .i64 (k:Int)/\Ext H aS/\∀j,j<k->e2 (parts eU.flatten) i j=((mE t i j:Int):Rat)) m ⟨0,by omega,by omega,by simp,bq,fun j aY=>by omega⟩ ?_
  rintro hq bR c4 aS ⟨k,rfl,ak,ds,bl,vm⟩ cZ c3
  simp at ds
  have Aw:=b7.ext (ad:=fK) dj bl
  simp[bJ,ds]
  refine cv (ad:=dV) (xs:=t) (n:=i) (a:=row) (e:=34) (R:=1) (ay:=false) (by simpa using Aw) (by simp[bJ]) dL (by simp) (by simp) (by simp) (by decide) ?_
  rintro oS u8 rX
  try simp
  refine ck (ad:=IR) (xs:=row) (by simpa using rX) (by simp) ?_
  simp only[ja]
  simp[ds]
  refine bs.bZ (fun gB=>?_) (fun gB=>?_)
  ·refine Exists.elim (⟨_,bz (show k<row.length by omega)⟩:∃p,row[k]?=some p) fun x J=>?_
   have nC:=kK (show k<4611686018427387904 by omega)
   have BN:=(ao _ gg).2 x (List.mem_of_getElem? J)
   have AU:mE t i k=x:=by unfold mE;rw[dL];simp[J]
   simp
   refine aT.mk (zY (n:=0) (by omega) (by omega)) ?_
   rintro cn bN ⟨bK,je⟩
   simp
   refine c2.mk je.whole ?_
   simp
   have fu:=Ext.dead bN
   have jZ:=bl.aw (bK.aw fu)
   refine c7.mk (by kernel_rfl) (fun sA cT dO bU=>∃p:Nat,sA=eU.length-p/\p<=eU.length/\cT 8= .int .i64 (p:Int)/\Ext H bU/\gG bU (dO 7) (e2 (parts (eU.take p).flatten) i k).num (e2 (parts (eU.take p).flatten) i k).den) eU.length ⟨0,by omega,by omega,by simp,jZ,by simpa[parts,e2]using je.ext fu⟩ ?_
   rintro sA cT dO bU ⟨p,rfl,aU,cN,ch,tu⟩ nZ g1
   simp at cN tu
   have T8:=b7.ext (ad:=zP) hZ ch
   simp[cN]
   refine ck (ad:=Row 93 2 true dX) (xs:=eU) (by simpa using T8) (by simp) ?_
   simp
   refine bs.bZ (fun iN=>?_) (fun iN=>?_)
   ·refine Exists.elim (⟨_,bz iN⟩:∃c9,eU[p]?=some c9) fun pl x8=>?_
    have x9:=List.mem_of_getElem? x8
    have FE:=kK (show p<4611686018427387904 by omega)
    have ti:=Ta x8
    have Vm:((eU.take p).flatten++pl).length<=eU.flatten.length:=by
     rw[<-ti]
     have:=congrArg (fun l:List (List (List Nat×List Int))=>l.flatten.length) (List.take_append_drop (p+1) eU)
     simp only[List.flatten_append,List.length_append]at this
     omega
    rw[List.length_append]at Vm
    simp
    refine c7.mk (by kernel_rfl) (fun um eI fR b5=>∃s:Nat,um=pl.length-s/\s<=pl.length/\eI 9= .int .i64 (s:Int)/\Ext H b5/\gG b5 (fR 7) (e2 (parts ((eU.take p).flatten++pl.take s)) i k).num (e2 (parts ((eU.take p).flatten++pl.take s)) i k).den) pl.length ⟨0,by omega,by omega,by simp,ch,by simpa using tu⟩ ?_
    rintro um eI fR b5 ⟨s,rfl,kf,eB,cP,vK⟩ wE jO
    simp at eB vK
    have Eg:=b7.ext (ad:=zP) hZ cP
    simp[cN,eB]
    refine cv (ad:=Row 93 2 true dX) (xs:=eU) (n:=p) (a:=pl) (e:=27) (R:=1) (ay:=false) (by simpa using Eg) (by simp[cN]) x8 (by simp) (by simp) (by simp) (by decide) ?_
    rintro B8 Qj Fv
    try simp
    refine ck (ad:=dX) (xs:=pl) (by simpa using Fv) (by simp) ?_
    simp[eB]
    refine bs.bZ (fun rV=>?_) (fun rV=>?_)
    ·refine Exists.elim (⟨_,bz rV⟩:∃c9,pl[s]?=some c9) fun a8 Bv=>?_
     have Bw:=List.mem_of_getElem? Bv
     have jA:=(gC pl x9 a8 Bw).1
     have gf:=(gC pl x9 a8 Bw).2
     have mW:=kK (show s<4611686018427387904 by omega)
     refine Exists.elim (⟨_,bz (show k<a8.2.length by omega)⟩:∃c9,a8.2[k]?=some c9) fun y aI=>?_
     have oG:=(zk (a8:=(eU.take p).flatten++pl.take s) fun q av=>by
      rcases List.mem_append.1 av with av | av
      ·obtain⟨l,fY,iM⟩:=List.mem_flatten.1 av
       exact(gC l (List.mem_of_mem_take fY) q iM).1
      ·exact(gC pl x9 q (List.mem_of_mem_take av)).1).2 i k
     have cV:=oG.n_
     have yl:gO ((eU.take p).flatten++pl.take s).length<=26580001:=by
      have:((eU.take p).flatten++pl.take s).length<=2000:=by simp only[List.length_append,List.length_take];omega
      unfold gO;omega
     have aD:=Ac jA
     have MF:e2 (parts ((eU.take p).flatten++pl.take (s+1))) i k=e2 (parts ((eU.take p).flatten++pl.take s)) i k+if y=(i:Int)then ha a8.1 else 0:=by
      rw[List.take_add_one,Bv,<-List.append_assoc,aaB (_++_)]
      simp only[Option.toList_some,parts,List.map_cons,List.map_nil]
      rw[OS]
      unfold gu
      simp[aI]
     refine Exists.elim (⟨gO ((eU.take p).flatten++pl.take s).length+1000,by omega,by omega,by omega⟩:∃N,gO ((eU.take p).flatten++pl.take s).length<=N/\1000<=N/\N<=26581001) fun N bP=>?_
     have f1:=cV.1.mono bP.1
     have f2:=cV.2.mono bP.1
     have f3:b0 N (fT a8.1):=(b0.num jA).mono bP.2.1
     have f4:b0 N (et a8.1:Int):=(b0.den jA).mono bP.2.1
     have LC:=bP.2.2
     clear yl cV oG bP
     refine Exists.elim (⟨_,rfl⟩:∃q,q=e2 (parts ((eU.take p).flatten++pl.take s)) i k) fun q oI=>?_
     simp only[<-oI]at vK f1 f2 MF
     have qi:q+ha a8.1=Rat.divInt (q.num*et a8.1+fT a8.1*q.den) (q.den*et a8.1):=JO aD
     have xL:(0:Int)<q.den*et a8.1:=Int.mul_pos (by have:=q.den_pos;omega) aD
     try simp
     refine cc.join (by kernel_rfl) (fun jI lO dx=>Ext b5 dx/\gG dx (lO 7) (q+if y=(i:Int)then ha a8.1 else 0).num (q+if y=(i:Int)then ha a8.1 else 0).den) ?_ ?_
     ·rintro HE qd-
      simp[cN,eB]
      refine cv (ad:=Row 93 2 true dX) (xs:=eU) (n:=p) (a:=pl) (e:=27) (R:=1) (ay:=false) (by simpa using Eg) (by simp[cN]) x8 (by simp) (by simp) (by simp) (by decide) ?_
      rintro tX zs yq
      simp[eB]
      refine PW (a8:=pl) (n:=s) (a:=a8) (by simpa using yq) (by simp[eB]) Bv (by simp) ?_
      intro y2 ajU qZ WW
      simp[ds]
      refine cv (ad:=IR) (xs:=a8.2) (n:=k) (a:=y) (e:=3) (R:=1) (ay:=false) (by simpa using WW) (by simp[ds]) aI (by simp) (by simp) (by simp) (by decide) ?_
      rintro y3 G9 rfl
      simp[bJ]
      refine bs.bZ (fun vR=>?_) (fun vR=>?_)
      ·simp[cN,eB]
       refine cv (ad:=Row 93 2 true dX) (xs:=eU) (n:=p) (a:=pl) (e:=27) (R:=1) (ay:=false) (by simpa using Eg) (by simp[cN]) x8 (by simp) (by simp) (by simp) (by decide) ?_
       rintro tY zt yr
       simp[eB]
       refine CD (a8:=pl) (n:=s) (a:=a8) (by simpa using yr) (by simp[eB]) Bv (by simp) ?_
       intro B7 ajV
       simp
       refine aT.mk (zX (bD pl x9 a8 Bw) (hlen pl x9 a8 Bw)) ?_
       rintro Hm kN ⟨hN,ajH,d15,Ws,ig⟩
       refine⟨hN,?_⟩
       have bk:=(ig jA).1
       have bp:=(ig jA).2
       subst bk bp
       try simp
       refine aT.mk (JV (N:=N) (vK.ext hN) Ws f1 f2 f3 f4 (by omega)) ?_
       rintro Qv sH ⟨kh,Wt⟩
       try simp
       refine aT.mk (Dl (N:=N+N+1) qi Wt xL ((f1.mul f4).add (f3.mul f2)) ((f2.mul f4).mono (by omega)) (by omega)) ?_
       rintro Qw zH ⟨qB,MS⟩
       try simp
       refine c2.mk MS.whole ?_
       try simp
       refine qd _ _ _ ⟨hN.aw (kh.aw qB),?_⟩
       rw[if_pos vR]
       simpa using MS
      ·try simp
       refine qd _ _ _ ⟨Ext.refl _,?_⟩
       rw[if_neg vR,show q+0=q from Rat.add_zero q]
       simpa using vK
     ·rintro jI lO dx ⟨cu,Bm⟩
      simp at Bm
      simp[eB,mW]
      refine jO (pl.length-(s+1)) _ _ _ (by omega) ⟨s+1,rfl,by omega,by simp,cP.aw cu,?_⟩
      rw[MF]
      simpa using Bm
    ·have WL:s=pl.length:=by omega
     simp[cN,FE]
     refine g1 (eU.length-(p+1)) _ _ _ (by omega) ⟨p+1,rfl,by omega,by simp,cP,?_⟩
     rw[ti]
     rw[WL,List.take_length]at vK
     simpa using vK
   ·rw[List.take_of_length_le (by omega)]at tu
    simp[bJ,ds]
    refine cv (ad:=dV) (xs:=t) (n:=i) (a:=row) (e:=34) (R:=1) (ay:=false) (by simpa using b7.ext (ad:=fK) dj ch) (by simp[bJ]) dL (by simp) (by simp) (by simp) (by decide) ?_
    rintro tX zs yq
    simp[ds]
    refine cv (ad:=IR) (xs:=row) (n:=k) (a:=x) (e:=3) (R:=1) (ay:=false) (by simpa using yq) (by simp[ds]) J (by simp) (by simp) (by simp) (by decide) ?_
    rintro y2 qZ rfl
    simp
    refine aT.mk (zY (n:=x) (by omega) (by omega)) ?_
    rintro Qu im ⟨gr,FD⟩
    refine⟨gr,?_⟩
    try simp
    have oG:=(zk (a8:=eU.flatten) fun q av=>by
     obtain⟨l,fY,iM⟩:=List.mem_flatten.1 av
     exact(gC l fY q iM).1).2 i k
    have yl:gO eU.flatten.length<=26580001:=by unfold gO;omega
    refine Exists.elim (⟨gO eU.flatten.length+1000,by omega,by omega,by omega⟩:∃N,gO eU.flatten.length<=N/\1000<=N/\N<=26581001) fun N bP=>?_
    have f1:=oG.n_.1.mono bP.1
    have f2:=oG.n_.2.mono bP.1
    have f3:b0 N x:=(b0.i64 (z:=x) (by omega) (by omega)).mono (by omega)
    have f4:b0 N 1:=b0.small (by decide) (by omega)
    have LC:=bP.2.2
    clear yl oG bP
    refine Exists.elim (⟨_,rfl⟩:∃q,q=e2 (parts eU.flatten) i k) fun q oI=>?_
    simp only[<-oI]at tu f1 f2
    refine aT.mk (Q7 (N:=N) (q:=q) (x:=x) (tu.ext gr) FD f1 f2 f3 f4 (by omega)) ?_
    rintro _ kM ⟨iA,z,rfl,aM⟩
    have Nz:=ch.aw (gr.aw iA)
    by_cases Bq:q=((x:Int):Rat)
    ·obtain rfl:=aM.2 Bq
     simp[ds,nC]
     refine c3 (m-(k+1)) _ _ _ (by omega) ⟨k+1,rfl,by omega,by simp,Nz,fun j aY=>?_⟩
     by_cases xW:j<k
     ·exact vm j xW
     ·obtain rfl:j=k:=by omega
      rw[<-oI,Bq,AU]
    ·have qD:¬z=0:=fun h=>Bq (aM.1 h)
     simp[qD,bd]
     exact fail Nz aZ gB (by rw[<-oI,AU];exact Bq)
  ·have i_:k=m:=by omega
   simp[bJ,gW]
   refine aV (t.length-(i+1)) _ _ _ (by omega) ⟨i+1,rfl,by omega,by simp,bl,fun j b_ aY lv=>?_⟩
   by_cases fE:j<i
   ·exact ev j b_ fE lv
   ·obtain rfl:j=i:=by omega
    exact vm b_ (by omega)
 ·simp[bd]
  exact aC _ _ ⟨bq,true,rfl,⟨fun _ j k aY ak=>ev j k (by omega) ak,fun _=>rfl⟩⟩
end Go.dq
end
section
set_option maxRecDepth 8000
set_option maxHeartbeats 1000000
namespace Go.dq
attribute [-simp] il jk k3
attribute [-simp] sQ
theorem Ch(n:Nat):(∀c∈iF n,fr c)/\c8 (iF n).reverse=n/\(0<n->iF n≠[]/\(iF n).getLast?≠some 48):=by
 induction n using Nat.strongRecOn with
 | _ n a1=>
  by_cases h:n=0
  ·subst h
   rw[sh]
   simp[c8]
  ·obtain⟨i1,i2,i3⟩:=a1 (n/10) (by omega)
   rw[sg (by omega)]
   refine⟨fun c ae=>?_,?_,fun _=>⟨by simp,?_⟩⟩
   ·rcases List.mem_cons.1 ae with ae | ae
    ·subst ae;unfold fr;omega
    ·exact i1 c ae
   ·rw[List.reverse_cons,KB,i2]
    omega
   ·by_cases o:n/10=0
    ·rw[o,sh]
     simp
     omega
    ·have:=i3 (by omega)
     rw[List.getLast?_cons]
     cases aX:(iF (n/10)).getLast? with
     | none=>exact absurd (List.getLast?_eq_none_iff.1 aX) this.1
     | some c=>
      rw[aX]at this
      simp
      exact fun h=>this.2 (by rw[h])
theorem Dw(n:Nat):∀c∈dec n,fr c:=by
 unfold dec
 split
 ·intro c ae;simp at ae;subst ae;decide
 ·intro c ae;exact(Ch n).1 c (List.mem_reverse.1 ae)
theorem Ab(n:Nat):c8 (dec n)=n:=by
 unfold dec
 split
 ·rename_i h;rw[h];rfl
 ·exact(Ch n).2.1
theorem RX(n:Nat):dec n≠[]:=by
 unfold dec
 split
 ·simp
 ·rename_i h
  have:=((Ch n).2.2 (by omega)).1
  simpa using this
theorem Ks{n:Nat}(h:(dec n).length<=4000):hU (dec n):=by
 refine⟨Dw n,RX n,?_,h⟩
 rintro⟨o,aa⟩
 unfold dec at o aa
 split at o
 ·rename_i aH
  rw[if_pos aH]at aa
  simp at aa
 ·rename_i aH
  rw[List.head?_reverse]at o
  exact((Ch n).2.2 (by omega)).2 o
theorem RO{c:Nat}{a:List Nat}(b:List Nat)(h:c∉a):di c (a++c::b)=(a,some b):=by
 induction a with
 | nil=>simp[di]
 | cons x a a1=>
  have o:x≠c:=fun e=>h (by simp[e])
  have aa:=a1 fun e=>h (by simp[e])
  simp[di,o,aa]
theorem RN{c:Nat}{a:List Nat}(h:c∉a):di c a=(a,none):=by
 induction a with
 | nil=>simp[di]
 | cons x a a1=>
  have o:x≠c:=fun e=>h (by simp[e])
  have aa:=a1 fun e=>h (by simp[e])
  simp[di,o,aa]
theorem y1{q:Rat}(h:ia q):hC (fH q)/\fT (fH q)=q.num/\et (fH q)=q.den:=by
 have bw:47∉((if q.num<0 then[45]else[])++dec q.num.natAbs):=by
  intro hm
  rcases List.mem_append.1 hm with hm | hm
  ·split at hm<;>simp at hm
  ·have:=Dw _ _ hm
   unfold fr at this
   omega
 have LY:di 47 (fH q)=((if q.num<0 then[45]else[])++dec q.num.natAbs,if q.den=1 then none else some (dec q.den)):=by
  unfold fH
  by_cases aD:q.den=1
  ·rw[if_pos aD,if_pos aD,List.append_nil]
   exact RN bw
  ·rw[if_neg aD,if_neg aD]
   exact RO _ bw
 have ML:qO (fH q)=(if q.num<0 then[45]else[])++dec q.num.natAbs:=by unfold qO;rw[LY]
 have Nh:kr (fH q)=if q.den=1 then none else some (dec q.den):=by unfold kr;rw[LY]
 have qn:(dec q.num.natAbs).head?≠some 45:=by
  intro cO
  have:=Dw _ _ (List.mem_of_mem_head? cO)
  unfold fr at this
  omega
 have qu:lB (fH q)=decide (q.num<0):=by
  unfold lB
  rw[ML]
  by_cases aJ:q.num<0
  ·simp[aJ]
  ·simp only[aJ,if_false,List.nil_append]
   simp[qn]
 have rH:gT (fH q)=dec q.num.natAbs:=by
  unfold gT jj
  rw[ML]
  by_cases aJ:q.num<0
  ·simp[aJ]
  ·simp only[aJ,if_false,List.nil_append]
   rw[if_neg qn]
 have j9:et (fH q)=q.den:=by
  unfold et
  rw[Nh]
  by_cases aD:q.den=1
  ·simp[aD]
  ·simp[aD,Ab]
 have ih:fT (fH q)=q.num:=by
  unfold fT
  rw[qu,rH,Ab]
  by_cases aJ:q.num<0
  ·simp[aJ];omega
  ·simp[aJ];omega
 refine⟨⟨?_,?_,?_,?_⟩,ih,j9⟩
 ·rw[rH];exact Ks h.1
 ·intro u hu
  rw[Nh]at hu
  split at hu
  ·cases hu
  ·rename_i aD
   obtain rfl:=Option.some.inj hu
   have aU:=q.den_pos
   rw[Ab]
   refine⟨Ks ?_,by omega⟩
   rcases h.2 with h | h
   ·exact absurd h aD
   ·exact h
 ·rw[qu,rH,Ab]
  rintro⟨o,aa⟩
  have:=of_decide_eq_true o
  omega
 ·right
  rw[ih,j9]
  exact q.reduced
theorem Oy(q:Rat):Bytes (fH q):=by
 unfold fH
 intro x J
 rcases List.mem_append.1 J with J | J
 ·rcases List.mem_append.1 J with J | J
  ·split at J<;>simp at J
   omega
  ·exact Aa _ x J
 ·split at J
  ·cases J
  ·rcases List.mem_cons.1 J with J | J
   ·omega
   ·exact Aa _ x J
theorem Oz{q:Rat}(h:ia q):ha (fH q)=q:=by
 obtain⟨o,aa,aA⟩:=y1 h
 unfold ha
 rw[aa,aA,Rat.num_divInt_den]
theorem aaC{a5:List (Rat×List Int)}(h:∀p∈a5,ia p.1):parts (a5.map fun p=>(fH p.1,p.2))=a5:=by
 unfold parts
 rw[List.map_map]
 conv=>rhs;rw[<-List.map_id a5]
 apply List.map_congr_left
 intro p aU
 simp[Oz (h p aU)]
end Go.dq
end
section
set_option maxRecDepth 8000
set_option maxHeartbeats 1000000
namespace Go.dq
open Go.Proofs
open Go.Proofs.Tryz (prog)
attribute [-simp] il jk k3
attribute [-simp] sQ
def lI(a5:List (Rat×List Int)):List (List Nat×List Int):=a5.map fun p=>(fH p.1,p.2)
structure wK (t:List (List Int)) (a5:List (Rat×List Int)):Prop where
 ok:∀p∈lI a5,p0 t.length (t[0]?.getD []).length p
 one:∀p∈lI a5,hC p.1/\et p.1=1
 parts:parts (lI a5)=a5
 nj:(lI a5).length<=(t.length+(t[0]?.getD []).length)*(t.length+(t[0]?.getD []).length)
 KP:(lI a5).length<=256
 sum:∀i k,i<t.length->k<(t[0]?.getD []).length->e2 a5 i k=((mE t i k:Int):Rat)
 len:dv a5=(((ir t).1:Int):Rat)
 bytes:∀p∈lI a5,Bytes p.1
 short:∀p∈lI a5,p.1.length<4611686018427387904/\p.2.length<65536
theorem wK.mk'{t:List (List Int)}{a5:List (Rat×List Int)}(an:g0 t)(h:zO t.length (t[0]?.getD []).length (b6 (da t)) (((ir t).1:Int):Rat) a5)(hm:∀p∈a5,fa 1 p.1):wK t a5:=by
 have mf:=Cy (t:=t) rfl rfl an.small (by have:=an.2.1;omega)
 have g4:=Gn fun p aU=>(h.wh p aU).1
 have hint:∀p∈a5,∃z:Int,p.1=(z:Rat)/\0<z/\z<=1000000000:=fun p aU=>by
  obtain⟨z,aM⟩:=hm p aU
  have e:p.1=(z:Rat):=by
   rw[<-aM]
   have:((1:Nat):Rat)=1:=rfl
   rw[this,Rat.mul_one]
  refine⟨z,e,?_,?_⟩
  ·have:=(h.wh p aU).1
   rw[e]at this
   exact_mod_cast this
  ·have:=g4.2 p aU
   rw[h.len,e]at this
   have:z<=(ir t).1:=by exact_mod_cast this
   have:=mf.2
   omega
 have ih:∀p∈a5,ia p.1:=fun p aU=>by
  obtain⟨z,aM,aH,o⟩:=hint p aU
  rw[aM]
  exact(dh.int (N:=64) (by omega) (by decide)).B4 (by decide)
 have ts:=aaC ih
 have ev:∀p∈lI a5,∃q∈a5,p=(fH q.1,q.2):=fun p aU=>by
  unfold lI at aU
  rw[List.mem_map]at aU
  obtain⟨q,av,rfl⟩:=aU
  exact⟨q,av,rfl⟩
 refine⟨fun p aU=>?_,fun p aU=>?_,ts,?_,?_,fun i k af ak=>?_,h.len,fun p aU=>?_,fun p aU=>?_⟩
 ·obtain⟨q,av,rfl⟩:=ev p aU
  have o:=y1 (ih q av)
  have aa:=h.wh q av
  exact⟨⟨o.1,by rw[Oz (ih q av)];exact aa.1,aa.2.len⟩,aa.2⟩
 ·obtain⟨q,av,rfl⟩:=ev p aU
  have o:=y1 (ih q av)
  obtain⟨z,aM,-⟩:=hint q av
  refine⟨o.1,?_⟩
  rw[o.2.2,aM,Rat.den_intCast]
 ·unfold lI
  rw[List.length_map]
  exact h.nj
 ·unfold lI
  rw[List.length_map]
  have o:=an.2.1
  have aa:=an.2.2.2.1
  exact Nat.le_trans h.nj (Nat.mul_le_mul (show _<=16 by omega) (show _<=16 by omega))
 ·rw[h.sum i k af ak,tZ]
  rfl
 ·obtain⟨q,av,rfl⟩:=ev p aU
  exact Oy _
 ·obtain⟨q,av,rfl⟩:=ev p aU
  have o:=Gl (y1 (ih q av)).1
  have aa:=(h.wh q av).2.len
  have aA:=an.2.2.2.1
  refine⟨?_,?_⟩
  ·show(fH q.1).length<_
   omega
  ·show q.2.length<_
   omega
theorem wK.R4{t:List (List Int)}{a5:List (Rat×List Int)}(h:wK t a5):mx t (lI a5):=by
 refine⟨⟨h.ok,by have:=h.KP;omega⟩,fun j k aY ak=>?_⟩
 rw[h.parts,h.sum j k aY ak,tZ]
 rfl
section
variable {P:Program} {r:List bG} {F:Fr} {H:ab} {Q:Fr->ab->Prop} {α:Type}
theorem G6{d t e:Nat}{x y:Operand}{z:Value}{ad:ab->Value->α->Prop}{a b:α}{ax:bb (eP d t 2 [(0,x),(1,y)]::r) Q}(aL:∀aF,Ext H aF->ad aF (aq F x) a)(ag:∀aF,Ext H aF->ad aF (aq F y) b)(bM:P.underlying t=some (.slice e))(ao:bA P e=some 1)(aM:dD P e=some z)(dS:flat z=true)(dd:z.cells.size=1)
  (aQ:jr (fun i=>some (i*1,1)) (made z (2*1)) [(0,aq F x),(1,aq F y)]=some [aq F x,aq F y])(K:∀v aF,Row e 1 false ad aF v [a,b]->Ext H aF->ba P r Q .mk (a2 F d v) aF):ba P (eP d t 2 [(0,x),(1,y)]::r) Q ax F H:=by
 have J:Ext H (H++[.own e false [aq F x,aq F y]]):=(Ext.refl H).snoc _ _ _
 refine sq bM ao aM dS dd (by decide) (by decide) (by decide) aQ rfl (K _ _ ⟨[aq F x,aq F y],iq.fh (k:=0) ⟨rfl,.inr ⟨H.length,0,2,false,[aq F x,aq F y],rfl,by omega,Nat.le_refl _,Nat.zero_le _,by simp,by simp,by simp⟩⟩,fun i u af=>?_⟩ J)
 match i with
 | 0=>simp at af;subst af;simpa[eA]using aL _ J
 | 1=>simp at af;subst af;simpa[eA]using ag _ J
 | n+2=>simp at af
end
def t0:List (List Int):=[[2,1],[1,2]]
theorem Cx:g0 t0:=by decide
theorem aca:ir t0=(3,0,0):=by
 have h:=J2 (t:=t0) (m:=2) rfl (by decide) (by decide)
 have aa:lL (t0.map List.sum) ((gP 2 t0).map List.sum) 3 0 0:=by
  have bk:t0.map List.sum=[3,3]:=by decide
  have bp:(gP 2 t0).map List.sum=[3,3]:=by decide
  rw[bk,bp]
  exact⟨by simp,by simp,.inl ⟨rfl,rfl,fun i x af=>by omega⟩⟩
 obtain⟨aA,bj,bJ⟩:=h.uniq aa
 exact Prod.ext aA (Prod.ext bj bJ)
theorem aan(z:Int)(h:0<=z):fH ((z:Int):Rat)=dec z.natAbs:=by
 unfold fH
 rw[Rat.num_intCast,Rat.den_intCast,if_neg (by omega)]
 simp
theorem ZQ:({data:= #[51]}:ByteArray)=b2 [51]:=rfl
theorem F9{H:ab}:aO prog 12 [] H (fun u H1=>Ext H H1/\u= .bool true):=by
 refine aO.b9 fun Q aC=>?_
 have ag:=aca
 apply Yg (by simp)
 simp[IW]
 refine G6 (e:=3) (z:= .int .i64 0) (ad:=IR) (a:=2) (b:=1) (fun _ _=>rfl) (fun _ _=>rfl) (by simp) (by simp) (by rfl) (by rfl) (by rfl) (by rfl) ?_
 intro mn H1 oL bq
 refine G6 (e:=3) (z:= .int .i64 0) (ad:=IR) (a:=1) (b:=2) (fun _ _=>rfl) (fun _ _=>rfl) (by simp) (by simp) (by rfl) (by rfl) (by rfl) (by rfl) ?_
 intro kq aS oM bl
 have Nd:dV aS mn [2,1]:=b7.ext (ad:=dV) oL bl
 refine Exists.elim (Row.len Nd) fun b4 j_=>Exists.elim j_ fun cm j_=>?_
 refine Exists.elim (Row.len oM) fun cM iZ=>Exists.elim iZ fun cI iZ=>?_
 refine G6 (e:=34) (z:= .slice none 0 0) (ad:=dV) (a:=[2,1]) (b:=[1,2]) (fun aF J=>by simpa using b7.ext (ad:=dV) Nd J) (fun aF J=>by simpa using b7.ext (ad:=dV) oM J) (by simp) (by simp) (by rfl) (by rfl) (by rfl) (by simp[j_,iZ];rfl) ?_
 intro nQ bN px bK
 have dj:fK bN nQ t0:=px
 have jZ:=bq.aw (bl.aw bK)
 simp
 refine aT.mk (Rl (Row.yJ dj) (by decide) (by decide)) ?_
 rintro pP bU ⟨ch,W5,-⟩
 have mD:=W5 Cx
 rw[ag]at mD
 subst mD
 have xh:=b7.ext (ad:=fK) dj ch
 simp
 refine aT.mk (aaE (Row.yJ xh) (by decide) (by decide)) ?_
 rintro oX b5 ⟨cP,Fz,-⟩
 refine Exists.elim (Fz Cx) fun um bJ=>Exists.elim bJ fun a5 bJ=>?_
 have pb:=bJ.1
 subst pb
 have a_:=wK.mk' Cx bJ.2.1 bJ.2.2.1
 have dL:=bJ.2.2.2
 have D4:=b7.ext (ad:=fK) xh cP
 simp
 refine aT.mk (Kv (Row.yJ D4) (by decide) (by decide) dL a_.bytes a_.short (by have:=a_.KP;exact Nat.le_trans this (by decide))) ?_
 rintro sx dx ⟨cu,W6,-,-⟩
 have rl:=W6 Cx a_.R4
 have iN:dv (parts (lI a5))=((3:Int):Rat):=by rw[a_.parts,a_.len,ag]
 have Bc:fH ((3:Int):Rat)=[51]:=by
  rw[aan 3 (by decide)]
  simp[dec,iF]
 have gC:ia ((3:Int):Rat):=(dh.int (N:=64) (by decide) (by decide)).B4 (by decide)
 change sx=if ia (dv (parts (lI a5)))then Value.tuple #[.string (b2 (fH (dv (parts (lI a5))))),.int .i64 0]else _ at rl
 rw[iN,if_pos gC,Bc]at rl
 subst rl
 simp[sw,ZQ,bd]
 exact aC _ _ ⟨jZ.aw (ch.aw (cP.aw cu)),rfl⟩
theorem Kq(x:List (List Int)):(uN x).length<=9/\∀r∈uN x,r.length<=9:=by
 unfold uN
 refine⟨by simp;omega,fun r al=>?_⟩
 rw[List.mem_map]at al
 obtain⟨dW,-,rfl⟩:=al
 simp;omega
theorem cc.ml{P:Program}{a b:e5}{Q:dP->Fr->Fr->ab->Prop}{ax:bb (e5.seq a b) Q}{F G:Fr}{H:ab}(h:∀K:Fr->Fr->ab->Prop,(∀az bE H1,cc P b Q .mk az bE H1->K az bE H1)->cc P a (m5 K Q) .mk F G H):cc P (.seq a b) Q ax F G H:=
 h _ fun _ _ _ h=>h
theorem ae9{H:ab}{v:Value}{xs:List (List Nat×List Int)}(h:Row 93 2 true dX H v xs):Whole prog 27 v:=by
 obtain⟨a,c,rfl⟩:=Row.len h
 exact⟨by rfl,by rfl,by simp[eS]⟩
end Go.dq
end
section
namespace Go.dq
theorem nY.row{n m:Nat}{p:Rat×List Int}(h:nY n m p.2)(aH:0<=p.1){i:Nat}(af:i<n):bY m (fun k=>gu p i k)<=p.1:=by
 by_cases ak:∃k:Nat,p.2[k]?=some (i:Int)
 ·obtain⟨k,ak⟩:=ak
  have:bY m (fun b_=>gu p i b_)=bY m (fun b_=>if b_=k then p.1 else 0):=hp fun b_ _=>by
   unfold gu
   by_cases o:b_=k
   ·subst o;simp[ak]
   ·rw[if_neg o,if_neg fun aa=>o (F0 (h.inj i af) aa ak)]
  rw[this,sm k (fun _=>p.1)]
  split
  ·exact Rat.le_refl
  ·exact aH
 ·have:bY m (fun b_=>gu p i b_)=bY m (fun _=>0):=hp fun b_ _=>by
   unfold gu
   rw[if_neg fun aa=>ak ⟨b_,aa⟩]
  rw[this,sn]
  exact aH
theorem nY.rk{n m:Nat}{p:Rat×List Int}(h:nY n m p.2)(aH:0<=p.1){k:Nat}(ak:k<m):bY n (fun i=>gu p i k)<=p.1:=by
 rcases h.Pc k ak with o | ⟨j,aY,o⟩
 ·have:bY n (fun i=>gu p i k)=bY n (fun _=>0):=hp fun i _=>by
   unfold gu
   rw[if_neg fun aa=>by rw[o]at aa;have:=Option.some.inj aa;omega]
  rw[this,sn]
  exact aH
 ·have:bY n (fun i=>gu p i k)=bY n (fun i=>if i=j then p.1 else 0):=hp fun i _=>by
   unfold gu
   rw[o]
   by_cases aa:i=j
   ·subst aa;simp
   ·rw[if_neg aa,if_neg];simp;omega
  rw[this,sm j (fun _=>p.1),if_pos aY]
  exact Rat.le_refl
theorem aaJ{n m:Nat}{a5:List (Rat×List Int)}(h:∀p∈a5,0<=p.1/\nY n m p.2){i:Nat}(af:i<n):bY m (fun k=>e2 a5 i k)<=dv a5:=by
 induction a5 with
 | nil=>simp only[e2,dv];rw[sn];exact Rat.le_refl
 | cons p a5 a1=>
  simp only[e2,dv]
  rw[GQ]
  have o:=(h p (by simp)).2.row (h p (by simp)).1 af
  have aa:=a1 fun q av=>h q (by simp[av])
  grind
theorem aaI{n m:Nat}{a5:List (Rat×List Int)}(h:∀p∈a5,0<=p.1/\nY n m p.2){k:Nat}(ak:k<m):bY n (fun i=>e2 a5 i k)<=dv a5:=by
 induction a5 with
 | nil=>simp only[e2,dv];rw[sn];exact Rat.le_refl
 | cons p a5 a1=>
  simp only[e2,dv]
  rw[GQ]
  have o:=(h p (by simp)).2.rk (h p (by simp)).1 ak
  have aa:=a1 fun q av=>h q (by simp[av])
  grind
end Go.dq
end
section
set_option maxRecDepth 8000
set_option maxHeartbeats 1000000
namespace Go.dq
open Go.Proofs
open Go.Proofs.Tryz (prog)
attribute [-simp] il jk k3
attribute [-simp] sQ
def vZ(a8:List (List Nat×List Int)):Nat:=if 1000<a8.length then 1001 else 40
def n7(a8:List (List Nat×List Int)):List (List Nat×List Int):=(a8.take (vZ a8)).map fun p=>(p.1.take 9,p.2.take 9)
theorem abJ{v:Value}{a8:List (List Nat×List Int)}{H:ab}(hZ:Row 93 2 true dX H v a8):
  aO prog 22 [v] H (fun u H1=>Ext H H1/\Row 93 2 true dX H1 u (n7 a8)):=by
 refine aO.b9 fun Q aC=>?_
 obtain⟨r7,A9⟩:∃r7,r7=vZ a8:=⟨_,rfl⟩
 have Mt:r7<=1001:=by rw[A9];unfold vZ;split<;>omega
 apply Yh (by simp)
 simp only[IX]
 refine cc.ml fun dA fM=>?_
 simp
 refine fM _ _ _ ?_
 clear fM
 refine cc.ml fun dA fM=>?_
 simp
 refine fM _ _ _ ?_
 clear fM
 refine cc.ml fun dA fM=>?_
 refine cc.join (by kernel_rfl) (fun bR c4 aS=>aS=H/\bR 3= .int .i64 (r7:Int)) ?_ ?_
 ·rintro cZ c3-
  simp
  refine ck (ad:=dX) (xs:=a8) (by simpa using hZ) (by simp) ?_
  simp
  refine bs.bZ (fun aZ=>?_) (fun aZ=>?_)
  ·simp
   refine c3 _ _ _ ⟨rfl,?_⟩
   rw[A9];unfold vZ;rw[if_pos (by omega)];simp
  ·refine c3 _ _ _ ⟨rfl,?_⟩
   rw[A9];unfold vZ;rw[if_neg (by omega)];simp
 rintro bR c4 aS ⟨rfl,aA⟩
 simp at aA
 refine fM _ _ _ ?_
 clear fM
 refine cc.ml fun dA fM=>?_
 simp
 refine sr (e:=93) (R:=2) (by simp) (by simp) ?_
 simp
 refine fM _ _ _ ?_
 clear fM
 simp
 refine c7.mk (by kernel_rfl) (fun m az bE H1=>∃i:Nat,m=a8.length-i/\i<=a8.length/\i<=r7/\az 5= .int .i64 (i:Int)/\Ext aS H1/\bH aS.length 93 2 true dX H1 (az 4) ((a8.take i).map fun p=>(p.1.take 9,p.2.take 9))) a8.length ⟨0,by omega,by omega,by omega,by simp,Ext.refl _,by simpa using bH.void _ _ _ _ _ _ _⟩ ?_
 rintro m az bE H1 ⟨i,rfl,af,pq,bJ,bq,cw⟩ K aV
 simp at bJ cw
 have qf:=b7.ext (ad:=Row _ _ _ dX) hZ bq
 simp only[kJ]
 refine cc.join (by kernel_rfl) (fun c_ en bN=>bN=H1/\c_ 18= .bool (decide (i<a8.length/\i<r7))) ?_ ?_
 ·rintro cZ c3-
  simp[bJ]
  refine ck (ad:=dX) (xs:=a8) (by simpa using qf) (by simp) ?_
  by_cases aZ:i<a8.length
  ·simp[aZ,bJ,aA]
   exact c3 _ _ _ ⟨rfl,by simp[aZ]⟩
  ·simp[aZ,bJ]
   exact c3 _ _ _ ⟨rfl,by simp[aZ]⟩
 ·rintro c_ en bN ⟨rfl,DP⟩
  simp only[hl]at DP
  simp at DP
  simp[DP]
  refine bs.mk (fun ag=>?_) (fun ag=>?_)
  ·simp at ag
   refine Exists.elim (⟨_,bz ag.1⟩:∃p,a8[i]?=some p) fun p aU=>?_
   have hw:=kK (show i<4611686018427387904 by omega)
   simp[bJ]
   refine CD (a8:=a8) (n:=i) (a:=p) (by simpa using qf) (by simp[bJ]) aU (by simp) ?_
   intro iD e8
   simp[bJ]
   refine CD (a8:=a8) (n:=i) (a:=p) (by simpa using qf) (by simp[bJ]) aU (by simp) ?_
   intro mj g9
   try simp
   refine h6 (l:=p.1) (by simp) (by rfl) ?_
   simp
   refine acD (s:=b2 p.1) (l:=0) (h:=min p.1.length 9) (by simp) (by rfl) (by simp[dN]) (by simp[eY,iu];split<;>omega) (by omega) (by rw[iu];omega) ?_
   have sY:(p.1.drop 0).take (min p.1.length 9-0)=p.1.take 9:=by
    rw[List.drop_zero,Nat.sub_zero]
    by_cases h:p.1.length<=9
    ·rw[Nat.min_eq_left h,List.take_length,List.take_of_length_le h]
    ·rw[Nat.min_eq_right (by omega)]
   simp only[o_,sY]
   simp[bJ]
   refine PW (a8:=a8) (n:=i) (a:=p) (by simpa using qf) (by simp[bJ]) aU (by simp) ?_
   intro qP Cc CP ys
   simp
   refine aT.mk (Kl ys) ?_
   rintro u8 eV ⟨cW,rX⟩
   refine⟨cW,?_⟩
   obtain⟨p2,p7,rfl⟩:=Row.len rX
   have xo:dX eV (.agg #[.string (b2 (p.1.take 9)),.slice p2 (p.2.take 9).length p7]) (p.1.take 9,p.2.take 9):=⟨p2,_,p7,rfl,rX⟩
   have hlen:=Ext.len (bq.aw cW)
   try simp
   refine uc (k:=aS.length) (e:=93) (R:=2) (ay:=true) (bF:=40) (z:= .agg #[.string ⟨#[]⟩,.slice none 0 0]) (ad:=dX) (xs:=(a8.take i).map fun p=>(p.1.take 9,p.2.take 9)) (a:=(p.1.take 9,p.2.take 9)) (by simpa using b7.ext (ad:=bH _ _ _ _ dX) cw cW) (by simpa using xo) (by simpa using xo.j1) (by simp) (fun aF dC u y ak h=>h.kept ak (by decide)) (by simp) (by simp) (by simp) (by simp) (by simp) (by rfl) (by rfl) (by first | rfl | simp[flat,hg]) (by rfl) (by decide) (by decide) (by decide) (by simp;omega) (by omega) ?_
   intro B8 alE fz l2 dy aiU
   simp[bJ,hw]
   refine aV (a8.length-(i+1)) _ _ _ (by omega) ⟨i+1,rfl,by omega,by omega,by simp,dy _ (Nat.le_refl _) (bq.aw cW),?_⟩
   have e:a8.take (i+1)=a8.take i++[p]:=by rw[List.take_add_one,aU];rfl
   rw[e]
   simpa using l2
  ·simp at ag
   simp[bd]
   refine aC _ _ ⟨bq,?_⟩
   have e:a8.take i=a8.take r7:=by
    by_cases h:i<a8.length
    ·rw[show i=r7 by have:=ag h;omega]
    ·rw[List.take_of_length_le (by omega),List.take_of_length_le (by omega)]
   unfold n7
   rw[<-A9,<-e]
   first
    | exact cw.row
    | (rw[List.map_take];exact cw.row)
end Go.dq
end
section
set_option maxRecDepth 8000
set_option maxHeartbeats 1000000
namespace Go.dq
theorem aci{n m:Nat}{t:List (List Rat)}{L:Rat}(h:fs n m t)(aJ:0<n)(hm:0<m)(o:∀i,i<n->bY m (b6 t i)<=L)(aa:∀k,k<m->bY n (fun i=>b6 t i k)<=L):gE n m t<=L:=by
 have a:=tT (dU t) n
 have b:=tT (dU (fp m t)) m
 unfold gE
 split
 ·rw[b.1]
  have ak:(dG (dU (fp m t)) m).2<m:=by omega
  have e:bY n (fun i=>b6 t i (dG (dU (fp m t)) m).2)=dU (fp m t) (dG (dU (fp m t)) m).2:=by
   rw[y6 h.fp ak]
   exact hp fun i af=>(uQ h af ak).symm
  rw[<-e]
  exact aa _ ak
 ·rw[a.1]
  have af:(dG (dU t) n).2<n:=by omega
  rw[y6 h af]
  exact o _ af
theorem mx.ZX{t:List (List Int)}{a8:List (List Nat×List Int)}(an:g0 t)(h:mx t a8):(((ir t).1:Int):Rat)<=dv (parts a8):=by
 have aD:fs t.length (t[0]?.getD []).length (da t):=Ce rfl an.len
 rw[<-(Cy (t:=t) rfl rfl an.small (by have:=an.2.1;omega)).1]
 have aU:∀p∈parts a8,0<=p.1/\nY t.length (t[0]?.getD []).length p.2:=fun p aU=>by
  unfold parts at aU
  rw[List.mem_map]at aU
  obtain⟨q,av,rfl⟩:=aU
  have:=h.1.1 q av
  exact⟨Rat.le_of_lt this.1.2.1,this.2⟩
 refine aci aD an.1 an.2.2.1 (fun i af=>?_) fun k ak=>?_
 ·rw[<-hp fun k ak=>h.2 i k af ak]
  exact aaJ aU af
 ·rw[<-hp fun i af=>h.2 i k af ak]
  exact aaI aU ak
theorem KA{l:List Nat}(h:∀c∈l,fr c)(ar:l.length<=9):c8 l<2^30:=by
 have o:=qa h
 have aa:10^l.length<=10^9:=Nat.pow_le_pow_right (by decide) ar
 have aA:(10:Nat)^9<2^30:=by decide
 omega
theorem aeW{l:List Nat}(h:hC l)(ar:l.length<=9):dh 30 (ha l):=by
 have vJ:(qO l).length<=9:=Nat.le_trans (z_ (c:=47) (l:=l)).1 ar
 have rG:(gT l).length<=9:=by
  unfold gT jj
  split
  ·simp;omega
  ·exact vJ
 have aJ:(fT l).natAbs<2^30:=by
  have:=KA h.1.1 rG
  unfold fT
  split<;>omega
 have aD:et l<2^30:=by
  unfold et
  cases hu:kr l with
  | none=>simp
  | some u=>exact KA (h.2.1 u hu).1.1 (Nat.le_trans ((z_ (c:=47) (l:=l)).2 u hu) ar)
 have aU:=Ac h
 exact dh.divInt (by omega) aJ aD
theorem aaF{a8:List (List Nat×List Int)}(h:∀p∈a8,hC p.1/\p.1.length<=9):dh (31*a8.length+1) (dv (parts a8)):=by
 induction a8 with
 | nil=>exact⟨by decide,by decide⟩
 | cons p a8 a1=>
  have o:=a1 fun q av=>h q (by simp[av])
  have aa:=aeW (h p (by simp)).1 (h p (by simp)).2
  have:=(aa.add o).mono (M:=31*(p::a8).length+1) (by simp;omega)
  simpa[parts,dv]using this
theorem RS(a8:List (List Nat×List Int)):∀p∈n7 a8,p.1.length<=9/\p.2.length<=9:=fun p aU=>by
 unfold n7 at aU
 rw[List.mem_map]at aU
 obtain⟨q,-,rfl⟩:=aU
 simp
 omega
theorem RR(a8:List (List Nat×List Int)):(n7 a8).length<=1001/\((n7 a8).length<=1000->(n7 a8).length<=40):=by
 unfold n7 vZ
 simp
 split<;>omega
end Go.dq
end
section
set_option maxRecDepth 8000
set_option maxHeartbeats 1000000
namespace Go.dq
open Go.Proofs
open Go.Proofs.Tryz (prog)
attribute [-simp] il jk k3
attribute [-simp] sQ
theorem Q8{v w:Value}{q:Rat}{x:Int}{N:Nat}{H:ab}(bw:gG H v q.num q.den)(bD:gG H w x 1)(f1:b0 N q.num)(f2:b0 N q.den)(f3:b0 N x)(f4:b0 N 1)(bP:N<=1000000000):aO prog 17 [v,w] H (fun u H1=>Ext H H1/\∃z,u= .int .i64 z/\(0<=z↔((x:Int):Rat)<=q)):=by
 refine aO.mono (JX bw bD f1 f2 f3 f4 bP) ?_
 rintro _ H1 ⟨bq,rfl⟩
 refine⟨bq,_,rfl,?_⟩
 rw[Rat.le_iff,Rat.num_intCast,Rat.den_intCast]
 split
 ·omega
 ·split<;>omega
theorem abK{v w:Value}{x:List (List Int)}{y:List (List Nat×List Int)}{H:ab}(dj:fK H v x)(hZ:Row 93 2 true dX H w y)(bD:∀p∈y,Bytes p.1):
  aO prog 4 [v,w] H (fun u H1=>Ext H H1/\u= .bool true):=by
 refine aO.b9 fun Q aC=>?_
 obtain⟨t,bM⟩:∃t,t=uN x:=⟨_,rfl⟩
 obtain⟨a8,kX⟩:∃a8,a8=n7 y:=⟨_,rfl⟩
 have me:=(Kq x).1
 have BD:=(Kq x).2
 have rV:=RS y
 have kf:=RR y
 have tA:∀p∈n7 y,Bytes p.1:=fun p aU=>by
  unfold n7 at aU
  rw[List.mem_map]at aU
  obtain⟨q,av,rfl⟩:=aU
  exact fun c ae=>bD q (List.mem_of_mem_take av) c (List.mem_of_mem_take ae)
 rw[<-bM]at me BD
 rw[<-kX]at rV kf tA
 have oK:∀p∈a8,p.1.length<4611686018427387904/\p.2.length<65536:=fun p aU=>by have:=rV p aU;omega
 apply Ye (by simp)
 simp only[IU]
 refine cc.ml fun dA fM=>?_
 simp
 refine fM _ _ _ ?_
 clear fM
 refine cc.ml fun dA fM=>?_
 simp
 refine aT.mk (acb dj) ?_
 simp only[<-bM]
 rintro a6 H1 ⟨bq,lp⟩
 simp
 refine aT.mk (abJ (b7.ext (ad:=Row _ _ _ dX) hZ bq)) ?_
 simp only[<-kX]
 rintro hq aS ⟨bl,ry⟩
 have ic:=b7.ext (ad:=fK) lp bl
 simp
 refine fM _ _ _ ?_
 clear fM
 refine cc.ml fun dA fM=>?_
 simp
 refine aT.mk (Kv (Row.yJ ic) (by omega) (fun r al=>by have:=BD r al;omega) ry tA oK (by omega)) ?_
 rintro nQ bN ⟨bK,hL,kW,ou⟩
 have hv:=b7.ext (ad:=fK) ic bK
 have lo:=b7.ext (ad:=Row _ _ _ dX) ry bK
 have jZ:=bq.aw (bl.aw bK)
 have qJ:({data:= #[]}:ByteArray)=b2 []:=rfl
 by_cases an:g0 t
 ·have v1:=an.1
  have v2:=an.2.1
  have mo:=an.2.2.1
  have v4:=an.2.2.2.1
  refine Exists.elim (⟨_,bz (show 0<t.length by omega)⟩:∃p,t[0]?=some p) fun kG qx=>?_
  refine Exists.elim (⟨_,rfl⟩:∃m,m=(t[0]?.getD []).length) fun m hm=>?_
  refine Exists.elim (⟨_,rfl⟩:∃n,n=t.length) fun n aJ=>?_
  have gK:kG.length=m:=by rw[hm,qx];rfl
  rw[<-hm]at mo v4
  rw[<-aJ]at v1 v2
  have WI:∃(a:List Nat) (e:Int),nQ= .tuple #[.string (b2 a),.int .i64 e]/\(mx t a8->ia (dv (parts a8))->a=fH (dv (parts a8))/\e=0)/\(¬mx t a8->a=[]/\e=2):=by
   by_cases ow:mx t a8
   ·have e0:=hL an ow
    by_cases gh:ia (dv (parts a8))
    ·rw[if_pos gh]at e0
     exact⟨_,_,e0,fun _ _=>⟨rfl,rfl⟩,fun h=>absurd ow h⟩
    ·rw[if_neg gh]at e0
     exact⟨_,_,e0,fun _ h=>absurd h gh,fun h=>absurd ow h⟩
   ·exact⟨_,_,kW an ow,fun h=>absurd h ow,fun _=>⟨rfl,rfl⟩⟩
  refine Exists.elim WI fun a aL=>Exists.elim aL fun e aL=>?_
  have e0:=aL.1
  subst e0
  simp
  refine fM _ _ _ ?_
  clear fM
  refine cc.ml fun dA fM=>?_
  simp
  refine aT.mk (PE hv (by omega) fun r al=>by have:=BD r al;omega) ?_
  rintro _ _ ⟨rfl,rfl⟩
  simp[an]
  refine fM _ _ _ ?_
  clear fM
  refine cc.ml fun dA fM=>?_
  simp only[kJ]
  refine cc.join (by kernel_rfl) (fun eI fR b5=>Ext H b5/\fK b5 a6 t/\Row 93 2 true dX b5 hq a8/\∃bad,eI 56= .bool bad/\(bad=false↔mx t a8)) ?_ ?_
  ·rintro cZ c3-
   simp
   refine ck (ad:=dX) (xs:=a8) (by simpa using lo) (by simp) ?_
   by_cases xE:1000<a8.length
   ·have xF:(1000:Int)<(a8.length:Int):=by omega
    simp[xE,xF]
    refine c3 _ _ _ ⟨jZ,hv,lo,true,by simp,⟨fun h=>(by cases h),fun h=>by have:=h.1.2;omega⟩⟩
   ·have xF:¬(1000:Int)<(a8.length:Int):=by omega
    simp[xE,xF]
    refine ck (ad:=dV) (xs:=t) (by simpa using hv) (by simp) ?_
    simp only[<-aJ]
    try simp
    refine qX (ad:=dV) (xs:=t) (n:=0) (a:=kG) (e:=34) (R:=1) (ay:=false) (by simp[xE,xF]) (by decide) (by simpa using hv) (by simp) qx (by simp) (by simp) (by simp) (by decide) ?_
    rintro mj sx mV
    try simp[xE,xF]
    refine ck (ad:=IR) (xs:=kG) (by simpa using mV) (by simp) ?_
    simp only[gK]
    try simp
    refine aT.mk (aby (n:=n) (m:=m) lo tA oK (by omega) (by omega) (by omega)) ?_
    rintro _ dx ⟨cu,b,rfl,ag⟩
    have pf:=b7.ext (ad:=Row _ _ _ dX) lo cu
    have LI:=b7.ext (ad:=fK) hv cu
    cases b with
    | false=>
     simp
     refine c3 _ _ _ ⟨jZ.aw cu,LI,pf,true,by simp,⟨fun h=>(by cases h),fun h=>?_⟩⟩
     have:=ag.2 (by rw[aJ,hm];exact h.1.1)
     cases this
    | true=>
     have gC:=ag.1 rfl
     simp
     refine zl (e:=27) (R:=1) (ay:=false) (z:= .slice none 0 0) (ad:=Row 93 2 true dX) (a:=a8) (fun aF J=>by simpa using b7.ext (ad:=Row 93 2 true dX) pf J) (by simpa using ae9 pf) (by simp) (by simp) (by simp) (by rfl) (by rfl) (by rfl) (by decide) (by decide) ?_
     intro Qy eV eW cW
     have vb:=b7.ext (ad:=fK) LI cW
     have xn:=b7.ext (ad:=Row _ _ _ dX) pf cW
     simp
     refine aT.mk (R5 (eU:=[a8]) vb an eW.row (by simpa using tA) (by simpa using fun a b h=>(oK _ h).1) (by simp) (by simp;omega) (by simpa[<-hm]using fun a b h=>⟨(gC _ h).1.1,(gC _ h).1.2.2⟩)) ?_
     rintro _ fz ⟨dy,b,rfl,EA⟩
     simp
     refine c3 _ _ _ ⟨jZ.aw (cu.aw (cW.aw dy)),b7.ext (ad:=fK) vb dy,b7.ext (ad:=Row _ _ _ dX) xn dy,!b,by simp,?_⟩
     have bk:([a8]:List (List (List Nat×List Int))).flatten=a8:=by simp
     rw[bk]at EA
     constructor
     ·intro h
      have pj:b=true:=by
       cases b with
       | true=>rfl
       | false=>cases h
      refine⟨⟨by rw[<-aJ,<-hm];exact gC,by omega⟩,fun j k aY ak=>?_⟩
      rw[EA.1 pj j k aY ak,tZ]
      rfl
     ·intro h
      have pj:b=true:=EA.2 fun i k af ak=>by
       rw[h.2 i k af ak,tZ]
       rfl
      rw[pj]
      rfl
  rintro eI fR b5 ⟨cP,En,rz,bad,DX,l6⟩
  simp only[hl]at DX
  simp at DX
  simp[DX]
  refine bs.mk (fun ag=>?_) (fun ag=>?_)
  ·have gh:¬mx t a8:=fun h=>by
    have:=l6.2 h
    rw[this]at ag
    cases ag
   have AM:=aL.2.2 gh
   simp[sw,AM,qJ]
   refine aT.mk F9 ?_
   rintro _ dx ⟨cu,rfl⟩
   simp[bd]
   exact aC _ _ ⟨cP.aw cu,rfl⟩
  ·have ow:=l6.1 ag
   have A4:=ow.ZX an
   have cV:=(aaF fun p aU=>⟨(ow.1.1 p aU).1.1,(rV p aU).1⟩).mono (M:=1241) (by have:=kf.2 ow.1.2;omega)
   have ih:=cV.B4 (by decide)
   have AM:=aL.2.1 ow ih
   have mf:=(Cy (t:=t) rfl rfl an.small (by omega)).2
   refine fM _ _ _ ?_
   clear fM
   refine Exists.elim (⟨_,rfl⟩:∃q,q=dv (parts a8)) fun q av=>?_
   rw[<-av]at A4 cV ih AM
   have n_:=cV.n_
   refine cc.ml fun dA fM=>?_
   simp
   refine aT.mk (ZO rz tA (fun p aU=>(oK p aU).1) (by omega) (fun p aU=>(ow.1.1 p aU).1.1)) ?_
   rw[<-av]
   rintro Qx dx ⟨cu,Xa⟩
   simp
   refine aT.mk (Rh (N:=1241) Xa (by have:=q.den_pos;omega) n_.1 n_.2 (by decide)) ?_
   rintro CP c6 ⟨cR,Dz⟩
   rw[Rat.num_divInt_den,if_pos ih]at Dz
   subst Dz
   simp
   refine fM _ _ _ ?_
   clear fM
   have va:=b7.ext (ad:=fK) En (cu.aw cR)
   refine cc.ml fun dA fM=>?_
   simp
   refine aT.mk (Rk va an) ?_
   rintro _ eV ⟨cW,rfl⟩
   simp
   refine fM _ _ _ ?_
   clear fM
   have ts:=y1 ih
   have iN:=Gl ts.1
   simp[sw,AM]
   refine aT.mk (zX (Oy q) (by omega)) ?_
   rintro ae5 fz ⟨dy,ajJ,d9,BI,ig⟩
   have bk:=(ig ts.1).1
   have bp:=(ig ts.1).2
   rw[ts.2.1]at bk
   rw[ts.2.2]at bp
   subst bk bp
   simp
   refine aT.mk (zY (n:=(ir t).1) (by omega) (by omega)) ?_
   rintro ae3 k9 ⟨gL,vO⟩
   simp
   refine aT.mk (Q8 (N:=1241) (BI.ext gL) vO n_.1 n_.2 ((b0.i64 (by omega) (by omega)).mono (by decide)) (b0.small (by decide) (by decide)) (by decide)) ?_
   rintro _ iS ⟨gq,z,rfl,aM⟩
   have qD:=aM.2 A4
   simp[qD]
   refine aT.mk F9 ?_
   rintro _ im ⟨gr,rfl⟩
   simp[bd]
   exact aC _ _ ⟨cP.aw (cu.aw (cR.aw (cW.aw (dy.aw (gL.aw (gq.aw gr)))))),rfl⟩
 ·have e0:=ou an
  subst e0
  simp
  refine fM _ _ _ ?_
  clear fM
  refine cc.ml fun dA fM=>?_
  simp
  refine aT.mk (PE hv (by omega) fun r al=>by have:=BD r al;omega) ?_
  rintro _ _ ⟨rfl,rfl⟩
  simp[an,sw,qJ]
  refine aT.mk F9 ?_
  rintro _ b5 ⟨cP,rfl⟩
  simp[bd]
  exact aC _ _ ⟨jZ.aw cP,rfl⟩
end Go.dq
end
section
set_option maxRecDepth 8000
set_option maxHeartbeats 1000000
namespace Go.dq
open Go.Proofs
open Go.Proofs.Tryz (prog)
open Go.RowKit
class lS {α:Type} (ad:ab->Value->α->Prop):Prop where
 app:∀{H N:ab} {v:Value} {x:α},ad H v x->ad (H++N) v x
theorem ey.app{H N:ab}{e R n:Nat}{v:Value}{cs:List Value}(h:ey H e R v n cs):ey (H++N) e R v n cs:=by
 obtain⟨a,cap,o,aa,aA,bj⟩:=h
 refine⟨a,cap,o,aa,aA,fun ae=>?_⟩
 obtain⟨b,i,X,all,a0,a4,bI⟩:=bj ae
 exact⟨b,i,X,all,a0,by rw[List.getElem?_append_left (cJ.1 a4).1];exact a4,bI⟩
instance{α:Type}{e R:Nat}{ay:Bool}{ad:ab->Value->α->Prop}[lS ad]:lS (Row e R ay ad):=⟨fun⟨cs,o,aa⟩=>⟨cs,o.app,fun i x af=>lS.app (aa i x af)⟩⟩
instance:lS IR:=⟨fun h=>h⟩
def uO(ay:Bool)(cs:List Value):Value:=if ay=true then .agg cs.toArray else cs[0]?.getD undef
def lU(H:Type)(enc:TypeId×Value->H)(w:World)(t:TypeId)(cs:List Value):Prop:=∃fuel x,DataW.trod enc prog w 0 (fun _=>true) true fuel t cs=some x
def n0(w:World)(aj:bm)(H:ab):Prop:=ct prog w.heap.size aj H w/\∀b,¬hW H b
def fq{α:Type}(w:World)(rd:List Value->Prop)(ay:Bool)(ad:ab->Value->α->Prop):Prop:=
 ∀cs,rd cs->∀aj H,n0 w aj H->∃bB N z8 x,n0 w bB (H++N)/\(∀b k,aj b=some k->bB b=some k)/\c0 bB z8 cs/\ad (H++N) (uO ay z8) x
theorem fq.imp{α:Type}{w:World}{rd O5:List Value->Prop}{ay:Bool}{ad uz:ab->Value->α->Prop}(h:fq w rd ay ad)(o:∀cs,O5 cs->rd cs)(aa:∀H v x,ad H v x->uz H v x):fq w O5 ay uz:=fun cs ae aj H dm=>by
 obtain⟨bB,N,z8,x,a0,a4,bI,cj⟩:=h cs (o cs ae) aj H dm
 exact⟨bB,N,z8,x,a0,a4,bI,aa _ _ _ cj⟩
theorem c0.one{aj:bm}{v au:Value}(h:bo aj v au):c0 aj [v] [au]:=⟨rfl,fun i x y J aI=>by
 match i with
 | 0=>simp at J aI;subst J aI;exact h
 | n+1=>simp at J⟩
theorem fq.flat{α:Type}{w:World}{rd:List Value->Prop}{ad:ab->Value->α->Prop}(h:∀cs,rd cs->∃v au x,cs=[au]/\(∀aj,bo aj v au)/\∀H,ad H v x):fq w rd false ad:=fun cs ae aj H dm=>by
 obtain⟨v,au,x,rfl,o,aa⟩:=h cs ae
 exact⟨aj,[],[v],x,by simpa using dm,fun _ _ h=>h,c0.one (o aj),aa _⟩
theorem fq.int{w:World}{H:Type}{enc:TypeId×Value->H}:fq w (lU H enc w 3) false IR:=fq.flat fun cs ⟨fuel,x,h⟩=>by
 obtain⟨n,rfl,-⟩:=DataW.trod_int (k:= .i64) (by rfl) h
 exact⟨_,_,n,rfl,fun aj=> .int _ _,fun H=>rfl⟩
theorem fq.many{α:Type}{w:World}{rd:List Value->Prop}{ay:Bool}{ad:ab->Value->α->Prop}[lS ad](h:fq w rd ay ad):∀(L:List (List Value)),(∀cs∈L,rd cs)->∀aj H,n0 w aj H->
  ∃(bB:bm) (N:ab) (M:List (List Value)) (xs:List α),n0 w bB (H++N)/\(∀b k,aj b=some k->bB b=some k)/\M.length=L.length/\xs.length=L.length/\∀(i:Nat) (c:List Value),L[i]?=some c->∃cm x,M[i]?=some cm/\xs[i]?=some x/\c0 bB cm c/\ad (H++N) (uO ay cm) x
 | [],_,aj,H,dm=>⟨aj,[],[],[],by simpa using dm,fun _ _ h=>h,rfl,rfl,fun i c h=>by simp at h⟩
 | a::L,ev,aj,H,dm=>by
  obtain⟨bB,wG,cm,q2,c9,gi,eT,gj⟩:=h a (ev a (by simp)) aj H dm
  obtain⟨lK,wH,M,xs,a0,a4,bI,cj,e8⟩:=fq.many h L (fun c ae=>ev c (by simp[ae])) bB (H++wG) c9
  refine⟨lK,wG++wH,cm::M,q2::xs,by rw[<-List.append_assoc];exact a0,fun b k ag=>a4 b k (gi b k ag),by simp[bI],by simp[cj],fun i c ae=>?_⟩
  match i with
  | 0=>
   simp at ae
   subst ae
   exact⟨cm,q2,rfl,rfl,c0.ext a4 eT,by rw[<-List.append_assoc];exact lS.app gj⟩
  | n+1=>
   obtain⟨cI,m7,eg,fZ,iO,m4⟩:=e8 n c (by simpa using ae)
   exact⟨cI,m7,by simpa using eg,by simpa using fZ,iO,by rw[<-List.append_assoc];exact m4⟩
theorem n0.snoc{w:World}{aj:bm}{H:ab}(h:n0 w aj H){e:TypeId}{inf:TypeInfo}{b U:Nat}{cs eN:List Value}(af:(prog).info? e=some inf)(ag:b<w.heap.size)(dm:c0 aj cs eN)
  (EH:∀i v,eN[i]?=some v->w.cell? ⟨b,U+i,none⟩=some v):
  ∃bB,n0 w bB (H++[.ro e cs])/\(∀c k,aj c=some k->bB c=some k)/\bB H.length=some ⟨b,U,0,inf.size,false⟩:=by
 obtain⟨bL,gh⟩:=h
 have aZ:∀c k,aj c=some k->c<H.length:=fun c k ae=>(bL.eZ c k ae).2
 have nq:∀c k,aj c=some k->(fun c=>if c=H.length then some (⟨b,U,0,inf.size,false⟩:iR)else aj c) c=some k:=fun c k ae=>by
  have:=aZ c k ae
  show(if c=H.length then _ else _)=_
  rw[if_neg (by omega)]
  exact ae
 have ME:∀c,¬hW (H++[.ro e cs]) c:=by
  rintro c ⟨c5,l,eN,h⟩
  rcases Nat.lt_or_ge c H.length with ae | ae
  ·rw[List.getElem?_append_left ae]at h
   exact gh c ⟨c5,l,eN,h⟩
  ·rw[List.getElem?_append_right ae]at h
   match av:c-H.length with
   | 0=>rw[av]at h;simp at h
   | n+1=>rw[av]at h;simp at h
 refine⟨fun c=>if c=H.length then some ⟨b,U,0,inf.size,false⟩else aj c,⟨⟨by simp,Nat.le_refl _,fun c k ae=>?_,fun c k y ae aI=>?_,fun c dY k b_ _ _ _ aQ=>absurd aQ (ME c)⟩,ME⟩,nq,by simp⟩
 ·have aU:=bL.pos
  split at ae
  ·next av=>subst av;simp;exact aU
  ·have:=bL.eZ c k ae
   simp
   omega
 ·split at ae
  ·next av=>
   subst av
   obtain rfl:=Option.some.inj ae
   rw[List.getElem?_append_right (Nat.le_refl _),Nat.sub_self]at aI
   obtain rfl:=Option.some.inj aI
   refine .ro af rfl (fun i v an=>?_) ag
   have cK:=(cJ.1 an).1
   have dR:=bz (l:=eN) (i:=i) (by rw[<-dm.1];exact cK)
   exact⟨_,EH i _ dR,(dm.2 i _ _ an dR).ext nq⟩
  ·have:=aZ c k ae
   rw[List.getElem?_append_left this]at aI
   exact(bL.fc c k y ae aI).gN nq (fun _=>rfl) (Nat.le_refl _)
theorem Ry{w:World}{a:Addr}{v:Value}(h:w.cell? a=some v):a.block<w.heap.size:=by
 rcases Nat.lt_or_ge a.block w.heap.size with o | o
 ·exact o
 ·unfold World.cell? at h
  rw[Array.getElem?_eq_none o]at h
  simp at h
theorem RA{w:World}{x:Addr}{n:Nat}{cs:List Value}(aJ:0<n)(ar:cs.length=n)(h:∀i v,cs[i]?=some v->w.cell? (x.add i)=some v):x.spot=none/\x.block<w.heap.size/\∀i v,cs[i]?=some v->w.cell? ⟨x.block,x.off+i,none⟩=some v:=by
 have aH:=h 0 _ (bz (by omega))
 have hH:x.add 0=x:=by simp[Addr.add]
 rw[hH]at aH
 have tC:=World.cell?_spot aH
 refine⟨tC,Ry aH,fun i v af=>?_⟩
 have:=h i v af
 obtain⟨b,U,s⟩:=x
 simp only at tC
 subst tC
 by_cases AW:i=0
 ·subst AW;simpa[Addr.add]using this
 ·simpa[Addr.add,AW]using this
theorem s3{L:List (List Value)}{n:Nat}(h:∀c∈L,c.length=n):L.flatten.length=L.length*n:=by
 induction L with
 | nil=>simp
 | cons a L a1=>
  rw[List.flatten_cons,List.length_append,a1 fun c ae=>h c (by simp[ae]),h a (by simp),List.length_cons,Nat.succ_mul,Nat.add_comm]
theorem KT{L:List (List Value)}{n:Nat}(h:∀c∈L,c.length=n){i:Nat}{c:List Value}(af:L[i]?=some c):(L.flatten.drop (i*n)).take n=c:=by
 induction L generalizing i with
 | nil=>simp at af
 | cons a L a1=>
  have aL:=h a (by simp)
  match i with
  | 0=>
   simp at af
   subst af
   rw[List.flatten_cons,Nat.zero_mul,List.drop_zero,List.take_append_of_le_length (by omega),List.take_of_length_le (by omega)]
  | m+1=>
   rw[List.flatten_cons,show(m+1)*n=a.length+m*n by rw[aL,Nat.succ_mul,Nat.add_comm],List.drop_append,List.drop_of_length_le (by omega),List.nil_append,Nat.add_sub_cancel_left]
   exact a1 (fun c ae=>h c (by simp[ae])) (by simpa using af)
theorem DH{L:List (List Value)}{n:Nat}(h:∀c∈L,c.length=n){q:Nat}{v:Value}(an:L.flatten[q]?=some v):∃i j c,L[i]?=some c/\c[j]?=some v/\j<n/\q=i*n+j:=by
 have av:=(cJ.1 an).1
 rw[s3 h]at av
 have aJ:0<n:=by exact Nat.pos_of_ne_zero fun aH=>by subst aH;simp at av
 have af:q/n<L.length:=(Nat.div_lt_iff_lt_mul aJ).2 av
 have aY:=Nat.mod_lt q aJ
 have oI:q=(q/n)*n+q % n:=by rw[Nat.mul_comm];exact(Nat.div_add_mod q n).symm
 have dm:=bz af
 refine⟨q/n,q % n,_,dm,?_,aY,oI⟩
 have:=KT h dm
 rw[<-this,List.getElem?_take_of_lt aY,List.getElem?_drop,<-oI]
 exact an
theorem Addr.add_add(a:Addr)(i j:Nat):(a.add i).add j=a.add (i+j):=Go.Deep.add_add a i j
theorem fq.slice{α:Type}{w:World}{wD:Type}{enc:TypeId×Value->wD}{t e:TypeId}{R:Nat}{ay:Bool}{ad:ab->Value->α->Prop}[lS ad]{inf:TypeInfo}(bM:(prog).underlying t=some (.slice e))(cV:(prog).cellsOf e=R)(o:ay=true\/R=1)(aH:0<R)
  (af:(prog).info? e=some inf)(ao:inf.size=R)(h:fq w (lU wD enc w e) ay ad):fq w (lU wD enc w t) false (Row e R ay ad):=by
 rintro cs ⟨fuel,x,J⟩ aj H dm
 rcases Go.Deep.open_slice bM J with⟨rfl,_⟩ | ⟨a,len,cap,m,n,D,agK,rfl,_,ar,hm,V5,_,EN⟩
 ·exact⟨aj,[],[.slice none 0 0],[],by simpa using dm,fun _ _ h=>h,c0.one .r_,Row.nil _ _ _ _ _⟩
 ·have ai9:m=cap:=by simpa using V5
  by_cases aM:len=0
  ·subst aM
   have ag:=dm.1.pos
   exact⟨aj,[],[.slice (some ⟨1,0,none⟩) 0 0],[],by simpa using dm,fun _ _ h=>h,c0.one (.empty (by decide) _ _),[],ey.void _ _ _ _,fun i x h=>by simp at h⟩
  ·obtain⟨g,aX⟩:=Go.Deep.choose_lt (α:=List Value) (n:=len) (p:=fun i c=>w.cells? 0 (a.add (i*R)) R=some c/\lU wD enc w e c) fun i af=>by
    obtain⟨c,a0,a4⟩:=EN i (by omega)
    rw[cV]at a0
    exact⟨c,a0,_,_,a4⟩
   obtain⟨L,Lw⟩:∃L,L=(List.range len).map g:=⟨_,rfl⟩
   have Lz:L.length=len:=by rw[Lw];simp
   have Lx:∀i c,L[i]?=some c->i<len/\c=g i:=fun i c ae=>by
    have cK:=(cJ.1 ae).1
    rw[Lw,List.getElem?_map,List.getElem?_range (by omega)]at ae
    exact⟨by omega,(Option.some.inj ae).symm⟩
   have gg:∀c∈L,c.length=R/\lU wD enc w e c:=fun c ae=>by
    obtain⟨i,af⟩:=List.mem_iff_getElem?.1 ae
    obtain⟨a0,rfl⟩:=Lx i c af
    obtain⟨eg,fZ⟩:=aX i a0
    exact⟨(World.cells?_some eg).2.1,fZ⟩
   obtain⟨bB,N,M,xs,c9,gi,eT,gj,iD⟩:=fq.many h L (fun c ae=>(gg c ae).2) aj H dm
   have Ea:∀i cm,M[i]?=some cm->∃c x,L[i]?=some c/\xs[i]?=some x/\c0 bB cm c/\ad (H++N) (uO ay cm) x:=fun i cm ae=>by
    have cK:=(cJ.1 ae).1
    have Ly:=bz (l:=L) (i:=i) (by omega)
    obtain⟨cI,m7,eg,fZ,iO,m4⟩:=iD i _ Ly
    rw[ae]at eg
    obtain rfl:=Option.some.inj eg
    exact⟨_,m7,Ly,fZ,iO,m4⟩
   have u4:∀c∈M,c.length=R:=fun c ae=>by
    obtain⟨i,af⟩:=List.mem_iff_getElem?.1 ae
    obtain⟨cI,m7,eg,fZ,iO,-⟩:=Ea i c af
    rw[iO.1]
    exact(gg cI (List.mem_of_getElem? eg)).1
   have Ay:∀c∈L,c.length=R:=fun c ae=>(gg c ae).1
   have D9:c0 bB M.flatten L.flatten:=by
    refine⟨by rw[s3 u4,s3 Ay,eT],fun q v au an dR=>?_⟩
    obtain⟨i,j,c,a0,a4,bI,cj⟩:=DH u4 an
    obtain⟨j0,ek,dY,Cb,aaU,aaV,aaW⟩:=DH Ay dR
    have EU:i=j0:=by
     have bk:(i*R+j)/R=i:=by rw[Nat.mul_comm,Nat.mul_add_div aH,Nat.div_eq_of_lt bI];rfl
     have bp:(j0*R+ek)/R=j0:=by rw[Nat.mul_comm,Nat.mul_add_div aH,Nat.div_eq_of_lt aaV];rfl
     rw[<-bk,<-bp,<-cj,<-aaW]
    subst EU
    obtain rfl:j=ek:=by omega
    obtain⟨cI,m7,eg,fZ,iO,-⟩:=Ea i c a0
    rw[Cb]at eg
    obtain rfl:=Option.some.inj eg
    exact iO.2 j v au a4 aaU
   have mL:∀q v,L.flatten[q]?=some v->w.cell? (a.add q)=some v:=fun q v an=>by
    obtain⟨i,j,c,a0,a4,bI,rfl⟩:=DH Ay an
    obtain⟨eg,rfl⟩:=Lx i c a0
    have fZ:=(World.cells?_some (aX i eg).1).2.2 j bI
    rw[Addr.add_add]at fZ
    rw[fZ,a4]
   have ti:L.flatten.length=len*R:=by rw[s3 Ay,Lz]
   obtain⟨tC,oq,gy⟩:=RA (x:=a) (n:=len*R) (Nat.mul_pos (by omega) aH) ti mL
   obtain⟨lK,s1,s2,lH⟩:=c9.snoc (e:=e) af oq D9 gy
   obtain⟨agP,agY,ag6⟩:=a
   simp only at tC
   subst tC
   have UB:=bo.slice (i:=0) (len:=len) (cap:=cap) (dJ:=cap) lH (by omega) ar (Nat.le_refl _) (fun _=>rfl) (fun h=>by cases h)
   refine⟨lK,N++[.ro e M.flatten],[.slice (some ⟨(H++N).length,0,none⟩) len cap],xs,by rw[<-List.append_assoc];exact s1,fun b k ag=>s2 b k (gi b k ag),c0.one (by simpa using UB),?_⟩
   rw[<-List.append_assoc]
   refine⟨M.flatten,⟨_,cap,by simp[uO,gj,Lz],by omega,by rw[s3 u4,eT,gj],fun _=>⟨_,0,_,_,rfl,List.getElem?_concat_length,rfl,rfl,?_,?_⟩⟩,fun i y aI=>?_⟩
   ·rw[s3 u4,eT,gj];omega
   ·rw[List.drop_zero,List.take_of_length_le (by rw[s3 u4,eT,gj];omega)]
   ·have cK:=(cJ.1 aI).1
    have LB:=bz (l:=M) (i:=i) (by omega)
    obtain⟨cI,m7,eg,fZ,iO,m4⟩:=Ea i _ LB
    rw[aI]at fZ
    obtain rfl:=Option.some.inj fZ
    have bk:eA ay R M.flatten i=uO ay M[i]:=by
     have oz:=KT u4 LB
     unfold eA uO
     rcases o with rfl | rfl
     ·rw[if_pos rfl,if_pos rfl,oz]
     ·cases ay with
      | true=>rw[if_pos rfl,if_pos rfl,oz]
      | false=>
       rw[if_neg (by decide),if_neg (by decide),<-oz,List.getElem?_take_of_lt (by decide),List.getElem?_drop]
       simp
    rw[bk]
    exact lS.app m4
theorem n0.start{w:World}:n0 w (fun _=>none) [.dead]:=
 ⟨⟨by simp,Nat.le_refl _,(fun b k h=>by cases h),(fun b k x h=>by cases h),fun b cy k b_ h=>by cases h⟩,by
  rintro b ⟨e,l,cs,h⟩
  match b with
  | 0=>simp at h
  | n+1=>simp at h⟩
theorem Step.below{aj bB:bm}{H H1:ab}{w a6:World}(h:Step aj H w bB H1 a6)(gh:∀b,¬hW H b):Below w.heap.size w a6:=
 ⟨h.os,h.tape,h.output,h.size,fun g aX=>h.frame g aX fun b k _ aQ=>absurd aQ (gh b)⟩
theorem aac:(prog).follows .mixedOrders=true:=by kernel_rfl
theorem fq.pair{α β:Type}{w:World}{H:Type}{enc:TypeId×Value->H}{t t0 t1:TypeId}{C5:ab->Value->α->Prop}{ft:ab->Value->β->Prop}[lS C5](hu:∃f0 f1,(prog).underlying t=some (.struct #[f0,f1])/\f0.offset=0/\f1.offset=1/\f0.type=t0/\f1.type=t1)
  (sU:(prog).cellsOf t0=1)(cm:(prog).cellsOf t1=1)(mC:(prog).cellsOf t=2)(A:fq w (lU H enc w t0) false C5)(B:fq w (lU H enc w t1) false ft):
  fq w (lU H enc w t) true (fun G v (p:α×β)=>∃a b,v= .agg #[a,b]/\C5 G a p.1/\ft G b p.2):=by
 rintro cs ⟨fuel,x,h⟩ aj G dm
 obtain⟨f0,f1,hu,aap,aaq,rfl,rfl⟩:=hu
 obtain⟨xs,k,ak,yC,gd,jB,aB⟩:=DataW.trod_struct hu h
 have cz:=aB 0 _ rfl
 have cr:=aB 1 _ rfl
 rw[mC]at gd
 match cs,gd,xs,jB with
 | [fw,mn],_,[alT,alU],_=>
  simp[aap,sU]at cz
  simp[aaq,cm]at cr
  obtain⟨bB,wG,y_,a,c9,gi,eT,gj⟩:=A [fw] ⟨_,_,cz⟩ aj G dm
  obtain⟨lK,wH,s1,b,a0,a4,bI,cj⟩:=B [mn] ⟨_,_,cr⟩ bB _ c9
  match y_,eT,s1,bI with
  | [v0],eT,[v1],bI=>
   refine⟨lK,wG++wH,[v0,v1],(a,b),by rw[<-List.append_assoc];exact a0,fun b k ag=>a4 b k (gi b k ag),(c0.ext a4 eT).append bI,?_⟩
   rw[<-List.append_assoc]
   exact⟨v0,v1,rfl,lS.app gj,cj⟩
  | [],eT,_,_=>exact absurd eT.1 (by simp)
  | _::_::_,eT,_,_=>exact absurd eT.1 (by simp)
  | [_],_,[],bI=>exact absurd bI.1 (by simp)
  | [_],_,_::_::_,bI=>exact absurd bI.1 (by simp)
theorem fq.ko{w:World}{H:Type}{enc:TypeId×Value->H}:fq w (lU H enc w 22) false fK:=
 fq.slice (by rfl) (by rfl) (.inr rfl) (by decide) (by rfl) (by rfl) (fq.slice (t:=34) (by rfl) (by rfl) (.inr rfl) (by decide) (by rfl) (by rfl) fq.int)
theorem Rq(s:ByteArray):∃l,s=b2 l/\Bytes l:=by
 refine⟨s.data.toList.map UInt8.toNat,?_,fun x J=>?_⟩
 ·obtain⟨⟨l⟩⟩:=s
  simp[b2,Function.comp_def]
 ·rw[List.mem_map]at J
  obtain⟨b,-,rfl⟩:=J
  exact b.toNat_lt
def HT(H:ab)(v:Value)(l:List Nat):Prop:=v= .string (b2 l)/\Bytes l
instance:lS HT:=⟨fun h=>h⟩
theorem fq.str{w:World}{H:Type}{enc:TypeId×Value->H}{t:TypeId}(bM:(prog).underlying t=some .string):fq w (lU H enc w t) false HT:=fq.flat fun cs ⟨fuel,x,h⟩=>by
 obtain⟨s,rfl,-⟩:=DataW.trod_string bM h
 obtain⟨l,rfl,ar⟩:=Rq s
 exact⟨_,_,l,rfl,fun aj=> .str _,fun H=>⟨rfl,ar⟩⟩
def C6(H:ab)(v:Value)(p:List Nat×List Int):Prop:=dX H v p/\Bytes p.1
instance:lS C6:=⟨fun⟨⟨a,n,c,h,o⟩,ag⟩=>⟨⟨a,n,c,h,lS.app o⟩,ag⟩⟩
theorem fq.shift{w:World}{H:Type}{enc:TypeId×Value->H}:fq w (lU H enc w 93) true C6:=
 (fq.pair (w:=w) (t:=93) (t0:=45) (t1:=34) ⟨_,_,by rfl,by rfl,by rfl,by rfl,by rfl⟩ (by rfl) (by rfl) (by rfl) (fq.str (by rfl))
  (fq.slice (t:=34) (e:=3) (by rfl) (by rfl) (.inr rfl) (by decide) (by rfl) (by rfl) fq.int)).imp (fun _ h=>h) fun G v p ⟨a,b,o,aa,aA⟩=>by
   obtain⟨x,c,rfl⟩:=Row.len aA
   obtain⟨rfl,ag⟩:=aa
   exact⟨⟨_,_,_,o,aA⟩,ag⟩
theorem fq.wh{w:World}{H:Type}{enc:TypeId×Value->H}:fq w (lU H enc w 27) false (Row 93 2 true C6):=
 fq.slice (by rfl) (by rfl) (.inl rfl) (by decide) (by rfl) (by rfl) fq.shift
theorem Row.and{α:Type}{e R:Nat}{ay:Bool}{ad uz:ab->Value->α->Prop}{p:α->Prop}{H:ab}{v:Value}{xs:List α}(h:Row e R ay ad H v xs)(br:∀H v x,ad H v x->uz H v x/\p x):Row e R ay uz H v xs/\∀x∈xs,p x:=by
 obtain⟨cs,o,aa⟩:=h
 refine⟨⟨cs,o,fun i x af=>(br _ _ _ (aa i x af)).1⟩,fun x J=>?_⟩
 obtain⟨i,af⟩:=List.mem_iff_getElem?.1 J
 exact(br _ _ _ (aa i x af)).2
theorem Rx{f:FuncId}{args:List Value}{H:ab}{Q:Value->ab->Prop}(aJ:(match dH prog (callFunc f args.toArray)with | some (.value _)=>true | _=>false)=false)(h:aO prog f args H Q):∃v H1,ee prog (.call f args H) (.val v H1)/\Q v H1:=by
 obtain⟨v,H1,⟨-,al⟩ | ⟨⟨-,-,al⟩,-⟩,av⟩:=h
 ·exact⟨v,H1,al,av⟩
 ·rw[al]at aJ
  cases aJ
theorem ae6{w:World}{f:FuncId}{args lb:List Value}{aj:bm}{H:ab}(dm:n0 w aj H)(bw:c0 aj args lb)(aJ:(match dH prog (callFunc f args.toArray)with | some (.value _)=>true | _=>false)=false)
  (h:aO prog f args H fun v H1=>Ext H H1/\v= .bool true):Calls prog f lb.toArray w fun e gQ=>e= .returned (.bool true)/\Below w.heap.size w gQ:=by
 obtain⟨u,H1,br,J,rfl⟩:=Rx aJ h
 refine(abl aac br (lb:=lb.toArray) (by simpa using bw) dm.1).mono fun e gQ he=>?_
 obtain⟨au,bB,rfl,an,-,dc⟩:=he
 cases an
 exact⟨rfl,dc.below dm.2⟩
theorem c0.single{aj:bm}{l:List Value}{v:Value}(h:c0 aj l [v]):∃u,l=[u]:=by
 match l,h.1 with
 | [u],_=>exact⟨u,rfl⟩
theorem abL{w:World}{H:Type}{enc:TypeId×Value->H}{x y:Value}(aH:lU H enc w 22 [x])(o:lU H enc w 27 [y]):
  Calls prog 4 #[x,y] w fun e gQ=>e= .returned (.bool true)/\Below w.heap.size w gQ:=by
 obtain⟨bB,wG,y_,a,c9,gi,eT,gj⟩:=fq.ko _ aH _ _ n0.start
 obtain⟨lK,wH,s1,b,a0,a4,bI,cj⟩:=fq.wh _ o _ _ c9
 obtain⟨v0,rfl⟩:=eT.single
 obtain⟨v1,rfl⟩:=bI.single
 have fg:=lS.app (ad:=fK) (N:=wH) gj
 obtain⟨eg,fZ⟩:=Row.and (uz:=dX) (p:=fun p=>Bytes p.1) cj fun _ _ _ h=>h
 change fK _ v0 a at fg
 change Row _ _ _ _ _ v1 b at eg
 obtain⟨zR,sU,rfl⟩:=Row.len fg
 obtain⟨b4,cm,rfl⟩:=Row.len eg
 exact ae6 a0 ((c0.ext a4 eT).append bI) (by kernel_rfl) (abK fg eg fZ)
end Go.dq
end
section
namespace Go.Proofs.YtoiodfcefbapkaaGreat.shopDoes
open Go.ChangeShapes Go.WideShapes Go.ChangeAt Go.RowKit
theorem own:ownKnob Tryz.prog.godebug=none:=by kernel_rfl
theorem laidOut:laidOutB Tryz.prog=true:=by kernel_rfl
set_option maxRecDepth 100000 in
theorem lifted(os:Os)(started:os.Started)(H:Type)(enc:TypeId×Value->H):
  ReturnsInHanded {} Tryz.checked os 4 .any (Rows.shopDoesSpec.pre6 enc Tryz.prog Tryz.f4 Rows.shopDoesRow.domain false) (Rows.shopDoesSpec.post enc Tryz.prog Tryz.f4 false true false false):=by
 refine returnsInHanded_of_change (C:=Tryz.checked) own started (by kernel_rfl) Tryz.func4
  (ChangeSpec.witness6 (enc:=enc) (C:=Tryz.checked) false ⟨#[], #[.slice none 0 0,.slice none 0 0],[]⟩ 8 (by kernel_rfl) (by kernel_rfl) (by kernel_rfl) (by kernel_rfl)) ?_
 intro W base args aK gs before Nk vj aiI _
 have hk:∀(j:Nat) t v,Tryz.f4.params[j]?=some t->args[j]?=some v->Value.okWide Tryz.prog W .any base t v:=Nk
 have UC:=vj
 obtain⟨p,q,s8,oh,rfl,L9,ig⟩:=vj
 have bw:DataW.TrodAll enc Tryz.prog W 0 (fun _=>true) true Tryz.f4.params.toList args.toList aK p:=s8
 rw[Tryz.params4]at bw hk
 obtain⟨v0,alL,d0,aic,Gk,ajT,rC,rfl,rfl,aH,fg⟩:=trodAll_cons bw
 obtain⟨v1,alM,d1,aid,c9,a0,aiz,rfl,rfl,o,eg⟩:=trodAll_cons fg
 obtain⟨rfl,rfl,rfl⟩:=trodAll_nil eg
 obtain rfl:args= #[v0,v1]:=by cases args;simp_all
 obtain⟨rfl,rfl⟩:=trodVars_none oh
 obtain⟨zR,BU,aht,rfl⟩:=okWide_slice Tryz.underlying22 (hk 0 22 v0 rfl rfl)
 obtain⟨b4,ajF,wY,rfl⟩:=okWide_slice Tryz.underlying27 (hk 1 27 v1 rfl rfl)
 have hP:=aH
 have jC:=o
 have ZY:∀x∈Gk,x.block<W.heap.size:=by obtain⟨m,hm⟩:=hP;exact DataW.trod_lt m _ _ _ hm
 have ZZ:∀x∈c9,x.block<W.heap.size:=by obtain⟨m,hm⟩:=jC;exact DataW.trod_lt m _ _ _ hm
 obtain⟨Tg,hH⟩:=aH
 obtain⟨Th,bk⟩:=o
 simp only[Value.cells]at hH bk
 clear s8 Nk
 refine(dq.abL (H:=H) (enc:=enc) ⟨Tg,_,hH⟩ ⟨Th,_,bk⟩).mono fun e agM ⟨he,Dh⟩=>?_
 subst he
 exact⟨_,rfl,_,_,_,[],_,[],UC,trodAll_mk1 (shut_bool Tryz.underlying4 _),(trodAll_cons_mk (Below.trod laidOut (by kernel_rfl) (of_decide_eq_true (by kernel_rfl)) hP Dh ZY) (trodAll_cons_mk (Below.trod laidOut (by kernel_rfl) (of_decide_eq_true (by kernel_rfl)) jC Dh ZZ) trodAll_mk0)),rfl,Dh.frame _,fun h=>by cases h⟩
theorem over:Rows.shopDoesRow.holds Tryz.pinned (OpenSpec.ofChange Rows.shopDoesSpec):=
 OpenClaim.holds_of_wide 4 Tryz.f4 rfl rfl rfl rfl rfl rfl rfl ⟨rfl,rfl,rfl,rfl,rfl⟩ rfl rfl rfl rfl rfl (by kernel_rfl) Tryz.func4 (by kernel_rfl)
  (of_decide_eq_true (by kernel_rfl)) (by unfold Func.isWrapper;first | (rw[if_pos (by decide+kernel)];kernel_rfl) | (rw[if_neg (by decide+kernel)];exact⟨rfl,rfl⟩))
  (fun os started H enc _=>lifted os started H enc)
theorem proved:Rows.ShopDoesSaid:=over
end Go.Proofs.YtoiodfcefbapkaaGreat.shopDoes
end
