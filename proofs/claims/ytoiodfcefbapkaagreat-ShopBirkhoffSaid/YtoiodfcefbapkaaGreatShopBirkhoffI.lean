/- Part of the proof of ShopBirkhoff. -/
import Derived.Test.YtoiodfcefbapkaaGreatShopBirkhoffH
set_option linter.unusedVariables false
set_option linter.unusedSimpArgs false
section
set_option maxRecDepth 8000
set_option maxHeartbeats 1000000
namespace Go.cl
open Go.Proofs
open Go.Proofs.Tryz (prog)
attribute [-simp] gk hq iM
def fk(D:Nat)(q:Rat):Prop:=∃z:Int,q*(D:Rat)=(z:Rat)
theorem fk.add{D:Nat}{a b:Rat}(aL:fk D a)(af:fk D b):fk D (a+b):=by
 obtain⟨x,J⟩:=aL
 obtain⟨y,aP⟩:=af
 exact⟨x+y,by rw[Rat.intCast_add,<-J,<-aP];grind⟩
theorem fk.sub{D:Nat}{a b:Rat}(aL:fk D a)(af:fk D b):fk D (a-b):=by
 obtain⟨x,J⟩:=aL
 obtain⟨y,aP⟩:=af
 exact⟨x-y,by rw[Rat.intCast_sub,<-J,<-aP];grind⟩
theorem fk.zero(D:Nat):fk D 0:=⟨0,by simp⟩
theorem fk.int(z:Int):fk 1 (z:Rat):=⟨z,by simp⟩
structure mw (D N:Nat) (L:Rat):Prop where
 pos:0<D
 small:D<2^N
 top:∃z:Int,L*(D:Rat)<=(z:Rat)/\z.natAbs<2^N
 bits:N<=1000000
theorem mw.le{D N:Nat}{L vp:Rat}(h:mw D N L)(au:vp<=L):mw D N vp:=by
 obtain⟨z,aQ,dt⟩:=h.top
 exact⟨h.pos,h.small,⟨z,Rat.le_trans (Rat.mul_le_mul_of_nonneg_right au (by exact_mod_cast Nat.zero_le D)) aQ,dt⟩,h.bits⟩
theorem mw.R{D N:Nat}{L q:Rat}(h:mw D N L)(aq:fk D q)(aG:0<=q)(au:q<=L):dj N q:=by
 obtain⟨R8,Y4,dt⟩:=h.top
 obtain⟨z,aQ⟩:=aq
 have fh:(0:Rat)<(D:Rat):=by exact_mod_cast h.pos
 have uP:0<=z:=by
  have:(0:Rat)<=(z:Rat):=by rw[<-aQ];exact Rat.mul_nonneg aG (Rat.le_of_lt fh)
  exact_mod_cast this
 have iJ:z<=R8:=by
  have:(z:Rat)<=(R8:Rat):=by
   rw[<-aQ]
   exact Rat.le_trans (Rat.mul_le_mul_of_nonneg_right au (Rat.le_of_lt fh)) Y4
  exact_mod_cast this
 have e:q=Rat.divInt z D:=by
  rw[Rat.divInt_eq_div,<-aQ]
  have:((D:Int):Rat)=(D:Rat):=rfl
  rw[this,Rat.mul_div_cancel (by intro h;rw[h]at fh;exact Rat.lt_irrefl fh)]
 rw[e]
 exact dj.divInt (by have:=h.pos;omega) (by omega) h.small
theorem mw.int{z:Int}{N:Nat}(aQ:z.natAbs<2^N)(bW:0<N)(af:N<=1000000):mw 1 N (z:Rat):=
 ⟨by decide,Nat.one_lt_two_pow (by omega),⟨z,by simp,aQ⟩,af⟩
theorem Qt(r:List Rat)(k:Nat):eS (r.take k)=bC k (fun i=>r[i]?.getD 0):=by
 induction k with
 | zero=>simp[eS,bC]
 | succ k a2=>
  by_cases ah:k<r.length
  ·rw[Qu (bs ah),a2]
   simp[bC,bs ah]
  ·have o:r.take (k+1)=r.take k:=by rw[List.take_of_length_le (by omega),List.take_of_length_le (by omega)]
   rw[o,a2]
   simp only[bC]
   rw[List.getElem?_eq_none (by omega)]
   exact(Rat.add_zero _).symm
theorem acE{r:List Rat}{n:Nat}(h:r.length=n):eS r=bC n (fun i=>r[i]?.getD 0):=by
 rw[<-Qt,List.take_of_length_le (by omega)]
theorem adJ{k n:Nat}{f:Nat->Rat}(h:k<=n)(aG:∀i,i<n->0<=f i):bC k f<=bC n f:=by
 induction n with
 | zero=>
  obtain rfl:k=0:=by omega
  exact Rat.le_refl
 | succ n a2=>
  by_cases ah:k<=n
  ·have:=a2 ah fun i ab=>aG i (by omega)
   have:=aG n (by omega)
   simp only[bC]
   grind
  ·obtain rfl:k=n+1:=by omega
   exact Rat.le_refl
structure e_ (n m:Nat) (t:List (List Rat)):Prop where
 len:t.length=n
 row:∀r∈t,r.length=m
theorem e_.at{n m i:Nat}{t:List (List Rat)}(h:e_ n m t)(ab:i<n):∃r,t[i]?=some r/\r∈t/\r.length=m/\(∀k,r[k]?.getD 0=b0 t i k)/\eS r=bC m (b0 t i):=by
 have cA:i<t.length:=by rw[h.len];exact ab
 refine⟨_,bs cA,List.getElem_mem cA,h.row _ (List.getElem_mem cA),fun k=>by simp[b0,bs cA],?_⟩
 rw[acE (h.row _ (List.getElem_mem cA))]
 apply fF
 intro k _
 simp[b0,bs cA]
theorem e_.get{n m i k:Nat}{t:List (List Rat)}(h:e_ n m t)(ab:i<n)(ah:k<m):∃r,t[i]?=some r/\r[k]?=some (b0 t i k)/\r.length=m:=by
 obtain⟨r,aU,aO,bw,cj,-⟩:=h.at ab
 refine⟨r,aU,?_,bw⟩
 rw[<-cj,bs (by omega)]
 rfl
theorem e_.mem{n m:Nat}{t:List (List Rat)}(h:e_ n m t){r:List Rat}(al:r∈t):∃i,i<n/\t[i]?=some r:=by
 obtain⟨i,ab⟩:=List.mem_iff_getElem?.1 al
 exact⟨i,by have:=(cn.1 ab).1;rw[h.len]at this;exact this,ab⟩
def je(D:Nat)(t:List (List Rat)):Prop:=∀r∈t,∀q∈r,fk D q
theorem je.b0{D:Nat}{t:List (List Rat)}(h:je D t)(i k:Nat):fk D (b0 t i k):=by
 unfold Go.cl.b0
 cases al:t[i]? with
 | none=>exact fk.zero D
 | some r=>
  simp only[Option.getD_some]
  cases aq:r[k]? with
  | none=>exact fk.zero D
  | some q=>exact h r (List.mem_of_getElem? al) q (List.mem_of_getElem? aq)
theorem fk.sum{D n:Nat}{f:Nat->Rat}(h:∀i,i<n->fk D (f i)):fk D (bC n f):=by
 induction n with
 | zero=>exact fk.zero D
 | succ n a2=>exact(a2 fun i ab=>h i (by omega)).add (h n (by omega))
theorem Im{D N n m:Nat}{L:Rat}{t:List (List Rat)}(aA:e_ n m t)(a1:je D t)(g6:mw D N L)(aG:∀i k,i<n->k<m->0<=b0 t i k)(al:∀i,i<n->bC m (b0 t i)<=L):vu N t:=by
 intro r uz
 obtain⟨i,ab,CF⟩:=aA.mem uz
 obtain⟨dG,aU,-,bw,cj,eR⟩:=aA.at ab
 have:dG=r:=by rw[CF]at aU;exact(Option.some.inj aU).symm
 subst this
 have key:∀k,k<=m->dj N (eS (dG.take k)):=fun k ah=>by
  have e:eS (dG.take k)=bC k (b0 t i):=by
   rw[Qt];exact fF fun j _=>cj j
  rw[e]
  refine g6.R (fk.sum fun j _=>a1.b0 i j) (Ii fun j aN=>aG i j ab (by omega)) ?_
  exact Rat.le_trans (adJ ah fun j aN=>aG i j ab aN) (al i ab)
 refine⟨fun k=>?_,fun q aq=>?_⟩
 ·by_cases ah:k<=m
  ·exact key k ah
  ·have:=key m (Nat.le_refl m)
   rw[List.take_of_length_le (by omega)]at this⊢
   exact this
 ·obtain⟨k,ah⟩:=List.mem_iff_getElem?.1 aq
  have km:k<m:=by have:=(cn.1 ah).1;omega
  have e:q=b0 t i k:=by rw[<-cj,ah];rfl
  rw[e]
  refine g6.R (a1.b0 i k) (aG i k ab km) (Rat.le_trans (DC (fun j aN=>aG i j ab aN) km) (al i ab))
theorem kT.le{n:Nat}{B:Nat->Nat->Rat}{L:Rat}(h:kT n B L){i k:Nat}(ab:i<n)(ah:k<n):B i k<=L:=by
 rw[<-h.row i ab];exact DC (fun k ah=>h.jj i k ab ah) ah
theorem DA{n:Nat}{f g:Nat->Nat}(h:∀i,i<n->f i=g i):mq n f=mq n g:=Nat.le_antisymm (DB fun i ab=>Nat.le_of_eq (h i ab)) (DB fun i ab=>Nat.le_of_eq (h i ab).symm)
theorem nH.congr{n:Nat}{A B lK:Nat->Nat->Rat}{L:Rat}{aM:List (Rat×List Int)}(h:nH n A L aM B)(e:∀i k,i<n->k<n->lK i k=B i k):nH n A L aM lK:=by
 refine⟨⟨fun i k ab ah=>by rw[e i k ab ah];exact h.lF.jj i k ab ah,fun i ab=>?_,fun k ah=>?_⟩,h.parts,fun i k ab ah=>by rw[e i k ab ah];exact h.sum i k ab ah,?_,?_⟩
 ·rw[<-h.lF.row i ab];exact fF fun k ah=>e i k ab ah
 ·rw[<-h.lF.oK k ah];exact fF fun i ab=>e i k ab ah
 ·have:og n lK=og n B:=DA fun i ab=>DA fun k ah=>by rw[e i k ab ah]
  rw[this];exact h.nQ
 ·obtain⟨a,b,t1,t2⟩:=h.It
  exact⟨a,b,fun s ao=>let⟨aU,aO,bw,cj⟩:=t1 s ao;⟨aU,aO,bw,by rw[e _ _ aU aO];exact cj⟩,t2⟩
def lG(f:Nat->Rat):Nat->Rat
 | 0=>f 0
 | n+1=>if f n<lG f n then f n else lG f n
theorem abK(f:Nat->Rat){n i:Nat}(ab:i<n):lG f n<=f i:=by
 induction n with
 | zero=>omega
 | succ n a2=>
  simp only[lG]
  by_cases gz:i=n
  ·subst gz
   split
   ·exact Rat.le_refl
   ·rename_i h;exact Rat.not_lt.1 h
  ·have:=a2 (by omega)
   split
   ·rename_i h;exact Rat.le_trans (Rat.le_of_lt h) this
   ·exact this
theorem PM(f:Nat->Rat)(n:Nat)(aF:0<n):∃i,i<n/\lG f n=f i:=by
 have key:∀n,∃i,(i<n\/i=0)/\lG f n=f i:=by
  intro n
  induction n with
  | zero=>exact⟨0,.inr rfl,rfl⟩
  | succ n a2=>
   obtain⟨i,o,aa⟩:=a2
   simp only[lG]
   split
   ·exact⟨n,.inl (by omega),rfl⟩
   ·exact⟨i,by omega,aa⟩
 obtain⟨i,o,aa⟩:=key n
 exact⟨i,by omega,aa⟩
def jN(H:ad)(v:Value)(p:Rat×List Int):Prop:=∃s1 b3 c4 cx s2 cM c9 cN d_ j4 eg,v= .agg #[.bool s1,.slice b3 c4 cx,.bool s2,.slice cM c9 cN,.slice d_ j4 eg]/\ck H (.agg #[.bool s1,.slice b3 c4 cx,.bool s2,.slice cM c9 cN]) p.1/\Row 3 1 false IR H (.slice d_ j4 eg) p.2
instance:bM jN:=⟨fun⟨s1,b3,c4,cx,s2,cM,c9,cN,d_,j4,eg,h,o,aa⟩ J=>⟨s1,b3,c4,cx,s2,cM,c9,cN,d_,j4,eg,h,o.ext J,bM.ext (ae:=Row _ _ _ IR) aa J⟩⟩
theorem jN.jL{H:ad}{v:Value}{p:Rat×List Int}(h:jN H v p):Whole prog 113 v:=by
 obtain⟨s1,b3,c4,cx,s2,cM,c9,cN,d_,j4,eg,rfl,-⟩:=h
 exact⟨by rfl,by simp[Value.cells,Value.oneCell'],by simp[e7]⟩
theorem jN.kept{H aI:ad}{e:Nat}{s v:Value}{p:Rat×List Int}(h:jN H v p)(ah:Kept H aI s e)(o:124≠e)(aa:3≠e):jN aI v p:=by
 obtain⟨s1,b3,c4,cx,s2,cM,c9,cN,d_,j4,eg,rfl,aU,aO⟩:=h
 exact⟨s1,b3,c4,cx,s2,cM,c9,cN,d_,j4,eg,rfl,aU.kept ah o,aO.kept ah aa fun _ _ h=>h⟩
theorem dZ.other{α:Type}{k bj e R c0:Nat}{ay:Bool}{ae:ad->Value->α->Prop}{H aI:ad}{v s:Value}{t:List (List α)}{us:List Value}(h:dZ k bj e R ay ae H v t us)(ah:Kept H aI s c0)(o:bj≠c0)(aa:e≠c0)(bq:∀u x,ae H u x->ae aI u x):dZ k bj e R ay ae aI v t us:=
 ⟨h.pos,h.own.other ah o fun _ _ h=>h,h.len,fun i row u aU aO=>(h.rows i row u aU aO).other ah aa bq,h.qO⟩
theorem bB.aR{α:Type}{f:FuncId}{args:List Value}{H:ad}{k e R:Nat}{ay:Bool}{ae:ad->Value->α->Prop}{xs:List α}(h:aX prog f args H (fun u H1=>Ext H H1/\bB k e R ay ae H1 u xs)):aX prog f args H (fun u H1=>Ext H H1/\∃a c,u= .slice a xs.length c/\bB k e R ay ae H1 (.slice a xs.length c) xs):=
 h.mono fun u H1 ⟨J,aW⟩=>by
  obtain⟨a,c,rfl⟩:=aW.len
  exact⟨J,a,c,rfl,aW⟩
theorem zX{v:Value}{t:List (List Rat)}{eF:List Rat}{n:Nat}{H:ad}(bd:ig H v t)(aG:t[0]?=some eF)(aF:eF.length=n):aX prog 49 [.agg #[v]] H (fun w H1=>Ext H H1/\w= .int .i64 n):=by
 subst aF
 exact Hy bd aG
theorem CU{v:Value}{t:List (List Rat)}{n:Nat}{H:ad}(bd:ig H v t)(aF:t.length=n):aX prog 48 [.agg #[v]] H (fun w H1=>Ext H H1/\w= .int .i64 n):=by
 subst aF
 exact Po bd
theorem Ly{a b:Rat}:((if a<b then(-1:Int)else if a=b then 0 else 1)<0)↔a<b:=by
 by_cases o:a<b
 ·simp[o]
 ·by_cases aa:a=b
  ·simp[aa]
  ·simp[o,aa]
theorem aec{d:Nat}{x y:Operand}{r:List bJ}{F:Fr}{H:ad}{Q:Fr->ad->Prop}{q:Rat}{mg:List Int}{ax:bc (dF d 113 [(0,x),(1,y)]::r) Q}(J:ck H (ar F x) q)(aP:Row 3 1 false IR H (ar F y) mg)
  (K:∀u,jN H u (q,mg)->ba prog r Q .mk (a5 F d u) H):ba prog (dF d 113 [(0,x),(1,y)]::r) Q ax F H:=by
 obtain⟨s1,b3,c4,cx,s2,cM,c9,cN,an,o,aa⟩:=fK.shape J
 obtain⟨d_,eg,hw⟩:=aP.len
 have bq:jN H (.agg #[.bool s1,.slice b3 c4 cx,.bool s2,.slice cM c9 cN,.slice d_ mg.length eg]) (q,mg):=⟨s1,b3,c4,cx,s2,cM,c9,cN,d_,_,eg,rfl,by rw[<-an];exact J,by rw[<-hw];exact aP⟩
 have:=K _ bq
 simp[an,hw]
 exact this
attribute [-simp] Su
theorem e_.set{n m j:Nat}{t:List (List Rat)}{dG:List Rat}(h:e_ n m t)(al:dG.length=m):e_ n m (t.set j dG):=
 ⟨by simp[h.len],fun r cq=>by
  rcases List.mem_or_eq_of_mem_set cq with cq | rfl
  ·exact h.row r cq
  ·exact al⟩
theorem je.set{D j:Nat}{t:List (List Rat)}{dG:List Rat}(h:je D t)(al:∀q∈dG,fk D q):je D (t.set j dG):=fun r cq=>by
 rcases List.mem_or_eq_of_mem_set cq with cq | rfl
 ·exact h r cq
 ·exact al
theorem L5{t:List (List Rat)}{r:List Rat}{j i:Nat}{x:Rat}(aN:t[j]?=some r)(ab:i<r.length)(dO b1:Nat):b0 (t.set j (r.set i x)) dO b1=if dO=j/\b1=i then x else b0 t dO b1:=by
 have gg:=(cn.1 aN).1
 unfold b0
 by_cases o:dO=j
 ·subst o
  rw[List.getElem?_set_self gg,aN]
  simp only[Option.getD_some,true_and]
  by_cases aa:b1=i
  ·subst aa;rw[List.getElem?_set_self ab];simp
  ·rw[List.getElem?_set_ne (by omega),if_neg aa]
 ·rw[List.getElem?_set_ne (by omega),if_neg (fun h=>o h.1)]
theorem acj{n:Nat}{B lK:Nat->Nat->Rat}(e:∀i k,i<n->k<n->lK i k=B i k):og n lK=og n B:=DA fun i ab=>DA fun k ah=>by rw[e i k ab ah]
theorem aa8{H:ad}{b e:Nat}{l:Bool}{cs:List Value}{X:bN}(h:H[b]?=some (.own e l cs)):Kept H (H.set b X) (.slice (some ⟨b,0,none⟩) 0 0) e:=fun cg Y l6 af=>by
 by_cases o1:b=cg
 ·subst o1
  rw[h]at l6
  exact absurd (by rw[<-Option.some.inj l6];rfl) (af ⟨0,0,0,rfl⟩)
 ·rw[List.getElem?_set_ne o1];exact l6
theorem iC.fresh{fR H:ad}{hn n:Nat}{hI g9 gQ DD:Value}{t:List (List Rat)}{b9:List Int}{dw cU:List Bool}(h:iC fR H hn n hI g9 gQ t b9 dw)(cR:bB fR.length 4 1 false mu H DD cU):iC fR (H.set hn (.own 140 false [hI,g9,DD])) hn n hI g9 DD t b9 cU:=by
 have ah:=aa8 (X:= .own 140 false [hI,g9,DD]) h.fm
 exact⟨h.pos,h.ext.set h.z0 (by simp),h.hQ,h.xv,h.xo,h.small,h.z0,List.getElem?_set_self (cn.1 h.fm).1,h.pv.other ah (by decide) fun _ _ h=>h,cR.other ah (by decide) fun _ _ h=>h⟩
theorem iC.next{fR H:ad}{hn n u4:Nat}{hI g9 gQ:Value}{t:List (List Rat)}{b9:List Int}{L:Rat}(au:kT n (b0 t) L)(c1:0<L)(eZ:nJ n (b0 t) u4 b9)(bG:u4<n)(h:iC fR H hn n hI g9 gQ t b9 (List.replicate n false)):
  aX prog 86 [.pointer (some ⟨hn,0,none⟩),.int .i64 u4] H (fun u H1=>∃hO cU,u= .bool true/\nJ n (b0 t) (u4+1) hO/\iC fR H1 hn n hI g9 gQ t hO cU):=
 (find_spec n (n+1) (by unfold qz;rw[List.count_replicate];simp;) h (by simp) eZ.ok bG).mono fun u H1 ⟨b,hO,cU,hu,bq,bP⟩=>by
  obtain⟨rfl,aa⟩:=nJ.next au.jj au.row au.oK c1 eZ bG bq
  exact⟨hO,cU,hu,aa,bP⟩
theorem LS{v:Value}{t:List (List Rat)}{n N D:Nat}{L:Rat}{H:ad}(bd:ig H v t)(aA:e_ n n t)(aF:0<n)(nZ:n<65536)(au:kT n (b0 t) L)(a1:je D t)(g6:mw D N L):
  aX prog 58 [.agg #[v]] H (fun u H1=>Ext H H1/\∃aM,tn n (b0 t) L aM/\(∀p∈aM,fk D p.1)/\Row 113 5 true jN H1 u aM):=by
 refine aX.cc fun Q aD=>?_
 have pf:=aA.len
 apply aay (by simp)
 obtain⟨a,c,rfl⟩:=Row.len bd
 simp[KH]
 have bz:Ext H (H++[.dead]):=Ext.dead H
 refine cD (ae:=jO) (xs:=t) (by simpa using bd.ext bz) (by simp) ?_
 simp
 obtain⟨iB,Bv⟩:∃iB,iB=H++[bN.dead]:=⟨_,rfl⟩
 have ym:0<iB.length:=by rw[Bv];simp
 rw[<-Bv]at bz⊢
 have Vy:=bd.ext bz
 refine c6.range (by kernel_rfl) t.length (by omega) (by simp) (by rfl) (by simp) (by decide) (by decide) (fun i bU dd aT=>Ext iB aT/\∃us,dZ iB.length 120 80 4 true ck aT (bU 3) (t.take i) us) ?_ ?_ ?_
 ·exact⟨Ext.refl _,[],by simpa using dZ.nil _ _ _ _ _ _ _ ym⟩
 ·rintro i bU dd aT ab a7 ⟨bh,us,hB⟩ K a4
  simp at a7 hB
  simp[a7]
  obtain⟨row,ei⟩:∃row,t[i]?=some row:=⟨_,bs ab⟩
  have zm:=aA.row row (List.mem_of_getElem? ei)
  refine cF (ae:=jO) (xs:=t) (n:=i) (a:=row) (e:=120) (R:=1) (ay:=false) (by simpa using bM.ext Vy bh) (by simp[a7]) ei (by simp) (by simp) (by simp) (by decide) ?_
  intro dh II qf
  simp
  refine aY.mk (SW qf (by omega)) ?_
  rintro w bS ⟨bO,hw⟩
  have UO:=Ext.len bh
  have yE:=dZ.ext hB bO
  have sK:=hw.le UO
  have YR:=hw.jL
  refine As (k:=iB.length) (e:=120) (R:=1) (ay:=false) (bI:=24) (z:= .slice none 0 0) (ae:=ga) (xs:=us) (a:=w) (by simpa using yE.own) (by simp[ga]) (by simpa using YR) (by simp) (fun _ _ _ _ _ h=>h) (by simp) (by simp) (by simp) (by simp) (by simp) (by rfl) (by rfl) (by rfl) (by rfl) (by decide) (by decide) (by decide) (by have:=hB.len;simp at this;omega) (by have:=Ext.len bO;omega) ?_
  intro px xC cw hf ch kG p4 sy
  simp at kG p4
  have qe:=dZ.snoc (cJ:=aT) (ob:=aT.length) yE (fun b aG af=>(hw.ge af aG).1) (fun j u b hu af aG=>hB.lt j u b hu af aG) (by decide) sK hf kG (fun u x h=>h.kept kG (by decide))
  simp
  refine a4 _ _ _ (by simp[a7]) ⟨ch _ (Nat.le_refl _) (bh.av bO),us++[w],?_⟩
  rw[List.take_succ_eq_append_getElem ab]
  have:t[i]=row:=(cn.1 ei).2
  rw[this]
  simpa using qe
 ·rintro bU dd D8 a7 ⟨O_,us,BH⟩
  simp at BH
  obtain⟨dg,lc,nn⟩:=BH.own.len
  have UD:=Ext.len O_
  obtain⟨h6,nX⟩:∃h6,h6=Value.slice dg us.length lc:=⟨_,rfl⟩
  rw[nn,<-nX]at BH
  simp[nn]
  rw[<-nX]
  obtain⟨D9,MK⟩:∃D9,D9=D8++[bN.dead]:=⟨_,rfl⟩
  have Pa:Ext D8 D9:=by rw[MK];exact Ext.dead D8
  rw[<-MK]
  refine c6.mk (by kernel_rfl) (fun w di ev bS=>∃h_ us aM,w=og n (b0 h_)/\Ext iB bS/\dZ iB.length 120 80 4 true ck bS h6 h_ us/\bB iB.length 113 5 true jN bS (di 7) aM/\e_ n n h_/\je D h_/\nH n (b0 t) L aM (b0 h_)/\(∀p∈aM,fk D p.1)) (og n (b0 t)) ?_ ?_
  ·exact⟨t,us,[],rfl,O_.av Pa,BH.ext Pa,by simpa using bB.nil _ _ _ _ _ _,aA,a1,nH.zero au,by simp⟩
  ·rintro w di ev bS ⟨h_,agx,aM,rfl,bO,yE,v9,ub,q3,nc,B_⟩ K a4
   obtain⟨eF,fp,qc,sH,Oq,zk⟩:=ub.at aF
   simp at v9
   simp
   have oU:mw D N (L-dJ aM):=g6.le (by have:=(De fun p aK=>(nc.parts p aK).1).1;grind)
   have OB:=Im ub q3 oU (fun i k ab ah=>nc.lF.jj i k ab ah) fun i ab=>by rw[nc.lF.row i ab];exact Rat.le_refl
   have Ft:ig bS h6 h_:=yE.row
   have MD:=ub.len
   refine aY.mk (ru (j:=0) Ft fp (by omega) (by omega) (OB eF qc).1 (OB eF qc).2 g6.bits) ?_
   rintro xp bT ⟨b8,n1⟩
   rw[zk,nc.lF.row 0 aF]at n1
   simp
   refine aY.mk (HW n1) ?_
   rintro u b7 ⟨ct,rfl⟩
   have rj:=b8.av ct
   simp
   refine br.b_ (fun ag=>?_) (fun ag=>?_)
   ·have U3:0<L-dJ aM:=by
     have:¬(L-dJ aM<=0):=fun h=>by have:=Ak.2 h;omega
     exact Rat.not_le.1 this
    simp
    refine xw (e:=3) (R:=1) (ay:=false) (z:= .int .i64 0) (ae:=IR) (a:= -1) (fun aI _=>by simp[IR]) (by simpa using hH (-1)) (by simp) (by simp) (by simp) (by rfl) (by rfl) (by rfl) (by decide) (by decide) ?_
    intro agG dx jw cB
    simp
    have Vp:=ig.ext Ft (rj.av cB)
    refine aY.mk (zX Vp fp sH) ?_
    rintro u cw ⟨ch,rfl⟩
    refine⟨ch,?_⟩
    simp
    refine aY.mk (bB.aR (QE (ae:=IR) (bM.ext (ae:=Row _ _ _ IR) jw.row ch) nZ (fun H u y h=>by rw[h];exact hH y) (fun _ _ _ _ _ _ h=>h))) ?_
    rintro _ dW ⟨cH,n9,rp,rfl,eJ⟩
    refine⟨cH,?_⟩
    simp
    have O6:=cB.av (ch.av cH)
    have akC:=Ext.len cB
    have W3:=Ext.len O6
    have O8:Ext dW (dW++[.own 140 false [h6,.slice n9 n rp,.slice none 0 0]]):=(Ext.refl dW).snoc _ _ _
    have akE:=Ext.len ch
    have Fh:iC b7 (dW++[.own 140 false [h6,.slice n9 n rp,.slice none 0 0]]) dW.length n h6 (.slice n9 n rp) (.slice none 0 0) h_ (List.replicate n (-1)) []:=
     ⟨by have:=Ext.len rj;have:=Ext.len bO;omega,O6.av O8,ig.ext Ft rj,MD,ub.row,nZ,W3,by simp,bM.ext (ae:=bB _ _ _ _ IR) (by simpa using eJ.le (b1:=b7.length) (by omega)) O8,bB.nil _ _ _ _ _ _⟩
    have Vq:=Fh.hQ.ext Fh.ext
    refine aY.mk (CU Vq MD) ?_
    rintro u ku ⟨fq,rfl⟩
    have U4:=Fh.more fq
    simp
    refine c6.range (by kernel_rfl) n (by omega) (by simp) (by rfl) (by simp) (by decide) (by decide) (fun u4 rQ vl hR=>∃b9 gQ dw,iC b7 hR dW.length n h6 (.slice n9 n rp) gQ h_ b9 dw/\nJ n (b0 h_) u4 b9) ?_ ?_ ?_
    ·exact⟨_,_,_,U4,nJ.zero _ _⟩
    ·rintro u4 rQ vl hR uE Bs ⟨b9,gQ,dw,qU,Bz⟩ xO l2
     simp at Bs
     have Fs:=qU.hQ.ext qU.ext
     simp[Bs]
     refine aY.mk (zX Fs fp sH) ?_
     rintro u gS ⟨e5,rfl⟩
     have tR:=qU.more e5
     have B3:=Ext.len tR.ext
     refine u6 (e:=4) (R:=1) (bI:=1) (ay:=false) (n:=n) (e6:= .i64) (dc:= .i64) (z:= .bool false) (ae:=mu) (a:=false) (by simp) (by simp) (by simp) (by rfl) (by rfl) (by simp) (DY false) (by simp) (by simp) (by decide) (by decide) (by omega) (fun aI=>rfl) ?_
     intro alo jF j_ k2 gX
     have oW:=tR.more gX
     have BQ:=oW.fm
     have U5:=oW.fresh (k2.le B3)
     simp[BQ]
     refine aY.mk (iC.next nc.lF U3 Bz uE U5) ?_
     rintro u lk ⟨hO,cU,rfl,U8,U6⟩
     exact l2 _ _ _ (by simp[Bs]) ⟨hO,_,cU,U6,U8⟩
    ·rintro rQ vl hR Bs ⟨b9,gQ,dw,qU,Bz⟩
     have Wc:=qU.fm
     have k7:=Bz.perm.1
     have iu:=Bz.perm.2
     refine Exists.elim (k7.dP 0 aF) fun CT aN=>?_
     have wI:=aN.1
     have N0:=aN.2
     refine Exists.elim (ub.get wI aF) fun QF al=>?_
     have XX:=al.1
     have XY:=al.2.1
     have Fs:=qU.hQ.ext qU.ext
     simp[Wc]
     refine cF (ae:=IR) (xs:=b9) (n:=0) (a:=(CT:Int)) (e:=3) (R:=1) (ay:=false) (by simpa using qU.pv.row) (by simp) N0 (by simp) (by simp) (by simp) (by decide) ?_
     rintro uY IB rfl
     refine cF (ae:=jO) (xs:=h_) (n:=CT) (a:=QF) (e:=120) (R:=1) (ay:=false) (by simpa using Fs) (by simp) XX (by simp) (by simp) (by simp) (by decide) ?_
     intro xe IC zw
     refine cF (ae:=ck) (xs:=QF) (n:=0) (a:=b0 h_ CT 0) (e:=80) (R:=4) (ay:=true) (by simpa using zw) (by simp) XY (by simp) (by simp) (by simp) (by decide) ?_
     intro Dc RC OJ
     simp
     refine cY.mk OJ.whole ?_
     have tR:=qU.more (Ext.dead hR)
     have Wd:=tR.fm
     have gg:b9.length=n:=k7.len
     simp[Wd]
     refine cD (ae:=IR) (xs:=b9) (by simpa using tR.pv.row) (by simp) ?_
     simp[gg]
     refine Exists.elim (⟨fun k=>b0 h_ (b9[k]?.getD 0).toNat k,rfl⟩:∃f:Nat->Rat,f=fun k=>b0 h_ (b9[k]?.getD 0).toNat k) fun f aC=>?_
     have Wx:f 0=b0 h_ CT 0:=by rw[aC];simp[N0]
     have BW:∀k j:Nat,b9[k]?=some (j:Int)->f k=b0 h_ j k:=fun k j h=>by rw[aC];simp[h]
     have o8:∀k,k<n->dj N (f k):=fun k ah=>by
      obtain⟨j,aU,aO⟩:=k7.dP k ah
      rw[BW k j aO]
      exact oU.R (q3.b0 j k) (nc.lF.jj j k aU ah) (nc.lF.le aU ah)
     have y8:∀k,k<=n->dj N (lG f k):=fun k ah=>by
      by_cases lA:k=0
      ·subst lA;exact o8 0 aF
      ·obtain⟨i,aU,aO⟩:=PM f k (by omega)
       rw[aO];exact o8 i (by omega)
     refine c6.range (by kernel_rfl) n (by omega) (by simp) (by rfl) (by simp) (by decide) (by decide) (fun i I0 AL j_=>Ext (hR++[.dead]) j_/\ck j_ (AL 11) (lG f i)) ?_ ?_ ?_
     ·refine⟨Ext.refl _,?_⟩
      simp only[lG,Wx]
      simpa using OJ.ext (Ext.dead hR)
     ·rintro i I0 AL j_ ab vU ⟨gX,q6⟩ D_ oV
      simp at vU q6
      refine bV.join (by kernel_rfl) (fun tr vn lk=>Ext j_ lk/\ck lk (vn 11) (lG f (i+1))) ?_ ?_
      ·rintro I5 sd-
       have oW:=tR.more gX
       have Vo:=oW.hQ.ext oW.ext
       refine Exists.elim (k7.dP i ab) fun j aN=>?_
       have su:=aN.1
       have mK:=aN.2
       have F0:=BW i j mK
       refine Exists.elim (ub.get su ab) fun jH al=>?_
       simp[vU]
       refine cF (ae:=IR) (xs:=b9) (n:=i) (a:=(j:Int)) (e:=3) (R:=1) (ay:=false) (by simpa using oW.pv.row) (by simp[vU]) mK (by simp) (by simp) (by simp) (by decide) ?_
       rintro Qa RD rfl
       simp[vU]
       refine cF (ae:=jO) (xs:=h_) (n:=j) (a:=jH) (e:=120) (R:=1) (ay:=false) (by simpa using Vo) (by simp) al.1 (by simp) (by simp) (by simp) (by decide) ?_
       intro ab7 u16 Yr
       simp
       refine cF (ae:=ck) (xs:=jH) (n:=i) (a:=b0 h_ j i) (e:=80) (R:=4) (ay:=true) (by simpa using Yr) (by simp) al.2.1 (by simp) (by simp) (by simp) (by decide) ?_
       intro z7 agq CH
       simp
       refine cY.mk CH.whole ?_
       simp
       have fi:=Ext.dead j_
       have iY:=o8 i ab
       rw[F0]at iY
       refine aY.mk (xh (CH.ext fi) (q6.ext fi) iY (y8 i (by omega)) g6.bits) ?_
       rintro w ka ⟨hD,rfl⟩
       simp
       refine br.b_ (fun ag=>?_) (fun ag=>?_)
       ·have a3:=Ly.1 ag
        simp
        refine cY.mk CH.whole ?_
        refine sd _ _ _ ⟨fi.av hD,?_⟩
        simp only[lG,F0,if_pos a3]
        simpa using CH.ext (fi.av hD)
       ·have a3:=fun h=>ag (Ly.2 h)
        refine sd _ _ _ ⟨fi.av hD,?_⟩
        simp only[lG,F0,if_neg a3]
        simpa using q6.ext (fi.av hD)
      ·rintro tr vn lk ⟨h4,Xj⟩
       exact oV _ _ _ (by simp[vU]) ⟨gX.av h4,by simpa using Xj⟩
     ·rintro I0 AL j_ vU ⟨gX,q6⟩
      simp at q6
      have oW:=tR.more gX
      have BQ:=oW.fm
      have G2:=rj.av oW.ext
      have tV:=yE.ext G2
      have Vj:=bM.ext (ae:=bB iB.length 113 5 true jN) v9 G2
      have UH:=bO.av G2
      refine Exists.elim (⟨(lG f n,b9),rfl⟩:∃p:Rat×List Int,p=(lG f n,b9)) fun p aK=>?_
      have uu:p.1=lG f n:=by rw[aK]
      have sF:p.2=b9:=by rw[aK]
      have B5:∀k j:Nat,k<n->p.2[k]?=some (j:Int)->p.1<=b0 h_ j k:=fun k j ah aN=>by
       rw[sF]at aN
       rw[uu,<-BW k j aN]
       exact abK f ah
      have jU:∃k j:Nat,k<n/\j<n/\p.2[k]?=some (j:Int)/\p.1=b0 h_ j k:=by
       obtain⟨k,ah,e⟩:=PM f n aF
       obtain⟨j,aU,aO⟩:=k7.dP k ah
       exact⟨k,j,ah,aU,by rw[sF];exact aO,by rw[uu,e];exact BW k j aO⟩
      have Od:0<p.1:=by
       obtain⟨k,j,ah,aN,aU,aO⟩:=jU
       rw[aO]
       exact iu k j ah (by rw[<-sF];exact aU)
      have Cm:fk D p.1:=by
       obtain⟨k,j,ah,aN,aU,aO⟩:=jU
       rw[aO]
       exact q3.b0 j k
      have qb:dj N p.1:=by rw[uu];exact y8 n (Nat.le_refl n)
      simp[BQ]
      refine cD (ae:=IR) (xs:=b9) (by simpa using oW.pv.row) (by simp) ?_
      simp[gg]
      refine c6.range (by kernel_rfl) n (by omega) (by simp) (by rfl) (by simp) (by decide) (by decide) (fun i I1 I4 ox=>∃lL vc,Ext iB ox/\dZ iB.length 120 80 4 true ck ox h6 lL vc/\bB iB.length 113 5 true jN ox (di 7) aM/\Row 3 1 false IR ox (.slice n9 n rp) b9/\ck ox (AL 11) p.1/\ox[dW.length]?=some (.own 140 false [h6,.slice n9 n rp,gQ])/\e_ n n lL/\je D lL/\∀j k,j<n->k<n->b0 lL j k=if k<i then kp (b0 h_) p j k else b0 h_ j k) ?_ ?_ ?_
      ·exact⟨h_,agx,UH,tV,Vj,oW.pv.row,by rw[uu];exact q6,BQ,ub,q3,fun j k _ _=>by simp⟩
      ·rintro i I1 I4 ox ab vV ⟨lL,vc,nv,yD,Fo,Bw,CD,FO,BR,y2,yZ⟩ Sf Fc
       simp at vV
       refine Exists.elim (k7.dP i ab) fun j aN=>?_
       have su:=aN.1
       have mK:=aN.2
       refine Exists.elim (BR.get su ab) fun jH al=>?_
       refine Exists.elim (yD.pC al.1) fun ti hu=>?_
       have M3:=yD.own.row
       simp[vV]
       refine cF (ae:=IR) (xs:=b9) (n:=i) (a:=(j:Int)) (e:=3) (R:=1) (ay:=false) (by simpa using Bw) (by simp[vV]) mK (by simp) (by simp) (by simp) (by decide) ?_
       rintro alv amQ rfl
       simp[vV]
       refine cF (ae:=ga) (xs:=vc) (n:=j) (a:=ti) (e:=120) (R:=1) (ay:=false) (by simpa using M3) (by simp) hu.1 (by simp) (by simp) (by simp) (by decide) ?_
       rintro ab9 ID rfl
       simp
       refine cF (ae:=ga) (xs:=vc) (n:=j) (a:=ID) (e:=120) (R:=1) (ay:=false) (by simpa using M3) (by simp) hu.1 (by simp) (by simp) (by simp) (by decide) ?_
       rintro aca agr rfl
       simp
       refine cF (ae:=ck) (xs:=jH) (n:=i) (a:=b0 lL j i) (e:=80) (R:=4) (ay:=true) (by simpa using hu.2.row) (by simp) al.2.1 (by simp) (by simp) (by simp) (by decide) ?_
       intro acb ags GN
       simp
       have Nt:b0 lL j i=b0 h_ j i:=by rw[yZ j i su ab,if_neg (Nat.lt_irrefl i)]
       have X9:dj N (b0 lL j i):=by rw[Nt];exact oU.R (q3.b0 j i) (nc.lF.jj j i su ab) (nc.lF.le su ab)
       refine aY.mk (HX GN CD X9 qb g6.bits) ?_
       rintro w AN ⟨iI,hw⟩
       refine⟨iI,?_⟩
       have FB:=yD.ext iI
       have Fl:=bM.ext (ae:=bB iB.length 80 4 true ck) hu.2 iI
       refine ja (k:=iB.length) (e:=80) (R:=4) (ay:=true) (n:=i) (ae:=ck) (xs:=jH) (a:=b0 lL j i-p.1) (by simpa using Fl) (by simp) (by rw[al.2.2];exact ab) (by simpa using hw) (by simpa using hw.whole) (by simp) (fun aI dp u y ah h=>h.kept ah (by decide)) (by simp) (by simp) (by simp) (by decide) ?_
       rintro acd D7 yx G0 nW W2-
       simp at yx nW
       have ah:∀u x,ck AN u x->ck D7 u x:=fun u x h=>h.kept nW (by decide)
       simp
       refine Fc _ _ _ (by simp[vV]) ⟨lL.set j (jH.set i (b0 lL j i-p.1)),vc,?_,FB.inner hu.1 (by decide) nW yx ah,?_,?_,ah _ _ (CD.ext iI),?_,?_,?_,?_⟩
       ·exact G0 _ (Nat.le_refl _) (nv.av iI)
       ·exact(bM.ext (ae:=bB iB.length 113 5 true jN) Fo iI).other nW (by decide) fun u x h=>h.kept nW (by decide) (by decide)
       ·exact(bM.ext (ae:=Row _ _ _ IR) Bw iI).kept nW (by decide) fun _ _ h=>h
       ·exact nW _ _ (iI.get_some FO) fun _=>by simp[bN.elem?]
       ·exact BR.set (by rw[List.length_set];exact al.2.2)
       ·refine y2.set fun q aq=>?_
        rcases List.mem_or_eq_of_mem_set aq with aq | rfl
        ·exact y2 jH (List.mem_of_getElem? al.1) q aq
        ·exact(y2.b0 j i).sub Cm
       ·intro dO b1 kF gM
        rw[L5 al.1 (by rw[al.2.2];exact ab)]
        have uv:p.2[i]?=some (j:Int):=by rw[sF];exact mK
        by_cases fB:b1=i
        ·subst fB
         rw[if_pos (Nat.lt_succ_self _)]
         by_cases NO:dO=j
         ·subst NO
          rw[if_pos ⟨rfl,rfl⟩,Nt]
          unfold kp gi
          rw[if_pos uv]
         ·rw[if_neg (fun h=>NO h.1),yZ dO b1 kF gM,if_neg (Nat.lt_irrefl _)]
          unfold kp gi
          rw[uv,if_neg (by simp;omega)]
          grind
        ·rw[if_neg (fun h=>fB h.2),yZ dO b1 kF gM]
         by_cases a3:b1<i
         ·rw[if_pos a3,if_pos (by omega)]
         ·rw[if_neg a3,if_neg (by omega)]
      ·rintro I1 I4 ox vV ⟨lL,vc,nv,yD,Fo,Bw,CD,FO,BR,y2,yZ⟩
       have he:∀j k,j<n->k<n->b0 lL j k=kp (b0 h_) p j k:=fun j k aN ah=>by rw[yZ j k aN ah,if_pos ah]
       have Of:gb n p.2:=by rw[sF];exact k7
       have W7:=nc.lF.less Of Od B5 jU
       have Gl:=(nc.next Of Od B5 jU).congr he
       have XC:=acj he
       have uc:aM.length<=n*n:=by have:=nc.nQ;have:=Qi n (b0 t);omega
       have uq:n*n<=65536*65536:=Nat.mul_le_mul (by omega) (by omega)
       have aj1:=Ext.len nv
       simp[FO]
       refine aec (q:=p.1) (mg:=p.2) (by simpa using CD) (by rw[sF];simpa using Bw) ?_
       intro amR OK
       refine rJ (k:=iB.length) (e:=113) (R:=5) (ay:=true) (bI:=88) (z:= .agg #[.bool false,.slice none 0 0,.bool false,.slice none 0 0,.slice none 0 0]) (ae:=jN) (xs:=aM) (a:=p) (by simpa using Fo) (by simpa using OK) (by simpa using OK.jL) (by simp) (fun aI dp u y ah h=>h.kept ah (by decide) (by decide)) (by simp) (by simp) (by simp) (by simp) (by simp) (by rfl) (by rfl) (by first | rfl | simp[flat,hd]) (by rfl) (by decide) (by decide) (by decide) (by omega) (by omega) ?_
       intro alw anh aib Vd qj F9
       simp at F9
       simp
       refine a4 (og n (b0 lL)) _ _ _ (by rw[XC];exact W7.2) ⟨lL,vc,aM++[p],rfl,qj _ (Nat.le_refl _) nv,yD.other F9 (by decide) (by decide) fun u x h=>h.kept F9 (by decide),by simpa using Vd,BR,y2,Gl,?_⟩
       intro q aq
       rcases List.mem_append.1 aq with aq | aq
       ·exact B_ q aq
       ·rw[List.mem_singleton.1 aq];exact Cm
   ·have U2:¬0<L-dJ aM:=fun h=>ag (by
     have:¬(L-dJ aM<=0):=Rat.not_le.2 h
     have:=mt Ak.1 this
     omega)
    simp[bf]
    exact aD _ _ ⟨bz.av (bO.av rj),aM,nc.end aF U2,B_,(bM.ext (ae:=bB iB.length 113 5 true jN) v9 rj).row⟩
end Go.cl
end
section
set_option maxRecDepth 8000
set_option maxHeartbeats 1000000
namespace Go.cl
open Go.Proofs
open Go.Proofs.Tryz (prog)
attribute [-simp] gk hq iM
def gH(n m:Nat)(t:List (List Rat)):Rat:=if(dI (dU t) n).1<(dI (dU (e8 m t)) m).1 then(dI (dU (e8 m t)) m).1 else(dI (dU t) n).1
theorem Q_{n m:Nat}{t:List (List Rat)}:(dI (dU t) n).1<=gH n m t/\(dI (dU (e8 m t)) m).1<=gH n m t:=by
 unfold gH
 split
 ·rename_i h;exact⟨Rat.le_of_lt h,Rat.le_refl⟩
 ·rename_i h;exact⟨Rat.le_refl,Rat.not_lt.1 h⟩
theorem e_.e8{n m:Nat}{t:List (List Rat)}(h:e_ n m t):e_ m n (e8 m t):=by
 refine⟨by simp[Go.cl.e8],fun r al=>?_⟩
 unfold Go.cl.e8 at al
 rw[List.mem_map]at al
 obtain⟨k,-,rfl⟩:=al
 simp[ju,h.len]
theorem r5{n m:Nat}{t:List (List Rat)}(h:e_ n m t){i k:Nat}(ab:i<n)(ah:k<m):b0 (e8 m t) k i=b0 t i k:=by
 unfold b0 e8
 rw[List.getElem?_map,List.getElem?_range ah]
 simp only[Option.map_some,Option.getD_some]
 unfold ju
 rw[List.getElem?_map]
 obtain⟨r,aU,-⟩:=h.at ab
 rw[aU]
 rfl
theorem je.e8{D m:Nat}{t:List (List Rat)}(h:je D t):je D (e8 m t):=fun r al q aq=>by
 unfold Go.cl.e8 at al
 rw[List.mem_map]at al
 obtain⟨k,-,rfl⟩:=al
 unfold ju at aq
 rw[List.mem_map]at aq
 obtain⟨dG,fW,rfl⟩:=aq
 cases ah:dG[k]? with
 | none=>exact fk.zero D
 | some y=>exact h dG fW y (List.mem_of_getElem? ah)
theorem rD{n m:Nat}{t:List (List Rat)}(h:e_ n m t){i:Nat}(ab:i<n):dU t i=bC m (b0 t i):=by
 obtain⟨r,aU,-,-,-,eR⟩:=h.at ab
 rw[<-eR,dU,aU]
 rfl
theorem Is{n m:Nat}{t:List (List Rat)}(h:e_ n m t){i:Nat}(ab:i<n):bC m (b0 t i)<=gH n m t:=by
 rw[<-rD h ab];exact Rat.le_trans (C2 _ ab) Q_.1
theorem Ra{n m:Nat}{t:List (List Rat)}(h:e_ n m t){k:Nat}(ah:k<m):bC n (fun i=>b0 t i k)<=gH n m t:=by
 have e:bC n (fun i=>b0 t i k)=dU (e8 m t) k:=by
  rw[rD h.e8 ah]
  exact fF fun i ab=>(r5 h ab ah).symm
 rw[e];exact Rat.le_trans (C2 _ ah) Q_.2
def fJ(n:Nat):List Rat:=List.replicate n 0
def pB(n m:Nat)(t:List (List Rat))(top:Rat)(i:Nat):List Rat:=((t[i]?.getD [])++fJ n).set (m+i) (top-bC m (b0 t i))
def s6(n m:Nat)(t:List (List Rat))(top:Rat)(k:Nat):List Rat:=(fJ m++ju t k).set k (top-bC n (fun i=>b0 t i k))
theorem Mn(n k:Nat):(fJ n)[k]?.getD 0=0:=by
 unfold fJ
 rw[List.getElem?_replicate]
 split<;>rfl
theorem acS{n m:Nat}{t:List (List Rat)}{top:Rat}(h:e_ n m t){i k:Nat}(ab:i<n)(ah:k<n+m):(pB n m t top i)[k]?.getD 0=hb n m (b0 t) top i k:=by
 obtain⟨r,aU,-,bw,cj,-⟩:=h.at ab
 unfold pB hb
 rw[aU]
 simp only[Option.getD_some,if_pos ab]
 by_cases km:k<m
 ·rw[if_pos km,List.getElem?_set_ne (by omega),List.getElem?_append_left (by omega),cj]
 ·rw[if_neg km]
  by_cases fB:k=m+i
  ·subst fB
   rw[if_pos rfl,List.getElem?_set_self (by simp[fJ];omega)]
   rfl
  ·rw[if_neg fB,List.getElem?_set_ne (by omega),List.getElem?_append_right (by omega),Mn]
theorem acT{n m:Nat}{t:List (List Rat)}{top:Rat}(h:e_ n m t){i k:Nat}(ab:i<m)(ah:k<n+m):(s6 n m t top i)[k]?.getD 0=hb n m (b0 t) top (n+i) k:=by
 unfold s6 hb
 rw[if_neg (by omega)]
 have rl:(fJ m).length=m:=by simp[fJ]
 rw[Nat.add_sub_cancel_left]
 by_cases km:k<m
 ·rw[if_pos km]
  by_cases fB:k=i
  ·subst fB
   rw[if_pos rfl,List.getElem?_set_self (by simp[fJ];omega)]
   rfl
  ·rw[if_neg fB,List.getElem?_set_ne (by omega),List.getElem?_append_left (by omega),Mn]
 ·rw[if_neg km,List.getElem?_set_ne (by omega),List.getElem?_append_right (by omega),rl]
  have:(ju t i)[k-m]?.getD 0=b0 (e8 m t) i (k-m):=by simp[b0,e8,List.getElem?_range ab]
  rw[this,r5 h (by omega) ab]
theorem ah3{n m:Nat}{r:List Rat}(h:r.length=m):(fJ (n+m)).take 0++r.take (n+m)++(fJ (n+m)).drop (0+(r.take (n+m)).length)=r++fJ n:=by
 rw[List.take_of_length_le (l:=r) (by omega),h]
 simp[fJ]
theorem ah4{n m:Nat}{r:List Rat}(h:r.length=n):(fJ (n+m)).take m++r.take n++(fJ (n+m)).drop (m+(r.take n).length)=fJ m++r:=by
 rw[List.take_of_length_le (l:=r) (by omega),h]
 have:n+m-(m+n)=0:=by omega
 simp[fJ,this]
theorem Io{t:List (List Rat)}{S i:Nat}{r:List Rat}{f vL:Nat->List Rat}(au:t.length=S)(ab:i<S)(h:∀a,a<S->t[a]?=some (f a))(al:vL i=r)(aC:∀a,a<S->a≠i->vL a=f a):(t.set i r).length=S/\∀a,a<S->(t.set i r)[a]?=some (vL a):=by
 refine⟨by simp[au],fun a aL=>?_⟩
 by_cases k4:a=i
 ·subst k4;rw[List.getElem?_set_self (by omega),al]
 ·rw[List.getElem?_set_ne (by omega),h a aL,aC a aL k4]
theorem adU{n m D:Nat}{t:List (List Rat)}(h:e_ n m t)(aF:0<n)(hm:0<m)(a1:je D t):fk D (gH n m t):=by
 have key:∀{n m:Nat} {t:List (List Rat)},e_ n m t->0<n->je D t->fk D (dI (dU t) n).1:=fun{n m t} h aF a1=>by
  obtain⟨aU,aO⟩:=uT (dU t) n
  rw[aU,rD h (by omega)]
  exact fk.sum fun k _=>a1.b0 _ k
 unfold gH
 split
 ·exact key h.e8 hm a1.e8
 ·exact key h aF a1
theorem adG{n m D:Nat}{t:List (List Rat)}(a1:je D t){top:Rat}(bG:fk D top)(i k:Nat):fk D (hb n m (b0 t) top i k):=by
 unfold hb
 split
 ·split
  ·exact a1.b0 i k
  ·split
   ·exact bG.sub (fk.sum fun j _=>a1.b0 i j)
   ·exact fk.zero D
 ·split
  ·split
   ·exact bG.sub (fk.sum fun j _=>a1.b0 j k)
   ·exact fk.zero D
  ·exact a1.b0 _ _
theorem adH{n m D:Nat}{t B:List (List Rat)}{top:Rat}(aA:e_ n m t)(a1:je D t)(bG:fk D top)(bK:B.length=n+m)(lu:∀a,a<n+m->B[a]?=some (if a<n then pB n m t top a else if a<n+m then s6 n m t top (a-n)else fJ (n+m))):
  e_ (n+m) (n+m) B/\je D B/\∀i k,i<n+m->k<n+m->b0 B i k=hb n m (b0 t) top i k:=by
 have he:∀i k,i<n+m->k<n+m->b0 B i k=hb n m (b0 t) top i k:=fun i k ab ah=>by
  unfold b0
  rw[lu i ab]
  simp only[Option.getD_some]
  by_cases o:i<n
  ·rw[if_pos o];exact acS aA o ah
  ·rw[if_neg o,if_pos ab]
   have:=acT (top:=top) aA (i:=i-n) (by omega) ah
   rw[show n+(i-n)=i by omega]at this
   exact this
 have fh:e_ (n+m) (n+m) B:=⟨bK,fun r al=>by
  obtain⟨a,aL⟩:=List.mem_iff_getElem?.1 al
  have tZ:a<n+m:=by have:=(cn.1 aL).1;omega
  rw[lu a tZ]at aL
  simp only[Option.some.injEq]at aL
  rw[<-aL]
  by_cases o:a<n
  ·rw[if_pos o]
   obtain⟨dG,aU,-,bw,-⟩:=aA.at o
   simp[pB,aU,bw,fJ];omega
  ·rw[if_neg o,if_pos tZ]
   simp[s6,fJ,ju,aA.len];omega⟩
 refine⟨fh,fun r al q aq=>?_,he⟩
 obtain⟨i,ab,k8⟩:=fh.mem al
 obtain⟨dG,aU,-,bw,cj,-⟩:=fh.at ab
 have:dG=r:=by rw[k8]at aU;exact(Option.some.inj aU).symm
 subst this
 obtain⟨k,ah⟩:=List.mem_iff_getElem?.1 aq
 have iG:k<n+m:=by have:=(cn.1 ah).1;omega
 have:=cj k
 rw[ah]at this
 simp only[Option.getD_some]at this
 rw[this,he i k ab iG]
 exact adG a1 bG i k
theorem adI{v:Value}{t:List (List Rat)}{n m N D:Nat}{H:ad}(bd:ig H v t)(aA:e_ n m t)(aF:0<n)(hm:0<m)(nZ:n<10000)(nq:m<10000)(aG:∀i k,i<n->k<m->0<=b0 t i k)(a1:je D t)(g6:mw D N (gH n m t)):
  aX prog 68 [.agg #[v]] H (fun u H1=>Ext H H1/\∃w s,u= .agg #[w]/\ig H1 w s/\e_ (n+m) (n+m) s/\je D s/\∀i k,i<n+m->k<n+m->b0 s i k=hb n m (b0 t) (gH n m t) i k):=by
 refine aX.cc fun Q aD=>?_
 have pf:=aA.len
 obtain⟨eF,fp,qc,sH,Oq,zk⟩:=aA.at aF
 have lB:∀r∈t,r.length<65536:=fun r h=>by have:=aA.row r h;omega
 have zu:=Im aA a1 g6 aG fun i ab=>Is aA ab
 have wD:=aA.e8
 have p6:je D (e8 m t):=a1.e8
 have zt:=Im wD p6 g6 (fun k i ah ab=>by rw[r5 aA ab ah];exact aG i k ab ah) fun k ah=>by
  have:=Ra aA ah
  rw[fF fun i ab=>r5 aA ab ah]
  exact this
 apply aaF (by simp)
 obtain⟨a,c,rfl⟩:=Row.len bd
 simp[KM]
 have bz:Ext H (H++[.dead,.dead]):=Ext.more H (by simp)
 refine aY.mk (CU (bd.ext bz) pf) ?_
 rintro u H1 ⟨bp,rfl⟩
 refine⟨bp,?_⟩
 simp
 refine aY.mk (zX (bd.ext (bz.av bp)) fp sH) ?_
 rintro u aT ⟨bh,rfl⟩
 have n6:=bz.av (bp.av bh)
 simp
 refine aY.mk (Iu (m:=m) (bd.ext n6) (by omega) (by omega) aA.row (by omega)) ?_
 rintro u bS ⟨bO,cW,rfl,jE⟩
 simp
 refine dz.mk (by obtain⟨a,c,rfl⟩:=Row.len jE;rfl) ?_
 simp
 have b8:Ext bS (bS++[.dead]):=Ext.dead bS
 have YW:=bO.av b8
 have zG:=n6.av YW
 refine aY.mk (C4 (N:=N) (bd.ext zG) (by omega) (by omega) lB zu g6.bits) ?_
 rintro u b7 ⟨ct,vg,rfl,CJ⟩
 have YT:=zG.av ct
 simp
 refine cY.mk CJ.whole ?_
 simp
 have cB:=Ext.dead b7
 have qk:=b8.av (ct.av cB)
 have aN:=z3 zu (t:=t) (n:=n) (by omega) (by omega)
 have ah:=z3 zt (t:=e8 m t) (n:=m) (by rw[wD.len];omega) (by rw[wD.len];omega)
 have Yj:=wD.len
 rw[pf]at CJ
 have sM:ig (b7++[.dead]) cW (e8 m t):=jE.ext qk
 refine bV.join (by kernel_rfl) (fun jq j9 cw=>Ext (b7++[.dead]) cw/\ck cw (j9 6) (gH n m t)) ?_ ?_
 ·rintro K a4-
  simp
  refine aY.mk (C4 (N:=N) sM (by omega) (by omega) (fun r h=>by have:=wD.row r h;omega) zt g6.bits) ?_
  rintro u cw ⟨ch,DX,rfl,qg⟩
  rw[Yj]at qg
  simp
  refine cY.mk qg.whole ?_
  simp
  have cH:=Ext.dead cw
  refine aY.mk (xh (N:=N) (qg.ext cH) (CJ.ext (cB.av (ch.av cH))) ah aN g6.bits) ?_
  rintro u eH ⟨c_,rfl⟩
  simp
  refine br.b_ (fun ag=>?_) (fun ag=>?_)
  ·have a3:=Lx ag
   simp
   refine cY.mk qg.whole ?_
   refine a4 _ _ _ ⟨ch.av (cH.av c_),?_⟩
   unfold gH
   rw[if_pos a3]
   simpa using qg.ext (cH.av c_)
  ·have a3:=Lz ag
   refine a4 _ _ _ ⟨ch.av (cH.av c_),?_⟩
   unfold gH
   rw[if_neg a3]
   simpa using CJ.ext (cB.av (ch.av (cH.av c_)))
 rintro jq j9 cw ⟨ch,nt⟩
 simp at nt
 have zH:=YT.av (cB.av ch)
 have tU:=bd.ext zH
 have qg:=sM.ext ch
 have OH:dj N (gH n m t):=by
  unfold gH
  split
  ·exact ah
  ·exact aN
 have jX:IntKind.i64.wrap ((n:Int)+(m:Int))=((n+m:Nat):Int):=by rw[b2 (by omega) (by omega)];simp
 simp[jX]
 refine u6 (e:=120) (R:=1) (bI:=24) (ay:=false) (n:=n+m) (e6:= .i64) (dc:= .i64) (z:= .slice none 0 0) (ae:=ga) (a:= .slice none 0 0) (by simp) (by simp) (by simp) (by rfl) (by rfl) (by simp) (IT _ _ _) (by simp) (by simp) (by decide) (by decide) (by omega) (fun aI=>rfl) ?_
 intro mj ml dW eJ cH
 have sy:0<cw.length:=by have:=Ext.len zH;have:=Ext.len ch;simp at this;omega
 have wc:=dZ.PO (e:=80) (R:=4) (ay:=true) (ae:=ck) sy eJ
 simp
 refine cD (ae:=ga) (xs:=List.replicate (n+m) (.slice none 0 0)) (by simpa using eJ.row) (by simp) ?_
 simp
 have Y3:∀a,(List.replicate (n+m) ([]:List Rat))[a]?=if a<n+m then some []else none:=fun a=>by rw[List.getElem?_replicate]
 refine c6.range (by kernel_rfl) (n+m) (by omega) (by simp) (by rfl) (by simp) (by decide) (by decide) (fun i lO m4 eH=>Ext cw eH/\∃B us,dZ cw.length 120 80 4 true ck eH (.slice mj (n+m) ml) B us/\B.length=n+m/\∀a,a<n+m->B[a]?=some (if a<i then fJ (n+m)else[])) ?_ ?_ ?_
 ·exact⟨cH,_,_,wc,by simp,fun a aL=>by rw[Y3,if_pos aL];simp⟩
 ·rintro i lO m4 eH ab kg ⟨c_,B,us,yF,bK,lu⟩ K a4
  simp at kg
  simp[kg]
  refine aY.mk (Aa (n:=0) (by omega) (by omega)) ?_
  rintro z ku ⟨fq,aQ⟩
  refine xw (e:=80) (R:=4) (ay:=true) (z:= .agg #[.bool false,.slice none 0 0,.bool false,.slice none 0 0]) (ae:=ck) (a:=((0:Int):Rat)) (fun aI J=>by simpa using aQ.ext J) (by simpa using aQ.whole) (by simp) (by simp) (by simp) (by rfl) (by first | rfl | simp[flat,hd]) (by rfl) (by decide) (by decide) ?_
  intro RR hR qV e4
  simp[jX]
  refine aY.mk (acL (ae:=ck) (n:=n+m) qV.row (by omega) (fun H u y h=>h.whole) (fun H aI dp u y ah h=>h.kept ah (by decide))) ?_
  rintro DW gS ⟨e5,lx⟩
  have O9:=fq.av (e4.av e5)
  have W4:=Ext.len c_
  have NS:=Ext.len (fq.av e4)
  have k3:=yF.ext O9
  have zC:=lx.jL
  have jA:us.length=n+m:=by rw[yF.len,bK]
  refine ja (k:=cw.length) (e:=120) (R:=1) (ay:=false) (n:=i) (ae:=ga) (xs:=us) (a:=DW) (by simpa using k3.own) (by simp) (by omega) (by simp[ga]) (by simpa using zC) (by simp) (fun _ _ _ _ _ h=>h) (by simp) (by simp) (by simp) (by decide) ?_
  rintro xe j_ k2 gX p_ akx-
  simp at k2 p_
  have sC:=dZ.aco (ob:=hR.length) k3 (i:=i) (oi:=List.replicate (n+m) ((0:Int):Rat)) (by omega) (fun b aG af=>(lx.ge af aG).1) (fun j u b hu af aG=>by have:=yF.lt j u b hu af aG;omega) (by decide) (lx.le (by omega)) k2 p_ (fun u x h=>h.kept p_ (by decide))
  refine a4 _ _ _ (by simp[kg]) ⟨gX _ (Nat.le_refl _) (c_.av O9),_,_,sC,?_⟩
  refine Io (vL:=fun a=>if a<i+1 then fJ (n+m)else[]) bK ab lu (by simp[fJ]) fun a aL k4=>?_
  by_cases o:a<i
  ·simp[o,show a<i+1 by omega]
  ·simp[o,show¬a<i+1 by omega]
 ·rintro lO m4 eH kg ⟨c_,B,us,yF,bK,lu⟩
  have UG:∀a,a<n+m->B[a]?=some (if a<0 then pB n m t (gH n m t) a else fJ (n+m)):=fun a aL=>by rw[lu a aL,if_pos aL,if_neg (Nat.not_lt_zero a)]
  simp
  refine c6.range (by kernel_rfl) n (by omega) (by simp) (by rfl) (by simp) (by decide) (by decide) (fun i IZ I3 ku=>Ext cw ku/\∃B us,dZ cw.length 120 80 4 true ck ku (.slice mj (n+m) ml) B us/\B.length=n+m/\∀a,a<n+m->B[a]?=some (if a<i then pB n m t (gH n m t) a else fJ (n+m))) ?_ ?_ ?_
  ·exact⟨c_,B,us,yF,bK,UG⟩
  ·rintro i IZ I3 ku ab yp ⟨fq,B,us,wb,bK,lu⟩ K a4
   simp at yp
   have yn:=lu i (by omega)
   rw[if_neg (Nat.lt_irrefl i)]at yn
   refine Exists.elim (wb.pC yn) fun xB hu=>?_
   refine Exists.elim (aA.at ab) fun jk al=>?_
   have k8:=al.1
   have Gw:=al.2.2.1
   have Gy:=al.2.2.2.2
   have jA:us.length=n+m:=by rw[wb.len,bK]
   have Vw:=tU.ext fq
   have rl:(fJ (n+m)).length=n+m:=by simp[fJ]
   simp[yp]
   refine cF (ae:=ga) (xs:=us) (n:=i) (a:=xB) (e:=120) (R:=1) (ay:=false) (by simpa using wb.own.row) (by simp) hu.1 (by simp) (by simp) (by simp) (by decide) ?_
   rintro uX qy rfl
   simp
   refine cF (ae:=jO) (xs:=t) (n:=i) (a:=jk) (e:=120) (R:=1) (ay:=false) (by simpa using Vw) (by simp) k8 (by simp) (by simp) (by simp) (by decide) ?_
   intro uY IB Yq
   refine td (e:=80) (R:=4) (ay:=true) (ae:=ck) (xs:=fJ (n+m)) (bY:=jk) (u:=qy) (j:=0) (m:=n+m) (k:=cw.length) hu.2 (by simpa[rl]using hu.2.sub) (by omega) (by simpa using Yq) (fun u y h=>h.whole) (fun aI dp u y ah h=>h.kept ah (by decide)) (by simp) (by simp) (by simp) (by decide) (by decide) ?_
   rintro j_ k2 gX p_- -
   rw[ah3 Gw]at k2
   have tV:=wb.inner hu.1 (by decide) p_ k2 (fun u x h=>h.kept p_ (by decide))
   have uN:=gX _ (Nat.le_refl _) fq
   have Fy:=tU.ext uN
   have iU:IntKind.i64.wrap ((m:Int)+(i:Int))=((m+i:Nat):Int):=by rw[b2 (by omega) (by omega)];simp
   simp[yp]
   refine cF (ae:=ga) (xs:=us) (n:=i) (a:=qy) (e:=120) (R:=1) (ay:=false) (by simpa using tV.own.row) (by simp) hu.1 (by simp) (by simp) (by simp) (by decide) ?_
   rintro Dc RC rfl
   simp[iU]
   refine aY.mk (ru (j:=i) Fy k8 (by omega) (by omega) (zu jk al.2.1).1 (zu jk al.2.1).2 g6.bits) ?_
   rintro IQ lk ⟨h4,zD⟩
   refine⟨h4,?_⟩
   simp
   refine aY.mk (HX (N:=N) (nt.ext (uN.av h4)) zD OH (zu.sum al.2.1) g6.bits) ?_
   rintro RS pL ⟨kJ,zE⟩
   refine⟨kJ,?_⟩
   have qi:=h4.av kJ
   have FA:=tV.ext qi
   have Fk:=bM.ext (ae:=bB cw.length 80 4 true ck) k2 qi
   refine ja (k:=cw.length) (e:=80) (R:=4) (ay:=true) (n:=m+i) (ae:=ck) (xs:=jk++fJ n) (a:=gH n m t-eS jk) (by simpa using Fk) (by simp) (by simp[fJ];omega) (by simpa using zE) (by simpa using zE.whole) (by simp) (fun aI dp u y ah h=>h.kept ah (by decide)) (by simp) (by simp) (by simp) (by decide) ?_
   rintro z7 xL sg po sw NT-
   simp at sg sw
   have yC:=FA.inner hu.1 (by decide) sw sg (fun u x h=>h.kept sw (by decide))
   rw[List.set_set]at yC
   simp
   refine a4 _ _ _ (by simp[yp]) ⟨po _ (Nat.le_refl _) (uN.av qi),_,us,yC,?_⟩
   refine Io (vL:=fun a=>if a<i+1 then pB n m t (gH n m t) a else fJ (n+m)) bK (by omega) lu ?_ fun a aL k4=>?_
   ·simp[pB,k8,Gy]
   ·by_cases o:a<i
    ·simp[o,show a<i+1 by omega]
    ·simp[o,show¬a<i+1 by omega]
  ·rintro IZ I3 ku yp ⟨fq,B,us,wb,bK,lu⟩
   have UF:∀a,a<n+m->B[a]?=some (if a<n then pB n m t (gH n m t) a else if a<n+0 then s6 n m t (gH n m t) (a-n)else fJ (n+m)):=fun a aL=>by
    rw[lu a aL]
    by_cases o:a<n
    ·simp[o]
    ·simp[o]
   simp
   refine c6.range (by kernel_rfl) m (by omega) (by simp) (by rfl) (by simp) (by decide) (by decide) (fun i tp rS gS=>Ext cw gS/\∃B us,dZ cw.length 120 80 4 true ck gS (.slice mj (n+m) ml) B us/\B.length=n+m/\∀a,a<n+m->B[a]?=some (if a<n then pB n m t (gH n m t) a else if a<n+i then s6 n m t (gH n m t) (a-n)else fJ (n+m))) ?_ ?_ ?_
   ·exact⟨fq,B,us,wb,bK,UF⟩
   ·rintro i tp rS gS ab mD ⟨e5,B,us,k3,bK,lu⟩ K a4
    simp at mD
    have yn:=lu (n+i) (by omega)
    rw[if_neg (by omega),if_neg (by omega)]at yn
    refine Exists.elim (k3.pC yn) fun xB hu=>?_
    refine Exists.elim (wD.at ab) fun jk al=>?_
    have k8:=al.1
    have Gw:=al.2.2.1
    have Gy:=al.2.2.2.2
    have jA:us.length=n+m:=by rw[k3.len,bK]
    have Vx:=qg.ext e5
    have rl:(fJ (n+m)).length=n+m:=by simp[fJ]
    have iU:IntKind.i64.wrap ((n:Int)+(i:Int))=((n+i:Nat):Int):=by rw[b2 (by omega) (by omega)];simp
    simp[mD,iU]
    refine cF (ae:=ga) (xs:=us) (n:=n+i) (a:=xB) (e:=120) (R:=1) (ay:=false) (by simpa using k3.own.row) (by simp) hu.1 (by simp) (by simp) (by simp) (by decide) ?_
    rintro uX qy rfl
    simp
    refine DJ (e:=80) (R:=4) (ay:=true) (ae:=ck) (xs:=fJ (n+m)) (l:=m) (h:=n+m) (k:=cw.length) (by simpa using hu.2) (by simp) (by simp) (by decide) (by simp[ea]) (by simp[fo,rl]) (by omega) (by omega) ?_
    intro agy ak7 lC
    simp[rl]at lC
    simp
    refine cF (ae:=jO) (xs:=e8 m t) (n:=i) (a:=jk) (e:=120) (R:=1) (ay:=false) (by simpa using Vx) (by simp) k8 (by simp) (by simp) (by simp) (by decide) ?_
    intro xe IC zw
    refine td (e:=80) (R:=4) (ay:=true) (ae:=ck) (xs:=fJ (n+m)) (bY:=jk) (u:=qy) (j:=m) (m:=n) (k:=cw.length) hu.2 (by simpa[rl]using lC) (by omega) (by simpa using zw) (fun u y h=>h.whole) (fun aI dp u y ah h=>h.kept ah (by decide)) (by simp) (by simp) (by simp) (by decide) (by decide) ?_
    rintro j_ k2 gX p_- -
    rw[ah4 Gw]at k2
    have tV:=k3.inner hu.1 (by decide) p_ k2 (fun u x h=>h.kept p_ (by decide))
    have uN:=gX _ (Nat.le_refl _) e5
    have Fy:=qg.ext uN
    simp[mD,iU]
    refine cF (ae:=ga) (xs:=us) (n:=n+i) (a:=qy) (e:=120) (R:=1) (ay:=false) (by simpa using tV.own.row) (by simp) hu.1 (by simp) (by simp) (by simp) (by decide) ?_
    rintro Dc RC rfl
    simp
    refine aY.mk (ru (j:=i) Fy k8 (by omega) (by omega) (zt jk al.2.1).1 (zt jk al.2.1).2 g6.bits) ?_
    rintro IQ lk ⟨h4,zD⟩
    refine⟨h4,?_⟩
    simp
    refine aY.mk (HX (N:=N) (nt.ext (uN.av h4)) zD OH (zt.sum al.2.1) g6.bits) ?_
    rintro RS pL ⟨kJ,zE⟩
    refine⟨kJ,?_⟩
    have qi:=h4.av kJ
    have FA:=tV.ext qi
    have Fk:=bM.ext (ae:=bB cw.length 80 4 true ck) k2 qi
    refine ja (k:=cw.length) (e:=80) (R:=4) (ay:=true) (n:=i) (ae:=ck) (xs:=fJ m++jk) (a:=gH n m t-eS jk) (by simpa using Fk) (by simp) (by simp[fJ];omega) (by simpa using zE) (by simpa using zE.whole) (by simp) (fun aI dp u y ah h=>h.kept ah (by decide)) (by simp) (by simp) (by simp) (by decide) ?_
    rintro z7 xL sg po sw NT-
    simp at sg sw
    have yC:=FA.inner hu.1 (by decide) sw sg (fun u x h=>h.kept sw (by decide))
    rw[List.set_set]at yC
    have FR:jk=ju t i:=by
     have:(e8 m t)[i]?=some (ju t i):=by simp[e8,List.getElem?_range ab]
     rw[this]at k8
     exact(Option.some.inj k8).symm
    have Cr:eS jk=bC n (fun j=>b0 t j i):=by
     rw[Gy];exact fF fun j aN=>r5 aA aN ab
    simp
    refine a4 _ _ _ (by simp[mD]) ⟨po _ (Nat.le_refl _) (uN.av qi),_,us,yC,?_⟩
    refine Io (vL:=fun a=>if a<n then pB n m t (gH n m t) a else if a<n+(i+1)then s6 n m t (gH n m t) (a-n)else fJ (n+m)) bK (by omega) lu ?_ fun a aL k4=>?_
    ·rw[if_neg (by omega),if_pos (by omega),Nat.add_sub_cancel_left]
     unfold s6
     rw[<-FR,Cr]
    ·by_cases o:a<n
     ·simp[o]
     ·by_cases aa:a<n+i
      ·simp[o,aa,show a<n+(i+1) by omega]
      ·simp[o,aa,show¬a<n+(i+1) by omega]
   ·rintro tp rS gS mD ⟨e5,B,us,k3,bK,lu⟩
    have ei:=k3.row
    simp[bf]
    have Ww:=adH aA a1 (adU aA aF hm a1) bK lu
    exact aD _ _ ⟨zH.av e5,_,B,rfl,ei,Ww⟩
def eO(H:ad)(v:Value)(p:List Nat×List Int):Prop:=∃a n c,v= .agg #[.string (cv p.1),.slice a n c]/\Row 3 1 false IR H (.slice a n c) p.2
instance:bM eO:=⟨fun⟨a,n,c,h,o⟩ J=>⟨a,n,c,h,bM.ext (ae:=Row _ _ _ IR) o J⟩⟩
theorem eO.jL{H:ad}{v:Value}{p:List Nat×List Int}(h:eO H v p):Whole prog 93 v:=by
 obtain⟨a,n,c,rfl,-⟩:=h
 exact⟨by rfl,by simp[Value.cells,Value.oneCell'],by simp[e7]⟩
theorem eO.kept{H aI:ad}{e:Nat}{s v:Value}{p:List Nat×List Int}(h:eO H v p)(ah:Kept H aI s e)(aa:3≠e):eO aI v p:=by
 obtain⟨a,n,c,rfl,aO⟩:=h
 exact⟨a,n,c,rfl,aO.kept ah aa fun _ _ h=>h⟩
section
variable {P:Program} {r:List bJ} {F:Fr} {H:ad} {Q:Fr->ad->Prop} {α:Type}
theorem At{ff:Bool}{d1 d2 t b4 cV e R bI k:Nat}{ay:Bool}{s x:Operand}{z:Value}{ae:ad->Value->α->Prop}{xs:List α}{a:α}{ax:bc ((⟨ff,none,some d1,.buildSlice t 1 #[(0,x)]⟩:bJ)::ap d2 b4 cV s (T d1)::r) Q}(cR:bB k e R ay ae H (ar F s) xs)(aL:ae H (ar F x) a)
  (hw:Whole P e (ar F x))(fO:∀v,ar (a5 F d1 v) s=ar F s)(hY:∀aI dp u y,Kept H aI dp e->ae H u y->ae aI u y)
  (bG:P.underlying t=some (.slice e))(hu:P.underlying b4=some (.slice e))(J:fY P cV=true)(ao:bu P e=some R)(eE:dk P e=some ay)(af:bytes? P e=some bI)(aQ:dL P e=some z)(eb:flat z=true)(dt:z.cells.size=R)(df:0<R)(sI:R<=1000)
  (eh:0<bI)(bF:(xs.length+1)*bI<=140737488355328)(ah:k<=H.length)
  (K:∀p eB eV aI,bB k e R ay ae aI (.slice eB (xs.length+1) eV) (xs++[a])->(∀cJ:ad,cJ.length<=k->Ext cJ H->Ext cJ aI)->Kept H aI (ar F s) e->ba P r Q .mk (a5 (a5 F d1 p) d2 (.slice eB (xs.length+1) eV)) aI):
  ba P ((⟨ff,none,some d1,.buildSlice t 1 #[(0,x)]⟩:bJ)::ap d2 b4 cV s (T d1)::r) Q ax F H:=
 rJ cR aL hw fO hY bG hu J ao eE af aQ eb dt df sI eh bF ah fun p aw aI nd aU aO=>by
  have au:=nd.len
  rw[List.length_append,List.length_singleton]at au
  obtain⟨eB,eV,rfl⟩:=au
  exact K p eB eV aI nd aU aO
end
theorem Rd{d t d2 n:Nat}{x i:Operand}{r:List bJ}{F:Fr}{H:ad}{Q:Fr->ad->Prop}{xs:List (Rat×List Int)}{a:Rat×List Int}{ax:bc (bb d t x i::aB d2 113 (T d)::r) Q}(bq:Row 113 5 true jN H (ar F x) xs)(ab:ar F i= .int .i64 (n:Int))(aL:xs[n]?=some a)
  (bG:e1 prog t=some 113)(K:∀p s1 b3 c4 cx s2 cM c9 cN d_ eg,ck H (.agg #[.bool s1,.slice b3 c4 cx,.bool s2,.slice cM c9 cN]) a.1->Row 3 1 false IR H (.slice d_ a.2.length eg) a.2->ba prog r Q .mk (a5 (a5 F d p) d2 (.agg #[.bool s1,.slice b3 c4 cx,.bool s2,.slice cM c9 cN,.slice d_ a.2.length eg])) H):ba prog (bb d t x i::aB d2 113 (T d)::r) Q ax F H:=
 cF bq ab aL bG (by rfl) (by rfl) (by decide) fun p u ⟨s1,b3,c4,cx,s2,cM,c9,cN,d_,j4,eg,hu,o,aa⟩=>by
  subst hu
  obtain⟨eL,dA,he⟩:=aa.len
  simp at he
  obtain⟨rfl,rfl,rfl⟩:=he
  exact K p s1 b3 c4 cx s2 cM c9 cN d_ eg o aa
theorem ad3(N:Nat)(h:N<=10000):2^N<=10^4000:=by
 have o:=s4 2 N 10000 (by decide) h
 have aa:=HR 2 5 2000 10000 (by decide)
 have aE:=HR 10 2 2000 4000 (by decide)
 have bA:=HS (2^5) (10^2) 2000 (by decide)
 rw[aE]
 exact Nat.le_trans o (by rw[aa];exact bA)
theorem LQ{n N:Nat}(h:n<2^N)(bW:N<=10000):(dec n).length<=4000:=by
 unfold dec
 split
 ·decide
 ·rw[List.length_reverse]
  exact Qz n 4000 (Nat.lt_of_lt_of_le h (ad3 N bW))
theorem dj.C9{N:Nat}{q:Rat}(h:dj N q)(bW:N<=10000):lS q:=⟨LQ h.1 bW,.inr (LQ h.2 bW)⟩
theorem kT.congr{n:Nat}{B lK:Nat->Nat->Rat}{L:Rat}(h:kT n B L)(e:∀i k,i<n->k<n->lK i k=B i k):kT n lK L:=
 ⟨fun i k ab ah=>by rw[e i k ab ah];exact h.jj i k ab ah,fun i ab=>by rw[<-h.row i ab];exact fF fun k ah=>e i k ab ah,fun k ah=>by rw[<-h.oK k ah];exact fF fun i ab=>e i k ab ah⟩
theorem tn.congr{n:Nat}{A B:Nat->Nat->Rat}{L:Rat}{aM:List (Rat×List Int)}(h:tn n A L aM)(e:∀i k,i<n->k<n->B i k=A i k):tn n B L aM:=
 ⟨h.parts,fun i k ab ah=>by rw[h.sum i k ab ah,e i k ab ah],h.len,h.nQ,h.PS⟩
def Aj(n m:Nat)(p:Rat×List Int):List Nat×List Int:=(gh p.1,kz n m p.2)
theorem adb{v:Value}{t:List (List Rat)}{n m N D:Nat}{H:ad}(bd:ig H v t)(aA:e_ n m t)(aF:0<n)(hm:0<m)(nZ:n<10000)(nq:m<10000)(aG:∀i k,i<n->k<m->0<=b0 t i k)(a1:je D t)(g6:mw D N (gH n m t))(bW:N<=10000):
  aX prog 38 [.agg #[v]] H (fun u H1=>Ext H H1/\∃w aM,u= .tuple #[w,.int .i64 0]/\AU n m (b0 t) (gH n m t) aM/\(∀p∈aM,fk D p.1)/\Row 93 2 true eO H1 w (aM.map fun p=>(gh p.1,p.2))):=by
 refine aX.cc fun Q aD=>?_
 have pf:=aA.len
 obtain⟨eF,fp,qc,sH,Oq,zk⟩:=aA.at aF
 apply aaE (by simp)
 obtain⟨a,c,rfl⟩:=Row.len bd
 simp[KL]
 have bz:Ext H (H++[.dead]):=Ext.dead H
 refine aY.mk (adI (bd.ext bz) aA aF hm nZ nq aG a1 g6) ?_
 rintro u H1 ⟨bp,a9,s,rfl,ao,Wv,WJ,Nu⟩
 have Gd:kT (n+m) (b0 s) (gH n m t):=(adF aG (fun i ab=>Is aA ab) (fun k ah=>Ra aA ah)).congr Nu
 try simp
 refine aY.mk (LS (N:=N) ao Wv (by omega) (by omega) Gd WJ g6) ?_
 rintro u aT ⟨bh,aM,l9,Cb,qb⟩
 have XE:=(l9.congr fun i k ab ah=>(Nu i k ab ah).symm).ach
 have n6:=bz.av (bp.av bh)
 have iE:=bd.ext n6
 have im:0<aT.length:=by have:=Ext.len n6;have:=Ext.len (bp.av bh);simp at this;omega
 refine cD (ae:=jN) (xs:=aM) (by simpa using qb) (by simp) ?_
 try simp
 have uc:aM.length<=(n+m)*(n+m):=l9.nQ
 have ako:(n+m)*(n+m)<=20000*20000:=Nat.mul_le_mul (by omega) (by omega)
 refine c6.range (by kernel_rfl) aM.length (by omega) (by simp) (by rfl) (by simp) (by decide) (by decide) (fun i di ev bS=>Ext aT bS/\bB aT.length 93 2 true eO bS (di 4) ((aM.take i).map (Aj n m))) ?_ ?_ ?_
 ·exact⟨Ext.refl _,by simpa using bB.nil _ _ _ _ _ _⟩
 ·rintro i di ev bS ab yq ⟨bO,iD⟩ K a4
  simp at yq iD
  refine Exists.elim (⟨_,bs ab⟩:∃p,aM[i]?=some p) fun p aK=>?_
  have ir:=List.mem_of_getElem? aK
  have k7:=(l9.parts p ir).2
  have iu:=(l9.parts p ir).1
  have df:dj N p.1:=g6.R (Cb p ir) (Rat.le_of_lt iu) (by
   rw[<-l9.len];exact(De fun p aK=>(l9.parts p aK).1).2 p ir)
  simp[yq]
  refine Rd (xs:=aM) (n:=i) (a:=p) (by simpa using bM.ext (ae:=Row _ _ _ jN) qb bO) (by simp[yq]) aK (by simp) ?_
  intro ho s1 b3 c4 cx s2 cM c9 cN d_ eg uw WT
  try simp
  have fi:=Ext.dead bS
  refine aY.mk (H4 (uw.ext fi) df (by omega)) ?_
  rintro u b7 ⟨ct,hu⟩
  rw[if_pos (df.C9 bW)]at hu
  subst hu
  have rj:=fi.av ct
  try simp
  have cB:=Ext.dead b7
  have BG:=iE.ext (bO.av (rj.av cB))
  refine aY.mk (zX BG fp sH) ?_
  rintro u cw ⟨ch,rfl⟩
  refine⟨ch,?_⟩
  have G3:=rj.av (cB.av ch)
  have tU:=iE.ext (bO.av G3)
  have h3:=k7.len
  try simp
  refine tg (e:=3) (R:=1) (ay:=false) (ae:=IR) (xs:=p.2) (l:=0) (h:=m) (by simpa using bM.ext (ae:=Row _ _ _ IR) WT G3) (by simp) (by simp) (by decide) (by simp[ea]) (by simp[fo]) (by omega) (by omega) ?_
  intro ani GU
  have EH:(p.2.drop 0).take (m-0)=p.2.take m:=by simp
  rw[EH]at GU
  refine cD (ae:=IR) (xs:=p.2.take m) (by simpa using GU) (by simp) ?_
  have sz:(p.2.take m).length=m:=by simp;omega
  simp[sz]
  refine c6.range (by kernel_rfl) m (by omega) (by simp[h3]) (by rfl) (by simp) (by decide) (by decide) (fun j lO m4 eH=>Ext cw eH/\∃eB eV,m4 9= .agg #[.string (cv (gh p.1)),.slice eB j eV]/\bB cw.length 3 1 false IR eH (.slice eB j eV) ((kz n m p.2).take j)) ?_ ?_ ?_
  ·exact⟨Ext.refl _,none,0,by simp,by simpa using bB.nil _ _ _ _ _ _⟩
  ·rintro j lO m4 eH aN kg ⟨c_,eB,eV,vX,ki⟩ I6 yt
   simp at kg vX
   refine Exists.elim (k7.dP j (by omega)) fun x J=>?_
   have bp:=J.1
   have O0:=J.2
   have XI:(p.2.take m)[j]?=some (x:Int):=by rw[List.getElem?_take_of_lt aN];exact O0
   have Wr:(kz n m p.2)[j]?=some (if(n:Int)<=(x:Int)then(-1:Int)else(x:Int)):=by rw[EC,if_pos aN,O0];rfl
   have gV:(kz n m p.2).length=m:=k7.cut.len
   try simp[kg]
   refine cF (ae:=IR) (xs:=p.2.take m) (n:=j) (a:=(x:Int)) (e:=3) (R:=1) (ay:=false) (by simpa using bM.ext (ae:=Row _ _ _ IR) GU c_) (by simp[kg]) XI (by simp) (by simp) (by simp) (by decide) ?_
   rintro sY Ax rfl
   try simp
   have sh:=tU.ext c_
   refine bV.join (by kernel_rfl) (fun rQ vl hR=>Ext eH hR/\rQ 11= .int .i64 (if(n:Int)<=(x:Int)then(-1:Int)else(x:Int))) ?_ ?_
   ·rintro aic MN-
    try simp
    refine aY.mk (CU sh pf) ?_
    rintro u hR ⟨e4,rfl⟩
    try simp
    refine br.b_ (fun ag=>?_) (fun ag=>?_)
    ·try simp
     refine MN _ _ _ ⟨e4,?_⟩
     rw[if_pos (by omega)];simp
    ·refine MN _ _ _ ⟨e4,?_⟩
     rw[if_neg (by omega)];simp
   ·rintro rQ vl hR ⟨e4,nb⟩
    simp at nb
    have qV:=bM.ext (ae:=bB cw.length 3 1 false IR) ki e4
    have sy:=Ext.len (c_.av e4)
    simp[vX,nb]
    refine At (k:=cw.length) (e:=3) (R:=1) (ay:=false) (bI:=8) (z:= .int .i64 0) (ae:=IR) (xs:=(kz n m p.2).take j) (a:=(if(n:Int)<=(x:Int)then(-1:Int)else(x:Int))) (by simpa using qV) (by simp[IR,nb]) (by simp[nb];split<;>exact hH _) (by simp) (fun _ _ _ _ _ h=>h) (by simp) (by simp) (by simp) (by simp) (by simp) (by rfl) (by rfl) (by rfl) (by rfl) (by decide) (by decide) (by decide) (by simp;omega) (by omega) ?_
    intro uY So x5 gS lx e5 wL
    have gg:((kz n m p.2).take j).length=j:=by simp;omega
    rw[gg]at lx
    simp[vX,gg]
    refine yt _ _ _ (by simp[kg]) ⟨e5 _ (Nat.le_refl _) (c_.av e4),So,x5,by simp,?_⟩
    rw[List.take_add_one,Wr]
    exact lx
  ·rintro lO m4 eH kg ⟨c_,eB,eV,vX,ki⟩
   simp at vX
   have gV:(kz n m p.2).length=m:=k7.cut.len
   have Vg:bB cw.length 3 1 false IR eH (.slice eB m eV) (kz n m p.2):=by
    rw[<-List.take_of_length_le (l:=kz n m p.2) (i:=m) (by omega)];exact ki
   have G4:=G3.av c_
   have M5:eO eH (.agg #[.string (cv (gh p.1)),.slice eB m eV]) (Aj n m p):=⟨eB,m,eV,rfl,Vg.row⟩
   have akG:=Ext.len (bO.av G4)
   simp[vX]
   refine rJ (k:=aT.length) (e:=93) (R:=2) (ay:=true) (bI:=40) (z:= .agg #[.string ⟨#[]⟩,.slice none 0 0]) (ae:=eO) (xs:=(aM.take i).map (Aj n m)) (a:=Aj n m p) (by simpa using bM.ext (ae:=bB _ _ _ _ eO) iD G4) (by simpa using M5) (by simpa using M5.jL) (by simp) (fun aI dp u y ah h=>h.kept ah (by decide)) (by simp) (by simp) (by simp) (by simp) (by simp) (by rfl) (by rfl) (by first | rfl | simp[flat,hd]) (by rfl) (by decide) (by decide) (by decide) (by simp;omega) (by omega) ?_
   intro xe agz j_ k2 gX p_
   try simp
   refine a4 _ _ _ (by simp[yq]) ⟨gX _ (Nat.le_refl _) (bO.av G4),?_⟩
   rw[List.take_add_one,aK,List.map_append]
   simpa using k2
 ·rintro di ev bS yq ⟨bO,iD⟩
  simp at iD
  have ei:=iD.row
  have e:aM.map (Aj n m)=(aM.map fun p=>(p.1,kz n m p.2)).map fun p=>(gh p.1,p.2):=by
   rw[List.map_map];rfl
  rw[e]at ei
  simp[bf]
  refine aD _ _ ⟨n6.av bO,_,_,rfl,XE,fun p aK=>?_,ei⟩
  rw[List.mem_map]at aK
  obtain⟨q,aq,rfl⟩:=aK
  exact Cb q aq
theorem s5{t:List (List Int)}{n m:Nat}(aF:t.length=n)(hm:∀r∈t,r.length=m):e_ n m (cr t):=
 ⟨by simp[cr,aF],fun r al=>by
  unfold cr at al
  rw[List.mem_map]at al
  obtain⟨dG,fW,rfl⟩:=al
  simpa using hm dG fW⟩
theorem pA(t:List (List Int))(i k:Nat):b0 (cr t) i k=(((t[i]?.getD [])[k]?.getD 0:Int):Rat):=by
 unfold b0 cr
 rw[List.getElem?_map]
 cases al:t[i]? with
 | none=>simp
 | some r=>
  simp only[Option.map_some,Option.getD_some,List.getElem?_map]
  cases r[k]?<;>simp
theorem Qv(t:List (List Int)):je 1 (cr t):=fun r al q aq=>by
 unfold cr at al
 rw[List.mem_map]at al
 obtain⟨dG,fW,rfl⟩:=al
 rw[List.mem_map]at aq
 obtain⟨x,J,rfl⟩:=aq
 exact fk.int x
theorem lV.jj{t:List (List Int)}(h:lV t)(i k:Nat):0<=b0 (cr t) i k:=by
 rw[pA]
 have:(0:Int)<=(t[i]?.getD [])[k]?.getD 0:=by
  cases al:t[i]? with
  | none=>simp
  | some r=>
   simp only[Option.getD_some]
   cases J:r[k]? with
   | none=>simp
   | some x=>exact((h r (List.mem_of_getElem? al)).2 x (List.mem_of_getElem? J)).1
 exact_mod_cast this
theorem Iq{t:List (List Int)}{n m:Nat}(aF:t.length=n)(hm:(t[0]?.getD []).length=m)(h:lV t)(au:t.length<=1000):gH n m (cr t)=(((jf t).1:Int):Rat)/\(jf t).1.natAbs<=1000000000:=by
 have key:∀{t:List (List Int)} (n:Nat),(dI (dU (cr t)) n).1=((dI (dU (cr t)) n).1.num:Rat):=fun{t} n=>by
  rw[(uT _ n).1,qs,Rat.num_intCast]
 have gT:=C3 h n
 have kX:=C3 (h.e8 (m:=m) au) m
 unfold gH jf
 rw[z_,aF,hm]
 simp only
 split
 ·exact⟨key m,kX⟩
 ·exact⟨key n,gT⟩
theorem Qe{v:Value}{t:List (List Int)}{H:ad}(bd:kS H v t)(au:t.length<65536)(al:∀r∈t,r.length<65536):
  aX prog 10 [v] H (fun u H1=>Ext H H1/\(g2 t->∃w aM,u= .tuple #[w,.int .i64 0]/\AU t.length (t[0]?.getD []).length (b0 (cr t)) (((jf t).1:Int):Rat) aM/\(∀p∈aM,fk 1 p.1)/\Row 93 2 true eO H1 w (aM.map fun p=>(gh p.1,p.2)))/\(¬g2 t->u= .tuple #[.slice none 0 0,.int .i64 1])):=by
 refine aX.cc fun Q aD=>?_
 obtain⟨m,hm⟩:∃m,m=(t[0]?.getD []).length:=⟨_,rfl⟩
 apply aas (by simp)
 simp[KB]
 refine aY.mk (DV bd (by omega) fun r h=>by have:=al r h;omega) ?_
 rintro u H1 ⟨bp,rfl⟩
 simp
 refine br.mk (fun an=>?good) (fun an=>?bad)
 case bad=>
  simp at an
  simp[bf]
  exact aD _ _ ⟨bp,fun h=>absurd h an,fun _=>rfl⟩
 simp at an
 have ao:=an.small
 have eM:=an.len
 have v1:=an.1
 have v2:=an.2.1
 have vd:=an.2.2.1
 have v4:=an.2.2.2.1
 rw[<-hm]at eM vd v4
 have nt:=Iq rfl hm.symm ao (by omega)
 simp
 refine aY.mk (xl (bd.ext bp).row (by omega) al fun r h x J=>by have:=(ao r h).2 x J;omega) ?_
 rintro _ aT ⟨bh,x2,x_,rfl,l4⟩
 simp
 refine aY.mk (adb (n:=t.length) (m:=m) (N:=64) (D:=1) l4 (s5 rfl eM) (by omega) (by omega) (by omega) (by omega) (fun i k _ _=>ao.jj i k) (Qv t) (by rw[nt.1];exact mw.int (by have:=nt.2;omega) (by decide) (by decide)) (by decide)) ?_
 rintro u bS ⟨bO,w,aM,rfl,uu,sF,Xz⟩
 rw[nt.1]at uu
 simp[bf]
 refine aD _ _ ⟨bp.av (bh.av bO),fun _=>⟨w,aM,rfl,?_,sF,Xz⟩,fun h=>absurd an h⟩
 rw[<-hm]
 exact uu
theorem Zc{v:Value}{l:List Int}{x:Int}{H:ad}(ew:ee H v l)(au:l.length<65536):
  aX prog 103 [v,.int .i64 x] H (fun u H1=>H1=H/\∃r:Int,u= .int .i64 r/\(0<=r↔x∈l)):=by
 refine aX.cc fun Q aD=>?_
 apply aaQ (by simp)
 obtain⟨a,c,rfl⟩:=Row.len ew
 simp[KQ]
 refine cD (ae:=IR) (xs:=l) (by simpa using ew) (by simp) ?_
 simp
 refine c6.range (by kernel_rfl) l.length (by omega) (by simp) (by rfl) (by simp) (by decide) (by decide) (fun i bU dd aT=>aT=H/\x∉l.take i) ?_ ?_ ?_
 ·exact⟨rfl,by simp⟩
 ·rintro i bU dd aT ab jS ⟨rfl,J⟩ K a4
  simp at jS
  refine Exists.elim (⟨_,bs ab⟩:∃y,l[i]?=some y) fun y aP=>?_
  simp[jS]
  refine cF (ae:=IR) (xs:=l) (n:=i) (a:=y) (e:=3) (R:=1) (ay:=false) (by simpa using ew) (by simp) aP (by simp) (by simp) (by simp) (by decide) ?_
  rintro fP pG rfl
  simp
  refine br.b_ (fun ag=>?_) (fun ag=>?_)
  ·simp[jS,bf]
   exact aD _ _ ⟨rfl,_,rfl,by simp;rw[ag];exact List.mem_of_getElem? aP⟩
  ·try simp
   refine a4 _ _ _ (by simp[jS]) ⟨rfl,?_⟩
   rw[List.take_add_one,aP,List.mem_append]
   simp[J,ag]
 ·rintro bU dd aT jS ⟨rfl,J⟩
  simp at J
  simp[bf]
  exact aD _ _ ⟨rfl,-1,rfl,by simp[J]⟩
theorem SZ{v:Value}{l:List Int}{x:Int}{H:ad}(ew:ee H v l)(au:l.length<65536):
  aX prog 76 [v,.int .i64 x] H (fun u H1=>H1=H/\u= .bool (decide (x∈l))):=by
 refine aX.cc fun Q aD=>?_
 apply aaN (by simp)
 simp[KP]
 refine aY.mk (Zc ew au) ?_
 rintro u H1 ⟨rfl,r,rfl,al⟩
 simp[bf]
 exact aD _ _ ⟨rfl,by simp[al]⟩
def hr(l:List Nat):Rat:=Rat.divInt (gF l) (eD l)
def rX(n m:Nat)(p:List Nat×List Int):Prop:=(jr p.1/\0<hr p.1/\p.2.length=m)/\xN n m p.2
def parts(aR:List (List Nat×List Int)):List (Rat×List Int):=aR.map fun p=>(hr p.1,p.2)
def vo(n:Nat)(l:List Int)(k:Nat):Prop:=∃x,l[k]?=some x/\ -1<=x/\x<n/\(0<=x->x∉l.take k)
theorem EA{l:List Int}{x:Int}:(∀k,l[k]?=some x->x∉l.take k)↔l.count x<=1:=by
 constructor
 ·intro h
  by_cases hm:x∈l
  ·obtain⟨k,ah⟩:=List.mem_iff_getElem?.1 hm
   have iG:=(cn.1 ah).1
   have o:=h k ah
   have aa:x∉l.drop (k+1):=fun aA=>by
    obtain⟨j,aN⟩:=List.mem_iff_getElem?.1 aA
    rw[List.getElem?_drop]at aN
    refine h _ aN (List.mem_iff_getElem?.2 ⟨k,?_⟩)
    rw[List.getElem?_take_of_lt (by omega)]
    exact ah
   have e:l=l.take k++l[k]::l.drop (k+1):=by rw[List.getElem_cons_drop iG,List.take_append_drop]
   rw[e,List.count_append,List.count_cons,List.count_eq_zero.2 o,List.count_eq_zero.2 aa]
   split<;>omega
  ·rw[List.count_eq_zero.2 hm];omega
 ·intro h k ah hm
  have iG:=(cn.1 ah).1
  have e:l=l.take k++l[k]::l.drop (k+1):=by rw[List.getElem_cons_drop iG,List.take_append_drop]
  have J:l[k]=x:=(cn.1 ah).2
  rw[e,List.count_append,List.count_cons,J]at h
  have:=List.count_pos_iff.2 hm
  simp at h
  omega
theorem Hp{n m:Nat}{l:List Int}:xN n m l↔l.length=m/\∀k,k<m->vo n l k:=by
 constructor
 ·intro h
  refine⟨h.len,fun k ah=>?_⟩
  rcases h.acR k ah with o | ⟨j,aN,o⟩
  ·exact⟨-1,o,by omega,by omega,fun h=>by omega⟩
  ·exact⟨j,o,by omega,by omega,fun _=>EA.2 (h.inj j aN) k o⟩
 ·rintro⟨au,h⟩
  refine⟨au,fun k ah=>?_,fun j aN=>EA.1 fun k ah=>?_⟩
  ·obtain⟨x,o,aa,aE,bA⟩:=h k ah
   by_cases J:x= -1
   ·exact .inl (J▸o)
   ·exact .inr ⟨x.toNat,by omega,by rw[o];congr 1;omega⟩
  ·obtain⟨x,o,aa,aE,bA⟩:=h k (by have:=(cn.1 ah).1;omega)
   rw[o]at ah
   have:=Option.some.inj ah
   subst this
   exact bA (by omega)
theorem adO:(10:Nat)^4000<=2^13288:=acu 10 500 2 1661 8 4000 13288 (by decide) (by decide) (by decide+kernel)
theorem L0{l:List Nat}(h:ib l):dN l<2^13288:=by
 have o:=r4 h.1
 have aa:=s4 10 l.length 4000 (by decide) h.2.2.2
 exact Nat.lt_of_lt_of_le o (Nat.le_trans aa adO)
theorem IJ{l:List Nat}(h:jr l):dj 13288 (hr l):=by
 obtain⟨o,aa,aE,bA⟩:=h
 have aA:eD l≠0/\eD l<2^13288:=by
  unfold eD
  cases hu:lg l with
  | none=>exact⟨by decide,HT 13288 (by decide)⟩
  | some u=>
   obtain⟨aU,aO⟩:=aa u hu
   exact⟨by simp only;omega,L0 aU⟩
 refine dj.divInt aA.1 ?_ aA.2
 unfold gF
 have:=L0 o
 split
 ·rw[Int.natAbs_neg,Int.natAbs_natCast];exact this
 ·rw[Int.natAbs_natCast];exact this
def gG(s:Nat):Nat:=13290*s+1
theorem Q5:dj (gG 0) 0:=⟨by simp[gG],by simp[gG]⟩
theorem Il{s:Nat}{a b:Rat}(aL:dj (gG s) a)(af:dj 13288 b):dj (gG (s+1)) (a+b):=(aL.add af).mono (by unfold gG;omega)
theorem Qf(aM:List (Rat×List Int))(p:Rat×List Int):dJ (aM++[p])=dJ aM+p.1:=by
 rw[HM];simp only[dJ];grind
theorem Ql(aM:List (Rat×List Int))(p:Rat×List Int)(i k:Nat):en (aM++[p]) i k=en aM i k+gi p i k:=by
 rw[HN];simp only[en];grind
theorem HL{aR:List (List Nat×List Int)}{s:Nat}{p:List Nat×List Int}(h:aR[s]?=some p):parts (aR.take (s+1))=parts (aR.take s)++[(hr p.1,p.2)]:=by
 unfold parts
 rw[List.take_add_one,h,List.map_append];rfl
theorem xt{aR:List (List Nat×List Int)}(h:∀p∈aR,jr p.1):dj (gG aR.length) (dJ (parts aR))/\∀i k,dj (gG aR.length) (en (parts aR) i k):=by
 induction aR with
 | nil=>exact⟨Q5,fun _ _=>Q5⟩
 | cons p aR a2=>
  obtain⟨o,aa⟩:=a2 fun q aq=>h q (by simp[aq])
  have aE:=IJ (h p (by simp))
  refine⟨?_,fun i k=>?_⟩
  ·have:=Il o aE
   rw[Rat.add_comm]at this
   exact this
  ·have aK:dj 13288 (gi (hr p.1,p.2) i k):=by
    unfold gi
    split
    ·exact aE
    ·exact⟨Nat.two_pow_pos 13288,HT 13288 (by decide)⟩
   have:=Il (aa i k) aK
   rw[Rat.add_comm]at this
   exact this
theorem ee.whole{H:ad}{u:Value}{y:List Int}(h:ee H u y):Whole prog 34 u:=by
 obtain⟨a,c,rfl⟩:=Row.len h
 exact⟨by rfl,by rfl,by simp[e7]⟩
theorem ee.kept{H aI:ad}{e:Nat}{s u:Value}{y:List Int}(h:ee H u y)(ah:Kept H aI s e)(c2:3≠e):ee aI u y:=Row.kept h ah c2 fun _ _ h=>h
theorem ad7{d t d2 n:Nat}{x i:Operand}{r:List bJ}{F:Fr}{H:ad}{Q:Fr->ad->Prop}{xs:List (List Nat×List Int)}{a:List Nat×List Int}{ax:bc (bb d t x i::aB d2 93 (T d)::r) Q}(bq:Row 93 2 true eO H (ar F x) xs)(ab:ar F i= .int .i64 (n:Int))(aL:xs[n]?=some a)
  (bG:e1 prog t=some 93)(K:∀p d_ eg,ee H (.slice d_ a.2.length eg) a.2->ba prog r Q .mk (a5 (a5 F d p) d2 (.agg #[.string (cv a.1),.slice d_ a.2.length eg])) H):ba prog (bb d t x i::aB d2 93 (T d)::r) Q ax F H:=
 cF bq ab aL bG (by rfl) (by rfl) (by decide) fun p u ⟨d_,j4,eg,hu,aa⟩=>by
  subst hu
  obtain⟨eL,dA,he⟩:=aa.len
  simp at he
  obtain⟨rfl,rfl,rfl⟩:=he
  exact K p d_ eg aa
def oO(aR:List (List Nat×List Int))(s:Nat)(p:Rat×List Int)(i j k:Nat):Rat:=en (parts (aR.take s)) j k+if k<i then gi p j k else 0
theorem TL(aR:List (List Nat×List Int))(s:Nat)(p:Rat×List Int)(j k:Nat):oO aR s p 0 j k=en (parts (aR.take s)) j k:=by
 unfold oO
 rw[if_neg (Nat.not_lt_zero k)]
 exact Rat.add_zero _
theorem TJ{aR:List (List Nat×List Int)}{s m:Nat}{p:List Nat×List Int}(aK:aR[s]?=some p){j k:Nat}(ah:k<m):oO aR s (hr p.1,p.2) m j k=en (parts (aR.take (s+1))) j k:=by
 unfold oO
 rw[if_pos ah,HL aK,Ql]
theorem LW{aR:List (List Nat×List Int)}{s i:Nat}{p:Rat×List Int}{x:Int}(J:p.2[i]?=some x)(j k:Nat):oO aR s p (i+1) j k=oO aR s p i j k+if k=i/\x=(j:Int)then p.1 else 0:=by
 unfold oO gi
 by_cases o:k<i
 ·rw[if_pos o,if_pos (by omega),if_neg (by omega:¬(k=i/\x=(j:Int)))]
  exact(Rat.add_zero _).symm
 ·by_cases aa:k=i
  ·subst aa
   rw[if_neg o,if_pos (by omega),J]
   simp only[Option.some.injEq,true_and]
   split<;>grind
  ·rw[if_neg o,if_neg (by omega),if_neg (fun h=>aa h.1)]
   exact(Rat.add_zero _).symm
theorem TK{aR:List (List Nat×List Int)}{s i:Nat}{p:List Nat×List Int}(h:∀j k,dj (gG s) (en (parts (aR.take s)) j k))(aK:jr p.1)(j k:Nat):dj (gG (s+1)) (oO aR s (hr p.1,p.2) i j k):=by
 unfold oO
 have o:=IJ aK
 refine Il (h j k) ?_
 unfold gi
 have aG:dj 13288 (0:Rat):=⟨Nat.two_pow_pos 13288,HT 13288 (by decide)⟩
 split
 ·split
  ·exact o
  ·exact aG
 ·exact aG
theorem LX{v:Value}{aR:List (List Nat×List Int)}{n m:Nat}{H:ad}(hA:Row 93 2 true eO H v aR)(bK:∀p∈aR,Bytes p.1)(hlen:∀p∈aR,p.1.length<4611686018427387904/\p.2.length<65536)(iX:aR.length<=2000)(aF:0<n)(hm:0<m)(nZ:n<1000)(nq:m<1000):
  aX prog 47 [v,.int .i64 n,.int .i64 m] H (fun u H1=>Ext H H1/\∃u2 DF u3 h6 b,u= .tuple #[.agg #[.slice u2 DF u3],h6,.bool b]/\Whole prog 80 h6/\(b=true↔(∀p∈aR,rX n m p)/\aR.length<=1000)/\(b=true->∃B,ig H1 (.slice u2 DF u3) B/\e_ n m B/\(∀j k,j<n->k<m->b0 B j k=en (parts aR) j k)/\ck H1 h6 (dJ (parts aR)))):=by
 refine aX.cc fun Q aD=>?_
 apply aau (by simp)
 obtain⟨a,c,rfl⟩:=Row.len hA
 simp[KD]
 have bz:Ext H (H++[.dead,.dead]):=Ext.more H (by simp)
 refine u6 (e:=3) (R:=1) (bI:=8) (ay:=false) (n:=m) (e6:= .i64) (dc:= .i64) (z:= .int .i64 0) (ae:=IR) (a:=0) (by simp) (by simp) (by simp) (by rfl) (by rfl) (by simp) (hH 0) (by simp) (by simp) (by decide) (by decide) (by omega) (fun aI=>rfl) ?_
 intro IY ahY H1 jv bp
 have iJ:ee H1 (.slice IY m ahY) (List.replicate m 0):=jv.row
 refine xw (e:=34) (R:=1) (ay:=false) (z:= .slice none 0 0) (ae:=ee) (a:=List.replicate m 0) (fun aI J=>by simpa using bM.ext (ae:=ee) iJ J) (by simpa using iJ.whole) (by simp) (by simp) (by simp) (by rfl) (by rfl) (by rfl) (by decide) (by decide) ?_
 intro iN aT fU bh
 simp
 refine aY.mk (acM (ae:=ee) (n:=n) fU.row (by omega) (fun H u y h=>h.whole) (fun H aI dp u y ah h=>h.kept ah (by decide))) ?_
 rintro cW bS ⟨bO,iD⟩
 have jT:gr bS cW (List.replicate n (List.replicate m 0)):=iD.row
 simp
 refine aY.mk (QA jT (by simp;omega) (fun r h=>by rw[List.mem_replicate]at h;rw[h.2];simp;omega) (fun r h x J=>by rw[List.mem_replicate]at h;rw[h.2,List.mem_replicate]at J;rw[J.2];decide)) ?_
 rintro _ bT ⟨b8,mj,ml,us,rfl,kj⟩
 simp
 refine aY.mk (Aa (n:=0) (by omega) (by omega)) ?_
 rintro C1 b7 ⟨ct,NX⟩
 simp
 refine cY.mk NX.whole ?_
 rw[List.length_replicate]at kj
 have cB:Ext b7 (b7++[.dead,.dead]):=Ext.more b7 (by simp)
 have qk:=ct.av cB
 have O3:=b8.av qk
 have mP:=bz.av (bp.av (bh.av bO))
 have VB:=kj.ext qk
 simp
 refine cD (ae:=eO) (xs:=aR) (by simpa using bM.ext (ae:=Row _ _ _ eO) hA (mP.av O3)) (by simp) ?_
 simp
 have fail:∀h6 jM,Whole prog 80 h6->Ext H jM->(¬∀p∈aR,rX n m p)->Q (.tuple #[.agg #[.slice none 0 0],h6,.bool false]) jM:=fun h6 jM hw J gO=>aD _ _ ⟨J,none,0,0,h6,false,rfl,hw,⟨fun h=>(by cases h),fun h=>absurd h.1 gO⟩,fun h=>by cases h⟩
 refine c6.range (by kernel_rfl) aR.length (by omega) (by simp) (by rfl) (by simp) (by decide) (by decide) (fun s jq j9 cw=>Ext bS cw/\(∀p∈aR.take s,rX n m p)/\ck cw (j9 10) (dJ (parts (aR.take s)))/\∃B,dZ (bS.length+1) 120 80 4 true ck cw (.slice mj n ml) B us/\e_ n m B/\∀j k,j<n->k<m->b0 B j k=en (parts (aR.take s)) j k) ?_ ?_ ?_
 ·refine⟨O3,by simp,by simpa[parts,dJ]using NX.ext cB,_,VB,s5 (by simp) (fun r h=>by rw[List.mem_replicate]at h;rw[h.2];simp),fun j k aN ah=>?_⟩
  rw[pA]
  simp[aN,ah,parts,en]
 ·rintro s jq j9 cw ao oT ⟨ch,n0,q5,B,FC,FV,BU⟩ K a4
  simp at oT q5
  refine Exists.elim (⟨_,bs ao⟩:∃p,aR[s]?=some p) fun p aK=>?_
  have ir:=List.mem_of_getElem? aK
  have XA:=bK p ir
  have h3:=hlen p ir
  have vY:=mP.av ch
  have GI:=xt (aR:=aR.take s) fun q aq=>(n0 q aq).1.1
  have mc:(aR.take s).length=s:=by simp;omega
  rw[mc]at GI
  simp[oT]
  refine ad7 (xs:=aR) (n:=s) (a:=p) (by simpa using bM.ext (ae:=Row _ _ _ eO) hA vY) (by simp[oT]) aK (by simp) ?_
  intro py vw vC ug
  simp
  have fi:=Ext.dead cw
  refine aY.mk (ace XA h3.1) ?_
  rintro u eH ⟨c_,alx,(⟨mb,rfl,XH⟩ | ⟨gO,rfl⟩),s1,b3,c4,cx,s2,cM,c9,cN,rfl⟩
  ·have YX:=fi.av c_
   have Cr:ck eH (.agg #[.bool s1,.slice b3 c4 cx,.bool s2,.slice cM c9 cN]) (hr p.1):=XH
   have Om:=IJ mb
   simp
   have fq:=Ext.dead eH
   have O7:=YX.av fq
   refine bV.join (by kernel_rfl) (fun rQ vl hR=>Ext (eH++[.dead]) hR/\rQ 49= .bool (!decide (0<hr p.1/\p.2.length=m))) ?_ ?_
   ·rintro c5 dB-
    simp
    refine aY.mk (HW (Cr.ext fq)) ?_
    rintro u hR ⟨e4,rfl⟩
    by_cases iu:0<hr p.1
    ·have uC:¬((if hr p.1<0 then(-1:Int)else if hr p.1=0 then 0 else 1)<=0):=fun h=>Rat.not_lt.2 (Ak.1 h) iu
     simp[uC]
     refine cD (ae:=IR) (xs:=p.2) (by simpa using bM.ext (ae:=ee) ug (O7.av e4)) (by simp) ?_
     simp
     refine dB _ _ _ ⟨e4,?_⟩
     simp[iu]
     try omega
    ·have uC:((if hr p.1<0 then(-1:Int)else if hr p.1=0 then 0 else 1)<=0):=Ak.2 (Rat.not_lt.1 iu)
     simp[uC]
     refine dB _ _ _ ⟨e4,?_⟩
     simp[iu]
   ·rintro rQ vl hR ⟨e4,My⟩
    simp at My
    have CO:=O7.av e4
    have Gh:=q5.ext CO
    have O2:=ch.av CO
    simp[My]
    refine br.mk (fun af=>?_) (fun af=>?_)
    ·simp at af
     simp[bf]
     refine cY.mk Gh.whole ?_
     simp[bf]
     refine fail _ _ Gh.whole (mP.av O2) fun dv=>?_
     have:=(dv p ir).1
     rcases af with af | af
     ·exact af this.2.1
     ·exact af this.2.2
    ·simp at af
     have iu:=af.1
     have Gs:=af.2
     have XK:=Cr.ext (fq.av e4)
     have NK:=bM.ext (ae:=ee) ug CO
     have VA:=FC.ext CO
     have Yg:=GI.2
     simp
     refine cD (ae:=IR) (xs:=p.2) (by simpa using NK) (by simp) ?_
     simp
     refine c6.range (by kernel_rfl) p.2.length (by omega) (by simp) (by rfl) (by simp) (by decide) (by decide) (fun i tp rS gS=>Ext bS gS/\(∀k,k<i->vo n p.2 k)/\ck gS (j9 10) (dJ (parts (aR.take s)))/\ck gS (.agg #[.bool s1,.slice b3 c4 cx,.bool s2,.slice cM c9 cN]) (hr p.1)/\ee gS (.slice vw p.2.length vC) p.2/\∃B,dZ (bS.length+1) 120 80 4 true ck gS (.slice mj n ml) B us/\e_ n m B/\∀j k,j<n->k<m->b0 B j k=oO aR s (hr p.1,p.2) i j k) ?_ ?_ ?_
     ·exact⟨O2,fun k ah=>by omega,Gh,XK,NK,B,VA,FV,fun j k aN ah=>by rw[BU j k aN ah];exact(TL _ _ _ _ _).symm⟩
     ·rintro i tp rS gS ab mD ⟨e5,wJ,wO,zh,sv,B,k3,sn,wE⟩ ln eW
      simp at mD
      refine Exists.elim (⟨_,bs ab⟩:∃x,p.2[i]?=some x) fun x J=>?_
      refine bV.join (by kernel_rfl) (fun tq vm ka=>Ext bS ka/\(∀k,k<i+1->vo n p.2 k)/\ck ka (j9 10) (dJ (parts (aR.take s)))/\ck ka (.agg #[.bool s1,.slice b3 c4 cx,.bool s2,.slice cM c9 cN]) (hr p.1)/\ee ka (.slice vw p.2.length vC) p.2/\∃B,dZ (bS.length+1) 120 80 4 true ck ka (.slice mj n ml) B us/\e_ n m B/\∀j k,j<n->k<m->b0 B j k=oO aR s (hr p.1,p.2) (i+1) j k) ?_ ?_
      ·rintro oz g7 UZ
       simp[mD]
       refine cF (ae:=IR) (xs:=p.2) (n:=i) (a:=x) (e:=3) (R:=1) (ay:=false) (by simpa using sv) (by simp[mD]) J (by simp) (by simp) (by simp) (by decide) ?_
       rintro xe IC rfl
       simp[mD]
       refine bV.join (by kernel_rfl) (fun tq vm ka=>ka=gS/\∃bad,tq 78= .bool bad/\(bad=true↔(x< -1\/(n:Int)<=x\/(0<=x/\x∈p.2.take i)))) ?_ ?_
       ·rintro xO l2-
        by_cases o:x< -1
        ·simp[o]
         exact l2 _ _ _ ⟨rfl,true,by simp,by simp[o]⟩
        ·by_cases aa:(n:Int)<=x
         ·simp[o,aa]
          exact l2 _ _ _ ⟨rfl,true,by simp,by simp[aa]⟩
         ·by_cases aE:0<=x
          ·simp[o,aa,aE]
           refine tg (e:=3) (R:=1) (ay:=false) (ae:=IR) (xs:=p.2) (l:=0) (h:=i) (by simpa using sv) (by simp) (by simp) (by decide) (by simp[ea]) (by simp[fo]) (by omega) (by omega) ?_
           intro anf OO
           have TT:(p.2.drop 0).take (i-0)=p.2.take i:=by simp
           rw[TT]at OO
           try simp
           refine aY.mk (SZ (l:=p.2.take i) OO (by simp;omega)) ?_
           rintro w lk ⟨rfl,rfl⟩
           try simp
           exact l2 _ _ _ ⟨rfl,decide (x∈p.2.take i),by simp,by simp[o,aa,aE]⟩
          ·simp[o,aa,aE]
           exact l2 _ _ _ ⟨rfl,false,by simp,by simp[o,aa,aE]⟩
       ·rintro tq vm ka ⟨rfl,bad,E6,jW⟩
        simp only[g_]at E6
        simp at E6
        have jU:bad=false->vo n p.2 i:=fun h=>by
         have h:¬(x< -1\/(n:Int)<=x\/(0<=x/\x∈p.2.take i)):=fun cq=>by rw[jW.2 cq]at h;cases h
         exact⟨x,J,by omega,by omega,fun aG hm=>h (.inr (.inr ⟨aG,hm⟩))⟩
        have Xm:bad=true->¬vo n p.2 i:=fun h aN=>by
         have h:=jW.1 h
         obtain⟨y,aU,aO,bw,cj⟩:=aN
         rw[J]at aU
         have:=Option.some.inj aU
         subst this
         rcases h with h | h | ⟨h,hm⟩
         ·omega
         ·omega
         ·exact cj h hm
        simp[E6]
        refine br.mk (fun af=>?_) (fun af=>?_)
        ·simp
         refine cY.mk wO.whole ?_
         simp
         refine UZ _ _ _ _ (by simp) ?_
         simp[bf]
         refine fail _ _ wO.whole (mP.av e5) fun dv=>?_
         exact Xm af ((Hp.1 (dv p ir).2).2 i (by omega))
        ·have NM:∀k,k<i+1->vo n p.2 k:=fun k ah=>by
          by_cases fB:k<i
          ·exact wJ k fB
          ·obtain rfl:k=i:=by omega
           exact jU af
         refine Exists.elim (jU af) fun y aP=>?_
         have Pg:y=x:=by have:=aP.1;rw[J]at this;exact(Option.some.inj this).symm
         have zM:=aP.2.1
         have YZ:=aP.2.2.1
         rw[Pg]at zM YZ
         simp
         refine br.b_ (fun YS=>?_) (fun YS=>?_)
         ·refine Exists.elim (⟨x.toNat,by omega⟩:∃j:Nat,x=(j:Int)) fun j aN=>?_
          have o_:j<n:=by omega
          have p7:i<m:=by omega
          refine Exists.elim (sn.get o_ p7) fun jH al=>?_
          refine Exists.elim (k3.pC al.1) fun ti hu=>?_
          have OC:=TK (i:=i) (p:=p) Yg mb j i
          rw[<-wE j i o_ p7]at OC
          simp[aN]
          refine cF (ae:=ga) (xs:=us) (n:=j) (a:=ti) (e:=120) (R:=1) (ay:=false) (by simpa using k3.own.row) (by simp[aN]) hu.1 (by simp) (by simp) (by simp) (by decide) ?_
          rintro ab9 ID rfl
          simp[aN,mD]
          refine cF (ae:=ga) (xs:=us) (n:=j) (a:=ID) (e:=120) (R:=1) (ay:=false) (by simpa using k3.own.row) (by simp[aN]) hu.1 (by simp) (by simp) (by simp) (by decide) ?_
          rintro aca agr rfl
          simp[mD]
          refine cF (ae:=ck) (xs:=jH) (n:=i) (a:=b0 B j i) (e:=80) (R:=4) (ay:=true) (by simpa using hu.2.row) (by simp) al.2.1 (by simp) (by simp) (by simp) (by decide) ?_
          intro acb ags GN
          simp
          refine aY.mk (HV (N:=gG (s+1)) (M:=13288) GN zh OC Om (by unfold gG;omega)) ?_
          rintro w AN ⟨iI,hw⟩
          refine⟨iI,?_⟩
          have FB:=k3.ext iI
          have Fl:=bM.ext (ae:=bB (bS.length+1) 80 4 true ck) hu.2 iI
          refine ja (k:=bS.length+1) (e:=80) (R:=4) (ay:=true) (n:=i) (ae:=ck) (xs:=jH) (a:=b0 B j i+hr p.1) (by simpa using Fl) (by simp) (by rw[al.2.2];exact p7) (by simpa using hw) (by simpa using hw.whole) (by simp) (fun aI dp u y ah h=>h.kept ah (by decide)) (by simp) (by simp) (by simp) (by decide) ?_
          rintro acd D7 yx G0 nW W2-
          simp at yx nW
          have ah:∀u x,ck AN u x->ck D7 u x:=fun u x h=>h.kept nW (by decide)
          try simp
          refine g7 _ _ _ ⟨G0 _ (by omega) (e5.av iI),NM,ah _ _ (wO.ext iI),ah _ _ (zh.ext iI),(bM.ext (ae:=ee) sv iI).kept nW (by decide),B.set j (jH.set i (b0 B j i+hr p.1)),FB.inner hu.1 (by decide) nW yx ah,sn.set (by rw[List.length_set];exact al.2.2),?_⟩
          intro dO b1 kF gM
          rw[L5 al.1 (by rw[al.2.2];exact p7),LW J,wE dO b1 kF gM,wE j i o_ p7]
          by_cases ag:dO=j/\b1=i
          ·obtain⟨rfl,rfl⟩:=ag
           rw[if_pos ⟨rfl,rfl⟩,if_pos ⟨rfl,aN⟩]
          ·rw[if_neg ag,if_neg (by omega)]
           exact(Rat.add_zero _).symm
         ·refine g7 _ _ _ ⟨e5,NM,wO,zh,sv,B,k3,sn,fun dO b1 kF gM=>?_⟩
          rw[LW J,wE dO b1 kF gM,if_neg (by omega)]
          exact(Rat.add_zero _).symm
      ·rintro tq vm ka ⟨hD,WW,Xc,XL,F7,UE⟩
       exact eW _ _ _ (by simp[mD]) ⟨hD,WW,Xc,XL,F7,UE⟩
     ·rintro tp rS gS mD ⟨e5,wJ,wO,zh,sv,B,k3,sn,wE⟩
      simp
      refine aY.mk (HV (N:=gG s) (M:=13288) wO zh GI.1 Om (by unfold gG;omega)) ?_
      rintro w j_ ⟨gX,hw⟩
      simp
      refine cY.mk hw.whole ?_
      try simp
      have Yb:rX n m p:=⟨⟨mb,iu,Gs⟩,Hp.2 ⟨Gs,fun k ah=>wJ k (by omega)⟩⟩
      refine a4 _ _ _ (by simp[oT]) ⟨e5.av gX,fun q aq=>?_,?_,B,k3.ext gX,sn,fun j k aN ah=>?_⟩
      ·rw[List.take_add_one,aK,List.mem_append]at aq
       rcases aq with aq | aq
       ·exact n0 q aq
       ·simp at aq
        rw[aq];exact Yb
      ·rw[HL aK,Qf]
       simpa using hw
      ·rw[wE j k aN ah,Gs,TJ aK ah]
  ·simp[xA]
   refine cY.mk (q5.ext (fi.av (c_.av (Ext.dead eH)))).whole ?_
   simp[bf]
   exact fail _ _ (q5.ext (fi.av (c_.av (Ext.dead eH)))).whole (vY.av (fi.av (c_.av (Ext.dead eH)))) fun dv=>gO (dv p ir).1.1
 ·rintro jq j9 cw oT ⟨ch,n0,q5,B,FC,FV,BU⟩
  simp at q5
  have ei:=FC.row
  rw[List.take_length]at n0 BU
  simp
  refine cD (ae:=eO) (xs:=aR) (by simpa using bM.ext (ae:=Row _ _ _ eO) hA (mP.av ch)) (by simp) ?_
  simp
  refine cY.mk q5.whole ?_
  simp[bf]
  refine aD _ _ ⟨mP.av ch,mj,n,ml,_,_,rfl,q5.whole,?_,fun _=>⟨B,ei,FV,BU,q5⟩⟩
  constructor
  ·intro h
   simp at h
   exact⟨n0,by omega⟩
  ·intro h
   have:=h.2
   simp
   omega
theorem LA{a b:Rat}:((if a<b then(-1:Int)else if a=b then 0 else 1)=0)↔a=b:=by
 by_cases o:a<b
 ·simp only[if_pos o]
  constructor
  ·intro h;omega
  ·intro h;rw[h]at o;exact absurd o Rat.lt_irrefl
 ·by_cases aa:a=b
  ·simp[aa]
  ·simp[o,aa]
theorem QN{v w:Value}{t u:List (List Rat)}{n m N M:Nat}{H:ad}(bd:ig H v t)(ey:ig H w u)(aA:e_ n m t)(o5:e_ n m u)(aF:n<65536)(hm:m<65536)(c3:∀i k,i<n->k<m->dj N (b0 t i k))(Yd:∀i k,i<n->k<m->dj M (b0 u i k))(bW:N+M+1<=32000000):
  aX prog 50 [.agg #[v],.agg #[w]] H (fun r H1=>Ext H H1/\∃b,r= .bool b/\(b=true↔∀i k,i<n->k<m->b0 t i k=b0 u i k)):=by
 refine aX.cc fun Q aD=>?_
 have pf:=aA.len
 have jA:=o5.len
 apply aaD (by simp)
 obtain⟨a,c,rfl⟩:=Row.len bd
 obtain⟨cM,cN,rfl⟩:=Row.len ey
 simp[KK]
 have bz:Ext H (H++[.dead,.dead]):=Ext.more H (by simp)
 refine cD (ae:=jO) (xs:=t) (by simpa using bd.ext bz) (by simp) ?_
 simp
 refine c6.range (by kernel_rfl) t.length (by omega) (by simp) (by rfl) (by simp) (by decide) (by decide) (fun i bU dd aT=>Ext H aT/\∀j k,j<i->k<m->b0 t j k=b0 u j k) ?_ ?_ ?_
 ·exact⟨bz,fun j k aN=>by omega⟩
 ·rintro i bU dd aT ab jS ⟨bh,jy⟩ K a4
  simp at jS
  have gz:i<n:=by omega
  refine Exists.elim (aA.at gz) fun row ei=>?_
  have lB:=ei.2.2.1
  simp[jS]
  refine cF (ae:=jO) (xs:=t) (n:=i) (a:=row) (e:=120) (R:=1) (ay:=false) (by simpa using bd.ext bh) (by simp[jS]) ei.1 (by simp) (by simp) (by simp) (by decide) ?_
  intro fP pG lD
  try simp
  refine cD (ae:=ck) (xs:=row) (by simpa using lD) (by simp) ?_
  try simp
  refine c6.range (by kernel_rfl) row.length (by omega) (by simp) (by rfl) (by simp) (by decide) (by decide) (fun k cQ dQ bT=>Ext aT bT/\∀b1,b1<k->b0 t i b1=b0 u i b1) ?_ ?_ ?_
  ·exact⟨Ext.refl _,fun b1 ah=>by omega⟩
  ·rintro k cQ dQ bT ah hW ⟨b8,FY⟩ oz g7
   simp at hW
   have km:k<m:=by omega
   refine Exists.elim (aA.get gz km) fun ec zl=>?_
   refine Exists.elim (o5.get gz km) fun fs ra=>?_
   have X2:ec=row:=by have:=zl.1;rw[ei.1]at this;exact(Option.some.inj this).symm
   have rb:=zl.2.1
   rw[X2]at rb
   have fi:=Ext.dead bT
   simp[hW]
   refine cF (ae:=ck) (xs:=row) (n:=k) (a:=b0 t i k) (e:=80) (R:=4) (ay:=true) (by simpa using bM.ext (ae:=jO) lD b8) (by simp[hW]) rb (by simp) (by simp) (by simp) (by decide) ?_
   intro iK mX sJ
   try simp
   refine cY.mk sJ.whole ?_
   simp[jS]
   refine cF (ae:=jO) (xs:=u) (n:=i) (a:=fs) (e:=120) (R:=1) (ay:=false) (by simpa using ey.ext (bh.av (b8.av fi))) (by simp) ra.1 (by simp) (by simp) (by simp) (by decide) ?_
   intro mT va wW
   simp[hW]
   refine cF (ae:=ck) (xs:=fs) (n:=k) (a:=b0 u i k) (e:=80) (R:=4) (ay:=true) (by simpa using wW) (by simp) ra.2.1 (by simp) (by simp) (by simp) (by decide) ?_
   intro px Ay zx
   try simp
   refine aY.mk (Qr (sJ.ext fi) zx (c3 i k gz km) (Yd i k gz km) bW) ?_
   rintro RU dW ⟨cH,rfl⟩
   simp
   refine br.b_ (fun ag=>?_) (fun ag=>?_)
   ·have heq:=LA.1 ag
    try simp
    refine g7 _ _ _ (by simp[hW]) ⟨b8.av (fi.av cH),fun b1 gM=>?_⟩
    by_cases o:b1<k
    ·exact FY b1 o
    ·obtain rfl:b1=k:=by omega
     exact heq
   ·simp[bf]
    refine aD _ _ ⟨bh.av (b8.av (fi.av cH)),false,rfl,⟨fun h=>(by cases h),fun h=>?_⟩⟩
    exact absurd (LA.2 (h i k gz km)) ag
  ·rintro cQ dQ bT hW ⟨b8,FY⟩
   try simp
   refine a4 _ _ _ (by simp[jS]) ⟨bh.av b8,fun j k aN ah=>?_⟩
   by_cases o:j<i
   ·exact jy j k o ah
   ·obtain rfl:j=i:=by omega
    exact FY k (by omega)
 ·rintro bU dd aT jS ⟨bh,jy⟩
  simp[bf]
  exact aD _ _ ⟨bh,true,rfl,⟨fun _ i k ab ah=>jy i k (by omega) ah,fun _=>rfl⟩⟩
def vk(t:List (List Int))(aR:List (List Nat×List Int)):Prop:=((∀p∈aR,rX t.length (t[0]?.getD []).length p)/\aR.length<=1000)/\∀j k,j<t.length->k<(t[0]?.getD []).length->en (parts aR) j k=b0 (cr t) j k
theorem L6{t:List (List Int)}(h:lV t)(i k:Nat):dj 64 (b0 (cr t) i k):=by
 rw[pA]
 refine dj.int ?_ (by decide)
 cases al:t[i]? with
 | none=>simp
 | some r=>
  simp only[Option.getD_some]
  cases J:r[k]? with
  | none=>simp
  | some x=>
   have:=(h r (List.mem_of_getElem? al)).2 x (List.mem_of_getElem? J)
   simp only[Option.getD_some]
   omega
theorem TG{v w:Value}{t:List (List Int)}{aR:List (List Nat×List Int)}{H:ad}(bd:kS H v t)(au:t.length<65536)(al:∀r∈t,r.length<65536)(hA:Row 93 2 true eO H w aR)(bK:∀p∈aR,Bytes p.1)(hlen:∀p∈aR,p.1.length<4611686018427387904/\p.2.length<65536)(iX:aR.length<=2000):
  aX prog 20 [v,w] H (fun u H1=>Ext H H1/\(g2 t->vk t aR->u=if lS (dJ (parts aR))then .tuple #[.string (cv (gh (dJ (parts aR)))),.int .i64 0]else .tuple #[.string (cv []),.int .i64 5])/\(g2 t->¬vk t aR->u= .tuple #[.string (cv []),.int .i64 2])/\(¬g2 t->u= .tuple #[.string (cv []),.int .i64 1])):=by
 refine aX.cc fun Q aD=>?_
 obtain⟨m,hm⟩:∃m,m=(t[0]?.getD []).length:=⟨_,rfl⟩
 apply aaq (by simp)
 simp[Kz]
 have Ht:({data:= #[]}:ByteArray)=cv []:=rfl
 refine aY.mk (DV bd (by omega) fun r h=>by have:=al r h;omega) ?_
 rintro u H1 ⟨bp,rfl⟩
 simp
 refine br.mk (fun an=>?good) (fun an=>?bad)
 case bad=>
  simp at an
  simp[bf]
  exact aD _ _ ⟨bp,fun h=>absurd h an,fun h=>absurd h an,fun _=>by rw[Ht]⟩
 simp at an
 have ao:=an.small
 have eM:=an.len
 have v1:=an.1
 have v2:=an.2.1
 have vd:=an.2.2.1
 have v4:=an.2.2.2.1
 rw[<-hm]at eM vd v4
 have BT:=s5 rfl eM
 refine Exists.elim (BT.at (i:=0) (by omega)) fun eF fp=>?_
 simp
 refine aY.mk (xl (bd.ext bp).row (by omega) al fun r h x J=>by have:=(ao r h).2 x J;omega) ?_
 rintro _ aT ⟨bh,x2,x_,rfl,l4⟩
 simp
 have bO:=Ext.dead aT
 refine aY.mk (CU (n:=t.length) (l4.ext bO) (by simp[cr])) ?_
 rintro _ bT ⟨b8,rfl⟩
 refine⟨b8,?_⟩
 simp
 refine aY.mk (zX (l4.ext (bO.av b8)) fp.1 fp.2.2.1) ?_
 rintro _ b7 ⟨ct,rfl⟩
 refine⟨ct,?_⟩
 simp
 have qj:=bO.av (b8.av ct)
 have h4:=bp.av (bh.av qj)
 refine aY.mk (LX (n:=t.length) (m:=m) (bM.ext (ae:=Row _ _ _ eO) hA h4) bK hlen iX (by omega) (by omega) (by omega) (by omega)) ?_
 rintro _ dx ⟨cB,u2,DF,u3,h6,b,rfl,B9,af,sl⟩
 refine⟨cB,?_⟩
 have kJ:=h4.av cB
 cases b with
 | false=>
  have gO:¬vk t aR:=fun h=>by
   have:=af.2 (by rw[hm];exact h.1)
   cases this
  simp
  refine cY.mk B9 ?_
  simp[xA,bf]
  exact aD _ _ ⟨kJ.av (Ext.more dx (by simp)),fun _ h=>absurd h gO,fun _ _=>by rw[Ht],fun h=>absurd an h⟩
 | true=>
  have gW:=af.1 rfl
  refine Exists.elim (sl rfl) fun B qS=>?_
  have V_:=qS.1
  have lz:=qS.2.1
  have gx:=qS.2.2.1
  have hg:=qS.2.2.2
  have CC:=xt (aR:=aR) fun q aq=>(gW.1 q aq).1.1
  have ch:Ext dx (dx++[.dead,.dead]):=Ext.more dx (by simp)
  simp
  refine cY.mk B9 ?_
  simp
  refine bV.join (by kernel_rfl) (fun kR m3 dW=>Ext (dx++[.dead,.dead]) dW/\∃ff,kR 32= .bool ff/\(ff=false↔vk t aR)) ?_ ?_
  ·rintro K a4-
   simp
   refine aY.mk (QN (N:=64) (M:=gG aR.length) (l4.ext (qj.av (cB.av ch))) (V_.ext ch) BT lz (by omega) (by omega) (fun i k _ _=>L6 ao i k) (fun i k ab ah=>by rw[gx i k ab ah];exact CC.2 i k) (by unfold gG;omega)) ?_
   rintro _ dW ⟨cH,kX,rfl,mG⟩
   simp
   refine a4 _ _ _ ⟨cH,!kX,by simp,?_⟩
   have:(!kX)=false↔kX=true:=by cases kX<;>simp
   rw[this,mG]
   unfold vk
   rw[<-hm]
   constructor
   ·intro h
    exact⟨gW,fun j k aN ah=>by rw[<-gx j k aN ah,h j k aN ah]⟩
   ·intro h i k ab ah
    rw[gx i k ab ah,h.2 i k ab ah]
  ·rintro kR m3 dW ⟨cH,ff,Mv,o1⟩
   simp at Mv
   simp[Mv]
   refine br.mk (fun af=>?_) (fun af=>?_)
   ·simp[bf]
    exact aD _ _ ⟨kJ.av (ch.av cH),fun _ h=>(by rw[o1.2 h]at af;cases af),fun _ _=>by rw[Ht],fun h=>absurd an h⟩
   ·have fh:=o1.1 af
    simp
    refine aY.mk (H4 (N:=gG aR.length) (hg.ext (ch.av cH)) CC.1 (by unfold gG;omega)) ?_
    rintro _ eH ⟨c_,hu⟩
    have iI:=kJ.av (ch.av (cH.av c_))
    by_cases ah:lS (dJ (parts aR))
    ·rw[if_pos ah]at hu
     subst hu
     simp[bf]
     exact aD _ _ ⟨iI,fun _ _=>by rw[if_pos ah],fun _ h=>absurd fh h,fun h=>absurd an h⟩
    ·rw[if_neg ah]at hu
     subst hu
     simp[bf]
     exact aD _ _ ⟨iI,fun _ _=>by rw[if_neg ah],fun _ h=>absurd fh h,fun h=>absurd an h⟩
end Go.cl
end
section
namespace Go.cl
def bx:List Nat->Nat
 | []=>0
 | d::a0=>d+10000*bx a0
def eT(a0:List Nat):Prop:=∀d∈a0,d<10000
theorem eT.nil:eT []:=fun d h=>by cases h
theorem eT.snoc{a0:List Nat}{d:Nat}(h:eT a0)(aA:d<10000):eT (a0++[d]):=fun x J=>by
 rcases List.mem_append.1 J with J | J
 ·exact h x J
 ·rw[List.mem_singleton.1 J];exact aA
theorem eT.take{a0:List Nat}(h:eT a0)(n:Nat):eT (a0.take n):=fun x J=>h x (List.mem_of_mem_take J)
theorem eT.get{a0:List Nat}(h:eT a0)(i:Nat):a0[i]?.getD 0<10000:=by
 cases ab:a0[i]? with
 | none=>decide
 | some d=>exact h d (List.mem_of_getElem? ab)
theorem RM(a b:List Nat):bx (a++b)=bx a+10000^a.length*bx b:=by
 induction a with
 | nil=>simp[bx]
 | cons x a a2=>
  simp only[List.cons_append,bx,a2,List.length_cons,Nat.pow_succ]
  rw[Nat.mul_add,Nat.mul_comm (10000^a.length) 10000,Nat.mul_assoc]
  omega
theorem xE(a:List Nat)(d:Nat):bx (a++[d])=bx a+10000^a.length*d:=by
 rw[RM];simp[bx]
theorem tk{a0:List Nat}(h:eT a0):bx a0<10000^a0.length:=by
 induction a0 with
 | nil=>simp[bx]
 | cons d a0 a2=>
  have o:=a2 fun x J=>h x (by simp[J])
  have aa:=h d (by simp)
  simp only[bx,List.length_cons,Nat.pow_succ]
  omega
theorem IM(n:Nat):bx (List.replicate n 0)=0:=by
 induction n with
 | zero=>rfl
 | succ n a2=>rw[List.replicate_succ];simp[bx,a2]
def gv(a0:List Nat):Prop:=a0.getLast?≠some 0
theorem gv.nil:gv []:=by simp[gv]
theorem gv.snoc{a0:List Nat}{d:Nat}(h:d≠0):gv (a0++[d]):=by simp[gv,h]
theorem gv.le{a0:List Nat}(h:gv a0)(aF:a0≠[]):10000^(a0.length-1)<=bx a0:=by
 obtain⟨a,d,rfl⟩:∃a d,a0=a++[d]:=⟨a0.dropLast,a0.getLast aF,(List.dropLast_concat_getLast aF).symm⟩
 have aA:d≠0:=fun e=>h (by simp[e])
 rw[xE]
 simp only[List.length_append,List.length_singleton,Nat.add_sub_cancel]
 have:10000^a.length*1<=10000^a.length*d:=Nat.mul_le_mul_left _ (by omega)
 omega
theorem gv.zero{a0:List Nat}(h:gv a0):bx a0=0↔a0=[]:=by
 constructor
 ·intro aQ
  by_cases aF:a0=[]
  ·exact aF
  ·have:=h.le aF
   have:=Nat.pow_pos (n:=a0.length-1) (show 0<10000 by decide)
   omega
 ·rintro rfl;rfl
theorem gv.zW{a b:List Nat}(af:gv b)(aL:eT a)(h:a.length<b.length):bx a<bx b:=by
 have o:=af.le (by intro e;rw[e]at h;simp at h)
 have aa:=tk aL
 have aE:10000^a.length<=10000^(b.length-1):=Nat.pow_le_pow_right (by decide) (by omega)
 omega
theorem gv.len{a0:List Nat}(h:gv a0){n:Nat}(an:bx a0<10000^n):a0.length<=n:=by
 by_cases aF:a0=[]
 ·simp[aF]
 ·have o:=h.le aF
  by_cases a3:a0.length<=n
  ·exact a3
  ·have:10000^n<=10000^(a0.length-1):=Nat.pow_le_pow_right (by decide) (by omega)
   omega
theorem agE{a0:List Nat}{i:Nat}(ab:i<a0.length):bx (a0.take (i+1))=bx (a0.take i)+10000^i*(a0[i]?.getD 0):=by
 rw[List.take_succ_eq_append_getElem ab,xE,List.length_take,Nat.min_eq_left (by omega),bs ab]
 rfl
theorem xD{a0:List Nat}{i:Nat}(ab:i<a0.length):bx (a0.drop i)=a0[i]?.getD 0+10000*bx (a0.drop (i+1)):=by
 rw[List.drop_eq_getElem_cons ab,bs ab]
 rfl
theorem AA(a0:List Nat)(i:Nat)(ab:i<=a0.length):bx a0=bx (a0.take i)+10000^i*bx (a0.drop i):=by
 have:=RM (a0.take i) (a0.drop i)
 rw[List.take_append_drop,List.length_take,Nat.min_eq_left ab]at this
 exact this
theorem RN{a b:List Nat}(aL:eT a)(af:eT b)(au:a.length=b.length){i:Nat}(ab:i<a.length)(he:a.drop (i+1)=b.drop (i+1))(a3:a[i]?.getD 0<b[i]?.getD 0):bx a<bx b:=by
 rw[AA a i (by omega),AA b i (by omega),xD ab,xD (by omega:i<b.length),he]
 have o:=tk (aL.take i)
 have aa:(a.take i).length=i:=by simp;omega
 rw[aa]at o
 have aE:10000^i*(a[i]?.getD 0+1+10000*bx (b.drop (i+1)))<=10000^i*(b[i]?.getD 0+10000*bx (b.drop (i+1))):=Nat.mul_le_mul_left _ (by omega)
 have bA:10000^i*(a[i]?.getD 0+1+10000*bx (b.drop (i+1)))=10000^i*(a[i]?.getD 0+10000*bx (b.drop (i+1)))+10000^i:=by
  rw[show a[i]?.getD 0+1+10000*bx (b.drop (i+1))=(a[i]?.getD 0+10000*bx (b.drop (i+1)))+1 by omega,Nat.mul_add];omega
 omega
theorem agC{a0:List Nat}{n:Nat}(h:∀i,n<=i->i<a0.length->a0[i]?.getD 0=0):bx (a0.take n)=bx a0:=by
 by_cases aF:n<=a0.length
 ·rw[AA a0 n aF]
  have:a0.drop n=List.replicate (a0.length-n) 0:=by
   apply List.ext_getElem?
   intro i
   rw[List.getElem?_drop,List.getElem?_replicate]
   by_cases ab:n+i<a0.length
   ·have:=h (n+i) (by omega) ab
    rw[bs ab]at this⊢
    rw[if_pos (by omega)]
    simpa using this
   ·rw[List.getElem?_eq_none (by omega),if_neg (by omega)]
  rw[this,IM];simp
 ·rw[List.take_of_length_le (by omega)]
end Go.cl
end
section
set_option maxRecDepth 8000
set_option maxHeartbeats 1000000
namespace Go.cl
open Go.Proofs
open Go.Proofs.Tryz (prog)
attribute [-simp] gk hq iM
def ds(H:ad)(v:Value)(d:Nat):Prop:=v= .int .i64 (d:Int)
instance:bM ds:=⟨fun h _=>h⟩
abbrev ks(H:ad)(v:Value)(a0:List Nat):Prop:=Row 3 1 false ds H v a0
theorem ks.ext{H H1:ad}{v:Value}{a0:List Nat}(h:ks H v a0)(J:Ext H H1):ks H1 v a0:=bM.ext (ae:=Row _ _ _ ds) h J
def fE(s:Bool)(n:Nat):Int:=if s=true then-(n:Int)else n
def et(H:ad)(v:Value)(z:Int):Prop:=∃s a c a0,v= .agg #[.bool s,.slice a a0.length c]/\ks H (.slice a a0.length c) a0/\eT a0/\gv a0/\z=fE s (bx a0)/\(a0=[]->s=false)
theorem et.ext{H H1:ad}{v:Value}{z:Int}(h:et H v z)(J:Ext H H1):et H1 v z:=by
 obtain⟨s,a,c,a0,o,aa,aE⟩:=h
 exact⟨s,a,c,a0,o,aa.ext J,aE⟩
theorem et.whole{H:ad}{v:Value}{z:Int}(h:et H v z):Whole prog 40 v:=by
 obtain⟨s,a,c,a0,rfl,-⟩:=h
 exact⟨by rfl,by simp[Value.cells,Value.oneCell'],by simp[e7]⟩
theorem Dt(s:Bool)(n:Nat):(fE s n).natAbs=n:=by
 unfold fE;split<;>simp
theorem et.len{s:Bool}{a0:List Nat}{z:Int}{n:Nat}(bd:gv a0)(aQ:z=fE s (bx a0))(h:z.natAbs<10000^n):a0.length<=n:=by
 rw[aQ,Dt]at h
 exact bd.len h
section
variable {P:Program} {r:List bJ} {F:Fr} {H:ad} {Q:Fr->ad->Prop} {α:Type}
theorem Rb{d b4 cV e R bI k:Nat}{ay:Bool}{s x:Operand}{z:Value}{ae:ad->Value->α->Prop}{xs bY:List α}{ax:bc (ap d b4 cV s x::r) Q}(cR:bB k e R ay ae H (ar F s) xs)(l6:Row e R ay ae H (ar F x) bY)(ly:∀u y,ae H u y->Whole P e u)(hY:∀aI dp u y,Kept H aI dp e->ae H u y->ae aI u y)
  (hu:P.underlying b4=some (.slice e))(J:fY P cV=true)(ao:bu P e=some R)(eE:dk P e=some ay)(o:ay=true\/R=1)(af:bytes? P e=some bI)(aQ:dL P e=some z)(dt:z.cells.size=R)(eh:0<bI)(bF:(xs.length+bY.length)*bI<=140737488355328)(ah:k<=H.length)
  (K:∀eB eV aI,bB k e R ay ae aI (.slice eB (xs.length+bY.length) eV) (xs++bY)->(∀cJ:ad,cJ.length<=k->Ext cJ H->Ext cJ aI)->Kept H aI (ar F s) e->ba P r Q .mk (a5 F d (.slice eB (xs.length+bY.length) eV)) aI):ba P (ap d b4 cV s x::r) Q ax F H:=
 DG cR l6 ly hY hu J ao eE o af aQ dt eh bF ah fun aw aI nd aU aO=>by
  have au:=nd.len
  rw[List.length_append]at au
  obtain⟨eB,eV,rfl⟩:=au
  exact K eB eV aI nd aU aO
end
theorem Us{a0:List Nat}{m:Nat}(hm:0<m)(eM:m<=a0.length):(a0.take m).getLast?=some (a0[m-1]?.getD 0):=by
 rw[List.getLast?_eq_getElem?,List.length_take,Nat.min_eq_left eM,List.getElem?_take_of_lt (by omega),bs (by omega)]
 rfl
def Ek(k:Nat)(H:ad)(v:Value)(z:Int):Prop:=∃s a c a0,v= .agg #[.bool s,.slice a a0.length c]/\bB k 3 1 false ds H (.slice a a0.length c) a0/\eT a0/\gv a0/\z=fE s (bx a0)/\(a0=[]->s=false)
theorem Ek.ah2{k:Nat}{H:ad}{v:Value}{z:Int}(h:Ek k H v z):et H v z:=by
 obtain⟨s,a,c,a0,o,aa,aE⟩:=h
 exact⟨s,a,c,a0,o,aa.row,aE⟩
theorem Pv{s:Bool}{a:Option Addr}{c:Nat}{a0:List Nat}{H:ad}(bq:ks H (.slice a a0.length c) a0)(fh:eT a0)(au:a0.length<1000000000000):
  aX prog 72 [.agg #[.bool s,.slice a a0.length c]] H (fun u H1=>Ext H H1/\Ek H.length H1 u (fE s (bx a0))):=by
 refine aX.cc fun Q aD=>?_
 apply Zy (by simp)
 simp[J3]
 have bz:Ext H (H++[.dead,.dead]):=Ext.more H (by simp)
 have oX:=bq.ext bz
 refine cD (ae:=ds) (xs:=a0) (by simpa using oX) (by simp) ?_
 simp
 refine c6.mk (by kernel_rfl) (fun m az bH H1=>H1=H++[.dead,.dead]/\az 3= .int .i64 (m:Int)/\m<=a0.length/\∀i,m<=i->i<a0.length->a0[i]?.getD 0=0) a0.length ⟨rfl,by simp,Nat.le_refl _,fun i o aa=>by omega⟩ ?_
 rintro m az bH H1 ⟨rfl,aE,hm,aQ⟩ K a4
 simp at aE
 simp only[kP]
 refine bV.join (by kernel_rfl) (fun bU dd aT=>aT=H++[.dead,.dead]/\bU 17= .bool (decide (0<m/\a0[m-1]?.getD 0=0))) ?_ ?_
 ·rintro c5 dB-
  by_cases aG:0<m
  ·have hw:IntKind.i64.wrap ((m:Int)-1)=((m-1:Nat):Int):=by rw[b2 (by omega) (by omega)];omega
   refine Exists.elim (⟨_,bs (show m-1<a0.length by omega)⟩:∃d,a0[m-1]?=some d) fun d aA=>?_
   simp[aE,aG,hw]
   refine qw (ae:=ds) (xs:=a0) (n:=m-1) (a:=d) (e:=3) (R:=1) (ay:=false) (by simp) (by decide) (by simpa using oX) (by simp) aA (by simp) (by simp) (by simp) (by decide) ?_
   rintro dh qx rfl
   simp
   exact dB _ _ _ ⟨rfl,by simp[aG,aA]⟩
  ·simp[aE,aG]
   exact dB _ _ _ ⟨rfl,by simp[aG]⟩
 ·rintro bU dd aT ⟨rfl,tM⟩
  simp only[g_]at tM
  simp at tM
  simp[tM]
  refine br.mk (fun af=>?_) (fun af=>?_)
  ·simp at af
   have hw:IntKind.i64.wrap ((m:Int)-1)=((m-1:Nat):Int):=by rw[b2 (by omega) (by omega)];omega
   simp[aE,hw]
   refine a4 (m-1) _ _ _ (by omega) ⟨rfl,by simp,by omega,fun i o aa=>?_⟩
   by_cases p7:i=m-1
   ·rw[p7];exact af.2
   ·exact aQ i (by omega) aa
  ·simp at af
   have bd:gv (a0.take m):=by
    by_cases aG:0<m
    ·unfold gv
     rw[Us aG hm]
     intro h
     exact af aG (Option.some.inj h)
    ·obtain rfl:m=0:=by omega
     exact gv.nil
   have an:=agC aQ
   have eM:(a0.take m).length=m:=by simp;omega
   refine qv (e:=3) (R:=1) (by simp) (by simp) ?_
   simp[aE]
   refine tg (e:=3) (R:=1) (ay:=false) (ae:=ds) (xs:=a0) (l:=0) (h:=m) (by simpa using oX) (by simp) (by simp) (by decide) (by simp[ea,aE]) (by simp[fo,aE]) (by omega) (by omega) ?_
   intro vd j0
   have fT:(a0.drop 0).take (m-0)=a0.take m:=by simp
   rw[fT]at j0
   refine Rb (k:=(H++[bN.dead,bN.dead]).length) (e:=3) (R:=1) (ay:=false) (bI:=8) (z:= .int .i64 0) (ae:=ds) (xs:=[]) (bY:=a0.take m) (by simpa using bB.void _ _ _ _ _ _ _) (by simpa using j0) (fun u y h=>by rw[show u=_ from h];exact hH y) (fun aI dp u y ah h=>h) (by simp) (by simp) (by simp) (by simp) (by decide) (by rfl) (by rfl) (by rfl) (by decide) (by simp;omega) (Nat.le_refl _) ?_
   intro eB eV bT g8 b8 WZ
   have zG:=b8 _ (Nat.le_refl _) (Ext.refl _)
   have tT:bB H.length 3 1 false ds bT (.slice eB m eV) (a0.take m):=by
    have:=g8.le (b1:=H.length) (by simp)
    simp only[List.nil_append,List.length_nil,Nat.zero_add,eM]at this
    exact this
   simp only[List.length_nil,Nat.zero_add,eM]
   simp[xA]
   cases s with
   | false=>
    simp[bf]
    refine aD _ _ ⟨bz.av zG,false,eB,eV,a0.take m,by rw[eM],by rw[eM];exact tT,fh.take m,bd,by rw[an],fun _=>rfl⟩
   | true=>
    simp[aE,bf]
    refine aD _ _ ⟨bz.av zG,decide (0<m),eB,eV,a0.take m,by rw[eM],by rw[eM];exact tT,fh.take m,bd,?_,fun h=>?_⟩
    ·rw[an]
     by_cases aG:0<m
     ·simp[aG]
     ·obtain rfl:m=0:=by omega
      simp[bx]at an
      simp[fE,<-an]
    ·rw[h]at eM
     simp at eM
     simp[<-eM]
theorem rr{s:Bool}{a:Option Addr}{c:Nat}{a0:List Nat}{H:ad}(bq:ks H (.slice a a0.length c) a0)(fh:eT a0)(au:a0.length<1000000000000):
  aX prog 72 [.agg #[.bool s,.slice a a0.length c]] H (fun u H1=>Ext H H1/\et H1 u (fE s (bx a0))):=(Pv bq fh au).mono fun u H1 h=>⟨h.1,h.2.ah2⟩
theorem adm(v:Int):v=fE (decide (v<0)) v.natAbs:=by
 unfold fE
 by_cases h:v<0
 ·simp[h];omega
 ·simp[h];omega
theorem Q9{c:Int}:(if c.tmod 10000<0 then-(c.tmod 10000)else c.tmod 10000)=((c.natAbs % 10000:Nat):Int):=by
 have h:(c.tmod 10000).natAbs=c.natAbs % 10000:=Int.natAbs_tmod c 10000
 by_cases o:c.tmod 10000<0
 ·rw[if_pos o];omega
 ·rw[if_neg o];omega
theorem tB{v:Int}{H:ad}(o: -9223372036854775808<=v)(aa:v<9223372036854775808):aX prog 46 [.int .i64 v] H (fun u H1=>Ext H H1/\et H1 u v):=by
 refine aX.cc fun Q aD=>?_
 apply Zo (by simp)
 simp[JT]
 have bz:Ext H (H++[.dead,.dead]):=Ext.more H (by simp)
 obtain⟨iB,Bv⟩:∃iB,iB=H++[bN.dead,bN.dead]:=⟨_,rfl⟩
 rw[<-Bv]at bz⊢
 refine c6.mk (by kernel_rfl) (fun w az bH H1=>∃cur a0 a c,w=cur.natAbs/\az 0= .int .i64 cur/\bH 3= .agg #[.bool (decide (v<0)),.slice a a0.length c]/\bB iB.length 3 1 false ds H1 (.slice a a0.length c) a0/\eT a0/\(cur=0->gv a0)/\v.natAbs=bx a0+10000^a0.length*cur.natAbs/\Ext iB H1) v.natAbs ⟨v,[],none,0,rfl,by simp,by simp,bB.nil _ _ _ _ _ _,eT.nil,fun _=>gv.nil,by simp[bx],Ext.refl _⟩ ?_
 rintro w az bH H1 ⟨cur,a0,a,c,rfl,mH,oU,cR,fh,bd,an,J⟩ K a4
 simp at mH oU
 simp[mH]
 refine br.b_ (fun aQ=>?_) (fun aQ=>?_)
 ·simp[oU]
  simp[bf]
  refine aD _ _ ⟨bz.av J,_,a,c,a0,rfl,cR.row,fh,bd aQ,?_,fun h=>?_⟩
  ·rw[aQ]at an
   simp at an
   rw[<-an];exact adm v
  ·rw[aQ,h]at an
   simp[bx]at an
   simp[an]
 ·have iu:0<cur.natAbs:=by omega
  have hle:10000^a0.length<=v.natAbs:=by
   rw[an]
   have:10000^a0.length*1<=10000^a0.length*cur.natAbs:=Nat.mul_le_mul_left _ iu
   omega
  have hlen:a0.length<5:=by
   have bQ:v.natAbs<10000^5:=by
    have:(10000:Nat)^5=100000000000000000000:=by decide
    omega
   exact(Nat.pow_lt_pow_iff_right (by decide)).1 (Nat.lt_of_le_of_lt hle bQ)
  have kk:cur.natAbs<=v.natAbs:=by
   rw[an]
   have:1*cur.natAbs<=10000^a0.length*cur.natAbs:=Nat.mul_le_mul_right _ (Nat.pow_pos (by decide))
   omega
  have FW:(cur.tdiv 10000).natAbs=cur.natAbs/10000:=Int.natAbs_tdiv cur 10000
  have akL:(cur.tmod 10000).natAbs=cur.natAbs % 10000:=Int.natAbs_tmod cur 10000
  have YM:IntKind.i64.wrap (-(cur.tmod 10000))= -(cur.tmod 10000):=b2 (by omega) (by omega)
  have YK:IntKind.i64.wrap (cur.tdiv 10000)=cur.tdiv 10000:=b2 (by omega) (by omega)
  simp[mH]
  refine bV.join (by kernel_rfl) (fun bU dd aT=>aT=H1/\bU 4= .int .i64 ((cur.natAbs % 10000:Nat):Int)) ?_ ?_
  ·rintro c5 dB-
   simp
   refine br.b_ (fun q8=>?_) (fun q8=>?_)
   ·simp[YM]
    refine dB _ _ _ ⟨rfl,?_⟩
    rw[<-Q9,if_pos q8];simp
   ·try simp
    refine dB _ _ _ ⟨rfl,?_⟩
    rw[<-Q9,if_neg q8];simp
  ·rintro bU dd aT ⟨rfl,bA⟩
   simp only[g_]at bA
   simp at bA
   have aj3:=Ext.len J
   simp[oU,bA]
   refine At (k:=iB.length) (e:=3) (R:=1) (ay:=false) (bI:=8) (z:= .int .i64 0) (ae:=ds) (xs:=a0) (a:=cur.natAbs % 10000) (by simpa using cR) (by simp[ds,bA]) (by simp[bA];exact hH _) (by simp) (fun _ _ _ _ _ h=>h) (by simp) (by simp) (by simp) (by simp) (by simp) (by rfl) (by rfl) (by rfl) (by rfl) (by decide) (by decide) (by decide) (by omega) (by omega) ?_
   intro iK El SP b7 l3 ct F_
   simp[oU,mH,YK]
   refine a4 (cur.natAbs/10000) _ _ _ (Nat.div_lt_self iu (by decide)) ⟨cur.tdiv 10000,a0++[cur.natAbs % 10000],El,SP,by rw[FW],by simp,by simp,by simpa using l3,fh.snoc (Nat.mod_lt _ (by decide)),fun aG=>?_,?_,ct _ (Nat.le_refl _) J⟩
   ·refine gv.snoc fun nY=>?_
    have:cur.natAbs/10000=0:=by rw[<-FW,aG];rfl
    omega
   ·rw[xE,List.length_append,List.length_singleton,Nat.pow_succ,FW,an,Nat.mul_assoc,Nat.add_assoc,<-Nat.mul_add]
    congr 2
    have:=Nat.div_add_mod cur.natAbs 10000
    omega
theorem QT{v w:Value}{x y:List Nat}{H:ad}(bE:ks H v x)(bK:ks H w y)(J:eT x)(aP:eT y)(cV:gv x)(ty:gv y)(Gi:x.length<1000000000000)(wP:y.length<1000000000000):
  aX prog 83 [v,w] H (fun u H1=>H1=H/\u= .int .i64 (if bx x<bx y then-1 else if bx x=bx y then 0 else 1)):=by
 refine aX.cc fun Q aD=>?_
 apply ZB (by simp)
 obtain⟨a,c,rfl⟩:=Row.len bE
 obtain⟨cM,cN,rfl⟩:=Row.len bK
 simp[J6]
 refine cD (ae:=ds) (xs:=x) (by simpa using bE) (by simp) ?_
 try simp
 refine cD (ae:=ds) (xs:=y) (by simpa using bK) (by simp) ?_
 simp
 refine br.b_ (fun au=>?_) (fun au=>?_)
 ·have dR:x.length=y.length:=by omega
  have pk:IntKind.i64.wrap ((x.length:Int)-1)=(x.length:Int)-1:=b2 (by omega) (by omega)
  try simp
  refine cD (ae:=ds) (xs:=x) (by simpa using bE) (by simp) ?_
  simp[pk]
  refine c6.mk (by kernel_rfl) (fun m az bH H1=>H1=H/\az 5= .int .i64 ((m:Int)-1)/\m<=x.length/\x.drop m=y.drop m) x.length ⟨rfl,by simp,Nat.le_refl _,by rw[List.drop_length,List.drop_of_length_le (by omega)]⟩ ?_
  rintro m az bH H1 ⟨rfl,bQ,hm,he⟩ K a4
  simp at bQ
  simp[bQ]
  refine br.b_ (fun h0=>?_) (fun h0=>?_)
  ·refine Exists.elim (⟨m-1,by omega⟩:∃i:Nat,m=i+1) fun i ab=>?_
   refine Exists.elim (⟨_,bs (show i<x.length by omega)⟩:∃d,x[i]?=some d) fun d aA=>?_
   refine Exists.elim (⟨_,bs (show i<y.length by omega)⟩:∃d,y[i]?=some d) fun e nT=>?_
   have iH:(m:Int)-1=(i:Int):=by omega
   have jh:IntKind.i64.wrap ((i:Int)-1)=(i:Int)-1:=b2 (by omega) (by omega)
   have fi:x[i]?.getD 0=d:=by rw[aA];rfl
   have zN:y[i]?.getD 0=e:=by rw[nT];rfl
   rw[ab]at he
   simp[bQ,iH]
   refine cF (ae:=ds) (xs:=x) (n:=i) (a:=d) (e:=3) (R:=1) (ay:=false) (by simpa using bE) (by simp[bQ,iH]) aA (by simp) (by simp) (by simp) (by decide) ?_
   rintro gZ mr rfl
   simp[bQ,iH]
   refine cF (ae:=ds) (xs:=y) (n:=i) (a:=e) (e:=3) (R:=1) (ay:=false) (by simpa using bK) (by simp[bQ,iH]) nT (by simp) (by simp) (by simp) (by decide) ?_
   rintro fP pG rfl
   simp
   refine br.b_ (fun a3=>?_) (fun a3=>?_)
   ·have:=RN J aP dR (i:=i) (by omega) he (by omega)
    simp[bf]
    exact aD _ _ ⟨rfl,by rw[if_pos this]⟩
   ·simp[bQ,iH]
    refine cF (ae:=ds) (xs:=x) (n:=i) (a:=d) (e:=3) (R:=1) (ay:=false) (by simpa using bE) (by simp[bQ,iH]) aA (by simp) (by simp) (by simp) (by decide) ?_
    rintro ho DT rfl
    simp[bQ,iH]
    refine cF (ae:=ds) (xs:=y) (n:=i) (a:=e) (e:=3) (R:=1) (ay:=false) (by simpa using bK) (by simp[bQ,iH]) nT (by simp) (by simp) (by simp) (by decide) ?_
    rintro iK mX rfl
    simp
    refine br.b_ (fun p6=>?_) (fun p6=>?_)
    ·have:=RN aP J dR.symm (i:=i) (by omega) he.symm (by omega)
     simp[bf]
     exact aD _ _ ⟨rfl,by rw[if_neg (by omega),if_neg (by omega)]⟩
    ·have Wu:d=e:=by omega
     simp[bQ,iH,jh]
     refine a4 i _ _ _ (by omega) ⟨rfl,by simp,by omega,?_⟩
     rw[List.drop_eq_getElem_cons (show i<x.length by omega),List.drop_eq_getElem_cons (show i<y.length by omega),he]
     congr 1
     rw[bs (by omega)]at fi zN
     simp at fi zN
     rw[fi,zN,Wu]
  ·obtain rfl:m=0:=by omega
   have CP:x=y:=by simpa using he
   simp[bf]
   exact aD _ _ ⟨rfl,by rw[CP];simp⟩
 ·try simp
  refine cD (ae:=ds) (xs:=x) (by simpa using bE) (by simp) ?_
  try simp
  refine cD (ae:=ds) (xs:=y) (by simpa using bK) (by simp) ?_
  simp
  refine br.b_ (fun a3=>?_) (fun a3=>?_)
  ·have:=ty.zW J (by omega)
   simp[bf]
   exact aD _ _ ⟨rfl,by rw[if_pos this]⟩
  ·have:=cV.zW aP (by omega)
   simp[bf]
   exact aD _ _ ⟨rfl,by rw[if_neg (by omega),if_neg (by omega)]⟩
end Go.cl
end
