/- Part of the proof of ShopShares. -/
import Derived.Test.YtoiodfcefbapkaaShopSharesH
set_option linter.unusedVariables false
set_option linter.unusedSimpArgs false
section
set_option maxRecDepth 8000
set_option maxHeartbeats 1000000
namespace Go.b_
open Go.Proofs
open Go.Proofs.Try (prog)
attribute [-simp] fL gO hK
def eM(D:Nat)(q:Rat):Prop:=∃z:Int,q*(D:Rat)=(z:Rat)
theorem eM.add{D:Nat}{a b:Rat}(aF:eM D a)(af:eM D b):eM D (a+b):=by
 obtain⟨x,I⟩:=aF
 obtain⟨y,aL⟩:=af
 exact⟨x+y,by rw[Rat.intCast_add,<-I,<-aL];grind⟩
theorem eM.sub{D:Nat}{a b:Rat}(aF:eM D a)(af:eM D b):eM D (a-b):=by
 obtain⟨x,I⟩:=aF
 obtain⟨y,aL⟩:=af
 exact⟨x-y,by rw[Rat.intCast_sub,<-I,<-aL];grind⟩
theorem eM.zero(D:Nat):eM D 0:=⟨0,by simp⟩
theorem eM.int(z:Int):eM 1 (z:Rat):=⟨z,by simp⟩
structure k6 (D N:Nat) (L:Rat):Prop where
 pos:0<D
 small:D<2^N
 top:∃z:Int,L*(D:Rat)<=(z:Rat)/\z.natAbs<2^N
 bits:N<=1000000
theorem k6.le{D N:Nat}{L FJ:Rat}(h:k6 D N L)(ar:FJ<=L):k6 D N FJ:=by
 obtain⟨z,aP,cY⟩:=h.top
 exact⟨h.pos,h.small,⟨z,Rat.le_trans (Rat.mul_le_mul_of_nonneg_right ar (by exact_mod_cast Nat.zero_le D)) aP,cY⟩,h.bits⟩
theorem k6.R{D N:Nat}{L q:Rat}(h:k6 D N L)(au:eM D q)(aH:0<=q)(ar:q<=L):c4 N q:=by
 obtain⟨Nx,TV,cY⟩:=h.top
 obtain⟨z,aP⟩:=au
 have hq:(0:Rat)<(D:Rat):=by exact_mod_cast h.pos
 have w_:0<=z:=by
  have:(0:Rat)<=(z:Rat):=by rw[<-aP];exact Rat.mul_nonneg aH (Rat.le_of_lt hq)
  exact_mod_cast this
 have pA:z<=Nx:=by
  have:(z:Rat)<=(Nx:Rat):=by
   rw[<-aP]
   exact Rat.le_trans (Rat.mul_le_mul_of_nonneg_right ar (Rat.le_of_lt hq)) TV
  exact_mod_cast this
 have e:q=Rat.divInt z D:=by
  rw[Rat.divInt_eq_div,<-aP]
  have:((D:Int):Rat)=(D:Rat):=rfl
  rw[this,Rat.mul_div_cancel (by intro h;rw[h]at hq;exact Rat.lt_irrefl hq)]
 rw[e]
 exact c4.divInt (by have:=h.pos;omega) (by omega) h.small
theorem k6.int{z:Int}{N:Nat}(aP:z.natAbs<2^N)(cm:0<N)(af:N<=1000000):k6 1 N (z:Rat):=
 ⟨by decide,Nat.one_lt_two_pow (by omega),⟨z,by simp,aP⟩,af⟩
theorem L0(r:List Rat)(k:Nat):er (r.take k)=bw k (fun i=>r[i]?.getD 0):=by
 induction k with
 | zero=>simp[er,bw]
 | succ k aW=>
  by_cases ah:k<r.length
  ·rw[L1 (bt ah),aW]
   simp[bw,bt ah]
  ·have o:r.take (k+1)=r.take k:=by rw[List.take_of_length_le (by omega),List.take_of_length_le (by omega)]
   rw[o,aW]
   simp only[bw]
   rw[List.getElem?_eq_none (by omega)]
   exact(Rat.add_zero _).symm
theorem WZ{r:List Rat}{n:Nat}(h:r.length=n):er r=bw n (fun i=>r[i]?.getD 0):=by
 rw[<-L0,List.take_of_length_le (by omega)]
theorem XZ{k n:Nat}{f:Nat->Rat}(h:k<=n)(aH:∀i,i<n->0<=f i):bw k f<=bw n f:=by
 induction n with
 | zero=>
  obtain rfl:k=0:=by omega
  exact Rat.le_refl
 | succ n aW=>
  by_cases ah:k<=n
  ·have:=aW ah fun i ad=>aH i (by omega)
   have:=aH n (by omega)
   simp only[bw]
   grind
  ·obtain rfl:k=n+1:=by omega
   exact Rat.le_refl
structure eU (n m:Nat) (t:List (List Rat)):Prop where
 len:t.length=n
 row:∀r∈t,r.length=m
theorem eU.at{n m i:Nat}{t:List (List Rat)}(h:eU n m t)(ad:i<n):∃r,t[i]?=some r/\r∈t/\r.length=m/\(∀k,r[k]?.getD 0=bM t i k)/\er r=bw m (bM t i):=by
 have cW:i<t.length:=by rw[h.len];exact ad
 refine⟨_,bt cW,List.getElem_mem cW,h.row _ (List.getElem_mem cW),fun k=>by simp[bM,bt cW],?_⟩
 rw[WZ (h.row _ (List.getElem_mem cW))]
 apply fK
 intro k _
 simp[bM,bt cW]
theorem eU.get{n m i k:Nat}{t:List (List Rat)}(h:eU n m t)(ad:i<n)(ah:k<m):∃r,t[i]?=some r/\r[k]?=some (bM t i k)/\r.length=m:=by
 obtain⟨r,aT,aQ,bn,b8,-⟩:=h.at ad
 refine⟨r,aT,?_,bn⟩
 rw[<-b8,bt (by omega)]
 rfl
theorem eU.mem{n m:Nat}{t:List (List Rat)}(h:eU n m t){r:List Rat}(aj:r∈t):∃i,i<n/\t[i]?=some r:=by
 obtain⟨i,ad⟩:=List.mem_iff_getElem?.1 aj
 exact⟨i,by have:=(cc.1 ad).1;rw[h.len]at this;exact this,ad⟩
def hY(D:Nat)(t:List (List Rat)):Prop:=∀r∈t,∀q∈r,eM D q
theorem hY.bM{D:Nat}{t:List (List Rat)}(h:hY D t)(i k:Nat):eM D (bM t i k):=by
 unfold Go.b_.bM
 cases aj:t[i]? with
 | none=>exact eM.zero D
 | some r=>
  simp only[Option.getD_some]
  cases au:r[k]? with
  | none=>exact eM.zero D
  | some q=>exact h r (List.mem_of_getElem? aj) q (List.mem_of_getElem? au)
theorem eM.sum{D n:Nat}{f:Nat->Rat}(h:∀i,i<n->eM D (f i)):eM D (bw n f):=by
 induction n with
 | zero=>exact eM.zero D
 | succ n aW=>exact(aW fun i ad=>h i (by omega)).add (h n (by omega))
theorem EZ{D N n m:Nat}{L:Rat}{t:List (List Rat)}(aJ:eU n m t)(aV:hY D t)(gq:k6 D N L)(aH:∀i k,i<n->k<m->0<=bM t i k)(aj:∀i,i<n->bw m (bM t i)<=L):s5 N t:=by
 intro r sf
 obtain⟨i,ad,zO⟩:=aJ.mem sf
 obtain⟨di,aT,-,bn,b8,eD⟩:=aJ.at ad
 have:di=r:=by rw[zO]at aT;exact(Option.some.inj aT).symm
 subst this
 have key:∀k,k<=m->c4 N (er (di.take k)):=fun k ah=>by
  have e:er (di.take k)=bw k (bM t i):=by
   rw[L0];exact fK fun j _=>b8 j
  rw[e]
  refine gq.R (eM.sum fun j _=>aV.bM i j) (EU fun j aI=>aH i j ad (by omega)) ?_
  exact Rat.le_trans (XZ ah fun j aI=>aH i j ad aI) (aj i ad)
 refine⟨fun k=>?_,fun q au=>?_⟩
 ·by_cases ah:k<=m
  ·exact key k ah
  ·have:=key m (Nat.le_refl m)
   rw[List.take_of_length_le (by omega)]at this⊢
   exact this
 ·obtain⟨k,ah⟩:=List.mem_iff_getElem?.1 au
  have ik:k<m:=by have:=(cc.1 ah).1;omega
  have e:q=bM t i k:=by rw[<-b8,ah];rfl
  rw[e]
  refine gq.R (aV.bM i k) (aH i k ad ik) (Rat.le_trans (ES (fun j aI=>aH i j ad aI) ik) (aj i ad))
theorem jJ.le{n:Nat}{B:Nat->Nat->Rat}{L:Rat}(h:jJ n B L){i k:Nat}(ad:i<n)(ah:k<n):B i k<=L:=by
 rw[<-h.row i ad];exact ES (fun k ah=>h.h3 i k ad ah) ah
theorem AK{n:Nat}{f g:Nat->Nat}(h:∀i,i<n->f i=g i):k0 n f=k0 n g:=Nat.le_antisymm (AL fun i ad=>Nat.le_of_eq (h i ad)) (AL fun i ad=>Nat.le_of_eq (h i ad).symm)
theorem mc.congr{n:Nat}{A B kz:Nat->Nat->Rat}{L:Rat}{aU:List (Rat×List Int)}(h:mc n A L aU B)(e:∀i k,i<n->k<n->kz i k=B i k):mc n A L aU kz:=by
 refine⟨⟨fun i k ad ah=>by rw[e i k ad ah];exact h.kr.h3 i k ad ah,fun i ad=>?_,fun k ah=>?_⟩,h.parts,fun i k ad ah=>by rw[e i k ad ah];exact h.sum i k ad ah,?_,?_⟩
 ·rw[<-h.kr.row i ad];exact fK fun k ah=>e i k ad ah
 ·rw[<-h.kr.rD k ah];exact fK fun i ad=>e i k ad ah
 ·have:mS n kz=mS n B:=AK fun i ad=>AK fun k ah=>by rw[e i k ad ah]
  rw[this];exact h.mr
 ·obtain⟨a,b,t1,t2⟩:=h.E3
  exact⟨a,b,fun s an=>let⟨aT,aQ,bn,b8⟩:=t1 s an;⟨aT,aQ,bn,by rw[e _ _ aT aQ];exact b8⟩,t2⟩
def ks(f:Nat->Rat):Nat->Rat
 | 0=>f 0
 | n+1=>if f n<ks f n then f n else ks f n
theorem Wa(f:Nat->Rat){n i:Nat}(ad:i<n):ks f n<=f i:=by
 induction n with
 | zero=>omega
 | succ n aW=>
  simp only[ks]
  by_cases eX:i=n
  ·subst eX
   split
   ·exact Rat.le_refl
   ·rename_i h;exact Rat.not_lt.1 h
  ·have:=aW (by omega)
   split
   ·rename_i h;exact Rat.le_trans (Rat.le_of_lt h) this
   ·exact this
theorem Li(f:Nat->Rat)(n:Nat)(aE:0<n):∃i,i<n/\ks f n=f i:=by
 have key:∀n,∃i,(i<n\/i=0)/\ks f n=f i:=by
  intro n
  induction n with
  | zero=>exact⟨0,.inr rfl,rfl⟩
  | succ n aW=>
   obtain⟨i,o,aa⟩:=aW
   simp only[ks]
   split
   ·exact⟨n,.inl (by omega),rfl⟩
   ·exact⟨i,by omega,aa⟩
 obtain⟨i,o,aa⟩:=key n
 exact⟨i,by omega,aa⟩
def iC(H:ab)(v:Value)(p:Rat×List Int):Prop:=∃s1 b4 du cJ s2 dq dE db e9 jF e_,v= .agg #[.bool s1,.slice b4 du cJ,.bool s2,.slice dq dE db,.slice e9 jF e_]/\b3 H (.agg #[.bool s1,.slice b4 du cJ,.bool s2,.slice dq dE db]) p.1/\Row 3 1 false IR H (.slice e9 jF e_) p.2
instance:bJ iC:=⟨fun⟨s1,b4,du,cJ,s2,dq,dE,db,e9,jF,e_,h,o,aa⟩ I=>⟨s1,b4,du,cJ,s2,dq,dE,db,e9,jF,e_,h,o.ext I,bJ.ext (ae:=Row _ _ _ IR) aa I⟩⟩
theorem iC.iB{H:ab}{v:Value}{p:Rat×List Int}(h:iC H v p):Whole prog 68 v:=by
 obtain⟨s1,b4,du,cJ,s2,dq,dE,db,e9,jF,e_,rfl,-⟩:=h
 exact⟨by rfl,by simp[Value.cells,Value.oneCell'],by simp[eB]⟩
theorem iC.kept{H aC:ab}{e:Nat}{s v:Value}{p:Rat×List Int}(h:iC H v p)(ah:Kept H aC s e)(o:95≠e)(aa:3≠e):iC aC v p:=by
 obtain⟨s1,b4,du,cJ,s2,dq,dE,db,e9,jF,e_,rfl,aT,aQ⟩:=h
 exact⟨s1,b4,du,cJ,s2,dq,dE,db,e9,jF,e_,rfl,aT.kept ah o,aQ.kept ah aa fun _ _ h=>h⟩
theorem dR.other{α:Type}{k bh e R cH:Nat}{ay:Bool}{ae:ab->Value->α->Prop}{H aC:ab}{v s:Value}{t:List (List α)}{us:List Value}(h:dR k bh e R ay ae H v t us)(ah:Kept H aC s cH)(o:bh≠cH)(aa:e≠cH)(bl:∀u x,ae H u x->ae aC u x):dR k bh e R ay ae aC v t us:=
 ⟨h.pos,h.own.other ah o fun _ _ h=>h,h.len,fun i row u aT aQ=>(h.rows i row u aT aQ).other ah aa bl,h.o2⟩
theorem bz.a9{α:Type}{f:FuncId}{args:List Value}{H:ab}{k e R:Nat}{ay:Bool}{ae:ab->Value->α->Prop}{xs:List α}(h:aZ prog f args H (fun u H1=>Ext H H1/\bz k e R ay ae H1 u xs)):aZ prog f args H (fun u H1=>Ext H H1/\∃a c,u= .slice a xs.length c/\bz k e R ay ae H1 (.slice a xs.length c) xs):=
 h.mono fun u H1 ⟨I,aM⟩=>by
  obtain⟨a,c,rfl⟩:=aM.len
  exact⟨I,a,c,rfl,aM⟩
theorem xk{v:Value}{t:List (List Rat)}{eb:List Rat}{n:Nat}{H:ab}(ba:ho H v t)(aH:t[0]?=some eb)(aE:eb.length=n):aZ prog 44 [.agg #[v]] H (fun w H1=>Ext H H1/\w= .int .i64 n):=by
 subst aE
 exact Ee ba aH
theorem z5{v:Value}{t:List (List Rat)}{n:Nat}{H:ab}(ba:ho H v t)(aE:t.length=n):aZ prog 43 [.agg #[v]] H (fun w H1=>Ext H H1/\w= .int .i64 n):=by
 subst aE
 exact KS ba
theorem HG{a b:Rat}:((if a<b then(-1:Int)else if a=b then 0 else 1)<0)↔a<b:=by
 by_cases o:a<b
 ·simp[o]
 ·by_cases aa:a=b
  ·simp[aa]
  ·simp[o,aa]
theorem Yt{d:Nat}{x y:Operand}{r:List br}{F:Fr}{H:ab}{Q:Fr->ab->Prop}{q:Rat}{fC:List Int}{aw:a_ (eW d 68 [(0,x),(1,y)]::r) Q}(I:b3 H (aq F x) q)(aL:Row 3 1 false IR H (aq F y) fC)
  (K:∀u,iC H u (q,fC)->a8 prog r Q .mk (aY F d u) H):a8 prog (eW d 68 [(0,x),(1,y)]::r) Q aw F H:=by
 obtain⟨s1,b4,du,cJ,s2,dq,dE,db,ao,o,aa⟩:=e7.shape I
 obtain⟨e9,e_,hw⟩:=aL.len
 have bl:iC H (.agg #[.bool s1,.slice b4 du cJ,.bool s2,.slice dq dE db,.slice e9 fC.length e_]) (q,fC):=⟨s1,b4,du,cJ,s2,dq,dE,db,e9,_,e_,rfl,by rw[<-ao];exact I,by rw[<-hw];exact aL⟩
 have:=K _ bl
 simp[ao,hw]
 exact this
attribute [-simp] NZ
theorem eU.set{n m j:Nat}{t:List (List Rat)}{di:List Rat}(h:eU n m t)(aj:di.length=m):eU n m (t.set j di):=
 ⟨by simp[h.len],fun r b5=>by
  rcases List.mem_or_eq_of_mem_set b5 with b5 | rfl
  ·exact h.row r b5
  ·exact aj⟩
theorem hY.set{D j:Nat}{t:List (List Rat)}{di:List Rat}(h:hY D t)(aj:∀q∈di,eM D q):hY D (t.set j di):=fun r b5=>by
 rcases List.mem_or_eq_of_mem_set b5 with b5 | rfl
 ·exact h r b5
 ·exact aj
theorem H6{t:List (List Rat)}{r:List Rat}{j i:Nat}{x:Rat}(aI:t[j]?=some r)(ad:i<r.length)(dp bN:Nat):bM (t.set j (r.set i x)) dp bN=if dp=j/\bN=i then x else bM t dp bN:=by
 have fP:=(cc.1 aI).1
 unfold bM
 by_cases o:dp=j
 ·subst o
  rw[List.getElem?_set_self fP,aI]
  simp only[Option.getD_some,true_and]
  by_cases aa:bN=i
  ·subst aa;rw[List.getElem?_set_self ad];simp
  ·rw[List.getElem?_set_ne (by omega),if_neg aa]
 ·rw[List.getElem?_set_ne (by omega),if_neg (fun h=>o h.1)]
theorem WE{n:Nat}{B kz:Nat->Nat->Rat}(e:∀i k,i<n->k<n->kz i k=B i k):mS n kz=mS n B:=AK fun i ad=>AK fun k ah=>by rw[e i k ad ah]
theorem VG{H:ab}{b e:Nat}{l:Bool}{cs:List Value}{X:bB}(h:H[b]?=some (.own e l cs)):Kept H (H.set b X) (.slice (some ⟨b,0,none⟩) 0 0) e:=fun cb Y lL af=>by
 by_cases nu:b=cb
 ·subst nu
  rw[h]at lL
  exact absurd (by rw[<-Option.some.inj lL];rfl) (af ⟨0,0,0,rfl⟩)
 ·rw[List.getElem?_set_ne nu];exact lL
theorem hD.fresh{fh H:ab}{gK n:Nat}{gY gu f_ AM:Value}{t:List (List Rat)}{bS:List Int}{c6 cA:List Bool}(h:hD fh H gK n gY gu f_ t bS c6)(cV:bz fh.length 4 1 false k3 H AM cA):hD fh (H.set gK (.own 92 false [gY,gu,AM])) gK n gY gu AM t bS cA:=by
 have ah:=VG (X:= .own 92 false [gY,gu,AM]) h.eO
 exact⟨h.pos,h.ext.set h.xm (by simp),h.gN,h.uT,h.uN,h.small,h.xm,List.getElem?_set_self (cc.1 h.eO).1,h.nK.other ah (by decide) fun _ _ h=>h,cV.other ah (by decide) fun _ _ h=>h⟩
theorem hD.next{fh H:ab}{gK n sJ:Nat}{gY gu f_:Value}{t:List (List Rat)}{bS:List Int}{L:Rat}(ar:jJ n (bM t) L)(cg:0<L)(fb:mi n (bM t) sJ bS)(bu:sJ<n)(h:hD fh H gK n gY gu f_ t bS (List.replicate n false)):
  aZ prog 46 [.pointer (some ⟨gK,0,none⟩),.int .i64 sJ] H (fun u H1=>∃g5 cA,u= .bool true/\mi n (bM t) (sJ+1) g5/\hD fh H1 gK n gY gu f_ t g5 cA):=
 (find_spec n (n+1) (by unfold oM;rw[List.count_replicate];simp;) h (by simp) fb.ok bu).mono fun u H1 ⟨b,g5,cA,hu,bl,bE⟩=>by
  obtain⟨rfl,aa⟩:=mi.next ar.h3 ar.row ar.rD cg fb bu bl
  exact⟨g5,cA,hu,aa,bE⟩
theorem HY{v:Value}{t:List (List Rat)}{n N D:Nat}{L:Rat}{H:ab}(ba:ho H v t)(aJ:eU n n t)(aE:0<n)(pn:n<65536)(ar:jJ n (bM t) L)(aV:hY D t)(gq:k6 D N L):
  aZ prog 25 [.agg #[v]] H (fun u H1=>Ext H H1/\∃aU,rl n (bM t) L aU/\(∀p∈aU,eM D p.1)/\Row 68 5 true iC H1 u aU):=by
 refine aZ.cr fun Q aG=>?_
 have mH:=aJ.len
 apply U4 (by simp)
 obtain⟨a,c,rfl⟩:=Row.len ba
 simp[G2]
 have cn:Ext H (H++[.dead]):=Ext.dead H
 refine cN (ae:=iD) (xs:=t) (by simpa using ba.ext cn) (by simp) ?_
 simp
 obtain⟨jk,II⟩:∃jk,jk=H++[bB.dead]:=⟨_,rfl⟩
 have vI:0<jk.length:=by rw[II];simp
 rw[<-II]at cn⊢
 have QL:=ba.ext cn
 refine dx.range (by kernel_rfl) t.length (by omega) (by simp) (by rfl) (by simp) (by decide) (by decide) (fun i bV dz a0=>Ext jk a0/\∃us,dR jk.length 84 44 4 true b3 a0 (bV 3) (t.take i) us) ?_ ?_ ?_
 ·exact⟨Ext.refl _,[],by simpa using dR.nil _ _ _ _ _ _ _ vI⟩
 ·rintro i bV dz a0 ad a2 ⟨bx,us,gU⟩ K a1
  simp at a2 gU
  simp[a2]
  obtain⟨row,dr⟩:∃row,t[i]?=some row:=⟨_,bt ad⟩
  have wQ:=aJ.row row (List.mem_of_getElem? dr)
  refine cI (ae:=iD) (xs:=t) (n:=i) (a:=row) (e:=84) (R:=1) (ay:=false) (by simpa using bJ.ext QL bx) (by simp[a2]) dr (by simp) (by simp) (by simp) (by decide) ?_
  intro dF Fh ov
  simp
  refine a4.mk (Oi ov (by omega)) ?_
  rintro w bZ ⟨bL,hw⟩
  have P2:=Ext.len bx
  have v7:=dR.ext gU bL
  have qJ:=hw.le P2
  have TK:=hw.iB
  refine AT (k:=jk.length) (e:=84) (R:=1) (ay:=false) (bs:=24) (z:= .slice none 0 0) (ae:=fM) (xs:=us) (a:=w) (by simpa using v7.own) (by simp[fM]) (by simpa using TK) (by simp) (fun _ _ _ _ _ h=>h) (by simp) (by simp) (by simp) (by simp) (by simp) (by rfl) (by rfl) (by rfl) (by rfl) (by decide) (by decide) (by decide) (by have:=gU.len;simp at this;omega) (by have:=Ext.len bL;omega) ?_
  intro oD u3 cy g0 cz kn qt r5
  simp at kn qt
  have qG:=dR.snoc (cx:=a0) (nM:=a0.length) v7 (fun b aH af=>(hw.ge af aH).1) (fun j u b hu af aH=>gU.lt j u b hu af aH) (by decide) qJ g0 kn (fun u x h=>h.kept kn (by decide))
  simp
  refine a1 _ _ _ (by simp[a2]) ⟨cz _ (Nat.le_refl _) (bx.az bL),us++[w],?_⟩
  rw[List.take_succ_eq_append_getElem ad]
  have:t[i]=row:=(cc.1 dr).2
  rw[this]
  simpa using qG
 ·rintro bV dz Be a2 ⟨KE,us,yX⟩
  simp at yX
  obtain⟨dS,lc,pg⟩:=yX.own.len
  have PU:=Ext.len KE
  obtain⟨hf,mC⟩:∃hf,hf=Value.slice dS us.length lc:=⟨_,rfl⟩
  rw[pg,<-mC]at yX
  simp[pg]
  rw[<-mC]
  obtain⟨Bf,IJ⟩:∃Bf,Bf=Be++[bB.dead]:=⟨_,rfl⟩
  have KF:Ext Be Bf:=by rw[IJ];exact Ext.dead Be
  rw[<-IJ]
  refine dx.mk (by kernel_rfl) (fun w dQ fr bZ=>∃hj us aU,w=mS n (bM hj)/\Ext jk bZ/\dR jk.length 84 44 4 true b3 bZ hf hj us/\bz jk.length 68 5 true iC bZ (dQ 7) aU/\eU n n hj/\hY D hj/\mc n (bM t) L aU (bM hj)/\(∀p∈aU,eM D p.1)) (mS n (bM t)) ?_ ?_
  ·exact⟨t,us,[],rfl,KE.az KF,yX.ext KF,by simpa using bz.nil _ _ _ _ _ _,aJ,aV,mc.zero ar,by simp⟩
  ·rintro w dQ fr bZ ⟨hj,aal,aU,rfl,bL,v7,Cn,rX,pd,kO,zs⟩ K a1
   obtain⟨eb,eP,ot,qE,J7,wP⟩:=rX.at aE
   simp at Cn
   simp
   have B8:k6 D N (L-eC aU):=gq.le (by have:=(An fun p aR=>(kO.parts p aR).1).1;grind)
   have Ka:=EZ rX pd B8 (fun i k ad ah=>kO.kr.h3 i k ad ah) fun i ad=>by rw[kO.kr.row i ad];exact Rat.le_refl
   have Cr:ho bZ hf hj:=v7.row
   have yK:=rX.len
   refine a4.mk (pF (j:=0) Cr eP (by omega) (by omega) (Ka eb ot).1 (Ka eb ot).2 gq.bits) ?_
   rintro uO bP ⟨b0,mF⟩
   rw[wP,kO.kr.row 0 aE]at mF
   simp
   refine a4.mk (Ez mF) ?_
   rintro u ca ⟨c1,rfl⟩
   have px:=b0.az c1
   simp
   refine bG.cE (fun ag=>?_) (fun ag=>?_)
   ·have Qh:0<L-eC aU:=by
     have:¬(L-eC aU<=0):=fun h=>by have:=xM.2 h;omega
     exact Rat.not_le.1 this
    simp
    refine AQ (e:=3) (R:=1) (ay:=false) (z:= .int .i64 0) (ae:=IR) (a:= -1) (fun aC _=>by simp[IR]) (by simpa using kd (-1)) (by simp) (by simp) (by simp) (by rfl) (by rfl) (by rfl) (by decide) (by decide) ?_
    intro agH dU o8 cD
    simp
    have QD:=ho.ext Cr (px.az cD)
    refine a4.mk (xk QD eP qE) ?_
    rintro u cy ⟨cz,rfl⟩
    refine⟨cz,?_⟩
    simp
    refine a4.mk (bz.a9 (L_ (ae:=IR) (bJ.ext (ae:=Row _ _ _ IR) o8.row cz) pn (fun H u y h=>by rw[h];exact kd y) (fun _ _ _ _ _ _ h=>h))) ?_
    rintro _ eG ⟨dh,lY,lZ,rfl,e2⟩
    refine⟨dh,?_⟩
    simp
    have KA:=cD.az (cz.az dh)
    have ad8:=Ext.len cD
    have Se:=Ext.len KA
    have KC:Ext eG (eG++[.own 92 false [hf,.slice lY n lZ,.slice none 0 0]]):=(Ext.refl eG).snoc _ _ _
    have ad9:=Ext.len cz
    have Cg:hD ca (eG++[.own 92 false [hf,.slice lY n lZ,.slice none 0 0]]) eG.length n hf (.slice lY n lZ) (.slice none 0 0) hj (List.replicate n (-1)) []:=
     ⟨by have:=Ext.len px;have:=Ext.len bL;omega,KA.az KC,ho.ext Cr px,yK,rX.row,pn,Se,by simp,bJ.ext (ae:=bz _ _ _ _ IR) (by simpa using e2.le (bN:=ca.length) (by omega)) KC,bz.nil _ _ _ _ _ _⟩
    have QE:=Cg.gN.ext Cg.ext
    refine a4.mk (z5 QE yK) ?_
    rintro u mg ⟨fI,rfl⟩
    have Qi:=Cg.more fI
    simp
    refine dx.range (by kernel_rfl) n (by omega) (by simp) (by rfl) (by simp) (by decide) (by decide) (fun sJ pX sW hM=>∃bS f_ c6,hD ca hM eG.length n hf (.slice lY n lZ) f_ hj bS c6/\mi n (bM hj) sJ bS) ?_ ?_ ?_
    ·exact⟨_,_,_,Qi,mi.zero _ _⟩
    ·rintro sJ pX sW hM Tp yL ⟨bS,f_,c6,o7,yQ⟩ FI nq
     simp at yL
     have Cq:=o7.gN.ext o7.ext
     simp[yL]
     refine a4.mk (xk Cq eP qE) ?_
     rintro u hW ⟨hc,rfl⟩
     have rO:=o7.more hc
     have JK:=Ext.len rO.ext
     refine xU (e:=4) (R:=1) (bs:=1) (ay:=false) (n:=n) (eg:= .i64) (cB:= .i64) (z:= .bool false) (ae:=k3) (a:=false) (by simp) (by simp) (by simp) (by rfl) (by rfl) (by simp) (A6 false) (by simp) (by simp) (by decide) (by decide) (by omega) (fun aC=>rfl) ?_
     intro aeI iv k7 jR hS
     have nr:=rO.more hS
     have y7:=nr.eO
     have Qj:=nr.fresh (jR.le JK)
     simp[y7]
     refine a4.mk (hD.next kO.kr Qh yQ Tp Qj) ?_
     rintro u rn ⟨g5,cA,rfl,Qm,Qk⟩
     exact nq _ _ _ (by simp[yL]) ⟨g5,_,cA,Qk,Qm⟩
    ·rintro pX sW hM yL ⟨bS,f_,c6,o7,yQ⟩
     have Rp:=o7.eO
     have j3:=yQ.perm.1
     have ht:=yQ.perm.2
     refine Exists.elim (j3.dB 0 aE) fun z4 aI=>?_
     have tT:=aI.1
     have JN:=aI.2
     refine Exists.elim (rX.get tT aE) fun Ma aj=>?_
     have S3:=aj.1
     have S4:=aj.2.1
     have Cq:=o7.gN.ext o7.ext
     simp[Rp]
     refine cI (ae:=IR) (xs:=bS) (n:=0) (a:=(z4:Int)) (e:=3) (R:=1) (ay:=false) (by simpa using o7.nK.row) (by simp) JN (by simp) (by simp) (by simp) (by decide) ?_
     rintro xw M7 rfl
     refine cI (ae:=iD) (xs:=hj) (n:=z4) (a:=Ma) (e:=84) (R:=1) (ay:=false) (by simpa using Cq) (by simp) S3 (by simp) (by simp) (by simp) (by decide) ?_
     intro uE E9 DA
     refine cI (ae:=b3) (xs:=Ma) (n:=0) (a:=bM hj z4 0) (e:=44) (R:=4) (ay:=true) (by simpa using DA) (by simp) S4 (by simp) (by simp) (by simp) (by decide) ?_
     intro Am E_ zQ
     simp
     refine ew.mk zQ.whole ?_
     have rO:=o7.more (Ext.dead hM)
     have Rq:=rO.eO
     have fP:bS.length=n:=j3.len
     simp[Rq]
     refine cN (ae:=IR) (xs:=bS) (by simpa using rO.nK.row) (by simp) ?_
     simp[fP]
     refine Exists.elim (⟨fun k=>bM hj (bS[k]?.getD 0).toNat k,rfl⟩:∃f:Nat->Rat,f=fun k=>bM hj (bS[k]?.getD 0).toNat k) fun f ax=>?_
     have RM:f 0=bM hj z4 0:=by rw[ax];simp[JN]
     have za:∀k j:Nat,bS[k]?=some (j:Int)->f k=bM hj j k:=fun k j h=>by rw[ax];simp[h]
     have nA:∀k,k<n->c4 N (f k):=fun k ah=>by
      obtain⟨j,aT,aQ⟩:=j3.dB k ah
      rw[za k j aQ]
      exact B8.R (pd.bM j k) (kO.kr.h3 j k aT ah) (kO.kr.le aT ah)
     have wH:∀k,k<=n->c4 N (ks f k):=fun k ah=>by
      by_cases om:k=0
      ·subst om;exact nA 0 aE
      ·obtain⟨i,aT,aQ⟩:=Li f k (by omega)
       rw[aQ];exact nA i (by omega)
     refine dx.range (by kernel_rfl) n (by omega) (by simp) (by rfl) (by simp) (by decide) (by decide) (fun i Fz x9 k7=>Ext (hM++[.dead]) k7/\b3 k7 (x9 11) (ks f i)) ?_ ?_ ?_
     ·refine⟨Ext.refl _,?_⟩
      simp only[ks,RM]
      simpa using zQ.ext (Ext.dead hM)
     ·rintro i Fz x9 k7 ad tr ⟨hS,pj⟩ NJ qi
      simp at tr pj
      refine bU.join (by kernel_rfl) (fun NC FE rn=>Ext k7 rn/\b3 rn (FE 11) (ks f (i+1))) ?_ ?_
      ·rintro abY IS-
       have nr:=rO.more hS
       have QC:=nr.gN.ext nr.ext
       refine Exists.elim (j3.dB i ad) fun j aI=>?_
       have pe:=aI.1
       have lv:=aI.2
       have CY:=za i j lv
       refine Exists.elim (rX.get pe ad) fun j_ aj=>?_
       simp[tr]
       refine cI (ae:=IR) (xs:=bS) (n:=i) (a:=(j:Int)) (e:=3) (R:=1) (ay:=false) (by simpa using nr.nK.row) (by simp[tr]) lv (by simp) (by simp) (by simp) (by decide) ?_
       rintro Ep Fa rfl
       simp[tr]
       refine cI (ae:=iD) (xs:=hj) (n:=j) (a:=j_) (e:=84) (R:=1) (ay:=false) (by simpa using QC) (by simp) aj.1 (by simp) (by simp) (by simp) (by decide) ?_
       intro LH u16 Ts
       simp
       refine cI (ae:=b3) (xs:=j_) (n:=i) (a:=bM hj j i) (e:=44) (R:=4) (ay:=true) (by simpa using Ts) (by simp) aj.2.1 (by simp) (by simp) (by simp) (by decide) ?_
       intro xx aaf zR
       simp
       refine ew.mk zR.whole ?_
       simp
       have gV:=Ext.dead k7
       have hR:=nA i ad
       rw[CY]at hR
       refine a4.mk (uH (zR.ext gV) (pj.ext gV) hR (wH i (by omega)) gq.bits) ?_
       rintro w jj ⟨iM,rfl⟩
       simp
       refine bG.cE (fun ag=>?_) (fun ag=>?_)
       ·have a5:=HG.1 ag
        simp
        refine ew.mk zR.whole ?_
        refine IS _ _ _ ⟨gV.az iM,?_⟩
        simp only[ks,CY,if_pos a5]
        simpa using zR.ext (gV.az iM)
       ·have a5:=fun h=>ag (HG.2 h)
        refine IS _ _ _ ⟨gV.az iM,?_⟩
        simp only[ks,CY,if_neg a5]
        simpa using pj.ext (gV.az iM)
      ·rintro NC FE rn ⟨mM,St⟩
       exact qi _ _ _ (by simp[tr]) ⟨hS.az mM,by simpa using St⟩
     ·rintro Fz x9 k7 tr ⟨hS,pj⟩
      simp at pj
      have nr:=rO.more hS
      have y7:=nr.eO
      have DP:=px.az nr.ext
      have rQ:=v7.ext DP
      have Qy:=bJ.ext (ae:=bz jk.length 68 5 true iC) Cn DP
      have PZ:=bL.az DP
      refine Exists.elim (⟨(ks f n,bS),rfl⟩:∃p:Rat×List Int,p=(ks f n,bS)) fun p aR=>?_
      have r9:p.1=ks f n:=by rw[aR]
      have qD:p.2=bS:=by rw[aR]
      have zk:∀k j:Nat,k<n->p.2[k]?=some (j:Int)->p.1<=bM hj j k:=fun k j ah aI=>by
       rw[qD]at aI
       rw[r9,<-za k j aI]
       exact Wa f ah
      have lo:∃k j:Nat,k<n/\j<n/\p.2[k]?=some (j:Int)/\p.1=bM hj j k:=by
       obtain⟨k,ah,e⟩:=Li f n aE
       obtain⟨j,aT,aQ⟩:=j3.dB k ah
       exact⟨k,j,ah,aT,by rw[qD];exact aQ,by rw[r9,e];exact za k j aQ⟩
      have JX:0<p.1:=by
       obtain⟨k,j,ah,aI,aT,aQ⟩:=lo
       rw[aQ]
       exact ht k j ah (by rw[<-qD];exact aT)
      have J0:eM D p.1:=by
       obtain⟨k,j,ah,aI,aT,aQ⟩:=lo
       rw[aQ]
       exact pd.bM j k
      have oq:c4 N p.1:=by rw[r9];exact wH n (Nat.le_refl n)
      simp[y7]
      refine cN (ae:=IR) (xs:=bS) (by simpa using nr.nK.row) (by simp) ?_
      simp[fP]
      refine dx.range (by kernel_rfl) n (by omega) (by simp) (by rfl) (by simp) (by decide) (by decide) (fun i FB FF nV=>∃kA sP,Ext jk nV/\dR jk.length 84 44 4 true b3 nV hf kA sP/\bz jk.length 68 5 true iC nV (dQ 7) aU/\Row 3 1 false IR nV (.slice lY n lZ) bS/\b3 nV (x9 11) p.1/\nV[eG.length]?=some (.own 92 false [hf,.slice lY n lZ,f_])/\eU n n kA/\hY D kA/\∀j k,j<n->k<n->bM kA j k=if k<i then jf (bM hj) p j k else bM hj j k) ?_ ?_ ?_
      ·exact⟨hj,aal,PZ,rQ,Qy,nr.nK.row,by rw[r9];exact pj,y7,rX,pd,fun j k _ _=>by simp⟩
      ·rintro i FB FF nV ad ts ⟨kA,sP,qM,v3,Cl,yN,zM,CM,y8,wz,wx⟩ abZ Qc
       simp at ts
       refine Exists.elim (j3.dB i ad) fun j aI=>?_
       have pe:=aI.1
       have lv:=aI.2
       refine Exists.elim (y8.get pe ad) fun j_ aj=>?_
       refine Exists.elim (v3.oH aj.1) fun u2 hu=>?_
       have I6:=v3.own.row
       simp[ts]
       refine cI (ae:=IR) (xs:=bS) (n:=i) (a:=(j:Int)) (e:=3) (R:=1) (ay:=false) (by simpa using yN) (by simp[ts]) lv (by simp) (by simp) (by simp) (by decide) ?_
       rintro aeO af5 rfl
       simp[ts]
       refine cI (ae:=fM) (xs:=sP) (n:=j) (a:=u2) (e:=84) (R:=1) (ay:=false) (by simpa using I6) (by simp) hu.1 (by simp) (by simp) (by simp) (by decide) ?_
       rintro Wt Fb rfl
       simp
       refine cI (ae:=fM) (xs:=sP) (n:=j) (a:=Fb) (e:=84) (R:=1) (ay:=false) (by simpa using I6) (by simp) hu.1 (by simp) (by simp) (by simp) (by decide) ?_
       rintro Wu aag rfl
       simp
       refine cI (ae:=b3) (xs:=j_) (n:=i) (a:=bM kA j i) (e:=44) (R:=4) (ay:=true) (by simpa using hu.2.row) (by simp) aj.2.1 (by simp) (by simp) (by simp) (by decide) ?_
       intro Wv aah DB
       simp
       have Jl:bM kA j i=bM hj j i:=by rw[wx j i pe ad,if_neg (Nat.lt_irrefl i)]
       have Ta:c4 N (bM kA j i):=by rw[Jl];exact B8.R (pd.bM j i) (kO.kr.h3 j i pe ad) (kO.kr.le pe ad)
       refine a4.mk (EA DB zM Ta oq gq.bits) ?_
       rintro w Bc ⟨h1,hw⟩
       refine⟨h1,?_⟩
       have Cx:=v3.ext h1
       have Cj:=bJ.ext (ae:=bz jk.length 44 4 true b3) hu.2 h1
       refine iR (k:=jk.length) (e:=44) (R:=4) (ay:=true) (n:=i) (ae:=b3) (xs:=j_) (a:=bM kA j i-p.1) (by simpa using Cj) (by simp) (by rw[aj.2.2];exact ad) (by simpa using hw) (by simpa using hw.whole) (by simp) (fun aC c_ u y ah h=>h.kept ah (by decide)) (by simp) (by simp) (by simp) (by decide) ?_
       rintro Ww Bd vV DO mB Sd-
       simp at vV mB
       have ah:∀u x,b3 Bc u x->b3 Bd u x:=fun u x h=>h.kept mB (by decide)
       simp
       refine Qc _ _ _ (by simp[ts]) ⟨kA.set j (j_.set i (bM kA j i-p.1)),sP,?_,Cx.inner hu.1 (by decide) mB vV ah,?_,?_,ah _ _ (zM.ext h1),?_,?_,?_,?_⟩
       ·exact DO _ (Nat.le_refl _) (qM.az h1)
       ·exact(bJ.ext (ae:=bz jk.length 68 5 true iC) Cl h1).other mB (by decide) fun u x h=>h.kept mB (by decide) (by decide)
       ·exact(bJ.ext (ae:=Row _ _ _ IR) yN h1).kept mB (by decide) fun _ _ h=>h
       ·exact mB _ _ (h1.get_some CM) fun _=>by simp[bB.elem?]
       ·exact y8.set (by rw[List.length_set];exact aj.2.2)
       ·refine wz.set fun q au=>?_
        rcases List.mem_or_eq_of_mem_set au with au | rfl
        ·exact wz j_ (List.mem_of_getElem? aj.1) q au
        ·exact(wz.bM j i).sub J0
       ·intro dp bN ju ij
        rw[H6 aj.1 (by rw[aj.2.2];exact ad)]
        have r_:p.2[i]?=some (j:Int):=by rw[qD];exact lv
        by_cases eY:bN=i
        ·subst eY
         rw[if_pos (Nat.lt_succ_self _)]
         by_cases JG:dp=j
         ·subst JG
          rw[if_pos ⟨rfl,rfl⟩,Jl]
          unfold jf gj
          rw[if_pos r_]
         ·rw[if_neg (fun h=>JG h.1),wx dp bN ju ij,if_neg (Nat.lt_irrefl _)]
          unfold jf gj
          rw[r_,if_neg (by simp;omega)]
          grind
        ·rw[if_neg (fun h=>eY h.2),wx dp bN ju ij]
         by_cases a5:bN<i
         ·rw[if_pos a5,if_pos (by omega)]
         ·rw[if_neg a5,if_neg (by omega)]
      ·rintro FB FF nV ts ⟨kA,sP,qM,v3,Cl,yN,zM,CM,y8,wz,wx⟩
       have he:∀j k,j<n->k<n->bM kA j k=jf (bM hj) p j k:=fun j k aI ah=>by rw[wx j k aI ah,if_pos ah]
       have JZ:hE n p.2:=by rw[qD];exact j3
       have Sk:=kO.kr.less JZ JX zk lo
       have Sx:=(kO.next JZ JX zk lo).congr he
       have SL:=WE he
       have rZ:aU.length<=n*n:=by have:=kO.mr;have:=LP n (bM t);omega
       have r7:n*n<=65536*65536:=Nat.mul_le_mul (by omega) (by omega)
       have adJ:=Ext.len qM
       simp[CM]
       refine Yt (q:=p.1) (fC:=p.2) (by simpa using zM) (by rw[qD];simpa using yN) ?_
       intro af6 Kh
       refine ra (k:=jk.length) (e:=68) (R:=5) (ay:=true) (bs:=88) (z:= .agg #[.bool false,.slice none 0 0,.bool false,.slice none 0 0,.slice none 0 0]) (ae:=iC) (xs:=aU) (a:=p) (by simpa using Cl) (by simpa using Kh) (by simpa using Kh.iB) (by simp) (fun aC c_ u y ah h=>h.kept ah (by decide) (by decide)) (by simp) (by simp) (by simp) (by simp) (by simp) (by rfl) (by rfl) (by first | rfl | simp[flat,gD]) (by rfl) (by decide) (by decide) (by decide) (by omega) (by omega) ?_
       intro aeP agx abW Qt ui C7
       simp at C7
       simp
       refine a1 (mS n (bM kA)) _ _ _ (by rw[SL];exact Sk.2) ⟨kA,sP,aU++[p],rfl,ui _ (Nat.le_refl _) qM,v3.other C7 (by decide) (by decide) fun u x h=>h.kept C7 (by decide),by simpa using Qt,y8,wz,Sx,?_⟩
       intro q au
       rcases List.mem_append.1 au with au | au
       ·exact zs q au
       ·rw[List.mem_singleton.1 au];exact J0
   ·have Qg:¬0<L-eC aU:=fun h=>ag (by
     have:¬(L-eC aU<=0):=Rat.not_le.2 h
     have:=mt xM.1 this
     omega)
    simp[bj]
    exact aG _ _ ⟨cn.az (bL.az px),aU,kO.end aE Qg,zs,(bJ.ext (ae:=bz jk.length 68 5 true iC) Cn px).row⟩
end Go.b_
end
section
set_option maxRecDepth 8000
set_option maxHeartbeats 1000000
namespace Go.b_
open Go.Proofs
open Go.Proofs.Try (prog)
attribute [-simp] fL gO hK
def gz(n m:Nat)(t:List (List Rat)):Rat:=if(dy (dT t) n).1<(dy (dT (fw m t)) m).1 then(dy (dT (fw m t)) m).1 else(dy (dT t) n).1
theorem MF{n m:Nat}{t:List (List Rat)}:(dy (dT t) n).1<=gz n m t/\(dy (dT (fw m t)) m).1<=gz n m t:=by
 unfold gz
 split
 ·rename_i h;exact⟨Rat.le_of_lt h,Rat.le_refl⟩
 ·rename_i h;exact⟨Rat.le_refl,Rat.not_lt.1 h⟩
theorem eU.fw{n m:Nat}{t:List (List Rat)}(h:eU n m t):eU m n (fw m t):=by
 refine⟨by simp[Go.b_.fw],fun r aj=>?_⟩
 unfold Go.b_.fw at aj
 rw[List.mem_map]at aj
 obtain⟨k,-,rfl⟩:=aj
 simp[ia,h.len]
theorem tj{n m:Nat}{t:List (List Rat)}(h:eU n m t){i k:Nat}(ad:i<n)(ah:k<m):bM (fw m t) k i=bM t i k:=by
 unfold bM fw
 rw[List.getElem?_map,List.getElem?_range ah]
 simp only[Option.map_some,Option.getD_some]
 unfold ia
 rw[List.getElem?_map]
 obtain⟨r,aT,-⟩:=h.at ad
 rw[aT]
 rfl
theorem hY.fw{D m:Nat}{t:List (List Rat)}(h:hY D t):hY D (fw m t):=fun r aj q au=>by
 unfold Go.b_.fw at aj
 rw[List.mem_map]at aj
 obtain⟨k,-,rfl⟩:=aj
 unfold ia at au
 rw[List.mem_map]at au
 obtain⟨di,fo,rfl⟩:=au
 cases ah:di[k]? with
 | none=>exact eM.zero D
 | some y=>exact h di fo y (List.mem_of_getElem? ah)
theorem xD{n m:Nat}{t:List (List Rat)}(h:eU n m t){i:Nat}(ad:i<n):dT t i=bw m (bM t i):=by
 obtain⟨r,aT,-,-,-,eD⟩:=h.at ad
 rw[<-eD,dT,aT]
 rfl
theorem MI{n m:Nat}{t:List (List Rat)}(h:eU n m t){i:Nat}(ad:i<n):bw m (bM t i)<=gz n m t:=by
 rw[<-xD h ad];exact Rat.le_trans (Aa _ ad) MF.1
theorem MH{n m:Nat}{t:List (List Rat)}(h:eU n m t){k:Nat}(ah:k<m):bw n (fun i=>bM t i k)<=gz n m t:=by
 have e:bw n (fun i=>bM t i k)=dT (fw m t) k:=by
  rw[xD h.fw ah]
  exact fK fun i ad=>(tj h ad ah).symm
 rw[e];exact Rat.le_trans (Aa _ ah) MF.2
def e6(n:Nat):List Rat:=List.replicate n 0
def nP(n m:Nat)(t:List (List Rat))(top:Rat)(i:Nat):List Rat:=((t[i]?.getD [])++e6 n).set (m+i) (top-bw m (bM t i))
def q3(n m:Nat)(t:List (List Rat))(top:Rat)(k:Nat):List Rat:=(e6 m++ia t k).set k (top-bw n (fun i=>bM t i k))
theorem Iq(n k:Nat):(e6 n)[k]?.getD 0=0:=by
 unfold e6
 rw[List.getElem?_replicate]
 split<;>rfl
theorem Xc{n m:Nat}{t:List (List Rat)}{top:Rat}(h:eU n m t){i k:Nat}(ad:i<n)(ah:k<n+m):(nP n m t top i)[k]?.getD 0=gy n m (bM t) top i k:=by
 obtain⟨r,aT,-,bn,b8,-⟩:=h.at ad
 unfold nP gy
 rw[aT]
 simp only[Option.getD_some,if_pos ad]
 by_cases ik:k<m
 ·rw[if_pos ik,List.getElem?_set_ne (by omega),List.getElem?_append_left (by omega),b8]
 ·rw[if_neg ik]
  by_cases eY:k=m+i
  ·subst eY
   rw[if_pos rfl,List.getElem?_set_self (by simp[e6];omega)]
   rfl
  ·rw[if_neg eY,List.getElem?_set_ne (by omega),List.getElem?_append_right (by omega),Iq]
theorem Xd{n m:Nat}{t:List (List Rat)}{top:Rat}(h:eU n m t){i k:Nat}(ad:i<m)(ah:k<n+m):(q3 n m t top i)[k]?.getD 0=gy n m (bM t) top (n+i) k:=by
 unfold q3 gy
 rw[if_neg (by omega)]
 have pB:(e6 m).length=m:=by simp[e6]
 rw[Nat.add_sub_cancel_left]
 by_cases ik:k<m
 ·rw[if_pos ik]
  by_cases eY:k=i
  ·subst eY
   rw[if_pos rfl,List.getElem?_set_self (by simp[e6];omega)]
   rfl
  ·rw[if_neg eY,List.getElem?_set_ne (by omega),List.getElem?_append_left (by omega),Iq]
 ·rw[if_neg ik,List.getElem?_set_ne (by omega),List.getElem?_append_right (by omega),pB]
  have:(ia t i)[k-m]?.getD 0=bM (fw m t) i (k-m):=by simp[bM,fw,List.getElem?_range ad]
  rw[this,tj h (by omega) ad]
theorem abO{n m:Nat}{r:List Rat}(h:r.length=m):(e6 (n+m)).take 0++r.take (n+m)++(e6 (n+m)).drop (0+(r.take (n+m)).length)=r++e6 n:=by
 rw[List.take_of_length_le (l:=r) (by omega),h]
 simp[e6]
theorem abP{n m:Nat}{r:List Rat}(h:r.length=n):(e6 (n+m)).take m++r.take n++(e6 (n+m)).drop (m+(r.take n).length)=e6 m++r:=by
 rw[List.take_of_length_le (l:=r) (by omega),h]
 have:n+m-(m+n)=0:=by omega
 simp[e6,this]
theorem E0{t:List (List Rat)}{S i:Nat}{r:List Rat}{f tk:Nat->List Rat}(ar:t.length=S)(ad:i<S)(h:∀a,a<S->t[a]?=some (f a))(aj:tk i=r)(ax:∀a,a<S->a≠i->tk a=f a):(t.set i r).length=S/\∀a,a<S->(t.set i r)[a]?=some (tk a):=by
 refine⟨by simp[ar],fun a aF=>?_⟩
 by_cases jU:a=i
 ·subst jU;rw[List.getElem?_set_self (by omega),aj]
 ·rw[List.getElem?_set_ne (by omega),h a aF,ax a aF jU]
theorem Ya{n m D:Nat}{t:List (List Rat)}(h:eU n m t)(aE:0<n)(hm:0<m)(aV:hY D t):eM D (gz n m t):=by
 have key:∀{n m:Nat} {t:List (List Rat)},eU n m t->0<n->hY D t->eM D (dy (dT t) n).1:=fun{n m t} h aE aV=>by
  obtain⟨aT,aQ⟩:=xo (dT t) n
  rw[aT,xD h (by omega)]
  exact eM.sum fun k _=>aV.bM _ k
 unfold gz
 split
 ·exact key h.fw hm aV.fw
 ·exact key h aE aV
theorem XW{n m D:Nat}{t:List (List Rat)}(aV:hY D t){top:Rat}(bu:eM D top)(i k:Nat):eM D (gy n m (bM t) top i k):=by
 unfold gy
 split
 ·split
  ·exact aV.bM i k
  ·split
   ·exact bu.sub (eM.sum fun j _=>aV.bM i j)
   ·exact eM.zero D
 ·split
  ·split
   ·exact bu.sub (eM.sum fun j _=>aV.bM j k)
   ·exact eM.zero D
  ·exact aV.bM _ _
theorem XX{n m D:Nat}{t B:List (List Rat)}{top:Rat}(aJ:eU n m t)(aV:hY D t)(bu:eM D top)(bR:B.length=n+m)(kj:∀a,a<n+m->B[a]?=some (if a<n then nP n m t top a else if a<n+m then q3 n m t top (a-n)else e6 (n+m))):
  eU (n+m) (n+m) B/\hY D B/\∀i k,i<n+m->k<n+m->bM B i k=gy n m (bM t) top i k:=by
 have he:∀i k,i<n+m->k<n+m->bM B i k=gy n m (bM t) top i k:=fun i k ad ah=>by
  unfold bM
  rw[kj i ad]
  simp only[Option.getD_some]
  by_cases o:i<n
  ·rw[if_pos o];exact Xc aJ o ah
  ·rw[if_neg o,if_pos ad]
   have:=Xd (top:=top) aJ (i:=i-n) (by omega) ah
   rw[show n+(i-n)=i by omega]at this
   exact this
 have hq:eU (n+m) (n+m) B:=⟨bR,fun r aj=>by
  obtain⟨a,aF⟩:=List.mem_iff_getElem?.1 aj
  have rU:a<n+m:=by have:=(cc.1 aF).1;omega
  rw[kj a rU]at aF
  simp only[Option.some.injEq]at aF
  rw[<-aF]
  by_cases o:a<n
  ·rw[if_pos o]
   obtain⟨di,aT,-,bn,-⟩:=aJ.at o
   simp[nP,aT,bn,e6];omega
  ·rw[if_neg o,if_pos rU]
   simp[q3,e6,ia,aJ.len];omega⟩
 refine⟨hq,fun r aj q au=>?_,he⟩
 obtain⟨i,ad,j4⟩:=hq.mem aj
 obtain⟨di,aT,-,bn,b8,-⟩:=hq.at ad
 have:di=r:=by rw[j4]at aT;exact(Option.some.inj aT).symm
 subst this
 obtain⟨k,ah⟩:=List.mem_iff_getElem?.1 au
 have ja:k<n+m:=by have:=(cc.1 ah).1;omega
 have:=b8 k
 rw[ah]at this
 simp only[Option.getD_some]at this
 rw[this,he i k ad ja]
 exact XW aV bu i k
theorem XY{v:Value}{t:List (List Rat)}{n m N D:Nat}{H:ab}(ba:ho H v t)(aJ:eU n m t)(aE:0<n)(hm:0<m)(pn:n<10000)(ua:m<10000)(aH:∀i k,i<n->k<m->0<=bM t i k)(aV:hY D t)(gq:k6 D N (gz n m t)):
  aZ prog 70 [.agg #[v]] H (fun u H1=>Ext H H1/\∃w s,u= .agg #[w]/\ho H1 w s/\eU (n+m) (n+m) s/\hY D s/\∀i k,i<n+m->k<n+m->bM s i k=gy n m (bM t) (gz n m t) i k):=by
 refine aZ.cr fun Q aG=>?_
 have mH:=aJ.len
 obtain⟨eb,eP,ot,qE,J7,wP⟩:=aJ.at aE
 have j5:∀r∈t,r.length<65536:=fun r h=>by have:=aJ.row r h;omega
 have wX:=EZ aJ aV gq aH fun i ad=>MI aJ ad
 have tP:=aJ.fw
 have wB:hY D (fw m t):=aV.fw
 have wW:=EZ tP wB gq (fun k i ah ad=>by rw[tj aJ ad ah];exact aH i k ad ah) fun k ah=>by
  have:=MH aJ ah
  rw[fK fun i ad=>tj aJ ad ah]
  exact this
 apply Va (by simp)
 obtain⟨a,c,rfl⟩:=Row.len ba
 simp[G7]
 have cn:Ext H (H++[.dead,.dead]):=Ext.more H (by simp)
 refine a4.mk (z5 (ba.ext cn) mH) ?_
 rintro u H1 ⟨bH,rfl⟩
 refine⟨bH,?_⟩
 simp
 refine a4.mk (xk (ba.ext (cn.az bH)) eP qE) ?_
 rintro u a0 ⟨bx,rfl⟩
 have mL:=cn.az (bH.az bx)
 simp
 refine a4.mk (E4 (m:=m) (ba.ext mL) (by omega) (by omega) aJ.row (by omega)) ?_
 rintro u bZ ⟨bL,cf,rfl,ox⟩
 simp
 refine df.mk (by obtain⟨a,c,rfl⟩:=Row.len ox;rfl) ?_
 simp
 have b0:Ext bZ (bZ++[.dead]):=Ext.dead bZ
 have TN:=bL.az b0
 have Ku:=mL.az TN
 refine a4.mk (Ac (N:=N) (ba.ext Ku) (by omega) (by omega) j5 wX gq.bits) ?_
 rintro u ca ⟨c1,A5,rfl,zT⟩
 have zW:=Ku.az c1
 simp
 refine ew.mk zT.whole ?_
 simp
 have cD:=Ext.dead ca
 have py:=b0.az (c1.az cD)
 have aI:=xp wX (t:=t) (n:=n) (by omega) (by omega)
 have ah:=xp wW (t:=fw m t) (n:=m) (by rw[tP.len];omega) (by rw[tP.len];omega)
 have Tl:=tP.len
 rw[mH]at zT
 have uh:ho (ca++[.dead]) cf (fw m t):=ox.ext py
 refine bU.join (by kernel_rfl) (fun k5 kD cy=>Ext (ca++[.dead]) cy/\b3 cy (kD 6) (gz n m t)) ?_ ?_
 ·rintro K a1-
  simp
  refine a4.mk (Ac (N:=N) uh (by omega) (by omega) (fun r h=>by have:=tP.row r h;omega) wW gq.bits) ?_
  rintro u cy ⟨cz,aau,rfl,oy⟩
  rw[Tl]at oy
  simp
  refine ew.mk oy.whole ?_
  simp
  have dh:=Ext.dead cy
  refine a4.mk (uH (N:=N) (oy.ext dh) (zT.ext (cD.az (cz.az dh))) ah aI gq.bits) ?_
  rintro u eE ⟨dj,rfl⟩
  simp
  refine bG.cE (fun ag=>?_) (fun ag=>?_)
  ·have a5:=HF ag
   simp
   refine ew.mk oy.whole ?_
   refine a1 _ _ _ ⟨cz.az (dh.az dj),?_⟩
   unfold gz
   rw[if_pos a5]
   simpa using oy.ext (dh.az dj)
  ·have a5:=HH ag
   refine a1 _ _ _ ⟨cz.az (dh.az dj),?_⟩
   unfold gz
   rw[if_neg a5]
   simpa using zT.ext (cD.az (cz.az (dh.az dj)))
 rintro k5 kD cy ⟨cz,lV⟩
 simp at lV
 have DN:=zW.az (cD.az cz)
 have yW:=ba.ext DN
 have oy:=uh.ext cz
 have Kf:c4 N (gz n m t):=by
  unfold gz
  split
  ·exact ah
  ·exact aI
 have iJ:IntKind.i64.wrap ((n:Int)+(m:Int))=((n+m:Nat):Int):=by rw[cP (by omega) (by omega)];simp
 simp[iJ]
 refine xU (e:=84) (R:=1) (bs:=24) (ay:=false) (n:=n+m) (eg:= .i64) (cB:= .i64) (z:= .slice none 0 0) (ae:=fM) (a:= .slice none 0 0) (by simp) (by simp) (by simp) (by rfl) (by rfl) (by simp) (Fo _ _ _) (by simp) (by simp) (by decide) (by decide) (by omega) (fun aC=>rfl) ?_
 intro qT qU eG e2 dh
 have r5:0<cy.length:=by have:=Ext.len DN;have:=Ext.len cz;simp at this;omega
 have QO:=dR.Lk (e:=44) (R:=4) (ay:=true) (ae:=b3) r5 e2
 simp
 refine cN (ae:=fM) (xs:=List.replicate (n+m) (.slice none 0 0)) (by simpa using e2.row) (by simp) ?_
 simp
 have TU:∀a,(List.replicate (n+m) ([]:List Rat))[a]?=if a<n+m then some []else none:=fun a=>by rw[List.getElem?_replicate]
 refine dx.range (by kernel_rfl) (n+m) (by omega) (by simp) (by rfl) (by simp) (by decide) (by decide) (fun i m5 m6 eE=>Ext cy eE/\∃B us,dR cy.length 84 44 4 true b3 eE (.slice qT (n+m) qU) B us/\B.length=n+m/\∀a,a<n+m->B[a]?=some (if a<i then e6 (n+m)else[])) ?_ ?_ ?_
 ·exact⟨dh,_,_,QO,by simp,fun a aF=>by rw[TU,if_pos aF];simp⟩
 ·rintro i m5 m6 eE ad iY ⟨dj,B,us,v9,bR,kj⟩ K a1
  simp at iY
  simp[iY]
  refine a4.mk (xB (n:=0) (by omega) (by omega)) ?_
  rintro z mg ⟨fI,aP⟩
  refine AQ (e:=44) (R:=4) (ay:=true) (z:= .agg #[.bool false,.slice none 0 0,.bool false,.slice none 0 0]) (ae:=b3) (a:=((0:Int):Rat)) (fun aC I=>by simpa using aP.ext I) (by simpa using aP.whole) (by simp) (by simp) (by simp) (by rfl) (by first | rfl | simp[flat,gD]) (by rfl) (by decide) (by decide) ?_
  intro aar hM tx fB
  simp[iJ]
  refine a4.mk (W6 (ae:=b3) (n:=n+m) tx.row (by omega) (fun H u y h=>h.whole) (fun H aC c_ u y ah h=>h.kept ah (by decide))) ?_
  rintro Nj hW ⟨hc,oa⟩
  have KD:=fI.az (fB.az hc)
  have aeb:=Ext.len dj
  have Sa:=Ext.len (fI.az fB)
  have jT:=v9.ext KD
  have TD:=oa.iB
  have jz:us.length=n+m:=by rw[v9.len,bR]
  refine iR (k:=cy.length) (e:=84) (R:=1) (ay:=false) (n:=i) (ae:=fM) (xs:=us) (a:=Nj) (by simpa using jT.own) (by simp) (by omega) (by simp[fM]) (by simpa using TD) (by simp) (fun _ _ _ _ _ h=>h) (by simp) (by simp) (by simp) (by decide) ?_
  rintro uE k7 jR hS oo ad4-
  simp at jR oo
  have qA:=dR.WJ (nM:=hM.length) jT (i:=i) (mU:=List.replicate (n+m) ((0:Int):Rat)) (by omega) (fun b aH af=>(oa.ge af aH).1) (fun j u b hu af aH=>by have:=v9.lt j u b hu af aH;omega) (by decide) (oa.le (by omega)) jR oo (fun u x h=>h.kept oo (by decide))
  refine a1 _ _ _ (by simp[iY]) ⟨hS _ (Nat.le_refl _) (dj.az KD),_,_,qA,?_⟩
  refine E0 (tk:=fun a=>if a<i+1 then e6 (n+m)else[]) bR ad kj (by simp[e6]) fun a aF jU=>?_
  by_cases o:a<i
  ·simp[o,show a<i+1 by omega]
  ·simp[o,show¬a<i+1 by omega]
 ·rintro m5 m6 eE iY ⟨dj,B,us,v9,bR,kj⟩
  have PY:∀a,a<n+m->B[a]?=some (if a<0 then nP n m t (gz n m t) a else e6 (n+m)):=fun a aF=>by rw[kj a aF,if_pos aF,if_neg (Nat.not_lt_zero a)]
  simp
  refine dx.range (by kernel_rfl) n (by omega) (by simp) (by rfl) (by simp) (by decide) (by decide) (fun i Fy FD mg=>Ext cy mg/\∃B us,dR cy.length 84 44 4 true b3 mg (.slice qT (n+m) qU) B us/\B.length=n+m/\∀a,a<n+m->B[a]?=some (if a<i then nP n m t (gz n m t) a else e6 (n+m))) ?_ ?_ ?_
  ·exact⟨dj,B,us,v9,bR,PY⟩
  ·rintro i Fy FD mg ad vM ⟨fI,B,us,tB,bR,kj⟩ K a1
   simp at vM
   have vJ:=kj i (by omega)
   rw[if_neg (Nat.lt_irrefl i)]at vJ
   refine Exists.elim (tB.oH vJ) fun u1 hu=>?_
   refine Exists.elim (aJ.at ad) fun h5 aj=>?_
   have j4:=aj.1
   have Dp:=aj.2.2.1
   have Dq:=aj.2.2.2.2
   have jz:us.length=n+m:=by rw[tB.len,bR]
   have QH:=yW.ext fI
   have pB:(e6 (n+m)).length=n+m:=by simp[e6]
   simp[vM]
   refine cI (ae:=fM) (xs:=us) (n:=i) (a:=u1) (e:=84) (R:=1) (ay:=false) (by simpa using tB.own.row) (by simp) hu.1 (by simp) (by simp) (by simp) (by decide) ?_
   rintro Al re rfl
   simp
   refine cI (ae:=iD) (xs:=t) (n:=i) (a:=h5) (e:=84) (R:=1) (ay:=false) (by simpa using QH) (by simp) j4 (by simp) (by simp) (by simp) (by decide) ?_
   intro xw M7 Tr
   refine q9 (e:=44) (R:=4) (ay:=true) (ae:=b3) (xs:=e6 (n+m)) (bI:=h5) (u:=re) (j:=0) (m:=n+m) (k:=cy.length) hu.2 (by simpa[pB]using hu.2.sub) (by omega) (by simpa using Tr) (fun u y h=>h.whole) (fun aC c_ u y ah h=>h.kept ah (by decide)) (by simp) (by simp) (by simp) (by decide) (by decide) ?_
   rintro k7 jR hS oo- -
   rw[abO Dp]at jR
   have rQ:=tB.inner hu.1 (by decide) oo jR (fun u x h=>h.kept oo (by decide))
   have sw:=hS _ (Nat.le_refl _) fI
   have Cu:=yW.ext sw
   have hQ:IntKind.i64.wrap ((m:Int)+(i:Int))=((m+i:Nat):Int):=by rw[cP (by omega) (by omega)];simp
   simp[vM]
   refine cI (ae:=fM) (xs:=us) (n:=i) (a:=re) (e:=84) (R:=1) (ay:=false) (by simpa using rQ.own.row) (by simp) hu.1 (by simp) (by simp) (by simp) (by decide) ?_
   rintro Am E_ rfl
   simp[hQ]
   refine a4.mk (pF (j:=i) Cu j4 (by omega) (by omega) (wX h5 aj.2.1).1 (wX h5 aj.2.1).2 gq.bits) ?_
   rintro aas rn ⟨mM,DM⟩
   refine⟨mM,?_⟩
   simp
   refine a4.mk (EA (N:=N) (lV.ext (sw.az mM)) DM Kf (wX.sum aj.2.1) gq.bits) ?_
   rintro aat x_ ⟨pw,w3⟩
   refine⟨pw,?_⟩
   have sv:=mM.az pw
   have Cw:=rQ.ext sv
   have Ci:=bJ.ext (ae:=bz cy.length 44 4 true b3) jR sv
   refine iR (k:=cy.length) (e:=44) (R:=4) (ay:=true) (n:=m+i) (ae:=b3) (xs:=h5++e6 n) (a:=gz n m t-er h5) (by simpa using Ci) (by simp) (by simp[e6];omega) (by simpa using w3) (by simpa using w3.whole) (by simp) (fun aC c_ u y ah h=>h.kept ah (by decide)) (by simp) (by simp) (by simp) (by decide) ?_
   rintro xx FG qk w5 qy JL-
   simp at qk qy
   have vZ:=Cw.inner hu.1 (by decide) qy qk (fun u x h=>h.kept qy (by decide))
   rw[List.set_set]at vZ
   simp
   refine a1 _ _ _ (by simp[vM]) ⟨w5 _ (Nat.le_refl _) (sw.az sv),_,us,vZ,?_⟩
   refine E0 (tk:=fun a=>if a<i+1 then nP n m t (gz n m t) a else e6 (n+m)) bR (by omega) kj ?_ fun a aF jU=>?_
   ·simp[nP,j4,Dq]
   ·by_cases o:a<i
    ·simp[o,show a<i+1 by omega]
    ·simp[o,show¬a<i+1 by omega]
  ·rintro Fy FD mg vM ⟨fI,B,us,tB,bR,kj⟩
   have PW:∀a,a<n+m->B[a]?=some (if a<n then nP n m t (gz n m t) a else if a<n+0 then q3 n m t (gz n m t) (a-n)else e6 (n+m)):=fun a aF=>by
    rw[kj a aF]
    by_cases o:a<n
    ·simp[o]
    ·simp[o]
   simp
   refine dx.range (by kernel_rfl) m (by omega) (by simp) (by rfl) (by simp) (by decide) (by decide) (fun i va vb hW=>Ext cy hW/\∃B us,dR cy.length 84 44 4 true b3 hW (.slice qT (n+m) qU) B us/\B.length=n+m/\∀a,a<n+m->B[a]?=some (if a<n then nP n m t (gz n m t) a else if a<n+i then q3 n m t (gz n m t) (a-n)else e6 (n+m))) ?_ ?_ ?_
   ·exact⟨fI,B,us,tB,bR,PW⟩
   ·rintro i va vb hW ad lj ⟨hc,B,us,jT,bR,kj⟩ K a1
    simp at lj
    have vJ:=kj (n+i) (by omega)
    rw[if_neg (by omega),if_neg (by omega)]at vJ
    refine Exists.elim (jT.oH vJ) fun u1 hu=>?_
    refine Exists.elim (tP.at ad) fun h5 aj=>?_
    have j4:=aj.1
    have Dp:=aj.2.2.1
    have Dq:=aj.2.2.2.2
    have jz:us.length=n+m:=by rw[jT.len,bR]
    have QI:=oy.ext hc
    have pB:(e6 (n+m)).length=n+m:=by simp[e6]
    have hQ:IntKind.i64.wrap ((n:Int)+(i:Int))=((n+i:Nat):Int):=by rw[cP (by omega) (by omega)];simp
    simp[lj,hQ]
    refine cI (ae:=fM) (xs:=us) (n:=n+i) (a:=u1) (e:=84) (R:=1) (ay:=false) (by simpa using jT.own.row) (by simp) hu.1 (by simp) (by simp) (by simp) (by decide) ?_
    rintro Al re rfl
    simp
    refine AU (e:=44) (R:=4) (ay:=true) (ae:=b3) (xs:=e6 (n+m)) (l:=m) (h:=n+m) (k:=cy.length) (by simpa using hu.2) (by simp) (by simp) (by decide) (by simp[dN]) (by simp[fl,pB]) (by omega) (by omega) ?_
    intro aam aew kp
    simp[pB]at kp
    simp
    refine cI (ae:=iD) (xs:=fw m t) (n:=i) (a:=h5) (e:=84) (R:=1) (ay:=false) (by simpa using QI) (by simp) j4 (by simp) (by simp) (by simp) (by decide) ?_
    intro uE E9 DA
    refine q9 (e:=44) (R:=4) (ay:=true) (ae:=b3) (xs:=e6 (n+m)) (bI:=h5) (u:=re) (j:=m) (m:=n) (k:=cy.length) hu.2 (by simpa[pB]using kp) (by omega) (by simpa using DA) (fun u y h=>h.whole) (fun aC c_ u y ah h=>h.kept ah (by decide)) (by simp) (by simp) (by simp) (by decide) (by decide) ?_
    rintro k7 jR hS oo- -
    rw[abP Dp]at jR
    have rQ:=jT.inner hu.1 (by decide) oo jR (fun u x h=>h.kept oo (by decide))
    have sw:=hS _ (Nat.le_refl _) hc
    have Cu:=oy.ext sw
    simp[lj,hQ]
    refine cI (ae:=fM) (xs:=us) (n:=n+i) (a:=re) (e:=84) (R:=1) (ay:=false) (by simpa using rQ.own.row) (by simp) hu.1 (by simp) (by simp) (by simp) (by decide) ?_
    rintro Am E_ rfl
    simp
    refine a4.mk (pF (j:=i) Cu j4 (by omega) (by omega) (wW h5 aj.2.1).1 (wW h5 aj.2.1).2 gq.bits) ?_
    rintro aas rn ⟨mM,DM⟩
    refine⟨mM,?_⟩
    simp
    refine a4.mk (EA (N:=N) (lV.ext (sw.az mM)) DM Kf (wW.sum aj.2.1) gq.bits) ?_
    rintro aat x_ ⟨pw,w3⟩
    refine⟨pw,?_⟩
    have sv:=mM.az pw
    have Cw:=rQ.ext sv
    have Ci:=bJ.ext (ae:=bz cy.length 44 4 true b3) jR sv
    refine iR (k:=cy.length) (e:=44) (R:=4) (ay:=true) (n:=i) (ae:=b3) (xs:=e6 m++h5) (a:=gz n m t-er h5) (by simpa using Ci) (by simp) (by simp[e6];omega) (by simpa using w3) (by simpa using w3.whole) (by simp) (fun aC c_ u y ah h=>h.kept ah (by decide)) (by simp) (by simp) (by simp) (by decide) ?_
    rintro xx FG qk w5 qy JL-
    simp at qk qy
    have vZ:=Cw.inner hu.1 (by decide) qy qk (fun u x h=>h.kept qy (by decide))
    rw[List.set_set]at vZ
    have CP:h5=ia t i:=by
     have:(fw m t)[i]?=some (ia t i):=by simp[fw,List.getElem?_range ad]
     rw[this]at j4
     exact(Option.some.inj j4).symm
    have zE:er h5=bw n (fun j=>bM t j i):=by
     rw[Dq];exact fK fun j aI=>tj aJ aI ad
    simp
    refine a1 _ _ _ (by simp[lj]) ⟨w5 _ (Nat.le_refl _) (sw.az sv),_,us,vZ,?_⟩
    refine E0 (tk:=fun a=>if a<n then nP n m t (gz n m t) a else if a<n+(i+1)then q3 n m t (gz n m t) (a-n)else e6 (n+m)) bR (by omega) kj ?_ fun a aF jU=>?_
    ·rw[if_neg (by omega),if_pos (by omega),Nat.add_sub_cancel_left]
     unfold q3
     rw[<-CP,zE]
    ·by_cases o:a<n
     ·simp[o]
     ·by_cases aa:a<n+i
      ·simp[o,aa,show a<n+(i+1) by omega]
      ·simp[o,aa,show¬a<n+(i+1) by omega]
   ·rintro va vb hW lj ⟨hc,B,us,jT,bR,kj⟩
    have dr:=jT.row
    simp[bj]
    have RK:=XX aJ aV (Ya aJ aE hm aV) bR kj
    exact aG _ _ ⟨DN.az hc,_,B,rfl,dr,RK⟩
def gB(H:ab)(v:Value)(p:List Nat×List Int):Prop:=∃a n c,v= .agg #[.string (ct p.1),.slice a n c]/\Row 3 1 false IR H (.slice a n c) p.2
instance:bJ gB:=⟨fun⟨a,n,c,h,o⟩ I=>⟨a,n,c,h,bJ.ext (ae:=Row _ _ _ IR) o I⟩⟩
theorem gB.iB{H:ab}{v:Value}{p:List Nat×List Int}(h:gB H v p):Whole prog 48 v:=by
 obtain⟨a,n,c,rfl,-⟩:=h
 exact⟨by rfl,by simp[Value.cells,Value.oneCell'],by simp[eB]⟩
theorem gB.kept{H aC:ab}{e:Nat}{s v:Value}{p:List Nat×List Int}(h:gB H v p)(ah:Kept H aC s e)(aa:3≠e):gB aC v p:=by
 obtain⟨a,n,c,rfl,aQ⟩:=h
 exact⟨a,n,c,rfl,aQ.kept ah aa fun _ _ h=>h⟩
section
variable {P:Program} {r:List br} {F:Fr} {H:ab} {Q:Fr->ab->Prop} {α:Type}
theorem Yu{en:Bool}{d1 d2 t bO cM e R bs k:Nat}{ay:Bool}{s x:Operand}{z:Value}{ae:ab->Value->α->Prop}{xs:List α}{a:α}{aw:a_ ((⟨en,none,some d1,.buildSlice t 1 #[(0,x)]⟩:br)::ap d2 bO cM s (T d1)::r) Q}(cV:bz k e R ay ae H (aq F s) xs)(aF:ae H (aq F x) a)
  (hw:Whole P e (aq F x))(fA:∀v,aq (aY F d1 v) s=aq F s)(hG:∀aC c_ u y,Kept H aC c_ e->ae H u y->ae aC u y)
  (bu:P.underlying t=some (.slice e))(hu:P.underlying bO=some (.slice e))(I:fJ P cM=true)(an:bm P e=some R)(dM:da P e=some ay)(af:bytes? P e=some bs)(aP:dw P e=some z)(dt:flat z=true)(cY:z.cells.size=R)(c0:0<R)(qH:R<=1000)
  (dH:0<bs)(bp:(xs.length+1)*bs<=140737488355328)(ah:k<=H.length)
  (K:∀p fW gS aC,bz k e R ay ae aC (.slice fW (xs.length+1) gS) (xs++[a])->(∀cx:ab,cx.length<=k->Ext cx H->Ext cx aC)->Kept H aC (aq F s) e->a8 P r Q .mk (aY (aY F d1 p) d2 (.slice fW (xs.length+1) gS)) aC):
  a8 P ((⟨en,none,some d1,.buildSlice t 1 #[(0,x)]⟩:br)::ap d2 bO cM s (T d1)::r) Q aw F H:=
 ra cV aF hw fA hG bu hu I an dM af aP dt cY c0 qH dH bp ah fun p av aC n_ aT aQ=>by
  have ar:=n_.len
  rw[List.length_append,List.length_singleton]at ar
  obtain⟨fW,gS,rfl⟩:=ar
  exact K p fW gS aC n_ aT aQ
end
theorem ML{d t d2 n:Nat}{x i:Operand}{r:List br}{F:Fr}{H:ab}{Q:Fr->ab->Prop}{xs:List (Rat×List Int)}{a:Rat×List Int}{aw:a_ (bb d t x i::aO d2 68 (T d)::r) Q}(bl:Row 68 5 true iC H (aq F x) xs)(ad:aq F i= .int .i64 (n:Int))(aF:xs[n]?=some a)
  (bu:eR prog t=some 68)(K:∀p s1 b4 du cJ s2 dq dE db e9 e_,b3 H (.agg #[.bool s1,.slice b4 du cJ,.bool s2,.slice dq dE db]) a.1->Row 3 1 false IR H (.slice e9 a.2.length e_) a.2->a8 prog r Q .mk (aY (aY F d p) d2 (.agg #[.bool s1,.slice b4 du cJ,.bool s2,.slice dq dE db,.slice e9 a.2.length e_])) H):a8 prog (bb d t x i::aO d2 68 (T d)::r) Q aw F H:=
 cI bl ad aF bu (by rfl) (by rfl) (by decide) fun p u ⟨s1,b4,du,cJ,s2,dq,dE,db,e9,jF,e_,hu,o,aa⟩=>by
  subst hu
  obtain⟨ek,dL,he⟩:=aa.len
  simp at he
  obtain⟨rfl,rfl,rfl⟩:=he
  exact K p s1 b4 du cJ s2 dq dE db e9 e_ o aa
theorem Yj(N:Nat)(h:N<=10000):2^N<=10^4000:=by
 have o:=sD 2 N 10000 (by decide) h
 have aa:=LV 2 5 2000 10000 (by decide)
 have aD:=LV 10 2 2000 4000 (by decide)
 have bD:=Ev (2^5) (10^2) 2000 (by decide)
 rw[aD]
 exact Nat.le_trans o (by rw[aa];exact bD)
theorem HW{n N:Nat}(h:n<2^N)(cm:N<=10000):(dec n).length<=4000:=by
 unfold dec
 split
 ·decide
 ·rw[List.length_reverse]
  exact L5 n 4000 (Nat.lt_of_lt_of_le h (Yj N cm))
theorem c4.Ah{N:Nat}{q:Rat}(h:c4 N q)(cm:N<=10000):kF q:=⟨HW h.1 cm,.inr (HW h.2 cm)⟩
theorem jJ.congr{n:Nat}{B kz:Nat->Nat->Rat}{L:Rat}(h:jJ n B L)(e:∀i k,i<n->k<n->kz i k=B i k):jJ n kz L:=
 ⟨fun i k ad ah=>by rw[e i k ad ah];exact h.h3 i k ad ah,fun i ad=>by rw[<-h.row i ad];exact fK fun k ah=>e i k ad ah,fun k ah=>by rw[<-h.rD k ah];exact fK fun i ad=>e i k ad ah⟩
theorem rl.congr{n:Nat}{A B:Nat->Nat->Rat}{L:Rat}{aU:List (Rat×List Int)}(h:rl n A L aU)(e:∀i k,i<n->k<n->B i k=A i k):rl n B L aU:=
 ⟨h.parts,fun i k ad ah=>by rw[h.sum i k ad ah,e i k ad ah],h.len,h.mr,h.Ln⟩
def xL(n m:Nat)(p:Rat×List Int):List Nat×List Int:=(fu p.1,jo n m p.2)
theorem Xu{v:Value}{t:List (List Rat)}{n m N D:Nat}{H:ab}(ba:ho H v t)(aJ:eU n m t)(aE:0<n)(hm:0<m)(pn:n<10000)(ua:m<10000)(aH:∀i k,i<n->k<m->0<=bM t i k)(aV:hY D t)(gq:k6 D N (gz n m t))(cm:N<=10000):
  aZ prog 42 [.agg #[v]] H (fun u H1=>Ext H H1/\∃w aU,u= .tuple #[w,.int .i64 0]/\yg n m (bM t) (gz n m t) aU/\(∀p∈aU,eM D p.1)/\Row 48 2 true gB H1 w (aU.map fun p=>(fu p.1,p.2))):=by
 refine aZ.cr fun Q aG=>?_
 have mH:=aJ.len
 obtain⟨eb,eP,ot,qE,J7,wP⟩:=aJ.at aE
 apply U_ (by simp)
 obtain⟨a,c,rfl⟩:=Row.len ba
 simp[G6]
 have cn:Ext H (H++[.dead]):=Ext.dead H
 refine a4.mk (XY (ba.ext cn) aJ aE hm pn ua aH aV gq) ?_
 rintro u H1 ⟨bH,a7,s,rfl,an,RJ,RV,Jm⟩
 have Da:jJ (n+m) (bM s) (gz n m t):=(XV aH (fun i ad=>MI aJ ad) (fun k ah=>MH aJ ah)).congr Jm
 try simp
 refine a4.mk (HY (N:=N) an RJ (by omega) (by omega) Da RV gq) ?_
 rintro u a0 ⟨bx,aU,kU,zt,oq⟩
 have SN:=(kU.congr fun i k ad ah=>(Jm i k ad ah).symm).WA
 have mL:=cn.az (bH.az bx)
 have mv:=ba.ext mL
 have jZ:0<a0.length:=by have:=Ext.len mL;have:=Ext.len (bH.az bx);simp at this;omega
 refine cN (ae:=iC) (xs:=aU) (by simpa using oq) (by simp) ?_
 try simp
 have rZ:aU.length<=(n+m)*(n+m):=kU.mr
 have adW:(n+m)*(n+m)<=20000*20000:=Nat.mul_le_mul (by omega) (by omega)
 refine dx.range (by kernel_rfl) aU.length (by omega) (by simp) (by rfl) (by simp) (by decide) (by decide) (fun i dQ fr bZ=>Ext a0 bZ/\bz a0.length 48 2 true gB bZ (dQ 4) ((aU.take i).map (xL n m))) ?_ ?_ ?_
 ·exact⟨Ext.refl _,by simpa using bz.nil _ _ _ _ _ _⟩
 ·rintro i dQ fr bZ ad vN ⟨bL,kk⟩ K a1
  simp at vN kk
  refine Exists.elim (⟨_,bt ad⟩:∃p,aU[i]?=some p) fun p aR=>?_
  have im:=List.mem_of_getElem? aR
  have j3:=(kU.parts p im).2
  have ht:=(kU.parts p im).1
  have c0:c4 N p.1:=gq.R (zt p im) (Rat.le_of_lt ht) (by
   rw[<-kU.len];exact(An fun p aR=>(kU.parts p aR).1).2 p im)
  simp[vN]
  refine ML (xs:=aU) (n:=i) (a:=p) (by simpa using bJ.ext (ae:=Row _ _ _ iC) oq bL) (by simp[vN]) aR (by simp) ?_
  intro gL s1 b4 du cJ s2 dq dE db e9 e_ SW R0
  try simp
  have gV:=Ext.dead bZ
  refine a4.mk (EG (SW.ext gV) c0 (by omega)) ?_
  rintro u ca ⟨c1,hu⟩
  rw[if_pos (c0.Ah cm)]at hu
  subst hu
  have px:=gV.az c1
  try simp
  have cD:=Ext.dead ca
  have QJ:=mv.ext (bL.az (px.az cD))
  refine a4.mk (xk QJ eP qE) ?_
  rintro u cy ⟨cz,rfl⟩
  refine⟨cz,?_⟩
  have DQ:=px.az (cD.az cz)
  have yW:=mv.ext (bL.az DQ)
  have jd:=j3.len
  try simp
  refine rb (e:=3) (R:=1) (ay:=false) (ae:=IR) (xs:=p.2) (l:=0) (h:=m) (by simpa using bJ.ext (ae:=Row _ _ _ IR) R0 DQ) (by simp) (by simp) (by decide) (by simp[dN]) (by simp[fl]) (by omega) (by omega) ?_
  intro agy DI
  have BK:(p.2.drop 0).take (m-0)=p.2.take m:=by simp
  rw[BK]at DI
  refine cN (ae:=IR) (xs:=p.2.take m) (by simpa using DI) (by simp) ?_
  have zi:(p.2.take m).length=m:=by simp;omega
  simp[zi]
  refine dx.range (by kernel_rfl) m (by omega) (by simp[jd]) (by rfl) (by simp) (by decide) (by decide) (fun j m5 m6 eE=>Ext cy eE/\∃fW gS,m6 9= .agg #[.string (ct (fu p.1)),.slice fW j gS]/\bz cy.length 3 1 false IR eE (.slice fW j gS) ((jo n m p.2).take j)) ?_ ?_ ?_
  ·exact⟨Ext.refl _,none,0,by simp,by simpa using bz.nil _ _ _ _ _ _⟩
  ·rintro j m5 m6 eE aI iY ⟨dj,fW,gS,tu,jS⟩ NK Cc
   simp at iY tu
   refine Exists.elim (j3.dB j (by omega)) fun x I=>?_
   have bH:=I.1
   have Kw:=I.2
   have SR:(p.2.take m)[j]?=some (x:Int):=by rw[List.getElem?_take_of_lt aI];exact Kw
   have RD:(jo n m p.2)[j]?=some (if(n:Int)<=(x:Int)then(-1:Int)else(x:Int)):=by rw[BD,if_pos aI,Kw];rfl
   have g1:(jo n m p.2).length=m:=j3.cut.len
   try simp[iY]
   refine cI (ae:=IR) (xs:=p.2.take m) (n:=j) (a:=(x:Int)) (e:=3) (R:=1) (ay:=false) (by simpa using bJ.ext (ae:=Row _ _ _ IR) DI dj) (by simp[iY]) SR (by simp) (by simp) (by simp) (by decide) ?_
   rintro xv E8 rfl
   try simp
   have QK:=yW.ext dj
   refine bU.join (by kernel_rfl) (fun pX sW hM=>Ext eE hM/\pX 11= .int .i64 (if(n:Int)<=(x:Int)then(-1:Int)else(x:Int))) ?_ ?_
   ·rintro abX IQ-
    try simp
    refine a4.mk (z5 QK mH) ?_
    rintro u hM ⟨fB,rfl⟩
    try simp
    refine bG.cE (fun ag=>?_) (fun ag=>?_)
    ·try simp
     refine IQ _ _ _ ⟨fB,?_⟩
     rw[if_pos (by omega)];simp
    ·refine IQ _ _ _ ⟨fB,?_⟩
     rw[if_neg (by omega)];simp
   ·rintro pX sW hM ⟨fB,nm⟩
    simp at nm
    have tx:=bJ.ext (ae:=bz cy.length 3 1 false IR) jS fB
    have r5:=Ext.len (dj.az fB)
    simp[tu,nm]
    refine Yu (k:=cy.length) (e:=3) (R:=1) (ay:=false) (bs:=8) (z:= .int .i64 0) (ae:=IR) (xs:=(jo n m p.2).take j) (a:=(if(n:Int)<=(x:Int)then(-1:Int)else(x:Int))) (by simpa using tx) (by simp[IR,nm]) (by simp[nm];split<;>exact kd _) (by simp) (fun _ _ _ _ _ h=>h) (by simp) (by simp) (by simp) (by simp) (by simp) (by rfl) (by rfl) (by rfl) (by rfl) (by decide) (by decide) (by decide) (by simp;omega) (by omega) ?_
    intro xw NV vv hW oa hc R7
    have fP:((jo n m p.2).take j).length=j:=by simp;omega
    rw[fP]at oa
    simp[tu,fP]
    refine Cc _ _ _ (by simp[iY]) ⟨hc _ (Nat.le_refl _) (dj.az fB),NV,vv,by simp,?_⟩
    rw[List.take_add_one,RD]
    exact oa
  ·rintro m5 m6 eE iY ⟨dj,fW,gS,tu,jS⟩
   simp at tu
   have g1:(jo n m p.2).length=m:=j3.cut.len
   have Qv:bz cy.length 3 1 false IR eE (.slice fW m gS) (jo n m p.2):=by
    rw[<-List.take_of_length_le (l:=jo n m p.2) (i:=m) (by omega)];exact jS
   have DR:=DQ.az dj
   have I7:gB eE (.agg #[.string (ct (fu p.1)),.slice fW m gS]) (xL n m p):=⟨fW,m,gS,rfl,Qv.row⟩
   have aec:=Ext.len (bL.az DR)
   simp[tu]
   refine ra (k:=a0.length) (e:=48) (R:=2) (ay:=true) (bs:=40) (z:= .agg #[.string ⟨#[]⟩,.slice none 0 0]) (ae:=gB) (xs:=(aU.take i).map (xL n m)) (a:=xL n m p) (by simpa using bJ.ext (ae:=bz _ _ _ _ gB) kk DR) (by simpa using I7) (by simpa using I7.iB) (by simp) (fun aC c_ u y ah h=>h.kept ah (by decide)) (by simp) (by simp) (by simp) (by simp) (by simp) (by rfl) (by rfl) (by first | rfl | simp[flat,gD]) (by rfl) (by decide) (by decide) (by decide) (by simp;omega) (by omega) ?_
   intro uE agu k7 jR hS oo
   try simp
   refine a1 _ _ _ (by simp[vN]) ⟨hS _ (Nat.le_refl _) (bL.az DR),?_⟩
   rw[List.take_add_one,aR,List.map_append]
   simpa using jR
 ·rintro dQ fr bZ vN ⟨bL,kk⟩
  simp at kk
  have dr:=kk.row
  have e:aU.map (xL n m)=(aU.map fun p=>(p.1,jo n m p.2)).map fun p=>(fu p.1,p.2):=by
   rw[List.map_map];rfl
  rw[e]at dr
  simp[bj]
  refine aG _ _ ⟨mL.az bL,_,_,rfl,SN,fun p aR=>?_,dr⟩
  rw[List.mem_map]at aR
  obtain⟨q,au,rfl⟩:=aR
  exact zt q au
theorem xA{t:List (List Int)}{n m:Nat}(aE:t.length=n)(hm:∀r∈t,r.length=m):eU n m (cd t):=
 ⟨by simp[cd,aE],fun r aj=>by
  unfold cd at aj
  rw[List.mem_map]at aj
  obtain⟨di,fo,rfl⟩:=aj
  simpa using hm di fo⟩
theorem q1(t:List (List Int))(i k:Nat):bM (cd t) i k=(((t[i]?.getD [])[k]?.getD 0:Int):Rat):=by
 unfold bM cd
 rw[List.getElem?_map]
 cases aj:t[i]? with
 | none=>simp
 | some r=>
  simp only[Option.map_some,Option.getD_some,List.getElem?_map]
  cases r[k]?<;>simp
theorem L2(t:List (List Int)):hY 1 (cd t):=fun r aj q au=>by
 unfold cd at aj
 rw[List.mem_map]at aj
 obtain⟨di,fo,rfl⟩:=aj
 rw[List.mem_map]at au
 obtain⟨x,I,rfl⟩:=au
 exact eM.int x
theorem iU.h3{t:List (List Int)}(h:iU t)(i k:Nat):0<=bM (cd t) i k:=by
 rw[q1]
 have:(0:Int)<=(t[i]?.getD [])[k]?.getD 0:=by
  cases aj:t[i]? with
  | none=>simp
  | some r=>
   simp only[Option.getD_some]
   cases I:r[k]? with
   | none=>simp
   | some x=>exact((h r (List.mem_of_getElem? aj)).2 x (List.mem_of_getElem? I)).1
 exact_mod_cast this
theorem MG{t:List (List Int)}{n m:Nat}(aE:t.length=n)(hm:(t[0]?.getD []).length=m)(h:iU t)(ar:t.length<=1000):gz n m (cd t)=(((jn t).1:Int):Rat)/\(jn t).1.natAbs<=1000000000:=by
 have key:∀{t:List (List Int)} (n:Nat),(dy (dT (cd t)) n).1=((dy (dT (cd t)) n).1.num:Rat):=fun{t} n=>by
  rw[(xo _ n).1,q2,Rat.num_intCast]
 have gC:=Ab h n
 have kJ:=Ab (h.fw (m:=m) ar) m
 unfold gz jn
 rw[As,aE,hm]
 simp only
 split
 ·exact⟨key m,kJ⟩
 ·exact⟨key n,gC⟩
theorem WB{v:Value}{t:List (List Int)}{H:ab}(ba:jI H v t)(ar:t.length<65536)(aj:∀r∈t,r.length<65536):
  aZ prog 23 [v] H (fun u H1=>Ext H H1/\(fT t->∃w aU,u= .tuple #[w,.int .i64 0]/\yg t.length (t[0]?.getD []).length (bM (cd t)) (((jn t).1:Int):Rat) aU/\(∀p∈aU,eM 1 p.1)/\Row 48 2 true gB H1 w (aU.map fun p=>(fu p.1,p.2)))/\(¬fT t->u= .tuple #[.slice none 0 0,.int .i64 1])):=by
 refine aZ.cr fun Q aG=>?_
 obtain⟨m,hm⟩:∃m,m=(t[0]?.getD []).length:=⟨_,rfl⟩
 apply UY (by simp)
 simp[GW]
 refine a4.mk (A4 ba (by omega) fun r h=>by have:=aj r h;omega) ?_
 rintro u H1 ⟨bH,rfl⟩
 simp
 refine bG.mk (fun ao=>?good) (fun ao=>?bad)
 case bad=>
  simp at ao
  simp[bj]
  exact aG _ _ ⟨bH,fun h=>absurd h ao,fun _=>rfl⟩
 simp at ao
 have an:=ao.small
 have fm:=ao.len
 have v1:=ao.1
 have v2:=ao.2.1
 have pS:=ao.2.2.1
 have v4:=ao.2.2.2.1
 rw[<-hm]at fm pS v4
 have lV:=MG rfl hm.symm an (by omega)
 simp
 refine a4.mk (uK (ba.ext bH).row (by omega) aj fun r h x I=>by have:=(an r h).2 x I;omega) ?_
 rintro _ a0 ⟨bx,vq,vy,rfl,kP⟩
 simp
 refine a4.mk (Xu (n:=t.length) (m:=m) (N:=64) (D:=1) kP (xA rfl fm) (by omega) (by omega) (by omega) (by omega) (fun i k _ _=>an.h3 i k) (L2 t) (by rw[lV.1];exact k6.int (by have:=lV.2;omega) (by decide) (by decide)) (by decide)) ?_
 rintro u bZ ⟨bL,w,aU,rfl,r9,qD,SI⟩
 rw[lV.1]at r9
 simp[bj]
 refine aG _ _ ⟨bH.az (bx.az bL),fun _=>⟨w,aU,rfl,?_,qD,SI⟩,fun h=>absurd ao h⟩
 rw[<-hm]
 exact r9
theorem T2{v:Value}{l:List Int}{x:Int}{H:ab}(dc:c7 H v l)(ar:l.length<65536):
  aZ prog 66 [v,.int .i64 x] H (fun u H1=>H1=H/\∃r:Int,u= .int .i64 r/\(0<=r↔x∈l)):=by
 refine aZ.cr fun Q aG=>?_
 apply Vl (by simp)
 obtain⟨a,c,rfl⟩:=Row.len dc
 simp[Ha]
 refine cN (ae:=IR) (xs:=l) (by simpa using dc) (by simp) ?_
 simp
 refine dx.range (by kernel_rfl) l.length (by omega) (by simp) (by rfl) (by simp) (by decide) (by decide) (fun i bV dz a0=>a0=H/\x∉l.take i) ?_ ?_ ?_
 ·exact⟨rfl,by simp⟩
 ·rintro i bV dz a0 ad iH ⟨rfl,I⟩ K a1
  simp at iH
  refine Exists.elim (⟨_,bt ad⟩:∃y,l[i]?=some y) fun y aL=>?_
  simp[iH]
  refine cI (ae:=IR) (xs:=l) (n:=i) (a:=y) (e:=3) (R:=1) (ay:=false) (by simpa using dc) (by simp) aL (by simp) (by simp) (by simp) (by decide) ?_
  rintro fQ oK rfl
  simp
  refine bG.cE (fun ag=>?_) (fun ag=>?_)
  ·simp[iH,bj]
   exact aG _ _ ⟨rfl,_,rfl,by simp;rw[ag];exact List.mem_of_getElem? aL⟩
  ·try simp
   refine a1 _ _ _ (by simp[iH]) ⟨rfl,?_⟩
   rw[List.take_add_one,aL,List.mem_append]
   simp[I,ag]
 ·rintro bV dz a0 iH ⟨rfl,I⟩
  simp at I
  simp[bj]
  exact aG _ _ ⟨rfl,-1,rfl,by simp[I]⟩
theorem Ol{v:Value}{l:List Int}{x:Int}{H:ab}(dc:c7 H v l)(ar:l.length<65536):
  aZ prog 39 [v,.int .i64 x] H (fun u H1=>H1=H/\u= .bool (decide (x∈l))):=by
 refine aZ.cr fun Q aG=>?_
 apply Vi (by simp)
 simp[G_]
 refine a4.mk (T2 dc ar) ?_
 rintro u H1 ⟨rfl,r,rfl,aj⟩
 simp[bj]
 exact aG _ _ ⟨rfl,by simp[aj]⟩
def hB(l:List Nat):Rat:=Rat.divInt (jg l) (gT l)
def p3(n m:Nat)(p:List Nat×List Int):Prop:=(nd p.1/\0<hB p.1/\p.2.length=m)/\vd n m p.2
def parts(a9:List (List Nat×List Int)):List (Rat×List Int):=a9.map fun p=>(hB p.1,p.2)
def sY(n:Nat)(l:List Int)(k:Nat):Prop:=∃x,l[k]?=some x/\ -1<=x/\x<n/\(0<=x->x∉l.take k)
theorem HM{l:List Int}{x:Int}:(∀k,l[k]?=some x->x∉l.take k)↔l.count x<=1:=by
 constructor
 ·intro h
  by_cases hm:x∈l
  ·obtain⟨k,ah⟩:=List.mem_iff_getElem?.1 hm
   have ja:=(cc.1 ah).1
   have o:=h k ah
   have aa:x∉l.drop (k+1):=fun aJ=>by
    obtain⟨j,aI⟩:=List.mem_iff_getElem?.1 aJ
    rw[List.getElem?_drop]at aI
    refine h _ aI (List.mem_iff_getElem?.2 ⟨k,?_⟩)
    rw[List.getElem?_take_of_lt (by omega)]
    exact ah
   have e:l=l.take k++l[k]::l.drop (k+1):=by rw[List.getElem_cons_drop ja,List.take_append_drop]
   rw[e,List.count_append,List.count_cons,List.count_eq_zero.2 o,List.count_eq_zero.2 aa]
   split<;>omega
  ·rw[List.count_eq_zero.2 hm];omega
 ·intro h k ah hm
  have ja:=(cc.1 ah).1
  have e:l=l.take k++l[k]::l.drop (k+1):=by rw[List.getElem_cons_drop ja,List.take_append_drop]
  have I:l[k]=x:=(cc.1 ah).2
  rw[e,List.count_append,List.count_cons,I]at h
  have:=List.count_pos_iff.2 hm
  simp at h
  omega
theorem D6{n m:Nat}{l:List Int}:vd n m l↔l.length=m/\∀k,k<m->sY n l k:=by
 constructor
 ·intro h
  refine⟨h.len,fun k ah=>?_⟩
  rcases h.Xb k ah with o | ⟨j,aI,o⟩
  ·exact⟨-1,o,by omega,by omega,fun h=>by omega⟩
  ·exact⟨j,o,by omega,by omega,fun _=>HM.2 (h.inj j aI) k o⟩
 ·rintro⟨ar,h⟩
  refine⟨ar,fun k ah=>?_,fun j aI=>HM.1 fun k ah=>?_⟩
  ·obtain⟨x,o,aa,aD,bD⟩:=h k ah
   by_cases I:x= -1
   ·exact .inl (I▸o)
   ·exact .inr ⟨x.toNat,by omega,by rw[o];congr 1;omega⟩
  ·obtain⟨x,o,aa,aD,bD⟩:=h k (by have:=(cc.1 ah).1;omega)
   rw[o]at ah
   have:=Option.some.inj ah
   subst this
   exact bD (by omega)
theorem X6:(10:Nat)^4000<=2^13288:=WO 10 500 2 1661 8 4000 13288 (by decide) (by decide) (by decide+kernel)
theorem H4{l:List Nat}(h:me l):fk l<2^13288:=by
 have o:=ti h.1
 have aa:=sD 10 l.length 4000 (by decide) h.2.2.2
 exact Nat.lt_of_lt_of_le o (Nat.le_trans aa X6)
theorem Fi{l:List Nat}(h:nd l):c4 13288 (hB l):=by
 obtain⟨o,aa,aD,bD⟩:=h
 have aJ:gT l≠0/\gT l<2^13288:=by
  unfold gT
  cases hu:l_ l with
  | none=>exact⟨by decide,Ew 13288 (by decide)⟩
  | some u=>
   obtain⟨aT,aQ⟩:=aa u hu
   exact⟨by simp only;omega,H4 aT⟩
 refine c4.divInt aJ.1 ?_ aJ.2
 unfold jg
 have:=H4 o
 split
 ·rw[Int.natAbs_neg,Int.natAbs_natCast];exact this
 ·rw[Int.natAbs_natCast];exact this
def iQ(s:Nat):Nat:=13290*s+1
theorem MA:c4 (iQ 0) 0:=⟨by simp[iQ],by simp[iQ]⟩
theorem EY{s:Nat}{a b:Rat}(aF:c4 (iQ s) a)(af:c4 13288 b):c4 (iQ (s+1)) (a+b):=(aF.add af).mono (by unfold iQ;omega)
theorem WC(aU:List (Rat×List Int))(p:Rat×List Int):eC (aU++[p])=eC aU+p.1:=by
 rw[LM];simp only[eC];grind
theorem WH(aU:List (Rat×List Int))(p:Rat×List Int)(i k:Nat):gk (aU++[p]) i k=gk aU i k+gj p i k:=by
 rw[LQ];simp only[gk];grind
theorem LL{a9:List (List Nat×List Int)}{s:Nat}{p:List Nat×List Int}(h:a9[s]?=some p):parts (a9.take (s+1))=parts (a9.take s)++[(hB p.1,p.2)]:=by
 unfold parts
 rw[List.take_add_one,h,List.map_append];rfl
theorem EX{a9:List (List Nat×List Int)}(h:∀p∈a9,nd p.1):c4 (iQ a9.length) (eC (parts a9))/\∀i k,c4 (iQ a9.length) (gk (parts a9) i k):=by
 induction a9 with
 | nil=>exact⟨MA,fun _ _=>MA⟩
 | cons p a9 aW=>
  obtain⟨o,aa⟩:=aW fun q au=>h q (by simp[au])
  have aD:=Fi (h p (by simp))
  refine⟨?_,fun i k=>?_⟩
  ·have:=EY o aD
   rw[Rat.add_comm]at this
   exact this
  ·have aR:c4 13288 (gj (hB p.1,p.2) i k):=by
    unfold gj
    split
    ·exact aD
    ·exact⟨Nat.two_pow_pos 13288,Ew 13288 (by decide)⟩
   have:=EY (aa i k) aR
   rw[Rat.add_comm]at this
   exact this
theorem c7.whole{H:ab}{u:Value}{y:List Int}(h:c7 H u y):Whole prog 25 u:=by
 obtain⟨a,c,rfl⟩:=Row.len h
 exact⟨by rfl,by rfl,by simp[eB]⟩
theorem c7.kept{H aC:ab}{e:Nat}{s u:Value}{y:List Int}(h:c7 H u y)(ah:Kept H aC s e)(cG:3≠e):c7 aC u y:=Row.kept h ah cG fun _ _ h=>h
theorem Yn{d t d2 n:Nat}{x i:Operand}{r:List br}{F:Fr}{H:ab}{Q:Fr->ab->Prop}{xs:List (List Nat×List Int)}{a:List Nat×List Int}{aw:a_ (bb d t x i::aO d2 48 (T d)::r) Q}(bl:Row 48 2 true gB H (aq F x) xs)(ad:aq F i= .int .i64 (n:Int))(aF:xs[n]?=some a)
  (bu:eR prog t=some 48)(K:∀p e9 e_,c7 H (.slice e9 a.2.length e_) a.2->a8 prog r Q .mk (aY (aY F d p) d2 (.agg #[.string (ct a.1),.slice e9 a.2.length e_])) H):a8 prog (bb d t x i::aO d2 48 (T d)::r) Q aw F H:=
 cI bl ad aF bu (by rfl) (by rfl) (by decide) fun p u ⟨e9,jF,e_,hu,aa⟩=>by
  subst hu
  obtain⟨ek,dL,he⟩:=aa.len
  simp at he
  obtain⟨rfl,rfl,rfl⟩:=he
  exact K p e9 e_ aa
def nk(a9:List (List Nat×List Int))(s:Nat)(p:Rat×List Int)(i j k:Nat):Rat:=gk (parts (a9.take s)) j k+if k<i then gj p j k else 0
theorem O9(a9:List (List Nat×List Int))(s:Nat)(p:Rat×List Int)(j k:Nat):nk a9 s p 0 j k=gk (parts (a9.take s)) j k:=by
 unfold nk
 rw[if_neg (Nat.not_lt_zero k)]
 exact Rat.add_zero _
theorem O7{a9:List (List Nat×List Int)}{s m:Nat}{p:List Nat×List Int}(aR:a9[s]?=some p){j k:Nat}(ah:k<m):nk a9 s (hB p.1,p.2) m j k=gk (parts (a9.take (s+1))) j k:=by
 unfold nk
 rw[if_pos ah,LL aR,WH]
theorem HZ{a9:List (List Nat×List Int)}{s i:Nat}{p:Rat×List Int}{x:Int}(I:p.2[i]?=some x)(j k:Nat):nk a9 s p (i+1) j k=nk a9 s p i j k+if k=i/\x=(j:Int)then p.1 else 0:=by
 unfold nk gj
 by_cases o:k<i
 ·rw[if_pos o,if_pos (by omega),if_neg (by omega:¬(k=i/\x=(j:Int)))]
  exact(Rat.add_zero _).symm
 ·by_cases aa:k=i
  ·subst aa
   rw[if_neg o,if_pos (by omega),I]
   simp only[Option.some.injEq,true_and]
   split<;>grind
  ·rw[if_neg o,if_neg (by omega),if_neg (fun h=>aa h.1)]
   exact(Rat.add_zero _).symm
theorem O8{a9:List (List Nat×List Int)}{s i:Nat}{p:List Nat×List Int}(h:∀j k,c4 (iQ s) (gk (parts (a9.take s)) j k))(aR:nd p.1)(j k:Nat):c4 (iQ (s+1)) (nk a9 s (hB p.1,p.2) i j k):=by
 unfold nk
 have o:=Fi aR
 refine EY (h j k) ?_
 unfold gj
 have aH:c4 13288 (0:Rat):=⟨Nat.two_pow_pos 13288,Ew 13288 (by decide)⟩
 split
 ·split
  ·exact o
  ·exact aH
 ·exact aH
theorem H0{v:Value}{a9:List (List Nat×List Int)}{n m:Nat}{H:ab}(i_:Row 48 2 true gB H v a9)(bR:∀p∈a9,Bytes p.1)(hlen:∀p∈a9,p.1.length<4611686018427387904/\p.2.length<65536)(iq:a9.length<=2000)(aE:0<n)(hm:0<m)(pn:n<1000)(ua:m<1000):
  aZ prog 17 [v,.int .i64 n,.int .i64 m] H (fun u H1=>Ext H H1/\∃sH AO sI hf b,u= .tuple #[.agg #[.slice sH AO sI],hf,.bool b]/\Whole prog 44 hf/\(b=true↔(∀p∈a9,p3 n m p)/\a9.length<=1000)/\(b=true->∃B,ho H1 (.slice sH AO sI) B/\eU n m B/\(∀j k,j<n->k<m->bM B j k=gk (parts a9) j k)/\b3 H1 hf (eC (parts a9)))):=by
 refine aZ.cr fun Q aG=>?_
 apply U0 (by simp)
 obtain⟨a,c,rfl⟩:=Row.len i_
 simp[GY]
 have cn:Ext H (H++[.dead,.dead]):=Ext.more H (by simp)
 refine xU (e:=3) (R:=1) (bs:=8) (ay:=false) (n:=m) (eg:= .i64) (cB:= .i64) (z:= .int .i64 0) (ae:=IR) (a:=0) (by simp) (by simp) (by simp) (by rfl) (by rfl) (by simp) (kd 0) (by simp) (by simp) (by decide) (by decide) (by omega) (fun aC=>rfl) ?_
 intro Fw abK H1 jQ bH
 have pA:c7 H1 (.slice Fw m abK) (List.replicate m 0):=jQ.row
 refine AQ (e:=25) (R:=1) (ay:=false) (z:= .slice none 0 0) (ae:=c7) (a:=List.replicate m 0) (fun aC I=>by simpa using bJ.ext (ae:=c7) pA I) (by simpa using pA.whole) (by simp) (by simp) (by simp) (by rfl) (by rfl) (by rfl) (by decide) (by decide) ?_
 intro h6 a0 hF bx
 simp
 refine a4.mk (W7 (ae:=c7) (n:=n) hF.row (by omega) (fun H u y h=>h.whole) (fun H aC c_ u y ah h=>h.kept ah (by decide))) ?_
 rintro cf bZ ⟨bL,kk⟩
 have iI:eL bZ cf (List.replicate n (List.replicate m 0)):=kk.row
 simp
 refine a4.mk (L6 iI (by simp;omega) (fun r h=>by rw[List.mem_replicate]at h;rw[h.2];simp;omega) (fun r h x I=>by rw[List.mem_replicate]at h;rw[h.2,List.mem_replicate]at I;rw[I.2];decide)) ?_
 rintro _ bP ⟨b0,qT,qU,us,rfl,kl⟩
 simp
 refine a4.mk (xB (n:=0) (by omega) (by omega)) ?_
 rintro z_ ca ⟨c1,JM⟩
 simp
 refine ew.mk JM.whole ?_
 rw[List.length_replicate]at kl
 have cD:Ext ca (ca++[.dead,.dead]):=Ext.more ca (by simp)
 have py:=c1.az cD
 have Ky:=b0.az py
 have qL:=cn.az (bH.az (bx.az bL))
 have QN:=kl.ext py
 simp
 refine cN (ae:=gB) (xs:=a9) (by simpa using bJ.ext (ae:=Row _ _ _ gB) i_ (qL.az Ky)) (by simp) ?_
 simp
 have fail:∀hf mh,Whole prog 44 hf->Ext H mh->(¬∀p∈a9,p3 n m p)->Q (.tuple #[.agg #[.slice none 0 0],hf,.bool false]) mh:=fun hf mh hw I hH=>aG _ _ ⟨I,none,0,0,hf,false,rfl,hw,⟨fun h=>(by cases h),fun h=>absurd h.1 hH⟩,fun h=>by cases h⟩
 refine dx.range (by kernel_rfl) a9.length (by omega) (by simp) (by rfl) (by simp) (by decide) (by decide) (fun s k5 kD cy=>Ext bZ cy/\(∀p∈a9.take s,p3 n m p)/\b3 cy (kD 10) (eC (parts (a9.take s)))/\∃B,dR (bZ.length+1) 84 44 4 true b3 cy (.slice qT n qU) B us/\eU n m B/\∀j k,j<n->k<m->bM B j k=gk (parts (a9.take s)) j k) ?_ ?_ ?_
 ·refine⟨Ky,by simp,by simpa[parts,eC]using JM.ext cD,_,QN,xA (by simp) (fun r h=>by rw[List.mem_replicate]at h;rw[h.2];simp),fun j k aI ah=>?_⟩
  rw[q1]
  simp[aI,ah,parts,gk]
 ·rintro s k5 kD cy an np ⟨cz,mE,ph,B,Cy,CR,y_⟩ K a1
  simp at np ph
  refine Exists.elim (⟨_,bt an⟩:∃p,a9[s]?=some p) fun p aR=>?_
  have im:=List.mem_of_getElem? aR
  have SJ:=bR p im
  have jd:=hlen p im
  have tv:=qL.az cz
  have Dx:=EX (a9:=a9.take s) fun q au=>(mE q au).1.1
  have mG:(a9.take s).length=s:=by simp;omega
  rw[mG]at Dx
  simp[np]
  refine Yn (xs:=a9) (n:=s) (a:=p) (by simpa using bJ.ext (ae:=Row _ _ _ gB) i_ tv) (by simp[np]) aR (by simp) ?_
  intro qX Bq Bx r1
  simp
  have gV:=Ext.dead cy
  refine a4.mk (Wx SJ jd.1) ?_
  rintro u eE ⟨dj,aeQ,(⟨Dl,rfl,SQ⟩ | ⟨hH,rfl⟩),s1,b4,du,cJ,s2,dq,dE,db,rfl⟩
  ·have TO:=gV.az dj
   have zE:b3 eE (.agg #[.bool s1,.slice b4 du cJ,.bool s2,.slice dq dE db]) (hB p.1):=SQ
   have J5:=Fi Dl
   simp
   have fI:=Ext.dead eE
   have KB:=TO.az fI
   refine bU.join (by kernel_rfl) (fun pX sW hM=>Ext (eE++[.dead]) hM/\pX 49= .bool (!decide (0<hB p.1/\p.2.length=m))) ?_ ?_
   ·rintro cU ed-
    simp
    refine a4.mk (Ez (zE.ext fI)) ?_
    rintro u hM ⟨fB,rfl⟩
    by_cases ht:0<hB p.1
    ·have sh:¬((if hB p.1<0 then(-1:Int)else if hB p.1=0 then 0 else 1)<=0):=fun h=>Rat.not_lt.2 (xM.1 h) ht
     simp[sh]
     refine cN (ae:=IR) (xs:=p.2) (by simpa using bJ.ext (ae:=c7) r1 (KB.az fB)) (by simp) ?_
     simp
     refine ed _ _ _ ⟨fB,?_⟩
     simp[ht]
     try omega
    ·have sh:((if hB p.1<0 then(-1:Int)else if hB p.1=0 then 0 else 1)<=0):=xM.2 (Rat.not_lt.1 ht)
     simp[sh]
     refine ed _ _ _ ⟨fB,?_⟩
     simp[ht]
   ·rintro pX sW hM ⟨fB,IC⟩
    simp at IC
    have zZ:=KB.az fB
    have Dd:=ph.ext zZ
    have Kx:=cz.az zZ
    simp[IC]
    refine bG.mk (fun af=>?_) (fun af=>?_)
    ·simp at af
     simp[bj]
     refine ew.mk Dd.whole ?_
     simp[bj]
     refine fail _ _ Dd.whole (qL.az Kx) fun cQ=>?_
     have:=(cQ p im).1
     rcases af with af | af
     ·exact af this.2.1
     ·exact af this.2.2
    ·simp at af
     have ht:=af.1
     have Dk:=af.2
     have SU:=zE.ext (fI.az fB)
     have JD:=bJ.ext (ae:=c7) r1 zZ
     have QM:=Cy.ext zZ
     have Ti:=Dx.2
     simp
     refine cN (ae:=IR) (xs:=p.2) (by simpa using JD) (by simp) ?_
     simp
     refine dx.range (by kernel_rfl) p.2.length (by omega) (by simp) (by rfl) (by simp) (by decide) (by decide) (fun i va vb hW=>Ext bZ hW/\(∀k,k<i->sY n p.2 k)/\b3 hW (kD 10) (eC (parts (a9.take s)))/\b3 hW (.agg #[.bool s1,.slice b4 du cJ,.bool s2,.slice dq dE db]) (hB p.1)/\c7 hW (.slice Bq p.2.length Bx) p.2/\∃B,dR (bZ.length+1) 84 44 4 true b3 hW (.slice qT n qU) B us/\eU n m B/\∀j k,j<n->k<m->bM B j k=nk a9 s (hB p.1,p.2) i j k) ?_ ?_ ?_
     ·exact⟨Kx,fun k ah=>by omega,Dd,SU,JD,B,QM,CR,fun j k aI ah=>by rw[y_ j k aI ah];exact(O9 _ _ _ _ _).symm⟩
     ·rintro i va vb hW ad lj ⟨hc,C5,t_,wM,qx,B,jT,wq,tQ⟩ nW gr
      simp at lj
      refine Exists.elim (⟨_,bt ad⟩:∃x,p.2[i]?=some x) fun x I=>?_
      refine bU.join (by kernel_rfl) (fun rm sX jj=>Ext bZ jj/\(∀k,k<i+1->sY n p.2 k)/\b3 jj (kD 10) (eC (parts (a9.take s)))/\b3 jj (.agg #[.bool s1,.slice b4 du cJ,.bool s2,.slice dq dE db]) (hB p.1)/\c7 jj (.slice Bq p.2.length Bx) p.2/\∃B,dR (bZ.length+1) 84 44 4 true b3 jj (.slice qT n qU) B us/\eU n m B/\∀j k,j<n->k<m->bM B j k=nk a9 s (hB p.1,p.2) (i+1) j k) ?_ ?_
      ·rintro sZ jP Qb
       simp[lj]
       refine cI (ae:=IR) (xs:=p.2) (n:=i) (a:=x) (e:=3) (R:=1) (ay:=false) (by simpa using qx) (by simp[lj]) I (by simp) (by simp) (by simp) (by decide) ?_
       rintro uE E9 rfl
       simp[lj]
       refine bU.join (by kernel_rfl) (fun rm sX jj=>jj=hW/\∃bad,rm 78= .bool bad/\(bad=true↔(x< -1\/(n:Int)<=x\/(0<=x/\x∈p.2.take i)))) ?_ ?_
       ·rintro FI nq-
        by_cases o:x< -1
        ·simp[o]
         exact nq _ _ _ ⟨rfl,true,by simp,by simp[o]⟩
        ·by_cases aa:(n:Int)<=x
         ·simp[o,aa]
          exact nq _ _ _ ⟨rfl,true,by simp,by simp[aa]⟩
         ·by_cases aD:0<=x
          ·simp[o,aa,aD]
           refine rb (e:=3) (R:=1) (ay:=false) (ae:=IR) (xs:=p.2) (l:=0) (h:=i) (by simpa using qx) (by simp) (by simp) (by decide) (by simp[dN]) (by simp[fl]) (by omega) (by omega) ?_
           intro agv Kl
           have Pg:(p.2.drop 0).take (i-0)=p.2.take i:=by simp
           rw[Pg]at Kl
           try simp
           refine a4.mk (Ol (l:=p.2.take i) Kl (by simp;omega)) ?_
           rintro w rn ⟨rfl,rfl⟩
           try simp
           exact nq _ _ _ ⟨rfl,decide (x∈p.2.take i),by simp,by simp[o,aa,aD]⟩
          ·simp[o,aa,aD]
           exact nq _ _ _ ⟨rfl,false,by simp,by simp[o,aa,aD]⟩
       ·rintro rm sX jj ⟨rfl,bad,B4,jV⟩
        simp only[kt]at B4
        simp at B4
        have lo:bad=false->sY n p.2 i:=fun h=>by
         have h:¬(x< -1\/(n:Int)<=x\/(0<=x/\x∈p.2.take i)):=fun b5=>by rw[jV.2 b5]at h;cases h
         exact⟨x,I,by omega,by omega,fun aH hm=>h (.inr (.inr ⟨aH,hm⟩))⟩
        have Sv:bad=true->¬sY n p.2 i:=fun h aI=>by
         have h:=jV.1 h
         obtain⟨y,aT,aQ,bn,b8⟩:=aI
         rw[I]at aT
         have:=Option.some.inj aT
         subst this
         rcases h with h | h | ⟨h,hm⟩
         ·omega
         ·omega
         ·exact b8 h hm
        simp[B4]
        refine bG.mk (fun af=>?_) (fun af=>?_)
        ·simp
         refine ew.mk t_.whole ?_
         simp
         refine Qb _ _ _ _ (by simp) ?_
         simp[bj]
         refine fail _ _ t_.whole (qL.az hc) fun cQ=>?_
         exact Sv af ((D6.1 (cQ p im).2).2 i (by omega))
        ·have JF:∀k,k<i+1->sY n p.2 k:=fun k ah=>by
          by_cases eY:k<i
          ·exact C5 k eY
          ·obtain rfl:k=i:=by omega
           exact lo af
         refine Exists.elim (lo af) fun y aL=>?_
         have TR:y=x:=by have:=aL.1;rw[I]at this;exact(Option.some.inj this).symm
         have w9:=aL.2.1
         have TP:=aL.2.2.1
         rw[TR]at w9 TP
         simp
         refine bG.cE (fun TL=>?_) (fun TL=>?_)
         ·refine Exists.elim (⟨x.toNat,by omega⟩:∃j:Nat,x=(j:Int)) fun j aI=>?_
          have nC:j<n:=by omega
          have wE:i<m:=by omega
          refine Exists.elim (wq.get nC wE) fun j_ aj=>?_
          refine Exists.elim (jT.oH aj.1) fun u2 hu=>?_
          have Kb:=O8 (i:=i) (p:=p) Ti Dl j i
          rw[<-tQ j i nC wE]at Kb
          simp[aI]
          refine cI (ae:=fM) (xs:=us) (n:=j) (a:=u2) (e:=84) (R:=1) (ay:=false) (by simpa using jT.own.row) (by simp[aI]) hu.1 (by simp) (by simp) (by simp) (by decide) ?_
          rintro Wt Fb rfl
          simp[aI,lj]
          refine cI (ae:=fM) (xs:=us) (n:=j) (a:=Fb) (e:=84) (R:=1) (ay:=false) (by simpa using jT.own.row) (by simp[aI]) hu.1 (by simp) (by simp) (by simp) (by decide) ?_
          rintro Wu aag rfl
          simp[lj]
          refine cI (ae:=b3) (xs:=j_) (n:=i) (a:=bM B j i) (e:=44) (R:=4) (ay:=true) (by simpa using hu.2.row) (by simp) aj.2.1 (by simp) (by simp) (by simp) (by decide) ?_
          intro Wv aah DB
          simp
          refine a4.mk (Ey (N:=iQ (s+1)) (M:=13288) DB wM Kb J5 (by unfold iQ;omega)) ?_
          rintro w Bc ⟨h1,hw⟩
          refine⟨h1,?_⟩
          have Cx:=jT.ext h1
          have Cj:=bJ.ext (ae:=bz (bZ.length+1) 44 4 true b3) hu.2 h1
          refine iR (k:=bZ.length+1) (e:=44) (R:=4) (ay:=true) (n:=i) (ae:=b3) (xs:=j_) (a:=bM B j i+hB p.1) (by simpa using Cj) (by simp) (by rw[aj.2.2];exact wE) (by simpa using hw) (by simpa using hw.whole) (by simp) (fun aC c_ u y ah h=>h.kept ah (by decide)) (by simp) (by simp) (by simp) (by decide) ?_
          rintro Ww Bd vV DO mB Sd-
          simp at vV mB
          have ah:∀u x,b3 Bc u x->b3 Bd u x:=fun u x h=>h.kept mB (by decide)
          try simp
          refine jP _ _ _ ⟨DO _ (by omega) (hc.az h1),JF,ah _ _ (t_.ext h1),ah _ _ (wM.ext h1),(bJ.ext (ae:=c7) qx h1).kept mB (by decide),B.set j (j_.set i (bM B j i+hB p.1)),Cx.inner hu.1 (by decide) mB vV ah,wq.set (by rw[List.length_set];exact aj.2.2),?_⟩
          intro dp bN ju ij
          rw[H6 aj.1 (by rw[aj.2.2];exact wE),HZ I,tQ dp bN ju ij,tQ j i nC wE]
          by_cases ag:dp=j/\bN=i
          ·obtain⟨rfl,rfl⟩:=ag
           rw[if_pos ⟨rfl,rfl⟩,if_pos ⟨rfl,aI⟩]
          ·rw[if_neg ag,if_neg (by omega)]
           exact(Rat.add_zero _).symm
         ·refine jP _ _ _ ⟨hc,JF,t_,wM,qx,B,jT,wq,fun dp bN ju ij=>?_⟩
          rw[HZ I,tQ dp bN ju ij,if_neg (by omega)]
          exact(Rat.add_zero _).symm
      ·rintro rm sX jj ⟨iM,R3,Sp,SV,C4,PV⟩
       exact gr _ _ _ (by simp[lj]) ⟨iM,R3,Sp,SV,C4,PV⟩
     ·rintro va vb hW lj ⟨hc,C5,t_,wM,qx,B,jT,wq,tQ⟩
      simp
      refine a4.mk (Ey (N:=iQ s) (M:=13288) t_ wM Dx.1 J5 (by unfold iQ;omega)) ?_
      rintro w k7 ⟨hS,hw⟩
      simp
      refine ew.mk hw.whole ?_
      try simp
      have Tc:p3 n m p:=⟨⟨Dl,ht,Dk⟩,D6.2 ⟨Dk,fun k ah=>C5 k (by omega)⟩⟩
      refine a1 _ _ _ (by simp[np]) ⟨hc.az hS,fun q au=>?_,?_,B,jT.ext hS,wq,fun j k aI ah=>?_⟩
      ·rw[List.take_add_one,aR,List.mem_append]at au
       rcases au with au | au
       ·exact mE q au
       ·simp at au
        rw[au];exact Tc
      ·rw[LL aR,WC]
       simpa using hw
      ·rw[tQ j k aI ah,Dk,O7 aR ah]
  ·simp[u0]
   refine ew.mk (ph.ext (gV.az (dj.az (Ext.dead eE)))).whole ?_
   simp[bj]
   exact fail _ _ (ph.ext (gV.az (dj.az (Ext.dead eE)))).whole (tv.az (gV.az (dj.az (Ext.dead eE)))) fun cQ=>hH (cQ p im).1.1
 ·rintro k5 kD cy np ⟨cz,mE,ph,B,Cy,CR,y_⟩
  simp at ph
  have dr:=Cy.row
  rw[List.take_length]at mE y_
  simp
  refine cN (ae:=gB) (xs:=a9) (by simpa using bJ.ext (ae:=Row _ _ _ gB) i_ (qL.az cz)) (by simp) ?_
  simp
  refine ew.mk ph.whole ?_
  simp[bj]
  refine aG _ _ ⟨qL.az cz,qT,n,qU,_,_,rfl,ph.whole,?_,fun _=>⟨B,dr,CR,y_,ph⟩⟩
  constructor
  ·intro h
   simp at h
   exact⟨mE,by omega⟩
  ·intro h
   have:=h.2
   simp
   omega
theorem HI{a b:Rat}:((if a<b then(-1:Int)else if a=b then 0 else 1)=0)↔a=b:=by
 by_cases o:a<b
 ·simp only[if_pos o]
  constructor
  ·intro h;omega
  ·intro h;rw[h]at o;exact absurd o Rat.lt_irrefl
 ·by_cases aa:a=b
  ·simp[aa]
  ·simp[o,aa]
theorem Mi{v w:Value}{t u:List (List Rat)}{n m N M:Nat}{H:ab}(ba:ho H v t)(d_:ho H w u)(aJ:eU n m t)(Jk:eU n m u)(aE:n<65536)(hm:m<65536)(cS:∀i k,i<n->k<m->c4 N (bM t i k))(Tf:∀i k,i<n->k<m->c4 M (bM u i k))(cm:N+M+1<=32000000):
  aZ prog 19 [.agg #[v],.agg #[w]] H (fun r H1=>Ext H H1/\∃b,r= .bool b/\(b=true↔∀i k,i<n->k<m->bM t i k=bM u i k)):=by
 refine aZ.cr fun Q aG=>?_
 have mH:=aJ.len
 have jz:=Jk.len
 apply U9 (by simp)
 obtain⟨a,c,rfl⟩:=Row.len ba
 obtain⟨dq,db,rfl⟩:=Row.len d_
 simp[G5]
 have cn:Ext H (H++[.dead,.dead]):=Ext.more H (by simp)
 refine cN (ae:=iD) (xs:=t) (by simpa using ba.ext cn) (by simp) ?_
 simp
 refine dx.range (by kernel_rfl) t.length (by omega) (by simp) (by rfl) (by simp) (by decide) (by decide) (fun i bV dz a0=>Ext H a0/\∀j k,j<i->k<m->bM t j k=bM u j k) ?_ ?_ ?_
 ·exact⟨cn,fun j k aI=>by omega⟩
 ·rintro i bV dz a0 ad iH ⟨bx,ig⟩ K a1
  simp at iH
  have eX:i<n:=by omega
  refine Exists.elim (aJ.at eX) fun row dr=>?_
  have j5:=dr.2.2.1
  simp[iH]
  refine cI (ae:=iD) (xs:=t) (n:=i) (a:=row) (e:=84) (R:=1) (ay:=false) (by simpa using ba.ext bx) (by simp[iH]) dr.1 (by simp) (by simp) (by simp) (by decide) ?_
  intro fQ oK jy
  try simp
  refine cN (ae:=b3) (xs:=row) (by simpa using jy) (by simp) ?_
  try simp
  refine dx.range (by kernel_rfl) row.length (by omega) (by simp) (by rfl) (by simp) (by decide) (by decide) (fun k cT dJ bP=>Ext a0 bP/\∀bN,bN<k->bM t i bN=bM u i bN) ?_ ?_ ?_
  ·exact⟨Ext.refl _,fun bN ah=>by omega⟩
  ·rintro k cT dJ bP ah g9 ⟨b0,CV⟩ sZ jP
   simp at g9
   have ik:k<m:=by omega
   refine Exists.elim (aJ.get eX ik) fun eh Dn=>?_
   refine Exists.elim (Jk.get eX ik) fun fZ sc=>?_
   have S5:eh=row:=by have:=Dn.1;rw[dr.1]at this;exact(Option.some.inj this).symm
   have pq:=Dn.2.1
   rw[S5]at pq
   have gV:=Ext.dead bP
   simp[g9]
   refine cI (ae:=b3) (xs:=row) (n:=k) (a:=bM t i k) (e:=44) (R:=4) (ay:=true) (by simpa using bJ.ext (ae:=iD) jy b0) (by simp[g9]) pq (by simp) (by simp) (by simp) (by decide) ?_
   intro iP oL qI
   try simp
   refine ew.mk qI.whole ?_
   simp[iH]
   refine cI (ae:=iD) (xs:=u) (n:=i) (a:=fZ) (e:=84) (R:=1) (ay:=false) (by simpa using d_.ext (bx.az (b0.az gV))) (by simp) sc.1 (by simp) (by simp) (by simp) (by decide) ?_
   intro nN pQ lW
   simp[g9]
   refine cI (ae:=b3) (xs:=fZ) (n:=k) (a:=bM u i k) (e:=44) (R:=4) (ay:=true) (by simpa using lW) (by simp) sc.2.1 (by simp) (by simp) (by simp) (by decide) ?_
   intro oD Fe DC
   try simp
   refine a4.mk (LY (qI.ext gV) DC (cS i k eX ik) (Tf i k eX ik) cm) ?_
   rintro aav eG ⟨dh,rfl⟩
   simp
   refine bG.cE (fun ag=>?_) (fun ag=>?_)
   ·have heq:=HI.1 ag
    try simp
    refine jP _ _ _ (by simp[g9]) ⟨b0.az (gV.az dh),fun bN ij=>?_⟩
    by_cases o:bN<k
    ·exact CV bN o
    ·obtain rfl:bN=k:=by omega
     exact heq
   ·simp[bj]
    refine aG _ _ ⟨bx.az (b0.az (gV.az dh)),false,rfl,⟨fun h=>(by cases h),fun h=>?_⟩⟩
    exact absurd (HI.2 (h i k eX ik)) ag
  ·rintro cT dJ bP g9 ⟨b0,CV⟩
   try simp
   refine a1 _ _ _ (by simp[iH]) ⟨bx.az b0,fun j k aI ah=>?_⟩
   by_cases o:j<i
   ·exact ig j k o ah
   ·obtain rfl:j=i:=by omega
    exact CV k (by omega)
 ·rintro bV dz a0 iH ⟨bx,ig⟩
  simp[bj]
  exact aG _ _ ⟨bx,true,rfl,⟨fun _ i k ad ah=>ig i k (by omega) ah,fun _=>rfl⟩⟩
def sV(t:List (List Int))(a9:List (List Nat×List Int)):Prop:=((∀p∈a9,p3 t.length (t[0]?.getD []).length p)/\a9.length<=1000)/\∀j k,j<t.length->k<(t[0]?.getD []).length->gk (parts a9) j k=bM (cd t) j k
theorem H7{t:List (List Int)}(h:iU t)(i k:Nat):c4 64 (bM (cd t) i k):=by
 rw[q1]
 refine c4.int ?_ (by decide)
 cases aj:t[i]? with
 | none=>simp
 | some r=>
  simp only[Option.getD_some]
  cases I:r[k]? with
  | none=>simp
  | some x=>
   have:=(h r (List.mem_of_getElem? aj)).2 x (List.mem_of_getElem? I)
   simp only[Option.getD_some]
   omega
theorem O4{v w:Value}{t:List (List Int)}{a9:List (List Nat×List Int)}{H:ab}(ba:jI H v t)(ar:t.length<65536)(aj:∀r∈t,r.length<65536)(i_:Row 48 2 true gB H w a9)(bR:∀p∈a9,Bytes p.1)(hlen:∀p∈a9,p.1.length<4611686018427387904/\p.2.length<65536)(iq:a9.length<=2000):
  aZ prog 24 [v,w] H (fun u H1=>Ext H H1/\(fT t->sV t a9->u=if kF (eC (parts a9))then .tuple #[.string (ct (fu (eC (parts a9)))),.int .i64 0]else .tuple #[.string (ct []),.int .i64 5])/\(fT t->¬sV t a9->u= .tuple #[.string (ct []),.int .i64 2])/\(¬fT t->u= .tuple #[.string (ct []),.int .i64 1])):=by
 refine aZ.cr fun Q aG=>?_
 obtain⟨m,hm⟩:∃m,m=(t[0]?.getD []).length:=⟨_,rfl⟩
 apply UW (by simp)
 simp[GU]
 have D_:({data:= #[]}:ByteArray)=ct []:=rfl
 refine a4.mk (A4 ba (by omega) fun r h=>by have:=aj r h;omega) ?_
 rintro u H1 ⟨bH,rfl⟩
 simp
 refine bG.mk (fun ao=>?good) (fun ao=>?bad)
 case bad=>
  simp at ao
  simp[bj]
  exact aG _ _ ⟨bH,fun h=>absurd h ao,fun h=>absurd h ao,fun _=>by rw[D_]⟩
 simp at ao
 have an:=ao.small
 have fm:=ao.len
 have v1:=ao.1
 have v2:=ao.2.1
 have pS:=ao.2.2.1
 have v4:=ao.2.2.2.1
 rw[<-hm]at fm pS v4
 have y9:=xA rfl fm
 refine Exists.elim (y9.at (i:=0) (by omega)) fun eb eP=>?_
 simp
 refine a4.mk (uK (ba.ext bH).row (by omega) aj fun r h x I=>by have:=(an r h).2 x I;omega) ?_
 rintro _ a0 ⟨bx,vq,vy,rfl,kP⟩
 simp
 have bL:=Ext.dead a0
 refine a4.mk (z5 (n:=t.length) (kP.ext bL) (by simp[cd])) ?_
 rintro _ bP ⟨b0,rfl⟩
 refine⟨b0,?_⟩
 simp
 refine a4.mk (xk (kP.ext (bL.az b0)) eP.1 eP.2.2.1) ?_
 rintro _ ca ⟨c1,rfl⟩
 refine⟨c1,?_⟩
 simp
 have ui:=bL.az (b0.az c1)
 have mM:=bH.az (bx.az ui)
 refine a4.mk (H0 (n:=t.length) (m:=m) (bJ.ext (ae:=Row _ _ _ gB) i_ mM) bR hlen iq (by omega) (by omega) (by omega) (by omega)) ?_
 rintro _ dU ⟨cD,sH,AO,sI,hf,b,rfl,zp,af,qp⟩
 refine⟨cD,?_⟩
 have pw:=mM.az cD
 cases b with
 | false=>
  have hH:¬sV t a9:=fun h=>by
   have:=af.2 (by rw[hm];exact h.1)
   cases this
  simp
  refine ew.mk zp ?_
  simp[u0,bj]
  exact aG _ _ ⟨pw.az (Ext.more dU (by simp)),fun _ h=>absurd h hH,fun _ _=>by rw[D_],fun h=>absurd ao h⟩
 | true=>
  have jc:=af.1 rfl
  refine Exists.elim (qp rfl) fun B o5=>?_
  have Rm:=o5.1
  have lM:=o5.2.1
  have fG:=o5.2.2.1
  have gF:=o5.2.2.2
  have zL:=EX (a9:=a9) fun q au=>(jc.1 q au).1.1
  have cz:Ext dU (dU++[.dead,.dead]):=Ext.more dU (by simp)
  simp
  refine ew.mk zp ?_
  simp
  refine bU.join (by kernel_rfl) (fun m4 oR eG=>Ext (dU++[.dead,.dead]) eG/\∃en,m4 32= .bool en/\(en=false↔sV t a9)) ?_ ?_
  ·rintro K a1-
   simp
   refine a4.mk (Mi (N:=64) (M:=iQ a9.length) (kP.ext (ui.az (cD.az cz))) (Rm.ext cz) y9 lM (by omega) (by omega) (fun i k _ _=>H7 an i k) (fun i k ad ah=>by rw[fG i k ad ah];exact zL.2 i k) (by unfold iQ;omega)) ?_
   rintro _ eG ⟨dh,kJ,rfl,o_⟩
   simp
   refine a1 _ _ _ ⟨dh,!kJ,by simp,?_⟩
   have:(!kJ)=false↔kJ=true:=by cases kJ<;>simp
   rw[this,o_]
   unfold sV
   rw[<-hm]
   constructor
   ·intro h
    exact⟨jc,fun j k aI ah=>by rw[<-fG j k aI ah,h j k aI ah]⟩
   ·intro h i k ad ah
    rw[fG i k ad ah,h.2 i k ad ah]
  ·rintro m4 oR eG ⟨dh,en,Iz,nu⟩
   simp at Iz
   simp[Iz]
   refine bG.mk (fun af=>?_) (fun af=>?_)
   ·simp[bj]
    exact aG _ _ ⟨pw.az (cz.az dh),fun _ h=>(by rw[nu.2 h]at af;cases af),fun _ _=>by rw[D_],fun h=>absurd ao h⟩
   ·have hq:=nu.1 af
    simp
    refine a4.mk (EG (N:=iQ a9.length) (gF.ext (cz.az dh)) zL.1 (by unfold iQ;omega)) ?_
    rintro _ eE ⟨dj,hu⟩
    have h1:=pw.az (cz.az (dh.az dj))
    by_cases ah:kF (eC (parts a9))
    ·rw[if_pos ah]at hu
     subst hu
     simp[bj]
     exact aG _ _ ⟨h1,fun _ _=>by rw[if_pos ah],fun _ h=>absurd hq h,fun h=>absurd ao h⟩
    ·rw[if_neg ah]at hu
     subst hu
     simp[bj]
     exact aG _ _ ⟨h1,fun _ _=>by rw[if_neg ah],fun _ h=>absurd hq h,fun h=>absurd ao h⟩
end Go.b_
end
section
namespace Go.b_
end Go.b_
end
section
set_option maxRecDepth 8000
set_option maxHeartbeats 1000000
namespace Go.b_
attribute [-simp] fL gO hK
def NN(H:ab)(v:Value)(d:Nat):Prop:=v= .int .i64 (d:Int)
instance:bJ NN:=⟨fun h _=>h⟩
section
variable {P:Program} {r:List br} {F:Fr} {H:ab} {Q:Fr->ab->Prop} {α:Type}
end
attribute [simp] o0
end Go.b_
end
section
set_option maxRecDepth 8000
set_option maxHeartbeats 1000000
namespace Go.b_
open Go.Proofs
open Go.Proofs.Try (prog)
attribute [-simp] fL gO hK
def f4(d:Nat):List Nat:=[48+d/1000,48+d/100 % 10,48+d/10 % 10,48+d % 10]
theorem Pd(l:List Nat)(c:Nat):fk (l++[c])=fk l*10+(c-48):=by
 rw[BJ];simp[fk]
end Go.b_
end
section
set_option maxRecDepth 8000
set_option maxHeartbeats 1000000
namespace Go.b_
attribute [-simp] fL gO hK
theorem Oy{c:Nat}{l:List Nat}(h:(dD c l).2=none):(dD c l).1.length=l.length:=by rw[vA h]
theorem Wz(l:List Nat):(dD 47 (ky 45 l)).1=n5 l/\(dD 47 (ky 45 l)).2=l_ l/\decide (l.head?=some 45)=nL l:=by
 unfold n5 l_ nL qW ky
 cases l with
 | nil=>simp[dD]
 | cons c r=>
  by_cases h:c=45
  ·subst h
   simp[dD]
  ·by_cases aa:c=47
   ·subst aa
    simp[dD]
   ·simp[dD,h,aa]
theorem LI{l:List Nat}(h:nd l):l.length<=8002:=by
 obtain⟨o,aa,-⟩:=h
 obtain⟨dF,hI,-⟩:=Wz l
 have aJ:=o.2.2.2
 have bu:l.length<=(ky 45 l).length+1:=by
  unfold ky
  split
  ·simp;omega
  ·omega
 cases hu:l_ l with
 | none=>
  have:=Oy (c:=47) (l:=ky 45 l) (by rw[hI,hu])
  rw[dF]at this
  omega
 | some u=>
  have aD:=(aa u hu).1.2.2.2
  have bD:=vB (c:=47) (l:=ky 45 l) (by rw[hI,hu])
  rw[dF]at bD
  have:=congrArg List.length bD
  simp at this
  omega
end Go.b_
end
section
set_option maxRecDepth 8000
set_option maxHeartbeats 1000000
namespace Go.b_
open Go.Proofs
open Go.Proofs.Try (prog)
attribute [-simp] fL gO hK
theorem Ow{v:Value}{l:List Int}{H:ab}(dc:c7 H v l):
  aZ prog 6 [v,.int .i64 9] H (fun u H1=>Ext H H1/\c7 H1 u (l.take 9)):=by
 refine aZ.cr fun Q aG=>?_
 apply Ud (by simp)
 have aej:(if(l.length:Int)<9 then(l.length:Int)else 9)=((min l.length 9:Nat):Int):=by split<;>omega
 simp[Gu]
 refine xS (e:=3) (R:=1) (by simp) (by simp) ?_
 simp
 refine cN (ae:=IR) (xs:=l) (by simpa using dc) (by simp) ?_
 simp
 refine rb (e:=3) (R:=1) (ay:=false) (ae:=IR) (xs:=l) (l:=0) (h:=min l.length 9) (by simpa using dc) (by simp) (by simp) (by decide) (by simp[dN]) (by simp[fl];split<;>omega) (by omega) (by omega) ?_
 intro pS ow
 have e1:(l.drop 0).take (min l.length 9-0)=l.take 9:=by
  rw[List.drop_zero,Nat.sub_zero]
  by_cases h:l.length<=9
  ·rw[Nat.min_eq_left h,List.take_length,List.take_of_length_le h]
  ·rw[Nat.min_eq_right (by omega)]
 rw[e1]at ow
 refine AP (k:=H.length) (e:=3) (R:=1) (ay:=false) (bs:=8) (z:= .int .i64 0) (ae:=IR) (xs:=[]) (bI:=l.take 9) (by simpa using bz.void _ _ _ _ _ _ _) (by simpa using ow) (fun u y h=>by rw[show u=_ from h];exact kd y) (fun aC c_ u y ah h=>h) (by simp) (by simp) (by simp) (by simp) (by decide) (by rfl) (by rfl) (by rfl) (by decide) (by simp;omega) (Nat.le_refl _) ?_
 intro w bP hZ b0 R8
 simp[bj]
 exact aG _ _ ⟨b0 _ (Nat.le_refl _) (Ext.refl _),by simpa using hZ.row⟩
def tg(x:List (List Int)):List (List Int):=(x.take 9).map (·.take 9)
theorem X4{v:Value}{x:List (List Int)}{H:ab}(dc:eL H v x):
  aZ prog 5 [v] H (fun u H1=>Ext H H1/\eL H1 u (tg x)):=by
 refine aZ.cr fun Q aG=>?_
 apply Uf (by simp)
 simp[Gw]
 refine xS (e:=25) (R:=1) (by simp) (by simp) ?_
 simp
 refine dx.mk (by kernel_rfl) (fun m aA bC H1=>∃i:Nat,m=x.length-i/\i<=x.length/\i<=9/\aA 4= .int .i64 (i:Int)/\Ext H H1/\bz H.length 25 1 false c7 H1 (aA 3) ((x.take i).map (·.take 9))) x.length ⟨0,by omega,by omega,by omega,by simp,Ext.refl _,by simpa using bz.void _ _ _ _ _ _ _⟩ ?_
 rintro m aA bC H1 ⟨i,rfl,ad,ad1,bD,bH,cV⟩ K a1
 simp at bD cV
 have vP:=bJ.ext (ae:=eL) dc bH
 simp only[k1]
 refine bU.join (by kernel_rfl) (fun bV dz a0=>a0=H1/\bV 13= .bool (decide (i<x.length/\i<=8))) ?_ ?_
 ·rintro cU ed-
  simp[bD]
  refine cN (ae:=c7) (xs:=x) (by simpa using vP) (by simp) ?_
  by_cases a5:i<x.length
  ·simp[a5,bD]
   exact ed _ _ _ ⟨rfl,by simp[a5];omega⟩
  ·simp[a5,bD]
   exact ed _ _ _ ⟨rfl,by simp[a5]⟩
 ·rintro bV dz a0 ⟨rfl,ic⟩
  simp only[kt]at ic
  simp at ic
  simp[ic]
  refine bG.mk (fun af=>?_) (fun af=>?_)
  ·simp at af
   refine Exists.elim (⟨_,bt af.1⟩:∃p,x[i]?=some p) fun row dr=>?_
   simp[bD]
   refine cI (ae:=c7) (xs:=x) (n:=i) (a:=row) (e:=25) (R:=1) (ay:=false) (by simpa using vP) (by simp[bD]) dr (by simp) (by simp) (by simp) (by decide) ?_
   rintro iP oL qI
   try simp
   refine a4.mk (Ow qI) ?_
   rintro pQ dU ⟨cD,lW⟩
   have hlen:=Ext.len (bH.az cD)
   try simp
   refine ra (k:=H.length) (e:=25) (R:=1) (ay:=false) (bs:=24) (z:= .slice none 0 0) (ae:=c7) (xs:=(x.take i).map (·.take 9)) (a:=row.take 9) (by simpa using bJ.ext (ae:=bz _ _ _ _ c7) cV cD) (by simpa using lW) (by simpa using lW.whole) (by simp) (fun aC c_ u y ah h=>h.kept ah (by decide)) (by simp) (by simp) (by simp) (by simp) (by simp) (by rfl) (by rfl) (by rfl) (by rfl) (by decide) (by decide) (by decide) (by simp;omega) (by omega) ?_
   intro oD u3 cy g0 cz kn
   have hw:IntKind.i64.wrap ((i:Int)+1)=((i+1:Nat):Int):=by rw[cP (by omega) (by omega)];omega
   simp[bD,hw]
   refine a1 (x.length-(i+1)) _ _ _ (by omega) ⟨i+1,rfl,by omega,by omega,by simp,cz _ (Nat.le_refl _) (bH.az cD),?_⟩
   rw[List.take_add_one,dr]
   simpa using g0
  ·simp at af
   simp[bj]
   refine aG _ _ ⟨bH,?_⟩
   have:x.take i=x.take 9:=by
    by_cases h:i<x.length
    ·have:=af h;rw[show i=9 by omega]
    ·rw[List.take_of_length_le (by omega),List.take_of_length_le (by omega)]
   unfold tg
   rw[<-this,List.map_take]
   exact cV.row
theorem oN{i:Nat}(h:i<4611686018427387904):IntKind.i64.wrap ((i:Int)+1)=((i+1:Nat):Int):=by rw[cP (by omega) (by omega)];omega
theorem x0{t:List (List Int)}:fT t↔(1<=t.length/\t.length<=8)/\∀r∈t,(r.length=(t[0]?.getD []).length/\1<=r.length/\r.length<=8)/\∀x∈r,0<=x/\x<=1000:=by
 constructor
 ·intro h
  have ar:=h.len
  obtain⟨o,aa,aD,bD,b2⟩:=h
  refine⟨⟨o,aa⟩,fun r aj=>?_⟩
  have e:=ar r aj
  refine⟨⟨e,by omega,by omega⟩,fun x I=>?_⟩
  have:=b2 r aj
  unfold lb at this
  simp at this
  have:=this.2 x I
  omega
 ·rintro⟨⟨o,aa⟩,h⟩
  have aH:t[0]?.getD []∈t:=by rw[bt (by omega)];exact List.getElem_mem (by omega)
  have:=(h _ aH).1
  refine⟨o,aa,this.2.1,this.2.2,fun r aj=>?_⟩
  have:=h r aj
  unfold lb
  simp
  exact⟨this.1.1,fun x I=>by have:=this.2 x I;omega⟩
theorem MB{v:Value}{t:List (List Int)}{H:ab}(dc:eL H v t)(ar:t.length<4611686018427387904)(aj:∀r∈t,r.length<4611686018427387904):
  aZ prog 8 [v] H (fun u H1=>H1=H/\u= .bool (decide (fT t))):=by
 refine aZ.cr fun Q aG=>?_
 have no:∀{r x},r∈t->x∈r->¬(0<=x/\x<=1000)->Q (.bool false) H:=fun aj I h=>aG _ _ ⟨rfl,by
  have:¬fT t:=fun ao=>h (((x0.1 ao).2 _ aj).2 _ I)
  simp[this]⟩
 apply US (by simp)
 simp[GR]
 refine dx.mk (by kernel_rfl) (fun m aA bC H1=>∃i:Nat,m=t.length-i/\i<=t.length/\aA 3= .int .i64 (i:Int)/\H1=H/\∀r∈t.take i,(r.length=(t[0]?.getD []).length/\1<=r.length/\r.length<=8)/\∀x∈r,0<=x/\x<=1000) t.length ⟨0,by omega,by omega,by simp,rfl,by simp⟩ ?_
 rintro m aA bC H1 ⟨i,rfl,ad,aD,rfl,cQ⟩ K a1
 simp at aD
 simp[aD]
 refine cN (ae:=c7) (xs:=t) (by simpa using dc) (by simp) ?_
 simp
 refine bG.cE (fun a5=>?_) (fun a5=>?_)
 ·refine Exists.elim (⟨_,bt a5⟩:∃p,t[i]?=some p) fun row dr=>?_
  refine Exists.elim (⟨_,bt (show 0<t.length by omega)⟩:∃p,t[0]?=some p) fun ka pr=>?_
  have gh:=List.mem_of_getElem? dr
  have j5:=aj _ gh
  have hw:=oN (show i<4611686018427387904 by omega)
  try simp only[k1]
  refine bU.join (by kernel_rfl) (fun bV dz a0=>a0=H1/\bV 29= .bool (decide (¬(row.length=ka.length/\1<=row.length/\row.length<=8)))) ?_ ?_
  ·rintro cU ed-
   simp[aD]
   refine cI (ae:=c7) (xs:=t) (n:=i) (a:=row) (e:=25) (R:=1) (ay:=false) (by simpa using dc) (by simp[aD]) dr (by simp) (by simp) (by simp) (by decide) ?_
   rintro iP oL qI
   try simp
   refine cN (ae:=IR) (xs:=row) (by simpa using qI) (by simp) ?_
   try simp
   refine cI (ae:=c7) (xs:=t) (n:=0) (a:=ka) (e:=25) (R:=1) (ay:=false) (by simpa using dc) (by simp) pr (by simp) (by simp) (by simp) (by decide) ?_
   rintro nN pQ lW
   try simp
   refine cN (ae:=IR) (xs:=ka) (by simpa using lW) (by simp) ?_
   by_cases he:row.length=ka.length
   ·simp[he,aD]
    refine mX (ae:=c7) (xs:=t) (n:=i) (a:=row) (e:=25) (R:=1) (ay:=false) (by simp) (by decide) (by simpa using dc) (by simp[aD]) dr (by simp) (by simp) (by simp) (by decide) ?_
    rintro oD Fe DC
    try simp
    refine cN (ae:=IR) (xs:=row) (by simpa using DC) (by simp) ?_
    try simp
    refine a4.mk z1 ?_
    rintro _ _ ⟨rfl,rfl⟩
    try simp
    refine ed _ _ _ ⟨rfl,?_⟩
    simp[he]
    generalize ka.length=z
    rw[Bool.eq_iff_iff]
    simp
    omega
   ·have rY:¬((row.length:Int)=ka.length):=by omega
    simp[rY,aD]
    exact ed _ _ _ ⟨rfl,by simp[he]⟩
  ·rintro bV dz a0 ⟨rfl,B1⟩
   simp only[kt]at B1
   simp at B1
   simp[B1]
   refine bG.mk (fun af=>?_) (fun af=>?_)
   ·have o_:¬(row.length=ka.length/\1<=row.length/\row.length<=8):=fun h=>by
     obtain⟨o,aa,aD⟩:=h
     rw[o]at af
     rw[o]at aa aD
     generalize ka.length=z at af aa aD
     simp at af
     omega
    simp[bj]
    refine aG _ _ ⟨rfl,?_⟩
    have:¬fT t:=fun ao=>by
     have:=((x0.1 ao).2 _ gh).1
     rw[pr]at this
     exact o_ this
    simp[this]
   ·have af:row.length=ka.length/\1<=row.length/\row.length<=8:=by
     simp at af;omega
    simp
    refine dx.mk (by kernel_rfl) (fun m dQ fr bZ=>∃k:Nat,m=row.length-k/\k<=row.length/\dQ 4= .int .i64 (k:Int)/\bZ=a0/\∀x∈row.take k,0<=x/\x<=1000) row.length ⟨0,by omega,by omega,by simp,rfl,by simp⟩ ?_
    rintro m dQ fr bZ ⟨k,rfl,ah,bD,rfl,CG⟩ nW gr
    simp at bD
    simp[aD,bD]
    refine cI (ae:=c7) (xs:=t) (n:=i) (a:=row) (e:=25) (R:=1) (ay:=false) (by simpa using dc) (by simp[aD]) dr (by simp) (by simp) (by simp) (by decide) ?_
    rintro qX u8 DD
    try simp
    refine cN (ae:=IR) (xs:=row) (by simpa using DD) (by simp) ?_
    try simp[aD,bD]
    refine bG.cE (fun ja=>?_) (fun ja=>?_)
    ·refine Exists.elim (⟨_,bt (show k<row.length by omega)⟩:∃p,row[k]?=some p) fun x I=>?_
     simp[aD,bD]
     refine cI (ae:=c7) (xs:=t) (n:=i) (a:=row) (e:=25) (R:=1) (ay:=false) (by simpa using dc) (by simp[aD]) dr (by simp) (by simp) (by simp) (by decide) ?_
     rintro Er M_ Tt
     simp[bD]
     refine cI (ae:=IR) (xs:=row) (n:=k) (a:=x) (e:=3) (R:=1) (ay:=false) (by simpa using Tt) (by simp[bD]) I (by simp) (by simp) (by simp) (by decide) ?_
     rintro xv E8 rfl
     simp
     refine a4.mk z1 ?_
     rintro _ _ ⟨rfl,rfl⟩
     try simp
     have uh:=oN (show k<4611686018427387904 by omega)
     refine bG.mk (fun eX=>?_) (fun eX=>?_)
     rotate_left
     ·simp at eX
      simp[bD,uh]
      refine gr (row.length-(k+1)) _ _ _ (by omega) ⟨k+1,rfl,by omega,by simp,rfl,fun y aL=>?_⟩
      rw[List.take_add_one,I]at aL
      rcases List.mem_append.1 aL with aL | aL
      ·exact CG y aL
      ·simp at aL;subst aL;exact eX
     ·simp at eX
      simp[bj]
      exact no gh (List.mem_of_getElem? I) (by omega)
    ·have R9:k=row.length:=by omega
     simp[aD,hw]
     refine a1 (t.length-(i+1)) _ _ _ (by omega) ⟨i+1,rfl,by omega,by simp,rfl,fun r aj=>?_⟩
     rw[List.take_add_one,dr]at aj
     rcases List.mem_append.1 aj with aj | aj
     ·exact cQ r aj
     ·simp at aj
      subst aj
      rw[R9,List.take_length]at CG
      rw[pr]
      exact⟨af,CG⟩
 ·simp
  refine cN (ae:=c7) (xs:=t) (by simpa using dc) (by simp) ?_
  simp
  refine a4.mk z1 ?_
  rintro _ _ ⟨rfl,rfl⟩
  simp[bj]
  refine aG _ _ ⟨rfl,?_⟩
  rw[List.take_of_length_le (by omega)]at cQ
  have:fT t↔1<=t.length/\t.length<=8:=by
   rw[x0]
   exact⟨fun h=>h.1,fun h=>⟨h,cQ⟩⟩
  simp only[this]
  simp
  rw[Bool.eq_iff_iff]
  simp
  omega
end Go.b_
end
