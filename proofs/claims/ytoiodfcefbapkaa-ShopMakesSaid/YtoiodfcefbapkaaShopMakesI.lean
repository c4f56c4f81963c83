/- Part of the proof of ShopMakes. -/
import Derived.Test.YtoiodfcefbapkaaShopMakesH
set_option linter.unusedVariables false
set_option linter.unusedSimpArgs false
section
set_option maxRecDepth 8000
set_option maxHeartbeats 1000000
namespace Go.b9
open Go.Proofs
open Go.Proofs.Try (prog)
attribute [-simp] fJ gN hI
def eJ(D:Nat)(q:Rat):Prop:=∃z:Int,q*(D:Rat)=(z:Rat)
theorem eJ.add{D:Nat}{a b:Rat}(aF:eJ D a)(ae:eJ D b):eJ D (a+b):=by
 obtain⟨x,I⟩:=aF
 obtain⟨y,aJ⟩:=ae
 exact⟨x+y,by rw[Rat.intCast_add,<-I,<-aJ];grind⟩
theorem eJ.sub{D:Nat}{a b:Rat}(aF:eJ D a)(ae:eJ D b):eJ D (a-b):=by
 obtain⟨x,I⟩:=aF
 obtain⟨y,aJ⟩:=ae
 exact⟨x-y,by rw[Rat.intCast_sub,<-I,<-aJ];grind⟩
theorem eJ.zero(D:Nat):eJ D 0:=⟨0,by simp⟩
theorem eJ.int(z:Int):eJ 1 (z:Rat):=⟨z,by simp⟩
structure ly (D N:Nat) (L:Rat):Prop where
 pos:0<D
 small:D<2^N
 top:∃z:Int,L*(D:Rat)<=(z:Rat)/\z.natAbs<2^N
 bits:N<=1000000
theorem ly.le{D N:Nat}{L FL:Rat}(h:ly D N L)(ar:FL<=L):ly D N FL:=by
 obtain⟨z,aP,cW⟩:=h.top
 exact⟨h.pos,h.small,⟨z,Rat.le_trans (Rat.mul_le_mul_of_nonneg_right ar (by exact_mod_cast Nat.zero_le D)) aP,cW⟩,h.bits⟩
theorem ly.J{D N:Nat}{L q:Rat}(h:ly D N L)(av:eJ D q)(aH:0<=q)(ar:q<=L):c4 N q:=by
 obtain⟨Nu,TF,cW⟩:=h.top
 obtain⟨z,aP⟩:=av
 have ho:(0:Rat)<(D:Rat):=by exact_mod_cast h.pos
 have xd:0<=z:=by
  have:(0:Rat)<=(z:Rat):=by rw[<-aP];exact Rat.mul_nonneg aH (Rat.le_of_lt ho)
  exact_mod_cast this
 have pt:z<=Nu:=by
  have:(z:Rat)<=(Nu:Rat):=by
   rw[<-aP]
   exact Rat.le_trans (Rat.mul_le_mul_of_nonneg_right ar (Rat.le_of_lt ho)) TF
  exact_mod_cast this
 have e:q=Rat.divInt z D:=by
  rw[Rat.divInt_eq_div,<-aP]
  have:((D:Int):Rat)=(D:Rat):=rfl
  rw[this,Rat.mul_div_cancel (by intro h;rw[h]at ho;exact Rat.lt_irrefl ho)]
 rw[e]
 exact c4.divInt (by have:=h.pos;omega) (by omega) h.small
theorem ly.int{z:Int}{N:Nat}(aP:z.natAbs<2^N)(cj:0<N)(ae:N<=1000000):ly 1 N (z:Rat):=
 ⟨by decide,Nat.one_lt_two_pow (by omega),⟨z,by simp,aP⟩,ae⟩
theorem LW(r:List Rat)(k:Nat):ep (r.take k)=bw k (fun i=>r[i]?.getD 0):=by
 induction k with
 | zero=>simp[ep,bw]
 | succ k aV=>
  by_cases ai:k<r.length
  ·rw[LX (bx ai),aV]
   simp[bw,bx ai]
  ·have o:r.take (k+1)=r.take k:=by rw[List.take_of_length_le (by omega),List.take_of_length_le (by omega)]
   rw[o,aV]
   simp only[bw]
   rw[List.getElem?_eq_none (by omega)]
   exact(Rat.add_zero _).symm
theorem WL{r:List Rat}{n:Nat}(h:r.length=n):ep r=bw n (fun i=>r[i]?.getD 0):=by
 rw[<-LW,List.take_of_length_le (by omega)]
theorem XM{k n:Nat}{f:Nat->Rat}(h:k<=n)(aH:∀i,i<n->0<=f i):bw k f<=bw n f:=by
 induction n with
 | zero=>
  obtain rfl:k=0:=by omega
  exact Rat.le_refl
 | succ n aV=>
  by_cases ai:k<=n
  ·have:=aV ai fun i ad=>aH i (by omega)
   have:=aH n (by omega)
   simp only[bw]
   grind
  ·obtain rfl:k=n+1:=by omega
   exact Rat.le_refl
structure e6 (n m:Nat) (t:List (List Rat)):Prop where
 len:t.length=n
 row:∀r∈t,r.length=m
theorem e6.at{n m i:Nat}{t:List (List Rat)}(h:e6 n m t)(ad:i<n):∃r,t[i]?=some r/\r∈t/\r.length=m/\(∀k,r[k]?.getD 0=bN t i k)/\ep r=bw m (bN t i):=by
 have cU:i<t.length:=by rw[h.len];exact ad
 refine⟨_,bx cU,List.getElem_mem cU,h.row _ (List.getElem_mem cU),fun k=>by simp[bN,bx cU],?_⟩
 rw[WL (h.row _ (List.getElem_mem cU))]
 apply fQ
 intro k _
 simp[bN,bx cU]
theorem e6.get{n m i k:Nat}{t:List (List Rat)}(h:e6 n m t)(ad:i<n)(ai:k<m):∃r,t[i]?=some r/\r[k]?=some (bN t i k)/\r.length=m:=by
 obtain⟨r,aS,aM,bh,b0,-⟩:=h.at ad
 refine⟨r,aS,?_,bh⟩
 rw[<-b0,bx (by omega)]
 rfl
theorem e6.mem{n m:Nat}{t:List (List Rat)}(h:e6 n m t){r:List Rat}(aj:r∈t):∃i,i<n/\t[i]?=some r:=by
 obtain⟨i,ad⟩:=List.mem_iff_getElem?.1 aj
 exact⟨i,by have:=(cd.1 ad).1;rw[h.len]at this;exact this,ad⟩
def hW(D:Nat)(t:List (List Rat)):Prop:=∀r∈t,∀q∈r,eJ D q
theorem hW.bN{D:Nat}{t:List (List Rat)}(h:hW D t)(i k:Nat):eJ D (bN t i k):=by
 unfold Go.b9.bN
 cases aj:t[i]? with
 | none=>exact eJ.zero D
 | some r=>
  simp only[Option.getD_some]
  cases av:r[k]? with
  | none=>exact eJ.zero D
  | some q=>exact h r (List.mem_of_getElem? aj) q (List.mem_of_getElem? av)
theorem eJ.sum{D n:Nat}{f:Nat->Rat}(h:∀i,i<n->eJ D (f i)):eJ D (bw n f):=by
 induction n with
 | zero=>exact eJ.zero D
 | succ n aV=>exact(aV fun i ad=>h i (by omega)).add (h n (by omega))
theorem E0{D N n m:Nat}{L:Rat}{t:List (List Rat)}(aL:e6 n m t)(aU:hW D t)(gr:ly D N L)(aH:∀i k,i<n->k<m->0<=bN t i k)(aj:∀i,i<n->bw m (bN t i)<=L):s3 N t:=by
 intro r sc
 obtain⟨i,ad,zN⟩:=aL.mem sc
 obtain⟨di,aS,-,bh,b0,ey⟩:=aL.at ad
 have:di=r:=by rw[zN]at aS;exact(Option.some.inj aS).symm
 subst this
 have key:∀k,k<=m->c4 N (ep (di.take k)):=fun k ai=>by
  have e:ep (di.take k)=bw k (bN t i):=by
   rw[LW];exact fQ fun j _=>b0 j
  rw[e]
  refine gr.J (eJ.sum fun j _=>aU.bN i j) (EV fun j aQ=>aH i j ad (by omega)) ?_
  exact Rat.le_trans (XM ai fun j aQ=>aH i j ad aQ) (aj i ad)
 refine⟨fun k=>?_,fun q av=>?_⟩
 ·by_cases ai:k<=m
  ·exact key k ai
  ·have:=key m (Nat.le_refl m)
   rw[List.take_of_length_le (by omega)]at this⊢
   exact this
 ·obtain⟨k,ai⟩:=List.mem_iff_getElem?.1 av
  have iS:k<m:=by have:=(cd.1 ai).1;omega
  have e:q=bN t i k:=by rw[<-b0,ai];rfl
  rw[e]
  refine gr.J (aU.bN i k) (aH i k ad iS) (Rat.le_trans (ET (fun j aQ=>aH i j ad aQ) iS) (aj i ad))
theorem j6.le{n:Nat}{B:Nat->Nat->Rat}{L:Rat}(h:j6 n B L){i k:Nat}(ad:i<n)(ai:k<n):B i k<=L:=by
 rw[<-h.row i ad];exact ET (fun k ai=>h.ik i k ad ai) ai
theorem AJ{n:Nat}{f g:Nat->Nat}(h:∀i,i<n->f i=g i):kR n f=kR n g:=Nat.le_antisymm (AK fun i ad=>Nat.le_of_eq (h i ad)) (AK fun i ad=>Nat.le_of_eq (h i ad).symm)
theorem l9.congr{n:Nat}{A B kq:Nat->Nat->Rat}{L:Rat}{aZ:List (Rat×List Int)}(h:l9 n A L aZ B)(e:∀i k,i<n->k<n->kq i k=B i k):l9 n A L aZ kq:=by
 refine⟨⟨fun i k ad ai=>by rw[e i k ad ai];exact h.kk.ik i k ad ai,fun i ad=>?_,fun k ai=>?_⟩,h.parts,fun i k ad ai=>by rw[e i k ad ai];exact h.sum i k ad ai,?_,?_⟩
 ·rw[<-h.kk.row i ad];exact fQ fun k ai=>e i k ad ai
 ·rw[<-h.kk.rv k ai];exact fQ fun i ad=>e i k ad ai
 ·have:mQ n kq=mQ n B:=AJ fun i ad=>AJ fun k ai=>by rw[e i k ad ai]
  rw[this];exact h.mm
 ·obtain⟨a,b,t1,t2⟩:=h.E4
  exact⟨a,b,fun s an=>let⟨aS,aM,bh,b0⟩:=t1 s an;⟨aS,aM,bh,by rw[e _ _ aS aM];exact b0⟩,t2⟩
def kl(f:Nat->Rat):Nat->Rat
 | 0=>f 0
 | n+1=>if f n<kl f n then f n else kl f n
theorem VV(f:Nat->Rat){n i:Nat}(ad:i<n):kl f n<=f i:=by
 induction n with
 | zero=>omega
 | succ n aV=>
  simp only[kl]
  by_cases eT:i=n
  ·subst eT
   split
   ·exact Rat.le_refl
   ·rename_i h;exact Rat.not_lt.1 h
  ·have:=aV (by omega)
   split
   ·rename_i h;exact Rat.le_trans (Rat.le_of_lt h) this
   ·exact this
theorem Le(f:Nat->Rat)(n:Nat)(aE:0<n):∃i,i<n/\kl f n=f i:=by
 have key:∀n,∃i,(i<n\/i=0)/\kl f n=f i:=by
  intro n
  induction n with
  | zero=>exact⟨0,.inr rfl,rfl⟩
  | succ n aV=>
   obtain⟨i,o,aa⟩:=aV
   simp only[kl]
   split
   ·exact⟨n,.inl (by omega),rfl⟩
   ·exact⟨i,by omega,aa⟩
 obtain⟨i,o,aa⟩:=key n
 exact⟨i,by omega,aa⟩
def je(H:ab)(v:Value)(p:Rat×List Int):Prop:=∃s1 b1 dx cG s2 ds dF dh fj jA fk,v= .agg #[.bool s1,.slice b1 dx cG,.bool s2,.slice ds dF dh,.slice fj jA fk]/\b4 H (.agg #[.bool s1,.slice b1 dx cG,.bool s2,.slice ds dF dh]) p.1/\Row 3 1 false IR H (.slice fj jA fk) p.2
instance:bM je:=⟨fun⟨s1,b1,dx,cG,s2,ds,dF,dh,fj,jA,fk,h,o,aa⟩ I=>⟨s1,b1,dx,cG,s2,ds,dF,dh,fj,jA,fk,h,o.ext I,bM.ext (af:=Row _ _ _ IR) aa I⟩⟩
theorem je.iv{H:ab}{v:Value}{p:Rat×List Int}(h:je H v p):Whole prog 68 v:=by
 obtain⟨s1,b1,dx,cG,s2,ds,dF,dh,fj,jA,fk,rfl,-⟩:=h
 exact⟨by rfl,by simp[Value.cells,Value.oneCell'],by simp[eB]⟩
theorem je.kept{H aC:ab}{e:Nat}{s v:Value}{p:Rat×List Int}(h:je H v p)(ai:Kept H aC s e)(o:95≠e)(aa:3≠e):je aC v p:=by
 obtain⟨s1,b1,dx,cG,s2,ds,dF,dh,fj,jA,fk,rfl,aS,aM⟩:=h
 exact⟨s1,b1,dx,cG,s2,ds,dF,dh,fj,jA,fk,rfl,aS.kept ai o,aM.kept ai aa fun _ _ h=>h⟩
theorem dQ.other{α:Type}{k bo e J cI:Nat}{ay:Bool}{af:ab->Value->α->Prop}{H aC:ab}{v s:Value}{t:List (List α)}{us:List Value}(h:dQ k bo e J ay af H v t us)(ai:Kept H aC s cI)(o:bo≠cI)(aa:e≠cI)(bl:∀u x,af H u x->af aC u x):dQ k bo e J ay af aC v t us:=
 ⟨h.pos,h.own.other ai o fun _ _ h=>h,h.len,fun i row u aS aM=>(h.rows i row u aS aM).other ai aa bl,h.oV⟩
theorem bz.a9{α:Type}{f:FuncId}{args:List Value}{H:ab}{k e J:Nat}{ay:Bool}{af:ab->Value->α->Prop}{xs:List α}(h:a0 prog f args H (fun u H1=>Ext H H1/\bz k e J ay af H1 u xs)):a0 prog f args H (fun u H1=>Ext H H1/\∃a c,u= .slice a xs.length c/\bz k e J ay af H1 (.slice a xs.length c) xs):=
 h.mono fun u H1 ⟨I,aK⟩=>by
  obtain⟨a,c,rfl⟩:=aK.len
  exact⟨I,a,c,rfl,aK⟩
theorem xo{v:Value}{t:List (List Rat)}{dS:List Rat}{n:Nat}{H:ab}(bc:hl H v t)(aH:t[0]?=some dS)(aE:dS.length=n):a0 prog 44 [.agg #[v]] H (fun w H1=>Ext H H1/\w= .int .i64 n):=by
 subst aE
 exact Ee bc aH
theorem z3{v:Value}{t:List (List Rat)}{n:Nat}{H:ab}(bc:hl H v t)(aE:t.length=n):a0 prog 43 [.agg #[v]] H (fun w H1=>Ext H H1/\w= .int .i64 n):=by
 subst aE
 exact KR bc
theorem HG{a b:Rat}:((if a<b then(-1:Int)else if a=b then 0 else 1)<0)↔a<b:=by
 by_cases o:a<b
 ·simp[o]
 ·by_cases aa:a=b
  ·simp[aa]
  ·simp[o,aa]
theorem Yg{d:Nat}{x y:Operand}{r:List br}{F:Fr}{H:ab}{Q:Fr->ab->Prop}{q:Rat}{fz:List Int}{aw:a_ (eS d 68 [(0,x),(1,y)]::r) Q}(I:b4 H (aq F x) q)(aJ:Row 3 1 false IR H (aq F y) fz)
  (K:∀u,je H u (q,fz)->a8 prog r Q .mk (aX F d u) H):a8 prog (eS d 68 [(0,x),(1,y)]::r) Q aw F H:=by
 obtain⟨s1,b1,dx,cG,s2,ds,dF,dh,ao,o,aa⟩:=e_.shape I
 obtain⟨fj,fk,hw⟩:=aJ.len
 have bl:je H (.agg #[.bool s1,.slice b1 dx cG,.bool s2,.slice ds dF dh,.slice fj fz.length fk]) (q,fz):=⟨s1,b1,dx,cG,s2,ds,dF,dh,fj,_,fk,rfl,by rw[<-ao];exact I,by rw[<-hw];exact aJ⟩
 have:=K _ bl
 simp[ao,hw]
 exact this
attribute [-simp] NS
theorem e6.set{n m j:Nat}{t:List (List Rat)}{di:List Rat}(h:e6 n m t)(aj:di.length=m):e6 n m (t.set j di):=
 ⟨by simp[h.len],fun r b7=>by
  rcases List.mem_or_eq_of_mem_set b7 with b7 | rfl
  ·exact h.row r b7
  ·exact aj⟩
theorem hW.set{D j:Nat}{t:List (List Rat)}{di:List Rat}(h:hW D t)(aj:∀q∈di,eJ D q):hW D (t.set j di):=fun r b7=>by
 rcases List.mem_or_eq_of_mem_set b7 with b7 | rfl
 ·exact h r b7
 ·exact aj
theorem H5{t:List (List Rat)}{r:List Rat}{j i:Nat}{x:Rat}(aQ:t[j]?=some r)(ad:i<r.length)(dC bK:Nat):bN (t.set j (r.set i x)) dC bK=if dC=j/\bK=i then x else bN t dC bK:=by
 have fO:=(cd.1 aQ).1
 unfold bN
 by_cases o:dC=j
 ·subst o
  rw[List.getElem?_set_self fO,aQ]
  simp only[Option.getD_some,true_and]
  by_cases aa:bK=i
  ·subst aa;rw[List.getElem?_set_self ad];simp
  ·rw[List.getElem?_set_ne (by omega),if_neg aa]
 ·rw[List.getElem?_set_ne (by omega),if_neg (fun h=>o h.1)]
theorem Wr{n:Nat}{B kq:Nat->Nat->Rat}(e:∀i k,i<n->k<n->kq i k=B i k):mQ n kq=mQ n B:=AJ fun i ad=>AJ fun k ai=>by rw[e i k ad ai]
theorem Vp{H:ab}{b e:Nat}{l:Bool}{cs:List Value}{X:bA}(h:H[b]?=some (.own e l cs)):Kept H (H.set b X) (.slice (some ⟨b,0,none⟩) 0 0) e:=fun ca Y lH ae=>by
 by_cases lI:b=ca
 ·subst lI
  rw[h]at lH
  exact absurd (by rw[<-Option.some.inj lH];rfl) (ae ⟨0,0,0,rfl⟩)
 ·rw[List.getElem?_set_ne lI];exact lH
theorem hC.fresh{fh H:ab}{gI n:Nat}{gZ gv f_ AL:Value}{t:List (List Rat)}{bT:List Int}{c6 cy:List Bool}(h:hC fh H gI n gZ gv f_ t bT c6)(cL:bz fh.length 4 1 false kU H AL cy):hC fh (H.set gI (.own 92 false [gZ,gv,AL])) gI n gZ gv AL t bT cy:=by
 have ai:=Vp (X:= .own 92 false [gZ,gv,AL]) h.eL
 exact⟨h.pos,h.ext.set h.xq (by simp),h.gM,h.uR,h.uL,h.small,h.xq,List.getElem?_set_self (cd.1 h.eL).1,h.nD.other ai (by decide) fun _ _ h=>h,cL.other ai (by decide) fun _ _ h=>h⟩
theorem hC.next{fh H:ab}{gI n sF:Nat}{gZ gv f_:Value}{t:List (List Rat)}{bT:List Int}{L:Rat}(ar:j6 n (bN t) L)(cr:0<L)(gh:me n (bN t) sF bT)(bt:sF<n)(h:hC fh H gI n gZ gv f_ t bT (List.replicate n false)):
  a0 prog 46 [.pointer (some ⟨gI,0,none⟩),.int .i64 sF] H (fun u H1=>∃g3 cy,u= .bool true/\me n (bN t) (sF+1) g3/\hC fh H1 gI n gZ gv f_ t g3 cy):=
 (find_spec n (n+1) (by unfold oG;rw[List.count_replicate];simp;) h (by simp) gh.ok bt).mono fun u H1 ⟨b,g3,cy,hu,bl,bE⟩=>by
  obtain⟨rfl,aa⟩:=me.next ar.ik ar.row ar.rv cr gh bt bl
  exact⟨g3,cy,hu,aa,bE⟩
theorem Oy{v:Value}{t:List (List Rat)}{n N D:Nat}{L:Rat}{H:ab}(bc:hl H v t)(aL:e6 n n t)(aE:0<n)(r2:n<65536)(ar:j6 n (bN t) L)(aU:hW D t)(gr:ly D N L):
  a0 prog 25 [.agg #[v]] H (fun u H1=>Ext H H1/\∃aZ,rf n (bN t) L aZ/\(∀p∈aZ,eJ D p.1)/\Row 68 5 true je H1 u aZ):=by
 refine a0.cq fun Q aG=>?_
 have mD:=aL.len
 apply UM (by simp)
 obtain⟨a,c,rfl⟩:=Row.len bc
 simp[G3]
 have ck:Ext H (H++[.dead]):=Ext.dead H
 refine cY (af:=iw) (xs:=t) (by simpa using bc.ext ck) (by simp) ?_
 simp
 obtain⟨jd,II⟩:∃jd,jd=H++[bA.dead]:=⟨_,rfl⟩
 have vJ:0<jd.length:=by rw[II];simp
 rw[<-II]at ck⊢
 have QD:=bc.ext ck
 refine dy.range (by kernel_rfl) t.length (by omega) (by simp) (by rfl) (by simp) (by decide) (by decide) (fun i bQ dq aY=>Ext jd aY/\∃us,dQ jd.length 84 44 4 true b4 aY (bQ 3) (t.take i) us) ?_ ?_ ?_
 ·exact⟨Ext.refl _,[],by simpa using dQ.nil _ _ _ _ _ _ _ vJ⟩
 ·rintro i bQ dq aY ad a2 ⟨bu,us,gU⟩ K a1
  simp at a2 gU
  simp[a2]
  obtain⟨row,db⟩:∃row,t[i]?=some row:=⟨_,bx ad⟩
  have wU:=aL.row row (List.mem_of_getElem? db)
  refine cK (af:=iw) (xs:=t) (n:=i) (a:=row) (e:=84) (J:=1) (ay:=false) (by simpa using bM.ext QD bu) (by simp[a2]) db (by simp) (by simp) (by simp) (by decide) ?_
  intro dp Fi oh
  simp
  refine a7.mk (Ob oh (by omega)) ?_
  rintro w bZ ⟨bP,hw⟩
  have PV:=Ext.len bu
  have v9:=dQ.ext gU bP
  have qG:=hw.le PV
  have Tv:=hw.iv
  refine AV (k:=jd.length) (e:=84) (J:=1) (ay:=false) (bs:=24) (z:= .slice none 0 0) (af:=fK) (xs:=us) (a:=w) (by simpa using v9.own) (by simp[fK]) (by simpa using Tv) (by simp) (fun _ _ _ _ _ h=>h) (by simp) (by simp) (by simp) (by simp) (by simp) (by rfl) (by rfl) (by rfl) (by rfl) (by decide) (by decide) (by decide) (by have:=gU.len;simp at this;omega) (by have:=Ext.len bP;omega) ?_
  intro ox u2 cE hp cA ke qn r0
  simp at ke qn
  have qD:=dQ.snoc (cx:=aY) (nF:=aY.length) v9 (fun b aH ae=>(hw.ge ae aH).1) (fun j u b hu ae aH=>gU.lt j u b hu ae aH) (by decide) qG hp ke (fun u x h=>h.kept ke (by decide))
  simp
  refine a1 _ _ _ (by simp[a2]) ⟨cA _ (Nat.le_refl _) (bu.aB bP),us++[w],?_⟩
  rw[List.take_succ_eq_append_getElem ad]
  have:t[i]=row:=(cd.1 db).2
  rw[this]
  simpa using qD
 ·rintro bQ dq Bg a2 ⟨KD,us,yX⟩
  simp at yX
  obtain⟨dR,lc,pa⟩:=yX.own.len
  have PM:=Ext.len KD
  obtain⟨hb,pb⟩:∃hb,hb=Value.slice dR us.length lc:=⟨_,rfl⟩
  rw[pa,<-pb]at yX
  simp[pa]
  rw[<-pb]
  obtain⟨Bh,IJ⟩:∃Bh,Bh=Bg++[bA.dead]:=⟨_,rfl⟩
  have KE:Ext Bg Bh:=by rw[IJ];exact Ext.dead Bg
  rw[<-IJ]
  refine dy.mk (by kernel_rfl) (fun w dG e7 bZ=>∃hh us aZ,w=mQ n (bN hh)/\Ext jd bZ/\dQ jd.length 84 44 4 true b4 bZ hb hh us/\bz jd.length 68 5 true je bZ (dG 7) aZ/\e6 n n hh/\hW D hh/\l9 n (bN t) L aZ (bN hh)/\(∀p∈aZ,eJ D p.1)) (mQ n (bN t)) ?_ ?_
  ·exact⟨t,us,[],rfl,KD.aB KE,yX.ext KE,by simpa using bz.nil _ _ _ _ _ _,aL,aU,l9.zero ar,by simp⟩
  ·rintro w dG e7 bZ ⟨hh,Z8,aZ,rfl,bP,v9,Cq,rT,o7,kG,zr⟩ K a1
   obtain⟨dS,eV,oe,qB,J6,wT⟩:=rT.at aE
   simp at Cq
   simp
   have Cb:ly D N (L-eC aZ):=gr.le (by have:=(Er fun p aT=>(kG.parts p aT).1).1;grind)
   have J_:=E0 rT o7 Cb (fun i k ad ai=>kG.kk.ik i k ad ai) fun i ad=>by rw[kG.kk.row i ad];exact Rat.le_refl
   have Cu:hl bZ hb hh:=v9.row
   have yL:=rT.len
   refine a7.mk (pz (j:=0) Cu eV (by omega) (by omega) (J_ dS oe).1 (J_ dS oe).2 gr.bits) ?_
   rintro qZ bR ⟨b5,mC⟩
   rw[wT,kG.kk.row 0 aE]at mC
   simp
   refine a7.mk (Ez mC) ?_
   rintro u b_ ⟨c1,rfl⟩
   have pq:=b5.aB c1
   simp
   refine bG.cC (fun ag=>?_) (fun ag=>?_)
   ·have Qb:0<L-eC aZ:=by
     have:¬(L-eC aZ<=0):=fun h=>by have:=xN.2 h;omega
     exact Rat.not_le.1 this
    simp
    refine AR (e:=3) (J:=1) (ay:=false) (z:= .int .i64 0) (af:=IR) (a:= -1) (fun aC _=>by simp[IR]) (by simpa using kS (-1)) (by simp) (by simp) (by simp) (by rfl) (by rfl) (by rfl) (by decide) (by decide) ?_
    intro agy dX o1 cH
    simp
    have Qv:=hl.ext Cu (pq.aB cH)
    refine a7.mk (xo Qv eV qB) ?_
    rintro u cE ⟨cA,rfl⟩
    refine⟨cA,?_⟩
    simp
    refine a7.mk (bz.a9 (L6 (af:=IR) (bM.ext (af:=Row _ _ _ IR) o1.row cA) r2 (fun H u y h=>by rw[h];exact kS y) (fun _ _ _ _ _ _ h=>h))) ?_
    rintro _ eE ⟨c9,lV,lW,rfl,fm⟩
    refine⟨c9,?_⟩
    simp
    have Kz:=cH.aB (cA.aB c9)
    have adW:=Ext.len cH
    have R2:=Ext.len Kz
    have KB:Ext eE (eE++[.own 92 false [hb,.slice lV n lW,.slice none 0 0]]):=(Ext.refl eE).snoc _ _ _
    have adX:=Ext.len cA
    have Cj:hC b_ (eE++[.own 92 false [hb,.slice lV n lW,.slice none 0 0]]) eE.length n hb (.slice lV n lW) (.slice none 0 0) hh (List.replicate n (-1)) []:=
     ⟨by have:=Ext.len pq;have:=Ext.len bP;omega,Kz.aB KB,hl.ext Cu pq,yL,rT.row,r2,R2,by simp,bM.ext (af:=bz _ _ _ _ IR) (by simpa using fm.le (bK:=b_.length) (by omega)) KB,bz.nil _ _ _ _ _ _⟩
    have Qw:=Cj.gM.ext Cj.ext
    refine a7.mk (z3 Qw yL) ?_
    rintro u mb ⟨fF,rfl⟩
    have Qc:=Cj.more fF
    simp
    refine dy.range (by kernel_rfl) n (by omega) (by simp) (by rfl) (by simp) (by decide) (by decide) (fun sF pR sS hU=>∃bT f_ c6,hC b_ hU eE.length n hb (.slice lV n lW) f_ hh bT c6/\me n (bN hh) sF bT) ?_ ?_ ?_
    ·exact⟨_,_,_,Qc,me.zero _ _⟩
    ·rintro sF pR sS hU Ta yM ⟨bT,f_,c6,o0,yR⟩ FK nj
     simp at yM
     have Ct:=o0.gM.ext o0.ext
     simp[yM]
     refine a7.mk (xo Ct eV qB) ?_
     rintro u h3 ⟨hG,rfl⟩
     have rJ:=o0.more hG
     have JI:=Ext.len rJ.ext
     refine AT (e:=4) (J:=1) (bs:=1) (ay:=false) (n:=n) (eo:= .i64) (cB:= .i64) (z:= .bool false) (af:=kU) (a:=false) (by simp) (by simp) (by simp) (by rfl) (by rfl) (by simp) (A8 false) (by simp) (by simp) (by decide) (by decide) (by omega) (fun aC=>rfl) ?_
     intro aew ij kX jM iE
     have nk:=rJ.more iE
     have y7:=nk.eL
     have Qd:=nk.fresh (jM.le JI)
     simp[y7]
     refine a7.mk (hC.next kG.kk Qb yR Ta Qd) ?_
     rintro u ri ⟨g3,cy,rfl,Qg,Qe⟩
     exact nj _ _ _ (by simp[yM]) ⟨g3,_,cy,Qe,Qg⟩
    ·rintro pR sS hU yM ⟨bT,f_,c6,o0,yR⟩
     have Rf:=o0.eL
     have mB:=yR.perm.1
     have hP:=yR.perm.2
     refine Exists.elim (mB.dD 0 aE) fun z2 aQ=>?_
     have tR:=aQ.1
     have JL:=aQ.2
     refine Exists.elim (rT.get tR aE) fun L7 aj=>?_
     have SP:=aj.1
     have SQ:=aj.2.1
     have Ct:=o0.gM.ext o0.ext
     simp[Rf]
     refine cK (af:=IR) (xs:=bT) (n:=0) (a:=(z2:Int)) (e:=3) (J:=1) (ay:=false) (by simpa using o0.nD.row) (by simp) JL (by simp) (by simp) (by simp) (by decide) ?_
     rintro Ak M4 rfl
     refine cK (af:=iw) (xs:=hh) (n:=z2) (a:=L7) (e:=84) (J:=1) (ay:=false) (by simpa using Ct) (by simp) SP (by simp) (by simp) (by simp) (by decide) ?_
     intro uD E_ DC
     refine cK (af:=b4) (xs:=L7) (n:=0) (a:=bN hh z2 0) (e:=44) (J:=4) (ay:=true) (by simpa using DC) (by simp) SQ (by simp) (by simp) (by simp) (by decide) ?_
     intro Al Fa zP
     simp
     refine ev.mk zP.whole ?_
     have rJ:=o0.more (Ext.dead hU)
     have Rg:=rJ.eL
     have fO:bT.length=n:=mB.len
     simp[Rg]
     refine cY (af:=IR) (xs:=bT) (by simpa using rJ.nD.row) (by simp) ?_
     simp[fO]
     refine Exists.elim (⟨fun k=>bN hh (bT[k]?.getD 0).toNat k,rfl⟩:∃f:Nat->Rat,f=fun k=>bN hh (bT[k]?.getD 0).toNat k) fun f ax=>?_
     have RC:f 0=bN hh z2 0:=by rw[ax];simp[JL]
     have za:∀k j:Nat,bT[k]?=some (j:Int)->f k=bN hh j k:=fun k j h=>by rw[ax];simp[h]
     have nu:∀k,k<n->c4 N (f k):=fun k ai=>by
      obtain⟨j,aS,aM⟩:=mB.dD k ai
      rw[za k j aM]
      exact Cb.J (o7.bN j k) (kG.kk.ik j k aS ai) (kG.kk.le aS ai)
     have wL:∀k,k<=n->c4 N (kl f k):=fun k ai=>by
      by_cases qt:k=0
      ·subst qt;exact nu 0 aE
      ·obtain⟨i,aS,aM⟩:=Le f k (by omega)
       rw[aM];exact nu i (by omega)
     refine dy.range (by kernel_rfl) n (by omega) (by simp) (by rfl) (by simp) (by decide) (by decide) (fun i FA x7 kX=>Ext (hU++[.dead]) kX/\b4 kX (x7 11) (kl f i)) ?_ ?_ ?_
     ·refine⟨Ext.refl _,?_⟩
      simp only[kl,RC]
      simpa using zP.ext (Ext.dead hU)
     ·rintro i FA x7 kX ad tn ⟨iE,pd⟩ NF qc
      simp at tn pd
      refine bV.join (by kernel_rfl) (fun Nz FF ri=>Ext kX ri/\b4 ri (FF 11) (kl f (i+1))) ?_ ?_
      ·rintro abJ IS-
       have nk:=rJ.more iE
       have Qu:=nk.gM.ext nk.ext
       refine Exists.elim (mB.dD i ad) fun j aQ=>?_
       have o8:=aQ.1
       have lh:=aQ.2
       have C1:=za i j lh
       refine Exists.elim (rT.get o8 ad) fun j0 aj=>?_
       simp[tn]
       refine cK (af:=IR) (xs:=bT) (n:=i) (a:=(j:Int)) (e:=3) (J:=1) (ay:=false) (by simpa using nk.nD.row) (by simp[tn]) lh (by simp) (by simp) (by simp) (by decide) ?_
       rintro Ep Fb rfl
       simp[tn]
       refine cK (af:=iw) (xs:=hh) (n:=j) (a:=j0) (e:=84) (J:=1) (ay:=false) (by simpa using Qu) (by simp) aj.1 (by simp) (by simp) (by simp) (by decide) ?_
       intro LC u16 Td
       simp
       refine cK (af:=b4) (xs:=j0) (n:=i) (a:=bN hh j i) (e:=44) (J:=4) (ay:=true) (by simpa using Td) (by simp) aj.2.1 (by simp) (by simp) (by simp) (by decide) ?_
       intro xz Z2 zQ
       simp
       refine ev.mk zQ.whole ?_
       simp
       have hs:=Ext.dead kX
       have hQ:=nu i ad
       rw[C1]at hQ
       refine a7.mk (uG (zQ.ext hs) (pd.ext hs) hQ (wL i (by omega)) gr.bits) ?_
       rintro w jc ⟨iF,rfl⟩
       simp
       refine bG.cC (fun ag=>?_) (fun ag=>?_)
       ·have a3:=HG.1 ag
        simp
        refine ev.mk zQ.whole ?_
        refine IS _ _ _ ⟨hs.aB iF,?_⟩
        simp only[kl,C1,if_pos a3]
        simpa using zQ.ext (hs.aB iF)
       ·have a3:=fun h=>ag (HG.2 h)
        refine IS _ _ _ ⟨hs.aB iF,?_⟩
        simp only[kl,C1,if_neg a3]
        simpa using pd.ext (hs.aB iF)
      ·rintro Nz FF ri ⟨mI,Sg⟩
       exact qc _ _ _ (by simp[tn]) ⟨iE.aB mI,by simpa using Sg⟩
     ·rintro FA x7 kX tn ⟨iE,pd⟩
      simp at pd
      have nk:=rJ.more iE
      have y7:=nk.eL
      have DQ:=pq.aB nk.ext
      have rM:=v9.ext DQ
      have Qq:=bM.ext (af:=bz jd.length 68 5 true je) Cq DQ
      have PS:=bP.aB DQ
      refine Exists.elim (⟨(kl f n,bT),rfl⟩:∃p:Rat×List Int,p=(kl f n,bT)) fun p aT=>?_
      have r5:p.1=kl f n:=by rw[aT]
      have qA:p.2=bT:=by rw[aT]
      have zj:∀k j:Nat,k<n->p.2[k]?=some (j:Int)->p.1<=bN hh j k:=fun k j ai aQ=>by
       rw[qA]at aQ
       rw[r5,<-za k j aQ]
       exact VV f ai
      have la:∃k j:Nat,k<n/\j<n/\p.2[k]?=some (j:Int)/\p.1=bN hh j k:=by
       obtain⟨k,ai,e⟩:=Le f n aE
       obtain⟨j,aS,aM⟩:=mB.dD k ai
       exact⟨k,j,ai,aS,by rw[qA];exact aM,by rw[r5,e];exact za k j aM⟩
      have JW:0<p.1:=by
       obtain⟨k,j,ai,aQ,aS,aM⟩:=la
       rw[aM]
       exact hP k j ai (by rw[<-qA];exact aS)
      have JZ:eJ D p.1:=by
       obtain⟨k,j,ai,aQ,aS,aM⟩:=la
       rw[aM]
       exact o7.bN j k
      have r7:c4 N p.1:=by rw[r5];exact wL n (Nat.le_refl n)
      simp[y7]
      refine cY (af:=IR) (xs:=bT) (by simpa using nk.nD.row) (by simp) ?_
      simp[fO]
      refine dy.range (by kernel_rfl) n (by omega) (by simp) (by rfl) (by simp) (by decide) (by decide) (fun i FC FG nP=>∃kr sL,Ext jd nP/\dQ jd.length 84 44 4 true b4 nP hb kr sL/\bz jd.length 68 5 true je nP (dG 7) aZ/\Row 3 1 false IR nP (.slice lV n lW) bT/\b4 nP (x7 11) p.1/\nP[eE.length]?=some (.own 92 false [hb,.slice lV n lW,f_])/\e6 n n kr/\hW D kr/\∀j k,j<n->k<n->bN kr j k=if k<i then iZ (bN hh) p j k else bN hh j k) ?_ ?_ ?_
      ·exact⟨hh,Z8,PS,rM,Qq,nk.nD.row,by rw[r5];exact pd,y7,rT,o7,fun j k _ _=>by simp⟩
      ·rintro i FC FG nP ad tp ⟨kr,sL,qJ,v7,Cp,yO,zL,CP,y8,wC,wz⟩ abK P6
       simp at tp
       refine Exists.elim (mB.dD i ad) fun j aQ=>?_
       have o8:=aQ.1
       have lh:=aQ.2
       refine Exists.elim (y8.get o8 ad) fun j0 aj=>?_
       refine Exists.elim (v7.oB aj.1) fun u1 hu=>?_
       have I6:=v7.own.row
       simp[tp]
       refine cK (af:=IR) (xs:=bT) (n:=i) (a:=(j:Int)) (e:=3) (J:=1) (ay:=false) (by simpa using yO) (by simp[tp]) lh (by simp) (by simp) (by simp) (by decide) ?_
       rintro aeC afT rfl
       simp[tp]
       refine cK (af:=fK) (xs:=sL) (n:=j) (a:=u1) (e:=84) (J:=1) (ay:=false) (by simpa using I6) (by simp) hu.1 (by simp) (by simp) (by simp) (by decide) ?_
       rintro Wg Fc rfl
       simp
       refine cK (af:=fK) (xs:=sL) (n:=j) (a:=Fc) (e:=84) (J:=1) (ay:=false) (by simpa using I6) (by simp) hu.1 (by simp) (by simp) (by simp) (by decide) ?_
       rintro Wh Z3 rfl
       simp
       refine cK (af:=b4) (xs:=j0) (n:=i) (a:=bN kr j i) (e:=44) (J:=4) (ay:=true) (by simpa using hu.2.row) (by simp) aj.2.1 (by simp) (by simp) (by simp) (by decide) ?_
       intro Wi Z4 DD
       simp
       have Jk:bN kr j i=bN hh j i:=by rw[wz j i o8 ad,if_neg (Nat.lt_irrefl i)]
       have SX:c4 N (bN kr j i):=by rw[Jk];exact Cb.J (o7.bN j i) (kG.kk.ik j i o8 ad) (kG.kk.le o8 ad)
       refine a7.mk (EA DD zL SX r7 gr.bits) ?_
       rintro w Be ⟨hX,hw⟩
       refine⟨hX,?_⟩
       have CA:=v7.ext hX
       have Cn:=bM.ext (af:=bz jd.length 44 4 true b4) hu.2 hX
       refine ja (k:=jd.length) (e:=44) (J:=4) (ay:=true) (n:=i) (af:=b4) (xs:=j0) (a:=bN kr j i-p.1) (by simpa using Cn) (by simp) (by rw[aj.2.2];exact ad) (by simpa using hw) (by simpa using hw.whole) (by simp) (fun aC de u y ai h=>h.kept ai (by decide)) (by simp) (by simp) (by simp) (by decide) ?_
       rintro Wj Bf vW DP mz R1-
       simp at vW mz
       have ai:∀u x,b4 Be u x->b4 Bf u x:=fun u x h=>h.kept mz (by decide)
       simp
       refine P6 _ _ _ (by simp[tp]) ⟨kr.set j (j0.set i (bN kr j i-p.1)),sL,?_,CA.inner hu.1 (by decide) mz vW ai,?_,?_,ai _ _ (zL.ext hX),?_,?_,?_,?_⟩
       ·exact DP _ (Nat.le_refl _) (qJ.aB hX)
       ·exact(bM.ext (af:=bz jd.length 68 5 true je) Cp hX).other mz (by decide) fun u x h=>h.kept mz (by decide) (by decide)
       ·exact(bM.ext (af:=Row _ _ _ IR) yO hX).kept mz (by decide) fun _ _ h=>h
       ·exact mz _ _ (hX.get_some CP) fun _=>by simp[bA.elem?]
       ·exact y8.set (by rw[List.length_set];exact aj.2.2)
       ·refine wC.set fun q av=>?_
        rcases List.mem_or_eq_of_mem_set av with av | rfl
        ·exact wC j0 (List.mem_of_getElem? aj.1) q av
        ·exact(wC.bN j i).sub JZ
       ·intro dC bK my ic
        rw[H5 aj.1 (by rw[aj.2.2];exact ad)]
        have r6:p.2[i]?=some (j:Int):=by rw[qA];exact lh
        by_cases eU:bK=i
        ·subst eU
         rw[if_pos (Nat.lt_succ_self _)]
         by_cases JE:dC=j
         ·subst JE
          rw[if_pos ⟨rfl,rfl⟩,Jk]
          unfold iZ gJ
          rw[if_pos r6]
         ·rw[if_neg (fun h=>JE h.1),wz dC bK my ic,if_neg (Nat.lt_irrefl _)]
          unfold iZ gJ
          rw[r6,if_neg (by simp;omega)]
          grind
        ·rw[if_neg (fun h=>eU h.2),wz dC bK my ic]
         by_cases a3:bK<i
         ·rw[if_pos a3,if_pos (by omega)]
         ·rw[if_neg a3,if_neg (by omega)]
      ·rintro FC FG nP tp ⟨kr,sL,qJ,v7,Cp,yO,zL,CP,y8,wC,wz⟩
       have he:∀j k,j<n->k<n->bN kr j k=iZ (bN hh) p j k:=fun j k aQ ai=>by rw[wz j k aQ ai,if_pos ai]
       have JY:jF n p.2:=by rw[qA];exact mB
       have R8:=kG.kk.less JY JW zj la
       have Sl:=(kG.next JY JW zj la).congr he
       have Sz:=Wr he
       have wB:aZ.length<=n*n:=by have:=kG.mm;have:=LL n (bN t);omega
       have r3:n*n<=65536*65536:=Nat.mul_le_mul (by omega) (by omega)
       have adv:=Ext.len qJ
       simp[CP]
       refine Yg (q:=p.1) (fz:=p.2) (by simpa using zL) (by rw[qA];simpa using yO) ?_
       intro afU Kg
       refine q6 (k:=jd.length) (e:=68) (J:=5) (ay:=true) (bs:=88) (z:= .agg #[.bool false,.slice none 0 0,.bool false,.slice none 0 0,.slice none 0 0]) (af:=je) (xs:=aZ) (a:=p) (by simpa using Cp) (by simpa using Kg) (by simpa using Kg.iv) (by simp) (fun aC de u y ai h=>h.kept ai (by decide) (by decide)) (by simp) (by simp) (by simp) (by simp) (by simp) (by rfl) (by rfl) (by first | rfl | simp[flat,gB]) (by rfl) (by decide) (by decide) (by decide) (by omega) (by omega) ?_
       intro aeD agm abH Ql uh C_
       simp at C_
       simp
       refine a1 (mQ n (bN kr)) _ _ _ (by rw[Sz];exact R8.2) ⟨kr,sL,aZ++[p],rfl,uh _ (Nat.le_refl _) qJ,v7.other C_ (by decide) (by decide) fun u x h=>h.kept C_ (by decide),by simpa using Ql,y8,wC,Sl,?_⟩
       intro q av
       rcases List.mem_append.1 av with av | av
       ·exact zr q av
       ·rw[List.mem_singleton.1 av];exact JZ
   ·have Qa:¬0<L-eC aZ:=fun h=>ag (by
     have:¬(L-eC aZ<=0):=Rat.not_le.2 h
     have:=mt xN.1 this
     omega)
    simp[bj]
    exact aG _ _ ⟨ck.aB (bP.aB pq),aZ,kG.end aE Qa,zr,(bM.ext (af:=bz jd.length 68 5 true je) Cq pq).row⟩
end Go.b9
end
section
set_option maxRecDepth 8000
set_option maxHeartbeats 1000000
namespace Go.b9
open Go.Proofs
open Go.Proofs.Try (prog)
attribute [-simp] fJ gN hI
def gy(n m:Nat)(t:List (List Rat)):Rat:=if(dw (dU t) n).1<(dw (dU (fA m t)) m).1 then(dw (dU (fA m t)) m).1 else(dw (dU t) n).1
theorem MC{n m:Nat}{t:List (List Rat)}:(dw (dU t) n).1<=gy n m t/\(dw (dU (fA m t)) m).1<=gy n m t:=by
 unfold gy
 split
 ·rename_i h;exact⟨Rat.le_of_lt h,Rat.le_refl⟩
 ·rename_i h;exact⟨Rat.le_refl,Rat.not_lt.1 h⟩
theorem e6.fA{n m:Nat}{t:List (List Rat)}(h:e6 n m t):e6 m n (fA m t):=by
 refine⟨by simp[Go.b9.fA],fun r aj=>?_⟩
 unfold Go.b9.fA at aj
 rw[List.mem_map]at aj
 obtain⟨k,-,rfl⟩:=aj
 simp[h6,h.len]
theorem vD{n m:Nat}{t:List (List Rat)}(h:e6 n m t){i k:Nat}(ad:i<n)(ai:k<m):bN (fA m t) k i=bN t i k:=by
 unfold bN fA
 rw[List.getElem?_map,List.getElem?_range ai]
 simp only[Option.map_some,Option.getD_some]
 unfold h6
 rw[List.getElem?_map]
 obtain⟨r,aS,-⟩:=h.at ad
 rw[aS]
 rfl
theorem hW.fA{D m:Nat}{t:List (List Rat)}(h:hW D t):hW D (fA m t):=fun r aj q av=>by
 unfold Go.b9.fA at aj
 rw[List.mem_map]at aj
 obtain⟨k,-,rfl⟩:=aj
 unfold h6 at av
 rw[List.mem_map]at av
 obtain⟨di,fq,rfl⟩:=av
 cases ai:di[k]? with
 | none=>exact eJ.zero D
 | some y=>exact h di fq y (List.mem_of_getElem? ai)
theorem EH{n m:Nat}{t:List (List Rat)}(h:e6 n m t){i:Nat}(ad:i<n):dU t i=bw m (bN t i):=by
 obtain⟨r,aS,-,-,-,ey⟩:=h.at ad
 rw[<-ey,dU,aS]
 rfl
theorem MF{n m:Nat}{t:List (List Rat)}(h:e6 n m t){i:Nat}(ad:i<n):bw m (bN t i)<=gy n m t:=by
 rw[<-EH h ad];exact Rat.le_trans (z9 _ ad) MC.1
theorem ME{n m:Nat}{t:List (List Rat)}(h:e6 n m t){k:Nat}(ai:k<m):bw n (fun i=>bN t i k)<=gy n m t:=by
 have e:bw n (fun i=>bN t i k)=dU (fA m t) k:=by
  rw[EH h.fA ai]
  exact fQ fun i ad=>(vD h ad ai).symm
 rw[e];exact Rat.le_trans (z9 _ ai) MC.2
def e5(n:Nat):List Rat:=List.replicate n 0
def nH(n m:Nat)(t:List (List Rat))(top:Rat)(i:Nat):List Rat:=((t[i]?.getD [])++e5 n).set (m+i) (top-bw m (bN t i))
def qY(n m:Nat)(t:List (List Rat))(top:Rat)(k:Nat):List Rat:=(e5 m++h6 t k).set k (top-bw n (fun i=>bN t i k))
theorem Ip(n k:Nat):(e5 n)[k]?.getD 0=0:=by
 unfold e5
 rw[List.getElem?_replicate]
 split<;>rfl
theorem W1{n m:Nat}{t:List (List Rat)}{top:Rat}(h:e6 n m t){i k:Nat}(ad:i<n)(ai:k<n+m):(nH n m t top i)[k]?.getD 0=gx n m (bN t) top i k:=by
 obtain⟨r,aS,-,bh,b0,-⟩:=h.at ad
 unfold nH gx
 rw[aS]
 simp only[Option.getD_some,if_pos ad]
 by_cases iS:k<m
 ·rw[if_pos iS,List.getElem?_set_ne (by omega),List.getElem?_append_left (by omega),b0]
 ·rw[if_neg iS]
  by_cases eU:k=m+i
  ·subst eU
   rw[if_pos rfl,List.getElem?_set_self (by simp[e5];omega)]
   rfl
  ·rw[if_neg eU,List.getElem?_set_ne (by omega),List.getElem?_append_right (by omega),Ip]
theorem W2{n m:Nat}{t:List (List Rat)}{top:Rat}(h:e6 n m t){i k:Nat}(ad:i<m)(ai:k<n+m):(qY n m t top i)[k]?.getD 0=gx n m (bN t) top (n+i) k:=by
 unfold qY gx
 rw[if_neg (by omega)]
 have pv:(e5 m).length=m:=by simp[e5]
 rw[Nat.add_sub_cancel_left]
 by_cases iS:k<m
 ·rw[if_pos iS]
  by_cases eU:k=i
  ·subst eU
   rw[if_pos rfl,List.getElem?_set_self (by simp[e5];omega)]
   rfl
  ·rw[if_neg eU,List.getElem?_set_ne (by omega),List.getElem?_append_left (by omega),Ip]
 ·rw[if_neg iS,List.getElem?_set_ne (by omega),List.getElem?_append_right (by omega),pv]
  have:(h6 t i)[k-m]?.getD 0=bN (fA m t) i (k-m):=by simp[bN,fA,List.getElem?_range ad]
  rw[this,vD h (by omega) ad]
theorem abz{n m:Nat}{r:List Rat}(h:r.length=m):(e5 (n+m)).take 0++r.take (n+m)++(e5 (n+m)).drop (0+(r.take (n+m)).length)=r++e5 n:=by
 rw[List.take_of_length_le (l:=r) (by omega),h]
 simp[e5]
theorem abA{n m:Nat}{r:List Rat}(h:r.length=n):(e5 (n+m)).take m++r.take n++(e5 (n+m)).drop (m+(r.take n).length)=e5 m++r:=by
 rw[List.take_of_length_le (l:=r) (by omega),h]
 have:n+m-(m+n)=0:=by omega
 simp[e5,this]
theorem E1{t:List (List Rat)}{S i:Nat}{r:List Rat}{f th:Nat->List Rat}(ar:t.length=S)(ad:i<S)(h:∀a,a<S->t[a]?=some (f a))(aj:th i=r)(ax:∀a,a<S->a≠i->th a=f a):(t.set i r).length=S/\∀a,a<S->(t.set i r)[a]?=some (th a):=by
 refine⟨by simp[ar],fun a aF=>?_⟩
 by_cases jO:a=i
 ·subst jO;rw[List.getElem?_set_self (by omega),aj]
 ·rw[List.getElem?_set_ne (by omega),h a aF,ax a aF jO]
theorem XX{n m D:Nat}{t:List (List Rat)}(h:e6 n m t)(aE:0<n)(hm:0<m)(aU:hW D t):eJ D (gy n m t):=by
 have key:∀{n m:Nat} {t:List (List Rat)},e6 n m t->0<n->hW D t->eJ D (dw (dU t) n).1:=fun{n m t} h aE aU=>by
  obtain⟨aS,aM⟩:=xt (dU t) n
  rw[aS,EH h (by omega)]
  exact eJ.sum fun k _=>aU.bN _ k
 unfold gy
 split
 ·exact key h.fA hm aU.fA
 ·exact key h aE aU
theorem XJ{n m D:Nat}{t:List (List Rat)}(aU:hW D t){top:Rat}(bt:eJ D top)(i k:Nat):eJ D (gx n m (bN t) top i k):=by
 unfold gx
 split
 ·split
  ·exact aU.bN i k
  ·split
   ·exact bt.sub (eJ.sum fun j _=>aU.bN i j)
   ·exact eJ.zero D
 ·split
  ·split
   ·exact bt.sub (eJ.sum fun j _=>aU.bN j k)
   ·exact eJ.zero D
  ·exact aU.bN _ _
theorem XK{n m D:Nat}{t B:List (List Rat)}{top:Rat}(aL:e6 n m t)(aU:hW D t)(bt:eJ D top)(bS:B.length=n+m)(j_:∀a,a<n+m->B[a]?=some (if a<n then nH n m t top a else if a<n+m then qY n m t top (a-n)else e5 (n+m))):
  e6 (n+m) (n+m) B/\hW D B/\∀i k,i<n+m->k<n+m->bN B i k=gx n m (bN t) top i k:=by
 have he:∀i k,i<n+m->k<n+m->bN B i k=gx n m (bN t) top i k:=fun i k ad ai=>by
  unfold bN
  rw[j_ i ad]
  simp only[Option.getD_some]
  by_cases o:i<n
  ·rw[if_pos o];exact W1 aL o ai
  ·rw[if_neg o,if_pos ad]
   have:=W2 (top:=top) aL (i:=i-n) (by omega) ai
   rw[show n+(i-n)=i by omega]at this
   exact this
 have ho:e6 (n+m) (n+m) B:=⟨bS,fun r aj=>by
  obtain⟨a,aF⟩:=List.mem_iff_getElem?.1 aj
  have rQ:a<n+m:=by have:=(cd.1 aF).1;omega
  rw[j_ a rQ]at aF
  simp only[Option.some.injEq]at aF
  rw[<-aF]
  by_cases o:a<n
  ·rw[if_pos o]
   obtain⟨di,aS,-,bh,-⟩:=aL.at o
   simp[nH,aS,bh,e5];omega
  ·rw[if_neg o,if_pos rQ]
   simp[qY,e5,h6,aL.len];omega⟩
 refine⟨ho,fun r aj q av=>?_,he⟩
 obtain⟨i,ad,jV⟩:=ho.mem aj
 obtain⟨di,aS,-,bh,b0,-⟩:=ho.at ad
 have:di=r:=by rw[jV]at aS;exact(Option.some.inj aS).symm
 subst this
 obtain⟨k,ai⟩:=List.mem_iff_getElem?.1 av
 have iR:k<n+m:=by have:=(cd.1 ai).1;omega
 have:=b0 k
 rw[ai]at this
 simp only[Option.getD_some]at this
 rw[this,he i k ad iR]
 exact XJ aU bt i k
theorem XL{v:Value}{t:List (List Rat)}{n m N D:Nat}{H:ab}(bc:hl H v t)(aL:e6 n m t)(aE:0<n)(hm:0<m)(r2:n<10000)(tZ:m<10000)(aH:∀i k,i<n->k<m->0<=bN t i k)(aU:hW D t)(gr:ly D N (gy n m t)):
  a0 prog 70 [.agg #[v]] H (fun u H1=>Ext H H1/\∃w s,u= .agg #[w]/\hl H1 w s/\e6 (n+m) (n+m) s/\hW D s/\∀i k,i<n+m->k<n+m->bN s i k=gx n m (bN t) (gy n m t) i k):=by
 refine a0.cq fun Q aG=>?_
 have mD:=aL.len
 obtain⟨dS,eV,oe,qB,J6,wT⟩:=aL.at aE
 have jW:∀r∈t,r.length<65536:=fun r h=>by have:=aL.row r h;omega
 have w1:=E0 aL aU gr aH fun i ad=>MF aL ad
 have tN:=aL.fA
 have wE:hW D (fA m t):=aU.fA
 have w0:=E0 tN wE gr (fun k i ai ad=>by rw[vD aL ad ai];exact aH i k ad ai) fun k ai=>by
  have:=ME aL ai
  rw[fQ fun i ad=>vD aL ad ai]
  exact this
 apply UT (by simp)
 obtain⟨a,c,rfl⟩:=Row.len bc
 simp[G8]
 have ck:Ext H (H++[.dead,.dead]):=Ext.more H (by simp)
 refine a7.mk (z3 (bc.ext ck) mD) ?_
 rintro u H1 ⟨bI,rfl⟩
 refine⟨bI,?_⟩
 simp
 refine a7.mk (xo (bc.ext (ck.aB bI)) eV qB) ?_
 rintro u aY ⟨bu,rfl⟩
 have mH:=ck.aB (bI.aB bu)
 simp
 refine a7.mk (E5 (m:=m) (bc.ext mH) (by omega) (by omega) aL.row (by omega)) ?_
 rintro u bZ ⟨bP,cc,rfl,oj⟩
 simp
 refine df.mk (by obtain⟨a,c,rfl⟩:=Row.len oj;rfl) ?_
 simp
 have b5:Ext bZ (bZ++[.dead]):=Ext.dead bZ
 have Ty:=bP.aB b5
 have Kt:=mH.aB Ty
 refine a7.mk (Aa (N:=N) (bc.ext Kt) (by omega) (by omega) jW w1 gr.bits) ?_
 rintro u b_ ⟨c1,A7,rfl,zR⟩
 have zU:=Kt.aB c1
 simp
 refine ev.mk zR.whole ?_
 simp
 have cH:=Ext.dead b_
 have pr:=b5.aB (c1.aB cH)
 have aQ:=xu w1 (t:=t) (n:=n) (by omega) (by omega)
 have ai:=xu w0 (t:=fA m t) (n:=m) (by rw[tN.len];omega) (by rw[tN.len];omega)
 have S7:=tN.len
 rw[mD]at zR
 have ug:hl (b_++[.dead]) cc (fA m t):=oj.ext pr
 refine bV.join (by kernel_rfl) (fun kW ku cE=>Ext (b_++[.dead]) cE/\b4 cE (ku 6) (gy n m t)) ?_ ?_
 ·rintro K a1-
  simp
  refine a7.mk (Aa (N:=N) ug (by omega) (by omega) (fun r h=>by have:=tN.row r h;omega) w0 gr.bits) ?_
  rintro u cE ⟨cA,aaf,rfl,om⟩
  rw[S7]at om
  simp
  refine ev.mk om.whole ?_
  simp
  have c9:=Ext.dead cE
  refine a7.mk (uG (N:=N) (om.ext c9) (zR.ext (cH.aB (cA.aB c9))) ai aQ gr.bits) ?_
  rintro u e8 ⟨dA,rfl⟩
  simp
  refine bG.cC (fun ag=>?_) (fun ag=>?_)
  ·have a3:=HF ag
   simp
   refine ev.mk om.whole ?_
   refine a1 _ _ _ ⟨cA.aB (c9.aB dA),?_⟩
   unfold gy
   rw[if_pos a3]
   simpa using om.ext (c9.aB dA)
  ·have a3:=HH ag
   refine a1 _ _ _ ⟨cA.aB (c9.aB dA),?_⟩
   unfold gy
   rw[if_neg a3]
   simpa using zR.ext (cH.aB (cA.aB (c9.aB dA)))
 rintro kW ku cE ⟨cA,lT⟩
 simp at lT
 have DO:=zU.aB (cH.aB cA)
 have yW:=bc.ext DO
 have om:=ug.ext cA
 have Ke:c4 N (gy n m t):=by
  unfold gy
  split
  ·exact ai
  ·exact aQ
 have iC:IntKind.i64.wrap ((n:Int)+(m:Int))=((n+m:Nat):Int):=by rw[cP (by omega) (by omega)];simp
 simp[iC]
 refine AT (e:=84) (J:=1) (bs:=24) (ay:=false) (n:=n+m) (eo:= .i64) (cB:= .i64) (z:= .slice none 0 0) (af:=fK) (a:= .slice none 0 0) (by simp) (by simp) (by simp) (by rfl) (by rfl) (by simp) (Fp _ _ _) (by simp) (by simp) (by decide) (by decide) (by omega) (fun aC=>rfl) ?_
 intro qQ qR eE fm c9
 have r0:0<cE.length:=by have:=Ext.len DO;have:=Ext.len cA;simp at this;omega
 have QG:=dQ.Lg (e:=44) (J:=4) (ay:=true) (af:=b4) r0 fm
 simp
 refine cY (af:=fK) (xs:=List.replicate (n+m) (.slice none 0 0)) (by simpa using fm.row) (by simp) ?_
 simp
 have TE:∀a,(List.replicate (n+m) ([]:List Rat))[a]?=if a<n+m then some []else none:=fun a=>by rw[List.getElem?_replicate]
 refine dy.range (by kernel_rfl) (n+m) (by omega) (by simp) (by rfl) (by simp) (by decide) (by decide) (fun i pS pV e8=>Ext cE e8/\∃B us,dQ cE.length 84 44 4 true b4 e8 (.slice qQ (n+m) qR) B us/\B.length=n+m/\∀a,a<n+m->B[a]?=some (if a<i then e5 (n+m)else[])) ?_ ?_ ?_
 ·exact⟨c9,_,_,QG,by simp,fun a aF=>by rw[TE,if_pos aF];simp⟩
 ·rintro i pS pV e8 ad n2 ⟨dA,B,us,wa,bS,j_⟩ K a1
  simp at n2
  simp[n2]
  refine a7.mk (xC (n:=0) (by omega) (by omega)) ?_
  rintro z mb ⟨fF,aP⟩
  refine AR (e:=44) (J:=4) (ay:=true) (z:= .agg #[.bool false,.slice none 0 0,.bool false,.slice none 0 0]) (af:=b4) (a:=((0:Int):Rat)) (fun aC I=>by simpa using aP.ext I) (by simpa using aP.whole) (by simp) (by simp) (by simp) (by rfl) (by first | rfl | simp[flat,gB]) (by rfl) (by decide) (by decide) ?_
  intro aac hU Cl fP
  simp[iC]
  refine a7.mk (WU (af:=b4) (n:=n+m) Cl.row (by omega) (fun H u y h=>h.whole) (fun H aC de u y ai h=>h.kept ai (by decide))) ?_
  rintro Ng h3 ⟨hG,qd⟩
  have KC:=fF.aB (fP.aB hG)
  have adY:=Ext.len dA
  have adT:=Ext.len (fF.aB fP)
  have jN:=wa.ext KC
  have To:=qd.iv
  have ju:us.length=n+m:=by rw[wa.len,bS]
  refine ja (k:=cE.length) (e:=84) (J:=1) (ay:=false) (n:=i) (af:=fK) (xs:=us) (a:=Ng) (by simpa using jN.own) (by simp) (by omega) (by simp[fK]) (by simpa using To) (by simp) (fun _ _ _ _ _ h=>h) (by simp) (by simp) (by simp) (by decide) ?_
  rintro uD kX jM iE od adU-
  simp at jM od
  have qx:=dQ.Wv (nF:=hU.length) jN (i:=i) (mS:=List.replicate (n+m) ((0:Int):Rat)) (by omega) (fun b aH ae=>(qd.ge ae aH).1) (fun j u b hu ae aH=>by have:=wa.lt j u b hu ae aH;omega) (by decide) (qd.le (by omega)) jM od (fun u x h=>h.kept od (by decide))
  refine a1 _ _ _ (by simp[n2]) ⟨iE _ (Nat.le_refl _) (dA.aB KC),_,_,qx,?_⟩
  refine E1 (th:=fun a=>if a<i+1 then e5 (n+m)else[]) bS ad j_ (by simp[e5]) fun a aF jO=>?_
  by_cases o:a<i
  ·simp[o,show a<i+1 by omega]
  ·simp[o,show¬a<i+1 by omega]
 ·rintro pS pV e8 n2 ⟨dA,B,us,wa,bS,j_⟩
  have PR:∀a,a<n+m->B[a]?=some (if a<0 then nH n m t (gy n m t) a else e5 (n+m)):=fun a aF=>by rw[j_ a aF,if_pos aF,if_neg (Nat.not_lt_zero a)]
  simp
  refine dy.range (by kernel_rfl) n (by omega) (by simp) (by rfl) (by simp) (by decide) (by decide) (fun i Fz FE mb=>Ext cE mb/\∃B us,dQ cE.length 84 44 4 true b4 mb (.slice qQ (n+m) qR) B us/\B.length=n+m/\∀a,a<n+m->B[a]?=some (if a<i then nH n m t (gy n m t) a else e5 (n+m))) ?_ ?_ ?_
  ·exact⟨dA,B,us,wa,bS,PR⟩
  ·rintro i Fz FE mb ad vN ⟨fF,B,us,tx,bS,j_⟩ K a1
   simp at vN
   have vK:=j_ i (by omega)
   rw[if_neg (Nat.lt_irrefl i)]at vK
   refine Exists.elim (tx.oB vK) fun u0 hu=>?_
   refine Exists.elim (aL.at ad) fun h0 aj=>?_
   have jV:=aj.1
   have Dr:=aj.2.2.1
   have Ds:=aj.2.2.2.2
   have ju:us.length=n+m:=by rw[tx.len,bS]
   have Qz:=yW.ext fF
   have pv:(e5 (n+m)).length=n+m:=by simp[e5]
   simp[vN]
   refine cK (af:=fK) (xs:=us) (n:=i) (a:=u0) (e:=84) (J:=1) (ay:=false) (by simpa using tx.own.row) (by simp) hu.1 (by simp) (by simp) (by simp) (by decide) ?_
   rintro Eo q8 rfl
   simp
   refine cK (af:=iw) (xs:=t) (n:=i) (a:=h0) (e:=84) (J:=1) (ay:=false) (by simpa using Qz) (by simp) jV (by simp) (by simp) (by simp) (by decide) ?_
   intro Ak M4 Tc
   refine q4 (e:=44) (J:=4) (ay:=true) (af:=b4) (xs:=e5 (n+m)) (bH:=h0) (u:=q8) (j:=0) (m:=n+m) (k:=cE.length) hu.2 (by simpa[pv]using hu.2.sub) (by omega) (by simpa using Tc) (fun u y h=>h.whole) (fun aC de u y ai h=>h.kept ai (by decide)) (by simp) (by simp) (by simp) (by decide) (by decide) ?_
   rintro kX jM iE od- -
   rw[abz Dr]at jM
   have rM:=tx.inner hu.1 (by decide) od jM (fun u x h=>h.kept od (by decide))
   have ss:=iE _ (Nat.le_refl _) fF
   have Cx:=yW.ext ss
   have hO:IntKind.i64.wrap ((m:Int)+(i:Int))=((m+i:Nat):Int):=by rw[cP (by omega) (by omega)];simp
   simp[vN]
   refine cK (af:=fK) (xs:=us) (n:=i) (a:=q8) (e:=84) (J:=1) (ay:=false) (by simpa using rM.own.row) (by simp) hu.1 (by simp) (by simp) (by simp) (by decide) ?_
   rintro Al Fa rfl
   simp[hO]
   refine a7.mk (pz (j:=i) Cx jV (by omega) (by omega) (w1 h0 aj.2.1).1 (w1 h0 aj.2.1).2 gr.bits) ?_
   rintro aad ri ⟨mI,DN⟩
   refine⟨mI,?_⟩
   simp
   refine a7.mk (EA (N:=N) (lT.ext (ss.aB mI)) DN Ke (w1.sum aj.2.1) gr.bits) ?_
   rintro aae x8 ⟨po,w7⟩
   refine⟨po,?_⟩
   have sr:=mI.aB po
   have Cz:=rM.ext sr
   have Cm:=bM.ext (af:=bz cE.length 44 4 true b4) jM sr
   refine ja (k:=cE.length) (e:=44) (J:=4) (ay:=true) (n:=m+i) (af:=b4) (xs:=h0++e5 n) (a:=gy n m t-ep h0) (by simpa using Cm) (by simp) (by simp[e5];omega) (by simpa using w7) (by simpa using w7.whole) (by simp) (fun aC de u y ai h=>h.kept ai (by decide)) (by simp) (by simp) (by simp) (by decide) ?_
   rintro xz FH qf w9 qu JJ-
   simp at qf qu
   have v5:=Cz.inner hu.1 (by decide) qu qf (fun u x h=>h.kept qu (by decide))
   rw[List.set_set]at v5
   simp
   refine a1 _ _ _ (by simp[vN]) ⟨w9 _ (Nat.le_refl _) (ss.aB sr),_,us,v5,?_⟩
   refine E1 (th:=fun a=>if a<i+1 then nH n m t (gy n m t) a else e5 (n+m)) bS (by omega) j_ ?_ fun a aF jO=>?_
   ·simp[nH,jV,Ds]
   ·by_cases o:a<i
    ·simp[o,show a<i+1 by omega]
    ·simp[o,show¬a<i+1 by omega]
  ·rintro Fz FE mb vN ⟨fF,B,us,tx,bS,j_⟩
   have PO:∀a,a<n+m->B[a]?=some (if a<n then nH n m t (gy n m t) a else if a<n+0 then qY n m t (gy n m t) (a-n)else e5 (n+m)):=fun a aF=>by
    rw[j_ a aF]
    by_cases o:a<n
    ·simp[o]
    ·simp[o]
   simp
   refine dy.range (by kernel_rfl) m (by omega) (by simp) (by rfl) (by simp) (by decide) (by decide) (fun i u_ va h3=>Ext cE h3/\∃B us,dQ cE.length 84 44 4 true b4 h3 (.slice qQ (n+m) qR) B us/\B.length=n+m/\∀a,a<n+m->B[a]?=some (if a<n then nH n m t (gy n m t) a else if a<n+i then qY n m t (gy n m t) (a-n)else e5 (n+m))) ?_ ?_ ?_
   ·exact⟨fF,B,us,tx,bS,PO⟩
   ·rintro i u_ va h3 ad k6 ⟨hG,B,us,jN,bS,j_⟩ K a1
    simp at k6
    have vK:=j_ (n+i) (by omega)
    rw[if_neg (by omega),if_neg (by omega)]at vK
    refine Exists.elim (jN.oB vK) fun u0 hu=>?_
    refine Exists.elim (tN.at ad) fun h0 aj=>?_
    have jV:=aj.1
    have Dr:=aj.2.2.1
    have Ds:=aj.2.2.2.2
    have ju:us.length=n+m:=by rw[jN.len,bS]
    have QA:=om.ext hG
    have pv:(e5 (n+m)).length=n+m:=by simp[e5]
    have hO:IntKind.i64.wrap ((n:Int)+(i:Int))=((n+i:Nat):Int):=by rw[cP (by omega) (by omega)];simp
    simp[k6,hO]
    refine cK (af:=fK) (xs:=us) (n:=n+i) (a:=u0) (e:=84) (J:=1) (ay:=false) (by simpa using jN.own.row) (by simp) hu.1 (by simp) (by simp) (by simp) (by decide) ?_
    rintro Eo q8 rfl
    simp
    refine AW (e:=44) (J:=4) (ay:=true) (af:=b4) (xs:=e5 (n+m)) (l:=m) (h:=n+m) (k:=cE.length) (by simpa using hu.2) (by simp) (by simp) (by decide) (by simp[dN]) (by simp[fo,pv]) (by omega) (by omega) ?_
    intro agi aei ki
    simp[pv]at ki
    simp
    refine cK (af:=iw) (xs:=fA m t) (n:=i) (a:=h0) (e:=84) (J:=1) (ay:=false) (by simpa using QA) (by simp) jV (by simp) (by simp) (by simp) (by decide) ?_
    intro uD E_ DC
    refine q4 (e:=44) (J:=4) (ay:=true) (af:=b4) (xs:=e5 (n+m)) (bH:=h0) (u:=q8) (j:=m) (m:=n) (k:=cE.length) hu.2 (by simpa[pv]using ki) (by omega) (by simpa using DC) (fun u y h=>h.whole) (fun aC de u y ai h=>h.kept ai (by decide)) (by simp) (by simp) (by simp) (by decide) (by decide) ?_
    rintro kX jM iE od- -
    rw[abA Dr]at jM
    have rM:=jN.inner hu.1 (by decide) od jM (fun u x h=>h.kept od (by decide))
    have ss:=iE _ (Nat.le_refl _) hG
    have Cx:=om.ext ss
    simp[k6,hO]
    refine cK (af:=fK) (xs:=us) (n:=n+i) (a:=q8) (e:=84) (J:=1) (ay:=false) (by simpa using rM.own.row) (by simp) hu.1 (by simp) (by simp) (by simp) (by decide) ?_
    rintro Al Fa rfl
    simp
    refine a7.mk (pz (j:=i) Cx jV (by omega) (by omega) (w0 h0 aj.2.1).1 (w0 h0 aj.2.1).2 gr.bits) ?_
    rintro aad ri ⟨mI,DN⟩
    refine⟨mI,?_⟩
    simp
    refine a7.mk (EA (N:=N) (lT.ext (ss.aB mI)) DN Ke (w0.sum aj.2.1) gr.bits) ?_
    rintro aae x8 ⟨po,w7⟩
    refine⟨po,?_⟩
    have sr:=mI.aB po
    have Cz:=rM.ext sr
    have Cm:=bM.ext (af:=bz cE.length 44 4 true b4) jM sr
    refine ja (k:=cE.length) (e:=44) (J:=4) (ay:=true) (n:=i) (af:=b4) (xs:=e5 m++h0) (a:=gy n m t-ep h0) (by simpa using Cm) (by simp) (by simp[e5];omega) (by simpa using w7) (by simpa using w7.whole) (by simp) (fun aC de u y ai h=>h.kept ai (by decide)) (by simp) (by simp) (by simp) (by decide) ?_
    rintro xz FH qf w9 qu JJ-
    simp at qf qu
    have v5:=Cz.inner hu.1 (by decide) qu qf (fun u x h=>h.kept qu (by decide))
    rw[List.set_set]at v5
    have CS:h0=h6 t i:=by
     have:(fA m t)[i]?=some (h6 t i):=by simp[fA,List.getElem?_range ad]
     rw[this]at jV
     exact(Option.some.inj jV).symm
    have zC:ep h0=bw n (fun j=>bN t j i):=by
     rw[Ds];exact fQ fun j aQ=>vD aL aQ ad
    simp
    refine a1 _ _ _ (by simp[k6]) ⟨w9 _ (Nat.le_refl _) (ss.aB sr),_,us,v5,?_⟩
    refine E1 (th:=fun a=>if a<n then nH n m t (gy n m t) a else if a<n+(i+1)then qY n m t (gy n m t) (a-n)else e5 (n+m)) bS (by omega) j_ ?_ fun a aF jO=>?_
    ·rw[if_neg (by omega),if_pos (by omega),Nat.add_sub_cancel_left]
     unfold qY
     rw[<-CS,zC]
    ·by_cases o:a<n
     ·simp[o]
     ·by_cases aa:a<n+i
      ·simp[o,aa,show a<n+(i+1) by omega]
      ·simp[o,aa,show¬a<n+(i+1) by omega]
   ·rintro u_ va h3 k6 ⟨hG,B,us,jN,bS,j_⟩
    have db:=jN.row
    simp[bj]
    have RA:=XK aL aU (XX aL aE hm aU) bS j_
    exact aG _ _ ⟨DO.aB hG,_,B,rfl,db,RA⟩
def gA(H:ab)(v:Value)(p:List Nat×List Int):Prop:=∃a n c,v= .agg #[.string (cn p.1),.slice a n c]/\Row 3 1 false IR H (.slice a n c) p.2
instance:bM gA:=⟨fun⟨a,n,c,h,o⟩ I=>⟨a,n,c,h,bM.ext (af:=Row _ _ _ IR) o I⟩⟩
theorem gA.iv{H:ab}{v:Value}{p:List Nat×List Int}(h:gA H v p):Whole prog 48 v:=by
 obtain⟨a,n,c,rfl,-⟩:=h
 exact⟨by rfl,by simp[Value.cells,Value.oneCell'],by simp[eB]⟩
theorem gA.kept{H aC:ab}{e:Nat}{s v:Value}{p:List Nat×List Int}(h:gA H v p)(ai:Kept H aC s e)(aa:3≠e):gA aC v p:=by
 obtain⟨a,n,c,rfl,aM⟩:=h
 exact⟨a,n,c,rfl,aM.kept ai aa fun _ _ h=>h⟩
section
variable {P:Program} {r:List br} {F:Fr} {H:ab} {Q:Fr->ab->Prop} {α:Type}
theorem Yh{ek:Bool}{d1 d2 t bL cN e J bs k:Nat}{ay:Bool}{s x:Operand}{z:Value}{af:ab->Value->α->Prop}{xs:List α}{a:α}{aw:a_ ((⟨ek,none,some d1,.buildSlice t 1 #[(0,x)]⟩:br)::ap d2 bL cN s (T d1)::r) Q}(cL:bz k e J ay af H (aq F s) xs)(aF:af H (aq F x) a)
  (hw:Whole P e (aq F x))(fy:∀v,aq (aX F d1 v) s=aq F s)(hE:∀aC de u y,Kept H aC de e->af H u y->af aC u y)
  (bt:P.underlying t=some (.slice e))(hu:P.underlying bL=some (.slice e))(I:fI P cN=true)(an:bn P e=some J)(dM:c_ P e=some ay)(ae:bytes? P e=some bs)(aP:dv P e=some z)(dt:flat z=true)(cW:z.cells.size=J)(c0:0<J)(qE:J<=1000)
  (dH:0<bs)(bq:(xs.length+1)*bs<=140737488355328)(ai:k<=H.length)
  (K:∀p fW gS aC,bz k e J ay af aC (.slice fW (xs.length+1) gS) (xs++[a])->(∀cx:ab,cx.length<=k->Ext cx H->Ext cx aC)->Kept H aC (aq F s) e->a8 P r Q .mk (aX (aX F d1 p) d2 (.slice fW (xs.length+1) gS)) aC):
  a8 P ((⟨ek,none,some d1,.buildSlice t 1 #[(0,x)]⟩:br)::ap d2 bL cN s (T d1)::r) Q aw F H:=
 q6 cL aF hw fy hE bt hu I an dM ae aP dt cW c0 qE dH bq ai fun p au aC n4 aS aM=>by
  have ar:=n4.len
  rw[List.length_append,List.length_singleton]at ar
  obtain⟨fW,gS,rfl⟩:=ar
  exact K p fW gS aC n4 aS aM
end
theorem X_{d t d2 n:Nat}{x i:Operand}{r:List br}{F:Fr}{H:ab}{Q:Fr->ab->Prop}{xs:List (Rat×List Int)}{a:Rat×List Int}{aw:a_ (bb d t x i::aO d2 68 (T d)::r) Q}(bl:Row 68 5 true je H (aq F x) xs)(ad:aq F i= .int .i64 (n:Int))(aF:xs[n]?=some a)
  (bt:eO prog t=some 68)(K:∀p s1 b1 dx cG s2 ds dF dh fj fk,b4 H (.agg #[.bool s1,.slice b1 dx cG,.bool s2,.slice ds dF dh]) a.1->Row 3 1 false IR H (.slice fj a.2.length fk) a.2->a8 prog r Q .mk (aX (aX F d p) d2 (.agg #[.bool s1,.slice b1 dx cG,.bool s2,.slice ds dF dh,.slice fj a.2.length fk])) H):a8 prog (bb d t x i::aO d2 68 (T d)::r) Q aw F H:=
 cK bl ad aF bt (by rfl) (by rfl) (by decide) fun p u ⟨s1,b1,dx,cG,s2,ds,dF,dh,fj,jA,fk,hu,o,aa⟩=>by
  subst hu
  obtain⟨ej,dL,he⟩:=aa.len
  simp at he
  obtain⟨rfl,rfl,rfl⟩:=he
  exact K p s1 b1 dx cG s2 ds dF dh fj fk o aa
theorem X6(N:Nat)(h:N<=10000):2^N<=10^4000:=by
 have o:=sA 2 N 10000 (by decide) h
 have aa:=LQ 2 5 2000 10000 (by decide)
 have aD:=LQ 10 2 2000 4000 (by decide)
 have bD:=Ev (2^5) (10^2) 2000 (by decide)
 rw[aD]
 exact Nat.le_trans o (by rw[aa];exact bD)
theorem HW{n N:Nat}(h:n<2^N)(cj:N<=10000):(dec n).length<=4000:=by
 unfold dec
 split
 ·decide
 ·rw[List.length_reverse]
  exact L1 n 4000 (Nat.lt_of_lt_of_le h (X6 N cj))
theorem c4.Af{N:Nat}{q:Rat}(h:c4 N q)(cj:N<=10000):kx q:=⟨HW h.1 cj,.inr (HW h.2 cj)⟩
theorem j6.congr{n:Nat}{B kq:Nat->Nat->Rat}{L:Rat}(h:j6 n B L)(e:∀i k,i<n->k<n->kq i k=B i k):j6 n kq L:=
 ⟨fun i k ad ai=>by rw[e i k ad ai];exact h.ik i k ad ai,fun i ad=>by rw[<-h.row i ad];exact fQ fun k ai=>e i k ad ai,fun k ai=>by rw[<-h.rv k ai];exact fQ fun i ad=>e i k ad ai⟩
theorem rf.congr{n:Nat}{A B:Nat->Nat->Rat}{L:Rat}{aZ:List (Rat×List Int)}(h:rf n A L aZ)(e:∀i k,i<n->k<n->B i k=A i k):rf n B L aZ:=
 ⟨h.parts,fun i k ad ai=>by rw[h.sum i k ad ai,e i k ad ai],h.len,h.mm,h.VY⟩
def xM(n m:Nat)(p:Rat×List Int):List Nat×List Int:=(fu p.1,jj n m p.2)
theorem Xi{v:Value}{t:List (List Rat)}{n m N D:Nat}{H:ab}(bc:hl H v t)(aL:e6 n m t)(aE:0<n)(hm:0<m)(r2:n<10000)(tZ:m<10000)(aH:∀i k,i<n->k<m->0<=bN t i k)(aU:hW D t)(gr:ly D N (gy n m t))(cj:N<=10000):
  a0 prog 42 [.agg #[v]] H (fun u H1=>Ext H H1/\∃w aZ,u= .tuple #[w,.int .i64 0]/\ye n m (bN t) (gy n m t) aZ/\(∀p∈aZ,eJ D p.1)/\Row 48 2 true gA H1 w (aZ.map fun p=>(fu p.1,p.2))):=by
 refine a0.cq fun Q aG=>?_
 have mD:=aL.len
 obtain⟨dS,eV,oe,qB,J6,wT⟩:=aL.at aE
 apply US (by simp)
 obtain⟨a,c,rfl⟩:=Row.len bc
 simp[G7]
 have ck:Ext H (H++[.dead]):=Ext.dead H
 refine a7.mk (XL (bc.ext ck) aL aE hm r2 tZ aH aU gr) ?_
 rintro u H1 ⟨bI,a5,s,rfl,an,Rz,RL,Jl⟩
 have R9:j6 (n+m) (bN s) (gy n m t):=(XI aH (fun i ad=>MF aL ad) (fun k ai=>ME aL ai)).congr Jl
 try simp
 refine a7.mk (Oy (N:=N) an Rz (by omega) (by omega) R9 RL gr) ?_
 rintro u aY ⟨bu,aZ,tL,JM,r7⟩
 have SB:=(tL.congr fun i k ad ai=>(Jl i k ad ai).symm).Wn
 have mH:=ck.aB (bI.aB bu)
 have n5:=bc.ext mH
 have kf:0<aY.length:=by have:=Ext.len mH;have:=Ext.len (bI.aB bu);simp at this;omega
 refine cY (af:=je) (xs:=aZ) (by simpa using r7) (by simp) ?_
 try simp
 have wB:aZ.length<=(n+m)*(n+m):=tL.mm
 have adJ:(n+m)*(n+m)<=20000*20000:=Nat.mul_le_mul (by omega) (by omega)
 refine dy.range (by kernel_rfl) aZ.length (by omega) (by simp) (by rfl) (by simp) (by decide) (by decide) (fun i dG e7 bZ=>Ext aY bZ/\bz aY.length 48 2 true gA bZ (dG 4) ((aZ.take i).map (xM n m))) ?_ ?_ ?_
 ·exact⟨Ext.refl _,by simpa using bz.nil _ _ _ _ _ _⟩
 ·rintro i dG e7 bZ ad vO ⟨bP,ka⟩ K a1
  simp at vO ka
  refine Exists.elim (⟨_,bx ad⟩:∃p,aZ[i]?=some p) fun p aT=>?_
  have jt:=List.mem_of_getElem? aT
  have mB:=(tL.parts p jt).2
  have hP:=(tL.parts p jt).1
  have c0:c4 N p.1:=gr.J (JM p jt) (Rat.le_of_lt hP) (by
   rw[<-tL.len];exact(Er fun p aT=>(tL.parts p aT).1).2 p jt)
  simp[vO]
  refine X_ (xs:=aZ) (n:=i) (a:=p) (by simpa using bM.ext (af:=Row _ _ _ je) r7 bP) (by simp[vO]) aT (by simp) ?_
  intro gK s1 b1 dx cG s2 ds dF dh fj fk SJ RQ
  try simp
  have hs:=Ext.dead bZ
  refine a7.mk (EI (SJ.ext hs) c0 (by omega)) ?_
  rintro u b_ ⟨c1,hu⟩
  rw[if_pos (c0.Af cj)]at hu
  subst hu
  have pq:=hs.aB c1
  try simp
  have cH:=Ext.dead b_
  have QB:=n5.ext (bP.aB (pq.aB cH))
  refine a7.mk (xo QB eV qB) ?_
  rintro u cE ⟨cA,rfl⟩
  refine⟨cA,?_⟩
  have DR:=pq.aB (cH.aB cA)
  have yW:=n5.ext (bP.aB DR)
  have kh:=mB.len
  try simp
  refine q7 (e:=3) (J:=1) (ay:=false) (af:=IR) (xs:=p.2) (l:=0) (h:=m) (by simpa using bM.ext (af:=Row _ _ _ IR) RQ DR) (by simp) (by simp) (by decide) (by simp[dN]) (by simp[fo]) (by omega) (by omega) ?_
  intro agn DJ
  have BN:(p.2.drop 0).take (m-0)=p.2.take m:=by simp
  rw[BN]at DJ
  refine cY (af:=IR) (xs:=p.2.take m) (by simpa using DJ) (by simp) ?_
  have wJ:(p.2.take m).length=m:=by simp;omega
  simp[wJ]
  refine dy.range (by kernel_rfl) m (by omega) (by simp[kh]) (by rfl) (by simp) (by decide) (by decide) (fun j pS pV e8=>Ext cE e8/\∃fW gS,pV 9= .agg #[.string (cn (fu p.1)),.slice fW j gS]/\bz cE.length 3 1 false IR e8 (.slice fW j gS) ((jj n m p.2).take j)) ?_ ?_ ?_
  ·exact⟨Ext.refl _,none,0,by simp,by simpa using bz.nil _ _ _ _ _ _⟩
  ·rintro j pS pV e8 aQ n2 ⟨dA,fW,gS,tr,k7⟩ abL P7
   simp at n2 tr
   refine Exists.elim (mB.dD j (by omega)) fun x I=>?_
   have bI:=I.1
   have Kv:=I.2
   have SF:(p.2.take m)[j]?=some (x:Int):=by rw[List.getElem?_take_of_lt aQ];exact Kv
   have Rt:(jj n m p.2)[j]?=some (if(n:Int)<=(x:Int)then(-1:Int)else(x:Int)):=by rw[BG,if_pos aQ,Kv];rfl
   have gu:(jj n m p.2).length=m:=mB.cut.len
   try simp[n2]
   refine cK (af:=IR) (xs:=p.2.take m) (n:=j) (a:=(x:Int)) (e:=3) (J:=1) (ay:=false) (by simpa using bM.ext (af:=Row _ _ _ IR) DJ dA) (by simp[n2]) SF (by simp) (by simp) (by simp) (by decide) ?_
   rintro Aj M3 rfl
   try simp
   have QC:=yW.ext dA
   refine bV.join (by kernel_rfl) (fun pR sS hU=>Ext e8 hU/\pR 11= .int .i64 (if(n:Int)<=(x:Int)then(-1:Int)else(x:Int))) ?_ ?_
   ·rintro abI IQ-
    try simp
    refine a7.mk (z3 QC mD) ?_
    rintro u hU ⟨fP,rfl⟩
    try simp
    refine bG.cC (fun ag=>?_) (fun ag=>?_)
    ·try simp
     refine IQ _ _ _ ⟨fP,?_⟩
     rw[if_pos (by omega)];simp
    ·refine IQ _ _ _ ⟨fP,?_⟩
     rw[if_neg (by omega)];simp
   ·rintro pR sS hU ⟨fP,ng⟩
    simp at ng
    have Cl:=bM.ext (af:=bz cE.length 3 1 false IR) k7 fP
    have r0:=Ext.len (dA.aB fP)
    simp[tr,ng]
    refine Yh (k:=cE.length) (e:=3) (J:=1) (ay:=false) (bs:=8) (z:= .int .i64 0) (af:=IR) (xs:=(jj n m p.2).take j) (a:=(if(n:Int)<=(x:Int)then(-1:Int)else(x:Int))) (by simpa using Cl) (by simp[IR,ng]) (by simp[ng];split<;>exact kS _) (by simp) (fun _ _ _ _ _ h=>h) (by simp) (by simp) (by simp) (by simp) (by simp) (by rfl) (by rfl) (by rfl) (by rfl) (by decide) (by decide) (by decide) (by simp;omega) (by omega) ?_
    intro Ak NO vv h3 qd hG adR
    have fO:((jj n m p.2).take j).length=j:=by simp;omega
    rw[fO]at qd
    simp[tr,fO]
    refine P7 _ _ _ (by simp[n2]) ⟨hG _ (Nat.le_refl _) (dA.aB fP),NO,vv,by simp,?_⟩
    rw[List.take_add_one,Rt]
    exact qd
  ·rintro pS pV e8 n2 ⟨dA,fW,gS,tr,k7⟩
   simp at tr
   have gu:(jj n m p.2).length=m:=mB.cut.len
   have Qn:bz cE.length 3 1 false IR e8 (.slice fW m gS) (jj n m p.2):=by
    rw[<-List.take_of_length_le (l:=jj n m p.2) (i:=m) (by omega)];exact k7
   have DS:=DR.aB dA
   have vZ:gA e8 (.agg #[.string (cn (fu p.1)),.slice fW m gS]) (xM n m p):=⟨fW,m,gS,rfl,Qn.row⟩
   have adZ:=Ext.len (bP.aB DS)
   simp[tr]
   refine q6 (k:=aY.length) (e:=48) (J:=2) (ay:=true) (bs:=40) (z:= .agg #[.string ⟨#[]⟩,.slice none 0 0]) (af:=gA) (xs:=(aZ.take i).map (xM n m)) (a:=xM n m p) (by simpa using bM.ext (af:=bz _ _ _ _ gA) ka DS) (by simpa using vZ) (by simpa using vZ.iv) (by simp) (fun aC de u y ai h=>h.kept ai (by decide)) (by simp) (by simp) (by simp) (by simp) (by simp) (by rfl) (by rfl) (by first | rfl | simp[flat,gB]) (by rfl) (by decide) (by decide) (by decide) (by simp;omega) (by omega) ?_
   intro uD agj kX jM iE od
   try simp
   refine a1 _ _ _ (by simp[vO]) ⟨iE _ (Nat.le_refl _) (bP.aB DS),?_⟩
   rw[List.take_add_one,aT,List.map_append]
   simpa using jM
 ·rintro dG e7 bZ vO ⟨bP,ka⟩
  simp at ka
  have db:=ka.row
  have e:aZ.map (xM n m)=(aZ.map fun p=>(p.1,jj n m p.2)).map fun p=>(fu p.1,p.2):=by
   rw[List.map_map];rfl
  rw[e]at db
  simp[bj]
  refine aG _ _ ⟨mH.aB bP,_,_,rfl,SB,fun p aT=>?_,db⟩
  rw[List.mem_map]at aT
  obtain⟨q,av,rfl⟩:=aT
  exact JM q av
theorem Ar{t:List (List Int)}{n m:Nat}(aE:t.length=n)(hm:∀r∈t,r.length=m):e6 n m (cm t):=
 ⟨by simp[cm,aE],fun r aj=>by
  unfold cm at aj
  rw[List.mem_map]at aj
  obtain⟨di,fq,rfl⟩:=aj
  simpa using hm di fq⟩
theorem sB(t:List (List Int))(i k:Nat):bN (cm t) i k=(((t[i]?.getD [])[k]?.getD 0:Int):Rat):=by
 unfold bN cm
 rw[List.getElem?_map]
 cases aj:t[i]? with
 | none=>simp
 | some r=>
  simp only[Option.map_some,Option.getD_some,List.getElem?_map]
  cases r[k]?<;>simp
theorem WM(t:List (List Int)):hW 1 (cm t):=fun r aj q av=>by
 unfold cm at aj
 rw[List.mem_map]at aj
 obtain⟨di,fq,rfl⟩:=aj
 rw[List.mem_map]at av
 obtain⟨x,I,rfl⟩:=av
 exact eJ.int x
theorem jf.ik{t:List (List Int)}(h:jf t)(i k:Nat):0<=bN (cm t) i k:=by
 rw[sB]
 have:(0:Int)<=(t[i]?.getD [])[k]?.getD 0:=by
  cases aj:t[i]? with
  | none=>simp
  | some r=>
   simp only[Option.getD_some]
   cases I:r[k]? with
   | none=>simp
   | some x=>exact((h r (List.mem_of_getElem? aj)).2 x (List.mem_of_getElem? I)).1
 exact_mod_cast this
theorem MD{t:List (List Int)}{n m:Nat}(aE:t.length=n)(hm:(t[0]?.getD []).length=m)(h:jf t)(ar:t.length<=1000):gy n m (cm t)=(((ji t).1:Int):Rat)/\(ji t).1.natAbs<=1000000000:=by
 have key:∀{t:List (List Int)} (n:Nat),(dw (dU (cm t)) n).1=((dw (dU (cm t)) n).1.num:Rat):=fun{t} n=>by
  rw[(xt _ n).1,uM,Rat.num_intCast]
 have gQ:=z_ h n
 have kB:=z_ (h.fA (m:=m) ar) m
 unfold gy ji
 rw[EB,aE,hm]
 simp only
 split
 ·exact⟨key m,kB⟩
 ·exact⟨key n,gQ⟩
theorem Wo{v:Value}{t:List (List Int)}{H:ab}(bc:jD H v t)(ar:t.length<65536)(aj:∀r∈t,r.length<65536):
  a0 prog 23 [v] H (fun u H1=>Ext H H1/\(fT t->∃w aZ,u= .tuple #[w,.int .i64 0]/\ye t.length (t[0]?.getD []).length (bN (cm t)) (((ji t).1:Int):Rat) aZ/\(∀p∈aZ,eJ 1 p.1)/\Row 48 2 true gA H1 w (aZ.map fun p=>(fu p.1,p.2)))/\(¬fT t->u= .tuple #[.slice none 0 0,.int .i64 1])):=by
 refine a0.cq fun Q aG=>?_
 obtain⟨m,hm⟩:∃m,m=(t[0]?.getD []).length:=⟨_,rfl⟩
 apply UH (by simp)
 simp[GY]
 refine a7.mk (A6 bc (by omega) fun r h=>by have:=aj r h;omega) ?_
 rintro u H1 ⟨bI,rfl⟩
 simp
 refine bG.mk (fun ao=>?good) (fun ao=>?bad)
 case bad=>
  simp at ao
  simp[bj]
  exact aG _ _ ⟨bI,fun h=>absurd h ao,fun _=>rfl⟩
 simp at ao
 have an:=ao.small
 have fp:=ao.len
 have v1:=ao.1
 have v2:=ao.2.1
 have pM:=ao.2.2.1
 have v4:=ao.2.2.2.1
 rw[<-hm]at fp pM v4
 have lT:=MD rfl hm.symm an (by omega)
 simp
 refine a7.mk (xD (bc.ext bI).row (by omega) aj fun r h x I=>by have:=(an r h).2 x I;omega) ?_
 rintro _ aY ⟨bu,yk,yy,rfl,lG⟩
 simp
 refine a7.mk (Xi (n:=t.length) (m:=m) (N:=64) (D:=1) lG (Ar rfl fp) (by omega) (by omega) (by omega) (by omega) (fun i k _ _=>an.ik i k) (WM t) (by rw[lT.1];exact ly.int (by have:=lT.2;omega) (by decide) (by decide)) (by decide)) ?_
 rintro u bZ ⟨bP,w,aZ,rfl,r5,qA,Sw⟩
 rw[lT.1]at r5
 simp[bj]
 refine aG _ _ ⟨bI.aB (bu.aB bP),fun _=>⟨w,aZ,rfl,?_,qA,Sw⟩,fun h=>absurd ao h⟩
 rw[<-hm]
 exact r5
theorem TM{v:Value}{l:List Int}{x:Int}{H:ab}(da:dj H v l)(ar:l.length<65536):
  a0 prog 66 [v,.int .i64 x] H (fun u H1=>H1=H/\∃r:Int,u= .int .i64 r/\(0<=r↔x∈l)):=by
 refine a0.cq fun Q aG=>?_
 apply U5 (by simp)
 obtain⟨a,c,rfl⟩:=Row.len da
 simp[Hb]
 refine cY (af:=IR) (xs:=l) (by simpa using da) (by simp) ?_
 simp
 refine dy.range (by kernel_rfl) l.length (by omega) (by simp) (by rfl) (by simp) (by decide) (by decide) (fun i bQ dq aY=>aY=H/\x∉l.take i) ?_ ?_ ?_
 ·exact⟨rfl,by simp⟩
 ·rintro i bQ dq aY ad iA ⟨rfl,I⟩ K a1
  simp at iA
  refine Exists.elim (⟨_,bx ad⟩:∃y,l[i]?=some y) fun y aJ=>?_
  simp[iA]
  refine cK (af:=IR) (xs:=l) (n:=i) (a:=y) (e:=3) (J:=1) (ay:=false) (by simpa using da) (by simp) aJ (by simp) (by simp) (by simp) (by decide) ?_
  rintro eM pK rfl
  simp
  refine bG.cC (fun ag=>?_) (fun ag=>?_)
  ·simp[iA,bj]
   exact aG _ _ ⟨rfl,_,rfl,by simp;rw[ag];exact List.mem_of_getElem? aJ⟩
  ·try simp
   refine a1 _ _ _ (by simp[iA]) ⟨rfl,?_⟩
   rw[List.take_add_one,aJ,List.mem_append]
   simp[I,ag]
 ·rintro bQ dq aY iA ⟨rfl,I⟩
  simp at I
  simp[bj]
  exact aG _ _ ⟨rfl,-1,rfl,by simp[I]⟩
theorem Oe{v:Value}{l:List Int}{x:Int}{H:ab}(da:dj H v l)(ar:l.length<65536):
  a0 prog 39 [v,.int .i64 x] H (fun u H1=>H1=H/\u= .bool (decide (x∈l))):=by
 refine a0.cq fun Q aG=>?_
 apply U2 (by simp)
 simp[Ha]
 refine a7.mk (TM da ar) ?_
 rintro u H1 ⟨rfl,r,rfl,aj⟩
 simp[bj]
 exact aG _ _ ⟨rfl,by simp[aj]⟩
def hA(l:List Nat):Rat:=Rat.divInt (i_ l) (gT l)
def pZ(n m:Nat)(p:List Nat×List Int):Prop:=(m_ p.1/\0<hA p.1/\p.2.length=m)/\vc n m p.2
def parts(a9:List (List Nat×List Int)):List (Rat×List Int):=a9.map fun p=>(hA p.1,p.2)
def sU(n:Nat)(l:List Int)(k:Nat):Prop:=∃x,l[k]?=some x/\ -1<=x/\x<n/\(0<=x->x∉l.take k)
theorem HM{l:List Int}{x:Int}:(∀k,l[k]?=some x->x∉l.take k)↔l.count x<=1:=by
 constructor
 ·intro h
  by_cases hm:x∈l
  ·obtain⟨k,ai⟩:=List.mem_iff_getElem?.1 hm
   have iR:=(cd.1 ai).1
   have o:=h k ai
   have aa:x∉l.drop (k+1):=fun aL=>by
    obtain⟨j,aQ⟩:=List.mem_iff_getElem?.1 aL
    rw[List.getElem?_drop]at aQ
    refine h _ aQ (List.mem_iff_getElem?.2 ⟨k,?_⟩)
    rw[List.getElem?_take_of_lt (by omega)]
    exact ai
   have e:l=l.take k++l[k]::l.drop (k+1):=by rw[List.getElem_cons_drop iR,List.take_append_drop]
   rw[e,List.count_append,List.count_cons,List.count_eq_zero.2 o,List.count_eq_zero.2 aa]
   split<;>omega
  ·rw[List.count_eq_zero.2 hm];omega
 ·intro h k ai hm
  have iR:=(cd.1 ai).1
  have e:l=l.take k++l[k]::l.drop (k+1):=by rw[List.getElem_cons_drop iR,List.take_append_drop]
  have I:l[k]=x:=(cd.1 ai).2
  rw[e,List.count_append,List.count_cons,I]at h
  have:=List.count_pos_iff.2 hm
  simp at h
  omega
theorem D6{n m:Nat}{l:List Int}:vc n m l↔l.length=m/\∀k,k<m->sU n l k:=by
 constructor
 ·intro h
  refine⟨h.len,fun k ai=>?_⟩
  rcases h.W0 k ai with o | ⟨j,aQ,o⟩
  ·exact⟨-1,o,by omega,by omega,fun h=>by omega⟩
  ·exact⟨j,o,by omega,by omega,fun _=>HM.2 (h.inj j aQ) k o⟩
 ·rintro⟨ar,h⟩
  refine⟨ar,fun k ai=>?_,fun j aQ=>HM.1 fun k ai=>?_⟩
  ·obtain⟨x,o,aa,aD,bD⟩:=h k ai
   by_cases I:x= -1
   ·exact .inl (I▸o)
   ·exact .inr ⟨x.toNat,by omega,by rw[o];congr 1;omega⟩
  ·obtain⟨x,o,aa,aD,bD⟩:=h k (by have:=(cd.1 ai).1;omega)
   rw[o]at ai
   have:=Option.some.inj ai
   subst this
   exact bD (by omega)
theorem XT:(10:Nat)^4000<=2^13288:=WA 10 500 2 1661 8 4000 13288 (by decide) (by decide) (by decide+kernel)
theorem H3{l:List Nat}(h:l_ l):fl l<2^13288:=by
 have o:=tg h.1
 have aa:=sA 10 l.length 4000 (by decide) h.2.2.2
 exact Nat.lt_of_lt_of_le o (Nat.le_trans aa XT)
theorem Fj{l:List Nat}(h:m_ l):c4 13288 (hA l):=by
 obtain⟨o,aa,aD,bD⟩:=h
 have aL:gT l≠0/\gT l<2^13288:=by
  unfold gT
  cases hu:l6 l with
  | none=>exact⟨by decide,Ew 13288 (by decide)⟩
  | some u=>
   obtain⟨aS,aM⟩:=aa u hu
   exact⟨by simp only;omega,H3 aS⟩
 refine c4.divInt aL.1 ?_ aL.2
 unfold i_
 have:=H3 o
 split
 ·rw[Int.natAbs_neg,Int.natAbs_natCast];exact this
 ·rw[Int.natAbs_natCast];exact this
def iJ(s:Nat):Nat:=13290*s+1
theorem Mx:c4 (iJ 0) 0:=⟨by simp[iJ],by simp[iJ]⟩
theorem EZ{s:Nat}{a b:Rat}(aF:c4 (iJ s) a)(ae:c4 13288 b):c4 (iJ (s+1)) (a+b):=(aF.add ae).mono (by unfold iJ;omega)
theorem Wp(aZ:List (Rat×List Int))(p:Rat×List Int):eC (aZ++[p])=eC aZ+p.1:=by
 rw[LI];simp only[eC];grind
theorem Wt(aZ:List (Rat×List Int))(p:Rat×List Int)(i k:Nat):gX (aZ++[p]) i k=gX aZ i k+gJ p i k:=by
 rw[LM];simp only[gX];grind
theorem LH{a9:List (List Nat×List Int)}{s:Nat}{p:List Nat×List Int}(h:a9[s]?=some p):parts (a9.take (s+1))=parts (a9.take s)++[(hA p.1,p.2)]:=by
 unfold parts
 rw[List.take_add_one,h,List.map_append];rfl
theorem EY{a9:List (List Nat×List Int)}(h:∀p∈a9,m_ p.1):c4 (iJ a9.length) (eC (parts a9))/\∀i k,c4 (iJ a9.length) (gX (parts a9) i k):=by
 induction a9 with
 | nil=>exact⟨Mx,fun _ _=>Mx⟩
 | cons p a9 aV=>
  obtain⟨o,aa⟩:=aV fun q av=>h q (by simp[av])
  have aD:=Fj (h p (by simp))
  refine⟨?_,fun i k=>?_⟩
  ·have:=EZ o aD
   rw[Rat.add_comm]at this
   exact this
  ·have aT:c4 13288 (gJ (hA p.1,p.2) i k):=by
    unfold gJ
    split
    ·exact aD
    ·exact⟨Nat.two_pow_pos 13288,Ew 13288 (by decide)⟩
   have:=EZ (aa i k) aT
   rw[Rat.add_comm]at this
   exact this
theorem dj.whole{H:ab}{u:Value}{y:List Int}(h:dj H u y):Whole prog 25 u:=by
 obtain⟨a,c,rfl⟩:=Row.len h
 exact⟨by rfl,by rfl,by simp[eB]⟩
theorem dj.kept{H aC:ab}{e:Nat}{s u:Value}{y:List Int}(h:dj H u y)(ai:Kept H aC s e)(cF:3≠e):dj aC u y:=Row.kept h ai cF fun _ _ h=>h
theorem Ya{d t d2 n:Nat}{x i:Operand}{r:List br}{F:Fr}{H:ab}{Q:Fr->ab->Prop}{xs:List (List Nat×List Int)}{a:List Nat×List Int}{aw:a_ (bb d t x i::aO d2 48 (T d)::r) Q}(bl:Row 48 2 true gA H (aq F x) xs)(ad:aq F i= .int .i64 (n:Int))(aF:xs[n]?=some a)
  (bt:eO prog t=some 48)(K:∀p fj fk,dj H (.slice fj a.2.length fk) a.2->a8 prog r Q .mk (aX (aX F d p) d2 (.agg #[.string (cn a.1),.slice fj a.2.length fk])) H):a8 prog (bb d t x i::aO d2 48 (T d)::r) Q aw F H:=
 cK bl ad aF bt (by rfl) (by rfl) (by decide) fun p u ⟨fj,jA,fk,hu,aa⟩=>by
  subst hu
  obtain⟨ej,dL,he⟩:=aa.len
  simp at he
  obtain⟨rfl,rfl,rfl⟩:=he
  exact K p fj fk aa
def nf(a9:List (List Nat×List Int))(s:Nat)(p:Rat×List Int)(i j k:Nat):Rat:=gX (parts (a9.take s)) j k+if k<i then gJ p j k else 0
theorem O1(a9:List (List Nat×List Int))(s:Nat)(p:Rat×List Int)(j k:Nat):nf a9 s p 0 j k=gX (parts (a9.take s)) j k:=by
 unfold nf
 rw[if_neg (Nat.not_lt_zero k)]
 exact Rat.add_zero _
theorem OZ{a9:List (List Nat×List Int)}{s m:Nat}{p:List Nat×List Int}(aT:a9[s]?=some p){j k:Nat}(ai:k<m):nf a9 s (hA p.1,p.2) m j k=gX (parts (a9.take (s+1))) j k:=by
 unfold nf
 rw[if_pos ai,LH aT,Wt]
theorem HY{a9:List (List Nat×List Int)}{s i:Nat}{p:Rat×List Int}{x:Int}(I:p.2[i]?=some x)(j k:Nat):nf a9 s p (i+1) j k=nf a9 s p i j k+if k=i/\x=(j:Int)then p.1 else 0:=by
 unfold nf gJ
 by_cases o:k<i
 ·rw[if_pos o,if_pos (by omega),if_neg (by omega:¬(k=i/\x=(j:Int)))]
  exact(Rat.add_zero _).symm
 ·by_cases aa:k=i
  ·subst aa
   rw[if_neg o,if_pos (by omega),I]
   simp only[Option.some.injEq,true_and]
   split<;>grind
  ·rw[if_neg o,if_neg (by omega),if_neg (fun h=>aa h.1)]
   exact(Rat.add_zero _).symm
theorem O0{a9:List (List Nat×List Int)}{s i:Nat}{p:List Nat×List Int}(h:∀j k,c4 (iJ s) (gX (parts (a9.take s)) j k))(aT:m_ p.1)(j k:Nat):c4 (iJ (s+1)) (nf a9 s (hA p.1,p.2) i j k):=by
 unfold nf
 have o:=Fj aT
 refine EZ (h j k) ?_
 unfold gJ
 have aH:c4 13288 (0:Rat):=⟨Nat.two_pow_pos 13288,Ew 13288 (by decide)⟩
 split
 ·split
  ·exact o
  ·exact aH
 ·exact aH
theorem HZ{v:Value}{a9:List (List Nat×List Int)}{n m:Nat}{H:ab}(h9:Row 48 2 true gA H v a9)(bS:∀p∈a9,Bytes p.1)(hlen:∀p∈a9,p.1.length<4611686018427387904/\p.2.length<65536)(iV:a9.length<=2000)(aE:0<n)(hm:0<m)(r2:n<1000)(tZ:m<1000):
  a0 prog 17 [v,.int .i64 n,.int .i64 m] H (fun u H1=>Ext H H1/\∃AN AP AO hb b,u= .tuple #[.agg #[.slice AN AP AO],hb,.bool b]/\Whole prog 44 hb/\(b=true↔(∀p∈a9,pZ n m p)/\a9.length<=1000)/\(b=true->∃B,hl H1 (.slice AN AP AO) B/\e6 n m B/\(∀j k,j<n->k<m->bN B j k=gX (parts a9) j k)/\b4 H1 hb (eC (parts a9)))):=by
 refine a0.cq fun Q aG=>?_
 apply UI (by simp)
 obtain⟨a,c,rfl⟩:=Row.len h9
 simp[GZ]
 have ck:Ext H (H++[.dead,.dead]):=Ext.more H (by simp)
 refine AT (e:=3) (J:=1) (bs:=8) (ay:=false) (n:=m) (eo:= .i64) (cB:= .i64) (z:= .int .i64 0) (af:=IR) (a:=0) (by simp) (by simp) (by simp) (by rfl) (by rfl) (by simp) (kS 0) (by simp) (by simp) (by decide) (by decide) (by omega) (fun aC=>rfl) ?_
 intro Fx abv H1 jL bI
 have pt:dj H1 (.slice Fx m abv) (List.replicate m 0):=jL.row
 refine AR (e:=25) (J:=1) (ay:=false) (z:= .slice none 0 0) (af:=dj) (a:=List.replicate m 0) (fun aC I=>by simpa using bM.ext (af:=dj) pt I) (by simpa using pt.whole) (by simp) (by simp) (by simp) (by rfl) (by rfl) (by rfl) (by decide) (by decide) ?_
 intro hK aY hD bu
 simp
 refine a7.mk (WV (af:=dj) (n:=n) hD.row (by omega) (fun H u y h=>h.whole) (fun H aC de u y ai h=>h.kept ai (by decide))) ?_
 rintro cc bZ ⟨bP,ka⟩
 have iQ:e9 bZ cc (List.replicate n (List.replicate m 0)):=ka.row
 simp
 refine a7.mk (L2 iQ (by simp;omega) (fun r h=>by rw[List.mem_replicate]at h;rw[h.2];simp;omega) (fun r h x I=>by rw[List.mem_replicate]at h;rw[h.2,List.mem_replicate]at I;rw[I.2];decide)) ?_
 rintro _ bR ⟨b5,qQ,qR,us,rfl,kc⟩
 simp
 refine a7.mk (xC (n:=0) (by omega) (by omega)) ?_
 rintro z8 b_ ⟨c1,JK⟩
 simp
 refine ev.mk JK.whole ?_
 rw[List.length_replicate]at kc
 have cH:Ext b_ (b_++[.dead,.dead]):=Ext.more b_ (by simp)
 have pr:=c1.aB cH
 have Kx:=b5.aB pr
 have qI:=ck.aB (bI.aB (bu.aB bP))
 have QF:=kc.ext pr
 simp
 refine cY (af:=gA) (xs:=a9) (by simpa using bM.ext (af:=Row _ _ _ gA) h9 (qI.aB Kx)) (by simp) ?_
 simp
 have fail:∀hb mc,Whole prog 44 hb->Ext H mc->(¬∀p∈a9,pZ n m p)->Q (.tuple #[.agg #[.slice none 0 0],hb,.bool false]) mc:=fun hb mc hw I hF=>aG _ _ ⟨I,none,0,0,hb,false,rfl,hw,⟨fun h=>(by cases h),fun h=>absurd h.1 hF⟩,fun h=>by cases h⟩
 refine dy.range (by kernel_rfl) a9.length (by omega) (by simp) (by rfl) (by simp) (by decide) (by decide) (fun s kW ku cE=>Ext bZ cE/\(∀p∈a9.take s,pZ n m p)/\b4 cE (ku 10) (eC (parts (a9.take s)))/\∃B,dQ (bZ.length+1) 84 44 4 true b4 cE (.slice qQ n qR) B us/\e6 n m B/\∀j k,j<n->k<m->bN B j k=gX (parts (a9.take s)) j k) ?_ ?_ ?_
 ·refine⟨Kx,by simp,by simpa[parts,eC]using JK.ext cH,_,QF,Ar (by simp) (fun r h=>by rw[List.mem_replicate]at h;rw[h.2];simp),fun j k aQ ai=>?_⟩
  rw[sB]
  simp[aQ,ai,parts,gX]
 ·rintro s kW ku cE an ni ⟨cA,mA,pc,B,CB,CU,y_⟩ K a1
  simp at ni pc
  refine Exists.elim (⟨_,bx an⟩:∃p,a9[s]?=some p) fun p aT=>?_
  have jt:=List.mem_of_getElem? aT
  have Sx:=bS p jt
  have kh:=hlen p jt
  have ts:=qI.aB cA
  have Dz:=EY (a9:=a9.take s) fun q av=>(mA q av).1.1
  have lS:(a9.take s).length=s:=by simp;omega
  rw[lS]at Dz
  simp[ni]
  refine Ya (xs:=a9) (n:=s) (a:=p) (by simpa using bM.ext (af:=Row _ _ _ gA) h9 ts) (by simp[ni]) aT (by simp) ?_
  intro qU s4 ta rW
  simp
  have hs:=Ext.dead cE
  refine a7.mk (Wk Sx kh.1) ?_
  rintro u e8 ⟨dA,aeE,(⟨Dn,rfl,SE⟩ | ⟨hF,rfl⟩),s1,b1,dx,cG,s2,ds,dF,dh,rfl⟩
  ·have Tz:=hs.aB dA
   have zC:b4 e8 (.agg #[.bool s1,.slice b1 dx cG,.bool s2,.slice ds dF dh]) (hA p.1):=SE
   have J4:=Fj Dn
   simp
   have fF:=Ext.dead e8
   have KA:=Tz.aB fF
   refine bV.join (by kernel_rfl) (fun pR sS hU=>Ext (e8++[.dead]) hU/\pR 49= .bool (!decide (0<hA p.1/\p.2.length=m))) ?_ ?_
   ·rintro cT ee-
    simp
    refine a7.mk (Ez (zC.ext fF)) ?_
    rintro u hU ⟨fP,rfl⟩
    by_cases hP:0<hA p.1
    ·have se:¬((if hA p.1<0 then(-1:Int)else if hA p.1=0 then 0 else 1)<=0):=fun h=>Rat.not_lt.2 (xN.1 h) hP
     simp[se]
     refine cY (af:=IR) (xs:=p.2) (by simpa using bM.ext (af:=dj) rW (KA.aB fP)) (by simp) ?_
     simp
     refine ee _ _ _ ⟨fP,?_⟩
     simp[hP]
     try omega
    ·have se:((if hA p.1<0 then(-1:Int)else if hA p.1=0 then 0 else 1)<=0):=xN.2 (Rat.not_lt.1 hP)
     simp[se]
     refine ee _ _ _ ⟨fP,?_⟩
     simp[hP]
   ·rintro pR sS hU ⟨fP,IC⟩
    simp at IC
    have zX:=KA.aB fP
    have Df:=pc.ext zX
    have Kw:=cA.aB zX
    simp[IC]
    refine bG.mk (fun ae=>?_) (fun ae=>?_)
    ·simp at ae
     simp[bj]
     refine ev.mk Df.whole ?_
     simp[bj]
     refine fail _ _ Df.whole (qI.aB Kw) fun cQ=>?_
     have:=(cQ p jt).1
     rcases ae with ae | ae
     ·exact ae this.2.1
     ·exact ae this.2.2
    ·simp at ae
     have hP:=ae.1
     have Dm:=ae.2
     have SH:=zC.ext (fF.aB fP)
     have JC:=bM.ext (af:=dj) rW zX
     have QE:=CB.ext zX
     have S4:=Dz.2
     simp
     refine cY (af:=IR) (xs:=p.2) (by simpa using JC) (by simp) ?_
     simp
     refine dy.range (by kernel_rfl) p.2.length (by omega) (by simp) (by rfl) (by simp) (by decide) (by decide) (fun i u_ va h3=>Ext bZ h3/\(∀k,k<i->sU n p.2 k)/\b4 h3 (ku 10) (eC (parts (a9.take s)))/\b4 h3 (.agg #[.bool s1,.slice b1 dx cG,.bool s2,.slice ds dF dh]) (hA p.1)/\dj h3 (.slice s4 p.2.length ta) p.2/\∃B,dQ (bZ.length+1) 84 44 4 true b4 h3 (.slice qQ n qR) B us/\e6 n m B/\∀j k,j<n->k<m->bN B j k=nf a9 s (hA p.1,p.2) i j k) ?_ ?_ ?_
     ·exact⟨Kw,fun k ai=>by omega,Df,SH,JC,B,QE,CU,fun j k aQ ai=>by rw[y_ j k aQ ai];exact(O1 _ _ _ _ _).symm⟩
     ·rintro i u_ va h3 ad k6 ⟨hG,C8,tY,wQ,qs,B,jN,wv,tO⟩ m4 fN
      simp at k6
      refine Exists.elim (⟨_,bx ad⟩:∃x,p.2[i]?=some x) fun x I=>?_
      refine bV.join (by kernel_rfl) (fun rh sT jc=>Ext bZ jc/\(∀k,k<i+1->sU n p.2 k)/\b4 jc (ku 10) (eC (parts (a9.take s)))/\b4 jc (.agg #[.bool s1,.slice b1 dx cG,.bool s2,.slice ds dF dh]) (hA p.1)/\dj jc (.slice s4 p.2.length ta) p.2/\∃B,dQ (bZ.length+1) 84 44 4 true b4 jc (.slice qQ n qR) B us/\e6 n m B/\∀j k,j<n->k<m->bN B j k=nf a9 s (hA p.1,p.2) (i+1) j k) ?_ ?_
      ·rintro sV jK P5
       simp[k6]
       refine cK (af:=IR) (xs:=p.2) (n:=i) (a:=x) (e:=3) (J:=1) (ay:=false) (by simpa using qs) (by simp[k6]) I (by simp) (by simp) (by simp) (by decide) ?_
       rintro uD E_ rfl
       simp[k6]
       refine bV.join (by kernel_rfl) (fun rh sT jc=>jc=h3/\∃bad,rh 78= .bool bad/\(bad=true↔(x< -1\/(n:Int)<=x\/(0<=x/\x∈p.2.take i)))) ?_ ?_
       ·rintro FK nj-
        by_cases o:x< -1
        ·simp[o]
         exact nj _ _ _ ⟨rfl,true,by simp,by simp[o]⟩
        ·by_cases aa:(n:Int)<=x
         ·simp[o,aa]
          exact nj _ _ _ ⟨rfl,true,by simp,by simp[aa]⟩
         ·by_cases aD:0<=x
          ·simp[o,aa,aD]
           refine q7 (e:=3) (J:=1) (ay:=false) (af:=IR) (xs:=p.2) (l:=0) (h:=i) (by simpa using qs) (by simp) (by simp) (by decide) (by simp[dN]) (by simp[fo]) (by omega) (by omega) ?_
           intro agk Kk
           have O9:(p.2.drop 0).take (i-0)=p.2.take i:=by simp
           rw[O9]at Kk
           try simp
           refine a7.mk (Oe (l:=p.2.take i) Kk (by simp;omega)) ?_
           rintro w ri ⟨rfl,rfl⟩
           try simp
           exact nj _ _ _ ⟨rfl,decide (x∈p.2.take i),by simp,by simp[o,aa,aD]⟩
          ·simp[o,aa,aD]
           exact nj _ _ _ ⟨rfl,false,by simp,by simp[o,aa,aD]⟩
       ·rintro rh sT jc ⟨rfl,bad,B8,jP⟩
        simp only[jY]at B8
        simp at B8
        have la:bad=false->sU n p.2 i:=fun h=>by
         have h:¬(x< -1\/(n:Int)<=x\/(0<=x/\x∈p.2.take i)):=fun b7=>by rw[jP.2 b7]at h;cases h
         exact⟨x,I,by omega,by omega,fun aH hm=>h (.inr (.inr ⟨aH,hm⟩))⟩
        have Sj:bad=true->¬sU n p.2 i:=fun h aQ=>by
         have h:=jP.1 h
         obtain⟨y,aS,aM,bh,b0⟩:=aQ
         rw[I]at aS
         have:=Option.some.inj aS
         subst this
         rcases h with h | h | ⟨h,hm⟩
         ·omega
         ·omega
         ·exact b0 h hm
        simp[B8]
        refine bG.mk (fun ae=>?_) (fun ae=>?_)
        ·simp
         refine ev.mk tY.whole ?_
         simp
         refine P5 _ _ _ _ (by simp) ?_
         simp[bj]
         refine fail _ _ tY.whole (qI.aB hG) fun cQ=>?_
         exact Sj ae ((D6.1 (cQ p jt).2).2 i (by omega))
        ·have JD:∀k,k<i+1->sU n p.2 k:=fun k ai=>by
          by_cases eU:k<i
          ·exact C8 k eU
          ·obtain rfl:k=i:=by omega
           exact la ae
         refine Exists.elim (la ae) fun y aJ=>?_
         have TC:y=x:=by have:=aJ.1;rw[I]at this;exact(Option.some.inj this).symm
         have xc:=aJ.2.1
         have TA:=aJ.2.2.1
         rw[TC]at xc TA
         simp
         refine bG.cC (fun Tw=>?_) (fun Tw=>?_)
         ·refine Exists.elim (⟨x.toNat,by omega⟩:∃j:Nat,x=(j:Int)) fun j aQ=>?_
          have nw:j<n:=by omega
          have wH:i<m:=by omega
          refine Exists.elim (wv.get nw wH) fun j0 aj=>?_
          refine Exists.elim (jN.oB aj.1) fun u1 hu=>?_
          have Ka:=O0 (i:=i) (p:=p) S4 Dn j i
          rw[<-tO j i nw wH]at Ka
          simp[aQ]
          refine cK (af:=fK) (xs:=us) (n:=j) (a:=u1) (e:=84) (J:=1) (ay:=false) (by simpa using jN.own.row) (by simp[aQ]) hu.1 (by simp) (by simp) (by simp) (by decide) ?_
          rintro Wg Fc rfl
          simp[aQ,k6]
          refine cK (af:=fK) (xs:=us) (n:=j) (a:=Fc) (e:=84) (J:=1) (ay:=false) (by simpa using jN.own.row) (by simp[aQ]) hu.1 (by simp) (by simp) (by simp) (by decide) ?_
          rintro Wh Z3 rfl
          simp[k6]
          refine cK (af:=b4) (xs:=j0) (n:=i) (a:=bN B j i) (e:=44) (J:=4) (ay:=true) (by simpa using hu.2.row) (by simp) aj.2.1 (by simp) (by simp) (by simp) (by decide) ?_
          intro Wi Z4 DD
          simp
          refine a7.mk (Ey (N:=iJ (s+1)) (M:=13288) DD wQ Ka J4 (by unfold iJ;omega)) ?_
          rintro w Be ⟨hX,hw⟩
          refine⟨hX,?_⟩
          have CA:=jN.ext hX
          have Cn:=bM.ext (af:=bz (bZ.length+1) 44 4 true b4) hu.2 hX
          refine ja (k:=bZ.length+1) (e:=44) (J:=4) (ay:=true) (n:=i) (af:=b4) (xs:=j0) (a:=bN B j i+hA p.1) (by simpa using Cn) (by simp) (by rw[aj.2.2];exact wH) (by simpa using hw) (by simpa using hw.whole) (by simp) (fun aC de u y ai h=>h.kept ai (by decide)) (by simp) (by simp) (by simp) (by decide) ?_
          rintro Wj Bf vW DP mz R1-
          simp at vW mz
          have ai:∀u x,b4 Be u x->b4 Bf u x:=fun u x h=>h.kept mz (by decide)
          try simp
          refine jK _ _ _ ⟨DP _ (by omega) (hG.aB hX),JD,ai _ _ (tY.ext hX),ai _ _ (wQ.ext hX),(bM.ext (af:=dj) qs hX).kept mz (by decide),B.set j (j0.set i (bN B j i+hA p.1)),CA.inner hu.1 (by decide) mz vW ai,wv.set (by rw[List.length_set];exact aj.2.2),?_⟩
          intro dC bK my ic
          rw[H5 aj.1 (by rw[aj.2.2];exact wH),HY I,tO dC bK my ic,tO j i nw wH]
          by_cases ag:dC=j/\bK=i
          ·obtain⟨rfl,rfl⟩:=ag
           rw[if_pos ⟨rfl,rfl⟩,if_pos ⟨rfl,aQ⟩]
          ·rw[if_neg ag,if_neg (by omega)]
           exact(Rat.add_zero _).symm
         ·refine jK _ _ _ ⟨hG,JD,tY,wQ,qs,B,jN,wv,fun dC bK my ic=>?_⟩
          rw[HY I,tO dC bK my ic,if_neg (by omega)]
          exact(Rat.add_zero _).symm
      ·rintro rh sT jc ⟨iF,RS,Sd,SI,C7,PN⟩
       exact fN _ _ _ (by simp[k6]) ⟨iF,RS,Sd,SI,C7,PN⟩
     ·rintro u_ va h3 k6 ⟨hG,C8,tY,wQ,qs,B,jN,wv,tO⟩
      simp
      refine a7.mk (Ey (N:=iJ s) (M:=13288) tY wQ Dz.1 J4 (by unfold iJ;omega)) ?_
      rintro w kX ⟨iE,hw⟩
      simp
      refine ev.mk hw.whole ?_
      try simp
      have SY:pZ n m p:=⟨⟨Dn,hP,Dm⟩,D6.2 ⟨Dm,fun k ai=>C8 k (by omega)⟩⟩
      refine a1 _ _ _ (by simp[ni]) ⟨hG.aB iE,fun q av=>?_,?_,B,jN.ext iE,wv,fun j k aQ ai=>?_⟩
      ·rw[List.take_add_one,aT,List.mem_append]at av
       rcases av with av | av
       ·exact mA q av
       ·simp at av
        rw[av];exact SY
      ·rw[LH aT,Wp]
       simpa using hw
      ·rw[tO j k aQ ai,Dm,OZ aT ai]
  ·simp[uZ]
   refine ev.mk (pc.ext (hs.aB (dA.aB (Ext.dead e8)))).whole ?_
   simp[bj]
   exact fail _ _ (pc.ext (hs.aB (dA.aB (Ext.dead e8)))).whole (ts.aB (hs.aB (dA.aB (Ext.dead e8)))) fun cQ=>hF (cQ p jt).1.1
 ·rintro kW ku cE ni ⟨cA,mA,pc,B,CB,CU,y_⟩
  simp at pc
  have db:=CB.row
  rw[List.take_length]at mA y_
  simp
  refine cY (af:=gA) (xs:=a9) (by simpa using bM.ext (af:=Row _ _ _ gA) h9 (qI.aB cA)) (by simp) ?_
  simp
  refine ev.mk pc.whole ?_
  simp[bj]
  refine aG _ _ ⟨qI.aB cA,qQ,n,qR,_,_,rfl,pc.whole,?_,fun _=>⟨B,db,CU,y_,pc⟩⟩
  constructor
  ·intro h
   simp at h
   exact⟨mA,by omega⟩
  ·intro h
   have:=h.2
   simp
   omega
theorem HI{a b:Rat}:((if a<b then(-1:Int)else if a=b then 0 else 1)=0)↔a=b:=by
 by_cases o:a<b
 ·simp only[if_pos o]
  constructor
  ·intro h;omega
  ·intro h;rw[h]at o;exact absurd o Rat.lt_irrefl
 ·by_cases aa:a=b
  ·simp[aa]
  ·simp[o,aa]
theorem Me{v w:Value}{t u:List (List Rat)}{n m N M:Nat}{H:ab}(bc:hl H v t)(eb:hl H w u)(aL:e6 n m t)(Jj:e6 n m u)(aE:n<65536)(hm:m<65536)(cS:∀i k,i<n->k<m->c4 N (bN t i k))(S1:∀i k,i<n->k<m->c4 M (bN u i k))(cj:N+M+1<=32000000):
  a0 prog 19 [.agg #[v],.agg #[w]] H (fun r H1=>Ext H H1/\∃b,r= .bool b/\(b=true↔∀i k,i<n->k<m->bN t i k=bN u i k)):=by
 refine a0.cq fun Q aG=>?_
 have mD:=aL.len
 have ju:=Jj.len
 apply UR (by simp)
 obtain⟨a,c,rfl⟩:=Row.len bc
 obtain⟨ds,dh,rfl⟩:=Row.len eb
 simp[G6]
 have ck:Ext H (H++[.dead,.dead]):=Ext.more H (by simp)
 refine cY (af:=iw) (xs:=t) (by simpa using bc.ext ck) (by simp) ?_
 simp
 refine dy.range (by kernel_rfl) t.length (by omega) (by simp) (by rfl) (by simp) (by decide) (by decide) (fun i bQ dq aY=>Ext H aY/\∀j k,j<i->k<m->bN t j k=bN u j k) ?_ ?_ ?_
 ·exact⟨ck,fun j k aQ=>by omega⟩
 ·rintro i bQ dq aY ad iA ⟨bu,ia⟩ K a1
  simp at iA
  have eT:i<n:=by omega
  refine Exists.elim (aL.at eT) fun row db=>?_
  have jW:=db.2.2.1
  simp[iA]
  refine cK (af:=iw) (xs:=t) (n:=i) (a:=row) (e:=84) (J:=1) (ay:=false) (by simpa using bc.ext bu) (by simp[iA]) db.1 (by simp) (by simp) (by simp) (by decide) ?_
  intro eM pK kj
  try simp
  refine cY (af:=b4) (xs:=row) (by simpa using kj) (by simp) ?_
  try simp
  refine dy.range (by kernel_rfl) row.length (by omega) (by simp) (by rfl) (by simp) (by decide) (by decide) (fun k c7 dV bR=>Ext aY bR/\∀bK,bK<k->bN t i bK=bN u i bK) ?_ ?_ ?_
  ·exact⟨Ext.refl _,fun bK ai=>by omega⟩
  ·rintro k c7 dV bR ai iB ⟨b5,CY⟩ sV jK
   simp at iB
   have iS:k<m:=by omega
   refine Exists.elim (aL.get eT iS) fun dT Dq=>?_
   refine Exists.elim (Jj.get eT iS) fun fH r_=>?_
   have SS:dT=row:=by have:=Dq.1;rw[db.1]at this;exact(Option.some.inj this).symm
   have pg:=Dq.2.1
   rw[SS]at pg
   have hs:=Ext.dead bR
   simp[iB]
   refine cK (af:=b4) (xs:=row) (n:=k) (a:=bN t i k) (e:=44) (J:=4) (ay:=true) (by simpa using bM.ext (af:=iw) kj b5) (by simp[iB]) pg (by simp) (by simp) (by simp) (by decide) ?_
   intro iI oE qF
   try simp
   refine ev.mk qF.whole ?_
   simp[iA]
   refine cK (af:=iw) (xs:=u) (n:=i) (a:=fH) (e:=84) (J:=1) (ay:=false) (by simpa using eb.ext (bu.aB (b5.aB hs))) (by simp) r_.1 (by simp) (by simp) (by simp) (by decide) ?_
   intro mP oF kM
   simp[iB]
   refine cK (af:=b4) (xs:=fH) (n:=k) (a:=bN u i k) (e:=44) (J:=4) (ay:=true) (by simpa using kM) (by simp) r_.2.1 (by simp) (by simp) (by simp) (by decide) ?_
   intro ox Ff DE
   try simp
   refine a7.mk (LU (qF.ext hs) DE (cS i k eT iS) (S1 i k eT iS) cj) ?_
   rintro aag eE ⟨c9,rfl⟩
   simp
   refine bG.cC (fun ag=>?_) (fun ag=>?_)
   ·have heq:=HI.1 ag
    try simp
    refine jK _ _ _ (by simp[iB]) ⟨b5.aB (hs.aB c9),fun bK ic=>?_⟩
    by_cases o:bK<k
    ·exact CY bK o
    ·obtain rfl:bK=k:=by omega
     exact heq
   ·simp[bj]
    refine aG _ _ ⟨bu.aB (b5.aB (hs.aB c9)),false,rfl,⟨fun h=>(by cases h),fun h=>?_⟩⟩
    exact absurd (HI.2 (h i k eT iS)) ag
  ·rintro c7 dV bR iB ⟨b5,CY⟩
   try simp
   refine a1 _ _ _ (by simp[iA]) ⟨bu.aB b5,fun j k aQ ai=>?_⟩
   by_cases o:j<i
   ·exact ia j k o ai
   ·obtain rfl:j=i:=by omega
    exact CY k (by omega)
 ·rintro bQ dq aY iA ⟨bu,ia⟩
  simp[bj]
  exact aG _ _ ⟨bu,true,rfl,⟨fun _ i k ad ai=>ia i k (by omega) ai,fun _=>rfl⟩⟩
def sR(t:List (List Int))(a9:List (List Nat×List Int)):Prop:=((∀p∈a9,pZ t.length (t[0]?.getD []).length p)/\a9.length<=1000)/\∀j k,j<t.length->k<(t[0]?.getD []).length->gX (parts a9) j k=bN (cm t) j k
theorem H6{t:List (List Int)}(h:jf t)(i k:Nat):c4 64 (bN (cm t) i k):=by
 rw[sB]
 refine c4.int ?_ (by decide)
 cases aj:t[i]? with
 | none=>simp
 | some r=>
  simp only[Option.getD_some]
  cases I:r[k]? with
  | none=>simp
  | some x=>
   have:=(h r (List.mem_of_getElem? aj)).2 x (List.mem_of_getElem? I)
   simp only[Option.getD_some]
   omega
theorem OW{v w:Value}{t:List (List Int)}{a9:List (List Nat×List Int)}{H:ab}(bc:jD H v t)(ar:t.length<65536)(aj:∀r∈t,r.length<65536)(h9:Row 48 2 true gA H w a9)(bS:∀p∈a9,Bytes p.1)(hlen:∀p∈a9,p.1.length<4611686018427387904/\p.2.length<65536)(iV:a9.length<=2000):
  a0 prog 24 [v,w] H (fun u H1=>Ext H H1/\(fT t->sR t a9->u=if kx (eC (parts a9))then .tuple #[.string (cn (fu (eC (parts a9)))),.int .i64 0]else .tuple #[.string (cn []),.int .i64 5])/\(fT t->¬sR t a9->u= .tuple #[.string (cn []),.int .i64 2])/\(¬fT t->u= .tuple #[.string (cn []),.int .i64 1])):=by
 refine a0.cq fun Q aG=>?_
 obtain⟨m,hm⟩:∃m,m=(t[0]?.getD []).length:=⟨_,rfl⟩
 apply UF (by simp)
 simp[GW]
 have D_:({data:= #[]}:ByteArray)=cn []:=rfl
 refine a7.mk (A6 bc (by omega) fun r h=>by have:=aj r h;omega) ?_
 rintro u H1 ⟨bI,rfl⟩
 simp
 refine bG.mk (fun ao=>?good) (fun ao=>?bad)
 case bad=>
  simp at ao
  simp[bj]
  exact aG _ _ ⟨bI,fun h=>absurd h ao,fun h=>absurd h ao,fun _=>by rw[D_]⟩
 simp at ao
 have an:=ao.small
 have fp:=ao.len
 have v1:=ao.1
 have v2:=ao.2.1
 have pM:=ao.2.2.1
 have v4:=ao.2.2.2.1
 rw[<-hm]at fp pM v4
 have y9:=Ar rfl fp
 refine Exists.elim (y9.at (i:=0) (by omega)) fun dS eV=>?_
 simp
 refine a7.mk (xD (bc.ext bI).row (by omega) aj fun r h x I=>by have:=(an r h).2 x I;omega) ?_
 rintro _ aY ⟨bu,yk,yy,rfl,lG⟩
 simp
 have bP:=Ext.dead aY
 refine a7.mk (z3 (n:=t.length) (lG.ext bP) (by simp[cm])) ?_
 rintro _ bR ⟨b5,rfl⟩
 refine⟨b5,?_⟩
 simp
 refine a7.mk (xo (lG.ext (bP.aB b5)) eV.1 eV.2.2.1) ?_
 rintro _ b_ ⟨c1,rfl⟩
 refine⟨c1,?_⟩
 simp
 have uh:=bP.aB (b5.aB c1)
 have mI:=bI.aB (bu.aB uh)
 refine a7.mk (HZ (n:=t.length) (m:=m) (bM.ext (af:=Row _ _ _ gA) h9 mI) bS hlen iV (by omega) (by omega) (by omega) (by omega)) ?_
 rintro _ dX ⟨cH,AN,AP,AO,hb,b,rfl,zo,ae,qk⟩
 refine⟨cH,?_⟩
 have po:=mI.aB cH
 cases b with
 | false=>
  have hF:¬sR t a9:=fun h=>by
   have:=ae.2 (by rw[hm];exact h.1)
   cases this
  simp
  refine ev.mk zo ?_
  simp[uZ,bj]
  exact aG _ _ ⟨po.aB (Ext.more dX (by simp)),fun _ h=>absurd h hF,fun _ _=>by rw[D_],fun h=>absurd ao h⟩
 | true=>
  have iU:=ae.1 rfl
  refine Exists.elim (qk rfl) fun B oY=>?_
  have Rc:=oY.1
  have lJ:=oY.2.1
  have fD:=oY.2.2.1
  have gD:=oY.2.2.2
  have zK:=EY (a9:=a9) fun q av=>(iU.1 q av).1.1
  have cA:Ext dX (dX++[.dead,.dead]):=Ext.more dX (by simp)
  simp
  refine ev.mk zo ?_
  simp
  refine bV.join (by kernel_rfl) (fun m1 oK eE=>Ext (dX++[.dead,.dead]) eE/\∃ek,m1 32= .bool ek/\(ek=false↔sR t a9)) ?_ ?_
  ·rintro K a1-
   simp
   refine a7.mk (Me (N:=64) (M:=iJ a9.length) (lG.ext (uh.aB (cH.aB cA))) (Rc.ext cA) y9 lJ (by omega) (by omega) (fun i k _ _=>H6 an i k) (fun i k ad ai=>by rw[fD i k ad ai];exact zK.2 i k) (by unfold iJ;omega)) ?_
   rintro _ eE ⟨c9,kB,rfl,o3⟩
   simp
   refine a1 _ _ _ ⟨c9,!kB,by simp,?_⟩
   have:(!kB)=false↔kB=true:=by cases kB<;>simp
   rw[this,o3]
   unfold sR
   rw[<-hm]
   constructor
   ·intro h
    exact⟨iU,fun j k aQ ai=>by rw[<-fD j k aQ ai,h j k aQ ai]⟩
   ·intro h i k ad ai
    rw[fD i k ad ai,h.2 i k ad ai]
  ·rintro m1 oK eE ⟨c9,ek,Iz,lI⟩
   simp at Iz
   simp[Iz]
   refine bG.mk (fun ae=>?_) (fun ae=>?_)
   ·simp[bj]
    exact aG _ _ ⟨po.aB (cA.aB c9),fun _ h=>(by rw[lI.2 h]at ae;cases ae),fun _ _=>by rw[D_],fun h=>absurd ao h⟩
   ·have ho:=lI.1 ae
    simp
    refine a7.mk (EI (N:=iJ a9.length) (gD.ext (cA.aB c9)) zK.1 (by unfold iJ;omega)) ?_
    rintro _ e8 ⟨dA,hu⟩
    have hX:=po.aB (cA.aB (c9.aB dA))
    by_cases ai:kx (eC (parts a9))
    ·rw[if_pos ai]at hu
     subst hu
     simp[bj]
     exact aG _ _ ⟨hX,fun _ _=>by rw[if_pos ai],fun _ h=>absurd ho h,fun h=>absurd ao h⟩
    ·rw[if_neg ai]at hu
     subst hu
     simp[bj]
     exact aG _ _ ⟨hX,fun _ _=>by rw[if_neg ai],fun _ h=>absurd ho h,fun h=>absurd ao h⟩
end Go.b9
end
section
namespace Go.b9
end Go.b9
end
section
set_option maxRecDepth 8000
set_option maxHeartbeats 1000000
namespace Go.b9
attribute [-simp] fJ gN hI
def NH(H:ab)(v:Value)(d:Nat):Prop:=v= .int .i64 (d:Int)
instance:bM NH:=⟨fun h _=>h⟩
section
variable {P:Program} {r:List br} {F:Fr} {H:ab} {Q:Fr->ab->Prop} {α:Type}
end
attribute [simp] oT
end Go.b9
end
section
set_option maxRecDepth 8000
set_option maxHeartbeats 1000000
namespace Go.b9
open Go.Proofs
open Go.Proofs.Try (prog)
attribute [-simp] fJ gN hI
def f4(d:Nat):List Nat:=[48+d/1000,48+d/100 % 10,48+d/10 % 10,48+d % 10]
theorem O6(l:List Nat)(c:Nat):fl (l++[c])=fl l*10+(c-48):=by
 rw[BM];simp[fl]
end Go.b9
end
section
set_option maxRecDepth 8000
set_option maxHeartbeats 1000000
namespace Go.b9
attribute [-simp] fJ gN hI
theorem Om{c:Nat}{l:List Nat}(h:(dB c l).2=none):(dB c l).1.length=l.length:=by rw[vA h]
theorem Wm(l:List Nat):(dB 47 (ko 45 l)).1=nY l/\(dB 47 (ko 45 l)).2=l6 l/\decide (l.head?=some 45)=nE l:=by
 unfold nY l6 nE qT ko
 cases l with
 | nil=>simp[dB]
 | cons c r=>
  by_cases h:c=45
  ·subst h
   simp[dB]
  ·by_cases aa:c=47
   ·subst aa
    simp[dB]
   ·simp[dB,h,aa]
theorem LD{l:List Nat}(h:m_ l):l.length<=8002:=by
 obtain⟨o,aa,-⟩:=h
 obtain⟨dp,hd,-⟩:=Wm l
 have aL:=o.2.2.2
 have bt:l.length<=(ko 45 l).length+1:=by
  unfold ko
  split
  ·simp;omega
  ·omega
 cases hu:l6 l with
 | none=>
  have:=Om (c:=47) (l:=ko 45 l) (by rw[hd,hu])
  rw[dp]at this
  omega
 | some u=>
  have aD:=(aa u hu).1.2.2.2
  have bD:=vB (c:=47) (l:=ko 45 l) (by rw[hd,hu])
  rw[dp]at bD
  have:=congrArg List.length bD
  simp at this
  omega
end Go.b9
end
section
set_option maxRecDepth 8000
set_option maxHeartbeats 1000000
namespace Go.b9
open Go.Proofs
open Go.Proofs.Try (prog)
attribute [-simp] fJ gN hI
theorem HP{v:Value}{l:List Int}{H:ab}(da:dj H v l):
  a0 prog 6 [v,.int .i64 9] H (fun u H1=>Ext H H1/\dj H1 u (l.take 9)):=by
 refine a0.cq fun Q aG=>?_
 apply TY (by simp)
 have ad6:(if(l.length:Int)<9 then(l.length:Int)else 9)=((min l.length 9:Nat):Int):=by split<;>omega
 simp[Gw]
 refine uU (e:=3) (J:=1) (by simp) (by simp) ?_
 simp
 refine cY (af:=IR) (xs:=l) (by simpa using da) (by simp) ?_
 simp
 refine q7 (e:=3) (J:=1) (ay:=false) (af:=IR) (xs:=l) (l:=0) (h:=min l.length 9) (by simpa using da) (by simp) (by simp) (by decide) (by simp[dN]) (by simp[fo];split<;>omega) (by omega) (by omega) ?_
 intro pM oi
 have e0:(l.drop 0).take (min l.length 9-0)=l.take 9:=by
  rw[List.drop_zero,Nat.sub_zero]
  by_cases h:l.length<=9
  ·rw[Nat.min_eq_left h,List.take_length,List.take_of_length_le h]
  ·rw[Nat.min_eq_right (by omega)]
 rw[e0]at oi
 refine AQ (k:=H.length) (e:=3) (J:=1) (ay:=false) (bs:=8) (z:= .int .i64 0) (af:=IR) (xs:=[]) (bH:=l.take 9) (by simpa using bz.void _ _ _ _ _ _ _) (by simpa using oi) (fun u y h=>by rw[show u=_ from h];exact kS y) (fun aC de u y ai h=>h) (by simp) (by simp) (by simp) (by simp) (by decide) (by rfl) (by rfl) (by rfl) (by decide) (by simp;omega) (Nat.le_refl _) ?_
 intro w bR kb b5 RW
 simp[bj]
 exact aG _ _ ⟨b5 _ (Nat.le_refl _) (Ext.refl _),by simpa using kb.row⟩
def te(x:List (List Int)):List (List Int):=(x.take 9).map (·.take 9)
theorem XR{v:Value}{x:List (List Int)}{H:ab}(da:e9 H v x):
  a0 prog 5 [v] H (fun u H1=>Ext H H1/\e9 H1 u (te x)):=by
 refine a0.cq fun Q aG=>?_
 apply T0 (by simp)
 simp[Gy]
 refine uU (e:=25) (J:=1) (by simp) (by simp) ?_
 simp
 refine dy.mk (by kernel_rfl) (fun m az bC H1=>∃i:Nat,m=x.length-i/\i<=x.length/\i<=9/\az 4= .int .i64 (i:Int)/\Ext H H1/\bz H.length 25 1 false dj H1 (az 3) ((x.take i).map (·.take 9))) x.length ⟨0,by omega,by omega,by omega,by simp,Ext.refl _,by simpa using bz.void _ _ _ _ _ _ _⟩ ?_
 rintro m az bC H1 ⟨i,rfl,ad,adP,bD,bI,cL⟩ K a1
 simp at bD cL
 have vQ:=bM.ext (af:=e9) da bI
 simp only[kp]
 refine bV.join (by kernel_rfl) (fun bQ dq aY=>aY=H1/\bQ 13= .bool (decide (i<x.length/\i<=8))) ?_ ?_
 ·rintro cT ee-
  simp[bD]
  refine cY (af:=dj) (xs:=x) (by simpa using vQ) (by simp) ?_
  by_cases a3:i<x.length
  ·simp[a3,bD]
   exact ee _ _ _ ⟨rfl,by simp[a3];omega⟩
  ·simp[a3,bD]
   exact ee _ _ _ ⟨rfl,by simp[a3]⟩
 ·rintro bQ dq aY ⟨rfl,h8⟩
  simp only[jY]at h8
  simp at h8
  simp[h8]
  refine bG.mk (fun ae=>?_) (fun ae=>?_)
  ·simp at ae
   refine Exists.elim (⟨_,bx ae.1⟩:∃p,x[i]?=some p) fun row db=>?_
   simp[bD]
   refine cK (af:=dj) (xs:=x) (n:=i) (a:=row) (e:=25) (J:=1) (ay:=false) (by simpa using vQ) (by simp[bD]) db (by simp) (by simp) (by simp) (by decide) ?_
   rintro iI oE qF
   try simp
   refine a7.mk (HP qF) ?_
   rintro oF dX ⟨cH,kM⟩
   have hlen:=Ext.len (bI.aB cH)
   try simp
   refine q6 (k:=H.length) (e:=25) (J:=1) (ay:=false) (bs:=24) (z:= .slice none 0 0) (af:=dj) (xs:=(x.take i).map (·.take 9)) (a:=row.take 9) (by simpa using bM.ext (af:=bz _ _ _ _ dj) cL cH) (by simpa using kM) (by simpa using kM.whole) (by simp) (fun aC de u y ai h=>h.kept ai (by decide)) (by simp) (by simp) (by simp) (by simp) (by simp) (by rfl) (by rfl) (by rfl) (by rfl) (by decide) (by decide) (by decide) (by simp;omega) (by omega) ?_
   intro ox u2 cE hp cA ke
   have hw:IntKind.i64.wrap ((i:Int)+1)=((i+1:Nat):Int):=by rw[cP (by omega) (by omega)];omega
   simp[bD,hw]
   refine a1 (x.length-(i+1)) _ _ _ (by omega) ⟨i+1,rfl,by omega,by omega,by simp,cA _ (Nat.le_refl _) (bI.aB cH),?_⟩
   rw[List.take_add_one,db]
   simpa using hp
  ·simp at ae
   simp[bj]
   refine aG _ _ ⟨bI,?_⟩
   have:x.take i=x.take 9:=by
    by_cases h:i<x.length
    ·have:=ae h;rw[show i=9 by omega]
    ·rw[List.take_of_length_le (by omega),List.take_of_length_le (by omega)]
   unfold te
   rw[<-this,List.map_take]
   exact cL.row
theorem nL{i:Nat}(h:i<4611686018427387904):IntKind.i64.wrap ((i:Int)+1)=((i+1:Nat):Int):=by rw[cP (by omega) (by omega)];omega
theorem xY{t:List (List Int)}:fT t↔(1<=t.length/\t.length<=8)/\∀r∈t,(r.length=(t[0]?.getD []).length/\1<=r.length/\r.length<=8)/\∀x∈r,0<=x/\x<=1000:=by
 constructor
 ·intro h
  have ar:=h.len
  obtain⟨o,aa,aD,bD,b2⟩:=h
  refine⟨⟨o,aa⟩,fun r aj=>?_⟩
  have e:=ar r aj
  refine⟨⟨e,by omega,by omega⟩,fun x I=>?_⟩
  have:=b2 r aj
  unfold k1 at this
  simp at this
  have:=this.2 x I
  omega
 ·rintro⟨⟨o,aa⟩,h⟩
  have aH:t[0]?.getD []∈t:=by rw[bx (by omega)];exact List.getElem_mem (by omega)
  have:=(h _ aH).1
  refine⟨o,aa,this.2.1,this.2.2,fun r aj=>?_⟩
  have:=h r aj
  unfold k1
  simp
  exact⟨this.1.1,fun x I=>by have:=this.2 x I;omega⟩
theorem My{v:Value}{t:List (List Int)}{H:ab}(da:e9 H v t)(ar:t.length<4611686018427387904)(aj:∀r∈t,r.length<4611686018427387904):
  a0 prog 8 [v] H (fun u H1=>H1=H/\u= .bool (decide (fT t))):=by
 refine a0.cq fun Q aG=>?_
 have no:∀{r x},r∈t->x∈r->¬(0<=x/\x<=1000)->Q (.bool false) H:=fun aj I h=>aG _ _ ⟨rfl,by
  have:¬fT t:=fun ao=>h (((xY.1 ao).2 _ aj).2 _ I)
  simp[this]⟩
 apply UC (by simp)
 simp[GU]
 refine dy.mk (by kernel_rfl) (fun m az bC H1=>∃i:Nat,m=t.length-i/\i<=t.length/\az 3= .int .i64 (i:Int)/\H1=H/\∀r∈t.take i,(r.length=(t[0]?.getD []).length/\1<=r.length/\r.length<=8)/\∀x∈r,0<=x/\x<=1000) t.length ⟨0,by omega,by omega,by simp,rfl,by simp⟩ ?_
 rintro m az bC H1 ⟨i,rfl,ad,aD,rfl,cQ⟩ K a1
 simp at aD
 simp[aD]
 refine cY (af:=dj) (xs:=t) (by simpa using da) (by simp) ?_
 simp
 refine bG.cC (fun a3=>?_) (fun a3=>?_)
 ·refine Exists.elim (⟨_,bx a3⟩:∃p,t[i]?=some p) fun row db=>?_
  refine Exists.elim (⟨_,bx (show 0<t.length by omega)⟩:∃p,t[0]?=some p) fun j1 ph=>?_
  have gj:=List.mem_of_getElem? db
  have jW:=aj _ gj
  have hw:=nL (show i<4611686018427387904 by omega)
  try simp only[kp]
  refine bV.join (by kernel_rfl) (fun bQ dq aY=>aY=H1/\bQ 29= .bool (decide (¬(row.length=j1.length/\1<=row.length/\row.length<=8)))) ?_ ?_
  ·rintro cT ee-
   simp[aD]
   refine cK (af:=dj) (xs:=t) (n:=i) (a:=row) (e:=25) (J:=1) (ay:=false) (by simpa using da) (by simp[aD]) db (by simp) (by simp) (by simp) (by decide) ?_
   rintro iI oE qF
   try simp
   refine cY (af:=IR) (xs:=row) (by simpa using qF) (by simp) ?_
   try simp
   refine cK (af:=dj) (xs:=t) (n:=0) (a:=j1) (e:=25) (J:=1) (ay:=false) (by simpa using da) (by simp) ph (by simp) (by simp) (by simp) (by decide) ?_
   rintro mP oF kM
   try simp
   refine cY (af:=IR) (xs:=j1) (by simpa using kM) (by simp) ?_
   by_cases he:row.length=j1.length
   ·simp[he,aD]
    refine mV (af:=dj) (xs:=t) (n:=i) (a:=row) (e:=25) (J:=1) (ay:=false) (by simp) (by decide) (by simpa using da) (by simp[aD]) db (by simp) (by simp) (by simp) (by decide) ?_
    rintro ox Ff DE
    try simp
    refine cY (af:=IR) (xs:=row) (by simpa using DE) (by simp) ?_
    try simp
    refine a7.mk zZ ?_
    rintro _ _ ⟨rfl,rfl⟩
    try simp
    refine ee _ _ _ ⟨rfl,?_⟩
    simp[he]
    generalize j1.length=z
    rw[Bool.eq_iff_iff]
    simp
    omega
   ·have rU:¬((row.length:Int)=j1.length):=by omega
    simp[rU,aD]
    exact ee _ _ _ ⟨rfl,by simp[he]⟩
  ·rintro bQ dq aY ⟨rfl,B5⟩
   simp only[jY]at B5
   simp at B5
   simp[B5]
   refine bG.mk (fun ae=>?_) (fun ae=>?_)
   ·have o3:¬(row.length=j1.length/\1<=row.length/\row.length<=8):=fun h=>by
     obtain⟨o,aa,aD⟩:=h
     rw[o]at ae
     rw[o]at aa aD
     generalize j1.length=z at ae aa aD
     simp at ae
     omega
    simp[bj]
    refine aG _ _ ⟨rfl,?_⟩
    have:¬fT t:=fun ao=>by
     have:=((xY.1 ao).2 _ gj).1
     rw[ph]at this
     exact o3 this
    simp[this]
   ·have ae:row.length=j1.length/\1<=row.length/\row.length<=8:=by
     simp at ae;omega
    simp
    refine dy.mk (by kernel_rfl) (fun m dG e7 bZ=>∃k:Nat,m=row.length-k/\k<=row.length/\dG 4= .int .i64 (k:Int)/\bZ=aY/\∀x∈row.take k,0<=x/\x<=1000) row.length ⟨0,by omega,by omega,by simp,rfl,by simp⟩ ?_
    rintro m dG e7 bZ ⟨k,rfl,ai,bD,rfl,CJ⟩ m4 fN
    simp at bD
    simp[aD,bD]
    refine cK (af:=dj) (xs:=t) (n:=i) (a:=row) (e:=25) (J:=1) (ay:=false) (by simpa using da) (by simp[aD]) db (by simp) (by simp) (by simp) (by decide) ?_
    rintro qU u8 uf
    try simp
    refine cY (af:=IR) (xs:=row) (by simpa using uf) (by simp) ?_
    try simp[aD,bD]
    refine bG.cC (fun iR=>?_) (fun iR=>?_)
    ·refine Exists.elim (⟨_,bx (show k<row.length by omega)⟩:∃p,row[k]?=some p) fun x I=>?_
     simp[aD,bD]
     refine cK (af:=dj) (xs:=t) (n:=i) (a:=row) (e:=25) (J:=1) (ay:=false) (by simpa using da) (by simp[aD]) db (by simp) (by simp) (by simp) (by decide) ?_
     rintro Am M7 Te
     simp[bD]
     refine cK (af:=IR) (xs:=row) (n:=k) (a:=x) (e:=3) (J:=1) (ay:=false) (by simpa using Te) (by simp[bD]) I (by simp) (by simp) (by simp) (by decide) ?_
     rintro Aj M3 rfl
     simp
     refine a7.mk zZ ?_
     rintro _ _ ⟨rfl,rfl⟩
     try simp
     have ug:=nL (show k<4611686018427387904 by omega)
     refine bG.mk (fun eT=>?_) (fun eT=>?_)
     rotate_left
     ·simp at eT
      simp[bD,ug]
      refine fN (row.length-(k+1)) _ _ _ (by omega) ⟨k+1,rfl,by omega,by simp,rfl,fun y aJ=>?_⟩
      rw[List.take_add_one,I]at aJ
      rcases List.mem_append.1 aJ with aJ | aJ
      ·exact CJ y aJ
      ·simp at aJ;subst aJ;exact eT
     ·simp at eT
      simp[bj]
      exact no gj (List.mem_of_getElem? I) (by omega)
    ·have RX:k=row.length:=by omega
     simp[aD,hw]
     refine a1 (t.length-(i+1)) _ _ _ (by omega) ⟨i+1,rfl,by omega,by simp,rfl,fun r aj=>?_⟩
     rw[List.take_add_one,db]at aj
     rcases List.mem_append.1 aj with aj | aj
     ·exact cQ r aj
     ·simp at aj
      subst aj
      rw[RX,List.take_length]at CJ
      rw[ph]
      exact⟨ae,CJ⟩
 ·simp
  refine cY (af:=dj) (xs:=t) (by simpa using da) (by simp) ?_
  simp
  refine a7.mk zZ ?_
  rintro _ _ ⟨rfl,rfl⟩
  simp[bj]
  refine aG _ _ ⟨rfl,?_⟩
  rw[List.take_of_length_le (by omega)]at cQ
  have:fT t↔1<=t.length/\t.length<=8:=by
   rw[xY]
   exact⟨fun h=>h.1,fun h=>⟨h,cQ⟩⟩
  simp only[this]
  simp
  rw[Bool.eq_iff_iff]
  simp
  omega
end Go.b9
end
