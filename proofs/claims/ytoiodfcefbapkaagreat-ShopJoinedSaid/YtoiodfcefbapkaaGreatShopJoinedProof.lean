/- ShopJoined returns true for every input and leaves it as it was: no condition. -/
import Derived.Test.YtoiodfcefbapkaaGreatShopJoinedJ
set_option linter.unusedVariables false
set_option linter.unusedSimpArgs false
section
set_option maxRecDepth 8000
set_option maxHeartbeats 1000000
namespace Go.cJ
open Go.Proofs
open Go.Proofs.Tryz (prog)
attribute [-simp] hq hX jG
attribute [-simp] pr
theorem Z5{v w:Value}{l y:List Int}{a b:Nat}{H:ab}(eu:dV H v l)(qN:dV H w y)(aO:a<256)(ag:b<256):
  aP prog 6 [v,w,.agg #[.int .u8 a,.int .u8 b]] H (fun u H1=>Ext H H1/\u= .bool true):=by
 refine aP.b9 fun Q aE=>?_
 obtain⟨n,aG⟩:∃n,n=a % 8+1:=⟨_,rfl⟩
 obtain⟨m,hm⟩:∃m,m=b % 8+1:=⟨_,rfl⟩
 have k7:1<=n:=by omega
 have mo:1<=m:=by omega
 have Lg:n<=8:=by omega
 have xe:m<=8:=by omega
 obtain⟨T,bc⟩:∃T,T=ni l n m 401:=⟨_,rfl⟩
 obtain⟨mN,ec⟩:∃mN,mN=ni y n m 401:=⟨_,rfl⟩
 have h8:gV T/\∀r∈T,∀x∈r,0<=x/\x<401:=by rw[bc];exact MX (by decide) (by decide) (by omega) (by omega) (by omega) (by omega)
 have mw:gV mN/\∀r∈mN,∀x∈r,0<=x/\x<401:=by rw[ec];exact MX (by decide) (by decide) (by omega) (by omega) (by omega) (by omega)
 obtain⟨an,jh⟩:=h8
 obtain⟨hu,pW⟩:=mw
 have wO:T.length=n:=by rw[bc,EO]
 have zJ:(T[0]?.getD []).length=m:=by rw[bc,EP (by omega)]
 have wQ:mN.length=n:=by rw[ec,EO]
 have Td:(mN[0]?.getD []).length=m:=by rw[ec,EP (by omega)]
 have mW:∀i,i<n->∃r,T[i]?=some r/\r.length=m:=fun i ae=>⟨_,bJ (by omega),by rw[an.len _ (List.getElem_mem (by omega)),zJ]⟩
 have Km:∀i k,i<n->k<m->∃r x,T[i]?=some r/\r[k]?=some x/\oK T i k=x/\0<=x/\x<=400:=fun i k ae aj=>by
  obtain⟨r,x,o,aa,aA,bo,bK,dM,cg⟩:=an.get (i:=i) (k:=k) (by omega) (by omega)
  exact⟨r,x,o,aA,bK,dM,by have:=jh r aa x bo;omega⟩
 have zM:∀i k,i<n->k<m->∃r x,mN[i]?=some r/\r[k]?=some x/\oK mN i k=x/\0<=x/\x<=400:=fun i k ae aj=>by
  obtain⟨r,x,o,aa,aA,bo,bK,dM,cg⟩:=hu.get (i:=i) (k:=k) (by omega) (by omega)
  exact⟨r,x,o,aA,bK,dM,by have:=pW r aa x bo;omega⟩
 obtain⟨cell,iM⟩:∃cell:Nat->Nat->Int,cell=fun i k=>oK T i k+oK mN i k:=⟨_,rfl⟩
 have iL:∀i k,i<n->k<m->0<=cell i k/\cell i k<=800:=fun i k ae aj=>by
  obtain⟨_,x,-,-,bk,o,aa⟩:=Km i k ae aj
  obtain⟨_,ew,-,-,bg,aA,bo⟩:=zM i k ae aj
  rw[iM]
  simp only[bk,bg]
  omega
 obtain⟨S,bE⟩:∃S,S=(List.range n).map fun i=>(List.range m).map (cell i):=⟨_,rfl⟩
 have Kk:S.length=n:=by rw[bE];simp
 have C3:(S[0]?.getD []).length=m:=by rw[bE,List.getElem?_map,List.getElem?_range k7];simp
 have SX:∀i k,i<n->k<m->oK S i k=cell i k:=fun i k ae aj=>by
  rw[bE,oK,List.getElem?_map,List.getElem?_range ae];simp[aj]
 have qP:gV S:=by
  refine F6.2 ⟨by omega,fun r al=>?_⟩
  rw[C3]
  rw[bE,List.mem_map]at al
  obtain⟨i,ae,rfl⟩:=al
  refine⟨⟨by simp,by simpa using mo,by simpa using xe⟩,fun x J=>?_⟩
  rw[List.mem_map]at J
  obtain⟨k,aj,rfl⟩:=J
  have:=iL i k (by simpa using ae) (by simpa using aj)
  omega
 have da:∀{t:List (List Int)},gV t->t.length<65536/\∀r∈t,r.length<65536:=fun h=>⟨by have:=h.2.1;omega,fun r al=>by rw[h.len r al];have:=h.2.2.2.1;omega⟩
 apply WT (by simp)
 simp only[HE]
 refine cc.lV fun dr fN=>?_
 simp
 have bn:Ext H (H++[.dead]):=Ext.dead H
 refine fN _ _ _ ?_
 clear fN
 have Se:=b7.ext (af:=dV) eu bn
 have Sj:=b7.ext (af:=dV) qN bn
 refine cc.lV fun dr fN=>?_
 simp
 refine aV.mk (MW Se aO ag (by decide) (by decide)) ?_
 simp only[<-aG,<-hm,show(400:Int)+1=401 by decide,<-bc]
 rintro a7 H1 ⟨bx,k0⟩
 refine⟨bx,?_⟩
 simp
 refine aV.mk (MW (b7.ext (af:=dV) Sj bx) aO ag (by decide) (by decide)) ?_
 simp only[<-aG,<-hm,show(400:Int)+1=401 by decide,<-ec]
 rintro iA aR ⟨bm,sm⟩
 have h3:=b7.ext (af:=ih) k0 bm
 simp
 refine fN _ _ _ ?_
 clear fN
 refine cc.lV fun dr fN=>?_
 simp
 refine pc (e:=34) (U:=1) (by simp) (by simp) ?_
 simp
 refine fN _ _ _ ?_
 clear fN
 refine cc.lV fun dr fN=>?_
 simp
 refine dF.mk (by kernel_rfl) (fun q dh ey bP=>∃i:Nat,q=n-i/\i<=n/\dh 10= .int .i64 (i:Int)/\Ext aR bP/\bB aR.length 34 1 false dV bP (dh 9) ((List.range i).map fun i=>(List.range m).map (cell i))) n ⟨0,by omega,by omega,by simp,Ext.refl _,by simpa using bB.void _ _ _ _ _ _ _⟩ ?_
 rintro q dh ey bP ⟨i,rfl,ae,gZ,bN,cy⟩ K a0
 simp at gZ cy
 have hP:=b7.ext (af:=ih) h3 bN
 have Kn:=b7.ext (af:=ih) sm bN
 have jZ:=yD (show i<4611686018427387904 by omega)
 simp[gZ]
 refine c9 (af:=dV) (xs:=T) (by simpa using hP) (by simp) ?_
 simp only[wO]
 simp[gZ]
 refine bH.mk (fun a6=>?_) (fun a6=>?_)
 ·simp at a6
  try simp
  refine pc (e:=3) (U:=1) (by simp) (by simp) ?_
  simp
  refine dF.mk (by kernel_rfl) (fun q cY dW b1=>∃k:Nat,q=m-k/\k<=m/\cY 12= .int .i64 (k:Int)/\Ext bP b1/\bB bP.length 3 1 false IR b1 (cY 11) ((List.range k).map (cell i))) m ⟨0,by omega,by omega,by simp,Ext.refl _,by simpa using bB.void _ _ _ _ _ _ _⟩ ?_
  rintro q cY dW b1 ⟨k,rfl,aj,iI,cr,jP⟩ qs im
  simp at iI jP
  have pF:=b7.ext (af:=ih) hP cr
  have Ta:=b7.ext (af:=ih) Kn cr
  have rf:=yD (show k<4611686018427387904 by omega)
  refine Exists.elim (mW i a6) fun r al=>?_
  simp[iI,gZ]
  refine dc (af:=dV) (xs:=T) (n:=i) (a:=r) (e:=34) (U:=1) (aC:=false) (by simpa using pF) (by simp[gZ]) al.1 (by simp) (by simp) (by simp) (by decide) ?_
  rintro iv mG uV
  try simp
  refine c9 (af:=IR) (xs:=r) (by simpa using uV) (by simp) ?_
  simp only[al.2]
  simp[iI]
  refine bH.mk (fun pP=>?_) (fun pP=>?_)
  ·simp at pP
   refine Exists.elim (Km i k a6 pP) fun rt al=>Exists.elim al fun Gj bM=>?_
   refine Exists.elim (zM i k a6 pP) fun Fq al=>Exists.elim al fun Gk hu=>?_
   have uT:IntKind.i64.wrap (Gj+Gk)=cell i k:=by
    rw[b6 (by omega) (by omega),iM]
    simp only[bM.2.2.1,hu.2.2.1]
   try simp[iI,gZ]
   refine dc (af:=dV) (xs:=T) (n:=i) (a:=rt) (e:=34) (U:=1) (aC:=false) (by simpa using pF) (by simp[gZ]) bM.1 (by simp) (by simp) (by simp) (by decide) ?_
   rintro nn vv uW
   simp[iI]
   refine dc (af:=IR) (xs:=rt) (n:=k) (a:=Gj) (e:=3) (U:=1) (aC:=false) (by simpa using uW) (by simp[iI]) bM.2.1 (by simp) (by simp) (by simp) (by decide) ?_
   rintro p_ FY D9
   obtain rfl:FY= .int .i64 Gj:=D9
   simp[gZ]
   refine dc (af:=dV) (xs:=mN) (n:=i) (a:=Fq) (e:=34) (U:=1) (aC:=false) (by simpa using Ta) (by simp[gZ]) hu.1 (by simp) (by simp) (by simp) (by decide) ?_
   rintro ru u8 VE
   simp[iI]
   refine dc (af:=IR) (xs:=Fq) (n:=k) (a:=Gk) (e:=3) (U:=1) (aC:=false) (by simpa using VE) (by simp[iI]) hu.2.1 (by simp) (by simp) (by simp) (by decide) ?_
   rintro YY O0 VF
   obtain rfl:O0= .int .i64 Gk:=VF
   simp[uT]
   refine qh (k:=bP.length) (e:=3) (U:=1) (aC:=false) (bA:=8) (z:= .int .i64 0) (af:=IR) (xs:=(List.range k).map (cell i)) (a:=cell i k) (by simpa using jP) (by simp[IR]) (by simpa using j8 _) (by simp) (fun aF dv u y aj h=>h) (by simp) (by simp) (by simp) (by simp) (by simp) (by rfl) (by rfl) (by rfl) (by rfl) (by decide) (by decide) (by decide) (by simp;omega) (by have:=Ext.len cr;omega) ?_
   intro E1 v10 kq SD fQ ahf
   simp[iI,rf]
   refine im (m-(k+1)) _ _ _ (by omega) ⟨k+1,rfl,by omega,by simp,fQ _ (Nat.le_refl _) cr,?_⟩
   rw[List.range_succ,List.map_append]
   simpa using SD
  ·simp at pP
   obtain rfl:k=m:=by omega
   have oP:=jP.row
   have pD:=b7.ext (af:=bB _ _ _ _ dV) cy cr
   simp
   refine qh (k:=aR.length) (e:=34) (U:=1) (aC:=false) (bA:=24) (z:= .slice none 0 0) (af:=dV) (xs:=(List.range i).map fun i=>(List.range k).map (cell i)) (a:=(List.range k).map (cell i)) (by simpa using pD) (by simpa using oP) (by simpa using dV.whole oP) (by simp) (fun aF dv u y aj h=>h.kept aj (by decide)) (by simp) (by simp) (by simp) (by simp) (by simp) (by rfl) (by rfl) (by rfl) (by rfl) (by decide) (by decide) (by decide) (by simp;omega) (by have:=Ext.len bN;have:=Ext.len cr;omega) ?_
   intro p_ vx cS h2 cD k6
   simp[gZ,jZ]
   refine a0 (n-(i+1)) _ _ _ (by omega) ⟨i+1,rfl,by omega,by simp,cD _ (Nat.le_refl _) (bN.aw cr),?_⟩
   rw[List.range_succ,List.map_append]
   simpa using h2
 ·simp at a6
  obtain rfl:i=n:=by omega
  refine fN _ _ _ ?_
  clear fN
  have me:ih bP (dh 9) S:=by
   rw[bE]
   exact cy.row
  refine Exists.elim (⟨_,rfl⟩:∃cH,cH=dh 9) fun cH ir=>?_
  rw[<-ir]at me
  refine cc.lV fun dr fN=>?_
  simp
  refine aV.mk (E4 (Row.s3 hP) (da an).1 (da an).2) ?_
  rintro mG cb ⟨c0,xC,-⟩
  refine Exists.elim (xC an) fun vA bK=>Exists.elim bK fun aW bK=>?_
  have mS:=bK.1
  subst mS
  have a5:=r0.mk' an bK.2.1 bK.2.2.1
  have Vi:Row 93 2 true e_ cb vA (fc aW):=bK.2.2.2
  simp
  refine fN _ _ _ ?_
  clear fN
  refine cc.lV fun dr fN=>?_
  simp
  refine aV.mk (E4 (Row.s3 (b7.ext (af:=ih) Kn c0)) (da hu).1 (da hu).2) ?_
  rintro vv dQ ⟨cL,Ed,-⟩
  refine Exists.elim (Ed hu) fun Ga dM=>Exists.elim dM fun hU dM=>?_
  have oJ:=dM.1
  subst oJ
  have eO:=r0.mk' hu dM.2.1 dM.2.2.1
  have LI:Row 93 2 true e_ dQ Ga (fc hU):=dM.2.2.2
  have LH:=b7.ext (af:=Row _ _ _ e_) Vi cL
  have sk:=b7.ext (af:=ih) me (c0.aw cL)
  have f1:=a5.zl
  have f2:=eO.zl
  simp
  refine fN _ _ _ ?_
  clear fN
  refine cc.lV fun dr fN=>?_
  simp
  refine pc (e:=93) (U:=2) (by simp) (by simp) ?_
  simp
  refine yr (k:=dQ.length) (e:=93) (U:=2) (aC:=true) (bA:=40) (z:= .agg #[.string ⟨#[]⟩,.slice none 0 0]) (af:=e_) (xs:=[]) (bO:=fc aW) (by simpa using bB.void _ _ _ _ _ _ _) (by simpa using LH) (fun u y h=>h.jr) (fun aF dv u y aj h=>h.kept aj (by decide)) (by simp) (by simp) (by simp) (by simp) (by decide) (by rfl) (by rfl) (by rfl) (by decide) (by simp;omega) (Nat.le_refl _) ?_
  intro Pd cS h2 cD k6
  have Gi:=cD _ (Nat.le_refl _) (Ext.refl _)
  simp
  refine yr (k:=dQ.length) (e:=93) (U:=2) (aC:=true) (bA:=40) (z:= .agg #[.string ⟨#[]⟩,.slice none 0 0]) (af:=e_) (xs:=fc aW) (bO:=fc hU) (by simpa using h2) (by simpa using b7.ext (af:=Row _ _ _ e_) LI Gi) (fun u y h=>h.jr) (fun aF dv u y aj h=>h.kept aj (by decide)) (by simp) (by simp) (by simp) (by simp) (by decide) (by rfl) (by rfl) (by rfl) (by decide) (by omega) (Ext.len Gi) ?_
  intro Gb eN eH c1 n8
  have BL:=c1 _ (Nat.le_refl _) Gi
  have ug:=b7.ext (af:=ih) sk BL
  have Vj:Row 93 2 true e_ eN Gb (fc aW++fc hU):=eH.row
  have ER:∀{p},p∈fc aW++fc hU->p∈fc aW\/p∈fc hU:=fun h=>List.mem_append.1 h
  have R5:∀p∈fc aW++fc hU,Bytes p.1:=fun p aY=>(ER aY).elim (a5.bytes p) (eO.bytes p)
  have zG:∀p∈fc aW++fc hU,p.1.length<4611686018427387904/\p.2.length<65536:=fun p aY=>(ER aY).elim (a5.short p) (eO.short p)
  have SI:∀p∈fc aW++fc hU,r1 S.length (S[0]?.getD []).length p:=fun p aY=>by
   rw[Kk,C3]
   rcases ER aY with h | h
   ·have:=a5.ok p h;rw[wO,zJ]at this;exact this
   ·have:=eO.ok p h;rw[wQ,Td]at this;exact this
  have Am:parts (fc aW++fc hU)=aW++hU:=by
   have bk:=a5.parts
   have bg:=eO.parts
   unfold parts at bk bg⊢
   rw[List.map_append,bk,bg]
  have KG:pj S (fc aW++fc hU):=⟨⟨SI,by rw[List.length_append];omega⟩,fun j k aX aj=>by
   rw[Kk]at aX
   rw[C3]at aj
   rw[Am,E7,a5.sum j k (by omega) (by omega),eO.sum j k (by omega) (by omega),vh]
   have:=SX j k aX aj
   rw[iM]at this
   unfold oK at this⊢
   rw[this,Rat.intCast_add]⟩
  have aav:=(vr (t:=T) rfl rfl an.small (by omega)).2
  have ade:=(vr (t:=mN) rfl rfl hu.small (by omega)).2
  have j5:=(vr (t:=S) rfl rfl qP.small (by omega)).2
  refine Exists.elim (⟨_,rfl⟩:∃l5,l5=(il T).1) fun l5 pH=>?_
  refine Exists.elim (⟨_,rfl⟩:∃kv,kv=(il mN).1) fun kv uy=>?_
  refine Exists.elim (⟨_,rfl⟩:∃ei,ei=(il S).1) fun ei oR=>?_
  have Nt:du (parts (fc aW))=((l5:Int):Rat):=by rw[a5.parts,a5.len,pH]
  have Nu:du (parts (fc hU))=((kv:Int):Rat):=by rw[eO.parts,eO.len,uy]
  refine Exists.elim (⟨_,rfl⟩:∃eh,eh=l5+kv) fun eh mY=>?_
  have Ns:du (parts (fc aW++fc hU))=((eh:Int):Rat):=by
   rw[Am,E5,<-a5.parts,<-eO.parts,Nt,Nu,mY,Rat.intCast_add]
  have z7:=KG.Yo qP
  rw[Ns,<-oR]at z7
  have hle:ei<=eh:=Rat.intCast_le_intCast.1 z7
  rw[<-pH]at aav
  rw[<-uy]at ade
  rw[<-oR]at j5
  have jW:kR ((eh:Int):Rat):=(de.int (N:=64) (by omega) (by decide)).AZ (by decide)
  have jY:=x_ jW
  have kE:=E2 jY.1
  simp[<-ir]
  refine aV.mk (Jg (Row.s3 ug) (da qP).1 (da qP).2 Vj R5 zG (by rw[List.length_append];omega)) ?_
  rintro O0 fC ⟨dx,pX,-,-⟩
  have qH:=pX qP KG
  rw[Ns,if_pos jW]at qH
  subst qH
  simp
  refine fN _ _ _ ?_
  clear fN
  have SW:=b7.ext (af:=ih) ug dx
  refine cc.lV fun dr fN=>?_
  simp[<-ir]
  refine aV.mk (IK (Row.s3 SW) (da qP).1 (da qP).2) ?_
  rintro ac8 kq ⟨fQ,Ec,-⟩
  have zh:=Ec qP
  rw[<-oR]at zh
  subst zh
  simp
  refine fN _ _ _ ?_
  clear fN
  have Vg:=b7.ext (af:=Row _ _ _ e_) LI (BL.aw (dx.aw fQ))
  have Vh:=b7.ext (af:=Row _ _ _ e_) LH (BL.aw (dx.aw fQ))
  simp[vu]
  refine aV.mk (Qb (A0 _) (by omega)) ?_
  rintro _ iD ⟨fY,afu,rfl,Tv⟩
  have kC:=Tv.2 jY.1
  subst kC
  simp
  refine aV.mk (Cc (A0 _) (by omega)) ?_
  rintro Pa ig ⟨gP,ah4,d12,AE,Lh⟩
  have wg:=(Lh jY.1).1
  have we:=(Lh jY.1).2
  rw[jY.2.1,Rat.num_intCast]at wg
  rw[jY.2.2,Rat.den_intCast]at we
  rw[wg,we]at AE
  simp
  refine aV.mk (IP (n:=ei) (by omega) (by omega)) ?_
  rintro akc kr ⟨hS,VO⟩
  simp
  refine aV.mk (PS (N:=5) (q:=((eh:Int):Rat)) (x:=ei) (by rw[Rat.num_intCast,Rat.den_intCast];exact AE.ext hS) VO (by rw[Rat.num_intCast];exact b4.i64 (by omega) (by omega)) (by rw[Rat.den_intCast];exact b4.small (by decide) (by decide)) (b4.i64 (by omega) (by omega)) (b4.small (by decide) (by decide)) (by decide)) ?_
  rintro _ nC ⟨lR,akj,rfl,V_⟩
  have aH:=V_.2 (Rat.intCast_le_intCast.2 hle)
  simp[aH]
  refine aV.mk (Cc (A0 _) (by omega)) ?_
  rintro F9 ks ⟨hT,ah5,d15,ra,Li⟩
  have wg:=(Li jY.1).1
  have we:=(Li jY.1).2
  rw[jY.2.1,Rat.num_intCast]at wg
  rw[jY.2.2,Rat.den_intCast]at we
  rw[wg,we]at ra
  have Gh:=fY.aw (gP.aw (hS.aw (lR.aw hT)))
  simp
  refine aV.mk (MN (b7.ext (af:=Row _ _ _ e_) Vh Gh) a5.bytes (fun p aY=>(a5.short p aY).1) (by omega) (fun p aY=>(a5.one p aY).1)) ?_
  rw[Nt,Rat.num_intCast,Rat.den_intCast]
  rintro Pb rX ⟨ji,sX⟩
  simp
  refine aV.mk (MN (b7.ext (af:=Row _ _ _ e_) Vg (Gh.aw ji)) eO.bytes (fun p aY=>(eO.short p aY).1) (by omega) (fun p aY=>(eO.one p aY).1)) ?_
  rw[Nu,Rat.num_intCast,Rat.den_intCast]
  rintro Pc yN ⟨oh,uX⟩
  have nQ:∀{z:Int},z.natAbs<=2000000000->b4 5 z:=fun h=>b4.i64 (by omega) (by omega)
  simp
  refine aV.mk (ID (N:=5) (sX.ext oh) uX (nQ (by omega)) (nQ (by decide)) (nQ (by omega)) (nQ (by decide)) (by decide)) ?_
  have bk:l5*((1:Nat):Int)+kv*((1:Nat):Int)=eh:=by rw[mY];simp
  have bg:((1:Nat):Int)*((1:Nat):Int)=1:=by simp
  rw[bk,bg]
  rintro ado oB ⟨o1,Eh⟩
  simp
  refine aV.mk (IF (N:=5) (ra.ext (ji.aw (oh.aw o1))) Eh (nQ (by omega)) (nQ (by decide)) (nQ (by omega)) (nQ (by decide)) (by decide)) ?_
  rintro _ vI ⟨h9,rfl⟩
  have fW:eh*(1:Int)=eh*((1:Nat):Int):=by simp
  simp[fW]
  refine aV.mk Yn ?_
  rintro _ yO ⟨xJ,rfl⟩
  simp[bf]
  exact aE _ _ ⟨bn.aw (bx.aw (bm.aw (bN.aw (c0.aw (cL.aw (BL.aw (dx.aw (fQ.aw (Gh.aw (ji.aw (oh.aw (o1.aw (h9.aw xJ))))))))))))),by simp⟩
end Go.cJ
end
section
set_option maxRecDepth 8000
set_option maxHeartbeats 1000000
namespace Go.cJ
open Go.Proofs
open Go.Proofs.Tryz (prog)
open Go.RowKit
theorem gl.size{w:World}{H:Type}{enc:TypeId×Value->H}:gl w (lv H enc w 56) true (fun G v (p:Nat×Nat)=>∃a b,v= .agg #[a,b]/\yV G a p.1/\yV G b p.2):=
 gl.pair (w:=w) (t:=56) (t0:=5) (t1:=5) ⟨_,_,by rfl,by rfl,by rfl,by rfl,by rfl⟩ (by rfl) (by rfl) (by rfl) gl.u8 gl.u8
theorem Z6{w:World}{H:Type}{enc:TypeId×Value->H}{x y:Value}{z:Array Value}(aH:lv H enc w 34 [x])(o:lv H enc w 34 [y])(aa:lv H enc w 56 z.toList):
  Calls prog 6 #[x,y,.agg z] w fun e gx=>e= .returned (.bool true)/\Below w.heap.size w gx:=by
 obtain⟨bs,vL,yg,a,dm,fZ,eM,gC⟩:=gl.row _ aH _ _ nH.start
 obtain⟨lo,vM,s1,b,a1,a3,bG,cn⟩:=gl.row _ o _ _ dm
 obtain⟨aeL,Gx,s2,c,ed,fA,hV,lj⟩:=gl.size _ aa _ _ a1
 obtain⟨v0,rfl⟩:=eM.single
 obtain⟨v1,rfl⟩:=bG.single
 have i0:=j_.app (af:=dV) (N:=Gx) (j_.app (af:=dV) (N:=vM) gC)
 have i1:=j_.app (af:=dV) (N:=Gx) cn
 change dV _ v0 a at i0
 change dV _ v1 b at i1
 obtain⟨fg,mF,e,⟨rfl,cq⟩,⟨rfl,cj⟩⟩:=lj
 obtain rfl:s2=[.int .u8 c.1,.int .u8 c.2]:=by
  have:(Value.agg s2.toArray)= .agg #[.int .u8 c.1,.int .u8 c.2]:=e
  have:=Value.agg.inj this
  simpa using congrArg Array.toList this
 obtain⟨yX,r8,rfl⟩:=Row.len i0
 obtain⟨bY,cm,rfl⟩:=Row.len i1
 have ek:bl aeL (.agg #[.int .u8 c.1,.int .u8 c.2]) (.agg z):=by
  have:=cB.toArray hV
  exact .agg (by simpa using this.1) (by simpa using this.2)
 exact adp ed ((cB.ext fA ((cB.ext a3 eM).append bG)).append (cB.one ek)) (by kernel_rfl) (Z5 i0 i1 cq cj)
end Go.cJ
end
section
namespace Go.Proofs.YtoiodfcefbapkaaGreat.shopJoined
open Go.ChangeShapes Go.WideShapes Go.ChangeAt Go.RowKit
theorem own:ownKnob Tryz.prog.godebug=none:=by kernel_rfl
theorem laidOut:laidOutB Tryz.prog=true:=by kernel_rfl
set_option maxRecDepth 100000 in
theorem lifted(os:Os)(started:os.Started)(H:Type)(enc:TypeId×Value->H):
  ReturnsInHanded {} Tryz.checked os 6 .any (Rows.shopJoinedSpec.pre6 enc Tryz.prog Tryz.f6 Rows.shopJoinedRow.domain false) (Rows.shopJoinedSpec.post enc Tryz.prog Tryz.f6 false true false false):=by
 refine returnsInHanded_of_change (C:=Tryz.checked) own started (by kernel_rfl) Tryz.func6
  (ChangeSpec.witness6 (enc:=enc) (C:=Tryz.checked) false ⟨#[], #[.slice none 0 0,.slice none 0 0,.agg #[.int .u8 0,.int .u8 0]],[]⟩ 8 (by kernel_rfl) (by kernel_rfl) (by kernel_rfl) (by kernel_rfl)) ?_
 intro W base args aN gs before L3 ur ag5 _
 have gO:∀(j:Nat) t v,Tryz.f6.params[j]?=some t->args[j]?=some v->Value.okWide Tryz.prog W .any base t v:=L3
 have Tj:=ur
 obtain⟨p,q,wu,nW,rfl,KN,m6⟩:=ur
 have bt:DataW.TrodAll enc Tryz.prog W 0 (fun _=>true) true Tryz.f6.params.toList args.toList aN p:=wu
 rw[Tryz.params6]at bt gO
 obtain⟨v0,aj6,d0,agy,E0,aij,agV,rfl,rfl,aH,fz⟩:=trodAll_cons bt
 obtain⟨v1,aj7,d1,agz,dm,a1,agW,rfl,rfl,o,ed⟩:=trodAll_cons fz
 obtain⟨v2,aj8,d2,agA,fZ,a3,agX,rfl,rfl,aa,fA⟩:=trodAll_cons ed
 obtain⟨rfl,rfl,rfl⟩:=trodAll_nil fA
 obtain rfl:args= #[v0,v1,v2]:=by cases args;simp_all
 obtain⟨rfl,rfl⟩:=trodVars_none nW
 obtain⟨yX,AP,afO,rfl⟩:=okWide_slice Tryz.underlying34 (gO 0 34 v0 rfl rfl)
 obtain⟨bY,ahZ,v9,rfl⟩:=okWide_slice Tryz.underlying34 (gO 1 34 v1 rfl rfl)
 obtain⟨cC,rfl,-⟩:=okWide_struct Tryz.underlying56 (gO 2 56 v2 rfl rfl)
 have jF:=aH
 have jl:=o
 have kj:=aa
 have Yp:∀x∈E0,x.block<W.heap.size:=by obtain⟨m,hm⟩:=jF;exact DataW.trod_lt m _ _ _ hm
 have Yq:∀x∈dm,x.block<W.heap.size:=by obtain⟨m,hm⟩:=jl;exact DataW.trod_lt m _ _ _ hm
 have Yr:∀x∈fZ,x.block<W.heap.size:=by obtain⟨m,hm⟩:=kj;exact DataW.trod_lt m _ _ _ hm
 obtain⟨RM,hh⟩:=aH
 obtain⟨RN,bk⟩:=o
 obtain⟨RO,bg⟩:=aa
 simp only[Value.cells]at hh bk bg
 clear wu L3
 refine(cJ.Z6 (H:=H) (enc:=enc) ⟨RM,_,hh⟩ ⟨RN,_,bk⟩ ⟨RO,_,bg⟩).mono fun e ae6 ⟨he,y2⟩=>?_
 subst he
 exact⟨_,rfl,_,_,_,[],_,[],Tj,trodAll_mk1 (shut_bool Tryz.underlying4 _),(trodAll_cons_mk (Below.trod laidOut (by kernel_rfl) (of_decide_eq_true (by kernel_rfl)) jF y2 Yp) (trodAll_cons_mk (Below.trod laidOut (by kernel_rfl) (of_decide_eq_true (by kernel_rfl)) jl y2 Yq) (trodAll_cons_mk (Below.trod laidOut (by kernel_rfl) (of_decide_eq_true (by kernel_rfl)) kj y2 Yr) trodAll_mk0))),rfl,y2.frame _,fun h=>by cases h⟩
theorem over:Rows.shopJoinedRow.holds Tryz.pinned (OpenSpec.ofChange Rows.shopJoinedSpec):=
 OpenClaim.holds_of_wide 6 Tryz.f6 rfl rfl rfl rfl rfl rfl rfl ⟨rfl,rfl,rfl,rfl,rfl⟩ rfl rfl rfl rfl rfl (by kernel_rfl) Tryz.func6 (by kernel_rfl)
  (of_decide_eq_true (by kernel_rfl)) (by unfold Func.isWrapper;first | (rw[if_pos (by decide+kernel)];kernel_rfl) | (rw[if_neg (by decide+kernel)];exact⟨rfl,rfl⟩))
  (fun os started H enc _=>lifted os started H enc)
theorem proved:Rows.ShopJoinedSaid:=over
end Go.Proofs.YtoiodfcefbapkaaGreat.shopJoined
end
