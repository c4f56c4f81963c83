/- ShopShares returns true for every input and leaves it as it was: no condition. -/
import Derived.Test.YtoiodfcefbapkaaShopSharesI
set_option linter.unusedVariables false
set_option linter.unusedSimpArgs false
section
set_option maxRecDepth 8000
set_option maxHeartbeats 1000000
namespace Go.b_
open Go.Proofs
open Go.Proofs.Try (prog)
attribute [-simp] fL gO hK
section
variable {P:Program} {r:List br} {F:Fr} {H:ab} {Q:Fr->ab->Prop} {α:Type}
theorem Yr{en:Bool}{d t e R bs n:Nat}{ay:Bool}{x y:Operand}{eg cB:IntKind}{z:Value}{ae:ab->Value->α->Prop}{a:α}{aw:a_ ((⟨en,none,some d,.makeSlice t x y⟩:br)::r) Q}(hu:P.underlying t=some (.slice e))(an:bm P e=some R)(af:bytes? P e=some bs)(aP:dw P e=some z)(dt:flat z=true)
  (dM:da P e=some ay)(hw:Whole P e z)(I:aq F x= .int eg (n:Int))(aL:aq F y= .int cB (n:Int))(c0:0<R)(dH:0<bs)(bp:bs*n<=281474976710656)(bl:∀aC,ae aC z a)
  (K:∀v aC,bz H.length e R ay ae aC v (List.replicate n a)->Ext H aC->(n=0/\v= .slice (some ⟨0,0,none⟩) 0 0/\aC=H\/0<n/\v= .slice (some ⟨H.length,0,none⟩) n n/\aC=H++[.own e false (made z (n*R))])->a8 P r Q .mk (aY F d v) aC):a8 P ((⟨en,none,some d,.makeSlice t x y⟩:br)::r) Q aw F H:=by
 have cY:z.cells.size=R:=by have:=hw.1;rw[an]at this;exact(Option.some.inj this).symm
 by_cases aE:n=0
 ·subst aE
  exact iz (v:= .slice (some ⟨0,0,none⟩) 0 0) rfl rfl rfl (fun U aM=> .uw aM hu an af I aL) (fun U aM=>by simp[bF,aM]) (.inr (Ext.refl H)) (K _ H (bz.void _ _ _ _ _ _ _) (Ext.refl H) (.inl ⟨rfl,rfl,rfl⟩))
 ·refine iz (v:= .slice (some ⟨H.length,0,none⟩) n n) rfl rfl rfl (fun U aM=> .make aM hu an af aP dt cY I aL c0 dH (Nat.le_refl _) (by omega) bp) (fun U aM=>by simp[bF,aM]) (.inr ((Ext.refl H).snoc _ _ _)) (K _ _ ⟨made z (n*R),⟨by simp[pG],.inr ⟨H.length,0,n,false,made z (n*R),by simp,by omega,by simp,Nat.le_refl _,by simp,by simp[pG],?_⟩⟩,fun i x ad=>?_⟩ ((Ext.refl H).snoc _ _ _) (.inr ⟨by omega,rfl,rfl⟩))
  ·rw[List.drop_zero,List.take_of_length_le (by simp[pG])]
  ·rw[List.getElem?_replicate]at ad
   split at ad
   ·rename_i a5
    obtain rfl:=Option.some.inj ad
    have hm:=Lb z R n i cY a5 c0
    have:dZ ay R (made z (n*R)) i=z:=by
     have cf:=hw.2.2
     unfold dZ
     cases ay with
     | true=>
      have aF:eB z=true:=by
       cases au:eB z with
       | true=>rfl
       | false=>rw[au]at cf;simp at cf;rw[cf.1]at dM;cases dM
      simp only[if_true]
      rw[hm,Array.toArray_toList]
      exact(s7 aF).symm
     | false=>
      have aF:eB z=false:=by
       cases au:eB z with
       | false=>rfl
       | true=>rw[au]at cf;simp at cf;rw[cf]at dM;cases dM
      rw[aF]at cf
      simp at cf
      have o:R=1:=by rw[<-cY,cf.2];rfl
      subst o
      simp only[Bool.false_eq_true,if_false]
      have aa:(made z (n*1))[i]?=(((made z (n*1)).drop (i*1)).take 1)[0]?:=by
       rw[List.getElem?_take_of_lt (by omega),List.getElem?_drop];simp
      rw[aa,hm,cf.2]
      rfl
    rw[this]
    exact bl _
   ·cases ad
theorem MM{en:Bool}{d t e R bs n:Nat}{ay:Bool}{x y:Operand}{eg cB:IntKind}{z:Value}{ae:ab->Value->α->Prop}{a:α}{aw:a_ ((⟨en,none,some d,.makeSlice t x y⟩:br)::r) Q}(hu:P.underlying t=some (.slice e))(an:bm P e=some R)(af:bytes? P e=some bs)(aP:dw P e=some z)(dt:flat z=true)
  (dM:da P e=some ay)(hw:Whole P e z)(I:aq F x= .int eg (n:Int))(aL:aq F y= .int cB (n:Int))(c0:0<R)(dH:0<bs)(bp:bs*n<=281474976710656)(bl:∀aC,ae aC z a)
  (K:∀fW gS aC,bz H.length e R ay ae aC (.slice fW n gS) (List.replicate n a)->Ext H aC->a8 P r Q .mk (aY F d (.slice fW n gS)) aC):a8 P ((⟨en,none,some d,.makeSlice t x y⟩:br)::r) Q aw F H:=
 Yr hu an af aP dt dM hw I aL c0 dH bp bl fun v aC cV oz ag=>by
  have ar:=cV.len
  rw[List.length_replicate]at ar
  obtain⟨fW,gS,rfl⟩:=ar
  exact K fW gS aC cV oz
end
structure rk (fC gJ:List Int) (M kind:Int) (w:Nat):Prop where
 Vz:∀x∈fC,x<=M
 eg:∀x∈gJ,x<=M
 at_:(kind=0/\fC[w]?=some M/\∀(i:Nat) (x:Int),i<w->fC[i]?=some x->x<M)\/(kind=1/\(∀x∈fC,x<M)/\gJ[w]?=some M/\∀(i:Nat) (x:Int),i<w->gJ[i]?=some x->x<M)
theorem rk.uniq{fC gJ:List Int}{M s0 kind z6:Int}{w gm:Nat}(h:rk fC gJ M kind w)(b5:rk fC gJ s0 z6 gm):M=s0/\kind=z6/\w=gm:=by
 have le:∀{M s0 kind z6:Int} {w gm:Nat},rk fC gJ M kind w->rk fC gJ s0 z6 gm->M<=s0:=fun h b5=>by
  rcases h.at_ with⟨-,o,-⟩ | ⟨-,-,o,-⟩
  ·exact b5.Vz _ (List.mem_of_getElem? o)
  ·exact b5.eg _ (List.mem_of_getElem? o)
 have e:M=s0:=Int.le_antisymm (le h b5) (le b5 h)
 subst e
 refine⟨rfl,?_⟩
 rcases h.at_ with⟨bq,o,aa⟩ | ⟨bq,aH,o,aa⟩<;>rcases b5.at_ with⟨bh,cl,iX⟩ | ⟨bh,cv,cl,iX⟩
 ·refine⟨by rw[bq,bh],?_⟩
  rcases Nat.lt_trichotomy w gm with a5 | he | a5
  ·exact absurd (iX _ _ a5 o) (Int.lt_irrefl _)
  ·exact he
  ·exact absurd (aa _ _ a5 cl) (Int.lt_irrefl _)
 ·exact absurd (cv _ (List.mem_of_getElem? o)) (Int.lt_irrefl _)
 ·exact absurd (aH _ (List.mem_of_getElem? cl)) (Int.lt_irrefl _)
 ·refine⟨by rw[bq,bh],?_⟩
  rcases Nat.lt_trichotomy w gm with a5 | he | a5
  ·exact absurd (iX _ _ a5 o) (Int.lt_irrefl _)
  ·exact he
  ·exact absurd (aa _ _ a5 cl) (Int.lt_irrefl _)
theorem Lo{t:List (List Int)}(bu:0<t.length):∃M:Int,(dy (dT (cd t)) t.length).1=(M:Rat)/\(t.map List.sum)[(dy (dT (cd t)) t.length).2]?=some M/\(∀x∈t.map List.sum,x<=M)/\∀(i:Nat) (x:Int),i<(dy (dT (cd t)) t.length).2->(t.map List.sum)[i]?=some x->x<M:=by
 have qz:∀(i:Nat) (x:Int),(t.map List.sum)[i]?=some x->dT (cd t) i=(x:Rat):=fun i x h=>by
  rw[List.getElem?_map]at h
  rw[q2]
  cases ad:t[i]? with
  | none=>rw[ad]at h;cases h
  | some r=>rw[ad]at h;simp at h;simp[h]
 obtain⟨o,aa⟩:=xo (dT (cd t)) t.length
 have hw:(dy (dT (cd t)) t.length).2<t.length:=by omega
 have aV:(t.map List.sum)[(dy (dT (cd t)) t.length).2]?=some (t[(dy (dT (cd t)) t.length).2]'hw).sum:=by
  rw[List.getElem?_map,bt hw];rfl
 refine⟨_,by rw[o,qz _ _ aV],aV,fun x I=>?_,fun i x ad I=>?_⟩
 ·obtain⟨i,ad⟩:=List.mem_iff_getElem?.1 I
  have cW:i<t.length:=by have:=(cc.1 ad).1;simpa using this
  have:=Aa (dT (cd t)) cW
  rw[o,qz _ _ ad,qz _ _ aV]at this
  exact_mod_cast this
 ·have:=We (dT (cd t)) ad
  rw[o,qz _ _ I,qz _ _ aV]at this
  exact_mod_cast this
theorem N8{t:List (List Int)}{m:Nat}(hm:m=(t[0]?.getD []).length)(bu:0<t.length)(aH:0<m):rk (t.map List.sum) ((ef m t).map List.sum) (jn t).1 (jn t).2.1 (jn t).2.2:=by
 obtain⟨et,jO,P9,Cb,Qa⟩:=Lo bu
 have mH:(ef m t).length=m:=by simp[ef]
 obtain⟨K,a1,IT,IW,IV⟩:=Lo (t:=ef m t) (by omega)
 rw[mH]at a1 IT IV
 have bR:jn t=if(dy (dT (cd t)) t.length).1<(dy (dT (cd (ef m t))) m).1 then((dy (dT (cd (ef m t))) m).1.num,1,(dy (dT (cd (ef m t))) m).2)else((dy (dT (cd t)) t.length).1.num,0,(dy (dT (cd t)) t.length).2):=by
  unfold jn
  rw[<-hm]
 rw[bR,jO,a1]
 by_cases a5:et<K
 ·rw[if_pos (by exact_mod_cast a5)]
  simp only[Rat.num_intCast]
  exact⟨fun x I=>by have:=Cb x I;omega,IW,.inr ⟨rfl,fun x I=>by have:=Cb x I;omega,IT,IV⟩⟩
 ·rw[if_neg (fun h=>a5 (by exact_mod_cast h))]
  simp only[Rat.num_intCast]
  exact⟨Cb,fun x I=>by have:=IW x I;omega,.inl ⟨rfl,P9,Qa⟩⟩
def ep(t:List (List Int))(i k:Nat):Int:=(t[i]?.getD [])[k]?.getD 0
def jD(t:List (List Int))(i k a:Nat):Int:=if a<i then(t[a]?.getD []).sum else if a=i then((t[i]?.getD []).take k).sum else 0
def jE(t:List (List Int))(i k b:Nat):Int:=((t.take i).map fun r=>r[b]?.getD 0).sum+if b<k then ep t i b else 0
theorem X5{row:List Int}{k:Nat}{x:Int}(I:row[k]?=some x):(row.take (k+1)).sum=(row.take k).sum+x:=by
 rw[List.take_add_one,I];simp
theorem VA{t:List (List Int)}{i k a:Nat}{row:List Int}{x:Int}(aj:t[i]?=some row)(I:row[k]?=some x):jD t i (k+1) a=if a=i then jD t i k i+x else jD t i k a:=by
 unfold jD
 by_cases h:a=i
 ·subst h
  simp[aj,X5 I]
 ·simp[h]
theorem V4{t:List (List Int)}{i k b:Nat}{row:List Int}{x:Int}(aj:t[i]?=some row)(I:row[k]?=some x):jE t i (k+1) b=if b=k then jE t i k k+x else jE t i k b:=by
 unfold jE ep
 by_cases h:b=k
 ·subst h
  simp[aj,I]
 ·rw[if_neg h]
  by_cases aa:b<k
  ·rw[if_pos (by omega),if_pos aa]
  ·rw[if_neg (by omega),if_neg aa]
theorem VB{t:List (List Int)}{i a:Nat}{row:List Int}(aj:t[i]?=some row):jD t i row.length a=jD t (i+1) 0 a:=by
 unfold jD
 by_cases h:a<i
 ·rw[if_pos h,if_pos (by omega)]
 ·by_cases aa:a=i
  ·subst aa
   simp[aj]
  ·rw[if_neg h,if_neg aa,if_neg (by omega)]
   split<;>simp
theorem V5{t:List (List Int)}{i b:Nat}{row:List Int}(aj:t[i]?=some row)(af:b<row.length):jE t i row.length b=jE t (i+1) 0 b:=by
 unfold jE ep
 rw[if_pos af,List.take_add_one,aj]
 simp
theorem VC{t:List (List Int)}(an:iU t)(i k a:Nat):0<=jD t i k a/\jD t i k a<=1000000000:=by
 have g:∀i k:Nat,0<=((t[i]?.getD []).take k).sum/\((t[i]?.getD []).take k).sum<=1000000000:=fun i k=>by
  cases aj:t[i]? with
  | none=>simp
  | some r=>
   have:=an r (List.mem_of_getElem? aj)
   exact iU.sum (by simp;omega) fun x I=>this.2 x (List.mem_of_mem_take I)
 unfold jD
 split
 ·have:=g a (t[a]?.getD []).length
  rwa[List.take_length]at this
 ·split
  ·exact g i k
  ·omega
theorem V6{t:List (List Int)}(an:iU t)(ar:t.length<1000)(i k b:Nat):0<=jE t i k b/\jE t i k b<=2000000000:=by
 have g:∀r∈t,0<=r[b]?.getD 0/\r[b]?.getD 0<=1000000:=fun r aj=>by
  cases I:r[b]? with
  | none=>simp
  | some x=>exact(an r aj).2 x (List.mem_of_getElem? I)
 have o:0<=((t.take i).map fun r=>r[b]?.getD 0).sum/\((t.take i).map fun r=>r[b]?.getD 0).sum<=1000000000:=iU.sum (by simp;omega) fun x I=>by
  rw[List.mem_map]at I
  obtain⟨r,aj,rfl⟩:=I
  exact g r (List.mem_of_mem_take aj)
 have aa:0<=ep t i b/\ep t i b<=1000000:=by
  unfold ep
  cases aj:t[i]? with
  | none=>simp
  | some r=>exact g r (List.mem_of_getElem? aj)
 unfold jE
 split<;>omega
theorem FH{fC:List Int}{n:Nat}{f g:Nat->Int}{x:Int}{i:Nat}(ad:i<n)(h:fC.length=n/\∀a,a<n->fC[a]?=some (f a))(aV:∀a,g a=if a=i then x else f a):(fC.set i x).length=n/\∀a,a<n->(fC.set i x)[a]?=some (g a):=by
 refine⟨by simp[h.1],fun a aF=>?_⟩
 rw[aV,List.getElem?_set]
 by_cases jU:i=a
 ·subst jU
  simp[h.1,ad]
 ·rw[if_neg jU,if_neg (Ne.symm jU),h.2 a aF]
theorem VT{v:Value}{t:List (List Int)}{m:Nat}{H:ab}(hm:m=(t[0]?.getD []).length)(dc:eL H v t)(ao:fT t):
  aZ prog 21 [v] H (fun u H1=>Ext H H1/\∃a b,u= .tuple #[a,b]/\c7 H1 a (t.map List.sum)/\c7 H1 b ((ef m t).map List.sum)):=by
 refine aZ.cr fun Q aG=>?_
 have an:=ao.small
 have fm:=ao.len
 have v1:=ao.1
 have v2:=ao.2.1
 have pS:=ao.2.2.1
 have v4:=ao.2.2.2.1
 rw[<-hm]at fm pS v4
 obtain⟨ka,pr⟩:∃p,t[0]?=some p:=⟨_,bt (show 0<t.length by omega)⟩
 have eP:ka.length=m:=fm _ (List.mem_of_getElem? pr)
 have ht:0<H.length:=by
  obtain⟨b,i,cap,X,all,-,aS,-⟩:=(Row.xe dc).at (by omega)
  have:=(cc.1 aS).1
  omega
 obtain⟨n,aE⟩:∃n,n=t.length:=⟨_,rfl⟩
 apply UP (by simp)
 simp[GO]
 refine cN (ae:=c7) (xs:=t) (by simpa using dc) (by simp) ?_
 simp only[<-aE]
 try simp
 refine MM (e:=3) (R:=1) (bs:=8) (ay:=false) (n:=n) (eg:= .i64) (cB:= .i64) (z:= .int .i64 0) (ae:=IR) (a:=0) (by simp) (by simp) (by simp) (by rfl) (by rfl) (by simp) (kd 0) (by simp) (by simp) (by decide) (by decide) (by omega) (fun aC=>rfl) ?_
 intro lY lZ H1 IM bH
 simp
 have vP:=bJ.ext (ae:=eL) dc bH
 refine cI (ae:=c7) (xs:=t) (n:=0) (a:=ka) (e:=25) (R:=1) (ay:=false) (by simpa using vP) (by simp) pr (by simp) (by simp) (by simp) (by decide) ?_
 rintro nN pQ lW
 try simp
 refine cN (ae:=IR) (xs:=ka) (by simpa using lW) (by simp) ?_
 simp only[eP]
 try simp
 refine MM (e:=3) (R:=1) (bs:=8) (ay:=false) (n:=m) (eg:= .i64) (cB:= .i64) (z:= .int .i64 0) (ae:=IR) (a:=0) (by simp) (by simp) (by simp) (by rfl) (by rfl) (by simp) (kd 0) (by simp) (by simp) (by decide) (by decide) (by omega) (fun aC=>rfl) ?_
 intro D7 cB a0 ed bx
 have ha:=Ext.len bH
 have cG:∀b,0<b->inBlock (.slice lY n lZ) b->¬inBlock (.slice D7 m cB) b:=fun b aH o aa=>by
  have:=IM.ge o aH
  have:=ed.ge aa aH
  omega
 have P7:=bJ.ext (ae:=bz _ _ _ _ IR) IM bx
 have Cd:=ed.le ha
 have IK:=bJ.ext (ae:=eL) vP bx
 have mL:=bH.az bx
 try simp
 refine dx.mk (by kernel_rfl) (fun w dQ fr bZ=>∃(i:Nat) (fC gJ:List Int),w=n-i/\i<=n/\dQ 6= .int .i64 (i:Int)/\Ext H bZ/\bz H.length 3 1 false IR bZ (.slice lY n lZ) fC/\bz H.length 3 1 false IR bZ (.slice D7 m cB) gJ/\(fC.length=n/\∀a,a<n->fC[a]?=some (jD t i 0 a))/\(gJ.length=m/\∀a,a<m->gJ[a]?=some (jE t i 0 a))) n ⟨0,List.replicate n 0,List.replicate m 0,by omega,by omega,by simp,mL,P7,Cd,⟨by simp,fun a aF=>by simp[jD,aF]⟩,⟨by simp,fun a aF=>by simp[jE,aF]⟩⟩ ?_
 rintro w dQ fr bZ ⟨i,fC,gJ,rfl,ad,gE,bL,IN,gr,r3,r4⟩ K a1
 simp at gE
 have kO:=bJ.ext (ae:=eL) dc bL
 simp[gE]
 refine cN (ae:=c7) (xs:=t) (by simpa using kO) (by simp) ?_
 simp only[<-aE]
 simp
 refine bG.cE (fun a5=>?_) (fun a5=>?_)
 ·refine Exists.elim (⟨_,bt (show i<t.length by omega)⟩:∃p,t[i]?=some p) fun row dr=>?_
  have gh:=List.mem_of_getElem? dr
  have j5:=fm _ gh
  have qK:=oN (show i<4611686018427387904 by omega)
  simp
  refine dx.mk (by kernel_rfl) (fun w cT dJ bP=>∃(k:Nat) (fC gJ:List Int),w=m-k/\k<=m/\cT 7= .int .i64 (k:Int)/\Ext H bP/\bz H.length 3 1 false IR bP (.slice lY n lZ) fC/\bz H.length 3 1 false IR bP (.slice D7 m cB) gJ/\(fC.length=n/\∀a,a<n->fC[a]?=some (jD t i k a))/\(gJ.length=m/\∀a,a<m->gJ[a]?=some (jE t i k a))) m ⟨0,fC,gJ,by omega,by omega,by simp,bL,IN,gr,r3,r4⟩ ?_
  rintro w cT dJ bP ⟨k,fC,gJ,rfl,ah,c8,b0,Ca,jP,r3,r4⟩ sZ Qd
  simp at c8
  have vQ:=bJ.ext (ae:=eL) dc b0
  simp[gE,c8]
  refine cI (ae:=c7) (xs:=t) (n:=i) (a:=row) (e:=25) (R:=1) (ay:=false) (by simpa using vQ) (by simp[gE]) dr (by simp) (by simp) (by simp) (by decide) ?_
  rintro qX u8 DD
  try simp
  refine cN (ae:=IR) (xs:=row) (by simpa using DD) (by simp) ?_
  simp only[j5]
  simp[c8]
  refine bG.cE (fun ja=>?_) (fun ja=>?_)
  ·refine Exists.elim (⟨_,bt (show k<row.length by omega)⟩:∃p,row[k]?=some p) fun x I=>?_
   have uh:=oN (show k<4611686018427387904 by omega)
   have DU:=(an _ gh).2 x (List.mem_of_getElem? I)
   have pe:=VC an i k i
   have zr:=V6 an (by omega) i k k
   have mK:IntKind.i64.wrap (jD t i k i+x)=jD t i k i+x:=cP (by omega) (by omega)
   have zV:IntKind.i64.wrap (jE t i k k+x)=jE t i k k+x:=cP (by omega) (by omega)
   simp[gE,c8]
   refine cI (ae:=IR) (xs:=fC) (n:=i) (a:=jD t i k i) (e:=3) (R:=1) (ay:=false) (by simpa using Ca.row) (by simp[gE]) (r3.2 i (by omega)) (by simp) (by simp) (by simp) (by decide) ?_
   rintro Er M_ rfl
   simp[gE,c8]
   refine cI (ae:=c7) (xs:=t) (n:=i) (a:=row) (e:=25) (R:=1) (ay:=false) (by simpa using vQ) (by simp[gE]) dr (by simp) (by simp) (by simp) (by decide) ?_
   rintro xv E8 Tq
   simp[c8]
   refine cI (ae:=IR) (xs:=row) (n:=k) (a:=x) (e:=3) (R:=1) (ay:=false) (by simpa using Tq) (by simp[c8]) I (by simp) (by simp) (by simp) (by decide) ?_
   rintro Al re rfl
   simp[mK]
   refine iR (k:=H.length) (e:=3) (R:=1) (ay:=false) (n:=i) (ae:=IR) (xs:=fC) (a:=jD t i k i+x) (by simpa using Ca) (by simp[gE]) (by omega) (by simp[IR]) (by simpa using kd _) (by simp) (fun aC c_ u y ah h=>h) (by simp) (by simp) (by simp) (by decide) ?_
   intro xw ca IP c1 zf C8 adQ
   have zW:=c1 _ (Nat.le_refl _) b0
   have B_:=bJ.ext (ae:=eL) dc zW
   simp at IP zf
   have nq:=jP.beside ht zf (fun b aH o aa=>cG b aH aa o) fun _ _ h=>h
   have R5:=FH (i:=i) (by omega) r3 (fun a=>VA dr I)
   simp[gE,c8]
   refine cI (ae:=IR) (xs:=gJ) (n:=k) (a:=jE t i k k) (e:=3) (R:=1) (ay:=false) (by simpa using nq.row) (by simp[c8]) (r4.2 k (by omega)) (by simp) (by simp) (by simp) (by decide) ?_
   rintro uE E9 rfl
   simp[gE,c8]
   refine cI (ae:=c7) (xs:=t) (n:=i) (a:=row) (e:=25) (R:=1) (ay:=false) (by simpa using B_) (by simp[gE]) dr (by simp) (by simp) (by simp) (by decide) ?_
   rintro Am E_ zQ
   simp[c8]
   refine cI (ae:=IR) (xs:=row) (n:=k) (a:=x) (e:=3) (R:=1) (ay:=false) (by simpa using zQ) (by simp[c8]) I (by simp) (by simp) (by simp) (by decide) ?_
   rintro Ep Fa rfl
   simp[zV]
   refine iR (k:=H.length) (e:=3) (R:=1) (ay:=false) (n:=k) (ae:=IR) (xs:=gJ) (a:=jE t i k k+x) (by simpa using nq) (by simp[c8]) (by omega) (by simp[IR]) (by simpa using kd _) (by simp) (fun aC c_ u y ah h=>h) (by simp) (by simp) (by simp) (by decide) ?_
   intro LH dU qi cD tV Sf adR
   have TM:=cD _ (Nat.le_refl _) zW
   simp at qi tV
   have P8:=IP.beside ht tV (fun b aH o aa=>cG b aH o aa) fun _ _ h=>h
   have R_:=FH (i:=k) (by omega) r4 (fun a=>V4 dr I)
   simp[c8,uh]
   exact Qd (m-(k+1)) _ _ _ (by omega) ⟨k+1,_,_,rfl,by omega,by simp,TM,P8,qi,R5,R_⟩
  ·have ik:k=m:=by omega
   simp[gE,qK]
   refine a1 (n-(i+1)) _ _ _ (by omega) ⟨i+1,fC,gJ,rfl,by omega,by simp,b0,Ca,jP,⟨r3.1,fun a aF=>?_⟩,⟨r4.1,fun a aF=>?_⟩⟩
   ·rw[r3.2 a aF,<-VB dr,j5,ik]
   ·rw[r4.2 a aF,<-V5 dr (by omega),j5,ik]
 ·have eX:i=n:=by omega
  simp[bj]
  have Pt:fC=t.map List.sum:=by
   apply List.ext_getElem?
   intro a
   by_cases aF:a<n
   ·rw[r3.2 a aF,List.getElem?_map,bt (by omega)]
    simp[jD,show a<i by omega,bt (show a<t.length by omega)]
   ·rw[List.getElem?_eq_none (by omega),List.getElem?_eq_none (by simp;omega)]
  have Pu:gJ=(ef m t).map List.sum:=by
   apply List.ext_getElem?
   intro a
   by_cases aF:a<m
   ·rw[r4.2 a aF]
    unfold ef jE
    rw[List.take_of_length_le (by omega)]
    simp[aF]
   ·rw[List.getElem?_eq_none (by omega),List.getElem?_eq_none (by simp[ef];omega)]
  refine aG _ _ ⟨bL,_,_,rfl,?_,?_⟩
  ·rw[<-Pt];exact IN.row
  ·rw[<-Pu];exact gr.row
structure ab0 (l:List Int) (z:Int):Prop where
 le:∀x∈l,x<=z
 at_:z=0\/z∈l
 h3:0<=z
end Go.b_
end
section
set_option maxRecDepth 8000
set_option maxHeartbeats 1000000
namespace Go.b_
attribute [-simp] fL gO hK
end Go.b_
end
section
set_option maxRecDepth 8000
set_option maxHeartbeats 1000000
namespace Go.b_
open Go.Proofs
open Go.Proofs.Try (prog)
attribute [-simp] fL gO hK
section
variable {r:List br} {F:Fr} {H:ab} {Q:Fr->ab->Prop}
end
abbrev NQ(H:ab)(v:Value)(WD:List (List (List Nat×List Int))):Prop:=Row 37 1 false (Row 48 2 true gB) H v WD
instance:bJ NQ:=⟨fun h I=>bJ.ext (ae:=Row 37 1 false (Row 48 2 true gB)) h I⟩
end Go.b_
end
section
set_option maxRecDepth 8000
set_option maxHeartbeats 1000000
namespace Go.b_
attribute [-simp] fL gO hK
theorem Au(n:Nat):(∀c∈iw n,iT c)/\fk (iw n).reverse=n/\(0<n->iw n≠[]/\(iw n).getLast?≠some 48):=by
 induction n using Nat.strongRecOn with
 | _ n aW=>
  by_cases h:n=0
  ·subst h
   rw[uJ]
   simp[fk]
  ·obtain⟨i1,i2,i3⟩:=aW (n/10) (by omega)
   rw[Av (by omega)]
   refine⟨fun c ag=>?_,?_,fun _=>⟨by simp,?_⟩⟩
   ·rcases List.mem_cons.1 ag with ag | ag
    ·subst ag;unfold iT;omega
    ·exact i1 c ag
   ·rw[List.reverse_cons,Pd,i2]
    omega
   ·by_cases o:n/10=0
    ·rw[o,uJ]
     simp
     omega
    ·have:=i3 (by omega)
     rw[List.getLast?_cons]
     cases aV:(iw (n/10)).getLast? with
     | none=>exact absurd (List.getLast?_eq_none_iff.1 aV) this.1
     | some c=>
      rw[aV]at this
      simp
      exact fun h=>this.2 (by rw[h])
theorem BF(n:Nat):∀c∈dec n,iT c:=by
 unfold dec
 split
 ·intro c ag;simp at ag;subst ag;decide
 ·intro c ag;exact(Au n).1 c (List.mem_reverse.1 ag)
theorem yA(n:Nat):fk (dec n)=n:=by
 unfold dec
 split
 ·rename_i h;rw[h];rfl
 ·exact(Au n).2.1
theorem OG(n:Nat):dec n≠[]:=by
 unfold dec
 split
 ·simp
 ·rename_i h
  have:=((Au n).2.2 (by omega)).1
  simpa using this
theorem HX{n:Nat}(h:(dec n).length<=4000):me (dec n):=by
 refine⟨BF n,OG n,?_,h⟩
 rintro⟨o,aa⟩
 unfold dec at o aa
 split at o
 ·rename_i aH
  rw[if_pos aH]at aa
  simp at aa
 ·rename_i aH
  rw[List.head?_reverse]at o
  exact((Au n).2.2 (by omega)).2 o
theorem OA{c:Nat}{a:List Nat}(b:List Nat)(h:c∉a):dD c (a++c::b)=(a,some b):=by
 induction a with
 | nil=>simp[dD]
 | cons x a aW=>
  have o:x≠c:=fun e=>h (by simp[e])
  have aa:=aW fun e=>h (by simp[e])
  simp[dD,o,aa]
theorem Oz{c:Nat}{a:List Nat}(h:c∉a):dD c a=(a,none):=by
 induction a with
 | nil=>simp[dD]
 | cons x a aW=>
  have o:x≠c:=fun e=>h (by simp[e])
  have aa:=aW fun e=>h (by simp[e])
  simp[dD,o,aa]
theorem xu{q:Rat}(h:kF q):nd (fu q)/\jg (fu q)=q.num/\gT (fu q)=q.den:=by
 have bQ:47∉((if q.num<0 then[45]else[])++dec q.num.natAbs):=by
  intro hm
  rcases List.mem_append.1 hm with hm | hm
  ·split at hm<;>simp at hm
  ·have:=BF _ _ hm
   unfold iT at this
   omega
 have Ji:dD 47 (fu q)=((if q.num<0 then[45]else[])++dec q.num.natAbs,if q.den=1 then none else some (dec q.den)):=by
  unfold fu
  by_cases aJ:q.den=1
  ·rw[if_pos aJ,if_pos aJ,List.append_nil]
   exact Oz bQ
  ·rw[if_neg aJ,if_neg aJ]
   exact OA _ bQ
 have JW:qW (fu q)=(if q.num<0 then[45]else[])++dec q.num.natAbs:=by unfold qW;rw[Ji]
 have Kj:l_ (fu q)=if q.den=1 then none else some (dec q.den):=by unfold l_;rw[Ji]
 have JB:(dec q.num.natAbs).head?≠some 45:=by
  intro cR
  have:=BF _ _ (List.mem_of_mem_head? cR)
  unfold iT at this
  omega
 have pj:nL (fu q)=decide (q.num<0):=by
  unfold nL
  rw[JW]
  by_cases aE:q.num<0
  ·simp[aE]
  ·simp only[aE,if_false,List.nil_append]
   simp[JB]
 have CU:n5 (fu q)=dec q.num.natAbs:=by
  unfold n5 ky
  rw[JW]
  by_cases aE:q.num<0
  ·simp[aE]
  ·simp only[aE,if_false,List.nil_append]
   rw[if_neg JB]
 have oe:gT (fu q)=q.den:=by
  unfold gT
  rw[Kj]
  by_cases aJ:q.den=1
  ·simp[aJ]
  ·simp[aJ,yA]
 have ko:jg (fu q)=q.num:=by
  unfold jg
  rw[pj,CU,yA]
  by_cases aE:q.num<0
  ·simp[aE];omega
  ·simp[aE];omega
 refine⟨⟨?_,?_,?_,?_⟩,ko,oe⟩
 ·rw[CU];exact HX h.1
 ·intro u hu
  rw[Kj]at hu
  split at hu
  ·cases hu
  ·rename_i aJ
   obtain rfl:=Option.some.inj hu
   have aR:=q.den_pos
   rw[yA]
   refine⟨HX ?_,by omega⟩
   rcases h.2 with h | h
   ·exact absurd h aJ
   ·exact h
 ·rw[pj,CU,yA]
  rintro⟨o,aa⟩
  have:=of_decide_eq_true o
  omega
 ·right
  rw[ko,oe]
  exact q.reduced
theorem Ly(q:Rat):Bytes (fu q):=by
 unfold fu
 intro x I
 rcases List.mem_append.1 I with I | I
 ·rcases List.mem_append.1 I with I | I
  ·split at I<;>simp at I
   omega
  ·exact HV _ x I
 ·split at I
  ·cases I
  ·rcases List.mem_cons.1 I with I | I
   ·omega
   ·exact HV _ x I
theorem Ai{q:Rat}(h:kF q):hB (fu q)=q:=by
 obtain⟨o,aa,aD⟩:=xu h
 unfold hB
 rw[aa,aD,Rat.num_divInt_den]
theorem Wy{aU:List (Rat×List Int)}(h:∀p∈aU,kF p.1):parts (aU.map fun p=>(fu p.1,p.2))=aU:=by
 unfold parts
 rw[List.map_map]
 conv=>rhs;rw[<-List.map_id aU]
 apply List.map_congr_left
 intro p aR
 simp[Ai (h p aR)]
end Go.b_
end
section
set_option maxRecDepth 8000
set_option maxHeartbeats 1000000
namespace Go.b_
open Go.Proofs
open Go.Proofs.Try (prog)
attribute [-simp] fL gO hK
def kZ(aU:List (Rat×List Int)):List (List Nat×List Int):=aU.map fun p=>(fu p.1,p.2)
structure vh (t:List (List Int)) (aU:List (Rat×List Int)):Prop where
 ok:∀p∈kZ aU,p3 t.length (t[0]?.getD []).length p
 one:∀p∈kZ aU,nd p.1/\gT p.1=1
 parts:parts (kZ aU)=aU
 mr:(kZ aU).length<=(t.length+(t[0]?.getD []).length)*(t.length+(t[0]?.getD []).length)
 Ih:(kZ aU).length<=256
 sum:∀i k,i<t.length->k<(t[0]?.getD []).length->gk aU i k=((ep t i k:Int):Rat)
 len:eC aU=(((jn t).1:Int):Rat)
 bytes:∀p∈kZ aU,Bytes p.1
 short:∀p∈kZ aU,p.1.length<4611686018427387904/\p.2.length<65536
theorem vh.mk'{t:List (List Int)}{aU:List (Rat×List Int)}(ao:fT t)(h:yg t.length (t[0]?.getD []).length (bM (cd t)) (((jn t).1:Int):Rat) aU)(hm:∀p∈aU,eM 1 p.1):vh t aU:=by
 have lV:=MG (t:=t) rfl rfl ao.small (by have:=ao.2.1;omega)
 have ht:=An fun p aR=>(h.AF p aR).1
 have hint:∀p∈aU,∃z:Int,p.1=(z:Rat)/\0<z/\z<=1000000000:=fun p aR=>by
  obtain⟨z,aP⟩:=hm p aR
  have e:p.1=(z:Rat):=by
   rw[<-aP]
   have:((1:Nat):Rat)=1:=rfl
   rw[this,Rat.mul_one]
  refine⟨z,e,?_,?_⟩
  ·have:=(h.AF p aR).1
   rw[e]at this
   exact_mod_cast this
  ·have:=ht.2 p aR
   rw[h.len,e]at this
   have:z<=(jn t).1:=by exact_mod_cast this
   have:=lV.2
   omega
 have ko:∀p∈aU,kF p.1:=fun p aR=>by
  obtain⟨z,aP,aH,o⟩:=hint p aR
  rw[aP]
  exact(c4.int (N:=64) (by omega) (by decide)).Ah (by decide)
 have SK:=Wy ko
 have cQ:∀p∈kZ aU,∃q∈aU,p=(fu q.1,q.2):=fun p aR=>by
  unfold kZ at aR
  rw[List.mem_map]at aR
  obtain⟨q,au,rfl⟩:=aR
  exact⟨q,au,rfl⟩
 refine⟨fun p aR=>?_,fun p aR=>?_,SK,?_,?_,fun i k ad ah=>?_,h.len,fun p aR=>?_,fun p aR=>?_⟩
 ·obtain⟨q,au,rfl⟩:=cQ p aR
  have o:=xu (ko q au)
  have aa:=h.AF q au
  exact⟨⟨o.1,by rw[Ai (ko q au)];exact aa.1,aa.2.len⟩,aa.2⟩
 ·obtain⟨q,au,rfl⟩:=cQ p aR
  have o:=xu (ko q au)
  obtain⟨z,aP,-⟩:=hint q au
  refine⟨o.1,?_⟩
  rw[o.2.2,aP,Rat.den_intCast]
 ·unfold kZ
  rw[List.length_map]
  exact h.mr
 ·unfold kZ
  rw[List.length_map]
  have o:=ao.2.1
  have aa:=ao.2.2.2.1
  exact Nat.le_trans h.mr (Nat.mul_le_mul (show _<=16 by omega) (show _<=16 by omega))
 ·rw[h.sum i k ad ah,q1]
  rfl
 ·obtain⟨q,au,rfl⟩:=cQ p aR
  exact Ly _
 ·obtain⟨q,au,rfl⟩:=cQ p aR
  have o:=LI (xu (ko q au)).1
  have aa:=(h.AF q au).2.len
  have aD:=ao.2.2.2.1
  refine⟨?_,?_⟩
  ·show(fu q.1).length<_
   omega
  ·show q.2.length<_
   omega
theorem vh.OI{t:List (List Int)}{aU:List (Rat×List Int)}(h:vh t aU):sV t (kZ aU):=by
 refine⟨⟨h.ok,by have:=h.Ih;omega⟩,fun j k aI ah=>?_⟩
 rw[h.parts,h.sum j k aI ah,q1]
 rfl
section
variable {P:Program} {r:List br} {F:Fr} {H:ab} {Q:Fr->ab->Prop} {α:Type}
theorem E6{d t e:Nat}{x y:Operand}{z:Value}{ae:ab->Value->α->Prop}{a b:α}{aw:a_ (fj d t 2 [(0,x),(1,y)]::r) Q}(aF:∀aC,Ext H aC->ae aC (aq F x) a)(af:∀aC,Ext H aC->ae aC (aq F y) b)(bu:P.underlying t=some (.slice e))(an:bm P e=some 1)(aP:dw P e=some z)(dt:flat z=true)(cY:z.cells.size=1)
  (aM:iF (fun i=>some (i*1,1)) (made z (2*1)) [(0,aq F x),(1,aq F y)]=some [aq F x,aq F y])(K:∀v aC,Row e 1 false ae aC v [a,b]->Ext H aC->a8 P r Q .mk (aY F d v) aC):a8 P (fj d t 2 [(0,x),(1,y)]::r) Q aw F H:=by
 have I:Ext H (H++[.own e false [aq F x,aq F y]]):=(Ext.refl H).snoc _ _ _
 refine sL bu an aP dt cY (by decide) (by decide) (by decide) aM rfl (K _ _ ⟨[aq F x,aq F y],hN.gl (k:=0) ⟨rfl,.inr ⟨H.length,0,2,false,[aq F x,aq F y],rfl,by omega,Nat.le_refl _,Nat.zero_le _,by simp,by simp,by simp⟩⟩,fun i u ad=>?_⟩ I)
 match i with
 | 0=>simp at ad;subst ad;simpa[dZ]using aF _ I
 | 1=>simp at ad;subst ad;simpa[dZ]using af _ I
 | n+2=>simp at ad
end
def t0:List (List Int):=[[2,1],[1,2]]
theorem AN:fT t0:=by decide
theorem X3:jn t0=(3,0,0):=by
 have h:=N8 (t:=t0) (m:=2) rfl (by decide) (by decide)
 have aa:rk (t0.map List.sum) ((ef 2 t0).map List.sum) 3 0 0:=by
  have bq:t0.map List.sum=[3,3]:=by decide
  have bh:(ef 2 t0).map List.sum=[3,3]:=by decide
  rw[bq,bh]
  exact⟨by simp,by simp,.inl ⟨rfl,rfl,fun i x ad=>by omega⟩⟩
 obtain⟨aD,bD,b2⟩:=h.uniq aa
 exact Prod.ext aD (Prod.ext bD b2)
theorem Wo(z:Int)(h:0<=z):fu ((z:Int):Rat)=dec z.natAbs:=by
 unfold fu
 rw[Rat.num_intCast,Rat.den_intCast,if_neg (by omega)]
 simp
theorem VR:({data:= #[51]}:ByteArray)=ct [51]:=rfl
theorem K4{H:ab}:aZ prog 10 [] H (fun u H1=>Ext H H1/\u= .bool true):=by
 refine aZ.cr fun Q aG=>?_
 have af:=X3
 apply Ue (by simp)
 simp[Gv]
 refine E6 (e:=3) (z:= .int .i64 0) (ae:=IR) (a:=2) (b:=1) (fun _ _=>rfl) (fun _ _=>rfl) (by simp) (by simp) (by rfl) (by rfl) (by rfl) (by rfl) ?_
 intro pP H1 nE bH
 refine E6 (e:=3) (z:= .int .i64 0) (ae:=IR) (a:=1) (b:=2) (fun _ _=>rfl) (fun _ _=>rfl) (by simp) (by simp) (by rfl) (by rfl) (by rfl) (by rfl) ?_
 intro k2 a0 nF bx
 have Kg:c7 a0 pP [2,1]:=bJ.ext (ae:=c7) nE bx
 refine Exists.elim (Row.len Kg) fun b4 jr=>Exists.elim jr fun cJ jr=>?_
 refine Exists.elim (Row.len nF) fun dq ig=>Exists.elim ig fun db ig=>?_
 refine E6 (e:=25) (z:= .slice none 0 0) (ae:=c7) (a:=[2,1]) (b:=[1,2]) (fun aC I=>by simpa using bJ.ext (ae:=c7) Kg I) (fun aC I=>by simpa using bJ.ext (ae:=c7) nF I) (by simp) (by simp) (by rfl) (by rfl) (by rfl) (by simp[jr,ig];rfl) ?_
 intro oK bZ jy bL
 have dc:eL bZ oK t0:=jy
 have qL:=bH.az (bx.az bL)
 simp
 refine a4.mk (N9 (Row.xe dc) (by decide) (by decide)) ?_
 rintro M9 bP ⟨b0,Ty,-⟩
 have kg:=Ty AN
 rw[af]at kg
 subst kg
 have vQ:=bJ.ext (ae:=eL) dc b0
 simp
 refine a4.mk (WB (Row.xe vQ) (by decide) (by decide)) ?_
 rintro oL ca ⟨c1,DH,-⟩
 refine Exists.elim (DH AN) fun A5 b2=>Exists.elim b2 fun aU b2=>?_
 have rG:=b2.1
 subst rG
 have a2:=vh.mk' AN b2.2.1 b2.2.2.1
 have dr:=b2.2.2.2
 have B_:=bJ.ext (ae:=eL) vQ c1
 simp
 refine a4.mk (O4 (Row.xe B_) (by decide) (by decide) dr a2.bytes a2.short (by have:=a2.Ih;exact Nat.le_trans this (by decide))) ?_
 rintro pQ dU ⟨cD,Tz,-,-⟩
 have qa:=Tz AN a2.OI
 have jd:eC (parts (kZ aU))=((3:Int):Rat):=by rw[a2.parts,a2.len,af]
 have zw:fu ((3:Int):Rat)=[51]:=by
  rw[Wo 3 (by decide)]
  simp[dec,iw]
 have jc:kF ((3:Int):Rat):=(c4.int (N:=64) (by decide) (by decide)).Ah (by decide)
 change pQ=if kF (eC (parts (kZ aU)))then Value.tuple #[.string (ct (fu (eC (parts (kZ aU))))),.int .i64 0]else _ at qa
 rw[jd,if_pos jc,zw]at qa
 subst qa
 simp[u0,VR,bj]
 exact aG _ _ ⟨qL.az (b0.az (c1.az cD)),rfl⟩
end Go.b_
end
section
set_option maxRecDepth 8000
set_option maxHeartbeats 1000000
namespace Go.b_
attribute [-simp] fL gO hK
theorem HT(x:List (List Int)):(tg x).length<=9/\∀r∈tg x,r.length<=9:=by
 unfold tg
 refine⟨by simp;omega,fun r aj=>?_⟩
 rw[List.mem_map]at aj
 obtain⟨di,-,rfl⟩:=aj
 simp;omega
theorem bU.fv{P:Program}{a b:eI}{Q:ds->Fr->Fr->ab->Prop}{aw:a_ (eI.seq a b) Q}{F G:Fr}{H:ab}(h:∀K:Fr->Fr->ab->Prop,(∀aA bC H1,bU P b Q .mk aA bC H1->K aA bC H1)->bU P a (l7 K Q) .mk F G H):bU P (.seq a b) Q aw F G H:=
 h _ fun _ _ _ h=>h
end Go.b_
end
section
namespace Go.b_
end Go.b_
end
section
set_option maxRecDepth 8000
set_option maxHeartbeats 1000000
namespace Go.b_
attribute [-simp] fL gO hK
end Go.b_
end
section
set_option maxRecDepth 8000
set_option maxHeartbeats 1000000
namespace Go.b_
end Go.b_
end
section
set_option maxRecDepth 8000
set_option maxHeartbeats 1000000
namespace Go.b_
attribute [-simp] fL gO hK
end Go.b_
end
section
set_option maxRecDepth 8000
set_option maxHeartbeats 1000000
namespace Go.b_
open Go.Proofs
open Go.Proofs.Try (prog)
open Go.RowKit
class k_ {α:Type} (ae:ab->Value->α->Prop):Prop where
 app:∀{H N:ab} {v:Value} {x:α},ae H v x->ae (H++N) v x
theorem ea.app{H N:ab}{e R n:Nat}{v:Value}{cs:List Value}(h:ea H e R v n cs):ea (H++N) e R v n cs:=by
 obtain⟨a,cap,o,aa,aD,bD⟩:=h
 refine⟨a,cap,o,aa,aD,fun ag=>?_⟩
 obtain⟨b,i,X,all,aT,aQ,bn⟩:=bD ag
 exact⟨b,i,X,all,aT,by rw[List.getElem?_append_left (cc.1 aQ).1];exact aQ,bn⟩
instance{α:Type}{e R:Nat}{ay:Bool}{ae:ab->Value->α->Prop}[k_ ae]:k_ (Row e R ay ae):=⟨fun⟨cs,o,aa⟩=>⟨cs,o.app,fun i x ad=>k_.app (aa i x ad)⟩⟩
instance:k_ IR:=⟨fun h=>h⟩
def th(ay:Bool)(cs:List Value):Value:=if ay=true then .agg cs.toArray else cs[0]?.getD undef
def ru(H:Type)(enc:TypeId×Value->H)(w:World)(t:TypeId)(cs:List Value):Prop:=∃fuel x,DataW.trod enc prog w 0 (fun _=>true) true fuel t cs=some x
def m_(w:World)(ai:bc)(H:ab):Prop:=b9 prog w.heap.size ai H w/\∀b,¬hn H b
def jh{α:Type}(w:World)(rd:List Value->Prop)(ay:Bool)(ae:ab->Value->α->Prop):Prop:=
 ∀cs,rd cs->∀ai H,m_ w ai H->∃bo N HN x,m_ w bo (H++N)/\(∀b k,ai b=some k->bo b=some k)/\cF bo HN cs/\ae (H++N) (th ay HN) x
theorem cF.one{ai:bc}{v av:Value}(h:bf ai v av):cF ai [v] [av]:=⟨rfl,fun i x y I aL=>by
 match i with
 | 0=>simp at I aL;subst I aL;exact h
 | n+1=>simp at I⟩
theorem jh.flat{α:Type}{w:World}{rd:List Value->Prop}{ae:ab->Value->α->Prop}(h:∀cs,rd cs->∃v av x,cs=[av]/\(∀ai,bf ai v av)/\∀H,ae H v x):jh w rd false ae:=fun cs ag ai H cg=>by
 obtain⟨v,av,x,rfl,o,aa⟩:=h cs ag
 exact⟨ai,[],[v],x,by simpa using cg,fun _ _ h=>h,cF.one (o ai),aa _⟩
theorem jh.int{w:World}{H:Type}{enc:TypeId×Value->H}:jh w (ru H enc w 3) false IR:=jh.flat fun cs ⟨fuel,x,h⟩=>by
 obtain⟨n,rfl,-⟩:=DataW.trod_int (k:= .i64) (by rfl) h
 exact⟨_,_,n,rfl,fun ai=> .int _ _,fun H=>rfl⟩
theorem jh.many{α:Type}{w:World}{rd:List Value->Prop}{ay:Bool}{ae:ab->Value->α->Prop}[k_ ae](h:jh w rd ay ae):∀(L:List (List Value)),(∀cs∈L,rd cs)->∀ai H,m_ w ai H->
  ∃(bo:bc) (N:ab) (M:List (List Value)) (xs:List α),m_ w bo (H++N)/\(∀b k,ai b=some k->bo b=some k)/\M.length=L.length/\xs.length=L.length/\∀(i:Nat) (c:List Value),L[i]?=some c->∃cJ x,M[i]?=some cJ/\xs[i]?=some x/\cF bo cJ c/\ae (H++N) (th ay cJ) x
 | [],_,ai,H,cg=>⟨ai,[],[],[],by simpa using cg,fun _ _ h=>h,rfl,rfl,fun i c h=>by simp at h⟩
 | a::L,cQ,ai,H,cg=>by
  obtain⟨bo,Bg,cJ,x2,dF,hI,fQ,gL⟩:=h a (cQ a (by simp)) ai H cg
  obtain⟨m2,NM,M,xs,aT,aQ,bn,b8,eD⟩:=jh.many h L (fun c ag=>cQ c (by simp[ag])) bo (H++Bg) dF
  refine⟨m2,Bg++NM,cJ::M,x2::xs,by rw[<-List.append_assoc];exact aT,fun b k af=>aQ b k (hI b k af),by simp[bn],by simp[b8],fun i c ag=>?_⟩
  match i with
  | 0=>
   simp at ag
   subst ag
   exact⟨cJ,x2,rfl,rfl,cF.ext aQ fQ,by rw[<-List.append_assoc];exact k_.app gL⟩
  | n+1=>
   obtain⟨db,pU,eh,fZ,h4,l6⟩:=eD n c (by simpa using ag)
   exact⟨db,pU,by simpa using eh,by simpa using fZ,h4,by rw[<-List.append_assoc];exact l6⟩
theorem m_.snoc{w:World}{ai:bc}{H:ab}(h:m_ w ai H){e:TypeId}{inf:TypeInfo}{b U:Nat}{cs eo:List Value}(ad:(prog).info? e=some inf)(af:b<w.heap.size)(cg:cF ai cs eo)
  (CQ:∀i v,eo[i]?=some v->w.cell? ⟨b,U+i,none⟩=some v):
  ∃bo,m_ w bo (H++[.ro e cs])/\(∀c k,ai c=some k->bo c=some k)/\bo H.length=some ⟨b,U,0,inf.size,false⟩:=by
 obtain⟨bE,hH⟩:=h
 have a5:∀c k,ai c=some k->c<H.length:=fun c k ag=>(bE.ez c k ag).2
 have mA:∀c k,ai c=some k->(fun c=>if c=H.length then some (⟨b,U,0,inf.size,false⟩:h8)else ai c) c=some k:=fun c k ag=>by
  have:=a5 c k ag
  show(if c=H.length then _ else _)=_
  rw[if_neg (by omega)]
  exact ag
 have JS:∀c,¬hn (H++[.ro e cs]) c:=by
  rintro c ⟨cH,l,eo,h⟩
  rcases Nat.lt_or_ge c H.length with ag | ag
  ·rw[List.getElem?_append_left ag]at h
   exact hH c ⟨cH,l,eo,h⟩
  ·rw[List.getElem?_append_right ag]at h
   match au:c-H.length with
   | 0=>rw[au]at h;simp at h
   | n+1=>rw[au]at h;simp at h
 refine⟨fun c=>if c=H.length then some ⟨b,U,0,inf.size,false⟩else ai c,⟨⟨by simp,Nat.le_refl _,fun c k ag=>?_,fun c k y ag aL=>?_,fun c dL k bN _ _ _ aM=>absurd aM (JS c)⟩,JS⟩,mA,by simp⟩
 ·have aR:=bE.pos
  split at ag
  ·next au=>subst au;simp;exact aR
  ·have:=bE.ez c k ag
   simp
   omega
 ·split at ag
  ·next au=>
   subst au
   obtain rfl:=Option.some.inj ag
   rw[List.getElem?_append_right (Nat.le_refl _),Nat.sub_self]at aL
   obtain rfl:=Option.some.inj aL
   refine .ro ad rfl (fun i v ao=>?_) af
   have cW:=(cc.1 ao).1
   have dd:=bt (l:=eo) (i:=i) (by rw[<-cg.1];exact cW)
   exact⟨_,CQ i _ dd,(cg.2 i _ _ ao dd).ext mA⟩
  ·have:=a5 c k ag
   rw[List.getElem?_append_left this]at aL
   exact(bE.eO c k y ag aL).gi mA (fun _=>rfl) (Nat.le_refl _)
theorem Oe{w:World}{a:Addr}{v:Value}(h:w.cell? a=some v):a.block<w.heap.size:=by
 rcases Nat.lt_or_ge a.block w.heap.size with o | o
 ·exact o
 ·unfold World.cell? at h
  rw[Array.getElem?_eq_none o]at h
  simp at h
theorem Og{w:World}{x:Addr}{n:Nat}{cs:List Value}(aE:0<n)(ar:cs.length=n)(h:∀i v,cs[i]?=some v->w.cell? (x.add i)=some v):x.spot=none/\x.block<w.heap.size/\∀i v,cs[i]?=some v->w.cell? ⟨x.block,x.off+i,none⟩=some v:=by
 have aH:=h 0 _ (bt (by omega))
 have ib:x.add 0=x:=by simp[Addr.add]
 rw[ib]at aH
 have si:=World.cell?_spot aH
 refine⟨si,Oe aH,fun i v ad=>?_⟩
 have:=h i v ad
 obtain⟨b,U,s⟩:=x
 simp only at si
 subst si
 by_cases qw:i=0
 ·subst qw;simpa[Addr.add]using this
 ·simpa[Addr.add,qw]using this
theorem rJ{L:List (List Value)}{n:Nat}(h:∀c∈L,c.length=n):L.flatten.length=L.length*n:=by
 induction L with
 | nil=>simp
 | cons a L aW=>
  rw[List.flatten_cons,List.length_append,aW fun c ag=>h c (by simp[ag]),h a (by simp),List.length_cons,Nat.succ_mul,Nat.add_comm]
theorem Ik{L:List (List Value)}{n:Nat}(h:∀c∈L,c.length=n){i:Nat}{c:List Value}(ad:L[i]?=some c):(L.flatten.drop (i*n)).take n=c:=by
 induction L generalizing i with
 | nil=>simp at ad
 | cons a L aW=>
  have aF:=h a (by simp)
  match i with
  | 0=>
   simp at ad
   subst ad
   rw[List.flatten_cons,Nat.zero_mul,List.drop_zero,List.take_append_of_le_length (by omega),List.take_of_length_le (by omega)]
  | m+1=>
   rw[List.flatten_cons,show(m+1)*n=a.length+m*n by rw[aF,Nat.succ_mul,Nat.add_comm],List.drop_append,List.drop_of_length_le (by omega),List.nil_append,Nat.add_sub_cancel_left]
   exact aW (fun c ag=>h c (by simp[ag])) (by simpa using ad)
theorem BT{L:List (List Value)}{n:Nat}(h:∀c∈L,c.length=n){q:Nat}{v:Value}(ao:L.flatten[q]?=some v):∃i j c,L[i]?=some c/\c[j]?=some v/\j<n/\q=i*n+j:=by
 have au:=(cc.1 ao).1
 rw[rJ h]at au
 have aE:0<n:=by exact Nat.pos_of_ne_zero fun aH=>by subst aH;simp at au
 have ad:q/n<L.length:=(Nat.div_lt_iff_lt_mul aE).2 au
 have aI:=Nat.mod_lt q aE
 have wN:q=(q/n)*n+q % n:=by rw[Nat.mul_comm];exact(Nat.div_add_mod q n).symm
 have cg:=bt ad
 refine⟨q/n,q % n,_,cg,?_,aI,wN⟩
 have:=Ik h cg
 rw[<-this,List.getElem?_take_of_lt aI,List.getElem?_drop,<-wN]
 exact ao
theorem Addr.add_add(a:Addr)(i j:Nat):(a.add i).add j=a.add (i+j):=Go.Deep.add_add a i j
theorem jh.slice{α:Type}{w:World}{vc:Type}{enc:TypeId×Value->vc}{t e:TypeId}{R:Nat}{ay:Bool}{ae:ab->Value->α->Prop}[k_ ae]{inf:TypeInfo}(bu:(prog).underlying t=some (.slice e))(c0:(prog).cellsOf e=R)(o:ay=true\/R=1)(aH:0<R)
  (ad:(prog).info? e=some inf)(an:inf.size=R)(h:jh w (ru vc enc w e) ay ae):jh w (ru vc enc w t) false (Row e R ay ae):=by
 rintro cs ⟨fuel,x,I⟩ ai H cg
 rcases Go.Deep.open_slice bu I with⟨rfl,_⟩ | ⟨a,len,cap,m,n,D,ab7,rfl,_,ar,hm,Su,_,CW⟩
 ·exact⟨ai,[],[.slice none 0 0],[],by simpa using cg,fun _ _ h=>h,cF.one .qS,Row.nil _ _ _ _ _⟩
 ·have aeh:m=cap:=by simpa using Su
  by_cases aP:len=0
  ·subst aP
   have af:=cg.1.pos
   exact⟨ai,[],[.slice (some ⟨1,0,none⟩) 0 0],[],by simpa using cg,fun _ _ h=>h,cF.one (.empty (by decide) _ _),[],ea.void _ _ _ _,fun i x h=>by simp at h⟩
  ·obtain⟨g,aV⟩:=Go.Deep.choose_lt (α:=List Value) (n:=len) (p:=fun i c=>w.cells? 0 (a.add (i*R)) R=some c/\ru vc enc w e c) fun i ad=>by
    obtain⟨c,aT,aQ⟩:=CW i (by omega)
    rw[c0]at aT
    exact⟨c,aT,_,_,aQ⟩
   obtain⟨L,vT⟩:∃L,L=(List.range len).map g:=⟨_,rfl⟩
   have I0:L.length=len:=by rw[vT];simp
   have IY:∀i c,L[i]?=some c->i<len/\c=g i:=fun i c ag=>by
    have cW:=(cc.1 ag).1
    rw[vT,List.getElem?_map,List.getElem?_range (by omega)]at ag
    exact⟨by omega,(Option.some.inj ag).symm⟩
   have gh:∀c∈L,c.length=R/\ru vc enc w e c:=fun c ag=>by
    obtain⟨i,ad⟩:=List.mem_iff_getElem?.1 ag
    obtain⟨aT,rfl⟩:=IY i c ad
    obtain⟨eh,fZ⟩:=aV i aT
    exact⟨(World.cells?_some eh).2.1,fZ⟩
   obtain⟨bo,N,M,xs,dF,hI,fQ,gL,iP⟩:=jh.many h L (fun c ag=>(gh c ag).2) ai H cg
   have Ch:∀i cJ,M[i]?=some cJ->∃c x,L[i]?=some c/\xs[i]?=some x/\cF bo cJ c/\ae (H++N) (th ay cJ) x:=fun i cJ ag=>by
    have cW:=(cc.1 ag).1
    have IZ:=bt (l:=L) (i:=i) (by omega)
    obtain⟨db,pU,eh,fZ,h4,l6⟩:=iP i _ IZ
    rw[ag]at eh
    obtain rfl:=Option.some.inj eh
    exact⟨_,pU,IZ,fZ,h4,l6⟩
   have tw:∀c∈M,c.length=R:=fun c ag=>by
    obtain⟨i,ad⟩:=List.mem_iff_getElem?.1 ag
    obtain⟨db,pU,eh,fZ,h4,-⟩:=Ch i c ad
    rw[h4.1]
    exact(gh db (List.mem_of_getElem? eh)).1
   have yP:∀c∈L,c.length=R:=fun c ag=>(gh c ag).1
   have Cf:cF bo M.flatten L.flatten:=by
    refine⟨by rw[rJ tw,rJ yP,fQ],fun q v av ao dd=>?_⟩
    obtain⟨i,j,c,aT,aQ,bn,b8⟩:=BT tw ao
    obtain⟨je,dp,dL,Ar,WT,WU,WV⟩:=BT yP dd
    have C2:i=je:=by
     have bq:(i*R+j)/R=i:=by rw[Nat.mul_comm,Nat.mul_add_div aH,Nat.div_eq_of_lt bn];rfl
     have bh:(je*R+dp)/R=je:=by rw[Nat.mul_comm,Nat.mul_add_div aH,Nat.div_eq_of_lt WU];rfl
     rw[<-bq,<-bh,<-b8,<-WV]
    subst C2
    obtain rfl:j=dp:=by omega
    obtain⟨db,pU,eh,fZ,h4,-⟩:=Ch i c aT
    rw[Ar]at eh
    obtain rfl:=Option.some.inj eh
    exact h4.2 j v av aQ WT
   have lO:∀q v,L.flatten[q]?=some v->w.cell? (a.add q)=some v:=fun q v ao=>by
    obtain⟨i,j,c,aT,aQ,bn,rfl⟩:=BT yP ao
    obtain⟨eh,rfl⟩:=IY i c aT
    have fZ:=(World.cells?_some (aV i eh).1).2.2 j bn
    rw[Addr.add_add]at fZ
    rw[fZ,aQ]
   have C0:L.flatten.length=len*R:=by rw[rJ yP,I0]
   obtain⟨si,nv,fX⟩:=Og (x:=a) (n:=len*R) (Nat.mul_pos (by omega) aH) C0 lO
   obtain⟨m2,s1,s2,q4⟩:=dF.snoc (e:=e) ad nv Cf fX
   obtain⟨acb,acj,acs⟩:=a
   simp only at si
   subst si
   have Q2:=bf.slice (i:=0) (len:=len) (cap:=cap) (dn:=cap) q4 (by omega) ar (Nat.le_refl _) (fun _=>rfl) (fun h=>by cases h)
   refine⟨m2,N++[.ro e M.flatten],[.slice (some ⟨(H++N).length,0,none⟩) len cap],xs,by rw[<-List.append_assoc];exact s1,fun b k af=>s2 b k (hI b k af),cF.one (by simpa using Q2),?_⟩
   rw[<-List.append_assoc]
   refine⟨M.flatten,⟨_,cap,by simp[th,gL,I0],by omega,by rw[rJ tw,fQ,gL],fun _=>⟨_,0,_,_,rfl,List.getElem?_concat_length,rfl,rfl,?_,?_⟩⟩,fun i y aL=>?_⟩
   ·rw[rJ tw,fQ,gL];omega
   ·rw[List.drop_zero,List.take_of_length_le (by rw[rJ tw,fQ,gL];omega)]
   ·have cW:=(cc.1 aL).1
    have I2:=bt (l:=M) (i:=i) (by omega)
    obtain⟨db,pU,eh,fZ,h4,l6⟩:=Ch i _ I2
    rw[aL]at fZ
    obtain rfl:=Option.some.inj fZ
    have bq:dZ ay R M.flatten i=th ay M[i]:=by
     have ny:=Ik tw I2
     unfold dZ th
     rcases o with rfl | rfl
     ·rw[if_pos rfl,if_pos rfl,ny]
     ·cases ay with
      | true=>rw[if_pos rfl,if_pos rfl,ny]
      | false=>
       rw[if_neg (by decide),if_neg (by decide),<-ny,List.getElem?_take_of_lt (by decide),List.getElem?_drop]
       simp
    rw[bq]
    exact k_.app l6
theorem m_.start{w:World}:m_ w (fun _=>none) [.dead]:=
 ⟨⟨by simp,Nat.le_refl _,(fun b k h=>by cases h),(fun b k x h=>by cases h),fun b cb k bN h=>by cases h⟩,by
  rintro b ⟨e,l,cs,h⟩
  match b with
  | 0=>simp at h
  | n+1=>simp at h⟩
theorem Step.below{ai bo:bc}{H H1:ab}{w a7:World}(h:Step ai H w bo H1 a7)(hH:∀b,¬hn H b):Below w.heap.size w a7:=
 ⟨h.os,h.tape,h.output,h.size,fun g aV=>h.frame g aV fun b k _ aM=>absurd aM (hH b)⟩
theorem Wb:(prog).follows .mixedOrders=true:=by kernel_rfl
theorem jh.gN{w:World}{H:Type}{enc:TypeId×Value->H}:jh w (ru H enc w 22) false eL:=
 jh.slice (by rfl) (by rfl) (.inr rfl) (by decide) (by rfl) (by rfl) (jh.slice (t:=25) (by rfl) (by rfl) (.inr rfl) (by decide) (by rfl) (by rfl) jh.int)
def NT(H:ab)(v:Value)(l:List Nat):Prop:=v= .string (ct l)/\Bytes l
instance:k_ NT:=⟨fun h=>h⟩
def NS(H:ab)(v:Value)(p:List Nat×List Int):Prop:=gB H v p/\Bytes p.1
instance:k_ NS:=⟨fun⟨⟨a,n,c,h,o⟩,af⟩=>⟨⟨a,n,c,h,k_.app o⟩,af⟩⟩
theorem Od{f:FuncId}{args:List Value}{H:ab}{Q:Value->ab->Prop}(aE:(match dk prog (callFunc f args.toArray)with | some (.value _)=>true | _=>false)=false)(h:aZ prog f args H Q):∃v H1,dK prog (.call f args H) (.val v H1)/\Q v H1:=by
 obtain⟨v,H1,⟨-,aj⟩ | ⟨⟨-,-,aj⟩,-⟩,au⟩:=h
 ·exact⟨v,H1,aj,au⟩
 ·rw[aj]at aE
  cases aE
theorem aaw{w:World}{f:FuncId}{args kH:List Value}{ai:bc}{H:ab}(cg:m_ w ai H)(bQ:cF ai args kH)(aE:(match dk prog (callFunc f args.toArray)with | some (.value _)=>true | _=>false)=false)
  (h:aZ prog f args H fun v H1=>Ext H H1/\v= .bool true):Calls prog f kH.toArray w fun e gm=>e= .returned (.bool true)/\Below w.heap.size w gm:=by
 obtain⟨u,H1,bl,I,rfl⟩:=Od aE h
 refine(Xk Wb bl (kH:=kH.toArray) (by simpa using bQ) cg.1).mono fun e gm he=>?_
 obtain⟨av,bo,rfl,ao,-,cS⟩:=he
 cases ao
 exact⟨rfl,cS.below cg.2⟩
theorem cF.single{ai:bc}{l:List Value}{v:Value}(h:cF ai l [v]):∃u,l=[u]:=by
 match l,h.1 with
 | [u],_=>exact⟨u,rfl⟩
end Go.b_
end
section
set_option maxRecDepth 8000
set_option maxHeartbeats 1000000
namespace Go.b_
attribute [-simp] fL gO hK
end Go.b_
end
section
set_option maxRecDepth 8000
set_option maxHeartbeats 1000000
namespace Go.b_
theorem fT.get{t:List (List Int)}(ao:fT t){i k:Nat}(ad:i<t.length)(ah:k<(t[0]?.getD []).length):∃r x,t[i]?=some r/\r∈t/\r[k]?=some x/\x∈r/\ep t i k=x/\0<=x/\x<=1000:=by
 have aj:=bt ad
 have hm:=List.getElem_mem ad
 have ar:=ao.len _ hm
 have I:=bt (l:=t[i]) (i:=k) (by omega)
 have KG:=List.getElem_mem (l:=t[i]) (n:=k) (by omega)
 refine⟨_,_,aj,hm,I,KG,?_,((x0.1 ao).2 _ hm).2 _ KG⟩
 unfold ep
 rw[aj]
 simp[I]
theorem MJ{m:Nat}{t:List (List Int)}:(ef m t).length=m:=by simp[ef]
end Go.b_
end
section
set_option maxRecDepth 8000
set_option maxHeartbeats 1000000
namespace Go.b_
open Go.Proofs
open Go.Proofs.Try (prog)
attribute [-simp] fL gO hK
def oT(t:List (List Int)):Prop:=fT t/\t.length=(t[0]?.getD []).length/\∀i,i<t.length->(t[i]?.getD []).sum=(t[0]?.getD []).sum/\((ef t.length t)[i]?.getD []).sum=(t[0]?.getD []).sum
theorem HE{a b:Rat}:(if a<b then(-1:Int)else if a=b then 0 else 1)=0↔a=b:=by
 by_cases h:a<b
 ·rw[if_pos h]
  exact⟨fun h=>by omega,fun e=>absurd (e▸h) Rat.lt_irrefl⟩
 ·rw[if_neg h]
  by_cases e:a=b
  ·rw[if_pos e];exact⟨fun _=>e,fun _=>rfl⟩
  ·rw[if_neg e];exact⟨fun h=>by omega,fun h=>absurd h e⟩
theorem K0{v:Value}{t:List (List Int)}{H:ab}(ba:eL H v t)(ar:t.length<65536)(aj:∀r∈t,r.length<65536):
  aZ prog 13 [v] H (fun u H1=>Ext H H1/\∃b,u= .bool b/\(b=true↔oT t)):=by
 refine aZ.cr fun Q aG=>?_
 obtain⟨m,hm⟩:∃m,m=(t[0]?.getD []).length:=⟨_,rfl⟩
 apply U1 (by simp)
 simp only[GZ]
 refine bU.fv fun ck b7=>?_
 simp
 refine b7 _ _ _ ?_
 clear b7
 refine bU.fv fun ck b7=>?_
 simp only[k1]
 refine bU.join (by kernel_rfl) (fun aA bC H1=>Ext H H1/\∃bad,aA 17= .bool bad/\(bad=false↔fT t/\t.length=m)) ?_ ?_
 ·rintro cU ed-
  simp
  refine a4.mk (A4 (Row.xe ba) (by omega) fun r h=>by have:=aj r h;omega) ?_
  rintro u H1 ⟨bH,rfl⟩
  simp
  by_cases ao:fT t
  ·have aH:=ao.1
   refine Exists.elim (⟨_,bt (show 0<t.length by omega)⟩:∃p,t[0]?=some p) fun ka pr=>?_
   have eP:ka.length=m:=by rw[hm,pr];rfl
   have h0:=bJ.ext (ae:=eL) ba bH
   simp[ao]
   refine cN (ae:=c7) (xs:=t) (by simpa using h0) (by simp) ?_
   simp
   refine mX (ae:=c7) (xs:=t) (n:=0) (a:=ka) (e:=25) (R:=1) (ay:=false) (by simp[ao]) (by decide) (by simpa using h0) (by simp) pr (by simp) (by simp) (by simp) (by decide) ?_
   rintro fQ oK jy
   try simp[ao]
   refine cN (ae:=IR) (xs:=ka) (by simpa using jy) (by simp) ?_
   simp only[eP]
   simp
   exact ed _ _ _ ⟨bH,decide (t.length≠m),by simp;omega,by simp[ao]⟩
  ·simp[ao]
   exact ed _ _ _ ⟨bH,true,by simp,by simp[ao]⟩
 rintro aA bC H1 ⟨bH,bad,B0,jV⟩
 simp only[kt]at B0
 simp at B0
 simp[B0]
 refine bG.mk (fun af=>?_) (fun af=>?_)
 ·simp[bj]
  refine aG _ _ ⟨bH,false,by simp,⟨fun h=>(by cases h),fun h=>?_⟩⟩
  have:=jV.2 ⟨h.1,by rw[hm];exact h.2.1⟩
  rw[af]at this
  cases this
 have ps:=jV.1 af
 obtain⟨ao,uf⟩:=ps
 have an:=ao.small
 have fm:=ao.len
 have v1:=ao.1
 have v2:=ao.2.1
 rw[<-hm]at fm
 have cS:=an.fw (m:=m) (by omega)
 have h0:=bJ.ext (ae:=eL) ba bH
 refine b7 _ _ _ ?_
 clear b7
 refine bU.fv fun ck b7=>?_
 simp
 refine a4.mk (uK h0 (by omega) aj fun r h x I=>by have:=(an r h).2 x I;omega) ?_
 rintro _ a0 ⟨bx,vq,vy,rfl,kP⟩
 simp
 have bL:Ext a0 (a0++[.dead]):=Ext.dead a0
 refine b7 _ _ _ ?_
 clear b7
 have wO:∀r∈cd t,r.length=m:=fun r h=>by
  unfold cd at h
  rw[List.mem_map]at h
  obtain⟨di,b5,rfl⟩:=h
  simpa using fm di b5
 refine bU.fv fun ck b7=>?_
 simp
 refine a4.mk (E4 (m:=m) (kP.ext bL) (by simp[cd];omega) (by simp[cd];omega) wO (by omega)) ?_
 rintro u bP ⟨b0,rh,rfl,ss⟩
 rw[As]at ss
 obtain⟨Bp,Bw,rfl⟩:=Row.len ss
 simp
 have c1:Ext bP (bP++[.dead]):=Ext.dead bP
 refine b7 _ _ _ ?_
 clear b7
 have QB:=kP.ext (bL.az (b0.az c1))
 have Q4:=ss.ext c1
 have sb:(cd t).length=t.length:=by simp[cd]
 have jz:(cd (ef m t)).length=m:=by simp[cd,ef]
 have Dm:∀r∈cd t,r.length<4611686018427387904:=fun r h=>by have:=wO r h;omega
 have ov:∀r∈cd (ef m t),r.length<4611686018427387904:=fun r h=>by
  unfold cd ef at h
  simp at h
  obtain⟨k,-,rfl⟩:=h
  simp;omega
 refine Exists.elim (uS (t:=cd t) (i:=0) (by omega)) fun eb eP=>?_
 have uO:c4 64 (er eb):=an.gN.sum eP.2.1
 have Ex:er eb=(((t[0]?.getD []).sum:Int):Rat):=by rw[<-eP.2.2,q2]
 refine bU.fv fun ck b7=>?_
 simp
 refine cN (ae:=c7) (xs:=t) (by simpa using bJ.ext (ae:=eL) h0 (bx.az (bL.az (b0.az c1)))) (by simp) ?_
 simp
 refine dx.range (by kernel_rfl) t.length (by omega) (by simp) (by rfl) (by simp) (by decide) (by decide) (fun i m3 pZ dU=>Ext (bP++[.dead]) dU/\∀a,a<i->(t[a]?.getD []).sum=(t[0]?.getD []).sum/\((ef t.length t)[a]?.getD []).sum=(t[0]?.getD []).sum) ⟨Ext.refl _,fun a h=>by omega⟩ ?_ ?_
 ·rintro i m3 pZ dU ad a2 ⟨cD,cQ⟩ K a1
  simp at a2
  refine Exists.elim (uS (t:=cd t) (i:=i) (by omega)) fun h5 j4=>?_
  refine Exists.elim (uS (t:=cd (ef m t)) (i:=i) (by omega)) fun uM pq=>?_
  have WW:er h5=(((t[i]?.getD []).sum:Int):Rat):=by rw[<-j4.2.2,q2]
  have WX:er uM=((((ef m t)[i]?.getD []).sum:Int):Rat):=by rw[<-pq.2.2,q2]
  have Cp:=QB.ext cD
  have Q5:=Q4.ext cD
  simp[a2]
  try simp only[k1]
  refine bU.join (by kernel_rfl) (fun k5 kD cy=>Ext dU cy/\∃bad,k5 42= .bool bad/\(bad=false↔(t[i]?.getD []).sum=(t[0]?.getD []).sum/\((ef m t)[i]?.getD []).sum=(t[0]?.getD []).sum)) ?_ ?_
  ·rintro nW gr-
   simp
   refine a4.mk (pF (N:=64) (j:=i) (row:=h5) (by simpa using Cp) j4.1 (Dm _ j4.2.1) (by omega) (an.gN _ j4.2.1).1 (an.gN _ j4.2.1).2 (by decide)) ?_
   rintro aau cy ⟨cz,oy⟩
   refine⟨cz,?_⟩
   simp
   refine a4.mk (pF (N:=64) (j:=0) (row:=eb) (by simpa using Cp.ext cz) eP.1 (Dm _ eP.2.1) (by omega) (an.gN _ eP.2.1).1 (an.gN _ eP.2.1).2 (by decide)) ?_
   rintro aav eG ⟨dh,TE⟩
   simp
   refine a4.mk (uH (N:=64) (oy.ext dh) TE (an.gN.sum j4.2.1) uO (by decide)) ?_
   rintro _ eE ⟨dj,rfl⟩
   have zY:=cz.az (dh.az dj)
   have key:((if er h5<er eb then(-1:Int)else if er h5=er eb then 0 else 1)=0)↔(t[i]?.getD []).sum=(t[0]?.getD []).sum:=by
    rw[HE,WW,Ex]
    exact Rat.intCast_inj
   refine Exists.elim (⟨_,rfl⟩:∃yo,yo=(if er h5<er eb then(-1:Int)else if er h5=er eb then 0 else 1)) fun yo Ry=>?_
   rw[<-Ry]at key⊢
   by_cases aH:yo=0
   ·simp[aH]
    refine a4.mk (pF (N:=64) (j:=i) (row:=uM) (by simpa using Q5.ext zY) pq.1 (ov _ pq.2.1) (by omega) (cS.gN _ pq.2.1).1 (cS.gN _ pq.2.1).2 (by decide)) ?_
    rintro aaq mg ⟨fI,DL⟩
    refine⟨fI,?_⟩
    simp[aH]
    refine a4.mk (pF (N:=64) (j:=0) (row:=eb) (by simpa using Cp.ext (zY.az fI)) eP.1 (Dm _ eP.2.1) (by omega) (an.gN _ eP.2.1).1 (an.gN _ eP.2.1).2 (by decide)) ?_
    rintro aar hM ⟨fB,TC⟩
    simp[aH]
    refine a4.mk (uH (N:=64) (DL.ext fB) TC (cS.gN.sum pq.2.1) uO (by decide)) ?_
    rintro _ hW ⟨hc,rfl⟩
    have KU:((if er uM<er eb then(-1:Int)else if er uM=er eb then 0 else 1)=0)↔((ef m t)[i]?.getD []).sum=(t[0]?.getD []).sum:=by
     rw[HE,WX,Ex]
     exact Rat.intCast_inj
    refine Exists.elim (⟨_,rfl⟩:∃vv,vv=(if er uM<er eb then(-1:Int)else if er uM=er eb then 0 else 1)) fun vv Rx=>?_
    rw[<-Rx]at KU⊢
    simp[aH]
    refine gr _ _ _ ⟨zY.az (fI.az (fB.az hc)),decide (vv≠0),by simp,?_⟩
    rw[<-KU]
    simp[key.1 aH]
   ·simp[aH]
    refine gr _ _ _ ⟨zY,true,by simp,⟨fun h=>(by cases h),fun h=>absurd (key.2 h.1) aH⟩⟩
  rintro k5 kD cy ⟨cz,bad,tq,jV⟩
  simp only[kt]at tq
  simp at tq
  simp[tq]
  refine bG.mk (fun af=>?_) (fun af=>?_)
  ·simp[bj]
   refine aG _ _ ⟨bH.az (bx.az (bL.az (b0.az (c1.az (cD.az cz))))),false,by simp,⟨fun h=>(by cases h),fun h=>?_⟩⟩
   have o:=h.2.2 i ad
   rw[uf]at o
   have:=jV.2 o
   rw[af]at this
   cases this
  ·have o:=jV.1 af
   have e:∀a,a<i+1->(t[a]?.getD []).sum=(t[0]?.getD []).sum/\((ef t.length t)[a]?.getD []).sum=(t[0]?.getD []).sum:=fun a aF=>by
    by_cases jU:a=i
    ·subst jU
     rw[uf]
     exact o
    ·exact cQ a (by omega)
   exact a1 _ _ _ (by simp[a2]) ⟨cD.az cz,e⟩
 ·intro m3 pZ dU
  rintro gE ⟨cD,cQ⟩
  refine b7 _ _ _ ?_
  simp[bj]
  exact aG _ _ ⟨bH.az (bx.az (bL.az (b0.az (c1.az cD)))),true,by simp,⟨fun _=>⟨ao,by rw[<-hm];exact uf,cQ⟩,fun _=>rfl⟩⟩
end Go.b_
end
section
set_option maxRecDepth 8000
set_option maxHeartbeats 1000000
namespace Go.b_
def ku(p:Int×List Int)(i k:Nat):Int:=if p.2[i]?=some (k:Int)then p.1 else 0
def gv:List (Int×List Int)->Nat->Nat->Int
 | [],_,_=>0
 | p::aU,i,k=>ku p i k+gv aU i k
theorem Lq(a b:List (Int×List Int))(i k:Nat):gv (a++b) i k=gv a i k+gv b i k:=by
 induction a with
 | nil=>simp[gv]
 | cons p a aW=>simp only[List.cons_append,gv];rw[aW];omega
def ya(n:Nat)(l:List Int)(i:Nat):Prop:=∃k:Nat,k<n/\l[i]?=some (k:Int)/\(k:Int)∉l.take i
def la(n:Nat)(l:List Int):Prop:=l.length=n/\∀i,i<n->ya n l i
def l4(n:Nat):Nat:=(n-1)*(n-1)+1
theorem Wd{n:Nat}(aE:0<n):(n:Int)*(n:Int)-2*(n:Int)+2=(l4 n:Int):=by
 obtain⟨r,rfl⟩:∃r,n=r+1:=⟨n-1,by omega⟩
 unfold l4
 rw[Nat.add_sub_cancel]
 simp only[Int.natCast_add,Int.natCast_mul,Int.natCast_one,Int.add_mul,Int.mul_add,Int.one_mul,Int.mul_one]
 omega
def rq(n:Nat)(A:Nat->Nat->Int)(a9:List (Int×List Int)):Prop:=a9.length<=l4 n/\(∀p∈a9,1<=p.1/\la n p.2)/\∀i k,i<n->k<n->gv a9 i k=A i k
theorem la.inj{n:Nat}{l:List Int}(h:la n l){i j k:Nat}(ad:l[i]?=some (k:Int))(aI:l[j]?=some (k:Int)):i=j:=by
 have key:∀{i j:Nat},i<j->l[i]?=some (k:Int)->l[j]?=some (k:Int)->False:=fun{i j} nB ad aI=>by
  have fP:=(cc.1 aI).1
  rw[h.1]at fP
  obtain⟨bN,-,aQ,bn⟩:=h.2 j fP
  rw[aI]at aQ
  have:(k:Int)=(bN:Int):=Option.some.inj aQ
  rw[<-this]at bn
  refine bn (List.mem_iff_getElem?.2 ⟨i,?_⟩)
  rw[List.getElem?_take_of_lt nB]
  exact ad
 rcases Nat.lt_trichotomy i j with o | o | o
 ·exact(key o ad aI).elim
 ·exact o
 ·exact(key o aI ad).elim
def m8(n:Nat)(l:List Int)(i:Nat)(et:List Int):Prop:=et.length=n/\∀k,k<n->(et[k]?=some (-1)/\(k:Int)∉l.take i)\/∃j:Nat,j<i/\et[k]?=some (j:Int)/\l[j]?=some (k:Int)
theorem m8.zero(n:Nat)(l:List Int):m8 n l 0 (List.replicate n (-1)):=⟨by simp,fun k ah=> .inl ⟨by simp[ah],by simp⟩⟩
theorem m8.next{n i k:Nat}{l et:List Int}(h:m8 n l i et)(ah:k<n)(I:l[i]?=some (k:Int)):m8 n l (i+1) (et.set k (i:Int)):=by
 refine⟨by rw[List.length_set];exact h.1,fun bN ij=>?_⟩
 by_cases e:bN=k
 ·subst e
  exact .inr ⟨i,by omega,List.getElem?_set_self (by rw[h.1];exact ah),I⟩
 ·rw[List.getElem?_set_ne (Ne.symm e)]
  rcases h.2 bN ij with⟨aT,aQ⟩ | ⟨j,aT,aQ,bn⟩
  ·refine .inl ⟨aT,?_⟩
   rw[List.take_add_one,I,List.mem_append]
   rintro(h | h)
   ·exact aQ h
   ·simp at h;omega
  ·exact .inr ⟨j,by omega,aQ,bn⟩
theorem m8.seen{n i k:Nat}{l et:List Int}(h:m8 n l i et)(ah:k<n):∃x,et[k]?=some x/\(0<=x↔(k:Int)∈l.take i):=by
 rcases h.2 k ah with⟨aT,aQ⟩ | ⟨j,aT,aQ,bn⟩
 ·exact⟨_,aT,⟨fun h=>by omega,fun h=>absurd h aQ⟩⟩
 ·refine⟨_,aQ,⟨fun _=>?_,fun _=>by omega⟩⟩
  refine List.mem_iff_getElem?.2 ⟨j,?_⟩
  rw[List.getElem?_take_of_lt aT]
  exact bn
def lX(n:Nat)(l:List Int):List Int:=(List.range n).map fun k:Nat=>if(k:Int)∈l then(l.idxOf (k:Int):Int)else-1
theorem m8.all{n:Nat}{l et:List Int}(aR:la n l)(h:m8 n l n et):et=lX n l:=by
 refine List.ext_getElem? fun k=>?_
 by_cases ah:k<n
 ·unfold lX
  rw[List.getElem?_map,List.getElem?_range ah]
  have bu:l.take n=l:=List.take_of_length_le (by rw[aR.1];exact Nat.le_refl _)
  rcases h.2 k ah with⟨aT,aQ⟩ | ⟨j,aT,aQ,bn⟩
  ·rw[bu]at aQ
   rw[aT]
   simp[aQ]
  ·have hm:(k:Int)∈l:=List.mem_of_getElem? bn
   have a5:l.idxOf (k:Int)<l.length:=List.idxOf_lt_length_of_mem hm
   have e:l[l.idxOf (k:Int)]?=some (k:Int):=by rw[bt a5,List.getElem_idxOf]
   rw[aQ,aR.inj bn e]
   simp[hm]
 ·rw[List.getElem?_eq_none (by rw[h.1];omega),List.getElem?_eq_none (by simp[lX];omega)]
theorem z2{n:Nat}{l:List Int}(aR:la n l){i k:Nat}(ah:k<n):(lX n l)[k]?=some (i:Int)↔l[i]?=some (k:Int):=by
 unfold lX
 rw[List.getElem?_map,List.getElem?_range ah]
 by_cases hm:(k:Int)∈l
 ·have a5:l.idxOf (k:Int)<l.length:=List.idxOf_lt_length_of_mem hm
  have e:l[l.idxOf (k:Int)]?=some (k:Int):=by rw[bt a5,List.getElem_idxOf]
  simp only[Option.map_some,if_pos hm,Option.some.injEq]
  constructor
  ·intro h
   have:l.idxOf (k:Int)=i:=by omega
   rw[<-this];exact e
  ·intro h
   rw[aR.inj h e]
 ·simp only[Option.map_some,if_neg hm,Option.some.injEq]
  constructor
  ·intro h;omega
  ·intro h;exact absurd (List.mem_of_getElem? h) hm
theorem Vy{n:Nat}{l:List Int}(aR:la n l):vd n n (lX n l):=by
 have ar:(lX n l).length=n:=by simp[lX]
 refine D6.2 ⟨ar,fun k ah=>?_⟩
 by_cases hm:(k:Int)∈l
 ·obtain⟨i,ad⟩:=List.mem_iff_getElem?.1 hm
  have cW:=(cc.1 ad).1
  rw[aR.1]at cW
  have o:=(z2 aR ah).2 ad
  refine⟨(i:Int),o,by omega,by omega,fun _ gh=>?_⟩
  obtain⟨bN,ij⟩:=List.mem_iff_getElem?.1 gh
  have jY:bN<k:=by
   have:=(cc.1 ij).1
   rw[List.length_take]at this
   omega
  rw[List.getElem?_take_of_lt jY]at ij
  have aa:=(z2 aR (by omega)).1 ij
  rw[ad]at aa
  have:=Option.some.inj aa
  omega
 ·refine⟨-1,?_,by omega,by omega,fun h=>by omega⟩
  unfold lX
  rw[List.getElem?_map,List.getElem?_range ah]
  simp[hm]
def iW(n:Nat)(p:Int×List Int):List Nat×List Int:=(fu ((p.1:Int):Rat),lX n p.2)
theorem HK{c:Int}(o: -9223372036854775808<=c)(aa:c<9223372036854775808):kF ((c:Int):Rat):=(c4.int (N:=64) (by omega) (by decide)).Ah (by decide)
theorem HJ{n:Nat}{p:Int×List Int}(aR:1<=p.1/\la n p.2)(ag:p.1<9223372036854775808):p3 n n (iW n p)/\Bytes (iW n p).1/\(iW n p).1.length<4611686018427387904/\(iW n p).2.length<n+1/\hB (iW n p).1=((p.1:Int):Rat):=by
 have jc:=HK (c:=p.1) (by omega) ag
 have o:=xu jc
 have aa:=LI o.1
 refine⟨⟨⟨o.1,?_,by simp[iW,lX]⟩,Vy aR.2⟩,Ly _,?_,by simp[iW,lX],Ai jc⟩
 ·show 0<hB (fu _)
  rw[Ai jc]
  have:((0:Int):Rat)<((p.1:Int):Rat):=Rat.intCast_lt_intCast.2 (by omega)
  exact this
 ·show(fu _).length<_
  omega
theorem WG{n:Nat}{a9:List (Int×List Int)}(h:∀p∈a9,1<=p.1/\la n p.2)(ag:∀p∈a9,p.1<9223372036854775808){i k:Nat}(ad:i<n)(ah:k<n):gk (parts (a9.map (iW n))) i k=((gv a9 i k:Int):Rat):=by
 induction a9 with
 | nil=>rfl
 | cons p a9 aW=>
  have o:=aW (fun q au=>h q (by simp[au])) fun q au=>ag q (by simp[au])
  have aa:=(HJ (h p (by simp)) (ag p (by simp))).2.2.2.2
  have e:gk (parts ((p::a9).map (iW n))) i k=gj (hB (iW n p).1,(iW n p).2) i k+gk (parts (a9.map (iW n))) i k:=rfl
  rw[e,o,aa]
  have bh:gv (p::a9) i k=ku p i k+gv a9 i k:=rfl
  rw[bh,Rat.intCast_add]
  congr 1
  unfold gj ku
  show(if(lX n p.2)[k]?=some (i:Int)then((p.1:Int):Rat)else 0)=_
  by_cases au:p.2[i]?=some (k:Int)
  ·rw[if_pos au,if_pos ((z2 (h p (by simp)).2 ah).2 au)]
  ·rw[if_neg au,if_neg (fun b5=>au ((z2 (h p (by simp)).2 ah).1 b5))]
   rfl
end Go.b_
end
section
set_option maxRecDepth 8000
set_option maxHeartbeats 1000000
namespace Go.b_
open Go.Proofs
open Go.Proofs.Try (prog)
attribute [-simp] fL gO hK
def fD(H:ab)(v:Value)(p:Int×List Int):Prop:=∃a n c,v= .agg #[.int .i64 p.1,.slice a n c]/\Row 3 1 false IR H (.slice a n c) p.2
instance:bJ fD:=⟨fun⟨a,n,c,h,o⟩ I=>⟨a,n,c,h,bJ.ext (ae:=Row _ _ _ IR) o I⟩⟩
theorem fD.iB{H:ab}{v:Value}{p:Int×List Int}(h:fD H v p):Whole prog 27 v:=by
 obtain⟨a,n,c,rfl,-⟩:=h
 exact⟨by rfl,by simp[Value.cells,Value.oneCell'],by simp[eB]⟩
theorem fD.kept{H aC:ab}{e:Nat}{s v:Value}{p:Int×List Int}(h:fD H v p)(ah:Kept H aC s e)(aa:3≠e):fD aC v p:=by
 obtain⟨a,n,c,rfl,aQ⟩:=h
 exact⟨a,n,c,rfl,aQ.kept ah aa fun _ _ h=>h⟩
theorem Lp{n:Nat}(aE:0<n)(mD:n<=8):∃y,IntKind.i64.wrap ((n:Int)*(n:Int))=(y:Int)/\∃x,IntKind.i64.wrap (2*(n:Int))=(x:Int)/\∃z,IntKind.i64.wrap ((y:Int)-(x:Int))=(z:Int)/\IntKind.i64.wrap ((z:Int)+2)=(l4 n:Int)/\l4 n<=50:=by
 have o:=Wd aE
 have aa:n*n<=8*8:=Nat.mul_le_mul mD mD
 have aD:(n:Int)*(n:Int)=((n*n:Nat):Int):=by simp
 have bD:l4 n<=50:=by
  unfold l4
  have:(n-1)*(n-1)<=7*7:=Nat.mul_le_mul (by omega) (by omega)
  omega
 refine⟨_,cP (by omega) (by omega),_,cP (by omega) (by omega),_,cP (by omega) (by omega),?_,bD⟩
 rw[o]
 exact cP (by omega) (by omega)
theorem Lg{v w:Value}{t:List (List Int)}{a9:List (Int×List Int)}{H:ab}(ba:eL H v t)(ar:t.length<65536)(aj:∀r∈t,r.length<65536)(i_:Row 27 2 true fD H w a9)(qg:∀p∈a9,-9223372036854775808<=p.1/\p.1<9223372036854775808)(hlen:∀p∈a9,p.2.length<65536)(iq:a9.length<65536):
  aZ prog 7 [v,w] H (fun u H1=>Ext H H1/\(¬oT t->u= .tuple #[.bool false,.int .i64 1])/\(oT t->∃b,u= .tuple #[.bool b,.int .i64 0]/\(b=true↔rq t.length (ep t) a9))):=by
 refine aZ.cr fun Q aG=>?_
 apply UX (by simp)
 simp only[GV]
 refine bU.fv fun ck b7=>?_
 simp
 refine b7 _ _ _ ?_
 clear b7
 refine bU.fv fun ck b7=>?_
 simp
 refine a4.mk (K0 ba ar aj) ?_
 rintro _ H1 ⟨bH,gC,rfl,kR⟩
 simp
 refine bG.mk (fun af=>?good) (fun af=>?bad)
 case bad=>
  simp[bj]
  exact aG _ _ ⟨bH,fun _=>rfl,fun h=>by rw[kR.2 h]at af;cases af⟩
 have cg:=kR.1 af
 have ao:=cg.1
 refine Exists.elim (⟨_,rfl⟩:∃n,n=t.length) fun n aE=>?_
 have hm:(t[0]?.getD []).length=n:=by rw[aE];exact cg.2.1.symm
 have j2:0<n:=by have:=ao.1;omega
 have mD:n<=8:=by have:=ao.2.1;omega
 have Co:∀b aC,Ext H aC->(b=true↔rq n (ep t) a9)->Q (.tuple #[.bool b,.int .i64 0]) aC:=fun b aC I af=>aG _ _ ⟨I,fun h=>absurd cg h,fun _=>⟨b,rfl,by rw[<-aE];exact af⟩⟩
 clear aG
 have h0:=bJ.ext (ae:=eL) ba bH
 have yU:=bJ.ext (ae:=Row _ _ _ fD) i_ bH
 refine b7 _ _ _ ?_
 clear b7
 refine bU.fv fun ck b7=>?_
 simp
 refine cN (ae:=c7) (xs:=t) (by simpa using h0) (by simp) ?_
 simp only[<-aE]
 simp
 refine b7 _ _ _ ?_
 clear b7
 refine Exists.elim (Lp j2 mD) fun y aL=>Exists.elim aL.2 fun x I=>Exists.elim I.2 fun z aP=>?_
 have V1:=aP.2.2
 refine bU.fv fun ck b7=>?_
 simp
 refine cN (ae:=fD) (xs:=a9) (by simpa using yU) (by simp) ?_
 simp[aL.1,I.1,aP.1,aP.2.1]
 refine bG.cE (fun af=>?_) (fun af=>?_)
 ·simp[bj]
  exact Co false _ bH ⟨fun h=>(by cases h),fun h=>by have:=h.1;omega⟩
 have rZ:a9.length<=l4 n:=by omega
 refine b7 _ _ _ ?_
 clear b7
 refine bU.fv fun ck b7=>?_
 simp
 refine b7 _ _ _ ?_
 clear b7
 refine bU.fv fun ck b7=>?_
 simp
 refine cN (ae:=fD) (xs:=a9) (by simpa using yU) (by simp) ?_
 simp
 have fail:∀mh,Ext H mh->(¬∀p∈a9,1<=p.1/\la n p.2)->Q (.tuple #[.bool false,.int .i64 0]) mh:=fun mh I hH=>Co false mh I ⟨fun h=>(by cases h),fun h=>absurd h.2.1 hH⟩
 refine dx.range (by kernel_rfl) a9.length (by omega) (by simp) (by rfl) (by simp) (by decide) (by decide) (fun s k5 kD cy=>Ext H1 cy/\(∀p∈a9.take s,1<=p.1/\la n p.2)/\bz H1.length 48 2 true gB cy (k5 7) ((a9.take s).map (iW n))) ?_ ?_ ?_
 ·exact⟨Ext.refl _,by simp,by simpa using bz.nil _ _ _ _ _ _⟩
 ·rintro s k5 kD cy an np ⟨cz,mE,g0⟩ K a1
  simp at np g0
  refine Exists.elim (⟨_,bt an⟩:∃p,a9[s]?=some p) fun p aR=>?_
  have im:=List.mem_of_getElem? aR
  have zA:=qg p im
  have jd:=hlen p im
  have tv:=bH.az cz
  simp[np]
  refine cI (ae:=fD) (xs:=a9) (n:=s) (a:=p) (e:=27) (R:=2) (ay:=true) (by simpa using bJ.ext (ae:=Row _ _ _ fD) i_ tv) (by simp[np]) aR (by simp) (by simp) (by simp) (by decide) ?_
  rintro qX u8 ⟨Bq,Wj,Bx,rfl,r1⟩
  refine Exists.elim (Row.len r1) fun aca h=>Exists.elim h fun yo h=>?_
  have BK:Wj=p.2.length:=by injection h
  rw[BK]at r1⊢
  simp
  have gV:=Ext.dead cy
  have R2:=bJ.ext (ae:=c7) r1 gV
  refine bU.join (by kernel_rfl) (fun m5 m6 eE=>eE=cy++[.dead]/\m5 48= .bool (!decide (1<=p.1/\p.2.length=n))) ?_ ?_
  ·rintro cU ed-
   simp
   by_cases o:p.1<1
   ·simp[o]
    exact ed _ _ _ ⟨rfl,by simp;omega⟩
   ·simp[o]
    refine cN (ae:=IR) (xs:=p.2) (by simpa using R2) (by simp) ?_
    simp[o]
    refine ed _ _ _ ⟨rfl,?_⟩
    have:1<=p.1:=by omega
    simp[this]
    omega
  rintro m5 m6 eE ⟨rfl,qf⟩
  simp only[kt]at qf
  simp at qf
  simp[qf]
  refine bG.mk (fun af=>?_) (fun af=>?_)
  ·simp at af
   simp[bj]
   refine fail _ (tv.az gV) fun cQ=>?_
   have:=cQ p im
   exact af.elim (fun h=>by omega) fun h=>h this.2.1
  have po:1<=p.1/\p.2.length=n:=by simpa using af
  have Sz:=HK zA.1 zA.2
  simp
  refine a4.mk (xB zA.1 zA.2) ?_
  rintro aaq mg ⟨fI,DL⟩
  simp
  refine a4.mk (EG DL (c4.int (N:=64) (by omega) (by decide)) (by decide)) ?_
  rintro re hM ⟨fB,H5⟩
  rw[if_pos Sz]at H5
  subst H5
  simp
  refine AQ (e:=3) (R:=1) (ay:=false) (z:= .int .i64 0) (ae:=IR) (a:= -1) (fun aC _=>by simp[IR]) (by simpa using kd (-1)) (by simp) (by simp) (by simp) (by rfl) (by rfl) (by rfl) (by decide) (by decide) ?_
  intro Nj hW oa hc
  simp
  refine a4.mk (bz.a9 (L_ (ae:=IR) (n:=n) oa.row (by omega) (fun H u y h=>by rw[h];exact kd y) (fun _ _ _ _ _ _ h=>h))) ?_
  rintro _ k7 ⟨hS,lY,lZ,rfl,jR⟩
  rw[List.length_replicate]at jR⊢
  simp
  have DV:=Ext.dead k7
  have w7:=gV.az (fI.az (fB.az hc))
  have qx:=bJ.ext (ae:=c7) r1 w7
  have Qu:=bJ.ext (ae:=bz _ _ _ _ gB) g0 w7
  have r5:=Ext.len cz
  have JK:=Ext.len w7
  simp only[po.2]
  refine cN (ae:=IR) (xs:=p.2) (by simpa[po.2]using bJ.ext (ae:=c7) qx (hS.az DV)) (by simp) ?_
  simp only[po.2]
  simp
  refine dx.range (by kernel_rfl) n (by omega) (by simp) (by rfl) (by simp) (by decide) (by decide) (fun i rm sX jj=>Ext hW jj/\(∀j,j<i->ya n p.2 j)/\∃et,m8 n p.2 i et/\bz hW.length 3 1 false IR jj (.slice lY n lZ) et) ?_ ?_ ?_
  ·exact⟨hS.az DV,fun j h=>by omega,_,m8.zero _ _,bJ.ext (ae:=bz _ _ _ _ IR) jR DV⟩
  ·rintro i rm sX jj ad o6 ⟨iM,cQ,et,jO,qj⟩ nW gr
   simp at o6
   have C4:=bJ.ext (ae:=c7) qx iM
   have P4:=tv.az (w7.az iM)
   refine Exists.elim (⟨_,bt (by omega)⟩:∃x,p.2[i]?=some x) fun x I=>?_
   simp[o6]
   refine cI (ae:=IR) (xs:=p.2) (n:=i) (a:=x) (e:=3) (R:=1) (ay:=false) (by simpa[po.2]using C4) (by simp[o6]) I (by simp) (by simp) (by simp) (by decide) ?_
   rintro Ep Fa rfl
   simp[o6]
   refine bU.join (by kernel_rfl) (fun FA NF x_=>x_=jj/\∃bad,FA 83= .bool bad/\(bad=false↔ya n p.2 i)) ?_ ?_
   ·rintro sZ jP-
    by_cases o:x<0
    ·simp[o]
     refine jP _ _ _ ⟨rfl,true,by simp,⟨fun h=>(by cases h),fun h=>?_⟩⟩
     obtain⟨k,aT,aQ,bn⟩:=h
     rw[I]at aQ
     have:=Option.some.inj aQ
     omega
    ·by_cases aa:(n:Int)<=x
     ·simp[o,aa]
      refine jP _ _ _ ⟨rfl,true,by simp,⟨fun h=>(by cases h),fun h=>?_⟩⟩
      obtain⟨k,aT,aQ,bn⟩:=h
      rw[I]at aQ
      have:=Option.some.inj aQ
      omega
     ·refine Exists.elim (⟨x.toNat,by omega⟩:∃k:Nat,x=(k:Int)) fun k ah=>?_
      have JJ:k<n:=by omega
      refine Exists.elim (jO.seen JJ) fun y aL=>?_
      have om:¬(k:Int)<0:=by omega
      have jY:¬(n:Int)<=(k:Int):=by omega
      simp[ah,om,jY]
      refine mX (ae:=IR) (xs:=et) (n:=k) (a:=y) (e:=3) (R:=1) (ay:=false) (by simp[om,jY]) (by decide) (by simpa using qj.row) (by simp[ah]) aL.1 (by simp) (by simp) (by simp) (by decide) ?_
      rintro xx aaf rfl
      simp[om,jY]
      refine jP _ _ _ ⟨rfl,decide (0<=y),by simp,?_⟩
      constructor
      ·intro h
       refine⟨k,JJ,by rw[I,ah],fun hm=>?_⟩
       have:=aL.2.2 hm
       simp at h
       omega
      ·rintro⟨bN,aT,aQ,bn⟩
       rw[I,ah]at aQ
       have e:(k:Int)=(bN:Int):=Option.some.inj aQ
       rw[<-e]at bn
       have:¬0<=y:=fun h=>bn (aL.2.1 h)
       simpa using this
   rintro FA NF x_ ⟨rfl,bad,B5,jV⟩
   simp only[kt]at B5
   simp at B5
   simp[B5]
   refine bG.mk (fun af=>?_) (fun af=>?_)
   ·simp[bj]
    refine fail _ P4 fun Rd=>?_
    have:=jV.2 ((Rd p im).2.2 i ad)
    rw[af]at this
    cases this
   ·refine Exists.elim (jV.1 af) fun k ah=>?_
    have nG:x=(k:Int):=by have:=ah.2.1;rw[I]at this;exact Option.some.inj this
    simp[nG,o6]
    refine iR (k:=hW.length) (e:=3) (R:=1) (ay:=false) (n:=k) (ae:=IR) (xs:=et) (a:=(i:Int)) (by simpa using qj) (by simp[nG]) (by rw[jO.1];exact ah.1) (by simp[o6,IR]) (by simpa[o6]using kd _) (by simp) (fun aC c_ u y ah h=>h) (by simp) (by simp) (by simp) (by decide) ?_
    rintro xx FG qk w5 qy JL-
    simp at qk
    try simp
    refine gr _ _ _ (by simp[o6]) ⟨w5 _ (Nat.le_refl _) iM,fun j aI=>?_,_,jO.next ah.1 ah.2.1,qk⟩
    by_cases fc:j=i
    ·subst fc;exact⟨k,ah⟩
    ·exact cQ j (by omega)
  ·rintro rm sX jj o6 ⟨iM,cQ,et,jO,qj⟩
   have r_:la n p.2:=⟨po.2,cQ⟩
   have P_:=jO.all r_
   rw[P_]at qj
   have iq:gB jj (.agg #[.string (ct (fu ((p.1:Int):Rat))),.slice lY n lZ]) (iW n p):=⟨_,_,_,rfl,qj.row⟩
   have Qs:=bJ.ext (ae:=bz _ _ _ _ gB) Qu iM
   have Sb:=Ext.len iM
   simp
   refine ra (k:=H1.length) (e:=48) (R:=2) (ay:=true) (bs:=40) (z:= .agg #[.string ⟨#[]⟩,.slice none 0 0]) (ae:=gB) (xs:=(a9.take s).map (iW n)) (a:=iW n p) (by simpa using Qs) (by simpa using iq) (by simpa using iq.iB) (by simp) (fun aC c_ u y ah h=>h.kept ah (by decide)) (by simp) (by simp) (by simp) (by simp) (by simp) (by rfl) (by rfl) (by first | rfl | simp[flat,gD]) (by rfl) (by decide) (by decide) (by decide) (by simp;omega) (by omega) ?_
   intro Ws agw nV yR qM ze
   try simp
   refine a1 _ _ _ (by simp[np]) ⟨qM _ (Nat.le_refl _) (cz.az (w7.az iM)),fun q au=>?_,?_⟩
   ·rw[List.take_add_one,aR,List.mem_append]at au
    rcases au with au | au
    ·exact mE q au
    ·simp at au
     subst au
     exact⟨po.1,r_⟩
   ·rw[List.take_add_one,aR,List.map_append]
    simpa using yR
 ·rintro k5 kD cy np ⟨cz,mE,g0⟩
  rw[List.take_of_length_le (Nat.le_refl _)]at mE g0
  refine b7 _ _ _ ?_
  clear b7
  refine bU.fv fun ck b7=>?_
  simp
  have a5:∀p∈a9,p.1<9223372036854775808:=fun p aR=>(qg p aR).2
  have cQ:∀q∈a9.map (iW n),p3 n n q/\Bytes q.1/\q.1.length<4611686018427387904/\q.2.length<65536:=fun q au=>by
   rw[List.mem_map]at au
   obtain⟨p,aR,rfl⟩:=au
   have:=HJ (mE p aR) (a5 p aR)
   exact⟨this.1,this.2.1,this.2.2.1,by omega⟩
  have an:=ao.small
  have y9:eU n n (cd t):=xA aE.symm (fun r h=>by rw[ao.len r h];exact hm)
  refine a4.mk (H0 (n:=n) (m:=n) g0.row (fun q au=>(cQ q au).2.1) (fun q au=>⟨(cQ q au).2.2.1,(cQ q au).2.2.2⟩) (by rw[List.length_map];omega) j2 j2 (by omega) (by omega)) ?_
  rintro _ eG ⟨dh,sH,AO,sI,hf,acy,rfl,zp,CJ,qp⟩
  have Rl:=CJ.2 ⟨fun q au=>(cQ q au).1,by rw[List.length_map];omega⟩
  subst Rl
  refine Exists.elim (qp rfl) fun B o5=>?_
  have fG:∀i k,i<n->k<n->bM B i k=((gv a9 i k:Int):Rat):=fun i k ad ah=>by rw[o5.2.2.1 i k ad ah,WG mE a5 ad ah]
  have zL:=EX (a9:=a9.map (iW n)) fun q au=>(cQ q au).1.1.1
  have dj:Ext eG (eG++[.dead,.dead]):=Ext.more eG (by simp)
  simp
  refine ew.mk zp ?_
  simp
  refine b7 _ _ _ ?_
  clear b7
  have h1:=cz.az (dh.az dj)
  simp[u0]
  refine a4.mk (uK (bJ.ext (ae:=eL) h0 h1) (by omega) aj fun r h x I=>by have:=(an r h).2 x I;omega) ?_
  rintro _ mg ⟨fI,vq,vy,rfl,kP⟩
  refine⟨fI,?_⟩
  simp
  refine a4.mk (Mi (N:=64) (M:=iQ (a9.map (iW n)).length) kP (o5.1.ext (dj.az fI)) y9 o5.2.1 (by omega) (by omega) (fun i k _ _=>H7 an i k) (fun i k ad ah=>by rw[o5.2.2.1 i k ad ah];exact zL.2 i k) (by unfold iQ;rw[List.length_map];omega)) ?_
  rintro _ hM ⟨fB,NX,rfl,Rh⟩
  simp[bj]
  refine Co NX _ (bH.az (h1.az (fI.az fB))) ?_
  rw[Rh]
  constructor
  ·intro h
   refine⟨rZ,mE,fun i k ad ah=>?_⟩
   have:=h i k ad ah
   rw[fG i k ad ah,q1]at this
   exact(Rat.intCast_inj.1 this).symm
  ·intro h i k ad ah
   rw[fG i k ad ah,h.2.2 i k ad ah,q1]
   rfl
section
variable {r:List br} {F:Fr} {H:ab} {Q:Fr->ab->Prop}
theorem AE{v:Value}{a9:List (Int×List Int)}{n:Nat}{a:Int×List Int}(bl:Row 27 2 true fD H v a9)(aF:a9[n]?=some a):∃b U cap X all e9 e_,v= .slice (some ⟨b,U,none⟩) a9.length cap/\H[b]?=some X/\X.cells?=some all/\all[U+n*2]?=some (.int .i64 a.1)/\all[U+n*2+1]?=some (.slice e9 a.2.length e_)/\c7 H (.slice e9 a.2.length e_) a.2:=by
 obtain⟨b,U,cap,X,all,⟨ao,aS,ag,bp,hu⟩ | ⟨aT,aQ⟩⟩:=bl.at aF
 ·simp only[if_true]at hu
  obtain⟨e9,jF,e_,he,aa⟩:=hu
  obtain⟨ek,dL,rY⟩:=aa.len
  simp at rY
  obtain⟨rfl,rfl,rfl⟩:=rY
  simp at he
  refine⟨b,U,cap,X,all,e9,e_,ao,aS,ag,?_,?_,aa⟩
  ·have:=congrArg (fun l:List Value=>l[0]?) he
   simpa[List.getElem?_take,List.getElem?_drop]using this
  ·have:=congrArg (fun l:List Value=>l[1]?) he
   simpa[List.getElem?_take,List.getElem?_drop]using this
 ·cases aT
theorem MO{d t d1 d2 n:Nat}{x i:Operand}{a9:List (Int×List Int)}{a:Int×List Int}{aw:a_ (bb d t x i::bk d1 27 (T d) 0::aO d2 3 (T d1)::r) Q}(bl:Row 27 2 true fD H (aq F x) a9)(ad:aq F i= .int .i64 (n:Int))(aF:a9[n]?=some a)
  (bu:eR prog t=some 27)(K:∀p q,a8 prog r Q .mk (aY (aY (aY F d p) d1 q) d2 (.int .i64 a.1)) H):a8 prog (bb d t x i::bk d1 27 (T d) 0::aO d2 3 (T d1)::r) Q aw F H:=by
 have ar:n<a9.length:=(cc.1 aF).1
 obtain⟨b,U,cap,X,all,e9,e_,ao,aS,ag,aH,o,aa⟩:=AE bl aF
 rw[fL,ao,ad,oW,nc,bu,e0,show bm prog 27=some 2 by rfl,e0,oU]
 refine df.mk ⟨by omega,by omega⟩ ?_
 rw[AR]
 simp only[kL,hL,mj,show gd prog 27 0=some 0 by rfl,e0,Nat.add_zero]
 rw[uX]
 simp only[kL,hL,mj,aS,Option.bind_some,ag,e0,show da prog 3=some false by rfl,Int.toNat_natCast,sU,aH]
 exact K _ _
theorem Yw{j d t d1 d2 n:Nat}{w:Bool}{x i:Operand}{a9:List (Int×List Int)}{a:Int×List Int}{aw:a_ (bb d t x i::aN j w (bk d1 27 (T d) 0)::aN j w (aO d2 3 (T d1))::r) Q}(aV:gR (F j)=some w)(lP:j≠d)(C6:j≠d1)(bl:Row 27 2 true fD H (aq F x) a9)(ad:aq F i= .int .i64 (n:Int))(aF:a9[n]?=some a)
  (bu:eR prog t=some 27)(K:∀p q,a8 prog r Q .mk (aY (aY (aY F d p) d1 q) d2 (.int .i64 a.1)) H):a8 prog (bb d t x i::aN j w (bk d1 27 (T d) 0)::aN j w (aO d2 3 (T d1))::r) Q aw F H:=by
 have ar:n<a9.length:=(cc.1 aF).1
 obtain⟨b,U,cap,X,all,e9,e_,ao,aS,ag,aH,o,aa⟩:=AE bl aF
 rw[fL,ao,ad,oW,nc,bu,e0,show bm prog 27=some 2 by rfl,e0,oU]
 refine df.mk ⟨by omega,by omega⟩ ?_
 refine uW (by rw[gX _ _ lP];exact aV) ?_
 show a8 prog (bk d1 27 (T d) 0::aN j w (aO d2 3 (T d1))::r) Q .mk _ H
 rw[AR]
 simp only[kL,hL,mj,show gd prog 27 0=some 0 by rfl,e0,Nat.add_zero]
 refine uW (by rw[gX _ _ C6,gX _ _ lP];exact aV) ?_
 show a8 prog (aO d2 3 (T d1)::r) Q .mk _ H
 rw[uX]
 simp only[kL,hL,mj,aS,Option.bind_some,ag,e0,show da prog 3=some false by rfl,Int.toNat_natCast,sU,aH]
 exact K _ _
theorem Yx{d t d1 d2 n:Nat}{x i:Operand}{a9:List (Int×List Int)}{a:Int×List Int}{aw:a_ (bb d t x i::bk d1 27 (T d) 1::aO d2 25 (T d1)::r) Q}(bl:Row 27 2 true fD H (aq F x) a9)(ad:aq F i= .int .i64 (n:Int))(aF:a9[n]?=some a)
  (bu:eR prog t=some 27)(K:∀p q u,c7 H u a.2->a8 prog r Q .mk (aY (aY (aY F d p) d1 q) d2 u) H):a8 prog (bb d t x i::bk d1 27 (T d) 1::aO d2 25 (T d1)::r) Q aw F H:=by
 have ar:n<a9.length:=(cc.1 aF).1
 obtain⟨b,U,cap,X,all,e9,e_,ao,aS,ag,aH,o,aa⟩:=AE bl aF
 rw[fL,ao,ad,oW,nc,bu,e0,show bm prog 27=some 2 by rfl,e0,oU]
 refine df.mk ⟨by omega,by omega⟩ ?_
 rw[AR]
 simp only[kL,hL,mj,show gd prog 27 1=some 1 by rfl,e0]
 rw[uX]
 simp only[kL,hL,mj,aS,Option.bind_some,ag,e0,show da prog 25=some false by rfl,Int.toNat_natCast,sU,o]
 exact K _ _ _ aa
theorem Yy{j d t d1 d2 n:Nat}{w:Bool}{x i:Operand}{a9:List (Int×List Int)}{a:Int×List Int}{aw:a_ (bb d t x i::aN j w (bk d1 27 (T d) 1)::aN j w (aO d2 25 (T d1))::r) Q}(aV:gR (F j)=some w)(lP:j≠d)(C6:j≠d1)(bl:Row 27 2 true fD H (aq F x) a9)(ad:aq F i= .int .i64 (n:Int))(aF:a9[n]?=some a)
  (bu:eR prog t=some 27)(K:∀p q u,c7 H u a.2->a8 prog r Q .mk (aY (aY (aY F d p) d1 q) d2 u) H):a8 prog (bb d t x i::aN j w (bk d1 27 (T d) 1)::aN j w (aO d2 25 (T d1))::r) Q aw F H:=by
 have ar:n<a9.length:=(cc.1 aF).1
 obtain⟨b,U,cap,X,all,e9,e_,ao,aS,ag,aH,o,aa⟩:=AE bl aF
 rw[fL,ao,ad,oW,nc,bu,e0,show bm prog 27=some 2 by rfl,e0,oU]
 refine df.mk ⟨by omega,by omega⟩ ?_
 refine uW (by rw[gX _ _ lP];exact aV) ?_
 show a8 prog (bk d1 27 (T d) 1::aN j w (aO d2 25 (T d1))::r) Q .mk _ H
 rw[AR]
 simp only[kL,hL,mj,show gd prog 27 1=some 1 by rfl,e0]
 refine uW (by rw[gX _ _ C6,gX _ _ lP];exact aV) ?_
 show a8 prog (aO d2 25 (T d1)::r) Q .mk _ H
 rw[uX]
 simp only[kL,hL,mj,aS,Option.bind_some,ag,e0,show da prog 25=some false by rfl,Int.toNat_natCast,sU,o]
 exact K _ _ _ aa
end
def p4(n:Nat)(L:List (List Int)):Prop:=L.length=n/\∀i,i<n->∃r,L[i]?=some r/\r.length=n
theorem p4.get{n:Nat}{L:List (List Int)}(h:p4 n L){i k:Nat}(ad:i<n)(ah:k<n):∃r,L[i]?=some r/\r.length=n/\r[k]?=some (ep L i k):=by
 obtain⟨r,aT,aQ⟩:=h.2 i ad
 refine⟨r,aT,aQ,?_⟩
 unfold ep
 rw[aT,bt (show k<r.length by omega)]
 simp[bt (show k<r.length by omega)]
theorem p4.set{n:Nat}{L:List (List Int)}(h:p4 n L){j:Nat}{di:List Int}(aj:di.length=n):p4 n (L.set j di):=by
 refine⟨by rw[List.length_set];exact h.1,fun i ad=>?_⟩
 by_cases e:j=i
 ·subst e
  exact⟨di,List.getElem?_set_self (by rw[h.1];exact ad),aj⟩
 ·rw[List.getElem?_set_ne e]
  exact h.2 i ad
theorem Pw{t:List (List Int)}{r:List Int}{j i:Nat}{x:Int}(aI:t[j]?=some r)(ad:i<r.length)(dp bN:Nat):ep (t.set j (r.set i x)) dp bN=if dp=j/\bN=i then x else ep t dp bN:=by
 have fP:=(cc.1 aI).1
 unfold ep
 by_cases o:dp=j
 ·subst o
  rw[List.getElem?_set_self fP,aI]
  by_cases aa:bN=i
  ·subst aa
   simp[List.getElem?_set_self ad]
  ·simp[List.getElem?_set_ne (Ne.symm aa),aa]
 ·rw[List.getElem?_set_ne (Ne.symm o),if_neg (by simp[o])]
theorem Lr{a9:List (Int×List Int)}(h:∀p∈a9,1<=p.1)(i k:Nat):0<=gv a9 i k:=by
 induction a9 with
 | nil=>exact Int.le_refl _
 | cons p a9 aW=>
  have o:=aW fun q au=>h q (by simp[au])
  have aa:=h p (by simp)
  simp only[gv,ku]
  split<;>omega
theorem Wf{a9:List (Int×List Int)}{s:Nat}{p:Int×List Int}(aR:a9[s]?=some p)(i k:Nat):gv a9 i k=gv (a9.take s) i k+ku p i k+gv (a9.drop (s+1)) i k:=by
 have an:=(cc.1 aR).1
 have e:a9=a9.take s++p::a9.drop (s+1):=by
  have o:a9.drop s=p::a9.drop (s+1):=by
   rw[List.drop_eq_getElem_cons an]
   rw[bt an]at aR
   rw[Option.some.inj aR]
  rw[<-o,List.take_append_drop]
 have:gv a9 i k=gv (a9.take s++p::a9.drop (s+1)) i k:=by rw[<-e]
 rw[this,Lq]
 simp only[gv]
 omega
theorem Wg{a9:List (Int×List Int)}{s:Nat}{p:Int×List Int}(aR:a9[s]?=some p)(i k:Nat):gv (a9.take (s+1)) i k=gv (a9.take s) i k+ku p i k:=by
 rw[List.take_add_one,aR,Lq]
 simp[gv]
theorem V7{v w:Value}{t:List (List Int)}{a9:List (Int×List Int)}{H:ab}(ba:eL H v t)(cg:oT t)(i_:Row 27 2 true fD H w a9)(iq:a9.length<65536):
  aZ prog 11 [v,w] H (fun u H1=>Ext H H1/\∃b,u= .bool b/\(b=true↔rq t.length (ep t) a9)):=by
 refine aZ.cr fun Q aG=>?_
 have ao:=cg.1
 obtain⟨n,aE⟩:∃n,n=t.length:=⟨_,rfl⟩
 have hm:(t[0]?.getD []).length=n:=by rw[aE];exact cg.2.1.symm
 have j2:0<n:=by have:=ao.1;omega
 have mD:n<=8:=by have:=ao.2.1;omega
 rw[<-aE]at aG
 have P0:0<H.length:=by
  obtain⟨b,U,cap,X,all,⟨o,aa,-⟩ | ⟨o,aa⟩⟩:=Row.at ba (bt (show 0<t.length by omega))
  ·have:=(cc.1 aa).1
   omega
  ·exact absurd rfl aa
 have sj:∀i,i<n->∃r,t[i]?=some r/\r.length=n/\∀x∈r,0<=x/\x<=1000:=fun i ad=>by
  have km:i<t.length:=by omega
  refine⟨_,bt km,?_,((x0.1 ao).2 _ (List.getElem_mem km)).2⟩
  rw[ao.len _ (List.getElem_mem km),hm]
 have Td:p4 n t:=⟨aE.symm,fun i ad=>let⟨r,aT,aQ,_⟩:=sj i ad;⟨r,aT,aQ⟩⟩
 have zN:∀i k,i<n->k<n->0<=ep t i k/\ep t i k<=1000:=fun i k ad ah=>by
  obtain⟨r,x,aT,aQ,bn,b8,eD,gw,xz⟩:=ao.get (i:=i) (k:=k) (by omega) (by omega)
  rw[eD];exact⟨gw,xz⟩
 apply UQ (by simp)
 simp only[GP]
 refine bU.fv fun ck b7=>?_
 simp
 refine b7 _ _ _ ?_
 clear b7
 refine bU.fv fun ck b7=>?_
 simp
 refine cN (ae:=c7) (xs:=t) (by simpa using ba) (by simp) ?_
 simp only[<-aE]
 simp
 refine b7 _ _ _ ?_
 clear b7
 refine Exists.elim (Lp j2 mD) fun y aL=>Exists.elim aL.2 fun x I=>Exists.elim I.2 fun z aP=>?_
 refine bU.fv fun ck b7=>?_
 simp
 refine cN (ae:=fD) (xs:=a9) (by simpa using i_) (by simp) ?_
 simp[aL.1,I.1,aP.1,aP.2.1]
 refine bG.cE (fun af=>?_) (fun af=>?_)
 ·simp[bj]
  exact aG _ _ ⟨Ext.refl _,false,rfl,⟨fun h=>(by cases h),fun h=>by have:=h.1;omega⟩⟩
 have rZ:a9.length<=l4 n:=by omega
 refine b7 _ _ _ ?_
 clear b7
 refine bU.fv fun ck b7=>?_
 simp
 refine xS (e:=25) (R:=1) (by simp) (by simp) ?_
 simp
 refine b7 _ _ _ ?_
 clear b7
 have fail:∀mh,Ext H mh->(¬rq n (ep t) a9)->Q (.bool false) mh:=fun mh I hH=>aG _ _ ⟨I,false,rfl,⟨fun h=>(by cases h),fun h=>absurd h hH⟩⟩
 refine bU.fv fun ck b7=>?_
 simp
 refine dx.mk (by kernel_rfl) (fun q aA bC H1=>∃i:Nat,q=n-i/\i<=n/\aA 7= .int .i64 (i:Int)/\Ext H H1/\∃us,dR H.length 25 3 1 false IR H1 (aA 6) (t.take i) us) n ⟨0,by omega,by omega,by simp,Ext.refl _,[],?_⟩ ?_
 ·exact⟨P0,by simpa using bz.void _ _ _ _ _ _ _,rfl,fun i row u h=>by simp at h,fun i j b u w h=>by simp at h⟩
 rintro q aA bC H1 ⟨i,rfl,ad,c8,bH,us,gU⟩ K a1
 simp at c8 gU
 have qK:=oN (show i<4611686018427387904 by omega)
 have ha:=Ext.len bH
 simp[c8]
 refine bG.mk (fun a5=>?_) (fun a5=>?_)
 ·simp at a5
  refine Exists.elim (sj i a5) fun row dr=>?_
  have h0:=bJ.ext (ae:=eL) ba bH
  try simp
  refine xS (e:=3) (R:=1) (by simp) (by simp) ?_
  simp[c8]
  refine cI (ae:=c7) (xs:=t) (n:=i) (a:=row) (e:=25) (R:=1) (ay:=false) (by simpa using h0) (by simp[c8]) dr.1 (by simp) (by simp) (by simp) (by decide) ?_
  rintro fQ oK jy
  try simp
  refine AP (k:=H1.length) (e:=3) (R:=1) (ay:=false) (bs:=8) (z:= .int .i64 0) (ae:=IR) (xs:=[]) (bI:=row) (by simpa using bz.void _ _ _ _ _ _ _) (by simpa using jy) (fun u y h=>by rw[show u=_ from h];exact kd y) (fun aC c_ u y ah h=>h) (by simp) (by simp) (by simp) (by simp) (by decide) (by rfl) (by rfl) (by rfl) (by decide) (by simp;omega) (Nat.le_refl _) ?_
  intro rh bP hZ b0 R8
  have iM:=b0 _ (Nat.le_refl _) (Ext.refl _)
  have Ck:bz H1.length 3 1 false IR bP rh row:=by simpa using hZ
  have kl:=gU.ext iM
  have tY:=Ext.len iM
  have ss:=c7.whole Ck.row
  have jz:=gU.len
  simp at jz
  try simp
  refine AT (k:=H.length) (e:=25) (R:=1) (ay:=false) (bs:=24) (z:= .slice none 0 0) (ae:=fM) (xs:=us) (a:=rh) (by simpa using kl.own) (by simp[fM]) (by simpa using ss) (by simp) (fun _ _ _ _ _ h=>h) (by simp) (by simp) (by simp) (by simp) (by simp) (by rfl) (by rfl) (by rfl) (by rfl) (by decide) (by decide) (by decide) (by omega) (by omega) ?_
  intro oD u3 cy g0 cz kn qt r5
  simp at kn qt
  have qG:=dR.snoc (cx:=H1) (nM:=H1.length) kl (fun b aH af=>(Ck.ge af aH).1) (fun j u b hu af aH=>gU.lt j u b hu af aH) (by decide) (Ck.le (by omega)) g0 kn (fun u x h=>h)
  simp[c8,qK]
  refine a1 (n-(i+1)) _ _ _ (by omega) ⟨i+1,rfl,by omega,by simp,cz _ (Nat.le_refl _) (bH.az iM),us++[rh],?_⟩
  rw[List.take_add_one,dr.1]
  simpa using qG
 simp at a5
 obtain rfl:i=n:=by omega
 rw[List.take_of_length_le (by omega)]at gU
 refine b7 _ _ _ ?_
 clear b7
 refine Exists.elim (⟨_,rfl⟩:∃hf,hf=aA 6) fun hf mC=>?_
 rw[<-mC]at gU
 refine bU.fv fun ck b7=>?_
 simp
 refine dx.mk (by kernel_rfl) (fun q bV dz a0=>∃s:Nat,q=a9.length-s/\s<=a9.length/\bV 8= .int .i64 (s:Int)/\Ext H a0/\(∀p∈a9.take s,1<=p.1/\la i p.2)/\∃L,dR H.length 25 3 1 false IR a0 hf L us/\p4 i L/\∀a b,a<i->b<i->ep L a b=ep t a b-gv (a9.take s) a b/\0<=ep L a b) a9.length ⟨0,by omega,by omega,by simp,bH,by simp,t,gU,Td,fun a b aF af=>⟨by simp[gv],(zN a b aF af).1⟩⟩ ?_
 rintro q bV dz a0 ⟨s,rfl,an,dY,bx,jc,L,v5,J_,vT⟩ K a1
 simp at dY
 have su:=oN (show s<4611686018427387904 by omega)
 have Cm:=bJ.ext (ae:=Row _ _ _ fD) i_ bx
 have jZ:=Ext.len bx
 simp[dY]
 refine cN (ae:=fD) (xs:=a9) (by simpa using Cm) (by simp) ?_
 simp[dY]
 refine bG.mk (fun a5=>?_) (fun a5=>?_)
 ·simp at a5
  refine Exists.elim (⟨_,bt a5⟩:∃p,a9[s]?=some p) fun p aR=>?_
  have im:=List.mem_of_getElem? aR
  try simp
  refine bU.join (by kernel_rfl) (fun dQ fr bZ=>a0=bZ/\dQ 62= .bool (!decide (1<=p.1/\p.2.length=i))) ?_ ?_
  ·rintro nW gr-
   simp[dY]
   refine MO (a9:=a9) (n:=s) (a:=p) (by simpa using Cm) (by simp[dY]) aR (by simp) ?_
   intro gL b8
   by_cases o:p.1<1
   ·simp[o]
    exact gr _ _ _ ⟨rfl,by simp;omega⟩
   ·simp[o,dY]
    refine Yy (a9:=a9) (n:=s) (a:=p) (by simp[o]) (by decide) (by decide) (by simpa using Cm) (by simp[dY]) aR (by simp) ?_
    intro iP eD oL qI
    simp[o]
    refine cN (ae:=IR) (xs:=p.2) (by simpa using qI) (by simp) ?_
    simp[o]
    refine gr _ _ _ ⟨rfl,?_⟩
    have:1<=p.1:=by omega
    simp[this]
    omega
  rintro dQ fr bZ ⟨rfl,B3⟩
  simp only[kt]at B3
  simp at B3
  simp[B3]
  refine bG.mk (fun af=>?_) (fun af=>?_)
  ·simp at af
   simp[bj]
   refine fail _ bx fun cQ=>?_
   have:=cQ.2.1 p im
   exact af.elim (fun h=>by omega) fun h=>h this.2.1
  have po:1<=p.1/\p.2.length=i:=by simpa using af
  simp
  refine xU (e:=4) (R:=1) (bs:=1) (ay:=false) (n:=i) (eg:= .i64) (cB:= .i64) (z:= .bool false) (ae:=k3) (a:=false) (by simp) (by simp) (by simp) (by rfl) (by rfl) (by simp) (A6 false) (by simp) (by simp) (by decide) (by decide) (by omega) (fun aC=>rfl) ?_
  intro Ff aai bP hZ b0
  have tY:=Ext.len b0
  simp
  have Rn:∀a b,a<i->b<i->ep L a b=ep t a b-gv (a9.take s) a b-(if a<0 then ku p a b else 0)/\0<=ep L a b:=fun a b aF af=>by
   rw[if_neg (by omega)]
   have:=vT a b aF af
   omega
  refine dx.mk (by kernel_rfl) (fun q fS hl ca=>∃j:Nat,q=i-j/\j<=i/\fS 10= .int .i64 (j:Int)/\Ext H ca/\(∀a,a<j->ya i p.2 a)/\(∃ry,bz a0.length 4 1 false k3 ca (.slice Ff i aai) ry/\ry.length=i/\∀k,k<i->ry[k]?=some (decide ((k:Int)∈p.2.take j)))/\∃L,dR H.length 25 3 1 false IR ca hf L us/\p4 i L/\∀a b,a<i->b<i->ep L a b=ep t a b-gv (a9.take s) a b-(if a<j then ku p a b else 0)/\0<=ep L a b) i ⟨0,by omega,by omega,by simp,bx.az b0,fun a h=>by omega,⟨List.replicate i false,hZ,by simp,fun k ah=>by simp[ah]⟩,L,v5.ext b0,J_,Rn⟩ ?_
  rintro q fS hl ca ⟨j,rfl,aI,hP,c1,cQ,⟨ry,yS,qn,d_⟩,m9,v8,zK,yO⟩ FI nq
  simp at hP
  have mK:=oN (show j<4611686018427387904 by omega)
  have I5:=bJ.ext (ae:=Row _ _ _ fD) i_ c1
  have C8:=Ext.len c1
  simp[hP]
  refine bG.mk (fun lS=>?_) (fun lS=>?_)
  ·simp at lS
   refine Exists.elim (⟨_,bt (by omega)⟩:∃x,p.2[j]?=some x) fun x I=>?_
   try simp[dY,hP]
   refine Yx (a9:=a9) (n:=s) (a:=p) (by simpa using I5) (by simp[dY]) aR (by simp) ?_
   intro nN gw pQ lW
   simp[hP]
   refine cI (ae:=IR) (xs:=p.2) (n:=j) (a:=x) (e:=3) (R:=1) (ay:=false) (by simpa using lW) (by simp[hP]) I (by simp) (by simp) (by simp) (by decide) ?_
   rintro oD Fe rfl
   simp
   have kp:IntKind.i64.wrap ((i:Int)-1)=(i:Int)-1:=cP (by omega) (by omega)
   refine bU.join (by kernel_rfl) (fun m4 oR eG=>ca=eG/\∃bad,m4 103= .bool bad/\(bad=false↔∃k:Nat,k<i/\x=(k:Int)/\(k:Int)∉p.2.take j/\p.1<=ep m9 j k)) ?_ ?_
   ·rintro NJ qi-
    simp[kp]
    refine a4.mk z1 ?_
    rintro _ _ ⟨rfl,rfl⟩
    by_cases eX:0<=x/\x<=(i:Int)-1
    ·refine Exists.elim (⟨x.toNat,by omega⟩:∃k:Nat,x=(k:Int)) fun k ah=>?_
     have eY:k<i:=by omega
     have oi:0<=(k:Int):=by omega
     have oj:(k:Int)<=(i:Int)-1:=by omega
     simp[ah,oi,oj]
     refine mX (ae:=k3) (xs:=ry) (n:=k) (a:=decide ((k:Int)∈p.2.take j)) (e:=4) (R:=1) (ay:=false) (by simp[oi,oj]) (by decide) (by simpa using yS.row) (by simp[ah]) (d_ k eY) (by simp) (by simp) (by simp) (by decide) ?_
     rintro Er M_ rfl
     by_cases ou:(k:Int)∈p.2.take j
     ·simp[oi,oj,ou]
      refine qi _ _ _ ⟨rfl,true,by simp,⟨fun h=>(by cases h),fun h=>?_⟩⟩
      obtain⟨bN,aT,aQ,bn,-⟩:=h
      rw[ah]at aQ
      rw[<-aQ]at bn
      exact absurd ou bn
     ·refine Exists.elim (zK.get (i:=j) (k:=k) lS eY) fun j_ aj=>?_
      refine Exists.elim (v8.oH aj.1) fun u2 hu=>?_
      simp[oi,oj,ou,hP]
      refine mX (ae:=fM) (xs:=us) (n:=j) (a:=u2) (e:=25) (R:=1) (ay:=false) (by simp[oi,oj,ou]) (by decide) (by simpa[<-mC]using v8.own.row) (by simp[hP]) hu.1 (by simp) (by simp) (by simp) (by decide) ?_
      rintro Al re rfl
      simp[oi,oj,ou,ah]
      refine mX (ae:=IR) (xs:=j_) (n:=k) (a:=ep m9 j k) (e:=3) (R:=1) (ay:=false) (by simp[oi,oj,ou]) (by decide) (by simpa using hu.2.row) (by simp[ah]) aj.2.2 (by simp) (by simp) (by simp) (by decide) ?_
      rintro xw M7 rfl
      simp[oi,oj,ou,dY]
      refine Yw (a9:=a9) (n:=s) (a:=p) (by simp[oi,oj,ou]) (by decide) (by decide) (by simpa using I5) (by simp[dY]) aR (by simp) ?_
      intro uE aeR
      simp[oi,oj,ou]
      refine qi _ _ _ ⟨rfl,decide (ep m9 j k<p.1),by simp,?_⟩
      constructor
      ·intro h
       have h:¬ep m9 j k<p.1:=by simpa using h
       exact⟨k,eY,ah,ou,by omega⟩
      ·rintro⟨bN,aT,aQ,bn,b8⟩
       rw[ah]at aQ
       have e:k=bN:=by omega
       subst e
       simp
       omega
    ·simp[eX]
     refine qi _ _ _ ⟨rfl,true,by simp,⟨fun h=>(by cases h),fun h=>?_⟩⟩
     obtain⟨bN,aT,aQ,-⟩:=h
     exact absurd ⟨by omega,by omega⟩ eX
   rintro m4 oR eG ⟨rfl,bad,BZ,jV⟩
   simp only[kt]at BZ
   simp at BZ
   simp[BZ]
   refine bG.mk (fun af=>?_) (fun af=>?_)
   ·simp[bj]
    refine fail _ c1 fun fb=>?_
    obtain⟨k,aT,aQ,bn⟩:=(fb.2.1 p im).2.2 j lS
    rw[I]at aQ
    have bq:=fb.2.2 j k lS aT
    rw[Wf aR]at bq
    have bh:ku p j k=p.1:=by unfold ku;rw[I,if_pos aQ]
    have e1:=(yO j k lS aT).1
    rw[if_neg (by omega)]at e1
    have kg:=Lr (a9:=a9.drop (s+1)) (fun q au=>(fb.2.1 q (List.mem_of_mem_drop au)).1) j k
    have:=jV.2 ⟨k,aT,Option.some.inj aQ,bn,by omega⟩
    rw[af]at this
    cases this
   refine Exists.elim (jV.1 af) fun k ah=>?_
   have eY:=ah.1
   have nG:=ah.2.1
   have hle:=ah.2.2.2
   refine Exists.elim (zK.get (i:=j) (k:=k) lS eY) fun j_ aj=>?_
   refine Exists.elim (v8.oH aj.1) fun u2 hu=>?_
   have Qe:=yO j k lS eY
   have aes:=zN j k lS eY
   have wH:=Lr (a9:=a9.take s) (fun q au=>(jc q au).1) j k
   have Tg:IntKind.i64.wrap (ep m9 j k-p.1)=ep m9 j k-p.1:=cP (by omega) (by rw[if_neg (by omega)]at Qe;omega)
   simp[nG]
   refine iR (k:=a0.length) (e:=4) (R:=1) (ay:=false) (n:=k) (ae:=k3) (xs:=ry) (a:=true) (by simpa using yS) (by simp[nG]) (by rw[qn];exact eY) (by simp[k3]) (by simpa using A6 _) (by simp) (fun aC c_ u y ah h=>h) (by simp) (by simp) (by simp) (by decide) ?_
   rintro Am jj qj iM JH Sb-
   simp at qj JH
   have Kv:=iM _ jZ c1
   have Cv:=v8.other JH (by decide) (by decide) (fun _ _ h=>h)
   have Qz:=bJ.ext (ae:=Row _ _ _ fD) i_ Kv
   refine Exists.elim (Cv.oH aj.1) fun aaj dd=>?_
   simp[hP]
   refine cI (ae:=fM) (xs:=us) (n:=j) (a:=aaj) (e:=25) (R:=1) (ay:=false) (by simpa[<-mC]using Cv.own.row) (by simp[hP]) dd.1 (by simp) (by simp) (by simp) (by decide) ?_
   rintro Ep Fa rfl
   simp
   refine cI (ae:=IR) (xs:=j_) (n:=k) (a:=ep m9 j k) (e:=3) (R:=1) (ay:=false) (by simpa using dd.2.row) (by simp[nG]) aj.2.2 (by simp) (by simp) (by simp) (by decide) ?_
   rintro LH u16 rfl
   simp[dY]
   refine MO (a9:=a9) (n:=s) (a:=p) (by simpa using Qz) (by simp[dY]) aR (by simp) ?_
   intro xx aeS
   simp[Tg]
   refine iR (k:=H.length) (e:=3) (R:=1) (ay:=false) (n:=k) (ae:=IR) (xs:=j_) (a:=ep m9 j k-p.1) (by simpa using dd.2) (by simp[nG]) (by rw[aj.2.1];exact eY) (by simp[IR]) (by simpa using kd _) (by simp) (fun aC c_ u y ah h=>h) (by simp) (by simp) (by simp) (by decide) ?_
   rintro Ws nV yR qM ze ad5-
   simp at yR ze
   simp[hP,mK]
   refine nq (i-(j+1)) _ _ _ (by omega) ⟨j+1,rfl,by omega,by simp,qM _ (Nat.le_refl _) Kv,fun a aF=>?_,⟨ry.set k true,qj.other ze (by decide) (fun _ _ h=>h),by rw[List.length_set];exact qn,fun bN ij=>?_⟩,m9.set j (j_.set k (ep m9 j k-p.1)),Cv.inner dd.1 (by decide) ze yR (fun _ _ h=>h),zK.set (by rw[List.length_set];exact aj.2.1),fun a b aF af=>?_⟩
   ·by_cases y4:a=j
    ·subst y4
     exact⟨k,eY,by rw[I,nG],ah.2.2.1⟩
    ·exact cQ a (by omega)
   ·rw[List.take_add_one,I,nG]
    by_cases JI:k=bN
    ·subst JI
     rw[List.getElem?_set_self (by rw[qn];exact eY)]
     simp
    ·rw[List.getElem?_set_ne JI,d_ bN ij]
     have:¬(bN:Int)=(k:Int):=by omega
     simp[this]
   ·rw[Pw aj.1 (by rw[aj.2.1];exact eY)]
    have vS:=yO a b aF af
    by_cases wh:a=j/\b=k
    ·obtain⟨rfl,rfl⟩:=wh
     rw[if_pos ⟨rfl,rfl⟩,if_pos (by omega)]
     rw[if_neg (by omega)]at vS
     have bh:ku p a b=p.1:=by unfold ku;rw[I,nG,if_pos rfl]
     omega
    ·rw[if_neg wh]
     by_cases y4:a<j
     ·rw[if_pos (by omega)]
      rw[if_pos y4]at vS
      exact vS
     ·rw[if_neg y4]at vS
      by_cases Rc:a=j
      ·subst Rc
       rw[if_pos (by omega)]
       have bh:ku p a b=0:=by
        unfold ku
        rw[I,nG,if_neg (by simp;omega)]
       omega
      ·rw[if_neg (by omega)]
       exact vS
  ·simp at lS
   have e:j=i:=by omega
   have r_:la i p.2:=⟨po.2,fun a aF=>cQ a (by omega)⟩
   simp[dY,su]
   refine a1 (a9.length-(s+1)) _ _ _ (by omega) ⟨s+1,rfl,by omega,by simp,c1,fun q au=>?_,m9,v8,zK,fun a b aF af=>?_⟩
   ·rw[List.take_add_one,aR,List.mem_append]at au
    rcases au with au | au
    ·exact jc q au
    ·simp at au
     subst au
     exact⟨po.1,r_⟩
   ·have:=yO a b aF af
    rw[if_pos (by omega)]at this
    rw[Wg aR]
    omega
 ·simp at a5
  have e:s=a9.length:=by omega
  rw[e,List.take_of_length_le (Nat.le_refl _)]at jc
  have IX:∀a b,a<i->b<i->ep L a b=ep t a b-gv a9 a b/\0<=ep L a b:=fun a b aF af=>by
   have:=vT a b aF af
   rw[e,List.take_of_length_le (Nat.le_refl _)]at this
   exact this
  refine b7 _ _ _ ?_
  clear b7
  have zero:∀a b,a<i->b<i->ep L a b≠0->¬rq i (ep t) a9:=fun a b aF af aH fb=>by
   have o:=(IX a b aF af).1
   have aa:=fb.2.2 a b aF af
   omega
  refine bU.fv fun ck b7=>?_
  simp
  refine dx.mk (by kernel_rfl) (fun q dQ fr bZ=>∃a:Nat,q=i-a/\a<=i/\dQ 12= .int .i64 (a:Int)/\bZ=a0/\∀ek b,ek<a->b<i->ep L ek b=0) i ⟨0,by omega,by omega,by simp,rfl,fun ek b h=>by omega⟩ ?_
  rintro q dQ fr bZ ⟨a,rfl,aF,n6,e1,xa⟩ nW gr
  subst e1
  simp at n6
  have TF:=oN (show a<4611686018427387904 by omega)
  simp[n6]
  refine bG.mk (fun j0=>?_) (fun j0=>?_)
  ·simp at j0
   simp
   refine dx.mk (by kernel_rfl) (fun q cT dJ bP=>∃b:Nat,q=i-b/\b<=i/\cT 13= .int .i64 (b:Int)/\bP=bZ/\∀cb,cb<b->ep L a cb=0) i ⟨0,by omega,by omega,by simp,rfl,fun cb h=>by omega⟩ ?_
   rintro q cT dJ bP ⟨b,rfl,af,ic,kg,z0⟩ sZ jP
   subst kg
   simp at ic
   have TH:=oN (show b<4611686018427387904 by omega)
   simp[ic]
   refine bG.mk (fun jv=>?_) (fun jv=>?_)
   ·simp at jv
    refine Exists.elim (J_.get (i:=a) (k:=b) j0 jv) fun W2 aj=>?_
    refine Exists.elim (v5.oH aj.1) fun Ff hu=>?_
    try simp[n6,ic]
    refine cI (ae:=fM) (xs:=us) (n:=a) (a:=Ff) (e:=25) (R:=1) (ay:=false) (by simpa[<-mC]using v5.own.row) (by simp[n6]) hu.1 (by simp) (by simp) (by simp) (by decide) ?_
    rintro iP oL rfl
    simp[ic]
    refine cI (ae:=IR) (xs:=W2) (n:=b) (a:=ep L a b) (e:=3) (R:=1) (ay:=false) (by simpa using hu.2.row) (by simp[ic]) aj.2.2 (by simp) (by simp) (by simp) (by decide) ?_
    rintro nN pQ rfl
    simp
    refine bG.cE (fun aH=>?_) (fun aH=>?_)
    ·simp[ic,TH]
     refine jP (i-(b+1)) _ _ _ (by omega) ⟨b+1,rfl,by omega,by simp,rfl,fun cb cK=>?_⟩
     by_cases nu:cb=b
     ·subst nu;exact aH
     ·exact z0 cb (by omega)
    ·simp[bj]
     exact fail _ bx (zero a b j0 jv aH)
   ·simp at jv
    simp[n6,TF]
    refine gr (i-(a+1)) _ _ _ (by omega) ⟨a+1,rfl,by omega,by simp,rfl,fun ek cb y3 cK=>?_⟩
    by_cases Rb:ek=a
    ·subst Rb;exact z0 cb (by omega)
    ·exact xa ek cb (by omega) cK
  ·simp at j0
   refine b7 _ _ _ ?_
   simp[bj]
   refine aG _ _ ⟨bx,true,rfl,⟨fun _=>⟨rZ,jc,fun ek cb y3 cK=>?_⟩,fun _=>rfl⟩⟩
   have o:=(IX ek cb y3 cK).1
   have aa:=xa ek cb (by omega) cK
   omega
def q8(n:Nat)(l:List Int):List Int:=(List.range n).map fun j:Nat=>(l.idxOf (j:Int):Int)
theorem hE.uniq{n:Nat}{l:List Int}(h:hE n l){j a b:Nat}(aI:j<n)(aF:l[a]?=some (j:Int))(af:l[b]?=some (j:Int)):a=b:=by
 obtain⟨k,-,-,hu⟩:=h.at aI
 rw[hu a aF,hu b af]
theorem xR{n:Nat}{l:List Int}(h:hE n l){j k:Nat}(aI:j<n):(q8 n l)[j]?=some (k:Int)↔l[k]?=some (j:Int):=by
 unfold q8
 rw[List.getElem?_map,List.getElem?_range aI]
 obtain⟨iN,-,om,-⟩:=h.at aI
 have a5:l.idxOf (j:Int)<l.length:=List.idxOf_lt_length_of_mem (List.mem_of_getElem? om)
 have e:l[l.idxOf (j:Int)]?=some (j:Int):=by rw[bt a5,List.getElem_idxOf]
 simp only[Option.map_some,Option.some.injEq]
 constructor
 ·intro b5
  have:l.idxOf (j:Int)=k:=by omega
  rw[<-this];exact e
 ·intro b5
  rw[h.uniq aI b5 e]
theorem X9{n:Nat}{l:List Int}(h:hE n l):la n (q8 n l):=by
 refine⟨by simp[q8],fun j aI=>?_⟩
 obtain⟨k,ah,iK,-⟩:=h.at aI
 refine⟨k,ah,(xR h aI).2 iK,fun hm=>?_⟩
 obtain⟨dp,ju⟩:=List.mem_iff_getElem?.1 hm
 have a5:dp<j:=by
  have:=(cc.1 ju).1
  rw[List.length_take]at this
  omega
 rw[List.getElem?_take_of_lt a5]at ju
 have:=(xR h (by omega)).1 ju
 rw[iK]at this
 have:=Option.some.inj this
 omega
def s6(n:Nat)(l:List Int)(m:Nat)(et:List Int):Prop:=et.length=n/\∀k j:Nat,k<m->j<n->l[k]?=some (j:Int)->et[j]?=some (k:Int)
theorem s6.next{n m j:Nat}{l et:List Int}(aR:hE n l)(h:s6 n l m et)(aI:j<n)(I:l[m]?=some (j:Int)):s6 n l (m+1) (et.set j (m:Int)):=by
 refine⟨by rw[List.length_set];exact h.1,fun k dp ah ju iK=>?_⟩
 by_cases e:dp=j
 ·subst e
  rw[aR.uniq aI iK I]
  exact List.getElem?_set_self (by rw[h.1];exact aI)
 ·rw[List.getElem?_set_ne (Ne.symm e)]
  refine h.2 k dp ?_ ju iK
  have:k≠m:=fun ik=>by
   subst ik
   rw[I]at iK
   have:=Option.some.inj iK
   omega
  omega
theorem s6.all{n:Nat}{l et:List Int}(aR:hE n l)(h:s6 n l n et):et=q8 n l:=by
 refine List.ext_getElem? fun j=>?_
 by_cases aI:j<n
 ·obtain⟨k,ah,iK,-⟩:=aR.at aI
  rw[h.2 k j ah aI iK,(xR aR aI).2 iK]
 ·rw[List.getElem?_eq_none (by rw[h.1];omega),List.getElem?_eq_none (by simp[q8];omega)]
def p_(n:Nat)(p:Rat×List Int):Int×List Int:=(p.1.num,q8 n p.2)
theorem Oo{n:Nat}{aU:List (Rat×List Int)}(h:∀p∈aU,hE n p.2/\p.1=((p.1.num:Int):Rat)){i k:Nat}(ad:i<n)(ah:k<n):((gv (aU.map (p_ n)) i k:Int):Rat)=gk aU i k:=by
 induction aU with
 | nil=>rfl
 | cons p aU aW=>
  have o:=aW fun q au=>h q (by simp[au])
  obtain⟨aa,aD⟩:=h p (by simp)
  have e:gv ((p::aU).map (p_ n)) i k=ku (p_ n p) i k+gv (aU.map (p_ n)) i k:=rfl
  rw[e,Rat.intCast_add,o]
  have bh:gk (p::aU) i k=gj p i k+gk aU i k:=rfl
  rw[bh]
  congr 1
  unfold ku gj
  show(((if(q8 n p.2)[i]?=some (k:Int)then p.1.num else 0:Int)):Rat)=_
  by_cases au:p.2[k]?=some (i:Int)
  ·rw[if_pos au,if_pos ((xR aa ad).2 au)]
   exact aD.symm
  ·rw[if_neg au,if_neg fun b5=>au ((xR aa ad).1 b5)]
   rfl
theorem VQ{t:List (List Int)}{n:Nat}(aE:n=t.length)(cg:oT t):eU n n (cd t)/\jJ n (bM (cd t)) ((((t[0]?.getD []).sum:Int)):Rat):=by
 obtain⟨ao,o,aa⟩:=cg
 have hm:(t[0]?.getD []).length=n:=by rw[aE];exact o.symm
 have aJ:eU n n (cd t):=xA aE.symm fun r aj=>by rw[ao.len r aj];exact hm
 have an:=ao.small
 refine⟨aJ,fun i k _ _=>an.h3 i k,fun i ad=>?_,fun k ah=>?_⟩
 ·rw[<-xD aJ ad,q2,(aa i (by omega)).1]
 ·have:=(aa k (by omega)).2
  rw[<-aE]at this
  rw[<-this,<-q2,<-As,xD aJ.fw ah]
  exact fK fun i ad=>(tj aJ ad ah).symm
theorem XD{v:Value}{t:List (List Int)}{H:ab}(ba:eL H v t)(ar:t.length<65536)(aj:∀r∈t,r.length<65536):
  aZ prog 12 [v] H (fun u H1=>Ext H H1/\(¬oT t->u= .tuple #[.slice none 0 0,.int .i64 1])/\(oT t->∃w a9,u= .tuple #[w,.int .i64 0]/\Row 27 2 true fD H1 w a9/\rq t.length (ep t) a9/\∀p∈a9,p.1<=1000000000)):=by
 refine aZ.cr fun Q aG=>?_
 apply UZ (by simp)
 simp only[GX]
 refine bU.fv fun ck b7=>?_
 simp
 refine b7 _ _ _ ?_
 clear b7
 refine bU.fv fun ck b7=>?_
 simp
 refine a4.mk (K0 ba ar aj) ?_
 rintro _ H1 ⟨bH,gC,rfl,kR⟩
 simp
 refine bG.mk (fun af=>?good) (fun af=>?bad)
 case bad=>
  simp[bj]
  exact aG _ _ ⟨bH,fun _=>rfl,fun h=>by rw[kR.2 h]at af;cases af⟩
 have cg:=kR.1 af
 have ao:=cg.1
 have an:=ao.small
 refine Exists.elim (⟨_,rfl⟩:∃n,n=t.length) fun n aE=>?_
 have j2:0<n:=by have:=ao.1;omega
 have mD:n<=8:=by have:=ao.2.1;omega
 have mC:=VQ aE cg
 have aJ:=mC.1
 have Da:=mC.2
 have h0:=bJ.ext (ae:=eL) ba bH
 refine b7 _ _ _ ?_
 clear b7
 refine bU.fv fun ck b7=>?_
 simp
 refine b7 _ _ _ ?_
 clear b7
 have eP:(t[0]?.getD []).sum.natAbs<=1000000000:=by
  have aH:=bt (show 0<t.length by omega)
  rw[aH]
  have:=an _ (List.getElem_mem (show 0<t.length by omega))
  have:=iU.sum this.1 this.2
  show(t[0].sum).natAbs<=_
  omega
 refine bU.fv fun ck b7=>?_
 simp
 refine a4.mk (uK h0 (by omega) aj fun r h x I=>by have:=(an r h).2 x I;omega) ?_
 rintro _ a0 ⟨bx,vq,vy,rfl,kP⟩
 simp
 refine a4.mk (HY (n:=n) (N:=64) (D:=1) kP aJ j2 (by omega) Da (L2 t) (k6.int (by omega) (by decide) (by decide))) ?_
 rintro wp bZ ⟨bL,aU,kU,zt,oq⟩
 have rZ:aU.length<=l4 n:=kU.Ln
 have V1:l4 n<=50:=by
  unfold l4
  have:(n-1)*(n-1)<=7*7:=Nat.mul_le_mul (by omega) (by omega)
  omega
 have ht:=An fun p aR=>(kU.parts p aR).1
 have hint:∀p∈aU,p.1=((p.1.num:Int):Rat)/\1<=p.1.num/\p.1.num<=1000000000:=fun p aR=>by
  obtain⟨z,aP⟩:=zt p aR
  have e:p.1=(z:Rat):=by
   rw[<-aP]
   have:((1:Nat):Rat)=1:=rfl
   rw[this,Rat.mul_one]
  have bh:p.1.num=z:=by rw[e,Rat.num_intCast]
  rw[bh]
  refine⟨e,?_,?_⟩
  ·have:=(kU.parts p aR).1
   rw[e]at this
   have:0<z:=by exact_mod_cast this
   omega
  ·have:=ht.2 p aR
   rw[kU.len,e]at this
   have:z<=(t[0]?.getD []).sum:=by exact_mod_cast this
   omega
 try simp
 refine cN (ae:=iC) (xs:=aU) (by simpa using oq) (by simp) ?_
 simp
 have hS:=bx.az bL
 refine dx.range (by kernel_rfl) aU.length (by omega) (by simp) (by rfl) (by simp) (by decide) (by decide) (fun s cT dJ bP=>Ext bZ bP/\bz bZ.length 27 2 true fD bP (cT 4) ((aU.take s).map (p_ n))) ?_ ?_ ?_
 ·exact⟨Ext.refl _,by simpa using bz.nil _ _ _ _ _ _⟩
 ·rintro s cT dJ bP S6 g9 ⟨b0,hZ⟩ K a1
  simp at g9 hZ
  refine Exists.elim (⟨_,bt S6⟩:∃p,aU[s]?=some p) fun p aR=>?_
  have im:=List.mem_of_getElem? aR
  have j3:=(kU.parts p im).2
  have aeo:=hint p im
  simp[g9]
  refine ML (xs:=aU) (n:=s) (a:=p) (by simpa using bJ.ext (ae:=Row _ _ _ iC) oq b0) (by simp[g9]) aR (by simp) ?_
  intro iP s1 b4 du cJ s2 dq dE db e9 e_ SX R1
  try simp
  have gV:=Ext.dead bP
  refine a4.mk (En (SX.ext gV)) ?_
  rintro agM dU ⟨cD,TS⟩
  simp
  refine a4.mk (EO TS (by omega)) ?_
  rintro _ cy ⟨cz,rfl⟩
  have kq:=gV.az (cD.az cz)
  have ad7:=Ext.len kq
  have ad6:=Ext.len b0
  simp
  refine cN (ae:=c7) (xs:=t) (by simpa using bJ.ext (ae:=eL) h0 (hS.az (b0.az kq))) (by simp) ?_
  simp only[<-aE]
  try simp
  refine xU (e:=3) (R:=1) (bs:=8) (ay:=false) (n:=n) (eg:= .i64) (cB:= .i64) (z:= .int .i64 0) (ae:=IR) (a:=0) (by simp) (by simp) (by simp) (by rfl) (by rfl) (by simp) (kd 0) (by simp) (by simp) (by decide) (by decide) (by omega) (fun aC=>rfl) ?_
  intro sH sI eG e2 dh
  have DW:=Ext.dead eG
  have JE:=bJ.ext (ae:=c7) R1 kq
  have g0:=bJ.ext (ae:=bz _ _ _ _ fD) hZ kq
  have jd:=j3.len
  simp
  refine cN (ae:=IR) (xs:=p.2) (by simpa using bJ.ext (ae:=c7) JE (dh.az DW)) (by simp) ?_
  simp only[jd]
  simp
  refine dx.range (by kernel_rfl) n (by omega) (by simp) (by rfl) (by simp) (by decide) (by decide) (fun m m5 m6 eE=>Ext cy eE/\∃et,s6 n p.2 m et/\bz cy.length 3 1 false IR eE (.slice sH n sI) et) ?_ ?_ ?_
  ·exact⟨dh.az DW,List.replicate n 0,⟨by simp,fun k j ah=>by omega⟩,bJ.ext (ae:=bz _ _ _ _ IR) e2 DW⟩
  ·rintro m m5 m6 eE Sr iY ⟨dj,et,jO,jS⟩ NK Cc
   simp at iY
   refine Exists.elim (j3.dB m Sr) fun j aI=>?_
   simp[iY]
   refine cI (ae:=IR) (xs:=p.2) (n:=m) (a:=(j:Int)) (e:=3) (R:=1) (ay:=false) (by simpa[jd]using bJ.ext (ae:=c7) JE dj) (by simp[iY]) aI.2 (by simp) (by simp) (by simp) (by decide) ?_
   rintro xv E8 rfl
   simp[iY]
   refine iR (k:=cy.length) (e:=3) (R:=1) (ay:=false) (n:=j) (ae:=IR) (xs:=et) (a:=(m:Int)) (by simpa using jS) (by simp) (by rw[jO.1];exact aI.1) (by simp[iY,IR]) (by simpa[iY]using kd _) (by simp) (fun aC c_ u y ah h=>h) (by simp) (by simp) (by simp) (by decide) ?_
   rintro Al hM tx fB ad3 Sa-
   simp at tx
   try simp
   exact Cc _ _ _ (by simp[iY]) ⟨fB _ (Nat.le_refl _) dj,_,jO.next j3 aI.1 aI.2,tx⟩
  ·rintro m5 m6 eE iY ⟨dj,et,jO,jS⟩
   rw[jO.all j3]at jS
   have iq:fD eE (.agg #[.int .i64 p.1.num,.slice sH n sI]) (p_ n p):=⟨_,_,_,rfl,jS.row⟩
   have Qr:=bJ.ext (ae:=bz _ _ _ _ fD) g0 dj
   have aea:=Ext.len dj
   simp
   refine ra (k:=bZ.length) (e:=27) (R:=2) (ay:=true) (bs:=32) (z:= .agg #[.int .i64 0,.slice none 0 0]) (ae:=fD) (xs:=(aU.take s).map (p_ n)) (a:=p_ n p) (by simpa using Qr) (by simpa using iq) (by simpa using iq.iB) (by simp) (fun aC c_ u y ah h=>h.kept ah (by decide)) (by simp) (by simp) (by simp) (by simp) (by simp) (by rfl) (by rfl) (by first | rfl | simp[flat,gD]) (by rfl) (by decide) (by decide) (by decide) (by simp;omega) (by omega) ?_
   intro xw aam hW oa hc R7
   try simp
   refine a1 _ _ _ (by simp[g9]) ⟨hc _ (Nat.le_refl _) (b0.az (kq.az dj)),?_⟩
   rw[List.take_add_one,aR,List.map_append]
   simpa using oa
 ·rintro cT dJ bP g9 ⟨b0,hZ⟩
  rw[List.take_of_length_le (Nat.le_refl _)]at hZ
  refine b7 _ _ _ ?_
  simp[bj]
  refine aG _ _ ⟨bH.az (hS.az b0),fun h=>absurd cg h,fun _=>⟨_,_,rfl,hZ.row,?_,?_⟩⟩
  ·rw[<-aE]
   refine⟨by rw[List.length_map];exact rZ,fun q au=>?_,fun i k ad ah=>?_⟩
   ·rw[List.mem_map]at au
    obtain⟨p,aR,rfl⟩:=au
    exact⟨(hint p aR).2.1,X9 (kU.parts p aR).2⟩
   ·have o:=Oo (n:=n) (aU:=aU) (fun p aR=>⟨(kU.parts p aR).2,(hint p aR).1⟩) ad ah
    rw[kU.sum i k ad ah,q1]at o
    exact Rat.intCast_inj.1 o
  ·intro q au
   rw[List.mem_map]at au
   obtain⟨p,aR,rfl⟩:=au
   exact(hint p aR).2.2
theorem Mr{v:Value}{t:List (List Int)}{H:ab}(ba:eL H v t)(ao:fT t):
  aZ prog 9 [v] H (fun u H1=>Ext H H1/\∃b,u= .bool b/\(b=true↔oT t)):=by
 refine aZ.cr fun Q aG=>?_
 obtain⟨m,hm⟩:∃m,m=(t[0]?.getD []).length:=⟨_,rfl⟩
 obtain⟨n,aE⟩:∃n,n=t.length:=⟨_,rfl⟩
 have j2:1<=n:=by rw[aE];exact ao.1
 have mD:n<=8:=by rw[aE];exact ao.2.1
 obtain⟨A,bQ⟩:∃A,A=t.map List.sum:=⟨_,rfl⟩
 obtain⟨B,bR⟩:∃B,B=(ef m t).map List.sum:=⟨_,rfl⟩
 have IH:A.length=n:=by rw[bQ,List.length_map,aE]
 have yK:B.length=m:=by rw[bR,List.length_map,MJ]
 have B6:∀i,i<n->A[i]?=some ((t[i]?.getD []).sum):=fun i ad=>by
  rw[bQ,List.getElem?_map,bt (show i<t.length by omega)];rfl
 have PX:∀i,i<m->B[i]?=some (((ef m t)[i]?.getD []).sum):=fun i ad=>by
  rw[bR,List.getElem?_map,bt (show i<(ef m t).length by rw[MJ];exact ad)];rfl
 apply UR (by simp)
 simp only[GQ]
 refine bU.fv fun ck b7=>?_
 simp
 refine b7 _ _ _ ?_
 clear b7
 refine bU.fv fun ck b7=>?_
 simp
 refine a4.mk (VT hm ba ao) ?_
 rw[<-bQ,<-bR]
 rintro _ H1 ⟨bH,a,b,rfl,aF,af⟩
 simp
 refine b7 _ _ _ ?_
 clear b7
 refine bU.fv fun ck b7=>?_
 simp
 refine cN (ae:=IR) (xs:=A) (by simpa using aF) (by simp) ?_
 simp
 refine cN (ae:=IR) (xs:=B) (by simpa using af) (by simp) ?_
 simp only[IH,yK]
 simp
 refine bG.cE (fun au=>?good) (fun au=>?bad)
 case bad=>
  simp[bj]
  refine aG _ _ ⟨bH,false,rfl,⟨fun h=>(by cases h),fun h=>?_⟩⟩
  have:=h.2.1
  omega
 have uc:n=m:=by omega
 refine b7 _ _ _ ?_
 clear b7
 refine bU.fv fun ck b7=>?_
 simp
 refine dx.mk (by kernel_rfl) (fun q bV dz a0=>∃i:Nat,q=n-i/\i<=n/\bV 5= .int .i64 (i:Int)/\H1=a0/\∀a,a<i->(t[a]?.getD []).sum=(t[0]?.getD []).sum/\((ef m t)[a]?.getD []).sum=(t[0]?.getD []).sum) n ⟨0,by omega,by omega,by simp,rfl,fun a h=>by omega⟩ ?_
 rintro q bV dz a0 ⟨i,rfl,ad,b2,rfl,cQ⟩ K a1
 simp at b2
 have qK:=oN (show i<4611686018427387904 by omega)
 simp[b2]
 refine cN (ae:=IR) (xs:=A) (by simpa using aF) (by simp) ?_
 simp only[IH]
 simp[b2]
 refine bG.mk (fun zm=>?_) (fun zm=>?_)
 ·simp at zm
  try simp only[k1]
  refine bU.join (by kernel_rfl) (fun dQ fr bZ=>H1=bZ/\∃bad,dQ 39= .bool bad/\(bad=false↔(t[i]?.getD []).sum=(t[0]?.getD []).sum/\((ef m t)[i]?.getD []).sum=(t[0]?.getD []).sum)) ?_ ?_
  ·rintro nW gr-
   simp[b2]
   refine cI (ae:=IR) (xs:=A) (n:=i) (a:=(t[i]?.getD []).sum) (e:=3) (R:=1) (ay:=false) (by simpa using aF) (by simp[b2]) (B6 i zm) (by simp) (by simp) (by simp) (by decide) ?_
   rintro gL M9 rfl
   simp
   refine cI (ae:=IR) (xs:=A) (n:=0) (a:=(t[0]?.getD []).sum) (e:=3) (R:=1) (ay:=false) (by simpa using aF) (by simp) (B6 0 j2) (by simp) (by simp) (by simp) (by decide) ?_
   rintro iP oL rfl
   refine Exists.elim (⟨_,rfl⟩:∃x,x=(t[i]?.getD []).sum) fun x I=>?_
   refine Exists.elim (⟨_,rfl⟩:∃y,y=(t[0]?.getD []).sum) fun y aL=>?_
   simp only[<-I,<-aL]
   by_cases nI:x=y
   ·simp[nI,b2]
    refine mX (ae:=IR) (xs:=B) (n:=i) (a:=((ef m t)[i]?.getD []).sum) (e:=3) (R:=1) (ay:=false) (by simp[nI]) (by decide) (by simpa using af) (by simp[b2]) (PX i (by omega)) (by simp) (by simp) (by simp) (by decide) ?_
    rintro nN pQ rfl
    simp[nI]
    refine mX (ae:=IR) (xs:=A) (n:=0) (a:=(t[0]?.getD []).sum) (e:=3) (R:=1) (ay:=false) (by simp[nI]) (by decide) (by simpa using aF) (by simp) (B6 0 j2) (by simp) (by simp) (by simp) (by decide) ?_
    rintro oD Fe rfl
    simp only[<-aL]
    refine Exists.elim (⟨_,rfl⟩:∃z,z=((ef m t)[i]?.getD []).sum) fun z aP=>?_
    simp only[<-aP]
    simp[nI]
    exact gr _ _ _ ⟨rfl,decide (z≠y),by simp,by rw[<-I,<-aP,<-aL];simp[nI]⟩
   ·simp[nI]
    exact gr _ _ _ ⟨rfl,true,by simp,by rw[<-I,<-aL];simp[nI]⟩
  rintro dQ fr bZ ⟨rfl,bad,B2,jV⟩
  simp only[kt]at B2
  simp at B2
  simp[B2]
  refine bG.mk (fun pa=>?_) (fun pa=>?_)
  ·simp[bj]
   refine aG _ _ ⟨bH,false,rfl,⟨fun h=>(by cases h),fun h=>?_⟩⟩
   have o:=h.2.2 i (by omega)
   rw[<-aE,uc]at o
   have:=jV.2 o
   rw[pa]at this
   cases this
  ·have o:=jV.1 pa
   simp[b2,qK]
   refine a1 (n-(i+1)) _ _ _ (by omega) ⟨i+1,rfl,by omega,by simp,rfl,fun a y3=>?_⟩
   by_cases jU:a=i
   ·subst jU;exact o
   ·exact cQ a (by omega)
 ·simp at zm
  refine b7 _ _ _ ?_
  simp[bj]
  refine aG _ _ ⟨bH,true,rfl,⟨fun _=>⟨ao,by omega,fun a y3=>?_⟩,fun _=>rfl⟩⟩
  rw[<-aE,uc]
  exact cQ a (by omega)
end Go.b_
end
section
set_option maxRecDepth 8000
set_option maxHeartbeats 1000000
namespace Go.b_
open Go.Proofs
open Go.Proofs.Try (prog)
open Go.RowKit
attribute [-simp] fL gO hK
theorem Lf{n:Nat}{A:Nat->Nat->Int}{a9:List (Int×List Int)}(mD:n<=8)(h:rq n A a9):a9.length<65536:=by
 have:=h.1
 unfold l4 at this
 have aa:(n-1)*(n-1)<=7*7:=Nat.mul_le_mul (by omega) (by omega)
 omega
theorem XE{v:Value}{x:List (List Int)}{H:ab}(dc:eL H v x):
  aZ prog 4 [v] H (fun u H1=>Ext H H1/\u= .bool true):=by
 refine aZ.cr fun Q aG=>?_
 obtain⟨t,bu⟩:∃t,t=tg x:=⟨_,rfl⟩
 have mH:=(HT x).1
 have sj:=(HT x).2
 rw[<-bu]at mH sj
 have ff:t.length<65536/\∀r∈t,r.length<65536:=⟨by omega,fun r aj=>by have:=sj r aj;omega⟩
 apply Uc (by simp)
 simp only[Gt]
 refine bU.fv fun ck b7=>?_
 simp
 refine b7 _ _ _ ?_
 clear b7
 refine bU.fv fun ck b7=>?_
 simp
 refine a4.mk (X4 dc) ?_
 simp only[<-bu]
 rintro a7 H1 ⟨bH,h0⟩
 simp
 refine b7 _ _ _ ?_
 clear b7
 refine bU.fv fun ck b7=>?_
 simp
 refine a4.mk (XD h0 ff.1 ff.2) ?_
 rintro k2 a0 ⟨bx,pn,jZ⟩
 have mv:=bJ.ext (ae:=eL) h0 bx
 by_cases cg:oT t
 ·have mD:t.length<=8:=cg.1.2.1
  refine Exists.elim (jZ cg) fun h6 h=>Exists.elim h fun a9 h=>?_
  have bh:=h.1
  subst bh
  have iq:=h.2.1
  have fb:=h.2.2.1
  have Qn:=h.2.2.2
  simp
  refine b7 _ _ _ ?_
  clear b7
  refine bU.fv fun ck b7=>?_
  simp
  refine a4.mk (Lg mv ff.1 ff.2 iq (fun q au=>⟨by have:=(fb.2.1 q au).1;omega,by have:=Qn q au;omega⟩) (fun q au=>by rw[(fb.2.1 q au).2.1];omega) (Lf mD fb)) ?_
  rintro oK bZ ⟨bL,-,jy⟩
  refine Exists.elim (jy cg) fun s8 pa=>?_
  have e1:=pa.1
  subst e1
  have Ri:=pa.2.2 fb
  subst Ri
  have iI:=bJ.ext (ae:=eL) mv bL
  have S9:=bJ.ext (ae:=Row _ _ _ fD) iq bL
  simp
  refine b7 _ _ _ ?_
  clear b7
  refine bU.fv fun ck b7=>?_
  simp only[k1]
  refine bU.join (by kernel_rfl) (fun cT dJ bP=>Ext bZ bP/\cT 28= .bool false) ?_ ?_
  ·rintro cU ed-
   simp
   refine a4.mk (MB iI (by omega) fun r aj=>by have:=sj r aj;omega) ?_
   rintro _ _ ⟨rfl,rfl⟩
   simp[cg.1]
   refine a4.mk (Mr iI cg.1) ?_
   rintro _ bP ⟨b0,s9,rfl,CH⟩
   have CI:=CH.2 cg
   subst CI
   simp
   exact ed _ _ _ ⟨b0,by simp⟩
  rintro cT dJ bP ⟨b0,n7⟩
  simp only[kt]at n7
  simp at n7
  simp[n7]
  refine b7 _ _ _ ?_
  clear b7
  simp[u0]
  refine a4.mk (V7 (bJ.ext (ae:=eL) iI b0) cg (bJ.ext (ae:=Row _ _ _ fD) S9 b0) (Lf mD fb)) ?_
  rintro _ ca ⟨c1,acx,rfl,Rj⟩
  have Rk:=Rj.2 fb
  subst Rk
  simp
  refine a4.mk K4 ?_
  rintro _ dU ⟨cD,rfl⟩
  simp[bj]
  exact aG _ _ ⟨bH.az (bx.az (bL.az (b0.az (c1.az cD)))),rfl⟩
 ·have bh:=pn cg
  subst bh
  simp
  refine b7 _ _ _ ?_
  clear b7
  refine bU.fv fun ck b7=>?_
  simp
  refine a4.mk (Lg (a9:=[]) mv ff.1 ff.2 (Row.nil _ _ _ _ _) (by simp) (by simp) (by simp)) ?_
  rintro oK bZ ⟨bL,jy,-⟩
  have e1:=jy cg
  subst e1
  have iI:=bJ.ext (ae:=eL) mv bL
  simp
  refine b7 _ _ _ ?_
  clear b7
  refine bU.fv fun ck b7=>?_
  simp only[k1]
  refine bU.join (by kernel_rfl) (fun cT dJ bP=>Ext bZ bP/\cT 28= .bool true) ?_ ?_
  ·rintro cU ed-
   simp
   refine a4.mk (MB iI (by omega) fun r aj=>by have:=sj r aj;omega) ?_
   rintro _ _ ⟨rfl,rfl⟩
   by_cases ao:fT t
   ·simp[ao]
    refine a4.mk (Mr iI ao) ?_
    rintro _ bP ⟨b0,s9,rfl,CH⟩
    have CI:s9=false:=by
     cases s9 with
     | false=>rfl
     | true=>exact absurd (CH.1 rfl) cg
    subst CI
    simp
    exact ed _ _ _ ⟨b0,by simp⟩
   ·simp[ao]
    exact ed _ _ _ ⟨Ext.refl _,by simp⟩
  rintro cT dJ bP ⟨b0,n7⟩
  simp only[kt]at n7
  simp at n7
  simp[n7,u0]
  refine cN (ae:=fD) (xs:=[]) (by simpa using Row.nil 27 2 true fD _) (by simp) ?_
  simp
  refine a4.mk K4 ?_
  rintro _ dU ⟨cD,rfl⟩
  simp[bj]
  exact aG _ _ ⟨bH.az (bx.az (bL.az (b0.az cD))),rfl⟩
def NI(H:ab)(v:Value)(z:Int):Prop:=v= .int .i64 z/\ -9223372036854775808<=z/\z<9223372036854775808
instance:k_ NI:=⟨fun h=>h⟩
def NR(H:ab)(v:Value)(p:Int×List Int):Prop:=fD H v p/\ -9223372036854775808<=p.1/\p.1<9223372036854775808
instance:k_ NR:=⟨fun⟨⟨a,n,c,h,o⟩,af⟩=>⟨⟨a,n,c,h,k_.app o⟩,af⟩⟩
theorem XF{w:World}{H:Type}{enc:TypeId×Value->H}{x:Value}(aH:ru H enc w 22 [x]):
  Calls prog 4 #[x] w fun e gm=>e= .returned (.bool true)/\Below w.heap.size w gm:=by
 obtain⟨bo,Bg,uO,a,dF,hI,fQ,gL⟩:=jh.gN _ aH _ _ m_.start
 obtain⟨v0,rfl⟩:=fQ.single
 change eL _ v0 a at gL
 obtain⟨yi,vu,rfl⟩:=Row.len gL
 exact aaw dF fQ (by kernel_rfl) (XE gL)
end Go.b_
end
section
namespace Go.Proofs.Ytoiodfcefbapkaa.shopShares
open Go.ChangeShapes Go.WideShapes Go.ChangeAt Go.RowKit
theorem own:ownKnob Try.prog.godebug=none:=by kernel_rfl
theorem laidOut:laidOutB Try.prog=true:=by kernel_rfl
set_option maxRecDepth 100000 in
theorem lifted(os:Os)(started:os.Started)(H:Type)(enc:TypeId×Value->H):
  ReturnsInHanded {} Try.checked os 4 .any (Rows.shopSharesSpec.pre6 enc Try.prog Try.f4 Rows.shopSharesRow.domain false) (Rows.shopSharesSpec.post enc Try.prog Try.f4 false true false false):=by
 refine returnsInHanded_of_change (C:=Try.checked) own started (by kernel_rfl) Try.func4
  (ChangeSpec.witness6 (enc:=enc) (C:=Try.checked) false ⟨#[], #[.slice none 0 0],[]⟩ 8 (by kernel_rfl) (by kernel_rfl) (by kernel_rfl) (by kernel_rfl)) ?_
 intro W base args fE gs before Km tH adU _
 have g4:∀(j:Nat) t v,Try.f4.params[j]?=some t->args[j]?=some v->Value.okWide Try.prog W .any base t v:=Km
 have Q3:=tH
 obtain⟨p,q,vI,oc,rfl,Jq,ub⟩:=tH
 have bQ:DataW.TrodAll enc Try.prog W 0 (fun _=>true) true Try.f4.params.toList args.toList fE p:=vI
 rw[Try.params4]at bQ g4
 obtain⟨v0,agF,d0,adz,Eo,Ex,adO,rfl,rfl,aH,eb⟩:=trodAll_cons bQ
 obtain⟨rfl,rfl,rfl⟩:=trodAll_nil eb
 obtain rfl:args= #[v0]:=by cases args;simp_all
 obtain⟨rfl,rfl⟩:=trodVars_none oc
 obtain⟨yi,z8,acQ,rfl⟩:=okWide_slice Try.underlying22 (g4 0 22 v0 rfl rfl)
 have iN:=aH
 have VU:∀x∈Eo,x.block<W.heap.size:=by obtain⟨m,hm⟩:=iN;exact DataW.trod_lt m _ _ _ hm
 obtain⟨PJ,ib⟩:=aH
 simp only[Value.cells]at ib
 clear vI Km
 refine(b_.XF (H:=H) (enc:=enc) ⟨PJ,_,ib⟩).mono fun e ab9 ⟨he,Ht⟩=>?_
 subst he
 exact⟨_,rfl,_,_,_,[],_,[],Q3,trodAll_mk1 (shut_bool Try.underlying4 _),(trodAll_cons_mk (Below.trod laidOut (by kernel_rfl) (of_decide_eq_true (by kernel_rfl)) iN Ht VU) trodAll_mk0),rfl,Ht.frame _,fun h=>by cases h⟩
theorem over:Rows.shopSharesRow.holds Try.pinned (OpenSpec.ofChange Rows.shopSharesSpec):=
 OpenClaim.holds_of_wide 4 Try.f4 rfl rfl rfl rfl rfl rfl rfl ⟨rfl,rfl,rfl,rfl,rfl⟩ rfl rfl rfl rfl rfl (by kernel_rfl) Try.func4 (by kernel_rfl)
  (of_decide_eq_true (by kernel_rfl)) (by unfold Func.isWrapper;first | (rw[if_pos (by decide+kernel)];kernel_rfl) | (rw[if_neg (by decide+kernel)];exact⟨rfl,rfl⟩))
  (fun os started H enc _=>lifted os started H enc)
theorem proved:Rows.ShopSharesSaid:=over
end Go.Proofs.Ytoiodfcefbapkaa.shopShares
end
