/- ShopMakes returns true for every input and leaves it as it was: no condition. -/
import Derived.Test.YtoiodfcefbapkaaShopMakesI
set_option linter.unusedVariables false
set_option linter.unusedSimpArgs false
section
set_option maxRecDepth 8000
set_option maxHeartbeats 1000000
namespace Go.b9
open Go.Proofs
open Go.Proofs.Try (prog)
attribute [-simp] fJ gN hI
section
variable {P:Program} {r:List br} {F:Fr} {H:ab} {Q:Fr->ab->Prop} {α:Type}
theorem Ye{ek:Bool}{d t e J bs n:Nat}{ay:Bool}{x y:Operand}{eo cB:IntKind}{z:Value}{af:ab->Value->α->Prop}{a:α}{aw:a_ ((⟨ek,none,some d,.makeSlice t x y⟩:br)::r) Q}(hu:P.underlying t=some (.slice e))(an:bn P e=some J)(ae:bytes? P e=some bs)(aP:dv P e=some z)(dt:flat z=true)
  (dM:c_ P e=some ay)(hw:Whole P e z)(I:aq F x= .int eo (n:Int))(aJ:aq F y= .int cB (n:Int))(c0:0<J)(dH:0<bs)(bq:bs*n<=281474976710656)(bl:∀aC,af aC z a)
  (K:∀v aC,bz H.length e J ay af aC v (List.replicate n a)->Ext H aC->(n=0/\v= .slice (some ⟨0,0,none⟩) 0 0/\aC=H\/0<n/\v= .slice (some ⟨H.length,0,none⟩) n n/\aC=H++[.own e false (made z (n*J))])->a8 P r Q .mk (aX F d v) aC):a8 P ((⟨ek,none,some d,.makeSlice t x y⟩:br)::r) Q aw F H:=by
 have cW:z.cells.size=J:=by have:=hw.1;rw[an]at this;exact(Option.some.inj this).symm
 by_cases aE:n=0
 ·subst aE
  exact ir (v:= .slice (some ⟨0,0,none⟩) 0 0) rfl rfl rfl (fun U aK=> .uv aK hu an ae I aJ) (fun U aK=>by simp[bF,aK]) (.inr (Ext.refl H)) (K _ H (bz.void _ _ _ _ _ _ _) (Ext.refl H) (.inl ⟨rfl,rfl,rfl⟩))
 ·refine ir (v:= .slice (some ⟨H.length,0,none⟩) n n) rfl rfl rfl (fun U aK=> .make aK hu an ae aP dt cW I aJ c0 dH (Nat.le_refl _) (by omega) bq) (fun U aK=>by simp[bF,aK]) (.inr ((Ext.refl H).snoc _ _ _)) (K _ _ ⟨made z (n*J),⟨by simp[pA],.inr ⟨H.length,0,n,false,made z (n*J),by simp,by omega,by simp,Nat.le_refl _,by simp,by simp[pA],?_⟩⟩,fun i x ad=>?_⟩ ((Ext.refl H).snoc _ _ _) (.inr ⟨by omega,rfl,rfl⟩))
  ·rw[List.drop_zero,List.take_of_length_le (by simp[pA])]
  ·rw[List.getElem?_replicate]at ad
   split at ad
   ·rename_i a3
    obtain rfl:=Option.some.inj ad
    have hm:=K_ z J n i cW a3 c0
    have:ea ay J (made z (n*J)) i=z:=by
     have cc:=hw.2.2
     unfold ea
     cases ay with
     | true=>
      have aF:eB z=true:=by
       cases av:eB z with
       | true=>rfl
       | false=>rw[av]at cc;simp at cc;rw[cc.1]at dM;cases dM
      simp only[if_true]
      rw[hm,Array.toArray_toList]
      exact(s5 aF).symm
     | false=>
      have aF:eB z=false:=by
       cases av:eB z with
       | false=>rfl
       | true=>rw[av]at cc;simp at cc;rw[cc]at dM;cases dM
      rw[aF]at cc
      simp at cc
      have o:J=1:=by rw[<-cW,cc.2];rfl
      subst o
      simp only[Bool.false_eq_true,if_false]
      have aa:(made z (n*1))[i]?=(((made z (n*1)).drop (i*1)).take 1)[0]?:=by
       rw[List.getElem?_take_of_lt (by omega),List.getElem?_drop];simp
      rw[aa,hm,cc.2]
      rfl
    rw[this]
    exact bl _
   ·cases ad
theorem MI{ek:Bool}{d t e J bs n:Nat}{ay:Bool}{x y:Operand}{eo cB:IntKind}{z:Value}{af:ab->Value->α->Prop}{a:α}{aw:a_ ((⟨ek,none,some d,.makeSlice t x y⟩:br)::r) Q}(hu:P.underlying t=some (.slice e))(an:bn P e=some J)(ae:bytes? P e=some bs)(aP:dv P e=some z)(dt:flat z=true)
  (dM:c_ P e=some ay)(hw:Whole P e z)(I:aq F x= .int eo (n:Int))(aJ:aq F y= .int cB (n:Int))(c0:0<J)(dH:0<bs)(bq:bs*n<=281474976710656)(bl:∀aC,af aC z a)
  (K:∀fW gS aC,bz H.length e J ay af aC (.slice fW n gS) (List.replicate n a)->Ext H aC->a8 P r Q .mk (aX F d (.slice fW n gS)) aC):a8 P ((⟨ek,none,some d,.makeSlice t x y⟩:br)::r) Q aw F H:=
 Ye hu an ae aP dt dM hw I aJ c0 dH bq bl fun v aC cL oq ag=>by
  have ar:=cL.len
  rw[List.length_replicate]at ar
  obtain⟨fW,gS,rfl⟩:=ar
  exact K fW gS aC cL oq
end
structure re (fz gH:List Int) (M kind:Int) (w:Nat):Prop where
 Vi:∀x∈fz,x<=M
 eo:∀x∈gH,x<=M
 at_:(kind=0/\fz[w]?=some M/\∀(i:Nat) (x:Int),i<w->fz[i]?=some x->x<M)\/(kind=1/\(∀x∈fz,x<M)/\gH[w]?=some M/\∀(i:Nat) (x:Int),i<w->gH[i]?=some x->x<M)
theorem re.uniq{fz gH:List Int}{M sX kind z4:Int}{w gn:Nat}(h:re fz gH M kind w)(b7:re fz gH sX z4 gn):M=sX/\kind=z4/\w=gn:=by
 have le:∀{M sX kind z4:Int} {w gn:Nat},re fz gH M kind w->re fz gH sX z4 gn->M<=sX:=fun h b7=>by
  rcases h.at_ with⟨-,o,-⟩ | ⟨-,-,o,-⟩
  ·exact b7.Vi _ (List.mem_of_getElem? o)
  ·exact b7.eo _ (List.mem_of_getElem? o)
 have e:M=sX:=Int.le_antisymm (le h b7) (le b7 h)
 subst e
 refine⟨rfl,?_⟩
 rcases h.at_ with⟨bp,o,aa⟩ | ⟨bp,aH,o,aa⟩<;>rcases b7.at_ with⟨bo,cb,iO⟩ | ⟨bo,ch,cb,iO⟩
 ·refine⟨by rw[bp,bo],?_⟩
  rcases Nat.lt_trichotomy w gn with a3 | he | a3
  ·exact absurd (iO _ _ a3 o) (Int.lt_irrefl _)
  ·exact he
  ·exact absurd (aa _ _ a3 cb) (Int.lt_irrefl _)
 ·exact absurd (ch _ (List.mem_of_getElem? o)) (Int.lt_irrefl _)
 ·exact absurd (aH _ (List.mem_of_getElem? cb)) (Int.lt_irrefl _)
 ·refine⟨by rw[bp,bo],?_⟩
  rcases Nat.lt_trichotomy w gn with a3 | he | a3
  ·exact absurd (iO _ _ a3 o) (Int.lt_irrefl _)
  ·exact he
  ·exact absurd (aa _ _ a3 cb) (Int.lt_irrefl _)
theorem Lj{t:List (List Int)}(bt:0<t.length):∃M:Int,(dw (dU (cm t)) t.length).1=(M:Rat)/\(t.map List.sum)[(dw (dU (cm t)) t.length).2]?=some M/\(∀x∈t.map List.sum,x<=M)/\∀(i:Nat) (x:Int),i<(dw (dU (cm t)) t.length).2->(t.map List.sum)[i]?=some x->x<M:=by
 have qv:∀(i:Nat) (x:Int),(t.map List.sum)[i]?=some x->dU (cm t) i=(x:Rat):=fun i x h=>by
  rw[List.getElem?_map]at h
  rw[uM]
  cases ad:t[i]? with
  | none=>rw[ad]at h;cases h
  | some r=>rw[ad]at h;simp at h;simp[h]
 obtain⟨o,aa⟩:=xt (dU (cm t)) t.length
 have hw:(dw (dU (cm t)) t.length).2<t.length:=by omega
 have aU:(t.map List.sum)[(dw (dU (cm t)) t.length).2]?=some (t[(dw (dU (cm t)) t.length).2]'hw).sum:=by
  rw[List.getElem?_map,bx hw];rfl
 refine⟨_,by rw[o,qv _ _ aU],aU,fun x I=>?_,fun i x ad I=>?_⟩
 ·obtain⟨i,ad⟩:=List.mem_iff_getElem?.1 I
  have cU:i<t.length:=by have:=(cd.1 ad).1;simpa using this
  have:=z9 (dU (cm t)) cU
  rw[o,qv _ _ ad,qv _ _ aU]at this
  exact_mod_cast this
 ·have:=V0 (dU (cm t)) ad
  rw[o,qv _ _ I,qv _ _ aU]at this
  exact_mod_cast this
theorem N1{t:List (List Int)}{m:Nat}(hm:m=(t[0]?.getD []).length)(bt:0<t.length)(aH:0<m):re (t.map List.sum) ((eg m t).map List.sum) (ji t).1 (ji t).2.1 (ji t).2.2:=by
 obtain⟨gd,mn,P2,Cf,P4⟩:=Lj bt
 have mD:(eg m t).length=m:=by simp[eg]
 obtain⟨K,a1,IT,IW,IV⟩:=Lj (t:=eg m t) (by omega)
 rw[mD]at a1 IT IV
 have bS:ji t=if(dw (dU (cm t)) t.length).1<(dw (dU (cm (eg m t))) m).1 then((dw (dU (cm (eg m t))) m).1.num,1,(dw (dU (cm (eg m t))) m).2)else((dw (dU (cm t)) t.length).1.num,0,(dw (dU (cm t)) t.length).2):=by
  unfold ji
  rw[<-hm]
 rw[bS,mn,a1]
 by_cases a3:gd<K
 ·rw[if_pos (by exact_mod_cast a3)]
  simp only[Rat.num_intCast]
  exact⟨fun x I=>by have:=Cf x I;omega,IW,.inr ⟨rfl,fun x I=>by have:=Cf x I;omega,IT,IV⟩⟩
 ·rw[if_neg (fun h=>a3 (by exact_mod_cast h))]
  simp only[Rat.num_intCast]
  exact⟨Cf,fun x I=>by have:=IW x I;omega,.inl ⟨rfl,P2,P4⟩⟩
def et(t:List (List Int))(i k:Nat):Int:=(t[i]?.getD [])[k]?.getD 0
def jy(t:List (List Int))(i k a:Nat):Int:=if a<i then(t[a]?.getD []).sum else if a=i then((t[i]?.getD []).take k).sum else 0
def jz(t:List (List Int))(i k b:Nat):Int:=((t.take i).map fun r=>r[b]?.getD 0).sum+if b<k then et t i b else 0
theorem XS{row:List Int}{k:Nat}{x:Int}(I:row[k]?=some x):(row.take (k+1)).sum=(row.take k).sum+x:=by
 rw[List.take_add_one,I];simp
theorem Vj{t:List (List Int)}{i k a:Nat}{row:List Int}{x:Int}(aj:t[i]?=some row)(I:row[k]?=some x):jy t i (k+1) a=if a=i then jy t i k i+x else jy t i k a:=by
 unfold jy
 by_cases h:a=i
 ·subst h
  simp[aj,XS I]
 ·simp[h]
theorem VN{t:List (List Int)}{i k b:Nat}{row:List Int}{x:Int}(aj:t[i]?=some row)(I:row[k]?=some x):jz t i (k+1) b=if b=k then jz t i k k+x else jz t i k b:=by
 unfold jz et
 by_cases h:b=k
 ·subst h
  simp[aj,I]
 ·rw[if_neg h]
  by_cases aa:b<k
  ·rw[if_pos (by omega),if_pos aa]
  ·rw[if_neg (by omega),if_neg aa]
theorem Vk{t:List (List Int)}{i a:Nat}{row:List Int}(aj:t[i]?=some row):jy t i row.length a=jy t (i+1) 0 a:=by
 unfold jy
 by_cases h:a<i
 ·rw[if_pos h,if_pos (by omega)]
 ·by_cases aa:a=i
  ·subst aa
   simp[aj]
  ·rw[if_neg h,if_neg aa,if_neg (by omega)]
   split<;>simp
theorem VO{t:List (List Int)}{i b:Nat}{row:List Int}(aj:t[i]?=some row)(ae:b<row.length):jz t i row.length b=jz t (i+1) 0 b:=by
 unfold jz et
 rw[if_pos ae,List.take_add_one,aj]
 simp
theorem Vl{t:List (List Int)}(an:jf t)(i k a:Nat):0<=jy t i k a/\jy t i k a<=1000000000:=by
 have g:∀i k:Nat,0<=((t[i]?.getD []).take k).sum/\((t[i]?.getD []).take k).sum<=1000000000:=fun i k=>by
  cases aj:t[i]? with
  | none=>simp
  | some r=>
   have:=an r (List.mem_of_getElem? aj)
   exact jf.sum (by simp;omega) fun x I=>this.2 x (List.mem_of_mem_take I)
 unfold jy
 split
 ·have:=g a (t[a]?.getD []).length
  rwa[List.take_length]at this
 ·split
  ·exact g i k
  ·omega
theorem VP{t:List (List Int)}(an:jf t)(ar:t.length<1000)(i k b:Nat):0<=jz t i k b/\jz t i k b<=2000000000:=by
 have g:∀r∈t,0<=r[b]?.getD 0/\r[b]?.getD 0<=1000000:=fun r aj=>by
  cases I:r[b]? with
  | none=>simp
  | some x=>exact(an r aj).2 x (List.mem_of_getElem? I)
 have o:0<=((t.take i).map fun r=>r[b]?.getD 0).sum/\((t.take i).map fun r=>r[b]?.getD 0).sum<=1000000000:=jf.sum (by simp;omega) fun x I=>by
  rw[List.mem_map]at I
  obtain⟨r,aj,rfl⟩:=I
  exact g r (List.mem_of_mem_take aj)
 have aa:0<=et t i b/\et t i b<=1000000:=by
  unfold et
  cases aj:t[i]? with
  | none=>simp
  | some r=>exact g r (List.mem_of_getElem? aj)
 unfold jz
 split<;>omega
theorem FJ{fz:List Int}{n:Nat}{f g:Nat->Int}{x:Int}{i:Nat}(ad:i<n)(h:fz.length=n/\∀a,a<n->fz[a]?=some (f a))(aU:∀a,g a=if a=i then x else f a):(fz.set i x).length=n/\∀a,a<n->(fz.set i x)[a]?=some (g a):=by
 refine⟨by simp[h.1],fun a aF=>?_⟩
 rw[aU,List.getElem?_set]
 by_cases jO:i=a
 ·subst jO
  simp[h.1,ad]
 ·rw[if_neg jO,if_neg (Ne.symm jO),h.2 a aF]
theorem VC{v:Value}{t:List (List Int)}{m:Nat}{H:ab}(hm:m=(t[0]?.getD []).length)(da:e9 H v t)(ao:fT t):
  a0 prog 21 [v] H (fun u H1=>Ext H H1/\∃a b,u= .tuple #[a,b]/\dj H1 a (t.map List.sum)/\dj H1 b ((eg m t).map List.sum)):=by
 refine a0.cq fun Q aG=>?_
 have an:=ao.small
 have fp:=ao.len
 have v1:=ao.1
 have v2:=ao.2.1
 have pM:=ao.2.2.1
 have v4:=ao.2.2.2.1
 rw[<-hm]at fp pM v4
 obtain⟨j1,ph⟩:∃p,t[0]?=some p:=⟨_,bx (show 0<t.length by omega)⟩
 have eV:j1.length=m:=fp _ (List.mem_of_getElem? ph)
 have hP:0<H.length:=by
  obtain⟨b,i,cap,X,all,-,aR,-⟩:=(Row.xi da).at (by omega)
  have:=(cd.1 aR).1
  omega
 obtain⟨n,aE⟩:∃n,n=t.length:=⟨_,rfl⟩
 apply Uz (by simp)
 simp[GQ]
 refine cY (af:=dj) (xs:=t) (by simpa using da) (by simp) ?_
 simp only[<-aE]
 try simp
 refine MI (e:=3) (J:=1) (bs:=8) (ay:=false) (n:=n) (eo:= .i64) (cB:= .i64) (z:= .int .i64 0) (af:=IR) (a:=0) (by simp) (by simp) (by simp) (by rfl) (by rfl) (by simp) (kS 0) (by simp) (by simp) (by decide) (by decide) (by omega) (fun aC=>rfl) ?_
 intro lV lW H1 IM bI
 simp
 have vQ:=bM.ext (af:=e9) da bI
 refine cK (af:=dj) (xs:=t) (n:=0) (a:=j1) (e:=25) (J:=1) (ay:=false) (by simpa using vQ) (by simp) ph (by simp) (by simp) (by simp) (by decide) ?_
 rintro mP oF kM
 try simp
 refine cY (af:=IR) (xs:=j1) (by simpa using kM) (by simp) ?_
 simp only[eV]
 try simp
 refine MI (e:=3) (J:=1) (bs:=8) (ay:=false) (n:=m) (eo:= .i64) (cB:= .i64) (z:= .int .i64 0) (af:=IR) (a:=0) (by simp) (by simp) (by simp) (by rfl) (by rfl) (by simp) (kS 0) (by simp) (by simp) (by decide) (by decide) (by omega) (fun aC=>rfl) ?_
 intro D7 cB aY ee bu
 have g9:=Ext.len bI
 have cF:∀b,0<b->inBlock (.slice lV n lW) b->¬inBlock (.slice D7 m cB) b:=fun b aH o aa=>by
  have:=IM.ge o aH
  have:=ee.ge aa aH
  omega
 have P0:=bM.ext (af:=bz _ _ _ _ IR) IM bu
 have Cg:=ee.le g9
 have IK:=bM.ext (af:=e9) vQ bu
 have mH:=bI.aB bu
 try simp
 refine dy.mk (by kernel_rfl) (fun w dG e7 bZ=>∃(i:Nat) (fz gH:List Int),w=n-i/\i<=n/\dG 6= .int .i64 (i:Int)/\Ext H bZ/\bz H.length 3 1 false IR bZ (.slice lV n lW) fz/\bz H.length 3 1 false IR bZ (.slice D7 m cB) gH/\(fz.length=n/\∀a,a<n->fz[a]?=some (jy t i 0 a))/\(gH.length=m/\∀a,a<m->gH[a]?=some (jz t i 0 a))) n ⟨0,List.replicate n 0,List.replicate m 0,by omega,by omega,by simp,mH,P0,Cg,⟨by simp,fun a aF=>by simp[jy,aF]⟩,⟨by simp,fun a aF=>by simp[jz,aF]⟩⟩ ?_
 rintro w dG e7 bZ ⟨i,fz,gH,rfl,ad,gC,bP,IN,fN,rY,rZ⟩ K a1
 simp at gC
 have kG:=bM.ext (af:=e9) da bP
 simp[gC]
 refine cY (af:=dj) (xs:=t) (by simpa using kG) (by simp) ?_
 simp only[<-aE]
 simp
 refine bG.cC (fun a3=>?_) (fun a3=>?_)
 ·refine Exists.elim (⟨_,bx (show i<t.length by omega)⟩:∃p,t[i]?=some p) fun row db=>?_
  have gj:=List.mem_of_getElem? db
  have jW:=fp _ gj
  have oo:=nL (show i<4611686018427387904 by omega)
  simp
  refine dy.mk (by kernel_rfl) (fun w c7 dV bR=>∃(k:Nat) (fz gH:List Int),w=m-k/\k<=m/\c7 7= .int .i64 (k:Int)/\Ext H bR/\bz H.length 3 1 false IR bR (.slice lV n lW) fz/\bz H.length 3 1 false IR bR (.slice D7 m cB) gH/\(fz.length=n/\∀a,a<n->fz[a]?=some (jy t i k a))/\(gH.length=m/\∀a,a<m->gH[a]?=some (jz t i k a))) m ⟨0,fz,gH,by omega,by omega,by simp,bP,IN,fN,rY,rZ⟩ ?_
  rintro w c7 dV bR ⟨k,fz,gH,rfl,ai,cJ,b5,Ce,jK,rY,rZ⟩ sV P8
  simp at cJ
  have vR:=bM.ext (af:=e9) da b5
  simp[gC,cJ]
  refine cK (af:=dj) (xs:=t) (n:=i) (a:=row) (e:=25) (J:=1) (ay:=false) (by simpa using vR) (by simp[gC]) db (by simp) (by simp) (by simp) (by decide) ?_
  rintro qU u8 uf
  try simp
  refine cY (af:=IR) (xs:=row) (by simpa using uf) (by simp) ?_
  simp only[jW]
  simp[cJ]
  refine bG.cC (fun iR=>?_) (fun iR=>?_)
  ·refine Exists.elim (⟨_,bx (show k<row.length by omega)⟩:∃p,row[k]?=some p) fun x I=>?_
   have ug:=nL (show k<4611686018427387904 by omega)
   have DV:=(an _ gj).2 x (List.mem_of_getElem? I)
   have o8:=Vl an i k i
   have zq:=VP an (by omega) i k k
   have mG:IntKind.i64.wrap (jy t i k i+x)=jy t i k i+x:=cP (by omega) (by omega)
   have zT:IntKind.i64.wrap (jz t i k k+x)=jz t i k k+x:=cP (by omega) (by omega)
   simp[gC,cJ]
   refine cK (af:=IR) (xs:=fz) (n:=i) (a:=jy t i k i) (e:=3) (J:=1) (ay:=false) (by simpa using Ce.row) (by simp[gC]) (rY.2 i (by omega)) (by simp) (by simp) (by simp) (by decide) ?_
   rintro Am M7 rfl
   simp[gC,cJ]
   refine cK (af:=dj) (xs:=t) (n:=i) (a:=row) (e:=25) (J:=1) (ay:=false) (by simpa using vR) (by simp[gC]) db (by simp) (by simp) (by simp) (by decide) ?_
   rintro Aj M3 Tb
   simp[cJ]
   refine cK (af:=IR) (xs:=row) (n:=k) (a:=x) (e:=3) (J:=1) (ay:=false) (by simpa using Tb) (by simp[cJ]) I (by simp) (by simp) (by simp) (by decide) ?_
   rintro Eo q8 rfl
   simp[mG]
   refine ja (k:=H.length) (e:=3) (J:=1) (ay:=false) (n:=i) (af:=IR) (xs:=fz) (a:=jy t i k i+x) (by simpa using Ce) (by simp[gC]) (by omega) (by simp[IR]) (by simpa using kS _) (by simp) (fun aC de u y ai h=>h) (by simp) (by simp) (by simp) (by decide) ?_
   intro Ak b_ IP c1 zf Da adD
   have zU:=c1 _ (Nat.le_refl _) b5
   have Cd:=bM.ext (af:=e9) da zU
   simp at IP zf
   have nj:=jK.beside hP zf (fun b aH o aa=>cF b aH aa o) fun _ _ h=>h
   have RU:=FJ (i:=i) (by omega) rY (fun a=>Vj db I)
   simp[gC,cJ]
   refine cK (af:=IR) (xs:=gH) (n:=k) (a:=jz t i k k) (e:=3) (J:=1) (ay:=false) (by simpa using nj.row) (by simp[cJ]) (rZ.2 k (by omega)) (by simp) (by simp) (by simp) (by decide) ?_
   rintro uD E_ rfl
   simp[gC,cJ]
   refine cK (af:=dj) (xs:=t) (n:=i) (a:=row) (e:=25) (J:=1) (ay:=false) (by simpa using Cd) (by simp[gC]) db (by simp) (by simp) (by simp) (by decide) ?_
   rintro Al Fa zP
   simp[cJ]
   refine cK (af:=IR) (xs:=row) (n:=k) (a:=x) (e:=3) (J:=1) (ay:=false) (by simpa using zP) (by simp[cJ]) I (by simp) (by simp) (by simp) (by decide) ?_
   rintro Ep Fb rfl
   simp[zT]
   refine ja (k:=H.length) (e:=3) (J:=1) (ay:=false) (n:=k) (af:=IR) (xs:=gH) (a:=jz t i k k+x) (by simpa using nj) (by simp[cJ]) (by omega) (by simp[IR]) (by simpa using kS _) (by simp) (fun aC de u y ai h=>h) (by simp) (by simp) (by simp) (by decide) ?_
   intro LC dX qc cH tT R3 adE
   have Tx:=cH _ (Nat.le_refl _) zU
   simp at qc tT
   have P1:=IP.beside hP tT (fun b aH o aa=>cF b aH o aa) fun _ _ h=>h
   have RY:=FJ (i:=k) (by omega) rZ (fun a=>VN db I)
   simp[cJ,ug]
   exact P8 (m-(k+1)) _ _ _ (by omega) ⟨k+1,_,_,rfl,by omega,by simp,Tx,P1,qc,RU,RY⟩
  ·have iS:k=m:=by omega
   simp[gC,oo]
   refine a1 (n-(i+1)) _ _ _ (by omega) ⟨i+1,fz,gH,rfl,by omega,by simp,b5,Ce,jK,⟨rY.1,fun a aF=>?_⟩,⟨rZ.1,fun a aF=>?_⟩⟩
   ·rw[rY.2 a aF,<-Vk db,jW,iS]
   ·rw[rZ.2 a aF,<-VO db (by omega),jW,iS]
 ·have eT:i=n:=by omega
  simp[bj]
  have Pl:fz=t.map List.sum:=by
   apply List.ext_getElem?
   intro a
   by_cases aF:a<n
   ·rw[rY.2 a aF,List.getElem?_map,bx (by omega)]
    simp[jy,show a<i by omega,bx (show a<t.length by omega)]
   ·rw[List.getElem?_eq_none (by omega),List.getElem?_eq_none (by simp;omega)]
  have Pm:gH=(eg m t).map List.sum:=by
   apply List.ext_getElem?
   intro a
   by_cases aF:a<m
   ·rw[rZ.2 a aF]
    unfold eg jz
    rw[List.take_of_length_le (by omega)]
    simp[aF]
   ·rw[List.getElem?_eq_none (by omega),List.getElem?_eq_none (by simp[eg];omega)]
  refine aG _ _ ⟨bP,_,_,rfl,?_,?_⟩
  ·rw[<-Pl];exact IN.row
  ·rw[<-Pm];exact fN.row
structure abM (l:List Int) (z:Int):Prop where
 le:∀x∈l,x<=z
 at_:z=0\/z∈l
 ik:0<=z
end Go.b9
end
section
set_option maxRecDepth 8000
set_option maxHeartbeats 1000000
namespace Go.b9
attribute [-simp] fJ gN hI
end Go.b9
end
section
set_option maxRecDepth 8000
set_option maxHeartbeats 1000000
namespace Go.b9
open Go.Proofs
open Go.Proofs.Try (prog)
attribute [-simp] fJ gN hI
section
variable {r:List br} {F:Fr} {H:ab} {Q:Fr->ab->Prop}
end
abbrev NK(H:ab)(v:Value)(Wq:List (List (List Nat×List Int))):Prop:=Row 37 1 false (Row 48 2 true gA) H v Wq
instance:bM NK:=⟨fun h I=>bM.ext (af:=Row 37 1 false (Row 48 2 true gA)) h I⟩
end Go.b9
end
section
set_option maxRecDepth 8000
set_option maxHeartbeats 1000000
namespace Go.b9
attribute [-simp] fJ gN hI
theorem At(n:Nat):(∀c∈il n,iL c)/\fl (il n).reverse=n/\(0<n->il n≠[]/\(il n).getLast?≠some 48):=by
 induction n using Nat.strongRecOn with
 | _ n aV=>
  by_cases h:n=0
  ·subst h
   rw[uI]
   simp[fl]
  ·obtain⟨i1,i2,i3⟩:=aV (n/10) (by omega)
   rw[Au (by omega)]
   refine⟨fun c ag=>?_,?_,fun _=>⟨by simp,?_⟩⟩
   ·rcases List.mem_cons.1 ag with ag | ag
    ·subst ag;unfold iL;omega
    ·exact i1 c ag
   ·rw[List.reverse_cons,O6,i2]
    omega
   ·by_cases o:n/10=0
    ·rw[o,uI]
     simp
     omega
    ·have:=i3 (by omega)
     rw[List.getLast?_cons]
     cases aU:(il (n/10)).getLast? with
     | none=>exact absurd (List.getLast?_eq_none_iff.1 aU) this.1
     | some c=>
      rw[aU]at this
      simp
      exact fun h=>this.2 (by rw[h])
theorem BI(n:Nat):∀c∈dec n,iL c:=by
 unfold dec
 split
 ·intro c ag;simp at ag;subst ag;decide
 ·intro c ag;exact(At n).1 c (List.mem_reverse.1 ag)
theorem yB(n:Nat):fl (dec n)=n:=by
 unfold dec
 split
 ·rename_i h;rw[h];rfl
 ·exact(At n).2.1
theorem Ox(n:Nat):dec n≠[]:=by
 unfold dec
 split
 ·simp
 ·rename_i h
  have:=((At n).2.2 (by omega)).1
  simpa using this
theorem HX{n:Nat}(h:(dec n).length<=4000):l_ (dec n):=by
 refine⟨BI n,Ox n,?_,h⟩
 rintro⟨o,aa⟩
 unfold dec at o aa
 split at o
 ·rename_i aH
  rw[if_pos aH]at aa
  simp at aa
 ·rename_i aH
  rw[List.head?_reverse]at o
  exact((At n).2.2 (by omega)).2 o
theorem Oo{c:Nat}{a:List Nat}(b:List Nat)(h:c∉a):dB c (a++c::b)=(a,some b):=by
 induction a with
 | nil=>simp[dB]
 | cons x a aV=>
  have o:x≠c:=fun e=>h (by simp[e])
  have aa:=aV fun e=>h (by simp[e])
  simp[dB,o,aa]
theorem On{c:Nat}{a:List Nat}(h:c∉a):dB c a=(a,none):=by
 induction a with
 | nil=>simp[dB]
 | cons x a aV=>
  have o:x≠c:=fun e=>h (by simp[e])
  have aa:=aV fun e=>h (by simp[e])
  simp[dB,o,aa]
theorem xy{q:Rat}(h:kx q):m_ (fu q)/\i_ (fu q)=q.num/\gT (fu q)=q.den:=by
 have bO:47∉((if q.num<0 then[45]else[])++dec q.num.natAbs):=by
  intro hm
  rcases List.mem_append.1 hm with hm | hm
  ·split at hm<;>simp at hm
  ·have:=BI _ _ hm
   unfold iL at this
   omega
 have Jh:dB 47 (fu q)=((if q.num<0 then[45]else[])++dec q.num.natAbs,if q.den=1 then none else some (dec q.den)):=by
  unfold fu
  by_cases aL:q.den=1
  ·rw[if_pos aL,if_pos aL,List.append_nil]
   exact On bO
  ·rw[if_neg aL,if_neg aL]
   exact Oo _ bO
 have JV:qT (fu q)=(if q.num<0 then[45]else[])++dec q.num.natAbs:=by unfold qT;rw[Jh]
 have Ki:l6 (fu q)=if q.den=1 then none else some (dec q.den):=by unfold l6;rw[Jh]
 have JA:(dec q.num.natAbs).head?≠some 45:=by
  intro cR
  have:=BI _ _ (List.mem_of_mem_head? cR)
  unfold iL at this
  omega
 have pd:nE (fu q)=decide (q.num<0):=by
  unfold nE
  rw[JV]
  by_cases aE:q.num<0
  ·simp[aE]
  ·simp only[aE,if_false,List.nil_append]
   simp[JA]
 have CX:nY (fu q)=dec q.num.natAbs:=by
  unfold nY ko
  rw[JV]
  by_cases aE:q.num<0
  ·simp[aE]
  ·simp only[aE,if_false,List.nil_append]
   rw[if_neg JA]
 have n9:gT (fu q)=q.den:=by
  unfold gT
  rw[Ki]
  by_cases aL:q.den=1
  ·simp[aL]
  ·simp[aL,yB]
 have kg:i_ (fu q)=q.num:=by
  unfold i_
  rw[pd,CX,yB]
  by_cases aE:q.num<0
  ·simp[aE];omega
  ·simp[aE];omega
 refine⟨⟨?_,?_,?_,?_⟩,kg,n9⟩
 ·rw[CX];exact HX h.1
 ·intro u hu
  rw[Ki]at hu
  split at hu
  ·cases hu
  ·rename_i aL
   obtain rfl:=Option.some.inj hu
   have aT:=q.den_pos
   rw[yB]
   refine⟨HX ?_,by omega⟩
   rcases h.2 with h | h
   ·exact absurd h aL
   ·exact h
 ·rw[pd,CX,yB]
  rintro⟨o,aa⟩
  have:=of_decide_eq_true o
  omega
 ·right
  rw[kg,n9]
  exact q.reduced
theorem Lt(q:Rat):Bytes (fu q):=by
 unfold fu
 intro x I
 rcases List.mem_append.1 I with I | I
 ·rcases List.mem_append.1 I with I | I
  ·split at I<;>simp at I
   omega
  ·exact HV _ x I
 ·split at I
  ·cases I
  ·rcases List.mem_cons.1 I with I | I
   ·omega
   ·exact HV _ x I
theorem Ag{q:Rat}(h:kx q):hA (fu q)=q:=by
 obtain⟨o,aa,aD⟩:=xy h
 unfold hA
 rw[aa,aD,Rat.num_divInt_den]
theorem Wl{aZ:List (Rat×List Int)}(h:∀p∈aZ,kx p.1):parts (aZ.map fun p=>(fu p.1,p.2))=aZ:=by
 unfold parts
 rw[List.map_map]
 conv=>rhs;rw[<-List.map_id aZ]
 apply List.map_congr_left
 intro p aT
 simp[Ag (h p aT)]
end Go.b9
end
section
set_option maxRecDepth 8000
set_option maxHeartbeats 1000000
namespace Go.b9
open Go.Proofs
open Go.Proofs.Try (prog)
attribute [-simp] fJ gN hI
def kQ(aZ:List (Rat×List Int)):List (List Nat×List Int):=aZ.map fun p=>(fu p.1,p.2)
structure vj (t:List (List Int)) (aZ:List (Rat×List Int)):Prop where
 ok:∀p∈kQ aZ,pZ t.length (t[0]?.getD []).length p
 one:∀p∈kQ aZ,m_ p.1/\gT p.1=1
 parts:parts (kQ aZ)=aZ
 mm:(kQ aZ).length<=(t.length+(t[0]?.getD []).length)*(t.length+(t[0]?.getD []).length)
 Ig:(kQ aZ).length<=256
 sum:∀i k,i<t.length->k<(t[0]?.getD []).length->gX aZ i k=((et t i k:Int):Rat)
 len:eC aZ=(((ji t).1:Int):Rat)
 bytes:∀p∈kQ aZ,Bytes p.1
 short:∀p∈kQ aZ,p.1.length<4611686018427387904/\p.2.length<65536
theorem vj.mk'{t:List (List Int)}{aZ:List (Rat×List Int)}(ao:fT t)(h:ye t.length (t[0]?.getD []).length (bN (cm t)) (((ji t).1:Int):Rat) aZ)(hm:∀p∈aZ,eJ 1 p.1):vj t aZ:=by
 have lT:=MD (t:=t) rfl rfl ao.small (by have:=ao.2.1;omega)
 have hP:=Er fun p aT=>(h.AE p aT).1
 have hint:∀p∈aZ,∃z:Int,p.1=(z:Rat)/\0<z/\z<=1000000000:=fun p aT=>by
  obtain⟨z,aP⟩:=hm p aT
  have e:p.1=(z:Rat):=by
   rw[<-aP]
   have:((1:Nat):Rat)=1:=rfl
   rw[this,Rat.mul_one]
  refine⟨z,e,?_,?_⟩
  ·have:=(h.AE p aT).1
   rw[e]at this
   exact_mod_cast this
  ·have:=hP.2 p aT
   rw[h.len,e]at this
   have:z<=(ji t).1:=by exact_mod_cast this
   have:=lT.2
   omega
 have kg:∀p∈aZ,kx p.1:=fun p aT=>by
  obtain⟨z,aP,aH,o⟩:=hint p aT
  rw[aP]
  exact(c4.int (N:=64) (by omega) (by decide)).Af (by decide)
 have Sy:=Wl kg
 have cQ:∀p∈kQ aZ,∃q∈aZ,p=(fu q.1,q.2):=fun p aT=>by
  unfold kQ at aT
  rw[List.mem_map]at aT
  obtain⟨q,av,rfl⟩:=aT
  exact⟨q,av,rfl⟩
 refine⟨fun p aT=>?_,fun p aT=>?_,Sy,?_,?_,fun i k ad ai=>?_,h.len,fun p aT=>?_,fun p aT=>?_⟩
 ·obtain⟨q,av,rfl⟩:=cQ p aT
  have o:=xy (kg q av)
  have aa:=h.AE q av
  exact⟨⟨o.1,by rw[Ag (kg q av)];exact aa.1,aa.2.len⟩,aa.2⟩
 ·obtain⟨q,av,rfl⟩:=cQ p aT
  have o:=xy (kg q av)
  obtain⟨z,aP,-⟩:=hint q av
  refine⟨o.1,?_⟩
  rw[o.2.2,aP,Rat.den_intCast]
 ·unfold kQ
  rw[List.length_map]
  exact h.mm
 ·unfold kQ
  rw[List.length_map]
  have o:=ao.2.1
  have aa:=ao.2.2.2.1
  exact Nat.le_trans h.mm (Nat.mul_le_mul (show _<=16 by omega) (show _<=16 by omega))
 ·rw[h.sum i k ad ai,sB]
  rfl
 ·obtain⟨q,av,rfl⟩:=cQ p aT
  exact Lt _
 ·obtain⟨q,av,rfl⟩:=cQ p aT
  have o:=LD (xy (kg q av)).1
  have aa:=(h.AE q av).2.len
  have aD:=ao.2.2.2.1
  refine⟨?_,?_⟩
  ·show(fu q.1).length<_
   omega
  ·show q.2.length<_
   omega
theorem vj.OA{t:List (List Int)}{aZ:List (Rat×List Int)}(h:vj t aZ):sR t (kQ aZ):=by
 refine⟨⟨h.ok,by have:=h.Ig;omega⟩,fun j k aQ ai=>?_⟩
 rw[h.parts,h.sum j k aQ ai,sB]
 rfl
section
variable {P:Program} {r:List br} {F:Fr} {H:ab} {Q:Fr->ab->Prop} {α:Type}
theorem E7{d t e:Nat}{x y:Operand}{z:Value}{af:ab->Value->α->Prop}{a b:α}{aw:a_ (fb d t 2 [(0,x),(1,y)]::r) Q}(aF:∀aC,Ext H aC->af aC (aq F x) a)(ae:∀aC,Ext H aC->af aC (aq F y) b)(bt:P.underlying t=some (.slice e))(an:bn P e=some 1)(aP:dv P e=some z)(dt:flat z=true)(cW:z.cells.size=1)
  (aK:iy (fun i=>some (i*1,1)) (made z (2*1)) [(0,aq F x),(1,aq F y)]=some [aq F x,aq F y])(K:∀v aC,Row e 1 false af aC v [a,b]->Ext H aC->a8 P r Q .mk (aX F d v) aC):a8 P (fb d t 2 [(0,x),(1,y)]::r) Q aw F H:=by
 have I:Ext H (H++[.own e false [aq F x,aq F y]]):=(Ext.refl H).snoc _ _ _
 refine sH bt an aP dt cW (by decide) (by decide) (by decide) aK rfl (K _ _ ⟨[aq F x,aq F y],hL.gm (k:=0) ⟨rfl,.inr ⟨H.length,0,2,false,[aq F x,aq F y],rfl,by omega,Nat.le_refl _,Nat.zero_le _,by simp,by simp,by simp⟩⟩,fun i u ad=>?_⟩ I)
 match i with
 | 0=>simp at ad;subst ad;simpa[ea]using aF _ I
 | 1=>simp at ad;subst ad;simpa[ea]using ae _ I
 | n+2=>simp at ad
end
def t0:List (List Int):=[[2,1],[1,2]]
theorem AM:fT t0:=by decide
theorem XQ:ji t0=(3,0,0):=by
 have h:=N1 (t:=t0) (m:=2) rfl (by decide) (by decide)
 have aa:re (t0.map List.sum) ((eg 2 t0).map List.sum) 3 0 0:=by
  have bp:t0.map List.sum=[3,3]:=by decide
  have bo:(eg 2 t0).map List.sum=[3,3]:=by decide
  rw[bp,bo]
  exact⟨by simp,by simp,.inl ⟨rfl,rfl,fun i x ad=>by omega⟩⟩
 obtain⟨aD,bD,b2⟩:=h.uniq aa
 exact Prod.ext aD (Prod.ext bD b2)
theorem V_(z:Int)(h:0<=z):fu ((z:Int):Rat)=dec z.natAbs:=by
 unfold fu
 rw[Rat.num_intCast,Rat.den_intCast,if_neg (by omega)]
 simp
theorem VA:({data:= #[51]}:ByteArray)=cn [51]:=rfl
theorem K2{H:ab}:a0 prog 10 [] H (fun u H1=>Ext H H1/\u= .bool true):=by
 refine a0.cq fun Q aG=>?_
 have ae:=XQ
 apply TZ (by simp)
 simp[Gx]
 refine E7 (e:=3) (z:= .int .i64 0) (af:=IR) (a:=2) (b:=1) (fun _ _=>rfl) (fun _ _=>rfl) (by simp) (by simp) (by rfl) (by rfl) (by rfl) (by rfl) ?_
 intro nK H1 ny bI
 refine E7 (e:=3) (z:= .int .i64 0) (af:=IR) (a:=1) (b:=2) (fun _ _=>rfl) (fun _ _=>rfl) (by simp) (by simp) (by rfl) (by rfl) (by rfl) (by rfl) ?_
 intro lq aY nz bu
 have Kf:dj aY nK [2,1]:=bM.ext (af:=dj) ny bu
 refine Exists.elim (Row.len Kf) fun b1 jm=>Exists.elim jm fun cG jm=>?_
 refine Exists.elim (Row.len nz) fun ds ia=>Exists.elim ia fun dh ia=>?_
 refine E7 (e:=25) (z:= .slice none 0 0) (af:=dj) (a:=[2,1]) (b:=[1,2]) (fun aC I=>by simpa using bM.ext (af:=dj) Kf I) (fun aC I=>by simpa using bM.ext (af:=dj) nz I) (by simp) (by simp) (by rfl) (by rfl) (by rfl) (by simp[jm,ia];rfl) ?_
 intro pK bZ kj bP
 have da:e9 bZ pK t0:=kj
 have qI:=bI.aB (bu.aB bP)
 simp
 refine a7.mk (N2 (Row.xi da) (by decide) (by decide)) ?_
 rintro M6 bR ⟨b5,Tj,-⟩
 have j7:=Tj AM
 rw[ae]at j7
 subst j7
 have vR:=bM.ext (af:=e9) da b5
 simp
 refine a7.mk (Wo (Row.xi vR) (by decide) (by decide)) ?_
 rintro oE b_ ⟨c1,DI,-⟩
 refine Exists.elim (DI AM) fun A7 b2=>Exists.elim b2 fun aZ b2=>?_
 have rA:=b2.1
 subst rA
 have a2:=vj.mk' AM b2.2.1 b2.2.2.1
 have db:=b2.2.2.2
 have Cd:=bM.ext (af:=e9) vR c1
 simp
 refine a7.mk (OW (Row.xi Cd) (by decide) (by decide) db a2.bytes a2.short (by have:=a2.Ig;exact Nat.le_trans this (by decide))) ?_
 rintro oF dX ⟨cH,Tk,-,-⟩
 have p6:=Tk AM a2.OA
 have kh:eC (parts (kQ aZ))=((3:Int):Rat):=by rw[a2.parts,a2.len,ae]
 have zu:fu ((3:Int):Rat)=[51]:=by
  rw[V_ 3 (by decide)]
  simp[dec,il]
 have iU:kx ((3:Int):Rat):=(c4.int (N:=64) (by decide) (by decide)).Af (by decide)
 change oF=if kx (eC (parts (kQ aZ)))then Value.tuple #[.string (cn (fu (eC (parts (kQ aZ))))),.int .i64 0]else _ at p6
 rw[kh,if_pos iU,zu]at p6
 subst p6
 simp[uZ,VA,bj]
 exact aG _ _ ⟨qI.aB (b5.aB (c1.aB cH)),rfl⟩
end Go.b9
end
section
set_option maxRecDepth 8000
set_option maxHeartbeats 1000000
namespace Go.b9
attribute [-simp] fJ gN hI
theorem HT(x:List (List Int)):(te x).length<=9/\∀r∈te x,r.length<=9:=by
 unfold te
 refine⟨by simp;omega,fun r aj=>?_⟩
 rw[List.mem_map]at aj
 obtain⟨di,-,rfl⟩:=aj
 simp;omega
theorem bV.fZ{P:Program}{a b:eG}{Q:dr->Fr->Fr->ab->Prop}{aw:a_ (eG.seq a b) Q}{F G:Fr}{H:ab}(h:∀K:Fr->Fr->ab->Prop,(∀az bC H1,bV P b Q .mk az bC H1->K az bC H1)->bV P a (l3 K Q) .mk F G H):bV P (.seq a b) Q aw F G H:=
 h _ fun _ _ _ h=>h
end Go.b9
end
section
namespace Go.b9
end Go.b9
end
section
set_option maxRecDepth 8000
set_option maxHeartbeats 1000000
namespace Go.b9
attribute [-simp] fJ gN hI
end Go.b9
end
section
set_option maxRecDepth 8000
set_option maxHeartbeats 1000000
namespace Go.b9
end Go.b9
end
section
set_option maxRecDepth 8000
set_option maxHeartbeats 1000000
namespace Go.b9
attribute [-simp] fJ gN hI
end Go.b9
end
section
set_option maxRecDepth 8000
set_option maxHeartbeats 1000000
namespace Go.b9
open Go.Proofs
open Go.Proofs.Try (prog)
open Go.RowKit
class jE {α:Type} (af:ab->Value->α->Prop):Prop where
 app:∀{H N:ab} {v:Value} {x:α},af H v x->af (H++N) v x
theorem ec.app{H N:ab}{e J n:Nat}{v:Value}{cs:List Value}(h:ec H e J v n cs):ec (H++N) e J v n cs:=by
 obtain⟨a,cap,o,aa,aD,bD⟩:=h
 refine⟨a,cap,o,aa,aD,fun ag=>?_⟩
 obtain⟨b,i,X,all,aS,aM,bh⟩:=bD ag
 exact⟨b,i,X,all,aS,by rw[List.getElem?_append_left (cd.1 aM).1];exact aM,bh⟩
instance{α:Type}{e J:Nat}{ay:Bool}{af:ab->Value->α->Prop}[jE af]:jE (Row e J ay af):=⟨fun⟨cs,o,aa⟩=>⟨cs,o.app,fun i x ad=>jE.app (aa i x ad)⟩⟩
instance:jE IR:=⟨fun h=>h⟩
def tf(ay:Bool)(cs:List Value):Value:=if ay=true then .agg cs.toArray else cs[0]?.getD undef
def k0(H:Type)(enc:TypeId×Value->H)(w:World)(t:TypeId)(cs:List Value):Prop:=∃fuel x,DataW.trod enc prog w 0 (fun _=>true) true fuel t cs=some x
def m6(w:World)(ah:ba)(H:ab):Prop:=b8 prog w.heap.size ah H w/\∀b,¬hk H b
def eX{α:Type}(w:World)(rd:List Value->Prop)(ay:Bool)(af:ab->Value->α->Prop):Prop:=
 ∀cs,rd cs->∀ah H,m6 w ah H->∃bm N yx x,m6 w bm (H++N)/\(∀b k,ah b=some k->bm b=some k)/\cz bm yx cs/\af (H++N) (tf ay yx) x
theorem eX.imp{α:Type}{w:World}{rd L0:List Value->Prop}{ay:Bool}{af sZ:ab->Value->α->Prop}(h:eX w rd ay af)(o:∀cs,L0 cs->rd cs)(aa:∀H v x,af H v x->sZ H v x):eX w L0 ay sZ:=fun cs ag ah H cr=>by
 obtain⟨bm,N,yx,x,aS,aM,bh,b0⟩:=h cs (o cs ag) ah H cr
 exact⟨bm,N,yx,x,aS,aM,bh,aa _ _ _ b0⟩
theorem cz.one{ah:ba}{v au:Value}(h:bf ah v au):cz ah [v] [au]:=⟨rfl,fun i x y I aJ=>by
 match i with
 | 0=>simp at I aJ;subst I aJ;exact h
 | n+1=>simp at I⟩
theorem eX.flat{α:Type}{w:World}{rd:List Value->Prop}{af:ab->Value->α->Prop}(h:∀cs,rd cs->∃v au x,cs=[au]/\(∀ah,bf ah v au)/\∀H,af H v x):eX w rd false af:=fun cs ag ah H cr=>by
 obtain⟨v,au,x,rfl,o,aa⟩:=h cs ag
 exact⟨ah,[],[v],x,by simpa using cr,fun _ _ h=>h,cz.one (o ah),aa _⟩
theorem eX.int{w:World}{H:Type}{enc:TypeId×Value->H}:eX w (k0 H enc w 3) false IR:=eX.flat fun cs ⟨fuel,x,h⟩=>by
 obtain⟨n,rfl,-⟩:=DataW.trod_int (k:= .i64) (by rfl) h
 exact⟨_,_,n,rfl,fun ah=> .int _ _,fun H=>rfl⟩
theorem eX.many{α:Type}{w:World}{rd:List Value->Prop}{ay:Bool}{af:ab->Value->α->Prop}[jE af](h:eX w rd ay af):∀(L:List (List Value)),(∀cs∈L,rd cs)->∀ah H,m6 w ah H->
  ∃(bm:ba) (N:ab) (M:List (List Value)) (xs:List α),m6 w bm (H++N)/\(∀b k,ah b=some k->bm b=some k)/\M.length=L.length/\xs.length=L.length/\∀(i:Nat) (c:List Value),L[i]?=some c->∃cG x,M[i]?=some cG/\xs[i]?=some x/\cz bm cG c/\af (H++N) (tf ay cG) x
 | [],_,ah,H,cr=>⟨ah,[],[],[],by simpa using cr,fun _ _ h=>h,rfl,rfl,fun i c h=>by simp at h⟩
 | a::L,cQ,ah,H,cr=>by
  obtain⟨bm,vf,cG,x0,dp,hd,eM,gK⟩:=h a (cQ a (by simp)) ah H cr
  obtain⟨kT,vg,M,xs,aS,aM,bh,b0,ey⟩:=eX.many h L (fun c ag=>cQ c (by simp[ag])) bm (H++vf) dp
  refine⟨kT,vf++vg,cG::M,x0::xs,by rw[<-List.append_assoc];exact aS,fun b k ae=>aM b k (hd b k ae),by simp[bh],by simp[b0],fun i c ag=>?_⟩
  match i with
  | 0=>
   simp at ag
   subst ag
   exact⟨cG,x0,rfl,rfl,cz.ext aM eM,by rw[<-List.append_assoc];exact jE.app gK⟩
  | n+1=>
   obtain⟨dh,pO,dT,fH,hZ,l2⟩:=ey n c (by simpa using ag)
   exact⟨dh,pO,by simpa using dT,by simpa using fH,hZ,by rw[<-List.append_assoc];exact l2⟩
theorem m6.snoc{w:World}{ah:ba}{H:ab}(h:m6 w ah H){e:TypeId}{inf:TypeInfo}{b U:Nat}{cs en:List Value}(ad:(prog).info? e=some inf)(ae:b<w.heap.size)(cr:cz ah cs en)
  (CT:∀i v,en[i]?=some v->w.cell? ⟨b,U+i,none⟩=some v):
  ∃bm,m6 w bm (H++[.ro e cs])/\(∀c k,ah c=some k->bm c=some k)/\bm H.length=some ⟨b,U,0,inf.size,false⟩:=by
 obtain⟨bE,hF⟩:=h
 have a3:∀c k,ah c=some k->c<H.length:=fun c k ag=>(bE.ez c k ag).2
 have mx:∀c k,ah c=some k->(fun c=>if c=H.length then some (⟨b,U,0,inf.size,false⟩:h2)else ah c) c=some k:=fun c k ag=>by
  have:=a3 c k ag
  show(if c=H.length then _ else _)=_
  rw[if_neg (by omega)]
  exact ag
 have JR:∀c,¬hk (H++[.ro e cs]) c:=by
  rintro c ⟨cI,l,en,h⟩
  rcases Nat.lt_or_ge c H.length with ag | ag
  ·rw[List.getElem?_append_left ag]at h
   exact hF c ⟨cI,l,en,h⟩
  ·rw[List.getElem?_append_right ag]at h
   match av:c-H.length with
   | 0=>rw[av]at h;simp at h
   | n+1=>rw[av]at h;simp at h
 refine⟨fun c=>if c=H.length then some ⟨b,U,0,inf.size,false⟩else ah c,⟨⟨by simp,Nat.le_refl _,fun c k ag=>?_,fun c k y ag aJ=>?_,fun c dL k bK _ _ _ aK=>absurd aK (JR c)⟩,JR⟩,mx,by simp⟩
 ·have aT:=bE.pos
  split at ag
  ·next av=>subst av;simp;exact aT
  ·have:=bE.ez c k ag
   simp
   omega
 ·split at ag
  ·next av=>
   subst av
   obtain rfl:=Option.some.inj ag
   rw[List.getElem?_append_right (Nat.le_refl _),Nat.sub_self]at aJ
   obtain rfl:=Option.some.inj aJ
   refine .ro ad rfl (fun i v ao=>?_) ae
   have cU:=(cd.1 ao).1
   have dc:=bx (l:=en) (i:=i) (by rw[<-cr.1];exact cU)
   exact⟨_,CT i _ dc,(cr.2 i _ _ ao dc).ext mx⟩
  ·have:=a3 c k ag
   rw[List.getElem?_append_left this]at aJ
   exact(bE.eL c k y ag aJ).gk mx (fun _=>rfl) (Nat.le_refl _)
theorem N8{w:World}{a:Addr}{v:Value}(h:w.cell? a=some v):a.block<w.heap.size:=by
 rcases Nat.lt_or_ge a.block w.heap.size with o | o
 ·exact o
 ·unfold World.cell? at h
  rw[Array.getElem?_eq_none o]at h
  simp at h
theorem N_{w:World}{x:Addr}{n:Nat}{cs:List Value}(aE:0<n)(ar:cs.length=n)(h:∀i v,cs[i]?=some v->w.cell? (x.add i)=some v):x.spot=none/\x.block<w.heap.size/\∀i v,cs[i]?=some v->w.cell? ⟨x.block,x.off+i,none⟩=some v:=by
 have aH:=h 0 _ (bx (by omega))
 have h7:x.add 0=x:=by simp[Addr.add]
 rw[h7]at aH
 have sf:=World.cell?_spot aH
 refine⟨sf,N8 aH,fun i v ad=>?_⟩
 have:=h i v ad
 obtain⟨b,U,s⟩:=x
 simp only at sf
 subst sf
 by_cases qq:i=0
 ·subst qq;simpa[Addr.add]using this
 ·simpa[Addr.add,qq]using this
theorem rD{L:List (List Value)}{n:Nat}(h:∀c∈L,c.length=n):L.flatten.length=L.length*n:=by
 induction L with
 | nil=>simp
 | cons a L aV=>
  rw[List.flatten_cons,List.length_append,aV fun c ag=>h c (by simp[ag]),h a (by simp),List.length_cons,Nat.succ_mul,Nat.add_comm]
theorem Ij{L:List (List Value)}{n:Nat}(h:∀c∈L,c.length=n){i:Nat}{c:List Value}(ad:L[i]?=some c):(L.flatten.drop (i*n)).take n=c:=by
 induction L generalizing i with
 | nil=>simp at ad
 | cons a L aV=>
  have aF:=h a (by simp)
  match i with
  | 0=>
   simp at ad
   subst ad
   rw[List.flatten_cons,Nat.zero_mul,List.drop_zero,List.take_append_of_le_length (by omega),List.take_of_length_le (by omega)]
  | m+1=>
   rw[List.flatten_cons,show(m+1)*n=a.length+m*n by rw[aF,Nat.succ_mul,Nat.add_comm],List.drop_append,List.drop_of_length_le (by omega),List.nil_append,Nat.add_sub_cancel_left]
   exact aV (fun c ag=>h c (by simp[ag])) (by simpa using ad)
theorem BW{L:List (List Value)}{n:Nat}(h:∀c∈L,c.length=n){q:Nat}{v:Value}(ao:L.flatten[q]?=some v):∃i j c,L[i]?=some c/\c[j]?=some v/\j<n/\q=i*n+j:=by
 have av:=(cd.1 ao).1
 rw[rD h]at av
 have aE:0<n:=by exact Nat.pos_of_ne_zero fun aH=>by subst aH;simp at av
 have ad:q/n<L.length:=(Nat.div_lt_iff_lt_mul aE).2 av
 have aQ:=Nat.mod_lt q aE
 have wR:q=(q/n)*n+q % n:=by rw[Nat.mul_comm];exact(Nat.div_add_mod q n).symm
 have cr:=bx ad
 refine⟨q/n,q % n,_,cr,?_,aQ,wR⟩
 have:=Ij h cr
 rw[<-this,List.getElem?_take_of_lt aQ,List.getElem?_drop,<-wR]
 exact ao
theorem Addr.add_add(a:Addr)(i j:Nat):(a.add i).add j=a.add (i+j):=Go.Deep.add_add a i j
theorem eX.slice{α:Type}{w:World}{vb:Type}{enc:TypeId×Value->vb}{t e:TypeId}{J:Nat}{ay:Bool}{af:ab->Value->α->Prop}[jE af]{inf:TypeInfo}(bt:(prog).underlying t=some (.slice e))(c0:(prog).cellsOf e=J)(o:ay=true\/J=1)(aH:0<J)
  (ad:(prog).info? e=some inf)(an:inf.size=J)(h:eX w (k0 vb enc w e) ay af):eX w (k0 vb enc w t) false (Row e J ay af):=by
 rintro cs ⟨fuel,x,I⟩ ah H cr
 rcases Go.Deep.open_slice bt I with⟨rfl,_⟩ | ⟨a,len,cap,m,n,D,abT,rfl,_,ar,hm,Sh,_,CZ⟩
 ·exact⟨ah,[],[.slice none 0 0],[],by simpa using cr,fun _ _ h=>h,cz.one .qP,Row.nil _ _ _ _ _⟩
 ·have ad4:m=cap:=by simpa using Sh
  by_cases aP:len=0
  ·subst aP
   have ae:=cr.1.pos
   exact⟨ah,[],[.slice (some ⟨1,0,none⟩) 0 0],[],by simpa using cr,fun _ _ h=>h,cz.one (.empty (by decide) _ _),[],ec.void _ _ _ _,fun i x h=>by simp at h⟩
  ·obtain⟨g,aU⟩:=Go.Deep.choose_lt (α:=List Value) (n:=len) (p:=fun i c=>w.cells? 0 (a.add (i*J)) J=some c/\k0 vb enc w e c) fun i ad=>by
    obtain⟨c,aS,aM⟩:=CZ i (by omega)
    rw[c0]at aS
    exact⟨c,aS,_,_,aM⟩
   obtain⟨L,vU⟩:∃L,L=(List.range len).map g:=⟨_,rfl⟩
   have I0:L.length=len:=by rw[vU];simp
   have IY:∀i c,L[i]?=some c->i<len/\c=g i:=fun i c ag=>by
    have cU:=(cd.1 ag).1
    rw[vU,List.getElem?_map,List.getElem?_range (by omega)]at ag
    exact⟨by omega,(Option.some.inj ag).symm⟩
   have gj:∀c∈L,c.length=J/\k0 vb enc w e c:=fun c ag=>by
    obtain⟨i,ad⟩:=List.mem_iff_getElem?.1 ag
    obtain⟨aS,rfl⟩:=IY i c ad
    obtain⟨dT,fH⟩:=aU i aS
    exact⟨(World.cells?_some dT).2.1,fH⟩
   obtain⟨bm,N,M,xs,dp,hd,eM,gK,iI⟩:=eX.many h L (fun c ag=>(gj c ag).2) ah H cr
   have Ck:∀i cG,M[i]?=some cG->∃c x,L[i]?=some c/\xs[i]?=some x/\cz bm cG c/\af (H++N) (tf ay cG) x:=fun i cG ag=>by
    have cU:=(cd.1 ag).1
    have IZ:=bx (l:=L) (i:=i) (by omega)
    obtain⟨dh,pO,dT,fH,hZ,l2⟩:=iI i _ IZ
    rw[ag]at dT
    obtain rfl:=Option.some.inj dT
    exact⟨_,pO,IZ,fH,hZ,l2⟩
   have tt:∀c∈M,c.length=J:=fun c ag=>by
    obtain⟨i,ad⟩:=List.mem_iff_getElem?.1 ag
    obtain⟨dh,pO,dT,fH,hZ,-⟩:=Ck i c ad
    rw[hZ.1]
    exact(gj dh (List.mem_of_getElem? dT)).1
   have yQ:∀c∈L,c.length=J:=fun c ag=>(gj c ag).1
   have Ci:cz bm M.flatten L.flatten:=by
    refine⟨by rw[rD tt,rD yQ,eM],fun q v au ao dc=>?_⟩
    obtain⟨i,j,c,aS,aM,bh,b0⟩:=BW tt ao
    obtain⟨iX,dC,dL,Aq,WE,WG,WH⟩:=BW yQ dc
    have C5:i=iX:=by
     have bp:(i*J+j)/J=i:=by rw[Nat.mul_comm,Nat.mul_add_div aH,Nat.div_eq_of_lt bh];rfl
     have bo:(iX*J+dC)/J=iX:=by rw[Nat.mul_comm,Nat.mul_add_div aH,Nat.div_eq_of_lt WG];rfl
     rw[<-bp,<-bo,<-b0,<-WH]
    subst C5
    obtain rfl:j=dC:=by omega
    obtain⟨dh,pO,dT,fH,hZ,-⟩:=Ck i c aS
    rw[Aq]at dT
    obtain rfl:=Option.some.inj dT
    exact hZ.2 j v au aM WE
   have lL:∀q v,L.flatten[q]?=some v->w.cell? (a.add q)=some v:=fun q v ao=>by
    obtain⟨i,j,c,aS,aM,bh,rfl⟩:=BW yQ ao
    obtain⟨dT,rfl⟩:=IY i c aS
    have fH:=(World.cells?_some (aU i dT).1).2.2 j bh
    rw[Addr.add_add]at fH
    rw[fH,aM]
   have C3:L.flatten.length=len*J:=by rw[rD yQ,I0]
   obtain⟨sf,np,fX⟩:=N_ (x:=a) (n:=len*J) (Nat.mul_pos (by omega) aH) C3 lL
   obtain⟨kT,s1,s2,q0⟩:=dp.snoc (e:=e) ad np Ci fX
   obtain⟨abX,ab4,acd⟩:=a
   simp only at sf
   subst sf
   have QU:=bf.slice (i:=0) (len:=len) (cap:=cap) (dm:=cap) q0 (by omega) ar (Nat.le_refl _) (fun _=>rfl) (fun h=>by cases h)
   refine⟨kT,N++[.ro e M.flatten],[.slice (some ⟨(H++N).length,0,none⟩) len cap],xs,by rw[<-List.append_assoc];exact s1,fun b k ae=>s2 b k (hd b k ae),cz.one (by simpa using QU),?_⟩
   rw[<-List.append_assoc]
   refine⟨M.flatten,⟨_,cap,by simp[tf,gK,I0],by omega,by rw[rD tt,eM,gK],fun _=>⟨_,0,_,_,rfl,List.getElem?_concat_length,rfl,rfl,?_,?_⟩⟩,fun i y aJ=>?_⟩
   ·rw[rD tt,eM,gK];omega
   ·rw[List.drop_zero,List.take_of_length_le (by rw[rD tt,eM,gK];omega)]
   ·have cU:=(cd.1 aJ).1
    have I2:=bx (l:=M) (i:=i) (by omega)
    obtain⟨dh,pO,dT,fH,hZ,l2⟩:=Ck i _ I2
    rw[aJ]at fH
    obtain rfl:=Option.some.inj fH
    have bp:ea ay J M.flatten i=tf ay M[i]:=by
     have ns:=Ij tt I2
     unfold ea tf
     rcases o with rfl | rfl
     ·rw[if_pos rfl,if_pos rfl,ns]
     ·cases ay with
      | true=>rw[if_pos rfl,if_pos rfl,ns]
      | false=>
       rw[if_neg (by decide),if_neg (by decide),<-ns,List.getElem?_take_of_lt (by decide),List.getElem?_drop]
       simp
    rw[bp]
    exact jE.app l2
theorem m6.start{w:World}:m6 w (fun _=>none) [.dead]:=
 ⟨⟨by simp,Nat.le_refl _,(fun b k h=>by cases h),(fun b k x h=>by cases h),fun b ca k bK h=>by cases h⟩,by
  rintro b ⟨e,l,cs,h⟩
  match b with
  | 0=>simp at h
  | n+1=>simp at h⟩
theorem Step.below{ah bm:ba}{H H1:ab}{w a5:World}(h:Step ah H w bm H1 a5)(hF:∀b,¬hk H b):Below w.heap.size w a5:=
 ⟨h.os,h.tape,h.output,h.size,fun g aU=>h.frame g aU fun b k _ aK=>absurd aK (hF b)⟩
theorem VW:(prog).follows .mixedOrders=true:=by kernel_rfl
theorem eX.pair{α β:Type}{w:World}{H:Type}{enc:TypeId×Value->H}{t t0 t1:TypeId}{Bl:ab->Value->α->Prop}{eZ:ab->Value->β->Prop}[jE Bl](hu:∃f0 f1,(prog).underlying t=some (.struct #[f0,f1])/\f0.offset=0/\f1.offset=1/\f0.type=t0/\f1.type=t1)
  (ru:(prog).cellsOf t0=1)(cG:(prog).cellsOf t1=1)(lD:(prog).cellsOf t=2)(A:eX w (k0 H enc w t0) false Bl)(B:eX w (k0 H enc w t1) false eZ):
  eX w (k0 H enc w t) true (fun G v (p:α×β)=>∃a b,v= .agg #[a,b]/\Bl G a p.1/\eZ G b p.2):=by
 rintro cs ⟨fuel,x,h⟩ ah G cr
 obtain⟨f0,f1,hu,Wa,Wb,rfl,rfl⟩:=hu
 obtain⟨xs,k,ai,mJ,gu,iW,ax⟩:=DataW.trod_struct hu h
 have ch:=ax 0 _ rfl
 have cb:=ax 1 _ rfl
 rw[lD]at gu
 match cs,gu,xs,iW with
 | [e3,nK],_,[agD,agE],_=>
  simp[Wa,ru]at ch
  simp[Wb,cG]at cb
  obtain⟨bm,vf,qZ,a,dp,hd,eM,gK⟩:=A [e3] ⟨_,_,ch⟩ ah G cr
  obtain⟨kT,vg,s1,b,aS,aM,bh,b0⟩:=B [nK] ⟨_,_,cb⟩ bm _ dp
  match qZ,eM,s1,bh with
  | [v0],eM,[v1],bh=>
   refine⟨kT,vf++vg,[v0,v1],(a,b),by rw[<-List.append_assoc];exact aS,fun b k ae=>aM b k (hd b k ae),(cz.ext aM eM).append bh,?_⟩
   rw[<-List.append_assoc]
   exact⟨v0,v1,rfl,jE.app gK,b0⟩
  | [],eM,_,_=>exact absurd eM.1 (by simp)
  | _::_::_,eM,_,_=>exact absurd eM.1 (by simp)
  | [_],_,[],bh=>exact absurd bh.1 (by simp)
  | [_],_,_::_::_,bh=>exact absurd bh.1 (by simp)
theorem eX.gM{w:World}{H:Type}{enc:TypeId×Value->H}:eX w (k0 H enc w 22) false e9:=
 eX.slice (by rfl) (by rfl) (.inr rfl) (by decide) (by rfl) (by rfl) (eX.slice (t:=25) (by rfl) (by rfl) (.inr rfl) (by decide) (by rfl) (by rfl) eX.int)
def NM(H:ab)(v:Value)(l:List Nat):Prop:=v= .string (cn l)/\Bytes l
instance:jE NM:=⟨fun h=>h⟩
def NL(H:ab)(v:Value)(p:List Nat×List Int):Prop:=gA H v p/\Bytes p.1
instance:jE NL:=⟨fun⟨⟨a,n,c,h,o⟩,ae⟩=>⟨⟨a,n,c,h,jE.app o⟩,ae⟩⟩
theorem Row.and{α:Type}{e J:Nat}{ay:Bool}{af sZ:ab->Value->α->Prop}{p:α->Prop}{H:ab}{v:Value}{xs:List α}(h:Row e J ay af H v xs)(bl:∀H v x,af H v x->sZ H v x/\p x):Row e J ay sZ H v xs/\∀x∈xs,p x:=by
 obtain⟨cs,o,aa⟩:=h
 refine⟨⟨cs,o,fun i x ad=>(bl _ _ _ (aa i x ad)).1⟩,fun x I=>?_⟩
 obtain⟨i,ad⟩:=List.mem_iff_getElem?.1 I
 exact(bl _ _ _ (aa i x ad)).2
theorem N7{f:FuncId}{args:List Value}{H:ab}{Q:Value->ab->Prop}(aE:(match dk prog (callFunc f args.toArray)with | some (.value _)=>true | _=>false)=false)(h:a0 prog f args H Q):∃v H1,dK prog (.call f args H) (.val v H1)/\Q v H1:=by
 obtain⟨v,H1,⟨-,aj⟩ | ⟨⟨-,-,aj⟩,-⟩,av⟩:=h
 ·exact⟨v,H1,aj,av⟩
 ·rw[aj]at aE
  cases aE
theorem aah{w:World}{f:FuncId}{args kz:List Value}{ah:ba}{H:ab}(cr:m6 w ah H)(bO:cz ah args kz)(aE:(match dk prog (callFunc f args.toArray)with | some (.value _)=>true | _=>false)=false)
  (h:a0 prog f args H fun v H1=>Ext H H1/\v= .bool true):Calls prog f kz.toArray w fun e gn=>e= .returned (.bool true)/\Below w.heap.size w gn:=by
 obtain⟨u,H1,bl,I,rfl⟩:=N7 aE h
 refine(W9 VW bl (kz:=kz.toArray) (by simpa using bO) cr.1).mono fun e gn he=>?_
 obtain⟨au,bm,rfl,ao,-,cS⟩:=he
 cases ao
 exact⟨rfl,cS.below cr.2⟩
theorem cz.single{ah:ba}{l:List Value}{v:Value}(h:cz ah l [v]):∃u,l=[u]:=by
 match l,h.1 with
 | [u],_=>exact⟨u,rfl⟩
end Go.b9
end
section
set_option maxRecDepth 8000
set_option maxHeartbeats 1000000
namespace Go.b9
attribute [-simp] fJ gN hI
end Go.b9
end
section
set_option maxRecDepth 8000
set_option maxHeartbeats 1000000
namespace Go.b9
theorem fT.get{t:List (List Int)}(ao:fT t){i k:Nat}(ad:i<t.length)(ai:k<(t[0]?.getD []).length):∃r x,t[i]?=some r/\r∈t/\r[k]?=some x/\x∈r/\et t i k=x/\0<=x/\x<=1000:=by
 have aj:=bx ad
 have hm:=List.getElem_mem ad
 have ar:=ao.len _ hm
 have I:=bx (l:=t[i]) (i:=k) (by omega)
 have KF:=List.getElem_mem (l:=t[i]) (n:=k) (by omega)
 refine⟨_,_,aj,hm,I,KF,?_,((xY.1 ao).2 _ hm).2 _ KF⟩
 unfold et
 rw[aj]
 simp[I]
theorem MG{m:Nat}{t:List (List Int)}:(eg m t).length=m:=by simp[eg]
end Go.b9
end
section
set_option maxRecDepth 8000
set_option maxHeartbeats 1000000
namespace Go.b9
open Go.Proofs
open Go.Proofs.Try (prog)
attribute [-simp] fJ gN hI
def sW(t:List (List Int)):Prop:=fT t/\t.length=(t[0]?.getD []).length/\∀i,i<t.length->(t[i]?.getD []).sum=(t[0]?.getD []).sum/\((eg t.length t)[i]?.getD []).sum=(t[0]?.getD []).sum
theorem HE{a b:Rat}:(if a<b then(-1:Int)else if a=b then 0 else 1)=0↔a=b:=by
 by_cases h:a<b
 ·rw[if_pos h]
  exact⟨fun h=>by omega,fun e=>absurd (e▸h) Rat.lt_irrefl⟩
 ·rw[if_neg h]
  by_cases e:a=b
  ·rw[if_pos e];exact⟨fun _=>e,fun _=>rfl⟩
  ·rw[if_neg e];exact⟨fun h=>by omega,fun h=>absurd h e⟩
theorem Vz{v:Value}{t:List (List Int)}{H:ab}(bc:e9 H v t)(ar:t.length<65536)(aj:∀r∈t,r.length<65536):
  a0 prog 13 [v] H (fun u H1=>Ext H H1/\∃b,u= .bool b/\(b=true↔sW t)):=by
 refine a0.cq fun Q aG=>?_
 obtain⟨m,hm⟩:∃m,m=(t[0]?.getD []).length:=⟨_,rfl⟩
 apply UJ (by simp)
 simp only[G0]
 refine bV.fZ fun cu cv=>?_
 simp
 refine cv _ _ _ ?_
 clear cv
 refine bV.fZ fun cu cv=>?_
 simp only[kp]
 refine bV.join (by kernel_rfl) (fun az bC H1=>Ext H H1/\∃bad,az 17= .bool bad/\(bad=false↔fT t/\t.length=m)) ?_ ?_
 ·rintro cT ee-
  simp
  refine a7.mk (A6 (Row.xi bc) (by omega) fun r h=>by have:=aj r h;omega) ?_
  rintro u H1 ⟨bI,rfl⟩
  simp
  by_cases ao:fT t
  ·have aH:=ao.1
   refine Exists.elim (⟨_,bx (show 0<t.length by omega)⟩:∃p,t[0]?=some p) fun j1 ph=>?_
   have eV:j1.length=m:=by rw[hm,ph];rfl
   have jl:=bM.ext (af:=e9) bc bI
   simp[ao]
   refine cY (af:=dj) (xs:=t) (by simpa using jl) (by simp) ?_
   simp
   refine mV (af:=dj) (xs:=t) (n:=0) (a:=j1) (e:=25) (J:=1) (ay:=false) (by simp[ao]) (by decide) (by simpa using jl) (by simp) ph (by simp) (by simp) (by simp) (by decide) ?_
   rintro eM pK kj
   try simp[ao]
   refine cY (af:=IR) (xs:=j1) (by simpa using kj) (by simp) ?_
   simp only[eV]
   simp
   exact ee _ _ _ ⟨bI,decide (t.length≠m),by simp;omega,by simp[ao]⟩
  ·simp[ao]
   exact ee _ _ _ ⟨bI,true,by simp,by simp[ao]⟩
 rintro az bC H1 ⟨bI,bad,B3,jP⟩
 simp only[jY]at B3
 simp at B3
 simp[B3]
 refine bG.mk (fun ae=>?_) (fun ae=>?_)
 ·simp[bj]
  refine aG _ _ ⟨bI,false,by simp,⟨fun h=>(by cases h),fun h=>?_⟩⟩
  have:=jP.2 ⟨h.1,by rw[hm];exact h.2.1⟩
  rw[ae]at this
  cases this
 have pj:=jP.1 ae
 obtain⟨ao,ud⟩:=pj
 have an:=ao.small
 have fp:=ao.len
 have v1:=ao.1
 have v2:=ao.2.1
 rw[<-hm]at fp
 have cS:=an.fA (m:=m) (by omega)
 have jl:=bM.ext (af:=e9) bc bI
 refine cv _ _ _ ?_
 clear cv
 refine bV.fZ fun cu cv=>?_
 simp
 refine a7.mk (xD jl (by omega) aj fun r h x I=>by have:=(an r h).2 x I;omega) ?_
 rintro _ aY ⟨bu,yk,yy,rfl,lG⟩
 simp
 have bP:Ext aY (aY++[.dead]):=Ext.dead aY
 refine cv _ _ _ ?_
 clear cv
 have wS:∀r∈cm t,r.length=m:=fun r h=>by
  unfold cm at h
  rw[List.mem_map]at h
  obtain⟨di,b7,rfl⟩:=h
  simpa using fp di b7
 refine bV.fZ fun cu cv=>?_
 simp
 refine a7.mk (E5 (m:=m) (lG.ext bP) (by simp[cm];omega) (by simp[cm];omega) wS (by omega)) ?_
 rintro u bR ⟨b5,q_,rfl,so⟩
 rw[EB]at so
 obtain⟨Bs,BA,rfl⟩:=Row.len so
 simp
 have c1:Ext bR (bR++[.dead]):=Ext.dead bR
 refine cv _ _ _ ?_
 clear cv
 have Qt:=lG.ext (bP.aB (b5.aB c1))
 have QW:=so.ext c1
 have r9:(cm t).length=t.length:=by simp[cm]
 have ju:(cm (eg m t)).length=m:=by simp[cm,eg]
 have Dp:∀r∈cm t,r.length<4611686018427387904:=fun r h=>by have:=wS r h;omega
 have oh:∀r∈cm (eg m t),r.length<4611686018427387904:=fun r h=>by
  unfold cm eg at h
  simp at h
  obtain⟨k,-,rfl⟩:=h
  simp;omega
 refine Exists.elim (uQ (t:=cm t) (i:=0) (by omega)) fun dS eV=>?_
 have qZ:c4 64 (ep dS):=an.gM.sum eV.2.1
 have Ex:ep dS=(((t[0]?.getD []).sum:Int):Rat):=by rw[<-eV.2.2,uM]
 refine bV.fZ fun cu cv=>?_
 simp
 refine cY (af:=dj) (xs:=t) (by simpa using bM.ext (af:=e9) jl (bu.aB (bP.aB (b5.aB c1)))) (by simp) ?_
 simp
 refine dy.range (by kernel_rfl) t.length (by omega) (by simp) (by rfl) (by simp) (by decide) (by decide) (fun i m0 pU dX=>Ext (bR++[.dead]) dX/\∀a,a<i->(t[a]?.getD []).sum=(t[0]?.getD []).sum/\((eg t.length t)[a]?.getD []).sum=(t[0]?.getD []).sum) ⟨Ext.refl _,fun a h=>by omega⟩ ?_ ?_
 ·rintro i m0 pU dX ad a2 ⟨cH,cQ⟩ K a1
  simp at a2
  refine Exists.elim (uQ (t:=cm t) (i:=i) (by omega)) fun h0 jV=>?_
  refine Exists.elim (uQ (t:=cm (eg m t)) (i:=i) (by omega)) fun uK pg=>?_
  have WI:ep h0=(((t[i]?.getD []).sum:Int):Rat):=by rw[<-jV.2.2,uM]
  have WJ:ep uK=((((eg m t)[i]?.getD []).sum:Int):Rat):=by rw[<-pg.2.2,uM]
  have Cs:=Qt.ext cH
  have QX:=QW.ext cH
  simp[a2]
  try simp only[kp]
  refine bV.join (by kernel_rfl) (fun kW ku cE=>Ext dX cE/\∃bad,kW 42= .bool bad/\(bad=false↔(t[i]?.getD []).sum=(t[0]?.getD []).sum/\((eg m t)[i]?.getD []).sum=(t[0]?.getD []).sum)) ?_ ?_
  ·rintro m4 fN-
   simp
   refine a7.mk (pz (N:=64) (j:=i) (row:=h0) (by simpa using Cs) jV.1 (Dp _ jV.2.1) (by omega) (an.gM _ jV.2.1).1 (an.gM _ jV.2.1).2 (by decide)) ?_
   rintro aaf cE ⟨cA,om⟩
   refine⟨cA,?_⟩
   simp
   refine a7.mk (pz (N:=64) (j:=0) (row:=dS) (by simpa using Cs.ext cA) eV.1 (Dp _ eV.2.1) (by omega) (an.gM _ eV.2.1).1 (an.gM _ eV.2.1).2 (by decide)) ?_
   rintro aag eE ⟨c9,Tp⟩
   simp
   refine a7.mk (uG (N:=64) (om.ext c9) Tp (an.gM.sum jV.2.1) qZ (by decide)) ?_
   rintro _ e8 ⟨dA,rfl⟩
   have zW:=cA.aB (c9.aB dA)
   have key:((if ep h0<ep dS then(-1:Int)else if ep h0=ep dS then 0 else 1)=0)↔(t[i]?.getD []).sum=(t[0]?.getD []).sum:=by
    rw[HE,WI,Ex]
    exact Rat.intCast_inj
   refine Exists.elim (⟨_,rfl⟩:∃yn,yn=(if ep h0<ep dS then(-1:Int)else if ep h0=ep dS then 0 else 1)) fun yn Ro=>?_
   rw[<-Ro]at key⊢
   by_cases aH:yn=0
   ·simp[aH]
    refine a7.mk (pz (N:=64) (j:=i) (row:=uK) (by simpa using QX.ext zW) pg.1 (oh _ pg.2.1) (by omega) (cS.gM _ pg.2.1).1 (cS.gM _ pg.2.1).2 (by decide)) ?_
    rintro aab mb ⟨fF,DM⟩
    refine⟨fF,?_⟩
    simp[aH]
    refine a7.mk (pz (N:=64) (j:=0) (row:=dS) (by simpa using Cs.ext (zW.aB fF)) eV.1 (Dp _ eV.2.1) (by omega) (an.gM _ eV.2.1).1 (an.gM _ eV.2.1).2 (by decide)) ?_
    rintro aac hU ⟨fP,Tn⟩
    simp[aH]
    refine a7.mk (uG (N:=64) (DM.ext fP) Tn (cS.gM.sum pg.2.1) qZ (by decide)) ?_
    rintro _ h3 ⟨hG,rfl⟩
    have KT:((if ep uK<ep dS then(-1:Int)else if ep uK=ep dS then 0 else 1)=0)↔((eg m t)[i]?.getD []).sum=(t[0]?.getD []).sum:=by
     rw[HE,WJ,Ex]
     exact Rat.intCast_inj
    refine Exists.elim (⟨_,rfl⟩:∃vv,vv=(if ep uK<ep dS then(-1:Int)else if ep uK=ep dS then 0 else 1)) fun vv Rn=>?_
    rw[<-Rn]at KT⊢
    simp[aH]
    refine fN _ _ _ ⟨zW.aB (fF.aB (fP.aB hG)),decide (vv≠0),by simp,?_⟩
    rw[<-KT]
    simp[key.1 aH]
   ·simp[aH]
    refine fN _ _ _ ⟨zW,true,by simp,⟨fun h=>(by cases h),fun h=>absurd (key.2 h.1) aH⟩⟩
  rintro kW ku cE ⟨cA,bad,tm,jP⟩
  simp only[jY]at tm
  simp at tm
  simp[tm]
  refine bG.mk (fun ae=>?_) (fun ae=>?_)
  ·simp[bj]
   refine aG _ _ ⟨bI.aB (bu.aB (bP.aB (b5.aB (c1.aB (cH.aB cA))))),false,by simp,⟨fun h=>(by cases h),fun h=>?_⟩⟩
   have o:=h.2.2 i ad
   rw[ud]at o
   have:=jP.2 o
   rw[ae]at this
   cases this
  ·have o:=jP.1 ae
   have e:∀a,a<i+1->(t[a]?.getD []).sum=(t[0]?.getD []).sum/\((eg t.length t)[a]?.getD []).sum=(t[0]?.getD []).sum:=fun a aF=>by
    by_cases jO:a=i
    ·subst jO
     rw[ud]
     exact o
    ·exact cQ a (by omega)
   exact a1 _ _ _ (by simp[a2]) ⟨cH.aB cA,e⟩
 ·intro m0 pU dX
  rintro gC ⟨cH,cQ⟩
  refine cv _ _ _ ?_
  simp[bj]
  exact aG _ _ ⟨bI.aB (bu.aB (bP.aB (b5.aB (c1.aB cH)))),true,by simp,⟨fun _=>⟨ao,by rw[<-hm];exact ud,cQ⟩,fun _=>rfl⟩⟩
end Go.b9
end
section
set_option maxRecDepth 8000
set_option maxHeartbeats 1000000
namespace Go.b9
def ln(p:Int×List Int)(i k:Nat):Int:=if p.2[i]?=some (k:Int)then p.1 else 0
def g4:List (Int×List Int)->Nat->Nat->Int
 | [],_,_=>0
 | p::aZ,i,k=>ln p i k+g4 aZ i k
theorem Ll(a b:List (Int×List Int))(i k:Nat):g4 (a++b) i k=g4 a i k+g4 b i k:=by
 induction a with
 | nil=>simp[g4]
 | cons p a aV=>simp only[List.cons_append,g4];rw[aV];omega
def x9(n:Nat)(l:List Int)(i:Nat):Prop:=∃k:Nat,k<n/\l[i]?=some (k:Int)/\(k:Int)∉l.take i
def lz(n:Nat)(l:List Int):Prop:=l.length=n/\∀i,i<n->x9 n l i
def pC(n:Nat):Nat:=(n-1)*(n-1)+1
theorem VZ{n:Nat}(aE:0<n):(n:Int)*(n:Int)-2*(n:Int)+2=(pC n:Int):=by
 obtain⟨r,rfl⟩:∃r,n=r+1:=⟨n-1,by omega⟩
 unfold pC
 rw[Nat.add_sub_cancel]
 simp only[Int.natCast_add,Int.natCast_mul,Int.natCast_one,Int.add_mul,Int.mul_add,Int.one_mul,Int.mul_one]
 omega
def ve(n:Nat)(A:Nat->Nat->Int)(a9:List (Int×List Int)):Prop:=a9.length<=pC n/\(∀p∈a9,1<=p.1/\lz n p.2)/\∀i k,i<n->k<n->g4 a9 i k=A i k
theorem lz.inj{n:Nat}{l:List Int}(h:lz n l){i j k:Nat}(ad:l[i]?=some (k:Int))(aQ:l[j]?=some (k:Int)):i=j:=by
 have key:∀{i j:Nat},i<j->l[i]?=some (k:Int)->l[j]?=some (k:Int)->False:=fun{i j} nv ad aQ=>by
  have fO:=(cd.1 aQ).1
  rw[h.1]at fO
  obtain⟨bK,-,aM,bh⟩:=h.2 j fO
  rw[aQ]at aM
  have:(k:Int)=(bK:Int):=Option.some.inj aM
  rw[<-this]at bh
  refine bh (List.mem_iff_getElem?.2 ⟨i,?_⟩)
  rw[List.getElem?_take_of_lt nv]
  exact ad
 rcases Nat.lt_trichotomy i j with o | o | o
 ·exact(key o ad aQ).elim
 ·exact o
 ·exact(key o aQ ad).elim
def m3(n:Nat)(l:List Int)(i:Nat)(gd:List Int):Prop:=gd.length=n/\∀k,k<n->(gd[k]?=some (-1)/\(k:Int)∉l.take i)\/∃j:Nat,j<i/\gd[k]?=some (j:Int)/\l[j]?=some (k:Int)
theorem m3.zero(n:Nat)(l:List Int):m3 n l 0 (List.replicate n (-1)):=⟨by simp,fun k ai=> .inl ⟨by simp[ai],by simp⟩⟩
theorem m3.next{n i k:Nat}{l gd:List Int}(h:m3 n l i gd)(ai:k<n)(I:l[i]?=some (k:Int)):m3 n l (i+1) (gd.set k (i:Int)):=by
 refine⟨by rw[List.length_set];exact h.1,fun bK ic=>?_⟩
 by_cases e:bK=k
 ·subst e
  exact .inr ⟨i,by omega,List.getElem?_set_self (by rw[h.1];exact ai),I⟩
 ·rw[List.getElem?_set_ne (Ne.symm e)]
  rcases h.2 bK ic with⟨aS,aM⟩ | ⟨j,aS,aM,bh⟩
  ·refine .inl ⟨aS,?_⟩
   rw[List.take_add_one,I,List.mem_append]
   rintro(h | h)
   ·exact aM h
   ·simp at h;omega
  ·exact .inr ⟨j,by omega,aM,bh⟩
theorem m3.seen{n i k:Nat}{l gd:List Int}(h:m3 n l i gd)(ai:k<n):∃x,gd[k]?=some x/\(0<=x↔(k:Int)∈l.take i):=by
 rcases h.2 k ai with⟨aS,aM⟩ | ⟨j,aS,aM,bh⟩
 ·exact⟨_,aS,⟨fun h=>by omega,fun h=>absurd h aM⟩⟩
 ·refine⟨_,aM,⟨fun _=>?_,fun _=>by omega⟩⟩
  refine List.mem_iff_getElem?.2 ⟨j,?_⟩
  rw[List.getElem?_take_of_lt aS]
  exact bh
def lU(n:Nat)(l:List Int):List Int:=(List.range n).map fun k:Nat=>if(k:Int)∈l then(l.idxOf (k:Int):Int)else-1
theorem m3.all{n:Nat}{l gd:List Int}(aT:lz n l)(h:m3 n l n gd):gd=lU n l:=by
 refine List.ext_getElem? fun k=>?_
 by_cases ai:k<n
 ·unfold lU
  rw[List.getElem?_map,List.getElem?_range ai]
  have bt:l.take n=l:=List.take_of_length_le (by rw[aT.1];exact Nat.le_refl _)
  rcases h.2 k ai with⟨aS,aM⟩ | ⟨j,aS,aM,bh⟩
  ·rw[bt]at aM
   rw[aS]
   simp[aM]
  ·have hm:(k:Int)∈l:=List.mem_of_getElem? bh
   have a3:l.idxOf (k:Int)<l.length:=List.idxOf_lt_length_of_mem hm
   have e:l[l.idxOf (k:Int)]?=some (k:Int):=by rw[bx a3,List.getElem_idxOf]
   rw[aM,aT.inj bh e]
   simp[hm]
 ·rw[List.getElem?_eq_none (by rw[h.1];omega),List.getElem?_eq_none (by simp[lU];omega)]
theorem z0{n:Nat}{l:List Int}(aT:lz n l){i k:Nat}(ai:k<n):(lU n l)[k]?=some (i:Int)↔l[i]?=some (k:Int):=by
 unfold lU
 rw[List.getElem?_map,List.getElem?_range ai]
 by_cases hm:(k:Int)∈l
 ·have a3:l.idxOf (k:Int)<l.length:=List.idxOf_lt_length_of_mem hm
  have e:l[l.idxOf (k:Int)]?=some (k:Int):=by rw[bx a3,List.getElem_idxOf]
  simp only[Option.map_some,if_pos hm,Option.some.injEq]
  constructor
  ·intro h
   have:l.idxOf (k:Int)=i:=by omega
   rw[<-this];exact e
  ·intro h
   rw[aT.inj h e]
 ·simp only[Option.map_some,if_neg hm,Option.some.injEq]
  constructor
  ·intro h;omega
  ·intro h;exact absurd (List.mem_of_getElem? h) hm
theorem Vh{n:Nat}{l:List Int}(aT:lz n l):vc n n (lU n l):=by
 have ar:(lU n l).length=n:=by simp[lU]
 refine D6.2 ⟨ar,fun k ai=>?_⟩
 by_cases hm:(k:Int)∈l
 ·obtain⟨i,ad⟩:=List.mem_iff_getElem?.1 hm
  have cU:=(cd.1 ad).1
  rw[aT.1]at cU
  have o:=(z0 aT ai).2 ad
  refine⟨(i:Int),o,by omega,by omega,fun _ gj=>?_⟩
  obtain⟨bK,ic⟩:=List.mem_iff_getElem?.1 gj
  have jS:bK<k:=by
   have:=(cd.1 ic).1
   rw[List.length_take]at this
   omega
  rw[List.getElem?_take_of_lt jS]at ic
  have aa:=(z0 aT (by omega)).1 ic
  rw[ad]at aa
  have:=Option.some.inj aa
  omega
 ·refine⟨-1,?_,by omega,by omega,fun h=>by omega⟩
  unfold lU
  rw[List.getElem?_map,List.getElem?_range ai]
  simp[hm]
def iN(n:Nat)(p:Int×List Int):List Nat×List Int:=(fu ((p.1:Int):Rat),lU n p.2)
theorem HK{c:Int}(o: -9223372036854775808<=c)(aa:c<9223372036854775808):kx ((c:Int):Rat):=(c4.int (N:=64) (by omega) (by decide)).Af (by decide)
theorem HJ{n:Nat}{p:Int×List Int}(aT:1<=p.1/\lz n p.2)(ag:p.1<9223372036854775808):pZ n n (iN n p)/\Bytes (iN n p).1/\(iN n p).1.length<4611686018427387904/\(iN n p).2.length<n+1/\hA (iN n p).1=((p.1:Int):Rat):=by
 have iU:=HK (c:=p.1) (by omega) ag
 have o:=xy iU
 have aa:=LD o.1
 refine⟨⟨⟨o.1,?_,by simp[iN,lU]⟩,Vh aT.2⟩,Lt _,?_,by simp[iN,lU],Ag iU⟩
 ·show 0<hA (fu _)
  rw[Ag iU]
  have:((0:Int):Rat)<((p.1:Int):Rat):=Rat.intCast_lt_intCast.2 (by omega)
  exact this
 ·show(fu _).length<_
  omega
theorem Ws{n:Nat}{a9:List (Int×List Int)}(h:∀p∈a9,1<=p.1/\lz n p.2)(ag:∀p∈a9,p.1<9223372036854775808){i k:Nat}(ad:i<n)(ai:k<n):gX (parts (a9.map (iN n))) i k=((g4 a9 i k:Int):Rat):=by
 induction a9 with
 | nil=>rfl
 | cons p a9 aV=>
  have o:=aV (fun q av=>h q (by simp[av])) fun q av=>ag q (by simp[av])
  have aa:=(HJ (h p (by simp)) (ag p (by simp))).2.2.2.2
  have e:gX (parts ((p::a9).map (iN n))) i k=gJ (hA (iN n p).1,(iN n p).2) i k+gX (parts (a9.map (iN n))) i k:=rfl
  rw[e,o,aa]
  have bo:g4 (p::a9) i k=ln p i k+g4 a9 i k:=rfl
  rw[bo,Rat.intCast_add]
  congr 1
  unfold gJ ln
  show(if(lU n p.2)[k]?=some (i:Int)then((p.1:Int):Rat)else 0)=_
  by_cases av:p.2[i]?=some (k:Int)
  ·rw[if_pos av,if_pos ((z0 (h p (by simp)).2 ai).2 av)]
  ·rw[if_neg av,if_neg (fun b7=>av ((z0 (h p (by simp)).2 ai).1 b7))]
   rfl
end Go.b9
end
section
set_option maxRecDepth 8000
set_option maxHeartbeats 1000000
namespace Go.b9
open Go.Proofs
open Go.Proofs.Try (prog)
attribute [-simp] fJ gN hI
def fs(H:ab)(v:Value)(p:Int×List Int):Prop:=∃a n c,v= .agg #[.int .i64 p.1,.slice a n c]/\Row 3 1 false IR H (.slice a n c) p.2
instance:bM fs:=⟨fun⟨a,n,c,h,o⟩ I=>⟨a,n,c,h,bM.ext (af:=Row _ _ _ IR) o I⟩⟩
theorem fs.iv{H:ab}{v:Value}{p:Int×List Int}(h:fs H v p):Whole prog 27 v:=by
 obtain⟨a,n,c,rfl,-⟩:=h
 exact⟨by rfl,by simp[Value.cells,Value.oneCell'],by simp[eB]⟩
theorem fs.kept{H aC:ab}{e:Nat}{s v:Value}{p:Int×List Int}(h:fs H v p)(ai:Kept H aC s e)(aa:3≠e):fs aC v p:=by
 obtain⟨a,n,c,rfl,aM⟩:=h
 exact⟨a,n,c,rfl,aM.kept ai aa fun _ _ h=>h⟩
theorem Lk{n:Nat}(aE:0<n)(qw:n<=8):∃y,IntKind.i64.wrap ((n:Int)*(n:Int))=(y:Int)/\∃x,IntKind.i64.wrap (2*(n:Int))=(x:Int)/\∃z,IntKind.i64.wrap ((y:Int)-(x:Int))=(z:Int)/\IntKind.i64.wrap ((z:Int)+2)=(pC n:Int)/\pC n<=50:=by
 have o:=VZ aE
 have aa:n*n<=8*8:=Nat.mul_le_mul qw qw
 have aD:(n:Int)*(n:Int)=((n*n:Nat):Int):=by simp
 have bD:pC n<=50:=by
  unfold pC
  have:(n-1)*(n-1)<=7*7:=Nat.mul_le_mul (by omega) (by omega)
  omega
 refine⟨_,cP (by omega) (by omega),_,cP (by omega) (by omega),_,cP (by omega) (by omega),?_,bD⟩
 rw[o]
 exact cP (by omega) (by omega)
theorem VR{v w:Value}{t:List (List Int)}{a9:List (Int×List Int)}{H:ab}(bc:e9 H v t)(ar:t.length<65536)(aj:∀r∈t,r.length<65536)(h9:Row 27 2 true fs H w a9)(n1:∀p∈a9,-9223372036854775808<=p.1/\p.1<9223372036854775808)(hlen:∀p∈a9,p.2.length<65536)(iV:a9.length<65536):
  a0 prog 7 [v,w] H (fun u H1=>Ext H H1/\(¬sW t->u= .tuple #[.bool false,.int .i64 1])/\(sW t->∃b,u= .tuple #[.bool b,.int .i64 0]/\(b=true↔ve t.length (et t) a9))):=by
 refine a0.cq fun Q aG=>?_
 apply UG (by simp)
 simp only[GX]
 refine bV.fZ fun cu cv=>?_
 simp
 refine cv _ _ _ ?_
 clear cv
 refine bV.fZ fun cu cv=>?_
 simp
 refine a7.mk (Vz bc ar aj) ?_
 rintro _ H1 ⟨bI,gQ,rfl,mr⟩
 simp
 refine bG.mk (fun ae=>?good) (fun ae=>?bad)
 case bad=>
  simp[bj]
  exact aG _ _ ⟨bI,fun _=>rfl,fun h=>by rw[mr.2 h]at ae;cases ae⟩
 have cr:=mr.1 ae
 have ao:=cr.1
 refine Exists.elim (⟨_,rfl⟩:∃n,n=t.length) fun n aE=>?_
 have hm:(t[0]?.getD []).length=n:=by rw[aE];exact cr.2.1.symm
 have kK:0<n:=by have:=ao.1;omega
 have qw:n<=8:=by have:=ao.2.1;omega
 have Cr:∀b aC,Ext H aC->(b=true↔ve n (et t) a9)->Q (.tuple #[.bool b,.int .i64 0]) aC:=fun b aC I ae=>aG _ _ ⟨I,fun h=>absurd cr h,fun _=>⟨b,rfl,by rw[<-aE];exact ae⟩⟩
 clear aG
 have jl:=bM.ext (af:=e9) bc bI
 have tu:=bM.ext (af:=Row _ _ _ fs) h9 bI
 refine cv _ _ _ ?_
 clear cv
 refine bV.fZ fun cu cv=>?_
 simp
 refine cY (af:=dj) (xs:=t) (by simpa using jl) (by simp) ?_
 simp only[<-aE]
 simp
 refine cv _ _ _ ?_
 clear cv
 refine Exists.elim (Lk kK qw) fun y aJ=>Exists.elim aJ.2 fun x I=>Exists.elim I.2 fun z aP=>?_
 have aev:=aP.2.2
 refine bV.fZ fun cu cv=>?_
 simp
 refine cY (af:=fs) (xs:=a9) (by simpa using tu) (by simp) ?_
 simp[aJ.1,I.1,aP.1,aP.2.1]
 refine bG.cC (fun ae=>?_) (fun ae=>?_)
 ·simp[bj]
  exact Cr false _ bI ⟨fun h=>(by cases h),fun h=>by have:=h.1;omega⟩
 have wB:a9.length<=pC n:=by omega
 refine cv _ _ _ ?_
 clear cv
 refine bV.fZ fun cu cv=>?_
 simp
 refine cv _ _ _ ?_
 clear cv
 refine bV.fZ fun cu cv=>?_
 simp
 refine cY (af:=fs) (xs:=a9) (by simpa using tu) (by simp) ?_
 simp
 have fail:∀mc,Ext H mc->(¬∀p∈a9,1<=p.1/\lz n p.2)->Q (.tuple #[.bool false,.int .i64 0]) mc:=fun mc I hF=>Cr false mc I ⟨fun h=>(by cases h),fun h=>absurd h.2.1 hF⟩
 refine dy.range (by kernel_rfl) a9.length (by omega) (by simp) (by rfl) (by simp) (by decide) (by decide) (fun s kW ku cE=>Ext H1 cE/\(∀p∈a9.take s,1<=p.1/\lz n p.2)/\bz H1.length 48 2 true gA cE (kW 7) ((a9.take s).map (iN n))) ?_ ?_ ?_
 ·exact⟨Ext.refl _,by simp,by simpa using bz.nil _ _ _ _ _ _⟩
 ·rintro s kW ku cE an ni ⟨cA,mA,hp⟩ K a1
  simp at ni hp
  refine Exists.elim (⟨_,bx an⟩:∃p,a9[s]?=some p) fun p aT=>?_
  have jt:=List.mem_of_getElem? aT
  have zy:=n1 p jt
  have kh:=hlen p jt
  have ts:=bI.aB cA
  simp[ni]
  refine cK (af:=fs) (xs:=a9) (n:=s) (a:=p) (e:=27) (J:=2) (ay:=true) (by simpa using bM.ext (af:=Row _ _ _ fs) h9 ts) (by simp[ni]) aT (by simp) (by simp) (by simp) (by decide) ?_
  rintro qU u8 ⟨s4,V5,ta,rfl,rW⟩
  refine Exists.elim (Row.len rW) fun abW h=>Exists.elim h fun yn h=>?_
  have BN:V5=p.2.length:=by injection h
  rw[BN]at rW⊢
  simp
  have hs:=Ext.dead cE
  have RR:=bM.ext (af:=dj) rW hs
  refine bV.join (by kernel_rfl) (fun pS pV e8=>e8=cE++[.dead]/\pS 48= .bool (!decide (1<=p.1/\p.2.length=n))) ?_ ?_
  ·rintro cT ee-
   simp
   by_cases o:p.1<1
   ·simp[o]
    exact ee _ _ _ ⟨rfl,by simp;omega⟩
   ·simp[o]
    refine cY (af:=IR) (xs:=p.2) (by simpa using RR) (by simp) ?_
    simp[o]
    refine ee _ _ _ ⟨rfl,?_⟩
    have:1<=p.1:=by omega
    simp[this]
    omega
  rintro pS pV e8 ⟨rfl,qa⟩
  simp only[jY]at qa
  simp at qa
  simp[qa]
  refine bG.mk (fun ae=>?_) (fun ae=>?_)
  ·simp at ae
   simp[bj]
   refine fail _ (ts.aB hs) fun cQ=>?_
   have:=cQ p jt
   exact ae.elim (fun h=>by omega) fun h=>h this.2.1
  have pf:1<=p.1/\p.2.length=n:=by simpa using ae
  have Sn:=HK zy.1 zy.2
  simp
  refine a7.mk (xC zy.1 zy.2) ?_
  rintro aab mb ⟨fF,DM⟩
  simp
  refine a7.mk (EI DM (c4.int (N:=64) (by omega) (by decide)) (by decide)) ?_
  rintro q8 hU ⟨fP,H4⟩
  rw[if_pos Sn]at H4
  subst H4
  simp
  refine AR (e:=3) (J:=1) (ay:=false) (z:= .int .i64 0) (af:=IR) (a:= -1) (fun aC _=>by simp[IR]) (by simpa using kS (-1)) (by simp) (by simp) (by simp) (by rfl) (by rfl) (by rfl) (by decide) (by decide) ?_
  intro Ng h3 qd hG
  simp
  refine a7.mk (bz.a9 (L6 (af:=IR) (n:=n) qd.row (by omega) (fun H u y h=>by rw[h];exact kS y) (fun _ _ _ _ _ _ h=>h))) ?_
  rintro _ kX ⟨iE,lV,lW,rfl,jM⟩
  rw[List.length_replicate]at jM⊢
  simp
  have DW:=Ext.dead kX
  have xa:=hs.aB (fF.aB (fP.aB hG))
  have qs:=bM.ext (af:=dj) rW xa
  have Qm:=bM.ext (af:=bz _ _ _ _ gA) hp xa
  have r0:=Ext.len cA
  have JI:=Ext.len xa
  simp only[pf.2]
  refine cY (af:=IR) (xs:=p.2) (by simpa[pf.2]using bM.ext (af:=dj) qs (iE.aB DW)) (by simp) ?_
  simp only[pf.2]
  simp
  refine dy.range (by kernel_rfl) n (by omega) (by simp) (by rfl) (by simp) (by decide) (by decide) (fun i rh sT jc=>Ext h3 jc/\(∀j,j<i->x9 n p.2 j)/\∃gd,m3 n p.2 i gd/\bz h3.length 3 1 false IR jc (.slice lV n lW) gd) ?_ ?_ ?_
  ·exact⟨iE.aB DW,fun j h=>by omega,_,m3.zero _ _,bM.ext (af:=bz _ _ _ _ IR) jM DW⟩
  ·rintro i rh sT jc ad oZ ⟨iF,cQ,gd,mn,qe⟩ m4 fN
   simp at oZ
   have C7:=bM.ext (af:=dj) qs iF
   have PX:=ts.aB (xa.aB iF)
   refine Exists.elim (⟨_,bx (by omega)⟩:∃x,p.2[i]?=some x) fun x I=>?_
   simp[oZ]
   refine cK (af:=IR) (xs:=p.2) (n:=i) (a:=x) (e:=3) (J:=1) (ay:=false) (by simpa[pf.2]using C7) (by simp[oZ]) I (by simp) (by simp) (by simp) (by decide) ?_
   rintro Ep Fb rfl
   simp[oZ]
   refine bV.join (by kernel_rfl) (fun FB NB x8=>x8=jc/\∃bad,FB 83= .bool bad/\(bad=false↔x9 n p.2 i)) ?_ ?_
   ·rintro sV jK-
    by_cases o:x<0
    ·simp[o]
     refine jK _ _ _ ⟨rfl,true,by simp,⟨fun h=>(by cases h),fun h=>?_⟩⟩
     obtain⟨k,aS,aM,bh⟩:=h
     rw[I]at aM
     have:=Option.some.inj aM
     omega
    ·by_cases aa:(n:Int)<=x
     ·simp[o,aa]
      refine jK _ _ _ ⟨rfl,true,by simp,⟨fun h=>(by cases h),fun h=>?_⟩⟩
      obtain⟨k,aS,aM,bh⟩:=h
      rw[I]at aM
      have:=Option.some.inj aM
      omega
     ·refine Exists.elim (⟨x.toNat,by omega⟩:∃k:Nat,x=(k:Int)) fun k ai=>?_
      have JH:k<n:=by omega
      refine Exists.elim (mn.seen JH) fun y aJ=>?_
      have qt:¬(k:Int)<0:=by omega
      have jS:¬(n:Int)<=(k:Int):=by omega
      simp[ai,qt,jS]
      refine mV (af:=IR) (xs:=gd) (n:=k) (a:=y) (e:=3) (J:=1) (ay:=false) (by simp[qt,jS]) (by decide) (by simpa using qe.row) (by simp[ai]) aJ.1 (by simp) (by simp) (by simp) (by decide) ?_
      rintro xz Z2 rfl
      simp[qt,jS]
      refine jK _ _ _ ⟨rfl,decide (0<=y),by simp,?_⟩
      constructor
      ·intro h
       refine⟨k,JH,by rw[I,ai],fun hm=>?_⟩
       have:=aJ.2.2 hm
       simp at h
       omega
      ·rintro⟨bK,aS,aM,bh⟩
       rw[I,ai]at aM
       have e:(k:Int)=(bK:Int):=Option.some.inj aM
       rw[<-e]at bh
       have:¬0<=y:=fun h=>bh (aJ.2.1 h)
       simpa using this
   rintro FB NB x8 ⟨rfl,bad,B9,jP⟩
   simp only[jY]at B9
   simp at B9
   simp[B9]
   refine bG.mk (fun ae=>?_) (fun ae=>?_)
   ·simp[bj]
    refine fail _ PX fun Q6=>?_
    have:=jP.2 ((Q6 p jt).2.2 i ad)
    rw[ae]at this
    cases this
   ·refine Exists.elim (jP.1 ae) fun k ai=>?_
    have nA:x=(k:Int):=by have:=ai.2.1;rw[I]at this;exact Option.some.inj this
    simp[nA,oZ]
    refine ja (k:=h3.length) (e:=3) (J:=1) (ay:=false) (n:=k) (af:=IR) (xs:=gd) (a:=(i:Int)) (by simpa using qe) (by simp[nA]) (by rw[mn.1];exact ai.1) (by simp[oZ,IR]) (by simpa[oZ]using kS _) (by simp) (fun aC de u y ai h=>h) (by simp) (by simp) (by simp) (by decide) ?_
    rintro xz FH qf w9 qu JJ-
    simp at qf
    try simp
    refine fN _ _ _ (by simp[oZ]) ⟨w9 _ (Nat.le_refl _) iF,fun j aQ=>?_,_,mn.next ai.1 ai.2.1,qf⟩
    by_cases fe:j=i
    ·subst fe;exact⟨k,ai⟩
    ·exact cQ j (by omega)
  ·rintro rh sT jc oZ ⟨iF,cQ,gd,mn,qe⟩
   have r6:lz n p.2:=⟨pf.2,cQ⟩
   have P3:=mn.all r6
   rw[P3]at qe
   have iV:gA jc (.agg #[.string (cn (fu ((p.1:Int):Rat))),.slice lV n lW]) (iN n p):=⟨_,_,_,rfl,qe.row⟩
   have Qk:=bM.ext (af:=bz _ _ _ _ gA) Qm iF
   have RZ:=Ext.len iF
   simp
   refine q6 (k:=H1.length) (e:=48) (J:=2) (ay:=true) (bs:=40) (z:= .agg #[.string ⟨#[]⟩,.slice none 0 0]) (af:=gA) (xs:=(a9.take s).map (iN n)) (a:=iN n p) (by simpa using Qk) (by simpa using iV) (by simpa using iV.iv) (by simp) (fun aC de u y ai h=>h.kept ai (by decide)) (by simp) (by simp) (by simp) (by simp) (by simp) (by rfl) (by rfl) (by first | rfl | simp[flat,gB]) (by rfl) (by decide) (by decide) (by decide) (by simp;omega) (by omega) ?_
   intro Wf agl nP yS qJ ze
   try simp
   refine a1 _ _ _ (by simp[ni]) ⟨qJ _ (Nat.le_refl _) (cA.aB (xa.aB iF)),fun q av=>?_,?_⟩
   ·rw[List.take_add_one,aT,List.mem_append]at av
    rcases av with av | av
    ·exact mA q av
    ·simp at av
     subst av
     exact⟨pf.1,r6⟩
   ·rw[List.take_add_one,aT,List.map_append]
    simpa using yS
 ·rintro kW ku cE ni ⟨cA,mA,hp⟩
  rw[List.take_of_length_le (Nat.le_refl _)]at mA hp
  refine cv _ _ _ ?_
  clear cv
  refine bV.fZ fun cu cv=>?_
  simp
  have a3:∀p∈a9,p.1<9223372036854775808:=fun p aT=>(n1 p aT).2
  have cQ:∀q∈a9.map (iN n),pZ n n q/\Bytes q.1/\q.1.length<4611686018427387904/\q.2.length<65536:=fun q av=>by
   rw[List.mem_map]at av
   obtain⟨p,aT,rfl⟩:=av
   have:=HJ (mA p aT) (a3 p aT)
   exact⟨this.1,this.2.1,this.2.2.1,by omega⟩
  have an:=ao.small
  have y9:e6 n n (cm t):=Ar aE.symm (fun r h=>by rw[ao.len r h];exact hm)
  refine a7.mk (HZ (n:=n) (m:=n) hp.row (fun q av=>(cQ q av).2.1) (fun q av=>⟨(cQ q av).2.2.1,(cQ q av).2.2.2⟩) (by rw[List.length_map];omega) kK kK (by omega) (by omega)) ?_
  rintro _ eE ⟨c9,AN,AP,AO,hb,ach,rfl,zo,CM,qk⟩
  have Rb:=CM.2 ⟨fun q av=>(cQ q av).1,by rw[List.length_map];omega⟩
  subst Rb
  refine Exists.elim (qk rfl) fun B oY=>?_
  have fD:∀i k,i<n->k<n->bN B i k=((g4 a9 i k:Int):Rat):=fun i k ad ai=>by rw[oY.2.2.1 i k ad ai,Ws mA a3 ad ai]
  have zK:=EY (a9:=a9.map (iN n)) fun q av=>(cQ q av).1.1.1
  have dA:Ext eE (eE++[.dead,.dead]):=Ext.more eE (by simp)
  simp
  refine ev.mk zo ?_
  simp
  refine cv _ _ _ ?_
  clear cv
  have hX:=cA.aB (c9.aB dA)
  simp[uZ]
  refine a7.mk (xD (bM.ext (af:=e9) jl hX) (by omega) aj fun r h x I=>by have:=(an r h).2 x I;omega) ?_
  rintro _ mb ⟨fF,yk,yy,rfl,lG⟩
  refine⟨fF,?_⟩
  simp
  refine a7.mk (Me (N:=64) (M:=iJ (a9.map (iN n)).length) lG (oY.1.ext (dA.aB fF)) y9 oY.2.1 (by omega) (by omega) (fun i k _ _=>H6 an i k) (fun i k ad ai=>by rw[oY.2.2.1 i k ad ai];exact zK.2 i k) (by unfold iJ;rw[List.length_map];omega)) ?_
  rintro _ hU ⟨fP,NQ,rfl,Q_⟩
  simp[bj]
  refine Cr NQ _ (bI.aB (hX.aB (fF.aB fP))) ?_
  rw[Q_]
  constructor
  ·intro h
   refine⟨wB,mA,fun i k ad ai=>?_⟩
   have:=h i k ad ai
   rw[fD i k ad ai,sB]at this
   exact(Rat.intCast_inj.1 this).symm
  ·intro h i k ad ai
   rw[fD i k ad ai,h.2.2 i k ad ai,sB]
   rfl
section
variable {r:List br} {F:Fr} {H:ab} {Q:Fr->ab->Prop}
theorem AD{v:Value}{a9:List (Int×List Int)}{n:Nat}{a:Int×List Int}(bl:Row 27 2 true fs H v a9)(aF:a9[n]?=some a):∃b U cap X all fj fk,v= .slice (some ⟨b,U,none⟩) a9.length cap/\H[b]?=some X/\X.cells?=some all/\all[U+n*2]?=some (.int .i64 a.1)/\all[U+n*2+1]?=some (.slice fj a.2.length fk)/\dj H (.slice fj a.2.length fk) a.2:=by
 obtain⟨b,U,cap,X,all,⟨ao,aR,ag,bq,hu⟩ | ⟨aS,aM⟩⟩:=bl.at aF
 ·simp only[if_true]at hu
  obtain⟨fj,jA,fk,he,aa⟩:=hu
  obtain⟨ej,dL,rU⟩:=aa.len
  simp at rU
  obtain⟨rfl,rfl,rfl⟩:=rU
  simp at he
  refine⟨b,U,cap,X,all,fj,fk,ao,aR,ag,?_,?_,aa⟩
  ·have:=congrArg (fun l:List Value=>l[0]?) he
   simpa[List.getElem?_take,List.getElem?_drop]using this
  ·have:=congrArg (fun l:List Value=>l[1]?) he
   simpa[List.getElem?_take,List.getElem?_drop]using this
 ·cases aS
theorem E8{d t d1 d2 n:Nat}{x i:Operand}{a9:List (Int×List Int)}{a:Int×List Int}{aw:a_ (bb d t x i::bk d1 27 (T d) 0::aO d2 3 (T d1)::r) Q}(bl:Row 27 2 true fs H (aq F x) a9)(ad:aq F i= .int .i64 (n:Int))(aF:a9[n]?=some a)
  (bt:eO prog t=some 27)(K:∀p q,a8 prog r Q .mk (aX (aX (aX F d p) d1 q) d2 (.int .i64 a.1)) H):a8 prog (bb d t x i::bk d1 27 (T d) 0::aO d2 3 (T d1)::r) Q aw F H:=by
 have ar:n<a9.length:=(cd.1 aF).1
 obtain⟨b,U,cap,X,all,fj,fk,ao,aR,ag,aH,o,aa⟩:=AD bl aF
 rw[fJ,ao,ad,oO,m9,bt,eY,show bn prog 27=some 2 by rfl,eY,oM]
 refine df.mk ⟨by omega,by omega⟩ ?_
 rw[AS]
 simp only[kD,hJ,mf,show gf prog 27 0=some 0 by rfl,eY,Nat.add_zero]
 rw[uW]
 simp only[kD,hJ,mf,aR,Option.bind_some,ag,eY,show c_ prog 3=some false by rfl,Int.toNat_natCast,sQ,aH]
 exact K _ _
theorem Yj{j d t d1 d2 n:Nat}{w:Bool}{x i:Operand}{a9:List (Int×List Int)}{a:Int×List Int}{aw:a_ (bb d t x i::aN j w (bk d1 27 (T d) 0)::aN j w (aO d2 3 (T d1))::r) Q}(aU:gR (F j)=some w)(lM:j≠d)(C9:j≠d1)(bl:Row 27 2 true fs H (aq F x) a9)(ad:aq F i= .int .i64 (n:Int))(aF:a9[n]?=some a)
  (bt:eO prog t=some 27)(K:∀p q,a8 prog r Q .mk (aX (aX (aX F d p) d1 q) d2 (.int .i64 a.1)) H):a8 prog (bb d t x i::aN j w (bk d1 27 (T d) 0)::aN j w (aO d2 3 (T d1))::r) Q aw F H:=by
 have ar:n<a9.length:=(cd.1 aF).1
 obtain⟨b,U,cap,X,all,fj,fk,ao,aR,ag,aH,o,aa⟩:=AD bl aF
 rw[fJ,ao,ad,oO,m9,bt,eY,show bn prog 27=some 2 by rfl,eY,oM]
 refine df.mk ⟨by omega,by omega⟩ ?_
 refine uV (by rw[gY _ _ lM];exact aU) ?_
 show a8 prog (bk d1 27 (T d) 0::aN j w (aO d2 3 (T d1))::r) Q .mk _ H
 rw[AS]
 simp only[kD,hJ,mf,show gf prog 27 0=some 0 by rfl,eY,Nat.add_zero]
 refine uV (by rw[gY _ _ C9,gY _ _ lM];exact aU) ?_
 show a8 prog (aO d2 3 (T d1)::r) Q .mk _ H
 rw[uW]
 simp only[kD,hJ,mf,aR,Option.bind_some,ag,eY,show c_ prog 3=some false by rfl,Int.toNat_natCast,sQ,aH]
 exact K _ _
theorem MK{d t d1 d2 n:Nat}{x i:Operand}{a9:List (Int×List Int)}{a:Int×List Int}{aw:a_ (bb d t x i::bk d1 27 (T d) 1::aO d2 25 (T d1)::r) Q}(bl:Row 27 2 true fs H (aq F x) a9)(ad:aq F i= .int .i64 (n:Int))(aF:a9[n]?=some a)
  (bt:eO prog t=some 27)(K:∀p q u,dj H u a.2->a8 prog r Q .mk (aX (aX (aX F d p) d1 q) d2 u) H):a8 prog (bb d t x i::bk d1 27 (T d) 1::aO d2 25 (T d1)::r) Q aw F H:=by
 have ar:n<a9.length:=(cd.1 aF).1
 obtain⟨b,U,cap,X,all,fj,fk,ao,aR,ag,aH,o,aa⟩:=AD bl aF
 rw[fJ,ao,ad,oO,m9,bt,eY,show bn prog 27=some 2 by rfl,eY,oM]
 refine df.mk ⟨by omega,by omega⟩ ?_
 rw[AS]
 simp only[kD,hJ,mf,show gf prog 27 1=some 1 by rfl,eY]
 rw[uW]
 simp only[kD,hJ,mf,aR,Option.bind_some,ag,eY,show c_ prog 25=some false by rfl,Int.toNat_natCast,sQ,o]
 exact K _ _ _ aa
theorem Yk{j d t d1 d2 n:Nat}{w:Bool}{x i:Operand}{a9:List (Int×List Int)}{a:Int×List Int}{aw:a_ (bb d t x i::aN j w (bk d1 27 (T d) 1)::aN j w (aO d2 25 (T d1))::r) Q}(aU:gR (F j)=some w)(lM:j≠d)(C9:j≠d1)(bl:Row 27 2 true fs H (aq F x) a9)(ad:aq F i= .int .i64 (n:Int))(aF:a9[n]?=some a)
  (bt:eO prog t=some 27)(K:∀p q u,dj H u a.2->a8 prog r Q .mk (aX (aX (aX F d p) d1 q) d2 u) H):a8 prog (bb d t x i::aN j w (bk d1 27 (T d) 1)::aN j w (aO d2 25 (T d1))::r) Q aw F H:=by
 have ar:n<a9.length:=(cd.1 aF).1
 obtain⟨b,U,cap,X,all,fj,fk,ao,aR,ag,aH,o,aa⟩:=AD bl aF
 rw[fJ,ao,ad,oO,m9,bt,eY,show bn prog 27=some 2 by rfl,eY,oM]
 refine df.mk ⟨by omega,by omega⟩ ?_
 refine uV (by rw[gY _ _ lM];exact aU) ?_
 show a8 prog (bk d1 27 (T d) 1::aN j w (aO d2 25 (T d1))::r) Q .mk _ H
 rw[AS]
 simp only[kD,hJ,mf,show gf prog 27 1=some 1 by rfl,eY]
 refine uV (by rw[gY _ _ C9,gY _ _ lM];exact aU) ?_
 show a8 prog (aO d2 25 (T d1)::r) Q .mk _ H
 rw[uW]
 simp only[kD,hJ,mf,aR,Option.bind_some,ag,eY,show c_ prog 25=some false by rfl,Int.toNat_natCast,sQ,o]
 exact K _ _ _ aa
end
def p0(n:Nat)(L:List (List Int)):Prop:=L.length=n/\∀i,i<n->∃r,L[i]?=some r/\r.length=n
theorem p0.get{n:Nat}{L:List (List Int)}(h:p0 n L){i k:Nat}(ad:i<n)(ai:k<n):∃r,L[i]?=some r/\r.length=n/\r[k]?=some (et L i k):=by
 obtain⟨r,aS,aM⟩:=h.2 i ad
 refine⟨r,aS,aM,?_⟩
 unfold et
 rw[aS,bx (show k<r.length by omega)]
 simp[bx (show k<r.length by omega)]
theorem p0.set{n:Nat}{L:List (List Int)}(h:p0 n L){j:Nat}{di:List Int}(aj:di.length=n):p0 n (L.set j di):=by
 refine⟨by rw[List.length_set];exact h.1,fun i ad=>?_⟩
 by_cases e:j=i
 ·subst e
  exact⟨di,List.getElem?_set_self (by rw[h.1];exact ad),aj⟩
 ·rw[List.getElem?_set_ne e]
  exact h.2 i ad
theorem Po{t:List (List Int)}{r:List Int}{j i:Nat}{x:Int}(aQ:t[j]?=some r)(ad:i<r.length)(dC bK:Nat):et (t.set j (r.set i x)) dC bK=if dC=j/\bK=i then x else et t dC bK:=by
 have fO:=(cd.1 aQ).1
 unfold et
 by_cases o:dC=j
 ·subst o
  rw[List.getElem?_set_self fO,aQ]
  by_cases aa:bK=i
  ·subst aa
   simp[List.getElem?_set_self ad]
  ·simp[List.getElem?_set_ne (Ne.symm aa),aa]
 ·rw[List.getElem?_set_ne (Ne.symm o),if_neg (by simp[o])]
theorem Lm{a9:List (Int×List Int)}(h:∀p∈a9,1<=p.1)(i k:Nat):0<=g4 a9 i k:=by
 induction a9 with
 | nil=>exact Int.le_refl _
 | cons p a9 aV=>
  have o:=aV fun q av=>h q (by simp[av])
  have aa:=h p (by simp)
  simp only[g4,ln]
  split<;>omega
theorem V1{a9:List (Int×List Int)}{s:Nat}{p:Int×List Int}(aT:a9[s]?=some p)(i k:Nat):g4 a9 i k=g4 (a9.take s) i k+ln p i k+g4 (a9.drop (s+1)) i k:=by
 have an:=(cd.1 aT).1
 have e:a9=a9.take s++p::a9.drop (s+1):=by
  have o:a9.drop s=p::a9.drop (s+1):=by
   rw[List.drop_eq_getElem_cons an]
   rw[bx an]at aT
   rw[Option.some.inj aT]
  rw[<-o,List.take_append_drop]
 have:g4 a9 i k=g4 (a9.take s++p::a9.drop (s+1)) i k:=by rw[<-e]
 rw[this,Ll]
 simp only[g4]
 omega
theorem V2{a9:List (Int×List Int)}{s:Nat}{p:Int×List Int}(aT:a9[s]?=some p)(i k:Nat):g4 (a9.take (s+1)) i k=g4 (a9.take s) i k+ln p i k:=by
 rw[List.take_add_one,aT,Ll]
 simp[g4]
theorem VQ{v w:Value}{t:List (List Int)}{a9:List (Int×List Int)}{H:ab}(bc:e9 H v t)(cr:sW t)(h9:Row 27 2 true fs H w a9)(iV:a9.length<65536):
  a0 prog 11 [v,w] H (fun u H1=>Ext H H1/\∃b,u= .bool b/\(b=true↔ve t.length (et t) a9)):=by
 refine a0.cq fun Q aG=>?_
 have ao:=cr.1
 obtain⟨n,aE⟩:∃n,n=t.length:=⟨_,rfl⟩
 have hm:(t[0]?.getD []).length=n:=by rw[aE];exact cr.2.1.symm
 have kK:0<n:=by have:=ao.1;omega
 have qw:n<=8:=by have:=ao.2.1;omega
 rw[<-aE]at aG
 have PT:0<H.length:=by
  obtain⟨b,U,cap,X,all,⟨o,aa,-⟩ | ⟨o,aa⟩⟩:=Row.at bc (bx (show 0<t.length by omega))
  ·have:=(cd.1 aa).1
   omega
  ·exact absurd rfl aa
 have sg:∀i,i<n->∃r,t[i]?=some r/\r.length=n/\∀x∈r,0<=x/\x<=1000:=fun i ad=>by
  have kd:i<t.length:=by omega
  refine⟨_,bx kd,?_,((xY.1 ao).2 _ (List.getElem_mem kd)).2⟩
  rw[ao.len _ (List.getElem_mem kd),hm]
 have SZ:p0 n t:=⟨aE.symm,fun i ad=>let⟨r,aS,aM,_⟩:=sg i ad;⟨r,aS,aM⟩⟩
 have zM:∀i k,i<n->k<n->0<=et t i k/\et t i k<=1000:=fun i k ad ai=>by
  obtain⟨r,x,aS,aM,bh,b0,ey,gl,xB⟩:=ao.get (i:=i) (k:=k) (by omega) (by omega)
  rw[ey];exact⟨gl,xB⟩
 apply UA (by simp)
 simp only[GR]
 refine bV.fZ fun cu cv=>?_
 simp
 refine cv _ _ _ ?_
 clear cv
 refine bV.fZ fun cu cv=>?_
 simp
 refine cY (af:=dj) (xs:=t) (by simpa using bc) (by simp) ?_
 simp only[<-aE]
 simp
 refine cv _ _ _ ?_
 clear cv
 refine Exists.elim (Lk kK qw) fun y aJ=>Exists.elim aJ.2 fun x I=>Exists.elim I.2 fun z aP=>?_
 refine bV.fZ fun cu cv=>?_
 simp
 refine cY (af:=fs) (xs:=a9) (by simpa using h9) (by simp) ?_
 simp[aJ.1,I.1,aP.1,aP.2.1]
 refine bG.cC (fun ae=>?_) (fun ae=>?_)
 ·simp[bj]
  exact aG _ _ ⟨Ext.refl _,false,rfl,⟨fun h=>(by cases h),fun h=>by have:=h.1;omega⟩⟩
 have wB:a9.length<=pC n:=by omega
 refine cv _ _ _ ?_
 clear cv
 refine bV.fZ fun cu cv=>?_
 simp
 refine uU (e:=25) (J:=1) (by simp) (by simp) ?_
 simp
 refine cv _ _ _ ?_
 clear cv
 have fail:∀mc,Ext H mc->(¬ve n (et t) a9)->Q (.bool false) mc:=fun mc I hF=>aG _ _ ⟨I,false,rfl,⟨fun h=>(by cases h),fun h=>absurd h hF⟩⟩
 refine bV.fZ fun cu cv=>?_
 simp
 refine dy.mk (by kernel_rfl) (fun q az bC H1=>∃i:Nat,q=n-i/\i<=n/\az 7= .int .i64 (i:Int)/\Ext H H1/\∃us,dQ H.length 25 3 1 false IR H1 (az 6) (t.take i) us) n ⟨0,by omega,by omega,by simp,Ext.refl _,[],?_⟩ ?_
 ·exact⟨PT,by simpa using bz.void _ _ _ _ _ _ _,rfl,fun i row u h=>by simp at h,fun i j b u w h=>by simp at h⟩
 rintro q az bC H1 ⟨i,rfl,ad,cJ,bI,us,gU⟩ K a1
 simp at cJ gU
 have oo:=nL (show i<4611686018427387904 by omega)
 have g9:=Ext.len bI
 simp[cJ]
 refine bG.mk (fun a3=>?_) (fun a3=>?_)
 ·simp at a3
  refine Exists.elim (sg i a3) fun row db=>?_
  have jl:=bM.ext (af:=e9) bc bI
  try simp
  refine uU (e:=3) (J:=1) (by simp) (by simp) ?_
  simp[cJ]
  refine cK (af:=dj) (xs:=t) (n:=i) (a:=row) (e:=25) (J:=1) (ay:=false) (by simpa using jl) (by simp[cJ]) db.1 (by simp) (by simp) (by simp) (by decide) ?_
  rintro eM pK kj
  try simp
  refine AQ (k:=H1.length) (e:=3) (J:=1) (ay:=false) (bs:=8) (z:= .int .i64 0) (af:=IR) (xs:=[]) (bH:=row) (by simpa using bz.void _ _ _ _ _ _ _) (by simpa using kj) (fun u y h=>by rw[show u=_ from h];exact kS y) (fun aC de u y ai h=>h) (by simp) (by simp) (by simp) (by simp) (by decide) (by rfl) (by rfl) (by rfl) (by decide) (by simp;omega) (Nat.le_refl _) ?_
  intro q_ bR kb b5 RW
  have iF:=b5 _ (Nat.le_refl _) (Ext.refl _)
  have Co:bz H1.length 3 1 false IR bR q_ row:=by simpa using kb
  have kc:=gU.ext iF
  have tW:=Ext.len iF
  have so:=dj.whole Co.row
  have ju:=gU.len
  simp at ju
  try simp
  refine AV (k:=H.length) (e:=25) (J:=1) (ay:=false) (bs:=24) (z:= .slice none 0 0) (af:=fK) (xs:=us) (a:=q_) (by simpa using kc.own) (by simp[fK]) (by simpa using so) (by simp) (fun _ _ _ _ _ h=>h) (by simp) (by simp) (by simp) (by simp) (by simp) (by rfl) (by rfl) (by rfl) (by rfl) (by decide) (by decide) (by decide) (by omega) (by omega) ?_
  intro ox u2 cE hp cA ke qn r0
  simp at ke qn
  have qD:=dQ.snoc (cx:=H1) (nF:=H1.length) kc (fun b aH ae=>(Co.ge ae aH).1) (fun j u b hu ae aH=>gU.lt j u b hu ae aH) (by decide) (Co.le (by omega)) hp ke (fun u x h=>h)
  simp[cJ,oo]
  refine a1 (n-(i+1)) _ _ _ (by omega) ⟨i+1,rfl,by omega,by simp,cA _ (Nat.le_refl _) (bI.aB iF),us++[q_],?_⟩
  rw[List.take_add_one,db.1]
  simpa using qD
 simp at a3
 obtain rfl:i=n:=by omega
 rw[List.take_of_length_le (by omega)]at gU
 refine cv _ _ _ ?_
 clear cv
 refine Exists.elim (⟨_,rfl⟩:∃hb,hb=az 6) fun hb pb=>?_
 rw[<-pb]at gU
 refine bV.fZ fun cu cv=>?_
 simp
 refine dy.mk (by kernel_rfl) (fun q bQ dq aY=>∃s:Nat,q=a9.length-s/\s<=a9.length/\bQ 8= .int .i64 (s:Int)/\Ext H aY/\(∀p∈a9.take s,1<=p.1/\lz i p.2)/\∃L,dQ H.length 25 3 1 false IR aY hb L us/\p0 i L/\∀a b,a<i->b<i->et L a b=et t a b-g4 (a9.take s) a b/\0<=et L a b) a9.length ⟨0,by omega,by omega,by simp,bI,by simp,t,gU,SZ,fun a b aF ae=>⟨by simp[g4],(zM a b aF ae).1⟩⟩ ?_
 rintro q bQ dq aY ⟨s,rfl,an,d_,bu,iU,L,v8,J9,vU⟩ K a1
 simp at d_
 have sq:=nL (show s<4611686018427387904 by omega)
 have rL:=bM.ext (af:=Row _ _ _ fs) h9 bu
 have kf:=Ext.len bu
 simp[d_]
 refine cY (af:=fs) (xs:=a9) (by simpa using rL) (by simp) ?_
 simp[d_]
 refine bG.mk (fun a3=>?_) (fun a3=>?_)
 ·simp at a3
  refine Exists.elim (⟨_,bx a3⟩:∃p,a9[s]?=some p) fun p aT=>?_
  have jt:=List.mem_of_getElem? aT
  try simp
  refine bV.join (by kernel_rfl) (fun dG e7 bZ=>aY=bZ/\dG 62= .bool (!decide (1<=p.1/\p.2.length=i))) ?_ ?_
  ·rintro m4 fN-
   simp[d_]
   refine E8 (a9:=a9) (n:=s) (a:=p) (by simpa using rL) (by simp[d_]) aT (by simp) ?_
   intro gK b0
   by_cases o:p.1<1
   ·simp[o]
    exact fN _ _ _ ⟨rfl,by simp;omega⟩
   ·simp[o,d_]
    refine Yk (a9:=a9) (n:=s) (a:=p) (by simp[o]) (by decide) (by decide) (by simpa using rL) (by simp[d_]) aT (by simp) ?_
    intro iI ey oE qF
    simp[o]
    refine cY (af:=IR) (xs:=p.2) (by simpa using qF) (by simp) ?_
    simp[o]
    refine fN _ _ _ ⟨rfl,?_⟩
    have:1<=p.1:=by omega
    simp[this]
    omega
  rintro dG e7 bZ ⟨rfl,B7⟩
  simp only[jY]at B7
  simp at B7
  simp[B7]
  refine bG.mk (fun ae=>?_) (fun ae=>?_)
  ·simp at ae
   simp[bj]
   refine fail _ bu fun cQ=>?_
   have:=cQ.2.1 p jt
   exact ae.elim (fun h=>by omega) fun h=>h this.2.1
  have pf:1<=p.1/\p.2.length=i:=by simpa using ae
  simp
  refine AT (e:=4) (J:=1) (bs:=1) (ay:=false) (n:=i) (eo:= .i64) (cB:= .i64) (z:= .bool false) (af:=kU) (a:=false) (by simp) (by simp) (by simp) (by rfl) (by rfl) (by simp) (A8 false) (by simp) (by simp) (by decide) (by decide) (by omega) (fun aC=>rfl) ?_
  intro Fg Z5 bR kb b5
  have tW:=Ext.len b5
  simp
  have Rd:∀a b,a<i->b<i->et L a b=et t a b-g4 (a9.take s) a b-(if a<0 then ln p a b else 0)/\0<=et L a b:=fun a b aF ae=>by
   rw[if_neg (by omega)]
   have:=vU a b aF ae
   omega
  refine dy.mk (by kernel_rfl) (fun q fS hj b_=>∃j:Nat,q=i-j/\j<=i/\fS 10= .int .i64 (j:Int)/\Ext H b_/\(∀a,a<j->x9 i p.2 a)/\(∃rm,bz aY.length 4 1 false kU b_ (.slice Fg i Z5) rm/\rm.length=i/\∀k,k<i->rm[k]?=some (decide ((k:Int)∈p.2.take j)))/\∃L,dQ H.length 25 3 1 false IR b_ hb L us/\p0 i L/\∀a b,a<i->b<i->et L a b=et t a b-g4 (a9.take s) a b-(if a<j then ln p a b else 0)/\0<=et L a b) i ⟨0,by omega,by omega,by simp,bu.aB b5,fun a h=>by omega,⟨List.replicate i false,kb,by simp,fun k ai=>by simp[ai]⟩,L,v8.ext b5,J9,Rd⟩ ?_
  rintro q fS hj b_ ⟨j,rfl,aQ,hN,c1,cQ,⟨rm,yT,qi,eb⟩,m5,v_,zJ,yP⟩ FK nj
  simp at hN
  have mG:=nL (show j<4611686018427387904 by omega)
  have I5:=bM.ext (af:=Row _ _ _ fs) h9 c1
  have Da:=Ext.len c1
  simp[hN]
  refine bG.mk (fun lP=>?_) (fun lP=>?_)
  ·simp at lP
   refine Exists.elim (⟨_,bx (by omega)⟩:∃x,p.2[j]?=some x) fun x I=>?_
   try simp[d_,hN]
   refine MK (a9:=a9) (n:=s) (a:=p) (by simpa using I5) (by simp[d_]) aT (by simp) ?_
   intro mP gl oF kM
   simp[hN]
   refine cK (af:=IR) (xs:=p.2) (n:=j) (a:=x) (e:=3) (J:=1) (ay:=false) (by simpa using kM) (by simp[hN]) I (by simp) (by simp) (by simp) (by decide) ?_
   rintro ox Ff rfl
   simp
   have ki:IntKind.i64.wrap ((i:Int)-1)=(i:Int)-1:=cP (by omega) (by omega)
   refine bV.join (by kernel_rfl) (fun m1 oK eE=>b_=eE/\∃bad,m1 103= .bool bad/\(bad=false↔∃k:Nat,k<i/\x=(k:Int)/\(k:Int)∉p.2.take j/\p.1<=et m5 j k)) ?_ ?_
   ·rintro NF qc-
    simp[ki]
    refine a7.mk zZ ?_
    rintro _ _ ⟨rfl,rfl⟩
    by_cases eT:0<=x/\x<=(i:Int)-1
    ·refine Exists.elim (⟨x.toNat,by omega⟩:∃k:Nat,x=(k:Int)) fun k ai=>?_
     have eU:k<i:=by omega
     have ob:0<=(k:Int):=by omega
     have oc:(k:Int)<=(i:Int)-1:=by omega
     simp[ai,ob,oc]
     refine mV (af:=kU) (xs:=rm) (n:=k) (a:=decide ((k:Int)∈p.2.take j)) (e:=4) (J:=1) (ay:=false) (by simp[ob,oc]) (by decide) (by simpa using yT.row) (by simp[ai]) (eb k eU) (by simp) (by simp) (by simp) (by decide) ?_
     rintro Am M7 rfl
     by_cases og:(k:Int)∈p.2.take j
     ·simp[ob,oc,og]
      refine qc _ _ _ ⟨rfl,true,by simp,⟨fun h=>(by cases h),fun h=>?_⟩⟩
      obtain⟨bK,aS,aM,bh,-⟩:=h
      rw[ai]at aM
      rw[<-aM]at bh
      exact absurd og bh
     ·refine Exists.elim (zJ.get (i:=j) (k:=k) lP eU) fun j0 aj=>?_
      refine Exists.elim (v_.oB aj.1) fun u1 hu=>?_
      simp[ob,oc,og,hN]
      refine mV (af:=fK) (xs:=us) (n:=j) (a:=u1) (e:=25) (J:=1) (ay:=false) (by simp[ob,oc,og]) (by decide) (by simpa[<-pb]using v_.own.row) (by simp[hN]) hu.1 (by simp) (by simp) (by simp) (by decide) ?_
      rintro Eo q8 rfl
      simp[ob,oc,og,ai]
      refine mV (af:=IR) (xs:=j0) (n:=k) (a:=et m5 j k) (e:=3) (J:=1) (ay:=false) (by simp[ob,oc,og]) (by decide) (by simpa using hu.2.row) (by simp[ai]) aj.2.2 (by simp) (by simp) (by simp) (by decide) ?_
      rintro Ak M4 rfl
      simp[ob,oc,og,d_]
      refine Yj (a9:=a9) (n:=s) (a:=p) (by simp[ob,oc,og]) (by decide) (by decide) (by simpa using I5) (by simp[d_]) aT (by simp) ?_
      intro uD aeF
      simp[ob,oc,og]
      refine qc _ _ _ ⟨rfl,decide (et m5 j k<p.1),by simp,?_⟩
      constructor
      ·intro h
       have h:¬et m5 j k<p.1:=by simpa using h
       exact⟨k,eU,ai,og,by omega⟩
      ·rintro⟨bK,aS,aM,bh,b0⟩
       rw[ai]at aM
       have e:k=bK:=by omega
       subst e
       simp
       omega
    ·simp[eT]
     refine qc _ _ _ ⟨rfl,true,by simp,⟨fun h=>(by cases h),fun h=>?_⟩⟩
     obtain⟨bK,aS,aM,-⟩:=h
     exact absurd ⟨by omega,by omega⟩ eT
   rintro m1 oK eE ⟨rfl,bad,B2,jP⟩
   simp only[jY]at B2
   simp at B2
   simp[B2]
   refine bG.mk (fun ae=>?_) (fun ae=>?_)
   ·simp[bj]
    refine fail _ c1 fun gh=>?_
    obtain⟨k,aS,aM,bh⟩:=(gh.2.1 p jt).2.2 j lP
    rw[I]at aM
    have bp:=gh.2.2 j k lP aS
    rw[V1 aT]at bp
    have bo:ln p j k=p.1:=by unfold ln;rw[I,if_pos aM]
    have e0:=(yP j k lP aS).1
    rw[if_neg (by omega)]at e0
    have j7:=Lm (a9:=a9.drop (s+1)) (fun q av=>(gh.2.1 q (List.mem_of_mem_drop av)).1) j k
    have:=jP.2 ⟨k,aS,Option.some.inj aM,bh,by omega⟩
    rw[ae]at this
    cases this
   refine Exists.elim (jP.1 ae) fun k ai=>?_
   have eU:=ai.1
   have nA:=ai.2.1
   have hle:=ai.2.2.2
   refine Exists.elim (zJ.get (i:=j) (k:=k) lP eU) fun j0 aj=>?_
   refine Exists.elim (v_.oB aj.1) fun u1 hu=>?_
   have P9:=yP j k lP eU
   have aee:=zM j k lP eU
   have wL:=Lm (a9:=a9.take s) (fun q av=>(iU q av).1) j k
   have S2:IntKind.i64.wrap (et m5 j k-p.1)=et m5 j k-p.1:=cP (by omega) (by rw[if_neg (by omega)]at P9;omega)
   simp[nA]
   refine ja (k:=aY.length) (e:=4) (J:=1) (ay:=false) (n:=k) (af:=kU) (xs:=rm) (a:=true) (by simpa using yT) (by simp[nA]) (by rw[qi];exact eU) (by simp[kU]) (by simpa using A8 _) (by simp) (fun aC de u y ai h=>h) (by simp) (by simp) (by simp) (by decide) ?_
   rintro Al jc qe iF JF RZ-
   simp at qe JF
   have Ku:=iF _ kf c1
   have Cy:=v_.other JF (by decide) (by decide) (fun _ _ h=>h)
   have Qr:=bM.ext (af:=Row _ _ _ fs) h9 Ku
   refine Exists.elim (Cy.oB aj.1) fun Z6 dc=>?_
   simp[hN]
   refine cK (af:=fK) (xs:=us) (n:=j) (a:=Z6) (e:=25) (J:=1) (ay:=false) (by simpa[<-pb]using Cy.own.row) (by simp[hN]) dc.1 (by simp) (by simp) (by simp) (by decide) ?_
   rintro Ep Fb rfl
   simp
   refine cK (af:=IR) (xs:=j0) (n:=k) (a:=et m5 j k) (e:=3) (J:=1) (ay:=false) (by simpa using dc.2.row) (by simp[nA]) aj.2.2 (by simp) (by simp) (by simp) (by decide) ?_
   rintro LC u16 rfl
   simp[d_]
   refine E8 (a9:=a9) (n:=s) (a:=p) (by simpa using Qr) (by simp[d_]) aT (by simp) ?_
   intro xz aeG
   simp[S2]
   refine ja (k:=H.length) (e:=3) (J:=1) (ay:=false) (n:=k) (af:=IR) (xs:=j0) (a:=et m5 j k-p.1) (by simpa using dc.2) (by simp[nA]) (by rw[aj.2.1];exact eU) (by simp[IR]) (by simpa using kS _) (by simp) (fun aC de u y ai h=>h) (by simp) (by simp) (by simp) (by decide) ?_
   rintro Wf nP yS qJ ze adV-
   simp at yS ze
   simp[hN,mG]
   refine nj (i-(j+1)) _ _ _ (by omega) ⟨j+1,rfl,by omega,by simp,qJ _ (Nat.le_refl _) Ku,fun a aF=>?_,⟨rm.set k true,qe.other ze (by decide) (fun _ _ h=>h),by rw[List.length_set];exact qi,fun bK ic=>?_⟩,m5.set j (j0.set k (et m5 j k-p.1)),Cy.inner dc.1 (by decide) ze yS (fun _ _ h=>h),zJ.set (by rw[List.length_set];exact aj.2.1),fun a b aF ae=>?_⟩
   ·by_cases y4:a=j
    ·subst y4
     exact⟨k,eU,by rw[I,nA],ai.2.2.1⟩
    ·exact cQ a (by omega)
   ·rw[List.take_add_one,I,nA]
    by_cases JG:k=bK
    ·subst JG
     rw[List.getElem?_set_self (by rw[qi];exact eU)]
     simp
    ·rw[List.getElem?_set_ne JG,eb bK ic]
     have:¬(bK:Int)=(k:Int):=by omega
     simp[this]
   ·rw[Po aj.1 (by rw[aj.2.1];exact eU)]
    have vT:=yP a b aF ae
    by_cases wj:a=j/\b=k
    ·obtain⟨rfl,rfl⟩:=wj
     rw[if_pos ⟨rfl,rfl⟩,if_pos (by omega)]
     rw[if_neg (by omega)]at vT
     have bo:ln p a b=p.1:=by unfold ln;rw[I,nA,if_pos rfl]
     omega
    ·rw[if_neg wj]
     by_cases y4:a<j
     ·rw[if_pos (by omega)]
      rw[if_pos y4]at vT
      exact vT
     ·rw[if_neg y4]at vT
      by_cases Q5:a=j
      ·subst Q5
       rw[if_pos (by omega)]
       have bo:ln p a b=0:=by
        unfold ln
        rw[I,nA,if_neg (by simp;omega)]
       omega
      ·rw[if_neg (by omega)]
       exact vT
  ·simp at lP
   have e:j=i:=by omega
   have r6:lz i p.2:=⟨pf.2,fun a aF=>cQ a (by omega)⟩
   simp[d_,sq]
   refine a1 (a9.length-(s+1)) _ _ _ (by omega) ⟨s+1,rfl,by omega,by simp,c1,fun q av=>?_,m5,v_,zJ,fun a b aF ae=>?_⟩
   ·rw[List.take_add_one,aT,List.mem_append]at av
    rcases av with av | av
    ·exact iU q av
    ·simp at av
     subst av
     exact⟨pf.1,r6⟩
   ·have:=yP a b aF ae
    rw[if_pos (by omega)]at this
    rw[V2 aT]
    omega
 ·simp at a3
  have e:s=a9.length:=by omega
  rw[e,List.take_of_length_le (Nat.le_refl _)]at iU
  have IX:∀a b,a<i->b<i->et L a b=et t a b-g4 a9 a b/\0<=et L a b:=fun a b aF ae=>by
   have:=vU a b aF ae
   rw[e,List.take_of_length_le (Nat.le_refl _)]at this
   exact this
  refine cv _ _ _ ?_
  clear cv
  have zero:∀a b,a<i->b<i->et L a b≠0->¬ve i (et t) a9:=fun a b aF ae aH gh=>by
   have o:=(IX a b aF ae).1
   have aa:=gh.2.2 a b aF ae
   omega
  refine bV.fZ fun cu cv=>?_
  simp
  refine dy.mk (by kernel_rfl) (fun q dG e7 bZ=>∃a:Nat,q=i-a/\a<=i/\dG 12= .int .i64 (a:Int)/\bZ=aY/\∀ej b,ej<a->b<i->et L ej b=0) i ⟨0,by omega,by omega,by simp,rfl,fun ej b h=>by omega⟩ ?_
  rintro q dG e7 bZ ⟨a,rfl,aF,nZ,e0,xe⟩ m4 fN
  subst e0
  simp at nZ
  have Tq:=nL (show a<4611686018427387904 by omega)
  simp[nZ]
  refine bG.mk (fun jT=>?_) (fun jT=>?_)
  ·simp at jT
   simp
   refine dy.mk (by kernel_rfl) (fun q c7 dV bR=>∃b:Nat,q=i-b/\b<=i/\c7 13= .int .i64 (b:Int)/\bR=bZ/\∀ca,ca<b->et L a ca=0) i ⟨0,by omega,by omega,by simp,rfl,fun ca h=>by omega⟩ ?_
   rintro q c7 dV bR ⟨b,rfl,ae,h8,j7,zY⟩ sV jK
   subst j7
   simp at h8
   have Ts:=nL (show b<4611686018427387904 by omega)
   simp[h8]
   refine bG.mk (fun jq=>?_) (fun jq=>?_)
   ·simp at jq
    refine Exists.elim (J9.get (i:=a) (k:=b) jT jq) fun WQ aj=>?_
    refine Exists.elim (v8.oB aj.1) fun Fg hu=>?_
    try simp[nZ,h8]
    refine cK (af:=fK) (xs:=us) (n:=a) (a:=Fg) (e:=25) (J:=1) (ay:=false) (by simpa[<-pb]using v8.own.row) (by simp[nZ]) hu.1 (by simp) (by simp) (by simp) (by decide) ?_
    rintro iI oE rfl
    simp[h8]
    refine cK (af:=IR) (xs:=WQ) (n:=b) (a:=et L a b) (e:=3) (J:=1) (ay:=false) (by simpa using hu.2.row) (by simp[h8]) aj.2.2 (by simp) (by simp) (by simp) (by decide) ?_
    rintro mP oF rfl
    simp
    refine bG.cC (fun aH=>?_) (fun aH=>?_)
    ·simp[h8,Ts]
     refine jK (i-(b+1)) _ _ _ (by omega) ⟨b+1,rfl,by omega,by simp,rfl,fun ca cM=>?_⟩
     by_cases lI:ca=b
     ·subst lI;exact aH
     ·exact zY ca (by omega)
    ·simp[bj]
     exact fail _ bu (zero a b jT jq aH)
   ·simp at jq
    simp[nZ,Tq]
    refine fN (i-(a+1)) _ _ _ (by omega) ⟨a+1,rfl,by omega,by simp,rfl,fun ej ca y3 cM=>?_⟩
    by_cases Q4:ej=a
    ·subst Q4;exact zY ca (by omega)
    ·exact xe ej ca (by omega) cM
  ·simp at jT
   refine cv _ _ _ ?_
   simp[bj]
   refine aG _ _ ⟨bu,true,rfl,⟨fun _=>⟨wB,iU,fun ej ca y3 cM=>?_⟩,fun _=>rfl⟩⟩
   have o:=(IX ej ca y3 cM).1
   have aa:=xe ej ca (by omega) cM
   omega
theorem Mo{v:Value}{t:List (List Int)}{H:ab}(bc:e9 H v t)(ao:fT t):
  a0 prog 9 [v] H (fun u H1=>Ext H H1/\∃b,u= .bool b/\(b=true↔sW t)):=by
 refine a0.cq fun Q aG=>?_
 obtain⟨m,hm⟩:∃m,m=(t[0]?.getD []).length:=⟨_,rfl⟩
 obtain⟨n,aE⟩:∃n,n=t.length:=⟨_,rfl⟩
 have kK:1<=n:=by rw[aE];exact ao.1
 have qw:n<=8:=by rw[aE];exact ao.2.1
 obtain⟨A,bO⟩:∃A,A=t.map List.sum:=⟨_,rfl⟩
 obtain⟨B,bS⟩:∃B,B=(eg m t).map List.sum:=⟨_,rfl⟩
 have IH:A.length=n:=by rw[bO,List.length_map,aE]
 have yL:B.length=m:=by rw[bS,List.length_map,MG]
 have B_:∀i,i<n->A[i]?=some ((t[i]?.getD []).sum):=fun i ad=>by
  rw[bO,List.getElem?_map,bx (show i<t.length by omega)];rfl
 have PQ:∀i,i<m->B[i]?=some (((eg m t)[i]?.getD []).sum):=fun i ad=>by
  rw[bS,List.getElem?_map,bx (show i<(eg m t).length by rw[MG];exact ad)];rfl
 apply UB (by simp)
 simp only[GS]
 refine bV.fZ fun cu cv=>?_
 simp
 refine cv _ _ _ ?_
 clear cv
 refine bV.fZ fun cu cv=>?_
 simp
 refine a7.mk (VC hm bc ao) ?_
 rw[<-bO,<-bS]
 rintro _ H1 ⟨bI,a,b,rfl,aF,ae⟩
 simp
 refine cv _ _ _ ?_
 clear cv
 refine bV.fZ fun cu cv=>?_
 simp
 refine cY (af:=IR) (xs:=A) (by simpa using aF) (by simp) ?_
 simp
 refine cY (af:=IR) (xs:=B) (by simpa using ae) (by simp) ?_
 simp only[IH,yL]
 simp
 refine bG.cC (fun av=>?good) (fun av=>?bad)
 case bad=>
  simp[bj]
  refine aG _ _ ⟨bI,false,rfl,⟨fun h=>(by cases h),fun h=>?_⟩⟩
  have:=h.2.1
  omega
 have ua:n=m:=by omega
 refine cv _ _ _ ?_
 clear cv
 refine bV.fZ fun cu cv=>?_
 simp
 refine dy.mk (by kernel_rfl) (fun q bQ dq aY=>∃i:Nat,q=n-i/\i<=n/\bQ 5= .int .i64 (i:Int)/\H1=aY/\∀a,a<i->(t[a]?.getD []).sum=(t[0]?.getD []).sum/\((eg m t)[a]?.getD []).sum=(t[0]?.getD []).sum) n ⟨0,by omega,by omega,by simp,rfl,fun a h=>by omega⟩ ?_
 rintro q bQ dq aY ⟨i,rfl,ad,b2,rfl,cQ⟩ K a1
 simp at b2
 have oo:=nL (show i<4611686018427387904 by omega)
 simp[b2]
 refine cY (af:=IR) (xs:=A) (by simpa using aF) (by simp) ?_
 simp only[IH]
 simp[b2]
 refine bG.mk (fun zl=>?_) (fun zl=>?_)
 ·simp at zl
  try simp only[kp]
  refine bV.join (by kernel_rfl) (fun dG e7 bZ=>H1=bZ/\∃bad,dG 39= .bool bad/\(bad=false↔(t[i]?.getD []).sum=(t[0]?.getD []).sum/\((eg m t)[i]?.getD []).sum=(t[0]?.getD []).sum)) ?_ ?_
  ·rintro m4 fN-
   simp[b2]
   refine cK (af:=IR) (xs:=A) (n:=i) (a:=(t[i]?.getD []).sum) (e:=3) (J:=1) (ay:=false) (by simpa using aF) (by simp[b2]) (B_ i zl) (by simp) (by simp) (by simp) (by decide) ?_
   rintro gK M6 rfl
   simp
   refine cK (af:=IR) (xs:=A) (n:=0) (a:=(t[0]?.getD []).sum) (e:=3) (J:=1) (ay:=false) (by simpa using aF) (by simp) (B_ 0 kK) (by simp) (by simp) (by simp) (by decide) ?_
   rintro iI oE rfl
   refine Exists.elim (⟨_,rfl⟩:∃x,x=(t[i]?.getD []).sum) fun x I=>?_
   refine Exists.elim (⟨_,rfl⟩:∃y,y=(t[0]?.getD []).sum) fun y aJ=>?_
   simp only[<-I,<-aJ]
   by_cases mJ:x=y
   ·simp[mJ,b2]
    refine mV (af:=IR) (xs:=B) (n:=i) (a:=((eg m t)[i]?.getD []).sum) (e:=3) (J:=1) (ay:=false) (by simp[mJ]) (by decide) (by simpa using ae) (by simp[b2]) (PQ i (by omega)) (by simp) (by simp) (by simp) (by decide) ?_
    rintro mP oF rfl
    simp[mJ]
    refine mV (af:=IR) (xs:=A) (n:=0) (a:=(t[0]?.getD []).sum) (e:=3) (J:=1) (ay:=false) (by simp[mJ]) (by decide) (by simpa using aF) (by simp) (B_ 0 kK) (by simp) (by simp) (by simp) (by decide) ?_
    rintro ox Ff rfl
    simp only[<-aJ]
    refine Exists.elim (⟨_,rfl⟩:∃z,z=((eg m t)[i]?.getD []).sum) fun z aP=>?_
    simp only[<-aP]
    simp[mJ]
    exact fN _ _ _ ⟨rfl,decide (z≠y),by simp,by rw[<-I,<-aP,<-aJ];simp[mJ]⟩
   ·simp[mJ]
    exact fN _ _ _ ⟨rfl,true,by simp,by rw[<-I,<-aJ];simp[mJ]⟩
  rintro dG e7 bZ ⟨rfl,bad,B6,jP⟩
  simp only[jY]at B6
  simp at B6
  simp[B6]
  refine bG.mk (fun o4=>?_) (fun o4=>?_)
  ·simp[bj]
   refine aG _ _ ⟨bI,false,rfl,⟨fun h=>(by cases h),fun h=>?_⟩⟩
   have o:=h.2.2 i (by omega)
   rw[<-aE,ua]at o
   have:=jP.2 o
   rw[o4]at this
   cases this
  ·have o:=jP.1 o4
   simp[b2,oo]
   refine a1 (n-(i+1)) _ _ _ (by omega) ⟨i+1,rfl,by omega,by simp,rfl,fun a y3=>?_⟩
   by_cases jO:a=i
   ·subst jO;exact o
   ·exact cQ a (by omega)
 ·simp at zl
  refine cv _ _ _ ?_
  simp[bj]
  refine aG _ _ ⟨bI,true,rfl,⟨fun _=>⟨ao,by omega,fun a y3=>?_⟩,fun _=>rfl⟩⟩
  rw[<-aE,ua]
  exact cQ a (by omega)
end Go.b9
end
section
set_option maxRecDepth 8000
set_option maxHeartbeats 1000000
namespace Go.b9
open Go.Proofs
open Go.Proofs.Try (prog)
open Go.RowKit
attribute [-simp] fJ gN hI
def yA(y:List (Int×List Int)):List (Int×List Int):=(y.take 60).map fun p=>(p.1,p.2.take 9)
theorem Xr{v w:Value}{x:List (List Int)}{y:List (Int×List Int)}{H:ab}(da:e9 H v x)(h9:Row 27 2 true fs H w y)(n1:∀p∈y,-9223372036854775808<=p.1/\p.1<9223372036854775808):
  a0 prog 3 [v,w] H (fun u H1=>Ext H H1/\u= .bool true):=by
 refine a0.cq fun Q aG=>?_
 obtain⟨t,bt⟩:∃t,t=te x:=⟨_,rfl⟩
 obtain⟨a9,iV⟩:∃a9,a9=yA y:=⟨_,rfl⟩
 have mD:=(HT x).1
 have sg:=(HT x).2
 rw[<-bt]at mD sg
 have fG:t.length<65536/\∀r∈t,r.length<65536:=⟨by omega,fun r aj=>by have:=sg r aj;omega⟩
 have lS:a9.length<=60:=by rw[iV];simp[yA];omega
 have zI:∀p∈a9,(-9223372036854775808<=p.1/\p.1<9223372036854775808)/\p.2.length<65536:=fun p aT=>by
  rw[iV,yA,List.mem_map]at aT
  obtain⟨q,av,rfl⟩:=aT
  exact⟨n1 q (List.mem_of_mem_take av),by simp;omega⟩
 apply TX (by simp)
 simp only[Gv]
 refine bV.fZ fun cu cv=>?_
 simp
 refine cv _ _ _ ?_
 clear cv
 refine bV.fZ fun cu cv=>?_
 simp
 refine a7.mk (XR da) ?_
 simp only[<-bt]
 rintro a5 H1 ⟨bI,jl⟩
 have tu:=bM.ext (af:=Row _ _ _ fs) h9 bI
 simp
 refine cv _ _ _ ?_
 clear cv
 refine bV.fZ fun cu cv=>?_
 simp
 refine uU (e:=27) (J:=2) (by simp) (by simp) ?_
 simp
 refine cv _ _ _ ?_
 clear cv
 refine bV.fZ fun cu cv=>?_
 simp
 refine dy.mk (by kernel_rfl) (fun q bQ dq aY=>∃i:Nat,q=y.length-i/\i<=y.length/\i<=60/\bQ 7= .int .i64 (i:Int)/\Ext H1 aY/\bz H1.length 27 2 true fs aY (bQ 6) ((y.take i).map fun p=>(p.1,p.2.take 9))) y.length ⟨0,by omega,by omega,by omega,by simp,Ext.refl _,by simpa using bz.void _ _ _ _ _ _ _⟩ ?_
 rintro q bQ dq aY ⟨i,rfl,ad,adO,cJ,bu,cL⟩ K a1
 simp at cJ cL
 have rL:=bM.ext (af:=Row _ _ _ fs) tu bu
 simp only[kp]
 refine bV.join (by kernel_rfl) (fun dG e7 bZ=>aY=bZ/\dG 20= .bool (decide (i<y.length/\i<60))) ?_ ?_
 ·rintro m4 fN-
  simp[cJ]
  refine cY (af:=fs) (xs:=y) (by simpa using rL) (by simp) ?_
  by_cases a3:i<y.length
  ·simp[a3,cJ]
   exact fN _ _ _ ⟨rfl,by simp[a3];omega⟩
  ·simp[a3]
   exact fN _ _ _ ⟨rfl,by simp[a3]⟩
 rintro dG e7 bZ ⟨rfl,B4⟩
 simp only[jY]at B4
 simp at B4
 simp[B4]
 refine bG.mk (fun ae=>?_) (fun ae=>?_)
 ·simp at ae
  refine Exists.elim (⟨_,bx ae.1⟩:∃p,y[i]?=some p) fun p aT=>?_
  have oo:=nL (show i<4611686018427387904 by omega)
  have kf:=Ext.len bu
  simp[cJ]
  refine E8 (a9:=y) (n:=i) (a:=p) (by simpa using rL) (by simp[cJ]) aT (by simp) ?_
  intro iI ey
  simp[cJ]
  refine MK (a9:=y) (n:=i) (a:=p) (by simpa using rL) (by simp[cJ]) aT (by simp) ?_
  intro mP gl oF kM
  simp
  refine a7.mk (HP kM) ?_
  rintro u8 eE ⟨c9,uf⟩
  refine⟨c9,?_⟩
  obtain⟨s4,ta,rfl⟩:=Row.len uf
  have vZ:fs eE (.agg #[.int .i64 p.1,.slice s4 (p.2.take 9).length ta]) (p.1,p.2.take 9):=⟨s4,_,ta,rfl,uf⟩
  have wJ:=Ext.len c9
  try simp
  refine q6 (k:=H1.length) (e:=27) (J:=2) (ay:=true) (bs:=32) (z:= .agg #[.int .i64 0,.slice none 0 0]) (af:=fs) (xs:=(y.take i).map fun p=>(p.1,p.2.take 9)) (a:=(p.1,p.2.take 9)) (by simpa using bM.ext (af:=bz _ _ _ _ fs) cL c9) (by simpa using vZ) (by simpa using vZ.iv) (by simp) (fun aC de u y ai h=>h.kept ai (by decide)) (by simp) (by simp) (by simp) (by simp) (by simp) (by rfl) (by rfl) (by first | rfl | simp[flat,gB]) (by rfl) (by decide) (by decide) (by decide) (by simp;omega) (by omega) ?_
  intro Am ago e8 k7 dA adS
  simp[cJ,oo]
  refine a1 (y.length-(i+1)) _ _ _ (by omega) ⟨i+1,rfl,by omega,by omega,by simp,dA _ (Nat.le_refl _) (bu.aB c9),?_⟩
  have e:y.take (i+1)=y.take i++[p]:=by rw[List.take_add_one,aT];rfl
  rw[e]
  simpa using k7
 ·simp at ae
  have db:Row 27 2 true fs aY (bQ 6) a9:=by
   have e:y.take i=y.take 60:=by
    by_cases h:i<y.length
    ·rw[show i=60 by have:=ae h;omega]
    ·rw[List.take_of_length_le (by omega),List.take_of_length_le (by omega)]
   rw[iV]
   unfold yA
   rw[<-e,List.map_take]
   exact cL.row
  refine Exists.elim (⟨_,rfl⟩:∃hK,hK=bQ 6) fun hK qH=>?_
  rw[<-qH]at db
  have n5:=bM.ext (af:=e9) jl bu
  refine cv _ _ _ ?_
  clear cv
  refine bV.fZ fun cu cv=>?_
  simp[<-qH]
  refine a7.mk (VR n5 fG.1 fG.2 db (fun q av=>(zI q av).1) (fun q av=>(zI q av).2) (by omega)) ?_
  rintro pK bZ ⟨bP,Si,kj⟩
  have iQ:=bM.ext (af:=e9) n5 bP
  have SR:=bM.ext (af:=Row _ _ _ fs) db bP
  by_cases cr:sW t
  ·have qw:t.length<=8:=cr.1.2.1
   refine Exists.elim (kj cr) fun oR o4=>?_
   have e0:=o4.1
   subst e0
   simp
   refine cv _ _ _ ?_
   clear cv
   refine bV.fZ fun cu cv=>?_
   simp only[kp]
   refine bV.join (by kernel_rfl) (fun c7 dV bR=>Ext bZ bR/\c7 51= .bool false) ?_ ?_
   ·rintro cT ee-
    simp
    refine a7.mk (My iQ (by omega) fun r aj=>by have:=sg r aj;omega) ?_
    rintro _ _ ⟨rfl,rfl⟩
    simp[cr.1]
    refine a7.mk (Mo iQ cr.1) ?_
    rintro _ bR ⟨b5,s6,rfl,CK⟩
    have CL:=CK.2 cr
    subst CL
    simp
    exact ee _ _ _ ⟨b5,by simp⟩
   rintro c7 dV bR ⟨b5,rH⟩
   simp only[jY]at rH
   simp at rH
   simp[rH]
   refine cv _ _ _ ?_
   clear cv
   simp[uZ,<-qH]
   refine a7.mk (VQ (bM.ext (af:=e9) iQ b5) cr (bM.ext (af:=Row _ _ _ fs) SR b5) (by omega)) ?_
   rintro _ b_ ⟨c1,Bv,rfl,Ra⟩
   have lI:oR=Bv:=by
    have:oR=true↔Bv=true:=o4.2.trans Ra.symm
    cases oR<;>cases Bv<;>simp_all
   subst lI
   simp
   refine a7.mk K2 ?_
   rintro _ dX ⟨cH,rfl⟩
   simp[bj]
   exact aG _ _ ⟨bI.aB (bu.aB (bP.aB (b5.aB (c1.aB cH)))),rfl⟩
  ·have e0:=Si cr
   subst e0
   simp
   refine cv _ _ _ ?_
   clear cv
   refine bV.fZ fun cu cv=>?_
   simp only[kp]
   refine bV.join (by kernel_rfl) (fun c7 dV bR=>Ext bZ bR/\c7 51= .bool true) ?_ ?_
   ·rintro cT ee-
    simp
    refine a7.mk (My iQ (by omega) fun r aj=>by have:=sg r aj;omega) ?_
    rintro _ _ ⟨rfl,rfl⟩
    by_cases ao:fT t
    ·simp[ao]
     refine a7.mk (Mo iQ ao) ?_
     rintro _ bR ⟨b5,s6,rfl,CK⟩
     have CL:s6=false:=by
      cases s6 with
      | false=>rfl
      | true=>exact absurd (CK.1 rfl) cr
     subst CL
     simp
     exact ee _ _ _ ⟨b5,by simp⟩
    ·simp[ao]
     exact ee _ _ _ ⟨Ext.refl _,by simp⟩
   rintro c7 dV bR ⟨b5,rH⟩
   simp only[jY]at rH
   simp at rH
   simp[rH,uZ]
   refine a7.mk K2 ?_
   rintro _ dX ⟨cH,rfl⟩
   simp[bj]
   exact aG _ _ ⟨bI.aB (bu.aB (bP.aB (b5.aB cH))),rfl⟩
def FI(H:ab)(v:Value)(z:Int):Prop:=v= .int .i64 z/\ -9223372036854775808<=z/\z<9223372036854775808
instance:jE FI:=⟨fun h=>h⟩
theorem eX.i64{w:World}{H:Type}{enc:TypeId×Value->H}:eX w (k0 H enc w 3) false FI:=eX.flat fun cs ⟨fuel,x,h⟩=>by
 obtain⟨n,rfl,-,hw⟩:=DataW.trod_int (k:= .i64) (by rfl) h
 have ae: -9223372036854775808<=n/\n<9223372036854775808:=by
  simp[Lit.wf,IntKind.min,IntKind.max,IntKind.signed,IntKind.bits]at hw
  omega
 exact⟨_,_,n,rfl,fun ah=> .int _ _,fun H=>⟨rfl,ae⟩⟩
def Bm(H:ab)(v:Value)(p:Int×List Int):Prop:=fs H v p/\ -9223372036854775808<=p.1/\p.1<9223372036854775808
instance:jE Bm:=⟨fun⟨⟨a,n,c,h,o⟩,ae⟩=>⟨⟨a,n,c,h,jE.app o⟩,ae⟩⟩
theorem eX.share{w:World}{H:Type}{enc:TypeId×Value->H}:eX w (k0 H enc w 27) true Bm:=
 (eX.pair (w:=w) (t:=27) (t0:=3) (t1:=25) ⟨_,_,by rfl,by rfl,by rfl,by rfl,by rfl⟩ (by rfl) (by rfl) (by rfl) eX.i64
  (eX.slice (t:=25) (e:=3) (by rfl) (by rfl) (.inr rfl) (by decide) (by rfl) (by rfl) eX.int)).imp (fun _ h=>h) fun G v p ⟨a,b,o,aa,aD⟩=>by
   obtain⟨x,c,rfl⟩:=Row.len aD
   obtain⟨rfl,ae⟩:=aa
   exact⟨⟨_,_,_,o,aD⟩,ae⟩
theorem eX.shares{w:World}{H:Type}{enc:TypeId×Value->H}:eX w (k0 H enc w 23) false (Row 27 2 true Bm):=
 eX.slice (by rfl) (by rfl) (.inl rfl) (by decide) (by rfl) (by rfl) eX.share
theorem Xs{w:World}{H:Type}{enc:TypeId×Value->H}{x y:Value}(aH:k0 H enc w 22 [x])(o:k0 H enc w 23 [y]):
  Calls prog 3 #[x,y] w fun e gn=>e= .returned (.bool true)/\Below w.heap.size w gn:=by
 obtain⟨bm,vf,qZ,a,dp,hd,eM,gK⟩:=eX.gM _ aH _ _ m6.start
 obtain⟨kT,vg,s1,b,aS,aM,bh,b0⟩:=eX.shares _ o _ _ dp
 obtain⟨v0,rfl⟩:=eM.single
 obtain⟨v1,rfl⟩:=bh.single
 have dS:=jE.app (af:=e9) (N:=vg) gK
 obtain⟨dT,fH⟩:=Row.and (sZ:=fs) (p:=fun p=> -9223372036854775808<=p.1/\p.1<9223372036854775808) b0 fun _ _ _ h=>h
 change e9 _ v0 a at dS
 change Row _ _ _ _ _ v1 b at dT
 obtain⟨yg,ru,rfl⟩:=Row.len dS
 obtain⟨b1,cG,rfl⟩:=Row.len dT
 exact aah aS ((cz.ext aM eM).append bh) (by kernel_rfl) (Xr dS dT fH)
end Go.b9
end
section
namespace Go.Proofs.Ytoiodfcefbapkaa.shopMakes
open Go.ChangeShapes Go.WideShapes Go.ChangeAt Go.RowKit
theorem own:ownKnob Try.prog.godebug=none:=by kernel_rfl
theorem laidOut:laidOutB Try.prog=true:=by kernel_rfl
set_option maxRecDepth 100000 in
theorem lifted(os:Os)(started:os.Started)(H:Type)(enc:TypeId×Value->H):
  ReturnsInHanded {} Try.checked os 3 .any (Rows.shopMakesSpec.pre6 enc Try.prog Try.f3 Rows.shopMakesRow.domain false) (Rows.shopMakesSpec.post enc Try.prog Try.f3 false true false false):=by
 refine returnsInHanded_of_change (C:=Try.checked) own started (by kernel_rfl) Try.func3
  (ChangeSpec.witness6 (enc:=enc) (C:=Try.checked) false ⟨#[], #[.slice none 0 0,.slice none 0 0],[]⟩ 8 (by kernel_rfl) (by kernel_rfl) (by kernel_rfl) (by kernel_rfl)) ?_
 intro W base args fB gs before Kl tE adH _
 have gV:∀(j:Nat) t v,Try.f3.params[j]?=some t->args[j]?=some v->Value.okWide Try.prog W .any base t v:=Kl
 have QV:=tE
 obtain⟨p,q,vJ,n7,rfl,Jp,t_⟩:=tE
 have bO:DataW.TrodAll enc Try.prog W 0 (fun _=>true) true Try.f3.params.toList args.toList fB p:=vJ
 rw[Try.params3]at bO gV
 obtain⟨v0,agv,d0,adk,En,Ex,adA,rfl,rfl,aH,dS⟩:=trodAll_cons bO
 obtain⟨v1,agw,d1,adl,dp,aS,adB,rfl,rfl,o,dT⟩:=trodAll_cons dS
 obtain⟨rfl,rfl,rfl⟩:=trodAll_nil dT
 obtain rfl:args= #[v0,v1]:=by cases args;simp_all
 obtain⟨rfl,rfl⟩:=trodVars_none n7
 obtain⟨yg,z6,acB,rfl⟩:=okWide_slice Try.underlying22 (gV 0 22 v0 rfl rfl)
 obtain⟨b1,aet,vw,rfl⟩:=okWide_slice Try.underlying23 (gV 1 23 v1 rfl rfl)
 have iY:=aH
 have iG:=o
 have VD:∀x∈En,x.block<W.heap.size:=by obtain⟨m,hm⟩:=iY;exact DataW.trod_lt m _ _ _ hm
 have VE:∀x∈dp,x.block<W.heap.size:=by obtain⟨m,hm⟩:=iG;exact DataW.trod_lt m _ _ _ hm
 obtain⟨PB,h7⟩:=aH
 obtain⟨PC,bp⟩:=o
 simp only[Value.cells]at h7 bp
 clear vJ Kl
 refine(b9.Xs (H:=H) (enc:=enc) ⟨PB,_,h7⟩ ⟨PC,_,bp⟩).mono fun e abV ⟨he,Bw⟩=>?_
 subst he
 exact⟨_,rfl,_,_,_,[],_,[],QV,trodAll_mk1 (shut_bool Try.underlying4 _),(trodAll_cons_mk (Below.trod laidOut (by kernel_rfl) (of_decide_eq_true (by kernel_rfl)) iY Bw VD) (trodAll_cons_mk (Below.trod laidOut (by kernel_rfl) (of_decide_eq_true (by kernel_rfl)) iG Bw VE) trodAll_mk0)),rfl,Bw.frame _,fun h=>by cases h⟩
theorem over:Rows.shopMakesRow.holds Try.pinned (OpenSpec.ofChange Rows.shopMakesSpec):=
 OpenClaim.holds_of_wide 3 Try.f3 rfl rfl rfl rfl rfl rfl rfl ⟨rfl,rfl,rfl,rfl,rfl⟩ rfl rfl rfl rfl rfl (by kernel_rfl) Try.func3 (by kernel_rfl)
  (of_decide_eq_true (by kernel_rfl)) (by unfold Func.isWrapper;first | (rw[if_pos (by decide+kernel)];kernel_rfl) | (rw[if_neg (by decide+kernel)];exact⟨rfl,rfl⟩))
  (fun os started H enc _=>lifted os started H enc)
theorem proved:Rows.ShopMakesSaid:=over
end Go.Proofs.Ytoiodfcefbapkaa.shopMakes
end
