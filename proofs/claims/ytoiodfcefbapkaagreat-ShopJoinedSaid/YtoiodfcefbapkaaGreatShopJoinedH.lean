/- Part of the proof of ShopJoined. -/
import Derived.Test.YtoiodfcefbapkaaGreatShopJoinedG
set_option linter.unusedVariables false
set_option linter.unusedSimpArgs false
section
namespace Go.cJ
def gU(H:ab)(u w:Value):Prop:=u=w
instance:b7 gU:=⟨fun h _=>h⟩
def Grown(H:ab)(s v:Value):Prop:=∀b,inBlock v b->inBlock s b\/H.length<=b
section
variable {P:Program} {r:List bz} {F:Fr} {H:ab} {Q:Fr->ab->Prop} {α:Type}
theorem aaL{eh:Bool}{d1 d2 t bV cI e U bA k n:Nat}{s x:Operand}{z:Value}{cs:List Value}{ax:ba ((⟨eh,none,some d1,.buildSlice t 1 #[(0,x)]⟩:bz)::ap d2 bV cI s (T d1)::r) Q}(cy:hY H k e U (aq F s) n cs)(fq:∀v,aq (a4 F d1 v) s=aq F s)
  (bM:P.underlying t=some (.slice e))(hu:P.underlying bV=some (.slice e))(J:fB P cI=true)(ao:bq P e=some U)(ag:bytes? P e=some bA)(aM:dA P e=some z)(dS:flat z=true)(dg:z.cells.size=U)(df:0<U)(q8:U<=1000)
  (dY:0<bA)(bw:(n+1)*bA<=140737488355328)(an:(aq F x).cells.toList.length=U)(g6:((aq F x).cells.toList.all (·.oneCell'))=true)(aj:k<=H.length)
  (K:∀u au aF,hY aF k e U au (n+1) (cs++(aq F x).cells.toList)->(∀cx:ab,cx.length<=k->Ext cx H->Ext cx aF)->Kept H aF (aq F s) e->Grown H (aq F s) au->H.length<=aF.length->a_ P r Q .mk (a4 (a4 F d1 u) d2 au) aF):
  a_ P ((⟨eh,none,some d1,.buildSlice t 1 #[(0,x)]⟩:bz)::ap d2 bV cI s (T d1)::r) Q ax F H:=by
 have eV:(made z (1*U)).length=U:=by rw[u7,Nat.one_mul]
 have aK:iY (fun i=>some (i*U,U)) (made z (1*U)) [(0,aq F x)]=some (aq F x).cells.toList:=by
  simp only[iY]
  rw[if_pos ⟨an,by rw[eV];omega⟩]
  have:=Bj (aq F x).cells.toList (made z (1*U)) [] (by rw[eV,an])
  simpa using this
 have ay:Instr.fill (fun i=>some (i*U,U)) (made z (1*U)).toArray ((#[(0,x)]:Array (Nat×Operand)).toList.map fun p=>(p.1,aq F p.2))=some (aq F x).cells:=by
  rw[fill_eq]
  simp only[List.map_cons,List.map_nil]
  rw[aK]
  simp
 have av:∀R:Oper,R.op= .buildSlice t 1 #[(0,x)]->e9 P (aq F) H R (.slice (some ⟨H.length,0,none⟩) 1 1) (H++[.own e false (aq F x).cells.toList]):=fun R fp=> .build (out:=(aq F x).cells) fp bM ao aM dS dg df (by omega) (by omega) ay (by have:=an;simp at this;omega)
 refine jH rfl rfl rfl av (fun R aK=>by simp[bR,aK]) (.inr ((Ext.refl H).snoc _ _ _)) ?_
 show a_ P (ap d2 bV cI s (T d1)::r) Q .mk (a4 F d1 _) _
 have c7:Src (H++[.own e false (aq F x).cells.toList]) U (.slice (some ⟨H.length,0,none⟩) 1 1) 1 1 (aq F x).cells.toList:=by
  have:=Src.row (H:=H++[.own e false (aq F x).cells.toList]) (U:=U) (b:=H.length) (i:=0) (n:=1) (m:=1) (c:=1) (x:= .own e false (aq F x).cells.toList) (cs:=(aq F x).cells.toList) (by simp) rfl (by omega) (Nat.le_refl _) (by omega)
  rw[List.drop_zero,Nat.one_mul,<-an,List.take_length]at this
  rw[an]at this
  exact this
 have mc:hY (H++[.own e false (aq F x).cells.toList]) k e U (aq (a4 F d1 (.slice (some ⟨H.length,0,none⟩) 1 1)) s) n cs:=by
  rw[fq]
  exact cy.ext ((Ext.refl H).snoc _ _ _)
 refine FP mc (by simpa[aq,T,a4]using c7) hu J ao ag aM dg dY bw g6 (by omega) (by simp;omega) fun au aF o aa aA bo bK=>?_
 refine K _ au aF o (fun cx aH bn=>aa cx aH (bn.snoc _ _ _)) (fun b X aQ ag=>aA b X ?_ (by rw[fq];exact ag)) (fun b ag=>?_) (by simp at bK;omega)
 ·rw[List.getElem?_append_left (cK.1 aQ).1]
  exact aQ
 ·have:=bo b ag
  rw[fq]at this
  simp at this
  rcases this with h | h
  ·exact .inl h
  ·exact .inr (by omega)
theorem FT{eh:Bool}{d1 d2 t bV cI e U bA k:Nat}{aC:Bool}{s x:Operand}{z:Value}{af:ab->Value->α->Prop}{xs:List α}{a:α}{ax:ba ((⟨eh,none,some d1,.buildSlice t 1 #[(0,x)]⟩:bz)::ap d2 bV cI s (T d1)::r) Q}(cy:bB k e U aC af H (aq F s) xs)(aO:af H (aq F x) a)
  (hw:Whole P e (aq F x))(fq:∀v,aq (a4 F d1 v) s=aq F s)(hj:∀aF dv u y,Kept H aF dv e->af H u y->af aF u y)
  (bM:P.underlying t=some (.slice e))(hu:P.underlying bV=some (.slice e))(J:fB P cI=true)(ao:bq P e=some U)(ek:ds P e=some aC)(ag:bytes? P e=some bA)(aM:dA P e=some z)(dS:flat z=true)(dg:z.cells.size=U)(df:0<U)(q8:U<=1000)
  (dY:0<bA)(bw:(xs.length+1)*bA<=140737488355328)(aj:k<=H.length)
  (K:∀p au aF,bB k e U aC af aF au (xs++[a])->(∀cx:ab,cx.length<=k->Ext cx H->Ext cx aF)->Kept H aF (aq F s) e->Grown H (aq F s) au->H.length<=aF.length->a_ P r Q .mk (a4 (a4 F d1 p) d2 au) aF):
  a_ P ((⟨eh,none,some d1,.buildSlice t 1 #[(0,x)]⟩:bz)::ap d2 bV cI s (T d1)::r) Q ax F H:=by
 obtain⟨cs,iJ,fI⟩:=cy
 have fP:=iJ.1
 have k8:(aq F x).cells.size=U:=by have:=hw.1;rw[ao]at this;exact(Option.some.inj this).symm
 have o:aC=true\/U=1:=by
  cases aC with
  | true=>exact .inl rfl
  | false=>
   refine .inr ?_
   have cH:=hw.2.2
   cases av:e3 (aq F x)with
   | true=>rw[av]at cH;simp at cH;rw[cH]at ek;cases ek
   | false=>rw[av]at cH;simp at cH;rw[<-k8,cH.2];rfl
 refine aaL iJ fq bM hu J ao ag aM dS dg df q8 dY bw (by simp[k8]) hw.2.1 aj fun p au aF a1 a3 bG cn e5=>K p au aF ⟨_,by simpa using a1,fun i y aL=>?_⟩ a3 bG cn e5
 by_cases ae:i<xs.length
 ·rw[List.getElem?_append_left ae]at aL
  rw[sa fP ae o]
  exact hj _ _ _ _ bG (fI i y aL)
 ·have gr:i=xs.length:=by
   have:=(cK.1 aL).1
   simp at this
   omega
  subst gr
  rw[List.getElem?_append_right (Nat.le_refl _),Nat.sub_self]at aL
  simp at aL
  subst aL
  rw[Cr fP hw ao ek]
  exact hj _ _ _ _ bG aO
end
section
variable {α:Type} {P:Program} {e U k:Nat} {aC:Bool} {af:ab->Value->α->Prop} {H aF:ab} {v s:Value} {xs:List α}
theorem Row.YQ{cs:List Value}(k2:∀i x,xs[i]?=some x->af H (et aC U cs i) x)(ar:cs.length=xs.length*U)(kB:∀u y,af H u y->Whole P e u)(ek:ds P e=some aC)(o:aC=true\/U=1):(cs.all (·.oneCell'))=true:=by
 rw[List.all_eq_true]
 intro u m9
 obtain⟨j,aX⟩:=List.getElem?_of_mem m9
 have gA:j<xs.length*U:=by have:=(cK.1 aX).1;omega
 have df:0<U:=by rcases Nat.eq_zero_or_pos U with q | q;·subst q;simp at gA
                 exact q
 have cA:j/U<xs.length:=Nat.div_lt_of_lt_mul (by rw[Nat.mul_comm];exact gA)
 have hw:=kB _ _ (k2 _ _ (bJ cA))
 have iq:u∈(et aC U cs (j/U)).cells.toList:=by
  unfold et
  cases aC with
  | true=>
   simp only[if_true,Value.cells,List.toList_toArray]
   have m0:=Nat.div_add_mod j U
   have eV:=Nat.mod_lt j df
   rw[Nat.mul_comm]at m0
   refine List.mem_of_getElem? (i:=j % U) ?_
   rw[List.getElem?_take_of_lt eV,List.getElem?_drop,m0]
   exact aX
  | false=>
   have fq:U=1:=by rcases o with h | h;cases h;exact h
   subst fq
   have m2:cs[j/1]?=some u:=by rw[Nat.div_one];exact aX
   simp only[et,Bool.false_eq_true,if_false]at hw⊢
   rw[m2]at hw⊢
   simp only[Option.getD_some]at hw⊢
   have cH:=hw.2.2
   cases av:e3 u with
   | false=>rw[av]at cH;simp at cH;rw[cH.2];simp
   | true=>
    rw[av]at cH
    simp at cH
    rw[cH]at ek
    cases ek
 exact List.all_eq_true.1 hw.2.1 u iq
theorem bB.beside{cP:Nat}(h:bB k e U aC af H v xs)(sA:0<k)(aj:Kept H aF s cP)(cN:∀b,0<b->inBlock v b->¬inBlock s b)(br:∀u x,af H u x->af aF u x):bB k e U aC af aF v xs:=by
 obtain⟨cs,⟨o,aa⟩,aA⟩:=h
 refine⟨cs,⟨o,?_⟩,fun i x ae=>br _ _ (aA i x ae)⟩
 rcases aa with aa | ⟨c,i,cap,l,all,a1,a3,bG,cn,e5,g2⟩
 ·exact .inl aa
 ·exact .inr ⟨c,i,cap,l,all,a1,a3,bG,cn,aj _ _ e5 fun ag=>absurd ag (cN c (by omega) ⟨i,_,cap,a1⟩),g2⟩
theorem bB.other{cP:Nat}(h:bB k e U aC af H v xs)(aj:Kept H aF s cP)(cN:e≠cP)(br:∀u x,af H u x->af aF u x):bB k e U aC af aF v xs:=by
 obtain⟨cs,⟨o,aa⟩,aA⟩:=h
 refine⟨cs,⟨o,?_⟩,fun i x ae=>br _ _ (aA i x ae)⟩
 rcases aa with aa | ⟨c,i,cap,l,all,a1,a3,bG,cn,e5,g2⟩
 ·exact .inl aa
 ·exact .inr ⟨c,i,cap,l,all,a1,a3,bG,cn,aj _ _ e5 fun _=>by simp[bI.elem?];exact cN,g2⟩
theorem bB.le{b5:Nat}(h:bB k e U aC af H v xs)(aj:b5<=k):bB b5 e U aC af H v xs:=by
 obtain⟨cs,⟨o,aa⟩,aA⟩:=h
 refine⟨cs,⟨o,?_⟩,aA⟩
 rcases aa with aa | ⟨c,i,cap,l,all,a1,a3,bG,cn,e5,g2⟩
 ·exact .inl aa
 ·exact .inr ⟨c,i,cap,l,all,a1,a3,bG,by omega,e5,g2⟩
theorem bB.ge(h:bB k e U aC af H v xs){b:Nat}(ag:inBlock v b)(aH:0<b):k<=b/\b<H.length:=by
 obtain⟨cs,⟨o,aa⟩,aA⟩:=h
 obtain⟨jE,dU,dR,an⟩:=ag
 rcases aa with⟨-,aa | ⟨i,aa⟩⟩ | ⟨c,i,cap,l,all,a1,a3,bG,cn,e5,g2⟩
 ·rw[an]at aa;simp at aa
 ·rw[an]at aa;simp at aa;try omega
 ·rw[an]at a1;simp at a1
  have:=(cK.1 e5).1
  omega
end
structure eo {α:Type} (k bg e U:Nat) (aC:Bool) (af:ab->Value->α->Prop) (H:ab) (v:Value) (t:List (List α)) (us:List Value):Prop where
 pos:0<k
 own:bB k bg 1 false gU H v us
 len:us.length=t.length
 rows:∀(i:Nat) (row:List α) (u:Value),t[i]?=some row->us[i]?=some u->bB k e U aC af H u row
 px:∀(i j b:Nat) (u w:Value),us[i]?=some u->us[j]?=some w->0<b->inBlock u b->inBlock w b->i=j
section
variable {α:Type} {P:Program} {bg e U k:Nat} {aC:Bool} {af:ab->Value->α->Prop} {H aF mL:ab} {v s au:Value} {t:List (List α)} {us:List Value}
theorem eo.vn(h:eo k bg e U aC af H v t us){i:Nat}{row:List α}(ae:t[i]?=some row):∃u,us[i]?=some u/\bB k e U aC af H u row:=by
 have cA:i<us.length:=by rw[h.len];exact(cK.1 ae).1
 exact⟨_,bJ cA,h.rows i row _ ae (bJ cA)⟩
theorem eo.ext[b7 af](h:eo k bg e U aC af H v t us)(J:Ext H aF):eo k bg e U aC af aF v t us:=
 ⟨h.pos,b7.ext (af:=bB k bg 1 false gU) h.own J,h.len,fun i row u o aa=>b7.ext (af:=bB k e U aC af) (h.rows i row u o aa) J,h.px⟩
theorem eo.row(h:eo k bg e U aC af H v t us):Row bg 1 false (Row e U aC af) H v t:=by
 obtain⟨cs,o,aa⟩:=h.own
 refine⟨cs,by rw[<-h.len];exact o.fF,fun i row ae=>?_⟩
 obtain⟨u,hu,cy⟩:=h.vn ae
 have:=aa i u hu
 rw[show et false 1 cs i=u from this]
 exact cy.row
theorem eo.nil(k bg e U:Nat)(aC:Bool)(af:ab->Value->α->Prop)(H:ab)(aj:0<k):eo k bg e U aC af H (.slice none 0 0) [] []:=
 ⟨aj,bB.nil _ _ _ _ _ _,rfl,fun i row u h=>by simp at h,fun i j b u w h=>by simp at h⟩
theorem eo.M5{n:Nat}(aj:0<k)(h:bB k bg 1 false gU H v (List.replicate n (.slice none 0 0))):eo k bg e U aC af H v (List.replicate n ([]:List α)) (List.replicate n (.slice none 0 0)):=by
 refine⟨aj,h,by simp,fun i row u o aa=>?_,fun i j b u w o aa _ aA=>?_⟩
 ·rw[List.getElem?_replicate]at o aa
  split at o
  ·rw[if_pos ‹_›]at aa
   cases o;cases aa
   exact bB.nil _ _ _ _ _ _
  ·cases o
 ·rw[List.getElem?_replicate]at o
  split at o
  ·cases o
   obtain⟨jE,dU,dR,aA⟩:=aA
   simp at aA
  ·cases o
theorem eo.put{i:Nat}{u:Value}{nr:List α}(h:eo k bg e U aC af H v t us)(hu:us[i]?=some u)(cN:e≠bg)(aj:Kept H aF u e)(aU:Grown H u au)(fj:bB k e U aC af aF au nr)(eI:∀u x,af H u x->af aF u x)
  (cy:bB k bg 1 false gU mL v (us.set i au))(n7:Kept aF mL v bg)(gI:∀u x,af aF u x->af mL u x):eo k bg e U aC af mL v (t.set i nr) (us.set i au):=by
 have cA:=(cK.1 hu).1
 refine⟨h.pos,cy,by simp[h.len],fun j row w o aa=>?_,fun j ea b w gx o aa aH aA bo=>?_⟩
 ·by_cases fE:i=j
  ·subst fE
   rw[List.getElem?_set_self cA]at aa
   rw[List.getElem?_set_self (by rw[<-h.len];exact cA)]at o
   cases o;cases aa
   exact fj.other n7 cN gI
  ·rw[List.getElem?_set_ne fE]at o aa
   refine((h.rows j row w o aa).beside h.pos aj (fun b aH ag c3=>fE (h.px i j b u w hu aa aH c3 ag)) eI).other n7 cN gI
 ·have fresh:∀(j:Nat) (w:Value),us[j]?=some w->i≠j->inBlock w b->¬inBlock au b:=fun j w hw pN ag c3=>by
   rcases aU b c3 with q | q
   ·exact pN (h.px i j b u w hu hw aH q ag)
   ·have uL:j<t.length:=by rw[<-h.len];exact(cK.1 hw).1
    have:=(h.rows j _ w (bJ uL) hw).ge ag aH
    omega
  by_cases fE:i=j
  ·subst fE
   rw[List.getElem?_set_self cA]at o
   cases o
   by_cases mj:i=ea
   ·exact mj
   ·rw[List.getElem?_set_ne mj]at aa
    exact absurd aA (fresh ea gx aa mj bo)
  ·rw[List.getElem?_set_ne fE]at o
   by_cases mj:i=ea
   ·subst mj
    rw[List.getElem?_set_self cA]at aa
    cases aa
    exact absurd bo (fresh j w o fE aA)
   ·rw[List.getElem?_set_ne mj]at aa
    exact h.px j ea b w gx o aa aH aA bo
theorem eo.inner{i:Nat}{u:Value}{nr:List α}(h:eo k bg e U aC af H v t us)(hu:us[i]?=some u)(cN:e≠bg)(aj:Kept H aF u e)(fj:bB k e U aC af aF u nr)(eI:∀u x,af H u x->af aF u x):eo k bg e U aC af aF v (t.set i nr) us:=by
 have cA:=(cK.1 hu).1
 refine⟨h.pos,h.own.other aj (Ne.symm cN) fun _ _ h=>h,by simp[h.len],fun j row w o aa=>?_,h.px⟩
 by_cases fE:i=j
 ·subst fE
  rw[List.getElem?_set_self (by rw[<-h.len];exact cA)]at o
  rw[hu]at aa
  cases o;cases aa
  exact fj
 ·rw[List.getElem?_set_ne fE]at o
  exact(h.rows j row w o aa).beside h.pos aj (fun b aH ag c3=>fE (h.px i j b u w hu aa aH c3 ag)) eI
theorem eo.Y9{i o6:Nat}{nr:List α}(h:eo k bg e U aC af H v t us)(cA:i<t.length)(aG:∀b,0<b->inBlock au b->o6<=b)(a6:∀(j:Nat) (w:Value) (b:Nat),us[j]?=some w->inBlock w b->0<b->b<o6)(cN:e≠bg)(fj:bB k e U aC af H au nr)
  (cy:bB k bg 1 false gU mL v (us.set i au))(n7:Kept H mL v bg)(gI:∀u x,af H u x->af mL u x):eo k bg e U aC af mL v (t.set i nr) (us.set i au):=by
 have DA:i<us.length:=by rw[h.len];exact cA
 refine⟨h.pos,cy,by simp[h.len],fun j row w o aa=>?_,fun j ea b w gx o aa aH aA bo=>?_⟩
 ·by_cases fE:i=j
  ·subst fE
   rw[List.getElem?_set_self DA]at aa
   rw[List.getElem?_set_self cA]at o
   cases o;cases aa
   exact fj.other n7 cN gI
  ·rw[List.getElem?_set_ne fE]at o aa
   exact(h.rows j row w o aa).other n7 cN gI
 ·by_cases fE:i=j
  ·subst fE
   rw[List.getElem?_set_self DA]at o
   cases o
   by_cases mj:i=ea
   ·exact mj
   ·rw[List.getElem?_set_ne mj]at aa
    have:=a6 _ _ _ aa bo aH
    have:=aG _ aH aA
    omega
  ·rw[List.getElem?_set_ne fE]at o
   by_cases mj:i=ea
   ·subst mj
    rw[List.getElem?_set_self DA]at aa
    cases aa
    have:=a6 _ _ _ o aA aH
    have:=aG _ aH bo
    omega
   ·rw[List.getElem?_set_ne mj]at aa
    exact h.px j ea b w gx o aa aH aA bo
theorem eo.snoc{nr:List α}{v2:Value}{cx:ab}{o6:Nat}(h:eo k bg e U aC af H v t us)(aG:∀b,0<b->inBlock au b->o6<=b)(a6:∀(j:Nat) (w:Value) (b:Nat),us[j]?=some w->inBlock w b->0<b->b<o6)(cN:e≠bg)(fj:bB k e U aC af H au nr)
  (cy:bB k bg 1 false gU mL v2 (us++[au]))(n7:Kept H mL v bg)(gI:∀u x,af H u x->af mL u x):eo k bg e U aC af mL v2 (t++[nr]) (us++[au]):=by
 refine⟨h.pos,cy,by simp[h.len],fun j row w o aa=>?_,fun j ea b w gx o aa aH aA bo=>?_⟩
 ·by_cases fE:j<t.length
  ·rw[List.getElem?_append_left fE]at o
   rw[List.getElem?_append_left (by rw[h.len];exact fE)]at aa
   exact(h.rows j row w o aa).other n7 cN gI
  ·rw[List.getElem?_append_right (by omega)]at o
   rw[List.getElem?_append_right (by rw[h.len];omega)]at aa
   have uK:j-t.length=0:=by
    have:=(cK.1 o).1
    simp at this;omega
   rw[uK]at o
   rw[h.len,uK]at aa
   simp at o aa
   subst o;subst aa
   exact fj.other n7 cN gI
 ·have aX:∀(j:Nat) (w:Value),(us++[au])[j]?=some w->inBlock w b->(us[j]?=some w/\b<o6)\/(j=us.length/\o6<=b):=fun j w hw ag=>by
   by_cases fE:j<us.length
   ·rw[List.getElem?_append_left fE]at hw
    exact .inl ⟨hw,a6 _ _ _ hw ag aH⟩
   ·rw[List.getElem?_append_right (by omega)]at hw
    have uK:j-us.length=0:=by
     have:=(cK.1 hw).1
     simp at this;omega
    rw[uK]at hw
    simp at hw
    subst hw
    exact .inr ⟨by omega,aG b aH ag⟩
  rcases aX j w o aA with⟨a1,a3⟩ | ⟨a1,a3⟩
  ·rcases aX ea gx aa bo with⟨bG,cn⟩ | ⟨bG,cn⟩
   ·exact h.px j ea b w gx a1 bG aH aA bo
   ·omega
  ·rcases aX ea gx aa bo with⟨bG,cn⟩ | ⟨bG,cn⟩
   ·omega
   ·omega
theorem eo.lt(h:eo k bg e U aC af H v t us)(j:Nat)(w:Value)(b:Nat)(hw:us[j]?=some w)(ag:inBlock w b)(aH:0<b):b<H.length:=by
 have uL:j<t.length:=by rw[<-h.len];exact(cK.1 hw).1
 exact((h.rows j _ w (bJ uL) hw).ge ag aH).2
end
def B0(U:Nat)(u:Value)(n j m:Nat)(v:Value):Prop:=(∃b R cap c,u= .slice (some ⟨b,R,none⟩) n cap/\v= .slice (some ⟨b,R+j*U,none⟩) m c)\/(m=0/\∃a c,v= .slice a 0 c)
theorem bB.sub{α:Type}{k e U:Nat}{aC:Bool}{af:ab->Value->α->Prop}{H:ab}{v:Value}{xs:List α}(h:bB k e U aC af H v xs):B0 U v xs.length 0 xs.length v:=by
 obtain⟨cs,⟨o,aa⟩,aA⟩:=h
 rcases aa with⟨aH,aa | ⟨i,aa⟩⟩ | ⟨c,i,cap,l,all,a1,a3,bG,cn,e5,g2⟩
 ·exact .inr ⟨aH,_,_,aa⟩
 ·exact .inr ⟨aH,_,_,aa⟩
 ·exact .inl ⟨c,i,cap,cap,a1,by simpa using a1⟩
section
variable {P:Program} {r:List bz} {F:Fr} {H:ab} {Q:Fr->ab->Prop} {α:Type}
theorem Bx{eh:Bool}{d t e U l h k:Nat}{aC:Bool}{x:Operand}{bb ae:Option Operand}{af:ab->Value->α->Prop}{xs:List α}{ax:ba ((⟨eh,none,some d,.slice t x bb ae none⟩:bz)::r) Q}(cy:bB k e U aC af H (aq F x) xs)(hu:P.underlying t=some (.slice e))(ao:bq P e=some U)(o:aC=true\/U=1)
  (ar:dO (aq F) bb=some l)(cV:e2 (aq F) xs.length ae=some h)(xd:l<=h)(w9:h<=xs.length)(K:∀au,Row e U aC af H au ((xs.drop l).take (h-l))->B0 U (aq F x) xs.length l (h-l) au->a_ P r Q .mk (a4 F d au) H):a_ P ((⟨eh,none,some d,.slice t x bb ae none⟩:bz)::r) Q ax F H:=by
 by_cases aH:h-l=0
 ·refine rL cy.row hu ao o ar cV xd w9 fun au dJ=>K au dJ (.inr ⟨aH,?_⟩)
  obtain⟨a,c,an⟩:=dJ.len
  rw[aH]at an
  exact⟨a,c,by simpa using an⟩
 ·have mc:=cy
  obtain⟨cs,⟨JK,aa⟩,aA⟩:=mc
  rcases aa with⟨pA,-⟩ | ⟨b,i,cap,u4,all,a1,a3,bG,cn,e5,g2,Fe⟩
  ·omega
  ·refine OB (b:=b) (i:=i) (len:=xs.length) (cap:=cap) (l:=l) (h:=h) a1 e5 rfl hu ao ar cV xd (by omega) (by omega) ?_
   refine K _ ?_ (.inl ⟨b,i,cap,cap-l,a1,rfl⟩)
   refine⟨(cs.drop (l*U)).take ((h-l)*U),⟨_,_,by rw[List.length_take,List.length_drop,Nat.min_eq_left (by omega)],by rw[List.length_take,List.length_drop];omega,?_,fun _=>⟨b,i+l*U,_,all,rfl,e5,rfl,rfl,?_,?_⟩⟩,fun j y aL=>?_⟩
   ·have bk:(h-l)*U+l*U=h*U:=by rw[<-Nat.add_mul];congr 1;omega
    have bg:h*U<=xs.length*U:=Nat.mul_le_mul_right _ w9
    have fW:((xs.drop l).take (h-l)).length=h-l:=by simp;omega
    rw[fW]
    simp
    omega
   ·have bk:(cap-l)*U+l*U=cap*U:=by rw[<-Nat.add_mul];congr 1;omega
    have fW:((xs.drop l).take (h-l)).length=h-l:=by simp;omega
    rw[fW]
    have bg:(h-l)*U<=(cap-l)*U:=Nat.mul_le_mul_right _ (by omega)
    omega
   ·have bk:(h-l)*U+l*U=h*U:=by rw[<-Nat.add_mul];congr 1;omega
    have bg:h*U<=xs.length*U:=Nat.mul_le_mul_right _ w9
    have fW:((xs.drop l).take (h-l)).length=h-l:=by simp;omega
    rw[fW,Fe,List.drop_take,List.drop_drop,List.take_take,Nat.min_eq_left (by omega)]
   ·have cA:j<h-l:=by
     have:=(cK.1 aL).1
     simp at this
     omega
    rw[List.getElem?_take_of_lt cA,List.getElem?_drop]at aL
    have:=aA _ _ aL
    have bk:et aC U ((cs.drop (l*U)).take ((h-l)*U)) j=et aC U cs (l+j):=by
     have hle:(j+1)*U<=(h-l)*U:=Nat.mul_le_mul_right _ cA
     rw[Nat.succ_mul]at hle
     unfold et
     cases aC with
     | true=>
      simp only[if_true]
      rw[List.drop_take,List.drop_drop,List.take_take,Nat.min_eq_left (by omega),<-Nat.add_mul]
     | false=>
      have fq:U=1:=by rcases o with h | h;cases h;exact h
      subst fq
      simp only[Bool.false_eq_true,if_false,Nat.mul_one]
      rw[List.getElem?_take_of_lt cA,List.getElem?_drop]
    rw[bk]
    exact this
theorem rJ{d hW bV e U k j m:Nat}{aC:Bool}{x y:Operand}{u:Value}{af:ab->Value->α->Prop}{xs bO:List α}{ax:ba (cp d hW bV x y::r) Q}(cy:bB k e U aC af H u xs)(aB:B0 U u xs.length j m (aq F x))(ahe:j+m<=xs.length)(k2:Row e U aC af H (aq F y) bO)
  (kB:∀u y,af H u y->Whole P e u)(hj:∀aF dv u y,Kept H aF dv e->af H u y->af aF u y)(hu:P.underlying hW=some (.slice e))(ao:bq P e=some U)(ek:ds P e=some aC)(o:aC=true\/U=1)(df:0<U)
  (K:∀aF,bB k e U aC af aF u (xs.take j++bO.take m++xs.drop (j+(bO.take m).length))->(∀cx:ab,cx.length<=k->Ext cx H->Ext cx aF)->Kept H aF u e->aF.length=H.length->(∀c,c<k->aF[c]?=H[c]?)->a_ P r Q .mk (a4 F d (.int .i64 ((bO.take m).length:Int))) aF):a_ P (cp d hW bV x y::r) Q ax F H:=by
 have a5:∀R:Oper,R.op= .call {callee:= .builtin .copy,args:= #[x,y],argTypes:= #[hW,bV]}->bR P R=false:=fun R aK=>by simp[bR,aK]
 have aG:b3 P (aq F) H (.call {callee:= .builtin .copy,args:= #[x,y],argTypes:= #[hW,bV]})=none:=rfl
 by_cases aH:(bO.take m).length=0
 ·have m4:min bO.length m=0:=by simpa[Nat.min_comm]using aH
  obtain⟨aft,eT,sW⟩:=k2.len
  obtain⟨afs,aga,iQ⟩:∃a c,aq F x= .slice a m c:=by
   rcases aB with⟨b,R,cap,c,-,h⟩ | ⟨rfl,a,c,h⟩
   ·exact⟨_,_,h⟩
   ·exact⟨_,_,h⟩
  refine jH (v:= .int .i64 0) (H1:=H) rfl rfl aG (fun R aK=> .wa aK hu ao (by rw[sW];exact .vF) m4 iQ) a5 (.inl rfl) ?_
  have he:bO.take m=[]:=List.eq_nil_of_length_eq_zero aH
  have:=K H (by rw[he];simpa using cy) (fun _ _ h=>h) (fun b X h _=>h) rfl (fun _ _=>rfl)
  rw[aH]at this
  exact this
 ·have mc:=cy
  obtain⟨cs,⟨ar,aa⟩,aA⟩:=mc
  obtain⟨aN,zQ,wT⟩:=k2
  have m4:0<m:=by rcases Nat.eq_zero_or_pos m with q | q;·subst q;simp at aH
                  exact q
  obtain⟨b,R,cap,c,h4,lI⟩:∃b R cap c,u= .slice (some ⟨b,R,none⟩) xs.length cap/\aq F x= .slice (some ⟨b,R+j*U,none⟩) m c:=by
   rcases aB with h | ⟨q,-⟩
   ·exact h
   ·omega
  rcases aa with⟨pA,-⟩ | ⟨cu,kl,dC,u4,all,a1,a3,bG,cn,e5,g2,Fe⟩
  ·omega
  rw[h4]at a1
  simp at a1
  obtain⟨⟨rfl,rfl⟩,rfl⟩:=a1
  obtain⟨n,sF⟩:∃n,n=(bO.take m).length:=⟨_,rfl⟩
  have DN:n=min bO.length m:=by rw[sF];simp[Nat.min_comm]
  have jz:aN.length=bO.length*U:=by obtain⟨_,_,_,_,h,_⟩:=zQ;exact h
  have c7:Src H U (aq F y) bO.length n (aN.take (n*U)):=ep.src zQ (by omega)
  have Af:n*U<=bO.length*U:=Nat.mul_le_mul_right _ (by omega)
  have n9:(aN.take (n*U)).length=n*U:=by simp;omega
  have xl:((aN.take (n*U)).all (·.oneCell'))=true:=by
   have:=Row.YQ (P:=P) wT jz kB ek o
   rw[List.all_eq_true]at this⊢
   exact fun u hu=>this u (List.mem_of_mem_take hu)
  have bk:(j+n)*U=j*U+n*U:=Nat.add_mul _ _ _
  have bg:(j+n)*U<=xs.length*U:=Nat.mul_le_mul_right _ (by omega)
  have fW:xs.length*U<=cap*U:=Nat.mul_le_mul_right _ bG
  have bw:R+j*U+(aN.take (n*U)).length<=all.length:=by omega
  refine jH (v:= .int .i64 n) (H1:=H.set b (.own e u4 (db all (R+j*U) (aN.take (n*U))))) rfl rfl aG (fun R aK=> .copy aK hu ao c7 DN (by omega) e5 bw xl lI) a5 (.inl rfl) ?_
  have gJ:=(cK.1 e5).1
  have uM:Kept H (H.set b (.own e u4 (db all (R+j*U) (aN.take (n*U))))) u e:=fun cu X aQ c3=>by
   have:b≠cu:=fun cP=>by
    subst cP
    rw[e5]at aQ
    exact c3 ⟨R,_,cap,h4⟩ (by rw[<-Option.some.inj aQ];rfl)
   rw[List.getElem?_set_ne this];exact aQ
  have hlen:(xs.take j++bO.take m++xs.drop (j+(bO.take m).length)).length=xs.length:=by
   simp only[List.length_append,List.length_take,List.length_drop]
   omega
  have TM:(cs.take (j*U)++aN.take (n*U)++cs.drop (j*U+n*U))=db cs (j*U) (aN.take (n*U)):=by
   unfold db;rw[n9]
  have:=K (H.set b (.own e u4 (db all (R+j*U) (aN.take (n*U))))) ⟨db cs (j*U) (aN.take (n*U)),⟨by rw[nt (by omega),ar,hlen],.inr ⟨b,R,cap,u4,_,by rw[hlen];exact h4,a3,by rw[hlen];exact bG,cn,List.getElem?_set_self gJ,by rw[nt bw];exact g2,?_⟩⟩,fun i y aL=>?_⟩
   (fun cx aH J=>J.set (by omega) (by simp)) uM (by simp) (fun c ad=>List.getElem?_set_ne (by omega))
  ·rw[<-sF]at this;exact this
  ·rw[hlen,Fe]
   have n4:j*U+(aN.take (n*U)).length<=((all.drop R).take (xs.length*U)).length:=by simp;omega
   apply List.ext_getElem?
   intro i
   by_cases ae:i<xs.length*U
   ·rw[List.getElem?_take_of_lt ae,List.getElem?_drop,rE bw,rE n4,List.getElem?_take_of_lt ae,List.getElem?_drop]
    by_cases ad:j*U<=i/\i<j*U+(aN.take (n*U)).length
    ·rw[if_pos ad,if_pos ⟨by omega,by omega⟩]
     congr 1
     omega
    ·rw[if_neg ad,if_neg (by omega)]
   ·rw[List.getElem?_eq_none (by rw[nt n4];simp;omega),List.getElem?_eq_none (by simp;omega)]
  ·
   have gI:∀u x,af H u x->af (H.set b (.own e u4 (db all (R+j*U) (aN.take (n*U))))) u x:=fun u x h=>hj _ _ _ _ uM h
   rw[<-TM]
   have bM:(cs.take (j*U)).length=j*U:=by simp;omega
   by_cases jd:i<j
   ·rw[List.append_assoc,List.getElem?_append_left (by simp;omega),List.getElem?_take_of_lt jd]at aL
    rw[List.append_assoc,sa bM jd o]
    have:et aC U (cs.take (j*U)) i=et aC U cs i:=by
     have:=sa (aC:=aC) (i:=i) (aN:=cs.drop (j*U)) bM jd o
     rw[List.take_append_drop]at this
     exact this.symm
    rw[this]
    exact gI _ _ (aA _ _ aL)
   ·by_cases h5:i<j+n
    ·rw[List.append_assoc,List.getElem?_append_right (by simp;omega),List.getElem?_append_left (by simp;omega)]at aL
     have gA:(xs.take j).length=j:=by simp;omega
     rw[gA,List.getElem?_take_of_lt (by omega)]at aL
     rw[List.append_assoc,zi bM (by omega) o,sa n9 (by omega) o]
     have:et aC U (aN.take (n*U)) (i-j)=et aC U aN (i-j):=by
      have:=sa (aC:=aC) (i:=i-j) (aN:=aN.drop (n*U)) n9 (by omega) o
      rw[List.take_append_drop]at this
      exact this.symm
     rw[this]
     exact gI _ _ (wT _ _ aL)
    ·rw[List.getElem?_append_right (by simp;omega)]at aL
     have jU:(xs.take j++bO.take m).length=j+n:=by simp;omega
     rw[jU,<-sF,List.getElem?_drop,show j+n+(i-(j+n))=i by omega]at aL
     have mm:(cs.take (j*U)++aN.take (n*U)).length=(j+n)*U:=by rw[List.length_append,bM,n9,bk]
     rw[zi mm (by omega) o]
     have:et aC U (cs.drop (j*U+n*U)) (i-(j+n))=et aC U cs i:=by
      have bo:(cs.take ((j+n)*U)).length=(j+n)*U:=by simp;omega
      have:=zi (aC:=aC) (i:=i) (aN:=cs.drop ((j+n)*U)) bo (by omega) o
      rw[List.take_append_drop,bk]at this
      exact this.symm
     rw[this]
     exact gI _ _ (aA _ _ aL)
end
def eZ{α:Type}(P:Program)(e:Nat)(af:ab->Value->α->Prop)(H:ab)(u:Value):Option α->Prop
 | some a=>af H u a
 | none=>Whole P e u
section
variable {α:Type} {P:Program} {e U k:Nat} {aC:Bool} {af:ab->Value->α->Prop} {H:ab} {v:Value} {xs:List α}
instance[b7 af]:b7 (eZ P e af):=⟨fun{H H1 u R} h J=>by
 cases R with
 | none=>exact h
 | some a=>exact b7.ext (af:=af) h J⟩
theorem eZ.jr(br:∀u y,af H u y->Whole P e u):∀u y,eZ P e af H u y->Whole P e u
 | u,none,h=>h
 | u,some a,h=>br u a h
theorem eZ.kept{cP:Nat}(br:∀aF dv u y,Kept H aF dv cP->af H u y->af aF u y):∀aF dv u y,Kept H aF dv cP->eZ P e af H u y->eZ P e af aF u y
 | aF,dv,u,none,_,h=>h
 | aF,dv,u,some a,aj,h=>br aF dv u a aj h
theorem Row.opt(h:Row e U aC af H v xs):Row e U aC (eZ P e af) H v (xs.map some):=by
 obtain⟨cs,o,aa⟩:=h
 refine⟨cs,by simpa using o,fun i x ae=>?_⟩
 rw[List.getElem?_map,Option.map_eq_some_iff]at ae
 obtain⟨y,aL,rfl⟩:=ae
 exact aa i y aL
theorem bB.F0(h:bB k e U aC (eZ P e af) H v (xs.map some)):bB k e U aC af H v xs:=by
 obtain⟨cs,o,aa⟩:=h
 refine⟨cs,by simpa using o,fun i x ae=>?_⟩
 exact aa i (some x) (by simp[ae])
theorem Fo{α:Type}(a:α){n N:Nat}(aH:n<=N):(List.replicate n (some a)++List.replicate (N-n) (none:Option α)).take n++(List.replicate n (some a)).take (N-n)++(List.replicate n (some a)++List.replicate (N-n) (none:Option α)).drop (n+((List.replicate n (some a)).take (N-n)).length)=List.replicate (n+min (N-n) n) (some a)++List.replicate (N-(n+min (N-n) n)) none:=by
 rw[List.take_replicate,List.take_append,List.take_replicate]
 simp only[List.length_replicate,Nat.sub_self,List.take_zero,List.append_nil,Nat.min_self]
 rw[List.replicate_append_replicate]
 congr 1
 rw[List.drop_append,List.drop_eq_nil_of_le (by simp),List.nil_append]
 simp only[List.length_replicate,List.drop_replicate]
 congr 1
 omega
theorem Fm{α:Type}(a:α)(N:Nat):(List.replicate N (none:Option α)).take 0++([some a]:List (Option α)).take N++(List.replicate N (none:Option α)).drop (0+(([some a]:List (Option α)).take N).length)=List.replicate (min N 1) (some a)++List.replicate (N-min N 1) none:=by
 rcases N with _ | N
 ·simp
 ·have:min (N+1) 1=1:=by omega
  rw[this]
  simp
theorem Fl{α:Type}(a:α){n N:Nat}(aH:n<=N)(o:¬n<N):List.replicate n (some a)++List.replicate (N-n) (none:Option α)=(List.replicate N a).map some:=by
 have:n=N:=by omega
 subst this
 simp
end
section
variable {P:Program} {r:List bz} {F:Fr} {H:ab} {Q:Fr->ab->Prop} {α:Type}
theorem Bu{eh:Bool}{d t e U:Nat}{aC:Bool}{x:Operand}{z:Value}{af:ab->Value->α->Prop}{a:α}{ax:ba ((⟨eh,none,some d,.buildSlice t 1 #[(0,x)]⟩:bz)::r) Q}(aO:∀aF,Ext H aF->af aF (aq F x) a)(hw:Whole P e (aq F x))
  (bM:P.underlying t=some (.slice e))(ao:bq P e=some U)(ek:ds P e=some aC)(aM:dA P e=some z)(dS:flat z=true)(dg:z.cells.size=U)(df:0<U)(q8:U<=1000)
  (K:∀v aF,bB H.length e U aC af aF v [a]->Ext H aF->a_ P r Q .mk (a4 F d v) aF):a_ P ((⟨eh,none,some d,.buildSlice t 1 #[(0,x)]⟩:bz)::r) Q ax F H:=by
 have eV:(made z (1*U)).length=U:=by rw[u7,Nat.one_mul]
 have k8:(aq F x).cells.size=U:=by have:=hw.1;rw[ao]at this;exact(Option.some.inj this).symm
 have an:(aq F x).cells.toList.length=U:=by simp[k8]
 have aK:iY (fun i=>some (i*U,U)) (made z (1*U)) [(0,aq F x)]=some (aq F x).cells.toList:=by
  simp only[iY]
  rw[if_pos ⟨an,by rw[eV];omega⟩]
  have:=Bj (aq F x).cells.toList (made z (1*U)) [] (by rw[eV,an])
  simpa using this
 have ay:Instr.fill (fun i=>some (i*U,U)) (made z (1*U)).toArray ((#[(0,x)]:Array (Nat×Operand)).toList.map fun p=>(p.1,aq F p.2))=some (aq F x).cells:=by
  rw[fill_eq]
  simp only[List.map_cons,List.map_nil]
  rw[aK]
  simp
 have av:∀R:Oper,R.op= .buildSlice t 1 #[(0,x)]->e9 P (aq F) H R (.slice (some ⟨H.length,0,none⟩) 1 1) (H++[.own e false (aq F x).cells.toList]):=fun R fp=> .build (out:=(aq F x).cells) fp bM ao aM dS dg df (by omega) (by omega) ay (by have:=an;simp at this;omega)
 have J:Ext H (H++[.own e false (aq F x).cells.toList]):=(Ext.refl H).snoc _ _ _
 refine jH rfl rfl rfl av (fun R aK=>by simp[bR,aK]) (.inr J) (K _ _ ⟨(aq F x).cells.toList,⟨by simp[k8],.inr ⟨H.length,0,1,false,(aq F x).cells.toList,rfl,by omega,Nat.le_refl _,Nat.le_refl _,by simp,by simp[k8],?_⟩⟩,fun i y ae=>?_⟩ J)
 ·rw[List.drop_zero,List.length_singleton,Nat.one_mul,<-an,List.take_length]
 ·have zZ:i=0:=by have:=(cK.1 ae).1;simp at this;exact this
  subst zZ
  simp at ae
  subst ae
  have:=Cr (n:=0) (cs:=[]) (by simp) hw ao ek
  rw[List.nil_append]at this
  rw[this]
  exact aO _ J
end
section
variable {P:Program} {r:List bz} {F:Fr} {H:ab} {Q:Fr->ab->Prop} {α:Type}
theorem yt{d t e U bA n:Nat}{aC:Bool}{x y:Operand}{eW c4:IntKind}{z:Value}{af:ab->Value->α->Prop}{a:α}{ax:ba (ms d t x y::r) Q}(hu:P.underlying t=some (.slice e))(ao:bq P e=some U)(ag:bytes? P e=some bA)(aM:dA P e=some z)(dS:flat z=true)
  (ek:ds P e=some aC)(hw:Whole P e z)(J:aq F x= .int eW (n:Int))(aL:aq F y= .int c4 (n:Int))(df:0<U)(dY:0<bA)(bw:bA*n<=281474976710656)(br:∀aF,af aF z a)
  (K:∀er eE aF,bB H.length e U aC af aF (.slice er n eE) (List.replicate n a)->Ext H aF->a_ P r Q .mk (a4 F d (.slice er n eE)) aF):a_ P (ms d t x y::r) Q ax F H:=
 rK hu ao ag aM dS ek hw J aL df dY bw br fun v aF cy rh ad=>by
  have ar:=cy.len
  rw[List.length_replicate]at ar
  obtain⟨er,eE,rfl⟩:=ar
  exact K er eE aF cy rh
end
end Go.cJ
end
section
set_option maxRecDepth 8000
set_option maxHeartbeats 1000000
namespace Go.cJ
open Go.Proofs
open Go.Proofs.Tryz (prog)
attribute [-simp] hq hX jG
def y0(a b:Int):Int:=IntKind.u64.wrap ((BitVec.ofInt 64 a&&&BitVec.ofInt 64 b).toNat:Int)
@[simp high] theorem ail(P:Program)(t:Nat)(a b:Int):dZ P .and t (.int .u64 a) (.int .u64 b)=some (.int .u64 (y0 a b)):=ZP
theorem Ix{x:Nat}(J:x<4294967296):y0 (x:Int) 4294967295=(x:Int):=by
 unfold y0
 have o:((BitVec.ofInt 64 (x:Int))&&&(BitVec.ofInt 64 4294967295)).toNat=x:=by
  have e:(4294967295:Int)=((4294967295:Nat):Int):=rfl
  rw[e,BitVec.ofInt_natCast,BitVec.ofInt_natCast,BitVec.toNat_and,BitVec.toNat_ofNat,BitVec.toNat_ofNat,Nat.mod_eq_of_lt (by omega),Nat.mod_eq_of_lt (by omega)]
  have:=Nat.and_two_pow_sub_one_eq_mod x 32
  rw[show(4294967295:Nat)=2^32-1 from rfl,this]
  omega
 rw[o]
 exact f_ (by omega) (by omega)
theorem Fw{x:Nat}(J:x<4294967296):Int.fdiv (x:Int) 4294967296=0:=by
 rw[Int.fdiv_eq_ediv_of_nonneg _ (by decide)]
 omega
theorem YG{a b:Nat}{H:ab}(aO:a<65536)(ag:b<65536):aP prog 112 [.int .u64 a,.int .u64 b] H (fun u H1=>H1=H/\u= .tuple #[.int .u64 0,.int .u64 (a*b:Nat)]):=by
 refine aP.b9 fun Q aE=>?_
 apply WR (by simp)
 obtain⟨p,aY⟩:∃p,p=a*b:=⟨_,rfl⟩
 have kE:p<4294967296:=by
  have:=Nat.mul_lt_mul'' aO ag
  omega
 have UT:(a:Int)*(b:Int)=(p:Int):=by rw[aY];simp
 have d_:IntKind.wrap .u64 0=0:=by decide
 have wp:IntKind.wrap .u64 (p:Int)=p:=f_ (by omega) (by omega)
 have er:=Ix (show a<4294967296 by omega)
 have eh:=Ix (show b<4294967296 by omega)
 have aeF:Int.fdiv 0 4294967296=0:=by decide
 have Gm:y0 0 4294967295=0:=by decide
 simp[HD,er,eh,Fw (show a<4294967296 by omega),Fw (show b<4294967296 by omega),UT,wp,d_,Fw kE,aeF,Gm,bf]
 exact aE _ _ ⟨rfl,by simp[aY]⟩
theorem EU{a b:Nat}{H:ab}(aO:a<65536)(ag:b<65536):aP prog 89 [.int .u64 a,.int .u64 b] H (fun u H1=>H1=H/\u= .tuple #[.int .u64 0,.int .u64 (a*b:Nat)]):=by
 refine aP.b9 fun Q aE=>?_
 apply WQ (by simp)
 simp[HC]
 refine aV.mk (YG aO ag) ?_
 rintro u H1 ⟨rfl,rfl⟩
 simp[bf]
 exact aE _ _ ⟨rfl,by simp⟩
theorem FX{n:Nat}(h:n<65536):IntKind.u64.wrap (n:Int)=n:=f_ (by omega) (by omega)
theorem u0{n:Nat}(h:n<65536):IntKind.i64.wrap (n:Int)=n:=b6 (by omega) (by omega)
theorem Zt{α:Type}{af:ab->Value->α->Prop}[b7 af]{v:Value}{a:α}{n:Nat}{H:ab}(aQ:Row 3 1 false af H v [a])(aG:n<65536)
  (kB:∀H u y,af H u y->Whole prog 3 u)(hj:∀H aF dv u y,Kept H aF dv 3->af H u y->af aF u y):
  aP prog 60 [v,.int .i64 n] H (fun u H1=>Ext H H1/\bB H.length 3 1 false af H1 u (List.replicate n a)):=by
 refine aP.b9 fun Q aE=>?_
 apply XW (by simp)
 obtain⟨g4,ch,an⟩:=aQ.len
 subst an
 have oc:=FX aG
 have jd:=u0 aG
 simp[Ii]
 refine cc.join (by kernel_rfl) (fun cY dW b1=>b1=H) ?_ ?_
 ·rintro K a0-
  simp
  refine bH.b_ (fun h=>by omega) (fun _=>?_)
  exact a0 _ _ _ rfl
 rintro cY dW b1 rfl
 simp
 refine c9 (af:=af) (xs:=[a]) (by simpa using aQ) (by simp) ?_
 have a7:IntKind.u64.wrap 1=((1:Nat):Int):=by decide
 simp[oc,a7]
 refine aV.mk (EU (a:=1) (b:=n) (by omega) aG) ?_
 rintro u H1 ⟨rfl,rfl⟩
 simp
 refine cc.join (by kernel_rfl) (fun fS hz cb=>cb=H1) ?_ ?_
 ·rintro K a0-
  rw[mE]
  refine cc.join (by kernel_rfl) (fun fS hz cb=>cb=H1/\fS 26= .bool false) ?_ ?_
  ·rintro ef jw-
   simp
   exact jw _ _ _ ⟨rfl,by simp;omega⟩
  ·rintro fS hz cb ⟨rfl,nR⟩
   simp only[jn]at nR
   simp at nR
   simp[nR]
   exact a0 _ _ _ rfl
 rintro fS hz cb rfl
 simp[jd]
 refine rK (e:=3) (U:=1) (bA:=8) (aC:=false) (n:=n) (eW:= .i64) (c4:= .i64) (z:=(.int .i64 0)) (af:=eZ prog 3 af) (a:=none) (by simp) (by simp) (by simp) (by rfl) (by first | rfl | simp[flat,g5]) (by simp) ⟨by rfl,by rfl,by simp[e3]⟩ (by simp) (by simp) (by decide) (by decide) (by omega) (fun aF=>⟨by rfl,by rfl,by simp[e3]⟩) ?_
 rintro au dQ cy cL-
 simp
 refine rJ (e:=3) (U:=1) (aC:=false) (af:=eZ prog 3 af) (xs:=List.replicate n none) (bO:=[some a]) (u:=au) (j:=0) (m:=n) (k:=cb.length) cy (by simpa using cy.sub) (by simp) (by simpa using b7.ext aQ.opt cL) (eZ.jr fun u y=>kB _ u y) (eZ.kept (hj _)) (by simp) (by simp) (by simp) (by decide) (by decide) ?_
 rintro cS h2 cD- - -
 rw[Fm]at h2
 simp
 refine dF.mk (by kernel_rfl) (fun m az bD H1=>∃q:Nat,m=n-q/\(0<q\/n=0)/\q<=n/\az 8= .int .i64 (q:Int)/\az 7=au/\bB cb.length 3 1 false (eZ prog 3 af) H1 au (List.replicate q (some a)++List.replicate (n-q) none)/\Ext cb H1) (n-min n 1) ⟨min n 1,rfl,by omega,by omega,by simp,by simp,h2,cD _ (Nat.le_refl _) cL⟩ ?_
 rintro m qo rW eN ⟨q,rfl,Aq,mu,dj,cg,eH,c1⟩ K a0
 simp at dj cg
 simp[dj,cg]
 refine c9 (af:=eZ prog 3 af) (xs:=List.replicate q (some a)++List.replicate (n-q) none) (by simpa[cg]using eH.row) (by simp) ?_
 simp
 obtain⟨xs,ho⟩:∃xs,xs=List.replicate q (some a)++List.replicate (n-q) (none:Option α):=⟨_,rfl⟩
 have jj:xs.length=n:=by rw[ho];simp;omega
 rw[<-ho]at eH
 refine bH.b_ (fun a6=>?_) (fun hl=>?_)
 ·simp
  refine Bx (e:=3) (U:=1) (aC:=false) (af:=eZ prog 3 af) (xs:=xs) (l:=q) (h:=n) (k:=cb.length) (by simpa[cg]using eH) (by simp) (by simp) (by decide) (by simp[dO,dj]) (by simp[e2,jj]) (by omega) (by omega) ?_
  intro yE bx lQ
  simp at lQ
  simp
  refine rL (e:=3) (U:=1) (aC:=false) (af:=eZ prog 3 af) (xs:=xs) (l:=0) (h:=q) (by simpa[cg]using eH.row) (by simp) (by simp) (by decide) (by simp[dO,dj]) (by simp[e2,dj]) (by omega) (by omega) ?_
  intro qk bm
  have bg:(xs.drop 0).take (q-0)=List.replicate q (some a):=by rw[ho];simp
  rw[bg]at bm
  refine rJ (e:=3) (U:=1) (aC:=false) (af:=eZ prog 3 af) (xs:=xs) (bO:=List.replicate q (some a)) (u:=au) (j:=q) (m:=n-q) (k:=cb.length) eH (by simpa using lQ) (by omega) (by simpa using bm) (eZ.jr fun u y=>kB _ u y) (eZ.kept (hj _)) (by simp) (by simp) (by simp) (by decide) (by decide) ?_
  rintro fC mV dx- - -
  rw[ho,Fo a mu]at mV
  have h5:=u0 (n:=q+min (n-q) q) (by omega)
  simp at h5
  simp[dj,h5]
  refine a0 (n-(q+min (n-q) q)) _ _ _ (by omega) ⟨q+min (n-q) q,rfl,by omega,by omega,by simp,by simp[cg],mV,dx _ (Nat.le_refl _) c1⟩
 ·have xp:q=n:=by omega
  rw[ho,Fl a mu (by omega)]at eH
  simp[bf,cg]
  exact aE _ _ ⟨c1,eH.F0⟩
theorem Zv{α:Type}{af:ab->Value->α->Prop}[b7 af]{v:Value}{a:α}{n:Nat}{H:ab}(aQ:Row 34 1 false af H v [a])(aG:n<65536)
  (kB:∀H u y,af H u y->Whole prog 34 u)(hj:∀H aF dv u y,Kept H aF dv 34->af H u y->af aF u y):
  aP prog 73 [v,.int .i64 n] H (fun u H1=>Ext H H1/\bB H.length 34 1 false af H1 u (List.replicate n a)):=by
 refine aP.b9 fun Q aE=>?_
 apply XV (by simp)
 obtain⟨g4,ch,an⟩:=aQ.len
 subst an
 have oc:=FX aG
 have jd:=u0 aG
 simp[Ih]
 refine cc.join (by kernel_rfl) (fun cY dW b1=>b1=H) ?_ ?_
 ·rintro K a0-
  simp
  refine bH.b_ (fun h=>by omega) (fun _=>?_)
  exact a0 _ _ _ rfl
 rintro cY dW b1 rfl
 simp
 refine c9 (af:=af) (xs:=[a]) (by simpa using aQ) (by simp) ?_
 have a7:IntKind.u64.wrap 1=((1:Nat):Int):=by decide
 simp[oc,a7]
 refine aV.mk (EU (a:=1) (b:=n) (by omega) aG) ?_
 rintro u H1 ⟨rfl,rfl⟩
 simp
 refine cc.join (by kernel_rfl) (fun fS hz cb=>cb=H1) ?_ ?_
 ·rintro K a0-
  rw[mE]
  refine cc.join (by kernel_rfl) (fun fS hz cb=>cb=H1/\fS 26= .bool false) ?_ ?_
  ·rintro ef jw-
   simp
   exact jw _ _ _ ⟨rfl,by simp;omega⟩
  ·rintro fS hz cb ⟨rfl,nR⟩
   simp only[jn]at nR
   simp at nR
   simp[nR]
   exact a0 _ _ _ rfl
 rintro fS hz cb rfl
 simp[jd]
 refine rK (e:=34) (U:=1) (bA:=24) (aC:=false) (n:=n) (eW:= .i64) (c4:= .i64) (z:=(.slice none 0 0)) (af:=eZ prog 34 af) (a:=none) (by simp) (by simp) (by simp) (by rfl) (by first | rfl | simp[flat,g5]) (by simp) ⟨by rfl,by rfl,by simp[e3]⟩ (by simp) (by simp) (by decide) (by decide) (by omega) (fun aF=>⟨by rfl,by rfl,by simp[e3]⟩) ?_
 rintro au dQ cy cL-
 simp
 refine rJ (e:=34) (U:=1) (aC:=false) (af:=eZ prog 34 af) (xs:=List.replicate n none) (bO:=[some a]) (u:=au) (j:=0) (m:=n) (k:=cb.length) cy (by simpa using cy.sub) (by simp) (by simpa using b7.ext aQ.opt cL) (eZ.jr fun u y=>kB _ u y) (eZ.kept (hj _)) (by simp) (by simp) (by simp) (by decide) (by decide) ?_
 rintro cS h2 cD- - -
 rw[Fm]at h2
 simp
 refine dF.mk (by kernel_rfl) (fun m az bD H1=>∃q:Nat,m=n-q/\(0<q\/n=0)/\q<=n/\az 8= .int .i64 (q:Int)/\az 7=au/\bB cb.length 34 1 false (eZ prog 34 af) H1 au (List.replicate q (some a)++List.replicate (n-q) none)/\Ext cb H1) (n-min n 1) ⟨min n 1,rfl,by omega,by omega,by simp,by simp,h2,cD _ (Nat.le_refl _) cL⟩ ?_
 rintro m qo rW eN ⟨q,rfl,Aq,mu,dj,cg,eH,c1⟩ K a0
 simp at dj cg
 simp[dj,cg]
 refine c9 (af:=eZ prog 34 af) (xs:=List.replicate q (some a)++List.replicate (n-q) none) (by simpa[cg]using eH.row) (by simp) ?_
 simp
 obtain⟨xs,ho⟩:∃xs,xs=List.replicate q (some a)++List.replicate (n-q) (none:Option α):=⟨_,rfl⟩
 have jj:xs.length=n:=by rw[ho];simp;omega
 rw[<-ho]at eH
 refine bH.b_ (fun a6=>?_) (fun hl=>?_)
 ·simp
  refine Bx (e:=34) (U:=1) (aC:=false) (af:=eZ prog 34 af) (xs:=xs) (l:=q) (h:=n) (k:=cb.length) (by simpa[cg]using eH) (by simp) (by simp) (by decide) (by simp[dO,dj]) (by simp[e2,jj]) (by omega) (by omega) ?_
  intro yE bx lQ
  simp at lQ
  simp
  refine rL (e:=34) (U:=1) (aC:=false) (af:=eZ prog 34 af) (xs:=xs) (l:=0) (h:=q) (by simpa[cg]using eH.row) (by simp) (by simp) (by decide) (by simp[dO,dj]) (by simp[e2,dj]) (by omega) (by omega) ?_
  intro qk bm
  have bg:(xs.drop 0).take (q-0)=List.replicate q (some a):=by rw[ho];simp
  rw[bg]at bm
  refine rJ (e:=34) (U:=1) (aC:=false) (af:=eZ prog 34 af) (xs:=xs) (bO:=List.replicate q (some a)) (u:=au) (j:=q) (m:=n-q) (k:=cb.length) eH (by simpa using lQ) (by omega) (by simpa using bm) (eZ.jr fun u y=>kB _ u y) (eZ.kept (hj _)) (by simp) (by simp) (by simp) (by decide) (by decide) ?_
  rintro fC mV dx- - -
  rw[ho,Fo a mu]at mV
  have h5:=u0 (n:=q+min (n-q) q) (by omega)
  simp at h5
  simp[dj,h5]
  refine a0 (n-(q+min (n-q) q)) _ _ _ (by omega) ⟨q+min (n-q) q,rfl,by omega,by omega,by simp,by simp[cg],mV,dx _ (Nat.le_refl _) c1⟩
 ·have xp:q=n:=by omega
  rw[ho,Fl a mu (by omega)]at eH
  simp[bf,cg]
  exact aE _ _ ⟨c1,eH.F0⟩
theorem Zu{α:Type}{af:ab->Value->α->Prop}[b7 af]{v:Value}{a:α}{n:Nat}{H:ab}(aQ:Row 80 4 true af H v [a])(aG:n<65536)
  (kB:∀H u y,af H u y->Whole prog 80 u)(hj:∀H aF dv u y,Kept H aF dv 80->af H u y->af aF u y):
  aP prog 96 [v,.int .i64 n] H (fun u H1=>Ext H H1/\bB H.length 80 4 true af H1 u (List.replicate n a)):=by
 refine aP.b9 fun Q aE=>?_
 apply XX (by simp)
 obtain⟨g4,ch,an⟩:=aQ.len
 subst an
 have oc:=FX aG
 have jd:=u0 aG
 simp[Ij]
 refine cc.join (by kernel_rfl) (fun cY dW b1=>b1=H) ?_ ?_
 ·rintro K a0-
  simp
  refine bH.b_ (fun h=>by omega) (fun _=>?_)
  exact a0 _ _ _ rfl
 rintro cY dW b1 rfl
 simp
 refine c9 (af:=af) (xs:=[a]) (by simpa using aQ) (by simp) ?_
 have a7:IntKind.u64.wrap 1=((1:Nat):Int):=by decide
 simp[oc,a7]
 refine aV.mk (EU (a:=1) (b:=n) (by omega) aG) ?_
 rintro u H1 ⟨rfl,rfl⟩
 simp
 refine cc.join (by kernel_rfl) (fun fS hz cb=>cb=H1) ?_ ?_
 ·rintro K a0-
  rw[mE]
  refine cc.join (by kernel_rfl) (fun fS hz cb=>cb=H1/\fS 26= .bool false) ?_ ?_
  ·rintro ef jw-
   simp
   exact jw _ _ _ ⟨rfl,by simp;omega⟩
  ·rintro fS hz cb ⟨rfl,nR⟩
   simp only[jn]at nR
   simp at nR
   simp[nR]
   exact a0 _ _ _ rfl
 rintro fS hz cb rfl
 simp[jd]
 refine rK (e:=80) (U:=4) (bA:=64) (aC:=true) (n:=n) (eW:= .i64) (c4:= .i64) (z:=(.agg #[.bool false,.slice none 0 0,.bool false,.slice none 0 0])) (af:=eZ prog 80 af) (a:=none) (by simp) (by simp) (by simp) (by rfl) (by first | rfl | simp[flat,g5]) (by simp) ⟨by rfl,by rfl,by simp[e3]⟩ (by simp) (by simp) (by decide) (by decide) (by omega) (fun aF=>⟨by rfl,by rfl,by simp[e3]⟩) ?_
 rintro au dQ cy cL-
 simp
 refine rJ (e:=80) (U:=4) (aC:=true) (af:=eZ prog 80 af) (xs:=List.replicate n none) (bO:=[some a]) (u:=au) (j:=0) (m:=n) (k:=cb.length) cy (by simpa using cy.sub) (by simp) (by simpa using b7.ext aQ.opt cL) (eZ.jr fun u y=>kB _ u y) (eZ.kept (hj _)) (by simp) (by simp) (by simp) (by decide) (by decide) ?_
 rintro cS h2 cD- - -
 rw[Fm]at h2
 simp
 refine dF.mk (by kernel_rfl) (fun m az bD H1=>∃q:Nat,m=n-q/\(0<q\/n=0)/\q<=n/\az 8= .int .i64 (q:Int)/\az 7=au/\bB cb.length 80 4 true (eZ prog 80 af) H1 au (List.replicate q (some a)++List.replicate (n-q) none)/\Ext cb H1) (n-min n 1) ⟨min n 1,rfl,by omega,by omega,by simp,by simp,h2,cD _ (Nat.le_refl _) cL⟩ ?_
 rintro m qo rW eN ⟨q,rfl,Aq,mu,dj,cg,eH,c1⟩ K a0
 simp at dj cg
 simp[dj,cg]
 refine c9 (af:=eZ prog 80 af) (xs:=List.replicate q (some a)++List.replicate (n-q) none) (by simpa[cg]using eH.row) (by simp) ?_
 simp
 obtain⟨xs,ho⟩:∃xs,xs=List.replicate q (some a)++List.replicate (n-q) (none:Option α):=⟨_,rfl⟩
 have jj:xs.length=n:=by rw[ho];simp;omega
 rw[<-ho]at eH
 refine bH.b_ (fun a6=>?_) (fun hl=>?_)
 ·simp
  refine Bx (e:=80) (U:=4) (aC:=true) (af:=eZ prog 80 af) (xs:=xs) (l:=q) (h:=n) (k:=cb.length) (by simpa[cg]using eH) (by simp) (by simp) (by decide) (by simp[dO,dj]) (by simp[e2,jj]) (by omega) (by omega) ?_
  intro yE bx lQ
  simp at lQ
  simp
  refine rL (e:=80) (U:=4) (aC:=true) (af:=eZ prog 80 af) (xs:=xs) (l:=0) (h:=q) (by simpa[cg]using eH.row) (by simp) (by simp) (by decide) (by simp[dO,dj]) (by simp[e2,dj]) (by omega) (by omega) ?_
  intro qk bm
  have bg:(xs.drop 0).take (q-0)=List.replicate q (some a):=by rw[ho];simp
  rw[bg]at bm
  refine rJ (e:=80) (U:=4) (aC:=true) (af:=eZ prog 80 af) (xs:=xs) (bO:=List.replicate q (some a)) (u:=au) (j:=q) (m:=n-q) (k:=cb.length) eH (by simpa using lQ) (by omega) (by simpa using bm) (eZ.jr fun u y=>kB _ u y) (eZ.kept (hj _)) (by simp) (by simp) (by simp) (by decide) (by decide) ?_
  rintro fC mV dx- - -
  rw[ho,Fo a mu]at mV
  have h5:=u0 (n:=q+min (n-q) q) (by omega)
  simp at h5
  simp[dj,h5]
  refine a0 (n-(q+min (n-q) q)) _ _ _ (by omega) ⟨q+min (n-q) q,rfl,by omega,by omega,by simp,by simp[cg],mV,dx _ (Nat.le_refl _) c1⟩
 ·have xp:q=n:=by omega
  rw[ho,Fl a mu (by omega)]at eH
  simp[bf,cg]
  exact aE _ _ ⟨c1,eH.F0⟩
def IR(H:ab)(v:Value)(z:Int):Prop:=v= .int .i64 z
def pg(H:ab)(v:Value)(b:Bool):Prop:=v= .bool b
instance:b7 IR:=⟨fun h _=>h⟩
instance:b7 pg:=⟨fun h _=>h⟩
theorem j8(n:Int):Whole prog 3 (.int .i64 n):=⟨by rfl,by rfl,by simp[e3]⟩
theorem Pg(b:Bool):Whole prog 4 (.bool b):=⟨by rfl,by rfl,by simp[e3]⟩
theorem MF{v:Value}{t:List (List Rat)}{H:ab}(bc:hC H v t):aP prog 48 [.agg #[v]] H (fun w H1=>Ext H H1/\w= .int .i64 t.length):=by
 refine aP.b9 fun Q aE=>?_
 apply XD (by simp)
 obtain⟨a,cap,rfl⟩:=Row.len bc
 simp[G5,bf]
 refine c9 (af:=iW) (xs:=t) (by simpa using b7.ext bc (Ext.more H (by simp))) (by simp) ?_
 simp[bf]
 exact aE _ _ ⟨Ext.more H (by simp),rfl⟩
theorem EN{v:Value}{t:List (List Rat)}{fz:List Rat}{H:ab}(bc:hC H v t)(aH:t[0]?=some fz):aP prog 49 [.agg #[v]] H (fun w H1=>Ext H H1/\w= .int .i64 fz.length):=by
 refine aP.b9 fun Q aE=>?_
 apply XF (by simp)
 obtain⟨a,cap,rfl⟩:=Row.len bc
 simp[G6]
 refine dc (af:=iW) (xs:=t) (n:=0) (a:=fz) (e:=120) (U:=1) (aC:=false) (by simpa using b7.ext bc (Ext.more H (by simp))) (by simp) aH (by simp) (by simp) (by simp) (by decide) ?_
 intro E0 F1 q9
 refine c9 (af:=ca) (xs:=fz) (by simpa using q9) (by simp) ?_
 simp[bf]
 exact aE _ _ ⟨Ext.more H (by simp),rfl⟩
def iH(t:List (List Rat))(k:Nat):List Rat:=t.map fun r=>r[k]?.getD 0
def ff(m:Nat)(t:List (List Rat)):List (List Rat):=(List.range m).map (iH t)
def kn(m:Nat)(t:List (List Rat))(i j:Nat):List (List Rat):=(List.range m).map fun a=>if a<i then iH t a else if a=i then iH (t.take j) a else[]
theorem aaI(m:Nat)(t:List (List Rat)):kn m t 0 0=List.replicate m []:=by
 unfold kn
 apply List.ext_getElem?
 intro a
 simp[List.getElem?_replicate,List.getElem?_range]
 by_cases h:a<m
 ·simp[h,iH]
 ·simp[h]
theorem aaE{m:Nat}{t:List (List Rat)}{i j:Nat}(ae:i<m):(kn m t i j)[i]?=some (iH (t.take j) i):=by
 simp[kn,List.getElem?_range,ae]
theorem aaH{m:Nat}{t:List (List Rat)}{i j:Nat}{row:List Rat}(ae:i<m)(al:t[j]?=some row):(kn m t i j).set i (iH (t.take j) i++[row[i]?.getD 0])=kn m t i (j+1):=by
 apply List.ext_getElem?
 intro a
 rw[List.getElem?_set]
 have aX:=(cK.1 al)
 by_cases h:i=a
 ·subst h
  simp only[kn,List.length_map,List.length_range,ae,if_true,List.getElem?_map,List.getElem?_range ae]
  simp[iH,List.take_add_one,al]
 ·rw[if_neg h]
  simp only[kn,List.getElem?_map]
  by_cases aO:a<m
  ·simp[List.getElem?_range aO,show¬a=i by omega]
  ·simp[aO]
theorem aaG(m:Nat)(t:List (List Rat))(i:Nat):kn m t i t.length=kn m t (i+1) 0:=by
 unfold kn
 apply List.map_congr_left
 intro a _
 by_cases o:a<i
 ·simp[o,show a<i+1 by omega]
 ·by_cases aa:a=i
  ·subst aa;simp
  ·simp[o,aa,show¬a<i+1 by omega,iH]
theorem aaD(m:Nat)(t:List (List Rat)):kn m t m 0=ff m t:=by
 unfold kn ff
 apply List.map_congr_left
 intro a aO
 simp at aO
 simp[aO]
theorem aaF(m:Nat)(t:List (List Rat))(i j:Nat):(kn m t i j).length=m:=by simp[kn]
theorem Gd(a:Option Addr)(n c:Nat):Whole prog 120 (.slice a n c):=⟨by rfl,by rfl,by simp[e3]⟩
theorem bB.jr{α:Type}{k e U:Nat}{aC:Bool}{af:ab->Value->α->Prop}{H:ab}{v:Value}{xs:List α}(h:bB k e U aC af H v xs):Whole prog 120 v:=by
 obtain⟨a,c,rfl⟩:=h.len
 exact Gd _ _ _
theorem Ow{v:Value}{t:List (List Rat)}{m:Nat}{H:ab}(bc:hC H v t)(bM:0<t.length)(ar:t.length<65536)(hm:∀r∈t,r.length=m)(mq:m<65536):
  aP prog 34 [.agg #[v]] H (fun u H1=>Ext H H1/\∃w,u= .agg #[w]/\hC H1 w (ff m t)):=by
 refine aP.b9 fun Q aE=>?_
 apply XK (by simp)
 obtain⟨a,c,rfl⟩:=Row.len bc
 obtain⟨fz,g9⟩:∃fz,t[0]?=some fz:=⟨_,bJ bM⟩
 have oX:=hm fz (List.mem_of_getElem? g9)
 simp[Ib]
 have bn:Ext H (H++[.dead,.dead]):=Ext.more H (by simp)
 refine aV.mk (EN (bc.ext bn) g9) ?_
 rintro u H1 ⟨bx,rfl⟩
 rw[oX]
 have k0:=bc.ext (bn.aw bx)
 have K5:0<H1.length:=by have:=Ext.len (bn.aw bx);have:=Ext.len bx;simp at this;omega
 refine rK (e:=120) (U:=1) (bA:=24) (aC:=false) (n:=m) (eW:= .i64) (c4:= .i64) (z:= .slice none 0 0) (af:=gU) (a:= .slice none 0 0) (by simp) (by simp) (by simp) (by rfl) (by rfl) (by simp) (Gd _ _ _) (by simp) (by simp) (by decide) (by decide) (by omega) (fun aF=>rfl) ?_
 rintro w aR fI bm-
 have S3:=eo.M5 (e:=80) (U:=4) (aC:=true) (af:=ca) K5 fI
 simp
 refine c9 (af:=gU) (xs:=List.replicate m (.slice none 0 0)) (by simpa using fI.row) (by simp) ?_
 simp
 refine dF.range (by kernel_rfl) m (by omega) (by simp) (by rfl) (by simp) (by decide) (by decide) (fun i dh ey bP=>Ext H1 bP/\∃us,eo H1.length 120 80 4 true ca bP w (kn m t i 0) us) ?_ ?_ ?_
 ·exact⟨bm,_,by rw[aaI];exact S3⟩
 ·rintro i dh ey bP ae a5 ⟨bN,us,jc⟩ K a0
  simp at a5
  simp[a5]
  refine c9 (af:=iW) (xs:=t) (by simpa using b7.ext k0 bN) (by simp) ?_
  simp
  refine dF.range (by kernel_rfl) t.length (by omega) (by simp) (by rfl) (by simp) (by decide) (by decide) (fun j cY dW b1=>Ext H1 b1/\∃us,eo H1.length 120 80 4 true ca b1 w (kn m t i j) us) ?_ ?_ ?_
  ·exact⟨bN,us,jc⟩
  ·rintro j cY dW b1 aX ja ⟨cr,yA,mf⟩ qs im
   simp at ja
   simp[ja]
   obtain⟨row,fj⟩:∃row,t[j]?=some row:=⟨_,bJ aX⟩
   have sK:=hm row (List.mem_of_getElem? fj)
   obtain⟨q,av⟩:∃q,row[i]?=some q:=⟨_,bJ (by omega)⟩
   refine dc (af:=iW) (xs:=t) (n:=j) (a:=row) (e:=120) (U:=1) (aC:=false) (by simpa using b7.ext k0 cr) (by simp[ja]) fj (by simp) (by simp) (by simp) (by decide) ?_
   intro gC F1 q9
   simp
   obtain⟨u,hu,zD⟩:=mf.vn (aaE ae)
   refine dc (af:=gU) (xs:=yA) (n:=i) (a:=u) (e:=120) (U:=1) (aC:=false) (by simpa using mf.own.row) (by simp) hu (by simp) (by simp) (by simp) (by decide) ?_
   rintro iv mG rfl
   simp
   refine dc (af:=ca) (xs:=row) (n:=i) (a:=q) (e:=80) (U:=4) (aC:=true) (by simpa using q9) (by simp) av (by simp) (by simp) (by simp) (by decide) ?_
   intro nn x J
   refine FT (k:=H1.length) (e:=80) (U:=4) (aC:=true) (bA:=64) (z:= .agg #[.bool false,.slice none 0 0,.bool false,.slice none 0 0]) (af:=ca) (xs:=iH (t.take j) i) (a:=q) (by simpa using zD) (by simpa using J) (by simpa using J.whole) (by simp) (fun aF dv u y aj h=>h.kept aj (by decide)) (by simp) (by simp) (by simp) (by simp) (by simp) (by rfl) (by rfl) (by first | rfl | simp[flat,g5]) (by rfl) (by decide) (by decide) (by decide) (by simp[iH];omega) (by have:=Ext.len cr;omega) ?_
   intro p_ vx cS h2 cD k6 uH xc
   simp at k6 uH
   refine kK (k:=H1.length) (e:=120) (U:=1) (aC:=false) (n:=i) (af:=gU) (xs:=yA) (a:=vx) (by simpa using mf.own.other k6 (by decide) fun _ _ h=>h) (by simp) (by have:=mf.len;rw[aaF]at this;omega) (by simp[gU]) (by simpa using h2.jr) (by simp) (fun _ _ _ _ _ h=>h) (by simp) (by simp) (by simp) (by decide) ?_
   rintro ru eN eH c1 n8 qZ-
   simp at eH n8
   simp
   refine im _ _ _ (by simp[ja]) ⟨c1 _ (Nat.le_refl _) (cD _ (Nat.le_refl _) cr),yA.set i vx,?_⟩
   have:=mf.put hu (by decide) k6 uH h2 (fun u x h=>h.kept k6 (by decide)) eH n8 (fun u x h=>h.kept n8 (by decide))
   rw[show iH (t.take j) i++[q]=iH (t.take j) i++[row[i]?.getD 0] by rw[av];rfl,aaH ae fj]at this
   exact this
  ·rintro cY dW b1 ja ⟨cr,yA,mf⟩
   simp at ja
   simp[ja]
   refine a0 _ _ _ (by simp[a5]) ⟨cr,yA,?_⟩
   rw[<-aaG]
   exact mf
 ·rintro dh ey bP a5 ⟨bN,us,jc⟩
  have fj:=jc.row
  rw[aaD]at fj
  obtain⟨afr,af9,rfl⟩:=jc.own.len
  simp[bf]
  exact aE _ _ ⟨bn.aw (bx.aw bN),_,rfl,fj⟩
abbrev dV(H:ab)(v:Value)(l:List Int):Prop:=Row 3 1 false IR H v l
abbrev ih(H:ab)(v:Value)(t:List (List Int)):Prop:=Row 34 1 false dV H v t
instance:b7 dV:=⟨fun h J=>b7.ext (af:=Row 3 1 false IR) h J⟩
instance:b7 ih:=⟨fun h J=>b7.ext (af:=Row 34 1 false dV) h J⟩
theorem kt.row{H:ab}{v:Value}{l:List Int}(h:kt H v l):dV H v l:=⟨_,h,fun i x ae=>by
 show et false 1 _ i= .int .i64 x
 unfold et
 simp[ae]⟩
theorem Row.is{H:ab}{v:Value}{l:List Int}(h:dV H v l):kt H v l:=by
 obtain⟨cs,o,aa⟩:=h
 have ar:cs.length=l.length:=by obtain⟨_,_,_,_,q,_⟩:=o;omega
 have:cs=l.map (Value.int .i64):=by
  apply List.ext_getElem?
  intro i
  rw[List.getElem?_map]
  by_cases ae:i<l.length
  ·have:=aa i _ (bJ ae)
   rw[bJ ae,bJ (by omega)]
   unfold IR et at this
   simp[bJ (show i<cs.length by omega)]at this
   simp[this]
  ·rw[List.getElem?_eq_none (by omega),List.getElem?_eq_none (by omega)]
   rfl
 unfold kt
 rw[<-this]
 exact o
theorem Row.s3{H:ab}{v:Value}{t:List (List Int)}(h:ih H v t):j9 H v t:=by
 obtain⟨cs,o,aa⟩:=h
 have ar:cs.length=t.length:=by obtain⟨_,_,_,_,q,_⟩:=o;omega
 refine⟨cs,o,ar,fun i ae=>?_⟩
 have:=aa i _ (bJ ae)
 rw[bJ ae]
 unfold et at this
 simp only[Bool.false_eq_true,if_false]at this
 exact this.is
theorem j9.row{H:ab}{v:Value}{t:List (List Int)}(h:j9 H v t):ih H v t:=by
 obtain⟨aD,o,aa,aA⟩:=h
 refine⟨aD,o,fun i r ae=>?_⟩
 have cA:=(cK.1 ae).1
 have:=aA i cA
 rw[ae]at this
 unfold et
 simp only[Bool.false_eq_true,if_false]
 exact this.row
def cX(t:List (List Int)):List (List Rat):=t.map fun r=>r.map fun x=>((x:Int):Rat)
theorem NR{v:Value}{t:List (List Int)}{H:ab}(bc:ih H v t)(ar:t.length<65536)(al:∀r∈t,r.length<65536)(ag:∀r∈t,∀x∈r,-9223372036854775808<=x/\x<9223372036854775808):
  aP prog 32 [v] H (fun w H1=>Ext H H1/\∃a c us,w= .agg #[.slice a t.length c]/\eo (H.length+1) 120 80 4 true ca H1 (.slice a t.length c) (cX t) us):=by
 refine aP.b9 fun Q aE=>?_
 apply XB (by simp)
 obtain⟨a,cap,rfl⟩:=Row.len bc
 simp[H5]
 have bn:Ext H (H++[.dead]):=Ext.dead H
 refine c9 (af:=dV) (xs:=t) (by simpa using b7.ext (af:=ih) bc bn) (by simp) ?_
 simp
 refine dF.range (by kernel_rfl) t.length (by omega) (by simp) (by rfl) (by simp) (by decide) (by decide) (fun i bU dp aR=>Ext (H++[.dead]) aR/\∃us,eo (H.length+1) 120 80 4 true ca aR (bU 3) (cX (t.take i)) us) ?_ ?_ ?_
 ·exact⟨Ext.refl _,[],by simpa[cX]using eo.nil _ _ _ _ _ _ _ (by omega)⟩
 ·rintro i bU dp aR ae i_ ⟨bm,us,jc⟩ K a0
  simp at i_ jc
  refine Exists.elim (⟨_,bJ ae⟩:∃row,t[i]?=some row) fun row fj=>?_
  have iq:=List.mem_of_getElem? fj
  have lM:=al row iq
  have jU:=Ext.len bm
  simp at jU
  simp[i_]
  refine dc (af:=dV) (xs:=t) (n:=i) (a:=row) (e:=34) (U:=1) (aC:=false) (by simpa using b7.ext (af:=ih) bc (bn.aw bm)) (by simp[i_]) fj (by simp) (by simp) (by simp) (by decide) ?_
  intro eM rN oZ
  simp
  refine c9 (af:=IR) (xs:=row) (by simpa using oZ) (by simp) ?_
  simp
  refine dF.range (by kernel_rfl) row.length (by omega) (by simp) (by rfl) (by simp) (by decide) (by decide) (fun j cY dW b1=>Ext aR b1/\bB aR.length 80 4 true ca b1 (cY 6) ((row.take j).map fun x=>((x:Int):Rat))) ?_ ?_ ?_
  ·exact⟨Ext.refl _,by simpa using bB.nil _ _ _ _ _ _⟩
  ·rintro j cY dW b1 aX ja ⟨cr,jP⟩ qs im
   simp at ja jP
   refine Exists.elim (⟨_,bJ aX⟩:∃x,row[j]?=some x) fun x J=>?_
   have Mp:=ag row iq x (List.mem_of_getElem? J)
   have z4:=Ext.len cr
   simp[ja]
   refine dc (af:=IR) (xs:=row) (n:=j) (a:=x) (e:=3) (U:=1) (aC:=false) (by simpa using b7.ext (af:=Row _ _ _ IR) oZ cr) (by simp[ja]) J (by simp) (by simp) (by simp) (by decide) ?_
   rintro iv mG rfl
   simp
   refine aV.mk (A_ Mp.1 Mp.2) ?_
   rintro w cb ⟨c0,hw⟩
   refine qh (k:=aR.length) (e:=80) (U:=4) (aC:=true) (bA:=64) (z:= .agg #[.bool false,.slice none 0 0,.bool false,.slice none 0 0]) (af:=ca) (xs:=(row.take j).map fun x=>((x:Int):Rat)) (a:=(x:Rat)) (by simpa using b7.ext (af:=bB _ _ _ _ ca) jP c0) (by simpa using hw) (by simpa using hw.whole) (by simp) (fun aF dv u y aj h=>h.kept aj (by decide)) (by simp) (by simp) (by simp) (by simp) (by simp) (by rfl) (by rfl) (by first | rfl | simp[flat,g5]) (by rfl) (by decide) (by decide) (by decide) (by simp;omega) (by have:=Ext.len c0;omega) ?_
   intro nn v6 dQ jx cL sC
   try simp
   refine im _ _ _ (by simp[ja]) ⟨cL _ (Nat.le_refl _) (cr.aw c0),?_⟩
   rw[List.take_add_one,J,List.map_append]
   simpa using jx
  ·rintro cY dW b1 ja ⟨cr,jP⟩
   simp at jP
   have mf:=eo.ext jc cr
   have z4:=Ext.len cr
   have VP:=jP.jr
   have kF:=jc.len
   simp[cX]at kF
   try simp
   refine FT (k:=H.length+1) (e:=120) (U:=1) (aC:=false) (bA:=24) (z:= .slice none 0 0) (af:=gU) (xs:=us) (a:=cY 6) (by simpa using mf.own) (by simp[gU]) (by simpa using VP) (by simp) (fun _ _ _ _ _ h=>h) (by simp) (by simp) (by simp) (by simp) (by simp) (by rfl) (by rfl) (by rfl) (by rfl) (by decide) (by decide) (by decide) (by omega) (by omega) ?_
   intro p_ vx cS h2 cD k6 uH xc
   simp at k6 uH
   have uS:=eo.snoc (cx:=aR) (o6:=aR.length) mf (fun b aH ag=>(jP.ge ag aH).1) (fun j u b hu ag aH=>jc.lt j u b hu ag aH) (by decide) (jP.le (by omega)) h2 k6 (fun u x h=>h.kept k6 (by decide))
   try simp
   refine a0 _ _ _ (by simp[i_]) ⟨cD _ (by simp) (bm.aw cr),us++[cY 6],?_⟩
   rw[List.take_add_one,fj]
   simpa[cX]using uS
 ·rintro bU dp aR i_ ⟨bm,us,jc⟩
  simp at jc
  obtain⟨c5,lc,mm⟩:=jc.own.len
  have kF:=jc.len
  simp[cX]at kF
  rw[mm,kF]at jc
  simp[mm,kF,bf]
  exact aE _ _ ⟨bn.aw bm,c5,lc,us,rfl,jc⟩
theorem Fk{v:Value}{t:List (List Int)}{H:ab}(bc:ih H v t)(ar:t.length<65536)(al:∀r∈t,r.length<65536)(ag:∀r∈t,∀x∈r,-9223372036854775808<=x/\x<9223372036854775808):
  aP prog 32 [v] H (fun w H1=>Ext H H1/\∃a c,w= .agg #[.slice a t.length c]/\hC H1 (.slice a t.length c) (cX t)):=
 (NR bc ar al ag).mono fun w H1 ⟨J,a,c,us,hw,cy⟩=>⟨J,a,c,hw,cy.row⟩
def tA(N:Nat)(t:List (List Rat)):Prop:=∀r∈t,(∀k,de N (hb (r.take k)))/\∀q∈r,de N q
theorem tA.sum{N:Nat}{t:List (List Rat)}(h:tA N t){r:List Rat}(al:r∈t):de N (hb r):=by
 have:=(h r al).1 r.length
 rwa[List.take_length]at this
def dL(t:List (List Rat))(i:Nat):Rat:=hb (t[i]?.getD [])
def dy(f:Nat->Rat):Nat->Rat×Nat
 | 0=>(f 0,0)
 | n+1=>if(dy f n).1<f n then(f n,n)else dy f n
theorem s6(f:Nat->Rat)(n:Nat):(dy f n).1=f (dy f n).2/\((dy f n).2<n\/(dy f n).2=0):=by
 induction n with
 | zero=>simp[dy]
 | succ n a2=>
  simp only[dy]
  split
  ·exact⟨rfl,.inl (Nat.lt_succ_self n)⟩
  ·exact⟨a2.1,by omega⟩
theorem AS(f:Nat->Rat){n i:Nat}(ae:i<n):f i<=(dy f n).1:=by
 induction n with
 | zero=>omega
 | succ n a2=>
  simp only[dy]
  by_cases gr:i=n
  ·subst gr
   split
   ·exact Rat.le_refl
   ·rename_i h;exact Rat.not_lt.1 h
  ·have:=a2 (by omega)
   split
   ·rename_i h;exact Rat.le_trans this (Rat.le_of_lt h)
   ·exact this
theorem YE(f:Nat->Rat){n i:Nat}(ae:i<(dy f n).2):f i<(dy f n).1:=by
 induction n with
 | zero=>simp[dy]at ae
 | succ n a2=>
  simp only[dy]at ae⊢
  split at ae
  ·rename_i h
   rw[if_pos h]
   exact Std.lt_of_le_of_lt (AS f ae) h
  ·rename_i h
   rw[if_neg h]
   exact a2 ae
theorem FJ{t:List (List Rat)}{i:Nat}(ae:i<t.length):∃r,t[i]?=some r/\r∈t/\dL t i=hb r:=
 ⟨_,bJ ae,List.getElem_mem ae,by simp[dL,bJ ae]⟩
theorem x7{N:Nat}{t:List (List Rat)}(aM:tA N t)(bM:0<t.length){n:Nat}(aG:n<=t.length):de N (dy (dL t) n).1:=by
 obtain⟨o,aa⟩:=s6 (dL t) n
 rw[o]
 obtain⟨r,-,a3,bG⟩:=FJ (t:=t) (i:=(dy (dL t) n).2) (by omega)
 rw[bG]
 exact aM.sum a3
theorem AU{v:Value}{t:List (List Rat)}{N:Nat}{H:ab}(bc:hC H v t)(bM:0<t.length)(ar:t.length<65536)(lM:∀r∈t,r.length<65536)(aM:tA N t)(bX:N<=1000000):
  aP prog 33 [.agg #[v]] H (fun u H1=>Ext H H1/\∃w,u= .tuple #[w,.int .i64 ((dy (dL t) t.length).2:Nat)]/\ca H1 w (dy (dL t) t.length).1):=by
 refine aP.b9 fun Q aE=>?_
 apply XG (by simp)
 obtain⟨a,c,rfl⟩:=Row.len bc
 simp[H8]
 have bn:Ext H (H++[.dead,.dead]):=Ext.more H (by simp)
 obtain⟨fz,g9,oX,xq⟩:=FJ bM
 refine aV.mk (xY (j:=0) (bc.ext bn) g9 (by have:=lM fz oX;omega) (by omega) (aM fz oX).1 (aM fz oX).2 bX) ?_
 rintro yg H1 ⟨bx,m8⟩
 simp
 refine cO.mk m8.whole ?_
 simp
 have bm:Ext H1 (H1++[.dead]):=Ext.dead H1
 have nc:=bn.aw (bx.aw bm)
 refine aV.mk (MF (bc.ext nc)) ?_
 rintro u bP ⟨bN,rfl⟩
 have hP:=bc.ext (nc.aw bN)
 simp
 refine dF.range (by kernel_rfl) t.length (by omega) (by simp) (by rfl) (by simp) (by decide) (by decide) (fun i dh ey b1=>Ext bP b1/\ca b1 (ey 4) (dy (dL t) i).1/\dh 5= .int .i64 ((dy (dL t) i).2:Nat)) ?_ ?_ ?_
 ·refine⟨Ext.refl _,?_,by simp[dy]⟩
  simp only[dy,xq]
  simpa using m8.ext (bm.aw bN)
 ·rintro i dh ey b1 ae a5 ⟨cr,hm,bK⟩ K a0
  simp at a5 hm bK
  obtain⟨b,ag⟩:∃b,(dy (dL t) i).1=b:=⟨_,rfl⟩
  obtain⟨jr,L8⟩:∃jr,(dy (dL t) i).2=jr:=⟨_,rfl⟩
  have oR:de N b:=by rw[<-ag];exact x7 aM bM (by omega)
  rw[ag]at hm
  rw[L8]at bK
  obtain⟨r,al,sK,sL⟩:=FJ ae
  refine cc.join (by kernel_rfl) (fun fS hz cb=>Ext b1 cb/\ca cb (hz 4) (dy (dL t) (i+1)).1/\fS 5= .int .i64 ((dy (dL t) (i+1)).2:Nat)) ?_ ?_
  ·rintro ef jw-
   simp[a5,bK]
   refine aV.mk (xY (j:=i) (hP.ext cr) al (by have:=lM r sK;omega) (by omega) (aM r sK).1 (aM r sK).2 bX) ?_
   rintro s1 cb ⟨c0,fq⟩
   simp
   refine cO.mk fq.whole ?_
   simp
   have cL:Ext cb (cb++[.dead]):=Ext.dead cb
   have o3:=c0.aw cL
   refine aV.mk (A8 (fq.ext cL) (hm.ext o3) (aM.sum sK) oR bX) ?_
   rintro eE cS ⟨cD,rfl⟩
   simp
   refine bH.b_ (fun ad=>?_) (fun ad=>?_)
   ·have a6:b<hb r:=by
     by_cases o:hb r<b
     ·rw[if_pos o]at ad;omega
     ·rw[if_neg o]at ad
      by_cases aa:hb r=b
      ·rw[if_pos aa]at ad;omega
      ·exact Std.lt_of_le_of_ne (Rat.not_lt.1 o) (Ne.symm aa)
    simp
    refine cO.mk fq.whole ?_
    simp
    refine jw _ _ _ ⟨o3.aw cD,?_,?_⟩
    ·simp only[dy,ag,sL,if_pos a6]
     simpa using fq.ext (cL.aw cD)
    ·simp[dy,ag,sL,if_pos a6]
   ·have a6:¬b<hb r:=by
     intro a6
     rw[if_neg (fun h=>Rat.lt_irrefl (Std.lt_trans h a6)),if_neg (fun h=>Rat.lt_irrefl (h▸a6))]at ad
     omega
    refine jw _ _ _ ⟨o3.aw cD,?_,?_⟩
    ·simp only[dy,ag,sL,if_neg a6]
     simpa using hm.ext (o3.aw cD)
    ·simp[dy,ag,sL,if_neg a6,L8,bK]
  ·rintro fS hz cb ⟨c0,o,aa⟩
   exact a0 _ _ _ (by simp[a5]) ⟨cr.aw c0,by simpa using o,by simpa using aa⟩
 ·rintro dh ey b1 a5 ⟨cr,hm,bK⟩
  simp at hm bK
  simp[bK]
  refine cO.mk hm.whole ?_
  simp[bf,bK]
  exact aE _ _ ⟨nc.aw (bN.aw cr),_,rfl,hm⟩
def hK(m:Nat)(t:List (List Int)):List (List Int):=(List.range m).map fun k=>t.map fun r=>r[k]?.getD 0
theorem NM{m:Nat}{t:List (List Int)}:ff m (cX t)=cX (hK m t):=by
 unfold ff cX hK
 rw[List.map_map]
 apply List.map_congr_left
 intro k _
 unfold iH
 simp
 intro r _
 cases r[k]?<;>simp
theorem Zk(r:List Int)(a:Int):(r.map fun x=>((x:Int):Rat)).foldl (·+·) ((a:Int):Rat)=((a+r.sum:Int):Rat):=by
 induction r generalizing a with
 | nil=>simp
 | cons x r a2=>
  simp only[List.map_cons,List.foldl_cons,List.sum_cons]
  rw[<-Rat.intCast_add,a2]
  congr 1
  omega
theorem NJ(r:List Int):hb (r.map fun x=>((x:Int):Rat))=((r.sum:Int):Rat):=by
 have:=Zk r 0
 simpa[hb]using this
theorem aas{r:List Int}{B:Int}(h:∀x∈r,0<=x/\x<=B):0<=r.sum/\r.sum<=B*r.length:=by
 induction r with
 | nil=>simp
 | cons x r a2=>
  have o:=h x (by simp)
  have aa:=a2 fun y aL=>h y (by simp[aL])
  simp only[List.sum_cons,List.length_cons]
  rw[Int.natCast_add,Int.mul_add]
  simp
  omega
def lx(t:List (List Int)):Prop:=∀r∈t,r.length<=1000/\∀x∈r,0<=x/\x<=1000000
theorem lx.sum{r:List Int}(o:r.length<=1000)(aa:∀x∈r,0<=x/\x<=1000000):0<=r.sum/\r.sum<=1000000000:=by
 have:=aas aa
 omega
theorem lx.kJ{t:List (List Int)}(h:lx t):tA 64 (cX t):=by
 intro r al
 unfold cX at al
 rw[List.mem_map]at al
 obtain⟨dP,fx,rfl⟩:=al
 obtain⟨o,aa⟩:=h dP fx
 refine⟨fun k=>?_,fun q av=>?_⟩
 ·rw[<-List.map_take,NJ]
  have:=lx.sum (r:=dP.take k) (by simp;omega) fun x J=>aa x (List.mem_of_mem_take J)
  exact de.int (by omega) (by decide)
 ·rw[List.mem_map]at av
  obtain⟨x,J,rfl⟩:=av
  have:=aa x J
  exact de.int (by omega) (by decide)
theorem lx.ff{m:Nat}{t:List (List Int)}(h:lx t)(ar:t.length<=1000):lx (hK m t):=by
 intro r al
 unfold hK at al
 rw[List.mem_map]at al
 obtain⟨k,-,rfl⟩:=al
 refine⟨by simpa using ar,fun x J=>?_⟩
 rw[List.mem_map]at J
 obtain⟨dP,fx,rfl⟩:=J
 cases aj:dP[k]? with
 | none=>simp
 | some y=>exact(h dP fx).2 y (List.mem_of_getElem? aj)
theorem gV.small{t:List (List Int)}(h:gV t):lx t:=by
 intro r al
 obtain⟨o,aa,aA,bo,bK⟩:=h
 have:=bK r al
 unfold ly at this
 simp at this
 refine⟨by omega,fun x J=>?_⟩
 have:=this.2 x J
 omega
theorem gV.len{t:List (List Int)}(h:gV t):∀r∈t,r.length=(t[0]?.getD []).length:=by
 intro r al
 obtain⟨o,aa,aA,bo,bK⟩:=h
 have:=bK r al
 unfold ly at this
 simp at this
 simpa using this.1
def il(t:List (List Int)):Int×Int×Nat:=
 let m:=(t[0]?.getD []).length
 let j:=dy (dL (cX t)) t.length
 let k:=dy (dL (cX (hK m t))) m
 if j.1<k.1 then(k.1.num,1,k.2)else(j.1.num,0,j.2)
theorem Fp{t:List (List Int)}{i:Nat}:dL (cX t) i=(((t[i]?.getD []).sum:Int):Rat):=by
 unfold dL cX
 rw[List.getElem?_map]
 cases t[i]? with
 | none=>simp[hb]
 | some r=>simp only[Option.map_some,Option.getD_some];exact NJ r
theorem AT{t:List (List Int)}(h:lx t)(n:Nat):(dy (dL (cX t)) n).1.num.natAbs<=1000000000:=by
 rw[(s6 _ n).1,Fp,Rat.num_intCast]
 cases al:t[(dy (dL (cX t)) n).2]? with
 | none=>simp
 | some r=>
  have:=h r (List.mem_of_getElem? al)
  have:=lx.sum this.1 this.2
  simp only[Option.getD_some]
  omega
theorem IY{a b:Rat}(ad:(0:Int)<if a<b then-1 else if a=b then 0 else 1):b<a:=by
 by_cases o:a<b
 ·rw[if_pos o]at ad;omega
 ·rw[if_neg o]at ad
  by_cases aa:a=b
  ·rw[if_pos aa]at ad;omega
  ·exact Std.lt_of_le_of_ne (Rat.not_lt.1 o) (Ne.symm aa)
theorem I0{a b:Rat}(ad:¬(0:Int)<if a<b then-1 else if a=b then 0 else 1):¬b<a:=by
 intro a6
 rw[if_neg (fun h=>Rat.lt_irrefl (Std.lt_trans h a6)),if_neg (fun h=>Rat.lt_irrefl (h▸a6))]at ad
 omega
theorem N_{v:Value}{a:Int}{H:ab}(bt:di H v a)(aH:a.natAbs<=1000000000):aP prog 37 [v] H (fun u H1=>Ext H H1/\u= .tuple #[.int .i64 a,.bool true]):=aac bt (by omega)
theorem IK{v:Value}{t:List (List Int)}{H:ab}(bc:j9 H v t)(ar:t.length<65536)(al:∀r∈t,r.length<65536):
  aP prog 9 [v] H (fun u H1=>Ext H H1/\(gV t->u= .tuple #[.int .i64 (il t).1,.int .i64 (il t).2.1,.int .i64 (il t).2.2,.int .i64 0])/\(¬gV t->u= .tuple #[.int .i64 0,.int .i64 0,.int .i64 0,.int .i64 1])):=by
 refine aP.b9 fun Q aE=>?_
 obtain⟨m,hm⟩:∃m,m=(t[0]?.getD []).length:=⟨_,rfl⟩
 apply Xw (by simp)
 simp[HZ]
 refine aV.mk (F7 bc (by omega) fun r h=>by have:=al r h;omega) ?_
 rintro u H1 ⟨bx,rfl⟩
 simp
 refine bH.mk (fun an=>?good) (fun an=>?bad)
 case bad=>
  simp at an
  simp[bf]
  exact aE _ _ ⟨bx,fun h=>absurd h an,fun _=>rfl⟩
 simp at an
 have ao:=an.small
 have eV:=an.len
 have v1:=an.1
 have v2:=an.2.1
 have ti:=an.2.2.1
 have v4:=an.2.2.2.1
 rw[<-hm]at eV ti v4
 simp
 refine aV.mk (Fk (bc.ext bx).row (by omega) al fun r h x J=>by have:=(ao r h).2 x J;omega) ?_
 rintro _ aR ⟨bm,Iy,I5,rfl,qO⟩
 simp
 have bN:Ext aR (aR++[.dead]):=Ext.dead aR
 have LA:∀r∈cX t,r.length=m:=fun r h=>by
  unfold cX at h
  rw[List.mem_map]at h
  obtain⟨dP,cv,rfl⟩:=h
  simpa using eV dP cv
 refine aV.mk (AU (N:=64) (qO.ext bN) (by simp[cX];omega) (by simp[cX];omega) (fun r h=>by have:=LA r h;omega) ao.kJ (by decide)) ?_
 rintro u b1 ⟨cr,w,rfl,hw⟩
 have q_:=hw.whole
 simp
 refine cO.mk hw.whole ?_
 simp
 have c0:Ext b1 (b1++[.dead]):=Ext.dead b1
 have o2:=bN.aw (cr.aw c0)
 refine aV.mk (Ow (m:=m) (qO.ext o2) (by simp[cX];omega) (by simp[cX];omega) LA (by omega)) ?_
 rintro u dQ ⟨cL,iA,rfl,mx⟩
 rw[NM]at mx
 have c8:=ao.ff (m:=m) (by omega)
 simp
 refine aV.mk (AU (N:=64) mx (by simp[cX,hK];omega) (by simp[cX,hK];omega) (fun r h=>by
  unfold cX hK at h
  simp at h
  obtain⟨k,-,rfl⟩:=h
  simp;omega) c8.kJ (by decide)) ?_
 rintro u cS ⟨cD,cH,rfl,ir⟩
 simp
 refine cO.mk ir.whole ?_
 simp
 have c1:Ext cS (cS++[.dead]):=Ext.dead cS
 have gA:(cX t).length=t.length:=by simp[cX]
 have je:(cX (hK m t)).length=m:=by simp[cX,hK]
 have ri:=c0.aw (cL.aw (cD.aw c1))
 have qY:=AT ao t.length
 have Uh:=AT c8 m
 rw[gA]at hw
 rw[je]at ir
 have Z9:=x7 ao.kJ (t:=cX t) (n:=t.length) (by simp[cX];omega) (by simp[cX])
 have Z_:=x7 c8.kJ (t:=cX (hK m t)) (n:=m) (by simp[cX,hK];omega) (by simp[cX,hK])
 have bC:il t=if(dy (dL (cX t)) t.length).1<(dy (dL (cX (hK m t))) m).1 then((dy (dL (cX (hK m t))) m).1.num,1,(dy (dL (cX (hK m t))) m).2)else((dy (dL (cX t)) t.length).1.num,0,(dy (dL (cX t)) t.length).2):=by
  unfold il
  rw[<-hm]
 rw[gA,je]
 refine aV.mk (A8 (N:=64) (ir.ext c1) (hw.ext ri) Z_ Z9 (by decide)) ?_
 rintro u fC ⟨dx,rfl⟩
 simp
 refine bH.b_ (fun ad=>?_) (fun ad=>?_)
 ·have a6:=IY ad
  rw[if_pos a6]at bC
  simp
  refine aV.mk (Nl (ir.ext (c1.aw dx))) ?_
  rintro z kq ⟨fQ,aM⟩
  simp
  refine aV.mk (N_ aM Uh) ?_
  rintro z iD ⟨fY,rfl⟩
  simp[bf]
  exact aE _ _ ⟨bx.aw (bm.aw (bN.aw (cr.aw (ri.aw (dx.aw (fQ.aw fY)))))),fun _=>by rw[bC],fun h=>absurd an h⟩
 ·have a6:=I0 ad
  rw[if_neg a6]at bC
  simp
  refine aV.mk (Nl (hw.ext (ri.aw dx))) ?_
  rintro z kq ⟨fQ,aM⟩
  simp
  refine aV.mk (N_ aM qY) ?_
  rintro z iD ⟨fY,rfl⟩
  simp[bf]
  exact aE _ _ ⟨bx.aw (bm.aw (bN.aw (cr.aw (ri.aw (dx.aw (fQ.aw fY)))))),fun _=>by rw[bC],fun h=>absurd an h⟩
end Go.cJ
end
section
namespace Go.cJ
def bS:Nat->(Nat->Rat)->Rat
 | 0,_=>0
 | n+1,f=>bS n f+f n
theorem g3{n:Nat}{f g:Nat->Rat}(h:∀i,i<n->f i=g i):bS n f=bS n g:=by
 induction n with
 | zero=>rfl
 | succ n a2=>simp only[bS];rw[a2 fun i ae=>h i (by omega),h n (by omega)]
theorem FA(n:Nat)(f g:Nat->Rat):bS n (fun i=>f i+g i)=bS n f+bS n g:=by
 induction n with
 | zero=>simp only[bS];grind
 | succ n a2=>simp only[bS];rw[a2];grind
theorem rH(n:Nat):bS n (fun _=>0)=0:=by
 induction n with
 | zero=>rfl
 | succ n a2=>simp only[bS];rw[a2];grind
theorem FB{n:Nat}{f g:Nat->Rat}(h:∀i,i<n->f i<=g i):bS n f<=bS n g:=by
 induction n with
 | zero=>simp only[bS];grind
 | succ n a2=>simp only[bS];have:=a2 fun i ae=>h i (by omega);have:=h n (by omega);grind
theorem FD{n:Nat}{f:Nat->Rat}(h:∀i,i<n->0<=f i):0<=bS n f:=by
 have:=FB (n:=n) (f:=fun _=>0) (g:=f) h
 rw[rH]at this;exact this
theorem aar(n m:Nat)(f:Nat->Nat->Rat):bS n (fun i=>bS m (f i))=bS m (fun k=>bS n (fun i=>f i k)):=by
 induction n with
 | zero=>simp[bS,rH]
 | succ n a2=>simp only[bS];rw[a2,<-FA]
theorem FE(n m:Nat)(f:Nat->Rat):bS (n+m) f=bS n f+bS m (fun i=>f (n+i)):=by
 induction m with
 | zero=>simp only[bS,Nat.add_zero];grind
 | succ m a2=>rw[<-Nat.add_assoc];simp only[bS];rw[a2];grind
theorem rG{n:Nat}(j:Nat)(f:Nat->Rat):bS n (fun i=>if i=j then f i else 0)=if j<n then f j else 0:=by
 induction n with
 | zero=>simp[bS]
 | succ n a2=>
  simp only[bS];rw[a2]
  by_cases o:n=j
  ·subst o;simp;grind
  ·by_cases aa:j<n
   ·simp[o,aa,show j<n+1 by omega];grind
   ·simp[o,aa,show¬j<n+1 by omega];grind
theorem FC{n j:Nat}{f:Nat->Rat}(h:∀i,i<n->0<=f i)(aX:j<n):f j<=bS n f:=by
 induction n with
 | zero=>omega
 | succ n a2=>
  simp only[bS]
  have aH:=FD (n:=n) (f:=f) fun i ae=>h i (by omega)
  have o:=h n (by omega)
  by_cases n6:j=n
  ·subst n6;grind
  ·have:=a2 (fun i ae=>h i (by omega)) (by omega);grind
def l6(n:Nat)(p:Nat->Bool):Nat:=((List.range n).filter p).length
theorem Qn(n:Nat)(p:Nat->Bool):l6 (n+1) p=l6 n p+if p n=true then 1 else 0:=by
 unfold l6
 rw[List.range_succ,List.filter_append,List.length_append]
 congr 1
 by_cases h:p n=true<;>simp[h]
theorem EW{α:Type}[DecidableEq α]:∀{l c_:List α},l.Nodup->(∀x∈l,x∈c_)->l.length<=c_.length
 | [],c_,_,_=>by simp
 | x::l,c_,aG,ao=>by
  have o:=ao x (by simp)
  have hn:=List.nodup_cons.1 aG
  have aa:=EW (l:=l) (c_:=c_.erase x) hn.2 fun y aL=>by
   have:y≠x:=fun e=>hn.1 (e▸aL)
   exact(List.mem_erase_of_ne this).2 (ao y (by simp[aL]))
  have aA:=List.length_erase_of_mem o
  have bo:=List.length_pos_of_mem o
  simp only[List.length_cons]
  omega
theorem Qm{n:Nat}{p:Nat->Bool}{l:List Nat}(aG:l.Nodup)(h:∀x∈l,x<n/\p x=true):l.length<=l6 n p:=
 EW aG fun x J=>by simp[h x J]
theorem Oi(n:Nat)(p:Nat->Bool)(c:Rat):bS n (fun i=>if p i=true then c else 0)=(l6 n p:Rat)*c:=by
 induction n with
 | zero=>simp[bS,l6]
 | succ n a2=>
  simp only[bS];rw[a2,Qn]
  by_cases h:p n=true
  ·simp[h];grind
  ·simp[h];grind
theorem e1{n:Nat}{A:Nat->Nat->Rat}{L:Rat}(aH:∀i k,i<n->k<n->0<=A i k)(al:∀i,i<n->bS n (A i)=L)(ad:∀k:Nat,k<n->bS n (fun i=>A i k)=L)(dk:0<L)
  (nE S:Nat->Bool)(qN:∀j,j<n->nE j=true->∀k:Nat,k<n->0<A j k->S k=true):l6 n nE<=l6 n S:=by
 have bk:bS n (fun j=>if nE j=true then L else 0)=bS n (fun j=>bS n (fun k=>if nE j=true then A j k else 0)):=by
  apply g3
  intro j aX
  by_cases h:nE j=true
  ·simp only[h,if_true];exact(al j aX).symm
  ·simp only[if_neg h];exact(rH n).symm
 have bg:bS n (fun j=>bS n (fun k=>if nE j=true then A j k else 0))<=bS n (fun j=>bS n (fun k=>if S k=true then A j k else 0)):=by
  refine FB fun j aX=>FB fun k aj=>?_
  have:=aH j k aX aj
  by_cases h:nE j=true
  ·simp only[h,if_true]
   by_cases ao:S k=true
   ·simp[ao]
   ·rw[if_neg ao]
    have:¬0<A j k:=fun aY=>ao (qN j aX h k aj aY)
    grind
  ·simp only[if_neg h]
   split
   ·exact this
   ·grind
 have fW:bS n (fun j=>bS n (fun k=>if S k=true then A j k else 0))=bS n (fun k=>if S k=true then L else 0):=by
  rw[aar]
  apply g3
  intro k aj
  by_cases h:S k=true
  ·simp only[h,if_true];exact ad k aj
  ·simp only[if_neg h];exact rH n
 rw[<-bk,Oi,fW,Oi]at bg
 by_cases a6:l6 n nE<=l6 n S
 ·exact a6
 ·have aa:(l6 n S:Rat)<(l6 n nE:Rat):=by exact_mod_cast Nat.lt_of_not_le a6
  have aA:=Rat.mul_lt_mul_of_pos_right aa dk
  grind
def qu(n:Nat)(A:Nat->Nat->Rat)(b2:List Int):Prop:=b2.length=n/\∀k:Nat,k<n->b2[k]?.getD 0= -1\/∃j:Nat,j<n/\b2[k]?.getD 0=j/\0<A j k
structure qp (n:Nat) (A:Nat->Nat->Rat) (b2:List Int) (dn:List Bool) (dN:Nat) (b:Bool) (ha:List Int) (cG:List Bool):Prop where
 len:cG.length=n
 mono:∀k:Nat,dn[k]?.getD false=true->cG[k]?.getD false=true
 no:b=false->ha=b2/\(∀k:Nat,k<n->0<A dN k->cG[k]?.getD false=true)/\∀k:Nat,k<n->cG[k]?.getD false=true->dn[k]?.getD false=false->∃j:Nat,j<n/\b2[k]?.getD 0=j/\∀i,i<n->0<A j i->cG[i]?.getD false=true
 yes:b=true->qu n A ha/\(∀k:Nat,dn[k]?.getD false=true->ha[k]?=b2[k]?)/\∀j:Nat,ha.count (j:Int)=b2.count (j:Int)+if j=dN then 1 else 0
def pd(dn:List Bool):Nat:=dn.count false
theorem adf{dn:List Bool}{i:Nat}(ae:i<dn.length)(h:dn[i]?.getD false=false):pd (dn.set i true)+1=pd dn:=by
 unfold pd
 rw[bJ ae]at h
 simp at h
 rw[List.count_set ae,h]
 have:0<List.count false dn:=List.count_pos_iff.2 (h▸List.getElem_mem ae)
 simp
 omega
theorem O1:∀{dn cG:List Bool},cG.length=dn.length->(∀k:Nat,dn[k]?.getD false=true->cG[k]?.getD false=true)->pd cG<=pd dn
 | [],cG,ar,_=>by
  have:cG=[]:=List.eq_nil_of_length_eq_zero (by simpa using ar)
  subst this
  exact Nat.le_refl _
 | b::dn,[],ar,_=>by simp at ar
 | b::dn,cu::cG,ar,h=>by
  have a2:=O1 (dn:=dn) (cG:=cG) (by simpa using ar) fun k aj=>by
   have:=h (k+1)
   simp at this
   exact this aj
  have aH:=h 0
  simp at aH
  unfold pd at a2⊢
  rw[List.count_cons,List.count_cons]
  cases b with
  | true=>simp[aH rfl];exact a2
  | false=>cases cu<;>simp<;>omega
structure jJ (n:Nat) (A:Nat->Nat->Rat) (b2:List Int) (dn:List Bool) (dN i:Nat) (cG:List Bool):Prop where
 len:cG.length=n
 mono:∀k:Nat,dn[k]?.getD false=true->cG[k]?.getD false=true
 done:∀k:Nat,k<i->0<A dN k->cG[k]?.getD false=true
 new:∀k:Nat,k<n->cG[k]?.getD false=true->dn[k]?.getD false=false->∃j:Nat,j<n/\b2[k]?.getD 0=j/\∀i,i<n->0<A j i->cG[i]?.getD false=true
section
variable {n:Nat} {A:Nat->Nat->Rat} {b2 ha:List Int} {dn cG vo:List Bool} {dN i:Nat}
theorem jJ.zero(h:dn.length=n):jJ n A b2 dn dN 0 dn:=⟨h,fun _ h=>h,fun k aj=>by omega,fun k _ o aa=>by rw[o]at aa;cases aa⟩
theorem jJ.skip(h:jJ n A b2 dn dN i cG)(ao:cG[i]?.getD false=true\/A dN i<=0):jJ n A b2 dn dN (i+1) cG:=
 ⟨h.len,h.mono,fun k aj aY=>by
  by_cases g8:k<i
  ·exact h.done k g8 aY
  ·obtain rfl:k=i:=by omega
   rcases ao with ao | ao
   ·exact ao
   ·grind,h.new⟩
theorem sd{l:List Bool}{i k:Nat}(ae:i<l.length):(l.set i true)[k]?.getD false=(decide (k=i) || l[k]?.getD false):=by
 rw[List.getElem?_set]
 by_cases h:i=k
 ·subst h;simp[ae]
 ·simp[h,show¬k=i by omega]
theorem jJ.fail(h:jJ n A b2 dn dN i cG)(ae:i<n)(h7:cG[i]?.getD false=false){j:Nat}(aX:j<n)(hR:b2[i]?.getD 0=j)(al:qp n A b2 (cG.set i true) j false ha vo):ha=b2/\jJ n A b2 dn dN (i+1) vo:=by
 obtain⟨e,e1,q2⟩:=al.no rfl
 have cA:i<cG.length:=by rw[h.len];exact ae
 have hm:∀k,cG[k]?.getD false=true->vo[k]?.getD false=true:=fun k aj=>al.mono k (by rw[sd cA,aj];simp)
 have Dz:vo[i]?.getD false=true:=al.mono i (by rw[sd cA];simp)
 refine⟨e,al.len,fun k aj=>hm k (h.mono k aj),fun k aj aY=>?_,fun k aj o aa=>?_⟩
 ·by_cases g8:k<i
  ·exact hm k (h.done k g8 aY)
  ·obtain rfl:k=i:=by omega
   exact Dz
 ·by_cases g8:k=i
  ·subst g8;exact⟨j,aX,hR,e1⟩
  ·by_cases ml:cG[k]?.getD false=true
   ·obtain⟨ea,a1,a3,bG⟩:=h.new k aj ml aa
    exact⟨ea,a1,a3,fun i ae aY=>hm i (bG i ae aY)⟩
   ·exact q2 k aj o (by rw[sd cA];simp[g8];simpa using ml)
theorem jJ.end(h:jJ n A b2 dn dN n cG):qp n A b2 dn dN false b2 cG:=⟨h.len,h.mono,fun _=>⟨rfl,h.done,h.new⟩,fun h=>by cases h⟩
theorem I2{l:List Int}{i:Nat}(ae:i<l.length){a:Int}(j:Int):(l.set i a).count j+(if l[i]?.getD 0=j then 1 else 0)=l.count j+if a=j then 1 else 0:=by
 rw[List.count_set ae]
 rw[bJ ae]
 simp only[Option.getD_some,beq_iff_eq]
 by_cases h:l[i]=j
 ·have:0<List.count j l:=List.count_pos_iff.2 (h▸List.getElem_mem ae)
  simp[h];split<;>omega
 ·simp[h]
theorem qu.set(h:qu n A b2)(ae:i<n)(aX:dN<n)(aY:0<A dN i):qu n A (b2.set i (dN:Int)):=by
 refine⟨by simp[h.1],fun k aj=>?_⟩
 by_cases g8:k=i
 ·subst g8
  rw[List.getElem?_set_self (by rw[h.1];exact aj)]
  exact .inr ⟨dN,aX,rfl,aY⟩
 ·rw[List.getElem?_set_ne (by omega)];exact h.2 k aj
theorem jJ.free(h:jJ n A b2 dn dN i cG)(jb:qu n A b2)(ae:i<n)(sz:dN<n)(aY:0<A dN i)(h7:cG[i]?.getD false=false)(hm:b2[i]?.getD 0<0):qp n A b2 dn dN true (b2.set i (dN:Int)) (cG.set i true):=by
 have cA:i<cG.length:=by rw[h.len];exact ae
 have eV:i<b2.length:=by rw[jb.1];exact ae
 refine⟨by simp[h.len],fun k aj=>by rw[sd cA,h.mono k aj];simp,(fun h=>by cases h),fun _=>⟨jb.set ae sz aY,fun k aj=>?_,fun j=>?_⟩⟩
 ·rw[List.getElem?_set_ne]
  rintro rfl
  rw[h.mono _ aj]at h7;cases h7
 ·have:=I2 eV (a:=(dN:Int)) (j:Int)
  rw[if_neg (by omega)]at this
  rw[Nat.add_zero]at this
  rw[this]
  congr 1
  by_cases aX:j=dN
  ·simp[aX]
  ·rw[if_neg aX,if_neg (by omega)]
theorem jJ.ES(h:jJ n A b2 dn dN i cG)(jb:qu n A b2)(ae:i<n)(sz:dN<n)(aY:0<A dN i)(h7:cG[i]?.getD false=false){j:Nat}(hm:b2[i]?.getD 0=j)(al:qp n A b2 (cG.set i true) j true ha vo):qp n A b2 dn dN true (ha.set i (dN:Int)) vo:=by
 have cA:i<cG.length:=by rw[h.len];exact ae
 obtain⟨Kf,z2,TK⟩:=al.yes rfl
 have eV:i<ha.length:=by rw[Kf.1];exact ae
 have hR:ha[i]?=b2[i]?:=z2 i (by rw[sd cA];simp)
 refine⟨al.len,fun k aj=>al.mono k (by rw[sd cA,h.mono k aj];simp),(fun h=>by cases h),fun _=>⟨Kf.set ae sz aY,fun k aj=>?_,fun x=>?_⟩⟩
 ·rw[List.getElem?_set_ne]
  ·exact z2 k (by rw[sd cA,h.mono k aj];simp)
  ·rintro rfl
   rw[h.mono _ aj]at h7;cases h7
 ·have:=I2 eV (a:=(dN:Int)) (x:Int)
  rw[hR,hm,TK x]at this
  by_cases o:x=j
  ·subst o
   simp at this
   by_cases aa:x=dN
   ·subst aa;simp at this⊢;omega
   ·rw[if_neg aa];rw[if_neg (by omega)]at this;omega
  ·rw[if_neg (by omega),if_neg o]at this
   by_cases aa:x=dN
   ·subst aa;simp at this⊢;omega
   ·rw[if_neg aa];rw[if_neg (by omega)]at this;omega
end
structure mM (n:Nat) (A:Nat->Nat->Rat) (t:Nat) (b2:List Int):Prop where
 ok:qu n A b2
 qE:∀j:Nat,b2.count (j:Int)=if j<t then 1 else 0
theorem mM.zero(n:Nat)(A:Nat->Nat->Rat):mM n A 0 (List.replicate n (-1)):=
 ⟨⟨by simp,fun k aj=> .inl (by simp[aj])⟩,fun j=>by
  simp[List.count_replicate]⟩
theorem EC{l:List Int}{x:Int}(h:l.count x<=1){a b:Nat}(aO:l[a]?=some x)(ag:l[b]?=some x):a=b:=by
 induction l generalizing a b with
 | nil=>simp at aO
 | cons y l a2=>
  rw[List.count_cons]at h
  cases a with
  | zero=>
   cases b with
   | zero=>rfl
   | succ b=>
    simp at aO ag
    have:0<l.count x:=List.count_pos_iff.2 (List.mem_of_getElem? ag)
    simp[aO]at h;omega
  | succ a=>
   cases b with
   | zero=>
    simp at aO ag
    have:0<l.count x:=List.count_pos_iff.2 (List.mem_of_getElem? aO)
    simp[ag]at h;omega
   | succ b=>
    simp at aO ag
    rw[a2 (by omega) aO ag]
theorem mM.next{n t:Nat}{A:Nat->Nat->Rat}{L:Rat}{b2 ha:List Int}{cG:List Bool}{b:Bool}(aH:∀i k,i<n->k<n->0<=A i k)(al:∀i,i<n->bS n (A i)=L)(ad:∀k:Nat,k<n->bS n (fun i=>A i k)=L)(dk:0<L)
  (h:mM n A t b2)(bM:t<n)(ay:qp n A b2 (List.replicate n false) t b ha cG):b=true/\mM n A (t+1) ha:=by
 have ag:b=true:=by
  cases b with
  | true=>rfl
  | false=>
   exfalso
   obtain⟨-,o,aa⟩:=ay.no rfl
   have bE:∀k:Nat,k<n->cG[k]?.getD false=true->∃j:Nat,j<n/\b2[k]?.getD 0=j/\∀i,i<n->0<A j i->cG[i]?.getD false=true:=fun k aj ao=>aa k aj ao (by simp[aj])
   have e1:=e1 aH al ad dk (fun j=>decide (j=t) || (List.range n).any fun k=>cG[k]?.getD false&&b2[k]?.getD 0==(j:Int)) (fun k=>cG[k]?.getD false) (fun j aX qN k aj aY=>by
    simp at qN
    rcases qN with rfl | ⟨b5,a1,a3,bG⟩
    ·exact o k aj aY
    ·obtain⟨ea,a7,iA,cH⟩:=bE b5 a1 a3
     have:ea=j:=by omega
     subst this
     exact cH k aj aY)
   have hl:=Qm (n:=n) (p:=fun j=>decide (j=t) || (List.range n).any fun k=>cG[k]?.getD false&&b2[k]?.getD 0==(j:Int)) (l:=t::((List.range n).filter fun k=>cG[k]?.getD false).map fun k=>(b2[k]?.getD 0).toNat) (by
    have DR:∀k:Nat,k<n->cG[k]?.getD false=true->∃j:Nat,j<t/\b2[k]?=some (j:Int):=fun k aj ao=>by
     obtain⟨j,a1,a3,-⟩:=bE k aj ao
     have je:k<b2.length:=by rw[h.ok.1];exact aj
     have hm:b2[k]?=some (j:Int):=by rw[bJ je]at a3⊢;simpa using a3
     have:0<b2.count (j:Int):=List.count_pos_iff.2 (List.mem_of_getElem? hm)
     rw[h.qE]at this
     by_cases uL:j<t
     ·exact⟨j,uL,hm⟩
     ·rw[if_neg uL]at this;omega
    rw[List.nodup_cons]
    refine⟨fun hm=>?_,?_⟩
    ·simp at hm
     obtain⟨k,⟨a1,a3⟩,bG⟩:=hm
     obtain⟨j,a7,iA⟩:=DR k a1 a3
     rw[iA]at bG;simp at bG;omega
    ·rw[List.nodup_iff_pairwise_ne,List.pairwise_map]
     have m6:((List.range n).filter fun k=>cG[k]?.getD false).Nodup:=List.nodup_range.filter _
     refine List.Pairwise.imp_of_mem (fun{a b} aO ag uv=>?_) m6
     simp at aO ag
     obtain⟨ahX,a7,iA⟩:=DR a aO.1 aO.2
     obtain⟨ahY,cH,F_⟩:=DR b ag.1 ag.2
     rw[iA,F_]
     simp
     rintro rfl
     exact uv (EC (by rw[h.qE];split<;>omega) iA F_)) (fun x J=>by
    simp at J
    rcases J with rfl | ⟨k,⟨a1,a3⟩,bG⟩
    ·exact⟨bM,by simp⟩
    ·obtain⟨j,a7,iA,-⟩:=bE k a1 a3
     have:x=j:=by omega
     subst this
     exact⟨a7,by simp;exact .inr ⟨k,a1,a3,iA⟩⟩)
   rw[List.length_cons,List.length_map]at hl
   have:l6 n (fun k=>cG[k]?.getD false)=((List.range n).filter fun k=>cG[k]?.getD false).length:=rfl
   omega
 obtain⟨a1,-,bG⟩:=ay.yes ag
 refine⟨ag,a1,fun j=>?_⟩
 rw[bG,h.qE]
 by_cases o:j<t
 ·rw[if_pos o,if_neg (by omega),if_pos (by omega)]
 ·by_cases aa:j=t
  ·rw[if_neg o,if_pos aa,if_pos (by omega)]
  ·rw[if_neg o,if_neg aa,if_neg (by omega)]
structure lu (n:Nat) (p:List Int):Prop where
 len:p.length=n
 dN:∀k,k<n->∃j:Nat,j<n/\p[k]?=some (j:Int)
 qE:∀j,j<n->p.count (j:Int)=1
theorem mM.perm{n:Nat}{A:Nat->Nat->Rat}{b2:List Int}(h:mM n A n b2):lu n b2/\∀k j:Nat,k<n->b2[k]?=some (j:Int)->0<A j k:=by
 have h6:∀k,k<n->∃j:Nat,j<n/\b2[k]?=some (j:Int)/\0<A j k:=by
  intro k aj
  have je:k<b2.length:=by rw[h.ok.1];exact aj
  rcases h.ok.2 k aj with o | ⟨j,a1,a3,bG⟩
  ·exfalso
   have hm:(-1:Int)∈b2:=by
    rw[bJ je]at o
    simp at o
    exact o▸List.getElem_mem je
   have:=EW (l:=(-1:Int)::(List.range n).map Int.ofNat) (c_:=b2) (by
    rw[List.nodup_cons]
    refine⟨by simp,?_⟩
    rw[List.nodup_iff_pairwise_ne,List.pairwise_map]
    exact List.Pairwise.imp (fun{a b} uv=>by simp only[Int.ofNat_eq_natCast,ne_eq];omega) List.nodup_range) (fun x J=>by
    simp at J
    rcases J with rfl | ⟨j,a1,rfl⟩
    ·exact hm
    ·have:=h.qE j
     rw[if_pos a1]at this
     exact List.count_pos_iff.1 (by rw[this];omega))
   rw[List.length_cons,List.length_map,List.length_range,h.ok.1]at this
   omega
  ·exact⟨j,a1,by rw[bJ je]at a3⊢;simpa using a3,bG⟩
 refine⟨⟨h.ok.1,fun k aj=>?_,fun j aX=>by rw[h.qE,if_pos aX]⟩,fun k j aj aX=>?_⟩
 ·obtain⟨j,a1,a3,-⟩:=h6 k aj
  exact⟨j,a1,a3⟩
 ·obtain⟨ea,a1,a3,bG⟩:=h6 k aj
  rw[a3]at aX
  have:ea=j:=by simp at aX;omega
  exact this▸bG
theorem lu.at{n:Nat}{p:List Int}(h:lu n p){j:Nat}(aX:j<n):∃k,k<n/\p[k]?=some (j:Int)/\∀b5,p[b5]?=some (j:Int)->b5=k:=by
 have o:=h.qE j aX
 have hm:(j:Int)∈p:=List.count_pos_iff.1 (by rw[o];omega)
 obtain⟨k,aj⟩:=List.mem_iff_getElem?.1 hm
 refine⟨k,?_,aj,fun b5 ml=>EC (by rw[o];omega) ml aj⟩
 have:=(cK.1 aj).1
 rw[h.len]at this;exact this
def gi(p:Rat×List Int)(i k:Nat):Rat:=if p.2[k]?=some (i:Int)then p.1 else 0
def gw:List (Rat×List Int)->Nat->Nat->Rat
 | [],_,_=>0
 | p::aW,i,k=>gi p i k+gw aW i k
theorem E7(a b:List (Rat×List Int))(i k:Nat):gw (a++b) i k=gw a i k+gw b i k:=by
 induction a with
 | nil=>simp[gw];grind
 | cons p a a2=>simp only[List.cons_append,gw];rw[a2];grind
def du:List (Rat×List Int)->Rat
 | []=>0
 | p::aW=>p.1+du aW
theorem E5(a b:List (Rat×List Int)):du (a++b)=du a+du b:=by
 induction a with
 | nil=>simp[du];grind
 | cons p a a2=>simp only[List.cons_append,du];rw[a2];grind
theorem lu.row{n:Nat}{p:Rat×List Int}(h:lu n p.2){i:Nat}(ae:i<n):bS n (fun k=>gi p i k)=p.1:=by
 obtain⟨k,aj,uN,VI⟩:=h.at ae
 have:bS n (fun b5=>gi p i b5)=bS n (fun b5=>if b5=k then p.1 else 0):=by
  apply g3
  intro b5 ml
  unfold gi
  by_cases o:b5=k
  ·subst o;simp[uN]
  ·rw[if_neg o,if_neg fun aa=>o (VI b5 aa)]
 rw[this,rG k (fun _=>p.1),if_pos aj]
theorem lu.qF{n:Nat}{p:Rat×List Int}(h:lu n p.2){k:Nat}(aj:k<n):bS n (fun i=>gi p i k)=p.1:=by
 obtain⟨j,aX,uN⟩:=h.dN k aj
 have:bS n (fun i=>gi p i k)=bS n (fun i=>if i=j then p.1 else 0):=by
  apply g3
  intro i ae
  unfold gi
  rw[uN]
  by_cases o:i=j
  ·subst o;simp
  ·rw[if_neg o,if_neg];simp;omega
 rw[this,rG j (fun _=>p.1),if_pos aX]
def ll:Nat->(Nat->Nat)->Nat
 | 0,_=>0
 | n+1,f=>ll n f+f n
theorem Br{n:Nat}{f g:Nat->Nat}(h:∀i,i<n->f i<=g i):ll n f<=ll n g:=by
 induction n with
 | zero=>simp[ll]
 | succ n a2=>simp only[ll];have:=a2 fun i ae=>h i (by omega);have:=h n (by omega);omega
theorem Oh{n:Nat}{f g:Nat->Nat}(h:∀i,i<n->f i<=g i){j:Nat}(aX:j<n)(a6:f j<g j):ll n f<ll n g:=by
 induction n with
 | zero=>omega
 | succ n a2=>
  simp only[ll]
  have o:=Br (n:=n) fun i ae=>h i (by omega)
  have aa:=h n (by omega)
  by_cases n6:j=n
  ·subst n6;omega
  ·have:=a2 (fun i ae=>h i (by omega)) (by omega);omega
def np(n:Nat)(B:Nat->Nat->Rat):Nat:=ll n fun i=>ll n fun k=>if 0<B i k then 1 else 0
theorem NB(n:Nat)(B:Nat->Nat->Rat):np n B<=n*n:=by
 have o:∀m (f:Nat->Nat) (c:Nat),(∀i,f i<=c)->ll m f<=m*c:=by
  intro m f c ay
  induction m with
  | zero=>simp[ll]
  | succ m a2=>simp only[ll];have:=ay m;rw[Nat.succ_mul];omega
 exact o n _ n fun i=>by
  have:=o n (fun k=>if 0<B i k then 1 else 0) 1 fun k=>by split<;>omega
  omega
structure ku (n:Nat) (B:Nat->Nat->Rat) (L:Rat):Prop where
 iS:∀i k,i<n->k<n->0<=B i k
 row:∀i,i<n->bS n (B i)=L
 qF:∀k,k<n->bS n (fun i=>B i k)=L
def kk(B:Nat->Nat->Rat)(p:Rat×List Int)(i k:Nat):Rat:=B i k-gi p i k
theorem Oj(n:Nat)(f g:Nat->Rat):bS n (fun i=>f i-g i)=bS n f-bS n g:=by
 induction n with
 | zero=>simp[bS];grind
 | succ n a2=>simp only[bS];rw[a2];grind
theorem ku.less{n:Nat}{B:Nat->Nat->Rat}{L:Rat}(h:ku n B L){p:Rat×List Int}(aY:lu n p.2)(aH:0<p.1)(hle:∀k j:Nat,k<n->p.2[k]?=some (j:Int)->p.1<=B j k)(jy:∃k j:Nat,k<n/\j<n/\p.2[k]?=some (j:Int)/\p.1=B j k):
  ku n (kk B p) (L-p.1)/\np n (kk B p)<np n B:=by
 have sF:∀i k,i<n->k<n->0<=kk B p i k:=fun i k ae aj=>by
  unfold kk gi
  split
  ·rename_i aX
   have:=hle k i aj aX
   grind
  ·have:=h.iS i k ae aj
   grind
 refine⟨⟨sF,fun i ae=>?_,fun k aj=>?_⟩,?_⟩
 ·have:bS n (kk B p i)=bS n (fun k=>B i k-gi p i k):=rfl
  rw[this,Oj,h.row i ae,aY.row ae]
 ·have:bS n (fun i=>kk B p i k)=bS n (fun i=>B i k-gi p i k):=rfl
  rw[this,Oj,h.qF k aj,aY.qF aj]
 ·obtain⟨k,j,aj,aX,uN,e⟩:=jy
  have DF:∀i k,i<n->k<n->(if 0<kk B p i k then 1 else 0)<=(if 0<B i k then 1 else 0):=fun i k ae aj=>by
   by_cases o:0<kk B p i k
   ·have:0<B i k:=by
     unfold kk gi at o
     split at o<;>grind
    simp[o,this]
   ·simp[o]
  refine Oh (fun i ae=>Br fun k aj=>DF i k ae aj) aX (Oh (fun k aj=>DF j k aX aj) aj ?_)
  have o:¬0<kk B p j k:=by unfold kk gi;rw[if_pos uN,e];grind
  have aa:0<B j k:=by rw[<-e];exact aH
  simp[o,aa]
theorem ku.none{n:Nat}{B:Nat->Nat->Rat}(h:ku n B 0){i k:Nat}(ae:i<n)(aj:k<n):B i k=0:=by
 have o:=FC (f:=B i) (fun k aj=>h.iS i k ae aj) aj
 rw[h.row i ae]at o
 have:=h.iS i k ae aj
 grind
structure mJ (n:Nat) (A:Nat->Nat->Rat) (L:Rat) (aW:List (Rat×List Int)) (B:Nat->Nat->Rat):Prop where
 kG:ku n B (L-du aW)
 parts:∀p∈aW,0<p.1/\lu n p.2
 sum:∀i k,i<n->k<n->A i k=gw aW i k+B i k
 mU:np n B+aW.length<=np n A
theorem mJ.zero{n:Nat}{A:Nat->Nat->Rat}{L:Rat}(h:ku n A L):mJ n A L [] A:=
 ⟨by have:L-du []=L:=by simp[du];grind
     rw[this];exact h,by simp,fun i k _ _=>by simp[gw];grind,by simp⟩
theorem mJ.next{n:Nat}{A:Nat->Nat->Rat}{L:Rat}{aW:List (Rat×List Int)}{B:Nat->Nat->Rat}(h:mJ n A L aW B){p:Rat×List Int}(aY:lu n p.2)(aH:0<p.1)(hle:∀k j:Nat,k<n->p.2[k]?=some (j:Int)->p.1<=B j k)(jy:∃k j:Nat,k<n/\j<n/\p.2[k]?=some (j:Int)/\p.1=B j k):
  mJ n A L (aW++[p]) (kk B p):=by
 obtain⟨o,aa⟩:=h.kG.less aY aH hle jy
 refine⟨?_,fun q av=>?_,fun i k ae aj=>?_,?_⟩
 ·rw[E5]
  have:L-(du aW+du [p])=L-du aW-p.1:=by simp[du];grind
  rw[this];exact o
 ·simp at av
  rcases av with av | rfl
  ·exact h.parts q av
  ·exact⟨aH,aY⟩
 ·rw[E7,h.sum i k ae aj]
  simp[gw,kk]
  grind
 ·have:=h.mU
  simp
  omega
structure rS (n:Nat) (A:Nat->Nat->Rat) (L:Rat) (aW:List (Rat×List Int)):Prop where
 parts:∀p∈aW,0<p.1/\lu n p.2
 sum:∀i k,i<n->k<n->gw aW i k=A i k
 len:du aW=L
 mU:aW.length<=n*n
theorem mJ.end{n:Nat}{A:Nat->Nat->Rat}{L:Rat}{aW:List (Rat×List Int)}{B:Nat->Nat->Rat}(aG:0<n)(h:mJ n A L aW B)(aM:¬0<L-du aW):rS n A L aW:=by
 have aH:0<=L-du aW:=by
  have:=FD (n:=n) (f:=B 0) fun k aj=>h.kG.iS 0 k aG aj
  rw[h.kG.row 0 aG]at this
  exact this
 have e:L-du aW=0:=by grind
 have ar:=h.kG
 rw[e]at ar
 refine⟨h.parts,fun i k ae aj=>?_,by grind,?_⟩
 ·rw[h.sum i k ae aj,ar.none ae aj];exact(Rat.add_zero _).symm
 ·have:=h.mU
  have:=NB n A
  omega
theorem E6{aW:List (Rat×List Int)}(h:∀p∈aW,0<p.1):0<=du aW/\∀p∈aW,p.1<=du aW:=by
 induction aW with
 | nil=>simp[du]
 | cons q aW a2=>
  obtain⟨o,aa⟩:=a2 fun p aY=>h p (by simp[aY])
  have aA:=h q (by simp)
  simp only[du]
  refine⟨by grind,fun p aY=>?_⟩
  simp at aY
  rcases aY with rfl | aY
  ·grind
  ·have:=aa p aY;grind
def gE(n m:Nat)(A:Nat->Nat->Rat)(top:Rat)(i k:Nat):Rat:=
 if i<n then(if k<m then A i k else if k=m+i then top-bS m (A i)else 0)
 else(if k<m then(if k=i-n then top-bS n (fun jE=>A jE k)else 0)else A (k-m) (i-n))
theorem aam{n m:Nat}{A:Nat->Nat->Rat}{top:Rat}(aH:∀i k,i<n->k<m->0<=A i k)(al:∀i,i<n->bS m (A i)<=top)(ad:∀k,k<m->bS n (fun i=>A i k)<=top):ku (n+m) (gE n m A top) top:=by
 refine⟨fun i k ae aj=>?_,fun i ae=>?_,fun k aj=>?_⟩
 ·unfold gE
  split
  ·rename_i o
   split
   ·exact aH i k o ‹_›
   ·split
    ·have:=al i o;grind
    ·grind
  ·split
   ·split
    ·have:=ad k ‹_›;grind
    ·grind
   ·exact aH _ _ (by omega) (by omega)
 ·by_cases o:i<n
  ·rw[Nat.add_comm,FE]
   have bk:bS m (gE n m A top i)=bS m (A i):=g3 fun k aj=>by simp[gE,o,aj]
   have bg:bS n (fun k=>gE n m A top i (m+k))=bS n (fun k=>if k=i then top-bS m (A i)else 0):=g3 fun k aj=>by
    simp[gE,o];intro;omega
   rw[bk,bg,rG i (fun _=>top-bS m (A i)),if_pos o];grind
  ·rw[Nat.add_comm,FE]
   have bk:bS m (gE n m A top i)=bS m (fun k=>if k=i-n then top-bS n (fun jE=>A jE k)else 0):=g3 fun k aj=>by simp[gE,o,aj]
   have bg:bS n (fun k=>gE n m A top i (m+k))=bS n (fun jE=>A jE (i-n)):=g3 fun k aj=>by
    simp[gE,o];intro;omega
   rw[bk,bg,rG (i-n) (fun k=>top-bS n (fun jE=>A jE k)),if_pos (by omega)];grind
 ·rw[FE]
  by_cases o:k<m
  ·have bk:bS n (fun i=>gE n m A top i k)=bS n (fun i=>A i k):=g3 fun i ae=>by simp[gE,o,ae]
   have bg:bS m (fun i=>gE n m A top (n+i) k)=bS m (fun i=>if i=k then top-bS n (fun jE=>A jE k)else 0):=g3 fun i ae=>by
    simp[gE,o,show¬n+i<n by omega,show n+i-n=i by omega,eq_comm]
   rw[bk,bg,rG k (fun _=>top-bS n (fun jE=>A jE k)),if_pos o];grind
  ·have bk:bS n (fun i=>gE n m A top i k)=bS n (fun i=>if i=k-m then top-bS m (A i)else 0):=g3 fun i ae=>by
    simp[gE,o,ae]
    congr 1
    simp;omega
   have bg:bS m (fun i=>gE n m A top (n+i) k)=bS m (A (k-m)):=g3 fun i ae=>by
    simp[gE,o,show¬n+i<n by omega,show n+i-n=i by omega]
   rw[bk,bg,rG (k-m) (fun i=>top-bS m (A i)),if_pos (by omega)];grind
def jN(n m:Nat)(p:List Int):List Int:=(p.take m).map fun j=>if(n:Int)<=j then-1 else j
structure nF (n m:Nat) (l:List Int):Prop where
 len:l.length=m
 NW:∀k,k<m->l[k]?=some (-1)\/∃j:Nat,j<n/\l[k]?=some (j:Int)
 inj:∀j:Nat,j<n->l.count (j:Int)<=1
theorem Ck{n m:Nat}{p:List Int}(k:Nat):(jN n m p)[k]?=if k<m then(p[k]?).map fun j=>if(n:Int)<=j then-1 else j else none:=by
 unfold jN
 rw[List.getElem?_map,List.getElem?_take]
 split<;>rfl
theorem Qv{n m:Nat}{p:List Int}{k i:Nat}(aj:k<m)(ae:i<n):(jN n m p)[k]?=some (i:Int)↔p[k]?=some (i:Int):=by
 rw[Ck,if_pos aj]
 cases h:p[k]? with
 | none=>simp
 | some j=>
  simp
  split
  ·constructor<;>intro h<;>omega
  ·exact Iff.rfl
theorem lu.cut{n m:Nat}{p:List Int}(h:lu (n+m) p):nF n m (jN n m p):=by
 refine⟨by simp[jN,h.len],fun k aj=>?_,fun j aX=>?_⟩
 ·obtain⟨j,a1,a3⟩:=h.dN k (by omega)
  rw[Ck,if_pos aj,a3]
  by_cases n6:j<n
  ·exact .inr ⟨j,n6,by simp;omega⟩
  ·exact .inl (by simp;omega)
 ·have o:=h.qE j (by omega)
  have aa:(jN n m p).count (j:Int)<=(p.take m).count (j:Int):=by
   unfold jN
   generalize p.take m=l
   induction l with
   | nil=>simp
   | cons x l a2=>
    simp only[List.map_cons,List.count_cons]
    by_cases J:(n:Int)<=x
    ·simp[J];omega
    ·simp[J];omega
  have aA:(p.take m).count (j:Int)<=p.count (j:Int):=(List.take_sublist m p).count_le _
  omega
structure yU (n m:Nat) (A:Nat->Nat->Rat) (L:Rat) (aW:List (Rat×List Int)):Prop where
 Bl:∀p∈aW,0<p.1/\nF n m p.2
 sum:∀i k,i<n->k<m->gw aW i k=A i k
 len:du aW=L
 mU:aW.length<=(n+m)*(n+m)
theorem rS.Y1{n m:Nat}{A:Nat->Nat->Rat}{top:Rat}{aW:List (Rat×List Int)}(h:rS (n+m) (gE n m A top) top aW):yU n m A top (aW.map fun p=>(p.1,jN n m p.2)):=by
 refine⟨fun p aY=>?_,fun i k ae aj=>?_,?_,by simpa using h.mU⟩
 ·simp at aY
  obtain⟨a,b,q,rfl⟩:=aY
  obtain⟨o,aa⟩:=h.parts _ q
  exact⟨o,aa.cut⟩
 ·have o:=h.sum i k (by omega) (by omega)
  have aa:gE n m A top i k=A i k:=by simp[gE,ae,aj]
  rw[aa]at o
  rw[<-o]
  generalize aW=l
  induction l with
  | nil=>rfl
  | cons p l a2=>
   simp only[List.map_cons,gw]
   rw[a2]
   congr 1
   unfold gi
   simp only[Qv aj ae]
 ·rw[<-h.len]
  generalize aW=l
  induction l with
  | nil=>rfl
  | cons p l a2=>
   simp only[List.map_cons,du]
   rw[a2]
end Go.cJ
end
section
set_option maxRecDepth 8000
set_option maxHeartbeats 1000000
namespace Go.cJ
open Go.Proofs
open Go.Proofs.Tryz (prog)
attribute [-simp] hq hX jG
theorem Row.YJ{α:Type}{e U:Nat}{aC:Bool}{af:ab->Value->α->Prop}{H:ab}{n c:Nat}{xs:List α}(h:Row e U aC af H (.slice none n c) xs):xs=[]:=by
 obtain⟨cs,⟨a,cap,an,o,aa,aA⟩,bo⟩:=h
 simp at an
 obtain⟨rfl,rfl,rfl⟩:=an
 by_cases ad:0<c
 ·obtain⟨b,i,X,all,q,-⟩:=aA ad
  cases q
 ·exact List.eq_nil_of_length_eq_zero (by omega)
theorem Ql{v:Value}{xs:List Rat}{H:ab}(aQ:iW H v xs)(ar:xs.length<65536):
  aP prog 85 [v] H (fun u H1=>Ext H H1/\bB H.length 80 4 true ca H1 u xs):=by
 refine aP.b9 fun Q aE=>?_
 apply XO (by simp)
 obtain⟨a,c,rfl⟩:=Row.len aQ
 simp[Ic]
 refine bH.mk (fun aG=>?_) (fun aG=>?_)
 ·have:a=none:=by simpa using aG
  subst this
  have:=Row.YJ aQ
  subst this
  simp[bf]
  exact aE _ _ ⟨Ext.refl H,bB.nil _ _ _ _ _ _⟩
 ·refine pc (e:=80) (U:=4) (by simp) (by simp) ?_
  simp
  refine yr (k:=H.length) (e:=80) (U:=4) (aC:=true) (bA:=64) (z:= .agg #[.bool false,.slice none 0 0,.bool false,.slice none 0 0]) (af:=ca) (xs:=[]) (bO:=xs) (by simpa using bB.void _ _ _ _ _ _ _) (by simpa using aQ) (fun u y h=>h.whole) (fun aF dv u y aj h=>h.kept aj (by decide)) (by simp) (by simp) (by simp) (by simp) (by simp) (by rfl) (by rfl) (by rfl) (by decide) (by simp;omega) (by omega) ?_
  intro w H1 cy J aj
  simp[bf]
  exact aE _ _ ⟨J _ (Nat.le_refl _) (Ext.refl H),by simpa using cy⟩
def bZ(t:List (List Rat))(i k:Nat):Rat:=(t[i]?.getD [])[k]?.getD 0
structure hO (ft H:ab) (gR n:Nat) (g4 gB gj:Value) (t:List (List Rat)) (b2:List Int) (dn:List Bool):Prop where
 pos:0<ft.length
 ext:Ext ft H
 kJ:hC ft g4 t
 vq:t.length=n
 vm:∀r∈t,r.length=n
 small:n<65536
 x4:ft.length<=gR
 e0:H[gR]?=some (.own 140 false [g4,gB,gj])
 oo:bB ft.length 3 1 false IR H gB b2
 seen:bB ft.length 4 1 false pg H gj dn
theorem hO.more{ft H H1:ab}{gR n:Nat}{g4 gB gj:Value}{t:List (List Rat)}{b2:List Int}{dn:List Bool}(h:hO ft H gR n g4 gB gj t b2 dn)(J:Ext H H1):hO ft H1 gR n g4 gB gj t b2 dn:=
 ⟨h.pos,h.ext.aw J,h.kJ,h.vq,h.vm,h.small,h.x4,J.get_some h.e0,b7.ext (af:=bB _ _ _ _ IR) h.oo J,b7.ext (af:=bB _ _ _ _ pg) h.seen J⟩
theorem hO.ZV{ft H aF:ab}{gR n:Nat}{g4 gB gj:Value}{t:List (List Rat)}{b2:List Int}{dn cG:List Bool}(h:hO ft H gR n g4 gB gj t b2 dn)(J:∀cx:ab,cx.length<=ft.length->Ext cx H->Ext cx aF)(aj:Kept H aF gj 4)(cy:bB ft.length 4 1 false pg aF gj cG):hO ft aF gR n g4 gB gj t b2 cG:=
 ⟨h.pos,J _ (Nat.le_refl _) h.ext,h.kJ,h.vq,h.vm,h.small,h.x4,aj _ _ h.e0 (fun _=>by simp[bI.elem?]),h.oo.other aj (by decide) fun _ _ h=>h,cy⟩
theorem hO.X8{ft H aF:ab}{gR n:Nat}{g4 gB gj:Value}{t:List (List Rat)}{b2 ha:List Int}{dn:List Bool}(h:hO ft H gR n g4 gB gj t b2 dn)(J:∀cx:ab,cx.length<=ft.length->Ext cx H->Ext cx aF)(aj:Kept H aF gB 3)(cy:bB ft.length 3 1 false IR aF gB ha):hO ft aF gR n g4 gB gj t ha dn:=
 ⟨h.pos,J _ (Nat.le_refl _) h.ext,h.kJ,h.vq,h.vm,h.small,h.x4,aj _ _ h.e0 (fun _=>by simp[bI.elem?]),cy,h.seen.other aj (by decide) fun _ _ h=>h⟩
theorem ym{q:Rat}:((if q<0 then(-1:Int)else if q=0 then 0 else 1)<=0)↔q<=0:=by
 by_cases o:q<0
 ·simp[o,Rat.le_of_lt o]
 ·by_cases aa:q=0
  ·simp[aa]
  ·simp only[if_neg o,if_neg aa]
   constructor
   ·intro h;omega
   ·intro h;exact absurd (Std.lt_of_le_of_ne h aa) o
theorem find_spec(n:Nat):∀(fuel:Nat) {ft H:ab} {gR dN:Nat} {g4 gB gj:Value} {t:List (List Rat)} {b2:List Int} {dn:List Bool},pd dn<fuel->hO ft H gR n g4 gB gj t b2 dn->dn.length=n->qu n (bZ t) b2->dN<n->
  aP prog 86 [.pointer (some ⟨gR,0,none⟩),.int .i64 dN] H (fun u H1=>∃b ha cG,u= .bool b/\qp n (bZ t) b2 dn dN b ha cG/\hO ft H1 gR n g4 gB gj t ha cG):=by
 intro fuel
 induction fuel with
 | zero=>intro ft H gR dN g4 gB gj t b2 dn h;omega
 | succ fuel a2=>
  intro ft H gR dN g4 gB gj t b2 dn ag9 bE lO jb sz
  refine aP.b9 fun Q aE=>?_
  apply XA (by simp)
  have nZ:=bE.e0
  have bc:=bE.kJ.ext bE.ext
  obtain⟨er,y4,rfl⟩:=Row.len bE.kJ
  obtain⟨fz,g9⟩:∃fz,t[0]?=some fz:=⟨_,bJ (by have:=bE.vq;omega)⟩
  have q7:=bE.vm fz (List.mem_of_getElem? g9)
  have n6:=bE.small
  simp[H4,nZ]
  refine aV.mk (EN bc g9) ?_
  rintro u H1 ⟨bx,rfl⟩
  rw[q7]
  have hk:=bE.more bx
  simp
  refine dF.range (by kernel_rfl) n (by omega) (by simp) (by rfl) (by simp) (by decide) (by decide) (fun i dh ey bP=>∃cG,jJ n (bZ t) b2 dn dN i cG/\hO ft bP gR n (.slice er t.length y4) gB gj t b2 cG) ?_ ?_ ?_
  ·exact⟨dn,jJ.zero lO,hk⟩
  ·rintro i dh ey bP ae a5 ⟨cG,eu,me⟩ K a0
   simp at a5
   have Ku:=me.e0
   have hP:=me.kJ.ext me.ext
   obtain⟨bi,mh⟩:∃bi,cG[i]?=some bi:=⟨_,bJ (by rw[eu.len];exact ae)⟩
   refine cc.join (by kernel_rfl) (fun fS hz cb=>∃cG,jJ n (bZ t) b2 dn dN (i+1) cG/\hO ft cb gR n (.slice er t.length y4) gB gj t b2 cG) ?_ ?_
   ·rintro ef jw J9
    simp[a5]
    refine cc.join (by kernel_rfl) (fun fS hz cb=>fS 35= .bool (bi || decide (bZ t dN i<=0))/\hO ft cb gR n (.slice er t.length y4) gB gj t b2 cG) ?_ ?_
    ·rintro cT dT-
     simp[Ku]
     refine dc (af:=pg) (xs:=cG) (n:=i) (a:=bi) (e:=4) (U:=1) (aC:=false) (by simpa using me.seen.row) (by simp) mh (by simp) (by simp) (by simp) (by decide) ?_
     rintro dm mF rfl
     cases bi with
     | true=>
      simp
      exact dT _ _ _ ⟨by simp,me⟩
     | false=>
      obtain⟨row,fj⟩:∃row,t[dN]?=some row:=⟨_,bJ (by rw[bE.vq];exact sz)⟩
      obtain⟨q,av⟩:∃q,row[i]?=some q:=⟨_,bJ (by rw[bE.vm row (List.mem_of_getElem? fj)];exact ae)⟩
      have TT:bZ t dN i=q:=by simp[bZ,fj,av]
      simp[Ku]
      refine ys (af:=iW) (xs:=t) (n:=dN) (a:=row) (e:=120) (U:=1) (aC:=false) (by simp) (by decide) (by simpa using hP) (by simp) fj (by simp) (by simp) (by simp) (by decide) ?_
      intro fZ ln mw
      simp
      refine ys (af:=ca) (xs:=row) (n:=i) (a:=q) (e:=80) (U:=4) (aC:=true) (by simp) (by decide) (by simpa using mw) (by simp) av (by simp) (by simp) (by simp) (by decide) ?_
      intro eM rN oZ
      simp
      refine aV.mk (Fg oZ) ?_
      rintro w cb ⟨c0,rfl⟩
      simp
      refine dT _ _ _ ⟨?_,me.more c0⟩
      simp[TT,ym]
    ·rintro fS hz cb ⟨JP,uf⟩
     simp at JP
     have TB:=uf.e0
     simp[JP]
     refine bH.mk (fun ag=>?_) (fun ag=>?_)
     ·refine jw _ _ _ ⟨cG,eu.skip ?_,uf⟩
      simp at ag
      rw[mh]
      rcases ag with ag | ag
      ·exact .inl (by simp[ag])
      ·exact .inr ag
     ·simp at ag
      have aY:0<bZ t dN i:=Rat.not_le.1 ag.2
      have h7:cG[i]?.getD false=false:=by rw[mh];simp[ag.1]
      simp[a5,TB]
      refine kK (k:=ft.length) (e:=4) (U:=1) (aC:=false) (n:=i) (af:=pg) (xs:=cG) (a:=true) (by simpa using uf.seen) (by simp) (by rw[eu.len];exact ae) (by simp[pg]) (by simpa using Pg true) (by simp) (fun _ _ _ _ _ h=>h) (by simp) (by simp) (by simp) (by decide) ?_
      rintro gC dQ jx cL sC ahn-
      simp at jx sC
      have sk:=uf.ZV cL sC jx
      have Kv:=sk.e0
      obtain⟨z,aM⟩:∃z,b2[i]?=some z:=⟨_,bJ (by rw[jb.1];exact ae)⟩
      have xR:b2[i]?.getD 0=z:=by rw[aM];rfl
      have pW:=adf (i:=i) (by rw[eu.len];exact ae) h7
      have ahL:pd cG<=pd dn:=O1 (by rw[eu.len,lO]) eu.mono
      simp
      refine cc.join (by kernel_rfl) (fun nA mK cS=>∃b rm pa,nA 60= .bool b/\hO ft cS gR n (.slice er t.length y4) gB gj t rm pa/\rm.length=n/\(b=false->rm=b2/\jJ n (bZ t) b2 dn dN (i+1) pa)/\(b=true->qp n (bZ t) b2 dn dN true (rm.set i (dN:Int)) pa)) ?_ ?_
      ·rintro nG fX-
       simp[a5,Kv]
       refine dc (af:=IR) (xs:=b2) (n:=i) (a:=z) (e:=3) (U:=1) (aC:=false) (by simpa using sk.oo.row) (by simp) aM (by simp) (by simp) (by simp) (by decide) ?_
       rintro iv mG rfl
       by_cases xP:z<0
       ·simp[xP]
        refine fX _ _ _ ⟨true,b2,cG.set i true,by simp,sk,jb.1,fun h=>(by cases h),fun _=>eu.free jb ae sz aY h7 (by rw[xR];exact xP)⟩
       ·obtain⟨j,aX,Ez,-⟩:∃j:Nat,j<n/\z=j/\0<bZ t j i:=by
         rcases jb.2 i ae with h | h
         ·rw[xR]at h;omega
         ·rw[xR]at h;exact h
        simp[xP,Kv]
        refine ys (af:=IR) (xs:=b2) (n:=i) (a:=z) (e:=3) (U:=1) (aC:=false) (by simp) (by decide) (by simpa using sk.oo.row) (by simp) aM (by simp) (by simp) (by simp) (by decide) ?_
        rintro nn vv rfl
        simp[Ez]
        refine aV.mk (a2 (dn:=cG.set i true) (by omega) sk (by simp[eu.len]) jb aX) ?_
        rintro w eN ⟨b,rm,pa,rfl,br,ug⟩
        simp
        refine fX _ _ _ ⟨b,rm,pa,by simp,ug,?_,?_,?_⟩
        ·cases b with
         | false=>rw[(br.no rfl).1];exact jb.1
         | true=>exact(br.yes rfl).1.1
        ·rintro rfl
         exact eu.fail ae h7 aX (by rw[xR,Ez]) br
        ·rintro rfl
         exact eu.ES jb ae sz aY h7 (by rw[xR,Ez]) br
      ·rintro nA mK cS ⟨b,rm,pa,JU,zF,eV,Ty,pH⟩
       simp at JU
       have TC:=zF.e0
       simp[JU]
       refine bH.mk (fun ag=>?_) (fun ag=>?_)
       ·simp[a5,TC]
        refine kK (k:=ft.length) (e:=3) (U:=1) (aC:=false) (n:=i) (af:=IR) (xs:=rm) (a:=(dN:Int)) (by simpa using zF.oo) (by simp) (by rw[eV];exact ae) (by simp[IR]) (by simpa using j8 dN) (by simp) (fun _ _ _ _ _ h=>h) (by simp) (by simp) (by simp) (by decide) ?_
        rintro ru eN eH c1 n8 qZ-
        simp at eH n8
        have ug:=zF.X8 c1 n8 eH
        simp
        refine J9 _ _ _ _ (by simp) ?_
        simp[bf]
        exact aE _ _ ⟨true,_,pa,rfl,pH ag,ug⟩
       ·obtain⟨rfl,Sh⟩:=Ty ag
        exact jw _ _ _ ⟨pa,Sh,zF⟩
   ·rintro fS hz cb ⟨pa,zy,uf⟩
    exact a0 _ _ _ (by simp[a5]) ⟨pa,zy,uf⟩
  ·rintro dh ey bP a5 ⟨cG,eu,me⟩
   simp[bf]
   exact aE _ _ ⟨false,b2,cG,rfl,eu.end,me⟩
def eY(D:Nat)(q:Rat):Prop:=∃z:Int,q*(D:Rat)=(z:Rat)
theorem eY.add{D:Nat}{a b:Rat}(aO:eY D a)(ag:eY D b):eY D (a+b):=by
 obtain⟨x,J⟩:=aO
 obtain⟨y,aL⟩:=ag
 exact⟨x+y,by rw[Rat.intCast_add,<-J,<-aL];grind⟩
theorem eY.sub{D:Nat}{a b:Rat}(aO:eY D a)(ag:eY D b):eY D (a-b):=by
 obtain⟨x,J⟩:=aO
 obtain⟨y,aL⟩:=ag
 exact⟨x-y,by rw[Rat.intCast_sub,<-J,<-aL];grind⟩
theorem eY.zero(D:Nat):eY D 0:=⟨0,by simp⟩
theorem eY.int(z:Int):eY 1 (z:Rat):=⟨z,by simp⟩
structure l2 (D N:Nat) (L:Rat):Prop where
 pos:0<D
 small:D<2^N
 top:∃z:Int,L*(D:Rat)<=(z:Rat)/\z.natAbs<2^N
 bits:N<=1000000
theorem l2.le{D N:Nat}{L Gw:Rat}(h:l2 D N L)(ar:Gw<=L):l2 D N Gw:=by
 obtain⟨z,aM,dg⟩:=h.top
 exact⟨h.pos,h.small,⟨z,Rat.le_trans (Rat.mul_le_mul_of_nonneg_right ar (by exact_mod_cast Nat.zero_le D)) aM,dg⟩,h.bits⟩
theorem l2.U{D N:Nat}{L q:Rat}(h:l2 D N L)(av:eY D q)(aH:0<=q)(ar:q<=L):de N q:=by
 obtain⟨Pt,Wc,dg⟩:=h.top
 obtain⟨z,aM⟩:=av
 have eU:(0:Rat)<(D:Rat):=by exact_mod_cast h.pos
 have xP:0<=z:=by
  have:(0:Rat)<=(z:Rat):=by rw[<-aM];exact Rat.mul_nonneg aH (Rat.le_of_lt eU)
  exact_mod_cast this
 have iu:z<=Pt:=by
  have:(z:Rat)<=(Pt:Rat):=by
   rw[<-aM]
   exact Rat.le_trans (Rat.mul_le_mul_of_nonneg_right ar (Rat.le_of_lt eU)) Wc
  exact_mod_cast this
 have e:q=Rat.divInt z D:=by
  rw[Rat.divInt_eq_div,<-aM]
  have:((D:Int):Rat)=(D:Rat):=rfl
  rw[this,Rat.mul_div_cancel (by intro h;rw[h]at eU;exact Rat.lt_irrefl eU)]
 rw[e]
 exact de.divInt (by have:=h.pos;omega) (by omega) h.small
theorem l2.int{z:Int}{N:Nat}(aM:z.natAbs<2^N)(bX:0<N)(ag:N<=1000000):l2 1 N (z:Rat):=
 ⟨by decide,Nat.one_lt_two_pow (by omega),⟨z,by simp,aM⟩,ag⟩
theorem NK(r:List Rat)(k:Nat):hb (r.take k)=bS k (fun i=>r[i]?.getD 0):=by
 induction k with
 | zero=>simp[hb,bS]
 | succ k a2=>
  by_cases aj:k<r.length
  ·rw[NL (bJ aj),a2]
   simp[bS,bJ aj]
  ·have o:r.take (k+1)=r.take k:=by rw[List.take_of_length_le (by omega),List.take_of_length_le (by omega)]
   rw[o,a2]
   simp only[bS]
   rw[List.getElem?_eq_none (by omega)]
   exact(Rat.add_zero _).symm
theorem Zl{r:List Rat}{n:Nat}(h:r.length=n):hb r=bS n (fun i=>r[i]?.getD 0):=by
 rw[<-NK,List.take_of_length_le (by omega)]
theorem aaq{k n:Nat}{f:Nat->Rat}(h:k<=n)(aH:∀i,i<n->0<=f i):bS k f<=bS n f:=by
 induction n with
 | zero=>
  obtain rfl:k=0:=by omega
  exact Rat.le_refl
 | succ n a2=>
  by_cases aj:k<=n
  ·have:=a2 aj fun i ae=>aH i (by omega)
   have:=aH n (by omega)
   simp only[bS]
   grind
  ·obtain rfl:k=n+1:=by omega
   exact Rat.le_refl
structure fh (n m:Nat) (t:List (List Rat)):Prop where
 len:t.length=n
 row:∀r∈t,r.length=m
theorem fh.at{n m i:Nat}{t:List (List Rat)}(h:fh n m t)(ae:i<n):∃r,t[i]?=some r/\r∈t/\r.length=m/\(∀k,r[k]?.getD 0=bZ t i k)/\hb r=bS m (bZ t i):=by
 have cA:i<t.length:=by rw[h.len];exact ae
 refine⟨_,bJ cA,List.getElem_mem cA,h.row _ (List.getElem_mem cA),fun k=>by simp[bZ,bJ cA],?_⟩
 rw[Zl (h.row _ (List.getElem_mem cA))]
 apply g3
 intro k _
 simp[bZ,bJ cA]
theorem fh.get{n m i k:Nat}{t:List (List Rat)}(h:fh n m t)(ae:i<n)(aj:k<m):∃r,t[i]?=some r/\r[k]?=some (bZ t i k)/\r.length=m:=by
 obtain⟨r,a1,a3,bG,cn,-⟩:=h.at ae
 refine⟨r,a1,?_,bG⟩
 rw[<-cn,bJ (by omega)]
 rfl
theorem fh.mem{n m:Nat}{t:List (List Rat)}(h:fh n m t){r:List Rat}(al:r∈t):∃i,i<n/\t[i]?=some r:=by
 obtain⟨i,ae⟩:=List.mem_iff_getElem?.1 al
 exact⟨i,by have:=(cK.1 ae).1;rw[h.len]at this;exact this,ae⟩
def ik(D:Nat)(t:List (List Rat)):Prop:=∀r∈t,∀q∈r,eY D q
theorem ik.bZ{D:Nat}{t:List (List Rat)}(h:ik D t)(i k:Nat):eY D (bZ t i k):=by
 unfold Go.cJ.bZ
 cases al:t[i]? with
 | none=>exact eY.zero D
 | some r=>
  simp only[Option.getD_some]
  cases av:r[k]? with
  | none=>exact eY.zero D
  | some q=>exact h r (List.mem_of_getElem? al) q (List.mem_of_getElem? av)
theorem eY.sum{D n:Nat}{f:Nat->Rat}(h:∀i,i<n->eY D (f i)):eY D (bS n f):=by
 induction n with
 | zero=>exact eY.zero D
 | succ n a2=>exact(a2 fun i ae=>h i (by omega)).add (h n (by omega))
theorem FI{D N n m:Nat}{L:Rat}{t:List (List Rat)}(aB:fh n m t)(aU:ik D t)(eO:l2 D N L)(aH:∀i k,i<n->k<m->0<=bZ t i k)(al:∀i,i<n->bS m (bZ t i)<=L):tA N t:=by
 intro r sK
 obtain⟨i,ae,Az⟩:=aB.mem sK
 obtain⟨dP,a1,-,bG,cn,e5⟩:=aB.at ae
 have:dP=r:=by rw[Az]at a1;exact(Option.some.inj a1).symm
 subst this
 have key:∀k,k<=m->de N (hb (dP.take k)):=fun k aj=>by
  have e:hb (dP.take k)=bS k (bZ t i):=by
   rw[NK];exact g3 fun j _=>cn j
  rw[e]
  refine eO.U (eY.sum fun j _=>aU.bZ i j) (FD fun j aX=>aH i j ae (by omega)) ?_
  exact Rat.le_trans (aaq aj fun j aX=>aH i j ae aX) (al i ae)
 refine⟨fun k=>?_,fun q av=>?_⟩
 ·by_cases aj:k<=m
  ·exact key k aj
  ·have:=key m (Nat.le_refl m)
   rw[List.take_of_length_le (by omega)]at this⊢
   exact this
 ·obtain⟨k,aj⟩:=List.mem_iff_getElem?.1 av
  have kD:k<m:=by have:=(cK.1 aj).1;omega
  have e:q=bZ t i k:=by rw[<-cn,aj];rfl
  rw[e]
  refine eO.U (aU.bZ i k) (aH i k ae kD) (Rat.le_trans (FC (fun j aX=>aH i j ae aX) kD) (al i ae))
theorem ku.le{n:Nat}{B:Nat->Nat->Rat}{L:Rat}(h:ku n B L){i k:Nat}(ae:i<n)(aj:k<n):B i k<=L:=by
 rw[<-h.row i ae];exact FC (fun k aj=>h.iS i k ae aj) aj
theorem Bq{n:Nat}{f g:Nat->Nat}(h:∀i,i<n->f i=g i):ll n f=ll n g:=Nat.le_antisymm (Br fun i ae=>Nat.le_of_eq (h i ae)) (Br fun i ae=>Nat.le_of_eq (h i ae).symm)
theorem mJ.congr{n:Nat}{A B kM:Nat->Nat->Rat}{L:Rat}{aW:List (Rat×List Int)}(h:mJ n A L aW B)(e:∀i k,i<n->k<n->kM i k=B i k):mJ n A L aW kM:=by
 refine⟨⟨fun i k ae aj=>by rw[e i k ae aj];exact h.kG.iS i k ae aj,fun i ae=>?_,fun k aj=>?_⟩,h.parts,fun i k ae aj=>by rw[e i k ae aj];exact h.sum i k ae aj,?_⟩
 ·rw[<-h.kG.row i ae];exact g3 fun k aj=>e i k ae aj
 ·rw[<-h.kG.qF k aj];exact g3 fun i ae=>e i k ae aj
 ·have:np n kM=np n B:=Bq fun i ae=>Bq fun k aj=>by rw[e i k ae aj]
  rw[this];exact h.mU
def kH(f:Nat->Rat):Nat->Rat
 | 0=>f 0
 | n+1=>if f n<kH f n then f n else kH f n
theorem YB(f:Nat->Rat){n i:Nat}(ae:i<n):kH f n<=f i:=by
 induction n with
 | zero=>omega
 | succ n a2=>
  simp only[kH]
  by_cases gr:i=n
  ·subst gr
   split
   ·exact Rat.le_refl
   ·rename_i h;exact Rat.not_lt.1 h
  ·have:=a2 (by omega)
   split
   ·rename_i h;exact Rat.le_trans (Rat.le_of_lt h) this
   ·exact this
theorem M3(f:Nat->Rat)(n:Nat)(aG:0<n):∃i,i<n/\kH f n=f i:=by
 have key:∀n,∃i,(i<n\/i=0)/\kH f n=f i:=by
  intro n
  induction n with
  | zero=>exact⟨0,.inr rfl,rfl⟩
  | succ n a2=>
   obtain⟨i,o,aa⟩:=a2
   simp only[kH]
   split
   ·exact⟨n,.inl (by omega),rfl⟩
   ·exact⟨i,by omega,aa⟩
 obtain⟨i,o,aa⟩:=key n
 exact⟨i,by omega,aa⟩
def jK(H:ab)(v:Value)(p:Rat×List Int):Prop:=∃s1 bY cQ cm s2 cC cW cF eC j3 eJ,v= .agg #[.bool s1,.slice bY cQ cm,.bool s2,.slice cC cW cF,.slice eC j3 eJ]/\ca H (.agg #[.bool s1,.slice bY cQ cm,.bool s2,.slice cC cW cF]) p.1/\Row 3 1 false IR H (.slice eC j3 eJ) p.2
instance:b7 jK:=⟨fun⟨s1,bY,cQ,cm,s2,cC,cW,cF,eC,j3,eJ,h,o,aa⟩ J=>⟨s1,bY,cQ,cm,s2,cC,cW,cF,eC,j3,eJ,h,o.ext J,b7.ext (af:=Row _ _ _ IR) aa J⟩⟩
theorem jK.jr{H:ab}{v:Value}{p:Rat×List Int}(h:jK H v p):Whole prog 113 v:=by
 obtain⟨s1,bY,cQ,cm,s2,cC,cW,cF,eC,j3,eJ,rfl,-⟩:=h
 exact⟨by rfl,by simp[Value.cells,Value.oneCell'],by simp[e3]⟩
theorem jK.kept{H aF:ab}{e:Nat}{s v:Value}{p:Rat×List Int}(h:jK H v p)(aj:Kept H aF s e)(o:124≠e)(aa:3≠e):jK aF v p:=by
 obtain⟨s1,bY,cQ,cm,s2,cC,cW,cF,eC,j3,eJ,rfl,a1,a3⟩:=h
 exact⟨s1,bY,cQ,cm,s2,cC,cW,cF,eC,j3,eJ,rfl,a1.kept aj o,a3.kept aj aa fun _ _ h=>h⟩
theorem eo.other{α:Type}{k bg e U cP:Nat}{aC:Bool}{af:ab->Value->α->Prop}{H aF:ab}{v s:Value}{t:List (List α)}{us:List Value}(h:eo k bg e U aC af H v t us)(aj:Kept H aF s cP)(o:bg≠cP)(aa:e≠cP)(br:∀u x,af H u x->af aF u x):eo k bg e U aC af aF v t us:=
 ⟨h.pos,h.own.other aj o fun _ _ h=>h,h.len,fun i row u a1 a3=>(h.rows i row u a1 a3).other aj aa br,h.px⟩
end Go.cJ
end
