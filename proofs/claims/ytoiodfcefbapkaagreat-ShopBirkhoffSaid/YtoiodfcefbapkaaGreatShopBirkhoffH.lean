/- Part of the proof of ShopBirkhoff. -/
import Derived.Test.YtoiodfcefbapkaaGreatShopBirkhoffG
set_option linter.unusedVariables false
set_option linter.unusedSimpArgs false
section
namespace Go.cl
def ga(H:ad)(u w:Value):Prop:=u=w
instance:bM ga:=⟨fun h _=>h⟩
def Grown(H:ad)(s v:Value):Prop:=∀b,inBlock v b->inBlock s b\/H.length<=b
section
variable {P:Program} {r:List bJ} {F:Fr} {H:ad} {Q:Fr->ad->Prop} {α:Type}
theorem ad5{ff:Bool}{d1 d2 t b4 cV e R bI k n:Nat}{s x:Operand}{z:Value}{cs:List Value}{ax:bc ((⟨ff,none,some d1,.buildSlice t 1 #[(0,x)]⟩:bJ)::ap d2 b4 cV s (T d1)::r) Q}(cR:iP H k e R (ar F s) n cs)(fO:∀v,ar (a5 F d1 v) s=ar F s)
  (bG:P.underlying t=some (.slice e))(hu:P.underlying b4=some (.slice e))(J:fY P cV=true)(ao:bu P e=some R)(af:bytes? P e=some bI)(aQ:dL P e=some z)(eb:flat z=true)(dt:z.cells.size=R)(df:0<R)(sI:R<=1000)
  (eh:0<bI)(bF:(n+1)*bI<=140737488355328)(an:(ar F x).cells.toList.length=R)(hJ:((ar F x).cells.toList.all (·.oneCell'))=true)(ah:k<=H.length)
  (K:∀u aw aI,iP aI k e R aw (n+1) (cs++(ar F x).cells.toList)->(∀cJ:ad,cJ.length<=k->Ext cJ H->Ext cJ aI)->Kept H aI (ar F s) e->Grown H (ar F s) aw->H.length<=aI.length->ba P r Q .mk (a5 (a5 F d1 u) d2 aw) aI):
  ba P ((⟨ff,none,some d1,.buildSlice t 1 #[(0,x)]⟩:bJ)::ap d2 b4 cV s (T d1)::r) Q ax F H:=by
 have eM:(made z (1*R)).length=R:=by rw[w7,Nat.one_mul]
 have aW:jQ (fun i=>some (i*R,R)) (made z (1*R)) [(0,ar F x)]=some (ar F x).cells.toList:=by
  simp only[jQ]
  rw[if_pos ⟨an,by rw[eM];omega⟩]
  have:=Ds (ar F x).cells.toList (made z (1*R)) [] (by rw[eM,an])
  simpa using this
 have aC:Instr.fill (fun i=>some (i*R,R)) (made z (1*R)).toArray ((#[(0,x)]:Array (Nat×Operand)).toList.map fun p=>(p.1,ar F p.2))=some (ar F x).cells:=by
  rw[fill_eq]
  simp only[List.map_cons,List.map_nil]
  rw[aW]
  simp
 have aq:∀U:Oper,U.op= .buildSlice t 1 #[(0,x)]->fx P (ar F) H U (.slice (some ⟨H.length,0,none⟩) 1 1) (H++[.own e false (ar F x).cells.toList]):=fun U fN=> .build (out:=(ar F x).cells) fN bG ao aQ eb dt df (by omega) (by omega) aC (by have:=an;simp at this;omega)
 refine kr rfl rfl rfl aq (fun U aW=>by simp[bZ,aW]) (.inr ((Ext.refl H).snoc _ _ _)) ?_
 show ba P (ap d2 b4 cV s (T d1)::r) Q .mk (a5 F d1 _) _
 have dn:Src (H++[.own e false (ar F x).cells.toList]) R (.slice (some ⟨H.length,0,none⟩) 1 1) 1 1 (ar F x).cells.toList:=by
  have:=Src.row (H:=H++[.own e false (ar F x).cells.toList]) (R:=R) (b:=H.length) (i:=0) (n:=1) (m:=1) (c:=1) (x:= .own e false (ar F x).cells.toList) (cs:=(ar F x).cells.toList) (by simp) rfl (by omega) (Nat.le_refl _) (by omega)
  rw[List.drop_zero,Nat.one_mul,<-an,List.take_length]at this
  rw[an]at this
  exact this
 have nd:iP (H++[.own e false (ar F x).cells.toList]) k e R (ar (a5 F d1 (.slice (some ⟨H.length,0,none⟩) 1 1)) s) n cs:=by
  rw[fO]
  exact cR.ext ((Ext.refl H).snoc _ _ _)
 refine Iw nd (by simpa[ar,T,a5]using dn) hu J ao af aQ dt eh bF hJ (by omega) (by simp;omega) fun aw aI o aa aE bA bQ=>?_
 refine K _ aw aI o (fun cJ aG bz=>aa cJ aG (bz.snoc _ _ _)) (fun b X aZ af=>aE b X ?_ (by rw[fO];exact af)) (fun b af=>?_) (by simp at bQ;omega)
 ·rw[List.getElem?_append_left (cn.1 aZ).1]
  exact aZ
 ·have:=bA b af
  rw[fO]at this
  simp at this
  rcases this with h | h
  ·exact .inl h
  ·exact .inr (by omega)
theorem As{ff:Bool}{d1 d2 t b4 cV e R bI k:Nat}{ay:Bool}{s x:Operand}{z:Value}{ae:ad->Value->α->Prop}{xs:List α}{a:α}{ax:bc ((⟨ff,none,some d1,.buildSlice t 1 #[(0,x)]⟩:bJ)::ap d2 b4 cV s (T d1)::r) Q}(cR:bB k e R ay ae H (ar F s) xs)(aL:ae H (ar F x) a)
  (hw:Whole P e (ar F x))(fO:∀v,ar (a5 F d1 v) s=ar F s)(hY:∀aI dp u y,Kept H aI dp e->ae H u y->ae aI u y)
  (bG:P.underlying t=some (.slice e))(hu:P.underlying b4=some (.slice e))(J:fY P cV=true)(ao:bu P e=some R)(eE:dk P e=some ay)(af:bytes? P e=some bI)(aQ:dL P e=some z)(eb:flat z=true)(dt:z.cells.size=R)(df:0<R)(sI:R<=1000)
  (eh:0<bI)(bF:(xs.length+1)*bI<=140737488355328)(ah:k<=H.length)
  (K:∀p aw aI,bB k e R ay ae aI aw (xs++[a])->(∀cJ:ad,cJ.length<=k->Ext cJ H->Ext cJ aI)->Kept H aI (ar F s) e->Grown H (ar F s) aw->H.length<=aI.length->ba P r Q .mk (a5 (a5 F d1 p) d2 aw) aI):
  ba P ((⟨ff,none,some d1,.buildSlice t 1 #[(0,x)]⟩:bJ)::ap d2 b4 cV s (T d1)::r) Q ax F H:=by
 obtain⟨cs,jv,fU⟩:=cR
 have gV:=jv.1
 have me:(ar F x).cells.size=R:=by have:=hw.1;rw[ao]at this;exact(Option.some.inj this).symm
 have o:ay=true\/R=1:=by
  cases ay with
  | true=>exact .inl rfl
  | false=>
   refine .inr ?_
   have cW:=hw.2.2
   cases aq:e7 (ar F x)with
   | true=>rw[aq]at cW;simp at cW;rw[cW]at eE;cases eE
   | false=>rw[aq]at cW;simp at cW;rw[<-me,cW.2];rfl
 refine ad5 jv fO bG hu J ao af aQ eb dt df sI eh bF (by simp[me]) hw.2.1 ah fun p aw aI aU aO bw cj eR=>K p aw aI ⟨_,by simpa using aU,fun i y aP=>?_⟩ aO bw cj eR
 by_cases ab:i<xs.length
 ·rw[List.getElem?_append_left ab]at aP
  rw[tG gV ab o]
  exact hY _ _ _ _ bw (fU i y aP)
 ·have gz:i=xs.length:=by
   have:=(cn.1 aP).1
   simp at this
   omega
  subst gz
  rw[List.getElem?_append_right (Nat.le_refl _),Nat.sub_self]at aP
  simp at aP
  subst aP
  rw[EL gV hw ao eE]
  exact hY _ _ _ _ bw aL
end
section
variable {α:Type} {P:Program} {e R k:Nat} {ay:Bool} {ae:ad->Value->α->Prop} {H aI:ad} {v s:Value} {xs:List α}
theorem Row.ab4{cs:List Value}(l6:∀i x,xs[i]?=some x->ae H (eI ay R cs i) x)(au:cs.length=xs.length*R)(ly:∀u y,ae H u y->Whole P e u)(eE:dk P e=some ay)(o:ay=true\/R=1):(cs.all (·.oneCell'))=true:=by
 rw[List.all_eq_true]
 intro u n2
 obtain⟨j,aN⟩:=List.getElem?_of_mem n2
 have gg:j<xs.length*R:=by have:=(cn.1 aN).1;omega
 have df:0<R:=by rcases Nat.eq_zero_or_pos R with q | q;·subst q;simp at gg
                 exact q
 have cA:j/R<xs.length:=Nat.div_lt_of_lt_mul (by rw[Nat.mul_comm];exact gg)
 have hw:=ly _ _ (l6 _ _ (bs cA))
 have hM:u∈(eI ay R cs (j/R)).cells.toList:=by
  unfold eI
  cases ay with
  | true=>
   simp only[if_true,Value.cells,List.toList_toArray]
   have nS:=Nat.div_add_mod j R
   have eM:=Nat.mod_lt j df
   rw[Nat.mul_comm]at nS
   refine List.mem_of_getElem? (i:=j % R) ?_
   rw[List.getElem?_take_of_lt eM,List.getElem?_drop,nS]
   exact aN
  | false=>
   have fO:R=1:=by rcases o with h | h;cases h;exact h
   subst fO
   have kF:cs[j/1]?=some u:=by rw[Nat.div_one];exact aN
   simp only[eI,Bool.false_eq_true,if_false]at hw⊢
   rw[kF]at hw⊢
   simp only[Option.getD_some]at hw⊢
   have cW:=hw.2.2
   cases aq:e7 u with
   | false=>rw[aq]at cW;simp at cW;rw[cW.2];simp
   | true=>
    rw[aq]at cW
    simp at cW
    rw[cW]at eE
    cases eE
 exact List.all_eq_true.1 hw.2.1 u hM
theorem bB.beside{c0:Nat}(h:bB k e R ay ae H v xs)(lA:0<k)(ah:Kept H aI s c0)(c2:∀b,0<b->inBlock v b->¬inBlock s b)(bq:∀u x,ae H u x->ae aI u x):bB k e R ay ae aI v xs:=by
 obtain⟨cs,⟨o,aa⟩,aE⟩:=h
 refine⟨cs,⟨o,?_⟩,fun i x ab=>bq _ _ (aE i x ab)⟩
 rcases aa with aa | ⟨c,i,cap,l,all,aU,aO,bw,cj,eR,g0⟩
 ·exact .inl aa
 ·exact .inr ⟨c,i,cap,l,all,aU,aO,bw,cj,ah _ _ eR fun af=>absurd af (c2 c (by omega) ⟨i,_,cap,aU⟩),g0⟩
theorem bB.other{c0:Nat}(h:bB k e R ay ae H v xs)(ah:Kept H aI s c0)(c2:e≠c0)(bq:∀u x,ae H u x->ae aI u x):bB k e R ay ae aI v xs:=by
 obtain⟨cs,⟨o,aa⟩,aE⟩:=h
 refine⟨cs,⟨o,?_⟩,fun i x ab=>bq _ _ (aE i x ab)⟩
 rcases aa with aa | ⟨c,i,cap,l,all,aU,aO,bw,cj,eR,g0⟩
 ·exact .inl aa
 ·exact .inr ⟨c,i,cap,l,all,aU,aO,bw,cj,ah _ _ eR fun _=>by simp[bN.elem?];exact c2,g0⟩
theorem bB.le{b1:Nat}(h:bB k e R ay ae H v xs)(ah:b1<=k):bB b1 e R ay ae H v xs:=by
 obtain⟨cs,⟨o,aa⟩,aE⟩:=h
 refine⟨cs,⟨o,?_⟩,aE⟩
 rcases aa with aa | ⟨c,i,cap,l,all,aU,aO,bw,cj,eR,g0⟩
 ·exact .inl aa
 ·exact .inr ⟨c,i,cap,l,all,aU,aO,bw,by omega,eR,g0⟩
theorem bB.ge(h:bB k e R ay ae H v xs){b:Nat}(af:inBlock v b)(aG:0<b):k<=b/\b<H.length:=by
 obtain⟨cs,⟨o,aa⟩,aE⟩:=h
 obtain⟨fC,ed,dA,an⟩:=af
 rcases aa with⟨-,aa | ⟨i,aa⟩⟩ | ⟨c,i,cap,l,all,aU,aO,bw,cj,eR,g0⟩
 ·rw[an]at aa;simp at aa
 ·rw[an]at aa;simp at aa;try omega
 ·rw[an]at aU;simp at aU
  have:=(cn.1 eR).1
  omega
end
structure dZ {α:Type} (k bj e R:Nat) (ay:Bool) (ae:ad->Value->α->Prop) (H:ad) (v:Value) (t:List (List α)) (us:List Value):Prop where
 pos:0<k
 own:bB k bj 1 false ga H v us
 len:us.length=t.length
 rows:∀(i:Nat) (row:List α) (u:Value),t[i]?=some row->us[i]?=some u->bB k e R ay ae H u row
 qO:∀(i j b:Nat) (u w:Value),us[i]?=some u->us[j]?=some w->0<b->inBlock u b->inBlock w b->i=j
section
variable {α:Type} {P:Program} {bj e R k:Nat} {ay:Bool} {ae:ad->Value->α->Prop} {H aI nI:ad} {v s aw:Value} {t:List (List α)} {us:List Value}
theorem dZ.pC(h:dZ k bj e R ay ae H v t us){i:Nat}{row:List α}(ab:t[i]?=some row):∃u,us[i]?=some u/\bB k e R ay ae H u row:=by
 have cA:i<us.length:=by rw[h.len];exact(cn.1 ab).1
 exact⟨_,bs cA,h.rows i row _ ab (bs cA)⟩
theorem dZ.ext[bM ae](h:dZ k bj e R ay ae H v t us)(J:Ext H aI):dZ k bj e R ay ae aI v t us:=
 ⟨h.pos,bM.ext (ae:=bB k bj 1 false ga) h.own J,h.len,fun i row u o aa=>bM.ext (ae:=bB k e R ay ae) (h.rows i row u o aa) J,h.qO⟩
theorem dZ.row(h:dZ k bj e R ay ae H v t us):Row bj 1 false (Row e R ay ae) H v t:=by
 obtain⟨cs,o,aa⟩:=h.own
 refine⟨cs,by rw[<-h.len];exact o.gj,fun i row ab=>?_⟩
 obtain⟨u,hu,cR⟩:=h.pC ab
 have:=aa i u hu
 rw[show eI false 1 cs i=u from this]
 exact cR.row
theorem dZ.nil(k bj e R:Nat)(ay:Bool)(ae:ad->Value->α->Prop)(H:ad)(ah:0<k):dZ k bj e R ay ae H (.slice none 0 0) [] []:=
 ⟨ah,bB.nil _ _ _ _ _ _,rfl,fun i row u h=>by simp at h,fun i j b u w h=>by simp at h⟩
theorem dZ.PO{n:Nat}(ah:0<k)(h:bB k bj 1 false ga H v (List.replicate n (.slice none 0 0))):dZ k bj e R ay ae H v (List.replicate n ([]:List α)) (List.replicate n (.slice none 0 0)):=by
 refine⟨ah,h,by simp,fun i row u o aa=>?_,fun i j b u w o aa _ aE=>?_⟩
 ·rw[List.getElem?_replicate]at o aa
  split at o
  ·rw[if_pos ‹_›]at aa
   cases o;cases aa
   exact bB.nil _ _ _ _ _ _
  ·cases o
 ·rw[List.getElem?_replicate]at o
  split at o
  ·cases o
   obtain⟨fC,ed,dA,aE⟩:=aE
   simp at aE
  ·cases o
theorem dZ.put{i:Nat}{u:Value}{oi:List α}(h:dZ k bj e R ay ae H v t us)(hu:us[i]?=some u)(c2:e≠bj)(ah:Kept H aI u e)(a1:Grown H u aw)(ei:bB k e R ay ae aI aw oi)(e0:∀u x,ae H u x->ae aI u x)
  (cR:bB k bj 1 false ga nI v (us.set i aw))(k6:Kept aI nI v bj)(hX:∀u x,ae aI u x->ae nI u x):dZ k bj e R ay ae nI v (t.set i oi) (us.set i aw):=by
 have cA:=(cn.1 hu).1
 refine⟨h.pos,cR,by simp[h.len],fun j row w o aa=>?_,fun j dO b w g1 o aa aG aE bA=>?_⟩
 ·by_cases fA:i=j
  ·subst fA
   rw[List.getElem?_set_self cA]at aa
   rw[List.getElem?_set_self (by rw[<-h.len];exact cA)]at o
   cases o;cases aa
   exact ei.other k6 c2 hX
  ·rw[List.getElem?_set_ne fA]at o aa
   refine((h.rows j row w o aa).beside h.pos ah (fun b aG af cZ=>fA (h.qO i j b u w hu aa aG cZ af)) e0).other k6 c2 hX
 ·have fresh:∀(j:Nat) (w:Value),us[j]?=some w->i≠j->inBlock w b->¬inBlock aw b:=fun j w hw o9 af cZ=>by
   rcases a1 b cZ with q | q
   ·exact o9 (h.qO i j b u w hu hw aG q af)
   ·have wK:j<t.length:=by rw[<-h.len];exact(cn.1 hw).1
    have:=(h.rows j _ w (bs wK) hw).ge af aG
    omega
  by_cases fA:i=j
  ·subst fA
   rw[List.getElem?_set_self cA]at o
   cases o
   by_cases nm:i=dO
   ·exact nm
   ·rw[List.getElem?_set_ne nm]at aa
    exact absurd aE (fresh dO g1 aa nm bA)
  ·rw[List.getElem?_set_ne fA]at o
   by_cases nm:i=dO
   ·subst nm
    rw[List.getElem?_set_self cA]at aa
    cases aa
    exact absurd bA (fresh j w o fA aE)
   ·rw[List.getElem?_set_ne nm]at aa
    exact h.qO j dO b w g1 o aa aG aE bA
theorem dZ.inner{i:Nat}{u:Value}{oi:List α}(h:dZ k bj e R ay ae H v t us)(hu:us[i]?=some u)(c2:e≠bj)(ah:Kept H aI u e)(ei:bB k e R ay ae aI u oi)(e0:∀u x,ae H u x->ae aI u x):dZ k bj e R ay ae aI v (t.set i oi) us:=by
 have cA:=(cn.1 hu).1
 refine⟨h.pos,h.own.other ah (Ne.symm c2) fun _ _ h=>h,by simp[h.len],fun j row w o aa=>?_,h.qO⟩
 by_cases fA:i=j
 ·subst fA
  rw[List.getElem?_set_self (by rw[<-h.len];exact cA)]at o
  rw[hu]at aa
  cases o;cases aa
  exact ei
 ·rw[List.getElem?_set_ne fA]at o
  exact(h.rows j row w o aa).beside h.pos ah (fun b aG af cZ=>fA (h.qO i j b u w hu aa aG cZ af)) e0
theorem dZ.aco{i ob:Nat}{oi:List α}(h:dZ k bj e R ay ae H v t us)(cA:i<t.length)(aF:∀b,0<b->inBlock aw b->ob<=b)(a3:∀(j:Nat) (w:Value) (b:Nat),us[j]?=some w->inBlock w b->0<b->b<ob)(c2:e≠bj)(ei:bB k e R ay ae H aw oi)
  (cR:bB k bj 1 false ga nI v (us.set i aw))(k6:Kept H nI v bj)(hX:∀u x,ae H u x->ae nI u x):dZ k bj e R ay ae nI v (t.set i oi) (us.set i aw):=by
 have F6:i<us.length:=by rw[h.len];exact cA
 refine⟨h.pos,cR,by simp[h.len],fun j row w o aa=>?_,fun j dO b w g1 o aa aG aE bA=>?_⟩
 ·by_cases fA:i=j
  ·subst fA
   rw[List.getElem?_set_self F6]at aa
   rw[List.getElem?_set_self cA]at o
   cases o;cases aa
   exact ei.other k6 c2 hX
  ·rw[List.getElem?_set_ne fA]at o aa
   exact(h.rows j row w o aa).other k6 c2 hX
 ·by_cases fA:i=j
  ·subst fA
   rw[List.getElem?_set_self F6]at o
   cases o
   by_cases nm:i=dO
   ·exact nm
   ·rw[List.getElem?_set_ne nm]at aa
    have:=a3 _ _ _ aa bA aG
    have:=aF _ aG aE
    omega
  ·rw[List.getElem?_set_ne fA]at o
   by_cases nm:i=dO
   ·subst nm
    rw[List.getElem?_set_self F6]at aa
    cases aa
    have:=a3 _ _ _ o aE aG
    have:=aF _ aG bA
    omega
   ·rw[List.getElem?_set_ne nm]at aa
    exact h.qO j dO b w g1 o aa aG aE bA
theorem dZ.snoc{oi:List α}{v2:Value}{cJ:ad}{ob:Nat}(h:dZ k bj e R ay ae H v t us)(aF:∀b,0<b->inBlock aw b->ob<=b)(a3:∀(j:Nat) (w:Value) (b:Nat),us[j]?=some w->inBlock w b->0<b->b<ob)(c2:e≠bj)(ei:bB k e R ay ae H aw oi)
  (cR:bB k bj 1 false ga nI v2 (us++[aw]))(k6:Kept H nI v bj)(hX:∀u x,ae H u x->ae nI u x):dZ k bj e R ay ae nI v2 (t++[oi]) (us++[aw]):=by
 refine⟨h.pos,cR,by simp[h.len],fun j row w o aa=>?_,fun j dO b w g1 o aa aG aE bA=>?_⟩
 ·by_cases fA:j<t.length
  ·rw[List.getElem?_append_left fA]at o
   rw[List.getElem?_append_left (by rw[h.len];exact fA)]at aa
   exact(h.rows j row w o aa).other k6 c2 hX
  ·rw[List.getElem?_append_right (by omega)]at o
   rw[List.getElem?_append_right (by rw[h.len];omega)]at aa
   have wI:j-t.length=0:=by
    have:=(cn.1 o).1
    simp at this;omega
   rw[wI]at o
   rw[h.len,wI]at aa
   simp at o aa
   subst o;subst aa
   exact ei.other k6 c2 hX
 ·have aN:∀(j:Nat) (w:Value),(us++[aw])[j]?=some w->inBlock w b->(us[j]?=some w/\b<ob)\/(j=us.length/\ob<=b):=fun j w hw af=>by
   by_cases fA:j<us.length
   ·rw[List.getElem?_append_left fA]at hw
    exact .inl ⟨hw,a3 _ _ _ hw af aG⟩
   ·rw[List.getElem?_append_right (by omega)]at hw
    have wI:j-us.length=0:=by
     have:=(cn.1 hw).1
     simp at this;omega
    rw[wI]at hw
    simp at hw
    subst hw
    exact .inr ⟨by omega,aF b aG af⟩
  rcases aN j w o aE with⟨aU,aO⟩ | ⟨aU,aO⟩
  ·rcases aN dO g1 aa bA with⟨bw,cj⟩ | ⟨bw,cj⟩
   ·exact h.qO j dO b w g1 aU bw aG aE bA
   ·omega
  ·rcases aN dO g1 aa bA with⟨bw,cj⟩ | ⟨bw,cj⟩
   ·omega
   ·omega
theorem dZ.lt(h:dZ k bj e R ay ae H v t us)(j:Nat)(w:Value)(b:Nat)(hw:us[j]?=some w)(af:inBlock w b)(aG:0<b):b<H.length:=by
 have wK:j<t.length:=by rw[<-h.len];exact(cn.1 hw).1
 exact((h.rows j _ w (bs wK) hw).ge af aG).2
end
def Ef(R:Nat)(u:Value)(n j m:Nat)(v:Value):Prop:=(∃b U cap c,u= .slice (some ⟨b,U,none⟩) n cap/\v= .slice (some ⟨b,U+j*R,none⟩) m c)\/(m=0/\∃a c,v= .slice a 0 c)
theorem bB.sub{α:Type}{k e R:Nat}{ay:Bool}{ae:ad->Value->α->Prop}{H:ad}{v:Value}{xs:List α}(h:bB k e R ay ae H v xs):Ef R v xs.length 0 xs.length v:=by
 obtain⟨cs,⟨o,aa⟩,aE⟩:=h
 rcases aa with⟨aG,aa | ⟨i,aa⟩⟩ | ⟨c,i,cap,l,all,aU,aO,bw,cj,eR,g0⟩
 ·exact .inr ⟨aG,_,_,aa⟩
 ·exact .inr ⟨aG,_,_,aa⟩
 ·exact .inl ⟨c,i,cap,cap,aU,by simpa using aU⟩
section
variable {P:Program} {r:List bJ} {F:Fr} {H:ad} {Q:Fr->ad->Prop} {α:Type}
theorem DJ{ff:Bool}{d t e R l h k:Nat}{ay:Bool}{x:Operand}{bg ab:Option Operand}{ae:ad->Value->α->Prop}{xs:List α}{ax:bc ((⟨ff,none,some d,.slice t x bg ab none⟩:bJ)::r) Q}(cR:bB k e R ay ae H (ar F x) xs)(hu:P.underlying t=some (.slice e))(ao:bu P e=some R)(o:ay=true\/R=1)
  (au:ea (ar F) bg=some l)(db:fo (ar F) xs.length ab=some h)(y7:l<=h)(y4:h<=xs.length)(K:∀aw,Row e R ay ae H aw ((xs.drop l).take (h-l))->Ef R (ar F x) xs.length l (h-l) aw->ba P r Q .mk (a5 F d aw) H):ba P ((⟨ff,none,some d,.slice t x bg ab none⟩:bJ)::r) Q ax F H:=by
 by_cases aG:h-l=0
 ·refine tg cR.row hu ao o au db y7 y4 fun aw dC=>K aw dC (.inr ⟨aG,?_⟩)
  obtain⟨a,c,an⟩:=dC.len
  rw[aG]at an
  exact⟨a,c,by simpa using an⟩
 ·have nd:=cR
  obtain⟨cs,⟨Mt,aa⟩,aE⟩:=nd
  rcases aa with⟨qQ,-⟩ | ⟨b,i,cap,w4,all,aU,aO,bw,cj,eR,g0,z9⟩
  ·omega
  ·refine Rg (b:=b) (i:=i) (len:=xs.length) (cap:=cap) (l:=l) (h:=h) aU eR rfl hu ao au db y7 (by omega) (by omega) ?_
   refine K _ ?_ (.inl ⟨b,i,cap,cap-l,aU,rfl⟩)
   refine⟨(cs.drop (l*R)).take ((h-l)*R),⟨_,_,by rw[List.length_take,List.length_drop,Nat.min_eq_left (by omega)],by rw[List.length_take,List.length_drop];omega,?_,fun _=>⟨b,i+l*R,_,all,rfl,eR,rfl,rfl,?_,?_⟩⟩,fun j y aP=>?_⟩
   ·have bn:(h-l)*R+l*R=h*R:=by rw[<-Nat.add_mul];congr 1;omega
    have bj:h*R<=xs.length*R:=Nat.mul_le_mul_right _ y4
    have fT:((xs.drop l).take (h-l)).length=h-l:=by simp;omega
    rw[fT]
    simp
    omega
   ·have bn:(cap-l)*R+l*R=cap*R:=by rw[<-Nat.add_mul];congr 1;omega
    have fT:((xs.drop l).take (h-l)).length=h-l:=by simp;omega
    rw[fT]
    have bj:(h-l)*R<=(cap-l)*R:=Nat.mul_le_mul_right _ (by omega)
    omega
   ·have bn:(h-l)*R+l*R=h*R:=by rw[<-Nat.add_mul];congr 1;omega
    have bj:h*R<=xs.length*R:=Nat.mul_le_mul_right _ y4
    have fT:((xs.drop l).take (h-l)).length=h-l:=by simp;omega
    rw[fT,z9,List.drop_take,List.drop_drop,List.take_take,Nat.min_eq_left (by omega)]
   ·have cA:j<h-l:=by
     have:=(cn.1 aP).1
     simp at this
     omega
    rw[List.getElem?_take_of_lt cA,List.getElem?_drop]at aP
    have:=aE _ _ aP
    have bn:eI ay R ((cs.drop (l*R)).take ((h-l)*R)) j=eI ay R cs (l+j):=by
     have hle:(j+1)*R<=(h-l)*R:=Nat.mul_le_mul_right _ cA
     rw[Nat.succ_mul]at hle
     unfold eI
     cases ay with
     | true=>
      simp only[if_true]
      rw[List.drop_take,List.drop_drop,List.take_take,Nat.min_eq_left (by omega),<-Nat.add_mul]
     | false=>
      have fO:R=1:=by rcases o with h | h;cases h;exact h
      subst fO
      simp only[Bool.false_eq_true,if_false,Nat.mul_one]
      rw[List.getElem?_take_of_lt cA,List.getElem?_drop]
    rw[bn]
    exact this
theorem td{d iL b4 e R k j m:Nat}{ay:Bool}{x y:Operand}{u:Value}{ae:ad->Value->α->Prop}{xs bY:List α}{ax:bc (cp d iL b4 x y::r) Q}(cR:bB k e R ay ae H u xs)(aA:Ef R u xs.length j m (ar F x))(aku:j+m<=xs.length)(l6:Row e R ay ae H (ar F y) bY)
  (ly:∀u y,ae H u y->Whole P e u)(hY:∀aI dp u y,Kept H aI dp e->ae H u y->ae aI u y)(hu:P.underlying iL=some (.slice e))(ao:bu P e=some R)(eE:dk P e=some ay)(o:ay=true\/R=1)(df:0<R)
  (K:∀aI,bB k e R ay ae aI u (xs.take j++bY.take m++xs.drop (j+(bY.take m).length))->(∀cJ:ad,cJ.length<=k->Ext cJ H->Ext cJ aI)->Kept H aI u e->aI.length=H.length->(∀c,c<k->aI[c]?=H[c]?)->ba P r Q .mk (a5 F d (.int .i64 ((bY.take m).length:Int))) aI):ba P (cp d iL b4 x y::r) Q ax F H:=by
 have a7:∀U:Oper,U.op= .call {callee:= .builtin .copy,args:= #[x,y],argTypes:= #[iL,b4]}->bZ P U=false:=fun U aW=>by simp[bZ,aW]
 have aF:ca P (ar F) H (.call {callee:= .builtin .copy,args:= #[x,y],argTypes:= #[iL,b4]})=none:=rfl
 by_cases aG:(bY.take m).length=0
 ·have nY:min bY.length m=0:=by simpa[Nat.min_comm]using aG
  obtain⟨aiK,fg,uM⟩:=l6.len
  obtain⟨aiJ,ajs,jD⟩:∃a c,ar F x= .slice a m c:=by
   rcases aA with⟨b,U,cap,c,-,h⟩ | ⟨rfl,a,c,h⟩
   ·exact⟨_,_,h⟩
   ·exact⟨_,_,h⟩
  refine kr (v:= .int .i64 0) (H1:=H) rfl rfl aF (fun U aW=> .x9 aW hu ao (by rw[uM];exact .xJ) nY jD) a7 (.inl rfl) ?_
  have he:bY.take m=[]:=List.eq_nil_of_length_eq_zero aG
  have:=K H (by rw[he];simpa using cR) (fun _ _ h=>h) (fun b X h _=>h) rfl (fun _ _=>rfl)
  rw[aG]at this
  exact this
 ·have nd:=cR
  obtain⟨cs,⟨au,aa⟩,aE⟩:=nd
  obtain⟨a0,BM,yK⟩:=l6
  have nY:0<m:=by rcases Nat.eq_zero_or_pos m with q | q;·subst q;simp at aG
                  exact q
  obtain⟨b,U,cap,c,iT,mI⟩:∃b U cap c,u= .slice (some ⟨b,U,none⟩) xs.length cap/\ar F x= .slice (some ⟨b,U+j*R,none⟩) m c:=by
   rcases aA with h | ⟨q,-⟩
   ·exact h
   ·omega
  rcases aa with⟨qQ,-⟩ | ⟨cg,la,dM,w4,all,aU,aO,bw,cj,eR,g0,z9⟩
  ·omega
  rw[iT]at aU
  simp at aU
  obtain⟨⟨rfl,rfl⟩,rfl⟩:=aU
  obtain⟨n,uq⟩:∃n,n=(bY.take m).length:=⟨_,rfl⟩
  have Gm:n=min bY.length m:=by rw[uq];simp[Nat.min_comm]
  have kl:a0.length=bY.length*R:=by obtain⟨_,_,_,_,h,_⟩:=BM;exact h
  have dn:Src H R (ar F y) bY.length n (a0.take (n*R)):=eA.src BM (by omega)
  have Ce:n*R<=bY.length*R:=Nat.mul_le_mul_right _ (by omega)
  have pb:(a0.take (n*R)).length=n*R:=by simp;omega
  have zd:((a0.take (n*R)).all (·.oneCell'))=true:=by
   have:=Row.ab4 (P:=P) yK kl ly eE o
   rw[List.all_eq_true]at this⊢
   exact fun u hu=>this u (List.mem_of_mem_take hu)
  have bn:(j+n)*R=j*R+n*R:=Nat.add_mul _ _ _
  have bj:(j+n)*R<=xs.length*R:=Nat.mul_le_mul_right _ (by omega)
  have fT:xs.length*R<=cap*R:=Nat.mul_le_mul_right _ bw
  have bF:U+j*R+(a0.take (n*R)).length<=all.length:=by omega
  refine kr (v:= .int .i64 n) (H1:=H.set b (.own e w4 (dr all (U+j*R) (a0.take (n*R))))) rfl rfl aF (fun U aW=> .copy aW hu ao dn Gm (by omega) eR bF zd mI) a7 (.inl rfl) ?_
  have hg:=(cn.1 eR).1
  have wM:Kept H (H.set b (.own e w4 (dr all (U+j*R) (a0.take (n*R))))) u e:=fun cg X aZ cZ=>by
   have:b≠cg:=fun c0=>by
    subst c0
    rw[eR]at aZ
    exact cZ ⟨U,_,cap,iT⟩ (by rw[<-Option.some.inj aZ];rfl)
   rw[List.getElem?_set_ne this];exact aZ
  have hlen:(xs.take j++bY.take m++xs.drop (j+(bY.take m).length)).length=xs.length:=by
   simp only[List.length_append,List.length_take,List.length_drop]
   omega
  have Wq:(cs.take (j*R)++a0.take (n*R)++cs.drop (j*R+n*R))=dr cs (j*R) (a0.take (n*R)):=by
   unfold dr;rw[pb]
  have:=K (H.set b (.own e w4 (dr all (U+j*R) (a0.take (n*R))))) ⟨dr cs (j*R) (a0.take (n*R)),⟨by rw[om (by omega),au,hlen],.inr ⟨b,U,cap,w4,_,by rw[hlen];exact iT,aO,by rw[hlen];exact bw,cj,List.getElem?_set_self hg,by rw[om bF];exact g0,?_⟩⟩,fun i y aP=>?_⟩
   (fun cJ aG J=>J.set (by omega) (by simp)) wM (by simp) (fun c ag=>List.getElem?_set_ne (by omega))
  ·rw[<-uq]at this;exact this
  ·rw[hlen,z9]
   have o7:j*R+(a0.take (n*R)).length<=((all.drop U).take (xs.length*R)).length:=by simp;omega
   apply List.ext_getElem?
   intro i
   by_cases ab:i<xs.length*R
   ·rw[List.getElem?_take_of_lt ab,List.getElem?_drop,s9 bF,s9 o7,List.getElem?_take_of_lt ab,List.getElem?_drop]
    by_cases ag:j*R<=i/\i<j*R+(a0.take (n*R)).length
    ·rw[if_pos ag,if_pos ⟨by omega,by omega⟩]
     congr 1
     omega
    ·rw[if_neg ag,if_neg (by omega)]
   ·rw[List.getElem?_eq_none (by rw[om o7];simp;omega),List.getElem?_eq_none (by simp;omega)]
  ·
   have hX:∀u x,ae H u x->ae (H.set b (.own e w4 (dr all (U+j*R) (a0.take (n*R))))) u x:=fun u x h=>hY _ _ _ _ wM h
   rw[<-Wq]
   have bG:(cs.take (j*R)).length=j*R:=by simp;omega
   by_cases jX:i<j
   ·rw[List.append_assoc,List.getElem?_append_left (by simp;omega),List.getElem?_take_of_lt jX]at aP
    rw[List.append_assoc,tG bG jX o]
    have:eI ay R (cs.take (j*R)) i=eI ay R cs i:=by
     have:=tG (ay:=ay) (i:=i) (a0:=cs.drop (j*R)) bG jX o
     rw[List.take_append_drop]at this
     exact this.symm
    rw[this]
    exact hX _ _ (aE _ _ aP)
   ·by_cases iU:i<j+n
    ·rw[List.append_assoc,List.getElem?_append_right (by simp;omega),List.getElem?_append_left (by simp;omega)]at aP
     have gg:(xs.take j).length=j:=by simp;omega
     rw[gg,List.getElem?_take_of_lt (by omega)]at aP
     rw[List.append_assoc,Bi bG (by omega) o,tG pb (by omega) o]
     have:eI ay R (a0.take (n*R)) (i-j)=eI ay R a0 (i-j):=by
      have:=tG (ay:=ay) (i:=i-j) (a0:=a0.drop (n*R)) pb (by omega) o
      rw[List.take_append_drop]at this
      exact this.symm
     rw[this]
     exact hX _ _ (yK _ _ aP)
    ·rw[List.getElem?_append_right (by simp;omega)]at aP
     have im:(xs.take j++bY.take m).length=j+n:=by simp;omega
     rw[im,<-uq,List.getElem?_drop,show j+n+(i-(j+n))=i by omega]at aP
     have nn:(cs.take (j*R)++a0.take (n*R)).length=(j+n)*R:=by rw[List.length_append,bG,pb,bn]
     rw[Bi nn (by omega) o]
     have:eI ay R (cs.drop (j*R+n*R)) (i-(j+n))=eI ay R cs i:=by
      have bA:(cs.take ((j+n)*R)).length=(j+n)*R:=by simp;omega
      have:=Bi (ay:=ay) (i:=i) (a0:=cs.drop ((j+n)*R)) bA (by omega) o
      rw[List.take_append_drop,bn]at this
      exact this.symm
     rw[this]
     exact hX _ _ (aE _ _ aP)
end
def fl{α:Type}(P:Program)(e:Nat)(ae:ad->Value->α->Prop)(H:ad)(u:Value):Option α->Prop
 | some a=>ae H u a
 | none=>Whole P e u
section
variable {α:Type} {P:Program} {e R k:Nat} {ay:Bool} {ae:ad->Value->α->Prop} {H:ad} {v:Value} {xs:List α}
instance[bM ae]:bM (fl P e ae):=⟨fun{H H1 u U} h J=>by
 cases U with
 | none=>exact h
 | some a=>exact bM.ext (ae:=ae) h J⟩
theorem fl.jL(bq:∀u y,ae H u y->Whole P e u):∀u y,fl P e ae H u y->Whole P e u
 | u,none,h=>h
 | u,some a,h=>bq u a h
theorem fl.kept{c0:Nat}(bq:∀aI dp u y,Kept H aI dp c0->ae H u y->ae aI u y):∀aI dp u y,Kept H aI dp c0->fl P e ae H u y->fl P e ae aI u y
 | aI,dp,u,none,_,h=>h
 | aI,dp,u,some a,ah,h=>bq aI dp u a ah h
theorem Row.opt(h:Row e R ay ae H v xs):Row e R ay (fl P e ae) H v (xs.map some):=by
 obtain⟨cs,o,aa⟩:=h
 refine⟨cs,by simpa using o,fun i x ab=>?_⟩
 rw[List.getElem?_map,Option.map_eq_some_iff]at ab
 obtain⟨y,aP,rfl⟩:=ab
 exact aa i y aP
theorem bB.IH(h:bB k e R ay (fl P e ae) H v (xs.map some)):bB k e R ay ae H v xs:=by
 obtain⟨cs,o,aa⟩:=h
 refine⟨cs,by simpa using o,fun i x ab=>?_⟩
 exact aa i (some x) (by simp[ab])
theorem H3{α:Type}(a:α){n N:Nat}(aG:n<=N):(List.replicate n (some a)++List.replicate (N-n) (none:Option α)).take n++(List.replicate n (some a)).take (N-n)++(List.replicate n (some a)++List.replicate (N-n) (none:Option α)).drop (n+((List.replicate n (some a)).take (N-n)).length)=List.replicate (n+min (N-n) n) (some a)++List.replicate (N-(n+min (N-n) n)) none:=by
 rw[List.take_replicate,List.take_append,List.take_replicate]
 simp only[List.length_replicate,Nat.sub_self,List.take_zero,List.append_nil,Nat.min_self]
 rw[List.replicate_append_replicate]
 congr 1
 rw[List.drop_append,List.drop_eq_nil_of_le (by simp),List.nil_append]
 simp only[List.length_replicate,List.drop_replicate]
 congr 1
 omega
theorem H2{α:Type}(a:α)(N:Nat):(List.replicate N (none:Option α)).take 0++([some a]:List (Option α)).take N++(List.replicate N (none:Option α)).drop (0+(([some a]:List (Option α)).take N).length)=List.replicate (min N 1) (some a)++List.replicate (N-min N 1) none:=by
 rcases N with _ | N
 ·simp
 ·have:min (N+1) 1=1:=by omega
  rw[this]
  simp
theorem H0{α:Type}(a:α){n N:Nat}(aG:n<=N)(o:¬n<N):List.replicate n (some a)++List.replicate (N-n) (none:Option α)=(List.replicate N a).map some:=by
 have:n=N:=by omega
 subst this
 simp
end
section
variable {P:Program} {r:List bJ} {F:Fr} {H:ad} {Q:Fr->ad->Prop} {α:Type}
theorem xw{ff:Bool}{d t e R:Nat}{ay:Bool}{x:Operand}{z:Value}{ae:ad->Value->α->Prop}{a:α}{ax:bc ((⟨ff,none,some d,.buildSlice t 1 #[(0,x)]⟩:bJ)::r) Q}(aL:∀aI,Ext H aI->ae aI (ar F x) a)(hw:Whole P e (ar F x))
  (bG:P.underlying t=some (.slice e))(ao:bu P e=some R)(eE:dk P e=some ay)(aQ:dL P e=some z)(eb:flat z=true)(dt:z.cells.size=R)(df:0<R)(sI:R<=1000)
  (K:∀v aI,bB H.length e R ay ae aI v [a]->Ext H aI->ba P r Q .mk (a5 F d v) aI):ba P ((⟨ff,none,some d,.buildSlice t 1 #[(0,x)]⟩:bJ)::r) Q ax F H:=by
 have eM:(made z (1*R)).length=R:=by rw[w7,Nat.one_mul]
 have me:(ar F x).cells.size=R:=by have:=hw.1;rw[ao]at this;exact(Option.some.inj this).symm
 have an:(ar F x).cells.toList.length=R:=by simp[me]
 have aW:jQ (fun i=>some (i*R,R)) (made z (1*R)) [(0,ar F x)]=some (ar F x).cells.toList:=by
  simp only[jQ]
  rw[if_pos ⟨an,by rw[eM];omega⟩]
  have:=Ds (ar F x).cells.toList (made z (1*R)) [] (by rw[eM,an])
  simpa using this
 have aC:Instr.fill (fun i=>some (i*R,R)) (made z (1*R)).toArray ((#[(0,x)]:Array (Nat×Operand)).toList.map fun p=>(p.1,ar F p.2))=some (ar F x).cells:=by
  rw[fill_eq]
  simp only[List.map_cons,List.map_nil]
  rw[aW]
  simp
 have aq:∀U:Oper,U.op= .buildSlice t 1 #[(0,x)]->fx P (ar F) H U (.slice (some ⟨H.length,0,none⟩) 1 1) (H++[.own e false (ar F x).cells.toList]):=fun U fN=> .build (out:=(ar F x).cells) fN bG ao aQ eb dt df (by omega) (by omega) aC (by have:=an;simp at this;omega)
 have J:Ext H (H++[.own e false (ar F x).cells.toList]):=(Ext.refl H).snoc _ _ _
 refine kr rfl rfl rfl aq (fun U aW=>by simp[bZ,aW]) (.inr J) (K _ _ ⟨(ar F x).cells.toList,⟨by simp[me],.inr ⟨H.length,0,1,false,(ar F x).cells.toList,rfl,by omega,Nat.le_refl _,Nat.le_refl _,by simp,by simp[me],?_⟩⟩,fun i y ab=>?_⟩ J)
 ·rw[List.drop_zero,List.length_singleton,Nat.one_mul,<-an,List.take_length]
 ·have ss:i=0:=by have:=(cn.1 ab).1;simp at this;exact this
  subst ss
  simp at ab
  subst ab
  have:=EL (n:=0) (cs:=[]) (by simp) hw ao eE
  rw[List.nil_append]at this
  rw[this]
  exact aL _ J
end
section
variable {P:Program} {r:List bJ} {F:Fr} {H:ad} {Q:Fr->ad->Prop} {α:Type}
theorem u6{d t e R bI n:Nat}{ay:Bool}{x y:Operand}{e6 dc:IntKind}{z:Value}{ae:ad->Value->α->Prop}{a:α}{ax:bc (ms d t x y::r) Q}(hu:P.underlying t=some (.slice e))(ao:bu P e=some R)(af:bytes? P e=some bI)(aQ:dL P e=some z)(eb:flat z=true)
  (eE:dk P e=some ay)(hw:Whole P e z)(J:ar F x= .int e6 (n:Int))(aP:ar F y= .int dc (n:Int))(df:0<R)(eh:0<bI)(bF:bI*n<=281474976710656)(bq:∀aI,ae aI z a)
  (K:∀eB eV aI,bB H.length e R ay ae aI (.slice eB n eV) (List.replicate n a)->Ext H aI->ba P r Q .mk (a5 F d (.slice eB n eV)) aI):ba P (ms d t x y::r) Q ax F H:=
 tf hu ao af aQ eb eE hw J aP df eh bF bq fun v aI cR sN ag=>by
  have au:=cR.len
  rw[List.length_replicate]at au
  obtain⟨eB,eV,rfl⟩:=au
  exact K eB eV aI cR sN
end
end Go.cl
end
section
set_option maxRecDepth 8000
set_option maxHeartbeats 1000000
namespace Go.cl
open Go.Proofs
open Go.Proofs.Tryz (prog)
attribute [-simp] gk hq iM
def A0(a b:Int):Int:=IntKind.u64.wrap ((BitVec.ofInt 64 a&&&BitVec.ofInt 64 b).toNat:Int)
@[simp high] theorem alF(P:Program)(t:Nat)(a b:Int):ej P .and t (.int .u64 a) (.int .u64 b)=some (.int .u64 (A0 a b)):=ac6
theorem K8{x:Nat}(J:x<4294967296):A0 (x:Int) 4294967295=(x:Int):=by
 unfold A0
 have o:((BitVec.ofInt 64 (x:Int))&&&(BitVec.ofInt 64 4294967295)).toNat=x:=by
  have e:(4294967295:Int)=((4294967295:Nat):Int):=rfl
  rw[e,BitVec.ofInt_natCast,BitVec.ofInt_natCast,BitVec.toNat_and,BitVec.toNat_ofNat,BitVec.toNat_ofNat,Nat.mod_eq_of_lt (by omega),Nat.mod_eq_of_lt (by omega)]
  have:=Nat.and_two_pow_sub_one_eq_mod x 32
  rw[show(4294967295:Nat)=2^32-1 from rfl,this]
  omega
 rw[o]
 exact gI (by omega) (by omega)
theorem H_{x:Nat}(J:x<4294967296):Int.fdiv (x:Int) 4294967296=0:=by
 rw[Int.fdiv_eq_ediv_of_nonneg _ (by decide)]
 omega
theorem abT{a b:Nat}{H:ad}(aL:a<65536)(af:b<65536):aX prog 112 [.int .u64 a,.int .u64 b] H (fun u H1=>H1=H/\u= .tuple #[.int .u64 0,.int .u64 (a*b:Nat)]):=by
 refine aX.cc fun Q aD=>?_
 apply ZH (by simp)
 obtain⟨p,aK⟩:∃p,p=a*b:=⟨_,rfl⟩
 have h3:p<4294967296:=by
  have:=Nat.mul_lt_mul'' aL af
  omega
 have XD:(a:Int)*(b:Int)=(p:Int):=by rw[aK];simp
 have ek:IntKind.wrap .u64 0=0:=by decide
 have wp:IntKind.wrap .u64 (p:Int)=p:=gI (by omega) (by omega)
 have eB:=K8 (show a<4294967296 by omega)
 have ff:=K8 (show b<4294967296 by omega)
 have ahZ:Int.fdiv 0 4294967296=0:=by decide
 have IY:A0 0 4294967295=0:=by decide
 simp[Ka,eB,ff,H_ (show a<4294967296 by omega),H_ (show b<4294967296 by omega),XD,wp,ek,H_ h3,ahZ,IY,bf]
 exact aD _ _ ⟨rfl,by simp[aK]⟩
theorem HB{a b:Nat}{H:ad}(aL:a<65536)(af:b<65536):aX prog 89 [.int .u64 a,.int .u64 b] H (fun u H1=>H1=H/\u= .tuple #[.int .u64 0,.int .u64 (a*b:Nat)]):=by
 refine aX.cc fun Q aD=>?_
 apply ZG (by simp)
 simp[J_]
 refine aY.mk (abT aL af) ?_
 rintro u H1 ⟨rfl,rfl⟩
 simp[bf]
 exact aD _ _ ⟨rfl,by simp⟩
theorem IE{n:Nat}(h:n<65536):IntKind.u64.wrap (n:Int)=n:=gI (by omega) (by omega)
theorem w0{n:Nat}(h:n<65536):IntKind.i64.wrap (n:Int)=n:=b2 (by omega) (by omega)
theorem QE{α:Type}{ae:ad->Value->α->Prop}[bM ae]{v:Value}{a:α}{n:Nat}{H:ad}(aZ:Row 3 1 false ae H v [a])(aF:n<65536)
  (ly:∀H u y,ae H u y->Whole prog 3 u)(hY:∀H aI dp u y,Kept H aI dp 3->ae H u y->ae aI u y):
  aX prog 60 [v,.int .i64 n] H (fun u H1=>Ext H H1/\bB H.length 3 1 false ae H1 u (List.replicate n a)):=by
 refine aX.cc fun Q aD=>?_
 apply aaS (by simp)
 obtain⟨hI,cm,an⟩:=aZ.len
 subst an
 have ph:=IE aF
 have jX:=w0 aF
 simp[KS]
 refine bV.join (by kernel_rfl) (fun cQ dQ bT=>bT=H) ?_ ?_
 ·rintro K a4-
  simp
  refine br.b_ (fun h=>by omega) (fun _=>?_)
  exact a4 _ _ _ rfl
 rintro cQ dQ bT rfl
 simp
 refine cD (ae:=ae) (xs:=[a]) (by simpa using aZ) (by simp) ?_
 have a9:IntKind.u64.wrap 1=((1:Nat):Int):=by decide
 simp[ph,a9]
 refine aY.mk (HB (a:=1) (b:=n) (by omega) aF) ?_
 rintro u H1 ⟨rfl,rfl⟩
 simp
 refine bV.join (by kernel_rfl) (fun fa gJ b7=>b7=H1) ?_ ?_
 ·rintro K a4-
  rw[kP]
  refine bV.join (by kernel_rfl) (fun fa gJ b7=>b7=H1/\fa 26= .bool false) ?_ ?_
  ·rintro er kh-
   simp
   exact kh _ _ _ ⟨rfl,by simp;omega⟩
  ·rintro fa gJ b7 ⟨rfl,oR⟩
   simp only[g_]at oR
   simp at oR
   simp[oR]
   exact a4 _ _ _ rfl
 rintro fa gJ b7 rfl
 simp[jX]
 refine tf (e:=3) (R:=1) (bI:=8) (ay:=false) (n:=n) (e6:= .i64) (dc:= .i64) (z:=(.int .i64 0)) (ae:=fl prog 3 ae) (a:=none) (by simp) (by simp) (by simp) (by rfl) (by first | rfl | simp[flat,hd]) (by simp) ⟨by rfl,by rfl,by simp[e7]⟩ (by simp) (by simp) (by decide) (by decide) (by omega) (fun aI=>⟨by rfl,by rfl,by simp[e7]⟩) ?_
 rintro aw dx cR cB-
 simp
 refine td (e:=3) (R:=1) (ay:=false) (ae:=fl prog 3 ae) (xs:=List.replicate n none) (bY:=[some a]) (u:=aw) (j:=0) (m:=n) (k:=b7.length) cR (by simpa using cR.sub) (by simp) (by simpa using bM.ext aZ.opt cB) (fl.jL fun u y=>ly _ u y) (fl.kept (hY _)) (by simp) (by simp) (by simp) (by decide) (by decide) ?_
 rintro cw hf ch- - -
 rw[H2]at hf
 simp
 refine c6.mk (by kernel_rfl) (fun m az bH H1=>∃q:Nat,m=n-q/\(0<q\/n=0)/\q<=n/\az 8= .int .i64 (q:Int)/\az 7=aw/\bB b7.length 3 1 false (fl prog 3 ae) H1 aw (List.replicate q (some a)++List.replicate (n-q) none)/\Ext b7 H1) (n-min n 1) ⟨min n 1,rfl,by omega,by omega,by simp,by simp,hf,ch _ (Nat.le_refl _) cB⟩ ?_
 rintro m kR m3 dW ⟨q,rfl,Co,ns,cz,cf,eJ,cH⟩ K a4
 simp at cz cf
 simp[cz,cf]
 refine cD (ae:=fl prog 3 ae) (xs:=List.replicate q (some a)++List.replicate (n-q) none) (by simpa[cf]using eJ.row) (by simp) ?_
 simp
 obtain⟨xs,h5⟩:∃xs,xs=List.replicate q (some a)++List.replicate (n-q) (none:Option α):=⟨_,rfl⟩
 have kK:xs.length=n:=by rw[h5];simp;omega
 rw[<-h5]at eJ
 refine br.b_ (fun a3=>?_) (fun h0=>?_)
 ·simp
  refine DJ (e:=3) (R:=1) (ay:=false) (ae:=fl prog 3 ae) (xs:=xs) (l:=q) (h:=n) (k:=b7.length) (by simpa[cf]using eJ) (by simp) (by simp) (by decide) (by simp[ea,cz]) (by simp[fo,kK]) (by omega) (by omega) ?_
  intro AD bp lC
  simp at lC
  simp
  refine tg (e:=3) (R:=1) (ay:=false) (ae:=fl prog 3 ae) (xs:=xs) (l:=0) (h:=q) (by simpa[cf]using eJ.row) (by simp) (by simp) (by decide) (by simp[ea,cz]) (by simp[fo,cz]) (by omega) (by omega) ?_
  intro rM bh
  have bj:(xs.drop 0).take (q-0)=List.replicate q (some a):=by rw[h5];simp
  rw[bj]at bh
  refine td (e:=3) (R:=1) (ay:=false) (ae:=fl prog 3 ae) (xs:=xs) (bY:=List.replicate q (some a)) (u:=aw) (j:=q) (m:=n-q) (k:=b7.length) eJ (by simpa using lC) (by omega) (by simpa using bh) (fl.jL fun u y=>ly _ u y) (fl.kept (hY _)) (by simp) (by simp) (by simp) (by decide) (by decide) ?_
  rintro eH ki c_- - -
  rw[h5,H3 a ns]at ki
  have iU:=w0 (n:=q+min (n-q) q) (by omega)
  simp at iU
  simp[cz,iU]
  refine a4 (n-(q+min (n-q) q)) _ _ _ (by omega) ⟨q+min (n-q) q,rfl,by omega,by omega,by simp,by simp[cf],ki,c_ _ (Nat.le_refl _) cH⟩
 ·have pe:q=n:=by omega
  rw[h5,H0 a ns (by omega)]at eJ
  simp[bf,cf]
  exact aD _ _ ⟨cH,eJ.IH⟩
theorem acM{α:Type}{ae:ad->Value->α->Prop}[bM ae]{v:Value}{a:α}{n:Nat}{H:ad}(aZ:Row 34 1 false ae H v [a])(aF:n<65536)
  (ly:∀H u y,ae H u y->Whole prog 34 u)(hY:∀H aI dp u y,Kept H aI dp 34->ae H u y->ae aI u y):
  aX prog 73 [v,.int .i64 n] H (fun u H1=>Ext H H1/\bB H.length 34 1 false ae H1 u (List.replicate n a)):=by
 refine aX.cc fun Q aD=>?_
 apply aaR (by simp)
 obtain⟨hI,cm,an⟩:=aZ.len
 subst an
 have ph:=IE aF
 have jX:=w0 aF
 simp[KR]
 refine bV.join (by kernel_rfl) (fun cQ dQ bT=>bT=H) ?_ ?_
 ·rintro K a4-
  simp
  refine br.b_ (fun h=>by omega) (fun _=>?_)
  exact a4 _ _ _ rfl
 rintro cQ dQ bT rfl
 simp
 refine cD (ae:=ae) (xs:=[a]) (by simpa using aZ) (by simp) ?_
 have a9:IntKind.u64.wrap 1=((1:Nat):Int):=by decide
 simp[ph,a9]
 refine aY.mk (HB (a:=1) (b:=n) (by omega) aF) ?_
 rintro u H1 ⟨rfl,rfl⟩
 simp
 refine bV.join (by kernel_rfl) (fun fa gJ b7=>b7=H1) ?_ ?_
 ·rintro K a4-
  rw[kP]
  refine bV.join (by kernel_rfl) (fun fa gJ b7=>b7=H1/\fa 26= .bool false) ?_ ?_
  ·rintro er kh-
   simp
   exact kh _ _ _ ⟨rfl,by simp;omega⟩
  ·rintro fa gJ b7 ⟨rfl,oR⟩
   simp only[g_]at oR
   simp at oR
   simp[oR]
   exact a4 _ _ _ rfl
 rintro fa gJ b7 rfl
 simp[jX]
 refine tf (e:=34) (R:=1) (bI:=24) (ay:=false) (n:=n) (e6:= .i64) (dc:= .i64) (z:=(.slice none 0 0)) (ae:=fl prog 34 ae) (a:=none) (by simp) (by simp) (by simp) (by rfl) (by first | rfl | simp[flat,hd]) (by simp) ⟨by rfl,by rfl,by simp[e7]⟩ (by simp) (by simp) (by decide) (by decide) (by omega) (fun aI=>⟨by rfl,by rfl,by simp[e7]⟩) ?_
 rintro aw dx cR cB-
 simp
 refine td (e:=34) (R:=1) (ay:=false) (ae:=fl prog 34 ae) (xs:=List.replicate n none) (bY:=[some a]) (u:=aw) (j:=0) (m:=n) (k:=b7.length) cR (by simpa using cR.sub) (by simp) (by simpa using bM.ext aZ.opt cB) (fl.jL fun u y=>ly _ u y) (fl.kept (hY _)) (by simp) (by simp) (by simp) (by decide) (by decide) ?_
 rintro cw hf ch- - -
 rw[H2]at hf
 simp
 refine c6.mk (by kernel_rfl) (fun m az bH H1=>∃q:Nat,m=n-q/\(0<q\/n=0)/\q<=n/\az 8= .int .i64 (q:Int)/\az 7=aw/\bB b7.length 34 1 false (fl prog 34 ae) H1 aw (List.replicate q (some a)++List.replicate (n-q) none)/\Ext b7 H1) (n-min n 1) ⟨min n 1,rfl,by omega,by omega,by simp,by simp,hf,ch _ (Nat.le_refl _) cB⟩ ?_
 rintro m kR m3 dW ⟨q,rfl,Co,ns,cz,cf,eJ,cH⟩ K a4
 simp at cz cf
 simp[cz,cf]
 refine cD (ae:=fl prog 34 ae) (xs:=List.replicate q (some a)++List.replicate (n-q) none) (by simpa[cf]using eJ.row) (by simp) ?_
 simp
 obtain⟨xs,h5⟩:∃xs,xs=List.replicate q (some a)++List.replicate (n-q) (none:Option α):=⟨_,rfl⟩
 have kK:xs.length=n:=by rw[h5];simp;omega
 rw[<-h5]at eJ
 refine br.b_ (fun a3=>?_) (fun h0=>?_)
 ·simp
  refine DJ (e:=34) (R:=1) (ay:=false) (ae:=fl prog 34 ae) (xs:=xs) (l:=q) (h:=n) (k:=b7.length) (by simpa[cf]using eJ) (by simp) (by simp) (by decide) (by simp[ea,cz]) (by simp[fo,kK]) (by omega) (by omega) ?_
  intro AD bp lC
  simp at lC
  simp
  refine tg (e:=34) (R:=1) (ay:=false) (ae:=fl prog 34 ae) (xs:=xs) (l:=0) (h:=q) (by simpa[cf]using eJ.row) (by simp) (by simp) (by decide) (by simp[ea,cz]) (by simp[fo,cz]) (by omega) (by omega) ?_
  intro rM bh
  have bj:(xs.drop 0).take (q-0)=List.replicate q (some a):=by rw[h5];simp
  rw[bj]at bh
  refine td (e:=34) (R:=1) (ay:=false) (ae:=fl prog 34 ae) (xs:=xs) (bY:=List.replicate q (some a)) (u:=aw) (j:=q) (m:=n-q) (k:=b7.length) eJ (by simpa using lC) (by omega) (by simpa using bh) (fl.jL fun u y=>ly _ u y) (fl.kept (hY _)) (by simp) (by simp) (by simp) (by decide) (by decide) ?_
  rintro eH ki c_- - -
  rw[h5,H3 a ns]at ki
  have iU:=w0 (n:=q+min (n-q) q) (by omega)
  simp at iU
  simp[cz,iU]
  refine a4 (n-(q+min (n-q) q)) _ _ _ (by omega) ⟨q+min (n-q) q,rfl,by omega,by omega,by simp,by simp[cf],ki,c_ _ (Nat.le_refl _) cH⟩
 ·have pe:q=n:=by omega
  rw[h5,H0 a ns (by omega)]at eJ
  simp[bf,cf]
  exact aD _ _ ⟨cH,eJ.IH⟩
theorem acL{α:Type}{ae:ad->Value->α->Prop}[bM ae]{v:Value}{a:α}{n:Nat}{H:ad}(aZ:Row 80 4 true ae H v [a])(aF:n<65536)
  (ly:∀H u y,ae H u y->Whole prog 80 u)(hY:∀H aI dp u y,Kept H aI dp 80->ae H u y->ae aI u y):
  aX prog 96 [v,.int .i64 n] H (fun u H1=>Ext H H1/\bB H.length 80 4 true ae H1 u (List.replicate n a)):=by
 refine aX.cc fun Q aD=>?_
 apply aaT (by simp)
 obtain⟨hI,cm,an⟩:=aZ.len
 subst an
 have ph:=IE aF
 have jX:=w0 aF
 simp[KT]
 refine bV.join (by kernel_rfl) (fun cQ dQ bT=>bT=H) ?_ ?_
 ·rintro K a4-
  simp
  refine br.b_ (fun h=>by omega) (fun _=>?_)
  exact a4 _ _ _ rfl
 rintro cQ dQ bT rfl
 simp
 refine cD (ae:=ae) (xs:=[a]) (by simpa using aZ) (by simp) ?_
 have a9:IntKind.u64.wrap 1=((1:Nat):Int):=by decide
 simp[ph,a9]
 refine aY.mk (HB (a:=1) (b:=n) (by omega) aF) ?_
 rintro u H1 ⟨rfl,rfl⟩
 simp
 refine bV.join (by kernel_rfl) (fun fa gJ b7=>b7=H1) ?_ ?_
 ·rintro K a4-
  rw[kP]
  refine bV.join (by kernel_rfl) (fun fa gJ b7=>b7=H1/\fa 26= .bool false) ?_ ?_
  ·rintro er kh-
   simp
   exact kh _ _ _ ⟨rfl,by simp;omega⟩
  ·rintro fa gJ b7 ⟨rfl,oR⟩
   simp only[g_]at oR
   simp at oR
   simp[oR]
   exact a4 _ _ _ rfl
 rintro fa gJ b7 rfl
 simp[jX]
 refine tf (e:=80) (R:=4) (bI:=64) (ay:=true) (n:=n) (e6:= .i64) (dc:= .i64) (z:=(.agg #[.bool false,.slice none 0 0,.bool false,.slice none 0 0])) (ae:=fl prog 80 ae) (a:=none) (by simp) (by simp) (by simp) (by rfl) (by first | rfl | simp[flat,hd]) (by simp) ⟨by rfl,by rfl,by simp[e7]⟩ (by simp) (by simp) (by decide) (by decide) (by omega) (fun aI=>⟨by rfl,by rfl,by simp[e7]⟩) ?_
 rintro aw dx cR cB-
 simp
 refine td (e:=80) (R:=4) (ay:=true) (ae:=fl prog 80 ae) (xs:=List.replicate n none) (bY:=[some a]) (u:=aw) (j:=0) (m:=n) (k:=b7.length) cR (by simpa using cR.sub) (by simp) (by simpa using bM.ext aZ.opt cB) (fl.jL fun u y=>ly _ u y) (fl.kept (hY _)) (by simp) (by simp) (by simp) (by decide) (by decide) ?_
 rintro cw hf ch- - -
 rw[H2]at hf
 simp
 refine c6.mk (by kernel_rfl) (fun m az bH H1=>∃q:Nat,m=n-q/\(0<q\/n=0)/\q<=n/\az 8= .int .i64 (q:Int)/\az 7=aw/\bB b7.length 80 4 true (fl prog 80 ae) H1 aw (List.replicate q (some a)++List.replicate (n-q) none)/\Ext b7 H1) (n-min n 1) ⟨min n 1,rfl,by omega,by omega,by simp,by simp,hf,ch _ (Nat.le_refl _) cB⟩ ?_
 rintro m kR m3 dW ⟨q,rfl,Co,ns,cz,cf,eJ,cH⟩ K a4
 simp at cz cf
 simp[cz,cf]
 refine cD (ae:=fl prog 80 ae) (xs:=List.replicate q (some a)++List.replicate (n-q) none) (by simpa[cf]using eJ.row) (by simp) ?_
 simp
 obtain⟨xs,h5⟩:∃xs,xs=List.replicate q (some a)++List.replicate (n-q) (none:Option α):=⟨_,rfl⟩
 have kK:xs.length=n:=by rw[h5];simp;omega
 rw[<-h5]at eJ
 refine br.b_ (fun a3=>?_) (fun h0=>?_)
 ·simp
  refine DJ (e:=80) (R:=4) (ay:=true) (ae:=fl prog 80 ae) (xs:=xs) (l:=q) (h:=n) (k:=b7.length) (by simpa[cf]using eJ) (by simp) (by simp) (by decide) (by simp[ea,cz]) (by simp[fo,kK]) (by omega) (by omega) ?_
  intro AD bp lC
  simp at lC
  simp
  refine tg (e:=80) (R:=4) (ay:=true) (ae:=fl prog 80 ae) (xs:=xs) (l:=0) (h:=q) (by simpa[cf]using eJ.row) (by simp) (by simp) (by decide) (by simp[ea,cz]) (by simp[fo,cz]) (by omega) (by omega) ?_
  intro rM bh
  have bj:(xs.drop 0).take (q-0)=List.replicate q (some a):=by rw[h5];simp
  rw[bj]at bh
  refine td (e:=80) (R:=4) (ay:=true) (ae:=fl prog 80 ae) (xs:=xs) (bY:=List.replicate q (some a)) (u:=aw) (j:=q) (m:=n-q) (k:=b7.length) eJ (by simpa using lC) (by omega) (by simpa using bh) (fl.jL fun u y=>ly _ u y) (fl.kept (hY _)) (by simp) (by simp) (by simp) (by decide) (by decide) ?_
  rintro eH ki c_- - -
  rw[h5,H3 a ns]at ki
  have iU:=w0 (n:=q+min (n-q) q) (by omega)
  simp at iU
  simp[cz,iU]
  refine a4 (n-(q+min (n-q) q)) _ _ _ (by omega) ⟨q+min (n-q) q,rfl,by omega,by omega,by simp,by simp[cf],ki,c_ _ (Nat.le_refl _) cH⟩
 ·have pe:q=n:=by omega
  rw[h5,H0 a ns (by omega)]at eJ
  simp[bf,cf]
  exact aD _ _ ⟨cH,eJ.IH⟩
def IR(H:ad)(v:Value)(z:Int):Prop:=v= .int .i64 z
def mu(H:ad)(v:Value)(b:Bool):Prop:=v= .bool b
instance:bM IR:=⟨fun h _=>h⟩
instance:bM mu:=⟨fun h _=>h⟩
theorem hH(n:Int):Whole prog 3 (.int .i64 n):=⟨by rfl,by rfl,by simp[e7]⟩
theorem DY(b:Bool):Whole prog 4 (.bool b):=⟨by rfl,by rfl,by simp[e7]⟩
theorem Po{v:Value}{t:List (List Rat)}{H:ad}(bd:ig H v t):aX prog 48 [.agg #[v]] H (fun w H1=>Ext H H1/\w= .int .i64 t.length):=by
 refine aX.cc fun Q aD=>?_
 apply aaz (by simp)
 obtain⟨a,cap,rfl⟩:=Row.len bd
 simp[JD,bf]
 refine cD (ae:=jO) (xs:=t) (by simpa using bM.ext bd (Ext.more H (by simp))) (by simp) ?_
 simp[bf]
 exact aD _ _ ⟨Ext.more H (by simp),rfl⟩
theorem Hy{v:Value}{t:List (List Rat)}{eF:List Rat}{H:ad}(bd:ig H v t)(aG:t[0]?=some eF):aX prog 49 [.agg #[v]] H (fun w H1=>Ext H H1/\w= .int .i64 eF.length):=by
 refine aX.cc fun Q aD=>?_
 apply aaB (by simp)
 obtain⟨a,cap,rfl⟩:=Row.len bd
 simp[JE]
 refine cF (ae:=jO) (xs:=t) (n:=0) (a:=eF) (e:=120) (R:=1) (ay:=false) (by simpa using bM.ext bd (Ext.more H (by simp))) (by simp) aG (by simp) (by simp) (by simp) (by decide) ?_
 intro HJ II qf
 refine cD (ae:=ck) (xs:=eF) (by simpa using qf) (by simp) ?_
 simp[bf]
 exact aD _ _ ⟨Ext.more H (by simp),rfl⟩
def ju(t:List (List Rat))(k:Nat):List Rat:=t.map fun r=>r[k]?.getD 0
def e8(m:Nat)(t:List (List Rat)):List (List Rat):=(List.range m).map (ju t)
def lf(m:Nat)(t:List (List Rat))(i j:Nat):List (List Rat):=(List.range m).map fun a=>if a<i then ju t a else if a=i then ju (t.take j) a else[]
theorem ad2(m:Nat)(t:List (List Rat)):lf m t 0 0=List.replicate m []:=by
 unfold lf
 apply List.ext_getElem?
 intro a
 simp[List.getElem?_replicate,List.getElem?_range]
 by_cases h:a<m
 ·simp[h,ju]
 ·simp[h]
theorem adY{m:Nat}{t:List (List Rat)}{i j:Nat}(ab:i<m):(lf m t i j)[i]?=some (ju (t.take j) i):=by
 simp[lf,List.getElem?_range,ab]
theorem ad1{m:Nat}{t:List (List Rat)}{i j:Nat}{row:List Rat}(ab:i<m)(al:t[j]?=some row):(lf m t i j).set i (ju (t.take j) i++[row[i]?.getD 0])=lf m t i (j+1):=by
 apply List.ext_getElem?
 intro a
 rw[List.getElem?_set]
 have aN:=(cn.1 al)
 by_cases h:i=a
 ·subst h
  simp only[lf,List.length_map,List.length_range,ab,if_true,List.getElem?_map,List.getElem?_range ab]
  simp[ju,List.take_add_one,al]
 ·rw[if_neg h]
  simp only[lf,List.getElem?_map]
  by_cases aL:a<m
  ·simp[List.getElem?_range aL,show¬a=i by omega]
  ·simp[aL]
theorem ad0(m:Nat)(t:List (List Rat))(i:Nat):lf m t i t.length=lf m t (i+1) 0:=by
 unfold lf
 apply List.map_congr_left
 intro a _
 by_cases o:a<i
 ·simp[o,show a<i+1 by omega]
 ·by_cases aa:a=i
  ·subst aa;simp
  ·simp[o,aa,show¬a<i+1 by omega,ju]
theorem adX(m:Nat)(t:List (List Rat)):lf m t m 0=e8 m t:=by
 unfold lf e8
 apply List.map_congr_left
 intro a aL
 simp at aL
 simp[aL]
theorem adZ(m:Nat)(t:List (List Rat))(i j:Nat):(lf m t i j).length=m:=by simp[lf]
theorem IT(a:Option Addr)(n c:Nat):Whole prog 120 (.slice a n c):=⟨by rfl,by rfl,by simp[e7]⟩
theorem bB.jL{α:Type}{k e R:Nat}{ay:Bool}{ae:ad->Value->α->Prop}{H:ad}{v:Value}{xs:List α}(h:bB k e R ay ae H v xs):Whole prog 120 v:=by
 obtain⟨a,c,rfl⟩:=h.len
 exact IT _ _ _
theorem Iu{v:Value}{t:List (List Rat)}{m:Nat}{H:ad}(bd:ig H v t)(bG:0<t.length)(au:t.length<65536)(hm:∀r∈t,r.length=m)(nq:m<65536):
  aX prog 34 [.agg #[v]] H (fun u H1=>Ext H H1/\∃w,u= .agg #[w]/\ig H1 w (e8 m t)):=by
 refine aX.cc fun Q aD=>?_
 apply aaG (by simp)
 obtain⟨a,c,rfl⟩:=Row.len bd
 obtain⟨eF,fp⟩:∃eF,t[0]?=some eF:=⟨_,bs bG⟩
 have qc:=hm eF (List.mem_of_getElem? fp)
 simp[KN]
 have bz:Ext H (H++[.dead,.dead]):=Ext.more H (by simp)
 refine aY.mk (Hy (bd.ext bz) fp) ?_
 rintro u H1 ⟨bp,rfl⟩
 rw[qc]
 have hK:=bd.ext (bz.av bp)
 have NW:0<H1.length:=by have:=Ext.len (bz.av bp);have:=Ext.len bp;simp at this;omega
 refine tf (e:=120) (R:=1) (bI:=24) (ay:=false) (n:=m) (e6:= .i64) (dc:= .i64) (z:= .slice none 0 0) (ae:=ga) (a:= .slice none 0 0) (by simp) (by simp) (by simp) (by rfl) (by rfl) (by simp) (IT _ _ _) (by simp) (by simp) (by decide) (by decide) (by omega) (fun aI=>rfl) ?_
 rintro w aT fU bh-
 have qZ:=dZ.PO (e:=80) (R:=4) (ay:=true) (ae:=ck) NW fU
 simp
 refine cD (ae:=ga) (xs:=List.replicate m (.slice none 0 0)) (by simpa using fU.row) (by simp) ?_
 simp
 refine c6.range (by kernel_rfl) m (by omega) (by simp) (by rfl) (by simp) (by decide) (by decide) (fun i di ev bS=>Ext H1 bS/\∃us,dZ H1.length 120 80 4 true ck bS w (lf m t i 0) us) ?_ ?_ ?_
 ·exact⟨bh,_,by rw[ad2];exact qZ⟩
 ·rintro i di ev bS ab a7 ⟨bO,us,hB⟩ K a4
  simp at a7
  simp[a7]
  refine cD (ae:=jO) (xs:=t) (by simpa using bM.ext hK bO) (by simp) ?_
  simp
  refine c6.range (by kernel_rfl) t.length (by omega) (by simp) (by rfl) (by simp) (by decide) (by decide) (fun j cQ dQ bT=>Ext H1 bT/\∃us,dZ H1.length 120 80 4 true ck bT w (lf m t i j) us) ?_ ?_ ?_
  ·exact⟨bO,us,hB⟩
  ·rintro j cQ dQ bT aN hW ⟨b8,Az,kj⟩ oz g7
   simp at hW
   simp[hW]
   obtain⟨row,ei⟩:∃row,t[j]?=some row:=⟨_,bs aN⟩
   have uz:=hm row (List.mem_of_getElem? ei)
   obtain⟨q,aq⟩:∃q,row[i]?=some q:=⟨_,bs (by omega)⟩
   refine cF (ae:=jO) (xs:=t) (n:=j) (a:=row) (e:=120) (R:=1) (ay:=false) (by simpa using bM.ext hK b8) (by simp[hW]) ei (by simp) (by simp) (by simp) (by decide) ?_
   intro ho II qf
   simp
   obtain⟨u,hu,BC⟩:=kj.pC (adY ab)
   refine cF (ae:=ga) (xs:=Az) (n:=i) (a:=u) (e:=120) (R:=1) (ay:=false) (by simpa using kj.own.row) (by simp) hu (by simp) (by simp) (by simp) (by decide) ?_
   rintro iK mX rfl
   simp
   refine cF (ae:=ck) (xs:=row) (n:=i) (a:=q) (e:=80) (R:=4) (ay:=true) (by simpa using qf) (by simp) aq (by simp) (by simp) (by simp) (by decide) ?_
   intro mT x J
   refine As (k:=H1.length) (e:=80) (R:=4) (ay:=true) (bI:=64) (z:= .agg #[.bool false,.slice none 0 0,.bool false,.slice none 0 0]) (ae:=ck) (xs:=ju (t.take j) i) (a:=q) (by simpa using BC) (by simpa using J) (by simpa using J.whole) (by simp) (fun aI dp u y ah h=>h.kept ah (by decide)) (by simp) (by simp) (by simp) (by simp) (by simp) (by rfl) (by rfl) (by first | rfl | simp[flat,hd]) (by rfl) (by decide) (by decide) (by decide) (by simp[ju];omega) (by have:=Ext.len b8;omega) ?_
   intro px xC cw hf ch kG p4 sy
   simp at kG p4
   refine ja (k:=H1.length) (e:=120) (R:=1) (ay:=false) (n:=i) (ae:=ga) (xs:=Az) (a:=xC) (by simpa using kj.own.other kG (by decide) fun _ _ h=>h) (by simp) (by have:=kj.len;rw[adZ]at this;omega) (by simp[ga]) (by simpa using hf.jL) (by simp) (fun _ _ _ _ _ h=>h) (by simp) (by simp) (by simp) (by decide) ?_
   rintro py dW eJ cH qa sz-
   simp at eJ qa
   simp
   refine g7 _ _ _ (by simp[hW]) ⟨cH _ (Nat.le_refl _) (ch _ (Nat.le_refl _) b8),Az.set i xC,?_⟩
   have:=kj.put hu (by decide) kG p4 hf (fun u x h=>h.kept kG (by decide)) eJ qa (fun u x h=>h.kept qa (by decide))
   rw[show ju (t.take j) i++[q]=ju (t.take j) i++[row[i]?.getD 0] by rw[aq];rfl,ad1 ab ei]at this
   exact this
  ·rintro cQ dQ bT hW ⟨b8,Az,kj⟩
   simp at hW
   simp[hW]
   refine a4 _ _ _ (by simp[a7]) ⟨b8,Az,?_⟩
   rw[<-ad0]
   exact kj
 ·rintro di ev bS a7 ⟨bO,us,hB⟩
  have ei:=hB.row
  rw[adX]at ei
  obtain⟨aiI,ajr,rfl⟩:=hB.own.len
  simp[bf]
  exact aD _ _ ⟨bz.av (bp.av bO),_,rfl,ei⟩
abbrev ee(H:ad)(v:Value)(l:List Int):Prop:=Row 3 1 false IR H v l
abbrev gr(H:ad)(v:Value)(t:List (List Int)):Prop:=Row 34 1 false ee H v t
instance:bM ee:=⟨fun h J=>bM.ext (ae:=Row 3 1 false IR) h J⟩
instance:bM gr:=⟨fun h J=>bM.ext (ae:=Row 34 1 false ee) h J⟩
theorem ll.row{H:ad}{v:Value}{l:List Int}(h:ll H v l):ee H v l:=⟨_,h,fun i x ab=>by
 show eI false 1 _ i= .int .i64 x
 unfold eI
 simp[ab]⟩
theorem Row.is{H:ad}{v:Value}{l:List Int}(h:ee H v l):ll H v l:=by
 obtain⟨cs,o,aa⟩:=h
 have au:cs.length=l.length:=by obtain⟨_,_,_,_,q,_⟩:=o;omega
 have:cs=l.map (Value.int .i64):=by
  apply List.ext_getElem?
  intro i
  rw[List.getElem?_map]
  by_cases ab:i<l.length
  ·have:=aa i _ (bs ab)
   rw[bs ab,bs (by omega)]
   unfold IR eI at this
   simp[bs (show i<cs.length by omega)]at this
   simp[this]
  ·rw[List.getElem?_eq_none (by omega),List.getElem?_eq_none (by omega)]
   rfl
 unfold ll
 rw[<-this]
 exact o
theorem Row.w1{H:ad}{v:Value}{t:List (List Int)}(h:gr H v t):kS H v t:=by
 obtain⟨cs,o,aa⟩:=h
 have au:cs.length=t.length:=by obtain⟨_,_,_,_,q,_⟩:=o;omega
 refine⟨cs,o,au,fun i ab=>?_⟩
 have:=aa i _ (bs ab)
 rw[bs ab]
 unfold eI at this
 simp only[Bool.false_eq_true,if_false]at this
 exact this.is
theorem kS.row{H:ad}{v:Value}{t:List (List Int)}(h:kS H v t):gr H v t:=by
 obtain⟨aH,o,aa,aE⟩:=h
 refine⟨aH,o,fun i r ab=>?_⟩
 have cA:=(cn.1 ab).1
 have:=aE i cA
 rw[ab]at this
 unfold eI
 simp only[Bool.false_eq_true,if_false]
 exact this.row
def cr(t:List (List Int)):List (List Rat):=t.map fun r=>r.map fun x=>((x:Int):Rat)
theorem QA{v:Value}{t:List (List Int)}{H:ad}(bd:gr H v t)(au:t.length<65536)(al:∀r∈t,r.length<65536)(af:∀r∈t,∀x∈r,-9223372036854775808<=x/\x<9223372036854775808):
  aX prog 32 [v] H (fun w H1=>Ext H H1/\∃a c us,w= .agg #[.slice a t.length c]/\dZ (H.length+1) 120 80 4 true ck H1 (.slice a t.length c) (cr t) us):=by
 refine aX.cc fun Q aD=>?_
 apply aax (by simp)
 obtain⟨a,cap,rfl⟩:=Row.len bd
 simp[KG]
 have bz:Ext H (H++[.dead]):=Ext.dead H
 refine cD (ae:=ee) (xs:=t) (by simpa using bM.ext (ae:=gr) bd bz) (by simp) ?_
 simp
 refine c6.range (by kernel_rfl) t.length (by omega) (by simp) (by rfl) (by simp) (by decide) (by decide) (fun i bU dd aT=>Ext (H++[.dead]) aT/\∃us,dZ (H.length+1) 120 80 4 true ck aT (bU 3) (cr (t.take i)) us) ?_ ?_ ?_
 ·exact⟨Ext.refl _,[],by simpa[cr]using dZ.nil _ _ _ _ _ _ _ (by omega)⟩
 ·rintro i bU dd aT ab jS ⟨bh,us,hB⟩ K a4
  simp at jS hB
  refine Exists.elim (⟨_,bs ab⟩:∃row,t[i]?=some row) fun row ei=>?_
  have hM:=List.mem_of_getElem? ei
  have lB:=al row hM
  have im:=Ext.len bh
  simp at im
  simp[jS]
  refine cF (ae:=ee) (xs:=t) (n:=i) (a:=row) (e:=34) (R:=1) (ay:=false) (by simpa using bM.ext (ae:=gr) bd (bz.av bh)) (by simp[jS]) ei (by simp) (by simp) (by simp) (by decide) ?_
  intro fP pG lD
  simp
  refine cD (ae:=IR) (xs:=row) (by simpa using lD) (by simp) ?_
  simp
  refine c6.range (by kernel_rfl) row.length (by omega) (by simp) (by rfl) (by simp) (by decide) (by decide) (fun j cQ dQ bT=>Ext aT bT/\bB aT.length 80 4 true ck bT (cQ 6) ((row.take j).map fun x=>((x:Int):Rat))) ?_ ?_ ?_
  ·exact⟨Ext.refl _,by simpa using bB.nil _ _ _ _ _ _⟩
  ·rintro j cQ dQ bT aN hW ⟨b8,g8⟩ oz g7
   simp at hW g8
   refine Exists.elim (⟨_,bs aN⟩:∃x,row[j]?=some x) fun x J=>?_
   have G8:=af row hM x (List.mem_of_getElem? J)
   have uj:=Ext.len b8
   simp[hW]
   refine cF (ae:=IR) (xs:=row) (n:=j) (a:=x) (e:=3) (R:=1) (ay:=false) (by simpa using bM.ext (ae:=Row _ _ _ IR) lD b8) (by simp[hW]) J (by simp) (by simp) (by simp) (by decide) ?_
   rintro iK mX rfl
   simp
   refine aY.mk (Aa G8.1 G8.2) ?_
   rintro w b7 ⟨ct,hw⟩
   refine rJ (k:=aT.length) (e:=80) (R:=4) (ay:=true) (bI:=64) (z:= .agg #[.bool false,.slice none 0 0,.bool false,.slice none 0 0]) (ae:=ck) (xs:=(row.take j).map fun x=>((x:Int):Rat)) (a:=(x:Rat)) (by simpa using bM.ext (ae:=bB _ _ _ _ ck) g8 ct) (by simpa using hw) (by simpa using hw.whole) (by simp) (fun aI dp u y ah h=>h.kept ah (by decide)) (by simp) (by simp) (by simp) (by simp) (by simp) (by rfl) (by rfl) (by first | rfl | simp[flat,hd]) (by rfl) (by decide) (by decide) (by decide) (by simp;omega) (by have:=Ext.len ct;omega) ?_
   intro mT v6 dx jw cB sx
   try simp
   refine g7 _ _ _ (by simp[hW]) ⟨cB _ (Nat.le_refl _) (b8.av ct),?_⟩
   rw[List.take_add_one,J,List.map_append]
   simpa using jw
  ·rintro cQ dQ bT hW ⟨b8,g8⟩
   simp at g8
   have kj:=dZ.ext hB b8
   have uj:=Ext.len b8
   have ri:=g8.jL
   have jA:=hB.len
   simp[cr]at jA
   try simp
   refine As (k:=H.length+1) (e:=120) (R:=1) (ay:=false) (bI:=24) (z:= .slice none 0 0) (ae:=ga) (xs:=us) (a:=cQ 6) (by simpa using kj.own) (by simp[ga]) (by simpa using ri) (by simp) (fun _ _ _ _ _ h=>h) (by simp) (by simp) (by simp) (by simp) (by simp) (by rfl) (by rfl) (by rfl) (by rfl) (by decide) (by decide) (by decide) (by omega) (by omega) ?_
   intro px xC cw hf ch kG p4 sy
   simp at kG p4
   have qe:=dZ.snoc (cJ:=aT) (ob:=aT.length) kj (fun b aG af=>(g8.ge af aG).1) (fun j u b hu af aG=>hB.lt j u b hu af aG) (by decide) (g8.le (by omega)) hf kG (fun u x h=>h.kept kG (by decide))
   try simp
   refine a4 _ _ _ (by simp[jS]) ⟨ch _ (by simp) (bh.av b8),us++[cQ 6],?_⟩
   rw[List.take_add_one,ei]
   simpa[cr]using qe
 ·rintro bU dd aT jS ⟨bh,us,hB⟩
  simp at hB
  obtain⟨dg,lc,nn⟩:=hB.own.len
  have jA:=hB.len
  simp[cr]at jA
  rw[nn,jA]at hB
  simp[nn,jA,bf]
  exact aD _ _ ⟨bz.av bh,dg,lc,us,rfl,hB⟩
theorem xl{v:Value}{t:List (List Int)}{H:ad}(bd:gr H v t)(au:t.length<65536)(al:∀r∈t,r.length<65536)(af:∀r∈t,∀x∈r,-9223372036854775808<=x/\x<9223372036854775808):
  aX prog 32 [v] H (fun w H1=>Ext H H1/\∃a c,w= .agg #[.slice a t.length c]/\ig H1 (.slice a t.length c) (cr t)):=
 (QA bd au al af).mono fun w H1 ⟨J,a,c,us,hw,cR⟩=>⟨J,a,c,hw,cR.row⟩
def vu(N:Nat)(t:List (List Rat)):Prop:=∀r∈t,(∀k,dj N (eS (r.take k)))/\∀q∈r,dj N q
theorem vu.sum{N:Nat}{t:List (List Rat)}(h:vu N t){r:List Rat}(al:r∈t):dj N (eS r):=by
 have:=(h r al).1 r.length
 rwa[List.take_length]at this
def dU(t:List (List Rat))(i:Nat):Rat:=eS (t[i]?.getD [])
def dI(f:Nat->Rat):Nat->Rat×Nat
 | 0=>(f 0,0)
 | n+1=>if(dI f n).1<f n then(f n,n)else dI f n
theorem uT(f:Nat->Rat)(n:Nat):(dI f n).1=f (dI f n).2/\((dI f n).2<n\/(dI f n).2=0):=by
 induction n with
 | zero=>simp[dI]
 | succ n a2=>
  simp only[dI]
  split
  ·exact⟨rfl,.inl (Nat.lt_succ_self n)⟩
  ·exact⟨a2.1,by omega⟩
theorem C2(f:Nat->Rat){n i:Nat}(ab:i<n):f i<=(dI f n).1:=by
 induction n with
 | zero=>omega
 | succ n a2=>
  simp only[dI]
  by_cases gz:i=n
  ·subst gz
   split
   ·exact Rat.le_refl
   ·rename_i h;exact Rat.not_lt.1 h
  ·have:=a2 (by omega)
   split
   ·rename_i h;exact Rat.le_trans this (Rat.le_of_lt h)
   ·exact this
theorem abO(f:Nat->Rat){n i:Nat}(ab:i<(dI f n).2):f i<(dI f n).1:=by
 induction n with
 | zero=>simp[dI]at ab
 | succ n a2=>
  simp only[dI]at ab⊢
  split at ab
  ·rename_i h
   rw[if_pos h]
   exact Std.lt_of_le_of_lt (C2 f ab) h
  ·rename_i h
   rw[if_neg h]
   exact a2 ab
theorem xu{t:List (List Rat)}{i:Nat}(ab:i<t.length):∃r,t[i]?=some r/\r∈t/\dU t i=eS r:=
 ⟨_,bs ab,List.getElem_mem ab,by simp[dU,bs ab]⟩
theorem z3{N:Nat}{t:List (List Rat)}(aQ:vu N t)(bG:0<t.length){n:Nat}(aF:n<=t.length):dj N (dI (dU t) n).1:=by
 obtain⟨o,aa⟩:=uT (dU t) n
 rw[o]
 obtain⟨r,-,aO,bw⟩:=xu (t:=t) (i:=(dI (dU t) n).2) (by omega)
 rw[bw]
 exact aQ.sum aO
theorem C4{v:Value}{t:List (List Rat)}{N:Nat}{H:ad}(bd:ig H v t)(bG:0<t.length)(au:t.length<65536)(lB:∀r∈t,r.length<65536)(aQ:vu N t)(bW:N<=1000000):
  aX prog 33 [.agg #[v]] H (fun u H1=>Ext H H1/\∃w,u= .tuple #[w,.int .i64 ((dI (dU t) t.length).2:Nat)]/\ck H1 w (dI (dU t) t.length).1):=by
 refine aX.cc fun Q aD=>?_
 apply aaC (by simp)
 obtain⟨a,c,rfl⟩:=Row.len bd
 simp[KJ]
 have bz:Ext H (H++[.dead,.dead]):=Ext.more H (by simp)
 obtain⟨eF,fp,qc,zk⟩:=xu bG
 refine aY.mk (ru (j:=0) (bd.ext bz) fp (by have:=lB eF qc;omega) (by omega) (aQ eF qc).1 (aQ eF qc).2 bW) ?_
 rintro xp H1 ⟨bp,n1⟩
 simp
 refine cY.mk n1.whole ?_
 simp
 have bh:Ext H1 (H1++[.dead]):=Ext.dead H1
 have n6:=bz.av (bp.av bh)
 refine aY.mk (Po (bd.ext n6)) ?_
 rintro u bS ⟨bO,rfl⟩
 have jT:=bd.ext (n6.av bO)
 simp
 refine c6.range (by kernel_rfl) t.length (by omega) (by simp) (by rfl) (by simp) (by decide) (by decide) (fun i di ev bT=>Ext bS bT/\ck bT (ev 4) (dI (dU t) i).1/\di 5= .int .i64 ((dI (dU t) i).2:Nat)) ?_ ?_ ?_
 ·refine⟨Ext.refl _,?_,by simp[dI]⟩
  simp only[dI,zk]
  simpa using n1.ext (bh.av bO)
 ·rintro i di ev bT ab a7 ⟨b8,hm,bQ⟩ K a4
  simp at a7 hm bQ
  obtain⟨b,af⟩:∃b,(dI (dU t) i).1=b:=⟨_,rfl⟩
  obtain⟨jL,OT⟩:∃jL,(dI (dU t) i).2=jL:=⟨_,rfl⟩
  have wx:dj N b:=by rw[<-af];exact z3 aQ bG (by omega)
  rw[af]at hm
  rw[OT]at bQ
  obtain⟨r,al,uz,uA⟩:=xu ab
  refine bV.join (by kernel_rfl) (fun fa gJ b7=>Ext bT b7/\ck b7 (gJ 4) (dI (dU t) (i+1)).1/\fa 5= .int .i64 ((dI (dU t) (i+1)).2:Nat)) ?_ ?_
  ·rintro er kh-
   simp[a7,bQ]
   refine aY.mk (ru (j:=i) (jT.ext b8) al (by have:=lB r uz;omega) (by omega) (aQ r uz).1 (aQ r uz).2 bW) ?_
   rintro s1 b7 ⟨ct,fO⟩
   simp
   refine cY.mk fO.whole ?_
   simp
   have cB:Ext b7 (b7++[.dead]):=Ext.dead b7
   have qk:=ct.av cB
   refine aY.mk (xh (fO.ext cB) (hm.ext qk) (aQ.sum uz) wx bW) ?_
   rintro eV cw ⟨ch,rfl⟩
   simp
   refine br.b_ (fun ag=>?_) (fun ag=>?_)
   ·have a3:b<eS r:=by
     by_cases o:eS r<b
     ·rw[if_pos o]at ag;omega
     ·rw[if_neg o]at ag
      by_cases aa:eS r=b
      ·rw[if_pos aa]at ag;omega
      ·exact Std.lt_of_le_of_ne (Rat.not_lt.1 o) (Ne.symm aa)
    simp
    refine cY.mk fO.whole ?_
    simp
    refine kh _ _ _ ⟨qk.av ch,?_,?_⟩
    ·simp only[dI,af,uA,if_pos a3]
     simpa using fO.ext (cB.av ch)
    ·simp[dI,af,uA,if_pos a3]
   ·have a3:¬b<eS r:=by
     intro a3
     rw[if_neg (fun h=>Rat.lt_irrefl (Std.lt_trans h a3)),if_neg (fun h=>Rat.lt_irrefl (h▸a3))]at ag
     omega
    refine kh _ _ _ ⟨qk.av ch,?_,?_⟩
    ·simp only[dI,af,uA,if_neg a3]
     simpa using hm.ext (qk.av ch)
    ·simp[dI,af,uA,if_neg a3,OT,bQ]
  ·rintro fa gJ b7 ⟨ct,o,aa⟩
   exact a4 _ _ _ (by simp[a7]) ⟨b8.av ct,by simpa using o,by simpa using aa⟩
 ·rintro di ev bT a7 ⟨b8,hm,bQ⟩
  simp at hm bQ
  simp[bQ]
  refine cY.mk hm.whole ?_
  simp[bf,bQ]
  exact aD _ _ ⟨n6.av (bO.av b8),_,rfl,hm⟩
def fZ(m:Nat)(t:List (List Int)):List (List Int):=(List.range m).map fun k=>t.map fun r=>r[k]?.getD 0
theorem z_{m:Nat}{t:List (List Int)}:e8 m (cr t)=cr (fZ m t):=by
 unfold e8 cr fZ
 rw[List.map_map]
 apply List.map_congr_left
 intro k _
 unfold ju
 simp
 intro r _
 cases r[k]?<;>simp
theorem acD(r:List Int)(a:Int):(r.map fun x=>((x:Int):Rat)).foldl (·+·) ((a:Int):Rat)=((a+r.sum:Int):Rat):=by
 induction r generalizing a with
 | nil=>simp
 | cons x r a2=>
  simp only[List.map_cons,List.foldl_cons,List.sum_cons]
  rw[<-Rat.intCast_add,a2]
  congr 1
  omega
theorem Qs(r:List Int):eS (r.map fun x=>((x:Int):Rat))=((r.sum:Int):Rat):=by
 have:=acD r 0
 simpa[eS]using this
theorem adL{r:List Int}{B:Int}(h:∀x∈r,0<=x/\x<=B):0<=r.sum/\r.sum<=B*r.length:=by
 induction r with
 | nil=>simp
 | cons x r a2=>
  have o:=h x (by simp)
  have aa:=a2 fun y aP=>h y (by simp[aP])
  simp only[List.sum_cons,List.length_cons]
  rw[Int.natCast_add,Int.mul_add]
  simp
  omega
def lV(t:List (List Int)):Prop:=∀r∈t,r.length<=1000/\∀x∈r,0<=x/\x<=1000000
theorem lV.sum{r:List Int}(o:r.length<=1000)(aa:∀x∈r,0<=x/\x<=1000000):0<=r.sum/\r.sum<=1000000000:=by
 have:=adL aa
 omega
theorem lV.hQ{t:List (List Int)}(h:lV t):vu 64 (cr t):=by
 intro r al
 unfold cr at al
 rw[List.mem_map]at al
 obtain⟨dG,fW,rfl⟩:=al
 obtain⟨o,aa⟩:=h dG fW
 refine⟨fun k=>?_,fun q aq=>?_⟩
 ·rw[<-List.map_take,Qs]
  have:=lV.sum (r:=dG.take k) (by simp;omega) fun x J=>aa x (List.mem_of_mem_take J)
  exact dj.int (by omega) (by decide)
 ·rw[List.mem_map]at aq
  obtain⟨x,J,rfl⟩:=aq
  have:=aa x J
  exact dj.int (by omega) (by decide)
theorem lV.e8{m:Nat}{t:List (List Int)}(h:lV t)(au:t.length<=1000):lV (fZ m t):=by
 intro r al
 unfold fZ at al
 rw[List.mem_map]at al
 obtain⟨k,-,rfl⟩:=al
 refine⟨by simpa using au,fun x J=>?_⟩
 rw[List.mem_map]at J
 obtain⟨dG,fW,rfl⟩:=J
 cases ah:dG[k]? with
 | none=>simp
 | some y=>exact(h dG fW).2 y (List.mem_of_getElem? ah)
theorem g2.small{t:List (List Int)}(h:g2 t):lV t:=by
 intro r al
 obtain⟨o,aa,aE,bA,bQ⟩:=h
 have:=bQ r al
 unfold mz at this
 simp at this
 refine⟨by omega,fun x J=>?_⟩
 have:=this.2 x J
 omega
theorem g2.len{t:List (List Int)}(h:g2 t):∀r∈t,r.length=(t[0]?.getD []).length:=by
 intro r al
 obtain⟨o,aa,aE,bA,bQ⟩:=h
 have:=bQ r al
 unfold mz at this
 simp at this
 simpa using this.1
def jf(t:List (List Int)):Int×Int×Nat:=
 let m:=(t[0]?.getD []).length
 let j:=dI (dU (cr t)) t.length
 let k:=dI (dU (cr (fZ m t))) m
 if j.1<k.1 then(k.1.num,1,k.2)else(j.1.num,0,j.2)
theorem qs{t:List (List Int)}{i:Nat}:dU (cr t) i=(((t[i]?.getD []).sum:Int):Rat):=by
 unfold dU cr
 rw[List.getElem?_map]
 cases t[i]? with
 | none=>simp[eS]
 | some r=>simp only[Option.map_some,Option.getD_some];exact Qs r
theorem C3{t:List (List Int)}(h:lV t)(n:Nat):(dI (dU (cr t)) n).1.num.natAbs<=1000000000:=by
 rw[(uT _ n).1,qs,Rat.num_intCast]
 cases al:t[(dI (dU (cr t)) n).2]? with
 | none=>simp
 | some r=>
  have:=h r (List.mem_of_getElem? al)
  have:=lV.sum this.1 this.2
  simp only[Option.getD_some]
  omega
theorem Lx{a b:Rat}(ag:(0:Int)<if a<b then-1 else if a=b then 0 else 1):b<a:=by
 by_cases o:a<b
 ·rw[if_pos o]at ag;omega
 ·rw[if_neg o]at ag
  by_cases aa:a=b
  ·rw[if_pos aa]at ag;omega
  ·exact Std.lt_of_le_of_ne (Rat.not_lt.1 o) (Ne.symm aa)
theorem Lz{a b:Rat}(ag:¬(0:Int)<if a<b then-1 else if a=b then 0 else 1):¬b<a:=by
 intro a3
 rw[if_neg (fun h=>Rat.lt_irrefl (Std.lt_trans h a3)),if_neg (fun h=>Rat.lt_irrefl (h▸a3))]at ag
 omega
theorem Ic{v:Value}{a:Int}{H:ad}(bE:du H v a)(aG:a.natAbs<=1000000000):aX prog 37 [v] H (fun u H1=>Ext H H1/\u= .tuple #[.int .i64 a,.bool true]):=adv bE (by omega)
theorem Ll{v:Value}{t:List (List Int)}{H:ad}(bd:kS H v t)(au:t.length<65536)(al:∀r∈t,r.length<65536):
  aX prog 9 [v] H (fun u H1=>Ext H H1/\(g2 t->u= .tuple #[.int .i64 (jf t).1,.int .i64 (jf t).2.1,.int .i64 (jf t).2.2,.int .i64 0])/\(¬g2 t->u= .tuple #[.int .i64 0,.int .i64 0,.int .i64 0,.int .i64 1])):=by
 refine aX.cc fun Q aD=>?_
 obtain⟨m,hm⟩:∃m,m=(t[0]?.getD []).length:=⟨_,rfl⟩
 apply aap (by simp)
 simp[Ky]
 refine aY.mk (DV bd (by omega) fun r h=>by have:=al r h;omega) ?_
 rintro u H1 ⟨bp,rfl⟩
 simp
 refine br.mk (fun an=>?good) (fun an=>?bad)
 case bad=>
  simp at an
  simp[bf]
  exact aD _ _ ⟨bp,fun h=>absurd h an,fun _=>rfl⟩
 simp at an
 have ao:=an.small
 have eM:=an.len
 have v1:=an.1
 have v2:=an.2.1
 have vd:=an.2.2.1
 have v4:=an.2.2.2.1
 rw[<-hm]at eM vd v4
 simp
 refine aY.mk (xl (bd.ext bp).row (by omega) al fun r h x J=>by have:=(ao r h).2 x J;omega) ?_
 rintro _ aT ⟨bh,x2,x_,rfl,l4⟩
 simp
 have bO:Ext aT (aT++[.dead]):=Ext.dead aT
 have zj:∀r∈cr t,r.length=m:=fun r h=>by
  unfold cr at h
  rw[List.mem_map]at h
  obtain⟨dG,cq,rfl⟩:=h
  simpa using eM dG cq
 refine aY.mk (C4 (N:=64) (l4.ext bO) (by simp[cr];omega) (by simp[cr];omega) (fun r h=>by have:=zj r h;omega) ao.hQ (by decide)) ?_
 rintro u bT ⟨b8,w,rfl,hw⟩
 have sK:=hw.whole
 simp
 refine cY.mk hw.whole ?_
 simp
 have ct:Ext bT (bT++[.dead]):=Ext.dead bT
 have qj:=bO.av (b8.av ct)
 refine aY.mk (Iu (m:=m) (l4.ext qj) (by simp[cr];omega) (by simp[cr];omega) zj (by omega)) ?_
 rintro u dx ⟨cB,iN,rfl,nu⟩
 rw[z_]at nu
 have c3:=ao.e8 (m:=m) (by omega)
 simp
 refine aY.mk (C4 (N:=64) nu (by simp[cr,fZ];omega) (by simp[cr,fZ];omega) (fun r h=>by
  unfold cr fZ at h
  simp at h
  obtain⟨k,-,rfl⟩:=h
  simp;omega) c3.hQ (by decide)) ?_
 rintro u cw ⟨ch,cW,rfl,jE⟩
 simp
 refine cY.mk jE.whole ?_
 simp
 have cH:Ext cw (cw++[.dead]):=Ext.dead cw
 have gg:(cr t).length=t.length:=by simp[cr]
 have iG:(cr (fZ m t)).length=m:=by simp[cr,fZ]
 have sO:=ct.av (cB.av (ch.av cH))
 have su:=C3 ao t.length
 have WX:=C3 c3 m
 rw[gg]at hw
 rw[iG]at jE
 have ads:=z3 ao.hQ (t:=cr t) (n:=t.length) (by simp[cr];omega) (by simp[cr])
 have mV:=z3 c3.hQ (t:=cr (fZ m t)) (n:=m) (by simp[cr,fZ];omega) (by simp[cr,fZ])
 have bK:jf t=if(dI (dU (cr t)) t.length).1<(dI (dU (cr (fZ m t))) m).1 then((dI (dU (cr (fZ m t))) m).1.num,1,(dI (dU (cr (fZ m t))) m).2)else((dI (dU (cr t)) t.length).1.num,0,(dI (dU (cr t)) t.length).2):=by
  unfold jf
  rw[<-hm]
 rw[gg,iG]
 refine aY.mk (xh (N:=64) (jE.ext cH) (hw.ext sO) mV ads (by decide)) ?_
 rintro u eH ⟨c_,rfl⟩
 simp
 refine br.b_ (fun ag=>?_) (fun ag=>?_)
 ·have a3:=Lx ag
  rw[if_pos a3]at bK
  simp
  refine aY.mk (HI (jE.ext (cH.av c_))) ?_
  rintro z ku ⟨fq,aQ⟩
  simp
  refine aY.mk (Ic aQ WX) ?_
  rintro z hR ⟨e4,rfl⟩
  simp[bf]
  exact aD _ _ ⟨bp.av (bh.av (bO.av (b8.av (sO.av (c_.av (fq.av e4)))))),fun _=>by rw[bK],fun h=>absurd an h⟩
 ·have a3:=Lz ag
  rw[if_neg a3]at bK
  simp
  refine aY.mk (HI (hw.ext (sO.av c_))) ?_
  rintro z ku ⟨fq,aQ⟩
  simp
  refine aY.mk (Ic aQ su) ?_
  rintro z hR ⟨e4,rfl⟩
  simp[bf]
  exact aD _ _ ⟨bp.av (bh.av (bO.av (b8.av (sO.av (c_.av (fq.av e4)))))),fun _=>by rw[bK],fun h=>absurd an h⟩
end Go.cl
end
section
namespace Go.cl
def bC:Nat->(Nat->Rat)->Rat
 | 0,_=>0
 | n+1,f=>bC n f+f n
theorem fF{n:Nat}{f g:Nat->Rat}(h:∀i,i<n->f i=g i):bC n f=bC n g:=by
 induction n with
 | zero=>rfl
 | succ n a2=>simp only[bC];rw[a2 fun i ab=>h i (by omega),h n (by omega)]
theorem Ap(n:Nat)(f g:Nat->Rat):bC n (fun i=>f i+g i)=bC n f+bC n g:=by
 induction n with
 | zero=>simp only[bC];grind
 | succ n a2=>simp only[bC];rw[a2];grind
theorem rG(n:Nat):bC n (fun _=>0)=0:=by
 induction n with
 | zero=>rfl
 | succ n a2=>simp only[bC];rw[a2];grind
theorem Ih(n:Nat)(f:Nat->Rat)(c:Rat):bC n (fun i=>c*f i)=c*bC n f:=by
 induction n with
 | zero=>simp[bC]
 | succ n a2=>simp only[bC];rw[a2];grind
theorem Ig{n:Nat}{f g:Nat->Rat}(h:∀i,i<n->f i<=g i):bC n f<=bC n g:=by
 induction n with
 | zero=>simp only[bC];grind
 | succ n a2=>simp only[bC];have:=a2 fun i ab=>h i (by omega);have:=h n (by omega);grind
theorem Ii{n:Nat}{f:Nat->Rat}(h:∀i,i<n->0<=f i):0<=bC n f:=by
 have:=Ig (n:=n) (f:=fun _=>0) (g:=f) h
 rw[rG]at this;exact this
theorem Ik(n m:Nat)(f:Nat->Nat->Rat):bC n (fun i=>bC m (f i))=bC m (fun k=>bC n (fun i=>f i k)):=by
 induction n with
 | zero=>simp[bC,rG]
 | succ n a2=>simp only[bC];rw[a2,<-Ap]
theorem Ij(n m:Nat)(f:Nat->Rat):bC (n+m) f=bC n f+bC m (fun i=>f (n+i)):=by
 induction m with
 | zero=>simp only[bC,Nat.add_zero];grind
 | succ m a2=>rw[<-Nat.add_assoc];simp only[bC];rw[a2];grind
theorem ta{n:Nat}(j:Nat)(f:Nat->Rat):bC n (fun i=>if i=j then f i else 0)=if j<n then f j else 0:=by
 induction n with
 | zero=>simp[bC]
 | succ n a2=>
  simp only[bC];rw[a2]
  by_cases o:n=j
  ·subst o;simp;grind
  ·by_cases aa:j<n
   ·simp[o,aa,show j<n+1 by omega];grind
   ·simp[o,aa,show¬j<n+1 by omega];grind
theorem DC{n j:Nat}{f:Nat->Rat}(h:∀i,i<n->0<=f i)(aN:j<n):f j<=bC n f:=by
 induction n with
 | zero=>omega
 | succ n a2=>
  simp only[bC]
  have aG:=Ii (n:=n) (f:=f) fun i ab=>h i (by omega)
  have o:=h n (by omega)
  by_cases o_:j=n
  ·subst o_;grind
  ·have:=a2 (fun i ab=>h i (by omega)) (by omega);grind
def m9(n:Nat)(p:Nat->Bool):Nat:=((List.range n).filter p).length
theorem SY(n:Nat)(p:Nat->Bool):m9 (n+1) p=m9 n p+if p n=true then 1 else 0:=by
 unfold m9
 rw[List.range_succ,List.filter_append,List.length_append]
 congr 1
 by_cases h:p n=true<;>simp[h]
theorem HE{α:Type}[DecidableEq α]:∀{l da:List α},l.Nodup->(∀x∈l,x∈da)->l.length<=da.length
 | [],da,_,_=>by simp
 | x::l,da,aF,ao=>by
  have o:=ao x (by simp)
  have h1:=List.nodup_cons.1 aF
  have aa:=HE (l:=l) (da:=da.erase x) h1.2 fun y aP=>by
   have:y≠x:=fun e=>h1.1 (e▸aP)
   exact(List.mem_erase_of_ne this).2 (ao y (by simp[aP]))
  have aE:=List.length_erase_of_mem o
  have bA:=List.length_pos_of_mem o
  simp only[List.length_cons]
  omega
theorem SX{n:Nat}{p:Nat->Bool}{l:List Nat}(aF:l.Nodup)(h:∀x∈l,x<n/\p x=true):l.length<=m9 n p:=
 HE aF fun x J=>by simp[h x J]
theorem Q2(n:Nat)(p:Nat->Bool)(c:Rat):bC n (fun i=>if p i=true then c else 0)=(m9 n p:Rat)*c:=by
 induction n with
 | zero=>simp[bC,m9]
 | succ n a2=>
  simp only[bC];rw[a2,SY]
  by_cases h:p n=true
  ·simp[h];grind
  ·simp[h];grind
theorem dv{n:Nat}{A:Nat->Nat->Rat}{L:Rat}(aG:∀i k,i<n->k<n->0<=A i k)(al:∀i,i<n->bC n (A i)=L)(ag:∀k:Nat,k<n->bC n (fun i=>A i k)=L)(c1:0<L)
  (dX S:Nat->Bool)(ij:∀j,j<n->dX j=true->∀k:Nat,k<n->0<A j k->S k=true):m9 n dX<=m9 n S:=by
 have bn:bC n (fun j=>if dX j=true then L else 0)=bC n (fun j=>bC n (fun k=>if dX j=true then A j k else 0)):=by
  apply fF
  intro j aN
  by_cases h:dX j=true
  ·simp only[h,if_true];exact(al j aN).symm
  ·simp only[if_neg h];exact(rG n).symm
 have bj:bC n (fun j=>bC n (fun k=>if dX j=true then A j k else 0))<=bC n (fun j=>bC n (fun k=>if S k=true then A j k else 0)):=by
  refine Ig fun j aN=>Ig fun k ah=>?_
  have:=aG j k aN ah
  by_cases h:dX j=true
  ·simp only[h,if_true]
   by_cases ao:S k=true
   ·simp[ao]
   ·rw[if_neg ao]
    have:¬0<A j k:=fun aK=>ao (ij j aN h k ah aK)
    grind
  ·simp only[if_neg h]
   split
   ·exact this
   ·grind
 have fT:bC n (fun j=>bC n (fun k=>if S k=true then A j k else 0))=bC n (fun k=>if S k=true then L else 0):=by
  rw[Ik]
  apply fF
  intro k ah
  by_cases h:S k=true
  ·simp only[h,if_true];exact ag k ah
  ·simp only[if_neg h];exact rG n
 rw[<-bn,Q2,fT,Q2]at bj
 by_cases a3:m9 n dX<=m9 n S
 ·exact a3
 ·have aa:(m9 n S:Rat)<(m9 n dX:Rat):=by exact_mod_cast Nat.lt_of_not_le a3
  have aE:=Rat.mul_lt_mul_of_pos_right aa c1
  grind
def rV(n:Nat)(A:Nat->Nat->Rat)(b9:List Int):Prop:=b9.length=n/\∀k:Nat,k<n->b9[k]?.getD 0= -1\/∃j:Nat,j<n/\b9[k]?.getD 0=j/\0<A j k
structure rR (n:Nat) (A:Nat->Nat->Rat) (b9:List Int) (dw:List Bool) (dP:Nat) (b:Bool) (hO:List Int) (cU:List Bool):Prop where
 len:cU.length=n
 mono:∀k:Nat,dw[k]?.getD false=true->cU[k]?.getD false=true
 no:b=false->hO=b9/\(∀k:Nat,k<n->0<A dP k->cU[k]?.getD false=true)/\∀k:Nat,k<n->cU[k]?.getD false=true->dw[k]?.getD false=false->∃j:Nat,j<n/\b9[k]?.getD 0=j/\∀i,i<n->0<A j i->cU[i]?.getD false=true
 yes:b=true->rV n A hO/\(∀k:Nat,dw[k]?.getD false=true->hO[k]?=b9[k]?)/\∀j:Nat,hO.count (j:Int)=b9.count (j:Int)+if j=dP then 1 else 0
def qz(dw:List Bool):Nat:=dw.count false
theorem agv{dw:List Bool}{i:Nat}(ab:i<dw.length)(h:dw[i]?.getD false=false):qz (dw.set i true)+1=qz dw:=by
 unfold qz
 rw[bs ab]at h
 simp at h
 rw[List.count_set ab,h]
 have:0<List.count false dw:=List.count_pos_iff.2 (h▸List.getElem_mem ab)
 simp
 omega
theorem RF:∀{dw cU:List Bool},cU.length=dw.length->(∀k:Nat,dw[k]?.getD false=true->cU[k]?.getD false=true)->qz cU<=qz dw
 | [],cU,au,_=>by
  have:cU=[]:=List.eq_nil_of_length_eq_zero (by simpa using au)
  subst this
  exact Nat.le_refl _
 | b::dw,[],au,_=>by simp at au
 | b::dw,cg::cU,au,h=>by
  have a2:=RF (dw:=dw) (cU:=cU) (by simpa using au) fun k ah=>by
   have:=h (k+1)
   simp at this
   exact this ah
  have aG:=h 0
  simp at aG
  unfold qz at a2⊢
  rw[List.count_cons,List.count_cons]
  cases b with
  | true=>simp[aG rfl];exact a2
  | false=>cases cg<;>simp<;>omega
structure kt (n:Nat) (A:Nat->Nat->Rat) (b9:List Int) (dw:List Bool) (dP i:Nat) (cU:List Bool):Prop where
 len:cU.length=n
 mono:∀k:Nat,dw[k]?.getD false=true->cU[k]?.getD false=true
 done:∀k:Nat,k<i->0<A dP k->cU[k]?.getD false=true
 new:∀k:Nat,k<n->cU[k]?.getD false=true->dw[k]?.getD false=false->∃j:Nat,j<n/\b9[k]?.getD 0=j/\∀i,i<n->0<A j i->cU[i]?.getD false=true
section
variable {n:Nat} {A:Nat->Nat->Rat} {b9 hO:List Int} {dw cU xq:List Bool} {dP i:Nat}
theorem kt.zero(h:dw.length=n):kt n A b9 dw dP 0 dw:=⟨h,fun _ h=>h,fun k ah=>by omega,fun k _ o aa=>by rw[o]at aa;cases aa⟩
theorem kt.skip(h:kt n A b9 dw dP i cU)(ao:cU[i]?.getD false=true\/A dP i<=0):kt n A b9 dw dP (i+1) cU:=
 ⟨h.len,h.mono,fun k ah aK=>by
  by_cases fB:k<i
  ·exact h.done k fB aK
  ·obtain rfl:k=i:=by omega
   rcases ao with ao | ao
   ·exact ao
   ·grind,h.new⟩
theorem tJ{l:List Bool}{i k:Nat}(ab:i<l.length):(l.set i true)[k]?.getD false=(decide (k=i) || l[k]?.getD false):=by
 rw[List.getElem?_set]
 by_cases h:i=k
 ·subst h;simp[ab]
 ·simp[h,show¬k=i by omega]
theorem kt.fail(h:kt n A b9 dw dP i cU)(ab:i<n)(iY:cU[i]?.getD false=false){j:Nat}(aN:j<n)(iH:b9[i]?.getD 0=j)(al:rR n A b9 (cU.set i true) j false hO xq):hO=b9/\kt n A b9 dw dP (i+1) xq:=by
 obtain⟨e,dv,sC⟩:=al.no rfl
 have cA:i<cU.length:=by rw[h.len];exact ab
 have hm:∀k,cU[k]?.getD false=true->xq[k]?.getD false=true:=fun k ah=>al.mono k (by rw[tJ cA,ah];simp)
 have F5:xq[i]?.getD false=true:=al.mono i (by rw[tJ cA];simp)
 refine⟨e,al.len,fun k ah=>hm k (h.mono k ah),fun k ah aK=>?_,fun k ah o aa=>?_⟩
 ·by_cases fB:k<i
  ·exact hm k (h.done k fB aK)
  ·obtain rfl:k=i:=by omega
   exact F5
 ·by_cases fB:k=i
  ·subst fB;exact⟨j,aN,iH,dv⟩
  ·by_cases gM:cU[k]?.getD false=true
   ·obtain⟨dO,aU,aO,bw⟩:=h.new k ah gM aa
    exact⟨dO,aU,aO,fun i ab aK=>hm i (bw i ab aK)⟩
   ·exact sC k ah o (by rw[tJ cA];simp[fB];simpa using gM)
theorem kt.end(h:kt n A b9 dw dP n cU):rR n A b9 dw dP false b9 cU:=⟨h.len,h.mono,fun _=>⟨rfl,h.done,h.new⟩,fun h=>by cases h⟩
theorem LD{l:List Int}{i:Nat}(ab:i<l.length){a:Int}(j:Int):(l.set i a).count j+(if l[i]?.getD 0=j then 1 else 0)=l.count j+if a=j then 1 else 0:=by
 rw[List.count_set ab]
 rw[bs ab]
 simp only[Option.getD_some,beq_iff_eq]
 by_cases h:l[i]=j
 ·have:0<List.count j l:=List.count_pos_iff.2 (h▸List.getElem_mem ab)
  simp[h];split<;>omega
 ·simp[h]
theorem rV.set(h:rV n A b9)(ab:i<n)(aN:dP<n)(aK:0<A dP i):rV n A (b9.set i (dP:Int)):=by
 refine⟨by simp[h.1],fun k ah=>?_⟩
 by_cases fB:k=i
 ·subst fB
  rw[List.getElem?_set_self (by rw[h.1];exact ah)]
  exact .inr ⟨dP,aN,rfl,aK⟩
 ·rw[List.getElem?_set_ne (by omega)];exact h.2 k ah
theorem kt.free(h:kt n A b9 dw dP i cU)(eZ:rV n A b9)(ab:i<n)(uh:dP<n)(aK:0<A dP i)(iY:cU[i]?.getD false=false)(hm:b9[i]?.getD 0<0):rR n A b9 dw dP true (b9.set i (dP:Int)) (cU.set i true):=by
 have cA:i<cU.length:=by rw[h.len];exact ab
 have eM:i<b9.length:=by rw[eZ.1];exact ab
 refine⟨by simp[h.len],fun k ah=>by rw[tJ cA,h.mono k ah];simp,(fun h=>by cases h),fun _=>⟨eZ.set ab uh aK,fun k ah=>?_,fun j=>?_⟩⟩
 ·rw[List.getElem?_set_ne]
  rintro rfl
  rw[h.mono _ ah]at iY;cases iY
 ·have:=LD eM (a:=(dP:Int)) (j:Int)
  rw[if_neg (by omega)]at this
  rw[Nat.add_zero]at this
  rw[this]
  congr 1
  by_cases aN:j=dP
  ·simp[aN]
  ·rw[if_neg aN,if_neg (by omega)]
theorem kt.Hz(h:kt n A b9 dw dP i cU)(eZ:rV n A b9)(ab:i<n)(uh:dP<n)(aK:0<A dP i)(iY:cU[i]?.getD false=false){j:Nat}(hm:b9[i]?.getD 0=j)(al:rR n A b9 (cU.set i true) j true hO xq):rR n A b9 dw dP true (hO.set i (dP:Int)) xq:=by
 have cA:i<cU.length:=by rw[h.len];exact ab
 obtain⟨MX,B1,Wp⟩:=al.yes rfl
 have eM:i<hO.length:=by rw[MX.1];exact ab
 have iH:hO[i]?=b9[i]?:=B1 i (by rw[tJ cA];simp)
 refine⟨al.len,fun k ah=>al.mono k (by rw[tJ cA,h.mono k ah];simp),(fun h=>by cases h),fun _=>⟨MX.set ab uh aK,fun k ah=>?_,fun x=>?_⟩⟩
 ·rw[List.getElem?_set_ne]
  ·exact B1 k (by rw[tJ cA,h.mono k ah];simp)
  ·rintro rfl
   rw[h.mono _ ah]at iY;cases iY
 ·have:=LD eM (a:=(dP:Int)) (x:Int)
  rw[iH,hm,Wp x]at this
  by_cases o:x=j
  ·subst o
   simp at this
   by_cases aa:x=dP
   ·subst aa;simp at this⊢;omega
   ·rw[if_neg aa];rw[if_neg (by omega)]at this;omega
  ·rw[if_neg (by omega),if_neg o]at this
   by_cases aa:x=dP
   ·subst aa;simp at this⊢;omega
   ·rw[if_neg aa];rw[if_neg (by omega)]at this;omega
end
structure nJ (n:Nat) (A:Nat->Nat->Rat) (t:Nat) (b9:List Int):Prop where
 ok:rV n A b9
 qL:∀j:Nat,b9.count (j:Int)=if j<t then 1 else 0
theorem nJ.zero(n:Nat)(A:Nat->Nat->Rat):nJ n A 0 (List.replicate n (-1)):=
 ⟨⟨by simp,fun k ah=> .inl (by simp[ah])⟩,fun j=>by
  simp[List.count_replicate]⟩
theorem Pk{l:List Int}{x:Int}(h:l.count x<=1){a b:Nat}(aL:l[a]?=some x)(af:l[b]?=some x):a=b:=by
 induction l generalizing a b with
 | nil=>simp at aL
 | cons y l a2=>
  rw[List.count_cons]at h
  cases a with
  | zero=>
   cases b with
   | zero=>rfl
   | succ b=>
    simp at aL af
    have:0<l.count x:=List.count_pos_iff.2 (List.mem_of_getElem? af)
    simp[aL]at h;omega
  | succ a=>
   cases b with
   | zero=>
    simp at aL af
    have:0<l.count x:=List.count_pos_iff.2 (List.mem_of_getElem? aL)
    simp[af]at h;omega
   | succ b=>
    simp at aL af
    rw[a2 (by omega) aL af]
theorem nJ.next{n t:Nat}{A:Nat->Nat->Rat}{L:Rat}{b9 hO:List Int}{cU:List Bool}{b:Bool}(aG:∀i k,i<n->k<n->0<=A i k)(al:∀i,i<n->bC n (A i)=L)(ag:∀k:Nat,k<n->bC n (fun i=>A i k)=L)(c1:0<L)
  (h:nJ n A t b9)(bG:t<n)(aC:rR n A b9 (List.replicate n false) t b hO cU):b=true/\nJ n A (t+1) hO:=by
 have af:b=true:=by
  cases b with
  | true=>rfl
  | false=>
   exfalso
   obtain⟨-,o,aa⟩:=aC.no rfl
   have bP:∀k:Nat,k<n->cU[k]?.getD false=true->∃j:Nat,j<n/\b9[k]?.getD 0=j/\∀i,i<n->0<A j i->cU[i]?.getD false=true:=fun k ah ao=>aa k ah ao (by simp[ah])
   have dv:=dv aG al ag c1 (fun j=>decide (j=t) || (List.range n).any fun k=>cU[k]?.getD false&&b9[k]?.getD 0==(j:Int)) (fun k=>cU[k]?.getD false) (fun j aN ij k ah aK=>by
    simp at ij
    rcases ij with rfl | ⟨b1,aU,aO,bw⟩
    ·exact o k ah aK
    ·obtain⟨dO,a9,iN,cW⟩:=bP b1 aU aO
     have:dO=j:=by omega
     subst this
     exact cW k ah aK)
   have h0:=SX (n:=n) (p:=fun j=>decide (j=t) || (List.range n).any fun k=>cU[k]?.getD false&&b9[k]?.getD 0==(j:Int)) (l:=t::((List.range n).filter fun k=>cU[k]?.getD false).map fun k=>(b9[k]?.getD 0).toNat) (by
    have Gr:∀k:Nat,k<n->cU[k]?.getD false=true->∃j:Nat,j<t/\b9[k]?=some (j:Int):=fun k ah ao=>by
     obtain⟨j,aU,aO,-⟩:=bP k ah ao
     have iG:k<b9.length:=by rw[h.ok.1];exact ah
     have hm:b9[k]?=some (j:Int):=by rw[bs iG]at aO⊢;simpa using aO
     have:0<b9.count (j:Int):=List.count_pos_iff.2 (List.mem_of_getElem? hm)
     rw[h.qL]at this
     by_cases wK:j<t
     ·exact⟨j,wK,hm⟩
     ·rw[if_neg wK]at this;omega
    rw[List.nodup_cons]
    refine⟨fun hm=>?_,?_⟩
    ·simp at hm
     obtain⟨k,⟨aU,aO⟩,bw⟩:=hm
     obtain⟨j,a9,iN⟩:=Gr k aU aO
     rw[iN]at bw;simp at bw;omega
    ·rw[List.nodup_iff_pairwise_ne,List.pairwise_map]
     have mM:((List.range n).filter fun k=>cU[k]?.getD false).Nodup:=List.nodup_range.filter _
     refine List.Pairwise.imp_of_mem (fun{a b} aL af nf=>?_) mM
     simp at aL af
     obtain⟨alh,a9,iN⟩:=Gr a aL.1 aL.2
     obtain⟨ali,cW,pH⟩:=Gr b af.1 af.2
     rw[iN,pH]
     simp
     rintro rfl
     exact nf (Pk (by rw[h.qL];split<;>omega) iN pH)) (fun x J=>by
    simp at J
    rcases J with rfl | ⟨k,⟨aU,aO⟩,bw⟩
    ·exact⟨bG,by simp⟩
    ·obtain⟨j,a9,iN,-⟩:=bP k aU aO
     have:x=j:=by omega
     subst this
     exact⟨a9,by simp;exact .inr ⟨k,aU,aO,iN⟩⟩)
   rw[List.length_cons,List.length_map]at h0
   have:m9 n (fun k=>cU[k]?.getD false)=((List.range n).filter fun k=>cU[k]?.getD false).length:=rfl
   omega
 obtain⟨aU,-,bw⟩:=aC.yes af
 refine⟨af,aU,fun j=>?_⟩
 rw[bw,h.qL]
 by_cases o:j<t
 ·rw[if_pos o,if_neg (by omega),if_pos (by omega)]
 ·by_cases aa:j=t
  ·rw[if_neg o,if_pos aa,if_pos (by omega)]
  ·rw[if_neg o,if_neg aa,if_neg (by omega)]
end Go.cl
end
section
set_option maxRecDepth 8000
namespace Go.cl
theorem adK{N s:Nat}(f:Nat->Rat)(ao:s<=N):bC (N+1) f=f s+bC N (fun i=>f (if i<s then i else i+1)):=by
 induction N with
 | zero=>
  obtain rfl:s=0:=by omega
  simp[bC]
  grind
 | succ N a2=>
  by_cases h:s=N+1
  ·subst h
   rw[bC,fF (g:=fun i=>f (if i<N+1 then i else i+1)) fun i ab=>by rw[if_pos ab]]
   grind
  ·rw[bC,a2 (by omega)]
   simp only[bC]
   rw[if_neg (show¬N<s by omega)]
   grind
theorem EF:∀(d N:Nat) (V:Nat->Nat->Rat),d<N->∃c:Nat->Rat,(∃i,i<N/\c i≠0)/\∀j,j<d->bC N (fun i=>c i*V i j)=0
 | 0,N,V,h=>⟨fun i=>1,⟨0,h,by decide⟩,fun j aN=>by omega⟩
 | d+1,N,V,h=>by
  by_cases dv:∀i,i<N->V i d=0
  ·obtain⟨c,ag,aQ⟩:=EF d N V (by omega)
   refine⟨c,ag,fun j aN=>?_⟩
   by_cases nk:j=d
   ·subst nk
    rw[fF (g:=fun _=>0) fun i ab=>by rw[dv i ab];grind]
    exact rG N
   ·exact aQ j (by omega)
  ·obtain⟨s,ao,zn⟩:∃s,s<N/\V s d≠0:=Classical.byContradiction fun gO=>dv fun i ab=>Classical.byContradiction fun aG=>gO ⟨i,ab,aG⟩
   obtain⟨M,rfl⟩:∃M,N=M+1:=⟨N-1,by omega⟩
   obtain⟨mV,GD⟩:∃mV:Nat->Nat,mV=fun i=>if i<s then i else i+1:=⟨_,rfl⟩
   obtain⟨dA,⟨i0,ss,mH⟩,aQ⟩:=EF d M (fun i j=>V (mV i) j-(V (mV i) d/V s d)*V s j) (by omega)
   obtain⟨g,a1⟩:∃g,g=bC M (fun i=>dA i*V (mV i) d):=⟨_,rfl⟩
   obtain⟨c,ag⟩:∃c:Nat->Rat,c=fun i=>if i<s then dA i else if i=s then-g/V s d else dA (i-1):=⟨_,rfl⟩
   have cx:∀i,c (mV i)=dA i:=fun i=>by
    rw[ag,GD]
    simp only
    by_cases ab:i<s
    ·rw[if_pos ab,if_pos ab]
    ·rw[if_neg ab,if_neg (by omega),if_neg (by omega),Nat.add_sub_cancel]
   have cN:c s= -g/V s d:=by rw[ag];simp
   have wS:∀j,bC (M+1) (fun i=>c i*V i j)=c s*V s j+bC M (fun i=>dA i*V (mV i) j):=fun j=>by
    rw[adK _ (show s<=M by omega)]
    congr 1
    refine fF fun i _=>?_
    have:=cx i
    rw[GD]at this⊢
    simp only at this⊢
    rw[this]
   refine⟨c,⟨mV i0,?_,by rw[cx];exact mH⟩,fun j aN=>?_⟩
   ·rw[GD];simp only;split<;>omega
   ·rw[wS,cN]
    by_cases nk:j=d
    ·subst nk
     rw[<-a1]
     have: -g/V s j*V s j= -g:=Rat.div_mul_cancel zn
     grind
    ·have:=aQ j (by omega)
     have e:bC M (fun i=>dA i*(V (mV i) j-V (mV i) d/V s d*V s j))=bC M (fun i=>dA i*V (mV i) j)+bC M (fun i=>(-(V s j/V s d))*(dA i*V (mV i) d)):=by
      rw[<-Ap]
      refine fF fun i _=>?_
      simp only[Rat.div_def]
      grind
     rw[e,Ih,<-a1]at this
     simp only[Rat.div_def]at this⊢
     grind
theorem adV{n k:Nat}(aF:0<n)(P:Nat->Nat->Nat->Rat)(ei:∀s,s<k->∀i,i<n->bC n (P s i)=1)(FR:∀s,s<k->∀j,j<n->bC n (fun i=>P s i j)=1)
  (a b:Nat->Nat)(he:∀s,s<k->a s<n/\b s<n/\P s (a s) (b s)≠0)(Ym:∀s t,s<t->t<k->P t (a s) (b s)=0):k<=(n-1)*(n-1)+1:=by
 refine Classical.byContradiction fun ah=>?_
 obtain⟨r,al⟩:∃r,n=r+1:=⟨n-1,by omega⟩
 subst al
 rw[Nat.add_sub_cancel]at ah
 obtain⟨c,⟨i0,ss,mH⟩,aQ⟩:=EF (r*r+1) k (fun s j=>if j<r*r then P s (j/r) (j % r)else 1) (by omega)
 obtain⟨M,eZ⟩:∃M:Nat->Nat->Rat,M=fun i j=>bC k (fun s=>c s*P s i j):=⟨_,rfl⟩
 have ji:∀i j,i<r->j<r->M i j=0:=fun i j ab aN=>by
  have a3:i*r+j<r*r:=by
   have:(i+1)*r<=r*r:=Nat.mul_le_mul_right r (by omega)
   rw[Nat.succ_mul]at this
   omega
  have:=aQ (i*r+j) (by omega)
  have d1:(i*r+j)/r=i:=by rw[Nat.mul_comm,Nat.mul_add_div (by omega),Nat.div_eq_of_lt aN];rfl
  have d2:(i*r+j) % r=j:=by rw[Nat.mul_comm,Nat.mul_add_mod,Nat.mod_eq_of_lt aN]
  rw[eZ,<-this]
  refine fF fun s _=>?_
  rw[if_pos a3,d1,d2]
 have Hw:bC k c=0:=by
  have:=aQ (r*r) (by omega)
  rw[<-this]
  refine fF fun s _=>?_
  rw[if_neg (by omega)]
  grind
 have Hx:∀i,i<r+1->bC (r+1) (M i)=0:=fun i ab=>by
  have e:bC (r+1) (M i)=bC k (fun s=>bC (r+1) (fun j=>c s*P s i j)):=by rw[eZ];exact(Ik k (r+1) (fun s j=>c s*P s i j)).symm
  rw[e,fF (g:=c) fun s ao=>by rw[Ih,ei s ao i ab];grind]
  exact Hw
 have PG:∀j,j<r+1->bC (r+1) (fun i=>M i j)=0:=fun j aN=>by
  have e:bC (r+1) (fun i=>M i j)=bC k (fun s=>bC (r+1) (fun i=>c s*P s i j)):=by rw[eZ];exact(Ik k (r+1) (fun s i=>c s*P s i j)).symm
  rw[e,fF (g:=c) fun s ao=>by rw[Ih,FR s ao j aN];grind]
  exact Hw
 have z:∀m:Nat,bC m (fun _=>(0:Rat))=0:=rG
 have abx:∀i,i<r->M i r=0:=fun i ab=>by
  have:=Hx i (by omega)
  rw[bC,fF (g:=fun _=>0) fun j aN=>ji i j ab aN,z]at this
  grind
 have PH:∀j,j<r->M r j=0:=fun j aN=>by
  have:=PG j (by omega)
  rw[bC,fF (g:=fun _=>0) fun i ab=>ji i j ab aN,z]at this
  grind
 have abz:M r r=0:=by
  have:=Hx r (by omega)
  rw[bC,fF (g:=fun _=>0) fun j aN=>PH j aN,z]at this
  grind
 have abA:∀i j,i<r+1->j<r+1->M i j=0:=fun i j ab aN=>by
  by_cases o:i=r
  ·subst o
   by_cases aa:j=i
   ·subst aa;exact abz
   ·exact PH j (by omega)
  ·by_cases aa:j=r
   ·subst aa;exact abx i (by omega)
   ·exact ji i j (by omega) (by omega)
 have dv:∀m s,s<m->s<k->c s=0:=fun m=>by
  induction m with
  | zero=>intro s h;omega
  | succ m a2=>
   intro s ao ah
   by_cases Ya:s=m
   ·subst Ya
    obtain⟨o,aa,aE⟩:=he s ah
    have:=abA (a s) (b s) o aa
    rw[eZ]at this
    simp only at this
    rw[fF (g:=fun t=>if t=s then c s*P s (a s) (b s)else 0) fun t bG=>by
     by_cases h:t=s
     ·subst h;simp
     ·rw[if_neg h]
      by_cases cq:t<s
      ·rw[a2 t cq bG];grind
      ·rw[Ym s t (by omega) bG];grind,ta s (fun _=>c s*P s (a s) (b s)),if_pos ah]at this
    rcases Rat.mul_eq_zero.1 this with h | h
    ·exact h
    ·exact absurd h aE
   ·exact a2 s (by omega) ah
 exact mH (dv k i0 ss ss)
end Go.cl
end
section
namespace Go.cl
structure gb (n:Nat) (p:List Int):Prop where
 len:p.length=n
 dP:∀k,k<n->∃j:Nat,j<n/\p[k]?=some (j:Int)
 qL:∀j,j<n->p.count (j:Int)=1
theorem nJ.perm{n:Nat}{A:Nat->Nat->Rat}{b9:List Int}(h:nJ n A n b9):gb n b9/\∀k j:Nat,k<n->b9[k]?=some (j:Int)->0<A j k:=by
 have iu:∀k,k<n->∃j:Nat,j<n/\b9[k]?=some (j:Int)/\0<A j k:=by
  intro k ah
  have iG:k<b9.length:=by rw[h.ok.1];exact ah
  rcases h.ok.2 k ah with o | ⟨j,aU,aO,bw⟩
  ·exfalso
   have hm:(-1:Int)∈b9:=by
    rw[bs iG]at o
    simp at o
    exact o▸List.getElem_mem iG
   have:=HE (l:=(-1:Int)::(List.range n).map Int.ofNat) (da:=b9) (by
    rw[List.nodup_cons]
    refine⟨by simp,?_⟩
    rw[List.nodup_iff_pairwise_ne,List.pairwise_map]
    exact List.Pairwise.imp (fun{a b} nf=>by simp only[Int.ofNat_eq_natCast,ne_eq];omega) List.nodup_range) (fun x J=>by
    simp at J
    rcases J with rfl | ⟨j,aU,rfl⟩
    ·exact hm
    ·have:=h.qL j
     rw[if_pos aU]at this
     exact List.count_pos_iff.1 (by rw[this];omega))
   rw[List.length_cons,List.length_map,List.length_range,h.ok.1]at this
   omega
  ·exact⟨j,aU,by rw[bs iG]at aO⊢;simpa using aO,bw⟩
 refine⟨⟨h.ok.1,fun k ah=>?_,fun j aN=>by rw[h.qL,if_pos aN]⟩,fun k j ah aN=>?_⟩
 ·obtain⟨j,aU,aO,-⟩:=iu k ah
  exact⟨j,aU,aO⟩
 ·obtain⟨dO,aU,aO,bw⟩:=iu k ah
  rw[aO]at aN
  have:dO=j:=by simp at aN;omega
  exact this▸bw
theorem gb.at{n:Nat}{p:List Int}(h:gb n p){j:Nat}(aN:j<n):∃k,k<n/\p[k]?=some (j:Int)/\∀b1,p[b1]?=some (j:Int)->b1=k:=by
 have o:=h.qL j aN
 have hm:(j:Int)∈p:=List.count_pos_iff.1 (by rw[o];omega)
 obtain⟨k,ah⟩:=List.mem_iff_getElem?.1 hm
 refine⟨k,?_,ah,fun b1 gM=>Pk (by rw[o];omega) gM ah⟩
 have:=(cn.1 ah).1
 rw[h.len]at this;exact this
def gi(p:Rat×List Int)(i k:Nat):Rat:=if p.2[k]?=some (i:Int)then p.1 else 0
def en:List (Rat×List Int)->Nat->Nat->Rat
 | [],_,_=>0
 | p::aM,i,k=>gi p i k+en aM i k
theorem HN(a b:List (Rat×List Int))(i k:Nat):en (a++b) i k=en a i k+en b i k:=by
 induction a with
 | nil=>simp[en];grind
 | cons p a a2=>simp only[List.cons_append,en];rw[a2];grind
def dJ:List (Rat×List Int)->Rat
 | []=>0
 | p::aM=>p.1+dJ aM
theorem HM(a b:List (Rat×List Int)):dJ (a++b)=dJ a+dJ b:=by
 induction a with
 | nil=>simp[dJ];grind
 | cons p a a2=>simp only[List.cons_append,dJ];rw[a2];grind
theorem gb.row{n:Nat}{p:Rat×List Int}(h:gb n p.2){i:Nat}(ab:i<n):bC n (fun k=>gi p i k)=p.1:=by
 obtain⟨k,ah,jY,Yw⟩:=h.at ab
 have:bC n (fun b1=>gi p i b1)=bC n (fun b1=>if b1=k then p.1 else 0):=by
  apply fF
  intro b1 gM
  unfold gi
  by_cases o:b1=k
  ·subst o;simp[jY]
  ·rw[if_neg o,if_neg fun aa=>o (Yw b1 aa)]
 rw[this,ta k (fun _=>p.1),if_pos ah]
theorem gb.oK{n:Nat}{p:Rat×List Int}(h:gb n p.2){k:Nat}(ah:k<n):bC n (fun i=>gi p i k)=p.1:=by
 obtain⟨j,aN,jY⟩:=h.dP k ah
 have:bC n (fun i=>gi p i k)=bC n (fun i=>if i=j then p.1 else 0):=by
  apply fF
  intro i ab
  unfold gi
  rw[jY]
  by_cases o:i=j
  ·subst o;simp
  ·rw[if_neg o,if_neg];simp;omega
 rw[this,ta j (fun _=>p.1),if_pos aN]
def mq:Nat->(Nat->Nat)->Nat
 | 0,_=>0
 | n+1,f=>mq n f+f n
theorem DB{n:Nat}{f g:Nat->Nat}(h:∀i,i<n->f i<=g i):mq n f<=mq n g:=by
 induction n with
 | zero=>simp[mq]
 | succ n a2=>simp only[mq];have:=a2 fun i ab=>h i (by omega);have:=h n (by omega);omega
theorem Q1{n:Nat}{f g:Nat->Nat}(h:∀i,i<n->f i<=g i){j:Nat}(aN:j<n)(a3:f j<g j):mq n f<mq n g:=by
 induction n with
 | zero=>omega
 | succ n a2=>
  simp only[mq]
  have o:=DB (n:=n) fun i ab=>h i (by omega)
  have aa:=h n (by omega)
  by_cases o_:j=n
  ·subst o_;omega
  ·have:=a2 (fun i ab=>h i (by omega)) (by omega);omega
def og(n:Nat)(B:Nat->Nat->Rat):Nat:=mq n fun i=>mq n fun k=>if 0<B i k then 1 else 0
theorem Qi(n:Nat)(B:Nat->Nat->Rat):og n B<=n*n:=by
 have o:∀m (f:Nat->Nat) (c:Nat),(∀i,f i<=c)->mq m f<=m*c:=by
  intro m f c aC
  induction m with
  | zero=>simp[mq]
  | succ m a2=>simp only[mq];have:=aC m;rw[Nat.succ_mul];omega
 exact o n _ n fun i=>by
  have:=o n (fun k=>if 0<B i k then 1 else 0) 1 fun k=>by split<;>omega
  omega
structure kT (n:Nat) (B:Nat->Nat->Rat) (L:Rat):Prop where
 jj:∀i k,i<n->k<n->0<=B i k
 row:∀i,i<n->bC n (B i)=L
 oK:∀k,k<n->bC n (fun i=>B i k)=L
def kp(B:Nat->Nat->Rat)(p:Rat×List Int)(i k:Nat):Rat:=B i k-gi p i k
theorem Q3(n:Nat)(f g:Nat->Rat):bC n (fun i=>f i-g i)=bC n f-bC n g:=by
 induction n with
 | zero=>simp[bC];grind
 | succ n a2=>simp only[bC];rw[a2];grind
theorem kT.less{n:Nat}{B:Nat->Nat->Rat}{L:Rat}(h:kT n B L){p:Rat×List Int}(aK:gb n p.2)(aG:0<p.1)(hle:∀k j:Nat,k<n->p.2[k]?=some (j:Int)->p.1<=B j k)(jU:∃k j:Nat,k<n/\j<n/\p.2[k]?=some (j:Int)/\p.1=B j k):
  kT n (kp B p) (L-p.1)/\og n (kp B p)<og n B:=by
 have uq:∀i k,i<n->k<n->0<=kp B p i k:=fun i k ab ah=>by
  unfold kp gi
  split
  ·rename_i aN
   have:=hle k i ah aN
   grind
  ·have:=h.jj i k ab ah
   grind
 refine⟨⟨uq,fun i ab=>?_,fun k ah=>?_⟩,?_⟩
 ·have:bC n (kp B p i)=bC n (fun k=>B i k-gi p i k):=rfl
  rw[this,Q3,h.row i ab,aK.row ab]
 ·have:bC n (fun i=>kp B p i k)=bC n (fun i=>B i k-gi p i k):=rfl
  rw[this,Q3,h.oK k ah,aK.oK ah]
 ·obtain⟨k,j,ah,aN,jY,e⟩:=jU
  have Gc:∀i k,i<n->k<n->(if 0<kp B p i k then 1 else 0)<=(if 0<B i k then 1 else 0):=fun i k ab ah=>by
   by_cases o:0<kp B p i k
   ·have:0<B i k:=by
     unfold kp gi at o
     split at o<;>grind
    simp[o,this]
   ·simp[o]
  refine Q1 (fun i ab=>DB fun k ah=>Gc i k ab ah) aN (Q1 (fun k ah=>Gc j k aN ah) ah ?_)
  have o:¬0<kp B p j k:=by unfold kp gi;rw[if_pos jY,e];grind
  have aa:0<B j k:=by rw[<-e];exact aG
  simp[o,aa]
theorem kT.none{n:Nat}{B:Nat->Nat->Rat}(h:kT n B 0){i k:Nat}(ab:i<n)(ah:k<n):B i k=0:=by
 have o:=DC (f:=B i) (fun k ah=>h.jj i k ab ah) ah
 rw[h.row i ab]at o
 have:=h.jj i k ab ah
 grind
structure nH (n:Nat) (A:Nat->Nat->Rat) (L:Rat) (aM:List (Rat×List Int)) (B:Nat->Nat->Rat):Prop where
 lF:kT n B (L-dJ aM)
 parts:∀p∈aM,0<p.1/\gb n p.2
 sum:∀i k,i<n->k<n->A i k=en aM i k+B i k
 nQ:og n B+aM.length<=og n A
 It:∃a b:Nat->Nat,(∀s,s<aM.length->a s<n/\b s<n/\(∃p,aM[s]?=some p/\p.2[b s]?=some ((a s:Nat):Int))/\B (a s) (b s)=0)/\∀s t,s<t->∀p,aM[t]?=some p->p.2[b s]?≠some ((a s:Nat):Int)
theorem nH.zero{n:Nat}{A:Nat->Nat->Rat}{L:Rat}(h:kT n A L):nH n A L [] A:=
 ⟨by have:L-dJ []=L:=by simp[dJ];grind
     rw[this];exact h,by simp,fun i k _ _=>by simp[en];grind,by simp,fun _=>0,fun _=>0,fun s h=>by simp at h,fun s t _ p h=>by simp at h⟩
theorem nH.next{n:Nat}{A:Nat->Nat->Rat}{L:Rat}{aM:List (Rat×List Int)}{B:Nat->Nat->Rat}(h:nH n A L aM B){p:Rat×List Int}(aK:gb n p.2)(aG:0<p.1)(hle:∀k j:Nat,k<n->p.2[k]?=some (j:Int)->p.1<=B j k)(jU:∃k j:Nat,k<n/\j<n/\p.2[k]?=some (j:Int)/\p.1=B j k):
  nH n A L (aM++[p]) (kp B p):=by
 obtain⟨o,aa⟩:=h.lF.less aK aG hle jU
 refine⟨?_,fun q aq=>?_,fun i k ab ah=>?_,?_,?_⟩
 ·rw[HM]
  have:L-(dJ aM+dJ [p])=L-dJ aM-p.1:=by simp[dJ];grind
  rw[this];exact o
 ·simp at aq
  rcases aq with aq | rfl
  ·exact h.parts q aq
  ·exact⟨aG,aK⟩
 ·rw[HN,h.sum i k ab ah]
  simp[en,kp]
  grind
 ·have:=h.nQ
  simp
  omega
 ·obtain⟨a,b,t1,t2⟩:=h.It
  obtain⟨k,j,ah,aN,jY,e⟩:=jU
  have gO:∀s,s<aM.length->p.2[b s]?≠some ((a s:Nat):Int):=fun s ao aq=>by
   obtain⟨-,aO,-,cj⟩:=t1 s ao
   have:=hle _ _ aO aq
   rw[cj]at this
   exact absurd aG (Rat.not_lt.2 this)
  refine⟨fun s=>if s=aM.length then j else a s,fun s=>if s=aM.length then k else b s,fun s ao=>?_,fun s t c3 q aq=>?_⟩
  ·simp only[List.length_append,List.length_singleton]at ao
   by_cases Cx:s=aM.length
   ·subst Cx
    simp only[if_true]
    refine⟨aN,ah,⟨p,by simp,jY⟩,?_⟩
    unfold kp gi
    rw[if_pos jY,e]
    grind
   ·obtain⟨aU,aO,⟨q,bw,cj⟩,eR⟩:=t1 s (by omega)
    simp only[if_neg Cx]
    refine⟨aU,aO,⟨q,by rw[List.getElem?_append_left (by omega)];exact bw,cj⟩,?_⟩
    unfold kp gi
    rw[if_neg (gO s (by omega)),eR]
    grind
  ·have bG:=(cn.1 aq).1
   simp only[List.length_append,List.length_singleton]at bG
   have Cx:s≠aM.length:=by omega
   simp only[if_neg Cx]
   by_cases CE:t=aM.length
   ·subst CE
    simp at aq
    subst aq
    exact gO s (by omega)
   ·rw[List.getElem?_append_left (by omega)]at aq
    exact t2 s t c3 q aq
structure tn (n:Nat) (A:Nat->Nat->Rat) (L:Rat) (aM:List (Rat×List Int)):Prop where
 parts:∀p∈aM,0<p.1/\gb n p.2
 sum:∀i k,i<n->k<n->en aM i k=A i k
 len:dJ aM=L
 nQ:aM.length<=n*n
 PS:aM.length<=(n-1)*(n-1)+1
theorem nH.end{n:Nat}{A:Nat->Nat->Rat}{L:Rat}{aM:List (Rat×List Int)}{B:Nat->Nat->Rat}(aF:0<n)(h:nH n A L aM B)(aQ:¬0<L-dJ aM):tn n A L aM:=by
 have aG:0<=L-dJ aM:=by
  have:=Ii (n:=n) (f:=B 0) fun k ah=>h.lF.jj 0 k aF ah
  rw[h.lF.row 0 aF]at this
  exact this
 have e:L-dJ aM=0:=by grind
 have au:=h.lF
 rw[e]at au
 refine⟨h.parts,fun i k ab ah=>?_,by grind,?_,?_⟩
 ·rw[h.sum i k ab ah,au.none ab ah];exact(Rat.add_zero _).symm
 ·have:=h.nQ
  have:=Qi n A
  omega
 ·obtain⟨a,b,t1,t2⟩:=h.It
  have aK:∀s,s<aM.length->gb n (aM[s]?.getD (0,[])).2:=fun s ao=>by
   rw[bs ao]
   exact(h.parts _ (List.getElem_mem ao)).2
  refine adV aF (fun s i j=>gi (1,(aM[s]?.getD (0,[])).2) i j) (fun s ao i ab=>gb.row (p:=(1,(aM[s]?.getD (0,[])).2)) (aK s ao) ab) (fun s ao j aN=>gb.oK (p:=(1,(aM[s]?.getD (0,[])).2)) (aK s ao) aN) a b (fun s ao=>?_) fun s t c3 bG=>?_
  ·obtain⟨aU,aO,⟨q,bw,cj⟩,eR⟩:=t1 s ao
   refine⟨aU,aO,?_⟩
   unfold gi
   rw[bw,if_pos (by simpa using cj)]
   show(1:Rat)≠0
   decide
  ·have aq:=bs bG
   have:=t2 s t c3 _ aq
   unfold gi
   rw[if_neg (by rw[aq];simpa using this)]
theorem De{aM:List (Rat×List Int)}(h:∀p∈aM,0<p.1):0<=dJ aM/\∀p∈aM,p.1<=dJ aM:=by
 induction aM with
 | nil=>simp[dJ]
 | cons q aM a2=>
  obtain⟨o,aa⟩:=a2 fun p aK=>h p (by simp[aK])
  have aE:=h q (by simp)
  simp only[dJ]
  refine⟨by grind,fun p aK=>?_⟩
  simp at aK
  rcases aK with rfl | aK
  ·grind
  ·have:=aa p aK;grind
def hb(n m:Nat)(A:Nat->Nat->Rat)(top:Rat)(i k:Nat):Rat:=
 if i<n then(if k<m then A i k else if k=m+i then top-bC m (A i)else 0)
 else(if k<m then(if k=i-n then top-bC n (fun fC=>A fC k)else 0)else A (k-m) (i-n))
theorem adF{n m:Nat}{A:Nat->Nat->Rat}{top:Rat}(aG:∀i k,i<n->k<m->0<=A i k)(al:∀i,i<n->bC m (A i)<=top)(ag:∀k,k<m->bC n (fun i=>A i k)<=top):kT (n+m) (hb n m A top) top:=by
 refine⟨fun i k ab ah=>?_,fun i ab=>?_,fun k ah=>?_⟩
 ·unfold hb
  split
  ·rename_i o
   split
   ·exact aG i k o ‹_›
   ·split
    ·have:=al i o;grind
    ·grind
  ·split
   ·split
    ·have:=ag k ‹_›;grind
    ·grind
   ·exact aG _ _ (by omega) (by omega)
 ·by_cases o:i<n
  ·rw[Nat.add_comm,Ij]
   have bn:bC m (hb n m A top i)=bC m (A i):=fF fun k ah=>by simp[hb,o,ah]
   have bj:bC n (fun k=>hb n m A top i (m+k))=bC n (fun k=>if k=i then top-bC m (A i)else 0):=fF fun k ah=>by
    simp[hb,o];intro;omega
   rw[bn,bj,ta i (fun _=>top-bC m (A i)),if_pos o];grind
  ·rw[Nat.add_comm,Ij]
   have bn:bC m (hb n m A top i)=bC m (fun k=>if k=i-n then top-bC n (fun fC=>A fC k)else 0):=fF fun k ah=>by simp[hb,o,ah]
   have bj:bC n (fun k=>hb n m A top i (m+k))=bC n (fun fC=>A fC (i-n)):=fF fun k ah=>by
    simp[hb,o];intro;omega
   rw[bn,bj,ta (i-n) (fun k=>top-bC n (fun fC=>A fC k)),if_pos (by omega)];grind
 ·rw[Ij]
  by_cases o:k<m
  ·have bn:bC n (fun i=>hb n m A top i k)=bC n (fun i=>A i k):=fF fun i ab=>by simp[hb,o,ab]
   have bj:bC m (fun i=>hb n m A top (n+i) k)=bC m (fun i=>if i=k then top-bC n (fun fC=>A fC k)else 0):=fF fun i ab=>by
    simp[hb,o,show¬n+i<n by omega,show n+i-n=i by omega,eq_comm]
   rw[bn,bj,ta k (fun _=>top-bC n (fun fC=>A fC k)),if_pos o];grind
  ·have bn:bC n (fun i=>hb n m A top i k)=bC n (fun i=>if i=k-m then top-bC m (A i)else 0):=fF fun i ab=>by
    simp[hb,o,ab]
    congr 1
    simp;omega
   have bj:bC m (fun i=>hb n m A top (n+i) k)=bC m (A (k-m)):=fF fun i ab=>by
    simp[hb,o,show¬n+i<n by omega,show n+i-n=i by omega]
   rw[bn,bj,ta (k-m) (fun i=>top-bC m (A i)),if_pos (by omega)];grind
def kz(n m:Nat)(p:List Int):List Int:=(p.take m).map fun j=>if(n:Int)<=j then-1 else j
structure xN (n m:Nat) (l:List Int):Prop where
 len:l.length=m
 acR:∀k,k<m->l[k]?=some (-1)\/∃j:Nat,j<n/\l[k]?=some (j:Int)
 inj:∀j:Nat,j<n->l.count (j:Int)<=1
theorem EC{n m:Nat}{p:List Int}(k:Nat):(kz n m p)[k]?=if k<m then(p[k]?).map fun j=>if(n:Int)<=j then-1 else j else none:=by
 unfold kz
 rw[List.getElem?_map,List.getElem?_take]
 split<;>rfl
theorem S7{n m:Nat}{p:List Int}{k i:Nat}(ah:k<m)(ab:i<n):(kz n m p)[k]?=some (i:Int)↔p[k]?=some (i:Int):=by
 rw[EC,if_pos ah]
 cases h:p[k]? with
 | none=>simp
 | some j=>
  simp
  split
  ·constructor<;>intro h<;>omega
  ·exact Iff.rfl
theorem gb.cut{n m:Nat}{p:List Int}(h:gb (n+m) p):xN n m (kz n m p):=by
 refine⟨by simp[kz,h.len],fun k ah=>?_,fun j aN=>?_⟩
 ·obtain⟨j,aU,aO⟩:=h.dP k (by omega)
  rw[EC,if_pos ah,aO]
  by_cases o_:j<n
  ·exact .inr ⟨j,o_,by simp;omega⟩
  ·exact .inl (by simp;omega)
 ·have o:=h.qL j (by omega)
  have aa:(kz n m p).count (j:Int)<=(p.take m).count (j:Int):=by
   unfold kz
   generalize p.take m=l
   induction l with
   | nil=>simp
   | cons x l a2=>
    simp only[List.map_cons,List.count_cons]
    by_cases J:(n:Int)<=x
    ·simp[J];omega
    ·simp[J];omega
  have aE:(p.take m).count (j:Int)<=p.count (j:Int):=(List.take_sublist m p).count_le _
  omega
structure AU (n m:Nat) (A:Nat->Nat->Rat) (L:Rat) (aM:List (Rat×List Int)):Prop where
 Dv:∀p∈aM,0<p.1/\xN n m p.2
 sum:∀i k,i<n->k<m->en aM i k=A i k
 len:dJ aM=L
 nQ:aM.length<=(n+m)*(n+m)
theorem tn.ach{n m:Nat}{A:Nat->Nat->Rat}{top:Rat}{aM:List (Rat×List Int)}(h:tn (n+m) (hb n m A top) top aM):AU n m A top (aM.map fun p=>(p.1,kz n m p.2)):=by
 refine⟨fun p aK=>?_,fun i k ab ah=>?_,?_,by simpa using h.nQ⟩
 ·simp at aK
  obtain⟨a,b,q,rfl⟩:=aK
  obtain⟨o,aa⟩:=h.parts _ q
  exact⟨o,aa.cut⟩
 ·have o:=h.sum i k (by omega) (by omega)
  have aa:hb n m A top i k=A i k:=by simp[hb,ab,ah]
  rw[aa]at o
  rw[<-o]
  generalize aM=l
  induction l with
  | nil=>rfl
  | cons p l a2=>
   simp only[List.map_cons,en]
   rw[a2]
   congr 1
   unfold gi
   simp only[S7 ah ab]
 ·rw[<-h.len]
  generalize aM=l
  induction l with
  | nil=>rfl
  | cons p l a2=>
   simp only[List.map_cons,dJ]
   rw[a2]
end Go.cl
end
section
set_option maxRecDepth 8000
set_option maxHeartbeats 1000000
namespace Go.cl
open Go.Proofs
open Go.Proofs.Tryz (prog)
attribute [-simp] gk hq iM
theorem Row.abY{α:Type}{e R:Nat}{ay:Bool}{ae:ad->Value->α->Prop}{H:ad}{n c:Nat}{xs:List α}(h:Row e R ay ae H (.slice none n c) xs):xs=[]:=by
 obtain⟨cs,⟨a,cap,an,o,aa,aE⟩,bA⟩:=h
 simp at an
 obtain⟨rfl,rfl,rfl⟩:=an
 by_cases ag:0<c
 ·obtain⟨b,i,X,all,q,-⟩:=aE ag
  cases q
 ·exact List.eq_nil_of_length_eq_zero (by omega)
theorem SW{v:Value}{xs:List Rat}{H:ad}(aZ:jO H v xs)(au:xs.length<65536):
  aX prog 85 [v] H (fun u H1=>Ext H H1/\bB H.length 80 4 true ck H1 u xs):=by
 refine aX.cc fun Q aD=>?_
 apply aaK (by simp)
 obtain⟨a,c,rfl⟩:=Row.len aZ
 simp[KO]
 refine br.mk (fun aF=>?_) (fun aF=>?_)
 ·have:a=none:=by simpa using aF
  subst this
  have:=Row.abY aZ
  subst this
  simp[bf]
  exact aD _ _ ⟨Ext.refl H,bB.nil _ _ _ _ _ _⟩
 ·refine qv (e:=80) (R:=4) (by simp) (by simp) ?_
  simp
  refine DG (k:=H.length) (e:=80) (R:=4) (ay:=true) (bI:=64) (z:= .agg #[.bool false,.slice none 0 0,.bool false,.slice none 0 0]) (ae:=ck) (xs:=[]) (bY:=xs) (by simpa using bB.void _ _ _ _ _ _ _) (by simpa using aZ) (fun u y h=>h.whole) (fun aI dp u y ah h=>h.kept ah (by decide)) (by simp) (by simp) (by simp) (by simp) (by simp) (by rfl) (by rfl) (by rfl) (by decide) (by simp;omega) (by omega) ?_
  intro w H1 cR J ah
  simp[bf]
  exact aD _ _ ⟨J _ (Nat.le_refl _) (Ext.refl H),by simpa using cR⟩
def b0(t:List (List Rat))(i k:Nat):Rat:=(t[i]?.getD [])[k]?.getD 0
structure iC (fR H:ad) (hn n:Nat) (hI g9 gQ:Value) (t:List (List Rat)) (b9:List Int) (dw:List Bool):Prop where
 pos:0<fR.length
 ext:Ext fR H
 hQ:ig fR hI t
 xv:t.length=n
 xo:∀r∈t,r.length=n
 small:n<65536
 z0:fR.length<=hn
 fm:H[hn]?=some (.own 140 false [hI,g9,gQ])
 pv:bB fR.length 3 1 false IR H g9 b9
 seen:bB fR.length 4 1 false mu H gQ dw
theorem iC.more{fR H H1:ad}{hn n:Nat}{hI g9 gQ:Value}{t:List (List Rat)}{b9:List Int}{dw:List Bool}(h:iC fR H hn n hI g9 gQ t b9 dw)(J:Ext H H1):iC fR H1 hn n hI g9 gQ t b9 dw:=
 ⟨h.pos,h.ext.av J,h.hQ,h.xv,h.xo,h.small,h.z0,J.get_some h.fm,bM.ext (ae:=bB _ _ _ _ IR) h.pv J,bM.ext (ae:=bB _ _ _ _ mu) h.seen J⟩
theorem iC.ade{fR H aI:ad}{hn n:Nat}{hI g9 gQ:Value}{t:List (List Rat)}{b9:List Int}{dw cU:List Bool}(h:iC fR H hn n hI g9 gQ t b9 dw)(J:∀cJ:ad,cJ.length<=fR.length->Ext cJ H->Ext cJ aI)(ah:Kept H aI gQ 4)(cR:bB fR.length 4 1 false mu aI gQ cU):iC fR aI hn n hI g9 gQ t b9 cU:=
 ⟨h.pos,J _ (Nat.le_refl _) h.ext,h.hQ,h.xv,h.xo,h.small,h.z0,ah _ _ h.fm (fun _=>by simp[bN.elem?]),h.pv.other ah (by decide) fun _ _ h=>h,cR⟩
theorem iC.aa5{fR H aI:ad}{hn n:Nat}{hI g9 gQ:Value}{t:List (List Rat)}{b9 hO:List Int}{dw:List Bool}(h:iC fR H hn n hI g9 gQ t b9 dw)(J:∀cJ:ad,cJ.length<=fR.length->Ext cJ H->Ext cJ aI)(ah:Kept H aI g9 3)(cR:bB fR.length 3 1 false IR aI g9 hO):iC fR aI hn n hI g9 gQ t hO dw:=
 ⟨h.pos,J _ (Nat.le_refl _) h.ext,h.hQ,h.xv,h.xo,h.small,h.z0,ah _ _ h.fm (fun _=>by simp[bN.elem?]),cR,h.seen.other ah (by decide) fun _ _ h=>h⟩
theorem Ak{q:Rat}:((if q<0 then(-1:Int)else if q=0 then 0 else 1)<=0)↔q<=0:=by
 by_cases o:q<0
 ·simp[o,Rat.le_of_lt o]
 ·by_cases aa:q=0
  ·simp[aa]
  ·simp only[if_neg o,if_neg aa]
   constructor
   ·intro h;omega
   ·intro h;exact absurd (Std.lt_of_le_of_ne h aa) o
theorem find_spec(n:Nat):∀(fuel:Nat) {fR H:ad} {hn dP:Nat} {hI g9 gQ:Value} {t:List (List Rat)} {b9:List Int} {dw:List Bool},qz dw<fuel->iC fR H hn n hI g9 gQ t b9 dw->dw.length=n->rV n (b0 t) b9->dP<n->
  aX prog 86 [.pointer (some ⟨hn,0,none⟩),.int .i64 dP] H (fun u H1=>∃b hO cU,u= .bool b/\rR n (b0 t) b9 dw dP b hO cU/\iC fR H1 hn n hI g9 gQ t hO cU):=by
 intro fuel
 induction fuel with
 | zero=>intro fR H hn dP hI g9 gQ t b9 dw h;omega
 | succ fuel a2=>
  intro fR H hn dP hI g9 gQ t b9 dw akp bP mc eZ uh
  refine aX.cc fun Q aD=>?_
  apply aaw (by simp)
  have o2:=bP.fm
  have bd:=bP.hQ.ext bP.ext
  obtain⟨eB,A5,rfl⟩:=Row.len bP.hQ
  obtain⟨eF,fp⟩:∃eF,t[0]?=some eF:=⟨_,bs (by have:=bP.xv;omega)⟩
  have sH:=bP.xo eF (List.mem_of_getElem? fp)
  have o_:=bP.small
  simp[KF,o2]
  refine aY.mk (Hy bd fp) ?_
  rintro u H1 ⟨bp,rfl⟩
  rw[sH]
  have hZ:=bP.more bp
  simp
  refine c6.range (by kernel_rfl) n (by omega) (by simp) (by rfl) (by simp) (by decide) (by decide) (fun i di ev bS=>∃cU,kt n (b0 t) b9 dw dP i cU/\iC fR bS hn n (.slice eB t.length A5) g9 gQ t b9 cU) ?_ ?_ ?_
  ·exact⟨dw,kt.zero mc,hZ⟩
  ·rintro i di ev bS ab a7 ⟨cU,ew,p0⟩ K a4
   simp at a7
   have Ng:=p0.fm
   have jT:=p0.hQ.ext p0.ext
   obtain⟨bi,nh⟩:∃bi,cU[i]?=some bi:=⟨_,bs (by rw[ew.len];exact ab)⟩
   refine bV.join (by kernel_rfl) (fun fa gJ b7=>∃cU,kt n (b0 t) b9 dw dP (i+1) cU/\iC fR b7 hn n (.slice eB t.length A5) g9 gQ t b9 cU) ?_ ?_
   ·rintro er kh MP
    simp[a7]
    refine bV.join (by kernel_rfl) (fun fa gJ b7=>fa 35= .bool (bi || decide (b0 t dP i<=0))/\iC fR b7 hn n (.slice eB t.length A5) g9 gQ t b9 cU) ?_ ?_
    ·rintro c5 dB-
     simp[Ng]
     refine cF (ae:=mu) (xs:=cU) (n:=i) (a:=bi) (e:=4) (R:=1) (ay:=false) (by simpa using p0.seen.row) (by simp) nh (by simp) (by simp) (by simp) (by decide) ?_
     rintro dh qx rfl
     cases bi with
     | true=>
      simp
      exact dB _ _ _ ⟨by simp,p0⟩
     | false=>
      obtain⟨row,ei⟩:∃row,t[dP]?=some row:=⟨_,bs (by rw[bP.xv];exact uh)⟩
      obtain⟨q,aq⟩:∃q,row[i]?=some q:=⟨_,bs (by rw[bP.xo row (List.mem_of_getElem? ei)];exact ab)⟩
      have BV:b0 t dP i=q:=by simp[b0,ei,aq]
      simp[Ng]
      refine qw (ae:=jO) (xs:=t) (n:=dP) (a:=row) (e:=120) (R:=1) (ay:=false) (by simp) (by decide) (by simpa using jT) (by simp) ei (by simp) (by simp) (by simp) (by decide) ?_
      intro gZ mr pj
      simp
      refine qw (ae:=ck) (xs:=row) (n:=i) (a:=q) (e:=80) (R:=4) (ay:=true) (by simp) (by decide) (by simpa using pj) (by simp) aq (by simp) (by simp) (by simp) (by decide) ?_
      intro fP pG lD
      simp
      refine aY.mk (HW lD) ?_
      rintro w b7 ⟨ct,rfl⟩
      simp
      refine dB _ _ _ ⟨?_,p0.more ct⟩
      simp[BV,Ak]
    ·rintro fa gJ b7 ⟨Mw,wa⟩
     simp at Mw
     have We:=wa.fm
     simp[Mw]
     refine br.mk (fun af=>?_) (fun af=>?_)
     ·refine kh _ _ _ ⟨cU,ew.skip ?_,wa⟩
      simp at af
      rw[nh]
      rcases af with af | af
      ·exact .inl (by simp[af])
      ·exact .inr af
     ·simp at af
      have aK:0<b0 t dP i:=Rat.not_le.1 af.2
      have iY:cU[i]?.getD false=false:=by rw[nh];simp[af.1]
      simp[a7,We]
      refine ja (k:=fR.length) (e:=4) (R:=1) (ay:=false) (n:=i) (ae:=mu) (xs:=cU) (a:=true) (by simpa using wa.seen) (by simp) (by rw[ew.len];exact ab) (by simp[mu]) (by simpa using DY true) (by simp) (fun _ _ _ _ _ h=>h) (by simp) (by simp) (by simp) (by decide) ?_
      rintro ho dx jw cB sx akD-
      simp at jw sx
      have yz:=wa.ade cB sx jw
      have Nh:=yz.fm
      obtain⟨z,aQ⟩:∃z,b9[i]?=some z:=⟨_,bs (by rw[eZ.1];exact ab)⟩
      have zO:b9[i]?.getD 0=z:=by rw[aQ];rfl
      have uF:=agv (i:=i) (by rw[ew.len];exact ab) iY
      have ak5:qz cU<=qz dw:=RF (by rw[ew.len,mc]) ew.mono
      simp
      refine bV.join (by kernel_rfl) (fun jq j9 cw=>∃b sT qt,jq 60= .bool b/\iC fR cw hn n (.slice eB t.length A5) g9 gQ t sT qt/\sT.length=n/\(b=false->sT=b9/\kt n (b0 t) b9 dw dP (i+1) qt)/\(b=true->rR n (b0 t) b9 dw dP true (sT.set i (dP:Int)) qt)) ?_ ?_
      ·rintro ln eW-
       simp[a7,Nh]
       refine cF (ae:=IR) (xs:=b9) (n:=i) (a:=z) (e:=3) (R:=1) (ay:=false) (by simpa using yz.pv.row) (by simp) aQ (by simp) (by simp) (by simp) (by decide) ?_
       rintro iK mX rfl
       by_cases uP:z<0
       ·simp[uP]
        refine eW _ _ _ ⟨true,b9,cU.set i true,by simp,yz,eZ.1,fun h=>(by cases h),fun _=>ew.free eZ ab uh aK iY (by rw[zO];exact uP)⟩
       ·obtain⟨j,aN,Hi,-⟩:∃j:Nat,j<n/\z=j/\0<b0 t j i:=by
         rcases eZ.2 i ab with h | h
         ·rw[zO]at h;omega
         ·rw[zO]at h;exact h
        simp[uP,Nh]
        refine qw (ae:=IR) (xs:=b9) (n:=i) (a:=z) (e:=3) (R:=1) (ay:=false) (by simp) (by decide) (by simpa using yz.pv.row) (by simp) aQ (by simp) (by simp) (by simp) (by decide) ?_
        rintro mT va rfl
        simp[Hi]
        refine aY.mk (a2 (dw:=cU.set i true) (by omega) yz (by simp[ew.len]) eZ aN) ?_
        rintro w dW ⟨b,sT,qt,rfl,bq,Fx⟩
        simp
        refine eW _ _ _ ⟨b,sT,qt,by simp,Fx,?_,?_,?_⟩
        ·cases b with
         | false=>rw[(bq.no rfl).1];exact eZ.1
         | true=>exact(bq.yes rfl).1.1
        ·rintro rfl
         exact ew.fail ab iY aN (by rw[zO,Hi]) bq
        ·rintro rfl
         exact ew.Hz eZ ab uh aK iY (by rw[zO,Hi]) bq
      ·rintro jq j9 cw ⟨b,sT,qt,MA,BF,eM,Wb,sl⟩
       simp at MA
       have Wf:=BF.fm
       simp[MA]
       refine br.mk (fun af=>?_) (fun af=>?_)
       ·simp[a7,Wf]
        refine ja (k:=fR.length) (e:=3) (R:=1) (ay:=false) (n:=i) (ae:=IR) (xs:=sT) (a:=(dP:Int)) (by simpa using BF.pv) (by simp) (by rw[eM];exact ab) (by simp[IR]) (by simpa using hH dP) (by simp) (fun _ _ _ _ _ h=>h) (by simp) (by simp) (by simp) (by decide) ?_
        rintro py dW eJ cH qa sz-
        simp at eJ qa
        have Fx:=BF.aa5 cH qa eJ
        simp
        refine MP _ _ _ _ (by simp) ?_
        simp[bf]
        exact aD _ _ ⟨true,_,qt,rfl,sl af,Fx⟩
       ·obtain⟨rfl,US⟩:=Wb af
        exact kh _ _ _ ⟨qt,US,BF⟩
   ·rintro fa gJ b7 ⟨qt,vZ,wa⟩
    exact a4 _ _ _ (by simp[a7]) ⟨qt,vZ,wa⟩
  ·rintro di ev bS a7 ⟨cU,ew,p0⟩
   simp[bf]
   exact aD _ _ ⟨false,b9,cU,rfl,ew.end,p0⟩
end Go.cl
end
