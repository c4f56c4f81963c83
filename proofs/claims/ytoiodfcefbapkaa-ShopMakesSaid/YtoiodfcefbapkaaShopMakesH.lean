/- Part of the proof of ShopMakes. -/
import Derived.Test.YtoiodfcefbapkaaShopMakesG
set_option linter.unusedVariables false
set_option linter.unusedSimpArgs false
section
namespace Go.b9
def fK(H:ab)(u w:Value):Prop:=u=w
instance:bM fK:=⟨fun h _=>h⟩
def Grown(H:ab)(s v:Value):Prop:=∀b,inBlock v b->inBlock s b\/H.length<=b
section
variable {P:Program} {r:List br} {F:Fr} {H:ab} {Q:Fr->ab->Prop} {α:Type}
theorem X8{ek:Bool}{d1 d2 t bL cN e J bs k n:Nat}{s x:Operand}{z:Value}{cs:List Value}{aw:a_ ((⟨ek,none,some d1,.buildSlice t 1 #[(0,x)]⟩:br)::ap d2 bL cN s (T d1)::r) Q}(cL:hL H k e J (aq F s) n cs)(fy:∀v,aq (aX F d1 v) s=aq F s)
  (bt:P.underlying t=some (.slice e))(hu:P.underlying bL=some (.slice e))(I:fI P cN=true)(an:bn P e=some J)(ae:bytes? P e=some bs)(aP:dv P e=some z)(dt:flat z=true)(cW:z.cells.size=J)(c0:0<J)(qE:J<=1000)
  (dH:0<bs)(bq:(n+1)*bs<=140737488355328)(ao:(aq F x).cells.toList.length=J)(g0:((aq F x).cells.toList.all (·.oneCell'))=true)(ai:k<=H.length)
  (K:∀u au aC,hL aC k e J au (n+1) (cs++(aq F x).cells.toList)->(∀cx:ab,cx.length<=k->Ext cx H->Ext cx aC)->Kept H aC (aq F s) e->Grown H (aq F s) au->H.length<=aC.length->a8 P r Q .mk (aX (aX F d1 u) d2 au) aC):
  a8 P ((⟨ek,none,some d1,.buildSlice t 1 #[(0,x)]⟩:br)::ap d2 bL cN s (T d1)::r) Q aw F H:=by
 have fp:(made z (1*J)).length=J:=by rw[pA,Nat.one_mul]
 have aK:iy (fun i=>some (i*J,J)) (made z (1*J)) [(0,aq F x)]=some (aq F x).cells.toList:=by
  simp only[iy]
  rw[if_pos ⟨ao,by rw[fp];omega⟩]
  have:=AB (aq F x).cells.toList (made z (1*J)) [] (by rw[fp,ao])
  simpa using this
 have ax:Instr.fill (fun i=>some (i*J,J)) (made z (1*J)).toArray ((#[(0,x)]:Array (Nat×Operand)).toList.map fun p=>(p.1,aq F p.2))=some (aq F x).cells:=by
  rw[fill_eq]
  simp only[List.map_cons,List.map_nil]
  rw[aK]
  simp
 have av:∀U:Oper,U.op= .buildSlice t 1 #[(0,x)]->eR P (aq F) H U (.slice (some ⟨H.length,0,none⟩) 1 1) (H++[.own e false (aq F x).cells.toList]):=fun U ff=> .build (out:=(aq F x).cells) ff bt an aP dt cW c0 (by omega) (by omega) ax (by have:=ao;simp at this;omega)
 refine ir rfl rfl rfl av (fun U aK=>by simp[bF,aK]) (.inr ((Ext.refl H).snoc _ _ _)) ?_
 show a8 P (ap d2 bL cN s (T d1)::r) Q .mk (aX F d1 _) _
 have cV:Src (H++[.own e false (aq F x).cells.toList]) J (.slice (some ⟨H.length,0,none⟩) 1 1) 1 1 (aq F x).cells.toList:=by
  have:=Src.row (H:=H++[.own e false (aq F x).cells.toList]) (J:=J) (b:=H.length) (i:=0) (n:=1) (m:=1) (c:=1) (x:= .own e false (aq F x).cells.toList) (cs:=(aq F x).cells.toList) (by simp) rfl (by omega) (Nat.le_refl _) (by omega)
  rw[List.drop_zero,Nat.one_mul,<-ao,List.take_length]at this
  rw[ao]at this
  exact this
 have n4:hL (H++[.own e false (aq F x).cells.toList]) k e J (aq (aX F d1 (.slice (some ⟨H.length,0,none⟩) 1 1)) s) n cs:=by
  rw[fy]
  exact cL.ext ((Ext.refl H).snoc _ _ _)
 refine E6 n4 (by simpa[aq,T,aX]using cV) hu I an ae aP cW dH bq g0 (by omega) (by simp;omega) fun au aC o aa aD bD b2=>?_
 refine K _ au aC o (fun cx aH ck=>aa cx aH (ck.snoc _ _ _)) (fun b X aR ae=>aD b X ?_ (by rw[fy];exact ae)) (fun b ae=>?_) (by simp at b2;omega)
 ·rw[List.getElem?_append_left (cd.1 aR).1]
  exact aR
 ·have:=bD b ae
  rw[fy]at this
  simp at this
  rcases this with h | h
  ·exact .inl h
  ·exact .inr (by omega)
theorem AV{ek:Bool}{d1 d2 t bL cN e J bs k:Nat}{ay:Bool}{s x:Operand}{z:Value}{af:ab->Value->α->Prop}{xs:List α}{a:α}{aw:a_ ((⟨ek,none,some d1,.buildSlice t 1 #[(0,x)]⟩:br)::ap d2 bL cN s (T d1)::r) Q}(cL:bz k e J ay af H (aq F s) xs)(aF:af H (aq F x) a)
  (hw:Whole P e (aq F x))(fy:∀v,aq (aX F d1 v) s=aq F s)(hE:∀aC de u y,Kept H aC de e->af H u y->af aC u y)
  (bt:P.underlying t=some (.slice e))(hu:P.underlying bL=some (.slice e))(I:fI P cN=true)(an:bn P e=some J)(dM:c_ P e=some ay)(ae:bytes? P e=some bs)(aP:dv P e=some z)(dt:flat z=true)(cW:z.cells.size=J)(c0:0<J)(qE:J<=1000)
  (dH:0<bs)(bq:(xs.length+1)*bs<=140737488355328)(ai:k<=H.length)
  (K:∀p au aC,bz k e J ay af aC au (xs++[a])->(∀cx:ab,cx.length<=k->Ext cx H->Ext cx aC)->Kept H aC (aq F s) e->Grown H (aq F s) au->H.length<=aC.length->a8 P r Q .mk (aX (aX F d1 p) d2 au) aC):
  a8 P ((⟨ek,none,some d1,.buildSlice t 1 #[(0,x)]⟩:br)::ap d2 bL cN s (T d1)::r) Q aw F H:=by
 obtain⟨cs,jL,hD⟩:=cL
 have gu:=jL.1
 have kL:(aq F x).cells.size=J:=by have:=hw.1;rw[an]at this;exact(Option.some.inj this).symm
 have o:ay=true\/J=1:=by
  cases ay with
  | true=>exact .inl rfl
  | false=>
   refine .inr ?_
   have cc:=hw.2.2
   cases av:eB (aq F x)with
   | true=>rw[av]at cc;simp at cc;rw[cc]at dM;cases dM
   | false=>rw[av]at cc;simp at cc;rw[<-kL,cc.2];rfl
 refine X8 jL fy bt hu I an ae aP dt cW c0 qE dH bq (by simp[kL]) hw.2.1 ai fun p au aC aS aM bh b0 ey=>K p au aC ⟨_,by simpa using aS,fun i y aJ=>?_⟩ aM bh b0 ey
 by_cases ad:i<xs.length
 ·rw[List.getElem?_append_left ad]at aJ
  rw[rB gu ad o]
  exact hE _ _ _ _ bh (hD i y aJ)
 ·have eT:i=xs.length:=by
   have:=(cd.1 aJ).1
   simp at this
   omega
  subst eT
  rw[List.getElem?_append_right (Nat.le_refl _),Nat.sub_self]at aJ
  simp at aJ
  subst aJ
  rw[BR gu hw an dM]
  exact hE _ _ _ _ bh aF
end
section
variable {α:Type} {P:Program} {e J k:Nat} {ay:Bool} {af:ab->Value->α->Prop} {H aC:ab} {v s:Value} {xs:List α}
theorem Row.Wc{cs:List Value}(lH:∀i x,xs[i]?=some x->af H (ea ay J cs i) x)(ar:cs.length=xs.length*J)(k8:∀u y,af H u y->Whole P e u)(dM:c_ P e=some ay)(o:ay=true\/J=1):(cs.all (·.oneCell'))=true:=by
 rw[List.all_eq_true]
 intro u ue
 obtain⟨j,aQ⟩:=List.getElem?_of_mem ue
 have fO:j<xs.length*J:=by have:=(cd.1 aQ).1;omega
 have c0:0<J:=by rcases Nat.eq_zero_or_pos J with q | q;·subst q;simp at fO
                 exact q
 have cU:j/J<xs.length:=Nat.div_lt_of_lt_mul (by rw[Nat.mul_comm];exact fO)
 have hw:=k8 _ _ (lH _ _ (bx cU))
 have gj:u∈(ea ay J cs (j/J)).cells.toList:=by
  unfold ea
  cases ay with
  | true=>
   simp only[if_true,Value.cells,List.toList_toArray]
   have mw:=Nat.div_add_mod j J
   have fp:=Nat.mod_lt j c0
   rw[Nat.mul_comm]at mw
   refine List.mem_of_getElem? (i:=j % J) ?_
   rw[List.getElem?_take_of_lt fp,List.getElem?_drop,mw]
   exact aQ
  | false=>
   have fy:J=1:=by rcases o with h | h;cases h;exact h
   subst fy
   have my:cs[j/1]?=some u:=by rw[Nat.div_one];exact aQ
   simp only[ea,Bool.false_eq_true,if_false]at hw⊢
   rw[my]at hw⊢
   simp only[Option.getD_some]at hw⊢
   have cc:=hw.2.2
   cases av:eB u with
   | false=>rw[av]at cc;simp at cc;rw[cc.2];simp
   | true=>
    rw[av]at cc
    simp at cc
    rw[cc]at dM
    cases dM
 exact List.all_eq_true.1 hw.2.1 u gj
theorem bz.beside{cI:Nat}(h:bz k e J ay af H v xs)(qt:0<k)(ai:Kept H aC s cI)(cF:∀b,0<b->inBlock v b->¬inBlock s b)(bl:∀u x,af H u x->af aC u x):bz k e J ay af aC v xs:=by
 obtain⟨cs,⟨o,aa⟩,aD⟩:=h
 refine⟨cs,⟨o,?_⟩,fun i x ad=>bl _ _ (aD i x ad)⟩
 rcases aa with aa | ⟨c,i,cap,l,all,aS,aM,bh,b0,ey,gl⟩
 ·exact .inl aa
 ·exact .inr ⟨c,i,cap,l,all,aS,aM,bh,b0,ai _ _ ey fun ae=>absurd ae (cF c (by omega) ⟨i,_,cap,aS⟩),gl⟩
theorem bz.other{cI:Nat}(h:bz k e J ay af H v xs)(ai:Kept H aC s cI)(cF:e≠cI)(bl:∀u x,af H u x->af aC u x):bz k e J ay af aC v xs:=by
 obtain⟨cs,⟨o,aa⟩,aD⟩:=h
 refine⟨cs,⟨o,?_⟩,fun i x ad=>bl _ _ (aD i x ad)⟩
 rcases aa with aa | ⟨c,i,cap,l,all,aS,aM,bh,b0,ey,gl⟩
 ·exact .inl aa
 ·exact .inr ⟨c,i,cap,l,all,aS,aM,bh,b0,ai _ _ ey fun _=>by simp[bA.elem?];exact cF,gl⟩
theorem bz.le{bK:Nat}(h:bz k e J ay af H v xs)(ai:bK<=k):bz bK e J ay af H v xs:=by
 obtain⟨cs,⟨o,aa⟩,aD⟩:=h
 refine⟨cs,⟨o,?_⟩,aD⟩
 rcases aa with aa | ⟨c,i,cap,l,all,aS,aM,bh,b0,ey,gl⟩
 ·exact .inl aa
 ·exact .inr ⟨c,i,cap,l,all,aS,aM,bh,by omega,ey,gl⟩
theorem bz.ge(h:bz k e J ay af H v xs){b:Nat}(ae:inBlock v b)(aH:0<b):k<=b/\b<H.length:=by
 obtain⟨cs,⟨o,aa⟩,aD⟩:=h
 obtain⟨iX,dI,dL,ao⟩:=ae
 rcases aa with⟨-,aa | ⟨i,aa⟩⟩ | ⟨c,i,cap,l,all,aS,aM,bh,b0,ey,gl⟩
 ·rw[ao]at aa;simp at aa
 ·rw[ao]at aa;simp at aa;try omega
 ·rw[ao]at aS;simp at aS
  have:=(cd.1 ey).1
  omega
end
structure dQ {α:Type} (k bo e J:Nat) (ay:Bool) (af:ab->Value->α->Prop) (H:ab) (v:Value) (t:List (List α)) (us:List Value):Prop where
 pos:0<k
 own:bz k bo 1 false fK H v us
 len:us.length=t.length
 rows:∀(i:Nat) (row:List α) (u:Value),t[i]?=some row->us[i]?=some u->bz k e J ay af H u row
 oV:∀(i j b:Nat) (u w:Value),us[i]?=some u->us[j]?=some w->0<b->inBlock u b->inBlock w b->i=j
section
variable {α:Type} {P:Program} {bo e J k:Nat} {ay:Bool} {af:ab->Value->α->Prop} {H aC ma:ab} {v s au:Value} {t:List (List α)} {us:List Value}
theorem dQ.oB(h:dQ k bo e J ay af H v t us){i:Nat}{row:List α}(ad:t[i]?=some row):∃u,us[i]?=some u/\bz k e J ay af H u row:=by
 have cU:i<us.length:=by rw[h.len];exact(cd.1 ad).1
 exact⟨_,bx cU,h.rows i row _ ad (bx cU)⟩
theorem dQ.ext[bM af](h:dQ k bo e J ay af H v t us)(I:Ext H aC):dQ k bo e J ay af aC v t us:=
 ⟨h.pos,bM.ext (af:=bz k bo 1 false fK) h.own I,h.len,fun i row u o aa=>bM.ext (af:=bz k e J ay af) (h.rows i row u o aa) I,h.oV⟩
theorem dQ.row(h:dQ k bo e J ay af H v t us):Row bo 1 false (Row e J ay af) H v t:=by
 obtain⟨cs,o,aa⟩:=h.own
 refine⟨cs,by rw[<-h.len];exact o.gm,fun i row ad=>?_⟩
 obtain⟨u,hu,cL⟩:=h.oB ad
 have:=aa i u hu
 rw[show ea false 1 cs i=u from this]
 exact cL.row
theorem dQ.nil(k bo e J:Nat)(ay:Bool)(af:ab->Value->α->Prop)(H:ab)(ai:0<k):dQ k bo e J ay af H (.slice none 0 0) [] []:=
 ⟨ai,bz.nil _ _ _ _ _ _,rfl,fun i row u h=>by simp at h,fun i j b u w h=>by simp at h⟩
theorem dQ.Lg{n:Nat}(ai:0<k)(h:bz k bo 1 false fK H v (List.replicate n (.slice none 0 0))):dQ k bo e J ay af H v (List.replicate n ([]:List α)) (List.replicate n (.slice none 0 0)):=by
 refine⟨ai,h,by simp,fun i row u o aa=>?_,fun i j b u w o aa _ aD=>?_⟩
 ·rw[List.getElem?_replicate]at o aa
  split at o
  ·rw[if_pos ‹_›]at aa
   cases o;cases aa
   exact bz.nil _ _ _ _ _ _
  ·cases o
 ·rw[List.getElem?_replicate]at o
  split at o
  ·cases o
   obtain⟨iX,dI,dL,aD⟩:=aD
   simp at aD
  ·cases o
theorem dQ.put{i:Nat}{u:Value}{mS:List α}(h:dQ k bo e J ay af H v t us)(hu:us[i]?=some u)(cF:e≠bo)(ai:Kept H aC u e)(aU:Grown H u au)(db:bz k e J ay af aC au mS)(gi:∀u x,af H u x->af aC u x)
  (cL:bz k bo 1 false fK ma v (us.set i au))(jS:Kept aC ma v bo)(mo:∀u x,af aC u x->af ma u x):dQ k bo e J ay af ma v (t.set i mS) (us.set i au):=by
 have cU:=(cd.1 hu).1
 refine⟨h.pos,cL,by simp[h.len],fun j row w o aa=>?_,fun j dC b w gn o aa aH aD bD=>?_⟩
 ·by_cases fe:i=j
  ·subst fe
   rw[List.getElem?_set_self cU]at aa
   rw[List.getElem?_set_self (by rw[<-h.len];exact cU)]at o
   cases o;cases aa
   exact db.other jS cF mo
  ·rw[List.getElem?_set_ne fe]at o aa
   refine((h.rows j row w o aa).beside h.pos ai (fun b aH ae cM=>fe (h.oV i j b u w hu aa aH cM ae)) gi).other jS cF mo
 ·have fresh:∀(j:Nat) (w:Value),us[j]?=some w->i≠j->inBlock w b->¬inBlock au b:=fun j w hw nv ae cM=>by
   rcases aU b cM with q | q
   ·exact nv (h.oV i j b u w hu hw aH q ae)
   ·have tS:j<t.length:=by rw[<-h.len];exact(cd.1 hw).1
    have:=(h.rows j _ w (bx tS) hw).ge ae aH
    omega
  by_cases fe:i=j
  ·subst fe
   rw[List.getElem?_set_self cU]at o
   cases o
   by_cases lN:i=dC
   ·exact lN
   ·rw[List.getElem?_set_ne lN]at aa
    exact absurd aD (fresh dC gn aa lN bD)
  ·rw[List.getElem?_set_ne fe]at o
   by_cases lN:i=dC
   ·subst lN
    rw[List.getElem?_set_self cU]at aa
    cases aa
    exact absurd bD (fresh j w o fe aD)
   ·rw[List.getElem?_set_ne lN]at aa
    exact h.oV j dC b w gn o aa aH aD bD
theorem dQ.inner{i:Nat}{u:Value}{mS:List α}(h:dQ k bo e J ay af H v t us)(hu:us[i]?=some u)(cF:e≠bo)(ai:Kept H aC u e)(db:bz k e J ay af aC u mS)(gi:∀u x,af H u x->af aC u x):dQ k bo e J ay af aC v (t.set i mS) us:=by
 have cU:=(cd.1 hu).1
 refine⟨h.pos,h.own.other ai (Ne.symm cF) fun _ _ h=>h,by simp[h.len],fun j row w o aa=>?_,h.oV⟩
 by_cases fe:i=j
 ·subst fe
  rw[List.getElem?_set_self (by rw[<-h.len];exact cU)]at o
  rw[hu]at aa
  cases o;cases aa
  exact db
 ·rw[List.getElem?_set_ne fe]at o
  exact(h.rows j row w o aa).beside h.pos ai (fun b aH ae cM=>fe (h.oV i j b u w hu aa aH cM ae)) gi
theorem dQ.Wv{i nF:Nat}{mS:List α}(h:dQ k bo e J ay af H v t us)(cU:i<t.length)(aE:∀b,0<b->inBlock au b->nF<=b)(a3:∀(j:Nat) (w:Value) (b:Nat),us[j]?=some w->inBlock w b->0<b->b<nF)(cF:e≠bo)(db:bz k e J ay af H au mS)
  (cL:bz k bo 1 false fK ma v (us.set i au))(jS:Kept H ma v bo)(mo:∀u x,af H u x->af ma u x):dQ k bo e J ay af ma v (t.set i mS) (us.set i au):=by
 have C6:i<us.length:=by rw[h.len];exact cU
 refine⟨h.pos,cL,by simp[h.len],fun j row w o aa=>?_,fun j dC b w gn o aa aH aD bD=>?_⟩
 ·by_cases fe:i=j
  ·subst fe
   rw[List.getElem?_set_self C6]at aa
   rw[List.getElem?_set_self cU]at o
   cases o;cases aa
   exact db.other jS cF mo
  ·rw[List.getElem?_set_ne fe]at o aa
   exact(h.rows j row w o aa).other jS cF mo
 ·by_cases fe:i=j
  ·subst fe
   rw[List.getElem?_set_self C6]at o
   cases o
   by_cases lN:i=dC
   ·exact lN
   ·rw[List.getElem?_set_ne lN]at aa
    have:=a3 _ _ _ aa bD aH
    have:=aE _ aH aD
    omega
  ·rw[List.getElem?_set_ne fe]at o
   by_cases lN:i=dC
   ·subst lN
    rw[List.getElem?_set_self C6]at aa
    cases aa
    have:=a3 _ _ _ o aD aH
    have:=aE _ aH bD
    omega
   ·rw[List.getElem?_set_ne lN]at aa
    exact h.oV j dC b w gn o aa aH aD bD
theorem dQ.snoc{mS:List α}{v2:Value}{cx:ab}{nF:Nat}(h:dQ k bo e J ay af H v t us)(aE:∀b,0<b->inBlock au b->nF<=b)(a3:∀(j:Nat) (w:Value) (b:Nat),us[j]?=some w->inBlock w b->0<b->b<nF)(cF:e≠bo)(db:bz k e J ay af H au mS)
  (cL:bz k bo 1 false fK ma v2 (us++[au]))(jS:Kept H ma v bo)(mo:∀u x,af H u x->af ma u x):dQ k bo e J ay af ma v2 (t++[mS]) (us++[au]):=by
 refine⟨h.pos,cL,by simp[h.len],fun j row w o aa=>?_,fun j dC b w gn o aa aH aD bD=>?_⟩
 ·by_cases fe:j<t.length
  ·rw[List.getElem?_append_left fe]at o
   rw[List.getElem?_append_left (by rw[h.len];exact fe)]at aa
   exact(h.rows j row w o aa).other jS cF mo
  ·rw[List.getElem?_append_right (by omega)]at o
   rw[List.getElem?_append_right (by rw[h.len];omega)]at aa
   have tR:j-t.length=0:=by
    have:=(cd.1 o).1
    simp at this;omega
   rw[tR]at o
   rw[h.len,tR]at aa
   simp at o aa
   subst o;subst aa
   exact db.other jS cF mo
 ·have aQ:∀(j:Nat) (w:Value),(us++[au])[j]?=some w->inBlock w b->(us[j]?=some w/\b<nF)\/(j=us.length/\nF<=b):=fun j w hw ae=>by
   by_cases fe:j<us.length
   ·rw[List.getElem?_append_left fe]at hw
    exact .inl ⟨hw,a3 _ _ _ hw ae aH⟩
   ·rw[List.getElem?_append_right (by omega)]at hw
    have tR:j-us.length=0:=by
     have:=(cd.1 hw).1
     simp at this;omega
    rw[tR]at hw
    simp at hw
    subst hw
    exact .inr ⟨by omega,aE b aH ae⟩
  rcases aQ j w o aD with⟨aS,aM⟩ | ⟨aS,aM⟩
  ·rcases aQ dC gn aa bD with⟨bh,b0⟩ | ⟨bh,b0⟩
   ·exact h.oV j dC b w gn aS bh aH aD bD
   ·omega
  ·rcases aQ dC gn aa bD with⟨bh,b0⟩ | ⟨bh,b0⟩
   ·omega
   ·omega
theorem dQ.lt(h:dQ k bo e J ay af H v t us)(j:Nat)(w:Value)(b:Nat)(hw:us[j]?=some w)(ae:inBlock w b)(aH:0<b):b<H.length:=by
 have tS:j<t.length:=by rw[<-h.len];exact(cd.1 hw).1
 exact((h.rows j _ w (bx tS) hw).ge ae aH).2
end
def Bn(J:Nat)(u:Value)(n j m:Nat)(v:Value):Prop:=(∃b U cap c,u= .slice (some ⟨b,U,none⟩) n cap/\v= .slice (some ⟨b,U+j*J,none⟩) m c)\/(m=0/\∃a c,v= .slice a 0 c)
theorem bz.sub{α:Type}{k e J:Nat}{ay:Bool}{af:ab->Value->α->Prop}{H:ab}{v:Value}{xs:List α}(h:bz k e J ay af H v xs):Bn J v xs.length 0 xs.length v:=by
 obtain⟨cs,⟨o,aa⟩,aD⟩:=h
 rcases aa with⟨aH,aa | ⟨i,aa⟩⟩ | ⟨c,i,cap,l,all,aS,aM,bh,b0,ey,gl⟩
 ·exact .inr ⟨aH,_,_,aa⟩
 ·exact .inr ⟨aH,_,_,aa⟩
 ·exact .inl ⟨c,i,cap,cap,aS,by simpa using aS⟩
section
variable {P:Program} {r:List br} {F:Fr} {H:ab} {Q:Fr->ab->Prop} {α:Type}
theorem AW{ek:Bool}{d t e J l h k:Nat}{ay:Bool}{x:Operand}{bX ad:Option Operand}{af:ab->Value->α->Prop}{xs:List α}{aw:a_ ((⟨ek,none,some d,.slice t x bX ad none⟩:br)::r) Q}(cL:bz k e J ay af H (aq F x) xs)(hu:P.underlying t=some (.slice e))(an:bn P e=some J)(o:ay=true\/J=1)
  (ar:dN (aq F) bX=some l)(cR:fo (aq F) xs.length ad=some h)(zk:l<=h)(wF:h<=xs.length)(K:∀au,Row e J ay af H au ((xs.drop l).take (h-l))->Bn J (aq F x) xs.length l (h-l) au->a8 P r Q .mk (aX F d au) H):a8 P ((⟨ek,none,some d,.slice t x bX ad none⟩:br)::r) Q aw F H:=by
 by_cases aH:h-l=0
 ·refine q7 cL.row hu an o ar cR zk wF fun au dc=>K au dc (.inr ⟨aH,?_⟩)
  obtain⟨a,c,ao⟩:=dc.len
  rw[aH]at ao
  exact⟨a,c,by simpa using ao⟩
 ·have n4:=cL
  obtain⟨cs,⟨Iv,aa⟩,aD⟩:=n4
  rcases aa with⟨oX,-⟩ | ⟨b,i,cap,uq,all,aS,aM,bh,b0,ey,gl,xB⟩
  ·omega
  ·refine ML (b:=b) (i:=i) (len:=xs.length) (cap:=cap) (l:=l) (h:=h) aS ey rfl hu an ar cR zk (by omega) (by omega) ?_
   refine K _ ?_ (.inl ⟨b,i,cap,cap-l,aS,rfl⟩)
   refine⟨(cs.drop (l*J)).take ((h-l)*J),⟨_,_,by rw[List.length_take,List.length_drop,Nat.min_eq_left (by omega)],by rw[List.length_take,List.length_drop];omega,?_,fun _=>⟨b,i+l*J,_,all,rfl,ey,rfl,rfl,?_,?_⟩⟩,fun j y aJ=>?_⟩
   ·have bp:(h-l)*J+l*J=h*J:=by rw[<-Nat.add_mul];congr 1;omega
    have bo:h*J<=xs.length*J:=Nat.mul_le_mul_right _ wF
    have e0:((xs.drop l).take (h-l)).length=h-l:=by simp;omega
    rw[e0]
    simp
    omega
   ·have bp:(cap-l)*J+l*J=cap*J:=by rw[<-Nat.add_mul];congr 1;omega
    have e0:((xs.drop l).take (h-l)).length=h-l:=by simp;omega
    rw[e0]
    have bo:(h-l)*J<=(cap-l)*J:=Nat.mul_le_mul_right _ (by omega)
    omega
   ·have bp:(h-l)*J+l*J=h*J:=by rw[<-Nat.add_mul];congr 1;omega
    have bo:h*J<=xs.length*J:=Nat.mul_le_mul_right _ wF
    have e0:((xs.drop l).take (h-l)).length=h-l:=by simp;omega
    rw[e0,xB,List.drop_take,List.drop_drop,List.take_take,Nat.min_eq_left (by omega)]
   ·have cU:j<h-l:=by
     have:=(cd.1 aJ).1
     simp at this
     omega
    rw[List.getElem?_take_of_lt cU,List.getElem?_drop]at aJ
    have:=aD _ _ aJ
    have bp:ea ay J ((cs.drop (l*J)).take ((h-l)*J)) j=ea ay J cs (l+j):=by
     have hle:(j+1)*J<=(h-l)*J:=Nat.mul_le_mul_right _ cU
     rw[Nat.succ_mul]at hle
     unfold ea
     cases ay with
     | true=>
      simp only[if_true]
      rw[List.drop_take,List.drop_drop,List.take_take,Nat.min_eq_left (by omega),<-Nat.add_mul]
     | false=>
      have fy:J=1:=by rcases o with h | h;cases h;exact h
      subst fy
      simp only[Bool.false_eq_true,if_false,Nat.mul_one]
      rw[List.getElem?_take_of_lt cU,List.getElem?_drop]
    rw[bp]
    exact this
theorem q4{d hH bL e J k j m:Nat}{ay:Bool}{x y:Operand}{u:Value}{af:ab->Value->α->Prop}{xs bH:List α}{aw:a_ (cp d hH bL x y::r) Q}(cL:bz k e J ay af H u xs)(aL:Bn J u xs.length j m (aq F x))(adQ:j+m<=xs.length)(lH:Row e J ay af H (aq F y) bH)
  (k8:∀u y,af H u y->Whole P e u)(hE:∀aC de u y,Kept H aC de e->af H u y->af aC u y)(hu:P.underlying hH=some (.slice e))(an:bn P e=some J)(dM:c_ P e=some ay)(o:ay=true\/J=1)(c0:0<J)
  (K:∀aC,bz k e J ay af aC u (xs.take j++bH.take m++xs.drop (j+(bH.take m).length))->(∀cx:ab,cx.length<=k->Ext cx H->Ext cx aC)->Kept H aC u e->aC.length=H.length->(∀c,c<k->aC[c]?=H[c]?)->a8 P r Q .mk (aX F d (.int .i64 ((bH.take m).length:Int))) aC):a8 P (cp d hH bL x y::r) Q aw F H:=by
 have a2:∀U:Oper,U.op= .call {callee:= .builtin .copy,args:= #[x,y],argTypes:= #[hH,bL]}->bF P U=false:=fun U aK=>by simp[bF,aK]
 have aE:bU P (aq F) H (.call {callee:= .builtin .copy,args:= #[x,y],argTypes:= #[hH,bL]})=none:=rfl
 by_cases aH:(bH.take m).length=0
 ·have wK:min bH.length m=0:=by simpa[Nat.min_comm]using aH
  obtain⟨acg,HU,sn⟩:=lH.len
  obtain⟨acf,acV,ih⟩:∃a c,aq F x= .slice a m c:=by
   rcases aL with⟨b,U,cap,c,-,h⟩ | ⟨rfl,a,c,h⟩
   ·exact⟨_,_,h⟩
   ·exact⟨_,_,h⟩
  refine ir (v:= .int .i64 0) (H1:=H) rfl rfl aE (fun U aK=> .vy aK hu an (by rw[sn];exact .u7) wK ih) a2 (.inl rfl) ?_
  have he:bH.take m=[]:=List.eq_nil_of_length_eq_zero aH
  have:=K H (by rw[he];simpa using cL) (fun _ _ h=>h) (fun b X h _=>h) rfl (fun _ _=>rfl)
  rw[aH]at this
  exact this
 ·have n4:=cL
  obtain⟨cs,⟨ar,aa⟩,aD⟩:=n4
  obtain⟨fB,y2,wh⟩:=lH
  have wK:0<m:=by rcases Nat.eq_zero_or_pos m with q | q;·subst q;simp at aH
                  exact q
  obtain⟨b,U,cap,c,kJ,o5⟩:∃b U cap c,u= .slice (some ⟨b,U,none⟩) xs.length cap/\aq F x= .slice (some ⟨b,U+j*J,none⟩) m c:=by
   rcases aL with h | ⟨q,-⟩
   ·exact h
   ·omega
  rcases aa with⟨oX,-⟩ | ⟨ca,jZ,dm,uq,all,aS,aM,bh,b0,ey,gl,xB⟩
  ·omega
  rw[kJ]at aS
  simp at aS
  obtain⟨⟨rfl,rfl⟩,rfl⟩:=aS
  obtain⟨n,r3⟩:∃n,n=(bH.take m).length:=⟨_,rfl⟩
  have ua:n=min bH.length m:=by rw[r3];simp[Nat.min_comm]
  have jQ:fB.length=bH.length*J:=by obtain⟨_,_,_,_,h,_⟩:=y2;exact h
  have cV:Src H J (aq F y) bH.length n (fB.take (n*J)):=ec.src y2 (by omega)
  have zu:n*J<=bH.length*J:=Nat.mul_le_mul_right _ (by omega)
  have nx:(fB.take (n*J)).length=n*J:=by simp;omega
  have wP:((fB.take (n*J)).all (·.oneCell'))=true:=by
   have:=Row.Wc (P:=P) wh jQ k8 dM o
   rw[List.all_eq_true]at this⊢
   exact fun u hu=>this u (List.mem_of_mem_take hu)
  have bp:(j+n)*J=j*J+n*J:=Nat.add_mul _ _ _
  have bo:(j+n)*J<=xs.length*J:=Nat.mul_le_mul_right _ (by omega)
  have e0:xs.length*J<=cap*J:=Nat.mul_le_mul_right _ bh
  have bq:U+j*J+(fB.take (n*J)).length<=all.length:=by omega
  refine ir (v:= .int .i64 n) (H1:=H.set b (.own e uq (c3 all (U+j*J) (fB.take (n*J))))) rfl rfl aE (fun U aK=> .copy aK hu an cV ua (by omega) ey bq wP o5) a2 (.inl rfl) ?_
  have gD:=(cd.1 ey).1
  have tV:Kept H (H.set b (.own e uq (c3 all (U+j*J) (fB.take (n*J))))) u e:=fun ca X aR cM=>by
   have:b≠ca:=fun cI=>by
    subst cI
    rw[ey]at aR
    exact cM ⟨U,_,cap,kJ⟩ (by rw[<-Option.some.inj aR];rfl)
   rw[List.getElem?_set_ne this];exact aR
  have hlen:(xs.take j++bH.take m++xs.drop (j+(bH.take m).length)).length=xs.length:=by
   simp only[List.length_append,List.length_take,List.length_drop]
   omega
  have Rs:(cs.take (j*J)++fB.take (n*J)++cs.drop (j*J+n*J))=c3 cs (j*J) (fB.take (n*J)):=by
   unfold c3;rw[nx]
  have:=K (H.set b (.own e uq (c3 all (U+j*J) (fB.take (n*J))))) ⟨c3 cs (j*J) (fB.take (n*J)),⟨by rw[mU (by omega),ar,hlen],.inr ⟨b,U,cap,uq,_,by rw[hlen];exact kJ,aM,by rw[hlen];exact bh,b0,List.getElem?_set_self gD,by rw[mU bq];exact gl,?_⟩⟩,fun i y aJ=>?_⟩
   (fun cx aH I=>I.set (by omega) (by simp)) tV (by simp) (fun c ag=>List.getElem?_set_ne (by omega))
  ·rw[<-r3]at this;exact this
  ·rw[hlen,xB]
   have nt:j*J+(fB.take (n*J)).length<=((all.drop U).take (xs.length*J)).length:=by simp;omega
   apply List.ext_getElem?
   intro i
   by_cases ad:i<xs.length*J
   ·rw[List.getElem?_take_of_lt ad,List.getElem?_drop,q2 bq,q2 nt,List.getElem?_take_of_lt ad,List.getElem?_drop]
    by_cases ag:j*J<=i/\i<j*J+(fB.take (n*J)).length
    ·rw[if_pos ag,if_pos ⟨by omega,by omega⟩]
     congr 1
     omega
    ·rw[if_neg ag,if_neg (by omega)]
   ·rw[List.getElem?_eq_none (by rw[mU nt];simp;omega),List.getElem?_eq_none (by simp;omega)]
  ·
   have mo:∀u x,af H u x->af (H.set b (.own e uq (c3 all (U+j*J) (fB.take (n*J))))) u x:=fun u x h=>hE _ _ _ _ tV h
   rw[<-Rs]
   have bt:(cs.take (j*J)).length=j*J:=by simp;omega
   by_cases iC:i<j
   ·rw[List.append_assoc,List.getElem?_append_left (by simp;omega),List.getElem?_take_of_lt iC]at aJ
    rw[List.append_assoc,rB bt iC o]
    have:ea ay J (cs.take (j*J)) i=ea ay J cs i:=by
     have:=rB (ay:=ay) (i:=i) (fB:=cs.drop (j*J)) bt iC o
     rw[List.take_append_drop]at this
     exact this.symm
    rw[this]
    exact mo _ _ (aD _ _ aJ)
   ·by_cases hO:i<j+n
    ·rw[List.append_assoc,List.getElem?_append_right (by simp;omega),List.getElem?_append_left (by simp;omega)]at aJ
     have fO:(xs.take j).length=j:=by simp;omega
     rw[fO,List.getElem?_take_of_lt (by omega)]at aJ
     rw[List.append_assoc,yD bt (by omega) o,rB nx (by omega) o]
     have:ea ay J (fB.take (n*J)) (i-j)=ea ay J fB (i-j):=by
      have:=rB (ay:=ay) (i:=i-j) (fB:=fB.drop (n*J)) nx (by omega) o
      rw[List.take_append_drop]at this
      exact this.symm
     rw[this]
     exact mo _ _ (wh _ _ aJ)
    ·rw[List.getElem?_append_right (by simp;omega)]at aJ
     have kf:(xs.take j++bH.take m).length=j+n:=by simp;omega
     rw[kf,<-r3,List.getElem?_drop,show j+n+(i-(j+n))=i by omega]at aJ
     have pa:(cs.take (j*J)++fB.take (n*J)).length=(j+n)*J:=by rw[List.length_append,bt,nx,bp]
     rw[yD pa (by omega) o]
     have:ea ay J (cs.drop (j*J+n*J)) (i-(j+n))=ea ay J cs i:=by
      have bD:(cs.take ((j+n)*J)).length=(j+n)*J:=by simp;omega
      have:=yD (ay:=ay) (i:=i) (fB:=cs.drop ((j+n)*J)) bD (by omega) o
      rw[List.take_append_drop,bp]at this
      exact this.symm
     rw[this]
     exact mo _ _ (aD _ _ aJ)
end
def eK{α:Type}(P:Program)(e:Nat)(af:ab->Value->α->Prop)(H:ab)(u:Value):Option α->Prop
 | some a=>af H u a
 | none=>Whole P e u
section
variable {α:Type} {P:Program} {e J k:Nat} {ay:Bool} {af:ab->Value->α->Prop} {H:ab} {v:Value} {xs:List α}
instance[bM af]:bM (eK P e af):=⟨fun{H H1 u U} h I=>by
 cases U with
 | none=>exact h
 | some a=>exact bM.ext (af:=af) h I⟩
theorem eK.iv(bl:∀u y,af H u y->Whole P e u):∀u y,eK P e af H u y->Whole P e u
 | u,none,h=>h
 | u,some a,h=>bl u a h
theorem eK.kept{cI:Nat}(bl:∀aC de u y,Kept H aC de cI->af H u y->af aC u y):∀aC de u y,Kept H aC de cI->eK P e af H u y->eK P e af aC u y
 | aC,de,u,none,_,h=>h
 | aC,de,u,some a,ai,h=>bl aC de u a ai h
theorem Row.opt(h:Row e J ay af H v xs):Row e J ay (eK P e af) H v (xs.map some):=by
 obtain⟨cs,o,aa⟩:=h
 refine⟨cs,by simpa using o,fun i x ad=>?_⟩
 rw[List.getElem?_map,Option.map_eq_some_iff]at ad
 obtain⟨y,aJ,rfl⟩:=ad
 exact aa i y aJ
theorem bz.Fh(h:bz k e J ay (eK P e af) H v (xs.map some)):bz k e J ay af H v xs:=by
 obtain⟨cs,o,aa⟩:=h
 refine⟨cs,by simpa using o,fun i x ad=>?_⟩
 exact aa i (some x) (by simp[ad])
theorem EG{α:Type}(a:α){n N:Nat}(aH:n<=N):(List.replicate n (some a)++List.replicate (N-n) (none:Option α)).take n++(List.replicate n (some a)).take (N-n)++(List.replicate n (some a)++List.replicate (N-n) (none:Option α)).drop (n+((List.replicate n (some a)).take (N-n)).length)=List.replicate (n+min (N-n) n) (some a)++List.replicate (N-(n+min (N-n) n)) none:=by
 rw[List.take_replicate,List.take_append,List.take_replicate]
 simp only[List.length_replicate,Nat.sub_self,List.take_zero,List.append_nil,Nat.min_self]
 rw[List.replicate_append_replicate]
 congr 1
 rw[List.drop_append,List.drop_eq_nil_of_le (by simp),List.nil_append]
 simp only[List.length_replicate,List.drop_replicate]
 congr 1
 omega
theorem EF{α:Type}(a:α)(N:Nat):(List.replicate N (none:Option α)).take 0++([some a]:List (Option α)).take N++(List.replicate N (none:Option α)).drop (0+(([some a]:List (Option α)).take N).length)=List.replicate (min N 1) (some a)++List.replicate (N-min N 1) none:=by
 rcases N with _ | N
 ·simp
 ·have:min (N+1) 1=1:=by omega
  rw[this]
  simp
theorem EE{α:Type}(a:α){n N:Nat}(aH:n<=N)(o:¬n<N):List.replicate n (some a)++List.replicate (N-n) (none:Option α)=(List.replicate N a).map some:=by
 have:n=N:=by omega
 subst this
 simp
end
section
variable {P:Program} {r:List br} {F:Fr} {H:ab} {Q:Fr->ab->Prop} {α:Type}
theorem AR{ek:Bool}{d t e J:Nat}{ay:Bool}{x:Operand}{z:Value}{af:ab->Value->α->Prop}{a:α}{aw:a_ ((⟨ek,none,some d,.buildSlice t 1 #[(0,x)]⟩:br)::r) Q}(aF:∀aC,Ext H aC->af aC (aq F x) a)(hw:Whole P e (aq F x))
  (bt:P.underlying t=some (.slice e))(an:bn P e=some J)(dM:c_ P e=some ay)(aP:dv P e=some z)(dt:flat z=true)(cW:z.cells.size=J)(c0:0<J)(qE:J<=1000)
  (K:∀v aC,bz H.length e J ay af aC v [a]->Ext H aC->a8 P r Q .mk (aX F d v) aC):a8 P ((⟨ek,none,some d,.buildSlice t 1 #[(0,x)]⟩:br)::r) Q aw F H:=by
 have fp:(made z (1*J)).length=J:=by rw[pA,Nat.one_mul]
 have kL:(aq F x).cells.size=J:=by have:=hw.1;rw[an]at this;exact(Option.some.inj this).symm
 have ao:(aq F x).cells.toList.length=J:=by simp[kL]
 have aK:iy (fun i=>some (i*J,J)) (made z (1*J)) [(0,aq F x)]=some (aq F x).cells.toList:=by
  simp only[iy]
  rw[if_pos ⟨ao,by rw[fp];omega⟩]
  have:=AB (aq F x).cells.toList (made z (1*J)) [] (by rw[fp,ao])
  simpa using this
 have ax:Instr.fill (fun i=>some (i*J,J)) (made z (1*J)).toArray ((#[(0,x)]:Array (Nat×Operand)).toList.map fun p=>(p.1,aq F p.2))=some (aq F x).cells:=by
  rw[fill_eq]
  simp only[List.map_cons,List.map_nil]
  rw[aK]
  simp
 have av:∀U:Oper,U.op= .buildSlice t 1 #[(0,x)]->eR P (aq F) H U (.slice (some ⟨H.length,0,none⟩) 1 1) (H++[.own e false (aq F x).cells.toList]):=fun U ff=> .build (out:=(aq F x).cells) ff bt an aP dt cW c0 (by omega) (by omega) ax (by have:=ao;simp at this;omega)
 have I:Ext H (H++[.own e false (aq F x).cells.toList]):=(Ext.refl H).snoc _ _ _
 refine ir rfl rfl rfl av (fun U aK=>by simp[bF,aK]) (.inr I) (K _ _ ⟨(aq F x).cells.toList,⟨by simp[kL],.inr ⟨H.length,0,1,false,(aq F x).cells.toList,rfl,by omega,Nat.le_refl _,Nat.le_refl _,by simp,by simp[kL],?_⟩⟩,fun i y ad=>?_⟩ I)
 ·rw[List.drop_zero,List.length_singleton,Nat.one_mul,<-ao,List.take_length]
 ·have qq:i=0:=by have:=(cd.1 ad).1;simp at this;exact this
  subst qq
  simp at ad
  subst ad
  have:=BR (n:=0) (cs:=[]) (by simp) hw an dM
  rw[List.nil_append]at this
  rw[this]
  exact aF _ I
end
section
variable {P:Program} {r:List br} {F:Fr} {H:ab} {Q:Fr->ab->Prop} {α:Type}
theorem AT{d t e J bs n:Nat}{ay:Bool}{x y:Operand}{eo cB:IntKind}{z:Value}{af:ab->Value->α->Prop}{a:α}{aw:a_ (ms d t x y::r) Q}(hu:P.underlying t=some (.slice e))(an:bn P e=some J)(ae:bytes? P e=some bs)(aP:dv P e=some z)(dt:flat z=true)
  (dM:c_ P e=some ay)(hw:Whole P e z)(I:aq F x= .int eo (n:Int))(aJ:aq F y= .int cB (n:Int))(c0:0<J)(dH:0<bs)(bq:bs*n<=281474976710656)(bl:∀aC,af aC z a)
  (K:∀fW gS aC,bz H.length e J ay af aC (.slice fW n gS) (List.replicate n a)->Ext H aC->a8 P r Q .mk (aX F d (.slice fW n gS)) aC):a8 P (ms d t x y::r) Q aw F H:=
 q5 hu an ae aP dt dM hw I aJ c0 dH bq bl fun v aC cL oq ag=>by
  have ar:=cL.len
  rw[List.length_replicate]at ar
  obtain⟨fW,gS,rfl⟩:=ar
  exact K fW gS aC cL oq
end
end Go.b9
end
section
set_option maxRecDepth 8000
set_option maxHeartbeats 1000000
namespace Go.b9
open Go.Proofs
open Go.Proofs.Try (prog)
attribute [-simp] fJ gN hI
def yj(a b:Int):Int:=IntKind.u64.wrap ((BitVec.ofInt 64 a&&&BitVec.ofInt 64 b).toNat:Int)
@[simp high] theorem aeI(P:Program)(t:Nat)(a b:Int):dO P .and t (.int .u64 a) (.int .u64 b)=some (.int .u64 (yj a b)):=Xd
theorem Hr{x:Nat}(I:x<4294967296):yj (x:Int) 4294967295=(x:Int):=by
 unfold yj
 have o:((BitVec.ofInt 64 (x:Int))&&&(BitVec.ofInt 64 4294967295)).toNat=x:=by
  have e:(4294967295:Int)=((4294967295:Nat):Int):=rfl
  rw[e,BitVec.ofInt_natCast,BitVec.ofInt_natCast,BitVec.toNat_and,BitVec.toNat_ofNat,BitVec.toNat_ofNat,Nat.mod_eq_of_lt (by omega),Nat.mod_eq_of_lt (by omega)]
  have:=Nat.and_two_pow_sub_one_eq_mod x 32
  rw[show(4294967295:Nat)=2^32-1 from rfl,this]
  omega
 rw[o]
 exact fR (by omega) (by omega)
theorem EN{x:Nat}(I:x<4294967296):Int.fdiv (x:Int) 4294967296=0:=by
 rw[Int.fdiv_eq_ediv_of_nonneg _ (by decide)]
 omega
theorem V4{a b:Nat}{H:ab}(aF:a<65536)(ae:b<65536):a0 prog 59 [.int .u64 a,.int .u64 b] H (fun u H1=>H1=H/\u= .tuple #[.int .u64 0,.int .u64 (a*b:Nat)]):=by
 refine a0.cq fun Q aG=>?_
 apply TV (by simp)
 obtain⟨p,aT⟩:∃p,p=a*b:=⟨_,rfl⟩
 have kh:p<4294967296:=by
  have:=Nat.mul_lt_mul'' aF ae
  omega
 have SA:(a:Int)*(b:Int)=(p:Int):=by rw[aT];simp
 have dP:IntKind.wrap .u64 0=0:=by decide
 have wp:IntKind.wrap .u64 (p:Int)=p:=fR (by omega) (by omega)
 have fW:=Hr (show a<4294967296 by omega)
 have ek:=Hr (show b<4294967296 by omega)
 have abw:Int.fdiv 0 4294967296=0:=by decide
 have Fx:yj 0 4294967295=0:=by decide
 simp[Gu,fW,ek,EN (show a<4294967296 by omega),EN (show b<4294967296 by omega),SA,wp,dP,EN kh,abw,Fx,bj]
 exact aG _ _ ⟨rfl,by simp[aT]⟩
theorem Eh{a b:Nat}{H:ab}(aF:a<65536)(ae:b<65536):a0 prog 35 [.int .u64 a,.int .u64 b] H (fun u H1=>H1=H/\u= .tuple #[.int .u64 0,.int .u64 (a*b:Nat)]):=by
 refine a0.cq fun Q aG=>?_
 apply TU (by simp)
 simp[Gt]
 refine a7.mk (V4 aF ae) ?_
 rintro u H1 ⟨rfl,rfl⟩
 simp[bj]
 exact aG _ _ ⟨rfl,by simp⟩
theorem Fe{n:Nat}(h:n<65536):IntKind.u64.wrap (n:Int)=n:=fR (by omega) (by omega)
theorem uk{n:Nat}(h:n<65536):IntKind.i64.wrap (n:Int)=n:=cP (by omega) (by omega)
theorem L6{α:Type}{af:ab->Value->α->Prop}[bM af]{v:Value}{a:α}{n:Nat}{H:ab}(aR:Row 3 1 false af H v [a])(aE:n<65536)
  (k8:∀H u y,af H u y->Whole prog 3 u)(hE:∀H aC de u y,Kept H aC de 3->af H u y->af aC u y):
  a0 prog 16 [v,.int .i64 n] H (fun u H1=>Ext H H1/\bz H.length 3 1 false af H1 u (List.replicate n a)):=by
 refine a0.cq fun Q aG=>?_
 apply U7 (by simp)
 obtain⟨gZ,cg,ao⟩:=aR.len
 subst ao
 have ny:=Fe aE
 have iC:=uk aE
 simp[Hd]
 refine bV.join (by kernel_rfl) (fun c7 dV bR=>bR=H) ?_ ?_
 ·rintro K a1-
  simp
  refine bG.cC (fun h=>by omega) (fun _=>?_)
  exact a1 _ _ _ rfl
 rintro c7 dV bR rfl
 simp
 refine cY (af:=af) (xs:=[a]) (by simpa using aR) (by simp) ?_
 have a5:IntKind.u64.wrap 1=((1:Nat):Int):=by decide
 simp[ny,a5]
 refine a7.mk (Eh (a:=1) (b:=n) (by omega) aE) ?_
 rintro u H1 ⟨rfl,rfl⟩
 simp
 refine bV.join (by kernel_rfl) (fun fS hj b_=>b_=H1) ?_ ?_
 ·rintro K a1-
  rw[kp]
  refine bV.join (by kernel_rfl) (fun fS hj b_=>b_=H1/\fS 26= .bool false) ?_ ?_
  ·rintro dY iP-
   simp
   exact iP _ _ _ ⟨rfl,by simp;omega⟩
  ·rintro fS hj b_ ⟨rfl,nh⟩
   simp only[jY]at nh
   simp at nh
   simp[nh]
   exact a1 _ _ _ rfl
 rintro fS hj b_ rfl
 simp[iC]
 refine q5 (e:=3) (J:=1) (bs:=8) (ay:=false) (n:=n) (eo:= .i64) (cB:= .i64) (z:=(.int .i64 0)) (af:=eK prog 3 af) (a:=none) (by simp) (by simp) (by simp) (by rfl) (by first | rfl | simp[flat,gB]) (by simp) ⟨by rfl,by rfl,by simp[eB]⟩ (by simp) (by simp) (by decide) (by decide) (by omega) (fun aC=>⟨by rfl,by rfl,by simp[eB]⟩) ?_
 rintro au dX cL cH-
 simp
 refine q4 (e:=3) (J:=1) (ay:=false) (af:=eK prog 3 af) (xs:=List.replicate n none) (bH:=[some a]) (u:=au) (j:=0) (m:=n) (k:=b_.length) cL (by simpa using cL.sub) (by simp) (by simpa using bM.ext aR.opt cH) (eK.iv fun u y=>k8 _ u y) (eK.kept (hE _)) (by simp) (by simp) (by simp) (by decide) (by decide) ?_
 rintro cE hp cA- - -
 rw[EF]at hp
 simp
 refine dy.mk (by kernel_rfl) (fun m az bC H1=>∃q:Nat,m=n-q/\(0<q\/n=0)/\q<=n/\az 8= .int .i64 (q:Int)/\az 7=au/\bz b_.length 3 1 false (eK prog 3 af) H1 au (List.replicate q (some a)++List.replicate (n-q) none)/\Ext b_ H1) (n-min n 1) ⟨min n 1,rfl,by omega,by omega,by simp,by simp,hp,cA _ (Nat.le_refl _) cH⟩ ?_
 rintro m m1 oK eE ⟨q,rfl,zA,lR,d_,cJ,fm,c9⟩ K a1
 simp at d_ cJ
 simp[d_,cJ]
 refine cY (af:=eK prog 3 af) (xs:=List.replicate q (some a)++List.replicate (n-q) none) (by simpa[cJ]using fm.row) (by simp) ?_
 simp
 obtain⟨xs,ha⟩:∃xs,xs=List.replicate q (some a)++List.replicate (n-q) (none:Option α):=⟨_,rfl⟩
 have iW:xs.length=n:=by rw[ha];simp;omega
 rw[<-ha]at fm
 refine bG.cC (fun a3=>?_) (fun jR=>?_)
 ·simp
  refine AW (e:=3) (J:=1) (ay:=false) (af:=eK prog 3 af) (xs:=xs) (l:=q) (h:=n) (k:=b_.length) (by simpa[cJ]using fm) (by simp) (by simp) (by decide) (by simp[dN,d_]) (by simp[fo,iW]) (by omega) (by omega) ?_
  intro x0 bI ki
  simp at ki
  simp
  refine q7 (e:=3) (J:=1) (ay:=false) (af:=eK prog 3 af) (xs:=xs) (l:=0) (h:=q) (by simpa[cJ]using fm.row) (by simp) (by simp) (by decide) (by simp[dN,d_]) (by simp[fo,d_]) (by omega) (by omega) ?_
  intro pO bu
  have bo:(xs.drop 0).take (q-0)=List.replicate q (some a):=by rw[ha];simp
  rw[bo]at bu
  refine q4 (e:=3) (J:=1) (ay:=false) (af:=eK prog 3 af) (xs:=xs) (bH:=List.replicate q (some a)) (u:=au) (j:=q) (m:=n-q) (k:=b_.length) fm (by simpa using ki) (by omega) (by simpa using bu) (eK.iv fun u y=>k8 _ u y) (eK.kept (hE _)) (by simp) (by simp) (by simp) (by decide) (by decide) ?_
  rintro e8 k7 dA- - -
  rw[ha,EG a lR]at k7
  have hO:=uk (n:=q+min (n-q) q) (by omega)
  simp at hO
  simp[d_,hO]
  refine a1 (n-(q+min (n-q) q)) _ _ _ (by omega) ⟨q+min (n-q) q,rfl,by omega,by omega,by simp,by simp[cJ],k7,dA _ (Nat.le_refl _) c9⟩
 ·have wR:q=n:=by omega
  rw[ha,EE a lR (by omega)]at fm
  simp[bj,cJ]
  exact aG _ _ ⟨c9,fm.Fh⟩
theorem WV{α:Type}{af:ab->Value->α->Prop}[bM af]{v:Value}{a:α}{n:Nat}{H:ab}(aR:Row 25 1 false af H v [a])(aE:n<65536)
  (k8:∀H u y,af H u y->Whole prog 25 u)(hE:∀H aC de u y,Kept H aC de 25->af H u y->af aC u y):
  a0 prog 36 [v,.int .i64 n] H (fun u H1=>Ext H H1/\bz H.length 25 1 false af H1 u (List.replicate n a)):=by
 refine a0.cq fun Q aG=>?_
 apply U6 (by simp)
 obtain⟨gZ,cg,ao⟩:=aR.len
 subst ao
 have ny:=Fe aE
 have iC:=uk aE
 simp[Hc]
 refine bV.join (by kernel_rfl) (fun c7 dV bR=>bR=H) ?_ ?_
 ·rintro K a1-
  simp
  refine bG.cC (fun h=>by omega) (fun _=>?_)
  exact a1 _ _ _ rfl
 rintro c7 dV bR rfl
 simp
 refine cY (af:=af) (xs:=[a]) (by simpa using aR) (by simp) ?_
 have a5:IntKind.u64.wrap 1=((1:Nat):Int):=by decide
 simp[ny,a5]
 refine a7.mk (Eh (a:=1) (b:=n) (by omega) aE) ?_
 rintro u H1 ⟨rfl,rfl⟩
 simp
 refine bV.join (by kernel_rfl) (fun fS hj b_=>b_=H1) ?_ ?_
 ·rintro K a1-
  rw[kp]
  refine bV.join (by kernel_rfl) (fun fS hj b_=>b_=H1/\fS 26= .bool false) ?_ ?_
  ·rintro dY iP-
   simp
   exact iP _ _ _ ⟨rfl,by simp;omega⟩
  ·rintro fS hj b_ ⟨rfl,nh⟩
   simp only[jY]at nh
   simp at nh
   simp[nh]
   exact a1 _ _ _ rfl
 rintro fS hj b_ rfl
 simp[iC]
 refine q5 (e:=25) (J:=1) (bs:=24) (ay:=false) (n:=n) (eo:= .i64) (cB:= .i64) (z:=(.slice none 0 0)) (af:=eK prog 25 af) (a:=none) (by simp) (by simp) (by simp) (by rfl) (by first | rfl | simp[flat,gB]) (by simp) ⟨by rfl,by rfl,by simp[eB]⟩ (by simp) (by simp) (by decide) (by decide) (by omega) (fun aC=>⟨by rfl,by rfl,by simp[eB]⟩) ?_
 rintro au dX cL cH-
 simp
 refine q4 (e:=25) (J:=1) (ay:=false) (af:=eK prog 25 af) (xs:=List.replicate n none) (bH:=[some a]) (u:=au) (j:=0) (m:=n) (k:=b_.length) cL (by simpa using cL.sub) (by simp) (by simpa using bM.ext aR.opt cH) (eK.iv fun u y=>k8 _ u y) (eK.kept (hE _)) (by simp) (by simp) (by simp) (by decide) (by decide) ?_
 rintro cE hp cA- - -
 rw[EF]at hp
 simp
 refine dy.mk (by kernel_rfl) (fun m az bC H1=>∃q:Nat,m=n-q/\(0<q\/n=0)/\q<=n/\az 8= .int .i64 (q:Int)/\az 7=au/\bz b_.length 25 1 false (eK prog 25 af) H1 au (List.replicate q (some a)++List.replicate (n-q) none)/\Ext b_ H1) (n-min n 1) ⟨min n 1,rfl,by omega,by omega,by simp,by simp,hp,cA _ (Nat.le_refl _) cH⟩ ?_
 rintro m m1 oK eE ⟨q,rfl,zA,lR,d_,cJ,fm,c9⟩ K a1
 simp at d_ cJ
 simp[d_,cJ]
 refine cY (af:=eK prog 25 af) (xs:=List.replicate q (some a)++List.replicate (n-q) none) (by simpa[cJ]using fm.row) (by simp) ?_
 simp
 obtain⟨xs,ha⟩:∃xs,xs=List.replicate q (some a)++List.replicate (n-q) (none:Option α):=⟨_,rfl⟩
 have iW:xs.length=n:=by rw[ha];simp;omega
 rw[<-ha]at fm
 refine bG.cC (fun a3=>?_) (fun jR=>?_)
 ·simp
  refine AW (e:=25) (J:=1) (ay:=false) (af:=eK prog 25 af) (xs:=xs) (l:=q) (h:=n) (k:=b_.length) (by simpa[cJ]using fm) (by simp) (by simp) (by decide) (by simp[dN,d_]) (by simp[fo,iW]) (by omega) (by omega) ?_
  intro x0 bI ki
  simp at ki
  simp
  refine q7 (e:=25) (J:=1) (ay:=false) (af:=eK prog 25 af) (xs:=xs) (l:=0) (h:=q) (by simpa[cJ]using fm.row) (by simp) (by simp) (by decide) (by simp[dN,d_]) (by simp[fo,d_]) (by omega) (by omega) ?_
  intro pO bu
  have bo:(xs.drop 0).take (q-0)=List.replicate q (some a):=by rw[ha];simp
  rw[bo]at bu
  refine q4 (e:=25) (J:=1) (ay:=false) (af:=eK prog 25 af) (xs:=xs) (bH:=List.replicate q (some a)) (u:=au) (j:=q) (m:=n-q) (k:=b_.length) fm (by simpa using ki) (by omega) (by simpa using bu) (eK.iv fun u y=>k8 _ u y) (eK.kept (hE _)) (by simp) (by simp) (by simp) (by decide) (by decide) ?_
  rintro e8 k7 dA- - -
  rw[ha,EG a lR]at k7
  have hO:=uk (n:=q+min (n-q) q) (by omega)
  simp at hO
  simp[d_,hO]
  refine a1 (n-(q+min (n-q) q)) _ _ _ (by omega) ⟨q+min (n-q) q,rfl,by omega,by omega,by simp,by simp[cJ],k7,dA _ (Nat.le_refl _) c9⟩
 ·have wR:q=n:=by omega
  rw[ha,EE a lR (by omega)]at fm
  simp[bj,cJ]
  exact aG _ _ ⟨c9,fm.Fh⟩
theorem WU{α:Type}{af:ab->Value->α->Prop}[bM af]{v:Value}{a:α}{n:Nat}{H:ab}(aR:Row 44 4 true af H v [a])(aE:n<65536)
  (k8:∀H u y,af H u y->Whole prog 44 u)(hE:∀H aC de u y,Kept H aC de 44->af H u y->af aC u y):
  a0 prog 83 [v,.int .i64 n] H (fun u H1=>Ext H H1/\bz H.length 44 4 true af H1 u (List.replicate n a)):=by
 refine a0.cq fun Q aG=>?_
 apply U8 (by simp)
 obtain⟨gZ,cg,ao⟩:=aR.len
 subst ao
 have ny:=Fe aE
 have iC:=uk aE
 simp[He]
 refine bV.join (by kernel_rfl) (fun c7 dV bR=>bR=H) ?_ ?_
 ·rintro K a1-
  simp
  refine bG.cC (fun h=>by omega) (fun _=>?_)
  exact a1 _ _ _ rfl
 rintro c7 dV bR rfl
 simp
 refine cY (af:=af) (xs:=[a]) (by simpa using aR) (by simp) ?_
 have a5:IntKind.u64.wrap 1=((1:Nat):Int):=by decide
 simp[ny,a5]
 refine a7.mk (Eh (a:=1) (b:=n) (by omega) aE) ?_
 rintro u H1 ⟨rfl,rfl⟩
 simp
 refine bV.join (by kernel_rfl) (fun fS hj b_=>b_=H1) ?_ ?_
 ·rintro K a1-
  rw[kp]
  refine bV.join (by kernel_rfl) (fun fS hj b_=>b_=H1/\fS 26= .bool false) ?_ ?_
  ·rintro dY iP-
   simp
   exact iP _ _ _ ⟨rfl,by simp;omega⟩
  ·rintro fS hj b_ ⟨rfl,nh⟩
   simp only[jY]at nh
   simp at nh
   simp[nh]
   exact a1 _ _ _ rfl
 rintro fS hj b_ rfl
 simp[iC]
 refine q5 (e:=44) (J:=4) (bs:=64) (ay:=true) (n:=n) (eo:= .i64) (cB:= .i64) (z:=(.agg #[.bool false,.slice none 0 0,.bool false,.slice none 0 0])) (af:=eK prog 44 af) (a:=none) (by simp) (by simp) (by simp) (by rfl) (by first | rfl | simp[flat,gB]) (by simp) ⟨by rfl,by rfl,by simp[eB]⟩ (by simp) (by simp) (by decide) (by decide) (by omega) (fun aC=>⟨by rfl,by rfl,by simp[eB]⟩) ?_
 rintro au dX cL cH-
 simp
 refine q4 (e:=44) (J:=4) (ay:=true) (af:=eK prog 44 af) (xs:=List.replicate n none) (bH:=[some a]) (u:=au) (j:=0) (m:=n) (k:=b_.length) cL (by simpa using cL.sub) (by simp) (by simpa using bM.ext aR.opt cH) (eK.iv fun u y=>k8 _ u y) (eK.kept (hE _)) (by simp) (by simp) (by simp) (by decide) (by decide) ?_
 rintro cE hp cA- - -
 rw[EF]at hp
 simp
 refine dy.mk (by kernel_rfl) (fun m az bC H1=>∃q:Nat,m=n-q/\(0<q\/n=0)/\q<=n/\az 8= .int .i64 (q:Int)/\az 7=au/\bz b_.length 44 4 true (eK prog 44 af) H1 au (List.replicate q (some a)++List.replicate (n-q) none)/\Ext b_ H1) (n-min n 1) ⟨min n 1,rfl,by omega,by omega,by simp,by simp,hp,cA _ (Nat.le_refl _) cH⟩ ?_
 rintro m m1 oK eE ⟨q,rfl,zA,lR,d_,cJ,fm,c9⟩ K a1
 simp at d_ cJ
 simp[d_,cJ]
 refine cY (af:=eK prog 44 af) (xs:=List.replicate q (some a)++List.replicate (n-q) none) (by simpa[cJ]using fm.row) (by simp) ?_
 simp
 obtain⟨xs,ha⟩:∃xs,xs=List.replicate q (some a)++List.replicate (n-q) (none:Option α):=⟨_,rfl⟩
 have iW:xs.length=n:=by rw[ha];simp;omega
 rw[<-ha]at fm
 refine bG.cC (fun a3=>?_) (fun jR=>?_)
 ·simp
  refine AW (e:=44) (J:=4) (ay:=true) (af:=eK prog 44 af) (xs:=xs) (l:=q) (h:=n) (k:=b_.length) (by simpa[cJ]using fm) (by simp) (by simp) (by decide) (by simp[dN,d_]) (by simp[fo,iW]) (by omega) (by omega) ?_
  intro x0 bI ki
  simp at ki
  simp
  refine q7 (e:=44) (J:=4) (ay:=true) (af:=eK prog 44 af) (xs:=xs) (l:=0) (h:=q) (by simpa[cJ]using fm.row) (by simp) (by simp) (by decide) (by simp[dN,d_]) (by simp[fo,d_]) (by omega) (by omega) ?_
  intro pO bu
  have bo:(xs.drop 0).take (q-0)=List.replicate q (some a):=by rw[ha];simp
  rw[bo]at bu
  refine q4 (e:=44) (J:=4) (ay:=true) (af:=eK prog 44 af) (xs:=xs) (bH:=List.replicate q (some a)) (u:=au) (j:=q) (m:=n-q) (k:=b_.length) fm (by simpa using ki) (by omega) (by simpa using bu) (eK.iv fun u y=>k8 _ u y) (eK.kept (hE _)) (by simp) (by simp) (by simp) (by decide) (by decide) ?_
  rintro e8 k7 dA- - -
  rw[ha,EG a lR]at k7
  have hO:=uk (n:=q+min (n-q) q) (by omega)
  simp at hO
  simp[d_,hO]
  refine a1 (n-(q+min (n-q) q)) _ _ _ (by omega) ⟨q+min (n-q) q,rfl,by omega,by omega,by simp,by simp[cJ],k7,dA _ (Nat.le_refl _) c9⟩
 ·have wR:q=n:=by omega
  rw[ha,EE a lR (by omega)]at fm
  simp[bj,cJ]
  exact aG _ _ ⟨c9,fm.Fh⟩
def IR(H:ab)(v:Value)(z:Int):Prop:=v= .int .i64 z
def kU(H:ab)(v:Value)(b:Bool):Prop:=v= .bool b
instance:bM IR:=⟨fun h _=>h⟩
instance:bM kU:=⟨fun h _=>h⟩
theorem kS(n:Int):Whole prog 3 (.int .i64 n):=⟨by rfl,by rfl,by simp[eB]⟩
theorem A8(b:Bool):Whole prog 4 (.bool b):=⟨by rfl,by rfl,by simp[eB]⟩
theorem KR{v:Value}{t:List (List Rat)}{H:ab}(bc:hl H v t):a0 prog 43 [.agg #[v]] H (fun w H1=>Ext H H1/\w= .int .i64 t.length):=by
 refine a0.cq fun Q aG=>?_
 apply UN (by simp)
 obtain⟨a,cap,rfl⟩:=Row.len bc
 simp[Gh,bj]
 refine cY (af:=iw) (xs:=t) (by simpa using bM.ext bc (Ext.more H (by simp))) (by simp) ?_
 simp[bj]
 exact aG _ _ ⟨Ext.more H (by simp),rfl⟩
theorem Ee{v:Value}{t:List (List Rat)}{dS:List Rat}{H:ab}(bc:hl H v t)(aH:t[0]?=some dS):a0 prog 44 [.agg #[v]] H (fun w H1=>Ext H H1/\w= .int .i64 dS.length):=by
 refine a0.cq fun Q aG=>?_
 apply UP (by simp)
 obtain⟨a,cap,rfl⟩:=Row.len bc
 simp[Gi]
 refine cK (af:=iw) (xs:=t) (n:=0) (a:=dS) (e:=84) (J:=1) (ay:=false) (by simpa using bM.ext bc (Ext.more H (by simp))) (by simp) aH (by simp) (by simp) (by simp) (by decide) ?_
 intro En Fi oh
 refine cY (af:=b4) (xs:=dS) (by simpa using oh) (by simp) ?_
 simp[bj]
 exact aG _ _ ⟨Ext.more H (by simp),rfl⟩
def h6(t:List (List Rat))(k:Nat):List Rat:=t.map fun r=>r[k]?.getD 0
def fA(m:Nat)(t:List (List Rat)):List (List Rat):=(List.range m).map (h6 t)
def j3(m:Nat)(t:List (List Rat))(i j:Nat):List (List Rat):=(List.range m).map fun a=>if a<i then h6 t a else if a=i then h6 (t.take j) a else[]
theorem X5(m:Nat)(t:List (List Rat)):j3 m t 0 0=List.replicate m []:=by
 unfold j3
 apply List.ext_getElem?
 intro a
 simp[List.getElem?_replicate,List.getElem?_range]
 by_cases h:a<m
 ·simp[h,h6]
 ·simp[h]
theorem X1{m:Nat}{t:List (List Rat)}{i j:Nat}(ad:i<m):(j3 m t i j)[i]?=some (h6 (t.take j) i):=by
 simp[j3,List.getElem?_range,ad]
theorem X4{m:Nat}{t:List (List Rat)}{i j:Nat}{row:List Rat}(ad:i<m)(aj:t[j]?=some row):(j3 m t i j).set i (h6 (t.take j) i++[row[i]?.getD 0])=j3 m t i (j+1):=by
 apply List.ext_getElem?
 intro a
 rw[List.getElem?_set]
 have aQ:=(cd.1 aj)
 by_cases h:i=a
 ·subst h
  simp only[j3,List.length_map,List.length_range,ad,if_true,List.getElem?_map,List.getElem?_range ad]
  simp[h6,List.take_add_one,aj]
 ·rw[if_neg h]
  simp only[j3,List.getElem?_map]
  by_cases aF:a<m
  ·simp[List.getElem?_range aF,show¬a=i by omega]
  ·simp[aF]
theorem X3(m:Nat)(t:List (List Rat))(i:Nat):j3 m t i t.length=j3 m t (i+1) 0:=by
 unfold j3
 apply List.map_congr_left
 intro a _
 by_cases o:a<i
 ·simp[o,show a<i+1 by omega]
 ·by_cases aa:a=i
  ·subst aa;simp
  ·simp[o,aa,show¬a<i+1 by omega,h6]
theorem X0(m:Nat)(t:List (List Rat)):j3 m t m 0=fA m t:=by
 unfold j3 fA
 apply List.map_congr_left
 intro a aF
 simp at aF
 simp[aF]
theorem X2(m:Nat)(t:List (List Rat))(i j:Nat):(j3 m t i j).length=m:=by simp[j3]
theorem Fp(a:Option Addr)(n c:Nat):Whole prog 84 (.slice a n c):=⟨by rfl,by rfl,by simp[eB]⟩
theorem bz.iv{α:Type}{k e J:Nat}{ay:Bool}{af:ab->Value->α->Prop}{H:ab}{v:Value}{xs:List α}(h:bz k e J ay af H v xs):Whole prog 84 v:=by
 obtain⟨a,c,rfl⟩:=h.len
 exact Fp _ _ _
theorem E5{v:Value}{t:List (List Rat)}{m:Nat}{H:ab}(bc:hl H v t)(bt:0<t.length)(ar:t.length<65536)(hm:∀r∈t,r.length=m)(tZ:m<65536):
  a0 prog 29 [.agg #[v]] H (fun u H1=>Ext H H1/\∃w,u= .agg #[w]/\hl H1 w (fA m t)):=by
 refine a0.cq fun Q aG=>?_
 apply UU (by simp)
 obtain⟨a,c,rfl⟩:=Row.len bc
 obtain⟨dS,eV⟩:∃dS,t[0]?=some dS:=⟨_,bx bt⟩
 have oe:=hm dS (List.mem_of_getElem? eV)
 simp[G9]
 have ck:Ext H (H++[.dead,.dead]):=Ext.more H (by simp)
 refine a7.mk (Ee (bc.ext ck) eV) ?_
 rintro u H1 ⟨bI,rfl⟩
 rw[oe]
 have jl:=bc.ext (ck.aB bI)
 have R7:0<H1.length:=by have:=Ext.len (ck.aB bI);have:=Ext.len bI;simp at this;omega
 refine q5 (e:=84) (J:=1) (bs:=24) (ay:=false) (n:=m) (eo:= .i64) (cB:= .i64) (z:= .slice none 0 0) (af:=fK) (a:= .slice none 0 0) (by simp) (by simp) (by simp) (by rfl) (by rfl) (by simp) (Fp _ _ _) (by simp) (by simp) (by decide) (by decide) (by omega) (fun aC=>rfl) ?_
 rintro w aY hD bu-
 have v8:=dQ.Lg (e:=44) (J:=4) (ay:=true) (af:=b4) R7 hD
 simp
 refine cY (af:=fK) (xs:=List.replicate m (.slice none 0 0)) (by simpa using hD.row) (by simp) ?_
 simp
 refine dy.range (by kernel_rfl) m (by omega) (by simp) (by rfl) (by simp) (by decide) (by decide) (fun i dG e7 bZ=>Ext H1 bZ/\∃us,dQ H1.length 84 44 4 true b4 bZ w (j3 m t i 0) us) ?_ ?_ ?_
 ·exact⟨bu,_,by rw[X5];exact v8⟩
 ·rintro i dG e7 bZ ad a2 ⟨bP,us,gU⟩ K a1
  simp at a2
  simp[a2]
  refine cY (af:=iw) (xs:=t) (by simpa using bM.ext jl bP) (by simp) ?_
  simp
  refine dy.range (by kernel_rfl) t.length (by omega) (by simp) (by rfl) (by simp) (by decide) (by decide) (fun j c7 dV bR=>Ext H1 bR/\∃us,dQ H1.length 84 44 4 true b4 bR w (j3 m t i j) us) ?_ ?_ ?_
  ·exact⟨bP,us,gU⟩
  ·rintro j c7 dV bR aQ iB ⟨b5,xX,kc⟩ sV jK
   simp at iB
   simp[iB]
   obtain⟨row,db⟩:∃row,t[j]?=some row:=⟨_,bx aQ⟩
   have sc:=hm row (List.mem_of_getElem? db)
   obtain⟨q,av⟩:∃q,row[i]?=some q:=⟨_,bx (by omega)⟩
   refine cK (af:=iw) (xs:=t) (n:=j) (a:=row) (e:=84) (J:=1) (ay:=false) (by simpa using bM.ext jl b5) (by simp[iB]) db (by simp) (by simp) (by simp) (by decide) ?_
   intro gK Fi oh
   simp
   obtain⟨u,hu,yU⟩:=kc.oB (X1 ad)
   refine cK (af:=fK) (xs:=xX) (n:=i) (a:=u) (e:=84) (J:=1) (ay:=false) (by simpa using kc.own.row) (by simp) hu (by simp) (by simp) (by simp) (by decide) ?_
   rintro iI oE rfl
   simp
   refine cK (af:=b4) (xs:=row) (n:=i) (a:=q) (e:=44) (J:=4) (ay:=true) (by simpa using oh) (by simp) av (by simp) (by simp) (by simp) (by decide) ?_
   intro mP x I
   refine AV (k:=H1.length) (e:=44) (J:=4) (ay:=true) (bs:=64) (z:= .agg #[.bool false,.slice none 0 0,.bool false,.slice none 0 0]) (af:=b4) (xs:=h6 (t.take j) i) (a:=q) (by simpa using yU) (by simpa using I) (by simpa using I.whole) (by simp) (fun aC de u y ai h=>h.kept ai (by decide)) (by simp) (by simp) (by simp) (by simp) (by simp) (by rfl) (by rfl) (by first | rfl | simp[flat,gB]) (by rfl) (by decide) (by decide) (by decide) (by simp[h6];omega) (by have:=Ext.len b5;omega) ?_
   intro ox u2 cE hp cA ke qn r0
   simp at ke qn
   refine ja (k:=H1.length) (e:=84) (J:=1) (ay:=false) (n:=i) (af:=fK) (xs:=xX) (a:=u2) (by simpa using kc.own.other ke (by decide) fun _ _ h=>h) (by simp) (by have:=kc.len;rw[X2]at this;omega) (by simp[fK]) (by simpa using hp.iv) (by simp) (fun _ _ _ _ _ h=>h) (by simp) (by simp) (by simp) (by decide) ?_
   rintro qU eE fm c9 tU wJ-
   simp at fm tU
   simp
   refine jK _ _ _ (by simp[iB]) ⟨c9 _ (Nat.le_refl _) (cA _ (Nat.le_refl _) b5),xX.set i u2,?_⟩
   have:=kc.put hu (by decide) ke qn hp (fun u x h=>h.kept ke (by decide)) fm tU (fun u x h=>h.kept tU (by decide))
   rw[show h6 (t.take j) i++[q]=h6 (t.take j) i++[row[i]?.getD 0] by rw[av];rfl,X4 ad db]at this
   exact this
  ·rintro c7 dV bR iB ⟨b5,xX,kc⟩
   simp at iB
   simp[iB]
   refine a1 _ _ _ (by simp[a2]) ⟨b5,xX,?_⟩
   rw[<-X3]
   exact kc
 ·rintro dG e7 bZ a2 ⟨bP,us,gU⟩
  have db:=gU.row
  rw[X0]at db
  obtain⟨ace,acU,rfl⟩:=gU.own.len
  simp[bj]
  exact aG _ _ ⟨ck.aB (bI.aB bP),_,rfl,db⟩
abbrev dj(H:ab)(v:Value)(l:List Int):Prop:=Row 3 1 false IR H v l
abbrev e9(H:ab)(v:Value)(t:List (List Int)):Prop:=Row 25 1 false dj H v t
instance:bM dj:=⟨fun h I=>bM.ext (af:=Row 3 1 false IR) h I⟩
instance:bM e9:=⟨fun h I=>bM.ext (af:=Row 25 1 false dj) h I⟩
theorem j5.row{H:ab}{v:Value}{l:List Int}(h:j5 H v l):dj H v l:=⟨_,h,fun i x ad=>by
 show ea false 1 _ i= .int .i64 x
 unfold ea
 simp[ad]⟩
theorem Row.is{H:ab}{v:Value}{l:List Int}(h:dj H v l):j5 H v l:=by
 obtain⟨cs,o,aa⟩:=h
 have ar:cs.length=l.length:=by obtain⟨_,_,_,_,q,_⟩:=o;omega
 have:cs=l.map (Value.int .i64):=by
  apply List.ext_getElem?
  intro i
  rw[List.getElem?_map]
  by_cases ad:i<l.length
  ·have:=aa i _ (bx ad)
   rw[bx ad,bx (by omega)]
   unfold IR ea at this
   simp[bx (show i<cs.length by omega)]at this
   simp[this]
  ·rw[List.getElem?_eq_none (by omega),List.getElem?_eq_none (by omega)]
   rfl
 unfold j5
 rw[<-this]
 exact o
theorem Row.xi{H:ab}{v:Value}{t:List (List Int)}(h:e9 H v t):jD H v t:=by
 obtain⟨cs,o,aa⟩:=h
 have ar:cs.length=t.length:=by obtain⟨_,_,_,_,q,_⟩:=o;omega
 refine⟨cs,o,ar,fun i ad=>?_⟩
 have:=aa i _ (bx ad)
 rw[bx ad]
 unfold ea at this
 simp only[Bool.false_eq_true,if_false]at this
 exact this.is
theorem jD.row{H:ab}{v:Value}{t:List (List Int)}(h:jD H v t):e9 H v t:=by
 obtain⟨aA,o,aa,aD⟩:=h
 refine⟨aA,o,fun i r ad=>?_⟩
 have cU:=(cd.1 ad).1
 have:=aD i cU
 rw[ad]at this
 unfold ea
 simp only[Bool.false_eq_true,if_false]
 exact this.row
def cm(t:List (List Int)):List (List Rat):=t.map fun r=>r.map fun x=>((x:Int):Rat)
theorem L2{v:Value}{t:List (List Int)}{H:ab}(bc:e9 H v t)(ar:t.length<65536)(aj:∀r∈t,r.length<65536)(ae:∀r∈t,∀x∈r,-9223372036854775808<=x/\x<9223372036854775808):
  a0 prog 18 [v] H (fun w H1=>Ext H H1/\∃a c us,w= .agg #[.slice a t.length c]/\dQ (H.length+1) 84 44 4 true b4 H1 (.slice a t.length c) (cm t) us):=by
 refine a0.cq fun Q aG=>?_
 apply UL (by simp)
 obtain⟨a,cap,rfl⟩:=Row.len bc
 simp[G2]
 have ck:Ext H (H++[.dead]):=Ext.dead H
 refine cY (af:=dj) (xs:=t) (by simpa using bM.ext (af:=e9) bc ck) (by simp) ?_
 simp
 refine dy.range (by kernel_rfl) t.length (by omega) (by simp) (by rfl) (by simp) (by decide) (by decide) (fun i bQ dq aY=>Ext (H++[.dead]) aY/\∃us,dQ (H.length+1) 84 44 4 true b4 aY (bQ 3) (cm (t.take i)) us) ?_ ?_ ?_
 ·exact⟨Ext.refl _,[],by simpa[cm]using dQ.nil _ _ _ _ _ _ _ (by omega)⟩
 ·rintro i bQ dq aY ad iA ⟨bu,us,gU⟩ K a1
  simp at iA gU
  refine Exists.elim (⟨_,bx ad⟩:∃row,t[i]?=some row) fun row db=>?_
  have gj:=List.mem_of_getElem? db
  have jW:=aj row gj
  have kf:=Ext.len bu
  simp at kf
  simp[iA]
  refine cK (af:=dj) (xs:=t) (n:=i) (a:=row) (e:=25) (J:=1) (ay:=false) (by simpa using bM.ext (af:=e9) bc (ck.aB bu)) (by simp[iA]) db (by simp) (by simp) (by simp) (by decide) ?_
  intro eM pK kj
  simp
  refine cY (af:=IR) (xs:=row) (by simpa using kj) (by simp) ?_
  simp
  refine dy.range (by kernel_rfl) row.length (by omega) (by simp) (by rfl) (by simp) (by decide) (by decide) (fun j c7 dV bR=>Ext aY bR/\bz aY.length 44 4 true b4 bR (c7 6) ((row.take j).map fun x=>((x:Int):Rat))) ?_ ?_ ?_
  ·exact⟨Ext.refl _,by simpa using bz.nil _ _ _ _ _ _⟩
  ·rintro j c7 dV bR aQ iB ⟨b5,kb⟩ sV jK
   simp at iB kb
   refine Exists.elim (⟨_,bx aQ⟩:∃x,row[j]?=some x) fun x I=>?_
   have DV:=ae row gj x (List.mem_of_getElem? I)
   have tW:=Ext.len b5
   simp[iB]
   refine cK (af:=IR) (xs:=row) (n:=j) (a:=x) (e:=3) (J:=1) (ay:=false) (by simpa using bM.ext (af:=Row _ _ _ IR) kj b5) (by simp[iB]) I (by simp) (by simp) (by simp) (by decide) ?_
   rintro iI oE rfl
   simp
   refine a7.mk (xC DV.1 DV.2) ?_
   rintro w b_ ⟨c1,hw⟩
   refine q6 (k:=aY.length) (e:=44) (J:=4) (ay:=true) (bs:=64) (z:= .agg #[.bool false,.slice none 0 0,.bool false,.slice none 0 0]) (af:=b4) (xs:=(row.take j).map fun x=>((x:Int):Rat)) (a:=(x:Rat)) (by simpa using bM.ext (af:=bz _ _ _ _ b4) kb c1) (by simpa using hw) (by simpa using hw.whole) (by simp) (fun aC de u y ai h=>h.kept ai (by decide)) (by simp) (by simp) (by simp) (by simp) (by simp) (by rfl) (by rfl) (by first | rfl | simp[flat,gB]) (by rfl) (by decide) (by decide) (by decide) (by simp;omega) (by have:=Ext.len c1;omega) ?_
   intro mP v6 dX o1 cH tT
   try simp
   refine jK _ _ _ (by simp[iB]) ⟨cH _ (Nat.le_refl _) (b5.aB c1),?_⟩
   rw[List.take_add_one,I,List.map_append]
   simpa using o1
  ·rintro c7 dV bR iB ⟨b5,kb⟩
   simp at kb
   have kc:=dQ.ext gU b5
   have tW:=Ext.len b5
   have so:=kb.iv
   have ju:=gU.len
   simp[cm]at ju
   try simp
   refine AV (k:=H.length+1) (e:=84) (J:=1) (ay:=false) (bs:=24) (z:= .slice none 0 0) (af:=fK) (xs:=us) (a:=c7 6) (by simpa using kc.own) (by simp[fK]) (by simpa using so) (by simp) (fun _ _ _ _ _ h=>h) (by simp) (by simp) (by simp) (by simp) (by simp) (by rfl) (by rfl) (by rfl) (by rfl) (by decide) (by decide) (by decide) (by omega) (by omega) ?_
   intro ox u2 cE hp cA ke qn r0
   simp at ke qn
   have qD:=dQ.snoc (cx:=aY) (nF:=aY.length) kc (fun b aH ae=>(kb.ge ae aH).1) (fun j u b hu ae aH=>gU.lt j u b hu ae aH) (by decide) (kb.le (by omega)) hp ke (fun u x h=>h.kept ke (by decide))
   try simp
   refine a1 _ _ _ (by simp[iA]) ⟨cA _ (by simp) (bu.aB b5),us++[c7 6],?_⟩
   rw[List.take_add_one,db]
   simpa[cm]using qD
 ·rintro bQ dq aY iA ⟨bu,us,gU⟩
  simp at gU
  obtain⟨dR,lc,pa⟩:=gU.own.len
  have ju:=gU.len
  simp[cm]at ju
  rw[pa,ju]at gU
  simp[pa,ju,bj]
  exact aG _ _ ⟨ck.aB bu,dR,lc,us,rfl,gU⟩
theorem xD{v:Value}{t:List (List Int)}{H:ab}(bc:e9 H v t)(ar:t.length<65536)(aj:∀r∈t,r.length<65536)(ae:∀r∈t,∀x∈r,-9223372036854775808<=x/\x<9223372036854775808):
  a0 prog 18 [v] H (fun w H1=>Ext H H1/\∃a c,w= .agg #[.slice a t.length c]/\hl H1 (.slice a t.length c) (cm t)):=
 (L2 bc ar aj ae).mono fun w H1 ⟨I,a,c,us,hw,cL⟩=>⟨I,a,c,hw,cL.row⟩
def s3(N:Nat)(t:List (List Rat)):Prop:=∀r∈t,(∀k,c4 N (ep (r.take k)))/\∀q∈r,c4 N q
theorem s3.sum{N:Nat}{t:List (List Rat)}(h:s3 N t){r:List Rat}(aj:r∈t):c4 N (ep r):=by
 have:=(h r aj).1 r.length
 rwa[List.take_length]at this
def dU(t:List (List Rat))(i:Nat):Rat:=ep (t[i]?.getD [])
def dw(f:Nat->Rat):Nat->Rat×Nat
 | 0=>(f 0,0)
 | n+1=>if(dw f n).1<f n then(f n,n)else dw f n
theorem xt(f:Nat->Rat)(n:Nat):(dw f n).1=f (dw f n).2/\((dw f n).2<n\/(dw f n).2=0):=by
 induction n with
 | zero=>simp[dw]
 | succ n aV=>
  simp only[dw]
  split
  ·exact⟨rfl,.inl (Nat.lt_succ_self n)⟩
  ·exact⟨aV.1,by omega⟩
theorem z9(f:Nat->Rat){n i:Nat}(ad:i<n):f i<=(dw f n).1:=by
 induction n with
 | zero=>omega
 | succ n aV=>
  simp only[dw]
  by_cases eT:i=n
  ·subst eT
   split
   ·exact Rat.le_refl
   ·rename_i h;exact Rat.not_lt.1 h
  ·have:=aV (by omega)
   split
   ·rename_i h;exact Rat.le_trans this (Rat.le_of_lt h)
   ·exact this
theorem V0(f:Nat->Rat){n i:Nat}(ad:i<(dw f n).2):f i<(dw f n).1:=by
 induction n with
 | zero=>simp[dw]at ad
 | succ n aV=>
  simp only[dw]at ad⊢
  split at ad
  ·rename_i h
   rw[if_pos h]
   exact Std.lt_of_le_of_lt (z9 f ad) h
  ·rename_i h
   rw[if_neg h]
   exact aV ad
theorem uQ{t:List (List Rat)}{i:Nat}(ad:i<t.length):∃r,t[i]?=some r/\r∈t/\dU t i=ep r:=
 ⟨_,bx ad,List.getElem_mem ad,by simp[dU,bx ad]⟩
theorem xu{N:Nat}{t:List (List Rat)}(aP:s3 N t)(bt:0<t.length){n:Nat}(aE:n<=t.length):c4 N (dw (dU t) n).1:=by
 obtain⟨o,aa⟩:=xt (dU t) n
 rw[o]
 obtain⟨r,-,aM,bh⟩:=uQ (t:=t) (i:=(dw (dU t) n).2) (by omega)
 rw[bh]
 exact aP.sum aM
theorem Aa{v:Value}{t:List (List Rat)}{N:Nat}{H:ab}(bc:hl H v t)(bt:0<t.length)(ar:t.length<65536)(jW:∀r∈t,r.length<65536)(aP:s3 N t)(cj:N<=1000000):
  a0 prog 41 [.agg #[v]] H (fun u H1=>Ext H H1/\∃w,u= .tuple #[w,.int .i64 ((dw (dU t) t.length).2:Nat)]/\b4 H1 w (dw (dU t) t.length).1):=by
 refine a0.cq fun Q aG=>?_
 apply UQ (by simp)
 obtain⟨a,c,rfl⟩:=Row.len bc
 simp[G5]
 have ck:Ext H (H++[.dead,.dead]):=Ext.more H (by simp)
 obtain⟨dS,eV,oe,wT⟩:=uQ bt
 refine a7.mk (pz (j:=0) (bc.ext ck) eV (by have:=jW dS oe;omega) (by omega) (aP dS oe).1 (aP dS oe).2 cj) ?_
 rintro qZ H1 ⟨bI,mC⟩
 simp
 refine ev.mk mC.whole ?_
 simp
 have bu:Ext H1 (H1++[.dead]):=Ext.dead H1
 have mH:=ck.aB (bI.aB bu)
 refine a7.mk (KR (bc.ext mH)) ?_
 rintro u bZ ⟨bP,rfl⟩
 have iQ:=bc.ext (mH.aB bP)
 simp
 refine dy.range (by kernel_rfl) t.length (by omega) (by simp) (by rfl) (by simp) (by decide) (by decide) (fun i dG e7 bR=>Ext bZ bR/\b4 bR (e7 4) (dw (dU t) i).1/\dG 5= .int .i64 ((dw (dU t) i).2:Nat)) ?_ ?_ ?_
 ·refine⟨Ext.refl _,?_,by simp[dw]⟩
  simp only[dw,wT]
  simpa using mC.ext (bu.aB bP)
 ·rintro i dG e7 bR ad a2 ⟨b5,hm,b2⟩ K a1
  simp at a2 hm b2
  obtain⟨b,ae⟩:∃b,(dw (dU t) i).1=b:=⟨_,rfl⟩
  obtain⟨iv,Kr⟩:∃iv,(dw (dU t) i).2=iv:=⟨_,rfl⟩
  have tI:c4 N b:=by rw[<-ae];exact xu aP bt (by omega)
  rw[ae]at hm
  rw[Kr]at b2
  obtain⟨r,aj,sc,sd⟩:=uQ ad
  refine bV.join (by kernel_rfl) (fun fS hj b_=>Ext bR b_/\b4 b_ (hj 4) (dw (dU t) (i+1)).1/\fS 5= .int .i64 ((dw (dU t) (i+1)).2:Nat)) ?_ ?_
  ·rintro dY iP-
   simp[a2,b2]
   refine a7.mk (pz (j:=i) (iQ.ext b5) aj (by have:=jW r sc;omega) (by omega) (aP r sc).1 (aP r sc).2 cj) ?_
   rintro s1 b_ ⟨c1,fy⟩
   simp
   refine ev.mk fy.whole ?_
   simp
   have cH:Ext b_ (b_++[.dead]):=Ext.dead b_
   have pr:=c1.aB cH
   refine a7.mk (uG (fy.ext cH) (hm.ext pr) (aP.sum sc) tI cj) ?_
   rintro gS cE ⟨cA,rfl⟩
   simp
   refine bG.cC (fun ag=>?_) (fun ag=>?_)
   ·have a3:b<ep r:=by
     by_cases o:ep r<b
     ·rw[if_pos o]at ag;omega
     ·rw[if_neg o]at ag
      by_cases aa:ep r=b
      ·rw[if_pos aa]at ag;omega
      ·exact Std.lt_of_le_of_ne (Rat.not_lt.1 o) (Ne.symm aa)
    simp
    refine ev.mk fy.whole ?_
    simp
    refine iP _ _ _ ⟨pr.aB cA,?_,?_⟩
    ·simp only[dw,ae,sd,if_pos a3]
     simpa using fy.ext (cH.aB cA)
    ·simp[dw,ae,sd,if_pos a3]
   ·have a3:¬b<ep r:=by
     intro a3
     rw[if_neg (fun h=>Rat.lt_irrefl (Std.lt_trans h a3)),if_neg (fun h=>Rat.lt_irrefl (h▸a3))]at ag
     omega
    refine iP _ _ _ ⟨pr.aB cA,?_,?_⟩
    ·simp only[dw,ae,sd,if_neg a3]
     simpa using hm.ext (pr.aB cA)
    ·simp[dw,ae,sd,if_neg a3,Kr,b2]
  ·rintro fS hj b_ ⟨c1,o,aa⟩
   exact a1 _ _ _ (by simp[a2]) ⟨b5.aB c1,by simpa using o,by simpa using aa⟩
 ·rintro dG e7 bR a2 ⟨b5,hm,b2⟩
  simp at hm b2
  simp[b2]
  refine ev.mk hm.whole ?_
  simp[bj,b2]
  exact aG _ _ ⟨mH.aB (bP.aB b5),_,rfl,hm⟩
def eg(m:Nat)(t:List (List Int)):List (List Int):=(List.range m).map fun k=>t.map fun r=>r[k]?.getD 0
theorem EB{m:Nat}{t:List (List Int)}:fA m (cm t)=cm (eg m t):=by
 unfold fA cm eg
 rw[List.map_map]
 apply List.map_congr_left
 intro k _
 unfold h6
 simp
 intro r _
 cases r[k]?<;>simp
theorem WK(r:List Int)(a:Int):(r.map fun x=>((x:Int):Rat)).foldl (·+·) ((a:Int):Rat)=((a+r.sum:Int):Rat):=by
 induction r generalizing a with
 | nil=>simp
 | cons x r aV=>
  simp only[List.map_cons,List.foldl_cons,List.sum_cons]
  rw[<-Rat.intCast_add,aV]
  congr 1
  omega
theorem LV(r:List Int):ep (r.map fun x=>((x:Int):Rat))=((r.sum:Int):Rat):=by
 have:=WK r 0
 simpa[ep]using this
theorem XO{r:List Int}{B:Int}(h:∀x∈r,0<=x/\x<=B):0<=r.sum/\r.sum<=B*r.length:=by
 induction r with
 | nil=>simp
 | cons x r aV=>
  have o:=h x (by simp)
  have aa:=aV fun y aJ=>h y (by simp[aJ])
  simp only[List.sum_cons,List.length_cons]
  rw[Int.natCast_add,Int.mul_add]
  simp
  omega
def jf(t:List (List Int)):Prop:=∀r∈t,r.length<=1000/\∀x∈r,0<=x/\x<=1000000
theorem jf.sum{r:List Int}(o:r.length<=1000)(aa:∀x∈r,0<=x/\x<=1000000):0<=r.sum/\r.sum<=1000000000:=by
 have:=XO aa
 omega
theorem jf.gM{t:List (List Int)}(h:jf t):s3 64 (cm t):=by
 intro r aj
 unfold cm at aj
 rw[List.mem_map]at aj
 obtain⟨di,fq,rfl⟩:=aj
 obtain⟨o,aa⟩:=h di fq
 refine⟨fun k=>?_,fun q av=>?_⟩
 ·rw[<-List.map_take,LV]
  have:=jf.sum (r:=di.take k) (by simp;omega) fun x I=>aa x (List.mem_of_mem_take I)
  exact c4.int (by omega) (by decide)
 ·rw[List.mem_map]at av
  obtain⟨x,I,rfl⟩:=av
  have:=aa x I
  exact c4.int (by omega) (by decide)
theorem jf.fA{m:Nat}{t:List (List Int)}(h:jf t)(ar:t.length<=1000):jf (eg m t):=by
 intro r aj
 unfold eg at aj
 rw[List.mem_map]at aj
 obtain⟨k,-,rfl⟩:=aj
 refine⟨by simpa using ar,fun x I=>?_⟩
 rw[List.mem_map]at I
 obtain⟨di,fq,rfl⟩:=I
 cases ai:di[k]? with
 | none=>simp
 | some y=>exact(h di fq).2 y (List.mem_of_getElem? ai)
theorem fT.small{t:List (List Int)}(h:fT t):jf t:=by
 intro r aj
 obtain⟨o,aa,aD,bD,b2⟩:=h
 have:=b2 r aj
 unfold k1 at this
 simp at this
 refine⟨by omega,fun x I=>?_⟩
 have:=this.2 x I
 omega
theorem fT.len{t:List (List Int)}(h:fT t):∀r∈t,r.length=(t[0]?.getD []).length:=by
 intro r aj
 obtain⟨o,aa,aD,bD,b2⟩:=h
 have:=b2 r aj
 unfold k1 at this
 simp at this
 simpa using this.1
def ji(t:List (List Int)):Int×Int×Nat:=
 let m:=(t[0]?.getD []).length
 let j:=dw (dU (cm t)) t.length
 let k:=dw (dU (cm (eg m t))) m
 if j.1<k.1 then(k.1.num,1,k.2)else(j.1.num,0,j.2)
theorem uM{t:List (List Int)}{i:Nat}:dU (cm t) i=(((t[i]?.getD []).sum:Int):Rat):=by
 unfold dU cm
 rw[List.getElem?_map]
 cases t[i]? with
 | none=>simp[ep]
 | some r=>simp only[Option.map_some,Option.getD_some];exact LV r
theorem z_{t:List (List Int)}(h:jf t)(n:Nat):(dw (dU (cm t)) n).1.num.natAbs<=1000000000:=by
 rw[(xt _ n).1,uM,Rat.num_intCast]
 cases aj:t[(dw (dU (cm t)) n).2]? with
 | none=>simp
 | some r=>
  have:=h r (List.mem_of_getElem? aj)
  have:=jf.sum this.1 this.2
  simp only[Option.getD_some]
  omega
theorem HF{a b:Rat}(ag:(0:Int)<if a<b then-1 else if a=b then 0 else 1):b<a:=by
 by_cases o:a<b
 ·rw[if_pos o]at ag;omega
 ·rw[if_neg o]at ag
  by_cases aa:a=b
  ·rw[if_pos aa]at ag;omega
  ·exact Std.lt_of_le_of_ne (Rat.not_lt.1 o) (Ne.symm aa)
theorem HH{a b:Rat}(ag:¬(0:Int)<if a<b then-1 else if a=b then 0 else 1):¬b<a:=by
 intro a3
 rw[if_neg (fun h=>Rat.lt_irrefl (Std.lt_trans h a3)),if_neg (fun h=>Rat.lt_irrefl (h▸a3))]at ag
 omega
theorem Mj{v:Value}{a:Int}{H:ab}(bO:c5 H v a)(aH:a.natAbs<=1000000000):a0 prog 27 [v] H (fun u H1=>Ext H H1/\u= .tuple #[.int .i64 a,.bool true]):=Xy bO (by omega)
theorem N2{v:Value}{t:List (List Int)}{H:ab}(bc:jD H v t)(ar:t.length<65536)(aj:∀r∈t,r.length<65536):
  a0 prog 22 [v] H (fun u H1=>Ext H H1/\(fT t->u= .tuple #[.int .i64 (ji t).1,.int .i64 (ji t).2.1,.int .i64 (ji t).2.2,.int .i64 0])/\(¬fT t->u= .tuple #[.int .i64 0,.int .i64 0,.int .i64 0,.int .i64 1])):=by
 refine a0.cq fun Q aG=>?_
 obtain⟨m,hm⟩:∃m,m=(t[0]?.getD []).length:=⟨_,rfl⟩
 apply UE (by simp)
 simp[GV]
 refine a7.mk (A6 bc (by omega) fun r h=>by have:=aj r h;omega) ?_
 rintro u H1 ⟨bI,rfl⟩
 simp
 refine bG.mk (fun ao=>?good) (fun ao=>?bad)
 case bad=>
  simp at ao
  simp[bj]
  exact aG _ _ ⟨bI,fun h=>absurd h ao,fun _=>rfl⟩
 simp at ao
 have an:=ao.small
 have fp:=ao.len
 have v1:=ao.1
 have v2:=ao.2.1
 have pM:=ao.2.2.1
 have v4:=ao.2.2.2.1
 rw[<-hm]at fp pM v4
 simp
 refine a7.mk (xD (bc.ext bI).row (by omega) aj fun r h x I=>by have:=(an r h).2 x I;omega) ?_
 rintro _ aY ⟨bu,yk,yy,rfl,lG⟩
 simp
 have bP:Ext aY (aY++[.dead]):=Ext.dead aY
 have wS:∀r∈cm t,r.length=m:=fun r h=>by
  unfold cm at h
  rw[List.mem_map]at h
  obtain⟨di,b7,rfl⟩:=h
  simpa using fp di b7
 refine a7.mk (Aa (N:=64) (lG.ext bP) (by simp[cm];omega) (by simp[cm];omega) (fun r h=>by have:=wS r h;omega) an.gM (by decide)) ?_
 rintro u bR ⟨b5,w,rfl,hw⟩
 have qG:=hw.whole
 simp
 refine ev.mk hw.whole ?_
 simp
 have c1:Ext bR (bR++[.dead]):=Ext.dead bR
 have uh:=bP.aB (b5.aB c1)
 refine a7.mk (E5 (m:=m) (lG.ext uh) (by simp[cm];omega) (by simp[cm];omega) wS (by omega)) ?_
 rintro u dX ⟨cH,hK,rfl,qH⟩
 rw[EB]at qH
 have cS:=an.fA (m:=m) (by omega)
 simp
 refine a7.mk (Aa (N:=64) qH (by simp[cm,eg];omega) (by simp[cm,eg];omega) (fun r h=>by
  unfold cm eg at h
  simp at h
  obtain⟨k,-,rfl⟩:=h
  simp;omega) cS.gM (by decide)) ?_
 rintro u cE ⟨cA,cc,rfl,oj⟩
 simp
 refine ev.mk oj.whole ?_
 simp
 have c9:Ext cE (cE++[.dead]):=Ext.dead cE
 have fO:(cm t).length=t.length:=by simp[cm]
 have iR:(cm (eg m t)).length=m:=by simp[cm,eg]
 have zV:=c1.aB (cH.aB (cA.aB c9))
 have o8:=z_ an t.length
 have RV:=z_ cS m
 rw[fO]at hw
 rw[iR]at oj
 have Xv:=xu an.gM (t:=cm t) (n:=t.length) (by simp[cm];omega) (by simp[cm])
 have lo:=xu cS.gM (t:=cm (eg m t)) (n:=m) (by simp[cm,eg];omega) (by simp[cm,eg])
 have bS:ji t=if(dw (dU (cm t)) t.length).1<(dw (dU (cm (eg m t))) m).1 then((dw (dU (cm (eg m t))) m).1.num,1,(dw (dU (cm (eg m t))) m).2)else((dw (dU (cm t)) t.length).1.num,0,(dw (dU (cm t)) t.length).2):=by
  unfold ji
  rw[<-hm]
 rw[fO,iR]
 refine a7.mk (uG (N:=64) (oj.ext c9) (hw.ext zV) lo Xv (by decide)) ?_
 rintro u e8 ⟨dA,rfl⟩
 simp
 refine bG.cC (fun ag=>?_) (fun ag=>?_)
 ·have a3:=HF ag
  rw[if_pos a3]at bS
  simp
  refine a7.mk (Ly (oj.ext (c9.aB dA))) ?_
  rintro z mb ⟨fF,aP⟩
  simp
  refine a7.mk (Mj aP RV) ?_
  rintro z hU ⟨fP,rfl⟩
  simp[bj]
  exact aG _ _ ⟨bI.aB (bu.aB (bP.aB (b5.aB (zV.aB (dA.aB (fF.aB fP)))))),fun _=>by rw[bS],fun h=>absurd ao h⟩
 ·have a3:=HH ag
  rw[if_neg a3]at bS
  simp
  refine a7.mk (Ly (hw.ext (zV.aB dA))) ?_
  rintro z mb ⟨fF,aP⟩
  simp
  refine a7.mk (Mj aP o8) ?_
  rintro z hU ⟨fP,rfl⟩
  simp[bj]
  exact aG _ _ ⟨bI.aB (bu.aB (bP.aB (b5.aB (zV.aB (dA.aB (fF.aB fP)))))),fun _=>by rw[bS],fun h=>absurd ao h⟩
end Go.b9
end
section
namespace Go.b9
def bw:Nat->(Nat->Rat)->Rat
 | 0,_=>0
 | n+1,f=>bw n f+f n
theorem fQ{n:Nat}{f g:Nat->Rat}(h:∀i,i<n->f i=g i):bw n f=bw n g:=by
 induction n with
 | zero=>rfl
 | succ n aV=>simp only[bw];rw[aV fun i ad=>h i (by omega),h n (by omega)]
theorem Mt(n:Nat)(f g:Nat->Rat):bw n (fun i=>f i+g i)=bw n f+bw n g:=by
 induction n with
 | zero=>simp only[bw];grind
 | succ n aV=>simp only[bw];rw[aV];grind
theorem uP(n:Nat):bw n (fun _=>0)=0:=by
 induction n with
 | zero=>rfl
 | succ n aV=>simp only[bw];rw[aV];grind
theorem EU(n:Nat)(f:Nat->Rat)(c:Rat):bw n (fun i=>c*f i)=c*bw n f:=by
 induction n with
 | zero=>simp[bw]
 | succ n aV=>simp only[bw];rw[aV];grind
theorem ES{n:Nat}{f g:Nat->Rat}(h:∀i,i<n->f i<=g i):bw n f<=bw n g:=by
 induction n with
 | zero=>simp only[bw];grind
 | succ n aV=>simp only[bw];have:=aV fun i ad=>h i (by omega);have:=h n (by omega);grind
theorem EV{n:Nat}{f:Nat->Rat}(h:∀i,i<n->0<=f i):0<=bw n f:=by
 have:=ES (n:=n) (f:=fun _=>0) (g:=f) h
 rw[uP]at this;exact this
theorem EX(n m:Nat)(f:Nat->Nat->Rat):bw n (fun i=>bw m (f i))=bw m (fun k=>bw n (fun i=>f i k)):=by
 induction n with
 | zero=>simp[bw,uP]
 | succ n aV=>simp only[bw];rw[aV,<-Mt]
theorem EW(n m:Nat)(f:Nat->Rat):bw (n+m) f=bw n f+bw m (fun i=>f (n+i)):=by
 induction m with
 | zero=>simp only[bw,Nat.add_zero];grind
 | succ m aV=>rw[<-Nat.add_assoc];simp only[bw];rw[aV];grind
theorem sE{n:Nat}(j:Nat)(f:Nat->Rat):bw n (fun i=>if i=j then f i else 0)=if j<n then f j else 0:=by
 induction n with
 | zero=>simp[bw]
 | succ n aV=>
  simp only[bw];rw[aV]
  by_cases o:n=j
  ·subst o;simp;grind
  ·by_cases aa:j<n
   ·simp[o,aa,show j<n+1 by omega];grind
   ·simp[o,aa,show¬j<n+1 by omega];grind
theorem ET{n j:Nat}{f:Nat->Rat}(h:∀i,i<n->0<=f i)(aQ:j<n):f j<=bw n f:=by
 induction n with
 | zero=>omega
 | succ n aV=>
  simp only[bw]
  have aH:=EV (n:=n) (f:=f) fun i ad=>h i (by omega)
  have o:=h n (by omega)
  by_cases nw:j=n
  ·subst nw;grind
  ·have:=aV (fun i ad=>h i (by omega)) (by omega);grind
def lC(n:Nat)(p:Nat->Bool):Nat:=((List.range n).filter p).length
theorem Od(n:Nat)(p:Nat->Bool):lC (n+1) p=lC n p+if p n=true then 1 else 0:=by
 unfold lC
 rw[List.range_succ,List.filter_append,List.length_append]
 congr 1
 by_cases h:p n=true<;>simp[h]
theorem Ej{α:Type}[DecidableEq α]:∀{l c2:List α},l.Nodup->(∀x∈l,x∈c2)->l.length<=c2.length
 | [],c2,_,_=>by simp
 | x::l,c2,aE,an=>by
  have o:=an x (by simp)
  have g_:=List.nodup_cons.1 aE
  have aa:=Ej (l:=l) (c2:=c2.erase x) g_.2 fun y aJ=>by
   have:y≠x:=fun e=>g_.1 (e▸aJ)
   exact(List.mem_erase_of_ne this).2 (an y (by simp[aJ]))
  have aD:=List.length_erase_of_mem o
  have bD:=List.length_pos_of_mem o
  simp only[List.length_cons]
  omega
theorem Oc{n:Nat}{p:Nat->Bool}{l:List Nat}(aE:l.Nodup)(h:∀x∈l,x<n/\p x=true):l.length<=lC n p:=
 Ej aE fun x I=>by simp[h x I]
theorem Mu(n:Nat)(p:Nat->Bool)(c:Rat):bw n (fun i=>if p i=true then c else 0)=(lC n p:Rat)*c:=by
 induction n with
 | zero=>simp[bw,lC]
 | succ n aV=>
  simp only[bw];rw[aV,Od]
  by_cases h:p n=true
  ·simp[h];grind
  ·simp[h];grind
theorem cQ{n:Nat}{A:Nat->Nat->Rat}{L:Rat}(aH:∀i k,i<n->k<n->0<=A i k)(aj:∀i,i<n->bw n (A i)=L)(ag:∀k:Nat,k<n->bw n (fun i=>A i k)=L)(cr:0<L)
  (gd S:Nat->Bool)(mn:∀j,j<n->gd j=true->∀k:Nat,k<n->0<A j k->S k=true):lC n gd<=lC n S:=by
 have bp:bw n (fun j=>if gd j=true then L else 0)=bw n (fun j=>bw n (fun k=>if gd j=true then A j k else 0)):=by
  apply fQ
  intro j aQ
  by_cases h:gd j=true
  ·simp only[h,if_true];exact(aj j aQ).symm
  ·simp only[if_neg h];exact(uP n).symm
 have bo:bw n (fun j=>bw n (fun k=>if gd j=true then A j k else 0))<=bw n (fun j=>bw n (fun k=>if S k=true then A j k else 0)):=by
  refine ES fun j aQ=>ES fun k ai=>?_
  have:=aH j k aQ ai
  by_cases h:gd j=true
  ·simp only[h,if_true]
   by_cases an:S k=true
   ·simp[an]
   ·rw[if_neg an]
    have:¬0<A j k:=fun aT=>an (mn j aQ h k ai aT)
    grind
  ·simp only[if_neg h]
   split
   ·exact this
   ·grind
 have e0:bw n (fun j=>bw n (fun k=>if S k=true then A j k else 0))=bw n (fun k=>if S k=true then L else 0):=by
  rw[EX]
  apply fQ
  intro k ai
  by_cases h:S k=true
  ·simp only[h,if_true];exact ag k ai
  ·simp only[if_neg h];exact uP n
 rw[<-bp,Mu,e0,Mu]at bo
 by_cases a3:lC n gd<=lC n S
 ·exact a3
 ·have aa:(lC n S:Rat)<(lC n gd:Rat):=by exact_mod_cast Nat.lt_of_not_le a3
  have aD:=Rat.mul_lt_mul_of_pos_right aa cr
  grind
def pX(n:Nat)(A:Nat->Nat->Rat)(bT:List Int):Prop:=bT.length=n/\∀k:Nat,k<n->bT[k]?.getD 0= -1\/∃j:Nat,j<n/\bT[k]?.getD 0=j/\0<A j k
structure pT (n:Nat) (A:Nat->Nat->Rat) (bT:List Int) (c6:List Bool) (dD:Nat) (b:Bool) (g3:List Int) (cy:List Bool):Prop where
 len:cy.length=n
 mono:∀k:Nat,c6[k]?.getD false=true->cy[k]?.getD false=true
 no:b=false->g3=bT/\(∀k:Nat,k<n->0<A dD k->cy[k]?.getD false=true)/\∀k:Nat,k<n->cy[k]?.getD false=true->c6[k]?.getD false=false->∃j:Nat,j<n/\bT[k]?.getD 0=j/\∀i,i<n->0<A j i->cy[i]?.getD false=true
 yes:b=true->pX n A g3/\(∀k:Nat,c6[k]?.getD false=true->g3[k]?=bT[k]?)/\∀j:Nat,g3.count (j:Int)=bT.count (j:Int)+if j=dD then 1 else 0
def oG(c6:List Bool):Nat:=c6.count false
theorem Z7{c6:List Bool}{i:Nat}(ad:i<c6.length)(h:c6[i]?.getD false=false):oG (c6.set i true)+1=oG c6:=by
 unfold oG
 rw[bx ad]at h
 simp at h
 rw[List.count_set ad,h]
 have:0<List.count false c6:=List.count_pos_iff.2 (h▸List.getElem_mem ad)
 simp
 omega
theorem M8:∀{c6 cy:List Bool},cy.length=c6.length->(∀k:Nat,c6[k]?.getD false=true->cy[k]?.getD false=true)->oG cy<=oG c6
 | [],cy,ar,_=>by
  have:cy=[]:=List.eq_nil_of_length_eq_zero (by simpa using ar)
  subst this
  exact Nat.le_refl _
 | b::c6,[],ar,_=>by simp at ar
 | b::c6,ca::cy,ar,h=>by
  have aV:=M8 (c6:=c6) (cy:=cy) (by simpa using ar) fun k ai=>by
   have:=h (k+1)
   simp at this
   exact this ai
  have aH:=h 0
  simp at aH
  unfold oG at aV⊢
  rw[List.count_cons,List.count_cons]
  cases b with
  | true=>simp[aH rfl];exact aV
  | false=>cases ca<;>simp<;>omega
structure jb (n:Nat) (A:Nat->Nat->Rat) (bT:List Int) (c6:List Bool) (dD i:Nat) (cy:List Bool):Prop where
 len:cy.length=n
 mono:∀k:Nat,c6[k]?.getD false=true->cy[k]?.getD false=true
 done:∀k:Nat,k<i->0<A dD k->cy[k]?.getD false=true
 new:∀k:Nat,k<n->cy[k]?.getD false=true->c6[k]?.getD false=false->∃j:Nat,j<n/\bT[k]?.getD 0=j/\∀i,i<n->0<A j i->cy[i]?.getD false=true
section
variable {n:Nat} {A:Nat->Nat->Rat} {bT g3:List Int} {c6 cy uN:List Bool} {dD i:Nat}
theorem jb.zero(h:c6.length=n):jb n A bT c6 dD 0 c6:=⟨h,fun _ h=>h,fun k ai=>by omega,fun k _ o aa=>by rw[o]at aa;cases aa⟩
theorem jb.skip(h:jb n A bT c6 dD i cy)(an:cy[i]?.getD false=true\/A dD i<=0):jb n A bT c6 dD (i+1) cy:=
 ⟨h.len,h.mono,fun k ai aT=>by
  by_cases eU:k<i
  ·exact h.done k eU aT
  ·obtain rfl:k=i:=by omega
   rcases an with an | an
   ·exact an
   ·grind,h.new⟩
theorem rE{l:List Bool}{i k:Nat}(ad:i<l.length):(l.set i true)[k]?.getD false=(decide (k=i) || l[k]?.getD false):=by
 rw[List.getElem?_set]
 by_cases h:i=k
 ·subst h;simp[ad]
 ·simp[h,show¬k=i by omega]
theorem jb.fail(h:jb n A bT c6 dD i cy)(ad:i<n)(hQ:cy[i]?.getD false=false){j:Nat}(aQ:j<n)(Dg:bT[i]?.getD 0=j)(aj:pT n A bT (cy.set i true) j false g3 uN):g3=bT/\jb n A bT c6 dD (i+1) uN:=by
 obtain⟨e,cQ,qx⟩:=aj.no rfl
 have cU:i<cy.length:=by rw[h.len];exact ad
 have hm:∀k,cy[k]?.getD false=true->uN[k]?.getD false=true:=fun k ai=>aj.mono k (by rw[rE cU,ai];simp)
 have C5:uN[i]?.getD false=true:=aj.mono i (by rw[rE cU];simp)
 refine⟨e,aj.len,fun k ai=>hm k (h.mono k ai),fun k ai aT=>?_,fun k ai o aa=>?_⟩
 ·by_cases eU:k<i
  ·exact hm k (h.done k eU aT)
  ·obtain rfl:k=i:=by omega
   exact C5
 ·by_cases eU:k=i
  ·subst eU;exact⟨j,aQ,Dg,cQ⟩
  ·by_cases ic:cy[k]?.getD false=true
   ·obtain⟨dC,aS,aM,bh⟩:=h.new k ai ic aa
    exact⟨dC,aS,aM,fun i ad aT=>hm i (bh i ad aT)⟩
   ·exact qx k ai o (by rw[rE cU];simp[eU];simpa using ic)
theorem jb.end(h:jb n A bT c6 dD n cy):pT n A bT c6 dD false bT cy:=⟨h.len,h.mono,fun _=>⟨rfl,h.done,h.new⟩,fun h=>by cases h⟩
theorem HL{l:List Int}{i:Nat}(ad:i<l.length){a:Int}(j:Int):(l.set i a).count j+(if l[i]?.getD 0=j then 1 else 0)=l.count j+if a=j then 1 else 0:=by
 rw[List.count_set ad]
 rw[bx ad]
 simp only[Option.getD_some,beq_iff_eq]
 by_cases h:l[i]=j
 ·have:0<List.count j l:=List.count_pos_iff.2 (h▸List.getElem_mem ad)
  simp[h];split<;>omega
 ·simp[h]
theorem pX.set(h:pX n A bT)(ad:i<n)(aQ:dD<n)(aT:0<A dD i):pX n A (bT.set i (dD:Int)):=by
 refine⟨by simp[h.1],fun k ai=>?_⟩
 by_cases eU:k=i
 ·subst eU
  rw[List.getElem?_set_self (by rw[h.1];exact ai)]
  exact .inr ⟨dD,aQ,rfl,aT⟩
 ·rw[List.getElem?_set_ne (by omega)];exact h.2 k ai
theorem jb.free(h:jb n A bT c6 dD i cy)(gh:pX n A bT)(ad:i<n)(rX:dD<n)(aT:0<A dD i)(hQ:cy[i]?.getD false=false)(hm:bT[i]?.getD 0<0):pT n A bT c6 dD true (bT.set i (dD:Int)) (cy.set i true):=by
 have cU:i<cy.length:=by rw[h.len];exact ad
 have fp:i<bT.length:=by rw[gh.1];exact ad
 refine⟨by simp[h.len],fun k ai=>by rw[rE cU,h.mono k ai];simp,(fun h=>by cases h),fun _=>⟨gh.set ad rX aT,fun k ai=>?_,fun j=>?_⟩⟩
 ·rw[List.getElem?_set_ne]
  rintro rfl
  rw[h.mono _ ai]at hQ;cases hQ
 ·have:=HL fp (a:=(dD:Int)) (j:Int)
  rw[if_neg (by omega)]at this
  rw[Nat.add_zero]at this
  rw[this]
  congr 1
  by_cases aQ:j=dD
  ·simp[aQ]
  ·rw[if_neg aQ,if_neg (by omega)]
theorem jb.Ef(h:jb n A bT c6 dD i cy)(gh:pX n A bT)(ad:i<n)(rX:dD<n)(aT:0<A dD i)(hQ:cy[i]?.getD false=false){j:Nat}(hm:bT[i]?.getD 0=j)(aj:pT n A bT (cy.set i true) j true g3 uN):pT n A bT c6 dD true (g3.set i (dD:Int)) uN:=by
 have cU:i<cy.length:=by rw[h.len];exact ad
 obtain⟨I1,zg,Rr⟩:=aj.yes rfl
 have fp:i<g3.length:=by rw[I1.1];exact ad
 have Dg:g3[i]?=bT[i]?:=zg i (by rw[rE cU];simp)
 refine⟨aj.len,fun k ai=>aj.mono k (by rw[rE cU,h.mono k ai];simp),(fun h=>by cases h),fun _=>⟨I1.set ad rX aT,fun k ai=>?_,fun x=>?_⟩⟩
 ·rw[List.getElem?_set_ne]
  ·exact zg k (by rw[rE cU,h.mono k ai];simp)
  ·rintro rfl
   rw[h.mono _ ai]at hQ;cases hQ
 ·have:=HL fp (a:=(dD:Int)) (x:Int)
  rw[Dg,hm,Rr x]at this
  by_cases o:x=j
  ·subst o
   simp at this
   by_cases aa:x=dD
   ·subst aa;simp at this⊢;omega
   ·rw[if_neg aa];rw[if_neg (by omega)]at this;omega
  ·rw[if_neg (by omega),if_neg o]at this
   by_cases aa:x=dD
   ·subst aa;simp at this⊢;omega
   ·rw[if_neg aa];rw[if_neg (by omega)]at this;omega
end
structure me (n:Nat) (A:Nat->Nat->Rat) (t:Nat) (bT:List Int):Prop where
 ok:pX n A bT
 p5:∀j:Nat,bT.count (j:Int)=if j<t then 1 else 0
theorem me.zero(n:Nat)(A:Nat->Nat->Rat):me n A 0 (List.replicate n (-1)):=
 ⟨⟨by simp,fun k ai=> .inl (by simp[ai])⟩,fun j=>by
  simp[List.count_replicate]⟩
theorem KM{l:List Int}{x:Int}(h:l.count x<=1){a b:Nat}(aF:l[a]?=some x)(ae:l[b]?=some x):a=b:=by
 induction l generalizing a b with
 | nil=>simp at aF
 | cons y l aV=>
  rw[List.count_cons]at h
  cases a with
  | zero=>
   cases b with
   | zero=>rfl
   | succ b=>
    simp at aF ae
    have:0<l.count x:=List.count_pos_iff.2 (List.mem_of_getElem? ae)
    simp[aF]at h;omega
  | succ a=>
   cases b with
   | zero=>
    simp at aF ae
    have:0<l.count x:=List.count_pos_iff.2 (List.mem_of_getElem? aF)
    simp[ae]at h;omega
   | succ b=>
    simp at aF ae
    rw[aV (by omega) aF ae]
theorem me.next{n t:Nat}{A:Nat->Nat->Rat}{L:Rat}{bT g3:List Int}{cy:List Bool}{b:Bool}(aH:∀i k,i<n->k<n->0<=A i k)(aj:∀i,i<n->bw n (A i)=L)(ag:∀k:Nat,k<n->bw n (fun i=>A i k)=L)(cr:0<L)
  (h:me n A t bT)(bt:t<n)(ax:pT n A bT (List.replicate n false) t b g3 cy):b=true/\me n A (t+1) g3:=by
 have ae:b=true:=by
  cases b with
  | true=>rfl
  | false=>
   exfalso
   obtain⟨-,o,aa⟩:=ax.no rfl
   have bE:∀k:Nat,k<n->cy[k]?.getD false=true->∃j:Nat,j<n/\bT[k]?.getD 0=j/\∀i,i<n->0<A j i->cy[i]?.getD false=true:=fun k ai an=>aa k ai an (by simp[ai])
   have cQ:=cQ aH aj ag cr (fun j=>decide (j=t) || (List.range n).any fun k=>cy[k]?.getD false&&bT[k]?.getD 0==(j:Int)) (fun k=>cy[k]?.getD false) (fun j aQ mn k ai aT=>by
    simp at mn
    rcases mn with rfl | ⟨bK,aS,aM,bh⟩
    ·exact o k ai aT
    ·obtain⟨dC,a5,hK,cc⟩:=bE bK aS aM
     have:dC=j:=by omega
     subst this
     exact cc k ai aT)
   have jR:=Oc (n:=n) (p:=fun j=>decide (j=t) || (List.range n).any fun k=>cy[k]?.getD false&&bT[k]?.getD 0==(j:Int)) (l:=t::((List.range n).filter fun k=>cy[k]?.getD false).map fun k=>(bT[k]?.getD 0).toNat) (by
    have Dl:∀k:Nat,k<n->cy[k]?.getD false=true->∃j:Nat,j<t/\bT[k]?=some (j:Int):=fun k ai an=>by
     obtain⟨j,aS,aM,-⟩:=bE k ai an
     have iR:k<bT.length:=by rw[h.ok.1];exact ai
     have hm:bT[k]?=some (j:Int):=by rw[bx iR]at aM⊢;simpa using aM
     have:0<bT.count (j:Int):=List.count_pos_iff.2 (List.mem_of_getElem? hm)
     rw[h.p5]at this
     by_cases tS:j<t
     ·exact⟨j,tS,hm⟩
     ·rw[if_neg tS]at this;omega
    rw[List.nodup_cons]
    refine⟨fun hm=>?_,?_⟩
    ·simp at hm
     obtain⟨k,⟨aS,aM⟩,bh⟩:=hm
     obtain⟨j,a5,hK⟩:=Dl k aS aM
     rw[hK]at bh;simp at bh;omega
    ·rw[List.nodup_iff_pairwise_ne,List.pairwise_map]
     have t_:((List.range n).filter fun k=>cy[k]?.getD false).Nodup:=List.nodup_range.filter _
     refine List.Pairwise.imp_of_mem (fun{a b} aF ae wj=>?_) t_
     simp at aF ae
     obtain⟨aer,a5,hK⟩:=Dl a aF.1 aF.2
     obtain⟨aes,cc,q_⟩:=Dl b ae.1 ae.2
     rw[hK,q_]
     simp
     rintro rfl
     exact wj (KM (by rw[h.p5];split<;>omega) hK q_)) (fun x I=>by
    simp at I
    rcases I with rfl | ⟨k,⟨aS,aM⟩,bh⟩
    ·exact⟨bt,by simp⟩
    ·obtain⟨j,a5,hK,-⟩:=bE k aS aM
     have:x=j:=by omega
     subst this
     exact⟨a5,by simp;exact .inr ⟨k,aS,aM,hK⟩⟩)
   rw[List.length_cons,List.length_map]at jR
   have:lC n (fun k=>cy[k]?.getD false)=((List.range n).filter fun k=>cy[k]?.getD false).length:=rfl
   omega
 obtain⟨aS,-,bh⟩:=ax.yes ae
 refine⟨ae,aS,fun j=>?_⟩
 rw[bh,h.p5]
 by_cases o:j<t
 ·rw[if_pos o,if_neg (by omega),if_pos (by omega)]
 ·by_cases aa:j=t
  ·rw[if_neg o,if_pos aa,if_pos (by omega)]
  ·rw[if_neg o,if_neg aa,if_neg (by omega)]
end Go.b9
end
section
set_option maxRecDepth 8000
namespace Go.b9
theorem XN{N s:Nat}(f:Nat->Rat)(an:s<=N):bw (N+1) f=f s+bw N (fun i=>f (if i<s then i else i+1)):=by
 induction N with
 | zero=>
  obtain rfl:s=0:=by omega
  simp[bw]
  grind
 | succ N aV=>
  by_cases h:s=N+1
  ·subst h
   rw[bw,fQ (g:=fun i=>f (if i<N+1 then i else i+1)) fun i ad=>by rw[if_pos ad]]
   grind
  ·rw[bw,aV (by omega)]
   simp only[bw]
   rw[if_neg (show¬N<s by omega)]
   grind
theorem BJ:∀(d N:Nat) (V:Nat->Nat->Rat),d<N->∃c:Nat->Rat,(∃i,i<N/\c i≠0)/\∀j,j<d->bw N (fun i=>c i*V i j)=0
 | 0,N,V,h=>⟨fun i=>1,⟨0,h,by decide⟩,fun j aQ=>by omega⟩
 | d+1,N,V,h=>by
  by_cases cQ:∀i,i<N->V i d=0
  ·obtain⟨c,ag,aP⟩:=BJ d N V (by omega)
   refine⟨c,ag,fun j aQ=>?_⟩
   by_cases lM:j=d
   ·subst lM
    rw[fQ (g:=fun _=>0) fun i ad=>by rw[cQ i ad];grind]
    exact uP N
   ·exact aP j (by omega)
  ·obtain⟨s,an,wV⟩:∃s,s<N/\V s d≠0:=Classical.byContradiction fun hF=>cQ fun i ad=>Classical.byContradiction fun aH=>hF ⟨i,ad,aH⟩
   obtain⟨M,rfl⟩:∃M,N=M+1:=⟨N-1,by omega⟩
   obtain⟨lo,Dw⟩:∃lo:Nat->Nat,lo=fun i=>if i<s then i else i+1:=⟨_,rfl⟩
   obtain⟨dL,⟨i0,qq,ql⟩,aP⟩:=BJ d M (fun i j=>V (lo i) j-(V (lo i) d/V s d)*V s j) (by omega)
   obtain⟨g,aU⟩:∃g,g=bw M (fun i=>dL i*V (lo i) d):=⟨_,rfl⟩
   obtain⟨c,ag⟩:∃c:Nat->Rat,c=fun i=>if i<s then dL i else if i=s then-g/V s d else dL (i-1):=⟨_,rfl⟩
   have cG:∀i,c (lo i)=dL i:=fun i=>by
    rw[ag,Dw]
    simp only
    by_cases ad:i<s
    ·rw[if_pos ad,if_pos ad]
    ·rw[if_neg ad,if_neg (by omega),if_neg (by omega),Nat.add_sub_cancel]
   have dh:c s= -g/V s d:=by rw[ag];simp
   have ub:∀j,bw (M+1) (fun i=>c i*V i j)=c s*V s j+bw M (fun i=>dL i*V (lo i) j):=fun j=>by
    rw[XN _ (show s<=M by omega)]
    congr 1
    refine fQ fun i _=>?_
    have:=cG i
    rw[Dw]at this⊢
    simp only at this⊢
    rw[this]
   refine⟨c,⟨lo i0,?_,by rw[cG];exact ql⟩,fun j aQ=>?_⟩
   ·rw[Dw];simp only;split<;>omega
   ·rw[ub,dh]
    by_cases lM:j=d
    ·subst lM
     rw[<-aU]
     have: -g/V s j*V s j= -g:=Rat.div_mul_cancel wV
     grind
    ·have:=aP j (by omega)
     have e:bw M (fun i=>dL i*(V (lo i) j-V (lo i) d/V s d*V s j))=bw M (fun i=>dL i*V (lo i) j)+bw M (fun i=>(-(V s j/V s d))*(dL i*V (lo i) d)):=by
      rw[<-Mt]
      refine fQ fun i _=>?_
      simp only[Rat.div_def]
      grind
     rw[e,EU,<-aU]at this
     simp only[Rat.div_def]at this⊢
     grind
theorem XY{n k:Nat}(aE:0<n)(P:Nat->Nat->Nat->Rat)(db:∀s,s<k->∀i,i<n->bw n (P s i)=1)(CS:∀s,s<k->∀j,j<n->bw n (fun i=>P s i j)=1)
  (a b:Nat->Nat)(he:∀s,s<k->a s<n/\b s<n/\P s (a s) (b s)≠0)(S9:∀s t,s<t->t<k->P t (a s) (b s)=0):k<=(n-1)*(n-1)+1:=by
 refine Classical.byContradiction fun ai=>?_
 obtain⟨r,aj⟩:∃r,n=r+1:=⟨n-1,by omega⟩
 subst aj
 rw[Nat.add_sub_cancel]at ai
 obtain⟨c,⟨i0,qq,ql⟩,aP⟩:=BJ (r*r+1) k (fun s j=>if j<r*r then P s (j/r) (j % r)else 1) (by omega)
 obtain⟨M,gh⟩:∃M:Nat->Nat->Rat,M=fun i j=>bw k (fun s=>c s*P s i j):=⟨_,rfl⟩
 have hY:∀i j,i<r->j<r->M i j=0:=fun i j ad aQ=>by
  have a3:i*r+j<r*r:=by
   have:(i+1)*r<=r*r:=Nat.mul_le_mul_right r (by omega)
   rw[Nat.succ_mul]at this
   omega
  have:=aP (i*r+j) (by omega)
  have d1:(i*r+j)/r=i:=by rw[Nat.mul_comm,Nat.mul_add_div (by omega),Nat.div_eq_of_lt aQ];rfl
  have d2:(i*r+j) % r=j:=by rw[Nat.mul_comm,Nat.mul_add_mod,Nat.mod_eq_of_lt aQ]
  rw[gh,<-this]
  refine fQ fun s _=>?_
  rw[if_pos a3,d1,d2]
 have Ec:bw k c=0:=by
  have:=aP (r*r) (by omega)
  rw[<-this]
  refine fQ fun s _=>?_
  rw[if_neg (by omega)]
  grind
 have Ed:∀i,i<r+1->bw (r+1) (M i)=0:=fun i ad=>by
  have e:bw (r+1) (M i)=bw k (fun s=>bw (r+1) (fun j=>c s*P s i j)):=by rw[gh];exact(EX k (r+1) (fun s j=>c s*P s i j)).symm
  rw[e,fQ (g:=c) fun s an=>by rw[EU,db s an i ad];grind]
  exact Ec
 have K8:∀j,j<r+1->bw (r+1) (fun i=>M i j)=0:=fun j aQ=>by
  have e:bw (r+1) (fun i=>M i j)=bw k (fun s=>bw (r+1) (fun i=>c s*P s i j)):=by rw[gh];exact(EX k (r+1) (fun s i=>c s*P s i j)).symm
  rw[e,fQ (g:=c) fun s an=>by rw[EU,CS s an j aQ];grind]
  exact Ec
 have z:∀m:Nat,bw m (fun _=>(0:Rat))=0:=uP
 have VK:∀i,i<r->M i r=0:=fun i ad=>by
  have:=Ed i (by omega)
  rw[bw,fQ (g:=fun _=>0) fun j aQ=>hY i j ad aQ,z]at this
  grind
 have K9:∀j,j<r->M r j=0:=fun j aQ=>by
  have:=K8 j (by omega)
  rw[bw,fQ (g:=fun _=>0) fun i ad=>hY i j ad aQ,z]at this
  grind
 have VL:M r r=0:=by
  have:=Ed r (by omega)
  rw[bw,fQ (g:=fun _=>0) fun j aQ=>K9 j aQ,z]at this
  grind
 have VM:∀i j,i<r+1->j<r+1->M i j=0:=fun i j ad aQ=>by
  by_cases o:i=r
  ·subst o
   by_cases aa:j=i
   ·subst aa;exact VL
   ·exact K9 j (by omega)
  ·by_cases aa:j=r
   ·subst aa;exact VK i (by omega)
   ·exact hY i j (by omega) (by omega)
 have cQ:∀m s,s<m->s<k->c s=0:=fun m=>by
  induction m with
  | zero=>intro s h;omega
  | succ m aV=>
   intro s an ai
   by_cases zI:s=m
   ·subst zI
    obtain⟨o,aa,aD⟩:=he s ai
    have:=VM (a s) (b s) o aa
    rw[gh]at this
    simp only at this
    rw[fQ (g:=fun t=>if t=s then c s*P s (a s) (b s)else 0) fun t bt=>by
     by_cases h:t=s
     ·subst h;simp
     ·rw[if_neg h]
      by_cases b7:t<s
      ·rw[aV t b7 bt];grind
      ·rw[S9 s t (by omega) bt];grind,sE s (fun _=>c s*P s (a s) (b s)),if_pos ai]at this
    rcases Rat.mul_eq_zero.1 this with h | h
    ·exact h
    ·exact absurd h aD
   ·exact aV s (by omega) ai
 exact ql (cQ k i0 qq qq)
end Go.b9
end
section
namespace Go.b9
structure jF (n:Nat) (p:List Int):Prop where
 len:p.length=n
 dD:∀k,k<n->∃j:Nat,j<n/\p[k]?=some (j:Int)
 p5:∀j,j<n->p.count (j:Int)=1
theorem me.perm{n:Nat}{A:Nat->Nat->Rat}{bT:List Int}(h:me n A n bT):jF n bT/\∀k j:Nat,k<n->bT[k]?=some (j:Int)->0<A j k:=by
 have hP:∀k,k<n->∃j:Nat,j<n/\bT[k]?=some (j:Int)/\0<A j k:=by
  intro k ai
  have iR:k<bT.length:=by rw[h.ok.1];exact ai
  rcases h.ok.2 k ai with o | ⟨j,aS,aM,bh⟩
  ·exfalso
   have hm:(-1:Int)∈bT:=by
    rw[bx iR]at o
    simp at o
    exact o▸List.getElem_mem iR
   have:=Ej (l:=(-1:Int)::(List.range n).map Int.ofNat) (c2:=bT) (by
    rw[List.nodup_cons]
    refine⟨by simp,?_⟩
    rw[List.nodup_iff_pairwise_ne,List.pairwise_map]
    exact List.Pairwise.imp (fun{a b} wj=>by simp only[Int.ofNat_eq_natCast,ne_eq];omega) List.nodup_range) (fun x I=>by
    simp at I
    rcases I with rfl | ⟨j,aS,rfl⟩
    ·exact hm
    ·have:=h.p5 j
     rw[if_pos aS]at this
     exact List.count_pos_iff.1 (by rw[this];omega))
   rw[List.length_cons,List.length_map,List.length_range,h.ok.1]at this
   omega
  ·exact⟨j,aS,by rw[bx iR]at aM⊢;simpa using aM,bh⟩
 refine⟨⟨h.ok.1,fun k ai=>?_,fun j aQ=>by rw[h.p5,if_pos aQ]⟩,fun k j ai aQ=>?_⟩
 ·obtain⟨j,aS,aM,-⟩:=hP k ai
  exact⟨j,aS,aM⟩
 ·obtain⟨dC,aS,aM,bh⟩:=hP k ai
  rw[aM]at aQ
  have:dC=j:=by simp at aQ;omega
  exact this▸bh
theorem jF.at{n:Nat}{p:List Int}(h:jF n p){j:Nat}(aQ:j<n):∃k,k<n/\p[k]?=some (j:Int)/\∀bK,p[bK]?=some (j:Int)->bK=k:=by
 have o:=h.p5 j aQ
 have hm:(j:Int)∈p:=List.count_pos_iff.1 (by rw[o];omega)
 obtain⟨k,ai⟩:=List.mem_iff_getElem?.1 hm
 refine⟨k,?_,ai,fun bK ic=>KM (by rw[o];omega) ic ai⟩
 have:=(cd.1 ai).1
 rw[h.len]at this;exact this
def gJ(p:Rat×List Int)(i k:Nat):Rat:=if p.2[k]?=some (i:Int)then p.1 else 0
def gX:List (Rat×List Int)->Nat->Nat->Rat
 | [],_,_=>0
 | p::aZ,i,k=>gJ p i k+gX aZ i k
theorem LM(a b:List (Rat×List Int))(i k:Nat):gX (a++b) i k=gX a i k+gX b i k:=by
 induction a with
 | nil=>simp[gX];grind
 | cons p a aV=>simp only[List.cons_append,gX];rw[aV];grind
def eC:List (Rat×List Int)->Rat
 | []=>0
 | p::aZ=>p.1+eC aZ
theorem LI(a b:List (Rat×List Int)):eC (a++b)=eC a+eC b:=by
 induction a with
 | nil=>simp[eC];grind
 | cons p a aV=>simp only[List.cons_append,eC];rw[aV];grind
theorem jF.row{n:Nat}{p:Rat×List Int}(h:jF n p.2){i:Nat}(ad:i<n):bw n (fun k=>gJ p i k)=p.1:=by
 obtain⟨k,ai,o9,Tg⟩:=h.at ad
 have:bw n (fun bK=>gJ p i bK)=bw n (fun bK=>if bK=k then p.1 else 0):=by
  apply fQ
  intro bK ic
  unfold gJ
  by_cases o:bK=k
  ·subst o;simp[o9]
  ·rw[if_neg o,if_neg fun aa=>o (Tg bK aa)]
 rw[this,sE k (fun _=>p.1),if_pos ai]
theorem jF.rv{n:Nat}{p:Rat×List Int}(h:jF n p.2){k:Nat}(ai:k<n):bw n (fun i=>gJ p i k)=p.1:=by
 obtain⟨j,aQ,o9⟩:=h.dD k ai
 have:bw n (fun i=>gJ p i k)=bw n (fun i=>if i=j then p.1 else 0):=by
  apply fQ
  intro i ad
  unfold gJ
  rw[o9]
  by_cases o:i=j
  ·subst o;simp
  ·rw[if_neg o,if_neg];simp;omega
 rw[this,sE j (fun _=>p.1),if_pos aQ]
def kR:Nat->(Nat->Nat)->Nat
 | 0,_=>0
 | n+1,f=>kR n f+f n
theorem AK{n:Nat}{f g:Nat->Nat}(h:∀i,i<n->f i<=g i):kR n f<=kR n g:=by
 induction n with
 | zero=>simp[kR]
 | succ n aV=>simp only[kR];have:=aV fun i ad=>h i (by omega);have:=h n (by omega);omega
theorem Ms{n:Nat}{f g:Nat->Nat}(h:∀i,i<n->f i<=g i){j:Nat}(aQ:j<n)(a3:f j<g j):kR n f<kR n g:=by
 induction n with
 | zero=>omega
 | succ n aV=>
  simp only[kR]
  have o:=AK (n:=n) fun i ad=>h i (by omega)
  have aa:=h n (by omega)
  by_cases nw:j=n
  ·subst nw;omega
  ·have:=aV (fun i ad=>h i (by omega)) (by omega);omega
def mQ(n:Nat)(B:Nat->Nat->Rat):Nat:=kR n fun i=>kR n fun k=>if 0<B i k then 1 else 0
theorem LL(n:Nat)(B:Nat->Nat->Rat):mQ n B<=n*n:=by
 have o:∀m (f:Nat->Nat) (c:Nat),(∀i,f i<=c)->kR m f<=m*c:=by
  intro m f c ax
  induction m with
  | zero=>simp[kR]
  | succ m aV=>simp only[kR];have:=ax m;rw[Nat.succ_mul];omega
 exact o n _ n fun i=>by
  have:=o n (fun k=>if 0<B i k then 1 else 0) 1 fun k=>by split<;>omega
  omega
structure j6 (n:Nat) (B:Nat->Nat->Rat) (L:Rat):Prop where
 ik:∀i k,i<n->k<n->0<=B i k
 row:∀i,i<n->bw n (B i)=L
 rv:∀k,k<n->bw n (fun i=>B i k)=L
def iZ(B:Nat->Nat->Rat)(p:Rat×List Int)(i k:Nat):Rat:=B i k-gJ p i k
theorem Mv(n:Nat)(f g:Nat->Rat):bw n (fun i=>f i-g i)=bw n f-bw n g:=by
 induction n with
 | zero=>simp[bw];grind
 | succ n aV=>simp only[bw];rw[aV];grind
theorem j6.less{n:Nat}{B:Nat->Nat->Rat}{L:Rat}(h:j6 n B L){p:Rat×List Int}(aT:jF n p.2)(aH:0<p.1)(hle:∀k j:Nat,k<n->p.2[k]?=some (j:Int)->p.1<=B j k)(la:∃k j:Nat,k<n/\j<n/\p.2[k]?=some (j:Int)/\p.1=B j k):
  j6 n (iZ B p) (L-p.1)/\mQ n (iZ B p)<mQ n B:=by
 have r3:∀i k,i<n->k<n->0<=iZ B p i k:=fun i k ad ai=>by
  unfold iZ gJ
  split
  ·rename_i aQ
   have:=hle k i ai aQ
   grind
  ·have:=h.ik i k ad ai
   grind
 refine⟨⟨r3,fun i ad=>?_,fun k ai=>?_⟩,?_⟩
 ·have:bw n (iZ B p i)=bw n (fun k=>B i k-gJ p i k):=rfl
  rw[this,Mv,h.row i ad,aT.row ad]
 ·have:bw n (fun i=>iZ B p i k)=bw n (fun i=>B i k-gJ p i k):=rfl
  rw[this,Mv,h.rv k ai,aT.rv ai]
 ·obtain⟨k,j,ai,aQ,o9,e⟩:=la
  have Db:∀i k,i<n->k<n->(if 0<iZ B p i k then 1 else 0)<=(if 0<B i k then 1 else 0):=fun i k ad ai=>by
   by_cases o:0<iZ B p i k
   ·have:0<B i k:=by
     unfold iZ gJ at o
     split at o<;>grind
    simp[o,this]
   ·simp[o]
  refine Ms (fun i ad=>AK fun k ai=>Db i k ad ai) aQ (Ms (fun k ai=>Db j k aQ ai) ai ?_)
  have o:¬0<iZ B p j k:=by unfold iZ gJ;rw[if_pos o9,e];grind
  have aa:0<B j k:=by rw[<-e];exact aH
  simp[o,aa]
theorem j6.none{n:Nat}{B:Nat->Nat->Rat}(h:j6 n B 0){i k:Nat}(ad:i<n)(ai:k<n):B i k=0:=by
 have o:=ET (f:=B i) (fun k ai=>h.ik i k ad ai) ai
 rw[h.row i ad]at o
 have:=h.ik i k ad ai
 grind
structure l9 (n:Nat) (A:Nat->Nat->Rat) (L:Rat) (aZ:List (Rat×List Int)) (B:Nat->Nat->Rat):Prop where
 kk:j6 n B (L-eC aZ)
 parts:∀p∈aZ,0<p.1/\jF n p.2
 sum:∀i k,i<n->k<n->A i k=gX aZ i k+B i k
 mm:mQ n B+aZ.length<=mQ n A
 E4:∃a b:Nat->Nat,(∀s,s<aZ.length->a s<n/\b s<n/\(∃p,aZ[s]?=some p/\p.2[b s]?=some ((a s:Nat):Int))/\B (a s) (b s)=0)/\∀s t,s<t->∀p,aZ[t]?=some p->p.2[b s]?≠some ((a s:Nat):Int)
theorem l9.zero{n:Nat}{A:Nat->Nat->Rat}{L:Rat}(h:j6 n A L):l9 n A L [] A:=
 ⟨by have:L-eC []=L:=by simp[eC];grind
     rw[this];exact h,by simp,fun i k _ _=>by simp[gX];grind,by simp,fun _=>0,fun _=>0,fun s h=>by simp at h,fun s t _ p h=>by simp at h⟩
theorem l9.next{n:Nat}{A:Nat->Nat->Rat}{L:Rat}{aZ:List (Rat×List Int)}{B:Nat->Nat->Rat}(h:l9 n A L aZ B){p:Rat×List Int}(aT:jF n p.2)(aH:0<p.1)(hle:∀k j:Nat,k<n->p.2[k]?=some (j:Int)->p.1<=B j k)(la:∃k j:Nat,k<n/\j<n/\p.2[k]?=some (j:Int)/\p.1=B j k):
  l9 n A L (aZ++[p]) (iZ B p):=by
 obtain⟨o,aa⟩:=h.kk.less aT aH hle la
 refine⟨?_,fun q av=>?_,fun i k ad ai=>?_,?_,?_⟩
 ·rw[LI]
  have:L-(eC aZ+eC [p])=L-eC aZ-p.1:=by simp[eC];grind
  rw[this];exact o
 ·simp at av
  rcases av with av | rfl
  ·exact h.parts q av
  ·exact⟨aH,aT⟩
 ·rw[LM,h.sum i k ad ai]
  simp[gX,iZ]
  grind
 ·have:=h.mm
  simp
  omega
 ·obtain⟨a,b,t1,t2⟩:=h.E4
  obtain⟨k,j,ai,aQ,o9,e⟩:=la
  have hF:∀s,s<aZ.length->p.2[b s]?≠some ((a s:Nat):Int):=fun s an av=>by
   obtain⟨-,aM,-,b0⟩:=t1 s an
   have:=hle _ _ aM av
   rw[b0]at this
   exact absurd aH (Rat.not_lt.2 this)
  refine⟨fun s=>if s=aZ.length then j else a s,fun s=>if s=aZ.length then k else b s,fun s an=>?_,fun s t cS q av=>?_⟩
  ·simp only[List.length_append,List.length_singleton]at an
   by_cases zG:s=aZ.length
   ·subst zG
    simp only[if_true]
    refine⟨aQ,ai,⟨p,by simp,o9⟩,?_⟩
    unfold iZ gJ
    rw[if_pos o9,e]
    grind
   ·obtain⟨aS,aM,⟨q,bh,b0⟩,ey⟩:=t1 s (by omega)
    simp only[if_neg zG]
    refine⟨aS,aM,⟨q,by rw[List.getElem?_append_left (by omega)];exact bh,b0⟩,?_⟩
    unfold iZ gJ
    rw[if_neg (hF s (by omega)),ey]
    grind
  ·have bt:=(cd.1 av).1
   simp only[List.length_append,List.length_singleton]at bt
   have zG:s≠aZ.length:=by omega
   simp only[if_neg zG]
   by_cases zM:t=aZ.length
   ·subst zM
    simp at av
    subst av
    exact hF s (by omega)
   ·rw[List.getElem?_append_left (by omega)]at av
    exact t2 s t cS q av
structure rf (n:Nat) (A:Nat->Nat->Rat) (L:Rat) (aZ:List (Rat×List Int)):Prop where
 parts:∀p∈aZ,0<p.1/\jF n p.2
 sum:∀i k,i<n->k<n->gX aZ i k=A i k
 len:eC aZ=L
 mm:aZ.length<=n*n
 VY:aZ.length<=(n-1)*(n-1)+1
theorem l9.end{n:Nat}{A:Nat->Nat->Rat}{L:Rat}{aZ:List (Rat×List Int)}{B:Nat->Nat->Rat}(aE:0<n)(h:l9 n A L aZ B)(aP:¬0<L-eC aZ):rf n A L aZ:=by
 have aH:0<=L-eC aZ:=by
  have:=EV (n:=n) (f:=B 0) fun k ai=>h.kk.ik 0 k aE ai
  rw[h.kk.row 0 aE]at this
  exact this
 have e:L-eC aZ=0:=by grind
 have ar:=h.kk
 rw[e]at ar
 refine⟨h.parts,fun i k ad ai=>?_,by grind,?_,?_⟩
 ·rw[h.sum i k ad ai,ar.none ad ai];exact(Rat.add_zero _).symm
 ·have:=h.mm
  have:=LL n A
  omega
 ·obtain⟨a,b,t1,t2⟩:=h.E4
  have aT:∀s,s<aZ.length->jF n (aZ[s]?.getD (0,[])).2:=fun s an=>by
   rw[bx an]
   exact(h.parts _ (List.getElem_mem an)).2
  refine XY aE (fun s i j=>gJ (1,(aZ[s]?.getD (0,[])).2) i j) (fun s an i ad=>jF.row (p:=(1,(aZ[s]?.getD (0,[])).2)) (aT s an) ad) (fun s an j aQ=>jF.rv (p:=(1,(aZ[s]?.getD (0,[])).2)) (aT s an) aQ) a b (fun s an=>?_) fun s t cS bt=>?_
  ·obtain⟨aS,aM,⟨q,bh,b0⟩,ey⟩:=t1 s an
   refine⟨aS,aM,?_⟩
   unfold gJ
   rw[bh,if_pos (by simpa using b0)]
   show(1:Rat)≠0
   decide
  ·have av:=bx bt
   have:=t2 s t cS _ av
   unfold gJ
   rw[if_neg (by rw[av];simpa using this)]
theorem Er{aZ:List (Rat×List Int)}(h:∀p∈aZ,0<p.1):0<=eC aZ/\∀p∈aZ,p.1<=eC aZ:=by
 induction aZ with
 | nil=>simp[eC]
 | cons q aZ aV=>
  obtain⟨o,aa⟩:=aV fun p aT=>h p (by simp[aT])
  have aD:=h q (by simp)
  simp only[eC]
  refine⟨by grind,fun p aT=>?_⟩
  simp at aT
  rcases aT with rfl | aT
  ·grind
  ·have:=aa p aT;grind
def gx(n m:Nat)(A:Nat->Nat->Rat)(top:Rat)(i k:Nat):Rat:=
 if i<n then(if k<m then A i k else if k=m+i then top-bw m (A i)else 0)
 else(if k<m then(if k=i-n then top-bw n (fun iX=>A iX k)else 0)else A (k-m) (i-n))
theorem XI{n m:Nat}{A:Nat->Nat->Rat}{top:Rat}(aH:∀i k,i<n->k<m->0<=A i k)(aj:∀i,i<n->bw m (A i)<=top)(ag:∀k,k<m->bw n (fun i=>A i k)<=top):j6 (n+m) (gx n m A top) top:=by
 refine⟨fun i k ad ai=>?_,fun i ad=>?_,fun k ai=>?_⟩
 ·unfold gx
  split
  ·rename_i o
   split
   ·exact aH i k o ‹_›
   ·split
    ·have:=aj i o;grind
    ·grind
  ·split
   ·split
    ·have:=ag k ‹_›;grind
    ·grind
   ·exact aH _ _ (by omega) (by omega)
 ·by_cases o:i<n
  ·rw[Nat.add_comm,EW]
   have bp:bw m (gx n m A top i)=bw m (A i):=fQ fun k ai=>by simp[gx,o,ai]
   have bo:bw n (fun k=>gx n m A top i (m+k))=bw n (fun k=>if k=i then top-bw m (A i)else 0):=fQ fun k ai=>by
    simp[gx,o];intro;omega
   rw[bp,bo,sE i (fun _=>top-bw m (A i)),if_pos o];grind
  ·rw[Nat.add_comm,EW]
   have bp:bw m (gx n m A top i)=bw m (fun k=>if k=i-n then top-bw n (fun iX=>A iX k)else 0):=fQ fun k ai=>by simp[gx,o,ai]
   have bo:bw n (fun k=>gx n m A top i (m+k))=bw n (fun iX=>A iX (i-n)):=fQ fun k ai=>by
    simp[gx,o];intro;omega
   rw[bp,bo,sE (i-n) (fun k=>top-bw n (fun iX=>A iX k)),if_pos (by omega)];grind
 ·rw[EW]
  by_cases o:k<m
  ·have bp:bw n (fun i=>gx n m A top i k)=bw n (fun i=>A i k):=fQ fun i ad=>by simp[gx,o,ad]
   have bo:bw m (fun i=>gx n m A top (n+i) k)=bw m (fun i=>if i=k then top-bw n (fun iX=>A iX k)else 0):=fQ fun i ad=>by
    simp[gx,o,show¬n+i<n by omega,show n+i-n=i by omega,eq_comm]
   rw[bp,bo,sE k (fun _=>top-bw n (fun iX=>A iX k)),if_pos o];grind
  ·have bp:bw n (fun i=>gx n m A top i k)=bw n (fun i=>if i=k-m then top-bw m (A i)else 0):=fQ fun i ad=>by
    simp[gx,o,ad]
    congr 1
    simp;omega
   have bo:bw m (fun i=>gx n m A top (n+i) k)=bw m (A (k-m)):=fQ fun i ad=>by
    simp[gx,o,show¬n+i<n by omega,show n+i-n=i by omega]
   rw[bp,bo,sE (k-m) (fun i=>top-bw m (A i)),if_pos (by omega)];grind
def jj(n m:Nat)(p:List Int):List Int:=(p.take m).map fun j=>if(n:Int)<=j then-1 else j
structure vc (n m:Nat) (l:List Int):Prop where
 len:l.length=m
 W0:∀k,k<m->l[k]?=some (-1)\/∃j:Nat,j<n/\l[k]?=some (j:Int)
 inj:∀j:Nat,j<n->l.count (j:Int)<=1
theorem BG{n m:Nat}{p:List Int}(k:Nat):(jj n m p)[k]?=if k<m then(p[k]?).map fun j=>if(n:Int)<=j then-1 else j else none:=by
 unfold jj
 rw[List.getElem?_map,List.getElem?_take]
 split<;>rfl
theorem Ol{n m:Nat}{p:List Int}{k i:Nat}(ai:k<m)(ad:i<n):(jj n m p)[k]?=some (i:Int)↔p[k]?=some (i:Int):=by
 rw[BG,if_pos ai]
 cases h:p[k]? with
 | none=>simp
 | some j=>
  simp
  split
  ·constructor<;>intro h<;>omega
  ·exact Iff.rfl
theorem jF.cut{n m:Nat}{p:List Int}(h:jF (n+m) p):vc n m (jj n m p):=by
 refine⟨by simp[jj,h.len],fun k ai=>?_,fun j aQ=>?_⟩
 ·obtain⟨j,aS,aM⟩:=h.dD k (by omega)
  rw[BG,if_pos ai,aM]
  by_cases nw:j<n
  ·exact .inr ⟨j,nw,by simp;omega⟩
  ·exact .inl (by simp;omega)
 ·have o:=h.p5 j (by omega)
  have aa:(jj n m p).count (j:Int)<=(p.take m).count (j:Int):=by
   unfold jj
   generalize p.take m=l
   induction l with
   | nil=>simp
   | cons x l aV=>
    simp only[List.map_cons,List.count_cons]
    by_cases I:(n:Int)<=x
    ·simp[I];omega
    ·simp[I];omega
  have aD:(p.take m).count (j:Int)<=p.count (j:Int):=(List.take_sublist m p).count_le _
  omega
structure ye (n m:Nat) (A:Nat->Nat->Rat) (L:Rat) (aZ:List (Rat×List Int)):Prop where
 AE:∀p∈aZ,0<p.1/\vc n m p.2
 sum:∀i k,i<n->k<m->gX aZ i k=A i k
 len:eC aZ=L
 mm:aZ.length<=(n+m)*(n+m)
theorem rf.Wn{n m:Nat}{A:Nat->Nat->Rat}{top:Rat}{aZ:List (Rat×List Int)}(h:rf (n+m) (gx n m A top) top aZ):ye n m A top (aZ.map fun p=>(p.1,jj n m p.2)):=by
 refine⟨fun p aT=>?_,fun i k ad ai=>?_,?_,by simpa using h.mm⟩
 ·simp at aT
  obtain⟨a,b,q,rfl⟩:=aT
  obtain⟨o,aa⟩:=h.parts _ q
  exact⟨o,aa.cut⟩
 ·have o:=h.sum i k (by omega) (by omega)
  have aa:gx n m A top i k=A i k:=by simp[gx,ad,ai]
  rw[aa]at o
  rw[<-o]
  generalize aZ=l
  induction l with
  | nil=>rfl
  | cons p l aV=>
   simp only[List.map_cons,gX]
   rw[aV]
   congr 1
   unfold gJ
   simp only[Ol ai ad]
 ·rw[<-h.len]
  generalize aZ=l
  induction l with
  | nil=>rfl
  | cons p l aV=>
   simp only[List.map_cons,eC]
   rw[aV]
end Go.b9
end
section
set_option maxRecDepth 8000
set_option maxHeartbeats 1000000
namespace Go.b9
open Go.Proofs
open Go.Proofs.Try (prog)
attribute [-simp] fJ gN hI
theorem Row.V6{α:Type}{e J:Nat}{ay:Bool}{af:ab->Value->α->Prop}{H:ab}{n c:Nat}{xs:List α}(h:Row e J ay af H (.slice none n c) xs):xs=[]:=by
 obtain⟨cs,⟨a,cap,ao,o,aa,aD⟩,bD⟩:=h
 simp at ao
 obtain⟨rfl,rfl,rfl⟩:=ao
 by_cases ag:0<c
 ·obtain⟨b,i,X,all,q,-⟩:=aD ag
  cases q
 ·exact List.eq_nil_of_length_eq_zero (by omega)
theorem Ob{v:Value}{xs:List Rat}{H:ab}(aR:iw H v xs)(ar:xs.length<65536):
  a0 prog 45 [v] H (fun u H1=>Ext H H1/\bz H.length 44 4 true b4 H1 u xs):=by
 refine a0.cq fun Q aG=>?_
 apply UZ (by simp)
 obtain⟨a,c,rfl⟩:=Row.len aR
 simp[G_]
 refine bG.mk (fun aE=>?_) (fun aE=>?_)
 ·have:a=none:=by simpa using aE
  subst this
  have:=Row.V6 aR
  subst this
  simp[bj]
  exact aG _ _ ⟨Ext.refl H,bz.nil _ _ _ _ _ _⟩
 ·refine uU (e:=44) (J:=4) (by simp) (by simp) ?_
  simp
  refine AQ (k:=H.length) (e:=44) (J:=4) (ay:=true) (bs:=64) (z:= .agg #[.bool false,.slice none 0 0,.bool false,.slice none 0 0]) (af:=b4) (xs:=[]) (bH:=xs) (by simpa using bz.void _ _ _ _ _ _ _) (by simpa using aR) (fun u y h=>h.whole) (fun aC de u y ai h=>h.kept ai (by decide)) (by simp) (by simp) (by simp) (by simp) (by simp) (by rfl) (by rfl) (by rfl) (by decide) (by simp;omega) (by omega) ?_
  intro w H1 cL I ai
  simp[bj]
  exact aG _ _ ⟨I _ (Nat.le_refl _) (Ext.refl H),by simpa using cL⟩
def bN(t:List (List Rat))(i k:Nat):Rat:=(t[i]?.getD [])[k]?.getD 0
structure hC (fh H:ab) (gI n:Nat) (gZ gv f_:Value) (t:List (List Rat)) (bT:List Int) (c6:List Bool):Prop where
 pos:0<fh.length
 ext:Ext fh H
 gM:hl fh gZ t
 uR:t.length=n
 uL:∀r∈t,r.length=n
 small:n<65536
 xq:fh.length<=gI
 eL:H[gI]?=some (.own 92 false [gZ,gv,f_])
 nD:bz fh.length 3 1 false IR H gv bT
 seen:bz fh.length 4 1 false kU H f_ c6
theorem hC.more{fh H H1:ab}{gI n:Nat}{gZ gv f_:Value}{t:List (List Rat)}{bT:List Int}{c6:List Bool}(h:hC fh H gI n gZ gv f_ t bT c6)(I:Ext H H1):hC fh H1 gI n gZ gv f_ t bT c6:=
 ⟨h.pos,h.ext.aB I,h.gM,h.uR,h.uL,h.small,h.xq,I.get_some h.eL,bM.ext (af:=bz _ _ _ _ IR) h.nD I,bM.ext (af:=bz _ _ _ _ kU) h.seen I⟩
theorem hC.Xj{fh H aC:ab}{gI n:Nat}{gZ gv f_:Value}{t:List (List Rat)}{bT:List Int}{c6 cy:List Bool}(h:hC fh H gI n gZ gv f_ t bT c6)(I:∀cx:ab,cx.length<=fh.length->Ext cx H->Ext cx aC)(ai:Kept H aC f_ 4)(cL:bz fh.length 4 1 false kU aC f_ cy):hC fh aC gI n gZ gv f_ t bT cy:=
 ⟨h.pos,I _ (Nat.le_refl _) h.ext,h.gM,h.uR,h.uL,h.small,h.xq,ai _ _ h.eL (fun _=>by simp[bA.elem?]),h.nD.other ai (by decide) fun _ _ h=>h,cL⟩
theorem hC.Vm{fh H aC:ab}{gI n:Nat}{gZ gv f_:Value}{t:List (List Rat)}{bT g3:List Int}{c6:List Bool}(h:hC fh H gI n gZ gv f_ t bT c6)(I:∀cx:ab,cx.length<=fh.length->Ext cx H->Ext cx aC)(ai:Kept H aC gv 3)(cL:bz fh.length 3 1 false IR aC gv g3):hC fh aC gI n gZ gv f_ t g3 c6:=
 ⟨h.pos,I _ (Nat.le_refl _) h.ext,h.gM,h.uR,h.uL,h.small,h.xq,ai _ _ h.eL (fun _=>by simp[bA.elem?]),cL,h.seen.other ai (by decide) fun _ _ h=>h⟩
theorem xN{q:Rat}:((if q<0 then(-1:Int)else if q=0 then 0 else 1)<=0)↔q<=0:=by
 by_cases o:q<0
 ·simp[o,Rat.le_of_lt o]
 ·by_cases aa:q=0
  ·simp[aa]
  ·simp only[if_neg o,if_neg aa]
   constructor
   ·intro h;omega
   ·intro h;exact absurd (Std.lt_of_le_of_ne h aa) o
theorem find_spec(n:Nat):∀(fuel:Nat) {fh H:ab} {gI dD:Nat} {gZ gv f_:Value} {t:List (List Rat)} {bT:List Int} {c6:List Bool},oG c6<fuel->hC fh H gI n gZ gv f_ t bT c6->c6.length=n->pX n (bN t) bT->dD<n->
  a0 prog 46 [.pointer (some ⟨gI,0,none⟩),.int .i64 dD] H (fun u H1=>∃b g3 cy,u= .bool b/\pT n (bN t) bT c6 dD b g3 cy/\hC fh H1 gI n gZ gv f_ t g3 cy):=by
 intro fuel
 induction fuel with
 | zero=>intro fh H gI dD gZ gv f_ t bT c6 h;omega
 | succ fuel aV=>
  intro fh H gI dD gZ gv f_ t bT c6 adK bE lS gh rX
  refine a0.cq fun Q aG=>?_
  apply UK (by simp)
  have np:=bE.eL
  have bc:=bE.gM.ext bE.ext
  obtain⟨fW,yo,rfl⟩:=Row.len bE.gM
  obtain⟨dS,eV⟩:∃dS,t[0]?=some dS:=⟨_,bx (by have:=bE.uR;omega)⟩
  have qB:=bE.uL dS (List.mem_of_getElem? eV)
  have nw:=bE.small
  simp[G1,np]
  refine a7.mk (Ee bc eV) ?_
  rintro u H1 ⟨bI,rfl⟩
  rw[qB]
  have g8:=bE.more bI
  simp
  refine dy.range (by kernel_rfl) n (by omega) (by simp) (by rfl) (by simp) (by decide) (by decide) (fun i dG e7 bZ=>∃cy,jb n (bN t) bT c6 dD i cy/\hC fh bZ gI n (.slice fW t.length yo) gv f_ t bT cy) ?_ ?_ ?_
  ·exact⟨c6,jb.zero lS,g8⟩
  ·rintro i dG e7 bZ ad a2 ⟨cy,da,qg⟩ K a1
   simp at a2
   have Ja:=qg.eL
   have iQ:=qg.gM.ext qg.ext
   obtain⟨bi,lK⟩:∃bi,cy[i]?=some bi:=⟨_,bx (by rw[da.len];exact ad)⟩
   refine bV.join (by kernel_rfl) (fun fS hj b_=>∃cy,jb n (bN t) bT c6 dD (i+1) cy/\hC fh b_ gI n (.slice fW t.length yo) gv f_ t bT cy) ?_ ?_
   ·rintro dY iP IU
    simp[a2]
    refine bV.join (by kernel_rfl) (fun fS hj b_=>fS 35= .bool (bi || decide (bN t dD i<=0))/\hC fh b_ gI n (.slice fW t.length yo) gv f_ t bT cy) ?_ ?_
    ·rintro cT ee-
     simp[Ja]
     refine cK (af:=kU) (xs:=cy) (n:=i) (a:=bi) (e:=4) (J:=1) (ay:=false) (by simpa using qg.seen.row) (by simp) lK (by simp) (by simp) (by simp) (by decide) ?_
     rintro dp nK rfl
     cases bi with
     | true=>
      simp
      exact ee _ _ _ ⟨by simp,qg⟩
     | false=>
      obtain⟨row,db⟩:∃row,t[dD]?=some row:=⟨_,bx (by rw[bE.uR];exact rX)⟩
      obtain⟨q,av⟩:∃q,row[i]?=some q:=⟨_,bx (by rw[bE.uL row (List.mem_of_getElem? db)];exact ad)⟩
      have RB:bN t dD i=q:=by simp[bN,db,av]
      simp[Ja]
      refine mV (af:=iw) (xs:=t) (n:=dD) (a:=row) (e:=84) (J:=1) (ay:=false) (by simp) (by decide) (by simpa using iQ) (by simp) db (by simp) (by simp) (by simp) (by decide) ?_
      intro hd lq nz
      simp
      refine mV (af:=b4) (xs:=row) (n:=i) (a:=q) (e:=44) (J:=4) (ay:=true) (by simp) (by decide) (by simpa using nz) (by simp) av (by simp) (by simp) (by simp) (by decide) ?_
      intro eM pK kj
      simp
      refine a7.mk (Ez kj) ?_
      rintro w b_ ⟨c1,rfl⟩
      simp
      refine ee _ _ _ ⟨?_,qg.more c1⟩
      simp[RB,xN]
    ·rintro fS hj b_ ⟨IA,tw⟩
     simp at IA
     have Rh:=tw.eL
     simp[IA]
     refine bG.mk (fun ae=>?_) (fun ae=>?_)
     ·refine iP _ _ _ ⟨cy,da.skip ?_,tw⟩
      simp at ae
      rw[lK]
      rcases ae with ae | ae
      ·exact .inl (by simp[ae])
      ·exact .inr ae
     ·simp at ae
      have aT:0<bN t dD i:=Rat.not_le.1 ae.2
      have hQ:cy[i]?.getD false=false:=by rw[lK];simp[ae.1]
      simp[a2,Rh]
      refine ja (k:=fh.length) (e:=4) (J:=1) (ay:=false) (n:=i) (af:=kU) (xs:=cy) (a:=true) (by simpa using tw.seen) (by simp) (by rw[da.len];exact ad) (by simp[kU]) (by simpa using A8 true) (by simp) (fun _ _ _ _ _ h=>h) (by simp) (by simp) (by simp) (by decide) ?_
      rintro gK dX o1 cH tT R3-
      simp at o1 tT
      have vY:=tw.Xj cH tT o1
      have Jb:=vY.eL
      obtain⟨z,aP⟩:∃z,bT[i]?=some z:=⟨_,bx (by rw[gh.1];exact ad)⟩
      have xf:bT[i]?.getD 0=z:=by rw[aP];rfl
      have sh:=Z7 (i:=i) (by rw[da.len];exact ad) hQ
      have aeg:oG cy<=oG c6:=M8 (by rw[da.len,lS]) da.mono
      simp
      refine bV.join (by kernel_rfl) (fun kW ku cE=>∃b qO oC,kW 60= .bool b/\hC fh cE gI n (.slice fW t.length yo) gv f_ t qO oC/\qO.length=n/\(b=false->qO=bT/\jb n (bN t) bT c6 dD (i+1) oC)/\(b=true->pT n (bN t) bT c6 dD true (qO.set i (dD:Int)) oC)) ?_ ?_
      ·rintro m4 fN-
       simp[a2,Jb]
       refine cK (af:=IR) (xs:=bT) (n:=i) (a:=z) (e:=3) (J:=1) (ay:=false) (by simpa using vY.nD.row) (by simp) aP (by simp) (by simp) (by simp) (by decide) ?_
       rintro iI oE rfl
       by_cases xd:z<0
       ·simp[xd]
        refine fN _ _ _ ⟨true,bT,cy.set i true,by simp,vY,gh.1,fun h=>(by cases h),fun _=>da.free gh ad rX aT hQ (by rw[xf];exact xd)⟩
       ·obtain⟨j,aQ,DZ,-⟩:∃j:Nat,j<n/\z=j/\0<bN t j i:=by
         rcases gh.2 i ad with h | h
         ·rw[xf]at h;omega
         ·rw[xf]at h;exact h
        simp[xd,Jb]
        refine mV (af:=IR) (xs:=bT) (n:=i) (a:=z) (e:=3) (J:=1) (ay:=false) (by simp) (by decide) (by simpa using vY.nD.row) (by simp) aP (by simp) (by simp) (by simp) (by decide) ?_
        rintro mP oF rfl
        simp[DZ]
        refine a7.mk (aV (c6:=cy.set i true) (by omega) vY (by simp[da.len]) gh aQ) ?_
        rintro w eE ⟨b,qO,oC,rfl,bl,Cw⟩
        simp
        refine fN _ _ _ ⟨b,qO,oC,by simp,Cw,?_,?_,?_⟩
        ·cases b with
         | false=>rw[(bl.no rfl).1];exact gh.1
         | true=>exact(bl.yes rfl).1.1
        ·rintro rfl
         exact da.fail ad hQ aQ (by rw[xf,DZ]) bl
        ·rintro rfl
         exact da.Ef gh ad rX aT hQ (by rw[xf,DZ]) bl
      ·rintro kW ku cE ⟨b,qO,oC,IE,yV,fp,Re,qk⟩
       simp at IE
       have Ri:=yV.eL
       simp[IE]
       refine bG.mk (fun ae=>?_) (fun ae=>?_)
       ·simp[a2,Ri]
        refine ja (k:=fh.length) (e:=3) (J:=1) (ay:=false) (n:=i) (af:=IR) (xs:=qO) (a:=(dD:Int)) (by simpa using yV.nD) (by simp) (by rw[fp];exact ad) (by simp[IR]) (by simpa using kS dD) (by simp) (fun _ _ _ _ _ h=>h) (by simp) (by simp) (by simp) (by decide) ?_
        rintro qU eE fm c9 tU wJ-
        simp at fm tU
        have Cw:=yV.Vm c9 tU fm
        simp
        refine IU _ _ _ _ (by simp) ?_
        simp[bj]
        exact aG _ _ ⟨true,_,oC,rfl,qk ae,Cw⟩
       ·obtain⟨rfl,PY⟩:=Re ae
        exact iP _ _ _ ⟨oC,PY,yV⟩
   ·rintro fS hj b_ ⟨oC,IK,tw⟩
    exact a1 _ _ _ (by simp[a2]) ⟨oC,IK,tw⟩
  ·rintro dG e7 bZ a2 ⟨cy,da,qg⟩
   simp[bj]
   exact aG _ _ ⟨false,bT,cy,rfl,da.end,qg⟩
end Go.b9
end
