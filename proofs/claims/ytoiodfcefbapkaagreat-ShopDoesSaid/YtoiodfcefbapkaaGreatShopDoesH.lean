/- Part of the proof of ShopDoes. -/
import Derived.Test.YtoiodfcefbapkaaGreatShopDoesG
set_option linter.unusedVariables false
set_option linter.unusedSimpArgs false
section
namespace Go.dq
def hc(H:ab)(u w:Value):Prop:=u=w
instance:b7 hc:=⟨fun h _=>h⟩
def Grown(H:ab)(s v:Value):Prop:=∀b,inBlock v b->inBlock s b\/H.length<=b
section
variable {P:Program} {r:List bG} {F:Fr} {H:ab} {Q:Fr->ab->Prop} {α:Type}
theorem acv{eE:Bool}{d1 d2 t b1 cY e R bF k n:Nat}{s x:Operand}{z:Value}{cs:List Value}{ax:bb ((⟨eE,none,some d1,.buildSlice t 1 #[(0,x)]⟩:bG)::ap d2 b1 cY s (T d1)::r) Q}(cw:iq H k e R (aq F s) n cs)(fG:∀v,aq (a2 F d1 v) s=aq F s)
  (bM:P.underlying t=some (.slice e))(hu:P.underlying b1=some (.slice e))(J:fQ P cY=true)(ao:bA P e=some R)(ag:bytes? P e=some bF)(aM:dD P e=some z)(dS:flat z=true)(dd:z.cells.size=R)(cV:0<R)(rW:R<=1000)
  (dZ:0<bF)(bC:(n+1)*bF<=140737488355328)(an:(aq F x).cells.toList.length=R)(ht:((aq F x).cells.toList.all (·.oneCell'))=true)(ak:k<=H.length)
  (K:∀u au aF,iq aF k e R au (n+1) (cs++(aq F x).cells.toList)->(∀cE:ab,cE.length<=k->Ext cE H->Ext cE aF)->Kept H aF (aq F s) e->Grown H (aq F s) au->H.length<=aF.length->ba P r Q .mk (a2 (a2 F d1 u) d2 au) aF):
  ba P ((⟨eE,none,some d1,.buildSlice t 1 #[(0,x)]⟩:bG)::ap d2 b1 cY s (T d1)::r) Q ax F H:=by
 have eG:(made z (1*R)).length=R:=by rw[qK,Nat.one_mul]
 have aQ:jr (fun i=>some (i*R,R)) (made z (1*R)) [(0,aq F x)]=some (aq F x).cells.toList:=by
  simp only[jr]
  rw[if_pos ⟨an,by rw[eG];omega⟩]
  have:=Co (aq F x).cells.toList (made z (1*R)) [] (by rw[eG,an])
  simpa using this
 have aB:Instr.fill (fun i=>some (i*R,R)) (made z (1*R)).toArray ((#[(0,x)]:Array (Nat×Operand)).toList.map fun p=>(p.1,aq F p.2))=some (aq F x).cells:=by
  rw[fill_eq]
  simp only[List.map_cons,List.map_nil]
  rw[aQ]
  simp
 have av:∀U:Oper,U.op= .buildSlice t 1 #[(0,x)]->fm P (aq F) H U (.slice (some ⟨H.length,0,none⟩) 1 1) (H++[.own e false (aq F x).cells.toList]):=fun U fF=> .build (out:=(aq F x).cells) fF bM ao aM dS dd cV (by omega) (by omega) aB (by have:=an;simp at this;omega)
 refine jl rfl rfl rfl av (fun U aQ=>by simp[bW,aQ]) (.inr ((Ext.refl H).snoc _ _ _)) ?_
 show ba P (ap d2 b1 cY s (T d1)::r) Q .mk (a2 F d1 _) _
 have dk:Src (H++[.own e false (aq F x).cells.toList]) R (.slice (some ⟨H.length,0,none⟩) 1 1) 1 1 (aq F x).cells.toList:=by
  have:=Src.row (H:=H++[.own e false (aq F x).cells.toList]) (R:=R) (b:=H.length) (i:=0) (n:=1) (m:=1) (c:=1) (x:= .own e false (aq F x).cells.toList) (cs:=(aq F x).cells.toList) (by simp) rfl (by omega) (Nat.le_refl _) (by omega)
  rw[List.drop_zero,Nat.one_mul,<-an,List.take_length]at this
  rw[an]at this
  exact this
 have mH:iq (H++[.own e false (aq F x).cells.toList]) k e R (aq (a2 F d1 (.slice (some ⟨H.length,0,none⟩) 1 1)) s) n cs:=by
  rw[fG]
  exact cw.ext ((Ext.refl H).snoc _ _ _)
 refine G5 mH (by simpa[aq,T,a2]using dk) hu J ao ag aM dd dZ bC ht (by omega) (by simp;omega) fun au aF o aa aA bj bJ=>?_
 refine K _ au aF o (fun cE aH bu=>aa cE aH (bu.snoc _ _ _)) (fun b X aW ag=>aA b X ?_ (by rw[fG];exact ag)) (fun b ag=>?_) (by simp at bJ;omega)
 ·rw[List.getElem?_append_left (cJ.1 aW).1]
  exact aW
 ·have:=bj b ag
  rw[fG]at this
  simp at this
  rcases this with h | h
  ·exact .inl h
  ·exact .inr (by omega)
theorem G7{eE:Bool}{d1 d2 t b1 cY e R bF k:Nat}{ay:Bool}{s x:Operand}{z:Value}{ad:ab->Value->α->Prop}{xs:List α}{a:α}{ax:bb ((⟨eE,none,some d1,.buildSlice t 1 #[(0,x)]⟩:bG)::ap d2 b1 cY s (T d1)::r) Q}(cw:bH k e R ay ad H (aq F s) xs)(aL:ad H (aq F x) a)
  (hw:Whole P e (aq F x))(fG:∀v,aq (a2 F d1 v) s=aq F s)(hJ:∀aF dC u y,Kept H aF dC e->ad H u y->ad aF u y)
  (bM:P.underlying t=some (.slice e))(hu:P.underlying b1=some (.slice e))(J:fQ P cY=true)(ao:bA P e=some R)(ea:dr P e=some ay)(ag:bytes? P e=some bF)(aM:dD P e=some z)(dS:flat z=true)(dd:z.cells.size=R)(cV:0<R)(rW:R<=1000)
  (dZ:0<bF)(bC:(xs.length+1)*bF<=140737488355328)(ak:k<=H.length)
  (K:∀p au aF,bH k e R ay ad aF au (xs++[a])->(∀cE:ab,cE.length<=k->Ext cE H->Ext cE aF)->Kept H aF (aq F s) e->Grown H (aq F s) au->H.length<=aF.length->ba P r Q .mk (a2 (a2 F d1 p) d2 au) aF):
  ba P ((⟨eE,none,some d1,.buildSlice t 1 #[(0,x)]⟩:bG)::ap d2 b1 cY s (T d1)::r) Q ax F H:=by
 obtain⟨cs,iW,gI⟩:=cw
 have gd:=iW.1
 have lx:(aq F x).cells.size=R:=by have:=hw.1;rw[ao]at this;exact(Option.some.inj this).symm
 have o:ay=true\/R=1:=by
  cases ay with
  | true=>exact .inl rfl
  | false=>
   refine .inr ?_
   have cn:=hw.2.2
   cases av:eS (aq F x)with
   | true=>rw[av]at cn;simp at cn;rw[cn]at ea;cases ea
   | false=>rw[av]at cn;simp at cn;rw[<-lx,cn.2];rfl
 refine acv iW fG bM hu J ao ag aM dS dd cV rW dZ bC (by simp[lx]) hw.2.1 ak fun p au aF a0 a4 bI cj e8=>K p au aF ⟨_,by simpa using a0,fun i y aI=>?_⟩ a4 bI cj e8
 by_cases af:i<xs.length
 ·rw[List.getElem?_append_left af]at aI
  rw[sZ gd af o]
  exact hJ _ _ _ _ bI (gI i y aI)
 ·have fe:i=xs.length:=by
   have:=(cJ.1 aI).1
   simp at this
   omega
  subst fe
  rw[List.getElem?_append_right (Nat.le_refl _),Nat.sub_self]at aI
  simp at aI
  subst aI
  rw[DD gd hw ao ea]
  exact hJ _ _ _ _ bI aL
end
section
variable {α:Type} {P:Program} {e R k:Nat} {ay:Bool} {ad:ab->Value->α->Prop} {H aF:ab} {v s:Value} {xs:List α}
theorem Row.aar{cs:List Value}(lr:∀i x,xs[i]?=some x->ad H (eA ay R cs i) x)(ar:cs.length=xs.length*R)(kU:∀u y,ad H u y->Whole P e u)(ea:dr P e=some ay)(o:ay=true\/R=1):(cs.all (·.oneCell'))=true:=by
 rw[List.all_eq_true]
 intro u ny
 obtain⟨j,aY⟩:=List.getElem?_of_mem ny
 have gf:j<xs.length*R:=by have:=(cJ.1 aY).1;omega
 have cV:0<R:=by rcases Nat.eq_zero_or_pos R with q | q;·subst q;simp at gf
                 exact q
 have cK:j/R<xs.length:=Nat.div_lt_of_lt_mul (by rw[Nat.mul_comm];exact gf)
 have hw:=kU _ _ (lr _ _ (bz cK))
 have gg:u∈(eA ay R cs (j/R)).cells.toList:=by
  unfold eA
  cases ay with
  | true=>
   simp only[if_true,Value.cells,List.toList_toArray]
   have np:=Nat.div_add_mod j R
   have eG:=Nat.mod_lt j cV
   rw[Nat.mul_comm]at np
   refine List.mem_of_getElem? (i:=j % R) ?_
   rw[List.getElem?_take_of_lt eG,List.getElem?_drop,np]
   exact aY
  | false=>
   have fG:R=1:=by rcases o with h | h;cases h;exact h
   subst fG
   have nr:cs[j/1]?=some u:=by rw[Nat.div_one];exact aY
   simp only[eA,Bool.false_eq_true,if_false]at hw⊢
   rw[nr]at hw⊢
   simp only[Option.getD_some]at hw⊢
   have cn:=hw.2.2
   cases av:eS u with
   | false=>rw[av]at cn;simp at cn;rw[cn.2];simp
   | true=>
    rw[av]at cn
    simp at cn
    rw[cn]at ea
    cases ea
 exact List.all_eq_true.1 hw.2.1 u gg
theorem bH.beside{c5:Nat}(h:bH k e R ay ad H v xs)(pr:0<k)(ak:Kept H aF s c5)(cF:∀b,0<b->inBlock v b->¬inBlock s b)(br:∀u x,ad H u x->ad aF u x):bH k e R ay ad aF v xs:=by
 obtain⟨cs,⟨o,aa⟩,aA⟩:=h
 refine⟨cs,⟨o,?_⟩,fun i x af=>br _ _ (aA i x af)⟩
 rcases aa with aa | ⟨c,i,cap,l,all,a0,a4,bI,cj,e8,g9⟩
 ·exact .inl aa
 ·exact .inr ⟨c,i,cap,l,all,a0,a4,bI,cj,ak _ _ e8 fun ag=>absurd ag (cF c (by omega) ⟨i,_,cap,a0⟩),g9⟩
theorem bH.other{c5:Nat}(h:bH k e R ay ad H v xs)(ak:Kept H aF s c5)(cF:e≠c5)(br:∀u x,ad H u x->ad aF u x):bH k e R ay ad aF v xs:=by
 obtain⟨cs,⟨o,aa⟩,aA⟩:=h
 refine⟨cs,⟨o,?_⟩,fun i x af=>br _ _ (aA i x af)⟩
 rcases aa with aa | ⟨c,i,cap,l,all,a0,a4,bI,cj,e8,g9⟩
 ·exact .inl aa
 ·exact .inr ⟨c,i,cap,l,all,a0,a4,bI,cj,ak _ _ e8 fun _=>by simp[bO.elem?];exact cF,g9⟩
theorem bH.le{b_:Nat}(h:bH k e R ay ad H v xs)(ak:b_<=k):bH b_ e R ay ad H v xs:=by
 obtain⟨cs,⟨o,aa⟩,aA⟩:=h
 refine⟨cs,⟨o,?_⟩,aA⟩
 rcases aa with aa | ⟨c,i,cap,l,all,a0,a4,bI,cj,e8,g9⟩
 ·exact .inl aa
 ·exact .inr ⟨c,i,cap,l,all,a0,a4,bI,by omega,e8,g9⟩
theorem bH.ge(h:bH k e R ay ad H v xs){b:Nat}(ag:inBlock v b)(aH:0<b):k<=b/\b<H.length:=by
 obtain⟨cs,⟨o,aa⟩,aA⟩:=h
 obtain⟨j0,ec,dY,an⟩:=ag
 rcases aa with⟨-,aa | ⟨i,aa⟩⟩ | ⟨c,i,cap,l,all,a0,a4,bI,cj,e8,g9⟩
 ·rw[an]at aa;simp at aa
 ·rw[an]at aa;simp at aa;try omega
 ·rw[an]at a0;simp at a0
  have:=(cJ.1 e8).1
  omega
end
structure eC {α:Type} (k bp e R:Nat) (ay:Bool) (ad:ab->Value->α->Prop) (H:ab) (v:Value) (t:List (List α)) (us:List Value):Prop where
 pos:0<k
 own:bH k bp 1 false hc H v us
 len:us.length=t.length
 rows:∀(i:Nat) (row:List α) (u:Value),t[i]?=some row->us[i]?=some u->bH k e R ay ad H u row
 p_:∀(i j b:Nat) (u w:Value),us[i]?=some u->us[j]?=some w->0<b->inBlock u b->inBlock w b->i=j
section
variable {α:Type} {P:Program} {bp e R k:Nat} {ay:Bool} {ad:ab->Value->α->Prop} {H aF na:ab} {v s au:Value} {t:List (List α)} {us:List Value}
theorem eC.wg(h:eC k bp e R ay ad H v t us){i:Nat}{row:List α}(af:t[i]?=some row):∃u,us[i]?=some u/\bH k e R ay ad H u row:=by
 have cK:i<us.length:=by rw[h.len];exact(cJ.1 af).1
 exact⟨_,bz cK,h.rows i row _ af (bz cK)⟩
theorem eC.ext[b7 ad](h:eC k bp e R ay ad H v t us)(J:Ext H aF):eC k bp e R ay ad aF v t us:=
 ⟨h.pos,b7.ext (ad:=bH k bp 1 false hc) h.own J,h.len,fun i row u o aa=>b7.ext (ad:=bH k e R ay ad) (h.rows i row u o aa) J,h.p_⟩
theorem eC.row(h:eC k bp e R ay ad H v t us):Row bp 1 false (Row e R ay ad) H v t:=by
 obtain⟨cs,o,aa⟩:=h.own
 refine⟨cs,by rw[<-h.len];exact o.fh,fun i row af=>?_⟩
 obtain⟨u,hu,cw⟩:=h.wg af
 have:=aa i u hu
 rw[show eA false 1 cs i=u from this]
 exact cw.row
theorem eC.nil(k bp e R:Nat)(ay:Bool)(ad:ab->Value->α->Prop)(H:ab)(ak:0<k):eC k bp e R ay ad H (.slice none 0 0) [] []:=
 ⟨ak,bH.nil _ _ _ _ _ _,rfl,fun i row u h=>by simp at h,fun i j b u w h=>by simp at h⟩
theorem eC.Ol{n:Nat}(ak:0<k)(h:bH k bp 1 false hc H v (List.replicate n (.slice none 0 0))):eC k bp e R ay ad H v (List.replicate n ([]:List α)) (List.replicate n (.slice none 0 0)):=by
 refine⟨ak,h,by simp,fun i row u o aa=>?_,fun i j b u w o aa _ aA=>?_⟩
 ·rw[List.getElem?_replicate]at o aa
  split at o
  ·rw[if_pos ‹_›]at aa
   cases o;cases aa
   exact bH.nil _ _ _ _ _ _
  ·cases o
 ·rw[List.getElem?_replicate]at o
  split at o
  ·cases o
   obtain⟨j0,ec,dY,aA⟩:=aA
   simp at aA
  ·cases o
theorem eC.put{i:Nat}{u:Value}{nL:List α}(h:eC k bp e R ay ad H v t us)(hu:us[i]?=some u)(cF:e≠bp)(ak:Kept H aF u e)(aX:Grown H u au)(dL:bH k e R ay ad aF au nL)(eX:∀u x,ad H u x->ad aF u x)
  (cw:bH k bp 1 false hc na v (us.set i au))(oD:Kept aF na v bp)(hI:∀u x,ad aF u x->ad na u x):eC k bp e R ay ad na v (t.set i nL) (us.set i au):=by
 have cK:=(cJ.1 hu).1
 refine⟨h.pos,cw,by simp[h.len],fun j row w o aa=>?_,fun j ek b w gQ o aa aH aA bj=>?_⟩
 ·by_cases fE:i=j
  ·subst fE
   rw[List.getElem?_set_self cK]at aa
   rw[List.getElem?_set_self (by rw[<-h.len];exact cK)]at o
   cases o;cases aa
   exact dL.other oD cF hI
  ·rw[List.getElem?_set_ne fE]at o aa
   refine((h.rows j row w o aa).beside h.pos ak (fun b aH ag df=>fE (h.p_ i j b u w hu aa aH df ag)) eX).other oD cF hI
 ·have fresh:∀(j:Nat) (w:Value),us[j]?=some w->i≠j->inBlock w b->¬inBlock au b:=fun j w hw qo ag df=>by
   rcases aX b df with q | q
   ·exact qo (h.p_ i j b u w hu hw aH q ag)
   ·have vB:j<t.length:=by rw[<-h.len];exact(cJ.1 hw).1
    have:=(h.rows j _ w (bz vB) hw).ge ag aH
    omega
  by_cases fE:i=j
  ·subst fE
   rw[List.getElem?_set_self cK]at o
   cases o
   by_cases mN:i=ek
   ·exact mN
   ·rw[List.getElem?_set_ne mN]at aa
    exact absurd aA (fresh ek gQ aa mN bj)
  ·rw[List.getElem?_set_ne fE]at o
   by_cases mN:i=ek
   ·subst mN
    rw[List.getElem?_set_self cK]at aa
    cases aa
    exact absurd bj (fresh j w o fE aA)
   ·rw[List.getElem?_set_ne mN]at aa
    exact h.p_ j ek b w gQ o aa aH aA bj
theorem eC.inner{i:Nat}{u:Value}{nL:List α}(h:eC k bp e R ay ad H v t us)(hu:us[i]?=some u)(cF:e≠bp)(ak:Kept H aF u e)(dL:bH k e R ay ad aF u nL)(eX:∀u x,ad H u x->ad aF u x):eC k bp e R ay ad aF v (t.set i nL) us:=by
 have cK:=(cJ.1 hu).1
 refine⟨h.pos,h.own.other ak (Ne.symm cF) fun _ _ h=>h,by simp[h.len],fun j row w o aa=>?_,h.p_⟩
 by_cases fE:i=j
 ·subst fE
  rw[List.getElem?_set_self (by rw[<-h.len];exact cK)]at o
  rw[hu]at aa
  cases o;cases aa
  exact dL
 ·rw[List.getElem?_set_ne fE]at o
  exact(h.rows j row w o aa).beside h.pos ak (fun b aH ag df=>fE (h.p_ i j b u w hu aa aH df ag)) eX
theorem eC.aaL{i jF:Nat}{nL:List α}(h:eC k bp e R ay ad H v t us)(cK:i<t.length)(aJ:∀b,0<b->inBlock au b->jF<=b)(aZ:∀(j:Nat) (w:Value) (b:Nat),us[j]?=some w->inBlock w b->0<b->b<jF)(cF:e≠bp)(dL:bH k e R ay ad H au nL)
  (cw:bH k bp 1 false hc na v (us.set i au))(oD:Kept H na v bp)(hI:∀u x,ad H u x->ad na u x):eC k bp e R ay ad na v (t.set i nL) (us.set i au):=by
 have EV:i<us.length:=by rw[h.len];exact cK
 refine⟨h.pos,cw,by simp[h.len],fun j row w o aa=>?_,fun j ek b w gQ o aa aH aA bj=>?_⟩
 ·by_cases fE:i=j
  ·subst fE
   rw[List.getElem?_set_self EV]at aa
   rw[List.getElem?_set_self cK]at o
   cases o;cases aa
   exact dL.other oD cF hI
  ·rw[List.getElem?_set_ne fE]at o aa
   exact(h.rows j row w o aa).other oD cF hI
 ·by_cases fE:i=j
  ·subst fE
   rw[List.getElem?_set_self EV]at o
   cases o
   by_cases mN:i=ek
   ·exact mN
   ·rw[List.getElem?_set_ne mN]at aa
    have:=aZ _ _ _ aa bj aH
    have:=aJ _ aH aA
    omega
  ·rw[List.getElem?_set_ne fE]at o
   by_cases mN:i=ek
   ·subst mN
    rw[List.getElem?_set_self EV]at aa
    cases aa
    have:=aZ _ _ _ o aA aH
    have:=aJ _ aH bj
    omega
   ·rw[List.getElem?_set_ne mN]at aa
    exact h.p_ j ek b w gQ o aa aH aA bj
theorem eC.snoc{nL:List α}{v2:Value}{cE:ab}{jF:Nat}(h:eC k bp e R ay ad H v t us)(aJ:∀b,0<b->inBlock au b->jF<=b)(aZ:∀(j:Nat) (w:Value) (b:Nat),us[j]?=some w->inBlock w b->0<b->b<jF)(cF:e≠bp)(dL:bH k e R ay ad H au nL)
  (cw:bH k bp 1 false hc na v2 (us++[au]))(oD:Kept H na v bp)(hI:∀u x,ad H u x->ad na u x):eC k bp e R ay ad na v2 (t++[nL]) (us++[au]):=by
 refine⟨h.pos,cw,by simp[h.len],fun j row w o aa=>?_,fun j ek b w gQ o aa aH aA bj=>?_⟩
 ·by_cases fE:j<t.length
  ·rw[List.getElem?_append_left fE]at o
   rw[List.getElem?_append_left (by rw[h.len];exact fE)]at aa
   exact(h.rows j row w o aa).other oD cF hI
  ·rw[List.getElem?_append_right (by omega)]at o
   rw[List.getElem?_append_right (by rw[h.len];omega)]at aa
   have vz:j-t.length=0:=by
    have:=(cJ.1 o).1
    simp at this;omega
   rw[vz]at o
   rw[h.len,vz]at aa
   simp at o aa
   subst o;subst aa
   exact dL.other oD cF hI
 ·have aY:∀(j:Nat) (w:Value),(us++[au])[j]?=some w->inBlock w b->(us[j]?=some w/\b<jF)\/(j=us.length/\jF<=b):=fun j w hw ag=>by
   by_cases fE:j<us.length
   ·rw[List.getElem?_append_left fE]at hw
    exact .inl ⟨hw,aZ _ _ _ hw ag aH⟩
   ·rw[List.getElem?_append_right (by omega)]at hw
    have vz:j-us.length=0:=by
     have:=(cJ.1 hw).1
     simp at this;omega
    rw[vz]at hw
    simp at hw
    subst hw
    exact .inr ⟨by omega,aJ b aH ag⟩
  rcases aY j w o aA with⟨a0,a4⟩ | ⟨a0,a4⟩
  ·rcases aY ek gQ aa bj with⟨bI,cj⟩ | ⟨bI,cj⟩
   ·exact h.p_ j ek b w gQ a0 bI aH aA bj
   ·omega
  ·rcases aY ek gQ aa bj with⟨bI,cj⟩ | ⟨bI,cj⟩
   ·omega
   ·omega
theorem eC.lt(h:eC k bp e R ay ad H v t us)(j:Nat)(w:Value)(b:Nat)(hw:us[j]?=some w)(ag:inBlock w b)(aH:0<b):b<H.length:=by
 have vB:j<t.length:=by rw[<-h.len];exact(cJ.1 hw).1
 exact((h.rows j _ w (bz vB) hw).ge ag aH).2
end
def C7(R:Nat)(u:Value)(n j m:Nat)(v:Value):Prop:=(∃b U cap c,u= .slice (some ⟨b,U,none⟩) n cap/\v= .slice (some ⟨b,U+j*R,none⟩) m c)\/(m=0/\∃a c,v= .slice a 0 c)
theorem bH.sub{α:Type}{k e R:Nat}{ay:Bool}{ad:ab->Value->α->Prop}{H:ab}{v:Value}{xs:List α}(h:bH k e R ay ad H v xs):C7 R v xs.length 0 xs.length v:=by
 obtain⟨cs,⟨o,aa⟩,aA⟩:=h
 rcases aa with⟨aH,aa | ⟨i,aa⟩⟩ | ⟨c,i,cap,l,all,a0,a4,bI,cj,e8,g9⟩
 ·exact .inr ⟨aH,_,_,aa⟩
 ·exact .inr ⟨aH,_,_,aa⟩
 ·exact .inl ⟨c,i,cap,cap,a0,by simpa using a0⟩
section
variable {P:Program} {r:List bG} {F:Fr} {H:ab} {Q:Fr->ab->Prop} {α:Type}
theorem CE{eE:Bool}{d t e R l h k:Nat}{ay:Bool}{x:Operand}{bc af:Option Operand}{ad:ab->Value->α->Prop}{xs:List α}{ax:bb ((⟨eE,none,some d,.slice t x bc af none⟩:bG)::r) Q}(cw:bH k e R ay ad H (aq F x) xs)(hu:P.underlying t=some (.slice e))(ao:bA P e=some R)(o:ay=true\/R=1)
  (ar:dN (aq F) bc=some l)(cO:eY (aq F) xs.length af=some h)(xZ:l<=h)(xS:h<=xs.length)(K:∀au,Row e R ay ad H au ((xs.drop l).take (h-l))->C7 R (aq F x) xs.length l (h-l) au->ba P r Q .mk (a2 F d au) H):ba P ((⟨eE,none,some d,.slice t x bc af none⟩:bG)::r) Q ax F H:=by
 by_cases aH:h-l=0
 ·refine qY cw.row hu ao o ar cO xZ xS fun au dR=>K au dR (.inr ⟨aH,?_⟩)
  obtain⟨a,c,an⟩:=dR.len
  rw[aH]at an
  exact⟨a,c,by simpa using an⟩
 ·have mH:=cw
  obtain⟨cs,⟨K4,aa⟩,aA⟩:=mH
  rcases aa with⟨qc,-⟩ | ⟨b,i,cap,vU,all,a0,a4,bI,cj,e8,g9,Cc⟩
  ·omega
  ·refine PX (b:=b) (i:=i) (len:=xs.length) (cap:=cap) (l:=l) (h:=h) a0 e8 rfl hu ao ar cO xZ (by omega) (by omega) ?_
   refine K _ ?_ (.inl ⟨b,i,cap,cap-l,a0,rfl⟩)
   refine⟨(cs.drop (l*R)).take ((h-l)*R),⟨_,_,by rw[List.length_take,List.length_drop,Nat.min_eq_left (by omega)],by rw[List.length_take,List.length_drop];omega,?_,fun _=>⟨b,i+l*R,_,all,rfl,e8,rfl,rfl,?_,?_⟩⟩,fun j y aI=>?_⟩
   ·have bk:(h-l)*R+l*R=h*R:=by rw[<-Nat.add_mul];congr 1;omega
    have bp:h*R<=xs.length*R:=Nat.mul_le_mul_right _ xS
    have e0:((xs.drop l).take (h-l)).length=h-l:=by simp;omega
    rw[e0]
    simp
    omega
   ·have bk:(cap-l)*R+l*R=cap*R:=by rw[<-Nat.add_mul];congr 1;omega
    have e0:((xs.drop l).take (h-l)).length=h-l:=by simp;omega
    rw[e0]
    have bp:(h-l)*R<=(cap-l)*R:=Nat.mul_le_mul_right _ (by omega)
    omega
   ·have bk:(h-l)*R+l*R=h*R:=by rw[<-Nat.add_mul];congr 1;omega
    have bp:h*R<=xs.length*R:=Nat.mul_le_mul_right _ xS
    have e0:((xs.drop l).take (h-l)).length=h-l:=by simp;omega
    rw[e0,Cc,List.drop_take,List.drop_drop,List.take_take,Nat.min_eq_left (by omega)]
   ·have cK:j<h-l:=by
     have:=(cJ.1 aI).1
     simp at this
     omega
    rw[List.getElem?_take_of_lt cK,List.getElem?_drop]at aI
    have:=aA _ _ aI
    have bk:eA ay R ((cs.drop (l*R)).take ((h-l)*R)) j=eA ay R cs (l+j):=by
     have hle:(j+1)*R<=(h-l)*R:=Nat.mul_le_mul_right _ cK
     rw[Nat.succ_mul]at hle
     unfold eA
     cases ay with
     | true=>
      simp only[if_true]
      rw[List.drop_take,List.drop_drop,List.take_take,Nat.min_eq_left (by omega),<-Nat.add_mul]
     | false=>
      have fG:R=1:=by rcases o with h | h;cases h;exact h
      subst fG
      simp only[Bool.false_eq_true,if_false,Nat.mul_one]
      rw[List.getElem?_take_of_lt cK,List.getElem?_drop]
    rw[bk]
    exact this
theorem ss{d ik b1 e R k j m:Nat}{ay:Bool}{x y:Operand}{u:Value}{ad:ab->Value->α->Prop}{xs bS:List α}{ax:bb (cp d ik b1 x y::r) Q}(cw:bH k e R ay ad H u xs)(aD:C7 R u xs.length j m (aq F x))(aiR:j+m<=xs.length)(lr:Row e R ay ad H (aq F y) bS)
  (kU:∀u y,ad H u y->Whole P e u)(hJ:∀aF dC u y,Kept H aF dC e->ad H u y->ad aF u y)(hu:P.underlying ik=some (.slice e))(ao:bA P e=some R)(ea:dr P e=some ay)(o:ay=true\/R=1)(cV:0<R)
  (K:∀aF,bH k e R ay ad aF u (xs.take j++bS.take m++xs.drop (j+(bS.take m).length))->(∀cE:ab,cE.length<=k->Ext cE H->Ext cE aF)->Kept H aF u e->aF.length=H.length->(∀c,c<k->aF[c]?=H[c]?)->ba P r Q .mk (a2 F d (.int .i64 ((bS.take m).length:Int))) aF):ba P (cp d ik b1 x y::r) Q ax F H:=by
 have a_:∀U:Oper,U.op= .call {callee:= .builtin .copy,args:= #[x,y],argTypes:= #[ik,b1]}->bW P U=false:=fun U aQ=>by simp[bW,aQ]
 have aJ:cb P (aq F) H (.call {callee:= .builtin .copy,args:= #[x,y],argTypes:= #[ik,b1]})=none:=rfl
 by_cases aH:(bS.take m).length=0
 ·have kd:min bS.length m=0:=by simpa[Nat.min_comm]using aH
  obtain⟨ag9,e7,tL⟩:=lr.len
  obtain⟨ag8,ahP,jd⟩:∃a c,aq F x= .slice a m c:=by
   rcases aD with⟨b,U,cap,c,-,h⟩ | ⟨rfl,a,c,h⟩
   ·exact⟨_,_,h⟩
   ·exact⟨_,_,h⟩
  refine jl (v:= .int .i64 0) (H1:=H) rfl rfl aJ (fun U aQ=> .w0 aQ hu ao (by rw[tL];exact .wA) kd jd) a_ (.inl rfl) ?_
  have he:bS.take m=[]:=List.eq_nil_of_length_eq_zero aH
  have:=K H (by rw[he];simpa using cw) (fun _ _ h=>h) (fun b X h _=>h) rfl (fun _ _=>rfl)
  rw[aH]at this
  exact this
 ·have mH:=cw
  obtain⟨cs,⟨ar,aa⟩,aA⟩:=mH
  obtain⟨aK,AL,xz⟩:=lr
  have kd:0<m:=by rcases Nat.eq_zero_or_pos m with q | q;·subst q;simp at aH
                  exact q
  obtain⟨b,U,cap,c,hL,kW⟩:∃b U cap c,u= .slice (some ⟨b,U,none⟩) xs.length cap/\aq F x= .slice (some ⟨b,U+j*R,none⟩) m c:=by
   rcases aD with h | ⟨q,-⟩
   ·exact h
   ·omega
  rcases aa with⟨qc,-⟩ | ⟨cy,kF,dJ,vU,all,a0,a4,bI,cj,e8,g9,Cc⟩
  ·omega
  rw[hL]at a0
  simp at a0
  obtain⟨⟨rfl,rfl⟩,rfl⟩:=a0
  obtain⟨n,tp⟩:∃n,n=(bS.take m).length:=⟨_,rfl⟩
  have E8:n=min bS.length m:=by rw[tp];simp[Nat.min_comm]
  have iY:aK.length=bS.length*R:=by obtain⟨_,_,_,_,h,_⟩:=AL;exact h
  have dk:Src H R (aq F y) bS.length n (aK.take (n*R)):=ey.src AL (by omega)
  have Bc:n*R<=bS.length*R:=Nat.mul_le_mul_right _ (by omega)
  have oF:(aK.take (n*R)).length=n*R:=by simp;omega
  have x7:((aK.take (n*R)).all (·.oneCell'))=true:=by
   have:=Row.aar (P:=P) xz iY kU ea o
   rw[List.all_eq_true]at this⊢
   exact fun u hu=>this u (List.mem_of_mem_take hu)
  have bk:(j+n)*R=j*R+n*R:=Nat.add_mul _ _ _
  have bp:(j+n)*R<=xs.length*R:=Nat.mul_le_mul_right _ (by omega)
  have e0:xs.length*R<=cap*R:=Nat.mul_le_mul_right _ bI
  have bC:U+j*R+(aK.take (n*R)).length<=all.length:=by omega
  refine jl (v:= .int .i64 n) (H1:=H.set b (.own e vU (dp all (U+j*R) (aK.take (n*R))))) rfl rfl aJ (fun U aQ=> .copy aQ hu ao dk E8 (by omega) e8 bC x7 kW) a_ (.inl rfl) ?_
  have g2:=(cJ.1 e8).1
  have vD:Kept H (H.set b (.own e vU (dp all (U+j*R) (aK.take (n*R))))) u e:=fun cy X aW df=>by
   have:b≠cy:=fun c5=>by
    subst c5
    rw[e8]at aW
    exact df ⟨U,_,cap,hL⟩ (by rw[<-Option.some.inj aW];rfl)
   rw[List.getElem?_set_ne this];exact aW
  have hlen:(xs.take j++bS.take m++xs.drop (j+(bS.take m).length)).length=xs.length:=by
   simp only[List.length_append,List.length_take,List.length_drop]
   omega
  have U_:(cs.take (j*R)++aK.take (n*R)++cs.drop (j*R+n*R))=dp cs (j*R) (aK.take (n*R)):=by
   unfold dp;rw[oF]
  have:=K (H.set b (.own e vU (dp all (U+j*R) (aK.take (n*R))))) ⟨dp cs (j*R) (aK.take (n*R)),⟨by rw[nN (by omega),ar,hlen],.inr ⟨b,U,cap,vU,_,by rw[hlen];exact hL,a4,by rw[hlen];exact bI,cj,List.getElem?_set_self g2,by rw[nN bC];exact g9,?_⟩⟩,fun i y aI=>?_⟩
   (fun cE aH J=>J.set (by omega) (by simp)) vD (by simp) (fun c ae=>List.getElem?_set_ne (by omega))
  ·rw[<-tp]at this;exact this
  ·rw[hlen,Cc]
   have oB:j*R+(aK.take (n*R)).length<=((all.drop U).take (xs.length*R)).length:=by simp;omega
   apply List.ext_getElem?
   intro i
   by_cases af:i<xs.length*R
   ·rw[List.getElem?_take_of_lt af,List.getElem?_drop,sk bC,sk oB,List.getElem?_take_of_lt af,List.getElem?_drop]
    by_cases ae:j*R<=i/\i<j*R+(aK.take (n*R)).length
    ·rw[if_pos ae,if_pos ⟨by omega,by omega⟩]
     congr 1
     omega
    ·rw[if_neg ae,if_neg (by omega)]
   ·rw[List.getElem?_eq_none (by rw[nN oB];simp;omega),List.getElem?_eq_none (by simp;omega)]
  ·
   have hI:∀u x,ad H u x->ad (H.set b (.own e vU (dp all (U+j*R) (aK.take (n*R))))) u x:=fun u x h=>hJ _ _ _ _ vD h
   rw[<-U_]
   have bM:(cs.take (j*R)).length=j*R:=by simp;omega
   by_cases jx:i<j
   ·rw[List.append_assoc,List.getElem?_append_left (by simp;omega),List.getElem?_take_of_lt jx]at aI
    rw[List.append_assoc,sZ bM jx o]
    have:eA ay R (cs.take (j*R)) i=eA ay R cs i:=by
     have:=sZ (ay:=ay) (i:=i) (aK:=cs.drop (j*R)) bM jx o
     rw[List.take_append_drop]at this
     exact this.symm
    rw[this]
    exact hI _ _ (aA _ _ aI)
   ·by_cases ix:i<j+n
    ·rw[List.append_assoc,List.getElem?_append_right (by simp;omega),List.getElem?_append_left (by simp;omega)]at aI
     have gf:(xs.take j).length=j:=by simp;omega
     rw[gf,List.getElem?_take_of_lt (by omega)]at aI
     rw[List.append_assoc,Ae bM (by omega) o,sZ oF (by omega) o]
     have:eA ay R (aK.take (n*R)) (i-j)=eA ay R aK (i-j):=by
      have:=sZ (ay:=ay) (i:=i-j) (aK:=aK.drop (n*R)) oF (by omega) o
      rw[List.take_append_drop]at this
      exact this.symm
     rw[this]
     exact hI _ _ (xz _ _ aI)
    ·rw[List.getElem?_append_right (by simp;omega)]at aI
     have iM:(xs.take j++bS.take m).length=j+n:=by simp;omega
     rw[iM,<-tp,List.getElem?_drop,show j+n+(i-(j+n))=i by omega]at aI
     have mQ:(cs.take (j*R)++aK.take (n*R)).length=(j+n)*R:=by rw[List.length_append,bM,oF,bk]
     rw[Ae mQ (by omega) o]
     have:eA ay R (cs.drop (j*R+n*R)) (i-(j+n))=eA ay R cs i:=by
      have bj:(cs.take ((j+n)*R)).length=(j+n)*R:=by simp;omega
      have:=Ae (ay:=ay) (i:=i) (aK:=cs.drop ((j+n)*R)) bj (by omega) o
      rw[List.take_append_drop,bk]at this
      exact this.symm
     rw[this]
     exact hI _ _ (aA _ _ aI)
end
def fb{α:Type}(P:Program)(e:Nat)(ad:ab->Value->α->Prop)(H:ab)(u:Value):Option α->Prop
 | some a=>ad H u a
 | none=>Whole P e u
section
variable {α:Type} {P:Program} {e R k:Nat} {ay:Bool} {ad:ab->Value->α->Prop} {H:ab} {v:Value} {xs:List α}
instance[b7 ad]:b7 (fb P e ad):=⟨fun{H H1 u U} h J=>by
 cases U with
 | none=>exact h
 | some a=>exact b7.ext (ad:=ad) h J⟩
theorem fb.j1(br:∀u y,ad H u y->Whole P e u):∀u y,fb P e ad H u y->Whole P e u
 | u,none,h=>h
 | u,some a,h=>br u a h
theorem fb.kept{c5:Nat}(br:∀aF dC u y,Kept H aF dC c5->ad H u y->ad aF u y):∀aF dC u y,Kept H aF dC c5->fb P e ad H u y->fb P e ad aF u y
 | aF,dC,u,none,_,h=>h
 | aF,dC,u,some a,ak,h=>br aF dC u a ak h
theorem Row.opt(h:Row e R ay ad H v xs):Row e R ay (fb P e ad) H v (xs.map some):=by
 obtain⟨cs,o,aa⟩:=h
 refine⟨cs,by simpa using o,fun i x af=>?_⟩
 rw[List.getElem?_map,Option.map_eq_some_iff]at af
 obtain⟨y,aI,rfl⟩:=af
 exact aa i y aI
theorem bH.Hd(h:bH k e R ay (fb P e ad) H v (xs.map some)):bH k e R ay ad H v xs:=by
 obtain⟨cs,o,aa⟩:=h
 refine⟨cs,by simpa using o,fun i x af=>?_⟩
 exact aa i (some x) (by simp[af])
theorem GF{α:Type}(a:α){n N:Nat}(aH:n<=N):(List.replicate n (some a)++List.replicate (N-n) (none:Option α)).take n++(List.replicate n (some a)).take (N-n)++(List.replicate n (some a)++List.replicate (N-n) (none:Option α)).drop (n+((List.replicate n (some a)).take (N-n)).length)=List.replicate (n+min (N-n) n) (some a)++List.replicate (N-(n+min (N-n) n)) none:=by
 rw[List.take_replicate,List.take_append,List.take_replicate]
 simp only[List.length_replicate,Nat.sub_self,List.take_zero,List.append_nil,Nat.min_self]
 rw[List.replicate_append_replicate]
 congr 1
 rw[List.drop_append,List.drop_eq_nil_of_le (by simp),List.nil_append]
 simp only[List.length_replicate,List.drop_replicate]
 congr 1
 omega
theorem GD{α:Type}(a:α)(N:Nat):(List.replicate N (none:Option α)).take 0++([some a]:List (Option α)).take N++(List.replicate N (none:Option α)).drop (0+(([some a]:List (Option α)).take N).length)=List.replicate (min N 1) (some a)++List.replicate (N-min N 1) none:=by
 rcases N with _ | N
 ·simp
 ·have:min (N+1) 1=1:=by omega
  rw[this]
  simp
theorem GC{α:Type}(a:α){n N:Nat}(aH:n<=N)(o:¬n<N):List.replicate n (some a)++List.replicate (N-n) (none:Option α)=(List.replicate N a).map some:=by
 have:n=N:=by omega
 subst this
 simp
end
section
variable {P:Program} {r:List bG} {F:Fr} {H:ab} {Q:Fr->ab->Prop} {α:Type}
theorem zl{eE:Bool}{d t e R:Nat}{ay:Bool}{x:Operand}{z:Value}{ad:ab->Value->α->Prop}{a:α}{ax:bb ((⟨eE,none,some d,.buildSlice t 1 #[(0,x)]⟩:bG)::r) Q}(aL:∀aF,Ext H aF->ad aF (aq F x) a)(hw:Whole P e (aq F x))
  (bM:P.underlying t=some (.slice e))(ao:bA P e=some R)(ea:dr P e=some ay)(aM:dD P e=some z)(dS:flat z=true)(dd:z.cells.size=R)(cV:0<R)(rW:R<=1000)
  (K:∀v aF,bH H.length e R ay ad aF v [a]->Ext H aF->ba P r Q .mk (a2 F d v) aF):ba P ((⟨eE,none,some d,.buildSlice t 1 #[(0,x)]⟩:bG)::r) Q ax F H:=by
 have eG:(made z (1*R)).length=R:=by rw[qK,Nat.one_mul]
 have lx:(aq F x).cells.size=R:=by have:=hw.1;rw[ao]at this;exact(Option.some.inj this).symm
 have an:(aq F x).cells.toList.length=R:=by simp[lx]
 have aQ:jr (fun i=>some (i*R,R)) (made z (1*R)) [(0,aq F x)]=some (aq F x).cells.toList:=by
  simp only[jr]
  rw[if_pos ⟨an,by rw[eG];omega⟩]
  have:=Co (aq F x).cells.toList (made z (1*R)) [] (by rw[eG,an])
  simpa using this
 have aB:Instr.fill (fun i=>some (i*R,R)) (made z (1*R)).toArray ((#[(0,x)]:Array (Nat×Operand)).toList.map fun p=>(p.1,aq F p.2))=some (aq F x).cells:=by
  rw[fill_eq]
  simp only[List.map_cons,List.map_nil]
  rw[aQ]
  simp
 have av:∀U:Oper,U.op= .buildSlice t 1 #[(0,x)]->fm P (aq F) H U (.slice (some ⟨H.length,0,none⟩) 1 1) (H++[.own e false (aq F x).cells.toList]):=fun U fF=> .build (out:=(aq F x).cells) fF bM ao aM dS dd cV (by omega) (by omega) aB (by have:=an;simp at this;omega)
 have J:Ext H (H++[.own e false (aq F x).cells.toList]):=(Ext.refl H).snoc _ _ _
 refine jl rfl rfl rfl av (fun U aQ=>by simp[bW,aQ]) (.inr J) (K _ _ ⟨(aq F x).cells.toList,⟨by simp[lx],.inr ⟨H.length,0,1,false,(aq F x).cells.toList,rfl,by omega,Nat.le_refl _,Nat.le_refl _,by simp,by simp[lx],?_⟩⟩,fun i y af=>?_⟩ J)
 ·rw[List.drop_zero,List.length_singleton,Nat.one_mul,<-an,List.take_length]
 ·have AW:i=0:=by have:=(cJ.1 af).1;simp at this;exact this
  subst AW
  simp at af
  subst af
  have:=DD (n:=0) (cs:=[]) (by simp) hw ao ea
  rw[List.nil_append]at this
  rw[this]
  exact aL _ J
end
section
variable {P:Program} {r:List bG} {F:Fr} {H:ab} {Q:Fr->ab->Prop} {α:Type}
theorem zm{d t e R bF n:Nat}{ay:Bool}{x y:Operand}{eK cX:IntKind}{z:Value}{ad:ab->Value->α->Prop}{a:α}{ax:bb (ms d t x y::r) Q}(hu:P.underlying t=some (.slice e))(ao:bA P e=some R)(ag:bytes? P e=some bF)(aM:dD P e=some z)(dS:flat z=true)
  (ea:dr P e=some ay)(hw:Whole P e z)(J:aq F x= .int eK (n:Int))(aI:aq F y= .int cX (n:Int))(cV:0<R)(dZ:0<bF)(bC:bF*n<=281474976710656)(br:∀aF,ad aF z a)
  (K:∀ef ez aF,bH H.length e R ay ad aF (.slice ef n ez) (List.replicate n a)->Ext H aF->ba P r Q .mk (a2 F d (.slice ef n ez)) aF):ba P (ms d t x y::r) Q ax F H:=
 su hu ao ag aM dS ea hw J aI cV dZ bC br fun v aF cw pz ae=>by
  have ar:=cw.len
  rw[List.length_replicate]at ar
  obtain⟨ef,ez,rfl⟩:=ar
  exact K ef ez aF cw pz
end
end Go.dq
end
section
set_option maxRecDepth 8000
set_option maxHeartbeats 1000000
namespace Go.dq
open Go.Proofs
open Go.Proofs.Tryz (prog)
attribute [-simp] il jk k3
def zU(a b:Int):Int:=IntKind.u64.wrap ((BitVec.ofInt 64 a&&&BitVec.ofInt 64 b).toNat:Int)
@[simp high] theorem ajY(P:Program)(t:Nat)(a b:Int):eh P .and t (.int .u64 a) (.int .u64 b)=some (.int .u64 (zU a b)):=abt
theorem JQ{x:Nat}(J:x<4294967296):zU (x:Int) 4294967295=(x:Int):=by
 unfold zU
 have o:((BitVec.ofInt 64 (x:Int))&&&(BitVec.ofInt 64 4294967295)).toNat=x:=by
  have e:(4294967295:Int)=((4294967295:Nat):Int):=rfl
  rw[e,BitVec.ofInt_natCast,BitVec.ofInt_natCast,BitVec.toNat_and,BitVec.toNat_ofNat,BitVec.toNat_ofNat,Nat.mod_eq_of_lt (by omega),Nat.mod_eq_of_lt (by omega)]
  have:=Nat.and_two_pow_sub_one_eq_mod x 32
  rw[show(4294967295:Nat)=2^32-1 from rfl,this]
  omega
 rw[o]
 exact gv (by omega) (by omega)
theorem GL{x:Nat}(J:x<4294967296):Int.fdiv (x:Int) 4294967296=0:=by
 rw[Int.fdiv_eq_ediv_of_nonneg _ (by decide)]
 omega
theorem aag{a b:Nat}{H:ab}(aL:a<65536)(ag:b<65536):aO prog 112 [.int .u64 a,.int .u64 b] H (fun u H1=>H1=H/\u= .tuple #[.int .u64 0,.int .u64 (a*b:Nat)]):=by
 refine aO.b9 fun Q aC=>?_
 apply Yc (by simp)
 obtain⟨p,aU⟩:∃p,p=a*b:=⟨_,rfl⟩
 have iN:p<4294967296:=by
  have:=Nat.mul_lt_mul'' aL ag
  omega
 have Wj:(a:Int)*(b:Int)=(p:Int):=by rw[aU];simp
 have ei:IntKind.wrap .u64 0=0:=by decide
 have wp:IntKind.wrap .u64 (p:Int)=p:=gv (by omega) (by omega)
 have ef:=JQ (show a<4294967296 by omega)
 have eE:=JQ (show b<4294967296 by omega)
 have ago:Int.fdiv 0 4294967296=0:=by decide
 have Hv:zU 0 4294967295=0:=by decide
 simp[IT,ef,eE,GL (show a<4294967296 by omega),GL (show b<4294967296 by omega),Wj,wp,ei,GL iN,ago,Hv,bd]
 exact aC _ _ ⟨rfl,by simp[aU]⟩
theorem Ge{a b:Nat}{H:ab}(aL:a<65536)(ag:b<65536):aO prog 89 [.int .u64 a,.int .u64 b] H (fun u H1=>H1=H/\u= .tuple #[.int .u64 0,.int .u64 (a*b:Nat)]):=by
 refine aO.b9 fun Q aC=>?_
 apply Yb (by simp)
 simp[IS]
 refine aT.mk (aag aL ag) ?_
 rintro u H1 ⟨rfl,rfl⟩
 simp[bd]
 exact aC _ _ ⟨rfl,by simp⟩
theorem Hb{n:Nat}(h:n<65536):IntKind.u64.wrap (n:Int)=n:=gv (by omega) (by omega)
theorem vS{n:Nat}(h:n<65536):IntKind.i64.wrap (n:Int)=n:=b8 (by omega) (by omega)
theorem aa6{α:Type}{ad:ab->Value->α->Prop}[b7 ad]{v:Value}{a:α}{n:Nat}{H:ab}(aW:Row 3 1 false ad H v [a])(aJ:n<65536)
  (kU:∀H u y,ad H u y->Whole prog 3 u)(hJ:∀H aF dC u y,Kept H aF dC 3->ad H u y->ad aF u y):
  aO prog 60 [v,.int .i64 n] H (fun u H1=>Ext H H1/\bH H.length 3 1 false ad H1 u (List.replicate n a)):=by
 refine aO.b9 fun Q aC=>?_
 apply Zo (by simp)
 obtain⟨hr,cg,an⟩:=aW.len
 subst an
 have oL:=Hb aJ
 have jx:=vS aJ
 simp[JB]
 refine cc.join (by kernel_rfl) (fun cT dO bU=>bU=H) ?_ ?_
 ·rintro K aV-
  simp
  refine bs.bZ (fun h=>by omega) (fun _=>?_)
  exact aV _ _ _ rfl
 rintro cT dO bU rfl
 simp
 refine ck (ad:=ad) (xs:=[a]) (by simpa using aW) (by simp) ?_
 have a6:IntKind.u64.wrap 1=((1:Nat):Int):=by decide
 simp[oL,a6]
 refine aT.mk (Ge (a:=1) (b:=n) (by omega) aJ) ?_
 rintro u H1 ⟨rfl,rfl⟩
 simp
 refine cc.join (by kernel_rfl) (fun eI fR b5=>b5=H1) ?_ ?_
 ·rintro K aV-
  rw[kJ]
  refine cc.join (by kernel_rfl) (fun eI fR b5=>b5=H1/\eI 26= .bool false) ?_ ?_
  ·rintro er jN-
   simp
   exact jN _ _ _ ⟨rfl,by simp;omega⟩
  ·rintro eI fR b5 ⟨rfl,oa⟩
   simp only[hl]at oa
   simp at oa
   simp[oa]
   exact aV _ _ _ rfl
 rintro eI fR b5 rfl
 simp[jx]
 refine su (e:=3) (R:=1) (bF:=8) (ay:=false) (n:=n) (eK:= .i64) (cX:= .i64) (z:=(.int .i64 0)) (ad:=fb prog 3 ad) (a:=none) (by simp) (by simp) (by simp) (by rfl) (by first | rfl | simp[flat,hg]) (by simp) ⟨by rfl,by rfl,by simp[eS]⟩ (by simp) (by simp) (by decide) (by decide) (by omega) (fun aF=>⟨by rfl,by rfl,by simp[eS]⟩) ?_
 rintro au dx cw cu-
 simp
 refine ss (e:=3) (R:=1) (ay:=false) (ad:=fb prog 3 ad) (xs:=List.replicate n none) (bS:=[some a]) (u:=au) (j:=0) (m:=n) (k:=b5.length) cw (by simpa using cw.sub) (by simp) (by simpa using b7.ext aW.opt cu) (fb.j1 fun u y=>kU _ u y) (fb.kept (hJ _)) (by simp) (by simp) (by simp) (by decide) (by decide) ?_
 rintro c6 jP cR- - -
 rw[GD]at jP
 simp
 refine c7.mk (by kernel_rfl) (fun m az bE H1=>∃q:Nat,m=n-q/\(0<q\/n=0)/\q<=n/\az 8= .int .i64 (q:Int)/\az 7=au/\bH b5.length 3 1 false (fb prog 3 ad) H1 au (List.replicate q (some a)++List.replicate (n-q) none)/\Ext b5 H1) (n-min n 1) ⟨min n 1,rfl,by omega,by omega,by simp,by simp,jP,cR _ (Nat.le_refl _) cu⟩ ?_
 rintro m q6 sG eV ⟨q,rfl,Bl,mU,cN,bV,eW,cW⟩ K aV
 simp at cN bV
 simp[cN,bV]
 refine ck (ad:=fb prog 3 ad) (xs:=List.replicate q (some a)++List.replicate (n-q) none) (by simpa[bV]using eW.row) (by simp) ?_
 simp
 obtain⟨xs,hO⟩:∃xs,xs=List.replicate q (some a)++List.replicate (n-q) (none:Option α):=⟨_,rfl⟩
 have jB:xs.length=n:=by rw[hO];simp;omega
 rw[<-hO]at eW
 refine bs.bZ (fun aZ=>?_) (fun hh=>?_)
 ·simp
  refine CE (e:=3) (R:=1) (ay:=false) (ad:=fb prog 3 ad) (xs:=xs) (l:=q) (h:=n) (k:=b5.length) (by simpa[bV]using eW) (by simp) (by simp) (by decide) (by simp[dN,cN]) (by simp[eY,jB]) (by omega) (by omega) ?_
  intro q2 bq mc
  simp at mc
  simp
  refine qY (e:=3) (R:=1) (ay:=false) (ad:=fb prog 3 ad) (xs:=xs) (l:=0) (h:=q) (by simpa[bV]using eW.row) (by simp) (by simp) (by decide) (by simp[dN,cN]) (by simp[eY,cN]) (by omega) (by omega) ?_
  intro m7 bl
  have bp:(xs.drop 0).take (q-0)=List.replicate q (some a):=by rw[hO];simp
  rw[bp]at bl
  refine ss (e:=3) (R:=1) (ay:=false) (ad:=fb prog 3 ad) (xs:=xs) (bS:=List.replicate q (some a)) (u:=au) (j:=q) (m:=n-q) (k:=b5.length) eW (by simpa using mc) (by omega) (by simpa using bl) (fb.j1 fun u y=>kU _ u y) (fb.kept (hJ _)) (by simp) (by simp) (by simp) (by decide) (by decide) ?_
  rintro fz l2 dy- - -
  rw[hO,GF a mU]at l2
  have ix:=vS (n:=q+min (n-q) q) (by omega)
  simp at ix
  simp[cN,ix]
  refine aV (n-(q+min (n-q) q)) _ _ _ (by omega) ⟨q+min (n-q) q,rfl,by omega,by omega,by simp,by simp[bV],l2,dy _ (Nat.le_refl _) cW⟩
 ·have oI:q=n:=by omega
  rw[hO,GC a mU (by omega)]at eW
  simp[bd,bV]
  exact aC _ _ ⟨cW,eW.Hd⟩
theorem aa8{α:Type}{ad:ab->Value->α->Prop}[b7 ad]{v:Value}{a:α}{n:Nat}{H:ab}(aW:Row 34 1 false ad H v [a])(aJ:n<65536)
  (kU:∀H u y,ad H u y->Whole prog 34 u)(hJ:∀H aF dC u y,Kept H aF dC 34->ad H u y->ad aF u y):
  aO prog 73 [v,.int .i64 n] H (fun u H1=>Ext H H1/\bH H.length 34 1 false ad H1 u (List.replicate n a)):=by
 refine aO.b9 fun Q aC=>?_
 apply Zn (by simp)
 obtain⟨hr,cg,an⟩:=aW.len
 subst an
 have oL:=Hb aJ
 have jx:=vS aJ
 simp[JA]
 refine cc.join (by kernel_rfl) (fun cT dO bU=>bU=H) ?_ ?_
 ·rintro K aV-
  simp
  refine bs.bZ (fun h=>by omega) (fun _=>?_)
  exact aV _ _ _ rfl
 rintro cT dO bU rfl
 simp
 refine ck (ad:=ad) (xs:=[a]) (by simpa using aW) (by simp) ?_
 have a6:IntKind.u64.wrap 1=((1:Nat):Int):=by decide
 simp[oL,a6]
 refine aT.mk (Ge (a:=1) (b:=n) (by omega) aJ) ?_
 rintro u H1 ⟨rfl,rfl⟩
 simp
 refine cc.join (by kernel_rfl) (fun eI fR b5=>b5=H1) ?_ ?_
 ·rintro K aV-
  rw[kJ]
  refine cc.join (by kernel_rfl) (fun eI fR b5=>b5=H1/\eI 26= .bool false) ?_ ?_
  ·rintro er jN-
   simp
   exact jN _ _ _ ⟨rfl,by simp;omega⟩
  ·rintro eI fR b5 ⟨rfl,oa⟩
   simp only[hl]at oa
   simp at oa
   simp[oa]
   exact aV _ _ _ rfl
 rintro eI fR b5 rfl
 simp[jx]
 refine su (e:=34) (R:=1) (bF:=24) (ay:=false) (n:=n) (eK:= .i64) (cX:= .i64) (z:=(.slice none 0 0)) (ad:=fb prog 34 ad) (a:=none) (by simp) (by simp) (by simp) (by rfl) (by first | rfl | simp[flat,hg]) (by simp) ⟨by rfl,by rfl,by simp[eS]⟩ (by simp) (by simp) (by decide) (by decide) (by omega) (fun aF=>⟨by rfl,by rfl,by simp[eS]⟩) ?_
 rintro au dx cw cu-
 simp
 refine ss (e:=34) (R:=1) (ay:=false) (ad:=fb prog 34 ad) (xs:=List.replicate n none) (bS:=[some a]) (u:=au) (j:=0) (m:=n) (k:=b5.length) cw (by simpa using cw.sub) (by simp) (by simpa using b7.ext aW.opt cu) (fb.j1 fun u y=>kU _ u y) (fb.kept (hJ _)) (by simp) (by simp) (by simp) (by decide) (by decide) ?_
 rintro c6 jP cR- - -
 rw[GD]at jP
 simp
 refine c7.mk (by kernel_rfl) (fun m az bE H1=>∃q:Nat,m=n-q/\(0<q\/n=0)/\q<=n/\az 8= .int .i64 (q:Int)/\az 7=au/\bH b5.length 34 1 false (fb prog 34 ad) H1 au (List.replicate q (some a)++List.replicate (n-q) none)/\Ext b5 H1) (n-min n 1) ⟨min n 1,rfl,by omega,by omega,by simp,by simp,jP,cR _ (Nat.le_refl _) cu⟩ ?_
 rintro m q6 sG eV ⟨q,rfl,Bl,mU,cN,bV,eW,cW⟩ K aV
 simp at cN bV
 simp[cN,bV]
 refine ck (ad:=fb prog 34 ad) (xs:=List.replicate q (some a)++List.replicate (n-q) none) (by simpa[bV]using eW.row) (by simp) ?_
 simp
 obtain⟨xs,hO⟩:∃xs,xs=List.replicate q (some a)++List.replicate (n-q) (none:Option α):=⟨_,rfl⟩
 have jB:xs.length=n:=by rw[hO];simp;omega
 rw[<-hO]at eW
 refine bs.bZ (fun aZ=>?_) (fun hh=>?_)
 ·simp
  refine CE (e:=34) (R:=1) (ay:=false) (ad:=fb prog 34 ad) (xs:=xs) (l:=q) (h:=n) (k:=b5.length) (by simpa[bV]using eW) (by simp) (by simp) (by decide) (by simp[dN,cN]) (by simp[eY,jB]) (by omega) (by omega) ?_
  intro q2 bq mc
  simp at mc
  simp
  refine qY (e:=34) (R:=1) (ay:=false) (ad:=fb prog 34 ad) (xs:=xs) (l:=0) (h:=q) (by simpa[bV]using eW.row) (by simp) (by simp) (by decide) (by simp[dN,cN]) (by simp[eY,cN]) (by omega) (by omega) ?_
  intro m7 bl
  have bp:(xs.drop 0).take (q-0)=List.replicate q (some a):=by rw[hO];simp
  rw[bp]at bl
  refine ss (e:=34) (R:=1) (ay:=false) (ad:=fb prog 34 ad) (xs:=xs) (bS:=List.replicate q (some a)) (u:=au) (j:=q) (m:=n-q) (k:=b5.length) eW (by simpa using mc) (by omega) (by simpa using bl) (fb.j1 fun u y=>kU _ u y) (fb.kept (hJ _)) (by simp) (by simp) (by simp) (by decide) (by decide) ?_
  rintro fz l2 dy- - -
  rw[hO,GF a mU]at l2
  have ix:=vS (n:=q+min (n-q) q) (by omega)
  simp at ix
  simp[cN,ix]
  refine aV (n-(q+min (n-q) q)) _ _ _ (by omega) ⟨q+min (n-q) q,rfl,by omega,by omega,by simp,by simp[bV],l2,dy _ (Nat.le_refl _) cW⟩
 ·have oI:q=n:=by omega
  rw[hO,GC a mU (by omega)]at eW
  simp[bd,bV]
  exact aC _ _ ⟨cW,eW.Hd⟩
theorem aa7{α:Type}{ad:ab->Value->α->Prop}[b7 ad]{v:Value}{a:α}{n:Nat}{H:ab}(aW:Row 80 4 true ad H v [a])(aJ:n<65536)
  (kU:∀H u y,ad H u y->Whole prog 80 u)(hJ:∀H aF dC u y,Kept H aF dC 80->ad H u y->ad aF u y):
  aO prog 96 [v,.int .i64 n] H (fun u H1=>Ext H H1/\bH H.length 80 4 true ad H1 u (List.replicate n a)):=by
 refine aO.b9 fun Q aC=>?_
 apply Zp (by simp)
 obtain⟨hr,cg,an⟩:=aW.len
 subst an
 have oL:=Hb aJ
 have jx:=vS aJ
 simp[JC]
 refine cc.join (by kernel_rfl) (fun cT dO bU=>bU=H) ?_ ?_
 ·rintro K aV-
  simp
  refine bs.bZ (fun h=>by omega) (fun _=>?_)
  exact aV _ _ _ rfl
 rintro cT dO bU rfl
 simp
 refine ck (ad:=ad) (xs:=[a]) (by simpa using aW) (by simp) ?_
 have a6:IntKind.u64.wrap 1=((1:Nat):Int):=by decide
 simp[oL,a6]
 refine aT.mk (Ge (a:=1) (b:=n) (by omega) aJ) ?_
 rintro u H1 ⟨rfl,rfl⟩
 simp
 refine cc.join (by kernel_rfl) (fun eI fR b5=>b5=H1) ?_ ?_
 ·rintro K aV-
  rw[kJ]
  refine cc.join (by kernel_rfl) (fun eI fR b5=>b5=H1/\eI 26= .bool false) ?_ ?_
  ·rintro er jN-
   simp
   exact jN _ _ _ ⟨rfl,by simp;omega⟩
  ·rintro eI fR b5 ⟨rfl,oa⟩
   simp only[hl]at oa
   simp at oa
   simp[oa]
   exact aV _ _ _ rfl
 rintro eI fR b5 rfl
 simp[jx]
 refine su (e:=80) (R:=4) (bF:=64) (ay:=true) (n:=n) (eK:= .i64) (cX:= .i64) (z:=(.agg #[.bool false,.slice none 0 0,.bool false,.slice none 0 0])) (ad:=fb prog 80 ad) (a:=none) (by simp) (by simp) (by simp) (by rfl) (by first | rfl | simp[flat,hg]) (by simp) ⟨by rfl,by rfl,by simp[eS]⟩ (by simp) (by simp) (by decide) (by decide) (by omega) (fun aF=>⟨by rfl,by rfl,by simp[eS]⟩) ?_
 rintro au dx cw cu-
 simp
 refine ss (e:=80) (R:=4) (ay:=true) (ad:=fb prog 80 ad) (xs:=List.replicate n none) (bS:=[some a]) (u:=au) (j:=0) (m:=n) (k:=b5.length) cw (by simpa using cw.sub) (by simp) (by simpa using b7.ext aW.opt cu) (fb.j1 fun u y=>kU _ u y) (fb.kept (hJ _)) (by simp) (by simp) (by simp) (by decide) (by decide) ?_
 rintro c6 jP cR- - -
 rw[GD]at jP
 simp
 refine c7.mk (by kernel_rfl) (fun m az bE H1=>∃q:Nat,m=n-q/\(0<q\/n=0)/\q<=n/\az 8= .int .i64 (q:Int)/\az 7=au/\bH b5.length 80 4 true (fb prog 80 ad) H1 au (List.replicate q (some a)++List.replicate (n-q) none)/\Ext b5 H1) (n-min n 1) ⟨min n 1,rfl,by omega,by omega,by simp,by simp,jP,cR _ (Nat.le_refl _) cu⟩ ?_
 rintro m q6 sG eV ⟨q,rfl,Bl,mU,cN,bV,eW,cW⟩ K aV
 simp at cN bV
 simp[cN,bV]
 refine ck (ad:=fb prog 80 ad) (xs:=List.replicate q (some a)++List.replicate (n-q) none) (by simpa[bV]using eW.row) (by simp) ?_
 simp
 obtain⟨xs,hO⟩:∃xs,xs=List.replicate q (some a)++List.replicate (n-q) (none:Option α):=⟨_,rfl⟩
 have jB:xs.length=n:=by rw[hO];simp;omega
 rw[<-hO]at eW
 refine bs.bZ (fun aZ=>?_) (fun hh=>?_)
 ·simp
  refine CE (e:=80) (R:=4) (ay:=true) (ad:=fb prog 80 ad) (xs:=xs) (l:=q) (h:=n) (k:=b5.length) (by simpa[bV]using eW) (by simp) (by simp) (by decide) (by simp[dN,cN]) (by simp[eY,jB]) (by omega) (by omega) ?_
  intro q2 bq mc
  simp at mc
  simp
  refine qY (e:=80) (R:=4) (ay:=true) (ad:=fb prog 80 ad) (xs:=xs) (l:=0) (h:=q) (by simpa[bV]using eW.row) (by simp) (by simp) (by decide) (by simp[dN,cN]) (by simp[eY,cN]) (by omega) (by omega) ?_
  intro m7 bl
  have bp:(xs.drop 0).take (q-0)=List.replicate q (some a):=by rw[hO];simp
  rw[bp]at bl
  refine ss (e:=80) (R:=4) (ay:=true) (ad:=fb prog 80 ad) (xs:=xs) (bS:=List.replicate q (some a)) (u:=au) (j:=q) (m:=n-q) (k:=b5.length) eW (by simpa using mc) (by omega) (by simpa using bl) (fb.j1 fun u y=>kU _ u y) (fb.kept (hJ _)) (by simp) (by simp) (by simp) (by decide) (by decide) ?_
  rintro fz l2 dy- - -
  rw[hO,GF a mU]at l2
  have ix:=vS (n:=q+min (n-q) q) (by omega)
  simp at ix
  simp[cN,ix]
  refine aV (n-(q+min (n-q) q)) _ _ _ (by omega) ⟨q+min (n-q) q,rfl,by omega,by omega,by simp,by simp[bV],l2,dy _ (Nat.le_refl _) cW⟩
 ·have oI:q=n:=by omega
  rw[hO,GC a mU (by omega)]at eW
  simp[bd,bV]
  exact aC _ _ ⟨cW,eW.Hd⟩
def IR(H:ab)(v:Value)(z:Int):Prop:=v= .int .i64 z
def pT(H:ab)(v:Value)(b:Bool):Prop:=v= .bool b
instance:b7 IR:=⟨fun h _=>h⟩
instance:b7 pT:=⟨fun h _=>h⟩
theorem jn(n:Int):Whole prog 3 (.int .i64 n):=⟨by rfl,by rfl,by simp[eS]⟩
theorem QB(b:Bool):Whole prog 4 (.bool b):=⟨by rfl,by rfl,by simp[eS]⟩
theorem NU{v:Value}{t:List (List Rat)}{H:ab}(bf:hX H v t):aO prog 48 [.agg #[v]] H (fun w H1=>Ext H H1/\w= .int .i64 t.length):=by
 refine aO.b9 fun Q aC=>?_
 apply Y6 (by simp)
 obtain⟨a,cap,rfl⟩:=Row.len bf
 simp[Ie,bd]
 refine ck (ad:=jo) (xs:=t) (by simpa using b7.ext bf (Ext.more H (by simp))) (by simp) ?_
 simp[bd]
 exact aC _ _ ⟨Ext.more H (by simp),rfl⟩
theorem Gb{v:Value}{t:List (List Rat)}{fg:List Rat}{H:ab}(bf:hX H v t)(aH:t[0]?=some fg):aO prog 49 [.agg #[v]] H (fun w H1=>Ext H H1/\w= .int .i64 fg.length):=by
 refine aO.b9 fun Q aC=>?_
 apply Y8 (by simp)
 obtain⟨a,cap,rfl⟩:=Row.len bf
 simp[Ig]
 refine cv (ad:=jo) (xs:=t) (n:=0) (a:=fg) (e:=120) (R:=1) (ay:=false) (by simpa using b7.ext bf (Ext.more H (by simp))) (by simp) aH (by simp) (by simp) (by simp) (by decide) ?_
 intro Gk He rY
 refine ck (ad:=cf) (xs:=fg) (by simpa using rY) (by simp) ?_
 simp[bd]
 exact aC _ _ ⟨Ext.more H (by simp),rfl⟩
def iV(t:List (List Rat))(k:Nat):List Rat:=t.map fun r=>r[k]?.getD 0
def fp(m:Nat)(t:List (List Rat)):List (List Rat):=(List.range m).map (iV t)
def kI(m:Nat)(t:List (List Rat))(i j:Nat):List (List Rat):=(List.range m).map fun a=>if a<i then iV t a else if a=i then iV (t.take j) a else[]
theorem acr(m:Nat)(t:List (List Rat)):kI m t 0 0=List.replicate m []:=by
 unfold kI
 apply List.ext_getElem?
 intro a
 simp[List.getElem?_replicate,List.getElem?_range]
 by_cases h:a<m
 ·simp[h,iV]
 ·simp[h]
theorem acn{m:Nat}{t:List (List Rat)}{i j:Nat}(af:i<m):(kI m t i j)[i]?=some (iV (t.take j) i):=by
 simp[kI,List.getElem?_range,af]
theorem acq{m:Nat}{t:List (List Rat)}{i j:Nat}{row:List Rat}(af:i<m)(al:t[j]?=some row):(kI m t i j).set i (iV (t.take j) i++[row[i]?.getD 0])=kI m t i (j+1):=by
 apply List.ext_getElem?
 intro a
 rw[List.getElem?_set]
 have aY:=(cJ.1 al)
 by_cases h:i=a
 ·subst h
  simp only[kI,List.length_map,List.length_range,af,if_true,List.getElem?_map,List.getElem?_range af]
  simp[iV,List.take_add_one,al]
 ·rw[if_neg h]
  simp only[kI,List.getElem?_map]
  by_cases aL:a<m
  ·simp[List.getElem?_range aL,show¬a=i by omega]
  ·simp[aL]
theorem acp(m:Nat)(t:List (List Rat))(i:Nat):kI m t i t.length=kI m t (i+1) 0:=by
 unfold kI
 apply List.map_congr_left
 intro a _
 by_cases o:a<i
 ·simp[o,show a<i+1 by omega]
 ·by_cases aa:a=i
  ·subst aa;simp
  ·simp[o,aa,show¬a<i+1 by omega,iV]
theorem acm(m:Nat)(t:List (List Rat)):kI m t m 0=fp m t:=by
 unfold kI fp
 apply List.map_congr_left
 intro a aL
 simp at aL
 simp[aL]
theorem aco(m:Nat)(t:List (List Rat))(i j:Nat):(kI m t i j).length=m:=by simp[kI]
theorem Ho(a:Option Addr)(n c:Nat):Whole prog 120 (.slice a n c):=⟨by rfl,by rfl,by simp[eS]⟩
theorem bH.j1{α:Type}{k e R:Nat}{ay:Bool}{ad:ab->Value->α->Prop}{H:ab}{v:Value}{xs:List α}(h:bH k e R ay ad H v xs):Whole prog 120 v:=by
 obtain⟨a,c,rfl⟩:=h.len
 exact Ho _ _ _
theorem PM{v:Value}{t:List (List Rat)}{m:Nat}{H:ab}(bf:hX H v t)(bM:0<t.length)(ar:t.length<65536)(hm:∀r∈t,r.length=m)(l9:m<65536):
  aO prog 34 [.agg #[v]] H (fun u H1=>Ext H H1/\∃w,u= .agg #[w]/\hX H1 w (fp m t)):=by
 refine aO.b9 fun Q aC=>?_
 apply Zc (by simp)
 obtain⟨a,c,rfl⟩:=Row.len bf
 obtain⟨fg,gK⟩:∃fg,t[0]?=some fg:=⟨_,bz bM⟩
 have pv:=hm fg (List.mem_of_getElem? gK)
 simp[Jw]
 have bu:Ext H (H++[.dead,.dead]):=Ext.more H (by simp)
 refine aT.mk (Gb (bf.ext bu) gK) ?_
 rintro u H1 ⟨bq,rfl⟩
 rw[pv]
 have lp:=bf.ext (bu.aw bq)
 have VU:0<H1.length:=by have:=Ext.len (bu.aw bq);have:=Ext.len bq;simp at this;omega
 refine su (e:=120) (R:=1) (bF:=24) (ay:=false) (n:=m) (eK:= .i64) (cX:= .i64) (z:= .slice none 0 0) (ad:=hc) (a:= .slice none 0 0) (by simp) (by simp) (by simp) (by rfl) (by rfl) (by simp) (Ho _ _ _) (by simp) (by simp) (by decide) (by decide) (by omega) (fun aF=>rfl) ?_
 rintro w aS gI bl-
 have Ul:=eC.Ol (e:=80) (R:=4) (ay:=true) (ad:=cf) VU gI
 simp
 refine ck (ad:=hc) (xs:=List.replicate m (.slice none 0 0)) (by simpa using gI.row) (by simp) ?_
 simp
 refine c7.range (by kernel_rfl) m (by omega) (by simp) (by rfl) (by simp) (by decide) (by decide) (fun i c_ en bN=>Ext H1 bN/\∃us,eC H1.length 120 80 4 true cf bN w (kI m t i 0) us) ?_ ?_ ?_
 ·exact⟨bl,_,by rw[acr];exact Ul⟩
 ·rintro i c_ en bN af a_ ⟨bK,us,jw⟩ K aV
  simp at a_
  simp[a_]
  refine ck (ad:=jo) (xs:=t) (by simpa using b7.ext lp bK) (by simp) ?_
  simp
  refine c7.range (by kernel_rfl) t.length (by omega) (by simp) (by rfl) (by simp) (by decide) (by decide) (fun j cT dO bU=>Ext H1 bU/\∃us,eC H1.length 120 80 4 true cf bU w (kI m t i j) us) ?_ ?_ ?_
  ·exact⟨bK,us,jw⟩
  ·rintro j cT dO bU aY ju ⟨ch,zu,mI⟩ nZ g1
   simp at ju
   simp[ju]
   obtain⟨row,dL⟩:∃row,t[j]?=some row:=⟨_,bz aY⟩
   have tx:=hm row (List.mem_of_getElem? dL)
   obtain⟨q,av⟩:∃q,row[i]?=some q:=⟨_,bz (by omega)⟩
   refine cv (ad:=jo) (xs:=t) (n:=j) (a:=row) (e:=120) (R:=1) (ay:=false) (by simpa using b7.ext lp ch) (by simp[ju]) dL (by simp) (by simp) (by simp) (by decide) ?_
   intro gj He rY
   simp
   obtain⟨u,hu,AB⟩:=mI.wg (acn af)
   refine cv (ad:=hc) (xs:=zu) (n:=i) (a:=u) (e:=120) (R:=1) (ay:=false) (by simpa using mI.own.row) (by simp) hu (by simp) (by simp) (by simp) (by decide) ?_
   rintro iD oX rfl
   simp
   refine cv (ad:=cf) (xs:=row) (n:=i) (a:=q) (e:=80) (R:=4) (ay:=true) (by simpa using rY) (by simp) av (by simp) (by simp) (by simp) (by decide) ?_
   intro mj x J
   refine G7 (k:=H1.length) (e:=80) (R:=4) (ay:=true) (bF:=64) (z:= .agg #[.bool false,.slice none 0 0,.bool false,.slice none 0 0]) (ad:=cf) (xs:=iV (t.take j) i) (a:=q) (by simpa using AB) (by simpa using J) (by simpa using J.whole) (by simp) (fun aF dC u y ak h=>h.kept ak (by decide)) (by simp) (by simp) (by simp) (by simp) (by simp) (by rfl) (by rfl) (by first | rfl | simp[flat,hg]) (by rfl) (by decide) (by decide) (by decide) (by simp[iV];omega) (by have:=Ext.len ch;omega) ?_
   intro qP zv c6 jP cR mP vw xY
   simp at mP vw
   refine kp (k:=H1.length) (e:=120) (R:=1) (ay:=false) (n:=i) (ad:=hc) (xs:=zu) (a:=zv) (by simpa using mI.own.other mP (by decide) fun _ _ h=>h) (by simp) (by have:=mI.len;rw[aco]at this;omega) (by simp[hc]) (by simpa using jP.j1) (by simp) (fun _ _ _ _ _ h=>h) (by simp) (by simp) (by simp) (by decide) ?_
   rintro oS eV eW cW pt rM-
   simp at eW pt
   simp
   refine g1 _ _ _ (by simp[ju]) ⟨cW _ (Nat.le_refl _) (cR _ (Nat.le_refl _) ch),zu.set i zv,?_⟩
   have:=mI.put hu (by decide) mP vw jP (fun u x h=>h.kept mP (by decide)) eW pt (fun u x h=>h.kept pt (by decide))
   rw[show iV (t.take j) i++[q]=iV (t.take j) i++[row[i]?.getD 0] by rw[av];rfl,acq af dL]at this
   exact this
  ·rintro cT dO bU ju ⟨ch,zu,mI⟩
   simp at ju
   simp[ju]
   refine aV _ _ _ (by simp[a_]) ⟨ch,zu,?_⟩
   rw[<-acp]
   exact mI
 ·rintro c_ en bN a_ ⟨bK,us,jw⟩
  have dL:=jw.row
  rw[acm]at dL
  obtain⟨ag7,ahO,rfl⟩:=jw.own.len
  simp[bd]
  exact aC _ _ ⟨bu.aw (bq.aw bK),_,rfl,dL⟩
abbrev dV(H:ab)(v:Value)(l:List Int):Prop:=Row 3 1 false IR H v l
abbrev fK(H:ab)(v:Value)(t:List (List Int)):Prop:=Row 34 1 false dV H v t
instance:b7 dV:=⟨fun h J=>b7.ext (ad:=Row 3 1 false IR) h J⟩
instance:b7 fK:=⟨fun h J=>b7.ext (ad:=Row 34 1 false dV) h J⟩
theorem kO.row{H:ab}{v:Value}{l:List Int}(h:kO H v l):dV H v l:=⟨_,h,fun i x af=>by
 show eA false 1 _ i= .int .i64 x
 unfold eA
 simp[af]⟩
theorem Row.is{H:ab}{v:Value}{l:List Int}(h:dV H v l):kO H v l:=by
 obtain⟨cs,o,aa⟩:=h
 have ar:cs.length=l.length:=by obtain⟨_,_,_,_,q,_⟩:=o;omega
 have:cs=l.map (Value.int .i64):=by
  apply List.ext_getElem?
  intro i
  rw[List.getElem?_map]
  by_cases af:i<l.length
  ·have:=aa i _ (bz af)
   rw[bz af,bz (by omega)]
   unfold IR eA at this
   simp[bz (show i<cs.length by omega)]at this
   simp[this]
  ·rw[List.getElem?_eq_none (by omega),List.getElem?_eq_none (by omega)]
   rfl
 unfold kO
 rw[<-this]
 exact o
theorem Row.yJ{H:ab}{v:Value}{t:List (List Int)}(h:fK H v t):kt H v t:=by
 obtain⟨cs,o,aa⟩:=h
 have ar:cs.length=t.length:=by obtain⟨_,_,_,_,q,_⟩:=o;omega
 refine⟨cs,o,ar,fun i af=>?_⟩
 have:=aa i _ (bz af)
 rw[bz af]
 unfold eA at this
 simp only[Bool.false_eq_true,if_false]at this
 exact this.is
theorem kt.row{H:ab}{v:Value}{t:List (List Int)}(h:kt H v t):fK H v t:=by
 obtain⟨aG,o,aa,aA⟩:=h
 refine⟨aG,o,fun i r af=>?_⟩
 have cK:=(cJ.1 af).1
 have:=aA i cK
 rw[af]at this
 unfold eA
 simp only[Bool.false_eq_true,if_false]
 exact this.row
def da(t:List (List Int)):List (List Rat):=t.map fun r=>r.map fun x=>((x:Int):Rat)
theorem O8{v:Value}{t:List (List Int)}{H:ab}(bf:fK H v t)(ar:t.length<65536)(al:∀r∈t,r.length<65536)(ag:∀r∈t,∀x∈r,-9223372036854775808<=x/\x<9223372036854775808):
  aO prog 32 [v] H (fun w H1=>Ext H H1/\∃a c us,w= .agg #[.slice a t.length c]/\eC (H.length+1) 120 80 4 true cf H1 (.slice a t.length c) (da t) us):=by
 refine aO.b9 fun Q aC=>?_
 apply Y4 (by simp)
 obtain⟨a,cap,rfl⟩:=Row.len bf
 simp[Jp]
 have bu:Ext H (H++[.dead]):=Ext.dead H
 refine ck (ad:=dV) (xs:=t) (by simpa using b7.ext (ad:=fK) bf bu) (by simp) ?_
 simp
 refine c7.range (by kernel_rfl) t.length (by omega) (by simp) (by rfl) (by simp) (by decide) (by decide) (fun i bR c4 aS=>Ext (H++[.dead]) aS/\∃us,eC (H.length+1) 120 80 4 true cf aS (bR 3) (da (t.take i)) us) ?_ ?_ ?_
 ·exact⟨Ext.refl _,[],by simpa[da]using eC.nil _ _ _ _ _ _ _ (by omega)⟩
 ·rintro i bR c4 aS af jt ⟨bl,us,jw⟩ K aV
  simp at jt jw
  refine Exists.elim (⟨_,bz af⟩:∃row,t[i]?=some row) fun row dL=>?_
  have gg:=List.mem_of_getElem? dL
  have ja:=al row gg
  have iM:=Ext.len bl
  simp at iM
  simp[jt]
  refine cv (ad:=dV) (xs:=t) (n:=i) (a:=row) (e:=34) (R:=1) (ay:=false) (by simpa using b7.ext (ad:=fK) bf (bu.aw bl)) (by simp[jt]) dL (by simp) (by simp) (by simp) (by decide) ?_
  intro eT nQ px
  simp
  refine ck (ad:=IR) (xs:=row) (by simpa using px) (by simp) ?_
  simp
  refine c7.range (by kernel_rfl) row.length (by omega) (by simp) (by rfl) (by simp) (by decide) (by decide) (fun j cT dO bU=>Ext aS bU/\bH aS.length 80 4 true cf bU (cT 6) ((row.take j).map fun x=>((x:Int):Rat))) ?_ ?_ ?_
  ·exact⟨Ext.refl _,by simpa using bH.nil _ _ _ _ _ _⟩
  ·rintro j cT dO bU aY ju ⟨ch,kT⟩ nZ g1
   simp at ju kT
   refine Exists.elim (⟨_,bz aY⟩:∃x,row[j]?=some x) fun x J=>?_
   have BN:=ag row gg x (List.mem_of_getElem? J)
   have A1:=Ext.len ch
   simp[ju]
   refine cv (ad:=IR) (xs:=row) (n:=j) (a:=x) (e:=3) (R:=1) (ay:=false) (by simpa using b7.ext (ad:=Row _ _ _ IR) px ch) (by simp[ju]) J (by simp) (by simp) (by simp) (by decide) ?_
   rintro iD oX rfl
   simp
   refine aT.mk (Cf BN.1 BN.2) ?_
   rintro w b5 ⟨cP,hw⟩
   refine uc (k:=aS.length) (e:=80) (R:=4) (ay:=true) (bF:=64) (z:= .agg #[.bool false,.slice none 0 0,.bool false,.slice none 0 0]) (ad:=cf) (xs:=(row.take j).map fun x=>((x:Int):Rat)) (a:=(x:Rat)) (by simpa using b7.ext (ad:=bH _ _ _ _ cf) kT cP) (by simpa using hw) (by simpa using hw.whole) (by simp) (fun aF dC u y ak h=>h.kept ak (by decide)) (by simp) (by simp) (by simp) (by simp) (by simp) (by rfl) (by rfl) (by first | rfl | simp[flat,hg]) (by rfl) (by decide) (by decide) (by decide) (by simp;omega) (by have:=Ext.len cP;omega) ?_
   intro mj v6 dx kB cu qq
   try simp
   refine g1 _ _ _ (by simp[ju]) ⟨cu _ (Nat.le_refl _) (ch.aw cP),?_⟩
   rw[List.take_add_one,J,List.map_append]
   simpa using kB
  ·rintro cT dO bU ju ⟨ch,kT⟩
   simp at kT
   have mI:=eC.ext jw ch
   have A1:=Ext.len ch
   have W_:=kT.j1
   have kY:=jw.len
   simp[da]at kY
   try simp
   refine G7 (k:=H.length+1) (e:=120) (R:=1) (ay:=false) (bF:=24) (z:= .slice none 0 0) (ad:=hc) (xs:=us) (a:=cT 6) (by simpa using mI.own) (by simp[hc]) (by simpa using W_) (by simp) (fun _ _ _ _ _ h=>h) (by simp) (by simp) (by simp) (by simp) (by simp) (by rfl) (by rfl) (by rfl) (by rfl) (by decide) (by decide) (by decide) (by omega) (by omega) ?_
   intro qP zv c6 jP cR mP vw xY
   simp at mP vw
   have oK:=eC.snoc (cE:=aS) (jF:=aS.length) mI (fun b aH ag=>(kT.ge ag aH).1) (fun j u b hu ag aH=>jw.lt j u b hu ag aH) (by decide) (kT.le (by omega)) jP mP (fun u x h=>h.kept mP (by decide))
   try simp
   refine aV _ _ _ (by simp[jt]) ⟨cR _ (by simp) (bl.aw ch),us++[cT 6],?_⟩
   rw[List.take_add_one,dL]
   simpa[da]using oK
 ·rintro bR c4 aS jt ⟨bl,us,jw⟩
  simp at jw
  obtain⟨dg,lc,mQ⟩:=jw.own.len
  have kY:=jw.len
  simp[da]at kY
  rw[mQ,kY]at jw
  simp[mQ,kY,bd]
  exact aC _ _ ⟨bu.aw bl,dg,lc,us,rfl,jw⟩
theorem GB{v:Value}{t:List (List Int)}{H:ab}(bf:fK H v t)(ar:t.length<65536)(al:∀r∈t,r.length<65536)(ag:∀r∈t,∀x∈r,-9223372036854775808<=x/\x<9223372036854775808):
  aO prog 32 [v] H (fun w H1=>Ext H H1/\∃a c,w= .agg #[.slice a t.length c]/\hX H1 (.slice a t.length c) (da t)):=
 (O8 bf ar al ag).mono fun w H1 ⟨J,a,c,us,hw,cw⟩=>⟨J,a,c,hw,cw.row⟩
def uB(N:Nat)(t:List (List Rat)):Prop:=∀r∈t,(∀k,dh N (hB (r.take k)))/\∀q∈r,dh N q
theorem uB.sum{N:Nat}{t:List (List Rat)}(h:uB N t){r:List Rat}(al:r∈t):dh N (hB r):=by
 have:=(h r al).1 r.length
 rwa[List.take_length]at this
def dU(t:List (List Rat))(i:Nat):Rat:=hB (t[i]?.getD [])
def dG(f:Nat->Rat):Nat->Rat×Nat
 | 0=>(f 0,0)
 | n+1=>if(dG f n).1<f n then(f n,n)else dG f n
theorem tT(f:Nat->Rat)(n:Nat):(dG f n).1=f (dG f n).2/\((dG f n).2<n\/(dG f n).2=0):=by
 induction n with
 | zero=>simp[dG]
 | succ n a1=>
  simp only[dG]
  split
  ·exact⟨rfl,.inl (Nat.lt_succ_self n)⟩
  ·exact⟨a1.1,by omega⟩
theorem BX(f:Nat->Rat){n i:Nat}(af:i<n):f i<=(dG f n).1:=by
 induction n with
 | zero=>omega
 | succ n a1=>
  simp only[dG]
  by_cases fe:i=n
  ·subst fe
   split
   ·exact Rat.le_refl
   ·rename_i h;exact Rat.not_lt.1 h
  ·have:=a1 (by omega)
   split
   ·rename_i h;exact Rat.le_trans this (Rat.le_of_lt h)
   ·exact this
theorem aae(f:Nat->Rat){n i:Nat}(af:i<(dG f n).2):f i<(dG f n).1:=by
 induction n with
 | zero=>simp[dG]at af
 | succ n a1=>
  simp only[dG]at af⊢
  split at af
  ·rename_i h
   rw[if_pos h]
   exact Std.lt_of_le_of_lt (BX f af) h
  ·rename_i h
   rw[if_neg h]
   exact a1 af
theorem GZ{t:List (List Rat)}{i:Nat}(af:i<t.length):∃r,t[i]?=some r/\r∈t/\dU t i=hB r:=
 ⟨_,bz af,List.getElem_mem af,by simp[dU,bz af]⟩
theorem yY{N:Nat}{t:List (List Rat)}(aM:uB N t)(bM:0<t.length){n:Nat}(aJ:n<=t.length):dh N (dG (dU t) n).1:=by
 obtain⟨o,aa⟩:=tT (dU t) n
 rw[o]
 obtain⟨r,-,a4,bI⟩:=GZ (t:=t) (i:=(dG (dU t) n).2) (by omega)
 rw[bI]
 exact aM.sum a4
theorem BZ{v:Value}{t:List (List Rat)}{N:Nat}{H:ab}(bf:hX H v t)(bM:0<t.length)(ar:t.length<65536)(ja:∀r∈t,r.length<65536)(aM:uB N t)(bP:N<=1000000):
  aO prog 33 [.agg #[v]] H (fun u H1=>Ext H H1/\∃w,u= .tuple #[w,.int .i64 ((dG (dU t) t.length).2:Nat)]/\cf H1 w (dG (dU t) t.length).1):=by
 refine aO.b9 fun Q aC=>?_
 apply Y9 (by simp)
 obtain⟨a,c,rfl⟩:=Row.len bf
 simp[Js]
 have bu:Ext H (H++[.dead,.dead]):=Ext.more H (by simp)
 obtain⟨fg,gK,pv,yd⟩:=GZ bM
 refine aT.mk (yR (j:=0) (bf.ext bu) gK (by have:=ja fg pv;omega) (by omega) (aM fg pv).1 (aM fg pv).2 bP) ?_
 rintro y_ H1 ⟨bq,nx⟩
 simp
 refine c2.mk nx.whole ?_
 simp
 have bl:Ext H1 (H1++[.dead]):=Ext.dead H1
 have jY:=bu.aw (bq.aw bl)
 refine aT.mk (NU (bf.ext jY)) ?_
 rintro u bN ⟨bK,rfl⟩
 have hv:=bf.ext (jY.aw bK)
 simp
 refine c7.range (by kernel_rfl) t.length (by omega) (by simp) (by rfl) (by simp) (by decide) (by decide) (fun i c_ en bU=>Ext bN bU/\cf bU (en 4) (dG (dU t) i).1/\c_ 5= .int .i64 ((dG (dU t) i).2:Nat)) ?_ ?_ ?_
 ·refine⟨Ext.refl _,?_,by simp[dG]⟩
  simp only[dG,yd]
  simpa using nx.ext (bl.aw bK)
 ·rintro i c_ en bU af a_ ⟨ch,hm,bJ⟩ K aV
  simp at a_ hm bJ
  obtain⟨b,ag⟩:∃b,(dG (dU t) i).1=b:=⟨_,rfl⟩
  obtain⟨j1,Np⟩:∃j1,(dG (dU t) i).2=j1:=⟨_,rfl⟩
  have vq:dh N b:=by rw[<-ag];exact yY aM bM (by omega)
  rw[ag]at hm
  rw[Np]at bJ
  obtain⟨r,al,tx,tz⟩:=GZ af
  refine cc.join (by kernel_rfl) (fun eI fR b5=>Ext bU b5/\cf b5 (fR 4) (dG (dU t) (i+1)).1/\eI 5= .int .i64 ((dG (dU t) (i+1)).2:Nat)) ?_ ?_
  ·rintro er jN-
   simp[a_,bJ]
   refine aT.mk (yR (j:=i) (hv.ext ch) al (by have:=ja r tx;omega) (by omega) (aM r tx).1 (aM r tx).2 bP) ?_
   rintro s1 b5 ⟨cP,fG⟩
   simp
   refine c2.mk fG.whole ?_
   simp
   have cu:Ext b5 (b5++[.dead]):=Ext.dead b5
   have pC:=cP.aw cu
   refine aT.mk (Cd (fG.ext cu) (hm.ext pC) (aM.sum tx) vq bP) ?_
   rintro ez c6 ⟨cR,rfl⟩
   simp
   refine bs.bZ (fun ae=>?_) (fun ae=>?_)
   ·have aZ:b<hB r:=by
     by_cases o:hB r<b
     ·rw[if_pos o]at ae;omega
     ·rw[if_neg o]at ae
      by_cases aa:hB r=b
      ·rw[if_pos aa]at ae;omega
      ·exact Std.lt_of_le_of_ne (Rat.not_lt.1 o) (Ne.symm aa)
    simp
    refine c2.mk fG.whole ?_
    simp
    refine jN _ _ _ ⟨pC.aw cR,?_,?_⟩
    ·simp only[dG,ag,tz,if_pos aZ]
     simpa using fG.ext (cu.aw cR)
    ·simp[dG,ag,tz,if_pos aZ]
   ·have aZ:¬b<hB r:=by
     intro aZ
     rw[if_neg (fun h=>Rat.lt_irrefl (Std.lt_trans h aZ)),if_neg (fun h=>Rat.lt_irrefl (h▸aZ))]at ae
     omega
    refine jN _ _ _ ⟨pC.aw cR,?_,?_⟩
    ·simp only[dG,ag,tz,if_neg aZ]
     simpa using hm.ext (pC.aw cR)
    ·simp[dG,ag,tz,if_neg aZ,Np,bJ]
  ·rintro eI fR b5 ⟨cP,o,aa⟩
   exact aV _ _ _ (by simp[a_]) ⟨ch.aw cP,by simpa using o,by simpa using aa⟩
 ·rintro c_ en bU a_ ⟨ch,hm,bJ⟩
  simp at hm bJ
  simp[bJ]
  refine c2.mk hm.whole ?_
  simp[bd,bJ]
  exact aC _ _ ⟨jY.aw (bK.aw ch),_,rfl,hm⟩
def gP(m:Nat)(t:List (List Int)):List (List Int):=(List.range m).map fun k=>t.map fun r=>r[k]?.getD 0
theorem O2{m:Nat}{t:List (List Int)}:fp m (da t)=da (gP m t):=by
 unfold fp da gP
 rw[List.map_map]
 apply List.map_congr_left
 intro k _
 unfold iV
 simp
 intro r _
 cases r[k]?<;>simp
theorem aaX(r:List Int)(a:Int):(r.map fun x=>((x:Int):Rat)).foldl (·+·) ((a:Int):Rat)=((a+r.sum:Int):Rat):=by
 induction r generalizing a with
 | nil=>simp
 | cons x r a1=>
  simp only[List.map_cons,List.foldl_cons,List.sum_cons]
  rw[<-Rat.intCast_add,a1]
  congr 1
  omega
theorem OZ(r:List Int):hB (r.map fun x=>((x:Int):Rat))=((r.sum:Int):Rat):=by
 have:=aaX r 0
 simpa[hB]using this
theorem ab8{r:List Int}{B:Int}(h:∀x∈r,0<=x/\x<=B):0<=r.sum/\r.sum<=B*r.length:=by
 induction r with
 | nil=>simp
 | cons x r a1=>
  have o:=h x (by simp)
  have aa:=a1 fun y aI=>h y (by simp[aI])
  simp only[List.sum_cons,List.length_cons]
  rw[Int.natCast_add,Int.mul_add]
  simp
  omega
def jJ(t:List (List Int)):Prop:=∀r∈t,r.length<=1000/\∀x∈r,0<=x/\x<=1000000
theorem jJ.sum{r:List Int}(o:r.length<=1000)(aa:∀x∈r,0<=x/\x<=1000000):0<=r.sum/\r.sum<=1000000000:=by
 have:=ab8 aa
 omega
theorem jJ.ko{t:List (List Int)}(h:jJ t):uB 64 (da t):=by
 intro r al
 unfold da at al
 rw[List.mem_map]at al
 obtain⟨dW,fO,rfl⟩:=al
 obtain⟨o,aa⟩:=h dW fO
 refine⟨fun k=>?_,fun q av=>?_⟩
 ·rw[<-List.map_take,OZ]
  have:=jJ.sum (r:=dW.take k) (by simp;omega) fun x J=>aa x (List.mem_of_mem_take J)
  exact dh.int (by omega) (by decide)
 ·rw[List.mem_map]at av
  obtain⟨x,J,rfl⟩:=av
  have:=aa x J
  exact dh.int (by omega) (by decide)
theorem jJ.fp{m:Nat}{t:List (List Int)}(h:jJ t)(ar:t.length<=1000):jJ (gP m t):=by
 intro r al
 unfold gP at al
 rw[List.mem_map]at al
 obtain⟨k,-,rfl⟩:=al
 refine⟨by simpa using ar,fun x J=>?_⟩
 rw[List.mem_map]at J
 obtain⟨dW,fO,rfl⟩:=J
 cases ak:dW[k]? with
 | none=>simp
 | some y=>exact(h dW fO).2 y (List.mem_of_getElem? ak)
theorem g0.small{t:List (List Int)}(h:g0 t):jJ t:=by
 intro r al
 obtain⟨o,aa,aA,bj,bJ⟩:=h
 have:=bJ r al
 unfold lV at this
 simp at this
 refine⟨by omega,fun x J=>?_⟩
 have:=this.2 x J
 omega
theorem g0.len{t:List (List Int)}(h:g0 t):∀r∈t,r.length=(t[0]?.getD []).length:=by
 intro r al
 obtain⟨o,aa,aA,bj,bJ⟩:=h
 have:=bJ r al
 unfold lV at this
 simp at this
 simpa using this.1
def ir(t:List (List Int)):Int×Int×Nat:=
 let m:=(t[0]?.getD []).length
 let j:=dG (dU (da t)) t.length
 let k:=dG (dU (da (gP m t))) m
 if j.1<k.1 then(k.1.num,1,k.2)else(j.1.num,0,j.2)
theorem GG{t:List (List Int)}{i:Nat}:dU (da t) i=(((t[i]?.getD []).sum:Int):Rat):=by
 unfold dU da
 rw[List.getElem?_map]
 cases t[i]? with
 | none=>simp[hB]
 | some r=>simp only[Option.map_some,Option.getD_some];exact OZ r
theorem BY{t:List (List Int)}(h:jJ t)(n:Nat):(dG (dU (da t)) n).1.num.natAbs<=1000000000:=by
 rw[(tT _ n).1,GG,Rat.num_intCast]
 cases al:t[(dG (dU (da t)) n).2]? with
 | none=>simp
 | some r=>
  have:=h r (List.mem_of_getElem? al)
  have:=jJ.sum this.1 this.2
  simp only[Option.getD_some]
  omega
theorem Kc{a b:Rat}(ae:(0:Int)<if a<b then-1 else if a=b then 0 else 1):b<a:=by
 by_cases o:a<b
 ·rw[if_pos o]at ae;omega
 ·rw[if_neg o]at ae
  by_cases aa:a=b
  ·rw[if_pos aa]at ae;omega
  ·exact Std.lt_of_le_of_ne (Rat.not_lt.1 o) (Ne.symm aa)
theorem Ke{a b:Rat}(ae:¬(0:Int)<if a<b then-1 else if a=b then 0 else 1):¬b<a:=by
 intro aZ
 rw[if_neg (fun h=>Rat.lt_irrefl (Std.lt_trans h aZ)),if_neg (fun h=>Rat.lt_irrefl (h▸aZ))]at ae
 omega
theorem Ps{v:Value}{a:Int}{H:ab}(bw:du H v a)(aH:a.natAbs<=1000000000):aO prog 37 [v] H (fun u H1=>Ext H H1/\u= .tuple #[.int .i64 a,.bool true]):=abS bw (by omega)
theorem Rl{v:Value}{t:List (List Int)}{H:ab}(bf:kt H v t)(ar:t.length<65536)(al:∀r∈t,r.length<65536):
  aO prog 9 [v] H (fun u H1=>Ext H H1/\(g0 t->u= .tuple #[.int .i64 (ir t).1,.int .i64 (ir t).2.1,.int .i64 (ir t).2.2,.int .i64 0])/\(¬g0 t->u= .tuple #[.int .i64 0,.int .i64 0,.int .i64 0,.int .i64 1])):=by
 refine aO.b9 fun Q aC=>?_
 obtain⟨m,hm⟩:∃m,m=(t[0]?.getD []).length:=⟨_,rfl⟩
 apply YZ (by simp)
 simp[Jk]
 refine aT.mk (Hk bf (by omega) fun r h=>by have:=al r h;omega) ?_
 rintro u H1 ⟨bq,rfl⟩
 simp
 refine bs.mk (fun an=>?good) (fun an=>?bad)
 case bad=>
  simp at an
  simp[bd]
  exact aC _ _ ⟨bq,fun h=>absurd h an,fun _=>rfl⟩
 simp at an
 have ao:=an.small
 have eG:=an.len
 have v1:=an.1
 have v2:=an.2.1
 have mo:=an.2.2.1
 have v4:=an.2.2.2.1
 rw[<-hm]at eG mo v4
 simp
 refine aT.mk (GB (bf.ext bq).row (by omega) al fun r h x J=>by have:=(ao r h).2 x J;omega) ?_
 rintro _ aS ⟨bl,JR,Ki,rfl,rv⟩
 simp
 have bK:Ext aS (aS++[.dead]):=Ext.dead aS
 have MW:∀r∈da t,r.length=m:=fun r h=>by
  unfold da at h
  rw[List.mem_map]at h
  obtain⟨dW,cA,rfl⟩:=h
  simpa using eG dW cA
 refine aT.mk (BZ (N:=64) (rv.ext bK) (by simp[da];omega) (by simp[da];omega) (fun r h=>by have:=MW r h;omega) ao.ko (by decide)) ?_
 rintro u bU ⟨ch,w,rfl,hw⟩
 have rZ:=hw.whole
 simp
 refine c2.mk hw.whole ?_
 simp
 have cP:Ext bU (bU++[.dead]):=Ext.dead bU
 have pB:=bK.aw (ch.aw cP)
 refine aT.mk (PM (m:=m) (rv.ext pB) (by simp[da];omega) (by simp[da];omega) MW (by omega)) ?_
 rintro u dx ⟨cu,hq,rfl,nB⟩
 rw[O2]at nB
 have dc:=ao.fp (m:=m) (by omega)
 simp
 refine aT.mk (BZ (N:=64) nB (by simp[da,gP];omega) (by simp[da,gP];omega) (fun r h=>by
  unfold da gP at h
  simp at h
  obtain⟨k,-,rfl⟩:=h
  simp;omega) dc.ko (by decide)) ?_
 rintro u c6 ⟨cR,cn,rfl,je⟩
 simp
 refine c2.mk je.whole ?_
 simp
 have cW:Ext c6 (c6++[.dead]):=Ext.dead c6
 have gf:(da t).length=t.length:=by simp[da]
 have gB:(da (gP m t)).length=m:=by simp[da,gP]
 have r2:=cP.aw (cu.aw (cR.aw cW))
 have qp:=BY ao t.length
 have VG:=BY dc m
 rw[gf]at hw
 rw[gB]at je
 have abO:=yY ao.ko (t:=da t) (n:=t.length) (by simp[da];omega) (by simp[da])
 have abP:=yY dc.ko (t:=da (gP m t)) (n:=m) (by simp[da,gP];omega) (by simp[da,gP])
 have bD:ir t=if(dG (dU (da t)) t.length).1<(dG (dU (da (gP m t))) m).1 then((dG (dU (da (gP m t))) m).1.num,1,(dG (dU (da (gP m t))) m).2)else((dG (dU (da t)) t.length).1.num,0,(dG (dU (da t)) t.length).2):=by
  unfold ir
  rw[<-hm]
 rw[gf,gB]
 refine aT.mk (Cd (N:=64) (je.ext cW) (hw.ext r2) abP abO (by decide)) ?_
 rintro u fz ⟨dy,rfl⟩
 simp
 refine bs.bZ (fun ae=>?_) (fun ae=>?_)
 ·have aZ:=Kc ae
  rw[if_pos aZ]at bD
  simp
  refine aT.mk (OE (je.ext (cW.aw dy))) ?_
  rintro z k9 ⟨gL,aM⟩
  simp
  refine aT.mk (Ps aM VG) ?_
  rintro z iS ⟨gq,rfl⟩
  simp[bd]
  exact aC _ _ ⟨bq.aw (bl.aw (bK.aw (ch.aw (r2.aw (dy.aw (gL.aw gq)))))),fun _=>by rw[bD],fun h=>absurd an h⟩
 ·have aZ:=Ke ae
  rw[if_neg aZ]at bD
  simp
  refine aT.mk (OE (hw.ext (r2.aw dy))) ?_
  rintro z k9 ⟨gL,aM⟩
  simp
  refine aT.mk (Ps aM qp) ?_
  rintro z iS ⟨gq,rfl⟩
  simp[bd]
  exact aC _ _ ⟨bq.aw (bl.aw (bK.aw (ch.aw (r2.aw (dy.aw (gL.aw gq)))))),fun _=>by rw[bD],fun h=>absurd an h⟩
end Go.dq
end
section
namespace Go.dq
def bY:Nat->(Nat->Rat)->Rat
 | 0,_=>0
 | n+1,f=>bY n f+f n
theorem hp{n:Nat}{f g:Nat->Rat}(h:∀i,i<n->f i=g i):bY n f=bY n g:=by
 induction n with
 | zero=>rfl
 | succ n a1=>simp only[bY];rw[a1 fun i af=>h i (by omega),h n (by omega)]
theorem GQ(n:Nat)(f g:Nat->Rat):bY n (fun i=>f i+g i)=bY n f+bY n g:=by
 induction n with
 | zero=>simp only[bY];grind
 | succ n a1=>simp only[bY];rw[a1];grind
theorem sn(n:Nat):bY n (fun _=>0)=0:=by
 induction n with
 | zero=>rfl
 | succ n a1=>simp only[bY];rw[a1];grind
theorem GR{n:Nat}{f g:Nat->Rat}(h:∀i,i<n->f i<=g i):bY n f<=bY n g:=by
 induction n with
 | zero=>simp only[bY];grind
 | succ n a1=>simp only[bY];have:=a1 fun i af=>h i (by omega);have:=h n (by omega);grind
theorem GU{n:Nat}{f:Nat->Rat}(h:∀i,i<n->0<=f i):0<=bY n f:=by
 have:=GR (n:=n) (f:=fun _=>0) (g:=f) h
 rw[sn]at this;exact this
theorem ab7(n m:Nat)(f:Nat->Nat->Rat):bY n (fun i=>bY m (f i))=bY m (fun k=>bY n (fun i=>f i k)):=by
 induction n with
 | zero=>simp[bY,sn]
 | succ n a1=>simp only[bY];rw[a1,<-GQ]
theorem GV(n m:Nat)(f:Nat->Rat):bY (n+m) f=bY n f+bY m (fun i=>f (n+i)):=by
 induction m with
 | zero=>simp only[bY,Nat.add_zero];grind
 | succ m a1=>rw[<-Nat.add_assoc];simp only[bY];rw[a1];grind
theorem sm{n:Nat}(j:Nat)(f:Nat->Rat):bY n (fun i=>if i=j then f i else 0)=if j<n then f j else 0:=by
 induction n with
 | zero=>simp[bY]
 | succ n a1=>
  simp only[bY];rw[a1]
  by_cases o:n=j
  ·subst o;simp;grind
  ·by_cases aa:j<n
   ·simp[o,aa,show j<n+1 by omega];grind
   ·simp[o,aa,show¬j<n+1 by omega];grind
theorem GS{n j:Nat}{f:Nat->Rat}(h:∀i,i<n->0<=f i)(aY:j<n):f j<=bY n f:=by
 induction n with
 | zero=>omega
 | succ n a1=>
  simp only[bY]
  have aH:=GU (n:=n) (f:=f) fun i af=>h i (by omega)
  have o:=h n (by omega)
  by_cases mO:j=n
  ·subst mO;grind
  ·have:=a1 (fun i af=>h i (by omega)) (by omega);grind
def mB(n:Nat)(p:Nat->Bool):Nat:=((List.range n).filter p).length
theorem RE(n:Nat)(p:Nat->Bool):mB (n+1) p=mB n p+if p n=true then 1 else 0:=by
 unfold mB
 rw[List.range_succ,List.filter_append,List.length_append]
 congr 1
 by_cases h:p n=true<;>simp[h]
theorem Gg{α:Type}[DecidableEq α]:∀{l dn:List α},l.Nodup->(∀x∈l,x∈dn)->l.length<=dn.length
 | [],dn,_,_=>by simp
 | x::l,dn,aJ,ao=>by
  have o:=ao x (by simp)
  have hM:=List.nodup_cons.1 aJ
  have aa:=Gg (l:=l) (dn:=dn.erase x) hM.2 fun y aI=>by
   have:y≠x:=fun e=>hM.1 (e▸aI)
   exact(List.mem_erase_of_ne this).2 (ao y (by simp[aI]))
  have aA:=List.length_erase_of_mem o
  have bj:=List.length_pos_of_mem o
  simp only[List.length_cons]
  omega
theorem RD{n:Nat}{p:Nat->Bool}{l:List Nat}(aJ:l.Nodup)(h:∀x∈l,x<n/\p x=true):l.length<=mB n p:=
 Gg aJ fun x J=>by simp[h x J]
theorem PA(n:Nat)(p:Nat->Bool)(c:Rat):bY n (fun i=>if p i=true then c else 0)=(mB n p:Rat)*c:=by
 induction n with
 | zero=>simp[bY,mB]
 | succ n a1=>
  simp only[bY];rw[a1,RE]
  by_cases h:p n=true
  ·simp[h];grind
  ·simp[h];grind
theorem ev{n:Nat}{A:Nat->Nat->Rat}{L:Rat}(aH:∀i k,i<n->k<n->0<=A i k)(al:∀i,i<n->bY n (A i)=L)(ae:∀k:Nat,k<n->bY n (fun i=>A i k)=L)(dm:0<L)
  (nX S:Nat->Bool)(od:∀j,j<n->nX j=true->∀k:Nat,k<n->0<A j k->S k=true):mB n nX<=mB n S:=by
 have bk:bY n (fun j=>if nX j=true then L else 0)=bY n (fun j=>bY n (fun k=>if nX j=true then A j k else 0)):=by
  apply hp
  intro j aY
  by_cases h:nX j=true
  ·simp only[h,if_true];exact(al j aY).symm
  ·simp only[if_neg h];exact(sn n).symm
 have bp:bY n (fun j=>bY n (fun k=>if nX j=true then A j k else 0))<=bY n (fun j=>bY n (fun k=>if S k=true then A j k else 0)):=by
  refine GR fun j aY=>GR fun k ak=>?_
  have:=aH j k aY ak
  by_cases h:nX j=true
  ·simp only[h,if_true]
   by_cases ao:S k=true
   ·simp[ao]
   ·rw[if_neg ao]
    have:¬0<A j k:=fun aU=>ao (od j aY h k ak aU)
    grind
  ·simp only[if_neg h]
   split
   ·exact this
   ·grind
 have e0:bY n (fun j=>bY n (fun k=>if S k=true then A j k else 0))=bY n (fun k=>if S k=true then L else 0):=by
  rw[ab7]
  apply hp
  intro k ak
  by_cases h:S k=true
  ·simp only[h,if_true];exact ae k ak
  ·simp only[if_neg h];exact sn n
 rw[<-bk,PA,e0,PA]at bp
 by_cases aZ:mB n nX<=mB n S
 ·exact aZ
 ·have aa:(mB n S:Rat)<(mB n nX:Rat):=by exact_mod_cast Nat.lt_of_not_le aZ
  have aA:=Rat.mul_lt_mul_of_pos_right aa dm
  grind
def q_(n:Nat)(A:Nat->Nat->Rat)(ca:List Int):Prop:=ca.length=n/\∀k:Nat,k<n->ca[k]?.getD 0= -1\/∃j:Nat,j<n/\ca[k]?.getD 0=j/\0<A j k
structure q7 (n:Nat) (A:Nat->Nat->Rat) (ca:List Int) (dw:List Bool) (d_:Nat) (b:Bool) (hA:List Int) (cS:List Bool):Prop where
 len:cS.length=n
 mono:∀k:Nat,dw[k]?.getD false=true->cS[k]?.getD false=true
 no:b=false->hA=ca/\(∀k:Nat,k<n->0<A d_ k->cS[k]?.getD false=true)/\∀k:Nat,k<n->cS[k]?.getD false=true->dw[k]?.getD false=false->∃j:Nat,j<n/\ca[k]?.getD 0=j/\∀i,i<n->0<A j i->cS[i]?.getD false=true
 yes:b=true->q_ n A hA/\(∀k:Nat,dw[k]?.getD false=true->hA[k]?=ca[k]?)/\∀j:Nat,hA.count (j:Int)=ca.count (j:Int)+if j=d_ then 1 else 0
def pQ(dw:List Bool):Nat:=dw.count false
theorem aeS{dw:List Bool}{i:Nat}(af:i<dw.length)(h:dw[i]?.getD false=false):pQ (dw.set i true)+1=pQ dw:=by
 unfold pQ
 rw[bz af]at h
 simp at h
 rw[List.count_set af,h]
 have:0<List.count false dw:=List.count_pos_iff.2 (h▸List.getElem_mem af)
 simp
 omega
theorem Qk:∀{dw cS:List Bool},cS.length=dw.length->(∀k:Nat,dw[k]?.getD false=true->cS[k]?.getD false=true)->pQ cS<=pQ dw
 | [],cS,ar,_=>by
  have:cS=[]:=List.eq_nil_of_length_eq_zero (by simpa using ar)
  subst this
  exact Nat.le_refl _
 | b::dw,[],ar,_=>by simp at ar
 | b::dw,cy::cS,ar,h=>by
  have a1:=Qk (dw:=dw) (cS:=cS) (by simpa using ar) fun k ak=>by
   have:=h (k+1)
   simp at this
   exact this ak
  have aH:=h 0
  simp at aH
  unfold pQ at a1⊢
  rw[List.count_cons,List.count_cons]
  cases b with
  | true=>simp[aH rfl];exact a1
  | false=>cases cy<;>simp<;>omega
structure j3 (n:Nat) (A:Nat->Nat->Rat) (ca:List Int) (dw:List Bool) (d_ i:Nat) (cS:List Bool):Prop where
 len:cS.length=n
 mono:∀k:Nat,dw[k]?.getD false=true->cS[k]?.getD false=true
 done:∀k:Nat,k<i->0<A d_ k->cS[k]?.getD false=true
 new:∀k:Nat,k<n->cS[k]?.getD false=true->dw[k]?.getD false=false->∃j:Nat,j<n/\ca[k]?.getD 0=j/\∀i,i<n->0<A j i->cS[i]?.getD false=true
section
variable {n:Nat} {A:Nat->Nat->Rat} {ca hA:List Int} {dw cS wi:List Bool} {d_ i:Nat}
theorem j3.zero(h:dw.length=n):j3 n A ca dw d_ 0 dw:=⟨h,fun _ h=>h,fun k ak=>by omega,fun k _ o aa=>by rw[o]at aa;cases aa⟩
theorem j3.skip(h:j3 n A ca dw d_ i cS)(ao:cS[i]?.getD false=true\/A d_ i<=0):j3 n A ca dw d_ (i+1) cS:=
 ⟨h.len,h.mono,fun k ak aU=>by
  by_cases hy:k<i
  ·exact h.done k hy aU
  ·obtain rfl:k=i:=by omega
   rcases ao with ao | ao
   ·exact ao
   ·grind,h.new⟩
theorem s4{l:List Bool}{i k:Nat}(af:i<l.length):(l.set i true)[k]?.getD false=(decide (k=i) || l[k]?.getD false):=by
 rw[List.getElem?_set]
 by_cases h:i=k
 ·subst h;simp[af]
 ·simp[h,show¬k=i by omega]
theorem j3.fail(h:j3 n A ca dw d_ i cS)(af:i<n)(iy:cS[i]?.getD false=false){j:Nat}(aY:j<n)(hj:ca[i]?.getD 0=j)(al:q7 n A ca (cS.set i true) j false hA wi):hA=ca/\j3 n A ca dw d_ (i+1) wi:=by
 obtain⟨e,ev,rP⟩:=al.no rfl
 have cK:i<cS.length:=by rw[h.len];exact af
 have hm:∀k,cS[k]?.getD false=true->wi[k]?.getD false=true:=fun k ak=>al.mono k (by rw[s4 cK,ak];simp)
 have EU:wi[i]?.getD false=true:=al.mono i (by rw[s4 cK];simp)
 refine⟨e,al.len,fun k ak=>hm k (h.mono k ak),fun k ak aU=>?_,fun k ak o aa=>?_⟩
 ·by_cases hy:k<i
  ·exact hm k (h.done k hy aU)
  ·obtain rfl:k=i:=by omega
   exact EU
 ·by_cases hy:k=i
  ·subst hy;exact⟨j,aY,hj,ev⟩
  ·by_cases lv:cS[k]?.getD false=true
   ·obtain⟨ek,a0,a4,bI⟩:=h.new k ak lv aa
    exact⟨ek,a0,a4,fun i af aU=>hm i (bI i af aU)⟩
   ·exact rP k ak o (by rw[s4 cK];simp[hy];simpa using lv)
theorem j3.end(h:j3 n A ca dw d_ n cS):q7 n A ca dw d_ false ca cS:=⟨h.len,h.mono,fun _=>⟨rfl,h.done,h.new⟩,fun h=>by cases h⟩
theorem Kg{l:List Int}{i:Nat}(af:i<l.length){a:Int}(j:Int):(l.set i a).count j+(if l[i]?.getD 0=j then 1 else 0)=l.count j+if a=j then 1 else 0:=by
 rw[List.count_set af]
 rw[bz af]
 simp only[Option.getD_some,beq_iff_eq]
 by_cases h:l[i]=j
 ·have:0<List.count j l:=List.count_pos_iff.2 (h▸List.getElem_mem af)
  simp[h];split<;>omega
 ·simp[h]
theorem q_.set(h:q_ n A ca)(af:i<n)(aY:d_<n)(aU:0<A d_ i):q_ n A (ca.set i (d_:Int)):=by
 refine⟨by simp[h.1],fun k ak=>?_⟩
 by_cases hy:k=i
 ·subst hy
  rw[List.getElem?_set_self (by rw[h.1];exact ak)]
  exact .inr ⟨d_,aY,rfl,aU⟩
 ·rw[List.getElem?_set_ne (by omega)];exact h.2 k ak
theorem j3.free(h:j3 n A ca dw d_ i cS)(jv:q_ n A ca)(af:i<n)(tl:d_<n)(aU:0<A d_ i)(iy:cS[i]?.getD false=false)(hm:ca[i]?.getD 0<0):q7 n A ca dw d_ true (ca.set i (d_:Int)) (cS.set i true):=by
 have cK:i<cS.length:=by rw[h.len];exact af
 have eG:i<ca.length:=by rw[jv.1];exact af
 refine⟨by simp[h.len],fun k ak=>by rw[s4 cK,h.mono k ak];simp,(fun h=>by cases h),fun _=>⟨jv.set af tl aU,fun k ak=>?_,fun j=>?_⟩⟩
 ·rw[List.getElem?_set_ne]
  rintro rfl
  rw[h.mono _ ak]at iy;cases iy
 ·have:=Kg eG (a:=(d_:Int)) (j:Int)
  rw[if_neg (by omega)]at this
  rw[Nat.add_zero]at this
  rw[this]
  congr 1
  by_cases aY:j=d_
  ·simp[aY]
  ·rw[if_neg aY,if_neg (by omega)]
theorem j3.Gc(h:j3 n A ca dw d_ i cS)(jv:q_ n A ca)(af:i<n)(tl:d_<n)(aU:0<A d_ i)(iy:cS[i]?.getD false=false){j:Nat}(hm:ca[i]?.getD 0=j)(al:q7 n A ca (cS.set i true) j true hA wi):q7 n A ca dw d_ true (hA.set i (d_:Int)) wi:=by
 have cK:i<cS.length:=by rw[h.len];exact af
 obtain⟨LA,AZ,U8⟩:=al.yes rfl
 have eG:i<hA.length:=by rw[LA.1];exact af
 have hj:hA[i]?=ca[i]?:=AZ i (by rw[s4 cK];simp)
 refine⟨al.len,fun k ak=>al.mono k (by rw[s4 cK,h.mono k ak];simp),(fun h=>by cases h),fun _=>⟨LA.set af tl aU,fun k ak=>?_,fun x=>?_⟩⟩
 ·rw[List.getElem?_set_ne]
  ·exact AZ k (by rw[s4 cK,h.mono k ak];simp)
  ·rintro rfl
   rw[h.mono _ ak]at iy;cases iy
 ·have:=Kg eG (a:=(d_:Int)) (x:Int)
  rw[hj,hm,U8 x]at this
  by_cases o:x=j
  ·subst o
   simp at this
   by_cases aa:x=d_
   ·subst aa;simp at this⊢;omega
   ·rw[if_neg aa];rw[if_neg (by omega)]at this;omega
  ·rw[if_neg (by omega),if_neg o]at this
   by_cases aa:x=d_
   ·subst aa;simp at this⊢;omega
   ·rw[if_neg aa];rw[if_neg (by omega)]at this;omega
end
structure nc (n:Nat) (A:Nat->Nat->Rat) (t:Nat) (ca:List Int):Prop where
 ok:q_ n A ca
 rj:∀j:Nat,ca.count (j:Int)=if j<t then 1 else 0
theorem nc.zero(n:Nat)(A:Nat->Nat->Rat):nc n A 0 (List.replicate n (-1)):=
 ⟨⟨by simp,fun k ak=> .inl (by simp[ak])⟩,fun j=>by
  simp[List.count_replicate]⟩
theorem F0{l:List Int}{x:Int}(h:l.count x<=1){a b:Nat}(aL:l[a]?=some x)(ag:l[b]?=some x):a=b:=by
 induction l generalizing a b with
 | nil=>simp at aL
 | cons y l a1=>
  rw[List.count_cons]at h
  cases a with
  | zero=>
   cases b with
   | zero=>rfl
   | succ b=>
    simp at aL ag
    have:0<l.count x:=List.count_pos_iff.2 (List.mem_of_getElem? ag)
    simp[aL]at h;omega
  | succ a=>
   cases b with
   | zero=>
    simp at aL ag
    have:0<l.count x:=List.count_pos_iff.2 (List.mem_of_getElem? aL)
    simp[ag]at h;omega
   | succ b=>
    simp at aL ag
    rw[a1 (by omega) aL ag]
theorem nc.next{n t:Nat}{A:Nat->Nat->Rat}{L:Rat}{ca hA:List Int}{cS:List Bool}{b:Bool}(aH:∀i k,i<n->k<n->0<=A i k)(al:∀i,i<n->bY n (A i)=L)(ae:∀k:Nat,k<n->bY n (fun i=>A i k)=L)(dm:0<L)
  (h:nc n A t ca)(bM:t<n)(aB:q7 n A ca (List.replicate n false) t b hA cS):b=true/\nc n A (t+1) hA:=by
 have ag:b=true:=by
  cases b with
  | true=>rfl
  | false=>
   exfalso
   obtain⟨-,o,aa⟩:=aB.no rfl
   have bL:∀k:Nat,k<n->cS[k]?.getD false=true->∃j:Nat,j<n/\ca[k]?.getD 0=j/\∀i,i<n->0<A j i->cS[i]?.getD false=true:=fun k ak ao=>aa k ak ao (by simp[ak])
   have ev:=ev aH al ae dm (fun j=>decide (j=t) || (List.range n).any fun k=>cS[k]?.getD false&&ca[k]?.getD 0==(j:Int)) (fun k=>cS[k]?.getD false) (fun j aY od k ak aU=>by
    simp at od
    rcases od with rfl | ⟨b_,a0,a4,bI⟩
    ·exact o k ak aU
    ·obtain⟨ek,a6,hq,cn⟩:=bL b_ a0 a4
     have:ek=j:=by omega
     subst this
     exact cn k ak aU)
   have hh:=RD (n:=n) (p:=fun j=>decide (j=t) || (List.range n).any fun k=>cS[k]?.getD false&&ca[k]?.getD 0==(j:Int)) (l:=t::((List.range n).filter fun k=>cS[k]?.getD false).map fun k=>(ca[k]?.getD 0).toNat) (by
    have Fb:∀k:Nat,k<n->cS[k]?.getD false=true->∃j:Nat,j<t/\ca[k]?=some (j:Int):=fun k ak ao=>by
     obtain⟨j,a0,a4,-⟩:=bL k ak ao
     have gB:k<ca.length:=by rw[h.ok.1];exact ak
     have hm:ca[k]?=some (j:Int):=by rw[bz gB]at a4⊢;simpa using a4
     have:0<ca.count (j:Int):=List.count_pos_iff.2 (List.mem_of_getElem? hm)
     rw[h.rj]at this
     by_cases vB:j<t
     ·exact⟨j,vB,hm⟩
     ·rw[if_neg vB]at this;omega
    rw[List.nodup_cons]
    refine⟨fun hm=>?_,?_⟩
    ·simp at hm
     obtain⟨k,⟨a0,a4⟩,bI⟩:=hm
     obtain⟨j,a6,hq⟩:=Fb k a0 a4
     rw[hq]at bI;simp at bI;omega
    ·rw[List.nodup_iff_pairwise_ne,List.pairwise_map]
     have ig:((List.range n).filter fun k=>cS[k]?.getD false).Nodup:=List.nodup_range.filter _
     refine List.Pairwise.imp_of_mem (fun{a b} aL ag vl=>?_) ig
     simp at aL ag
     obtain⟨ajC,a6,hq⟩:=Fb a aL.1 aL.2
     obtain⟨ajD,cn,sA⟩:=Fb b ag.1 ag.2
     rw[hq,sA]
     simp
     rintro rfl
     exact vl (F0 (by rw[h.rj];split<;>omega) hq sA)) (fun x J=>by
    simp at J
    rcases J with rfl | ⟨k,⟨a0,a4⟩,bI⟩
    ·exact⟨bM,by simp⟩
    ·obtain⟨j,a6,hq,-⟩:=bL k a0 a4
     have:x=j:=by omega
     subst this
     exact⟨a6,by simp;exact .inr ⟨k,a0,a4,hq⟩⟩)
   rw[List.length_cons,List.length_map]at hh
   have:mB n (fun k=>cS[k]?.getD false)=((List.range n).filter fun k=>cS[k]?.getD false).length:=rfl
   omega
 obtain⟨a0,-,bI⟩:=aB.yes ag
 refine⟨ag,a0,fun j=>?_⟩
 rw[bI,h.rj]
 by_cases o:j<t
 ·rw[if_pos o,if_neg (by omega),if_pos (by omega)]
 ·by_cases aa:j=t
  ·rw[if_neg o,if_pos aa,if_pos (by omega)]
  ·rw[if_neg o,if_neg aa,if_neg (by omega)]
structure lT (n:Nat) (p:List Int):Prop where
 len:p.length=n
 d_:∀k,k<n->∃j:Nat,j<n/\p[k]?=some (j:Int)
 rj:∀j,j<n->p.count (j:Int)=1
theorem nc.perm{n:Nat}{A:Nat->Nat->Rat}{ca:List Int}(h:nc n A n ca):lT n ca/\∀k j:Nat,k<n->ca[k]?=some (j:Int)->0<A j k:=by
 have g4:∀k,k<n->∃j:Nat,j<n/\ca[k]?=some (j:Int)/\0<A j k:=by
  intro k ak
  have gB:k<ca.length:=by rw[h.ok.1];exact ak
  rcases h.ok.2 k ak with o | ⟨j,a0,a4,bI⟩
  ·exfalso
   have hm:(-1:Int)∈ca:=by
    rw[bz gB]at o
    simp at o
    exact o▸List.getElem_mem gB
   have:=Gg (l:=(-1:Int)::(List.range n).map Int.ofNat) (dn:=ca) (by
    rw[List.nodup_cons]
    refine⟨by simp,?_⟩
    rw[List.nodup_iff_pairwise_ne,List.pairwise_map]
    exact List.Pairwise.imp (fun{a b} vl=>by simp only[Int.ofNat_eq_natCast,ne_eq];omega) List.nodup_range) (fun x J=>by
    simp at J
    rcases J with rfl | ⟨j,a0,rfl⟩
    ·exact hm
    ·have:=h.rj j
     rw[if_pos a0]at this
     exact List.count_pos_iff.1 (by rw[this];omega))
   rw[List.length_cons,List.length_map,List.length_range,h.ok.1]at this
   omega
  ·exact⟨j,a0,by rw[bz gB]at a4⊢;simpa using a4,bI⟩
 refine⟨⟨h.ok.1,fun k ak=>?_,fun j aY=>by rw[h.rj,if_pos aY]⟩,fun k j ak aY=>?_⟩
 ·obtain⟨j,a0,a4,-⟩:=g4 k ak
  exact⟨j,a0,a4⟩
 ·obtain⟨ek,a0,a4,bI⟩:=g4 k ak
  rw[a4]at aY
  have:ek=j:=by simp at aY;omega
  exact this▸bI
theorem lT.at{n:Nat}{p:List Int}(h:lT n p){j:Nat}(aY:j<n):∃k,k<n/\p[k]?=some (j:Int)/\∀b_,p[b_]?=some (j:Int)->b_=k:=by
 have o:=h.rj j aY
 have hm:(j:Int)∈p:=List.count_pos_iff.1 (by rw[o];omega)
 obtain⟨k,ak⟩:=List.mem_iff_getElem?.1 hm
 refine⟨k,?_,ak,fun b_ lv=>F0 (by rw[o];omega) lv ak⟩
 have:=(cJ.1 ak).1
 rw[h.len]at this;exact this
def gu(p:Rat×List Int)(i k:Nat):Rat:=if p.2[k]?=some (i:Int)then p.1 else 0
def e2:List (Rat×List Int)->Nat->Nat->Rat
 | [],_,_=>0
 | p::a5,i,k=>gu p i k+e2 a5 i k
theorem OR(a b:List (Rat×List Int))(i k:Nat):e2 (a++b) i k=e2 a i k+e2 b i k:=by
 induction a with
 | nil=>simp[e2];grind
 | cons p a a1=>simp only[List.cons_append,e2];rw[a1];grind
def dv:List (Rat×List Int)->Rat
 | []=>0
 | p::a5=>p.1+dv a5
theorem OM(a b:List (Rat×List Int)):dv (a++b)=dv a+dv b:=by
 induction a with
 | nil=>simp[dv];grind
 | cons p a a1=>simp only[List.cons_append,dv];rw[a1];grind
theorem lT.row{n:Nat}{p:Rat×List Int}(h:lT n p.2){i:Nat}(af:i<n):bY n (fun k=>gu p i k)=p.1:=by
 obtain⟨k,ak,vE,W1⟩:=h.at af
 have:bY n (fun b_=>gu p i b_)=bY n (fun b_=>if b_=k then p.1 else 0):=by
  apply hp
  intro b_ lv
  unfold gu
  by_cases o:b_=k
  ·subst o;simp[vE]
  ·rw[if_neg o,if_neg fun aa=>o (W1 b_ aa)]
 rw[this,sm k (fun _=>p.1),if_pos ak]
theorem lT.rk{n:Nat}{p:Rat×List Int}(h:lT n p.2){k:Nat}(ak:k<n):bY n (fun i=>gu p i k)=p.1:=by
 obtain⟨j,aY,vE⟩:=h.d_ k ak
 have:bY n (fun i=>gu p i k)=bY n (fun i=>if i=j then p.1 else 0):=by
  apply hp
  intro i af
  unfold gu
  rw[vE]
  by_cases o:i=j
  ·subst o;simp
  ·rw[if_neg o,if_neg];simp;omega
 rw[this,sm j (fun _=>p.1),if_pos aY]
def lJ:Nat->(Nat->Nat)->Nat
 | 0,_=>0
 | n+1,f=>lJ n f+f n
theorem Cv{n:Nat}{f g:Nat->Nat}(h:∀i,i<n->f i<=g i):lJ n f<=lJ n g:=by
 induction n with
 | zero=>simp[lJ]
 | succ n a1=>simp only[lJ];have:=a1 fun i af=>h i (by omega);have:=h n (by omega);omega
theorem Pz{n:Nat}{f g:Nat->Nat}(h:∀i,i<n->f i<=g i){j:Nat}(aY:j<n)(aZ:f j<g j):lJ n f<lJ n g:=by
 induction n with
 | zero=>omega
 | succ n a1=>
  simp only[lJ]
  have o:=Cv (n:=n) fun i af=>h i (by omega)
  have aa:=h n (by omega)
  by_cases mO:j=n
  ·subst mO;omega
  ·have:=a1 (fun i af=>h i (by omega)) (by omega);omega
def nJ(n:Nat)(B:Nat->Nat->Rat):Nat:=lJ n fun i=>lJ n fun k=>if 0<B i k then 1 else 0
theorem OQ(n:Nat)(B:Nat->Nat->Rat):nJ n B<=n*n:=by
 have o:∀m (f:Nat->Nat) (c:Nat),(∀i,f i<=c)->lJ m f<=m*c:=by
  intro m f c aB
  induction m with
  | zero=>simp[lJ]
  | succ m a1=>simp only[lJ];have:=aB m;rw[Nat.succ_mul];omega
 exact o n _ n fun i=>by
  have:=o n (fun k=>if 0<B i k then 1 else 0) 1 fun k=>by split<;>omega
  omega
structure kP (n:Nat) (B:Nat->Nat->Rat) (L:Rat):Prop where
 iC:∀i k,i<n->k<n->0<=B i k
 row:∀i,i<n->bY n (B i)=L
 rk:∀k,k<n->bY n (fun i=>B i k)=L
def kE(B:Nat->Nat->Rat)(p:Rat×List Int)(i k:Nat):Rat:=B i k-gu p i k
theorem PB(n:Nat)(f g:Nat->Rat):bY n (fun i=>f i-g i)=bY n f-bY n g:=by
 induction n with
 | zero=>simp[bY];grind
 | succ n a1=>simp only[bY];rw[a1];grind
theorem kP.less{n:Nat}{B:Nat->Nat->Rat}{L:Rat}(h:kP n B L){p:Rat×List Int}(aU:lT n p.2)(aH:0<p.1)(hle:∀k j:Nat,k<n->p.2[k]?=some (j:Int)->p.1<=B j k)(jR:∃k j:Nat,k<n/\j<n/\p.2[k]?=some (j:Int)/\p.1=B j k):
  kP n (kE B p) (L-p.1)/\nJ n (kE B p)<nJ n B:=by
 have tp:∀i k,i<n->k<n->0<=kE B p i k:=fun i k af ak=>by
  unfold kE gu
  split
  ·rename_i aY
   have:=hle k i ak aY
   grind
  ·have:=h.iC i k af ak
   grind
 refine⟨⟨tp,fun i af=>?_,fun k ak=>?_⟩,?_⟩
 ·have:bY n (kE B p i)=bY n (fun k=>B i k-gu p i k):=rfl
  rw[this,PB,h.row i af,aU.row af]
 ·have:bY n (fun i=>kE B p i k)=bY n (fun i=>B i k-gu p i k):=rfl
  rw[this,PB,h.rk k ak,aU.rk ak]
 ·obtain⟨k,j,ak,aY,vE,e⟩:=jR
  have EZ:∀i k,i<n->k<n->(if 0<kE B p i k then 1 else 0)<=(if 0<B i k then 1 else 0):=fun i k af ak=>by
   by_cases o:0<kE B p i k
   ·have:0<B i k:=by
     unfold kE gu at o
     split at o<;>grind
    simp[o,this]
   ·simp[o]
  refine Pz (fun i af=>Cv fun k ak=>EZ i k af ak) aY (Pz (fun k ak=>EZ j k aY ak) ak ?_)
  have o:¬0<kE B p j k:=by unfold kE gu;rw[if_pos vE,e];grind
  have aa:0<B j k:=by rw[<-e];exact aH
  simp[o,aa]
theorem kP.none{n:Nat}{B:Nat->Nat->Rat}(h:kP n B 0){i k:Nat}(af:i<n)(ak:k<n):B i k=0:=by
 have o:=GS (f:=B i) (fun k ak=>h.iC i k af ak) ak
 rw[h.row i af]at o
 have:=h.iC i k af ak
 grind
structure m_ (n:Nat) (A:Nat->Nat->Rat) (L:Rat) (a5:List (Rat×List Int)) (B:Nat->Nat->Rat):Prop where
 kZ:kP n B (L-dv a5)
 parts:∀p∈a5,0<p.1/\lT n p.2
 sum:∀i k,i<n->k<n->A i k=e2 a5 i k+B i k
 nj:nJ n B+a5.length<=nJ n A
theorem m_.zero{n:Nat}{A:Nat->Nat->Rat}{L:Rat}(h:kP n A L):m_ n A L [] A:=
 ⟨by have:L-dv []=L:=by simp[dv];grind
     rw[this];exact h,by simp,fun i k _ _=>by simp[e2];grind,by simp⟩
theorem m_.next{n:Nat}{A:Nat->Nat->Rat}{L:Rat}{a5:List (Rat×List Int)}{B:Nat->Nat->Rat}(h:m_ n A L a5 B){p:Rat×List Int}(aU:lT n p.2)(aH:0<p.1)(hle:∀k j:Nat,k<n->p.2[k]?=some (j:Int)->p.1<=B j k)(jR:∃k j:Nat,k<n/\j<n/\p.2[k]?=some (j:Int)/\p.1=B j k):
  m_ n A L (a5++[p]) (kE B p):=by
 obtain⟨o,aa⟩:=h.kZ.less aU aH hle jR
 refine⟨?_,fun q av=>?_,fun i k af ak=>?_,?_⟩
 ·rw[OM]
  have:L-(dv a5+dv [p])=L-dv a5-p.1:=by simp[dv];grind
  rw[this];exact o
 ·simp at av
  rcases av with av | rfl
  ·exact h.parts q av
  ·exact⟨aH,aU⟩
 ·rw[OR,h.sum i k af ak]
  simp[e2,kE]
  grind
 ·have:=h.nj
  simp
  omega
structure sD (n:Nat) (A:Nat->Nat->Rat) (L:Rat) (a5:List (Rat×List Int)):Prop where
 parts:∀p∈a5,0<p.1/\lT n p.2
 sum:∀i k,i<n->k<n->e2 a5 i k=A i k
 len:dv a5=L
 nj:a5.length<=n*n
theorem m_.end{n:Nat}{A:Nat->Nat->Rat}{L:Rat}{a5:List (Rat×List Int)}{B:Nat->Nat->Rat}(aJ:0<n)(h:m_ n A L a5 B)(aM:¬0<L-dv a5):sD n A L a5:=by
 have aH:0<=L-dv a5:=by
  have:=GU (n:=n) (f:=B 0) fun k ak=>h.kZ.iC 0 k aJ ak
  rw[h.kZ.row 0 aJ]at this
  exact this
 have e:L-dv a5=0:=by grind
 have ar:=h.kZ
 rw[e]at ar
 refine⟨h.parts,fun i k af ak=>?_,by grind,?_⟩
 ·rw[h.sum i k af ak,ar.none af ak];exact(Rat.add_zero _).symm
 ·have:=h.nj
  have:=OQ n A
  omega
theorem Gn{a5:List (Rat×List Int)}(h:∀p∈a5,0<p.1):0<=dv a5/\∀p∈a5,p.1<=dv a5:=by
 induction a5 with
 | nil=>simp[dv]
 | cons q a5 a1=>
  obtain⟨o,aa⟩:=a1 fun p aU=>h p (by simp[aU])
  have aA:=h q (by simp)
  simp only[dv]
  refine⟨by grind,fun p aU=>?_⟩
  simp at aU
  rcases aU with rfl | aU
  ·grind
  ·have:=aa p aU;grind
def gY(n m:Nat)(A:Nat->Nat->Rat)(top:Rat)(i k:Nat):Rat:=
 if i<n then(if k<m then A i k else if k=m+i then top-bY m (A i)else 0)
 else(if k<m then(if k=i-n then top-bY n (fun j0=>A j0 k)else 0)else A (k-m) (i-n))
theorem ab2{n m:Nat}{A:Nat->Nat->Rat}{top:Rat}(aH:∀i k,i<n->k<m->0<=A i k)(al:∀i,i<n->bY m (A i)<=top)(ae:∀k,k<m->bY n (fun i=>A i k)<=top):kP (n+m) (gY n m A top) top:=by
 refine⟨fun i k af ak=>?_,fun i af=>?_,fun k ak=>?_⟩
 ·unfold gY
  split
  ·rename_i o
   split
   ·exact aH i k o ‹_›
   ·split
    ·have:=al i o;grind
    ·grind
  ·split
   ·split
    ·have:=ae k ‹_›;grind
    ·grind
   ·exact aH _ _ (by omega) (by omega)
 ·by_cases o:i<n
  ·rw[Nat.add_comm,GV]
   have bk:bY m (gY n m A top i)=bY m (A i):=hp fun k ak=>by simp[gY,o,ak]
   have bp:bY n (fun k=>gY n m A top i (m+k))=bY n (fun k=>if k=i then top-bY m (A i)else 0):=hp fun k ak=>by
    simp[gY,o];intro;omega
   rw[bk,bp,sm i (fun _=>top-bY m (A i)),if_pos o];grind
  ·rw[Nat.add_comm,GV]
   have bk:bY m (gY n m A top i)=bY m (fun k=>if k=i-n then top-bY n (fun j0=>A j0 k)else 0):=hp fun k ak=>by simp[gY,o,ak]
   have bp:bY n (fun k=>gY n m A top i (m+k))=bY n (fun j0=>A j0 (i-n)):=hp fun k ak=>by
    simp[gY,o];intro;omega
   rw[bk,bp,sm (i-n) (fun k=>top-bY n (fun j0=>A j0 k)),if_pos (by omega)];grind
 ·rw[GV]
  by_cases o:k<m
  ·have bk:bY n (fun i=>gY n m A top i k)=bY n (fun i=>A i k):=hp fun i af=>by simp[gY,o,af]
   have bp:bY m (fun i=>gY n m A top (n+i) k)=bY m (fun i=>if i=k then top-bY n (fun j0=>A j0 k)else 0):=hp fun i af=>by
    simp[gY,o,show¬n+i<n by omega,show n+i-n=i by omega,eq_comm]
   rw[bk,bp,sm k (fun _=>top-bY n (fun j0=>A j0 k)),if_pos o];grind
  ·have bk:bY n (fun i=>gY n m A top i k)=bY n (fun i=>if i=k-m then top-bY m (A i)else 0):=hp fun i af=>by
    simp[gY,o,af]
    congr 1
    simp;omega
   have bp:bY m (fun i=>gY n m A top (n+i) k)=bY m (A (k-m)):=hp fun i af=>by
    simp[gY,o,show¬n+i<n by omega,show n+i-n=i by omega]
   rw[bk,bp,sm (k-m) (fun i=>top-bY m (A i)),if_pos (by omega)];grind
def j7(n m:Nat)(p:List Int):List Int:=(p.take m).map fun j=>if(n:Int)<=j then-1 else j
structure nY (n m:Nat) (l:List Int):Prop where
 len:l.length=m
 Pc:∀k,k<m->l[k]?=some (-1)\/∃j:Nat,j<n/\l[k]?=some (j:Int)
 inj:∀j:Nat,j<n->l.count (j:Int)<=1
theorem Du{n m:Nat}{p:List Int}(k:Nat):(j7 n m p)[k]?=if k<m then(p[k]?).map fun j=>if(n:Int)<=j then-1 else j else none:=by
 unfold j7
 rw[List.getElem?_map,List.getElem?_take]
 split<;>rfl
theorem RM{n m:Nat}{p:List Int}{k i:Nat}(ak:k<m)(af:i<n):(j7 n m p)[k]?=some (i:Int)↔p[k]?=some (i:Int):=by
 rw[Du,if_pos ak]
 cases h:p[k]? with
 | none=>simp
 | some j=>
  simp
  split
  ·constructor<;>intro h<;>omega
  ·exact Iff.rfl
theorem lT.cut{n m:Nat}{p:List Int}(h:lT (n+m) p):nY n m (j7 n m p):=by
 refine⟨by simp[j7,h.len],fun k ak=>?_,fun j aY=>?_⟩
 ·obtain⟨j,a0,a4⟩:=h.d_ k (by omega)
  rw[Du,if_pos ak,a4]
  by_cases mO:j<n
  ·exact .inr ⟨j,mO,by simp;omega⟩
  ·exact .inl (by simp;omega)
 ·have o:=h.rj j (by omega)
  have aa:(j7 n m p).count (j:Int)<=(p.take m).count (j:Int):=by
   unfold j7
   generalize p.take m=l
   induction l with
   | nil=>simp
   | cons x l a1=>
    simp only[List.map_cons,List.count_cons]
    by_cases J:(n:Int)<=x
    ·simp[J];omega
    ·simp[J];omega
  have aA:(p.take m).count (j:Int)<=p.count (j:Int):=(List.take_sublist m p).count_le _
  omega
structure zO (n m:Nat) (A:Nat->Nat->Rat) (L:Rat) (a5:List (Rat×List Int)):Prop where
 wh:∀p∈a5,0<p.1/\nY n m p.2
 sum:∀i k,i<n->k<m->e2 a5 i k=A i k
 len:dv a5=L
 nj:a5.length<=(n+m)*(n+m)
theorem sD.aaD{n m:Nat}{A:Nat->Nat->Rat}{top:Rat}{a5:List (Rat×List Int)}(h:sD (n+m) (gY n m A top) top a5):zO n m A top (a5.map fun p=>(p.1,j7 n m p.2)):=by
 refine⟨fun p aU=>?_,fun i k af ak=>?_,?_,by simpa using h.nj⟩
 ·simp at aU
  obtain⟨a,b,q,rfl⟩:=aU
  obtain⟨o,aa⟩:=h.parts _ q
  exact⟨o,aa.cut⟩
 ·have o:=h.sum i k (by omega) (by omega)
  have aa:gY n m A top i k=A i k:=by simp[gY,af,ak]
  rw[aa]at o
  rw[<-o]
  generalize a5=l
  induction l with
  | nil=>rfl
  | cons p l a1=>
   simp only[List.map_cons,e2]
   rw[a1]
   congr 1
   unfold gu
   simp only[RM ak af]
 ·rw[<-h.len]
  generalize a5=l
  induction l with
  | nil=>rfl
  | cons p l a1=>
   simp only[List.map_cons,dv]
   rw[a1]
end Go.dq
end
section
set_option maxRecDepth 8000
set_option maxHeartbeats 1000000
namespace Go.dq
open Go.Proofs
open Go.Proofs.Tryz (prog)
attribute [-simp] il jk k3
theorem Row.aaj{α:Type}{e R:Nat}{ay:Bool}{ad:ab->Value->α->Prop}{H:ab}{n c:Nat}{xs:List α}(h:Row e R ay ad H (.slice none n c) xs):xs=[]:=by
 obtain⟨cs,⟨a,cap,an,o,aa,aA⟩,bj⟩:=h
 simp at an
 obtain⟨rfl,rfl,rfl⟩:=an
 by_cases ae:0<c
 ·obtain⟨b,i,X,all,q,-⟩:=aA ae
  cases q
 ·exact List.eq_nil_of_length_eq_zero (by omega)
theorem RC{v:Value}{xs:List Rat}{H:ab}(aW:jo H v xs)(ar:xs.length<65536):
  aO prog 85 [v] H (fun u H1=>Ext H H1/\bH H.length 80 4 true cf H1 u xs):=by
 refine aO.b9 fun Q aC=>?_
 apply Zg (by simp)
 obtain⟨a,c,rfl⟩:=Row.len aW
 simp[Jx]
 refine bs.mk (fun aJ=>?_) (fun aJ=>?_)
 ·have:a=none:=by simpa using aJ
  subst this
  have:=Row.aaj aW
  subst this
  simp[bd]
  exact aC _ _ ⟨Ext.refl H,bH.nil _ _ _ _ _ _⟩
 ·refine sr (e:=80) (R:=4) (by simp) (by simp) ?_
  simp
  refine Cz (k:=H.length) (e:=80) (R:=4) (ay:=true) (bF:=64) (z:= .agg #[.bool false,.slice none 0 0,.bool false,.slice none 0 0]) (ad:=cf) (xs:=[]) (bS:=xs) (by simpa using bH.void _ _ _ _ _ _ _) (by simpa using aW) (fun u y h=>h.whole) (fun aF dC u y ak h=>h.kept ak (by decide)) (by simp) (by simp) (by simp) (by simp) (by simp) (by rfl) (by rfl) (by rfl) (by decide) (by simp;omega) (by omega) ?_
  intro w H1 cw J ak
  simp[bd]
  exact aC _ _ ⟨J _ (Nat.le_refl _) (Ext.refl H),by simpa using cw⟩
def b6(t:List (List Rat))(i k:Nat):Rat:=(t[i]?.getD [])[k]?.getD 0
structure h_ (fJ H:ab) (g8 n:Nat) (hr gM gD:Value) (t:List (List Rat)) (ca:List Int) (dw:List Bool):Prop where
 pos:0<fJ.length
 ext:Ext fJ H
 ko:hX fJ hr t
 wk:t.length=n
 we:∀r∈t,r.length=n
 small:n<65536
 yW:fJ.length<=g8
 fc:H[g8]?=some (.own 140 false [hr,gM,gD])
 mY:bH fJ.length 3 1 false IR H gM ca
 seen:bH fJ.length 4 1 false pT H gD dw
theorem h_.more{fJ H H1:ab}{g8 n:Nat}{hr gM gD:Value}{t:List (List Rat)}{ca:List Int}{dw:List Bool}(h:h_ fJ H g8 n hr gM gD t ca dw)(J:Ext H H1):h_ fJ H1 g8 n hr gM gD t ca dw:=
 ⟨h.pos,h.ext.aw J,h.ko,h.wk,h.we,h.small,h.yW,J.get_some h.fc,b7.ext (ad:=bH _ _ _ _ IR) h.mY J,b7.ext (ad:=bH _ _ _ _ pT) h.seen J⟩
theorem h_.abA{fJ H aF:ab}{g8 n:Nat}{hr gM gD:Value}{t:List (List Rat)}{ca:List Int}{dw cS:List Bool}(h:h_ fJ H g8 n hr gM gD t ca dw)(J:∀cE:ab,cE.length<=fJ.length->Ext cE H->Ext cE aF)(ak:Kept H aF gD 4)(cw:bH fJ.length 4 1 false pT aF gD cS):h_ fJ aF g8 n hr gM gD t ca cS:=
 ⟨h.pos,J _ (Nat.le_refl _) h.ext,h.ko,h.wk,h.we,h.small,h.yW,ak _ _ h.fc (fun _=>by simp[bO.elem?]),h.mY.other ak (by decide) fun _ _ h=>h,cw⟩
theorem h_.ZD{fJ H aF:ab}{g8 n:Nat}{hr gM gD:Value}{t:List (List Rat)}{ca hA:List Int}{dw:List Bool}(h:h_ fJ H g8 n hr gM gD t ca dw)(J:∀cE:ab,cE.length<=fJ.length->Ext cE H->Ext cE aF)(ak:Kept H aF gM 3)(cw:bH fJ.length 3 1 false IR aF gM hA):h_ fJ aF g8 n hr gM gD t hA dw:=
 ⟨h.pos,J _ (Nat.le_refl _) h.ext,h.ko,h.wk,h.we,h.small,h.yW,ak _ _ h.fc (fun _=>by simp[bO.elem?]),cw,h.seen.other ak (by decide) fun _ _ h=>h⟩
theorem zf{q:Rat}:((if q<0 then(-1:Int)else if q=0 then 0 else 1)<=0)↔q<=0:=by
 by_cases o:q<0
 ·simp[o,Rat.le_of_lt o]
 ·by_cases aa:q=0
  ·simp[aa]
  ·simp only[if_neg o,if_neg aa]
   constructor
   ·intro h;omega
   ·intro h;exact absurd (Std.lt_of_le_of_ne h aa) o
theorem find_spec(n:Nat):∀(fuel:Nat) {fJ H:ab} {g8 d_:Nat} {hr gM gD:Value} {t:List (List Rat)} {ca:List Int} {dw:List Bool},pQ dw<fuel->h_ fJ H g8 n hr gM gD t ca dw->dw.length=n->q_ n (b6 t) ca->d_<n->
  aO prog 86 [.pointer (some ⟨g8,0,none⟩),.int .i64 d_] H (fun u H1=>∃b hA cS,u= .bool b/\q7 n (b6 t) ca dw d_ b hA cS/\h_ fJ H1 g8 n hr gM gD t hA cS):=by
 intro fuel
 induction fuel with
 | zero=>intro fJ H g8 d_ hr gM gD t ca dw h;omega
 | succ fuel a1=>
  intro fJ H g8 d_ hr gM gD t ca dw aiL bL kf jv tl
  refine aO.b9 fun Q aC=>?_
  apply Y3 (by simp)
  have oq:=bL.fc
  have bf:=bL.ko.ext bL.ext
  obtain⟨ef,zZ,rfl⟩:=Row.len bL.ko
  obtain⟨fg,gK⟩:∃fg,t[0]?=some fg:=⟨_,bz (by have:=bL.wk;omega)⟩
  have rU:=bL.we fg (List.mem_of_getElem? gK)
  have mO:=bL.small
  simp[Jo,oq]
  refine aT.mk (Gb bf gK) ?_
  rintro u H1 ⟨bq,rfl⟩
  rw[rU]
  have hK:=bL.more bq
  simp
  refine c7.range (by kernel_rfl) n (by omega) (by simp) (by rfl) (by simp) (by decide) (by decide) (fun i c_ en bN=>∃cS,j3 n (b6 t) ca dw d_ i cS/\h_ fJ bN g8 n (.slice ef t.length zZ) gM gD t ca cS) ?_ ?_ ?_
  ·exact⟨dw,j3.zero kf,hK⟩
  ·rintro i c_ en bN af a_ ⟨cS,dj,lo⟩ K aV
   simp at a_
   have LQ:=lo.fc
   have hv:=lo.ko.ext lo.ext
   obtain⟨bi,mK⟩:∃bi,cS[i]?=some bi:=⟨_,bz (by rw[dj.len];exact af)⟩
   refine cc.join (by kernel_rfl) (fun eI fR b5=>∃cS,j3 n (b6 t) ca dw d_ (i+1) cS/\h_ fJ b5 g8 n (.slice ef t.length zZ) gM gD t ca cS) ?_ ?_
   ·rintro er jN Lt
    simp[a_]
    refine cc.join (by kernel_rfl) (fun eI fR b5=>eI 35= .bool (bi || decide (b6 t d_ i<=0))/\h_ fJ b5 g8 n (.slice ef t.length zZ) gM gD t ca cS) ?_ ?_
    ·rintro cZ c3-
     simp[LQ]
     refine cv (ad:=pT) (xs:=cS) (n:=i) (a:=bi) (e:=4) (R:=1) (ay:=false) (by simpa using lo.seen.row) (by simp) mK (by simp) (by simp) (by simp) (by decide) ?_
     rintro c9 mn rfl
     cases bi with
     | true=>
      simp
      exact c3 _ _ _ ⟨by simp,lo⟩
     | false=>
      obtain⟨row,dL⟩:∃row,t[d_]?=some row:=⟨_,bz (by rw[bL.wk];exact tl)⟩
      obtain⟨q,av⟩:∃q,row[i]?=some q:=⟨_,bz (by rw[bL.we row (List.mem_of_getElem? dL)];exact af)⟩
      have AU:b6 t d_ i=q:=by simp[b6,dL,av]
      simp[LQ]
      refine qX (ad:=jo) (xs:=t) (n:=d_) (a:=row) (e:=120) (R:=1) (ay:=false) (by simp) (by decide) (by simpa using hv) (by simp) dL (by simp) (by simp) (by simp) (by decide) ?_
      intro gi kq oM
      simp
      refine qX (ad:=cf) (xs:=row) (n:=i) (a:=q) (e:=80) (R:=4) (ay:=true) (by simp) (by decide) (by simpa using oM) (by simp) av (by simp) (by simp) (by simp) (by decide) ?_
      intro eT nQ px
      simp
      refine aT.mk (Gw px) ?_
      rintro w b5 ⟨cP,rfl⟩
      simp
      refine c3 _ _ _ ⟨?_,lo.more cP⟩
      simp[AU,zf]
    ·rintro eI fR b5 ⟨K9,rz⟩
     simp at K9
     have UU:=rz.fc
     simp[K9]
     refine bs.mk (fun ag=>?_) (fun ag=>?_)
     ·refine jN _ _ _ ⟨cS,dj.skip ?_,rz⟩
      simp at ag
      rw[mK]
      rcases ag with ag | ag
      ·exact .inl (by simp[ag])
      ·exact .inr ag
     ·simp at ag
      have aU:0<b6 t d_ i:=Rat.not_le.1 ag.2
      have iy:cS[i]?.getD false=false:=by rw[mK];simp[ag.1]
      simp[a_,UU]
      refine kp (k:=fJ.length) (e:=4) (R:=1) (ay:=false) (n:=i) (ad:=pT) (xs:=cS) (a:=true) (by simpa using rz.seen) (by simp) (by rw[dj.len];exact af) (by simp[pT]) (by simpa using QB true) (by simp) (fun _ _ _ _ _ h=>h) (by simp) (by simp) (by simp) (by decide) ?_
      rintro gj dx kB cu qq VP-
      simp at kB qq
      have pf:=rz.abA cu qq kB
      have LR:=pf.fc
      obtain⟨z,aM⟩:∃z,ca[i]?=some z:=⟨_,bz (by rw[jv.1];exact af)⟩
      have yG:ca[i]?.getD 0=z:=by rw[aM];rfl
      have tD:=aeS (i:=i) (by rw[dj.len];exact af) iy
      have ajp:pQ cS<=pQ dw:=Qk (by rw[dj.len,kf]) dj.mono
      simp
      refine cc.join (by kernel_rfl) (fun lN lP c6=>∃b r6 pN,lN 60= .bool b/\h_ fJ c6 g8 n (.slice ef t.length zZ) gM gD t r6 pN/\r6.length=n/\(b=false->r6=ca/\j3 n (b6 t) ca dw d_ (i+1) pN)/\(b=true->q7 n (b6 t) ca dw d_ true (r6.set i (d_:Int)) pN)) ?_ ?_
      ·rintro nb fN-
       simp[a_,LR]
       refine cv (ad:=IR) (xs:=ca) (n:=i) (a:=z) (e:=3) (R:=1) (ay:=false) (by simpa using pf.mY.row) (by simp) aM (by simp) (by simp) (by simp) (by decide) ?_
       rintro iD oX rfl
       by_cases qD:z<0
       ·simp[qD]
        refine fN _ _ _ ⟨true,ca,cS.set i true,by simp,pf,jv.1,fun h=>(by cases h),fun _=>dj.free jv af tl aU iy (by rw[yG];exact qD)⟩
       ·obtain⟨j,aY,FX,-⟩:∃j:Nat,j<n/\z=j/\0<b6 t j i:=by
         rcases jv.2 i af with h | h
         ·rw[yG]at h;omega
         ·rw[yG]at h;exact h
        simp[qD,LR]
        refine qX (ad:=IR) (xs:=ca) (n:=i) (a:=z) (e:=3) (R:=1) (ay:=false) (by simp) (by decide) (by simpa using pf.mY.row) (by simp) aM (by simp) (by simp) (by simp) (by decide) ?_
        rintro mj sx rfl
        simp[FX]
        refine aT.mk (a1 (dw:=cS.set i true) (by omega) pf (by simp[dj.len]) jv aY) ?_
        rintro w eV ⟨b,r6,pN,rfl,br,xn⟩
        simp
        refine fN _ _ _ ⟨b,r6,pN,by simp,xn,?_,?_,?_⟩
        ·cases b with
         | false=>rw[(br.no rfl).1];exact jv.1
         | true=>exact(br.yes rfl).1.1
        ·rintro rfl
         exact dj.fail af iy aY (by rw[yG,FX]) br
        ·rintro rfl
         exact dj.Gc jv af tl aU iy (by rw[yG,FX]) br
      ·rintro lN lP c6 ⟨b,r6,pN,Ld,AE,eG,UR,pj⟩
       simp at Ld
       have UW:=AE.fc
       simp[Ld]
       refine bs.mk (fun ag=>?_) (fun ag=>?_)
       ·simp[a_,UW]
        refine kp (k:=fJ.length) (e:=3) (R:=1) (ay:=false) (n:=i) (ad:=IR) (xs:=r6) (a:=(d_:Int)) (by simpa using AE.mY) (by simp) (by rw[eG];exact af) (by simp[IR]) (by simpa using jn d_) (by simp) (fun _ _ _ _ _ h=>h) (by simp) (by simp) (by simp) (by decide) ?_
        rintro oS eV eW cW pt rM-
        simp at eW pt
        have xn:=AE.ZD cW pt eW
        simp
        refine Lt _ _ _ _ (by simp) ?_
        simp[bd]
        exact aC _ _ ⟨true,_,pN,rfl,pj ag,xn⟩
       ·obtain⟨rfl,TG⟩:=UR ag
        exact jN _ _ _ ⟨pN,TG,AE⟩
   ·rintro eI fR b5 ⟨pN,Aw,rz⟩
    exact aV _ _ _ (by simp[a_]) ⟨pN,Aw,rz⟩
  ·rintro c_ en bN a_ ⟨cS,dj,lo⟩
   simp[bd]
   exact aC _ _ ⟨false,ca,cS,rfl,dj.end,lo⟩
def fa(D:Nat)(q:Rat):Prop:=∃z:Int,q*(D:Rat)=(z:Rat)
theorem fa.add{D:Nat}{a b:Rat}(aL:fa D a)(ag:fa D b):fa D (a+b):=by
 obtain⟨x,J⟩:=aL
 obtain⟨y,aI⟩:=ag
 exact⟨x+y,by rw[Rat.intCast_add,<-J,<-aI];grind⟩
theorem fa.sub{D:Nat}{a b:Rat}(aL:fa D a)(ag:fa D b):fa D (a-b):=by
 obtain⟨x,J⟩:=aL
 obtain⟨y,aI⟩:=ag
 exact⟨x-y,by rw[Rat.intCast_sub,<-J,<-aI];grind⟩
theorem fa.zero(D:Nat):fa D 0:=⟨0,by simp⟩
theorem fa.int(z:Int):fa 1 (z:Rat):=⟨z,by simp⟩
structure my (D N:Nat) (L:Rat):Prop where
 pos:0<D
 small:D<2^N
 top:∃z:Int,L*(D:Rat)<=(z:Rat)/\z.natAbs<2^N
 bits:N<=1000000
theorem my.le{D N:Nat}{L HF:Rat}(h:my D N L)(ar:HF<=L):my D N HF:=by
 obtain⟨z,aM,dd⟩:=h.top
 exact⟨h.pos,h.small,⟨z,Rat.le_trans (Rat.mul_le_mul_of_nonneg_right ar (by exact_mod_cast Nat.zero_le D)) aM,dd⟩,h.bits⟩
theorem my.R{D N:Nat}{L q:Rat}(h:my D N L)(av:fa D q)(aH:0<=q)(ar:q<=L):dh N q:=by
 obtain⟨QN,Xy,dd⟩:=h.top
 obtain⟨z,aM⟩:=av
 have ej:(0:Rat)<(D:Rat):=by exact_mod_cast h.pos
 have qD:0<=z:=by
  have:(0:Rat)<=(z:Rat):=by rw[<-aM];exact Rat.mul_nonneg aH (Rat.le_of_lt ej)
  exact_mod_cast this
 have ij:z<=QN:=by
  have:(z:Rat)<=(QN:Rat):=by
   rw[<-aM]
   exact Rat.le_trans (Rat.mul_le_mul_of_nonneg_right ar (Rat.le_of_lt ej)) Xy
  exact_mod_cast this
 have e:q=Rat.divInt z D:=by
  rw[Rat.divInt_eq_div,<-aM]
  have:((D:Int):Rat)=(D:Rat):=rfl
  rw[this,Rat.mul_div_cancel (by intro h;rw[h]at ej;exact Rat.lt_irrefl ej)]
 rw[e]
 exact dh.divInt (by have:=h.pos;omega) (by omega) h.small
theorem my.int{z:Int}{N:Nat}(aM:z.natAbs<2^N)(bP:0<N)(ag:N<=1000000):my 1 N (z:Rat):=
 ⟨by decide,Nat.one_lt_two_pow (by omega),⟨z,by simp,aM⟩,ag⟩
theorem O0(r:List Rat)(k:Nat):hB (r.take k)=bY k (fun i=>r[i]?.getD 0):=by
 induction k with
 | zero=>simp[hB,bY]
 | succ k a1=>
  by_cases ak:k<r.length
  ·rw[O1 (bz ak),a1]
   simp[bY,bz ak]
  ·have o:r.take (k+1)=r.take k:=by rw[List.take_of_length_le (by omega),List.take_of_length_le (by omega)]
   rw[o,a1]
   simp only[bY]
   rw[List.getElem?_eq_none (by omega)]
   exact(Rat.add_zero _).symm
theorem aaY{r:List Rat}{n:Nat}(h:r.length=n):hB r=bY n (fun i=>r[i]?.getD 0):=by
 rw[<-O0,List.take_of_length_le (by omega)]
theorem ab6{k n:Nat}{f:Nat->Rat}(h:k<=n)(aH:∀i,i<n->0<=f i):bY k f<=bY n f:=by
 induction n with
 | zero=>
  obtain rfl:k=0:=by omega
  exact Rat.le_refl
 | succ n a1=>
  by_cases ak:k<=n
  ·have:=a1 ak fun i af=>aH i (by omega)
   have:=aH n (by omega)
   simp only[bY]
   grind
  ·obtain rfl:k=n+1:=by omega
   exact Rat.le_refl
structure fs (n m:Nat) (t:List (List Rat)):Prop where
 len:t.length=n
 row:∀r∈t,r.length=m
theorem fs.at{n m i:Nat}{t:List (List Rat)}(h:fs n m t)(af:i<n):∃r,t[i]?=some r/\r∈t/\r.length=m/\(∀k,r[k]?.getD 0=b6 t i k)/\hB r=bY m (b6 t i):=by
 have cK:i<t.length:=by rw[h.len];exact af
 refine⟨_,bz cK,List.getElem_mem cK,h.row _ (List.getElem_mem cK),fun k=>by simp[b6,bz cK],?_⟩
 rw[aaY (h.row _ (List.getElem_mem cK))]
 apply hp
 intro k _
 simp[b6,bz cK]
theorem fs.get{n m i k:Nat}{t:List (List Rat)}(h:fs n m t)(af:i<n)(ak:k<m):∃r,t[i]?=some r/\r[k]?=some (b6 t i k)/\r.length=m:=by
 obtain⟨r,a0,a4,bI,cj,-⟩:=h.at af
 refine⟨r,a0,?_,bI⟩
 rw[<-cj,bz (by omega)]
 rfl
theorem fs.mem{n m:Nat}{t:List (List Rat)}(h:fs n m t){r:List Rat}(al:r∈t):∃i,i<n/\t[i]?=some r:=by
 obtain⟨i,af⟩:=List.mem_iff_getElem?.1 al
 exact⟨i,by have:=(cJ.1 af).1;rw[h.len]at this;exact this,af⟩
def iK(D:Nat)(t:List (List Rat)):Prop:=∀r∈t,∀q∈r,fa D q
theorem iK.b6{D:Nat}{t:List (List Rat)}(h:iK D t)(i k:Nat):fa D (b6 t i k):=by
 unfold Go.dq.b6
 cases al:t[i]? with
 | none=>exact fa.zero D
 | some r=>
  simp only[Option.getD_some]
  cases av:r[k]? with
  | none=>exact fa.zero D
  | some q=>exact h r (List.mem_of_getElem? al) q (List.mem_of_getElem? av)
theorem fa.sum{D n:Nat}{f:Nat->Rat}(h:∀i,i<n->fa D (f i)):fa D (bY n f):=by
 induction n with
 | zero=>exact fa.zero D
 | succ n a1=>exact(a1 fun i af=>h i (by omega)).add (h n (by omega))
theorem GY{D N n m:Nat}{L:Rat}{t:List (List Rat)}(aD:fs n m t)(aX:iK D t)(gV:my D N L)(aH:∀i k,i<n->k<m->0<=b6 t i k)(al:∀i,i<n->bY m (b6 t i)<=L):uB N t:=by
 intro r tx
 obtain⟨i,af,BA⟩:=aD.mem tx
 obtain⟨dW,a0,-,bI,cj,e8⟩:=aD.at af
 have:dW=r:=by rw[BA]at a0;exact(Option.some.inj a0).symm
 subst this
 have key:∀k,k<=m->dh N (hB (dW.take k)):=fun k ak=>by
  have e:hB (dW.take k)=bY k (b6 t i):=by
   rw[O0];exact hp fun j _=>cj j
  rw[e]
  refine gV.R (fa.sum fun j _=>aX.b6 i j) (GU fun j aY=>aH i j af (by omega)) ?_
  exact Rat.le_trans (ab6 ak fun j aY=>aH i j af aY) (al i af)
 refine⟨fun k=>?_,fun q av=>?_⟩
 ·by_cases ak:k<=m
  ·exact key k ak
  ·have:=key m (Nat.le_refl m)
   rw[List.take_of_length_le (by omega)]at this⊢
   exact this
 ·obtain⟨k,ak⟩:=List.mem_iff_getElem?.1 av
  have i_:k<m:=by have:=(cJ.1 ak).1;omega
  have e:q=b6 t i k:=by rw[<-cj,ak];rfl
  rw[e]
  refine gV.R (aX.b6 i k) (aH i k af i_) (Rat.le_trans (GS (fun j aY=>aH i j af aY) i_) (al i af))
theorem kP.le{n:Nat}{B:Nat->Nat->Rat}{L:Rat}(h:kP n B L){i k:Nat}(af:i<n)(ak:k<n):B i k<=L:=by
 rw[<-h.row i af];exact GS (fun k ak=>h.iC i k af ak) ak
theorem Cu{n:Nat}{f g:Nat->Nat}(h:∀i,i<n->f i=g i):lJ n f=lJ n g:=Nat.le_antisymm (Cv fun i af=>Nat.le_of_eq (h i af)) (Cv fun i af=>Nat.le_of_eq (h i af).symm)
theorem m_.congr{n:Nat}{A B k5:Nat->Nat->Rat}{L:Rat}{a5:List (Rat×List Int)}(h:m_ n A L a5 B)(e:∀i k,i<n->k<n->k5 i k=B i k):m_ n A L a5 k5:=by
 refine⟨⟨fun i k af ak=>by rw[e i k af ak];exact h.kZ.iC i k af ak,fun i af=>?_,fun k ak=>?_⟩,h.parts,fun i k af ak=>by rw[e i k af ak];exact h.sum i k af ak,?_⟩
 ·rw[<-h.kZ.row i af];exact hp fun k ak=>e i k af ak
 ·rw[<-h.kZ.rk k ak];exact hp fun i af=>e i k af ak
 ·have:nJ n k5=nJ n B:=Cu fun i af=>Cu fun k ak=>by rw[e i k af ak]
  rw[this];exact h.nj
def k0(f:Nat->Rat):Nat->Rat
 | 0=>f 0
 | n+1=>if f n<k0 f n then f n else k0 f n
theorem aab(f:Nat->Rat){n i:Nat}(af:i<n):k0 f n<=f i:=by
 induction n with
 | zero=>omega
 | succ n a1=>
  simp only[k0]
  by_cases fe:i=n
  ·subst fe
   split
   ·exact Rat.le_refl
   ·rename_i h;exact Rat.not_lt.1 h
  ·have:=a1 (by omega)
   split
   ·rename_i h;exact Rat.le_trans (Rat.le_of_lt h) this
   ·exact this
theorem Oj(f:Nat->Rat)(n:Nat)(aJ:0<n):∃i,i<n/\k0 f n=f i:=by
 have key:∀n,∃i,(i<n\/i=0)/\k0 f n=f i:=by
  intro n
  induction n with
  | zero=>exact⟨0,.inr rfl,rfl⟩
  | succ n a1=>
   obtain⟨i,o,aa⟩:=a1
   simp only[k0]
   split
   ·exact⟨n,.inl (by omega),rfl⟩
   ·exact⟨i,by omega,aa⟩
 obtain⟨i,o,aa⟩:=key n
 exact⟨i,by omega,aa⟩
def j4(H:ab)(v:Value)(p:Rat×List Int):Prop:=∃s1 b4 cB cm s2 cM cL cI eM hn eQ,v= .agg #[.bool s1,.slice b4 cB cm,.bool s2,.slice cM cL cI,.slice eM hn eQ]/\cf H (.agg #[.bool s1,.slice b4 cB cm,.bool s2,.slice cM cL cI]) p.1/\Row 3 1 false IR H (.slice eM hn eQ) p.2
instance:b7 j4:=⟨fun⟨s1,b4,cB,cm,s2,cM,cL,cI,eM,hn,eQ,h,o,aa⟩ J=>⟨s1,b4,cB,cm,s2,cM,cL,cI,eM,hn,eQ,h,o.ext J,b7.ext (ad:=Row _ _ _ IR) aa J⟩⟩
theorem j4.j1{H:ab}{v:Value}{p:Rat×List Int}(h:j4 H v p):Whole prog 113 v:=by
 obtain⟨s1,b4,cB,cm,s2,cM,cL,cI,eM,hn,eQ,rfl,-⟩:=h
 exact⟨by rfl,by simp[Value.cells,Value.oneCell'],by simp[eS]⟩
theorem j4.kept{H aF:ab}{e:Nat}{s v:Value}{p:Rat×List Int}(h:j4 H v p)(ak:Kept H aF s e)(o:124≠e)(aa:3≠e):j4 aF v p:=by
 obtain⟨s1,b4,cB,cm,s2,cM,cL,cI,eM,hn,eQ,rfl,a0,a4⟩:=h
 exact⟨s1,b4,cB,cm,s2,cM,cL,cI,eM,hn,eQ,rfl,a0.kept ak o,a4.kept ak aa fun _ _ h=>h⟩
theorem eC.other{α:Type}{k bp e R c5:Nat}{ay:Bool}{ad:ab->Value->α->Prop}{H aF:ab}{v s:Value}{t:List (List α)}{us:List Value}(h:eC k bp e R ay ad H v t us)(ak:Kept H aF s c5)(o:bp≠c5)(aa:e≠c5)(br:∀u x,ad H u x->ad aF u x):eC k bp e R ay ad aF v t us:=
 ⟨h.pos,h.own.other ak o fun _ _ h=>h,h.len,fun i row u a0 a4=>(h.rows i row u a0 a4).other ak aa br,h.p_⟩
end Go.dq
end
