/- Part of the proof of ShopTurned. -/
import Derived.Test.YtoiodfcefbapkaaGreatShopTurnedG
set_option linter.unusedVariables false
set_option linter.unusedSimpArgs false
section
namespace Go.cW
def gZ(H:ab)(u w:Value):Prop:=u=w
instance:b3 gZ:=⟨fun h _=>h⟩
def Grown(H:ab)(s v:Value):Prop:=∀b,inBlock v b->inBlock s b\/H.length<=b
section
variable {P:Program} {r:List bF} {F:Fr} {H:ab} {Q:Fr->ab->Prop} {α:Type}
theorem aba{e0:Bool}{d1 d2 t bY cJ e U bI k n:Nat}{s x:Operand}{z:Value}{cs:List Value}{ax:ba ((⟨e0,none,some d1,.buildSlice t 1 #[(0,x)]⟩:bF)::ap d2 bY cJ s (T d1)::r) Q}(cy:h7 H k e U (aq F s) n cs)(fu:∀v,aq (a1 F d1 v) s=aq F s)
  (bO:P.underlying t=some (.slice e))(hu:P.underlying bY=some (.slice e))(J:fH P cJ=true)(ao:bp P e=some U)(ag:bytes? P e=some bI)(aN:dA P e=some z)(dU:flat z=true)(di:z.cells.size=U)(c7:0<U)(q9:U<=1000)
  (dY:0<bI)(bz:(n+1)*bI<=140737488355328)(an:(aq F x).cells.toList.length=U)(hc:((aq F x).cells.toList.all (·.oneCell'))=true)(ak:k<=H.length)
  (K:∀u au aH,h7 aH k e U au (n+1) (cs++(aq F x).cells.toList)->(∀cx:ab,cx.length<=k->Ext cx H->Ext cx aH)->Kept H aH (aq F s) e->Grown H (aq F s) au->H.length<=aH.length->a_ P r Q .mk (a1 (a1 F d1 u) d2 au) aH):
  a_ P ((⟨e0,none,some d1,.buildSlice t 1 #[(0,x)]⟩:bF)::ap d2 bY cJ s (T d1)::r) Q ax F H:=by
 have eO:(made z (1*U)).length=U:=by rw[vm,Nat.one_mul]
 have aM:jd (fun i=>some (i*U,U)) (made z (1*U)) [(0,aq F x)]=some (aq F x).cells.toList:=by
  simp only[jd]
  rw[if_pos ⟨an,by rw[eO];omega⟩]
  have:=BH (aq F x).cells.toList (made z (1*U)) [] (by rw[eO,an])
  simpa using this
 have az:Instr.fill (fun i=>some (i*U,U)) (made z (1*U)).toArray ((#[(0,x)]:Array (Nat×Operand)).toList.map fun p=>(p.1,aq F p.2))=some (aq F x).cells:=by
  rw[fill_eq]
  simp only[List.map_cons,List.map_nil]
  rw[aM]
  simp
 have av:∀R:Oper,R.op= .buildSlice t 1 #[(0,x)]->fe P (aq F) H R (.slice (some ⟨H.length,0,none⟩) 1 1) (H++[.own e false (aq F x).cells.toList]):=fun R ft=> .build (out:=(aq F x).cells) ft bO ao aN dU di c7 (by omega) (by omega) az (by have:=an;simp at this;omega)
 refine jM rfl rfl rfl av (fun R aM=>by simp[bV,aM]) (.inr ((Ext.refl H).snoc _ _ _)) ?_
 show a_ P (ap d2 bY cJ s (T d1)::r) Q .mk (a1 F d1 _) _
 have dc:Src (H++[.own e false (aq F x).cells.toList]) U (.slice (some ⟨H.length,0,none⟩) 1 1) 1 1 (aq F x).cells.toList:=by
  have:=Src.row (H:=H++[.own e false (aq F x).cells.toList]) (U:=U) (b:=H.length) (i:=0) (n:=1) (m:=1) (c:=1) (x:= .own e false (aq F x).cells.toList) (cs:=(aq F x).cells.toList) (by simp) rfl (by omega) (Nat.le_refl _) (by omega)
  rw[List.drop_zero,Nat.one_mul,<-an,List.take_length]at this
  rw[an]at this
  exact this
 have mo:h7 (H++[.own e false (aq F x).cells.toList]) k e U (aq (a1 F d1 (.slice (some ⟨H.length,0,none⟩) 1 1)) s) n cs:=by
  rw[fu]
  exact cy.ext ((Ext.refl H).snoc _ _ _)
 refine Gc mo (by simpa[aq,T,a1]using dc) hu J ao ag aN di dY bz hc (by omega) (by simp;omega) fun au aH o aa aB bs bJ=>?_
 refine K _ au aH o (fun cx aI br=>aa cx aI (br.snoc _ _ _)) (fun b X aT ag=>aB b X ?_ (by rw[fu];exact ag)) (fun b ag=>?_) (by simp at bJ;omega)
 ·rw[List.getElem?_append_left (cH.1 aT).1]
  exact aT
 ·have:=bs b ag
  rw[fu]at this
  simp at this
  rcases this with h | h
  ·exact .inl h
  ·exact .inr (by omega)
theorem Gf{e0:Bool}{d1 d2 t bY cJ e U bI k:Nat}{aC:Bool}{s x:Operand}{z:Value}{af:ab->Value->α->Prop}{xs:List α}{a:α}{ax:ba ((⟨e0,none,some d1,.buildSlice t 1 #[(0,x)]⟩:bF)::ap d2 bY cJ s (T d1)::r) Q}(cy:bH k e U aC af H (aq F s) xs)(aO:af H (aq F x) a)
  (hw:Whole P e (aq F x))(fu:∀v,aq (a1 F d1 v) s=aq F s)(ht:∀aH dz u y,Kept H aH dz e->af H u y->af aH u y)
  (bO:P.underlying t=some (.slice e))(hu:P.underlying bY=some (.slice e))(J:fH P cJ=true)(ao:bp P e=some U)(et:dq P e=some aC)(ag:bytes? P e=some bI)(aN:dA P e=some z)(dU:flat z=true)(di:z.cells.size=U)(c7:0<U)(q9:U<=1000)
  (dY:0<bI)(bz:(xs.length+1)*bI<=140737488355328)(ak:k<=H.length)
  (K:∀p au aH,bH k e U aC af aH au (xs++[a])->(∀cx:ab,cx.length<=k->Ext cx H->Ext cx aH)->Kept H aH (aq F s) e->Grown H (aq F s) au->H.length<=aH.length->a_ P r Q .mk (a1 (a1 F d1 p) d2 au) aH):
  a_ P ((⟨e0,none,some d1,.buildSlice t 1 #[(0,x)]⟩:bF)::ap d2 bY cJ s (T d1)::r) Q ax F H:=by
 obtain⟨cs,iN,fR⟩:=cy
 have gz:=iN.1
 have lf:(aq F x).cells.size=U:=by have:=hw.1;rw[ao]at this;exact(Option.some.inj this).symm
 have o:aC=true\/U=1:=by
  cases aC with
  | true=>exact .inl rfl
  | false=>
   refine .inr ?_
   have cM:=hw.2.2
   cases av:e3 (aq F x)with
   | true=>rw[av]at cM;simp at cM;rw[cM]at et;cases et
   | false=>rw[av]at cM;simp at cM;rw[<-lf,cM.2];rfl
 refine aba iN fu bO hu J ao ag aN dU di c7 q9 dY bz (by simp[lf]) hw.2.1 ak fun p au aH aY a3 bN ck eU=>K p au aH ⟨_,by simpa using aY,fun i y aK=>?_⟩ a3 bN ck eU
 by_cases ad:i<xs.length
 ·rw[List.getElem?_append_left ad]at aK
  rw[r7 gz ad o]
  exact ht _ _ _ _ bN (fR i y aK)
 ·have fT:i=xs.length:=by
   have:=(cH.1 aK).1
   simp at this
   omega
  subst fT
  rw[List.getElem?_append_right (Nat.le_refl _),Nat.sub_self]at aK
  simp at aK
  subst aK
  rw[CT gz hw ao et]
  exact ht _ _ _ _ bN aO
end
section
variable {α:Type} {P:Program} {e U k:Nat} {aC:Bool} {af:ab->Value->α->Prop} {H aH:ab} {v s:Value} {xs:List α}
theorem Row.Zf{cs:List Value}(k9:∀i x,xs[i]?=some x->af H (ev aC U cs i) x)(ar:cs.length=xs.length*U)(kI:∀u y,af H u y->Whole P e u)(et:dq P e=some aC)(o:aC=true\/U=1):(cs.all (·.oneCell'))=true:=by
 rw[List.all_eq_true]
 intro u nc
 obtain⟨j,aW⟩:=List.getElem?_of_mem nc
 have gg:j<xs.length*U:=by have:=(cH.1 aW).1;omega
 have c7:0<U:=by rcases Nat.eq_zero_or_pos U with q | q;·subst q;simp at gg
                 exact q
 have cC:j/U<xs.length:=Nat.div_lt_of_lt_mul (by rw[Nat.mul_comm];exact gg)
 have hw:=kI _ _ (k9 _ _ (bB cC))
 have hh:u∈(ev aC U cs (j/U)).cells.toList:=by
  unfold ev
  cases aC with
  | true=>
   simp only[if_true,Value.cells,List.toList_toArray]
   have m4:=Nat.div_add_mod j U
   have eO:=Nat.mod_lt j c7
   rw[Nat.mul_comm]at m4
   refine List.mem_of_getElem? (i:=j % U) ?_
   rw[List.getElem?_take_of_lt eO,List.getElem?_drop,m4]
   exact aW
  | false=>
   have fu:U=1:=by rcases o with h | h;cases h;exact h
   subst fu
   have m6:cs[j/1]?=some u:=by rw[Nat.div_one];exact aW
   simp only[ev,Bool.false_eq_true,if_false]at hw⊢
   rw[m6]at hw⊢
   simp only[Option.getD_some]at hw⊢
   have cM:=hw.2.2
   cases av:e3 u with
   | false=>rw[av]at cM;simp at cM;rw[cM.2];simp
   | true=>
    rw[av]at cM
    simp at cM
    rw[cM]at et
    cases et
 exact List.all_eq_true.1 hw.2.1 u hh
theorem bH.beside{cX:Nat}(h:bH k e U aC af H v xs)(sy:0<k)(ak:Kept H aH s cX)(cQ:∀b,0<b->inBlock v b->¬inBlock s b)(bo:∀u x,af H u x->af aH u x):bH k e U aC af aH v xs:=by
 obtain⟨cs,⟨o,aa⟩,aB⟩:=h
 refine⟨cs,⟨o,?_⟩,fun i x ad=>bo _ _ (aB i x ad)⟩
 rcases aa with aa | ⟨c,i,cap,l,all,aY,a3,bN,ck,eU,g9⟩
 ·exact .inl aa
 ·exact .inr ⟨c,i,cap,l,all,aY,a3,bN,ck,ak _ _ eU fun ag=>absurd ag (cQ c (by omega) ⟨i,_,cap,aY⟩),g9⟩
theorem bH.other{cX:Nat}(h:bH k e U aC af H v xs)(ak:Kept H aH s cX)(cQ:e≠cX)(bo:∀u x,af H u x->af aH u x):bH k e U aC af aH v xs:=by
 obtain⟨cs,⟨o,aa⟩,aB⟩:=h
 refine⟨cs,⟨o,?_⟩,fun i x ad=>bo _ _ (aB i x ad)⟩
 rcases aa with aa | ⟨c,i,cap,l,all,aY,a3,bN,ck,eU,g9⟩
 ·exact .inl aa
 ·exact .inr ⟨c,i,cap,l,all,aY,a3,bN,ck,ak _ _ eU fun _=>by simp[bK.elem?];exact cQ,g9⟩
theorem bH.le{cb:Nat}(h:bH k e U aC af H v xs)(ak:cb<=k):bH cb e U aC af H v xs:=by
 obtain⟨cs,⟨o,aa⟩,aB⟩:=h
 refine⟨cs,⟨o,?_⟩,aB⟩
 rcases aa with aa | ⟨c,i,cap,l,all,aY,a3,bN,ck,eU,g9⟩
 ·exact .inl aa
 ·exact .inr ⟨c,i,cap,l,all,aY,a3,bN,by omega,eU,g9⟩
theorem bH.ge(h:bH k e U aC af H v xs){b:Nat}(ag:inBlock v b)(aI:0<b):k<=b/\b<H.length:=by
 obtain⟨cs,⟨o,aa⟩,aB⟩:=h
 obtain⟨jK,dW,dT,an⟩:=ag
 rcases aa with⟨-,aa | ⟨i,aa⟩⟩ | ⟨c,i,cap,l,all,aY,a3,bN,ck,eU,g9⟩
 ·rw[an]at aa;simp at aa
 ·rw[an]at aa;simp at aa;try omega
 ·rw[an]at aY;simp at aY
  have:=(cH.1 eU).1
  omega
end
structure en {α:Type} (k bk e U:Nat) (aC:Bool) (af:ab->Value->α->Prop) (H:ab) (v:Value) (t:List (List α)) (us:List Value):Prop where
 pos:0<k
 own:bH k bk 1 false gZ H v us
 len:us.length=t.length
 rows:∀(i:Nat) (row:List α) (u:Value),t[i]?=some row->us[i]?=some u->bH k e U aC af H u row
 pE:∀(i j b:Nat) (u w:Value),us[i]?=some u->us[j]?=some w->0<b->inBlock u b->inBlock w b->i=j
section
variable {α:Type} {P:Program} {bk e U k:Nat} {aC:Bool} {af:ab->Value->α->Prop} {H aH mQ:ab} {v s au:Value} {t:List (List α)} {us:List Value}
theorem en.vE(h:en k bk e U aC af H v t us){i:Nat}{row:List α}(ad:t[i]?=some row):∃u,us[i]?=some u/\bH k e U aC af H u row:=by
 have cC:i<us.length:=by rw[h.len];exact(cH.1 ad).1
 exact⟨_,bB cC,h.rows i row _ ad (bB cC)⟩
theorem en.ext[b3 af](h:en k bk e U aC af H v t us)(J:Ext H aH):en k bk e U aC af aH v t us:=
 ⟨h.pos,b3.ext (af:=bH k bk 1 false gZ) h.own J,h.len,fun i row u o aa=>b3.ext (af:=bH k e U aC af) (h.rows i row u o aa) J,h.pE⟩
theorem en.row(h:en k bk e U aC af H v t us):Row bk 1 false (Row e U aC af) H v t:=by
 obtain⟨cs,o,aa⟩:=h.own
 refine⟨cs,by rw[<-h.len];exact o.fG,fun i row ad=>?_⟩
 obtain⟨u,hu,cy⟩:=h.vE ad
 have:=aa i u hu
 rw[show ev false 1 cs i=u from this]
 exact cy.row
theorem en.nil(k bk e U:Nat)(aC:Bool)(af:ab->Value->α->Prop)(H:ab)(ak:0<k):en k bk e U aC af H (.slice none 0 0) [] []:=
 ⟨ak,bH.nil _ _ _ _ _ _,rfl,fun i row u h=>by simp at h,fun i j b u w h=>by simp at h⟩
theorem en.Ns{n:Nat}(ak:0<k)(h:bH k bk 1 false gZ H v (List.replicate n (.slice none 0 0))):en k bk e U aC af H v (List.replicate n ([]:List α)) (List.replicate n (.slice none 0 0)):=by
 refine⟨ak,h,by simp,fun i row u o aa=>?_,fun i j b u w o aa _ aB=>?_⟩
 ·rw[List.getElem?_replicate]at o aa
  split at o
  ·rw[if_pos ‹_›]at aa
   cases o;cases aa
   exact bH.nil _ _ _ _ _ _
  ·cases o
 ·rw[List.getElem?_replicate]at o
  split at o
  ·cases o
   obtain⟨jK,dW,dT,aB⟩:=aB
   simp at aB
  ·cases o
theorem en.put{i:Nat}{u:Value}{nv:List α}(h:en k bk e U aC af H v t us)(hu:us[i]?=some u)(cQ:e≠bk)(ak:Kept H aH u e)(aU:Grown H u au)(eR:bH k e U aC af aH au nv)(eN:∀u x,af H u x->af aH u x)
  (cy:bH k bk 1 false gZ mQ v (us.set i au))(n9:Kept aH mQ v bk)(gO:∀u x,af aH u x->af mQ u x):en k bk e U aC af mQ v (t.set i nv) (us.set i au):=by
 have cC:=(cH.1 hu).1
 refine⟨h.pos,cy,by simp[h.len],fun j row w o aa=>?_,fun j eb b w gD o aa aI aB bs=>?_⟩
 ·by_cases fs:i=j
  ·subst fs
   rw[List.getElem?_set_self cC]at aa
   rw[List.getElem?_set_self (by rw[<-h.len];exact cC)]at o
   cases o;cases aa
   exact eR.other n9 cQ gO
  ·rw[List.getElem?_set_ne fs]at o aa
   refine((h.rows j row w o aa).beside h.pos ak (fun b aI ag c8=>fs (h.pE i j b u w hu aa aI c8 ag)) eN).other n9 cQ gO
 ·have fresh:∀(j:Nat) (w:Value),us[j]?=some w->i≠j->inBlock w b->¬inBlock au b:=fun j w hw pR ag c8=>by
   rcases aU b c8 with q | q
   ·exact pR (h.pE i j b u w hu hw aI q ag)
   ·have uY:j<t.length:=by rw[<-h.len];exact(cH.1 hw).1
    have:=(h.rows j _ w (bB uY) hw).ge ag aI
    omega
  by_cases fs:i=j
  ·subst fs
   rw[List.getElem?_set_self cC]at o
   cases o
   by_cases mw:i=eb
   ·exact mw
   ·rw[List.getElem?_set_ne mw]at aa
    exact absurd aB (fresh eb gD aa mw bs)
  ·rw[List.getElem?_set_ne fs]at o
   by_cases mw:i=eb
   ·subst mw
    rw[List.getElem?_set_self cC]at aa
    cases aa
    exact absurd bs (fresh j w o fs aB)
   ·rw[List.getElem?_set_ne mw]at aa
    exact h.pE j eb b w gD o aa aI aB bs
theorem en.inner{i:Nat}{u:Value}{nv:List α}(h:en k bk e U aC af H v t us)(hu:us[i]?=some u)(cQ:e≠bk)(ak:Kept H aH u e)(eR:bH k e U aC af aH u nv)(eN:∀u x,af H u x->af aH u x):en k bk e U aC af aH v (t.set i nv) us:=by
 have cC:=(cH.1 hu).1
 refine⟨h.pos,h.own.other ak (Ne.symm cQ) fun _ _ h=>h,by simp[h.len],fun j row w o aa=>?_,h.pE⟩
 by_cases fs:i=j
 ·subst fs
  rw[List.getElem?_set_self (by rw[<-h.len];exact cC)]at o
  rw[hu]at aa
  cases o;cases aa
  exact eR
 ·rw[List.getElem?_set_ne fs]at o
  exact(h.rows j row w o aa).beside h.pos ak (fun b aI ag c8=>fs (h.pE i j b u w hu aa aI c8 ag)) eN
theorem en.Zu{i o8:Nat}{nv:List α}(h:en k bk e U aC af H v t us)(cC:i<t.length)(aG:∀b,0<b->inBlock au b->o8<=b)(a5:∀(j:Nat) (w:Value) (b:Nat),us[j]?=some w->inBlock w b->0<b->b<o8)(cQ:e≠bk)(eR:bH k e U aC af H au nv)
  (cy:bH k bk 1 false gZ mQ v (us.set i au))(n9:Kept H mQ v bk)(gO:∀u x,af H u x->af mQ u x):en k bk e U aC af mQ v (t.set i nv) (us.set i au):=by
 have D3:i<us.length:=by rw[h.len];exact cC
 refine⟨h.pos,cy,by simp[h.len],fun j row w o aa=>?_,fun j eb b w gD o aa aI aB bs=>?_⟩
 ·by_cases fs:i=j
  ·subst fs
   rw[List.getElem?_set_self D3]at aa
   rw[List.getElem?_set_self cC]at o
   cases o;cases aa
   exact eR.other n9 cQ gO
  ·rw[List.getElem?_set_ne fs]at o aa
   exact(h.rows j row w o aa).other n9 cQ gO
 ·by_cases fs:i=j
  ·subst fs
   rw[List.getElem?_set_self D3]at o
   cases o
   by_cases mw:i=eb
   ·exact mw
   ·rw[List.getElem?_set_ne mw]at aa
    have:=a5 _ _ _ aa bs aI
    have:=aG _ aI aB
    omega
  ·rw[List.getElem?_set_ne fs]at o
   by_cases mw:i=eb
   ·subst mw
    rw[List.getElem?_set_self D3]at aa
    cases aa
    have:=a5 _ _ _ o aB aI
    have:=aG _ aI bs
    omega
   ·rw[List.getElem?_set_ne mw]at aa
    exact h.pE j eb b w gD o aa aI aB bs
theorem en.snoc{nv:List α}{v2:Value}{cx:ab}{o8:Nat}(h:en k bk e U aC af H v t us)(aG:∀b,0<b->inBlock au b->o8<=b)(a5:∀(j:Nat) (w:Value) (b:Nat),us[j]?=some w->inBlock w b->0<b->b<o8)(cQ:e≠bk)(eR:bH k e U aC af H au nv)
  (cy:bH k bk 1 false gZ mQ v2 (us++[au]))(n9:Kept H mQ v bk)(gO:∀u x,af H u x->af mQ u x):en k bk e U aC af mQ v2 (t++[nv]) (us++[au]):=by
 refine⟨h.pos,cy,by simp[h.len],fun j row w o aa=>?_,fun j eb b w gD o aa aI aB bs=>?_⟩
 ·by_cases fs:j<t.length
  ·rw[List.getElem?_append_left fs]at o
   rw[List.getElem?_append_left (by rw[h.len];exact fs)]at aa
   exact(h.rows j row w o aa).other n9 cQ gO
  ·rw[List.getElem?_append_right (by omega)]at o
   rw[List.getElem?_append_right (by rw[h.len];omega)]at aa
   have uW:j-t.length=0:=by
    have:=(cH.1 o).1
    simp at this;omega
   rw[uW]at o
   rw[h.len,uW]at aa
   simp at o aa
   subst o;subst aa
   exact eR.other n9 cQ gO
 ·have aW:∀(j:Nat) (w:Value),(us++[au])[j]?=some w->inBlock w b->(us[j]?=some w/\b<o8)\/(j=us.length/\o8<=b):=fun j w hw ag=>by
   by_cases fs:j<us.length
   ·rw[List.getElem?_append_left fs]at hw
    exact .inl ⟨hw,a5 _ _ _ hw ag aI⟩
   ·rw[List.getElem?_append_right (by omega)]at hw
    have uW:j-us.length=0:=by
     have:=(cH.1 hw).1
     simp at this;omega
    rw[uW]at hw
    simp at hw
    subst hw
    exact .inr ⟨by omega,aG b aI ag⟩
  rcases aW j w o aB with⟨aY,a3⟩ | ⟨aY,a3⟩
  ·rcases aW eb gD aa bs with⟨bN,ck⟩ | ⟨bN,ck⟩
   ·exact h.pE j eb b w gD aY bN aI aB bs
   ·omega
  ·rcases aW eb gD aa bs with⟨bN,ck⟩ | ⟨bN,ck⟩
   ·omega
   ·omega
theorem en.lt(h:en k bk e U aC af H v t us)(j:Nat)(w:Value)(b:Nat)(hw:us[j]?=some w)(ag:inBlock w b)(aI:0<b):b<H.length:=by
 have uY:j<t.length:=by rw[<-h.len];exact(cH.1 hw).1
 exact((h.rows j _ w (bB uY) hw).ge ag aI).2
end
def Cp(U:Nat)(u:Value)(n j m:Nat)(v:Value):Prop:=(∃b R cap c,u= .slice (some ⟨b,R,none⟩) n cap/\v= .slice (some ⟨b,R+j*U,none⟩) m c)\/(m=0/\∃a c,v= .slice a 0 c)
theorem bH.sub{α:Type}{k e U:Nat}{aC:Bool}{af:ab->Value->α->Prop}{H:ab}{v:Value}{xs:List α}(h:bH k e U aC af H v xs):Cp U v xs.length 0 xs.length v:=by
 obtain⟨cs,⟨o,aa⟩,aB⟩:=h
 rcases aa with⟨aI,aa | ⟨i,aa⟩⟩ | ⟨c,i,cap,l,all,aY,a3,bN,ck,eU,g9⟩
 ·exact .inr ⟨aI,_,_,aa⟩
 ·exact .inr ⟨aI,_,_,aa⟩
 ·exact .inl ⟨c,i,cap,cap,aY,by simpa using aY⟩
section
variable {P:Program} {r:List bF} {F:Fr} {H:ab} {Q:Fr->ab->Prop} {α:Type}
theorem BX{e0:Bool}{d t e U l h k:Nat}{aC:Bool}{x:Operand}{bb ad:Option Operand}{af:ab->Value->α->Prop}{xs:List α}{ax:ba ((⟨e0,none,some d,.slice t x bb ad none⟩:bF)::r) Q}(cy:bH k e U aC af H (aq F x) xs)(hu:P.underlying t=some (.slice e))(ao:bp P e=some U)(o:aC=true\/U=1)
  (ar:dM (aq F) bb=some l)(c4:e2 (aq F) xs.length ad=some h)(xu:l<=h)(xm:h<=xs.length)(K:∀au,Row e U aC af H au ((xs.drop l).take (h-l))->Cp U (aq F x) xs.length l (h-l) au->a_ P r Q .mk (a1 F d au) H):a_ P ((⟨e0,none,some d,.slice t x bb ad none⟩:bF)::r) Q ax F H:=by
 by_cases aI:h-l=0
 ·refine qi cy.row hu ao o ar c4 xu xm fun au dJ=>K au dJ (.inr ⟨aI,?_⟩)
  obtain⟨a,c,an⟩:=dJ.len
  rw[aI]at an
  exact⟨a,c,by simpa using an⟩
 ·have mo:=cy
  obtain⟨cs,⟨J7,aa⟩,aB⟩:=mo
  rcases aa with⟨pG,-⟩ | ⟨b,i,cap,vj,all,aY,a3,bN,ck,eU,g9,FC⟩
  ·omega
  ·refine OY (b:=b) (i:=i) (len:=xs.length) (cap:=cap) (l:=l) (h:=h) aY eU rfl hu ao ar c4 xu (by omega) (by omega) ?_
   refine K _ ?_ (.inl ⟨b,i,cap,cap-l,aY,rfl⟩)
   refine⟨(cs.drop (l*U)).take ((h-l)*U),⟨_,_,by rw[List.length_take,List.length_drop,Nat.min_eq_left (by omega)],by rw[List.length_take,List.length_drop];omega,?_,fun _=>⟨b,i+l*U,_,all,rfl,eU,rfl,rfl,?_,?_⟩⟩,fun j y aK=>?_⟩
   ·have bm:(h-l)*U+l*U=h*U:=by rw[<-Nat.add_mul];congr 1;omega
    have bk:h*U<=xs.length*U:=Nat.mul_le_mul_right _ xm
    have fP:((xs.drop l).take (h-l)).length=h-l:=by simp;omega
    rw[fP]
    simp
    omega
   ·have bm:(cap-l)*U+l*U=cap*U:=by rw[<-Nat.add_mul];congr 1;omega
    have fP:((xs.drop l).take (h-l)).length=h-l:=by simp;omega
    rw[fP]
    have bk:(h-l)*U<=(cap-l)*U:=Nat.mul_le_mul_right _ (by omega)
    omega
   ·have bm:(h-l)*U+l*U=h*U:=by rw[<-Nat.add_mul];congr 1;omega
    have bk:h*U<=xs.length*U:=Nat.mul_le_mul_right _ xm
    have fP:((xs.drop l).take (h-l)).length=h-l:=by simp;omega
    rw[fP,FC,List.drop_take,List.drop_drop,List.take_take,Nat.min_eq_left (by omega)]
   ·have cC:j<h-l:=by
     have:=(cH.1 aK).1
     simp at this
     omega
    rw[List.getElem?_take_of_lt cC,List.getElem?_drop]at aK
    have:=aB _ _ aK
    have bm:ev aC U ((cs.drop (l*U)).take ((h-l)*U)) j=ev aC U cs (l+j):=by
     have hle:(j+1)*U<=(h-l)*U:=Nat.mul_le_mul_right _ cC
     rw[Nat.succ_mul]at hle
     unfold ev
     cases aC with
     | true=>
      simp only[if_true]
      rw[List.drop_take,List.drop_drop,List.take_take,Nat.min_eq_left (by omega),<-Nat.add_mul]
     | false=>
      have fu:U=1:=by rcases o with h | h;cases h;exact h
      subst fu
      simp only[Bool.false_eq_true,if_false,Nat.mul_one]
      rw[List.getElem?_take_of_lt cC,List.getElem?_drop]
    rw[bm]
    exact this
theorem rG{d h5 bY e U k j m:Nat}{aC:Bool}{x y:Operand}{u:Value}{af:ab->Value->α->Prop}{xs bS:List α}{ax:ba (cp d h5 bY x y::r) Q}(cy:bH k e U aC af H u xs)(aA:Cp U u xs.length j m (aq F x))(ahD:j+m<=xs.length)(k9:Row e U aC af H (aq F y) bS)
  (kI:∀u y,af H u y->Whole P e u)(ht:∀aH dz u y,Kept H aH dz e->af H u y->af aH u y)(hu:P.underlying h5=some (.slice e))(ao:bp P e=some U)(et:dq P e=some aC)(o:aC=true\/U=1)(c7:0<U)
  (K:∀aH,bH k e U aC af aH u (xs.take j++bS.take m++xs.drop (j+(bS.take m).length))->(∀cx:ab,cx.length<=k->Ext cx H->Ext cx aH)->Kept H aH u e->aH.length=H.length->(∀c,c<k->aH[c]?=H[c]?)->a_ P r Q .mk (a1 F d (.int .i64 ((bS.take m).length:Int))) aH):a_ P (cp d h5 bY x y::r) Q ax F H:=by
 have a4:∀R:Oper,R.op= .call {callee:= .builtin .copy,args:= #[x,y],argTypes:= #[h5,bY]}->bV P R=false:=fun R aM=>by simp[bV,aM]
 have aG:b5 P (aq F) H (.call {callee:= .builtin .copy,args:= #[x,y],argTypes:= #[h5,bY]})=none:=rfl
 by_cases aI:(bS.take m).length=0
 ·have m8:min bS.length m=0:=by simpa[Nat.min_comm]using aI
  obtain⟨afS,e1,sX⟩:=k9.len
  obtain⟨afR,agB,iS⟩:∃a c,aq F x= .slice a m c:=by
   rcases aA with⟨b,R,cap,c,-,h⟩ | ⟨rfl,a,c,h⟩
   ·exact⟨_,_,h⟩
   ·exact⟨_,_,h⟩
  refine jM (v:= .int .i64 0) (H1:=H) rfl rfl aG (fun R aM=> .wu aM hu ao (by rw[sX];exact .vW) m8 iS) a4 (.inl rfl) ?_
  have he:bS.take m=[]:=List.eq_nil_of_length_eq_zero aI
  have:=K H (by rw[he];simpa using cy) (fun _ _ h=>h) (fun b X h _=>h) rfl (fun _ _=>rfl)
  rw[aI]at this
  exact this
 ·have mo:=cy
  obtain⟨cs,⟨ar,aa⟩,aB⟩:=mo
  obtain⟨aQ,z9,w6⟩:=k9
  have m8:0<m:=by rcases Nat.eq_zero_or_pos m with q | q;·subst q;simp at aI
                  exact q
  obtain⟨b,R,cap,c,ic,lT⟩:∃b R cap c,u= .slice (some ⟨b,R,none⟩) xs.length cap/\aq F x= .slice (some ⟨b,R+j*U,none⟩) m c:=by
   rcases aA with h | ⟨q,-⟩
   ·exact h
   ·omega
  rcases aa with⟨pG,-⟩ | ⟨ct,kv,dD,vj,all,aY,a3,bN,ck,eU,g9,FC⟩
  ·omega
  rw[ic]at aY
  simp at aY
  obtain⟨⟨rfl,rfl⟩,rfl⟩:=aY
  obtain⟨n,sD⟩:∃n,n=(bS.take m).length:=⟨_,rfl⟩
  have Ee:n=min bS.length m:=by rw[sD];simp[Nat.min_comm]
  have jE:aQ.length=bS.length*U:=by obtain⟨_,_,_,_,h,_⟩:=z9;exact h
  have dc:Src H U (aq F y) bS.length n (aQ.take (n*U)):=eo.src z9 (by omega)
  have AA:n*U<=bS.length*U:=Nat.mul_le_mul_right _ (by omega)
  have n_:(aQ.take (n*U)).length=n*U:=by simp;omega
  have xB:((aQ.take (n*U)).all (·.oneCell'))=true:=by
   have:=Row.Zf (P:=P) w6 jE kI et o
   rw[List.all_eq_true]at this⊢
   exact fun u hu=>this u (List.mem_of_mem_take hu)
  have bm:(j+n)*U=j*U+n*U:=Nat.add_mul _ _ _
  have bk:(j+n)*U<=xs.length*U:=Nat.mul_le_mul_right _ (by omega)
  have fP:xs.length*U<=cap*U:=Nat.mul_le_mul_right _ bN
  have bz:R+j*U+(aQ.take (n*U)).length<=all.length:=by omega
  refine jM (v:= .int .i64 n) (H1:=H.set b (.own e vj (dg all (R+j*U) (aQ.take (n*U))))) rfl rfl aG (fun R aM=> .copy aM hu ao dc Ee (by omega) eU bz xB lT) a4 (.inl rfl) ?_
  have gP:=(cH.1 eU).1
  have uZ:Kept H (H.set b (.own e vj (dg all (R+j*U) (aQ.take (n*U))))) u e:=fun ct X aT c8=>by
   have:b≠ct:=fun cX=>by
    subst cX
    rw[eU]at aT
    exact c8 ⟨R,_,cap,ic⟩ (by rw[<-Option.some.inj aT];rfl)
   rw[List.getElem?_set_ne this];exact aT
  have hlen:(xs.take j++bS.take m++xs.drop (j+(bS.take m).length)).length=xs.length:=by
   simp only[List.length_append,List.length_take,List.length_drop]
   omega
  have T5:(cs.take (j*U)++aQ.take (n*U)++cs.drop (j*U+n*U))=dg cs (j*U) (aQ.take (n*U)):=by
   unfold dg;rw[n_]
  have:=K (H.set b (.own e vj (dg all (R+j*U) (aQ.take (n*U))))) ⟨dg cs (j*U) (aQ.take (n*U)),⟨by rw[nx (by omega),ar,hlen],.inr ⟨b,R,cap,vj,_,by rw[hlen];exact ic,a3,by rw[hlen];exact bN,ck,List.getElem?_set_self gP,by rw[nx bz];exact g9,?_⟩⟩,fun i y aK=>?_⟩
   (fun cx aI J=>J.set (by omega) (by simp)) uZ (by simp) (fun c ae=>List.getElem?_set_ne (by omega))
  ·rw[<-sD]at this;exact this
  ·rw[hlen,FC]
   have n6:j*U+(aQ.take (n*U)).length<=((all.drop R).take (xs.length*U)).length:=by simp;omega
   apply List.ext_getElem?
   intro i
   by_cases ad:i<xs.length*U
   ·rw[List.getElem?_take_of_lt ad,List.getElem?_drop,rD bz,rD n6,List.getElem?_take_of_lt ad,List.getElem?_drop]
    by_cases ae:j*U<=i/\i<j*U+(aQ.take (n*U)).length
    ·rw[if_pos ae,if_pos ⟨by omega,by omega⟩]
     congr 1
     omega
    ·rw[if_neg ae,if_neg (by omega)]
   ·rw[List.getElem?_eq_none (by rw[nx n6];simp;omega),List.getElem?_eq_none (by simp;omega)]
  ·
   have gO:∀u x,af H u x->af (H.set b (.own e vj (dg all (R+j*U) (aQ.take (n*U))))) u x:=fun u x h=>ht _ _ _ _ uZ h
   rw[<-T5]
   have bO:(cs.take (j*U)).length=j*U:=by simp;omega
   by_cases jl:i<j
   ·rw[List.append_assoc,List.getElem?_append_left (by simp;omega),List.getElem?_take_of_lt jl]at aK
    rw[List.append_assoc,r7 bO jl o]
    have:ev aC U (cs.take (j*U)) i=ev aC U cs i:=by
     have:=r7 (aC:=aC) (i:=i) (aQ:=cs.drop (j*U)) bO jl o
     rw[List.take_append_drop]at this
     exact this.symm
    rw[this]
    exact gO _ _ (aB _ _ aK)
   ·by_cases ie:i<j+n
    ·rw[List.append_assoc,List.getElem?_append_right (by simp;omega),List.getElem?_append_left (by simp;omega)]at aK
     have gg:(xs.take j).length=j:=by simp;omega
     rw[gg,List.getElem?_take_of_lt (by omega)]at aK
     rw[List.append_assoc,zF bO (by omega) o,r7 n_ (by omega) o]
     have:ev aC U (aQ.take (n*U)) (i-j)=ev aC U aQ (i-j):=by
      have:=r7 (aC:=aC) (i:=i-j) (aQ:=aQ.drop (n*U)) n_ (by omega) o
      rw[List.take_append_drop]at this
      exact this.symm
     rw[this]
     exact gO _ _ (w6 _ _ aK)
    ·rw[List.getElem?_append_right (by simp;omega)]at aK
     have iz:(xs.take j++bS.take m).length=j+n:=by simp;omega
     rw[iz,<-sD,List.getElem?_drop,show j+n+(i-(j+n))=i by omega]at aK
     have mx:(cs.take (j*U)++aQ.take (n*U)).length=(j+n)*U:=by rw[List.length_append,bO,n_,bm]
     rw[zF mx (by omega) o]
     have:ev aC U (cs.drop (j*U+n*U)) (i-(j+n))=ev aC U cs i:=by
      have bs:(cs.take ((j+n)*U)).length=(j+n)*U:=by simp;omega
      have:=zF (aC:=aC) (i:=i) (aQ:=cs.drop ((j+n)*U)) bs (by omega) o
      rw[List.take_append_drop,bm]at this
      exact this.symm
     rw[this]
     exact gO _ _ (aB _ _ aK)
end
def e7{α:Type}(P:Program)(e:Nat)(af:ab->Value->α->Prop)(H:ab)(u:Value):Option α->Prop
 | some a=>af H u a
 | none=>Whole P e u
section
variable {α:Type} {P:Program} {e U k:Nat} {aC:Bool} {af:ab->Value->α->Prop} {H:ab} {v:Value} {xs:List α}
instance[b3 af]:b3 (e7 P e af):=⟨fun{H H1 u R} h J=>by
 cases R with
 | none=>exact h
 | some a=>exact b3.ext (af:=af) h J⟩
theorem e7.kc(bo:∀u y,af H u y->Whole P e u):∀u y,e7 P e af H u y->Whole P e u
 | u,none,h=>h
 | u,some a,h=>bo u a h
theorem e7.kept{cX:Nat}(bo:∀aH dz u y,Kept H aH dz cX->af H u y->af aH u y):∀aH dz u y,Kept H aH dz cX->e7 P e af H u y->e7 P e af aH u y
 | aH,dz,u,none,_,h=>h
 | aH,dz,u,some a,ak,h=>bo aH dz u a ak h
theorem Row.opt(h:Row e U aC af H v xs):Row e U aC (e7 P e af) H v (xs.map some):=by
 obtain⟨cs,o,aa⟩:=h
 refine⟨cs,by simpa using o,fun i x ad=>?_⟩
 rw[List.getElem?_map,Option.map_eq_some_iff]at ad
 obtain⟨y,aK,rfl⟩:=ad
 exact aa i y aK
theorem bH.Gn(h:bH k e U aC (e7 P e af) H v (xs.map some)):bH k e U aC af H v xs:=by
 obtain⟨cs,o,aa⟩:=h
 refine⟨cs,by simpa using o,fun i x ad=>?_⟩
 exact aa i (some x) (by simp[ad])
theorem FL{α:Type}(a:α){n N:Nat}(aI:n<=N):(List.replicate n (some a)++List.replicate (N-n) (none:Option α)).take n++(List.replicate n (some a)).take (N-n)++(List.replicate n (some a)++List.replicate (N-n) (none:Option α)).drop (n+((List.replicate n (some a)).take (N-n)).length)=List.replicate (n+min (N-n) n) (some a)++List.replicate (N-(n+min (N-n) n)) none:=by
 rw[List.take_replicate,List.take_append,List.take_replicate]
 simp only[List.length_replicate,Nat.sub_self,List.take_zero,List.append_nil,Nat.min_self]
 rw[List.replicate_append_replicate]
 congr 1
 rw[List.drop_append,List.drop_eq_nil_of_le (by simp),List.nil_append]
 simp only[List.length_replicate,List.drop_replicate]
 congr 1
 omega
theorem FK{α:Type}(a:α)(N:Nat):(List.replicate N (none:Option α)).take 0++([some a]:List (Option α)).take N++(List.replicate N (none:Option α)).drop (0+(([some a]:List (Option α)).take N).length)=List.replicate (min N 1) (some a)++List.replicate (N-min N 1) none:=by
 rcases N with _ | N
 ·simp
 ·have:min (N+1) 1=1:=by omega
  rw[this]
  simp
theorem FJ{α:Type}(a:α){n N:Nat}(aI:n<=N)(o:¬n<N):List.replicate n (some a)++List.replicate (N-n) (none:Option α)=(List.replicate N a).map some:=by
 have:n=N:=by omega
 subst this
 simp
end
section
variable {P:Program} {r:List bF} {F:Fr} {H:ab} {Q:Fr->ab->Prop} {α:Type}
theorem yL{e0:Bool}{d t e U:Nat}{aC:Bool}{x:Operand}{z:Value}{af:ab->Value->α->Prop}{a:α}{ax:ba ((⟨e0,none,some d,.buildSlice t 1 #[(0,x)]⟩:bF)::r) Q}(aO:∀aH,Ext H aH->af aH (aq F x) a)(hw:Whole P e (aq F x))
  (bO:P.underlying t=some (.slice e))(ao:bp P e=some U)(et:dq P e=some aC)(aN:dA P e=some z)(dU:flat z=true)(di:z.cells.size=U)(c7:0<U)(q9:U<=1000)
  (K:∀v aH,bH H.length e U aC af aH v [a]->Ext H aH->a_ P r Q .mk (a1 F d v) aH):a_ P ((⟨e0,none,some d,.buildSlice t 1 #[(0,x)]⟩:bF)::r) Q ax F H:=by
 have eO:(made z (1*U)).length=U:=by rw[vm,Nat.one_mul]
 have lf:(aq F x).cells.size=U:=by have:=hw.1;rw[ao]at this;exact(Option.some.inj this).symm
 have an:(aq F x).cells.toList.length=U:=by simp[lf]
 have aM:jd (fun i=>some (i*U,U)) (made z (1*U)) [(0,aq F x)]=some (aq F x).cells.toList:=by
  simp only[jd]
  rw[if_pos ⟨an,by rw[eO];omega⟩]
  have:=BH (aq F x).cells.toList (made z (1*U)) [] (by rw[eO,an])
  simpa using this
 have az:Instr.fill (fun i=>some (i*U,U)) (made z (1*U)).toArray ((#[(0,x)]:Array (Nat×Operand)).toList.map fun p=>(p.1,aq F p.2))=some (aq F x).cells:=by
  rw[fill_eq]
  simp only[List.map_cons,List.map_nil]
  rw[aM]
  simp
 have av:∀R:Oper,R.op= .buildSlice t 1 #[(0,x)]->fe P (aq F) H R (.slice (some ⟨H.length,0,none⟩) 1 1) (H++[.own e false (aq F x).cells.toList]):=fun R ft=> .build (out:=(aq F x).cells) ft bO ao aN dU di c7 (by omega) (by omega) az (by have:=an;simp at this;omega)
 have J:Ext H (H++[.own e false (aq F x).cells.toList]):=(Ext.refl H).snoc _ _ _
 refine jM rfl rfl rfl av (fun R aM=>by simp[bV,aM]) (.inr J) (K _ _ ⟨(aq F x).cells.toList,⟨by simp[lf],.inr ⟨H.length,0,1,false,(aq F x).cells.toList,rfl,by omega,Nat.le_refl _,Nat.le_refl _,by simp,by simp[lf],?_⟩⟩,fun i y ad=>?_⟩ J)
 ·rw[List.drop_zero,List.length_singleton,Nat.one_mul,<-an,List.take_length]
 ·have Ai:i=0:=by have:=(cH.1 ad).1;simp at this;exact this
  subst Ai
  simp at ad
  subst ad
  have:=CT (n:=0) (cs:=[]) (by simp) hw ao et
  rw[List.nil_append]at this
  rw[this]
  exact aO _ J
end
section
variable {P:Program} {r:List bF} {F:Fr} {H:ab} {Q:Fr->ab->Prop} {α:Type}
theorem yM{d t e U bI n:Nat}{aC:Bool}{x y:Operand}{e4 c9:IntKind}{z:Value}{af:ab->Value->α->Prop}{a:α}{ax:ba (ms d t x y::r) Q}(hu:P.underlying t=some (.slice e))(ao:bp P e=some U)(ag:bytes? P e=some bI)(aN:dA P e=some z)(dU:flat z=true)
  (et:dq P e=some aC)(hw:Whole P e z)(J:aq F x= .int e4 (n:Int))(aK:aq F y= .int c9 (n:Int))(c7:0<U)(dY:0<bI)(bz:bI*n<=281474976710656)(bo:∀aH,af aH z a)
  (K:∀ep eG aH,bH H.length e U aC af aH (.slice ep n eG) (List.replicate n a)->Ext H aH->a_ P r Q .mk (a1 F d (.slice ep n eG)) aH):a_ P (ms d t x y::r) Q ax F H:=
 rH hu ao ag aN dU et hw J aK c7 dY bz bo fun v aH cy rf ae=>by
  have ar:=cy.len
  rw[List.length_replicate]at ar
  obtain⟨ep,eG,rfl⟩:=ar
  exact K ep eG aH cy rf
end
end Go.cW
end
section
set_option maxRecDepth 8000
set_option maxHeartbeats 1000000
namespace Go.cW
open Go.Proofs
open Go.Proofs.Tryz (prog)
attribute [-simp] hF iq ka
def zk(a b:Int):Int:=IntKind.u64.wrap ((BitVec.ofInt 64 a&&&BitVec.ofInt 64 b).toNat:Int)
@[simp high] theorem aiL(P:Program)(t:Nat)(a b:Int):dZ P .and t (.int .u64 a) (.int .u64 b)=some (.int .u64 (zk a b)):=aab
theorem IS{x:Nat}(J:x<4294967296):zk (x:Int) 4294967295=(x:Int):=by
 unfold zk
 have o:((BitVec.ofInt 64 (x:Int))&&&(BitVec.ofInt 64 4294967295)).toNat=x:=by
  have e:(4294967295:Int)=((4294967295:Nat):Int):=rfl
  rw[e,BitVec.ofInt_natCast,BitVec.ofInt_natCast,BitVec.toNat_and,BitVec.toNat_ofNat,BitVec.toNat_ofNat,Nat.mod_eq_of_lt (by omega),Nat.mod_eq_of_lt (by omega)]
  have:=Nat.and_two_pow_sub_one_eq_mod x 32
  rw[show(4294967295:Nat)=2^32-1 from rfl,this]
  omega
 rw[o]
 exact gk (by omega) (by omega)
theorem FU{x:Nat}(J:x<4294967296):Int.fdiv (x:Int) 4294967296=0:=by
 rw[Int.fdiv_eq_ediv_of_nonneg _ (by decide)]
 omega
theorem Y6{a b:Nat}{H:ab}(aO:a<65536)(ag:b<65536):aP prog 112 [.int .u64 a,.int .u64 b] H (fun u H1=>H1=H/\u= .tuple #[.int .u64 0,.int .u64 (a*b:Nat)]):=by
 refine aP.b9 fun Q aD=>?_
 apply Xb (by simp)
 obtain⟨p,a2⟩:∃p,p=a*b:=⟨_,rfl⟩
 have ig:p<4294967296:=by
  have:=Nat.mul_lt_mul'' aO ag
  omega
 have Vc:(a:Int)*(b:Int)=(p:Int):=by rw[a2];simp
 have d_:IntKind.wrap .u64 0=0:=by decide
 have wp:IntKind.wrap .u64 (p:Int)=p:=gk (by omega) (by omega)
 have ep:=IS (show a<4294967296 by omega)
 have e0:=IS (show b<4294967296 by omega)
 have ae6:Int.fdiv 0 4294967296=0:=by decide
 have GD:zk 0 4294967295=0:=by decide
 simp[HT,ep,e0,FU (show a<4294967296 by omega),FU (show b<4294967296 by omega),Vc,wp,d_,FU ig,ae6,GD,bd]
 exact aD _ _ ⟨rfl,by simp[a2]⟩
theorem Fj{a b:Nat}{H:ab}(aO:a<65536)(ag:b<65536):aP prog 89 [.int .u64 a,.int .u64 b] H (fun u H1=>H1=H/\u= .tuple #[.int .u64 0,.int .u64 (a*b:Nat)]):=by
 refine aP.b9 fun Q aD=>?_
 apply Xa (by simp)
 simp[HS]
 refine aV.mk (Y6 aO ag) ?_
 rintro u H1 ⟨rfl,rfl⟩
 simp[bd]
 exact aD _ _ ⟨rfl,by simp⟩
theorem Gl{n:Nat}(h:n<65536):IntKind.u64.wrap (n:Int)=n:=gk (by omega) (by omega)
theorem vf{n:Nat}(h:n<65536):IntKind.i64.wrap (n:Int)=n:=b7 (by omega) (by omega)
theorem ZP{α:Type}{af:ab->Value->α->Prop}[b3 af]{v:Value}{a:α}{n:Nat}{H:ab}(aT:Row 3 1 false af H v [a])(aG:n<65536)
  (kI:∀H u y,af H u y->Whole prog 3 u)(ht:∀H aH dz u y,Kept H aH dz 3->af H u y->af aH u y):
  aP prog 60 [v,.int .i64 n] H (fun u H1=>Ext H H1/\bH H.length 3 1 false af H1 u (List.replicate n a)):=by
 refine aP.b9 fun Q aD=>?_
 apply Yj (by simp)
 obtain⟨ha,ch,an⟩:=aT.len
 subst an
 have og:=Gl aG
 have jl:=vf aG
 simp[IB]
 refine ca.join (by kernel_rfl) (fun c0 dS b0=>b0=H) ?_ ?_
 ·rintro K aX-
  simp
  refine bt.b6 (fun h=>by omega) (fun _=>?_)
  exact aX _ _ _ rfl
 rintro c0 dS b0 rfl
 simp
 refine cP (af:=af) (xs:=[a]) (by simpa using aT) (by simp) ?_
 have a7:IntKind.u64.wrap 1=((1:Nat):Int):=by decide
 simp[og,a7]
 refine aV.mk (Fj (a:=1) (b:=n) (by omega) aG) ?_
 rintro u H1 ⟨rfl,rfl⟩
 simp
 refine ca.join (by kernel_rfl) (fun fi gE b8=>b8=H1) ?_ ?_
 ·rintro K aX-
  rw[l8]
  refine ca.join (by kernel_rfl) (fun fi gE b8=>b8=H1/\fi 26= .bool false) ?_ ?_
  ·rintro eg jz-
   simp
   exact jz _ _ _ ⟨rfl,by simp;omega⟩
  ·rintro fi gE b8 ⟨rfl,nS⟩
   simp only[ik]at nS
   simp at nS
   simp[nS]
   exact aX _ _ _ rfl
 rintro fi gE b8 rfl
 simp[jl]
 refine rH (e:=3) (U:=1) (bI:=8) (aC:=false) (n:=n) (e4:= .i64) (c9:= .i64) (z:=(.int .i64 0)) (af:=e7 prog 3 af) (a:=none) (by simp) (by simp) (by simp) (by rfl) (by first | rfl | simp[flat,hb]) (by simp) ⟨by rfl,by rfl,by simp[e3]⟩ (by simp) (by simp) (by decide) (by decide) (by omega) (fun aH=>⟨by rfl,by rfl,by simp[e3]⟩) ?_
 rintro au dN cy cI-
 simp
 refine rG (e:=3) (U:=1) (aC:=false) (af:=e7 prog 3 af) (xs:=List.replicate n none) (bS:=[some a]) (u:=au) (j:=0) (m:=n) (k:=b8.length) cy (by simpa using cy.sub) (by simp) (by simpa using b3.ext aT.opt cI) (e7.kc fun u y=>kI _ u y) (e7.kept (ht _)) (by simp) (by simp) (by simp) (by decide) (by decide) ?_
 rintro cU ia cw- - -
 rw[FK]at ia
 simp
 refine dm.mk (by kernel_rfl) (fun m ay bD H1=>∃q:Nat,m=n-q/\(0<q\/n=0)/\q<=n/\ay 8= .int .i64 (q:Int)/\ay 7=au/\bH b8.length 3 1 false (e7 prog 3 af) H1 au (List.replicate q (some a)++List.replicate (n-q) none)/\Ext b8 H1) (n-min n 1) ⟨min n 1,rfl,by omega,by omega,by simp,by simp,ia,cw _ (Nat.le_refl _) cI⟩ ?_
 rintro m qq rR eW ⟨q,rfl,AL,mA,cS,cd,eM,c1⟩ K aX
 simp at cS cd
 simp[cS,cd]
 refine cP (af:=e7 prog 3 af) (xs:=List.replicate q (some a)++List.replicate (n-q) none) (by simpa[cd]using eM.row) (by simp) ?_
 simp
 obtain⟨xs,hB⟩:∃xs,xs=List.replicate q (some a)++List.replicate (n-q) (none:Option α):=⟨_,rfl⟩
 have j5:xs.length=n:=by rw[hB];simp;omega
 rw[<-hB]at eM
 refine bt.b6 (fun a5=>?_) (fun hy=>?_)
 ·simp
  refine BX (e:=3) (U:=1) (aC:=false) (af:=e7 prog 3 af) (xs:=xs) (l:=q) (h:=n) (k:=b8.length) (by simpa[cd]using eM) (by simp) (by simp) (by decide) (by simp[dM,cS]) (by simp[e2,j5]) (by omega) (by omega) ?_
  intro yW bw l0
  simp at l0
  simp
  refine qi (e:=3) (U:=1) (aC:=false) (af:=e7 prog 3 af) (xs:=xs) (l:=0) (h:=q) (by simpa[cd]using eM.row) (by simp) (by simp) (by decide) (by simp[dM,cS]) (by simp[e2,cS]) (by omega) (by omega) ?_
  intro qm bf
  have bk:(xs.drop 0).take (q-0)=List.replicate q (some a):=by rw[hB];simp
  rw[bk]at bf
  refine rG (e:=3) (U:=1) (aC:=false) (af:=e7 prog 3 af) (xs:=xs) (bS:=List.replicate q (some a)) (u:=au) (j:=q) (m:=n-q) (k:=b8.length) eM (by simpa using l0) (by omega) (by simpa using bf) (e7.kc fun u y=>kI _ u y) (e7.kept (ht _)) (by simp) (by simp) (by simp) (by decide) (by decide) ?_
  rintro fJ m0 dF- - -
  rw[hB,FL a mA]at m0
  have ie:=vf (n:=q+min (n-q) q) (by omega)
  simp at ie
  simp[cS,ie]
  refine aX (n-(q+min (n-q) q)) _ _ _ (by omega) ⟨q+min (n-q) q,rfl,by omega,by omega,by simp,by simp[cd],m0,dF _ (Nat.le_refl _) c1⟩
 ·have oc:q=n:=by omega
  rw[hB,FJ a mA (by omega)]at eM
  simp[bd,cd]
  exact aD _ _ ⟨c1,eM.Gn⟩
theorem ZR{α:Type}{af:ab->Value->α->Prop}[b3 af]{v:Value}{a:α}{n:Nat}{H:ab}(aT:Row 34 1 false af H v [a])(aG:n<65536)
  (kI:∀H u y,af H u y->Whole prog 34 u)(ht:∀H aH dz u y,Kept H aH dz 34->af H u y->af aH u y):
  aP prog 73 [v,.int .i64 n] H (fun u H1=>Ext H H1/\bH H.length 34 1 false af H1 u (List.replicate n a)):=by
 refine aP.b9 fun Q aD=>?_
 apply Yi (by simp)
 obtain⟨ha,ch,an⟩:=aT.len
 subst an
 have og:=Gl aG
 have jl:=vf aG
 simp[IA]
 refine ca.join (by kernel_rfl) (fun c0 dS b0=>b0=H) ?_ ?_
 ·rintro K aX-
  simp
  refine bt.b6 (fun h=>by omega) (fun _=>?_)
  exact aX _ _ _ rfl
 rintro c0 dS b0 rfl
 simp
 refine cP (af:=af) (xs:=[a]) (by simpa using aT) (by simp) ?_
 have a7:IntKind.u64.wrap 1=((1:Nat):Int):=by decide
 simp[og,a7]
 refine aV.mk (Fj (a:=1) (b:=n) (by omega) aG) ?_
 rintro u H1 ⟨rfl,rfl⟩
 simp
 refine ca.join (by kernel_rfl) (fun fi gE b8=>b8=H1) ?_ ?_
 ·rintro K aX-
  rw[l8]
  refine ca.join (by kernel_rfl) (fun fi gE b8=>b8=H1/\fi 26= .bool false) ?_ ?_
  ·rintro eg jz-
   simp
   exact jz _ _ _ ⟨rfl,by simp;omega⟩
  ·rintro fi gE b8 ⟨rfl,nS⟩
   simp only[ik]at nS
   simp at nS
   simp[nS]
   exact aX _ _ _ rfl
 rintro fi gE b8 rfl
 simp[jl]
 refine rH (e:=34) (U:=1) (bI:=24) (aC:=false) (n:=n) (e4:= .i64) (c9:= .i64) (z:=(.slice none 0 0)) (af:=e7 prog 34 af) (a:=none) (by simp) (by simp) (by simp) (by rfl) (by first | rfl | simp[flat,hb]) (by simp) ⟨by rfl,by rfl,by simp[e3]⟩ (by simp) (by simp) (by decide) (by decide) (by omega) (fun aH=>⟨by rfl,by rfl,by simp[e3]⟩) ?_
 rintro au dN cy cI-
 simp
 refine rG (e:=34) (U:=1) (aC:=false) (af:=e7 prog 34 af) (xs:=List.replicate n none) (bS:=[some a]) (u:=au) (j:=0) (m:=n) (k:=b8.length) cy (by simpa using cy.sub) (by simp) (by simpa using b3.ext aT.opt cI) (e7.kc fun u y=>kI _ u y) (e7.kept (ht _)) (by simp) (by simp) (by simp) (by decide) (by decide) ?_
 rintro cU ia cw- - -
 rw[FK]at ia
 simp
 refine dm.mk (by kernel_rfl) (fun m ay bD H1=>∃q:Nat,m=n-q/\(0<q\/n=0)/\q<=n/\ay 8= .int .i64 (q:Int)/\ay 7=au/\bH b8.length 34 1 false (e7 prog 34 af) H1 au (List.replicate q (some a)++List.replicate (n-q) none)/\Ext b8 H1) (n-min n 1) ⟨min n 1,rfl,by omega,by omega,by simp,by simp,ia,cw _ (Nat.le_refl _) cI⟩ ?_
 rintro m qq rR eW ⟨q,rfl,AL,mA,cS,cd,eM,c1⟩ K aX
 simp at cS cd
 simp[cS,cd]
 refine cP (af:=e7 prog 34 af) (xs:=List.replicate q (some a)++List.replicate (n-q) none) (by simpa[cd]using eM.row) (by simp) ?_
 simp
 obtain⟨xs,hB⟩:∃xs,xs=List.replicate q (some a)++List.replicate (n-q) (none:Option α):=⟨_,rfl⟩
 have j5:xs.length=n:=by rw[hB];simp;omega
 rw[<-hB]at eM
 refine bt.b6 (fun a5=>?_) (fun hy=>?_)
 ·simp
  refine BX (e:=34) (U:=1) (aC:=false) (af:=e7 prog 34 af) (xs:=xs) (l:=q) (h:=n) (k:=b8.length) (by simpa[cd]using eM) (by simp) (by simp) (by decide) (by simp[dM,cS]) (by simp[e2,j5]) (by omega) (by omega) ?_
  intro yW bw l0
  simp at l0
  simp
  refine qi (e:=34) (U:=1) (aC:=false) (af:=e7 prog 34 af) (xs:=xs) (l:=0) (h:=q) (by simpa[cd]using eM.row) (by simp) (by simp) (by decide) (by simp[dM,cS]) (by simp[e2,cS]) (by omega) (by omega) ?_
  intro qm bf
  have bk:(xs.drop 0).take (q-0)=List.replicate q (some a):=by rw[hB];simp
  rw[bk]at bf
  refine rG (e:=34) (U:=1) (aC:=false) (af:=e7 prog 34 af) (xs:=xs) (bS:=List.replicate q (some a)) (u:=au) (j:=q) (m:=n-q) (k:=b8.length) eM (by simpa using l0) (by omega) (by simpa using bf) (e7.kc fun u y=>kI _ u y) (e7.kept (ht _)) (by simp) (by simp) (by simp) (by decide) (by decide) ?_
  rintro fJ m0 dF- - -
  rw[hB,FL a mA]at m0
  have ie:=vf (n:=q+min (n-q) q) (by omega)
  simp at ie
  simp[cS,ie]
  refine aX (n-(q+min (n-q) q)) _ _ _ (by omega) ⟨q+min (n-q) q,rfl,by omega,by omega,by simp,by simp[cd],m0,dF _ (Nat.le_refl _) c1⟩
 ·have oc:q=n:=by omega
  rw[hB,FJ a mA (by omega)]at eM
  simp[bd,cd]
  exact aD _ _ ⟨c1,eM.Gn⟩
theorem ZQ{α:Type}{af:ab->Value->α->Prop}[b3 af]{v:Value}{a:α}{n:Nat}{H:ab}(aT:Row 80 4 true af H v [a])(aG:n<65536)
  (kI:∀H u y,af H u y->Whole prog 80 u)(ht:∀H aH dz u y,Kept H aH dz 80->af H u y->af aH u y):
  aP prog 96 [v,.int .i64 n] H (fun u H1=>Ext H H1/\bH H.length 80 4 true af H1 u (List.replicate n a)):=by
 refine aP.b9 fun Q aD=>?_
 apply Yk (by simp)
 obtain⟨ha,ch,an⟩:=aT.len
 subst an
 have og:=Gl aG
 have jl:=vf aG
 simp[IC]
 refine ca.join (by kernel_rfl) (fun c0 dS b0=>b0=H) ?_ ?_
 ·rintro K aX-
  simp
  refine bt.b6 (fun h=>by omega) (fun _=>?_)
  exact aX _ _ _ rfl
 rintro c0 dS b0 rfl
 simp
 refine cP (af:=af) (xs:=[a]) (by simpa using aT) (by simp) ?_
 have a7:IntKind.u64.wrap 1=((1:Nat):Int):=by decide
 simp[og,a7]
 refine aV.mk (Fj (a:=1) (b:=n) (by omega) aG) ?_
 rintro u H1 ⟨rfl,rfl⟩
 simp
 refine ca.join (by kernel_rfl) (fun fi gE b8=>b8=H1) ?_ ?_
 ·rintro K aX-
  rw[l8]
  refine ca.join (by kernel_rfl) (fun fi gE b8=>b8=H1/\fi 26= .bool false) ?_ ?_
  ·rintro eg jz-
   simp
   exact jz _ _ _ ⟨rfl,by simp;omega⟩
  ·rintro fi gE b8 ⟨rfl,nS⟩
   simp only[ik]at nS
   simp at nS
   simp[nS]
   exact aX _ _ _ rfl
 rintro fi gE b8 rfl
 simp[jl]
 refine rH (e:=80) (U:=4) (bI:=64) (aC:=true) (n:=n) (e4:= .i64) (c9:= .i64) (z:=(.agg #[.bool false,.slice none 0 0,.bool false,.slice none 0 0])) (af:=e7 prog 80 af) (a:=none) (by simp) (by simp) (by simp) (by rfl) (by first | rfl | simp[flat,hb]) (by simp) ⟨by rfl,by rfl,by simp[e3]⟩ (by simp) (by simp) (by decide) (by decide) (by omega) (fun aH=>⟨by rfl,by rfl,by simp[e3]⟩) ?_
 rintro au dN cy cI-
 simp
 refine rG (e:=80) (U:=4) (aC:=true) (af:=e7 prog 80 af) (xs:=List.replicate n none) (bS:=[some a]) (u:=au) (j:=0) (m:=n) (k:=b8.length) cy (by simpa using cy.sub) (by simp) (by simpa using b3.ext aT.opt cI) (e7.kc fun u y=>kI _ u y) (e7.kept (ht _)) (by simp) (by simp) (by simp) (by decide) (by decide) ?_
 rintro cU ia cw- - -
 rw[FK]at ia
 simp
 refine dm.mk (by kernel_rfl) (fun m ay bD H1=>∃q:Nat,m=n-q/\(0<q\/n=0)/\q<=n/\ay 8= .int .i64 (q:Int)/\ay 7=au/\bH b8.length 80 4 true (e7 prog 80 af) H1 au (List.replicate q (some a)++List.replicate (n-q) none)/\Ext b8 H1) (n-min n 1) ⟨min n 1,rfl,by omega,by omega,by simp,by simp,ia,cw _ (Nat.le_refl _) cI⟩ ?_
 rintro m qq rR eW ⟨q,rfl,AL,mA,cS,cd,eM,c1⟩ K aX
 simp at cS cd
 simp[cS,cd]
 refine cP (af:=e7 prog 80 af) (xs:=List.replicate q (some a)++List.replicate (n-q) none) (by simpa[cd]using eM.row) (by simp) ?_
 simp
 obtain⟨xs,hB⟩:∃xs,xs=List.replicate q (some a)++List.replicate (n-q) (none:Option α):=⟨_,rfl⟩
 have j5:xs.length=n:=by rw[hB];simp;omega
 rw[<-hB]at eM
 refine bt.b6 (fun a5=>?_) (fun hy=>?_)
 ·simp
  refine BX (e:=80) (U:=4) (aC:=true) (af:=e7 prog 80 af) (xs:=xs) (l:=q) (h:=n) (k:=b8.length) (by simpa[cd]using eM) (by simp) (by simp) (by decide) (by simp[dM,cS]) (by simp[e2,j5]) (by omega) (by omega) ?_
  intro yW bw l0
  simp at l0
  simp
  refine qi (e:=80) (U:=4) (aC:=true) (af:=e7 prog 80 af) (xs:=xs) (l:=0) (h:=q) (by simpa[cd]using eM.row) (by simp) (by simp) (by decide) (by simp[dM,cS]) (by simp[e2,cS]) (by omega) (by omega) ?_
  intro qm bf
  have bk:(xs.drop 0).take (q-0)=List.replicate q (some a):=by rw[hB];simp
  rw[bk]at bf
  refine rG (e:=80) (U:=4) (aC:=true) (af:=e7 prog 80 af) (xs:=xs) (bS:=List.replicate q (some a)) (u:=au) (j:=q) (m:=n-q) (k:=b8.length) eM (by simpa using l0) (by omega) (by simpa using bf) (e7.kc fun u y=>kI _ u y) (e7.kept (ht _)) (by simp) (by simp) (by simp) (by decide) (by decide) ?_
  rintro fJ m0 dF- - -
  rw[hB,FL a mA]at m0
  have ie:=vf (n:=q+min (n-q) q) (by omega)
  simp at ie
  simp[cS,ie]
  refine aX (n-(q+min (n-q) q)) _ _ _ (by omega) ⟨q+min (n-q) q,rfl,by omega,by omega,by simp,by simp[cd],m0,dF _ (Nat.le_refl _) c1⟩
 ·have oc:q=n:=by omega
  rw[hB,FJ a mA (by omega)]at eM
  simp[bd,cd]
  exact aD _ _ ⟨c1,eM.Gn⟩
def IR(H:ab)(v:Value)(z:Int):Prop:=v= .int .i64 z
def po(H:ab)(v:Value)(b:Bool):Prop:=v= .bool b
instance:b3 IR:=⟨fun h _=>h⟩
instance:b3 po:=⟨fun h _=>h⟩
theorem kd(n:Int):Whole prog 3 (.int .i64 n):=⟨by rfl,by rfl,by simp[e3]⟩
theorem PC(b:Bool):Whole prog 4 (.bool b):=⟨by rfl,by rfl,by simp[e3]⟩
theorem M4{v:Value}{t:List (List Rat)}{H:ab}(bc:hN H v t):aP prog 48 [.agg #[v]] H (fun w H1=>Ext H H1/\w= .int .i64 t.length):=by
 refine aP.b9 fun Q aD=>?_
 apply X1 (by simp)
 obtain⟨a,cap,rfl⟩:=Row.len bc
 simp[Hk,bd]
 refine cP (af:=jb) (xs:=t) (by simpa using b3.ext bc (Ext.more H (by simp))) (by simp) ?_
 simp[bd]
 exact aD _ _ ⟨Ext.more H (by simp),rfl⟩
theorem Fg{v:Value}{t:List (List Rat)}{fE:List Rat}{H:ab}(bc:hN H v t)(aI:t[0]?=some fE):aP prog 49 [.agg #[v]] H (fun w H1=>Ext H H1/\w= .int .i64 fE.length):=by
 refine aP.b9 fun Q aD=>?_
 apply X3 (by simp)
 obtain⟨a,cap,rfl⟩:=Row.len bc
 simp[Hl]
 refine cY (af:=jb) (xs:=t) (n:=0) (a:=fE) (e:=120) (U:=1) (aC:=false) (by simpa using b3.ext bc (Ext.more H (by simp))) (by simp) aI (by simp) (by simp) (by simp) (by decide) ?_
 intro Fs Gp q_
 refine cP (af:=cc) (xs:=fE) (by simpa using q_) (by simp) ?_
 simp[bd]
 exact aD _ _ ⟨Ext.more H (by simp),rfl⟩
def iM(t:List (List Rat))(k:Nat):List Rat:=t.map fun r=>r[k]?.getD 0
def eS(m:Nat)(t:List (List Rat)):List (List Rat):=(List.range m).map (iM t)
def ky(m:Nat)(t:List (List Rat))(i j:Nat):List (List Rat):=(List.range m).map fun a=>if a<i then iM t a else if a=i then iM (t.take j) a else[]
theorem aa6(m:Nat)(t:List (List Rat)):ky m t 0 0=List.replicate m []:=by
 unfold ky
 apply List.ext_getElem?
 intro a
 simp[List.getElem?_replicate,List.getElem?_range]
 by_cases h:a<m
 ·simp[h,iM]
 ·simp[h]
theorem aa2{m:Nat}{t:List (List Rat)}{i j:Nat}(ad:i<m):(ky m t i j)[i]?=some (iM (t.take j) i):=by
 simp[ky,List.getElem?_range,ad]
theorem aa5{m:Nat}{t:List (List Rat)}{i j:Nat}{row:List Rat}(ad:i<m)(al:t[j]?=some row):(ky m t i j).set i (iM (t.take j) i++[row[i]?.getD 0])=ky m t i (j+1):=by
 apply List.ext_getElem?
 intro a
 rw[List.getElem?_set]
 have aW:=(cH.1 al)
 by_cases h:i=a
 ·subst h
  simp only[ky,List.length_map,List.length_range,ad,if_true,List.getElem?_map,List.getElem?_range ad]
  simp[iM,List.take_add_one,al]
 ·rw[if_neg h]
  simp only[ky,List.getElem?_map]
  by_cases aO:a<m
  ·simp[List.getElem?_range aO,show¬a=i by omega]
  ·simp[aO]
theorem aa4(m:Nat)(t:List (List Rat))(i:Nat):ky m t i t.length=ky m t (i+1) 0:=by
 unfold ky
 apply List.map_congr_left
 intro a _
 by_cases o:a<i
 ·simp[o,show a<i+1 by omega]
 ·by_cases aa:a=i
  ·subst aa;simp
  ·simp[o,aa,show¬a<i+1 by omega,iM]
theorem aa1(m:Nat)(t:List (List Rat)):ky m t m 0=eS m t:=by
 unfold ky eS
 apply List.map_congr_left
 intro a aO
 simp at aO
 simp[aO]
theorem aa3(m:Nat)(t:List (List Rat))(i j:Nat):(ky m t i j).length=m:=by simp[ky]
theorem Gy(a:Option Addr)(n c:Nat):Whole prog 120 (.slice a n c):=⟨by rfl,by rfl,by simp[e3]⟩
theorem bH.kc{α:Type}{k e U:Nat}{aC:Bool}{af:ab->Value->α->Prop}{H:ab}{v:Value}{xs:List α}(h:bH k e U aC af H v xs):Whole prog 120 v:=by
 obtain⟨a,c,rfl⟩:=h.len
 exact Gy _ _ _
theorem OQ{v:Value}{t:List (List Rat)}{m:Nat}{H:ab}(bc:hN H v t)(bO:0<t.length)(ar:t.length<65536)(hm:∀r∈t,r.length=m)(lV:m<65536):
  aP prog 34 [.agg #[v]] H (fun u H1=>Ext H H1/\∃w,u= .agg #[w]/\hN H1 w (eS m t)):=by
 refine aP.b9 fun Q aD=>?_
 apply X8 (by simp)
 obtain⟨a,c,rfl⟩:=Row.len bc
 obtain⟨fE,gR⟩:∃fE,t[0]?=some fE:=⟨_,bB bO⟩
 have o1:=hm fE (List.mem_of_getElem? gR)
 simp[Iw]
 have br:Ext H (H++[.dead,.dead]):=Ext.more H (by simp)
 refine aV.mk (Fg (bc.ext br) gR) ?_
 rintro u H1 ⟨bw,rfl⟩
 rw[o1]
 have k7:=bc.ext (br.aw bw)
 have Lq:0<H1.length:=by have:=Ext.len (br.aw bw);have:=Ext.len bw;simp at this;omega
 refine rH (e:=120) (U:=1) (bI:=24) (aC:=false) (n:=m) (e4:= .i64) (c9:= .i64) (z:= .slice none 0 0) (af:=gZ) (a:= .slice none 0 0) (by simp) (by simp) (by simp) (by rfl) (by rfl) (by simp) (Gy _ _ _) (by simp) (by simp) (by decide) (by decide) (by omega) (fun aH=>rfl) ?_
 rintro w aR fR bf-
 have Ti:=en.Ns (e:=80) (U:=4) (aC:=true) (af:=cc) Lq fR
 simp
 refine cP (af:=gZ) (xs:=List.replicate m (.slice none 0 0)) (by simpa using fR.row) (by simp) ?_
 simp
 refine dm.range (by kernel_rfl) m (by omega) (by simp) (by rfl) (by simp) (by decide) (by decide) (fun i dt ez bP=>Ext H1 bP/\∃us,en H1.length 120 80 4 true cc bP w (ky m t i 0) us) ?_ ?_ ?_
 ·exact⟨bf,_,by rw[aa6];exact Ti⟩
 ·rintro i dt ez bP ad a4 ⟨bG,us,jk⟩ K aX
  simp at a4
  simp[a4]
  refine cP (af:=jb) (xs:=t) (by simpa using b3.ext k7 bG) (by simp) ?_
  simp
  refine dm.range (by kernel_rfl) t.length (by omega) (by simp) (by rfl) (by simp) (by decide) (by decide) (fun j c0 dS b0=>Ext H1 b0/\∃us,en H1.length 120 80 4 true cc b0 w (ky m t i j) us) ?_ ?_ ?_
  ·exact⟨bG,us,jk⟩
  ·rintro j c0 dS b0 aW jh ⟨cj,yT,mq⟩ pt h2
   simp at jh
   simp[jh]
   obtain⟨row,eR⟩:∃row,t[j]?=some row:=⟨_,bB aW⟩
   have sK:=hm row (List.mem_of_getElem? eR)
   obtain⟨q,av⟩:∃q,row[i]?=some q:=⟨_,bB (by omega)⟩
   refine cY (af:=jb) (xs:=t) (n:=j) (a:=row) (e:=120) (U:=1) (aC:=false) (by simpa using b3.ext k7 cj) (by simp[jh]) eR (by simp) (by simp) (by simp) (by decide) ?_
   intro g8 Gp q_
   simp
   obtain⟨u,hu,zZ⟩:=mq.vE (aa2 ad)
   refine cY (af:=gZ) (xs:=yT) (n:=i) (a:=u) (e:=120) (U:=1) (aC:=false) (by simpa using mq.own.row) (by simp) hu (by simp) (by simp) (by simp) (by decide) ?_
   rintro iD mL rfl
   simp
   refine cY (af:=cc) (xs:=row) (n:=i) (a:=q) (e:=80) (U:=4) (aC:=true) (by simpa using q_) (by simp) av (by simp) (by simp) (by simp) (by decide) ?_
   intro ns x J
   refine Gf (k:=H1.length) (e:=80) (U:=4) (aC:=true) (bI:=64) (z:= .agg #[.bool false,.slice none 0 0,.bool false,.slice none 0 0]) (af:=cc) (xs:=iM (t.take j) i) (a:=q) (by simpa using zZ) (by simpa using J) (by simpa using J.whole) (by simp) (fun aH dz u y ak h=>h.kept ak (by decide)) (by simp) (by simp) (by simp) (by simp) (by simp) (by rfl) (by rfl) (by first | rfl | simp[flat,hb]) (by rfl) (by decide) (by decide) (by decide) (by simp[iM];omega) (by have:=Ext.len cj;omega) ?_
   intro p8 tm cU ia cw lb uT xt
   simp at lb uT
   refine kR (k:=H1.length) (e:=120) (U:=1) (aC:=false) (n:=i) (af:=gZ) (xs:=yT) (a:=tm) (by simpa using mq.own.other lb (by decide) fun _ _ h=>h) (by simp) (by have:=mq.len;rw[aa3]at this;omega) (by simp[gZ]) (by simpa using ia.kc) (by simp) (fun _ _ _ _ _ h=>h) (by simp) (by simp) (by simp) (by decide) ?_
   rintro p9 eW eM c1 o0 qZ-
   simp at eM o0
   simp
   refine h2 _ _ _ (by simp[jh]) ⟨c1 _ (Nat.le_refl _) (cw _ (Nat.le_refl _) cj),yT.set i tm,?_⟩
   have:=mq.put hu (by decide) lb uT ia (fun u x h=>h.kept lb (by decide)) eM o0 (fun u x h=>h.kept o0 (by decide))
   rw[show iM (t.take j) i++[q]=iM (t.take j) i++[row[i]?.getD 0] by rw[av];rfl,aa5 ad eR]at this
   exact this
  ·rintro c0 dS b0 jh ⟨cj,yT,mq⟩
   simp at jh
   simp[jh]
   refine aX _ _ _ (by simp[a4]) ⟨cj,yT,?_⟩
   rw[<-aa4]
   exact mq
 ·rintro dt ez bP a4 ⟨bG,us,jk⟩
  have eR:=jk.row
  rw[aa1]at eR
  obtain⟨afQ,agA,rfl⟩:=jk.own.len
  simp[bd]
  exact aD _ _ ⟨br.aw (bw.aw bG),_,rfl,eR⟩
abbrev dO(H:ab)(v:Value)(l:List Int):Prop:=Row 3 1 false IR H v l
abbrev hn(H:ab)(v:Value)(t:List (List Int)):Prop:=Row 34 1 false dO H v t
instance:b3 dO:=⟨fun h J=>b3.ext (af:=Row 3 1 false IR) h J⟩
instance:b3 hn:=⟨fun h J=>b3.ext (af:=Row 34 1 false dO) h J⟩
theorem kB.row{H:ab}{v:Value}{l:List Int}(h:kB H v l):dO H v l:=⟨_,h,fun i x ad=>by
 show ev false 1 _ i= .int .i64 x
 unfold ev
 simp[ad]⟩
theorem Row.is{H:ab}{v:Value}{l:List Int}(h:dO H v l):kB H v l:=by
 obtain⟨cs,o,aa⟩:=h
 have ar:cs.length=l.length:=by obtain⟨_,_,_,_,q,_⟩:=o;omega
 have:cs=l.map (Value.int .i64):=by
  apply List.ext_getElem?
  intro i
  rw[List.getElem?_map]
  by_cases ad:i<l.length
  ·have:=aa i _ (bB ad)
   rw[bB ad,bB (by omega)]
   unfold IR ev at this
   simp[bB (show i<cs.length by omega)]at this
   simp[this]
  ·rw[List.getElem?_eq_none (by omega),List.getElem?_eq_none (by omega)]
   rfl
 unfold kB
 rw[<-this]
 exact o
theorem Row.s5{H:ab}{v:Value}{t:List (List Int)}(h:hn H v t):kg H v t:=by
 obtain⟨cs,o,aa⟩:=h
 have ar:cs.length=t.length:=by obtain⟨_,_,_,_,q,_⟩:=o;omega
 refine⟨cs,o,ar,fun i ad=>?_⟩
 have:=aa i _ (bB ad)
 rw[bB ad]
 unfold ev at this
 simp only[Bool.false_eq_true,if_false]at this
 exact this.is
theorem kg.row{H:ab}{v:Value}{t:List (List Int)}(h:kg H v t):hn H v t:=by
 obtain⟨aE,o,aa,aB⟩:=h
 refine⟨aE,o,fun i r ad=>?_⟩
 have cC:=(cH.1 ad).1
 have:=aB i cC
 rw[ad]at this
 unfold ev
 simp only[Bool.false_eq_true,if_false]
 exact this.row
def cF(t:List (List Int)):List (List Rat):=t.map fun r=>r.map fun x=>((x:Int):Rat)
theorem Oc{v:Value}{t:List (List Int)}{H:ab}(bc:hn H v t)(ar:t.length<65536)(al:∀r∈t,r.length<65536)(ag:∀r∈t,∀x∈r,-9223372036854775808<=x/\x<9223372036854775808):
  aP prog 32 [v] H (fun w H1=>Ext H H1/\∃a c us,w= .agg #[.slice a t.length c]/\en (H.length+1) 120 80 4 true cc H1 (.slice a t.length c) (cF t) us):=by
 refine aP.b9 fun Q aD=>?_
 apply XZ (by simp)
 obtain⟨a,cap,rfl⟩:=Row.len bc
 simp[Ip]
 have br:Ext H (H++[.dead]):=Ext.dead H
 refine cP (af:=dO) (xs:=t) (by simpa using b3.ext (af:=hn) bc br) (by simp) ?_
 simp
 refine dm.range (by kernel_rfl) t.length (by omega) (by simp) (by rfl) (by simp) (by decide) (by decide) (fun i bR c5 aR=>Ext (H++[.dead]) aR/\∃us,en (H.length+1) 120 80 4 true cc aR (bR 3) (cF (t.take i)) us) ?_ ?_ ?_
 ·exact⟨Ext.refl _,[],by simpa[cF]using en.nil _ _ _ _ _ _ _ (by omega)⟩
 ·rintro i bR c5 aR ad jg ⟨bf,us,jk⟩ K aX
  simp at jg jk
  refine Exists.elim (⟨_,bB ad⟩:∃row,t[i]?=some row) fun row eR=>?_
  have hh:=List.mem_of_getElem? eR
  have kJ:=al row hh
  have iz:=Ext.len bf
  simp at iz
  simp[jg]
  refine cY (af:=dO) (xs:=t) (n:=i) (a:=row) (e:=34) (U:=1) (aC:=false) (by simpa using b3.ext (af:=hn) bc (br.aw bf)) (by simp[jg]) eR (by simp) (by simp) (by simp) (by decide) ?_
  intro fC ph nd
  simp
  refine cP (af:=IR) (xs:=row) (by simpa using nd) (by simp) ?_
  simp
  refine dm.range (by kernel_rfl) row.length (by omega) (by simp) (by rfl) (by simp) (by decide) (by decide) (fun j c0 dS b0=>Ext aR b0/\bH aR.length 80 4 true cc b0 (c0 6) ((row.take j).map fun x=>((x:Int):Rat))) ?_ ?_ ?_
  ·exact⟨Ext.refl _,by simpa using bH.nil _ _ _ _ _ _⟩
  ·rintro j c0 dS b0 aW jh ⟨cj,kH⟩ pt h2
   simp at jh kH
   refine Exists.elim (⟨_,bB aW⟩:∃x,row[j]?=some x) fun x J=>?_
   have EU:=ag row hh x (List.mem_of_getElem? J)
   have An:=Ext.len cj
   simp[jh]
   refine cY (af:=IR) (xs:=row) (n:=j) (a:=x) (e:=3) (U:=1) (aC:=false) (by simpa using b3.ext (af:=Row _ _ _ IR) nd cj) (by simp[jh]) J (by simp) (by simp) (by simp) (by decide) ?_
   rintro iD mL rfl
   simp
   refine aV.mk (By EU.1 EU.2) ?_
   rintro w b8 ⟨cR,hw⟩
   refine qh (k:=aR.length) (e:=80) (U:=4) (aC:=true) (bI:=64) (z:= .agg #[.bool false,.slice none 0 0,.bool false,.slice none 0 0]) (af:=cc) (xs:=(row.take j).map fun x=>((x:Int):Rat)) (a:=(x:Rat)) (by simpa using b3.ext (af:=bH _ _ _ _ cc) kH cR) (by simpa using hw) (by simpa using hw.whole) (by simp) (fun aH dz u y ak h=>h.kept ak (by decide)) (by simp) (by simp) (by simp) (by simp) (by simp) (by rfl) (by rfl) (by first | rfl | simp[flat,hb]) (by rfl) (by decide) (by decide) (by decide) (by simp;omega) (by have:=Ext.len cR;omega) ?_
   intro ns v6 dN jA cI sA
   try simp
   refine h2 _ _ _ (by simp[jh]) ⟨cI _ (Nat.le_refl _) (cj.aw cR),?_⟩
   rw[List.take_add_one,J,List.map_append]
   simpa using jA
  ·rintro c0 dS b0 jh ⟨cj,kH⟩
   simp at kH
   have mq:=en.ext jk cj
   have An:=Ext.len cj
   have V_:=kH.kc
   have kK:=jk.len
   simp[cF]at kK
   try simp
   refine Gf (k:=H.length+1) (e:=120) (U:=1) (aC:=false) (bI:=24) (z:= .slice none 0 0) (af:=gZ) (xs:=us) (a:=c0 6) (by simpa using mq.own) (by simp[gZ]) (by simpa using V_) (by simp) (fun _ _ _ _ _ h=>h) (by simp) (by simp) (by simp) (by simp) (by simp) (by rfl) (by rfl) (by rfl) (by rfl) (by decide) (by decide) (by decide) (by omega) (by omega) ?_
   intro p8 tm cU ia cw lb uT xt
   simp at lb uT
   have u7:=en.snoc (cx:=aR) (o8:=aR.length) mq (fun b aI ag=>(kH.ge ag aI).1) (fun j u b hu ag aI=>jk.lt j u b hu ag aI) (by decide) (kH.le (by omega)) ia lb (fun u x h=>h.kept lb (by decide))
   try simp
   refine aX _ _ _ (by simp[jg]) ⟨cw _ (by simp) (bf.aw cj),us++[c0 6],?_⟩
   rw[List.take_add_one,eR]
   simpa[cF]using u7
 ·rintro bR c5 aR jg ⟨bf,us,jk⟩
  simp at jk
  obtain⟨c_,lc,mx⟩:=jk.own.len
  have kK:=jk.len
  simp[cF]at kK
  rw[mx,kK]at jk
  simp[mx,kK,bd]
  exact aD _ _ ⟨br.aw bf,c_,lc,us,rfl,jk⟩
theorem FI{v:Value}{t:List (List Int)}{H:ab}(bc:hn H v t)(ar:t.length<65536)(al:∀r∈t,r.length<65536)(ag:∀r∈t,∀x∈r,-9223372036854775808<=x/\x<9223372036854775808):
  aP prog 32 [v] H (fun w H1=>Ext H H1/\∃a c,w= .agg #[.slice a t.length c]/\hN H1 (.slice a t.length c) (cF t)):=
 (Oc bc ar al ag).mono fun w H1 ⟨J,a,c,us,hw,cy⟩=>⟨J,a,c,hw,cy.row⟩
def tC(N:Nat)(t:List (List Rat)):Prop:=∀r∈t,(∀k,dn N (hk (r.take k)))/\∀q∈r,dn N q
theorem tC.sum{N:Nat}{t:List (List Rat)}(h:tC N t){r:List Rat}(al:r∈t):dn N (hk r):=by
 have:=(h r al).1 r.length
 rwa[List.take_length]at this
def dL(t:List (List Rat))(i:Nat):Rat:=hk (t[i]?.getD [])
def dx(f:Nat->Rat):Nat->Rat×Nat
 | 0=>(f 0,0)
 | n+1=>if(dx f n).1<f n then(f n,n)else dx f n
theorem s8(f:Nat->Rat)(n:Nat):(dx f n).1=f (dx f n).2/\((dx f n).2<n\/(dx f n).2=0):=by
 induction n with
 | zero=>simp[dx]
 | succ n a0=>
  simp only[dx]
  split
  ·exact⟨rfl,.inl (Nat.lt_succ_self n)⟩
  ·exact⟨a0.1,by omega⟩
theorem Bh(f:Nat->Rat){n i:Nat}(ad:i<n):f i<=(dx f n).1:=by
 induction n with
 | zero=>omega
 | succ n a0=>
  simp only[dx]
  by_cases fT:i=n
  ·subst fT
   split
   ·exact Rat.le_refl
   ·rename_i h;exact Rat.not_lt.1 h
  ·have:=a0 (by omega)
   split
   ·rename_i h;exact Rat.le_trans this (Rat.le_of_lt h)
   ·exact this
theorem Y4(f:Nat->Rat){n i:Nat}(ad:i<(dx f n).2):f i<(dx f n).1:=by
 induction n with
 | zero=>simp[dx]at ad
 | succ n a0=>
  simp only[dx]at ad⊢
  split at ad
  ·rename_i h
   rw[if_pos h]
   exact Std.lt_of_le_of_lt (Bh f ad) h
  ·rename_i h
   rw[if_neg h]
   exact a0 ad
theorem F5{t:List (List Rat)}{i:Nat}(ad:i<t.length):∃r,t[i]?=some r/\r∈t/\dL t i=hk r:=
 ⟨_,bB ad,List.getElem_mem ad,by simp[dL,bB ad]⟩
theorem yo{N:Nat}{t:List (List Rat)}(aN:tC N t)(bO:0<t.length){n:Nat}(aG:n<=t.length):dn N (dx (dL t) n).1:=by
 obtain⟨o,aa⟩:=s8 (dL t) n
 rw[o]
 obtain⟨r,-,a3,bN⟩:=F5 (t:=t) (i:=(dx (dL t) n).2) (by omega)
 rw[bN]
 exact aN.sum a3
theorem Bj{v:Value}{t:List (List Rat)}{N:Nat}{H:ab}(bc:hN H v t)(bO:0<t.length)(ar:t.length<65536)(kJ:∀r∈t,r.length<65536)(aN:tC N t)(bQ:N<=1000000):
  aP prog 33 [.agg #[v]] H (fun u H1=>Ext H H1/\∃w,u= .tuple #[w,.int .i64 ((dx (dL t) t.length).2:Nat)]/\cc H1 w (dx (dL t) t.length).1):=by
 refine aP.b9 fun Q aD=>?_
 apply X4 (by simp)
 obtain⟨a,c,rfl⟩:=Row.len bc
 simp[Is]
 have br:Ext H (H++[.dead,.dead]):=Ext.more H (by simp)
 obtain⟨fE,gR,o1,xI⟩:=F5 bO
 refine aV.mk (yf (j:=0) (bc.ext br) gR (by have:=kJ fE o1;omega) (by omega) (aN fE o1).1 (aN fE o1).2 bQ) ?_
 rintro FR H1 ⟨bw,nb⟩
 simp
 refine cN.mk nb.whole ?_
 simp
 have bf:Ext H1 (H1++[.dead]):=Ext.dead H1
 have ks:=br.aw (bw.aw bf)
 refine aV.mk (M4 (bc.ext ks)) ?_
 rintro u bP ⟨bG,rfl⟩
 have ib:=bc.ext (ks.aw bG)
 simp
 refine dm.range (by kernel_rfl) t.length (by omega) (by simp) (by rfl) (by simp) (by decide) (by decide) (fun i dt ez b0=>Ext bP b0/\cc b0 (ez 4) (dx (dL t) i).1/\dt 5= .int .i64 ((dx (dL t) i).2:Nat)) ?_ ?_ ?_
 ·refine⟨Ext.refl _,?_,by simp[dx]⟩
  simp only[dx,xI]
  simpa using nb.ext (bf.aw bG)
 ·rintro i dt ez b0 ad a4 ⟨cj,hm,bJ⟩ K aX
  simp at a4 hm bJ
  obtain⟨b,ag⟩:∃b,(dx (dL t) i).1=b:=⟨_,rfl⟩
  obtain⟨kc,Mw⟩:∃kc,(dx (dL t) i).2=kc:=⟨_,rfl⟩
  have uI:dn N b:=by rw[<-ag];exact yo aN bO (by omega)
  rw[ag]at hm
  rw[Mw]at bJ
  obtain⟨r,al,sK,sL⟩:=F5 ad
  refine ca.join (by kernel_rfl) (fun fi gE b8=>Ext b0 b8/\cc b8 (gE 4) (dx (dL t) (i+1)).1/\fi 5= .int .i64 ((dx (dL t) (i+1)).2:Nat)) ?_ ?_
  ·rintro eg jz-
   simp[a4,bJ]
   refine aV.mk (yf (j:=i) (ib.ext cj) al (by have:=kJ r sK;omega) (by omega) (aN r sK).1 (aN r sK).2 bQ) ?_
   rintro s1 b8 ⟨cR,fu⟩
   simp
   refine cN.mk fu.whole ?_
   simp
   have cI:Ext b8 (b8++[.dead]):=Ext.dead b8
   have o5:=cR.aw cI
   refine aV.mk (Bx (fu.ext cI) (hm.ext o5) (aN.sum sK) uI bQ) ?_
   rintro eG cU ⟨cw,rfl⟩
   simp
   refine bt.b6 (fun ae=>?_) (fun ae=>?_)
   ·have a5:b<hk r:=by
     by_cases o:hk r<b
     ·rw[if_pos o]at ae;omega
     ·rw[if_neg o]at ae
      by_cases aa:hk r=b
      ·rw[if_pos aa]at ae;omega
      ·exact Std.lt_of_le_of_ne (Rat.not_lt.1 o) (Ne.symm aa)
    simp
    refine cN.mk fu.whole ?_
    simp
    refine jz _ _ _ ⟨o5.aw cw,?_,?_⟩
    ·simp only[dx,ag,sL,if_pos a5]
     simpa using fu.ext (cI.aw cw)
    ·simp[dx,ag,sL,if_pos a5]
   ·have a5:¬b<hk r:=by
     intro a5
     rw[if_neg (fun h=>Rat.lt_irrefl (Std.lt_trans h a5)),if_neg (fun h=>Rat.lt_irrefl (h▸a5))]at ae
     omega
    refine jz _ _ _ ⟨o5.aw cw,?_,?_⟩
    ·simp only[dx,ag,sL,if_neg a5]
     simpa using hm.ext (o5.aw cw)
    ·simp[dx,ag,sL,if_neg a5,Mw,bJ]
  ·rintro fi gE b8 ⟨cR,o,aa⟩
   exact aX _ _ _ (by simp[a4]) ⟨cj.aw cR,by simpa using o,by simpa using aa⟩
 ·rintro dt ez b0 a4 ⟨cj,hm,bJ⟩
  simp at hm bJ
  simp[bJ]
  refine cN.mk hm.whole ?_
  simp[bd,bJ]
  exact aD _ _ ⟨ks.aw (bG.aw cj),_,rfl,hm⟩
def fM(m:Nat)(t:List (List Int)):List (List Int):=(List.range m).map fun k=>t.map fun r=>r[k]?.getD 0
theorem N8{m:Nat}{t:List (List Int)}:eS m (cF t)=cF (fM m t):=by
 unfold eS cF fM
 rw[List.map_map]
 apply List.map_congr_left
 intro k _
 unfold iM
 simp
 intro r _
 cases r[k]?<;>simp
theorem ZG(r:List Int)(a:Int):(r.map fun x=>((x:Int):Rat)).foldl (·+·) ((a:Int):Rat)=((a+r.sum:Int):Rat):=by
 induction r generalizing a with
 | nil=>simp
 | cons x r a0=>
  simp only[List.map_cons,List.foldl_cons,List.sum_cons]
  rw[<-Rat.intCast_add,a0]
  congr 1
  omega
theorem N5(r:List Int):hk (r.map fun x=>((x:Int):Rat))=((r.sum:Int):Rat):=by
 have:=ZG r 0
 simpa[hk]using this
theorem aaR{r:List Int}{B:Int}(h:∀x∈r,0<=x/\x<=B):0<=r.sum/\r.sum<=B*r.length:=by
 induction r with
 | nil=>simp
 | cons x r a0=>
  have o:=h x (by simp)
  have aa:=a0 fun y aK=>h y (by simp[aK])
  simp only[List.sum_cons,List.length_cons]
  rw[Int.natCast_add,Int.mul_add]
  simp
  omega
def lF(t:List (List Int)):Prop:=∀r∈t,r.length<=1000/\∀x∈r,0<=x/\x<=1000000
theorem lF.sum{r:List Int}(o:r.length<=1000)(aa:∀x∈r,0<=x/\x<=1000000):0<=r.sum/\r.sum<=1000000000:=by
 have:=aaR aa
 omega
theorem lF.kQ{t:List (List Int)}(h:lF t):tC 64 (cF t):=by
 intro r al
 unfold cF at al
 rw[List.mem_map]at al
 obtain⟨dR,fB,rfl⟩:=al
 obtain⟨o,aa⟩:=h dR fB
 refine⟨fun k=>?_,fun q av=>?_⟩
 ·rw[<-List.map_take,N5]
  have:=lF.sum (r:=dR.take k) (by simp;omega) fun x J=>aa x (List.mem_of_mem_take J)
  exact dn.int (by omega) (by decide)
 ·rw[List.mem_map]at av
  obtain⟨x,J,rfl⟩:=av
  have:=aa x J
  exact dn.int (by omega) (by decide)
theorem lF.eS{m:Nat}{t:List (List Int)}(h:lF t)(ar:t.length<=1000):lF (fM m t):=by
 intro r al
 unfold fM at al
 rw[List.mem_map]at al
 obtain⟨k,-,rfl⟩:=al
 refine⟨by simpa using ar,fun x J=>?_⟩
 rw[List.mem_map]at J
 obtain⟨dR,fB,rfl⟩:=J
 cases ak:dR[k]? with
 | none=>simp
 | some y=>exact(h dR fB).2 y (List.mem_of_getElem? ak)
theorem eT.small{t:List (List Int)}(h:eT t):lF t:=by
 intro r al
 obtain⟨o,aa,aB,bs,bJ⟩:=h
 have:=bJ r al
 unfold lG at this
 simp at this
 refine⟨by omega,fun x J=>?_⟩
 have:=this.2 x J
 omega
theorem eT.len{t:List (List Int)}(h:eT t):∀r∈t,r.length=(t[0]?.getD []).length:=by
 intro r al
 obtain⟨o,aa,aB,bs,bJ⟩:=h
 have:=bJ r al
 unfold lG at this
 simp at this
 simpa using this.1
def fV(t:List (List Int)):Int×Int×Nat:=
 let m:=(t[0]?.getD []).length
 let j:=dx (dL (cF t)) t.length
 let k:=dx (dL (cF (fM m t))) m
 if j.1<k.1 then(k.1.num,1,k.2)else(j.1.num,0,j.2)
theorem FM{t:List (List Int)}{i:Nat}:dL (cF t) i=(((t[i]?.getD []).sum:Int):Rat):=by
 unfold dL cF
 rw[List.getElem?_map]
 cases t[i]? with
 | none=>simp[hk]
 | some r=>simp only[Option.map_some,Option.getD_some];exact N5 r
theorem Bi{t:List (List Int)}(h:lF t)(n:Nat):(dx (dL (cF t)) n).1.num.natAbs<=1000000000:=by
 rw[(s8 _ n).1,FM,Rat.num_intCast]
 cases al:t[(dx (dL (cF t)) n).2]? with
 | none=>simp
 | some r=>
  have:=h r (List.mem_of_getElem? al)
  have:=lF.sum this.1 this.2
  simp only[Option.getD_some]
  omega
theorem Jk{a b:Rat}(ae:(0:Int)<if a<b then-1 else if a=b then 0 else 1):b<a:=by
 by_cases o:a<b
 ·rw[if_pos o]at ae;omega
 ·rw[if_neg o]at ae
  by_cases aa:a=b
  ·rw[if_pos aa]at ae;omega
  ·exact Std.lt_of_le_of_ne (Rat.not_lt.1 o) (Ne.symm aa)
theorem Jm{a b:Rat}(ae:¬(0:Int)<if a<b then-1 else if a=b then 0 else 1):¬b<a:=by
 intro a5
 rw[if_neg (fun h=>Rat.lt_irrefl (Std.lt_trans h a5)),if_neg (fun h=>Rat.lt_irrefl (h▸a5))]at ae
 omega
theorem Oy{v:Value}{a:Int}{H:ab}(bx:dj H v a)(aI:a.natAbs<=1000000000):aP prog 37 [v] H (fun u H1=>Ext H H1/\u= .tuple #[.int .i64 a,.bool true]):=aaz bx (by omega)
theorem zo{v:Value}{t:List (List Int)}{H:ab}(bc:kg H v t)(ar:t.length<65536)(al:∀r∈t,r.length<65536):
  aP prog 9 [v] H (fun u H1=>Ext H H1/\(eT t->u= .tuple #[.int .i64 (fV t).1,.int .i64 (fV t).2.1,.int .i64 (fV t).2.2,.int .i64 0])/\(¬eT t->u= .tuple #[.int .i64 0,.int .i64 0,.int .i64 0,.int .i64 1])):=by
 refine aP.b9 fun Q aD=>?_
 obtain⟨m,hm⟩:∃m,m=(t[0]?.getD []).length:=⟨_,rfl⟩
 apply XU (by simp)
 simp[Ij]
 refine aV.mk (Gu bc (by omega) fun r h=>by have:=al r h;omega) ?_
 rintro u H1 ⟨bw,rfl⟩
 simp
 refine bt.mk (fun an=>?good) (fun an=>?bad)
 case bad=>
  simp at an
  simp[bd]
  exact aD _ _ ⟨bw,fun h=>absurd h an,fun _=>rfl⟩
 simp at an
 have ao:=an.small
 have eO:=an.len
 have v1:=an.1
 have v2:=an.2.1
 have tl:=an.2.2.1
 have v4:=an.2.2.2.1
 rw[<-hm]at eO tl v4
 simp
 refine aV.mk (FI (bc.ext bw).row (by omega) al fun r h x J=>by have:=(ao r h).2 x J;omega) ?_
 rintro _ aR ⟨bf,IT,Jr,rfl,qP⟩
 simp
 have bG:Ext aR (aR++[.dead]):=Ext.dead aR
 have LZ:∀r∈cF t,r.length=m:=fun r h=>by
  unfold cF at h
  rw[List.mem_map]at h
  obtain⟨dR,cu,rfl⟩:=h
  simpa using eO dR cu
 refine aV.mk (Bj (N:=64) (qP.ext bG) (by simp[cF];omega) (by simp[cF];omega) (fun r h=>by have:=LZ r h;omega) ao.kQ (by decide)) ?_
 rintro u b0 ⟨cj,w,rfl,hw⟩
 have ra:=hw.whole
 simp
 refine cN.mk hw.whole ?_
 simp
 have cR:Ext b0 (b0++[.dead]):=Ext.dead b0
 have o4:=bG.aw (cj.aw cR)
 refine aV.mk (OQ (m:=m) (qP.ext o4) (by simp[cF];omega) (by simp[cF];omega) LZ (by omega)) ?_
 rintro u dN ⟨cI,hl,rfl,jq⟩
 rw[N8]at jq
 have dd:=ao.eS (m:=m) (by omega)
 simp
 refine aV.mk (Bj (N:=64) jq (by simp[cF,fM];omega) (by simp[cF,fM];omega) (fun r h=>by
  unfold cF fM at h
  simp at h
  obtain⟨k,-,rfl⟩:=h
  simp;omega) dd.kQ (by decide)) ?_
 rintro u cU ⟨cw,cM,rfl,iT⟩
 simp
 refine cN.mk iT.whole ?_
 simp
 have c1:Ext cU (cU++[.dead]):=Ext.dead cU
 have gg:(cF t).length=t.length:=by simp[cF]
 have hg:(cF (fM m t)).length=m:=by simp[cF,fM]
 have rh:=cR.aw (cI.aw (cw.aw c1))
 have qY:=Bi ao t.length
 have Uz:=Bi dd m
 rw[gg]at hw
 rw[hg]at iT
 have aav:=yo ao.kQ (t:=cF t) (n:=t.length) (by simp[cF];omega) (by simp[cF])
 have aaw:=yo dd.kQ (t:=cF (fM m t)) (n:=m) (by simp[cF,fM];omega) (by simp[cF,fM])
 have bE:fV t=if(dx (dL (cF t)) t.length).1<(dx (dL (cF (fM m t))) m).1 then((dx (dL (cF (fM m t))) m).1.num,1,(dx (dL (cF (fM m t))) m).2)else((dx (dL (cF t)) t.length).1.num,0,(dx (dL (cF t)) t.length).2):=by
  unfold fV
  rw[<-hm]
 rw[gg,hg]
 refine aV.mk (Bx (N:=64) (iT.ext c1) (hw.ext rh) aaw aav (by decide)) ?_
 rintro u fJ ⟨dF,rfl⟩
 simp
 refine bt.b6 (fun ae=>?_) (fun ae=>?_)
 ·have a5:=Jk ae
  rw[if_pos a5]at bE
  simp
  refine aV.mk (NI (iT.ext (c1.aw dF))) ?_
  rintro z kX ⟨gI,aN⟩
  simp
  refine aV.mk (Oy aN Uz) ?_
  rintro z iJ ⟨fY,rfl⟩
  simp[bd]
  exact aD _ _ ⟨bw.aw (bf.aw (bG.aw (cj.aw (rh.aw (dF.aw (gI.aw fY)))))),fun _=>by rw[bE],fun h=>absurd an h⟩
 ·have a5:=Jm ae
  rw[if_neg a5]at bE
  simp
  refine aV.mk (NI (hw.ext (rh.aw dF))) ?_
  rintro z kX ⟨gI,aN⟩
  simp
  refine aV.mk (Oy aN qY) ?_
  rintro z iJ ⟨fY,rfl⟩
  simp[bd]
  exact aD _ _ ⟨bw.aw (bf.aw (bG.aw (cj.aw (rh.aw (dF.aw (gI.aw fY)))))),fun _=>by rw[bE],fun h=>absurd an h⟩
end Go.cW
end
section
namespace Go.cW
def bX:Nat->(Nat->Rat)->Rat
 | 0,_=>0
 | n+1,f=>bX n f+f n
theorem hE{n:Nat}{f g:Nat->Rat}(h:∀i,i<n->f i=g i):bX n f=bX n g:=by
 induction n with
 | zero=>rfl
 | succ n a0=>simp only[bX];rw[a0 fun i ad=>h i (by omega),h n (by omega)]
theorem aaN(n:Nat)(f g:Nat->Rat):bX n (fun i=>f i+g i)=bX n f+bX n g:=by
 induction n with
 | zero=>simp only[bX];grind
 | succ n a0=>simp only[bX];rw[a0];grind
theorem BQ(n:Nat):bX n (fun _=>0)=0:=by
 induction n with
 | zero=>rfl
 | succ n a0=>simp only[bX];rw[a0];grind
theorem FY{n:Nat}{f g:Nat->Rat}(h:∀i,i<n->f i<=g i):bX n f<=bX n g:=by
 induction n with
 | zero=>simp only[bX];grind
 | succ n a0=>simp only[bX];have:=a0 fun i ad=>h i (by omega);have:=h n (by omega);grind
theorem F0{n:Nat}{f:Nat->Rat}(h:∀i,i<n->0<=f i):0<=bX n f:=by
 have:=FY (n:=n) (f:=fun _=>0) (g:=f) h
 rw[BQ]at this;exact this
theorem aaQ(n m:Nat)(f:Nat->Nat->Rat):bX n (fun i=>bX m (f i))=bX m (fun k=>bX n (fun i=>f i k)):=by
 induction n with
 | zero=>simp[bX,BQ]
 | succ n a0=>simp only[bX];rw[a0,<-aaN]
theorem F1(n m:Nat)(f:Nat->Rat):bX (n+m) f=bX n f+bX m (fun i=>f (n+i)):=by
 induction m with
 | zero=>simp only[bX,Nat.add_zero];grind
 | succ m a0=>rw[<-Nat.add_assoc];simp only[bX];rw[a0];grind
theorem vH{n:Nat}(j:Nat)(f:Nat->Rat):bX n (fun i=>if i=j then f i else 0)=if j<n then f j else 0:=by
 induction n with
 | zero=>simp[bX]
 | succ n a0=>
  simp only[bX];rw[a0]
  by_cases o:n=j
  ·subst o;simp;grind
  ·by_cases aa:j<n
   ·simp[o,aa,show j<n+1 by omega];grind
   ·simp[o,aa,show¬j<n+1 by omega];grind
theorem FZ{n j:Nat}{f:Nat->Rat}(h:∀i,i<n->0<=f i)(aW:j<n):f j<=bX n f:=by
 induction n with
 | zero=>omega
 | succ n a0=>
  simp only[bX]
  have aI:=F0 (n:=n) (f:=f) fun i ad=>h i (by omega)
  have o:=h n (by omega)
  by_cases n8:j=n
  ·subst n8;grind
  ·have:=a0 (fun i ad=>h i (by omega)) (by omega);grind
def mj(n:Nat)(p:Nat->Bool):Nat:=((List.range n).filter p).length
theorem QG(n:Nat)(p:Nat->Bool):mj (n+1) p=mj n p+if p n=true then 1 else 0:=by
 unfold mj
 rw[List.range_succ,List.filter_append,List.length_append]
 congr 1
 by_cases h:p n=true<;>simp[h]
theorem Fl{α:Type}[DecidableEq α]:∀{l de:List α},l.Nodup->(∀x∈l,x∈de)->l.length<=de.length
 | [],de,_,_=>by simp
 | x::l,de,aG,ao=>by
  have o:=ao x (by simp)
  have hz:=List.nodup_cons.1 aG
  have aa:=Fl (l:=l) (de:=de.erase x) hz.2 fun y aK=>by
   have:y≠x:=fun e=>hz.1 (e▸aK)
   exact(List.mem_erase_of_ne this).2 (ao y (by simp[aK]))
  have aB:=List.length_erase_of_mem o
  have bs:=List.length_pos_of_mem o
  simp only[List.length_cons]
  omega
theorem QF{n:Nat}{p:Nat->Bool}{l:List Nat}(aG:l.Nodup)(h:∀x∈l,x<n/\p x=true):l.length<=mj n p:=
 Fl aG fun x J=>by simp[h x J]
theorem OH(n:Nat)(p:Nat->Bool)(c:Rat):bX n (fun i=>if p i=true then c else 0)=(mj n p:Rat)*c:=by
 induction n with
 | zero=>simp[bX,mj]
 | succ n a0=>
  simp only[bX];rw[a0,QG]
  by_cases h:p n=true
  ·simp[h];grind
  ·simp[h];grind
theorem ey{n:Nat}{A:Nat->Nat->Rat}{L:Rat}(aI:∀i k,i<n->k<n->0<=A i k)(al:∀i,i<n->bX n (A i)=L)(ae:∀k:Nat,k<n->bX n (fun i=>A i k)=L)(ds:0<L)
  (nG S:Nat->Bool)(ug:∀j,j<n->nG j=true->∀k:Nat,k<n->0<A j k->S k=true):mj n nG<=mj n S:=by
 have bm:bX n (fun j=>if nG j=true then L else 0)=bX n (fun j=>bX n (fun k=>if nG j=true then A j k else 0)):=by
  apply hE
  intro j aW
  by_cases h:nG j=true
  ·simp only[h,if_true];exact(al j aW).symm
  ·simp only[if_neg h];exact(BQ n).symm
 have bk:bX n (fun j=>bX n (fun k=>if nG j=true then A j k else 0))<=bX n (fun j=>bX n (fun k=>if S k=true then A j k else 0)):=by
  refine FY fun j aW=>FY fun k ak=>?_
  have:=aI j k aW ak
  by_cases h:nG j=true
  ·simp only[h,if_true]
   by_cases ao:S k=true
   ·simp[ao]
   ·rw[if_neg ao]
    have:¬0<A j k:=fun a2=>ao (ug j aW h k ak a2)
    grind
  ·simp only[if_neg h]
   split
   ·exact this
   ·grind
 have fP:bX n (fun j=>bX n (fun k=>if S k=true then A j k else 0))=bX n (fun k=>if S k=true then L else 0):=by
  rw[aaQ]
  apply hE
  intro k ak
  by_cases h:S k=true
  ·simp only[h,if_true];exact ae k ak
  ·simp only[if_neg h];exact BQ n
 rw[<-bm,OH,fP,OH]at bk
 by_cases a5:mj n nG<=mj n S
 ·exact a5
 ·have aa:(mj n S:Rat)<(mj n nG:Rat):=by exact_mod_cast Nat.lt_of_not_le a5
  have aB:=Rat.mul_lt_mul_of_pos_right aa ds
  grind
def qv(n:Nat)(A:Nat->Nat->Rat)(b4:List Int):Prop:=b4.length=n/\∀k:Nat,k<n->b4[k]?.getD 0= -1\/∃j:Nat,j<n/\b4[k]?.getD 0=j/\0<A j k
structure qs (n:Nat) (A:Nat->Nat->Rat) (b4:List Int) (dp:List Bool) (dQ:Nat) (b:Bool) (hj:List Int) (cG:List Bool):Prop where
 len:cG.length=n
 mono:∀k:Nat,dp[k]?.getD false=true->cG[k]?.getD false=true
 no:b=false->hj=b4/\(∀k:Nat,k<n->0<A dQ k->cG[k]?.getD false=true)/\∀k:Nat,k<n->cG[k]?.getD false=true->dp[k]?.getD false=false->∃j:Nat,j<n/\b4[k]?.getD 0=j/\∀i,i<n->0<A j i->cG[i]?.getD false=true
 yes:b=true->qv n A hj/\(∀k:Nat,dp[k]?.getD false=true->hj[k]?=b4[k]?)/\∀j:Nat,hj.count (j:Int)=b4.count (j:Int)+if j=dQ then 1 else 0
def pj(dp:List Bool):Nat:=dp.count false
theorem adB{dp:List Bool}{i:Nat}(ad:i<dp.length)(h:dp[i]?.getD false=false):pj (dp.set i true)+1=pj dp:=by
 unfold pj
 rw[bB ad]at h
 simp at h
 rw[List.count_set ad,h]
 have:0<List.count false dp:=List.count_pos_iff.2 (h▸List.getElem_mem ad)
 simp
 omega
theorem Pm:∀{dp cG:List Bool},cG.length=dp.length->(∀k:Nat,dp[k]?.getD false=true->cG[k]?.getD false=true)->pj cG<=pj dp
 | [],cG,ar,_=>by
  have:cG=[]:=List.eq_nil_of_length_eq_zero (by simpa using ar)
  subst this
  exact Nat.le_refl _
 | b::dp,[],ar,_=>by simp at ar
 | b::dp,ct::cG,ar,h=>by
  have a0:=Pm (dp:=dp) (cG:=cG) (by simpa using ar) fun k ak=>by
   have:=h (k+1)
   simp at this
   exact this ak
  have aI:=h 0
  simp at aI
  unfold pj at a0⊢
  rw[List.count_cons,List.count_cons]
  cases b with
  | true=>simp[aI rfl];exact a0
  | false=>cases ct<;>simp<;>omega
structure jO (n:Nat) (A:Nat->Nat->Rat) (b4:List Int) (dp:List Bool) (dQ i:Nat) (cG:List Bool):Prop where
 len:cG.length=n
 mono:∀k:Nat,dp[k]?.getD false=true->cG[k]?.getD false=true
 done:∀k:Nat,k<i->0<A dQ k->cG[k]?.getD false=true
 new:∀k:Nat,k<n->cG[k]?.getD false=true->dp[k]?.getD false=false->∃j:Nat,j<n/\b4[k]?.getD 0=j/\∀i,i<n->0<A j i->cG[i]?.getD false=true
section
variable {n:Nat} {A:Nat->Nat->Rat} {b4 hj:List Int} {dp cG vF:List Bool} {dQ i:Nat}
theorem jO.zero(h:dp.length=n):jO n A b4 dp dQ 0 dp:=⟨h,fun _ h=>h,fun k ak=>by omega,fun k _ o aa=>by rw[o]at aa;cases aa⟩
theorem jO.skip(h:jO n A b4 dp dQ i cG)(ao:cG[i]?.getD false=true\/A dQ i<=0):jO n A b4 dp dQ (i+1) cG:=
 ⟨h.len,h.mono,fun k ak a2=>by
  by_cases hf:k<i
  ·exact h.done k hf a2
  ·obtain rfl:k=i:=by omega
   rcases ao with ao | ao
   ·exact ao
   ·grind,h.new⟩
theorem r_{l:List Bool}{i k:Nat}(ad:i<l.length):(l.set i true)[k]?.getD false=(decide (k=i) || l[k]?.getD false):=by
 rw[List.getElem?_set]
 by_cases h:i=k
 ·subst h;simp[ad]
 ·simp[h,show¬k=i by omega]
theorem jO.fail(h:jO n A b4 dp dQ i cG)(ad:i<n)(ih:cG[i]?.getD false=false){j:Nat}(aW:j<n)(h4:b4[i]?.getD 0=j)(al:qs n A b4 (cG.set i true) j false hj vF):hj=b4/\jO n A b4 dp dQ (i+1) vF:=by
 obtain⟨e,ey,q2⟩:=al.no rfl
 have cC:i<cG.length:=by rw[h.len];exact ad
 have hm:∀k,cG[k]?.getD false=true->vF[k]?.getD false=true:=fun k ak=>al.mono k (by rw[r_ cC,ak];simp)
 have D2:vF[i]?.getD false=true:=al.mono i (by rw[r_ cC];simp)
 refine⟨e,al.len,fun k ak=>hm k (h.mono k ak),fun k ak a2=>?_,fun k ak o aa=>?_⟩
 ·by_cases hf:k<i
  ·exact hm k (h.done k hf a2)
  ·obtain rfl:k=i:=by omega
   exact D2
 ·by_cases hf:k=i
  ·subst hf;exact⟨j,aW,h4,ey⟩
  ·by_cases jZ:cG[k]?.getD false=true
   ·obtain⟨eb,aY,a3,bN⟩:=h.new k ak jZ aa
    exact⟨eb,aY,a3,fun i ad a2=>hm i (bN i ad a2)⟩
   ·exact q2 k ak o (by rw[r_ cC];simp[hf];simpa using jZ)
theorem jO.end(h:jO n A b4 dp dQ n cG):qs n A b4 dp dQ false b4 cG:=⟨h.len,h.mono,fun _=>⟨rfl,h.done,h.new⟩,fun h=>by cases h⟩
theorem Jo{l:List Int}{i:Nat}(ad:i<l.length){a:Int}(j:Int):(l.set i a).count j+(if l[i]?.getD 0=j then 1 else 0)=l.count j+if a=j then 1 else 0:=by
 rw[List.count_set ad]
 rw[bB ad]
 simp only[Option.getD_some,beq_iff_eq]
 by_cases h:l[i]=j
 ·have:0<List.count j l:=List.count_pos_iff.2 (h▸List.getElem_mem ad)
  simp[h];split<;>omega
 ·simp[h]
theorem qv.set(h:qv n A b4)(ad:i<n)(aW:dQ<n)(a2:0<A dQ i):qv n A (b4.set i (dQ:Int)):=by
 refine⟨by simp[h.1],fun k ak=>?_⟩
 by_cases hf:k=i
 ·subst hf
  rw[List.getElem?_set_self (by rw[h.1];exact ak)]
  exact .inr ⟨dQ,aW,rfl,a2⟩
 ·rw[List.getElem?_set_ne (by omega)];exact h.2 k ak
theorem jO.free(h:jO n A b4 dp dQ i cG)(ji:qv n A b4)(ad:i<n)(sx:dQ<n)(a2:0<A dQ i)(ih:cG[i]?.getD false=false)(hm:b4[i]?.getD 0<0):qs n A b4 dp dQ true (b4.set i (dQ:Int)) (cG.set i true):=by
 have cC:i<cG.length:=by rw[h.len];exact ad
 have eO:i<b4.length:=by rw[ji.1];exact ad
 refine⟨by simp[h.len],fun k ak=>by rw[r_ cC,h.mono k ak];simp,(fun h=>by cases h),fun _=>⟨ji.set ad sx a2,fun k ak=>?_,fun j=>?_⟩⟩
 ·rw[List.getElem?_set_ne]
  rintro rfl
  rw[h.mono _ ak]at ih;cases ih
 ·have:=Jo eO (a:=(dQ:Int)) (j:Int)
  rw[if_neg (by omega)]at this
  rw[Nat.add_zero]at this
  rw[this]
  congr 1
  by_cases aW:j=dQ
  ·simp[aW]
  ·rw[if_neg aW,if_neg (by omega)]
theorem jO.Fh(h:jO n A b4 dp dQ i cG)(ji:qv n A b4)(ad:i<n)(sx:dQ<n)(a2:0<A dQ i)(ih:cG[i]?.getD false=false){j:Nat}(hm:b4[i]?.getD 0=j)(al:qs n A b4 (cG.set i true) j true hj vF):qs n A b4 dp dQ true (hj.set i (dQ:Int)) vF:=by
 have cC:i<cG.length:=by rw[h.len];exact ad
 obtain⟨KB,Al,T3⟩:=al.yes rfl
 have eO:i<hj.length:=by rw[KB.1];exact ad
 have h4:hj[i]?=b4[i]?:=Al i (by rw[r_ cC];simp)
 refine⟨al.len,fun k ak=>al.mono k (by rw[r_ cC,h.mono k ak];simp),(fun h=>by cases h),fun _=>⟨KB.set ad sx a2,fun k ak=>?_,fun x=>?_⟩⟩
 ·rw[List.getElem?_set_ne]
  ·exact Al k (by rw[r_ cC,h.mono k ak];simp)
  ·rintro rfl
   rw[h.mono _ ak]at ih;cases ih
 ·have:=Jo eO (a:=(dQ:Int)) (x:Int)
  rw[h4,hm,T3 x]at this
  by_cases o:x=j
  ·subst o
   simp at this
   by_cases aa:x=dQ
   ·subst aa;simp at this⊢;omega
   ·rw[if_neg aa];rw[if_neg (by omega)]at this;omega
  ·rw[if_neg (by omega),if_neg o]at this
   by_cases aa:x=dQ
   ·subst aa;simp at this⊢;omega
   ·rw[if_neg aa];rw[if_neg (by omega)]at this;omega
end
structure mR (n:Nat) (A:Nat->Nat->Rat) (t:Nat) (b4:List Int):Prop where
 ok:qv n A b4
 qH:∀j:Nat,b4.count (j:Int)=if j<t then 1 else 0
theorem mR.zero(n:Nat)(A:Nat->Nat->Rat):mR n A 0 (List.replicate n (-1)):=
 ⟨⟨by simp,fun k ak=> .inl (by simp[ak])⟩,fun j=>by
  simp[List.count_replicate]⟩
theorem MY{l:List Int}{x:Int}(h:l.count x<=1){a b:Nat}(aO:l[a]?=some x)(ag:l[b]?=some x):a=b:=by
 induction l generalizing a b with
 | nil=>simp at aO
 | cons y l a0=>
  rw[List.count_cons]at h
  cases a with
  | zero=>
   cases b with
   | zero=>rfl
   | succ b=>
    simp at aO ag
    have:0<l.count x:=List.count_pos_iff.2 (List.mem_of_getElem? ag)
    simp[aO]at h;omega
  | succ a=>
   cases b with
   | zero=>
    simp at aO ag
    have:0<l.count x:=List.count_pos_iff.2 (List.mem_of_getElem? aO)
    simp[ag]at h;omega
   | succ b=>
    simp at aO ag
    rw[a0 (by omega) aO ag]
theorem mR.next{n t:Nat}{A:Nat->Nat->Rat}{L:Rat}{b4 hj:List Int}{cG:List Bool}{b:Bool}(aI:∀i k,i<n->k<n->0<=A i k)(al:∀i,i<n->bX n (A i)=L)(ae:∀k:Nat,k<n->bX n (fun i=>A i k)=L)(ds:0<L)
  (h:mR n A t b4)(bO:t<n)(az:qs n A b4 (List.replicate n false) t b hj cG):b=true/\mR n A (t+1) hj:=by
 have ag:b=true:=by
  cases b with
  | true=>rfl
  | false=>
   exfalso
   obtain⟨-,o,aa⟩:=az.no rfl
   have bM:∀k:Nat,k<n->cG[k]?.getD false=true->∃j:Nat,j<n/\b4[k]?.getD 0=j/\∀i,i<n->0<A j i->cG[i]?.getD false=true:=fun k ak ao=>aa k ak ao (by simp[ak])
   have ey:=ey aI al ae ds (fun j=>decide (j=t) || (List.range n).any fun k=>cG[k]?.getD false&&b4[k]?.getD 0==(j:Int)) (fun k=>cG[k]?.getD false) (fun j aW ug k ak a2=>by
    simp at ug
    rcases ug with rfl | ⟨cb,aY,a3,bN⟩
    ·exact o k ak a2
    ·obtain⟨eb,a7,hl,cM⟩:=bM cb aY a3
     have:eb=j:=by omega
     subst this
     exact cM k ak a2)
   have hy:=QF (n:=n) (p:=fun j=>decide (j=t) || (List.range n).any fun k=>cG[k]?.getD false&&b4[k]?.getD 0==(j:Int)) (l:=t::((List.range n).filter fun k=>cG[k]?.getD false).map fun k=>(b4[k]?.getD 0).toNat) (by
    have Ei:∀k:Nat,k<n->cG[k]?.getD false=true->∃j:Nat,j<t/\b4[k]?=some (j:Int):=fun k ak ao=>by
     obtain⟨j,aY,a3,-⟩:=bM k ak ao
     have hg:k<b4.length:=by rw[h.ok.1];exact ak
     have hm:b4[k]?=some (j:Int):=by rw[bB hg]at a3⊢;simpa using a3
     have:0<b4.count (j:Int):=List.count_pos_iff.2 (List.mem_of_getElem? hm)
     rw[h.qH]at this
     by_cases uY:j<t
     ·exact⟨j,uY,hm⟩
     ·rw[if_neg uY]at this;omega
    rw[List.nodup_cons]
    refine⟨fun hm=>?_,?_⟩
    ·simp at hm
     obtain⟨k,⟨aY,a3⟩,bN⟩:=hm
     obtain⟨j,a7,hl⟩:=Ei k aY a3
     rw[hl]at bN;simp at bN;omega
    ·rw[List.nodup_iff_pairwise_ne,List.pairwise_map]
     have kr:((List.range n).filter fun k=>cG[k]?.getD false).Nodup:=List.nodup_range.filter _
     refine List.Pairwise.imp_of_mem (fun{a b} aO ag uD=>?_) kr
     simp at aO ag
     obtain⟨ain,a7,hl⟩:=Ei a aO.1 aO.2
     obtain⟨aio,cM,vR⟩:=Ei b ag.1 ag.2
     rw[hl,vR]
     simp
     rintro rfl
     exact uD (MY (by rw[h.qH];split<;>omega) hl vR)) (fun x J=>by
    simp at J
    rcases J with rfl | ⟨k,⟨aY,a3⟩,bN⟩
    ·exact⟨bO,by simp⟩
    ·obtain⟨j,a7,hl,-⟩:=bM k aY a3
     have:x=j:=by omega
     subst this
     exact⟨a7,by simp;exact .inr ⟨k,aY,a3,hl⟩⟩)
   rw[List.length_cons,List.length_map]at hy
   have:mj n (fun k=>cG[k]?.getD false)=((List.range n).filter fun k=>cG[k]?.getD false).length:=rfl
   omega
 obtain⟨aY,-,bN⟩:=az.yes ag
 refine⟨ag,aY,fun j=>?_⟩
 rw[bN,h.qH]
 by_cases o:j<t
 ·rw[if_pos o,if_neg (by omega),if_pos (by omega)]
 ·by_cases aa:j=t
  ·rw[if_neg o,if_pos aa,if_pos (by omega)]
  ·rw[if_neg o,if_neg aa,if_neg (by omega)]
structure lE (n:Nat) (p:List Int):Prop where
 len:p.length=n
 dQ:∀k,k<n->∃j:Nat,j<n/\p[k]?=some (j:Int)
 qH:∀j,j<n->p.count (j:Int)=1
theorem mR.perm{n:Nat}{A:Nat->Nat->Rat}{b4:List Int}(h:mR n A n b4):lE n b4/\∀k j:Nat,k<n->b4[k]?=some (j:Int)->0<A j k:=by
 have hA:∀k,k<n->∃j:Nat,j<n/\b4[k]?=some (j:Int)/\0<A j k:=by
  intro k ak
  have hg:k<b4.length:=by rw[h.ok.1];exact ak
  rcases h.ok.2 k ak with o | ⟨j,aY,a3,bN⟩
  ·exfalso
   have hm:(-1:Int)∈b4:=by
    rw[bB hg]at o
    simp at o
    exact o▸List.getElem_mem hg
   have:=Fl (l:=(-1:Int)::(List.range n).map Int.ofNat) (de:=b4) (by
    rw[List.nodup_cons]
    refine⟨by simp,?_⟩
    rw[List.nodup_iff_pairwise_ne,List.pairwise_map]
    exact List.Pairwise.imp (fun{a b} uD=>by simp only[Int.ofNat_eq_natCast,ne_eq];omega) List.nodup_range) (fun x J=>by
    simp at J
    rcases J with rfl | ⟨j,aY,rfl⟩
    ·exact hm
    ·have:=h.qH j
     rw[if_pos aY]at this
     exact List.count_pos_iff.1 (by rw[this];omega))
   rw[List.length_cons,List.length_map,List.length_range,h.ok.1]at this
   omega
  ·exact⟨j,aY,by rw[bB hg]at a3⊢;simpa using a3,bN⟩
 refine⟨⟨h.ok.1,fun k ak=>?_,fun j aW=>by rw[h.qH,if_pos aW]⟩,fun k j ak aW=>?_⟩
 ·obtain⟨j,aY,a3,-⟩:=hA k ak
  exact⟨j,aY,a3⟩
 ·obtain⟨eb,aY,a3,bN⟩:=hA k ak
  rw[a3]at aW
  have:eb=j:=by simp at aW;omega
  exact this▸bN
theorem lE.at{n:Nat}{p:List Int}(h:lE n p){j:Nat}(aW:j<n):∃k,k<n/\p[k]?=some (j:Int)/\∀cb,p[cb]?=some (j:Int)->cb=k:=by
 have o:=h.qH j aW
 have hm:(j:Int)∈p:=List.count_pos_iff.1 (by rw[o];omega)
 obtain⟨k,ak⟩:=List.mem_iff_getElem?.1 hm
 refine⟨k,?_,ak,fun cb jZ=>MY (by rw[o];omega) jZ ak⟩
 have:=(cH.1 ak).1
 rw[h.len]at this;exact this
def il(p:Rat×List Int)(i k:Nat):Rat:=if p.2[k]?=some (i:Int)then p.1 else 0
def fv:List (Rat×List Int)->Nat->Nat->Rat
 | [],_,_=>0
 | p::a6,i,k=>il p i k+fv a6 i k
theorem NX(a b:List (Rat×List Int))(i k:Nat):fv (a++b) i k=fv a i k+fv b i k:=by
 induction a with
 | nil=>simp[fv];grind
 | cons p a a0=>simp only[List.cons_append,fv];rw[a0];grind
def dV:List (Rat×List Int)->Rat
 | []=>0
 | p::a6=>p.1+dV a6
theorem NS(a b:List (Rat×List Int)):dV (a++b)=dV a+dV b:=by
 induction a with
 | nil=>simp[dV];grind
 | cons p a a0=>simp only[List.cons_append,dV];rw[a0];grind
theorem lE.row{n:Nat}{p:Rat×List Int}(h:lE n p.2){i:Nat}(ad:i<n):bX n (fun k=>il p i k)=p.1:=by
 obtain⟨k,ak,u0,V0⟩:=h.at ad
 have:bX n (fun cb=>il p i cb)=bX n (fun cb=>if cb=k then p.1 else 0):=by
  apply hE
  intro cb jZ
  unfold il
  by_cases o:cb=k
  ·subst o;simp[u0]
  ·rw[if_neg o,if_neg fun aa=>o (V0 cb aa)]
 rw[this,vH k (fun _=>p.1),if_pos ak]
theorem lE.tN{n:Nat}{p:Rat×List Int}(h:lE n p.2){k:Nat}(ak:k<n):bX n (fun i=>il p i k)=p.1:=by
 obtain⟨j,aW,u0⟩:=h.dQ k ak
 have:bX n (fun i=>il p i k)=bX n (fun i=>if i=j then p.1 else 0):=by
  apply hE
  intro i ad
  unfold il
  rw[u0]
  by_cases o:i=j
  ·subst o;simp
  ·rw[if_neg o,if_neg];simp;omega
 rw[this,vH j (fun _=>p.1),if_pos aW]
def lu:Nat->(Nat->Nat)->Nat
 | 0,_=>0
 | n+1,f=>lu n f+f n
theorem BP{n:Nat}{f g:Nat->Nat}(h:∀i,i<n->f i<=g i):lu n f<=lu n g:=by
 induction n with
 | zero=>simp[lu]
 | succ n a0=>simp only[lu];have:=a0 fun i ad=>h i (by omega);have:=h n (by omega);omega
theorem OG{n:Nat}{f g:Nat->Nat}(h:∀i,i<n->f i<=g i){j:Nat}(aW:j<n)(a5:f j<g j):lu n f<lu n g:=by
 induction n with
 | zero=>omega
 | succ n a0=>
  simp only[lu]
  have o:=BP (n:=n) fun i ad=>h i (by omega)
  have aa:=h n (by omega)
  by_cases n8:j=n
  ·subst n8;omega
  ·have:=a0 (fun i ad=>h i (by omega)) (by omega);omega
def nt(n:Nat)(B:Nat->Nat->Rat):Nat:=lu n fun i=>lu n fun k=>if 0<B i k then 1 else 0
theorem NW(n:Nat)(B:Nat->Nat->Rat):nt n B<=n*n:=by
 have o:∀m (f:Nat->Nat) (c:Nat),(∀i,f i<=c)->lu m f<=m*c:=by
  intro m f c az
  induction m with
  | zero=>simp[lu]
  | succ m a0=>simp only[lu];have:=az m;rw[Nat.succ_mul];omega
 exact o n _ n fun i=>by
  have:=o n (fun k=>if 0<B i k then 1 else 0) 1 fun k=>by split<;>omega
  omega
structure kC (n:Nat) (B:Nat->Nat->Rat) (L:Rat):Prop where
 iX:∀i k,i<n->k<n->0<=B i k
 row:∀i,i<n->bX n (B i)=L
 tN:∀k,k<n->bX n (fun i=>B i k)=L
def ku(B:Nat->Nat->Rat)(p:Rat×List Int)(i k:Nat):Rat:=B i k-il p i k
theorem OI(n:Nat)(f g:Nat->Rat):bX n (fun i=>f i-g i)=bX n f-bX n g:=by
 induction n with
 | zero=>simp[bX];grind
 | succ n a0=>simp only[bX];rw[a0];grind
theorem kC.less{n:Nat}{B:Nat->Nat->Rat}{L:Rat}(h:kC n B L){p:Rat×List Int}(a2:lE n p.2)(aI:0<p.1)(hle:∀k j:Nat,k<n->p.2[k]?=some (j:Int)->p.1<=B j k)(jB:∃k j:Nat,k<n/\j<n/\p.2[k]?=some (j:Int)/\p.1=B j k):
  kC n (ku B p) (L-p.1)/\nt n (ku B p)<nt n B:=by
 have sD:∀i k,i<n->k<n->0<=ku B p i k:=fun i k ad ak=>by
  unfold ku il
  split
  ·rename_i aW
   have:=hle k i ak aW
   grind
  ·have:=h.iX i k ad ak
   grind
 refine⟨⟨sD,fun i ad=>?_,fun k ak=>?_⟩,?_⟩
 ·have:bX n (ku B p i)=bX n (fun k=>B i k-il p i k):=rfl
  rw[this,OI,h.row i ad,a2.row ad]
 ·have:bX n (fun i=>ku B p i k)=bX n (fun i=>B i k-il p i k):=rfl
  rw[this,OI,h.tN k ak,a2.tN ak]
 ·obtain⟨k,j,ak,aW,u0,e⟩:=jB
  have D7:∀i k,i<n->k<n->(if 0<ku B p i k then 1 else 0)<=(if 0<B i k then 1 else 0):=fun i k ad ak=>by
   by_cases o:0<ku B p i k
   ·have:0<B i k:=by
     unfold ku il at o
     split at o<;>grind
    simp[o,this]
   ·simp[o]
  refine OG (fun i ad=>BP fun k ak=>D7 i k ad ak) aW (OG (fun k ak=>D7 j k aW ak) ak ?_)
  have o:¬0<ku B p j k:=by unfold ku il;rw[if_pos u0,e];grind
  have aa:0<B j k:=by rw[<-e];exact aI
  simp[o,aa]
theorem kC.none{n:Nat}{B:Nat->Nat->Rat}(h:kC n B 0){i k:Nat}(ad:i<n)(ak:k<n):B i k=0:=by
 have o:=FZ (f:=B i) (fun k ak=>h.iX i k ad ak) ak
 rw[h.row i ad]at o
 have:=h.iX i k ad ak
 grind
structure mP (n:Nat) (A:Nat->Nat->Rat) (L:Rat) (a6:List (Rat×List Int)) (B:Nat->Nat->Rat):Prop where
 kL:kC n B (L-dV a6)
 parts:∀p∈a6,0<p.1/\lE n p.2
 sum:∀i k,i<n->k<n->A i k=fv a6 i k+B i k
 mY:nt n B+a6.length<=nt n A
theorem mP.zero{n:Nat}{A:Nat->Nat->Rat}{L:Rat}(h:kC n A L):mP n A L [] A:=
 ⟨by have:L-dV []=L:=by simp[dV];grind
     rw[this];exact h,by simp,fun i k _ _=>by simp[fv];grind,by simp⟩
theorem mP.next{n:Nat}{A:Nat->Nat->Rat}{L:Rat}{a6:List (Rat×List Int)}{B:Nat->Nat->Rat}(h:mP n A L a6 B){p:Rat×List Int}(a2:lE n p.2)(aI:0<p.1)(hle:∀k j:Nat,k<n->p.2[k]?=some (j:Int)->p.1<=B j k)(jB:∃k j:Nat,k<n/\j<n/\p.2[k]?=some (j:Int)/\p.1=B j k):
  mP n A L (a6++[p]) (ku B p):=by
 obtain⟨o,aa⟩:=h.kL.less a2 aI hle jB
 refine⟨?_,fun q av=>?_,fun i k ad ak=>?_,?_⟩
 ·rw[NS]
  have:L-(dV a6+dV [p])=L-dV a6-p.1:=by simp[dV];grind
  rw[this];exact o
 ·simp at av
  rcases av with av | rfl
  ·exact h.parts q av
  ·exact⟨aI,a2⟩
 ·rw[NX,h.sum i k ad ak]
  simp[fv,ku]
  grind
 ·have:=h.mY
  simp
  omega
structure rO (n:Nat) (A:Nat->Nat->Rat) (L:Rat) (a6:List (Rat×List Int)):Prop where
 parts:∀p∈a6,0<p.1/\lE n p.2
 sum:∀i k,i<n->k<n->fv a6 i k=A i k
 len:dV a6=L
 mY:a6.length<=n*n
theorem mP.end{n:Nat}{A:Nat->Nat->Rat}{L:Rat}{a6:List (Rat×List Int)}{B:Nat->Nat->Rat}(aG:0<n)(h:mP n A L a6 B)(aN:¬0<L-dV a6):rO n A L a6:=by
 have aI:0<=L-dV a6:=by
  have:=F0 (n:=n) (f:=B 0) fun k ak=>h.kL.iX 0 k aG ak
  rw[h.kL.row 0 aG]at this
  exact this
 have e:L-dV a6=0:=by grind
 have ar:=h.kL
 rw[e]at ar
 refine⟨h.parts,fun i k ad ak=>?_,by grind,?_⟩
 ·rw[h.sum i k ad ak,ar.none ad ak];exact(Rat.add_zero _).symm
 ·have:=h.mY
  have:=NW n A
  omega
theorem Fv{a6:List (Rat×List Int)}(h:∀p∈a6,0<p.1):0<=dV a6/\∀p∈a6,p.1<=dV a6:=by
 induction a6 with
 | nil=>simp[dV]
 | cons q a6 a0=>
  obtain⟨o,aa⟩:=a0 fun p a2=>h p (by simp[a2])
  have aB:=h q (by simp)
  simp only[dV]
  refine⟨by grind,fun p a2=>?_⟩
  simp at a2
  rcases a2 with rfl | a2
  ·grind
  ·have:=aa p a2;grind
def gL(n m:Nat)(A:Nat->Nat->Rat)(top:Rat)(i k:Nat):Rat:=
 if i<n then(if k<m then A i k else if k=m+i then top-bX m (A i)else 0)
 else(if k<m then(if k=i-n then top-bX n (fun jK=>A jK k)else 0)else A (k-m) (i-n))
theorem aaJ{n m:Nat}{A:Nat->Nat->Rat}{top:Rat}(aI:∀i k,i<n->k<m->0<=A i k)(al:∀i,i<n->bX m (A i)<=top)(ae:∀k,k<m->bX n (fun i=>A i k)<=top):kC (n+m) (gL n m A top) top:=by
 refine⟨fun i k ad ak=>?_,fun i ad=>?_,fun k ak=>?_⟩
 ·unfold gL
  split
  ·rename_i o
   split
   ·exact aI i k o ‹_›
   ·split
    ·have:=al i o;grind
    ·grind
  ·split
   ·split
    ·have:=ae k ‹_›;grind
    ·grind
   ·exact aI _ _ (by omega) (by omega)
 ·by_cases o:i<n
  ·rw[Nat.add_comm,F1]
   have bm:bX m (gL n m A top i)=bX m (A i):=hE fun k ak=>by simp[gL,o,ak]
   have bk:bX n (fun k=>gL n m A top i (m+k))=bX n (fun k=>if k=i then top-bX m (A i)else 0):=hE fun k ak=>by
    simp[gL,o];intro;omega
   rw[bm,bk,vH i (fun _=>top-bX m (A i)),if_pos o];grind
  ·rw[Nat.add_comm,F1]
   have bm:bX m (gL n m A top i)=bX m (fun k=>if k=i-n then top-bX n (fun jK=>A jK k)else 0):=hE fun k ak=>by simp[gL,o,ak]
   have bk:bX n (fun k=>gL n m A top i (m+k))=bX n (fun jK=>A jK (i-n)):=hE fun k ak=>by
    simp[gL,o];intro;omega
   rw[bm,bk,vH (i-n) (fun k=>top-bX n (fun jK=>A jK k)),if_pos (by omega)];grind
 ·rw[F1]
  by_cases o:k<m
  ·have bm:bX n (fun i=>gL n m A top i k)=bX n (fun i=>A i k):=hE fun i ad=>by simp[gL,o,ad]
   have bk:bX m (fun i=>gL n m A top (n+i) k)=bX m (fun i=>if i=k then top-bX n (fun jK=>A jK k)else 0):=hE fun i ad=>by
    simp[gL,o,show¬n+i<n by omega,show n+i-n=i by omega,eq_comm]
   rw[bm,bk,vH k (fun _=>top-bX n (fun jK=>A jK k)),if_pos o];grind
  ·have bm:bX n (fun i=>gL n m A top i k)=bX n (fun i=>if i=k-m then top-bX m (A i)else 0):=hE fun i ad=>by
    simp[gL,o,ad]
    congr 1
    simp;omega
   have bk:bX m (fun i=>gL n m A top (n+i) k)=bX m (A (k-m)):=hE fun i ad=>by
    simp[gL,o,show¬n+i<n by omega,show n+i-n=i by omega]
   rw[bm,bk,vH (k-m) (fun i=>top-bX m (A i)),if_pos (by omega)];grind
def jS(n m:Nat)(p:List Int):List Int:=(p.take m).map fun j=>if(n:Int)<=j then-1 else j
structure y8 (n m:Nat) (l:List Int):Prop where
 len:l.length=m
 ZW:∀k,k<m->l[k]?=some (-1)\/∃j:Nat,j<n/\l[k]?=some (j:Int)
 inj:∀j:Nat,j<n->l.count (j:Int)<=1
theorem CL{n m:Nat}{p:List Int}(k:Nat):(jS n m p)[k]?=if k<m then(p[k]?).map fun j=>if(n:Int)<=j then-1 else j else none:=by
 unfold jS
 rw[List.getElem?_map,List.getElem?_take]
 split<;>rfl
theorem QO{n m:Nat}{p:List Int}{k i:Nat}(ak:k<m)(ad:i<n):(jS n m p)[k]?=some (i:Int)↔p[k]?=some (i:Int):=by
 rw[CL,if_pos ak]
 cases h:p[k]? with
 | none=>simp
 | some j=>
  simp
  split
  ·constructor<;>intro h<;>omega
  ·exact Iff.rfl
theorem lE.cut{n m:Nat}{p:List Int}(h:lE (n+m) p):y8 n m (jS n m p):=by
 refine⟨by simp[jS,h.len],fun k ak=>?_,fun j aW=>?_⟩
 ·obtain⟨j,aY,a3⟩:=h.dQ k (by omega)
  rw[CL,if_pos ak,a3]
  by_cases n8:j<n
  ·exact .inr ⟨j,n8,by simp;omega⟩
  ·exact .inl (by simp;omega)
 ·have o:=h.qH j (by omega)
  have aa:(jS n m p).count (j:Int)<=(p.take m).count (j:Int):=by
   unfold jS
   generalize p.take m=l
   induction l with
   | nil=>simp
   | cons x l a0=>
    simp only[List.map_cons,List.count_cons]
    by_cases J:(n:Int)<=x
    ·simp[J];omega
    ·simp[J];omega
  have aB:(p.take m).count (j:Int)<=p.count (j:Int):=(List.take_sublist m p).count_le _
  omega
structure ze (n m:Nat) (A:Nat->Nat->Rat) (L:Rat) (a6:List (Rat×List Int)):Prop where
 BJ:∀p∈a6,0<p.1/\y8 n m p.2
 sum:∀i k,i<n->k<m->fv a6 i k=A i k
 len:dV a6=L
 mY:a6.length<=(n+m)*(n+m)
theorem rO.Zq{n m:Nat}{A:Nat->Nat->Rat}{top:Rat}{a6:List (Rat×List Int)}(h:rO (n+m) (gL n m A top) top a6):ze n m A top (a6.map fun p=>(p.1,jS n m p.2)):=by
 refine⟨fun p a2=>?_,fun i k ad ak=>?_,?_,by simpa using h.mY⟩
 ·simp at a2
  obtain⟨a,b,q,rfl⟩:=a2
  obtain⟨o,aa⟩:=h.parts _ q
  exact⟨o,aa.cut⟩
 ·have o:=h.sum i k (by omega) (by omega)
  have aa:gL n m A top i k=A i k:=by simp[gL,ad,ak]
  rw[aa]at o
  rw[<-o]
  generalize a6=l
  induction l with
  | nil=>rfl
  | cons p l a0=>
   simp only[List.map_cons,fv]
   rw[a0]
   congr 1
   unfold il
   simp only[QO ak ad]
 ·rw[<-h.len]
  generalize a6=l
  induction l with
  | nil=>rfl
  | cons p l a0=>
   simp only[List.map_cons,dV]
   rw[a0]
end Go.cW
end
section
set_option maxRecDepth 8000
set_option maxHeartbeats 1000000
namespace Go.cW
open Go.Proofs
open Go.Proofs.Tryz (prog)
attribute [-simp] hF iq ka
theorem Row.Y9{α:Type}{e U:Nat}{aC:Bool}{af:ab->Value->α->Prop}{H:ab}{n c:Nat}{xs:List α}(h:Row e U aC af H (.slice none n c) xs):xs=[]:=by
 obtain⟨cs,⟨a,cap,an,o,aa,aB⟩,bs⟩:=h
 simp at an
 obtain⟨rfl,rfl,rfl⟩:=an
 by_cases ae:0<c
 ·obtain⟨b,i,X,all,q,-⟩:=aB ae
  cases q
 ·exact List.eq_nil_of_length_eq_zero (by omega)
theorem QE{v:Value}{xs:List Rat}{H:ab}(aT:jb H v xs)(ar:xs.length<65536):
  aP prog 85 [v] H (fun u H1=>Ext H H1/\bH H.length 80 4 true cc H1 u xs):=by
 refine aP.b9 fun Q aD=>?_
 apply Yb (by simp)
 obtain⟨a,c,rfl⟩:=Row.len aT
 simp[Ix]
 refine bt.mk (fun aG=>?_) (fun aG=>?_)
 ·have:a=none:=by simpa using aG
  subst this
  have:=Row.Y9 aT
  subst this
  simp[bd]
  exact aD _ _ ⟨Ext.refl H,bH.nil _ _ _ _ _ _⟩
 ·refine qg (e:=80) (U:=4) (by simp) (by simp) ?_
  simp
  refine Gd (k:=H.length) (e:=80) (U:=4) (aC:=true) (bI:=64) (z:= .agg #[.bool false,.slice none 0 0,.bool false,.slice none 0 0]) (af:=cc) (xs:=[]) (bS:=xs) (by simpa using bH.void _ _ _ _ _ _ _) (by simpa using aT) (fun u y h=>h.whole) (fun aH dz u y ak h=>h.kept ak (by decide)) (by simp) (by simp) (by simp) (by simp) (by simp) (by rfl) (by rfl) (by rfl) (by decide) (by simp;omega) (by omega) ?_
  intro w H1 cy J ak
  simp[bd]
  exact aD _ _ ⟨J _ (Nat.le_refl _) (Ext.refl H),by simpa using cy⟩
def bU(t:List (List Rat))(i k:Nat):Rat:=(t[i]?.getD [])[k]?.getD 0
structure h0 (fx H:ab) (gW n:Nat) (ha gJ gu:Value) (t:List (List Rat)) (b4:List Int) (dp:List Bool):Prop where
 pos:0<fx.length
 ext:Ext fx H
 kQ:hN fx ha t
 vI:t.length=n
 vD:∀r∈t,r.length=n
 small:n<65536
 yl:fx.length<=gW
 e8:H[gW]?=some (.own 140 false [ha,gJ,gu])
 oq:bH fx.length 3 1 false IR H gJ b4
 seen:bH fx.length 4 1 false po H gu dp
theorem h0.more{fx H H1:ab}{gW n:Nat}{ha gJ gu:Value}{t:List (List Rat)}{b4:List Int}{dp:List Bool}(h:h0 fx H gW n ha gJ gu t b4 dp)(J:Ext H H1):h0 fx H1 gW n ha gJ gu t b4 dp:=
 ⟨h.pos,h.ext.aw J,h.kQ,h.vI,h.vD,h.small,h.yl,J.get_some h.e8,b3.ext (af:=bH _ _ _ _ IR) h.oq J,b3.ext (af:=bH _ _ _ _ po) h.seen J⟩
theorem h0.aai{fx H aH:ab}{gW n:Nat}{ha gJ gu:Value}{t:List (List Rat)}{b4:List Int}{dp cG:List Bool}(h:h0 fx H gW n ha gJ gu t b4 dp)(J:∀cx:ab,cx.length<=fx.length->Ext cx H->Ext cx aH)(ak:Kept H aH gu 4)(cy:bH fx.length 4 1 false po aH gu cG):h0 fx aH gW n ha gJ gu t b4 cG:=
 ⟨h.pos,J _ (Nat.le_refl _) h.ext,h.kQ,h.vI,h.vD,h.small,h.yl,ak _ _ h.e8 (fun _=>by simp[bK.elem?]),h.oq.other ak (by decide) fun _ _ h=>h,cy⟩
theorem h0.Yv{fx H aH:ab}{gW n:Nat}{ha gJ gu:Value}{t:List (List Rat)}{b4 hj:List Int}{dp:List Bool}(h:h0 fx H gW n ha gJ gu t b4 dp)(J:∀cx:ab,cx.length<=fx.length->Ext cx H->Ext cx aH)(ak:Kept H aH gJ 3)(cy:bH fx.length 3 1 false IR aH gJ hj):h0 fx aH gW n ha gJ gu t hj dp:=
 ⟨h.pos,J _ (Nat.le_refl _) h.ext,h.kQ,h.vI,h.vD,h.small,h.yl,ak _ _ h.e8 (fun _=>by simp[bK.elem?]),cy,h.seen.other ak (by decide) fun _ _ h=>h⟩
theorem yD{q:Rat}:((if q<0 then(-1:Int)else if q=0 then 0 else 1)<=0)↔q<=0:=by
 by_cases o:q<0
 ·simp[o,Rat.le_of_lt o]
 ·by_cases aa:q=0
  ·simp[aa]
  ·simp only[if_neg o,if_neg aa]
   constructor
   ·intro h;omega
   ·intro h;exact absurd (Std.lt_of_le_of_ne h aa) o
theorem find_spec(n:Nat):∀(fuel:Nat) {fx H:ab} {gW dQ:Nat} {ha gJ gu:Value} {t:List (List Rat)} {b4:List Int} {dp:List Bool},pj dp<fuel->h0 fx H gW n ha gJ gu t b4 dp->dp.length=n->qv n (bU t) b4->dQ<n->
  aP prog 86 [.pointer (some ⟨gW,0,none⟩),.int .i64 dQ] H (fun u H1=>∃b hj cG,u= .bool b/\qs n (bU t) b4 dp dQ b hj cG/\h0 fx H1 gW n ha gJ gu t hj cG):=by
 intro fuel
 induction fuel with
 | zero=>intro fx H gW dQ ha gJ gu t b4 dp h;omega
 | succ fuel a0=>
  intro fx H gW dQ ha gJ gu t b4 dp ahy bM ld ji sx
  refine aP.b9 fun Q aD=>?_
  apply XY (by simp)
  have n1:=bM.e8
  have bc:=bM.kQ.ext bM.ext
  obtain⟨ep,zq,rfl⟩:=Row.len bM.kQ
  obtain⟨fE,gR⟩:∃fE,t[0]?=some fE:=⟨_,bB (by have:=bM.vI;omega)⟩
  have q7:=bM.vD fE (List.mem_of_getElem? gR)
  have n8:=bM.small
  simp[Io,n1]
  refine aV.mk (Fg bc gR) ?_
  rintro u H1 ⟨bw,rfl⟩
  rw[q7]
  have hv:=bM.more bw
  simp
  refine dm.range (by kernel_rfl) n (by omega) (by simp) (by rfl) (by simp) (by decide) (by decide) (fun i dt ez bP=>∃cG,jO n (bU t) b4 dp dQ i cG/\h0 fx bP gW n (.slice ep t.length zq) gJ gu t b4 cG) ?_ ?_ ?_
  ·exact⟨dp,jO.zero ld,hv⟩
  ·rintro i dt ez bP ad a4 ⟨cG,ed,oS⟩ K aX
   simp at a4
   have KS:=oS.e8
   have ib:=oS.kQ.ext oS.ext
   obtain⟨bi,mu⟩:∃bi,cG[i]?=some bi:=⟨_,bB (by rw[ed.len];exact ad)⟩
   refine ca.join (by kernel_rfl) (fun fi gE b8=>∃cG,jO n (bU t) b4 dp dQ (i+1) cG/\h0 fx b8 gW n (.slice ep t.length zq) gJ gu t b4 cG) ?_ ?_
   ·rintro eg jz Ku
    simp[a4]
    refine ca.join (by kernel_rfl) (fun fi gE b8=>fi 35= .bool (bi || decide (bU t dQ i<=0))/\h0 fx b8 gW n (.slice ep t.length zq) gJ gu t b4 cG) ?_ ?_
    ·rintro cV dw-
     simp[KS]
     refine cY (af:=po) (xs:=cG) (n:=i) (a:=bi) (e:=4) (U:=1) (aC:=false) (by simpa using oS.seen.row) (by simp) mu (by simp) (by simp) (by simp) (by decide) ?_
     rintro da pg rfl
     cases bi with
     | true=>
      simp
      exact dw _ _ _ ⟨by simp,oS⟩
     | false=>
      obtain⟨row,eR⟩:∃row,t[dQ]?=some row:=⟨_,bB (by rw[bM.vI];exact sx)⟩
      obtain⟨q,av⟩:∃q,row[i]?=some q:=⟨_,bB (by rw[bM.vD row (List.mem_of_getElem? eR)];exact ad)⟩
      have Af:bU t dQ i=q:=by simp[bU,eR,av]
      simp[KS]
      refine tf (af:=jb) (xs:=t) (n:=dQ) (a:=row) (e:=120) (U:=1) (aC:=false) (by simp) (by decide) (by simpa using ib) (by simp) eR (by simp) (by simp) (by simp) (by decide) ?_
      intro gB lv oh
      simp
      refine tf (af:=cc) (xs:=row) (n:=i) (a:=q) (e:=80) (U:=4) (aC:=true) (by simp) (by decide) (by simpa using oh) (by simp) av (by simp) (by simp) (by simp) (by decide) ?_
      intro fC ph nd
      simp
      refine aV.mk (FE nd) ?_
      rintro w b8 ⟨cR,rfl⟩
      simp
      refine dw _ _ _ ⟨?_,oS.more cR⟩
      simp[Af,yD]
    ·rintro fi gE b8 ⟨Kb,uo⟩
     simp at Kb
     have TU:=uo.e8
     simp[Kb]
     refine bt.mk (fun ag=>?_) (fun ag=>?_)
     ·refine jz _ _ _ ⟨cG,ed.skip ?_,uo⟩
      simp at ag
      rw[mu]
      rcases ag with ag | ag
      ·exact .inl (by simp[ag])
      ·exact .inr ag
     ·simp at ag
      have a2:0<bU t dQ i:=Rat.not_le.1 ag.2
      have ih:cG[i]?.getD false=false:=by rw[mu];simp[ag.1]
      simp[a4,TU]
      refine kR (k:=fx.length) (e:=4) (U:=1) (aC:=false) (n:=i) (af:=po) (xs:=cG) (a:=true) (by simpa using uo.seen) (by simp) (by rw[ed.len];exact ad) (by simp[po]) (by simpa using PC true) (by simp) (fun _ _ _ _ _ h=>h) (by simp) (by simp) (by simp) (by decide) ?_
      rintro g8 dN jA cI sA ahL-
      simp at jA sA
      have wX:=uo.aai cI sA jA
      have KT:=wX.e8
      obtain⟨z,aN⟩:∃z,b4[i]?=some z:=⟨_,bB (by rw[ji.1];exact ad)⟩
      have x8:b4[i]?.getD 0=z:=by rw[aN];rfl
      have sP:=adB (i:=i) (by rw[ed.len];exact ad) ih
      have ah9:pj cG<=pj dp:=Pm (by rw[ed.len,ld]) ed.mono
      simp
      refine ca.join (by kernel_rfl) (fun ly lz cU=>∃b rl pe,ly 60= .bool b/\h0 fx cU gW n (.slice ep t.length zq) gJ gu t rl pe/\rl.length=n/\(b=false->rl=b4/\jO n (bU t) b4 dp dQ (i+1) pe)/\(b=true->qs n (bU t) b4 dp dQ true (rl.set i (dQ:Int)) pe)) ?_ ?_
      ·rintro mg fA-
       simp[a4,KT]
       refine cY (af:=IR) (xs:=b4) (n:=i) (a:=z) (e:=3) (U:=1) (aC:=false) (by simpa using wX.oq.row) (by simp) aN (by simp) (by simp) (by simp) (by decide) ?_
       rintro iD mL rfl
       by_cases s3:z<0
       ·simp[s3]
        refine fA _ _ _ ⟨true,b4,cG.set i true,by simp,wX,ji.1,fun h=>(by cases h),fun _=>ed.free ji ad sx a2 ih (by rw[x8];exact s3)⟩
       ·obtain⟨j,aW,E3,-⟩:∃j:Nat,j<n/\z=j/\0<bU t j i:=by
         rcases ji.2 i ad with h | h
         ·rw[x8]at h;omega
         ·rw[x8]at h;exact h
        simp[s3,KT]
        refine tf (af:=IR) (xs:=b4) (n:=i) (a:=z) (e:=3) (U:=1) (aC:=false) (by simp) (by decide) (by simpa using wX.oq.row) (by simp) aN (by simp) (by simp) (by simp) (by decide) ?_
        rintro ns vM rfl
        simp[E3]
        refine aV.mk (a0 (dp:=cG.set i true) (by omega) wX (by simp[ed.len]) ji aW) ?_
        rintro w eW ⟨b,rl,pe,rfl,bo,Dy⟩
        simp
        refine fA _ _ _ ⟨b,rl,pe,by simp,Dy,?_,?_,?_⟩
        ·cases b with
         | false=>rw[(bo.no rfl).1];exact ji.1
         | true=>exact(bo.yes rfl).1.1
        ·rintro rfl
         exact ed.fail ad ih aW (by rw[x8,E3]) bo
        ·rintro rfl
         exact ed.Fh ji ad sx a2 ih (by rw[x8,E3]) bo
      ·rintro ly lz cU ⟨b,rl,pe,Kg,z2,eO,TR,uJ⟩
       simp at Kg
       have TV:=z2.e8
       simp[Kg]
       refine bt.mk (fun ag=>?_) (fun ag=>?_)
       ·simp[a4,TV]
        refine kR (k:=fx.length) (e:=3) (U:=1) (aC:=false) (n:=i) (af:=IR) (xs:=rl) (a:=(dQ:Int)) (by simpa using z2.oq) (by simp) (by rw[eO];exact ad) (by simp[IR]) (by simpa using kd dQ) (by simp) (fun _ _ _ _ _ h=>h) (by simp) (by simp) (by simp) (by decide) ?_
        rintro p9 eW eM c1 o0 qZ-
        simp at eM o0
        have Dy:=z2.Yv c1 o0 eM
        simp
        refine Ku _ _ _ _ (by simp) ?_
        simp[bd]
        exact aD _ _ ⟨true,_,pe,rfl,uJ ag,Dy⟩
       ·obtain⟨rfl,SE⟩:=TR ag
        exact jz _ _ _ ⟨pe,SE,z2⟩
   ·rintro fi gE b8 ⟨pe,uf,uo⟩
    exact aX _ _ _ (by simp[a4]) ⟨pe,uf,uo⟩
  ·rintro dt ez bP a4 ⟨cG,ed,oS⟩
   simp[bd]
   exact aD _ _ ⟨false,b4,cG,rfl,ed.end,oS⟩
def e6(D:Nat)(q:Rat):Prop:=∃z:Int,q*(D:Rat)=(z:Rat)
theorem e6.add{D:Nat}{a b:Rat}(aO:e6 D a)(ag:e6 D b):e6 D (a+b):=by
 obtain⟨x,J⟩:=aO
 obtain⟨y,aK⟩:=ag
 exact⟨x+y,by rw[Rat.intCast_add,<-J,<-aK];grind⟩
theorem e6.sub{D:Nat}{a b:Rat}(aO:e6 D a)(ag:e6 D b):e6 D (a-b):=by
 obtain⟨x,J⟩:=aO
 obtain⟨y,aK⟩:=ag
 exact⟨x-y,by rw[Rat.intCast_sub,<-J,<-aK];grind⟩
theorem e6.zero(D:Nat):e6 D 0:=⟨0,by simp⟩
theorem e6.int(z:Int):e6 1 (z:Rat):=⟨z,by simp⟩
structure mf (D N:Nat) (L:Rat):Prop where
 pos:0<D
 small:D<2^N
 top:∃z:Int,L*(D:Rat)<=(z:Rat)/\z.natAbs<2^N
 bits:N<=1000000
theorem mf.le{D N:Nat}{L GM:Rat}(h:mf D N L)(ar:GM<=L):mf D N GM:=by
 obtain⟨z,aN,di⟩:=h.top
 exact⟨h.pos,h.small,⟨z,Rat.le_trans (Rat.mul_le_mul_of_nonneg_right ar (by exact_mod_cast Nat.zero_le D)) aN,di⟩,h.bits⟩
theorem mf.U{D N:Nat}{L q:Rat}(h:mf D N L)(av:e6 D q)(aI:0<=q)(ar:q<=L):dn N q:=by
 obtain⟨PO,Ww,di⟩:=h.top
 obtain⟨z,aN⟩:=av
 have eH:(0:Rat)<(D:Rat):=by exact_mod_cast h.pos
 have s3:0<=z:=by
  have:(0:Rat)<=(z:Rat):=by rw[<-aN];exact Rat.mul_nonneg aI (Rat.le_of_lt eH)
  exact_mod_cast this
 have hC:z<=PO:=by
  have:(z:Rat)<=(PO:Rat):=by
   rw[<-aN]
   exact Rat.le_trans (Rat.mul_le_mul_of_nonneg_right ar (Rat.le_of_lt eH)) Ww
  exact_mod_cast this
 have e:q=Rat.divInt z D:=by
  rw[Rat.divInt_eq_div,<-aN]
  have:((D:Int):Rat)=(D:Rat):=rfl
  rw[this,Rat.mul_div_cancel (by intro h;rw[h]at eH;exact Rat.lt_irrefl eH)]
 rw[e]
 exact dn.divInt (by have:=h.pos;omega) (by omega) h.small
theorem mf.int{z:Int}{N:Nat}(aN:z.natAbs<2^N)(bQ:0<N)(ag:N<=1000000):mf 1 N (z:Rat):=
 ⟨by decide,Nat.one_lt_two_pow (by omega),⟨z,by simp,aN⟩,ag⟩
theorem N6(r:List Rat)(k:Nat):hk (r.take k)=bX k (fun i=>r[i]?.getD 0):=by
 induction k with
 | zero=>simp[hk,bX]
 | succ k a0=>
  by_cases ak:k<r.length
  ·rw[N7 (bB ak),a0]
   simp[bX,bB ak]
  ·have o:r.take (k+1)=r.take k:=by rw[List.take_of_length_le (by omega),List.take_of_length_le (by omega)]
   rw[o,a0]
   simp only[bX]
   rw[List.getElem?_eq_none (by omega)]
   exact(Rat.add_zero _).symm
theorem ZH{r:List Rat}{n:Nat}(h:r.length=n):hk r=bX n (fun i=>r[i]?.getD 0):=by
 rw[<-N6,List.take_of_length_le (by omega)]
theorem aaO{k n:Nat}{f:Nat->Rat}(h:k<=n)(aI:∀i,i<n->0<=f i):bX k f<=bX n f:=by
 induction n with
 | zero=>
  obtain rfl:k=0:=by omega
  exact Rat.le_refl
 | succ n a0=>
  by_cases ak:k<=n
  ·have:=a0 ak fun i ad=>aI i (by omega)
   have:=aI n (by omega)
   simp only[bX]
   grind
  ·obtain rfl:k=n+1:=by omega
   exact Rat.le_refl
structure fo (n m:Nat) (t:List (List Rat)):Prop where
 len:t.length=n
 row:∀r∈t,r.length=m
theorem fo.at{n m i:Nat}{t:List (List Rat)}(h:fo n m t)(ad:i<n):∃r,t[i]?=some r/\r∈t/\r.length=m/\(∀k,r[k]?.getD 0=bU t i k)/\hk r=bX m (bU t i):=by
 have cC:i<t.length:=by rw[h.len];exact ad
 refine⟨_,bB cC,List.getElem_mem cC,h.row _ (List.getElem_mem cC),fun k=>by simp[bU,bB cC],?_⟩
 rw[ZH (h.row _ (List.getElem_mem cC))]
 apply hE
 intro k _
 simp[bU,bB cC]
theorem fo.get{n m i k:Nat}{t:List (List Rat)}(h:fo n m t)(ad:i<n)(ak:k<m):∃r,t[i]?=some r/\r[k]?=some (bU t i k)/\r.length=m:=by
 obtain⟨r,aY,a3,bN,ck,-⟩:=h.at ad
 refine⟨r,aY,?_,bN⟩
 rw[<-ck,bB (by omega)]
 rfl
theorem fo.mem{n m:Nat}{t:List (List Rat)}(h:fo n m t){r:List Rat}(al:r∈t):∃i,i<n/\t[i]?=some r:=by
 obtain⟨i,ad⟩:=List.mem_iff_getElem?.1 al
 exact⟨i,by have:=(cH.1 ad).1;rw[h.len]at this;exact this,ad⟩
def ix(D:Nat)(t:List (List Rat)):Prop:=∀r∈t,∀q∈r,e6 D q
theorem ix.bU{D:Nat}{t:List (List Rat)}(h:ix D t)(i k:Nat):e6 D (bU t i k):=by
 unfold Go.cW.bU
 cases al:t[i]? with
 | none=>exact e6.zero D
 | some r=>
  simp only[Option.getD_some]
  cases av:r[k]? with
  | none=>exact e6.zero D
  | some q=>exact h r (List.mem_of_getElem? al) q (List.mem_of_getElem? av)
theorem e6.sum{D n:Nat}{f:Nat->Rat}(h:∀i,i<n->e6 D (f i)):e6 D (bX n f):=by
 induction n with
 | zero=>exact e6.zero D
 | succ n a0=>exact(a0 fun i ad=>h i (by omega)).add (h n (by omega))
theorem F4{D N n m:Nat}{L:Rat}{t:List (List Rat)}(aA:fo n m t)(aU:ix D t)(gH:mf D N L)(aI:∀i k,i<n->k<m->0<=bU t i k)(al:∀i,i<n->bX m (bU t i)<=L):tC N t:=by
 intro r sK
 obtain⟨i,ad,A0⟩:=aA.mem sK
 obtain⟨dR,aY,-,bN,ck,eU⟩:=aA.at ad
 have:dR=r:=by rw[A0]at aY;exact(Option.some.inj aY).symm
 subst this
 have key:∀k,k<=m->dn N (hk (dR.take k)):=fun k ak=>by
  have e:hk (dR.take k)=bX k (bU t i):=by
   rw[N6];exact hE fun j _=>ck j
  rw[e]
  refine gH.U (e6.sum fun j _=>aU.bU i j) (F0 fun j aW=>aI i j ad (by omega)) ?_
  exact Rat.le_trans (aaO ak fun j aW=>aI i j ad aW) (al i ad)
 refine⟨fun k=>?_,fun q av=>?_⟩
 ·by_cases ak:k<=m
  ·exact key k ak
  ·have:=key m (Nat.le_refl m)
   rw[List.take_of_length_le (by omega)]at this⊢
   exact this
 ·obtain⟨k,ak⟩:=List.mem_iff_getElem?.1 av
  have j0:k<m:=by have:=(cH.1 ak).1;omega
  have e:q=bU t i k:=by rw[<-ck,ak];rfl
  rw[e]
  refine gH.U (aU.bU i k) (aI i k ad j0) (Rat.le_trans (FZ (fun j aW=>aI i j ad aW) j0) (al i ad))
theorem kC.le{n:Nat}{B:Nat->Nat->Rat}{L:Rat}(h:kC n B L){i k:Nat}(ad:i<n)(ak:k<n):B i k<=L:=by
 rw[<-h.row i ad];exact FZ (fun k ak=>h.iX i k ad ak) ak
theorem BO{n:Nat}{f g:Nat->Nat}(h:∀i,i<n->f i=g i):lu n f=lu n g:=Nat.le_antisymm (BP fun i ad=>Nat.le_of_eq (h i ad)) (BP fun i ad=>Nat.le_of_eq (h i ad).symm)
theorem mP.congr{n:Nat}{A B kT:Nat->Nat->Rat}{L:Rat}{a6:List (Rat×List Int)}(h:mP n A L a6 B)(e:∀i k,i<n->k<n->kT i k=B i k):mP n A L a6 kT:=by
 refine⟨⟨fun i k ad ak=>by rw[e i k ad ak];exact h.kL.iX i k ad ak,fun i ad=>?_,fun k ak=>?_⟩,h.parts,fun i k ad ak=>by rw[e i k ad ak];exact h.sum i k ad ak,?_⟩
 ·rw[<-h.kL.row i ad];exact hE fun k ak=>e i k ad ak
 ·rw[<-h.kL.tN k ak];exact hE fun i ad=>e i k ad ak
 ·have:nt n kT=nt n B:=BO fun i ad=>BO fun k ak=>by rw[e i k ad ak]
  rw[this];exact h.mY
def kM(f:Nat->Rat):Nat->Rat
 | 0=>f 0
 | n+1=>if f n<kM f n then f n else kM f n
theorem Y1(f:Nat->Rat){n i:Nat}(ad:i<n):kM f n<=f i:=by
 induction n with
 | zero=>omega
 | succ n a0=>
  simp only[kM]
  by_cases fT:i=n
  ·subst fT
   split
   ·exact Rat.le_refl
   ·rename_i h;exact Rat.not_lt.1 h
  ·have:=a0 (by omega)
   split
   ·rename_i h;exact Rat.le_trans (Rat.le_of_lt h) this
   ·exact this
theorem Nq(f:Nat->Rat)(n:Nat)(aG:0<n):∃i,i<n/\kM f n=f i:=by
 have key:∀n,∃i,(i<n\/i=0)/\kM f n=f i:=by
  intro n
  induction n with
  | zero=>exact⟨0,.inr rfl,rfl⟩
  | succ n a0=>
   obtain⟨i,o,aa⟩:=a0
   simp only[kM]
   split
   ·exact⟨n,.inl (by omega),rfl⟩
   ·exact⟨i,by omega,aa⟩
 obtain⟨i,o,aa⟩:=key n
 exact⟨i,by omega,aa⟩
def jP(H:ab)(v:Value)(p:Rat×List Int):Prop:=∃s1 b1 cT cn s2 cA c2 cD eB j9 eL,v= .agg #[.bool s1,.slice b1 cT cn,.bool s2,.slice cA c2 cD,.slice eB j9 eL]/\cc H (.agg #[.bool s1,.slice b1 cT cn,.bool s2,.slice cA c2 cD]) p.1/\Row 3 1 false IR H (.slice eB j9 eL) p.2
instance:b3 jP:=⟨fun⟨s1,b1,cT,cn,s2,cA,c2,cD,eB,j9,eL,h,o,aa⟩ J=>⟨s1,b1,cT,cn,s2,cA,c2,cD,eB,j9,eL,h,o.ext J,b3.ext (af:=Row _ _ _ IR) aa J⟩⟩
theorem jP.kc{H:ab}{v:Value}{p:Rat×List Int}(h:jP H v p):Whole prog 113 v:=by
 obtain⟨s1,b1,cT,cn,s2,cA,c2,cD,eB,j9,eL,rfl,-⟩:=h
 exact⟨by rfl,by simp[Value.cells,Value.oneCell'],by simp[e3]⟩
theorem jP.kept{H aH:ab}{e:Nat}{s v:Value}{p:Rat×List Int}(h:jP H v p)(ak:Kept H aH s e)(o:124≠e)(aa:3≠e):jP aH v p:=by
 obtain⟨s1,b1,cT,cn,s2,cA,c2,cD,eB,j9,eL,rfl,aY,a3⟩:=h
 exact⟨s1,b1,cT,cn,s2,cA,c2,cD,eB,j9,eL,rfl,aY.kept ak o,a3.kept ak aa fun _ _ h=>h⟩
theorem en.other{α:Type}{k bk e U cX:Nat}{aC:Bool}{af:ab->Value->α->Prop}{H aH:ab}{v s:Value}{t:List (List α)}{us:List Value}(h:en k bk e U aC af H v t us)(ak:Kept H aH s cX)(o:bk≠cX)(aa:e≠cX)(bo:∀u x,af H u x->af aH u x):en k bk e U aC af aH v t us:=
 ⟨h.pos,h.own.other ak o fun _ _ h=>h,h.len,fun i row u aY a3=>(h.rows i row u aY a3).other ak aa bo,h.pE⟩
end Go.cW
end
