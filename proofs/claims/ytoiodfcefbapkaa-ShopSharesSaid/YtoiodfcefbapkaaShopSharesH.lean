/- Part of the proof of ShopShares. -/
import Derived.Test.YtoiodfcefbapkaaShopSharesG
set_option linter.unusedVariables false
set_option linter.unusedSimpArgs false
section
namespace Go.b_
def fM(H:ab)(u w:Value):Prop:=u=w
instance:bJ fM:=⟨fun h _=>h⟩
def Grown(H:ab)(s v:Value):Prop:=∀b,inBlock v b->inBlock s b\/H.length<=b
section
variable {P:Program} {r:List br} {F:Fr} {H:ab} {Q:Fr->ab->Prop} {α:Type}
theorem Yl{en:Bool}{d1 d2 t bO cM e R bs k n:Nat}{s x:Operand}{z:Value}{cs:List Value}{aw:a_ ((⟨en,none,some d1,.buildSlice t 1 #[(0,x)]⟩:br)::ap d2 bO cM s (T d1)::r) Q}(cV:hN H k e R (aq F s) n cs)(fA:∀v,aq (aY F d1 v) s=aq F s)
  (bu:P.underlying t=some (.slice e))(hu:P.underlying bO=some (.slice e))(I:fJ P cM=true)(an:bm P e=some R)(af:bytes? P e=some bs)(aP:dw P e=some z)(dt:flat z=true)(cY:z.cells.size=R)(c0:0<R)(qH:R<=1000)
  (dH:0<bs)(bp:(n+1)*bs<=140737488355328)(ao:(aq F x).cells.toList.length=R)(gZ:((aq F x).cells.toList.all (·.oneCell'))=true)(ah:k<=H.length)
  (K:∀u av aC,hN aC k e R av (n+1) (cs++(aq F x).cells.toList)->(∀cx:ab,cx.length<=k->Ext cx H->Ext cx aC)->Kept H aC (aq F s) e->Grown H (aq F s) av->H.length<=aC.length->a8 P r Q .mk (aY (aY F d1 u) d2 av) aC):
  a8 P ((⟨en,none,some d1,.buildSlice t 1 #[(0,x)]⟩:br)::ap d2 bO cM s (T d1)::r) Q aw F H:=by
 have fm:(made z (1*R)).length=R:=by rw[pG,Nat.one_mul]
 have aM:iF (fun i=>some (i*R,R)) (made z (1*R)) [(0,aq F x)]=some (aq F x).cells.toList:=by
  simp only[iF]
  rw[if_pos ⟨ao,by rw[fm];omega⟩]
  have:=AD (aq F x).cells.toList (made z (1*R)) [] (by rw[fm,ao])
  simpa using this
 have ax:Instr.fill (fun i=>some (i*R,R)) (made z (1*R)).toArray ((#[(0,x)]:Array (Nat×Operand)).toList.map fun p=>(p.1,aq F p.2))=some (aq F x).cells:=by
  rw[fill_eq]
  simp only[List.map_cons,List.map_nil]
  rw[aM]
  simp
 have au:∀U:Oper,U.op= .buildSlice t 1 #[(0,x)]->eV P (aq F) H U (.slice (some ⟨H.length,0,none⟩) 1 1) (H++[.own e false (aq F x).cells.toList]):=fun U fe=> .build (out:=(aq F x).cells) fe bu an aP dt cY c0 (by omega) (by omega) ax (by have:=ao;simp at this;omega)
 refine iz rfl rfl rfl au (fun U aM=>by simp[bF,aM]) (.inr ((Ext.refl H).snoc _ _ _)) ?_
 show a8 P (ap d2 bO cM s (T d1)::r) Q .mk (aY F d1 _) _
 have cX:Src (H++[.own e false (aq F x).cells.toList]) R (.slice (some ⟨H.length,0,none⟩) 1 1) 1 1 (aq F x).cells.toList:=by
  have:=Src.row (H:=H++[.own e false (aq F x).cells.toList]) (R:=R) (b:=H.length) (i:=0) (n:=1) (m:=1) (c:=1) (x:= .own e false (aq F x).cells.toList) (cs:=(aq F x).cells.toList) (by simp) rfl (by omega) (Nat.le_refl _) (by omega)
  rw[List.drop_zero,Nat.one_mul,<-ao,List.take_length]at this
  rw[ao]at this
  exact this
 have n_:hN (H++[.own e false (aq F x).cells.toList]) k e R (aq (aY F d1 (.slice (some ⟨H.length,0,none⟩) 1 1)) s) n cs:=by
  rw[fA]
  exact cV.ext ((Ext.refl H).snoc _ _ _)
 refine E5 n_ (by simpa[aq,T,aY]using cX) hu I an af aP cY dH bp gZ (by omega) (by simp;omega) fun av aC o aa aD bD b2=>?_
 refine K _ av aC o (fun cx aH cn=>aa cx aH (cn.snoc _ _ _)) (fun b X aS af=>aD b X ?_ (by rw[fA];exact af)) (fun b af=>?_) (by simp at b2;omega)
 ·rw[List.getElem?_append_left (cc.1 aS).1]
  exact aS
 ·have:=bD b af
  rw[fA]at this
  simp at this
  rcases this with h | h
  ·exact .inl h
  ·exact .inr (by omega)
theorem AT{en:Bool}{d1 d2 t bO cM e R bs k:Nat}{ay:Bool}{s x:Operand}{z:Value}{ae:ab->Value->α->Prop}{xs:List α}{a:α}{aw:a_ ((⟨en,none,some d1,.buildSlice t 1 #[(0,x)]⟩:br)::ap d2 bO cM s (T d1)::r) Q}(cV:bz k e R ay ae H (aq F s) xs)(aF:ae H (aq F x) a)
  (hw:Whole P e (aq F x))(fA:∀v,aq (aY F d1 v) s=aq F s)(hG:∀aC c_ u y,Kept H aC c_ e->ae H u y->ae aC u y)
  (bu:P.underlying t=some (.slice e))(hu:P.underlying bO=some (.slice e))(I:fJ P cM=true)(an:bm P e=some R)(dM:da P e=some ay)(af:bytes? P e=some bs)(aP:dw P e=some z)(dt:flat z=true)(cY:z.cells.size=R)(c0:0<R)(qH:R<=1000)
  (dH:0<bs)(bp:(xs.length+1)*bs<=140737488355328)(ah:k<=H.length)
  (K:∀p av aC,bz k e R ay ae aC av (xs++[a])->(∀cx:ab,cx.length<=k->Ext cx H->Ext cx aC)->Kept H aC (aq F s) e->Grown H (aq F s) av->H.length<=aC.length->a8 P r Q .mk (aY (aY F d1 p) d2 av) aC):
  a8 P ((⟨en,none,some d1,.buildSlice t 1 #[(0,x)]⟩:br)::ap d2 bO cM s (T d1)::r) Q aw F H:=by
 obtain⟨cs,jQ,hF⟩:=cV
 have g1:=jQ.1
 have kV:(aq F x).cells.size=R:=by have:=hw.1;rw[an]at this;exact(Option.some.inj this).symm
 have o:ay=true\/R=1:=by
  cases ay with
  | true=>exact .inl rfl
  | false=>
   refine .inr ?_
   have cf:=hw.2.2
   cases au:eB (aq F x)with
   | true=>rw[au]at cf;simp at cf;rw[cf]at dM;cases dM
   | false=>rw[au]at cf;simp at cf;rw[<-kV,cf.2];rfl
 refine Yl jQ fA bu hu I an af aP dt cY c0 qH dH bp (by simp[kV]) hw.2.1 ah fun p av aC aT aQ bn b8 eD=>K p av aC ⟨_,by simpa using aT,fun i y aL=>?_⟩ aQ bn b8 eD
 by_cases ad:i<xs.length
 ·rw[List.getElem?_append_left ad]at aL
  rw[rH g1 ad o]
  exact hG _ _ _ _ bn (hF i y aL)
 ·have eX:i=xs.length:=by
   have:=(cc.1 aL).1
   simp at this
   omega
  subst eX
  rw[List.getElem?_append_right (Nat.le_refl _),Nat.sub_self]at aL
  simp at aL
  subst aL
  rw[BO g1 hw an dM]
  exact hG _ _ _ _ bn aF
end
section
variable {α:Type} {P:Program} {e R k:Nat} {ay:Bool} {ae:ab->Value->α->Prop} {H aC:ab} {v s:Value} {xs:List α}
theorem Row.Wp{cs:List Value}(lL:∀i x,xs[i]?=some x->ae H (dZ ay R cs i) x)(ar:cs.length=xs.length*R)(lk:∀u y,ae H u y->Whole P e u)(dM:da P e=some ay)(o:ay=true\/R=1):(cs.all (·.oneCell'))=true:=by
 rw[List.all_eq_true]
 intro u ug
 obtain⟨j,aI⟩:=List.getElem?_of_mem ug
 have fP:j<xs.length*R:=by have:=(cc.1 aI).1;omega
 have c0:0<R:=by rcases Nat.eq_zero_or_pos R with q | q;·subst q;simp at fP
                 exact q
 have cW:j/R<xs.length:=Nat.div_lt_of_lt_mul (by rw[Nat.mul_comm];exact fP)
 have hw:=lk _ _ (lL _ _ (bt cW))
 have gh:u∈(dZ ay R cs (j/R)).cells.toList:=by
  unfold dZ
  cases ay with
  | true=>
   simp only[if_true,Value.cells,List.toList_toArray]
   have mz:=Nat.div_add_mod j R
   have fm:=Nat.mod_lt j c0
   rw[Nat.mul_comm]at mz
   refine List.mem_of_getElem? (i:=j % R) ?_
   rw[List.getElem?_take_of_lt fm,List.getElem?_drop,mz]
   exact aI
  | false=>
   have fA:R=1:=by rcases o with h | h;cases h;exact h
   subst fA
   have ju:cs[j/1]?=some u:=by rw[Nat.div_one];exact aI
   simp only[dZ,Bool.false_eq_true,if_false]at hw⊢
   rw[ju]at hw⊢
   simp only[Option.getD_some]at hw⊢
   have cf:=hw.2.2
   cases au:eB u with
   | false=>rw[au]at cf;simp at cf;rw[cf.2];simp
   | true=>
    rw[au]at cf
    simp at cf
    rw[cf]at dM
    cases dM
 exact List.all_eq_true.1 hw.2.1 u gh
theorem bz.beside{cH:Nat}(h:bz k e R ay ae H v xs)(om:0<k)(ah:Kept H aC s cH)(cG:∀b,0<b->inBlock v b->¬inBlock s b)(bl:∀u x,ae H u x->ae aC u x):bz k e R ay ae aC v xs:=by
 obtain⟨cs,⟨o,aa⟩,aD⟩:=h
 refine⟨cs,⟨o,?_⟩,fun i x ad=>bl _ _ (aD i x ad)⟩
 rcases aa with aa | ⟨c,i,cap,l,all,aT,aQ,bn,b8,eD,gw⟩
 ·exact .inl aa
 ·exact .inr ⟨c,i,cap,l,all,aT,aQ,bn,b8,ah _ _ eD fun af=>absurd af (cG c (by omega) ⟨i,_,cap,aT⟩),gw⟩
theorem bz.other{cH:Nat}(h:bz k e R ay ae H v xs)(ah:Kept H aC s cH)(cG:e≠cH)(bl:∀u x,ae H u x->ae aC u x):bz k e R ay ae aC v xs:=by
 obtain⟨cs,⟨o,aa⟩,aD⟩:=h
 refine⟨cs,⟨o,?_⟩,fun i x ad=>bl _ _ (aD i x ad)⟩
 rcases aa with aa | ⟨c,i,cap,l,all,aT,aQ,bn,b8,eD,gw⟩
 ·exact .inl aa
 ·exact .inr ⟨c,i,cap,l,all,aT,aQ,bn,b8,ah _ _ eD fun _=>by simp[bB.elem?];exact cG,gw⟩
theorem bz.le{bN:Nat}(h:bz k e R ay ae H v xs)(ah:bN<=k):bz bN e R ay ae H v xs:=by
 obtain⟨cs,⟨o,aa⟩,aD⟩:=h
 refine⟨cs,⟨o,?_⟩,aD⟩
 rcases aa with aa | ⟨c,i,cap,l,all,aT,aQ,bn,b8,eD,gw⟩
 ·exact .inl aa
 ·exact .inr ⟨c,i,cap,l,all,aT,aQ,bn,by omega,eD,gw⟩
theorem bz.ge(h:bz k e R ay ae H v xs){b:Nat}(af:inBlock v b)(aH:0<b):k<=b/\b<H.length:=by
 obtain⟨cs,⟨o,aa⟩,aD⟩:=h
 obtain⟨je,dI,dL,ao⟩:=af
 rcases aa with⟨-,aa | ⟨i,aa⟩⟩ | ⟨c,i,cap,l,all,aT,aQ,bn,b8,eD,gw⟩
 ·rw[ao]at aa;simp at aa
 ·rw[ao]at aa;simp at aa;try omega
 ·rw[ao]at aT;simp at aT
  have:=(cc.1 eD).1
  omega
end
structure dR {α:Type} (k bh e R:Nat) (ay:Bool) (ae:ab->Value->α->Prop) (H:ab) (v:Value) (t:List (List α)) (us:List Value):Prop where
 pos:0<k
 own:bz k bh 1 false fM H v us
 len:us.length=t.length
 rows:∀(i:Nat) (row:List α) (u:Value),t[i]?=some row->us[i]?=some u->bz k e R ay ae H u row
 o2:∀(i j b:Nat) (u w:Value),us[i]?=some u->us[j]?=some w->0<b->inBlock u b->inBlock w b->i=j
section
variable {α:Type} {P:Program} {bh e R k:Nat} {ay:Bool} {ae:ab->Value->α->Prop} {H aC mf:ab} {v s av:Value} {t:List (List α)} {us:List Value}
theorem dR.oH(h:dR k bh e R ay ae H v t us){i:Nat}{row:List α}(ad:t[i]?=some row):∃u,us[i]?=some u/\bz k e R ay ae H u row:=by
 have cW:i<us.length:=by rw[h.len];exact(cc.1 ad).1
 exact⟨_,bt cW,h.rows i row _ ad (bt cW)⟩
theorem dR.ext[bJ ae](h:dR k bh e R ay ae H v t us)(I:Ext H aC):dR k bh e R ay ae aC v t us:=
 ⟨h.pos,bJ.ext (ae:=bz k bh 1 false fM) h.own I,h.len,fun i row u o aa=>bJ.ext (ae:=bz k e R ay ae) (h.rows i row u o aa) I,h.o2⟩
theorem dR.row(h:dR k bh e R ay ae H v t us):Row bh 1 false (Row e R ay ae) H v t:=by
 obtain⟨cs,o,aa⟩:=h.own
 refine⟨cs,by rw[<-h.len];exact o.gl,fun i row ad=>?_⟩
 obtain⟨u,hu,cV⟩:=h.oH ad
 have:=aa i u hu
 rw[show dZ false 1 cs i=u from this]
 exact cV.row
theorem dR.nil(k bh e R:Nat)(ay:Bool)(ae:ab->Value->α->Prop)(H:ab)(ah:0<k):dR k bh e R ay ae H (.slice none 0 0) [] []:=
 ⟨ah,bz.nil _ _ _ _ _ _,rfl,fun i row u h=>by simp at h,fun i j b u w h=>by simp at h⟩
theorem dR.Lk{n:Nat}(ah:0<k)(h:bz k bh 1 false fM H v (List.replicate n (.slice none 0 0))):dR k bh e R ay ae H v (List.replicate n ([]:List α)) (List.replicate n (.slice none 0 0)):=by
 refine⟨ah,h,by simp,fun i row u o aa=>?_,fun i j b u w o aa _ aD=>?_⟩
 ·rw[List.getElem?_replicate]at o aa
  split at o
  ·rw[if_pos ‹_›]at aa
   cases o;cases aa
   exact bz.nil _ _ _ _ _ _
  ·cases o
 ·rw[List.getElem?_replicate]at o
  split at o
  ·cases o
   obtain⟨je,dI,dL,aD⟩:=aD
   simp at aD
  ·cases o
theorem dR.put{i:Nat}{u:Value}{mU:List α}(h:dR k bh e R ay ae H v t us)(hu:us[i]?=some u)(cG:e≠bh)(ah:Kept H aC u e)(aV:Grown H u av)(dr:bz k e R ay ae aC av mU)(gg:∀u x,ae H u x->ae aC u x)
  (cV:bz k bh 1 false fM mf v (us.set i av))(jY:Kept aC mf v bh)(mu:∀u x,ae aC u x->ae mf u x):dR k bh e R ay ae mf v (t.set i mU) (us.set i av):=by
 have cW:=(cc.1 hu).1
 refine⟨h.pos,cV,by simp[h.len],fun j row w o aa=>?_,fun j dp b w gm o aa aH aD bD=>?_⟩
 ·by_cases fc:i=j
  ·subst fc
   rw[List.getElem?_set_self cW]at aa
   rw[List.getElem?_set_self (by rw[<-h.len];exact cW)]at o
   cases o;cases aa
   exact dr.other jY cG mu
  ·rw[List.getElem?_set_ne fc]at o aa
   refine((h.rows j row w o aa).beside h.pos ah (fun b aH af cK=>fc (h.o2 i j b u w hu aa aH cK af)) gg).other jY cG mu
 ·have fresh:∀(j:Nat) (w:Value),us[j]?=some w->i≠j->inBlock w b->¬inBlock av b:=fun j w hw nB af cK=>by
   rcases aV b cK with q | q
   ·exact nB (h.o2 i j b u w hu hw aH q af)
   ·have tU:j<t.length:=by rw[<-h.len];exact(cc.1 hw).1
    have:=(h.rows j _ w (bt tU) hw).ge af aH
    omega
  by_cases fc:i=j
  ·subst fc
   rw[List.getElem?_set_self cW]at o
   cases o
   by_cases lQ:i=dp
   ·exact lQ
   ·rw[List.getElem?_set_ne lQ]at aa
    exact absurd aD (fresh dp gm aa lQ bD)
  ·rw[List.getElem?_set_ne fc]at o
   by_cases lQ:i=dp
   ·subst lQ
    rw[List.getElem?_set_self cW]at aa
    cases aa
    exact absurd bD (fresh j w o fc aD)
   ·rw[List.getElem?_set_ne lQ]at aa
    exact h.o2 j dp b w gm o aa aH aD bD
theorem dR.inner{i:Nat}{u:Value}{mU:List α}(h:dR k bh e R ay ae H v t us)(hu:us[i]?=some u)(cG:e≠bh)(ah:Kept H aC u e)(dr:bz k e R ay ae aC u mU)(gg:∀u x,ae H u x->ae aC u x):dR k bh e R ay ae aC v (t.set i mU) us:=by
 have cW:=(cc.1 hu).1
 refine⟨h.pos,h.own.other ah (Ne.symm cG) fun _ _ h=>h,by simp[h.len],fun j row w o aa=>?_,h.o2⟩
 by_cases fc:i=j
 ·subst fc
  rw[List.getElem?_set_self (by rw[<-h.len];exact cW)]at o
  rw[hu]at aa
  cases o;cases aa
  exact dr
 ·rw[List.getElem?_set_ne fc]at o
  exact(h.rows j row w o aa).beside h.pos ah (fun b aH af cK=>fc (h.o2 i j b u w hu aa aH cK af)) gg
theorem dR.WJ{i nM:Nat}{mU:List α}(h:dR k bh e R ay ae H v t us)(cW:i<t.length)(aE:∀b,0<b->inBlock av b->nM<=b)(a5:∀(j:Nat) (w:Value) (b:Nat),us[j]?=some w->inBlock w b->0<b->b<nM)(cG:e≠bh)(dr:bz k e R ay ae H av mU)
  (cV:bz k bh 1 false fM mf v (us.set i av))(jY:Kept H mf v bh)(mu:∀u x,ae H u x->ae mf u x):dR k bh e R ay ae mf v (t.set i mU) (us.set i av):=by
 have C3:i<us.length:=by rw[h.len];exact cW
 refine⟨h.pos,cV,by simp[h.len],fun j row w o aa=>?_,fun j dp b w gm o aa aH aD bD=>?_⟩
 ·by_cases fc:i=j
  ·subst fc
   rw[List.getElem?_set_self C3]at aa
   rw[List.getElem?_set_self cW]at o
   cases o;cases aa
   exact dr.other jY cG mu
  ·rw[List.getElem?_set_ne fc]at o aa
   exact(h.rows j row w o aa).other jY cG mu
 ·by_cases fc:i=j
  ·subst fc
   rw[List.getElem?_set_self C3]at o
   cases o
   by_cases lQ:i=dp
   ·exact lQ
   ·rw[List.getElem?_set_ne lQ]at aa
    have:=a5 _ _ _ aa bD aH
    have:=aE _ aH aD
    omega
  ·rw[List.getElem?_set_ne fc]at o
   by_cases lQ:i=dp
   ·subst lQ
    rw[List.getElem?_set_self C3]at aa
    cases aa
    have:=a5 _ _ _ o aD aH
    have:=aE _ aH bD
    omega
   ·rw[List.getElem?_set_ne lQ]at aa
    exact h.o2 j dp b w gm o aa aH aD bD
theorem dR.snoc{mU:List α}{v2:Value}{cx:ab}{nM:Nat}(h:dR k bh e R ay ae H v t us)(aE:∀b,0<b->inBlock av b->nM<=b)(a5:∀(j:Nat) (w:Value) (b:Nat),us[j]?=some w->inBlock w b->0<b->b<nM)(cG:e≠bh)(dr:bz k e R ay ae H av mU)
  (cV:bz k bh 1 false fM mf v2 (us++[av]))(jY:Kept H mf v bh)(mu:∀u x,ae H u x->ae mf u x):dR k bh e R ay ae mf v2 (t++[mU]) (us++[av]):=by
 refine⟨h.pos,cV,by simp[h.len],fun j row w o aa=>?_,fun j dp b w gm o aa aH aD bD=>?_⟩
 ·by_cases fc:j<t.length
  ·rw[List.getElem?_append_left fc]at o
   rw[List.getElem?_append_left (by rw[h.len];exact fc)]at aa
   exact(h.rows j row w o aa).other jY cG mu
  ·rw[List.getElem?_append_right (by omega)]at o
   rw[List.getElem?_append_right (by rw[h.len];omega)]at aa
   have tT:j-t.length=0:=by
    have:=(cc.1 o).1
    simp at this;omega
   rw[tT]at o
   rw[h.len,tT]at aa
   simp at o aa
   subst o;subst aa
   exact dr.other jY cG mu
 ·have aI:∀(j:Nat) (w:Value),(us++[av])[j]?=some w->inBlock w b->(us[j]?=some w/\b<nM)\/(j=us.length/\nM<=b):=fun j w hw af=>by
   by_cases fc:j<us.length
   ·rw[List.getElem?_append_left fc]at hw
    exact .inl ⟨hw,a5 _ _ _ hw af aH⟩
   ·rw[List.getElem?_append_right (by omega)]at hw
    have tT:j-us.length=0:=by
     have:=(cc.1 hw).1
     simp at this;omega
    rw[tT]at hw
    simp at hw
    subst hw
    exact .inr ⟨by omega,aE b aH af⟩
  rcases aI j w o aD with⟨aT,aQ⟩ | ⟨aT,aQ⟩
  ·rcases aI dp gm aa bD with⟨bn,b8⟩ | ⟨bn,b8⟩
   ·exact h.o2 j dp b w gm aT bn aH aD bD
   ·omega
  ·rcases aI dp gm aa bD with⟨bn,b8⟩ | ⟨bn,b8⟩
   ·omega
   ·omega
theorem dR.lt(h:dR k bh e R ay ae H v t us)(j:Nat)(w:Value)(b:Nat)(hw:us[j]?=some w)(af:inBlock w b)(aH:0<b):b<H.length:=by
 have tU:j<t.length:=by rw[<-h.len];exact(cc.1 hw).1
 exact((h.rows j _ w (bt tU) hw).ge af aH).2
end
def Bk(R:Nat)(u:Value)(n j m:Nat)(v:Value):Prop:=(∃b U cap c,u= .slice (some ⟨b,U,none⟩) n cap/\v= .slice (some ⟨b,U+j*R,none⟩) m c)\/(m=0/\∃a c,v= .slice a 0 c)
theorem bz.sub{α:Type}{k e R:Nat}{ay:Bool}{ae:ab->Value->α->Prop}{H:ab}{v:Value}{xs:List α}(h:bz k e R ay ae H v xs):Bk R v xs.length 0 xs.length v:=by
 obtain⟨cs,⟨o,aa⟩,aD⟩:=h
 rcases aa with⟨aH,aa | ⟨i,aa⟩⟩ | ⟨c,i,cap,l,all,aT,aQ,bn,b8,eD,gw⟩
 ·exact .inr ⟨aH,_,_,aa⟩
 ·exact .inr ⟨aH,_,_,aa⟩
 ·exact .inl ⟨c,i,cap,cap,aT,by simpa using aT⟩
section
variable {P:Program} {r:List br} {F:Fr} {H:ab} {Q:Fr->ab->Prop} {α:Type}
theorem AU{en:Bool}{d t e R l h k:Nat}{ay:Bool}{x:Operand}{bX ad:Option Operand}{ae:ab->Value->α->Prop}{xs:List α}{aw:a_ ((⟨en,none,some d,.slice t x bX ad none⟩:br)::r) Q}(cV:bz k e R ay ae H (aq F x) xs)(hu:P.underlying t=some (.slice e))(an:bm P e=some R)(o:ay=true\/R=1)
  (ar:dN (aq F) bX=some l)(cR:fl (aq F) xs.length ad=some h)(zl:l<=h)(wC:h<=xs.length)(K:∀av,Row e R ay ae H av ((xs.drop l).take (h-l))->Bk R (aq F x) xs.length l (h-l) av->a8 P r Q .mk (aY F d av) H):a8 P ((⟨en,none,some d,.slice t x bX ad none⟩:br)::r) Q aw F H:=by
 by_cases aH:h-l=0
 ·refine rb cV.row hu an o ar cR zl wC fun av dd=>K av dd (.inr ⟨aH,?_⟩)
  obtain⟨a,c,ao⟩:=dd.len
  rw[aH]at ao
  exact⟨a,c,by simpa using ao⟩
 ·have n_:=cV
  obtain⟨cs,⟨Iw,aa⟩,aD⟩:=n_
  rcases aa with⟨o4,-⟩ | ⟨b,i,cap,ur,all,aT,aQ,bn,b8,eD,gw,xz⟩
  ·omega
  ·refine MP (b:=b) (i:=i) (len:=xs.length) (cap:=cap) (l:=l) (h:=h) aT eD rfl hu an ar cR zl (by omega) (by omega) ?_
   refine K _ ?_ (.inl ⟨b,i,cap,cap-l,aT,rfl⟩)
   refine⟨(cs.drop (l*R)).take ((h-l)*R),⟨_,_,by rw[List.length_take,List.length_drop,Nat.min_eq_left (by omega)],by rw[List.length_take,List.length_drop];omega,?_,fun _=>⟨b,i+l*R,_,all,rfl,eD,rfl,rfl,?_,?_⟩⟩,fun j y aL=>?_⟩
   ·have bq:(h-l)*R+l*R=h*R:=by rw[<-Nat.add_mul];congr 1;omega
    have bh:h*R<=xs.length*R:=Nat.mul_le_mul_right _ wC
    have e1:((xs.drop l).take (h-l)).length=h-l:=by simp;omega
    rw[e1]
    simp
    omega
   ·have bq:(cap-l)*R+l*R=cap*R:=by rw[<-Nat.add_mul];congr 1;omega
    have e1:((xs.drop l).take (h-l)).length=h-l:=by simp;omega
    rw[e1]
    have bh:(h-l)*R<=(cap-l)*R:=Nat.mul_le_mul_right _ (by omega)
    omega
   ·have bq:(h-l)*R+l*R=h*R:=by rw[<-Nat.add_mul];congr 1;omega
    have bh:h*R<=xs.length*R:=Nat.mul_le_mul_right _ wC
    have e1:((xs.drop l).take (h-l)).length=h-l:=by simp;omega
    rw[e1,xz,List.drop_take,List.drop_drop,List.take_take,Nat.min_eq_left (by omega)]
   ·have cW:j<h-l:=by
     have:=(cc.1 aL).1
     simp at this
     omega
    rw[List.getElem?_take_of_lt cW,List.getElem?_drop]at aL
    have:=aD _ _ aL
    have bq:dZ ay R ((cs.drop (l*R)).take ((h-l)*R)) j=dZ ay R cs (l+j):=by
     have hle:(j+1)*R<=(h-l)*R:=Nat.mul_le_mul_right _ cW
     rw[Nat.succ_mul]at hle
     unfold dZ
     cases ay with
     | true=>
      simp only[if_true]
      rw[List.drop_take,List.drop_drop,List.take_take,Nat.min_eq_left (by omega),<-Nat.add_mul]
     | false=>
      have fA:R=1:=by rcases o with h | h;cases h;exact h
      subst fA
      simp only[Bool.false_eq_true,if_false,Nat.mul_one]
      rw[List.getElem?_take_of_lt cW,List.getElem?_drop]
    rw[bq]
    exact this
theorem q9{d hJ bO e R k j m:Nat}{ay:Bool}{x y:Operand}{u:Value}{ae:ab->Value->α->Prop}{xs bI:List α}{aw:a_ (cp d hJ bO x y::r) Q}(cV:bz k e R ay ae H u xs)(aJ:Bk R u xs.length j m (aq F x))(ad2:j+m<=xs.length)(lL:Row e R ay ae H (aq F y) bI)
  (lk:∀u y,ae H u y->Whole P e u)(hG:∀aC c_ u y,Kept H aC c_ e->ae H u y->ae aC u y)(hu:P.underlying hJ=some (.slice e))(an:bm P e=some R)(dM:da P e=some ay)(o:ay=true\/R=1)(c0:0<R)
  (K:∀aC,bz k e R ay ae aC u (xs.take j++bI.take m++xs.drop (j+(bI.take m).length))->(∀cx:ab,cx.length<=k->Ext cx H->Ext cx aC)->Kept H aC u e->aC.length=H.length->(∀c,c<k->aC[c]?=H[c]?)->a8 P r Q .mk (aY F d (.int .i64 ((bI.take m).length:Int))) aC):a8 P (cp d hJ bO x y::r) Q aw F H:=by
 have a2:∀U:Oper,U.op= .call {callee:= .builtin .copy,args:= #[x,y],argTypes:= #[hJ,bO]}->bF P U=false:=fun U aM=>by simp[bF,aM]
 have aE:bT P (aq F) H (.call {callee:= .builtin .copy,args:= #[x,y],argTypes:= #[hJ,bO]})=none:=rfl
 by_cases aH:(bI.take m).length=0
 ·have wG:min bI.length m=0:=by simpa[Nat.min_comm]using aH
  obtain⟨acw,HU,sr⟩:=lL.len
  obtain⟨acv,ada,iu⟩:∃a c,aq F x= .slice a m c:=by
   rcases aJ with⟨b,U,cap,c,-,h⟩ | ⟨rfl,a,c,h⟩
   ·exact⟨_,_,h⟩
   ·exact⟨_,_,h⟩
  refine iz (v:= .int .i64 0) (H1:=H) rfl rfl aE (fun U aM=> .vx aM hu an (by rw[sr];exact .u9) wG iu) a2 (.inl rfl) ?_
  have he:bI.take m=[]:=List.eq_nil_of_length_eq_zero aH
  have:=K H (by rw[he];simpa using cV) (fun _ _ h=>h) (fun b X h _=>h) rfl (fun _ _=>rfl)
  rw[aH]at this
  exact this
 ·have n_:=cV
  obtain⟨cs,⟨ar,aa⟩,aD⟩:=n_
  obtain⟨fE,y2,we⟩:=lL
  have wG:0<m:=by rcases Nat.eq_zero_or_pos m with q | q;·subst q;simp at aH
                  exact q
  obtain⟨b,U,cap,c,kT,pb⟩:∃b U cap c,u= .slice (some ⟨b,U,none⟩) xs.length cap/\aq F x= .slice (some ⟨b,U+j*R,none⟩) m c:=by
   rcases aJ with h | ⟨q,-⟩
   ·exact h
   ·omega
  rcases aa with⟨o4,-⟩ | ⟨cb,j9,dn,ur,all,aT,aQ,bn,b8,eD,gw,xz⟩
  ·omega
  rw[kT]at aT
  simp at aT
  obtain⟨⟨rfl,rfl⟩,rfl⟩:=aT
  obtain⟨n,r7⟩:∃n,n=(bI.take m).length:=⟨_,rfl⟩
  have uc:n=min bI.length m:=by rw[r7];simp[Nat.min_comm]
  have jW:fE.length=bI.length*R:=by obtain⟨_,_,_,_,h,_⟩:=y2;exact h
  have cX:Src H R (aq F y) bI.length n (fE.take (n*R)):=ea.src y2 (by omega)
  have zw:n*R<=bI.length*R:=Nat.mul_le_mul_right _ (by omega)
  have nD:(fE.take (n*R)).length=n*R:=by simp;omega
  have wL:((fE.take (n*R)).all (·.oneCell'))=true:=by
   have:=Row.Wp (P:=P) we jW lk dM o
   rw[List.all_eq_true]at this⊢
   exact fun u hu=>this u (List.mem_of_mem_take hu)
  have bq:(j+n)*R=j*R+n*R:=Nat.add_mul _ _ _
  have bh:(j+n)*R<=xs.length*R:=Nat.mul_le_mul_right _ (by omega)
  have e1:xs.length*R<=cap*R:=Nat.mul_le_mul_right _ bn
  have bp:U+j*R+(fE.take (n*R)).length<=all.length:=by omega
  refine iz (v:= .int .i64 n) (H1:=H.set b (.own e ur (c3 all (U+j*R) (fE.take (n*R))))) rfl rfl aE (fun U aM=> .copy aM hu an cX uc (by omega) eD bp wL pb) a2 (.inl rfl) ?_
  have gF:=(cc.1 eD).1
  have tX:Kept H (H.set b (.own e ur (c3 all (U+j*R) (fE.take (n*R))))) u e:=fun cb X aS cK=>by
   have:b≠cb:=fun cH=>by
    subst cH
    rw[eD]at aS
    exact cK ⟨U,_,cap,kT⟩ (by rw[<-Option.some.inj aS];rfl)
   rw[List.getElem?_set_ne this];exact aS
  have hlen:(xs.take j++bI.take m++xs.drop (j+(bI.take m).length)).length=xs.length:=by
   simp only[List.length_append,List.length_take,List.length_drop]
   omega
  have RC:(cs.take (j*R)++fE.take (n*R)++cs.drop (j*R+n*R))=c3 cs (j*R) (fE.take (n*R)):=by
   unfold c3;rw[nD]
  have:=K (H.set b (.own e ur (c3 all (U+j*R) (fE.take (n*R))))) ⟨c3 cs (j*R) (fE.take (n*R)),⟨by rw[mW (by omega),ar,hlen],.inr ⟨b,U,cap,ur,_,by rw[hlen];exact kT,aQ,by rw[hlen];exact bn,b8,List.getElem?_set_self gF,by rw[mW bp];exact gw,?_⟩⟩,fun i y aL=>?_⟩
   (fun cx aH I=>I.set (by omega) (by simp)) tX (by simp) (fun c ag=>List.getElem?_set_ne (by omega))
  ·rw[<-r7]at this;exact this
  ·rw[hlen,xz]
   have nz:j*R+(fE.take (n*R)).length<=((all.drop U).take (xs.length*R)).length:=by simp;omega
   apply List.ext_getElem?
   intro i
   by_cases ad:i<xs.length*R
   ·rw[List.getElem?_take_of_lt ad,List.getElem?_drop,q6 bp,q6 nz,List.getElem?_take_of_lt ad,List.getElem?_drop]
    by_cases ag:j*R<=i/\i<j*R+(fE.take (n*R)).length
    ·rw[if_pos ag,if_pos ⟨by omega,by omega⟩]
     congr 1
     omega
    ·rw[if_neg ag,if_neg (by omega)]
   ·rw[List.getElem?_eq_none (by rw[mW nz];simp;omega),List.getElem?_eq_none (by simp;omega)]
  ·
   have mu:∀u x,ae H u x->ae (H.set b (.own e ur (c3 all (U+j*R) (fE.take (n*R))))) u x:=fun u x h=>hG _ _ _ _ tX h
   rw[<-RC]
   have bu:(cs.take (j*R)).length=j*R:=by simp;omega
   by_cases iJ:i<j
   ·rw[List.append_assoc,List.getElem?_append_left (by simp;omega),List.getElem?_take_of_lt iJ]at aL
    rw[List.append_assoc,rH bu iJ o]
    have:dZ ay R (cs.take (j*R)) i=dZ ay R cs i:=by
     have:=rH (ay:=ay) (i:=i) (fE:=cs.drop (j*R)) bu iJ o
     rw[List.take_append_drop]at this
     exact this.symm
    rw[this]
    exact mu _ _ (aD _ _ aL)
   ·by_cases hQ:i<j+n
    ·rw[List.append_assoc,List.getElem?_append_right (by simp;omega),List.getElem?_append_left (by simp;omega)]at aL
     have fP:(xs.take j).length=j:=by simp;omega
     rw[fP,List.getElem?_take_of_lt (by omega)]at aL
     rw[List.append_assoc,yC bu (by omega) o,rH nD (by omega) o]
     have:dZ ay R (fE.take (n*R)) (i-j)=dZ ay R fE (i-j):=by
      have:=rH (ay:=ay) (i:=i-j) (fE:=fE.drop (n*R)) nD (by omega) o
      rw[List.take_append_drop]at this
      exact this.symm
     rw[this]
     exact mu _ _ (we _ _ aL)
    ·rw[List.getElem?_append_right (by simp;omega)]at aL
     have jZ:(xs.take j++bI.take m).length=j+n:=by simp;omega
     rw[jZ,<-r7,List.getElem?_drop,show j+n+(i-(j+n))=i by omega]at aL
     have pg:(cs.take (j*R)++fE.take (n*R)).length=(j+n)*R:=by rw[List.length_append,bu,nD,bq]
     rw[yC pg (by omega) o]
     have:dZ ay R (cs.drop (j*R+n*R)) (i-(j+n))=dZ ay R cs i:=by
      have bD:(cs.take ((j+n)*R)).length=(j+n)*R:=by simp;omega
      have:=yC (ay:=ay) (i:=i) (fE:=cs.drop ((j+n)*R)) bD (by omega) o
      rw[List.take_append_drop,bq]at this
      exact this.symm
     rw[this]
     exact mu _ _ (aD _ _ aL)
end
def eN{α:Type}(P:Program)(e:Nat)(ae:ab->Value->α->Prop)(H:ab)(u:Value):Option α->Prop
 | some a=>ae H u a
 | none=>Whole P e u
section
variable {α:Type} {P:Program} {e R k:Nat} {ay:Bool} {ae:ab->Value->α->Prop} {H:ab} {v:Value} {xs:List α}
instance[bJ ae]:bJ (eN P e ae):=⟨fun{H H1 u U} h I=>by
 cases U with
 | none=>exact h
 | some a=>exact bJ.ext (ae:=ae) h I⟩
theorem eN.iB(bl:∀u y,ae H u y->Whole P e u):∀u y,eN P e ae H u y->Whole P e u
 | u,none,h=>h
 | u,some a,h=>bl u a h
theorem eN.kept{cH:Nat}(bl:∀aC c_ u y,Kept H aC c_ cH->ae H u y->ae aC u y):∀aC c_ u y,Kept H aC c_ cH->eN P e ae H u y->eN P e ae aC u y
 | aC,c_,u,none,_,h=>h
 | aC,c_,u,some a,ah,h=>bl aC c_ u a ah h
theorem Row.opt(h:Row e R ay ae H v xs):Row e R ay (eN P e ae) H v (xs.map some):=by
 obtain⟨cs,o,aa⟩:=h
 refine⟨cs,by simpa using o,fun i x ad=>?_⟩
 rw[List.getElem?_map,Option.map_eq_some_iff]at ad
 obtain⟨y,aL,rfl⟩:=ad
 exact aa i y aL
theorem bz.Fg(h:bz k e R ay (eN P e ae) H v (xs.map some)):bz k e R ay ae H v xs:=by
 obtain⟨cs,o,aa⟩:=h
 refine⟨cs,by simpa using o,fun i x ad=>?_⟩
 exact aa i (some x) (by simp[ad])
theorem EF{α:Type}(a:α){n N:Nat}(aH:n<=N):(List.replicate n (some a)++List.replicate (N-n) (none:Option α)).take n++(List.replicate n (some a)).take (N-n)++(List.replicate n (some a)++List.replicate (N-n) (none:Option α)).drop (n+((List.replicate n (some a)).take (N-n)).length)=List.replicate (n+min (N-n) n) (some a)++List.replicate (N-(n+min (N-n) n)) none:=by
 rw[List.take_replicate,List.take_append,List.take_replicate]
 simp only[List.length_replicate,Nat.sub_self,List.take_zero,List.append_nil,Nat.min_self]
 rw[List.replicate_append_replicate]
 congr 1
 rw[List.drop_append,List.drop_eq_nil_of_le (by simp),List.nil_append]
 simp only[List.length_replicate,List.drop_replicate]
 congr 1
 omega
theorem EE{α:Type}(a:α)(N:Nat):(List.replicate N (none:Option α)).take 0++([some a]:List (Option α)).take N++(List.replicate N (none:Option α)).drop (0+(([some a]:List (Option α)).take N).length)=List.replicate (min N 1) (some a)++List.replicate (N-min N 1) none:=by
 rcases N with _ | N
 ·simp
 ·have:min (N+1) 1=1:=by omega
  rw[this]
  simp
theorem ED{α:Type}(a:α){n N:Nat}(aH:n<=N)(o:¬n<N):List.replicate n (some a)++List.replicate (N-n) (none:Option α)=(List.replicate N a).map some:=by
 have:n=N:=by omega
 subst this
 simp
end
section
variable {P:Program} {r:List br} {F:Fr} {H:ab} {Q:Fr->ab->Prop} {α:Type}
theorem AQ{en:Bool}{d t e R:Nat}{ay:Bool}{x:Operand}{z:Value}{ae:ab->Value->α->Prop}{a:α}{aw:a_ ((⟨en,none,some d,.buildSlice t 1 #[(0,x)]⟩:br)::r) Q}(aF:∀aC,Ext H aC->ae aC (aq F x) a)(hw:Whole P e (aq F x))
  (bu:P.underlying t=some (.slice e))(an:bm P e=some R)(dM:da P e=some ay)(aP:dw P e=some z)(dt:flat z=true)(cY:z.cells.size=R)(c0:0<R)(qH:R<=1000)
  (K:∀v aC,bz H.length e R ay ae aC v [a]->Ext H aC->a8 P r Q .mk (aY F d v) aC):a8 P ((⟨en,none,some d,.buildSlice t 1 #[(0,x)]⟩:br)::r) Q aw F H:=by
 have fm:(made z (1*R)).length=R:=by rw[pG,Nat.one_mul]
 have kV:(aq F x).cells.size=R:=by have:=hw.1;rw[an]at this;exact(Option.some.inj this).symm
 have ao:(aq F x).cells.toList.length=R:=by simp[kV]
 have aM:iF (fun i=>some (i*R,R)) (made z (1*R)) [(0,aq F x)]=some (aq F x).cells.toList:=by
  simp only[iF]
  rw[if_pos ⟨ao,by rw[fm];omega⟩]
  have:=AD (aq F x).cells.toList (made z (1*R)) [] (by rw[fm,ao])
  simpa using this
 have ax:Instr.fill (fun i=>some (i*R,R)) (made z (1*R)).toArray ((#[(0,x)]:Array (Nat×Operand)).toList.map fun p=>(p.1,aq F p.2))=some (aq F x).cells:=by
  rw[fill_eq]
  simp only[List.map_cons,List.map_nil]
  rw[aM]
  simp
 have au:∀U:Oper,U.op= .buildSlice t 1 #[(0,x)]->eV P (aq F) H U (.slice (some ⟨H.length,0,none⟩) 1 1) (H++[.own e false (aq F x).cells.toList]):=fun U fe=> .build (out:=(aq F x).cells) fe bu an aP dt cY c0 (by omega) (by omega) ax (by have:=ao;simp at this;omega)
 have I:Ext H (H++[.own e false (aq F x).cells.toList]):=(Ext.refl H).snoc _ _ _
 refine iz rfl rfl rfl au (fun U aM=>by simp[bF,aM]) (.inr I) (K _ _ ⟨(aq F x).cells.toList,⟨by simp[kV],.inr ⟨H.length,0,1,false,(aq F x).cells.toList,rfl,by omega,Nat.le_refl _,Nat.le_refl _,by simp,by simp[kV],?_⟩⟩,fun i y ad=>?_⟩ I)
 ·rw[List.drop_zero,List.length_singleton,Nat.one_mul,<-ao,List.take_length]
 ·have qw:i=0:=by have:=(cc.1 ad).1;simp at this;exact this
  subst qw
  simp at ad
  subst ad
  have:=BO (n:=0) (cs:=[]) (by simp) hw an dM
  rw[List.nil_append]at this
  rw[this]
  exact aF _ I
end
section
variable {P:Program} {r:List br} {F:Fr} {H:ab} {Q:Fr->ab->Prop} {α:Type}
theorem xU{d t e R bs n:Nat}{ay:Bool}{x y:Operand}{eg cB:IntKind}{z:Value}{ae:ab->Value->α->Prop}{a:α}{aw:a_ (ms d t x y::r) Q}(hu:P.underlying t=some (.slice e))(an:bm P e=some R)(af:bytes? P e=some bs)(aP:dw P e=some z)(dt:flat z=true)
  (dM:da P e=some ay)(hw:Whole P e z)(I:aq F x= .int eg (n:Int))(aL:aq F y= .int cB (n:Int))(c0:0<R)(dH:0<bs)(bp:bs*n<=281474976710656)(bl:∀aC,ae aC z a)
  (K:∀fW gS aC,bz H.length e R ay ae aC (.slice fW n gS) (List.replicate n a)->Ext H aC->a8 P r Q .mk (aY F d (.slice fW n gS)) aC):a8 P (ms d t x y::r) Q aw F H:=
 q_ hu an af aP dt dM hw I aL c0 dH bp bl fun v aC cV oz ag=>by
  have ar:=cV.len
  rw[List.length_replicate]at ar
  obtain⟨fW,gS,rfl⟩:=ar
  exact K fW gS aC cV oz
end
end Go.b_
end
section
set_option maxRecDepth 8000
set_option maxHeartbeats 1000000
namespace Go.b_
open Go.Proofs
open Go.Proofs.Try (prog)
attribute [-simp] fL gO hK
def yl(a b:Int):Int:=IntKind.u64.wrap ((BitVec.ofInt 64 a&&&BitVec.ofInt 64 b).toNat:Int)
@[simp high] theorem aeU(P:Program)(t:Nat)(a b:Int):dO P .and t (.int .u64 a) (.int .u64 b)=some (.int .u64 (yl a b)):=Xp
theorem Hq{x:Nat}(I:x<4294967296):yl (x:Int) 4294967295=(x:Int):=by
 unfold yl
 have o:((BitVec.ofInt 64 (x:Int))&&&(BitVec.ofInt 64 4294967295)).toNat=x:=by
  have e:(4294967295:Int)=((4294967295:Nat):Int):=rfl
  rw[e,BitVec.ofInt_natCast,BitVec.ofInt_natCast,BitVec.toNat_and,BitVec.toNat_ofNat,BitVec.toNat_ofNat,Nat.mod_eq_of_lt (by omega),Nat.mod_eq_of_lt (by omega)]
  have:=Nat.and_two_pow_sub_one_eq_mod x 32
  rw[show(4294967295:Nat)=2^32-1 from rfl,this]
  omega
 rw[o]
 exact fR (by omega) (by omega)
theorem EL{x:Nat}(I:x<4294967296):Int.fdiv (x:Int) 4294967296=0:=by
 rw[Int.fdiv_eq_ediv_of_nonneg _ (by decide)]
 omega
theorem Wi{a b:Nat}{H:ab}(aF:a<65536)(af:b<65536):aZ prog 59 [.int .u64 a,.int .u64 b] H (fun u H1=>H1=H/\u= .tuple #[.int .u64 0,.int .u64 (a*b:Nat)]):=by
 refine aZ.cr fun Q aG=>?_
 apply Ua (by simp)
 obtain⟨p,aR⟩:∃p,p=a*b:=⟨_,rfl⟩
 have jd:p<4294967296:=by
  have:=Nat.mul_lt_mul'' aF af
  omega
 have SM:(a:Int)*(b:Int)=(p:Int):=by rw[aR];simp
 have dP:IntKind.wrap .u64 0=0:=by decide
 have wp:IntKind.wrap .u64 (p:Int)=p:=fR (by omega) (by omega)
 have fW:=Hq (show a<4294967296 by omega)
 have en:=Hq (show b<4294967296 by omega)
 have abL:Int.fdiv 0 4294967296=0:=by decide
 have Fw:yl 0 4294967295=0:=by decide
 simp[Gs,fW,en,EL (show a<4294967296 by omega),EL (show b<4294967296 by omega),SM,wp,dP,EL jd,abL,Fw,bj]
 exact aG _ _ ⟨rfl,by simp[aR]⟩
theorem Eh{a b:Nat}{H:ab}(aF:a<65536)(af:b<65536):aZ prog 35 [.int .u64 a,.int .u64 b] H (fun u H1=>H1=H/\u= .tuple #[.int .u64 0,.int .u64 (a*b:Nat)]):=by
 refine aZ.cr fun Q aG=>?_
 apply T_ (by simp)
 simp[Gr]
 refine a4.mk (Wi aF af) ?_
 rintro u H1 ⟨rfl,rfl⟩
 simp[bj]
 exact aG _ _ ⟨rfl,by simp⟩
theorem Fc{n:Nat}(h:n<65536):IntKind.u64.wrap (n:Int)=n:=fR (by omega) (by omega)
theorem um{n:Nat}(h:n<65536):IntKind.i64.wrap (n:Int)=n:=cP (by omega) (by omega)
theorem L_{α:Type}{ae:ab->Value->α->Prop}[bJ ae]{v:Value}{a:α}{n:Nat}{H:ab}(aS:Row 3 1 false ae H v [a])(aE:n<65536)
  (lk:∀H u y,ae H u y->Whole prog 3 u)(hG:∀H aC c_ u y,Kept H aC c_ 3->ae H u y->ae aC u y):
  aZ prog 16 [v,.int .i64 n] H (fun u H1=>Ext H H1/\bz H.length 3 1 false ae H1 u (List.replicate n a)):=by
 refine aZ.cr fun Q aG=>?_
 apply Vn (by simp)
 obtain⟨gY,cj,ao⟩:=aS.len
 subst ao
 have nE:=Fc aE
 have iJ:=um aE
 simp[Hc]
 refine bU.join (by kernel_rfl) (fun cT dJ bP=>bP=H) ?_ ?_
 ·rintro K a1-
  simp
  refine bG.cE (fun h=>by omega) (fun _=>?_)
  exact a1 _ _ _ rfl
 rintro cT dJ bP rfl
 simp
 refine cN (ae:=ae) (xs:=[a]) (by simpa using aS) (by simp) ?_
 have a7:IntKind.u64.wrap 1=((1:Nat):Int):=by decide
 simp[nE,a7]
 refine a4.mk (Eh (a:=1) (b:=n) (by omega) aE) ?_
 rintro u H1 ⟨rfl,rfl⟩
 simp
 refine bU.join (by kernel_rfl) (fun fS hl ca=>ca=H1) ?_ ?_
 ·rintro K a1-
  rw[k1]
  refine bU.join (by kernel_rfl) (fun fS hl ca=>ca=H1/\fS 26= .bool false) ?_ ?_
  ·rintro dW iZ-
   simp
   exact iZ _ _ _ ⟨rfl,by simp;omega⟩
  ·rintro fS hl ca ⟨rfl,nn⟩
   simp only[kt]at nn
   simp at nn
   simp[nn]
   exact a1 _ _ _ rfl
 rintro fS hl ca rfl
 simp[iJ]
 refine q_ (e:=3) (R:=1) (bs:=8) (ay:=false) (n:=n) (eg:= .i64) (cB:= .i64) (z:=(.int .i64 0)) (ae:=eN prog 3 ae) (a:=none) (by simp) (by simp) (by simp) (by rfl) (by first | rfl | simp[flat,gD]) (by simp) ⟨by rfl,by rfl,by simp[eB]⟩ (by simp) (by simp) (by decide) (by decide) (by omega) (fun aC=>⟨by rfl,by rfl,by simp[eB]⟩) ?_
 rintro av dU cV cD-
 simp
 refine q9 (e:=3) (R:=1) (ay:=false) (ae:=eN prog 3 ae) (xs:=List.replicate n none) (bI:=[some a]) (u:=av) (j:=0) (m:=n) (k:=ca.length) cV (by simpa using cV.sub) (by simp) (by simpa using bJ.ext aS.opt cD) (eN.iB fun u y=>lk _ u y) (eN.kept (hG _)) (by simp) (by simp) (by simp) (by decide) (by decide) ?_
 rintro cy g0 cz- - -
 rw[EE]at g0
 simp
 refine dx.mk (by kernel_rfl) (fun m aA bC H1=>∃q:Nat,m=n-q/\(0<q\/n=0)/\q<=n/\aA 8= .int .i64 (q:Int)/\aA 7=av/\bz ca.length 3 1 false (eN prog 3 ae) H1 av (List.replicate q (some a)++List.replicate (n-q) none)/\Ext ca H1) (n-min n 1) ⟨min n 1,rfl,by omega,by omega,by simp,by simp,g0,cz _ (Nat.le_refl _) cD⟩ ?_
 rintro m m4 oR eG ⟨q,rfl,zC,lU,dY,c8,e2,dh⟩ K a1
 simp at dY c8
 simp[dY,c8]
 refine cN (ae:=eN prog 3 ae) (xs:=List.replicate q (some a)++List.replicate (n-q) none) (by simpa[c8]using e2.row) (by simp) ?_
 simp
 obtain⟨xs,hd⟩:∃xs,xs=List.replicate q (some a)++List.replicate (n-q) (none:Option α):=⟨_,rfl⟩
 have j7:xs.length=n:=by rw[hd];simp;omega
 rw[<-hd]at e2
 refine bG.cE (fun a5=>?_) (fun jX=>?_)
 ·simp
  refine AU (e:=3) (R:=1) (ay:=false) (ae:=eN prog 3 ae) (xs:=xs) (l:=q) (h:=n) (k:=ca.length) (by simpa[c8]using e2) (by simp) (by simp) (by decide) (by simp[dN,dY]) (by simp[fl,j7]) (by omega) (by omega) ?_
  intro x2 bH kp
  simp at kp
  simp
  refine rb (e:=3) (R:=1) (ay:=false) (ae:=eN prog 3 ae) (xs:=xs) (l:=0) (h:=q) (by simpa[c8]using e2.row) (by simp) (by simp) (by decide) (by simp[dN,dY]) (by simp[fl,dY]) (by omega) (by omega) ?_
  intro pU bx
  have bh:(xs.drop 0).take (q-0)=List.replicate q (some a):=by rw[hd];simp
  rw[bh]at bx
  refine q9 (e:=3) (R:=1) (ay:=false) (ae:=eN prog 3 ae) (xs:=xs) (bI:=List.replicate q (some a)) (u:=av) (j:=q) (m:=n-q) (k:=ca.length) e2 (by simpa using kp) (by omega) (by simpa using bx) (eN.iB fun u y=>lk _ u y) (eN.kept (hG _)) (by simp) (by simp) (by simp) (by decide) (by decide) ?_
  rintro eE jS dj- - -
  rw[hd,EF a lU]at jS
  have hQ:=um (n:=q+min (n-q) q) (by omega)
  simp at hQ
  simp[dY,hQ]
  refine a1 (n-(q+min (n-q) q)) _ _ _ (by omega) ⟨q+min (n-q) q,rfl,by omega,by omega,by simp,by simp[c8],jS,dj _ (Nat.le_refl _) dh⟩
 ·have wN:q=n:=by omega
  rw[hd,ED a lU (by omega)]at e2
  simp[bj,c8]
  exact aG _ _ ⟨dh,e2.Fg⟩
theorem W7{α:Type}{ae:ab->Value->α->Prop}[bJ ae]{v:Value}{a:α}{n:Nat}{H:ab}(aS:Row 25 1 false ae H v [a])(aE:n<65536)
  (lk:∀H u y,ae H u y->Whole prog 25 u)(hG:∀H aC c_ u y,Kept H aC c_ 25->ae H u y->ae aC u y):
  aZ prog 36 [v,.int .i64 n] H (fun u H1=>Ext H H1/\bz H.length 25 1 false ae H1 u (List.replicate n a)):=by
 refine aZ.cr fun Q aG=>?_
 apply Vm (by simp)
 obtain⟨gY,cj,ao⟩:=aS.len
 subst ao
 have nE:=Fc aE
 have iJ:=um aE
 simp[Hb]
 refine bU.join (by kernel_rfl) (fun cT dJ bP=>bP=H) ?_ ?_
 ·rintro K a1-
  simp
  refine bG.cE (fun h=>by omega) (fun _=>?_)
  exact a1 _ _ _ rfl
 rintro cT dJ bP rfl
 simp
 refine cN (ae:=ae) (xs:=[a]) (by simpa using aS) (by simp) ?_
 have a7:IntKind.u64.wrap 1=((1:Nat):Int):=by decide
 simp[nE,a7]
 refine a4.mk (Eh (a:=1) (b:=n) (by omega) aE) ?_
 rintro u H1 ⟨rfl,rfl⟩
 simp
 refine bU.join (by kernel_rfl) (fun fS hl ca=>ca=H1) ?_ ?_
 ·rintro K a1-
  rw[k1]
  refine bU.join (by kernel_rfl) (fun fS hl ca=>ca=H1/\fS 26= .bool false) ?_ ?_
  ·rintro dW iZ-
   simp
   exact iZ _ _ _ ⟨rfl,by simp;omega⟩
  ·rintro fS hl ca ⟨rfl,nn⟩
   simp only[kt]at nn
   simp at nn
   simp[nn]
   exact a1 _ _ _ rfl
 rintro fS hl ca rfl
 simp[iJ]
 refine q_ (e:=25) (R:=1) (bs:=24) (ay:=false) (n:=n) (eg:= .i64) (cB:= .i64) (z:=(.slice none 0 0)) (ae:=eN prog 25 ae) (a:=none) (by simp) (by simp) (by simp) (by rfl) (by first | rfl | simp[flat,gD]) (by simp) ⟨by rfl,by rfl,by simp[eB]⟩ (by simp) (by simp) (by decide) (by decide) (by omega) (fun aC=>⟨by rfl,by rfl,by simp[eB]⟩) ?_
 rintro av dU cV cD-
 simp
 refine q9 (e:=25) (R:=1) (ay:=false) (ae:=eN prog 25 ae) (xs:=List.replicate n none) (bI:=[some a]) (u:=av) (j:=0) (m:=n) (k:=ca.length) cV (by simpa using cV.sub) (by simp) (by simpa using bJ.ext aS.opt cD) (eN.iB fun u y=>lk _ u y) (eN.kept (hG _)) (by simp) (by simp) (by simp) (by decide) (by decide) ?_
 rintro cy g0 cz- - -
 rw[EE]at g0
 simp
 refine dx.mk (by kernel_rfl) (fun m aA bC H1=>∃q:Nat,m=n-q/\(0<q\/n=0)/\q<=n/\aA 8= .int .i64 (q:Int)/\aA 7=av/\bz ca.length 25 1 false (eN prog 25 ae) H1 av (List.replicate q (some a)++List.replicate (n-q) none)/\Ext ca H1) (n-min n 1) ⟨min n 1,rfl,by omega,by omega,by simp,by simp,g0,cz _ (Nat.le_refl _) cD⟩ ?_
 rintro m m4 oR eG ⟨q,rfl,zC,lU,dY,c8,e2,dh⟩ K a1
 simp at dY c8
 simp[dY,c8]
 refine cN (ae:=eN prog 25 ae) (xs:=List.replicate q (some a)++List.replicate (n-q) none) (by simpa[c8]using e2.row) (by simp) ?_
 simp
 obtain⟨xs,hd⟩:∃xs,xs=List.replicate q (some a)++List.replicate (n-q) (none:Option α):=⟨_,rfl⟩
 have j7:xs.length=n:=by rw[hd];simp;omega
 rw[<-hd]at e2
 refine bG.cE (fun a5=>?_) (fun jX=>?_)
 ·simp
  refine AU (e:=25) (R:=1) (ay:=false) (ae:=eN prog 25 ae) (xs:=xs) (l:=q) (h:=n) (k:=ca.length) (by simpa[c8]using e2) (by simp) (by simp) (by decide) (by simp[dN,dY]) (by simp[fl,j7]) (by omega) (by omega) ?_
  intro x2 bH kp
  simp at kp
  simp
  refine rb (e:=25) (R:=1) (ay:=false) (ae:=eN prog 25 ae) (xs:=xs) (l:=0) (h:=q) (by simpa[c8]using e2.row) (by simp) (by simp) (by decide) (by simp[dN,dY]) (by simp[fl,dY]) (by omega) (by omega) ?_
  intro pU bx
  have bh:(xs.drop 0).take (q-0)=List.replicate q (some a):=by rw[hd];simp
  rw[bh]at bx
  refine q9 (e:=25) (R:=1) (ay:=false) (ae:=eN prog 25 ae) (xs:=xs) (bI:=List.replicate q (some a)) (u:=av) (j:=q) (m:=n-q) (k:=ca.length) e2 (by simpa using kp) (by omega) (by simpa using bx) (eN.iB fun u y=>lk _ u y) (eN.kept (hG _)) (by simp) (by simp) (by simp) (by decide) (by decide) ?_
  rintro eE jS dj- - -
  rw[hd,EF a lU]at jS
  have hQ:=um (n:=q+min (n-q) q) (by omega)
  simp at hQ
  simp[dY,hQ]
  refine a1 (n-(q+min (n-q) q)) _ _ _ (by omega) ⟨q+min (n-q) q,rfl,by omega,by omega,by simp,by simp[c8],jS,dj _ (Nat.le_refl _) dh⟩
 ·have wN:q=n:=by omega
  rw[hd,ED a lU (by omega)]at e2
  simp[bj,c8]
  exact aG _ _ ⟨dh,e2.Fg⟩
theorem W6{α:Type}{ae:ab->Value->α->Prop}[bJ ae]{v:Value}{a:α}{n:Nat}{H:ab}(aS:Row 44 4 true ae H v [a])(aE:n<65536)
  (lk:∀H u y,ae H u y->Whole prog 44 u)(hG:∀H aC c_ u y,Kept H aC c_ 44->ae H u y->ae aC u y):
  aZ prog 83 [v,.int .i64 n] H (fun u H1=>Ext H H1/\bz H.length 44 4 true ae H1 u (List.replicate n a)):=by
 refine aZ.cr fun Q aG=>?_
 apply Vo (by simp)
 obtain⟨gY,cj,ao⟩:=aS.len
 subst ao
 have nE:=Fc aE
 have iJ:=um aE
 simp[Hd]
 refine bU.join (by kernel_rfl) (fun cT dJ bP=>bP=H) ?_ ?_
 ·rintro K a1-
  simp
  refine bG.cE (fun h=>by omega) (fun _=>?_)
  exact a1 _ _ _ rfl
 rintro cT dJ bP rfl
 simp
 refine cN (ae:=ae) (xs:=[a]) (by simpa using aS) (by simp) ?_
 have a7:IntKind.u64.wrap 1=((1:Nat):Int):=by decide
 simp[nE,a7]
 refine a4.mk (Eh (a:=1) (b:=n) (by omega) aE) ?_
 rintro u H1 ⟨rfl,rfl⟩
 simp
 refine bU.join (by kernel_rfl) (fun fS hl ca=>ca=H1) ?_ ?_
 ·rintro K a1-
  rw[k1]
  refine bU.join (by kernel_rfl) (fun fS hl ca=>ca=H1/\fS 26= .bool false) ?_ ?_
  ·rintro dW iZ-
   simp
   exact iZ _ _ _ ⟨rfl,by simp;omega⟩
  ·rintro fS hl ca ⟨rfl,nn⟩
   simp only[kt]at nn
   simp at nn
   simp[nn]
   exact a1 _ _ _ rfl
 rintro fS hl ca rfl
 simp[iJ]
 refine q_ (e:=44) (R:=4) (bs:=64) (ay:=true) (n:=n) (eg:= .i64) (cB:= .i64) (z:=(.agg #[.bool false,.slice none 0 0,.bool false,.slice none 0 0])) (ae:=eN prog 44 ae) (a:=none) (by simp) (by simp) (by simp) (by rfl) (by first | rfl | simp[flat,gD]) (by simp) ⟨by rfl,by rfl,by simp[eB]⟩ (by simp) (by simp) (by decide) (by decide) (by omega) (fun aC=>⟨by rfl,by rfl,by simp[eB]⟩) ?_
 rintro av dU cV cD-
 simp
 refine q9 (e:=44) (R:=4) (ay:=true) (ae:=eN prog 44 ae) (xs:=List.replicate n none) (bI:=[some a]) (u:=av) (j:=0) (m:=n) (k:=ca.length) cV (by simpa using cV.sub) (by simp) (by simpa using bJ.ext aS.opt cD) (eN.iB fun u y=>lk _ u y) (eN.kept (hG _)) (by simp) (by simp) (by simp) (by decide) (by decide) ?_
 rintro cy g0 cz- - -
 rw[EE]at g0
 simp
 refine dx.mk (by kernel_rfl) (fun m aA bC H1=>∃q:Nat,m=n-q/\(0<q\/n=0)/\q<=n/\aA 8= .int .i64 (q:Int)/\aA 7=av/\bz ca.length 44 4 true (eN prog 44 ae) H1 av (List.replicate q (some a)++List.replicate (n-q) none)/\Ext ca H1) (n-min n 1) ⟨min n 1,rfl,by omega,by omega,by simp,by simp,g0,cz _ (Nat.le_refl _) cD⟩ ?_
 rintro m m4 oR eG ⟨q,rfl,zC,lU,dY,c8,e2,dh⟩ K a1
 simp at dY c8
 simp[dY,c8]
 refine cN (ae:=eN prog 44 ae) (xs:=List.replicate q (some a)++List.replicate (n-q) none) (by simpa[c8]using e2.row) (by simp) ?_
 simp
 obtain⟨xs,hd⟩:∃xs,xs=List.replicate q (some a)++List.replicate (n-q) (none:Option α):=⟨_,rfl⟩
 have j7:xs.length=n:=by rw[hd];simp;omega
 rw[<-hd]at e2
 refine bG.cE (fun a5=>?_) (fun jX=>?_)
 ·simp
  refine AU (e:=44) (R:=4) (ay:=true) (ae:=eN prog 44 ae) (xs:=xs) (l:=q) (h:=n) (k:=ca.length) (by simpa[c8]using e2) (by simp) (by simp) (by decide) (by simp[dN,dY]) (by simp[fl,j7]) (by omega) (by omega) ?_
  intro x2 bH kp
  simp at kp
  simp
  refine rb (e:=44) (R:=4) (ay:=true) (ae:=eN prog 44 ae) (xs:=xs) (l:=0) (h:=q) (by simpa[c8]using e2.row) (by simp) (by simp) (by decide) (by simp[dN,dY]) (by simp[fl,dY]) (by omega) (by omega) ?_
  intro pU bx
  have bh:(xs.drop 0).take (q-0)=List.replicate q (some a):=by rw[hd];simp
  rw[bh]at bx
  refine q9 (e:=44) (R:=4) (ay:=true) (ae:=eN prog 44 ae) (xs:=xs) (bI:=List.replicate q (some a)) (u:=av) (j:=q) (m:=n-q) (k:=ca.length) e2 (by simpa using kp) (by omega) (by simpa using bx) (eN.iB fun u y=>lk _ u y) (eN.kept (hG _)) (by simp) (by simp) (by simp) (by decide) (by decide) ?_
  rintro eE jS dj- - -
  rw[hd,EF a lU]at jS
  have hQ:=um (n:=q+min (n-q) q) (by omega)
  simp at hQ
  simp[dY,hQ]
  refine a1 (n-(q+min (n-q) q)) _ _ _ (by omega) ⟨q+min (n-q) q,rfl,by omega,by omega,by simp,by simp[c8],jS,dj _ (Nat.le_refl _) dh⟩
 ·have wN:q=n:=by omega
  rw[hd,ED a lU (by omega)]at e2
  simp[bj,c8]
  exact aG _ _ ⟨dh,e2.Fg⟩
def IR(H:ab)(v:Value)(z:Int):Prop:=v= .int .i64 z
def k3(H:ab)(v:Value)(b:Bool):Prop:=v= .bool b
instance:bJ IR:=⟨fun h _=>h⟩
instance:bJ k3:=⟨fun h _=>h⟩
theorem kd(n:Int):Whole prog 3 (.int .i64 n):=⟨by rfl,by rfl,by simp[eB]⟩
theorem A6(b:Bool):Whole prog 4 (.bool b):=⟨by rfl,by rfl,by simp[eB]⟩
theorem KS{v:Value}{t:List (List Rat)}{H:ab}(ba:ho H v t):aZ prog 43 [.agg #[v]] H (fun w H1=>Ext H H1/\w= .int .i64 t.length):=by
 refine aZ.cr fun Q aG=>?_
 apply U5 (by simp)
 obtain⟨a,cap,rfl⟩:=Row.len ba
 simp[Gf,bj]
 refine cN (ae:=iD) (xs:=t) (by simpa using bJ.ext ba (Ext.more H (by simp))) (by simp) ?_
 simp[bj]
 exact aG _ _ ⟨Ext.more H (by simp),rfl⟩
theorem Ee{v:Value}{t:List (List Rat)}{eb:List Rat}{H:ab}(ba:ho H v t)(aH:t[0]?=some eb):aZ prog 44 [.agg #[v]] H (fun w H1=>Ext H H1/\w= .int .i64 eb.length):=by
 refine aZ.cr fun Q aG=>?_
 apply U7 (by simp)
 obtain⟨a,cap,rfl⟩:=Row.len ba
 simp[Gg]
 refine cI (ae:=iD) (xs:=t) (n:=0) (a:=eb) (e:=84) (R:=1) (ay:=false) (by simpa using bJ.ext ba (Ext.more H (by simp))) (by simp) aH (by simp) (by simp) (by simp) (by decide) ?_
 intro Eo Fh ov
 refine cN (ae:=b3) (xs:=eb) (by simpa using ov) (by simp) ?_
 simp[bj]
 exact aG _ _ ⟨Ext.more H (by simp),rfl⟩
def ia(t:List (List Rat))(k:Nat):List Rat:=t.map fun r=>r[k]?.getD 0
def fw(m:Nat)(t:List (List Rat)):List (List Rat):=(List.range m).map (ia t)
def kc(m:Nat)(t:List (List Rat))(i j:Nat):List (List Rat):=(List.range m).map fun a=>if a<i then ia t a else if a=i then ia (t.take j) a else[]
theorem Yi(m:Nat)(t:List (List Rat)):kc m t 0 0=List.replicate m []:=by
 unfold kc
 apply List.ext_getElem?
 intro a
 simp[List.getElem?_replicate,List.getElem?_range]
 by_cases h:a<m
 ·simp[h,ia]
 ·simp[h]
theorem Ye{m:Nat}{t:List (List Rat)}{i j:Nat}(ad:i<m):(kc m t i j)[i]?=some (ia (t.take j) i):=by
 simp[kc,List.getElem?_range,ad]
theorem Yh{m:Nat}{t:List (List Rat)}{i j:Nat}{row:List Rat}(ad:i<m)(aj:t[j]?=some row):(kc m t i j).set i (ia (t.take j) i++[row[i]?.getD 0])=kc m t i (j+1):=by
 apply List.ext_getElem?
 intro a
 rw[List.getElem?_set]
 have aI:=(cc.1 aj)
 by_cases h:i=a
 ·subst h
  simp only[kc,List.length_map,List.length_range,ad,if_true,List.getElem?_map,List.getElem?_range ad]
  simp[ia,List.take_add_one,aj]
 ·rw[if_neg h]
  simp only[kc,List.getElem?_map]
  by_cases aF:a<m
  ·simp[List.getElem?_range aF,show¬a=i by omega]
  ·simp[aF]
theorem Yg(m:Nat)(t:List (List Rat))(i:Nat):kc m t i t.length=kc m t (i+1) 0:=by
 unfold kc
 apply List.map_congr_left
 intro a _
 by_cases o:a<i
 ·simp[o,show a<i+1 by omega]
 ·by_cases aa:a=i
  ·subst aa;simp
  ·simp[o,aa,show¬a<i+1 by omega,ia]
theorem Yd(m:Nat)(t:List (List Rat)):kc m t m 0=fw m t:=by
 unfold kc fw
 apply List.map_congr_left
 intro a aF
 simp at aF
 simp[aF]
theorem Yf(m:Nat)(t:List (List Rat))(i j:Nat):(kc m t i j).length=m:=by simp[kc]
theorem Fo(a:Option Addr)(n c:Nat):Whole prog 84 (.slice a n c):=⟨by rfl,by rfl,by simp[eB]⟩
theorem bz.iB{α:Type}{k e R:Nat}{ay:Bool}{ae:ab->Value->α->Prop}{H:ab}{v:Value}{xs:List α}(h:bz k e R ay ae H v xs):Whole prog 84 v:=by
 obtain⟨a,c,rfl⟩:=h.len
 exact Fo _ _ _
theorem E4{v:Value}{t:List (List Rat)}{m:Nat}{H:ab}(ba:ho H v t)(bu:0<t.length)(ar:t.length<65536)(hm:∀r∈t,r.length=m)(ua:m<65536):
  aZ prog 29 [.agg #[v]] H (fun u H1=>Ext H H1/\∃w,u= .agg #[w]/\ho H1 w (fw m t)):=by
 refine aZ.cr fun Q aG=>?_
 apply Vb (by simp)
 obtain⟨a,c,rfl⟩:=Row.len ba
 obtain⟨eb,eP⟩:∃eb,t[0]?=some eb:=⟨_,bt bu⟩
 have ot:=hm eb (List.mem_of_getElem? eP)
 simp[G8]
 have cn:Ext H (H++[.dead,.dead]):=Ext.more H (by simp)
 refine a4.mk (Ee (ba.ext cn) eP) ?_
 rintro u H1 ⟨bH,rfl⟩
 rw[ot]
 have h0:=ba.ext (cn.az bH)
 have Sj:0<H1.length:=by have:=Ext.len (cn.az bH);have:=Ext.len bH;simp at this;omega
 refine q_ (e:=84) (R:=1) (bs:=24) (ay:=false) (n:=m) (eg:= .i64) (cB:= .i64) (z:= .slice none 0 0) (ae:=fM) (a:= .slice none 0 0) (by simp) (by simp) (by simp) (by rfl) (by rfl) (by simp) (Fo _ _ _) (by simp) (by simp) (by decide) (by decide) (by omega) (fun aC=>rfl) ?_
 rintro w a0 hF bx-
 have v5:=dR.Lk (e:=44) (R:=4) (ay:=true) (ae:=b3) Sj hF
 simp
 refine cN (ae:=fM) (xs:=List.replicate m (.slice none 0 0)) (by simpa using hF.row) (by simp) ?_
 simp
 refine dx.range (by kernel_rfl) m (by omega) (by simp) (by rfl) (by simp) (by decide) (by decide) (fun i dQ fr bZ=>Ext H1 bZ/\∃us,dR H1.length 84 44 4 true b3 bZ w (kc m t i 0) us) ?_ ?_ ?_
 ·exact⟨bx,_,by rw[Yi];exact v5⟩
 ·rintro i dQ fr bZ ad a2 ⟨bL,us,gU⟩ K a1
  simp at a2
  simp[a2]
  refine cN (ae:=iD) (xs:=t) (by simpa using bJ.ext h0 bL) (by simp) ?_
  simp
  refine dx.range (by kernel_rfl) t.length (by omega) (by simp) (by rfl) (by simp) (by decide) (by decide) (fun j cT dJ bP=>Ext H1 bP/\∃us,dR H1.length 84 44 4 true b3 bP w (kc m t i j) us) ?_ ?_ ?_
  ·exact⟨bL,us,gU⟩
  ·rintro j cT dJ bP aI g9 ⟨b0,xZ,kl⟩ sZ jP
   simp at g9
   simp[g9]
   obtain⟨row,dr⟩:∃row,t[j]?=some row:=⟨_,bt aI⟩
   have sf:=hm row (List.mem_of_getElem? dr)
   obtain⟨q,au⟩:∃q,row[i]?=some q:=⟨_,bt (by omega)⟩
   refine cI (ae:=iD) (xs:=t) (n:=j) (a:=row) (e:=84) (R:=1) (ay:=false) (by simpa using bJ.ext h0 b0) (by simp[g9]) dr (by simp) (by simp) (by simp) (by decide) ?_
   intro gL Fh ov
   simp
   obtain⟨u,hu,yT⟩:=kl.oH (Ye ad)
   refine cI (ae:=fM) (xs:=xZ) (n:=i) (a:=u) (e:=84) (R:=1) (ay:=false) (by simpa using kl.own.row) (by simp) hu (by simp) (by simp) (by simp) (by decide) ?_
   rintro iP oL rfl
   simp
   refine cI (ae:=b3) (xs:=row) (n:=i) (a:=q) (e:=44) (R:=4) (ay:=true) (by simpa using ov) (by simp) au (by simp) (by simp) (by simp) (by decide) ?_
   intro nN x I
   refine AT (k:=H1.length) (e:=44) (R:=4) (ay:=true) (bs:=64) (z:= .agg #[.bool false,.slice none 0 0,.bool false,.slice none 0 0]) (ae:=b3) (xs:=ia (t.take j) i) (a:=q) (by simpa using yT) (by simpa using I) (by simpa using I.whole) (by simp) (fun aC c_ u y ah h=>h.kept ah (by decide)) (by simp) (by simp) (by simp) (by simp) (by simp) (by rfl) (by rfl) (by first | rfl | simp[flat,gD]) (by rfl) (by decide) (by decide) (by decide) (by simp[ia];omega) (by have:=Ext.len b0;omega) ?_
   intro oD u3 cy g0 cz kn qt r5
   simp at kn qt
   refine iR (k:=H1.length) (e:=84) (R:=1) (ay:=false) (n:=i) (ae:=fM) (xs:=xZ) (a:=u3) (by simpa using kl.own.other kn (by decide) fun _ _ h=>h) (by simp) (by have:=kl.len;rw[Yf]at this;omega) (by simp[fM]) (by simpa using g0.iB) (by simp) (fun _ _ _ _ _ h=>h) (by simp) (by simp) (by simp) (by decide) ?_
   rintro qX eG e2 dh tW zi-
   simp at e2 tW
   simp
   refine jP _ _ _ (by simp[g9]) ⟨dh _ (Nat.le_refl _) (cz _ (Nat.le_refl _) b0),xZ.set i u3,?_⟩
   have:=kl.put hu (by decide) kn qt g0 (fun u x h=>h.kept kn (by decide)) e2 tW (fun u x h=>h.kept tW (by decide))
   rw[show ia (t.take j) i++[q]=ia (t.take j) i++[row[i]?.getD 0] by rw[au];rfl,Yh ad dr]at this
   exact this
  ·rintro cT dJ bP g9 ⟨b0,xZ,kl⟩
   simp at g9
   simp[g9]
   refine a1 _ _ _ (by simp[a2]) ⟨b0,xZ,?_⟩
   rw[<-Yg]
   exact kl
 ·rintro dQ fr bZ a2 ⟨bL,us,gU⟩
  have dr:=gU.row
  rw[Yd]at dr
  obtain⟨acu,ac9,rfl⟩:=gU.own.len
  simp[bj]
  exact aG _ _ ⟨cn.az (bH.az bL),_,rfl,dr⟩
abbrev c7(H:ab)(v:Value)(l:List Int):Prop:=Row 3 1 false IR H v l
abbrev eL(H:ab)(v:Value)(t:List (List Int)):Prop:=Row 25 1 false c7 H v t
instance:bJ c7:=⟨fun h I=>bJ.ext (ae:=Row 3 1 false IR) h I⟩
instance:bJ eL:=⟨fun h I=>bJ.ext (ae:=Row 25 1 false c7) h I⟩
theorem kf.row{H:ab}{v:Value}{l:List Int}(h:kf H v l):c7 H v l:=⟨_,h,fun i x ad=>by
 show dZ false 1 _ i= .int .i64 x
 unfold dZ
 simp[ad]⟩
theorem Row.is{H:ab}{v:Value}{l:List Int}(h:c7 H v l):kf H v l:=by
 obtain⟨cs,o,aa⟩:=h
 have ar:cs.length=l.length:=by obtain⟨_,_,_,_,q,_⟩:=o;omega
 have:cs=l.map (Value.int .i64):=by
  apply List.ext_getElem?
  intro i
  rw[List.getElem?_map]
  by_cases ad:i<l.length
  ·have:=aa i _ (bt ad)
   rw[bt ad,bt (by omega)]
   unfold IR dZ at this
   simp[bt (show i<cs.length by omega)]at this
   simp[this]
  ·rw[List.getElem?_eq_none (by omega),List.getElem?_eq_none (by omega)]
   rfl
 unfold kf
 rw[<-this]
 exact o
theorem Row.xe{H:ab}{v:Value}{t:List (List Int)}(h:eL H v t):jI H v t:=by
 obtain⟨cs,o,aa⟩:=h
 have ar:cs.length=t.length:=by obtain⟨_,_,_,_,q,_⟩:=o;omega
 refine⟨cs,o,ar,fun i ad=>?_⟩
 have:=aa i _ (bt ad)
 rw[bt ad]
 unfold dZ at this
 simp only[Bool.false_eq_true,if_false]at this
 exact this.is
theorem jI.row{H:ab}{v:Value}{t:List (List Int)}(h:jI H v t):eL H v t:=by
 obtain⟨aB,o,aa,aD⟩:=h
 refine⟨aB,o,fun i r ad=>?_⟩
 have cW:=(cc.1 ad).1
 have:=aD i cW
 rw[ad]at this
 unfold dZ
 simp only[Bool.false_eq_true,if_false]
 exact this.row
def cd(t:List (List Int)):List (List Rat):=t.map fun r=>r.map fun x=>((x:Int):Rat)
theorem L6{v:Value}{t:List (List Int)}{H:ab}(ba:eL H v t)(ar:t.length<65536)(aj:∀r∈t,r.length<65536)(af:∀r∈t,∀x∈r,-9223372036854775808<=x/\x<9223372036854775808):
  aZ prog 18 [v] H (fun w H1=>Ext H H1/\∃a c us,w= .agg #[.slice a t.length c]/\dR (H.length+1) 84 44 4 true b3 H1 (.slice a t.length c) (cd t) us):=by
 refine aZ.cr fun Q aG=>?_
 apply U3 (by simp)
 obtain⟨a,cap,rfl⟩:=Row.len ba
 simp[G1]
 have cn:Ext H (H++[.dead]):=Ext.dead H
 refine cN (ae:=c7) (xs:=t) (by simpa using bJ.ext (ae:=eL) ba cn) (by simp) ?_
 simp
 refine dx.range (by kernel_rfl) t.length (by omega) (by simp) (by rfl) (by simp) (by decide) (by decide) (fun i bV dz a0=>Ext (H++[.dead]) a0/\∃us,dR (H.length+1) 84 44 4 true b3 a0 (bV 3) (cd (t.take i)) us) ?_ ?_ ?_
 ·exact⟨Ext.refl _,[],by simpa[cd]using dR.nil _ _ _ _ _ _ _ (by omega)⟩
 ·rintro i bV dz a0 ad iH ⟨bx,us,gU⟩ K a1
  simp at iH gU
  refine Exists.elim (⟨_,bt ad⟩:∃row,t[i]?=some row) fun row dr=>?_
  have gh:=List.mem_of_getElem? dr
  have j5:=aj row gh
  have jZ:=Ext.len bx
  simp at jZ
  simp[iH]
  refine cI (ae:=c7) (xs:=t) (n:=i) (a:=row) (e:=25) (R:=1) (ay:=false) (by simpa using bJ.ext (ae:=eL) ba (cn.az bx)) (by simp[iH]) dr (by simp) (by simp) (by simp) (by decide) ?_
  intro fQ oK jy
  simp
  refine cN (ae:=IR) (xs:=row) (by simpa using jy) (by simp) ?_
  simp
  refine dx.range (by kernel_rfl) row.length (by omega) (by simp) (by rfl) (by simp) (by decide) (by decide) (fun j cT dJ bP=>Ext a0 bP/\bz a0.length 44 4 true b3 bP (cT 6) ((row.take j).map fun x=>((x:Int):Rat))) ?_ ?_ ?_
  ·exact⟨Ext.refl _,by simpa using bz.nil _ _ _ _ _ _⟩
  ·rintro j cT dJ bP aI g9 ⟨b0,hZ⟩ sZ jP
   simp at g9 hZ
   refine Exists.elim (⟨_,bt aI⟩:∃x,row[j]?=some x) fun x I=>?_
   have DU:=af row gh x (List.mem_of_getElem? I)
   have tY:=Ext.len b0
   simp[g9]
   refine cI (ae:=IR) (xs:=row) (n:=j) (a:=x) (e:=3) (R:=1) (ay:=false) (by simpa using bJ.ext (ae:=Row _ _ _ IR) jy b0) (by simp[g9]) I (by simp) (by simp) (by simp) (by decide) ?_
   rintro iP oL rfl
   simp
   refine a4.mk (xB DU.1 DU.2) ?_
   rintro w ca ⟨c1,hw⟩
   refine ra (k:=a0.length) (e:=44) (R:=4) (ay:=true) (bs:=64) (z:= .agg #[.bool false,.slice none 0 0,.bool false,.slice none 0 0]) (ae:=b3) (xs:=(row.take j).map fun x=>((x:Int):Rat)) (a:=(x:Rat)) (by simpa using bJ.ext (ae:=bz _ _ _ _ b3) hZ c1) (by simpa using hw) (by simpa using hw.whole) (by simp) (fun aC c_ u y ah h=>h.kept ah (by decide)) (by simp) (by simp) (by simp) (by simp) (by simp) (by rfl) (by rfl) (by first | rfl | simp[flat,gD]) (by rfl) (by decide) (by decide) (by decide) (by simp;omega) (by have:=Ext.len c1;omega) ?_
   intro nN v6 dU o8 cD tV
   try simp
   refine jP _ _ _ (by simp[g9]) ⟨cD _ (Nat.le_refl _) (b0.az c1),?_⟩
   rw[List.take_add_one,I,List.map_append]
   simpa using o8
  ·rintro cT dJ bP g9 ⟨b0,hZ⟩
   simp at hZ
   have kl:=dR.ext gU b0
   have tY:=Ext.len b0
   have ss:=hZ.iB
   have jz:=gU.len
   simp[cd]at jz
   try simp
   refine AT (k:=H.length+1) (e:=84) (R:=1) (ay:=false) (bs:=24) (z:= .slice none 0 0) (ae:=fM) (xs:=us) (a:=cT 6) (by simpa using kl.own) (by simp[fM]) (by simpa using ss) (by simp) (fun _ _ _ _ _ h=>h) (by simp) (by simp) (by simp) (by simp) (by simp) (by rfl) (by rfl) (by rfl) (by rfl) (by decide) (by decide) (by decide) (by omega) (by omega) ?_
   intro oD u3 cy g0 cz kn qt r5
   simp at kn qt
   have qG:=dR.snoc (cx:=a0) (nM:=a0.length) kl (fun b aH af=>(hZ.ge af aH).1) (fun j u b hu af aH=>gU.lt j u b hu af aH) (by decide) (hZ.le (by omega)) g0 kn (fun u x h=>h.kept kn (by decide))
   try simp
   refine a1 _ _ _ (by simp[iH]) ⟨cz _ (by simp) (bx.az b0),us++[cT 6],?_⟩
   rw[List.take_add_one,dr]
   simpa[cd]using qG
 ·rintro bV dz a0 iH ⟨bx,us,gU⟩
  simp at gU
  obtain⟨dS,lc,pg⟩:=gU.own.len
  have jz:=gU.len
  simp[cd]at jz
  rw[pg,jz]at gU
  simp[pg,jz,bj]
  exact aG _ _ ⟨cn.az bx,dS,lc,us,rfl,gU⟩
theorem uK{v:Value}{t:List (List Int)}{H:ab}(ba:eL H v t)(ar:t.length<65536)(aj:∀r∈t,r.length<65536)(af:∀r∈t,∀x∈r,-9223372036854775808<=x/\x<9223372036854775808):
  aZ prog 18 [v] H (fun w H1=>Ext H H1/\∃a c,w= .agg #[.slice a t.length c]/\ho H1 (.slice a t.length c) (cd t)):=
 (L6 ba ar aj af).mono fun w H1 ⟨I,a,c,us,hw,cV⟩=>⟨I,a,c,hw,cV.row⟩
def s5(N:Nat)(t:List (List Rat)):Prop:=∀r∈t,(∀k,c4 N (er (r.take k)))/\∀q∈r,c4 N q
theorem s5.sum{N:Nat}{t:List (List Rat)}(h:s5 N t){r:List Rat}(aj:r∈t):c4 N (er r):=by
 have:=(h r aj).1 r.length
 rwa[List.take_length]at this
def dT(t:List (List Rat))(i:Nat):Rat:=er (t[i]?.getD [])
def dy(f:Nat->Rat):Nat->Rat×Nat
 | 0=>(f 0,0)
 | n+1=>if(dy f n).1<f n then(f n,n)else dy f n
theorem xo(f:Nat->Rat)(n:Nat):(dy f n).1=f (dy f n).2/\((dy f n).2<n\/(dy f n).2=0):=by
 induction n with
 | zero=>simp[dy]
 | succ n aW=>
  simp only[dy]
  split
  ·exact⟨rfl,.inl (Nat.lt_succ_self n)⟩
  ·exact⟨aW.1,by omega⟩
theorem Aa(f:Nat->Rat){n i:Nat}(ad:i<n):f i<=(dy f n).1:=by
 induction n with
 | zero=>omega
 | succ n aW=>
  simp only[dy]
  by_cases eX:i=n
  ·subst eX
   split
   ·exact Rat.le_refl
   ·rename_i h;exact Rat.not_lt.1 h
  ·have:=aW (by omega)
   split
   ·rename_i h;exact Rat.le_trans this (Rat.le_of_lt h)
   ·exact this
theorem We(f:Nat->Rat){n i:Nat}(ad:i<(dy f n).2):f i<(dy f n).1:=by
 induction n with
 | zero=>simp[dy]at ad
 | succ n aW=>
  simp only[dy]at ad⊢
  split at ad
  ·rename_i h
   rw[if_pos h]
   exact Std.lt_of_le_of_lt (Aa f ad) h
  ·rename_i h
   rw[if_neg h]
   exact aW ad
theorem uS{t:List (List Rat)}{i:Nat}(ad:i<t.length):∃r,t[i]?=some r/\r∈t/\dT t i=er r:=
 ⟨_,bt ad,List.getElem_mem ad,by simp[dT,bt ad]⟩
theorem xp{N:Nat}{t:List (List Rat)}(aP:s5 N t)(bu:0<t.length){n:Nat}(aE:n<=t.length):c4 N (dy (dT t) n).1:=by
 obtain⟨o,aa⟩:=xo (dT t) n
 rw[o]
 obtain⟨r,-,aQ,bn⟩:=uS (t:=t) (i:=(dy (dT t) n).2) (by omega)
 rw[bn]
 exact aP.sum aQ
theorem Ac{v:Value}{t:List (List Rat)}{N:Nat}{H:ab}(ba:ho H v t)(bu:0<t.length)(ar:t.length<65536)(j5:∀r∈t,r.length<65536)(aP:s5 N t)(cm:N<=1000000):
  aZ prog 41 [.agg #[v]] H (fun u H1=>Ext H H1/\∃w,u= .tuple #[w,.int .i64 ((dy (dT t) t.length).2:Nat)]/\b3 H1 w (dy (dT t) t.length).1):=by
 refine aZ.cr fun Q aG=>?_
 apply U8 (by simp)
 obtain⟨a,c,rfl⟩:=Row.len ba
 simp[G4]
 have cn:Ext H (H++[.dead,.dead]):=Ext.more H (by simp)
 obtain⟨eb,eP,ot,wP⟩:=uS bu
 refine a4.mk (pF (j:=0) (ba.ext cn) eP (by have:=j5 eb ot;omega) (by omega) (aP eb ot).1 (aP eb ot).2 cm) ?_
 rintro uO H1 ⟨bH,mF⟩
 simp
 refine ew.mk mF.whole ?_
 simp
 have bx:Ext H1 (H1++[.dead]):=Ext.dead H1
 have mL:=cn.az (bH.az bx)
 refine a4.mk (KS (ba.ext mL)) ?_
 rintro u bZ ⟨bL,rfl⟩
 have iI:=ba.ext (mL.az bL)
 simp
 refine dx.range (by kernel_rfl) t.length (by omega) (by simp) (by rfl) (by simp) (by decide) (by decide) (fun i dQ fr bP=>Ext bZ bP/\b3 bP (fr 4) (dy (dT t) i).1/\dQ 5= .int .i64 ((dy (dT t) i).2:Nat)) ?_ ?_ ?_
 ·refine⟨Ext.refl _,?_,by simp[dy]⟩
  simp only[dy,wP]
  simpa using mF.ext (bx.az bL)
 ·rintro i dQ fr bP ad a2 ⟨b0,hm,b2⟩ K a1
  simp at a2 hm b2
  obtain⟨b,af⟩:∃b,(dy (dT t) i).1=b:=⟨_,rfl⟩
  obtain⟨iB,Ks⟩:∃iB,(dy (dT t) i).2=iB:=⟨_,rfl⟩
  have tL:c4 N b:=by rw[<-af];exact xp aP bu (by omega)
  rw[af]at hm
  rw[Ks]at b2
  obtain⟨r,aj,sf,sg⟩:=uS ad
  refine bU.join (by kernel_rfl) (fun fS hl ca=>Ext bP ca/\b3 ca (hl 4) (dy (dT t) (i+1)).1/\fS 5= .int .i64 ((dy (dT t) (i+1)).2:Nat)) ?_ ?_
  ·rintro dW iZ-
   simp[a2,b2]
   refine a4.mk (pF (j:=i) (iI.ext b0) aj (by have:=j5 r sf;omega) (by omega) (aP r sf).1 (aP r sf).2 cm) ?_
   rintro s1 ca ⟨c1,fA⟩
   simp
   refine ew.mk fA.whole ?_
   simp
   have cD:Ext ca (ca++[.dead]):=Ext.dead ca
   have py:=c1.az cD
   refine a4.mk (uH (fA.ext cD) (hm.ext py) (aP.sum sf) tL cm) ?_
   rintro gS cy ⟨cz,rfl⟩
   simp
   refine bG.cE (fun ag=>?_) (fun ag=>?_)
   ·have a5:b<er r:=by
     by_cases o:er r<b
     ·rw[if_pos o]at ag;omega
     ·rw[if_neg o]at ag
      by_cases aa:er r=b
      ·rw[if_pos aa]at ag;omega
      ·exact Std.lt_of_le_of_ne (Rat.not_lt.1 o) (Ne.symm aa)
    simp
    refine ew.mk fA.whole ?_
    simp
    refine iZ _ _ _ ⟨py.az cz,?_,?_⟩
    ·simp only[dy,af,sg,if_pos a5]
     simpa using fA.ext (cD.az cz)
    ·simp[dy,af,sg,if_pos a5]
   ·have a5:¬b<er r:=by
     intro a5
     rw[if_neg (fun h=>Rat.lt_irrefl (Std.lt_trans h a5)),if_neg (fun h=>Rat.lt_irrefl (h▸a5))]at ag
     omega
    refine iZ _ _ _ ⟨py.az cz,?_,?_⟩
    ·simp only[dy,af,sg,if_neg a5]
     simpa using hm.ext (py.az cz)
    ·simp[dy,af,sg,if_neg a5,Ks,b2]
  ·rintro fS hl ca ⟨c1,o,aa⟩
   exact a1 _ _ _ (by simp[a2]) ⟨b0.az c1,by simpa using o,by simpa using aa⟩
 ·rintro dQ fr bP a2 ⟨b0,hm,b2⟩
  simp at hm b2
  simp[b2]
  refine ew.mk hm.whole ?_
  simp[bj,b2]
  exact aG _ _ ⟨mL.az (bL.az b0),_,rfl,hm⟩
def ef(m:Nat)(t:List (List Int)):List (List Int):=(List.range m).map fun k=>t.map fun r=>r[k]?.getD 0
theorem As{m:Nat}{t:List (List Int)}:fw m (cd t)=cd (ef m t):=by
 unfold fw cd ef
 rw[List.map_map]
 apply List.map_congr_left
 intro k _
 unfold ia
 simp
 intro r _
 cases r[k]?<;>simp
theorem WY(r:List Int)(a:Int):(r.map fun x=>((x:Int):Rat)).foldl (·+·) ((a:Int):Rat)=((a+r.sum:Int):Rat):=by
 induction r generalizing a with
 | nil=>simp
 | cons x r aW=>
  simp only[List.map_cons,List.foldl_cons,List.sum_cons]
  rw[<-Rat.intCast_add,aW]
  congr 1
  omega
theorem LZ(r:List Int):er (r.map fun x=>((x:Int):Rat))=((r.sum:Int):Rat):=by
 have:=WY r 0
 simpa[er]using this
theorem X1{r:List Int}{B:Int}(h:∀x∈r,0<=x/\x<=B):0<=r.sum/\r.sum<=B*r.length:=by
 induction r with
 | nil=>simp
 | cons x r aW=>
  have o:=h x (by simp)
  have aa:=aW fun y aL=>h y (by simp[aL])
  simp only[List.sum_cons,List.length_cons]
  rw[Int.natCast_add,Int.mul_add]
  simp
  omega
def iU(t:List (List Int)):Prop:=∀r∈t,r.length<=1000/\∀x∈r,0<=x/\x<=1000000
theorem iU.sum{r:List Int}(o:r.length<=1000)(aa:∀x∈r,0<=x/\x<=1000000):0<=r.sum/\r.sum<=1000000000:=by
 have:=X1 aa
 omega
theorem iU.gN{t:List (List Int)}(h:iU t):s5 64 (cd t):=by
 intro r aj
 unfold cd at aj
 rw[List.mem_map]at aj
 obtain⟨di,fo,rfl⟩:=aj
 obtain⟨o,aa⟩:=h di fo
 refine⟨fun k=>?_,fun q au=>?_⟩
 ·rw[<-List.map_take,LZ]
  have:=iU.sum (r:=di.take k) (by simp;omega) fun x I=>aa x (List.mem_of_mem_take I)
  exact c4.int (by omega) (by decide)
 ·rw[List.mem_map]at au
  obtain⟨x,I,rfl⟩:=au
  have:=aa x I
  exact c4.int (by omega) (by decide)
theorem iU.fw{m:Nat}{t:List (List Int)}(h:iU t)(ar:t.length<=1000):iU (ef m t):=by
 intro r aj
 unfold ef at aj
 rw[List.mem_map]at aj
 obtain⟨k,-,rfl⟩:=aj
 refine⟨by simpa using ar,fun x I=>?_⟩
 rw[List.mem_map]at I
 obtain⟨di,fo,rfl⟩:=I
 cases ah:di[k]? with
 | none=>simp
 | some y=>exact(h di fo).2 y (List.mem_of_getElem? ah)
theorem fT.small{t:List (List Int)}(h:fT t):iU t:=by
 intro r aj
 obtain⟨o,aa,aD,bD,b2⟩:=h
 have:=b2 r aj
 unfold lb at this
 simp at this
 refine⟨by omega,fun x I=>?_⟩
 have:=this.2 x I
 omega
theorem fT.len{t:List (List Int)}(h:fT t):∀r∈t,r.length=(t[0]?.getD []).length:=by
 intro r aj
 obtain⟨o,aa,aD,bD,b2⟩:=h
 have:=b2 r aj
 unfold lb at this
 simp at this
 simpa using this.1
def jn(t:List (List Int)):Int×Int×Nat:=
 let m:=(t[0]?.getD []).length
 let j:=dy (dT (cd t)) t.length
 let k:=dy (dT (cd (ef m t))) m
 if j.1<k.1 then(k.1.num,1,k.2)else(j.1.num,0,j.2)
theorem q2{t:List (List Int)}{i:Nat}:dT (cd t) i=(((t[i]?.getD []).sum:Int):Rat):=by
 unfold dT cd
 rw[List.getElem?_map]
 cases t[i]? with
 | none=>simp[er]
 | some r=>simp only[Option.map_some,Option.getD_some];exact LZ r
theorem Ab{t:List (List Int)}(h:iU t)(n:Nat):(dy (dT (cd t)) n).1.num.natAbs<=1000000000:=by
 rw[(xo _ n).1,q2,Rat.num_intCast]
 cases aj:t[(dy (dT (cd t)) n).2]? with
 | none=>simp
 | some r=>
  have:=h r (List.mem_of_getElem? aj)
  have:=iU.sum this.1 this.2
  simp only[Option.getD_some]
  omega
theorem HF{a b:Rat}(ag:(0:Int)<if a<b then-1 else if a=b then 0 else 1):b<a:=by
 by_cases o:a<b
 ·rw[if_pos o]at ag;omega
 ·rw[if_neg o]at ag
  by_cases aa:a=b
  ·rw[if_pos aa]at ag;omega
  ·exact Std.lt_of_le_of_ne (Rat.not_lt.1 o) (Ne.symm aa)
theorem HH{a b:Rat}(ag:¬(0:Int)<if a<b then-1 else if a=b then 0 else 1):¬b<a:=by
 intro a5
 rw[if_neg (fun h=>Rat.lt_irrefl (Std.lt_trans h a5)),if_neg (fun h=>Rat.lt_irrefl (h▸a5))]at ag
 omega
theorem EO{v:Value}{a:Int}{H:ab}(bQ:c5 H v a)(aH:a.natAbs<=1000000000):aZ prog 27 [v] H (fun u H1=>Ext H H1/\u= .tuple #[.int .i64 a,.bool true]):=XL bQ (by omega)
theorem N9{v:Value}{t:List (List Int)}{H:ab}(ba:jI H v t)(ar:t.length<65536)(aj:∀r∈t,r.length<65536):
  aZ prog 22 [v] H (fun u H1=>Ext H H1/\(fT t->u= .tuple #[.int .i64 (jn t).1,.int .i64 (jn t).2.1,.int .i64 (jn t).2.2,.int .i64 0])/\(¬fT t->u= .tuple #[.int .i64 0,.int .i64 0,.int .i64 0,.int .i64 1])):=by
 refine aZ.cr fun Q aG=>?_
 obtain⟨m,hm⟩:∃m,m=(t[0]?.getD []).length:=⟨_,rfl⟩
 apply UU (by simp)
 simp[GS]
 refine a4.mk (A4 ba (by omega) fun r h=>by have:=aj r h;omega) ?_
 rintro u H1 ⟨bH,rfl⟩
 simp
 refine bG.mk (fun ao=>?good) (fun ao=>?bad)
 case bad=>
  simp at ao
  simp[bj]
  exact aG _ _ ⟨bH,fun h=>absurd h ao,fun _=>rfl⟩
 simp at ao
 have an:=ao.small
 have fm:=ao.len
 have v1:=ao.1
 have v2:=ao.2.1
 have pS:=ao.2.2.1
 have v4:=ao.2.2.2.1
 rw[<-hm]at fm pS v4
 simp
 refine a4.mk (uK (ba.ext bH).row (by omega) aj fun r h x I=>by have:=(an r h).2 x I;omega) ?_
 rintro _ a0 ⟨bx,vq,vy,rfl,kP⟩
 simp
 have bL:Ext a0 (a0++[.dead]):=Ext.dead a0
 have wO:∀r∈cd t,r.length=m:=fun r h=>by
  unfold cd at h
  rw[List.mem_map]at h
  obtain⟨di,b5,rfl⟩:=h
  simpa using fm di b5
 refine a4.mk (Ac (N:=64) (kP.ext bL) (by simp[cd];omega) (by simp[cd];omega) (fun r h=>by have:=wO r h;omega) an.gN (by decide)) ?_
 rintro u bP ⟨b0,w,rfl,hw⟩
 have qJ:=hw.whole
 simp
 refine ew.mk hw.whole ?_
 simp
 have c1:Ext bP (bP++[.dead]):=Ext.dead bP
 have ui:=bL.az (b0.az c1)
 refine a4.mk (E4 (m:=m) (kP.ext ui) (by simp[cd];omega) (by simp[cd];omega) wO (by omega)) ?_
 rintro u dU ⟨cD,h6,rfl,zS⟩
 rw[As]at zS
 have cS:=an.fw (m:=m) (by omega)
 simp
 refine a4.mk (Ac (N:=64) zS (by simp[cd,ef];omega) (by simp[cd,ef];omega) (fun r h=>by
  unfold cd ef at h
  simp at h
  obtain⟨k,-,rfl⟩:=h
  simp;omega) cS.gN (by decide)) ?_
 rintro u cy ⟨cz,cf,rfl,ox⟩
 simp
 refine ew.mk ox.whole ?_
 simp
 have dh:Ext cy (cy++[.dead]):=Ext.dead cy
 have fP:(cd t).length=t.length:=by simp[cd]
 have ja:(cd (ef m t)).length=m:=by simp[cd,ef]
 have zX:=c1.az (cD.az (cz.az dh))
 have pe:=Ab an t.length
 have R6:=Ab cS m
 rw[fP]at hw
 rw[ja]at ox
 have XI:=xp an.gN (t:=cd t) (n:=t.length) (by simp[cd];omega) (by simp[cd])
 have lA:=xp cS.gN (t:=cd (ef m t)) (n:=m) (by simp[cd,ef];omega) (by simp[cd,ef])
 have bR:jn t=if(dy (dT (cd t)) t.length).1<(dy (dT (cd (ef m t))) m).1 then((dy (dT (cd (ef m t))) m).1.num,1,(dy (dT (cd (ef m t))) m).2)else((dy (dT (cd t)) t.length).1.num,0,(dy (dT (cd t)) t.length).2):=by
  unfold jn
  rw[<-hm]
 rw[fP,ja]
 refine a4.mk (uH (N:=64) (ox.ext dh) (hw.ext zX) lA XI (by decide)) ?_
 rintro u eE ⟨dj,rfl⟩
 simp
 refine bG.cE (fun ag=>?_) (fun ag=>?_)
 ·have a5:=HF ag
  rw[if_pos a5]at bR
  simp
  refine a4.mk (En (ox.ext (dh.az dj))) ?_
  rintro z mg ⟨fI,aP⟩
  simp
  refine a4.mk (EO aP R6) ?_
  rintro z hM ⟨fB,rfl⟩
  simp[bj]
  exact aG _ _ ⟨bH.az (bx.az (bL.az (b0.az (zX.az (dj.az (fI.az fB)))))),fun _=>by rw[bR],fun h=>absurd ao h⟩
 ·have a5:=HH ag
  rw[if_neg a5]at bR
  simp
  refine a4.mk (En (hw.ext (zX.az dj))) ?_
  rintro z mg ⟨fI,aP⟩
  simp
  refine a4.mk (EO aP pe) ?_
  rintro z hM ⟨fB,rfl⟩
  simp[bj]
  exact aG _ _ ⟨bH.az (bx.az (bL.az (b0.az (zX.az (dj.az (fI.az fB)))))),fun _=>by rw[bR],fun h=>absurd ao h⟩
end Go.b_
end
section
namespace Go.b_
def bw:Nat->(Nat->Rat)->Rat
 | 0,_=>0
 | n+1,f=>bw n f+f n
theorem fK{n:Nat}{f g:Nat->Rat}(h:∀i,i<n->f i=g i):bw n f=bw n g:=by
 induction n with
 | zero=>rfl
 | succ n aW=>simp only[bw];rw[aW fun i ad=>h i (by omega),h n (by omega)]
theorem Mw(n:Nat)(f g:Nat->Rat):bw n (fun i=>f i+g i)=bw n f+bw n g:=by
 induction n with
 | zero=>simp only[bw];grind
 | succ n aW=>simp only[bw];rw[aW];grind
theorem uR(n:Nat):bw n (fun _=>0)=0:=by
 induction n with
 | zero=>rfl
 | succ n aW=>simp only[bw];rw[aW];grind
theorem ET(n:Nat)(f:Nat->Rat)(c:Rat):bw n (fun i=>c*f i)=c*bw n f:=by
 induction n with
 | zero=>simp[bw]
 | succ n aW=>simp only[bw];rw[aW];grind
theorem ER{n:Nat}{f g:Nat->Rat}(h:∀i,i<n->f i<=g i):bw n f<=bw n g:=by
 induction n with
 | zero=>simp only[bw];grind
 | succ n aW=>simp only[bw];have:=aW fun i ad=>h i (by omega);have:=h n (by omega);grind
theorem EU{n:Nat}{f:Nat->Rat}(h:∀i,i<n->0<=f i):0<=bw n f:=by
 have:=ER (n:=n) (f:=fun _=>0) (g:=f) h
 rw[uR]at this;exact this
theorem EW(n m:Nat)(f:Nat->Nat->Rat):bw n (fun i=>bw m (f i))=bw m (fun k=>bw n (fun i=>f i k)):=by
 induction n with
 | zero=>simp[bw,uR]
 | succ n aW=>simp only[bw];rw[aW,<-Mw]
theorem EV(n m:Nat)(f:Nat->Rat):bw (n+m) f=bw n f+bw m (fun i=>f (n+i)):=by
 induction m with
 | zero=>simp only[bw,Nat.add_zero];grind
 | succ m aW=>rw[<-Nat.add_assoc];simp only[bw];rw[aW];grind
theorem sG{n:Nat}(j:Nat)(f:Nat->Rat):bw n (fun i=>if i=j then f i else 0)=if j<n then f j else 0:=by
 induction n with
 | zero=>simp[bw]
 | succ n aW=>
  simp only[bw];rw[aW]
  by_cases o:n=j
  ·subst o;simp;grind
  ·by_cases aa:j<n
   ·simp[o,aa,show j<n+1 by omega];grind
   ·simp[o,aa,show¬j<n+1 by omega];grind
theorem ES{n j:Nat}{f:Nat->Rat}(h:∀i,i<n->0<=f i)(aI:j<n):f j<=bw n f:=by
 induction n with
 | zero=>omega
 | succ n aW=>
  simp only[bw]
  have aH:=EU (n:=n) (f:=f) fun i ad=>h i (by omega)
  have o:=h n (by omega)
  by_cases nC:j=n
  ·subst nC;grind
  ·have:=aW (fun i ad=>h i (by omega)) (by omega);grind
def lI(n:Nat)(p:Nat->Bool):Nat:=((List.range n).filter p).length
theorem Ok(n:Nat)(p:Nat->Bool):lI (n+1) p=lI n p+if p n=true then 1 else 0:=by
 unfold lI
 rw[List.range_succ,List.filter_append,List.length_append]
 congr 1
 by_cases h:p n=true<;>simp[h]
theorem Ej{α:Type}[DecidableEq α]:∀{l c2:List α},l.Nodup->(∀x∈l,x∈c2)->l.length<=c2.length
 | [],c2,_,_=>by simp
 | x::l,c2,aE,an=>by
  have o:=an x (by simp)
  have hb:=List.nodup_cons.1 aE
  have aa:=Ej (l:=l) (c2:=c2.erase x) hb.2 fun y aL=>by
   have:y≠x:=fun e=>hb.1 (e▸aL)
   exact(List.mem_erase_of_ne this).2 (an y (by simp[aL]))
  have aD:=List.length_erase_of_mem o
  have bD:=List.length_pos_of_mem o
  simp only[List.length_cons]
  omega
theorem Oj{n:Nat}{p:Nat->Bool}{l:List Nat}(aE:l.Nodup)(h:∀x∈l,x<n/\p x=true):l.length<=lI n p:=
 Ej aE fun x I=>by simp[h x I]
theorem Mx(n:Nat)(p:Nat->Bool)(c:Rat):bw n (fun i=>if p i=true then c else 0)=(lI n p:Rat)*c:=by
 induction n with
 | zero=>simp[bw,lI]
 | succ n aW=>
  simp only[bw];rw[aW,Ok]
  by_cases h:p n=true
  ·simp[h];grind
  ·simp[h];grind
theorem cQ{n:Nat}{A:Nat->Nat->Rat}{L:Rat}(aH:∀i k,i<n->k<n->0<=A i k)(aj:∀i,i<n->bw n (A i)=L)(ag:∀k:Nat,k<n->bw n (fun i=>A i k)=L)(cg:0<L)
  (et S:Nat->Bool)(jO:∀j,j<n->et j=true->∀k:Nat,k<n->0<A j k->S k=true):lI n et<=lI n S:=by
 have bq:bw n (fun j=>if et j=true then L else 0)=bw n (fun j=>bw n (fun k=>if et j=true then A j k else 0)):=by
  apply fK
  intro j aI
  by_cases h:et j=true
  ·simp only[h,if_true];exact(aj j aI).symm
  ·simp only[if_neg h];exact(uR n).symm
 have bh:bw n (fun j=>bw n (fun k=>if et j=true then A j k else 0))<=bw n (fun j=>bw n (fun k=>if S k=true then A j k else 0)):=by
  refine ER fun j aI=>ER fun k ah=>?_
  have:=aH j k aI ah
  by_cases h:et j=true
  ·simp only[h,if_true]
   by_cases an:S k=true
   ·simp[an]
   ·rw[if_neg an]
    have:¬0<A j k:=fun aR=>an (jO j aI h k ah aR)
    grind
  ·simp only[if_neg h]
   split
   ·exact this
   ·grind
 have e1:bw n (fun j=>bw n (fun k=>if S k=true then A j k else 0))=bw n (fun k=>if S k=true then L else 0):=by
  rw[EW]
  apply fK
  intro k ah
  by_cases h:S k=true
  ·simp only[h,if_true];exact ag k ah
  ·simp only[if_neg h];exact uR n
 rw[<-bq,Mx,e1,Mx]at bh
 by_cases a5:lI n et<=lI n S
 ·exact a5
 ·have aa:(lI n S:Rat)<(lI n et:Rat):=by exact_mod_cast Nat.lt_of_not_le a5
  have aD:=Rat.mul_lt_mul_of_pos_right aa cg
  grind
def p1(n:Nat)(A:Nat->Nat->Rat)(bS:List Int):Prop:=bS.length=n/\∀k:Nat,k<n->bS[k]?.getD 0= -1\/∃j:Nat,j<n/\bS[k]?.getD 0=j/\0<A j k
structure pY (n:Nat) (A:Nat->Nat->Rat) (bS:List Int) (c6:List Bool) (dB:Nat) (b:Bool) (g5:List Int) (cA:List Bool):Prop where
 len:cA.length=n
 mono:∀k:Nat,c6[k]?.getD false=true->cA[k]?.getD false=true
 no:b=false->g5=bS/\(∀k:Nat,k<n->0<A dB k->cA[k]?.getD false=true)/\∀k:Nat,k<n->cA[k]?.getD false=true->c6[k]?.getD false=false->∃j:Nat,j<n/\bS[k]?.getD 0=j/\∀i,i<n->0<A j i->cA[i]?.getD false=true
 yes:b=true->p1 n A g5/\(∀k:Nat,c6[k]?.getD false=true->g5[k]?=bS[k]?)/\∀j:Nat,g5.count (j:Int)=bS.count (j:Int)+if j=dB then 1 else 0
def oM(c6:List Bool):Nat:=c6.count false
theorem aak{c6:List Bool}{i:Nat}(ad:i<c6.length)(h:c6[i]?.getD false=false):oM (c6.set i true)+1=oM c6:=by
 unfold oM
 rw[bt ad]at h
 simp at h
 rw[List.count_set ad,h]
 have:0<List.count false c6:=List.count_pos_iff.2 (h▸List.getElem_mem ad)
 simp
 omega
theorem Na:∀{c6 cA:List Bool},cA.length=c6.length->(∀k:Nat,c6[k]?.getD false=true->cA[k]?.getD false=true)->oM cA<=oM c6
 | [],cA,ar,_=>by
  have:cA=[]:=List.eq_nil_of_length_eq_zero (by simpa using ar)
  subst this
  exact Nat.le_refl _
 | b::c6,[],ar,_=>by simp at ar
 | b::c6,cb::cA,ar,h=>by
  have aW:=Na (c6:=c6) (cA:=cA) (by simpa using ar) fun k ah=>by
   have:=h (k+1)
   simp at this
   exact this ah
  have aH:=h 0
  simp at aH
  unfold oM at aW⊢
  rw[List.count_cons,List.count_cons]
  cases b with
  | true=>simp[aH rfl];exact aW
  | false=>cases cb<;>simp<;>omega
structure ji (n:Nat) (A:Nat->Nat->Rat) (bS:List Int) (c6:List Bool) (dB i:Nat) (cA:List Bool):Prop where
 len:cA.length=n
 mono:∀k:Nat,c6[k]?.getD false=true->cA[k]?.getD false=true
 done:∀k:Nat,k<i->0<A dB k->cA[k]?.getD false=true
 new:∀k:Nat,k<n->cA[k]?.getD false=true->c6[k]?.getD false=false->∃j:Nat,j<n/\bS[k]?.getD 0=j/\∀i,i<n->0<A j i->cA[i]?.getD false=true
section
variable {n:Nat} {A:Nat->Nat->Rat} {bS g5:List Int} {c6 cA uP:List Bool} {dB i:Nat}
theorem ji.zero(h:c6.length=n):ji n A bS c6 dB 0 c6:=⟨h,fun _ h=>h,fun k ah=>by omega,fun k _ o aa=>by rw[o]at aa;cases aa⟩
theorem ji.skip(h:ji n A bS c6 dB i cA)(an:cA[i]?.getD false=true\/A dB i<=0):ji n A bS c6 dB (i+1) cA:=
 ⟨h.len,h.mono,fun k ah aR=>by
  by_cases eY:k<i
  ·exact h.done k eY aR
  ·obtain rfl:k=i:=by omega
   rcases an with an | an
   ·exact an
   ·grind,h.new⟩
theorem rK{l:List Bool}{i k:Nat}(ad:i<l.length):(l.set i true)[k]?.getD false=(decide (k=i) || l[k]?.getD false):=by
 rw[List.getElem?_set]
 by_cases h:i=k
 ·subst h;simp[ad]
 ·simp[h,show¬k=i by omega]
theorem ji.fail(h:ji n A bS c6 dB i cA)(ad:i<n)(hR:cA[i]?.getD false=false){j:Nat}(aI:j<n)(De:bS[i]?.getD 0=j)(aj:pY n A bS (cA.set i true) j false g5 uP):g5=bS/\ji n A bS c6 dB (i+1) uP:=by
 obtain⟨e,cQ,qA⟩:=aj.no rfl
 have cW:i<cA.length:=by rw[h.len];exact ad
 have hm:∀k,cA[k]?.getD false=true->uP[k]?.getD false=true:=fun k ah=>aj.mono k (by rw[rK cW,ah];simp)
 have C2:uP[i]?.getD false=true:=aj.mono i (by rw[rK cW];simp)
 refine⟨e,aj.len,fun k ah=>hm k (h.mono k ah),fun k ah aR=>?_,fun k ah o aa=>?_⟩
 ·by_cases eY:k<i
  ·exact hm k (h.done k eY aR)
  ·obtain rfl:k=i:=by omega
   exact C2
 ·by_cases eY:k=i
  ·subst eY;exact⟨j,aI,De,cQ⟩
  ·by_cases ij:cA[k]?.getD false=true
   ·obtain⟨dp,aT,aQ,bn⟩:=h.new k ah ij aa
    exact⟨dp,aT,aQ,fun i ad aR=>hm i (bn i ad aR)⟩
   ·exact qA k ah o (by rw[rK cW];simp[eY];simpa using ij)
theorem ji.end(h:ji n A bS c6 dB n cA):pY n A bS c6 dB false bS cA:=⟨h.len,h.mono,fun _=>⟨rfl,h.done,h.new⟩,fun h=>by cases h⟩
theorem HL{l:List Int}{i:Nat}(ad:i<l.length){a:Int}(j:Int):(l.set i a).count j+(if l[i]?.getD 0=j then 1 else 0)=l.count j+if a=j then 1 else 0:=by
 rw[List.count_set ad]
 rw[bt ad]
 simp only[Option.getD_some,beq_iff_eq]
 by_cases h:l[i]=j
 ·have:0<List.count j l:=List.count_pos_iff.2 (h▸List.getElem_mem ad)
  simp[h];split<;>omega
 ·simp[h]
theorem p1.set(h:p1 n A bS)(ad:i<n)(aI:dB<n)(aR:0<A dB i):p1 n A (bS.set i (dB:Int)):=by
 refine⟨by simp[h.1],fun k ah=>?_⟩
 by_cases eY:k=i
 ·subst eY
  rw[List.getElem?_set_self (by rw[h.1];exact ah)]
  exact .inr ⟨dB,aI,rfl,aR⟩
 ·rw[List.getElem?_set_ne (by omega)];exact h.2 k ah
theorem ji.free(h:ji n A bS c6 dB i cA)(fb:p1 n A bS)(ad:i<n)(r2:dB<n)(aR:0<A dB i)(hR:cA[i]?.getD false=false)(hm:bS[i]?.getD 0<0):pY n A bS c6 dB true (bS.set i (dB:Int)) (cA.set i true):=by
 have cW:i<cA.length:=by rw[h.len];exact ad
 have fm:i<bS.length:=by rw[fb.1];exact ad
 refine⟨by simp[h.len],fun k ah=>by rw[rK cW,h.mono k ah];simp,(fun h=>by cases h),fun _=>⟨fb.set ad r2 aR,fun k ah=>?_,fun j=>?_⟩⟩
 ·rw[List.getElem?_set_ne]
  rintro rfl
  rw[h.mono _ ah]at hR;cases hR
 ·have:=HL fm (a:=(dB:Int)) (j:Int)
  rw[if_neg (by omega)]at this
  rw[Nat.add_zero]at this
  rw[this]
  congr 1
  by_cases aI:j=dB
  ·simp[aI]
  ·rw[if_neg aI,if_neg (by omega)]
theorem ji.Ef(h:ji n A bS c6 dB i cA)(fb:p1 n A bS)(ad:i<n)(r2:dB<n)(aR:0<A dB i)(hR:cA[i]?.getD false=false){j:Nat}(hm:bS[i]?.getD 0=j)(aj:pY n A bS (cA.set i true) j true g5 uP):pY n A bS c6 dB true (g5.set i (dB:Int)) uP:=by
 have cW:i<cA.length:=by rw[h.len];exact ad
 obtain⟨I1,zg,RB⟩:=aj.yes rfl
 have fm:i<g5.length:=by rw[I1.1];exact ad
 have De:g5[i]?=bS[i]?:=zg i (by rw[rK cW];simp)
 refine⟨aj.len,fun k ah=>aj.mono k (by rw[rK cW,h.mono k ah];simp),(fun h=>by cases h),fun _=>⟨I1.set ad r2 aR,fun k ah=>?_,fun x=>?_⟩⟩
 ·rw[List.getElem?_set_ne]
  ·exact zg k (by rw[rK cW,h.mono k ah];simp)
  ·rintro rfl
   rw[h.mono _ ah]at hR;cases hR
 ·have:=HL fm (a:=(dB:Int)) (x:Int)
  rw[De,hm,RB x]at this
  by_cases o:x=j
  ·subst o
   simp at this
   by_cases aa:x=dB
   ·subst aa;simp at this⊢;omega
   ·rw[if_neg aa];rw[if_neg (by omega)]at this;omega
  ·rw[if_neg (by omega),if_neg o]at this
   by_cases aa:x=dB
   ·subst aa;simp at this⊢;omega
   ·rw[if_neg aa];rw[if_neg (by omega)]at this;omega
end
structure mi (n:Nat) (A:Nat->Nat->Rat) (t:Nat) (bS:List Int):Prop where
 ok:p1 n A bS
 p9:∀j:Nat,bS.count (j:Int)=if j<t then 1 else 0
theorem mi.zero(n:Nat)(A:Nat->Nat->Rat):mi n A 0 (List.replicate n (-1)):=
 ⟨⟨by simp,fun k ah=> .inl (by simp[ah])⟩,fun j=>by
  simp[List.count_replicate]⟩
theorem KN{l:List Int}{x:Int}(h:l.count x<=1){a b:Nat}(aF:l[a]?=some x)(af:l[b]?=some x):a=b:=by
 induction l generalizing a b with
 | nil=>simp at aF
 | cons y l aW=>
  rw[List.count_cons]at h
  cases a with
  | zero=>
   cases b with
   | zero=>rfl
   | succ b=>
    simp at aF af
    have:0<l.count x:=List.count_pos_iff.2 (List.mem_of_getElem? af)
    simp[aF]at h;omega
  | succ a=>
   cases b with
   | zero=>
    simp at aF af
    have:0<l.count x:=List.count_pos_iff.2 (List.mem_of_getElem? aF)
    simp[af]at h;omega
   | succ b=>
    simp at aF af
    rw[aW (by omega) aF af]
theorem mi.next{n t:Nat}{A:Nat->Nat->Rat}{L:Rat}{bS g5:List Int}{cA:List Bool}{b:Bool}(aH:∀i k,i<n->k<n->0<=A i k)(aj:∀i,i<n->bw n (A i)=L)(ag:∀k:Nat,k<n->bw n (fun i=>A i k)=L)(cg:0<L)
  (h:mi n A t bS)(bu:t<n)(ax:pY n A bS (List.replicate n false) t b g5 cA):b=true/\mi n A (t+1) g5:=by
 have af:b=true:=by
  cases b with
  | true=>rfl
  | false=>
   exfalso
   obtain⟨-,o,aa⟩:=ax.no rfl
   have bE:∀k:Nat,k<n->cA[k]?.getD false=true->∃j:Nat,j<n/\bS[k]?.getD 0=j/\∀i,i<n->0<A j i->cA[i]?.getD false=true:=fun k ah an=>aa k ah an (by simp[ah])
   have cQ:=cQ aH aj ag cg (fun j=>decide (j=t) || (List.range n).any fun k=>cA[k]?.getD false&&bS[k]?.getD 0==(j:Int)) (fun k=>cA[k]?.getD false) (fun j aI jO k ah aR=>by
    simp at jO
    rcases jO with rfl | ⟨bN,aT,aQ,bn⟩
    ·exact o k ah aR
    ·obtain⟨dp,a7,h6,cf⟩:=bE bN aT aQ
     have:dp=j:=by omega
     subst this
     exact cf k ah aR)
   have jX:=Oj (n:=n) (p:=fun j=>decide (j=t) || (List.range n).any fun k=>cA[k]?.getD false&&bS[k]?.getD 0==(j:Int)) (l:=t::((List.range n).filter fun k=>cA[k]?.getD false).map fun k=>(bS[k]?.getD 0).toNat) (by
    have Dj:∀k:Nat,k<n->cA[k]?.getD false=true->∃j:Nat,j<t/\bS[k]?=some (j:Int):=fun k ah an=>by
     obtain⟨j,aT,aQ,-⟩:=bE k ah an
     have ja:k<bS.length:=by rw[h.ok.1];exact ah
     have hm:bS[k]?=some (j:Int):=by rw[bt ja]at aQ⊢;simpa using aQ
     have:0<bS.count (j:Int):=List.count_pos_iff.2 (List.mem_of_getElem? hm)
     rw[h.p9]at this
     by_cases tU:j<t
     ·exact⟨j,tU,hm⟩
     ·rw[if_neg tU]at this;omega
    rw[List.nodup_cons]
    refine⟨fun hm=>?_,?_⟩
    ·simp at hm
     obtain⟨k,⟨aT,aQ⟩,bn⟩:=hm
     obtain⟨j,a7,h6⟩:=Dj k aT aQ
     rw[h6]at bn;simp at bn;omega
    ·rw[List.nodup_iff_pairwise_ne,List.pairwise_map]
     have ub:((List.range n).filter fun k=>cA[k]?.getD false).Nodup:=List.nodup_range.filter _
     refine List.Pairwise.imp_of_mem (fun{a b} aF af wh=>?_) ub
     simp at aF af
     obtain⟨aeF,a7,h6⟩:=Dj a aF.1 aF.2
     obtain⟨aeG,cf,rh⟩:=Dj b af.1 af.2
     rw[h6,rh]
     simp
     rintro rfl
     exact wh (KN (by rw[h.p9];split<;>omega) h6 rh)) (fun x I=>by
    simp at I
    rcases I with rfl | ⟨k,⟨aT,aQ⟩,bn⟩
    ·exact⟨bu,by simp⟩
    ·obtain⟨j,a7,h6,-⟩:=bE k aT aQ
     have:x=j:=by omega
     subst this
     exact⟨a7,by simp;exact .inr ⟨k,aT,aQ,h6⟩⟩)
   rw[List.length_cons,List.length_map]at jX
   have:lI n (fun k=>cA[k]?.getD false)=((List.range n).filter fun k=>cA[k]?.getD false).length:=rfl
   omega
 obtain⟨aT,-,bn⟩:=ax.yes af
 refine⟨af,aT,fun j=>?_⟩
 rw[bn,h.p9]
 by_cases o:j<t
 ·rw[if_pos o,if_neg (by omega),if_pos (by omega)]
 ·by_cases aa:j=t
  ·rw[if_neg o,if_pos aa,if_pos (by omega)]
  ·rw[if_neg o,if_neg aa,if_neg (by omega)]
end Go.b_
end
section
set_option maxRecDepth 8000
namespace Go.b_
theorem X0{N s:Nat}(f:Nat->Rat)(an:s<=N):bw (N+1) f=f s+bw N (fun i=>f (if i<s then i else i+1)):=by
 induction N with
 | zero=>
  obtain rfl:s=0:=by omega
  simp[bw]
  grind
 | succ N aW=>
  by_cases h:s=N+1
  ·subst h
   rw[bw,fK (g:=fun i=>f (if i<N+1 then i else i+1)) fun i ad=>by rw[if_pos ad]]
   grind
  ·rw[bw,aW (by omega)]
   simp only[bw]
   rw[if_neg (show¬N<s by omega)]
   grind
theorem BG:∀(d N:Nat) (V:Nat->Nat->Rat),d<N->∃c:Nat->Rat,(∃i,i<N/\c i≠0)/\∀j,j<d->bw N (fun i=>c i*V i j)=0
 | 0,N,V,h=>⟨fun i=>1,⟨0,h,by decide⟩,fun j aI=>by omega⟩
 | d+1,N,V,h=>by
  by_cases cQ:∀i,i<N->V i d=0
  ·obtain⟨c,ag,aP⟩:=BG d N V (by omega)
   refine⟨c,ag,fun j aI=>?_⟩
   by_cases lP:j=d
   ·subst lP
    rw[fK (g:=fun _=>0) fun i ad=>by rw[cQ i ad];grind]
    exact uR N
   ·exact aP j (by omega)
  ·obtain⟨s,an,wR⟩:∃s,s<N/\V s d≠0:=Classical.byContradiction fun hH=>cQ fun i ad=>Classical.byContradiction fun aH=>hH ⟨i,ad,aH⟩
   obtain⟨M,rfl⟩:∃M,N=M+1:=⟨N-1,by omega⟩
   obtain⟨lA,Du⟩:∃lA:Nat->Nat,lA=fun i=>if i<s then i else i+1:=⟨_,rfl⟩
   obtain⟨dL,⟨i0,qw,qq⟩,aP⟩:=BG d M (fun i j=>V (lA i) j-(V (lA i) d/V s d)*V s j) (by omega)
   obtain⟨g,aV⟩:∃g,g=bw M (fun i=>dL i*V (lA i) d):=⟨_,rfl⟩
   obtain⟨c,ag⟩:∃c:Nat->Rat,c=fun i=>if i<s then dL i else if i=s then-g/V s d else dL (i-1):=⟨_,rfl⟩
   have cJ:∀i,c (lA i)=dL i:=fun i=>by
    rw[ag,Du]
    simp only
    by_cases ad:i<s
    ·rw[if_pos ad,if_pos ad]
    ·rw[if_neg ad,if_neg (by omega),if_neg (by omega),Nat.add_sub_cancel]
   have db:c s= -g/V s d:=by rw[ag];simp
   have ud:∀j,bw (M+1) (fun i=>c i*V i j)=c s*V s j+bw M (fun i=>dL i*V (lA i) j):=fun j=>by
    rw[X0 _ (show s<=M by omega)]
    congr 1
    refine fK fun i _=>?_
    have:=cJ i
    rw[Du]at this⊢
    simp only at this⊢
    rw[this]
   refine⟨c,⟨lA i0,?_,by rw[cJ];exact qq⟩,fun j aI=>?_⟩
   ·rw[Du];simp only;split<;>omega
   ·rw[ud,db]
    by_cases lP:j=d
    ·subst lP
     rw[<-aV]
     have: -g/V s j*V s j= -g:=Rat.div_mul_cancel wR
     grind
    ·have:=aP j (by omega)
     have e:bw M (fun i=>dL i*(V (lA i) j-V (lA i) d/V s d*V s j))=bw M (fun i=>dL i*V (lA i) j)+bw M (fun i=>(-(V s j/V s d))*(dL i*V (lA i) d)):=by
      rw[<-Mw]
      refine fK fun i _=>?_
      simp only[Rat.div_def]
      grind
     rw[e,ET,<-aV]at this
     simp only[Rat.div_def]at this⊢
     grind
theorem Yb{n k:Nat}(aE:0<n)(P:Nat->Nat->Nat->Rat)(dr:∀s,s<k->∀i,i<n->bw n (P s i)=1)(CP:∀s,s<k->∀j,j<n->bw n (fun i=>P s i j)=1)
  (a b:Nat->Nat)(he:∀s,s<k->a s<n/\b s<n/\P s (a s) (b s)≠0)(Tn:∀s t,s<t->t<k->P t (a s) (b s)=0):k<=(n-1)*(n-1)+1:=by
 refine Classical.byContradiction fun ah=>?_
 obtain⟨r,aj⟩:∃r,n=r+1:=⟨n-1,by omega⟩
 subst aj
 rw[Nat.add_sub_cancel]at ah
 obtain⟨c,⟨i0,qw,qq⟩,aP⟩:=BG (r*r+1) k (fun s j=>if j<r*r then P s (j/r) (j % r)else 1) (by omega)
 obtain⟨M,fb⟩:∃M:Nat->Nat->Rat,M=fun i j=>bw k (fun s=>c s*P s i j):=⟨_,rfl⟩
 have h2:∀i j,i<r->j<r->M i j=0:=fun i j ad aI=>by
  have a5:i*r+j<r*r:=by
   have:(i+1)*r<=r*r:=Nat.mul_le_mul_right r (by omega)
   rw[Nat.succ_mul]at this
   omega
  have:=aP (i*r+j) (by omega)
  have d1:(i*r+j)/r=i:=by rw[Nat.mul_comm,Nat.mul_add_div (by omega),Nat.div_eq_of_lt aI];rfl
  have d2:(i*r+j) % r=j:=by rw[Nat.mul_comm,Nat.mul_add_mod,Nat.mod_eq_of_lt aI]
  rw[fb,<-this]
  refine fK fun s _=>?_
  rw[if_pos a5,d1,d2]
 have Ec:bw k c=0:=by
  have:=aP (r*r) (by omega)
  rw[<-this]
  refine fK fun s _=>?_
  rw[if_neg (by omega)]
  grind
 have Ed:∀i,i<r+1->bw (r+1) (M i)=0:=fun i ad=>by
  have e:bw (r+1) (M i)=bw k (fun s=>bw (r+1) (fun j=>c s*P s i j)):=by rw[fb];exact(EW k (r+1) (fun s j=>c s*P s i j)).symm
  rw[e,fK (g:=c) fun s an=>by rw[ET,dr s an i ad];grind]
  exact Ec
 have K_:∀j,j<r+1->bw (r+1) (fun i=>M i j)=0:=fun j aI=>by
  have e:bw (r+1) (fun i=>M i j)=bw k (fun s=>bw (r+1) (fun i=>c s*P s i j)):=by rw[fb];exact(EW k (r+1) (fun s i=>c s*P s i j)).symm
  rw[e,fK (g:=c) fun s an=>by rw[ET,CP s an j aI];grind]
  exact Ec
 have z:∀m:Nat,bw m (fun _=>(0:Rat))=0:=uR
 have V0:∀i,i<r->M i r=0:=fun i ad=>by
  have:=Ed i (by omega)
  rw[bw,fK (g:=fun _=>0) fun j aI=>h2 i j ad aI,z]at this
  grind
 have La:∀j,j<r->M r j=0:=fun j aI=>by
  have:=K_ j (by omega)
  rw[bw,fK (g:=fun _=>0) fun i ad=>h2 i j ad aI,z]at this
  grind
 have V2:M r r=0:=by
  have:=Ed r (by omega)
  rw[bw,fK (g:=fun _=>0) fun j aI=>La j aI,z]at this
  grind
 have V3:∀i j,i<r+1->j<r+1->M i j=0:=fun i j ad aI=>by
  by_cases o:i=r
  ·subst o
   by_cases aa:j=i
   ·subst aa;exact V2
   ·exact La j (by omega)
  ·by_cases aa:j=r
   ·subst aa;exact V0 i (by omega)
   ·exact h2 i j (by omega) (by omega)
 have cQ:∀m s,s<m->s<k->c s=0:=fun m=>by
  induction m with
  | zero=>intro s h;omega
  | succ m aW=>
   intro s an ah
   by_cases Tb:s=m
   ·subst Tb
    obtain⟨o,aa,aD⟩:=he s ah
    have:=V3 (a s) (b s) o aa
    rw[fb]at this
    simp only at this
    rw[fK (g:=fun t=>if t=s then c s*P s (a s) (b s)else 0) fun t bu=>by
     by_cases h:t=s
     ·subst h;simp
     ·rw[if_neg h]
      by_cases b5:t<s
      ·rw[aW t b5 bu];grind
      ·rw[Tn s t (by omega) bu];grind,sG s (fun _=>c s*P s (a s) (b s)),if_pos ah]at this
    rcases Rat.mul_eq_zero.1 this with h | h
    ·exact h
    ·exact absurd h aD
   ·exact aW s (by omega) ah
 exact qq (cQ k i0 qw qw)
end Go.b_
end
section
namespace Go.b_
structure hE (n:Nat) (p:List Int):Prop where
 len:p.length=n
 dB:∀k,k<n->∃j:Nat,j<n/\p[k]?=some (j:Int)
 p9:∀j,j<n->p.count (j:Int)=1
theorem mi.perm{n:Nat}{A:Nat->Nat->Rat}{bS:List Int}(h:mi n A n bS):hE n bS/\∀k j:Nat,k<n->bS[k]?=some (j:Int)->0<A j k:=by
 have ht:∀k,k<n->∃j:Nat,j<n/\bS[k]?=some (j:Int)/\0<A j k:=by
  intro k ah
  have ja:k<bS.length:=by rw[h.ok.1];exact ah
  rcases h.ok.2 k ah with o | ⟨j,aT,aQ,bn⟩
  ·exfalso
   have hm:(-1:Int)∈bS:=by
    rw[bt ja]at o
    simp at o
    exact o▸List.getElem_mem ja
   have:=Ej (l:=(-1:Int)::(List.range n).map Int.ofNat) (c2:=bS) (by
    rw[List.nodup_cons]
    refine⟨by simp,?_⟩
    rw[List.nodup_iff_pairwise_ne,List.pairwise_map]
    exact List.Pairwise.imp (fun{a b} wh=>by simp only[Int.ofNat_eq_natCast,ne_eq];omega) List.nodup_range) (fun x I=>by
    simp at I
    rcases I with rfl | ⟨j,aT,rfl⟩
    ·exact hm
    ·have:=h.p9 j
     rw[if_pos aT]at this
     exact List.count_pos_iff.1 (by rw[this];omega))
   rw[List.length_cons,List.length_map,List.length_range,h.ok.1]at this
   omega
  ·exact⟨j,aT,by rw[bt ja]at aQ⊢;simpa using aQ,bn⟩
 refine⟨⟨h.ok.1,fun k ah=>?_,fun j aI=>by rw[h.p9,if_pos aI]⟩,fun k j ah aI=>?_⟩
 ·obtain⟨j,aT,aQ,-⟩:=ht k ah
  exact⟨j,aT,aQ⟩
 ·obtain⟨dp,aT,aQ,bn⟩:=ht k ah
  rw[aQ]at aI
  have:dp=j:=by simp at aI;omega
  exact this▸bn
theorem hE.at{n:Nat}{p:List Int}(h:hE n p){j:Nat}(aI:j<n):∃k,k<n/\p[k]?=some (j:Int)/\∀bN,p[bN]?=some (j:Int)->bN=k:=by
 have o:=h.p9 j aI
 have hm:(j:Int)∈p:=List.count_pos_iff.1 (by rw[o];omega)
 obtain⟨k,ah⟩:=List.mem_iff_getElem?.1 hm
 refine⟨k,?_,ah,fun bN ij=>KN (by rw[o];omega) ij ah⟩
 have:=(cc.1 ah).1
 rw[h.len]at this;exact this
def gj(p:Rat×List Int)(i k:Nat):Rat:=if p.2[k]?=some (i:Int)then p.1 else 0
def gk:List (Rat×List Int)->Nat->Nat->Rat
 | [],_,_=>0
 | p::aU,i,k=>gj p i k+gk aU i k
theorem LQ(a b:List (Rat×List Int))(i k:Nat):gk (a++b) i k=gk a i k+gk b i k:=by
 induction a with
 | nil=>simp[gk];grind
 | cons p a aW=>simp only[List.cons_append,gk];rw[aW];grind
def eC:List (Rat×List Int)->Rat
 | []=>0
 | p::aU=>p.1+eC aU
theorem LM(a b:List (Rat×List Int)):eC (a++b)=eC a+eC b:=by
 induction a with
 | nil=>simp[eC];grind
 | cons p a aW=>simp only[List.cons_append,eC];rw[aW];grind
theorem hE.row{n:Nat}{p:Rat×List Int}(h:hE n p.2){i:Nat}(ad:i<n):bw n (fun k=>gj p i k)=p.1:=by
 obtain⟨k,ah,iK,Tv⟩:=h.at ad
 have:bw n (fun bN=>gj p i bN)=bw n (fun bN=>if bN=k then p.1 else 0):=by
  apply fK
  intro bN ij
  unfold gj
  by_cases o:bN=k
  ·subst o;simp[iK]
  ·rw[if_neg o,if_neg fun aa=>o (Tv bN aa)]
 rw[this,sG k (fun _=>p.1),if_pos ah]
theorem hE.rD{n:Nat}{p:Rat×List Int}(h:hE n p.2){k:Nat}(ah:k<n):bw n (fun i=>gj p i k)=p.1:=by
 obtain⟨j,aI,iK⟩:=h.dB k ah
 have:bw n (fun i=>gj p i k)=bw n (fun i=>if i=j then p.1 else 0):=by
  apply fK
  intro i ad
  unfold gj
  rw[iK]
  by_cases o:i=j
  ·subst o;simp
  ·rw[if_neg o,if_neg];simp;omega
 rw[this,sG j (fun _=>p.1),if_pos aI]
def k0:Nat->(Nat->Nat)->Nat
 | 0,_=>0
 | n+1,f=>k0 n f+f n
theorem AL{n:Nat}{f g:Nat->Nat}(h:∀i,i<n->f i<=g i):k0 n f<=k0 n g:=by
 induction n with
 | zero=>simp[k0]
 | succ n aW=>simp only[k0];have:=aW fun i ad=>h i (by omega);have:=h n (by omega);omega
theorem Mv{n:Nat}{f g:Nat->Nat}(h:∀i,i<n->f i<=g i){j:Nat}(aI:j<n)(a5:f j<g j):k0 n f<k0 n g:=by
 induction n with
 | zero=>omega
 | succ n aW=>
  simp only[k0]
  have o:=AL (n:=n) fun i ad=>h i (by omega)
  have aa:=h n (by omega)
  by_cases nC:j=n
  ·subst nC;omega
  ·have:=aW (fun i ad=>h i (by omega)) (by omega);omega
def mS(n:Nat)(B:Nat->Nat->Rat):Nat:=k0 n fun i=>k0 n fun k=>if 0<B i k then 1 else 0
theorem LP(n:Nat)(B:Nat->Nat->Rat):mS n B<=n*n:=by
 have o:∀m (f:Nat->Nat) (c:Nat),(∀i,f i<=c)->k0 m f<=m*c:=by
  intro m f c ax
  induction m with
  | zero=>simp[k0]
  | succ m aW=>simp only[k0];have:=ax m;rw[Nat.succ_mul];omega
 exact o n _ n fun i=>by
  have:=o n (fun k=>if 0<B i k then 1 else 0) 1 fun k=>by split<;>omega
  omega
structure jJ (n:Nat) (B:Nat->Nat->Rat) (L:Rat):Prop where
 h3:∀i k,i<n->k<n->0<=B i k
 row:∀i,i<n->bw n (B i)=L
 rD:∀k,k<n->bw n (fun i=>B i k)=L
def jf(B:Nat->Nat->Rat)(p:Rat×List Int)(i k:Nat):Rat:=B i k-gj p i k
theorem My(n:Nat)(f g:Nat->Rat):bw n (fun i=>f i-g i)=bw n f-bw n g:=by
 induction n with
 | zero=>simp[bw];grind
 | succ n aW=>simp only[bw];rw[aW];grind
theorem jJ.less{n:Nat}{B:Nat->Nat->Rat}{L:Rat}(h:jJ n B L){p:Rat×List Int}(aR:hE n p.2)(aH:0<p.1)(hle:∀k j:Nat,k<n->p.2[k]?=some (j:Int)->p.1<=B j k)(lo:∃k j:Nat,k<n/\j<n/\p.2[k]?=some (j:Int)/\p.1=B j k):
  jJ n (jf B p) (L-p.1)/\mS n (jf B p)<mS n B:=by
 have r7:∀i k,i<n->k<n->0<=jf B p i k:=fun i k ad ah=>by
  unfold jf gj
  split
  ·rename_i aI
   have:=hle k i ah aI
   grind
  ·have:=h.h3 i k ad ah
   grind
 refine⟨⟨r7,fun i ad=>?_,fun k ah=>?_⟩,?_⟩
 ·have:bw n (jf B p i)=bw n (fun k=>B i k-gj p i k):=rfl
  rw[this,My,h.row i ad,aR.row ad]
 ·have:bw n (fun i=>jf B p i k)=bw n (fun i=>B i k-gj p i k):=rfl
  rw[this,My,h.rD k ah,aR.rD ah]
 ·obtain⟨k,j,ah,aI,iK,e⟩:=lo
  have C9:∀i k,i<n->k<n->(if 0<jf B p i k then 1 else 0)<=(if 0<B i k then 1 else 0):=fun i k ad ah=>by
   by_cases o:0<jf B p i k
   ·have:0<B i k:=by
     unfold jf gj at o
     split at o<;>grind
    simp[o,this]
   ·simp[o]
  refine Mv (fun i ad=>AL fun k ah=>C9 i k ad ah) aI (Mv (fun k ah=>C9 j k aI ah) ah ?_)
  have o:¬0<jf B p j k:=by unfold jf gj;rw[if_pos iK,e];grind
  have aa:0<B j k:=by rw[<-e];exact aH
  simp[o,aa]
theorem jJ.none{n:Nat}{B:Nat->Nat->Rat}(h:jJ n B 0){i k:Nat}(ad:i<n)(ah:k<n):B i k=0:=by
 have o:=ES (f:=B i) (fun k ah=>h.h3 i k ad ah) ah
 rw[h.row i ad]at o
 have:=h.h3 i k ad ah
 grind
structure mc (n:Nat) (A:Nat->Nat->Rat) (L:Rat) (aU:List (Rat×List Int)) (B:Nat->Nat->Rat):Prop where
 kr:jJ n B (L-eC aU)
 parts:∀p∈aU,0<p.1/\hE n p.2
 sum:∀i k,i<n->k<n->A i k=gk aU i k+B i k
 mr:mS n B+aU.length<=mS n A
 E3:∃a b:Nat->Nat,(∀s,s<aU.length->a s<n/\b s<n/\(∃p,aU[s]?=some p/\p.2[b s]?=some ((a s:Nat):Int))/\B (a s) (b s)=0)/\∀s t,s<t->∀p,aU[t]?=some p->p.2[b s]?≠some ((a s:Nat):Int)
theorem mc.zero{n:Nat}{A:Nat->Nat->Rat}{L:Rat}(h:jJ n A L):mc n A L [] A:=
 ⟨by have:L-eC []=L:=by simp[eC];grind
     rw[this];exact h,by simp,fun i k _ _=>by simp[gk];grind,by simp,fun _=>0,fun _=>0,fun s h=>by simp at h,fun s t _ p h=>by simp at h⟩
theorem mc.next{n:Nat}{A:Nat->Nat->Rat}{L:Rat}{aU:List (Rat×List Int)}{B:Nat->Nat->Rat}(h:mc n A L aU B){p:Rat×List Int}(aR:hE n p.2)(aH:0<p.1)(hle:∀k j:Nat,k<n->p.2[k]?=some (j:Int)->p.1<=B j k)(lo:∃k j:Nat,k<n/\j<n/\p.2[k]?=some (j:Int)/\p.1=B j k):
  mc n A L (aU++[p]) (jf B p):=by
 obtain⟨o,aa⟩:=h.kr.less aR aH hle lo
 refine⟨?_,fun q au=>?_,fun i k ad ah=>?_,?_,?_⟩
 ·rw[LM]
  have:L-(eC aU+eC [p])=L-eC aU-p.1:=by simp[eC];grind
  rw[this];exact o
 ·simp at au
  rcases au with au | rfl
  ·exact h.parts q au
  ·exact⟨aH,aR⟩
 ·rw[LQ,h.sum i k ad ah]
  simp[gk,jf]
  grind
 ·have:=h.mr
  simp
  omega
 ·obtain⟨a,b,t1,t2⟩:=h.E3
  obtain⟨k,j,ah,aI,iK,e⟩:=lo
  have hH:∀s,s<aU.length->p.2[b s]?≠some ((a s:Nat):Int):=fun s an au=>by
   obtain⟨-,aQ,-,b8⟩:=t1 s an
   have:=hle _ _ aQ au
   rw[b8]at this
   exact absurd aH (Rat.not_lt.2 this)
  refine⟨fun s=>if s=aU.length then j else a s,fun s=>if s=aU.length then k else b s,fun s an=>?_,fun s t cS q au=>?_⟩
  ·simp only[List.length_append,List.length_singleton]at an
   by_cases zI:s=aU.length
   ·subst zI
    simp only[if_true]
    refine⟨aI,ah,⟨p,by simp,iK⟩,?_⟩
    unfold jf gj
    rw[if_pos iK,e]
    grind
   ·obtain⟨aT,aQ,⟨q,bn,b8⟩,eD⟩:=t1 s (by omega)
    simp only[if_neg zI]
    refine⟨aT,aQ,⟨q,by rw[List.getElem?_append_left (by omega)];exact bn,b8⟩,?_⟩
    unfold jf gj
    rw[if_neg (hH s (by omega)),eD]
    grind
  ·have bu:=(cc.1 au).1
   simp only[List.length_append,List.length_singleton]at bu
   have zI:s≠aU.length:=by omega
   simp only[if_neg zI]
   by_cases zN:t=aU.length
   ·subst zN
    simp at au
    subst au
    exact hH s (by omega)
   ·rw[List.getElem?_append_left (by omega)]at au
    exact t2 s t cS q au
structure rl (n:Nat) (A:Nat->Nat->Rat) (L:Rat) (aU:List (Rat×List Int)):Prop where
 parts:∀p∈aU,0<p.1/\hE n p.2
 sum:∀i k,i<n->k<n->gk aU i k=A i k
 len:eC aU=L
 mr:aU.length<=n*n
 Ln:aU.length<=(n-1)*(n-1)+1
theorem mc.end{n:Nat}{A:Nat->Nat->Rat}{L:Rat}{aU:List (Rat×List Int)}{B:Nat->Nat->Rat}(aE:0<n)(h:mc n A L aU B)(aP:¬0<L-eC aU):rl n A L aU:=by
 have aH:0<=L-eC aU:=by
  have:=EU (n:=n) (f:=B 0) fun k ah=>h.kr.h3 0 k aE ah
  rw[h.kr.row 0 aE]at this
  exact this
 have e:L-eC aU=0:=by grind
 have ar:=h.kr
 rw[e]at ar
 refine⟨h.parts,fun i k ad ah=>?_,by grind,?_,?_⟩
 ·rw[h.sum i k ad ah,ar.none ad ah];exact(Rat.add_zero _).symm
 ·have:=h.mr
  have:=LP n A
  omega
 ·obtain⟨a,b,t1,t2⟩:=h.E3
  have aR:∀s,s<aU.length->hE n (aU[s]?.getD (0,[])).2:=fun s an=>by
   rw[bt an]
   exact(h.parts _ (List.getElem_mem an)).2
  refine Yb aE (fun s i j=>gj (1,(aU[s]?.getD (0,[])).2) i j) (fun s an i ad=>hE.row (p:=(1,(aU[s]?.getD (0,[])).2)) (aR s an) ad) (fun s an j aI=>hE.rD (p:=(1,(aU[s]?.getD (0,[])).2)) (aR s an) aI) a b (fun s an=>?_) fun s t cS bu=>?_
  ·obtain⟨aT,aQ,⟨q,bn,b8⟩,eD⟩:=t1 s an
   refine⟨aT,aQ,?_⟩
   unfold gj
   rw[bn,if_pos (by simpa using b8)]
   show(1:Rat)≠0
   decide
  ·have au:=bt bu
   have:=t2 s t cS _ au
   unfold gj
   rw[if_neg (by rw[au];simpa using this)]
theorem An{aU:List (Rat×List Int)}(h:∀p∈aU,0<p.1):0<=eC aU/\∀p∈aU,p.1<=eC aU:=by
 induction aU with
 | nil=>simp[eC]
 | cons q aU aW=>
  obtain⟨o,aa⟩:=aW fun p aR=>h p (by simp[aR])
  have aD:=h q (by simp)
  simp only[eC]
  refine⟨by grind,fun p aR=>?_⟩
  simp at aR
  rcases aR with rfl | aR
  ·grind
  ·have:=aa p aR;grind
def gy(n m:Nat)(A:Nat->Nat->Rat)(top:Rat)(i k:Nat):Rat:=
 if i<n then(if k<m then A i k else if k=m+i then top-bw m (A i)else 0)
 else(if k<m then(if k=i-n then top-bw n (fun je=>A je k)else 0)else A (k-m) (i-n))
theorem XV{n m:Nat}{A:Nat->Nat->Rat}{top:Rat}(aH:∀i k,i<n->k<m->0<=A i k)(aj:∀i,i<n->bw m (A i)<=top)(ag:∀k,k<m->bw n (fun i=>A i k)<=top):jJ (n+m) (gy n m A top) top:=by
 refine⟨fun i k ad ah=>?_,fun i ad=>?_,fun k ah=>?_⟩
 ·unfold gy
  split
  ·rename_i o
   split
   ·exact aH i k o ‹_›
   ·split
    ·have:=aj i o;grind
    ·grind
  ·split
   ·split
    ·have:=ag k ‹_›;grind
    ·grind
   ·exact aH _ _ (by omega) (by omega)
 ·by_cases o:i<n
  ·rw[Nat.add_comm,EV]
   have bq:bw m (gy n m A top i)=bw m (A i):=fK fun k ah=>by simp[gy,o,ah]
   have bh:bw n (fun k=>gy n m A top i (m+k))=bw n (fun k=>if k=i then top-bw m (A i)else 0):=fK fun k ah=>by
    simp[gy,o];intro;omega
   rw[bq,bh,sG i (fun _=>top-bw m (A i)),if_pos o];grind
  ·rw[Nat.add_comm,EV]
   have bq:bw m (gy n m A top i)=bw m (fun k=>if k=i-n then top-bw n (fun je=>A je k)else 0):=fK fun k ah=>by simp[gy,o,ah]
   have bh:bw n (fun k=>gy n m A top i (m+k))=bw n (fun je=>A je (i-n)):=fK fun k ah=>by
    simp[gy,o];intro;omega
   rw[bq,bh,sG (i-n) (fun k=>top-bw n (fun je=>A je k)),if_pos (by omega)];grind
 ·rw[EV]
  by_cases o:k<m
  ·have bq:bw n (fun i=>gy n m A top i k)=bw n (fun i=>A i k):=fK fun i ad=>by simp[gy,o,ad]
   have bh:bw m (fun i=>gy n m A top (n+i) k)=bw m (fun i=>if i=k then top-bw n (fun je=>A je k)else 0):=fK fun i ad=>by
    simp[gy,o,show¬n+i<n by omega,show n+i-n=i by omega,eq_comm]
   rw[bq,bh,sG k (fun _=>top-bw n (fun je=>A je k)),if_pos o];grind
  ·have bq:bw n (fun i=>gy n m A top i k)=bw n (fun i=>if i=k-m then top-bw m (A i)else 0):=fK fun i ad=>by
    simp[gy,o,ad]
    congr 1
    simp;omega
   have bh:bw m (fun i=>gy n m A top (n+i) k)=bw m (A (k-m)):=fK fun i ad=>by
    simp[gy,o,show¬n+i<n by omega,show n+i-n=i by omega]
   rw[bq,bh,sG (k-m) (fun i=>top-bw m (A i)),if_pos (by omega)];grind
def jo(n m:Nat)(p:List Int):List Int:=(p.take m).map fun j=>if(n:Int)<=j then-1 else j
structure vd (n m:Nat) (l:List Int):Prop where
 len:l.length=m
 Xb:∀k,k<m->l[k]?=some (-1)\/∃j:Nat,j<n/\l[k]?=some (j:Int)
 inj:∀j:Nat,j<n->l.count (j:Int)<=1
theorem BD{n m:Nat}{p:List Int}(k:Nat):(jo n m p)[k]?=if k<m then(p[k]?).map fun j=>if(n:Int)<=j then-1 else j else none:=by
 unfold jo
 rw[List.getElem?_map,List.getElem?_take]
 split<;>rfl
theorem Ox{n m:Nat}{p:List Int}{k i:Nat}(ah:k<m)(ad:i<n):(jo n m p)[k]?=some (i:Int)↔p[k]?=some (i:Int):=by
 rw[BD,if_pos ah]
 cases h:p[k]? with
 | none=>simp
 | some j=>
  simp
  split
  ·constructor<;>intro h<;>omega
  ·exact Iff.rfl
theorem hE.cut{n m:Nat}{p:List Int}(h:hE (n+m) p):vd n m (jo n m p):=by
 refine⟨by simp[jo,h.len],fun k ah=>?_,fun j aI=>?_⟩
 ·obtain⟨j,aT,aQ⟩:=h.dB k (by omega)
  rw[BD,if_pos ah,aQ]
  by_cases nC:j<n
  ·exact .inr ⟨j,nC,by simp;omega⟩
  ·exact .inl (by simp;omega)
 ·have o:=h.p9 j (by omega)
  have aa:(jo n m p).count (j:Int)<=(p.take m).count (j:Int):=by
   unfold jo
   generalize p.take m=l
   induction l with
   | nil=>simp
   | cons x l aW=>
    simp only[List.map_cons,List.count_cons]
    by_cases I:(n:Int)<=x
    ·simp[I];omega
    ·simp[I];omega
  have aD:(p.take m).count (j:Int)<=p.count (j:Int):=(List.take_sublist m p).count_le _
  omega
structure yg (n m:Nat) (A:Nat->Nat->Rat) (L:Rat) (aU:List (Rat×List Int)):Prop where
 AF:∀p∈aU,0<p.1/\vd n m p.2
 sum:∀i k,i<n->k<m->gk aU i k=A i k
 len:eC aU=L
 mr:aU.length<=(n+m)*(n+m)
theorem rl.WA{n m:Nat}{A:Nat->Nat->Rat}{top:Rat}{aU:List (Rat×List Int)}(h:rl (n+m) (gy n m A top) top aU):yg n m A top (aU.map fun p=>(p.1,jo n m p.2)):=by
 refine⟨fun p aR=>?_,fun i k ad ah=>?_,?_,by simpa using h.mr⟩
 ·simp at aR
  obtain⟨a,b,q,rfl⟩:=aR
  obtain⟨o,aa⟩:=h.parts _ q
  exact⟨o,aa.cut⟩
 ·have o:=h.sum i k (by omega) (by omega)
  have aa:gy n m A top i k=A i k:=by simp[gy,ad,ah]
  rw[aa]at o
  rw[<-o]
  generalize aU=l
  induction l with
  | nil=>rfl
  | cons p l aW=>
   simp only[List.map_cons,gk]
   rw[aW]
   congr 1
   unfold gj
   simp only[Ox ah ad]
 ·rw[<-h.len]
  generalize aU=l
  induction l with
  | nil=>rfl
  | cons p l aW=>
   simp only[List.map_cons,eC]
   rw[aW]
end Go.b_
end
section
set_option maxRecDepth 8000
set_option maxHeartbeats 1000000
namespace Go.b_
open Go.Proofs
open Go.Proofs.Try (prog)
attribute [-simp] fL gO hK
theorem Row.Wk{α:Type}{e R:Nat}{ay:Bool}{ae:ab->Value->α->Prop}{H:ab}{n c:Nat}{xs:List α}(h:Row e R ay ae H (.slice none n c) xs):xs=[]:=by
 obtain⟨cs,⟨a,cap,ao,o,aa,aD⟩,bD⟩:=h
 simp at ao
 obtain⟨rfl,rfl,rfl⟩:=ao
 by_cases ag:0<c
 ·obtain⟨b,i,X,all,q,-⟩:=aD ag
  cases q
 ·exact List.eq_nil_of_length_eq_zero (by omega)
theorem Oi{v:Value}{xs:List Rat}{H:ab}(aS:iD H v xs)(ar:xs.length<65536):
  aZ prog 45 [v] H (fun u H1=>Ext H H1/\bz H.length 44 4 true b3 H1 u xs):=by
 refine aZ.cr fun Q aG=>?_
 apply Vf (by simp)
 obtain⟨a,c,rfl⟩:=Row.len aS
 simp[G9]
 refine bG.mk (fun aE=>?_) (fun aE=>?_)
 ·have:a=none:=by simpa using aE
  subst this
  have:=Row.Wk aS
  subst this
  simp[bj]
  exact aG _ _ ⟨Ext.refl H,bz.nil _ _ _ _ _ _⟩
 ·refine xS (e:=44) (R:=4) (by simp) (by simp) ?_
  simp
  refine AP (k:=H.length) (e:=44) (R:=4) (ay:=true) (bs:=64) (z:= .agg #[.bool false,.slice none 0 0,.bool false,.slice none 0 0]) (ae:=b3) (xs:=[]) (bI:=xs) (by simpa using bz.void _ _ _ _ _ _ _) (by simpa using aS) (fun u y h=>h.whole) (fun aC c_ u y ah h=>h.kept ah (by decide)) (by simp) (by simp) (by simp) (by simp) (by simp) (by rfl) (by rfl) (by rfl) (by decide) (by simp;omega) (by omega) ?_
  intro w H1 cV I ah
  simp[bj]
  exact aG _ _ ⟨I _ (Nat.le_refl _) (Ext.refl H),by simpa using cV⟩
def bM(t:List (List Rat))(i k:Nat):Rat:=(t[i]?.getD [])[k]?.getD 0
structure hD (fh H:ab) (gK n:Nat) (gY gu f_:Value) (t:List (List Rat)) (bS:List Int) (c6:List Bool):Prop where
 pos:0<fh.length
 ext:Ext fh H
 gN:ho fh gY t
 uT:t.length=n
 uN:∀r∈t,r.length=n
 small:n<65536
 xm:fh.length<=gK
 eO:H[gK]?=some (.own 92 false [gY,gu,f_])
 nK:bz fh.length 3 1 false IR H gu bS
 seen:bz fh.length 4 1 false k3 H f_ c6
theorem hD.more{fh H H1:ab}{gK n:Nat}{gY gu f_:Value}{t:List (List Rat)}{bS:List Int}{c6:List Bool}(h:hD fh H gK n gY gu f_ t bS c6)(I:Ext H H1):hD fh H1 gK n gY gu f_ t bS c6:=
 ⟨h.pos,h.ext.az I,h.gN,h.uT,h.uN,h.small,h.xm,I.get_some h.eO,bJ.ext (ae:=bz _ _ _ _ IR) h.nK I,bJ.ext (ae:=bz _ _ _ _ k3) h.seen I⟩
theorem hD.Xv{fh H aC:ab}{gK n:Nat}{gY gu f_:Value}{t:List (List Rat)}{bS:List Int}{c6 cA:List Bool}(h:hD fh H gK n gY gu f_ t bS c6)(I:∀cx:ab,cx.length<=fh.length->Ext cx H->Ext cx aC)(ah:Kept H aC f_ 4)(cV:bz fh.length 4 1 false k3 aC f_ cA):hD fh aC gK n gY gu f_ t bS cA:=
 ⟨h.pos,I _ (Nat.le_refl _) h.ext,h.gN,h.uT,h.uN,h.small,h.xm,ah _ _ h.eO (fun _=>by simp[bB.elem?]),h.nK.other ah (by decide) fun _ _ h=>h,cV⟩
theorem hD.VD{fh H aC:ab}{gK n:Nat}{gY gu f_:Value}{t:List (List Rat)}{bS g5:List Int}{c6:List Bool}(h:hD fh H gK n gY gu f_ t bS c6)(I:∀cx:ab,cx.length<=fh.length->Ext cx H->Ext cx aC)(ah:Kept H aC gu 3)(cV:bz fh.length 3 1 false IR aC gu g5):hD fh aC gK n gY gu f_ t g5 c6:=
 ⟨h.pos,I _ (Nat.le_refl _) h.ext,h.gN,h.uT,h.uN,h.small,h.xm,ah _ _ h.eO (fun _=>by simp[bB.elem?]),cV,h.seen.other ah (by decide) fun _ _ h=>h⟩
theorem xM{q:Rat}:((if q<0 then(-1:Int)else if q=0 then 0 else 1)<=0)↔q<=0:=by
 by_cases o:q<0
 ·simp[o,Rat.le_of_lt o]
 ·by_cases aa:q=0
  ·simp[aa]
  ·simp only[if_neg o,if_neg aa]
   constructor
   ·intro h;omega
   ·intro h;exact absurd (Std.lt_of_le_of_ne h aa) o
theorem find_spec(n:Nat):∀(fuel:Nat) {fh H:ab} {gK dB:Nat} {gY gu f_:Value} {t:List (List Rat)} {bS:List Int} {c6:List Bool},oM c6<fuel->hD fh H gK n gY gu f_ t bS c6->c6.length=n->p1 n (bM t) bS->dB<n->
  aZ prog 46 [.pointer (some ⟨gK,0,none⟩),.int .i64 dB] H (fun u H1=>∃b g5 cA,u= .bool b/\pY n (bM t) bS c6 dB b g5 cA/\hD fh H1 gK n gY gu f_ t g5 cA):=by
 intro fuel
 induction fuel with
 | zero=>intro fh H gK dB gY gu f_ t bS c6 h;omega
 | succ fuel aW=>
  intro fh H gK dB gY gu f_ t bS c6 adX bE mG fb r2
  refine aZ.cr fun Q aG=>?_
  apply U2 (by simp)
  have nv:=bE.eO
  have ba:=bE.gN.ext bE.ext
  obtain⟨fW,yp,rfl⟩:=Row.len bE.gN
  obtain⟨eb,eP⟩:∃eb,t[0]?=some eb:=⟨_,bt (by have:=bE.uT;omega)⟩
  have qE:=bE.uN eb (List.mem_of_getElem? eP)
  have nC:=bE.small
  simp[G0,nv]
  refine a4.mk (Ee ba eP) ?_
  rintro u H1 ⟨bH,rfl⟩
  rw[qE]
  have g_:=bE.more bH
  simp
  refine dx.range (by kernel_rfl) n (by omega) (by simp) (by rfl) (by simp) (by decide) (by decide) (fun i dQ fr bZ=>∃cA,ji n (bM t) bS c6 dB i cA/\hD fh bZ gK n (.slice fW t.length yp) gu f_ t bS cA) ?_ ?_ ?_
  ·exact⟨c6,ji.zero mG,g_⟩
  ·rintro i dQ fr bZ ad a2 ⟨cA,dc,ql⟩ K a1
   simp at a2
   have Jb:=ql.eO
   have iI:=ql.gN.ext ql.ext
   obtain⟨bi,lN⟩:∃bi,cA[i]?=some bi:=⟨_,bt (by rw[dc.len];exact ad)⟩
   refine bU.join (by kernel_rfl) (fun fS hl ca=>∃cA,ji n (bM t) bS c6 dB (i+1) cA/\hD fh ca gK n (.slice fW t.length yp) gu f_ t bS cA) ?_ ?_
   ·rintro dW iZ IU
    simp[a2]
    refine bU.join (by kernel_rfl) (fun fS hl ca=>fS 35= .bool (bi || decide (bM t dB i<=0))/\hD fh ca gK n (.slice fW t.length yp) gu f_ t bS cA) ?_ ?_
    ·rintro cU ed-
     simp[Jb]
     refine cI (ae:=k3) (xs:=cA) (n:=i) (a:=bi) (e:=4) (R:=1) (ay:=false) (by simpa using ql.seen.row) (by simp) lN (by simp) (by simp) (by simp) (by decide) ?_
     rintro dF pP rfl
     cases bi with
     | true=>
      simp
      exact ed _ _ _ ⟨by simp,ql⟩
     | false=>
      obtain⟨row,dr⟩:∃row,t[dB]?=some row:=⟨_,bt (by rw[bE.uT];exact r2)⟩
      obtain⟨q,au⟩:∃q,row[i]?=some q:=⟨_,bt (by rw[bE.uN row (List.mem_of_getElem? dr)];exact ad)⟩
      have RL:bM t dB i=q:=by simp[bM,dr,au]
      simp[Jb]
      refine mX (ae:=iD) (xs:=t) (n:=dB) (a:=row) (e:=84) (R:=1) (ay:=false) (by simp) (by decide) (by simpa using iI) (by simp) dr (by simp) (by simp) (by simp) (by decide) ?_
      intro hI k2 nF
      simp
      refine mX (ae:=b3) (xs:=row) (n:=i) (a:=q) (e:=44) (R:=4) (ay:=true) (by simp) (by decide) (by simpa using nF) (by simp) au (by simp) (by simp) (by simp) (by decide) ?_
      intro fQ oK jy
      simp
      refine a4.mk (Ez jy) ?_
      rintro w ca ⟨c1,rfl⟩
      simp
      refine ed _ _ _ ⟨?_,ql.more c1⟩
      simp[RL,xM]
    ·rintro fS hl ca ⟨IA,tA⟩
     simp at IA
     have Rr:=tA.eO
     simp[IA]
     refine bG.mk (fun af=>?_) (fun af=>?_)
     ·refine iZ _ _ _ ⟨cA,dc.skip ?_,tA⟩
      simp at af
      rw[lN]
      rcases af with af | af
      ·exact .inl (by simp[af])
      ·exact .inr af
     ·simp at af
      have aR:0<bM t dB i:=Rat.not_le.1 af.2
      have hR:cA[i]?.getD false=false:=by rw[lN];simp[af.1]
      simp[a2,Rr]
      refine iR (k:=fh.length) (e:=4) (R:=1) (ay:=false) (n:=i) (ae:=k3) (xs:=cA) (a:=true) (by simpa using tA.seen) (by simp) (by rw[dc.len];exact ad) (by simp[k3]) (by simpa using A6 true) (by simp) (fun _ _ _ _ _ h=>h) (by simp) (by simp) (by simp) (by decide) ?_
      rintro gL dU o8 cD tV Sf-
      simp at o8 tV
      have vX:=tA.Xv cD tV o8
      have Jc:=vX.eO
      obtain⟨z,aP⟩:∃z,bS[i]?=some z:=⟨_,bt (by rw[fb.1];exact ad)⟩
      have xb:bS[i]?.getD 0=z:=by rw[aP];rfl
      have sk:=aak (i:=i) (by rw[dc.len];exact ad) hR
      have aeu:oM cA<=oM c6:=Na (by rw[dc.len,mG]) dc.mono
      simp
      refine bU.join (by kernel_rfl) (fun k5 kD cy=>∃b qR oI,k5 60= .bool b/\hD fh cy gK n (.slice fW t.length yp) gu f_ t qR oI/\qR.length=n/\(b=false->qR=bS/\ji n (bM t) bS c6 dB (i+1) oI)/\(b=true->pY n (bM t) bS c6 dB true (qR.set i (dB:Int)) oI)) ?_ ?_
      ·rintro nW gr-
       simp[a2,Jc]
       refine cI (ae:=IR) (xs:=bS) (n:=i) (a:=z) (e:=3) (R:=1) (ay:=false) (by simpa using vX.nK.row) (by simp) aP (by simp) (by simp) (by simp) (by decide) ?_
       rintro iP oL rfl
       by_cases w_:z<0
       ·simp[w_]
        refine gr _ _ _ ⟨true,bS,cA.set i true,by simp,vX,fb.1,fun h=>(by cases h),fun _=>dc.free fb ad r2 aR hR (by rw[xb];exact w_)⟩
       ·obtain⟨j,aI,DZ,-⟩:∃j:Nat,j<n/\z=j/\0<bM t j i:=by
         rcases fb.2 i ad with h | h
         ·rw[xb]at h;omega
         ·rw[xb]at h;exact h
        simp[w_,Jc]
        refine mX (ae:=IR) (xs:=bS) (n:=i) (a:=z) (e:=3) (R:=1) (ay:=false) (by simp) (by decide) (by simpa using vX.nK.row) (by simp) aP (by simp) (by simp) (by simp) (by decide) ?_
        rintro nN pQ rfl
        simp[DZ]
        refine a4.mk (aW (c6:=cA.set i true) (by omega) vX (by simp[dc.len]) fb aI) ?_
        rintro w eG ⟨b,qR,oI,rfl,bl,Ct⟩
        simp
        refine gr _ _ _ ⟨b,qR,oI,by simp,Ct,?_,?_,?_⟩
        ·cases b with
         | false=>rw[(bl.no rfl).1];exact fb.1
         | true=>exact(bl.yes rfl).1.1
        ·rintro rfl
         exact dc.fail ad hR aI (by rw[xb,DZ]) bl
        ·rintro rfl
         exact dc.Ef fb ad r2 aR hR (by rw[xb,DZ]) bl
      ·rintro k5 kD cy ⟨b,qR,oI,IE,yV,fm,Ro,qp⟩
       simp at IE
       have Rs:=yV.eO
       simp[IE]
       refine bG.mk (fun af=>?_) (fun af=>?_)
       ·simp[a2,Rs]
        refine iR (k:=fh.length) (e:=3) (R:=1) (ay:=false) (n:=i) (ae:=IR) (xs:=qR) (a:=(dB:Int)) (by simpa using yV.nK) (by simp) (by rw[fm];exact ad) (by simp[IR]) (by simpa using kd dB) (by simp) (fun _ _ _ _ _ h=>h) (by simp) (by simp) (by simp) (by decide) ?_
        rintro qX eG e2 dh tW zi-
        simp at e2 tW
        have Ct:=yV.VD dh tW e2
        simp
        refine IU _ _ _ _ (by simp) ?_
        simp[bj]
        exact aG _ _ ⟨true,_,oI,rfl,qp af,Ct⟩
       ·obtain⟨rfl,P5⟩:=Ro af
        exact iZ _ _ _ ⟨oI,P5,yV⟩
   ·rintro fS hl ca ⟨oI,IK,tA⟩
    exact a1 _ _ _ (by simp[a2]) ⟨oI,IK,tA⟩
  ·rintro dQ fr bZ a2 ⟨cA,dc,ql⟩
   simp[bj]
   exact aG _ _ ⟨false,bS,cA,rfl,dc.end,ql⟩
end Go.b_
end
