/- Part of the proof of ShopMakes. -/
import Derived.Test.YtoiodfcefbapkaaShopMakesB
set_option linter.unusedVariables false
set_option linter.unusedSimpArgs false
section
namespace Go.b9
structure br where
 b:Bool
 g:Option (Nat×Bool)
 d:Option Nat
 op:Op
inductive gp where
 | skip
 | ret
 | exit (id:Nat)
 | seq (x y:gp)
 | cond (c:Operand) (x y:gp)
 | block (id:Nat) (x:gp)
 | loop (x:gp)
 | ops (l:List br)
 | opsL (l:List br)
structure fa where
 code:gp
 results:List ResultVar
def hy:Op->Op
 | .call {callee:= .value f,args,.. }=> .call {callee:= .value f,args,argTypes:= #[]}
 | .binOp op t x y _=> .binOp op t x y 0
 | .unOp op _ x=> .unOp op 0 x
 | op=>op
def mM(P:Program):Op->Bool
 | .move _ | .assign _ | .pick .. | .alloc _ | .box .. | .load .. | .nilCheck _ | .binOp .. | .unOp .. | .makeInterface .. | .makeFunc .. | .fieldAddr .. | .field .. | .indexAddr .. | .index .. | .extract .. | .build .. =>false
 | .call {callee:= .builtin .len,.. } | .call {callee:= .builtin .max,.. } | .call {callee:= .builtin .min,.. }=>false
 | .convert s t _=> !(qM P s&&qM P t)
 | _=>true
def O3(n:Nat):Option Tmp->Bool
 | some d=>decide (d<n)
 | none=>true
def vx(P:Program)(n:Nat)(ops:Array Oper)(draw:Bool)(U:Oper)(k:Nat):Option br:=
 if O3 n U.dst=true then
  match U.guard with
  | none=>some ⟨!draw || !mM P U.op || er P ops k,none,U.dst,hy U.op⟩
  | some (j,w)=>match(ops[j]?).bind (·.dst)with
   | some d=>some ⟨!draw || !mM P U.op || er P ops k,some (d,w),U.dst,hy U.op⟩
   | none=>none
 else none
def nc(P:Program)(n:Nat)(ops:Array Oper)(draw:Bool):List Oper->Nat->Option (List br)
 | [],_=>some []
 | U::rest,k=>match vx P n ops draw U k,nc P n ops draw rest (k+1)with
  | some x,some xs=>some (x::xs)
  | _,_=>none
def Q7(P:Program)(ops:Array Oper):Bool:=ops.toList.zipIdx.any fun pD=>hv pD.1.op&& !er P ops pD.2
def hn(P:Program)(n:Nat):Code->Option gp
 | .skip=>some .skip
 | .ret=>some .ret
 | .exit id=>some (.exit id)
 | .seq a b=>match hn P n a,hn P n b with
  | some x,some y=>some (.seq x y)
  | _,_=>none
 | .cond c a b=>if mN c=true then(match hn P n a,hn P n b with
  | some x,some y=>some (.cond c x y)
  | _,_=>none)else none
 | .block id a=>(hn P n a).map (.block id)
 | .loop a=>(hn P n a).map .loop
 | .region id ops draw=>if draw&&Q7 P ops then(if yw ops&&(gw ops&&D9 P ops)then(nc P n ops true ops.toList 0).map .opsL else none)
  else if yw ops&&(!draw || gw ops)then(nc P n ops draw ops.toList 0).map .ops else none
 | _=>none
def comp(P:Program)(fn:Func):Option fa:=match fn.body with
 | some c=>(hn P fn.ntmps c).map fun x=>⟨x,fn.results.toList⟩
 | none=>none
abbrev Fr:=Nat->Value
def aX(F:Fr)(d:Nat)(v:Value):Fr:=fun i=>if i=d then v else F i
theorem hJ(F:Fr)(d:Nat)(v:Value):aX F d v d=v:=by simp[aX]
theorem gY(F:Fr){d i:Nat}(v:Value)(h:i≠d):aX F d v i=F i:=by simp[aX,h]
def iM(args:List Value):Fr:=fun i=>args.getD i undef
def aq(F:Fr):Operand->Value
 | .tmp i=>F i
 | .const v=>v
 | .global g=> .pointer (some ⟨0,g,some 0⟩)
 | .func f=> .func (.func f) #[] #[]
def fC(F:Fr)(d:Option Nat)(v:Value):Fr:=match d with
 | some d=>aX F d v
 | none=>F
theorem xK(t:List Value):eW t=aq (gt t):=by funext x;cases x<;>rfl
theorem Iu(t:List Value)(d:Option Tmp)(v:Value)(h:∀e,d=some e->e<t.length):gt (eP t d v)=fC (gt t) d v:=by
 cases d with
 | none=>rfl
 | some e=>
  funext i
  simp only[eP,fC,aX,PF]
  by_cases ad:i=e
  ·subst ad;simp[h i rfl]
  ·rw[if_neg (Ne.symm ad),if_neg ad]
theorem Mn(t:List Value)(d:Option Tmp)(v:Value):(eP t d v).length=t.length:=by cases d<;>simp[eP]
def m7(P:Program)(aI:Operand->Value)(H:ab)(op:Op)(v:Value)(H1:ab):Prop:=∀U:Oper,U.op=op->bF P U=false/\eR P aI H U v H1
def iH:Op->Bool
 | .slice .. | .makeSlice .. | .buildSlice .. | .convert .. | .call {callee:= .builtin .append,.. } | .call {callee:= .builtin .copy,.. }=>true
 | _=>false
def fV(P:Program)(b:Bool)(F:Fr)(H:ab)(K:Value->ab->Prop):Op->Prop
 | .call {callee:= .value f,args,.. }=>(match aq F f with
  | .func (.func g) first cap=>a0 P g (first.toList++args.toList.map (aq F)++cap.toList) H fun v H1=>(b=true\/Ext H H1)/\K v H1
  | _=>False)
 | op=>(match bU P (aq F) H op with
  | some (v,H1)=>(hv op=true->b=true)/\K v H1
  | none=>iH op=true/\∃v H1,m7 P (aq F) H op v H1/\(b=true\/Ext H H1)/\K v H1)
def bd(P:Program):List br->Fr->ab->(Fr->ab->Prop)->Prop
 | [],F,H,Q=>Q F H
 | x::rest,F,H,Q=>match x.g with
  | none=>fV P x.b F H (fun v H1=>bd P rest (fC F x.d v) H1 Q) x.op
  | some (j,w)=>if gR (F j)=some w then fV P x.b F H (fun v H1=>bd P rest (fC F x.d v) H1 Q) x.op else bd P rest (fC F x.d undef) H Q
def fi(P:Program):List br->Fr->ab->List Nat->List Nat->(Fr->ab->Prop)->Prop
 | [],F,H,_,_,Q=>Q F H
 | x::rest,F,H,af,W,Q=>match x.g with
  | none=>gz P x.b (aq F) H af W (fun v H1 eZ ft=>fi P rest (fC F x.d v) H1 eZ ft Q) x.op
  | some (j,w)=>if gR (F j)=some w then gz P x.b (aq F) H af W (fun v H1 eZ ft=>fi P rest (fC F x.d v) H1 eZ ft Q) x.op else fi P rest (fC F x.d undef) H af W Q
def mT(K:Fr->ab->Prop)(Q:dr->Fr->ab->Prop):dr->Fr->ab->Prop
 | .normal,F,H=>K F H
 | e,F,H=>Q e F H
def oS(id:Nat)(Q:dr->Fr->ab->Prop):dr->Fr->ab->Prop
 | .exit ht,F,H=>if ht=id then Q .normal F H else Q (.exit ht) F H
 | e,F,H=>Q e F H
inductive pW (body:Fr->ab->(dr->Fr->ab->Prop)->Prop) (Q:dr->Fr->ab->Prop):Fr->ab->Prop
 | round {F:Fr} {H:ab} (ak:Fr->ab->Prop) (h:body F H (mT ak Q)) (da:∀az H1,ak az H1->pW body Q az H1):pW body Q F H
def ei(P:Program):gp->Fr->ab->(dr->Fr->ab->Prop)->Prop
 | .skip,F,H,Q=>Q .normal F H
 | .ret,F,H,Q=>Q .ret F H
 | .exit id,F,H,Q=>Q (.exit id) F H
 | .seq x y,F,H,Q=>ei P x F H (mT (fun az H1=>ei P y az H1 Q) Q)
 | .cond c x y,F,H,Q=>(match aq F c with
  | .bool b=>if b=true then ei P x F H Q else ei P y F H Q
  | _=>False)
 | .block id x,F,H,Q=>ei P x F H (oS id Q)
 | .loop x,F,H,Q=>pW (ei P x) Q F H
 | .ops l,F,H,Q=>bd P l F H (fun az H1=>Q .normal az H1)
 | .opsL l,F,H,Q=>fi P l F H [] [] (fun az H1=>Q .normal az H1)
def jG(P:Program)(F:Fr)(H:ab):List ResultVar->(List Value->Prop)->Prop
 | [],K=>K []
 | .tmp i::rs,K=>jG P F H rs fun aA=>K (F i::aA)
 | .cell a ty::rs,K=>(match F a with
  | .pointer (some ⟨b,i,none⟩)=>(match h5 H b with
   | some cs=>(match c_ P ty with
    | some false=>(match cs[i]? with
     | some v=>jG P F H rs fun aA=>K (v::aA)
     | none=>False)
    | some true=>(match bn P ty with
     | some n=>i+n<=cs.length/\jG P F H rs fun aA=>K (.agg ((cs.drop i).take n).toArray::aA)
     | none=>False)
    | none=>False)
   | none=>False)
  | _=>False)
def pH(P:Program)(rs:List ResultVar)(Q:Value->ab->Prop):dr->Fr->ab->Prop
 | .normal,F,H=>jG P F H rs fun aA=>Q (bj aA) H
 | .ret,F,H=>jG P F H rs fun aA=>Q (bj aA) H
 | .exit _,_,_=>False
section
variable {P:Program}
theorem Mm(aI:Operand->Value)(H:ab)(op:Op):bU P aI H (hy op)=bU P aI H op:=by
 cases op<;>try rfl
 rename_i c
 obtain⟨callee,args,kA⟩:=c
 cases callee<;>rfl
theorem VX{aI:Operand->Value}{H H1:ab}{U:Oper}{v:Value}(h:eR P aI H U v H1)(aE:mM P U.op=false):Ext H H1:=by
 have one:∀{e:TypeId} {l:Bool} {cs:List Value},Ext H (H++[.own e l cs]):=fun{e l cs}=>⟨[.own e l cs],rfl,fun x I cI en=>by simp at I;subst I;simp⟩
 cases h with
 | sx=>exact Ext.refl H
 | alloc=>exact one
 | box=>exact one
 | xl=>exact Ext.refl H
 | xm=>exact Ext.refl H
 | store h=>rw[h]at aE;cases aE
 | slice h=>exact Ext.refl H
 | xO=>exact Ext.refl H
 | xP=>exact Ext.refl H
 | AH=>exact Ext.refl H
 | AG=>exact Ext.refl H
 | make=>exact one
 | uv=>exact Ext.refl H
 | build=>exact one
 | vu=>exact Ext.refl H
 | vm=>exact Ext.refl H
 | vq=>exact one
 | vo h=>rw[h]at aE;cases aE
 | vn=>exact one
 | vp h=>rw[h]at aE;cases aE
 | copy h=>rw[h]at aE;cases aE
 | vy=>exact Ext.refl H
 | str=>exact Ext.refl H
theorem LB{ops:Array Oper}{draw:Bool}{k:Nat}{U:Oper}{t:List Value}{H:ab}{K:List Value->ab->Prop}{dY:Value->ab->Prop}(a1:∀v H1,dY v H1->K (eP t U.dst v) H1)
  (h:fV P (!draw || !mM P U.op || er P ops k) (gt t) H dY (hy U.op)):vh P ops draw k U t H K U.op:=by
 have yl:mM P U.op=true->(!draw || !mM P U.op || er P ops k)=true->draw=true->er P ops k=true:=fun o aa aD=>by simpa[o,aD]using aa
 have fin:(mM P U.op=true\/hv U.op=false)->hv (hy U.op)=hv U.op->(hy U.op=U.op\/bF P U=true)->(bF P U=true->∀jZ:Oper,jZ.op=hy U.op->bF P jZ=true)->(match bU P (aq (gt t)) H (hy U.op)with
   | some (v,H1)=>(hv (hy U.op)=true->(!draw || !mM P U.op || er P ops k)=true)/\dY v H1
   | none=>iH (hy U.op)=true/\∃v H1,m7 P (aq (gt t)) H (hy U.op) v H1/\((!draw || !mM P U.op || er P ops k)=true\/Ext H H1)/\dY v H1)->
   (match bU P (eW t) H U.op with
   | some (v,H1)=>Bd P ops draw k (hv U.op)/\K (eP t U.dst v) H1
   | none=>∃v H1,bF P U=false/\eR P (eW t) H U v H1/\x5 P ops draw k H H1/\K (eP t U.dst v) H1):=by
  intro cS zu hF a2 an
  rw[Mm]at an
  rw[xK]
  split at an
  ·rename_i v H1 ao
   refine⟨fun o aa=>?_,a1 _ _ an.2⟩
   rcases cS with cS | cS
   ·exact yl cS (an.1 (by rw[zu];exact aa)) o
   ·rw[cS]at aa;cases aa
  ·obtain⟨-,v,H1,hm,he,Cg⟩:=an
   rcases hF with hF | hF
   ·obtain⟨aS,aM⟩:=hm U hF.symm
    refine⟨v,H1,aS,aM,fun o=>?_,a1 _ _ Cg⟩
    cases zt:mM P U.op with
    | false=>exact .inr (VX aM zt)
    | true=>
     rcases he with he | he
     ·exact .inl (yl zt he o)
     ·exact .inr he
   ·have aS:=(hm ⟨U.dst,hy U.op,U.type,U.pos,U.after,U.guard⟩ rfl).1
    rw[a2 hF _ rfl]at aS
    cases aS
 cases bW:U.op<;>rw[bW]at h fin yl<;>try (exact fin (by simp[mM,hv]) rfl (.inl rfl) (fun ax jZ ff=>by first | (simp only[bF,bW,ff,hy]at ax⊢;exact ax) | (simp[bF,bW]at ax;try (simp[bF,ff,hy]))) h;done)
 case binOp op ty x y oI=>exact fin (.inr rfl) rfl (.inr (by simp[bF,bW])) (fun _ jZ ff=>by simp[bF,ff,hy]) h
 case unOp op ty x=>exact fin (.inr rfl) rfl (.inr (by simp[bF,bW])) (fun _ jZ ff=>by simp[bF,ff,hy]) h
 case call c=>
  obtain⟨callee,args,kA⟩:=c
  cases callee with
  | value f=>
   simp only[hy,fV]at h
   simp only[vh,xK]
   split at h
   ·rename_i g first cap ax
    rw[ax]
    refine h.mono fun v H1 cR=>⟨fun o=>?_,a1 _ _ cR.2⟩
    rcases cR.1 with he | he
    ·exact .inl (yl rfl he o)
    ·exact .inr he
   ·exact h.elim
  | invoke r m=>exact fin (.inl rfl) rfl (.inl rfl) (fun ax=>by simp[bF,bW]at ax) h
  | builtin bi=>exact fin (.inr rfl) rfl (.inl rfl) (fun ax jZ ff=>by simp only[bF,bW,ff,hy]at ax⊢;exact ax) h
theorem Lz{n:Nat}{ops:Array Oper}{draw:Bool}:∀(rest:List Oper) (k:Nat) (xs:List br) (t:List Value) (H:ab) (Q:List Value->ab->Prop) (b6:Fr->ab->Prop),nc P n ops draw rest k=some xs->t.length=n->
  (∀t1 H1,t1.length=n->b6 (gt t1) H1->Q t1 H1)->bd P xs (gt t) H b6->nS P ops draw k rest t H Q
 | [],k,xs,t,H,Q,b6,ag,ar,aG,h=>by
  simp only[nc,Option.some.injEq]at ag
  subst ag
  exact aG t H ar h
 | U::rest,k,xs,t,H,Q,b6,ag,ar,aG,h=>by
  simp only[nc]at ag
  cases I:vx P n ops draw U k with
  | none=>simp[I]at ag
  | some x=>
   cases mK:nc P n ops draw rest (k+1)with
   | none=>simp[I,mK]at ag
   | some bH=>
    simp only[I,mK,Option.some.injEq]at ag
    subst ag
    unfold vx at I
    split at I
    ·rename_i aL
     have wy:∀e,U.dst=some e->e<t.length:=fun e he=>by
      rw[he]at aL
      rw[ar]
      exact of_decide_eq_true aL
     have sC:∀v H1,bd P bH (fC (gt t) U.dst v) H1 b6->nS P ops draw (k+1) rest (eP t U.dst v) H1 Q:=fun v H1 o=>
      Lz rest (k+1) bH _ H1 Q b6 mK (by rw[Mn];exact ar) aG (by rw[Iu t U.dst v wy];exact o)
     simp only[nS]
     cases aU:U.guard with
     | none=>
      rw[aU]at I
      obtain rfl:=Option.some.inj I
      have hw:Region.wanted U (gL ops t)=true:=by simp[Region.wanted,aU]
      rw[if_pos hw]
      exact LB sC h
     | some py=>
      obtain⟨j,w⟩:=py
      rw[aU]at I
      simp only at I
      cases lf:(ops[j]?).bind (·.dst)with
      | none=>rw[lf]at I;cases I
      | some d=>
       rw[lf]at I
       obtain rfl:=Option.some.inj I
       have hw:Region.wanted U (gL ops t)=(gR (gt t d)==some w):=by
        simp only[Region.wanted,aU,Mw,lf]
       rw[hw]
       simp only[bd]at h
       by_cases ae:gR (gt t d)=some w
       ·rw[if_pos ae]at h
        rw[if_pos (by simpa using ae)]
        exact LB sC h
       ·rw[if_neg ae]at h
        rw[if_neg (by simpa using ae)]
        exact sC _ _ h
    ·cases I
theorem K7(b:Bool)(aI:Operand->Value)(H:ab)(af W:List Nat)(K:Value->ab->List Nat->List Nat->Prop)(op:Op)(h:gz P b aI H af W K (hy op)):gz P b aI H af W K op:=by
 have e:=Mm (P:=P) aI H op
 cases op with
 | call c=>
  obtain⟨callee,args,kA⟩:=c
  cases callee<;>exact h
 | binOp op ty x y oI=>
  simp only[hy,gz]at h⊢
  simp only[hy]at e
  rw[<-e];exact h
 | unOp op ty x=>
  simp only[hy,gz]at h⊢
  simp only[hy]at e
  rw[<-e];exact h
 | _=>exact h
theorem gz.mono{b:Bool}{aI:Operand->Value}{H:ab}{af W:List Nat}{K dY:Value->ab->List Nat->List Nat->Prop}(ai:∀v H1 eZ ft,K v H1 eZ ft->dY v H1 eZ ft){op:Op}(h:gz P b aI H af W K op):gz P b aI H af W dY op:=by
 cases op with
 | load ty x=>
  simp only[gz]at h⊢
  split at h
  ·refine⟨h.1,?_⟩
   have aa:=h.2
   split at aa
   ·exact ai _ _ _ _ aa
   ·exact aa
  ·exact h
 | store ty x y=>
  simp only[gz]at h⊢
  split at h
  ·refine⟨h.1,?_⟩
   have aa:=h.2
   split at aa
   ·exact ai _ _ _ _ aa
   ·exact aa
  ·exact h
 | _=>
  simp only[gz]at h⊢
  split at h
  ·exact ai _ _ _ _ h
  ·exact h.elim
theorem K6{b:Bool}{aI:Operand->Value}{H:ab}{af W:List Nat}{K:Value->ab->List Nat->List Nat->Prop}{op:Op}(h:gz P (!true || !mM P op || b) aI H af W K (hy op)):gz P b aI H af W K (hy op):=by
 cases op with
 | store t x y=>exact h
 | call c=>obtain⟨callee,args,kA⟩:=c;cases callee<;>exact h
 | _=>exact h
theorem Lv{n:Nat}{ops:Array Oper}:∀(rest:List Oper) (k:Nat) (xs:List br) (t:List Value) (H:ab) (af W:List Nat) (Q:List Value->ab->Prop) (b6:Fr->ab->Prop),nc P n ops true rest k=some xs->t.length=n->
  (∀t1 H1,t1.length=n->b6 (gt t1) H1->Q t1 H1)->fi P xs (gt t) H af W b6->nR P ops k rest t H af W Q
 | [],k,xs,t,H,af,W,Q,b6,ag,ar,aG,h=>by
  simp only[nc,Option.some.injEq]at ag
  subst ag
  exact aG t H ar h
 | U::rest,k,xs,t,H,af,W,Q,b6,ag,ar,aG,h=>by
  simp only[nc]at ag
  cases I:vx P n ops true U k with
  | none=>simp[I]at ag
  | some x=>
   cases mK:nc P n ops true rest (k+1)with
   | none=>simp[I,mK]at ag
   | some bH=>
    simp only[I,mK,Option.some.injEq]at ag
    subst ag
    unfold vx at I
    split at I
    ·rename_i aL
     have wy:∀e,U.dst=some e->e<t.length:=fun e he=>by
      rw[he]at aL
      rw[ar]
      exact of_decide_eq_true aL
     have sC:∀v H1 eZ ft,fi P bH (fC (gt t) U.dst v) H1 eZ ft b6->nR P ops (k+1) rest (eP t U.dst v) H1 eZ ft Q:=fun v H1 eZ ft o=>
      Lv rest (k+1) bH _ H1 eZ ft Q b6 mK (by rw[Mn];exact ar) aG (by rw[Iu t U.dst v wy];exact o)
     simp only[nR]
     cases aU:U.guard with
     | none=>
      rw[aU]at I
      obtain rfl:=Option.some.inj I
      have hw:Region.wanted U (gL ops t)=true:=by simp[Region.wanted,aU]
      rw[if_pos hw]
      simp only[fi]at h
      rw[xK]
      exact gz.mono (fun v H1 eZ ft=>sC v H1 eZ ft) (K7 _ _ _ _ _ _ _ (K6 h))
     | some py=>
      obtain⟨j,w⟩:=py
      rw[aU]at I
      simp only at I
      cases lf:(ops[j]?).bind (·.dst)with
      | none=>rw[lf]at I;cases I
      | some d=>
       rw[lf]at I
       obtain rfl:=Option.some.inj I
       have hw:Region.wanted U (gL ops t)=(gR (gt t d)==some w):=by
        simp only[Region.wanted,aU,Mw,lf]
       rw[hw]
       simp only[fi]at h
       by_cases ae:gR (gt t d)=some w
       ·rw[if_pos ae]at h
        rw[if_pos (by simpa using ae),xK]
        exact gz.mono (fun v H1 eZ ft=>sC v H1 eZ ft) (K7 _ _ _ _ _ _ _ (K6 h))
       ·rw[if_neg ae]at h
        rw[if_neg (by simpa using ae)]
        exact sC _ _ _ _ h
    ·cases I
theorem ry{n:Nat}:∀(c:Code) (x:gp) (t:List Value) (H:ab) (Q:dr->List Value->ab->Prop) (b6:dr->Fr->ab->Prop),hn P n c=some x->t.length=n->
  (∀e t1 H1,t1.length=n->b6 e (gt t1) H1->Q e t1 H1)->ei P x (gt t) H b6->kt P c t H Q
 | .skip,x,t,H,Q,b6,ag,ar,aG,h=>by simp only[hn,Option.some.injEq]at ag;subst ag;exact aG _ _ _ ar h
 | .ret,x,t,H,Q,b6,ag,ar,aG,h=>by simp only[hn,Option.some.injEq]at ag;subst ag;exact aG _ _ _ ar h
 | .exit id,x,t,H,Q,b6,ag,ar,aG,h=>by simp only[hn,Option.some.injEq]at ag;subst ag;exact aG _ _ _ ar h
 | .seq a b,x,t,H,Q,b6,ag,ar,aG,h=>by
  simp only[hn]at ag
  cases aF:hn P n a with
  | none=>simp[aF]at ag
  | some ra=>
   cases ae:hn P n b with
   | none=>simp[aF,ae]at ag
   | some Fv=>
    simp only[aF,ae,Option.some.injEq]at ag
    subst ag
    refine ry a ra t H _ _ aF ar (fun e t1 H1 g9 av=>?_) h
    cases e with
    | normal=>exact ry b Fv t1 H1 Q b6 ae g9 aG av
    | exit id=>exact aG _ _ _ g9 av
    | ret=>exact aG _ _ _ g9 av
 | .cond c a b,x,t,H,Q,b6,ag,ar,aG,h=>by
  simp only[hn]at ag
  split at ag
  ·rename_i ai
   cases aF:hn P n a with
   | none=>simp[aF]at ag
   | some ra=>
    cases ae:hn P n b with
    | none=>simp[aF,ae]at ag
    | some Fv=>
     simp only[aF,ae,Option.some.injEq]at ag
     subst ag
     refine⟨ai,?_⟩
     simp only[ei]at h
     rw[xK]
     split at h
     ·rename_i ek lI
      rw[lI]
      simp only
      cases ek with
      | true=>simp only[if_true]at h⊢;exact ry a ra t H Q b6 aF ar aG h
      | false=>simp only[Bool.false_eq_true,if_false]at h⊢;exact ry b Fv t H Q b6 ae ar aG h
     ·exact h.elim
  ·cases ag
 | .block id a,x,t,H,Q,b6,ag,ar,aG,h=>by
  simp only[hn]at ag
  obtain⟨ra,aF,rfl⟩:=Option.map_eq_some_iff.1 ag
  refine ry a ra t H _ _ aF ar (fun e t1 H1 g9 av=>?_) h
  cases e with
  | normal=>exact aG _ _ _ g9 av
  | exit ht=>
   simp only[oS]at av
   simp only[By]
   split at av
   ·rename_i ad;rw[if_pos ad];exact aG _ _ _ g9 av
   ·rename_i ad;rw[if_neg ad];exact aG _ _ _ g9 av
  | ret=>exact aG _ _ _ g9 av
 | .loop a,x,t,H,Q,b6,ag,ar,aG,h=>by
  simp only[hn]at ag
  obtain⟨ra,aF,rfl⟩:=Option.map_eq_some_iff.1 ag
  simp only[ei]at h
  show Bc P (.loop a) t H Q
  generalize a2:gt t=F at h
  induction h generalizing t with
  | round ak Rj da aV=>
   rename_i F H
   subst a2
   obtain⟨e,t1,H1,aj,av⟩:=rz a t H (fun e t1 H1=>t1.length=n/\mT ak b6 e (gt t1) H1) (ry a ra t H _ _ aF ar (fun e t1 H1 g9 av=>⟨g9,av⟩) Rj)
   obtain⟨g9,av⟩:=av
   cases e with
   | normal=>
    obtain⟨bo,t2,aY,r_,r8⟩:=aV (gt t1) H1 av t1 g9 rfl
    exact⟨bo,t2,aY,.z7 aj r_,r8⟩
   | exit id=>exact⟨.exit id,t1,H1,.xn aj (by simp),aG _ _ _ g9 av⟩
   | ret=>exact⟨.ret,t1,H1,.xn aj (by simp),aG _ _ _ g9 av⟩
 | .region id ops draw,x,t,H,Q,b6,ag,ar,aG,h=>by
  simp only[hn]at ag
  split at ag
  ·split at ag
   ·rename_i ai
    obtain⟨xs,ha,rfl⟩:=Option.map_eq_some_iff.1 ag
    simp only[Bool.and_eq_true]at ai
    exact .inr ⟨ai.1,ai.2.1,ai.2.2,Lv ops.toList 0 xs t H [] [] _ _ ha ar (fun t1 H1 g9 av=>aG _ _ _ g9 av) h⟩
   ·cases ag
  split at ag
  ·rename_i ai
   obtain⟨xs,ha,rfl⟩:=Option.map_eq_some_iff.1 ag
   simp only[Bool.and_eq_true,Bool.or_eq_true,Bool.not_eq_true']at ai
   refine .inl ⟨ai.1,fun aL=>?_,?_⟩
   ·rcases ai.2 with q | q
    ·rw[aL]at q;cases q
    ·exact q
   ·exact Lz ops.toList 0 xs t H _ _ ha ar (fun t1 H1 g9 av=>aG _ _ _ g9 av) h
  ·cases ag
 | .rangeFunc ..,x,t,H,Q,b6,ag,_,_,_=>by simp[hn]at ag
 | .scope ..,x,t,H,Q,b6,ag,_,_,_=>by simp[hn]at ag
 | .label ..,x,t,H,Q,b6,ag,_,_,_=>by simp[hn]at ag
 | .goto ..,x,t,H,Q,b6,ag,_,_,_=>by simp[hn]at ag
 | .refuse ..,x,t,H,Q,b6,ag,_,_,_=>by simp[hn]at ag
theorem xG{t:List Value}{H:ab}:∀(rs:List ResultVar) (K:List Value->Prop),jG P (gt t) H rs K->oP P t H rs K
 | [],K,h=>h
 | .tmp i::rs,K,h=>xG rs _ h
 | .cell a ty::rs,K,h=>by
  simp only[jG]at h
  simp only[oP]
  split at h
  ·rename_i b i I
   rw[I]
   simp only
   split at h
   ·rename_i cs fX
    rw[fX]
    simp only
    split at h
    ·rename_i aF
     rw[aF]
     simp only
     split at h
     ·rename_i v ao
      rw[ao]
      exact xG rs _ h
     ·exact h.elim
    ·rename_i aF
     rw[aF]
     simp only
     split at h
     ·rename_i n aE
      rw[aE]
      exact⟨h.1,xG rs _ h.2⟩
     ·exact h.elim
    ·exact h.elim
   ·exact h.elim
  ·exact h.elim
theorem a0.KP{f:FuncId}{fn:Func}{x:fa}{args:List Value}{H:ab}{Q:Value->ab->Prop}(ax:P.funcs[f]?=some fn)(aE:(fn.name== "runtime.NumGoroutine")=false)(ag:comp P fn=some x)(ar:args.length<=fn.ntmps)
  (h:ei P x.code (iM args) H (pH P x.results Q)):∃v H1,x4 P f/\dK P (.call f args H) (.val v H1)/\Q v H1:=by
 unfold comp at ag
 cases ae:fn.body with
 | none=>simp[ae]at ag
 | some c=>
  simp only[ae]at ag
  obtain⟨h1,hR,rfl⟩:=Option.map_eq_some_iff.1 ag
  have a2:gt (args++List.replicate (fn.ntmps-args.length) undef)=iM args:=by
   funext i
   simp only[gt,iM,List.getD_eq_getElem?_getD]
   by_cases ad:i<args.length
   ·rw[List.getElem?_append_left ad]
   ·rw[List.getElem?_append_right (by omega),List.getElem?_eq_none (l:=args) (by omega),List.getElem?_replicate]
    split<;>rfl
  refine a0.Pp ax aE ae (ry c h1 _ H _ (pH P fn.results.toList Q) hR (by simp;omega) (fun e t1 H1 g9 av=>?_) (by rw[a2];exact h))
  cases e with
  | normal=>exact xG _ _ av
  | exit id=>exact av
  | ret=>exact xG _ _ av
theorem a0.TQ{f:FuncId}{fn:Func}{x:fa}{args:List Value}{H:ab}{Q:Value->ab->Prop}(ax:P.funcs[f]?=some fn)(aE:(fn.name== "runtime.NumGoroutine")=false)(ag:comp P fn=some x)(ar:args.length<=fn.ntmps)
  (h:ei P x.code (iM args) H (pH P x.results Q)):a0 P f args H Q:=by
 obtain⟨v,H1,o,aa,aD⟩:=a0.KP ax aE ag ar h
 exact⟨v,H1,.inl ⟨o,aa⟩,aD⟩
theorem pW.inv{body:Fr->ab->(dr->Fr->ab->Prop)->Prop}{Q:dr->Fr->ab->Prop}(ak:Nat->Fr->ab->Prop)(round:∀n F H,ak n F H->body F H (mT (fun az H1=>∃m,m<n/\ak m az H1) Q)):∀(n:Nat) (F:Fr) (H:ab),ak n F H->pW body Q F H:=by
 intro n
 induction n using Nat.strongRecOn with
 | _ n aV=>
  intro F H h
  exact .round _ (round n F H h) fun az H1 ⟨m,hm,da⟩=>aV m hm az H1 da
end
def T(i:Nat):Operand:= .tmp i
def ak(n:Int):Operand:= .const (.int .i64 n)
def C(v:Value):Operand:= .const v
def FD(f:Nat):Operand:= .func f
theorem kD(F:Fr)(i:Nat):aq F (T i)=F i:=rfl
theorem Ie(F:Fr)(n:Int):aq F (ak n)= .int .i64 n:=rfl
theorem Pu(F:Fr)(v:Value):aq F (C v)=v:=rfl
theorem Pv(F:Fr)(f:Nat):aq F (FD f)= .func (.func f) #[] #[]:=rfl
def aN(j:Nat)(w:Bool)(x:br):br:={x with g:=some (j,w)}
def bg(x:br):br:={x with b:=false}
def R(d:Nat)(x:Operand):br:=⟨true,none,some d,.move x⟩
def al(d:Nat)(x:Operand):br:=⟨true,none,some d,.assign x⟩
def cX(d:Nat)(c a b:Operand):br:=⟨true,none,some d,.pick c a b⟩
def bY(d e:Nat):br:=⟨true,none,some d,.alloc e⟩
def cZ(d e:Nat)(x:Operand):br:=⟨true,none,some d,.box e x⟩
def aO(d t:Nat)(x:Operand):br:=⟨true,none,some d,.load t x⟩
def st(t:Nat)(x y:Operand):br:=⟨true,none,none,.store t x y⟩
def ij(d:Nat)(x:Operand):br:=⟨true,none,some d,.nilCheck x⟩
def bi(d:Nat)(op:BinOp)(t:Nat)(x y:Operand):br:=⟨true,none,some d,.binOp op t x y 0⟩
def un(d:Nat)(op:UnOp)(x:Operand):br:=⟨true,none,some d,.unOp op 0 x⟩
def cg(d s t:Nat)(x:Operand):br:=⟨true,none,some d,.convert s t x⟩
def l0(d t:Nat)(x:Operand):br:=⟨true,none,some d,.makeInterface t x⟩
def uw(d:Nat)(fn:Fn)(a b:Array Operand):br:=⟨true,none,some d,.makeFunc fn a b⟩
def bk(d s:Nat)(x:Operand)(f:Nat):br:=⟨true,none,some d,.fieldAddr s x f⟩
def p7(d s:Nat)(x:Operand)(f:Nat):br:=⟨true,none,some d,.field s x f⟩
def bb(d t:Nat)(x i:Operand):br:=⟨true,none,some d,.indexAddr t x i⟩
def ew(d t:Nat)(x i:Operand):br:=⟨true,none,some d,.index t x i⟩
def ex(d:Nat)(x:Operand)(i:Nat):br:=⟨true,none,some d,.extract x i⟩
def eS(d t:Nat)(aZ:List (Nat×Operand)):br:=⟨true,none,some d,.build t aZ.toArray⟩
def fb(d t n:Nat)(aZ:List (Nat×Operand)):br:=⟨true,none,some d,.buildSlice t n aZ.toArray⟩
def gm(d t:Nat)(x:Operand)(bX ad e2:Option Operand):br:=⟨true,none,some d,.slice t x bX ad e2⟩
def ms(d t:Nat)(x y:Operand):br:=⟨true,none,some d,.makeSlice t x y⟩
def bB(d t:Nat)(x:Operand):br:=⟨true,none,some d,.call {callee:= .builtin .len,args:= #[x],argTypes:= #[t]}⟩
def ap(d bL cN:Nat)(s x:Operand):br:=⟨true,none,some d,.call {callee:= .builtin .append,args:= #[s,x],argTypes:= #[bL,cN]}⟩
def cp(d hH bL:Nat)(s x:Operand):br:=⟨true,none,some d,.call {callee:= .builtin .copy,args:= #[s,x],argTypes:= #[hH,bL]}⟩
def xw(d:Nat)(bL:List Nat)(x y:Operand):br:=⟨true,none,some d,.call {callee:= .builtin .max,args:= #[x,y],argTypes:=bL.toArray}⟩
def ux(d:Nat)(bL:List Nat)(x y:Operand):br:=⟨true,none,some d,.call {callee:= .builtin .min,args:= #[x,y],argTypes:=bL.toArray}⟩
def a6(d f:Nat)(args:List Operand):br:=⟨true,none,some d,.call {callee:= .value (.func f),args:=args.toArray,argTypes:= #[]}⟩
def yt(f:Nat)(args:List Operand):br:=⟨true,none,none,.call {callee:= .value (.func f),args:=args.toArray,argTypes:= #[]}⟩
def lD(d:Nat)(x:Operand)(args:List Operand):br:=⟨true,none,some d,.call {callee:= .value x,args:=args.toArray,argTypes:= #[]}⟩
def lr(cs:List Value)(i:Nat):List Value->List Value
 | [v]=>cs.set i v
 | aA=>c3 cs i aA
theorem Fs{cs aA:List Value}{i:Nat}(h:i+aA.length<=cs.length):lr cs i aA=c3 cs i aA:=by
 unfold lr
 split
 ·exact(XF _ (by have:=h;simp at this;omega)).symm
 ·rfl
def fin(x:Option (Value×ab))(K:Value->ab->Prop):Prop:=match x with
 | some p=>K p.1 p.2
 | none=>False
theorem rC(c:Prop)[Decidable c](v:Value)(H:ab)(K:Value->ab->Prop):fin (if c then some (v,H)else none) K=(c/\K v H):=by
 by_cases h:c
 ·rw[if_pos h];simp[fin,h]
 ·rw[if_neg h];simp[fin,h]
theorem ti(x:Option Value)(H:ab)(K:Value->ab->Prop):fin (x.map fun v=>(v,H)) K=match x with | some v=>K v H | none=>False:=by cases x<;>rfl
def isVal:Op->Bool
 | .call {callee:= .value _,.. }=>true
 | _=>false
section
variable {P:Program} {r:List br} {F:Fr} {H:ab} {Q:Fr->ab->Prop}
theorem aaS{b:Bool}{K:Value->ab->Prop}(op:Op)(h:(isVal op || iH op || hv op)=false):fV P b F H K op=fin (bU P (aq F) H op) K:=by
 have main:(match bU P (aq F) H op with
   | some (v,H1)=>(hv op=true->b=true)/\K v H1
   | none=>iH op=true/\∃v H1,m7 P (aq F) H op v H1/\(b=true\/Ext H H1)/\K v H1)=fin (bU P (aq F) H op) K:=by
  simp only[Bool.or_eq_false_iff]at h
  cases bU P (aq F) H op with
  | none=>simp[fin,h]
  | some p=>simp[fin,h]
 cases op<;>try exact main
 rename_i c
 obtain⟨callee,args,kA⟩:=c
 cases callee<;>try exact main
 simp[isVal]at h
theorem iK{b:Bool}{d:Option Nat}(op:Op)(h:(isVal op || iH op || hv op)=false):bd P (⟨b,none,d,op⟩::r) F H Q=fin (bU P (aq F) H op) (fun v H1=>bd P r (fC F d v) H1 Q):=by
 simp only[bd]
 exact aaS op h
theorem abb(d:Nat)(x:Operand):bd P (R d x::r) F H Q=bd P r (aX F d (aq F x)) H Q:=by
 rw[R,iK _ rfl];rfl
theorem abh(d:Nat)(x:Operand):bd P (al d x::r) F H Q=bd P r (aX F d (aq F x)) H Q:=by
 rw[al,iK _ rfl];rfl
theorem abg(d:Nat)(c a b:Operand):bd P (cX d c a b::r) F H Q=match aq F c with
  | .bool t=>bd P r (aX F d (if t=true then aq F a else aq F b)) H Q
  | _=>False:=by
 rw[cX,iK _ rfl];simp only[bU];cases aq F c<;>rfl
theorem Nq(d e:Nat):bd P (bY d e::r) F H Q=match dv P e with
  | some z=>(flat z=true/\(bn P e).isSome=true)/\bd P r (aX F d (.pointer (some ⟨H.length,0,none⟩))) (H++[.own e false z.cells.toList]) Q
  | none=>False:=by
 rw[bY,iK _ rfl];simp only[bU]
 cases dv P e with
 | none=>rfl
 | some z=>simp only[rC];rfl
theorem aaV(d e:Nat)(x:Operand):bd P (cZ d e x::r) F H Q=((bn P e).isSome=true/\bd P r (aX F d (.pointer (some ⟨H.length,0,none⟩))) (H++[.own e false (aq F x).cells.toList]) Q):=by
 rw[cZ,iK _ rfl];simp only[bU,rC];rfl
theorem aa6(d t:Nat)(x:Operand):bd P (aO d t x::r) F H Q=match aq F x with
  | .pointer (some ⟨b,i,none⟩)=>(match(H[b]?).bind bA.cells? with
   | some cs=>(match c_ P t with
    | some false=>(match cs[i]? with
     | some v=>bd P r (aX F d v) H Q
     | none=>False)
    | some true=>(match bn P t with
     | some n=>i+n<=cs.length/\bd P r (aX F d (.agg ((cs.drop i).take n).toArray)) H Q
     | none=>False)
    | none=>False)
   | none=>False)
  | _=>False:=by
 rw[aO,iK _ rfl];simp only[bU,h5]
 cases aq F x<;>try rfl
 rename_i a
 cases a with
 | none=>rfl
 | some a=>
  obtain⟨b,i,c⟩:=a
  cases c<;>try rfl
  simp only
  cases(H[b]?).bind bA.cells? with
  | none=>rfl
  | some cs=>
   simp only
   cases c_ P t with
   | none=>rfl
   | some g=>
    cases g with
    | false=>simp only[ti];rfl
    | true=>
     simp only
     cases bn P t with
     | none=>rfl
     | some n=>simp only[rC];rfl
theorem abi(b:Bool)(t:Nat)(x y:Operand):bd P (⟨b,none,none,.store t x y⟩::r) F H Q=match aq F x with
  | .pointer (some ⟨rq,i,none⟩)=>(match H[rq]? with
   | some (.own e l cs)=>(bn P t=some (aq F y).cells.size/\i+(aq F y).cells.size<=cs.length/\((aq F y).cells.toList.all (·.oneCell'))=true)/\b=true/\bd P r F (H.set rq (.own e l (lr cs i (aq F y).cells.toList))) Q
   | _=>False)
  | _=>False:=by
 simp only[bd,fV,bU]
 have no:∀K:Value->ab->Prop,(match(none:Option (Value×ab))with
   | some (v,H1)=>(hv (.store t x y)=true->b=true)/\K v H1
   | none=>iH (.store t x y)=true/\∃v H1,m7 P (aq F) H (.store t x y) v H1/\(b=true\/Ext H H1)/\K v H1)=False:=fun K=>by simp[iH]
 cases aq F x<;>try exact no _
 rename_i a
 cases a with
 | none=>exact no _
 | some a=>
  obtain⟨rq,i,c⟩:=a
  cases c<;>try exact no _
  simp only
  cases H[rq]? with
  | none=>exact no _
  | some X=>
   cases X<;>try exact no _
   rename_i e l cs
   simp only
   by_cases ag:bn P t=some (aq F y).cells.size/\i+(aq F y).cells.size<=cs.length/\((aq F y).cells.toList.all (·.oneCell'))=true
   ·rw[if_pos ag,Fs (by simpa using ag.2.1)]
    simp only[hv,true_implies,fC]
    exact propext ⟨fun h=>⟨ag,h.1,h.2⟩,fun h=>h.2⟩
   ·rw[if_neg ag]
    exact propext ⟨fun h=>by simp[iH]at h,fun h=>(ag h.1).elim⟩
theorem abj(t:Nat)(x y:Operand):bd P (st t x y::r) F H Q=match aq F x with
  | .pointer (some ⟨rq,i,none⟩)=>(match H[rq]? with
   | some (.own e l cs)=>(bn P t=some (aq F y).cells.size/\i+(aq F y).cells.size<=cs.length/\((aq F y).cells.toList.all (·.oneCell'))=true)/\bd P r F (H.set rq (.own e l (lr cs i (aq F y).cells.toList))) Q
   | _=>False)
  | _=>False:=by
 rw[st,abi]
 simp only[true_and]
theorem abe(d:Nat)(x:Operand):bd P (ij d x::r) F H Q=match aq F x with
  | .pointer (some a)=>bd P r (aX F d (.pointer (some a))) H Q
  | _=>False:=by
 rw[ij,iK _ rfl];simp only[bU]
 cases aq F x<;>try rfl
 rename_i a;cases a<;>rfl
theorem aaU(d:Nat)(op:BinOp)(t:Nat)(x y:Operand):bd P (bi d op t x y::r) F H Q=match dO P op t (aq F x) (aq F y)with
  | some v=>bd P r (aX F d v) H Q
  | none=>False:=by
 rw[bi,iK _ rfl];simp only[bU,ti];rfl
theorem abk(d:Nat)(op:UnOp)(x:Operand):bd P (un d op x::r) F H Q=match oD op (aq F x)with
  | some v=>bd P r (aX F d v) H Q
  | none=>False:=by
 rw[un,iK _ rfl];simp only[bU,ti];rfl
theorem aa1(d s:Nat)(x:Operand)(f:Nat):bd P (bk d s x f::r) F H Q=match aq F x with
  | .pointer (some ⟨b,i,none⟩)=>(match gf P s f with
   | some off=>bd P r (aX F d (.pointer (some ⟨b,i+off,none⟩))) H Q
   | none=>False)
  | _=>False:=by
 rw[bk,iK _ rfl];simp only[bU]
 cases aq F x<;>try rfl
 rename_i a
 cases a with
 | none=>rfl
 | some a=>
  obtain⟨b,i,c⟩:=a
  cases c<;>try rfl
  simp only
  cases gf P s f<;>rfl
theorem aa3(d s:Nat)(x:Operand)(f:Nat):bd P (p7 d s x f::r) F H Q=match aq F x with
  | .agg cs=>(match p8 P s f with
   | some c=>(match oT cs c with
    | some v=>bd P r (aX F d v) H Q
    | none=>False)
   | none=>False)
  | _=>False:=by
 rw[p7,iK _ rfl];simp only[bU]
 cases aq F x<;>try rfl
 simp only
 cases p8 P s f with
 | none=>rfl
 | some c=>simp only[ti];rfl
theorem aa4(d t:Nat)(x i:Operand):bd P (bb d t x i::r) F H Q=match aq F x,aq F i with
  | .slice (some ⟨b,U,none⟩) len _,.int _ n=>(match eO P t with
   | some e=>(match bn P e with
    | some J=>(0<=n/\n<len)/\bd P r (aX F d (.pointer (some ⟨b,U+n.toNat*J,none⟩))) H Q
    | none=>False)
   | none=>False)
  | _,_=>False:=by
 rw[bb,iK _ rfl];simp only[bU]
 cases aq F x<;>try rfl
 rename_i a len cap
 cases a with
 | none=>rfl
 | some a=>
  obtain⟨b,U,c⟩:=a
  cases c<;>try rfl
  cases aq F i<;>try rfl
  simp only
  cases eO P t with
  | none=>rfl
  | some e=>
   simp only
   cases bn P e with
   | none=>rfl
   | some n=>simp only[rC];rfl
theorem aa5(d t:Nat)(x i:Operand):bd P (ew d t x i::r) F H Q=match aq F x,aq F i with
  | .string s,.int _ n=>(iq P t=true/\0<=n/\n<s.size)/\bd P r (aX F d (.int .u8 ((s.data.getD n.toNat 0).toNat:Int))) H Q
  | _,_=>False:=by
 rw[ew,iK _ rfl];simp only[bU]
 cases aq F x<;>try rfl
 cases aq F i<;>try rfl
 simp only[rC];rfl
theorem aa0(d:Nat)(x:Operand)(i:Nat):bd P (ex d x i::r) F H Q=match aq F x with
  | .tuple aA=>(match aA[i]? with
   | some v=>bd P r (aX F d v) H Q
   | none=>False)
  | _=>False:=by
 rw[ex,iK _ rfl];simp only[bU]
 cases aq F x<;>try rfl
 simp only[ti];rfl
theorem aa9(d t:Nat)(x:Operand):bd P (l0 d t x::r) F H Q=(P.concrete t=true/\bd P r (aX F d (.iface t (aq F x))) H Q):=by
 rw[l0,iK _ rfl];simp only[bU,rC];rfl
theorem aa8(d:Nat)(fn:Fn)(a b:Array Operand):bd P (uw d fn a b::r) F H Q=bd P r (aX F d (.func fn (a.map (aq F)) (b.map (aq F)))) H Q:=by
 rw[uw,iK _ rfl];rfl
def Az(P:Program)(F:Fr)(t:Nat)(aZ:List (Nat×Operand)):Option Value:=match dv P t with
 | some z=>if flat z=true then dk P (Instr.build t (aZ.toArray.map fun p=>(p.1,aq F p.2)))else none
 | none=>none
theorem aaT(d t:Nat)(aZ:List (Nat×Operand)):bd P (eS d t aZ::r) F H Q=match Az P F t aZ with
  | some v=>bd P r (aX F d v) H Q
  | none=>False:=by
 rw[eS,iK _ rfl];simp only[bU,Az]
 cases dv P t with
 | none=>rfl
 | some z=>
  simp only
  split
  ·simp only[ti];rfl
  ·rfl
theorem aa7(d t:Nat)(x:Operand):bd P (bB d t x::r) F H Q=match aq F x with
  | .slice _ n _=>(match eO P t with
   | some _=>bd P r (aX F d (.int .i64 n)) H Q
   | none=>False)
  | .string s=>iq P t=true/\bd P r (aX F d (.int .i64 s.size)) H Q
  | _=>False:=by
 rw[bB,iK _ rfl];simp only[bU,q1]
 cases aq F x<;>try rfl
 ·simp only[rC];rfl
 ·simp only;cases eO P t<;>rfl
theorem abd(d:Nat)(bL:List Nat)(x y:Operand):bd P (xw d bL x y::r) F H Q=match aq F x,aq F y with
  | .int k a,.int _ b=>bd P r (aX F d (.int k (if b>a then b else a))) H Q
  | _,_=>False:=by
 rw[xw,iK _ rfl];simp only[bU,q1]
 cases aq F x<;>try rfl
 cases aq F y<;>rfl
theorem aba(d:Nat)(bL:List Nat)(x y:Operand):bd P (ux d bL x y::r) F H Q=match aq F x,aq F y with
  | .int k a,.int _ b=>bd P r (aX F d (.int k (if b<a then b else a))) H Q
  | _,_=>False:=by
 rw[ux,iK _ rfl];simp only[bU,q1]
 cases aq F x<;>try rfl
 cases aq F y<;>rfl
theorem Fw(b:Bool)(d:Option Nat)(f:Nat)(args:Array Operand):bd P (⟨b,none,d,.call {callee:= .value (.func f),args:=args,argTypes:= #[]}⟩::r) F H Q=a0 P f (args.toList.map (aq F)) H (fun v H1=>(b=true\/Ext H H1)/\bd P r (fC F d v) H1 Q):=by
 simp only[bd,fV,aq]
 simp
theorem aaW(d f:Nat)(args:List Operand):bd P (a6 d f args::r) F H Q=a0 P f (args.map (aq F)) H (fun v H1=>bd P r (aX F d v) H1 Q):=by
 rw[a6,Fw];simp[fC]
theorem aaX(f:Nat)(args:List Operand):bd P (yt f args::r) F H Q=a0 P f (args.map (aq F)) H (fun v H1=>bd P r F H1 Q):=by
 rw[yt,Fw];simp[fC]
theorem abf(d f:Nat)(args:List Operand):bd P (bg (a6 d f args)::r) F H Q=a0 P f (args.map (aq F)) H (fun v H1=>Ext H H1/\bd P r (aX F d v) H1 Q):=by
 simp only[bg,a6];rw[Fw];simp[fC]
theorem aaY(d:Nat)(x:Operand)(args:List Operand):bd P (lD d x args::r) F H Q=match aq F x with
  | .func (.func g) first cap=>a0 P g (first.toList++args.map (aq F)++cap.toList) H (fun v H1=>bd P r (aX F d v) H1 Q)
  | _=>False:=by
 simp only[bd,lD,fV]
 cases aq F x<;>try rfl
 rename_i fn a b
 cases fn<;>simp[fC]
theorem aaZ(d s t:Nat)(x:Operand){iY:IntKind}{n:Int}(h:aq F x= .int iY n){gH k:IntKind}(an:jw P s=some gH)(bt:jw P t=some k):bd P (cg d s t x::r) F H Q=bd P r (aX F d (.int k (k.wrap n))) H Q:=by
 simp[bd,cg,fV,bU,hv,fC,h,an,bt]
theorem abc{b:Bool}{d:Option Nat}{op:Op}(ao:isVal op=false)(hm:iH op=true)(aE:bU P (aq F) H op=none){v:Value}{H1:ab}(av:m7 P (aq F) H op v H1)(ae:b=true\/Ext H H1)(h:bd P r (fC F d v) H1 Q):bd P (⟨b,none,d,op⟩::r) F H Q:=by
 simp only[bd]
 have main:(match bU P (aq F) H op with
   | some (v,H1)=>(hv op=true->b=true)/\bd P r (fC F d v) H1 Q
   | none=>iH op=true/\∃v H1,m7 P (aq F) H op v H1/\(b=true\/Ext H H1)/\bd P r (fC F d v) H1 Q):=by
  rw[aE]
  exact⟨hm,v,H1,av,ae,h⟩
 cases op<;>try exact main
 rename_i c
 obtain⟨callee,args,kA⟩:=c
 cases callee<;>try exact main
 simp[isVal]at ao
end
def nI:List Value->Nat->List Value->List Value
 | cs,_,[]=>cs
 | cs,i,v::aA=>nI (cs.set i v) (i+1) aA
theorem Il(off:Nat):∀(aA:List Value) (k:Nat) (cs:Array Value),((aA.zipIdx k).foldl (fun cs (p3:Value×Nat)=>cs.setIfInBounds (off+p3.2) p3.1) cs).toList=nI cs.toList (off+k) aA
 | [],k,cs=>rfl
 | v::aA,k,cs=>by
  simp only[List.zipIdx_cons,List.foldl_cons,nI]
  rw[Il off aA (k+1) _]
  simp[Nat.add_assoc]
def iy(place:Nat->Option (Nat×Nat))(cs:List Value):List (Nat×Value)->Option (List Value)
 | []=>some cs
 | (i,v)::rest=>match place i with
  | none=>none
  | some (off,size)=>if v.cells.toList.length=size/\off+size<=cs.length then iy place (nI cs off v.cells.toList) rest else none
def kE(pl:List (Nat×Nat))(cs:List Value)(parts:List (Nat×Value)):Option (List Value):=iy (fun i=>pl[i]?) cs parts
theorem fill_eq(place:Nat->Option (Nat×Nat)):∀(parts:List (Nat×Value)) (cs:Array Value),Instr.fill place cs parts=(iy place cs.toList parts).map (·.toArray)
 | [],cs=>by simp[Instr.fill,iy]
 | (i,v)::rest,cs=>by
  simp only[iy,Instr.fill]
  cases place i with
  | none=>rfl
  | some os=>
   obtain⟨off,size⟩:=os
   simp only
   have e:(v.cells.zipIdx.foldl (fun cs (x:Value×Nat)=>cs.setIfInBounds (off+x.2) x.1) cs).toList=nI cs.toList off v.cells.toList:=by
    have:=Il off v.cells.toList 0 cs
    rw[<-Array.foldl_toList,Array.toList_zipIdx]
    simpa using this
   by_cases ag:v.cells.toList.length=size/\off+size<=cs.toList.length
   ·rw[if_pos ag]
    have o:v.cells.size=size:=by simpa using ag.1
    have aa:off+size<=cs.size:=by simpa using ag.2
    rw[if_neg (by simp[o];omega),fill_eq place rest,<-e]
   ·rw[if_neg ag]
    have:(decide (v.cells.size≠size) || decide (off+v.cells.size>cs.size))=true:=by
     by_cases o:v.cells.size=size
     ·have aa:¬(off+size<=cs.size):=fun h=>ag ⟨by simpa using o,by simpa using h⟩
      simp[o];omega
     ·simp[o]
    rw[if_pos this]
    rfl
def l1(P:Program)(t:TypeId):Option (List (Nat×Nat)):=match P.underlying t with
 | some (.struct jk)=>jk.toList.mapM fun f=>(bn P f.type).map fun n=>(f.offset,n)
 | _=>none
theorem LO{P:Program}{α β:Type}(f:α->Sem β)(g:α->Option β)(h:∀a,dk P (f a)=g a):∀l:List α,dk P (l.mapM f)=l.mapM g
 | []=>by simp[eN]
 | a::l=>by
  simp only[List.mapM_cons,fr,eN,h,LO f g h l]
  rfl
theorem Xh{P:Program}{F:Fr}{t:Nat}{aZ:List (Nat×Operand)}{z:Value}{pl:List (Nat×Nat)}(aP:dv P t=some z)(dt:flat z=true)(aT:l1 P t=some pl):
  Az P F t aZ=(kE pl z.cells.toList (aZ.map fun p=>(p.1,aq F p.2))).map fun out=> .agg out.toArray:=by
 unfold l1 at aT
 split at aT
 ·rename_i jk hu
  simp only[Az,aP,dt,if_true,Instr.build,fr,Es,Option.bind_some,nG,hu]
  have hm:dk P (jk.mapM fun f=>do pure (f.offset,<-sizeOf f.type))=some pl.toArray:=by
   rw[Array.mapM_eq_mapM_toList,oz,LO _ (fun f=>(bn P f.type).map fun n=>(f.offset,n)) (fun f=>by
    simp only[fr,eN,xA]
    cases bn P f.type<;>rfl),aT]
   rfl
  rw[hm]
  simp only[Option.bind_some]
  have:=fill_eq (fun x=>pl.toArray[x]?) (aZ.map fun p=>(p.1,aq F p.2)) z.cells
  rw[show(fun x=>pl.toArray[x]?)=fun x=>pl[x]? from funext fun x=>by simp]at this
  have ar:(aZ.toArray.map fun p=>(p.1,aq F p.2)).toList=aZ.map fun p=>(p.1,aq F p.2):=by simp
  rw[ar,show(fun x=>pl.toArray[x]?)=fun x=>pl[x]? from funext fun x=>by simp,this]
  unfold kE
  cases iy (fun i=>pl[i]?) z.cells.toList (aZ.map fun p=>(p.1,aq F p.2))<;>rfl
 ·cases aT
@[simp] theorem ado(pl:List (Nat×Nat))(cs:List Value):kE pl cs []=some cs:=rfl
@[simp] theorem adn(pl:List (Nat×Nat))(cs:List Value)(i:Nat)(v:Value)(rest:List (Nat×Value)):kE pl cs ((i,v)::rest)=match pl[i]? with
  | none=>none
  | some (off,size)=>if v.cells.toList.length=size/\off+size<=cs.length then kE pl (nI cs off v.cells.toList) rest else none:=rfl
attribute [simp] nI
def eI{α:Type}(U:Option α)(K:α->Prop):Prop:=match U with
 | some v=>K v
 | none=>False
def ga(c:Prop)(K:Prop):Prop:=c/\K
def hB(b:Bool)(cu cT:Prop):Prop:=match b with
 | true=>cu
 | false=>cT
def FP(v:Value)(K:Addr->Prop):Prop:=match v with
 | .pointer (some a)=>K a
 | _=>False
def ya(v:Value)(K:Bool->Prop):Prop:=match v with
 | .bool b=>K b
 | _=>False
def oN(v:Value)(K:IntKind->Int->Prop):Prop:=match v with
 | .int k n=>K k n
 | _=>False
def rk(v:Value)(K:Nat->Nat->Prop):Prop:=match v with
 | .pointer (some ⟨b,i,none⟩)=>K b i
 | _=>False
def yd(v:Value)(K:Option Addr->Nat->Nat->Prop):Prop:=match v with
 | .slice a n c=>K a n c
 | _=>False
def x_(a:Option Addr)(K:Nat->Nat->Prop):Prop:=match a with
 | some ⟨b,i,none⟩=>K b i
 | _=>False
def FV(v:Value)(K:ByteArray->Prop):Prop:=match v with
 | .string s=>K s
 | _=>False
def m8(v:Value)(K:Array Value->Prop):Prop:=match v with
 | .agg cs=>K cs
 | _=>False
def Bk(v:Value)(K:Array Value->Prop):Prop:=match v with
 | .tuple cs=>K cs
 | _=>False
def FN(v:Value)(K:Nat->Array Value->Array Value->Prop):Prop:=match v with
 | .func (.func g) a b=>K g a b
 | _=>False
def FR(x:Option bA)(K:TypeId->Bool->List Value->Prop):Prop:=match x with
 | some (.own e l cs)=>K e l cs
 | _=>False
section
theorem Nx(K:Prop):ga True K=K:=by simp[ga]
theorem hB.mk{b:Bool}{cu cT:Prop}(o:b=true->cu)(aa:b=false->cT):hB b cu cT:=by
 cases b
 ·exact aa rfl
 ·exact o rfl
theorem hB.cC{p:Prop}[Decidable p]{cu cT:Prop}(o:p->cu)(aa:¬p->cT):hB (decide p) cu cT:=by
 by_cases h:p
 ·rw[decide_eq_true h];exact o h
 ·rw[decide_eq_false h];exact aa h
@[simp] theorem agh(F:Fr)(d:Nat)(v:Value)(i:Nat):aX F d v i=if i=d then v else F i:=rfl
attribute [simp] kD Ie Pu Pv
@[simp] theorem acz(b:Bool):gR (.bool b)=some b:=rfl
@[simp] theorem ab5(a:Value)(l:List Value):iM (a::l) 0=a:=rfl
@[simp] theorem ab6(a b:Value)(l:List Value):iM (a::b::l) 1=b:=rfl
@[simp] theorem ab7(a b c:Value)(l:List Value):iM (a::b::c::l) 2=c:=rfl
@[simp] theorem ab8(a b c d:Value)(l:List Value):iM (a::b::c::d::l) 3=d:=rfl
@[simp] theorem ab9(a b c d e:Value)(l:List Value):iM (a::b::c::d::e::l) 4=e:=rfl
@[simp] theorem aca(a b c d e f:Value)(l:List Value):iM (a::b::c::d::e::f::l) 5=f:=rfl
@[simp] theorem acb(a b c d e f g:Value)(l:List Value):iM (a::b::c::d::e::f::g::l) 6=g:=rfl
theorem cP{n:Int}(o: -9223372036854775808<=n)(aa:n<9223372036854775808):IntKind.wrap .i64 n=n:=by
 simp only[IntKind.wrap,IntKind.bits,IntKind.signed]
 simp
 split<;>omega
theorem fR{n:Int}(o:0<=n)(aa:n<18446744073709551616):IntKind.wrap .u64 n=n:=by
 simp only[IntKind.wrap,IntKind.bits,IntKind.signed]
 simp
 omega
theorem lu{n:Int}(o:0<=n)(aa:n<4294967296):IntKind.wrap .u32 n=n:=by
 simp only[IntKind.wrap,IntKind.bits,IntKind.signed]
 simp
 omega
theorem Ft{n:Int}(o:0<=n)(aa:n<256):IntKind.wrap .u8 n=n:=by
 simp only[IntKind.wrap,IntKind.bits,IntKind.signed]
 simp
 omega
theorem nM(n:Int):IntKind.wrap .u32 n=n % 4294967296:=by
 simp only[IntKind.wrap,IntKind.bits,IntKind.signed]
 simp
theorem Nk(n:Int):IntKind.wrap .u64 n=n % 18446744073709551616:=by
 simp only[IntKind.wrap,IntKind.bits,IntKind.signed]
 simp
@[simp] theorem acu:IntKind.bits .u64=64:=rfl
@[simp] theorem acs:IntKind.bits .u32=32:=rfl
@[simp] theorem acr:IntKind.bits .i64=64:=rfl
@[simp] theorem acv:IntKind.bits .u8=8:=rfl
@[simp] theorem ae6:IntKind.signed .u64=false:=rfl
@[simp] theorem ae5:IntKind.signed .u32=false:=rfl
@[simp] theorem ae7:IntKind.signed .u8=false:=rfl
@[simp] theorem ae4:IntKind.signed .i64=true:=rfl
theorem ml(a:Int){b:Int}(h:0<=b):a.fdiv b=a/b:=Int.fdiv_eq_ediv_of_nonneg a h
section
variable {P:Program} {t:Nat} {k bK:IntKind} {a b:Int}
@[simp] theorem Xc:dO P .add t (.int k a) (.int k b)=some (.int k (k.wrap (a+b))):=by simp[dO,jI]
@[simp] theorem ae1:dO P .sub t (.int k a) (.int k b)=some (.int k (k.wrap (a-b))):=by simp[dO,jI]
@[simp] theorem aeP:dO P .mul t (.int k a) (.int k b)=some (.int k (k.wrap (a*b))):=by simp[dO,jI]
@[simp] theorem aeL:dO P .eql t (.int k a) (.int k b)=some (.bool (decide (a=b))):=by simp[dO,jI];rfl
@[simp] theorem aeQ:dO P .neq t (.int k a) (.int k b)=some (.bool (decide (a≠b))):=by
 simp[dO,jI]
 by_cases h:a=b<;>simp[h]
@[simp] theorem Xe:dO P .lss t (.int k a) (.int k b)=some (.bool (decide (a<b))):=by simp[dO,jI]
@[simp] theorem aeO:dO P .leq t (.int k a) (.int k b)=some (.bool (decide (a<=b))):=by simp[dO,jI]
@[simp] theorem aeN:dO P .gtr t (.int k a) (.int k b)=some (.bool (decide (b<a))):=by simp[dO,jI]
@[simp] theorem aeM:dO P .geq t (.int k a) (.int k b)=some (.bool (decide (b<=a))):=by simp[dO,jI]
@[simp] theorem aeU:dO P .quo t (.int k a) (.int k b)=if b=0 then none else some (.int k (k.wrap (a.tdiv b))):=by simp[dO,jI]
@[simp] theorem aeV:dO P .rem t (.int k a) (.int k b)=if b=0 then none else some (.int k (a.tmod b)):=by simp[dO,jI]
@[simp] theorem Mf:dO P .or t (.int k a) (.int k b)=some (.int k (k.wrap (BitVec.ofInt k.bits a ||| BitVec.ofInt k.bits b).toNat)):=by simp[dO,jI]
@[simp] theorem Xd:dO P .and t (.int k a) (.int k b)=some (.int k (k.wrap (BitVec.ofInt k.bits a&&&BitVec.ofInt k.bits b).toNat)):=by simp[dO,jI]
@[simp] theorem ae2:dO P .xor t (.int k a) (.int k b)=some (.int k (k.wrap (BitVec.ofInt k.bits a^^^BitVec.ofInt k.bits b).toNat)):=by simp[dO,jI]
@[simp] theorem Xg:dO P .shl t (.int k a) (.int bK b)=if b<0 then none else some (.int k (k.wrap (a*2^(min b.toNat k.bits)))):=by simp[dO,vs]
@[simp] theorem aeZ:dO P .shr t (.int k a) (.int bK b)=if b<0 then none else some (.int k (a.fdiv (2^(min b.toNat k.bits)))):=by simp[dO,vs]
@[simp] theorem aeX{x y:ByteArray}:dO P .eql t (.string x) (.string y)=some (.bool (x.toList==y.toList)):=by simp[dO,s8]
@[simp] theorem ae0{x y:ByteArray}:dO P .neq t (.string x) (.string y)=some (.bool !(x.toList==y.toList)):=by simp[dO,s8]
@[simp] theorem aeW{x y:ByteArray}:dO P .add t (.string x) (.string y)=if x.size+y.size<=9223372036854775807 then some (.string (x++y))else none:=by simp[dO,s8]
@[simp] theorem aeJ{x y:Bool}:dO P .eql t (.bool x) (.bool y)=if s9 P t=true then some (.bool (x==y))else none:=by simp[dO]
@[simp] theorem aeK{x y:Bool}:dO P .neq t (.bool x) (.bool y)=if s9 P t=true then some (.bool (!(x==y)))else none:=by simp[dO]
@[simp] theorem aeR{x:Option Addr}{n c:Nat}:dO P .eql t (.slice x n c) (.slice none 0 0)=(eO P t).map fun _=> .bool x.isNone:=by simp only[dO];cases eO P t<;>rfl
@[simp] theorem ae8{x:Int}:oD .neg (.int k x)=some (.int k (k.wrap (0-x))):=rfl
@[simp] theorem ae9{x:Bool}:oD .not (.bool x)=some (.bool !x):=rfl
@[simp] theorem afa{x:Int}:oD .xor (.int k x)=some (.int k (k.wrap (BitVec.ofInt k.bits (if k.signed then-1 else k.max)^^^BitVec.ofInt k.bits x).toNat)):=rfl
end
section
variable {P:Program} {r:List br} {F:Fr} {H:ab} {Q:Fr->ab->Prop}
def hz(x:br):br:={x with g:=none}
def m2(U:Option Bool)(w:Bool)(cu cT:Prop):Prop:=if U=some w then cu else cT
theorem ND(b:Bool)(cu cT:Prop):m2 (some b) true cu cT=hB b cu cT:=by cases b<;>simp[m2,hB]
theorem NC(b:Bool)(cu cT:Prop):m2 (some b) false cu cT=hB b cT cu:=by cases b<;>simp[m2,hB]
theorem aaB(j:Nat)(w:Bool)(x:br):bd P (aN j w x::r) F H Q=m2 (gR (F j)) w (bd P (hz x::r) F H Q) (bd P r (fC F x.d undef) H Q):=rfl
@[simp] theorem adp(d:Nat)(v:Value):fC F (some d) v=aX F d v:=rfl
@[simp] theorem aga(x:br):hz (bg x)=bg (hz x):=rfl
@[simp] theorem ade(x:br):(bg x).d=x.d:=rfl
@[simp] theorem af9(d:Nat)(x:Operand):hz (R d x)=R d x:=rfl
@[simp] theorem adb(d:Nat)(x:Operand):(R d x).d=some d:=rfl
@[simp] theorem agd(d:Nat)(x:Operand):hz (al d x)=al d x:=rfl
@[simp] theorem adh(d:Nat)(x:Operand):(al d x).d=some d:=rfl
@[simp] theorem agc(d:Nat)(c a b:Operand):hz (cX d c a b)=cX d c a b:=rfl
@[simp] theorem adg(d:Nat)(c a b:Operand):(cX d c a b).d=some d:=rfl
@[simp] theorem afV(d e:Nat):hz (bY d e)=bY d e:=rfl
@[simp] theorem acW(d e:Nat):(bY d e).d=some d:=rfl
@[simp] theorem afX(d e:Nat)(x:Operand):hz (cZ d e x)=cZ d e x:=rfl
@[simp] theorem acZ(d e:Nat)(x:Operand):(cZ d e x).d=some d:=rfl
@[simp] theorem af6(d t:Nat)(x:Operand):hz (aO d t x)=aO d t x:=rfl
@[simp] theorem ac8(d t:Nat)(x:Operand):(aO d t x).d=some d:=rfl
@[simp] theorem agb(d:Nat)(x:Operand):hz (ij d x)=ij d x:=rfl
@[simp] theorem adf(d:Nat)(x:Operand):(ij d x).d=some d:=rfl
@[simp] theorem afW(d:Nat)(op:BinOp)(t:Nat)(x y:Operand):hz (bi d op t x y)=bi d op t x y:=rfl
@[simp] theorem acX(d:Nat)(op:BinOp)(t:Nat)(x y:Operand):(bi d op t x y).d=some d:=rfl
@[simp] theorem agf(d:Nat)(op:UnOp)(x:Operand):hz (un d op x)=un d op x:=rfl
@[simp] theorem adj(d:Nat)(op:UnOp)(x:Operand):(un d op x).d=some d:=rfl
@[simp] theorem af0(d s t:Nat)(x:Operand):hz (cg d s t x)=cg d s t x:=rfl
@[simp] theorem ac2(d s t:Nat)(x:Operand):(cg d s t x).d=some d:=rfl
@[simp] theorem af2(d s:Nat)(x:Operand)(f:Nat):hz (bk d s x f)=bk d s x f:=rfl
@[simp] theorem ac4(d s:Nat)(x:Operand)(f:Nat):(bk d s x f).d=some d:=rfl
@[simp] theorem af3(d s:Nat)(x:Operand)(f:Nat):hz (p7 d s x f)=p7 d s x f:=rfl
@[simp] theorem ac5(d s:Nat)(x:Operand)(f:Nat):(p7 d s x f).d=some d:=rfl
@[simp] theorem af4(d t:Nat)(x i:Operand):hz (bb d t x i)=bb d t x i:=rfl
@[simp] theorem ac6(d t:Nat)(x i:Operand):(bb d t x i).d=some d:=rfl
@[simp] theorem af5(d t:Nat)(x i:Operand):hz (ew d t x i)=ew d t x i:=rfl
@[simp] theorem ac7(d t:Nat)(x i:Operand):(ew d t x i).d=some d:=rfl
@[simp] theorem af1(d:Nat)(x:Operand)(i:Nat):hz (ex d x i)=ex d x i:=rfl
@[simp] theorem ac3(d:Nat)(x:Operand)(i:Nat):(ex d x i).d=some d:=rfl
@[simp] theorem age(d t:Nat)(x:Operand)(bX ad e2:Option Operand):hz (gm d t x bX ad e2)=gm d t x bX ad e2:=rfl
@[simp] theorem adi(d t:Nat)(x:Operand)(bX ad e2:Option Operand):(gm d t x bX ad e2).d=some d:=rfl
@[simp] theorem af7(d t:Nat)(x:Operand):hz (bB d t x)=bB d t x:=rfl
@[simp] theorem ac9(d t:Nat)(x:Operand):(bB d t x).d=some d:=rfl
@[simp] theorem afY(d f:Nat)(args:List Operand):hz (a6 d f args)=a6 d f args:=rfl
@[simp] theorem ac0(d f:Nat)(args:List Operand):(a6 d f args).d=some d:=rfl
@[simp] theorem afZ(d:Nat)(x:Operand)(args:List Operand):hz (lD d x args)=lD d x args:=rfl
@[simp] theorem ac1(d:Nat)(x:Operand)(args:List Operand):(lD d x args).d=some d:=rfl
@[simp] theorem af8(d t:Nat)(x:Operand):hz (l0 d t x)=l0 d t x:=rfl
@[simp] theorem ada(d t:Nat)(x:Operand):(l0 d t x).d=some d:=rfl
theorem aaJ(d:Nat)(c a b:Operand):bd P (cX d c a b::r) F H Q=ya (aq F c) fun t=>bd P r (aX F d (if t=true then aq F a else aq F b)) H Q:=by
 rw[abg];cases aq F c<;>rfl
theorem aat(d e:Nat):bd P (bY d e::r) F H Q=eI (dv P e) fun z=>ga (flat z=true/\(bn P e).isSome=true) (bd P r (aX F d (.pointer (some ⟨H.length,0,none⟩))) (H++[.own e false z.cells.toList]) Q):=by
 rw[Nq];cases dv P e<;>rfl
theorem Nl(d e:Nat)(x:Operand):bd P (cZ d e x::r) F H Q=ga ((bn P e).isSome=true) (bd P r (aX F d (.pointer (some ⟨H.length,0,none⟩))) (H++[.own e false (aq F x).cells.toList]) Q):=by
 rw[aaV];rfl
def lenOf(P:Program)(t:Nat):Value->Option Nat
 | .slice _ n _=>(eO P t).map fun _=>n
 | .string s=>if iq P t=true then some s.size else none
 | _=>none
theorem aaE(d t:Nat)(x:Operand):bd P (aO d t x::r) F H Q=rk (aq F x) fun b i=>eI ((H[b]?).bind bA.cells?) fun cs=>eI (c_ P t) fun g=>hB g (eI (bn P t) fun n=>ga (i+n<=cs.length) (bd P r (aX F d (.agg ((cs.drop i).take n).toArray)) H Q)) (eI cs[i]? fun v=>bd P r (aX F d v) H Q):=by
 rw[aa6]
 cases aq F x<;>try rfl
 rename_i a
 cases a with
 | none=>rfl
 | some a=>
  obtain⟨b,i,c⟩:=a
  cases c<;>try rfl
  simp only[rk]
  cases(H[b]?).bind bA.cells? with
  | none=>rfl
  | some cs=>
   simp only[eI]
   cases c_ P t with
   | none=>rfl
   | some g=>
    cases g with
    | false=>simp only[hB];cases cs[i]?<;>rfl
    | true=>simp only[hB];cases bn P t<;>rfl
theorem aaK(t:Nat)(x y:Operand):bd P (st t x y::r) F H Q=rk (aq F x) fun b i=>FR H[b]? fun e l cs=>ga (bn P t=some (aq F y).cells.size/\i+(aq F y).cells.size<=cs.length/\((aq F y).cells.toList.all (·.oneCell'))=true) (bd P r F (H.set b (.own e l (lr cs i (aq F y).cells.toList))) Q):=by
 rw[abj]
 cases aq F x<;>try rfl
theorem aaI(d:Nat)(x:Operand):bd P (ij d x::r) F H Q=FP (aq F x) fun a=>bd P r (aX F d (.pointer (some a))) H Q:=by
 rw[abe]
 cases aq F x<;>try rfl
theorem aav(d:Nat)(op:BinOp)(t:Nat)(x y:Operand):bd P (bi d op t x y::r) F H Q=eI (dO P op t (aq F x) (aq F y)) fun v=>bd P r (aX F d v) H Q:=by
 rw[aaU];cases dO P op t (aq F x) (aq F y)<;>rfl
theorem aaL(d:Nat)(op:UnOp)(x:Operand):bd P (un d op x::r) F H Q=eI (oD op (aq F x)) fun v=>bd P r (aX F d v) H Q:=by
 rw[abk];cases oD op (aq F x)<;>rfl
theorem aaz(d s:Nat)(x:Operand)(f:Nat):bd P (bk d s x f::r) F H Q=rk (aq F x) fun b i=>eI (gf P s f) fun off=>bd P r (aX F d (.pointer (some ⟨b,i+off,none⟩))) H Q:=by
 rw[aa1]
 cases aq F x<;>try rfl
 rename_i a
 cases a with
 | none=>rfl
 | some a=>
  obtain⟨b,i,c⟩:=a
  cases c<;>try rfl
  cases gf P s f<;>rfl
theorem aaA(d s:Nat)(x:Operand)(f:Nat):bd P (p7 d s x f::r) F H Q=m8 (aq F x) fun cs=>eI (p8 P s f) fun c=>eI (oT cs c) fun v=>bd P r (aX F d v) H Q:=by
 rw[aa3]
 cases aq F x<;>try rfl
 rename_i cs
 simp only[m8,eI]
 cases p8 P s f with
 | none=>rfl
 | some c=>simp only;cases oT cs c<;>rfl
theorem yK{α:Type}(U:Option α){K:α->Prop}(h:∀v,K v=False):eI U K=False:=by cases U<;>simp[eI,h]
theorem aaC(d t:Nat)(x i:Operand):bd P (bb d t x i::r) F H Q=yd (aq F x) fun a len _=>oN (aq F i) fun _ n=>eI (eO P t) fun e=>eI (bn P e) fun J=>x_ a fun b U=>ga (0<=n/\n<len) (bd P r (aX F d (.pointer (some ⟨b,U+n.toNat*J,none⟩))) H Q):=by
 rw[aa4]
 generalize aq F x=u
 generalize aq F i=w
 cases u with
 | slice a len cap=>
  rcases a with _ | ⟨b,U,_ | c⟩
  ·cases w with
   | int k n=>exact(yK _ fun e=>yK _ fun z=>rfl).symm
   | _=>rfl
  ·cases w with
   | int k n=>
    simp only[yd,oN,x_]
    cases eO P t with
    | none=>rfl
    | some e=>
     simp only[eI]
     cases bn P e<;>rfl
   | _=>rfl
  ·cases w with
   | int k n=>exact(yK _ fun e=>yK _ fun z=>rfl).symm
   | _=>rfl
 | _=>rfl
theorem aaD(d t:Nat)(x i:Operand):bd P (ew d t x i::r) F H Q=FV (aq F x) fun s=>oN (aq F i) fun _ n=>ga (iq P t=true/\0<=n/\n<s.size) (bd P r (aX F d (.int .u8 ((s.data.getD n.toNat 0).toNat:Int))) H Q):=by
 rw[aa5]
 cases aq F x<;>try rfl
 cases aq F i<;>rfl
theorem aay(d:Nat)(x:Operand)(i:Nat):bd P (ex d x i::r) F H Q=Bk (aq F x) fun aA=>eI aA[i]? fun v=>bd P r (aX F d v) H Q:=by
 rw[aa0]
 cases aq F x<;>try rfl
 rename_i aA
 simp only[Bk]
 cases aA[i]?<;>rfl
theorem aau{d t:Nat}{aZ:List (Nat×Operand)}{z:Value}{pl:List (Nat×Nat)}(aP:dv P t=some z)(dt:flat z=true)(aT:l1 P t=some pl):
  bd P (eS d t aZ::r) F H Q=eI (kE pl z.cells.toList (aZ.map fun p=>(p.1,aq F p.2))) fun out=>bd P r (aX F d (.agg out.toArray)) H Q:=by
 rw[aaT,Xh aP dt aT]
 cases kE pl z.cells.toList (aZ.map fun p=>(p.1,aq F p.2))<;>rfl
def isInt:Value->Bool
 | .int _ _=>true
 | _=>false
def intOf:Value->Int
 | .int _ n=>n
 | _=>0
@[simp] theorem aeo(k:IntKind)(n:Int):isInt (.int k n)=true:=rfl
@[simp] theorem aen(k:IntKind)(n:Int):intOf (.int k n)=n:=rfl
theorem aax{d s t:Nat}{x:Operand}{gH k:IntKind}(an:jw P s=some gH)(bt:jw P t=some k)(I:isInt (aq F x)=true):bd P (cg d s t x::r) F H Q=bd P r (aX F d (.int k (k.wrap (intOf (aq F x))))) H Q:=by
 cases ao:aq F x<;>rw[ao]at I<;>first | exact aaZ d s t x ao an bt | cases I
def isStr:Value->Bool
 | .string _=>true
 | _=>false
@[simp] theorem aeq(s:ByteArray):isStr (.string s)=true:=rfl
theorem aaw(d:Nat)(x:Operand)(args:List Operand):bd P (lD d x args::r) F H Q=FN (aq F x) fun g a b=>a0 P g (a.toList++args.map (aq F)++b.toList) H (fun v H1=>bd P r (aX F d v) H1 Q):=by
 rw[aaY]
 cases aq F x<;>try rfl
theorem aaF(d t:Nat)(x:Operand):bd P (bB d t x::r) F H Q=eI (lenOf P t (aq F x)) fun(n:Nat)=>bd P r (aX F d (.int .i64 n)) H Q:=by
 rw[aa7]
 cases aq F x<;>try rfl
 ·simp only[lenOf]
  split
  ·rename_i h;simp[h,eI]
  ·rename_i h;simp[h,eI]
 ·simp only[lenOf]
  cases eO P t<;>rfl
@[simp] theorem Vx(t:Nat)(a:Option Addr)(n c:Nat):lenOf P t (.slice a n c)=(eO P t).map fun _=>n:=rfl
@[simp] theorem Vy(t:Nat)(s:ByteArray):lenOf P t (.string s)=if iq P t=true then some s.size else none:=rfl
theorem aaH(d:Nat)(bL:List Nat)(x y:Operand):bd P (xw d bL x y::r) F H Q=oN (aq F x) fun k a=>oN (aq F y) fun _ b=>bd P r (aX F d (.int k (if b>a then b else a))) H Q:=by
 rw[abd]
 cases aq F x<;>try rfl
 cases aq F y<;>rfl
theorem aaG(d:Nat)(bL:List Nat)(x y:Operand):bd P (ux d bL x y::r) F H Q=oN (aq F x) fun k a=>oN (aq F y) fun _ b=>bd P r (aX F d (.int k (if b<a then b else a))) H Q:=by
 rw[aba]
 cases aq F x<;>try rfl
 cases aq F y<;>rfl
end
section
variable {P:Program} {F:Fr} {H:ab} {Q:dr->Fr->ab->Prop}
theorem abt:ei P .skip F H Q=Q .normal F H:=rfl
theorem abq:ei P .ret F H Q=Q .ret F H:=rfl
theorem abn(id:Nat):ei P (.exit id) F H Q=Q (.exit id) F H:=rfl
theorem abr(x y:gp):ei P (.seq x y) F H Q=ei P x F H (mT (fun az H1=>ei P y az H1 Q) Q):=rfl
theorem abm(c:Operand)(x y:gp):ei P (.cond c x y) F H Q=ya (aq F c) fun b=>hB b (ei P x F H Q) (ei P y F H Q):=by
 simp only[ei]
 cases aq F c<;>try rfl
 rename_i b
 cases b<;>rfl
theorem abl(id:Nat)(x:gp):ei P (.block id x) F H Q=ei P x F H (oS id Q):=rfl
theorem abo(x:gp):ei P (.loop x) F H Q=pW (ei P x) Q F H:=rfl
theorem abp(l:List br):ei P (.ops l) F H Q=bd P l F H (fun az H1=>Q .normal az H1):=rfl
theorem Xm{K:Fr->ab->Prop}:mT K Q .normal F H=K F H:=rfl
theorem Xn{K:Fr->ab->Prop}:mT K Q .ret F H=Q .ret F H:=rfl
theorem Xl{K:Fr->ab->Prop}(id:Nat):mT K Q (.exit id) F H=Q (.exit id) F H:=rfl
theorem NX(id:Nat):oS id Q .normal F H=Q .normal F H:=rfl
theorem NY(id:Nat):oS id Q .ret F H=Q .ret F H:=rfl
theorem NW(id ht:Nat):oS id Q (.exit ht) F H=if ht=id then Q .normal F H else Q (.exit ht) F H:=rfl
theorem aaQ{K:List Value->Prop}:jG P F H [] K=K []:=rfl
theorem aaR{K:List Value->Prop}(i:Nat)(rs:List ResultVar):jG P F H (.tmp i::rs) K=jG P F H rs fun aA=>K (F i::aA):=rfl
theorem aaP{K:List Value->Prop}(a ty:Nat)(rs:List ResultVar):jG P F H (.cell a ty::rs) K=rk (F a) fun b i=>eI ((H[b]?).bind bA.cells?) fun cs=>eI (c_ P ty) fun g=>hB g (eI (bn P ty) fun n=>ga (i+n<=cs.length) (jG P F H rs fun aA=>K (.agg ((cs.drop i).take n).toArray::aA))) (eI cs[i]? fun v=>jG P F H rs fun aA=>K (v::aA)):=by
 simp only[jG,h5]
 cases F a<;>try rfl
 rename_i a
 cases a with
 | none=>rfl
 | some a=>
  obtain⟨b,i,c⟩:=a
  cases c<;>try rfl
  simp only[rk]
  cases(H[b]?).bind bA.cells? with
  | none=>rfl
  | some cs=>
   simp only[eI]
   cases c_ P ty with
   | none=>rfl
   | some g=>
    cases g with
    | false=>simp only[hB];cases cs[i]?<;>rfl
    | true=>simp only[hB];cases bn P ty<;>rfl
end
end
universe u v in
inductive a_ {α:Sort u} {β:Sort v} (a:α) (b:β):Type
 | mk
def a8(P:Program)(l:List br)(Q:Fr->ab->Prop)(aw:a_ l Q)(F:Fr)(H:ab):Prop:=bd P l F H Q
def gP(P:Program)(x:gp)(Q:dr->Fr->ab->Prop)(aw:a_ x Q)(F:Fr)(H:ab):Prop:=ei P x F H Q
def p1(P:Program)(rs:List ResultVar)(K:List Value->Prop)(aw:a_ rs K)(F:Fr)(H:ab):Prop:=jG P F H rs K
def a7(P:Program)(f:FuncId)(Q:Value->ab->Prop)(aw:a_ f Q)(args:List Value)(H:ab):Prop:=a0 P f args H Q
def kv(P:Program)(x:gp)(Q:dr->Fr->ab->Prop)(aw:a_ x Q)(F:Fr)(H:ab):Prop:=pW (ei P x) Q F H
def gb{α:Type}(K:α->Prop)(aw:a_ K K)(U:Option α):Prop:=eI U K
def df(K:Prop)(aw:a_ K K)(c:Prop):Prop:=ga c K
def bG(cu cT:Prop)(aw:a_ cu cT)(b:Bool):Prop:=hB b cu cT
def nO(cu cT:Prop)(aw:a_ cu cT)(U:Option Bool)(w:Bool):Prop:=m2 U w cu cT
def yb(K:Bool->Prop)(aw:a_ K K)(v:Value):Prop:=ya v K
def pY(K:IntKind->Int->Prop)(aw:a_ K K)(v:Value):Prop:=oN v K
def vi(K:Nat->Nat->Prop)(aw:a_ K K)(v:Value):Prop:=rk v K
def Bj(K:Option Addr->Nat->Nat->Prop)(aw:a_ K K)(v:Value):Prop:=yd v K
def Bi(K:Nat->Nat->Prop)(aw:a_ K K)(v:Option Addr):Prop:=x_ v K
def FW(K:ByteArray->Prop)(aw:a_ K K)(v:Value):Prop:=FV v K
def yc(K:Array Value->Prop)(aw:a_ K K)(v:Value):Prop:=m8 v K
def FY(K:Array Value->Prop)(aw:a_ K K)(v:Value):Prop:=Bk v K
def FT(K:TypeId->Bool->List Value->Prop)(aw:a_ K K)(v:Option bA):Prop:=FR v K
def FO(K:Nat->Array Value->Array Value->Prop)(aw:a_ K K)(v:Value):Prop:=FN v K
@[simp] theorem abP(g:Nat)(a b:Array Value)(K:Nat->Array Value->Array Value->Prop)(aw:a_ K K):FO K aw (.func (.func g) a b)=K g a b:=rfl
def FQ(K:Addr->Prop)(aw:a_ K K)(v:Value):Prop:=FP v K
@[simp] theorem eY{α:Type}(v:α)(K:α->Prop)(aw:a_ K K):gb K aw (some v)=K v:=rfl
@[simp] theorem abC(K:Prop)(aw:a_ K K):df K aw True=K:=Nx K
@[simp] theorem Nw(cu cT:Prop)(aw:a_ cu cT):bG cu cT aw true=cu:=rfl
@[simp] theorem sQ(cu cT:Prop)(aw:a_ cu cT):bG cu cT aw false=cT:=rfl
@[simp] theorem abB(b:Bool)(cu cT:Prop)(aw:a_ cu cT):bG cu cT aw (!b)=bG cT cu .mk b:=by cases b<;>rfl
@[simp] theorem abG(b:Bool)(cu cT:Prop)(aw:a_ cu cT):nO cu cT aw (some b) true=bG cu cT .mk b:=ND b cu cT
@[simp] theorem abE(b:Bool)(cu cT:Prop)(aw:a_ cu cT):nO cu cT aw (some b) false=bG cT cu .mk b:=NC b cu cT
@[simp] theorem NJ(b:Bool)(K:Bool->Prop)(aw:a_ K K):yb K aw (.bool b)=K b:=rfl
@[simp] theorem m9(k:IntKind)(n:Int)(K:IntKind->Int->Prop)(aw:a_ K K):pY K aw (.int k n)=K k n:=rfl
@[simp] theorem mf(b i:Nat)(K:Nat->Nat->Prop)(aw:a_ K K):vi K aw (.pointer (some ⟨b,i,none⟩))=K b i:=rfl
@[simp] theorem oO(a:Option Addr)(n c:Nat)(K:Option Addr->Nat->Nat->Prop)(aw:a_ K K):Bj K aw (.slice a n c)=K a n c:=rfl
@[simp] theorem oM(b i:Nat)(K:Nat->Nat->Prop)(aw:a_ K K):Bi K aw (some ⟨b,i,none⟩)=K b i:=rfl
@[simp] theorem FX(s:ByteArray)(K:ByteArray->Prop)(aw:a_ K K):FW K aw (.string s)=K s:=rfl
@[simp] theorem abQ(s:Array Value)(K:Array Value->Prop)(aw:a_ K K):yc K aw (.agg s)=K s:=rfl
@[simp] theorem abS(s:Array Value)(K:Array Value->Prop)(aw:a_ K K):FY K aw (.tuple s)=K s:=rfl
@[simp] theorem FU(e:TypeId)(l:Bool)(cs:List Value)(K:TypeId->Bool->List Value->Prop)(aw:a_ K K):FT K aw (some (.own e l cs))=K e l cs:=rfl
@[simp] theorem abR(a:Addr)(K:Addr->Prop)(aw:a_ K K):FQ K aw (.pointer (some a))=K a:=rfl
theorem df.mk{c K:Prop}{aw:a_ K K}(h:c)(ai:K):df K aw c:=⟨h,ai⟩
theorem bG.mk{b:Bool}{cu cT:Prop}{aw:a_ cu cT}(o:b=true->cu)(aa:b=false->cT):bG cu cT aw b:=hB.mk o aa
theorem bG.cC{p:Prop}[Decidable p]{cu cT:Prop}{aw:a_ cu cT}(o:p->cu)(aa:¬p->cT):bG cu cT aw (decide p):=hB.cC o aa
theorem a7.mk{P:Program}{f:FuncId}{Q:Value->ab->Prop}{aw:a_ f Q}{args:List Value}{H:ab}{af:Value->ab->Prop}(h:a0 P f args H af)(av:∀v H1,af v H1->Q v H1):a7 P f Q aw args H:=a0.mono h av
theorem kv.mk{P:Program}{x:gp}{Q:dr->Fr->ab->Prop}{aw:a_ x Q}(ak:Nat->Fr->ab->Prop){F:Fr}{H:ab}(n:Nat)(aH:ak n F H)
  (round:∀n F H,ak n F H->∀K:Fr->ab->Prop,(∀m az H1,m<n->ak m az H1->K az H1)->gP P x (mT K Q) .mk F H):kv P x Q aw F H:=pW.inv ak (fun n F H h=>round n F H h _ fun m az H1 hm da=>⟨m,hm,da⟩) n F H aH
theorem a0.cq{P:Program}{f:FuncId}{args:List Value}{H:ab}{af:Value->ab->Prop}(h:∀Q:Value->ab->Prop,(∀v H1,af v H1->Q v H1)->a0 P f args H Q):a0 P f args H af:=h af fun _ _ h=>h
theorem a0.Vg{P:Program}{f:FuncId}{fn:Func}{x:fa}{args:List Value}{H:ab}{Q:Value->ab->Prop}(ax:P.funcs[f]?=some fn)(aE:(fn.name== "runtime.NumGoroutine")=false)(ag:comp P fn=some x)(ar:args.length<=fn.ntmps)
  (h:gP P x.code (pH P x.results Q) .mk (iM args) H):a0 P f args H Q:=a0.TQ ax aE ag ar h
section
variable {P:Program} {r:List br} {F:Fr} {H:ab} {Q:Fr->ab->Prop}
@[simp] theorem MJ(aw:a_ ([]:List br) Q):a8 P [] Q aw F H=Q F H:=rfl
@[simp] theorem Yf(d:Nat)(x:Operand)(aw:a_ (R d x::r) Q):a8 P (R d x::r) Q aw F H=a8 P r Q .mk (aX F d (aq F x)) H:=abb d x
@[simp] theorem afs(d:Nat)(x:Operand)(aw:a_ (al d x::r) Q):a8 P (al d x::r) Q aw F H=a8 P r Q .mk (aX F d (aq F x)) H:=abh d x
@[simp] theorem afm(d t:Nat)(x:Operand)(aw:a_ (l0 d t x::r) Q):a8 P (l0 d t x::r) Q aw F H=df (a8 P r Q .mk (aX F d (.iface t (aq F x))) H) .mk (P.concrete t=true):=aa9 d t x
@[simp] theorem afl(d:Nat)(fn:Fn)(a b:Array Operand)(aw:a_ (uw d fn a b::r) Q):a8 P (uw d fn a b::r) Q aw F H=a8 P r Q .mk (aX F d (.func fn (a.map (aq F)) (b.map (aq F)))) H:=aa8 d fn a b
@[simp] theorem afg(d f:Nat)(args:List Operand)(aw:a_ (a6 d f args::r) Q):a8 P (a6 d f args::r) Q aw F H=a7 P f (fun v H1=>a8 P r Q .mk (aX F d v) H1) .mk (args.map (aq F)) H:=aaW d f args
@[simp] theorem afh(f:Nat)(args:List Operand)(aw:a_ (yt f args::r) Q):a8 P (yt f args::r) Q aw F H=a7 P f (fun v H1=>a8 P r Q .mk F H1) .mk (args.map (aq F)) H:=aaX f args
@[simp] theorem afq(d f:Nat)(args:List Operand)(aw:a_ (bg (a6 d f args)::r) Q):a8 P (bg (a6 d f args)::r) Q aw F H=a7 P f (fun v H1=>Ext H H1/\a8 P r Q .mk (aX F d v) H1) .mk (args.map (aq F)) H:=abf d f args
theorem sG{d t:Nat}{aZ:List (Nat×Operand)}{z:Value}{pl:List (Nat×Nat)}(aP:dv P t=some z)(dt:flat z=true)(aT:l1 P t=some pl)(aw:a_ (eS d t aZ::r) Q):
  a8 P (eS d t aZ::r) Q aw F H=gb (fun out=>a8 P r Q .mk (aX F d (.agg out.toArray)) H) .mk (kE pl z.cells.toList (aZ.map fun p=>(p.1,aq F p.2))):=aau aP dt aT
theorem nJ{d s t:Nat}{x:Operand}{gH k:IntKind}(an:jw P s=some gH)(bt:jw P t=some k)(I:isInt (aq F x)=true)(aw:a_ (cg d s t x::r) Q):a8 P (cg d s t x::r) Q aw F H=a8 P r Q .mk (aX F d (.int k (k.wrap (intOf (aq F x))))) H:=aax an bt I
@[simp] theorem Yb(j:Nat)(w:Bool)(x:br)(aw:a_ (aN j w x::r) Q):(a8 P (aN j w x::r) Q aw F H)=(nO ((a8 P (hz x::r) Q .mk F H)) ((a8 P r Q .mk (fC F x.d undef) H)) .mk (gR (F j)) w):=aaB j w x
@[simp] theorem afr(d:Nat)(c a b:Operand)(aw:a_ (cX d c a b::r) Q):(a8 P (cX d c a b::r) Q aw F H)=(yb (fun t=>(a8 P r Q .mk (aX F d (if t=true then aq F a else aq F b)) H)) .mk (aq F c)):=aaJ d c a b
@[simp] theorem uT(d e:Nat)(aw:a_ (bY d e::r) Q):(a8 P (bY d e::r) Q aw F H)=(gb (fun z=>(df ((a8 P r Q .mk (aX F d (.pointer (some ⟨H.length,0,none⟩))) (H++[.own e false z.cells.toList]))) .mk (flat z=true/\(bn P e).isSome=true))) .mk (dv P e)):=aat d e
@[simp] theorem aff(d e:Nat)(x:Operand)(aw:a_ (cZ d e x::r) Q):(a8 P (cZ d e x::r) Q aw F H)=(df ((a8 P r Q .mk (aX F d (.pointer (some ⟨H.length,0,none⟩))) (H++[.own e false (aq F x).cells.toList]))) .mk ((bn P e).isSome=true)):=Nl d e x
@[simp] theorem uW(d t:Nat)(x:Operand)(aw:a_ (aO d t x::r) Q):(a8 P (aO d t x::r) Q aw F H)=(vi (fun b i=>(gb (fun cs=>(gb (fun g=>(bG ((gb (fun n=>(df ((a8 P r Q .mk (aX F d (.agg ((cs.drop i).take n).toArray)) H)) .mk (i+n<=cs.length))) .mk (bn P t))) ((gb (fun v=>(a8 P r Q .mk (aX F d v) H)) .mk cs[i]?)) .mk g)) .mk (c_ P t))) .mk ((H[b]?).bind bA.cells?))) .mk (aq F x)):=aaE d t x
@[simp] theorem MN(t:Nat)(x y:Operand)(aw:a_ (st t x y::r) Q):(a8 P (st t x y::r) Q aw F H)=(vi (fun b i=>(FT (fun e l cs=>(df ((a8 P r Q .mk F (H.set b (.own e l (lr cs i (aq F y).cells.toList))))) .mk (bn P t=some (aq F y).cells.size/\i+(aq F y).cells.size<=cs.length/\((aq F y).cells.toList.all (·.oneCell'))=true))) .mk H[b]?)) .mk (aq F x)):=aaK t x y
@[simp] theorem afp(d:Nat)(x:Operand)(aw:a_ (ij d x::r) Q):(a8 P (ij d x::r) Q aw F H)=(FQ (fun a=>(a8 P r Q .mk (aX F d (.pointer (some a))) H)) .mk (aq F x)):=aaI d x
@[simp] theorem MH(d:Nat)(op:BinOp)(t:Nat)(x y:Operand)(aw:a_ (bi d op t x y::r) Q):(a8 P (bi d op t x y::r) Q aw F H)=(gb (fun v=>(a8 P r Q .mk (aX F d v) H)) .mk (dO P op t (aq F x) (aq F y))):=aav d op t x y
@[simp] theorem aft(d:Nat)(op:UnOp)(x:Operand)(aw:a_ (un d op x::r) Q):(a8 P (un d op x::r) Q aw F H)=(gb (fun v=>(a8 P r Q .mk (aX F d v) H)) .mk (oD op (aq F x))):=aaL d op x
@[simp] theorem AS(d s:Nat)(x:Operand)(f:Nat)(aw:a_ (bk d s x f::r) Q):(a8 P (bk d s x f::r) Q aw F H)=(vi (fun b i=>(gb (fun off=>(a8 P r Q .mk (aX F d (.pointer (some ⟨b,i+off,none⟩))) H)) .mk (gf P s f))) .mk (aq F x)):=aaz d s x f
@[simp] theorem afk(d s:Nat)(x:Operand)(f:Nat)(aw:a_ (p7 d s x f::r) Q):(a8 P (p7 d s x f::r) Q aw F H)=(yc (fun cs=>(gb (fun c=>(gb (fun v=>(a8 P r Q .mk (aX F d v) H)) .mk (oT cs c))) .mk (p8 P s f))) .mk (aq F x)):=aaA d s x f
@[simp] theorem fJ(d t:Nat)(x i:Operand)(aw:a_ (bb d t x i::r) Q):(a8 P (bb d t x i::r) Q aw F H)=(Bj (fun a len _=>(pY (fun _ n=>(gb (fun e=>(gb (fun J=>(Bi (fun b U=>(df ((a8 P r Q .mk (aX F d (.pointer (some ⟨b,U+n.toNat*J,none⟩))) H)) .mk (0<=n/\n<len))) .mk a)) .mk (bn P e))) .mk (eO P t))) .mk (aq F i))) .mk (aq F x)):=aaC d t x i
@[simp] theorem hI(d t:Nat)(x i:Operand)(aw:a_ (ew d t x i::r) Q):(a8 P (ew d t x i::r) Q aw F H)=(FW (fun s=>(pY (fun _ n=>(df ((a8 P r Q .mk (aX F d (.int .u8 ((s.data.getD n.toNat 0).toNat:Int))) H)) .mk (iq P t=true/\0<=n/\n<s.size))) .mk (aq F i))) .mk (aq F x)):=aaD d t x i
@[simp] theorem afj(d:Nat)(x:Operand)(i:Nat)(aw:a_ (ex d x i::r) Q):(a8 P (ex d x i::r) Q aw F H)=(FY (fun aA=>(gb (fun v=>(a8 P r Q .mk (aX F d v) H)) .mk aA[i]?)) .mk (aq F x)):=aay d x i
@[simp] theorem afi(d:Nat)(x:Operand)(args:List Operand)(aw:a_ (lD d x args::r) Q):(a8 P (lD d x args::r) Q aw F H)=(FO (fun g a b=>(a7 P g ((fun v H1=>(a8 P r Q .mk (aX F d v) H1))) .mk (a.toList++args.map (aq F)++b.toList) H)) .mk (aq F x)):=aaw d x args
@[simp] theorem gN(d t:Nat)(x:Operand)(aw:a_ (bB d t x::r) Q):(a8 P (bB d t x::r) Q aw F H)=(gb (fun(n:Nat)=>(a8 P r Q .mk (aX F d (.int .i64 n)) H)) .mk (lenOf P t (aq F x))):=aaF d t x
@[simp] theorem afo(d:Nat)(bL:List Nat)(x y:Operand)(aw:a_ (xw d bL x y::r) Q):(a8 P (xw d bL x y::r) Q aw F H)=(pY (fun k a=>(pY (fun _ b=>(a8 P r Q .mk (aX F d (.int k (if b>a then b else a))) H)) .mk (aq F y))) .mk (aq F x)):=aaH d bL x y
@[simp] theorem afn(d:Nat)(bL:List Nat)(x y:Operand)(aw:a_ (ux d bL x y::r) Q):(a8 P (ux d bL x y::r) Q aw F H)=(pY (fun k a=>(pY (fun _ b=>(a8 P r Q .mk (aX F d (.int k (if b<a then b else a))) H)) .mk (aq F y))) .mk (aq F x)):=aaG d bL x y
end
section
variable {P:Program} {F:Fr} {H:ab} {Q:dr->Fr->ab->Prop}
@[simp] theorem afC(aw:a_ (.skip:gp) Q):(gP P .skip Q aw F H)=Q .normal F H:=abt
@[simp] theorem afB(aw:a_ (.ret:gp) Q):(gP P .ret Q aw F H)=Q .ret F H:=abq
@[simp] theorem afy(id:Nat)(aw:a_ ((.exit id):gp) Q):(gP P (.exit id) Q aw F H)=Q (.exit id) F H:=abn id
@[simp] theorem cw(x y:gp)(aw:a_ ((.seq x y):gp) Q):(gP P (.seq x y) Q aw F H)=(gP P x (mT ((fun az H1=>(gP P y Q .mk az H1))) Q) .mk F H):=abr x y
@[simp] theorem afx(c:Operand)(x y:gp)(aw:a_ ((.cond c x y):gp) Q):(gP P (.cond c x y) Q aw F H)=(yb (fun b=>(bG ((gP P x Q .mk F H)) ((gP P y Q .mk F H)) .mk b)) .mk (aq F c)):=abm c x y
@[simp] theorem E9(id:Nat)(x:gp)(aw:a_ ((.block id x):gp) Q):(gP P (.block id x) Q aw F H)=(gP P x (oS id Q) .mk F H):=abl id x
@[simp] theorem afz(x:gp)(aw:a_ ((.loop x):gp) Q):(gP P (.loop x) Q aw F H)=(kv P x Q .mk F H):=abo x
@[simp] theorem afA(l:List br)(aw:a_ ((.ops l):gp) Q):(gP P (.ops l) Q aw F H)=(a8 P l ((fun az H1=>Q .normal az H1)) .mk F H):=abp l
@[simp] theorem afv{K:List Value->Prop}(aw:a_ ([]:List ResultVar) K):(p1 P [] K aw F H)=K []:=aaQ
@[simp] theorem afw{K:List Value->Prop}(i:Nat)(rs:List ResultVar)(aw:a_ ((.tmp i::rs):List ResultVar) K):(p1 P (.tmp i::rs) K aw F H)=(p1 P rs (fun aA=>K (F i::aA)) .mk F H):=aaR i rs
@[simp] theorem afu{K:List Value->Prop}(a ty:Nat)(rs:List ResultVar)(aw:a_ ((.cell a ty::rs):List ResultVar) K):(p1 P (.cell a ty::rs) K aw F H)=(vi (fun b i=>(gb (fun cs=>(gb (fun g=>(bG ((gb (fun n=>(df ((p1 P rs (fun aA=>K (.agg ((cs.drop i).take n).toArray::aA)) .mk F H)) .mk (i+n<=cs.length))) .mk (bn P ty))) ((gb (fun v=>(p1 P rs (fun aA=>K (v::aA)) .mk F H)) .mk cs[i]?)) .mk g)) .mk (c_ P ty))) .mk ((H[b]?).bind bA.cells?))) .mk (F a)):=aaP a ty rs
@[simp] theorem afb{rs:List ResultVar}{af:Value->ab->Prop}:pH P rs af .normal F H=p1 P rs (fun aA=>af (bj aA) H) .mk F H:=rfl
@[simp] theorem afc{rs:List ResultVar}{af:Value->ab->Prop}:pH P rs af .ret F H=p1 P rs (fun aA=>af (bj aA) H) .mk F H:=rfl
attribute [simp] Xm Xn Xl NX NY NW
end
def ec(H:ab)(e J:Nat)(v:Value)(n:Nat)(cs:List Value):Prop:=
 ∃a cap,v= .slice a n cap/\n<=cap/\cs.length=n*J/\(0<cap->∃b i X all,a=some ⟨b,i,none⟩/\H[b]?=some X/\X.cells?=some all/\X.elem?=some e/\i+n*J<=all.length/\cs=(all.drop i).take (n*J))
theorem Ext.aB{H H1 aY:ab}(h:Ext H H1)(b7:Ext H1 aY):Ext H aY:=by
 obtain⟨N,rfl,aE⟩:=h
 obtain⟨M,rfl,hm⟩:=b7
 refine⟨N++M,by simp,fun x I=>?_⟩
 rcases List.mem_append.1 I with I | I
 ·exact aE x I
 ·exact hm x I
theorem Ext.snoc{cx H:ab}(h:Ext cx H)(e:TypeId)(l:Bool)(cs:List Value):Ext cx (H++[.own e l cs]):=h.aB ⟨[.own e l cs],rfl,fun x I cI en=>by simp at I;subst I;simp⟩
theorem Ext.set{cx H:ab}(h:Ext cx H){b:Nat}(ae:cx.length<=b){X:bA}(aR:∀e cs,X≠ .ro e cs):Ext cx (H.set b X):=by
 obtain⟨N,rfl,aE⟩:=h
 refine⟨N.set (b-cx.length) X,by rw[List.set_append_right _ _ ae],fun x I e cs=>?_⟩
 rcases List.mem_or_eq_of_mem_set I with I | rfl
 ·exact aE x I e cs
 ·exact aR e cs
theorem ec.ext{H H1:ab}{e J n:Nat}{v:Value}{cs:List Value}(h:ec H e J v n cs)(I:Ext H H1):ec H1 e J v n cs:=by
 obtain⟨a,cap,ao,o,aa,aD⟩:=h
 refine⟨a,cap,ao,o,aa,fun ag=>?_⟩
 obtain⟨b,i,X,all,aS,aM,bh⟩:=aD ag
 exact⟨b,i,X,all,aS,I.get_some aM,bh⟩
theorem ec.len{H:ab}{e J n:Nat}{v:Value}{cs:List Value}(h:ec H e J v n cs):∃a cap,v= .slice a n cap:=by
 obtain⟨a,cap,ao,-⟩:=h;exact⟨a,cap,ao⟩
theorem ec.at{H:ab}{e J n:Nat}{v:Value}{cs:List Value}(h:ec H e J v n cs)(aE:0<n):∃b i cap X all,v= .slice (some ⟨b,i,none⟩) n cap/\H[b]?=some X/\X.cells?=some all/\i+n*J<=all.length/\∀k,k<n*J->all[i+k]?=cs[k]?:=by
 obtain⟨a,cap,rfl,o,aa,aD⟩:=h
 obtain⟨b,i,X,all,rfl,aM,bh,b0,ey,gl⟩:=aD (by omega)
 refine⟨b,i,cap,X,all,rfl,aM,bh,ey,fun k ai=>?_⟩
 rw[gl,List.getElem?_take_of_lt ai,List.getElem?_drop]
theorem ec.src{H:ab}{e J n:Nat}{v:Value}{cs:List Value}(h:ec H e J v n cs){m:Nat}(hm:m<=n):Src H J v n m (cs.take (m*J)):=by
 obtain⟨a,cap,rfl,o,aa,aD⟩:=h
 by_cases aH:m=0
 ·subst aH;simpa using Src.u7
 ·obtain⟨b,i,X,all,rfl,aM,bh,b0,ey,rfl⟩:=aD (by omega)
  have wL:m*J<=n*J:=Nat.mul_le_mul_right _ hm
  rw[List.take_take,Nat.min_eq_left wL]
  exact .row aM bh (by omega) hm (by omega)
theorem ec.nil(H:ab)(e J:Nat):ec H e J (.slice none 0 0) 0 []:=⟨none,0,rfl,Nat.le_refl _,by simp,fun h=>absurd h (by omega)⟩
theorem ec.void(H:ab)(e J:Nat)(a:Option Addr):ec H e J (.slice a 0 0) 0 []:=⟨a,0,rfl,Nat.le_refl _,by simp,fun h=>absurd h (by omega)⟩
section
variable {P:Program} {r:List br} {F:Fr} {H:ab} {Q:Fr->ab->Prop}
theorem ir{b:Bool}{d:Option Nat}{op:Op}{aw:a_ ((⟨b,none,d,op⟩:br)::r) Q}(ao:isVal op=false)(hm:iH op=true)(aE:bU P (aq F) H op=none){v:Value}{H1:ab}(av:∀U:Oper,U.op=op->eR P (aq F) H U v H1)(ax:∀U:Oper,U.op=op->bF P U=false)
  (ae:b=true\/Ext H H1)(h:a8 P r Q .mk (fC F d v) H1):a8 P (⟨b,none,d,op⟩::r) Q aw F H:=abc ao hm aE (fun U aK=>⟨ax U aK,av U aK⟩) ae h
theorem MM{ek:Bool}{d t e J n l h:Nat}{x:Operand}{bX ad:Option Operand}{cs:List Value}{aw:a_ ((⟨ek,none,some d,.slice t x bX ad none⟩:br)::r) Q}(bE:ec H e J (aq F x) n cs)(hu:P.underlying t=some (.slice e))(an:bn P e=some J)(ar:dN (aq F) bX=some l)(cR:fo (aq F) n ad=some h)(o:l<=h)(aa:h<=n)
  (K:∀au,ec H e J au (h-l) ((cs.drop (l*J)).take ((h-l)*J))->a8 P r Q .mk (aX F d au) H):a8 P ((⟨ek,none,some d,.slice t x bX ad none⟩:br)::r) Q aw F H:=by
 obtain⟨a,cap,ao,aD,bD,b2⟩:=bE
 have wX:bU P (aq F) H (.slice t x bX ad none)=none:=by simp only[bU,ao]
 have a2:∀U:Oper,U.op= .slice t x bX ad none->bF P U=false:=fun U aK=>by simp[bF,aK]
 have hlen:((cs.drop (l*J)).take ((h-l)*J)).length=(h-l)*J:=by
  have:h*J<=n*J:=Nat.mul_le_mul_right _ aa
  have:l*J<=h*J:=Nat.mul_le_mul_right _ o
  have:(h-l)*J=h*J-l*J:=Nat.sub_mul _ _ _
  simp[bD];omega
 by_cases ag:cap=0
 ·have jU:n=0:=by omega
  have RN:h=0:=by omega
  have o_:l=0:=by omega
  subst ag jU RN o_
  refine ir (v:= .slice a 0 0) (H1:=H) rfl rfl wX (fun U aK=> .xP aK hu an ao ar cR) a2 (.inr (Ext.refl H)) (K _ ?_)
  have:(cs.drop (0*J)).take ((0-0)*J)=[]:=by simp
  rw[this]
  exact ec.void H e J a
 ·obtain⟨b,i,X,all,rfl,aM,bh,b0,ey,gl⟩:=b2 (by omega)
  by_cases lO:l<cap
  ·refine ir (v:= .slice (some ⟨b,i+l*J,none⟩) (h-l) (cap-l)) (H1:=H) rfl rfl wX (fun U aK=> .slice aK hu an ao aM b0 ar cR o (by omega) lO) a2 (.inr (Ext.refl H)) (K _ ?_)
   refine⟨_,_,rfl,by omega,hlen,fun _=>⟨b,i+l*J,X,all,rfl,aM,bh,b0,?_,?_⟩⟩
   ·have:h*J<=n*J:=Nat.mul_le_mul_right _ aa
    have:l*J<=h*J:=Nat.mul_le_mul_right _ o
    have:(h-l)*J=h*J-l*J:=Nat.sub_mul _ _ _
    omega
   ·rw[gl,List.drop_take,List.drop_drop,List.take_take]
    congr 1
    have:h*J<=n*J:=Nat.mul_le_mul_right _ aa
    have:(h-l)*J=h*J-l*J:=Nat.sub_mul _ _ _
    omega
  ·have bp:l=cap:=by omega
   have bo:h=cap:=by omega
   have e0:n=cap:=by omega
   subst bp bo
   refine ir (v:= .slice (some ⟨b,i,none⟩) 0 0) (H1:=H) rfl rfl wX (fun U aK=> .xO aK hu an ao (by omega) ar cR) a2 (.inr (Ext.refl H)) (K _ ?_)
   rw[Nat.sub_self,Nat.zero_mul,List.take_zero]
   exact ec.void H e J _
theorem Yl{d t e J n l h:Nat}{x:Operand}{bX ad:Option Operand}{cs:List Value}{aw:a_ (gm d t x bX ad none::r) Q}(bE:ec H e J (aq F x) n cs)(hu:P.underlying t=some (.slice e))(an:bn P e=some J)(ar:dN (aq F) bX=some l)(cR:fo (aq F) n ad=some h)(o:l<=h)(aa:h<=n)
  (K:∀au,ec H e J au (h-l) ((cs.drop (l*J)).take ((h-l)*J))->a8 P r Q .mk (aX F d au) H):a8 P (gm d t x bX ad none::r) Q aw F H:=MM (ek:=true) bE hu an ar cR o aa K
theorem xT{d t e J bs l c:Nat}{x y:Operand}{eo cB:IntKind}{z:Value}{aw:a_ (ms d t x y::r) Q}(hu:P.underlying t=some (.slice e))(an:bn P e=some J)(ae:bytes? P e=some bs)(aP:dv P e=some z)(dt:flat z=true)(cW:z.cells.size=J)
  (I:aq F x= .int eo (l:Int))(aJ:aq F y= .int cB (c:Int))(c0:0<J)(dH:0<bs)(lO:l<=c)(ag:0<c)(bq:bs*c<=281474976710656)
  (K:a8 P r Q .mk (aX F d (.slice (some ⟨H.length,0,none⟩) l c)) (H++[.own e false (made z (c*J))])):a8 P (ms d t x y::r) Q aw F H:=
 ir (v:= .slice (some ⟨H.length,0,none⟩) l c) rfl rfl rfl (fun U aK=> .make aK hu an ae aP dt cW I aJ c0 dH lO ag bq) (fun U aK=>by simp[bF,aK]) (.inl rfl) K
theorem AU{d t e J bs:Nat}{x y:Operand}{eo cB:IntKind}{aw:a_ (ms d t x y::r) Q}(hu:P.underlying t=some (.slice e))(an:bn P e=some J)(ae:bytes? P e=some bs)(I:aq F x= .int eo 0)(aJ:aq F y= .int cB 0)
  (K:a8 P r Q .mk (aX F d (.slice (some ⟨0,0,none⟩) 0 0)) H):a8 P (ms d t x y::r) Q aw F H:=
 ir (v:= .slice (some ⟨0,0,none⟩) 0 0) rfl rfl rfl (fun U aK=> .uv aK hu an ae I aJ) (fun U aK=>by simp[bF,aK]) (.inl rfl) K
theorem sH{d t e J len:Nat}{aZ:List (Nat×Operand)}{z:Value}{out:List Value}{aw:a_ (fb d t len aZ::r) Q}(hu:P.underlying t=some (.slice e))(an:bn P e=some J)(aP:dv P e=some z)(dt:flat z=true)(cW:z.cells.size=J)
  (c0:0<J)(ar:0<len)(bq:len*J<=16777216)(aK:iy (fun i=>some (i*J,J)) (made z (len*J)) (aZ.map fun p=>(p.1,aq F p.2))=some out)(e1:out.length=len*J)
  (K:a8 P r Q .mk (aX F d (.slice (some ⟨H.length,0,none⟩) len len)) (H++[.own e false out])):a8 P (fb d t len aZ::r) Q aw F H:=by
 have ax:Instr.fill (fun i=>some (i*J,J)) (made z (len*J)).toArray (aZ.toArray.toList.map fun p=>(p.1,aq F p.2))=some out.toArray:=by
  rw[fill_eq]
  have:(aZ.toArray.toList.map fun p=>(p.1,aq F p.2))=aZ.map fun p=>(p.1,aq F p.2):=by simp
  rw[this]
  simp only
  rw[aK]
  rfl
 have av:∀U:Oper,U.op= .buildSlice t len aZ.toArray->eR P (aq F) H U (.slice (some ⟨H.length,0,none⟩) len len) (H++[.own e false out]):=fun U ff=> .build (out:=out.toArray) ff hu an aP dt cW c0 ar bq ax (by simpa using e1)
 exact ir rfl rfl rfl av (fun U aK=>by simp[bF,aK]) (.inl rfl) K
theorem uU{d t e J:Nat}{aw:a_ (fb d t 0 []::r) Q}(hu:P.underlying t=some (.slice e))(an:bn P e=some J)(K:a8 P r Q .mk (aX F d (.slice (some ⟨0,0,none⟩) 0 0)) H):a8 P (fb d t 0 []::r) Q aw F H:=
 ir (v:= .slice (some ⟨0,0,none⟩) 0 0) rfl rfl rfl (fun U aK=> .vu aK hu an) (fun U aK=>by simp[bF,aK]) (.inl rfl) K
def hL(H:ab)(k e J:Nat)(v:Value)(n:Nat)(cs:List Value):Prop:=cs.length=n*J/\
 ((n=0/\(v= .slice none 0 0\/∃i,v= .slice (some ⟨0,i,none⟩) 0 0))\/∃b i cap l all,v= .slice (some ⟨b,i,none⟩) n cap/\0<cap/\n<=cap/\k<=b/\H[b]?=some (.own e l all)/\i+cap*J<=all.length/\cs=(all.drop i).take (n*J))
theorem hL.gm{H:ab}{k e J n:Nat}{v:Value}{cs:List Value}(h:hL H k e J v n cs):ec H e J v n cs:=by
 obtain⟨o,⟨rfl,aa⟩ | ⟨b,i,cap,l,all,rfl,aS,aM,bh,b0,ey,gl⟩⟩:=h
 ·have:cs=[]:=List.eq_nil_of_length_eq_zero (by simpa using o)
  subst this
  rcases aa with rfl | ⟨i,rfl⟩
  ·exact ec.nil H e J
  ·exact ec.void H e J _
 ·have:n*J<=cap*J:=Nat.mul_le_mul_right _ aM
  exact⟨_,_,rfl,aM,o,fun _=>⟨b,i,_,all,rfl,b0,rfl,rfl,by omega,gl⟩⟩
theorem hL.ext{H H1:ab}{k e J n:Nat}{v:Value}{cs:List Value}(h:hL H k e J v n cs)(I:Ext H H1):hL H1 k e J v n cs:=by
 obtain⟨o,aa | ⟨b,i,cap,l,all,q⟩⟩:=h
 ·exact⟨o,.inl aa⟩
 ·exact⟨o,.inr ⟨b,i,cap,l,all,q.1,q.2.1,q.2.2.1,q.2.2.2.1,I.get_some q.2.2.2.2.1,q.2.2.2.2.2⟩⟩
theorem hL.nil(H:ab)(k e J:Nat):hL H k e J (.slice none 0 0) 0 []:=⟨by simp,.inl ⟨rfl,.inl rfl⟩⟩
theorem hL.void(H:ab)(k e J i:Nat):hL H k e J (.slice (some ⟨0,i,none⟩) 0 0) 0 []:=⟨by simp,.inl ⟨rfl,.inr ⟨i,rfl⟩⟩⟩
def inBlock(v:Value)(b:Nat):Prop:=∃i n c,v= .slice (some ⟨b,i,none⟩) n c
theorem E6{d bL cN e J bs k n m:Nat}{s x:Operand}{z:Value}{cs news:List Value}{aw:a_ (ap d bL cN s x::r) Q}(cL:hL H k e J (aq F s) n cs)(cV:Src H J (aq F x) m m news)(hu:P.underlying bL=some (.slice e))(I:fI P cN=true)(an:bn P e=some J)(ae:bytes? P e=some bs)(aP:dv P e=some z)(cW:z.cells.size=J)
  (dH:0<bs)(bq:(n+m)*bs<=140737488355328)(g0:(news.all (·.oneCell'))=true)(nx:news.length=m*J)(ai:k<=H.length)
  (K:∀au aC,hL aC k e J au (n+m) (cs++news)->(∀cx:ab,cx.length<=k->Ext cx H->Ext cx aC)->(∀b X,H[b]?=some X->(inBlock (aq F s) b->X.elem?≠some e)->aC[b]?=some X)->(∀b,inBlock au b->inBlock (aq F s) b\/b=H.length)->H.length<=aC.length->a8 P r Q .mk (aX F d au) aC):a8 P (ap d bL cN s x::r) Q aw F H:=by
 obtain⟨ar,cL⟩:=cL
 have a2:∀U:Oper,U.op= .call {callee:= .builtin .append,args:= #[s,x],argTypes:= #[bL,cN]}->bF P U=false:=fun U aK=>by simp[bF,aK]
 have aE:bU P (aq F) H (.call {callee:= .builtin .append,args:= #[s,x],argTypes:= #[bL,cN]})=none:=rfl
 by_cases hm:m=0
 ·subst hm
  have wN:news=[]:=List.eq_nil_of_length_eq_zero (by simpa using nx)
  subst wN
  obtain⟨a,ik,cap,ao,r3⟩:∃a ik cap,aq F s= .slice a ik cap/\ik=n:=by
   rcases cL with⟨rfl,h | ⟨i,h⟩⟩ | ⟨b,i,cap,l,all,h,-⟩
   ·exact⟨_,_,_,h,rfl⟩
   ·exact⟨_,_,_,h,rfl⟩
   ·exact⟨_,_,_,h,rfl⟩
  refine ir (v:= .slice a ik cap) (H1:=H) rfl rfl aE (fun U aK=> .vm aK hu I an cV ao) a2 (.inl rfl) ?_
  exact K _ H (by rw[List.append_nil,Nat.add_zero,<-ao];exact⟨ar,cL⟩) (fun cx _ h=>h) (fun b X h _=>h) (fun b h=> .inl (by rw[ao];exact h)) (Nat.le_refl _)
 ·have r1:0<m:=by omega
  have new:∀en:List Value,en.length=(n+m)*J->en=cs++news->hL (H++[.own e true en]) k e J (.slice (some ⟨H.length,0,none⟩) (n+m) (n+m)) (n+m) (cs++news):=fun en o aa=>
   ⟨by rw[<-aa,o],.inr ⟨H.length,0,n+m,true,en,rfl,by omega,Nat.le_refl _,ai,by simp,by omega,by rw[List.drop_zero,<-aa,<-o,List.take_length]⟩⟩
  rcases cL with⟨rfl,h⟩ | ⟨b,i,cap,l,all,ao,aS,aM,bh,b0,ey,gl⟩
  ·have fX:cs=[]:=List.eq_nil_of_length_eq_zero (by simpa using ar)
   subst fX
   obtain⟨a,aF,ao⟩:∃a:Option Addr,(a=none\/∃i,a=some ⟨0,i,none⟩)/\aq F s= .slice a 0 0:=by
    rcases h with h | ⟨i,h⟩
    ·exact⟨none,.inl rfl,h⟩
    ·exact⟨_,.inr ⟨i,rfl⟩,h⟩
   refine ir (v:= .slice (some ⟨H.length,0,none⟩) m m) (H1:=H++[.own e true news]) rfl rfl aE (fun U aK=> .vq aK hu I an ae aP cW cV r1 dH (by simpa using bq) aF ao) a2 (.inl rfl) ?_
   have:=new news (by simpa using nx) rfl
   simp only[Nat.zero_add]at this
   refine K _ _ (by simpa using this) (fun cx _ h=>h.snoc _ _ _) (fun b X h _=>?_) (fun b ae=>?_) (by simp)
   ·rw[List.getElem?_append_left (cd.1 h).1];exact h
   ·obtain⟨i,n,c,he⟩:=ae
    simp at he
    exact .inr he.1.1.symm
  ·by_cases gE:n+m<=cap
   ·have qm:(n+m)*J<=cap*J:=Nat.mul_le_mul_right _ gE
    have rP:(n+m)*J=n*J+m*J:=Nat.add_mul _ _ _
    have nt:i+n*J+news.length<=all.length:=by omega
    refine ir (v:= .slice (some ⟨b,i,none⟩) (n+m) cap) (H1:=H.set b (.own e l (c3 all (i+n*J) news))) rfl rfl aE (fun U aK=> .vo aK hu I an cV gE aS b0 nt g0 ao) a2 (.inl rfl) ?_
    have gD:b<H.length:=(cd.1 b0).1
    refine K _ _ ⟨by rw[List.length_append,ar,nx,rP],.inr ⟨b,i,cap,l,c3 all (i+n*J) news,rfl,aS,gE,bh,by simp[gD],by rw[mU nt];exact ey,?_⟩⟩ (fun cx aH h=>h.set (by omega) (by simp)) (fun ca X h cM=>?_) (fun ca cM=>?_) (by simp)
    ·rw[gl]
     have bp:c3 all (i+n*J) news=all.take (i+n*J)++news++all.drop (i+n*J+news.length):=rfl
     rw[bp,List.append_assoc,List.drop_append_of_le_length (by simp;omega),List.take_append,List.drop_take]
     have aD:i+n*J-i=n*J:=by omega
     have bD:((all.drop i).take (n*J)).length=n*J:=by simp;omega
     rw[aD,bD,rP,List.take_take,Nat.min_eq_right (by omega),Nat.add_sub_cancel_left,<-nx,List.take_append_of_le_length (Nat.le_refl _),List.take_length]
    ·have:b≠ca:=fun cI=>by
      subst cI
      rw[b0]at h
      exact cM ⟨i,n,cap,ao⟩ (by rw[<-Option.some.inj h];rfl)
     rw[List.getElem?_set_ne this];exact h
    ·obtain⟨iX,dI,dL,he⟩:=cM
     simp at he
     exact .inl (by rw[<-he.1.1];exact⟨i,n,cap,ao⟩)
   ·have g1:i+n*J<=all.length:=by
     have:n*J<=cap*J:=Nat.mul_le_mul_right _ aM
     omega
    have gD:b<H.length:=(cd.1 b0).1
    have rP:(n+m)*J=n*J+m*J:=Nat.add_mul _ _ _
    have gu:((all.drop i).take (n*J)++news).length=(n+m)*J:=by rw[List.length_append,<-gl,ar,nx,rP]
    have fresh:∀au:Value,au= .slice (some ⟨H.length,0,none⟩) (n+m) (n+m)->∀ca,inBlock au ca->inBlock (aq F s) ca\/ca=H.length:=fun au e ca cM=>by
     obtain⟨iX,dI,dL,he⟩:=cM
     rw[e]at he
     simp at he
     exact .inr he.1.1.symm
    cases l with
    | false=>
     refine ir (v:= .slice (some ⟨H.length,0,none⟩) (n+m) (n+m)) (H1:=H++[.own e true ((all.drop i).take (n*J)++news)]) rfl rfl aE (fun U aK=> .vn aK hu I an ae aP cW cV r1 dH bq b0 g1 (by omega) aS ao) a2 (.inl rfl) ?_
     refine K _ _ (new _ gu (by rw[gl])) (fun cx _ h=>h.snoc _ _ _) (fun b X h _=>?_) (fresh _ rfl) (by simp)
     rw[List.getElem?_append_left (cd.1 h).1];exact h
    | true=>
     refine ir (v:= .slice (some ⟨H.length,0,none⟩) (n+m) (n+m)) (H1:=H.set b .dead++[.own e true ((all.drop i).take (n*J)++news)]) rfl rfl aE (fun U aK=> .vp aK hu I an ae aP cW cV r1 dH bq b0 g1 (by omega) aS g0 ao) a2 (.inl rfl) ?_
     have qx:hL (H.set b .dead++[.own e true ((all.drop i).take (n*J)++news)]) k e J (.slice (some ⟨H.length,0,none⟩) (n+m) (n+m)) (n+m) (cs++news):=
      ⟨by rw[List.length_append,ar,nx,rP],.inr ⟨H.length,0,n+m,true,(all.drop i).take (n*J)++news,rfl,by omega,Nat.le_refl _,ai,by rw[List.getElem?_append_right (by simp)];simp,by rw[gu];omega,by rw[List.drop_zero,<-gu,List.take_length,gl]⟩⟩
     refine K _ _ qx (fun cx aH h=>(h.set (by omega) (by simp)).snoc _ _ _) (fun ca X h cM=>?_) (fresh _ rfl) (by simp)
     have cF:b≠ca:=fun cI=>by
      subst cI
      rw[b0]at h
      exact cM ⟨i,n,cap,ao⟩ (by rw[<-Option.some.inj h];rfl)
     rw[List.getElem?_append_left (by simp;exact(cd.1 h).1),List.getElem?_set_ne cF];exact h
theorem xU{ek:Bool}{d t l h:Nat}{x:Operand}{bX ad:Option Operand}{s:ByteArray}{aw:a_ ((⟨ek,none,some d,.slice t x bX ad none⟩:br)::r) Q}(I:aq F x= .string s)(bt:iq P t=true)(ar:dN (aq F) bX=some l)(cR:fo (aq F) s.size ad=some h)(o:l<=h)(aa:h<=s.size)
  (K:a8 P r Q .mk (aX F d (.string (s.extract l h))) H):a8 P ((⟨ek,none,some d,.slice t x bX ad none⟩:br)::r) Q aw F H:=by
 have an:bU P (aq F) H (.slice t x bX ad none)=some (.string (s.extract l h),H):=by
  simp only[bU,I,ar,cR]
  rw[if_pos ⟨bt,o,aa⟩]
 show bd P _ F H Q
 simp only[bd,fV,an]
 exact⟨fun h=>by simp[hv]at h,K⟩
theorem X9{d s t e:Nat}{x:Operand}{xs:List Int}{aw:a_ (cg d s t x::r) Q}(an:P.underlying s=some (.slice e))(he:P.underlying e=some (.int .u8))(aL:P.underlying t=some .string)(bE:ec H e 1 (aq F x) xs.length (xs.map (Value.int .u8)))
  (K:a8 P r Q .mk (aX F d (.string (strOfNums xs))) H):a8 P (cg d s t x::r) Q aw F H:=by
 obtain⟨a,cap,ao⟩:=bE.len
 have cV:=bE.src (Nat.le_refl _)
 rw[Nat.mul_one,List.take_of_length_le (by simp)]at cV
 have aE:bU P (aq F) H (.convert s t x)=none:=by simp only[bU,ao]
 exact ir (v:= .string (strOfNums xs)) (H1:=H) rfl rfl aE (fun U aK=> .str aK an he aL ⟨_,_,_,ao⟩ cV) (fun U aK=>by simp[bF,aK,qM,an]) (.inr (Ext.refl H)) K
end
section
variable {P:Program}
theorem fV.mono{b:Bool}{F:Fr}{H:ab}{K dY:Value->ab->Prop}(ai:∀v H1,K v H1->dY v H1){op:Op}(h:fV P b F H K op):fV P b F H dY op:=by
 have main:(match bU P (aq F) H op with
   | some (v,H1)=>(hv op=true->b=true)/\K v H1
   | none=>iH op=true/\∃v H1,m7 P (aq F) H op v H1/\(b=true\/Ext H H1)/\K v H1)->(match bU P (aq F) H op with
   | some (v,H1)=>(hv op=true->b=true)/\dY v H1
   | none=>iH op=true/\∃v H1,m7 P (aq F) H op v H1/\(b=true\/Ext H H1)/\dY v H1):=by
  cases bU P (aq F) H op with
  | some p=>exact fun h=>⟨h.1,ai _ _ h.2⟩
  | none=>exact fun⟨o,v,H1,aa,aD,bD⟩=>⟨o,v,H1,aa,aD,ai _ _ bD⟩
 cases op<;>try exact main h
 rename_i c
 obtain⟨callee,args,kA⟩:=c
 cases callee with
 | value f=>
  simp only[fV]at h⊢
  split at h
  ·exact h.mono fun v H1 cR=>⟨cR.1,ai _ _ cR.2⟩
  ·exact h.elim
 | invoke r m=>exact main h
 | builtin b=>exact main h
theorem bd.mono:∀{l:List br} {F:Fr} {H:ab} {Q b6:Fr->ab->Prop},(∀F H,Q F H->b6 F H)->bd P l F H Q->bd P l F H b6
 | [],F,H,Q,b6,av,h=>av _ _ h
 | x::rest,F,H,Q,b6,av,h=>by
  simp only[bd]at h⊢
  split
  ·rename_i aU
   rw[aU]at h
   exact fV.mono (fun v H1=>bd.mono av) h
  ·rename_i j w aU
   rw[aU]at h
   simp only at h
   split
   ·rename_i ae
    rw[if_pos ae]at h
    exact fV.mono (fun v H1=>bd.mono av) h
   ·rename_i ae
    rw[if_neg ae]at h
    exact bd.mono av h
theorem fi.mono:∀{l:List br} {F:Fr} {H:ab} {af W:List Nat} {Q b6:Fr->ab->Prop},(∀F H,Q F H->b6 F H)->fi P l F H af W Q->fi P l F H af W b6
 | [],F,H,af,W,Q,b6,av,h=>av _ _ h
 | x::rest,F,H,af,W,Q,b6,av,h=>by
  simp only[fi]at h⊢
  split
  ·rename_i aU
   rw[aU]at h
   exact gz.mono (fun v H1 eZ ft=>fi.mono av) h
  ·rename_i j w aU
   rw[aU]at h
   simp only at h
   split
   ·rename_i ae
    rw[if_pos ae]at h
    exact gz.mono (fun v H1 eZ ft=>fi.mono av) h
   ·rename_i ae
    rw[if_neg ae]at h
    exact fi.mono av h
theorem ei.mono:∀{x:gp} {F:Fr} {H:ab} {Q b6:dr->Fr->ab->Prop},(∀e F H,Q e F H->b6 e F H)->ei P x F H Q->ei P x F H b6
 | .skip,F,H,Q,b6,av,h=>av _ _ _ h
 | .ret,F,H,Q,b6,av,h=>av _ _ _ h
 | .exit id,F,H,Q,b6,av,h=>av _ _ _ h
 | .seq x y,F,H,Q,b6,av,h=>ei.mono (x:=x) (fun e az H1 o=>by
   cases e with
   | normal=>exact ei.mono (x:=y) av o
   | exit id=>exact av _ _ _ o
   | ret=>exact av _ _ _ o) h
 | .cond c x y,F,H,Q,b6,av,h=>by
  simp only[ei]at h⊢
  split
  ·rename_i b ae
   rw[ae]at h
   simp only at h
   cases b with
   | true=>exact ei.mono (x:=x) av h
   | false=>exact ei.mono (x:=y) av h
  ·rename_i ae
   split at h
   ·rename_i b cM;exact(ae b cM).elim
   ·exact h
 | .block id x,F,H,Q,b6,av,h=>ei.mono (x:=x) (fun e az H1 o=>by
   cases e with
   | normal=>exact av _ _ _ o
   | ret=>exact av _ _ _ o
   | exit ht=>
    simp only[oS]at o⊢
    split
    ·rename_i ad;rw[if_pos ad]at o;exact av _ _ _ o
    ·rename_i ad;rw[if_neg ad]at o;exact av _ _ _ o) h
 | .loop x,F,H,Q,b6,av,h=>by
  simp only[ei]at h⊢
  induction h with
  | round ak ae da aV=>
   exact .round ak (ei.mono (x:=x) (fun e az H1 o=>by
    cases e with
    | normal=>exact o
    | exit id=>exact av _ _ _ o
    | ret=>exact av _ _ _ o) ae) aV
 | .ops l,F,H,Q,b6,av,h=>bd.mono (fun az H1 o=>av _ _ _ o) h
 | .opsL l,F,H,Q,b6,av,h=>fi.mono (fun az H1 o=>av _ _ _ o) h
def FM(af:Fr->ab->Prop):dr->Fr->ab->Prop
 | .normal,F,H=>af F H
 | _,_,_=>False
@[simp] theorem abO(af:Fr->ab->Prop)(F:Fr)(H:ab):FM af .normal F H=af F H:=rfl
theorem gP.cut{x:gp}{Q:dr->Fr->ab->Prop}{K:Fr->ab->Prop}{F:Fr}{H:ab}{aw:a_ x (mT K Q)}(af:Fr->ab->Prop)(o:∀dY:Fr->ab->Prop,(∀az H1,af az H1->dY az H1)->gP P x (FM dY) .mk F H)(aa:∀az H1,af az H1->K az H1):gP P x (mT K Q) aw F H:=
 ei.mono (x:=x) (fun e az H1 h=>by cases e with
  | normal=>exact aa _ _ h
  | exit id=>exact h.elim
  | ret=>exact h.elim) (o af fun _ _ h=>h)
end
def cO(H:ab)(e:Nat)(v:Value)(l:List Nat):Prop:=ec H e 1 v l.length (l.map fun(n:Nat)=>Value.int .u32 (n:Int))/\∀x∈l,x<4294967296
theorem cO.ext{H H1:ab}{e:Nat}{v:Value}{l:List Nat}(h:cO H e v l)(I:Ext H H1):cO H1 e v l:=⟨h.1.ext I,h.2⟩
theorem cO.at{H:ab}{e:Nat}{v:Value}{l:List Nat}(h:cO H e v l)(aE:0<l.length):∃b i cap X all,v= .slice (some ⟨b,i,none⟩) l.length cap/\H[b]?=some X/\X.cells?=some all/\i+l.length<=all.length/\∀k,k<l.length->all[i+k]?=some (.int .u32 (l[k]?.getD 0:Nat)):=by
 obtain⟨b,i,cap,X,all,o,aa,aD,bD,b2⟩:=h.1.at aE
 refine⟨b,i,cap,X,all,o,aa,aD,by omega,fun k ai=>?_⟩
 rw[b2 k (by omega),List.getElem?_map,bx ai]
 simp[bx ai]
theorem cO.len{H:ab}{e:Nat}{v:Value}{l:List Nat}(h:cO H e v l):∃a cap,v= .slice a l.length cap:=h.1.len
theorem cO.lt{H:ab}{e:Nat}{v:Value}{l:List Nat}(h:cO H e v l)(k:Nat):l[k]?.getD 0<4294967296:=by
 by_cases ai:k<l.length
 ·rw[bx ai];exact h.2 _ (List.getElem_mem ai)
 ·rw[List.getElem?_eq_none (by omega)];decide
theorem Mz(l:List Nat)(h:0<l.length):l.take (l.length-1)++[l[l.length-1]?.getD 0]=l:=by
 rw[bx (by omega),Option.getD_some,<-List.dropLast_eq_take,<-List.getLast_eq_getElem (by intro e;simp[e]at h),List.dropLast_concat_getLast]
def val:List Nat->Nat
 | []=>0
 | x::l=>x+4294967296*val l
theorem mY(a b:List Nat):val (a++b)=val a+4294967296^a.length*val b:=by
 induction a with
 | nil=>simp[val]
 | cons x a aV=>simp only[List.cons_append,val,aV,List.length_cons,Nat.pow_succ];grind
theorem Fl(k:Nat):val (List.replicate k 0)=0:=by
 induction k with
 | zero=>rfl
 | succ k aV=>simp[List.replicate_succ,val,aV]
theorem jC{l:List Nat}(h:∀x∈l,x<4294967296):val l<4294967296^l.length:=by
 induction l with
 | nil=>simp[val]
 | cons x l aV=>
  have o:=h x (by simp)
  have aa:=aV fun y aJ=>h y (by simp[aJ])
  simp only[val,List.length_cons,Nat.pow_succ]
  omega
def Trim(l:List Nat):Prop:=l.getLast?≠some 0
theorem Trim.nil:Trim []:=by simp[Trim]
theorem Trim.le{l:List Nat}(h:Trim l)(aE:l≠[]):4294967296^(l.length-1)<=val l:=by
 have e:l=l.take (l.length-1)++[l[l.length-1]?.getD 0]:=(Mz l (List.length_pos_iff.2 aE)).symm
 have aH:l[l.length-1]?.getD 0≠0:=fun aH=>h (by
  rw[List.getLast?_eq_getElem?]
  rw[bx (by have:=List.length_pos_iff.2 aE;omega)]at aH⊢
  simpa using aH)
 have ar:(l.take (l.length-1)).length=l.length-1:=by simp
 have:val l=val (l.take (l.length-1))+4294967296^(l.length-1)*(l[l.length-1]?.getD 0):=by
  conv=>lhs;rw[e,mY,ar]
  simp[val]
 rw[this]
 have:4294967296^(l.length-1)*1<=4294967296^(l.length-1)*(l[l.length-1]?.getD 0):=Nat.mul_le_mul_left _ (by omega)
 omega
theorem Trim.zero{l:List Nat}(h:Trim l):val l=0↔l=[]:=by
 constructor
 ·intro aH
  by_cases aE:l=[]
  ·exact aE
  ·have:=h.le aE
   have:=Nat.pow_pos (n:=l.length-1) (show 0<4294967296 by decide)
   omega
 ·rintro rfl;rfl
theorem Trim.uu{a b:List Nat}(ae:Trim b)(aF:∀x∈a,x<4294967296)(h:a.length<b.length):val a<val b:=by
 have o:=jC aF
 have aa:=ae.le (by intro e;simp[e]at h)
 have:4294967296^a.length<=4294967296^(b.length-1):=Nat.pow_le_pow_right (by decide) (by omega)
 omega
theorem Trim.length_le{l:List Nat}(h:Trim l){n:Nat}(ao:val l<4294967296^n):l.length<=n:=by
 by_cases aE:l=[]
 ·simp[aE]
 ·have o:=h.le aE
  have:4294967296^(l.length-1)<4294967296^n:=by omega
  have:=(Nat.pow_lt_pow_iff_right (show 1<4294967296 by decide)).1 this
  omega
section
variable {P:Program} {r:List br} {F:Fr} {H:ab} {Q:Fr->ab->Prop}
theorem AB:∀(aA cs pre:List Value),cs.length=aA.length->nI (pre++cs) pre.length aA=pre++aA
 | [],cs,pre,h=>by
  have:cs=[]:=List.eq_nil_of_length_eq_zero (by simpa using h)
  simp[nI,this]
 | v::aA,[],pre,h=>by simp at h
 | v::aA,c::cs,pre,h=>by
  simp only[nI]
  have o:(pre++c::cs).set pre.length v=(pre++[v])++cs:=by
   rw[List.set_append_right _ _ (Nat.le_refl _),Nat.sub_self]
   simp
  have aa:pre.length+1=(pre++[v]).length:=by simp
  rw[o,aa,AB aA cs (pre++[v]) (by simpa using h)]
  simp
theorem pA(z:Value)(n:Nat):(made z n).length=n:=by simp[made]
theorem X7{ek:Bool}{d1 d2 t bL cN e J bs k n:Nat}{s x:Operand}{z:Value}{cs:List Value}{aw:a_ ((⟨ek,none,some d1,.buildSlice t 1 #[(0,x)]⟩:br)::ap d2 bL cN s (T d1)::r) Q}(cL:hL H k e J (aq F s) n cs)(fy:∀v,aq (aX F d1 v) s=aq F s)
  (bt:P.underlying t=some (.slice e))(hu:P.underlying bL=some (.slice e))(I:fI P cN=true)(an:bn P e=some J)(ae:bytes? P e=some bs)(aP:dv P e=some z)(dt:flat z=true)(cW:z.cells.size=J)(c0:0<J)(qE:J<=1000)
  (dH:0<bs)(bq:(n+1)*bs<=140737488355328)(ao:(aq F x).cells.toList.length=J)(g0:((aq F x).cells.toList.all (·.oneCell'))=true)(ai:k<=H.length)
  (K:∀u au aC,hL aC k e J au (n+1) (cs++(aq F x).cells.toList)->(∀cx:ab,cx.length<=k->Ext cx H->Ext cx aC)->(∀b X,H[b]?=some X->(inBlock (aq F s) b->X.elem?≠some e)->aC[b]?=some X)->a8 P r Q .mk (aX (aX F d1 u) d2 au) aC):
  a8 P ((⟨ek,none,some d1,.buildSlice t 1 #[(0,x)]⟩:br)::ap d2 bL cN s (T d1)::r) Q aw F H:=by
 have fp:(made z (1*J)).length=J:=by rw[pA,Nat.one_mul]
 have aK:iy (fun i=>some (i*J,J)) (made z (1*J)) [(0,aq F x)]=some (aq F x).cells.toList:=by
  simp only[iy]
  rw[if_pos ⟨ao,by rw[fp];omega⟩]
  have:=AB (aq F x).cells.toList (made z (1*J)) [] (by rw[fp,ao])
  simpa using this
 have ax:Instr.fill (fun i=>some (i*J,J)) (made z (1*J)).toArray ((#[(0,x)]:Array (Nat×Operand)).toList.map fun p=>(p.1,aq F p.2))=some (aq F x).cells:=by
  rw[fill_eq]
  simp only[List.map_cons,List.map_nil]
  rw[aK]
  simp
 have av:∀U:Oper,U.op= .buildSlice t 1 #[(0,x)]->eR P (aq F) H U (.slice (some ⟨H.length,0,none⟩) 1 1) (H++[.own e false (aq F x).cells.toList]):=fun U ff=> .build (out:=(aq F x).cells) ff bt an aP dt cW c0 (by omega) (by omega) ax (by have:=ao;simp at this;omega)
 refine ir rfl rfl rfl av (fun U aK=>by simp[bF,aK]) (.inr ((Ext.refl H).snoc _ _ _)) ?_
 show a8 P (ap d2 bL cN s (T d1)::r) Q .mk (aX F d1 _) _
 have cV:Src (H++[.own e false (aq F x).cells.toList]) J (.slice (some ⟨H.length,0,none⟩) 1 1) 1 1 (aq F x).cells.toList:=by
  have:=Src.row (H:=H++[.own e false (aq F x).cells.toList]) (J:=J) (b:=H.length) (i:=0) (n:=1) (m:=1) (c:=1) (x:= .own e false (aq F x).cells.toList) (cs:=(aq F x).cells.toList) (by simp) rfl (by omega) (Nat.le_refl _) (by omega)
  rw[List.drop_zero,Nat.one_mul,<-ao,List.take_length]at this
  rw[ao]at this
  exact this
 have n4:hL (H++[.own e false (aq F x).cells.toList]) k e J (aq (aX F d1 (.slice (some ⟨H.length,0,none⟩) 1 1)) s) n cs:=by
  rw[fy]
  exact cL.ext ((Ext.refl H).snoc _ _ _)
 refine E6 n4 (by simpa[aq,T,aX]using cV) hu I an ae aP cW dH bq g0 (by omega) (by simp;omega) fun au aC o aa aD _ _=>?_
 refine K _ au aC o (fun cx aH ck=>aa cx aH (ck.snoc _ _ _)) (fun b X aR ae=>aD b X ?_ (by rw[fy];exact ae))
 rw[List.getElem?_append_left (cd.1 aR).1]
 exact aR
end
def cl(a4:Nat->Option bA)(H:ab):ab:=H.mapIdx fun b x=>(a4 b).getD x
def Fit(a4:Nat->Option bA)(H:ab):Prop:=∀b x,a4 b=some x->H[b]?=some .dead/\∃e l cs,x= .own e l cs
section
variable {a4:Nat->Option bA} {H:ab}
theorem jB(a4:Nat->Option bA)(H:ab):(cl a4 H).length=H.length:=by simp[cl]
theorem km(a4:Nat->Option bA)(H:ab)(b:Nat):(cl a4 H)[b]?=(H[b]?).map fun x=>(a4 b).getD x:=by simp[cl]
theorem Fit.xx{X:bA}{b:Nat}(h:Fit a4 H)(aR:H[b]?=some X)(aL:X≠ .dead):a4 b=none:=by
 cases aT:a4 b with
 | none=>rfl
 | some x=>have:=(h b x aT).1;rw[aR]at this;exact absurd (Option.some.inj this) aL
theorem Fit.V7{X:bA}{cs:List Value}{b:Nat}(h:Fit a4 H)(aR:H[b]?=some X)(ag:X.cells?=some cs):a4 b=none:=h.xx aR (by rintro rfl;simp[bA.cells?]at ag)
theorem Fit.V8{X:bA}{e:TypeId}{b:Nat}(h:Fit a4 H)(aR:H[b]?=some X)(ag:X.elem?=some e):a4 b=none:=h.xx aR (by rintro rfl;simp[bA.elem?]at ag)
theorem Fit.uy{e:TypeId}{l:Bool}{cs:List Value}{b:Nat}(h:Fit a4 H)(aR:H[b]?=some (.own e l cs)):a4 b=none:=h.xx aR (by simp)
theorem Ai{b:Nat}(aT:a4 b=none):(cl a4 H)[b]?=H[b]?:=by rw[km,aT];cases H[b]?<;>rfl
theorem Fit.get{X:bA}{b:Nat}(h:Fit a4 H)(aR:H[b]?=some X)(aL:X≠ .dead):(cl a4 H)[b]?=some X:=by rw[Ai (h.xx aR aL)];exact aR
theorem Fit.tk{X:bA}{cs:List Value}{b:Nat}(h:Fit a4 H)(aR:H[b]?=some X)(ag:X.cells?=some cs):(cl a4 H)[b]?=some X:=by rw[Ai (h.V7 aR ag)];exact aR
theorem Fit.lt{b:Nat}{x:bA}(h:Fit a4 H)(aT:a4 b=some x):b<H.length:=(cd.1 (h b x aT).1).1
theorem Fit.app(h:Fit a4 H)(N:ab):Fit a4 (H++N)/\cl a4 (H++N)=cl a4 H++N:=by
 refine⟨fun b x aT=>?_,?_⟩
 ·rw[List.getElem?_append_left (h.lt aT)];exact h b x aT
 ·apply List.ext_getElem?
  intro b
  rw[km]
  by_cases ae:b<H.length
  ·rw[List.getElem?_append_left ae,List.getElem?_append_left (by rw[jB];exact ae),km]
  ·have aT:a4 b=none:=by
    cases aT:a4 b with
    | none=>rfl
    | some x=>exact absurd (h.lt aT) ae
   rw[List.getElem?_append_right (by omega),List.getElem?_append_right (by rw[jB];omega),jB,aT]
   cases N[b-H.length]?<;>rfl
theorem Fit.set{b:Nat}(h:Fit a4 H)(aT:a4 b=none)(x:bA):Fit a4 (H.set b x)/\cl a4 (H.set b x)=(cl a4 H).set b x:=by
 refine⟨fun c y ag=>?_,?_⟩
 ·have:b≠c:=fun e=>by rw[e,ag]at aT;cases aT
  rw[List.getElem?_set_ne this];exact h c y ag
 ·apply List.ext_getElem?
  intro c
  rw[km]
  by_cases CO:b=c
  ·subst CO
   rw[aT]
   by_cases ar:b<H.length
   ·rw[List.getElem?_set_self ar,List.getElem?_set_self (by rw[jB];exact ar)];rfl
   ·rw[List.getElem?_eq_none (by simp;omega),List.getElem?_eq_none (by simp[jB];omega)];rfl
  ·rw[List.getElem?_set_ne CO,List.getElem?_set_ne CO,km]
theorem q3{J m n:Nat}{v:Value}{news:List Value}(ax:Fit a4 H)(h:Src H J v m n news):Src (cl a4 H) J v m n news:=by
 cases h with
 | u7=>exact .u7
 | row I ag aE hm bq=>exact .row (ax.tk I ag) ag aE hm bq
 | str o=>exact .str o
theorem BS{H1:ab}(ax:Fit a4 H)(h:Ext H H1):Ext (cl a4 H) (cl a4 H1):=by
 obtain⟨N,rfl,aE⟩:=h
 exact⟨N,(ax.app N).2,aE⟩
theorem Lh{P:Program}{aI:Operand->Value}{U:Oper}{v:Value}{H1:ab}(ax:Fit a4 H)(h:eR P aI H U v H1):eR P aI (cl a4 H) U v (cl a4 H1)/\Fit a4 H1:=by
 have ap:∀X:bA,Fit a4 (H++[X])/\cl a4 (H++[X])=cl a4 H++[X]:=fun X=>ax.app [X]
 have ar:=jB a4 H
 cases h with
 | sx an C3 ao h=>exact⟨.sx an C3 ao h,ax⟩
 | alloc h aP dt an=>refine⟨?_,(ap _).1⟩;rw[(ap _).2,<-ar];exact .alloc h aP dt an
 | box h an=>refine⟨?_,(ap _).1⟩;rw[(ap _).2,<-ar];exact .box h an
 | xl h aF I aR ag ao=>exact⟨.xl h aF I (ax.tk aR ag) ag ao,ax⟩
 | xm h aF an I aR ag bq=>exact⟨.xm h aF an I (ax.tk aR ag) ag bq,ax⟩
 | store h an I aR bq o=>obtain⟨aS,aM⟩:=ax.set (ax.uy aR) (.own _ _ _);refine⟨?_,aS⟩;rw[aM];exact .store h an I (ax.get aR (by simp)) bq o
 | slice h hu an I aR he ar eu o aa a3=>exact⟨.slice h hu an I (by rw[Ai (ax.V8 aR he)];exact aR) he ar eu o aa a3,ax⟩
 | xO h hu an I qm ar eu=>exact⟨.xO h hu an I qm ar eu,ax⟩
 | xP h hu an I ar eu=>exact⟨.xP h hu an I ar eu,ax⟩
 | AH h hu an I ar eu hm aD=>exact⟨.AH h hu an I ar eu hm aD,ax⟩
 | AG h hu an I ar eu hm=>exact⟨.AG h hu an I ar eu hm,ax⟩
 | make h hu an ae aP dt cW I aJ c0 dH lO ag bq=>refine⟨?_,(ap _).1⟩;rw[(ap _).2,<-ar];exact .make h hu an ae aP dt cW I aJ c0 dH lO ag bq
 | uv h hu an ae I aJ=>exact⟨.uv h hu an ae I aJ,ax⟩
 | build h hu an aP dt cW c0 dz bq RF r4=>refine⟨?_,(ap _).1⟩;rw[(ap _).2,<-ar];exact .build h hu an aP dt cW c0 dz bq RF r4
 | vu h hu an=>exact⟨.vu h hu an,ax⟩
 | vm h hu I an cV ao=>exact⟨.vm h hu I an (q3 ax cV) ao,ax⟩
 | vq h hu I an ae aP cW cV aE dH bq aF ao=>refine⟨?_,(ap _).1⟩;rw[(ap _).2,<-ar];exact .vq h hu I an ae aP cW (q3 ax cV) aE dH bq aF ao
 | vo h hu I an cV gE ag aR bq g0 ao=>obtain⟨aS,aM⟩:=ax.set (ax.uy aR) (.own _ _ _);refine⟨?_,aS⟩;rw[aM];exact .vo h hu I an (q3 ax cV) gE ag (ax.get aR (by simp)) bq g0 ao
 | vn h hu I an ae aP cW cV aE dH bq aR g1 gE ag ao=>refine⟨?_,(ap _).1⟩;rw[(ap _).2,<-ar];exact .vn h hu I an ae aP cW (q3 ax cV) aE dH bq (ax.get aR (by simp)) g1 gE ag ao
 | vp h hu I an ae aP cW cV aE dH bq aR g1 gE ag g0 ao=>
  obtain⟨aS,aM⟩:=ax.set (ax.uy aR) .dead
  obtain⟨bh,b0⟩:=aS.app [.own _ true _]
  refine⟨?_,bh⟩
  rw[b0,aM,<-ar]
  exact .vp h hu I an ae aP cW (q3 ax cV) aE dH bq (ax.get aR (by simp)) g1 gE ag g0 ao
 | copy h hu an cV aE jU aR bq g0 ao=>obtain⟨aS,aM⟩:=ax.set (ax.uy aR) (.own _ _ _);refine⟨?_,aS⟩;rw[aM];exact .copy h hu an (q3 ax cV) aE jU (ax.get aR (by simp)) bq g0 ao
 | vy h hu an cV aE ao=>exact⟨.vy h hu an (q3 ax cV) aE ao,ax⟩
 | str h an he aL lS cV=>exact⟨.str h an he aL lS (q3 ax cV),ax⟩
theorem Xa{P:Program}{t:List Value}{rs:List ResultVar}{aA:List Value}(ax:Fit a4 H)(h:lA P t H rs aA):lA P t (cl a4 H) rs aA:=by
 induction h with
 | nil=>exact .nil
 | tmp an aV=>exact .tmp aV
 | yq aF I aR ag ao an aV=>exact .yq aF I (ax.tk aR ag) ag ao aV
 | yr aF aE I aR ag bq an aV=>exact .yr aF aE I (ax.tk aR ag) ag bq aV
def oL.heap:oL->ab
 | .code _ _ H=>H
 | .op _ _ _ H=>H
 | .call _ _ H=>H
def Out.heap:Out->ab
 | .code _ _ H=>H
 | .val _ H=>H
def Vn(a4:Nat->Option bA):oL->oL
 | .code c t H=> .code c t (cl a4 H)
 | .op ops U t H=> .op ops U t (cl a4 H)
 | .call f args H=> .call f args (cl a4 H)
def Wd(a4:Nat->Option bA):Out->Out
 | .code e t H=> .code e t (cl a4 H)
 | .val v H=> .val v (cl a4 H)
theorem Vt{P:Program}{ops:Array Oper}{U:Oper}{t:List Value}{H1:ab}{v:Value}{g:Option (Nat×Option bA)}(ax:Fit a4 H)(h:nQ P ops U t H v H1 g):nQ P ops U t (cl a4 H) v (cl a4 H1) g/\Fit a4 H1:=by
 cases g with
 | none=>obtain⟨o,rfl⟩:=h;exact⟨⟨o,rfl⟩,ax⟩
 | some bs=>
  obtain⟨b,y⟩:=bs
  obtain⟨o,aa,aD,bD,b2,gC⟩:=h
  have aT:a4 b=none:=ax.xx (bx aD) (by rw[bx aD]at bD;exact fun e=>bD (by rw[e]))
  have he:=Ai (H:=H) aT
  cases y with
  | none=>
   simp only[lX]at b2
   subst b2
   exact⟨⟨o,aa,by rw[jB];exact aD,by rw[he];exact bD,rfl,fun aC rI=>gC aC (by rw[rI,he])⟩,ax⟩
  | some x=>
   simp only[lX]at b2
   subst b2
   obtain⟨aS,aM⟩:=ax.set aT x
   exact⟨⟨o,aa,by rw[jB];exact aD,by rw[he];exact bD,aM,fun aC rI=>gC aC (by rw[rI,he])⟩,aS⟩
theorem W8{P:Program}{j:oL}{U:Out}(h:dK P j U):Fit a4 j.heap->dK P (Vn a4 j) (Wd a4 U)/\Fit a4 U.heap:=by
 induction h with
 | skip=>exact fun ax=>⟨.skip,ax⟩
 | ret=>exact fun ax=>⟨.ret,ax⟩
 | exit=>exact fun ax=>⟨.exit,ax⟩
 | AA o aa kN pw=>exact fun ax=>let⟨dT,f1⟩:=kN ax;let⟨fH,f2⟩:=pw f1;⟨.AA dT fH,f2⟩
 | xJ o he kN=>exact fun ax=>let⟨dT,f1⟩:=kN ax;⟨.xJ dT he,f1⟩
 | cond ag ai h aV=>exact fun ax=>let⟨dT,f1⟩:=aV ax;⟨.cond ag ai dT,f1⟩
 | block h aV=>exact fun ax=>let⟨dT,f1⟩:=aV ax;⟨.block dT,f1⟩
 | z7 o aa kN pw=>exact fun ax=>let⟨dT,f1⟩:=kN ax;let⟨fH,f2⟩:=pw f1;⟨.z7 dT fH,f2⟩
 | xn o he kN=>exact fun ax=>let⟨dT,f1⟩:=kN ax;⟨.xn dT he,f1⟩
 | region T V aW ai h bc aL aV=>
  rename_i id ops draw
  intro ax
  have nu:∀i,i<=ops.size->Fit a4 (aW i):=by
   intro i
   induction i with
   | zero=>exact fun _=>ax
   | succ i D1=>exact fun ad=>(aV i _ (Array.getElem?_eq_getElem (show i<ops.size by omega)) (D1 (by omega))).2
  have lt:∀{i:Nat} {U:Oper},ops[i]?=some U->i<=ops.size:=fun aK=>Nat.le_of_lt (Array.getElem?_eq_some_iff.1 aK).1
  exact⟨.region T V (fun i=>cl a4 (aW i)) ai (fun i U aK=>(aV i U aK (nu i (lt aK))).1) bc (fun tM=>⟨(aL tM).1,fun i U aK a2=>((aL tM).2 i U aK a2).imp (fun x=>x) fun he=>BS (nu i (lt aK)) he⟩),nu _ (Nat.le_refl _)⟩
 | Aw T V aW dW ai h bc ef ar aL uc aV=>
  rename_i id ops draw
  intro ax
  have nu:∀i,i<=ops.size->Fit a4 (aW i):=by
   intro i
   induction i with
   | zero=>exact fun _=>ax
   | succ i D1=>exact fun ad=>(aV i _ (Array.getElem?_eq_getElem (show i<ops.size by omega)) (D1 (by omega))).2
  have lt:∀{i:Nat} {U:Oper},ops[i]?=some U->i<=ops.size:=fun aK=>Nat.le_of_lt (Array.getElem?_eq_some_iff.1 aK).1
  exact⟨.Aw T V (fun i=>cl a4 (aW i)) dW ai (fun i U aK=>(aV i U aK (nu i (lt aK))).1) bc ef (fun i U aK=>(Vt (nu i (lt aK)) (ar i U aK)).1) aL uc,nu _ (Nat.le_refl _)⟩
 | sz hw=>exact fun ax=>⟨.sz hw,ax⟩
 | uB hw a2 h=>exact fun ax=>⟨.uB hw a2 h,ax⟩
 | qS hw a2 h=>exact fun ax=>let⟨aS,aM⟩:=Lh ax h;⟨.qS hw a2 aS,aM⟩
 | uA hw a2 aK wA aU aE ae h aV=>exact fun ax=>let⟨dT,f1⟩:=aV ax;⟨.uA hw a2 aK wA aU aE ae dT,f1⟩
 | call wA ae h he aj aV=>exact fun ax=>let⟨dT,f1⟩:=aV ax;⟨.call wA ae dT he (Xa f1 aj),f1⟩
 | yp h aK aV=>
  intro ax
  obtain⟨dT,f1⟩:=aV ax
  obtain⟨e,l,cs,I⟩:=aK
  obtain⟨aS,aM⟩:=f1.set (f1.uy I) .dead
  refine⟨?_,aS⟩
  show dK P _ (.val _ (cl a4 (List.set _ _ .dead)))
  simp only[Out.heap]at aM
  rw[aM]
  exact .yp dT ⟨e,l,cs,f1.get I (by simp)⟩
theorem a0.ow{P:Program}{f:FuncId}{args:List Value}{Q:Value->ab->Prop}(ax:Fit a4 H)(h:a0 P f args H Q):a0 P f args (cl a4 H) fun v H1=>∃aC,H1=cl a4 aC/\Fit a4 aC/\Q v aC:=by
 obtain⟨v,H1,⟨ag,aj⟩ | ⟨aF,rfl⟩,av⟩:=h
 ·obtain⟨dT,f1⟩:=W8 aj (a4:=a4) ax
  exact⟨v,_,.inl ⟨ag,dT⟩,H1,rfl,f1,av⟩
 ·exact⟨v,_,.inr ⟨aF,rfl⟩,H1,rfl,ax,av⟩
theorem N9{b:Nat}{cs:List Value}(ax:Fit a4 H)(h:h5 H b=some cs):h5 (cl a4 H) b=some cs:=by
 obtain⟨X,aR,ag⟩:=ys h
 unfold h5
 rw[ax.tk aR ag]
 exact ag
theorem XC{P:Program}{aI:Operand->Value}{op:Op}{v:Value}{H1:ab}(ax:Fit a4 H)(h:bU P aI H op=some (v,H1)):bU P aI (cl a4 H) op=some (v,cl a4 H1)/\Fit a4 H1:=by
 cases op<;>simp only[bU]at h⊢<;>try (first | (simp at h;done) | (cases h;done))
 case move=>simp at h;obtain⟨rfl,rfl⟩:=h;exact⟨rfl,ax⟩
 case assign=>simp at h;obtain⟨rfl,rfl⟩:=h;exact⟨rfl,ax⟩
 case pick=>split at h<;>simp at h;obtain⟨rfl,rfl⟩:=h;exact⟨rfl,ax⟩
 case alloc=>
  split at h
  ·split at h
   ·rename_i ag
    simp at h;obtain⟨rfl,rfl⟩:=h
    rw[if_pos ag,jB,(ax.app _).2]
    exact⟨rfl,(ax.app _).1⟩
   ·cases h
  ·cases h
 case box=>
  split at h
  ·rename_i ag
   simp at h;obtain⟨rfl,rfl⟩:=h
   rw[if_pos ag,jB,(ax.app _).2]
   exact⟨rfl,(ax.app _).1⟩
  ·cases h
 case load ty x=>
  split at h
  ·rename_i b i I
   cases fX:h5 H b with
   | none=>rw[fX]at h;cases h
   | some cs=>
    rw[fX]at h
    rw[N9 ax fX]
    revert h
    simp only
    cases c_ P ty with
    | none=>simp
    | some g=>
     cases g with
     | false=>simp only;cases cs[i]?<;>simp only[Option.map_none,Option.map_some,Option.some.injEq,Prod.mk.injEq,reduceCtorEq,false_implies,and_imp];try (rintro rfl rfl;exact⟨⟨rfl,rfl⟩,ax⟩)
     | true=>
      simp only
      cases bn P ty with
      | none=>simp
      | some n=>
       simp only
       split
       ·simp only[Option.map_none,Option.map_some,Option.some.injEq,Prod.mk.injEq,reduceCtorEq,false_implies,and_imp];try (rintro rfl rfl;exact⟨⟨rfl,rfl⟩,ax⟩)
       ·simp
  ·cases h
 case store ty x y=>
  split at h
  ·rename_i b i I
   split at h
   ·rename_i e l cs aR
    split at h
    ·rename_i ag
     simp at h;obtain⟨rfl,rfl⟩:=h
     obtain⟨aS,aM⟩:=ax.set (ax.uy aR) (.own e l (c3 cs i (aI y).cells.toList))
     rw[ax.get aR (by simp)]
     simp only
     rw[if_pos ag,aM]
     exact⟨rfl,aS⟩
    ·cases h
   ·cases h
  ·cases h
 case nilCheck=>split at h<;>simp at h;obtain⟨rfl,rfl⟩:=h;exact⟨rfl,ax⟩
 case binOp=>obtain⟨u,hu,he⟩:=Option.map_eq_some_iff.1 h;simp at he;obtain⟨rfl,rfl⟩:=he;rw[hu];exact⟨rfl,ax⟩
 case unOp=>obtain⟨u,hu,he⟩:=Option.map_eq_some_iff.1 h;simp at he;obtain⟨rfl,rfl⟩:=he;rw[hu];exact⟨rfl,ax⟩
 case convert=>
  split at h
  ·split at h<;>simp at h;obtain⟨rfl,rfl⟩:=h;exact⟨rfl,ax⟩
  ·split at h
   ·rename_i ag;simp at h;obtain⟨rfl,rfl⟩:=h;rw[if_pos ag];exact⟨rfl,ax⟩
   ·cases h
  ·cases h
 case makeInterface=>
  split at h
  ·rename_i ag;simp at h;obtain⟨rfl,rfl⟩:=h;rw[if_pos ag];exact⟨rfl,ax⟩
  ·cases h
 case makeFunc=>simp at h;obtain⟨rfl,rfl⟩:=h;exact⟨rfl,ax⟩
 case fieldAddr=>
  split at h
  ·obtain⟨u,hu,he⟩:=Option.map_eq_some_iff.1 h;simp at he;obtain⟨rfl,rfl⟩:=he;rw[hu];exact⟨rfl,ax⟩
  ·cases h
 case field=>
  split at h
  ·split at h
   ·obtain⟨u,hu,he⟩:=Option.map_eq_some_iff.1 h;simp at he;obtain⟨rfl,rfl⟩:=he;simp only[hu];exact⟨rfl,ax⟩
   ·cases h
  ·cases h
 case indexAddr=>
  split at h
  ·split at h
   ·split at h
    ·split at h
     ·rename_i ag;simp at h;obtain⟨rfl,rfl⟩:=h;rw[if_pos ag];exact⟨rfl,ax⟩
     ·cases h
    ·cases h
   ·cases h
  ·cases h
 case index=>
  split at h
  ·split at h
   ·rename_i ag;simp only[Option.some.injEq,Prod.mk.injEq]at h;obtain⟨rfl,rfl⟩:=h;rw[if_pos ag];exact⟨rfl,ax⟩
   ·cases h
  ·cases h
 case extract=>
  split at h
  ·obtain⟨u,hu,he⟩:=Option.map_eq_some_iff.1 h;simp at he;obtain⟨rfl,rfl⟩:=he;rw[hu];exact⟨rfl,ax⟩
  ·cases h
 case build=>
  split at h
  ·split at h
   ·rename_i ag;obtain⟨u,hu,he⟩:=Option.map_eq_some_iff.1 h;simp at he;obtain⟨rfl,rfl⟩:=he;rw[if_pos ag,hu];exact⟨rfl,ax⟩
   ·cases h
  ·cases h
 case call c=>
  unfold q1 at h⊢
  split at h
  ·split at h
   ·split at h
    ·simp at h;obtain⟨rfl,rfl⟩:=h;exact⟨rfl,ax⟩
    ·cases h
   ·split at h
    ·rename_i ag;simp at h;obtain⟨rfl,rfl⟩:=h;rw[if_pos ag];exact⟨rfl,ax⟩
    ·cases h
   ·cases h
  ·split at h<;>simp at h;obtain⟨rfl,rfl⟩:=h;exact⟨rfl,ax⟩
  ·split at h<;>simp at h;obtain⟨rfl,rfl⟩:=h;exact⟨rfl,ax⟩
  ·cases h
 case slice ty x bX ad e2=>
  cases e2 with
  | some m=>simp at h
  | none=>
   simp only at h⊢
   split at h
   ·split at h
    ·split at h
     ·rename_i ag;simp at h;obtain⟨rfl,rfl⟩:=h;rw[if_pos ag];exact⟨rfl,ax⟩
     ·cases h
    ·cases h
   ·cases h
theorem XB{P:Program}{aI:Operand->Value}{op:Op}(H aC:ab)(hm:iH op=true)(h:bU P aI H op=none):bU P aI aC op=none:=by
 cases an:bU P aI aC op with
 | none=>rfl
 | some p=>
  obtain⟨v,H1⟩:=p
  cases op<;>simp[iH]at hm<;>simp only[bU]at h an<;>try (first | (simp at an;done) | (cases an;done))
  case convert src dst x=>
   cases I:aI x with
   | int k n=>rw[I]at h an;simp only at h an;revert h an;cases jw P src<;>cases jw P dst<;>simp
   | string t=>rw[I]at h an;simp only at h an;revert h an;split<;>simp
   | _=>rw[I]at an;simp at an
  case call c=>
   obtain⟨callee,args,kA⟩:=c
   unfold q1 at h an
   cases callee with
   | builtin b=>cases b<;>simp at hm<;>simp at an
   | _=>simp at hm
  case slice ty x bX ad e2=>
   cases e2 with
   | some m=>simp at an
   | none=>
    simp only at h an
    split at an
    ·split at an
     ·split at an<;>simp_all
     ·cases an
    ·cases an
theorem fV.ow{P:Program}{b:Bool}{F:Fr}{K:Value->ab->Prop}{op:Op}(ax:Fit a4 H)(h:fV P b F H K op):fV P b F (cl a4 H) (fun v H1=>∃aC,H1=cl a4 aC/\Fit a4 aC/\K v aC) op:=by
 have main:(match bU P (aq F) H op with
   | some (v,H1)=>(hv op=true->b=true)/\K v H1
   | none=>iH op=true/\∃v H1,m7 P (aq F) H op v H1/\(b=true\/Ext H H1)/\K v H1)->(match bU P (aq F) (cl a4 H) op with
   | some (v,H1)=>(hv op=true->b=true)/\∃aC,H1=cl a4 aC/\Fit a4 aC/\K v aC
   | none=>iH op=true/\∃v H1,m7 P (aq F) (cl a4 H) op v H1/\(b=true\/Ext (cl a4 H) H1)/\∃aC,H1=cl a4 aC/\Fit a4 aC/\K v aC):=by
  cases an:bU P (aq F) H op with
  | some p=>
   obtain⟨v,H1⟩:=p
   obtain⟨aS,aM⟩:=XC ax an
   rw[aS]
   exact fun h=>⟨h.1,H1,rfl,aM,h.2⟩
  | none=>
   intro⟨o,v,H1,aa,aD,bD⟩
   rw[XB H _ o an]
   have hm:=fun U aK=>Lh ax (aa U aK).2
   have aH:=hm ⟨none,op,default,default, #[],none⟩ rfl
   exact⟨o,v,cl a4 H1,fun U aK=>⟨(aa U aK).1,(hm U aK).1⟩,aD.imp (fun x=>x) fun he=>BS ax he,H1,rfl,aH.2,bD⟩
 cases op<;>try exact main h
 rename_i c
 obtain⟨callee,args,kA⟩:=c
 cases callee with
 | value f=>
  simp only[fV]at h⊢
  split at h
  ·rename_i g first cap zb
   exact(a0.ow ax h).mono fun v H1 ⟨aC,e,o,aa⟩=>⟨aa.1.imp (fun x=>x) fun he=>by rw[e];exact BS ax he,aC,e,o,aa.2⟩
  ·exact h.elim
 | invoke r m=>exact main h
 | builtin b=>exact main h
theorem bd.ow{P:Program}:∀{l:List br} {F:Fr} {H:ab} {Q:Fr->ab->Prop},Fit a4 H->bd P l F H Q->bd P l F (cl a4 H) fun az H1=>∃aC,H1=cl a4 aC/\Fit a4 aC/\Q az aC
 | [],F,H,Q,ax,h=>⟨H,rfl,ax,h⟩
 | x::rest,F,H,Q,ax,h=>by
  simp only[bd]at h⊢
  split
  ·rename_i aU
   rw[aU]at h
   exact fV.mono (fun v H1 ⟨aC,e,o,aa⟩=>by rw[e];exact bd.ow o aa) (fV.ow ax h)
  ·rename_i j w aU
   rw[aU]at h
   simp only at h
   split
   ·rename_i ae
    rw[if_pos ae]at h
    exact fV.mono (fun v H1 ⟨aC,e,o,aa⟩=>by rw[e];exact bd.ow o aa) (fV.ow ax h)
   ·rename_i ae
    rw[if_neg ae]at h
    exact bd.ow ax h
end
end Go.b9
end
