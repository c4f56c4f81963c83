/- Part of the proof of ShopShares. -/
import Derived.Test.YtoiodfcefbapkaaShopSharesB
set_option linter.unusedVariables false
set_option linter.unusedSimpArgs false
section
namespace Go.b_
structure br where
 b:Bool
 g:Option (Nat×Bool)
 d:Option Nat
 op:Op
inductive gn where
 | skip
 | ret
 | exit (id:Nat)
 | seq (x y:gn)
 | cond (c:Operand) (x y:gn)
 | block (id:Nat) (x:gn)
 | loop (x:gn)
 | ops (l:List br)
 | opsL (l:List br)
structure e8 where
 code:gn
 results:List ResultVar
def hz:Op->Op
 | .call {callee:= .value f,args,.. }=> .call {callee:= .value f,args,argTypes:= #[]}
 | .binOp op t x y _=> .binOp op t x y 0
 | .unOp op _ x=> .unOp op 0 x
 | op=>op
def mP(P:Program):Op->Bool
 | .move _ | .assign _ | .pick .. | .alloc _ | .box .. | .load .. | .nilCheck _ | .binOp .. | .unOp .. | .makeInterface .. | .makeFunc .. | .fieldAddr .. | .field .. | .indexAddr .. | .index .. | .extract .. | .build .. =>false
 | .call {callee:= .builtin .len,.. } | .call {callee:= .builtin .max,.. } | .call {callee:= .builtin .min,.. }=>false
 | .convert s t _=> !(qP P s&&qP P t)
 | _=>true
def Pa(n:Nat):Option Tmp->Bool
 | some d=>decide (d<n)
 | none=>true
def vw(P:Program)(n:Nat)(ops:Array Oper)(draw:Bool)(U:Oper)(k:Nat):Option br:=
 if Pa n U.dst=true then
  match U.guard with
  | none=>some ⟨!draw || !mP P U.op || eu P ops k,none,U.dst,hz U.op⟩
  | some (j,w)=>match(ops[j]?).bind (·.dst)with
   | some d=>some ⟨!draw || !mP P U.op || eu P ops k,some (d,w),U.dst,hz U.op⟩
   | none=>none
 else none
def nh(P:Program)(n:Nat)(ops:Array Oper)(draw:Bool):List Oper->Nat->Option (List br)
 | [],_=>some []
 | U::rest,k=>match vw P n ops draw U k,nh P n ops draw rest (k+1)with
  | some x,some xs=>some (x::xs)
  | _,_=>none
def Re(P:Program)(ops:Array Oper):Bool:=ops.toList.zipIdx.any fun pI=>hx pI.1.op&& !eu P ops pI.2
def hp(P:Program)(n:Nat):Code->Option gn
 | .skip=>some .skip
 | .ret=>some .ret
 | .exit id=>some (.exit id)
 | .seq a b=>match hp P n a,hp P n b with
  | some x,some y=>some (.seq x y)
  | _,_=>none
 | .cond c a b=>if mQ c=true then(match hp P n a,hp P n b with
  | some x,some y=>some (.cond c x y)
  | _,_=>none)else none
 | .block id a=>(hp P n a).map (.block id)
 | .loop a=>(hp P n a).map .loop
 | .region id ops draw=>if draw&&Re P ops then(if yy ops&&(gx ops&&D9 P ops)then(nh P n ops true ops.toList 0).map .opsL else none)
  else if yy ops&&(!draw || gx ops)then(nh P n ops draw ops.toList 0).map .ops else none
 | _=>none
def comp(P:Program)(fn:Func):Option e8:=match fn.body with
 | some c=>(hp P fn.ntmps c).map fun x=>⟨x,fn.results.toList⟩
 | none=>none
abbrev Fr:=Nat->Value
def aY(F:Fr)(d:Nat)(v:Value):Fr:=fun i=>if i=d then v else F i
theorem hL(F:Fr)(d:Nat)(v:Value):aY F d v d=v:=by simp[aY]
theorem gX(F:Fr){d i:Nat}(v:Value)(h:i≠d):aY F d v i=F i:=by simp[aY,h]
def iV(args:List Value):Fr:=fun i=>args.getD i undef
def aq(F:Fr):Operand->Value
 | .tmp i=>F i
 | .const v=>v
 | .global g=> .pointer (some ⟨0,g,some 0⟩)
 | .func f=> .func (.func f) #[] #[]
def fF(F:Fr)(d:Option Nat)(v:Value):Fr:=match d with
 | some d=>aY F d v
 | none=>F
theorem xJ(t:List Value):eZ t=aq (gt t):=by funext x;cases x<;>rfl
theorem Iv(t:List Value)(d:Option Tmp)(v:Value)(h:∀e,d=some e->e<t.length):gt (eS t d v)=fF (gt t) d v:=by
 cases d with
 | none=>rfl
 | some e=>
  funext i
  simp only[eS,fF,aY,PM]
  by_cases ad:i=e
  ·subst ad;simp[h i rfl]
  ·rw[if_neg (Ne.symm ad),if_neg ad]
theorem Mq(t:List Value)(d:Option Tmp)(v:Value):(eS t d v).length=t.length:=by cases d<;>simp[eS]
def na(P:Program)(aK:Operand->Value)(H:ab)(op:Op)(v:Value)(H1:ab):Prop:=∀U:Oper,U.op=op->bF P U=false/\eV P aK H U v H1
def iO:Op->Bool
 | .slice .. | .makeSlice .. | .buildSlice .. | .convert .. | .call {callee:= .builtin .append,.. } | .call {callee:= .builtin .copy,.. }=>true
 | _=>false
def fV(P:Program)(b:Bool)(F:Fr)(H:ab)(K:Value->ab->Prop):Op->Prop
 | .call {callee:= .value f,args,.. }=>(match aq F f with
  | .func (.func g) first cap=>aZ P g (first.toList++args.toList.map (aq F)++cap.toList) H fun v H1=>(b=true\/Ext H H1)/\K v H1
  | _=>False)
 | op=>(match bT P (aq F) H op with
  | some (v,H1)=>(hx op=true->b=true)/\K v H1
  | none=>iO op=true/\∃v H1,na P (aq F) H op v H1/\(b=true\/Ext H H1)/\K v H1)
def bd(P:Program):List br->Fr->ab->(Fr->ab->Prop)->Prop
 | [],F,H,Q=>Q F H
 | x::rest,F,H,Q=>match x.g with
  | none=>fV P x.b F H (fun v H1=>bd P rest (fF F x.d v) H1 Q) x.op
  | some (j,w)=>if gR (F j)=some w then fV P x.b F H (fun v H1=>bd P rest (fF F x.d v) H1 Q) x.op else bd P rest (fF F x.d undef) H Q
def fi(P:Program):List br->Fr->ab->List Nat->List Nat->(Fr->ab->Prop)->Prop
 | [],F,H,_,_,Q=>Q F H
 | x::rest,F,H,ae,W,Q=>match x.g with
  | none=>gA P x.b (aq F) H ae W (fun v H1 fs ft=>fi P rest (fF F x.d v) H1 fs ft Q) x.op
  | some (j,w)=>if gR (F j)=some w then gA P x.b (aq F) H ae W (fun v H1 fs ft=>fi P rest (fF F x.d v) H1 fs ft Q) x.op else fi P rest (fF F x.d undef) H ae W Q
def mV(K:Fr->ab->Prop)(Q:ds->Fr->ab->Prop):ds->Fr->ab->Prop
 | .normal,F,H=>K F H
 | e,F,H=>Q e F H
def oZ(id:Nat)(Q:ds->Fr->ab->Prop):ds->Fr->ab->Prop
 | .exit hv,F,H=>if hv=id then Q .normal F H else Q (.exit hv) F H
 | e,F,H=>Q e F H
inductive p0 (body:Fr->ab->(ds->Fr->ab->Prop)->Prop) (Q:ds->Fr->ab->Prop):Fr->ab->Prop
 | round {F:Fr} {H:ab} (ak:Fr->ab->Prop) (h:body F H (mV ak Q)) (dc:∀aA H1,ak aA H1->p0 body Q aA H1):p0 body Q F H
def ej(P:Program):gn->Fr->ab->(ds->Fr->ab->Prop)->Prop
 | .skip,F,H,Q=>Q .normal F H
 | .ret,F,H,Q=>Q .ret F H
 | .exit id,F,H,Q=>Q (.exit id) F H
 | .seq x y,F,H,Q=>ej P x F H (mV (fun aA H1=>ej P y aA H1 Q) Q)
 | .cond c x y,F,H,Q=>(match aq F c with
  | .bool b=>if b=true then ej P x F H Q else ej P y F H Q
  | _=>False)
 | .block id x,F,H,Q=>ej P x F H (oZ id Q)
 | .loop x,F,H,Q=>p0 (ej P x) Q F H
 | .ops l,F,H,Q=>bd P l F H (fun aA H1=>Q .normal aA H1)
 | .opsL l,F,H,Q=>fi P l F H [] [] (fun aA H1=>Q .normal aA H1)
def jK(P:Program)(F:Fr)(H:ab):List ResultVar->(List Value->Prop)->Prop
 | [],K=>K []
 | .tmp i::rs,K=>jK P F H rs fun aB=>K (F i::aB)
 | .cell a ty::rs,K=>(match F a with
  | .pointer (some ⟨b,i,none⟩)=>(match h_ H b with
   | some cs=>(match da P ty with
    | some false=>(match cs[i]? with
     | some v=>jK P F H rs fun aB=>K (v::aB)
     | none=>False)
    | some true=>(match bm P ty with
     | some n=>i+n<=cs.length/\jK P F H rs fun aB=>K (.agg ((cs.drop i).take n).toArray::aB)
     | none=>False)
    | none=>False)
   | none=>False)
  | _=>False)
def pM(P:Program)(rs:List ResultVar)(Q:Value->ab->Prop):ds->Fr->ab->Prop
 | .normal,F,H=>jK P F H rs fun aB=>Q (bj aB) H
 | .ret,F,H=>jK P F H rs fun aB=>Q (bj aB) H
 | .exit _,_,_=>False
section
variable {P:Program}
theorem Mp(aK:Operand->Value)(H:ab)(op:Op):bT P aK H (hz op)=bT P aK H op:=by
 cases op<;>try rfl
 rename_i c
 obtain⟨callee,args,kI⟩:=c
 cases callee<;>rfl
theorem Wc{aK:Operand->Value}{H H1:ab}{U:Oper}{v:Value}(h:eV P aK H U v H1)(aE:mP P U.op=false):Ext H H1:=by
 have one:∀{e:TypeId} {l:Bool} {cs:List Value},Ext H (H++[.own e l cs]):=fun{e l cs}=>⟨[.own e l cs],rfl,fun x I cH eo=>by simp at I;subst I;simp⟩
 cases h with
 | sA=>exact Ext.refl H
 | alloc=>exact one
 | box=>exact one
 | xh=>exact Ext.refl H
 | xi=>exact Ext.refl H
 | store h=>rw[h]at aE;cases aE
 | slice h=>exact Ext.refl H
 | xN=>exact Ext.refl H
 | xO=>exact Ext.refl H
 | AI=>exact Ext.refl H
 | AH=>exact Ext.refl H
 | make=>exact one
 | uw=>exact Ext.refl H
 | build=>exact one
 | vt=>exact Ext.refl H
 | vk=>exact Ext.refl H
 | vo=>exact one
 | vm h=>rw[h]at aE;cases aE
 | vl=>exact one
 | vn h=>rw[h]at aE;cases aE
 | copy h=>rw[h]at aE;cases aE
 | vx=>exact Ext.refl H
 | str=>exact Ext.refl H
theorem LG{ops:Array Oper}{draw:Bool}{k:Nat}{U:Oper}{t:List Value}{H:ab}{K:List Value->ab->Prop}{dW:Value->ab->Prop}(a1:∀v H1,dW v H1->K (eS t U.dst v) H1)
  (h:fV P (!draw || !mP P U.op || eu P ops k) (gt t) H dW (hz U.op)):vf P ops draw k U t H K U.op:=by
 have ym:mP P U.op=true->(!draw || !mP P U.op || eu P ops k)=true->draw=true->eu P ops k=true:=fun o aa aD=>by simpa[o,aD]using aa
 have fin:(mP P U.op=true\/hx U.op=false)->hx (hz U.op)=hx U.op->(hz U.op=U.op\/bF P U=true)->(bF P U=true->∀j9:Oper,j9.op=hz U.op->bF P j9=true)->(match bT P (aq (gt t)) H (hz U.op)with
   | some (v,H1)=>(hx (hz U.op)=true->(!draw || !mP P U.op || eu P ops k)=true)/\dW v H1
   | none=>iO (hz U.op)=true/\∃v H1,na P (aq (gt t)) H (hz U.op) v H1/\((!draw || !mP P U.op || eu P ops k)=true\/Ext H H1)/\dW v H1)->
   (match bT P (eZ t) H U.op with
   | some (v,H1)=>Bb P ops draw k (hx U.op)/\K (eS t U.dst v) H1
   | none=>∃v H1,bF P U=false/\eV P (eZ t) H U v H1/\x7 P ops draw k H H1/\K (eS t U.dst v) H1):=by
  intro cS zw hH a2 an
  rw[Mp]at an
  rw[xJ]
  split at an
  ·rename_i v H1 ao
   refine⟨fun o aa=>?_,a1 _ _ an.2⟩
   rcases cS with cS | cS
   ·exact ym cS (an.1 (by rw[zw];exact aa)) o
   ·rw[cS]at aa;cases aa
  ·obtain⟨-,v,H1,hm,he,Cd⟩:=an
   rcases hH with hH | hH
   ·obtain⟨aT,aQ⟩:=hm U hH.symm
    refine⟨v,H1,aT,aQ,fun o=>?_,a1 _ _ Cd⟩
    cases zv:mP P U.op with
    | false=>exact .inr (Wc aQ zv)
    | true=>
     rcases he with he | he
     ·exact .inl (ym zv he o)
     ·exact .inr he
   ·have aT:=(hm ⟨U.dst,hz U.op,U.type,U.pos,U.after,U.guard⟩ rfl).1
    rw[a2 hH _ rfl]at aT
    cases aT
 cases bW:U.op<;>rw[bW]at h fin ym<;>try (exact fin (by simp[mP,hx]) rfl (.inl rfl) (fun ax j9 fe=>by first | (simp only[bF,bW,fe,hz]at ax⊢;exact ax) | (simp[bF,bW]at ax;try (simp[bF,fe,hz]))) h;done)
 case binOp op ty x y oP=>exact fin (.inr rfl) rfl (.inr (by simp[bF,bW])) (fun _ j9 fe=>by simp[bF,fe,hz]) h
 case unOp op ty x=>exact fin (.inr rfl) rfl (.inr (by simp[bF,bW])) (fun _ j9 fe=>by simp[bF,fe,hz]) h
 case call c=>
  obtain⟨callee,args,kI⟩:=c
  cases callee with
  | value f=>
   simp only[hz,fV]at h
   simp only[vf,xJ]
   split at h
   ·rename_i g first cap ax
    rw[ax]
    refine h.mono fun v H1 cR=>⟨fun o=>?_,a1 _ _ cR.2⟩
    rcases cR.1 with he | he
    ·exact .inl (ym rfl he o)
    ·exact .inr he
   ·exact h.elim
  | invoke r m=>exact fin (.inl rfl) rfl (.inl rfl) (fun ax=>by simp[bF,bW]at ax) h
  | builtin bi=>exact fin (.inr rfl) rfl (.inl rfl) (fun ax j9 fe=>by simp only[bF,bW,fe,hz]at ax⊢;exact ax) h
theorem LD{n:Nat}{ops:Array Oper}{draw:Bool}:∀(rest:List Oper) (k:Nat) (xs:List br) (t:List Value) (H:ab) (Q:List Value->ab->Prop) (b6:Fr->ab->Prop),nh P n ops draw rest k=some xs->t.length=n->
  (∀t1 H1,t1.length=n->b6 (gt t1) H1->Q t1 H1)->bd P xs (gt t) H b6->nZ P ops draw k rest t H Q
 | [],k,xs,t,H,Q,b6,ag,ar,aG,h=>by
  simp only[nh,Option.some.injEq]at ag
  subst ag
  exact aG t H ar h
 | U::rest,k,xs,t,H,Q,b6,ag,ar,aG,h=>by
  simp only[nh]at ag
  cases I:vw P n ops draw U k with
  | none=>simp[I]at ag
  | some x=>
   cases mN:nh P n ops draw rest (k+1)with
   | none=>simp[I,mN]at ag
   | some bI=>
    simp only[I,mN,Option.some.injEq]at ag
    subst ag
    unfold vw at I
    split at I
    ·rename_i aJ
     have wv:∀e,U.dst=some e->e<t.length:=fun e he=>by
      rw[he]at aJ
      rw[ar]
      exact of_decide_eq_true aJ
     have sE:∀v H1,bd P bI (fF (gt t) U.dst v) H1 b6->nZ P ops draw (k+1) rest (eS t U.dst v) H1 Q:=fun v H1 o=>
      LD rest (k+1) bI _ H1 Q b6 mN (by rw[Mq];exact ar) aG (by rw[Iv t U.dst v wv];exact o)
     simp only[nZ]
     cases aV:U.guard with
     | none=>
      rw[aV]at I
      obtain rfl:=Option.some.inj I
      have hw:Region.wanted U (gM ops t)=true:=by simp[Region.wanted,aV]
      rw[if_pos hw]
      exact LG sE h
     | some pE=>
      obtain⟨j,w⟩:=pE
      rw[aV]at I
      simp only at I
      cases lr:(ops[j]?).bind (·.dst)with
      | none=>rw[lr]at I;cases I
      | some d=>
       rw[lr]at I
       obtain rfl:=Option.some.inj I
       have hw:Region.wanted U (gM ops t)=(gR (gt t d)==some w):=by
        simp only[Region.wanted,aV,Mz,lr]
       rw[hw]
       simp only[bd]at h
       by_cases af:gR (gt t d)=some w
       ·rw[if_pos af]at h
        rw[if_pos (by simpa using af)]
        exact LG sE h
       ·rw[if_neg af]at h
        rw[if_neg (by simpa using af)]
        exact sE _ _ h
    ·cases I
theorem K9(b:Bool)(aK:Operand->Value)(H:ab)(ae W:List Nat)(K:Value->ab->List Nat->List Nat->Prop)(op:Op)(h:gA P b aK H ae W K (hz op)):gA P b aK H ae W K op:=by
 have e:=Mp (P:=P) aK H op
 cases op with
 | call c=>
  obtain⟨callee,args,kI⟩:=c
  cases callee<;>exact h
 | binOp op ty x y oP=>
  simp only[hz,gA]at h⊢
  simp only[hz]at e
  rw[<-e];exact h
 | unOp op ty x=>
  simp only[hz,gA]at h⊢
  simp only[hz]at e
  rw[<-e];exact h
 | _=>exact h
theorem gA.mono{b:Bool}{aK:Operand->Value}{H:ab}{ae W:List Nat}{K dW:Value->ab->List Nat->List Nat->Prop}(ah:∀v H1 fs ft,K v H1 fs ft->dW v H1 fs ft){op:Op}(h:gA P b aK H ae W K op):gA P b aK H ae W dW op:=by
 cases op with
 | load ty x=>
  simp only[gA]at h⊢
  split at h
  ·refine⟨h.1,?_⟩
   have aa:=h.2
   split at aa
   ·exact ah _ _ _ _ aa
   ·exact aa
  ·exact h
 | store ty x y=>
  simp only[gA]at h⊢
  split at h
  ·refine⟨h.1,?_⟩
   have aa:=h.2
   split at aa
   ·exact ah _ _ _ _ aa
   ·exact aa
  ·exact h
 | _=>
  simp only[gA]at h⊢
  split at h
  ·exact ah _ _ _ _ h
  ·exact h.elim
theorem K8{b:Bool}{aK:Operand->Value}{H:ab}{ae W:List Nat}{K:Value->ab->List Nat->List Nat->Prop}{op:Op}(h:gA P (!true || !mP P op || b) aK H ae W K (hz op)):gA P b aK H ae W K (hz op):=by
 cases op with
 | store t x y=>exact h
 | call c=>obtain⟨callee,args,kI⟩:=c;cases callee<;>exact h
 | _=>exact h
theorem LA{n:Nat}{ops:Array Oper}:∀(rest:List Oper) (k:Nat) (xs:List br) (t:List Value) (H:ab) (ae W:List Nat) (Q:List Value->ab->Prop) (b6:Fr->ab->Prop),nh P n ops true rest k=some xs->t.length=n->
  (∀t1 H1,t1.length=n->b6 (gt t1) H1->Q t1 H1)->fi P xs (gt t) H ae W b6->nY P ops k rest t H ae W Q
 | [],k,xs,t,H,ae,W,Q,b6,ag,ar,aG,h=>by
  simp only[nh,Option.some.injEq]at ag
  subst ag
  exact aG t H ar h
 | U::rest,k,xs,t,H,ae,W,Q,b6,ag,ar,aG,h=>by
  simp only[nh]at ag
  cases I:vw P n ops true U k with
  | none=>simp[I]at ag
  | some x=>
   cases mN:nh P n ops true rest (k+1)with
   | none=>simp[I,mN]at ag
   | some bI=>
    simp only[I,mN,Option.some.injEq]at ag
    subst ag
    unfold vw at I
    split at I
    ·rename_i aJ
     have wv:∀e,U.dst=some e->e<t.length:=fun e he=>by
      rw[he]at aJ
      rw[ar]
      exact of_decide_eq_true aJ
     have sE:∀v H1 fs ft,fi P bI (fF (gt t) U.dst v) H1 fs ft b6->nY P ops (k+1) rest (eS t U.dst v) H1 fs ft Q:=fun v H1 fs ft o=>
      LA rest (k+1) bI _ H1 fs ft Q b6 mN (by rw[Mq];exact ar) aG (by rw[Iv t U.dst v wv];exact o)
     simp only[nY]
     cases aV:U.guard with
     | none=>
      rw[aV]at I
      obtain rfl:=Option.some.inj I
      have hw:Region.wanted U (gM ops t)=true:=by simp[Region.wanted,aV]
      rw[if_pos hw]
      simp only[fi]at h
      rw[xJ]
      exact gA.mono (fun v H1 fs ft=>sE v H1 fs ft) (K9 _ _ _ _ _ _ _ (K8 h))
     | some pE=>
      obtain⟨j,w⟩:=pE
      rw[aV]at I
      simp only at I
      cases lr:(ops[j]?).bind (·.dst)with
      | none=>rw[lr]at I;cases I
      | some d=>
       rw[lr]at I
       obtain rfl:=Option.some.inj I
       have hw:Region.wanted U (gM ops t)=(gR (gt t d)==some w):=by
        simp only[Region.wanted,aV,Mz,lr]
       rw[hw]
       simp only[fi]at h
       by_cases af:gR (gt t d)=some w
       ·rw[if_pos af]at h
        rw[if_pos (by simpa using af),xJ]
        exact gA.mono (fun v H1 fs ft=>sE v H1 fs ft) (K9 _ _ _ _ _ _ _ (K8 h))
       ·rw[if_neg af]at h
        rw[if_neg (by simpa using af)]
        exact sE _ _ _ _ h
    ·cases I
theorem rE{n:Nat}:∀(c:Code) (x:gn) (t:List Value) (H:ab) (Q:ds->List Value->ab->Prop) (b6:ds->Fr->ab->Prop),hp P n c=some x->t.length=n->
  (∀e t1 H1,t1.length=n->b6 e (gt t1) H1->Q e t1 H1)->ej P x (gt t) H b6->kC P c t H Q
 | .skip,x,t,H,Q,b6,ag,ar,aG,h=>by simp only[hp,Option.some.injEq]at ag;subst ag;exact aG _ _ _ ar h
 | .ret,x,t,H,Q,b6,ag,ar,aG,h=>by simp only[hp,Option.some.injEq]at ag;subst ag;exact aG _ _ _ ar h
 | .exit id,x,t,H,Q,b6,ag,ar,aG,h=>by simp only[hp,Option.some.injEq]at ag;subst ag;exact aG _ _ _ ar h
 | .seq a b,x,t,H,Q,b6,ag,ar,aG,h=>by
  simp only[hp]at ag
  cases aF:hp P n a with
  | none=>simp[aF]at ag
  | some ri=>
   cases af:hp P n b with
   | none=>simp[aF,af]at ag
   | some Fu=>
    simp only[aF,af,Option.some.injEq]at ag
    subst ag
    refine rE a ri t H _ _ aF ar (fun e t1 H1 ha au=>?_) h
    cases e with
    | normal=>exact rE b Fu t1 H1 Q b6 af ha aG au
    | exit id=>exact aG _ _ _ ha au
    | ret=>exact aG _ _ _ ha au
 | .cond c a b,x,t,H,Q,b6,ag,ar,aG,h=>by
  simp only[hp]at ag
  split at ag
  ·rename_i ah
   cases aF:hp P n a with
   | none=>simp[aF]at ag
   | some ri=>
    cases af:hp P n b with
    | none=>simp[aF,af]at ag
    | some Fu=>
     simp only[aF,af,Option.some.injEq]at ag
     subst ag
     refine⟨ah,?_⟩
     simp only[ej]at h
     rw[xJ]
     split at h
     ·rename_i en nu
      rw[nu]
      simp only
      cases en with
      | true=>simp only[if_true]at h⊢;exact rE a ri t H Q b6 aF ar aG h
      | false=>simp only[Bool.false_eq_true,if_false]at h⊢;exact rE b Fu t H Q b6 af ar aG h
     ·exact h.elim
  ·cases ag
 | .block id a,x,t,H,Q,b6,ag,ar,aG,h=>by
  simp only[hp]at ag
  obtain⟨ri,aF,rfl⟩:=Option.map_eq_some_iff.1 ag
  refine rE a ri t H _ _ aF ar (fun e t1 H1 ha au=>?_) h
  cases e with
  | normal=>exact aG _ _ _ ha au
  | exit hv=>
   simp only[oZ]at au
   simp only[Bu]
   split at au
   ·rename_i ad;rw[if_pos ad];exact aG _ _ _ ha au
   ·rename_i ad;rw[if_neg ad];exact aG _ _ _ ha au
  | ret=>exact aG _ _ _ ha au
 | .loop a,x,t,H,Q,b6,ag,ar,aG,h=>by
  simp only[hp]at ag
  obtain⟨ri,aF,rfl⟩:=Option.map_eq_some_iff.1 ag
  simp only[ej]at h
  show Ba P (.loop a) t H Q
  generalize a2:gt t=F at h
  induction h generalizing t with
  | round ak Rt dc aW=>
   rename_i F H
   subst a2
   obtain⟨e,t1,H1,aj,au⟩:=rF a t H (fun e t1 H1=>t1.length=n/\mV ak b6 e (gt t1) H1) (rE a ri t H _ _ aF ar (fun e t1 H1 ha au=>⟨ha,au⟩) Rt)
   obtain⟨ha,au⟩:=au
   cases e with
   | normal=>
    obtain⟨bh,t2,a0,sc,sa⟩:=aW (gt t1) H1 au t1 ha rfl
    exact⟨bh,t2,a0,.z9 aj sc,sa⟩
   | exit id=>exact⟨.exit id,t1,H1,.xj aj (by simp),aG _ _ _ ha au⟩
   | ret=>exact⟨.ret,t1,H1,.xj aj (by simp),aG _ _ _ ha au⟩
 | .region id ops draw,x,t,H,Q,b6,ag,ar,aG,h=>by
  simp only[hp]at ag
  split at ag
  ·split at ag
   ·rename_i ah
    obtain⟨xs,hd,rfl⟩:=Option.map_eq_some_iff.1 ag
    simp only[Bool.and_eq_true]at ah
    exact .inr ⟨ah.1,ah.2.1,ah.2.2,LA ops.toList 0 xs t H [] [] _ _ hd ar (fun t1 H1 ha au=>aG _ _ _ ha au) h⟩
   ·cases ag
  split at ag
  ·rename_i ah
   obtain⟨xs,hd,rfl⟩:=Option.map_eq_some_iff.1 ag
   simp only[Bool.and_eq_true,Bool.or_eq_true,Bool.not_eq_true']at ah
   refine .inl ⟨ah.1,fun aJ=>?_,?_⟩
   ·rcases ah.2 with q | q
    ·rw[aJ]at q;cases q
    ·exact q
   ·exact LD ops.toList 0 xs t H _ _ hd ar (fun t1 H1 ha au=>aG _ _ _ ha au) h
  ·cases ag
 | .rangeFunc ..,x,t,H,Q,b6,ag,_,_,_=>by simp[hp]at ag
 | .scope ..,x,t,H,Q,b6,ag,_,_,_=>by simp[hp]at ag
 | .label ..,x,t,H,Q,b6,ag,_,_,_=>by simp[hp]at ag
 | .goto ..,x,t,H,Q,b6,ag,_,_,_=>by simp[hp]at ag
 | .refuse ..,x,t,H,Q,b6,ag,_,_,_=>by simp[hp]at ag
theorem xF{t:List Value}{H:ab}:∀(rs:List ResultVar) (K:List Value->Prop),jK P (gt t) H rs K->oX P t H rs K
 | [],K,h=>h
 | .tmp i::rs,K,h=>xF rs _ h
 | .cell a ty::rs,K,h=>by
  simp only[jK]at h
  simp only[oX]
  split at h
  ·rename_i b i I
   rw[I]
   simp only
   split at h
   ·rename_i cs fX
    rw[fX]
    simp only
    split at h
    ·rename_i aF
     rw[aF]
     simp only
     split at h
     ·rename_i v ao
      rw[ao]
      exact xF rs _ h
     ·exact h.elim
    ·rename_i aF
     rw[aF]
     simp only
     split at h
     ·rename_i n aE
      rw[aE]
      exact⟨h.1,xF rs _ h.2⟩
     ·exact h.elim
    ·exact h.elim
   ·exact h.elim
  ·exact h.elim
theorem aZ.KQ{f:FuncId}{fn:Func}{x:e8}{args:List Value}{H:ab}{Q:Value->ab->Prop}(ax:P.funcs[f]?=some fn)(aE:(fn.name== "runtime.NumGoroutine")=false)(ag:comp P fn=some x)(ar:args.length<=fn.ntmps)
  (h:ej P x.code (iV args) H (pM P x.results Q)):∃v H1,x6 P f/\dK P (.call f args H) (.val v H1)/\Q v H1:=by
 unfold comp at ag
 cases af:fn.body with
 | none=>simp[af]at ag
 | some c=>
  simp only[af]at ag
  obtain⟨h7,hT,rfl⟩:=Option.map_eq_some_iff.1 ag
  have a2:gt (args++List.replicate (fn.ntmps-args.length) undef)=iV args:=by
   funext i
   simp only[gt,iV,List.getD_eq_getElem?_getD]
   by_cases ad:i<args.length
   ·rw[List.getElem?_append_left ad]
   ·rw[List.getElem?_append_right (by omega),List.getElem?_eq_none (l:=args) (by omega),List.getElem?_replicate]
    split<;>rfl
  refine aZ.Px ax aE af (rE c h7 _ H _ (pM P fn.results.toList Q) hT (by simp;omega) (fun e t1 H1 ha au=>?_) (by rw[a2];exact h))
  cases e with
  | normal=>exact xF _ _ au
  | exit id=>exact au
  | ret=>exact xF _ _ au
theorem aZ.T6{f:FuncId}{fn:Func}{x:e8}{args:List Value}{H:ab}{Q:Value->ab->Prop}(ax:P.funcs[f]?=some fn)(aE:(fn.name== "runtime.NumGoroutine")=false)(ag:comp P fn=some x)(ar:args.length<=fn.ntmps)
  (h:ej P x.code (iV args) H (pM P x.results Q)):aZ P f args H Q:=by
 obtain⟨v,H1,o,aa,aD⟩:=aZ.KQ ax aE ag ar h
 exact⟨v,H1,.inl ⟨o,aa⟩,aD⟩
theorem p0.inv{body:Fr->ab->(ds->Fr->ab->Prop)->Prop}{Q:ds->Fr->ab->Prop}(ak:Nat->Fr->ab->Prop)(round:∀n F H,ak n F H->body F H (mV (fun aA H1=>∃m,m<n/\ak m aA H1) Q)):∀(n:Nat) (F:Fr) (H:ab),ak n F H->p0 body Q F H:=by
 intro n
 induction n using Nat.strongRecOn with
 | _ n aW=>
  intro F H h
  exact .round _ (round n F H h) fun aA H1 ⟨m,hm,dc⟩=>aW m hm aA H1 dc
end
def T(i:Nat):Operand:= .tmp i
def ak(n:Int):Operand:= .const (.int .i64 n)
def C(v:Value):Operand:= .const v
def FC(f:Nat):Operand:= .func f
theorem kL(F:Fr)(i:Nat):aq F (T i)=F i:=rfl
theorem Ig(F:Fr)(n:Int):aq F (ak n)= .int .i64 n:=rfl
theorem PC(F:Fr)(v:Value):aq F (C v)=v:=rfl
theorem PD(F:Fr)(f:Nat):aq F (FC f)= .func (.func f) #[] #[]:=rfl
def aN(j:Nat)(w:Bool)(x:br):br:={x with g:=some (j,w)}
def bg(x:br):br:={x with b:=false}
def J(d:Nat)(x:Operand):br:=⟨true,none,some d,.move x⟩
def al(d:Nat)(x:Operand):br:=⟨true,none,some d,.assign x⟩
def cL(d:Nat)(c a b:Operand):br:=⟨true,none,some d,.pick c a b⟩
def bY(d e:Nat):br:=⟨true,none,some d,.alloc e⟩
def cZ(d e:Nat)(x:Operand):br:=⟨true,none,some d,.box e x⟩
def aO(d t:Nat)(x:Operand):br:=⟨true,none,some d,.load t x⟩
def st(t:Nat)(x y:Operand):br:=⟨true,none,none,.store t x y⟩
def iv(d:Nat)(x:Operand):br:=⟨true,none,some d,.nilCheck x⟩
def bi(d:Nat)(op:BinOp)(t:Nat)(x y:Operand):br:=⟨true,none,some d,.binOp op t x y 0⟩
def un(d:Nat)(op:UnOp)(x:Operand):br:=⟨true,none,some d,.unOp op 0 x⟩
def cj(d s t:Nat)(x:Operand):br:=⟨true,none,some d,.convert s t x⟩
def l3(d t:Nat)(x:Operand):br:=⟨true,none,some d,.makeInterface t x⟩
def ux(d:Nat)(fn:Fn)(a b:Array Operand):br:=⟨true,none,some d,.makeFunc fn a b⟩
def bk(d s:Nat)(x:Operand)(f:Nat):br:=⟨true,none,some d,.fieldAddr s x f⟩
def qb(d s:Nat)(x:Operand)(f:Nat):br:=⟨true,none,some d,.field s x f⟩
def bb(d t:Nat)(x i:Operand):br:=⟨true,none,some d,.indexAddr t x i⟩
def ey(d t:Nat)(x i:Operand):br:=⟨true,none,some d,.index t x i⟩
def ex(d:Nat)(x:Operand)(i:Nat):br:=⟨true,none,some d,.extract x i⟩
def eW(d t:Nat)(aU:List (Nat×Operand)):br:=⟨true,none,some d,.build t aU.toArray⟩
def fj(d t n:Nat)(aU:List (Nat×Operand)):br:=⟨true,none,some d,.buildSlice t n aU.toArray⟩
def gl(d t:Nat)(x:Operand)(bX ad e4:Option Operand):br:=⟨true,none,some d,.slice t x bX ad e4⟩
def ms(d t:Nat)(x y:Operand):br:=⟨true,none,some d,.makeSlice t x y⟩
def bA(d t:Nat)(x:Operand):br:=⟨true,none,some d,.call {callee:= .builtin .len,args:= #[x],argTypes:= #[t]}⟩
def ap(d bO cM:Nat)(s x:Operand):br:=⟨true,none,some d,.call {callee:= .builtin .append,args:= #[s,x],argTypes:= #[bO,cM]}⟩
def cp(d hJ bO:Nat)(s x:Operand):br:=⟨true,none,some d,.call {callee:= .builtin .copy,args:= #[s,x],argTypes:= #[hJ,bO]}⟩
def xr(d:Nat)(bO:List Nat)(x y:Operand):br:=⟨true,none,some d,.call {callee:= .builtin .max,args:= #[x,y],argTypes:=bO.toArray}⟩
def uy(d:Nat)(bO:List Nat)(x y:Operand):br:=⟨true,none,some d,.call {callee:= .builtin .min,args:= #[x,y],argTypes:=bO.toArray}⟩
def a3(d f:Nat)(args:List Operand):br:=⟨true,none,some d,.call {callee:= .value (.func f),args:=args.toArray,argTypes:= #[]}⟩
def yv(f:Nat)(args:List Operand):br:=⟨true,none,none,.call {callee:= .value (.func f),args:=args.toArray,argTypes:= #[]}⟩
def nj(d:Nat)(x:Operand)(args:List Operand):br:=⟨true,none,some d,.call {callee:= .value x,args:=args.toArray,argTypes:= #[]}⟩
def lC(cs:List Value)(i:Nat):List Value->List Value
 | [v]=>cs.set i v
 | aB=>c3 cs i aB
theorem Fq{cs aB:List Value}{i:Nat}(h:i+aB.length<=cs.length):lC cs i aB=c3 cs i aB:=by
 unfold lC
 split
 ·exact(XS _ (by have:=h;simp at this;omega)).symm
 ·rfl
def fin(x:Option (Value×ab))(K:Value->ab->Prop):Prop:=match x with
 | some p=>K p.1 p.2
 | none=>False
theorem rI(c:Prop)[Decidable c](v:Value)(H:ab)(K:Value->ab->Prop):fin (if c then some (v,H)else none) K=(c/\K v H):=by
 by_cases h:c
 ·rw[if_pos h];simp[fin,h]
 ·rw[if_neg h];simp[fin,h]
theorem tl(x:Option Value)(H:ab)(K:Value->ab->Prop):fin (x.map fun v=>(v,H)) K=match x with | some v=>K v H | none=>False:=by cases x<;>rfl
def isVal:Op->Bool
 | .call {callee:= .value _,.. }=>true
 | _=>false
section
variable {P:Program} {r:List br} {F:Fr} {H:ab} {Q:Fr->ab->Prop}
theorem aa7{b:Bool}{K:Value->ab->Prop}(op:Op)(h:(isVal op || iO op || hx op)=false):fV P b F H K op=fin (bT P (aq F) H op) K:=by
 have main:(match bT P (aq F) H op with
   | some (v,H1)=>(hx op=true->b=true)/\K v H1
   | none=>iO op=true/\∃v H1,na P (aq F) H op v H1/\(b=true\/Ext H H1)/\K v H1)=fin (bT P (aq F) H op) K:=by
  simp only[Bool.or_eq_false_iff]at h
  cases bT P (aq F) H op with
  | none=>simp[fin,h]
  | some p=>simp[fin,h]
 cases op<;>try exact main
 rename_i c
 obtain⟨callee,args,kI⟩:=c
 cases callee<;>try exact main
 simp[isVal]at h
theorem iS{b:Bool}{d:Option Nat}(op:Op)(h:(isVal op || iO op || hx op)=false):bd P (⟨b,none,d,op⟩::r) F H Q=fin (bT P (aq F) H op) (fun v H1=>bd P r (fF F d v) H1 Q):=by
 simp only[bd]
 exact aa7 op h
theorem abq(d:Nat)(x:Operand):bd P (J d x::r) F H Q=bd P r (aY F d (aq F x)) H Q:=by
 rw[J,iS _ rfl];rfl
theorem abx(d:Nat)(x:Operand):bd P (al d x::r) F H Q=bd P r (aY F d (aq F x)) H Q:=by
 rw[al,iS _ rfl];rfl
theorem abw(d:Nat)(c a b:Operand):bd P (cL d c a b::r) F H Q=match aq F c with
  | .bool t=>bd P r (aY F d (if t=true then aq F a else aq F b)) H Q
  | _=>False:=by
 rw[cL,iS _ rfl];simp only[bT];cases aq F c<;>rfl
theorem Nt(d e:Nat):bd P (bY d e::r) F H Q=match dw P e with
  | some z=>(flat z=true/\(bm P e).isSome=true)/\bd P r (aY F d (.pointer (some ⟨H.length,0,none⟩))) (H++[.own e false z.cells.toList]) Q
  | none=>False:=by
 rw[bY,iS _ rfl];simp only[bT]
 cases dw P e with
 | none=>rfl
 | some z=>simp only[rI];rfl
theorem aba(d e:Nat)(x:Operand):bd P (cZ d e x::r) F H Q=((bm P e).isSome=true/\bd P r (aY F d (.pointer (some ⟨H.length,0,none⟩))) (H++[.own e false (aq F x).cells.toList]) Q):=by
 rw[cZ,iS _ rfl];simp only[bT,rI];rfl
theorem abl(d t:Nat)(x:Operand):bd P (aO d t x::r) F H Q=match aq F x with
  | .pointer (some ⟨b,i,none⟩)=>(match(H[b]?).bind bB.cells? with
   | some cs=>(match da P t with
    | some false=>(match cs[i]? with
     | some v=>bd P r (aY F d v) H Q
     | none=>False)
    | some true=>(match bm P t with
     | some n=>i+n<=cs.length/\bd P r (aY F d (.agg ((cs.drop i).take n).toArray)) H Q
     | none=>False)
    | none=>False)
   | none=>False)
  | _=>False:=by
 rw[aO,iS _ rfl];simp only[bT,h_]
 cases aq F x<;>try rfl
 rename_i a
 cases a with
 | none=>rfl
 | some a=>
  obtain⟨b,i,c⟩:=a
  cases c<;>try rfl
  simp only
  cases(H[b]?).bind bB.cells? with
  | none=>rfl
  | some cs=>
   simp only
   cases da P t with
   | none=>rfl
   | some g=>
    cases g with
    | false=>simp only[tl];rfl
    | true=>
     simp only
     cases bm P t with
     | none=>rfl
     | some n=>simp only[rI];rfl
theorem aby(b:Bool)(t:Nat)(x y:Operand):bd P (⟨b,none,none,.store t x y⟩::r) F H Q=match aq F x with
  | .pointer (some ⟨rB,i,none⟩)=>(match H[rB]? with
   | some (.own e l cs)=>(bm P t=some (aq F y).cells.size/\i+(aq F y).cells.size<=cs.length/\((aq F y).cells.toList.all (·.oneCell'))=true)/\b=true/\bd P r F (H.set rB (.own e l (lC cs i (aq F y).cells.toList))) Q
   | _=>False)
  | _=>False:=by
 simp only[bd,fV,bT]
 have no:∀K:Value->ab->Prop,(match(none:Option (Value×ab))with
   | some (v,H1)=>(hx (.store t x y)=true->b=true)/\K v H1
   | none=>iO (.store t x y)=true/\∃v H1,na P (aq F) H (.store t x y) v H1/\(b=true\/Ext H H1)/\K v H1)=False:=fun K=>by simp[iO]
 cases aq F x<;>try exact no _
 rename_i a
 cases a with
 | none=>exact no _
 | some a=>
  obtain⟨rB,i,c⟩:=a
  cases c<;>try exact no _
  simp only
  cases H[rB]? with
  | none=>exact no _
  | some X=>
   cases X<;>try exact no _
   rename_i e l cs
   simp only
   by_cases ag:bm P t=some (aq F y).cells.size/\i+(aq F y).cells.size<=cs.length/\((aq F y).cells.toList.all (·.oneCell'))=true
   ·rw[if_pos ag,Fq (by simpa using ag.2.1)]
    simp only[hx,true_implies,fF]
    exact propext ⟨fun h=>⟨ag,h.1,h.2⟩,fun h=>h.2⟩
   ·rw[if_neg ag]
    exact propext ⟨fun h=>by simp[iO]at h,fun h=>(ag h.1).elim⟩
theorem abz(t:Nat)(x y:Operand):bd P (st t x y::r) F H Q=match aq F x with
  | .pointer (some ⟨rB,i,none⟩)=>(match H[rB]? with
   | some (.own e l cs)=>(bm P t=some (aq F y).cells.size/\i+(aq F y).cells.size<=cs.length/\((aq F y).cells.toList.all (·.oneCell'))=true)/\bd P r F (H.set rB (.own e l (lC cs i (aq F y).cells.toList))) Q
   | _=>False)
  | _=>False:=by
 rw[st,aby]
 simp only[true_and]
theorem abu(d:Nat)(x:Operand):bd P (iv d x::r) F H Q=match aq F x with
  | .pointer (some a)=>bd P r (aY F d (.pointer (some a))) H Q
  | _=>False:=by
 rw[iv,iS _ rfl];simp only[bT]
 cases aq F x<;>try rfl
 rename_i a;cases a<;>rfl
theorem aa9(d:Nat)(op:BinOp)(t:Nat)(x y:Operand):bd P (bi d op t x y::r) F H Q=match dO P op t (aq F x) (aq F y)with
  | some v=>bd P r (aY F d v) H Q
  | none=>False:=by
 rw[bi,iS _ rfl];simp only[bT,tl];rfl
theorem abA(d:Nat)(op:UnOp)(x:Operand):bd P (un d op x::r) F H Q=match oJ op (aq F x)with
  | some v=>bd P r (aY F d v) H Q
  | none=>False:=by
 rw[un,iS _ rfl];simp only[bT,tl];rfl
theorem abg(d s:Nat)(x:Operand)(f:Nat):bd P (bk d s x f::r) F H Q=match aq F x with
  | .pointer (some ⟨b,i,none⟩)=>(match gd P s f with
   | some off=>bd P r (aY F d (.pointer (some ⟨b,i+off,none⟩))) H Q
   | none=>False)
  | _=>False:=by
 rw[bk,iS _ rfl];simp only[bT]
 cases aq F x<;>try rfl
 rename_i a
 cases a with
 | none=>rfl
 | some a=>
  obtain⟨b,i,c⟩:=a
  cases c<;>try rfl
  simp only
  cases gd P s f<;>rfl
theorem abi(d s:Nat)(x:Operand)(f:Nat):bd P (qb d s x f::r) F H Q=match aq F x with
  | .agg cs=>(match qc P s f with
   | some c=>(match o0 cs c with
    | some v=>bd P r (aY F d v) H Q
    | none=>False)
   | none=>False)
  | _=>False:=by
 rw[qb,iS _ rfl];simp only[bT]
 cases aq F x<;>try rfl
 simp only
 cases qc P s f with
 | none=>rfl
 | some c=>simp only[tl];rfl
theorem abj(d t:Nat)(x i:Operand):bd P (bb d t x i::r) F H Q=match aq F x,aq F i with
  | .slice (some ⟨b,U,none⟩) len _,.int _ n=>(match eR P t with
   | some e=>(match bm P e with
    | some R=>(0<=n/\n<len)/\bd P r (aY F d (.pointer (some ⟨b,U+n.toNat*R,none⟩))) H Q
    | none=>False)
   | none=>False)
  | _,_=>False:=by
 rw[bb,iS _ rfl];simp only[bT]
 cases aq F x<;>try rfl
 rename_i a len cap
 cases a with
 | none=>rfl
 | some a=>
  obtain⟨b,U,c⟩:=a
  cases c<;>try rfl
  cases aq F i<;>try rfl
  simp only
  cases eR P t with
  | none=>rfl
  | some e=>
   simp only
   cases bm P e with
   | none=>rfl
   | some n=>simp only[rI];rfl
theorem abk(d t:Nat)(x i:Operand):bd P (ey d t x i::r) F H Q=match aq F x,aq F i with
  | .string s,.int _ n=>(iy P t=true/\0<=n/\n<s.size)/\bd P r (aY F d (.int .u8 ((s.data.getD n.toNat 0).toNat:Int))) H Q
  | _,_=>False:=by
 rw[ey,iS _ rfl];simp only[bT]
 cases aq F x<;>try rfl
 cases aq F i<;>try rfl
 simp only[rI];rfl
theorem abf(d:Nat)(x:Operand)(i:Nat):bd P (ex d x i::r) F H Q=match aq F x with
  | .tuple aB=>(match aB[i]? with
   | some v=>bd P r (aY F d v) H Q
   | none=>False)
  | _=>False:=by
 rw[ex,iS _ rfl];simp only[bT]
 cases aq F x<;>try rfl
 simp only[tl];rfl
theorem abo(d t:Nat)(x:Operand):bd P (l3 d t x::r) F H Q=(P.concrete t=true/\bd P r (aY F d (.iface t (aq F x))) H Q):=by
 rw[l3,iS _ rfl];simp only[bT,rI];rfl
theorem abn(d:Nat)(fn:Fn)(a b:Array Operand):bd P (ux d fn a b::r) F H Q=bd P r (aY F d (.func fn (a.map (aq F)) (b.map (aq F)))) H Q:=by
 rw[ux,iS _ rfl];rfl
def AA(P:Program)(F:Fr)(t:Nat)(aU:List (Nat×Operand)):Option Value:=match dw P t with
 | some z=>if flat z=true then dk P (Instr.build t (aU.toArray.map fun p=>(p.1,aq F p.2)))else none
 | none=>none
theorem aa8(d t:Nat)(aU:List (Nat×Operand)):bd P (eW d t aU::r) F H Q=match AA P F t aU with
  | some v=>bd P r (aY F d v) H Q
  | none=>False:=by
 rw[eW,iS _ rfl];simp only[bT,AA]
 cases dw P t with
 | none=>rfl
 | some z=>
  simp only
  split
  ·simp only[tl];rfl
  ·rfl
theorem abm(d t:Nat)(x:Operand):bd P (bA d t x::r) F H Q=match aq F x with
  | .slice _ n _=>(match eR P t with
   | some _=>bd P r (aY F d (.int .i64 n)) H Q
   | none=>False)
  | .string s=>iy P t=true/\bd P r (aY F d (.int .i64 s.size)) H Q
  | _=>False:=by
 rw[bA,iS _ rfl];simp only[bT,q5]
 cases aq F x<;>try rfl
 ·simp only[rI];rfl
 ·simp only;cases eR P t<;>rfl
theorem abt(d:Nat)(bO:List Nat)(x y:Operand):bd P (xr d bO x y::r) F H Q=match aq F x,aq F y with
  | .int k a,.int _ b=>bd P r (aY F d (.int k (if b>a then b else a))) H Q
  | _,_=>False:=by
 rw[xr,iS _ rfl];simp only[bT,q5]
 cases aq F x<;>try rfl
 cases aq F y<;>rfl
theorem abp(d:Nat)(bO:List Nat)(x y:Operand):bd P (uy d bO x y::r) F H Q=match aq F x,aq F y with
  | .int k a,.int _ b=>bd P r (aY F d (.int k (if b<a then b else a))) H Q
  | _,_=>False:=by
 rw[uy,iS _ rfl];simp only[bT,q5]
 cases aq F x<;>try rfl
 cases aq F y<;>rfl
theorem Fv(b:Bool)(d:Option Nat)(f:Nat)(args:Array Operand):bd P (⟨b,none,d,.call {callee:= .value (.func f),args:=args,argTypes:= #[]}⟩::r) F H Q=aZ P f (args.toList.map (aq F)) H (fun v H1=>(b=true\/Ext H H1)/\bd P r (fF F d v) H1 Q):=by
 simp only[bd,fV,aq]
 simp
theorem abb(d f:Nat)(args:List Operand):bd P (a3 d f args::r) F H Q=aZ P f (args.map (aq F)) H (fun v H1=>bd P r (aY F d v) H1 Q):=by
 rw[a3,Fv];simp[fF]
theorem abc(f:Nat)(args:List Operand):bd P (yv f args::r) F H Q=aZ P f (args.map (aq F)) H (fun v H1=>bd P r F H1 Q):=by
 rw[yv,Fv];simp[fF]
theorem abv(d f:Nat)(args:List Operand):bd P (bg (a3 d f args)::r) F H Q=aZ P f (args.map (aq F)) H (fun v H1=>Ext H H1/\bd P r (aY F d v) H1 Q):=by
 simp only[bg,a3];rw[Fv];simp[fF]
theorem abd(d:Nat)(x:Operand)(args:List Operand):bd P (nj d x args::r) F H Q=match aq F x with
  | .func (.func g) first cap=>aZ P g (first.toList++args.map (aq F)++cap.toList) H (fun v H1=>bd P r (aY F d v) H1 Q)
  | _=>False:=by
 simp only[bd,nj,fV]
 cases aq F x<;>try rfl
 rename_i fn a b
 cases fn<;>simp[fF]
theorem abe(d s t:Nat)(x:Operand){iN:IntKind}{n:Int}(h:aq F x= .int iN n){gJ k:IntKind}(an:jB P s=some gJ)(bu:jB P t=some k):bd P (cj d s t x::r) F H Q=bd P r (aY F d (.int k (k.wrap n))) H Q:=by
 simp[bd,cj,fV,bT,hx,fF,h,an,bu]
theorem abr{b:Bool}{d:Option Nat}{op:Op}(ao:isVal op=false)(hm:iO op=true)(aE:bT P (aq F) H op=none){v:Value}{H1:ab}(au:na P (aq F) H op v H1)(af:b=true\/Ext H H1)(h:bd P r (fF F d v) H1 Q):bd P (⟨b,none,d,op⟩::r) F H Q:=by
 simp only[bd]
 have main:(match bT P (aq F) H op with
   | some (v,H1)=>(hx op=true->b=true)/\bd P r (fF F d v) H1 Q
   | none=>iO op=true/\∃v H1,na P (aq F) H op v H1/\(b=true\/Ext H H1)/\bd P r (fF F d v) H1 Q):=by
  rw[aE]
  exact⟨hm,v,H1,au,af,h⟩
 cases op<;>try exact main
 rename_i c
 obtain⟨callee,args,kI⟩:=c
 cases callee<;>try exact main
 simp[isVal]at ao
end
def nQ:List Value->Nat->List Value->List Value
 | cs,_,[]=>cs
 | cs,i,v::aB=>nQ (cs.set i v) (i+1) aB
theorem Im(off:Nat):∀(aB:List Value) (k:Nat) (cs:Array Value),((aB.zipIdx k).foldl (fun cs (p7:Value×Nat)=>cs.setIfInBounds (off+p7.2) p7.1) cs).toList=nQ cs.toList (off+k) aB
 | [],k,cs=>rfl
 | v::aB,k,cs=>by
  simp only[List.zipIdx_cons,List.foldl_cons,nQ]
  rw[Im off aB (k+1) _]
  simp[Nat.add_assoc]
def iF(place:Nat->Option (Nat×Nat))(cs:List Value):List (Nat×Value)->Option (List Value)
 | []=>some cs
 | (i,v)::rest=>match place i with
  | none=>none
  | some (off,size)=>if v.cells.toList.length=size/\off+size<=cs.length then iF place (nQ cs off v.cells.toList) rest else none
def kM(pl:List (Nat×Nat))(cs:List Value)(parts:List (Nat×Value)):Option (List Value):=iF (fun i=>pl[i]?) cs parts
theorem fill_eq(place:Nat->Option (Nat×Nat)):∀(parts:List (Nat×Value)) (cs:Array Value),Instr.fill place cs parts=(iF place cs.toList parts).map (·.toArray)
 | [],cs=>by simp[Instr.fill,iF]
 | (i,v)::rest,cs=>by
  simp only[iF,Instr.fill]
  cases place i with
  | none=>rfl
  | some os=>
   obtain⟨off,size⟩:=os
   simp only
   have e:(v.cells.zipIdx.foldl (fun cs (x:Value×Nat)=>cs.setIfInBounds (off+x.2) x.1) cs).toList=nQ cs.toList off v.cells.toList:=by
    have:=Im off v.cells.toList 0 cs
    rw[<-Array.foldl_toList,Array.toList_zipIdx]
    simpa using this
   by_cases ag:v.cells.toList.length=size/\off+size<=cs.toList.length
   ·rw[if_pos ag]
    have o:v.cells.size=size:=by simpa using ag.1
    have aa:off+size<=cs.size:=by simpa using ag.2
    rw[if_neg (by simp[o];omega),fill_eq place rest,<-e]
   ·rw[if_neg ag]
    have:(decide (v.cells.size≠size) || decide (off+v.cells.size>cs.size))=true:=by
     by_cases o:v.cells.size=size
     ·have aa:¬(off+size<=cs.size):=fun h=>ag ⟨by simpa using o,by simpa using h⟩
      simp[o];omega
     ·simp[o]
    rw[if_pos this]
    rfl
def l5(P:Program)(t:TypeId):Option (List (Nat×Nat)):=match P.underlying t with
 | some (.struct jq)=>jq.toList.mapM fun f=>(bm P f.type).map fun n=>(f.offset,n)
 | _=>none
theorem LS{P:Program}{α β:Type}(f:α->Sem β)(g:α->Option β)(h:∀a,dk P (f a)=g a):∀l:List α,dk P (l.mapM f)=l.mapM g
 | []=>by simp[eQ]
 | a::l=>by
  simp only[List.mapM_cons,fp,eQ,h,LS f g h l]
  rfl
theorem Xt{P:Program}{F:Fr}{t:Nat}{aU:List (Nat×Operand)}{z:Value}{pl:List (Nat×Nat)}(aP:dw P t=some z)(dt:flat z=true)(aR:l5 P t=some pl):
  AA P F t aU=(kM pl z.cells.toList (aU.map fun p=>(p.1,aq F p.2))).map fun out=> .agg out.toArray:=by
 unfold l5 at aR
 split at aR
 ·rename_i jq hu
  simp only[AA,aP,dt,if_true,Instr.build,fp,Es,Option.bind_some,nO,hu]
  have hm:dk P (jq.mapM fun f=>do pure (f.offset,<-sizeOf f.type))=some pl.toArray:=by
   rw[Array.mapM_eq_mapM_toList,oF,LS _ (fun f=>(bm P f.type).map fun n=>(f.offset,n)) (fun f=>by
    simp only[fp,eQ,xy]
    cases bm P f.type<;>rfl),aR]
   rfl
  rw[hm]
  simp only[Option.bind_some]
  have:=fill_eq (fun x=>pl.toArray[x]?) (aU.map fun p=>(p.1,aq F p.2)) z.cells
  rw[show(fun x=>pl.toArray[x]?)=fun x=>pl[x]? from funext fun x=>by simp]at this
  have ar:(aU.toArray.map fun p=>(p.1,aq F p.2)).toList=aU.map fun p=>(p.1,aq F p.2):=by simp
  rw[ar,show(fun x=>pl.toArray[x]?)=fun x=>pl[x]? from funext fun x=>by simp,this]
  unfold kM
  cases iF (fun i=>pl[i]?) z.cells.toList (aU.map fun p=>(p.1,aq F p.2))<;>rfl
 ·cases aR
@[simp] theorem adC(pl:List (Nat×Nat))(cs:List Value):kM pl cs []=some cs:=rfl
@[simp] theorem adB(pl:List (Nat×Nat))(cs:List Value)(i:Nat)(v:Value)(rest:List (Nat×Value)):kM pl cs ((i,v)::rest)=match pl[i]? with
  | none=>none
  | some (off,size)=>if v.cells.toList.length=size/\off+size<=cs.length then kM pl (nQ cs off v.cells.toList) rest else none:=rfl
attribute [simp] nQ
def eK{α:Type}(U:Option α)(K:α->Prop):Prop:=match U with
 | some v=>K v
 | none=>False
def ga(c:Prop)(K:Prop):Prop:=c/\K
def hC(b:Bool)(ck cU:Prop):Prop:=match b with
 | true=>ck
 | false=>cU
def FN(v:Value)(K:Addr->Prop):Prop:=match v with
 | .pointer (some a)=>K a
 | _=>False
def yc(v:Value)(K:Bool->Prop):Prop:=match v with
 | .bool b=>K b
 | _=>False
def oV(v:Value)(K:IntKind->Int->Prop):Prop:=match v with
 | .int k n=>K k n
 | _=>False
def rr(v:Value)(K:Nat->Nat->Prop):Prop:=match v with
 | .pointer (some ⟨b,i,none⟩)=>K b i
 | _=>False
def yf(v:Value)(K:Option Addr->Nat->Nat->Prop):Prop:=match v with
 | .slice a n c=>K a n c
 | _=>False
def yb(a:Option Addr)(K:Nat->Nat->Prop):Prop:=match a with
 | some ⟨b,i,none⟩=>K b i
 | _=>False
def FT(v:Value)(K:ByteArray->Prop):Prop:=match v with
 | .string s=>K s
 | _=>False
def nb(v:Value)(K:Array Value->Prop):Prop:=match v with
 | .agg cs=>K cs
 | _=>False
def Bj(v:Value)(K:Array Value->Prop):Prop:=match v with
 | .tuple cs=>K cs
 | _=>False
def FL(v:Value)(K:Nat->Array Value->Array Value->Prop):Prop:=match v with
 | .func (.func g) a b=>K g a b
 | _=>False
def FP(x:Option bB)(K:TypeId->Bool->List Value->Prop):Prop:=match x with
 | some (.own e l cs)=>K e l cs
 | _=>False
section
theorem NA(K:Prop):ga True K=K:=by simp[ga]
theorem hC.mk{b:Bool}{ck cU:Prop}(o:b=true->ck)(aa:b=false->cU):hC b ck cU:=by
 cases b
 ·exact aa rfl
 ·exact o rfl
theorem hC.cE{p:Prop}[Decidable p]{ck cU:Prop}(o:p->ck)(aa:¬p->cU):hC (decide p) ck cU:=by
 by_cases h:p
 ·rw[decide_eq_true h];exact o h
 ·rw[decide_eq_false h];exact aa h
@[simp] theorem agt(F:Fr)(d:Nat)(v:Value)(i:Nat):aY F d v i=if i=d then v else F i:=rfl
attribute [simp] kL Ig PC PD
@[simp] theorem acO(b:Bool):gR (.bool b)=some b:=rfl
@[simp] theorem ack(a:Value)(l:List Value):iV (a::l) 0=a:=rfl
@[simp] theorem acm(a b:Value)(l:List Value):iV (a::b::l) 1=b:=rfl
@[simp] theorem acn(a b c:Value)(l:List Value):iV (a::b::c::l) 2=c:=rfl
@[simp] theorem aco(a b c d:Value)(l:List Value):iV (a::b::c::d::l) 3=d:=rfl
@[simp] theorem acp(a b c d e:Value)(l:List Value):iV (a::b::c::d::e::l) 4=e:=rfl
@[simp] theorem acq(a b c d e f:Value)(l:List Value):iV (a::b::c::d::e::f::l) 5=f:=rfl
@[simp] theorem acr(a b c d e f g:Value)(l:List Value):iV (a::b::c::d::e::f::g::l) 6=g:=rfl
theorem cP{n:Int}(o: -9223372036854775808<=n)(aa:n<9223372036854775808):IntKind.wrap .i64 n=n:=by
 simp only[IntKind.wrap,IntKind.bits,IntKind.signed]
 simp
 split<;>omega
theorem fR{n:Int}(o:0<=n)(aa:n<18446744073709551616):IntKind.wrap .u64 n=n:=by
 simp only[IntKind.wrap,IntKind.bits,IntKind.signed]
 simp
 omega
theorem lD{n:Int}(o:0<=n)(aa:n<4294967296):IntKind.wrap .u32 n=n:=by
 simp only[IntKind.wrap,IntKind.bits,IntKind.signed]
 simp
 omega
theorem Fs{n:Int}(o:0<=n)(aa:n<256):IntKind.wrap .u8 n=n:=by
 simp only[IntKind.wrap,IntKind.bits,IntKind.signed]
 simp
 omega
theorem nS(n:Int):IntKind.wrap .u32 n=n % 4294967296:=by
 simp only[IntKind.wrap,IntKind.bits,IntKind.signed]
 simp
theorem Nn(n:Int):IntKind.wrap .u64 n=n % 18446744073709551616:=by
 simp only[IntKind.wrap,IntKind.bits,IntKind.signed]
 simp
@[simp] theorem acJ:IntKind.bits .u64=64:=rfl
@[simp] theorem acI:IntKind.bits .u32=32:=rfl
@[simp] theorem acH:IntKind.bits .i64=64:=rfl
@[simp] theorem acK:IntKind.bits .u8=8:=rfl
@[simp] theorem afi:IntKind.signed .u64=false:=rfl
@[simp] theorem afh:IntKind.signed .u32=false:=rfl
@[simp] theorem afj:IntKind.signed .u8=false:=rfl
@[simp] theorem afg:IntKind.signed .i64=true:=rfl
theorem mq(a:Int){b:Int}(h:0<=b):a.fdiv b=a/b:=Int.fdiv_eq_ediv_of_nonneg a h
section
variable {P:Program} {t:Nat} {k bN:IntKind} {a b:Int}
@[simp] theorem Xo:dO P .add t (.int k a) (.int k b)=some (.int k (k.wrap (a+b))):=by simp[dO,jM]
@[simp] theorem afd:dO P .sub t (.int k a) (.int k b)=some (.int k (k.wrap (a-b))):=by simp[dO,jM]
@[simp] theorem ae1:dO P .mul t (.int k a) (.int k b)=some (.int k (k.wrap (a*b))):=by simp[dO,jM]
@[simp] theorem aeX:dO P .eql t (.int k a) (.int k b)=some (.bool (decide (a=b))):=by simp[dO,jM];rfl
@[simp] theorem ae2:dO P .neq t (.int k a) (.int k b)=some (.bool (decide (a≠b))):=by
 simp[dO,jM]
 by_cases h:a=b<;>simp[h]
@[simp] theorem Xq:dO P .lss t (.int k a) (.int k b)=some (.bool (decide (a<b))):=by simp[dO,jM]
@[simp] theorem ae0:dO P .leq t (.int k a) (.int k b)=some (.bool (decide (a<=b))):=by simp[dO,jM]
@[simp] theorem aeZ:dO P .gtr t (.int k a) (.int k b)=some (.bool (decide (b<a))):=by simp[dO,jM]
@[simp] theorem aeY:dO P .geq t (.int k a) (.int k b)=some (.bool (decide (b<=a))):=by simp[dO,jM]
@[simp] theorem ae6:dO P .quo t (.int k a) (.int k b)=if b=0 then none else some (.int k (k.wrap (a.tdiv b))):=by simp[dO,jM]
@[simp] theorem ae7:dO P .rem t (.int k a) (.int k b)=if b=0 then none else some (.int k (a.tmod b)):=by simp[dO,jM]
@[simp] theorem Mj:dO P .or t (.int k a) (.int k b)=some (.int k (k.wrap (BitVec.ofInt k.bits a ||| BitVec.ofInt k.bits b).toNat)):=by simp[dO,jM]
@[simp] theorem Xp:dO P .and t (.int k a) (.int k b)=some (.int k (k.wrap (BitVec.ofInt k.bits a&&&BitVec.ofInt k.bits b).toNat)):=by simp[dO,jM]
@[simp] theorem afe:dO P .xor t (.int k a) (.int k b)=some (.int k (k.wrap (BitVec.ofInt k.bits a^^^BitVec.ofInt k.bits b).toNat)):=by simp[dO,jM]
@[simp] theorem Xs:dO P .shl t (.int k a) (.int bN b)=if b<0 then none else some (.int k (k.wrap (a*2^(min b.toNat k.bits)))):=by simp[dO,vr]
@[simp] theorem afb:dO P .shr t (.int k a) (.int bN b)=if b<0 then none else some (.int k (a.fdiv (2^(min b.toNat k.bits)))):=by simp[dO,vr]
@[simp] theorem ae9{x y:ByteArray}:dO P .eql t (.string x) (.string y)=some (.bool (x.toList==y.toList)):=by simp[dO,ta]
@[simp] theorem afc{x y:ByteArray}:dO P .neq t (.string x) (.string y)=some (.bool !(x.toList==y.toList)):=by simp[dO,ta]
@[simp] theorem ae8{x y:ByteArray}:dO P .add t (.string x) (.string y)=if x.size+y.size<=9223372036854775807 then some (.string (x++y))else none:=by simp[dO,ta]
@[simp] theorem aeV{x y:Bool}:dO P .eql t (.bool x) (.bool y)=if tb P t=true then some (.bool (x==y))else none:=by simp[dO]
@[simp] theorem aeW{x y:Bool}:dO P .neq t (.bool x) (.bool y)=if tb P t=true then some (.bool (!(x==y)))else none:=by simp[dO]
@[simp] theorem ae3{x:Option Addr}{n c:Nat}:dO P .eql t (.slice x n c) (.slice none 0 0)=(eR P t).map fun _=> .bool x.isNone:=by simp only[dO];cases eR P t<;>rfl
@[simp] theorem afk{x:Int}:oJ .neg (.int k x)=some (.int k (k.wrap (0-x))):=rfl
@[simp] theorem afl{x:Bool}:oJ .not (.bool x)=some (.bool !x):=rfl
@[simp] theorem afm{x:Int}:oJ .xor (.int k x)=some (.int k (k.wrap (BitVec.ofInt k.bits (if k.signed then-1 else k.max)^^^BitVec.ofInt k.bits x).toNat)):=rfl
end
section
variable {P:Program} {r:List br} {F:Fr} {H:ab} {Q:Fr->ab->Prop}
def hA(x:br):br:={x with g:=none}
def m7(U:Option Bool)(w:Bool)(ck cU:Prop):Prop:=if U=some w then ck else cU
theorem NH(b:Bool)(ck cU:Prop):m7 (some b) true ck cU=hC b ck cU:=by cases b<;>simp[m7,hC]
theorem NG(b:Bool)(ck cU:Prop):m7 (some b) false ck cU=hC b cU ck:=by cases b<;>simp[m7,hC]
theorem aaQ(j:Nat)(w:Bool)(x:br):bd P (aN j w x::r) F H Q=m7 (gR (F j)) w (bd P (hA x::r) F H Q) (bd P r (fF F x.d undef) H Q):=rfl
@[simp] theorem adD(d:Nat)(v:Value):fF F (some d) v=aY F d v:=rfl
@[simp] theorem agn(x:br):hA (bg x)=bg (hA x):=rfl
@[simp] theorem adt(x:br):(bg x).d=x.d:=rfl
@[simp] theorem agm(d:Nat)(x:Operand):hA (J d x)=J d x:=rfl
@[simp] theorem ads(d:Nat)(x:Operand):(J d x).d=some d:=rfl
@[simp] theorem agq(d:Nat)(x:Operand):hA (al d x)=al d x:=rfl
@[simp] theorem adw(d:Nat)(x:Operand):(al d x).d=some d:=rfl
@[simp] theorem agp(d:Nat)(c a b:Operand):hA (cL d c a b)=cL d c a b:=rfl
@[simp] theorem adv(d:Nat)(c a b:Operand):(cL d c a b).d=some d:=rfl
@[simp] theorem af7(d e:Nat):hA (bY d e)=bY d e:=rfl
@[simp] theorem adb(d e:Nat):(bY d e).d=some d:=rfl
@[simp] theorem af9(d e:Nat)(x:Operand):hA (cZ d e x)=cZ d e x:=rfl
@[simp] theorem adg(d e:Nat)(x:Operand):(cZ d e x).d=some d:=rfl
@[simp] theorem agj(d t:Nat)(x:Operand):hA (aO d t x)=aO d t x:=rfl
@[simp] theorem adp(d t:Nat)(x:Operand):(aO d t x).d=some d:=rfl
@[simp] theorem ago(d:Nat)(x:Operand):hA (iv d x)=iv d x:=rfl
@[simp] theorem adu(d:Nat)(x:Operand):(iv d x).d=some d:=rfl
@[simp] theorem af8(d:Nat)(op:BinOp)(t:Nat)(x y:Operand):hA (bi d op t x y)=bi d op t x y:=rfl
@[simp] theorem ade(d:Nat)(op:BinOp)(t:Nat)(x y:Operand):(bi d op t x y).d=some d:=rfl
@[simp] theorem ags(d:Nat)(op:UnOp)(x:Operand):hA (un d op x)=un d op x:=rfl
@[simp] theorem ady(d:Nat)(op:UnOp)(x:Operand):(un d op x).d=some d:=rfl
@[simp] theorem agc(d s t:Nat)(x:Operand):hA (cj d s t x)=cj d s t x:=rfl
@[simp] theorem adj(d s t:Nat)(x:Operand):(cj d s t x).d=some d:=rfl
@[simp] theorem age(d s:Nat)(x:Operand)(f:Nat):hA (bk d s x f)=bk d s x f:=rfl
@[simp] theorem adl(d s:Nat)(x:Operand)(f:Nat):(bk d s x f).d=some d:=rfl
@[simp] theorem agf(d s:Nat)(x:Operand)(f:Nat):hA (qb d s x f)=qb d s x f:=rfl
@[simp] theorem adm(d s:Nat)(x:Operand)(f:Nat):(qb d s x f).d=some d:=rfl
@[simp] theorem agh(d t:Nat)(x i:Operand):hA (bb d t x i)=bb d t x i:=rfl
@[simp] theorem adn(d t:Nat)(x i:Operand):(bb d t x i).d=some d:=rfl
@[simp] theorem agi(d t:Nat)(x i:Operand):hA (ey d t x i)=ey d t x i:=rfl
@[simp] theorem ado(d t:Nat)(x i:Operand):(ey d t x i).d=some d:=rfl
@[simp] theorem agd(d:Nat)(x:Operand)(i:Nat):hA (ex d x i)=ex d x i:=rfl
@[simp] theorem adk(d:Nat)(x:Operand)(i:Nat):(ex d x i).d=some d:=rfl
@[simp] theorem agr(d t:Nat)(x:Operand)(bX ad e4:Option Operand):hA (gl d t x bX ad e4)=gl d t x bX ad e4:=rfl
@[simp] theorem adx(d t:Nat)(x:Operand)(bX ad e4:Option Operand):(gl d t x bX ad e4).d=some d:=rfl
@[simp] theorem agk(d t:Nat)(x:Operand):hA (bA d t x)=bA d t x:=rfl
@[simp] theorem adq(d t:Nat)(x:Operand):(bA d t x).d=some d:=rfl
@[simp] theorem aga(d f:Nat)(args:List Operand):hA (a3 d f args)=a3 d f args:=rfl
@[simp] theorem adh(d f:Nat)(args:List Operand):(a3 d f args).d=some d:=rfl
@[simp] theorem agb(d:Nat)(x:Operand)(args:List Operand):hA (nj d x args)=nj d x args:=rfl
@[simp] theorem adi(d:Nat)(x:Operand)(args:List Operand):(nj d x args).d=some d:=rfl
@[simp] theorem agl(d t:Nat)(x:Operand):hA (l3 d t x)=l3 d t x:=rfl
@[simp] theorem adr(d t:Nat)(x:Operand):(l3 d t x).d=some d:=rfl
theorem aaY(d:Nat)(c a b:Operand):bd P (cL d c a b::r) F H Q=yc (aq F c) fun t=>bd P r (aY F d (if t=true then aq F a else aq F b)) H Q:=by
 rw[abw];cases aq F c<;>rfl
theorem aaI(d e:Nat):bd P (bY d e::r) F H Q=eK (dw P e) fun z=>ga (flat z=true/\(bm P e).isSome=true) (bd P r (aY F d (.pointer (some ⟨H.length,0,none⟩))) (H++[.own e false z.cells.toList]) Q):=by
 rw[Nt];cases dw P e<;>rfl
theorem No(d e:Nat)(x:Operand):bd P (cZ d e x::r) F H Q=ga ((bm P e).isSome=true) (bd P r (aY F d (.pointer (some ⟨H.length,0,none⟩))) (H++[.own e false (aq F x).cells.toList]) Q):=by
 rw[aba];rfl
def lenOf(P:Program)(t:Nat):Value->Option Nat
 | .slice _ n _=>(eR P t).map fun _=>n
 | .string s=>if iy P t=true then some s.size else none
 | _=>none
theorem aaT(d t:Nat)(x:Operand):bd P (aO d t x::r) F H Q=rr (aq F x) fun b i=>eK ((H[b]?).bind bB.cells?) fun cs=>eK (da P t) fun g=>hC g (eK (bm P t) fun n=>ga (i+n<=cs.length) (bd P r (aY F d (.agg ((cs.drop i).take n).toArray)) H Q)) (eK cs[i]? fun v=>bd P r (aY F d v) H Q):=by
 rw[abl]
 cases aq F x<;>try rfl
 rename_i a
 cases a with
 | none=>rfl
 | some a=>
  obtain⟨b,i,c⟩:=a
  cases c<;>try rfl
  simp only[rr]
  cases(H[b]?).bind bB.cells? with
  | none=>rfl
  | some cs=>
   simp only[eK]
   cases da P t with
   | none=>rfl
   | some g=>
    cases g with
    | false=>simp only[hC];cases cs[i]?<;>rfl
    | true=>simp only[hC];cases bm P t<;>rfl
theorem aaZ(t:Nat)(x y:Operand):bd P (st t x y::r) F H Q=rr (aq F x) fun b i=>FP H[b]? fun e l cs=>ga (bm P t=some (aq F y).cells.size/\i+(aq F y).cells.size<=cs.length/\((aq F y).cells.toList.all (·.oneCell'))=true) (bd P r F (H.set b (.own e l (lC cs i (aq F y).cells.toList))) Q):=by
 rw[abz]
 cases aq F x<;>try rfl
theorem aaX(d:Nat)(x:Operand):bd P (iv d x::r) F H Q=FN (aq F x) fun a=>bd P r (aY F d (.pointer (some a))) H Q:=by
 rw[abu]
 cases aq F x<;>try rfl
theorem aaK(d:Nat)(op:BinOp)(t:Nat)(x y:Operand):bd P (bi d op t x y::r) F H Q=eK (dO P op t (aq F x) (aq F y)) fun v=>bd P r (aY F d v) H Q:=by
 rw[aa9];cases dO P op t (aq F x) (aq F y)<;>rfl
theorem aa0(d:Nat)(op:UnOp)(x:Operand):bd P (un d op x::r) F H Q=eK (oJ op (aq F x)) fun v=>bd P r (aY F d v) H Q:=by
 rw[abA];cases oJ op (aq F x)<;>rfl
theorem aaO(d s:Nat)(x:Operand)(f:Nat):bd P (bk d s x f::r) F H Q=rr (aq F x) fun b i=>eK (gd P s f) fun off=>bd P r (aY F d (.pointer (some ⟨b,i+off,none⟩))) H Q:=by
 rw[abg]
 cases aq F x<;>try rfl
 rename_i a
 cases a with
 | none=>rfl
 | some a=>
  obtain⟨b,i,c⟩:=a
  cases c<;>try rfl
  cases gd P s f<;>rfl
theorem aaP(d s:Nat)(x:Operand)(f:Nat):bd P (qb d s x f::r) F H Q=nb (aq F x) fun cs=>eK (qc P s f) fun c=>eK (o0 cs c) fun v=>bd P r (aY F d v) H Q:=by
 rw[abi]
 cases aq F x<;>try rfl
 rename_i cs
 simp only[nb,eK]
 cases qc P s f with
 | none=>rfl
 | some c=>simp only;cases o0 cs c<;>rfl
theorem yJ{α:Type}(U:Option α){K:α->Prop}(h:∀v,K v=False):eK U K=False:=by cases U<;>simp[eK,h]
theorem aaR(d t:Nat)(x i:Operand):bd P (bb d t x i::r) F H Q=yf (aq F x) fun a len _=>oV (aq F i) fun _ n=>eK (eR P t) fun e=>eK (bm P e) fun R=>yb a fun b U=>ga (0<=n/\n<len) (bd P r (aY F d (.pointer (some ⟨b,U+n.toNat*R,none⟩))) H Q):=by
 rw[abj]
 generalize aq F x=u
 generalize aq F i=w
 cases u with
 | slice a len cap=>
  rcases a with _ | ⟨b,U,_ | c⟩
  ·cases w with
   | int k n=>exact(yJ _ fun e=>yJ _ fun z=>rfl).symm
   | _=>rfl
  ·cases w with
   | int k n=>
    simp only[yf,oV,yb]
    cases eR P t with
    | none=>rfl
    | some e=>
     simp only[eK]
     cases bm P e<;>rfl
   | _=>rfl
  ·cases w with
   | int k n=>exact(yJ _ fun e=>yJ _ fun z=>rfl).symm
   | _=>rfl
 | _=>rfl
theorem aaS(d t:Nat)(x i:Operand):bd P (ey d t x i::r) F H Q=FT (aq F x) fun s=>oV (aq F i) fun _ n=>ga (iy P t=true/\0<=n/\n<s.size) (bd P r (aY F d (.int .u8 ((s.data.getD n.toNat 0).toNat:Int))) H Q):=by
 rw[abk]
 cases aq F x<;>try rfl
 cases aq F i<;>rfl
theorem aaN(d:Nat)(x:Operand)(i:Nat):bd P (ex d x i::r) F H Q=Bj (aq F x) fun aB=>eK aB[i]? fun v=>bd P r (aY F d v) H Q:=by
 rw[abf]
 cases aq F x<;>try rfl
 rename_i aB
 simp only[Bj]
 cases aB[i]?<;>rfl
theorem aaJ{d t:Nat}{aU:List (Nat×Operand)}{z:Value}{pl:List (Nat×Nat)}(aP:dw P t=some z)(dt:flat z=true)(aR:l5 P t=some pl):
  bd P (eW d t aU::r) F H Q=eK (kM pl z.cells.toList (aU.map fun p=>(p.1,aq F p.2))) fun out=>bd P r (aY F d (.agg out.toArray)) H Q:=by
 rw[aa8,Xt aP dt aR]
 cases kM pl z.cells.toList (aU.map fun p=>(p.1,aq F p.2))<;>rfl
def isInt:Value->Bool
 | .int _ _=>true
 | _=>false
def intOf:Value->Int
 | .int _ n=>n
 | _=>0
@[simp] theorem aeC(k:IntKind)(n:Int):isInt (.int k n)=true:=rfl
@[simp] theorem aeB(k:IntKind)(n:Int):intOf (.int k n)=n:=rfl
theorem aaM{d s t:Nat}{x:Operand}{gJ k:IntKind}(an:jB P s=some gJ)(bu:jB P t=some k)(I:isInt (aq F x)=true):bd P (cj d s t x::r) F H Q=bd P r (aY F d (.int k (k.wrap (intOf (aq F x))))) H Q:=by
 cases ao:aq F x<;>rw[ao]at I<;>first | exact abe d s t x ao an bu | cases I
def isStr:Value->Bool
 | .string _=>true
 | _=>false
@[simp] theorem aeE(s:ByteArray):isStr (.string s)=true:=rfl
theorem aaL(d:Nat)(x:Operand)(args:List Operand):bd P (nj d x args::r) F H Q=FL (aq F x) fun g a b=>aZ P g (a.toList++args.map (aq F)++b.toList) H (fun v H1=>bd P r (aY F d v) H1 Q):=by
 rw[abd]
 cases aq F x<;>try rfl
theorem aaU(d t:Nat)(x:Operand):bd P (bA d t x::r) F H Q=eK (lenOf P t (aq F x)) fun(n:Nat)=>bd P r (aY F d (.int .i64 n)) H Q:=by
 rw[abm]
 cases aq F x<;>try rfl
 ·simp only[lenOf]
  split
  ·rename_i h;simp[h,eK]
  ·rename_i h;simp[h,eK]
 ·simp only[lenOf]
  cases eR P t<;>rfl
@[simp] theorem VO(t:Nat)(a:Option Addr)(n c:Nat):lenOf P t (.slice a n c)=(eR P t).map fun _=>n:=rfl
@[simp] theorem VP(t:Nat)(s:ByteArray):lenOf P t (.string s)=if iy P t=true then some s.size else none:=rfl
theorem aaW(d:Nat)(bO:List Nat)(x y:Operand):bd P (xr d bO x y::r) F H Q=oV (aq F x) fun k a=>oV (aq F y) fun _ b=>bd P r (aY F d (.int k (if b>a then b else a))) H Q:=by
 rw[abt]
 cases aq F x<;>try rfl
 cases aq F y<;>rfl
theorem aaV(d:Nat)(bO:List Nat)(x y:Operand):bd P (uy d bO x y::r) F H Q=oV (aq F x) fun k a=>oV (aq F y) fun _ b=>bd P r (aY F d (.int k (if b<a then b else a))) H Q:=by
 rw[abp]
 cases aq F x<;>try rfl
 cases aq F y<;>rfl
end
section
variable {P:Program} {F:Fr} {H:ab} {Q:ds->Fr->ab->Prop}
theorem abI:ej P .skip F H Q=Q .normal F H:=rfl
theorem abG:ej P .ret F H Q=Q .ret F H:=rfl
theorem abD(id:Nat):ej P (.exit id) F H Q=Q (.exit id) F H:=rfl
theorem abH(x y:gn):ej P (.seq x y) F H Q=ej P x F H (mV (fun aA H1=>ej P y aA H1 Q) Q):=rfl
theorem abC(c:Operand)(x y:gn):ej P (.cond c x y) F H Q=yc (aq F c) fun b=>hC b (ej P x F H Q) (ej P y F H Q):=by
 simp only[ej]
 cases aq F c<;>try rfl
 rename_i b
 cases b<;>rfl
theorem abB(id:Nat)(x:gn):ej P (.block id x) F H Q=ej P x F H (oZ id Q):=rfl
theorem abE(x:gn):ej P (.loop x) F H Q=p0 (ej P x) Q F H:=rfl
theorem abF(l:List br):ej P (.ops l) F H Q=bd P l F H (fun aA H1=>Q .normal aA H1):=rfl
theorem Xy{K:Fr->ab->Prop}:mV K Q .normal F H=K F H:=rfl
theorem Xz{K:Fr->ab->Prop}:mV K Q .ret F H=Q .ret F H:=rfl
theorem Xx{K:Fr->ab->Prop}(id:Nat):mV K Q (.exit id) F H=Q (.exit id) F H:=rfl
theorem N4(id:Nat):oZ id Q .normal F H=Q .normal F H:=rfl
theorem N5(id:Nat):oZ id Q .ret F H=Q .ret F H:=rfl
theorem N3(id hv:Nat):oZ id Q (.exit hv) F H=if hv=id then Q .normal F H else Q (.exit hv) F H:=rfl
theorem aa5{K:List Value->Prop}:jK P F H [] K=K []:=rfl
theorem aa6{K:List Value->Prop}(i:Nat)(rs:List ResultVar):jK P F H (.tmp i::rs) K=jK P F H rs fun aB=>K (F i::aB):=rfl
theorem aa4{K:List Value->Prop}(a ty:Nat)(rs:List ResultVar):jK P F H (.cell a ty::rs) K=rr (F a) fun b i=>eK ((H[b]?).bind bB.cells?) fun cs=>eK (da P ty) fun g=>hC g (eK (bm P ty) fun n=>ga (i+n<=cs.length) (jK P F H rs fun aB=>K (.agg ((cs.drop i).take n).toArray::aB))) (eK cs[i]? fun v=>jK P F H rs fun aB=>K (v::aB)):=by
 simp only[jK,h_]
 cases F a<;>try rfl
 rename_i a
 cases a with
 | none=>rfl
 | some a=>
  obtain⟨b,i,c⟩:=a
  cases c<;>try rfl
  simp only[rr]
  cases(H[b]?).bind bB.cells? with
  | none=>rfl
  | some cs=>
   simp only[eK]
   cases da P ty with
   | none=>rfl
   | some g=>
    cases g with
    | false=>simp only[hC];cases cs[i]?<;>rfl
    | true=>simp only[hC];cases bm P ty<;>rfl
end
end
universe u v in
inductive a_ {α:Sort u} {β:Sort v} (a:α) (b:β):Type
 | mk
def a8(P:Program)(l:List br)(Q:Fr->ab->Prop)(aw:a_ l Q)(F:Fr)(H:ab):Prop:=bd P l F H Q
def gQ(P:Program)(x:gn)(Q:ds->Fr->ab->Prop)(aw:a_ x Q)(F:Fr)(H:ab):Prop:=ej P x F H Q
def p5(P:Program)(rs:List ResultVar)(K:List Value->Prop)(aw:a_ rs K)(F:Fr)(H:ab):Prop:=jK P F H rs K
def a4(P:Program)(f:FuncId)(Q:Value->ab->Prop)(aw:a_ f Q)(args:List Value)(H:ab):Prop:=aZ P f args H Q
def kE(P:Program)(x:gn)(Q:ds->Fr->ab->Prop)(aw:a_ x Q)(F:Fr)(H:ab):Prop:=p0 (ej P x) Q F H
def gb{α:Type}(K:α->Prop)(aw:a_ K K)(U:Option α):Prop:=eK U K
def df(K:Prop)(aw:a_ K K)(c:Prop):Prop:=ga c K
def bG(ck cU:Prop)(aw:a_ ck cU)(b:Bool):Prop:=hC b ck cU
def nU(ck cU:Prop)(aw:a_ ck cU)(U:Option Bool)(w:Bool):Prop:=m7 U w ck cU
def yd(K:Bool->Prop)(aw:a_ K K)(v:Value):Prop:=yc v K
def p2(K:IntKind->Int->Prop)(aw:a_ K K)(v:Value):Prop:=oV v K
def vg(K:Nat->Nat->Prop)(aw:a_ K K)(v:Value):Prop:=rr v K
def Bi(K:Option Addr->Nat->Nat->Prop)(aw:a_ K K)(v:Value):Prop:=yf v K
def Bh(K:Nat->Nat->Prop)(aw:a_ K K)(v:Option Addr):Prop:=yb v K
def FU(K:ByteArray->Prop)(aw:a_ K K)(v:Value):Prop:=FT v K
def ye(K:Array Value->Prop)(aw:a_ K K)(v:Value):Prop:=nb v K
def FW(K:Array Value->Prop)(aw:a_ K K)(v:Value):Prop:=Bj v K
def FQ(K:TypeId->Bool->List Value->Prop)(aw:a_ K K)(v:Option bB):Prop:=FP v K
def FM(K:Nat->Array Value->Array Value->Prop)(aw:a_ K K)(v:Value):Prop:=FL v K
@[simp] theorem ab3(g:Nat)(a b:Array Value)(K:Nat->Array Value->Array Value->Prop)(aw:a_ K K):FM K aw (.func (.func g) a b)=K g a b:=rfl
def FO(K:Addr->Prop)(aw:a_ K K)(v:Value):Prop:=FN v K
@[simp] theorem e0{α:Type}(v:α)(K:α->Prop)(aw:a_ K K):gb K aw (some v)=K v:=rfl
@[simp] theorem abR(K:Prop)(aw:a_ K K):df K aw True=K:=NA K
@[simp] theorem Nz(ck cU:Prop)(aw:a_ ck cU):bG ck cU aw true=ck:=rfl
@[simp] theorem sU(ck cU:Prop)(aw:a_ ck cU):bG ck cU aw false=cU:=rfl
@[simp] theorem abQ(b:Bool)(ck cU:Prop)(aw:a_ ck cU):bG ck cU aw (!b)=bG cU ck .mk b:=by cases b<;>rfl
@[simp] theorem abV(b:Bool)(ck cU:Prop)(aw:a_ ck cU):nU ck cU aw (some b) true=bG ck cU .mk b:=NH b ck cU
@[simp] theorem abT(b:Bool)(ck cU:Prop)(aw:a_ ck cU):nU ck cU aw (some b) false=bG cU ck .mk b:=NG b ck cU
@[simp] theorem NP(b:Bool)(K:Bool->Prop)(aw:a_ K K):yd K aw (.bool b)=K b:=rfl
@[simp] theorem nc(k:IntKind)(n:Int)(K:IntKind->Int->Prop)(aw:a_ K K):p2 K aw (.int k n)=K k n:=rfl
@[simp] theorem mj(b i:Nat)(K:Nat->Nat->Prop)(aw:a_ K K):vg K aw (.pointer (some ⟨b,i,none⟩))=K b i:=rfl
@[simp] theorem oW(a:Option Addr)(n c:Nat)(K:Option Addr->Nat->Nat->Prop)(aw:a_ K K):Bi K aw (.slice a n c)=K a n c:=rfl
@[simp] theorem oU(b i:Nat)(K:Nat->Nat->Prop)(aw:a_ K K):Bh K aw (some ⟨b,i,none⟩)=K b i:=rfl
@[simp] theorem FV(s:ByteArray)(K:ByteArray->Prop)(aw:a_ K K):FU K aw (.string s)=K s:=rfl
@[simp] theorem ab4(s:Array Value)(K:Array Value->Prop)(aw:a_ K K):ye K aw (.agg s)=K s:=rfl
@[simp] theorem ab6(s:Array Value)(K:Array Value->Prop)(aw:a_ K K):FW K aw (.tuple s)=K s:=rfl
@[simp] theorem FR(e:TypeId)(l:Bool)(cs:List Value)(K:TypeId->Bool->List Value->Prop)(aw:a_ K K):FQ K aw (some (.own e l cs))=K e l cs:=rfl
@[simp] theorem ab5(a:Addr)(K:Addr->Prop)(aw:a_ K K):FO K aw (.pointer (some a))=K a:=rfl
theorem df.mk{c K:Prop}{aw:a_ K K}(h:c)(ah:K):df K aw c:=⟨h,ah⟩
theorem bG.mk{b:Bool}{ck cU:Prop}{aw:a_ ck cU}(o:b=true->ck)(aa:b=false->cU):bG ck cU aw b:=hC.mk o aa
theorem bG.cE{p:Prop}[Decidable p]{ck cU:Prop}{aw:a_ ck cU}(o:p->ck)(aa:¬p->cU):bG ck cU aw (decide p):=hC.cE o aa
theorem a4.mk{P:Program}{f:FuncId}{Q:Value->ab->Prop}{aw:a_ f Q}{args:List Value}{H:ab}{ae:Value->ab->Prop}(h:aZ P f args H ae)(au:∀v H1,ae v H1->Q v H1):a4 P f Q aw args H:=aZ.mono h au
theorem kE.mk{P:Program}{x:gn}{Q:ds->Fr->ab->Prop}{aw:a_ x Q}(ak:Nat->Fr->ab->Prop){F:Fr}{H:ab}(n:Nat)(aH:ak n F H)
  (round:∀n F H,ak n F H->∀K:Fr->ab->Prop,(∀m aA H1,m<n->ak m aA H1->K aA H1)->gQ P x (mV K Q) .mk F H):kE P x Q aw F H:=p0.inv ak (fun n F H h=>round n F H h _ fun m aA H1 hm dc=>⟨m,hm,dc⟩) n F H aH
theorem aZ.cr{P:Program}{f:FuncId}{args:List Value}{H:ab}{ae:Value->ab->Prop}(h:∀Q:Value->ab->Prop,(∀v H1,ae v H1->Q v H1)->aZ P f args H Q):aZ P f args H ae:=h ae fun _ _ h=>h
theorem aZ.Vx{P:Program}{f:FuncId}{fn:Func}{x:e8}{args:List Value}{H:ab}{Q:Value->ab->Prop}(ax:P.funcs[f]?=some fn)(aE:(fn.name== "runtime.NumGoroutine")=false)(ag:comp P fn=some x)(ar:args.length<=fn.ntmps)
  (h:gQ P x.code (pM P x.results Q) .mk (iV args) H):aZ P f args H Q:=aZ.T6 ax aE ag ar h
section
variable {P:Program} {r:List br} {F:Fr} {H:ab} {Q:Fr->ab->Prop}
@[simp] theorem MN(aw:a_ ([]:List br) Q):a8 P [] Q aw F H=Q F H:=rfl
@[simp] theorem Ys(d:Nat)(x:Operand)(aw:a_ (J d x::r) Q):a8 P (J d x::r) Q aw F H=a8 P r Q .mk (aY F d (aq F x)) H:=abq d x
@[simp] theorem afE(d:Nat)(x:Operand)(aw:a_ (al d x::r) Q):a8 P (al d x::r) Q aw F H=a8 P r Q .mk (aY F d (aq F x)) H:=abx d x
@[simp] theorem afy(d t:Nat)(x:Operand)(aw:a_ (l3 d t x::r) Q):a8 P (l3 d t x::r) Q aw F H=df (a8 P r Q .mk (aY F d (.iface t (aq F x))) H) .mk (P.concrete t=true):=abo d t x
@[simp] theorem afx(d:Nat)(fn:Fn)(a b:Array Operand)(aw:a_ (ux d fn a b::r) Q):a8 P (ux d fn a b::r) Q aw F H=a8 P r Q .mk (aY F d (.func fn (a.map (aq F)) (b.map (aq F)))) H:=abn d fn a b
@[simp] theorem afs(d f:Nat)(args:List Operand)(aw:a_ (a3 d f args::r) Q):a8 P (a3 d f args::r) Q aw F H=a4 P f (fun v H1=>a8 P r Q .mk (aY F d v) H1) .mk (args.map (aq F)) H:=abb d f args
@[simp] theorem aft(f:Nat)(args:List Operand)(aw:a_ (yv f args::r) Q):a8 P (yv f args::r) Q aw F H=a4 P f (fun v H1=>a8 P r Q .mk F H1) .mk (args.map (aq F)) H:=abc f args
@[simp] theorem afC(d f:Nat)(args:List Operand)(aw:a_ (bg (a3 d f args)::r) Q):a8 P (bg (a3 d f args)::r) Q aw F H=a4 P f (fun v H1=>Ext H H1/\a8 P r Q .mk (aY F d v) H1) .mk (args.map (aq F)) H:=abv d f args
theorem sK{d t:Nat}{aU:List (Nat×Operand)}{z:Value}{pl:List (Nat×Nat)}(aP:dw P t=some z)(dt:flat z=true)(aR:l5 P t=some pl)(aw:a_ (eW d t aU::r) Q):
  a8 P (eW d t aU::r) Q aw F H=gb (fun out=>a8 P r Q .mk (aY F d (.agg out.toArray)) H) .mk (kM pl z.cells.toList (aU.map fun p=>(p.1,aq F p.2))):=aaJ aP dt aR
theorem nR{d s t:Nat}{x:Operand}{gJ k:IntKind}(an:jB P s=some gJ)(bu:jB P t=some k)(I:isInt (aq F x)=true)(aw:a_ (cj d s t x::r) Q):a8 P (cj d s t x::r) Q aw F H=a8 P r Q .mk (aY F d (.int k (k.wrap (intOf (aq F x))))) H:=aaM an bu I
@[simp] theorem Yo(j:Nat)(w:Bool)(x:br)(aw:a_ (aN j w x::r) Q):(a8 P (aN j w x::r) Q aw F H)=(nU ((a8 P (hA x::r) Q .mk F H)) ((a8 P r Q .mk (fF F x.d undef) H)) .mk (gR (F j)) w):=aaQ j w x
@[simp] theorem afD(d:Nat)(c a b:Operand)(aw:a_ (cL d c a b::r) Q):(a8 P (cL d c a b::r) Q aw F H)=(yd (fun t=>(a8 P r Q .mk (aY F d (if t=true then aq F a else aq F b)) H)) .mk (aq F c)):=aaY d c a b
@[simp] theorem uV(d e:Nat)(aw:a_ (bY d e::r) Q):(a8 P (bY d e::r) Q aw F H)=(gb (fun z=>(df ((a8 P r Q .mk (aY F d (.pointer (some ⟨H.length,0,none⟩))) (H++[.own e false z.cells.toList]))) .mk (flat z=true/\(bm P e).isSome=true))) .mk (dw P e)):=aaI d e
@[simp] theorem afr(d e:Nat)(x:Operand)(aw:a_ (cZ d e x::r) Q):(a8 P (cZ d e x::r) Q aw F H)=(df ((a8 P r Q .mk (aY F d (.pointer (some ⟨H.length,0,none⟩))) (H++[.own e false (aq F x).cells.toList]))) .mk ((bm P e).isSome=true)):=No d e x
@[simp] theorem uX(d t:Nat)(x:Operand)(aw:a_ (aO d t x::r) Q):(a8 P (aO d t x::r) Q aw F H)=(vg (fun b i=>(gb (fun cs=>(gb (fun g=>(bG ((gb (fun n=>(df ((a8 P r Q .mk (aY F d (.agg ((cs.drop i).take n).toArray)) H)) .mk (i+n<=cs.length))) .mk (bm P t))) ((gb (fun v=>(a8 P r Q .mk (aY F d v) H)) .mk cs[i]?)) .mk g)) .mk (da P t))) .mk ((H[b]?).bind bB.cells?))) .mk (aq F x)):=aaT d t x
@[simp] theorem MR(t:Nat)(x y:Operand)(aw:a_ (st t x y::r) Q):(a8 P (st t x y::r) Q aw F H)=(vg (fun b i=>(FQ (fun e l cs=>(df ((a8 P r Q .mk F (H.set b (.own e l (lC cs i (aq F y).cells.toList))))) .mk (bm P t=some (aq F y).cells.size/\i+(aq F y).cells.size<=cs.length/\((aq F y).cells.toList.all (·.oneCell'))=true))) .mk H[b]?)) .mk (aq F x)):=aaZ t x y
@[simp] theorem afB(d:Nat)(x:Operand)(aw:a_ (iv d x::r) Q):(a8 P (iv d x::r) Q aw F H)=(FO (fun a=>(a8 P r Q .mk (aY F d (.pointer (some a))) H)) .mk (aq F x)):=aaX d x
@[simp] theorem MK(d:Nat)(op:BinOp)(t:Nat)(x y:Operand)(aw:a_ (bi d op t x y::r) Q):(a8 P (bi d op t x y::r) Q aw F H)=(gb (fun v=>(a8 P r Q .mk (aY F d v) H)) .mk (dO P op t (aq F x) (aq F y))):=aaK d op t x y
@[simp] theorem afF(d:Nat)(op:UnOp)(x:Operand)(aw:a_ (un d op x::r) Q):(a8 P (un d op x::r) Q aw F H)=(gb (fun v=>(a8 P r Q .mk (aY F d v) H)) .mk (oJ op (aq F x))):=aa0 d op x
@[simp] theorem AR(d s:Nat)(x:Operand)(f:Nat)(aw:a_ (bk d s x f::r) Q):(a8 P (bk d s x f::r) Q aw F H)=(vg (fun b i=>(gb (fun off=>(a8 P r Q .mk (aY F d (.pointer (some ⟨b,i+off,none⟩))) H)) .mk (gd P s f))) .mk (aq F x)):=aaO d s x f
@[simp] theorem afw(d s:Nat)(x:Operand)(f:Nat)(aw:a_ (qb d s x f::r) Q):(a8 P (qb d s x f::r) Q aw F H)=(ye (fun cs=>(gb (fun c=>(gb (fun v=>(a8 P r Q .mk (aY F d v) H)) .mk (o0 cs c))) .mk (qc P s f))) .mk (aq F x)):=aaP d s x f
@[simp] theorem fL(d t:Nat)(x i:Operand)(aw:a_ (bb d t x i::r) Q):(a8 P (bb d t x i::r) Q aw F H)=(Bi (fun a len _=>(p2 (fun _ n=>(gb (fun e=>(gb (fun R=>(Bh (fun b U=>(df ((a8 P r Q .mk (aY F d (.pointer (some ⟨b,U+n.toNat*R,none⟩))) H)) .mk (0<=n/\n<len))) .mk a)) .mk (bm P e))) .mk (eR P t))) .mk (aq F i))) .mk (aq F x)):=aaR d t x i
@[simp] theorem hK(d t:Nat)(x i:Operand)(aw:a_ (ey d t x i::r) Q):(a8 P (ey d t x i::r) Q aw F H)=(FU (fun s=>(p2 (fun _ n=>(df ((a8 P r Q .mk (aY F d (.int .u8 ((s.data.getD n.toNat 0).toNat:Int))) H)) .mk (iy P t=true/\0<=n/\n<s.size))) .mk (aq F i))) .mk (aq F x)):=aaS d t x i
@[simp] theorem afv(d:Nat)(x:Operand)(i:Nat)(aw:a_ (ex d x i::r) Q):(a8 P (ex d x i::r) Q aw F H)=(FW (fun aB=>(gb (fun v=>(a8 P r Q .mk (aY F d v) H)) .mk aB[i]?)) .mk (aq F x)):=aaN d x i
@[simp] theorem afu(d:Nat)(x:Operand)(args:List Operand)(aw:a_ (nj d x args::r) Q):(a8 P (nj d x args::r) Q aw F H)=(FM (fun g a b=>(a4 P g ((fun v H1=>(a8 P r Q .mk (aY F d v) H1))) .mk (a.toList++args.map (aq F)++b.toList) H)) .mk (aq F x)):=aaL d x args
@[simp] theorem gO(d t:Nat)(x:Operand)(aw:a_ (bA d t x::r) Q):(a8 P (bA d t x::r) Q aw F H)=(gb (fun(n:Nat)=>(a8 P r Q .mk (aY F d (.int .i64 n)) H)) .mk (lenOf P t (aq F x))):=aaU d t x
@[simp] theorem afA(d:Nat)(bO:List Nat)(x y:Operand)(aw:a_ (xr d bO x y::r) Q):(a8 P (xr d bO x y::r) Q aw F H)=(p2 (fun k a=>(p2 (fun _ b=>(a8 P r Q .mk (aY F d (.int k (if b>a then b else a))) H)) .mk (aq F y))) .mk (aq F x)):=aaW d bO x y
@[simp] theorem afz(d:Nat)(bO:List Nat)(x y:Operand)(aw:a_ (uy d bO x y::r) Q):(a8 P (uy d bO x y::r) Q aw F H)=(p2 (fun k a=>(p2 (fun _ b=>(a8 P r Q .mk (aY F d (.int k (if b<a then b else a))) H)) .mk (aq F y))) .mk (aq F x)):=aaV d bO x y
end
section
variable {P:Program} {F:Fr} {H:ab} {Q:ds->Fr->ab->Prop}
@[simp] theorem afO(aw:a_ (.skip:gn) Q):(gQ P .skip Q aw F H)=Q .normal F H:=abI
@[simp] theorem afN(aw:a_ (.ret:gn) Q):(gQ P .ret Q aw F H)=Q .ret F H:=abG
@[simp] theorem afK(id:Nat)(aw:a_ ((.exit id):gn) Q):(gQ P (.exit id) Q aw F H)=Q (.exit id) F H:=abD id
@[simp] theorem cw(x y:gn)(aw:a_ ((.seq x y):gn) Q):(gQ P (.seq x y) Q aw F H)=(gQ P x (mV ((fun aA H1=>(gQ P y Q .mk aA H1))) Q) .mk F H):=abH x y
@[simp] theorem afJ(c:Operand)(x y:gn)(aw:a_ ((.cond c x y):gn) Q):(gQ P (.cond c x y) Q aw F H)=(yd (fun b=>(bG ((gQ P x Q .mk F H)) ((gQ P y Q .mk F H)) .mk b)) .mk (aq F c)):=abC c x y
@[simp] theorem E7(id:Nat)(x:gn)(aw:a_ ((.block id x):gn) Q):(gQ P (.block id x) Q aw F H)=(gQ P x (oZ id Q) .mk F H):=abB id x
@[simp] theorem afL(x:gn)(aw:a_ ((.loop x):gn) Q):(gQ P (.loop x) Q aw F H)=(kE P x Q .mk F H):=abE x
@[simp] theorem afM(l:List br)(aw:a_ ((.ops l):gn) Q):(gQ P (.ops l) Q aw F H)=(a8 P l ((fun aA H1=>Q .normal aA H1)) .mk F H):=abF l
@[simp] theorem afH{K:List Value->Prop}(aw:a_ ([]:List ResultVar) K):(p5 P [] K aw F H)=K []:=aa5
@[simp] theorem afI{K:List Value->Prop}(i:Nat)(rs:List ResultVar)(aw:a_ ((.tmp i::rs):List ResultVar) K):(p5 P (.tmp i::rs) K aw F H)=(p5 P rs (fun aB=>K (F i::aB)) .mk F H):=aa6 i rs
@[simp] theorem afG{K:List Value->Prop}(a ty:Nat)(rs:List ResultVar)(aw:a_ ((.cell a ty::rs):List ResultVar) K):(p5 P (.cell a ty::rs) K aw F H)=(vg (fun b i=>(gb (fun cs=>(gb (fun g=>(bG ((gb (fun n=>(df ((p5 P rs (fun aB=>K (.agg ((cs.drop i).take n).toArray::aB)) .mk F H)) .mk (i+n<=cs.length))) .mk (bm P ty))) ((gb (fun v=>(p5 P rs (fun aB=>K (v::aB)) .mk F H)) .mk cs[i]?)) .mk g)) .mk (da P ty))) .mk ((H[b]?).bind bB.cells?))) .mk (F a)):=aa4 a ty rs
@[simp] theorem afn{rs:List ResultVar}{ae:Value->ab->Prop}:pM P rs ae .normal F H=p5 P rs (fun aB=>ae (bj aB) H) .mk F H:=rfl
@[simp] theorem afo{rs:List ResultVar}{ae:Value->ab->Prop}:pM P rs ae .ret F H=p5 P rs (fun aB=>ae (bj aB) H) .mk F H:=rfl
attribute [simp] Xy Xz Xx N4 N5 N3
end
def ea(H:ab)(e R:Nat)(v:Value)(n:Nat)(cs:List Value):Prop:=
 ∃a cap,v= .slice a n cap/\n<=cap/\cs.length=n*R/\(0<cap->∃b i X all,a=some ⟨b,i,none⟩/\H[b]?=some X/\X.cells?=some all/\X.elem?=some e/\i+n*R<=all.length/\cs=(all.drop i).take (n*R))
theorem Ext.az{H H1 a0:ab}(h:Ext H H1)(b5:Ext H1 a0):Ext H a0:=by
 obtain⟨N,rfl,aE⟩:=h
 obtain⟨M,rfl,hm⟩:=b5
 refine⟨N++M,by simp,fun x I=>?_⟩
 rcases List.mem_append.1 I with I | I
 ·exact aE x I
 ·exact hm x I
theorem Ext.snoc{cx H:ab}(h:Ext cx H)(e:TypeId)(l:Bool)(cs:List Value):Ext cx (H++[.own e l cs]):=h.az ⟨[.own e l cs],rfl,fun x I cH eo=>by simp at I;subst I;simp⟩
theorem Ext.set{cx H:ab}(h:Ext cx H){b:Nat}(af:cx.length<=b){X:bB}(aS:∀e cs,X≠ .ro e cs):Ext cx (H.set b X):=by
 obtain⟨N,rfl,aE⟩:=h
 refine⟨N.set (b-cx.length) X,by rw[List.set_append_right _ _ af],fun x I e cs=>?_⟩
 rcases List.mem_or_eq_of_mem_set I with I | rfl
 ·exact aE x I e cs
 ·exact aS e cs
theorem ea.ext{H H1:ab}{e R n:Nat}{v:Value}{cs:List Value}(h:ea H e R v n cs)(I:Ext H H1):ea H1 e R v n cs:=by
 obtain⟨a,cap,ao,o,aa,aD⟩:=h
 refine⟨a,cap,ao,o,aa,fun ag=>?_⟩
 obtain⟨b,i,X,all,aT,aQ,bn⟩:=aD ag
 exact⟨b,i,X,all,aT,I.get_some aQ,bn⟩
theorem ea.len{H:ab}{e R n:Nat}{v:Value}{cs:List Value}(h:ea H e R v n cs):∃a cap,v= .slice a n cap:=by
 obtain⟨a,cap,ao,-⟩:=h;exact⟨a,cap,ao⟩
theorem ea.at{H:ab}{e R n:Nat}{v:Value}{cs:List Value}(h:ea H e R v n cs)(aE:0<n):∃b i cap X all,v= .slice (some ⟨b,i,none⟩) n cap/\H[b]?=some X/\X.cells?=some all/\i+n*R<=all.length/\∀k,k<n*R->all[i+k]?=cs[k]?:=by
 obtain⟨a,cap,rfl,o,aa,aD⟩:=h
 obtain⟨b,i,X,all,rfl,aQ,bn,b8,eD,gw⟩:=aD (by omega)
 refine⟨b,i,cap,X,all,rfl,aQ,bn,eD,fun k ah=>?_⟩
 rw[gw,List.getElem?_take_of_lt ah,List.getElem?_drop]
theorem ea.src{H:ab}{e R n:Nat}{v:Value}{cs:List Value}(h:ea H e R v n cs){m:Nat}(hm:m<=n):Src H R v n m (cs.take (m*R)):=by
 obtain⟨a,cap,rfl,o,aa,aD⟩:=h
 by_cases aH:m=0
 ·subst aH;simpa using Src.u9
 ·obtain⟨b,i,X,all,rfl,aQ,bn,b8,eD,rfl⟩:=aD (by omega)
  have wH:m*R<=n*R:=Nat.mul_le_mul_right _ hm
  rw[List.take_take,Nat.min_eq_left wH]
  exact .row aQ bn (by omega) hm (by omega)
theorem ea.nil(H:ab)(e R:Nat):ea H e R (.slice none 0 0) 0 []:=⟨none,0,rfl,Nat.le_refl _,by simp,fun h=>absurd h (by omega)⟩
theorem ea.void(H:ab)(e R:Nat)(a:Option Addr):ea H e R (.slice a 0 0) 0 []:=⟨a,0,rfl,Nat.le_refl _,by simp,fun h=>absurd h (by omega)⟩
section
variable {P:Program} {r:List br} {F:Fr} {H:ab} {Q:Fr->ab->Prop}
theorem iz{b:Bool}{d:Option Nat}{op:Op}{aw:a_ ((⟨b,none,d,op⟩:br)::r) Q}(ao:isVal op=false)(hm:iO op=true)(aE:bT P (aq F) H op=none){v:Value}{H1:ab}(au:∀U:Oper,U.op=op->eV P (aq F) H U v H1)(ax:∀U:Oper,U.op=op->bF P U=false)
  (af:b=true\/Ext H H1)(h:a8 P r Q .mk (fF F d v) H1):a8 P (⟨b,none,d,op⟩::r) Q aw F H:=abr ao hm aE (fun U aM=>⟨ax U aM,au U aM⟩) af h
theorem MQ{en:Bool}{d t e R n l h:Nat}{x:Operand}{bX ad:Option Operand}{cs:List Value}{aw:a_ ((⟨en,none,some d,.slice t x bX ad none⟩:br)::r) Q}(bE:ea H e R (aq F x) n cs)(hu:P.underlying t=some (.slice e))(an:bm P e=some R)(ar:dN (aq F) bX=some l)(cR:fl (aq F) n ad=some h)(o:l<=h)(aa:h<=n)
  (K:∀av,ea H e R av (h-l) ((cs.drop (l*R)).take ((h-l)*R))->a8 P r Q .mk (aY F d av) H):a8 P ((⟨en,none,some d,.slice t x bX ad none⟩:br)::r) Q aw F H:=by
 obtain⟨a,cap,ao,aD,bD,b2⟩:=bE
 have wT:bT P (aq F) H (.slice t x bX ad none)=none:=by simp only[bT,ao]
 have a2:∀U:Oper,U.op= .slice t x bX ad none->bF P U=false:=fun U aM=>by simp[bF,aM]
 have hlen:((cs.drop (l*R)).take ((h-l)*R)).length=(h-l)*R:=by
  have:h*R<=n*R:=Nat.mul_le_mul_right _ aa
  have:l*R<=h*R:=Nat.mul_le_mul_right _ o
  have:(h-l)*R=h*R-l*R:=Nat.sub_mul _ _ _
  simp[bD];omega
 by_cases ag:cap=0
 ·have j1:n=0:=by omega
  have RX:h=0:=by omega
  have pf:l=0:=by omega
  subst ag j1 RX pf
  refine iz (v:= .slice a 0 0) (H1:=H) rfl rfl wT (fun U aM=> .xO aM hu an ao ar cR) a2 (.inr (Ext.refl H)) (K _ ?_)
  have:(cs.drop (0*R)).take ((0-0)*R)=[]:=by simp
  rw[this]
  exact ea.void H e R a
 ·obtain⟨b,i,X,all,rfl,aQ,bn,b8,eD,gw⟩:=b2 (by omega)
  by_cases lR:l<cap
  ·refine iz (v:= .slice (some ⟨b,i+l*R,none⟩) (h-l) (cap-l)) (H1:=H) rfl rfl wT (fun U aM=> .slice aM hu an ao aQ b8 ar cR o (by omega) lR) a2 (.inr (Ext.refl H)) (K _ ?_)
   refine⟨_,_,rfl,by omega,hlen,fun _=>⟨b,i+l*R,X,all,rfl,aQ,bn,b8,?_,?_⟩⟩
   ·have:h*R<=n*R:=Nat.mul_le_mul_right _ aa
    have:l*R<=h*R:=Nat.mul_le_mul_right _ o
    have:(h-l)*R=h*R-l*R:=Nat.sub_mul _ _ _
    omega
   ·rw[gw,List.drop_take,List.drop_drop,List.take_take]
    congr 1
    have:h*R<=n*R:=Nat.mul_le_mul_right _ aa
    have:(h-l)*R=h*R-l*R:=Nat.sub_mul _ _ _
    omega
  ·have bq:l=cap:=by omega
   have bh:h=cap:=by omega
   have e1:n=cap:=by omega
   subst bq bh
   refine iz (v:= .slice (some ⟨b,i,none⟩) 0 0) (H1:=H) rfl rfl wT (fun U aM=> .xN aM hu an ao (by omega) ar cR) a2 (.inr (Ext.refl H)) (K _ ?_)
   rw[Nat.sub_self,Nat.zero_mul,List.take_zero]
   exact ea.void H e R _
theorem Yz{d t e R n l h:Nat}{x:Operand}{bX ad:Option Operand}{cs:List Value}{aw:a_ (gl d t x bX ad none::r) Q}(bE:ea H e R (aq F x) n cs)(hu:P.underlying t=some (.slice e))(an:bm P e=some R)(ar:dN (aq F) bX=some l)(cR:fl (aq F) n ad=some h)(o:l<=h)(aa:h<=n)
  (K:∀av,ea H e R av (h-l) ((cs.drop (l*R)).take ((h-l)*R))->a8 P r Q .mk (aY F d av) H):a8 P (gl d t x bX ad none::r) Q aw F H:=MQ (en:=true) bE hu an ar cR o aa K
theorem xV{d t e R bs l c:Nat}{x y:Operand}{eg cB:IntKind}{z:Value}{aw:a_ (ms d t x y::r) Q}(hu:P.underlying t=some (.slice e))(an:bm P e=some R)(af:bytes? P e=some bs)(aP:dw P e=some z)(dt:flat z=true)(cY:z.cells.size=R)
  (I:aq F x= .int eg (l:Int))(aL:aq F y= .int cB (c:Int))(c0:0<R)(dH:0<bs)(lR:l<=c)(ag:0<c)(bp:bs*c<=281474976710656)
  (K:a8 P r Q .mk (aY F d (.slice (some ⟨H.length,0,none⟩) l c)) (H++[.own e false (made z (c*R))])):a8 P (ms d t x y::r) Q aw F H:=
 iz (v:= .slice (some ⟨H.length,0,none⟩) l c) rfl rfl rfl (fun U aM=> .make aM hu an af aP dt cY I aL c0 dH lR ag bp) (fun U aM=>by simp[bF,aM]) (.inl rfl) K
theorem AS{d t e R bs:Nat}{x y:Operand}{eg cB:IntKind}{aw:a_ (ms d t x y::r) Q}(hu:P.underlying t=some (.slice e))(an:bm P e=some R)(af:bytes? P e=some bs)(I:aq F x= .int eg 0)(aL:aq F y= .int cB 0)
  (K:a8 P r Q .mk (aY F d (.slice (some ⟨0,0,none⟩) 0 0)) H):a8 P (ms d t x y::r) Q aw F H:=
 iz (v:= .slice (some ⟨0,0,none⟩) 0 0) rfl rfl rfl (fun U aM=> .uw aM hu an af I aL) (fun U aM=>by simp[bF,aM]) (.inl rfl) K
theorem sL{d t e R len:Nat}{aU:List (Nat×Operand)}{z:Value}{out:List Value}{aw:a_ (fj d t len aU::r) Q}(hu:P.underlying t=some (.slice e))(an:bm P e=some R)(aP:dw P e=some z)(dt:flat z=true)(cY:z.cells.size=R)
  (c0:0<R)(ar:0<len)(bp:len*R<=16777216)(aM:iF (fun i=>some (i*R,R)) (made z (len*R)) (aU.map fun p=>(p.1,aq F p.2))=some out)(e3:out.length=len*R)
  (K:a8 P r Q .mk (aY F d (.slice (some ⟨H.length,0,none⟩) len len)) (H++[.own e false out])):a8 P (fj d t len aU::r) Q aw F H:=by
 have ax:Instr.fill (fun i=>some (i*R,R)) (made z (len*R)).toArray (aU.toArray.toList.map fun p=>(p.1,aq F p.2))=some out.toArray:=by
  rw[fill_eq]
  have:(aU.toArray.toList.map fun p=>(p.1,aq F p.2))=aU.map fun p=>(p.1,aq F p.2):=by simp
  rw[this]
  simp only
  rw[aM]
  rfl
 have au:∀U:Oper,U.op= .buildSlice t len aU.toArray->eV P (aq F) H U (.slice (some ⟨H.length,0,none⟩) len len) (H++[.own e false out]):=fun U fe=> .build (out:=out.toArray) fe hu an aP dt cY c0 ar bp ax (by simpa using e3)
 exact iz rfl rfl rfl au (fun U aM=>by simp[bF,aM]) (.inl rfl) K
theorem xS{d t e R:Nat}{aw:a_ (fj d t 0 []::r) Q}(hu:P.underlying t=some (.slice e))(an:bm P e=some R)(K:a8 P r Q .mk (aY F d (.slice (some ⟨0,0,none⟩) 0 0)) H):a8 P (fj d t 0 []::r) Q aw F H:=
 iz (v:= .slice (some ⟨0,0,none⟩) 0 0) rfl rfl rfl (fun U aM=> .vt aM hu an) (fun U aM=>by simp[bF,aM]) (.inl rfl) K
def hN(H:ab)(k e R:Nat)(v:Value)(n:Nat)(cs:List Value):Prop:=cs.length=n*R/\
 ((n=0/\(v= .slice none 0 0\/∃i,v= .slice (some ⟨0,i,none⟩) 0 0))\/∃b i cap l all,v= .slice (some ⟨b,i,none⟩) n cap/\0<cap/\n<=cap/\k<=b/\H[b]?=some (.own e l all)/\i+cap*R<=all.length/\cs=(all.drop i).take (n*R))
theorem hN.gl{H:ab}{k e R n:Nat}{v:Value}{cs:List Value}(h:hN H k e R v n cs):ea H e R v n cs:=by
 obtain⟨o,⟨rfl,aa⟩ | ⟨b,i,cap,l,all,rfl,aT,aQ,bn,b8,eD,gw⟩⟩:=h
 ·have:cs=[]:=List.eq_nil_of_length_eq_zero (by simpa using o)
  subst this
  rcases aa with rfl | ⟨i,rfl⟩
  ·exact ea.nil H e R
  ·exact ea.void H e R _
 ·have:n*R<=cap*R:=Nat.mul_le_mul_right _ aQ
  exact⟨_,_,rfl,aQ,o,fun _=>⟨b,i,_,all,rfl,b8,rfl,rfl,by omega,gw⟩⟩
theorem hN.ext{H H1:ab}{k e R n:Nat}{v:Value}{cs:List Value}(h:hN H k e R v n cs)(I:Ext H H1):hN H1 k e R v n cs:=by
 obtain⟨o,aa | ⟨b,i,cap,l,all,q⟩⟩:=h
 ·exact⟨o,.inl aa⟩
 ·exact⟨o,.inr ⟨b,i,cap,l,all,q.1,q.2.1,q.2.2.1,q.2.2.2.1,I.get_some q.2.2.2.2.1,q.2.2.2.2.2⟩⟩
theorem hN.nil(H:ab)(k e R:Nat):hN H k e R (.slice none 0 0) 0 []:=⟨by simp,.inl ⟨rfl,.inl rfl⟩⟩
theorem hN.void(H:ab)(k e R i:Nat):hN H k e R (.slice (some ⟨0,i,none⟩) 0 0) 0 []:=⟨by simp,.inl ⟨rfl,.inr ⟨i,rfl⟩⟩⟩
def inBlock(v:Value)(b:Nat):Prop:=∃i n c,v= .slice (some ⟨b,i,none⟩) n c
theorem E5{d bO cM e R bs k n m:Nat}{s x:Operand}{z:Value}{cs news:List Value}{aw:a_ (ap d bO cM s x::r) Q}(cV:hN H k e R (aq F s) n cs)(cX:Src H R (aq F x) m m news)(hu:P.underlying bO=some (.slice e))(I:fJ P cM=true)(an:bm P e=some R)(af:bytes? P e=some bs)(aP:dw P e=some z)(cY:z.cells.size=R)
  (dH:0<bs)(bp:(n+m)*bs<=140737488355328)(gZ:(news.all (·.oneCell'))=true)(nD:news.length=m*R)(ah:k<=H.length)
  (K:∀av aC,hN aC k e R av (n+m) (cs++news)->(∀cx:ab,cx.length<=k->Ext cx H->Ext cx aC)->(∀b X,H[b]?=some X->(inBlock (aq F s) b->X.elem?≠some e)->aC[b]?=some X)->(∀b,inBlock av b->inBlock (aq F s) b\/b=H.length)->H.length<=aC.length->a8 P r Q .mk (aY F d av) aC):a8 P (ap d bO cM s x::r) Q aw F H:=by
 obtain⟨ar,cV⟩:=cV
 have a2:∀U:Oper,U.op= .call {callee:= .builtin .append,args:= #[s,x],argTypes:= #[bO,cM]}->bF P U=false:=fun U aM=>by simp[bF,aM]
 have aE:bT P (aq F) H (.call {callee:= .builtin .append,args:= #[s,x],argTypes:= #[bO,cM]})=none:=rfl
 by_cases hm:m=0
 ·subst hm
  have wJ:news=[]:=List.eq_nil_of_length_eq_zero (by simpa using nD)
  subst wJ
  obtain⟨a,h3,cap,ao,r7⟩:∃a h3 cap,aq F s= .slice a h3 cap/\h3=n:=by
   rcases cV with⟨rfl,h | ⟨i,h⟩⟩ | ⟨b,i,cap,l,all,h,-⟩
   ·exact⟨_,_,_,h,rfl⟩
   ·exact⟨_,_,_,h,rfl⟩
   ·exact⟨_,_,_,h,rfl⟩
  refine iz (v:= .slice a h3 cap) (H1:=H) rfl rfl aE (fun U aM=> .vk aM hu I an cX ao) a2 (.inl rfl) ?_
  exact K _ H (by rw[List.append_nil,Nat.add_zero,<-ao];exact⟨ar,cV⟩) (fun cx _ h=>h) (fun b X h _=>h) (fun b h=> .inl (by rw[ao];exact h)) (Nat.le_refl _)
 ·have r6:0<m:=by omega
  have new:∀eo:List Value,eo.length=(n+m)*R->eo=cs++news->hN (H++[.own e true eo]) k e R (.slice (some ⟨H.length,0,none⟩) (n+m) (n+m)) (n+m) (cs++news):=fun eo o aa=>
   ⟨by rw[<-aa,o],.inr ⟨H.length,0,n+m,true,eo,rfl,by omega,Nat.le_refl _,ah,by simp,by omega,by rw[List.drop_zero,<-aa,<-o,List.take_length]⟩⟩
  rcases cV with⟨rfl,h⟩ | ⟨b,i,cap,l,all,ao,aT,aQ,bn,b8,eD,gw⟩
  ·have fX:cs=[]:=List.eq_nil_of_length_eq_zero (by simpa using ar)
   subst fX
   obtain⟨a,aF,ao⟩:∃a:Option Addr,(a=none\/∃i,a=some ⟨0,i,none⟩)/\aq F s= .slice a 0 0:=by
    rcases h with h | ⟨i,h⟩
    ·exact⟨none,.inl rfl,h⟩
    ·exact⟨_,.inr ⟨i,rfl⟩,h⟩
   refine iz (v:= .slice (some ⟨H.length,0,none⟩) m m) (H1:=H++[.own e true news]) rfl rfl aE (fun U aM=> .vo aM hu I an af aP cY cX r6 dH (by simpa using bp) aF ao) a2 (.inl rfl) ?_
   have:=new news (by simpa using nD) rfl
   simp only[Nat.zero_add]at this
   refine K _ _ (by simpa using this) (fun cx _ h=>h.snoc _ _ _) (fun b X h _=>?_) (fun b af=>?_) (by simp)
   ·rw[List.getElem?_append_left (cc.1 h).1];exact h
   ·obtain⟨i,n,c,he⟩:=af
    simp at he
    exact .inr he.1.1.symm
  ·by_cases gG:n+m<=cap
   ·have qs:(n+m)*R<=cap*R:=Nat.mul_le_mul_right _ gG
    have rT:(n+m)*R=n*R+m*R:=Nat.add_mul _ _ _
    have nz:i+n*R+news.length<=all.length:=by omega
    refine iz (v:= .slice (some ⟨b,i,none⟩) (n+m) cap) (H1:=H.set b (.own e l (c3 all (i+n*R) news))) rfl rfl aE (fun U aM=> .vm aM hu I an cX gG aT b8 nz gZ ao) a2 (.inl rfl) ?_
    have gF:b<H.length:=(cc.1 b8).1
    refine K _ _ ⟨by rw[List.length_append,ar,nD,rT],.inr ⟨b,i,cap,l,c3 all (i+n*R) news,rfl,aT,gG,bn,by simp[gF],by rw[mW nz];exact eD,?_⟩⟩ (fun cx aH h=>h.set (by omega) (by simp)) (fun cb X h cK=>?_) (fun cb cK=>?_) (by simp)
    ·rw[gw]
     have bq:c3 all (i+n*R) news=all.take (i+n*R)++news++all.drop (i+n*R+news.length):=rfl
     rw[bq,List.append_assoc,List.drop_append_of_le_length (by simp;omega),List.take_append,List.drop_take]
     have aD:i+n*R-i=n*R:=by omega
     have bD:((all.drop i).take (n*R)).length=n*R:=by simp;omega
     rw[aD,bD,rT,List.take_take,Nat.min_eq_right (by omega),Nat.add_sub_cancel_left,<-nD,List.take_append_of_le_length (Nat.le_refl _),List.take_length]
    ·have:b≠cb:=fun cH=>by
      subst cH
      rw[b8]at h
      exact cK ⟨i,n,cap,ao⟩ (by rw[<-Option.some.inj h];rfl)
     rw[List.getElem?_set_ne this];exact h
    ·obtain⟨je,dI,dL,he⟩:=cK
     simp at he
     exact .inl (by rw[<-he.1.1];exact⟨i,n,cap,ao⟩)
   ·have g2:i+n*R<=all.length:=by
     have:n*R<=cap*R:=Nat.mul_le_mul_right _ aQ
     omega
    have gF:b<H.length:=(cc.1 b8).1
    have rT:(n+m)*R=n*R+m*R:=Nat.add_mul _ _ _
    have g1:((all.drop i).take (n*R)++news).length=(n+m)*R:=by rw[List.length_append,<-gw,ar,nD,rT]
    have fresh:∀av:Value,av= .slice (some ⟨H.length,0,none⟩) (n+m) (n+m)->∀cb,inBlock av cb->inBlock (aq F s) cb\/cb=H.length:=fun av e cb cK=>by
     obtain⟨je,dI,dL,he⟩:=cK
     rw[e]at he
     simp at he
     exact .inr he.1.1.symm
    cases l with
    | false=>
     refine iz (v:= .slice (some ⟨H.length,0,none⟩) (n+m) (n+m)) (H1:=H++[.own e true ((all.drop i).take (n*R)++news)]) rfl rfl aE (fun U aM=> .vl aM hu I an af aP cY cX r6 dH bp b8 g2 (by omega) aT ao) a2 (.inl rfl) ?_
     refine K _ _ (new _ g1 (by rw[gw])) (fun cx _ h=>h.snoc _ _ _) (fun b X h _=>?_) (fresh _ rfl) (by simp)
     rw[List.getElem?_append_left (cc.1 h).1];exact h
    | true=>
     refine iz (v:= .slice (some ⟨H.length,0,none⟩) (n+m) (n+m)) (H1:=H.set b .dead++[.own e true ((all.drop i).take (n*R)++news)]) rfl rfl aE (fun U aM=> .vn aM hu I an af aP cY cX r6 dH bp b8 g2 (by omega) aT gZ ao) a2 (.inl rfl) ?_
     have qA:hN (H.set b .dead++[.own e true ((all.drop i).take (n*R)++news)]) k e R (.slice (some ⟨H.length,0,none⟩) (n+m) (n+m)) (n+m) (cs++news):=
      ⟨by rw[List.length_append,ar,nD,rT],.inr ⟨H.length,0,n+m,true,(all.drop i).take (n*R)++news,rfl,by omega,Nat.le_refl _,ah,by rw[List.getElem?_append_right (by simp)];simp,by rw[g1];omega,by rw[List.drop_zero,<-g1,List.take_length,gw]⟩⟩
     refine K _ _ qA (fun cx aH h=>(h.set (by omega) (by simp)).snoc _ _ _) (fun cb X h cK=>?_) (fresh _ rfl) (by simp)
     have cG:b≠cb:=fun cH=>by
      subst cH
      rw[b8]at h
      exact cK ⟨i,n,cap,ao⟩ (by rw[<-Option.some.inj h];rfl)
     rw[List.getElem?_append_left (by simp;exact(cc.1 h).1),List.getElem?_set_ne cG];exact h
theorem xW{en:Bool}{d t l h:Nat}{x:Operand}{bX ad:Option Operand}{s:ByteArray}{aw:a_ ((⟨en,none,some d,.slice t x bX ad none⟩:br)::r) Q}(I:aq F x= .string s)(bu:iy P t=true)(ar:dN (aq F) bX=some l)(cR:fl (aq F) s.size ad=some h)(o:l<=h)(aa:h<=s.size)
  (K:a8 P r Q .mk (aY F d (.string (s.extract l h))) H):a8 P ((⟨en,none,some d,.slice t x bX ad none⟩:br)::r) Q aw F H:=by
 have an:bT P (aq F) H (.slice t x bX ad none)=some (.string (s.extract l h),H):=by
  simp only[bT,I,ar,cR]
  rw[if_pos ⟨bu,o,aa⟩]
 show bd P _ F H Q
 simp only[bd,fV,an]
 exact⟨fun h=>by simp[hx]at h,K⟩
theorem Ym{d s t e:Nat}{x:Operand}{xs:List Int}{aw:a_ (cj d s t x::r) Q}(an:P.underlying s=some (.slice e))(he:P.underlying e=some (.int .u8))(aJ:P.underlying t=some .string)(bE:ea H e 1 (aq F x) xs.length (xs.map (Value.int .u8)))
  (K:a8 P r Q .mk (aY F d (.string (strOfNums xs))) H):a8 P (cj d s t x::r) Q aw F H:=by
 obtain⟨a,cap,ao⟩:=bE.len
 have cX:=bE.src (Nat.le_refl _)
 rw[Nat.mul_one,List.take_of_length_le (by simp)]at cX
 have aE:bT P (aq F) H (.convert s t x)=none:=by simp only[bT,ao]
 exact iz (v:= .string (strOfNums xs)) (H1:=H) rfl rfl aE (fun U aM=> .str aM an he aJ ⟨_,_,_,ao⟩ cX) (fun U aM=>by simp[bF,aM,qP,an]) (.inr (Ext.refl H)) K
end
section
variable {P:Program}
theorem fV.mono{b:Bool}{F:Fr}{H:ab}{K dW:Value->ab->Prop}(ah:∀v H1,K v H1->dW v H1){op:Op}(h:fV P b F H K op):fV P b F H dW op:=by
 have main:(match bT P (aq F) H op with
   | some (v,H1)=>(hx op=true->b=true)/\K v H1
   | none=>iO op=true/\∃v H1,na P (aq F) H op v H1/\(b=true\/Ext H H1)/\K v H1)->(match bT P (aq F) H op with
   | some (v,H1)=>(hx op=true->b=true)/\dW v H1
   | none=>iO op=true/\∃v H1,na P (aq F) H op v H1/\(b=true\/Ext H H1)/\dW v H1):=by
  cases bT P (aq F) H op with
  | some p=>exact fun h=>⟨h.1,ah _ _ h.2⟩
  | none=>exact fun⟨o,v,H1,aa,aD,bD⟩=>⟨o,v,H1,aa,aD,ah _ _ bD⟩
 cases op<;>try exact main h
 rename_i c
 obtain⟨callee,args,kI⟩:=c
 cases callee with
 | value f=>
  simp only[fV]at h⊢
  split at h
  ·exact h.mono fun v H1 cR=>⟨cR.1,ah _ _ cR.2⟩
  ·exact h.elim
 | invoke r m=>exact main h
 | builtin b=>exact main h
theorem bd.mono:∀{l:List br} {F:Fr} {H:ab} {Q b6:Fr->ab->Prop},(∀F H,Q F H->b6 F H)->bd P l F H Q->bd P l F H b6
 | [],F,H,Q,b6,au,h=>au _ _ h
 | x::rest,F,H,Q,b6,au,h=>by
  simp only[bd]at h⊢
  split
  ·rename_i aV
   rw[aV]at h
   exact fV.mono (fun v H1=>bd.mono au) h
  ·rename_i j w aV
   rw[aV]at h
   simp only at h
   split
   ·rename_i af
    rw[if_pos af]at h
    exact fV.mono (fun v H1=>bd.mono au) h
   ·rename_i af
    rw[if_neg af]at h
    exact bd.mono au h
theorem fi.mono:∀{l:List br} {F:Fr} {H:ab} {ae W:List Nat} {Q b6:Fr->ab->Prop},(∀F H,Q F H->b6 F H)->fi P l F H ae W Q->fi P l F H ae W b6
 | [],F,H,ae,W,Q,b6,au,h=>au _ _ h
 | x::rest,F,H,ae,W,Q,b6,au,h=>by
  simp only[fi]at h⊢
  split
  ·rename_i aV
   rw[aV]at h
   exact gA.mono (fun v H1 fs ft=>fi.mono au) h
  ·rename_i j w aV
   rw[aV]at h
   simp only at h
   split
   ·rename_i af
    rw[if_pos af]at h
    exact gA.mono (fun v H1 fs ft=>fi.mono au) h
   ·rename_i af
    rw[if_neg af]at h
    exact fi.mono au h
theorem ej.mono:∀{x:gn} {F:Fr} {H:ab} {Q b6:ds->Fr->ab->Prop},(∀e F H,Q e F H->b6 e F H)->ej P x F H Q->ej P x F H b6
 | .skip,F,H,Q,b6,au,h=>au _ _ _ h
 | .ret,F,H,Q,b6,au,h=>au _ _ _ h
 | .exit id,F,H,Q,b6,au,h=>au _ _ _ h
 | .seq x y,F,H,Q,b6,au,h=>ej.mono (x:=x) (fun e aA H1 o=>by
   cases e with
   | normal=>exact ej.mono (x:=y) au o
   | exit id=>exact au _ _ _ o
   | ret=>exact au _ _ _ o) h
 | .cond c x y,F,H,Q,b6,au,h=>by
  simp only[ej]at h⊢
  split
  ·rename_i b af
   rw[af]at h
   simp only at h
   cases b with
   | true=>exact ej.mono (x:=x) au h
   | false=>exact ej.mono (x:=y) au h
  ·rename_i af
   split at h
   ·rename_i b cK;exact(af b cK).elim
   ·exact h
 | .block id x,F,H,Q,b6,au,h=>ej.mono (x:=x) (fun e aA H1 o=>by
   cases e with
   | normal=>exact au _ _ _ o
   | ret=>exact au _ _ _ o
   | exit hv=>
    simp only[oZ]at o⊢
    split
    ·rename_i ad;rw[if_pos ad]at o;exact au _ _ _ o
    ·rename_i ad;rw[if_neg ad]at o;exact au _ _ _ o) h
 | .loop x,F,H,Q,b6,au,h=>by
  simp only[ej]at h⊢
  induction h with
  | round ak af dc aW=>
   exact .round ak (ej.mono (x:=x) (fun e aA H1 o=>by
    cases e with
    | normal=>exact o
    | exit id=>exact au _ _ _ o
    | ret=>exact au _ _ _ o) af) aW
 | .ops l,F,H,Q,b6,au,h=>bd.mono (fun aA H1 o=>au _ _ _ o) h
 | .opsL l,F,H,Q,b6,au,h=>fi.mono (fun aA H1 o=>au _ _ _ o) h
def FK(ae:Fr->ab->Prop):ds->Fr->ab->Prop
 | .normal,F,H=>ae F H
 | _,_,_=>False
@[simp] theorem ab2(ae:Fr->ab->Prop)(F:Fr)(H:ab):FK ae .normal F H=ae F H:=rfl
theorem gQ.cut{x:gn}{Q:ds->Fr->ab->Prop}{K:Fr->ab->Prop}{F:Fr}{H:ab}{aw:a_ x (mV K Q)}(ae:Fr->ab->Prop)(o:∀dW:Fr->ab->Prop,(∀aA H1,ae aA H1->dW aA H1)->gQ P x (FK dW) .mk F H)(aa:∀aA H1,ae aA H1->K aA H1):gQ P x (mV K Q) aw F H:=
 ej.mono (x:=x) (fun e aA H1 h=>by cases e with
  | normal=>exact aa _ _ h
  | exit id=>exact h.elim
  | ret=>exact h.elim) (o ae fun _ _ h=>h)
end
def cO(H:ab)(e:Nat)(v:Value)(l:List Nat):Prop:=ea H e 1 v l.length (l.map fun(n:Nat)=>Value.int .u32 (n:Int))/\∀x∈l,x<4294967296
theorem cO.ext{H H1:ab}{e:Nat}{v:Value}{l:List Nat}(h:cO H e v l)(I:Ext H H1):cO H1 e v l:=⟨h.1.ext I,h.2⟩
theorem cO.at{H:ab}{e:Nat}{v:Value}{l:List Nat}(h:cO H e v l)(aE:0<l.length):∃b i cap X all,v= .slice (some ⟨b,i,none⟩) l.length cap/\H[b]?=some X/\X.cells?=some all/\i+l.length<=all.length/\∀k,k<l.length->all[i+k]?=some (.int .u32 (l[k]?.getD 0:Nat)):=by
 obtain⟨b,i,cap,X,all,o,aa,aD,bD,b2⟩:=h.1.at aE
 refine⟨b,i,cap,X,all,o,aa,aD,by omega,fun k ah=>?_⟩
 rw[b2 k (by omega),List.getElem?_map,bt ah]
 simp[bt ah]
theorem cO.len{H:ab}{e:Nat}{v:Value}{l:List Nat}(h:cO H e v l):∃a cap,v= .slice a l.length cap:=h.1.len
theorem cO.lt{H:ab}{e:Nat}{v:Value}{l:List Nat}(h:cO H e v l)(k:Nat):l[k]?.getD 0<4294967296:=by
 by_cases ah:k<l.length
 ·rw[bt ah];exact h.2 _ (List.getElem_mem ah)
 ·rw[List.getElem?_eq_none (by omega)];decide
theorem MC(l:List Nat)(h:0<l.length):l.take (l.length-1)++[l[l.length-1]?.getD 0]=l:=by
 rw[bt (by omega),Option.getD_some,<-List.dropLast_eq_take,<-List.getLast_eq_getElem (by intro e;simp[e]at h),List.dropLast_concat_getLast]
def val:List Nat->Nat
 | []=>0
 | x::l=>x+4294967296*val l
theorem m0(a b:List Nat):val (a++b)=val a+4294967296^a.length*val b:=by
 induction a with
 | nil=>simp[val]
 | cons x a aW=>simp only[List.cons_append,val,aW,List.length_cons,Nat.pow_succ];grind
theorem Fk(k:Nat):val (List.replicate k 0)=0:=by
 induction k with
 | zero=>rfl
 | succ k aW=>simp[List.replicate_succ,val,aW]
theorem jH{l:List Nat}(h:∀x∈l,x<4294967296):val l<4294967296^l.length:=by
 induction l with
 | nil=>simp[val]
 | cons x l aW=>
  have o:=h x (by simp)
  have aa:=aW fun y aL=>h y (by simp[aL])
  simp only[val,List.length_cons,Nat.pow_succ]
  omega
def Trim(l:List Nat):Prop:=l.getLast?≠some 0
theorem Trim.nil:Trim []:=by simp[Trim]
theorem Trim.le{l:List Nat}(h:Trim l)(aE:l≠[]):4294967296^(l.length-1)<=val l:=by
 have e:l=l.take (l.length-1)++[l[l.length-1]?.getD 0]:=(MC l (List.length_pos_iff.2 aE)).symm
 have aH:l[l.length-1]?.getD 0≠0:=fun aH=>h (by
  rw[List.getLast?_eq_getElem?]
  rw[bt (by have:=List.length_pos_iff.2 aE;omega)]at aH⊢
  simpa using aH)
 have ar:(l.take (l.length-1)).length=l.length-1:=by simp
 have:val l=val (l.take (l.length-1))+4294967296^(l.length-1)*(l[l.length-1]?.getD 0):=by
  conv=>lhs;rw[e,m0,ar]
  simp[val]
 rw[this]
 have:4294967296^(l.length-1)*1<=4294967296^(l.length-1)*(l[l.length-1]?.getD 0):=Nat.mul_le_mul_left _ (by omega)
 omega
theorem Trim.zero{l:List Nat}(h:Trim l):val l=0↔l=[]:=by
 constructor
 ·intro aH
  by_cases aE:l=[]
  ·exact aE
  ·have:=h.le aE
   have:=Nat.pow_pos (n:=l.length-1) (show 0<4294967296 by decide)
   omega
 ·rintro rfl;rfl
theorem Trim.uv{a b:List Nat}(af:Trim b)(aF:∀x∈a,x<4294967296)(h:a.length<b.length):val a<val b:=by
 have o:=jH aF
 have aa:=af.le (by intro e;simp[e]at h)
 have:4294967296^a.length<=4294967296^(b.length-1):=Nat.pow_le_pow_right (by decide) (by omega)
 omega
theorem Trim.length_le{l:List Nat}(h:Trim l){n:Nat}(ao:val l<4294967296^n):l.length<=n:=by
 by_cases aE:l=[]
 ·simp[aE]
 ·have o:=h.le aE
  have:4294967296^(l.length-1)<4294967296^n:=by omega
  have:=(Nat.pow_lt_pow_iff_right (show 1<4294967296 by decide)).1 this
  omega
section
variable {P:Program} {r:List br} {F:Fr} {H:ab} {Q:Fr->ab->Prop}
theorem AD:∀(aB cs pre:List Value),cs.length=aB.length->nQ (pre++cs) pre.length aB=pre++aB
 | [],cs,pre,h=>by
  have:cs=[]:=List.eq_nil_of_length_eq_zero (by simpa using h)
  simp[nQ,this]
 | v::aB,[],pre,h=>by simp at h
 | v::aB,c::cs,pre,h=>by
  simp only[nQ]
  have o:(pre++c::cs).set pre.length v=(pre++[v])++cs:=by
   rw[List.set_append_right _ _ (Nat.le_refl _),Nat.sub_self]
   simp
  have aa:pre.length+1=(pre++[v]).length:=by simp
  rw[o,aa,AD aB cs (pre++[v]) (by simpa using h)]
  simp
theorem pG(z:Value)(n:Nat):(made z n).length=n:=by simp[made]
theorem Yk{en:Bool}{d1 d2 t bO cM e R bs k n:Nat}{s x:Operand}{z:Value}{cs:List Value}{aw:a_ ((⟨en,none,some d1,.buildSlice t 1 #[(0,x)]⟩:br)::ap d2 bO cM s (T d1)::r) Q}(cV:hN H k e R (aq F s) n cs)(fA:∀v,aq (aY F d1 v) s=aq F s)
  (bu:P.underlying t=some (.slice e))(hu:P.underlying bO=some (.slice e))(I:fJ P cM=true)(an:bm P e=some R)(af:bytes? P e=some bs)(aP:dw P e=some z)(dt:flat z=true)(cY:z.cells.size=R)(c0:0<R)(qH:R<=1000)
  (dH:0<bs)(bp:(n+1)*bs<=140737488355328)(ao:(aq F x).cells.toList.length=R)(gZ:((aq F x).cells.toList.all (·.oneCell'))=true)(ah:k<=H.length)
  (K:∀u av aC,hN aC k e R av (n+1) (cs++(aq F x).cells.toList)->(∀cx:ab,cx.length<=k->Ext cx H->Ext cx aC)->(∀b X,H[b]?=some X->(inBlock (aq F s) b->X.elem?≠some e)->aC[b]?=some X)->a8 P r Q .mk (aY (aY F d1 u) d2 av) aC):
  a8 P ((⟨en,none,some d1,.buildSlice t 1 #[(0,x)]⟩:br)::ap d2 bO cM s (T d1)::r) Q aw F H:=by
 have fm:(made z (1*R)).length=R:=by rw[pG,Nat.one_mul]
 have aM:iF (fun i=>some (i*R,R)) (made z (1*R)) [(0,aq F x)]=some (aq F x).cells.toList:=by
  simp only[iF]
  rw[if_pos ⟨ao,by rw[fm];omega⟩]
  have:=AD (aq F x).cells.toList (made z (1*R)) [] (by rw[fm,ao])
  simpa using this
 have ax:Instr.fill (fun i=>some (i*R,R)) (made z (1*R)).toArray ((#[(0,x)]:Array (Nat×Operand)).toList.map fun p=>(p.1,aq F p.2))=some (aq F x).cells:=by
  rw[fill_eq]
  simp only[List.map_cons,List.map_nil]
  rw[aM]
  simp
 have au:∀U:Oper,U.op= .buildSlice t 1 #[(0,x)]->eV P (aq F) H U (.slice (some ⟨H.length,0,none⟩) 1 1) (H++[.own e false (aq F x).cells.toList]):=fun U fe=> .build (out:=(aq F x).cells) fe bu an aP dt cY c0 (by omega) (by omega) ax (by have:=ao;simp at this;omega)
 refine iz rfl rfl rfl au (fun U aM=>by simp[bF,aM]) (.inr ((Ext.refl H).snoc _ _ _)) ?_
 show a8 P (ap d2 bO cM s (T d1)::r) Q .mk (aY F d1 _) _
 have cX:Src (H++[.own e false (aq F x).cells.toList]) R (.slice (some ⟨H.length,0,none⟩) 1 1) 1 1 (aq F x).cells.toList:=by
  have:=Src.row (H:=H++[.own e false (aq F x).cells.toList]) (R:=R) (b:=H.length) (i:=0) (n:=1) (m:=1) (c:=1) (x:= .own e false (aq F x).cells.toList) (cs:=(aq F x).cells.toList) (by simp) rfl (by omega) (Nat.le_refl _) (by omega)
  rw[List.drop_zero,Nat.one_mul,<-ao,List.take_length]at this
  rw[ao]at this
  exact this
 have n_:hN (H++[.own e false (aq F x).cells.toList]) k e R (aq (aY F d1 (.slice (some ⟨H.length,0,none⟩) 1 1)) s) n cs:=by
  rw[fA]
  exact cV.ext ((Ext.refl H).snoc _ _ _)
 refine E5 n_ (by simpa[aq,T,aY]using cX) hu I an af aP cY dH bp gZ (by omega) (by simp;omega) fun av aC o aa aD _ _=>?_
 refine K _ av aC o (fun cx aH cn=>aa cx aH (cn.snoc _ _ _)) (fun b X aS af=>aD b X ?_ (by rw[fA];exact af))
 rw[List.getElem?_append_left (cc.1 aS).1]
 exact aS
end
def cq(a6:Nat->Option bB)(H:ab):ab:=H.mapIdx fun b x=>(a6 b).getD x
def Fit(a6:Nat->Option bB)(H:ab):Prop:=∀b x,a6 b=some x->H[b]?=some .dead/\∃e l cs,x= .own e l cs
section
variable {a6:Nat->Option bB} {H:ab}
theorem jG(a6:Nat->Option bB)(H:ab):(cq a6 H).length=H.length:=by simp[cq]
theorem kv(a6:Nat->Option bB)(H:ab)(b:Nat):(cq a6 H)[b]?=(H[b]?).map fun x=>(a6 b).getD x:=by simp[cq]
theorem Fit.xt{X:bB}{b:Nat}(h:Fit a6 H)(aS:H[b]?=some X)(aJ:X≠ .dead):a6 b=none:=by
 cases aR:a6 b with
 | none=>rfl
 | some x=>have:=(h b x aR).1;rw[aS]at this;exact absurd (Option.some.inj this) aJ
theorem Fit.Wl{X:bB}{cs:List Value}{b:Nat}(h:Fit a6 H)(aS:H[b]?=some X)(ag:X.cells?=some cs):a6 b=none:=h.xt aS (by rintro rfl;simp[bB.cells?]at ag)
theorem Fit.Wm{X:bB}{e:TypeId}{b:Nat}(h:Fit a6 H)(aS:H[b]?=some X)(ag:X.elem?=some e):a6 b=none:=h.xt aS (by rintro rfl;simp[bB.elem?]at ag)
theorem Fit.uz{e:TypeId}{l:Bool}{cs:List Value}{b:Nat}(h:Fit a6 H)(aS:H[b]?=some (.own e l cs)):a6 b=none:=h.xt aS (by simp)
theorem Ak{b:Nat}(aR:a6 b=none):(cq a6 H)[b]?=H[b]?:=by rw[kv,aR];cases H[b]?<;>rfl
theorem Fit.get{X:bB}{b:Nat}(h:Fit a6 H)(aS:H[b]?=some X)(aJ:X≠ .dead):(cq a6 H)[b]?=some X:=by rw[Ak (h.xt aS aJ)];exact aS
theorem Fit.tn{X:bB}{cs:List Value}{b:Nat}(h:Fit a6 H)(aS:H[b]?=some X)(ag:X.cells?=some cs):(cq a6 H)[b]?=some X:=by rw[Ak (h.Wl aS ag)];exact aS
theorem Fit.lt{b:Nat}{x:bB}(h:Fit a6 H)(aR:a6 b=some x):b<H.length:=(cc.1 (h b x aR).1).1
theorem Fit.app(h:Fit a6 H)(N:ab):Fit a6 (H++N)/\cq a6 (H++N)=cq a6 H++N:=by
 refine⟨fun b x aR=>?_,?_⟩
 ·rw[List.getElem?_append_left (h.lt aR)];exact h b x aR
 ·apply List.ext_getElem?
  intro b
  rw[kv]
  by_cases af:b<H.length
  ·rw[List.getElem?_append_left af,List.getElem?_append_left (by rw[jG];exact af),kv]
  ·have aR:a6 b=none:=by
    cases aR:a6 b with
    | none=>rfl
    | some x=>exact absurd (h.lt aR) af
   rw[List.getElem?_append_right (by omega),List.getElem?_append_right (by rw[jG];omega),jG,aR]
   cases N[b-H.length]?<;>rfl
theorem Fit.set{b:Nat}(h:Fit a6 H)(aR:a6 b=none)(x:bB):Fit a6 (H.set b x)/\cq a6 (H.set b x)=(cq a6 H).set b x:=by
 refine⟨fun c y ag=>?_,?_⟩
 ·have:b≠c:=fun e=>by rw[e,ag]at aR;cases aR
  rw[List.getElem?_set_ne this];exact h c y ag
 ·apply List.ext_getElem?
  intro c
  rw[kv]
  by_cases CL:b=c
  ·subst CL
   rw[aR]
   by_cases ar:b<H.length
   ·rw[List.getElem?_set_self ar,List.getElem?_set_self (by rw[jG];exact ar)];rfl
   ·rw[List.getElem?_eq_none (by simp;omega),List.getElem?_eq_none (by simp[jG];omega)];rfl
  ·rw[List.getElem?_set_ne CL,List.getElem?_set_ne CL,kv]
theorem q7{R m n:Nat}{v:Value}{news:List Value}(ax:Fit a6 H)(h:Src H R v m n news):Src (cq a6 H) R v m n news:=by
 cases h with
 | u9=>exact .u9
 | row I ag aE hm bp=>exact .row (ax.tn I ag) ag aE hm bp
 | str o=>exact .str o
theorem BP{H1:ab}(ax:Fit a6 H)(h:Ext H H1):Ext (cq a6 H) (cq a6 H1):=by
 obtain⟨N,rfl,aE⟩:=h
 exact⟨N,(ax.app N).2,aE⟩
theorem Ll{P:Program}{aK:Operand->Value}{U:Oper}{v:Value}{H1:ab}(ax:Fit a6 H)(h:eV P aK H U v H1):eV P aK (cq a6 H) U v (cq a6 H1)/\Fit a6 H1:=by
 have ap:∀X:bB,Fit a6 (H++[X])/\cq a6 (H++[X])=cq a6 H++[X]:=fun X=>ax.app [X]
 have ar:=jG a6 H
 cases h with
 | sA an C0 ao h=>exact⟨.sA an C0 ao h,ax⟩
 | alloc h aP dt an=>refine⟨?_,(ap _).1⟩;rw[(ap _).2,<-ar];exact .alloc h aP dt an
 | box h an=>refine⟨?_,(ap _).1⟩;rw[(ap _).2,<-ar];exact .box h an
 | xh h aF I aS ag ao=>exact⟨.xh h aF I (ax.tn aS ag) ag ao,ax⟩
 | xi h aF an I aS ag bp=>exact⟨.xi h aF an I (ax.tn aS ag) ag bp,ax⟩
 | store h an I aS bp o=>obtain⟨aT,aQ⟩:=ax.set (ax.uz aS) (.own _ _ _);refine⟨?_,aT⟩;rw[aQ];exact .store h an I (ax.get aS (by simp)) bp o
 | slice h hu an I aS he ar ev o aa a5=>exact⟨.slice h hu an I (by rw[Ak (ax.Wm aS he)];exact aS) he ar ev o aa a5,ax⟩
 | xN h hu an I qs ar ev=>exact⟨.xN h hu an I qs ar ev,ax⟩
 | xO h hu an I ar ev=>exact⟨.xO h hu an I ar ev,ax⟩
 | AI h hu an I ar ev hm aD=>exact⟨.AI h hu an I ar ev hm aD,ax⟩
 | AH h hu an I ar ev hm=>exact⟨.AH h hu an I ar ev hm,ax⟩
 | make h hu an af aP dt cY I aL c0 dH lR ag bp=>refine⟨?_,(ap _).1⟩;rw[(ap _).2,<-ar];exact .make h hu an af aP dt cY I aL c0 dH lR ag bp
 | uw h hu an af I aL=>exact⟨.uw h hu an af I aL,ax⟩
 | build h hu an aP dt cY c0 dA bp RP r8=>refine⟨?_,(ap _).1⟩;rw[(ap _).2,<-ar];exact .build h hu an aP dt cY c0 dA bp RP r8
 | vt h hu an=>exact⟨.vt h hu an,ax⟩
 | vk h hu I an cX ao=>exact⟨.vk h hu I an (q7 ax cX) ao,ax⟩
 | vo h hu I an af aP cY cX aE dH bp aF ao=>refine⟨?_,(ap _).1⟩;rw[(ap _).2,<-ar];exact .vo h hu I an af aP cY (q7 ax cX) aE dH bp aF ao
 | vm h hu I an cX gG ag aS bp gZ ao=>obtain⟨aT,aQ⟩:=ax.set (ax.uz aS) (.own _ _ _);refine⟨?_,aT⟩;rw[aQ];exact .vm h hu I an (q7 ax cX) gG ag (ax.get aS (by simp)) bp gZ ao
 | vl h hu I an af aP cY cX aE dH bp aS g2 gG ag ao=>refine⟨?_,(ap _).1⟩;rw[(ap _).2,<-ar];exact .vl h hu I an af aP cY (q7 ax cX) aE dH bp (ax.get aS (by simp)) g2 gG ag ao
 | vn h hu I an af aP cY cX aE dH bp aS g2 gG ag gZ ao=>
  obtain⟨aT,aQ⟩:=ax.set (ax.uz aS) .dead
  obtain⟨bn,b8⟩:=aT.app [.own _ true _]
  refine⟨?_,bn⟩
  rw[b8,aQ,<-ar]
  exact .vn h hu I an af aP cY (q7 ax cX) aE dH bp (ax.get aS (by simp)) g2 gG ag gZ ao
 | copy h hu an cX aE j1 aS bp gZ ao=>obtain⟨aT,aQ⟩:=ax.set (ax.uz aS) (.own _ _ _);refine⟨?_,aT⟩;rw[aQ];exact .copy h hu an (q7 ax cX) aE j1 (ax.get aS (by simp)) bp gZ ao
 | vx h hu an cX aE ao=>exact⟨.vx h hu an (q7 ax cX) aE ao,ax⟩
 | str h an he aJ mG cX=>exact⟨.str h an he aJ mG (q7 ax cX),ax⟩
theorem Xm{P:Program}{t:List Value}{rs:List ResultVar}{aB:List Value}(ax:Fit a6 H)(h:lG P t H rs aB):lG P t (cq a6 H) rs aB:=by
 induction h with
 | nil=>exact .nil
 | tmp an aW=>exact .tmp aW
 | ys aF I aS ag ao an aW=>exact .ys aF I (ax.tn aS ag) ag ao aW
 | yt aF aE I aS ag bp an aW=>exact .yt aF aE I (ax.tn aS ag) ag bp aW
def oS.heap:oS->ab
 | .code _ _ H=>H
 | .op _ _ _ H=>H
 | .call _ _ H=>H
def Out.heap:Out->ab
 | .code _ _ H=>H
 | .val _ H=>H
def VE(a6:Nat->Option bB):oS->oS
 | .code c t H=> .code c t (cq a6 H)
 | .op ops U t H=> .op ops U t (cq a6 H)
 | .call f args H=> .call f args (cq a6 H)
def Wq(a6:Nat->Option bB):Out->Out
 | .code e t H=> .code e t (cq a6 H)
 | .val v H=> .val v (cq a6 H)
theorem VK{P:Program}{ops:Array Oper}{U:Oper}{t:List Value}{H1:ab}{v:Value}{g:Option (Nat×Option bB)}(ax:Fit a6 H)(h:nX P ops U t H v H1 g):nX P ops U t (cq a6 H) v (cq a6 H1) g/\Fit a6 H1:=by
 cases g with
 | none=>obtain⟨o,rfl⟩:=h;exact⟨⟨o,rfl⟩,ax⟩
 | some bs=>
  obtain⟨b,y⟩:=bs
  obtain⟨o,aa,aD,bD,b2,gE⟩:=h
  have aR:a6 b=none:=ax.xt (bt aD) (by rw[bt aD]at bD;exact fun e=>bD (by rw[e]))
  have he:=Ak (H:=H) aR
  cases y with
  | none=>
   simp only[l0]at b2
   subst b2
   exact⟨⟨o,aa,by rw[jG];exact aD,by rw[he];exact bD,rfl,fun aC rN=>gE aC (by rw[rN,he])⟩,ax⟩
  | some x=>
   simp only[l0]at b2
   subst b2
   obtain⟨aT,aQ⟩:=ax.set aR x
   exact⟨⟨o,aa,by rw[jG];exact aD,by rw[he];exact bD,aQ,fun aC rN=>gE aC (by rw[rN,he])⟩,aT⟩
theorem Xj{P:Program}{j:oS}{U:Out}(h:dK P j U):Fit a6 j.heap->dK P (VE a6 j) (Wq a6 U)/\Fit a6 U.heap:=by
 induction h with
 | skip=>exact fun ax=>⟨.skip,ax⟩
 | ret=>exact fun ax=>⟨.ret,ax⟩
 | exit=>exact fun ax=>⟨.exit,ax⟩
 | AB o aa kW pC=>exact fun ax=>let⟨eh,f1⟩:=kW ax;let⟨fZ,f2⟩:=pC f1;⟨.AB eh fZ,f2⟩
 | xI o he kW=>exact fun ax=>let⟨eh,f1⟩:=kW ax;⟨.xI eh he,f1⟩
 | cond ag ah h aW=>exact fun ax=>let⟨eh,f1⟩:=aW ax;⟨.cond ag ah eh,f1⟩
 | block h aW=>exact fun ax=>let⟨eh,f1⟩:=aW ax;⟨.block eh,f1⟩
 | z9 o aa kW pC=>exact fun ax=>let⟨eh,f1⟩:=kW ax;let⟨fZ,f2⟩:=pC f1;⟨.z9 eh fZ,f2⟩
 | xj o he kW=>exact fun ax=>let⟨eh,f1⟩:=kW ax;⟨.xj eh he,f1⟩
 | region T V aX ah h ba aJ aW=>
  rename_i id ops draw
  intro ax
  have nA:∀i,i<=ops.size->Fit a6 (aX i):=by
   intro i
   induction i with
   | zero=>exact fun _=>ax
   | succ i D1=>exact fun ad=>(aW i _ (Array.getElem?_eq_getElem (show i<ops.size by omega)) (D1 (by omega))).2
  have lt:∀{i:Nat} {U:Oper},ops[i]?=some U->i<=ops.size:=fun aM=>Nat.le_of_lt (Array.getElem?_eq_some_iff.1 aM).1
  exact⟨.region T V (fun i=>cq a6 (aX i)) ah (fun i U aM=>(aW i U aM (nA i (lt aM))).1) ba (fun tO=>⟨(aJ tO).1,fun i U aM a2=>((aJ tO).2 i U aM a2).imp (fun x=>x) fun he=>BP (nA i (lt aM)) he⟩),nA _ (Nat.le_refl _)⟩
 | Ax T V aX dV ah h ba ee ar aJ ue aW=>
  rename_i id ops draw
  intro ax
  have nA:∀i,i<=ops.size->Fit a6 (aX i):=by
   intro i
   induction i with
   | zero=>exact fun _=>ax
   | succ i D1=>exact fun ad=>(aW i _ (Array.getElem?_eq_getElem (show i<ops.size by omega)) (D1 (by omega))).2
  have lt:∀{i:Nat} {U:Oper},ops[i]?=some U->i<=ops.size:=fun aM=>Nat.le_of_lt (Array.getElem?_eq_some_iff.1 aM).1
  exact⟨.Ax T V (fun i=>cq a6 (aX i)) dV ah (fun i U aM=>(aW i U aM (nA i (lt aM))).1) ba ee (fun i U aM=>(VK (nA i (lt aM)) (ar i U aM)).1) aJ ue,nA _ (Nat.le_refl _)⟩
 | sC hw=>exact fun ax=>⟨.sC hw,ax⟩
 | uC hw a2 h=>exact fun ax=>⟨.uC hw a2 h,ax⟩
 | qV hw a2 h=>exact fun ax=>let⟨aT,aQ⟩:=Ll ax h;⟨.qV hw a2 aT,aQ⟩
 | uB hw a2 aM wy aV aE af h aW=>exact fun ax=>let⟨eh,f1⟩:=aW ax;⟨.uB hw a2 aM wy aV aE af eh,f1⟩
 | call wy af h he aj aW=>exact fun ax=>let⟨eh,f1⟩:=aW ax;⟨.call wy af eh he (Xm f1 aj),f1⟩
 | yq h aM aW=>
  intro ax
  obtain⟨eh,f1⟩:=aW ax
  obtain⟨e,l,cs,I⟩:=aM
  obtain⟨aT,aQ⟩:=f1.set (f1.uz I) .dead
  refine⟨?_,aT⟩
  show dK P _ (.val _ (cq a6 (List.set _ _ .dead)))
  simp only[Out.heap]at aQ
  rw[aQ]
  exact .yq eh ⟨e,l,cs,f1.get I (by simp)⟩
theorem aZ.oC{P:Program}{f:FuncId}{args:List Value}{Q:Value->ab->Prop}(ax:Fit a6 H)(h:aZ P f args H Q):aZ P f args (cq a6 H) fun v H1=>∃aC,H1=cq a6 aC/\Fit a6 aC/\Q v aC:=by
 obtain⟨v,H1,⟨ag,aj⟩ | ⟨aF,rfl⟩,au⟩:=h
 ·obtain⟨eh,f1⟩:=Xj aj (a6:=a6) ax
  exact⟨v,_,.inl ⟨ag,eh⟩,H1,rfl,f1,au⟩
 ·exact⟨v,_,.inr ⟨aF,rfl⟩,H1,rfl,ax,au⟩
theorem Of{b:Nat}{cs:List Value}(ax:Fit a6 H)(h:h_ H b=some cs):h_ (cq a6 H) b=some cs:=by
 obtain⟨X,aS,ag⟩:=yu h
 unfold h_
 rw[ax.tn aS ag]
 exact ag
theorem XP{P:Program}{aK:Operand->Value}{op:Op}{v:Value}{H1:ab}(ax:Fit a6 H)(h:bT P aK H op=some (v,H1)):bT P aK (cq a6 H) op=some (v,cq a6 H1)/\Fit a6 H1:=by
 cases op<;>simp only[bT]at h⊢<;>try (first | (simp at h;done) | (cases h;done))
 case move=>simp at h;obtain⟨rfl,rfl⟩:=h;exact⟨rfl,ax⟩
 case assign=>simp at h;obtain⟨rfl,rfl⟩:=h;exact⟨rfl,ax⟩
 case pick=>split at h<;>simp at h;obtain⟨rfl,rfl⟩:=h;exact⟨rfl,ax⟩
 case alloc=>
  split at h
  ·split at h
   ·rename_i ag
    simp at h;obtain⟨rfl,rfl⟩:=h
    rw[if_pos ag,jG,(ax.app _).2]
    exact⟨rfl,(ax.app _).1⟩
   ·cases h
  ·cases h
 case box=>
  split at h
  ·rename_i ag
   simp at h;obtain⟨rfl,rfl⟩:=h
   rw[if_pos ag,jG,(ax.app _).2]
   exact⟨rfl,(ax.app _).1⟩
  ·cases h
 case load ty x=>
  split at h
  ·rename_i b i I
   cases fX:h_ H b with
   | none=>rw[fX]at h;cases h
   | some cs=>
    rw[fX]at h
    rw[Of ax fX]
    revert h
    simp only
    cases da P ty with
    | none=>simp
    | some g=>
     cases g with
     | false=>simp only;cases cs[i]?<;>simp only[Option.map_none,Option.map_some,Option.some.injEq,Prod.mk.injEq,reduceCtorEq,false_implies,and_imp];try (rintro rfl rfl;exact⟨⟨rfl,rfl⟩,ax⟩)
     | true=>
      simp only
      cases bm P ty with
      | none=>simp
      | some n=>
       simp only
       split
       ·simp only[Option.map_none,Option.map_some,Option.some.injEq,Prod.mk.injEq,reduceCtorEq,false_implies,and_imp];try (rintro rfl rfl;exact⟨⟨rfl,rfl⟩,ax⟩)
       ·simp
  ·cases h
 case store ty x y=>
  split at h
  ·rename_i b i I
   split at h
   ·rename_i e l cs aS
    split at h
    ·rename_i ag
     simp at h;obtain⟨rfl,rfl⟩:=h
     obtain⟨aT,aQ⟩:=ax.set (ax.uz aS) (.own e l (c3 cs i (aK y).cells.toList))
     rw[ax.get aS (by simp)]
     simp only
     rw[if_pos ag,aQ]
     exact⟨rfl,aT⟩
    ·cases h
   ·cases h
  ·cases h
 case nilCheck=>split at h<;>simp at h;obtain⟨rfl,rfl⟩:=h;exact⟨rfl,ax⟩
 case binOp=>obtain⟨u,hu,he⟩:=Option.map_eq_some_iff.1 h;simp at he;obtain⟨rfl,rfl⟩:=he;rw[hu];exact⟨rfl,ax⟩
 case unOp=>obtain⟨u,hu,he⟩:=Option.map_eq_some_iff.1 h;simp at he;obtain⟨rfl,rfl⟩:=he;rw[hu];exact⟨rfl,ax⟩
 case convert=>
  split at h
  ·split at h<;>simp at h;obtain⟨rfl,rfl⟩:=h;exact⟨rfl,ax⟩
  ·split at h
   ·rename_i ag;simp at h;obtain⟨rfl,rfl⟩:=h;rw[if_pos ag];exact⟨rfl,ax⟩
   ·cases h
  ·cases h
 case makeInterface=>
  split at h
  ·rename_i ag;simp at h;obtain⟨rfl,rfl⟩:=h;rw[if_pos ag];exact⟨rfl,ax⟩
  ·cases h
 case makeFunc=>simp at h;obtain⟨rfl,rfl⟩:=h;exact⟨rfl,ax⟩
 case fieldAddr=>
  split at h
  ·obtain⟨u,hu,he⟩:=Option.map_eq_some_iff.1 h;simp at he;obtain⟨rfl,rfl⟩:=he;rw[hu];exact⟨rfl,ax⟩
  ·cases h
 case field=>
  split at h
  ·split at h
   ·obtain⟨u,hu,he⟩:=Option.map_eq_some_iff.1 h;simp at he;obtain⟨rfl,rfl⟩:=he;simp only[hu];exact⟨rfl,ax⟩
   ·cases h
  ·cases h
 case indexAddr=>
  split at h
  ·split at h
   ·split at h
    ·split at h
     ·rename_i ag;simp at h;obtain⟨rfl,rfl⟩:=h;rw[if_pos ag];exact⟨rfl,ax⟩
     ·cases h
    ·cases h
   ·cases h
  ·cases h
 case index=>
  split at h
  ·split at h
   ·rename_i ag;simp only[Option.some.injEq,Prod.mk.injEq]at h;obtain⟨rfl,rfl⟩:=h;rw[if_pos ag];exact⟨rfl,ax⟩
   ·cases h
  ·cases h
 case extract=>
  split at h
  ·obtain⟨u,hu,he⟩:=Option.map_eq_some_iff.1 h;simp at he;obtain⟨rfl,rfl⟩:=he;rw[hu];exact⟨rfl,ax⟩
  ·cases h
 case build=>
  split at h
  ·split at h
   ·rename_i ag;obtain⟨u,hu,he⟩:=Option.map_eq_some_iff.1 h;simp at he;obtain⟨rfl,rfl⟩:=he;rw[if_pos ag,hu];exact⟨rfl,ax⟩
   ·cases h
  ·cases h
 case call c=>
  unfold q5 at h⊢
  split at h
  ·split at h
   ·split at h
    ·simp at h;obtain⟨rfl,rfl⟩:=h;exact⟨rfl,ax⟩
    ·cases h
   ·split at h
    ·rename_i ag;simp at h;obtain⟨rfl,rfl⟩:=h;rw[if_pos ag];exact⟨rfl,ax⟩
    ·cases h
   ·cases h
  ·split at h<;>simp at h;obtain⟨rfl,rfl⟩:=h;exact⟨rfl,ax⟩
  ·split at h<;>simp at h;obtain⟨rfl,rfl⟩:=h;exact⟨rfl,ax⟩
  ·cases h
 case slice ty x bX ad e4=>
  cases e4 with
  | some m=>simp at h
  | none=>
   simp only at h⊢
   split at h
   ·split at h
    ·split at h
     ·rename_i ag;simp at h;obtain⟨rfl,rfl⟩:=h;rw[if_pos ag];exact⟨rfl,ax⟩
     ·cases h
    ·cases h
   ·cases h
theorem XO{P:Program}{aK:Operand->Value}{op:Op}(H aC:ab)(hm:iO op=true)(h:bT P aK H op=none):bT P aK aC op=none:=by
 cases an:bT P aK aC op with
 | none=>rfl
 | some p=>
  obtain⟨v,H1⟩:=p
  cases op<;>simp[iO]at hm<;>simp only[bT]at h an<;>try (first | (simp at an;done) | (cases an;done))
  case convert src dst x=>
   cases I:aK x with
   | int k n=>rw[I]at h an;simp only at h an;revert h an;cases jB P src<;>cases jB P dst<;>simp
   | string t=>rw[I]at h an;simp only at h an;revert h an;split<;>simp
   | _=>rw[I]at an;simp at an
  case call c=>
   obtain⟨callee,args,kI⟩:=c
   unfold q5 at h an
   cases callee with
   | builtin b=>cases b<;>simp at hm<;>simp at an
   | _=>simp at hm
  case slice ty x bX ad e4=>
   cases e4 with
   | some m=>simp at an
   | none=>
    simp only at h an
    split at an
    ·split at an
     ·split at an<;>simp_all
     ·cases an
    ·cases an
theorem fV.oC{P:Program}{b:Bool}{F:Fr}{K:Value->ab->Prop}{op:Op}(ax:Fit a6 H)(h:fV P b F H K op):fV P b F (cq a6 H) (fun v H1=>∃aC,H1=cq a6 aC/\Fit a6 aC/\K v aC) op:=by
 have main:(match bT P (aq F) H op with
   | some (v,H1)=>(hx op=true->b=true)/\K v H1
   | none=>iO op=true/\∃v H1,na P (aq F) H op v H1/\(b=true\/Ext H H1)/\K v H1)->(match bT P (aq F) (cq a6 H) op with
   | some (v,H1)=>(hx op=true->b=true)/\∃aC,H1=cq a6 aC/\Fit a6 aC/\K v aC
   | none=>iO op=true/\∃v H1,na P (aq F) (cq a6 H) op v H1/\(b=true\/Ext (cq a6 H) H1)/\∃aC,H1=cq a6 aC/\Fit a6 aC/\K v aC):=by
  cases an:bT P (aq F) H op with
  | some p=>
   obtain⟨v,H1⟩:=p
   obtain⟨aT,aQ⟩:=XP ax an
   rw[aT]
   exact fun h=>⟨h.1,H1,rfl,aQ,h.2⟩
  | none=>
   intro⟨o,v,H1,aa,aD,bD⟩
   rw[XO H _ o an]
   have hm:=fun U aM=>Ll ax (aa U aM).2
   have aH:=hm ⟨none,op,default,default, #[],none⟩ rfl
   exact⟨o,v,cq a6 H1,fun U aM=>⟨(aa U aM).1,(hm U aM).1⟩,aD.imp (fun x=>x) fun he=>BP ax he,H1,rfl,aH.2,bD⟩
 cases op<;>try exact main h
 rename_i c
 obtain⟨callee,args,kI⟩:=c
 cases callee with
 | value f=>
  simp only[fV]at h⊢
  split at h
  ·rename_i g first cap zb
   exact(aZ.oC ax h).mono fun v H1 ⟨aC,e,o,aa⟩=>⟨aa.1.imp (fun x=>x) fun he=>by rw[e];exact BP ax he,aC,e,o,aa.2⟩
  ·exact h.elim
 | invoke r m=>exact main h
 | builtin b=>exact main h
theorem bd.oC{P:Program}:∀{l:List br} {F:Fr} {H:ab} {Q:Fr->ab->Prop},Fit a6 H->bd P l F H Q->bd P l F (cq a6 H) fun aA H1=>∃aC,H1=cq a6 aC/\Fit a6 aC/\Q aA aC
 | [],F,H,Q,ax,h=>⟨H,rfl,ax,h⟩
 | x::rest,F,H,Q,ax,h=>by
  simp only[bd]at h⊢
  split
  ·rename_i aV
   rw[aV]at h
   exact fV.mono (fun v H1 ⟨aC,e,o,aa⟩=>by rw[e];exact bd.oC o aa) (fV.oC ax h)
  ·rename_i j w aV
   rw[aV]at h
   simp only at h
   split
   ·rename_i af
    rw[if_pos af]at h
    exact fV.mono (fun v H1 ⟨aC,e,o,aa⟩=>by rw[e];exact bd.oC o aa) (fV.oC ax h)
   ·rename_i af
    rw[if_neg af]at h
    exact bd.oC ax h
end
end Go.b_
end
