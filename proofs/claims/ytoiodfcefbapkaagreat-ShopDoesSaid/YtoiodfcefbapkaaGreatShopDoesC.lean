/- Part of the proof of ShopDoes. -/
import Derived.Test.YtoiodfcefbapkaaGreatShopDoesB
set_option linter.unusedVariables false
set_option linter.unusedSimpArgs false
section
namespace Go.dq
structure bG where
 b:Bool
 g:Option (Nat×Bool)
 d:Option Nat
 op:Op
inductive gR where
 | skip
 | ret
 | exit (id:Nat)
 | seq (x y:gR)
 | cond (c:Operand) (x y:gR)
 | block (id:Nat) (x:gR)
 | loop (x:gR)
 | ops (l:List bG)
 | opsL (l:List bG)
structure fB where
 code:gR
 results:List ResultVar
def h5:Op->Op
 | .call {callee:= .value f,args,.. }=> .call {callee:= .value f,args,argTypes:= #[]}
 | .binOp op t x y _=> .binOp op t x y 0
 | .unOp op _ x=> .unOp op 0 x
 | op=>op
def nG(P:Program):Op->Bool
 | .move _ | .assign _ | .pick .. | .alloc _ | .box .. | .load .. | .nilCheck _ | .binOp .. | .unOp .. | .makeInterface .. | .makeFunc .. | .fieldAddr .. | .field .. | .indexAddr .. | .index .. | .extract .. | .build .. =>false
 | .call {callee:= .builtin .len,.. } | .call {callee:= .builtin .max,.. } | .call {callee:= .builtin .min,.. }=>false
 | .convert s t _=> !(r4 P s&&r4 P t)
 | _=>true
def Sx(n:Nat):Option Tmp->Bool
 | some d=>decide (d<n)
 | none=>true
def wZ(P:Program)(n:Nat)(ops:Array Oper)(draw:Bool)(U:Oper)(k:Nat):Option bG:=
 if Sx n U.dst=true then
  match U.guard with
  | none=>some ⟨!draw || !nG P U.op || eO P ops k,none,U.dst,h5 U.op⟩
  | some (j,w)=>match(ops[j]?).bind (·.dst)with
   | some d=>some ⟨!draw || !nG P U.op || eO P ops k,some (d,w),U.dst,h5 U.op⟩
   | none=>none
 else none
def n5(P:Program)(n:Nat)(ops:Array Oper)(draw:Bool):List Oper->Nat->Option (List bG)
 | [],_=>some []
 | U::rest,k=>match wZ P n ops draw U k,n5 P n ops draw rest (k+1)with
  | some x,some xs=>some (x::xs)
  | _,_=>none
def UL(P:Program)(ops:Array Oper):Bool:=ops.toList.zipIdx.any fun qM=>h3 qM.1.op&& !eO P ops qM.2
def hY(P:Program)(n:Nat):Code->Option gR
 | .skip=>some .skip
 | .ret=>some .ret
 | .exit id=>some (.exit id)
 | .seq a b=>match hY P n a,hY P n b with
  | some x,some y=>some (.seq x y)
  | _,_=>none
 | .cond c a b=>if nH c=true then(match hY P n a,hY P n b with
  | some x,some y=>some (.cond c x y)
  | _,_=>none)else none
 | .block id a=>(hY P n a).map (.block id)
 | .loop a=>(hY P n a).map .loop
 | .region id ops draw=>if draw&&UL P ops then(if z7 ops&&(gX ops&&F7 P ops)then(n5 P n ops true ops.toList 0).map .opsL else none)
  else if z7 ops&&(!draw || gX ops)then(n5 P n ops draw ops.toList 0).map .ops else none
 | _=>none
def comp(P:Program)(fn:Func):Option fB:=match fn.body with
 | some c=>(hY P fn.ntmps c).map fun x=>⟨x,fn.results.toList⟩
 | none=>none
abbrev Fr:=Nat->Value
def a2(F:Fr)(d:Nat)(v:Value):Fr:=fun i=>if i=d then v else F i
theorem jG(F:Fr)(d:Nat)(v:Value):a2 F d v d=v:=by simp[a2]
theorem iP(F:Fr){d i:Nat}(v:Value)(h:i≠d):a2 F d v i=F i:=by simp[a2,h]
def jK(args:List Value):Fr:=fun i=>args.getD i undef
def aq(F:Fr):Operand->Value
 | .tmp i=>F i
 | .const v=>v
 | .global g=> .pointer (some ⟨0,g,some 0⟩)
 | .func f=> .func (.func f) #[] #[]
def ga(F:Fr)(d:Option Nat)(v:Value):Fr:=match d with
 | some d=>a2 F d v
 | none=>F
theorem zc(t:List Value):fo t=aq (gt t):=by funext x;cases x<;>rfl
theorem K3(t:List Value)(d:Option Tmp)(v:Value)(h:∀e,d=some e->e<t.length):gt (fj t d v)=ga (gt t) d v:=by
 cases d with
 | none=>rfl
 | some e=>
  funext i
  simp only[fj,ga,a2,Tn]
  by_cases af:i=e
  ·subst af;simp[h i rfl]
  ·rw[if_neg (Ne.symm af),if_neg af]
theorem Pw(t:List Value)(d:Option Tmp)(v:Value):(fj t d v).length=t.length:=by cases d<;>simp[fj]
def n1(P:Program)(aP:Operand->Value)(H:ab)(op:Op)(v:Value)(H1:ab):Prop:=∀U:Oper,U.op=op->bW P U=false/\fm P aP H U v H1
def jE:Op->Bool
 | .slice .. | .makeSlice .. | .buildSlice .. | .convert .. | .call {callee:= .builtin .append,.. } | .call {callee:= .builtin .copy,.. }=>true
 | _=>false
def gx(P:Program)(b:Bool)(F:Fr)(H:ab)(K:Value->ab->Prop):Op->Prop
 | .call {callee:= .value f,args,.. }=>(match aq F f with
  | .func (.func g) first cap=>aO P g (first.toList++args.toList.map (aq F)++cap.toList) H fun v H1=>(b=true\/Ext H H1)/\K v H1
  | _=>False)
 | op=>(match cb P (aq F) H op with
  | some (v,H1)=>(h3 op=true->b=true)/\K v H1
  | none=>jE op=true/\∃v H1,n1 P (aq F) H op v H1/\(b=true\/Ext H H1)/\K v H1)
def bn(P:Program):List bG->Fr->ab->(Fr->ab->Prop)->Prop
 | [],F,H,Q=>Q F H
 | x::rest,F,H,Q=>match x.g with
  | none=>gx P x.b F H (fun v H1=>bn P rest (ga F x.d v) H1 Q) x.op
  | some (j,w)=>if hG (F j)=some w then gx P x.b F H (fun v H1=>bn P rest (ga F x.d v) H1 Q) x.op else bn P rest (ga F x.d undef) H Q
def fL(P:Program):List bG->Fr->ab->List Nat->List Nat->(Fr->ab->Prop)->Prop
 | [],F,H,_,_,Q=>Q F H
 | x::rest,F,H,ad,W,Q=>match x.g with
  | none=>gZ P x.b (aq F) H ad W (fun v H1 ft fS=>fL P rest (ga F x.d v) H1 ft fS Q) x.op
  | some (j,w)=>if hG (F j)=some w then gZ P x.b (aq F) H ad W (fun v H1 ft fS=>fL P rest (ga F x.d v) H1 ft fS Q) x.op else fL P rest (ga F x.d undef) H ad W Q
def nM(K:Fr->ab->Prop)(Q:dP->Fr->ab->Prop):dP->Fr->ab->Prop
 | .normal,F,H=>K F H
 | e,F,H=>Q e F H
def p5(id:Nat)(Q:dP->Fr->ab->Prop):dP->Fr->ab->Prop
 | .exit h2,F,H=>if h2=id then Q .normal F H else Q (.exit h2) F H
 | e,F,H=>Q e F H
inductive q9 (body:Fr->ab->(dP->Fr->ab->Prop)->Prop) (Q:dP->Fr->ab->Prop):Fr->ab->Prop
 | round {F:Fr} {H:ab} (ai:Fr->ab->Prop) (h:body F H (nM ai Q)) (dj:∀az H1,ai az H1->q9 body Q az H1):q9 body Q F H
def eL(P:Program):gR->Fr->ab->(dP->Fr->ab->Prop)->Prop
 | .skip,F,H,Q=>Q .normal F H
 | .ret,F,H,Q=>Q .ret F H
 | .exit id,F,H,Q=>Q (.exit id) F H
 | .seq x y,F,H,Q=>eL P x F H (nM (fun az H1=>eL P y az H1 Q) Q)
 | .cond c x y,F,H,Q=>(match aq F c with
  | .bool b=>if b=true then eL P x F H Q else eL P y F H Q
  | _=>False)
 | .block id x,F,H,Q=>eL P x F H (p5 id Q)
 | .loop x,F,H,Q=>q9 (eL P x) Q F H
 | .ops l,F,H,Q=>bn P l F H (fun az H1=>Q .normal az H1)
 | .opsL l,F,H,Q=>fL P l F H [] [] (fun az H1=>Q .normal az H1)
def ku(P:Program)(F:Fr)(H:ab):List ResultVar->(List Value->Prop)->Prop
 | [],K=>K []
 | .tmp i::rs,K=>ku P F H rs fun aG=>K (F i::aG)
 | .cell a ty::rs,K=>(match F a with
  | .pointer (some ⟨b,i,none⟩)=>(match iU H b with
   | some cs=>(match dr P ty with
    | some false=>(match cs[i]? with
     | some v=>ku P F H rs fun aG=>K (v::aG)
     | none=>False)
    | some true=>(match bA P ty with
     | some n=>i+n<=cs.length/\ku P F H rs fun aG=>K (.agg ((cs.drop i).take n).toArray::aG)
     | none=>False)
    | none=>False)
   | none=>False)
  | _=>False)
def qS(P:Program)(rs:List ResultVar)(Q:Value->ab->Prop):dP->Fr->ab->Prop
 | .normal,F,H=>ku P F H rs fun aG=>Q (bd aG) H
 | .ret,F,H=>ku P F H rs fun aG=>Q (bd aG) H
 | .exit _,_,_=>False
section
variable {P:Program}
theorem Pv(aP:Operand->Value)(H:ab)(op:Op):cb P aP H (h5 op)=cb P aP H op:=by
 cases op<;>try rfl
 rename_i c
 obtain⟨callee,args,ld⟩:=c
 cases callee<;>rfl
theorem aad{aP:Operand->Value}{H H1:ab}{U:Oper}{v:Value}(h:fm P aP H U v H1)(aJ:nG P U.op=false):Ext H H1:=by
 have one:∀{e:TypeId} {l:Bool} {cs:List Value},Ext H (H++[.own e l cs]):=fun{e l cs}=>⟨[.own e l cs],rfl,fun x J c5 eN=>by simp at J;subst J;simp⟩
 cases h with
 | tU=>exact Ext.refl H
 | alloc=>exact one
 | box=>exact one
 | yP=>exact Ext.refl H
 | yQ=>exact Ext.refl H
 | store h=>rw[h]at aJ;cases aJ
 | slice h=>exact Ext.refl H
 | zg=>exact Ext.refl H
 | zh=>exact Ext.refl H
 | Cs=>exact Ext.refl H
 | Cr=>exact Ext.refl H
 | make=>exact one
 | vX=>exact Ext.refl H
 | build=>exact one
 | wW=>exact Ext.refl H
 | wO=>exact Ext.refl H
 | wS=>exact one
 | wQ h=>rw[h]at aJ;cases aJ
 | wP=>exact one
 | wR h=>rw[h]at aJ;cases aJ
 | copy h=>rw[h]at aJ;cases aJ
 | w0=>exact Ext.refl H
 | str=>exact Ext.refl H
theorem OH{ops:Array Oper}{draw:Bool}{k:Nat}{U:Oper}{t:List Value}{H:ab}{K:List Value->ab->Prop}{er:Value->ab->Prop}(aV:∀v H1,er v H1->K (fj t U.dst v) H1)
  (h:gx P (!draw || !nG P U.op || eO P ops k) (gt t) H er (h5 U.op)):wI P ops draw k U t H K U.op:=by
 have zV:nG P U.op=true->(!draw || !nG P U.op || eO P ops k)=true->draw=true->eO P ops k=true:=fun o aa aA=>by simpa[o,aA]using aa
 have fin:(nG P U.op=true\/h3 U.op=false)->h3 (h5 U.op)=h3 U.op->(h5 U.op=U.op\/bW P U=true)->(bW P U=true->∀kF:Oper,kF.op=h5 U.op->bW P kF=true)->(match cb P (aq (gt t)) H (h5 U.op)with
   | some (v,H1)=>(h3 (h5 U.op)=true->(!draw || !nG P U.op || eO P ops k)=true)/\er v H1
   | none=>jE (h5 U.op)=true/\∃v H1,n1 P (aq (gt t)) H (h5 U.op) v H1/\((!draw || !nG P U.op || eO P ops k)=true\/Ext H H1)/\er v H1)->
   (match cb P (fo t) H U.op with
   | some (v,H1)=>CX P ops draw k (h3 U.op)/\K (fj t U.dst v) H1
   | none=>∃v H1,bW P U=false/\fm P (fo t) H U v H1/\zD P ops draw k H H1/\K (fj t U.dst v) H1):=by
  intro dc Bc gh a_ ao
  rw[Pv]at ao
  rw[zc]
  split at ao
  ·rename_i v H1 an
   refine⟨fun o aa=>?_,aV _ _ ao.2⟩
   rcases dc with dc | dc
   ·exact zV dc (ao.1 (by rw[Bc];exact aa)) o
   ·rw[dc]at aa;cases aa
  ·obtain⟨-,v,H1,hm,he,D7⟩:=ao
   rcases gh with gh | gh
   ·obtain⟨a0,a4⟩:=hm U gh.symm
    refine⟨v,H1,a0,a4,fun o=>?_,aV _ _ D7⟩
    cases Bb:nG P U.op with
    | false=>exact .inr (aad a4 Bb)
    | true=>
     rcases he with he | he
     ·exact .inl (zV Bb he o)
     ·exact .inr he
   ·have a0:=(hm ⟨U.dst,h5 U.op,U.type,U.pos,U.after,U.guard⟩ rfl).1
    rw[a_ gh _ rfl]at a0
    cases a0
 cases cd:U.op<;>rw[cd]at h fin zV<;>try (exact fin (by simp[nG,h3]) rfl (.inl rfl) (fun aB kF fF=>by first | (simp only[bW,cd,fF,h5]at aB⊢;exact aB) | (simp[bW,cd]at aB;try (simp[bW,fF,h5]))) h;done)
 case binOp op ty x y pS=>exact fin (.inr rfl) rfl (.inr (by simp[bW,cd])) (fun _ kF fF=>by simp[bW,fF,h5]) h
 case unOp op ty x=>exact fin (.inr rfl) rfl (.inr (by simp[bW,cd])) (fun _ kF fF=>by simp[bW,fF,h5]) h
 case call c=>
  obtain⟨callee,args,ld⟩:=c
  cases callee with
  | value f=>
   simp only[h5,gx]at h
   simp only[wI,zc]
   split at h
   ·rename_i g first cap aB
    rw[aB]
    refine h.mono fun v H1 cO=>⟨fun o=>?_,aV _ _ cO.2⟩
    rcases cO.1 with he | he
    ·exact .inl (zV rfl he o)
    ·exact .inr he
   ·exact h.elim
  | invoke r m=>exact fin (.inl rfl) rfl (.inl rfl) (fun aB=>by simp[bW,cd]at aB) h
  | builtin bi=>exact fin (.inr rfl) rfl (.inl rfl) (fun aB kF fF=>by simp only[bW,cd,fF,h5]at aB⊢;exact aB) h
theorem OF{n:Nat}{ops:Array Oper}{draw:Bool}:∀(rest:List Oper) (k:Nat) (xs:List bG) (t:List Value) (H:ab) (Q:List Value->ab->Prop) (cl:Fr->ab->Prop),n5 P n ops draw rest k=some xs->t.length=n->
  (∀t1 H1,t1.length=n->cl (gt t1) H1->Q t1 H1)->bn P xs (gt t) H cl->o5 P ops draw k rest t H Q
 | [],k,xs,t,H,Q,cl,ae,ar,aC,h=>by
  simp only[n5,Option.some.injEq]at ae
  subst ae
  exact aC t H ar h
 | U::rest,k,xs,t,H,Q,cl,ae,ar,aC,h=>by
  simp only[n5]at ae
  cases J:wZ P n ops draw U k with
  | none=>simp[J]at ae
  | some x=>
   cases nE:n5 P n ops draw rest (k+1)with
   | none=>simp[J,nE]at ae
   | some bS=>
    simp only[J,nE,Option.some.injEq]at ae
    subst ae
    unfold wZ at J
    split at J
    ·rename_i aD
     have xM:∀e,U.dst=some e->e<t.length:=fun e he=>by
      rw[he]at aD
      rw[ar]
      exact of_decide_eq_true aD
     have t_:∀v H1,bn P bS (ga (gt t) U.dst v) H1 cl->o5 P ops draw (k+1) rest (fj t U.dst v) H1 Q:=fun v H1 o=>
      OF rest (k+1) bS _ H1 Q cl nE (by rw[Pw];exact ar) aC (by rw[K3 t U.dst v xM];exact o)
     simp only[o5]
     cases aX:U.guard with
     | none=>
      rw[aX]at J
      obtain rfl:=Option.some.inj J
      have hw:Region.wanted U (g_ ops t)=true:=by simp[Region.wanted,aX]
      rw[if_pos hw]
      exact OH t_ h
     | some qH=>
      obtain⟨j,w⟩:=qH
      rw[aX]at J
      simp only at J
      cases l8:(ops[j]?).bind (·.dst)with
      | none=>rw[l8]at J;cases J
      | some d=>
       rw[l8]at J
       obtain rfl:=Option.some.inj J
       have hw:Region.wanted U (g_ ops t)=(hG (gt t d)==some w):=by
        simp only[Region.wanted,aX,PC,l8]
       rw[hw]
       simp only[bn]at h
       by_cases ag:hG (gt t d)=some w
       ·rw[if_pos ag]at h
        rw[if_pos (by simpa using ag)]
        exact OH t_ h
       ·rw[if_neg ag]at h
        rw[if_neg (by simpa using ag)]
        exact t_ _ _ h
    ·cases J
theorem Oa(b:Bool)(aP:Operand->Value)(H:ab)(ad W:List Nat)(K:Value->ab->List Nat->List Nat->Prop)(op:Op)(h:gZ P b aP H ad W K (h5 op)):gZ P b aP H ad W K op:=by
 have e:=Pv (P:=P) aP H op
 cases op with
 | call c=>
  obtain⟨callee,args,ld⟩:=c
  cases callee<;>exact h
 | binOp op ty x y pS=>
  simp only[h5,gZ]at h⊢
  simp only[h5]at e
  rw[<-e];exact h
 | unOp op ty x=>
  simp only[h5,gZ]at h⊢
  simp only[h5]at e
  rw[<-e];exact h
 | _=>exact h
theorem gZ.mono{b:Bool}{aP:Operand->Value}{H:ab}{ad W:List Nat}{K er:Value->ab->List Nat->List Nat->Prop}(ak:∀v H1 ft fS,K v H1 ft fS->er v H1 ft fS){op:Op}(h:gZ P b aP H ad W K op):gZ P b aP H ad W er op:=by
 cases op with
 | load ty x=>
  simp only[gZ]at h⊢
  split at h
  ·refine⟨h.1,?_⟩
   have aa:=h.2
   split at aa
   ·exact ak _ _ _ _ aa
   ·exact aa
  ·exact h
 | store ty x y=>
  simp only[gZ]at h⊢
  split at h
  ·refine⟨h.1,?_⟩
   have aa:=h.2
   split at aa
   ·exact ak _ _ _ _ aa
   ·exact aa
  ·exact h
 | _=>
  simp only[gZ]at h⊢
  split at h
  ·exact ak _ _ _ _ h
  ·exact h.elim
theorem N_{b:Bool}{aP:Operand->Value}{H:ab}{ad W:List Nat}{K:Value->ab->List Nat->List Nat->Prop}{op:Op}(h:gZ P (!true || !nG P op || b) aP H ad W K (h5 op)):gZ P b aP H ad W K (h5 op):=by
 cases op with
 | store t x y=>exact h
 | call c=>obtain⟨callee,args,ld⟩:=c;cases callee<;>exact h
 | _=>exact h
theorem OB{n:Nat}{ops:Array Oper}:∀(rest:List Oper) (k:Nat) (xs:List bG) (t:List Value) (H:ab) (ad W:List Nat) (Q:List Value->ab->Prop) (cl:Fr->ab->Prop),n5 P n ops true rest k=some xs->t.length=n->
  (∀t1 H1,t1.length=n->cl (gt t1) H1->Q t1 H1)->fL P xs (gt t) H ad W cl->o4 P ops k rest t H ad W Q
 | [],k,xs,t,H,ad,W,Q,cl,ae,ar,aC,h=>by
  simp only[n5,Option.some.injEq]at ae
  subst ae
  exact aC t H ar h
 | U::rest,k,xs,t,H,ad,W,Q,cl,ae,ar,aC,h=>by
  simp only[n5]at ae
  cases J:wZ P n ops true U k with
  | none=>simp[J]at ae
  | some x=>
   cases nE:n5 P n ops true rest (k+1)with
   | none=>simp[J,nE]at ae
   | some bS=>
    simp only[J,nE,Option.some.injEq]at ae
    subst ae
    unfold wZ at J
    split at J
    ·rename_i aD
     have xM:∀e,U.dst=some e->e<t.length:=fun e he=>by
      rw[he]at aD
      rw[ar]
      exact of_decide_eq_true aD
     have t_:∀v H1 ft fS,fL P bS (ga (gt t) U.dst v) H1 ft fS cl->o4 P ops (k+1) rest (fj t U.dst v) H1 ft fS Q:=fun v H1 ft fS o=>
      OB rest (k+1) bS _ H1 ft fS Q cl nE (by rw[Pw];exact ar) aC (by rw[K3 t U.dst v xM];exact o)
     simp only[o4]
     cases aX:U.guard with
     | none=>
      rw[aX]at J
      obtain rfl:=Option.some.inj J
      have hw:Region.wanted U (g_ ops t)=true:=by simp[Region.wanted,aX]
      rw[if_pos hw]
      simp only[fL]at h
      rw[zc]
      exact gZ.mono (fun v H1 ft fS=>t_ v H1 ft fS) (Oa _ _ _ _ _ _ _ (N_ h))
     | some qH=>
      obtain⟨j,w⟩:=qH
      rw[aX]at J
      simp only at J
      cases l8:(ops[j]?).bind (·.dst)with
      | none=>rw[l8]at J;cases J
      | some d=>
       rw[l8]at J
       obtain rfl:=Option.some.inj J
       have hw:Region.wanted U (g_ ops t)=(hG (gt t d)==some w):=by
        simp only[Region.wanted,aX,PC,l8]
       rw[hw]
       simp only[fL]at h
       by_cases ag:hG (gt t d)=some w
       ·rw[if_pos ag]at h
        rw[if_pos (by simpa using ag),zc]
        exact gZ.mono (fun v H1 ft fS=>t_ v H1 ft fS) (Oa _ _ _ _ _ _ _ (N_ h))
       ·rw[if_neg ag]at h
        rw[if_neg (by simpa using ag)]
        exact t_ _ _ _ _ h
    ·cases J
theorem sW{n:Nat}:∀(c:Code) (x:gR) (t:List Value) (H:ab) (Q:dP->List Value->ab->Prop) (cl:dP->Fr->ab->Prop),hY P n c=some x->t.length=n->
  (∀e t1 H1,t1.length=n->cl e (gt t1) H1->Q e t1 H1)->eL P x (gt t) H cl->k8 P c t H Q
 | .skip,x,t,H,Q,cl,ae,ar,aC,h=>by simp only[hY,Option.some.injEq]at ae;subst ae;exact aC _ _ _ ar h
 | .ret,x,t,H,Q,cl,ae,ar,aC,h=>by simp only[hY,Option.some.injEq]at ae;subst ae;exact aC _ _ _ ar h
 | .exit id,x,t,H,Q,cl,ae,ar,aC,h=>by simp only[hY,Option.some.injEq]at ae;subst ae;exact aC _ _ _ ar h
 | .seq a b,x,t,H,Q,cl,ae,ar,aC,h=>by
  simp only[hY]at ae
  cases aL:hY P n a with
  | none=>simp[aL]at ae
  | some fk=>
   cases ag:hY P n b with
   | none=>simp[aL,ag]at ae
   | some gk=>
    simp only[aL,ag,Option.some.injEq]at ae
    subst ae
    refine sW a fk t H _ _ aL ar (fun e t1 H1 fY av=>?_) h
    cases e with
    | normal=>exact sW b gk t1 H1 Q cl ag fY aC av
    | exit id=>exact aC _ _ _ fY av
    | ret=>exact aC _ _ _ fY av
 | .cond c a b,x,t,H,Q,cl,ae,ar,aC,h=>by
  simp only[hY]at ae
  split at ae
  ·rename_i ak
   cases aL:hY P n a with
   | none=>simp[aL]at ae
   | some fk=>
    cases ag:hY P n b with
    | none=>simp[aL,ag]at ae
    | some gk=>
     simp only[aL,ag,Option.some.injEq]at ae
     subst ae
     refine⟨ak,?_⟩
     simp only[eL]at h
     rw[zc]
     split at h
     ·rename_i eE qj
      rw[qj]
      simp only
      cases eE with
      | true=>simp only[if_true]at h⊢;exact sW a fk t H Q cl aL ar aC h
      | false=>simp only[Bool.false_eq_true,if_false]at h⊢;exact sW b gk t H Q cl ag ar aC h
     ·exact h.elim
  ·cases ae
 | .block id a,x,t,H,Q,cl,ae,ar,aC,h=>by
  simp only[hY]at ae
  obtain⟨fk,aL,rfl⟩:=Option.map_eq_some_iff.1 ae
  refine sW a fk t H _ _ aL ar (fun e t1 H1 fY av=>?_) h
  cases e with
  | normal=>exact aC _ _ _ fY av
  | exit h2=>
   simp only[p5]at av
   simp only[Dk]
   split at av
   ·rename_i af;rw[if_pos af];exact aC _ _ _ fY av
   ·rename_i af;rw[if_neg af];exact aC _ _ _ fY av
  | ret=>exact aC _ _ _ fY av
 | .loop a,x,t,H,Q,cl,ae,ar,aC,h=>by
  simp only[hY]at ae
  obtain⟨fk,aL,rfl⟩:=Option.map_eq_some_iff.1 ae
  simp only[eL]at h
  show CV P (.loop a) t H Q
  generalize a_:gt t=F at h
  induction h generalizing t with
  | round ai UX dj a1=>
   rename_i F H
   subst a_
   obtain⟨e,t1,H1,al,av⟩:=sX a t H (fun e t1 H1=>t1.length=n/\nM ai cl e (gt t1) H1) (sW a fk t H _ _ aL ar (fun e t1 H1 fY av=>⟨fY,av⟩) UX)
   obtain⟨fY,av⟩:=av
   cases e with
   | normal=>
    obtain⟨bp,t2,aS,qw,oH⟩:=a1 (gt t1) H1 av t1 fY rfl
    exact⟨bp,t2,aS,.BV al qw,oH⟩
   | exit id=>exact⟨.exit id,t1,H1,.yS al (by simp),aC _ _ _ fY av⟩
   | ret=>exact⟨.ret,t1,H1,.yS al (by simp),aC _ _ _ fY av⟩
 | .region id ops draw,x,t,H,Q,cl,ae,ar,aC,h=>by
  simp only[hY]at ae
  split at ae
  ·split at ae
   ·rename_i ak
    obtain⟨xs,hO,rfl⟩:=Option.map_eq_some_iff.1 ae
    simp only[Bool.and_eq_true]at ak
    exact .inr ⟨ak.1,ak.2.1,ak.2.2,OB ops.toList 0 xs t H [] [] _ _ hO ar (fun t1 H1 fY av=>aC _ _ _ fY av) h⟩
   ·cases ae
  split at ae
  ·rename_i ak
   obtain⟨xs,hO,rfl⟩:=Option.map_eq_some_iff.1 ae
   simp only[Bool.and_eq_true,Bool.or_eq_true,Bool.not_eq_true']at ak
   refine .inl ⟨ak.1,fun aD=>?_,?_⟩
   ·rcases ak.2 with q | q
    ·rw[aD]at q;cases q
    ·exact q
   ·exact OF ops.toList 0 xs t H _ _ hO ar (fun t1 H1 fY av=>aC _ _ _ fY av) h
  ·cases ae
 | .rangeFunc ..,x,t,H,Q,cl,ae,_,_,_=>by simp[hY]at ae
 | .scope ..,x,t,H,Q,cl,ae,_,_,_=>by simp[hY]at ae
 | .label ..,x,t,H,Q,cl,ae,_,_,_=>by simp[hY]at ae
 | .goto ..,x,t,H,Q,cl,ae,_,_,_=>by simp[hY]at ae
 | .refuse ..,x,t,H,Q,cl,ae,_,_,_=>by simp[hY]at ae
theorem y8{t:List Value}{H:ab}:∀(rs:List ResultVar) (K:List Value->Prop),ku P (gt t) H rs K->pZ P t H rs K
 | [],K,h=>h
 | .tmp i::rs,K,h=>y8 rs _ h
 | .cell a ty::rs,K,h=>by
  simp only[ku]at h
  simp only[pZ]
  split at h
  ·rename_i b i J
   rw[J]
   simp only
   split at h
   ·rename_i cs gy
    rw[gy]
    simp only
    split at h
    ·rename_i aL
     rw[aL]
     simp only
     split at h
     ·rename_i v an
      rw[an]
      exact y8 rs _ h
     ·exact h.elim
    ·rename_i aL
     rw[aL]
     simp only
     split at h
     ·rename_i n aJ
      rw[aJ]
      exact⟨h.1,y8 rs _ h.2⟩
     ·exact h.elim
    ·exact h.elim
   ·exact h.elim
  ·exact h.elim
theorem aO.NS{f:FuncId}{fn:Func}{x:fB}{args:List Value}{H:ab}{Q:Value->ab->Prop}(aB:P.funcs[f]?=some fn)(aJ:(fn.name== "runtime.NumGoroutine")=false)(ae:comp P fn=some x)(ar:args.length<=fn.ntmps)
  (h:eL P x.code (jK args) H (qS P x.results Q)):∃v H1,zC P f/\ee P (.call f args H) (.val v H1)/\Q v H1:=by
 unfold comp at ae
 cases ag:fn.body with
 | none=>simp[ag]at ae
 | some c=>
  simp only[ag]at ae
  obtain⟨iQ,iB,rfl⟩:=Option.map_eq_some_iff.1 ae
  have a_:gt (args++List.replicate (fn.ntmps-args.length) undef)=jK args:=by
   funext i
   simp only[gt,jK,List.getD_eq_getElem?_getD]
   by_cases af:i<args.length
   ·rw[List.getElem?_append_left af]
   ·rw[List.getElem?_append_right (by omega),List.getElem?_eq_none (l:=args) (by omega),List.getElem?_replicate]
    split<;>rfl
  refine aO.SS aB aJ ag (sW c iQ _ H _ (qS P fn.results.toList Q) iB (by simp;omega) (fun e t1 H1 fY av=>?_) (by rw[a_];exact h))
  cases e with
  | normal=>exact y8 _ _ av
  | exit id=>exact av
  | ret=>exact y8 _ _ av
theorem aO.XJ{f:FuncId}{fn:Func}{x:fB}{args:List Value}{H:ab}{Q:Value->ab->Prop}(aB:P.funcs[f]?=some fn)(aJ:(fn.name== "runtime.NumGoroutine")=false)(ae:comp P fn=some x)(ar:args.length<=fn.ntmps)
  (h:eL P x.code (jK args) H (qS P x.results Q)):aO P f args H Q:=by
 obtain⟨v,H1,o,aa,aA⟩:=aO.NS aB aJ ae ar h
 exact⟨v,H1,.inl ⟨o,aa⟩,aA⟩
theorem q9.inv{body:Fr->ab->(dP->Fr->ab->Prop)->Prop}{Q:dP->Fr->ab->Prop}(ai:Nat->Fr->ab->Prop)(round:∀n F H,ai n F H->body F H (nM (fun az H1=>∃m,m<n/\ai m az H1) Q)):∀(n:Nat) (F:Fr) (H:ab),ai n F H->q9 body Q F H:=by
 intro n
 induction n using Nat.strongRecOn with
 | _ n a1=>
  intro F H h
  exact .round _ (round n F H h) fun az H1 ⟨m,hm,dj⟩=>a1 m hm az H1 dj
end
def T(i:Nat):Operand:= .tmp i
def ai(n:Int):Operand:= .const (.int .i64 n)
def C(v:Value):Operand:= .const v
def Hz(f:Nat):Operand:= .func f
theorem n9(F:Fr)(i:Nat):aq F (T i)=F i:=rfl
theorem KO(F:Fr)(n:Int):aq F (ai n)= .int .i64 n:=rfl
theorem S3(F:Fr)(v:Value):aq F (C v)=v:=rfl
theorem S4(F:Fr)(f:Nat):aq F (Hz f)= .func (.func f) #[] #[]:=rfl
def aN(j:Nat)(w:Bool)(x:bG):bG:={x with g:=some (j,w)}
def bh(x:bG):bG:={x with b:=false}
def I(d:Nat)(x:Operand):bG:=⟨true,none,some d,.move x⟩
def ah(d:Nat)(x:Operand):bG:=⟨true,none,some d,.assign x⟩
def cG(d:Nat)(c a b:Operand):bG:=⟨true,none,some d,.pick c a b⟩
def bQ(d e:Nat):bG:=⟨true,none,some d,.alloc e⟩
def cq(d e:Nat)(x:Operand):bG:=⟨true,none,some d,.box e x⟩
def aE(d t:Nat)(x:Operand):bG:=⟨true,none,some d,.load t x⟩
def st(t:Nat)(x y:Operand):bG:=⟨true,none,none,.store t x y⟩
def jh(d:Nat)(x:Operand):bG:=⟨true,none,some d,.nilCheck x⟩
def bi(d:Nat)(op:BinOp)(t:Nat)(x y:Operand):bG:=⟨true,none,some d,.binOp op t x y 0⟩
def un(d:Nat)(op:UnOp)(x:Operand):bG:=⟨true,none,some d,.unOp op 0 x⟩
def cg(d s t:Nat)(x:Operand):bG:=⟨true,none,some d,.convert s t x⟩
def m3(d t:Nat)(x:Operand):bG:=⟨true,none,some d,.makeInterface t x⟩
def vY(d:Nat)(fn:Fn)(a b:Array Operand):bG:=⟨true,none,some d,.makeFunc fn a b⟩
def a7(d s:Nat)(x:Operand)(f:Nat):bG:=⟨true,none,some d,.fieldAddr s x f⟩
def nk(d s:Nat)(x:Operand)(f:Nat):bG:=⟨true,none,some d,.field s x f⟩
def bg(d t:Nat)(x i:Operand):bG:=⟨true,none,some d,.indexAddr t x i⟩
def ew(d t:Nat)(x i:Operand):bG:=⟨true,none,some d,.index t x i⟩
def ex(d:Nat)(x:Operand)(i:Nat):bG:=⟨true,none,some d,.extract x i⟩
def dF(d t:Nat)(a5:List (Nat×Operand)):bG:=⟨true,none,some d,.build t a5.toArray⟩
def eP(d t n:Nat)(a5:List (Nat×Operand)):bG:=⟨true,none,some d,.buildSlice t n a5.toArray⟩
def fh(d t:Nat)(x:Operand)(bc af fv:Option Operand):bG:=⟨true,none,some d,.slice t x bc af fv⟩
def ms(d t:Nat)(x y:Operand):bG:=⟨true,none,some d,.makeSlice t x y⟩
def bt(d t:Nat)(x:Operand):bG:=⟨true,none,some d,.call {callee:= .builtin .len,args:= #[x],argTypes:= #[t]}⟩
def ap(d b1 cY:Nat)(s x:Operand):bG:=⟨true,none,some d,.call {callee:= .builtin .append,args:= #[s,x],argTypes:= #[b1,cY]}⟩
def cp(d ik b1:Nat)(s x:Operand):bG:=⟨true,none,some d,.call {callee:= .builtin .copy,args:= #[s,x],argTypes:= #[ik,b1]}⟩
def r8(d:Nat)(b1:List Nat)(x y:Operand):bG:=⟨true,none,some d,.call {callee:= .builtin .max,args:= #[x,y],argTypes:=b1.toArray}⟩
def tS(d:Nat)(b1:List Nat)(x y:Operand):bG:=⟨true,none,some d,.call {callee:= .builtin .min,args:= #[x,y],argTypes:=b1.toArray}⟩
def aR(d f:Nat)(args:List Operand):bG:=⟨true,none,some d,.call {callee:= .value (.func f),args:=args.toArray,argTypes:= #[]}⟩
def z4(f:Nat)(args:List Operand):bG:=⟨true,none,none,.call {callee:= .value (.func f),args:=args.toArray,argTypes:= #[]}⟩
def mC(d:Nat)(x:Operand)(args:List Operand):bG:=⟨true,none,some d,.call {callee:= .value x,args:=args.toArray,argTypes:= #[]}⟩
def mq(cs:List Value)(i:Nat):List Value->List Value
 | [v]=>cs.set i v
 | aG=>dp cs i aG
theorem Hq{cs aG:List Value}{i:Nat}(h:i+aG.length<=cs.length):mq cs i aG=dp cs i aG:=by
 unfold mq
 split
 ·exact(abZ _ (by have:=h;simp at this;omega)).symm
 ·rfl
def fin(x:Option (Value×ab))(K:Value->ab->Prop):Prop:=match x with
 | some p=>K p.1 p.2
 | none=>False
theorem s0(c:Prop)[Decidable c](v:Value)(H:ab)(K:Value->ab->Prop):fin (if c then some (v,H)else none) K=(c/\K v H):=by
 by_cases h:c
 ·rw[if_pos h];simp[fin,h]
 ·rw[if_neg h];simp[fin,h]
theorem uS(x:Option Value)(H:ab)(K:Value->ab->Prop):fin (x.map fun v=>(v,H)) K=match x with | some v=>K v H | none=>False:=by cases x<;>rfl
def isVal:Op->Bool
 | .call {callee:= .value _,.. }=>true
 | _=>false
section
variable {P:Program} {r:List bG} {F:Fr} {H:ab} {Q:Fr->ab->Prop}
theorem afK{b:Bool}{K:Value->ab->Prop}(op:Op)(h:(isVal op || jE op || h3 op)=false):gx P b F H K op=fin (cb P (aq F) H op) K:=by
 have main:(match cb P (aq F) H op with
   | some (v,H1)=>(h3 op=true->b=true)/\K v H1
   | none=>jE op=true/\∃v H1,n1 P (aq F) H op v H1/\(b=true\/Ext H H1)/\K v H1)=fin (cb P (aq F) H op) K:=by
  simp only[Bool.or_eq_false_iff]at h
  cases cb P (aq F) H op with
  | none=>simp[fin,h]
  | some p=>simp[fin,h]
 cases op<;>try exact main
 rename_i c
 obtain⟨callee,args,ld⟩:=c
 cases callee<;>try exact main
 simp[isVal]at h
theorem jH{b:Bool}{d:Option Nat}(op:Op)(h:(isVal op || jE op || h3 op)=false):bn P (⟨b,none,d,op⟩::r) F H Q=fin (cb P (aq F) H op) (fun v H1=>bn P r (ga F d v) H1 Q):=by
 simp only[bn]
 exact afK op h
theorem af3(d:Nat)(x:Operand):bn P (I d x::r) F H Q=bn P r (a2 F d (aq F x)) H Q:=by
 rw[I,jH _ rfl];rfl
theorem af9(d:Nat)(x:Operand):bn P (ah d x::r) F H Q=bn P r (a2 F d (aq F x)) H Q:=by
 rw[ah,jH _ rfl];rfl
theorem af8(d:Nat)(c a b:Operand):bn P (cG d c a b::r) F H Q=match aq F c with
  | .bool t=>bn P r (a2 F d (if t=true then aq F a else aq F b)) H Q
  | _=>False:=by
 rw[cG,jH _ rfl];simp only[cb];cases aq F c<;>rfl
theorem QJ(d e:Nat):bn P (bQ d e::r) F H Q=match dD P e with
  | some z=>(flat z=true/\(bA P e).isSome=true)/\bn P r (a2 F d (.pointer (some ⟨H.length,0,none⟩))) (H++[.own e false z.cells.toList]) Q
  | none=>False:=by
 rw[bQ,jH _ rfl];simp only[cb]
 cases dD P e with
 | none=>rfl
 | some z=>simp only[s0];rfl
theorem afN(d e:Nat)(x:Operand):bn P (cq d e x::r) F H Q=((bA P e).isSome=true/\bn P r (a2 F d (.pointer (some ⟨H.length,0,none⟩))) (H++[.own e false (aq F x).cells.toList]) Q):=by
 rw[cq,jH _ rfl];simp only[cb,s0];rfl
theorem afY(d t:Nat)(x:Operand):bn P (aE d t x::r) F H Q=match aq F x with
  | .pointer (some ⟨b,i,none⟩)=>(match(H[b]?).bind bO.cells? with
   | some cs=>(match dr P t with
    | some false=>(match cs[i]? with
     | some v=>bn P r (a2 F d v) H Q
     | none=>False)
    | some true=>(match bA P t with
     | some n=>i+n<=cs.length/\bn P r (a2 F d (.agg ((cs.drop i).take n).toArray)) H Q
     | none=>False)
    | none=>False)
   | none=>False)
  | _=>False:=by
 rw[aE,jH _ rfl];simp only[cb,iU]
 cases aq F x<;>try rfl
 rename_i a
 cases a with
 | none=>rfl
 | some a=>
  obtain⟨b,i,c⟩:=a
  cases c<;>try rfl
  simp only
  cases(H[b]?).bind bO.cells? with
  | none=>rfl
  | some cs=>
   simp only
   cases dr P t with
   | none=>rfl
   | some g=>
    cases g with
    | false=>simp only[uS];rfl
    | true=>
     simp only
     cases bA P t with
     | none=>rfl
     | some n=>simp only[s0];rfl
theorem aga(b:Bool)(t:Nat)(x y:Operand):bn P (⟨b,none,none,.store t x y⟩::r) F H Q=match aq F x with
  | .pointer (some ⟨sS,i,none⟩)=>(match H[sS]? with
   | some (.own e l cs)=>(bA P t=some (aq F y).cells.size/\i+(aq F y).cells.size<=cs.length/\((aq F y).cells.toList.all (·.oneCell'))=true)/\b=true/\bn P r F (H.set sS (.own e l (mq cs i (aq F y).cells.toList))) Q
   | _=>False)
  | _=>False:=by
 simp only[bn,gx,cb]
 have no:∀K:Value->ab->Prop,(match(none:Option (Value×ab))with
   | some (v,H1)=>(h3 (.store t x y)=true->b=true)/\K v H1
   | none=>jE (.store t x y)=true/\∃v H1,n1 P (aq F) H (.store t x y) v H1/\(b=true\/Ext H H1)/\K v H1)=False:=fun K=>by simp[jE]
 cases aq F x<;>try exact no _
 rename_i a
 cases a with
 | none=>exact no _
 | some a=>
  obtain⟨sS,i,c⟩:=a
  cases c<;>try exact no _
  simp only
  cases H[sS]? with
  | none=>exact no _
  | some X=>
   cases X<;>try exact no _
   rename_i e l cs
   simp only
   by_cases ae:bA P t=some (aq F y).cells.size/\i+(aq F y).cells.size<=cs.length/\((aq F y).cells.toList.all (·.oneCell'))=true
   ·rw[if_pos ae,Hq (by simpa using ae.2.1)]
    simp only[h3,true_implies,ga]
    exact propext ⟨fun h=>⟨ae,h.1,h.2⟩,fun h=>h.2⟩
   ·rw[if_neg ae]
    exact propext ⟨fun h=>by simp[jE]at h,fun h=>(ae h.1).elim⟩
theorem agb(t:Nat)(x y:Operand):bn P (st t x y::r) F H Q=match aq F x with
  | .pointer (some ⟨sS,i,none⟩)=>(match H[sS]? with
   | some (.own e l cs)=>(bA P t=some (aq F y).cells.size/\i+(aq F y).cells.size<=cs.length/\((aq F y).cells.toList.all (·.oneCell'))=true)/\bn P r F (H.set sS (.own e l (mq cs i (aq F y).cells.toList))) Q
   | _=>False)
  | _=>False:=by
 rw[st,aga]
 simp only[true_and]
theorem af6(d:Nat)(x:Operand):bn P (jh d x::r) F H Q=match aq F x with
  | .pointer (some a)=>bn P r (a2 F d (.pointer (some a))) H Q
  | _=>False:=by
 rw[jh,jH _ rfl];simp only[cb]
 cases aq F x<;>try rfl
 rename_i a;cases a<;>rfl
theorem afM(d:Nat)(op:BinOp)(t:Nat)(x y:Operand):bn P (bi d op t x y::r) F H Q=match eh P op t (aq F x) (aq F y)with
  | some v=>bn P r (a2 F d v) H Q
  | none=>False:=by
 rw[bi,jH _ rfl];simp only[cb,uS];rfl
theorem agc(d:Nat)(op:UnOp)(x:Operand):bn P (un d op x::r) F H Q=match pO op (aq F x)with
  | some v=>bn P r (a2 F d v) H Q
  | none=>False:=by
 rw[un,jH _ rfl];simp only[cb,uS];rfl
theorem afT(d s:Nat)(x:Operand)(f:Nat):bn P (a7 d s x f::r) F H Q=match aq F x with
  | .pointer (some ⟨b,i,none⟩)=>(match fW P s f with
   | some off=>bn P r (a2 F d (.pointer (some ⟨b,i+off,none⟩))) H Q
   | none=>False)
  | _=>False:=by
 rw[a7,jH _ rfl];simp only[cb]
 cases aq F x<;>try rfl
 rename_i a
 cases a with
 | none=>rfl
 | some a=>
  obtain⟨b,i,c⟩:=a
  cases c<;>try rfl
  simp only
  cases fW P s f<;>rfl
theorem afV(d s:Nat)(x:Operand)(f:Nat):bn P (nk d s x f::r) F H Q=match aq F x with
  | .agg cs=>(match pc P s f with
   | some c=>(match p8 cs c with
    | some v=>bn P r (a2 F d v) H Q
    | none=>False)
   | none=>False)
  | _=>False:=by
 rw[nk,jH _ rfl];simp only[cb]
 cases aq F x<;>try rfl
 simp only
 cases pc P s f with
 | none=>rfl
 | some c=>simp only[uS];rfl
theorem afW(d t:Nat)(x i:Operand):bn P (bg d t x i::r) F H Q=match aq F x,aq F i with
  | .slice (some ⟨b,U,none⟩) len _,.int _ n=>(match fi P t with
   | some e=>(match bA P e with
    | some R=>(0<=n/\n<len)/\bn P r (a2 F d (.pointer (some ⟨b,U+n.toNat*R,none⟩))) H Q
    | none=>False)
   | none=>False)
  | _,_=>False:=by
 rw[bg,jH _ rfl];simp only[cb]
 cases aq F x<;>try rfl
 rename_i a len cap
 cases a with
 | none=>rfl
 | some a=>
  obtain⟨b,U,c⟩:=a
  cases c<;>try rfl
  cases aq F i<;>try rfl
  simp only
  cases fi P t with
  | none=>rfl
  | some e=>
   simp only
   cases bA P e with
   | none=>rfl
   | some n=>simp only[s0];rfl
theorem afX(d t:Nat)(x i:Operand):bn P (ew d t x i::r) F H Q=match aq F x,aq F i with
  | .string s,.int _ n=>(iG P t=true/\0<=n/\n<s.size)/\bn P r (a2 F d (.int .u8 ((s.data.getD n.toNat 0).toNat:Int))) H Q
  | _,_=>False:=by
 rw[ew,jH _ rfl];simp only[cb]
 cases aq F x<;>try rfl
 cases aq F i<;>try rfl
 simp only[s0];rfl
theorem afS(d:Nat)(x:Operand)(i:Nat):bn P (ex d x i::r) F H Q=match aq F x with
  | .tuple aG=>(match aG[i]? with
   | some v=>bn P r (a2 F d v) H Q
   | none=>False)
  | _=>False:=by
 rw[ex,jH _ rfl];simp only[cb]
 cases aq F x<;>try rfl
 simp only[uS];rfl
theorem af1(d t:Nat)(x:Operand):bn P (m3 d t x::r) F H Q=(P.concrete t=true/\bn P r (a2 F d (.iface t (aq F x))) H Q):=by
 rw[m3,jH _ rfl];simp only[cb,s0];rfl
theorem af0(d:Nat)(fn:Fn)(a b:Array Operand):bn P (vY d fn a b::r) F H Q=bn P r (a2 F d (.func fn (a.map (aq F)) (b.map (aq F)))) H Q:=by
 rw[vY,jH _ rfl];rfl
def Cm(P:Program)(F:Fr)(t:Nat)(a5:List (Nat×Operand)):Option Value:=match dD P t with
 | some z=>if flat z=true then dH P (Instr.build t (a5.toArray.map fun p=>(p.1,aq F p.2)))else none
 | none=>none
theorem afL(d t:Nat)(a5:List (Nat×Operand)):bn P (dF d t a5::r) F H Q=match Cm P F t a5 with
  | some v=>bn P r (a2 F d v) H Q
  | none=>False:=by
 rw[dF,jH _ rfl];simp only[cb,Cm]
 cases dD P t with
 | none=>rfl
 | some z=>
  simp only
  split
  ·simp only[uS];rfl
  ·rfl
theorem afZ(d t:Nat)(x:Operand):bn P (bt d t x::r) F H Q=match aq F x with
  | .slice _ n _=>(match fi P t with
   | some _=>bn P r (a2 F d (.int .i64 n)) H Q
   | none=>False)
  | .string s=>iG P t=true/\bn P r (a2 F d (.int .i64 s.size)) H Q
  | _=>False:=by
 rw[bt,jH _ rfl];simp only[cb,sj]
 cases aq F x<;>try rfl
 ·simp only[s0];rfl
 ·simp only;cases fi P t<;>rfl
theorem af5(d:Nat)(b1:List Nat)(x y:Operand):bn P (r8 d b1 x y::r) F H Q=match aq F x,aq F y with
  | .int k a,.int _ b=>bn P r (a2 F d (.int k (if b>a then b else a))) H Q
  | _,_=>False:=by
 rw[r8,jH _ rfl];simp only[cb,sj]
 cases aq F x<;>try rfl
 cases aq F y<;>rfl
theorem af2(d:Nat)(b1:List Nat)(x y:Operand):bn P (tS d b1 x y::r) F H Q=match aq F x,aq F y with
  | .int k a,.int _ b=>bn P r (a2 F d (.int k (if b<a then b else a))) H Q
  | _,_=>False:=by
 rw[tS,jH _ rfl];simp only[cb,sj]
 cases aq F x<;>try rfl
 cases aq F y<;>rfl
theorem Hu(b:Bool)(d:Option Nat)(f:Nat)(args:Array Operand):bn P (⟨b,none,d,.call {callee:= .value (.func f),args:=args,argTypes:= #[]}⟩::r) F H Q=aO P f (args.toList.map (aq F)) H (fun v H1=>(b=true\/Ext H H1)/\bn P r (ga F d v) H1 Q):=by
 simp only[bn,gx,aq]
 simp
theorem afO(d f:Nat)(args:List Operand):bn P (aR d f args::r) F H Q=aO P f (args.map (aq F)) H (fun v H1=>bn P r (a2 F d v) H1 Q):=by
 rw[aR,Hu];simp[ga]
theorem afP(f:Nat)(args:List Operand):bn P (z4 f args::r) F H Q=aO P f (args.map (aq F)) H (fun v H1=>bn P r F H1 Q):=by
 rw[z4,Hu];simp[ga]
theorem af7(d f:Nat)(args:List Operand):bn P (bh (aR d f args)::r) F H Q=aO P f (args.map (aq F)) H (fun v H1=>Ext H H1/\bn P r (a2 F d v) H1 Q):=by
 simp only[bh,aR];rw[Hu];simp[ga]
theorem afQ(d:Nat)(x:Operand)(args:List Operand):bn P (mC d x args::r) F H Q=match aq F x with
  | .func (.func g) first cap=>aO P g (first.toList++args.map (aq F)++cap.toList) H (fun v H1=>bn P r (a2 F d v) H1 Q)
  | _=>False:=by
 simp only[bn,mC,gx]
 cases aq F x<;>try rfl
 rename_i fn a b
 cases fn<;>simp[ga]
theorem afR(d s t:Nat)(x:Operand){hP:IntKind}{n:Int}(h:aq F x= .int hP n){eb k:IntKind}(ao:ki P s=some eb)(bM:ki P t=some k):bn P (cg d s t x::r) F H Q=bn P r (a2 F d (.int k (k.wrap n))) H Q:=by
 simp[bn,cg,gx,cb,h3,ga,h,ao,bM]
theorem af4{b:Bool}{d:Option Nat}{op:Op}(an:isVal op=false)(hm:jE op=true)(aJ:cb P (aq F) H op=none){v:Value}{H1:ab}(av:n1 P (aq F) H op v H1)(ag:b=true\/Ext H H1)(h:bn P r (ga F d v) H1 Q):bn P (⟨b,none,d,op⟩::r) F H Q:=by
 simp only[bn]
 have main:(match cb P (aq F) H op with
   | some (v,H1)=>(h3 op=true->b=true)/\bn P r (ga F d v) H1 Q
   | none=>jE op=true/\∃v H1,n1 P (aq F) H op v H1/\(b=true\/Ext H H1)/\bn P r (ga F d v) H1 Q):=by
  rw[aJ]
  exact⟨hm,v,H1,av,ag,h⟩
 cases op<;>try exact main
 rename_i c
 obtain⟨callee,args,ld⟩:=c
 cases callee<;>try exact main
 simp[isVal]at an
end
def oW:List Value->Nat->List Value->List Value
 | cs,_,[]=>cs
 | cs,i,v::aG=>oW (cs.set i v) (i+1) aG
theorem KV(off:Nat):∀(aG:List Value) (k:Nat) (cs:Array Value),((aG.zipIdx k).foldl (fun cs (rh:Value×Nat)=>cs.setIfInBounds (off+rh.2) rh.1) cs).toList=oW cs.toList (off+k) aG
 | [],k,cs=>rfl
 | v::aG,k,cs=>by
  simp only[List.zipIdx_cons,List.foldl_cons,oW]
  rw[KV off aG (k+1) _]
  simp[Nat.add_assoc]
def jr(place:Nat->Option (Nat×Nat))(cs:List Value):List (Nat×Value)->Option (List Value)
 | []=>some cs
 | (i,v)::rest=>match place i with
  | none=>none
  | some (off,size)=>if v.cells.toList.length=size/\off+size<=cs.length then jr place (oW cs off v.cells.toList) rest else none
def kA(pl:List (Nat×Nat))(cs:List Value)(parts:List (Nat×Value)):Option (List Value):=jr (fun i=>pl[i]?) cs parts
theorem fill_eq(place:Nat->Option (Nat×Nat)):∀(parts:List (Nat×Value)) (cs:Array Value),Instr.fill place cs parts=(jr place cs.toList parts).map (·.toArray)
 | [],cs=>by simp[Instr.fill,jr]
 | (i,v)::rest,cs=>by
  simp only[jr,Instr.fill]
  cases place i with
  | none=>rfl
  | some os=>
   obtain⟨off,size⟩:=os
   simp only
   have e:(v.cells.zipIdx.foldl (fun cs (x:Value×Nat)=>cs.setIfInBounds (off+x.2) x.1) cs).toList=oW cs.toList off v.cells.toList:=by
    have:=KV off v.cells.toList 0 cs
    rw[<-Array.foldl_toList,Array.toList_zipIdx]
    simpa using this
   by_cases ae:v.cells.toList.length=size/\off+size<=cs.toList.length
   ·rw[if_pos ae]
    have o:v.cells.size=size:=by simpa using ae.1
    have aa:off+size<=cs.size:=by simpa using ae.2
    rw[if_neg (by simp[o];omega),fill_eq place rest,<-e]
   ·rw[if_neg ae]
    have:(decide (v.cells.size≠size) || decide (off+v.cells.size>cs.size))=true:=by
     by_cases o:v.cells.size=size
     ·have aa:¬(off+size<=cs.size):=fun h=>ae ⟨by simpa using o,by simpa using h⟩
      simp[o];omega
     ·simp[o]
    rw[if_pos this]
    rfl
def lE(P:Program)(t:TypeId):Option (List (Nat×Nat)):=match P.underlying t with
 | some (.struct j8)=>j8.toList.mapM fun f=>(bA P f.type).map fun n=>(f.offset,n)
 | _=>none
theorem OU{P:Program}{α β:Type}(f:α->Sem β)(g:α->Option β)(h:∀a,dH P (f a)=g a):∀l:List α,dH P (l.mapM f)=l.mapM g
 | []=>by simp[ff]
 | a::l=>by
  simp only[List.mapM_cons,fP,ff,h,OU f g h l]
  rfl
theorem abx{P:Program}{F:Fr}{t:Nat}{a5:List (Nat×Operand)}{z:Value}{pl:List (Nat×Nat)}(aM:dD P t=some z)(dS:flat z=true)(aU:lE P t=some pl):
  Cm P F t a5=(kA pl z.cells.toList (a5.map fun p=>(p.1,aq F p.2))).map fun out=> .agg out.toArray:=by
 unfold lE at aU
 split at aU
 ·rename_i j8 hu
  simp only[Cm,aM,dS,if_true,Instr.build,fP,Gp,Option.bind_some,oT,hu]
  have hm:dH P (j8.mapM fun f=>do pure (f.offset,<-sizeOf f.type))=some pl.toArray:=by
   rw[Array.mapM_eq_mapM_toList,pK,OU _ (fun f=>(bA P f.type).map fun n=>(f.offset,n)) (fun f=>by
    simp only[fP,ff,y4]
    cases bA P f.type<;>rfl),aU]
   rfl
  rw[hm]
  simp only[Option.bind_some]
  have:=fill_eq (fun x=>pl.toArray[x]?) (a5.map fun p=>(p.1,aq F p.2)) z.cells
  rw[show(fun x=>pl.toArray[x]?)=fun x=>pl[x]? from funext fun x=>by simp]at this
  have ar:(a5.toArray.map fun p=>(p.1,aq F p.2)).toList=a5.map fun p=>(p.1,aq F p.2):=by simp
  rw[ar,show(fun x=>pl.toArray[x]?)=fun x=>pl[x]? from funext fun x=>by simp,this]
  unfold kA
  cases jr (fun i=>pl[i]?) z.cells.toList (a5.map fun p=>(p.1,aq F p.2))<;>rfl
 ·cases aU
@[simp] theorem aih(pl:List (Nat×Nat))(cs:List Value):kA pl cs []=some cs:=rfl
@[simp] theorem aif(pl:List (Nat×Nat))(cs:List Value)(i:Nat)(v:Value)(rest:List (Nat×Value)):kA pl cs ((i,v)::rest)=match pl[i]? with
  | none=>none
  | some (off,size)=>if v.cells.toList.length=size/\off+size<=cs.length then kA pl (oW cs off v.cells.toList) rest else none:=rfl
attribute [simp] oW
def e_{α:Type}(U:Option α)(K:α->Prop):Prop:=match U with
 | some v=>K v
 | none=>False
def gF(c:Prop)(K:Prop):Prop:=c/\K
def h8(b:Bool)(dA cZ:Prop):Prop:=match b with
 | true=>dA
 | false=>cZ
def HJ(v:Value)(K:Addr->Prop):Prop:=match v with
 | .pointer (some a)=>K a
 | _=>False
def zK(v:Value)(K:Bool->Prop):Prop:=match v with
 | .bool b=>K b
 | _=>False
def pX(v:Value)(K:IntKind->Int->Prop):Prop:=match v with
 | .int k n=>K k n
 | _=>False
def sL(v:Value)(K:Nat->Nat->Prop):Prop:=match v with
 | .pointer (some ⟨b,i,none⟩)=>K b i
 | _=>False
def zN(v:Value)(K:Option Addr->Nat->Nat->Prop):Prop:=match v with
 | .slice a n c=>K a n c
 | _=>False
def zJ(a:Option Addr)(K:Nat->Nat->Prop):Prop:=match a with
 | some ⟨b,i,none⟩=>K b i
 | _=>False
def HO(v:Value)(K:ByteArray->Prop):Prop:=match v with
 | .string s=>K s
 | _=>False
def n2(v:Value)(K:Array Value->Prop):Prop:=match v with
 | .agg cs=>K cs
 | _=>False
def C4(v:Value)(K:Array Value->Prop):Prop:=match v with
 | .tuple cs=>K cs
 | _=>False
def HH(v:Value)(K:Nat->Array Value->Array Value->Prop):Prop:=match v with
 | .func (.func g) a b=>K g a b
 | _=>False
def HL(x:Option bO)(K:TypeId->Bool->List Value->Prop):Prop:=match x with
 | some (.own e l cs)=>K e l cs
 | _=>False
section
theorem QQ(K:Prop):gF True K=K:=by simp[gF]
theorem h8.mk{b:Bool}{dA cZ:Prop}(o:b=true->dA)(aa:b=false->cZ):h8 b dA cZ:=by
 cases b
 ·exact aa rfl
 ·exact o rfl
theorem h8.bZ{p:Prop}[Decidable p]{dA cZ:Prop}(o:p->dA)(aa:¬p->cZ):h8 (decide p) dA cZ:=by
 by_cases h:p
 ·rw[decide_eq_true h];exact o h
 ·rw[decide_eq_false h];exact aa h
@[simp] theorem alz(F:Fr)(d:Nat)(v:Value)(i:Nat):a2 F d v i=if i=d then v else F i:=rfl
attribute [simp] n9 KO S3 S4
@[simp] theorem ahq(b:Bool):hG (.bool b)=some b:=rfl
@[simp] theorem agZ(a:Value)(l:List Value):jK (a::l) 0=a:=rfl
@[simp] theorem ag0(a b:Value)(l:List Value):jK (a::b::l) 1=b:=rfl
@[simp] theorem ag1(a b c:Value)(l:List Value):jK (a::b::c::l) 2=c:=rfl
@[simp] theorem ag2(a b c d:Value)(l:List Value):jK (a::b::c::d::l) 3=d:=rfl
@[simp] theorem ag3(a b c d e:Value)(l:List Value):jK (a::b::c::d::e::l) 4=e:=rfl
@[simp] theorem ag4(a b c d e f:Value)(l:List Value):jK (a::b::c::d::e::f::l) 5=f:=rfl
@[simp] theorem ag5(a b c d e f g:Value)(l:List Value):jK (a::b::c::d::e::f::g::l) 6=g:=rfl
theorem b8{n:Int}(o: -9223372036854775808<=n)(aa:n<9223372036854775808):IntKind.wrap .i64 n=n:=by
 simp only[IntKind.wrap,IntKind.bits,IntKind.signed]
 simp
 split<;>omega
theorem gv{n:Int}(o:0<=n)(aa:n<18446744073709551616):IntKind.wrap .u64 n=n:=by
 simp only[IntKind.wrap,IntKind.bits,IntKind.signed]
 simp
 omega
theorem mr{n:Int}(o:0<=n)(aa:n<4294967296):IntKind.wrap .u32 n=n:=by
 simp only[IntKind.wrap,IntKind.bits,IntKind.signed]
 simp
 omega
theorem sB{n:Int}(o:0<=n)(aa:n<256):IntKind.wrap .u8 n=n:=by
 simp only[IntKind.wrap,IntKind.bits,IntKind.signed]
 simp
 omega
theorem oY(n:Int):IntKind.wrap .u32 n=n % 4294967296:=by
 simp only[IntKind.wrap,IntKind.bits,IntKind.signed]
 simp
theorem QD(n:Int):IntKind.wrap .u64 n=n % 18446744073709551616:=by
 simp only[IntKind.wrap,IntKind.bits,IntKind.signed]
 simp
@[simp] theorem ahl:IntKind.bits .u64=64:=rfl
@[simp] theorem ahk:IntKind.bits .u32=32:=rfl
@[simp] theorem ahj:IntKind.bits .i64=64:=rfl
@[simp] theorem ahm:IntKind.bits .u8=8:=rfl
@[simp] theorem akm:IntKind.signed .u64=false:=rfl
@[simp] theorem akl:IntKind.signed .u32=false:=rfl
@[simp] theorem akn:IntKind.signed .u8=false:=rfl
@[simp] theorem akk:IntKind.signed .i64=true:=rfl
theorem ni(a:Int){b:Int}(h:0<=b):a.fdiv b=a/b:=Int.fdiv_eq_ediv_of_nonneg a h
section
variable {P:Program} {t:Nat} {k b_:IntKind} {a b:Int}
@[simp] theorem abr:eh P .add t (.int k a) (.int k b)=some (.int k (k.wrap (a+b))):=by simp[eh,kx]
@[simp] theorem akh:eh P .sub t (.int k a) (.int k b)=some (.int k (k.wrap (a-b))):=by simp[eh,kx]
@[simp] theorem aj5:eh P .mul t (.int k a) (.int k b)=some (.int k (k.wrap (a*b))):=by simp[eh,kx]
@[simp] theorem aj1:eh P .eql t (.int k a) (.int k b)=some (.bool (decide (a=b))):=by simp[eh,kx];rfl
@[simp] theorem aj6:eh P .neq t (.int k a) (.int k b)=some (.bool (decide (a≠b))):=by
 simp[eh,kx]
 by_cases h:a=b<;>simp[h]
@[simp] theorem abu:eh P .lss t (.int k a) (.int k b)=some (.bool (decide (a<b))):=by simp[eh,kx]
@[simp] theorem aj4:eh P .leq t (.int k a) (.int k b)=some (.bool (decide (a<=b))):=by simp[eh,kx]
@[simp] theorem aj3:eh P .gtr t (.int k a) (.int k b)=some (.bool (decide (b<a))):=by simp[eh,kx]
@[simp] theorem aj2:eh P .geq t (.int k a) (.int k b)=some (.bool (decide (b<=a))):=by simp[eh,kx]
@[simp] theorem aka:eh P .quo t (.int k a) (.int k b)=if b=0 then none else some (.int k (k.wrap (a.tdiv b))):=by simp[eh,kx]
@[simp] theorem akb:eh P .rem t (.int k a) (.int k b)=if b=0 then none else some (.int k (a.tmod b)):=by simp[eh,kx]
@[simp] theorem Pm:eh P .or t (.int k a) (.int k b)=some (.int k (k.wrap (BitVec.ofInt k.bits a ||| BitVec.ofInt k.bits b).toNat)):=by simp[eh,kx]
@[simp] theorem abt:eh P .and t (.int k a) (.int k b)=some (.int k (k.wrap (BitVec.ofInt k.bits a&&&BitVec.ofInt k.bits b).toNat)):=by simp[eh,kx]
@[simp] theorem aki:eh P .xor t (.int k a) (.int k b)=some (.int k (k.wrap (BitVec.ofInt k.bits a^^^BitVec.ofInt k.bits b).toNat)):=by simp[eh,kx]
@[simp] theorem abw:eh P .shl t (.int k a) (.int b_ b)=if b<0 then none else some (.int k (k.wrap (a*2^(min b.toNat k.bits)))):=by simp[eh,wV]
@[simp] theorem akf:eh P .shr t (.int k a) (.int b_ b)=if b<0 then none else some (.int k (a.fdiv (2^(min b.toNat k.bits)))):=by simp[eh,wV]
@[simp] theorem akd{x y:ByteArray}:eh P .eql t (.string x) (.string y)=some (.bool (x.toList==y.toList)):=by simp[eh,uE]
@[simp] theorem akg{x y:ByteArray}:eh P .neq t (.string x) (.string y)=some (.bool !(x.toList==y.toList)):=by simp[eh,uE]
@[simp] theorem akc{x y:ByteArray}:eh P .add t (.string x) (.string y)=if x.size+y.size<=9223372036854775807 then some (.string (x++y))else none:=by simp[eh,uE]
@[simp] theorem ajZ{x y:Bool}:eh P .eql t (.bool x) (.bool y)=if uG P t=true then some (.bool (x==y))else none:=by simp[eh]
@[simp] theorem aj0{x y:Bool}:eh P .neq t (.bool x) (.bool y)=if uG P t=true then some (.bool (!(x==y)))else none:=by simp[eh]
@[simp] theorem aj7{x:Option Addr}{n c:Nat}:eh P .eql t (.slice x n c) (.slice none 0 0)=(fi P t).map fun _=> .bool x.isNone:=by simp only[eh];cases fi P t<;>rfl
@[simp] theorem ako{x:Int}:pO .neg (.int k x)=some (.int k (k.wrap (0-x))):=rfl
@[simp] theorem akp{x:Bool}:pO .not (.bool x)=some (.bool !x):=rfl
@[simp] theorem akq{x:Int}:pO .xor (.int k x)=some (.int k (k.wrap (BitVec.ofInt k.bits (if k.signed then-1 else k.max)^^^BitVec.ofInt k.bits x).toNat)):=rfl
end
section
variable {P:Program} {r:List bG} {F:Fr} {H:ab} {Q:Fr->ab->Prop}
def h7(x:bG):bG:={x with g:=none}
def nV(U:Option Bool)(w:Bool)(dA cZ:Prop):Prop:=if U=some w then dA else cZ
theorem QV(b:Bool)(dA cZ:Prop):nV (some b) true dA cZ=h8 b dA cZ:=by cases b<;>simp[nV,h8]
theorem QU(b:Bool)(dA cZ:Prop):nV (some b) false dA cZ=h8 b cZ dA:=by cases b<;>simp[nV,h8]
theorem aft(j:Nat)(w:Bool)(x:bG):bn P (aN j w x::r) F H Q=nV (hG (F j)) w (bn P (h7 x::r) F H Q) (bn P r (ga F x.d undef) H Q):=rfl
@[simp] theorem aii(d:Nat)(v:Value):ga F (some d) v=a2 F d v:=rfl
@[simp] theorem als(x:bG):h7 (bh x)=bh (h7 x):=rfl
@[simp] theorem ah6(x:bG):(bh x).d=x.d:=rfl
@[simp] theorem alr(d:Nat)(x:Operand):h7 (I d x)=I d x:=rfl
@[simp] theorem ah5(d:Nat)(x:Operand):(I d x).d=some d:=rfl
@[simp] theorem alw(d:Nat)(x:Operand):h7 (ah d x)=ah d x:=rfl
@[simp] theorem ah9(d:Nat)(x:Operand):(ah d x).d=some d:=rfl
@[simp] theorem alv(d:Nat)(c a b:Operand):h7 (cG d c a b)=cG d c a b:=rfl
@[simp] theorem ah8(d:Nat)(c a b:Operand):(cG d c a b).d=some d:=rfl
@[simp] theorem alc(d e:Nat):h7 (bQ d e)=bQ d e:=rfl
@[simp] theorem ahQ(d e:Nat):(bQ d e).d=some d:=rfl
@[simp] theorem ale(d e:Nat)(x:Operand):h7 (cq d e x)=cq d e x:=rfl
@[simp] theorem ahT(d e:Nat)(x:Operand):(cq d e x).d=some d:=rfl
@[simp] theorem alo(d t:Nat)(x:Operand):h7 (aE d t x)=aE d t x:=rfl
@[simp] theorem ah2(d t:Nat)(x:Operand):(aE d t x).d=some d:=rfl
@[simp] theorem alu(d:Nat)(x:Operand):h7 (jh d x)=jh d x:=rfl
@[simp] theorem ah7(d:Nat)(x:Operand):(jh d x).d=some d:=rfl
@[simp] theorem ald(d:Nat)(op:BinOp)(t:Nat)(x y:Operand):h7 (bi d op t x y)=bi d op t x y:=rfl
@[simp] theorem ahR(d:Nat)(op:BinOp)(t:Nat)(x y:Operand):(bi d op t x y).d=some d:=rfl
@[simp] theorem aly(d:Nat)(op:UnOp)(x:Operand):h7 (un d op x)=un d op x:=rfl
@[simp] theorem aib(d:Nat)(op:UnOp)(x:Operand):(un d op x).d=some d:=rfl
@[simp] theorem alh(d s t:Nat)(x:Operand):h7 (cg d s t x)=cg d s t x:=rfl
@[simp] theorem ahW(d s t:Nat)(x:Operand):(cg d s t x).d=some d:=rfl
@[simp] theorem alj(d s:Nat)(x:Operand)(f:Nat):h7 (a7 d s x f)=a7 d s x f:=rfl
@[simp] theorem ahY(d s:Nat)(x:Operand)(f:Nat):(a7 d s x f).d=some d:=rfl
@[simp] theorem alk(d s:Nat)(x:Operand)(f:Nat):h7 (nk d s x f)=nk d s x f:=rfl
@[simp] theorem ahZ(d s:Nat)(x:Operand)(f:Nat):(nk d s x f).d=some d:=rfl
@[simp] theorem alm(d t:Nat)(x i:Operand):h7 (bg d t x i)=bg d t x i:=rfl
@[simp] theorem ah0(d t:Nat)(x i:Operand):(bg d t x i).d=some d:=rfl
@[simp] theorem aln(d t:Nat)(x i:Operand):h7 (ew d t x i)=ew d t x i:=rfl
@[simp] theorem ah1(d t:Nat)(x i:Operand):(ew d t x i).d=some d:=rfl
@[simp] theorem ali(d:Nat)(x:Operand)(i:Nat):h7 (ex d x i)=ex d x i:=rfl
@[simp] theorem ahX(d:Nat)(x:Operand)(i:Nat):(ex d x i).d=some d:=rfl
@[simp] theorem alx(d t:Nat)(x:Operand)(bc af fv:Option Operand):h7 (fh d t x bc af fv)=fh d t x bc af fv:=rfl
@[simp] theorem aia(d t:Nat)(x:Operand)(bc af fv:Option Operand):(fh d t x bc af fv).d=some d:=rfl
@[simp] theorem alp(d t:Nat)(x:Operand):h7 (bt d t x)=bt d t x:=rfl
@[simp] theorem ah3(d t:Nat)(x:Operand):(bt d t x).d=some d:=rfl
@[simp] theorem alf(d f:Nat)(args:List Operand):h7 (aR d f args)=aR d f args:=rfl
@[simp] theorem ahU(d f:Nat)(args:List Operand):(aR d f args).d=some d:=rfl
@[simp] theorem alg(d:Nat)(x:Operand)(args:List Operand):h7 (mC d x args)=mC d x args:=rfl
@[simp] theorem ahV(d:Nat)(x:Operand)(args:List Operand):(mC d x args).d=some d:=rfl
@[simp] theorem alq(d t:Nat)(x:Operand):h7 (m3 d t x)=m3 d t x:=rfl
@[simp] theorem ah4(d t:Nat)(x:Operand):(m3 d t x).d=some d:=rfl
theorem afB(d:Nat)(c a b:Operand):bn P (cG d c a b::r) F H Q=zK (aq F c) fun t=>bn P r (a2 F d (if t=true then aq F a else aq F b)) H Q:=by
 rw[af8];cases aq F c<;>rfl
theorem afl(d e:Nat):bn P (bQ d e::r) F H Q=e_ (dD P e) fun z=>gF (flat z=true/\(bA P e).isSome=true) (bn P r (a2 F d (.pointer (some ⟨H.length,0,none⟩))) (H++[.own e false z.cells.toList]) Q):=by
 rw[QJ];cases dD P e<;>rfl
theorem QE(d e:Nat)(x:Operand):bn P (cq d e x::r) F H Q=gF ((bA P e).isSome=true) (bn P r (a2 F d (.pointer (some ⟨H.length,0,none⟩))) (H++[.own e false (aq F x).cells.toList]) Q):=by
 rw[afN];rfl
def lenOf(P:Program)(t:Nat):Value->Option Nat
 | .slice _ n _=>(fi P t).map fun _=>n
 | .string s=>if iG P t=true then some s.size else none
 | _=>none
theorem afw(d t:Nat)(x:Operand):bn P (aE d t x::r) F H Q=sL (aq F x) fun b i=>e_ ((H[b]?).bind bO.cells?) fun cs=>e_ (dr P t) fun g=>h8 g (e_ (bA P t) fun n=>gF (i+n<=cs.length) (bn P r (a2 F d (.agg ((cs.drop i).take n).toArray)) H Q)) (e_ cs[i]? fun v=>bn P r (a2 F d v) H Q):=by
 rw[afY]
 cases aq F x<;>try rfl
 rename_i a
 cases a with
 | none=>rfl
 | some a=>
  obtain⟨b,i,c⟩:=a
  cases c<;>try rfl
  simp only[sL]
  cases(H[b]?).bind bO.cells? with
  | none=>rfl
  | some cs=>
   simp only[e_]
   cases dr P t with
   | none=>rfl
   | some g=>
    cases g with
    | false=>simp only[h8];cases cs[i]?<;>rfl
    | true=>simp only[h8];cases bA P t<;>rfl
theorem afC(t:Nat)(x y:Operand):bn P (st t x y::r) F H Q=sL (aq F x) fun b i=>HL H[b]? fun e l cs=>gF (bA P t=some (aq F y).cells.size/\i+(aq F y).cells.size<=cs.length/\((aq F y).cells.toList.all (·.oneCell'))=true) (bn P r F (H.set b (.own e l (mq cs i (aq F y).cells.toList))) Q):=by
 rw[agb]
 cases aq F x<;>try rfl
theorem afA(d:Nat)(x:Operand):bn P (jh d x::r) F H Q=HJ (aq F x) fun a=>bn P r (a2 F d (.pointer (some a))) H Q:=by
 rw[af6]
 cases aq F x<;>try rfl
theorem afn(d:Nat)(op:BinOp)(t:Nat)(x y:Operand):bn P (bi d op t x y::r) F H Q=e_ (eh P op t (aq F x) (aq F y)) fun v=>bn P r (a2 F d v) H Q:=by
 rw[afM];cases eh P op t (aq F x) (aq F y)<;>rfl
theorem afD(d:Nat)(op:UnOp)(x:Operand):bn P (un d op x::r) F H Q=e_ (pO op (aq F x)) fun v=>bn P r (a2 F d v) H Q:=by
 rw[agc];cases pO op (aq F x)<;>rfl
theorem afr(d s:Nat)(x:Operand)(f:Nat):bn P (a7 d s x f::r) F H Q=sL (aq F x) fun b i=>e_ (fW P s f) fun off=>bn P r (a2 F d (.pointer (some ⟨b,i+off,none⟩))) H Q:=by
 rw[afT]
 cases aq F x<;>try rfl
 rename_i a
 cases a with
 | none=>rfl
 | some a=>
  obtain⟨b,i,c⟩:=a
  cases c<;>try rfl
  cases fW P s f<;>rfl
theorem afs(d s:Nat)(x:Operand)(f:Nat):bn P (nk d s x f::r) F H Q=n2 (aq F x) fun cs=>e_ (pc P s f) fun c=>e_ (p8 cs c) fun v=>bn P r (a2 F d v) H Q:=by
 rw[afV]
 cases aq F x<;>try rfl
 rename_i cs
 simp only[n2,e_]
 cases pc P s f with
 | none=>rfl
 | some c=>simp only;cases p8 cs c<;>rfl
theorem Am{α:Type}(U:Option α){K:α->Prop}(h:∀v,K v=False):e_ U K=False:=by cases U<;>simp[e_,h]
theorem afu(d t:Nat)(x i:Operand):bn P (bg d t x i::r) F H Q=zN (aq F x) fun a len _=>pX (aq F i) fun _ n=>e_ (fi P t) fun e=>e_ (bA P e) fun R=>zJ a fun b U=>gF (0<=n/\n<len) (bn P r (a2 F d (.pointer (some ⟨b,U+n.toNat*R,none⟩))) H Q):=by
 rw[afW]
 generalize aq F x=u
 generalize aq F i=w
 cases u with
 | slice a len cap=>
  rcases a with _ | ⟨b,U,_ | c⟩
  ·cases w with
   | int k n=>exact(Am _ fun e=>Am _ fun z=>rfl).symm
   | _=>rfl
  ·cases w with
   | int k n=>
    simp only[zN,pX,zJ]
    cases fi P t with
    | none=>rfl
    | some e=>
     simp only[e_]
     cases bA P e<;>rfl
   | _=>rfl
  ·cases w with
   | int k n=>exact(Am _ fun e=>Am _ fun z=>rfl).symm
   | _=>rfl
 | _=>rfl
theorem afv(d t:Nat)(x i:Operand):bn P (ew d t x i::r) F H Q=HO (aq F x) fun s=>pX (aq F i) fun _ n=>gF (iG P t=true/\0<=n/\n<s.size) (bn P r (a2 F d (.int .u8 ((s.data.getD n.toNat 0).toNat:Int))) H Q):=by
 rw[afX]
 cases aq F x<;>try rfl
 cases aq F i<;>rfl
theorem afq(d:Nat)(x:Operand)(i:Nat):bn P (ex d x i::r) F H Q=C4 (aq F x) fun aG=>e_ aG[i]? fun v=>bn P r (a2 F d v) H Q:=by
 rw[afS]
 cases aq F x<;>try rfl
 rename_i aG
 simp only[C4]
 cases aG[i]?<;>rfl
theorem afm{d t:Nat}{a5:List (Nat×Operand)}{z:Value}{pl:List (Nat×Nat)}(aM:dD P t=some z)(dS:flat z=true)(aU:lE P t=some pl):
  bn P (dF d t a5::r) F H Q=e_ (kA pl z.cells.toList (a5.map fun p=>(p.1,aq F p.2))) fun out=>bn P r (a2 F d (.agg out.toArray)) H Q:=by
 rw[afL,abx aM dS aU]
 cases kA pl z.cells.toList (a5.map fun p=>(p.1,aq F p.2))<;>rfl
def isInt:Value->Bool
 | .int _ _=>true
 | _=>false
def intOf:Value->Int
 | .int _ n=>n
 | _=>0
@[simp] theorem ajz(k:IntKind)(n:Int):isInt (.int k n)=true:=rfl
@[simp] theorem ajy(k:IntKind)(n:Int):intOf (.int k n)=n:=rfl
theorem afp{d s t:Nat}{x:Operand}{eb k:IntKind}(ao:ki P s=some eb)(bM:ki P t=some k)(J:isInt (aq F x)=true):bn P (cg d s t x::r) F H Q=bn P r (a2 F d (.int k (k.wrap (intOf (aq F x))))) H Q:=by
 cases an:aq F x<;>rw[an]at J<;>first | exact afR d s t x an ao bM | cases J
def isStr:Value->Bool
 | .string _=>true
 | _=>false
@[simp] theorem ajB(s:ByteArray):isStr (.string s)=true:=rfl
theorem afo(d:Nat)(x:Operand)(args:List Operand):bn P (mC d x args::r) F H Q=HH (aq F x) fun g a b=>aO P g (a.toList++args.map (aq F)++b.toList) H (fun v H1=>bn P r (a2 F d v) H1 Q):=by
 rw[afQ]
 cases aq F x<;>try rfl
theorem afx(d t:Nat)(x:Operand):bn P (bt d t x::r) F H Q=e_ (lenOf P t (aq F x)) fun(n:Nat)=>bn P r (a2 F d (.int .i64 n)) H Q:=by
 rw[afZ]
 cases aq F x<;>try rfl
 ·simp only[lenOf]
  split
  ·rename_i h;simp[h,e_]
  ·rename_i h;simp[h,e_]
 ·simp only[lenOf]
  cases fi P t<;>rfl
@[simp] theorem ZM(t:Nat)(a:Option Addr)(n c:Nat):lenOf P t (.slice a n c)=(fi P t).map fun _=>n:=rfl
@[simp] theorem ZN(t:Nat)(s:ByteArray):lenOf P t (.string s)=if iG P t=true then some s.size else none:=rfl
theorem afz(d:Nat)(b1:List Nat)(x y:Operand):bn P (r8 d b1 x y::r) F H Q=pX (aq F x) fun k a=>pX (aq F y) fun _ b=>bn P r (a2 F d (.int k (if b>a then b else a))) H Q:=by
 rw[af5]
 cases aq F x<;>try rfl
 cases aq F y<;>rfl
theorem afy(d:Nat)(b1:List Nat)(x y:Operand):bn P (tS d b1 x y::r) F H Q=pX (aq F x) fun k a=>pX (aq F y) fun _ b=>bn P r (a2 F d (.int k (if b<a then b else a))) H Q:=by
 rw[af2]
 cases aq F x<;>try rfl
 cases aq F y<;>rfl
end
section
variable {P:Program} {F:Fr} {H:ab} {Q:dP->Fr->ab->Prop}
theorem agl:eL P .skip F H Q=Q .normal F H:=rfl
theorem agj:eL P .ret F H Q=Q .ret F H:=rfl
theorem agf(id:Nat):eL P (.exit id) F H Q=Q (.exit id) F H:=rfl
theorem agk(x y:gR):eL P (.seq x y) F H Q=eL P x F H (nM (fun az H1=>eL P y az H1 Q) Q):=rfl
theorem age(c:Operand)(x y:gR):eL P (.cond c x y) F H Q=zK (aq F c) fun b=>h8 b (eL P x F H Q) (eL P y F H Q):=by
 simp only[eL]
 cases aq F c<;>try rfl
 rename_i b
 cases b<;>rfl
theorem agd(id:Nat)(x:gR):eL P (.block id x) F H Q=eL P x F H (p5 id Q):=rfl
theorem agh(x:gR):eL P (.loop x) F H Q=q9 (eL P x) Q F H:=rfl
theorem agi(l:List bG):eL P (.ops l) F H Q=bn P l F H (fun az H1=>Q .normal az H1):=rfl
theorem abD{K:Fr->ab->Prop}:nM K Q .normal F H=K F H:=rfl
theorem abE{K:Fr->ab->Prop}:nM K Q .ret F H=Q .ret F H:=rfl
theorem abC{K:Fr->ab->Prop}(id:Nat):nM K Q (.exit id) F H=Q (.exit id) F H:=rfl
theorem Re(id:Nat):p5 id Q .normal F H=Q .normal F H:=rfl
theorem Rf(id:Nat):p5 id Q .ret F H=Q .ret F H:=rfl
theorem Rd(id h2:Nat):p5 id Q (.exit h2) F H=if h2=id then Q .normal F H else Q (.exit h2) F H:=rfl
theorem afI{K:List Value->Prop}:ku P F H [] K=K []:=rfl
theorem afJ{K:List Value->Prop}(i:Nat)(rs:List ResultVar):ku P F H (.tmp i::rs) K=ku P F H rs fun aG=>K (F i::aG):=rfl
theorem afH{K:List Value->Prop}(a ty:Nat)(rs:List ResultVar):ku P F H (.cell a ty::rs) K=sL (F a) fun b i=>e_ ((H[b]?).bind bO.cells?) fun cs=>e_ (dr P ty) fun g=>h8 g (e_ (bA P ty) fun n=>gF (i+n<=cs.length) (ku P F H rs fun aG=>K (.agg ((cs.drop i).take n).toArray::aG))) (e_ cs[i]? fun v=>ku P F H rs fun aG=>K (v::aG)):=by
 simp only[ku,iU]
 cases F a<;>try rfl
 rename_i a
 cases a with
 | none=>rfl
 | some a=>
  obtain⟨b,i,c⟩:=a
  cases c<;>try rfl
  simp only[sL]
  cases(H[b]?).bind bO.cells? with
  | none=>rfl
  | some cs=>
   simp only[e_]
   cases dr P ty with
   | none=>rfl
   | some g=>
    cases g with
    | false=>simp only[h8];cases cs[i]?<;>rfl
    | true=>simp only[h8];cases bA P ty<;>rfl
end
end
universe u v in
inductive bb {α:Sort u} {β:Sort v} (a:α) (b:β):Type
 | mk
def ba(P:Program)(l:List bG)(Q:Fr->ab->Prop)(ax:bb l Q)(F:Fr)(H:ab):Prop:=bn P l F H Q
def hd(P:Program)(x:gR)(Q:dP->Fr->ab->Prop)(ax:bb x Q)(F:Fr)(H:ab):Prop:=eL P x F H Q
def re(P:Program)(rs:List ResultVar)(K:List Value->Prop)(ax:bb rs K)(F:Fr)(H:ab):Prop:=ku P F H rs K
def aT(P:Program)(f:FuncId)(Q:Value->ab->Prop)(ax:bb f Q)(args:List Value)(H:ab):Prop:=aO P f args H Q
def k_(P:Program)(x:gR)(Q:dP->Fr->ab->Prop)(ax:bb x Q)(F:Fr)(H:ab):Prop:=q9 (eL P x) Q F H
def gl{α:Type}(K:α->Prop)(ax:bb K K)(U:Option α):Prop:=e_ U K
def dI(K:Prop)(ax:bb K K)(c:Prop):Prop:=gF c K
def bs(dA cZ:Prop)(ax:bb dA cZ)(b:Bool):Prop:=h8 b dA cZ
def o0(dA cZ:Prop)(ax:bb dA cZ)(U:Option Bool)(w:Bool):Prop:=nV U w dA cZ
def zL(K:Bool->Prop)(ax:bb K K)(v:Value):Prop:=zK v K
def ra(K:IntKind->Int->Prop)(ax:bb K K)(v:Value):Prop:=pX v K
def wJ(K:Nat->Nat->Prop)(ax:bb K K)(v:Value):Prop:=sL v K
def C3(K:Option Addr->Nat->Nat->Prop)(ax:bb K K)(v:Value):Prop:=zN v K
def C2(K:Nat->Nat->Prop)(ax:bb K K)(v:Option Addr):Prop:=zJ v K
def HP(K:ByteArray->Prop)(ax:bb K K)(v:Value):Prop:=HO v K
def zM(K:Array Value->Prop)(ax:bb K K)(v:Value):Prop:=n2 v K
def HR(K:Array Value->Prop)(ax:bb K K)(v:Value):Prop:=C4 v K
def HM(K:TypeId->Bool->List Value->Prop)(ax:bb K K)(v:Option bO):Prop:=HL v K
def HI(K:Nat->Array Value->Array Value->Prop)(ax:bb K K)(v:Value):Prop:=HH v K
@[simp] theorem agG(g:Nat)(a b:Array Value)(K:Nat->Array Value->Array Value->Prop)(ax:bb K K):HI K ax (.func (.func g) a b)=K g a b:=rfl
def HK(K:Addr->Prop)(ax:bb K K)(v:Value):Prop:=HJ v K
@[simp] theorem gm{α:Type}(v:α)(K:α->Prop)(ax:bb K K):gl K ax (some v)=K v:=rfl
@[simp] theorem agv(K:Prop)(ax:bb K K):dI K ax True=K:=QQ K
@[simp] theorem QP(dA cZ:Prop)(ax:bb dA cZ):bs dA cZ ax true=dA:=rfl
@[simp] theorem zB(dA cZ:Prop)(ax:bb dA cZ):bs dA cZ ax false=cZ:=rfl
@[simp] theorem agu(b:Bool)(dA cZ:Prop)(ax:bb dA cZ):bs dA cZ ax (!b)=bs cZ dA .mk b:=by cases b<;>rfl
@[simp] theorem agz(b:Bool)(dA cZ:Prop)(ax:bb dA cZ):o0 dA cZ ax (some b) true=bs dA cZ .mk b:=QV b dA cZ
@[simp] theorem agx(b:Bool)(dA cZ:Prop)(ax:bb dA cZ):o0 dA cZ ax (some b) false=bs cZ dA .mk b:=QU b dA cZ
@[simp] theorem QZ(b:Bool)(K:Bool->Prop)(ax:bb K K):zL K ax (.bool b)=K b:=rfl
@[simp] theorem pY(k:IntKind)(n:Int)(K:IntKind->Int->Prop)(ax:bb K K):ra K ax (.int k n)=K k n:=rfl
@[simp] theorem rb(b i:Nat)(K:Nat->Nat->Prop)(ax:bb K K):wJ K ax (.pointer (some ⟨b,i,none⟩))=K b i:=rfl
@[simp] theorem sM(a:Option Addr)(n c:Nat)(K:Option Addr->Nat->Nat->Prop)(ax:bb K K):C3 K ax (.slice a n c)=K a n c:=rfl
@[simp] theorem sK(b i:Nat)(K:Nat->Nat->Prop)(ax:bb K K):C2 K ax (some ⟨b,i,none⟩)=K b i:=rfl
@[simp] theorem HQ(s:ByteArray)(K:ByteArray->Prop)(ax:bb K K):HP K ax (.string s)=K s:=rfl
@[simp] theorem agH(s:Array Value)(K:Array Value->Prop)(ax:bb K K):zM K ax (.agg s)=K s:=rfl
@[simp] theorem agJ(s:Array Value)(K:Array Value->Prop)(ax:bb K K):HR K ax (.tuple s)=K s:=rfl
@[simp] theorem HN(e:TypeId)(l:Bool)(cs:List Value)(K:TypeId->Bool->List Value->Prop)(ax:bb K K):HM K ax (some (.own e l cs))=K e l cs:=rfl
@[simp] theorem agI(a:Addr)(K:Addr->Prop)(ax:bb K K):HK K ax (.pointer (some a))=K a:=rfl
theorem dI.mk{c K:Prop}{ax:bb K K}(h:c)(ak:K):dI K ax c:=⟨h,ak⟩
theorem bs.mk{b:Bool}{dA cZ:Prop}{ax:bb dA cZ}(o:b=true->dA)(aa:b=false->cZ):bs dA cZ ax b:=h8.mk o aa
theorem bs.bZ{p:Prop}[Decidable p]{dA cZ:Prop}{ax:bb dA cZ}(o:p->dA)(aa:¬p->cZ):bs dA cZ ax (decide p):=h8.bZ o aa
theorem aT.mk{P:Program}{f:FuncId}{Q:Value->ab->Prop}{ax:bb f Q}{args:List Value}{H:ab}{ad:Value->ab->Prop}(h:aO P f args H ad)(av:∀v H1,ad v H1->Q v H1):aT P f Q ax args H:=aO.mono h av
theorem k_.mk{P:Program}{x:gR}{Q:dP->Fr->ab->Prop}{ax:bb x Q}(ai:Nat->Fr->ab->Prop){F:Fr}{H:ab}(n:Nat)(aH:ai n F H)
  (round:∀n F H,ai n F H->∀K:Fr->ab->Prop,(∀m az H1,m<n->ai m az H1->K az H1)->hd P x (nM K Q) .mk F H):k_ P x Q ax F H:=q9.inv ai (fun n F H h=>round n F H h _ fun m az H1 hm dj=>⟨m,hm,dj⟩) n F H aH
theorem aO.b9{P:Program}{f:FuncId}{args:List Value}{H:ab}{ad:Value->ab->Prop}(h:∀Q:Value->ab->Prop,(∀v H1,ad v H1->Q v H1)->aO P f args H Q):aO P f args H ad:=h ad fun _ _ h=>h
theorem aO.Zy{P:Program}{f:FuncId}{fn:Func}{x:fB}{args:List Value}{H:ab}{Q:Value->ab->Prop}(aB:P.funcs[f]?=some fn)(aJ:(fn.name== "runtime.NumGoroutine")=false)(ae:comp P fn=some x)(ar:args.length<=fn.ntmps)
  (h:hd P x.code (qS P x.results Q) .mk (jK args) H):aO P f args H Q:=aO.XJ aB aJ ae ar h
section
variable {P:Program} {r:List bG} {F:Fr} {H:ab} {Q:Fr->ab->Prop}
@[simp] theorem PV(ax:bb ([]:List bG) Q):ba P [] Q ax F H=Q F H:=rfl
@[simp] theorem acC(d:Nat)(x:Operand)(ax:bb (I d x::r) Q):ba P (I d x::r) Q ax F H=ba P r Q .mk (a2 F d (aq F x)) H:=af3 d x
@[simp] theorem akI(d:Nat)(x:Operand)(ax:bb (ah d x::r) Q):ba P (ah d x::r) Q ax F H=ba P r Q .mk (a2 F d (aq F x)) H:=af9 d x
@[simp] theorem akC(d t:Nat)(x:Operand)(ax:bb (m3 d t x::r) Q):ba P (m3 d t x::r) Q ax F H=dI (ba P r Q .mk (a2 F d (.iface t (aq F x))) H) .mk (P.concrete t=true):=af1 d t x
@[simp] theorem akB(d:Nat)(fn:Fn)(a b:Array Operand)(ax:bb (vY d fn a b::r) Q):ba P (vY d fn a b::r) Q ax F H=ba P r Q .mk (a2 F d (.func fn (a.map (aq F)) (b.map (aq F)))) H:=af0 d fn a b
@[simp] theorem akw(d f:Nat)(args:List Operand)(ax:bb (aR d f args::r) Q):ba P (aR d f args::r) Q ax F H=aT P f (fun v H1=>ba P r Q .mk (a2 F d v) H1) .mk (args.map (aq F)) H:=afO d f args
@[simp] theorem akx(f:Nat)(args:List Operand)(ax:bb (z4 f args::r) Q):ba P (z4 f args::r) Q ax F H=aT P f (fun v H1=>ba P r Q .mk F H1) .mk (args.map (aq F)) H:=afP f args
@[simp] theorem akG(d f:Nat)(args:List Operand)(ax:bb (bh (aR d f args)::r) Q):ba P (bh (aR d f args)::r) Q ax F H=aT P f (fun v H1=>Ext H H1/\ba P r Q .mk (a2 F d v) H1) .mk (args.map (aq F)) H:=af7 d f args
theorem qW{d t:Nat}{a5:List (Nat×Operand)}{z:Value}{pl:List (Nat×Nat)}(aM:dD P t=some z)(dS:flat z=true)(aU:lE P t=some pl)(ax:bb (dF d t a5::r) Q):
  ba P (dF d t a5::r) Q ax F H=gl (fun out=>ba P r Q .mk (a2 F d (.agg out.toArray)) H) .mk (kA pl z.cells.toList (a5.map fun p=>(p.1,aq F p.2))):=afm aM dS aU
theorem nO{d s t:Nat}{x:Operand}{eb k:IntKind}(ao:ki P s=some eb)(bM:ki P t=some k)(J:isInt (aq F x)=true)(ax:bb (cg d s t x::r) Q):ba P (cg d s t x::r) Q ax F H=ba P r Q .mk (a2 F d (.int k (k.wrap (intOf (aq F x))))) H:=afp ao bM J
@[simp] theorem acy(j:Nat)(w:Bool)(x:bG)(ax:bb (aN j w x::r) Q):(ba P (aN j w x::r) Q ax F H)=(o0 ((ba P (h7 x::r) Q .mk F H)) ((ba P r Q .mk (ga F x.d undef) H)) .mk (hG (F j)) w):=aft j w x
@[simp] theorem akH(d:Nat)(c a b:Operand)(ax:bb (cG d c a b::r) Q):(ba P (cG d c a b::r) Q ax F H)=(zL (fun t=>(ba P r Q .mk (a2 F d (if t=true then aq F a else aq F b)) H)) .mk (aq F c)):=afB d c a b
@[simp] theorem so(d e:Nat)(ax:bb (bQ d e::r) Q):(ba P (bQ d e::r) Q ax F H)=(gl (fun z=>(dI ((ba P r Q .mk (a2 F d (.pointer (some ⟨H.length,0,none⟩))) (H++[.own e false z.cells.toList]))) .mk (flat z=true/\(bA P e).isSome=true))) .mk (dD P e)):=afl d e
@[simp] theorem akv(d e:Nat)(x:Operand)(ax:bb (cq d e x::r) Q):(ba P (cq d e x::r) Q ax F H)=(dI ((ba P r Q .mk (a2 F d (.pointer (some ⟨H.length,0,none⟩))) (H++[.own e false (aq F x).cells.toList]))) .mk ((bA P e).isSome=true)):=QE d e x
@[simp] theorem CB(d t:Nat)(x:Operand)(ax:bb (aE d t x::r) Q):(ba P (aE d t x::r) Q ax F H)=(wJ (fun b i=>(gl (fun cs=>(gl (fun g=>(bs ((gl (fun n=>(dI ((ba P r Q .mk (a2 F d (.agg ((cs.drop i).take n).toArray)) H)) .mk (i+n<=cs.length))) .mk (bA P t))) ((gl (fun v=>(ba P r Q .mk (a2 F d v) H)) .mk cs[i]?)) .mk g)) .mk (dr P t))) .mk ((H[b]?).bind bO.cells?))) .mk (aq F x)):=afw d t x
@[simp] theorem PZ(t:Nat)(x y:Operand)(ax:bb (st t x y::r) Q):(ba P (st t x y::r) Q ax F H)=(wJ (fun b i=>(HM (fun e l cs=>(dI ((ba P r Q .mk F (H.set b (.own e l (mq cs i (aq F y).cells.toList))))) .mk (bA P t=some (aq F y).cells.size/\i+(aq F y).cells.size<=cs.length/\((aq F y).cells.toList.all (·.oneCell'))=true))) .mk H[b]?)) .mk (aq F x)):=afC t x y
@[simp] theorem akF(d:Nat)(x:Operand)(ax:bb (jh d x::r) Q):(ba P (jh d x::r) Q ax F H)=(HK (fun a=>(ba P r Q .mk (a2 F d (.pointer (some a))) H)) .mk (aq F x)):=afA d x
@[simp] theorem PO(d:Nat)(op:BinOp)(t:Nat)(x y:Operand)(ax:bb (bi d op t x y::r) Q):(ba P (bi d op t x y::r) Q ax F H)=(gl (fun v=>(ba P r Q .mk (a2 F d v) H)) .mk (eh P op t (aq F x) (aq F y))):=afn d op t x y
@[simp] theorem akJ(d:Nat)(op:UnOp)(x:Operand)(ax:bb (un d op x::r) Q):(ba P (un d op x::r) Q ax F H)=(gl (fun v=>(ba P r Q .mk (a2 F d v) H)) .mk (pO op (aq F x))):=afD d op x
@[simp] theorem PS(d s:Nat)(x:Operand)(f:Nat)(ax:bb (a7 d s x f::r) Q):(ba P (a7 d s x f::r) Q ax F H)=(wJ (fun b i=>(gl (fun off=>(ba P r Q .mk (a2 F d (.pointer (some ⟨b,i+off,none⟩))) H)) .mk (fW P s f))) .mk (aq F x)):=afr d s x f
@[simp] theorem akA(d s:Nat)(x:Operand)(f:Nat)(ax:bb (nk d s x f::r) Q):(ba P (nk d s x f::r) Q ax F H)=(zM (fun cs=>(gl (fun c=>(gl (fun v=>(ba P r Q .mk (a2 F d v) H)) .mk (p8 cs c))) .mk (pc P s f))) .mk (aq F x)):=afs d s x f
@[simp] theorem il(d t:Nat)(x i:Operand)(ax:bb (bg d t x i::r) Q):(ba P (bg d t x i::r) Q ax F H)=(C3 (fun a len _=>(ra (fun _ n=>(gl (fun e=>(gl (fun R=>(C2 (fun b U=>(dI ((ba P r Q .mk (a2 F d (.pointer (some ⟨b,U+n.toNat*R,none⟩))) H)) .mk (0<=n/\n<len))) .mk a)) .mk (bA P e))) .mk (fi P t))) .mk (aq F i))) .mk (aq F x)):=afu d t x i
@[simp] theorem k3(d t:Nat)(x i:Operand)(ax:bb (ew d t x i::r) Q):(ba P (ew d t x i::r) Q ax F H)=(HP (fun s=>(ra (fun _ n=>(dI ((ba P r Q .mk (a2 F d (.int .u8 ((s.data.getD n.toNat 0).toNat:Int))) H)) .mk (iG P t=true/\0<=n/\n<s.size))) .mk (aq F i))) .mk (aq F x)):=afv d t x i
@[simp] theorem akz(d:Nat)(x:Operand)(i:Nat)(ax:bb (ex d x i::r) Q):(ba P (ex d x i::r) Q ax F H)=(HR (fun aG=>(gl (fun v=>(ba P r Q .mk (a2 F d v) H)) .mk aG[i]?)) .mk (aq F x)):=afq d x i
@[simp] theorem aky(d:Nat)(x:Operand)(args:List Operand)(ax:bb (mC d x args::r) Q):(ba P (mC d x args::r) Q ax F H)=(HI (fun g a b=>(aT P g ((fun v H1=>(ba P r Q .mk (a2 F d v) H1))) .mk (a.toList++args.map (aq F)++b.toList) H)) .mk (aq F x)):=afo d x args
@[simp] theorem jk(d t:Nat)(x:Operand)(ax:bb (bt d t x::r) Q):(ba P (bt d t x::r) Q ax F H)=(gl (fun(n:Nat)=>(ba P r Q .mk (a2 F d (.int .i64 n)) H)) .mk (lenOf P t (aq F x))):=afx d t x
@[simp] theorem akE(d:Nat)(b1:List Nat)(x y:Operand)(ax:bb (r8 d b1 x y::r) Q):(ba P (r8 d b1 x y::r) Q ax F H)=(ra (fun k a=>(ra (fun _ b=>(ba P r Q .mk (a2 F d (.int k (if b>a then b else a))) H)) .mk (aq F y))) .mk (aq F x)):=afz d b1 x y
@[simp] theorem akD(d:Nat)(b1:List Nat)(x y:Operand)(ax:bb (tS d b1 x y::r) Q):(ba P (tS d b1 x y::r) Q ax F H)=(ra (fun k a=>(ra (fun _ b=>(ba P r Q .mk (a2 F d (.int k (if b<a then b else a))) H)) .mk (aq F y))) .mk (aq F x)):=afy d b1 x y
end
section
variable {P:Program} {F:Fr} {H:ab} {Q:dP->Fr->ab->Prop}
@[simp] theorem akS(ax:bb (.skip:gR) Q):(hd P .skip Q ax F H)=Q .normal F H:=agl
@[simp] theorem akR(ax:bb (.ret:gR) Q):(hd P .ret Q ax F H)=Q .ret F H:=agj
@[simp] theorem akO(id:Nat)(ax:bb ((.exit id):gR) Q):(hd P (.exit id) Q ax F H)=Q (.exit id) F H:=agf id
@[simp] theorem cQ(x y:gR)(ax:bb ((.seq x y):gR) Q):(hd P (.seq x y) Q ax F H)=(hd P x (nM ((fun az H1=>(hd P y Q .mk az H1))) Q) .mk F H):=agk x y
@[simp] theorem akN(c:Operand)(x y:gR)(ax:bb ((.cond c x y):gR) Q):(hd P (.cond c x y) Q ax F H)=(zL (fun b=>(bs ((hd P x Q .mk F H)) ((hd P y Q .mk F H)) .mk b)) .mk (aq F c)):=age c x y
@[simp] theorem G8(id:Nat)(x:gR)(ax:bb ((.block id x):gR) Q):(hd P (.block id x) Q ax F H)=(hd P x (p5 id Q) .mk F H):=agd id x
@[simp] theorem akP(x:gR)(ax:bb ((.loop x):gR) Q):(hd P (.loop x) Q ax F H)=(k_ P x Q .mk F H):=agh x
@[simp] theorem akQ(l:List bG)(ax:bb ((.ops l):gR) Q):(hd P (.ops l) Q ax F H)=(ba P l ((fun az H1=>Q .normal az H1)) .mk F H):=agi l
@[simp] theorem akL{K:List Value->Prop}(ax:bb ([]:List ResultVar) K):(re P [] K ax F H)=K []:=afI
@[simp] theorem akM{K:List Value->Prop}(i:Nat)(rs:List ResultVar)(ax:bb ((.tmp i::rs):List ResultVar) K):(re P (.tmp i::rs) K ax F H)=(re P rs (fun aG=>K (F i::aG)) .mk F H):=afJ i rs
@[simp] theorem akK{K:List Value->Prop}(a ty:Nat)(rs:List ResultVar)(ax:bb ((.cell a ty::rs):List ResultVar) K):(re P (.cell a ty::rs) K ax F H)=(wJ (fun b i=>(gl (fun cs=>(gl (fun g=>(bs ((gl (fun n=>(dI ((re P rs (fun aG=>K (.agg ((cs.drop i).take n).toArray::aG)) .mk F H)) .mk (i+n<=cs.length))) .mk (bA P ty))) ((gl (fun v=>(re P rs (fun aG=>K (v::aG)) .mk F H)) .mk cs[i]?)) .mk g)) .mk (dr P ty))) .mk ((H[b]?).bind bO.cells?))) .mk (F a)):=afH a ty rs
@[simp] theorem akr{rs:List ResultVar}{ad:Value->ab->Prop}:qS P rs ad .normal F H=re P rs (fun aG=>ad (bd aG) H) .mk F H:=rfl
@[simp] theorem aks{rs:List ResultVar}{ad:Value->ab->Prop}:qS P rs ad .ret F H=re P rs (fun aG=>ad (bd aG) H) .mk F H:=rfl
attribute [simp] abD abE abC Re Rf Rd
end
def ey(H:ab)(e R:Nat)(v:Value)(n:Nat)(cs:List Value):Prop:=
 ∃a cap,v= .slice a n cap/\n<=cap/\cs.length=n*R/\(0<cap->∃b i X all,a=some ⟨b,i,none⟩/\H[b]?=some X/\X.cells?=some all/\X.elem?=some e/\i+n*R<=all.length/\cs=(all.drop i).take (n*R))
theorem Ext.aw{H H1 aS:ab}(h:Ext H H1)(cA:Ext H1 aS):Ext H aS:=by
 obtain⟨N,rfl,aJ⟩:=h
 obtain⟨M,rfl,hm⟩:=cA
 refine⟨N++M,by simp,fun x J=>?_⟩
 rcases List.mem_append.1 J with J | J
 ·exact aJ x J
 ·exact hm x J
theorem Ext.snoc{cE H:ab}(h:Ext cE H)(e:TypeId)(l:Bool)(cs:List Value):Ext cE (H++[.own e l cs]):=h.aw ⟨[.own e l cs],rfl,fun x J c5 eN=>by simp at J;subst J;simp⟩
theorem Ext.set{cE H:ab}(h:Ext cE H){b:Nat}(ag:cE.length<=b){X:bO}(aW:∀e cs,X≠ .ro e cs):Ext cE (H.set b X):=by
 obtain⟨N,rfl,aJ⟩:=h
 refine⟨N.set (b-cE.length) X,by rw[List.set_append_right _ _ ag],fun x J e cs=>?_⟩
 rcases List.mem_or_eq_of_mem_set J with J | rfl
 ·exact aJ x J e cs
 ·exact aW e cs
theorem ey.ext{H H1:ab}{e R n:Nat}{v:Value}{cs:List Value}(h:ey H e R v n cs)(J:Ext H H1):ey H1 e R v n cs:=by
 obtain⟨a,cap,an,o,aa,aA⟩:=h
 refine⟨a,cap,an,o,aa,fun ae=>?_⟩
 obtain⟨b,i,X,all,a0,a4,bI⟩:=aA ae
 exact⟨b,i,X,all,a0,J.get_some a4,bI⟩
theorem ey.len{H:ab}{e R n:Nat}{v:Value}{cs:List Value}(h:ey H e R v n cs):∃a cap,v= .slice a n cap:=by
 obtain⟨a,cap,an,-⟩:=h;exact⟨a,cap,an⟩
theorem ey.at{H:ab}{e R n:Nat}{v:Value}{cs:List Value}(h:ey H e R v n cs)(aJ:0<n):∃b i cap X all,v= .slice (some ⟨b,i,none⟩) n cap/\H[b]?=some X/\X.cells?=some all/\i+n*R<=all.length/\∀k,k<n*R->all[i+k]?=cs[k]?:=by
 obtain⟨a,cap,rfl,o,aa,aA⟩:=h
 obtain⟨b,i,X,all,rfl,a4,bI,cj,e8,g9⟩:=aA (by omega)
 refine⟨b,i,cap,X,all,rfl,a4,bI,e8,fun k ak=>?_⟩
 rw[g9,List.getElem?_take_of_lt ak,List.getElem?_drop]
theorem ey.src{H:ab}{e R n:Nat}{v:Value}{cs:List Value}(h:ey H e R v n cs){m:Nat}(hm:m<=n):Src H R v n m (cs.take (m*R)):=by
 obtain⟨a,cap,rfl,o,aa,aA⟩:=h
 by_cases aH:m=0
 ·subst aH;simpa using Src.wA
 ·obtain⟨b,i,X,all,rfl,a4,bI,cj,e8,rfl⟩:=aA (by omega)
  have A_:m*R<=n*R:=Nat.mul_le_mul_right _ hm
  rw[List.take_take,Nat.min_eq_left A_]
  exact .row a4 bI (by omega) hm (by omega)
theorem ey.nil(H:ab)(e R:Nat):ey H e R (.slice none 0 0) 0 []:=⟨none,0,rfl,Nat.le_refl _,by simp,fun h=>absurd h (by omega)⟩
theorem ey.void(H:ab)(e R:Nat)(a:Option Addr):ey H e R (.slice a 0 0) 0 []:=⟨a,0,rfl,Nat.le_refl _,by simp,fun h=>absurd h (by omega)⟩
section
variable {P:Program} {r:List bG} {F:Fr} {H:ab} {Q:Fr->ab->Prop}
theorem jl{b:Bool}{d:Option Nat}{op:Op}{ax:bb ((⟨b,none,d,op⟩:bG)::r) Q}(an:isVal op=false)(hm:jE op=true)(aJ:cb P (aq F) H op=none){v:Value}{H1:ab}(av:∀U:Oper,U.op=op->fm P (aq F) H U v H1)(aB:∀U:Oper,U.op=op->bW P U=false)
  (ag:b=true\/Ext H H1)(h:ba P r Q .mk (ga F d v) H1):ba P (⟨b,none,d,op⟩::r) Q ax F H:=af4 an hm aJ (fun U aQ=>⟨aB U aQ,av U aQ⟩) ag h
theorem PY{eE:Bool}{d t e R n l h:Nat}{x:Operand}{bc af:Option Operand}{cs:List Value}{ax:bb ((⟨eE,none,some d,.slice t x bc af none⟩:bG)::r) Q}(bL:ey H e R (aq F x) n cs)(hu:P.underlying t=some (.slice e))(ao:bA P e=some R)(ar:dN (aq F) bc=some l)(cO:eY (aq F) n af=some h)(o:l<=h)(aa:h<=n)
  (K:∀au,ey H e R au (h-l) ((cs.drop (l*R)).take ((h-l)*R))->ba P r Q .mk (a2 F d au) H):ba P ((⟨eE,none,some d,.slice t x bc af none⟩:bG)::r) Q ax F H:=by
 obtain⟨a,cap,an,aA,bj,bJ⟩:=bL
 have yi:cb P (aq F) H (.slice t x bc af none)=none:=by simp only[cb,an]
 have a_:∀U:Oper,U.op= .slice t x bc af none->bW P U=false:=fun U aQ=>by simp[bW,aQ]
 have hlen:((cs.drop (l*R)).take ((h-l)*R)).length=(h-l)*R:=by
  have:h*R<=n*R:=Nat.mul_le_mul_right _ aa
  have:l*R<=h*R:=Nat.mul_le_mul_right _ o
  have:(h-l)*R=h*R-l*R:=Nat.sub_mul _ _ _
  simp[bj];omega
 by_cases ae:cap=0
 ·have jX:n=0:=by omega
  have Vv:h=0:=by omega
  have qs:l=0:=by omega
  subst ae jX Vv qs
  refine jl (v:= .slice a 0 0) (H1:=H) rfl rfl yi (fun U aQ=> .zh aQ hu ao an ar cO) a_ (.inr (Ext.refl H)) (K _ ?_)
  have:(cs.drop (0*R)).take ((0-0)*R)=[]:=by simp
  rw[this]
  exact ey.void H e R a
 ·obtain⟨b,i,X,all,rfl,a4,bI,cj,e8,g9⟩:=bJ (by omega)
  by_cases mR:l<cap
  ·refine jl (v:= .slice (some ⟨b,i+l*R,none⟩) (h-l) (cap-l)) (H1:=H) rfl rfl yi (fun U aQ=> .slice aQ hu ao an a4 cj ar cO o (by omega) mR) a_ (.inr (Ext.refl H)) (K _ ?_)
   refine⟨_,_,rfl,by omega,hlen,fun _=>⟨b,i+l*R,X,all,rfl,a4,bI,cj,?_,?_⟩⟩
   ·have:h*R<=n*R:=Nat.mul_le_mul_right _ aa
    have:l*R<=h*R:=Nat.mul_le_mul_right _ o
    have:(h-l)*R=h*R-l*R:=Nat.sub_mul _ _ _
    omega
   ·rw[g9,List.drop_take,List.drop_drop,List.take_take]
    congr 1
    have:h*R<=n*R:=Nat.mul_le_mul_right _ aa
    have:(h-l)*R=h*R-l*R:=Nat.sub_mul _ _ _
    omega
  ·have bk:l=cap:=by omega
   have bp:h=cap:=by omega
   have e0:n=cap:=by omega
   subst bk bp
   refine jl (v:= .slice (some ⟨b,i,none⟩) 0 0) (H1:=H) rfl rfl yi (fun U aQ=> .zg aQ hu ao an (by omega) ar cO) a_ (.inr (Ext.refl H)) (K _ ?_)
   rw[Nat.sub_self,Nat.zero_mul,List.take_zero]
   exact ey.void H e R _
theorem acG{d t e R n l h:Nat}{x:Operand}{bc af:Option Operand}{cs:List Value}{ax:bb (fh d t x bc af none::r) Q}(bL:ey H e R (aq F x) n cs)(hu:P.underlying t=some (.slice e))(ao:bA P e=some R)(ar:dN (aq F) bc=some l)(cO:eY (aq F) n af=some h)(o:l<=h)(aa:h<=n)
  (K:∀au,ey H e R au (h-l) ((cs.drop (l*R)).take ((h-l)*R))->ba P r Q .mk (a2 F d au) H):ba P (fh d t x bc af none::r) Q ax F H:=PY (eE:=true) bL hu ao ar cO o aa K
theorem zn{d t e R bF l c:Nat}{x y:Operand}{eK cX:IntKind}{z:Value}{ax:bb (ms d t x y::r) Q}(hu:P.underlying t=some (.slice e))(ao:bA P e=some R)(ag:bytes? P e=some bF)(aM:dD P e=some z)(dS:flat z=true)(dd:z.cells.size=R)
  (J:aq F x= .int eK (l:Int))(aI:aq F y= .int cX (c:Int))(cV:0<R)(dZ:0<bF)(mR:l<=c)(ae:0<c)(bC:bF*c<=281474976710656)
  (K:ba P r Q .mk (a2 F d (.slice (some ⟨H.length,0,none⟩) l c)) (H++[.own e false (made z (c*R))])):ba P (ms d t x y::r) Q ax F H:=
 jl (v:= .slice (some ⟨H.length,0,none⟩) l c) rfl rfl rfl (fun U aQ=> .make aQ hu ao ag aM dS dd J aI cV dZ mR ae bC) (fun U aQ=>by simp[bW,aQ]) (.inl rfl) K
theorem CC{d t e R bF:Nat}{x y:Operand}{eK cX:IntKind}{ax:bb (ms d t x y::r) Q}(hu:P.underlying t=some (.slice e))(ao:bA P e=some R)(ag:bytes? P e=some bF)(J:aq F x= .int eK 0)(aI:aq F y= .int cX 0)
  (K:ba P r Q .mk (a2 F d (.slice (some ⟨0,0,none⟩) 0 0)) H):ba P (ms d t x y::r) Q ax F H:=
 jl (v:= .slice (some ⟨0,0,none⟩) 0 0) rfl rfl rfl (fun U aQ=> .vX aQ hu ao ag J aI) (fun U aQ=>by simp[bW,aQ]) (.inl rfl) K
theorem sq{d t e R len:Nat}{a5:List (Nat×Operand)}{z:Value}{out:List Value}{ax:bb (eP d t len a5::r) Q}(hu:P.underlying t=some (.slice e))(ao:bA P e=some R)(aM:dD P e=some z)(dS:flat z=true)(dd:z.cells.size=R)
  (cV:0<R)(ar:0<len)(bC:len*R<=16777216)(aQ:jr (fun i=>some (i*R,R)) (made z (len*R)) (a5.map fun p=>(p.1,aq F p.2))=some out)(dQ:out.length=len*R)
  (K:ba P r Q .mk (a2 F d (.slice (some ⟨H.length,0,none⟩) len len)) (H++[.own e false out])):ba P (eP d t len a5::r) Q ax F H:=by
 have aB:Instr.fill (fun i=>some (i*R,R)) (made z (len*R)).toArray (a5.toArray.toList.map fun p=>(p.1,aq F p.2))=some out.toArray:=by
  rw[fill_eq]
  have:(a5.toArray.toList.map fun p=>(p.1,aq F p.2))=a5.map fun p=>(p.1,aq F p.2):=by simp
  rw[this]
  simp only
  rw[aQ]
  rfl
 have av:∀U:Oper,U.op= .buildSlice t len a5.toArray->fm P (aq F) H U (.slice (some ⟨H.length,0,none⟩) len len) (H++[.own e false out]):=fun U fF=> .build (out:=out.toArray) fF hu ao aM dS dd cV ar bC aB (by simpa using dQ)
 exact jl rfl rfl rfl av (fun U aQ=>by simp[bW,aQ]) (.inl rfl) K
theorem sr{d t e R:Nat}{ax:bb (eP d t 0 []::r) Q}(hu:P.underlying t=some (.slice e))(ao:bA P e=some R)(K:ba P r Q .mk (a2 F d (.slice (some ⟨0,0,none⟩) 0 0)) H):ba P (eP d t 0 []::r) Q ax F H:=
 jl (v:= .slice (some ⟨0,0,none⟩) 0 0) rfl rfl rfl (fun U aQ=> .wW aQ hu ao) (fun U aQ=>by simp[bW,aQ]) (.inl rfl) K
def iq(H:ab)(k e R:Nat)(v:Value)(n:Nat)(cs:List Value):Prop:=cs.length=n*R/\
 ((n=0/\(v= .slice none 0 0\/∃i,v= .slice (some ⟨0,i,none⟩) 0 0))\/∃b i cap l all,v= .slice (some ⟨b,i,none⟩) n cap/\0<cap/\n<=cap/\k<=b/\H[b]?=some (.own e l all)/\i+cap*R<=all.length/\cs=(all.drop i).take (n*R))
theorem iq.fh{H:ab}{k e R n:Nat}{v:Value}{cs:List Value}(h:iq H k e R v n cs):ey H e R v n cs:=by
 obtain⟨o,⟨rfl,aa⟩ | ⟨b,i,cap,l,all,rfl,a0,a4,bI,cj,e8,g9⟩⟩:=h
 ·have:cs=[]:=List.eq_nil_of_length_eq_zero (by simpa using o)
  subst this
  rcases aa with rfl | ⟨i,rfl⟩
  ·exact ey.nil H e R
  ·exact ey.void H e R _
 ·have:n*R<=cap*R:=Nat.mul_le_mul_right _ a4
  exact⟨_,_,rfl,a4,o,fun _=>⟨b,i,_,all,rfl,cj,rfl,rfl,by omega,g9⟩⟩
theorem iq.ext{H H1:ab}{k e R n:Nat}{v:Value}{cs:List Value}(h:iq H k e R v n cs)(J:Ext H H1):iq H1 k e R v n cs:=by
 obtain⟨o,aa | ⟨b,i,cap,l,all,q⟩⟩:=h
 ·exact⟨o,.inl aa⟩
 ·exact⟨o,.inr ⟨b,i,cap,l,all,q.1,q.2.1,q.2.2.1,q.2.2.2.1,J.get_some q.2.2.2.2.1,q.2.2.2.2.2⟩⟩
theorem iq.nil(H:ab)(k e R:Nat):iq H k e R (.slice none 0 0) 0 []:=⟨by simp,.inl ⟨rfl,.inl rfl⟩⟩
theorem iq.void(H:ab)(k e R i:Nat):iq H k e R (.slice (some ⟨0,i,none⟩) 0 0) 0 []:=⟨by simp,.inl ⟨rfl,.inr ⟨i,rfl⟩⟩⟩
def inBlock(v:Value)(b:Nat):Prop:=∃i n c,v= .slice (some ⟨b,i,none⟩) n c
theorem G5{d b1 cY e R bF k n m:Nat}{s x:Operand}{z:Value}{cs news:List Value}{ax:bb (ap d b1 cY s x::r) Q}(cw:iq H k e R (aq F s) n cs)(dk:Src H R (aq F x) m m news)(hu:P.underlying b1=some (.slice e))(J:fQ P cY=true)(ao:bA P e=some R)(ag:bytes? P e=some bF)(aM:dD P e=some z)(dd:z.cells.size=R)
  (dZ:0<bF)(bC:(n+m)*bF<=140737488355328)(ht:(news.all (·.oneCell'))=true)(oF:news.length=m*R)(ak:k<=H.length)
  (K:∀au aF,iq aF k e R au (n+m) (cs++news)->(∀cE:ab,cE.length<=k->Ext cE H->Ext cE aF)->(∀b X,H[b]?=some X->(inBlock (aq F s) b->X.elem?≠some e)->aF[b]?=some X)->(∀b,inBlock au b->inBlock (aq F s) b\/b=H.length)->H.length<=aF.length->ba P r Q .mk (a2 F d au) aF):ba P (ap d b1 cY s x::r) Q ax F H:=by
 obtain⟨ar,cw⟩:=cw
 have a_:∀U:Oper,U.op= .call {callee:= .builtin .append,args:= #[s,x],argTypes:= #[b1,cY]}->bW P U=false:=fun U aQ=>by simp[bW,aQ]
 have aJ:cb P (aq F) H (.call {callee:= .builtin .append,args:= #[s,x],argTypes:= #[b1,cY]})=none:=rfl
 by_cases hm:m=0
 ·subst hm
  have x2:news=[]:=List.eq_nil_of_length_eq_zero (by simpa using oF)
  subst x2
  obtain⟨a,iC,cap,an,tp⟩:∃a iC cap,aq F s= .slice a iC cap/\iC=n:=by
   rcases cw with⟨rfl,h | ⟨i,h⟩⟩ | ⟨b,i,cap,l,all,h,-⟩
   ·exact⟨_,_,_,h,rfl⟩
   ·exact⟨_,_,_,h,rfl⟩
   ·exact⟨_,_,_,h,rfl⟩
  refine jl (v:= .slice a iC cap) (H1:=H) rfl rfl aJ (fun U aQ=> .wO aQ hu J ao dk an) a_ (.inl rfl) ?_
  exact K _ H (by rw[List.append_nil,Nat.add_zero,<-an];exact⟨ar,cw⟩) (fun cE _ h=>h) (fun b X h _=>h) (fun b h=> .inl (by rw[an];exact h)) (Nat.le_refl _)
 ·have tn:0<m:=by omega
  have new:∀eN:List Value,eN.length=(n+m)*R->eN=cs++news->iq (H++[.own e true eN]) k e R (.slice (some ⟨H.length,0,none⟩) (n+m) (n+m)) (n+m) (cs++news):=fun eN o aa=>
   ⟨by rw[<-aa,o],.inr ⟨H.length,0,n+m,true,eN,rfl,by omega,Nat.le_refl _,ak,by simp,by omega,by rw[List.drop_zero,<-aa,<-o,List.take_length]⟩⟩
  rcases cw with⟨rfl,h⟩ | ⟨b,i,cap,l,all,an,a0,a4,bI,cj,e8,g9⟩
  ·have gy:cs=[]:=List.eq_nil_of_length_eq_zero (by simpa using ar)
   subst gy
   obtain⟨a,aL,an⟩:∃a:Option Addr,(a=none\/∃i,a=some ⟨0,i,none⟩)/\aq F s= .slice a 0 0:=by
    rcases h with h | ⟨i,h⟩
    ·exact⟨none,.inl rfl,h⟩
    ·exact⟨_,.inr ⟨i,rfl⟩,h⟩
   refine jl (v:= .slice (some ⟨H.length,0,none⟩) m m) (H1:=H++[.own e true news]) rfl rfl aJ (fun U aQ=> .wS aQ hu J ao ag aM dd dk tn dZ (by simpa using bC) aL an) a_ (.inl rfl) ?_
   have:=new news (by simpa using oF) rfl
   simp only[Nat.zero_add]at this
   refine K _ _ (by simpa using this) (fun cE _ h=>h.snoc _ _ _) (fun b X h _=>?_) (fun b ag=>?_) (by simp)
   ·rw[List.getElem?_append_left (cJ.1 h).1];exact h
   ·obtain⟨i,n,c,he⟩:=ag
    simp at he
    exact .inr he.1.1.symm
  ·by_cases g5:n+m<=cap
   ·have rD:(n+m)*R<=cap*R:=Nat.mul_le_mul_right _ g5
    have qi:(n+m)*R=n*R+m*R:=Nat.add_mul _ _ _
    have oB:i+n*R+news.length<=all.length:=by omega
    refine jl (v:= .slice (some ⟨b,i,none⟩) (n+m) cap) (H1:=H.set b (.own e l (dp all (i+n*R) news))) rfl rfl aJ (fun U aQ=> .wQ aQ hu J ao dk g5 a0 cj oB ht an) a_ (.inl rfl) ?_
    have g2:b<H.length:=(cJ.1 cj).1
    refine K _ _ ⟨by rw[List.length_append,ar,oF,qi],.inr ⟨b,i,cap,l,dp all (i+n*R) news,rfl,a0,g5,bI,by simp[g2],by rw[nN oB];exact e8,?_⟩⟩ (fun cE aH h=>h.set (by omega) (by simp)) (fun cy X h df=>?_) (fun cy df=>?_) (by simp)
    ·rw[g9]
     have bk:dp all (i+n*R) news=all.take (i+n*R)++news++all.drop (i+n*R+news.length):=rfl
     rw[bk,List.append_assoc,List.drop_append_of_le_length (by simp;omega),List.take_append,List.drop_take]
     have aA:i+n*R-i=n*R:=by omega
     have bj:((all.drop i).take (n*R)).length=n*R:=by simp;omega
     rw[aA,bj,qi,List.take_take,Nat.min_eq_right (by omega),Nat.add_sub_cancel_left,<-oF,List.take_append_of_le_length (Nat.le_refl _),List.take_length]
    ·have:b≠cy:=fun c5=>by
      subst c5
      rw[cj]at h
      exact df ⟨i,n,cap,an⟩ (by rw[<-Option.some.inj h];rfl)
     rw[List.getElem?_set_ne this];exact h
    ·obtain⟨j0,ec,dY,he⟩:=df
     simp at he
     exact .inl (by rw[<-he.1.1];exact⟨i,n,cap,an⟩)
   ·have hx:i+n*R<=all.length:=by
     have:n*R<=cap*R:=Nat.mul_le_mul_right _ a4
     omega
    have g2:b<H.length:=(cJ.1 cj).1
    have qi:(n+m)*R=n*R+m*R:=Nat.add_mul _ _ _
    have gd:((all.drop i).take (n*R)++news).length=(n+m)*R:=by rw[List.length_append,<-g9,ar,oF,qi]
    have fresh:∀au:Value,au= .slice (some ⟨H.length,0,none⟩) (n+m) (n+m)->∀cy,inBlock au cy->inBlock (aq F s) cy\/cy=H.length:=fun au e cy df=>by
     obtain⟨j0,ec,dY,he⟩:=df
     rw[e]at he
     simp at he
     exact .inr he.1.1.symm
    cases l with
    | false=>
     refine jl (v:= .slice (some ⟨H.length,0,none⟩) (n+m) (n+m)) (H1:=H++[.own e true ((all.drop i).take (n*R)++news)]) rfl rfl aJ (fun U aQ=> .wP aQ hu J ao ag aM dd dk tn dZ bC cj hx (by omega) a0 an) a_ (.inl rfl) ?_
     refine K _ _ (new _ gd (by rw[g9])) (fun cE _ h=>h.snoc _ _ _) (fun b X h _=>?_) (fresh _ rfl) (by simp)
     rw[List.getElem?_append_left (cJ.1 h).1];exact h
    | true=>
     refine jl (v:= .slice (some ⟨H.length,0,none⟩) (n+m) (n+m)) (H1:=H.set b .dead++[.own e true ((all.drop i).take (n*R)++news)]) rfl rfl aJ (fun U aQ=> .wR aQ hu J ao ag aM dd dk tn dZ bC cj hx (by omega) a0 ht an) a_ (.inl rfl) ?_
     have rP:iq (H.set b .dead++[.own e true ((all.drop i).take (n*R)++news)]) k e R (.slice (some ⟨H.length,0,none⟩) (n+m) (n+m)) (n+m) (cs++news):=
      ⟨by rw[List.length_append,ar,oF,qi],.inr ⟨H.length,0,n+m,true,(all.drop i).take (n*R)++news,rfl,by omega,Nat.le_refl _,ak,by rw[List.getElem?_append_right (by simp)];simp,by rw[gd];omega,by rw[List.drop_zero,<-gd,List.take_length,g9]⟩⟩
     refine K _ _ rP (fun cE aH h=>(h.set (by omega) (by simp)).snoc _ _ _) (fun cy X h df=>?_) (fresh _ rfl) (by simp)
     have cF:b≠cy:=fun c5=>by
      subst c5
      rw[cj]at h
      exact df ⟨i,n,cap,an⟩ (by rw[<-Option.some.inj h];rfl)
     rw[List.getElem?_append_left (by simp;exact(cJ.1 h).1),List.getElem?_set_ne cF];exact h
theorem ue{eE:Bool}{d t l h:Nat}{x:Operand}{bc af:Option Operand}{s:ByteArray}{ax:bb ((⟨eE,none,some d,.slice t x bc af none⟩:bG)::r) Q}(J:aq F x= .string s)(bM:iG P t=true)(ar:dN (aq F) bc=some l)(cO:eY (aq F) s.size af=some h)(o:l<=h)(aa:h<=s.size)
  (K:ba P r Q .mk (a2 F d (.string (s.extract l h))) H):ba P ((⟨eE,none,some d,.slice t x bc af none⟩:bG)::r) Q ax F H:=by
 have ao:cb P (aq F) H (.slice t x bc af none)=some (.string (s.extract l h),H):=by
  simp only[cb,J,ar,cO]
  rw[if_pos ⟨bM,o,aa⟩]
 show bn P _ F H Q
 simp only[bn,gx,ao]
 exact⟨fun h=>by simp[h3]at h,K⟩
theorem CF{d t l h:Nat}{x:Operand}{bc af:Option Operand}{s:ByteArray}{ax:bb (fh d t x bc af none::r) Q}(J:aq F x= .string s)(bM:iG P t=true)(ar:dN (aq F) bc=some l)(cO:eY (aq F) s.size af=some h)(o:l<=h)(aa:h<=s.size)
  (K:ba P r Q .mk (a2 F d (.string (s.extract l h))) H):ba P (fh d t x bc af none::r) Q ax F H:=ue (eE:=true) J bM ar cO o aa K
theorem acD{d t l h:Nat}{x:Operand}{bc af:Option Operand}{s:ByteArray}{ax:bb (bh (fh d t x bc af none)::r) Q}(J:aq F x= .string s)(bM:iG P t=true)(ar:dN (aq F) bc=some l)(cO:eY (aq F) s.size af=some h)(o:l<=h)(aa:h<=s.size)
  (K:ba P r Q .mk (a2 F d (.string (s.extract l h))) H):ba P (bh (fh d t x bc af none)::r) Q ax F H:=ue (eE:=false) J bM ar cO o aa K
theorem PQ{d s t e:Nat}{x:Operand}{xs:List Int}{ax:bb (cg d s t x::r) Q}(ao:P.underlying s=some (.slice e))(he:P.underlying e=some (.int .u8))(aD:P.underlying t=some .string)(bL:ey H e 1 (aq F x) xs.length (xs.map (Value.int .u8)))
  (K:ba P r Q .mk (a2 F d (.string (strOfNums xs))) H):ba P (cg d s t x::r) Q ax F H:=by
 obtain⟨a,cap,an⟩:=bL.len
 have dk:=bL.src (Nat.le_refl _)
 rw[Nat.mul_one,List.take_of_length_le (by simp)]at dk
 have aJ:cb P (aq F) H (.convert s t x)=none:=by simp only[cb,an]
 exact jl (v:= .string (strOfNums xs)) (H1:=H) rfl rfl aJ (fun U aQ=> .str aQ ao he aD ⟨_,_,_,an⟩ dk) (fun U aQ=>by simp[bW,aQ,r4,ao]) (.inr (Ext.refl H)) K
end
section
variable {P:Program}
theorem gx.mono{b:Bool}{F:Fr}{H:ab}{K er:Value->ab->Prop}(ak:∀v H1,K v H1->er v H1){op:Op}(h:gx P b F H K op):gx P b F H er op:=by
 have main:(match cb P (aq F) H op with
   | some (v,H1)=>(h3 op=true->b=true)/\K v H1
   | none=>jE op=true/\∃v H1,n1 P (aq F) H op v H1/\(b=true\/Ext H H1)/\K v H1)->(match cb P (aq F) H op with
   | some (v,H1)=>(h3 op=true->b=true)/\er v H1
   | none=>jE op=true/\∃v H1,n1 P (aq F) H op v H1/\(b=true\/Ext H H1)/\er v H1):=by
  cases cb P (aq F) H op with
  | some p=>exact fun h=>⟨h.1,ak _ _ h.2⟩
  | none=>exact fun⟨o,v,H1,aa,aA,bj⟩=>⟨o,v,H1,aa,aA,ak _ _ bj⟩
 cases op<;>try exact main h
 rename_i c
 obtain⟨callee,args,ld⟩:=c
 cases callee with
 | value f=>
  simp only[gx]at h⊢
  split at h
  ·exact h.mono fun v H1 cO=>⟨cO.1,ak _ _ cO.2⟩
  ·exact h.elim
 | invoke r m=>exact main h
 | builtin b=>exact main h
theorem bn.mono:∀{l:List bG} {F:Fr} {H:ab} {Q cl:Fr->ab->Prop},(∀F H,Q F H->cl F H)->bn P l F H Q->bn P l F H cl
 | [],F,H,Q,cl,av,h=>av _ _ h
 | x::rest,F,H,Q,cl,av,h=>by
  simp only[bn]at h⊢
  split
  ·rename_i aX
   rw[aX]at h
   exact gx.mono (fun v H1=>bn.mono av) h
  ·rename_i j w aX
   rw[aX]at h
   simp only at h
   split
   ·rename_i ag
    rw[if_pos ag]at h
    exact gx.mono (fun v H1=>bn.mono av) h
   ·rename_i ag
    rw[if_neg ag]at h
    exact bn.mono av h
theorem fL.mono:∀{l:List bG} {F:Fr} {H:ab} {ad W:List Nat} {Q cl:Fr->ab->Prop},(∀F H,Q F H->cl F H)->fL P l F H ad W Q->fL P l F H ad W cl
 | [],F,H,ad,W,Q,cl,av,h=>av _ _ h
 | x::rest,F,H,ad,W,Q,cl,av,h=>by
  simp only[fL]at h⊢
  split
  ·rename_i aX
   rw[aX]at h
   exact gZ.mono (fun v H1 ft fS=>fL.mono av) h
  ·rename_i j w aX
   rw[aX]at h
   simp only at h
   split
   ·rename_i ag
    rw[if_pos ag]at h
    exact gZ.mono (fun v H1 ft fS=>fL.mono av) h
   ·rename_i ag
    rw[if_neg ag]at h
    exact fL.mono av h
theorem eL.mono:∀{x:gR} {F:Fr} {H:ab} {Q cl:dP->Fr->ab->Prop},(∀e F H,Q e F H->cl e F H)->eL P x F H Q->eL P x F H cl
 | .skip,F,H,Q,cl,av,h=>av _ _ _ h
 | .ret,F,H,Q,cl,av,h=>av _ _ _ h
 | .exit id,F,H,Q,cl,av,h=>av _ _ _ h
 | .seq x y,F,H,Q,cl,av,h=>eL.mono (x:=x) (fun e az H1 o=>by
   cases e with
   | normal=>exact eL.mono (x:=y) av o
   | exit id=>exact av _ _ _ o
   | ret=>exact av _ _ _ o) h
 | .cond c x y,F,H,Q,cl,av,h=>by
  simp only[eL]at h⊢
  split
  ·rename_i b ag
   rw[ag]at h
   simp only at h
   cases b with
   | true=>exact eL.mono (x:=x) av h
   | false=>exact eL.mono (x:=y) av h
  ·rename_i ag
   split at h
   ·rename_i b df;exact(ag b df).elim
   ·exact h
 | .block id x,F,H,Q,cl,av,h=>eL.mono (x:=x) (fun e az H1 o=>by
   cases e with
   | normal=>exact av _ _ _ o
   | ret=>exact av _ _ _ o
   | exit h2=>
    simp only[p5]at o⊢
    split
    ·rename_i af;rw[if_pos af]at o;exact av _ _ _ o
    ·rename_i af;rw[if_neg af]at o;exact av _ _ _ o) h
 | .loop x,F,H,Q,cl,av,h=>by
  simp only[eL]at h⊢
  induction h with
  | round ai ag dj a1=>
   exact .round ai (eL.mono (x:=x) (fun e az H1 o=>by
    cases e with
    | normal=>exact o
    | exit id=>exact av _ _ _ o
    | ret=>exact av _ _ _ o) ag) a1
 | .ops l,F,H,Q,cl,av,h=>bn.mono (fun az H1 o=>av _ _ _ o) h
 | .opsL l,F,H,Q,cl,av,h=>fL.mono (fun az H1 o=>av _ _ _ o) h
def HG(ad:Fr->ab->Prop):dP->Fr->ab->Prop
 | .normal,F,H=>ad F H
 | _,_,_=>False
@[simp] theorem agF(ad:Fr->ab->Prop)(F:Fr)(H:ab):HG ad .normal F H=ad F H:=rfl
theorem hd.cut{x:gR}{Q:dP->Fr->ab->Prop}{K:Fr->ab->Prop}{F:Fr}{H:ab}{ax:bb x (nM K Q)}(ad:Fr->ab->Prop)(o:∀er:Fr->ab->Prop,(∀az H1,ad az H1->er az H1)->hd P x (HG er) .mk F H)(aa:∀az H1,ad az H1->K az H1):hd P x (nM K Q) ax F H:=
 eL.mono (x:=x) (fun e az H1 h=>by cases e with
  | normal=>exact aa _ _ h
  | exit id=>exact h.elim
  | ret=>exact h.elim) (o ad fun _ _ h=>h)
end
def db(H:ab)(e:Nat)(v:Value)(l:List Nat):Prop:=ey H e 1 v l.length (l.map fun(n:Nat)=>Value.int .u32 (n:Int))/\∀x∈l,x<4294967296
theorem db.ext{H H1:ab}{e:Nat}{v:Value}{l:List Nat}(h:db H e v l)(J:Ext H H1):db H1 e v l:=⟨h.1.ext J,h.2⟩
theorem db.at{H:ab}{e:Nat}{v:Value}{l:List Nat}(h:db H e v l)(aJ:0<l.length):∃b i cap X all,v= .slice (some ⟨b,i,none⟩) l.length cap/\H[b]?=some X/\X.cells?=some all/\i+l.length<=all.length/\∀k,k<l.length->all[i+k]?=some (.int .u32 (l[k]?.getD 0:Nat)):=by
 obtain⟨b,i,cap,X,all,o,aa,aA,bj,bJ⟩:=h.1.at aJ
 refine⟨b,i,cap,X,all,o,aa,aA,by omega,fun k ak=>?_⟩
 rw[bJ k (by omega),List.getElem?_map,bz ak]
 simp[bz ak]
theorem db.len{H:ab}{e:Nat}{v:Value}{l:List Nat}(h:db H e v l):∃a cap,v= .slice a l.length cap:=h.1.len
theorem db.lt{H:ab}{e:Nat}{v:Value}{l:List Nat}(h:db H e v l)(k:Nat):l[k]?.getD 0<4294967296:=by
 by_cases ak:k<l.length
 ·rw[bz ak];exact h.2 _ (List.getElem_mem ak)
 ·rw[List.getElem?_eq_none (by omega)];decide
theorem PF(l:List Nat)(h:0<l.length):l.take (l.length-1)++[l[l.length-1]?.getD 0]=l:=by
 rw[bz (by omega),Option.getD_some,<-List.dropLast_eq_take,<-List.getLast_eq_getElem (by intro e;simp[e]at h),List.dropLast_concat_getLast]
def val:List Nat->Nat
 | []=>0
 | x::l=>x+4294967296*val l
theorem nT(a b:List Nat):val (a++b)=val a+4294967296^a.length*val b:=by
 induction a with
 | nil=>simp[val]
 | cons x a a1=>simp only[List.cons_append,val,a1,List.length_cons,Nat.pow_succ];grind
theorem Hh(k:Nat):val (List.replicate k 0)=0:=by
 induction k with
 | zero=>rfl
 | succ k a1=>simp[List.replicate_succ,val,a1]
theorem ks{l:List Nat}(h:∀x∈l,x<4294967296):val l<4294967296^l.length:=by
 induction l with
 | nil=>simp[val]
 | cons x l a1=>
  have o:=h x (by simp)
  have aa:=a1 fun y aI=>h y (by simp[aI])
  simp only[val,List.length_cons,Nat.pow_succ]
  omega
def Trim(l:List Nat):Prop:=l.getLast?≠some 0
theorem Trim.nil:Trim []:=by simp[Trim]
theorem Trim.le{l:List Nat}(h:Trim l)(aJ:l≠[]):4294967296^(l.length-1)<=val l:=by
 have e:l=l.take (l.length-1)++[l[l.length-1]?.getD 0]:=(PF l (List.length_pos_iff.2 aJ)).symm
 have aH:l[l.length-1]?.getD 0≠0:=fun aH=>h (by
  rw[List.getLast?_eq_getElem?]
  rw[bz (by have:=List.length_pos_iff.2 aJ;omega)]at aH⊢
  simpa using aH)
 have ar:(l.take (l.length-1)).length=l.length-1:=by simp
 have:val l=val (l.take (l.length-1))+4294967296^(l.length-1)*(l[l.length-1]?.getD 0):=by
  conv=>lhs;rw[e,nT,ar]
  simp[val]
 rw[this]
 have:4294967296^(l.length-1)*1<=4294967296^(l.length-1)*(l[l.length-1]?.getD 0):=Nat.mul_le_mul_left _ (by omega)
 omega
theorem Trim.zero{l:List Nat}(h:Trim l):val l=0↔l=[]:=by
 constructor
 ·intro aH
  by_cases aJ:l=[]
  ·exact aJ
  ·have:=h.le aJ
   have:=Nat.pow_pos (n:=l.length-1) (show 0<4294967296 by decide)
   omega
 ·rintro rfl;rfl
theorem Trim.vW{a b:List Nat}(ag:Trim b)(aL:∀x∈a,x<4294967296)(h:a.length<b.length):val a<val b:=by
 have o:=ks aL
 have aa:=ag.le (by intro e;simp[e]at h)
 have:4294967296^a.length<=4294967296^(b.length-1):=Nat.pow_le_pow_right (by decide) (by omega)
 omega
theorem Trim.length_le{l:List Nat}(h:Trim l){n:Nat}(an:val l<4294967296^n):l.length<=n:=by
 by_cases aJ:l=[]
 ·simp[aJ]
 ·have o:=h.le aJ
  have:4294967296^(l.length-1)<4294967296^n:=by omega
  have:=(Nat.pow_lt_pow_iff_right (show 1<4294967296 by decide)).1 this
  omega
section
variable {P:Program} {r:List bG} {F:Fr} {H:ab} {Q:Fr->ab->Prop}
theorem Co:∀(aG cs pre:List Value),cs.length=aG.length->oW (pre++cs) pre.length aG=pre++aG
 | [],cs,pre,h=>by
  have:cs=[]:=List.eq_nil_of_length_eq_zero (by simpa using h)
  simp[oW,this]
 | v::aG,[],pre,h=>by simp at h
 | v::aG,c::cs,pre,h=>by
  simp only[oW]
  have o:(pre++c::cs).set pre.length v=(pre++[v])++cs:=by
   rw[List.set_append_right _ _ (Nat.le_refl _),Nat.sub_self]
   simp
  have aa:pre.length+1=(pre++[v]).length:=by simp
  rw[o,aa,Co aG cs (pre++[v]) (by simpa using h)]
  simp
theorem qK(z:Value)(n:Nat):(made z n).length=n:=by simp[made]
theorem acu{eE:Bool}{d1 d2 t b1 cY e R bF k n:Nat}{s x:Operand}{z:Value}{cs:List Value}{ax:bb ((⟨eE,none,some d1,.buildSlice t 1 #[(0,x)]⟩:bG)::ap d2 b1 cY s (T d1)::r) Q}(cw:iq H k e R (aq F s) n cs)(fG:∀v,aq (a2 F d1 v) s=aq F s)
  (bM:P.underlying t=some (.slice e))(hu:P.underlying b1=some (.slice e))(J:fQ P cY=true)(ao:bA P e=some R)(ag:bytes? P e=some bF)(aM:dD P e=some z)(dS:flat z=true)(dd:z.cells.size=R)(cV:0<R)(rW:R<=1000)
  (dZ:0<bF)(bC:(n+1)*bF<=140737488355328)(an:(aq F x).cells.toList.length=R)(ht:((aq F x).cells.toList.all (·.oneCell'))=true)(ak:k<=H.length)
  (K:∀u au aF,iq aF k e R au (n+1) (cs++(aq F x).cells.toList)->(∀cE:ab,cE.length<=k->Ext cE H->Ext cE aF)->(∀b X,H[b]?=some X->(inBlock (aq F s) b->X.elem?≠some e)->aF[b]?=some X)->ba P r Q .mk (a2 (a2 F d1 u) d2 au) aF):
  ba P ((⟨eE,none,some d1,.buildSlice t 1 #[(0,x)]⟩:bG)::ap d2 b1 cY s (T d1)::r) Q ax F H:=by
 have eG:(made z (1*R)).length=R:=by rw[qK,Nat.one_mul]
 have aQ:jr (fun i=>some (i*R,R)) (made z (1*R)) [(0,aq F x)]=some (aq F x).cells.toList:=by
  simp only[jr]
  rw[if_pos ⟨an,by rw[eG];omega⟩]
  have:=Co (aq F x).cells.toList (made z (1*R)) [] (by rw[eG,an])
  simpa using this
 have aB:Instr.fill (fun i=>some (i*R,R)) (made z (1*R)).toArray ((#[(0,x)]:Array (Nat×Operand)).toList.map fun p=>(p.1,aq F p.2))=some (aq F x).cells:=by
  rw[fill_eq]
  simp only[List.map_cons,List.map_nil]
  rw[aQ]
  simp
 have av:∀U:Oper,U.op= .buildSlice t 1 #[(0,x)]->fm P (aq F) H U (.slice (some ⟨H.length,0,none⟩) 1 1) (H++[.own e false (aq F x).cells.toList]):=fun U fF=> .build (out:=(aq F x).cells) fF bM ao aM dS dd cV (by omega) (by omega) aB (by have:=an;simp at this;omega)
 refine jl rfl rfl rfl av (fun U aQ=>by simp[bW,aQ]) (.inr ((Ext.refl H).snoc _ _ _)) ?_
 show ba P (ap d2 b1 cY s (T d1)::r) Q .mk (a2 F d1 _) _
 have dk:Src (H++[.own e false (aq F x).cells.toList]) R (.slice (some ⟨H.length,0,none⟩) 1 1) 1 1 (aq F x).cells.toList:=by
  have:=Src.row (H:=H++[.own e false (aq F x).cells.toList]) (R:=R) (b:=H.length) (i:=0) (n:=1) (m:=1) (c:=1) (x:= .own e false (aq F x).cells.toList) (cs:=(aq F x).cells.toList) (by simp) rfl (by omega) (Nat.le_refl _) (by omega)
  rw[List.drop_zero,Nat.one_mul,<-an,List.take_length]at this
  rw[an]at this
  exact this
 have mH:iq (H++[.own e false (aq F x).cells.toList]) k e R (aq (a2 F d1 (.slice (some ⟨H.length,0,none⟩) 1 1)) s) n cs:=by
  rw[fG]
  exact cw.ext ((Ext.refl H).snoc _ _ _)
 refine G5 mH (by simpa[aq,T,a2]using dk) hu J ao ag aM dd dZ bC ht (by omega) (by simp;omega) fun au aF o aa aA _ _=>?_
 refine K _ au aF o (fun cE aH bu=>aa cE aH (bu.snoc _ _ _)) (fun b X aW ag=>aA b X ?_ (by rw[fG];exact ag))
 rw[List.getElem?_append_left (cJ.1 aW).1]
 exact aW
end
def cC(a9:Nat->Option bO)(H:ab):ab:=H.mapIdx fun b x=>(a9 b).getD x
def Fit(a9:Nat->Option bO)(H:ab):Prop:=∀b x,a9 b=some x->H[b]?=some .dead/\∃e l cs,x= .own e l cs
section
variable {a9:Nat->Option bO} {H:ab}
theorem kn(a9:Nat->Option bO)(H:ab):(cC a9 H).length=H.length:=by simp[cC]
theorem k1(a9:Nat->Option bO)(H:ab)(b:Nat):(cC a9 H)[b]?=(H[b]?).map fun x=>(a9 b).getD x:=by simp[cC]
theorem Fit.y0{X:bO}{b:Nat}(h:Fit a9 H)(aW:H[b]?=some X)(aD:X≠ .dead):a9 b=none:=by
 cases aU:a9 b with
 | none=>rfl
 | some x=>have:=(h b x aU).1;rw[aW]at this;exact absurd (Option.some.inj this) aD
theorem Fit.aak{X:bO}{cs:List Value}{b:Nat}(h:Fit a9 H)(aW:H[b]?=some X)(ae:X.cells?=some cs):a9 b=none:=h.y0 aW (by rintro rfl;simp[bO.cells?]at ae)
theorem Fit.aal{X:bO}{e:TypeId}{b:Nat}(h:Fit a9 H)(aW:H[b]?=some X)(ae:X.elem?=some e):a9 b=none:=h.y0 aW (by rintro rfl;simp[bO.elem?]at ae)
theorem Fit.v3{e:TypeId}{l:Bool}{cs:List Value}{b:Nat}(h:Fit a9 H)(aW:H[b]?=some (.own e l cs)):a9 b=none:=h.y0 aW (by simp)
theorem B6{b:Nat}(aU:a9 b=none):(cC a9 H)[b]?=H[b]?:=by rw[k1,aU];cases H[b]?<;>rfl
theorem Fit.get{X:bO}{b:Nat}(h:Fit a9 H)(aW:H[b]?=some X)(aD:X≠ .dead):(cC a9 H)[b]?=some X:=by rw[B6 (h.y0 aW aD)];exact aW
theorem Fit.uU{X:bO}{cs:List Value}{b:Nat}(h:Fit a9 H)(aW:H[b]?=some X)(ae:X.cells?=some cs):(cC a9 H)[b]?=some X:=by rw[B6 (h.aak aW ae)];exact aW
theorem Fit.lt{b:Nat}{x:bO}(h:Fit a9 H)(aU:a9 b=some x):b<H.length:=(cJ.1 (h b x aU).1).1
theorem Fit.app(h:Fit a9 H)(N:ab):Fit a9 (H++N)/\cC a9 (H++N)=cC a9 H++N:=by
 refine⟨fun b x aU=>?_,?_⟩
 ·rw[List.getElem?_append_left (h.lt aU)];exact h b x aU
 ·apply List.ext_getElem?
  intro b
  rw[k1]
  by_cases ag:b<H.length
  ·rw[List.getElem?_append_left ag,List.getElem?_append_left (by rw[kn];exact ag),k1]
  ·have aU:a9 b=none:=by
    cases aU:a9 b with
    | none=>rfl
    | some x=>exact absurd (h.lt aU) ag
   rw[List.getElem?_append_right (by omega),List.getElem?_append_right (by rw[kn];omega),kn,aU]
   cases N[b-H.length]?<;>rfl
theorem Fit.set{b:Nat}(h:Fit a9 H)(aU:a9 b=none)(x:bO):Fit a9 (H.set b x)/\cC a9 (H.set b x)=(cC a9 H).set b x:=by
 refine⟨fun c y ae=>?_,?_⟩
 ·have:b≠c:=fun e=>by rw[e,ae]at aU;cases aU
  rw[List.getElem?_set_ne this];exact h c y ae
 ·apply List.ext_getElem?
  intro c
  rw[k1]
  by_cases EC:b=c
  ·subst EC
   rw[aU]
   by_cases ar:b<H.length
   ·rw[List.getElem?_set_self ar,List.getElem?_set_self (by rw[kn];exact ar)];rfl
   ·rw[List.getElem?_eq_none (by simp;omega),List.getElem?_eq_none (by simp[kn];omega)];rfl
  ·rw[List.getElem?_set_ne EC,List.getElem?_set_ne EC,k1]
theorem sl{R m n:Nat}{v:Value}{news:List Value}(aB:Fit a9 H)(h:Src H R v m n news):Src (cC a9 H) R v m n news:=by
 cases h with
 | wA=>exact .wA
 | row J ae aJ hm bC=>exact .row (aB.uU J ae) ae aJ hm bC
 | str o=>exact .str o
theorem DE{H1:ab}(aB:Fit a9 H)(h:Ext H H1):Ext (cC a9 H) (cC a9 H1):=by
 obtain⟨N,rfl,aJ⟩:=h
 exact⟨N,(aB.app N).2,aJ⟩
theorem Om{P:Program}{aP:Operand->Value}{U:Oper}{v:Value}{H1:ab}(aB:Fit a9 H)(h:fm P aP H U v H1):fm P aP (cC a9 H) U v (cC a9 H1)/\Fit a9 H1:=by
 have ap:∀X:bO,Fit a9 (H++[X])/\cC a9 (H++[X])=cC a9 H++[X]:=fun X=>aB.app [X]
 have ar:=kn a9 H
 cases h with
 | tU ao ti an h=>exact⟨.tU ao ti an h,aB⟩
 | alloc h aM dS ao=>refine⟨?_,(ap _).1⟩;rw[(ap _).2,<-ar];exact .alloc h aM dS ao
 | box h ao=>refine⟨?_,(ap _).1⟩;rw[(ap _).2,<-ar];exact .box h ao
 | yP h aL J aW ae an=>exact⟨.yP h aL J (aB.uU aW ae) ae an,aB⟩
 | yQ h aL ao J aW ae bC=>exact⟨.yQ h aL ao J (aB.uU aW ae) ae bC,aB⟩
 | store h ao J aW bC o=>obtain⟨a0,a4⟩:=aB.set (aB.v3 aW) (.own _ _ _);refine⟨?_,a0⟩;rw[a4];exact .store h ao J (aB.get aW (by simp)) bC o
 | slice h hu ao J aW he ar eR o aa aZ=>exact⟨.slice h hu ao J (by rw[B6 (aB.aal aW he)];exact aW) he ar eR o aa aZ,aB⟩
 | zg h hu ao J rD ar eR=>exact⟨.zg h hu ao J rD ar eR,aB⟩
 | zh h hu ao J ar eR=>exact⟨.zh h hu ao J ar eR,aB⟩
 | Cs h hu ao J ar eR hm aA=>exact⟨.Cs h hu ao J ar eR hm aA,aB⟩
 | Cr h hu ao J ar eR hm=>exact⟨.Cr h hu ao J ar eR hm,aB⟩
 | make h hu ao ag aM dS dd J aI cV dZ mR ae bC=>refine⟨?_,(ap _).1⟩;rw[(ap _).2,<-ar];exact .make h hu ao ag aM dS dd J aI cV dZ mR ae bC
 | vX h hu ao ag J aI=>exact⟨.vX h hu ao ag J aI,aB⟩
 | build h hu ao aM dS dd cV dK bC Vl tq=>refine⟨?_,(ap _).1⟩;rw[(ap _).2,<-ar];exact .build h hu ao aM dS dd cV dK bC Vl tq
 | wW h hu ao=>exact⟨.wW h hu ao,aB⟩
 | wO h hu J ao dk an=>exact⟨.wO h hu J ao (sl aB dk) an,aB⟩
 | wS h hu J ao ag aM dd dk aJ dZ bC aL an=>refine⟨?_,(ap _).1⟩;rw[(ap _).2,<-ar];exact .wS h hu J ao ag aM dd (sl aB dk) aJ dZ bC aL an
 | wQ h hu J ao dk g5 ae aW bC ht an=>obtain⟨a0,a4⟩:=aB.set (aB.v3 aW) (.own _ _ _);refine⟨?_,a0⟩;rw[a4];exact .wQ h hu J ao (sl aB dk) g5 ae (aB.get aW (by simp)) bC ht an
 | wP h hu J ao ag aM dd dk aJ dZ bC aW hx g5 ae an=>refine⟨?_,(ap _).1⟩;rw[(ap _).2,<-ar];exact .wP h hu J ao ag aM dd (sl aB dk) aJ dZ bC (aB.get aW (by simp)) hx g5 ae an
 | wR h hu J ao ag aM dd dk aJ dZ bC aW hx g5 ae ht an=>
  obtain⟨a0,a4⟩:=aB.set (aB.v3 aW) .dead
  obtain⟨bI,cj⟩:=a0.app [.own _ true _]
  refine⟨?_,bI⟩
  rw[cj,a4,<-ar]
  exact .wR h hu J ao ag aM dd (sl aB dk) aJ dZ bC (aB.get aW (by simp)) hx g5 ae ht an
 | copy h hu ao dk aJ jX aW bC ht an=>obtain⟨a0,a4⟩:=aB.set (aB.v3 aW) (.own _ _ _);refine⟨?_,a0⟩;rw[a4];exact .copy h hu ao (sl aB dk) aJ jX (aB.get aW (by simp)) bC ht an
 | w0 h hu ao dk aJ an=>exact⟨.w0 h hu ao (sl aB dk) aJ an,aB⟩
 | str h ao he aD kf dk=>exact⟨.str h ao he aD kf (sl aB dk),aB⟩
theorem abn{P:Program}{t:List Value}{rs:List ResultVar}{aG:List Value}(aB:Fit a9 H)(h:mz P t H rs aG):mz P t (cC a9 H) rs aG:=by
 induction h with
 | nil=>exact .nil
 | tmp ao a1=>exact .tmp a1
 | z1 aL J aW ae an ao a1=>exact .z1 aL J (aB.uU aW ae) ae an a1
 | z2 aL aJ J aW ae bC ao a1=>exact .z2 aL aJ J (aB.uU aW ae) ae bC a1
def pW.heap:pW->ab
 | .code _ _ H=>H
 | .op _ _ _ H=>H
 | .call _ _ H=>H
def Out.heap:Out->ab
 | .code _ _ H=>H
 | .val _ H=>H
def ZE(a9:Nat->Option bO):pW->pW
 | .code c t H=> .code c t (cC a9 H)
 | .op ops U t H=> .op ops U t (cC a9 H)
 | .call f args H=> .call f args (cC a9 H)
def aas(a9:Nat->Option bO):Out->Out
 | .code e t H=> .code e t (cC a9 H)
 | .val v H=> .val v (cC a9 H)
theorem ZI{P:Program}{ops:Array Oper}{U:Oper}{t:List Value}{H1:ab}{v:Value}{g:Option (Nat×Option bO)}(aB:Fit a9 H)(h:o2 P ops U t H v H1 g):o2 P ops U t (cC a9 H) v (cC a9 H1) g/\Fit a9 H1:=by
 cases g with
 | none=>obtain⟨o,rfl⟩:=h;exact⟨⟨o,rfl⟩,aB⟩
 | some bF=>
  obtain⟨b,y⟩:=bF
  obtain⟨o,aa,aA,bj,bJ,ds⟩:=h
  have aU:a9 b=none:=aB.y0 (bz aA) (by rw[bz aA]at bj;exact fun e=>bj (by rw[e]))
  have he:=B6 (H:=H) aU
  cases y with
  | none=>
   simp only[m0]at bJ
   subst bJ
   exact⟨⟨o,aa,by rw[kn];exact aA,by rw[he];exact bj,rfl,fun aF s_=>ds aF (by rw[s_,he])⟩,aB⟩
  | some x=>
   simp only[m0]at bJ
   subst bJ
   obtain⟨a0,a4⟩:=aB.set aU x
   exact⟨⟨o,aa,by rw[kn];exact aA,by rw[he];exact bj,a4,fun aF s_=>ds aF (by rw[s_,he])⟩,a0⟩
theorem abk{P:Program}{j:pW}{U:Out}(h:ee P j U):Fit a9 j.heap->ee P (ZE a9 j) (aas a9 U)/\Fit a9 U.heap:=by
 induction h with
 | skip=>exact fun aB=>⟨.skip,aB⟩
 | ret=>exact fun aB=>⟨.ret,aB⟩
 | exit=>exact fun aB=>⟨.exit,aB⟩
 | Cn o aa lz qF=>exact fun aB=>let⟨eg,f1⟩:=lz aB;let⟨fZ,f2⟩:=qF f1;⟨.Cn eg fZ,f2⟩
 | zb o he lz=>exact fun aB=>let⟨eg,f1⟩:=lz aB;⟨.zb eg he,f1⟩
 | cond ae ak h a1=>exact fun aB=>let⟨eg,f1⟩:=a1 aB;⟨.cond ae ak eg,f1⟩
 | block h a1=>exact fun aB=>let⟨eg,f1⟩:=a1 aB;⟨.block eg,f1⟩
 | BV o aa lz qF=>exact fun aB=>let⟨eg,f1⟩:=lz aB;let⟨fZ,f2⟩:=qF f1;⟨.BV eg fZ,f2⟩
 | yS o he lz=>exact fun aB=>let⟨eg,f1⟩:=lz aB;⟨.yS eg he,f1⟩
 | region T V a3 ak h bf aD a1=>
  rename_i id ops draw
  intro aB
  have oC:∀i,i<=ops.size->Fit a9 (a3 i):=by
   intro i
   induction i with
   | zero=>exact fun _=>aB
   | succ i FZ=>exact fun af=>(a1 i _ (Array.getElem?_eq_getElem (show i<ops.size by omega)) (FZ (by omega))).2
  have lt:∀{i:Nat} {U:Oper},ops[i]?=some U->i<=ops.size:=fun aQ=>Nat.le_of_lt (Array.getElem?_eq_some_iff.1 aQ).1
  exact⟨.region T V (fun i=>cC a9 (a3 i)) ak (fun i U aQ=>(a1 i U aQ (oC i (lt aQ))).1) bf (fun vu=>⟨(aD vu).1,fun i U aQ a_=>((aD vu).2 i U aQ a_).imp (fun x=>x) fun he=>DE (oC i (lt aQ)) he⟩),oC _ (Nat.le_refl _)⟩
 | Cj T V a3 ep ak h bf eF ar aD vM a1=>
  rename_i id ops draw
  intro aB
  have oC:∀i,i<=ops.size->Fit a9 (a3 i):=by
   intro i
   induction i with
   | zero=>exact fun _=>aB
   | succ i FZ=>exact fun af=>(a1 i _ (Array.getElem?_eq_getElem (show i<ops.size by omega)) (FZ (by omega))).2
  have lt:∀{i:Nat} {U:Oper},ops[i]?=some U->i<=ops.size:=fun aQ=>Nat.le_of_lt (Array.getElem?_eq_some_iff.1 aQ).1
  exact⟨.Cj T V (fun i=>cC a9 (a3 i)) ep ak (fun i U aQ=>(a1 i U aQ (oC i (lt aQ))).1) bf eF (fun i U aQ=>(ZI (oC i (lt aQ)) (ar i U aQ)).1) aD vM,oC _ (Nat.le_refl _)⟩
 | tW hw=>exact fun aB=>⟨.tW hw,aB⟩
 | v8 hw a_ h=>exact fun aB=>⟨.v8 hw a_ h,aB⟩
 | sb hw a_ h=>exact fun aB=>let⟨a0,a4⟩:=Om aB h;⟨.sb hw a_ a0,a4⟩
 | v7 hw a_ aQ xO aX aJ ag h a1=>exact fun aB=>let⟨eg,f1⟩:=a1 aB;⟨.v7 hw a_ aQ xO aX aJ ag eg,f1⟩
 | call xO ag h he al a1=>exact fun aB=>let⟨eg,f1⟩:=a1 aB;⟨.call xO ag eg he (abn f1 al),f1⟩
 | z0 h aQ a1=>
  intro aB
  obtain⟨eg,f1⟩:=a1 aB
  obtain⟨e,l,cs,J⟩:=aQ
  obtain⟨a0,a4⟩:=f1.set (f1.v3 J) .dead
  refine⟨?_,a0⟩
  show ee P _ (.val _ (cC a9 (List.set _ _ .dead)))
  simp only[Out.heap]at a4
  rw[a4]
  exact .z0 eg ⟨e,l,cs,f1.get J (by simp)⟩
theorem aO.pI{P:Program}{f:FuncId}{args:List Value}{Q:Value->ab->Prop}(aB:Fit a9 H)(h:aO P f args H Q):aO P f args (cC a9 H) fun v H1=>∃aF,H1=cC a9 aF/\Fit a9 aF/\Q v aF:=by
 obtain⟨v,H1,⟨ae,al⟩ | ⟨aL,rfl⟩,av⟩:=h
 ·obtain⟨eg,f1⟩:=abk al (a9:=a9) aB
  exact⟨v,_,.inl ⟨ae,eg⟩,H1,rfl,f1,av⟩
 ·exact⟨v,_,.inr ⟨aL,rfl⟩,H1,rfl,aB,av⟩
theorem Rz{b:Nat}{cs:List Value}(aB:Fit a9 H)(h:iU H b=some cs):iU (cC a9 H) b=some cs:=by
 obtain⟨X,aW,ae⟩:=z3 h
 unfold iU
 rw[aB.uU aW ae]
 exact ae
theorem abW{P:Program}{aP:Operand->Value}{op:Op}{v:Value}{H1:ab}(aB:Fit a9 H)(h:cb P aP H op=some (v,H1)):cb P aP (cC a9 H) op=some (v,cC a9 H1)/\Fit a9 H1:=by
 cases op<;>simp only[cb]at h⊢<;>try (first | (simp at h;done) | (cases h;done))
 case move=>simp at h;obtain⟨rfl,rfl⟩:=h;exact⟨rfl,aB⟩
 case assign=>simp at h;obtain⟨rfl,rfl⟩:=h;exact⟨rfl,aB⟩
 case pick=>split at h<;>simp at h;obtain⟨rfl,rfl⟩:=h;exact⟨rfl,aB⟩
 case alloc=>
  split at h
  ·split at h
   ·rename_i ae
    simp at h;obtain⟨rfl,rfl⟩:=h
    rw[if_pos ae,kn,(aB.app _).2]
    exact⟨rfl,(aB.app _).1⟩
   ·cases h
  ·cases h
 case box=>
  split at h
  ·rename_i ae
   simp at h;obtain⟨rfl,rfl⟩:=h
   rw[if_pos ae,kn,(aB.app _).2]
   exact⟨rfl,(aB.app _).1⟩
  ·cases h
 case load ty x=>
  split at h
  ·rename_i b i J
   cases gy:iU H b with
   | none=>rw[gy]at h;cases h
   | some cs=>
    rw[gy]at h
    rw[Rz aB gy]
    revert h
    simp only
    cases dr P ty with
    | none=>simp
    | some g=>
     cases g with
     | false=>simp only;cases cs[i]?<;>simp only[Option.map_none,Option.map_some,Option.some.injEq,Prod.mk.injEq,reduceCtorEq,false_implies,and_imp];try (rintro rfl rfl;exact⟨⟨rfl,rfl⟩,aB⟩)
     | true=>
      simp only
      cases bA P ty with
      | none=>simp
      | some n=>
       simp only
       split
       ·simp only[Option.map_none,Option.map_some,Option.some.injEq,Prod.mk.injEq,reduceCtorEq,false_implies,and_imp];try (rintro rfl rfl;exact⟨⟨rfl,rfl⟩,aB⟩)
       ·simp
  ·cases h
 case store ty x y=>
  split at h
  ·rename_i b i J
   split at h
   ·rename_i e l cs aW
    split at h
    ·rename_i ae
     simp at h;obtain⟨rfl,rfl⟩:=h
     obtain⟨a0,a4⟩:=aB.set (aB.v3 aW) (.own e l (dp cs i (aP y).cells.toList))
     rw[aB.get aW (by simp)]
     simp only
     rw[if_pos ae,a4]
     exact⟨rfl,a0⟩
    ·cases h
   ·cases h
  ·cases h
 case nilCheck=>split at h<;>simp at h;obtain⟨rfl,rfl⟩:=h;exact⟨rfl,aB⟩
 case binOp=>obtain⟨u,hu,he⟩:=Option.map_eq_some_iff.1 h;simp at he;obtain⟨rfl,rfl⟩:=he;rw[hu];exact⟨rfl,aB⟩
 case unOp=>obtain⟨u,hu,he⟩:=Option.map_eq_some_iff.1 h;simp at he;obtain⟨rfl,rfl⟩:=he;rw[hu];exact⟨rfl,aB⟩
 case convert=>
  split at h
  ·split at h<;>simp at h;obtain⟨rfl,rfl⟩:=h;exact⟨rfl,aB⟩
  ·split at h
   ·rename_i ae;simp at h;obtain⟨rfl,rfl⟩:=h;rw[if_pos ae];exact⟨rfl,aB⟩
   ·cases h
  ·cases h
 case makeInterface=>
  split at h
  ·rename_i ae;simp at h;obtain⟨rfl,rfl⟩:=h;rw[if_pos ae];exact⟨rfl,aB⟩
  ·cases h
 case makeFunc=>simp at h;obtain⟨rfl,rfl⟩:=h;exact⟨rfl,aB⟩
 case fieldAddr=>
  split at h
  ·obtain⟨u,hu,he⟩:=Option.map_eq_some_iff.1 h;simp at he;obtain⟨rfl,rfl⟩:=he;rw[hu];exact⟨rfl,aB⟩
  ·cases h
 case field=>
  split at h
  ·split at h
   ·obtain⟨u,hu,he⟩:=Option.map_eq_some_iff.1 h;simp at he;obtain⟨rfl,rfl⟩:=he;simp only[hu];exact⟨rfl,aB⟩
   ·cases h
  ·cases h
 case indexAddr=>
  split at h
  ·split at h
   ·split at h
    ·split at h
     ·rename_i ae;simp at h;obtain⟨rfl,rfl⟩:=h;rw[if_pos ae];exact⟨rfl,aB⟩
     ·cases h
    ·cases h
   ·cases h
  ·cases h
 case index=>
  split at h
  ·split at h
   ·rename_i ae;simp only[Option.some.injEq,Prod.mk.injEq]at h;obtain⟨rfl,rfl⟩:=h;rw[if_pos ae];exact⟨rfl,aB⟩
   ·cases h
  ·cases h
 case extract=>
  split at h
  ·obtain⟨u,hu,he⟩:=Option.map_eq_some_iff.1 h;simp at he;obtain⟨rfl,rfl⟩:=he;rw[hu];exact⟨rfl,aB⟩
  ·cases h
 case build=>
  split at h
  ·split at h
   ·rename_i ae;obtain⟨u,hu,he⟩:=Option.map_eq_some_iff.1 h;simp at he;obtain⟨rfl,rfl⟩:=he;rw[if_pos ae,hu];exact⟨rfl,aB⟩
   ·cases h
  ·cases h
 case call c=>
  unfold sj at h⊢
  split at h
  ·split at h
   ·split at h
    ·simp at h;obtain⟨rfl,rfl⟩:=h;exact⟨rfl,aB⟩
    ·cases h
   ·split at h
    ·rename_i ae;simp at h;obtain⟨rfl,rfl⟩:=h;rw[if_pos ae];exact⟨rfl,aB⟩
    ·cases h
   ·cases h
  ·split at h<;>simp at h;obtain⟨rfl,rfl⟩:=h;exact⟨rfl,aB⟩
  ·split at h<;>simp at h;obtain⟨rfl,rfl⟩:=h;exact⟨rfl,aB⟩
  ·cases h
 case slice ty x bc af fv=>
  cases fv with
  | some m=>simp at h
  | none=>
   simp only at h⊢
   split at h
   ·split at h
    ·split at h
     ·rename_i ae;simp at h;obtain⟨rfl,rfl⟩:=h;rw[if_pos ae];exact⟨rfl,aB⟩
     ·cases h
    ·cases h
   ·cases h
theorem abV{P:Program}{aP:Operand->Value}{op:Op}(H aF:ab)(hm:jE op=true)(h:cb P aP H op=none):cb P aP aF op=none:=by
 cases ao:cb P aP aF op with
 | none=>rfl
 | some p=>
  obtain⟨v,H1⟩:=p
  cases op<;>simp[jE]at hm<;>simp only[cb]at h ao<;>try (first | (simp at ao;done) | (cases ao;done))
  case convert src dst x=>
   cases J:aP x with
   | int k n=>rw[J]at h ao;simp only at h ao;revert h ao;cases ki P src<;>cases ki P dst<;>simp
   | string t=>rw[J]at h ao;simp only at h ao;revert h ao;split<;>simp
   | _=>rw[J]at ao;simp at ao
  case call c=>
   obtain⟨callee,args,ld⟩:=c
   unfold sj at h ao
   cases callee with
   | builtin b=>cases b<;>simp at hm<;>simp at ao
   | _=>simp at hm
  case slice ty x bc af fv=>
   cases fv with
   | some m=>simp at ao
   | none=>
    simp only at h ao
    split at ao
    ·split at ao
     ·split at ao<;>simp_all
     ·cases ao
    ·cases ao
theorem gx.pI{P:Program}{b:Bool}{F:Fr}{K:Value->ab->Prop}{op:Op}(aB:Fit a9 H)(h:gx P b F H K op):gx P b F (cC a9 H) (fun v H1=>∃aF,H1=cC a9 aF/\Fit a9 aF/\K v aF) op:=by
 have main:(match cb P (aq F) H op with
   | some (v,H1)=>(h3 op=true->b=true)/\K v H1
   | none=>jE op=true/\∃v H1,n1 P (aq F) H op v H1/\(b=true\/Ext H H1)/\K v H1)->(match cb P (aq F) (cC a9 H) op with
   | some (v,H1)=>(h3 op=true->b=true)/\∃aF,H1=cC a9 aF/\Fit a9 aF/\K v aF
   | none=>jE op=true/\∃v H1,n1 P (aq F) (cC a9 H) op v H1/\(b=true\/Ext (cC a9 H) H1)/\∃aF,H1=cC a9 aF/\Fit a9 aF/\K v aF):=by
  cases ao:cb P (aq F) H op with
  | some p=>
   obtain⟨v,H1⟩:=p
   obtain⟨a0,a4⟩:=abW aB ao
   rw[a0]
   exact fun h=>⟨h.1,H1,rfl,a4,h.2⟩
  | none=>
   intro⟨o,v,H1,aa,aA,bj⟩
   rw[abV H _ o ao]
   have hm:=fun U aQ=>Om aB (aa U aQ).2
   have aH:=hm ⟨none,op,default,default, #[],none⟩ rfl
   exact⟨o,v,cC a9 H1,fun U aQ=>⟨(aa U aQ).1,(hm U aQ).1⟩,aA.imp (fun x=>x) fun he=>DE aB he,H1,rfl,aH.2,bj⟩
 cases op<;>try exact main h
 rename_i c
 obtain⟨callee,args,ld⟩:=c
 cases callee with
 | value f=>
  simp only[gx]at h⊢
  split at h
  ·rename_i g first cap tj
   exact(aO.pI aB h).mono fun v H1 ⟨aF,e,o,aa⟩=>⟨aa.1.imp (fun x=>x) fun he=>by rw[e];exact DE aB he,aF,e,o,aa.2⟩
  ·exact h.elim
 | invoke r m=>exact main h
 | builtin b=>exact main h
theorem bn.pI{P:Program}:∀{l:List bG} {F:Fr} {H:ab} {Q:Fr->ab->Prop},Fit a9 H->bn P l F H Q->bn P l F (cC a9 H) fun az H1=>∃aF,H1=cC a9 aF/\Fit a9 aF/\Q az aF
 | [],F,H,Q,aB,h=>⟨H,rfl,aB,h⟩
 | x::rest,F,H,Q,aB,h=>by
  simp only[bn]at h⊢
  split
  ·rename_i aX
   rw[aX]at h
   exact gx.mono (fun v H1 ⟨aF,e,o,aa⟩=>by rw[e];exact bn.pI o aa) (gx.pI aB h)
  ·rename_i j w aX
   rw[aX]at h
   simp only at h
   split
   ·rename_i ag
    rw[if_pos ag]at h
    exact gx.mono (fun v H1 ⟨aF,e,o,aa⟩=>by rw[e];exact bn.pI o aa) (gx.pI aB h)
   ·rename_i ag
    rw[if_neg ag]at h
    exact bn.pI aB h
end
end Go.dq
end
