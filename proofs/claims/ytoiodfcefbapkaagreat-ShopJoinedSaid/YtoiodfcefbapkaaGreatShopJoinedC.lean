/- Part of the proof of ShopJoined. -/
import Derived.Test.YtoiodfcefbapkaaGreatShopJoinedB
set_option linter.unusedVariables false
set_option linter.unusedSimpArgs false
section
namespace Go.cJ
structure bz where
 b:Bool
 g:Option (Nat×Bool)
 d:Option Nat
 op:Op
inductive gy where
 | skip
 | ret
 | exit (id:Nat)
 | seq (x y:gy)
 | cond (c:Operand) (x y:gy)
 | block (id:Nat) (x:gy)
 | loop (x:gy)
 | ops (l:List bz)
 | opsL (l:List bz)
structure fu where
 code:gy
 results:List ResultVar
def hJ:Op->Op
 | .call {callee:= .value f,args,.. }=> .call {callee:= .value f,args,argTypes:= #[]}
 | .binOp op t x y _=> .binOp op t x y 0
 | .unOp op _ x=> .unOp op 0 x
 | op=>op
def nj(P:Program):Op->Bool
 | .move _ | .assign _ | .pick .. | .alloc _ | .box .. | .load .. | .nilCheck _ | .binOp .. | .unOp .. | .makeInterface .. | .makeFunc .. | .fieldAddr .. | .field .. | .indexAddr .. | .index .. | .extract .. | .build .. =>false
 | .call {callee:= .builtin .len,.. } | .call {callee:= .builtin .max,.. } | .call {callee:= .builtin .min,.. }=>false
 | .convert s t _=> !(rk P s&&rk P t)
 | _=>true
def Rb(n:Nat):Option Tmp->Bool
 | some d=>decide (d<n)
 | none=>true
def v_(P:Program)(n:Nat)(ops:Array Oper)(draw:Bool)(R:Oper)(k:Nat):Option bz:=
 if Rb n R.dst=true then
  match R.guard with
  | none=>some ⟨!draw || !nj P R.op || eD P ops k,none,R.dst,hJ R.op⟩
  | some (j,w)=>match(ops[j]?).bind (·.dst)with
   | some d=>some ⟨!draw || !nj P R.op || eD P ops k,some (d,w),R.dst,hJ R.op⟩
   | none=>none
 else none
def nM(P:Program)(n:Nat)(ops:Array Oper)(draw:Bool):List Oper->Nat->Option (List bz)
 | [],_=>some []
 | R::rest,k=>match v_ P n ops draw R k,nM P n ops draw rest (k+1)with
  | some x,some xs=>some (x::xs)
  | _,_=>none
def Ts(P:Program)(ops:Array Oper):Bool:=ops.toList.zipIdx.any fun p8=>hH p8.1.op&& !eD P ops p8.2
def hD(P:Program)(n:Nat):Code->Option gy
 | .skip=>some .skip
 | .ret=>some .ret
 | .exit id=>some (.exit id)
 | .seq a b=>match hD P n a,hD P n b with
  | some x,some y=>some (.seq x y)
  | _,_=>none
 | .cond c a b=>if nk c=true then(match hD P n a,hD P n b with
  | some x,some y=>some (.cond c x y)
  | _,_=>none)else none
 | .block id a=>(hD P n a).map (.block id)
 | .loop a=>(hD P n a).map .loop
 | .region id ops draw=>if draw&&Ts P ops then(if zb ops&&(gD ops&&EI P ops)then(nM P n ops true ops.toList 0).map .opsL else none)
  else if zb ops&&(!draw || gD ops)then(nM P n ops draw ops.toList 0).map .ops else none
 | _=>none
def comp(P:Program)(fn:Func):Option fu:=match fn.body with
 | some c=>(hD P fn.ntmps c).map fun x=>⟨x,fn.results.toList⟩
 | none=>none
abbrev Fr:=Nat->Value
def a4(F:Fr)(d:Nat)(v:Value):Fr:=fun i=>if i=d then v else F i
theorem j6(F:Fr)(d:Nat)(v:Value):a4 F d v d=v:=by simp[a4]
theorem iy(F:Fr){d i:Nat}(v:Value)(h:i≠d):a4 F d v i=F i:=by simp[a4,h]
def jt(args:List Value):Fr:=fun i=>args.getD i undef
def aq(F:Fr):Operand->Value
 | .tmp i=>F i
 | .const v=>v
 | .global g=> .pointer (some ⟨0,g,some 0⟩)
 | .func f=> .func (.func f) #[] #[]
def fM(F:Fr)(d:Option Nat)(v:Value):Fr:=match d with
 | some d=>a4 F d v
 | none=>F
theorem yj(t:List Value):fa t=aq (gt t):=by funext x;cases x<;>rfl
theorem JJ(t:List Value)(d:Option Tmp)(v:Value)(h:∀e,d=some e->e<t.length):gt (e6 t d v)=fM (gt t) d v:=by
 cases d with
 | none=>rfl
 | some e=>
  funext i
  simp only[e6,fM,a4,RU]
  by_cases ae:i=e
  ·subst ae;simp[h i rfl]
  ·rw[if_neg (Ne.symm ae),if_neg ae]
theorem Od(t:List Value)(d:Option Tmp)(v:Value):(e6 t d v).length=t.length:=by cases d<;>simp[e6]
def nI(P:Program)(aJ:Operand->Value)(H:ab)(op:Op)(v:Value)(H1:ab):Prop:=∀R:Oper,R.op=op->bR P R=false/\e9 P aJ H R v H1
def jo:Op->Bool
 | .slice .. | .makeSlice .. | .buildSlice .. | .convert .. | .call {callee:= .builtin .append,.. } | .call {callee:= .builtin .copy,.. }=>true
 | _=>false
def ga(P:Program)(b:Bool)(F:Fr)(H:ab)(K:Value->ab->Prop):Op->Prop
 | .call {callee:= .value f,args,.. }=>(match aq F f with
  | .func (.func g) first cap=>aP P g (first.toList++args.toList.map (aq F)++cap.toList) H fun v H1=>(b=true\/Ext H H1)/\K v H1
  | _=>False)
 | op=>(match b3 P (aq F) H op with
  | some (v,H1)=>(hH op=true->b=true)/\K v H1
  | none=>jo op=true/\∃v H1,nI P (aq F) H op v H1/\(b=true\/Ext H H1)/\K v H1)
def bh(P:Program):List bz->Fr->ab->(Fr->ab->Prop)->Prop
 | [],F,H,Q=>Q F H
 | x::rest,F,H,Q=>match x.g with
  | none=>ga P x.b F H (fun v H1=>bh P rest (fM F x.d v) H1 Q) x.op
  | some (j,w)=>if hg (F j)=some w then ga P x.b F H (fun v H1=>bh P rest (fM F x.d v) H1 Q) x.op else bh P rest (fM F x.d undef) H Q
def fv(P:Program):List bz->Fr->ab->List Nat->List Nat->(Fr->ab->Prop)->Prop
 | [],F,H,_,_,Q=>Q F H
 | x::rest,F,H,af,W,Q=>match x.g with
  | none=>gG P x.b (aq F) H af W (fun v H1 fi fD=>fv P rest (fM F x.d v) H1 fi fD Q) x.op
  | some (j,w)=>if hg (F j)=some w then gG P x.b (aq F) H af W (fun v H1 fi fD=>fv P rest (fM F x.d v) H1 fi fD Q) x.op else fv P rest (fM F x.d undef) H af W Q
def ns(K:Fr->ab->Prop)(Q:dH->Fr->ab->Prop):dH->Fr->ab->Prop
 | .normal,F,H=>K F H
 | e,F,H=>Q e F H
def pt(id:Nat)(Q:dH->Fr->ab->Prop):dH->Fr->ab->Prop
 | .exit hG,F,H=>if hG=id then Q .normal F H else Q (.exit hG) F H
 | e,F,H=>Q e F H
inductive qt (body:Fr->ab->(dH->Fr->ab->Prop)->Prop) (Q:dH->Fr->ab->Prop):Fr->ab->Prop
 | round {F:Fr} {H:ab} (ai:Fr->ab->Prop) (h:body F H (ns ai Q)) (eu:∀az H1,ai az H1->qt body Q az H1):qt body Q F H
def ez(P:Program):gy->Fr->ab->(dH->Fr->ab->Prop)->Prop
 | .skip,F,H,Q=>Q .normal F H
 | .ret,F,H,Q=>Q .ret F H
 | .exit id,F,H,Q=>Q (.exit id) F H
 | .seq x y,F,H,Q=>ez P x F H (ns (fun az H1=>ez P y az H1 Q) Q)
 | .cond c x y,F,H,Q=>(match aq F c with
  | .bool b=>if b=true then ez P x F H Q else ez P y F H Q
  | _=>False)
 | .block id x,F,H,Q=>ez P x F H (pt id Q)
 | .loop x,F,H,Q=>qt (ez P x) Q F H
 | .ops l,F,H,Q=>bh P l F H (fun az H1=>Q .normal az H1)
 | .opsL l,F,H,Q=>fv P l F H [] [] (fun az H1=>Q .normal az H1)
def ka(P:Program)(F:Fr)(H:ab):List ResultVar->(List Value->Prop)->Prop
 | [],K=>K []
 | .tmp i::rs,K=>ka P F H rs fun aD=>K (F i::aD)
 | .cell a ty::rs,K=>(match F a with
  | .pointer (some ⟨b,i,none⟩)=>(match iG H b with
   | some cs=>(match ds P ty with
    | some false=>(match cs[i]? with
     | some v=>ka P F H rs fun aD=>K (v::aD)
     | none=>False)
    | some true=>(match bq P ty with
     | some n=>i+n<=cs.length/\ka P F H rs fun aD=>K (.agg ((cs.drop i).take n).toArray::aD)
     | none=>False)
    | none=>False)
   | none=>False)
  | _=>False)
def qc(P:Program)(rs:List ResultVar)(Q:Value->ab->Prop):dH->Fr->ab->Prop
 | .normal,F,H=>ka P F H rs fun aD=>Q (bf aD) H
 | .ret,F,H=>ka P F H rs fun aD=>Q (bf aD) H
 | .exit _,_,_=>False
section
variable {P:Program}
theorem Oc(aJ:Operand->Value)(H:ab)(op:Op):b3 P aJ H (hJ op)=b3 P aJ H op:=by
 cases op<;>try rfl
 rename_i c
 obtain⟨callee,args,kU⟩:=c
 cases callee<;>rfl
theorem YD{aJ:Operand->Value}{H H1:ab}{R:Oper}{v:Value}(h:e9 P aJ H R v H1)(aG:nj P R.op=false):Ext H H1:=by
 have one:∀{e:TypeId} {l:Bool} {cs:List Value},Ext H (H++[.own e l cs]):=fun{e l cs}=>⟨[.own e l cs],rfl,fun x J cP eA=>by simp at J;subst J;simp⟩
 cases h with
 | s7=>exact Ext.refl H
 | alloc=>exact one
 | box=>exact one
 | xW=>exact Ext.refl H
 | xX=>exact Ext.refl H
 | store h=>rw[h]at aG;cases aG
 | slice h=>exact Ext.refl H
 | yn=>exact Ext.refl H
 | yo=>exact Ext.refl H
 | Bo=>exact Ext.refl H
 | Bn=>exact Ext.refl H
 | make=>exact one
 | x3=>exact Ext.refl H
 | build=>exact one
 | v5=>exact Ext.refl H
 | vU=>exact Ext.refl H
 | vY=>exact one
 | vW h=>rw[h]at aG;cases aG
 | vV=>exact one
 | vX h=>rw[h]at aG;cases aG
 | copy h=>rw[h]at aG;cases aG
 | wa=>exact Ext.refl H
 | str=>exact Ext.refl H
theorem No{ops:Array Oper}{draw:Bool}{k:Nat}{R:Oper}{t:List Value}{H:ab}{K:List Value->ab->Prop}{ef:Value->ab->Prop}(a0:∀v H1,ef v H1->K (e6 t R.dst v) H1)
  (h:ga P (!draw || !nj P R.op || eD P ops k) (gt t) H ef (hJ R.op)):vN P ops draw k R t H K R.op:=by
 have y1:nj P R.op=true->(!draw || !nj P R.op || eD P ops k)=true->draw=true->eD P ops k=true:=fun o aa aA=>by simpa[o,aA]using aa
 have fin:(nj P R.op=true\/hH R.op=false)->hH (hJ R.op)=hH R.op->(hJ R.op=R.op\/bR P R=true)->(bR P R=true->∀kl:Oper,kl.op=hJ R.op->bR P kl=true)->(match b3 P (aq (gt t)) H (hJ R.op)with
   | some (v,H1)=>(hH (hJ R.op)=true->(!draw || !nj P R.op || eD P ops k)=true)/\ef v H1
   | none=>jo (hJ R.op)=true/\∃v H1,nI P (aq (gt t)) H (hJ R.op) v H1/\((!draw || !nj P R.op || eD P ops k)=true\/Ext H H1)/\ef v H1)->
   (match b3 P (fa t) H R.op with
   | some (v,H1)=>BS P ops draw k (hH R.op)/\K (e6 t R.dst v) H1
   | none=>∃v H1,bR P R=false/\e9 P (fa t) H R v H1/\yJ P ops draw k H H1/\K (e6 t R.dst v) H1):=by
  intro c8 Af iO a5 ao
  rw[Oc]at ao
  rw[yj]
  split at ao
  ·rename_i v H1 an
   refine⟨fun o aa=>?_,a0 _ _ ao.2⟩
   rcases c8 with c8 | c8
   ·exact y1 c8 (ao.1 (by rw[Af];exact aa)) o
   ·rw[c8]at aa;cases aa
  ·obtain⟨-,v,H1,hm,he,Sr⟩:=ao
   rcases iO with iO | iO
   ·obtain⟨a1,a3⟩:=hm R iO.symm
    refine⟨v,H1,a1,a3,fun o=>?_,a0 _ _ Sr⟩
    cases Ae:nj P R.op with
    | false=>exact .inr (YD a3 Ae)
    | true=>
     rcases he with he | he
     ·exact .inl (y1 Ae he o)
     ·exact .inr he
   ·have a1:=(hm ⟨R.dst,hJ R.op,R.type,R.pos,R.after,R.guard⟩ rfl).1
    rw[a5 iO _ rfl]at a1
    cases a1
 cases b8:R.op<;>rw[b8]at h fin y1<;>try (exact fin (by simp[nj,hH]) rfl (.inl rfl) (fun ay kl fp=>by first | (simp only[bR,b8,fp,hJ]at ay⊢;exact ay) | (simp[bR,b8]at ay;try (simp[bR,fp,hJ]))) h;done)
 case binOp op ty x y pf=>exact fin (.inr rfl) rfl (.inr (by simp[bR,b8])) (fun _ kl fp=>by simp[bR,fp,hJ]) h
 case unOp op ty x=>exact fin (.inr rfl) rfl (.inr (by simp[bR,b8])) (fun _ kl fp=>by simp[bR,fp,hJ]) h
 case call c=>
  obtain⟨callee,args,kU⟩:=c
  cases callee with
  | value f=>
   simp only[hJ,ga]at h
   simp only[vN,yj]
   split at h
   ·rename_i g first cap ay
    rw[ay]
    refine h.mono fun v H1 cV=>⟨fun o=>?_,a0 _ _ cV.2⟩
    rcases cV.1 with he | he
    ·exact .inl (y1 rfl he o)
    ·exact .inr he
   ·exact h.elim
  | invoke r m=>exact fin (.inl rfl) rfl (.inl rfl) (fun ay=>by simp[bR,b8]at ay) h
  | builtin bi=>exact fin (.inr rfl) rfl (.inl rfl) (fun ay kl fp=>by simp only[bR,b8,fp,hJ]at ay⊢;exact ay) h
theorem Nm{n:Nat}{ops:Array Oper}{draw:Bool}:∀(rest:List Oper) (k:Nat) (xs:List bz) (t:List Value) (H:ab) (Q:List Value->ab->Prop) (cd:Fr->ab->Prop),nM P n ops draw rest k=some xs->t.length=n->
  (∀t1 H1,t1.length=n->cd (gt t1) H1->Q t1 H1)->bh P xs (gt t) H cd->oE P ops draw k rest t H Q
 | [],k,xs,t,H,Q,cd,ad,ar,aE,h=>by
  simp only[nM,Option.some.injEq]at ad
  subst ad
  exact aE t H ar h
 | R::rest,k,xs,t,H,Q,cd,ad,ar,aE,h=>by
  simp only[nM]at ad
  cases J:v_ P n ops draw R k with
  | none=>simp[J]at ad
  | some x=>
   cases nf:nM P n ops draw rest (k+1)with
   | none=>simp[J,nf]at ad
   | some bO=>
    simp only[J,nf,Option.some.injEq]at ad
    subst ad
    unfold v_ at J
    split at J
    ·rename_i aB
     have w3:∀e,R.dst=some e->e<t.length:=fun e he=>by
      rw[he]at aB
      rw[ar]
      exact of_decide_eq_true aB
     have s_:∀v H1,bh P bO (fM (gt t) R.dst v) H1 cd->oE P ops draw (k+1) rest (e6 t R.dst v) H1 Q:=fun v H1 o=>
      Nm rest (k+1) bO _ H1 Q cd nf (by rw[Od];exact ar) aE (by rw[JJ t R.dst v w3];exact o)
     simp only[oE]
     cases aU:R.guard with
     | none=>
      rw[aU]at J
      obtain rfl:=Option.some.inj J
      have hw:Region.wanted R (gS ops t)=true:=by simp[Region.wanted,aU]
      rw[if_pos hw]
      exact No s_ h
     | some p5=>
      obtain⟨j,w⟩:=p5
      rw[aU]at J
      simp only at J
      cases lJ:(ops[j]?).bind (·.dst)with
      | none=>rw[lJ]at J;cases J
      | some d=>
       rw[lJ]at J
       obtain rfl:=Option.some.inj J
       have hw:Region.wanted R (gS ops t)=(hg (gt t d)==some w):=by
        simp only[Region.wanted,aU,Ok,lJ]
       rw[hw]
       simp only[bh]at h
       by_cases ag:hg (gt t d)=some w
       ·rw[if_pos ag]at h
        rw[if_pos (by simpa using ag)]
        exact No s_ h
       ·rw[if_neg ag]at h
        rw[if_neg (by simpa using ag)]
        exact s_ _ _ h
    ·cases J
theorem MV(b:Bool)(aJ:Operand->Value)(H:ab)(af W:List Nat)(K:Value->ab->List Nat->List Nat->Prop)(op:Op)(h:gG P b aJ H af W K (hJ op)):gG P b aJ H af W K op:=by
 have e:=Oc (P:=P) aJ H op
 cases op with
 | call c=>
  obtain⟨callee,args,kU⟩:=c
  cases callee<;>exact h
 | binOp op ty x y pf=>
  simp only[hJ,gG]at h⊢
  simp only[hJ]at e
  rw[<-e];exact h
 | unOp op ty x=>
  simp only[hJ,gG]at h⊢
  simp only[hJ]at e
  rw[<-e];exact h
 | _=>exact h
theorem gG.mono{b:Bool}{aJ:Operand->Value}{H:ab}{af W:List Nat}{K ef:Value->ab->List Nat->List Nat->Prop}(aj:∀v H1 fi fD,K v H1 fi fD->ef v H1 fi fD){op:Op}(h:gG P b aJ H af W K op):gG P b aJ H af W ef op:=by
 cases op with
 | load ty x=>
  simp only[gG]at h⊢
  split at h
  ·refine⟨h.1,?_⟩
   have aa:=h.2
   split at aa
   ·exact aj _ _ _ _ aa
   ·exact aa
  ·exact h
 | store ty x y=>
  simp only[gG]at h⊢
  split at h
  ·refine⟨h.1,?_⟩
   have aa:=h.2
   split at aa
   ·exact aj _ _ _ _ aa
   ·exact aa
  ·exact h
 | _=>
  simp only[gG]at h⊢
  split at h
  ·exact aj _ _ _ _ h
  ·exact h.elim
theorem MU{b:Bool}{aJ:Operand->Value}{H:ab}{af W:List Nat}{K:Value->ab->List Nat->List Nat->Prop}{op:Op}(h:gG P (!true || !nj P op || b) aJ H af W K (hJ op)):gG P b aJ H af W K (hJ op):=by
 cases op with
 | store t x y=>exact h
 | call c=>obtain⟨callee,args,kU⟩:=c;cases callee<;>exact h
 | _=>exact h
theorem Ni{n:Nat}{ops:Array Oper}:∀(rest:List Oper) (k:Nat) (xs:List bz) (t:List Value) (H:ab) (af W:List Nat) (Q:List Value->ab->Prop) (cd:Fr->ab->Prop),nM P n ops true rest k=some xs->t.length=n->
  (∀t1 H1,t1.length=n->cd (gt t1) H1->Q t1 H1)->fv P xs (gt t) H af W cd->oD P ops k rest t H af W Q
 | [],k,xs,t,H,af,W,Q,cd,ad,ar,aE,h=>by
  simp only[nM,Option.some.injEq]at ad
  subst ad
  exact aE t H ar h
 | R::rest,k,xs,t,H,af,W,Q,cd,ad,ar,aE,h=>by
  simp only[nM]at ad
  cases J:v_ P n ops true R k with
  | none=>simp[J]at ad
  | some x=>
   cases nf:nM P n ops true rest (k+1)with
   | none=>simp[J,nf]at ad
   | some bO=>
    simp only[J,nf,Option.some.injEq]at ad
    subst ad
    unfold v_ at J
    split at J
    ·rename_i aB
     have w3:∀e,R.dst=some e->e<t.length:=fun e he=>by
      rw[he]at aB
      rw[ar]
      exact of_decide_eq_true aB
     have s_:∀v H1 fi fD,fv P bO (fM (gt t) R.dst v) H1 fi fD cd->oD P ops (k+1) rest (e6 t R.dst v) H1 fi fD Q:=fun v H1 fi fD o=>
      Ni rest (k+1) bO _ H1 fi fD Q cd nf (by rw[Od];exact ar) aE (by rw[JJ t R.dst v w3];exact o)
     simp only[oD]
     cases aU:R.guard with
     | none=>
      rw[aU]at J
      obtain rfl:=Option.some.inj J
      have hw:Region.wanted R (gS ops t)=true:=by simp[Region.wanted,aU]
      rw[if_pos hw]
      simp only[fv]at h
      rw[yj]
      exact gG.mono (fun v H1 fi fD=>s_ v H1 fi fD) (MV _ _ _ _ _ _ _ (MU h))
     | some p5=>
      obtain⟨j,w⟩:=p5
      rw[aU]at J
      simp only at J
      cases lJ:(ops[j]?).bind (·.dst)with
      | none=>rw[lJ]at J;cases J
      | some d=>
       rw[lJ]at J
       obtain rfl:=Option.some.inj J
       have hw:Region.wanted R (gS ops t)=(hg (gt t d)==some w):=by
        simp only[Region.wanted,aU,Ok,lJ]
       rw[hw]
       simp only[fv]at h
       by_cases ag:hg (gt t d)=some w
       ·rw[if_pos ag]at h
        rw[if_pos (by simpa using ag),yj]
        exact gG.mono (fun v H1 fi fD=>s_ v H1 fi fD) (MV _ _ _ _ _ _ _ (MU h))
       ·rw[if_neg ag]at h
        rw[if_neg (by simpa using ag)]
        exact s_ _ _ _ _ h
    ·cases J
theorem r9{n:Nat}:∀(c:Code) (x:gy) (t:List Value) (H:ab) (Q:dH->List Value->ab->Prop) (cd:dH->Fr->ab->Prop),hD P n c=some x->t.length=n->
  (∀e t1 H1,t1.length=n->cd e (gt t1) H1->Q e t1 H1)->ez P x (gt t) H cd->kP P c t H Q
 | .skip,x,t,H,Q,cd,ad,ar,aE,h=>by simp only[hD,Option.some.injEq]at ad;subst ad;exact aE _ _ _ ar h
 | .ret,x,t,H,Q,cd,ad,ar,aE,h=>by simp only[hD,Option.some.injEq]at ad;subst ad;exact aE _ _ _ ar h
 | .exit id,x,t,H,Q,cd,ad,ar,aE,h=>by simp only[hD,Option.some.injEq]at ad;subst ad;exact aE _ _ _ ar h
 | .seq a b,x,t,H,Q,cd,ad,ar,aE,h=>by
  simp only[hD]at ad
  cases aO:hD P n a with
  | none=>simp[aO]at ad
  | some e7=>
   cases ag:hD P n b with
   | none=>simp[aO,ag]at ad
   | some fR=>
    simp only[aO,ag,Option.some.injEq]at ad
    subst ad
    refine r9 a e7 t H _ _ aO ar (fun e t1 H1 gL av=>?_) h
    cases e with
    | normal=>exact r9 b fR t1 H1 Q cd ag gL aE av
    | exit id=>exact aE _ _ _ gL av
    | ret=>exact aE _ _ _ gL av
 | .cond c a b,x,t,H,Q,cd,ad,ar,aE,h=>by
  simp only[hD]at ad
  split at ad
  ·rename_i aj
   cases aO:hD P n a with
   | none=>simp[aO]at ad
   | some e7=>
    cases ag:hD P n b with
    | none=>simp[aO,ag]at ad
    | some fR=>
     simp only[aO,ag,Option.some.injEq]at ad
     subst ad
     refine⟨aj,?_⟩
     simp only[ez]at h
     rw[yj]
     split at h
     ·rename_i eh mY
      rw[mY]
      simp only
      cases eh with
      | true=>simp only[if_true]at h⊢;exact r9 a e7 t H Q cd aO ar aE h
      | false=>simp only[Bool.false_eq_true,if_false]at h⊢;exact r9 b fR t H Q cd ag ar aE h
     ·exact h.elim
  ·cases ad
 | .block id a,x,t,H,Q,cd,ad,ar,aE,h=>by
  simp only[hD]at ad
  obtain⟨e7,aO,rfl⟩:=Option.map_eq_some_iff.1 ad
  refine r9 a e7 t H _ _ aO ar (fun e t1 H1 gL av=>?_) h
  cases e with
  | normal=>exact aE _ _ _ gL av
  | exit hG=>
   simp only[pt]at av
   simp only[Cb]
   split at av
   ·rename_i ae;rw[if_pos ae];exact aE _ _ _ gL av
   ·rename_i ae;rw[if_neg ae];exact aE _ _ _ gL av
  | ret=>exact aE _ _ _ gL av
 | .loop a,x,t,H,Q,cd,ad,ar,aE,h=>by
  simp only[hD]at ad
  obtain⟨e7,aO,rfl⟩:=Option.map_eq_some_iff.1 ad
  simp only[ez]at h
  show BQ P (.loop a) t H Q
  generalize a5:gt t=F at h
  induction h generalizing t with
  | round ai TD eu a2=>
   rename_i F H
   subst a5
   obtain⟨e,t1,H1,al,av⟩:=r_ a t H (fun e t1 H1=>t1.length=n/\ns ai cd e (gt t1) H1) (r9 a e7 t H _ _ aO ar (fun e t1 H1 gL av=>⟨gL,av⟩) TD)
   obtain⟨gL,av⟩:=av
   cases e with
   | normal=>
    obtain⟨bg,t2,aR,pV,n_⟩:=a2 (gt t1) H1 av t1 gL rfl
    exact⟨bg,t2,aR,.AQ al pV,n_⟩
   | exit id=>exact⟨.exit id,t1,H1,.xZ al (by simp),aE _ _ _ gL av⟩
   | ret=>exact⟨.ret,t1,H1,.xZ al (by simp),aE _ _ _ gL av⟩
 | .region id ops draw,x,t,H,Q,cd,ad,ar,aE,h=>by
  simp only[hD]at ad
  split at ad
  ·split at ad
   ·rename_i aj
    obtain⟨xs,ho,rfl⟩:=Option.map_eq_some_iff.1 ad
    simp only[Bool.and_eq_true]at aj
    exact .inr ⟨aj.1,aj.2.1,aj.2.2,Ni ops.toList 0 xs t H [] [] _ _ ho ar (fun t1 H1 gL av=>aE _ _ _ gL av) h⟩
   ·cases ad
  split at ad
  ·rename_i aj
   obtain⟨xs,ho,rfl⟩:=Option.map_eq_some_iff.1 ad
   simp only[Bool.and_eq_true,Bool.or_eq_true,Bool.not_eq_true']at aj
   refine .inl ⟨aj.1,fun aB=>?_,?_⟩
   ·rcases aj.2 with q | q
    ·rw[aB]at q;cases q
    ·exact q
   ·exact Nm ops.toList 0 xs t H _ _ ho ar (fun t1 H1 gL av=>aE _ _ _ gL av) h
  ·cases ad
 | .rangeFunc ..,x,t,H,Q,cd,ad,_,_,_=>by simp[hD]at ad
 | .scope ..,x,t,H,Q,cd,ad,_,_,_=>by simp[hD]at ad
 | .label ..,x,t,H,Q,cd,ad,_,_,_=>by simp[hD]at ad
 | .goto ..,x,t,H,Q,cd,ad,_,_,_=>by simp[hD]at ad
 | .refuse ..,x,t,H,Q,cd,ad,_,_,_=>by simp[hD]at ad
theorem ye{t:List Value}{H:ab}:∀(rs:List ResultVar) (K:List Value->Prop),ka P (gt t) H rs K->po P t H rs K
 | [],K,h=>h
 | .tmp i::rs,K,h=>ye rs _ h
 | .cell a ty::rs,K,h=>by
  simp only[ka]at h
  simp only[po]
  split at h
  ·rename_i b i J
   rw[J]
   simp only
   split at h
   ·rename_i cs gb
    rw[gb]
    simp only
    split at h
    ·rename_i aO
     rw[aO]
     simp only
     split at h
     ·rename_i v an
      rw[an]
      exact ye rs _ h
     ·exact h.elim
    ·rename_i aO
     rw[aO]
     simp only
     split at h
     ·rename_i n aG
      rw[aG]
      exact⟨h.1,ye rs _ h.2⟩
     ·exact h.elim
    ·exact h.elim
   ·exact h.elim
  ·exact h.elim
theorem aP.MC{f:FuncId}{fn:Func}{x:fu}{args:List Value}{H:ab}{Q:Value->ab->Prop}(ay:P.funcs[f]?=some fn)(aG:(fn.name== "runtime.NumGoroutine")=false)(ad:comp P fn=some x)(ar:args.length<=fn.ntmps)
  (h:ez P x.code (jt args) H (qc P x.results Q)):∃v H1,yI P f/\dX P (.call f args H) (.val v H1)/\Q v H1:=by
 unfold comp at ad
 cases ag:fn.body with
 | none=>simp[ag]at ad
 | some c=>
  simp only[ag]at ad
  obtain⟨iB,h_,rfl⟩:=Option.map_eq_some_iff.1 ad
  have a5:gt (args++List.replicate (fn.ntmps-args.length) undef)=jt args:=by
   funext i
   simp only[gt,jt,List.getD_eq_getElem?_getD]
   by_cases ae:i<args.length
   ·rw[List.getElem?_append_left ae]
   ·rw[List.getElem?_append_right (by omega),List.getElem?_eq_none (l:=args) (by omega),List.getElem?_replicate]
    split<;>rfl
  refine aP.Rv ay aG ag (r9 c iB _ H _ (qc P fn.results.toList Q) h_ (by simp;omega) (fun e t1 H1 gL av=>?_) (by rw[a5];exact h))
  cases e with
  | normal=>exact ye _ _ av
  | exit id=>exact av
  | ret=>exact ye _ _ av
theorem aP.Wn{f:FuncId}{fn:Func}{x:fu}{args:List Value}{H:ab}{Q:Value->ab->Prop}(ay:P.funcs[f]?=some fn)(aG:(fn.name== "runtime.NumGoroutine")=false)(ad:comp P fn=some x)(ar:args.length<=fn.ntmps)
  (h:ez P x.code (jt args) H (qc P x.results Q)):aP P f args H Q:=by
 obtain⟨v,H1,o,aa,aA⟩:=aP.MC ay aG ad ar h
 exact⟨v,H1,.inl ⟨o,aa⟩,aA⟩
theorem qt.inv{body:Fr->ab->(dH->Fr->ab->Prop)->Prop}{Q:dH->Fr->ab->Prop}(ai:Nat->Fr->ab->Prop)(round:∀n F H,ai n F H->body F H (ns (fun az H1=>∃m,m<n/\ai m az H1) Q)):∀(n:Nat) (F:Fr) (H:ab),ai n F H->qt body Q F H:=by
 intro n
 induction n using Nat.strongRecOn with
 | _ n a2=>
  intro F H h
  exact .round _ (round n F H h) fun az H1 ⟨m,hm,eu⟩=>a2 m hm az H1 eu
end
def T(i:Nat):Operand:= .tmp i
def ai(n:Int):Operand:= .const (.int .i64 n)
def C(v:Value):Operand:= .const v
def Gr(f:Nat):Operand:= .func f
theorem py(F:Fr)(i:Nat):aq F (T i)=F i:=rfl
theorem Jw(F:Fr)(n:Int):aq F (ai n)= .int .i64 n:=rfl
theorem RD(F:Fr)(v:Value):aq F (C v)=v:=rfl
theorem RE(F:Fr)(f:Nat):aq F (Gr f)= .func (.func f) #[] #[]:=rfl
def aT(j:Nat)(w:Bool)(x:bz):bz:={x with g:=some (j,w)}
def bj(x:bz):bz:={x with b:=false}
def I(d:Nat)(x:Operand):bz:=⟨true,none,some d,.move x⟩
def ak(d:Nat)(x:Operand):bz:=⟨true,none,some d,.assign x⟩
def cR(d:Nat)(c a b:Operand):bz:=⟨true,none,some d,.pick c a b⟩
def bL(d e:Nat):bz:=⟨true,none,some d,.alloc e⟩
def cl(d e:Nat)(x:Operand):bz:=⟨true,none,some d,.box e x⟩
def aI(d t:Nat)(x:Operand):bz:=⟨true,none,some d,.load t x⟩
def st(t:Nat)(x y:Operand):bz:=⟨true,none,none,.store t x y⟩
def iR(d:Nat)(x:Operand):bz:=⟨true,none,some d,.nilCheck x⟩
def bi(d:Nat)(op:BinOp)(t:Nat)(x y:Operand):bz:=⟨true,none,some d,.binOp op t x y 0⟩
def un(d:Nat)(op:UnOp)(x:Operand):bz:=⟨true,none,some d,.unOp op 0 x⟩
def ch(d s t:Nat)(x:Operand):bz:=⟨true,none,some d,.convert s t x⟩
def mB(d t:Nat)(x:Operand):bz:=⟨true,none,some d,.makeInterface t x⟩
def u9(d:Nat)(fn:Fn)(a b:Array Operand):bz:=⟨true,none,some d,.makeFunc fn a b⟩
def a9(d s:Nat)(x:Operand)(f:Nat):bz:=⟨true,none,some d,.fieldAddr s x f⟩
def nP(d s:Nat)(x:Operand)(f:Nat):bz:=⟨true,none,some d,.field s x f⟩
def bu(d t:Nat)(x i:Operand):bz:=⟨true,none,some d,.indexAddr t x i⟩
def en(d t:Nat)(x i:Operand):bz:=⟨true,none,some d,.index t x i⟩
def ex(d:Nat)(x:Operand)(i:Nat):bz:=⟨true,none,some d,.extract x i⟩
def dB(d t:Nat)(aW:List (Nat×Operand)):bz:=⟨true,none,some d,.build t aW.toArray⟩
def ei(d t n:Nat)(aW:List (Nat×Operand)):bz:=⟨true,none,some d,.buildSlice t n aW.toArray⟩
def fF(d t:Nat)(x:Operand)(bb ae fk:Option Operand):bz:=⟨true,none,some d,.slice t x bb ae fk⟩
def ms(d t:Nat)(x y:Operand):bz:=⟨true,none,some d,.makeSlice t x y⟩
def bF(d t:Nat)(x:Operand):bz:=⟨true,none,some d,.call {callee:= .builtin .len,args:= #[x],argTypes:= #[t]}⟩
def ap(d bV cI:Nat)(s x:Operand):bz:=⟨true,none,some d,.call {callee:= .builtin .append,args:= #[s,x],argTypes:= #[bV,cI]}⟩
def cp(d hW bV:Nat)(s x:Operand):bz:=⟨true,none,some d,.call {callee:= .builtin .copy,args:= #[s,x],argTypes:= #[hW,bV]}⟩
def u_(d:Nat)(bV:List Nat)(x y:Operand):bz:=⟨true,none,some d,.call {callee:= .builtin .max,args:= #[x,y],argTypes:=bV.toArray}⟩
def x6(d:Nat)(bV:List Nat)(x y:Operand):bz:=⟨true,none,some d,.call {callee:= .builtin .min,args:= #[x,y],argTypes:=bV.toArray}⟩
def aS(d f:Nat)(args:List Operand):bz:=⟨true,none,some d,.call {callee:= .value (.func f),args:=args.toArray,argTypes:= #[]}⟩
def y9(f:Nat)(args:List Operand):bz:=⟨true,none,none,.call {callee:= .value (.func f),args:=args.toArray,argTypes:= #[]}⟩
def l7(d:Nat)(x:Operand)(args:List Operand):bz:=⟨true,none,some d,.call {callee:= .value x,args:=args.toArray,argTypes:= #[]}⟩
def lX(cs:List Value)(i:Nat):List Value->List Value
 | [v]=>cs.set i v
 | aD=>db cs i aD
theorem Gf{cs aD:List Value}{i:Nat}(h:i+aD.length<=cs.length):lX cs i aD=db cs i aD:=by
 unfold lX
 split
 ·exact(aaj _ (by have:=h;simp at this;omega)).symm
 ·rfl
def fin(x:Option (Value×ab))(K:Value->ab->Prop):Prop:=match x with
 | some p=>K p.1 p.2
 | none=>False
theorem sb(c:Prop)[Decidable c](v:Value)(H:ab)(K:Value->ab->Prop):fin (if c then some (v,H)else none) K=(c/\K v H):=by
 by_cases h:c
 ·rw[if_pos h];simp[fin,h]
 ·rw[if_neg h];simp[fin,h]
theorem tP(x:Option Value)(H:ab)(K:Value->ab->Prop):fin (x.map fun v=>(v,H)) K=match x with | some v=>K v H | none=>False:=by cases x<;>rfl
def isVal:Op->Bool
 | .call {callee:= .value _,.. }=>true
 | _=>false
section
variable {P:Program} {r:List bz} {F:Fr} {H:ab} {Q:Fr->ab->Prop}
theorem ad2{b:Bool}{K:Value->ab->Prop}(op:Op)(h:(isVal op || jo op || hH op)=false):ga P b F H K op=fin (b3 P (aq F) H op) K:=by
 have main:(match b3 P (aq F) H op with
   | some (v,H1)=>(hH op=true->b=true)/\K v H1
   | none=>jo op=true/\∃v H1,nI P (aq F) H op v H1/\(b=true\/Ext H H1)/\K v H1)=fin (b3 P (aq F) H op) K:=by
  simp only[Bool.or_eq_false_iff]at h
  cases b3 P (aq F) H op with
  | none=>simp[fin,h]
  | some p=>simp[fin,h]
 cases op<;>try exact main
 rename_i c
 obtain⟨callee,args,kU⟩:=c
 cases callee<;>try exact main
 simp[isVal]at h
theorem js{b:Bool}{d:Option Nat}(op:Op)(h:(isVal op || jo op || hH op)=false):bh P (⟨b,none,d,op⟩::r) F H Q=fin (b3 P (aq F) H op) (fun v H1=>bh P r (fM F d v) H1 Q):=by
 simp only[bh]
 exact ad2 op h
theorem ael(d:Nat)(x:Operand):bh P (I d x::r) F H Q=bh P r (a4 F d (aq F x)) H Q:=by
 rw[I,js _ rfl];rfl
theorem aer(d:Nat)(x:Operand):bh P (ak d x::r) F H Q=bh P r (a4 F d (aq F x)) H Q:=by
 rw[ak,js _ rfl];rfl
theorem aeq(d:Nat)(c a b:Operand):bh P (cR d c a b::r) F H Q=match aq F c with
  | .bool t=>bh P r (a4 F d (if t=true then aq F a else aq F b)) H Q
  | _=>False:=by
 rw[cR,js _ rfl];simp only[b3];cases aq F c<;>rfl
theorem Pp(d e:Nat):bh P (bL d e::r) F H Q=match dA P e with
  | some z=>(flat z=true/\(bq P e).isSome=true)/\bh P r (a4 F d (.pointer (some ⟨H.length,0,none⟩))) (H++[.own e false z.cells.toList]) Q
  | none=>False:=by
 rw[bL,js _ rfl];simp only[b3]
 cases dA P e with
 | none=>rfl
 | some z=>simp only[sb];rfl
theorem ad5(d e:Nat)(x:Operand):bh P (cl d e x::r) F H Q=((bq P e).isSome=true/\bh P r (a4 F d (.pointer (some ⟨H.length,0,none⟩))) (H++[.own e false (aq F x).cells.toList]) Q):=by
 rw[cl,js _ rfl];simp only[b3,sb];rfl
theorem aeg(d t:Nat)(x:Operand):bh P (aI d t x::r) F H Q=match aq F x with
  | .pointer (some ⟨b,i,none⟩)=>(match(H[b]?).bind bI.cells? with
   | some cs=>(match ds P t with
    | some false=>(match cs[i]? with
     | some v=>bh P r (a4 F d v) H Q
     | none=>False)
    | some true=>(match bq P t with
     | some n=>i+n<=cs.length/\bh P r (a4 F d (.agg ((cs.drop i).take n).toArray)) H Q
     | none=>False)
    | none=>False)
   | none=>False)
  | _=>False:=by
 rw[aI,js _ rfl];simp only[b3,iG]
 cases aq F x<;>try rfl
 rename_i a
 cases a with
 | none=>rfl
 | some a=>
  obtain⟨b,i,c⟩:=a
  cases c<;>try rfl
  simp only
  cases(H[b]?).bind bI.cells? with
  | none=>rfl
  | some cs=>
   simp only
   cases ds P t with
   | none=>rfl
   | some g=>
    cases g with
    | false=>simp only[tP];rfl
    | true=>
     simp only
     cases bq P t with
     | none=>rfl
     | some n=>simp only[sb];rfl
theorem aes(b:Bool)(t:Nat)(x y:Operand):bh P (⟨b,none,none,.store t x y⟩::r) F H Q=match aq F x with
  | .pointer (some ⟨r7,i,none⟩)=>(match H[r7]? with
   | some (.own e l cs)=>(bq P t=some (aq F y).cells.size/\i+(aq F y).cells.size<=cs.length/\((aq F y).cells.toList.all (·.oneCell'))=true)/\b=true/\bh P r F (H.set r7 (.own e l (lX cs i (aq F y).cells.toList))) Q
   | _=>False)
  | _=>False:=by
 simp only[bh,ga,b3]
 have no:∀K:Value->ab->Prop,(match(none:Option (Value×ab))with
   | some (v,H1)=>(hH (.store t x y)=true->b=true)/\K v H1
   | none=>jo (.store t x y)=true/\∃v H1,nI P (aq F) H (.store t x y) v H1/\(b=true\/Ext H H1)/\K v H1)=False:=fun K=>by simp[jo]
 cases aq F x<;>try exact no _
 rename_i a
 cases a with
 | none=>exact no _
 | some a=>
  obtain⟨r7,i,c⟩:=a
  cases c<;>try exact no _
  simp only
  cases H[r7]? with
  | none=>exact no _
  | some X=>
   cases X<;>try exact no _
   rename_i e l cs
   simp only
   by_cases ad:bq P t=some (aq F y).cells.size/\i+(aq F y).cells.size<=cs.length/\((aq F y).cells.toList.all (·.oneCell'))=true
   ·rw[if_pos ad,Gf (by simpa using ad.2.1)]
    simp only[hH,true_implies,fM]
    exact propext ⟨fun h=>⟨ad,h.1,h.2⟩,fun h=>h.2⟩
   ·rw[if_neg ad]
    exact propext ⟨fun h=>by simp[jo]at h,fun h=>(ad h.1).elim⟩
theorem aet(t:Nat)(x y:Operand):bh P (st t x y::r) F H Q=match aq F x with
  | .pointer (some ⟨r7,i,none⟩)=>(match H[r7]? with
   | some (.own e l cs)=>(bq P t=some (aq F y).cells.size/\i+(aq F y).cells.size<=cs.length/\((aq F y).cells.toList.all (·.oneCell'))=true)/\bh P r F (H.set r7 (.own e l (lX cs i (aq F y).cells.toList))) Q
   | _=>False)
  | _=>False:=by
 rw[st,aes]
 simp only[true_and]
theorem aeo(d:Nat)(x:Operand):bh P (iR d x::r) F H Q=match aq F x with
  | .pointer (some a)=>bh P r (a4 F d (.pointer (some a))) H Q
  | _=>False:=by
 rw[iR,js _ rfl];simp only[b3]
 cases aq F x<;>try rfl
 rename_i a;cases a<;>rfl
theorem ad4(d:Nat)(op:BinOp)(t:Nat)(x y:Operand):bh P (bi d op t x y::r) F H Q=match dZ P op t (aq F x) (aq F y)with
  | some v=>bh P r (a4 F d v) H Q
  | none=>False:=by
 rw[bi,js _ rfl];simp only[b3,tP];rfl
theorem aeu(d:Nat)(op:UnOp)(x:Operand):bh P (un d op x::r) F H Q=match pb op (aq F x)with
  | some v=>bh P r (a4 F d v) H Q
  | none=>False:=by
 rw[un,js _ rfl];simp only[b3,tP];rfl
theorem aeb(d s:Nat)(x:Operand)(f:Nat):bh P (a9 d s x f::r) F H Q=match aq F x with
  | .pointer (some ⟨b,i,none⟩)=>(match fL P s f with
   | some off=>bh P r (a4 F d (.pointer (some ⟨b,i+off,none⟩))) H Q
   | none=>False)
  | _=>False:=by
 rw[a9,js _ rfl];simp only[b3]
 cases aq F x<;>try rfl
 rename_i a
 cases a with
 | none=>rfl
 | some a=>
  obtain⟨b,i,c⟩:=a
  cases c<;>try rfl
  simp only
  cases fL P s f<;>rfl
theorem aed(d s:Nat)(x:Operand)(f:Nat):bh P (nP d s x f::r) F H Q=match aq F x with
  | .agg cs=>(match oL P s f with
   | some c=>(match pv cs c with
    | some v=>bh P r (a4 F d v) H Q
    | none=>False)
   | none=>False)
  | _=>False:=by
 rw[nP,js _ rfl];simp only[b3]
 cases aq F x<;>try rfl
 simp only
 cases oL P s f with
 | none=>rfl
 | some c=>simp only[tP];rfl
theorem aee(d t:Nat)(x i:Operand):bh P (bu d t x i::r) F H Q=match aq F x,aq F i with
  | .slice (some ⟨b,R,none⟩) len _,.int _ n=>(match fe P t with
   | some e=>(match bq P e with
    | some U=>(0<=n/\n<len)/\bh P r (a4 F d (.pointer (some ⟨b,R+n.toNat*U,none⟩))) H Q
    | none=>False)
   | none=>False)
  | _,_=>False:=by
 rw[bu,js _ rfl];simp only[b3]
 cases aq F x<;>try rfl
 rename_i a len cap
 cases a with
 | none=>rfl
 | some a=>
  obtain⟨b,R,c⟩:=a
  cases c<;>try rfl
  cases aq F i<;>try rfl
  simp only
  cases fe P t with
  | none=>rfl
  | some e=>
   simp only
   cases bq P e with
   | none=>rfl
   | some n=>simp only[sb];rfl
theorem aef(d t:Nat)(x i:Operand):bh P (en d t x i::r) F H Q=match aq F x,aq F i with
  | .string s,.int _ n=>(iw P t=true/\0<=n/\n<s.size)/\bh P r (a4 F d (.int .u8 ((s.data.getD n.toNat 0).toNat:Int))) H Q
  | _,_=>False:=by
 rw[en,js _ rfl];simp only[b3]
 cases aq F x<;>try rfl
 cases aq F i<;>try rfl
 simp only[sb];rfl
theorem aea(d:Nat)(x:Operand)(i:Nat):bh P (ex d x i::r) F H Q=match aq F x with
  | .tuple aD=>(match aD[i]? with
   | some v=>bh P r (a4 F d v) H Q
   | none=>False)
  | _=>False:=by
 rw[ex,js _ rfl];simp only[b3]
 cases aq F x<;>try rfl
 simp only[tP];rfl
theorem aej(d t:Nat)(x:Operand):bh P (mB d t x::r) F H Q=(P.concrete t=true/\bh P r (a4 F d (.iface t (aq F x))) H Q):=by
 rw[mB,js _ rfl];simp only[b3,sb];rfl
theorem aei(d:Nat)(fn:Fn)(a b:Array Operand):bh P (u9 d fn a b::r) F H Q=bh P r (a4 F d (.func fn (a.map (aq F)) (b.map (aq F)))) H Q:=by
 rw[u9,js _ rfl];rfl
def Bh(P:Program)(F:Fr)(t:Nat)(aW:List (Nat×Operand)):Option Value:=match dA P t with
 | some z=>if flat z=true then dz P (Instr.build t (aW.toArray.map fun p=>(p.1,aq F p.2)))else none
 | none=>none
theorem ad3(d t:Nat)(aW:List (Nat×Operand)):bh P (dB d t aW::r) F H Q=match Bh P F t aW with
  | some v=>bh P r (a4 F d v) H Q
  | none=>False:=by
 rw[dB,js _ rfl];simp only[b3,Bh]
 cases dA P t with
 | none=>rfl
 | some z=>
  simp only
  split
  ·simp only[tP];rfl
  ·rfl
theorem aeh(d t:Nat)(x:Operand):bh P (bF d t x::r) F H Q=match aq F x with
  | .slice _ n _=>(match fe P t with
   | some _=>bh P r (a4 F d (.int .i64 n)) H Q
   | none=>False)
  | .string s=>iw P t=true/\bh P r (a4 F d (.int .i64 s.size)) H Q
  | _=>False:=by
 rw[bF,js _ rfl];simp only[b3,rC]
 cases aq F x<;>try rfl
 ·simp only[sb];rfl
 ·simp only;cases fe P t<;>rfl
theorem aen(d:Nat)(bV:List Nat)(x y:Operand):bh P (u_ d bV x y::r) F H Q=match aq F x,aq F y with
  | .int k a,.int _ b=>bh P r (a4 F d (.int k (if b>a then b else a))) H Q
  | _,_=>False:=by
 rw[u_,js _ rfl];simp only[b3,rC]
 cases aq F x<;>try rfl
 cases aq F y<;>rfl
theorem aek(d:Nat)(bV:List Nat)(x y:Operand):bh P (x6 d bV x y::r) F H Q=match aq F x,aq F y with
  | .int k a,.int _ b=>bh P r (a4 F d (.int k (if b<a then b else a))) H Q
  | _,_=>False:=by
 rw[x6,js _ rfl];simp only[b3,rC]
 cases aq F x<;>try rfl
 cases aq F y<;>rfl
theorem Gl(b:Bool)(d:Option Nat)(f:Nat)(args:Array Operand):bh P (⟨b,none,d,.call {callee:= .value (.func f),args:=args,argTypes:= #[]}⟩::r) F H Q=aP P f (args.toList.map (aq F)) H (fun v H1=>(b=true\/Ext H H1)/\bh P r (fM F d v) H1 Q):=by
 simp only[bh,ga,aq]
 simp
theorem ad6(d f:Nat)(args:List Operand):bh P (aS d f args::r) F H Q=aP P f (args.map (aq F)) H (fun v H1=>bh P r (a4 F d v) H1 Q):=by
 rw[aS,Gl];simp[fM]
theorem ad7(f:Nat)(args:List Operand):bh P (y9 f args::r) F H Q=aP P f (args.map (aq F)) H (fun v H1=>bh P r F H1 Q):=by
 rw[y9,Gl];simp[fM]
theorem aep(d f:Nat)(args:List Operand):bh P (bj (aS d f args)::r) F H Q=aP P f (args.map (aq F)) H (fun v H1=>Ext H H1/\bh P r (a4 F d v) H1 Q):=by
 simp only[bj,aS];rw[Gl];simp[fM]
theorem ad8(d:Nat)(x:Operand)(args:List Operand):bh P (l7 d x args::r) F H Q=match aq F x with
  | .func (.func g) first cap=>aP P g (first.toList++args.map (aq F)++cap.toList) H (fun v H1=>bh P r (a4 F d v) H1 Q)
  | _=>False:=by
 simp only[bh,l7,ga]
 cases aq F x<;>try rfl
 rename_i fn a b
 cases fn<;>simp[fM]
theorem ad9(d s t:Nat)(x:Operand){jF:IntKind}{n:Int}(h:aq F x= .int jF n){lT k:IntKind}(ao:j0 P s=some lT)(bM:j0 P t=some k):bh P (ch d s t x::r) F H Q=bh P r (a4 F d (.int k (k.wrap n))) H Q:=by
 simp[bh,ch,ga,b3,hH,fM,h,ao,bM]
theorem aem{b:Bool}{d:Option Nat}{op:Op}(an:isVal op=false)(hm:jo op=true)(aG:b3 P (aq F) H op=none){v:Value}{H1:ab}(av:nI P (aq F) H op v H1)(ag:b=true\/Ext H H1)(h:bh P r (fM F d v) H1 Q):bh P (⟨b,none,d,op⟩::r) F H Q:=by
 simp only[bh]
 have main:(match b3 P (aq F) H op with
   | some (v,H1)=>(hH op=true->b=true)/\bh P r (fM F d v) H1 Q
   | none=>jo op=true/\∃v H1,nI P (aq F) H op v H1/\(b=true\/Ext H H1)/\bh P r (fM F d v) H1 Q):=by
  rw[aG]
  exact⟨hm,v,H1,av,ag,h⟩
 cases op<;>try exact main
 rename_i c
 obtain⟨callee,args,kU⟩:=c
 cases callee<;>try exact main
 simp[isVal]at an
end
def ow:List Value->Nat->List Value->List Value
 | cs,_,[]=>cs
 | cs,i,v::aD=>ow (cs.set i v) (i+1) aD
theorem JB(off:Nat):∀(aD:List Value) (k:Nat) (cs:Array Value),((aD.zipIdx k).foldl (fun cs (qC:Value×Nat)=>cs.setIfInBounds (off+qC.2) qC.1) cs).toList=ow cs.toList (off+k) aD
 | [],k,cs=>rfl
 | v::aD,k,cs=>by
  simp only[List.zipIdx_cons,List.foldl_cons,ow]
  rw[JB off aD (k+1) _]
  simp[Nat.add_assoc]
def iY(place:Nat->Option (Nat×Nat))(cs:List Value):List (Nat×Value)->Option (List Value)
 | []=>some cs
 | (i,v)::rest=>match place i with
  | none=>none
  | some (off,size)=>if v.cells.toList.length=size/\off+size<=cs.length then iY place (ow cs off v.cells.toList) rest else none
def kg(pl:List (Nat×Nat))(cs:List Value)(parts:List (Nat×Value)):Option (List Value):=iY (fun i=>pl[i]?) cs parts
theorem fill_eq(place:Nat->Option (Nat×Nat)):∀(parts:List (Nat×Value)) (cs:Array Value),Instr.fill place cs parts=(iY place cs.toList parts).map (·.toArray)
 | [],cs=>by simp[Instr.fill,iY]
 | (i,v)::rest,cs=>by
  simp only[iY,Instr.fill]
  cases place i with
  | none=>rfl
  | some os=>
   obtain⟨off,size⟩:=os
   simp only
   have e:(v.cells.zipIdx.foldl (fun cs (x:Value×Nat)=>cs.setIfInBounds (off+x.2) x.1) cs).toList=ow cs.toList off v.cells.toList:=by
    have:=JB off v.cells.toList 0 cs
    rw[<-Array.foldl_toList,Array.toList_zipIdx]
    simpa using this
   by_cases ad:v.cells.toList.length=size/\off+size<=cs.toList.length
   ·rw[if_pos ad]
    have o:v.cells.size=size:=by simpa using ad.1
    have aa:off+size<=cs.size:=by simpa using ad.2
    rw[if_neg (by simp[o];omega),fill_eq place rest,<-e]
   ·rw[if_neg ad]
    have:(decide (v.cells.size≠size) || decide (off+v.cells.size>cs.size))=true:=by
     by_cases o:v.cells.size=size
     ·have aa:¬(off+size<=cs.size):=fun h=>ad ⟨by simpa using o,by simpa using h⟩
      simp[o];omega
     ·simp[o]
    rw[if_pos this]
    rfl
def lg(P:Program)(t:TypeId):Option (List (Nat×Nat)):=match P.underlying t with
 | some (.struct jO)=>jO.toList.mapM fun f=>(bq P f.type).map fun n=>(f.offset,n)
 | _=>none
theorem ND{P:Program}{α β:Type}(f:α->Sem β)(g:α->Option β)(h:∀a,dz P (f a)=g a):∀l:List α,dz P (l.mapM f)=l.mapM g
 | []=>by simp[e4]
 | a::l=>by
  simp only[List.mapM_cons,fy,e4,h,ND f g h l]
  rfl
theorem ZT{P:Program}{F:Fr}{t:Nat}{aW:List (Nat×Operand)}{z:Value}{pl:List (Nat×Nat)}(aM:dA P t=some z)(dS:flat z=true)(aY:lg P t=some pl):
  Bh P F t aW=(kg pl z.cells.toList (aW.map fun p=>(p.1,aq F p.2))).map fun out=> .agg out.toArray:=by
 unfold lg at aY
 split at aY
 ·rename_i jO hu
  simp only[Bh,aM,dS,if_true,Instr.build,fy,E8,Option.bind_some,ot,hu]
  have hm:dz P (jO.mapM fun f=>do pure (f.offset,<-sizeOf f.type))=some pl.toArray:=by
   rw[Array.mapM_eq_mapM_toList,o_,ND _ (fun f=>(bq P f.type).map fun n=>(f.offset,n)) (fun f=>by
    simp only[fy,e4,ya]
    cases bq P f.type<;>rfl),aY]
   rfl
  rw[hm]
  simp only[Option.bind_some]
  have:=fill_eq (fun x=>pl.toArray[x]?) (aW.map fun p=>(p.1,aq F p.2)) z.cells
  rw[show(fun x=>pl.toArray[x]?)=fun x=>pl[x]? from funext fun x=>by simp]at this
  have ar:(aW.toArray.map fun p=>(p.1,aq F p.2)).toList=aW.map fun p=>(p.1,aq F p.2):=by simp
  rw[ar,show(fun x=>pl.toArray[x]?)=fun x=>pl[x]? from funext fun x=>by simp,this]
  unfold kg
  cases iY (fun i=>pl[i]?) z.cells.toList (aW.map fun p=>(p.1,aq F p.2))<;>rfl
 ·cases aY
@[simp] theorem agE(pl:List (Nat×Nat))(cs:List Value):kg pl cs []=some cs:=rfl
@[simp] theorem agD(pl:List (Nat×Nat))(cs:List Value)(i:Nat)(v:Value)(rest:List (Nat×Value)):kg pl cs ((i,v)::rest)=match pl[i]? with
  | none=>none
  | some (off,size)=>if v.cells.toList.length=size/\off+size<=cs.length then kg pl (ow cs off v.cells.toList) rest else none:=rfl
attribute [simp] ow
def eX{α:Type}(R:Option α)(K:α->Prop):Prop:=match R with
 | some v=>K v
 | none=>False
def gm(c:Prop)(K:Prop):Prop:=c/\K
def hM(b:Bool)(dr cT:Prop):Prop:=match b with
 | true=>dr
 | false=>cT
def GB(v:Value)(K:Addr->Prop):Prop:=match v with
 | .pointer (some a)=>K a
 | _=>False
def yQ(v:Value)(K:Bool->Prop):Prop:=match v with
 | .bool b=>K b
 | _=>False
def pn(v:Value)(K:IntKind->Int->Prop):Prop:=match v with
 | .int k n=>K k n
 | _=>False
def rZ(v:Value)(K:Nat->Nat->Prop):Prop:=match v with
 | .pointer (some ⟨b,i,none⟩)=>K b i
 | _=>False
def yT(v:Value)(K:Option Addr->Nat->Nat->Prop):Prop:=match v with
 | .slice a n c=>K a n c
 | _=>False
def yP(a:Option Addr)(K:Nat->Nat->Prop):Prop:=match a with
 | some ⟨b,i,none⟩=>K b i
 | _=>False
def GH(v:Value)(K:ByteArray->Prop):Prop:=match v with
 | .string s=>K s
 | _=>False
def nJ(v:Value)(K:Array Value->Prop):Prop:=match v with
 | .agg cs=>K cs
 | _=>False
def BY(v:Value)(K:Array Value->Prop):Prop:=match v with
 | .tuple cs=>K cs
 | _=>False
def Gz(v:Value)(K:Nat->Array Value->Array Value->Prop):Prop:=match v with
 | .func (.func g) a b=>K g a b
 | _=>False
def GD(x:Option bI)(K:TypeId->Bool->List Value->Prop):Prop:=match x with
 | some (.own e l cs)=>K e l cs
 | _=>False
section
theorem Pw(K:Prop):gm True K=K:=by simp[gm]
theorem hM.mk{b:Bool}{dr cT:Prop}(o:b=true->dr)(aa:b=false->cT):hM b dr cT:=by
 cases b
 ·exact aa rfl
 ·exact o rfl
theorem hM.b_{p:Prop}[Decidable p]{dr cT:Prop}(o:p->dr)(aa:¬p->cT):hM (decide p) dr cT:=by
 by_cases h:p
 ·rw[decide_eq_true h];exact o h
 ·rw[decide_eq_false h];exact aa h
@[simp] theorem ajV(F:Fr)(d:Nat)(v:Value)(i:Nat):a4 F d v i=if i=d then v else F i:=rfl
attribute [simp] py Jw RD RE
@[simp] theorem afL(b:Bool):hg (.bool b)=some b:=rfl
@[simp] theorem afj(a:Value)(l:List Value):jt (a::l) 0=a:=rfl
@[simp] theorem afk(a b:Value)(l:List Value):jt (a::b::l) 1=b:=rfl
@[simp] theorem afl(a b c:Value)(l:List Value):jt (a::b::c::l) 2=c:=rfl
@[simp] theorem afm(a b c d:Value)(l:List Value):jt (a::b::c::d::l) 3=d:=rfl
@[simp] theorem afn(a b c d e:Value)(l:List Value):jt (a::b::c::d::e::l) 4=e:=rfl
@[simp] theorem afo(a b c d e f:Value)(l:List Value):jt (a::b::c::d::e::f::l) 5=f:=rfl
@[simp] theorem afp(a b c d e f g:Value)(l:List Value):jt (a::b::c::d::e::f::g::l) 6=g:=rfl
theorem b6{n:Int}(o: -9223372036854775808<=n)(aa:n<9223372036854775808):IntKind.wrap .i64 n=n:=by
 simp only[IntKind.wrap,IntKind.bits,IntKind.signed]
 simp
 split<;>omega
theorem f_{n:Int}(o:0<=n)(aa:n<18446744073709551616):IntKind.wrap .u64 n=n:=by
 simp only[IntKind.wrap,IntKind.bits,IntKind.signed]
 simp
 omega
theorem lY{n:Int}(o:0<=n)(aa:n<4294967296):IntKind.wrap .u32 n=n:=by
 simp only[IntKind.wrap,IntKind.bits,IntKind.signed]
 simp
 omega
theorem BK{n:Int}(o:0<=n)(aa:n<256):IntKind.wrap .u8 n=n:=by
 simp only[IntKind.wrap,IntKind.bits,IntKind.signed]
 simp
 omega
theorem oy(n:Int):IntKind.wrap .u32 n=n % 4294967296:=by
 simp only[IntKind.wrap,IntKind.bits,IntKind.signed]
 simp
theorem Pj(n:Int):IntKind.wrap .u64 n=n % 18446744073709551616:=by
 simp only[IntKind.wrap,IntKind.bits,IntKind.signed]
 simp
@[simp] theorem afG:IntKind.bits .u64=64:=rfl
@[simp] theorem afF:IntKind.bits .u32=32:=rfl
@[simp] theorem afE:IntKind.bits .i64=64:=rfl
@[simp] theorem afH:IntKind.bits .u8=8:=rfl
@[simp] theorem aiJ:IntKind.signed .u64=false:=rfl
@[simp] theorem aiI:IntKind.signed .u32=false:=rfl
@[simp] theorem aiK:IntKind.signed .u8=false:=rfl
@[simp] theorem aiH:IntKind.signed .i64=true:=rfl
theorem mT(a:Int){b:Int}(h:0<=b):a.fdiv b=a/b:=Int.fdiv_eq_ediv_of_nonneg a h
section
variable {P:Program} {t:Nat} {k b5:IntKind} {a b:Int}
@[simp] theorem ZO:dZ P .add t (.int k a) (.int k b)=some (.int k (k.wrap (a+b))):=by simp[dZ,kd]
@[simp] theorem aiE:dZ P .sub t (.int k a) (.int k b)=some (.int k (k.wrap (a-b))):=by simp[dZ,kd]
@[simp] theorem ais:dZ P .mul t (.int k a) (.int k b)=some (.int k (k.wrap (a*b))):=by simp[dZ,kd]
@[simp] theorem aio:dZ P .eql t (.int k a) (.int k b)=some (.bool (decide (a=b))):=by simp[dZ,kd];rfl
@[simp] theorem ait:dZ P .neq t (.int k a) (.int k b)=some (.bool (decide (a≠b))):=by
 simp[dZ,kd]
 by_cases h:a=b<;>simp[h]
@[simp] theorem ZQ:dZ P .lss t (.int k a) (.int k b)=some (.bool (decide (a<b))):=by simp[dZ,kd]
@[simp] theorem air:dZ P .leq t (.int k a) (.int k b)=some (.bool (decide (a<=b))):=by simp[dZ,kd]
@[simp] theorem aiq:dZ P .gtr t (.int k a) (.int k b)=some (.bool (decide (b<a))):=by simp[dZ,kd]
@[simp] theorem aip:dZ P .geq t (.int k a) (.int k b)=some (.bool (decide (b<=a))):=by simp[dZ,kd]
@[simp] theorem aix:dZ P .quo t (.int k a) (.int k b)=if b=0 then none else some (.int k (k.wrap (a.tdiv b))):=by simp[dZ,kd]
@[simp] theorem aiy:dZ P .rem t (.int k a) (.int k b)=if b=0 then none else some (.int k (a.tmod b)):=by simp[dZ,kd]
@[simp] theorem N5:dZ P .or t (.int k a) (.int k b)=some (.int k (k.wrap (BitVec.ofInt k.bits a ||| BitVec.ofInt k.bits b).toNat)):=by simp[dZ,kd]
@[simp] theorem ZP:dZ P .and t (.int k a) (.int k b)=some (.int k (k.wrap (BitVec.ofInt k.bits a&&&BitVec.ofInt k.bits b).toNat)):=by simp[dZ,kd]
@[simp] theorem aiF:dZ P .xor t (.int k a) (.int k b)=some (.int k (k.wrap (BitVec.ofInt k.bits a^^^BitVec.ofInt k.bits b).toNat)):=by simp[dZ,kd]
@[simp] theorem ZS:dZ P .shl t (.int k a) (.int b5 b)=if b<0 then none else some (.int k (k.wrap (a*2^(min b.toNat k.bits)))):=by simp[dZ,v3]
@[simp] theorem aiC:dZ P .shr t (.int k a) (.int b5 b)=if b<0 then none else some (.int k (a.fdiv (2^(min b.toNat k.bits)))):=by simp[dZ,v3]
@[simp] theorem aiA{x y:ByteArray}:dZ P .eql t (.string x) (.string y)=some (.bool (x.toList==y.toList)):=by simp[dZ,tC]
@[simp] theorem aiD{x y:ByteArray}:dZ P .neq t (.string x) (.string y)=some (.bool !(x.toList==y.toList)):=by simp[dZ,tC]
@[simp] theorem aiz{x y:ByteArray}:dZ P .add t (.string x) (.string y)=if x.size+y.size<=9223372036854775807 then some (.string (x++y))else none:=by simp[dZ,tC]
@[simp] theorem aim{x y:Bool}:dZ P .eql t (.bool x) (.bool y)=if tE P t=true then some (.bool (x==y))else none:=by simp[dZ]
@[simp] theorem ain{x y:Bool}:dZ P .neq t (.bool x) (.bool y)=if tE P t=true then some (.bool (!(x==y)))else none:=by simp[dZ]
@[simp] theorem aiu{x:Option Addr}{n c:Nat}:dZ P .eql t (.slice x n c) (.slice none 0 0)=(fe P t).map fun _=> .bool x.isNone:=by simp only[dZ];cases fe P t<;>rfl
@[simp] theorem aiL{x:Int}:pb .neg (.int k x)=some (.int k (k.wrap (0-x))):=rfl
@[simp] theorem aiM{x:Bool}:pb .not (.bool x)=some (.bool !x):=rfl
@[simp] theorem aiN{x:Int}:pb .xor (.int k x)=some (.int k (k.wrap (BitVec.ofInt k.bits (if k.signed then-1 else k.max)^^^BitVec.ofInt k.bits x).toNat)):=rfl
end
section
variable {P:Program} {r:List bz} {F:Fr} {H:ab} {Q:Fr->ab->Prop}
def hL(x:bz):bz:={x with g:=none}
def nB(R:Option Bool)(w:Bool)(dr cT:Prop):Prop:=if R=some w then dr else cT
theorem PB(b:Bool)(dr cT:Prop):nB (some b) true dr cT=hM b dr cT:=by cases b<;>simp[nB,hM]
theorem PA(b:Bool)(dr cT:Prop):nB (some b) false dr cT=hM b cT dr:=by cases b<;>simp[nB,hM]
theorem adL(j:Nat)(w:Bool)(x:bz):bh P (aT j w x::r) F H Q=nB (hg (F j)) w (bh P (hL x::r) F H Q) (bh P r (fM F x.d undef) H Q):=rfl
@[simp] theorem agF(d:Nat)(v:Value):fM F (some d) v=a4 F d v:=rfl
@[simp] theorem ajP(x:bz):hL (bj x)=bj (hL x):=rfl
@[simp] theorem ags(x:bz):(bj x).d=x.d:=rfl
@[simp] theorem ajO(d:Nat)(x:Operand):hL (I d x)=I d x:=rfl
@[simp] theorem agr(d:Nat)(x:Operand):(I d x).d=some d:=rfl
@[simp] theorem ajS(d:Nat)(x:Operand):hL (ak d x)=ak d x:=rfl
@[simp] theorem agv(d:Nat)(x:Operand):(ak d x).d=some d:=rfl
@[simp] theorem ajR(d:Nat)(c a b:Operand):hL (cR d c a b)=cR d c a b:=rfl
@[simp] theorem agu(d:Nat)(c a b:Operand):(cR d c a b).d=some d:=rfl
@[simp] theorem ajA(d e:Nat):hL (bL d e)=bL d e:=rfl
@[simp] theorem agb(d e:Nat):(bL d e).d=some d:=rfl
@[simp] theorem ajC(d e:Nat)(x:Operand):hL (cl d e x)=cl d e x:=rfl
@[simp] theorem age(d e:Nat)(x:Operand):(cl d e x).d=some d:=rfl
@[simp] theorem ajL(d t:Nat)(x:Operand):hL (aI d t x)=aI d t x:=rfl
@[simp] theorem ago(d t:Nat)(x:Operand):(aI d t x).d=some d:=rfl
@[simp] theorem ajQ(d:Nat)(x:Operand):hL (iR d x)=iR d x:=rfl
@[simp] theorem agt(d:Nat)(x:Operand):(iR d x).d=some d:=rfl
@[simp] theorem ajB(d:Nat)(op:BinOp)(t:Nat)(x y:Operand):hL (bi d op t x y)=bi d op t x y:=rfl
@[simp] theorem agc(d:Nat)(op:BinOp)(t:Nat)(x y:Operand):(bi d op t x y).d=some d:=rfl
@[simp] theorem ajU(d:Nat)(op:UnOp)(x:Operand):hL (un d op x)=un d op x:=rfl
@[simp] theorem agx(d:Nat)(op:UnOp)(x:Operand):(un d op x).d=some d:=rfl
@[simp] theorem ajF(d s t:Nat)(x:Operand):hL (ch d s t x)=ch d s t x:=rfl
@[simp] theorem agi(d s t:Nat)(x:Operand):(ch d s t x).d=some d:=rfl
@[simp] theorem ajH(d s:Nat)(x:Operand)(f:Nat):hL (a9 d s x f)=a9 d s x f:=rfl
@[simp] theorem agk(d s:Nat)(x:Operand)(f:Nat):(a9 d s x f).d=some d:=rfl
@[simp] theorem ajI(d s:Nat)(x:Operand)(f:Nat):hL (nP d s x f)=nP d s x f:=rfl
@[simp] theorem agl(d s:Nat)(x:Operand)(f:Nat):(nP d s x f).d=some d:=rfl
@[simp] theorem ajJ(d t:Nat)(x i:Operand):hL (bu d t x i)=bu d t x i:=rfl
@[simp] theorem agm(d t:Nat)(x i:Operand):(bu d t x i).d=some d:=rfl
@[simp] theorem ajK(d t:Nat)(x i:Operand):hL (en d t x i)=en d t x i:=rfl
@[simp] theorem agn(d t:Nat)(x i:Operand):(en d t x i).d=some d:=rfl
@[simp] theorem ajG(d:Nat)(x:Operand)(i:Nat):hL (ex d x i)=ex d x i:=rfl
@[simp] theorem agj(d:Nat)(x:Operand)(i:Nat):(ex d x i).d=some d:=rfl
@[simp] theorem ajT(d t:Nat)(x:Operand)(bb ae fk:Option Operand):hL (fF d t x bb ae fk)=fF d t x bb ae fk:=rfl
@[simp] theorem agw(d t:Nat)(x:Operand)(bb ae fk:Option Operand):(fF d t x bb ae fk).d=some d:=rfl
@[simp] theorem ajM(d t:Nat)(x:Operand):hL (bF d t x)=bF d t x:=rfl
@[simp] theorem agp(d t:Nat)(x:Operand):(bF d t x).d=some d:=rfl
@[simp] theorem ajD(d f:Nat)(args:List Operand):hL (aS d f args)=aS d f args:=rfl
@[simp] theorem agf(d f:Nat)(args:List Operand):(aS d f args).d=some d:=rfl
@[simp] theorem ajE(d:Nat)(x:Operand)(args:List Operand):hL (l7 d x args)=l7 d x args:=rfl
@[simp] theorem agh(d:Nat)(x:Operand)(args:List Operand):(l7 d x args).d=some d:=rfl
@[simp] theorem ajN(d t:Nat)(x:Operand):hL (mB d t x)=mB d t x:=rfl
@[simp] theorem agq(d t:Nat)(x:Operand):(mB d t x).d=some d:=rfl
theorem adT(d:Nat)(c a b:Operand):bh P (cR d c a b::r) F H Q=yQ (aq F c) fun t=>bh P r (a4 F d (if t=true then aq F a else aq F b)) H Q:=by
 rw[aeq];cases aq F c<;>rfl
theorem adD(d e:Nat):bh P (bL d e::r) F H Q=eX (dA P e) fun z=>gm (flat z=true/\(bq P e).isSome=true) (bh P r (a4 F d (.pointer (some ⟨H.length,0,none⟩))) (H++[.own e false z.cells.toList]) Q):=by
 rw[Pp];cases dA P e<;>rfl
theorem Pk(d e:Nat)(x:Operand):bh P (cl d e x::r) F H Q=gm ((bq P e).isSome=true) (bh P r (a4 F d (.pointer (some ⟨H.length,0,none⟩))) (H++[.own e false (aq F x).cells.toList]) Q):=by
 rw[ad5];rfl
def lenOf(P:Program)(t:Nat):Value->Option Nat
 | .slice _ n _=>(fe P t).map fun _=>n
 | .string s=>if iw P t=true then some s.size else none
 | _=>none
theorem adO(d t:Nat)(x:Operand):bh P (aI d t x::r) F H Q=rZ (aq F x) fun b i=>eX ((H[b]?).bind bI.cells?) fun cs=>eX (ds P t) fun g=>hM g (eX (bq P t) fun n=>gm (i+n<=cs.length) (bh P r (a4 F d (.agg ((cs.drop i).take n).toArray)) H Q)) (eX cs[i]? fun v=>bh P r (a4 F d v) H Q):=by
 rw[aeg]
 cases aq F x<;>try rfl
 rename_i a
 cases a with
 | none=>rfl
 | some a=>
  obtain⟨b,i,c⟩:=a
  cases c<;>try rfl
  simp only[rZ]
  cases(H[b]?).bind bI.cells? with
  | none=>rfl
  | some cs=>
   simp only[eX]
   cases ds P t with
   | none=>rfl
   | some g=>
    cases g with
    | false=>simp only[hM];cases cs[i]?<;>rfl
    | true=>simp only[hM];cases bq P t<;>rfl
theorem adU(t:Nat)(x y:Operand):bh P (st t x y::r) F H Q=rZ (aq F x) fun b i=>GD H[b]? fun e l cs=>gm (bq P t=some (aq F y).cells.size/\i+(aq F y).cells.size<=cs.length/\((aq F y).cells.toList.all (·.oneCell'))=true) (bh P r F (H.set b (.own e l (lX cs i (aq F y).cells.toList))) Q):=by
 rw[aet]
 cases aq F x<;>try rfl
theorem adS(d:Nat)(x:Operand):bh P (iR d x::r) F H Q=GB (aq F x) fun a=>bh P r (a4 F d (.pointer (some a))) H Q:=by
 rw[aeo]
 cases aq F x<;>try rfl
theorem adF(d:Nat)(op:BinOp)(t:Nat)(x y:Operand):bh P (bi d op t x y::r) F H Q=eX (dZ P op t (aq F x) (aq F y)) fun v=>bh P r (a4 F d v) H Q:=by
 rw[ad4];cases dZ P op t (aq F x) (aq F y)<;>rfl
theorem adV(d:Nat)(op:UnOp)(x:Operand):bh P (un d op x::r) F H Q=eX (pb op (aq F x)) fun v=>bh P r (a4 F d v) H Q:=by
 rw[aeu];cases pb op (aq F x)<;>rfl
theorem adJ(d s:Nat)(x:Operand)(f:Nat):bh P (a9 d s x f::r) F H Q=rZ (aq F x) fun b i=>eX (fL P s f) fun off=>bh P r (a4 F d (.pointer (some ⟨b,i+off,none⟩))) H Q:=by
 rw[aeb]
 cases aq F x<;>try rfl
 rename_i a
 cases a with
 | none=>rfl
 | some a=>
  obtain⟨b,i,c⟩:=a
  cases c<;>try rfl
  cases fL P s f<;>rfl
theorem adK(d s:Nat)(x:Operand)(f:Nat):bh P (nP d s x f::r) F H Q=nJ (aq F x) fun cs=>eX (oL P s f) fun c=>eX (pv cs c) fun v=>bh P r (a4 F d v) H Q:=by
 rw[aed]
 cases aq F x<;>try rfl
 rename_i cs
 simp only[nJ,eX]
 cases oL P s f with
 | none=>rfl
 | some c=>simp only;cases pv cs c<;>rfl
theorem zq{α:Type}(R:Option α){K:α->Prop}(h:∀v,K v=False):eX R K=False:=by cases R<;>simp[eX,h]
theorem adM(d t:Nat)(x i:Operand):bh P (bu d t x i::r) F H Q=yT (aq F x) fun a len _=>pn (aq F i) fun _ n=>eX (fe P t) fun e=>eX (bq P e) fun U=>yP a fun b R=>gm (0<=n/\n<len) (bh P r (a4 F d (.pointer (some ⟨b,R+n.toNat*U,none⟩))) H Q):=by
 rw[aee]
 generalize aq F x=u
 generalize aq F i=w
 cases u with
 | slice a len cap=>
  rcases a with _ | ⟨b,R,_ | c⟩
  ·cases w with
   | int k n=>exact(zq _ fun e=>zq _ fun z=>rfl).symm
   | _=>rfl
  ·cases w with
   | int k n=>
    simp only[yT,pn,yP]
    cases fe P t with
    | none=>rfl
    | some e=>
     simp only[eX]
     cases bq P e<;>rfl
   | _=>rfl
  ·cases w with
   | int k n=>exact(zq _ fun e=>zq _ fun z=>rfl).symm
   | _=>rfl
 | _=>rfl
theorem adN(d t:Nat)(x i:Operand):bh P (en d t x i::r) F H Q=GH (aq F x) fun s=>pn (aq F i) fun _ n=>gm (iw P t=true/\0<=n/\n<s.size) (bh P r (a4 F d (.int .u8 ((s.data.getD n.toNat 0).toNat:Int))) H Q):=by
 rw[aef]
 cases aq F x<;>try rfl
 cases aq F i<;>rfl
theorem adI(d:Nat)(x:Operand)(i:Nat):bh P (ex d x i::r) F H Q=BY (aq F x) fun aD=>eX aD[i]? fun v=>bh P r (a4 F d v) H Q:=by
 rw[aea]
 cases aq F x<;>try rfl
 rename_i aD
 simp only[BY]
 cases aD[i]?<;>rfl
theorem adE{d t:Nat}{aW:List (Nat×Operand)}{z:Value}{pl:List (Nat×Nat)}(aM:dA P t=some z)(dS:flat z=true)(aY:lg P t=some pl):
  bh P (dB d t aW::r) F H Q=eX (kg pl z.cells.toList (aW.map fun p=>(p.1,aq F p.2))) fun out=>bh P r (a4 F d (.agg out.toArray)) H Q:=by
 rw[ad3,ZT aM dS aY]
 cases kg pl z.cells.toList (aW.map fun p=>(p.1,aq F p.2))<;>rfl
def isInt:Value->Bool
 | .int _ _=>true
 | _=>false
def intOf:Value->Int
 | .int _ n=>n
 | _=>0
@[simp] theorem ahU(k:IntKind)(n:Int):isInt (.int k n)=true:=rfl
@[simp] theorem ahT(k:IntKind)(n:Int):intOf (.int k n)=n:=rfl
theorem adH{d s t:Nat}{x:Operand}{lT k:IntKind}(ao:j0 P s=some lT)(bM:j0 P t=some k)(J:isInt (aq F x)=true):bh P (ch d s t x::r) F H Q=bh P r (a4 F d (.int k (k.wrap (intOf (aq F x))))) H Q:=by
 cases an:aq F x<;>rw[an]at J<;>first | exact ad9 d s t x an ao bM | cases J
def isStr:Value->Bool
 | .string _=>true
 | _=>false
@[simp] theorem ahW(s:ByteArray):isStr (.string s)=true:=rfl
theorem adG(d:Nat)(x:Operand)(args:List Operand):bh P (l7 d x args::r) F H Q=Gz (aq F x) fun g a b=>aP P g (a.toList++args.map (aq F)++b.toList) H (fun v H1=>bh P r (a4 F d v) H1 Q):=by
 rw[ad8]
 cases aq F x<;>try rfl
theorem adP(d t:Nat)(x:Operand):bh P (bF d t x::r) F H Q=eX (lenOf P t (aq F x)) fun(n:Nat)=>bh P r (a4 F d (.int .i64 n)) H Q:=by
 rw[aeh]
 cases aq F x<;>try rfl
 ·simp only[lenOf]
  split
  ·rename_i h;simp[h,eX]
  ·rename_i h;simp[h,eX]
 ·simp only[lenOf]
  cases fe P t<;>rfl
@[simp] theorem Yi(t:Nat)(a:Option Addr)(n c:Nat):lenOf P t (.slice a n c)=(fe P t).map fun _=>n:=rfl
@[simp] theorem Yj(t:Nat)(s:ByteArray):lenOf P t (.string s)=if iw P t=true then some s.size else none:=rfl
theorem adR(d:Nat)(bV:List Nat)(x y:Operand):bh P (u_ d bV x y::r) F H Q=pn (aq F x) fun k a=>pn (aq F y) fun _ b=>bh P r (a4 F d (.int k (if b>a then b else a))) H Q:=by
 rw[aen]
 cases aq F x<;>try rfl
 cases aq F y<;>rfl
theorem adQ(d:Nat)(bV:List Nat)(x y:Operand):bh P (x6 d bV x y::r) F H Q=pn (aq F x) fun k a=>pn (aq F y) fun _ b=>bh P r (a4 F d (.int k (if b<a then b else a))) H Q:=by
 rw[aek]
 cases aq F x<;>try rfl
 cases aq F y<;>rfl
end
section
variable {P:Program} {F:Fr} {H:ab} {Q:dH->Fr->ab->Prop}
theorem aeC:ez P .skip F H Q=Q .normal F H:=rfl
theorem aeA:ez P .ret F H Q=Q .ret F H:=rfl
theorem aex(id:Nat):ez P (.exit id) F H Q=Q (.exit id) F H:=rfl
theorem aeB(x y:gy):ez P (.seq x y) F H Q=ez P x F H (ns (fun az H1=>ez P y az H1 Q) Q):=rfl
theorem aew(c:Operand)(x y:gy):ez P (.cond c x y) F H Q=yQ (aq F c) fun b=>hM b (ez P x F H Q) (ez P y F H Q):=by
 simp only[ez]
 cases aq F c<;>try rfl
 rename_i b
 cases b<;>rfl
theorem aev(id:Nat)(x:gy):ez P (.block id x) F H Q=ez P x F H (pt id Q):=rfl
theorem aey(x:gy):ez P (.loop x) F H Q=qt (ez P x) Q F H:=rfl
theorem aez(l:List bz):ez P (.ops l) F H Q=bh P l F H (fun az H1=>Q .normal az H1):=rfl
theorem ZY{K:Fr->ab->Prop}:ns K Q .normal F H=K F H:=rfl
theorem ZZ{K:Fr->ab->Prop}:ns K Q .ret F H=Q .ret F H:=rfl
theorem ZX{K:Fr->ab->Prop}(id:Nat):ns K Q (.exit id) F H=Q (.exit id) F H:=rfl
theorem PZ(id:Nat):pt id Q .normal F H=Q .normal F H:=rfl
theorem P0(id:Nat):pt id Q .ret F H=Q .ret F H:=rfl
theorem PY(id hG:Nat):pt id Q (.exit hG) F H=if hG=id then Q .normal F H else Q (.exit hG) F H:=rfl
theorem ad0{K:List Value->Prop}:ka P F H [] K=K []:=rfl
theorem ad1{K:List Value->Prop}(i:Nat)(rs:List ResultVar):ka P F H (.tmp i::rs) K=ka P F H rs fun aD=>K (F i::aD):=rfl
theorem adZ{K:List Value->Prop}(a ty:Nat)(rs:List ResultVar):ka P F H (.cell a ty::rs) K=rZ (F a) fun b i=>eX ((H[b]?).bind bI.cells?) fun cs=>eX (ds P ty) fun g=>hM g (eX (bq P ty) fun n=>gm (i+n<=cs.length) (ka P F H rs fun aD=>K (.agg ((cs.drop i).take n).toArray::aD))) (eX cs[i]? fun v=>ka P F H rs fun aD=>K (v::aD)):=by
 simp only[ka,iG]
 cases F a<;>try rfl
 rename_i a
 cases a with
 | none=>rfl
 | some a=>
  obtain⟨b,i,c⟩:=a
  cases c<;>try rfl
  simp only[rZ]
  cases(H[b]?).bind bI.cells? with
  | none=>rfl
  | some cs=>
   simp only[eX]
   cases ds P ty with
   | none=>rfl
   | some g=>
    cases g with
    | false=>simp only[hM];cases cs[i]?<;>rfl
    | true=>simp only[hM];cases bq P ty<;>rfl
end
end
universe u v in
inductive ba {α:Sort u} {β:Sort v} (a:α) (b:β):Type
 | mk
def a_(P:Program)(l:List bz)(Q:Fr->ab->Prop)(ax:ba l Q)(F:Fr)(H:ab):Prop:=bh P l F H Q
def gW(P:Program)(x:gy)(Q:dH->Fr->ab->Prop)(ax:ba x Q)(F:Fr)(H:ab):Prop:=ez P x F H Q
def qx(P:Program)(rs:List ResultVar)(K:List Value->Prop)(ax:ba rs K)(F:Fr)(H:ab):Prop:=ka P F H rs K
def aV(P:Program)(f:FuncId)(Q:Value->ab->Prop)(ax:ba f Q)(args:List Value)(H:ab):Prop:=aP P f args H Q
def kQ(P:Program)(x:gy)(Q:dH->Fr->ab->Prop)(ax:ba x Q)(F:Fr)(H:ab):Prop:=qt (ez P x) Q F H
def fT{α:Type}(K:α->Prop)(ax:ba K K)(R:Option α):Prop:=eX R K
def dE(K:Prop)(ax:ba K K)(c:Prop):Prop:=gm c K
def bH(dr cT:Prop)(ax:ba dr cT)(b:Bool):Prop:=hM b dr cT
def oA(dr cT:Prop)(ax:ba dr cT)(R:Option Bool)(w:Bool):Prop:=nB R w dr cT
def yR(K:Bool->Prop)(ax:ba K K)(v:Value):Prop:=yQ v K
def qv(K:IntKind->Int->Prop)(ax:ba K K)(v:Value):Prop:=pn v K
def vO(K:Nat->Nat->Prop)(ax:ba K K)(v:Value):Prop:=rZ v K
def BX(K:Option Addr->Nat->Nat->Prop)(ax:ba K K)(v:Value):Prop:=yT v K
def BW(K:Nat->Nat->Prop)(ax:ba K K)(v:Option Addr):Prop:=yP v K
def GI(K:ByteArray->Prop)(ax:ba K K)(v:Value):Prop:=GH v K
def yS(K:Array Value->Prop)(ax:ba K K)(v:Value):Prop:=nJ v K
def GK(K:Array Value->Prop)(ax:ba K K)(v:Value):Prop:=BY v K
def GF(K:TypeId->Bool->List Value->Prop)(ax:ba K K)(v:Option bI):Prop:=GD v K
def GA(K:Nat->Array Value->Array Value->Prop)(ax:ba K K)(v:Value):Prop:=Gz v K
@[simp] theorem ae0(g:Nat)(a b:Array Value)(K:Nat->Array Value->Array Value->Prop)(ax:ba K K):GA K ax (.func (.func g) a b)=K g a b:=rfl
def GC(K:Addr->Prop)(ax:ba K K)(v:Value):Prop:=GB v K
@[simp] theorem gF{α:Type}(v:α)(K:α->Prop)(ax:ba K K):fT K ax (some v)=K v:=rfl
@[simp] theorem aeN(K:Prop)(ax:ba K K):dE K ax True=K:=Pw K
@[simp] theorem Pv(dr cT:Prop)(ax:ba dr cT):bH dr cT ax true=dr:=rfl
@[simp] theorem BP(dr cT:Prop)(ax:ba dr cT):bH dr cT ax false=cT:=rfl
@[simp] theorem aeM(b:Bool)(dr cT:Prop)(ax:ba dr cT):bH dr cT ax (!b)=bH cT dr .mk b:=by cases b<;>rfl
@[simp] theorem aeR(b:Bool)(dr cT:Prop)(ax:ba dr cT):oA dr cT ax (some b) true=bH dr cT .mk b:=PB b dr cT
@[simp] theorem aeP(b:Bool)(dr cT:Prop)(ax:ba dr cT):oA dr cT ax (some b) false=bH cT dr .mk b:=PA b dr cT
@[simp] theorem PF(b:Bool)(K:Bool->Prop)(ax:ba K K):yR K ax (.bool b)=K b:=rfl
@[simp] theorem qw(k:IntKind)(n:Int)(K:IntKind->Int->Prop)(ax:ba K K):qv K ax (.int k n)=K k n:=rfl
@[simp] theorem tv(b i:Nat)(K:Nat->Nat->Prop)(ax:ba K K):vO K ax (.pointer (some ⟨b,i,none⟩))=K b i:=rfl
@[simp] theorem tw(a:Option Addr)(n c:Nat)(K:Option Addr->Nat->Nat->Prop)(ax:ba K K):BX K ax (.slice a n c)=K a n c:=rfl
@[simp] theorem tu(b i:Nat)(K:Nat->Nat->Prop)(ax:ba K K):BW K ax (some ⟨b,i,none⟩)=K b i:=rfl
@[simp] theorem GJ(s:ByteArray)(K:ByteArray->Prop)(ax:ba K K):GI K ax (.string s)=K s:=rfl
@[simp] theorem ae1(s:Array Value)(K:Array Value->Prop)(ax:ba K K):yS K ax (.agg s)=K s:=rfl
@[simp] theorem ae3(s:Array Value)(K:Array Value->Prop)(ax:ba K K):GK K ax (.tuple s)=K s:=rfl
@[simp] theorem GG(e:TypeId)(l:Bool)(cs:List Value)(K:TypeId->Bool->List Value->Prop)(ax:ba K K):GF K ax (some (.own e l cs))=K e l cs:=rfl
@[simp] theorem ae2(a:Addr)(K:Addr->Prop)(ax:ba K K):GC K ax (.pointer (some a))=K a:=rfl
theorem dE.mk{c K:Prop}{ax:ba K K}(h:c)(aj:K):dE K ax c:=⟨h,aj⟩
theorem bH.mk{b:Bool}{dr cT:Prop}{ax:ba dr cT}(o:b=true->dr)(aa:b=false->cT):bH dr cT ax b:=hM.mk o aa
theorem bH.b_{p:Prop}[Decidable p]{dr cT:Prop}{ax:ba dr cT}(o:p->dr)(aa:¬p->cT):bH dr cT ax (decide p):=hM.b_ o aa
theorem aV.mk{P:Program}{f:FuncId}{Q:Value->ab->Prop}{ax:ba f Q}{args:List Value}{H:ab}{af:Value->ab->Prop}(h:aP P f args H af)(av:∀v H1,af v H1->Q v H1):aV P f Q ax args H:=aP.mono h av
theorem kQ.mk{P:Program}{x:gy}{Q:dH->Fr->ab->Prop}{ax:ba x Q}(ai:Nat->Fr->ab->Prop){F:Fr}{H:ab}(n:Nat)(aH:ai n F H)
  (round:∀n F H,ai n F H->∀K:Fr->ab->Prop,(∀m az H1,m<n->ai m az H1->K az H1)->gW P x (ns K Q) .mk F H):kQ P x Q ax F H:=qt.inv ai (fun n F H h=>round n F H h _ fun m az H1 hm eu=>⟨m,hm,eu⟩) n F H aH
theorem aP.b9{P:Program}{f:FuncId}{args:List Value}{H:ab}{af:Value->ab->Prop}(h:∀Q:Value->ab->Prop,(∀v H1,af v H1->Q v H1)->aP P f args H Q):aP P f args H af:=h af fun _ _ h=>h
theorem aP.X6{P:Program}{f:FuncId}{fn:Func}{x:fu}{args:List Value}{H:ab}{Q:Value->ab->Prop}(ay:P.funcs[f]?=some fn)(aG:(fn.name== "runtime.NumGoroutine")=false)(ad:comp P fn=some x)(ar:args.length<=fn.ntmps)
  (h:gW P x.code (qc P x.results Q) .mk (jt args) H):aP P f args H Q:=aP.Wn ay aG ad ar h
section
variable {P:Program} {r:List bz} {F:Fr} {H:ab} {Q:Fr->ab->Prop}
@[simp] theorem OA(ax:ba ([]:List bz) Q):a_ P [] Q ax F H=Q F H:=rfl
@[simp] theorem aaT(d:Nat)(x:Operand)(ax:ba (I d x::r) Q):a_ P (I d x::r) Q ax F H=a_ P r Q .mk (a4 F d (aq F x)) H:=ael d x
@[simp] theorem ai5(d:Nat)(x:Operand)(ax:ba (ak d x::r) Q):a_ P (ak d x::r) Q ax F H=a_ P r Q .mk (a4 F d (aq F x)) H:=aer d x
@[simp] theorem aiZ(d t:Nat)(x:Operand)(ax:ba (mB d t x::r) Q):a_ P (mB d t x::r) Q ax F H=dE (a_ P r Q .mk (a4 F d (.iface t (aq F x))) H) .mk (P.concrete t=true):=aej d t x
@[simp] theorem aiY(d:Nat)(fn:Fn)(a b:Array Operand)(ax:ba (u9 d fn a b::r) Q):a_ P (u9 d fn a b::r) Q ax F H=a_ P r Q .mk (a4 F d (.func fn (a.map (aq F)) (b.map (aq F)))) H:=aei d fn a b
@[simp] theorem aiT(d f:Nat)(args:List Operand)(ax:ba (aS d f args::r) Q):a_ P (aS d f args::r) Q ax F H=aV P f (fun v H1=>a_ P r Q .mk (a4 F d v) H1) .mk (args.map (aq F)) H:=ad6 d f args
@[simp] theorem aiU(f:Nat)(args:List Operand)(ax:ba (y9 f args::r) Q):a_ P (y9 f args::r) Q ax F H=aV P f (fun v H1=>a_ P r Q .mk F H1) .mk (args.map (aq F)) H:=ad7 f args
@[simp] theorem ai3(d f:Nat)(args:List Operand)(ax:ba (bj (aS d f args)::r) Q):a_ P (bj (aS d f args)::r) Q ax F H=aV P f (fun v H1=>Ext H H1/\a_ P r Q .mk (a4 F d v) H1) .mk (args.map (aq F)) H:=aep d f args
theorem qg{d t:Nat}{aW:List (Nat×Operand)}{z:Value}{pl:List (Nat×Nat)}(aM:dA P t=some z)(dS:flat z=true)(aY:lg P t=some pl)(ax:ba (dB d t aW::r) Q):
  a_ P (dB d t aW::r) Q ax F H=fT (fun out=>a_ P r Q .mk (a4 F d (.agg out.toArray)) H) .mk (kg pl z.cells.toList (aW.map fun p=>(p.1,aq F p.2))):=adE aM dS aY
theorem nu{d s t:Nat}{x:Operand}{lT k:IntKind}(ao:j0 P s=some lT)(bM:j0 P t=some k)(J:isInt (aq F x)=true)(ax:ba (ch d s t x::r) Q):a_ P (ch d s t x::r) Q ax F H=a_ P r Q .mk (a4 F d (.int k (k.wrap (intOf (aq F x))))) H:=adH ao bM J
@[simp] theorem aaQ(j:Nat)(w:Bool)(x:bz)(ax:ba (aT j w x::r) Q):(a_ P (aT j w x::r) Q ax F H)=(oA ((a_ P (hL x::r) Q .mk F H)) ((a_ P r Q .mk (fM F x.d undef) H)) .mk (hg (F j)) w):=adL j w x
@[simp] theorem ai4(d:Nat)(c a b:Operand)(ax:ba (cR d c a b::r) Q):(a_ P (cR d c a b::r) Q ax F H)=(yR (fun t=>(a_ P r Q .mk (a4 F d (if t=true then aq F a else aq F b)) H)) .mk (aq F c)):=adT d c a b
@[simp] theorem rI(d e:Nat)(ax:ba (bL d e::r) Q):(a_ P (bL d e::r) Q ax F H)=(fT (fun z=>(dE ((a_ P r Q .mk (a4 F d (.pointer (some ⟨H.length,0,none⟩))) (H++[.own e false z.cells.toList]))) .mk (flat z=true/\(bq P e).isSome=true))) .mk (dA P e)):=adD d e
@[simp] theorem aiS(d e:Nat)(x:Operand)(ax:ba (cl d e x::r) Q):(a_ P (cl d e x::r) Q ax F H)=(dE ((a_ P r Q .mk (a4 F d (.pointer (some ⟨H.length,0,none⟩))) (H++[.own e false (aq F x).cells.toList]))) .mk ((bq P e).isSome=true)):=Pk d e x
@[simp] theorem FR(d t:Nat)(x:Operand)(ax:ba (aI d t x::r) Q):(a_ P (aI d t x::r) Q ax F H)=(vO (fun b i=>(fT (fun cs=>(fT (fun g=>(bH ((fT (fun n=>(dE ((a_ P r Q .mk (a4 F d (.agg ((cs.drop i).take n).toArray)) H)) .mk (i+n<=cs.length))) .mk (bq P t))) ((fT (fun v=>(a_ P r Q .mk (a4 F d v) H)) .mk cs[i]?)) .mk g)) .mk (ds P t))) .mk ((H[b]?).bind bI.cells?))) .mk (aq F x)):=adO d t x
@[simp] theorem OD(t:Nat)(x y:Operand)(ax:ba (st t x y::r) Q):(a_ P (st t x y::r) Q ax F H)=(vO (fun b i=>(GF (fun e l cs=>(dE ((a_ P r Q .mk F (H.set b (.own e l (lX cs i (aq F y).cells.toList))))) .mk (bq P t=some (aq F y).cells.size/\i+(aq F y).cells.size<=cs.length/\((aq F y).cells.toList.all (·.oneCell'))=true))) .mk H[b]?)) .mk (aq F x)):=adU t x y
@[simp] theorem ai2(d:Nat)(x:Operand)(ax:ba (iR d x::r) Q):(a_ P (iR d x::r) Q ax F H)=(GC (fun a=>(a_ P r Q .mk (a4 F d (.pointer (some a))) H)) .mk (aq F x)):=adS d x
@[simp] theorem Oy(d:Nat)(op:BinOp)(t:Nat)(x y:Operand)(ax:ba (bi d op t x y::r) Q):(a_ P (bi d op t x y::r) Q ax F H)=(fT (fun v=>(a_ P r Q .mk (a4 F d v) H)) .mk (dZ P op t (aq F x) (aq F y))):=adF d op t x y
@[simp] theorem ai6(d:Nat)(op:UnOp)(x:Operand)(ax:ba (un d op x::r) Q):(a_ P (un d op x::r) Q ax F H)=(fT (fun v=>(a_ P r Q .mk (a4 F d v) H)) .mk (pb op (aq F x))):=adV d op x
@[simp] theorem aaP(d s:Nat)(x:Operand)(f:Nat)(ax:ba (a9 d s x f::r) Q):(a_ P (a9 d s x f::r) Q ax F H)=(vO (fun b i=>(fT (fun off=>(a_ P r Q .mk (a4 F d (.pointer (some ⟨b,i+off,none⟩))) H)) .mk (fL P s f))) .mk (aq F x)):=adJ d s x f
@[simp] theorem aiX(d s:Nat)(x:Operand)(f:Nat)(ax:ba (nP d s x f::r) Q):(a_ P (nP d s x f::r) Q ax F H)=(yS (fun cs=>(fT (fun c=>(fT (fun v=>(a_ P r Q .mk (a4 F d v) H)) .mk (pv cs c))) .mk (oL P s f))) .mk (aq F x)):=adK d s x f
@[simp] theorem hq(d t:Nat)(x i:Operand)(ax:ba (bu d t x i::r) Q):(a_ P (bu d t x i::r) Q ax F H)=(BX (fun a len _=>(qv (fun _ n=>(fT (fun e=>(fT (fun U=>(BW (fun b R=>(dE ((a_ P r Q .mk (a4 F d (.pointer (some ⟨b,R+n.toNat*U,none⟩))) H)) .mk (0<=n/\n<len))) .mk a)) .mk (bq P e))) .mk (fe P t))) .mk (aq F i))) .mk (aq F x)):=adM d t x i
@[simp] theorem jG(d t:Nat)(x i:Operand)(ax:ba (en d t x i::r) Q):(a_ P (en d t x i::r) Q ax F H)=(GI (fun s=>(qv (fun _ n=>(dE ((a_ P r Q .mk (a4 F d (.int .u8 ((s.data.getD n.toNat 0).toNat:Int))) H)) .mk (iw P t=true/\0<=n/\n<s.size))) .mk (aq F i))) .mk (aq F x)):=adN d t x i
@[simp] theorem aiW(d:Nat)(x:Operand)(i:Nat)(ax:ba (ex d x i::r) Q):(a_ P (ex d x i::r) Q ax F H)=(GK (fun aD=>(fT (fun v=>(a_ P r Q .mk (a4 F d v) H)) .mk aD[i]?)) .mk (aq F x)):=adI d x i
@[simp] theorem aiV(d:Nat)(x:Operand)(args:List Operand)(ax:ba (l7 d x args::r) Q):(a_ P (l7 d x args::r) Q ax F H)=(GA (fun g a b=>(aV P g ((fun v H1=>(a_ P r Q .mk (a4 F d v) H1))) .mk (a.toList++args.map (aq F)++b.toList) H)) .mk (aq F x)):=adG d x args
@[simp] theorem hX(d t:Nat)(x:Operand)(ax:ba (bF d t x::r) Q):(a_ P (bF d t x::r) Q ax F H)=(fT (fun(n:Nat)=>(a_ P r Q .mk (a4 F d (.int .i64 n)) H)) .mk (lenOf P t (aq F x))):=adP d t x
@[simp] theorem ai1(d:Nat)(bV:List Nat)(x y:Operand)(ax:ba (u_ d bV x y::r) Q):(a_ P (u_ d bV x y::r) Q ax F H)=(qv (fun k a=>(qv (fun _ b=>(a_ P r Q .mk (a4 F d (.int k (if b>a then b else a))) H)) .mk (aq F y))) .mk (aq F x)):=adR d bV x y
@[simp] theorem ai0(d:Nat)(bV:List Nat)(x y:Operand)(ax:ba (x6 d bV x y::r) Q):(a_ P (x6 d bV x y::r) Q ax F H)=(qv (fun k a=>(qv (fun _ b=>(a_ P r Q .mk (a4 F d (.int k (if b<a then b else a))) H)) .mk (aq F y))) .mk (aq F x)):=adQ d bV x y
end
section
variable {P:Program} {F:Fr} {H:ab} {Q:dH->Fr->ab->Prop}
@[simp] theorem ajf(ax:ba (.skip:gy) Q):(gW P .skip Q ax F H)=Q .normal F H:=aeC
@[simp] theorem aje(ax:ba (.ret:gy) Q):(gW P .ret Q ax F H)=Q .ret F H:=aeA
@[simp] theorem ajb(id:Nat)(ax:ba ((.exit id):gy) Q):(gW P (.exit id) Q ax F H)=Q (.exit id) F H:=aex id
@[simp] theorem cE(x y:gy)(ax:ba ((.seq x y):gy) Q):(gW P (.seq x y) Q ax F H)=(gW P x (ns ((fun az H1=>(gW P y Q .mk az H1))) Q) .mk F H):=aeB x y
@[simp] theorem aja(c:Operand)(x y:gy)(ax:ba ((.cond c x y):gy) Q):(gW P (.cond c x y) Q ax F H)=(yR (fun b=>(bH ((gW P x Q .mk F H)) ((gW P y Q .mk F H)) .mk b)) .mk (aq F c)):=aew c x y
@[simp] theorem FV(id:Nat)(x:gy)(ax:ba ((.block id x):gy) Q):(gW P (.block id x) Q ax F H)=(gW P x (pt id Q) .mk F H):=aev id x
@[simp] theorem ajc(x:gy)(ax:ba ((.loop x):gy) Q):(gW P (.loop x) Q ax F H)=(kQ P x Q .mk F H):=aey x
@[simp] theorem ajd(l:List bz)(ax:ba ((.ops l):gy) Q):(gW P (.ops l) Q ax F H)=(a_ P l ((fun az H1=>Q .normal az H1)) .mk F H):=aez l
@[simp] theorem ai8{K:List Value->Prop}(ax:ba ([]:List ResultVar) K):(qx P [] K ax F H)=K []:=ad0
@[simp] theorem ai9{K:List Value->Prop}(i:Nat)(rs:List ResultVar)(ax:ba ((.tmp i::rs):List ResultVar) K):(qx P (.tmp i::rs) K ax F H)=(qx P rs (fun aD=>K (F i::aD)) .mk F H):=ad1 i rs
@[simp] theorem ai7{K:List Value->Prop}(a ty:Nat)(rs:List ResultVar)(ax:ba ((.cell a ty::rs):List ResultVar) K):(qx P (.cell a ty::rs) K ax F H)=(vO (fun b i=>(fT (fun cs=>(fT (fun g=>(bH ((fT (fun n=>(dE ((qx P rs (fun aD=>K (.agg ((cs.drop i).take n).toArray::aD)) .mk F H)) .mk (i+n<=cs.length))) .mk (bq P ty))) ((fT (fun v=>(qx P rs (fun aD=>K (v::aD)) .mk F H)) .mk cs[i]?)) .mk g)) .mk (ds P ty))) .mk ((H[b]?).bind bI.cells?))) .mk (F a)):=adZ a ty rs
@[simp] theorem aiO{rs:List ResultVar}{af:Value->ab->Prop}:qc P rs af .normal F H=qx P rs (fun aD=>af (bf aD) H) .mk F H:=rfl
@[simp] theorem aiP{rs:List ResultVar}{af:Value->ab->Prop}:qc P rs af .ret F H=qx P rs (fun aD=>af (bf aD) H) .mk F H:=rfl
attribute [simp] ZY ZZ ZX PZ P0 PY
end
def ep(H:ab)(e U:Nat)(v:Value)(n:Nat)(cs:List Value):Prop:=
 ∃a cap,v= .slice a n cap/\n<=cap/\cs.length=n*U/\(0<cap->∃b i X all,a=some ⟨b,i,none⟩/\H[b]?=some X/\X.cells?=some all/\X.elem?=some e/\i+n*U<=all.length/\cs=(all.drop i).take (n*U))
theorem Ext.aw{H H1 aR:ab}(h:Ext H H1)(cv:Ext H1 aR):Ext H aR:=by
 obtain⟨N,rfl,aG⟩:=h
 obtain⟨M,rfl,hm⟩:=cv
 refine⟨N++M,by simp,fun x J=>?_⟩
 rcases List.mem_append.1 J with J | J
 ·exact aG x J
 ·exact hm x J
theorem Ext.snoc{cx H:ab}(h:Ext cx H)(e:TypeId)(l:Bool)(cs:List Value):Ext cx (H++[.own e l cs]):=h.aw ⟨[.own e l cs],rfl,fun x J cP eA=>by simp at J;subst J;simp⟩
theorem Ext.set{cx H:ab}(h:Ext cx H){b:Nat}(ag:cx.length<=b){X:bI}(aQ:∀e cs,X≠ .ro e cs):Ext cx (H.set b X):=by
 obtain⟨N,rfl,aG⟩:=h
 refine⟨N.set (b-cx.length) X,by rw[List.set_append_right _ _ ag],fun x J e cs=>?_⟩
 rcases List.mem_or_eq_of_mem_set J with J | rfl
 ·exact aG x J e cs
 ·exact aQ e cs
theorem ep.ext{H H1:ab}{e U n:Nat}{v:Value}{cs:List Value}(h:ep H e U v n cs)(J:Ext H H1):ep H1 e U v n cs:=by
 obtain⟨a,cap,an,o,aa,aA⟩:=h
 refine⟨a,cap,an,o,aa,fun ad=>?_⟩
 obtain⟨b,i,X,all,a1,a3,bG⟩:=aA ad
 exact⟨b,i,X,all,a1,J.get_some a3,bG⟩
theorem ep.len{H:ab}{e U n:Nat}{v:Value}{cs:List Value}(h:ep H e U v n cs):∃a cap,v= .slice a n cap:=by
 obtain⟨a,cap,an,-⟩:=h;exact⟨a,cap,an⟩
theorem ep.at{H:ab}{e U n:Nat}{v:Value}{cs:List Value}(h:ep H e U v n cs)(aG:0<n):∃b i cap X all,v= .slice (some ⟨b,i,none⟩) n cap/\H[b]?=some X/\X.cells?=some all/\i+n*U<=all.length/\∀k,k<n*U->all[i+k]?=cs[k]?:=by
 obtain⟨a,cap,rfl,o,aa,aA⟩:=h
 obtain⟨b,i,X,all,rfl,a3,bG,cn,e5,g2⟩:=aA (by omega)
 refine⟨b,i,cap,X,all,rfl,a3,bG,e5,fun k aj=>?_⟩
 rw[g2,List.getElem?_take_of_lt aj,List.getElem?_drop]
theorem ep.src{H:ab}{e U n:Nat}{v:Value}{cs:List Value}(h:ep H e U v n cs){m:Nat}(hm:m<=n):Src H U v n m (cs.take (m*U)):=by
 obtain⟨a,cap,rfl,o,aa,aA⟩:=h
 by_cases aH:m=0
 ·subst aH;simpa using Src.vF
 ·obtain⟨b,i,X,all,rfl,a3,bG,cn,e5,rfl⟩:=aA (by omega)
  have Ac:m*U<=n*U:=Nat.mul_le_mul_right _ hm
  rw[List.take_take,Nat.min_eq_left Ac]
  exact .row a3 bG (by omega) hm (by omega)
theorem ep.nil(H:ab)(e U:Nat):ep H e U (.slice none 0 0) 0 []:=⟨none,0,rfl,Nat.le_refl _,by simp,fun h=>absurd h (by omega)⟩
theorem ep.void(H:ab)(e U:Nat)(a:Option Addr):ep H e U (.slice a 0 0) 0 []:=⟨a,0,rfl,Nat.le_refl _,by simp,fun h=>absurd h (by omega)⟩
section
variable {P:Program} {r:List bz} {F:Fr} {H:ab} {Q:Fr->ab->Prop}
theorem jH{b:Bool}{d:Option Nat}{op:Op}{ax:ba ((⟨b,none,d,op⟩:bz)::r) Q}(an:isVal op=false)(hm:jo op=true)(aG:b3 P (aq F) H op=none){v:Value}{H1:ab}(av:∀R:Oper,R.op=op->e9 P (aq F) H R v H1)(ay:∀R:Oper,R.op=op->bR P R=false)
  (ag:b=true\/Ext H H1)(h:a_ P r Q .mk (fM F d v) H1):a_ P (⟨b,none,d,op⟩::r) Q ax F H:=aem an hm aG (fun R aK=>⟨ay R aK,av R aK⟩) ag h
theorem OC{eh:Bool}{d t e U n l h:Nat}{x:Operand}{bb ae:Option Operand}{cs:List Value}{ax:ba ((⟨eh,none,some d,.slice t x bb ae none⟩:bz)::r) Q}(bE:ep H e U (aq F x) n cs)(hu:P.underlying t=some (.slice e))(ao:bq P e=some U)(ar:dO (aq F) bb=some l)(cV:e2 (aq F) n ae=some h)(o:l<=h)(aa:h<=n)
  (K:∀au,ep H e U au (h-l) ((cs.drop (l*U)).take ((h-l)*U))->a_ P r Q .mk (a4 F d au) H):a_ P ((⟨eh,none,some d,.slice t x bb ae none⟩:bz)::r) Q ax F H:=by
 obtain⟨a,cap,an,aA,bo,bK⟩:=bE
 have xv:b3 P (aq F) H (.slice t x bb ae none)=none:=by simp only[b3,an]
 have a5:∀R:Oper,R.op= .slice t x bb ae none->bR P R=false:=fun R aK=>by simp[bR,aK]
 have hlen:((cs.drop (l*U)).take ((h-l)*U)).length=(h-l)*U:=by
  have:h*U<=n*U:=Nat.mul_le_mul_right _ aa
  have:l*U<=h*U:=Nat.mul_le_mul_right _ o
  have:(h-l)*U=h*U-l*U:=Nat.sub_mul _ _ _
  simp[bo];omega
 by_cases ad:cap=0
 ·have jC:n=0:=by omega
  have T7:h=0:=by omega
  have pO:l=0:=by omega
  subst ad jC T7 pO
  refine jH (v:= .slice a 0 0) (H1:=H) rfl rfl xv (fun R aK=> .yo aK hu ao an ar cV) a5 (.inr (Ext.refl H)) (K _ ?_)
  have:(cs.drop (0*U)).take ((0-0)*U)=[]:=by simp
  rw[this]
  exact ep.void H e U a
 ·obtain⟨b,i,X,all,rfl,a3,bG,cn,e5,g2⟩:=bK (by omega)
  by_cases mn:l<cap
  ·refine jH (v:= .slice (some ⟨b,i+l*U,none⟩) (h-l) (cap-l)) (H1:=H) rfl rfl xv (fun R aK=> .slice aK hu ao an a3 cn ar cV o (by omega) mn) a5 (.inr (Ext.refl H)) (K _ ?_)
   refine⟨_,_,rfl,by omega,hlen,fun _=>⟨b,i+l*U,X,all,rfl,a3,bG,cn,?_,?_⟩⟩
   ·have:h*U<=n*U:=Nat.mul_le_mul_right _ aa
    have:l*U<=h*U:=Nat.mul_le_mul_right _ o
    have:(h-l)*U=h*U-l*U:=Nat.sub_mul _ _ _
    omega
   ·rw[g2,List.drop_take,List.drop_drop,List.take_take]
    congr 1
    have:h*U<=n*U:=Nat.mul_le_mul_right _ aa
    have:(h-l)*U=h*U-l*U:=Nat.sub_mul _ _ _
    omega
  ·have bk:l=cap:=by omega
   have bg:h=cap:=by omega
   have fW:n=cap:=by omega
   subst bk bg
   refine jH (v:= .slice (some ⟨b,i,none⟩) 0 0) (H1:=H) rfl rfl xv (fun R aK=> .yn aK hu ao an (by omega) ar cV) a5 (.inr (Ext.refl H)) (K _ ?_)
   rw[Nat.sub_self,Nat.zero_mul,List.take_zero]
   exact ep.void H e U _
theorem aaX{d t e U n l h:Nat}{x:Operand}{bb ae:Option Operand}{cs:List Value}{ax:ba (fF d t x bb ae none::r) Q}(bE:ep H e U (aq F x) n cs)(hu:P.underlying t=some (.slice e))(ao:bq P e=some U)(ar:dO (aq F) bb=some l)(cV:e2 (aq F) n ae=some h)(o:l<=h)(aa:h<=n)
  (K:∀au,ep H e U au (h-l) ((cs.drop (l*U)).take ((h-l)*U))->a_ P r Q .mk (a4 F d au) H):a_ P (fF d t x bb ae none::r) Q ax F H:=OC (eh:=true) bE hu ao ar cV o aa K
theorem yu{d t e U bA l c:Nat}{x y:Operand}{eW c4:IntKind}{z:Value}{ax:ba (ms d t x y::r) Q}(hu:P.underlying t=some (.slice e))(ao:bq P e=some U)(ag:bytes? P e=some bA)(aM:dA P e=some z)(dS:flat z=true)(dg:z.cells.size=U)
  (J:aq F x= .int eW (l:Int))(aL:aq F y= .int c4 (c:Int))(df:0<U)(dY:0<bA)(mn:l<=c)(ad:0<c)(bw:bA*c<=281474976710656)
  (K:a_ P r Q .mk (a4 F d (.slice (some ⟨H.length,0,none⟩) l c)) (H++[.own e false (made z (c*U))])):a_ P (ms d t x y::r) Q ax F H:=
 jH (v:= .slice (some ⟨H.length,0,none⟩) l c) rfl rfl rfl (fun R aK=> .make aK hu ao ag aM dS dg J aL df dY mn ad bw) (fun R aK=>by simp[bR,aK]) (.inl rfl) K
theorem Bw{d t e U bA:Nat}{x y:Operand}{eW c4:IntKind}{ax:ba (ms d t x y::r) Q}(hu:P.underlying t=some (.slice e))(ao:bq P e=some U)(ag:bytes? P e=some bA)(J:aq F x= .int eW 0)(aL:aq F y= .int c4 0)
  (K:a_ P r Q .mk (a4 F d (.slice (some ⟨0,0,none⟩) 0 0)) H):a_ P (ms d t x y::r) Q ax F H:=
 jH (v:= .slice (some ⟨0,0,none⟩) 0 0) rfl rfl rfl (fun R aK=> .x3 aK hu ao ag J aL) (fun R aK=>by simp[bR,aK]) (.inl rfl) K
theorem tc{d t e U len:Nat}{aW:List (Nat×Operand)}{z:Value}{out:List Value}{ax:ba (ei d t len aW::r) Q}(hu:P.underlying t=some (.slice e))(ao:bq P e=some U)(aM:dA P e=some z)(dS:flat z=true)(dg:z.cells.size=U)
  (df:0<U)(ar:0<len)(bw:len*U<=16777216)(aK:iY (fun i=>some (i*U,U)) (made z (len*U)) (aW.map fun p=>(p.1,aq F p.2))=some out)(dI:out.length=len*U)
  (K:a_ P r Q .mk (a4 F d (.slice (some ⟨H.length,0,none⟩) len len)) (H++[.own e false out])):a_ P (ei d t len aW::r) Q ax F H:=by
 have ay:Instr.fill (fun i=>some (i*U,U)) (made z (len*U)).toArray (aW.toArray.toList.map fun p=>(p.1,aq F p.2))=some out.toArray:=by
  rw[fill_eq]
  have:(aW.toArray.toList.map fun p=>(p.1,aq F p.2))=aW.map fun p=>(p.1,aq F p.2):=by simp
  rw[this]
  simp only
  rw[aK]
  rfl
 have av:∀R:Oper,R.op= .buildSlice t len aW.toArray->e9 P (aq F) H R (.slice (some ⟨H.length,0,none⟩) len len) (H++[.own e false out]):=fun R fp=> .build (out:=out.toArray) fp hu ao aM dS dg df ar bw ay (by simpa using dI)
 exact jH rfl rfl rfl av (fun R aK=>by simp[bR,aK]) (.inl rfl) K
theorem pc{d t e U:Nat}{ax:ba (ei d t 0 []::r) Q}(hu:P.underlying t=some (.slice e))(ao:bq P e=some U)(K:a_ P r Q .mk (a4 F d (.slice (some ⟨0,0,none⟩) 0 0)) H):a_ P (ei d t 0 []::r) Q ax F H:=
 jH (v:= .slice (some ⟨0,0,none⟩) 0 0) rfl rfl rfl (fun R aK=> .v5 aK hu ao) (fun R aK=>by simp[bR,aK]) (.inl rfl) K
def hY(H:ab)(k e U:Nat)(v:Value)(n:Nat)(cs:List Value):Prop:=cs.length=n*U/\
 ((n=0/\(v= .slice none 0 0\/∃i,v= .slice (some ⟨0,i,none⟩) 0 0))\/∃b i cap l all,v= .slice (some ⟨b,i,none⟩) n cap/\0<cap/\n<=cap/\k<=b/\H[b]?=some (.own e l all)/\i+cap*U<=all.length/\cs=(all.drop i).take (n*U))
theorem hY.fF{H:ab}{k e U n:Nat}{v:Value}{cs:List Value}(h:hY H k e U v n cs):ep H e U v n cs:=by
 obtain⟨o,⟨rfl,aa⟩ | ⟨b,i,cap,l,all,rfl,a1,a3,bG,cn,e5,g2⟩⟩:=h
 ·have:cs=[]:=List.eq_nil_of_length_eq_zero (by simpa using o)
  subst this
  rcases aa with rfl | ⟨i,rfl⟩
  ·exact ep.nil H e U
  ·exact ep.void H e U _
 ·have:n*U<=cap*U:=Nat.mul_le_mul_right _ a3
  exact⟨_,_,rfl,a3,o,fun _=>⟨b,i,_,all,rfl,cn,rfl,rfl,by omega,g2⟩⟩
theorem hY.ext{H H1:ab}{k e U n:Nat}{v:Value}{cs:List Value}(h:hY H k e U v n cs)(J:Ext H H1):hY H1 k e U v n cs:=by
 obtain⟨o,aa | ⟨b,i,cap,l,all,q⟩⟩:=h
 ·exact⟨o,.inl aa⟩
 ·exact⟨o,.inr ⟨b,i,cap,l,all,q.1,q.2.1,q.2.2.1,q.2.2.2.1,J.get_some q.2.2.2.2.1,q.2.2.2.2.2⟩⟩
theorem hY.nil(H:ab)(k e U:Nat):hY H k e U (.slice none 0 0) 0 []:=⟨by simp,.inl ⟨rfl,.inl rfl⟩⟩
theorem hY.void(H:ab)(k e U i:Nat):hY H k e U (.slice (some ⟨0,i,none⟩) 0 0) 0 []:=⟨by simp,.inl ⟨rfl,.inr ⟨i,rfl⟩⟩⟩
def inBlock(v:Value)(b:Nat):Prop:=∃i n c,v= .slice (some ⟨b,i,none⟩) n c
theorem FP{d bV cI e U bA k n m:Nat}{s x:Operand}{z:Value}{cs news:List Value}{ax:ba (ap d bV cI s x::r) Q}(cy:hY H k e U (aq F s) n cs)(c7:Src H U (aq F x) m m news)(hu:P.underlying bV=some (.slice e))(J:fB P cI=true)(ao:bq P e=some U)(ag:bytes? P e=some bA)(aM:dA P e=some z)(dg:z.cells.size=U)
  (dY:0<bA)(bw:(n+m)*bA<=140737488355328)(g6:(news.all (·.oneCell'))=true)(n9:news.length=m*U)(aj:k<=H.length)
  (K:∀au aF,hY aF k e U au (n+m) (cs++news)->(∀cx:ab,cx.length<=k->Ext cx H->Ext cx aF)->(∀b X,H[b]?=some X->(inBlock (aq F s) b->X.elem?≠some e)->aF[b]?=some X)->(∀b,inBlock au b->inBlock (aq F s) b\/b=H.length)->H.length<=aF.length->a_ P r Q .mk (a4 F d au) aF):a_ P (ap d bV cI s x::r) Q ax F H:=by
 obtain⟨ar,cy⟩:=cy
 have a5:∀R:Oper,R.op= .call {callee:= .builtin .append,args:= #[s,x],argTypes:= #[bV,cI]}->bR P R=false:=fun R aK=>by simp[bR,aK]
 have aG:b3 P (aq F) H (.call {callee:= .builtin .append,args:= #[s,x],argTypes:= #[bV,cI]})=none:=rfl
 by_cases hm:m=0
 ·subst hm
  have xg:news=[]:=List.eq_nil_of_length_eq_zero (by simpa using n9)
  subst xg
  obtain⟨a,iS,cap,an,sF⟩:∃a iS cap,aq F s= .slice a iS cap/\iS=n:=by
   rcases cy with⟨rfl,h | ⟨i,h⟩⟩ | ⟨b,i,cap,l,all,h,-⟩
   ·exact⟨_,_,_,h,rfl⟩
   ·exact⟨_,_,_,h,rfl⟩
   ·exact⟨_,_,_,h,rfl⟩
  refine jH (v:= .slice a iS cap) (H1:=H) rfl rfl aG (fun R aK=> .vU aK hu J ao c7 an) a5 (.inl rfl) ?_
  exact K _ H (by rw[List.append_nil,Nat.add_zero,<-an];exact⟨ar,cy⟩) (fun cx _ h=>h) (fun b X h _=>h) (fun b h=> .inl (by rw[an];exact h)) (Nat.le_refl _)
 ·have sE:0<m:=by omega
  have new:∀eA:List Value,eA.length=(n+m)*U->eA=cs++news->hY (H++[.own e true eA]) k e U (.slice (some ⟨H.length,0,none⟩) (n+m) (n+m)) (n+m) (cs++news):=fun eA o aa=>
   ⟨by rw[<-aa,o],.inr ⟨H.length,0,n+m,true,eA,rfl,by omega,Nat.le_refl _,aj,by simp,by omega,by rw[List.drop_zero,<-aa,<-o,List.take_length]⟩⟩
  rcases cy with⟨rfl,h⟩ | ⟨b,i,cap,l,all,an,a1,a3,bG,cn,e5,g2⟩
  ·have gb:cs=[]:=List.eq_nil_of_length_eq_zero (by simpa using ar)
   subst gb
   obtain⟨a,aO,an⟩:∃a:Option Addr,(a=none\/∃i,a=some ⟨0,i,none⟩)/\aq F s= .slice a 0 0:=by
    rcases h with h | ⟨i,h⟩
    ·exact⟨none,.inl rfl,h⟩
    ·exact⟨_,.inr ⟨i,rfl⟩,h⟩
   refine jH (v:= .slice (some ⟨H.length,0,none⟩) m m) (H1:=H++[.own e true news]) rfl rfl aG (fun R aK=> .vY aK hu J ao ag aM dg c7 sE dY (by simpa using bw) aO an) a5 (.inl rfl) ?_
   have:=new news (by simpa using n9) rfl
   simp only[Nat.zero_add]at this
   refine K _ _ (by simpa using this) (fun cx _ h=>h.snoc _ _ _) (fun b X h _=>?_) (fun b ag=>?_) (by simp)
   ·rw[List.getElem?_append_left (cK.1 h).1];exact h
   ·obtain⟨i,n,c,he⟩:=ag
    simp at he
    exact .inr he.1.1.symm
  ·by_cases gM:n+m<=cap
   ·have qT:(n+m)*U<=cap*U:=Nat.mul_le_mul_right _ gM
    have sq:(n+m)*U=n*U+m*U:=Nat.add_mul _ _ _
    have n4:i+n*U+news.length<=all.length:=by omega
    refine jH (v:= .slice (some ⟨b,i,none⟩) (n+m) cap) (H1:=H.set b (.own e l (db all (i+n*U) news))) rfl rfl aG (fun R aK=> .vW aK hu J ao c7 gM a1 cn n4 g6 an) a5 (.inl rfl) ?_
    have gJ:b<H.length:=(cK.1 cn).1
    refine K _ _ ⟨by rw[List.length_append,ar,n9,sq],.inr ⟨b,i,cap,l,db all (i+n*U) news,rfl,a1,gM,bG,by simp[gJ],by rw[nt n4];exact e5,?_⟩⟩ (fun cx aH h=>h.set (by omega) (by simp)) (fun cu X h c3=>?_) (fun cu c3=>?_) (by simp)
    ·rw[g2]
     have bk:db all (i+n*U) news=all.take (i+n*U)++news++all.drop (i+n*U+news.length):=rfl
     rw[bk,List.append_assoc,List.drop_append_of_le_length (by simp;omega),List.take_append,List.drop_take]
     have aA:i+n*U-i=n*U:=by omega
     have bo:((all.drop i).take (n*U)).length=n*U:=by simp;omega
     rw[aA,bo,sq,List.take_take,Nat.min_eq_right (by omega),Nat.add_sub_cancel_left,<-n9,List.take_append_of_le_length (Nat.le_refl _),List.take_length]
    ·have:b≠cu:=fun cP=>by
      subst cP
      rw[cn]at h
      exact c3 ⟨i,n,cap,an⟩ (by rw[<-Option.some.inj h];rfl)
     rw[List.getElem?_set_ne this];exact h
    ·obtain⟨jE,dU,dR,he⟩:=c3
     simp at he
     exact .inl (by rw[<-he.1.1];exact⟨i,n,cap,an⟩)
   ·have g7:i+n*U<=all.length:=by
     have:n*U<=cap*U:=Nat.mul_le_mul_right _ a3
     omega
    have gJ:b<H.length:=(cK.1 cn).1
    have sq:(n+m)*U=n*U+m*U:=Nat.add_mul _ _ _
    have fP:((all.drop i).take (n*U)++news).length=(n+m)*U:=by rw[List.length_append,<-g2,ar,n9,sq]
    have fresh:∀au:Value,au= .slice (some ⟨H.length,0,none⟩) (n+m) (n+m)->∀cu,inBlock au cu->inBlock (aq F s) cu\/cu=H.length:=fun au e cu c3=>by
     obtain⟨jE,dU,dR,he⟩:=c3
     rw[e]at he
     simp at he
     exact .inr he.1.1.symm
    cases l with
    | false=>
     refine jH (v:= .slice (some ⟨H.length,0,none⟩) (n+m) (n+m)) (H1:=H++[.own e true ((all.drop i).take (n*U)++news)]) rfl rfl aG (fun R aK=> .vV aK hu J ao ag aM dg c7 sE dY bw cn g7 (by omega) a1 an) a5 (.inl rfl) ?_
     refine K _ _ (new _ fP (by rw[g2])) (fun cx _ h=>h.snoc _ _ _) (fun b X h _=>?_) (fresh _ rfl) (by simp)
     rw[List.getElem?_append_left (cK.1 h).1];exact h
    | true=>
     refine jH (v:= .slice (some ⟨H.length,0,none⟩) (n+m) (n+m)) (H1:=H.set b .dead++[.own e true ((all.drop i).take (n*U)++news)]) rfl rfl aG (fun R aK=> .vX aK hu J ao ag aM dg c7 sE dY bw cn g7 (by omega) a1 g6 an) a5 (.inl rfl) ?_
     have q2:hY (H.set b .dead++[.own e true ((all.drop i).take (n*U)++news)]) k e U (.slice (some ⟨H.length,0,none⟩) (n+m) (n+m)) (n+m) (cs++news):=
      ⟨by rw[List.length_append,ar,n9,sq],.inr ⟨H.length,0,n+m,true,(all.drop i).take (n*U)++news,rfl,by omega,Nat.le_refl _,aj,by rw[List.getElem?_append_right (by simp)];simp,by rw[fP];omega,by rw[List.drop_zero,<-fP,List.take_length,g2]⟩⟩
     refine K _ _ q2 (fun cx aH h=>(h.set (by omega) (by simp)).snoc _ _ _) (fun cu X h c3=>?_) (fresh _ rfl) (by simp)
     have cN:b≠cu:=fun cP=>by
      subst cP
      rw[cn]at h
      exact c3 ⟨i,n,cap,an⟩ (by rw[<-Option.some.inj h];rfl)
     rw[List.getElem?_append_left (by simp;exact(cK.1 h).1),List.getElem?_set_ne cN];exact h
theorem vt{eh:Bool}{d t l h:Nat}{x:Operand}{bb ae:Option Operand}{s:ByteArray}{ax:ba ((⟨eh,none,some d,.slice t x bb ae none⟩:bz)::r) Q}(J:aq F x= .string s)(bM:iw P t=true)(ar:dO (aq F) bb=some l)(cV:e2 (aq F) s.size ae=some h)(o:l<=h)(aa:h<=s.size)
  (K:a_ P r Q .mk (a4 F d (.string (s.extract l h))) H):a_ P ((⟨eh,none,some d,.slice t x bb ae none⟩:bz)::r) Q ax F H:=by
 have ao:b3 P (aq F) H (.slice t x bb ae none)=some (.string (s.extract l h),H):=by
  simp only[b3,J,ar,cV]
  rw[if_pos ⟨bM,o,aa⟩]
 show bh P _ F H Q
 simp only[bh,ga,ao]
 exact⟨fun h=>by simp[hH]at h,K⟩
theorem FU{d t l h:Nat}{x:Operand}{bb ae:Option Operand}{s:ByteArray}{ax:ba (fF d t x bb ae none::r) Q}(J:aq F x= .string s)(bM:iw P t=true)(ar:dO (aq F) bb=some l)(cV:e2 (aq F) s.size ae=some h)(o:l<=h)(aa:h<=s.size)
  (K:a_ P r Q .mk (a4 F d (.string (s.extract l h))) H):a_ P (fF d t x bb ae none::r) Q ax F H:=vt (eh:=true) J bM ar cV o aa K
theorem aaM{d s t e:Nat}{x:Operand}{xs:List Int}{ax:ba (ch d s t x::r) Q}(ao:P.underlying s=some (.slice e))(he:P.underlying e=some (.int .u8))(aB:P.underlying t=some .string)(bE:ep H e 1 (aq F x) xs.length (xs.map (Value.int .u8)))
  (K:a_ P r Q .mk (a4 F d (.string (strOfNums xs))) H):a_ P (ch d s t x::r) Q ax F H:=by
 obtain⟨a,cap,an⟩:=bE.len
 have c7:=bE.src (Nat.le_refl _)
 rw[Nat.mul_one,List.take_of_length_le (by simp)]at c7
 have aG:b3 P (aq F) H (.convert s t x)=none:=by simp only[b3,an]
 exact jH (v:= .string (strOfNums xs)) (H1:=H) rfl rfl aG (fun R aK=> .str aK ao he aB ⟨_,_,_,an⟩ c7) (fun R aK=>by simp[bR,aK,rk,ao]) (.inr (Ext.refl H)) K
end
section
variable {P:Program}
theorem ga.mono{b:Bool}{F:Fr}{H:ab}{K ef:Value->ab->Prop}(aj:∀v H1,K v H1->ef v H1){op:Op}(h:ga P b F H K op):ga P b F H ef op:=by
 have main:(match b3 P (aq F) H op with
   | some (v,H1)=>(hH op=true->b=true)/\K v H1
   | none=>jo op=true/\∃v H1,nI P (aq F) H op v H1/\(b=true\/Ext H H1)/\K v H1)->(match b3 P (aq F) H op with
   | some (v,H1)=>(hH op=true->b=true)/\ef v H1
   | none=>jo op=true/\∃v H1,nI P (aq F) H op v H1/\(b=true\/Ext H H1)/\ef v H1):=by
  cases b3 P (aq F) H op with
  | some p=>exact fun h=>⟨h.1,aj _ _ h.2⟩
  | none=>exact fun⟨o,v,H1,aa,aA,bo⟩=>⟨o,v,H1,aa,aA,aj _ _ bo⟩
 cases op<;>try exact main h
 rename_i c
 obtain⟨callee,args,kU⟩:=c
 cases callee with
 | value f=>
  simp only[ga]at h⊢
  split at h
  ·exact h.mono fun v H1 cV=>⟨cV.1,aj _ _ cV.2⟩
  ·exact h.elim
 | invoke r m=>exact main h
 | builtin b=>exact main h
theorem bh.mono:∀{l:List bz} {F:Fr} {H:ab} {Q cd:Fr->ab->Prop},(∀F H,Q F H->cd F H)->bh P l F H Q->bh P l F H cd
 | [],F,H,Q,cd,av,h=>av _ _ h
 | x::rest,F,H,Q,cd,av,h=>by
  simp only[bh]at h⊢
  split
  ·rename_i aU
   rw[aU]at h
   exact ga.mono (fun v H1=>bh.mono av) h
  ·rename_i j w aU
   rw[aU]at h
   simp only at h
   split
   ·rename_i ag
    rw[if_pos ag]at h
    exact ga.mono (fun v H1=>bh.mono av) h
   ·rename_i ag
    rw[if_neg ag]at h
    exact bh.mono av h
theorem fv.mono:∀{l:List bz} {F:Fr} {H:ab} {af W:List Nat} {Q cd:Fr->ab->Prop},(∀F H,Q F H->cd F H)->fv P l F H af W Q->fv P l F H af W cd
 | [],F,H,af,W,Q,cd,av,h=>av _ _ h
 | x::rest,F,H,af,W,Q,cd,av,h=>by
  simp only[fv]at h⊢
  split
  ·rename_i aU
   rw[aU]at h
   exact gG.mono (fun v H1 fi fD=>fv.mono av) h
  ·rename_i j w aU
   rw[aU]at h
   simp only at h
   split
   ·rename_i ag
    rw[if_pos ag]at h
    exact gG.mono (fun v H1 fi fD=>fv.mono av) h
   ·rename_i ag
    rw[if_neg ag]at h
    exact fv.mono av h
theorem ez.mono:∀{x:gy} {F:Fr} {H:ab} {Q cd:dH->Fr->ab->Prop},(∀e F H,Q e F H->cd e F H)->ez P x F H Q->ez P x F H cd
 | .skip,F,H,Q,cd,av,h=>av _ _ _ h
 | .ret,F,H,Q,cd,av,h=>av _ _ _ h
 | .exit id,F,H,Q,cd,av,h=>av _ _ _ h
 | .seq x y,F,H,Q,cd,av,h=>ez.mono (x:=x) (fun e az H1 o=>by
   cases e with
   | normal=>exact ez.mono (x:=y) av o
   | exit id=>exact av _ _ _ o
   | ret=>exact av _ _ _ o) h
 | .cond c x y,F,H,Q,cd,av,h=>by
  simp only[ez]at h⊢
  split
  ·rename_i b ag
   rw[ag]at h
   simp only at h
   cases b with
   | true=>exact ez.mono (x:=x) av h
   | false=>exact ez.mono (x:=y) av h
  ·rename_i ag
   split at h
   ·rename_i b c3;exact(ag b c3).elim
   ·exact h
 | .block id x,F,H,Q,cd,av,h=>ez.mono (x:=x) (fun e az H1 o=>by
   cases e with
   | normal=>exact av _ _ _ o
   | ret=>exact av _ _ _ o
   | exit hG=>
    simp only[pt]at o⊢
    split
    ·rename_i ae;rw[if_pos ae]at o;exact av _ _ _ o
    ·rename_i ae;rw[if_neg ae]at o;exact av _ _ _ o) h
 | .loop x,F,H,Q,cd,av,h=>by
  simp only[ez]at h⊢
  induction h with
  | round ai ag eu a2=>
   exact .round ai (ez.mono (x:=x) (fun e az H1 o=>by
    cases e with
    | normal=>exact o
    | exit id=>exact av _ _ _ o
    | ret=>exact av _ _ _ o) ag) a2
 | .ops l,F,H,Q,cd,av,h=>bh.mono (fun az H1 o=>av _ _ _ o) h
 | .opsL l,F,H,Q,cd,av,h=>fv.mono (fun az H1 o=>av _ _ _ o) h
def Gy(af:Fr->ab->Prop):dH->Fr->ab->Prop
 | .normal,F,H=>af F H
 | _,_,_=>False
@[simp] theorem aeZ(af:Fr->ab->Prop)(F:Fr)(H:ab):Gy af .normal F H=af F H:=rfl
theorem gW.cut{x:gy}{Q:dH->Fr->ab->Prop}{K:Fr->ab->Prop}{F:Fr}{H:ab}{ax:ba x (ns K Q)}(af:Fr->ab->Prop)(o:∀ef:Fr->ab->Prop,(∀az H1,af az H1->ef az H1)->gW P x (Gy ef) .mk F H)(aa:∀az H1,af az H1->K az H1):gW P x (ns K Q) ax F H:=
 ez.mono (x:=x) (fun e az H1 h=>by cases e with
  | normal=>exact aa _ _ h
  | exit id=>exact h.elim
  | ret=>exact h.elim) (o af fun _ _ h=>h)
end
def cZ(H:ab)(e:Nat)(v:Value)(l:List Nat):Prop:=ep H e 1 v l.length (l.map fun(n:Nat)=>Value.int .u32 (n:Int))/\∀x∈l,x<4294967296
theorem cZ.ext{H H1:ab}{e:Nat}{v:Value}{l:List Nat}(h:cZ H e v l)(J:Ext H H1):cZ H1 e v l:=⟨h.1.ext J,h.2⟩
theorem cZ.at{H:ab}{e:Nat}{v:Value}{l:List Nat}(h:cZ H e v l)(aG:0<l.length):∃b i cap X all,v= .slice (some ⟨b,i,none⟩) l.length cap/\H[b]?=some X/\X.cells?=some all/\i+l.length<=all.length/\∀k,k<l.length->all[i+k]?=some (.int .u32 (l[k]?.getD 0:Nat)):=by
 obtain⟨b,i,cap,X,all,o,aa,aA,bo,bK⟩:=h.1.at aG
 refine⟨b,i,cap,X,all,o,aa,aA,by omega,fun k aj=>?_⟩
 rw[bK k (by omega),List.getElem?_map,bJ aj]
 simp[bJ aj]
theorem cZ.len{H:ab}{e:Nat}{v:Value}{l:List Nat}(h:cZ H e v l):∃a cap,v= .slice a l.length cap:=h.1.len
theorem cZ.lt{H:ab}{e:Nat}{v:Value}{l:List Nat}(h:cZ H e v l)(k:Nat):l[k]?.getD 0<4294967296:=by
 by_cases aj:k<l.length
 ·rw[bJ aj];exact h.2 _ (List.getElem_mem aj)
 ·rw[List.getElem?_eq_none (by omega)];decide
theorem Om(l:List Nat)(h:0<l.length):l.take (l.length-1)++[l[l.length-1]?.getD 0]=l:=by
 rw[bJ (by omega),Option.getD_some,<-List.dropLast_eq_take,<-List.getLast_eq_getElem (by intro e;simp[e]at h),List.dropLast_concat_getLast]
def val:List Nat->Nat
 | []=>0
 | x::l=>x+4294967296*val l
theorem nx(a b:List Nat):val (a++b)=val a+4294967296^a.length*val b:=by
 induction a with
 | nil=>simp[val]
 | cons x a a2=>simp only[List.cons_append,val,a2,List.length_cons,Nat.pow_succ];grind
theorem F4(k:Nat):val (List.replicate k 0)=0:=by
 induction k with
 | zero=>rfl
 | succ k a2=>simp[List.replicate_succ,val,a2]
theorem j7{l:List Nat}(h:∀x∈l,x<4294967296):val l<4294967296^l.length:=by
 induction l with
 | nil=>simp[val]
 | cons x l a2=>
  have o:=h x (by simp)
  have aa:=a2 fun y aL=>h y (by simp[aL])
  simp only[val,List.length_cons,Nat.pow_succ]
  omega
def Trim(l:List Nat):Prop:=l.getLast?≠some 0
theorem Trim.nil:Trim []:=by simp[Trim]
theorem Trim.le{l:List Nat}(h:Trim l)(aG:l≠[]):4294967296^(l.length-1)<=val l:=by
 have e:l=l.take (l.length-1)++[l[l.length-1]?.getD 0]:=(Om l (List.length_pos_iff.2 aG)).symm
 have aH:l[l.length-1]?.getD 0≠0:=fun aH=>h (by
  rw[List.getLast?_eq_getElem?]
  rw[bJ (by have:=List.length_pos_iff.2 aG;omega)]at aH⊢
  simpa using aH)
 have ar:(l.take (l.length-1)).length=l.length-1:=by simp
 have:val l=val (l.take (l.length-1))+4294967296^(l.length-1)*(l[l.length-1]?.getD 0):=by
  conv=>lhs;rw[e,nx,ar]
  simp[val]
 rw[this]
 have:4294967296^(l.length-1)*1<=4294967296^(l.length-1)*(l[l.length-1]?.getD 0):=Nat.mul_le_mul_left _ (by omega)
 omega
theorem Trim.zero{l:List Nat}(h:Trim l):val l=0↔l=[]:=by
 constructor
 ·intro aH
  by_cases aG:l=[]
  ·exact aG
  ·have:=h.le aG
   have:=Nat.pow_pos (n:=l.length-1) (show 0<4294967296 by decide)
   omega
 ·rintro rfl;rfl
theorem Trim.u6{a b:List Nat}(ag:Trim b)(aO:∀x∈a,x<4294967296)(h:a.length<b.length):val a<val b:=by
 have o:=j7 aO
 have aa:=ag.le (by intro e;simp[e]at h)
 have:4294967296^a.length<=4294967296^(b.length-1):=Nat.pow_le_pow_right (by decide) (by omega)
 omega
theorem Trim.length_le{l:List Nat}(h:Trim l){n:Nat}(an:val l<4294967296^n):l.length<=n:=by
 by_cases aG:l=[]
 ·simp[aG]
 ·have o:=h.le aG
  have:4294967296^(l.length-1)<4294967296^n:=by omega
  have:=(Nat.pow_lt_pow_iff_right (show 1<4294967296 by decide)).1 this
  omega
section
variable {P:Program} {r:List bz} {F:Fr} {H:ab} {Q:Fr->ab->Prop}
theorem Bj:∀(aD cs pre:List Value),cs.length=aD.length->ow (pre++cs) pre.length aD=pre++aD
 | [],cs,pre,h=>by
  have:cs=[]:=List.eq_nil_of_length_eq_zero (by simpa using h)
  simp[ow,this]
 | v::aD,[],pre,h=>by simp at h
 | v::aD,c::cs,pre,h=>by
  simp only[ow]
  have o:(pre++c::cs).set pre.length v=(pre++[v])++cs:=by
   rw[List.set_append_right _ _ (Nat.le_refl _),Nat.sub_self]
   simp
  have aa:pre.length+1=(pre++[v]).length:=by simp
  rw[o,aa,Bj aD cs (pre++[v]) (by simpa using h)]
  simp
theorem u7(z:Value)(n:Nat):(made z n).length=n:=by simp[made]
theorem aaK{eh:Bool}{d1 d2 t bV cI e U bA k n:Nat}{s x:Operand}{z:Value}{cs:List Value}{ax:ba ((⟨eh,none,some d1,.buildSlice t 1 #[(0,x)]⟩:bz)::ap d2 bV cI s (T d1)::r) Q}(cy:hY H k e U (aq F s) n cs)(fq:∀v,aq (a4 F d1 v) s=aq F s)
  (bM:P.underlying t=some (.slice e))(hu:P.underlying bV=some (.slice e))(J:fB P cI=true)(ao:bq P e=some U)(ag:bytes? P e=some bA)(aM:dA P e=some z)(dS:flat z=true)(dg:z.cells.size=U)(df:0<U)(q8:U<=1000)
  (dY:0<bA)(bw:(n+1)*bA<=140737488355328)(an:(aq F x).cells.toList.length=U)(g6:((aq F x).cells.toList.all (·.oneCell'))=true)(aj:k<=H.length)
  (K:∀u au aF,hY aF k e U au (n+1) (cs++(aq F x).cells.toList)->(∀cx:ab,cx.length<=k->Ext cx H->Ext cx aF)->(∀b X,H[b]?=some X->(inBlock (aq F s) b->X.elem?≠some e)->aF[b]?=some X)->a_ P r Q .mk (a4 (a4 F d1 u) d2 au) aF):
  a_ P ((⟨eh,none,some d1,.buildSlice t 1 #[(0,x)]⟩:bz)::ap d2 bV cI s (T d1)::r) Q ax F H:=by
 have eV:(made z (1*U)).length=U:=by rw[u7,Nat.one_mul]
 have aK:iY (fun i=>some (i*U,U)) (made z (1*U)) [(0,aq F x)]=some (aq F x).cells.toList:=by
  simp only[iY]
  rw[if_pos ⟨an,by rw[eV];omega⟩]
  have:=Bj (aq F x).cells.toList (made z (1*U)) [] (by rw[eV,an])
  simpa using this
 have ay:Instr.fill (fun i=>some (i*U,U)) (made z (1*U)).toArray ((#[(0,x)]:Array (Nat×Operand)).toList.map fun p=>(p.1,aq F p.2))=some (aq F x).cells:=by
  rw[fill_eq]
  simp only[List.map_cons,List.map_nil]
  rw[aK]
  simp
 have av:∀R:Oper,R.op= .buildSlice t 1 #[(0,x)]->e9 P (aq F) H R (.slice (some ⟨H.length,0,none⟩) 1 1) (H++[.own e false (aq F x).cells.toList]):=fun R fp=> .build (out:=(aq F x).cells) fp bM ao aM dS dg df (by omega) (by omega) ay (by have:=an;simp at this;omega)
 refine jH rfl rfl rfl av (fun R aK=>by simp[bR,aK]) (.inr ((Ext.refl H).snoc _ _ _)) ?_
 show a_ P (ap d2 bV cI s (T d1)::r) Q .mk (a4 F d1 _) _
 have c7:Src (H++[.own e false (aq F x).cells.toList]) U (.slice (some ⟨H.length,0,none⟩) 1 1) 1 1 (aq F x).cells.toList:=by
  have:=Src.row (H:=H++[.own e false (aq F x).cells.toList]) (U:=U) (b:=H.length) (i:=0) (n:=1) (m:=1) (c:=1) (x:= .own e false (aq F x).cells.toList) (cs:=(aq F x).cells.toList) (by simp) rfl (by omega) (Nat.le_refl _) (by omega)
  rw[List.drop_zero,Nat.one_mul,<-an,List.take_length]at this
  rw[an]at this
  exact this
 have mc:hY (H++[.own e false (aq F x).cells.toList]) k e U (aq (a4 F d1 (.slice (some ⟨H.length,0,none⟩) 1 1)) s) n cs:=by
  rw[fq]
  exact cy.ext ((Ext.refl H).snoc _ _ _)
 refine FP mc (by simpa[aq,T,a4]using c7) hu J ao ag aM dg dY bw g6 (by omega) (by simp;omega) fun au aF o aa aA _ _=>?_
 refine K _ au aF o (fun cx aH bn=>aa cx aH (bn.snoc _ _ _)) (fun b X aQ ag=>aA b X ?_ (by rw[fq];exact ag))
 rw[List.getElem?_append_left (cK.1 aQ).1]
 exact aQ
end
def cw(a8:Nat->Option bI)(H:ab):ab:=H.mapIdx fun b x=>(a8 b).getD x
def Fit(a8:Nat->Option bI)(H:ab):Prop:=∀b x,a8 b=some x->H[b]?=some .dead/\∃e l cs,x= .own e l cs
section
variable {a8:Nat->Option bI} {H:ab}
theorem j4(a8:Nat->Option bI)(H:ab):(cw a8 H).length=H.length:=by simp[cw]
theorem kI(a8:Nat->Option bI)(H:ab)(b:Nat):(cw a8 H)[b]?=(H[b]?).map fun x=>(a8 b).getD x:=by simp[cw]
theorem Fit.x9{X:bI}{b:Nat}(h:Fit a8 H)(aQ:H[b]?=some X)(aB:X≠ .dead):a8 b=none:=by
 cases aY:a8 b with
 | none=>rfl
 | some x=>have:=(h b x aY).1;rw[aQ]at this;exact absurd (Option.some.inj this) aB
theorem Fit.YK{X:bI}{cs:List Value}{b:Nat}(h:Fit a8 H)(aQ:H[b]?=some X)(ad:X.cells?=some cs):a8 b=none:=h.x9 aQ (by rintro rfl;simp[bI.cells?]at ad)
theorem Fit.YL{X:bI}{e:TypeId}{b:Nat}(h:Fit a8 H)(aQ:H[b]?=some X)(ad:X.elem?=some e):a8 b=none:=h.x9 aQ (by rintro rfl;simp[bI.elem?]at ad)
theorem Fit.va{e:TypeId}{l:Bool}{cs:List Value}{b:Nat}(h:Fit a8 H)(aQ:H[b]?=some (.own e l cs)):a8 b=none:=h.x9 aQ (by simp)
theorem A2{b:Nat}(aY:a8 b=none):(cw a8 H)[b]?=H[b]?:=by rw[kI,aY];cases H[b]?<;>rfl
theorem Fit.get{X:bI}{b:Nat}(h:Fit a8 H)(aQ:H[b]?=some X)(aB:X≠ .dead):(cw a8 H)[b]?=some X:=by rw[A2 (h.x9 aQ aB)];exact aQ
theorem Fit.tR{X:bI}{cs:List Value}{b:Nat}(h:Fit a8 H)(aQ:H[b]?=some X)(ad:X.cells?=some cs):(cw a8 H)[b]?=some X:=by rw[A2 (h.YK aQ ad)];exact aQ
theorem Fit.lt{b:Nat}{x:bI}(h:Fit a8 H)(aY:a8 b=some x):b<H.length:=(cK.1 (h b x aY).1).1
theorem Fit.app(h:Fit a8 H)(N:ab):Fit a8 (H++N)/\cw a8 (H++N)=cw a8 H++N:=by
 refine⟨fun b x aY=>?_,?_⟩
 ·rw[List.getElem?_append_left (h.lt aY)];exact h b x aY
 ·apply List.ext_getElem?
  intro b
  rw[kI]
  by_cases ag:b<H.length
  ·rw[List.getElem?_append_left ag,List.getElem?_append_left (by rw[j4];exact ag),kI]
  ·have aY:a8 b=none:=by
    cases aY:a8 b with
    | none=>rfl
    | some x=>exact absurd (h.lt aY) ag
   rw[List.getElem?_append_right (by omega),List.getElem?_append_right (by rw[j4];omega),j4,aY]
   cases N[b-H.length]?<;>rfl
theorem Fit.set{b:Nat}(h:Fit a8 H)(aY:a8 b=none)(x:bI):Fit a8 (H.set b x)/\cw a8 (H.set b x)=(cw a8 H).set b x:=by
 refine⟨fun c y ad=>?_,?_⟩
 ·have:b≠c:=fun e=>by rw[e,ad]at aY;cases aY
  rw[List.getElem?_set_ne this];exact h c y ad
 ·apply List.ext_getElem?
  intro c
  rw[kI]
  by_cases Dg:b=c
  ·subst Dg
   rw[aY]
   by_cases ar:b<H.length
   ·rw[List.getElem?_set_self ar,List.getElem?_set_self (by rw[j4];exact ar)];rfl
   ·rw[List.getElem?_eq_none (by simp;omega),List.getElem?_eq_none (by simp[j4];omega)];rfl
  ·rw[List.getElem?_set_ne Dg,List.getElem?_set_ne Dg,kI]
theorem rF{U m n:Nat}{v:Value}{news:List Value}(ay:Fit a8 H)(h:Src H U v m n news):Src (cw a8 H) U v m n news:=by
 cases h with
 | vF=>exact .vF
 | row J ad aG hm bw=>exact .row (ay.tR J ad) ad aG hm bw
 | str o=>exact .str o
theorem Cs{H1:ab}(ay:Fit a8 H)(h:Ext H H1):Ext (cw a8 H) (cw a8 H1):=by
 obtain⟨N,rfl,aG⟩:=h
 exact⟨N,(ay.app N).2,aG⟩
theorem M6{P:Program}{aJ:Operand->Value}{R:Oper}{v:Value}{H1:ab}(ay:Fit a8 H)(h:e9 P aJ H R v H1):e9 P aJ (cw a8 H) R v (cw a8 H1)/\Fit a8 H1:=by
 have ap:∀X:bI,Fit a8 (H++[X])/\cw a8 (H++[X])=cw a8 H++[X]:=fun X=>ay.app [X]
 have ar:=j4 a8 H
 cases h with
 | s7 ao Dv an h=>exact⟨.s7 ao Dv an h,ay⟩
 | alloc h aM dS ao=>refine⟨?_,(ap _).1⟩;rw[(ap _).2,<-ar];exact .alloc h aM dS ao
 | box h ao=>refine⟨?_,(ap _).1⟩;rw[(ap _).2,<-ar];exact .box h ao
 | xW h aO J aQ ad an=>exact⟨.xW h aO J (ay.tR aQ ad) ad an,ay⟩
 | xX h aO ao J aQ ad bw=>exact⟨.xX h aO ao J (ay.tR aQ ad) ad bw,ay⟩
 | store h ao J aQ bw o=>obtain⟨a1,a3⟩:=ay.set (ay.va aQ) (.own _ _ _);refine⟨?_,a1⟩;rw[a3];exact .store h ao J (ay.get aQ (by simp)) bw o
 | slice h hu ao J aQ he ar eG o aa a6=>exact⟨.slice h hu ao J (by rw[A2 (ay.YL aQ he)];exact aQ) he ar eG o aa a6,ay⟩
 | yn h hu ao J qT ar eG=>exact⟨.yn h hu ao J qT ar eG,ay⟩
 | yo h hu ao J ar eG=>exact⟨.yo h hu ao J ar eG,ay⟩
 | Bo h hu ao J ar eG hm aA=>exact⟨.Bo h hu ao J ar eG hm aA,ay⟩
 | Bn h hu ao J ar eG hm=>exact⟨.Bn h hu ao J ar eG hm,ay⟩
 | make h hu ao ag aM dS dg J aL df dY mn ad bw=>refine⟨?_,(ap _).1⟩;rw[(ap _).2,<-ar];exact .make h hu ao ag aM dS dg J aL df dY mn ad bw
 | x3 h hu ao ag J aL=>exact⟨.x3 h hu ao ag J aL,ay⟩
 | build h hu ao aM dS dg df dG bw TY sG=>refine⟨?_,(ap _).1⟩;rw[(ap _).2,<-ar];exact .build h hu ao aM dS dg df dG bw TY sG
 | v5 h hu ao=>exact⟨.v5 h hu ao,ay⟩
 | vU h hu J ao c7 an=>exact⟨.vU h hu J ao (rF ay c7) an,ay⟩
 | vY h hu J ao ag aM dg c7 aG dY bw aO an=>refine⟨?_,(ap _).1⟩;rw[(ap _).2,<-ar];exact .vY h hu J ao ag aM dg (rF ay c7) aG dY bw aO an
 | vW h hu J ao c7 gM ad aQ bw g6 an=>obtain⟨a1,a3⟩:=ay.set (ay.va aQ) (.own _ _ _);refine⟨?_,a1⟩;rw[a3];exact .vW h hu J ao (rF ay c7) gM ad (ay.get aQ (by simp)) bw g6 an
 | vV h hu J ao ag aM dg c7 aG dY bw aQ g7 gM ad an=>refine⟨?_,(ap _).1⟩;rw[(ap _).2,<-ar];exact .vV h hu J ao ag aM dg (rF ay c7) aG dY bw (ay.get aQ (by simp)) g7 gM ad an
 | vX h hu J ao ag aM dg c7 aG dY bw aQ g7 gM ad g6 an=>
  obtain⟨a1,a3⟩:=ay.set (ay.va aQ) .dead
  obtain⟨bG,cn⟩:=a1.app [.own _ true _]
  refine⟨?_,bG⟩
  rw[cn,a3,<-ar]
  exact .vX h hu J ao ag aM dg (rF ay c7) aG dY bw (ay.get aQ (by simp)) g7 gM ad g6 an
 | copy h hu ao c7 aG jC aQ bw g6 an=>obtain⟨a1,a3⟩:=ay.set (ay.va aQ) (.own _ _ _);refine⟨?_,a1⟩;rw[a3];exact .copy h hu ao (rF ay c7) aG jC (ay.get aQ (by simp)) bw g6 an
 | wa h hu ao c7 aG an=>exact⟨.wa h hu ao (rF ay c7) aG an,ay⟩
 | str h ao he aB lO c7=>exact⟨.str h ao he aB lO (rF ay c7),ay⟩
theorem ZK{P:Program}{t:List Value}{rs:List ResultVar}{aD:List Value}(ay:Fit a8 H)(h:l3 P t H rs aD):l3 P t (cw a8 H) rs aD:=by
 induction h with
 | nil=>exact .nil
 | tmp ao a2=>exact .tmp a2
 | y6 aO J aQ ad an ao a2=>exact .y6 aO J (ay.tR aQ ad) ad an a2
 | y7 aO aG J aQ ad bw ao a2=>exact .y7 aO aG J (ay.tR aQ ad) ad bw a2
def pk.heap:pk->ab
 | .code _ _ H=>H
 | .op _ _ _ H=>H
 | .call _ _ H=>H
def Out.heap:Out->ab
 | .code _ _ H=>H
 | .val _ H=>H
def X9(a8:Nat->Option bI):pk->pk
 | .code c t H=> .code c t (cw a8 H)
 | .op ops R t H=> .op ops R t (cw a8 H)
 | .call f args H=> .call f args (cw a8 H)
def YR(a8:Nat->Option bI):Out->Out
 | .code e t H=> .code e t (cw a8 H)
 | .val v H=> .val v (cw a8 H)
theorem Ye{P:Program}{ops:Array Oper}{R:Oper}{t:List Value}{H1:ab}{v:Value}{g:Option (Nat×Option bI)}(ay:Fit a8 H)(h:oC P ops R t H v H1 g):oC P ops R t (cw a8 H) v (cw a8 H1) g/\Fit a8 H1:=by
 cases g with
 | none=>obtain⟨o,rfl⟩:=h;exact⟨⟨o,rfl⟩,ay⟩
 | some bA=>
  obtain⟨b,y⟩:=bA
  obtain⟨o,aa,aA,bo,bK,dM⟩:=h
  have aY:a8 b=none:=ay.x9 (bJ aA) (by rw[bJ aA]at bo;exact fun e=>bo (by rw[e]))
  have he:=A2 (H:=H) aY
  cases y with
  | none=>
   simp only[my]at bK
   subst bK
   exact⟨⟨o,aa,by rw[j4];exact aA,by rw[he];exact bo,rfl,fun aF sh=>dM aF (by rw[sh,he])⟩,ay⟩
  | some x=>
   simp only[my]at bK
   subst bK
   obtain⟨a1,a3⟩:=ay.set aY x
   exact⟨⟨o,aa,by rw[j4];exact aA,by rw[he];exact bo,a3,fun aF sh=>dM aF (by rw[sh,he])⟩,a1⟩
theorem ZH{P:Program}{j:pk}{R:Out}(h:dX P j R):Fit a8 j.heap->dX P (X9 a8 j) (YR a8 R)/\Fit a8 R.heap:=by
 induction h with
 | skip=>exact fun ay=>⟨.skip,ay⟩
 | ret=>exact fun ay=>⟨.ret,ay⟩
 | exit=>exact fun ay=>⟨.exit,ay⟩
 | Bi o aa k9 p3=>exact fun ay=>let⟨ed,f1⟩:=k9 ay;let⟨fA,f2⟩:=p3 f1;⟨.Bi ed fA,f2⟩
 | yi o he k9=>exact fun ay=>let⟨ed,f1⟩:=k9 ay;⟨.yi ed he,f1⟩
 | cond ad aj h a2=>exact fun ay=>let⟨ed,f1⟩:=a2 ay;⟨.cond ad aj ed,f1⟩
 | block h a2=>exact fun ay=>let⟨ed,f1⟩:=a2 ay;⟨.block ed,f1⟩
 | AQ o aa k9 p3=>exact fun ay=>let⟨ed,f1⟩:=k9 ay;let⟨fA,f2⟩:=p3 f1;⟨.AQ ed fA,f2⟩
 | xZ o he k9=>exact fun ay=>let⟨ed,f1⟩:=k9 ay;⟨.xZ ed he,f1⟩
 | region T V aZ aj h bc aB a2=>
  rename_i id ops draw
  intro ay
  have n5:∀i,i<=ops.size->Fit a8 (aZ i):=by
   intro i
   induction i with
   | zero=>exact fun _=>ay
   | succ i EB=>exact fun ae=>(a2 i _ (Array.getElem?_eq_getElem (show i<ops.size by omega)) (EB (by omega))).2
  have lt:∀{i:Nat} {R:Oper},ops[i]?=some R->i<=ops.size:=fun aK=>Nat.le_of_lt (Array.getElem?_eq_some_iff.1 aK).1
  exact⟨.region T V (fun i=>cw a8 (aZ i)) aj (fun i R aK=>(a2 i R aK (n5 i (lt aK))).1) bc (fun uE=>⟨(aB uE).1,fun i R aK a5=>((aB uE).2 i R aK a5).imp (fun x=>x) fun he=>Cs (n5 i (lt aK)) he⟩),n5 _ (Nat.le_refl _)⟩
 | Be T V aZ ee aj h bc ev ar aB uU a2=>
  rename_i id ops draw
  intro ay
  have n5:∀i,i<=ops.size->Fit a8 (aZ i):=by
   intro i
   induction i with
   | zero=>exact fun _=>ay
   | succ i EB=>exact fun ae=>(a2 i _ (Array.getElem?_eq_getElem (show i<ops.size by omega)) (EB (by omega))).2
  have lt:∀{i:Nat} {R:Oper},ops[i]?=some R->i<=ops.size:=fun aK=>Nat.le_of_lt (Array.getElem?_eq_some_iff.1 aK).1
  exact⟨.Be T V (fun i=>cw a8 (aZ i)) ee aj (fun i R aK=>(a2 i R aK (n5 i (lt aK))).1) bc ev (fun i R aK=>(Ye (n5 i (lt aK)) (ar i R aK)).1) aB uU,n5 _ (Nat.le_refl _)⟩
 | s9 hw=>exact fun ay=>⟨.s9 hw,ay⟩
 | vd hw a5 h=>exact fun ay=>⟨.vd hw a5 h,ay⟩
 | rq hw a5 h=>exact fun ay=>let⟨a1,a3⟩:=M6 ay h;⟨.rq hw a5 a1,a3⟩
 | vc hw a5 aK w5 aU aG ag h a2=>exact fun ay=>let⟨ed,f1⟩:=a2 ay;⟨.vc hw a5 aK w5 aU aG ag ed,f1⟩
 | call w5 ag h he al a2=>exact fun ay=>let⟨ed,f1⟩:=a2 ay;⟨.call w5 ag ed he (ZK f1 al),f1⟩
 | y5 h aK a2=>
  intro ay
  obtain⟨ed,f1⟩:=a2 ay
  obtain⟨e,l,cs,J⟩:=aK
  obtain⟨a1,a3⟩:=f1.set (f1.va J) .dead
  refine⟨?_,a1⟩
  show dX P _ (.val _ (cw a8 (List.set _ _ .dead)))
  simp only[Out.heap]at a3
  rw[a3]
  exact .y5 ed ⟨e,l,cs,f1.get J (by simp)⟩
theorem aP.o8{P:Program}{f:FuncId}{args:List Value}{Q:Value->ab->Prop}(ay:Fit a8 H)(h:aP P f args H Q):aP P f args (cw a8 H) fun v H1=>∃aF,H1=cw a8 aF/\Fit a8 aF/\Q v aF:=by
 obtain⟨v,H1,⟨ad,al⟩ | ⟨aO,rfl⟩,av⟩:=h
 ·obtain⟨ed,f1⟩:=ZH al (a8:=a8) ay
  exact⟨v,_,.inl ⟨ad,ed⟩,H1,rfl,f1,av⟩
 ·exact⟨v,_,.inr ⟨aO,rfl⟩,H1,rfl,ay,av⟩
theorem Qi{b:Nat}{cs:List Value}(ay:Fit a8 H)(h:iG H b=some cs):iG (cw a8 H) b=some cs:=by
 obtain⟨X,aQ,ad⟩:=y8 h
 unfold iG
 rw[ay.tR aQ ad]
 exact ad
theorem aag{P:Program}{aJ:Operand->Value}{op:Op}{v:Value}{H1:ab}(ay:Fit a8 H)(h:b3 P aJ H op=some (v,H1)):b3 P aJ (cw a8 H) op=some (v,cw a8 H1)/\Fit a8 H1:=by
 cases op<;>simp only[b3]at h⊢<;>try (first | (simp at h;done) | (cases h;done))
 case move=>simp at h;obtain⟨rfl,rfl⟩:=h;exact⟨rfl,ay⟩
 case assign=>simp at h;obtain⟨rfl,rfl⟩:=h;exact⟨rfl,ay⟩
 case pick=>split at h<;>simp at h;obtain⟨rfl,rfl⟩:=h;exact⟨rfl,ay⟩
 case alloc=>
  split at h
  ·split at h
   ·rename_i ad
    simp at h;obtain⟨rfl,rfl⟩:=h
    rw[if_pos ad,j4,(ay.app _).2]
    exact⟨rfl,(ay.app _).1⟩
   ·cases h
  ·cases h
 case box=>
  split at h
  ·rename_i ad
   simp at h;obtain⟨rfl,rfl⟩:=h
   rw[if_pos ad,j4,(ay.app _).2]
   exact⟨rfl,(ay.app _).1⟩
  ·cases h
 case load ty x=>
  split at h
  ·rename_i b i J
   cases gb:iG H b with
   | none=>rw[gb]at h;cases h
   | some cs=>
    rw[gb]at h
    rw[Qi ay gb]
    revert h
    simp only
    cases ds P ty with
    | none=>simp
    | some g=>
     cases g with
     | false=>simp only;cases cs[i]?<;>simp only[Option.map_none,Option.map_some,Option.some.injEq,Prod.mk.injEq,reduceCtorEq,false_implies,and_imp];try (rintro rfl rfl;exact⟨⟨rfl,rfl⟩,ay⟩)
     | true=>
      simp only
      cases bq P ty with
      | none=>simp
      | some n=>
       simp only
       split
       ·simp only[Option.map_none,Option.map_some,Option.some.injEq,Prod.mk.injEq,reduceCtorEq,false_implies,and_imp];try (rintro rfl rfl;exact⟨⟨rfl,rfl⟩,ay⟩)
       ·simp
  ·cases h
 case store ty x y=>
  split at h
  ·rename_i b i J
   split at h
   ·rename_i e l cs aQ
    split at h
    ·rename_i ad
     simp at h;obtain⟨rfl,rfl⟩:=h
     obtain⟨a1,a3⟩:=ay.set (ay.va aQ) (.own e l (db cs i (aJ y).cells.toList))
     rw[ay.get aQ (by simp)]
     simp only
     rw[if_pos ad,a3]
     exact⟨rfl,a1⟩
    ·cases h
   ·cases h
  ·cases h
 case nilCheck=>split at h<;>simp at h;obtain⟨rfl,rfl⟩:=h;exact⟨rfl,ay⟩
 case binOp=>obtain⟨u,hu,he⟩:=Option.map_eq_some_iff.1 h;simp at he;obtain⟨rfl,rfl⟩:=he;rw[hu];exact⟨rfl,ay⟩
 case unOp=>obtain⟨u,hu,he⟩:=Option.map_eq_some_iff.1 h;simp at he;obtain⟨rfl,rfl⟩:=he;rw[hu];exact⟨rfl,ay⟩
 case convert=>
  split at h
  ·split at h<;>simp at h;obtain⟨rfl,rfl⟩:=h;exact⟨rfl,ay⟩
  ·split at h
   ·rename_i ad;simp at h;obtain⟨rfl,rfl⟩:=h;rw[if_pos ad];exact⟨rfl,ay⟩
   ·cases h
  ·cases h
 case makeInterface=>
  split at h
  ·rename_i ad;simp at h;obtain⟨rfl,rfl⟩:=h;rw[if_pos ad];exact⟨rfl,ay⟩
  ·cases h
 case makeFunc=>simp at h;obtain⟨rfl,rfl⟩:=h;exact⟨rfl,ay⟩
 case fieldAddr=>
  split at h
  ·obtain⟨u,hu,he⟩:=Option.map_eq_some_iff.1 h;simp at he;obtain⟨rfl,rfl⟩:=he;rw[hu];exact⟨rfl,ay⟩
  ·cases h
 case field=>
  split at h
  ·split at h
   ·obtain⟨u,hu,he⟩:=Option.map_eq_some_iff.1 h;simp at he;obtain⟨rfl,rfl⟩:=he;simp only[hu];exact⟨rfl,ay⟩
   ·cases h
  ·cases h
 case indexAddr=>
  split at h
  ·split at h
   ·split at h
    ·split at h
     ·rename_i ad;simp at h;obtain⟨rfl,rfl⟩:=h;rw[if_pos ad];exact⟨rfl,ay⟩
     ·cases h
    ·cases h
   ·cases h
  ·cases h
 case index=>
  split at h
  ·split at h
   ·rename_i ad;simp only[Option.some.injEq,Prod.mk.injEq]at h;obtain⟨rfl,rfl⟩:=h;rw[if_pos ad];exact⟨rfl,ay⟩
   ·cases h
  ·cases h
 case extract=>
  split at h
  ·obtain⟨u,hu,he⟩:=Option.map_eq_some_iff.1 h;simp at he;obtain⟨rfl,rfl⟩:=he;rw[hu];exact⟨rfl,ay⟩
  ·cases h
 case build=>
  split at h
  ·split at h
   ·rename_i ad;obtain⟨u,hu,he⟩:=Option.map_eq_some_iff.1 h;simp at he;obtain⟨rfl,rfl⟩:=he;rw[if_pos ad,hu];exact⟨rfl,ay⟩
   ·cases h
  ·cases h
 case call c=>
  unfold rC at h⊢
  split at h
  ·split at h
   ·split at h
    ·simp at h;obtain⟨rfl,rfl⟩:=h;exact⟨rfl,ay⟩
    ·cases h
   ·split at h
    ·rename_i ad;simp at h;obtain⟨rfl,rfl⟩:=h;rw[if_pos ad];exact⟨rfl,ay⟩
    ·cases h
   ·cases h
  ·split at h<;>simp at h;obtain⟨rfl,rfl⟩:=h;exact⟨rfl,ay⟩
  ·split at h<;>simp at h;obtain⟨rfl,rfl⟩:=h;exact⟨rfl,ay⟩
  ·cases h
 case slice ty x bb ae fk=>
  cases fk with
  | some m=>simp at h
  | none=>
   simp only at h⊢
   split at h
   ·split at h
    ·split at h
     ·rename_i ad;simp at h;obtain⟨rfl,rfl⟩:=h;rw[if_pos ad];exact⟨rfl,ay⟩
     ·cases h
    ·cases h
   ·cases h
theorem aaf{P:Program}{aJ:Operand->Value}{op:Op}(H aF:ab)(hm:jo op=true)(h:b3 P aJ H op=none):b3 P aJ aF op=none:=by
 cases ao:b3 P aJ aF op with
 | none=>rfl
 | some p=>
  obtain⟨v,H1⟩:=p
  cases op<;>simp[jo]at hm<;>simp only[b3]at h ao<;>try (first | (simp at ao;done) | (cases ao;done))
  case convert src dst x=>
   cases J:aJ x with
   | int k n=>rw[J]at h ao;simp only at h ao;revert h ao;cases j0 P src<;>cases j0 P dst<;>simp
   | string t=>rw[J]at h ao;simp only at h ao;revert h ao;split<;>simp
   | _=>rw[J]at ao;simp at ao
  case call c=>
   obtain⟨callee,args,kU⟩:=c
   unfold rC at h ao
   cases callee with
   | builtin b=>cases b<;>simp at hm<;>simp at ao
   | _=>simp at hm
  case slice ty x bb ae fk=>
   cases fk with
   | some m=>simp at ao
   | none=>
    simp only at h ao
    split at ao
    ·split at ao
     ·split at ao<;>simp_all
     ·cases ao
    ·cases ao
theorem ga.o8{P:Program}{b:Bool}{F:Fr}{K:Value->ab->Prop}{op:Op}(ay:Fit a8 H)(h:ga P b F H K op):ga P b F (cw a8 H) (fun v H1=>∃aF,H1=cw a8 aF/\Fit a8 aF/\K v aF) op:=by
 have main:(match b3 P (aq F) H op with
   | some (v,H1)=>(hH op=true->b=true)/\K v H1
   | none=>jo op=true/\∃v H1,nI P (aq F) H op v H1/\(b=true\/Ext H H1)/\K v H1)->(match b3 P (aq F) (cw a8 H) op with
   | some (v,H1)=>(hH op=true->b=true)/\∃aF,H1=cw a8 aF/\Fit a8 aF/\K v aF
   | none=>jo op=true/\∃v H1,nI P (aq F) (cw a8 H) op v H1/\(b=true\/Ext (cw a8 H) H1)/\∃aF,H1=cw a8 aF/\Fit a8 aF/\K v aF):=by
  cases ao:b3 P (aq F) H op with
  | some p=>
   obtain⟨v,H1⟩:=p
   obtain⟨a1,a3⟩:=aag ay ao
   rw[a1]
   exact fun h=>⟨h.1,H1,rfl,a3,h.2⟩
  | none=>
   intro⟨o,v,H1,aa,aA,bo⟩
   rw[aaf H _ o ao]
   have hm:=fun R aK=>M6 ay (aa R aK).2
   have aH:=hm ⟨none,op,default,default, #[],none⟩ rfl
   exact⟨o,v,cw a8 H1,fun R aK=>⟨(aa R aK).1,(hm R aK).1⟩,aA.imp (fun x=>x) fun he=>Cs ay he,H1,rfl,aH.2,bo⟩
 cases op<;>try exact main h
 rename_i c
 obtain⟨callee,args,kU⟩:=c
 cases callee with
 | value f=>
  simp only[ga]at h⊢
  split at h
  ·rename_i g first cap zY
   exact(aP.o8 ay h).mono fun v H1 ⟨aF,e,o,aa⟩=>⟨aa.1.imp (fun x=>x) fun he=>by rw[e];exact Cs ay he,aF,e,o,aa.2⟩
  ·exact h.elim
 | invoke r m=>exact main h
 | builtin b=>exact main h
theorem bh.o8{P:Program}:∀{l:List bz} {F:Fr} {H:ab} {Q:Fr->ab->Prop},Fit a8 H->bh P l F H Q->bh P l F (cw a8 H) fun az H1=>∃aF,H1=cw a8 aF/\Fit a8 aF/\Q az aF
 | [],F,H,Q,ay,h=>⟨H,rfl,ay,h⟩
 | x::rest,F,H,Q,ay,h=>by
  simp only[bh]at h⊢
  split
  ·rename_i aU
   rw[aU]at h
   exact ga.mono (fun v H1 ⟨aF,e,o,aa⟩=>by rw[e];exact bh.o8 o aa) (ga.o8 ay h)
  ·rename_i j w aU
   rw[aU]at h
   simp only at h
   split
   ·rename_i ag
    rw[if_pos ag]at h
    exact ga.mono (fun v H1 ⟨aF,e,o,aa⟩=>by rw[e];exact bh.o8 o aa) (ga.o8 ay h)
   ·rename_i ag
    rw[if_neg ag]at h
    exact bh.o8 ay h
end
end Go.cJ
end
