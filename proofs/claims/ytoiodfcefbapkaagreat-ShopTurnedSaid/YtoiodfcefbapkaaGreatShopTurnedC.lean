/- Part of the proof of ShopTurned. -/
import Derived.Test.YtoiodfcefbapkaaGreatShopTurnedB
set_option linter.unusedVariables false
set_option linter.unusedSimpArgs false
section
namespace Go.cW
structure bF where
 b:Bool
 g:Option (Nat×Bool)
 d:Option Nat
 op:Op
inductive gF where
 | skip
 | ret
 | exit (id:Nat)
 | seq (x y:gF)
 | cond (c:Operand) (x y:gF)
 | block (id:Nat) (x:gF)
 | loop (x:gF)
 | ops (l:List bF)
 | opsL (l:List bF)
structure fq where
 code:gF
 results:List ResultVar
def hV:Op->Op
 | .call {callee:= .value f,args,.. }=> .call {callee:= .value f,args,argTypes:= #[]}
 | .binOp op t x y _=> .binOp op t x y 0
 | .unOp op _ x=> .unOp op 0 x
 | op=>op
def np(P:Program):Op->Bool
 | .move _ | .assign _ | .pick .. | .alloc _ | .box .. | .load .. | .nilCheck _ | .binOp .. | .unOp .. | .makeInterface .. | .makeFunc .. | .fieldAddr .. | .field .. | .indexAddr .. | .index .. | .extract .. | .build .. =>false
 | .call {callee:= .builtin .len,.. } | .call {callee:= .builtin .max,.. } | .call {callee:= .builtin .min,.. }=>false
 | .convert s t _=> !(rj P s&&rj P t)
 | _=>true
def Ry(n:Nat):Option Tmp->Bool
 | some d=>decide (d<n)
 | none=>true
def wq(P:Program)(n:Nat)(ops:Array Oper)(draw:Bool)(R:Oper)(k:Nat):Option bF:=
 if Ry n R.dst=true then
  match R.guard with
  | none=>some ⟨!draw || !np P R.op || eE P ops k,none,R.dst,hV R.op⟩
  | some (j,w)=>match(ops[j]?).bind (·.dst)with
   | some d=>some ⟨!draw || !np P R.op || eE P ops k,some (d,w),R.dst,hV R.op⟩
   | none=>none
 else none
def nM(P:Program)(n:Nat)(ops:Array Oper)(draw:Bool):List Oper->Nat->Option (List bF)
 | [],_=>some []
 | R::rest,k=>match wq P n ops draw R k,nM P n ops draw rest (k+1)with
  | some x,some xs=>some (x::xs)
  | _,_=>none
def TK(P:Program)(ops:Array Oper):Bool:=ops.toList.zipIdx.any fun p6=>hT p6.1.op&& !eE P ops p6.2
def hO(P:Program)(n:Nat):Code->Option gF
 | .skip=>some .skip
 | .ret=>some .ret
 | .exit id=>some (.exit id)
 | .seq a b=>match hO P n a,hO P n b with
  | some x,some y=>some (.seq x y)
  | _,_=>none
 | .cond c a b=>if nq c=true then(match hO P n a,hO P n b with
  | some x,some y=>some (.cond c x y)
  | _,_=>none)else none
 | .block id a=>(hO P n a).map (.block id)
 | .loop a=>(hO P n a).map .loop
 | .region id ops draw=>if draw&&TK P ops then(if zz ops&&(gK ops&&Fa P ops)then(nM P n ops true ops.toList 0).map .opsL else none)
  else if zz ops&&(!draw || gK ops)then(nM P n ops draw ops.toList 0).map .ops else none
 | _=>none
def comp(P:Program)(fn:Func):Option fq:=match fn.body with
 | some c=>(hO P fn.ntmps c).map fun x=>⟨x,fn.results.toList⟩
 | none=>none
abbrev Fr:=Nat->Value
def a1(F:Fr)(d:Nat)(v:Value):Fr:=fun i=>if i=d then v else F i
theorem jv(F:Fr)(d:Nat)(v:Value):a1 F d v d=v:=by simp[a1]
theorem iG(F:Fr){d i:Nat}(v:Value)(h:i≠d):a1 F d v i=F i:=by simp[a1,h]
def jx(args:List Value):Fr:=fun i=>args.getD i undef
def aq(F:Fr):Operand->Value
 | .tmp i=>F i
 | .const v=>v
 | .global g=> .pointer (some ⟨0,g,some 0⟩)
 | .func f=> .func (.func f) #[] #[]
def fW(F:Fr)(d:Option Nat)(v:Value):Fr:=match d with
 | some d=>a1 F d v
 | none=>F
theorem yA(t:List Value):fg t=aq (gt t):=by funext x;cases x<;>rfl
theorem J6(t:List Value)(d:Option Tmp)(v:Value)(h:∀e,d=some e->e<t.length):gt (fa t d v)=fW (gt t) d v:=by
 cases d with
 | none=>rfl
 | some e=>
  funext i
  simp only[fa,fW,a1,Sj]
  by_cases ad:i=e
  ·subst ad;simp[h i rfl]
  ·rw[if_neg (Ne.symm ad),if_neg ad]
theorem OC(t:List Value)(d:Option Tmp)(v:Value):(fa t d v).length=t.length:=by cases d<;>simp[fa]
def nI(P:Program)(aJ:Operand->Value)(H:ab)(op:Op)(v:Value)(H1:ab):Prop:=∀R:Oper,R.op=op->bV P R=false/\fe P aJ H R v H1
def jt:Op->Bool
 | .slice .. | .makeSlice .. | .buildSlice .. | .convert .. | .call {callee:= .builtin .append,.. } | .call {callee:= .builtin .copy,.. }=>true
 | _=>false
def gm(P:Program)(b:Bool)(F:Fr)(H:ab)(K:Value->ab->Prop):Op->Prop
 | .call {callee:= .value f,args,.. }=>(match aq F f with
  | .func (.func g) first cap=>aP P g (first.toList++args.toList.map (aq F)++cap.toList) H fun v H1=>(b=true\/Ext H H1)/\K v H1
  | _=>False)
 | op=>(match b5 P (aq F) H op with
  | some (v,H1)=>(hT op=true->b=true)/\K v H1
  | none=>jt op=true/\∃v H1,nI P (aq F) H op v H1/\(b=true\/Ext H H1)/\K v H1)
def bj(P:Program):List bF->Fr->ab->(Fr->ab->Prop)->Prop
 | [],F,H,Q=>Q F H
 | x::rest,F,H,Q=>match x.g with
  | none=>gm P x.b F H (fun v H1=>bj P rest (fW F x.d v) H1 Q) x.op
  | some (j,w)=>if hr (F j)=some w then gm P x.b F H (fun v H1=>bj P rest (fW F x.d v) H1 Q) x.op else bj P rest (fW F x.d undef) H Q
def fy(P:Program):List bF->Fr->ab->List Nat->List Nat->(Fr->ab->Prop)->Prop
 | [],F,H,_,_,Q=>Q F H
 | x::rest,F,H,af,W,Q=>match x.g with
  | none=>gM P x.b (aq F) H af W (fun v H1 fK fL=>fy P rest (fW F x.d v) H1 fK fL Q) x.op
  | some (j,w)=>if hr (F j)=some w then gM P x.b (aq F) H af W (fun v H1 fK fL=>fy P rest (fW F x.d v) H1 fK fL Q) x.op else fy P rest (fW F x.d undef) H af W Q
def nw(K:Fr->ab->Prop)(Q:dH->Fr->ab->Prop):dH->Fr->ab->Prop
 | .normal,F,H=>K F H
 | e,F,H=>Q e F H
def pB(id:Nat)(Q:dH->Fr->ab->Prop):dH->Fr->ab->Prop
 | .exit hS,F,H=>if hS=id then Q .normal F H else Q (.exit hS) F H
 | e,F,H=>Q e F H
inductive qu (body:Fr->ab->(dH->Fr->ab->Prop)->Prop) (Q:dH->Fr->ab->Prop):Fr->ab->Prop
 | round {F:Fr} {H:ab} (ai:Fr->ab->Prop) (h:body F H (nw ai Q)) (ed:∀ay H1,ai ay H1->qu body Q ay H1):qu body Q F H
def eA(P:Program):gF->Fr->ab->(dH->Fr->ab->Prop)->Prop
 | .skip,F,H,Q=>Q .normal F H
 | .ret,F,H,Q=>Q .ret F H
 | .exit id,F,H,Q=>Q (.exit id) F H
 | .seq x y,F,H,Q=>eA P x F H (nw (fun ay H1=>eA P y ay H1 Q) Q)
 | .cond c x y,F,H,Q=>(match aq F c with
  | .bool b=>if b=true then eA P x F H Q else eA P y F H Q
  | _=>False)
 | .block id x,F,H,Q=>eA P x F H (pB id Q)
 | .loop x,F,H,Q=>qu (eA P x) Q F H
 | .ops l,F,H,Q=>bj P l F H (fun ay H1=>Q .normal ay H1)
 | .opsL l,F,H,Q=>fy P l F H [] [] (fun ay H1=>Q .normal ay H1)
def kh(P:Program)(F:Fr)(H:ab):List ResultVar->(List Value->Prop)->Prop
 | [],K=>K []
 | .tmp i::rs,K=>kh P F H rs fun aE=>K (F i::aE)
 | .cell a ty::rs,K=>(match F a with
  | .pointer (some ⟨b,i,none⟩)=>(match iL H b with
   | some cs=>(match dq P ty with
    | some false=>(match cs[i]? with
     | some v=>kh P F H rs fun aE=>K (v::aE)
     | none=>False)
    | some true=>(match bp P ty with
     | some n=>i+n<=cs.length/\kh P F H rs fun aE=>K (.agg ((cs.drop i).take n).toArray::aE)
     | none=>False)
    | none=>False)
   | none=>False)
  | _=>False)
def qb(P:Program)(rs:List ResultVar)(Q:Value->ab->Prop):dH->Fr->ab->Prop
 | .normal,F,H=>kh P F H rs fun aE=>Q (bd aE) H
 | .ret,F,H=>kh P F H rs fun aE=>Q (bd aE) H
 | .exit _,_,_=>False
section
variable {P:Program}
theorem OB(aJ:Operand->Value)(H:ab)(op:Op):b5 P aJ H (hV op)=b5 P aJ H op:=by
 cases op<;>try rfl
 rename_i c
 obtain⟨callee,args,k1⟩:=c
 cases callee<;>rfl
theorem Y3{aJ:Operand->Value}{H H1:ab}{R:Oper}{v:Value}(h:fe P aJ H R v H1)(aG:np P R.op=false):Ext H H1:=by
 have one:∀{e:TypeId} {l:Bool} {cs:List Value},Ext H (H++[.own e l cs]):=fun{e l cs}=>⟨[.own e l cs],rfl,fun x J cX eC=>by simp at J;subst J;simp⟩
 cases h with
 | s9=>exact Ext.refl H
 | alloc=>exact one
 | box=>exact one
 | yd=>exact Ext.refl H
 | ye=>exact Ext.refl H
 | store h=>rw[h]at aG;cases aG
 | slice h=>exact Ext.refl H
 | yE=>exact Ext.refl H
 | yF=>exact Ext.refl H
 | BM=>exact Ext.refl H
 | BL=>exact Ext.refl H
 | make=>exact one
 | yk=>exact Ext.refl H
 | build=>exact one
 | wk=>exact Ext.refl H
 | wb=>exact Ext.refl H
 | wh=>exact one
 | we h=>rw[h]at aG;cases aG
 | wc=>exact one
 | wg h=>rw[h]at aG;cases aG
 | copy h=>rw[h]at aG;cases aG
 | wu=>exact Ext.refl H
 | str=>exact Ext.refl H
theorem NL{ops:Array Oper}{draw:Bool}{k:Nat}{R:Oper}{t:List Value}{H:ab}{K:List Value->ab->Prop}{eg:Value->ab->Prop}(aX:∀v H1,eg v H1->K (fa t R.dst v) H1)
  (h:gm P (!draw || !np P R.op || eE P ops k) (gt t) H eg (hV R.op)):v5 P ops draw k R t H K R.op:=by
 have zl:np P R.op=true->(!draw || !np P R.op || eE P ops k)=true->draw=true->eE P ops k=true:=fun o aa aB=>by simpa[o,aB]using aa
 have fin:(np P R.op=true\/hT R.op=false)->hT (hV R.op)=hT R.op->(hV R.op=R.op\/bV P R=true)->(bV P R=true->∀kv:Oper,kv.op=hV R.op->bV P kv=true)->(match b5 P (aq (gt t)) H (hV R.op)with
   | some (v,H1)=>(hT (hV R.op)=true->(!draw || !np P R.op || eE P ops k)=true)/\eg v H1
   | none=>jt (hV R.op)=true/\∃v H1,nI P (aq (gt t)) H (hV R.op) v H1/\((!draw || !np P R.op || eE P ops k)=true\/Ext H H1)/\eg v H1)->
   (match b5 P (fg t) H R.op with
   | some (v,H1)=>Cf P ops draw k (hT R.op)/\K (fa t R.dst v) H1
   | none=>∃v H1,bV P R=false/\fe P (fg t) H R v H1/\y2 P ops draw k H H1/\K (fa t R.dst v) H1):=by
  intro dd AA g5 a4 ao
  rw[OB]at ao
  rw[yA]
  split at ao
  ·rename_i v H1 an
   refine⟨fun o aa=>?_,aX _ _ ao.2⟩
   rcases dd with dd | dd
   ·exact zl dd (ao.1 (by rw[AA];exact aa)) o
   ·rw[dd]at aa;cases aa
  ·obtain⟨-,v,H1,hm,he,SM⟩:=ao
   rcases g5 with g5 | g5
   ·obtain⟨aY,a3⟩:=hm R g5.symm
    refine⟨v,H1,aY,a3,fun o=>?_,aX _ _ SM⟩
    cases Az:np P R.op with
    | false=>exact .inr (Y3 a3 Az)
    | true=>
     rcases he with he | he
     ·exact .inl (zl Az he o)
     ·exact .inr he
   ·have aY:=(hm ⟨R.dst,hV R.op,R.type,R.pos,R.after,R.guard⟩ rfl).1
    rw[a4 g5 _ rfl]at aY
    cases aY
 cases b_:R.op<;>rw[b_]at h fin zl<;>try (exact fin (by simp[np,hT]) rfl (.inl rfl) (fun az kv ft=>by first | (simp only[bV,b_,ft,hV]at az⊢;exact az) | (simp[bV,b_]at az;try (simp[bV,ft,hV]))) h;done)
 case binOp op ty x y pn=>exact fin (.inr rfl) rfl (.inr (by simp[bV,b_])) (fun _ kv ft=>by simp[bV,ft,hV]) h
 case unOp op ty x=>exact fin (.inr rfl) rfl (.inr (by simp[bV,b_])) (fun _ kv ft=>by simp[bV,ft,hV]) h
 case call c=>
  obtain⟨callee,args,k1⟩:=c
  cases callee with
  | value f=>
   simp only[hV,gm]at h
   simp only[v5,yA]
   split at h
   ·rename_i g first cap az
    rw[az]
    refine h.mono fun v H1 c4=>⟨fun o=>?_,aX _ _ c4.2⟩
    rcases c4.1 with he | he
    ·exact .inl (zl rfl he o)
    ·exact .inr he
   ·exact h.elim
  | invoke r m=>exact fin (.inl rfl) rfl (.inl rfl) (fun az=>by simp[bV,b_]at az) h
  | builtin bi=>exact fin (.inr rfl) rfl (.inl rfl) (fun az kv ft=>by simp only[bV,b_,ft,hV]at az⊢;exact az) h
theorem NJ{n:Nat}{ops:Array Oper}{draw:Bool}:∀(rest:List Oper) (k:Nat) (xs:List bF) (t:List Value) (H:ab) (Q:List Value->ab->Prop) (cf:Fr->ab->Prop),nM P n ops draw rest k=some xs->t.length=n->
  (∀t1 H1,t1.length=n->cf (gt t1) H1->Q t1 H1)->bj P xs (gt t) H cf->oH P ops draw k rest t H Q
 | [],k,xs,t,H,Q,cf,ae,ar,aD,h=>by
  simp only[nM,Option.some.injEq]at ae
  subst ae
  exact aD t H ar h
 | R::rest,k,xs,t,H,Q,cf,ae,ar,aD,h=>by
  simp only[nM]at ae
  cases J:wq P n ops draw R k with
  | none=>simp[J]at ae
  | some x=>
   cases nk:nM P n ops draw rest (k+1)with
   | none=>simp[J,nk]at ae
   | some bS=>
    simp only[J,nk,Option.some.injEq]at ae
    subst ae
    unfold wq at J
    split at J
    ·rename_i aA
     have xg:∀e,R.dst=some e->e<t.length:=fun e he=>by
      rw[he]at aA
      rw[ar]
      exact of_decide_eq_true aA
     have tb:∀v H1,bj P bS (fW (gt t) R.dst v) H1 cf->oH P ops draw (k+1) rest (fa t R.dst v) H1 Q:=fun v H1 o=>
      NJ rest (k+1) bS _ H1 Q cf nk (by rw[OC];exact ar) aD (by rw[J6 t R.dst v xg];exact o)
     simp only[oH]
     cases aU:R.guard with
     | none=>
      rw[aU]at J
      obtain rfl:=Option.some.inj J
      have hw:Region.wanted R (gX ops t)=true:=by simp[Region.wanted,aU]
      rw[if_pos hw]
      exact NL tb h
     | some p3=>
      obtain⟨j,w⟩:=p3
      rw[aU]at J
      simp only at J
      cases lU:(ops[j]?).bind (·.dst)with
      | none=>rw[lU]at J;cases J
      | some d=>
       rw[lU]at J
       obtain rfl:=Option.some.inj J
       have hw:Region.wanted R (gX ops t)=(hr (gt t d)==some w):=by
        simp only[Region.wanted,aU,OJ,lU]
       rw[hw]
       simp only[bj]at h
       by_cases ag:hr (gt t d)=some w
       ·rw[if_pos ag]at h
        rw[if_pos (by simpa using ag)]
        exact NL tb h
       ·rw[if_neg ag]at h
        rw[if_neg (by simpa using ag)]
        exact tb _ _ h
    ·cases J
theorem Nj(b:Bool)(aJ:Operand->Value)(H:ab)(af W:List Nat)(K:Value->ab->List Nat->List Nat->Prop)(op:Op)(h:gM P b aJ H af W K (hV op)):gM P b aJ H af W K op:=by
 have e:=OB (P:=P) aJ H op
 cases op with
 | call c=>
  obtain⟨callee,args,k1⟩:=c
  cases callee<;>exact h
 | binOp op ty x y pn=>
  simp only[hV,gM]at h⊢
  simp only[hV]at e
  rw[<-e];exact h
 | unOp op ty x=>
  simp only[hV,gM]at h⊢
  simp only[hV]at e
  rw[<-e];exact h
 | _=>exact h
theorem gM.mono{b:Bool}{aJ:Operand->Value}{H:ab}{af W:List Nat}{K eg:Value->ab->List Nat->List Nat->Prop}(ak:∀v H1 fK fL,K v H1 fK fL->eg v H1 fK fL){op:Op}(h:gM P b aJ H af W K op):gM P b aJ H af W eg op:=by
 cases op with
 | load ty x=>
  simp only[gM]at h⊢
  split at h
  ·refine⟨h.1,?_⟩
   have aa:=h.2
   split at aa
   ·exact ak _ _ _ _ aa
   ·exact aa
  ·exact h
 | store ty x y=>
  simp only[gM]at h⊢
  split at h
  ·refine⟨h.1,?_⟩
   have aa:=h.2
   split at aa
   ·exact ak _ _ _ _ aa
   ·exact aa
  ·exact h
 | _=>
  simp only[gM]at h⊢
  split at h
  ·exact ak _ _ _ _ h
  ·exact h.elim
theorem Ni{b:Bool}{aJ:Operand->Value}{H:ab}{af W:List Nat}{K:Value->ab->List Nat->List Nat->Prop}{op:Op}(h:gM P (!true || !np P op || b) aJ H af W K (hV op)):gM P b aJ H af W K (hV op):=by
 cases op with
 | store t x y=>exact h
 | call c=>obtain⟨callee,args,k1⟩:=c;cases callee<;>exact h
 | _=>exact h
theorem NF{n:Nat}{ops:Array Oper}:∀(rest:List Oper) (k:Nat) (xs:List bF) (t:List Value) (H:ab) (af W:List Nat) (Q:List Value->ab->Prop) (cf:Fr->ab->Prop),nM P n ops true rest k=some xs->t.length=n->
  (∀t1 H1,t1.length=n->cf (gt t1) H1->Q t1 H1)->fy P xs (gt t) H af W cf->oG P ops k rest t H af W Q
 | [],k,xs,t,H,af,W,Q,cf,ae,ar,aD,h=>by
  simp only[nM,Option.some.injEq]at ae
  subst ae
  exact aD t H ar h
 | R::rest,k,xs,t,H,af,W,Q,cf,ae,ar,aD,h=>by
  simp only[nM]at ae
  cases J:wq P n ops true R k with
  | none=>simp[J]at ae
  | some x=>
   cases nk:nM P n ops true rest (k+1)with
   | none=>simp[J,nk]at ae
   | some bS=>
    simp only[J,nk,Option.some.injEq]at ae
    subst ae
    unfold wq at J
    split at J
    ·rename_i aA
     have xg:∀e,R.dst=some e->e<t.length:=fun e he=>by
      rw[he]at aA
      rw[ar]
      exact of_decide_eq_true aA
     have tb:∀v H1 fK fL,fy P bS (fW (gt t) R.dst v) H1 fK fL cf->oG P ops (k+1) rest (fa t R.dst v) H1 fK fL Q:=fun v H1 fK fL o=>
      NF rest (k+1) bS _ H1 fK fL Q cf nk (by rw[OC];exact ar) aD (by rw[J6 t R.dst v xg];exact o)
     simp only[oG]
     cases aU:R.guard with
     | none=>
      rw[aU]at J
      obtain rfl:=Option.some.inj J
      have hw:Region.wanted R (gX ops t)=true:=by simp[Region.wanted,aU]
      rw[if_pos hw]
      simp only[fy]at h
      rw[yA]
      exact gM.mono (fun v H1 fK fL=>tb v H1 fK fL) (Nj _ _ _ _ _ _ _ (Ni h))
     | some p3=>
      obtain⟨j,w⟩:=p3
      rw[aU]at J
      simp only at J
      cases lU:(ops[j]?).bind (·.dst)with
      | none=>rw[lU]at J;cases J
      | some d=>
       rw[lU]at J
       obtain rfl:=Option.some.inj J
       have hw:Region.wanted R (gX ops t)=(hr (gt t d)==some w):=by
        simp only[Region.wanted,aU,OJ,lU]
       rw[hw]
       simp only[fy]at h
       by_cases ag:hr (gt t d)=some w
       ·rw[if_pos ag]at h
        rw[if_pos (by simpa using ag),yA]
        exact gM.mono (fun v H1 fK fL=>tb v H1 fK fL) (Nj _ _ _ _ _ _ _ (Ni h))
       ·rw[if_neg ag]at h
        rw[if_neg (by simpa using ag)]
        exact tb _ _ _ _ h
    ·cases J
theorem r5{n:Nat}:∀(c:Code) (x:gF) (t:List Value) (H:ab) (Q:dH->List Value->ab->Prop) (cf:dH->Fr->ab->Prop),hO P n c=some x->t.length=n->
  (∀e t1 H1,t1.length=n->cf e (gt t1) H1->Q e t1 H1)->eA P x (gt t) H cf->kW P c t H Q
 | .skip,x,t,H,Q,cf,ae,ar,aD,h=>by simp only[hO,Option.some.injEq]at ae;subst ae;exact aD _ _ _ ar h
 | .ret,x,t,H,Q,cf,ae,ar,aD,h=>by simp only[hO,Option.some.injEq]at ae;subst ae;exact aD _ _ _ ar h
 | .exit id,x,t,H,Q,cf,ae,ar,aD,h=>by simp only[hO,Option.some.injEq]at ae;subst ae;exact aD _ _ _ ar h
 | .seq a b,x,t,H,Q,cf,ae,ar,aD,h=>by
  simp only[hO]at ae
  cases aO:hO P n a with
  | none=>simp[aO]at ae
  | some fb=>
   cases ag:hO P n b with
   | none=>simp[aO,ag]at ae
   | some f_=>
    simp only[aO,ag,Option.some.injEq]at ae
    subst ae
    refine r5 a fb t H _ _ aO ar (fun e t1 H1 gh av=>?_) h
    cases e with
    | normal=>exact r5 b f_ t1 H1 Q cf ag gh aD av
    | exit id=>exact aD _ _ _ gh av
    | ret=>exact aD _ _ _ gh av
 | .cond c a b,x,t,H,Q,cf,ae,ar,aD,h=>by
  simp only[hO]at ae
  split at ae
  ·rename_i ak
   cases aO:hO P n a with
   | none=>simp[aO]at ae
   | some fb=>
    cases ag:hO P n b with
    | none=>simp[aO,ag]at ae
    | some f_=>
     simp only[aO,ag,Option.some.injEq]at ae
     subst ae
     refine⟨ak,?_⟩
     simp only[eA]at h
     rw[yA]
     split at h
     ·rename_i e0 pL
      rw[pL]
      simp only
      cases e0 with
      | true=>simp only[if_true]at h⊢;exact r5 a fb t H Q cf aO ar aD h
      | false=>simp only[Bool.false_eq_true,if_false]at h⊢;exact r5 b f_ t H Q cf ag ar aD h
     ·exact h.elim
  ·cases ae
 | .block id a,x,t,H,Q,cf,ae,ar,aD,h=>by
  simp only[hO]at ae
  obtain⟨fb,aO,rfl⟩:=Option.map_eq_some_iff.1 ae
  refine r5 a fb t H _ _ aO ar (fun e t1 H1 gh av=>?_) h
  cases e with
  | normal=>exact aD _ _ _ gh av
  | exit hS=>
   simp only[pB]at av
   simp only[CB]
   split at av
   ·rename_i ad;rw[if_pos ad];exact aD _ _ _ gh av
   ·rename_i ad;rw[if_neg ad];exact aD _ _ _ gh av
  | ret=>exact aD _ _ _ gh av
 | .loop a,x,t,H,Q,cf,ae,ar,aD,h=>by
  simp only[hO]at ae
  obtain⟨fb,aO,rfl⟩:=Option.map_eq_some_iff.1 ae
  simp only[eA]at h
  show Cd P (.loop a) t H Q
  generalize a4:gt t=F at h
  induction h generalizing t with
  | round ai TW ed a0=>
   rename_i F H
   subst a4
   obtain⟨e,t1,H1,al,av⟩:=r6 a t H (fun e t1 H1=>t1.length=n/\nw ai cf e (gt t1) H1) (r5 a fb t H _ _ aO ar (fun e t1 H1 gh av=>⟨gh,av⟩) TW)
   obtain⟨gh,av⟩:=av
   cases e with
   | normal=>
    obtain⟨bk,t2,aR,na,ob⟩:=a0 (gt t1) H1 av t1 gh rfl
    exact⟨bk,t2,aR,.Bf al na,ob⟩
   | exit id=>exact⟨.exit id,t1,H1,.yg al (by simp),aD _ _ _ gh av⟩
   | ret=>exact⟨.ret,t1,H1,.yg al (by simp),aD _ _ _ gh av⟩
 | .region id ops draw,x,t,H,Q,cf,ae,ar,aD,h=>by
  simp only[hO]at ae
  split at ae
  ·split at ae
   ·rename_i ak
    obtain⟨xs,hB,rfl⟩:=Option.map_eq_some_iff.1 ae
    simp only[Bool.and_eq_true]at ak
    exact .inr ⟨ak.1,ak.2.1,ak.2.2,NF ops.toList 0 xs t H [] [] _ _ hB ar (fun t1 H1 gh av=>aD _ _ _ gh av) h⟩
   ·cases ae
  split at ae
  ·rename_i ak
   obtain⟨xs,hB,rfl⟩:=Option.map_eq_some_iff.1 ae
   simp only[Bool.and_eq_true,Bool.or_eq_true,Bool.not_eq_true']at ak
   refine .inl ⟨ak.1,fun aA=>?_,?_⟩
   ·rcases ak.2 with q | q
    ·rw[aA]at q;cases q
    ·exact q
   ·exact NJ ops.toList 0 xs t H _ _ hB ar (fun t1 H1 gh av=>aD _ _ _ gh av) h
  ·cases ae
 | .rangeFunc ..,x,t,H,Q,cf,ae,_,_,_=>by simp[hO]at ae
 | .scope ..,x,t,H,Q,cf,ae,_,_,_=>by simp[hO]at ae
 | .label ..,x,t,H,Q,cf,ae,_,_,_=>by simp[hO]at ae
 | .goto ..,x,t,H,Q,cf,ae,_,_,_=>by simp[hO]at ae
 | .refuse ..,x,t,H,Q,cf,ae,_,_,_=>by simp[hO]at ae
theorem yw{t:List Value}{H:ab}:∀(rs:List ResultVar) (K:List Value->Prop),kh P (gt t) H rs K->px P t H rs K
 | [],K,h=>h
 | .tmp i::rs,K,h=>yw rs _ h
 | .cell a ty::rs,K,h=>by
  simp only[kh]at h
  simp only[px]
  split at h
  ·rename_i b i J
   rw[J]
   simp only
   split at h
   ·rename_i cs gn
    rw[gn]
    simp only
    split at h
    ·rename_i aO
     rw[aO]
     simp only
     split at h
     ·rename_i v an
      rw[an]
      exact yw rs _ h
     ·exact h.elim
    ·rename_i aO
     rw[aO]
     simp only
     split at h
     ·rename_i n aG
      rw[aG]
      exact⟨h.1,yw rs _ h.2⟩
     ·exact h.elim
    ·exact h.elim
   ·exact h.elim
  ·exact h.elim
theorem aP.M1{f:FuncId}{fn:Func}{x:fq}{args:List Value}{H:ab}{Q:Value->ab->Prop}(az:P.funcs[f]?=some fn)(aG:(fn.name== "runtime.NumGoroutine")=false)(ae:comp P fn=some x)(ar:args.length<=fn.ntmps)
  (h:eA P x.code (jx args) H (qb P x.results Q)):∃v H1,y1 P f/\dX P (.call f args H) (.val v H1)/\Q v H1:=by
 unfold comp at ae
 cases ag:fn.body with
 | none=>simp[ag]at ae
 | some c=>
  simp only[ag]at ae
  obtain⟨iH,ij,rfl⟩:=Option.map_eq_some_iff.1 ae
  have a4:gt (args++List.replicate (fn.ntmps-args.length) undef)=jx args:=by
   funext i
   simp only[gt,jx,List.getD_eq_getElem?_getD]
   by_cases ad:i<args.length
   ·rw[List.getElem?_append_left ad]
   ·rw[List.getElem?_append_right (by omega),List.getElem?_eq_none (l:=args) (by omega),List.getElem?_replicate]
    split<;>rfl
  refine aP.RU az aG ag (r5 c iH _ H _ (qb P fn.results.toList Q) ij (by simp;omega) (fun e t1 H1 gh av=>?_) (by rw[a4];exact h))
  cases e with
  | normal=>exact yw _ _ av
  | exit id=>exact av
  | ret=>exact yw _ _ av
theorem aP.WJ{f:FuncId}{fn:Func}{x:fq}{args:List Value}{H:ab}{Q:Value->ab->Prop}(az:P.funcs[f]?=some fn)(aG:(fn.name== "runtime.NumGoroutine")=false)(ae:comp P fn=some x)(ar:args.length<=fn.ntmps)
  (h:eA P x.code (jx args) H (qb P x.results Q)):aP P f args H Q:=by
 obtain⟨v,H1,o,aa,aB⟩:=aP.M1 az aG ae ar h
 exact⟨v,H1,.inl ⟨o,aa⟩,aB⟩
theorem qu.inv{body:Fr->ab->(dH->Fr->ab->Prop)->Prop}{Q:dH->Fr->ab->Prop}(ai:Nat->Fr->ab->Prop)(round:∀n F H,ai n F H->body F H (nw (fun ay H1=>∃m,m<n/\ai m ay H1) Q)):∀(n:Nat) (F:Fr) (H:ab),ai n F H->qu body Q F H:=by
 intro n
 induction n using Nat.strongRecOn with
 | _ n a0=>
  intro F H h
  exact .round _ (round n F H h) fun ay H1 ⟨m,hm,ed⟩=>a0 m hm ay H1 ed
end
def T(i:Nat):Operand:= .tmp i
def ai(n:Int):Operand:= .const (.int .i64 n)
def C(v:Value):Operand:= .const v
def GI(f:Nat):Operand:= .func f
theorem nQ(F:Fr)(i:Nat):aq F (T i)=F i:=rfl
theorem JT(F:Fr)(n:Int):aq F (ai n)= .int .i64 n:=rfl
theorem R2(F:Fr)(v:Value):aq F (C v)=v:=rfl
theorem R3(F:Fr)(f:Nat):aq F (GI f)= .func (.func f) #[] #[]:=rfl
def aL(j:Nat)(w:Bool)(x:bF):bF:={x with g:=some (j,w)}
def bh(x:bF):bF:={x with b:=false}
def I(d:Nat)(x:Operand):bF:=⟨true,none,some d,.move x⟩
def aj(d:Nat)(x:Operand):bF:=⟨true,none,some d,.assign x⟩
def cO(d:Nat)(c a b:Operand):bF:=⟨true,none,some d,.pick c a b⟩
def bL(d e:Nat):bF:=⟨true,none,some d,.alloc e⟩
def cm(d e:Nat)(x:Operand):bF:=⟨true,none,some d,.box e x⟩
def aF(d t:Nat)(x:Operand):bF:=⟨true,none,some d,.load t x⟩
def st(t:Nat)(x y:Operand):bF:=⟨true,none,none,.store t x y⟩
def iW(d:Nat)(x:Operand):bF:=⟨true,none,some d,.nilCheck x⟩
def bi(d:Nat)(op:BinOp)(t:Nat)(x y:Operand):bF:=⟨true,none,some d,.binOp op t x y 0⟩
def un(d:Nat)(op:UnOp)(x:Operand):bF:=⟨true,none,some d,.unOp op 0 x⟩
def ch(d s t:Nat)(x:Operand):bF:=⟨true,none,some d,.convert s t x⟩
def mI(d t:Nat)(x:Operand):bF:=⟨true,none,some d,.makeInterface t x⟩
def vn(d:Nat)(fn:Fn)(a b:Array Operand):bF:=⟨true,none,some d,.makeFunc fn a b⟩
def a9(d s:Nat)(x:Operand)(f:Nat):bF:=⟨true,none,some d,.fieldAddr s x f⟩
def mZ(d s:Nat)(x:Operand)(f:Nat):bF:=⟨true,none,some d,.field s x f⟩
def bn(d t:Nat)(x i:Operand):bF:=⟨true,none,some d,.indexAddr t x i⟩
def ek(d t:Nat)(x i:Operand):bF:=⟨true,none,some d,.index t x i⟩
def ex(d:Nat)(x:Operand)(i:Nat):bF:=⟨true,none,some d,.extract x i⟩
def dC(d t:Nat)(a6:List (Nat×Operand)):bF:=⟨true,none,some d,.build t a6.toArray⟩
def eF(d t n:Nat)(a6:List (Nat×Operand)):bF:=⟨true,none,some d,.buildSlice t n a6.toArray⟩
def fG(d t:Nat)(x:Operand)(bb ad fk:Option Operand):bF:=⟨true,none,some d,.slice t x bb ad fk⟩
def ms(d t:Nat)(x y:Operand):bF:=⟨true,none,some d,.makeSlice t x y⟩
def bA(d t:Nat)(x:Operand):bF:=⟨true,none,some d,.call {callee:= .builtin .len,args:= #[x],argTypes:= #[t]}⟩
def ap(d bY cJ:Nat)(s x:Operand):bF:=⟨true,none,some d,.call {callee:= .builtin .append,args:= #[s,x],argTypes:= #[bY,cJ]}⟩
def cp(d h5 bY:Nat)(s x:Operand):bF:=⟨true,none,some d,.call {callee:= .builtin .copy,args:= #[s,x],argTypes:= #[h5,bY]}⟩
def vo(d:Nat)(bY:List Nat)(x y:Operand):bF:=⟨true,none,some d,.call {callee:= .builtin .max,args:= #[x,y],argTypes:=bY.toArray}⟩
def yn(d:Nat)(bY:List Nat)(x y:Operand):bF:=⟨true,none,some d,.call {callee:= .builtin .min,args:= #[x,y],argTypes:=bY.toArray}⟩
def aS(d f:Nat)(args:List Operand):bF:=⟨true,none,some d,.call {callee:= .value (.func f),args:=args.toArray,argTypes:= #[]}⟩
def zw(f:Nat)(args:List Operand):bF:=⟨true,none,none,.call {callee:= .value (.func f),args:=args.toArray,argTypes:= #[]}⟩
def nO(d:Nat)(x:Operand)(args:List Operand):bF:=⟨true,none,some d,.call {callee:= .value x,args:=args.toArray,argTypes:= #[]}⟩
def l9(cs:List Value)(i:Nat):List Value->List Value
 | [v]=>cs.set i v
 | aE=>dg cs i aE
theorem GA{cs aE:List Value}{i:Nat}(h:i+aE.length<=cs.length):l9 cs i aE=dg cs i aE:=by
 unfold l9
 split
 ·exact(aaG _ (by have:=h;simp at this;omega)).symm
 ·rfl
def fin(x:Option (Value×ab))(K:Value->ab->Prop):Prop:=match x with
 | some p=>K p.1 p.2
 | none=>False
theorem r8(c:Prop)[Decidable c](v:Value)(H:ab)(K:Value->ab->Prop):fin (if c then some (v,H)else none) K=(c/\K v H):=by
 by_cases h:c
 ·rw[if_pos h];simp[fin,h]
 ·rw[if_neg h];simp[fin,h]
theorem tU(x:Option Value)(H:ab)(K:Value->ab->Prop):fin (x.map fun v=>(v,H)) K=match x with | some v=>K v H | none=>False:=by cases x<;>rfl
def isVal:Op->Bool
 | .call {callee:= .value _,.. }=>true
 | _=>false
section
variable {P:Program} {r:List bF} {F:Fr} {H:ab} {Q:Fr->ab->Prop}
theorem aet{b:Bool}{K:Value->ab->Prop}(op:Op)(h:(isVal op || jt op || hT op)=false):gm P b F H K op=fin (b5 P (aq F) H op) K:=by
 have main:(match b5 P (aq F) H op with
   | some (v,H1)=>(hT op=true->b=true)/\K v H1
   | none=>jt op=true/\∃v H1,nI P (aq F) H op v H1/\(b=true\/Ext H H1)/\K v H1)=fin (b5 P (aq F) H op) K:=by
  simp only[Bool.or_eq_false_iff]at h
  cases b5 P (aq F) H op with
  | none=>simp[fin,h]
  | some p=>simp[fin,h]
 cases op<;>try exact main
 rename_i c
 obtain⟨callee,args,k1⟩:=c
 cases callee<;>try exact main
 simp[isVal]at h
theorem jw{b:Bool}{d:Option Nat}(op:Op)(h:(isVal op || jt op || hT op)=false):bj P (⟨b,none,d,op⟩::r) F H Q=fin (b5 P (aq F) H op) (fun v H1=>bj P r (fW F d v) H1 Q):=by
 simp only[bj]
 exact aet op h
theorem aeM(d:Nat)(x:Operand):bj P (I d x::r) F H Q=bj P r (a1 F d (aq F x)) H Q:=by
 rw[I,jw _ rfl];rfl
theorem aeS(d:Nat)(x:Operand):bj P (aj d x::r) F H Q=bj P r (a1 F d (aq F x)) H Q:=by
 rw[aj,jw _ rfl];rfl
theorem aeR(d:Nat)(c a b:Operand):bj P (cO d c a b::r) F H Q=match aq F c with
  | .bool t=>bj P r (a1 F d (if t=true then aq F a else aq F b)) H Q
  | _=>False:=by
 rw[cO,jw _ rfl];simp only[b5];cases aq F c<;>rfl
theorem PK(d e:Nat):bj P (bL d e::r) F H Q=match dA P e with
  | some z=>(flat z=true/\(bp P e).isSome=true)/\bj P r (a1 F d (.pointer (some ⟨H.length,0,none⟩))) (H++[.own e false z.cells.toList]) Q
  | none=>False:=by
 rw[bL,jw _ rfl];simp only[b5]
 cases dA P e with
 | none=>rfl
 | some z=>simp only[r8];rfl
theorem aew(d e:Nat)(x:Operand):bj P (cm d e x::r) F H Q=((bp P e).isSome=true/\bj P r (a1 F d (.pointer (some ⟨H.length,0,none⟩))) (H++[.own e false (aq F x).cells.toList]) Q):=by
 rw[cm,jw _ rfl];simp only[b5,r8];rfl
theorem aeH(d t:Nat)(x:Operand):bj P (aF d t x::r) F H Q=match aq F x with
  | .pointer (some ⟨b,i,none⟩)=>(match(H[b]?).bind bK.cells? with
   | some cs=>(match dq P t with
    | some false=>(match cs[i]? with
     | some v=>bj P r (a1 F d v) H Q
     | none=>False)
    | some true=>(match bp P t with
     | some n=>i+n<=cs.length/\bj P r (a1 F d (.agg ((cs.drop i).take n).toArray)) H Q
     | none=>False)
    | none=>False)
   | none=>False)
  | _=>False:=by
 rw[aF,jw _ rfl];simp only[b5,iL]
 cases aq F x<;>try rfl
 rename_i a
 cases a with
 | none=>rfl
 | some a=>
  obtain⟨b,i,c⟩:=a
  cases c<;>try rfl
  simp only
  cases(H[b]?).bind bK.cells? with
  | none=>rfl
  | some cs=>
   simp only
   cases dq P t with
   | none=>rfl
   | some g=>
    cases g with
    | false=>simp only[tU];rfl
    | true=>
     simp only
     cases bp P t with
     | none=>rfl
     | some n=>simp only[r8];rfl
theorem aeT(b:Bool)(t:Nat)(x y:Operand):bj P (⟨b,none,none,.store t x y⟩::r) F H Q=match aq F x with
  | .pointer (some ⟨r3,i,none⟩)=>(match H[r3]? with
   | some (.own e l cs)=>(bp P t=some (aq F y).cells.size/\i+(aq F y).cells.size<=cs.length/\((aq F y).cells.toList.all (·.oneCell'))=true)/\b=true/\bj P r F (H.set r3 (.own e l (l9 cs i (aq F y).cells.toList))) Q
   | _=>False)
  | _=>False:=by
 simp only[bj,gm,b5]
 have no:∀K:Value->ab->Prop,(match(none:Option (Value×ab))with
   | some (v,H1)=>(hT (.store t x y)=true->b=true)/\K v H1
   | none=>jt (.store t x y)=true/\∃v H1,nI P (aq F) H (.store t x y) v H1/\(b=true\/Ext H H1)/\K v H1)=False:=fun K=>by simp[jt]
 cases aq F x<;>try exact no _
 rename_i a
 cases a with
 | none=>exact no _
 | some a=>
  obtain⟨r3,i,c⟩:=a
  cases c<;>try exact no _
  simp only
  cases H[r3]? with
  | none=>exact no _
  | some X=>
   cases X<;>try exact no _
   rename_i e l cs
   simp only
   by_cases ae:bp P t=some (aq F y).cells.size/\i+(aq F y).cells.size<=cs.length/\((aq F y).cells.toList.all (·.oneCell'))=true
   ·rw[if_pos ae,GA (by simpa using ae.2.1)]
    simp only[hT,true_implies,fW]
    exact propext ⟨fun h=>⟨ae,h.1,h.2⟩,fun h=>h.2⟩
   ·rw[if_neg ae]
    exact propext ⟨fun h=>by simp[jt]at h,fun h=>(ae h.1).elim⟩
theorem aeU(t:Nat)(x y:Operand):bj P (st t x y::r) F H Q=match aq F x with
  | .pointer (some ⟨r3,i,none⟩)=>(match H[r3]? with
   | some (.own e l cs)=>(bp P t=some (aq F y).cells.size/\i+(aq F y).cells.size<=cs.length/\((aq F y).cells.toList.all (·.oneCell'))=true)/\bj P r F (H.set r3 (.own e l (l9 cs i (aq F y).cells.toList))) Q
   | _=>False)
  | _=>False:=by
 rw[st,aeT]
 simp only[true_and]
theorem aeP(d:Nat)(x:Operand):bj P (iW d x::r) F H Q=match aq F x with
  | .pointer (some a)=>bj P r (a1 F d (.pointer (some a))) H Q
  | _=>False:=by
 rw[iW,jw _ rfl];simp only[b5]
 cases aq F x<;>try rfl
 rename_i a;cases a<;>rfl
theorem aev(d:Nat)(op:BinOp)(t:Nat)(x y:Operand):bj P (bi d op t x y::r) F H Q=match dZ P op t (aq F x) (aq F y)with
  | some v=>bj P r (a1 F d v) H Q
  | none=>False:=by
 rw[bi,jw _ rfl];simp only[b5,tU];rfl
theorem aeV(d:Nat)(op:UnOp)(x:Operand):bj P (un d op x::r) F H Q=match pf op (aq F x)with
  | some v=>bj P r (a1 F d v) H Q
  | none=>False:=by
 rw[un,jw _ rfl];simp only[b5,tU];rfl
theorem aeC(d s:Nat)(x:Operand)(f:Nat):bj P (a9 d s x f::r) F H Q=match aq F x with
  | .pointer (some ⟨b,i,none⟩)=>(match fQ P s f with
   | some off=>bj P r (a1 F d (.pointer (some ⟨b,i+off,none⟩))) H Q
   | none=>False)
  | _=>False:=by
 rw[a9,jw _ rfl];simp only[b5]
 cases aq F x<;>try rfl
 rename_i a
 cases a with
 | none=>rfl
 | some a=>
  obtain⟨b,i,c⟩:=a
  cases c<;>try rfl
  simp only
  cases fQ P s f<;>rfl
theorem aeE(d s:Nat)(x:Operand)(f:Nat):bj P (mZ d s x f::r) F H Q=match aq F x with
  | .agg cs=>(match oO P s f with
   | some c=>(match pC cs c with
    | some v=>bj P r (a1 F d v) H Q
    | none=>False)
   | none=>False)
  | _=>False:=by
 rw[mZ,jw _ rfl];simp only[b5]
 cases aq F x<;>try rfl
 simp only
 cases oO P s f with
 | none=>rfl
 | some c=>simp only[tU];rfl
theorem aeF(d t:Nat)(x i:Operand):bj P (bn d t x i::r) F H Q=match aq F x,aq F i with
  | .slice (some ⟨b,R,none⟩) len _,.int _ n=>(match e_ P t with
   | some e=>(match bp P e with
    | some U=>(0<=n/\n<len)/\bj P r (a1 F d (.pointer (some ⟨b,R+n.toNat*U,none⟩))) H Q
    | none=>False)
   | none=>False)
  | _,_=>False:=by
 rw[bn,jw _ rfl];simp only[b5]
 cases aq F x<;>try rfl
 rename_i a len cap
 cases a with
 | none=>rfl
 | some a=>
  obtain⟨b,R,c⟩:=a
  cases c<;>try rfl
  cases aq F i<;>try rfl
  simp only
  cases e_ P t with
  | none=>rfl
  | some e=>
   simp only
   cases bp P e with
   | none=>rfl
   | some n=>simp only[r8];rfl
theorem aeG(d t:Nat)(x i:Operand):bj P (ek d t x i::r) F H Q=match aq F x,aq F i with
  | .string s,.int _ n=>(iE P t=true/\0<=n/\n<s.size)/\bj P r (a1 F d (.int .u8 ((s.data.getD n.toNat 0).toNat:Int))) H Q
  | _,_=>False:=by
 rw[ek,jw _ rfl];simp only[b5]
 cases aq F x<;>try rfl
 cases aq F i<;>try rfl
 simp only[r8];rfl
theorem aeB(d:Nat)(x:Operand)(i:Nat):bj P (ex d x i::r) F H Q=match aq F x with
  | .tuple aE=>(match aE[i]? with
   | some v=>bj P r (a1 F d v) H Q
   | none=>False)
  | _=>False:=by
 rw[ex,jw _ rfl];simp only[b5]
 cases aq F x<;>try rfl
 simp only[tU];rfl
theorem aeK(d t:Nat)(x:Operand):bj P (mI d t x::r) F H Q=(P.concrete t=true/\bj P r (a1 F d (.iface t (aq F x))) H Q):=by
 rw[mI,jw _ rfl];simp only[b5,r8];rfl
theorem aeJ(d:Nat)(fn:Fn)(a b:Array Operand):bj P (vn d fn a b::r) F H Q=bj P r (a1 F d (.func fn (a.map (aq F)) (b.map (aq F)))) H Q:=by
 rw[vn,jw _ rfl];rfl
def BF(P:Program)(F:Fr)(t:Nat)(a6:List (Nat×Operand)):Option Value:=match dA P t with
 | some z=>if flat z=true then dy P (Instr.build t (a6.toArray.map fun p=>(p.1,aq F p.2)))else none
 | none=>none
theorem aeu(d t:Nat)(a6:List (Nat×Operand)):bj P (dC d t a6::r) F H Q=match BF P F t a6 with
  | some v=>bj P r (a1 F d v) H Q
  | none=>False:=by
 rw[dC,jw _ rfl];simp only[b5,BF]
 cases dA P t with
 | none=>rfl
 | some z=>
  simp only
  split
  ·simp only[tU];rfl
  ·rfl
theorem aeI(d t:Nat)(x:Operand):bj P (bA d t x::r) F H Q=match aq F x with
  | .slice _ n _=>(match e_ P t with
   | some _=>bj P r (a1 F d (.int .i64 n)) H Q
   | none=>False)
  | .string s=>iE P t=true/\bj P r (a1 F d (.int .i64 s.size)) H Q
  | _=>False:=by
 rw[bA,jw _ rfl];simp only[b5,rB]
 cases aq F x<;>try rfl
 ·simp only[r8];rfl
 ·simp only;cases e_ P t<;>rfl
theorem aeO(d:Nat)(bY:List Nat)(x y:Operand):bj P (vo d bY x y::r) F H Q=match aq F x,aq F y with
  | .int k a,.int _ b=>bj P r (a1 F d (.int k (if b>a then b else a))) H Q
  | _,_=>False:=by
 rw[vo,jw _ rfl];simp only[b5,rB]
 cases aq F x<;>try rfl
 cases aq F y<;>rfl
theorem aeL(d:Nat)(bY:List Nat)(x y:Operand):bj P (yn d bY x y::r) F H Q=match aq F x,aq F y with
  | .int k a,.int _ b=>bj P r (a1 F d (.int k (if b<a then b else a))) H Q
  | _,_=>False:=by
 rw[yn,jw _ rfl];simp only[b5,rB]
 cases aq F x<;>try rfl
 cases aq F y<;>rfl
theorem GC(b:Bool)(d:Option Nat)(f:Nat)(args:Array Operand):bj P (⟨b,none,d,.call {callee:= .value (.func f),args:=args,argTypes:= #[]}⟩::r) F H Q=aP P f (args.toList.map (aq F)) H (fun v H1=>(b=true\/Ext H H1)/\bj P r (fW F d v) H1 Q):=by
 simp only[bj,gm,aq]
 simp
theorem aex(d f:Nat)(args:List Operand):bj P (aS d f args::r) F H Q=aP P f (args.map (aq F)) H (fun v H1=>bj P r (a1 F d v) H1 Q):=by
 rw[aS,GC];simp[fW]
theorem aey(f:Nat)(args:List Operand):bj P (zw f args::r) F H Q=aP P f (args.map (aq F)) H (fun v H1=>bj P r F H1 Q):=by
 rw[zw,GC];simp[fW]
theorem aeQ(d f:Nat)(args:List Operand):bj P (bh (aS d f args)::r) F H Q=aP P f (args.map (aq F)) H (fun v H1=>Ext H H1/\bj P r (a1 F d v) H1 Q):=by
 simp only[bh,aS];rw[GC];simp[fW]
theorem aez(d:Nat)(x:Operand)(args:List Operand):bj P (nO d x args::r) F H Q=match aq F x with
  | .func (.func g) first cap=>aP P g (first.toList++args.map (aq F)++cap.toList) H (fun v H1=>bj P r (a1 F d v) H1 Q)
  | _=>False:=by
 simp only[bj,nO,gm]
 cases aq F x<;>try rfl
 rename_i fn a b
 cases fn<;>simp[fW]
theorem aeA(d s t:Nat)(x:Operand){jL:IntKind}{n:Int}(h:aq F x= .int jL n){l5 k:IntKind}(ao:j6 P s=some l5)(bO:j6 P t=some k):bj P (ch d s t x::r) F H Q=bj P r (a1 F d (.int k (k.wrap n))) H Q:=by
 simp[bj,ch,gm,b5,hT,fW,h,ao,bO]
theorem aeN{b:Bool}{d:Option Nat}{op:Op}(an:isVal op=false)(hm:jt op=true)(aG:b5 P (aq F) H op=none){v:Value}{H1:ab}(av:nI P (aq F) H op v H1)(ag:b=true\/Ext H H1)(h:bj P r (fW F d v) H1 Q):bj P (⟨b,none,d,op⟩::r) F H Q:=by
 simp only[bj]
 have main:(match b5 P (aq F) H op with
   | some (v,H1)=>(hT op=true->b=true)/\bj P r (fW F d v) H1 Q
   | none=>jt op=true/\∃v H1,nI P (aq F) H op v H1/\(b=true\/Ext H H1)/\bj P r (fW F d v) H1 Q):=by
  rw[aG]
  exact⟨hm,v,H1,av,ag,h⟩
 cases op<;>try exact main
 rename_i c
 obtain⟨callee,args,k1⟩:=c
 cases callee<;>try exact main
 simp[isVal]at an
end
def oy:List Value->Nat->List Value->List Value
 | cs,_,[]=>cs
 | cs,i,v::aE=>oy (cs.set i v) (i+1) aE
theorem JY(off:Nat):∀(aE:List Value) (k:Nat) (cs:Array Value),((aE.zipIdx k).foldl (fun cs (qF:Value×Nat)=>cs.setIfInBounds (off+qF.2) qF.1) cs).toList=oy cs.toList (off+k) aE
 | [],k,cs=>rfl
 | v::aE,k,cs=>by
  simp only[List.zipIdx_cons,List.foldl_cons,oy]
  rw[JY off aE (k+1) _]
  simp[Nat.add_assoc]
def jd(place:Nat->Option (Nat×Nat))(cs:List Value):List (Nat×Value)->Option (List Value)
 | []=>some cs
 | (i,v)::rest=>match place i with
  | none=>none
  | some (off,size)=>if v.cells.toList.length=size/\off+size<=cs.length then jd place (oy cs off v.cells.toList) rest else none
def kn(pl:List (Nat×Nat))(cs:List Value)(parts:List (Nat×Value)):Option (List Value):=jd (fun i=>pl[i]?) cs parts
theorem fill_eq(place:Nat->Option (Nat×Nat)):∀(parts:List (Nat×Value)) (cs:Array Value),Instr.fill place cs parts=(jd place cs.toList parts).map (·.toArray)
 | [],cs=>by simp[Instr.fill,jd]
 | (i,v)::rest,cs=>by
  simp only[jd,Instr.fill]
  cases place i with
  | none=>rfl
  | some os=>
   obtain⟨off,size⟩:=os
   simp only
   have e:(v.cells.zipIdx.foldl (fun cs (x:Value×Nat)=>cs.setIfInBounds (off+x.2) x.1) cs).toList=oy cs.toList off v.cells.toList:=by
    have:=JY off v.cells.toList 0 cs
    rw[<-Array.foldl_toList,Array.toList_zipIdx]
    simpa using this
   by_cases ae:v.cells.toList.length=size/\off+size<=cs.toList.length
   ·rw[if_pos ae]
    have o:v.cells.size=size:=by simpa using ae.1
    have aa:off+size<=cs.size:=by simpa using ae.2
    rw[if_neg (by simp[o];omega),fill_eq place rest,<-e]
   ·rw[if_neg ae]
    have:(decide (v.cells.size≠size) || decide (off+v.cells.size>cs.size))=true:=by
     by_cases o:v.cells.size=size
     ·have aa:¬(off+size<=cs.size):=fun h=>ae ⟨by simpa using o,by simpa using h⟩
      simp[o];omega
     ·simp[o]
    rw[if_pos this]
    rfl
def lo(P:Program)(t:TypeId):Option (List (Nat×Nat)):=match P.underlying t with
 | some (.struct jT)=>jT.toList.mapM fun f=>(bp P f.type).map fun n=>(f.offset,n)
 | _=>none
theorem N0{P:Program}{α β:Type}(f:α->Sem β)(g:α->Option β)(h:∀a,dy P (f a)=g a):∀l:List α,dy P (l.mapM f)=l.mapM g
 | []=>by simp[e9]
 | a::l=>by
  simp only[List.mapM_cons,fD,e9,h,N0 f g h l]
  rfl
theorem aaf{P:Program}{F:Fr}{t:Nat}{a6:List (Nat×Operand)}{z:Value}{pl:List (Nat×Nat)}(aN:dA P t=some z)(dU:flat z=true)(a2:lo P t=some pl):
  BF P F t a6=(kn pl z.cells.toList (a6.map fun p=>(p.1,aq F p.2))).map fun out=> .agg out.toArray:=by
 unfold lo at a2
 split at a2
 ·rename_i jT hu
  simp only[BF,aN,dU,if_true,Instr.build,fD,Fw,Option.bind_some,ov,hu]
  have hm:dy P (jT.mapM fun f=>do pure (f.offset,<-sizeOf f.type))=some pl.toArray:=by
   rw[Array.mapM_eq_mapM_toList,pb,N0 _ (fun f=>(bp P f.type).map fun n=>(f.offset,n)) (fun f=>by
    simp only[fD,e9,ys]
    cases bp P f.type<;>rfl),a2]
   rfl
  rw[hm]
  simp only[Option.bind_some]
  have:=fill_eq (fun x=>pl.toArray[x]?) (a6.map fun p=>(p.1,aq F p.2)) z.cells
  rw[show(fun x=>pl.toArray[x]?)=fun x=>pl[x]? from funext fun x=>by simp]at this
  have ar:(a6.toArray.map fun p=>(p.1,aq F p.2)).toList=a6.map fun p=>(p.1,aq F p.2):=by simp
  rw[ar,show(fun x=>pl.toArray[x]?)=fun x=>pl[x]? from funext fun x=>by simp,this]
  unfold kn
  cases jd (fun i=>pl[i]?) z.cells.toList (a6.map fun p=>(p.1,aq F p.2))<;>rfl
 ·cases a2
@[simp] theorem ag4(pl:List (Nat×Nat))(cs:List Value):kn pl cs []=some cs:=rfl
@[simp] theorem ag3(pl:List (Nat×Nat))(cs:List Value)(i:Nat)(v:Value)(rest:List (Nat×Value)):kn pl cs ((i,v)::rest)=match pl[i]? with
  | none=>none
  | some (off,size)=>if v.cells.toList.length=size/\off+size<=cs.length then kn pl (oy cs off v.cells.toList) rest else none:=rfl
attribute [simp] oy
def e5{α:Type}(R:Option α)(K:α->Prop):Prop:=match R with
 | some v=>K v
 | none=>False
def gv(c:Prop)(K:Prop):Prop:=c/\K
def hY(b:Bool)(dk cV:Prop):Prop:=match b with
 | true=>dk
 | false=>cV
def GQ(v:Value)(K:Addr->Prop):Prop:=match v with
 | .pointer (some a)=>K a
 | _=>False
def za(v:Value)(K:Bool->Prop):Prop:=match v with
 | .bool b=>K b
 | _=>False
def pv(v:Value)(K:IntKind->Int->Prop):Prop:=match v with
 | .int k n=>K k n
 | _=>False
def rW(v:Value)(K:Nat->Nat->Prop):Prop:=match v with
 | .pointer (some ⟨b,i,none⟩)=>K b i
 | _=>False
def zd(v:Value)(K:Option Addr->Nat->Nat->Prop):Prop:=match v with
 | .slice a n c=>K a n c
 | _=>False
def y_(a:Option Addr)(K:Nat->Nat->Prop):Prop:=match a with
 | some ⟨b,i,none⟩=>K b i
 | _=>False
def GW(v:Value)(K:ByteArray->Prop):Prop:=match v with
 | .string s=>K s
 | _=>False
def nJ(v:Value)(K:Array Value->Prop):Prop:=match v with
 | .agg cs=>K cs
 | _=>False
def Co(v:Value)(K:Array Value->Prop):Prop:=match v with
 | .tuple cs=>K cs
 | _=>False
def GO(v:Value)(K:Nat->Array Value->Array Value->Prop):Prop:=match v with
 | .func (.func g) a b=>K g a b
 | _=>False
def GS(x:Option bK)(K:TypeId->Bool->List Value->Prop):Prop:=match x with
 | some (.own e l cs)=>K e l cs
 | _=>False
section
theorem PS(K:Prop):gv True K=K:=by simp[gv]
theorem hY.mk{b:Bool}{dk cV:Prop}(o:b=true->dk)(aa:b=false->cV):hY b dk cV:=by
 cases b
 ·exact aa rfl
 ·exact o rfl
theorem hY.b6{p:Prop}[Decidable p]{dk cV:Prop}(o:p->dk)(aa:¬p->cV):hY (decide p) dk cV:=by
 by_cases h:p
 ·rw[decide_eq_true h];exact o h
 ·rw[decide_eq_false h];exact aa h
@[simp] theorem akl(F:Fr)(d:Nat)(v:Value)(i:Nat):a1 F d v i=if i=d then v else F i:=rfl
attribute [simp] nQ JT R2 R3
@[simp] theorem agb(b:Bool):hr (.bool b)=some b:=rfl
@[simp] theorem afI(a:Value)(l:List Value):jx (a::l) 0=a:=rfl
@[simp] theorem afJ(a b:Value)(l:List Value):jx (a::b::l) 1=b:=rfl
@[simp] theorem afK(a b c:Value)(l:List Value):jx (a::b::c::l) 2=c:=rfl
@[simp] theorem afL(a b c d:Value)(l:List Value):jx (a::b::c::d::l) 3=d:=rfl
@[simp] theorem afM(a b c d e:Value)(l:List Value):jx (a::b::c::d::e::l) 4=e:=rfl
@[simp] theorem afN(a b c d e f:Value)(l:List Value):jx (a::b::c::d::e::f::l) 5=f:=rfl
@[simp] theorem afO(a b c d e f g:Value)(l:List Value):jx (a::b::c::d::e::f::g::l) 6=g:=rfl
theorem b7{n:Int}(o: -9223372036854775808<=n)(aa:n<9223372036854775808):IntKind.wrap .i64 n=n:=by
 simp only[IntKind.wrap,IntKind.bits,IntKind.signed]
 simp
 split<;>omega
theorem gk{n:Int}(o:0<=n)(aa:n<18446744073709551616):IntKind.wrap .u64 n=n:=by
 simp only[IntKind.wrap,IntKind.bits,IntKind.signed]
 simp
 omega
theorem l_{n:Int}(o:0<=n)(aa:n<4294967296):IntKind.wrap .u32 n=n:=by
 simp only[IntKind.wrap,IntKind.bits,IntKind.signed]
 simp
 omega
theorem B_{n:Int}(o:0<=n)(aa:n<256):IntKind.wrap .u8 n=n:=by
 simp only[IntKind.wrap,IntKind.bits,IntKind.signed]
 simp
 omega
theorem oA(n:Int):IntKind.wrap .u32 n=n % 4294967296:=by
 simp only[IntKind.wrap,IntKind.bits,IntKind.signed]
 simp
theorem PE(n:Int):IntKind.wrap .u64 n=n % 18446744073709551616:=by
 simp only[IntKind.wrap,IntKind.bits,IntKind.signed]
 simp
@[simp] theorem af6:IntKind.bits .u64=64:=rfl
@[simp] theorem af5:IntKind.bits .u32=32:=rfl
@[simp] theorem af4:IntKind.bits .i64=64:=rfl
@[simp] theorem af7:IntKind.bits .u8=8:=rfl
@[simp] theorem ai9:IntKind.signed .u64=false:=rfl
@[simp] theorem ai8:IntKind.signed .u32=false:=rfl
@[simp] theorem aja:IntKind.signed .u8=false:=rfl
@[simp] theorem ai7:IntKind.signed .i64=true:=rfl
theorem mX(a:Int){b:Int}(h:0<=b):a.fdiv b=a/b:=Int.fdiv_eq_ediv_of_nonneg a h
section
variable {P:Program} {t:Nat} {k cb:IntKind} {a b:Int}
@[simp] theorem aaa:dZ P .add t (.int k a) (.int k b)=some (.int k (k.wrap (a+b))):=by simp[dZ,kk]
@[simp] theorem ai4:dZ P .sub t (.int k a) (.int k b)=some (.int k (k.wrap (a-b))):=by simp[dZ,kk]
@[simp] theorem aiS:dZ P .mul t (.int k a) (.int k b)=some (.int k (k.wrap (a*b))):=by simp[dZ,kk]
@[simp] theorem aiO:dZ P .eql t (.int k a) (.int k b)=some (.bool (decide (a=b))):=by simp[dZ,kk];rfl
@[simp] theorem aiT:dZ P .neq t (.int k a) (.int k b)=some (.bool (decide (a≠b))):=by
 simp[dZ,kk]
 by_cases h:a=b<;>simp[h]
@[simp] theorem aac:dZ P .lss t (.int k a) (.int k b)=some (.bool (decide (a<b))):=by simp[dZ,kk]
@[simp] theorem aiR:dZ P .leq t (.int k a) (.int k b)=some (.bool (decide (a<=b))):=by simp[dZ,kk]
@[simp] theorem aiQ:dZ P .gtr t (.int k a) (.int k b)=some (.bool (decide (b<a))):=by simp[dZ,kk]
@[simp] theorem aiP:dZ P .geq t (.int k a) (.int k b)=some (.bool (decide (b<=a))):=by simp[dZ,kk]
@[simp] theorem aiX:dZ P .quo t (.int k a) (.int k b)=if b=0 then none else some (.int k (k.wrap (a.tdiv b))):=by simp[dZ,kk]
@[simp] theorem aiY:dZ P .rem t (.int k a) (.int k b)=if b=0 then none else some (.int k (a.tmod b)):=by simp[dZ,kk]
@[simp] theorem Oq:dZ P .or t (.int k a) (.int k b)=some (.int k (k.wrap (BitVec.ofInt k.bits a ||| BitVec.ofInt k.bits b).toNat)):=by simp[dZ,kk]
@[simp] theorem aab:dZ P .and t (.int k a) (.int k b)=some (.int k (k.wrap (BitVec.ofInt k.bits a&&&BitVec.ofInt k.bits b).toNat)):=by simp[dZ,kk]
@[simp] theorem ai5:dZ P .xor t (.int k a) (.int k b)=some (.int k (k.wrap (BitVec.ofInt k.bits a^^^BitVec.ofInt k.bits b).toNat)):=by simp[dZ,kk]
@[simp] theorem aae:dZ P .shl t (.int k a) (.int cb b)=if b<0 then none else some (.int k (k.wrap (a*2^(min b.toNat k.bits)))):=by simp[dZ,wj]
@[simp] theorem ai2:dZ P .shr t (.int k a) (.int cb b)=if b<0 then none else some (.int k (a.fdiv (2^(min b.toNat k.bits)))):=by simp[dZ,wj]
@[simp] theorem ai0{x y:ByteArray}:dZ P .eql t (.string x) (.string y)=some (.bool (x.toList==y.toList)):=by simp[dZ,tF]
@[simp] theorem ai3{x y:ByteArray}:dZ P .neq t (.string x) (.string y)=some (.bool !(x.toList==y.toList)):=by simp[dZ,tF]
@[simp] theorem aiZ{x y:ByteArray}:dZ P .add t (.string x) (.string y)=if x.size+y.size<=9223372036854775807 then some (.string (x++y))else none:=by simp[dZ,tF]
@[simp] theorem aiM{x y:Bool}:dZ P .eql t (.bool x) (.bool y)=if tH P t=true then some (.bool (x==y))else none:=by simp[dZ]
@[simp] theorem aiN{x y:Bool}:dZ P .neq t (.bool x) (.bool y)=if tH P t=true then some (.bool (!(x==y)))else none:=by simp[dZ]
@[simp] theorem aiU{x:Option Addr}{n c:Nat}:dZ P .eql t (.slice x n c) (.slice none 0 0)=(e_ P t).map fun _=> .bool x.isNone:=by simp only[dZ];cases e_ P t<;>rfl
@[simp] theorem ajb{x:Int}:pf .neg (.int k x)=some (.int k (k.wrap (0-x))):=rfl
@[simp] theorem ajc{x:Bool}:pf .not (.bool x)=some (.bool !x):=rfl
@[simp] theorem ajd{x:Int}:pf .xor (.int k x)=some (.int k (k.wrap (BitVec.ofInt k.bits (if k.signed then-1 else k.max)^^^BitVec.ofInt k.bits x).toNat)):=rfl
end
section
variable {P:Program} {r:List bF} {F:Fr} {H:ab} {Q:Fr->ab->Prop}
def hX(x:bF):bF:={x with g:=none}
def nE(R:Option Bool)(w:Bool)(dk cV:Prop):Prop:=if R=some w then dk else cV
theorem PX(b:Bool)(dk cV:Prop):nE (some b) true dk cV=hY b dk cV:=by cases b<;>simp[nE,hY]
theorem PW(b:Bool)(dk cV:Prop):nE (some b) false dk cV=hY b cV dk:=by cases b<;>simp[nE,hY]
theorem aec(j:Nat)(w:Bool)(x:bF):bj P (aL j w x::r) F H Q=nE (hr (F j)) w (bj P (hX x::r) F H Q) (bj P r (fW F x.d undef) H Q):=rfl
@[simp] theorem ag5(d:Nat)(v:Value):fW F (some d) v=a1 F d v:=rfl
@[simp] theorem akf(x:bF):hX (bh x)=bh (hX x):=rfl
@[simp] theorem agS(x:bF):(bh x).d=x.d:=rfl
@[simp] theorem ake(d:Nat)(x:Operand):hX (I d x)=I d x:=rfl
@[simp] theorem agR(d:Nat)(x:Operand):(I d x).d=some d:=rfl
@[simp] theorem aki(d:Nat)(x:Operand):hX (aj d x)=aj d x:=rfl
@[simp] theorem agV(d:Nat)(x:Operand):(aj d x).d=some d:=rfl
@[simp] theorem akh(d:Nat)(c a b:Operand):hX (cO d c a b)=cO d c a b:=rfl
@[simp] theorem agU(d:Nat)(c a b:Operand):(cO d c a b).d=some d:=rfl
@[simp] theorem aj0(d e:Nat):hX (bL d e)=bL d e:=rfl
@[simp] theorem agC(d e:Nat):(bL d e).d=some d:=rfl
@[simp] theorem aj2(d e:Nat)(x:Operand):hX (cm d e x)=cm d e x:=rfl
@[simp] theorem agF(d e:Nat)(x:Operand):(cm d e x).d=some d:=rfl
@[simp] theorem akb(d t:Nat)(x:Operand):hX (aF d t x)=aF d t x:=rfl
@[simp] theorem agO(d t:Nat)(x:Operand):(aF d t x).d=some d:=rfl
@[simp] theorem akg(d:Nat)(x:Operand):hX (iW d x)=iW d x:=rfl
@[simp] theorem agT(d:Nat)(x:Operand):(iW d x).d=some d:=rfl
@[simp] theorem aj1(d:Nat)(op:BinOp)(t:Nat)(x y:Operand):hX (bi d op t x y)=bi d op t x y:=rfl
@[simp] theorem agD(d:Nat)(op:BinOp)(t:Nat)(x y:Operand):(bi d op t x y).d=some d:=rfl
@[simp] theorem akk(d:Nat)(op:UnOp)(x:Operand):hX (un d op x)=un d op x:=rfl
@[simp] theorem agX(d:Nat)(op:UnOp)(x:Operand):(un d op x).d=some d:=rfl
@[simp] theorem aj5(d s t:Nat)(x:Operand):hX (ch d s t x)=ch d s t x:=rfl
@[simp] theorem agI(d s t:Nat)(x:Operand):(ch d s t x).d=some d:=rfl
@[simp] theorem aj7(d s:Nat)(x:Operand)(f:Nat):hX (a9 d s x f)=a9 d s x f:=rfl
@[simp] theorem agK(d s:Nat)(x:Operand)(f:Nat):(a9 d s x f).d=some d:=rfl
@[simp] theorem aj8(d s:Nat)(x:Operand)(f:Nat):hX (mZ d s x f)=mZ d s x f:=rfl
@[simp] theorem agL(d s:Nat)(x:Operand)(f:Nat):(mZ d s x f).d=some d:=rfl
@[simp] theorem aj9(d t:Nat)(x i:Operand):hX (bn d t x i)=bn d t x i:=rfl
@[simp] theorem agM(d t:Nat)(x i:Operand):(bn d t x i).d=some d:=rfl
@[simp] theorem aka(d t:Nat)(x i:Operand):hX (ek d t x i)=ek d t x i:=rfl
@[simp] theorem agN(d t:Nat)(x i:Operand):(ek d t x i).d=some d:=rfl
@[simp] theorem aj6(d:Nat)(x:Operand)(i:Nat):hX (ex d x i)=ex d x i:=rfl
@[simp] theorem agJ(d:Nat)(x:Operand)(i:Nat):(ex d x i).d=some d:=rfl
@[simp] theorem akj(d t:Nat)(x:Operand)(bb ad fk:Option Operand):hX (fG d t x bb ad fk)=fG d t x bb ad fk:=rfl
@[simp] theorem agW(d t:Nat)(x:Operand)(bb ad fk:Option Operand):(fG d t x bb ad fk).d=some d:=rfl
@[simp] theorem akc(d t:Nat)(x:Operand):hX (bA d t x)=bA d t x:=rfl
@[simp] theorem agP(d t:Nat)(x:Operand):(bA d t x).d=some d:=rfl
@[simp] theorem aj3(d f:Nat)(args:List Operand):hX (aS d f args)=aS d f args:=rfl
@[simp] theorem agG(d f:Nat)(args:List Operand):(aS d f args).d=some d:=rfl
@[simp] theorem aj4(d:Nat)(x:Operand)(args:List Operand):hX (nO d x args)=nO d x args:=rfl
@[simp] theorem agH(d:Nat)(x:Operand)(args:List Operand):(nO d x args).d=some d:=rfl
@[simp] theorem akd(d t:Nat)(x:Operand):hX (mI d t x)=mI d t x:=rfl
@[simp] theorem agQ(d t:Nat)(x:Operand):(mI d t x).d=some d:=rfl
theorem aek(d:Nat)(c a b:Operand):bj P (cO d c a b::r) F H Q=za (aq F c) fun t=>bj P r (a1 F d (if t=true then aq F a else aq F b)) H Q:=by
 rw[aeR];cases aq F c<;>rfl
theorem ad4(d e:Nat):bj P (bL d e::r) F H Q=e5 (dA P e) fun z=>gv (flat z=true/\(bp P e).isSome=true) (bj P r (a1 F d (.pointer (some ⟨H.length,0,none⟩))) (H++[.own e false z.cells.toList]) Q):=by
 rw[PK];cases dA P e<;>rfl
theorem PF(d e:Nat)(x:Operand):bj P (cm d e x::r) F H Q=gv ((bp P e).isSome=true) (bj P r (a1 F d (.pointer (some ⟨H.length,0,none⟩))) (H++[.own e false (aq F x).cells.toList]) Q):=by
 rw[aew];rfl
def lenOf(P:Program)(t:Nat):Value->Option Nat
 | .slice _ n _=>(e_ P t).map fun _=>n
 | .string s=>if iE P t=true then some s.size else none
 | _=>none
theorem aef(d t:Nat)(x:Operand):bj P (aF d t x::r) F H Q=rW (aq F x) fun b i=>e5 ((H[b]?).bind bK.cells?) fun cs=>e5 (dq P t) fun g=>hY g (e5 (bp P t) fun n=>gv (i+n<=cs.length) (bj P r (a1 F d (.agg ((cs.drop i).take n).toArray)) H Q)) (e5 cs[i]? fun v=>bj P r (a1 F d v) H Q):=by
 rw[aeH]
 cases aq F x<;>try rfl
 rename_i a
 cases a with
 | none=>rfl
 | some a=>
  obtain⟨b,i,c⟩:=a
  cases c<;>try rfl
  simp only[rW]
  cases(H[b]?).bind bK.cells? with
  | none=>rfl
  | some cs=>
   simp only[e5]
   cases dq P t with
   | none=>rfl
   | some g=>
    cases g with
    | false=>simp only[hY];cases cs[i]?<;>rfl
    | true=>simp only[hY];cases bp P t<;>rfl
theorem ael(t:Nat)(x y:Operand):bj P (st t x y::r) F H Q=rW (aq F x) fun b i=>GS H[b]? fun e l cs=>gv (bp P t=some (aq F y).cells.size/\i+(aq F y).cells.size<=cs.length/\((aq F y).cells.toList.all (·.oneCell'))=true) (bj P r F (H.set b (.own e l (l9 cs i (aq F y).cells.toList))) Q):=by
 rw[aeU]
 cases aq F x<;>try rfl
theorem aej(d:Nat)(x:Operand):bj P (iW d x::r) F H Q=GQ (aq F x) fun a=>bj P r (a1 F d (.pointer (some a))) H Q:=by
 rw[aeP]
 cases aq F x<;>try rfl
theorem ad6(d:Nat)(op:BinOp)(t:Nat)(x y:Operand):bj P (bi d op t x y::r) F H Q=e5 (dZ P op t (aq F x) (aq F y)) fun v=>bj P r (a1 F d v) H Q:=by
 rw[aev];cases dZ P op t (aq F x) (aq F y)<;>rfl
theorem aem(d:Nat)(op:UnOp)(x:Operand):bj P (un d op x::r) F H Q=e5 (pf op (aq F x)) fun v=>bj P r (a1 F d v) H Q:=by
 rw[aeV];cases pf op (aq F x)<;>rfl
theorem aea(d s:Nat)(x:Operand)(f:Nat):bj P (a9 d s x f::r) F H Q=rW (aq F x) fun b i=>e5 (fQ P s f) fun off=>bj P r (a1 F d (.pointer (some ⟨b,i+off,none⟩))) H Q:=by
 rw[aeC]
 cases aq F x<;>try rfl
 rename_i a
 cases a with
 | none=>rfl
 | some a=>
  obtain⟨b,i,c⟩:=a
  cases c<;>try rfl
  cases fQ P s f<;>rfl
theorem aeb(d s:Nat)(x:Operand)(f:Nat):bj P (mZ d s x f::r) F H Q=nJ (aq F x) fun cs=>e5 (oO P s f) fun c=>e5 (pC cs c) fun v=>bj P r (a1 F d v) H Q:=by
 rw[aeE]
 cases aq F x<;>try rfl
 rename_i cs
 simp only[nJ,e5]
 cases oO P s f with
 | none=>rfl
 | some c=>simp only;cases pC cs c<;>rfl
theorem zM{α:Type}(R:Option α){K:α->Prop}(h:∀v,K v=False):e5 R K=False:=by cases R<;>simp[e5,h]
theorem aed(d t:Nat)(x i:Operand):bj P (bn d t x i::r) F H Q=zd (aq F x) fun a len _=>pv (aq F i) fun _ n=>e5 (e_ P t) fun e=>e5 (bp P e) fun U=>y_ a fun b R=>gv (0<=n/\n<len) (bj P r (a1 F d (.pointer (some ⟨b,R+n.toNat*U,none⟩))) H Q):=by
 rw[aeF]
 generalize aq F x=u
 generalize aq F i=w
 cases u with
 | slice a len cap=>
  rcases a with _ | ⟨b,R,_ | c⟩
  ·cases w with
   | int k n=>exact(zM _ fun e=>zM _ fun z=>rfl).symm
   | _=>rfl
  ·cases w with
   | int k n=>
    simp only[zd,pv,y_]
    cases e_ P t with
    | none=>rfl
    | some e=>
     simp only[e5]
     cases bp P e<;>rfl
   | _=>rfl
  ·cases w with
   | int k n=>exact(zM _ fun e=>zM _ fun z=>rfl).symm
   | _=>rfl
 | _=>rfl
theorem aee(d t:Nat)(x i:Operand):bj P (ek d t x i::r) F H Q=GW (aq F x) fun s=>pv (aq F i) fun _ n=>gv (iE P t=true/\0<=n/\n<s.size) (bj P r (a1 F d (.int .u8 ((s.data.getD n.toNat 0).toNat:Int))) H Q):=by
 rw[aeG]
 cases aq F x<;>try rfl
 cases aq F i<;>rfl
theorem ad9(d:Nat)(x:Operand)(i:Nat):bj P (ex d x i::r) F H Q=Co (aq F x) fun aE=>e5 aE[i]? fun v=>bj P r (a1 F d v) H Q:=by
 rw[aeB]
 cases aq F x<;>try rfl
 rename_i aE
 simp only[Co]
 cases aE[i]?<;>rfl
theorem ad5{d t:Nat}{a6:List (Nat×Operand)}{z:Value}{pl:List (Nat×Nat)}(aN:dA P t=some z)(dU:flat z=true)(a2:lo P t=some pl):
  bj P (dC d t a6::r) F H Q=e5 (kn pl z.cells.toList (a6.map fun p=>(p.1,aq F p.2))) fun out=>bj P r (a1 F d (.agg out.toArray)) H Q:=by
 rw[aeu,aaf aN dU a2]
 cases kn pl z.cells.toList (a6.map fun p=>(p.1,aq F p.2))<;>rfl
def isInt:Value->Bool
 | .int _ _=>true
 | _=>false
def intOf:Value->Int
 | .int _ n=>n
 | _=>0
@[simp] theorem aik(k:IntKind)(n:Int):isInt (.int k n)=true:=rfl
@[simp] theorem aij(k:IntKind)(n:Int):intOf (.int k n)=n:=rfl
theorem ad8{d s t:Nat}{x:Operand}{l5 k:IntKind}(ao:j6 P s=some l5)(bO:j6 P t=some k)(J:isInt (aq F x)=true):bj P (ch d s t x::r) F H Q=bj P r (a1 F d (.int k (k.wrap (intOf (aq F x))))) H Q:=by
 cases an:aq F x<;>rw[an]at J<;>first | exact aeA d s t x an ao bO | cases J
def isStr:Value->Bool
 | .string _=>true
 | _=>false
@[simp] theorem aim(s:ByteArray):isStr (.string s)=true:=rfl
theorem ad7(d:Nat)(x:Operand)(args:List Operand):bj P (nO d x args::r) F H Q=GO (aq F x) fun g a b=>aP P g (a.toList++args.map (aq F)++b.toList) H (fun v H1=>bj P r (a1 F d v) H1 Q):=by
 rw[aez]
 cases aq F x<;>try rfl
theorem aeg(d t:Nat)(x:Operand):bj P (bA d t x::r) F H Q=e5 (lenOf P t (aq F x)) fun(n:Nat)=>bj P r (a1 F d (.int .i64 n)) H Q:=by
 rw[aeI]
 cases aq F x<;>try rfl
 ·simp only[lenOf]
  split
  ·rename_i h;simp[h,e5]
  ·rename_i h;simp[h,e5]
 ·simp only[lenOf]
  cases e_ P t<;>rfl
@[simp] theorem YG(t:Nat)(a:Option Addr)(n c:Nat):lenOf P t (.slice a n c)=(e_ P t).map fun _=>n:=rfl
@[simp] theorem YH(t:Nat)(s:ByteArray):lenOf P t (.string s)=if iE P t=true then some s.size else none:=rfl
theorem aei(d:Nat)(bY:List Nat)(x y:Operand):bj P (vo d bY x y::r) F H Q=pv (aq F x) fun k a=>pv (aq F y) fun _ b=>bj P r (a1 F d (.int k (if b>a then b else a))) H Q:=by
 rw[aeO]
 cases aq F x<;>try rfl
 cases aq F y<;>rfl
theorem aeh(d:Nat)(bY:List Nat)(x y:Operand):bj P (yn d bY x y::r) F H Q=pv (aq F x) fun k a=>pv (aq F y) fun _ b=>bj P r (a1 F d (.int k (if b<a then b else a))) H Q:=by
 rw[aeL]
 cases aq F x<;>try rfl
 cases aq F y<;>rfl
end
section
variable {P:Program} {F:Fr} {H:ab} {Q:dH->Fr->ab->Prop}
theorem ae3:eA P .skip F H Q=Q .normal F H:=rfl
theorem ae1:eA P .ret F H Q=Q .ret F H:=rfl
theorem aeY(id:Nat):eA P (.exit id) F H Q=Q (.exit id) F H:=rfl
theorem ae2(x y:gF):eA P (.seq x y) F H Q=eA P x F H (nw (fun ay H1=>eA P y ay H1 Q) Q):=rfl
theorem aeX(c:Operand)(x y:gF):eA P (.cond c x y) F H Q=za (aq F c) fun b=>hY b (eA P x F H Q) (eA P y F H Q):=by
 simp only[eA]
 cases aq F c<;>try rfl
 rename_i b
 cases b<;>rfl
theorem aeW(id:Nat)(x:gF):eA P (.block id x) F H Q=eA P x F H (pB id Q):=rfl
theorem aeZ(x:gF):eA P (.loop x) F H Q=qu (eA P x) Q F H:=rfl
theorem ae0(l:List bF):eA P (.ops l) F H Q=bj P l F H (fun ay H1=>Q .normal ay H1):=rfl
theorem aal{K:Fr->ab->Prop}:nw K Q .normal F H=K F H:=rfl
theorem aam{K:Fr->ab->Prop}:nw K Q .ret F H=Q .ret F H:=rfl
theorem aak{K:Fr->ab->Prop}(id:Nat):nw K Q (.exit id) F H=Q (.exit id) F H:=rfl
theorem Qj(id:Nat):pB id Q .normal F H=Q .normal F H:=rfl
theorem Qk(id:Nat):pB id Q .ret F H=Q .ret F H:=rfl
theorem Qi(id hS:Nat):pB id Q (.exit hS) F H=if hS=id then Q .normal F H else Q (.exit hS) F H:=rfl
theorem aer{K:List Value->Prop}:kh P F H [] K=K []:=rfl
theorem aes{K:List Value->Prop}(i:Nat)(rs:List ResultVar):kh P F H (.tmp i::rs) K=kh P F H rs fun aE=>K (F i::aE):=rfl
theorem aeq{K:List Value->Prop}(a ty:Nat)(rs:List ResultVar):kh P F H (.cell a ty::rs) K=rW (F a) fun b i=>e5 ((H[b]?).bind bK.cells?) fun cs=>e5 (dq P ty) fun g=>hY g (e5 (bp P ty) fun n=>gv (i+n<=cs.length) (kh P F H rs fun aE=>K (.agg ((cs.drop i).take n).toArray::aE))) (e5 cs[i]? fun v=>kh P F H rs fun aE=>K (v::aE)):=by
 simp only[kh,iL]
 cases F a<;>try rfl
 rename_i a
 cases a with
 | none=>rfl
 | some a=>
  obtain⟨b,i,c⟩:=a
  cases c<;>try rfl
  simp only[rW]
  cases(H[b]?).bind bK.cells? with
  | none=>rfl
  | some cs=>
   simp only[e5]
   cases dq P ty with
   | none=>rfl
   | some g=>
    cases g with
    | false=>simp only[hY];cases cs[i]?<;>rfl
    | true=>simp only[hY];cases bp P ty<;>rfl
end
end
universe u v in
inductive ba {α:Sort u} {β:Sort v} (a:α) (b:β):Type
 | mk
def a_(P:Program)(l:List bF)(Q:Fr->ab->Prop)(ax:ba l Q)(F:Fr)(H:ab):Prop:=bj P l F H Q
def g1(P:Program)(x:gF)(Q:dH->Fr->ab->Prop)(ax:ba x Q)(F:Fr)(H:ab):Prop:=eA P x F H Q
def qz(P:Program)(rs:List ResultVar)(K:List Value->Prop)(ax:ba rs K)(F:Fr)(H:ab):Prop:=kh P F H rs K
def aV(P:Program)(f:FuncId)(Q:Value->ab->Prop)(ax:ba f Q)(args:List Value)(H:ab):Prop:=aP P f args H Q
def kY(P:Program)(x:gF)(Q:dH->Fr->ab->Prop)(ax:ba x Q)(F:Fr)(H:ab):Prop:=qu (eA P x) Q F H
def ga{α:Type}(K:α->Prop)(ax:ba K K)(R:Option α):Prop:=e5 R K
def dB(K:Prop)(ax:ba K K)(c:Prop):Prop:=gv c K
def bt(dk cV:Prop)(ax:ba dk cV)(b:Bool):Prop:=hY b dk cV
def oD(dk cV:Prop)(ax:ba dk cV)(R:Option Bool)(w:Bool):Prop:=nE R w dk cV
def zb(K:Bool->Prop)(ax:ba K K)(v:Value):Prop:=za v K
def qw(K:IntKind->Int->Prop)(ax:ba K K)(v:Value):Prop:=pv v K
def v7(K:Nat->Nat->Prop)(ax:ba K K)(v:Value):Prop:=rW v K
def Cn(K:Option Addr->Nat->Nat->Prop)(ax:ba K K)(v:Value):Prop:=zd v K
def Cm(K:Nat->Nat->Prop)(ax:ba K K)(v:Option Addr):Prop:=y_ v K
def GX(K:ByteArray->Prop)(ax:ba K K)(v:Value):Prop:=GW v K
def zc(K:Array Value->Prop)(ax:ba K K)(v:Value):Prop:=nJ v K
def GZ(K:Array Value->Prop)(ax:ba K K)(v:Value):Prop:=Co v K
def GU(K:TypeId->Bool->List Value->Prop)(ax:ba K K)(v:Option bK):Prop:=GS v K
def GP(K:Nat->Array Value->Array Value->Prop)(ax:ba K K)(v:Value):Prop:=GO v K
@[simp] theorem afp(g:Nat)(a b:Array Value)(K:Nat->Array Value->Array Value->Prop)(ax:ba K K):GP K ax (.func (.func g) a b)=K g a b:=rfl
def GR(K:Addr->Prop)(ax:ba K K)(v:Value):Prop:=GQ v K
@[simp] theorem gb{α:Type}(v:α)(K:α->Prop)(ax:ba K K):ga K ax (some v)=K v:=rfl
@[simp] theorem afd(K:Prop)(ax:ba K K):dB K ax True=K:=PS K
@[simp] theorem PR(dk cV:Prop)(ax:ba dk cV):bt dk cV ax true=dk:=rfl
@[simp] theorem y0(dk cV:Prop)(ax:ba dk cV):bt dk cV ax false=cV:=rfl
@[simp] theorem afc(b:Bool)(dk cV:Prop)(ax:ba dk cV):bt dk cV ax (!b)=bt cV dk .mk b:=by cases b<;>rfl
@[simp] theorem afh(b:Bool)(dk cV:Prop)(ax:ba dk cV):oD dk cV ax (some b) true=bt dk cV .mk b:=PX b dk cV
@[simp] theorem aff(b:Bool)(dk cV:Prop)(ax:ba dk cV):oD dk cV ax (some b) false=bt cV dk .mk b:=PW b dk cV
@[simp] theorem P3(b:Bool)(K:Bool->Prop)(ax:ba K K):zb K ax (.bool b)=K b:=rfl
@[simp] theorem pw(k:IntKind)(n:Int)(K:IntKind->Int->Prop)(ax:ba K K):qw K ax (.int k n)=K k n:=rfl
@[simp] theorem qx(b i:Nat)(K:Nat->Nat->Prop)(ax:ba K K):v7 K ax (.pointer (some ⟨b,i,none⟩))=K b i:=rfl
@[simp] theorem rX(a:Option Addr)(n c:Nat)(K:Option Addr->Nat->Nat->Prop)(ax:ba K K):Cn K ax (.slice a n c)=K a n c:=rfl
@[simp] theorem rV(b i:Nat)(K:Nat->Nat->Prop)(ax:ba K K):Cm K ax (some ⟨b,i,none⟩)=K b i:=rfl
@[simp] theorem GY(s:ByteArray)(K:ByteArray->Prop)(ax:ba K K):GX K ax (.string s)=K s:=rfl
@[simp] theorem afq(s:Array Value)(K:Array Value->Prop)(ax:ba K K):zc K ax (.agg s)=K s:=rfl
@[simp] theorem afs(s:Array Value)(K:Array Value->Prop)(ax:ba K K):GZ K ax (.tuple s)=K s:=rfl
@[simp] theorem GV(e:TypeId)(l:Bool)(cs:List Value)(K:TypeId->Bool->List Value->Prop)(ax:ba K K):GU K ax (some (.own e l cs))=K e l cs:=rfl
@[simp] theorem afr(a:Addr)(K:Addr->Prop)(ax:ba K K):GR K ax (.pointer (some a))=K a:=rfl
theorem dB.mk{c K:Prop}{ax:ba K K}(h:c)(ak:K):dB K ax c:=⟨h,ak⟩
theorem bt.mk{b:Bool}{dk cV:Prop}{ax:ba dk cV}(o:b=true->dk)(aa:b=false->cV):bt dk cV ax b:=hY.mk o aa
theorem bt.b6{p:Prop}[Decidable p]{dk cV:Prop}{ax:ba dk cV}(o:p->dk)(aa:¬p->cV):bt dk cV ax (decide p):=hY.b6 o aa
theorem aV.mk{P:Program}{f:FuncId}{Q:Value->ab->Prop}{ax:ba f Q}{args:List Value}{H:ab}{af:Value->ab->Prop}(h:aP P f args H af)(av:∀v H1,af v H1->Q v H1):aV P f Q ax args H:=aP.mono h av
theorem kY.mk{P:Program}{x:gF}{Q:dH->Fr->ab->Prop}{ax:ba x Q}(ai:Nat->Fr->ab->Prop){F:Fr}{H:ab}(n:Nat)(aI:ai n F H)
  (round:∀n F H,ai n F H->∀K:Fr->ab->Prop,(∀m ay H1,m<n->ai m ay H1->K ay H1)->g1 P x (nw K Q) .mk F H):kY P x Q ax F H:=qu.inv ai (fun n F H h=>round n F H h _ fun m ay H1 hm ed=>⟨m,hm,ed⟩) n F H aI
theorem aP.b9{P:Program}{f:FuncId}{args:List Value}{H:ab}{af:Value->ab->Prop}(h:∀Q:Value->ab->Prop,(∀v H1,af v H1->Q v H1)->aP P f args H Q):aP P f args H af:=h af fun _ _ h=>h
theorem aP.Yt{P:Program}{f:FuncId}{fn:Func}{x:fq}{args:List Value}{H:ab}{Q:Value->ab->Prop}(az:P.funcs[f]?=some fn)(aG:(fn.name== "runtime.NumGoroutine")=false)(ae:comp P fn=some x)(ar:args.length<=fn.ntmps)
  (h:g1 P x.code (qb P x.results Q) .mk (jx args) H):aP P f args H Q:=aP.WJ az aG ae ar h
section
variable {P:Program} {r:List bF} {F:Fr} {H:ab} {Q:Fr->ab->Prop}
@[simp] theorem OW(ax:ba ([]:List bF) Q):a_ P [] Q ax F H=Q F H:=rfl
@[simp] theorem abg(d:Nat)(x:Operand)(ax:ba (I d x::r) Q):a_ P (I d x::r) Q ax F H=a_ P r Q .mk (a1 F d (aq F x)) H:=aeM d x
@[simp] theorem ajv(d:Nat)(x:Operand)(ax:ba (aj d x::r) Q):a_ P (aj d x::r) Q ax F H=a_ P r Q .mk (a1 F d (aq F x)) H:=aeS d x
@[simp] theorem ajp(d t:Nat)(x:Operand)(ax:ba (mI d t x::r) Q):a_ P (mI d t x::r) Q ax F H=dB (a_ P r Q .mk (a1 F d (.iface t (aq F x))) H) .mk (P.concrete t=true):=aeK d t x
@[simp] theorem ajo(d:Nat)(fn:Fn)(a b:Array Operand)(ax:ba (vn d fn a b::r) Q):a_ P (vn d fn a b::r) Q ax F H=a_ P r Q .mk (a1 F d (.func fn (a.map (aq F)) (b.map (aq F)))) H:=aeJ d fn a b
@[simp] theorem ajj(d f:Nat)(args:List Operand)(ax:ba (aS d f args::r) Q):a_ P (aS d f args::r) Q ax F H=aV P f (fun v H1=>a_ P r Q .mk (a1 F d v) H1) .mk (args.map (aq F)) H:=aex d f args
@[simp] theorem ajk(f:Nat)(args:List Operand)(ax:ba (zw f args::r) Q):a_ P (zw f args::r) Q ax F H=aV P f (fun v H1=>a_ P r Q .mk F H1) .mk (args.map (aq F)) H:=aey f args
@[simp] theorem ajt(d f:Nat)(args:List Operand)(ax:ba (bh (aS d f args)::r) Q):a_ P (bh (aS d f args)::r) Q ax F H=aV P f (fun v H1=>Ext H H1/\a_ P r Q .mk (a1 F d v) H1) .mk (args.map (aq F)) H:=aeQ d f args
theorem qf{d t:Nat}{a6:List (Nat×Operand)}{z:Value}{pl:List (Nat×Nat)}(aN:dA P t=some z)(dU:flat z=true)(a2:lo P t=some pl)(ax:ba (dC d t a6::r) Q):
  a_ P (dC d t a6::r) Q ax F H=ga (fun out=>a_ P r Q .mk (a1 F d (.agg out.toArray)) H) .mk (kn pl z.cells.toList (a6.map fun p=>(p.1,aq F p.2))):=ad5 aN dU a2
theorem ny{d s t:Nat}{x:Operand}{l5 k:IntKind}(ao:j6 P s=some l5)(bO:j6 P t=some k)(J:isInt (aq F x)=true)(ax:ba (ch d s t x::r) Q):a_ P (ch d s t x::r) Q ax F H=a_ P r Q .mk (a1 F d (.int k (k.wrap (intOf (aq F x))))) H:=ad8 ao bO J
@[simp] theorem abd(j:Nat)(w:Bool)(x:bF)(ax:ba (aL j w x::r) Q):(a_ P (aL j w x::r) Q ax F H)=(oD ((a_ P (hX x::r) Q .mk F H)) ((a_ P r Q .mk (fW F x.d undef) H)) .mk (hr (F j)) w):=aec j w x
@[simp] theorem aju(d:Nat)(c a b:Operand)(ax:ba (cO d c a b::r) Q):(a_ P (cO d c a b::r) Q ax F H)=(zb (fun t=>(a_ P r Q .mk (a1 F d (if t=true then aq F a else aq F b)) H)) .mk (aq F c)):=aek d c a b
@[simp] theorem rF(d e:Nat)(ax:ba (bL d e::r) Q):(a_ P (bL d e::r) Q ax F H)=(ga (fun z=>(dB ((a_ P r Q .mk (a1 F d (.pointer (some ⟨H.length,0,none⟩))) (H++[.own e false z.cells.toList]))) .mk (flat z=true/\(bp P e).isSome=true))) .mk (dA P e)):=ad4 d e
@[simp] theorem aji(d e:Nat)(x:Operand)(ax:ba (cm d e x::r) Q):(a_ P (cm d e x::r) Q ax F H)=(dB ((a_ P r Q .mk (a1 F d (.pointer (some ⟨H.length,0,none⟩))) (H++[.own e false (aq F x).cells.toList]))) .mk ((bp P e).isSome=true)):=PF d e x
@[simp] theorem BV(d t:Nat)(x:Operand)(ax:ba (aF d t x::r) Q):(a_ P (aF d t x::r) Q ax F H)=(v7 (fun b i=>(ga (fun cs=>(ga (fun g=>(bt ((ga (fun n=>(dB ((a_ P r Q .mk (a1 F d (.agg ((cs.drop i).take n).toArray)) H)) .mk (i+n<=cs.length))) .mk (bp P t))) ((ga (fun v=>(a_ P r Q .mk (a1 F d v) H)) .mk cs[i]?)) .mk g)) .mk (dq P t))) .mk ((H[b]?).bind bK.cells?))) .mk (aq F x)):=aef d t x
@[simp] theorem O0(t:Nat)(x y:Operand)(ax:ba (st t x y::r) Q):(a_ P (st t x y::r) Q ax F H)=(v7 (fun b i=>(GU (fun e l cs=>(dB ((a_ P r Q .mk F (H.set b (.own e l (l9 cs i (aq F y).cells.toList))))) .mk (bp P t=some (aq F y).cells.size/\i+(aq F y).cells.size<=cs.length/\((aq F y).cells.toList.all (·.oneCell'))=true))) .mk H[b]?)) .mk (aq F x)):=ael t x y
@[simp] theorem ajs(d:Nat)(x:Operand)(ax:ba (iW d x::r) Q):(a_ P (iW d x::r) Q ax F H)=(GR (fun a=>(a_ P r Q .mk (a1 F d (.pointer (some a))) H)) .mk (aq F x)):=aej d x
@[simp] theorem OS(d:Nat)(op:BinOp)(t:Nat)(x y:Operand)(ax:ba (bi d op t x y::r) Q):(a_ P (bi d op t x y::r) Q ax F H)=(ga (fun v=>(a_ P r Q .mk (a1 F d v) H)) .mk (dZ P op t (aq F x) (aq F y))):=ad6 d op t x y
@[simp] theorem ajw(d:Nat)(op:UnOp)(x:Operand)(ax:ba (un d op x::r) Q):(a_ P (un d op x::r) Q ax F H)=(ga (fun v=>(a_ P r Q .mk (a1 F d v) H)) .mk (pf op (aq F x))):=aem d op x
@[simp] theorem OU(d s:Nat)(x:Operand)(f:Nat)(ax:ba (a9 d s x f::r) Q):(a_ P (a9 d s x f::r) Q ax F H)=(v7 (fun b i=>(ga (fun off=>(a_ P r Q .mk (a1 F d (.pointer (some ⟨b,i+off,none⟩))) H)) .mk (fQ P s f))) .mk (aq F x)):=aea d s x f
@[simp] theorem ajn(d s:Nat)(x:Operand)(f:Nat)(ax:ba (mZ d s x f::r) Q):(a_ P (mZ d s x f::r) Q ax F H)=(zc (fun cs=>(ga (fun c=>(ga (fun v=>(a_ P r Q .mk (a1 F d v) H)) .mk (pC cs c))) .mk (oO P s f))) .mk (aq F x)):=aeb d s x f
@[simp] theorem hF(d t:Nat)(x i:Operand)(ax:ba (bn d t x i::r) Q):(a_ P (bn d t x i::r) Q ax F H)=(Cn (fun a len _=>(qw (fun _ n=>(ga (fun e=>(ga (fun U=>(Cm (fun b R=>(dB ((a_ P r Q .mk (a1 F d (.pointer (some ⟨b,R+n.toNat*U,none⟩))) H)) .mk (0<=n/\n<len))) .mk a)) .mk (bp P e))) .mk (e_ P t))) .mk (aq F i))) .mk (aq F x)):=aed d t x i
@[simp] theorem ka(d t:Nat)(x i:Operand)(ax:ba (ek d t x i::r) Q):(a_ P (ek d t x i::r) Q ax F H)=(GX (fun s=>(qw (fun _ n=>(dB ((a_ P r Q .mk (a1 F d (.int .u8 ((s.data.getD n.toNat 0).toNat:Int))) H)) .mk (iE P t=true/\0<=n/\n<s.size))) .mk (aq F i))) .mk (aq F x)):=aee d t x i
@[simp] theorem ajm(d:Nat)(x:Operand)(i:Nat)(ax:ba (ex d x i::r) Q):(a_ P (ex d x i::r) Q ax F H)=(GZ (fun aE=>(ga (fun v=>(a_ P r Q .mk (a1 F d v) H)) .mk aE[i]?)) .mk (aq F x)):=ad9 d x i
@[simp] theorem ajl(d:Nat)(x:Operand)(args:List Operand)(ax:ba (nO d x args::r) Q):(a_ P (nO d x args::r) Q ax F H)=(GP (fun g a b=>(aV P g ((fun v H1=>(a_ P r Q .mk (a1 F d v) H1))) .mk (a.toList++args.map (aq F)++b.toList) H)) .mk (aq F x)):=ad7 d x args
@[simp] theorem iq(d t:Nat)(x:Operand)(ax:ba (bA d t x::r) Q):(a_ P (bA d t x::r) Q ax F H)=(ga (fun(n:Nat)=>(a_ P r Q .mk (a1 F d (.int .i64 n)) H)) .mk (lenOf P t (aq F x))):=aeg d t x
@[simp] theorem ajr(d:Nat)(bY:List Nat)(x y:Operand)(ax:ba (vo d bY x y::r) Q):(a_ P (vo d bY x y::r) Q ax F H)=(qw (fun k a=>(qw (fun _ b=>(a_ P r Q .mk (a1 F d (.int k (if b>a then b else a))) H)) .mk (aq F y))) .mk (aq F x)):=aei d bY x y
@[simp] theorem ajq(d:Nat)(bY:List Nat)(x y:Operand)(ax:ba (yn d bY x y::r) Q):(a_ P (yn d bY x y::r) Q ax F H)=(qw (fun k a=>(qw (fun _ b=>(a_ P r Q .mk (a1 F d (.int k (if b<a then b else a))) H)) .mk (aq F y))) .mk (aq F x)):=aeh d bY x y
end
section
variable {P:Program} {F:Fr} {H:ab} {Q:dH->Fr->ab->Prop}
@[simp] theorem ajF(ax:ba (.skip:gF) Q):(g1 P .skip Q ax F H)=Q .normal F H:=ae3
@[simp] theorem ajE(ax:ba (.ret:gF) Q):(g1 P .ret Q ax F H)=Q .ret F H:=ae1
@[simp] theorem ajB(id:Nat)(ax:ba ((.exit id):gF) Q):(g1 P (.exit id) Q ax F H)=Q (.exit id) F H:=aeY id
@[simp] theorem cE(x y:gF)(ax:ba ((.seq x y):gF) Q):(g1 P (.seq x y) Q ax F H)=(g1 P x (nw ((fun ay H1=>(g1 P y Q .mk ay H1))) Q) .mk F H):=ae2 x y
@[simp] theorem ajA(c:Operand)(x y:gF)(ax:ba ((.cond c x y):gF) Q):(g1 P (.cond c x y) Q ax F H)=(zb (fun b=>(bt ((g1 P x Q .mk F H)) ((g1 P y Q .mk F H)) .mk b)) .mk (aq F c)):=aeX c x y
@[simp] theorem Gh(id:Nat)(x:gF)(ax:ba ((.block id x):gF) Q):(g1 P (.block id x) Q ax F H)=(g1 P x (pB id Q) .mk F H):=aeW id x
@[simp] theorem ajC(x:gF)(ax:ba ((.loop x):gF) Q):(g1 P (.loop x) Q ax F H)=(kY P x Q .mk F H):=aeZ x
@[simp] theorem ajD(l:List bF)(ax:ba ((.ops l):gF) Q):(g1 P (.ops l) Q ax F H)=(a_ P l ((fun ay H1=>Q .normal ay H1)) .mk F H):=ae0 l
@[simp] theorem ajy{K:List Value->Prop}(ax:ba ([]:List ResultVar) K):(qz P [] K ax F H)=K []:=aer
@[simp] theorem ajz{K:List Value->Prop}(i:Nat)(rs:List ResultVar)(ax:ba ((.tmp i::rs):List ResultVar) K):(qz P (.tmp i::rs) K ax F H)=(qz P rs (fun aE=>K (F i::aE)) .mk F H):=aes i rs
@[simp] theorem ajx{K:List Value->Prop}(a ty:Nat)(rs:List ResultVar)(ax:ba ((.cell a ty::rs):List ResultVar) K):(qz P (.cell a ty::rs) K ax F H)=(v7 (fun b i=>(ga (fun cs=>(ga (fun g=>(bt ((ga (fun n=>(dB ((qz P rs (fun aE=>K (.agg ((cs.drop i).take n).toArray::aE)) .mk F H)) .mk (i+n<=cs.length))) .mk (bp P ty))) ((ga (fun v=>(qz P rs (fun aE=>K (v::aE)) .mk F H)) .mk cs[i]?)) .mk g)) .mk (dq P ty))) .mk ((H[b]?).bind bK.cells?))) .mk (F a)):=aeq a ty rs
@[simp] theorem aje{rs:List ResultVar}{af:Value->ab->Prop}:qb P rs af .normal F H=qz P rs (fun aE=>af (bd aE) H) .mk F H:=rfl
@[simp] theorem ajf{rs:List ResultVar}{af:Value->ab->Prop}:qb P rs af .ret F H=qz P rs (fun aE=>af (bd aE) H) .mk F H:=rfl
attribute [simp] aal aam aak Qj Qk Qi
end
def eo(H:ab)(e U:Nat)(v:Value)(n:Nat)(cs:List Value):Prop:=
 ∃a cap,v= .slice a n cap/\n<=cap/\cs.length=n*U/\(0<cap->∃b i X all,a=some ⟨b,i,none⟩/\H[b]?=some X/\X.cells?=some all/\X.elem?=some e/\i+n*U<=all.length/\cs=(all.drop i).take (n*U))
theorem Ext.aw{H H1 aR:ab}(h:Ext H H1)(cu:Ext H1 aR):Ext H aR:=by
 obtain⟨N,rfl,aG⟩:=h
 obtain⟨M,rfl,hm⟩:=cu
 refine⟨N++M,by simp,fun x J=>?_⟩
 rcases List.mem_append.1 J with J | J
 ·exact aG x J
 ·exact hm x J
theorem Ext.snoc{cx H:ab}(h:Ext cx H)(e:TypeId)(l:Bool)(cs:List Value):Ext cx (H++[.own e l cs]):=h.aw ⟨[.own e l cs],rfl,fun x J cX eC=>by simp at J;subst J;simp⟩
theorem Ext.set{cx H:ab}(h:Ext cx H){b:Nat}(ag:cx.length<=b){X:bK}(aT:∀e cs,X≠ .ro e cs):Ext cx (H.set b X):=by
 obtain⟨N,rfl,aG⟩:=h
 refine⟨N.set (b-cx.length) X,by rw[List.set_append_right _ _ ag],fun x J e cs=>?_⟩
 rcases List.mem_or_eq_of_mem_set J with J | rfl
 ·exact aG x J e cs
 ·exact aT e cs
theorem eo.ext{H H1:ab}{e U n:Nat}{v:Value}{cs:List Value}(h:eo H e U v n cs)(J:Ext H H1):eo H1 e U v n cs:=by
 obtain⟨a,cap,an,o,aa,aB⟩:=h
 refine⟨a,cap,an,o,aa,fun ae=>?_⟩
 obtain⟨b,i,X,all,aY,a3,bN⟩:=aB ae
 exact⟨b,i,X,all,aY,J.get_some a3,bN⟩
theorem eo.len{H:ab}{e U n:Nat}{v:Value}{cs:List Value}(h:eo H e U v n cs):∃a cap,v= .slice a n cap:=by
 obtain⟨a,cap,an,-⟩:=h;exact⟨a,cap,an⟩
theorem eo.at{H:ab}{e U n:Nat}{v:Value}{cs:List Value}(h:eo H e U v n cs)(aG:0<n):∃b i cap X all,v= .slice (some ⟨b,i,none⟩) n cap/\H[b]?=some X/\X.cells?=some all/\i+n*U<=all.length/\∀k,k<n*U->all[i+k]?=cs[k]?:=by
 obtain⟨a,cap,rfl,o,aa,aB⟩:=h
 obtain⟨b,i,X,all,rfl,a3,bN,ck,eU,g9⟩:=aB (by omega)
 refine⟨b,i,cap,X,all,rfl,a3,bN,eU,fun k ak=>?_⟩
 rw[g9,List.getElem?_take_of_lt ak,List.getElem?_drop]
theorem eo.src{H:ab}{e U n:Nat}{v:Value}{cs:List Value}(h:eo H e U v n cs){m:Nat}(hm:m<=n):Src H U v n m (cs.take (m*U)):=by
 obtain⟨a,cap,rfl,o,aa,aB⟩:=h
 by_cases aI:m=0
 ·subst aI;simpa using Src.vW
 ·obtain⟨b,i,X,all,rfl,a3,bN,ck,eU,rfl⟩:=aB (by omega)
  have Ax:m*U<=n*U:=Nat.mul_le_mul_right _ hm
  rw[List.take_take,Nat.min_eq_left Ax]
  exact .row a3 bN (by omega) hm (by omega)
theorem eo.nil(H:ab)(e U:Nat):eo H e U (.slice none 0 0) 0 []:=⟨none,0,rfl,Nat.le_refl _,by simp,fun h=>absurd h (by omega)⟩
theorem eo.void(H:ab)(e U:Nat)(a:Option Addr):eo H e U (.slice a 0 0) 0 []:=⟨a,0,rfl,Nat.le_refl _,by simp,fun h=>absurd h (by omega)⟩
section
variable {P:Program} {r:List bF} {F:Fr} {H:ab} {Q:Fr->ab->Prop}
theorem jM{b:Bool}{d:Option Nat}{op:Op}{ax:ba ((⟨b,none,d,op⟩:bF)::r) Q}(an:isVal op=false)(hm:jt op=true)(aG:b5 P (aq F) H op=none){v:Value}{H1:ab}(av:∀R:Oper,R.op=op->fe P (aq F) H R v H1)(az:∀R:Oper,R.op=op->bV P R=false)
  (ag:b=true\/Ext H H1)(h:a_ P r Q .mk (fW F d v) H1):a_ P (⟨b,none,d,op⟩::r) Q ax F H:=aeN an hm aG (fun R aM=>⟨az R aM,av R aM⟩) ag h
theorem OZ{e0:Bool}{d t e U n l h:Nat}{x:Operand}{bb ad:Option Operand}{cs:List Value}{ax:ba ((⟨e0,none,some d,.slice t x bb ad none⟩:bF)::r) Q}(bM:eo H e U (aq F x) n cs)(hu:P.underlying t=some (.slice e))(ao:bp P e=some U)(ar:dM (aq F) bb=some l)(c4:e2 (aq F) n ad=some h)(o:l<=h)(aa:h<=n)
  (K:∀au,eo H e U au (h-l) ((cs.drop (l*U)).take ((h-l)*U))->a_ P r Q .mk (a1 F d au) H):a_ P ((⟨e0,none,some d,.slice t x bb ad none⟩:bF)::r) Q ax F H:=by
 obtain⟨a,cap,an,aB,bs,bJ⟩:=bM
 have xL:b5 P (aq F) H (.slice t x bb ad none)=none:=by simp only[b5,an]
 have a4:∀R:Oper,R.op= .slice t x bb ad none->bV P R=false:=fun R aM=>by simp[bV,aM]
 have hlen:((cs.drop (l*U)).take ((h-l)*U)).length=(h-l)*U:=by
  have:h*U<=n*U:=Nat.mul_le_mul_right _ aa
  have:l*U<=h*U:=Nat.mul_le_mul_right _ o
  have:(h-l)*U=h*U-l*U:=Nat.sub_mul _ _ _
  simp[bs];omega
 by_cases ae:cap=0
 ·have jI:n=0:=by omega
  have Up:h=0:=by omega
  have pS:l=0:=by omega
  subst ae jI Up pS
  refine jM (v:= .slice a 0 0) (H1:=H) rfl rfl xL (fun R aM=> .yF aM hu ao an ar c4) a4 (.inr (Ext.refl H)) (K _ ?_)
  have:(cs.drop (0*U)).take ((0-0)*U)=[]:=by simp
  rw[this]
  exact eo.void H e U a
 ·obtain⟨b,i,X,all,rfl,a3,bN,ck,eU,g9⟩:=bJ (by omega)
  by_cases my:l<cap
  ·refine jM (v:= .slice (some ⟨b,i+l*U,none⟩) (h-l) (cap-l)) (H1:=H) rfl rfl xL (fun R aM=> .slice aM hu ao an a3 ck ar c4 o (by omega) my) a4 (.inr (Ext.refl H)) (K _ ?_)
   refine⟨_,_,rfl,by omega,hlen,fun _=>⟨b,i+l*U,X,all,rfl,a3,bN,ck,?_,?_⟩⟩
   ·have:h*U<=n*U:=Nat.mul_le_mul_right _ aa
    have:l*U<=h*U:=Nat.mul_le_mul_right _ o
    have:(h-l)*U=h*U-l*U:=Nat.sub_mul _ _ _
    omega
   ·rw[g9,List.drop_take,List.drop_drop,List.take_take]
    congr 1
    have:h*U<=n*U:=Nat.mul_le_mul_right _ aa
    have:(h-l)*U=h*U-l*U:=Nat.sub_mul _ _ _
    omega
  ·have bm:l=cap:=by omega
   have bk:h=cap:=by omega
   have fP:n=cap:=by omega
   subst bm bk
   refine jM (v:= .slice (some ⟨b,i,none⟩) 0 0) (H1:=H) rfl rfl xL (fun R aM=> .yE aM hu ao an (by omega) ar c4) a4 (.inr (Ext.refl H)) (K _ ?_)
   rw[Nat.sub_self,Nat.zero_mul,List.take_zero]
   exact eo.void H e U _
theorem abk{d t e U n l h:Nat}{x:Operand}{bb ad:Option Operand}{cs:List Value}{ax:ba (fG d t x bb ad none::r) Q}(bM:eo H e U (aq F x) n cs)(hu:P.underlying t=some (.slice e))(ao:bp P e=some U)(ar:dM (aq F) bb=some l)(c4:e2 (aq F) n ad=some h)(o:l<=h)(aa:h<=n)
  (K:∀au,eo H e U au (h-l) ((cs.drop (l*U)).take ((h-l)*U))->a_ P r Q .mk (a1 F d au) H):a_ P (fG d t x bb ad none::r) Q ax F H:=OZ (e0:=true) bM hu ao ar c4 o aa K
theorem yN{d t e U bI l c:Nat}{x y:Operand}{e4 c9:IntKind}{z:Value}{ax:ba (ms d t x y::r) Q}(hu:P.underlying t=some (.slice e))(ao:bp P e=some U)(ag:bytes? P e=some bI)(aN:dA P e=some z)(dU:flat z=true)(di:z.cells.size=U)
  (J:aq F x= .int e4 (l:Int))(aK:aq F y= .int c9 (c:Int))(c7:0<U)(dY:0<bI)(my:l<=c)(ae:0<c)(bz:bI*c<=281474976710656)
  (K:a_ P r Q .mk (a1 F d (.slice (some ⟨H.length,0,none⟩) l c)) (H++[.own e false (made z (c*U))])):a_ P (ms d t x y::r) Q ax F H:=
 jM (v:= .slice (some ⟨H.length,0,none⟩) l c) rfl rfl rfl (fun R aM=> .make aM hu ao ag aN dU di J aK c7 dY my ae bz) (fun R aM=>by simp[bV,aM]) (.inl rfl) K
theorem BW{d t e U bI:Nat}{x y:Operand}{e4 c9:IntKind}{ax:ba (ms d t x y::r) Q}(hu:P.underlying t=some (.slice e))(ao:bp P e=some U)(ag:bytes? P e=some bI)(J:aq F x= .int e4 0)(aK:aq F y= .int c9 0)
  (K:a_ P r Q .mk (a1 F d (.slice (some ⟨0,0,none⟩) 0 0)) H):a_ P (ms d t x y::r) Q ax F H:=
 jM (v:= .slice (some ⟨0,0,none⟩) 0 0) rfl rfl rfl (fun R aM=> .yk aM hu ao ag J aK) (fun R aM=>by simp[bV,aM]) (.inl rfl) K
theorem te{d t e U len:Nat}{a6:List (Nat×Operand)}{z:Value}{out:List Value}{ax:ba (eF d t len a6::r) Q}(hu:P.underlying t=some (.slice e))(ao:bp P e=some U)(aN:dA P e=some z)(dU:flat z=true)(di:z.cells.size=U)
  (c7:0<U)(ar:0<len)(bz:len*U<=16777216)(aM:jd (fun i=>some (i*U,U)) (made z (len*U)) (a6.map fun p=>(p.1,aq F p.2))=some out)(dI:out.length=len*U)
  (K:a_ P r Q .mk (a1 F d (.slice (some ⟨H.length,0,none⟩) len len)) (H++[.own e false out])):a_ P (eF d t len a6::r) Q ax F H:=by
 have az:Instr.fill (fun i=>some (i*U,U)) (made z (len*U)).toArray (a6.toArray.toList.map fun p=>(p.1,aq F p.2))=some out.toArray:=by
  rw[fill_eq]
  have:(a6.toArray.toList.map fun p=>(p.1,aq F p.2))=a6.map fun p=>(p.1,aq F p.2):=by simp
  rw[this]
  simp only
  rw[aM]
  rfl
 have av:∀R:Oper,R.op= .buildSlice t len a6.toArray->fe P (aq F) H R (.slice (some ⟨H.length,0,none⟩) len len) (H++[.own e false out]):=fun R ft=> .build (out:=out.toArray) ft hu ao aN dU di c7 ar bz az (by simpa using dI)
 exact jM rfl rfl rfl av (fun R aM=>by simp[bV,aM]) (.inl rfl) K
theorem qg{d t e U:Nat}{ax:ba (eF d t 0 []::r) Q}(hu:P.underlying t=some (.slice e))(ao:bp P e=some U)(K:a_ P r Q .mk (a1 F d (.slice (some ⟨0,0,none⟩) 0 0)) H):a_ P (eF d t 0 []::r) Q ax F H:=
 jM (v:= .slice (some ⟨0,0,none⟩) 0 0) rfl rfl rfl (fun R aM=> .wk aM hu ao) (fun R aM=>by simp[bV,aM]) (.inl rfl) K
def h7(H:ab)(k e U:Nat)(v:Value)(n:Nat)(cs:List Value):Prop:=cs.length=n*U/\
 ((n=0/\(v= .slice none 0 0\/∃i,v= .slice (some ⟨0,i,none⟩) 0 0))\/∃b i cap l all,v= .slice (some ⟨b,i,none⟩) n cap/\0<cap/\n<=cap/\k<=b/\H[b]?=some (.own e l all)/\i+cap*U<=all.length/\cs=(all.drop i).take (n*U))
theorem h7.fG{H:ab}{k e U n:Nat}{v:Value}{cs:List Value}(h:h7 H k e U v n cs):eo H e U v n cs:=by
 obtain⟨o,⟨rfl,aa⟩ | ⟨b,i,cap,l,all,rfl,aY,a3,bN,ck,eU,g9⟩⟩:=h
 ·have:cs=[]:=List.eq_nil_of_length_eq_zero (by simpa using o)
  subst this
  rcases aa with rfl | ⟨i,rfl⟩
  ·exact eo.nil H e U
  ·exact eo.void H e U _
 ·have:n*U<=cap*U:=Nat.mul_le_mul_right _ a3
  exact⟨_,_,rfl,a3,o,fun _=>⟨b,i,_,all,rfl,ck,rfl,rfl,by omega,g9⟩⟩
theorem h7.ext{H H1:ab}{k e U n:Nat}{v:Value}{cs:List Value}(h:h7 H k e U v n cs)(J:Ext H H1):h7 H1 k e U v n cs:=by
 obtain⟨o,aa | ⟨b,i,cap,l,all,q⟩⟩:=h
 ·exact⟨o,.inl aa⟩
 ·exact⟨o,.inr ⟨b,i,cap,l,all,q.1,q.2.1,q.2.2.1,q.2.2.2.1,J.get_some q.2.2.2.2.1,q.2.2.2.2.2⟩⟩
theorem h7.nil(H:ab)(k e U:Nat):h7 H k e U (.slice none 0 0) 0 []:=⟨by simp,.inl ⟨rfl,.inl rfl⟩⟩
theorem h7.void(H:ab)(k e U i:Nat):h7 H k e U (.slice (some ⟨0,i,none⟩) 0 0) 0 []:=⟨by simp,.inl ⟨rfl,.inr ⟨i,rfl⟩⟩⟩
def inBlock(v:Value)(b:Nat):Prop:=∃i n c,v= .slice (some ⟨b,i,none⟩) n c
theorem Gc{d bY cJ e U bI k n m:Nat}{s x:Operand}{z:Value}{cs news:List Value}{ax:ba (ap d bY cJ s x::r) Q}(cy:h7 H k e U (aq F s) n cs)(dc:Src H U (aq F x) m m news)(hu:P.underlying bY=some (.slice e))(J:fH P cJ=true)(ao:bp P e=some U)(ag:bytes? P e=some bI)(aN:dA P e=some z)(di:z.cells.size=U)
  (dY:0<bI)(bz:(n+m)*bI<=140737488355328)(hc:(news.all (·.oneCell'))=true)(n_:news.length=m*U)(ak:k<=H.length)
  (K:∀au aH,h7 aH k e U au (n+m) (cs++news)->(∀cx:ab,cx.length<=k->Ext cx H->Ext cx aH)->(∀b X,H[b]?=some X->(inBlock (aq F s) b->X.elem?≠some e)->aH[b]?=some X)->(∀b,inBlock au b->inBlock (aq F s) b\/b=H.length)->H.length<=aH.length->a_ P r Q .mk (a1 F d au) aH):a_ P (ap d bY cJ s x::r) Q ax F H:=by
 obtain⟨ar,cy⟩:=cy
 have a4:∀R:Oper,R.op= .call {callee:= .builtin .append,args:= #[s,x],argTypes:= #[bY,cJ]}->bV P R=false:=fun R aM=>by simp[bV,aM]
 have aG:b5 P (aq F) H (.call {callee:= .builtin .append,args:= #[s,x],argTypes:= #[bY,cJ]})=none:=rfl
 by_cases hm:m=0
 ·subst hm
  have xw:news=[]:=List.eq_nil_of_length_eq_zero (by simpa using n_)
  subst xw
  obtain⟨a,iX,cap,an,sD⟩:∃a iX cap,aq F s= .slice a iX cap/\iX=n:=by
   rcases cy with⟨rfl,h | ⟨i,h⟩⟩ | ⟨b,i,cap,l,all,h,-⟩
   ·exact⟨_,_,_,h,rfl⟩
   ·exact⟨_,_,_,h,rfl⟩
   ·exact⟨_,_,_,h,rfl⟩
  refine jM (v:= .slice a iX cap) (H1:=H) rfl rfl aG (fun R aM=> .wb aM hu J ao dc an) a4 (.inl rfl) ?_
  exact K _ H (by rw[List.append_nil,Nat.add_zero,<-an];exact⟨ar,cy⟩) (fun cx _ h=>h) (fun b X h _=>h) (fun b h=> .inl (by rw[an];exact h)) (Nat.le_refl _)
 ·have sC:0<m:=by omega
  have new:∀eC:List Value,eC.length=(n+m)*U->eC=cs++news->h7 (H++[.own e true eC]) k e U (.slice (some ⟨H.length,0,none⟩) (n+m) (n+m)) (n+m) (cs++news):=fun eC o aa=>
   ⟨by rw[<-aa,o],.inr ⟨H.length,0,n+m,true,eC,rfl,by omega,Nat.le_refl _,ak,by simp,by omega,by rw[List.drop_zero,<-aa,<-o,List.take_length]⟩⟩
  rcases cy with⟨rfl,h⟩ | ⟨b,i,cap,l,all,an,aY,a3,bN,ck,eU,g9⟩
  ·have gn:cs=[]:=List.eq_nil_of_length_eq_zero (by simpa using ar)
   subst gn
   obtain⟨a,aO,an⟩:∃a:Option Addr,(a=none\/∃i,a=some ⟨0,i,none⟩)/\aq F s= .slice a 0 0:=by
    rcases h with h | ⟨i,h⟩
    ·exact⟨none,.inl rfl,h⟩
    ·exact⟨_,.inr ⟨i,rfl⟩,h⟩
   refine jM (v:= .slice (some ⟨H.length,0,none⟩) m m) (H1:=H++[.own e true news]) rfl rfl aG (fun R aM=> .wh aM hu J ao ag aN di dc sC dY (by simpa using bz) aO an) a4 (.inl rfl) ?_
   have:=new news (by simpa using n_) rfl
   simp only[Nat.zero_add]at this
   refine K _ _ (by simpa using this) (fun cx _ h=>h.snoc _ _ _) (fun b X h _=>?_) (fun b ag=>?_) (by simp)
   ·rw[List.getElem?_append_left (cH.1 h).1];exact h
   ·obtain⟨i,n,c,he⟩:=ag
    simp at he
    exact .inr he.1.1.symm
  ·by_cases gS:n+m<=cap
   ·have qT:(n+m)*U<=cap*U:=Nat.mul_le_mul_right _ gS
    have pJ:(n+m)*U=n*U+m*U:=Nat.add_mul _ _ _
    have n6:i+n*U+news.length<=all.length:=by omega
    refine jM (v:= .slice (some ⟨b,i,none⟩) (n+m) cap) (H1:=H.set b (.own e l (dg all (i+n*U) news))) rfl rfl aG (fun R aM=> .we aM hu J ao dc gS aY ck n6 hc an) a4 (.inl rfl) ?_
    have gP:b<H.length:=(cH.1 ck).1
    refine K _ _ ⟨by rw[List.length_append,ar,n_,pJ],.inr ⟨b,i,cap,l,dg all (i+n*U) news,rfl,aY,gS,bN,by simp[gP],by rw[nx n6];exact eU,?_⟩⟩ (fun cx aI h=>h.set (by omega) (by simp)) (fun ct X h c8=>?_) (fun ct c8=>?_) (by simp)
    ·rw[g9]
     have bm:dg all (i+n*U) news=all.take (i+n*U)++news++all.drop (i+n*U+news.length):=rfl
     rw[bm,List.append_assoc,List.drop_append_of_le_length (by simp;omega),List.take_append,List.drop_take]
     have aB:i+n*U-i=n*U:=by omega
     have bs:((all.drop i).take (n*U)).length=n*U:=by simp;omega
     rw[aB,bs,pJ,List.take_take,Nat.min_eq_right (by omega),Nat.add_sub_cancel_left,<-n_,List.take_append_of_le_length (Nat.le_refl _),List.take_length]
    ·have:b≠ct:=fun cX=>by
      subst cX
      rw[ck]at h
      exact c8 ⟨i,n,cap,an⟩ (by rw[<-Option.some.inj h];rfl)
     rw[List.getElem?_set_ne this];exact h
    ·obtain⟨jK,dW,dT,he⟩:=c8
     simp at he
     exact .inl (by rw[<-he.1.1];exact⟨i,n,cap,an⟩)
   ·have hd:i+n*U<=all.length:=by
     have:n*U<=cap*U:=Nat.mul_le_mul_right _ a3
     omega
    have gP:b<H.length:=(cH.1 ck).1
    have pJ:(n+m)*U=n*U+m*U:=Nat.add_mul _ _ _
    have gz:((all.drop i).take (n*U)++news).length=(n+m)*U:=by rw[List.length_append,<-g9,ar,n_,pJ]
    have fresh:∀au:Value,au= .slice (some ⟨H.length,0,none⟩) (n+m) (n+m)->∀ct,inBlock au ct->inBlock (aq F s) ct\/ct=H.length:=fun au e ct c8=>by
     obtain⟨jK,dW,dT,he⟩:=c8
     rw[e]at he
     simp at he
     exact .inr he.1.1.symm
    cases l with
    | false=>
     refine jM (v:= .slice (some ⟨H.length,0,none⟩) (n+m) (n+m)) (H1:=H++[.own e true ((all.drop i).take (n*U)++news)]) rfl rfl aG (fun R aM=> .wc aM hu J ao ag aN di dc sC dY bz ck hd (by omega) aY an) a4 (.inl rfl) ?_
     refine K _ _ (new _ gz (by rw[g9])) (fun cx _ h=>h.snoc _ _ _) (fun b X h _=>?_) (fresh _ rfl) (by simp)
     rw[List.getElem?_append_left (cH.1 h).1];exact h
    | true=>
     refine jM (v:= .slice (some ⟨H.length,0,none⟩) (n+m) (n+m)) (H1:=H.set b .dead++[.own e true ((all.drop i).take (n*U)++news)]) rfl rfl aG (fun R aM=> .wg aM hu J ao ag aN di dc sC dY bz ck hd (by omega) aY hc an) a4 (.inl rfl) ?_
     have q2:h7 (H.set b .dead++[.own e true ((all.drop i).take (n*U)++news)]) k e U (.slice (some ⟨H.length,0,none⟩) (n+m) (n+m)) (n+m) (cs++news):=
      ⟨by rw[List.length_append,ar,n_,pJ],.inr ⟨H.length,0,n+m,true,(all.drop i).take (n*U)++news,rfl,by omega,Nat.le_refl _,ak,by rw[List.getElem?_append_right (by simp)];simp,by rw[gz];omega,by rw[List.drop_zero,<-gz,List.take_length,g9]⟩⟩
     refine K _ _ q2 (fun cx aI h=>(h.set (by omega) (by simp)).snoc _ _ _) (fun ct X h c8=>?_) (fresh _ rfl) (by simp)
     have cQ:b≠ct:=fun cX=>by
      subst cX
      rw[ck]at h
      exact c8 ⟨i,n,cap,an⟩ (by rw[<-Option.some.inj h];rfl)
     rw[List.getElem?_append_left (by simp;exact(cH.1 h).1),List.getElem?_set_ne cQ];exact h
theorem vK{e0:Bool}{d t l h:Nat}{x:Operand}{bb ad:Option Operand}{s:ByteArray}{ax:ba ((⟨e0,none,some d,.slice t x bb ad none⟩:bF)::r) Q}(J:aq F x= .string s)(bO:iE P t=true)(ar:dM (aq F) bb=some l)(c4:e2 (aq F) s.size ad=some h)(o:l<=h)(aa:h<=s.size)
  (K:a_ P r Q .mk (a1 F d (.string (s.extract l h))) H):a_ P ((⟨e0,none,some d,.slice t x bb ad none⟩:bF)::r) Q ax F H:=by
 have ao:b5 P (aq F) H (.slice t x bb ad none)=some (.string (s.extract l h),H):=by
  simp only[b5,J,ar,c4]
  rw[if_pos ⟨bO,o,aa⟩]
 show bj P _ F H Q
 simp only[bj,gm,ao]
 exact⟨fun h=>by simp[hT]at h,K⟩
theorem Gg{d t l h:Nat}{x:Operand}{bb ad:Option Operand}{s:ByteArray}{ax:ba (fG d t x bb ad none::r) Q}(J:aq F x= .string s)(bO:iE P t=true)(ar:dM (aq F) bb=some l)(c4:e2 (aq F) s.size ad=some h)(o:l<=h)(aa:h<=s.size)
  (K:a_ P r Q .mk (a1 F d (.string (s.extract l h))) H):a_ P (fG d t x bb ad none::r) Q ax F H:=vK (e0:=true) J bO ar c4 o aa K
theorem abb{d s t e:Nat}{x:Operand}{xs:List Int}{ax:ba (ch d s t x::r) Q}(ao:P.underlying s=some (.slice e))(he:P.underlying e=some (.int .u8))(aA:P.underlying t=some .string)(bM:eo H e 1 (aq F x) xs.length (xs.map (Value.int .u8)))
  (K:a_ P r Q .mk (a1 F d (.string (strOfNums xs))) H):a_ P (ch d s t x::r) Q ax F H:=by
 obtain⟨a,cap,an⟩:=bM.len
 have dc:=bM.src (Nat.le_refl _)
 rw[Nat.mul_one,List.take_of_length_le (by simp)]at dc
 have aG:b5 P (aq F) H (.convert s t x)=none:=by simp only[b5,an]
 exact jM (v:= .string (strOfNums xs)) (H1:=H) rfl rfl aG (fun R aM=> .str aM ao he aA ⟨_,_,_,an⟩ dc) (fun R aM=>by simp[bV,aM,rj,ao]) (.inr (Ext.refl H)) K
end
section
variable {P:Program}
theorem gm.mono{b:Bool}{F:Fr}{H:ab}{K eg:Value->ab->Prop}(ak:∀v H1,K v H1->eg v H1){op:Op}(h:gm P b F H K op):gm P b F H eg op:=by
 have main:(match b5 P (aq F) H op with
   | some (v,H1)=>(hT op=true->b=true)/\K v H1
   | none=>jt op=true/\∃v H1,nI P (aq F) H op v H1/\(b=true\/Ext H H1)/\K v H1)->(match b5 P (aq F) H op with
   | some (v,H1)=>(hT op=true->b=true)/\eg v H1
   | none=>jt op=true/\∃v H1,nI P (aq F) H op v H1/\(b=true\/Ext H H1)/\eg v H1):=by
  cases b5 P (aq F) H op with
  | some p=>exact fun h=>⟨h.1,ak _ _ h.2⟩
  | none=>exact fun⟨o,v,H1,aa,aB,bs⟩=>⟨o,v,H1,aa,aB,ak _ _ bs⟩
 cases op<;>try exact main h
 rename_i c
 obtain⟨callee,args,k1⟩:=c
 cases callee with
 | value f=>
  simp only[gm]at h⊢
  split at h
  ·exact h.mono fun v H1 c4=>⟨c4.1,ak _ _ c4.2⟩
  ·exact h.elim
 | invoke r m=>exact main h
 | builtin b=>exact main h
theorem bj.mono:∀{l:List bF} {F:Fr} {H:ab} {Q cf:Fr->ab->Prop},(∀F H,Q F H->cf F H)->bj P l F H Q->bj P l F H cf
 | [],F,H,Q,cf,av,h=>av _ _ h
 | x::rest,F,H,Q,cf,av,h=>by
  simp only[bj]at h⊢
  split
  ·rename_i aU
   rw[aU]at h
   exact gm.mono (fun v H1=>bj.mono av) h
  ·rename_i j w aU
   rw[aU]at h
   simp only at h
   split
   ·rename_i ag
    rw[if_pos ag]at h
    exact gm.mono (fun v H1=>bj.mono av) h
   ·rename_i ag
    rw[if_neg ag]at h
    exact bj.mono av h
theorem fy.mono:∀{l:List bF} {F:Fr} {H:ab} {af W:List Nat} {Q cf:Fr->ab->Prop},(∀F H,Q F H->cf F H)->fy P l F H af W Q->fy P l F H af W cf
 | [],F,H,af,W,Q,cf,av,h=>av _ _ h
 | x::rest,F,H,af,W,Q,cf,av,h=>by
  simp only[fy]at h⊢
  split
  ·rename_i aU
   rw[aU]at h
   exact gM.mono (fun v H1 fK fL=>fy.mono av) h
  ·rename_i j w aU
   rw[aU]at h
   simp only at h
   split
   ·rename_i ag
    rw[if_pos ag]at h
    exact gM.mono (fun v H1 fK fL=>fy.mono av) h
   ·rename_i ag
    rw[if_neg ag]at h
    exact fy.mono av h
theorem eA.mono:∀{x:gF} {F:Fr} {H:ab} {Q cf:dH->Fr->ab->Prop},(∀e F H,Q e F H->cf e F H)->eA P x F H Q->eA P x F H cf
 | .skip,F,H,Q,cf,av,h=>av _ _ _ h
 | .ret,F,H,Q,cf,av,h=>av _ _ _ h
 | .exit id,F,H,Q,cf,av,h=>av _ _ _ h
 | .seq x y,F,H,Q,cf,av,h=>eA.mono (x:=x) (fun e ay H1 o=>by
   cases e with
   | normal=>exact eA.mono (x:=y) av o
   | exit id=>exact av _ _ _ o
   | ret=>exact av _ _ _ o) h
 | .cond c x y,F,H,Q,cf,av,h=>by
  simp only[eA]at h⊢
  split
  ·rename_i b ag
   rw[ag]at h
   simp only at h
   cases b with
   | true=>exact eA.mono (x:=x) av h
   | false=>exact eA.mono (x:=y) av h
  ·rename_i ag
   split at h
   ·rename_i b c8;exact(ag b c8).elim
   ·exact h
 | .block id x,F,H,Q,cf,av,h=>eA.mono (x:=x) (fun e ay H1 o=>by
   cases e with
   | normal=>exact av _ _ _ o
   | ret=>exact av _ _ _ o
   | exit hS=>
    simp only[pB]at o⊢
    split
    ·rename_i ad;rw[if_pos ad]at o;exact av _ _ _ o
    ·rename_i ad;rw[if_neg ad]at o;exact av _ _ _ o) h
 | .loop x,F,H,Q,cf,av,h=>by
  simp only[eA]at h⊢
  induction h with
  | round ai ag ed a0=>
   exact .round ai (eA.mono (x:=x) (fun e ay H1 o=>by
    cases e with
    | normal=>exact o
    | exit id=>exact av _ _ _ o
    | ret=>exact av _ _ _ o) ag) a0
 | .ops l,F,H,Q,cf,av,h=>bj.mono (fun ay H1 o=>av _ _ _ o) h
 | .opsL l,F,H,Q,cf,av,h=>fy.mono (fun ay H1 o=>av _ _ _ o) h
def GN(af:Fr->ab->Prop):dH->Fr->ab->Prop
 | .normal,F,H=>af F H
 | _,_,_=>False
@[simp] theorem afo(af:Fr->ab->Prop)(F:Fr)(H:ab):GN af .normal F H=af F H:=rfl
theorem g1.cut{x:gF}{Q:dH->Fr->ab->Prop}{K:Fr->ab->Prop}{F:Fr}{H:ab}{ax:ba x (nw K Q)}(af:Fr->ab->Prop)(o:∀eg:Fr->ab->Prop,(∀ay H1,af ay H1->eg ay H1)->g1 P x (GN eg) .mk F H)(aa:∀ay H1,af ay H1->K ay H1):g1 P x (nw K Q) ax F H:=
 eA.mono (x:=x) (fun e ay H1 h=>by cases e with
  | normal=>exact aa _ _ h
  | exit id=>exact h.elim
  | ret=>exact h.elim) (o af fun _ _ h=>h)
end
def c6(H:ab)(e:Nat)(v:Value)(l:List Nat):Prop:=eo H e 1 v l.length (l.map fun(n:Nat)=>Value.int .u32 (n:Int))/\∀x∈l,x<4294967296
theorem c6.ext{H H1:ab}{e:Nat}{v:Value}{l:List Nat}(h:c6 H e v l)(J:Ext H H1):c6 H1 e v l:=⟨h.1.ext J,h.2⟩
theorem c6.at{H:ab}{e:Nat}{v:Value}{l:List Nat}(h:c6 H e v l)(aG:0<l.length):∃b i cap X all,v= .slice (some ⟨b,i,none⟩) l.length cap/\H[b]?=some X/\X.cells?=some all/\i+l.length<=all.length/\∀k,k<l.length->all[i+k]?=some (.int .u32 (l[k]?.getD 0:Nat)):=by
 obtain⟨b,i,cap,X,all,o,aa,aB,bs,bJ⟩:=h.1.at aG
 refine⟨b,i,cap,X,all,o,aa,aB,by omega,fun k ak=>?_⟩
 rw[bJ k (by omega),List.getElem?_map,bB ak]
 simp[bB ak]
theorem c6.len{H:ab}{e:Nat}{v:Value}{l:List Nat}(h:c6 H e v l):∃a cap,v= .slice a l.length cap:=h.1.len
theorem c6.lt{H:ab}{e:Nat}{v:Value}{l:List Nat}(h:c6 H e v l)(k:Nat):l[k]?.getD 0<4294967296:=by
 by_cases ak:k<l.length
 ·rw[bB ak];exact h.2 _ (List.getElem_mem ak)
 ·rw[List.getElem?_eq_none (by omega)];decide
theorem OL(l:List Nat)(h:0<l.length):l.take (l.length-1)++[l[l.length-1]?.getD 0]=l:=by
 rw[bB (by omega),Option.getD_some,<-List.dropLast_eq_take,<-List.getLast_eq_getElem (by intro e;simp[e]at h),List.dropLast_concat_getLast]
def val:List Nat->Nat
 | []=>0
 | x::l=>x+4294967296*val l
theorem nB(a b:List Nat):val (a++b)=val a+4294967296^a.length*val b:=by
 induction a with
 | nil=>simp[val]
 | cons x a a0=>simp only[List.cons_append,val,a0,List.length_cons,Nat.pow_succ];grind
theorem Gs(k:Nat):val (List.replicate k 0)=0:=by
 induction k with
 | zero=>rfl
 | succ k a0=>simp[List.replicate_succ,val,a0]
theorem kb{l:List Nat}(h:∀x∈l,x<4294967296):val l<4294967296^l.length:=by
 induction l with
 | nil=>simp[val]
 | cons x l a0=>
  have o:=h x (by simp)
  have aa:=a0 fun y aK=>h y (by simp[aK])
  simp only[val,List.length_cons,Nat.pow_succ]
  omega
def Trim(l:List Nat):Prop:=l.getLast?≠some 0
theorem Trim.nil:Trim []:=by simp[Trim]
theorem Trim.le{l:List Nat}(h:Trim l)(aG:l≠[]):4294967296^(l.length-1)<=val l:=by
 have e:l=l.take (l.length-1)++[l[l.length-1]?.getD 0]:=(OL l (List.length_pos_iff.2 aG)).symm
 have aI:l[l.length-1]?.getD 0≠0:=fun aI=>h (by
  rw[List.getLast?_eq_getElem?]
  rw[bB (by have:=List.length_pos_iff.2 aG;omega)]at aI⊢
  simpa using aI)
 have ar:(l.take (l.length-1)).length=l.length-1:=by simp
 have:val l=val (l.take (l.length-1))+4294967296^(l.length-1)*(l[l.length-1]?.getD 0):=by
  conv=>lhs;rw[e,nB,ar]
  simp[val]
 rw[this]
 have:4294967296^(l.length-1)*1<=4294967296^(l.length-1)*(l[l.length-1]?.getD 0):=Nat.mul_le_mul_left _ (by omega)
 omega
theorem Trim.zero{l:List Nat}(h:Trim l):val l=0↔l=[]:=by
 constructor
 ·intro aI
  by_cases aG:l=[]
  ·exact aG
  ·have:=h.le aG
   have:=Nat.pow_pos (n:=l.length-1) (show 0<4294967296 by decide)
   omega
 ·rintro rfl;rfl
theorem Trim.vl{a b:List Nat}(ag:Trim b)(aO:∀x∈a,x<4294967296)(h:a.length<b.length):val a<val b:=by
 have o:=kb aO
 have aa:=ag.le (by intro e;simp[e]at h)
 have:4294967296^a.length<=4294967296^(b.length-1):=Nat.pow_le_pow_right (by decide) (by omega)
 omega
theorem Trim.length_le{l:List Nat}(h:Trim l){n:Nat}(an:val l<4294967296^n):l.length<=n:=by
 by_cases aG:l=[]
 ·simp[aG]
 ·have o:=h.le aG
  have:4294967296^(l.length-1)<4294967296^n:=by omega
  have:=(Nat.pow_lt_pow_iff_right (show 1<4294967296 by decide)).1 this
  omega
section
variable {P:Program} {r:List bF} {F:Fr} {H:ab} {Q:Fr->ab->Prop}
theorem BH:∀(aE cs pre:List Value),cs.length=aE.length->oy (pre++cs) pre.length aE=pre++aE
 | [],cs,pre,h=>by
  have:cs=[]:=List.eq_nil_of_length_eq_zero (by simpa using h)
  simp[oy,this]
 | v::aE,[],pre,h=>by simp at h
 | v::aE,c::cs,pre,h=>by
  simp only[oy]
  have o:(pre++c::cs).set pre.length v=(pre++[v])++cs:=by
   rw[List.set_append_right _ _ (Nat.le_refl _),Nat.sub_self]
   simp
  have aa:pre.length+1=(pre++[v]).length:=by simp
  rw[o,aa,BH aE cs (pre++[v]) (by simpa using h)]
  simp
theorem vm(z:Value)(n:Nat):(made z n).length=n:=by simp[made]
theorem aa9{e0:Bool}{d1 d2 t bY cJ e U bI k n:Nat}{s x:Operand}{z:Value}{cs:List Value}{ax:ba ((⟨e0,none,some d1,.buildSlice t 1 #[(0,x)]⟩:bF)::ap d2 bY cJ s (T d1)::r) Q}(cy:h7 H k e U (aq F s) n cs)(fu:∀v,aq (a1 F d1 v) s=aq F s)
  (bO:P.underlying t=some (.slice e))(hu:P.underlying bY=some (.slice e))(J:fH P cJ=true)(ao:bp P e=some U)(ag:bytes? P e=some bI)(aN:dA P e=some z)(dU:flat z=true)(di:z.cells.size=U)(c7:0<U)(q9:U<=1000)
  (dY:0<bI)(bz:(n+1)*bI<=140737488355328)(an:(aq F x).cells.toList.length=U)(hc:((aq F x).cells.toList.all (·.oneCell'))=true)(ak:k<=H.length)
  (K:∀u au aH,h7 aH k e U au (n+1) (cs++(aq F x).cells.toList)->(∀cx:ab,cx.length<=k->Ext cx H->Ext cx aH)->(∀b X,H[b]?=some X->(inBlock (aq F s) b->X.elem?≠some e)->aH[b]?=some X)->a_ P r Q .mk (a1 (a1 F d1 u) d2 au) aH):
  a_ P ((⟨e0,none,some d1,.buildSlice t 1 #[(0,x)]⟩:bF)::ap d2 bY cJ s (T d1)::r) Q ax F H:=by
 have eO:(made z (1*U)).length=U:=by rw[vm,Nat.one_mul]
 have aM:jd (fun i=>some (i*U,U)) (made z (1*U)) [(0,aq F x)]=some (aq F x).cells.toList:=by
  simp only[jd]
  rw[if_pos ⟨an,by rw[eO];omega⟩]
  have:=BH (aq F x).cells.toList (made z (1*U)) [] (by rw[eO,an])
  simpa using this
 have az:Instr.fill (fun i=>some (i*U,U)) (made z (1*U)).toArray ((#[(0,x)]:Array (Nat×Operand)).toList.map fun p=>(p.1,aq F p.2))=some (aq F x).cells:=by
  rw[fill_eq]
  simp only[List.map_cons,List.map_nil]
  rw[aM]
  simp
 have av:∀R:Oper,R.op= .buildSlice t 1 #[(0,x)]->fe P (aq F) H R (.slice (some ⟨H.length,0,none⟩) 1 1) (H++[.own e false (aq F x).cells.toList]):=fun R ft=> .build (out:=(aq F x).cells) ft bO ao aN dU di c7 (by omega) (by omega) az (by have:=an;simp at this;omega)
 refine jM rfl rfl rfl av (fun R aM=>by simp[bV,aM]) (.inr ((Ext.refl H).snoc _ _ _)) ?_
 show a_ P (ap d2 bY cJ s (T d1)::r) Q .mk (a1 F d1 _) _
 have dc:Src (H++[.own e false (aq F x).cells.toList]) U (.slice (some ⟨H.length,0,none⟩) 1 1) 1 1 (aq F x).cells.toList:=by
  have:=Src.row (H:=H++[.own e false (aq F x).cells.toList]) (U:=U) (b:=H.length) (i:=0) (n:=1) (m:=1) (c:=1) (x:= .own e false (aq F x).cells.toList) (cs:=(aq F x).cells.toList) (by simp) rfl (by omega) (Nat.le_refl _) (by omega)
  rw[List.drop_zero,Nat.one_mul,<-an,List.take_length]at this
  rw[an]at this
  exact this
 have mo:h7 (H++[.own e false (aq F x).cells.toList]) k e U (aq (a1 F d1 (.slice (some ⟨H.length,0,none⟩) 1 1)) s) n cs:=by
  rw[fu]
  exact cy.ext ((Ext.refl H).snoc _ _ _)
 refine Gc mo (by simpa[aq,T,a1]using dc) hu J ao ag aN di dY bz hc (by omega) (by simp;omega) fun au aH o aa aB _ _=>?_
 refine K _ au aH o (fun cx aI br=>aa cx aI (br.snoc _ _ _)) (fun b X aT ag=>aB b X ?_ (by rw[fu];exact ag))
 rw[List.getElem?_append_left (cH.1 aT).1]
 exact aT
end
def cv(a8:Nat->Option bK)(H:ab):ab:=H.mapIdx fun b x=>(a8 b).getD x
def Fit(a8:Nat->Option bK)(H:ab):Prop:=∀b x,a8 b=some x->H[b]?=some .dead/\∃e l cs,x= .own e l cs
section
variable {a8:Nat->Option bK} {H:ab}
theorem j_(a8:Nat->Option bK)(H:ab):(cv a8 H).length=H.length:=by simp[cv]
theorem kN(a8:Nat->Option bK)(H:ab)(b:Nat):(cv a8 H)[b]?=(H[b]?).map fun x=>(a8 b).getD x:=by simp[cv]
theorem Fit.yq{X:bK}{b:Nat}(h:Fit a8 H)(aT:H[b]?=some X)(aA:X≠ .dead):a8 b=none:=by
 cases a2:a8 b with
 | none=>rfl
 | some x=>have:=(h b x a2).1;rw[aT]at this;exact absurd (Option.some.inj this) aA
theorem Fit.Y_{X:bK}{cs:List Value}{b:Nat}(h:Fit a8 H)(aT:H[b]?=some X)(ae:X.cells?=some cs):a8 b=none:=h.yq aT (by rintro rfl;simp[bK.cells?]at ae)
theorem Fit.Za{X:bK}{e:TypeId}{b:Nat}(h:Fit a8 H)(aT:H[b]?=some X)(ae:X.elem?=some e):a8 b=none:=h.yq aT (by rintro rfl;simp[bK.elem?]at ae)
theorem Fit.vp{e:TypeId}{l:Bool}{cs:List Value}{b:Nat}(h:Fit a8 H)(aT:H[b]?=some (.own e l cs)):a8 b=none:=h.yq aT (by simp)
theorem Bq{b:Nat}(a2:a8 b=none):(cv a8 H)[b]?=H[b]?:=by rw[kN,a2];cases H[b]?<;>rfl
theorem Fit.get{X:bK}{b:Nat}(h:Fit a8 H)(aT:H[b]?=some X)(aA:X≠ .dead):(cv a8 H)[b]?=some X:=by rw[Bq (h.yq aT aA)];exact aT
theorem Fit.tW{X:bK}{cs:List Value}{b:Nat}(h:Fit a8 H)(aT:H[b]?=some X)(ae:X.cells?=some cs):(cv a8 H)[b]?=some X:=by rw[Bq (h.Y_ aT ae)];exact aT
theorem Fit.lt{b:Nat}{x:bK}(h:Fit a8 H)(a2:a8 b=some x):b<H.length:=(cH.1 (h b x a2).1).1
theorem Fit.app(h:Fit a8 H)(N:ab):Fit a8 (H++N)/\cv a8 (H++N)=cv a8 H++N:=by
 refine⟨fun b x a2=>?_,?_⟩
 ·rw[List.getElem?_append_left (h.lt a2)];exact h b x a2
 ·apply List.ext_getElem?
  intro b
  rw[kN]
  by_cases ag:b<H.length
  ·rw[List.getElem?_append_left ag,List.getElem?_append_left (by rw[j_];exact ag),kN]
  ·have a2:a8 b=none:=by
    cases a2:a8 b with
    | none=>rfl
    | some x=>exact absurd (h.lt a2) ag
   rw[List.getElem?_append_right (by omega),List.getElem?_append_right (by rw[j_];omega),j_,a2]
   cases N[b-H.length]?<;>rfl
theorem Fit.set{b:Nat}(h:Fit a8 H)(a2:a8 b=none)(x:bK):Fit a8 (H.set b x)/\cv a8 (H.set b x)=(cv a8 H).set b x:=by
 refine⟨fun c y ae=>?_,?_⟩
 ·have:b≠c:=fun e=>by rw[e,ae]at a2;cases a2
  rw[List.getElem?_set_ne this];exact h c y ae
 ·apply List.ext_getElem?
  intro c
  rw[kN]
  by_cases DL:b=c
  ·subst DL
   rw[a2]
   by_cases ar:b<H.length
   ·rw[List.getElem?_set_self ar,List.getElem?_set_self (by rw[j_];exact ar)];rfl
   ·rw[List.getElem?_eq_none (by simp;omega),List.getElem?_eq_none (by simp[j_];omega)];rfl
  ·rw[List.getElem?_set_ne DL,List.getElem?_set_ne DL,kN]
theorem rE{U m n:Nat}{v:Value}{news:List Value}(az:Fit a8 H)(h:Src H U v m n news):Src (cv a8 H) U v m n news:=by
 cases h with
 | vW=>exact .vW
 | row J ae aG hm bz=>exact .row (az.tW J ae) ae aG hm bz
 | str o=>exact .str o
theorem CU{H1:ab}(az:Fit a8 H)(h:Ext H H1):Ext (cv a8 H) (cv a8 H1):=by
 obtain⟨N,rfl,aG⟩:=h
 exact⟨N,(az.app N).2,aG⟩
theorem Nt{P:Program}{aJ:Operand->Value}{R:Oper}{v:Value}{H1:ab}(az:Fit a8 H)(h:fe P aJ H R v H1):fe P aJ (cv a8 H) R v (cv a8 H1)/\Fit a8 H1:=by
 have ap:∀X:bK,Fit a8 (H++[X])/\cv a8 (H++[X])=cv a8 H++[X]:=fun X=>az.app [X]
 have ar:=j_ a8 H
 cases h with
 | s9 ao uS an h=>exact⟨.s9 ao uS an h,az⟩
 | alloc h aN dU ao=>refine⟨?_,(ap _).1⟩;rw[(ap _).2,<-ar];exact .alloc h aN dU ao
 | box h ao=>refine⟨?_,(ap _).1⟩;rw[(ap _).2,<-ar];exact .box h ao
 | yd h aO J aT ae an=>exact⟨.yd h aO J (az.tW aT ae) ae an,az⟩
 | ye h aO ao J aT ae bz=>exact⟨.ye h aO ao J (az.tW aT ae) ae bz,az⟩
 | store h ao J aT bz o=>obtain⟨aY,a3⟩:=az.set (az.vp aT) (.own _ _ _);refine⟨?_,aY⟩;rw[a3];exact .store h ao J (az.get aT (by simp)) bz o
 | slice h hu ao J aT he ar eI o aa a5=>exact⟨.slice h hu ao J (by rw[Bq (az.Za aT he)];exact aT) he ar eI o aa a5,az⟩
 | yE h hu ao J qT ar eI=>exact⟨.yE h hu ao J qT ar eI,az⟩
 | yF h hu ao J ar eI=>exact⟨.yF h hu ao J ar eI,az⟩
 | BM h hu ao J ar eI hm aB=>exact⟨.BM h hu ao J ar eI hm aB,az⟩
 | BL h hu ao J ar eI hm=>exact⟨.BL h hu ao J ar eI hm,az⟩
 | make h hu ao ag aN dU di J aK c7 dY my ae bz=>refine⟨?_,(ap _).1⟩;rw[(ap _).2,<-ar];exact .make h hu ao ag aN dU di J aK c7 dY my ae bz
 | yk h hu ao ag J aK=>exact⟨.yk h hu ao ag J aK,az⟩
 | build h hu ao aN dU di c7 dG bz Uf sE=>refine⟨?_,(ap _).1⟩;rw[(ap _).2,<-ar];exact .build h hu ao aN dU di c7 dG bz Uf sE
 | wk h hu ao=>exact⟨.wk h hu ao,az⟩
 | wb h hu J ao dc an=>exact⟨.wb h hu J ao (rE az dc) an,az⟩
 | wh h hu J ao ag aN di dc aG dY bz aO an=>refine⟨?_,(ap _).1⟩;rw[(ap _).2,<-ar];exact .wh h hu J ao ag aN di (rE az dc) aG dY bz aO an
 | we h hu J ao dc gS ae aT bz hc an=>obtain⟨aY,a3⟩:=az.set (az.vp aT) (.own _ _ _);refine⟨?_,aY⟩;rw[a3];exact .we h hu J ao (rE az dc) gS ae (az.get aT (by simp)) bz hc an
 | wc h hu J ao ag aN di dc aG dY bz aT hd gS ae an=>refine⟨?_,(ap _).1⟩;rw[(ap _).2,<-ar];exact .wc h hu J ao ag aN di (rE az dc) aG dY bz (az.get aT (by simp)) hd gS ae an
 | wg h hu J ao ag aN di dc aG dY bz aT hd gS ae hc an=>
  obtain⟨aY,a3⟩:=az.set (az.vp aT) .dead
  obtain⟨bN,ck⟩:=aY.app [.own _ true _]
  refine⟨?_,bN⟩
  rw[ck,a3,<-ar]
  exact .wg h hu J ao ag aN di (rE az dc) aG dY bz (az.get aT (by simp)) hd gS ae hc an
 | copy h hu ao dc aG jI aT bz hc an=>obtain⟨aY,a3⟩:=az.set (az.vp aT) (.own _ _ _);refine⟨?_,aY⟩;rw[a3];exact .copy h hu ao (rE az dc) aG jI (az.get aT (by simp)) bz hc an
 | wu h hu ao dc aG an=>exact⟨.wu h hu ao (rE az dc) aG an,az⟩
 | str h ao he aA ld dc=>exact⟨.str h ao he aA ld (rE az dc),az⟩
theorem Z7{P:Program}{t:List Value}{rs:List ResultVar}{aE:List Value}(az:Fit a8 H)(h:mh P t H rs aE):mh P t (cv a8 H) rs aE:=by
 induction h with
 | nil=>exact .nil
 | tmp ao a0=>exact .tmp a0
 | zt aO J aT ae an ao a0=>exact .zt aO J (az.tW aT ae) ae an a0
 | zu aO aG J aT ae bz ao a0=>exact .zu aO aG J (az.tW aT ae) ae bz a0
def ps.heap:ps->ab
 | .code _ _ H=>H
 | .op _ _ _ H=>H
 | .call _ _ H=>H
def Out.heap:Out->ab
 | .code _ _ H=>H
 | .val _ H=>H
def Yw(a8:Nat->Option bK):ps->ps
 | .code c t H=> .code c t (cv a8 H)
 | .op ops R t H=> .op ops R t (cv a8 H)
 | .call f args H=> .call f args (cv a8 H)
def Zg(a8:Nat->Option bK):Out->Out
 | .code e t H=> .code e t (cv a8 H)
 | .val v H=> .val v (cv a8 H)
theorem YC{P:Program}{ops:Array Oper}{R:Oper}{t:List Value}{H1:ab}{v:Value}{g:Option (Nat×Option bK)}(az:Fit a8 H)(h:oF P ops R t H v H1 g):oF P ops R t (cv a8 H) v (cv a8 H1) g/\Fit a8 H1:=by
 cases g with
 | none=>obtain⟨o,rfl⟩:=h;exact⟨⟨o,rfl⟩,az⟩
 | some bI=>
  obtain⟨b,y⟩:=bI
  obtain⟨o,aa,aB,bs,bJ,dP⟩:=h
  have a2:a8 b=none:=az.yq (bB aB) (by rw[bB aB]at bs;exact fun e=>bs (by rw[e]))
  have he:=Bq (H:=H) a2
  cases y with
  | none=>
   simp only[mF]at bJ
   subst bJ
   exact⟨⟨o,aa,by rw[j_];exact aB,by rw[he];exact bs,rfl,fun aH se=>dP aH (by rw[se,he])⟩,az⟩
  | some x=>
   simp only[mF]at bJ
   subst bJ
   obtain⟨aY,a3⟩:=az.set a2 x
   exact⟨⟨o,aa,by rw[j_];exact aB,by rw[he];exact bs,a3,fun aH se=>dP aH (by rw[se,he])⟩,aY⟩
theorem Z4{P:Program}{j:ps}{R:Out}(h:dX P j R):Fit a8 j.heap->dX P (Yw a8 j) (Zg a8 R)/\Fit a8 R.heap:=by
 induction h with
 | skip=>exact fun az=>⟨.skip,az⟩
 | ret=>exact fun az=>⟨.ret,az⟩
 | exit=>exact fun az=>⟨.exit,az⟩
 | BG o aa lg p1=>exact fun az=>let⟨ee,f1⟩:=lg az;let⟨fF,f2⟩:=p1 f1;⟨.BG ee fF,f2⟩
 | yz o he lg=>exact fun az=>let⟨ee,f1⟩:=lg az;⟨.yz ee he,f1⟩
 | cond ae ak h a0=>exact fun az=>let⟨ee,f1⟩:=a0 az;⟨.cond ae ak ee,f1⟩
 | block h a0=>exact fun az=>let⟨ee,f1⟩:=a0 az;⟨.block ee,f1⟩
 | Bf o aa lg p1=>exact fun az=>let⟨ee,f1⟩:=lg az;let⟨fF,f2⟩:=p1 f1;⟨.Bf ee fF,f2⟩
 | yg o he lg=>exact fun az=>let⟨ee,f1⟩:=lg az;⟨.yg ee he,f1⟩
 | region T V aZ ak h bc aA a0=>
  rename_i id ops draw
  intro az
  have n7:∀i,i<=ops.size->Fit a8 (aZ i):=by
   intro i
   induction i with
   | zero=>exact fun _=>az
   | succ i E5=>exact fun ad=>(a0 i _ (Array.getElem?_eq_getElem (show i<ops.size by omega)) (E5 (by omega))).2
  have lt:∀{i:Nat} {R:Oper},ops[i]?=some R->i<=ops.size:=fun aM=>Nat.le_of_lt (Array.getElem?_eq_some_iff.1 aM).1
  exact⟨.region T V (fun i=>cv a8 (aZ i)) ak (fun i R aM=>(a0 i R aM (n7 i (lt aM))).1) bc (fun uP=>⟨(aA uP).1,fun i R aM a4=>((aA uP).2 i R aM a4).imp (fun x=>x) fun he=>CU (n7 i (lt aM)) he⟩),n7 _ (Nat.le_refl _)⟩
 | BC T V aZ ef ak h bc ew ar aA u9 a0=>
  rename_i id ops draw
  intro az
  have n7:∀i,i<=ops.size->Fit a8 (aZ i):=by
   intro i
   induction i with
   | zero=>exact fun _=>az
   | succ i E5=>exact fun ad=>(a0 i _ (Array.getElem?_eq_getElem (show i<ops.size by omega)) (E5 (by omega))).2
  have lt:∀{i:Nat} {R:Oper},ops[i]?=some R->i<=ops.size:=fun aM=>Nat.le_of_lt (Array.getElem?_eq_some_iff.1 aM).1
  exact⟨.BC T V (fun i=>cv a8 (aZ i)) ef ak (fun i R aM=>(a0 i R aM (n7 i (lt aM))).1) bc ew (fun i R aM=>(YC (n7 i (lt aM)) (ar i R aM)).1) aA u9,n7 _ (Nat.le_refl _)⟩
 | ta hw=>exact fun az=>⟨.ta hw,az⟩
 | vs hw a4 h=>exact fun az=>⟨.vs hw a4 h,az⟩
 | rq hw a4 h=>exact fun az=>let⟨aY,a3⟩:=Nt az h;⟨.rq hw a4 aY,a3⟩
 | vr hw a4 aM xi aU aG ag h a0=>exact fun az=>let⟨ee,f1⟩:=a0 az;⟨.vr hw a4 aM xi aU aG ag ee,f1⟩
 | call xi ag h he al a0=>exact fun az=>let⟨ee,f1⟩:=a0 az;⟨.call xi ag ee he (Z7 f1 al),f1⟩
 | zr h aM a0=>
  intro az
  obtain⟨ee,f1⟩:=a0 az
  obtain⟨e,l,cs,J⟩:=aM
  obtain⟨aY,a3⟩:=f1.set (f1.vp J) .dead
  refine⟨?_,aY⟩
  show dX P _ (.val _ (cv a8 (List.set _ _ .dead)))
  simp only[Out.heap]at a3
  rw[a3]
  exact .zr ee ⟨e,l,cs,f1.get J (by simp)⟩
theorem aP.o_{P:Program}{f:FuncId}{args:List Value}{Q:Value->ab->Prop}(az:Fit a8 H)(h:aP P f args H Q):aP P f args (cv a8 H) fun v H1=>∃aH,H1=cv a8 aH/\Fit a8 aH/\Q v aH:=by
 obtain⟨v,H1,⟨ae,al⟩ | ⟨aO,rfl⟩,av⟩:=h
 ·obtain⟨ee,f1⟩:=Z4 al (a8:=a8) az
  exact⟨v,_,.inl ⟨ae,ee⟩,H1,rfl,f1,av⟩
 ·exact⟨v,_,.inr ⟨aO,rfl⟩,H1,rfl,az,av⟩
theorem QB{b:Nat}{cs:List Value}(az:Fit a8 H)(h:iL H b=some cs):iL (cv a8 H) b=some cs:=by
 obtain⟨X,aT,ae⟩:=zv h
 unfold iL
 rw[az.tW aT ae]
 exact ae
theorem aaD{P:Program}{aJ:Operand->Value}{op:Op}{v:Value}{H1:ab}(az:Fit a8 H)(h:b5 P aJ H op=some (v,H1)):b5 P aJ (cv a8 H) op=some (v,cv a8 H1)/\Fit a8 H1:=by
 cases op<;>simp only[b5]at h⊢<;>try (first | (simp at h;done) | (cases h;done))
 case move=>simp at h;obtain⟨rfl,rfl⟩:=h;exact⟨rfl,az⟩
 case assign=>simp at h;obtain⟨rfl,rfl⟩:=h;exact⟨rfl,az⟩
 case pick=>split at h<;>simp at h;obtain⟨rfl,rfl⟩:=h;exact⟨rfl,az⟩
 case alloc=>
  split at h
  ·split at h
   ·rename_i ae
    simp at h;obtain⟨rfl,rfl⟩:=h
    rw[if_pos ae,j_,(az.app _).2]
    exact⟨rfl,(az.app _).1⟩
   ·cases h
  ·cases h
 case box=>
  split at h
  ·rename_i ae
   simp at h;obtain⟨rfl,rfl⟩:=h
   rw[if_pos ae,j_,(az.app _).2]
   exact⟨rfl,(az.app _).1⟩
  ·cases h
 case load ty x=>
  split at h
  ·rename_i b i J
   cases gn:iL H b with
   | none=>rw[gn]at h;cases h
   | some cs=>
    rw[gn]at h
    rw[QB az gn]
    revert h
    simp only
    cases dq P ty with
    | none=>simp
    | some g=>
     cases g with
     | false=>simp only;cases cs[i]?<;>simp only[Option.map_none,Option.map_some,Option.some.injEq,Prod.mk.injEq,reduceCtorEq,false_implies,and_imp];try (rintro rfl rfl;exact⟨⟨rfl,rfl⟩,az⟩)
     | true=>
      simp only
      cases bp P ty with
      | none=>simp
      | some n=>
       simp only
       split
       ·simp only[Option.map_none,Option.map_some,Option.some.injEq,Prod.mk.injEq,reduceCtorEq,false_implies,and_imp];try (rintro rfl rfl;exact⟨⟨rfl,rfl⟩,az⟩)
       ·simp
  ·cases h
 case store ty x y=>
  split at h
  ·rename_i b i J
   split at h
   ·rename_i e l cs aT
    split at h
    ·rename_i ae
     simp at h;obtain⟨rfl,rfl⟩:=h
     obtain⟨aY,a3⟩:=az.set (az.vp aT) (.own e l (dg cs i (aJ y).cells.toList))
     rw[az.get aT (by simp)]
     simp only
     rw[if_pos ae,a3]
     exact⟨rfl,aY⟩
    ·cases h
   ·cases h
  ·cases h
 case nilCheck=>split at h<;>simp at h;obtain⟨rfl,rfl⟩:=h;exact⟨rfl,az⟩
 case binOp=>obtain⟨u,hu,he⟩:=Option.map_eq_some_iff.1 h;simp at he;obtain⟨rfl,rfl⟩:=he;rw[hu];exact⟨rfl,az⟩
 case unOp=>obtain⟨u,hu,he⟩:=Option.map_eq_some_iff.1 h;simp at he;obtain⟨rfl,rfl⟩:=he;rw[hu];exact⟨rfl,az⟩
 case convert=>
  split at h
  ·split at h<;>simp at h;obtain⟨rfl,rfl⟩:=h;exact⟨rfl,az⟩
  ·split at h
   ·rename_i ae;simp at h;obtain⟨rfl,rfl⟩:=h;rw[if_pos ae];exact⟨rfl,az⟩
   ·cases h
  ·cases h
 case makeInterface=>
  split at h
  ·rename_i ae;simp at h;obtain⟨rfl,rfl⟩:=h;rw[if_pos ae];exact⟨rfl,az⟩
  ·cases h
 case makeFunc=>simp at h;obtain⟨rfl,rfl⟩:=h;exact⟨rfl,az⟩
 case fieldAddr=>
  split at h
  ·obtain⟨u,hu,he⟩:=Option.map_eq_some_iff.1 h;simp at he;obtain⟨rfl,rfl⟩:=he;rw[hu];exact⟨rfl,az⟩
  ·cases h
 case field=>
  split at h
  ·split at h
   ·obtain⟨u,hu,he⟩:=Option.map_eq_some_iff.1 h;simp at he;obtain⟨rfl,rfl⟩:=he;simp only[hu];exact⟨rfl,az⟩
   ·cases h
  ·cases h
 case indexAddr=>
  split at h
  ·split at h
   ·split at h
    ·split at h
     ·rename_i ae;simp at h;obtain⟨rfl,rfl⟩:=h;rw[if_pos ae];exact⟨rfl,az⟩
     ·cases h
    ·cases h
   ·cases h
  ·cases h
 case index=>
  split at h
  ·split at h
   ·rename_i ae;simp only[Option.some.injEq,Prod.mk.injEq]at h;obtain⟨rfl,rfl⟩:=h;rw[if_pos ae];exact⟨rfl,az⟩
   ·cases h
  ·cases h
 case extract=>
  split at h
  ·obtain⟨u,hu,he⟩:=Option.map_eq_some_iff.1 h;simp at he;obtain⟨rfl,rfl⟩:=he;rw[hu];exact⟨rfl,az⟩
  ·cases h
 case build=>
  split at h
  ·split at h
   ·rename_i ae;obtain⟨u,hu,he⟩:=Option.map_eq_some_iff.1 h;simp at he;obtain⟨rfl,rfl⟩:=he;rw[if_pos ae,hu];exact⟨rfl,az⟩
   ·cases h
  ·cases h
 case call c=>
  unfold rB at h⊢
  split at h
  ·split at h
   ·split at h
    ·simp at h;obtain⟨rfl,rfl⟩:=h;exact⟨rfl,az⟩
    ·cases h
   ·split at h
    ·rename_i ae;simp at h;obtain⟨rfl,rfl⟩:=h;rw[if_pos ae];exact⟨rfl,az⟩
    ·cases h
   ·cases h
  ·split at h<;>simp at h;obtain⟨rfl,rfl⟩:=h;exact⟨rfl,az⟩
  ·split at h<;>simp at h;obtain⟨rfl,rfl⟩:=h;exact⟨rfl,az⟩
  ·cases h
 case slice ty x bb ad fk=>
  cases fk with
  | some m=>simp at h
  | none=>
   simp only at h⊢
   split at h
   ·split at h
    ·split at h
     ·rename_i ae;simp at h;obtain⟨rfl,rfl⟩:=h;rw[if_pos ae];exact⟨rfl,az⟩
     ·cases h
    ·cases h
   ·cases h
theorem aaC{P:Program}{aJ:Operand->Value}{op:Op}(H aH:ab)(hm:jt op=true)(h:b5 P aJ H op=none):b5 P aJ aH op=none:=by
 cases ao:b5 P aJ aH op with
 | none=>rfl
 | some p=>
  obtain⟨v,H1⟩:=p
  cases op<;>simp[jt]at hm<;>simp only[b5]at h ao<;>try (first | (simp at ao;done) | (cases ao;done))
  case convert src dst x=>
   cases J:aJ x with
   | int k n=>rw[J]at h ao;simp only at h ao;revert h ao;cases j6 P src<;>cases j6 P dst<;>simp
   | string t=>rw[J]at h ao;simp only at h ao;revert h ao;split<;>simp
   | _=>rw[J]at ao;simp at ao
  case call c=>
   obtain⟨callee,args,k1⟩:=c
   unfold rB at h ao
   cases callee with
   | builtin b=>cases b<;>simp at hm<;>simp at ao
   | _=>simp at hm
  case slice ty x bb ad fk=>
   cases fk with
   | some m=>simp at ao
   | none=>
    simp only at h ao
    split at ao
    ·split at ao
     ·split at ao<;>simp_all
     ·cases ao
    ·cases ao
theorem gm.o_{P:Program}{b:Bool}{F:Fr}{K:Value->ab->Prop}{op:Op}(az:Fit a8 H)(h:gm P b F H K op):gm P b F (cv a8 H) (fun v H1=>∃aH,H1=cv a8 aH/\Fit a8 aH/\K v aH) op:=by
 have main:(match b5 P (aq F) H op with
   | some (v,H1)=>(hT op=true->b=true)/\K v H1
   | none=>jt op=true/\∃v H1,nI P (aq F) H op v H1/\(b=true\/Ext H H1)/\K v H1)->(match b5 P (aq F) (cv a8 H) op with
   | some (v,H1)=>(hT op=true->b=true)/\∃aH,H1=cv a8 aH/\Fit a8 aH/\K v aH
   | none=>jt op=true/\∃v H1,nI P (aq F) (cv a8 H) op v H1/\(b=true\/Ext (cv a8 H) H1)/\∃aH,H1=cv a8 aH/\Fit a8 aH/\K v aH):=by
  cases ao:b5 P (aq F) H op with
  | some p=>
   obtain⟨v,H1⟩:=p
   obtain⟨aY,a3⟩:=aaD az ao
   rw[aY]
   exact fun h=>⟨h.1,H1,rfl,a3,h.2⟩
  | none=>
   intro⟨o,v,H1,aa,aB,bs⟩
   rw[aaC H _ o ao]
   have hm:=fun R aM=>Nt az (aa R aM).2
   have aI:=hm ⟨none,op,default,default, #[],none⟩ rfl
   exact⟨o,v,cv a8 H1,fun R aM=>⟨(aa R aM).1,(hm R aM).1⟩,aB.imp (fun x=>x) fun he=>CU az he,H1,rfl,aI.2,bs⟩
 cases op<;>try exact main h
 rename_i c
 obtain⟨callee,args,k1⟩:=c
 cases callee with
 | value f=>
  simp only[gm]at h⊢
  split at h
  ·rename_i g first cap Ah
   exact(aP.o_ az h).mono fun v H1 ⟨aH,e,o,aa⟩=>⟨aa.1.imp (fun x=>x) fun he=>by rw[e];exact CU az he,aH,e,o,aa.2⟩
  ·exact h.elim
 | invoke r m=>exact main h
 | builtin b=>exact main h
theorem bj.o_{P:Program}:∀{l:List bF} {F:Fr} {H:ab} {Q:Fr->ab->Prop},Fit a8 H->bj P l F H Q->bj P l F (cv a8 H) fun ay H1=>∃aH,H1=cv a8 aH/\Fit a8 aH/\Q ay aH
 | [],F,H,Q,az,h=>⟨H,rfl,az,h⟩
 | x::rest,F,H,Q,az,h=>by
  simp only[bj]at h⊢
  split
  ·rename_i aU
   rw[aU]at h
   exact gm.mono (fun v H1 ⟨aH,e,o,aa⟩=>by rw[e];exact bj.o_ o aa) (gm.o_ az h)
  ·rename_i j w aU
   rw[aU]at h
   simp only at h
   split
   ·rename_i ag
    rw[if_pos ag]at h
    exact gm.mono (fun v H1 ⟨aH,e,o,aa⟩=>by rw[e];exact bj.o_ o aa) (gm.o_ az h)
   ·rename_i ag
    rw[if_neg ag]at h
    exact bj.o_ az h
end
end Go.cW
end
