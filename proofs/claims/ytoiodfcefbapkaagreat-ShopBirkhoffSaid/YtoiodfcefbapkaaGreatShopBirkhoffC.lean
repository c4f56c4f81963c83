/- Part of the proof of ShopBirkhoff. -/
import Derived.Test.YtoiodfcefbapkaaGreatShopBirkhoffB
set_option linter.unusedVariables false
set_option linter.unusedSimpArgs false
section
namespace Go.cl
structure bJ where
 b:Bool
 g:Option (Nat×Bool)
 d:Option Nat
 op:Op
inductive g3 where
 | skip
 | ret
 | exit (id:Nat)
 | seq (x y:g3)
 | cond (c:Operand) (x y:g3)
 | block (id:Nat) (x:g3)
 | loop (x:g3)
 | ops (l:List bJ)
 | opsL (l:List bJ)
structure fL where
 code:g3
 results:List ResultVar
def iy:Op->Op
 | .call {callee:= .value f,args,.. }=> .call {callee:= .value f,args,argTypes:= #[]}
 | .binOp op t x y _=> .binOp op t x y 0
 | .unOp op _ x=> .unOp op 0 x
 | op=>op
def oc(P:Program):Op->Bool
 | .move _ | .assign _ | .pick .. | .alloc _ | .box .. | .load .. | .nilCheck _ | .binOp .. | .unOp .. | .makeInterface .. | .makeFunc .. | .fieldAddr .. | .field .. | .indexAddr .. | .index .. | .extract .. | .build .. =>false
 | .call {callee:= .builtin .len,.. } | .call {callee:= .builtin .max,.. } | .call {callee:= .builtin .min,.. }=>false
 | .convert s t _=> !(sR P s&&sR P t)
 | _=>true
def TN(n:Nat):Option Tmp->Bool
 | some d=>decide (d<n)
 | none=>true
def x8(P:Program)(n:Nat)(ops:Array Oper)(draw:Bool)(U:Oper)(k:Nat):Option bJ:=
 if TN n U.dst=true then
  match U.guard with
  | none=>some ⟨!draw || !oc P U.op || eU P ops k,none,U.dst,iy U.op⟩
  | some (j,w)=>match(ops[j]?).bind (·.dst)with
   | some d=>some ⟨!draw || !oc P U.op || eU P ops k,some (d,w),U.dst,iy U.op⟩
   | none=>none
 else none
def oL(P:Program)(n:Nat)(ops:Array Oper)(draw:Bool):List Oper->Nat->Option (List bJ)
 | [],_=>some []
 | U::rest,k=>match x8 P n ops draw U k,oL P n ops draw rest (k+1)with
  | some x,some xs=>some (x::xs)
  | _,_=>none
def V3(P:Program)(ops:Array Oper):Bool:=ops.toList.zipIdx.any fun ry=>iw ry.1.op&& !eU P ops ry.2
def ih(P:Program)(n:Nat):Code->Option g3
 | .skip=>some .skip
 | .ret=>some .ret
 | .exit id=>some (.exit id)
 | .seq a b=>match ih P n a,ih P n b with
  | some x,some y=>some (.seq x y)
  | _,_=>none
 | .cond c a b=>if od c=true then(match ih P n a,ih P n b with
  | some x,some y=>some (.cond c x y)
  | _,_=>none)else none
 | .block id a=>(ih P n a).map (.block id)
 | .loop a=>(ih P n a).map .loop
 | .region id ops draw=>if draw&&V3 P ops then(if Bc ops&&(ha ops&&Hr P ops)then(oL P n ops true ops.toList 0).map .opsL else none)
  else if Bc ops&&(!draw || ha ops)then(oL P n ops draw ops.toList 0).map .ops else none
 | _=>none
def comp(P:Program)(fn:Func):Option fL:=match fn.body with
 | some c=>(ih P fn.ntmps c).map fun x=>⟨x,fn.results.toList⟩
 | none=>none
abbrev Fr:=Nat->Value
def a5(F:Fr)(d:Nat)(v:Value):Fr:=fun i=>if i=d then v else F i
theorem hG(F:Fr)(d:Nat)(v:Value):a5 F d v d=v:=by simp[a5]
theorem hF(F:Fr){d i:Nat}(v:Value)(h:i≠d):a5 F d v i=F i:=by simp[a5,h]
def kb(args:List Value):Fr:=fun i=>args.getD i undef
def ar(F:Fr):Operand->Value
 | .tmp i=>F i
 | .const v=>v
 | .global g=> .pointer (some ⟨0,g,some 0⟩)
 | .func f=> .func (.func f) #[] #[]
def gw(F:Fr)(d:Option Nat)(v:Value):Fr:=match d with
 | some d=>a5 F d v
 | none=>F
theorem Ah(t:List Value):fD t=ar (gt t):=by funext x;cases x<;>rfl
theorem Ms(t:List Value)(d:Option Tmp)(v:Value)(h:∀e,d=some e->e<t.length):gt (fu t d v)=gw (gt t) d v:=by
 cases d with
 | none=>rfl
 | some e=>
  funext i
  simp only[fu,gw,a5,Uv]
  by_cases ab:i=e
  ·subst ab;simp[h i rfl]
  ·rw[if_neg (Ne.symm ab),if_neg ab]
theorem QX(t:List Value)(d:Option Tmp)(v:Value):(fu t d v).length=t.length:=by cases d<;>simp[fu]
def oD(P:Program)(aS:Operand->Value)(H:ad)(op:Op)(v:Value)(H1:ad):Prop:=∀U:Oper,U.op=op->bZ P U=false/\fx P aS H U v H1
def j3:Op->Bool
 | .slice .. | .makeSlice .. | .buildSlice .. | .convert .. | .call {callee:= .builtin .append,.. } | .call {callee:= .builtin .copy,.. }=>true
 | _=>false
def gL(P:Program)(b:Bool)(F:Fr)(H:ad)(K:Value->ad->Prop):Op->Prop
 | .call {callee:= .value f,args,.. }=>(match ar F f with
  | .func (.func g) first cap=>aX P g (first.toList++args.toList.map (ar F)++cap.toList) H fun v H1=>(b=true\/Ext H H1)/\K v H1
  | _=>False)
 | op=>(match ca P (ar F) H op with
  | some (v,H1)=>(iw op=true->b=true)/\K v H1
  | none=>j3 op=true/\∃v H1,oD P (ar F) H op v H1/\(b=true\/Ext H H1)/\K v H1)
def bm(P:Program):List bJ->Fr->ad->(Fr->ad->Prop)->Prop
 | [],F,H,Q=>Q F H
 | x::rest,F,H,Q=>match x.g with
  | none=>gL P x.b F H (fun v H1=>bm P rest (gw F x.d v) H1 Q) x.op
  | some (j,w)=>if hy (F j)=some w then gL P x.b F H (fun v H1=>bm P rest (gw F x.d v) H1 Q) x.op else bm P rest (gw F x.d undef) H Q
def fS(P:Program):List bJ->Fr->ad->List Nat->List Nat->(Fr->ad->Prop)->Prop
 | [],F,H,_,_,Q=>Q F H
 | x::rest,F,H,ae,W,Q=>match x.g with
  | none=>hc P x.b (ar F) H ae W (fun v H1 gd gf=>fS P rest (gw F x.d v) H1 gd gf Q) x.op
  | some (j,w)=>if hy (F j)=some w then hc P x.b (ar F) H ae W (fun v H1 gd gf=>fS P rest (gw F x.d v) H1 gd gf Q) x.op else fS P rest (gw F x.d undef) H ae W Q
def oj(K:Fr->ad->Prop)(Q:dS->Fr->ad->Prop):dS->Fr->ad->Prop
 | .normal,F,H=>K F H
 | e,F,H=>Q e F H
def qJ(id:Nat)(Q:dS->Fr->ad->Prop):dS->Fr->ad->Prop
 | .exit iv,F,H=>if iv=id then Q .normal F H else Q (.exit iv) F H
 | e,F,H=>Q e F H
inductive rU (body:Fr->ad->(dS->Fr->ad->Prop)->Prop) (Q:dS->Fr->ad->Prop):Fr->ad->Prop
 | round {F:Fr} {H:ad} (ai:Fr->ad->Prop) (h:body F H (oj ai Q)) (ew:∀az H1,ai az H1->rU body Q az H1):rU body Q F H
def eP(P:Program):g3->Fr->ad->(dS->Fr->ad->Prop)->Prop
 | .skip,F,H,Q=>Q .normal F H
 | .ret,F,H,Q=>Q .ret F H
 | .exit id,F,H,Q=>Q (.exit id) F H
 | .seq x y,F,H,Q=>eP P x F H (oj (fun az H1=>eP P y az H1 Q) Q)
 | .cond c x y,F,H,Q=>(match ar F c with
  | .bool b=>if b=true then eP P x F H Q else eP P y F H Q
  | _=>False)
 | .block id x,F,H,Q=>eP P x F H (qJ id Q)
 | .loop x,F,H,Q=>rU (eP P x) Q F H
 | .ops l,F,H,Q=>bm P l F H (fun az H1=>Q .normal az H1)
 | .opsL l,F,H,Q=>fS P l F H [] [] (fun az H1=>Q .normal az H1)
def kV(P:Program)(F:Fr)(H:ad):List ResultVar->(List Value->Prop)->Prop
 | [],K=>K []
 | .tmp i::rs,K=>kV P F H rs fun aH=>K (F i::aH)
 | .cell a ty::rs,K=>(match F a with
  | .pointer (some ⟨b,i,none⟩)=>(match jt H b with
   | some cs=>(match dk P ty with
    | some false=>(match cs[i]? with
     | some v=>kV P F H rs fun aH=>K (v::aH)
     | none=>False)
    | some true=>(match bu P ty with
     | some n=>i+n<=cs.length/\kV P F H rs fun aH=>K (.agg ((cs.drop i).take n).toArray::aH)
     | none=>False)
    | none=>False)
   | none=>False)
  | _=>False)
def rC(P:Program)(rs:List ResultVar)(Q:Value->ad->Prop):dS->Fr->ad->Prop
 | .normal,F,H=>kV P F H rs fun aH=>Q (bf aH) H
 | .ret,F,H=>kV P F H rs fun aH=>Q (bf aH) H
 | .exit _,_,_=>False
section
variable {P:Program}
theorem QW(aS:Operand->Value)(H:ad)(op:Op):ca P aS H (iy op)=ca P aS H op:=by
 cases op<;>try rfl
 rename_i c
 obtain⟨callee,args,lX⟩:=c
 cases callee<;>rfl
theorem abM{aS:Operand->Value}{H H1:ad}{U:Oper}{v:Value}(h:fx P aS H U v H1)(aF:oc P U.op=false):Ext H H1:=by
 have one:∀{e:TypeId} {l:Bool} {cs:List Value},Ext H (H++[.own e l cs]):=fun{e l cs}=>⟨[.own e l cs],rfl,fun x J c0 eQ=>by simp at J;subst J;simp⟩
 cases h with
 | uU=>exact Ext.refl H
 | alloc=>exact one
 | box=>exact one
 | zT=>exact Ext.refl H
 | zU=>exact Ext.refl H
 | store h=>rw[h]at aF;cases aF
 | slice h=>exact Ext.refl H
 | Al=>exact Ext.refl H
 | Am=>exact Ext.refl H
 | Dy=>exact Ext.refl H
 | Dx=>exact Ext.refl H
 | make=>exact one
 | zZ=>exact Ext.refl H
 | build=>exact one
 | x4=>exact Ext.refl H
 | xW=>exact Ext.refl H
 | x0=>exact one
 | xY h=>rw[h]at aF;cases aF
 | xX=>exact one
 | xZ h=>rw[h]at aF;cases aF
 | copy h=>rw[h]at aF;cases aF
 | x9=>exact Ext.refl H
 | str=>exact Ext.refl H
theorem P_{ops:Array Oper}{draw:Bool}{k:Nat}{U:Oper}{t:List Value}{H:ad}{K:List Value->ad->Prop}{er:Value->ad->Prop}(a4:∀v H1,er v H1->K (fu t U.dst v) H1)
  (h:gL P (!draw || !oc P U.op || eU P ops k) (gt t) H er (iy U.op)):xQ P ops draw k U t H K U.op:=by
 have A1:oc P U.op=true->(!draw || !oc P U.op || eU P ops k)=true->draw=true->eU P ops k=true:=fun o aa aE=>by simpa[o,aE]using aa
 have fin:(oc P U.op=true\/iw U.op=false)->iw (iy U.op)=iw U.op->(iy U.op=U.op\/bZ P U=true)->(bZ P U=true->∀la:Oper,la.op=iy U.op->bZ P la=true)->(match ca P (ar (gt t)) H (iy U.op)with
   | some (v,H1)=>(iw (iy U.op)=true->(!draw || !oc P U.op || eU P ops k)=true)/\er v H1
   | none=>j3 (iy U.op)=true/\∃v H1,oD P (ar (gt t)) H (iy U.op) v H1/\((!draw || !oc P U.op || eU P ops k)=true\/Ext H H1)/\er v H1)->
   (match ca P (fD t) H U.op with
   | some (v,H1)=>D6 P ops draw k (iw U.op)/\K (fu t U.dst v) H1
   | none=>∃v H1,bZ P U=false/\fx P (fD t) H U v H1/\AI P ops draw k H H1/\K (fu t U.dst v) H1):=by
  intro c3 Ce gO a7 ao
  rw[QW]at ao
  rw[Ah]
  split at ao
  ·rename_i v H1 an
   refine⟨fun o aa=>?_,a4 _ _ ao.2⟩
   rcases c3 with c3 | c3
   ·exact A1 c3 (ao.1 (by rw[Ce];exact aa)) o
   ·rw[c3]at aa;cases aa
  ·obtain⟨-,v,H1,hm,he,U0⟩:=ao
   rcases gO with gO | gO
   ·obtain⟨aU,aO⟩:=hm U gO.symm
    refine⟨v,H1,aU,aO,fun o=>?_,a4 _ _ U0⟩
    cases Cd:oc P U.op with
    | false=>exact .inr (abM aO Cd)
    | true=>
     rcases he with he | he
     ·exact .inl (A1 Cd he o)
     ·exact .inr he
   ·have aU:=(hm ⟨U.dst,iy U.op,U.type,U.pos,U.after,U.guard⟩ rfl).1
    rw[a7 gO _ rfl]at aU
    cases aU
 cases cd:U.op<;>rw[cd]at h fin A1<;>try (exact fin (by simp[oc,iw]) rfl (.inl rfl) (fun aC la fN=>by first | (simp only[bZ,cd,fN,iy]at aC⊢;exact aC) | (simp[bZ,cd]at aC;try (simp[bZ,fN,iy]))) h;done)
 case binOp op ty x y qB=>exact fin (.inr rfl) rfl (.inr (by simp[bZ,cd])) (fun _ la fN=>by simp[bZ,fN,iy]) h
 case unOp op ty x=>exact fin (.inr rfl) rfl (.inr (by simp[bZ,cd])) (fun _ la fN=>by simp[bZ,fN,iy]) h
 case call c=>
  obtain⟨callee,args,lX⟩:=c
  cases callee with
  | value f=>
   simp only[iy,gL]at h
   simp only[xQ,Ah]
   split at h
   ·rename_i g first cap aC
    rw[aC]
    refine h.mono fun v H1 db=>⟨fun o=>?_,a4 _ _ db.2⟩
    rcases db.1 with he | he
    ·exact .inl (A1 rfl he o)
    ·exact .inr he
   ·exact h.elim
  | invoke r m=>exact fin (.inl rfl) rfl (.inl rfl) (fun aC=>by simp[bZ,cd]at aC) h
  | builtin bi=>exact fin (.inr rfl) rfl (.inl rfl) (fun aC la fN=>by simp only[bZ,cd,fN,iy]at aC⊢;exact aC) h
theorem P8{n:Nat}{ops:Array Oper}{draw:Bool}:∀(rest:List Oper) (k:Nat) (xs:List bJ) (t:List Value) (H:ad) (Q:List Value->ad->Prop) (cu:Fr->ad->Prop),oL P n ops draw rest k=some xs->t.length=n->
  (∀t1 H1,t1.length=n->cu (gt t1) H1->Q t1 H1)->bm P xs (gt t) H cu->pO P ops draw k rest t H Q
 | [],k,xs,t,H,Q,cu,ag,au,aD,h=>by
  simp only[oL,Option.some.injEq]at ag
  subst ag
  exact aD t H au h
 | U::rest,k,xs,t,H,Q,cu,ag,au,aD,h=>by
  simp only[oL]at ag
  cases J:x8 P n ops draw U k with
  | none=>simp[J]at ag
  | some x=>
   cases n7:oL P n ops draw rest (k+1)with
   | none=>simp[J,n7]at ag
   | some bY=>
    simp only[J,n7,Option.some.injEq]at ag
    subst ag
    unfold x8 at J
    split at J
    ·rename_i aA
     have yY:∀e,U.dst=some e->e<t.length:=fun e he=>by
      rw[he]at aA
      rw[au]
      exact of_decide_eq_true aA
     have uZ:∀v H1,bm P bY (gw (gt t) U.dst v) H1 cu->pO P ops draw (k+1) rest (fu t U.dst v) H1 Q:=fun v H1 o=>
      P8 rest (k+1) bY _ H1 Q cu n7 (by rw[QX];exact au) aD (by rw[Ms t U.dst v yY];exact o)
     simp only[pO]
     cases a1:U.guard with
     | none=>
      rw[a1]at J
      obtain rfl:=Option.some.inj J
      have hw:Region.wanted U (hp ops t)=true:=by simp[Region.wanted,a1]
      rw[if_pos hw]
      exact P_ uZ h
     | some rq=>
      obtain⟨j,w⟩:=rq
      rw[a1]at J
      simp only at J
      cases mJ:(ops[j]?).bind (·.dst)with
      | none=>rw[mJ]at J;cases J
      | some d=>
       rw[mJ]at J
       obtain rfl:=Option.some.inj J
       have hw:Region.wanted U (hp ops t)=(hy (gt t d)==some w):=by
        simp only[Region.wanted,a1,Q4,mJ]
       rw[hw]
       simp only[bm]at h
       by_cases af:hy (gt t d)=some w
       ·rw[if_pos af]at h
        rw[if_pos (by simpa using af)]
        exact P_ uZ h
       ·rw[if_neg af]at h
        rw[if_neg (by simpa using af)]
        exact uZ _ _ h
    ·cases J
theorem PF(b:Bool)(aS:Operand->Value)(H:ad)(ae W:List Nat)(K:Value->ad->List Nat->List Nat->Prop)(op:Op)(h:hc P b aS H ae W K (iy op)):hc P b aS H ae W K op:=by
 have e:=QW (P:=P) aS H op
 cases op with
 | call c=>
  obtain⟨callee,args,lX⟩:=c
  cases callee<;>exact h
 | binOp op ty x y qB=>
  simp only[iy,hc]at h⊢
  simp only[iy]at e
  rw[<-e];exact h
 | unOp op ty x=>
  simp only[iy,hc]at h⊢
  simp only[iy]at e
  rw[<-e];exact h
 | _=>exact h
theorem hc.mono{b:Bool}{aS:Operand->Value}{H:ad}{ae W:List Nat}{K er:Value->ad->List Nat->List Nat->Prop}(ah:∀v H1 gd gf,K v H1 gd gf->er v H1 gd gf){op:Op}(h:hc P b aS H ae W K op):hc P b aS H ae W er op:=by
 cases op with
 | load ty x=>
  simp only[hc]at h⊢
  split at h
  ·refine⟨h.1,?_⟩
   have aa:=h.2
   split at aa
   ·exact ah _ _ _ _ aa
   ·exact aa
  ·exact h
 | store ty x y=>
  simp only[hc]at h⊢
  split at h
  ·refine⟨h.1,?_⟩
   have aa:=h.2
   split at aa
   ·exact ah _ _ _ _ aa
   ·exact aa
  ·exact h
 | _=>
  simp only[hc]at h⊢
  split at h
  ·exact ah _ _ _ _ h
  ·exact h.elim
theorem PE{b:Bool}{aS:Operand->Value}{H:ad}{ae W:List Nat}{K:Value->ad->List Nat->List Nat->Prop}{op:Op}(h:hc P (!true || !oc P op || b) aS H ae W K (iy op)):hc P b aS H ae W K (iy op):=by
 cases op with
 | store t x y=>exact h
 | call c=>obtain⟨callee,args,lX⟩:=c;cases callee<;>exact h
 | _=>exact h
theorem P5{n:Nat}{ops:Array Oper}:∀(rest:List Oper) (k:Nat) (xs:List bJ) (t:List Value) (H:ad) (ae W:List Nat) (Q:List Value->ad->Prop) (cu:Fr->ad->Prop),oL P n ops true rest k=some xs->t.length=n->
  (∀t1 H1,t1.length=n->cu (gt t1) H1->Q t1 H1)->fS P xs (gt t) H ae W cu->pN P ops k rest t H ae W Q
 | [],k,xs,t,H,ae,W,Q,cu,ag,au,aD,h=>by
  simp only[oL,Option.some.injEq]at ag
  subst ag
  exact aD t H au h
 | U::rest,k,xs,t,H,ae,W,Q,cu,ag,au,aD,h=>by
  simp only[oL]at ag
  cases J:x8 P n ops true U k with
  | none=>simp[J]at ag
  | some x=>
   cases n7:oL P n ops true rest (k+1)with
   | none=>simp[J,n7]at ag
   | some bY=>
    simp only[J,n7,Option.some.injEq]at ag
    subst ag
    unfold x8 at J
    split at J
    ·rename_i aA
     have yY:∀e,U.dst=some e->e<t.length:=fun e he=>by
      rw[he]at aA
      rw[au]
      exact of_decide_eq_true aA
     have uZ:∀v H1 gd gf,fS P bY (gw (gt t) U.dst v) H1 gd gf cu->pN P ops (k+1) rest (fu t U.dst v) H1 gd gf Q:=fun v H1 gd gf o=>
      P5 rest (k+1) bY _ H1 gd gf Q cu n7 (by rw[QX];exact au) aD (by rw[Ms t U.dst v yY];exact o)
     simp only[pN]
     cases a1:U.guard with
     | none=>
      rw[a1]at J
      obtain rfl:=Option.some.inj J
      have hw:Region.wanted U (hp ops t)=true:=by simp[Region.wanted,a1]
      rw[if_pos hw]
      simp only[fS]at h
      rw[Ah]
      exact hc.mono (fun v H1 gd gf=>uZ v H1 gd gf) (PF _ _ _ _ _ _ _ (PE h))
     | some rq=>
      obtain⟨j,w⟩:=rq
      rw[a1]at J
      simp only at J
      cases mJ:(ops[j]?).bind (·.dst)with
      | none=>rw[mJ]at J;cases J
      | some d=>
       rw[mJ]at J
       obtain rfl:=Option.some.inj J
       have hw:Region.wanted U (hp ops t)=(hy (gt t d)==some w):=by
        simp only[Region.wanted,a1,Q4,mJ]
       rw[hw]
       simp only[fS]at h
       by_cases af:hy (gt t d)=some w
       ·rw[if_pos af]at h
        rw[if_pos (by simpa using af),Ah]
        exact hc.mono (fun v H1 gd gf=>uZ v H1 gd gf) (PF _ _ _ _ _ _ _ (PE h))
       ·rw[if_neg af]at h
        rw[if_neg (by simpa using af)]
        exact uZ _ _ _ _ h
    ·cases J
theorem tE{n:Nat}:∀(c:Code) (x:g3) (t:List Value) (H:ad) (Q:dS->List Value->ad->Prop) (cu:dS->Fr->ad->Prop),ih P n c=some x->t.length=n->
  (∀e t1 H1,t1.length=n->cu e (gt t1) H1->Q e t1 H1)->eP P x (gt t) H cu->lN P c t H Q
 | .skip,x,t,H,Q,cu,ag,au,aD,h=>by simp only[ih,Option.some.injEq]at ag;subst ag;exact aD _ _ _ au h
 | .ret,x,t,H,Q,cu,ag,au,aD,h=>by simp only[ih,Option.some.injEq]at ag;subst ag;exact aD _ _ _ au h
 | .exit id,x,t,H,Q,cu,ag,au,aD,h=>by simp only[ih,Option.some.injEq]at ag;subst ag;exact aD _ _ _ au h
 | .seq a b,x,t,H,Q,cu,ag,au,aD,h=>by
  simp only[ih]at ag
  cases aL:ih P n a with
  | none=>simp[aL]at ag
  | some fv=>
   cases af:ih P n b with
   | none=>simp[aL,af]at ag
   | some gB=>
    simp only[aL,af,Option.some.injEq]at ag
    subst ag
    refine tE a fv t H _ _ aL au (fun e t1 H1 gA aq=>?_) h
    cases e with
    | normal=>exact tE b gB t1 H1 Q cu af gA aD aq
    | exit id=>exact aD _ _ _ gA aq
    | ret=>exact aD _ _ _ gA aq
 | .cond c a b,x,t,H,Q,cu,ag,au,aD,h=>by
  simp only[ih]at ag
  split at ag
  ·rename_i ah
   cases aL:ih P n a with
   | none=>simp[aL]at ag
   | some fv=>
    cases af:ih P n b with
    | none=>simp[aL,af]at ag
    | some gB=>
     simp only[aL,af,Option.some.injEq]at ag
     subst ag
     refine⟨ah,?_⟩
     simp only[eP]at h
     rw[Ah]
     split at h
     ·rename_i ff o1
      rw[o1]
      simp only
      cases ff with
      | true=>simp only[if_true]at h⊢;exact tE a fv t H Q cu aL au aD h
      | false=>simp only[Bool.false_eq_true,if_false]at h⊢;exact tE b gB t H Q cu af au aD h
     ·exact h.elim
  ·cases ag
 | .block id a,x,t,H,Q,cu,ag,au,aD,h=>by
  simp only[ih]at ag
  obtain⟨fv,aL,rfl⟩:=Option.map_eq_some_iff.1 ag
  refine tE a fv t H _ _ aL au (fun e t1 H1 gA aq=>?_) h
  cases e with
  | normal=>exact aD _ _ _ gA aq
  | exit iv=>
   simp only[qJ]at aq
   simp only[Et]
   split at aq
   ·rename_i ab;rw[if_pos ab];exact aD _ _ _ gA aq
   ·rename_i ab;rw[if_neg ab];exact aD _ _ _ gA aq
  | ret=>exact aD _ _ _ gA aq
 | .loop a,x,t,H,Q,cu,ag,au,aD,h=>by
  simp only[ih]at ag
  obtain⟨fv,aL,rfl⟩:=Option.map_eq_some_iff.1 ag
  simp only[eP]at h
  show D4 P (.loop a) t H Q
  generalize a7:gt t=F at h
  induction h generalizing t with
  | round ai Wg ew a2=>
   rename_i F H
   subst a7
   obtain⟨e,t1,H1,al,aq⟩:=tF a t H (fun e t1 H1=>t1.length=n/\oj ai cu e (gt t1) H1) (tE a fv t H _ _ aL au (fun e t1 H1 gA aq=>⟨gA,aq⟩) Wg)
   obtain⟨gA,aq⟩:=aq
   cases e with
   | normal=>
    obtain⟨bj,t2,aT,ra,pd⟩:=a2 (gt t1) H1 aq t1 gA rfl
    exact⟨bj,t2,aT,.C0 al ra,pd⟩
   | exit id=>exact⟨.exit id,t1,H1,.zV al (by simp),aD _ _ _ gA aq⟩
   | ret=>exact⟨.ret,t1,H1,.zV al (by simp),aD _ _ _ gA aq⟩
 | .region id ops draw,x,t,H,Q,cu,ag,au,aD,h=>by
  simp only[ih]at ag
  split at ag
  ·split at ag
   ·rename_i ah
    obtain⟨xs,h5,rfl⟩:=Option.map_eq_some_iff.1 ag
    simp only[Bool.and_eq_true]at ah
    exact .inr ⟨ah.1,ah.2.1,ah.2.2,P5 ops.toList 0 xs t H [] [] _ _ h5 au (fun t1 H1 gA aq=>aD _ _ _ gA aq) h⟩
   ·cases ag
  split at ag
  ·rename_i ah
   obtain⟨xs,h5,rfl⟩:=Option.map_eq_some_iff.1 ag
   simp only[Bool.and_eq_true,Bool.or_eq_true,Bool.not_eq_true']at ah
   refine .inl ⟨ah.1,fun aA=>?_,?_⟩
   ·rcases ah.2 with q | q
    ·rw[aA]at q;cases q
    ·exact q
   ·exact P8 ops.toList 0 xs t H _ _ h5 au (fun t1 H1 gA aq=>aD _ _ _ gA aq) h
  ·cases ag
 | .rangeFunc ..,x,t,H,Q,cu,ag,_,_,_=>by simp[ih]at ag
 | .scope ..,x,t,H,Q,cu,ag,_,_,_=>by simp[ih]at ag
 | .label ..,x,t,H,Q,cu,ag,_,_,_=>by simp[ih]at ag
 | .goto ..,x,t,H,Q,cu,ag,_,_,_=>by simp[ih]at ag
 | .refuse ..,x,t,H,Q,cu,ag,_,_,_=>by simp[ih]at ag
theorem Ad{t:List Value}{H:ad}:∀(rs:List ResultVar) (K:List Value->Prop),kV P (gt t) H rs K->qF P t H rs K
 | [],K,h=>h
 | .tmp i::rs,K,h=>Ad rs _ h
 | .cell a ty::rs,K,h=>by
  simp only[kV]at h
  simp only[qF]
  split at h
  ·rename_i b i J
   rw[J]
   simp only
   split at h
   ·rename_i cs gp
    rw[gp]
    simp only
    split at h
    ·rename_i aL
     rw[aL]
     simp only
     split at h
     ·rename_i v an
      rw[an]
      exact Ad rs _ h
     ·exact h.elim
    ·rename_i aL
     rw[aL]
     simp only
     split at h
     ·rename_i n aF
      rw[aF]
      exact⟨h.1,Ad rs _ h.2⟩
     ·exact h.elim
    ·exact h.elim
   ·exact h.elim
  ·exact h.elim
theorem aX.Pn{f:FuncId}{fn:Func}{x:fL}{args:List Value}{H:ad}{Q:Value->ad->Prop}(aC:P.funcs[f]?=some fn)(aF:(fn.name== "runtime.NumGoroutine")=false)(ag:comp P fn=some x)(au:args.length<=fn.ntmps)
  (h:eP P x.code (kb args) H (rC P x.results Q)):∃v H1,AH P f/\ef P (.call f args H) (.val v H1)/\Q v H1:=by
 unfold comp at ag
 cases af:fn.body with
 | none=>simp[af]at ag
 | some c=>
  simp only[af]at ag
  obtain⟨jn,iZ,rfl⟩:=Option.map_eq_some_iff.1 ag
  have a7:gt (args++List.replicate (fn.ntmps-args.length) undef)=kb args:=by
   funext i
   simp only[gt,kb,List.getD_eq_getElem?_getD]
   by_cases ab:i<args.length
   ·rw[List.getElem?_append_left ab]
   ·rw[List.getElem?_append_right (by omega),List.getElem?_eq_none (l:=args) (by omega),List.getElem?_replicate]
    split<;>rfl
  refine aX.T6 aC aF af (tE c jn _ H _ (rC P fn.results.toList Q) iZ (by simp;omega) (fun e t1 H1 gA aq=>?_) (by rw[a7];exact h))
  cases e with
  | normal=>exact Ad _ _ aq
  | exit id=>exact aq
  | ret=>exact Ad _ _ aq
theorem aX.Zg{f:FuncId}{fn:Func}{x:fL}{args:List Value}{H:ad}{Q:Value->ad->Prop}(aC:P.funcs[f]?=some fn)(aF:(fn.name== "runtime.NumGoroutine")=false)(ag:comp P fn=some x)(au:args.length<=fn.ntmps)
  (h:eP P x.code (kb args) H (rC P x.results Q)):aX P f args H Q:=by
 obtain⟨v,H1,o,aa,aE⟩:=aX.Pn aC aF ag au h
 exact⟨v,H1,.inl ⟨o,aa⟩,aE⟩
theorem rU.inv{body:Fr->ad->(dS->Fr->ad->Prop)->Prop}{Q:dS->Fr->ad->Prop}(ai:Nat->Fr->ad->Prop)(round:∀n F H,ai n F H->body F H (oj (fun az H1=>∃m,m<n/\ai m az H1) Q)):∀(n:Nat) (F:Fr) (H:ad),ai n F H->rU body Q F H:=by
 intro n
 induction n using Nat.strongRecOn with
 | _ n a2=>
  intro F H h
  exact .round _ (round n F H h) fun az H1 ⟨m,hm,ew⟩=>a2 m hm az H1 ew
end
def T(i:Nat):Operand:= .tmp i
def ai(n:Int):Operand:= .const (.int .i64 n)
def C(v:Value):Operand:= .const v
def I2(f:Nat):Operand:= .func f
theorem ke(F:Fr)(i:Nat):ar F (T i)=F i:=rfl
theorem Mf(F:Fr)(n:Int):ar F (ai n)= .int .i64 n:=rfl
theorem Ud(F:Fr)(v:Value):ar F (C v)=v:=rfl
theorem Ue(F:Fr)(f:Nat):ar F (I2 f)= .func (.func f) #[] #[]:=rfl
def aJ(j:Nat)(w:Bool)(x:bJ):bJ:={x with g:=some (j,w)}
def bk(x:bJ):bJ:={x with b:=false}
def I(d:Nat)(x:Operand):bJ:=⟨true,none,some d,.move x⟩
def aj(d:Nat)(x:Operand):bJ:=⟨true,none,some d,.assign x⟩
def cI(d:Nat)(c a b:Operand):bJ:=⟨true,none,some d,.pick c a b⟩
def bL(d e:Nat):bJ:=⟨true,none,some d,.alloc e⟩
def cE(d e:Nat)(x:Operand):bJ:=⟨true,none,some d,.box e x⟩
def aB(d t:Nat)(x:Operand):bJ:=⟨true,none,some d,.load t x⟩
def st(t:Nat)(x y:Operand):bJ:=⟨true,none,none,.store t x y⟩
def jF(d:Nat)(x:Operand):bJ:=⟨true,none,some d,.nilCheck x⟩
def bi(d:Nat)(op:BinOp)(t:Nat)(x y:Operand):bJ:=⟨true,none,some d,.binOp op t x y 0⟩
def un(d:Nat)(op:UnOp)(x:Operand):bJ:=⟨true,none,some d,.unOp op 0 x⟩
def cm(d s t:Nat)(x:Operand):bJ:=⟨true,none,some d,.convert s t x⟩
def nA(d t:Nat)(x:Operand):bJ:=⟨true,none,some d,.makeInterface t x⟩
def w8(d:Nat)(fn:Fn)(a b:Array Operand):bJ:=⟨true,none,some d,.makeFunc fn a b⟩
def a8(d s:Nat)(x:Operand)(f:Nat):bJ:=⟨true,none,some d,.fieldAddr s x f⟩
def oQ(d s:Nat)(x:Operand)(f:Nat):bJ:=⟨true,none,some d,.field s x f⟩
def bb(d t:Nat)(x i:Operand):bJ:=⟨true,none,some d,.indexAddr t x i⟩
def ez(d t:Nat)(x i:Operand):bJ:=⟨true,none,some d,.index t x i⟩
def ex(d:Nat)(x:Operand)(i:Nat):bJ:=⟨true,none,some d,.extract x i⟩
def dF(d t:Nat)(aM:List (Nat×Operand)):bJ:=⟨true,none,some d,.build t aM.toArray⟩
def eC(d t n:Nat)(aM:List (Nat×Operand)):bJ:=⟨true,none,some d,.buildSlice t n aM.toArray⟩
def gj(d t:Nat)(x:Operand)(bg ab fH:Option Operand):bJ:=⟨true,none,some d,.slice t x bg ab fH⟩
def ms(d t:Nat)(x y:Operand):bJ:=⟨true,none,some d,.makeSlice t x y⟩
def bt(d t:Nat)(x:Operand):bJ:=⟨true,none,some d,.call {callee:= .builtin .len,args:= #[x],argTypes:= #[t]}⟩
def ap(d b4 cV:Nat)(s x:Operand):bJ:=⟨true,none,some d,.call {callee:= .builtin .append,args:= #[s,x],argTypes:= #[b4,cV]}⟩
def cp(d iL b4:Nat)(s x:Operand):bJ:=⟨true,none,some d,.call {callee:= .builtin .copy,args:= #[s,x],argTypes:= #[iL,b4]}⟩
def w9(d:Nat)(b4:List Nat)(x y:Operand):bJ:=⟨true,none,some d,.call {callee:= .builtin .max,args:= #[x,y],argTypes:=b4.toArray}⟩
def z2(d:Nat)(b4:List Nat)(x y:Operand):bJ:=⟨true,none,some d,.call {callee:= .builtin .min,args:= #[x,y],argTypes:=b4.toArray}⟩
def aV(d f:Nat)(args:List Operand):bJ:=⟨true,none,some d,.call {callee:= .value (.func f),args:=args.toArray,argTypes:= #[]}⟩
def A_(f:Nat)(args:List Operand):bJ:=⟨true,none,none,.call {callee:= .value (.func f),args:=args.toArray,argTypes:= #[]}⟩
def oN(d:Nat)(x:Operand)(args:List Operand):bJ:=⟨true,none,some d,.call {callee:= .value x,args:=args.toArray,argTypes:= #[]}⟩
def mY(cs:List Value)(i:Nat):List Value->List Value
 | [v]=>cs.set i v
 | aH=>dr cs i aH
theorem IV{cs aH:List Value}{i:Nat}(h:i+aH.length<=cs.length):mY cs i aH=dr cs i aH:=by
 unfold mY
 split
 ·exact(adC _ (by have:=h;simp at this;omega)).symm
 ·rfl
def fin(x:Option (Value×ad))(K:Value->ad->Prop):Prop:=match x with
 | some p=>K p.1 p.2
 | none=>False
theorem tH(c:Prop)[Decidable c](v:Value)(H:ad)(K:Value->ad->Prop):fin (if c then some (v,H)else none) K=(c/\K v H):=by
 by_cases h:c
 ·rw[if_pos h];simp[fin,h]
 ·rw[if_neg h];simp[fin,h]
theorem vM(x:Option Value)(H:ad)(K:Value->ad->Prop):fin (x.map fun v=>(v,H)) K=match x with | some v=>K v H | none=>False:=by cases x<;>rfl
def isVal:Op->Bool
 | .call {callee:= .value _,.. }=>true
 | _=>false
section
variable {P:Program} {r:List bJ} {F:Fr} {H:ad} {Q:Fr->ad->Prop}
theorem ahm{b:Bool}{K:Value->ad->Prop}(op:Op)(h:(isVal op || j3 op || iw op)=false):gL P b F H K op=fin (ca P (ar F) H op) K:=by
 have main:(match ca P (ar F) H op with
   | some (v,H1)=>(iw op=true->b=true)/\K v H1
   | none=>j3 op=true/\∃v H1,oD P (ar F) H op v H1/\(b=true\/Ext H H1)/\K v H1)=fin (ca P (ar F) H op) K:=by
  simp only[Bool.or_eq_false_iff]at h
  cases ca P (ar F) H op with
  | none=>simp[fin,h]
  | some p=>simp[fin,h]
 cases op<;>try exact main
 rename_i c
 obtain⟨callee,args,lX⟩:=c
 cases callee<;>try exact main
 simp[isVal]at h
theorem j6{b:Bool}{d:Option Nat}(op:Op)(h:(isVal op || j3 op || iw op)=false):bm P (⟨b,none,d,op⟩::r) F H Q=fin (ca P (ar F) H op) (fun v H1=>bm P r (gw F d v) H1 Q):=by
 simp only[bm]
 exact ahm op h
theorem ahF(d:Nat)(x:Operand):bm P (I d x::r) F H Q=bm P r (a5 F d (ar F x)) H Q:=by
 rw[I,j6 _ rfl];rfl
theorem ahL(d:Nat)(x:Operand):bm P (aj d x::r) F H Q=bm P r (a5 F d (ar F x)) H Q:=by
 rw[aj,j6 _ rfl];rfl
theorem ahK(d:Nat)(c a b:Operand):bm P (cI d c a b::r) F H Q=match ar F c with
  | .bool t=>bm P r (a5 F d (if t=true then ar F a else ar F b)) H Q
  | _=>False:=by
 rw[cI,j6 _ rfl];simp only[ca];cases ar F c<;>rfl
theorem R4(d e:Nat):bm P (bL d e::r) F H Q=match dL P e with
  | some z=>(flat z=true/\(bu P e).isSome=true)/\bm P r (a5 F d (.pointer (some ⟨H.length,0,none⟩))) (H++[.own e false z.cells.toList]) Q
  | none=>False:=by
 rw[bL,j6 _ rfl];simp only[ca]
 cases dL P e with
 | none=>rfl
 | some z=>simp only[tH];rfl
theorem ahp(d e:Nat)(x:Operand):bm P (cE d e x::r) F H Q=((bu P e).isSome=true/\bm P r (a5 F d (.pointer (some ⟨H.length,0,none⟩))) (H++[.own e false (ar F x).cells.toList]) Q):=by
 rw[cE,j6 _ rfl];simp only[ca,tH];rfl
theorem ahA(d t:Nat)(x:Operand):bm P (aB d t x::r) F H Q=match ar F x with
  | .pointer (some ⟨b,i,none⟩)=>(match(H[b]?).bind bN.cells? with
   | some cs=>(match dk P t with
    | some false=>(match cs[i]? with
     | some v=>bm P r (a5 F d v) H Q
     | none=>False)
    | some true=>(match bu P t with
     | some n=>i+n<=cs.length/\bm P r (a5 F d (.agg ((cs.drop i).take n).toArray)) H Q
     | none=>False)
    | none=>False)
   | none=>False)
  | _=>False:=by
 rw[aB,j6 _ rfl];simp only[ca,jt]
 cases ar F x<;>try rfl
 rename_i a
 cases a with
 | none=>rfl
 | some a=>
  obtain⟨b,i,c⟩:=a
  cases c<;>try rfl
  simp only
  cases(H[b]?).bind bN.cells? with
  | none=>rfl
  | some cs=>
   simp only
   cases dk P t with
   | none=>rfl
   | some g=>
    cases g with
    | false=>simp only[vM];rfl
    | true=>
     simp only
     cases bu P t with
     | none=>rfl
     | some n=>simp only[tH];rfl
theorem ahM(b:Bool)(t:Nat)(x y:Operand):bm P (⟨b,none,none,.store t x y⟩::r) F H Q=match ar F x with
  | .pointer (some ⟨tC,i,none⟩)=>(match H[tC]? with
   | some (.own e l cs)=>(bu P t=some (ar F y).cells.size/\i+(ar F y).cells.size<=cs.length/\((ar F y).cells.toList.all (·.oneCell'))=true)/\b=true/\bm P r F (H.set tC (.own e l (mY cs i (ar F y).cells.toList))) Q
   | _=>False)
  | _=>False:=by
 simp only[bm,gL,ca]
 have no:∀K:Value->ad->Prop,(match(none:Option (Value×ad))with
   | some (v,H1)=>(iw (.store t x y)=true->b=true)/\K v H1
   | none=>j3 (.store t x y)=true/\∃v H1,oD P (ar F) H (.store t x y) v H1/\(b=true\/Ext H H1)/\K v H1)=False:=fun K=>by simp[j3]
 cases ar F x<;>try exact no _
 rename_i a
 cases a with
 | none=>exact no _
 | some a=>
  obtain⟨tC,i,c⟩:=a
  cases c<;>try exact no _
  simp only
  cases H[tC]? with
  | none=>exact no _
  | some X=>
   cases X<;>try exact no _
   rename_i e l cs
   simp only
   by_cases ag:bu P t=some (ar F y).cells.size/\i+(ar F y).cells.size<=cs.length/\((ar F y).cells.toList.all (·.oneCell'))=true
   ·rw[if_pos ag,IV (by simpa using ag.2.1)]
    simp only[iw,true_implies,gw]
    exact propext ⟨fun h=>⟨ag,h.1,h.2⟩,fun h=>h.2⟩
   ·rw[if_neg ag]
    exact propext ⟨fun h=>by simp[j3]at h,fun h=>(ag h.1).elim⟩
theorem ahN(t:Nat)(x y:Operand):bm P (st t x y::r) F H Q=match ar F x with
  | .pointer (some ⟨tC,i,none⟩)=>(match H[tC]? with
   | some (.own e l cs)=>(bu P t=some (ar F y).cells.size/\i+(ar F y).cells.size<=cs.length/\((ar F y).cells.toList.all (·.oneCell'))=true)/\bm P r F (H.set tC (.own e l (mY cs i (ar F y).cells.toList))) Q
   | _=>False)
  | _=>False:=by
 rw[st,ahM]
 simp only[true_and]
theorem ahI(d:Nat)(x:Operand):bm P (jF d x::r) F H Q=match ar F x with
  | .pointer (some a)=>bm P r (a5 F d (.pointer (some a))) H Q
  | _=>False:=by
 rw[jF,j6 _ rfl];simp only[ca]
 cases ar F x<;>try rfl
 rename_i a;cases a<;>rfl
theorem aho(d:Nat)(op:BinOp)(t:Nat)(x y:Operand):bm P (bi d op t x y::r) F H Q=match ej P op t (ar F x) (ar F y)with
  | some v=>bm P r (a5 F d v) H Q
  | none=>False:=by
 rw[bi,j6 _ rfl];simp only[ca,vM];rfl
theorem ahO(d:Nat)(op:UnOp)(x:Operand):bm P (un d op x::r) F H Q=match qu op (ar F x)with
  | some v=>bm P r (a5 F d v) H Q
  | none=>False:=by
 rw[un,j6 _ rfl];simp only[ca,vM];rfl
theorem ahv(d s:Nat)(x:Operand)(f:Nat):bm P (a8 d s x f::r) F H Q=match ar F x with
  | .pointer (some ⟨b,i,none⟩)=>(match fG P s f with
   | some off=>bm P r (a5 F d (.pointer (some ⟨b,i+off,none⟩))) H Q
   | none=>False)
  | _=>False:=by
 rw[a8,j6 _ rfl];simp only[ca]
 cases ar F x<;>try rfl
 rename_i a
 cases a with
 | none=>rfl
 | some a=>
  obtain⟨b,i,c⟩:=a
  cases c<;>try rfl
  simp only
  cases fG P s f<;>rfl
theorem ahx(d s:Nat)(x:Operand)(f:Nat):bm P (oQ d s x f::r) F H Q=match ar F x with
  | .agg cs=>(match pW P s f with
   | some c=>(match qM cs c with
    | some v=>bm P r (a5 F d v) H Q
    | none=>False)
   | none=>False)
  | _=>False:=by
 rw[oQ,j6 _ rfl];simp only[ca]
 cases ar F x<;>try rfl
 simp only
 cases pW P s f with
 | none=>rfl
 | some c=>simp only[vM];rfl
theorem ahy(d t:Nat)(x i:Operand):bm P (bb d t x i::r) F H Q=match ar F x,ar F i with
  | .slice (some ⟨b,U,none⟩) len _,.int _ n=>(match e1 P t with
   | some e=>(match bu P e with
    | some R=>(0<=n/\n<len)/\bm P r (a5 F d (.pointer (some ⟨b,U+n.toNat*R,none⟩))) H Q
    | none=>False)
   | none=>False)
  | _,_=>False:=by
 rw[bb,j6 _ rfl];simp only[ca]
 cases ar F x<;>try rfl
 rename_i a len cap
 cases a with
 | none=>rfl
 | some a=>
  obtain⟨b,U,c⟩:=a
  cases c<;>try rfl
  cases ar F i<;>try rfl
  simp only
  cases e1 P t with
  | none=>rfl
  | some e=>
   simp only
   cases bu P e with
   | none=>rfl
   | some n=>simp only[tH];rfl
theorem ahz(d t:Nat)(x i:Operand):bm P (ez d t x i::r) F H Q=match ar F x,ar F i with
  | .string s,.int _ n=>(jl P t=true/\0<=n/\n<s.size)/\bm P r (a5 F d (.int .u8 ((s.data.getD n.toNat 0).toNat:Int))) H Q
  | _,_=>False:=by
 rw[ez,j6 _ rfl];simp only[ca]
 cases ar F x<;>try rfl
 cases ar F i<;>try rfl
 simp only[tH];rfl
theorem ahu(d:Nat)(x:Operand)(i:Nat):bm P (ex d x i::r) F H Q=match ar F x with
  | .tuple aH=>(match aH[i]? with
   | some v=>bm P r (a5 F d v) H Q
   | none=>False)
  | _=>False:=by
 rw[ex,j6 _ rfl];simp only[ca]
 cases ar F x<;>try rfl
 simp only[vM];rfl
theorem ahD(d t:Nat)(x:Operand):bm P (nA d t x::r) F H Q=(P.concrete t=true/\bm P r (a5 F d (.iface t (ar F x))) H Q):=by
 rw[nA,j6 _ rfl];simp only[ca,tH];rfl
theorem ahC(d:Nat)(fn:Fn)(a b:Array Operand):bm P (w8 d fn a b::r) F H Q=bm P r (a5 F d (.func fn (a.map (ar F)) (b.map (ar F)))) H Q:=by
 rw[w8,j6 _ rfl];rfl
def Dq(P:Program)(F:Fr)(t:Nat)(aM:List (Nat×Operand)):Option Value:=match dL P t with
 | some z=>if flat z=true then dK P (Instr.build t (aM.toArray.map fun p=>(p.1,ar F p.2)))else none
 | none=>none
theorem ahn(d t:Nat)(aM:List (Nat×Operand)):bm P (dF d t aM::r) F H Q=match Dq P F t aM with
  | some v=>bm P r (a5 F d v) H Q
  | none=>False:=by
 rw[dF,j6 _ rfl];simp only[ca,Dq]
 cases dL P t with
 | none=>rfl
 | some z=>
  simp only
  split
  ·simp only[vM];rfl
  ·rfl
theorem ahB(d t:Nat)(x:Operand):bm P (bt d t x::r) F H Q=match ar F x with
  | .slice _ n _=>(match e1 P t with
   | some _=>bm P r (a5 F d (.int .i64 n)) H Q
   | none=>False)
  | .string s=>jl P t=true/\bm P r (a5 F d (.int .i64 s.size)) H Q
  | _=>False:=by
 rw[bt,j6 _ rfl];simp only[ca,s7]
 cases ar F x<;>try rfl
 ·simp only[tH];rfl
 ·simp only;cases e1 P t<;>rfl
theorem ahH(d:Nat)(b4:List Nat)(x y:Operand):bm P (w9 d b4 x y::r) F H Q=match ar F x,ar F y with
  | .int k a,.int _ b=>bm P r (a5 F d (.int k (if b>a then b else a))) H Q
  | _,_=>False:=by
 rw[w9,j6 _ rfl];simp only[ca,s7]
 cases ar F x<;>try rfl
 cases ar F y<;>rfl
theorem ahE(d:Nat)(b4:List Nat)(x y:Operand):bm P (z2 d b4 x y::r) F H Q=match ar F x,ar F y with
  | .int k a,.int _ b=>bm P r (a5 F d (.int k (if b<a then b else a))) H Q
  | _,_=>False:=by
 rw[z2,j6 _ rfl];simp only[ca,s7]
 cases ar F x<;>try rfl
 cases ar F y<;>rfl
theorem IX(b:Bool)(d:Option Nat)(f:Nat)(args:Array Operand):bm P (⟨b,none,d,.call {callee:= .value (.func f),args:=args,argTypes:= #[]}⟩::r) F H Q=aX P f (args.toList.map (ar F)) H (fun v H1=>(b=true\/Ext H H1)/\bm P r (gw F d v) H1 Q):=by
 simp only[bm,gL,ar]
 simp
theorem ahq(d f:Nat)(args:List Operand):bm P (aV d f args::r) F H Q=aX P f (args.map (ar F)) H (fun v H1=>bm P r (a5 F d v) H1 Q):=by
 rw[aV,IX];simp[gw]
theorem ahr(f:Nat)(args:List Operand):bm P (A_ f args::r) F H Q=aX P f (args.map (ar F)) H (fun v H1=>bm P r F H1 Q):=by
 rw[A_,IX];simp[gw]
theorem ahJ(d f:Nat)(args:List Operand):bm P (bk (aV d f args)::r) F H Q=aX P f (args.map (ar F)) H (fun v H1=>Ext H H1/\bm P r (a5 F d v) H1 Q):=by
 simp only[bk,aV];rw[IX];simp[gw]
theorem ahs(d:Nat)(x:Operand)(args:List Operand):bm P (oN d x args::r) F H Q=match ar F x with
  | .func (.func g) first cap=>aX P g (first.toList++args.map (ar F)++cap.toList) H (fun v H1=>bm P r (a5 F d v) H1 Q)
  | _=>False:=by
 simp only[bm,oN,gL]
 cases ar F x<;>try rfl
 rename_i fn a b
 cases fn<;>simp[gw]
theorem aht(d s t:Nat)(x:Operand){gP:IntKind}{n:Int}(h:ar F x= .int gP n){mS k:IntKind}(ao:kL P s=some mS)(bG:kL P t=some k):bm P (cm d s t x::r) F H Q=bm P r (a5 F d (.int k (k.wrap n))) H Q:=by
 simp[bm,cm,gL,ca,iw,gw,h,ao,bG]
theorem ahG{b:Bool}{d:Option Nat}{op:Op}(an:isVal op=false)(hm:j3 op=true)(aF:ca P (ar F) H op=none){v:Value}{H1:ad}(aq:oD P (ar F) H op v H1)(af:b=true\/Ext H H1)(h:bm P r (gw F d v) H1 Q):bm P (⟨b,none,d,op⟩::r) F H Q:=by
 simp only[bm]
 have main:(match ca P (ar F) H op with
   | some (v,H1)=>(iw op=true->b=true)/\bm P r (gw F d v) H1 Q
   | none=>j3 op=true/\∃v H1,oD P (ar F) H op v H1/\(b=true\/Ext H H1)/\bm P r (gw F d v) H1 Q):=by
  rw[aF]
  exact⟨hm,v,H1,aq,af,h⟩
 cases op<;>try exact main
 rename_i c
 obtain⟨callee,args,lX⟩:=c
 cases callee<;>try exact main
 simp[isVal]at an
end
def pD:List Value->Nat->List Value->List Value
 | cs,_,[]=>cs
 | cs,i,v::aH=>pD (cs.set i v) (i+1) aH
theorem Mk(off:Nat):∀(aH:List Value) (k:Nat) (cs:Array Value),((aH.zipIdx k).foldl (fun cs (r1:Value×Nat)=>cs.setIfInBounds (off+r1.2) r1.1) cs).toList=pD cs.toList (off+k) aH
 | [],k,cs=>rfl
 | v::aH,k,cs=>by
  simp only[List.zipIdx_cons,List.foldl_cons,pD]
  rw[Mk off aH (k+1) _]
  simp[Nat.add_assoc]
def jQ(place:Nat->Option (Nat×Nat))(cs:List Value):List (Nat×Value)->Option (List Value)
 | []=>some cs
 | (i,v)::rest=>match place i with
  | none=>none
  | some (off,size)=>if v.cells.toList.length=size/\off+size<=cs.length then jQ place (pD cs off v.cells.toList) rest else none
def k1(pl:List (Nat×Nat))(cs:List Value)(parts:List (Nat×Value)):Option (List Value):=jQ (fun i=>pl[i]?) cs parts
theorem fill_eq(place:Nat->Option (Nat×Nat)):∀(parts:List (Nat×Value)) (cs:Array Value),Instr.fill place cs parts=(jQ place cs.toList parts).map (·.toArray)
 | [],cs=>by simp[Instr.fill,jQ]
 | (i,v)::rest,cs=>by
  simp only[jQ,Instr.fill]
  cases place i with
  | none=>rfl
  | some os=>
   obtain⟨off,size⟩:=os
   simp only
   have e:(v.cells.zipIdx.foldl (fun cs (x:Value×Nat)=>cs.setIfInBounds (off+x.2) x.1) cs).toList=pD cs.toList off v.cells.toList:=by
    have:=Mk off v.cells.toList 0 cs
    rw[<-Array.foldl_toList,Array.toList_zipIdx]
    simpa using this
   by_cases ag:v.cells.toList.length=size/\off+size<=cs.toList.length
   ·rw[if_pos ag]
    have o:v.cells.size=size:=by simpa using ag.1
    have aa:off+size<=cs.size:=by simpa using ag.2
    rw[if_neg (by simp[o];omega),fill_eq place rest,<-e]
   ·rw[if_neg ag]
    have:(decide (v.cells.size≠size) || decide (off+v.cells.size>cs.size))=true:=by
     by_cases o:v.cells.size=size
     ·have aa:¬(off+size<=cs.size):=fun h=>ag ⟨by simpa using o,by simpa using h⟩
      simp[o];omega
     ·simp[o]
    rw[if_pos this]
    rfl
def mm(P:Program)(t:TypeId):Option (List (Nat×Nat)):=match P.underlying t with
 | some (.struct kA)=>kA.toList.mapM fun f=>(bu P f.type).map fun n=>(f.offset,n)
 | _=>none
theorem Qn{P:Program}{α β:Type}(f:α->Sem β)(g:α->Option β)(h:∀a,dK P (f a)=g a):∀l:List α,dK P (l.mapM f)=l.mapM g
 | []=>by simp[fr]
 | a::l=>by
  simp only[List.mapM_cons,fX,fr,h,Qn f g h l]
  rfl
theorem ada{P:Program}{F:Fr}{t:Nat}{aM:List (Nat×Operand)}{z:Value}{pl:List (Nat×Nat)}(aQ:dL P t=some z)(eb:flat z=true)(aK:mm P t=some pl):
  Dq P F t aM=(k1 pl z.cells.toList (aM.map fun p=>(p.1,ar F p.2))).map fun out=> .agg out.toArray:=by
 unfold mm at aK
 split at aK
 ·rename_i kA hu
  simp only[Dq,aQ,eb,if_true,Instr.build,fX,HO,Option.bind_some,pz,hu]
  have hm:dK P (kA.mapM fun f=>do pure (f.offset,<-sizeOf f.type))=some pl.toArray:=by
   rw[Array.mapM_eq_mapM_toList,qq,Qn _ (fun f=>(bu P f.type).map fun n=>(f.offset,n)) (fun f=>by
    simp only[fX,fr,z8]
    cases bu P f.type<;>rfl),aK]
   rfl
  rw[hm]
  simp only[Option.bind_some]
  have:=fill_eq (fun x=>pl.toArray[x]?) (aM.map fun p=>(p.1,ar F p.2)) z.cells
  rw[show(fun x=>pl.toArray[x]?)=fun x=>pl[x]? from funext fun x=>by simp]at this
  have au:(aM.toArray.map fun p=>(p.1,ar F p.2)).toList=aM.map fun p=>(p.1,ar F p.2):=by simp
  rw[au,show(fun x=>pl.toArray[x]?)=fun x=>pl[x]? from funext fun x=>by simp,this]
  unfold k1
  cases jQ (fun i=>pl[i]?) z.cells.toList (aM.map fun p=>(p.1,ar F p.2))<;>rfl
 ·cases aK
@[simp] theorem ajU(pl:List (Nat×Nat))(cs:List Value):k1 pl cs []=some cs:=rfl
@[simp] theorem ajT(pl:List (Nat×Nat))(cs:List Value)(i:Nat)(v:Value)(rest:List (Nat×Value)):k1 pl cs ((i,v)::rest)=match pl[i]? with
  | none=>none
  | some (off,size)=>if v.cells.toList.length=size/\off+size<=cs.length then k1 pl (pD cs off v.cells.toList) rest else none:=rfl
attribute [simp] pD
def fj{α:Type}(U:Option α)(K:α->Prop):Prop:=match U with
 | some v=>K v
 | none=>False
def gR(c:Prop)(K:Prop):Prop:=c/\K
def iA(b:Bool)(cy c5:Prop):Prop:=match b with
 | true=>cy
 | false=>c5
def Ja(v:Value)(K:Addr->Prop):Prop:=match v with
 | .pointer (some a)=>K a
 | _=>False
def AQ(v:Value)(K:Bool->Prop):Prop:=match v with
 | .bool b=>K b
 | _=>False
def qE(v:Value)(K:IntKind->Int->Prop):Prop:=match v with
 | .int k n=>K k n
 | _=>False
def tu(v:Value)(K:Nat->Nat->Prop):Prop:=match v with
 | .pointer (some ⟨b,i,none⟩)=>K b i
 | _=>False
def AT(v:Value)(K:Option Addr->Nat->Nat->Prop):Prop:=match v with
 | .slice a n c=>K a n c
 | _=>False
def AP(a:Option Addr)(K:Nat->Nat->Prop):Prop:=match a with
 | some ⟨b,i,none⟩=>K b i
 | _=>False
def Jf(v:Value)(K:ByteArray->Prop):Prop:=match v with
 | .string s=>K s
 | _=>False
def oF(v:Value)(K:Array Value->Prop):Prop:=match v with
 | .agg cs=>K cs
 | _=>False
def Ee(v:Value)(K:Array Value->Prop):Prop:=match v with
 | .tuple cs=>K cs
 | _=>False
def I9(v:Value)(K:Nat->Array Value->Array Value->Prop):Prop:=match v with
 | .func (.func g) a b=>K g a b
 | _=>False
def Jc(x:Option bN)(K:TypeId->Bool->List Value->Prop):Prop:=match x with
 | some (.own e l cs)=>K e l cs
 | _=>False
section
theorem Sa(K:Prop):gR True K=K:=by simp[gR]
theorem iA.mk{b:Bool}{cy c5:Prop}(o:b=true->cy)(aa:b=false->c5):iA b cy c5:=by
 cases b
 ·exact aa rfl
 ·exact o rfl
theorem iA.b_{p:Prop}[Decidable p]{cy c5:Prop}(o:p->cy)(aa:¬p->c5):iA (decide p) cy c5:=by
 by_cases h:p
 ·rw[decide_eq_true h];exact o h
 ·rw[decide_eq_false h];exact aa h
@[simp] theorem ane(F:Fr)(d:Nat)(v:Value)(i:Nat):a5 F d v i=if i=d then v else F i:=rfl
attribute [simp] ke Mf Ud Ue
@[simp] theorem ai3(b:Bool):hy (.bool b)=some b:=rfl
@[simp] theorem aiA(a:Value)(l:List Value):kb (a::l) 0=a:=rfl
@[simp] theorem aiB(a b:Value)(l:List Value):kb (a::b::l) 1=b:=rfl
@[simp] theorem aiC(a b c:Value)(l:List Value):kb (a::b::c::l) 2=c:=rfl
@[simp] theorem aiD(a b c d:Value)(l:List Value):kb (a::b::c::d::l) 3=d:=rfl
@[simp] theorem aiE(a b c d e:Value)(l:List Value):kb (a::b::c::d::e::l) 4=e:=rfl
@[simp] theorem aiF(a b c d e f:Value)(l:List Value):kb (a::b::c::d::e::f::l) 5=f:=rfl
@[simp] theorem aiG(a b c d e f g:Value)(l:List Value):kb (a::b::c::d::e::f::g::l) 6=g:=rfl
theorem b2{n:Int}(o: -9223372036854775808<=n)(aa:n<9223372036854775808):IntKind.wrap .i64 n=n:=by
 simp only[IntKind.wrap,IntKind.bits,IntKind.signed]
 simp
 split<;>omega
theorem gI{n:Int}(o:0<=n)(aa:n<18446744073709551616):IntKind.wrap .u64 n=n:=by
 simp only[IntKind.wrap,IntKind.bits,IntKind.signed]
 simp
 omega
theorem mZ{n:Int}(o:0<=n)(aa:n<4294967296):IntKind.wrap .u32 n=n:=by
 simp only[IntKind.wrap,IntKind.bits,IntKind.signed]
 simp
 omega
theorem D0{n:Int}(o:0<=n)(aa:n<256):IntKind.wrap .u8 n=n:=by
 simp only[IntKind.wrap,IntKind.bits,IntKind.signed]
 simp
 omega
theorem pI(n:Int):IntKind.wrap .u32 n=n % 4294967296:=by
 simp only[IntKind.wrap,IntKind.bits,IntKind.signed]
 simp
theorem RY(n:Int):IntKind.wrap .u64 n=n % 18446744073709551616:=by
 simp only[IntKind.wrap,IntKind.bits,IntKind.signed]
 simp
@[simp] theorem aiY:IntKind.bits .u64=64:=rfl
@[simp] theorem aiX:IntKind.bits .u32=32:=rfl
@[simp] theorem aiW:IntKind.bits .i64=64:=rfl
@[simp] theorem aiZ:IntKind.bits .u8=8:=rfl
@[simp] theorem al3:IntKind.signed .u64=false:=rfl
@[simp] theorem al2:IntKind.signed .u32=false:=rfl
@[simp] theorem al4:IntKind.signed .u8=false:=rfl
@[simp] theorem al1:IntKind.signed .i64=true:=rfl
theorem nP(a:Int){b:Int}(h:0<=b):a.fdiv b=a/b:=Int.fdiv_eq_ediv_of_nonneg a h
section
variable {P:Program} {t:Nat} {k b1:IntKind} {a b:Int}
@[simp] theorem ac5:ej P .add t (.int k a) (.int k b)=some (.int k (k.wrap (a+b))):=by simp[ej,kY]
@[simp] theorem alY:ej P .sub t (.int k a) (.int k b)=some (.int k (k.wrap (a-b))):=by simp[ej,kY]
@[simp] theorem alM:ej P .mul t (.int k a) (.int k b)=some (.int k (k.wrap (a*b))):=by simp[ej,kY]
@[simp] theorem alI:ej P .eql t (.int k a) (.int k b)=some (.bool (decide (a=b))):=by simp[ej,kY];rfl
@[simp] theorem alN:ej P .neq t (.int k a) (.int k b)=some (.bool (decide (a≠b))):=by
 simp[ej,kY]
 by_cases h:a=b<;>simp[h]
@[simp] theorem ac7:ej P .lss t (.int k a) (.int k b)=some (.bool (decide (a<b))):=by simp[ej,kY]
@[simp] theorem alL:ej P .leq t (.int k a) (.int k b)=some (.bool (decide (a<=b))):=by simp[ej,kY]
@[simp] theorem alK:ej P .gtr t (.int k a) (.int k b)=some (.bool (decide (b<a))):=by simp[ej,kY]
@[simp] theorem alJ:ej P .geq t (.int k a) (.int k b)=some (.bool (decide (b<=a))):=by simp[ej,kY]
@[simp] theorem alR:ej P .quo t (.int k a) (.int k b)=if b=0 then none else some (.int k (k.wrap (a.tdiv b))):=by simp[ej,kY]
@[simp] theorem alS:ej P .rem t (.int k a) (.int k b)=if b=0 then none else some (.int k (a.tmod b)):=by simp[ej,kY]
@[simp] theorem QO:ej P .or t (.int k a) (.int k b)=some (.int k (k.wrap (BitVec.ofInt k.bits a ||| BitVec.ofInt k.bits b).toNat)):=by simp[ej,kY]
@[simp] theorem ac6:ej P .and t (.int k a) (.int k b)=some (.int k (k.wrap (BitVec.ofInt k.bits a&&&BitVec.ofInt k.bits b).toNat)):=by simp[ej,kY]
@[simp] theorem alZ:ej P .xor t (.int k a) (.int k b)=some (.int k (k.wrap (BitVec.ofInt k.bits a^^^BitVec.ofInt k.bits b).toNat)):=by simp[ej,kY]
@[simp] theorem ac9:ej P .shl t (.int k a) (.int b1 b)=if b<0 then none else some (.int k (k.wrap (a*2^(min b.toNat k.bits)))):=by simp[ej,x3]
@[simp] theorem alW:ej P .shr t (.int k a) (.int b1 b)=if b<0 then none else some (.int k (a.fdiv (2^(min b.toNat k.bits)))):=by simp[ej,x3]
@[simp] theorem alU{x y:ByteArray}:ej P .eql t (.string x) (.string y)=some (.bool (x.toList==y.toList)):=by simp[ej,vy]
@[simp] theorem alX{x y:ByteArray}:ej P .neq t (.string x) (.string y)=some (.bool !(x.toList==y.toList)):=by simp[ej,vy]
@[simp] theorem alT{x y:ByteArray}:ej P .add t (.string x) (.string y)=if x.size+y.size<=9223372036854775807 then some (.string (x++y))else none:=by simp[ej,vy]
@[simp] theorem alG{x y:Bool}:ej P .eql t (.bool x) (.bool y)=if vA P t=true then some (.bool (x==y))else none:=by simp[ej]
@[simp] theorem alH{x y:Bool}:ej P .neq t (.bool x) (.bool y)=if vA P t=true then some (.bool (!(x==y)))else none:=by simp[ej]
@[simp] theorem alO{x:Option Addr}{n c:Nat}:ej P .eql t (.slice x n c) (.slice none 0 0)=(e1 P t).map fun _=> .bool x.isNone:=by simp only[ej];cases e1 P t<;>rfl
@[simp] theorem al5{x:Int}:qu .neg (.int k x)=some (.int k (k.wrap (0-x))):=rfl
@[simp] theorem al6{x:Bool}:qu .not (.bool x)=some (.bool !x):=rfl
@[simp] theorem al7{x:Int}:qu .xor (.int k x)=some (.int k (k.wrap (BitVec.ofInt k.bits (if k.signed then-1 else k.max)^^^BitVec.ofInt k.bits x).toNat)):=rfl
end
section
variable {P:Program} {r:List bJ} {F:Fr} {H:ad} {Q:Fr->ad->Prop}
def iz(x:bJ):bJ:={x with g:=none}
def ow(U:Option Bool)(w:Bool)(cy c5:Prop):Prop:=if U=some w then cy else c5
theorem Se(b:Bool)(cy c5:Prop):ow (some b) true cy c5=iA b cy c5:=by cases b<;>simp[ow,iA]
theorem Sd(b:Bool)(cy c5:Prop):ow (some b) false cy c5=iA b c5 cy:=by cases b<;>simp[ow,iA]
theorem ag5(j:Nat)(w:Bool)(x:bJ):bm P (aJ j w x::r) F H Q=ow (hy (F j)) w (bm P (iz x::r) F H Q) (bm P r (gw F x.d undef) H Q):=rfl
@[simp] theorem ajV(d:Nat)(v:Value):gw F (some d) v=a5 F d v:=rfl
@[simp] theorem am7(x:bJ):iz (bk x)=bk (iz x):=rfl
@[simp] theorem ajJ(x:bJ):(bk x).d=x.d:=rfl
@[simp] theorem am6(d:Nat)(x:Operand):iz (I d x)=I d x:=rfl
@[simp] theorem ajI(d:Nat)(x:Operand):(I d x).d=some d:=rfl
@[simp] theorem ana(d:Nat)(x:Operand):iz (aj d x)=aj d x:=rfl
@[simp] theorem ajM(d:Nat)(x:Operand):(aj d x).d=some d:=rfl
@[simp] theorem am9(d:Nat)(c a b:Operand):iz (cI d c a b)=cI d c a b:=rfl
@[simp] theorem ajL(d:Nat)(c a b:Operand):(cI d c a b).d=some d:=rfl
@[simp] theorem amS(d e:Nat):iz (bL d e)=bL d e:=rfl
@[simp] theorem ajt(d e:Nat):(bL d e).d=some d:=rfl
@[simp] theorem amU(d e:Nat)(x:Operand):iz (cE d e x)=cE d e x:=rfl
@[simp] theorem ajw(d e:Nat)(x:Operand):(cE d e x).d=some d:=rfl
@[simp] theorem am3(d t:Nat)(x:Operand):iz (aB d t x)=aB d t x:=rfl
@[simp] theorem ajF(d t:Nat)(x:Operand):(aB d t x).d=some d:=rfl
@[simp] theorem am8(d:Nat)(x:Operand):iz (jF d x)=jF d x:=rfl
@[simp] theorem ajK(d:Nat)(x:Operand):(jF d x).d=some d:=rfl
@[simp] theorem amT(d:Nat)(op:BinOp)(t:Nat)(x y:Operand):iz (bi d op t x y)=bi d op t x y:=rfl
@[simp] theorem aju(d:Nat)(op:BinOp)(t:Nat)(x y:Operand):(bi d op t x y).d=some d:=rfl
@[simp] theorem anc(d:Nat)(op:UnOp)(x:Operand):iz (un d op x)=un d op x:=rfl
@[simp] theorem ajO(d:Nat)(op:UnOp)(x:Operand):(un d op x).d=some d:=rfl
@[simp] theorem amX(d s t:Nat)(x:Operand):iz (cm d s t x)=cm d s t x:=rfl
@[simp] theorem ajz(d s t:Nat)(x:Operand):(cm d s t x).d=some d:=rfl
@[simp] theorem amZ(d s:Nat)(x:Operand)(f:Nat):iz (a8 d s x f)=a8 d s x f:=rfl
@[simp] theorem ajB(d s:Nat)(x:Operand)(f:Nat):(a8 d s x f).d=some d:=rfl
@[simp] theorem am0(d s:Nat)(x:Operand)(f:Nat):iz (oQ d s x f)=oQ d s x f:=rfl
@[simp] theorem ajC(d s:Nat)(x:Operand)(f:Nat):(oQ d s x f).d=some d:=rfl
@[simp] theorem am1(d t:Nat)(x i:Operand):iz (bb d t x i)=bb d t x i:=rfl
@[simp] theorem ajD(d t:Nat)(x i:Operand):(bb d t x i).d=some d:=rfl
@[simp] theorem am2(d t:Nat)(x i:Operand):iz (ez d t x i)=ez d t x i:=rfl
@[simp] theorem ajE(d t:Nat)(x i:Operand):(ez d t x i).d=some d:=rfl
@[simp] theorem amY(d:Nat)(x:Operand)(i:Nat):iz (ex d x i)=ex d x i:=rfl
@[simp] theorem ajA(d:Nat)(x:Operand)(i:Nat):(ex d x i).d=some d:=rfl
@[simp] theorem anb(d t:Nat)(x:Operand)(bg ab fH:Option Operand):iz (gj d t x bg ab fH)=gj d t x bg ab fH:=rfl
@[simp] theorem ajN(d t:Nat)(x:Operand)(bg ab fH:Option Operand):(gj d t x bg ab fH).d=some d:=rfl
@[simp] theorem am4(d t:Nat)(x:Operand):iz (bt d t x)=bt d t x:=rfl
@[simp] theorem ajG(d t:Nat)(x:Operand):(bt d t x).d=some d:=rfl
@[simp] theorem amV(d f:Nat)(args:List Operand):iz (aV d f args)=aV d f args:=rfl
@[simp] theorem ajx(d f:Nat)(args:List Operand):(aV d f args).d=some d:=rfl
@[simp] theorem amW(d:Nat)(x:Operand)(args:List Operand):iz (oN d x args)=oN d x args:=rfl
@[simp] theorem ajy(d:Nat)(x:Operand)(args:List Operand):(oN d x args).d=some d:=rfl
@[simp] theorem am5(d t:Nat)(x:Operand):iz (nA d t x)=nA d t x:=rfl
@[simp] theorem ajH(d t:Nat)(x:Operand):(nA d t x).d=some d:=rfl
theorem ahd(d:Nat)(c a b:Operand):bm P (cI d c a b::r) F H Q=AQ (ar F c) fun t=>bm P r (a5 F d (if t=true then ar F a else ar F b)) H Q:=by
 rw[ahK];cases ar F c<;>rfl
theorem agX(d e:Nat):bm P (bL d e::r) F H Q=fj (dL P e) fun z=>gR (flat z=true/\(bu P e).isSome=true) (bm P r (a5 F d (.pointer (some ⟨H.length,0,none⟩))) (H++[.own e false z.cells.toList]) Q):=by
 rw[R4];cases dL P e<;>rfl
theorem RZ(d e:Nat)(x:Operand):bm P (cE d e x::r) F H Q=gR ((bu P e).isSome=true) (bm P r (a5 F d (.pointer (some ⟨H.length,0,none⟩))) (H++[.own e false (ar F x).cells.toList]) Q):=by
 rw[ahp];rfl
def lenOf(P:Program)(t:Nat):Value->Option Nat
 | .slice _ n _=>(e1 P t).map fun _=>n
 | .string s=>if jl P t=true then some s.size else none
 | _=>none
theorem ag8(d t:Nat)(x:Operand):bm P (aB d t x::r) F H Q=tu (ar F x) fun b i=>fj ((H[b]?).bind bN.cells?) fun cs=>fj (dk P t) fun g=>iA g (fj (bu P t) fun n=>gR (i+n<=cs.length) (bm P r (a5 F d (.agg ((cs.drop i).take n).toArray)) H Q)) (fj cs[i]? fun v=>bm P r (a5 F d v) H Q):=by
 rw[ahA]
 cases ar F x<;>try rfl
 rename_i a
 cases a with
 | none=>rfl
 | some a=>
  obtain⟨b,i,c⟩:=a
  cases c<;>try rfl
  simp only[tu]
  cases(H[b]?).bind bN.cells? with
  | none=>rfl
  | some cs=>
   simp only[fj]
   cases dk P t with
   | none=>rfl
   | some g=>
    cases g with
    | false=>simp only[iA];cases cs[i]?<;>rfl
    | true=>simp only[iA];cases bu P t<;>rfl
theorem ahe(t:Nat)(x y:Operand):bm P (st t x y::r) F H Q=tu (ar F x) fun b i=>Jc H[b]? fun e l cs=>gR (bu P t=some (ar F y).cells.size/\i+(ar F y).cells.size<=cs.length/\((ar F y).cells.toList.all (·.oneCell'))=true) (bm P r F (H.set b (.own e l (mY cs i (ar F y).cells.toList))) Q):=by
 rw[ahN]
 cases ar F x<;>try rfl
theorem ahc(d:Nat)(x:Operand):bm P (jF d x::r) F H Q=Ja (ar F x) fun a=>bm P r (a5 F d (.pointer (some a))) H Q:=by
 rw[ahI]
 cases ar F x<;>try rfl
theorem agZ(d:Nat)(op:BinOp)(t:Nat)(x y:Operand):bm P (bi d op t x y::r) F H Q=fj (ej P op t (ar F x) (ar F y)) fun v=>bm P r (a5 F d v) H Q:=by
 rw[aho];cases ej P op t (ar F x) (ar F y)<;>rfl
theorem ahf(d:Nat)(op:UnOp)(x:Operand):bm P (un d op x::r) F H Q=fj (qu op (ar F x)) fun v=>bm P r (a5 F d v) H Q:=by
 rw[ahO];cases qu op (ar F x)<;>rfl
theorem ag3(d s:Nat)(x:Operand)(f:Nat):bm P (a8 d s x f::r) F H Q=tu (ar F x) fun b i=>fj (fG P s f) fun off=>bm P r (a5 F d (.pointer (some ⟨b,i+off,none⟩))) H Q:=by
 rw[ahv]
 cases ar F x<;>try rfl
 rename_i a
 cases a with
 | none=>rfl
 | some a=>
  obtain⟨b,i,c⟩:=a
  cases c<;>try rfl
  cases fG P s f<;>rfl
theorem ag4(d s:Nat)(x:Operand)(f:Nat):bm P (oQ d s x f::r) F H Q=oF (ar F x) fun cs=>fj (pW P s f) fun c=>fj (qM cs c) fun v=>bm P r (a5 F d v) H Q:=by
 rw[ahx]
 cases ar F x<;>try rfl
 rename_i cs
 simp only[oF,fj]
 cases pW P s f with
 | none=>rfl
 | some c=>simp only;cases qM cs c<;>rfl
theorem Bq{α:Type}(U:Option α){K:α->Prop}(h:∀v,K v=False):fj U K=False:=by cases U<;>simp[fj,h]
theorem ag6(d t:Nat)(x i:Operand):bm P (bb d t x i::r) F H Q=AT (ar F x) fun a len _=>qE (ar F i) fun _ n=>fj (e1 P t) fun e=>fj (bu P e) fun R=>AP a fun b U=>gR (0<=n/\n<len) (bm P r (a5 F d (.pointer (some ⟨b,U+n.toNat*R,none⟩))) H Q):=by
 rw[ahy]
 generalize ar F x=u
 generalize ar F i=w
 cases u with
 | slice a len cap=>
  rcases a with _ | ⟨b,U,_ | c⟩
  ·cases w with
   | int k n=>exact(Bq _ fun e=>Bq _ fun z=>rfl).symm
   | _=>rfl
  ·cases w with
   | int k n=>
    simp only[AT,qE,AP]
    cases e1 P t with
    | none=>rfl
    | some e=>
     simp only[fj]
     cases bu P e<;>rfl
   | _=>rfl
  ·cases w with
   | int k n=>exact(Bq _ fun e=>Bq _ fun z=>rfl).symm
   | _=>rfl
 | _=>rfl
theorem ag7(d t:Nat)(x i:Operand):bm P (ez d t x i::r) F H Q=Jf (ar F x) fun s=>qE (ar F i) fun _ n=>gR (jl P t=true/\0<=n/\n<s.size) (bm P r (a5 F d (.int .u8 ((s.data.getD n.toNat 0).toNat:Int))) H Q):=by
 rw[ahz]
 cases ar F x<;>try rfl
 cases ar F i<;>rfl
theorem ag2(d:Nat)(x:Operand)(i:Nat):bm P (ex d x i::r) F H Q=Ee (ar F x) fun aH=>fj aH[i]? fun v=>bm P r (a5 F d v) H Q:=by
 rw[ahu]
 cases ar F x<;>try rfl
 rename_i aH
 simp only[Ee]
 cases aH[i]?<;>rfl
theorem agY{d t:Nat}{aM:List (Nat×Operand)}{z:Value}{pl:List (Nat×Nat)}(aQ:dL P t=some z)(eb:flat z=true)(aK:mm P t=some pl):
  bm P (dF d t aM::r) F H Q=fj (k1 pl z.cells.toList (aM.map fun p=>(p.1,ar F p.2))) fun out=>bm P r (a5 F d (.agg out.toArray)) H Q:=by
 rw[ahn,ada aQ eb aK]
 cases k1 pl z.cells.toList (aM.map fun p=>(p.1,ar F p.2))<;>rfl
def isInt:Value->Bool
 | .int _ _=>true
 | _=>false
def intOf:Value->Int
 | .int _ n=>n
 | _=>0
@[simp] theorem ale(k:IntKind)(n:Int):isInt (.int k n)=true:=rfl
@[simp] theorem ald(k:IntKind)(n:Int):intOf (.int k n)=n:=rfl
theorem ag1{d s t:Nat}{x:Operand}{mS k:IntKind}(ao:kL P s=some mS)(bG:kL P t=some k)(J:isInt (ar F x)=true):bm P (cm d s t x::r) F H Q=bm P r (a5 F d (.int k (k.wrap (intOf (ar F x))))) H Q:=by
 cases an:ar F x<;>rw[an]at J<;>first | exact aht d s t x an ao bG | cases J
def isStr:Value->Bool
 | .string _=>true
 | _=>false
@[simp] theorem alg(s:ByteArray):isStr (.string s)=true:=rfl
theorem ag0(d:Nat)(x:Operand)(args:List Operand):bm P (oN d x args::r) F H Q=I9 (ar F x) fun g a b=>aX P g (a.toList++args.map (ar F)++b.toList) H (fun v H1=>bm P r (a5 F d v) H1 Q):=by
 rw[ahs]
 cases ar F x<;>try rfl
theorem ag9(d t:Nat)(x:Operand):bm P (bt d t x::r) F H Q=fj (lenOf P t (ar F x)) fun(n:Nat)=>bm P r (a5 F d (.int .i64 n)) H Q:=by
 rw[ahB]
 cases ar F x<;>try rfl
 ·simp only[lenOf]
  split
  ·rename_i h;simp[h,fj]
  ·rename_i h;simp[h,fj]
 ·simp only[lenOf]
  cases e1 P t<;>rfl
@[simp] theorem abg(t:Nat)(a:Option Addr)(n c:Nat):lenOf P t (.slice a n c)=(e1 P t).map fun _=>n:=rfl
@[simp] theorem abh(t:Nat)(s:ByteArray):lenOf P t (.string s)=if jl P t=true then some s.size else none:=rfl
theorem ahb(d:Nat)(b4:List Nat)(x y:Operand):bm P (w9 d b4 x y::r) F H Q=qE (ar F x) fun k a=>qE (ar F y) fun _ b=>bm P r (a5 F d (.int k (if b>a then b else a))) H Q:=by
 rw[ahH]
 cases ar F x<;>try rfl
 cases ar F y<;>rfl
theorem aha(d:Nat)(b4:List Nat)(x y:Operand):bm P (z2 d b4 x y::r) F H Q=qE (ar F x) fun k a=>qE (ar F y) fun _ b=>bm P r (a5 F d (.int k (if b<a then b else a))) H Q:=by
 rw[ahE]
 cases ar F x<;>try rfl
 cases ar F y<;>rfl
end
section
variable {P:Program} {F:Fr} {H:ad} {Q:dS->Fr->ad->Prop}
theorem ahW:eP P .skip F H Q=Q .normal F H:=rfl
theorem ahU:eP P .ret F H Q=Q .ret F H:=rfl
theorem ahR(id:Nat):eP P (.exit id) F H Q=Q (.exit id) F H:=rfl
theorem ahV(x y:g3):eP P (.seq x y) F H Q=eP P x F H (oj (fun az H1=>eP P y az H1 Q) Q):=rfl
theorem ahQ(c:Operand)(x y:g3):eP P (.cond c x y) F H Q=AQ (ar F c) fun b=>iA b (eP P x F H Q) (eP P y F H Q):=by
 simp only[eP]
 cases ar F c<;>try rfl
 rename_i b
 cases b<;>rfl
theorem ahP(id:Nat)(x:g3):eP P (.block id x) F H Q=eP P x F H (qJ id Q):=rfl
theorem ahS(x:g3):eP P (.loop x) F H Q=rU (eP P x) Q F H:=rfl
theorem ahT(l:List bJ):eP P (.ops l) F H Q=bm P l F H (fun az H1=>Q .normal az H1):=rfl
theorem adh{K:Fr->ad->Prop}:oj K Q .normal F H=K F H:=rfl
theorem adi{K:Fr->ad->Prop}:oj K Q .ret F H=Q .ret F H:=rfl
theorem adg{K:Fr->ad->Prop}(id:Nat):oj K Q (.exit id) F H=Q (.exit id) F H:=rfl
theorem Sz(id:Nat):qJ id Q .normal F H=Q .normal F H:=rfl
theorem SA(id:Nat):qJ id Q .ret F H=Q .ret F H:=rfl
theorem Sy(id iv:Nat):qJ id Q (.exit iv) F H=if iv=id then Q .normal F H else Q (.exit iv) F H:=rfl
theorem ahk{K:List Value->Prop}:kV P F H [] K=K []:=rfl
theorem ahl{K:List Value->Prop}(i:Nat)(rs:List ResultVar):kV P F H (.tmp i::rs) K=kV P F H rs fun aH=>K (F i::aH):=rfl
theorem ahj{K:List Value->Prop}(a ty:Nat)(rs:List ResultVar):kV P F H (.cell a ty::rs) K=tu (F a) fun b i=>fj ((H[b]?).bind bN.cells?) fun cs=>fj (dk P ty) fun g=>iA g (fj (bu P ty) fun n=>gR (i+n<=cs.length) (kV P F H rs fun aH=>K (.agg ((cs.drop i).take n).toArray::aH))) (fj cs[i]? fun v=>kV P F H rs fun aH=>K (v::aH)):=by
 simp only[kV,jt]
 cases F a<;>try rfl
 rename_i a
 cases a with
 | none=>rfl
 | some a=>
  obtain⟨b,i,c⟩:=a
  cases c<;>try rfl
  simp only[tu]
  cases(H[b]?).bind bN.cells? with
  | none=>rfl
  | some cs=>
   simp only[fj]
   cases dk P ty with
   | none=>rfl
   | some g=>
    cases g with
    | false=>simp only[iA];cases cs[i]?<;>rfl
    | true=>simp only[iA];cases bu P ty<;>rfl
end
end
universe u v in
inductive bc {α:Sort u} {β:Sort v} (a:α) (b:β):Type
 | mk
def ba(P:Program)(l:List bJ)(Q:Fr->ad->Prop)(ax:bc l Q)(F:Fr)(H:ad):Prop:=bm P l F H Q
def hv(P:Program)(x:g3)(Q:dS->Fr->ad->Prop)(ax:bc x Q)(F:Fr)(H:ad):Prop:=eP P x F H Q
def rY(P:Program)(rs:List ResultVar)(K:List Value->Prop)(ax:bc rs K)(F:Fr)(H:ad):Prop:=kV P F H rs K
def aY(P:Program)(f:FuncId)(Q:Value->ad->Prop)(ax:bc f Q)(args:List Value)(H:ad):Prop:=aX P f args H Q
def lQ(P:Program)(x:g3)(Q:dS->Fr->ad->Prop)(ax:bc x Q)(F:Fr)(H:ad):Prop:=rU (eP P x) Q F H
def gC{α:Type}(K:α->Prop)(ax:bc K K)(U:Option α):Prop:=fj U K
def dz(K:Prop)(ax:bc K K)(c:Prop):Prop:=gR c K
def br(cy c5:Prop)(ax:bc cy c5)(b:Bool):Prop:=iA b cy c5
def pK(cy c5:Prop)(ax:bc cy c5)(U:Option Bool)(w:Bool):Prop:=ow U w cy c5
def AR(K:Bool->Prop)(ax:bc K K)(v:Value):Prop:=AQ v K
def rW(K:IntKind->Int->Prop)(ax:bc K K)(v:Value):Prop:=qE v K
def xR(K:Nat->Nat->Prop)(ax:bc K K)(v:Value):Prop:=tu v K
def Ed(K:Option Addr->Nat->Nat->Prop)(ax:bc K K)(v:Value):Prop:=AT v K
def Ec(K:Nat->Nat->Prop)(ax:bc K K)(v:Option Addr):Prop:=AP v K
def Jg(K:ByteArray->Prop)(ax:bc K K)(v:Value):Prop:=Jf v K
def AS(K:Array Value->Prop)(ax:bc K K)(v:Value):Prop:=oF v K
def Ji(K:Array Value->Prop)(ax:bc K K)(v:Value):Prop:=Ee v K
def Jd(K:TypeId->Bool->List Value->Prop)(ax:bc K K)(v:Option bN):Prop:=Jc v K
def I_(K:Nat->Array Value->Array Value->Prop)(ax:bc K K)(v:Value):Prop:=I9 v K
@[simp] theorem aih(g:Nat)(a b:Array Value)(K:Nat->Array Value->Array Value->Prop)(ax:bc K K):I_ K ax (.func (.func g) a b)=K g a b:=rfl
def Jb(K:Addr->Prop)(ax:bc K K)(v:Value):Prop:=Ja v K
@[simp] theorem eG{α:Type}(v:α)(K:α->Prop)(ax:bc K K):gC K ax (some v)=K v:=rfl
@[simp] theorem ah6(K:Prop)(ax:bc K K):dz K ax True=K:=Sa K
@[simp] theorem R_(cy c5:Prop)(ax:bc cy c5):br cy c5 ax true=cy:=rfl
@[simp] theorem rP(cy c5:Prop)(ax:bc cy c5):br cy c5 ax false=c5:=rfl
@[simp] theorem ah5(b:Bool)(cy c5:Prop)(ax:bc cy c5):br cy c5 ax (!b)=br c5 cy .mk b:=by cases b<;>rfl
@[simp] theorem aia(b:Bool)(cy c5:Prop)(ax:bc cy c5):pK cy c5 ax (some b) true=br cy c5 .mk b:=Se b cy c5
@[simp] theorem ah8(b:Bool)(cy c5:Prop)(ax:bc cy c5):pK cy c5 ax (some b) false=br c5 cy .mk b:=Sd b cy c5
@[simp] theorem Si(b:Bool)(K:Bool->Prop)(ax:bc K K):AR K ax (.bool b)=K b:=rfl
@[simp] theorem m5(k:IntKind)(n:Int)(K:IntKind->Int->Prop)(ax:bc K K):rW K ax (.int k n)=K k n:=rfl
@[simp] theorem lo(b i:Nat)(K:Nat->Nat->Prop)(ax:bc K K):xR K ax (.pointer (some ⟨b,i,none⟩))=K b i:=rfl
@[simp] theorem oG(a:Option Addr)(n c:Nat)(K:Option Addr->Nat->Nat->Prop)(ax:bc K K):Ed K ax (.slice a n c)=K a n c:=rfl
@[simp] theorem oE(b i:Nat)(K:Nat->Nat->Prop)(ax:bc K K):Ec K ax (some ⟨b,i,none⟩)=K b i:=rfl
@[simp] theorem Jh(s:ByteArray)(K:ByteArray->Prop)(ax:bc K K):Jg K ax (.string s)=K s:=rfl
@[simp] theorem aii(s:Array Value)(K:Array Value->Prop)(ax:bc K K):AS K ax (.agg s)=K s:=rfl
@[simp] theorem aik(s:Array Value)(K:Array Value->Prop)(ax:bc K K):Ji K ax (.tuple s)=K s:=rfl
@[simp] theorem Je(e:TypeId)(l:Bool)(cs:List Value)(K:TypeId->Bool->List Value->Prop)(ax:bc K K):Jd K ax (some (.own e l cs))=K e l cs:=rfl
@[simp] theorem aij(a:Addr)(K:Addr->Prop)(ax:bc K K):Jb K ax (.pointer (some a))=K a:=rfl
theorem dz.mk{c K:Prop}{ax:bc K K}(h:c)(ah:K):dz K ax c:=⟨h,ah⟩
theorem br.mk{b:Bool}{cy c5:Prop}{ax:bc cy c5}(o:b=true->cy)(aa:b=false->c5):br cy c5 ax b:=iA.mk o aa
theorem br.b_{p:Prop}[Decidable p]{cy c5:Prop}{ax:bc cy c5}(o:p->cy)(aa:¬p->c5):br cy c5 ax (decide p):=iA.b_ o aa
theorem aY.mk{P:Program}{f:FuncId}{Q:Value->ad->Prop}{ax:bc f Q}{args:List Value}{H:ad}{ae:Value->ad->Prop}(h:aX P f args H ae)(aq:∀v H1,ae v H1->Q v H1):aY P f Q ax args H:=aX.mono h aq
theorem lQ.mk{P:Program}{x:g3}{Q:dS->Fr->ad->Prop}{ax:bc x Q}(ai:Nat->Fr->ad->Prop){F:Fr}{H:ad}(n:Nat)(aG:ai n F H)
  (round:∀n F H,ai n F H->∀K:Fr->ad->Prop,(∀m az H1,m<n->ai m az H1->K az H1)->hv P x (oj K Q) .mk F H):lQ P x Q ax F H:=rU.inv ai (fun n F H h=>round n F H h _ fun m az H1 hm ew=>⟨m,hm,ew⟩) n F H aG
theorem aX.cc{P:Program}{f:FuncId}{args:List Value}{H:ad}{ae:Value->ad->Prop}(h:∀Q:Value->ad->Prop,(∀v H1,ae v H1->Q v H1)->aX P f args H Q):aX P f args H ae:=h ae fun _ _ h=>h
theorem aX.aa2{P:Program}{f:FuncId}{fn:Func}{x:fL}{args:List Value}{H:ad}{Q:Value->ad->Prop}(aC:P.funcs[f]?=some fn)(aF:(fn.name== "runtime.NumGoroutine")=false)(ag:comp P fn=some x)(au:args.length<=fn.ntmps)
  (h:hv P x.code (rC P x.results Q) .mk (kb args) H):aX P f args H Q:=aX.Zg aC aF ag au h
section
variable {P:Program} {r:List bJ} {F:Fr} {H:ad} {Q:Fr->ad->Prop}
@[simp] theorem Re(ax:bc ([]:List bJ) Q):ba P [] Q ax F H=Q F H:=rfl
@[simp] theorem aeb(d:Nat)(x:Operand)(ax:bc (I d x::r) Q):ba P (I d x::r) Q ax F H=ba P r Q .mk (a5 F d (ar F x)) H:=ahF d x
@[simp] theorem amp(d:Nat)(x:Operand)(ax:bc (aj d x::r) Q):ba P (aj d x::r) Q ax F H=ba P r Q .mk (a5 F d (ar F x)) H:=ahL d x
@[simp] theorem amj(d t:Nat)(x:Operand)(ax:bc (nA d t x::r) Q):ba P (nA d t x::r) Q ax F H=dz (ba P r Q .mk (a5 F d (.iface t (ar F x))) H) .mk (P.concrete t=true):=ahD d t x
@[simp] theorem ami(d:Nat)(fn:Fn)(a b:Array Operand)(ax:bc (w8 d fn a b::r) Q):ba P (w8 d fn a b::r) Q ax F H=ba P r Q .mk (a5 F d (.func fn (a.map (ar F)) (b.map (ar F)))) H:=ahC d fn a b
@[simp] theorem amd(d f:Nat)(args:List Operand)(ax:bc (aV d f args::r) Q):ba P (aV d f args::r) Q ax F H=aY P f (fun v H1=>ba P r Q .mk (a5 F d v) H1) .mk (args.map (ar F)) H:=ahq d f args
@[simp] theorem ame(f:Nat)(args:List Operand)(ax:bc (A_ f args::r) Q):ba P (A_ f args::r) Q ax F H=aY P f (fun v H1=>ba P r Q .mk F H1) .mk (args.map (ar F)) H:=ahr f args
@[simp] theorem amn(d f:Nat)(args:List Operand)(ax:bc (bk (aV d f args)::r) Q):ba P (bk (aV d f args)::r) Q ax F H=aY P f (fun v H1=>Ext H H1/\ba P r Q .mk (a5 F d v) H1) .mk (args.map (ar F)) H:=ahJ d f args
theorem rI{d t:Nat}{aM:List (Nat×Operand)}{z:Value}{pl:List (Nat×Nat)}(aQ:dL P t=some z)(eb:flat z=true)(aK:mm P t=some pl)(ax:bc (dF d t aM::r) Q):
  ba P (dF d t aM::r) Q ax F H=gC (fun out=>ba P r Q .mk (a5 F d (.agg out.toArray)) H) .mk (k1 pl z.cells.toList (aM.map fun p=>(p.1,ar F p.2))):=agY aQ eb aK
theorem oo{d s t:Nat}{x:Operand}{mS k:IntKind}(ao:kL P s=some mS)(bG:kL P t=some k)(J:isInt (ar F x)=true)(ax:bc (cm d s t x::r) Q):ba P (cm d s t x::r) Q ax F H=ba P r Q .mk (a5 F d (.int k (k.wrap (intOf (ar F x))))) H:=ag1 ao bG J
@[simp] theorem ad8(j:Nat)(w:Bool)(x:bJ)(ax:bc (aJ j w x::r) Q):(ba P (aJ j w x::r) Q ax F H)=(pK ((ba P (iz x::r) Q .mk F H)) ((ba P r Q .mk (gw F x.d undef) H)) .mk (hy (F j)) w):=ag5 j w x
@[simp] theorem amo(d:Nat)(c a b:Operand)(ax:bc (cI d c a b::r) Q):(ba P (cI d c a b::r) Q ax F H)=(AR (fun t=>(ba P r Q .mk (a5 F d (if t=true then ar F a else ar F b)) H)) .mk (ar F c)):=ahd d c a b
@[simp] theorem tc(d e:Nat)(ax:bc (bL d e::r) Q):(ba P (bL d e::r) Q ax F H)=(gC (fun z=>(dz ((ba P r Q .mk (a5 F d (.pointer (some ⟨H.length,0,none⟩))) (H++[.own e false z.cells.toList]))) .mk (flat z=true/\(bu P e).isSome=true))) .mk (dL P e)):=agX d e
@[simp] theorem amc(d e:Nat)(x:Operand)(ax:bc (cE d e x::r) Q):(ba P (cE d e x::r) Q ax F H)=(dz ((ba P r Q .mk (a5 F d (.pointer (some ⟨H.length,0,none⟩))) (H++[.own e false (ar F x).cells.toList]))) .mk ((bu P e).isSome=true)):=RZ d e x
@[simp] theorem te(d t:Nat)(x:Operand)(ax:bc (aB d t x::r) Q):(ba P (aB d t x::r) Q ax F H)=(xR (fun b i=>(gC (fun cs=>(gC (fun g=>(br ((gC (fun n=>(dz ((ba P r Q .mk (a5 F d (.agg ((cs.drop i).take n).toArray)) H)) .mk (i+n<=cs.length))) .mk (bu P t))) ((gC (fun v=>(ba P r Q .mk (a5 F d v) H)) .mk cs[i]?)) .mk g)) .mk (dk P t))) .mk ((H[b]?).bind bN.cells?))) .mk (ar F x)):=ag8 d t x
@[simp] theorem Ri(t:Nat)(x y:Operand)(ax:bc (st t x y::r) Q):(ba P (st t x y::r) Q ax F H)=(xR (fun b i=>(Jd (fun e l cs=>(dz ((ba P r Q .mk F (H.set b (.own e l (mY cs i (ar F y).cells.toList))))) .mk (bu P t=some (ar F y).cells.size/\i+(ar F y).cells.size<=cs.length/\((ar F y).cells.toList.all (·.oneCell'))=true))) .mk H[b]?)) .mk (ar F x)):=ahe t x y
@[simp] theorem amm(d:Nat)(x:Operand)(ax:bc (jF d x::r) Q):(ba P (jF d x::r) Q ax F H)=(Jb (fun a=>(ba P r Q .mk (a5 F d (.pointer (some a))) H)) .mk (ar F x)):=ahc d x
@[simp] theorem Rc(d:Nat)(op:BinOp)(t:Nat)(x y:Operand)(ax:bc (bi d op t x y::r) Q):(ba P (bi d op t x y::r) Q ax F H)=(gC (fun v=>(ba P r Q .mk (a5 F d v) H)) .mk (ej P op t (ar F x) (ar F y))):=agZ d op t x y
@[simp] theorem amq(d:Nat)(op:UnOp)(x:Operand)(ax:bc (un d op x::r) Q):(ba P (un d op x::r) Q ax F H)=(gC (fun v=>(ba P r Q .mk (a5 F d v) H)) .mk (qu op (ar F x))):=ahf d op x
@[simp] theorem xx(d s:Nat)(x:Operand)(f:Nat)(ax:bc (a8 d s x f::r) Q):(ba P (a8 d s x f::r) Q ax F H)=(xR (fun b i=>(gC (fun off=>(ba P r Q .mk (a5 F d (.pointer (some ⟨b,i+off,none⟩))) H)) .mk (fG P s f))) .mk (ar F x)):=ag3 d s x f
@[simp] theorem amh(d s:Nat)(x:Operand)(f:Nat)(ax:bc (oQ d s x f::r) Q):(ba P (oQ d s x f::r) Q ax F H)=(AS (fun cs=>(gC (fun c=>(gC (fun v=>(ba P r Q .mk (a5 F d v) H)) .mk (qM cs c))) .mk (pW P s f))) .mk (ar F x)):=ag4 d s x f
@[simp] theorem gk(d t:Nat)(x i:Operand)(ax:bc (bb d t x i::r) Q):(ba P (bb d t x i::r) Q ax F H)=(Ed (fun a len _=>(rW (fun _ n=>(gC (fun e=>(gC (fun R=>(Ec (fun b U=>(dz ((ba P r Q .mk (a5 F d (.pointer (some ⟨b,U+n.toNat*R,none⟩))) H)) .mk (0<=n/\n<len))) .mk a)) .mk (bu P e))) .mk (e1 P t))) .mk (ar F i))) .mk (ar F x)):=ag6 d t x i
@[simp] theorem iM(d t:Nat)(x i:Operand)(ax:bc (ez d t x i::r) Q):(ba P (ez d t x i::r) Q ax F H)=(Jg (fun s=>(rW (fun _ n=>(dz ((ba P r Q .mk (a5 F d (.int .u8 ((s.data.getD n.toNat 0).toNat:Int))) H)) .mk (jl P t=true/\0<=n/\n<s.size))) .mk (ar F i))) .mk (ar F x)):=ag7 d t x i
@[simp] theorem amg(d:Nat)(x:Operand)(i:Nat)(ax:bc (ex d x i::r) Q):(ba P (ex d x i::r) Q ax F H)=(Ji (fun aH=>(gC (fun v=>(ba P r Q .mk (a5 F d v) H)) .mk aH[i]?)) .mk (ar F x)):=ag2 d x i
@[simp] theorem amf(d:Nat)(x:Operand)(args:List Operand)(ax:bc (oN d x args::r) Q):(ba P (oN d x args::r) Q ax F H)=(I_ (fun g a b=>(aY P g ((fun v H1=>(ba P r Q .mk (a5 F d v) H1))) .mk (a.toList++args.map (ar F)++b.toList) H)) .mk (ar F x)):=ag0 d x args
@[simp] theorem hq(d t:Nat)(x:Operand)(ax:bc (bt d t x::r) Q):(ba P (bt d t x::r) Q ax F H)=(gC (fun(n:Nat)=>(ba P r Q .mk (a5 F d (.int .i64 n)) H)) .mk (lenOf P t (ar F x))):=ag9 d t x
@[simp] theorem aml(d:Nat)(b4:List Nat)(x y:Operand)(ax:bc (w9 d b4 x y::r) Q):(ba P (w9 d b4 x y::r) Q ax F H)=(rW (fun k a=>(rW (fun _ b=>(ba P r Q .mk (a5 F d (.int k (if b>a then b else a))) H)) .mk (ar F y))) .mk (ar F x)):=ahb d b4 x y
@[simp] theorem amk(d:Nat)(b4:List Nat)(x y:Operand)(ax:bc (z2 d b4 x y::r) Q):(ba P (z2 d b4 x y::r) Q ax F H)=(rW (fun k a=>(rW (fun _ b=>(ba P r Q .mk (a5 F d (.int k (if b<a then b else a))) H)) .mk (ar F y))) .mk (ar F x)):=aha d b4 x y
end
section
variable {P:Program} {F:Fr} {H:ad} {Q:dS->Fr->ad->Prop}
@[simp] theorem amz(ax:bc (.skip:g3) Q):(hv P .skip Q ax F H)=Q .normal F H:=ahW
@[simp] theorem amy(ax:bc (.ret:g3) Q):(hv P .ret Q ax F H)=Q .ret F H:=ahU
@[simp] theorem amv(id:Nat)(ax:bc ((.exit id):g3) Q):(hv P (.exit id) Q ax F H)=Q (.exit id) F H:=ahR id
@[simp] theorem cS(x y:g3)(ax:bc ((.seq x y):g3) Q):(hv P (.seq x y) Q ax F H)=(hv P x (oj ((fun az H1=>(hv P y Q .mk az H1))) Q) .mk F H):=ahV x y
@[simp] theorem amu(c:Operand)(x y:g3)(ax:bc ((.cond c x y):g3) Q):(hv P (.cond c x y) Q ax F H)=(AR (fun b=>(br ((hv P x Q .mk F H)) ((hv P y Q .mk F H)) .mk b)) .mk (ar F c)):=ahQ c x y
@[simp] theorem IA(id:Nat)(x:g3)(ax:bc ((.block id x):g3) Q):(hv P (.block id x) Q ax F H)=(hv P x (qJ id Q) .mk F H):=ahP id x
@[simp] theorem amw(x:g3)(ax:bc ((.loop x):g3) Q):(hv P (.loop x) Q ax F H)=(lQ P x Q .mk F H):=ahS x
@[simp] theorem amx(l:List bJ)(ax:bc ((.ops l):g3) Q):(hv P (.ops l) Q ax F H)=(ba P l ((fun az H1=>Q .normal az H1)) .mk F H):=ahT l
@[simp] theorem ams{K:List Value->Prop}(ax:bc ([]:List ResultVar) K):(rY P [] K ax F H)=K []:=ahk
@[simp] theorem amt{K:List Value->Prop}(i:Nat)(rs:List ResultVar)(ax:bc ((.tmp i::rs):List ResultVar) K):(rY P (.tmp i::rs) K ax F H)=(rY P rs (fun aH=>K (F i::aH)) .mk F H):=ahl i rs
@[simp] theorem amr{K:List Value->Prop}(a ty:Nat)(rs:List ResultVar)(ax:bc ((.cell a ty::rs):List ResultVar) K):(rY P (.cell a ty::rs) K ax F H)=(xR (fun b i=>(gC (fun cs=>(gC (fun g=>(br ((gC (fun n=>(dz ((rY P rs (fun aH=>K (.agg ((cs.drop i).take n).toArray::aH)) .mk F H)) .mk (i+n<=cs.length))) .mk (bu P ty))) ((gC (fun v=>(rY P rs (fun aH=>K (v::aH)) .mk F H)) .mk cs[i]?)) .mk g)) .mk (dk P ty))) .mk ((H[b]?).bind bN.cells?))) .mk (F a)):=ahj a ty rs
@[simp] theorem al8{rs:List ResultVar}{ae:Value->ad->Prop}:rC P rs ae .normal F H=rY P rs (fun aH=>ae (bf aH) H) .mk F H:=rfl
@[simp] theorem al9{rs:List ResultVar}{ae:Value->ad->Prop}:rC P rs ae .ret F H=rY P rs (fun aH=>ae (bf aH) H) .mk F H:=rfl
attribute [simp] adh adi adg Sz SA Sy
end
def eA(H:ad)(e R:Nat)(v:Value)(n:Nat)(cs:List Value):Prop:=
 ∃a cap,v= .slice a n cap/\n<=cap/\cs.length=n*R/\(0<cap->∃b i X all,a=some ⟨b,i,none⟩/\H[b]?=some X/\X.cells?=some all/\X.elem?=some e/\i+n*R<=all.length/\cs=(all.drop i).take (n*R))
theorem Ext.av{H H1 aT:ad}(h:Ext H H1)(cq:Ext H1 aT):Ext H aT:=by
 obtain⟨N,rfl,aF⟩:=h
 obtain⟨M,rfl,hm⟩:=cq
 refine⟨N++M,by simp,fun x J=>?_⟩
 rcases List.mem_append.1 J with J | J
 ·exact aF x J
 ·exact hm x J
theorem Ext.snoc{cJ H:ad}(h:Ext cJ H)(e:TypeId)(l:Bool)(cs:List Value):Ext cJ (H++[.own e l cs]):=h.av ⟨[.own e l cs],rfl,fun x J c0 eQ=>by simp at J;subst J;simp⟩
theorem Ext.set{cJ H:ad}(h:Ext cJ H){b:Nat}(af:cJ.length<=b){X:bN}(aZ:∀e cs,X≠ .ro e cs):Ext cJ (H.set b X):=by
 obtain⟨N,rfl,aF⟩:=h
 refine⟨N.set (b-cJ.length) X,by rw[List.set_append_right _ _ af],fun x J e cs=>?_⟩
 rcases List.mem_or_eq_of_mem_set J with J | rfl
 ·exact aF x J e cs
 ·exact aZ e cs
theorem eA.ext{H H1:ad}{e R n:Nat}{v:Value}{cs:List Value}(h:eA H e R v n cs)(J:Ext H H1):eA H1 e R v n cs:=by
 obtain⟨a,cap,an,o,aa,aE⟩:=h
 refine⟨a,cap,an,o,aa,fun ag=>?_⟩
 obtain⟨b,i,X,all,aU,aO,bw⟩:=aE ag
 exact⟨b,i,X,all,aU,J.get_some aO,bw⟩
theorem eA.len{H:ad}{e R n:Nat}{v:Value}{cs:List Value}(h:eA H e R v n cs):∃a cap,v= .slice a n cap:=by
 obtain⟨a,cap,an,-⟩:=h;exact⟨a,cap,an⟩
theorem eA.at{H:ad}{e R n:Nat}{v:Value}{cs:List Value}(h:eA H e R v n cs)(aF:0<n):∃b i cap X all,v= .slice (some ⟨b,i,none⟩) n cap/\H[b]?=some X/\X.cells?=some all/\i+n*R<=all.length/\∀k,k<n*R->all[i+k]?=cs[k]?:=by
 obtain⟨a,cap,rfl,o,aa,aE⟩:=h
 obtain⟨b,i,X,all,rfl,aO,bw,cj,eR,g0⟩:=aE (by omega)
 refine⟨b,i,cap,X,all,rfl,aO,bw,eR,fun k ah=>?_⟩
 rw[g0,List.getElem?_take_of_lt ah,List.getElem?_drop]
theorem eA.src{H:ad}{e R n:Nat}{v:Value}{cs:List Value}(h:eA H e R v n cs){m:Nat}(hm:m<=n):Src H R v n m (cs.take (m*R)):=by
 obtain⟨a,cap,rfl,o,aa,aE⟩:=h
 by_cases aG:m=0
 ·subst aG;simpa using Src.xJ
 ·obtain⟨b,i,X,all,rfl,aO,bw,cj,eR,rfl⟩:=aE (by omega)
  have y8:m*R<=n*R:=Nat.mul_le_mul_right _ hm
  rw[List.take_take,Nat.min_eq_left y8]
  exact .row aO bw (by omega) hm (by omega)
theorem eA.nil(H:ad)(e R:Nat):eA H e R (.slice none 0 0) 0 []:=⟨none,0,rfl,Nat.le_refl _,by simp,fun h=>absurd h (by omega)⟩
theorem eA.void(H:ad)(e R:Nat)(a:Option Addr):eA H e R (.slice a 0 0) 0 []:=⟨a,0,rfl,Nat.le_refl _,by simp,fun h=>absurd h (by omega)⟩
section
variable {P:Program} {r:List bJ} {F:Fr} {H:ad} {Q:Fr->ad->Prop}
theorem kr{b:Bool}{d:Option Nat}{op:Op}{ax:bc ((⟨b,none,d,op⟩:bJ)::r) Q}(an:isVal op=false)(hm:j3 op=true)(aF:ca P (ar F) H op=none){v:Value}{H1:ad}(aq:∀U:Oper,U.op=op->fx P (ar F) H U v H1)(aC:∀U:Oper,U.op=op->bZ P U=false)
  (af:b=true\/Ext H H1)(h:ba P r Q .mk (gw F d v) H1):ba P (⟨b,none,d,op⟩::r) Q ax F H:=ahG an hm aF (fun U aW=>⟨aC U aW,aq U aW⟩) af h
theorem Rh{ff:Bool}{d t e R n l h:Nat}{x:Operand}{bg ab:Option Operand}{cs:List Value}{ax:bc ((⟨ff,none,some d,.slice t x bg ab none⟩:bJ)::r) Q}(bP:eA H e R (ar F x) n cs)(hu:P.underlying t=some (.slice e))(ao:bu P e=some R)(au:ea (ar F) bg=some l)(db:fo (ar F) n ab=some h)(o:l<=h)(aa:h<=n)
  (K:∀aw,eA H e R aw (h-l) ((cs.drop (l*R)).take ((h-l)*R))->ba P r Q .mk (a5 F d aw) H):ba P ((⟨ff,none,some d,.slice t x bg ab none⟩:bJ)::r) Q ax F H:=by
 obtain⟨a,cap,an,aE,bA,bQ⟩:=bP
 have zp:ca P (ar F) H (.slice t x bg ab none)=none:=by simp only[ca,an]
 have a7:∀U:Oper,U.op= .slice t x bg ab none->bZ P U=false:=fun U aW=>by simp[bZ,aW]
 have hlen:((cs.drop (l*R)).take ((h-l)*R)).length=(h-l)*R:=by
  have:h*R<=n*R:=Nat.mul_le_mul_right _ aa
  have:l*R<=h*R:=Nat.mul_le_mul_right _ o
  have:(h-l)*R=h*R-l*R:=Nat.sub_mul _ _ _
  simp[bA];omega
 by_cases ag:cap=0
 ·have jz:n=0:=by omega
  have WL:h=0:=by omega
  have q4:l=0:=by omega
  subst ag jz WL q4
  refine kr (v:= .slice a 0 0) (H1:=H) rfl rfl zp (fun U aW=> .Am aW hu ao an au db) a7 (.inr (Ext.refl H)) (K _ ?_)
  have:(cs.drop (0*R)).take ((0-0)*R)=[]:=by simp
  rw[this]
  exact eA.void H e R a
 ·obtain⟨b,i,X,all,rfl,aO,bw,cj,eR,g0⟩:=bQ (by omega)
  by_cases ma:l<cap
  ·refine kr (v:= .slice (some ⟨b,i+l*R,none⟩) (h-l) (cap-l)) (H1:=H) rfl rfl zp (fun U aW=> .slice aW hu ao an aO cj au db o (by omega) ma) a7 (.inr (Ext.refl H)) (K _ ?_)
   refine⟨_,_,rfl,by omega,hlen,fun _=>⟨b,i+l*R,X,all,rfl,aO,bw,cj,?_,?_⟩⟩
   ·have:h*R<=n*R:=Nat.mul_le_mul_right _ aa
    have:l*R<=h*R:=Nat.mul_le_mul_right _ o
    have:(h-l)*R=h*R-l*R:=Nat.sub_mul _ _ _
    omega
   ·rw[g0,List.drop_take,List.drop_drop,List.take_take]
    congr 1
    have:h*R<=n*R:=Nat.mul_le_mul_right _ aa
    have:(h-l)*R=h*R-l*R:=Nat.sub_mul _ _ _
    omega
  ·have bn:l=cap:=by omega
   have bj:h=cap:=by omega
   have fT:n=cap:=by omega
   subst bn bj
   refine kr (v:= .slice (some ⟨b,i,none⟩) 0 0) (H1:=H) rfl rfl zp (fun U aW=> .Al aW hu ao an (by omega) au db) a7 (.inr (Ext.refl H)) (K _ ?_)
   rw[Nat.sub_self,Nat.zero_mul,List.take_zero]
   exact eA.void H e R _
theorem aei{d t e R n l h:Nat}{x:Operand}{bg ab:Option Operand}{cs:List Value}{ax:bc (gj d t x bg ab none::r) Q}(bP:eA H e R (ar F x) n cs)(hu:P.underlying t=some (.slice e))(ao:bu P e=some R)(au:ea (ar F) bg=some l)(db:fo (ar F) n ab=some h)(o:l<=h)(aa:h<=n)
  (K:∀aw,eA H e R aw (h-l) ((cs.drop (l*R)).take ((h-l)*R))->ba P r Q .mk (a5 F d aw) H):ba P (gj d t x bg ab none::r) Q ax F H:=Rh (ff:=true) bP hu ao au db o aa K
theorem Ar{d t e R bI l c:Nat}{x y:Operand}{e6 dc:IntKind}{z:Value}{ax:bc (ms d t x y::r) Q}(hu:P.underlying t=some (.slice e))(ao:bu P e=some R)(af:bytes? P e=some bI)(aQ:dL P e=some z)(eb:flat z=true)(dt:z.cells.size=R)
  (J:ar F x= .int e6 (l:Int))(aP:ar F y= .int dc (c:Int))(df:0<R)(eh:0<bI)(ma:l<=c)(ag:0<c)(bF:bI*c<=281474976710656)
  (K:ba P r Q .mk (a5 F d (.slice (some ⟨H.length,0,none⟩) l c)) (H++[.own e false (made z (c*R))])):ba P (ms d t x y::r) Q ax F H:=
 kr (v:= .slice (some ⟨H.length,0,none⟩) l c) rfl rfl rfl (fun U aW=> .make aW hu ao af aQ eb dt J aP df eh ma ag bF) (fun U aW=>by simp[bZ,aW]) (.inl rfl) K
theorem DI{d t e R bI:Nat}{x y:Operand}{e6 dc:IntKind}{ax:bc (ms d t x y::r) Q}(hu:P.underlying t=some (.slice e))(ao:bu P e=some R)(af:bytes? P e=some bI)(J:ar F x= .int e6 0)(aP:ar F y= .int dc 0)
  (K:ba P r Q .mk (a5 F d (.slice (some ⟨0,0,none⟩) 0 0)) H):ba P (ms d t x y::r) Q ax F H:=
 kr (v:= .slice (some ⟨0,0,none⟩) 0 0) rfl rfl rfl (fun U aW=> .zZ aW hu ao af J aP) (fun U aW=>by simp[bZ,aW]) (.inl rfl) K
theorem u5{d t e R len:Nat}{aM:List (Nat×Operand)}{z:Value}{out:List Value}{ax:bc (eC d t len aM::r) Q}(hu:P.underlying t=some (.slice e))(ao:bu P e=some R)(aQ:dL P e=some z)(eb:flat z=true)(dt:z.cells.size=R)
  (df:0<R)(au:0<len)(bF:len*R<=16777216)(aW:jQ (fun i=>some (i*R,R)) (made z (len*R)) (aM.map fun p=>(p.1,ar F p.2))=some out)(dT:out.length=len*R)
  (K:ba P r Q .mk (a5 F d (.slice (some ⟨H.length,0,none⟩) len len)) (H++[.own e false out])):ba P (eC d t len aM::r) Q ax F H:=by
 have aC:Instr.fill (fun i=>some (i*R,R)) (made z (len*R)).toArray (aM.toArray.toList.map fun p=>(p.1,ar F p.2))=some out.toArray:=by
  rw[fill_eq]
  have:(aM.toArray.toList.map fun p=>(p.1,ar F p.2))=aM.map fun p=>(p.1,ar F p.2):=by simp
  rw[this]
  simp only
  rw[aW]
  rfl
 have aq:∀U:Oper,U.op= .buildSlice t len aM.toArray->fx P (ar F) H U (.slice (some ⟨H.length,0,none⟩) len len) (H++[.own e false out]):=fun U fN=> .build (out:=out.toArray) fN hu ao aQ eb dt df au bF aC (by simpa using dT)
 exact kr rfl rfl rfl aq (fun U aW=>by simp[bZ,aW]) (.inl rfl) K
theorem qv{d t e R:Nat}{ax:bc (eC d t 0 []::r) Q}(hu:P.underlying t=some (.slice e))(ao:bu P e=some R)(K:ba P r Q .mk (a5 F d (.slice (some ⟨0,0,none⟩) 0 0)) H):ba P (eC d t 0 []::r) Q ax F H:=
 kr (v:= .slice (some ⟨0,0,none⟩) 0 0) rfl rfl rfl (fun U aW=> .x4 aW hu ao) (fun U aW=>by simp[bZ,aW]) (.inl rfl) K
def iP(H:ad)(k e R:Nat)(v:Value)(n:Nat)(cs:List Value):Prop:=cs.length=n*R/\
 ((n=0/\(v= .slice none 0 0\/∃i,v= .slice (some ⟨0,i,none⟩) 0 0))\/∃b i cap l all,v= .slice (some ⟨b,i,none⟩) n cap/\0<cap/\n<=cap/\k<=b/\H[b]?=some (.own e l all)/\i+cap*R<=all.length/\cs=(all.drop i).take (n*R))
theorem iP.gj{H:ad}{k e R n:Nat}{v:Value}{cs:List Value}(h:iP H k e R v n cs):eA H e R v n cs:=by
 obtain⟨o,⟨rfl,aa⟩ | ⟨b,i,cap,l,all,rfl,aU,aO,bw,cj,eR,g0⟩⟩:=h
 ·have:cs=[]:=List.eq_nil_of_length_eq_zero (by simpa using o)
  subst this
  rcases aa with rfl | ⟨i,rfl⟩
  ·exact eA.nil H e R
  ·exact eA.void H e R _
 ·have:n*R<=cap*R:=Nat.mul_le_mul_right _ aO
  exact⟨_,_,rfl,aO,o,fun _=>⟨b,i,_,all,rfl,cj,rfl,rfl,by omega,g0⟩⟩
theorem iP.ext{H H1:ad}{k e R n:Nat}{v:Value}{cs:List Value}(h:iP H k e R v n cs)(J:Ext H H1):iP H1 k e R v n cs:=by
 obtain⟨o,aa | ⟨b,i,cap,l,all,q⟩⟩:=h
 ·exact⟨o,.inl aa⟩
 ·exact⟨o,.inr ⟨b,i,cap,l,all,q.1,q.2.1,q.2.2.1,q.2.2.2.1,J.get_some q.2.2.2.2.1,q.2.2.2.2.2⟩⟩
theorem iP.nil(H:ad)(k e R:Nat):iP H k e R (.slice none 0 0) 0 []:=⟨by simp,.inl ⟨rfl,.inl rfl⟩⟩
theorem iP.void(H:ad)(k e R i:Nat):iP H k e R (.slice (some ⟨0,i,none⟩) 0 0) 0 []:=⟨by simp,.inl ⟨rfl,.inr ⟨i,rfl⟩⟩⟩
def inBlock(v:Value)(b:Nat):Prop:=∃i n c,v= .slice (some ⟨b,i,none⟩) n c
theorem Iw{d b4 cV e R bI k n m:Nat}{s x:Operand}{z:Value}{cs news:List Value}{ax:bc (ap d b4 cV s x::r) Q}(cR:iP H k e R (ar F s) n cs)(dn:Src H R (ar F x) m m news)(hu:P.underlying b4=some (.slice e))(J:fY P cV=true)(ao:bu P e=some R)(af:bytes? P e=some bI)(aQ:dL P e=some z)(dt:z.cells.size=R)
  (eh:0<bI)(bF:(n+m)*bI<=140737488355328)(hJ:(news.all (·.oneCell'))=true)(pb:news.length=m*R)(ah:k<=H.length)
  (K:∀aw aI,iP aI k e R aw (n+m) (cs++news)->(∀cJ:ad,cJ.length<=k->Ext cJ H->Ext cJ aI)->(∀b X,H[b]?=some X->(inBlock (ar F s) b->X.elem?≠some e)->aI[b]?=some X)->(∀b,inBlock aw b->inBlock (ar F s) b\/b=H.length)->H.length<=aI.length->ba P r Q .mk (a5 F d aw) aI):ba P (ap d b4 cV s x::r) Q ax F H:=by
 obtain⟨au,cR⟩:=cR
 have a7:∀U:Oper,U.op= .call {callee:= .builtin .append,args:= #[s,x],argTypes:= #[b4,cV]}->bZ P U=false:=fun U aW=>by simp[bZ,aW]
 have aF:ca P (ar F) H (.call {callee:= .builtin .append,args:= #[s,x],argTypes:= #[b4,cV]})=none:=rfl
 by_cases hm:m=0
 ·subst hm
  have y_:news=[]:=List.eq_nil_of_length_eq_zero (by simpa using pb)
  subst y_
  obtain⟨a,jj,cap,an,uq⟩:∃a jj cap,ar F s= .slice a jj cap/\jj=n:=by
   rcases cR with⟨rfl,h | ⟨i,h⟩⟩ | ⟨b,i,cap,l,all,h,-⟩
   ·exact⟨_,_,_,h,rfl⟩
   ·exact⟨_,_,_,h,rfl⟩
   ·exact⟨_,_,_,h,rfl⟩
  refine kr (v:= .slice a jj cap) (H1:=H) rfl rfl aF (fun U aW=> .xW aW hu J ao dn an) a7 (.inl rfl) ?_
  exact K _ H (by rw[List.append_nil,Nat.add_zero,<-an];exact⟨au,cR⟩) (fun cJ _ h=>h) (fun b X h _=>h) (fun b h=> .inl (by rw[an];exact h)) (Nat.le_refl _)
 ·have uo:0<m:=by omega
  have new:∀eQ:List Value,eQ.length=(n+m)*R->eQ=cs++news->iP (H++[.own e true eQ]) k e R (.slice (some ⟨H.length,0,none⟩) (n+m) (n+m)) (n+m) (cs++news):=fun eQ o aa=>
   ⟨by rw[<-aa,o],.inr ⟨H.length,0,n+m,true,eQ,rfl,by omega,Nat.le_refl _,ah,by simp,by omega,by rw[List.drop_zero,<-aa,<-o,List.take_length]⟩⟩
  rcases cR with⟨rfl,h⟩ | ⟨b,i,cap,l,all,an,aU,aO,bw,cj,eR,g0⟩
  ·have gp:cs=[]:=List.eq_nil_of_length_eq_zero (by simpa using au)
   subst gp
   obtain⟨a,aL,an⟩:∃a:Option Addr,(a=none\/∃i,a=some ⟨0,i,none⟩)/\ar F s= .slice a 0 0:=by
    rcases h with h | ⟨i,h⟩
    ·exact⟨none,.inl rfl,h⟩
    ·exact⟨_,.inr ⟨i,rfl⟩,h⟩
   refine kr (v:= .slice (some ⟨H.length,0,none⟩) m m) (H1:=H++[.own e true news]) rfl rfl aF (fun U aW=> .x0 aW hu J ao af aQ dt dn uo eh (by simpa using bF) aL an) a7 (.inl rfl) ?_
   have:=new news (by simpa using pb) rfl
   simp only[Nat.zero_add]at this
   refine K _ _ (by simpa using this) (fun cJ _ h=>h.snoc _ _ _) (fun b X h _=>?_) (fun b af=>?_) (by simp)
   ·rw[List.getElem?_append_left (cn.1 h).1];exact h
   ·obtain⟨i,n,c,he⟩:=af
    simp at he
    exact .inr he.1.1.symm
  ·by_cases hi:n+m<=cap
   ·have sm:(n+m)*R<=cap*R:=Nat.mul_le_mul_right _ hi
    have ng:(n+m)*R=n*R+m*R:=Nat.add_mul _ _ _
    have o7:i+n*R+news.length<=all.length:=by omega
    refine kr (v:= .slice (some ⟨b,i,none⟩) (n+m) cap) (H1:=H.set b (.own e l (dr all (i+n*R) news))) rfl rfl aF (fun U aW=> .xY aW hu J ao dn hi aU cj o7 hJ an) a7 (.inl rfl) ?_
    have hg:b<H.length:=(cn.1 cj).1
    refine K _ _ ⟨by rw[List.length_append,au,pb,ng],.inr ⟨b,i,cap,l,dr all (i+n*R) news,rfl,aU,hi,bw,by simp[hg],by rw[om o7];exact eR,?_⟩⟩ (fun cJ aG h=>h.set (by omega) (by simp)) (fun cg X h cZ=>?_) (fun cg cZ=>?_) (by simp)
    ·rw[g0]
     have bn:dr all (i+n*R) news=all.take (i+n*R)++news++all.drop (i+n*R+news.length):=rfl
     rw[bn,List.append_assoc,List.drop_append_of_le_length (by simp;omega),List.take_append,List.drop_take]
     have aE:i+n*R-i=n*R:=by omega
     have bA:((all.drop i).take (n*R)).length=n*R:=by simp;omega
     rw[aE,bA,ng,List.take_take,Nat.min_eq_right (by omega),Nat.add_sub_cancel_left,<-pb,List.take_append_of_le_length (Nat.le_refl _),List.take_length]
    ·have:b≠cg:=fun c0=>by
      subst c0
      rw[cj]at h
      exact cZ ⟨i,n,cap,an⟩ (by rw[<-Option.some.inj h];rfl)
     rw[List.getElem?_set_ne this];exact h
    ·obtain⟨fC,ed,dA,he⟩:=cZ
     simp at he
     exact .inl (by rw[<-he.1.1];exact⟨i,n,cap,an⟩)
   ·have hL:i+n*R<=all.length:=by
     have:n*R<=cap*R:=Nat.mul_le_mul_right _ aO
     omega
    have hg:b<H.length:=(cn.1 cj).1
    have ng:(n+m)*R=n*R+m*R:=Nat.add_mul _ _ _
    have gV:((all.drop i).take (n*R)++news).length=(n+m)*R:=by rw[List.length_append,<-g0,au,pb,ng]
    have fresh:∀aw:Value,aw= .slice (some ⟨H.length,0,none⟩) (n+m) (n+m)->∀cg,inBlock aw cg->inBlock (ar F s) cg\/cg=H.length:=fun aw e cg cZ=>by
     obtain⟨fC,ed,dA,he⟩:=cZ
     rw[e]at he
     simp at he
     exact .inr he.1.1.symm
    cases l with
    | false=>
     refine kr (v:= .slice (some ⟨H.length,0,none⟩) (n+m) (n+m)) (H1:=H++[.own e true ((all.drop i).take (n*R)++news)]) rfl rfl aF (fun U aW=> .xX aW hu J ao af aQ dt dn uo eh bF cj hL (by omega) aU an) a7 (.inl rfl) ?_
     refine K _ _ (new _ gV (by rw[g0])) (fun cJ _ h=>h.snoc _ _ _) (fun b X h _=>?_) (fresh _ rfl) (by simp)
     rw[List.getElem?_append_left (cn.1 h).1];exact h
    | true=>
     refine kr (v:= .slice (some ⟨H.length,0,none⟩) (n+m) (n+m)) (H1:=H.set b .dead++[.own e true ((all.drop i).take (n*R)++news)]) rfl rfl aF (fun U aW=> .xZ aW hu J ao af aQ dt dn uo eh bF cj hL (by omega) aU hJ an) a7 (.inl rfl) ?_
     have sC:iP (H.set b .dead++[.own e true ((all.drop i).take (n*R)++news)]) k e R (.slice (some ⟨H.length,0,none⟩) (n+m) (n+m)) (n+m) (cs++news):=
      ⟨by rw[List.length_append,au,pb,ng],.inr ⟨H.length,0,n+m,true,(all.drop i).take (n*R)++news,rfl,by omega,Nat.le_refl _,ah,by rw[List.getElem?_append_right (by simp)];simp,by rw[gV];omega,by rw[List.drop_zero,<-gV,List.take_length,g0]⟩⟩
     refine K _ _ sC (fun cJ aG h=>(h.set (by omega) (by simp)).snoc _ _ _) (fun cg X h cZ=>?_) (fresh _ rfl) (by simp)
     have c2:b≠cg:=fun c0=>by
      subst c0
      rw[cj]at h
      exact cZ ⟨i,n,cap,an⟩ (by rw[<-Option.some.inj h];rfl)
     rw[List.getElem?_append_left (by simp;exact(cn.1 h).1),List.getElem?_set_ne c2];exact h
theorem xz{ff:Bool}{d t l h:Nat}{x:Operand}{bg ab:Option Operand}{s:ByteArray}{ax:bc ((⟨ff,none,some d,.slice t x bg ab none⟩:bJ)::r) Q}(J:ar F x= .string s)(bG:jl P t=true)(au:ea (ar F) bg=some l)(db:fo (ar F) s.size ab=some h)(o:l<=h)(aa:h<=s.size)
  (K:ba P r Q .mk (a5 F d (.string (s.extract l h))) H):ba P ((⟨ff,none,some d,.slice t x bg ab none⟩:bJ)::r) Q ax F H:=by
 have ao:ca P (ar F) H (.slice t x bg ab none)=some (.string (s.extract l h),H):=by
  simp only[ca,J,au,db]
  rw[if_pos ⟨bG,o,aa⟩]
 show bm P _ F H Q
 simp only[bm,gL,ao]
 exact⟨fun h=>by simp[iw]at h,K⟩
theorem Iz{d t l h:Nat}{x:Operand}{bg ab:Option Operand}{s:ByteArray}{ax:bc (gj d t x bg ab none::r) Q}(J:ar F x= .string s)(bG:jl P t=true)(au:ea (ar F) bg=some l)(db:fo (ar F) s.size ab=some h)(o:l<=h)(aa:h<=s.size)
  (K:ba P r Q .mk (a5 F d (.string (s.extract l h))) H):ba P (gj d t x bg ab none::r) Q ax F H:=xz (ff:=true) J bG au db o aa K
theorem ad6{d s t e:Nat}{x:Operand}{xs:List Int}{ax:bc (cm d s t x::r) Q}(ao:P.underlying s=some (.slice e))(he:P.underlying e=some (.int .u8))(aA:P.underlying t=some .string)(bP:eA H e 1 (ar F x) xs.length (xs.map (Value.int .u8)))
  (K:ba P r Q .mk (a5 F d (.string (strOfNums xs))) H):ba P (cm d s t x::r) Q ax F H:=by
 obtain⟨a,cap,an⟩:=bP.len
 have dn:=bP.src (Nat.le_refl _)
 rw[Nat.mul_one,List.take_of_length_le (by simp)]at dn
 have aF:ca P (ar F) H (.convert s t x)=none:=by simp only[ca,an]
 exact kr (v:= .string (strOfNums xs)) (H1:=H) rfl rfl aF (fun U aW=> .str aW ao he aA ⟨_,_,_,an⟩ dn) (fun U aW=>by simp[bZ,aW,sR,ao]) (.inr (Ext.refl H)) K
end
section
variable {P:Program}
theorem gL.mono{b:Bool}{F:Fr}{H:ad}{K er:Value->ad->Prop}(ah:∀v H1,K v H1->er v H1){op:Op}(h:gL P b F H K op):gL P b F H er op:=by
 have main:(match ca P (ar F) H op with
   | some (v,H1)=>(iw op=true->b=true)/\K v H1
   | none=>j3 op=true/\∃v H1,oD P (ar F) H op v H1/\(b=true\/Ext H H1)/\K v H1)->(match ca P (ar F) H op with
   | some (v,H1)=>(iw op=true->b=true)/\er v H1
   | none=>j3 op=true/\∃v H1,oD P (ar F) H op v H1/\(b=true\/Ext H H1)/\er v H1):=by
  cases ca P (ar F) H op with
  | some p=>exact fun h=>⟨h.1,ah _ _ h.2⟩
  | none=>exact fun⟨o,v,H1,aa,aE,bA⟩=>⟨o,v,H1,aa,aE,ah _ _ bA⟩
 cases op<;>try exact main h
 rename_i c
 obtain⟨callee,args,lX⟩:=c
 cases callee with
 | value f=>
  simp only[gL]at h⊢
  split at h
  ·exact h.mono fun v H1 db=>⟨db.1,ah _ _ db.2⟩
  ·exact h.elim
 | invoke r m=>exact main h
 | builtin b=>exact main h
theorem bm.mono:∀{l:List bJ} {F:Fr} {H:ad} {Q cu:Fr->ad->Prop},(∀F H,Q F H->cu F H)->bm P l F H Q->bm P l F H cu
 | [],F,H,Q,cu,aq,h=>aq _ _ h
 | x::rest,F,H,Q,cu,aq,h=>by
  simp only[bm]at h⊢
  split
  ·rename_i a1
   rw[a1]at h
   exact gL.mono (fun v H1=>bm.mono aq) h
  ·rename_i j w a1
   rw[a1]at h
   simp only at h
   split
   ·rename_i af
    rw[if_pos af]at h
    exact gL.mono (fun v H1=>bm.mono aq) h
   ·rename_i af
    rw[if_neg af]at h
    exact bm.mono aq h
theorem fS.mono:∀{l:List bJ} {F:Fr} {H:ad} {ae W:List Nat} {Q cu:Fr->ad->Prop},(∀F H,Q F H->cu F H)->fS P l F H ae W Q->fS P l F H ae W cu
 | [],F,H,ae,W,Q,cu,aq,h=>aq _ _ h
 | x::rest,F,H,ae,W,Q,cu,aq,h=>by
  simp only[fS]at h⊢
  split
  ·rename_i a1
   rw[a1]at h
   exact hc.mono (fun v H1 gd gf=>fS.mono aq) h
  ·rename_i j w a1
   rw[a1]at h
   simp only at h
   split
   ·rename_i af
    rw[if_pos af]at h
    exact hc.mono (fun v H1 gd gf=>fS.mono aq) h
   ·rename_i af
    rw[if_neg af]at h
    exact fS.mono aq h
theorem eP.mono:∀{x:g3} {F:Fr} {H:ad} {Q cu:dS->Fr->ad->Prop},(∀e F H,Q e F H->cu e F H)->eP P x F H Q->eP P x F H cu
 | .skip,F,H,Q,cu,aq,h=>aq _ _ _ h
 | .ret,F,H,Q,cu,aq,h=>aq _ _ _ h
 | .exit id,F,H,Q,cu,aq,h=>aq _ _ _ h
 | .seq x y,F,H,Q,cu,aq,h=>eP.mono (x:=x) (fun e az H1 o=>by
   cases e with
   | normal=>exact eP.mono (x:=y) aq o
   | exit id=>exact aq _ _ _ o
   | ret=>exact aq _ _ _ o) h
 | .cond c x y,F,H,Q,cu,aq,h=>by
  simp only[eP]at h⊢
  split
  ·rename_i b af
   rw[af]at h
   simp only at h
   cases b with
   | true=>exact eP.mono (x:=x) aq h
   | false=>exact eP.mono (x:=y) aq h
  ·rename_i af
   split at h
   ·rename_i b cZ;exact(af b cZ).elim
   ·exact h
 | .block id x,F,H,Q,cu,aq,h=>eP.mono (x:=x) (fun e az H1 o=>by
   cases e with
   | normal=>exact aq _ _ _ o
   | ret=>exact aq _ _ _ o
   | exit iv=>
    simp only[qJ]at o⊢
    split
    ·rename_i ab;rw[if_pos ab]at o;exact aq _ _ _ o
    ·rename_i ab;rw[if_neg ab]at o;exact aq _ _ _ o) h
 | .loop x,F,H,Q,cu,aq,h=>by
  simp only[eP]at h⊢
  induction h with
  | round ai af ew a2=>
   exact .round ai (eP.mono (x:=x) (fun e az H1 o=>by
    cases e with
    | normal=>exact o
    | exit id=>exact aq _ _ _ o
    | ret=>exact aq _ _ _ o) af) a2
 | .ops l,F,H,Q,cu,aq,h=>bm.mono (fun az H1 o=>aq _ _ _ o) h
 | .opsL l,F,H,Q,cu,aq,h=>fS.mono (fun az H1 o=>aq _ _ _ o) h
def I8(ae:Fr->ad->Prop):dS->Fr->ad->Prop
 | .normal,F,H=>ae F H
 | _,_,_=>False
@[simp] theorem aif(ae:Fr->ad->Prop)(F:Fr)(H:ad):I8 ae .normal F H=ae F H:=rfl
theorem hv.cut{x:g3}{Q:dS->Fr->ad->Prop}{K:Fr->ad->Prop}{F:Fr}{H:ad}{ax:bc x (oj K Q)}(ae:Fr->ad->Prop)(o:∀er:Fr->ad->Prop,(∀az H1,ae az H1->er az H1)->hv P x (I8 er) .mk F H)(aa:∀az H1,ae az H1->K az H1):hv P x (oj K Q) ax F H:=
 eP.mono (x:=x) (fun e az H1 h=>by cases e with
  | normal=>exact aa _ _ h
  | exit id=>exact h.elim
  | ret=>exact h.elim) (o ae fun _ _ h=>h)
end
def de(H:ad)(e:Nat)(v:Value)(l:List Nat):Prop:=eA H e 1 v l.length (l.map fun(n:Nat)=>Value.int .u32 (n:Int))/\∀x∈l,x<4294967296
theorem de.ext{H H1:ad}{e:Nat}{v:Value}{l:List Nat}(h:de H e v l)(J:Ext H H1):de H1 e v l:=⟨h.1.ext J,h.2⟩
theorem de.at{H:ad}{e:Nat}{v:Value}{l:List Nat}(h:de H e v l)(aF:0<l.length):∃b i cap X all,v= .slice (some ⟨b,i,none⟩) l.length cap/\H[b]?=some X/\X.cells?=some all/\i+l.length<=all.length/\∀k,k<l.length->all[i+k]?=some (.int .u32 (l[k]?.getD 0:Nat)):=by
 obtain⟨b,i,cap,X,all,o,aa,aE,bA,bQ⟩:=h.1.at aF
 refine⟨b,i,cap,X,all,o,aa,aE,by omega,fun k ah=>?_⟩
 rw[bQ k (by omega),List.getElem?_map,bs ah]
 simp[bs ah]
theorem de.len{H:ad}{e:Nat}{v:Value}{l:List Nat}(h:de H e v l):∃a cap,v= .slice a l.length cap:=h.1.len
theorem de.lt{H:ad}{e:Nat}{v:Value}{l:List Nat}(h:de H e v l)(k:Nat):l[k]?.getD 0<4294967296:=by
 by_cases ah:k<l.length
 ·rw[bs ah];exact h.2 _ (List.getElem_mem ah)
 ·rw[List.getElem?_eq_none (by omega)];decide
theorem Q6(l:List Nat)(h:0<l.length):l.take (l.length-1)++[l[l.length-1]?.getD 0]=l:=by
 rw[bs (by omega),Option.getD_some,<-List.dropLast_eq_take,<-List.getLast_eq_getElem (by intro e;simp[e]at h),List.dropLast_concat_getLast]
def val:List Nat->Nat
 | []=>0
 | x::l=>x+4294967296*val l
theorem ou(a b:List Nat):val (a++b)=val a+4294967296^a.length*val b:=by
 induction a with
 | nil=>simp[val]
 | cons x a a2=>simp only[List.cons_append,val,a2,List.length_cons,Nat.pow_succ];grind
theorem IL(k:Nat):val (List.replicate k 0)=0:=by
 induction k with
 | zero=>rfl
 | succ k a2=>simp[List.replicate_succ,val,a2]
theorem kQ{l:List Nat}(h:∀x∈l,x<4294967296):val l<4294967296^l.length:=by
 induction l with
 | nil=>simp[val]
 | cons x l a2=>
  have o:=h x (by simp)
  have aa:=a2 fun y aP=>h y (by simp[aP])
  simp only[val,List.length_cons,Nat.pow_succ]
  omega
def Trim(l:List Nat):Prop:=l.getLast?≠some 0
theorem Trim.nil:Trim []:=by simp[Trim]
theorem Trim.le{l:List Nat}(h:Trim l)(aF:l≠[]):4294967296^(l.length-1)<=val l:=by
 have e:l=l.take (l.length-1)++[l[l.length-1]?.getD 0]:=(Q6 l (List.length_pos_iff.2 aF)).symm
 have aG:l[l.length-1]?.getD 0≠0:=fun aG=>h (by
  rw[List.getLast?_eq_getElem?]
  rw[bs (by have:=List.length_pos_iff.2 aF;omega)]at aG⊢
  simpa using aG)
 have au:(l.take (l.length-1)).length=l.length-1:=by simp
 have:val l=val (l.take (l.length-1))+4294967296^(l.length-1)*(l[l.length-1]?.getD 0):=by
  conv=>lhs;rw[e,ou,au]
  simp[val]
 rw[this]
 have:4294967296^(l.length-1)*1<=4294967296^(l.length-1)*(l[l.length-1]?.getD 0):=Nat.mul_le_mul_left _ (by omega)
 omega
theorem Trim.zero{l:List Nat}(h:Trim l):val l=0↔l=[]:=by
 constructor
 ·intro aG
  by_cases aF:l=[]
  ·exact aF
  ·have:=h.le aF
   have:=Nat.pow_pos (n:=l.length-1) (show 0<4294967296 by decide)
   omega
 ·rintro rfl;rfl
theorem Trim.w6{a b:List Nat}(af:Trim b)(aL:∀x∈a,x<4294967296)(h:a.length<b.length):val a<val b:=by
 have o:=kQ aL
 have aa:=af.le (by intro e;simp[e]at h)
 have:4294967296^a.length<=4294967296^(b.length-1):=Nat.pow_le_pow_right (by decide) (by omega)
 omega
theorem Trim.length_le{l:List Nat}(h:Trim l){n:Nat}(an:val l<4294967296^n):l.length<=n:=by
 by_cases aF:l=[]
 ·simp[aF]
 ·have o:=h.le aF
  have:4294967296^(l.length-1)<4294967296^n:=by omega
  have:=(Nat.pow_lt_pow_iff_right (show 1<4294967296 by decide)).1 this
  omega
section
variable {P:Program} {r:List bJ} {F:Fr} {H:ad} {Q:Fr->ad->Prop}
theorem Ds:∀(aH cs pre:List Value),cs.length=aH.length->pD (pre++cs) pre.length aH=pre++aH
 | [],cs,pre,h=>by
  have:cs=[]:=List.eq_nil_of_length_eq_zero (by simpa using h)
  simp[pD,this]
 | v::aH,[],pre,h=>by simp at h
 | v::aH,c::cs,pre,h=>by
  simp only[pD]
  have o:(pre++c::cs).set pre.length v=(pre++[v])++cs:=by
   rw[List.set_append_right _ _ (Nat.le_refl _),Nat.sub_self]
   simp
  have aa:pre.length+1=(pre++[v]).length:=by simp
  rw[o,aa,Ds aH cs (pre++[v]) (by simpa using h)]
  simp
theorem w7(z:Value)(n:Nat):(made z n).length=n:=by simp[made]
theorem ad4{ff:Bool}{d1 d2 t b4 cV e R bI k n:Nat}{s x:Operand}{z:Value}{cs:List Value}{ax:bc ((⟨ff,none,some d1,.buildSlice t 1 #[(0,x)]⟩:bJ)::ap d2 b4 cV s (T d1)::r) Q}(cR:iP H k e R (ar F s) n cs)(fO:∀v,ar (a5 F d1 v) s=ar F s)
  (bG:P.underlying t=some (.slice e))(hu:P.underlying b4=some (.slice e))(J:fY P cV=true)(ao:bu P e=some R)(af:bytes? P e=some bI)(aQ:dL P e=some z)(eb:flat z=true)(dt:z.cells.size=R)(df:0<R)(sI:R<=1000)
  (eh:0<bI)(bF:(n+1)*bI<=140737488355328)(an:(ar F x).cells.toList.length=R)(hJ:((ar F x).cells.toList.all (·.oneCell'))=true)(ah:k<=H.length)
  (K:∀u aw aI,iP aI k e R aw (n+1) (cs++(ar F x).cells.toList)->(∀cJ:ad,cJ.length<=k->Ext cJ H->Ext cJ aI)->(∀b X,H[b]?=some X->(inBlock (ar F s) b->X.elem?≠some e)->aI[b]?=some X)->ba P r Q .mk (a5 (a5 F d1 u) d2 aw) aI):
  ba P ((⟨ff,none,some d1,.buildSlice t 1 #[(0,x)]⟩:bJ)::ap d2 b4 cV s (T d1)::r) Q ax F H:=by
 have eM:(made z (1*R)).length=R:=by rw[w7,Nat.one_mul]
 have aW:jQ (fun i=>some (i*R,R)) (made z (1*R)) [(0,ar F x)]=some (ar F x).cells.toList:=by
  simp only[jQ]
  rw[if_pos ⟨an,by rw[eM];omega⟩]
  have:=Ds (ar F x).cells.toList (made z (1*R)) [] (by rw[eM,an])
  simpa using this
 have aC:Instr.fill (fun i=>some (i*R,R)) (made z (1*R)).toArray ((#[(0,x)]:Array (Nat×Operand)).toList.map fun p=>(p.1,ar F p.2))=some (ar F x).cells:=by
  rw[fill_eq]
  simp only[List.map_cons,List.map_nil]
  rw[aW]
  simp
 have aq:∀U:Oper,U.op= .buildSlice t 1 #[(0,x)]->fx P (ar F) H U (.slice (some ⟨H.length,0,none⟩) 1 1) (H++[.own e false (ar F x).cells.toList]):=fun U fN=> .build (out:=(ar F x).cells) fN bG ao aQ eb dt df (by omega) (by omega) aC (by have:=an;simp at this;omega)
 refine kr rfl rfl rfl aq (fun U aW=>by simp[bZ,aW]) (.inr ((Ext.refl H).snoc _ _ _)) ?_
 show ba P (ap d2 b4 cV s (T d1)::r) Q .mk (a5 F d1 _) _
 have dn:Src (H++[.own e false (ar F x).cells.toList]) R (.slice (some ⟨H.length,0,none⟩) 1 1) 1 1 (ar F x).cells.toList:=by
  have:=Src.row (H:=H++[.own e false (ar F x).cells.toList]) (R:=R) (b:=H.length) (i:=0) (n:=1) (m:=1) (c:=1) (x:= .own e false (ar F x).cells.toList) (cs:=(ar F x).cells.toList) (by simp) rfl (by omega) (Nat.le_refl _) (by omega)
  rw[List.drop_zero,Nat.one_mul,<-an,List.take_length]at this
  rw[an]at this
  exact this
 have nd:iP (H++[.own e false (ar F x).cells.toList]) k e R (ar (a5 F d1 (.slice (some ⟨H.length,0,none⟩) 1 1)) s) n cs:=by
  rw[fO]
  exact cR.ext ((Ext.refl H).snoc _ _ _)
 refine Iw nd (by simpa[ar,T,a5]using dn) hu J ao af aQ dt eh bF hJ (by omega) (by simp;omega) fun aw aI o aa aE _ _=>?_
 refine K _ aw aI o (fun cJ aG bz=>aa cJ aG (bz.snoc _ _ _)) (fun b X aZ af=>aE b X ?_ (by rw[fO];exact af))
 rw[List.getElem?_append_left (cn.1 aZ).1]
 exact aZ
end
def cL(a_:Nat->Option bN)(H:ad):ad:=H.mapIdx fun b x=>(a_ b).getD x
def Fit(a_:Nat->Option bN)(H:ad):Prop:=∀b x,a_ b=some x->H[b]?=some .dead/\∃e l cs,x= .own e l cs
section
variable {a_:Nat->Option bN} {H:ad}
theorem kO(a_:Nat->Option bN)(H:ad):(cL a_ H).length=H.length:=by simp[cL]
theorem lH(a_:Nat->Option bN)(H:ad)(b:Nat):(cL a_ H)[b]?=(H[b]?).map fun x=>(a_ b).getD x:=by simp[cL]
theorem Fit.z5{X:bN}{b:Nat}(h:Fit a_ H)(aZ:H[b]?=some X)(aA:X≠ .dead):a_ b=none:=by
 cases aK:a_ b with
 | none=>rfl
 | some x=>have:=(h b x aK).1;rw[aZ]at this;exact absurd (Option.some.inj this) aA
theorem Fit.abZ{X:bN}{cs:List Value}{b:Nat}(h:Fit a_ H)(aZ:H[b]?=some X)(ag:X.cells?=some cs):a_ b=none:=h.z5 aZ (by rintro rfl;simp[bN.cells?]at ag)
theorem Fit.ab0{X:bN}{e:TypeId}{b:Nat}(h:Fit a_ H)(aZ:H[b]?=some X)(ag:X.elem?=some e):a_ b=none:=h.z5 aZ (by rintro rfl;simp[bN.elem?]at ag)
theorem Fit.w_{e:TypeId}{l:Bool}{cs:List Value}{b:Nat}(h:Fit a_ H)(aZ:H[b]?=some (.own e l cs)):a_ b=none:=h.z5 aZ (by simp)
theorem Db{b:Nat}(aK:a_ b=none):(cL a_ H)[b]?=H[b]?:=by rw[lH,aK];cases H[b]?<;>rfl
theorem Fit.get{X:bN}{b:Nat}(h:Fit a_ H)(aZ:H[b]?=some X)(aA:X≠ .dead):(cL a_ H)[b]?=some X:=by rw[Db (h.z5 aZ aA)];exact aZ
theorem Fit.vO{X:bN}{cs:List Value}{b:Nat}(h:Fit a_ H)(aZ:H[b]?=some X)(ag:X.cells?=some cs):(cL a_ H)[b]?=some X:=by rw[Db (h.abZ aZ ag)];exact aZ
theorem Fit.lt{b:Nat}{x:bN}(h:Fit a_ H)(aK:a_ b=some x):b<H.length:=(cn.1 (h b x aK).1).1
theorem Fit.app(h:Fit a_ H)(N:ad):Fit a_ (H++N)/\cL a_ (H++N)=cL a_ H++N:=by
 refine⟨fun b x aK=>?_,?_⟩
 ·rw[List.getElem?_append_left (h.lt aK)];exact h b x aK
 ·apply List.ext_getElem?
  intro b
  rw[lH]
  by_cases af:b<H.length
  ·rw[List.getElem?_append_left af,List.getElem?_append_left (by rw[kO];exact af),lH]
  ·have aK:a_ b=none:=by
    cases aK:a_ b with
    | none=>rfl
    | some x=>exact absurd (h.lt aK) af
   rw[List.getElem?_append_right (by omega),List.getElem?_append_right (by rw[kO];omega),kO,aK]
   cases N[b-H.length]?<;>rfl
theorem Fit.set{b:Nat}(h:Fit a_ H)(aK:a_ b=none)(x:bN):Fit a_ (H.set b x)/\cL a_ (H.set b x)=(cL a_ H).set b x:=by
 refine⟨fun c y ag=>?_,?_⟩
 ·have:b≠c:=fun e=>by rw[e,ag]at aK;cases aK
  rw[List.getElem?_set_ne this];exact h c y ag
 ·apply List.ext_getElem?
  intro c
  rw[lH]
  by_cases FM:b=c
  ·subst FM
   rw[aK]
   by_cases au:b<H.length
   ·rw[List.getElem?_set_self au,List.getElem?_set_self (by rw[kO];exact au)];rfl
   ·rw[List.getElem?_eq_none (by simp;omega),List.getElem?_eq_none (by simp[kO];omega)];rfl
  ·rw[List.getElem?_set_ne FM,List.getElem?_set_ne FM,lH]
theorem s_{R m n:Nat}{v:Value}{news:List Value}(aC:Fit a_ H)(h:Src H R v m n news):Src (cL a_ H) R v m n news:=by
 cases h with
 | xJ=>exact .xJ
 | row J ag aF hm bF=>exact .row (aC.vO J ag) ag aF hm bF
 | str o=>exact .str o
theorem EM{H1:ad}(aC:Fit a_ H)(h:Ext H H1):Ext (cL a_ H) (cL a_ H1):=by
 obtain⟨N,rfl,aF⟩:=h
 exact⟨N,(aC.app N).2,aF⟩
theorem PQ{P:Program}{aS:Operand->Value}{U:Oper}{v:Value}{H1:ad}(aC:Fit a_ H)(h:fx P aS H U v H1):fx P aS (cL a_ H) U v (cL a_ H1)/\Fit a_ H1:=by
 have ap:∀X:bN,Fit a_ (H++[X])/\cL a_ (H++[X])=cL a_ H++[X]:=fun X=>aC.app [X]
 have au:=kO a_ H
 cases h with
 | uU ao wF an h=>exact⟨.uU ao wF an h,aC⟩
 | alloc h aQ eb ao=>refine⟨?_,(ap _).1⟩;rw[(ap _).2,<-au];exact .alloc h aQ eb ao
 | box h ao=>refine⟨?_,(ap _).1⟩;rw[(ap _).2,<-au];exact .box h ao
 | zT h aL J aZ ag an=>exact⟨.zT h aL J (aC.vO aZ ag) ag an,aC⟩
 | zU h aL ao J aZ ag bF=>exact⟨.zU h aL ao J (aC.vO aZ ag) ag bF,aC⟩
 | store h ao J aZ bF o=>obtain⟨aU,aO⟩:=aC.set (aC.w_ aZ) (.own _ _ _);refine⟨?_,aU⟩;rw[aO];exact .store h ao J (aC.get aZ (by simp)) bF o
 | slice h hu ao J aZ he au eX o aa a3=>exact⟨.slice h hu ao J (by rw[Db (aC.ab0 aZ he)];exact aZ) he au eX o aa a3,aC⟩
 | Al h hu ao J sm au eX=>exact⟨.Al h hu ao J sm au eX,aC⟩
 | Am h hu ao J au eX=>exact⟨.Am h hu ao J au eX,aC⟩
 | Dy h hu ao J au eX hm aE=>exact⟨.Dy h hu ao J au eX hm aE,aC⟩
 | Dx h hu ao J au eX hm=>exact⟨.Dx h hu ao J au eX hm,aC⟩
 | make h hu ao af aQ eb dt J aP df eh ma ag bF=>refine⟨?_,(ap _).1⟩;rw[(ap _).2,<-au];exact .make h hu ao af aQ eb dt J aP df eh ma ag bF
 | zZ h hu ao af J aP=>exact⟨.zZ h hu ao af J aP,aC⟩
 | build h hu ao aQ eb dt df dR bF WA ur=>refine⟨?_,(ap _).1⟩;rw[(ap _).2,<-au];exact .build h hu ao aQ eb dt df dR bF WA ur
 | x4 h hu ao=>exact⟨.x4 h hu ao,aC⟩
 | xW h hu J ao dn an=>exact⟨.xW h hu J ao (s_ aC dn) an,aC⟩
 | x0 h hu J ao af aQ dt dn aF eh bF aL an=>refine⟨?_,(ap _).1⟩;rw[(ap _).2,<-au];exact .x0 h hu J ao af aQ dt (s_ aC dn) aF eh bF aL an
 | xY h hu J ao dn hi ag aZ bF hJ an=>obtain⟨aU,aO⟩:=aC.set (aC.w_ aZ) (.own _ _ _);refine⟨?_,aU⟩;rw[aO];exact .xY h hu J ao (s_ aC dn) hi ag (aC.get aZ (by simp)) bF hJ an
 | xX h hu J ao af aQ dt dn aF eh bF aZ hL hi ag an=>refine⟨?_,(ap _).1⟩;rw[(ap _).2,<-au];exact .xX h hu J ao af aQ dt (s_ aC dn) aF eh bF (aC.get aZ (by simp)) hL hi ag an
 | xZ h hu J ao af aQ dt dn aF eh bF aZ hL hi ag hJ an=>
  obtain⟨aU,aO⟩:=aC.set (aC.w_ aZ) .dead
  obtain⟨bw,cj⟩:=aU.app [.own _ true _]
  refine⟨?_,bw⟩
  rw[cj,aO,<-au]
  exact .xZ h hu J ao af aQ dt (s_ aC dn) aF eh bF (aC.get aZ (by simp)) hL hi ag hJ an
 | copy h hu ao dn aF jz aZ bF hJ an=>obtain⟨aU,aO⟩:=aC.set (aC.w_ aZ) (.own _ _ _);refine⟨?_,aU⟩;rw[aO];exact .copy h hu ao (s_ aC dn) aF jz (aC.get aZ (by simp)) bF hJ an
 | x9 h hu ao dn aF an=>exact⟨.x9 h hu ao (s_ aC dn) aF an,aC⟩
 | str h ao he aA mc dn=>exact⟨.str h ao he aA mc (s_ aC dn),aC⟩
theorem ac2{P:Program}{t:List Value}{rs:List ResultVar}{aH:List Value}(aC:Fit a_ H)(h:m6 P t H rs aH):m6 P t (cL a_ H) rs aH:=by
 induction h with
 | nil=>exact .nil
 | tmp ao a2=>exact .tmp a2
 | A7 aL J aZ ag an ao a2=>exact .A7 aL J (aC.vO aZ ag) ag an a2
 | A8 aL aF J aZ ag bF ao a2=>exact .A8 aL aF J (aC.vO aZ ag) ag bF a2
def qD.heap:qD->ad
 | .code _ _ H=>H
 | .op _ _ _ H=>H
 | .call _ _ H=>H
def Out.heap:Out->ad
 | .code _ _ H=>H
 | .val _ H=>H
def aa6(a_:Nat->Option bN):qD->qD
 | .code c t H=> .code c t (cL a_ H)
 | .op ops U t H=> .op ops U t (cL a_ H)
 | .call f args H=> .call f args (cL a_ H)
def ab5(a_:Nat->Option bN):Out->Out
 | .code e t H=> .code e t (cL a_ H)
 | .val v H=> .val v (cL a_ H)
theorem abc{P:Program}{ops:Array Oper}{U:Oper}{t:List Value}{H1:ad}{v:Value}{g:Option (Nat×Option bN)}(aC:Fit a_ H)(h:pM P ops U t H v H1 g):pM P ops U t (cL a_ H) v (cL a_ H1) g/\Fit a_ H1:=by
 cases g with
 | none=>obtain⟨o,rfl⟩:=h;exact⟨⟨o,rfl⟩,aC⟩
 | some bI=>
  obtain⟨b,y⟩:=bI
  obtain⟨o,aa,aE,bA,bQ,dY⟩:=h
  have aK:a_ b=none:=aC.z5 (bs aE) (by rw[bs aE]at bA;exact fun e=>bA (by rw[e]))
  have he:=Db (H:=H) aK
  cases y with
  | none=>
   simp only[nx]at bQ
   subst bQ
   exact⟨⟨o,aa,by rw[kO];exact aE,by rw[he];exact bA,rfl,fun aI tQ=>dY aI (by rw[tQ,he])⟩,aC⟩
  | some x=>
   simp only[nx]at bQ
   subst bQ
   obtain⟨aU,aO⟩:=aC.set aK x
   exact⟨⟨o,aa,by rw[kO];exact aE,by rw[he];exact bA,aO,fun aI tQ=>dY aI (by rw[tQ,he])⟩,aU⟩
theorem acZ{P:Program}{j:qD}{U:Out}(h:ef P j U):Fit a_ j.heap->ef P (aa6 a_ j) (ab5 a_ U)/\Fit a_ U.heap:=by
 induction h with
 | skip=>exact fun aC=>⟨.skip,aC⟩
 | ret=>exact fun aC=>⟨.ret,aC⟩
 | exit=>exact fun aC=>⟨.exit,aC⟩
 | Dr o aa mf rm=>exact fun aC=>let⟨ec,f1⟩:=mf aC;let⟨fs,f2⟩:=rm f1;⟨.Dr ec fs,f2⟩
 | Ag o he mf=>exact fun aC=>let⟨ec,f1⟩:=mf aC;⟨.Ag ec he,f1⟩
 | cond ag ah h a2=>exact fun aC=>let⟨ec,f1⟩:=a2 aC;⟨.cond ag ah ec,f1⟩
 | block h a2=>exact fun aC=>let⟨ec,f1⟩:=a2 aC;⟨.block ec,f1⟩
 | C0 o aa mf rm=>exact fun aC=>let⟨ec,f1⟩:=mf aC;let⟨fs,f2⟩:=rm f1;⟨.C0 ec fs,f2⟩
 | zV o he mf=>exact fun aC=>let⟨ec,f1⟩:=mf aC;⟨.zV ec he,f1⟩
 | region T V a6 ah h bd aA a2=>
  rename_i id ops draw
  intro aC
  have o8:∀i,i<=ops.size->Fit a_ (a6 i):=by
   intro i
   induction i with
   | zero=>exact fun _=>aC
   | succ i Hk=>exact fun ab=>(a2 i _ (Array.getElem?_eq_getElem (show i<ops.size by omega)) (Hk (by omega))).2
  have lt:∀{i:Nat} {U:Oper},ops[i]?=some U->i<=ops.size:=fun aW=>Nat.le_of_lt (Array.getElem?_eq_some_iff.1 aW).1
  exact⟨.region T V (fun i=>cL a_ (a6 i)) ah (fun i U aW=>(a2 i U aW (o8 i (lt aW))).1) bd (fun wC=>⟨(aA wC).1,fun i U aW a7=>((aA wC).2 i U aW a7).imp (fun x=>x) fun he=>EM (o8 i (lt aW)) he⟩),o8 _ (Nat.le_refl _)⟩
 | Dm T V a6 ep ah h bd eK au aA wT a2=>
  rename_i id ops draw
  intro aC
  have o8:∀i,i<=ops.size->Fit a_ (a6 i):=by
   intro i
   induction i with
   | zero=>exact fun _=>aC
   | succ i Hk=>exact fun ab=>(a2 i _ (Array.getElem?_eq_getElem (show i<ops.size by omega)) (Hk (by omega))).2
  have lt:∀{i:Nat} {U:Oper},ops[i]?=some U->i<=ops.size:=fun aW=>Nat.le_of_lt (Array.getElem?_eq_some_iff.1 aW).1
  exact⟨.Dm T V (fun i=>cL a_ (a6 i)) ep ah (fun i U aW=>(a2 i U aW (o8 i (lt aW))).1) bd eK (fun i U aW=>(abc (o8 i (lt aW)) (au i U aW)).1) aA wT,o8 _ (Nat.le_refl _)⟩
 | uW hw=>exact fun aC=>⟨.uW hw,aC⟩
 | xc hw a7 h=>exact fun aC=>⟨.xc hw a7 h,aC⟩
 | sW hw a7 h=>exact fun aC=>let⟨aU,aO⟩:=PQ aC h;⟨.sW hw a7 aU,aO⟩
 | xb hw a7 aW y0 a1 aF af h a2=>exact fun aC=>let⟨ec,f1⟩:=a2 aC;⟨.xb hw a7 aW y0 a1 aF af ec,f1⟩
 | call y0 af h he al a2=>exact fun aC=>let⟨ec,f1⟩:=a2 aC;⟨.call y0 af ec he (ac2 f1 al),f1⟩
 | A6 h aW a2=>
  intro aC
  obtain⟨ec,f1⟩:=a2 aC
  obtain⟨e,l,cs,J⟩:=aW
  obtain⟨aU,aO⟩:=f1.set (f1.w_ J) .dead
  refine⟨?_,aU⟩
  show ef P _ (.val _ (cL a_ (List.set _ _ .dead)))
  simp only[Out.heap]at aO
  rw[aO]
  exact .A6 ec ⟨e,l,cs,f1.get J (by simp)⟩
theorem aX.qo{P:Program}{f:FuncId}{args:List Value}{Q:Value->ad->Prop}(aC:Fit a_ H)(h:aX P f args H Q):aX P f args (cL a_ H) fun v H1=>∃aI,H1=cL a_ aI/\Fit a_ aI/\Q v aI:=by
 obtain⟨v,H1,⟨ag,al⟩ | ⟨aL,rfl⟩,aq⟩:=h
 ·obtain⟨ec,f1⟩:=acZ al (a_:=a_) aC
  exact⟨v,_,.inl ⟨ag,ec⟩,H1,rfl,f1,aq⟩
 ·exact⟨v,_,.inr ⟨aL,rfl⟩,H1,rfl,aC,aq⟩
theorem SS{b:Nat}{cs:List Value}(aC:Fit a_ H)(h:jt H b=some cs):jt (cL a_ H) b=some cs:=by
 obtain⟨X,aZ,ag⟩:=A9 h
 unfold jt
 rw[aC.vO aZ ag]
 exact ag
theorem adz{P:Program}{aS:Operand->Value}{op:Op}{v:Value}{H1:ad}(aC:Fit a_ H)(h:ca P aS H op=some (v,H1)):ca P aS (cL a_ H) op=some (v,cL a_ H1)/\Fit a_ H1:=by
 cases op<;>simp only[ca]at h⊢<;>try (first | (simp at h;done) | (cases h;done))
 case move=>simp at h;obtain⟨rfl,rfl⟩:=h;exact⟨rfl,aC⟩
 case assign=>simp at h;obtain⟨rfl,rfl⟩:=h;exact⟨rfl,aC⟩
 case pick=>split at h<;>simp at h;obtain⟨rfl,rfl⟩:=h;exact⟨rfl,aC⟩
 case alloc=>
  split at h
  ·split at h
   ·rename_i ag
    simp at h;obtain⟨rfl,rfl⟩:=h
    rw[if_pos ag,kO,(aC.app _).2]
    exact⟨rfl,(aC.app _).1⟩
   ·cases h
  ·cases h
 case box=>
  split at h
  ·rename_i ag
   simp at h;obtain⟨rfl,rfl⟩:=h
   rw[if_pos ag,kO,(aC.app _).2]
   exact⟨rfl,(aC.app _).1⟩
  ·cases h
 case load ty x=>
  split at h
  ·rename_i b i J
   cases gp:jt H b with
   | none=>rw[gp]at h;cases h
   | some cs=>
    rw[gp]at h
    rw[SS aC gp]
    revert h
    simp only
    cases dk P ty with
    | none=>simp
    | some g=>
     cases g with
     | false=>simp only;cases cs[i]?<;>simp only[Option.map_none,Option.map_some,Option.some.injEq,Prod.mk.injEq,reduceCtorEq,false_implies,and_imp];try (rintro rfl rfl;exact⟨⟨rfl,rfl⟩,aC⟩)
     | true=>
      simp only
      cases bu P ty with
      | none=>simp
      | some n=>
       simp only
       split
       ·simp only[Option.map_none,Option.map_some,Option.some.injEq,Prod.mk.injEq,reduceCtorEq,false_implies,and_imp];try (rintro rfl rfl;exact⟨⟨rfl,rfl⟩,aC⟩)
       ·simp
  ·cases h
 case store ty x y=>
  split at h
  ·rename_i b i J
   split at h
   ·rename_i e l cs aZ
    split at h
    ·rename_i ag
     simp at h;obtain⟨rfl,rfl⟩:=h
     obtain⟨aU,aO⟩:=aC.set (aC.w_ aZ) (.own e l (dr cs i (aS y).cells.toList))
     rw[aC.get aZ (by simp)]
     simp only
     rw[if_pos ag,aO]
     exact⟨rfl,aU⟩
    ·cases h
   ·cases h
  ·cases h
 case nilCheck=>split at h<;>simp at h;obtain⟨rfl,rfl⟩:=h;exact⟨rfl,aC⟩
 case binOp=>obtain⟨u,hu,he⟩:=Option.map_eq_some_iff.1 h;simp at he;obtain⟨rfl,rfl⟩:=he;rw[hu];exact⟨rfl,aC⟩
 case unOp=>obtain⟨u,hu,he⟩:=Option.map_eq_some_iff.1 h;simp at he;obtain⟨rfl,rfl⟩:=he;rw[hu];exact⟨rfl,aC⟩
 case convert=>
  split at h
  ·split at h<;>simp at h;obtain⟨rfl,rfl⟩:=h;exact⟨rfl,aC⟩
  ·split at h
   ·rename_i ag;simp at h;obtain⟨rfl,rfl⟩:=h;rw[if_pos ag];exact⟨rfl,aC⟩
   ·cases h
  ·cases h
 case makeInterface=>
  split at h
  ·rename_i ag;simp at h;obtain⟨rfl,rfl⟩:=h;rw[if_pos ag];exact⟨rfl,aC⟩
  ·cases h
 case makeFunc=>simp at h;obtain⟨rfl,rfl⟩:=h;exact⟨rfl,aC⟩
 case fieldAddr=>
  split at h
  ·obtain⟨u,hu,he⟩:=Option.map_eq_some_iff.1 h;simp at he;obtain⟨rfl,rfl⟩:=he;rw[hu];exact⟨rfl,aC⟩
  ·cases h
 case field=>
  split at h
  ·split at h
   ·obtain⟨u,hu,he⟩:=Option.map_eq_some_iff.1 h;simp at he;obtain⟨rfl,rfl⟩:=he;simp only[hu];exact⟨rfl,aC⟩
   ·cases h
  ·cases h
 case indexAddr=>
  split at h
  ·split at h
   ·split at h
    ·split at h
     ·rename_i ag;simp at h;obtain⟨rfl,rfl⟩:=h;rw[if_pos ag];exact⟨rfl,aC⟩
     ·cases h
    ·cases h
   ·cases h
  ·cases h
 case index=>
  split at h
  ·split at h
   ·rename_i ag;simp only[Option.some.injEq,Prod.mk.injEq]at h;obtain⟨rfl,rfl⟩:=h;rw[if_pos ag];exact⟨rfl,aC⟩
   ·cases h
  ·cases h
 case extract=>
  split at h
  ·obtain⟨u,hu,he⟩:=Option.map_eq_some_iff.1 h;simp at he;obtain⟨rfl,rfl⟩:=he;rw[hu];exact⟨rfl,aC⟩
  ·cases h
 case build=>
  split at h
  ·split at h
   ·rename_i ag;obtain⟨u,hu,he⟩:=Option.map_eq_some_iff.1 h;simp at he;obtain⟨rfl,rfl⟩:=he;rw[if_pos ag,hu];exact⟨rfl,aC⟩
   ·cases h
  ·cases h
 case call c=>
  unfold s7 at h⊢
  split at h
  ·split at h
   ·split at h
    ·simp at h;obtain⟨rfl,rfl⟩:=h;exact⟨rfl,aC⟩
    ·cases h
   ·split at h
    ·rename_i ag;simp at h;obtain⟨rfl,rfl⟩:=h;rw[if_pos ag];exact⟨rfl,aC⟩
    ·cases h
   ·cases h
  ·split at h<;>simp at h;obtain⟨rfl,rfl⟩:=h;exact⟨rfl,aC⟩
  ·split at h<;>simp at h;obtain⟨rfl,rfl⟩:=h;exact⟨rfl,aC⟩
  ·cases h
 case slice ty x bg ab fH=>
  cases fH with
  | some m=>simp at h
  | none=>
   simp only at h⊢
   split at h
   ·split at h
    ·split at h
     ·rename_i ag;simp at h;obtain⟨rfl,rfl⟩:=h;rw[if_pos ag];exact⟨rfl,aC⟩
     ·cases h
    ·cases h
   ·cases h
theorem ady{P:Program}{aS:Operand->Value}{op:Op}(H aI:ad)(hm:j3 op=true)(h:ca P aS H op=none):ca P aS aI op=none:=by
 cases ao:ca P aS aI op with
 | none=>rfl
 | some p=>
  obtain⟨v,H1⟩:=p
  cases op<;>simp[j3]at hm<;>simp only[ca]at h ao<;>try (first | (simp at ao;done) | (cases ao;done))
  case convert src dst x=>
   cases J:aS x with
   | int k n=>rw[J]at h ao;simp only at h ao;revert h ao;cases kL P src<;>cases kL P dst<;>simp
   | string t=>rw[J]at h ao;simp only at h ao;revert h ao;split<;>simp
   | _=>rw[J]at ao;simp at ao
  case call c=>
   obtain⟨callee,args,lX⟩:=c
   unfold s7 at h ao
   cases callee with
   | builtin b=>cases b<;>simp at hm<;>simp at ao
   | _=>simp at hm
  case slice ty x bg ab fH=>
   cases fH with
   | some m=>simp at ao
   | none=>
    simp only at h ao
    split at ao
    ·split at ao
     ·split at ao<;>simp_all
     ·cases ao
    ·cases ao
theorem gL.qo{P:Program}{b:Bool}{F:Fr}{K:Value->ad->Prop}{op:Op}(aC:Fit a_ H)(h:gL P b F H K op):gL P b F (cL a_ H) (fun v H1=>∃aI,H1=cL a_ aI/\Fit a_ aI/\K v aI) op:=by
 have main:(match ca P (ar F) H op with
   | some (v,H1)=>(iw op=true->b=true)/\K v H1
   | none=>j3 op=true/\∃v H1,oD P (ar F) H op v H1/\(b=true\/Ext H H1)/\K v H1)->(match ca P (ar F) (cL a_ H) op with
   | some (v,H1)=>(iw op=true->b=true)/\∃aI,H1=cL a_ aI/\Fit a_ aI/\K v aI
   | none=>j3 op=true/\∃v H1,oD P (ar F) (cL a_ H) op v H1/\(b=true\/Ext (cL a_ H) H1)/\∃aI,H1=cL a_ aI/\Fit a_ aI/\K v aI):=by
  cases ao:ca P (ar F) H op with
  | some p=>
   obtain⟨v,H1⟩:=p
   obtain⟨aU,aO⟩:=adz aC ao
   rw[aU]
   exact fun h=>⟨h.1,H1,rfl,aO,h.2⟩
  | none=>
   intro⟨o,v,H1,aa,aE,bA⟩
   rw[ady H _ o ao]
   have hm:=fun U aW=>PQ aC (aa U aW).2
   have aG:=hm ⟨none,op,default,default, #[],none⟩ rfl
   exact⟨o,v,cL a_ H1,fun U aW=>⟨(aa U aW).1,(hm U aW).1⟩,aE.imp (fun x=>x) fun he=>EM aC he,H1,rfl,aG.2,bA⟩
 cases op<;>try exact main h
 rename_i c
 obtain⟨callee,args,lX⟩:=c
 cases callee with
 | value f=>
  simp only[gL]at h⊢
  split at h
  ·rename_i g first cap BX
   exact(aX.qo aC h).mono fun v H1 ⟨aI,e,o,aa⟩=>⟨aa.1.imp (fun x=>x) fun he=>by rw[e];exact EM aC he,aI,e,o,aa.2⟩
  ·exact h.elim
 | invoke r m=>exact main h
 | builtin b=>exact main h
theorem bm.qo{P:Program}:∀{l:List bJ} {F:Fr} {H:ad} {Q:Fr->ad->Prop},Fit a_ H->bm P l F H Q->bm P l F (cL a_ H) fun az H1=>∃aI,H1=cL a_ aI/\Fit a_ aI/\Q az aI
 | [],F,H,Q,aC,h=>⟨H,rfl,aC,h⟩
 | x::rest,F,H,Q,aC,h=>by
  simp only[bm]at h⊢
  split
  ·rename_i a1
   rw[a1]at h
   exact gL.mono (fun v H1 ⟨aI,e,o,aa⟩=>by rw[e];exact bm.qo o aa) (gL.qo aC h)
  ·rename_i j w a1
   rw[a1]at h
   simp only at h
   split
   ·rename_i af
    rw[if_pos af]at h
    exact gL.mono (fun v H1 ⟨aI,e,o,aa⟩=>by rw[e];exact bm.qo o aa) (gL.qo aC h)
   ·rename_i af
    rw[if_neg af]at h
    exact bm.qo aC h
end
end Go.cl
end
