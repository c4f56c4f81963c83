/- Part of the proof of ShopJoined. -/
import Derived.Test.YtoiodfcefbapkaaGreatShopJoinedC
set_option linter.unusedVariables false
set_option linter.unusedSimpArgs false
section
namespace Go.cJ
inductive gX where
 | xs (l:List bz)
 | bL (r e:Nat)
 | cl (r e:Nat) (y:Operand)
 | a9 (g:Option (Nat×Bool)) (d s x f r off:Nat)
 | bQ (g:Option (Nat×Bool)) (d t x r:Nat)
 | aI (g:Option (Nat×Bool)) (d t x r off:Nat)
 | bT (b:Bool) (g:Option (Nat×Bool)) (t x:Nat) (y:Operand) (r:Nat)
 | st (b:Bool) (g:Option (Nat×Bool)) (t x:Nat) (y:Operand) (r off:Nat)
inductive eR where
 | skip
 | ret
 | exit (id:Nat)
 | seq (x y:eR)
 | cond (c:Operand) (x y:eR)
 | block (id:Nat) (x:eR)
 | loop (m k:Nat) (x:eR)
 | box (m k:Nat) (x:eR)
 | ops (l:List gX)
 | opsL (l:List gX)
inductive jM where
 | tmp (i:Nat)
 | cell (a ty:Nat)
structure cM where
 code:eR
 results:List jM
def gX.back:gX->List bz
 | .xs l=>l
 | .bL r e=>[⟨true,none,some r,.alloc e⟩]
 | .cl r e y=>[⟨true,none,some r,.box e y⟩]
 | .a9 g d s x f _ _=>[⟨true,g,some d,.fieldAddr s (.tmp x) f⟩]
 | .bQ g d t x _=>[⟨true,g,some d,.load t (.tmp x)⟩]
 | .aI g d t x _ _=>[⟨true,g,some d,.load t (.tmp x)⟩]
 | .bT b g t x y _=>[⟨b,g,none,.store t (.tmp x) y⟩]
 | .st b g t x y _ _=>[⟨b,g,none,.store t (.tmp x) y⟩]
def ql:List gX->List bz
 | []=>[]
 | i::r=>i.back++ql r
def eR.back:eR->gy
 | .skip=> .skip
 | .ret=> .ret
 | .exit id=> .exit id
 | .seq x y=> .seq x.back y.back
 | .cond c x y=> .cond c x.back y.back
 | .block id x=> .block id x.back
 | .loop _ _ x=> .loop x.back
 | .box _ _ x=>x.back
 | .ops l=> .ops (ql l)
 | .opsL l=> .opsL (ql l)
def jM.back:jM->ResultVar
 | .tmp i=> .tmp i
 | .cell a ty=> .cell a ty
def cM.back(z:cM):fu:=⟨z.code.back,z.results.map jM.back⟩
def j1:Value->Bool
 | .pointer (some _)=>true
 | _=>false
@[simp] theorem ahV(a:Addr):j1 (.pointer (some a))=true:=rfl
def o9(v:Value)(n:Nat):Value:=match v with
 | .pointer (some ⟨b,i,none⟩)=> .pointer (some ⟨b,i+n,none⟩)
 | _=>undef
def e3:Value->Bool
 | .agg _=>true
 | _=>false
def Whole(P:Program)(e:TypeId)(v:Value):Prop:=bq P e=some v.cells.size/\(v.cells.toList.all (·.oneCell'))=true/\(if e3 v=true then ds P e=some true else ds P e=some false/\v.cells= #[v])
def mQ(g:Option (Nat×Bool))(F:Fr)(dr cT:Prop):Prop:=match g with
 | none=>dr
 | some (j,w)=>nB (hg (F j)) w dr cT
def dw(P:Program):List gX->Fr->Fr->ab->(Fr->Fr->ab->Prop)->Prop
 | [],F,G,H,Q=>Q F G H
 | .xs l::r,F,G,H,Q=>bh P l F H fun az H1=>dw P r az G H1 Q
 | .bL c e::r,F,G,H,Q=>eX (dA P e) fun z=>gm (flat z=true/\Whole P e z) (dw P r (a4 F c (.pointer (some ⟨H.length,0,none⟩))) (a4 G c z) (H++[.dead]) Q)
 | .cl c e y::r,F,G,H,Q=>gm (Whole P e (aq F y)) (dw P r (a4 F c (.pointer (some ⟨H.length,0,none⟩))) (a4 G c (aq F y)) (H++[.dead]) Q)
 | .a9 g d s x f c off::r,F,G,H,Q=>mQ g F (gm (j1 (F c)=true) (dw P r (a4 F d (o9 (F c) off)) G H Q)) (dw P r (a4 F d undef) G H Q)
 | .bQ g d t x c::r,F,G,H,Q=>mQ g F (gm (j1 (F c)=true) (dw P r (a4 F d (G c)) G H Q)) (dw P r (a4 F d undef) G H Q)
 | .aI g d t x c off::r,F,G,H,Q=>mQ g F (gm (j1 (F c)=true) (nJ (G c) fun cs=>eX (ds P t) fun a=>hM a (eX (bq P t) fun n=>gm (off+n<=cs.size) (dw P r (a4 F d (.agg ((cs.toList.drop off).take n).toArray)) G H Q)) (eX cs.toList[off]? fun v=>dw P r (a4 F d v) G H Q)))
   (dw P r (a4 F d undef) G H Q)
 | .bT _ g t x y c::r,F,G,H,Q=>mQ g F (gm (j1 (F c)=true/\Whole P t (aq F y)) (dw P r F (a4 G c (aq F y)) H Q)) (dw P r F G H Q)
 | .st _ g t x y c off::r,F,G,H,Q=>mQ g F (gm (j1 (F c)=true) (nJ (G c) fun cs=>gm (bq P t=some (aq F y).cells.size/\off+(aq F y).cells.size<=cs.size/\((aq F y).cells.toList.all (·.oneCell'))=true) (dw P r F (a4 G c (.agg (lX cs.toList off (aq F y).cells.toList).toArray)) H Q))) (dw P r F G H Q)
def mC(K:Fr->Fr->ab->Prop)(Q:dH->Fr->Fr->ab->Prop):dH->Fr->Fr->ab->Prop
 | .normal,F,G,H=>K F G H
 | e,F,G,H=>Q e F G H
def qz(id:Nat)(Q:dH->Fr->Fr->ab->Prop):dH->Fr->Fr->ab->Prop
 | .exit hG,F,G,H=>if hG=id then Q .normal F G H else Q (.exit hG) F G H
 | e,F,G,H=>Q e F G H
inductive vK (body:Fr->Fr->ab->(dH->Fr->Fr->ab->Prop)->Prop) (Q:dH->Fr->Fr->ab->Prop):Fr->Fr->ab->Prop
 | round {F G:Fr} {H:ab} (ai:Fr->Fr->ab->Prop) (h:body F G H (mC ai Q)) (eu:∀az bD H1,ai az bD H1->vK body Q az bD H1):vK body Q F G H
def eS(P:Program):eR->Fr->Fr->ab->(dH->Fr->Fr->ab->Prop)->Prop
 | .skip,F,G,H,Q=>Q .normal F G H
 | .ret,F,G,H,Q=>Q .ret F G H
 | .exit id,F,G,H,Q=>Q (.exit id) F G H
 | .seq x y,F,G,H,Q=>eS P x F G H (mC (fun az bD H1=>eS P y az bD H1 Q) Q)
 | .cond c x y,F,G,H,Q=>yQ (aq F c) fun b=>hM b (eS P x F G H Q) (eS P y F G H Q)
 | .block id x,F,G,H,Q=>eS P x F G H (qz id Q)
 | .loop _ _ x,F,G,H,Q=>vK (eS P x) Q F G H
 | .box _ _ x,F,G,H,Q=>eS P x F G H Q
 | .ops l,F,G,H,Q=>dw P l F G H (fun az bD H1=>Q .normal az bD H1)
 | .opsL l,F,G,H,Q=>dw P l F G H (fun az bD H1=>Q .normal az bD H1)
def oH(F G:Fr):List jM->(List Value->Prop)->Prop
 | [],K=>K []
 | .tmp i::rs,K=>oH F G rs fun aD=>K (F i::aD)
 | .cell a ty::rs,K=>gm (j1 (F a)=true) (oH F G rs fun aD=>K (G a::aD))
def yb(rs:List jM)(Q:Value->ab->Prop):dH->Fr->Fr->ab->Prop
 | .normal,F,G,H=>oH F G rs fun aD=>Q (bf aD) H
 | .ret,F,G,H=>oH F G rs fun aD=>Q (bf aD) H
 | .exit _,_,_,_=>False
abbrev Cells:=List (Nat×Nat)
abbrev iF:=List (Nat×Nat×Nat×Option (Nat×Bool))
def lF(C:Cells)(r:Nat):Bool:=(C.lookup r).isSome
def Cn(C:Cells):Option Nat->Bool
 | some d=> !lF C d
 | none=>true
def kill(d:Nat)(E:iF):iF:=E.filter fun p=>p.1 !=d&&p.2.1 !=d&&(match p.2.2.2 with | some (j,_)=>j !=d | none=>true)
def EH:Option Nat->iF->iF
 | some d,E=>kill d E
 | none,E=>E
def zj:Option (Nat×Bool)->Option (Nat×Bool)->Bool
 | some (j,w),some (ea,gx)=>j==ea&&w==gx
 | none,none=>true
 | _,_=>false
def reach(E:iF)(g:Option (Nat×Bool))(x r off:Nat):Bool:=(x==r&&off==0) || match E.lookup x with
 | some (dP,Nh,ky)=>dP==r&&Nh==off&&(zj ky none || zj ky g)
 | none=>false
def Cu(P:Program)(E:iF)(g:Option (Nat×Bool))(s x f r off:Nat):Bool:=match fL P s f with
 | some R=>decide (R<=off)&&reach E g x r (off-R)
 | none=>false
def hs(P:Program)(C:Cells)(late:Bool):iF->List gX->Bool
 | _,[]=>true
 | E,.xs l::r=>(l.all fun R=>Cn C R.d)&&hs P C late (l.foldl (fun E R=>EH R.d E) E) r
 | E,.bL c e::r=>C.lookup c==some e&&hs P C late (kill c E) r
 | E,.cl c e _::r=>C.lookup c==some e&&hs P C late (kill c E) r
 | E,.a9 g d s x f c off::r=> !lF C d&&lF C c&&Cu P E g s x f c off&&(match g with | some (j,_)=>j !=d | none=>true)&&hs P C late ((d,c,off,g)::kill d E) r
 | E,.bQ g d t x c::r=> !lF C d&&C.lookup c==some t&&reach E g x c 0&&hs P C late (kill d E) r
 | E,.aI g d _ x c off::r=> !lF C d&&lF C c&&reach E g x c off&&hs P C late (kill d E) r
 | E,.bT b g t x _ c::r=>(b || late)&&C.lookup c==some t&&reach E g x c 0&&hs P C late E r
 | E,.st b g _ x _ c off::r=>(b || late)&&lF C c&&reach E g x c off&&hs P C late E r
def vi:Op->Bool
 | .load .. | .store .. =>false
 | .call {callee:= .value _,.. }=>false
 | op=> !jo op
def l0:List Nat->List Nat->List gX->Bool
 | _,_,[]=>true
 | af,W,.xs l::r=>(l.all fun R=>vi R.op)&&l0 af W r
 | af,W,.a9 _ _ _ _ _ _ _::r=>l0 af W r
 | af,W,.bQ _ _ _ _ c::r=> !W.contains c&&l0 (c::af) W r
 | af,W,.aI _ _ _ _ c _::r=> !W.contains c&&l0 (c::af) W r
 | af,W,.bT b _ _ _ _ c::r=>(b || (!W.contains c&& !af.contains c))&&l0 af (if b then W else c::W) r
 | af,W,.st b _ _ _ _ c _::r=>(b || (!W.contains c&& !af.contains c))&&l0 af (if b then W else c::W) r
 | _,_,_=>false
def gQ(m r:Nat):Bool:=(m>>>r) % 2==1
def Ji(m:Nat):Option Nat->Bool
 | some d=>gQ m d
 | none=>true
def vZ(m k:Nat):gX->Bool
 | .xs l=>l.all fun R=>Ji m R.d
 | .bL c _=>gQ m c&&gQ k c
 | .cl c _ _=>gQ m c&&gQ k c
 | .a9 _ d _ _ _ _ _=>gQ m d
 | .bQ _ d _ _ _=>gQ m d
 | .aI _ d _ _ _ _=>gQ m d
 | .bT _ _ _ _ _ c=>gQ k c
 | .st _ _ _ _ _ c _=>gQ k c
def kb(m k:Nat):eR->Bool
 | .seq x y=>kb m k x&&kb m k y
 | .cond _ x y=>kb m k x&&kb m k y
 | .block _ x=>kb m k x
 | .loop _ _ x=>kb m k x
 | .box _ _ x=>kb m k x
 | .ops l=>l.all (vZ m k)
 | .opsL l=>l.all (vZ m k)
 | _=>true
def kp(P:Program)(C:Cells):eR->Bool
 | .seq x y=>kp P C x&&kp P C y
 | .cond _ x y=>kp P C x&&kp P C y
 | .block _ x=>kp P C x
 | .loop m k x=>kb m k x&&kp P C x
 | .box m k x=>kb m k x&&kp P C x
 | .ops l=>hs P C false [] l
 | .opsL l=>hs P C true [] l&&l0 [] [] l
 | _=>true
def tn(C:Cells)(rs:List jM):Bool:=rs.all fun r=>match r with
 | .tmp i=>true
 | .cell a ty=>C.lookup a==some ty
section
variable {P:Program}
theorem bh.append:∀{l c_:List bz} {F:Fr} {H:ab} {Q:Fr->ab->Prop},bh P l F H (fun az H1=>bh P c_ az H1 Q)->bh P (l++c_) F H Q
 | [],c_,F,H,Q,h=>h
 | x::l,c_,F,H,Q,h=>by
  simp only[List.cons_append,bh]at h⊢
  split
  ·rename_i aU;rw[aU]at h;exact ga.mono (fun v H1=>bh.append) h
  ·rename_i j w aU
   rw[aU]at h
   simp only at h
   split
   ·rename_i ag;rw[if_pos ag]at h;exact ga.mono (fun v H1=>bh.append) h
   ·rename_i ag;rw[if_neg ag]at h;exact bh.append h
theorem RK{F:Fr}{d:Option Nat}{v:Value}{r:Nat}(h:d≠some r):fM F d v r=F r:=by
 cases d with
 | none=>rfl
 | some e=>exact iy F v fun he=>h (by rw[he])
theorem bh.gu:∀{l:List bz} {F:Fr} {H:ab} {Q:Fr->ab->Prop},bh P l F H Q->bh P l F H fun az H1=>Q az H1/\∀r,(∀R∈l,R.d≠some r)->az r=F r
 | [],F,H,Q,h=>⟨h,fun _ _=>rfl⟩
 | x::l,F,H,Q,h=>by
  have next:∀v H1,bh P l (fM F x.d v) H1 Q->bh P l (fM F x.d v) H1 fun az H1=>Q az H1/\∀r,(∀R∈x::l,R.d≠some r)->az r=F r:=fun v H1 o=>
   bh.mono (fun az aR ⟨a1,a3⟩=>⟨a1,fun r al=>by rw[a3 r fun R aK=>al R (List.mem_cons_of_mem _ aK),RK (al x List.mem_cons_self)]⟩) (bh.gu o)
  simp only[bh]at h⊢
  split
  ·rename_i aU;rw[aU]at h;exact ga.mono (fun v H1=>next v H1) h
  ·rename_i j w aU
   rw[aU]at h
   simp only at h
   split
   ·rename_i ag;rw[if_pos ag]at h;exact ga.mono (fun v H1=>next v H1) h
   ·rename_i ag;rw[if_neg ag]at h;exact next _ _ h
def l_(g:Option (Nat×Bool))(F:Fr):Prop:=match g with
 | none=>True
 | some (j,w)=>hg (F j)=some w
theorem mQ.imp{g:Option (Nat×Bool)}{F:Fr}{A B vG kM:Prop}(h:mQ g F A B)(o:l_ g F->A->vG)(aa:¬l_ g F->B->kM):mQ g F vG kM:=by
 cases g with
 | none=>exact o trivial h
 | some p5=>
  obtain⟨j,w⟩:=p5
  simp only[mQ,nB]at h⊢
  split
  ·rename_i ag;rw[if_pos ag]at h;exact o ag h
  ·rename_i ag;rw[if_neg ag]at h;exact aa ag h
theorem yH{b:Bool}{g:Option (Nat×Bool)}{d:Option Nat}{op:Op}{r:List bz}{F:Fr}{H:ab}{Q:Fr->ab->Prop}(h:mQ g F (bh P (⟨b,none,d,op⟩::r) F H Q) (bh P r (fM F d undef) H Q)):bh P (⟨b,g,d,op⟩::r) F H Q:=by
 cases g with
 | none=>exact h
 | some p5=>exact h
theorem yF{b:Bool}{g:Option (Nat×Bool)}{d:Option Nat}{op:Op}{r:List bz}{F:Fr}{H:ab}{af W:List Nat}{Q:Fr->ab->Prop}(h:mQ g F (fv P (⟨b,none,d,op⟩::r) F H af W Q) (fv P r (fM F d undef) H af W Q)):fv P (⟨b,g,d,op⟩::r) F H af W Q:=by
 cases g with
 | none=>exact h
 | some p5=>exact h
def ij(E:iF)(F:Fr):Prop:=∀x∈E,l_ x.2.2.2 F->F x.1=o9 (F x.2.1) x.2.2.1
theorem ij.nil(F:Fr):ij [] F:=fun x h=>by simp at h
theorem M1{d:Nat}{E:iF}{x:Nat×Nat×Nat×Option (Nat×Bool)}(h:x∈kill d E):x∈E/\x.1≠d/\x.2.1≠d/\∀j w,x.2.2.2=some (j,w)->j≠d:=by
 unfold kill at h
 rw[List.mem_filter]at h
 obtain⟨o,aa⟩:=h
 simp only[Bool.and_eq_true,bne_iff_ne,ne_eq]at aa
 refine⟨o,aa.1.1,aa.1.2,fun j w aU=>?_⟩
 have:=aa.2
 rw[aU]at this
 simpa using this
theorem CB{g:Option (Nat×Bool)}{F az:Fr}(h:∀j w,g=some (j,w)->az j=F j):l_ g az↔l_ g F:=by
 cases g with
 | none=>exact Iff.rfl
 | some p5=>obtain⟨j,w⟩:=p5;simp only[l_,h j w rfl]
theorem ij.kill{E:iF}{F:Fr}(h:ij E F)(d:Nat)(v:Value):ij (kill d E) (a4 F d v):=fun x J aU=>by
 obtain⟨o,aa,aA,bo⟩:=M1 J
 rw[iy _ _ aa,iy _ _ aA]
 exact h x o ((CB fun j w e=>iy F v (bo j w e)).1 aU)
theorem YA{l:List bz}:∀{E:iF} {x:Nat×Nat×Nat×Option (Nat×Bool)},x∈l.foldl (fun E R=>EH R.d E) E->x∈E/\∀R∈l,R.d≠some x.1/\R.d≠some x.2.1/\∀j w,x.2.2.2=some (j,w)->R.d≠some j:=by
 induction l with
 | nil=>intro E x h;exact⟨h,fun R aK=>by simp at aK⟩
 | cons R l a2=>
  intro E x h
  simp only[List.foldl_cons]at h
  obtain⟨o,aa⟩:=a2 h
  cases aB:R.d with
  | none=>
   rw[aB]at o
   refine⟨o,fun kl fp=>?_⟩
   rcases List.mem_cons.1 fp with rfl | fp
   ·rw[aB];simp
   ·exact aa kl fp
  | some d=>
   rw[aB]at o
   obtain⟨a1,a3,bG,cn⟩:=M1 o
   refine⟨a1,fun kl fp=>?_⟩
   rcases List.mem_cons.1 fp with rfl | fp
   ·rw[aB]
    exact⟨fun e=>a3 (Option.some.inj e).symm,fun e=>bG (Option.some.inj e).symm,fun j w aU e=>cn j w aU (Option.some.inj e).symm⟩
   ·exact aa kl fp
theorem ij.MI{E:iF}{F az:Fr}(h:ij E F){l:List bz}(a5:∀r,(∀R∈l,R.d≠some r)->az r=F r):ij (l.foldl (fun E R=>EH R.d E) E) az:=fun x J aU=>by
 obtain⟨o,aa⟩:=YA J
 rw[a5 _ fun R aK=>(aa R aK).1,a5 _ fun R aK=>(aa R aK).2.1]
 exact h x o ((CB fun j w e=>a5 j fun R aK=>(aa R aK).2.2 j w e).1 aU)
theorem Jn{g ky:Option (Nat×Bool)}(h:zj g ky=true):g=ky:=by
 cases g<;>cases ky<;>simp[zj]at h⊢
 ·obtain⟨o,aa⟩:=h;exact Prod.ext o aa
theorem EL{α:Type}:∀{E:List (Nat×α)} {x:Nat} {y:α},E.lookup x=some y->(x,y)∈E
 | [],x,y,h=>by simp at h
 | (a,b)::E,x,y,h=>by
  rw[List.lookup_cons]at h
  split at h
  ·rename_i J
   have:x=a:=by simpa using J
   subst this
   obtain rfl:=Option.some.inj h
   exact List.mem_cons_self
  ·exact List.mem_cons_of_mem _ (EL h)
theorem qb{E:iF}{F:Fr}{g:Option (Nat×Bool)}{x r off b:Nat}(h:reach E g x r off=true)(bW:ij E F)(aU:l_ g F)(al:F r= .pointer (some ⟨b,0,none⟩)):F x= .pointer (some ⟨b,off,none⟩):=by
 simp only[reach,Bool.or_eq_true,Bool.and_eq_true,beq_iff_eq]at h
 rcases h with⟨rfl,rfl⟩ | h
 ·exact al
 ·cases ar:E.lookup x with
  | none=>rw[ar]at h;cases h
  | some p=>
   obtain⟨dP,Nh,ky⟩:=p
   rw[ar]at h
   simp only[Bool.and_eq_true,Bool.or_eq_true,beq_iff_eq]at h
   obtain⟨⟨rfl,rfl⟩,T3⟩:=h
   have:=bW _ (EL ar)
   simp only at this
   rw[this,al]
   ·simp[o9]
   ·rcases T3 with q | q
    ·rw[Jn q];trivial
    ·rw[Jn q];exact aU
structure gz (P:Program) (C:Cells) (F G:Fr) (H:ab) (a8:Nat->Option bI):Prop where
 fit:Fit a8 H
 cell:∀r e,C.lookup r=some e->F r=undef\/∃b,F r= .pointer (some ⟨b,0,none⟩)/\a8 b=some (.own e false (G r).cells.toList)/\Whole P e (G r)
 inj:∀r dP e cP b,C.lookup r=some e->C.lookup dP=some cP->r≠dP->F r= .pointer (some ⟨b,0,none⟩)->F dP≠ .pointer (some ⟨b,0,none⟩)
section
variable {C:Cells} {F G:Fr} {H:ab} {a8:Nat->Option bI}
theorem gz.at(h:gz P C F G H a8){r e:Nat}(al:C.lookup r=some e)(aY:j1 (F r)=true):∃b,F r= .pointer (some ⟨b,0,none⟩)/\a8 b=some (.own e false (G r).cells.toList)/\Whole P e (G r)/\(cw a8 H)[b]?=some (.own e false (G r).cells.toList)/\b<H.length:=by
 rcases h.cell r e al with q | ⟨b,a1,a3,bG⟩
 ·rw[q]at aY;cases aY
 ·have aB:=(h.fit b _ a3).1
  refine⟨b,a1,a3,bG,?_,(cK.1 aB).1⟩
  rw[kI,aB,a3]
  rfl
theorem uw{r:Nat}(h:lF C r=true):∃e,C.lookup r=some e:=Option.isSome_iff_exists.1 h
theorem gz.nv(h:gz P C F G H a8){d:Nat}(aB:lF C d=false)(v:Value):gz P C (a4 F d v) G H a8:=by
 have ne:∀r e,C.lookup r=some e->r≠d:=fun r e al=>by rintro rfl;simp[lF,al]at aB
 refine⟨h.fit,fun r e al=>?_,fun r dP e cP b al fx cN a5=>?_⟩
 ·rw[iy _ _ (ne r e al)];exact h.cell r e al
 ·rw[iy _ _ (ne r e al)]at a5
  rw[iy _ _ (ne dP cP fx)]
  exact h.inj r dP e cP b al fx cN a5
theorem gz.congr(h:gz P C F G H a8){az:Fr}{H1:ab}(a5:∀r e,C.lookup r=some e->az r=F r)(ay:Fit a8 H1):gz P C az G H1 a8:=by
 refine⟨ay,fun r e al=>?_,fun r dP e cP b al fx cN ag=>?_⟩
 ·rw[a5 r e al];exact h.cell r e al
 ·rw[a5 r e al]at ag
  rw[a5 dP cP fx]
  exact h.inj r dP e cP b al fx cN ag
def rz(a8:Nat->Option bI)(b:Nat)(x:bI):Nat->Option bI:=fun c=>if c=b then some x else a8 c
theorem vg(a8:Nat->Option bI)(b:Nat)(x:bI):rz a8 b x b=some x:=by simp[rz]
theorem vf(a8:Nat->Option bI){b c:Nat}(x:bI)(h:c≠b):rz a8 b x c=a8 c:=by simp[rz,h]
theorem gz.new(h:gz P C F G H a8){c e:Nat}(ad:C.lookup c=some e){z:Value}(aM:Whole P e z):
  gz P C (a4 F c (.pointer (some ⟨H.length,0,none⟩))) (a4 G c z) (H++[.dead]) (rz a8 H.length (.own e false z.cells.toList))/\cw (rz a8 H.length (.own e false z.cells.toList)) (H++[.dead])=cw a8 H++[.own e false z.cells.toList]:=by
 have aG:a8 H.length=none:=by
  cases aY:a8 H.length with
  | none=>rfl
  | some x=>have:=h.fit.lt aY;omega
 refine⟨⟨fun b x ag=>?_,fun r cP al=>?_,fun r dP bk bg b al fx cN a5=>?_⟩,?_⟩
 ·by_cases gq:b=H.length
  ·subst gq
   rw[vg]at ag
   obtain rfl:=Option.some.inj ag
   exact⟨by simp,_,_,_,rfl⟩
  ·rw[vf _ _ gq]at ag
   obtain⟨a1,a3⟩:=h.fit b x ag
   exact⟨by rw[List.getElem?_append_left (h.fit.lt ag)];exact a1,a3⟩
 ·by_cases sI:r=c
  ·subst sI
   rw[ad]at al
   obtain rfl:=Option.some.inj al
   exact .inr ⟨H.length,j6 _ _ _,by rw[vg,j6],by rw[j6];exact aM⟩
  ·rw[iy _ _ sI,iy _ _ sI]
   rcases h.cell r cP al with q | ⟨b,a1,a3,bG⟩
   ·exact .inl q
   ·have:=h.fit.lt a3
    exact .inr ⟨b,a1,by rw[vf _ _ (by omega)];exact a3,bG⟩
 ·have lt:∀r e b,C.lookup r=some e->F r= .pointer (some ⟨b,0,none⟩)->b<H.length:=fun r e b al a5=>by
   rcases h.cell r e al with q | ⟨cu,a1,a3,bG⟩
   ·rw[q]at a5;cases a5
   ·rw[a1]at a5;simp at a5;subst a5;exact h.fit.lt a3
  by_cases o:r=c
  ·subst o
   rw[j6]at a5
   simp at a5
   subst a5
   rw[iy _ _ (Ne.symm cN)]
   intro av
   have:=lt dP bg _ fx av
   omega
  ·rw[iy _ _ o]at a5
   by_cases aa:dP=c
   ·subst aa
    rw[j6]
    intro av
    simp at av
    have:=lt r bk b al a5
    omega
   ·rw[iy _ _ aa]
    exact h.inj r dP bk bg b al fx cN a5
 ·apply List.ext_getElem?
  intro b
  rw[kI]
  by_cases ag:b<H.length
  ·rw[List.getElem?_append_left ag,List.getElem?_append_left (by rw[j4];exact ag),kI,vf _ _ (by omega)]
  ·by_cases gq:b=H.length
   ·subst gq
    rw[vg,List.getElem?_append_right (Nat.le_refl _),List.getElem?_append_right (by rw[j4];exact Nat.le_refl _),j4]
    simp
   ·rw[List.getElem?_eq_none (by simp;omega),List.getElem?_eq_none (by simp[j4];omega)]
    rfl
theorem gz.set(h:gz P C F G H a8){c e b:Nat}(ad:C.lookup c=some e)(a5:F c= .pointer (some ⟨b,0,none⟩)){z:Value}(aM:Whole P e z):
  gz P C F (a4 G c z) H (rz a8 b (.own e false z.cells.toList))/\cw (rz a8 b (.own e false z.cells.toList)) H=(cw a8 H).set b (.own e false z.cells.toList):=by
 have ag:a8 b=some (.own e false (G c).cells.toList):=by
  rcases h.cell c e ad with q | ⟨cu,a1,a3,bG⟩
  ·rw[q]at a5;cases a5
  ·rw[a1]at a5;simp at a5;subst a5;exact a3
 have aB:=(h.fit b _ ag).1
 have gJ:=h.fit.lt ag
 refine⟨⟨fun cu x c3=>?_,fun r cP al=>?_,h.inj⟩,?_⟩
 ·by_cases gq:cu=b
  ·subst gq
   rw[vg]at c3
   obtain rfl:=Option.some.inj c3
   exact⟨aB,_,_,_,rfl⟩
  ·rw[vf _ _ gq]at c3
   exact h.fit cu x c3
 ·by_cases sI:r=c
  ·subst sI
   rw[ad]at al
   obtain rfl:=Option.some.inj al
   exact .inr ⟨b,a5,by rw[vg,j6],by rw[j6];exact aM⟩
  ·rw[iy _ _ sI]
   rcases h.cell r cP al with q | ⟨cu,a1,a3,bG⟩
   ·exact .inl q
   ·have:cu≠b:=fun e=>by subst e;exact h.inj c r e _ cu ad al (Ne.symm sI) a5 a1
    exact .inr ⟨cu,a1,by rw[vf _ _ this];exact a3,bG⟩
 ·apply List.ext_getElem?
  intro cu
  rw[kI]
  by_cases gq:b=cu
  ·subst gq
   rw[vg,List.getElem?_set_self (by rw[j4];exact gJ),aB]
   rfl
  ·rw[List.getElem?_set_ne gq,kI,vf _ _ (Ne.symm gq)]
end
section
variable {aJ:Operand->Value} {H:ab} {b e:Nat} {x y:Operand} {v:Value}
theorem vT{v:Value}(h:e3 v=true):v= .agg v.cells:=by cases v<;>simp[e3]at h;rfl
theorem aae{t:Nat}(J:aJ x= .pointer (some ⟨b,0,none⟩))(aQ:H[b]?=some (.own e false v.cells.toList))(hw:Whole P t v):b3 P aJ H (.load t x)=some (v,H):=by
 obtain⟨o,aa,aA⟩:=hw
 have ad:iG H b=some v.cells.toList:=by unfold iG;rw[aQ];rfl
 simp only[b3,J,ad]
 split at aA
 ·rename_i aO
  rw[aA]
  simp only[o]
  rw[if_pos (by simp)]
  have:(v.cells.toList.drop 0).take v.cells.size=v.cells.toList:=by rw[List.drop_zero,List.take_of_length_le (by simp)]
  rw[this]
  simp only[Array.toArray_toList]
  rw[<-vT aO]
 ·rw[aA.1]
  simp only
  rw[aA.2]
  rfl
theorem Oa{t off:Nat}{cs:List Value}(J:aJ x= .pointer (some ⟨b,off,none⟩))(aQ:H[b]?=some (.own e false cs))(ao:bq P t=some (aJ y).cells.size)(bw:off+(aJ y).cells.size<=cs.length)(o:((aJ y).cells.toList.all (·.oneCell'))=true):
  b3 P aJ H (.store t x y)=some (undef,H.set b (.own e false (db cs off (aJ y).cells.toList))):=by
 simp only[b3,J,aQ]
 rw[if_pos ⟨ao,bw,o⟩]
end
theorem Whole.aal{e off:Nat}{cs:Array Value}{aD:List Value}(h:Whole P e (.agg cs))(bw:off+aD.length<=cs.size)(o:(aD.all (·.oneCell'))=true):Whole P e (.agg (db cs.toList off aD).toArray):=by
 obtain⟨a1,a3,bG⟩:=h
 have ar:(db cs.toList off aD).length=cs.size:=by rw[nt (by simpa using bw)];simp
 refine⟨?_,?_,by simpa[e3]using bG⟩
 ·rw[a1];simp only[Value.cells,List.size_toArray,ar]
 ·simp only[Value.cells]at a3⊢
  rw[List.all_eq_true]at a3⊢
  intro u hu
  simp only[db,List.mem_append]at hu
  rcases hu with(hu | hu) | hu
  ·exact a3 u (List.mem_of_mem_take hu)
  ·exact List.all_eq_true.1 o u hu
  ·exact a3 u (List.mem_of_mem_drop hu)
theorem Pq{t:Nat}{x:Operand}{d:Option Nat}{r:List bz}{F:Fr}{H H1:ab}{Q:Fr->ab->Prop}{v:Value}(h:b3 P (aq F) H (.load t x)=some (v,H1))(aj:bh P r (fM F d v) H1 Q):bh P (⟨true,none,d,.load t x⟩::r) F H Q:=by
 simp only[bh,ga,h]
 exact⟨fun _=>trivial,aj⟩
theorem Pr{t:Nat}{x y:Operand}{d:Option Nat}{r:List bz}{F:Fr}{H H1:ab}{Q:Fr->ab->Prop}{v:Value}(h:b3 P (aq F) H (.store t x y)=some (v,H1))(aj:bh P r (fM F d v) H1 Q):bh P (⟨true,none,d,.store t x y⟩::r) F H Q:=by
 simp only[bh,ga,h]
 exact⟨fun _=>trivial,aj⟩
theorem aec{s f b R off:Nat}{x:Nat}{d:Nat}{r:List bz}{F:Fr}{H:ab}{Q:Fr->ab->Prop}(J:F x= .pointer (some ⟨b,off,none⟩))(ay:fL P s f=some R)(aj:bh P r (a4 F d (.pointer (some ⟨b,off+R,none⟩))) H Q):bh P (⟨true,none,some d,.fieldAddr s (.tmp x) f⟩::r) F H Q:=by
 have ao:b3 P (aq F) H (.fieldAddr s (.tmp x) f)=some (.pointer (some ⟨b,off+R,none⟩),H):=by simp only[b3,aq,J,ay,Option.map_some]
 simp only[bh,ga,ao]
 exact⟨fun _=>trivial,aj⟩
theorem adu{cs aD:List Value}{i:Nat}(h:i+aD.length<=cs.length):lX cs i aD=db cs i aD:=Gf h
theorem wm{α:Type}{R:Option α}{K:α->Prop}(h:eX R K):∃v,R=some v/\K v:=by
 cases R with
 | none=>exact h.elim
 | some v=>exact⟨v,rfl,h⟩
theorem EX{v:Value}{K:Array Value->Prop}(h:nJ v K):∃cs,v= .agg cs/\K cs:=by
 cases v with
 | agg cs=>exact⟨cs,rfl,h⟩
 | _=>exact h.elim
variable {C:Cells}
theorem Js{E:iF}{F:Fr}{g:Option (Nat×Bool)}{s x f r off b:Nat}(h:Cu P E g s x f r off=true)(bW:ij E F)(aU:l_ g F)(al:F r= .pointer (some ⟨b,0,none⟩)):∃R,fL P s f=some R/\R<=off/\F x= .pointer (some ⟨b,off-R,none⟩):=by
 unfold Cu at h
 cases g7:fL P s f with
 | none=>rw[g7]at h;cases h
 | some R=>
  rw[g7]at h
  simp only[Bool.and_eq_true,decide_eq_true_eq]at h
  exact⟨R,rfl,h.1,qb h.2 bW aU al⟩
theorem Jr{E:iF}{F:Fr}{g:Option (Nat×Bool)}{d c off:Nat}(bW:ij E F)(qW:(match g with | some (j,_)=>j !=d | none=>true)=true)(aU:¬l_ g F):ij ((d,c,off,g)::kill d E) (a4 F d undef):=fun y aL uJ=>by
 rcases List.mem_cons.1 aL with rfl | aL
 ·refine absurd ((CB fun j w e=>iy F undef ?_).1 uJ) aU
  simp only at e
  subst e
  simpa using qW
 ·exact bW.kill d _ y aL uJ
theorem IV{F G:Fr}{H:ab}{a8:Nat->Option bI}{E:iF}{g:Option (Nat×Bool)}{t x c:Nat}(br:gz P C F G H a8)(ad:C.lookup c=some t)(g_:reach E g x c 0=true)(bW:ij E F)(aU:l_ g F)(aY:j1 (F c)=true):b3 P (aq F) (cw a8 H) (.load t (.tmp x))=some (G c,cw a8 H):=by
 obtain⟨b,dm,fZ,eM,gC,iv⟩:=br.at ad aY
 exact aae (b:=b) (qb g_ bW aU dm) gC eM
theorem IU{F G:Fr}{H:ab}{a8:Nat->Option bI}{E:iF}{g:Option (Nat×Bool)}{t x c e off:Nat}{K:Value->Prop}(br:gz P C F G H a8)(ad:C.lookup c=some e)(g_:reach E g x c off=true)(bW:ij E F)(aU:l_ g F)
  (h:gm (j1 (F c)=true) (nJ (G c) fun cs=>eX (ds P t) fun a=>hM a (eX (bq P t) fun n=>gm (off+n<=cs.size) (K (.agg ((cs.toList.drop off).take n).toArray))) (eX cs.toList[off]? fun v=>K v))):∃v,b3 P (aq F) (cw a8 H) (.load t (.tmp x))=some (v,cw a8 H)/\K v:=by
 obtain⟨aY,h⟩:=h
 obtain⟨b,dm,fZ,eM,gC,iv⟩:=br.at ad aY
 obtain⟨cs,gb,h⟩:=EX h
 have J:=qb g_ bW aU dm
 have Kz:iG (cw a8 H) b=some cs.toList:=by unfold iG;rw[gC,gb];rfl
 obtain⟨a,aO,h⟩:=wm h
 cases a with
 | true=>
  obtain⟨n,aG,bw,a0⟩:=wm h
  exact⟨_,by simp only[b3,aq,J,Kz,aO,aG];rw[if_pos (by simpa using bw)],a0⟩
 | false=>
  obtain⟨v,an,a0⟩:=wm h
  exact⟨v,by simp only[b3,aq,J,Kz,aO,an];rfl,a0⟩
theorem IX{F G:Fr}{H:ab}{a8:Nat->Option bI}{E:iF}{g:Option (Nat×Bool)}{t x c:Nat}{y:Operand}(br:gz P C F G H a8)(ad:C.lookup c=some t)(g_:reach E g x c 0=true)(bW:ij E F)(aU:l_ g F)(aY:j1 (F c)=true)(hw:Whole P t (aq F y)):
  ∃eP,b3 P (aq F) (cw a8 H) (.store t (.tmp x) y)=some (undef,cw eP H)/\gz P C F (a4 G c (aq F y)) H eP:=by
 obtain⟨b,dm,fZ,eM,gC,iv⟩:=br.at ad aY
 have J:=qb g_ bW aU dm
 have df:(aq F y).cells.size=(G c).cells.size:=by have:=eM.1;rw[hw.1]at this;exact Option.some.inj this
 have ao:=Oa (P:=P) (aJ:=aq F) (x:= .tmp x) (y:=y) J gC hw.1 (by simp;omega) hw.2.1
 obtain⟨a1,a3⟩:=br.set ad dm hw
 refine⟨_,?_,a1⟩
 rw[ao,a3]
 have:db (G c).cells.toList 0 (aq F y).cells.toList=(aq F y).cells.toList:=by
  simp only[db,List.take_zero,List.nil_append,Nat.zero_add]
  rw[List.drop_eq_nil_of_le (by simp;omega),List.append_nil]
 rw[this]
theorem IW{F G:Fr}{H:ab}{a8:Nat->Option bI}{E:iF}{g:Option (Nat×Bool)}{t x c e off:Nat}{y:Operand}{K:Value->Prop}(br:gz P C F G H a8)(ad:C.lookup c=some e)(g_:reach E g x c off=true)(bW:ij E F)(aU:l_ g F)
  (h:gm (j1 (F c)=true) (nJ (G c) fun cs=>gm (bq P t=some (aq F y).cells.size/\off+(aq F y).cells.size<=cs.size/\((aq F y).cells.toList.all (·.oneCell'))=true) (K (.agg (lX cs.toList off (aq F y).cells.toList).toArray)))):
  ∃eP v,b3 P (aq F) (cw a8 H) (.store t (.tmp x) y)=some (undef,cw eP H)/\gz P C F (a4 G c v) H eP/\K v:=by
 obtain⟨aY,h⟩:=h
 obtain⟨b,dm,fZ,eM,gC,iv⟩:=br.at ad aY
 obtain⟨cs,gb,⟨o,aa,aA⟩,a0⟩:=EX h
 have J:=qb g_ bW aU dm
 have ao:=Oa (P:=P) (aJ:=aq F) (x:= .tmp x) (y:=y) J gC o (by rw[gb];simpa[Value.cells]using aa) aA
 rw[gb]at ao eM
 rw[adu (by simpa using aa)]at a0
 obtain⟨a1,a3⟩:=br.set ad dm (eM.aal (aD:=(aq F y).cells.toList) (by simpa using aa) aA)
 refine⟨_,_,?_,a1,a0⟩
 rw[ao,a3]
 rfl
theorem l1:∀(l:List gX) (E:iF) (F G:Fr) (H:ab) (a8:Nat->Option bI) (Q:Fr->Fr->ab->Prop),hs P C false E l=true->gz P C F G H a8->ij E F->dw P l F G H Q->
  bh P (ql l) F (cw a8 H) fun az H1=>∃bD aR eP,H1=cw eP aR/\gz P C az bD aR eP/\Q az bD aR
 | [],E,F,G,H,a8,Q,aj,br,bW,h=>⟨G,H,a8,rfl,br,h⟩
 | .xs l::r,E,F,G,H,a8,Q,aj,br,bW,h=>by
  simp only[hs,Bool.and_eq_true]at aj
  simp only[ql,gX.back]
  refine bh.append (bh.mono (fun az H1 cV=>?_) (bh.o8 br.fit (bh.gu h)))
  obtain⟨aF,rfl,ay,aM,a5⟩:=cV
  have wC:∀r e,C.lookup r=some e->az r=F r:=fun r e al=>a5 r fun R aK=>by
   have:=List.all_eq_true.1 aj.1 R aK
   cases aB:R.d with
   | none=>simp
   | some d=>rw[aB]at this;rintro⟨rfl⟩;simp[Cn,lF,al]at this
  exact l1 r _ az G aF a8 Q aj.2 (br.congr wC ay) (bW.MI a5) aM
 | .bL c e::r,E,F,G,H,a8,Q,aj,br,bW,h=>by
  simp only[hs,Bool.and_eq_true,beq_iff_eq]at aj
  obtain⟨z,aM,⟨dS,hw⟩,a0⟩:=wm h
  obtain⟨a1,a3⟩:=br.new aj.1 hw
  show bh P (bL c e::ql r) F (cw a8 H) _
  rw[Pp]
  simp only[aM]
  refine⟨⟨dS,by rw[hw.1];rfl⟩,?_⟩
  rw[j4,<-a3]
  exact l1 r _ _ _ _ _ Q aj.2 a1 (bW.kill c _) a0
 | .cl c e y::r,E,F,G,H,a8,Q,aj,br,bW,h=>by
  simp only[hs,Bool.and_eq_true,beq_iff_eq]at aj
  obtain⟨hw,a0⟩:=h
  obtain⟨a1,a3⟩:=br.new aj.1 hw
  show bh P (cl c e y::ql r) F (cw a8 H) _
  rw[Pk]
  refine⟨by rw[hw.1];rfl,?_⟩
  rw[j4,<-a3]
  exact l1 r _ _ _ _ _ Q aj.2 a1 (bW.kill c _) a0
 | .a9 g d s x f c off::r,E,F,G,H,a8,Q,aj,br,bW,h=>by
  simp only[hs,Bool.and_eq_true,Bool.not_eq_true']at aj
  obtain⟨⟨⟨⟨aB,ad⟩,n3⟩,qW⟩,al⟩:=aj
  obtain⟨e,fJ⟩:=uw ad
  have zV:c≠d:=fun cP=>by subst cP;rw[ad]at aB;cases aB
  simp only[dw]at h
  refine yH (h.imp (fun aU a0=>?_) fun aU a0=>?_)
  ·obtain⟨aY,a0⟩:=a0
   have CM:ij ((d,c,off,g)::kill d E) (a4 F d (o9 (F c) off)):=fun y aL uJ=>by
    rcases List.mem_cons.1 aL with rfl | aL
    ·simp only;rw[j6,iy _ _ zV]
    ·exact bW.kill d _ y aL uJ
   have sJ:=l1 r _ _ _ _ _ Q al (br.nv aB (o9 (F c) off)) CM a0
   obtain⟨b,dm,-⟩:=br.at fJ aY
   obtain⟨R,g7,aK,J⟩:=Js n3 bW aU dm
   refine aec J g7 ?_
   rw[dm]at sJ
   simp only[o9,Nat.zero_add]at sJ
   rw[show off-R+R=off by omega]
   exact sJ
  ·exact l1 r _ _ _ _ _ Q al (br.nv aB undef) (Jr bW qW aU) a0
 | .bQ g d t x c::r,E,F,G,H,a8,Q,aj,br,bW,h=>by
  simp only[hs,Bool.and_eq_true,Bool.not_eq_true',beq_iff_eq]at aj
  obtain⟨⟨⟨aB,ad⟩,g_⟩,al⟩:=aj
  simp only[dw]at h
  refine yH (h.imp (fun aU a0=>?_) fun aU a0=>?_)
  ·obtain⟨aY,a0⟩:=a0
   exact Pq (IV br ad g_ bW aU aY) (l1 r _ _ _ _ _ Q al (br.nv aB (G c)) (bW.kill d _) a0)
  ·exact l1 r _ _ _ _ _ Q al (br.nv aB undef) (bW.kill d _) a0
 | .aI g d t x c off::r,E,F,G,H,a8,Q,aj,br,bW,h=>by
  simp only[hs,Bool.and_eq_true,Bool.not_eq_true']at aj
  obtain⟨⟨⟨aB,ad⟩,g_⟩,al⟩:=aj
  obtain⟨e,fJ⟩:=uw ad
  simp only[dw]at h
  refine yH (h.imp (fun aU a0=>?_) fun aU a0=>?_)
  ·obtain⟨v,ao,CP⟩:=IU (K:=fun v=>dw P r (a4 F d v) G H Q) br fJ g_ bW aU a0
   exact Pq ao (l1 r _ _ _ _ _ Q al (br.nv aB v) (bW.kill d _) CP)
  ·exact l1 r _ _ _ _ _ Q al (br.nv aB undef) (bW.kill d _) a0
 | .bT b g t x y c::r,E,F,G,H,a8,Q,aj,br,bW,h=>by
  simp only[hs,Bool.and_eq_true,beq_iff_eq,Bool.or_false]at aj
  obtain⟨⟨⟨ag,ad⟩,g_⟩,al⟩:=aj
  have ag:b=true:=by simpa using ag
  subst ag
  simp only[dw]at h
  refine yH (h.imp (fun aU a0=>?_) fun aU a0=>?_)
  ·obtain⟨⟨aY,hw⟩,a0⟩:=a0
   obtain⟨eP,ao,eI⟩:=IX (y:=y) br ad g_ bW aU aY hw
   exact Pr ao (l1 r _ _ _ _ _ Q al eI bW a0)
  ·exact l1 r _ _ _ _ _ Q al br bW a0
 | .st b g t x y c off::r,E,F,G,H,a8,Q,aj,br,bW,h=>by
  simp only[hs,Bool.and_eq_true]at aj
  obtain⟨⟨⟨ag,ad⟩,g_⟩,al⟩:=aj
  have ag:b=true:=by simpa using ag
  subst ag
  obtain⟨e,fJ⟩:=uw ad
  simp only[dw]at h
  refine yH (h.imp (fun aU a0=>?_) fun aU a0=>?_)
  ·obtain⟨eP,v,ao,eI,a0⟩:=IW (y:=y) (K:=fun v=>dw P r F (a4 G c v) H Q) br fJ g_ bW aU a0
   exact Pr ao (l1 r _ _ _ _ _ Q al eI bW a0)
  ·exact l1 r _ _ _ _ _ Q al br bW a0
theorem Po{F:Fr}{H:ab}{b cu:Bool}{af W:List Nat}{K:Value->ab->Prop}{op:Op}(av:vi op=true)(h:ga P b F H K op):gG P cu (aq F) H af W (fun v H1 fi fD=>fi=af/\fD=W/\K v H1) op:=by
 have main:jo op=false->(match b3 P (aq F) H op with
   | some (v,H1)=>(hH op=true->b=true)/\K v H1
   | none=>jo op=true/\∃v H1,nI P (aq F) H op v H1/\(b=true\/Ext H H1)/\K v H1)->(match b3 P (aq F) H op with | some (v,H1)=>af=af/\W=W/\K v H1 | none=>False):=by
  intro hm
  cases b3 P (aq F) H op with
  | some p=>exact fun h=>⟨rfl,rfl,h.2⟩
  | none=>intro h;rw[hm]at h;cases h.1
 cases op with
 | load t x=>cases av
 | store t x y=>cases av
 | call c=>
  obtain⟨callee,args,kU⟩:=c
  cases callee with
  | value f=>cases av
  | invoke r m=>exact main rfl h
  | builtin bi=>exact main (by simpa[vi]using av) h
 | _=>exact main (by simpa[vi]using av) h
theorem fv.append:∀{l c_:List bz} {F:Fr} {H:ab} {af W:List Nat} {Q:Fr->ab->Prop} {b:Bool},(∀R∈l,vi R.op=true)->bh P l F H (fun az H1=>fv P c_ az H1 af W Q)->fv P (l++c_) F H af W Q
 | [],c_,F,H,af,W,Q,b,av,h=>h
 | x::l,c_,F,H,af,W,Q,b,av,h=>by
  have J:=av x List.mem_cons_self
  have ar:∀R∈l,vi R.op=true:=fun R aK=>av R (List.mem_cons_of_mem _ aK)
  simp only[List.cons_append,fv]
  simp only[bh]at h
  split
  ·rename_i aU
   rw[aU]at h
   exact gG.mono (fun v H1 fi fD ⟨bk,bg,cV⟩=>by subst bk bg;exact fv.append (b:=b) ar cV) (Po J h)
  ·rename_i j w aU
   rw[aU]at h
   simp only at h
   split
   ·rename_i ag
    rw[if_pos ag]at h
    exact gG.mono (fun v H1 fi fD ⟨bk,bg,cV⟩=>by subst bk bg;exact fv.append (b:=b) ar cV) (Po J h)
   ·rename_i ag
    rw[if_neg ag]at h
    exact fv.append (b:=b) ar h
theorem adY{s f b R off:Nat}{x:Nat}{d:Nat}{r:List bz}{F:Fr}{H:ab}{af W:List Nat}{Q:Fr->ab->Prop}(J:F x= .pointer (some ⟨b,off,none⟩))(ay:fL P s f=some R)(aj:fv P r (a4 F d (.pointer (some ⟨b,off+R,none⟩))) H af W Q):fv P (⟨true,none,some d,.fieldAddr s (.tmp x) f⟩::r) F H af W Q:=by
 have ao:b3 P (aq F) H (.fieldAddr s (.tmp x) f)=some (.pointer (some ⟨b,off+R,none⟩),H):=by simp only[b3,aq,J,ay,Option.map_some]
 simp only[fv,gG,ao]
 exact aj
theorem Pm{t b i:Nat}{x:Operand}{d:Option Nat}{r:List bz}{F:Fr}{H H1:ab}{af W:List Nat}{Q:Fr->ab->Prop}{v:Value}(J:aq F x= .pointer (some ⟨b,i,none⟩))(ur:b∉W)(h:b3 P (aq F) H (.load t x)=some (v,H1))(aj:fv P r (fM F d v) H1 (b::af) W Q):fv P (⟨true,none,d,.load t x⟩::r) F H af W Q:=by
 simp only[fv,gG,J,h]
 exact⟨ur,aj⟩
theorem Pn{l9:Bool}{t b i:Nat}{x y:Operand}{d:Option Nat}{r:List bz}{F:Fr}{H H1:ab}{af W:List Nat}{Q:Fr->ab->Prop}{v:Value}(J:aq F x= .pointer (some ⟨b,i,none⟩))(ur:l9=true\/(b∉W/\b∉af))(h:b3 P (aq F) H (.store t x y)=some (v,H1))(aj:fv P r (fM F d v) H1 af (if l9=true then W else b::W) Q):fv P (⟨l9,none,d,.store t x y⟩::r) F H af W Q:=by
 simp only[fv,gG,J,h]
 exact⟨ur,aj⟩
def oF(C:Cells)(F:Fr)(fU af:List Nat):Prop:=∀b∈af,∃c e,c∈fU/\C.lookup c=some e/\F c= .pointer (some ⟨b,0,none⟩)
theorem oF.not{F G:Fr}{H:ab}{a8:Nat->Option bI}{fU af:List Nat}{c e b:Nat}(h:oF C F fU af)(br:gz P C F G H a8)(ad:C.lookup c=some e)(a5:F c= .pointer (some ⟨b,0,none⟩))(aG:c∉fU):b∉af:=fun ag=>by
 obtain⟨dR,cP,o,aa,aA⟩:=h b ag
 have:dR≠c:=fun e=>aG (e▸o)
 exact br.inj dR c cP e b aa ad this aA a5
theorem oF.cons{F:Fr}{fU af:List Nat}{c e b:Nat}(h:oF C F fU af)(ad:C.lookup c=some e)(a5:F c= .pointer (some ⟨b,0,none⟩)):oF C F (c::fU) (b::af):=fun cu ag=>by
 rcases List.mem_cons.1 ag with rfl | ag
 ·exact⟨c,e,List.mem_cons_self,ad,a5⟩
 ·obtain⟨dR,cP,o,aa,aA⟩:=h cu ag
  exact⟨dR,cP,List.mem_cons_of_mem _ o,aa,aA⟩
theorem oF.congr{F az:Fr}{fU af:List Nat}(h:oF C F fU af)(a5:∀r e,C.lookup r=some e->az r=F r):oF C az fU af:=fun b ag=>by
 obtain⟨c,e,o,aa,aA⟩:=h b ag
 exact⟨c,e,o,aa,by rw[a5 c e aa];exact aA⟩
theorem nw{F:Fr}{d:Nat}{v:Value}(aB:lF C d=false):∀r e,C.lookup r=some e->a4 F d v r=F r:=fun r e al=>iy _ _ (by rintro rfl;simp[lF,al]at aB)
theorem ny:∀(l:List gX) (E:iF) (fU hc af W:List Nat) (F G:Fr) (H:ab) (a8:Nat->Option bI) (Q:Fr->Fr->ab->Prop),hs P C true E l=true->l0 fU hc l=true->oF C F fU af->oF C F hc W->gz P C F G H a8->ij E F->dw P l F G H Q->
  fv P (ql l) F (cw a8 H) af W fun az H1=>∃bD aR eP,H1=cw eP aR/\gz P C az bD aR eP/\Q az bD aR
 | [],E,fU,hc,af,W,F,G,H,a8,Q,aj,gf,iK,hE,br,bW,h=>⟨G,H,a8,rfl,br,h⟩
 | .xs l::r,E,fU,hc,af,W,F,G,H,a8,Q,aj,gf,iK,hE,br,bW,h=>by
  simp only[hs,Bool.and_eq_true]at aj
  simp only[l0,Bool.and_eq_true]at gf
  simp only[ql,gX.back]
  refine fv.append (b:=true) (fun R aK=>List.all_eq_true.1 gf.1 R aK) (bh.mono (fun az H1 cV=>?_) (bh.o8 br.fit (bh.gu h)))
  obtain⟨aF,rfl,ay,aM,a5⟩:=cV
  have wC:∀r e,C.lookup r=some e->az r=F r:=fun r e al=>a5 r fun R aK=>by
   have:=List.all_eq_true.1 aj.1 R aK
   cases aB:R.d with
   | none=>simp
   | some d=>rw[aB]at this;rintro⟨rfl⟩;simp[Cn,lF,al]at this
  exact ny r _ fU hc af W az G aF a8 Q aj.2 gf.2 (iK.congr wC) (hE.congr wC) (br.congr wC ay) (bW.MI a5) aM
 | .bL c e::r,E,fU,hc,af,W,F,G,H,a8,Q,aj,gf,iK,hE,br,bW,h=>by cases gf
 | .cl c e y::r,E,fU,hc,af,W,F,G,H,a8,Q,aj,gf,iK,hE,br,bW,h=>by cases gf
 | .a9 g d s x f c off::r,E,fU,hc,af,W,F,G,H,a8,Q,aj,gf,iK,hE,br,bW,h=>by
  simp only[hs,Bool.and_eq_true,Bool.not_eq_true']at aj
  simp only[l0]at gf
  obtain⟨⟨⟨⟨aB,ad⟩,n3⟩,qW⟩,al⟩:=aj
  obtain⟨e,fJ⟩:=uw ad
  have zV:c≠d:=fun cP=>by subst cP;rw[ad]at aB;cases aB
  simp only[dw]at h
  refine yF (h.imp (fun aU a0=>?_) fun aU a0=>?_)
  ·obtain⟨aY,a0⟩:=a0
   have CM:ij ((d,c,off,g)::kill d E) (a4 F d (o9 (F c) off)):=fun y aL uJ=>by
    rcases List.mem_cons.1 aL with rfl | aL
    ·simp only;rw[j6,iy _ _ zV]
    ·exact bW.kill d _ y aL uJ
   have sJ:=ny r _ fU hc af W _ _ _ _ Q al gf (iK.congr (nw aB)) (hE.congr (nw aB)) (br.nv aB (o9 (F c) off)) CM a0
   obtain⟨b,dm,-⟩:=br.at fJ aY
   obtain⟨R,g7,aK,J⟩:=Js n3 bW aU dm
   refine adY J g7 ?_
   rw[dm]at sJ
   simp only[o9,Nat.zero_add]at sJ
   rw[show off-R+R=off by omega]
   exact sJ
  ·exact ny r _ fU hc af W _ _ _ _ Q al gf (iK.congr (nw aB)) (hE.congr (nw aB)) (br.nv aB undef) (Jr bW qW aU) a0
 | .bQ g d t x c::r,E,fU,hc,af,W,F,G,H,a8,Q,aj,gf,iK,hE,br,bW,h=>by
  simp only[hs,Bool.and_eq_true,Bool.not_eq_true',beq_iff_eq]at aj
  simp only[l0,Bool.and_eq_true,Bool.not_eq_true']at gf
  obtain⟨⟨⟨aB,ad⟩,g_⟩,al⟩:=aj
  simp only[dw]at h
  refine yF (h.imp (fun aU a0=>?_) fun aU a0=>?_)
  ·obtain⟨aY,a0⟩:=a0
   obtain⟨b,dm,-⟩:=br.at ad aY
   exact Pm (i:=0) (qb g_ bW aU dm) (hE.not br ad dm (by simpa using gf.1)) (IV br ad g_ bW aU aY)
    (ny r _ (c::fU) hc _ W _ _ _ _ Q al gf.2 ((iK.cons ad dm).congr (nw aB)) (hE.congr (nw aB)) (br.nv aB (G c)) (bW.kill d _) a0)
  ·refine ny r _ (c::fU) hc af W _ _ _ _ Q al gf.2 (fun b ag=>?_) (hE.congr (nw aB)) (br.nv aB undef) (bW.kill d _) a0
   obtain⟨dR,cP,o,aa⟩:=(iK.congr (nw aB)) b ag
   exact⟨dR,cP,List.mem_cons_of_mem _ o,aa⟩
 | .aI g d t x c off::r,E,fU,hc,af,W,F,G,H,a8,Q,aj,gf,iK,hE,br,bW,h=>by
  simp only[hs,Bool.and_eq_true,Bool.not_eq_true']at aj
  simp only[l0,Bool.and_eq_true,Bool.not_eq_true']at gf
  obtain⟨⟨⟨aB,ad⟩,g_⟩,al⟩:=aj
  obtain⟨e,fJ⟩:=uw ad
  simp only[dw]at h
  refine yF (h.imp (fun aU a0=>?_) fun aU a0=>?_)
  ·obtain⟨b,dm,-⟩:=br.at fJ a0.1
   obtain⟨v,ao,CP⟩:=IU (K:=fun v=>dw P r (a4 F d v) G H Q) br fJ g_ bW aU a0
   exact Pm (i:=off) (qb g_ bW aU dm) (hE.not br fJ dm (by simpa using gf.1)) ao
    (ny r _ (c::fU) hc _ W _ _ _ _ Q al gf.2 ((iK.cons fJ dm).congr (nw aB)) (hE.congr (nw aB)) (br.nv aB v) (bW.kill d _) CP)
  ·refine ny r _ (c::fU) hc af W _ _ _ _ Q al gf.2 (fun b ag=>?_) (hE.congr (nw aB)) (br.nv aB undef) (bW.kill d _) a0
   obtain⟨dR,cP,o,aa⟩:=(iK.congr (nw aB)) b ag
   exact⟨dR,cP,List.mem_cons_of_mem _ o,aa⟩
 | .bT l9 g t x y c::r,E,fU,hc,af,W,F,G,H,a8,Q,aj,gf,iK,hE,br,bW,h=>by
  simp only[hs,Bool.and_eq_true,beq_iff_eq]at aj
  simp only[l0,Bool.and_eq_true,Bool.or_eq_true,Bool.not_eq_true']at gf
  obtain⟨⟨⟨-,ad⟩,g_⟩,al⟩:=aj
  simp only[dw]at h
  refine yF (h.imp (fun aU a0=>?_) fun aU a0=>?_)
  ·obtain⟨⟨aY,hw⟩,a0⟩:=a0
   obtain⟨b,dm,-⟩:=br.at ad aY
   obtain⟨eP,ao,eI⟩:=IX (y:=y) br ad g_ bW aU aY hw
   refine Pn (i:=0) (qb g_ bW aU dm) (gf.1.imp id fun q=>⟨hE.not br ad dm (by simpa using q.1),iK.not br ad dm (by simpa using q.2)⟩) ao
    (ny r _ fU (if l9=true then hc else c::hc) af _ _ _ _ _ Q al gf.2 iK ?_ eI bW a0)
   cases l9 with
   | true=>exact hE
   | false=>exact hE.cons ad dm
  ·refine ny r _ fU (if l9=true then hc else c::hc) af W _ _ _ _ Q al gf.2 iK (fun b ag=>?_) br bW a0
   obtain⟨dR,cP,o,aa⟩:=hE b ag
   cases l9 with
   | true=>exact⟨dR,cP,o,aa⟩
   | false=>exact⟨dR,cP,List.mem_cons_of_mem _ o,aa⟩
 | .st l9 g t x y c off::r,E,fU,hc,af,W,F,G,H,a8,Q,aj,gf,iK,hE,br,bW,h=>by
  simp only[hs,Bool.and_eq_true]at aj
  simp only[l0,Bool.and_eq_true,Bool.or_eq_true,Bool.not_eq_true']at gf
  obtain⟨⟨⟨-,ad⟩,g_⟩,al⟩:=aj
  obtain⟨e,fJ⟩:=uw ad
  simp only[dw]at h
  refine yF (h.imp (fun aU a0=>?_) fun aU a0=>?_)
  ·obtain⟨b,dm,-⟩:=br.at fJ a0.1
   obtain⟨eP,v,ao,eI,a0⟩:=IW (y:=y) (K:=fun v=>dw P r F (a4 G c v) H Q) br fJ g_ bW aU a0
   refine Pn (i:=off) (qb g_ bW aU dm) (gf.1.imp id fun q=>⟨hE.not br fJ dm (by simpa using q.1),iK.not br fJ dm (by simpa using q.2)⟩) ao
    (ny r _ fU (if l9=true then hc else c::hc) af _ _ _ _ _ Q al gf.2 iK ?_ eI bW a0)
   cases l9 with
   | true=>exact hE
   | false=>exact hE.cons fJ dm
  ·refine ny r _ fU (if l9=true then hc else c::hc) af W _ _ _ _ Q al gf.2 iK (fun b ag=>?_) br bW a0
   obtain⟨dR,cP,o,aa⟩:=hE b ag
   cases l9 with
   | true=>exact⟨dR,cP,o,aa⟩
   | false=>exact⟨dR,cP,List.mem_cons_of_mem _ o,aa⟩
theorem nJ.imp{v:Value}{K ef:Array Value->Prop}(h:nJ v K)(aj:∀cs,K cs->ef cs):nJ v ef:=by
 obtain⟨cs,rfl,h⟩:=EX h
 exact aj cs h
theorem eX.imp{α:Type}{R:Option α}{K ef:α->Prop}(h:eX R K)(aj:∀v,K v->ef v):eX R ef:=by
 obtain⟨v,rfl,h⟩:=wm h
 exact aj v h
theorem gm.imp{c K ef:Prop}(h:gm c K)(aj:K->ef):gm c ef:=⟨h.1,aj h.2⟩
theorem hM.imp{b:Bool}{A B vG kM:Prop}(h:hM b A B)(o:A->vG)(aa:B->kM):hM b vG kM:=by
 cases b
 ·exact aa h
 ·exact o h
theorem dw.gu:∀{l:List gX} {m k:Nat} {F G:Fr} {H:ab} {Q cd:Fr->Fr->ab->Prop},(l.all (vZ m k))=true->(∀az bD H1,(∀r,gQ m r=false->az r=F r)->(∀r,gQ k r=false->bD r=G r)->Q az bD H1->cd az bD H1)->dw P l F G H Q->dw P l F G H cd
 | [],m,k,F,G,H,Q,cd,aO,av,h=>av _ _ _ (fun _ _=>rfl) (fun _ _=>rfl) h
 | i::l,m,k,F,G,H,Q,cd,aO,av,h=>by
  simp only[List.all_cons,Bool.and_eq_true]at aO
  have qi:∀{d:Nat} {v:Value} {yL:Fr} {aF:ab},gQ m d=true->(∀r,gQ k r=false->yL r=G r)->dw P l (a4 F d v) yL aF Q->dw P l (a4 F d v) yL aF cd:=fun{d v yL aF} aB eO o=>
   dw.gu aO.2 (fun az bD H1 f1 cj=>av az bD H1 (fun r al=>by rw[f1 r al,iy];rintro rfl;rw[aB]at al;cases al) (fun r al=>by rw[cj r al,eO r al])) o
  have O2:∀{c:Nat} {v:Value} {aF:ab},gQ k c=true->dw P l F (a4 G c v) aF Q->dw P l F (a4 G c v) aF cd:=fun{c v aF} ad o=>
   dw.gu aO.2 (fun az bD H1 f1 cj=>av az bD H1 f1 (fun r al=>by rw[cj r al,iy];rintro rfl;rw[ad]at al;cases al)) o
  have Nb:∀{c:Nat} {v:Value},gQ k c=true->∀r,gQ k r=false->a4 G c v r=G r:=fun{c v} ad r al=>iy _ _ (by rintro rfl;rw[ad]at al;cases al)
  cases i with
  | xs adX=>
   simp only[dw]at h⊢
   refine bh.mono (fun az H1 ⟨o,a5⟩=>dw.gu aO.2 (fun bU dp aR f2 jv=>av bU dp aR (fun r al=>?_) jv) o) (bh.gu h)
   rw[f2 r al,a5 r fun R aK aB=>?_]
   have:=List.all_eq_true.1 aO.1 R aK
   rw[aB]at this
   simp only[Ji]at this
   rw[this]at al
   cases al
  | bL c e=>
   simp only[vZ,Bool.and_eq_true]at aO
   simp only[dw]at h⊢
   exact h.imp fun z aM=>aM.imp (qi aO.1.1 (Nb aO.1.2))
  | cl c e y=>
   simp only[vZ,Bool.and_eq_true]at aO
   simp only[dw]at h⊢
   exact h.imp (qi aO.1.1 (Nb aO.1.2))
  | a9 g d s x f c off=>
   simp only[dw]at h⊢
   exact h.imp (fun _ q=>q.imp (qi aO.1 fun _ _=>rfl)) fun _=>qi aO.1 fun _ _=>rfl
  | bQ g d t x c=>
   simp only[dw]at h⊢
   exact h.imp (fun _ q=>q.imp (qi aO.1 fun _ _=>rfl)) fun _=>qi aO.1 fun _ _=>rfl
  | aI g d t x c off=>
   simp only[dw]at h⊢
   exact h.imp (fun _ q=>q.imp fun q=>q.imp fun cs q=>q.imp fun a q=>q.imp (fun q=>q.imp fun n q=>q.imp (qi aO.1 fun _ _=>rfl)) fun q=>q.imp fun v=>qi aO.1 fun _ _=>rfl) fun _=>qi aO.1 fun _ _=>rfl
  | bT b g t x y c=>
   simp only[dw]at h⊢
   exact h.imp (fun _ q=>q.imp (O2 aO.1)) fun _=>dw.gu aO.2 av
  | st b g t x y c off=>
   simp only[dw]at h⊢
   exact h.imp (fun _ q=>q.imp fun q=>q.imp fun cs q=>q.imp (O2 aO.1)) fun _=>dw.gu aO.2 av
theorem eS.gu:∀{x:eR} {m k:Nat} {F G:Fr} {H:ab} {Q cd:dH->Fr->Fr->ab->Prop},kb m k x=true->(∀e az bD H1,(∀r,gQ m r=false->az r=F r)->(∀r,gQ k r=false->bD r=G r)->Q e az bD H1->cd e az bD H1)->eS P x F G H Q->eS P x F G H cd
 | .skip,m,k,F,G,H,Q,cd,aO,av,h=>av _ _ _ _ (fun _ _=>rfl) (fun _ _=>rfl) h
 | .ret,m,k,F,G,H,Q,cd,aO,av,h=>av _ _ _ _ (fun _ _=>rfl) (fun _ _=>rfl) h
 | .exit id,m,k,F,G,H,Q,cd,aO,av,h=>av _ _ _ _ (fun _ _=>rfl) (fun _ _=>rfl) h
 | .seq x y,m,k,F,G,H,Q,cd,aO,av,h=>by
  simp only[kb,Bool.and_eq_true]at aO
  refine eS.gu (x:=x) aO.1 (fun e az bD H1 f1 cj o=>?_) h
  cases e with
  | normal=>exact eS.gu (x:=y) aO.2 (fun e bU dp aR f2 jv=>av e bU dp aR (fun r al=>by rw[f2 r al,f1 r al]) (fun r al=>by rw[jv r al,cj r al])) o
  | exit id=>exact av _ _ _ _ f1 cj o
  | ret=>exact av _ _ _ _ f1 cj o
 | .cond c x y,m,k,F,G,H,Q,cd,aO,av,h=>by
  simp only[kb,Bool.and_eq_true]at aO
  simp only[eS]at h⊢
  cases an:aq F c<;>rw[an]at h<;>try exact h.elim
  rename_i b
  cases b with
  | true=>exact eS.gu (x:=x) aO.1 av h
  | false=>exact eS.gu (x:=y) aO.2 av h
 | .block id x,m,k,F,G,H,Q,cd,aO,av,h=>by
  simp only[kb]at aO
  refine eS.gu (x:=x) aO (fun e az bD H1 f1 cj o=>?_) h
  cases e with
  | normal=>exact av _ _ _ _ f1 cj o
  | ret=>exact av _ _ _ _ f1 cj o
  | exit hG=>
   simp only[qz]at o⊢
   split
   ·rename_i ae;rw[if_pos ae]at o;exact av _ _ _ _ f1 cj o
   ·rename_i ae;rw[if_neg ae]at o;exact av _ _ _ _ f1 cj o
 | .loop mz b5 x,m,k,F,G,H,Q,cd,aO,av,h=>by
  simp only[kb]at aO
  simp only[eS]at h⊢
  induction h with
  | round ai ag eu a2=>
   rename_i Px Pz cx
   refine .round (fun az bD H1=>ai az bD H1/\(∀r,gQ m r=false->az r=Px r)/\∀r,gQ k r=false->bD r=Pz r) (eS.gu (x:=x) aO (fun e az bD H1 f1 cj o=>?_) ag) ?_
   ·cases e with
    | normal=>exact⟨o,f1,cj⟩
    | exit id=>exact av _ _ _ _ f1 cj o
    | ret=>exact av _ _ _ _ f1 cj o
   ·rintro az bD H1 ⟨o,f1,cj⟩
    exact a2 az bD H1 o fun e bU dp aR f2 jv=>av e bU dp aR (fun r al=>by rw[f2 r al,f1 r al]) (fun r al=>by rw[jv r al,cj r al])
 | .box mz b5 x,m,k,F,G,H,Q,cd,aO,av,h=>eS.gu (x:=x) aO av h
 | .ops l,m,k,F,G,H,Q,cd,aO,av,h=>dw.gu aO (fun az bD H1=>av _ az bD H1) h
 | .opsL l,m,k,F,G,H,Q,cd,aO,av,h=>dw.gu aO (fun az bD H1=>av _ az bD H1) h
theorem dw.mono:∀{l:List gX} {F G:Fr} {H:ab} {Q cd:Fr->Fr->ab->Prop},(∀F G H,Q F G H->cd F G H)->dw P l F G H Q->dw P l F G H cd
 | [],F,G,H,Q,cd,av,h=>av _ _ _ h
 | i::l,F,G,H,Q,cd,av,h=>by
  have a2:∀{F G:Fr} {H:ab},dw P l F G H Q->dw P l F G H cd:=dw.mono av
  cases i<;>simp only[dw]at h⊢
  case xs adX=>exact bh.mono (fun az H1=>a2) h
  case bL=>exact h.imp fun z aM=>aM.imp a2
  case cl=>exact h.imp a2
  case a9=>exact h.imp (fun _ q=>q.imp a2) fun _=>a2
  case bQ=>exact h.imp (fun _ q=>q.imp a2) fun _=>a2
  case aI=>exact h.imp (fun _ q=>q.imp fun q=>q.imp fun cs q=>q.imp fun a q=>q.imp (fun q=>q.imp fun n q=>q.imp a2) fun q=>q.imp fun v=>a2) fun _=>a2
  case bT=>exact h.imp (fun _ q=>q.imp a2) fun _=>a2
  case st=>exact h.imp (fun _ q=>q.imp fun q=>q.imp fun cs q=>q.imp a2) fun _=>a2
theorem eS.mono:∀{x:eR} {F G:Fr} {H:ab} {Q cd:dH->Fr->Fr->ab->Prop},(∀e F G H,Q e F G H->cd e F G H)->eS P x F G H Q->eS P x F G H cd
 | .skip,F,G,H,Q,cd,av,h=>av _ _ _ _ h
 | .ret,F,G,H,Q,cd,av,h=>av _ _ _ _ h
 | .exit id,F,G,H,Q,cd,av,h=>av _ _ _ _ h
 | .seq x y,F,G,H,Q,cd,av,h=>by
  refine eS.mono (x:=x) (fun e az bD H1 o=>?_) h
  cases e with
  | normal=>exact eS.mono (x:=y) av o
  | exit id=>exact av _ _ _ _ o
  | ret=>exact av _ _ _ _ o
 | .cond c x y,F,G,H,Q,cd,av,h=>by
  simp only[eS]at h⊢
  cases an:aq F c<;>rw[an]at h<;>try exact h.elim
  rename_i b
  cases b with
  | true=>exact eS.mono (x:=x) av h
  | false=>exact eS.mono (x:=y) av h
 | .block id x,F,G,H,Q,cd,av,h=>by
  refine eS.mono (x:=x) (fun e az bD H1 o=>?_) h
  cases e with
  | normal=>exact av _ _ _ _ o
  | ret=>exact av _ _ _ _ o
  | exit hG=>
   simp only[qz]at o⊢
   split
   ·rename_i ae;rw[if_pos ae]at o;exact av _ _ _ _ o
   ·rename_i ae;rw[if_neg ae]at o;exact av _ _ _ _ o
 | .loop mz b5 x,F,G,H,Q,cd,av,h=>by
  simp only[eS]at h⊢
  induction h with
  | round ai ag eu a2=>
   refine .round ai (eS.mono (x:=x) (fun e az bD H1 o=>?_) ag) a2
   cases e with
   | normal=>exact o
   | exit id=>exact av _ _ _ _ o
   | ret=>exact av _ _ _ _ o
 | .box mz b5 x,F,G,H,Q,cd,av,h=>eS.mono (x:=x) av h
 | .ops l,F,G,H,Q,cd,av,h=>dw.mono (fun az bD H1=>av _ az bD H1) h
 | .opsL l,F,G,H,Q,cd,av,h=>dw.mono (fun az bD H1=>av _ az bD H1) h
theorem rQ:∀(z:eR) (F G:Fr) (H:ab) (a8:Nat->Option bI) (Q:dH->Fr->Fr->ab->Prop),kp P C z=true->gz P C F G H a8->eS P z F G H Q->
  ez P z.back F (cw a8 H) fun e az H1=>∃bD aR eP,H1=cw eP aR/\gz P C az bD aR eP/\Q e az bD aR
 | .skip,F,G,H,a8,Q,aj,br,h=>⟨G,H,a8,rfl,br,h⟩
 | .ret,F,G,H,a8,Q,aj,br,h=>⟨G,H,a8,rfl,br,h⟩
 | .exit id,F,G,H,a8,Q,aj,br,h=>⟨G,H,a8,rfl,br,h⟩
 | .seq x y,F,G,H,a8,Q,aj,br,h=>by
  simp only[kp,Bool.and_eq_true]at aj
  refine ez.mono (x:=x.back) (fun e az H1 ⟨bD,aR,eP,bk,eI,av⟩=>?_) (rQ x F G H a8 _ aj.1 br h)
  cases e with
  | normal=>rw[bk];exact rQ y az bD aR eP Q aj.2 eI av
  | exit id=>exact⟨bD,aR,eP,bk,eI,av⟩
  | ret=>exact⟨bD,aR,eP,bk,eI,av⟩
 | .cond c x y,F,G,H,a8,Q,aj,br,h=>by
  simp only[kp,Bool.and_eq_true]at aj
  simp only[eS]at h
  simp only[eR.back,ez]
  cases an:aq F c<;>rw[an]at h<;>try exact h.elim
  rename_i b
  cases b with
  | true=>exact rQ x F G H a8 Q aj.1 br h
  | false=>exact rQ y F G H a8 Q aj.2 br h
 | .block id x,F,G,H,a8,Q,aj,br,h=>by
  simp only[kp]at aj
  refine ez.mono (x:=x.back) (fun e az H1 ⟨bD,aR,eP,bk,eI,av⟩=>?_) (rQ x F G H a8 _ aj br h)
  cases e with
  | normal=>exact⟨bD,aR,eP,bk,eI,av⟩
  | exit hG=>
   simp only[qz]at av
   simp only[pt]
   split
   ·rename_i ae;rw[if_pos ae]at av;exact⟨bD,aR,eP,bk,eI,av⟩
   ·rename_i ae;rw[if_neg ae]at av;exact⟨bD,aR,eP,bk,eI,av⟩
  | ret=>exact⟨bD,aR,eP,bk,eI,av⟩
 | .loop m k x,F,G,H,a8,Q,aj,br,h=>by
  simp only[kp,Bool.and_eq_true]at aj
  simp only[eS]at h
  simp only[eR.back,ez]
  induction h generalizing a8 with
  | round ai ag eu a2=>
   refine .round (fun az H1=>∃bD aR eP,H1=cw eP aR/\gz P C az bD aR eP/\ai az bD aR) (ez.mono (x:=x.back) (fun e az H1 ⟨bD,aR,eP,bk,eI,av⟩=>?_) (rQ x _ _ _ a8 _ aj.2 br ag)) ?_
   ·rintro az H1 ⟨bD,aR,eP,bk,eI,av⟩
    rw[bk]
    exact a2 az bD aR av eP eI
   ·cases e with
    | normal=>exact⟨bD,aR,eP,bk,eI,av⟩
    | exit id=>exact⟨bD,aR,eP,bk,eI,av⟩
    | ret=>exact⟨bD,aR,eP,bk,eI,av⟩
 | .box m k x,F,G,H,a8,Q,aj,br,h=>by
  simp only[kp,Bool.and_eq_true]at aj
  exact rQ x F G H a8 Q aj.2 br h
 | .ops l,F,G,H,a8,Q,aj,br,h=>l1 l [] F G H a8 _ aj br (ij.nil F) h
 | .opsL l,F,G,H,a8,Q,aj,br,h=>by
  simp only[kp,Bool.and_eq_true]at aj
  exact ny l [] [] [] [] [] F G H a8 _ aj.1 aj.2 (fun b ag=>by simp at ag) (fun b ag=>by simp at ag) br (ij.nil F) h
theorem BN{F G:Fr}{H:ab}{a8:Nat->Option bI}(br:gz P C F G H a8):∀(rs:List jM) (K:List Value->Prop),tn C rs=true->oH F G rs K->ka P F (cw a8 H) (rs.map jM.back) K
 | [],K,aj,h=>h
 | .tmp i::rs,K,aj,h=>BN br rs _ (by simpa[tn]using aj) h
 | .cell a ty::rs,K,aj,h=>by
  simp only[tn,List.all_cons,Bool.and_eq_true,beq_iff_eq]at aj
  obtain⟨aY,h⟩:=h
  obtain⟨b,dm,fZ,⟨a7,iA,cH⟩,gC,iv⟩:=br.at aj.1 aY
  have a2:=BN br rs (fun aD=>K (G a::aD)) (by simpa[tn]using aj.2) h
  simp only[List.map_cons,jM.back,ka,dm]
  have ad:iG (cw a8 H) b=some (G a).cells.toList:=by unfold iG;rw[gC];rfl
  rw[ad]
  simp only
  split at cH
  ·rename_i aO
   rw[cH]
   simp only[a7]
   refine⟨by simp,?_⟩
   have:(((G a).cells.toList.drop 0).take (G a).cells.size)=(G a).cells.toList:=by rw[List.drop_zero,List.take_of_length_le (by simp)]
   rw[this]
   simp only[Array.toArray_toList]
   rw[<-vT aO]
   exact a2
  ·rw[cH.1]
   simp only
   rw[cH.2]
   exact a2
def lA(a8:Nat->Option bI)(n:Nat):Nat->Option bI:=fun b=>if b<n then none else a8 b
theorem MH{f:FuncId}{args:List Value}{v:Value}{H H1:ab}{a8:Nat->Option bI}(ay:Fit a8 H1)(h:dX P (.call f args H) (.val v (cw a8 H1))):∀n,dX P (.call f args H) (.val v (cw (lA a8 n) H1))
 | 0=>by
  have:lA a8 0=a8:=by funext b;simp[lA]
  rw[this];exact h
 | n+1=>by
  have a2:=MH ay h n
  cases aY:a8 n with
  | none=>
   have:lA a8 (n+1)=lA a8 n:=by
    funext b
    unfold lA
    by_cases ag:b=n
    ·subst ag;simp[aY]
    ·by_cases a6:b<n
     ·rw[if_pos (by omega),if_pos a6]
     ·rw[if_neg (by omega),if_neg a6]
   rw[this];exact a2
  | some x=>
   obtain⟨aB,e,l,cs,J⟩:=ay n x aY
   have a6:=ay.lt aY
   have jy:(cw (lA a8 n) H1)[n]?=some (.own e l cs):=by
    rw[kI,aB]
    simp[lA,aY,J]
   have aa:=dX.y5 a2 ⟨e,l,cs,jy⟩
   have:(cw (lA a8 n) H1).set n .dead=cw (lA a8 (n+1)) H1:=by
    apply List.ext_getElem?
    intro b
    by_cases ag:n=b
    ·subst ag
     rw[List.getElem?_set_self (by rw[j4];exact a6),kI,aB]
     simp[lA]
    ·rw[List.getElem?_set_ne ag,kI,kI]
     congr 1
     funext y
     unfold lA
     by_cases ar:b<n
     ·rw[if_pos ar,if_pos (by omega)]
     ·rw[if_neg ar,if_neg (by omega)]
   rw[<-this];exact aa
theorem QA{H1:ab}{a8:Nat->Option bI}(ay:Fit a8 H1):cw (lA a8 H1.length) H1=H1:=by
 apply List.ext_getElem?
 intro b
 rw[kI]
 by_cases ag:b<H1.length
 ·simp[lA,ag]
 ·rw[List.getElem?_eq_none (by omega)];rfl
theorem aP.aeG{f:FuncId}{fn:Func}{z:cM}{args:List Value}{H:ab}{Q:Value->ab->Prop}(ay:P.funcs[f]?=some fn)(aG:(fn.name== "runtime.NumGoroutine")=false)(ad:comp P fn=some z.back)(aM:(kp P C z.code&&tn C z.results)=true)
  (ar:args.length<=fn.ntmps)(wx:(C.all fun p=>decide (args.length<=p.1))=true)(h:eS P z.code (jt args) (fun _=>undef) H (yb z.results Q)):aP P f args H Q:=by
 simp only[Bool.and_eq_true]at aM
 have Al:cw (fun _=>none) H=H:=by
  apply List.ext_getElem?
  intro b
  rw[kI]
  cases H[b]?<;>rfl
 have br:gz P C (jt args) (fun _=>undef) H (fun _=>none):=by
  have hu:∀r e,C.lookup r=some e->jt args r=undef:=fun r e al=>by
   have:=of_decide_eq_true (List.all_eq_true.1 wx _ (EL al))
   simp only at this
   unfold jt
   rw[List.getD_eq_getElem?_getD,List.getElem?_eq_none this]
   rfl
  exact⟨fun b x ag=>(by cases ag),fun r e al=> .inl (hu r e al),fun r dP e cP b al fx cN a5=>by rw[hu r e al]at a5;cases a5⟩
 have J:=rQ z.code _ _ _ _ _ aM.1 br h
 rw[Al]at J
 obtain⟨v,H1,o,aa,aA⟩:=aP.MC (Q:=fun v H1=>∃eP aR,H1=cw eP aR/\Fit eP aR/\Q v aR) ay aG ad ar (ez.mono (x:=z.code.back) (fun e az H1 ⟨bD,aR,eP,bk,eI,av⟩=>by
  cases e with
  | normal=>
   rw[bk]
   simp only[qc]
   refine BN eI _ _ aM.2 ?_
   have:∀(rs:List jM) (K ef:List Value->Prop),(∀aD,K aD->ef aD)->oH az bD rs K->oH az bD rs ef:=by
    intro rs
    induction rs with
    | nil=>intro K ef aj h;exact aj _ h
    | cons r rs a2=>
     intro K ef aj h
     cases r with
     | tmp i=>exact a2 _ _ (fun aD=>aj _) h
     | cell a ty=>exact⟨h.1,a2 _ _ (fun aD=>aj _) h.2⟩
   exact this _ _ _ (fun aD an=>⟨eP,aR,rfl,eI.fit,an⟩) av
  | exit id=>exact av
  | ret=>
   rw[bk]
   simp only[qc]
   refine BN eI _ _ aM.2 ?_
   have:∀(rs:List jM) (K ef:List Value->Prop),(∀aD,K aD->ef aD)->oH az bD rs K->oH az bD rs ef:=by
    intro rs
    induction rs with
    | nil=>intro K ef aj h;exact aj _ h
    | cons r rs a2=>
     intro K ef aj h
     cases r with
     | tmp i=>exact a2 _ _ (fun aD=>aj _) h
     | cell a ty=>exact⟨h.1,a2 _ _ (fun aD=>aj _) h.2⟩
   exact this _ _ _ (fun aD an=>⟨eP,aR,rfl,eI.fit,an⟩) av) J)
 obtain⟨eP,aR,rfl,bw,aE⟩:=aA
 have:=MH bw aa aR.length
 rw[QA bw]at this
 exact⟨v,aR,.inl ⟨o,this⟩,aE⟩
end
def eb(P:Program)(l:List gX)(Q:Fr->Fr->ab->Prop)(ax:ba l Q)(F G:Fr)(H:ab):Prop:=dw P l F G H Q
def cc(P:Program)(x:eR)(Q:dH->Fr->Fr->ab->Prop)(ax:ba x Q)(F G:Fr)(H:ab):Prop:=eS P x F G H Q
def r3(rs:List jM)(K:List Value->Prop)(ax:ba rs K)(F G:Fr):Prop:=oH F G rs K
def dF(P:Program)(m k:Nat)(x:eR)(Q:dH->Fr->Fr->ab->Prop)(ax:ba x Q)(F G:Fr)(H:ab):Prop:=vK (eS P x) Q F G H
def cO(P:Program)(e:Nat)(K:Prop)(ax:ba K K)(v:Value):Prop:=gm (Whole P e v) K
theorem cO.mk{P:Program}{e:Nat}{K:Prop}{ax:ba K K}{v:Value}(h:Whole P e v)(aj:K):cO P e K ax v:=⟨h,aj⟩
section
variable {P:Program} {F G:Fr} {H:ab}
@[simp] theorem ae5{e:Nat}{K:Prop}(ax:ba K K)(cs:Array Value):cO P e K ax (.agg cs)=dE K .mk (ds P e=some true/\bq P e=some cs.size/\(cs.toList.all (·.oneCell'))=true):=by
 apply propext
 constructor
 ·rintro⟨⟨o,aa,aA⟩,aj⟩;exact⟨⟨by simpa[e3]using aA,o,aa⟩,aj⟩
 ·rintro⟨⟨o,aa,aA⟩,aj⟩;exact⟨⟨aa,aA,by simpa[e3]using o⟩,aj⟩
variable {r:List gX} {Q:Fr->Fr->ab->Prop}
@[simp] theorem ac0(ax:ba ([]:List gX) Q):eb P [] Q ax F G H=Q F G H:=rfl
@[simp] theorem ac1(l:List bz)(ax:ba (.xs l::r) Q):eb P (.xs l::r) Q ax F G H=a_ P l (fun az H1=>eb P r Q .mk az G H1) .mk F H:=rfl
theorem rM{c e:Nat}{z:Value}(aM:dA P e=some z)(dS:flat z=true)(hw:Whole P e z)(ax:ba (.bL c e::r) Q):eb P (.bL c e::r) Q ax F G H=eb P r Q .mk (a4 F c (.pointer (some ⟨H.length,0,none⟩))) (a4 G c z) (H++[.dead]):=by
 simp[eb,dw,aM,eX,gm,dS,hw]
@[simp] theorem ajg(c e:Nat)(y:Operand)(ax:ba (.cl c e y::r) Q):eb P (.cl c e y::r) Q ax F G H=cO P e (eb P r Q .mk (a4 F c (.pointer (some ⟨H.length,0,none⟩))) (a4 G c (aq F y)) (H++[.dead])) .mk (aq F y):=rfl
@[simp] theorem ajh(d s x f c off:Nat)(ax:ba (.a9 none d s x f c off::r) Q):eb P (.a9 none d s x f c off::r) Q ax F G H=dE (eb P r Q .mk (a4 F d (o9 (F c) off)) G H) .mk (j1 (F c)=true):=rfl
@[simp] theorem aji(j:Nat)(w:Bool)(d s x f c off:Nat)(ax:ba (.a9 (some (j,w)) d s x f c off::r) Q):eb P (.a9 (some (j,w)) d s x f c off::r) Q ax F G H=oA (eb P (.a9 none d s x f c off::r) Q .mk F G H) (eb P r Q .mk (a4 F d undef) G H) .mk (hg (F j)) w:=rfl
@[simp] theorem ajl(d t x c:Nat)(ax:ba (.bQ none d t x c::r) Q):eb P (.bQ none d t x c::r) Q ax F G H=dE (eb P r Q .mk (a4 F d (G c)) G H) .mk (j1 (F c)=true):=rfl
@[simp] theorem ajm(j:Nat)(w:Bool)(d t x c:Nat)(ax:ba (.bQ (some (j,w)) d t x c::r) Q):eb P (.bQ (some (j,w)) d t x c::r) Q ax F G H=oA (eb P (.bQ none d t x c::r) Q .mk F G H) (eb P r Q .mk (a4 F d undef) G H) .mk (hg (F j)) w:=rfl
@[simp] theorem ajj(d t x c off:Nat)(ax:ba (.aI none d t x c off::r) Q):eb P (.aI none d t x c off::r) Q ax F G H=dE (yS (fun cs=>fT (fun a=>bH (fT (fun n=>dE (eb P r Q .mk (a4 F d (.agg ((cs.toList.drop off).take n).toArray)) G H) .mk (off+n<=cs.size)) .mk (bq P t)) (fT (fun v=>eb P r Q .mk (a4 F d v) G H) .mk cs.toList[off]?) .mk a) .mk (ds P t)) .mk (G c)) .mk (j1 (F c)=true):=rfl
@[simp] theorem ajk(j:Nat)(w:Bool)(d t x c off:Nat)(ax:ba (.aI (some (j,w)) d t x c off::r) Q):eb P (.aI (some (j,w)) d t x c off::r) Q ax F G H=oA (eb P (.aI none d t x c off::r) Q .mk F G H) (eb P r Q .mk (a4 F d undef) G H) .mk (hg (F j)) w:=rfl
@[simp] theorem ajp(b:Bool)(t x c:Nat)(y:Operand)(ax:ba (.bT b none t x y c::r) Q):eb P (.bT b none t x y c::r) Q ax F G H=dE (cO P t (eb P r Q .mk F (a4 G c (aq F y)) H) .mk (aq F y)) .mk (j1 (F c)=true):=by
 simp[eb,dw,mQ,dE,cO,gm,and_assoc]
@[simp] theorem ajq(b:Bool)(j:Nat)(w:Bool)(t x c:Nat)(y:Operand)(ax:ba (.bT b (some (j,w)) t x y c::r) Q):eb P (.bT b (some (j,w)) t x y c::r) Q ax F G H=oA (eb P (.bT b none t x y c::r) Q .mk F G H) (eb P r Q .mk F G H) .mk (hg (F j)) w:=rfl
@[simp] theorem ajn(b:Bool)(t x c off:Nat)(y:Operand)(ax:ba (.st b none t x y c off::r) Q):eb P (.st b none t x y c off::r) Q ax F G H=dE (yS (fun cs=>dE (eb P r Q .mk F (a4 G c (.agg (lX cs.toList off (aq F y).cells.toList).toArray)) H) .mk (bq P t=some (aq F y).cells.size/\off+(aq F y).cells.size<=cs.size/\((aq F y).cells.toList.all (·.oneCell'))=true)) .mk (G c)) .mk (j1 (F c)=true):=rfl
@[simp] theorem ajo(b:Bool)(j:Nat)(w:Bool)(t x c off:Nat)(y:Operand)(ax:ba (.st b (some (j,w)) t x y c off::r) Q):eb P (.st b (some (j,w)) t x y c off::r) Q ax F G H=oA (eb P (.st b none t x y c off::r) Q .mk F G H) (eb P r Q .mk F G H) .mk (hg (F j)) w:=rfl
end
def mix(m:Nat)(F az:Fr):Fr:=fun r=>if(m>>>r) % 2=1 then az r else F r
@[simp] theorem jn(m:Nat)(F az:Fr)(r:Nat):mix m F az r=if(m>>>r) % 2=1 then az r else F r:=rfl
theorem rl{m:Nat}{F az:Fr}(h:∀r,gQ m r=false->az r=F r):az=mix m F az:=by
 funext r
 simp only[mix]
 split
 ·rfl
 ·rename_i al;exact h r (by simpa[gQ]using al)
section
variable {P:Program} {F G:Fr} {H:ab} {Q:dH->Fr->Fr->ab->Prop}
@[simp] theorem ac7(ax:ba (eR.skip) Q):cc P .skip Q ax F G H=Q .normal F G H:=rfl
@[simp] theorem ajv(ax:ba (eR.ret) Q):cc P .ret Q ax F G H=Q .ret F G H:=rfl
@[simp] theorem ac4(id:Nat)(ax:ba (eR.exit id) Q):cc P (.exit id) Q ax F G H=Q (.exit id) F G H:=rfl
@[simp] theorem mE(x y:eR)(ax:ba (eR.seq x y) Q):cc P (.seq x y) Q ax F G H=cc P x (mC (fun az bD H1=>cc P y Q .mk az bD H1) Q) .mk F G H:=rfl
@[simp] theorem ac3(c:Operand)(x y:eR)(ax:ba (eR.cond c x y) Q):cc P (.cond c x y) Q ax F G H=yR (fun b=>bH (cc P x Q .mk F G H) (cc P y Q .mk F G H) .mk b) .mk (aq F c):=rfl
@[simp] theorem ac2(id:Nat)(x:eR)(ax:ba (eR.block id x) Q):cc P (.block id x) Q ax F G H=cc P x (qz id Q) .mk F G H:=rfl
@[simp] theorem ac5(m k:Nat)(x:eR)(ax:ba (eR.loop m k x) Q):cc P (.loop m k x) Q ax F G H=dF P m k x Q .mk F G H:=rfl
@[simp] theorem ac6(l:List gX)(ax:ba (eR.ops l) Q):cc P (.ops l) Q ax F G H=eb P l (fun az bD H1=>Q .normal az bD H1) .mk F G H:=rfl
@[simp] theorem aju(l:List gX)(ax:ba (eR.opsL l) Q):cc P (.opsL l) Q ax F G H=eb P l (fun az bD H1=>Q .normal az bD H1) .mk F G H:=rfl
@[simp] theorem ajs{K:List Value->Prop}(ax:ba ([]:List jM) K):r3 [] K ax F G=K []:=rfl
@[simp] theorem ajt{K:List Value->Prop}(i:Nat)(rs:List jM)(ax:ba (.tmp i::rs) K):r3 (.tmp i::rs) K ax F G=r3 rs (fun aD=>K (F i::aD)) .mk F G:=rfl
@[simp] theorem ajr{K:List Value->Prop}(a ty:Nat)(rs:List jM)(ax:ba (.cell a ty::rs) K):r3 (.cell a ty::rs) K ax F G=dE (r3 rs (fun aD=>K (G a::aD)) .mk F G) .mk (j1 (F a)=true):=rfl
@[simp] theorem aiQ{rs:List jM}{af:Value->ab->Prop}:yb rs af .normal F G H=r3 rs (fun aD=>af (bf aD) H) .mk F G:=rfl
@[simp] theorem aiR{rs:List jM}{af:Value->ab->Prop}:yb rs af .ret F G H=r3 rs (fun aD=>af (bf aD) H) .mk F G:=rfl
@[simp] theorem N6{K:Fr->Fr->ab->Prop}:mC K Q .normal F G H=K F G H:=rfl
@[simp] theorem aiG{K:Fr->Fr->ab->Prop}:mC K Q .ret F G H=Q .ret F G H:=rfl
@[simp] theorem Z0{K:Fr->Fr->ab->Prop}(id:Nat):mC K Q (.exit id) F G H=Q (.exit id) F G H:=rfl
@[simp] theorem afJ(id:Nat):qz id Q .normal F G H=Q .normal F G H:=rfl
@[simp] theorem afK(id:Nat):qz id Q .ret F G H=Q .ret F G H:=rfl
@[simp] theorem afI(id hG:Nat):qz id Q (.exit hG) F G H=if hG=id then Q .normal F G H else Q (.exit hG) F G H:=rfl
theorem dF.mk{m k:Nat}{x:eR}{ax:ba x Q}(aO:kb m k x=true)(ai:Nat->Fr->Fr->ab->Prop)(n:Nat)(aH:ai n F G H)
  (round:∀n az bD H1,ai n (mix m F az) (mix k G bD) H1->∀K:Fr->Fr->ab->Prop,(∀dU bU dp aR,dU<n->ai dU bU dp aR->K bU dp aR)->cc P x (mC K Q) .mk (mix m F az) (mix k G bD) H1):dF P m k x Q ax F G H:=by
 have main:∀n az bD H1,(∀r,gQ m r=false->az r=F r)->(∀r,gQ k r=false->bD r=G r)->ai n az bD H1->vK (eS P x) Q az bD H1:=by
  intro n
  induction n using Nat.strongRecOn with
  | _ n a2=>
   intro az bD H1 a5 eO eu
   have al:eS P x az bD H1 (mC (fun bU dp aR=>∃dU,dU<n/\ai dU bU dp aR) Q):=by
    have:=round n az bD H1 (by rw[<-rl a5,<-rl eO];exact eu) (fun bU dp aR=>∃dU,dU<n/\ai dU bU dp aR) fun dU bU dp aR o aa=>⟨dU,o,aa⟩
    rw[<-rl a5,<-rl eO]at this
    exact this
   refine .round (fun bU dp aR=>(∃dU,dU<n/\ai dU bU dp aR)/\(∀r,gQ m r=false->bU r=az r)/\∀r,gQ k r=false->dp r=bD r) (eS.gu (x:=x) aO (fun e bU dp aR f2 jv aa=>?_) al) ?_
   ·cases e with
    | normal=>exact⟨aa,f2,jv⟩
    | exit id=>exact aa
    | ret=>exact aa
   ·rintro bU dp aR ⟨⟨dU,o,aa⟩,f2,jv⟩
    exact a2 dU o bU dp aR (fun r al=>by rw[f2 r al,a5 r al]) (fun r al=>by rw[jv r al,eO r al]) aa
 exact main n F G H (fun _ _=>rfl) (fun _ _=>rfl) aH
def PE(af:Fr->Fr->ab->Prop):dH->Fr->Fr->ab->Prop
 | .normal,F,G,H=>af F G H
 | _,_,_,_=>False
@[simp] theorem aeY(af:Fr->Fr->ab->Prop):PE af .normal F G H=af F G H:=rfl
theorem vu(m k:Nat)(x:eR)(ax:ba (eR.box m k x) Q):cc P (.box m k x) Q ax F G H=cc P x Q .mk F G H:=rfl
theorem cc.join{m k:Nat}{x:eR}{K:Fr->Fr->ab->Prop}{ax:ba (eR.box m k x) (mC K Q)}(aO:kb m k x=true)(af:Fr->Fr->ab->Prop)(o:∀ef:dH->Fr->Fr->ab->Prop,(∀az bD H1,af az bD H1->ef .normal az bD H1)->(∀e az bD H1,e≠ .normal->Q e az bD H1->ef e az bD H1)->cc P x ef .mk F G H)
  (aa:∀az bD H1,af (mix m F az) (mix k G bD) H1->K (mix m F az) (mix k G bD) H1):cc P (.box m k x) (mC K Q) ax F G H:=by
 refine eS.gu (x:=x) aO (fun e az bD H1 f1 cj h=>?_) (o (mC af Q) (fun _ _ _ h=>h) (fun e az bD H1 he h=>by
  cases e with
  | normal=>exact absurd rfl he
  | exit id=>exact h
  | ret=>exact h))
 cases e with
 | normal=>
  have:=aa az bD H1 (by rw[<-rl f1,<-rl cj];exact h)
  rw[<-rl f1,<-rl cj]at this
  exact this
 | exit id=>exact h
 | ret=>exact h
theorem aP.aeH{f:FuncId}{fn:Func}{z:cM}{C:Cells}{args:List Value}{af:Value->ab->Prop}(ay:P.funcs[f]?=some fn)(aG:(fn.name== "runtime.NumGoroutine")=false)(ad:comp P fn=some z.back)(aM:(kp P C z.code&&tn C z.results)=true)
  (ar:args.length<=fn.ntmps)(wx:(C.all fun p=>decide (args.length<=p.1))=true)(h:cc P z.code (yb z.results af) .mk (jt args) (fun _=>undef) H):aP P f args H af:=aP.aeG ay aG ad aM ar wx h
end
theorem Qk{C:Cells}{args:List Value}{n:Nat}(ar:args.length<=n)(h:(C.all fun p=>decide (n<=p.1))=true):(C.all fun p=>decide (args.length<=p.1))=true:=by
 rw[List.all_eq_true]at h⊢
 intro p aY
 have:=of_decide_eq_true (h p aY)
 exact decide_eq_true (Nat.le_trans ar this)
theorem Ext.dead(H:ab):Ext H (H++[.dead]):=⟨[.dead],rfl,fun x J e cs=>by simp at J;subst J;simp⟩
def Kept(H aF:ab)(s:Value)(e:Nat):Prop:=∀b X,H[b]?=some X->(inBlock s b->X.elem?≠some e)->aF[b]?=some X
theorem ep.kept{H aF:ab}{e cP U n:Nat}{s v:Value}{cs:List Value}(h:ep H cP U v n cs)(aj:Kept H aF s e)(cN:cP≠e):ep aF cP U v n cs:=by
 obtain⟨a,cap,an,o,aa,aA⟩:=h
 refine⟨a,cap,an,o,aa,fun ad=>?_⟩
 obtain⟨b,i,X,all,a1,a3,bG,cn,e5⟩:=aA ad
 exact⟨b,i,X,all,a1,aj b X a3 (fun _ h=>cN (by rw[cn]at h;exact Option.some.inj h)),bG,cn,e5⟩
def et(aC:Bool)(U:Nat)(cs:List Value)(i:Nat):Value:=if aC=true then .agg ((cs.drop (i*U)).take U).toArray else cs[i]?.getD undef
class b7 {α:Type} (af:ab->Value->α->Prop):Prop where
 ext:∀{H H1:ab} {v:Value} {x:α},af H v x->Ext H H1->af H1 v x
def Row{α:Type}(e U:Nat)(aC:Bool)(af:ab->Value->α->Prop)(H:ab)(v:Value)(xs:List α):Prop:=∃cs,ep H e U v xs.length cs/\∀i x,xs[i]?=some x->af H (et aC U cs i) x
def bB{α:Type}(k e U:Nat)(aC:Bool)(af:ab->Value->α->Prop)(H:ab)(v:Value)(xs:List α):Prop:=∃cs,hY H k e U v xs.length cs/\∀i x,xs[i]?=some x->af H (et aC U cs i) x
section
variable {α:Type} {e U k:Nat} {aC:Bool} {af:ab->Value->α->Prop} {H H1:ab} {v:Value} {xs:List α}
instance[b7 af]:b7 (Row e U aC af):=⟨fun⟨cs,o,aa⟩ J=>⟨cs,o.ext J,fun i x ae=>b7.ext (aa i x ae) J⟩⟩
instance[b7 af]:b7 (bB k e U aC af):=⟨fun⟨cs,o,aa⟩ J=>⟨cs,o.ext J,fun i x ae=>b7.ext (aa i x ae) J⟩⟩
theorem bB.row(h:bB k e U aC af H v xs):Row e U aC af H v xs:=let⟨cs,o,aa⟩:=h;⟨cs,o.fF,aa⟩
theorem Row.len(h:Row e U aC af H v xs):∃a c,v= .slice a xs.length c:=let⟨cs,o,aa⟩:=h;o.len
theorem bB.len(h:bB k e U aC af H v xs):∃a c,v= .slice a xs.length c:=h.row.len
theorem Row.nil(e U:Nat)(aC:Bool)(af:ab->Value->α->Prop)(H:ab):Row e U aC af H (.slice none 0 0) []:=⟨[],ep.nil H e U,fun i x h=>by simp at h⟩
theorem bB.nil(k e U:Nat)(aC:Bool)(af:ab->Value->α->Prop)(H:ab):bB k e U aC af H (.slice none 0 0) []:=⟨[],hY.nil H k e U,fun i x h=>by simp at h⟩
theorem bB.void(k e U i:Nat)(aC:Bool)(af:ab->Value->α->Prop)(H:ab):bB k e U aC af H (.slice (some ⟨0,i,none⟩) 0 0) []:=⟨[],hY.void H k e U i,fun i x h=>by simp at h⟩
theorem Row.kept{s:Value}{cP:Nat}(h:Row e U aC af H v xs)(aj:Kept H H1 s cP)(cN:e≠cP)(br:∀u x,af H u x->af H1 u x):Row e U aC af H1 v xs:=let⟨cs,o,aa⟩:=h;⟨cs,o.kept aj cN,fun i x ae=>br _ _ (aa i x ae)⟩
theorem Row.at(h:Row e U aC af H v xs){i:Nat}{x:α}(ae:xs[i]?=some x):∃b R cap X all,v= .slice (some ⟨b,R,none⟩) xs.length cap/\H[b]?=some X/\X.cells?=some all/\R+i*U+U<=all.length/\
  af H (if aC=true then .agg ((all.drop (R+i*U)).take U).toArray else((all.drop (R+i*U)).take U)[0]?.getD undef) x\/(aC=false/\U≠1):=by
 by_cases ao:aC=false/\U≠1
 ·exact⟨0,0,0,.dead,[],.inr ao⟩
 obtain⟨cs,o,aa⟩:=h
 have ar:i<xs.length:=(cK.1 ae).1
 obtain⟨a,cap,an,aA,bo,bK⟩:=o
 obtain⟨b,R,X,all,rfl,a3,bG,cn,e5,g2⟩:=bK (by omega)
 have hle:(i+1)*U<=xs.length*U:=Nat.mul_le_mul_right _ ar
 rw[Nat.succ_mul]at hle
 refine⟨b,R,cap,X,all,.inl ⟨an,a3,bG,by omega,?_⟩⟩
 have J:=aa i x ae
 unfold et at J
 have ad:(cs.drop (i*U)).take U=(all.drop (R+i*U)).take U:=by
  rw[g2,List.drop_take,List.drop_drop,List.take_take,Nat.min_eq_left (by omega)]
 cases aC with
 | true=>simp only[if_true]at J⊢;rw[<-ad];exact J
 | false=>
  have fq:U=1:=by
   by_cases h:U=1
   ·exact h
   ·exact absurd ⟨rfl,h⟩ ao
  subst fq
  simp only[Bool.false_eq_true,if_false]at J⊢
  rw[<-ad]
  simpa[List.getElem?_take,List.getElem?_drop]using J
end
section
variable {P:Program} {r:List bz} {F:Fr} {H:ab} {Q:Fr->ab->Prop} {α:Type}
theorem dc{d t d2 e U n:Nat}{aC:Bool}{x i:Operand}{af:ab->Value->α->Prop}{xs:List α}{a:α}{ax:ba (bu d t x i::aI d2 e (T d)::r) Q}(br:Row e U aC af H (aq F x) xs)(ae:aq F i= .int .i64 (n:Int))(aO:xs[n]?=some a)
  (bM:fe P t=some e)(ao:bq P e=some U)(ek:ds P e=some aC)(o:aC=true\/U=1)(K:∀p u,af H u a->a_ P r Q .mk (a4 (a4 F d p) d2 u) H):a_ P (bu d t x i::aI d2 e (T d)::r) Q ax F H:=by
 have ar:n<xs.length:=(cK.1 aO).1
 obtain⟨b,R,cap,X,all,⟨an,aQ,ad,bw,hu⟩ | ⟨a1,a3⟩⟩:=br.at aO
 ·rw[hq,an,ae,tw,qw,bM,gF,ao,gF,tu]
  refine dE.mk ⟨by omega,by omega⟩ ?_
  rw[FR]
  simp only[py,j6,tv,aQ,Option.bind_some,ad,gF,ek,Int.toNat_natCast]
  cases aC with
  | true=>
   rw[Pv,ao,gF]
   refine dE.mk bw ?_
   exact K _ _ hu
  | false=>
   rw[BP]
   have fq:U=1:=by rcases o with h | h;cases h;exact h
   subst fq
   have a6:R+n*1<all.length:=by omega
   rw[bJ a6,gF]
   refine K _ _ ?_
   simp only[Bool.false_eq_true,if_false]at hu
   rw[List.getElem?_take_of_lt (by omega),List.getElem?_drop,Nat.add_zero,bJ a6]at hu
   exact hu
 ·rcases o with h | h
  ·rw[h]at a1;cases a1
  ·exact absurd h a3
theorem Oz{j:Nat}{w:Bool}{x:bz}{ax:ba (aT j w x::r) Q}(h:hg (F j)=some w)(K:a_ P (hL x::r) Q .mk F H):a_ P (aT j w x::r) Q ax F H:=by
 rw[aaQ]
 show nB _ _ _ _
 unfold nB
 rw[if_pos h]
 exact K
theorem ys{j d t d2 e U n:Nat}{w:Bool}{aC:Bool}{x i:Operand}{af:ab->Value->α->Prop}{xs:List α}{a:α}{ax:ba (bu d t x i::aT j w (aI d2 e (T d))::r) Q}(aU:hg (F j)=some w)(DC:j≠d)(br:Row e U aC af H (aq F x) xs)(ae:aq F i= .int .i64 (n:Int))(aO:xs[n]?=some a)
  (bM:fe P t=some e)(ao:bq P e=some U)(ek:ds P e=some aC)(o:aC=true\/U=1)(K:∀p u,af H u a->a_ P r Q .mk (a4 (a4 F d p) d2 u) H):a_ P (bu d t x i::aT j w (aI d2 e (T d))::r) Q ax F H:=by
 have aH:a_ P (bu d t x i::aI d2 e (T d)::r) Q .mk F H:=dc br ae aO bM ao ek o K
 rw[hq]at aH⊢
 revert aH
 simp only[BX,yT,qv,pn,fT,BW,yP,dE,gm,eX]
 cases aq F x<;>try exact id
 cases aq F i<;>try exact id
 simp only
 cases fe P t<;>try exact id
 simp only
 rename_i Rq
 cases bq P Rq<;>try exact id
 simp only
 split
 ·rintro⟨o,aa⟩
  exact⟨o,Oz (by rw[iy _ _ DC];exact aU) aa⟩
 ·exact id
theorem c9{d t e U:Nat}{aC:Bool}{x:Operand}{af:ab->Value->α->Prop}{xs:List α}{ax:ba (bF d t x::r) Q}(br:Row e U aC af H (aq F x) xs)(bM:fe P t=some e)(K:a_ P r Q .mk (a4 F d (.int .i64 xs.length)) H):a_ P (bF d t x::r) Q ax F H:=by
 obtain⟨a,c,an⟩:=br.len
 rw[hX,an,Yi,bM]
 exact K
theorem sa{aC:Bool}{U i n:Nat}{cs aN:List Value}(ar:cs.length=n*U)(ae:i<n)(o:aC=true\/U=1):et aC U (cs++aN) i=et aC U cs i:=by
 unfold et
 have hle:(i+1)*U<=n*U:=Nat.mul_le_mul_right _ ae
 rw[Nat.succ_mul]at hle
 cases aC with
 | true=>
  simp only[if_true]
  rw[List.drop_append_of_le_length (by omega),List.take_append_of_le_length (by simp;omega)]
 | false=>
  have fq:U=1:=by rcases o with h | h;cases h;exact h
  subst fq
  simp only[Bool.false_eq_true,if_false]
  rw[List.getElem?_append_left (by omega)]
theorem Cr{P:Program}{e:Nat}{aC:Bool}{U n:Nat}{cs:List Value}{u:Value}(ar:cs.length=n*U)(hw:Whole P e u)(ao:bq P e=some U)(ek:ds P e=some aC):et aC U (cs++u.cells.toList) n=u:=by
 obtain⟨a7,iA,cH⟩:=hw
 have df:u.cells.size=U:=by rw[ao]at a7;exact(Option.some.inj a7).symm
 unfold et
 cases aC with
 | true=>
  simp only[if_true]
  have aO:e3 u=true:=by
   cases av:e3 u with
   | true=>rfl
   | false=>rw[av]at cH;simp at cH;rw[cH.1]at ek;cases ek
  rw[<-ar,List.drop_append_of_le_length (Nat.le_refl _),List.drop_length,List.nil_append,List.take_of_length_le (by simp;omega),Array.toArray_toList]
  exact(vT aO).symm
 | false=>
  simp only[Bool.false_eq_true,if_false]
  have aO:e3 u=false:=by
   cases av:e3 u with
   | false=>rfl
   | true=>rw[av]at cH;simp at cH;rw[cH]at ek;cases ek
  rw[aO]at cH
  simp at cH
  have o:U=1:=by rw[<-df,cH.2];rfl
  subst o
  rw[List.getElem?_append_right (by omega),cH.2]
  have:n-cs.length=0:=by omega
  simp[this]
theorem qh{eh:Bool}{d1 d2 t bV cI e U bA k:Nat}{aC:Bool}{s x:Operand}{z:Value}{af:ab->Value->α->Prop}{xs:List α}{a:α}{ax:ba ((⟨eh,none,some d1,.buildSlice t 1 #[(0,x)]⟩:bz)::ap d2 bV cI s (T d1)::r) Q}(cy:bB k e U aC af H (aq F s) xs)(aO:af H (aq F x) a)
  (hw:Whole P e (aq F x))(fq:∀v,aq (a4 F d1 v) s=aq F s)(hj:∀aF dv u y,Kept H aF dv e->af H u y->af aF u y)
  (bM:P.underlying t=some (.slice e))(hu:P.underlying bV=some (.slice e))(J:fB P cI=true)(ao:bq P e=some U)(ek:ds P e=some aC)(ag:bytes? P e=some bA)(aM:dA P e=some z)(dS:flat z=true)(dg:z.cells.size=U)(df:0<U)(q8:U<=1000)
  (dY:0<bA)(bw:(xs.length+1)*bA<=140737488355328)(aj:k<=H.length)
  (K:∀p au aF,bB k e U aC af aF au (xs++[a])->(∀cx:ab,cx.length<=k->Ext cx H->Ext cx aF)->Kept H aF (aq F s) e->a_ P r Q .mk (a4 (a4 F d1 p) d2 au) aF):
  a_ P ((⟨eh,none,some d1,.buildSlice t 1 #[(0,x)]⟩:bz)::ap d2 bV cI s (T d1)::r) Q ax F H:=by
 obtain⟨cs,iJ,fI⟩:=cy
 have fP:=iJ.1
 have k8:(aq F x).cells.size=U:=by have:=hw.1;rw[ao]at this;exact(Option.some.inj this).symm
 have o:aC=true\/U=1:=by
  cases aC with
  | true=>exact .inl rfl
  | false=>
   refine .inr ?_
   have cH:=hw.2.2
   cases av:e3 (aq F x)with
   | true=>rw[av]at cH;simp at cH;rw[cH]at ek;cases ek
   | false=>rw[av]at cH;simp at cH;rw[<-k8,cH.2];rfl
 refine aaK iJ fq bM hu J ao ag aM dS dg df q8 dY bw (by simp[k8]) hw.2.1 aj fun p au aF a1 a3 bG=>K p au aF ⟨_,by simpa using a1,fun i y aL=>?_⟩ a3 bG
 by_cases ae:i<xs.length
 ·rw[List.getElem?_append_left ae]at aL
  rw[sa fP ae o]
  exact hj _ _ _ _ bG (fI i y aL)
 ·have gr:i=xs.length:=by
   have:=(cK.1 aL).1
   simp at this
   omega
  subst gr
  rw[List.getElem?_append_right (Nat.le_refl _),Nat.sub_self]at aL
  simp at aL
  subst aL
  rw[Cr fP hw ao ek]
  exact hj _ _ _ _ bG aO
theorem zi{aC:Bool}{U i n:Nat}{cs aN:List Value}(ar:cs.length=n*U)(ae:n<=i)(o:aC=true\/U=1):et aC U (cs++aN) i=et aC U aN (i-n):=by
 unfold et
 have hle:n*U<=i*U:=Nat.mul_le_mul_right _ ae
 cases aC with
 | true=>
  simp only[if_true]
  rw[List.drop_append,List.drop_eq_nil_of_le (by omega),List.nil_append,ar,Nat.sub_mul]
 | false=>
  have fq:U=1:=by rcases o with h | h;cases h;exact h
  subst fq
  simp only[Bool.false_eq_true,if_false]
  rw[List.getElem?_append_right (by omega)]
  congr 2
  omega
theorem yr{d bV cI e U bA k:Nat}{aC:Bool}{s x:Operand}{z:Value}{af:ab->Value->α->Prop}{xs bO:List α}{ax:ba (ap d bV cI s x::r) Q}(cy:bB k e U aC af H (aq F s) xs)(k2:Row e U aC af H (aq F x) bO)(kB:∀u y,af H u y->Whole P e u)(hj:∀aF dv u y,Kept H aF dv e->af H u y->af aF u y)
  (hu:P.underlying bV=some (.slice e))(J:fB P cI=true)(ao:bq P e=some U)(ek:ds P e=some aC)(o:aC=true\/U=1)(ag:bytes? P e=some bA)(aM:dA P e=some z)(dg:z.cells.size=U)(dY:0<bA)(bw:(xs.length+bO.length)*bA<=140737488355328)(aj:k<=H.length)
  (K:∀au aF,bB k e U aC af aF au (xs++bO)->(∀cx:ab,cx.length<=k->Ext cx H->Ext cx aF)->Kept H aF (aq F s) e->a_ P r Q .mk (a4 F d au) aF):a_ P (ap d bV cI s x::r) Q ax F H:=by
 obtain⟨cs,iJ,fI⟩:=cy
 obtain⟨aN,zQ,wT⟩:=k2
 have fP:=iJ.1
 obtain⟨a,c,an,a1,a3,bG⟩:=zQ
 have c7:Src H U (aq F x) bO.length bO.length aN:=by
  have:=ep.src (H:=H) (e:=e) (U:=U) (v:=aq F x) (n:=bO.length) (cs:=aN) ⟨a,c,an,a1,a3,bG⟩ (Nat.le_refl _)
  rwa[<-a3,List.take_length]at this
 have xl:(aN.all (·.oneCell'))=true:=by
  rw[List.all_eq_true]
  intro u m9
  obtain⟨j,aX⟩:=List.getElem?_of_mem m9
  have gA:j<bO.length*U:=by have:=(cK.1 aX).1;omega
  have df:0<U:=by rcases Nat.eq_zero_or_pos U with q | q;·subst q;simp at gA
                  exact q
  have cA:j/U<bO.length:=Nat.div_lt_of_lt_mul (by rw[Nat.mul_comm];exact gA)
  have hw:=kB _ _ (wT _ _ (bJ cA))
  have iq:u∈(et aC U aN (j/U)).cells.toList:=by
   unfold et
   cases aC with
   | true=>
    simp only[if_true,Value.cells,List.toList_toArray]
    have m0:=Nat.div_add_mod j U
    have eV:=Nat.mod_lt j df
    rw[Nat.mul_comm]at m0
    refine List.mem_of_getElem? (i:=j % U) ?_
    rw[List.getElem?_take_of_lt eV,List.getElem?_drop,m0]
    exact aX
   | false=>
    have fq:U=1:=by rcases o with h | h;cases h;exact h
    subst fq
    have m2:aN[j/1]?=some u:=by rw[Nat.div_one];exact aX
    simp only[et,Bool.false_eq_true,if_false]at hw⊢
    rw[m2]at hw⊢
    simp only[Option.getD_some]at hw⊢
    have cH:=hw.2.2
    cases av:e3 u with
    | false=>rw[av]at cH;simp at cH;rw[cH.2];simp
    | true=>
     rw[av]at cH
     simp at cH
     rw[cH]at ek
     cases ek
  exact List.all_eq_true.1 hw.2.1 u iq
 refine FP iJ c7 hu J ao ag aM dg dY bw xl a3 aj fun au aF dm fZ eM gC iv=>K au aF ⟨_,by simpa using dm,fun i y aL=>?_⟩ fZ eM
 by_cases ae:i<xs.length
 ·rw[List.getElem?_append_left ae]at aL
  rw[sa fP ae o]
  exact hj _ _ _ _ eM (fI i y aL)
 ·rw[List.getElem?_append_right (by omega)]at aL
  rw[zi fP (by omega) o]
  exact hj _ _ _ _ eM (wT _ y aL)
theorem Yx(z:Value)(U n i:Nat)(aM:z.cells.size=U)(ae:i<n)(df:0<U):((made z (n*U)).drop (i*U)).take U=z.cells.toList:=by
 have hle:(i+1)*U<=n*U:=Nat.mul_le_mul_right _ ae
 rw[Nat.succ_mul]at hle
 apply List.ext_getElem?
 intro j
 by_cases aX:j<U
 ·rw[List.getElem?_take_of_lt aX,List.getElem?_drop]
  unfold made
  rw[List.getElem?_map,List.getElem?_range (by omega)]
  simp only[Option.map_some,aM]
  rw[Nat.mul_comm i U,Nat.mul_add_mod,Nat.mod_eq_of_lt aX]
  simp[aM,aX]
 ·rw[List.getElem?_eq_none (by simp;omega),List.getElem?_eq_none (by simp;omega)]
theorem rK{d t e U bA n:Nat}{aC:Bool}{x y:Operand}{eW c4:IntKind}{z:Value}{af:ab->Value->α->Prop}{a:α}{ax:ba (ms d t x y::r) Q}(hu:P.underlying t=some (.slice e))(ao:bq P e=some U)(ag:bytes? P e=some bA)(aM:dA P e=some z)(dS:flat z=true)
  (ek:ds P e=some aC)(hw:Whole P e z)(J:aq F x= .int eW (n:Int))(aL:aq F y= .int c4 (n:Int))(df:0<U)(dY:0<bA)(bw:bA*n<=281474976710656)(br:∀aF,af aF z a)
  (K:∀v aF,bB H.length e U aC af aF v (List.replicate n a)->Ext H aF->(n=0/\v= .slice (some ⟨0,0,none⟩) 0 0/\aF=H\/0<n/\v= .slice (some ⟨H.length,0,none⟩) n n/\aF=H++[.own e false (made z (n*U))])->a_ P r Q .mk (a4 F d v) aF):a_ P (ms d t x y::r) Q ax F H:=by
 have dg:z.cells.size=U:=by have:=hw.1;rw[ao]at this;exact(Option.some.inj this).symm
 by_cases aG:n=0
 ·subst aG
  exact Bw hu ao ag J aL (K _ H (bB.void _ _ _ _ _ _ _) (Ext.refl H) (.inl ⟨rfl,rfl,rfl⟩))
 ·refine yu hu ao ag aM dS dg J aL df dY (Nat.le_refl _) (by omega) bw (K _ _ ⟨made z (n*U),⟨by simp[u7],.inr ⟨H.length,0,n,false,made z (n*U),by simp,by omega,by simp,Nat.le_refl _,by simp,by simp[u7],?_⟩⟩,fun i x ae=>?_⟩ ((Ext.refl H).snoc _ _ _) (.inr ⟨by omega,rfl,rfl⟩))
  ·rw[List.drop_zero,List.take_of_length_le (by simp[u7])]
  ·rw[List.getElem?_replicate]at ae
   split at ae
   ·rename_i a6
    obtain rfl:=Option.some.inj ae
    have hm:=Yx z U n i dg a6 df
    have:et aC U (made z (n*U)) i=z:=by
     have cH:=hw.2.2
     unfold et
     cases aC with
     | true=>
      have aO:e3 z=true:=by
       cases av:e3 z with
       | true=>rfl
       | false=>rw[av]at cH;simp at cH;rw[cH.1]at ek;cases ek
      simp only[if_true]
      rw[hm,Array.toArray_toList]
      exact(vT aO).symm
     | false=>
      have aO:e3 z=false:=by
       cases av:e3 z with
       | false=>rfl
       | true=>rw[av]at cH;simp at cH;rw[cH]at ek;cases ek
      rw[aO]at cH
      simp at cH
      have o:U=1:=by rw[<-dg,cH.2];rfl
      subst o
      simp only[Bool.false_eq_true,if_false]
      have aa:(made z (n*1))[i]?=(((made z (n*1)).drop (i*1)).take 1)[0]?:=by
       rw[List.getElem?_take_of_lt (by omega),List.getElem?_drop];simp
      rw[aa,hm,cH.2]
      rfl
    rw[this]
    exact br _
   ·cases ae
theorem Rt{P:Program}{e:Nat}{aC:Bool}{U n i j:Nat}{cs:List Value}{u:Value}(ar:cs.length=n*U)(aX:j<n)(ae:i<n)(hw:Whole P e u)(ao:bq P e=some U)(ek:ds P e=some aC)(o:aC=true\/U=1):et aC U (db cs (j*U) u.cells.toList) i=if i=j then u else et aC U cs i:=by
 obtain⟨a7,iA,cH⟩:=hw
 have df:u.cells.size=U:=by rw[ao]at a7;exact(Option.some.inj a7).symm
 have z6:(j+1)*U<=n*U:=Nat.mul_le_mul_right _ aX
 have Uq:(i+1)*U<=n*U:=Nat.mul_le_mul_right _ ae
 rw[Nat.succ_mul]at z6 Uq
 have bw:j*U+u.cells.toList.length<=cs.length:=by simp;omega
 have k5:=fun m=>rE (j:=m) bw
 unfold et
 cases aC with
 | true=>
  have aO:e3 u=true:=by
   cases av:e3 u with
   | true=>rfl
   | false=>rw[av]at cH;simp at cH;rw[cH.1]at ek;cases ek
  simp only[if_true]
  have aB:((db cs (j*U) u.cells.toList).drop (i*U)).take U=if i=j then u.cells.toList else(cs.drop (i*U)).take U:=by
   apply List.ext_getElem?
   intro m
   by_cases hm:m<U
   ·rw[List.getElem?_take_of_lt hm,List.getElem?_drop,k5]
    by_cases pN:i=j
    ·subst pN
     rw[if_pos rfl,if_pos ⟨by omega,by simp;omega⟩]
     congr 1
     omega
    ·rw[if_neg pN,List.getElem?_take_of_lt hm,List.getElem?_drop]
     rw[if_neg]
     simp only[Array.length_toList,df,not_and,Nat.not_lt]
     intro aH
     rcases Nat.lt_or_ge i j with q | q
     ·have:(i+1)*U<=j*U:=Nat.mul_le_mul_right _ q
      rw[Nat.succ_mul]at this
      omega
     ·have:(j+1)*U<=i*U:=Nat.mul_le_mul_right _ (by omega)
      rw[Nat.succ_mul]at this
      omega
   ·rw[List.getElem?_eq_none (by simp;omega)]
    split
    ·rw[List.getElem?_eq_none (by simp;omega)]
    ·rw[List.getElem?_eq_none (by simp;omega)]
  rw[aB]
  split
  ·rw[Array.toArray_toList];exact(vT aO).symm
  ·rfl
 | false=>
  have fq:U=1:=by rcases o with h | h;cases h;exact h
  subst fq
  have aO:e3 u=false:=by
   cases av:e3 u with
   | false=>rfl
   | true=>rw[av]at cH;simp at cH;rw[cH]at ek;cases ek
  rw[aO]at cH
  simp at cH
  simp only[Bool.false_eq_true,if_false]
  rw[k5]
  by_cases pN:i=j
  ·subst pN
   rw[if_pos rfl,if_pos ⟨by omega,by simp;omega⟩,cH.2]
   simp
  ·rw[if_neg pN,if_neg]
   simp only[Array.length_toList,df,not_and,Nat.not_lt]
   omega
theorem kK{d t e U n k:Nat}{aC:Bool}{x i y:Operand}{af:ab->Value->α->Prop}{xs:List α}{a:α}{ax:ba (bu d t x i::st e (T d) y::r) Q}(cy:bB k e U aC af H (aq F x) xs)(ae:aq F i= .int .i64 (n:Int))(aG:n<xs.length)(aO:af H (aq F y) a)
  (hw:Whole P e (aq F y))(aL:∀v,aq (a4 F d v) y=aq F y)(hj:∀aF dv u y,Kept H aF dv e->af H u y->af aF u y)(bM:fe P t=some e)(ao:bq P e=some U)(ek:ds P e=some aC)(df:0<U)
  (K:∀p aF,bB k e U aC af aF (aq F x) (xs.set n a)->(∀cx:ab,cx.length<=k->Ext cx H->Ext cx aF)->Kept H aF (aq F x) e->aF.length=H.length->(∀c,c<k->aF[c]?=H[c]?)->a_ P r Q .mk (a4 F d p) aF):a_ P (bu d t x i::st e (T d) y::r) Q ax F H:=by
 obtain⟨cs,⟨ar,iJ⟩,fI⟩:=cy
 have k8:(aq F y).cells.size=U:=by have:=hw.1;rw[ao]at this;exact(Option.some.inj this).symm
 have o:aC=true\/U=1:=by
  cases aC with
  | true=>exact .inl rfl
  | false=>
   refine .inr ?_
   have cH:=hw.2.2
   cases av:e3 (aq F y)with
   | true=>rw[av]at cH;simp at cH;rw[cH]at ek;cases ek
   | false=>rw[av]at cH;simp at cH;rw[<-k8,cH.2];rfl
 rcases iJ with⟨aH,-⟩ | ⟨b,R,cap,l,all,an,a1,a3,bG,cn,e5,g2⟩
 ·omega
 have hle:(n+1)*U<=xs.length*U:=Nat.mul_le_mul_right _ aG
 have DF:xs.length*U<=cap*U:=Nat.mul_le_mul_right _ a3
 rw[Nat.succ_mul]at hle
 have gJ:=(cK.1 cn).1
 rw[hq,an,ae,tw,qw,bM,gF,ao,gF,tu]
 refine dE.mk ⟨by omega,by omega⟩ ?_
 rw[OD]
 simp only[py,j6,tv,cn,GG,Int.toNat_natCast,aL]
 have bw:R+n*U+(aq F y).cells.toList.length<=all.length:=by simp[k8];omega
 refine dE.mk ⟨by rw[ao,k8],by simpa using bw,hw.2.1⟩ ?_
 rw[aL,Gf bw]
 have gb:((db all (R+n*U) (aq F y).cells.toList).drop R).take (xs.length*U)=db cs (n*U) (aq F y).cells.toList:=by
  have n4:n*U+(aq F y).cells.toList.length<=cs.length:=by simp[k8,ar];omega
  apply List.ext_getElem?
  intro j
  by_cases aX:j<xs.length*U
  ·rw[List.getElem?_take_of_lt aX,List.getElem?_drop,rE bw,rE n4,g2,List.getElem?_take_of_lt aX,List.getElem?_drop]
   by_cases ad:n*U<=j/\j<n*U+(aq F y).cells.toList.length
   ·rw[if_pos ad,if_pos ⟨by omega,by omega⟩]
    congr 1
    omega
   ·rw[if_neg ad,if_neg (by omega)]
  ·rw[List.getElem?_eq_none (by simp;omega),List.getElem?_eq_none (by rw[nt n4,ar];omega)]
 have uM:Kept H (H.set b (.own e l (db all (R+n*U) (aq F y).cells.toList))) (aq F x) e:=fun cu X aQ c3=>by
  have:b≠cu:=fun cP=>by
   subst cP
   rw[cn]at aQ
   exact c3 ⟨R,xs.length,cap,an⟩ (by rw[<-Option.some.inj aQ];rfl)
  rw[List.getElem?_set_ne this];exact aQ
 refine K _ _ ⟨db cs (n*U) (aq F y).cells.toList,⟨by rw[nt (by simp[k8,ar];omega)];simpa using ar,.inr ⟨b,R,cap,l,_,by simpa using an,a1,by simpa using a3,bG,List.getElem?_set_self gJ,by rw[nt bw];exact e5,by simpa using gb.symm⟩⟩,fun i x J=>?_⟩
  (fun cx aH J=>J.set (by omega) (by simp)) uM (by simp) (fun c ad=>List.getElem?_set_ne (by omega))
 have cA:i<xs.length:=by have:=(cK.1 J).1;simpa using this
 rw[Rt ar aG cA hw ao ek o]
 by_cases gr:i=n
 ·subst gr
  rw[List.getElem?_set_self aG]at J
  obtain rfl:=Option.some.inj J
  rw[if_pos rfl]
  exact hj _ _ _ _ uM aO
 ·rw[List.getElem?_set_ne (Ne.symm gr)]at J
  rw[if_neg gr]
  exact hj _ _ _ _ uM (fI i x J)
theorem rL{eh:Bool}{d t e U l h:Nat}{aC:Bool}{x:Operand}{bb ae:Option Operand}{af:ab->Value->α->Prop}{xs:List α}{ax:ba ((⟨eh,none,some d,.slice t x bb ae none⟩:bz)::r) Q}(br:Row e U aC af H (aq F x) xs)(hu:P.underlying t=some (.slice e))(ao:bq P e=some U)(o:aC=true\/U=1)
  (ar:dO (aq F) bb=some l)(cV:e2 (aq F) xs.length ae=some h)(xd:l<=h)(w9:h<=xs.length)(K:∀au,Row e U aC af H au ((xs.drop l).take (h-l))->a_ P r Q .mk (a4 F d au) H):a_ P ((⟨eh,none,some d,.slice t x bb ae none⟩:bz)::r) Q ax F H:=by
 obtain⟨cs,bE,bW⟩:=br
 refine OC bE hu ao ar cV xd w9 fun au ue=>K au ⟨_,by simpa[show min (h-l) (xs.length-l)=h-l by omega]using ue,fun i y aL=>?_⟩
 have cA:i<h-l:=by
  have:=(cK.1 aL).1
  simp at this
  omega
 rw[List.getElem?_take_of_lt cA,List.getElem?_drop]at aL
 have:=bW _ _ aL
 have bk:et aC U ((cs.drop (l*U)).take ((h-l)*U)) i=et aC U cs (l+i):=by
  have hle:(i+1)*U<=(h-l)*U:=Nat.mul_le_mul_right _ cA
  rw[Nat.succ_mul]at hle
  unfold et
  cases aC with
  | true=>
   simp only[if_true]
   rw[List.drop_take,List.drop_drop,List.take_take,Nat.min_eq_left (by omega),<-Nat.add_mul]
  | false=>
   have fq:U=1:=by rcases o with h | h;cases h;exact h
   subst fq
   simp only[Bool.false_eq_true,if_false,Nat.mul_one]
   rw[List.getElem?_take_of_lt cA,List.getElem?_drop]
 rw[bk]
 exact this
end
section
variable {P:Program} {r:List bz} {F:Fr} {H:ab} {Q:Fr->ab->Prop}
theorem OB{eh:Bool}{d t e U b i len cap l h:Nat}{X:bI}{x:Operand}{bb ae:Option Operand}{ax:ba ((⟨eh,none,some d,.slice t x bb ae none⟩:bz)::r) Q}(an:aq F x= .slice (some ⟨b,i,none⟩) len cap)(aQ:H[b]?=some X)(he:X.elem?=some e)(hu:P.underlying t=some (.slice e))(ao:bq P e=some U)
  (ar:dO (aq F) bb=some l)(cV:e2 (aq F) len ae=some h)(o:l<=h)(aa:h<=cap)(mn:l<cap)(K:a_ P r Q .mk (a4 F d (.slice (some ⟨b,i+l*U,none⟩) (h-l) (cap-l))) H):a_ P ((⟨eh,none,some d,.slice t x bb ae none⟩:bz)::r) Q ax F H:=by
 have xv:b3 P (aq F) H (.slice t x bb ae none)=none:=by simp only[b3,an]
 have a5:∀R:Oper,R.op= .slice t x bb ae none->bR P R=false:=fun R aK=>by simp[bR,aK]
 exact jH (v:= .slice (some ⟨b,i+l*U,none⟩) (h-l) (cap-l)) (H1:=H) rfl rfl xv (fun R aK=> .slice aK hu ao an aQ he ar cV o aa mn) a5 (.inr (Ext.refl H)) K
end
section
variable {α:Type} {e U k:Nat} {aC:Bool} {af:ab->Value->α->Prop} {H:ab} {v:Value} {xs:List α}
theorem bB.Z2{b:Nat}{X:bI}(h:bB k e U aC af H v xs)(ag:b<k)(br:∀u y,af H u y->af (H.set b X) u y):bB k e U aC af (H.set b X) v xs:=by
 obtain⟨cs,⟨o,aa⟩,aA⟩:=h
 refine⟨cs,⟨o,?_⟩,fun i y ae=>br _ _ (aA i y ae)⟩
 rcases aa with aa | ⟨c,i,cap,l,all,a1,a3,bG,cn,e5,g2⟩
 ·exact .inl aa
 ·exact .inr ⟨c,i,cap,l,all,a1,a3,bG,cn,by rw[List.getElem?_set_ne (by omega)];exact e5,g2⟩
end
section
variable {P:Program} {F G:Fr} {H:ab} {Q:dH->Fr->Fr->ab->Prop}
theorem dF.range{m k id C ai N D t:Nat}{B:eR}{ax:ba (eR.seq (.ops [.xs [bi C .lss t (T ai) (T N)]]) (.seq (.cond (T C) .skip (.exit id)) (.seq B (.ops [.xs [bi D .add t (T ai) (cJ.ai 1),I ai (T D)]])))) Q}
  (aO:kb m k (eR.seq (.ops [.xs [bi C .lss t (T ai) (T N)]]) (.seq (.cond (T C) .skip (.exit id)) (.seq B (.ops [.xs [bi D .add t (T ai) (cJ.ai 1),I ai (T D)]]))))=true)(n:Nat)(aG:n<9223372036854775807)(bX:F N= .int .i64 (n:Int))(SC:gQ m N=false)(RZ:F ai= .int .i64 0)(agJ:C≠ai)(agK:D≠ai)
  (Inv:Nat->Fr->Fr->ab->Prop)(aH:Inv 0 F G H)
  (body:∀(i:Nat) (az bD:Fr) (H1:ab),i<n->mix m F az ai= .int .i64 (i:Int)->Inv i (mix m F az) (mix k G bD) H1->∀K:Fr->Fr->ab->Prop,(∀bU dp aR,bU ai= .int .i64 (i:Int)->Inv (i+1) (a4 (a4 bU D (.int .i64 ((i+1:Nat):Int))) ai (.int .i64 ((i+1:Nat):Int))) dp aR->K bU dp aR)->
   cc P B (mC K Q) .mk (a4 (mix m F az) C (.bool true)) (mix k G bD) H1)
  (fin:∀(az bD:Fr) (H1:ab),mix m F az ai= .int .i64 (n:Int)->Inv n (mix m F az) (mix k G bD) H1->Q (.exit id) (a4 (mix m F az) C (.bool false)) (mix k G bD) H1):
  dF P m k (eR.seq (.ops [.xs [bi C .lss t (T ai) (T N)]]) (.seq (.cond (T C) .skip (.exit id)) (.seq B (.ops [.xs [bi D .add t (T ai) (cJ.ai 1),I ai (T D)]])))) Q ax F G H:=by
 refine dF.mk aO (fun dU az bD H1=>∃i,dU=n-i/\i<=n/\az ai= .int .i64 (i:Int)/\Inv i az bD H1) n ⟨0,by omega,by omega,by simpa using RZ,aH⟩ ?_
 rintro dU az bD H1 ⟨i,rfl,ae,eu,J6⟩ K a0
 have sj:mix m F az N= .int .i64 (n:Int):=by
  simp only[mix]
  rw[if_neg (by simpa[gQ]using SC)]
  exact bX
 generalize tZ:mix m F az=aeO at*
 simp only[mE,ac6,ac1,Oy,py,eu,sj,ZQ,gF,OA,ac0,N6,ac3,j6,PF]
 refine bH.b_ (fun a6=>?_) (fun hl=>?_)
 ·have jB:i<n:=by omega
  have aB:decide ((i:Int)<(n:Int))=true:=decide_eq_true a6
  simp only[aB,ac7,N6]
  have:=body i az bD H1 jB (by rw[tZ];exact eu) (by rw[tZ];exact J6) (fun bU dp aR=>a_ P [bi D .add t (T ai) (cJ.ai 1),I ai (T D)] (fun az H1=>K az dp H1) .mk bU aR) fun bU dp aR i_ Si=>?_
  ·rw[tZ]at this
   refine eS.mono (x:=B) (fun e bU dp aR h=>?_) this
   cases e with
   | normal=>exact h
   | exit id=>exact h
   | ret=>exact h
  ·simp only[Oy,py,Jw,i_,ZO,gF,aaT,j6,OA]
   have hw:IntKind.wrap .i64 ((i:Int)+1)=((i+1:Nat):Int):=by rw[b6 (by omega) (by omega)];simp
   rw[hw]
   exact a0 (n-(i+1)) _ _ _ (by omega) ⟨i+1,rfl,by omega,j6 _ _ _,Si⟩
 ·have aB:decide ((i:Int)<(n:Int))=false:=decide_eq_false hl
  have gr:i=n:=by omega
  subst gr
  simp only[aB,ac4,Z0]
  have:=fin az bD H1 (by rw[tZ];exact eu) (by rw[tZ];exact J6)
  rw[tZ]at this
  exact this
end
end Go.cJ
end
