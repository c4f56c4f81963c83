/- Part of the proof of ShopDoes. -/
import Derived.Test.YtoiodfcefbapkaaGreatShopDoesC
set_option linter.unusedVariables false
set_option linter.unusedSimpArgs false
section
namespace Go.dq
inductive hf where
 | xs (l:List bG)
 | bQ (r e:Nat)
 | cq (r e:Nat) (y:Operand)
 | a7 (g:Option (Nat×Bool)) (d s x f r off:Nat)
 | bT (g:Option (Nat×Bool)) (d t x r:Nat)
 | aE (g:Option (Nat×Bool)) (d t x r off:Nat)
 | bX (b:Bool) (g:Option (Nat×Bool)) (t x:Nat) (y:Operand) (r:Nat)
 | st (b:Bool) (g:Option (Nat×Bool)) (t x:Nat) (y:Operand) (r off:Nat)
inductive e5 where
 | skip
 | ret
 | exit (id:Nat)
 | seq (x y:e5)
 | cond (c:Operand) (x y:e5)
 | block (id:Nat) (x:e5)
 | loop (m k:Nat) (x:e5)
 | box (m k:Nat) (x:e5)
 | ops (l:List hf)
 | opsL (l:List hf)
inductive j6 where
 | tmp (i:Nat)
 | cell (a ty:Nat)
structure cD where
 code:e5
 results:List j6
def hf.back:hf->List bG
 | .xs l=>l
 | .bQ r e=>[⟨true,none,some r,.alloc e⟩]
 | .cq r e y=>[⟨true,none,some r,.box e y⟩]
 | .a7 g d s x f _ _=>[⟨true,g,some d,.fieldAddr s (.tmp x) f⟩]
 | .bT g d t x _=>[⟨true,g,some d,.load t (.tmp x)⟩]
 | .aE g d t x _ _=>[⟨true,g,some d,.load t (.tmp x)⟩]
 | .bX b g t x y _=>[⟨b,g,none,.store t (.tmp x) y⟩]
 | .st b g t x y _ _=>[⟨b,g,none,.store t (.tmp x) y⟩]
def q3:List hf->List bG
 | []=>[]
 | i::r=>i.back++q3 r
def e5.back:e5->gR
 | .skip=> .skip
 | .ret=> .ret
 | .exit id=> .exit id
 | .seq x y=> .seq x.back y.back
 | .cond c x y=> .cond c x.back y.back
 | .block id x=> .block id x.back
 | .loop _ _ x=> .loop x.back
 | .box _ _ x=>x.back
 | .ops l=> .ops (q3 l)
 | .opsL l=> .opsL (q3 l)
def j6.back:j6->ResultVar
 | .tmp i=> .tmp i
 | .cell a ty=> .cell a ty
def cD.back(z:cD):fB:=⟨z.code.back,z.results.map j6.back⟩
def kj:Value->Bool
 | .pointer (some _)=>true
 | _=>false
@[simp] theorem ajA(a:Addr):kj (.pointer (some a))=true:=rfl
def pJ(v:Value)(n:Nat):Value:=match v with
 | .pointer (some ⟨b,i,none⟩)=> .pointer (some ⟨b,i+n,none⟩)
 | _=>undef
def eS:Value->Bool
 | .agg _=>true
 | _=>false
def Whole(P:Program)(e:TypeId)(v:Value):Prop:=bA P e=some v.cells.size/\(v.cells.toList.all (·.oneCell'))=true/\(if eS v=true then dr P e=some true else dr P e=some false/\v.cells= #[v])
def ng(g:Option (Nat×Bool))(F:Fr)(dA cZ:Prop):Prop:=match g with
 | none=>dA
 | some (j,w)=>nV (hG (F j)) w dA cZ
def dE(P:Program):List hf->Fr->Fr->ab->(Fr->Fr->ab->Prop)->Prop
 | [],F,G,H,Q=>Q F G H
 | .xs l::r,F,G,H,Q=>bn P l F H fun az H1=>dE P r az G H1 Q
 | .bQ c e::r,F,G,H,Q=>e_ (dD P e) fun z=>gF (flat z=true/\Whole P e z) (dE P r (a2 F c (.pointer (some ⟨H.length,0,none⟩))) (a2 G c z) (H++[.dead]) Q)
 | .cq c e y::r,F,G,H,Q=>gF (Whole P e (aq F y)) (dE P r (a2 F c (.pointer (some ⟨H.length,0,none⟩))) (a2 G c (aq F y)) (H++[.dead]) Q)
 | .a7 g d s x f c off::r,F,G,H,Q=>ng g F (gF (kj (F c)=true) (dE P r (a2 F d (pJ (F c) off)) G H Q)) (dE P r (a2 F d undef) G H Q)
 | .bT g d t x c::r,F,G,H,Q=>ng g F (gF (kj (F c)=true) (dE P r (a2 F d (G c)) G H Q)) (dE P r (a2 F d undef) G H Q)
 | .aE g d t x c off::r,F,G,H,Q=>ng g F (gF (kj (F c)=true) (n2 (G c) fun cs=>e_ (dr P t) fun a=>h8 a (e_ (bA P t) fun n=>gF (off+n<=cs.size) (dE P r (a2 F d (.agg ((cs.toList.drop off).take n).toArray)) G H Q)) (e_ cs.toList[off]? fun v=>dE P r (a2 F d v) G H Q)))
   (dE P r (a2 F d undef) G H Q)
 | .bX _ g t x y c::r,F,G,H,Q=>ng g F (gF (kj (F c)=true/\Whole P t (aq F y)) (dE P r F (a2 G c (aq F y)) H Q)) (dE P r F G H Q)
 | .st _ g t x y c off::r,F,G,H,Q=>ng g F (gF (kj (F c)=true) (n2 (G c) fun cs=>gF (bA P t=some (aq F y).cells.size/\off+(aq F y).cells.size<=cs.size/\((aq F y).cells.toList.all (·.oneCell'))=true) (dE P r F (a2 G c (.agg (mq cs.toList off (aq F y).cells.toList).toArray)) H Q))) (dE P r F G H Q)
def m5(K:Fr->Fr->ab->Prop)(Q:dP->Fr->Fr->ab->Prop):dP->Fr->Fr->ab->Prop
 | .normal,F,G,H=>K F G H
 | e,F,G,H=>Q e F G H
def rf(id:Nat)(Q:dP->Fr->Fr->ab->Prop):dP->Fr->Fr->ab->Prop
 | .exit h2,F,G,H=>if h2=id then Q .normal F G H else Q (.exit h2) F G H
 | e,F,G,H=>Q e F G H
inductive wF (body:Fr->Fr->ab->(dP->Fr->Fr->ab->Prop)->Prop) (Q:dP->Fr->Fr->ab->Prop):Fr->Fr->ab->Prop
 | round {F G:Fr} {H:ab} (ai:Fr->Fr->ab->Prop) (h:body F G H (m5 ai Q)) (dj:∀az bE H1,ai az bE H1->wF body Q az bE H1):wF body Q F G H
def e6(P:Program):e5->Fr->Fr->ab->(dP->Fr->Fr->ab->Prop)->Prop
 | .skip,F,G,H,Q=>Q .normal F G H
 | .ret,F,G,H,Q=>Q .ret F G H
 | .exit id,F,G,H,Q=>Q (.exit id) F G H
 | .seq x y,F,G,H,Q=>e6 P x F G H (m5 (fun az bE H1=>e6 P y az bE H1 Q) Q)
 | .cond c x y,F,G,H,Q=>zK (aq F c) fun b=>h8 b (e6 P x F G H Q) (e6 P y F G H Q)
 | .block id x,F,G,H,Q=>e6 P x F G H (rf id Q)
 | .loop _ _ x,F,G,H,Q=>wF (e6 P x) Q F G H
 | .box _ _ x,F,G,H,Q=>e6 P x F G H Q
 | .ops l,F,G,H,Q=>dE P l F G H (fun az bE H1=>Q .normal az bE H1)
 | .opsL l,F,G,H,Q=>dE P l F G H (fun az bE H1=>Q .normal az bE H1)
def o8(F G:Fr):List j6->(List Value->Prop)->Prop
 | [],K=>K []
 | .tmp i::rs,K=>o8 F G rs fun aG=>K (F i::aG)
 | .cell a ty::rs,K=>gF (kj (F a)=true) (o8 F G rs fun aG=>K (G a::aG))
def y5(rs:List j6)(Q:Value->ab->Prop):dP->Fr->Fr->ab->Prop
 | .normal,F,G,H=>o8 F G rs fun aG=>Q (bd aG) H
 | .ret,F,G,H=>o8 F G rs fun aG=>Q (bd aG) H
 | .exit _,_,_,_=>False
abbrev Cells:=List (Nat×Nat)
abbrev iT:=List (Nat×Nat×Nat×Option (Nat×Bool))
def l4(C:Cells)(r:Nat):Bool:=(C.lookup r).isSome
def Dx(C:Cells):Option Nat->Bool
 | some d=> !l4 C d
 | none=>true
def kill(d:Nat)(E:iT):iT:=E.filter fun p=>p.1 !=d&&p.2.1 !=d&&(match p.2.2.2 with | some (j,_)=>j !=d | none=>true)
def F6:Option Nat->iT->iT
 | some d,E=>kill d E
 | none,E=>E
def Af:Option (Nat×Bool)->Option (Nat×Bool)->Bool
 | some (j,w),some (ek,gQ)=>j==ek&&w==gQ
 | none,none=>true
 | _,_=>false
def reach(E:iT)(g:Option (Nat×Bool))(x r off:Nat):Bool:=(x==r&&off==0) || match E.lookup x with
 | some (dW,OA,kR)=>dW==r&&OA==off&&(Af kR none || Af kR g)
 | none=>false
def DG(P:Program)(E:iT)(g:Option (Nat×Bool))(s x f r off:Nat):Bool:=match fW P s f with
 | some U=>decide (U<=off)&&reach E g x r (off-U)
 | none=>false
def hS(P:Program)(C:Cells)(late:Bool):iT->List hf->Bool
 | _,[]=>true
 | E,.xs l::r=>(l.all fun U=>Dx C U.d)&&hS P C late (l.foldl (fun E U=>F6 U.d E) E) r
 | E,.bQ c e::r=>C.lookup c==some e&&hS P C late (kill c E) r
 | E,.cq c e _::r=>C.lookup c==some e&&hS P C late (kill c E) r
 | E,.a7 g d s x f c off::r=> !l4 C d&&l4 C c&&DG P E g s x f c off&&(match g with | some (j,_)=>j !=d | none=>true)&&hS P C late ((d,c,off,g)::kill d E) r
 | E,.bT g d t x c::r=> !l4 C d&&C.lookup c==some t&&reach E g x c 0&&hS P C late (kill d E) r
 | E,.aE g d _ x c off::r=> !l4 C d&&l4 C c&&reach E g x c off&&hS P C late (kill d E) r
 | E,.bX b g t x _ c::r=>(b || late)&&C.lookup c==some t&&reach E g x c 0&&hS P C late E r
 | E,.st b g _ x _ c off::r=>(b || late)&&l4 C c&&reach E g x c off&&hS P C late E r
def wb:Op->Bool
 | .load .. | .store .. =>false
 | .call {callee:= .value _,.. }=>false
 | op=> !jE op
def mv:List Nat->List Nat->List hf->Bool
 | _,_,[]=>true
 | ad,W,.xs l::r=>(l.all fun U=>wb U.op)&&mv ad W r
 | ad,W,.a7 _ _ _ _ _ _ _::r=>mv ad W r
 | ad,W,.bT _ _ _ _ c::r=> !W.contains c&&mv (c::ad) W r
 | ad,W,.aE _ _ _ _ c _::r=> !W.contains c&&mv (c::ad) W r
 | ad,W,.bX b _ _ _ _ c::r=>(b || (!W.contains c&& !ad.contains c))&&mv ad (if b then W else c::W) r
 | ad,W,.st b _ _ _ _ c _::r=>(b || (!W.contains c&& !ad.contains c))&&mv ad (if b then W else c::W) r
 | _,_,_=>false
def g7(m r:Nat):Bool:=(m>>>r) % 2==1
def Kx(m:Nat):Option Nat->Bool
 | some d=>g7 m d
 | none=>true
def wT(m k:Nat):hf->Bool
 | .xs l=>l.all fun U=>Kx m U.d
 | .bQ c _=>g7 m c&&g7 k c
 | .cq c _ _=>g7 m c&&g7 k c
 | .a7 _ d _ _ _ _ _=>g7 m d
 | .bT _ d _ _ _=>g7 m d
 | .aE _ d _ _ _ _=>g7 m d
 | .bX _ _ _ _ _ c=>g7 k c
 | .st _ _ _ _ _ c _=>g7 k c
def kv(m k:Nat):e5->Bool
 | .seq x y=>kv m k x&&kv m k y
 | .cond _ x y=>kv m k x&&kv m k y
 | .block _ x=>kv m k x
 | .loop _ _ x=>kv m k x
 | .box _ _ x=>kv m k x
 | .ops l=>l.all (wT m k)
 | .opsL l=>l.all (wT m k)
 | _=>true
def kL(P:Program)(C:Cells):e5->Bool
 | .seq x y=>kL P C x&&kL P C y
 | .cond _ x y=>kL P C x&&kL P C y
 | .block _ x=>kL P C x
 | .loop m k x=>kv m k x&&kL P C x
 | .box m k x=>kv m k x&&kL P C x
 | .ops l=>hS P C false [] l
 | .opsL l=>hS P C true [] l&&mv [] [] l
 | _=>true
def ur(C:Cells)(rs:List j6):Bool:=rs.all fun r=>match r with
 | .tmp i=>true
 | .cell a ty=>C.lookup a==some ty
section
variable {P:Program}
theorem bn.append:∀{l dn:List bG} {F:Fr} {H:ab} {Q:Fr->ab->Prop},bn P l F H (fun az H1=>bn P dn az H1 Q)->bn P (l++dn) F H Q
 | [],dn,F,H,Q,h=>h
 | x::l,dn,F,H,Q,h=>by
  simp only[List.cons_append,bn]at h⊢
  split
  ·rename_i aX;rw[aX]at h;exact gx.mono (fun v H1=>bn.append) h
  ·rename_i j w aX
   rw[aX]at h
   simp only at h
   split
   ·rename_i ag;rw[if_pos ag]at h;exact gx.mono (fun v H1=>bn.append) h
   ·rename_i ag;rw[if_neg ag]at h;exact bn.append h
theorem Tc{F:Fr}{d:Option Nat}{v:Value}{r:Nat}(h:d≠some r):ga F d v r=F r:=by
 cases d with
 | none=>rfl
 | some e=>exact iP F v fun he=>h (by rw[he])
theorem bn.gN:∀{l:List bG} {F:Fr} {H:ab} {Q:Fr->ab->Prop},bn P l F H Q->bn P l F H fun az H1=>Q az H1/\∀r,(∀U∈l,U.d≠some r)->az r=F r
 | [],F,H,Q,h=>⟨h,fun _ _=>rfl⟩
 | x::l,F,H,Q,h=>by
  have next:∀v H1,bn P l (ga F x.d v) H1 Q->bn P l (ga F x.d v) H1 fun az H1=>Q az H1/\∀r,(∀U∈x::l,U.d≠some r)->az r=F r:=fun v H1 o=>
   bn.mono (fun az aS ⟨a0,a4⟩=>⟨a0,fun r al=>by rw[a4 r fun U aQ=>al U (List.mem_cons_of_mem _ aQ),Tc (al x List.mem_cons_self)]⟩) (bn.gN o)
  simp only[bn]at h⊢
  split
  ·rename_i aX;rw[aX]at h;exact gx.mono (fun v H1=>next v H1) h
  ·rename_i j w aX
   rw[aX]at h
   simp only at h
   split
   ·rename_i ag;rw[if_pos ag]at h;exact gx.mono (fun v H1=>next v H1) h
   ·rename_i ag;rw[if_neg ag]at h;exact next _ _ h
def mG(g:Option (Nat×Bool))(F:Fr):Prop:=match g with
 | none=>True
 | some (j,w)=>hG (F j)=some w
theorem ng.imp{g:Option (Nat×Bool)}{F:Fr}{A B wB k5:Prop}(h:ng g F A B)(o:mG g F->A->wB)(aa:¬mG g F->B->k5):ng g F wB k5:=by
 cases g with
 | none=>exact o trivial h
 | some qH=>
  obtain⟨j,w⟩:=qH
  simp only[ng,nV]at h⊢
  split
  ·rename_i ag;rw[if_pos ag]at h;exact o ag h
  ·rename_i ag;rw[if_neg ag]at h;exact aa ag h
theorem zA{b:Bool}{g:Option (Nat×Bool)}{d:Option Nat}{op:Op}{r:List bG}{F:Fr}{H:ab}{Q:Fr->ab->Prop}(h:ng g F (bn P (⟨b,none,d,op⟩::r) F H Q) (bn P r (ga F d undef) H Q)):bn P (⟨b,g,d,op⟩::r) F H Q:=by
 cases g with
 | none=>exact h
 | some qH=>exact h
theorem zy{b:Bool}{g:Option (Nat×Bool)}{d:Option Nat}{op:Op}{r:List bG}{F:Fr}{H:ab}{ad W:List Nat}{Q:Fr->ab->Prop}(h:ng g F (fL P (⟨b,none,d,op⟩::r) F H ad W Q) (fL P r (ga F d undef) H ad W Q)):fL P (⟨b,g,d,op⟩::r) F H ad W Q:=by
 cases g with
 | none=>exact h
 | some qH=>exact h
def iJ(E:iT)(F:Fr):Prop:=∀x∈E,mG x.2.2.2 F->F x.1=pJ (F x.2.1) x.2.2.1
theorem iJ.nil(F:Fr):iJ [] F:=fun x h=>by simp at h
theorem Oi{d:Nat}{E:iT}{x:Nat×Nat×Nat×Option (Nat×Bool)}(h:x∈kill d E):x∈E/\x.1≠d/\x.2.1≠d/\∀j w,x.2.2.2=some (j,w)->j≠d:=by
 unfold kill at h
 rw[List.mem_filter]at h
 obtain⟨o,aa⟩:=h
 simp only[Bool.and_eq_true,bne_iff_ne,ne_eq]at aa
 refine⟨o,aa.1.1,aa.1.2,fun j w aX=>?_⟩
 have:=aa.2
 rw[aX]at this
 simpa using this
theorem DN{g:Option (Nat×Bool)}{F az:Fr}(h:∀j w,g=some (j,w)->az j=F j):mG g az↔mG g F:=by
 cases g with
 | none=>exact Iff.rfl
 | some qH=>obtain⟨j,w⟩:=qH;simp only[mG,h j w rfl]
theorem iJ.kill{E:iT}{F:Fr}(h:iJ E F)(d:Nat)(v:Value):iJ (kill d E) (a2 F d v):=fun x J aX=>by
 obtain⟨o,aa,aA,bj⟩:=Oi J
 rw[iP _ _ aa,iP _ _ aA]
 exact h x o ((DN fun j w e=>iP F v (bj j w e)).1 aX)
theorem aaa{l:List bG}:∀{E:iT} {x:Nat×Nat×Nat×Option (Nat×Bool)},x∈l.foldl (fun E U=>F6 U.d E) E->x∈E/\∀U∈l,U.d≠some x.1/\U.d≠some x.2.1/\∀j w,x.2.2.2=some (j,w)->U.d≠some j:=by
 induction l with
 | nil=>intro E x h;exact⟨h,fun U aQ=>by simp at aQ⟩
 | cons U l a1=>
  intro E x h
  simp only[List.foldl_cons]at h
  obtain⟨o,aa⟩:=a1 h
  cases aD:U.d with
  | none=>
   rw[aD]at o
   refine⟨o,fun kF fF=>?_⟩
   rcases List.mem_cons.1 fF with rfl | fF
   ·rw[aD];simp
   ·exact aa kF fF
  | some d=>
   rw[aD]at o
   obtain⟨a0,a4,bI,cj⟩:=Oi o
   refine⟨a0,fun kF fF=>?_⟩
   rcases List.mem_cons.1 fF with rfl | fF
   ·rw[aD]
    exact⟨fun e=>a4 (Option.some.inj e).symm,fun e=>bI (Option.some.inj e).symm,fun j w aX e=>cj j w aX (Option.some.inj e).symm⟩
   ·exact aa kF fF
theorem iJ.NX{E:iT}{F az:Fr}(h:iJ E F){l:List bG}(a_:∀r,(∀U∈l,U.d≠some r)->az r=F r):iJ (l.foldl (fun E U=>F6 U.d E) E) az:=fun x J aX=>by
 obtain⟨o,aa⟩:=aaa J
 rw[a_ _ fun U aQ=>(aa U aQ).1,a_ _ fun U aQ=>(aa U aQ).2.1]
 exact h x o ((DN fun j w e=>a_ j fun U aQ=>(aa U aQ).2.2 j w e).1 aX)
theorem KF{g kR:Option (Nat×Bool)}(h:Af g kR=true):g=kR:=by
 cases g<;>cases kR<;>simp[Af]at h⊢
 ·obtain⟨o,aa⟩:=h;exact Prod.ext o aa
theorem F_{α:Type}:∀{E:List (Nat×α)} {x:Nat} {y:α},E.lookup x=some y->(x,y)∈E
 | [],x,y,h=>by simp at h
 | (a,b)::E,x,y,h=>by
  rw[List.lookup_cons]at h
  split at h
  ·rename_i J
   have:x=a:=by simpa using J
   subst this
   obtain rfl:=Option.some.inj h
   exact List.mem_cons_self
  ·exact List.mem_cons_of_mem _ (F_ h)
theorem qR{E:iT}{F:Fr}{g:Option (Nat×Bool)}{x r off b:Nat}(h:reach E g x r off=true)(b3:iJ E F)(aX:mG g F)(al:F r= .pointer (some ⟨b,0,none⟩)):F x= .pointer (some ⟨b,off,none⟩):=by
 simp only[reach,Bool.or_eq_true,Bool.and_eq_true,beq_iff_eq]at h
 rcases h with⟨rfl,rfl⟩ | h
 ·exact al
 ·cases ar:E.lookup x with
  | none=>rw[ar]at h;cases h
  | some p=>
   obtain⟨dW,OA,kR⟩:=p
   rw[ar]at h
   simp only[Bool.and_eq_true,Bool.or_eq_true,beq_iff_eq]at h
   obtain⟨⟨rfl,rfl⟩,Vr⟩:=h
   have:=b3 _ (F_ ar)
   simp only at this
   rw[this,al]
   ·simp[pJ]
   ·rcases Vr with q | q
    ·rw[KF q];trivial
    ·rw[KF q];exact aX
structure gS (P:Program) (C:Cells) (F G:Fr) (H:ab) (a9:Nat->Option bO):Prop where
 fit:Fit a9 H
 cell:∀r e,C.lookup r=some e->F r=undef\/∃b,F r= .pointer (some ⟨b,0,none⟩)/\a9 b=some (.own e false (G r).cells.toList)/\Whole P e (G r)
 inj:∀r dW e c5 b,C.lookup r=some e->C.lookup dW=some c5->r≠dW->F r= .pointer (some ⟨b,0,none⟩)->F dW≠ .pointer (some ⟨b,0,none⟩)
section
variable {C:Cells} {F G:Fr} {H:ab} {a9:Nat->Option bO}
theorem gS.at(h:gS P C F G H a9){r e:Nat}(al:C.lookup r=some e)(aU:kj (F r)=true):∃b,F r= .pointer (some ⟨b,0,none⟩)/\a9 b=some (.own e false (G r).cells.toList)/\Whole P e (G r)/\(cC a9 H)[b]?=some (.own e false (G r).cells.toList)/\b<H.length:=by
 rcases h.cell r e al with q | ⟨b,a0,a4,bI⟩
 ·rw[q]at aU;cases aU
 ·have aD:=(h.fit b _ a4).1
  refine⟨b,a0,a4,bI,?_,(cJ.1 aD).1⟩
  rw[k1,aD,a4]
  rfl
theorem vn{r:Nat}(h:l4 C r=true):∃e,C.lookup r=some e:=Option.isSome_iff_exists.1 h
theorem gS.nR(h:gS P C F G H a9){d:Nat}(aD:l4 C d=false)(v:Value):gS P C (a2 F d v) G H a9:=by
 have ne:∀r e,C.lookup r=some e->r≠d:=fun r e al=>by rintro rfl;simp[l4,al]at aD
 refine⟨h.fit,fun r e al=>?_,fun r dW e c5 b al fO cF a_=>?_⟩
 ·rw[iP _ _ (ne r e al)];exact h.cell r e al
 ·rw[iP _ _ (ne r e al)]at a_
  rw[iP _ _ (ne dW c5 fO)]
  exact h.inj r dW e c5 b al fO cF a_
theorem gS.congr(h:gS P C F G H a9){az:Fr}{H1:ab}(a_:∀r e,C.lookup r=some e->az r=F r)(aB:Fit a9 H1):gS P C az G H1 a9:=by
 refine⟨aB,fun r e al=>?_,fun r dW e c5 b al fO cF ag=>?_⟩
 ·rw[a_ r e al];exact h.cell r e al
 ·rw[a_ r e al]at ag
  rw[a_ dW c5 fO]
  exact h.inj r dW e c5 b al fO cF ag
def se(a9:Nat->Option bO)(b:Nat)(x:bO):Nat->Option bO:=fun c=>if c=b then some x else a9 c
theorem wa(a9:Nat->Option bO)(b:Nat)(x:bO):se a9 b x b=some x:=by simp[se]
theorem v_(a9:Nat->Option bO){b c:Nat}(x:bO)(h:c≠b):se a9 b x c=a9 c:=by simp[se,h]
theorem gS.new(h:gS P C F G H a9){c e:Nat}(ae:C.lookup c=some e){z:Value}(aM:Whole P e z):
  gS P C (a2 F c (.pointer (some ⟨H.length,0,none⟩))) (a2 G c z) (H++[.dead]) (se a9 H.length (.own e false z.cells.toList))/\cC (se a9 H.length (.own e false z.cells.toList)) (H++[.dead])=cC a9 H++[.own e false z.cells.toList]:=by
 have aJ:a9 H.length=none:=by
  cases aU:a9 H.length with
  | none=>rfl
  | some x=>have:=h.fit.lt aU;omega
 refine⟨⟨fun b x ag=>?_,fun r c5 al=>?_,fun r dW bk bp b al fO cF a_=>?_⟩,?_⟩
 ·by_cases gJ:b=H.length
  ·subst gJ
   rw[wa]at ag
   obtain rfl:=Option.some.inj ag
   exact⟨by simp,_,_,_,rfl⟩
  ·rw[v_ _ _ gJ]at ag
   obtain⟨a0,a4⟩:=h.fit b x ag
   exact⟨by rw[List.getElem?_append_left (h.fit.lt ag)];exact a0,a4⟩
 ·by_cases tv:r=c
  ·subst tv
   rw[ae]at al
   obtain rfl:=Option.some.inj al
   exact .inr ⟨H.length,jG _ _ _,by rw[wa,jG],by rw[jG];exact aM⟩
  ·rw[iP _ _ tv,iP _ _ tv]
   rcases h.cell r c5 al with q | ⟨b,a0,a4,bI⟩
   ·exact .inl q
   ·have:=h.fit.lt a4
    exact .inr ⟨b,a0,by rw[v_ _ _ (by omega)];exact a4,bI⟩
 ·have lt:∀r e b,C.lookup r=some e->F r= .pointer (some ⟨b,0,none⟩)->b<H.length:=fun r e b al a_=>by
   rcases h.cell r e al with q | ⟨cy,a0,a4,bI⟩
   ·rw[q]at a_;cases a_
   ·rw[a0]at a_;simp at a_;subst a_;exact h.fit.lt a4
  by_cases o:r=c
  ·subst o
   rw[jG]at a_
   simp at a_
   subst a_
   rw[iP _ _ (Ne.symm cF)]
   intro av
   have:=lt dW bp _ fO av
   omega
  ·rw[iP _ _ o]at a_
   by_cases aa:dW=c
   ·subst aa
    rw[jG]
    intro av
    simp at av
    have:=lt r bk b al a_
    omega
   ·rw[iP _ _ aa]
    exact h.inj r dW bk bp b al fO cF a_
 ·apply List.ext_getElem?
  intro b
  rw[k1]
  by_cases ag:b<H.length
  ·rw[List.getElem?_append_left ag,List.getElem?_append_left (by rw[kn];exact ag),k1,v_ _ _ (by omega)]
  ·by_cases gJ:b=H.length
   ·subst gJ
    rw[wa,List.getElem?_append_right (Nat.le_refl _),List.getElem?_append_right (by rw[kn];exact Nat.le_refl _),kn]
    simp
   ·rw[List.getElem?_eq_none (by simp;omega),List.getElem?_eq_none (by simp[kn];omega)]
    rfl
theorem gS.set(h:gS P C F G H a9){c e b:Nat}(ae:C.lookup c=some e)(a_:F c= .pointer (some ⟨b,0,none⟩)){z:Value}(aM:Whole P e z):
  gS P C F (a2 G c z) H (se a9 b (.own e false z.cells.toList))/\cC (se a9 b (.own e false z.cells.toList)) H=(cC a9 H).set b (.own e false z.cells.toList):=by
 have ag:a9 b=some (.own e false (G c).cells.toList):=by
  rcases h.cell c e ae with q | ⟨cy,a0,a4,bI⟩
  ·rw[q]at a_;cases a_
  ·rw[a0]at a_;simp at a_;subst a_;exact a4
 have aD:=(h.fit b _ ag).1
 have g2:=h.fit.lt ag
 refine⟨⟨fun cy x df=>?_,fun r c5 al=>?_,h.inj⟩,?_⟩
 ·by_cases gJ:cy=b
  ·subst gJ
   rw[wa]at df
   obtain rfl:=Option.some.inj df
   exact⟨aD,_,_,_,rfl⟩
  ·rw[v_ _ _ gJ]at df
   exact h.fit cy x df
 ·by_cases tv:r=c
  ·subst tv
   rw[ae]at al
   obtain rfl:=Option.some.inj al
   exact .inr ⟨b,a_,by rw[wa,jG],by rw[jG];exact aM⟩
  ·rw[iP _ _ tv]
   rcases h.cell r c5 al with q | ⟨cy,a0,a4,bI⟩
   ·exact .inl q
   ·have:cy≠b:=fun e=>by subst e;exact h.inj c r e _ cy ae al (Ne.symm tv) a_ a0
    exact .inr ⟨cy,a0,by rw[v_ _ _ this];exact a4,bI⟩
 ·apply List.ext_getElem?
  intro cy
  rw[k1]
  by_cases gJ:b=cy
  ·subst gJ
   rw[wa,List.getElem?_set_self (by rw[kn];exact g2),aD]
   rfl
  ·rw[List.getElem?_set_ne gJ,k1,v_ _ _ (Ne.symm gJ)]
end
section
variable {aP:Operand->Value} {H:ab} {b e:Nat} {x y:Operand} {v:Value}
theorem uC{v:Value}(h:eS v=true):v= .agg v.cells:=by cases v<;>simp[eS]at h;rfl
theorem abU{t:Nat}(J:aP x= .pointer (some ⟨b,0,none⟩))(aW:H[b]?=some (.own e false v.cells.toList))(hw:Whole P t v):cb P aP H (.load t x)=some (v,H):=by
 obtain⟨o,aa,aA⟩:=hw
 have ae:iU H b=some v.cells.toList:=by unfold iU;rw[aW];rfl
 simp only[cb,J,ae]
 split at aA
 ·rename_i aL
  rw[aA]
  simp only[o]
  rw[if_pos (by simp)]
  have:(v.cells.toList.drop 0).take v.cells.size=v.cells.toList:=by rw[List.drop_zero,List.take_of_length_le (by simp)]
  rw[this]
  simp only[Array.toArray_toList]
  rw[<-uC aL]
 ·rw[aA.1]
  simp only
  rw[aA.2]
  rfl
theorem Pt{t off:Nat}{cs:List Value}(J:aP x= .pointer (some ⟨b,off,none⟩))(aW:H[b]?=some (.own e false cs))(ao:bA P t=some (aP y).cells.size)(bC:off+(aP y).cells.size<=cs.length)(o:((aP y).cells.toList.all (·.oneCell'))=true):
  cb P aP H (.store t x y)=some (undef,H.set b (.own e false (dp cs off (aP y).cells.toList))):=by
 simp only[cb,J,aW]
 rw[if_pos ⟨ao,bC,o⟩]
end
theorem Whole.ab1{e off:Nat}{cs:Array Value}{aG:List Value}(h:Whole P e (.agg cs))(bC:off+aG.length<=cs.size)(o:(aG.all (·.oneCell'))=true):Whole P e (.agg (dp cs.toList off aG).toArray):=by
 obtain⟨a0,a4,bI⟩:=h
 have ar:(dp cs.toList off aG).length=cs.size:=by rw[nN (by simpa using bC)];simp
 refine⟨?_,?_,by simpa[eS]using bI⟩
 ·rw[a0];simp only[Value.cells,List.size_toArray,ar]
 ·simp only[Value.cells]at a4⊢
  rw[List.all_eq_true]at a4⊢
  intro u hu
  simp only[dp,List.mem_append]at hu
  rcases hu with(hu | hu) | hu
  ·exact a4 u (List.mem_of_mem_take hu)
  ·exact List.all_eq_true.1 o u hu
  ·exact a4 u (List.mem_of_mem_drop hu)
theorem QK{t:Nat}{x:Operand}{d:Option Nat}{r:List bG}{F:Fr}{H H1:ab}{Q:Fr->ab->Prop}{v:Value}(h:cb P (aq F) H (.load t x)=some (v,H1))(ak:bn P r (ga F d v) H1 Q):bn P (⟨true,none,d,.load t x⟩::r) F H Q:=by
 simp only[bn,gx,h]
 exact⟨fun _=>trivial,ak⟩
theorem QL{t:Nat}{x y:Operand}{d:Option Nat}{r:List bG}{F:Fr}{H H1:ab}{Q:Fr->ab->Prop}{v:Value}(h:cb P (aq F) H (.store t x y)=some (v,H1))(ak:bn P r (ga F d v) H1 Q):bn P (⟨true,none,d,.store t x y⟩::r) F H Q:=by
 simp only[bn,gx,h]
 exact⟨fun _=>trivial,ak⟩
theorem afU{s f b U off:Nat}{x:Nat}{d:Nat}{r:List bG}{F:Fr}{H:ab}{Q:Fr->ab->Prop}(J:F x= .pointer (some ⟨b,off,none⟩))(aB:fW P s f=some U)(ak:bn P r (a2 F d (.pointer (some ⟨b,off+U,none⟩))) H Q):bn P (⟨true,none,some d,.fieldAddr s (.tmp x) f⟩::r) F H Q:=by
 have ao:cb P (aq F) H (.fieldAddr s (.tmp x) f)=some (.pointer (some ⟨b,off+U,none⟩),H):=by simp only[cb,aq,J,aB,Option.map_some]
 simp only[bn,gx,ao]
 exact⟨fun _=>trivial,ak⟩
theorem afc{cs aG:List Value}{i:Nat}(h:i+aG.length<=cs.length):mq cs i aG=dp cs i aG:=Hq h
theorem w9{α:Type}{U:Option α}{K:α->Prop}(h:e_ U K):∃v,U=some v/\K v:=by
 cases U with
 | none=>exact h.elim
 | some v=>exact⟨v,rfl,h⟩
theorem Gh{v:Value}{K:Array Value->Prop}(h:n2 v K):∃cs,v= .agg cs/\K cs:=by
 cases v with
 | agg cs=>exact⟨cs,rfl,h⟩
 | _=>exact h.elim
variable {C:Cells}
theorem KK{E:iT}{F:Fr}{g:Option (Nat×Bool)}{s x f r off b:Nat}(h:DG P E g s x f r off=true)(b3:iJ E F)(aX:mG g F)(al:F r= .pointer (some ⟨b,0,none⟩)):∃U,fW P s f=some U/\U<=off/\F x= .pointer (some ⟨b,off-U,none⟩):=by
 unfold DG at h
 cases hx:fW P s f with
 | none=>rw[hx]at h;cases h
 | some U=>
  rw[hx]at h
  simp only[Bool.and_eq_true,decide_eq_true_eq]at h
  exact⟨U,rfl,h.1,qR h.2 b3 aX al⟩
theorem KJ{E:iT}{F:Fr}{g:Option (Nat×Bool)}{d c off:Nat}(b3:iJ E F)(rJ:(match g with | some (j,_)=>j !=d | none=>true)=true)(aX:¬mG g F):iJ ((d,c,off,g)::kill d E) (a2 F d undef):=fun y aI vy=>by
 rcases List.mem_cons.1 aI with rfl | aI
 ·refine absurd ((DN fun j w e=>iP F undef ?_).1 vy) aX
  simp only at e
  subst e
  simpa using rJ
 ·exact b3.kill d _ y aI vy
theorem J_{F G:Fr}{H:ab}{a9:Nat->Option bO}{E:iT}{g:Option (Nat×Bool)}{t x c:Nat}(br:gS P C F G H a9)(ae:C.lookup c=some t)(hz:reach E g x c 0=true)(b3:iJ E F)(aX:mG g F)(aU:kj (F c)=true):cb P (aq F) (cC a9 H) (.load t (.tmp x))=some (G c,cC a9 H):=by
 obtain⟨b,c9,gi,eT,gj,iD⟩:=br.at ae aU
 exact abU (b:=b) (qR hz b3 aX c9) gj eT
theorem J9{F G:Fr}{H:ab}{a9:Nat->Option bO}{E:iT}{g:Option (Nat×Bool)}{t x c e off:Nat}{K:Value->Prop}(br:gS P C F G H a9)(ae:C.lookup c=some e)(hz:reach E g x c off=true)(b3:iJ E F)(aX:mG g F)
  (h:gF (kj (F c)=true) (n2 (G c) fun cs=>e_ (dr P t) fun a=>h8 a (e_ (bA P t) fun n=>gF (off+n<=cs.size) (K (.agg ((cs.toList.drop off).take n).toArray))) (e_ cs.toList[off]? fun v=>K v))):∃v,cb P (aq F) (cC a9 H) (.load t (.tmp x))=some (v,cC a9 H)/\K v:=by
 obtain⟨aU,h⟩:=h
 obtain⟨b,c9,gi,eT,gj,iD⟩:=br.at ae aU
 obtain⟨cs,gy,h⟩:=Gh h
 have J:=qR hz b3 aX c9
 have LW:iU (cC a9 H) b=some cs.toList:=by unfold iU;rw[gj,gy];rfl
 obtain⟨a,aL,h⟩:=w9 h
 cases a with
 | true=>
  obtain⟨n,aJ,bC,aV⟩:=w9 h
  exact⟨_,by simp only[cb,aq,J,LW,aL,aJ];rw[if_pos (by simpa using bC)],aV⟩
 | false=>
  obtain⟨v,an,aV⟩:=w9 h
  exact⟨v,by simp only[cb,aq,J,LW,aL,an];rfl,aV⟩
theorem Kb{F G:Fr}{H:ab}{a9:Nat->Option bO}{E:iT}{g:Option (Nat×Bool)}{t x c:Nat}{y:Operand}(br:gS P C F G H a9)(ae:C.lookup c=some t)(hz:reach E g x c 0=true)(b3:iJ E F)(aX:mG g F)(aU:kj (F c)=true)(hw:Whole P t (aq F y)):
  ∃e3,cb P (aq F) (cC a9 H) (.store t (.tmp x) y)=some (undef,cC e3 H)/\gS P C F (a2 G c (aq F y)) H e3:=by
 obtain⟨b,c9,gi,eT,gj,iD⟩:=br.at ae aU
 have J:=qR hz b3 aX c9
 have cV:(aq F y).cells.size=(G c).cells.size:=by have:=eT.1;rw[hw.1]at this;exact Option.some.inj this
 have ao:=Pt (P:=P) (aP:=aq F) (x:= .tmp x) (y:=y) J gj hw.1 (by simp;omega) hw.2.1
 obtain⟨a0,a4⟩:=br.set ae c9 hw
 refine⟨_,?_,a0⟩
 rw[ao,a4]
 have:dp (G c).cells.toList 0 (aq F y).cells.toList=(aq F y).cells.toList:=by
  simp only[dp,List.take_zero,List.nil_append,Nat.zero_add]
  rw[List.drop_eq_nil_of_le (by simp;omega),List.append_nil]
 rw[this]
theorem Ka{F G:Fr}{H:ab}{a9:Nat->Option bO}{E:iT}{g:Option (Nat×Bool)}{t x c e off:Nat}{y:Operand}{K:Value->Prop}(br:gS P C F G H a9)(ae:C.lookup c=some e)(hz:reach E g x c off=true)(b3:iJ E F)(aX:mG g F)
  (h:gF (kj (F c)=true) (n2 (G c) fun cs=>gF (bA P t=some (aq F y).cells.size/\off+(aq F y).cells.size<=cs.size/\((aq F y).cells.toList.all (·.oneCell'))=true) (K (.agg (mq cs.toList off (aq F y).cells.toList).toArray)))):
  ∃e3 v,cb P (aq F) (cC a9 H) (.store t (.tmp x) y)=some (undef,cC e3 H)/\gS P C F (a2 G c v) H e3/\K v:=by
 obtain⟨aU,h⟩:=h
 obtain⟨b,c9,gi,eT,gj,iD⟩:=br.at ae aU
 obtain⟨cs,gy,⟨o,aa,aA⟩,aV⟩:=Gh h
 have J:=qR hz b3 aX c9
 have ao:=Pt (P:=P) (aP:=aq F) (x:= .tmp x) (y:=y) J gj o (by rw[gy];simpa[Value.cells]using aa) aA
 rw[gy]at ao eT
 rw[afc (by simpa using aa)]at aV
 obtain⟨a0,a4⟩:=br.set ae c9 (eT.ab1 (aG:=(aq F y).cells.toList) (by simpa using aa) aA)
 refine⟨_,_,?_,a0,aV⟩
 rw[ao,a4]
 rfl
theorem mw:∀(l:List hf) (E:iT) (F G:Fr) (H:ab) (a9:Nat->Option bO) (Q:Fr->Fr->ab->Prop),hS P C false E l=true->gS P C F G H a9->iJ E F->dE P l F G H Q->
  bn P (q3 l) F (cC a9 H) fun az H1=>∃bE aS e3,H1=cC e3 aS/\gS P C az bE aS e3/\Q az bE aS
 | [],E,F,G,H,a9,Q,ak,br,b3,h=>⟨G,H,a9,rfl,br,h⟩
 | .xs l::r,E,F,G,H,a9,Q,ak,br,b3,h=>by
  simp only[hS,Bool.and_eq_true]at ak
  simp only[q3,hf.back]
  refine bn.append (bn.mono (fun az H1 cO=>?_) (bn.pI br.fit (bn.gN h)))
  obtain⟨aF,rfl,aB,aM,a_⟩:=cO
  have xg:∀r e,C.lookup r=some e->az r=F r:=fun r e al=>a_ r fun U aQ=>by
   have:=List.all_eq_true.1 ak.1 U aQ
   cases aD:U.d with
   | none=>simp
   | some d=>rw[aD]at this;rintro⟨rfl⟩;simp[Dx,l4,al]at this
  exact mw r _ az G aF a9 Q ak.2 (br.congr xg aB) (b3.NX a_) aM
 | .bQ c e::r,E,F,G,H,a9,Q,ak,br,b3,h=>by
  simp only[hS,Bool.and_eq_true,beq_iff_eq]at ak
  obtain⟨z,aM,⟨dS,hw⟩,aV⟩:=w9 h
  obtain⟨a0,a4⟩:=br.new ak.1 hw
  show bn P (bQ c e::q3 r) F (cC a9 H) _
  rw[QJ]
  simp only[aM]
  refine⟨⟨dS,by rw[hw.1];rfl⟩,?_⟩
  rw[kn,<-a4]
  exact mw r _ _ _ _ _ Q ak.2 a0 (b3.kill c _) aV
 | .cq c e y::r,E,F,G,H,a9,Q,ak,br,b3,h=>by
  simp only[hS,Bool.and_eq_true,beq_iff_eq]at ak
  obtain⟨hw,aV⟩:=h
  obtain⟨a0,a4⟩:=br.new ak.1 hw
  show bn P (cq c e y::q3 r) F (cC a9 H) _
  rw[QE]
  refine⟨by rw[hw.1];rfl,?_⟩
  rw[kn,<-a4]
  exact mw r _ _ _ _ _ Q ak.2 a0 (b3.kill c _) aV
 | .a7 g d s x f c off::r,E,F,G,H,a9,Q,ak,br,b3,h=>by
  simp only[hS,Bool.and_eq_true,Bool.not_eq_true']at ak
  obtain⟨⟨⟨⟨aD,ae⟩,oz⟩,rJ⟩,al⟩:=ak
  obtain⟨e,fX⟩:=vn ae
  have AR:c≠d:=fun c5=>by subst c5;rw[ae]at aD;cases aD
  simp only[dE]at h
  refine zA (h.imp (fun aX aV=>?_) fun aX aV=>?_)
  ·obtain⟨aU,aV⟩:=aV
   have D2:iJ ((d,c,off,g)::kill d E) (a2 F d (pJ (F c) off)):=fun y aI vy=>by
    rcases List.mem_cons.1 aI with rfl | aI
    ·simp only;rw[jG,iP _ _ AR]
    ·exact b3.kill d _ y aI vy
   have tw:=mw r _ _ _ _ _ Q al (br.nR aD (pJ (F c) off)) D2 aV
   obtain⟨b,c9,-⟩:=br.at fX aU
   obtain⟨U,hx,aQ,J⟩:=KK oz b3 aX c9
   refine afU J hx ?_
   rw[c9]at tw
   simp only[pJ,Nat.zero_add]at tw
   rw[show off-U+U=off by omega]
   exact tw
  ·exact mw r _ _ _ _ _ Q al (br.nR aD undef) (KJ b3 rJ aX) aV
 | .bT g d t x c::r,E,F,G,H,a9,Q,ak,br,b3,h=>by
  simp only[hS,Bool.and_eq_true,Bool.not_eq_true',beq_iff_eq]at ak
  obtain⟨⟨⟨aD,ae⟩,hz⟩,al⟩:=ak
  simp only[dE]at h
  refine zA (h.imp (fun aX aV=>?_) fun aX aV=>?_)
  ·obtain⟨aU,aV⟩:=aV
   exact QK (J_ br ae hz b3 aX aU) (mw r _ _ _ _ _ Q al (br.nR aD (G c)) (b3.kill d _) aV)
  ·exact mw r _ _ _ _ _ Q al (br.nR aD undef) (b3.kill d _) aV
 | .aE g d t x c off::r,E,F,G,H,a9,Q,ak,br,b3,h=>by
  simp only[hS,Bool.and_eq_true,Bool.not_eq_true']at ak
  obtain⟨⟨⟨aD,ae⟩,hz⟩,al⟩:=ak
  obtain⟨e,fX⟩:=vn ae
  simp only[dE]at h
  refine zA (h.imp (fun aX aV=>?_) fun aX aV=>?_)
  ·obtain⟨v,ao,D8⟩:=J9 (K:=fun v=>dE P r (a2 F d v) G H Q) br fX hz b3 aX aV
   exact QK ao (mw r _ _ _ _ _ Q al (br.nR aD v) (b3.kill d _) D8)
  ·exact mw r _ _ _ _ _ Q al (br.nR aD undef) (b3.kill d _) aV
 | .bX b g t x y c::r,E,F,G,H,a9,Q,ak,br,b3,h=>by
  simp only[hS,Bool.and_eq_true,beq_iff_eq,Bool.or_false]at ak
  obtain⟨⟨⟨ag,ae⟩,hz⟩,al⟩:=ak
  have ag:b=true:=by simpa using ag
  subst ag
  simp only[dE]at h
  refine zA (h.imp (fun aX aV=>?_) fun aX aV=>?_)
  ·obtain⟨⟨aU,hw⟩,aV⟩:=aV
   obtain⟨e3,ao,eX⟩:=Kb (y:=y) br ae hz b3 aX aU hw
   exact QL ao (mw r _ _ _ _ _ Q al eX b3 aV)
  ·exact mw r _ _ _ _ _ Q al br b3 aV
 | .st b g t x y c off::r,E,F,G,H,a9,Q,ak,br,b3,h=>by
  simp only[hS,Bool.and_eq_true]at ak
  obtain⟨⟨⟨ag,ae⟩,hz⟩,al⟩:=ak
  have ag:b=true:=by simpa using ag
  subst ag
  obtain⟨e,fX⟩:=vn ae
  simp only[dE]at h
  refine zA (h.imp (fun aX aV=>?_) fun aX aV=>?_)
  ·obtain⟨e3,v,ao,eX,aV⟩:=Ka (y:=y) (K:=fun v=>dE P r F (a2 G c v) H Q) br fX hz b3 aX aV
   exact QL ao (mw r _ _ _ _ _ Q al eX b3 aV)
  ·exact mw r _ _ _ _ _ Q al br b3 aV
theorem QI{F:Fr}{H:ab}{b cy:Bool}{ad W:List Nat}{K:Value->ab->Prop}{op:Op}(av:wb op=true)(h:gx P b F H K op):gZ P cy (aq F) H ad W (fun v H1 ft fS=>ft=ad/\fS=W/\K v H1) op:=by
 have main:jE op=false->(match cb P (aq F) H op with
   | some (v,H1)=>(h3 op=true->b=true)/\K v H1
   | none=>jE op=true/\∃v H1,n1 P (aq F) H op v H1/\(b=true\/Ext H H1)/\K v H1)->(match cb P (aq F) H op with | some (v,H1)=>ad=ad/\W=W/\K v H1 | none=>False):=by
  intro hm
  cases cb P (aq F) H op with
  | some p=>exact fun h=>⟨rfl,rfl,h.2⟩
  | none=>intro h;rw[hm]at h;cases h.1
 cases op with
 | load t x=>cases av
 | store t x y=>cases av
 | call c=>
  obtain⟨callee,args,ld⟩:=c
  cases callee with
  | value f=>cases av
  | invoke r m=>exact main rfl h
  | builtin bi=>exact main (by simpa[wb]using av) h
 | _=>exact main (by simpa[wb]using av) h
theorem fL.append:∀{l dn:List bG} {F:Fr} {H:ab} {ad W:List Nat} {Q:Fr->ab->Prop} {b:Bool},(∀U∈l,wb U.op=true)->bn P l F H (fun az H1=>fL P dn az H1 ad W Q)->fL P (l++dn) F H ad W Q
 | [],dn,F,H,ad,W,Q,b,av,h=>h
 | x::l,dn,F,H,ad,W,Q,b,av,h=>by
  have J:=av x List.mem_cons_self
  have ar:∀U∈l,wb U.op=true:=fun U aQ=>av U (List.mem_cons_of_mem _ aQ)
  simp only[List.cons_append,fL]
  simp only[bn]at h
  split
  ·rename_i aX
   rw[aX]at h
   exact gZ.mono (fun v H1 ft fS ⟨bk,bp,cO⟩=>by subst bk bp;exact fL.append (b:=b) ar cO) (QI J h)
  ·rename_i j w aX
   rw[aX]at h
   simp only at h
   split
   ·rename_i ag
    rw[if_pos ag]at h
    exact gZ.mono (fun v H1 ft fS ⟨bk,bp,cO⟩=>by subst bk bp;exact fL.append (b:=b) ar cO) (QI J h)
   ·rename_i ag
    rw[if_neg ag]at h
    exact fL.append (b:=b) ar h
theorem afG{s f b U off:Nat}{x:Nat}{d:Nat}{r:List bG}{F:Fr}{H:ab}{ad W:List Nat}{Q:Fr->ab->Prop}(J:F x= .pointer (some ⟨b,off,none⟩))(aB:fW P s f=some U)(ak:fL P r (a2 F d (.pointer (some ⟨b,off+U,none⟩))) H ad W Q):fL P (⟨true,none,some d,.fieldAddr s (.tmp x) f⟩::r) F H ad W Q:=by
 have ao:cb P (aq F) H (.fieldAddr s (.tmp x) f)=some (.pointer (some ⟨b,off+U,none⟩),H):=by simp only[cb,aq,J,aB,Option.map_some]
 simp only[fL,gZ,ao]
 exact ak
theorem QG{t b i:Nat}{x:Operand}{d:Option Nat}{r:List bG}{F:Fr}{H H1:ab}{ad W:List Nat}{Q:Fr->ab->Prop}{v:Value}(J:aq F x= .pointer (some ⟨b,i,none⟩))(vj:b∉W)(h:cb P (aq F) H (.load t x)=some (v,H1))(ak:fL P r (ga F d v) H1 (b::ad) W Q):fL P (⟨true,none,d,.load t x⟩::r) F H ad W Q:=by
 simp only[fL,gZ,J,h]
 exact⟨vj,ak⟩
theorem QH{mF:Bool}{t b i:Nat}{x y:Operand}{d:Option Nat}{r:List bG}{F:Fr}{H H1:ab}{ad W:List Nat}{Q:Fr->ab->Prop}{v:Value}(J:aq F x= .pointer (some ⟨b,i,none⟩))(vj:mF=true\/(b∉W/\b∉ad))(h:cb P (aq F) H (.store t x y)=some (v,H1))(ak:fL P r (ga F d v) H1 ad (if mF=true then W else b::W) Q):fL P (⟨mF,none,d,.store t x y⟩::r) F H ad W Q:=by
 simp only[fL,gZ,J,h]
 exact⟨vj,ak⟩
def o6(C:Cells)(F:Fr)(gn ad:List Nat):Prop:=∀b∈ad,∃c e,c∈gn/\C.lookup c=some e/\F c= .pointer (some ⟨b,0,none⟩)
theorem o6.not{F G:Fr}{H:ab}{a9:Nat->Option bO}{gn ad:List Nat}{c e b:Nat}(h:o6 C F gn ad)(br:gS P C F G H a9)(ae:C.lookup c=some e)(a_:F c= .pointer (some ⟨b,0,none⟩))(aJ:c∉gn):b∉ad:=fun ag=>by
 obtain⟨dY,c5,o,aa,aA⟩:=h b ag
 have:dY≠c:=fun e=>aJ (e▸o)
 exact br.inj dY c c5 e b aa ae this aA a_
theorem o6.cons{F:Fr}{gn ad:List Nat}{c e b:Nat}(h:o6 C F gn ad)(ae:C.lookup c=some e)(a_:F c= .pointer (some ⟨b,0,none⟩)):o6 C F (c::gn) (b::ad):=fun cy ag=>by
 rcases List.mem_cons.1 ag with rfl | ag
 ·exact⟨c,e,List.mem_cons_self,ae,a_⟩
 ·obtain⟨dY,c5,o,aa,aA⟩:=h cy ag
  exact⟨dY,c5,List.mem_cons_of_mem _ o,aa,aA⟩
theorem o6.congr{F az:Fr}{gn ad:List Nat}(h:o6 C F gn ad)(a_:∀r e,C.lookup r=some e->az r=F r):o6 C az gn ad:=fun b ag=>by
 obtain⟨c,e,o,aa,aA⟩:=h b ag
 exact⟨c,e,o,aa,by rw[a_ c e aa];exact aA⟩
theorem nS{F:Fr}{d:Nat}{v:Value}(aD:l4 C d=false):∀r e,C.lookup r=some e->a2 F d v r=F r:=fun r e al=>iP _ _ (by rintro rfl;simp[l4,al]at aD)
theorem nU:∀(l:List hf) (E:iT) (gn hD ad W:List Nat) (F G:Fr) (H:ab) (a9:Nat->Option bO) (Q:Fr->Fr->ab->Prop),hS P C true E l=true->mv gn hD l=true->o6 C F gn ad->o6 C F hD W->gS P C F G H a9->iJ E F->dE P l F G H Q->
  fL P (q3 l) F (cC a9 H) ad W fun az H1=>∃bE aS e3,H1=cC e3 aS/\gS P C az bE aS e3/\Q az bE aS
 | [],E,gn,hD,ad,W,F,G,H,a9,Q,ak,gA,iX,h0,br,b3,h=>⟨G,H,a9,rfl,br,h⟩
 | .xs l::r,E,gn,hD,ad,W,F,G,H,a9,Q,ak,gA,iX,h0,br,b3,h=>by
  simp only[hS,Bool.and_eq_true]at ak
  simp only[mv,Bool.and_eq_true]at gA
  simp only[q3,hf.back]
  refine fL.append (b:=true) (fun U aQ=>List.all_eq_true.1 gA.1 U aQ) (bn.mono (fun az H1 cO=>?_) (bn.pI br.fit (bn.gN h)))
  obtain⟨aF,rfl,aB,aM,a_⟩:=cO
  have xg:∀r e,C.lookup r=some e->az r=F r:=fun r e al=>a_ r fun U aQ=>by
   have:=List.all_eq_true.1 ak.1 U aQ
   cases aD:U.d with
   | none=>simp
   | some d=>rw[aD]at this;rintro⟨rfl⟩;simp[Dx,l4,al]at this
  exact nU r _ gn hD ad W az G aF a9 Q ak.2 gA.2 (iX.congr xg) (h0.congr xg) (br.congr xg aB) (b3.NX a_) aM
 | .bQ c e::r,E,gn,hD,ad,W,F,G,H,a9,Q,ak,gA,iX,h0,br,b3,h=>by cases gA
 | .cq c e y::r,E,gn,hD,ad,W,F,G,H,a9,Q,ak,gA,iX,h0,br,b3,h=>by cases gA
 | .a7 g d s x f c off::r,E,gn,hD,ad,W,F,G,H,a9,Q,ak,gA,iX,h0,br,b3,h=>by
  simp only[hS,Bool.and_eq_true,Bool.not_eq_true']at ak
  simp only[mv]at gA
  obtain⟨⟨⟨⟨aD,ae⟩,oz⟩,rJ⟩,al⟩:=ak
  obtain⟨e,fX⟩:=vn ae
  have AR:c≠d:=fun c5=>by subst c5;rw[ae]at aD;cases aD
  simp only[dE]at h
  refine zy (h.imp (fun aX aV=>?_) fun aX aV=>?_)
  ·obtain⟨aU,aV⟩:=aV
   have D2:iJ ((d,c,off,g)::kill d E) (a2 F d (pJ (F c) off)):=fun y aI vy=>by
    rcases List.mem_cons.1 aI with rfl | aI
    ·simp only;rw[jG,iP _ _ AR]
    ·exact b3.kill d _ y aI vy
   have tw:=nU r _ gn hD ad W _ _ _ _ Q al gA (iX.congr (nS aD)) (h0.congr (nS aD)) (br.nR aD (pJ (F c) off)) D2 aV
   obtain⟨b,c9,-⟩:=br.at fX aU
   obtain⟨U,hx,aQ,J⟩:=KK oz b3 aX c9
   refine afG J hx ?_
   rw[c9]at tw
   simp only[pJ,Nat.zero_add]at tw
   rw[show off-U+U=off by omega]
   exact tw
  ·exact nU r _ gn hD ad W _ _ _ _ Q al gA (iX.congr (nS aD)) (h0.congr (nS aD)) (br.nR aD undef) (KJ b3 rJ aX) aV
 | .bT g d t x c::r,E,gn,hD,ad,W,F,G,H,a9,Q,ak,gA,iX,h0,br,b3,h=>by
  simp only[hS,Bool.and_eq_true,Bool.not_eq_true',beq_iff_eq]at ak
  simp only[mv,Bool.and_eq_true,Bool.not_eq_true']at gA
  obtain⟨⟨⟨aD,ae⟩,hz⟩,al⟩:=ak
  simp only[dE]at h
  refine zy (h.imp (fun aX aV=>?_) fun aX aV=>?_)
  ·obtain⟨aU,aV⟩:=aV
   obtain⟨b,c9,-⟩:=br.at ae aU
   exact QG (i:=0) (qR hz b3 aX c9) (h0.not br ae c9 (by simpa using gA.1)) (J_ br ae hz b3 aX aU)
    (nU r _ (c::gn) hD _ W _ _ _ _ Q al gA.2 ((iX.cons ae c9).congr (nS aD)) (h0.congr (nS aD)) (br.nR aD (G c)) (b3.kill d _) aV)
  ·refine nU r _ (c::gn) hD ad W _ _ _ _ Q al gA.2 (fun b ag=>?_) (h0.congr (nS aD)) (br.nR aD undef) (b3.kill d _) aV
   obtain⟨dY,c5,o,aa⟩:=(iX.congr (nS aD)) b ag
   exact⟨dY,c5,List.mem_cons_of_mem _ o,aa⟩
 | .aE g d t x c off::r,E,gn,hD,ad,W,F,G,H,a9,Q,ak,gA,iX,h0,br,b3,h=>by
  simp only[hS,Bool.and_eq_true,Bool.not_eq_true']at ak
  simp only[mv,Bool.and_eq_true,Bool.not_eq_true']at gA
  obtain⟨⟨⟨aD,ae⟩,hz⟩,al⟩:=ak
  obtain⟨e,fX⟩:=vn ae
  simp only[dE]at h
  refine zy (h.imp (fun aX aV=>?_) fun aX aV=>?_)
  ·obtain⟨b,c9,-⟩:=br.at fX aV.1
   obtain⟨v,ao,D8⟩:=J9 (K:=fun v=>dE P r (a2 F d v) G H Q) br fX hz b3 aX aV
   exact QG (i:=off) (qR hz b3 aX c9) (h0.not br fX c9 (by simpa using gA.1)) ao
    (nU r _ (c::gn) hD _ W _ _ _ _ Q al gA.2 ((iX.cons fX c9).congr (nS aD)) (h0.congr (nS aD)) (br.nR aD v) (b3.kill d _) D8)
  ·refine nU r _ (c::gn) hD ad W _ _ _ _ Q al gA.2 (fun b ag=>?_) (h0.congr (nS aD)) (br.nR aD undef) (b3.kill d _) aV
   obtain⟨dY,c5,o,aa⟩:=(iX.congr (nS aD)) b ag
   exact⟨dY,c5,List.mem_cons_of_mem _ o,aa⟩
 | .bX mF g t x y c::r,E,gn,hD,ad,W,F,G,H,a9,Q,ak,gA,iX,h0,br,b3,h=>by
  simp only[hS,Bool.and_eq_true,beq_iff_eq]at ak
  simp only[mv,Bool.and_eq_true,Bool.or_eq_true,Bool.not_eq_true']at gA
  obtain⟨⟨⟨-,ae⟩,hz⟩,al⟩:=ak
  simp only[dE]at h
  refine zy (h.imp (fun aX aV=>?_) fun aX aV=>?_)
  ·obtain⟨⟨aU,hw⟩,aV⟩:=aV
   obtain⟨b,c9,-⟩:=br.at ae aU
   obtain⟨e3,ao,eX⟩:=Kb (y:=y) br ae hz b3 aX aU hw
   refine QH (i:=0) (qR hz b3 aX c9) (gA.1.imp id fun q=>⟨h0.not br ae c9 (by simpa using q.1),iX.not br ae c9 (by simpa using q.2)⟩) ao
    (nU r _ gn (if mF=true then hD else c::hD) ad _ _ _ _ _ Q al gA.2 iX ?_ eX b3 aV)
   cases mF with
   | true=>exact h0
   | false=>exact h0.cons ae c9
  ·refine nU r _ gn (if mF=true then hD else c::hD) ad W _ _ _ _ Q al gA.2 iX (fun b ag=>?_) br b3 aV
   obtain⟨dY,c5,o,aa⟩:=h0 b ag
   cases mF with
   | true=>exact⟨dY,c5,o,aa⟩
   | false=>exact⟨dY,c5,List.mem_cons_of_mem _ o,aa⟩
 | .st mF g t x y c off::r,E,gn,hD,ad,W,F,G,H,a9,Q,ak,gA,iX,h0,br,b3,h=>by
  simp only[hS,Bool.and_eq_true]at ak
  simp only[mv,Bool.and_eq_true,Bool.or_eq_true,Bool.not_eq_true']at gA
  obtain⟨⟨⟨-,ae⟩,hz⟩,al⟩:=ak
  obtain⟨e,fX⟩:=vn ae
  simp only[dE]at h
  refine zy (h.imp (fun aX aV=>?_) fun aX aV=>?_)
  ·obtain⟨b,c9,-⟩:=br.at fX aV.1
   obtain⟨e3,v,ao,eX,aV⟩:=Ka (y:=y) (K:=fun v=>dE P r F (a2 G c v) H Q) br fX hz b3 aX aV
   refine QH (i:=off) (qR hz b3 aX c9) (gA.1.imp id fun q=>⟨h0.not br fX c9 (by simpa using q.1),iX.not br fX c9 (by simpa using q.2)⟩) ao
    (nU r _ gn (if mF=true then hD else c::hD) ad _ _ _ _ _ Q al gA.2 iX ?_ eX b3 aV)
   cases mF with
   | true=>exact h0
   | false=>exact h0.cons fX c9
  ·refine nU r _ gn (if mF=true then hD else c::hD) ad W _ _ _ _ Q al gA.2 iX (fun b ag=>?_) br b3 aV
   obtain⟨dY,c5,o,aa⟩:=h0 b ag
   cases mF with
   | true=>exact⟨dY,c5,o,aa⟩
   | false=>exact⟨dY,c5,List.mem_cons_of_mem _ o,aa⟩
theorem n2.imp{v:Value}{K er:Array Value->Prop}(h:n2 v K)(ak:∀cs,K cs->er cs):n2 v er:=by
 obtain⟨cs,rfl,h⟩:=Gh h
 exact ak cs h
theorem e_.imp{α:Type}{U:Option α}{K er:α->Prop}(h:e_ U K)(ak:∀v,K v->er v):e_ U er:=by
 obtain⟨v,rfl,h⟩:=w9 h
 exact ak v h
theorem gF.imp{c K er:Prop}(h:gF c K)(ak:K->er):gF c er:=⟨h.1,ak h.2⟩
theorem h8.imp{b:Bool}{A B wB k5:Prop}(h:h8 b A B)(o:A->wB)(aa:B->k5):h8 b wB k5:=by
 cases b
 ·exact aa h
 ·exact o h
theorem dE.gN:∀{l:List hf} {m k:Nat} {F G:Fr} {H:ab} {Q cl:Fr->Fr->ab->Prop},(l.all (wT m k))=true->(∀az bE H1,(∀r,g7 m r=false->az r=F r)->(∀r,g7 k r=false->bE r=G r)->Q az bE H1->cl az bE H1)->dE P l F G H Q->dE P l F G H cl
 | [],m,k,F,G,H,Q,cl,aL,av,h=>av _ _ _ (fun _ _=>rfl) (fun _ _=>rfl) h
 | i::l,m,k,F,G,H,Q,cl,aL,av,h=>by
  simp only[List.all_cons,Bool.and_eq_true]at aL
  have q0:∀{d:Nat} {v:Value} {zF:Fr} {aF:ab},g7 m d=true->(∀r,g7 k r=false->zF r=G r)->dE P l (a2 F d v) zF aF Q->dE P l (a2 F d v) zF aF cl:=fun{d v zF aF} aD gV o=>
   dE.gN aL.2 (fun az bE H1 f1 cr=>av az bE H1 (fun r al=>by rw[f1 r al,iP];rintro rfl;rw[aD]at al;cases al) (fun r al=>by rw[cr r al,gV r al])) o
  have Ql:∀{c:Nat} {v:Value} {aF:ab},g7 k c=true->dE P l F (a2 G c v) aF Q->dE P l F (a2 G c v) aF cl:=fun{c v aF} ae o=>
   dE.gN aL.2 (fun az bE H1 f1 cr=>av az bE H1 f1 (fun r al=>by rw[cr r al,iP];rintro rfl;rw[ae]at al;cases al)) o
  have Ou:∀{c:Nat} {v:Value},g7 k c=true->∀r,g7 k r=false->a2 G c v r=G r:=fun{c v} ae r al=>iP _ _ (by rintro rfl;rw[ae]at al;cases al)
  cases i with
  | xs afF=>
   simp only[dE]at h⊢
   refine bn.mono (fun az H1 ⟨o,a_⟩=>dE.gN aL.2 (fun bR c4 aS f2 iL=>av bR c4 aS (fun r al=>?_) iL) o) (bn.gN h)
   rw[f2 r al,a_ r fun U aQ aD=>?_]
   have:=List.all_eq_true.1 aL.1 U aQ
   rw[aD]at this
   simp only[Kx]at this
   rw[this]at al
   cases al
  | bQ c e=>
   simp only[wT,Bool.and_eq_true]at aL
   simp only[dE]at h⊢
   exact h.imp fun z aM=>aM.imp (q0 aL.1.1 (Ou aL.1.2))
  | cq c e y=>
   simp only[wT,Bool.and_eq_true]at aL
   simp only[dE]at h⊢
   exact h.imp (q0 aL.1.1 (Ou aL.1.2))
  | a7 g d s x f c off=>
   simp only[dE]at h⊢
   exact h.imp (fun _ q=>q.imp (q0 aL.1 fun _ _=>rfl)) fun _=>q0 aL.1 fun _ _=>rfl
  | bT g d t x c=>
   simp only[dE]at h⊢
   exact h.imp (fun _ q=>q.imp (q0 aL.1 fun _ _=>rfl)) fun _=>q0 aL.1 fun _ _=>rfl
  | aE g d t x c off=>
   simp only[dE]at h⊢
   exact h.imp (fun _ q=>q.imp fun q=>q.imp fun cs q=>q.imp fun a q=>q.imp (fun q=>q.imp fun n q=>q.imp (q0 aL.1 fun _ _=>rfl)) fun q=>q.imp fun v=>q0 aL.1 fun _ _=>rfl) fun _=>q0 aL.1 fun _ _=>rfl
  | bX b g t x y c=>
   simp only[dE]at h⊢
   exact h.imp (fun _ q=>q.imp (Ql aL.1)) fun _=>dE.gN aL.2 av
  | st b g t x y c off=>
   simp only[dE]at h⊢
   exact h.imp (fun _ q=>q.imp fun q=>q.imp fun cs q=>q.imp (Ql aL.1)) fun _=>dE.gN aL.2 av
theorem e6.gN:∀{x:e5} {m k:Nat} {F G:Fr} {H:ab} {Q cl:dP->Fr->Fr->ab->Prop},kv m k x=true->(∀e az bE H1,(∀r,g7 m r=false->az r=F r)->(∀r,g7 k r=false->bE r=G r)->Q e az bE H1->cl e az bE H1)->e6 P x F G H Q->e6 P x F G H cl
 | .skip,m,k,F,G,H,Q,cl,aL,av,h=>av _ _ _ _ (fun _ _=>rfl) (fun _ _=>rfl) h
 | .ret,m,k,F,G,H,Q,cl,aL,av,h=>av _ _ _ _ (fun _ _=>rfl) (fun _ _=>rfl) h
 | .exit id,m,k,F,G,H,Q,cl,aL,av,h=>av _ _ _ _ (fun _ _=>rfl) (fun _ _=>rfl) h
 | .seq x y,m,k,F,G,H,Q,cl,aL,av,h=>by
  simp only[kv,Bool.and_eq_true]at aL
  refine e6.gN (x:=x) aL.1 (fun e az bE H1 f1 cr o=>?_) h
  cases e with
  | normal=>exact e6.gN (x:=y) aL.2 (fun e bR c4 aS f2 iL=>av e bR c4 aS (fun r al=>by rw[f2 r al,f1 r al]) (fun r al=>by rw[iL r al,cr r al])) o
  | exit id=>exact av _ _ _ _ f1 cr o
  | ret=>exact av _ _ _ _ f1 cr o
 | .cond c x y,m,k,F,G,H,Q,cl,aL,av,h=>by
  simp only[kv,Bool.and_eq_true]at aL
  simp only[e6]at h⊢
  cases an:aq F c<;>rw[an]at h<;>try exact h.elim
  rename_i b
  cases b with
  | true=>exact e6.gN (x:=x) aL.1 av h
  | false=>exact e6.gN (x:=y) aL.2 av h
 | .block id x,m,k,F,G,H,Q,cl,aL,av,h=>by
  simp only[kv]at aL
  refine e6.gN (x:=x) aL (fun e az bE H1 f1 cr o=>?_) h
  cases e with
  | normal=>exact av _ _ _ _ f1 cr o
  | ret=>exact av _ _ _ _ f1 cr o
  | exit h2=>
   simp only[rf]at o⊢
   split
   ·rename_i af;rw[if_pos af]at o;exact av _ _ _ _ f1 cr o
   ·rename_i af;rw[if_neg af]at o;exact av _ _ _ _ f1 cr o
 | .loop m1 b_ x,m,k,F,G,H,Q,cl,aL,av,h=>by
  simp only[kv]at aL
  simp only[e6]at h⊢
  induction h with
  | round ai ag dj a1=>
   rename_i QR QT cE
   refine .round (fun az bE H1=>ai az bE H1/\(∀r,g7 m r=false->az r=QR r)/\∀r,g7 k r=false->bE r=QT r) (e6.gN (x:=x) aL (fun e az bE H1 f1 cr o=>?_) ag) ?_
   ·cases e with
    | normal=>exact⟨o,f1,cr⟩
    | exit id=>exact av _ _ _ _ f1 cr o
    | ret=>exact av _ _ _ _ f1 cr o
   ·rintro az bE H1 ⟨o,f1,cr⟩
    exact a1 az bE H1 o fun e bR c4 aS f2 iL=>av e bR c4 aS (fun r al=>by rw[f2 r al,f1 r al]) (fun r al=>by rw[iL r al,cr r al])
 | .box m1 b_ x,m,k,F,G,H,Q,cl,aL,av,h=>e6.gN (x:=x) aL av h
 | .ops l,m,k,F,G,H,Q,cl,aL,av,h=>dE.gN aL (fun az bE H1=>av _ az bE H1) h
 | .opsL l,m,k,F,G,H,Q,cl,aL,av,h=>dE.gN aL (fun az bE H1=>av _ az bE H1) h
theorem dE.mono:∀{l:List hf} {F G:Fr} {H:ab} {Q cl:Fr->Fr->ab->Prop},(∀F G H,Q F G H->cl F G H)->dE P l F G H Q->dE P l F G H cl
 | [],F,G,H,Q,cl,av,h=>av _ _ _ h
 | i::l,F,G,H,Q,cl,av,h=>by
  have a1:∀{F G:Fr} {H:ab},dE P l F G H Q->dE P l F G H cl:=dE.mono av
  cases i<;>simp only[dE]at h⊢
  case xs afF=>exact bn.mono (fun az H1=>a1) h
  case bQ=>exact h.imp fun z aM=>aM.imp a1
  case cq=>exact h.imp a1
  case a7=>exact h.imp (fun _ q=>q.imp a1) fun _=>a1
  case bT=>exact h.imp (fun _ q=>q.imp a1) fun _=>a1
  case aE=>exact h.imp (fun _ q=>q.imp fun q=>q.imp fun cs q=>q.imp fun a q=>q.imp (fun q=>q.imp fun n q=>q.imp a1) fun q=>q.imp fun v=>a1) fun _=>a1
  case bX=>exact h.imp (fun _ q=>q.imp a1) fun _=>a1
  case st=>exact h.imp (fun _ q=>q.imp fun q=>q.imp fun cs q=>q.imp a1) fun _=>a1
theorem e6.mono:∀{x:e5} {F G:Fr} {H:ab} {Q cl:dP->Fr->Fr->ab->Prop},(∀e F G H,Q e F G H->cl e F G H)->e6 P x F G H Q->e6 P x F G H cl
 | .skip,F,G,H,Q,cl,av,h=>av _ _ _ _ h
 | .ret,F,G,H,Q,cl,av,h=>av _ _ _ _ h
 | .exit id,F,G,H,Q,cl,av,h=>av _ _ _ _ h
 | .seq x y,F,G,H,Q,cl,av,h=>by
  refine e6.mono (x:=x) (fun e az bE H1 o=>?_) h
  cases e with
  | normal=>exact e6.mono (x:=y) av o
  | exit id=>exact av _ _ _ _ o
  | ret=>exact av _ _ _ _ o
 | .cond c x y,F,G,H,Q,cl,av,h=>by
  simp only[e6]at h⊢
  cases an:aq F c<;>rw[an]at h<;>try exact h.elim
  rename_i b
  cases b with
  | true=>exact e6.mono (x:=x) av h
  | false=>exact e6.mono (x:=y) av h
 | .block id x,F,G,H,Q,cl,av,h=>by
  refine e6.mono (x:=x) (fun e az bE H1 o=>?_) h
  cases e with
  | normal=>exact av _ _ _ _ o
  | ret=>exact av _ _ _ _ o
  | exit h2=>
   simp only[rf]at o⊢
   split
   ·rename_i af;rw[if_pos af]at o;exact av _ _ _ _ o
   ·rename_i af;rw[if_neg af]at o;exact av _ _ _ _ o
 | .loop m1 b_ x,F,G,H,Q,cl,av,h=>by
  simp only[e6]at h⊢
  induction h with
  | round ai ag dj a1=>
   refine .round ai (e6.mono (x:=x) (fun e az bE H1 o=>?_) ag) a1
   cases e with
   | normal=>exact o
   | exit id=>exact av _ _ _ _ o
   | ret=>exact av _ _ _ _ o
 | .box m1 b_ x,F,G,H,Q,cl,av,h=>e6.mono (x:=x) av h
 | .ops l,F,G,H,Q,cl,av,h=>dE.mono (fun az bE H1=>av _ az bE H1) h
 | .opsL l,F,G,H,Q,cl,av,h=>dE.mono (fun az bE H1=>av _ az bE H1) h
theorem sC:∀(z:e5) (F G:Fr) (H:ab) (a9:Nat->Option bO) (Q:dP->Fr->Fr->ab->Prop),kL P C z=true->gS P C F G H a9->e6 P z F G H Q->
  eL P z.back F (cC a9 H) fun e az H1=>∃bE aS e3,H1=cC e3 aS/\gS P C az bE aS e3/\Q e az bE aS
 | .skip,F,G,H,a9,Q,ak,br,h=>⟨G,H,a9,rfl,br,h⟩
 | .ret,F,G,H,a9,Q,ak,br,h=>⟨G,H,a9,rfl,br,h⟩
 | .exit id,F,G,H,a9,Q,ak,br,h=>⟨G,H,a9,rfl,br,h⟩
 | .seq x y,F,G,H,a9,Q,ak,br,h=>by
  simp only[kL,Bool.and_eq_true]at ak
  refine eL.mono (x:=x.back) (fun e az H1 ⟨bE,aS,e3,bk,eX,av⟩=>?_) (sC x F G H a9 _ ak.1 br h)
  cases e with
  | normal=>rw[bk];exact sC y az bE aS e3 Q ak.2 eX av
  | exit id=>exact⟨bE,aS,e3,bk,eX,av⟩
  | ret=>exact⟨bE,aS,e3,bk,eX,av⟩
 | .cond c x y,F,G,H,a9,Q,ak,br,h=>by
  simp only[kL,Bool.and_eq_true]at ak
  simp only[e6]at h
  simp only[e5.back,eL]
  cases an:aq F c<;>rw[an]at h<;>try exact h.elim
  rename_i b
  cases b with
  | true=>exact sC x F G H a9 Q ak.1 br h
  | false=>exact sC y F G H a9 Q ak.2 br h
 | .block id x,F,G,H,a9,Q,ak,br,h=>by
  simp only[kL]at ak
  refine eL.mono (x:=x.back) (fun e az H1 ⟨bE,aS,e3,bk,eX,av⟩=>?_) (sC x F G H a9 _ ak br h)
  cases e with
  | normal=>exact⟨bE,aS,e3,bk,eX,av⟩
  | exit h2=>
   simp only[rf]at av
   simp only[p5]
   split
   ·rename_i af;rw[if_pos af]at av;exact⟨bE,aS,e3,bk,eX,av⟩
   ·rename_i af;rw[if_neg af]at av;exact⟨bE,aS,e3,bk,eX,av⟩
  | ret=>exact⟨bE,aS,e3,bk,eX,av⟩
 | .loop m k x,F,G,H,a9,Q,ak,br,h=>by
  simp only[kL,Bool.and_eq_true]at ak
  simp only[e6]at h
  simp only[e5.back,eL]
  induction h generalizing a9 with
  | round ai ag dj a1=>
   refine .round (fun az H1=>∃bE aS e3,H1=cC e3 aS/\gS P C az bE aS e3/\ai az bE aS) (eL.mono (x:=x.back) (fun e az H1 ⟨bE,aS,e3,bk,eX,av⟩=>?_) (sC x _ _ _ a9 _ ak.2 br ag)) ?_
   ·rintro az H1 ⟨bE,aS,e3,bk,eX,av⟩
    rw[bk]
    exact a1 az bE aS av e3 eX
   ·cases e with
    | normal=>exact⟨bE,aS,e3,bk,eX,av⟩
    | exit id=>exact⟨bE,aS,e3,bk,eX,av⟩
    | ret=>exact⟨bE,aS,e3,bk,eX,av⟩
 | .box m k x,F,G,H,a9,Q,ak,br,h=>by
  simp only[kL,Bool.and_eq_true]at ak
  exact sC x F G H a9 Q ak.2 br h
 | .ops l,F,G,H,a9,Q,ak,br,h=>mw l [] F G H a9 _ ak br (iJ.nil F) h
 | .opsL l,F,G,H,a9,Q,ak,br,h=>by
  simp only[kL,Bool.and_eq_true]at ak
  exact nU l [] [] [] [] [] F G H a9 _ ak.1 ak.2 (fun b ag=>by simp at ag) (fun b ag=>by simp at ag) br (iJ.nil F) h
theorem CT{F G:Fr}{H:ab}{a9:Nat->Option bO}(br:gS P C F G H a9):∀(rs:List j6) (K:List Value->Prop),ur C rs=true->o8 F G rs K->ku P F (cC a9 H) (rs.map j6.back) K
 | [],K,ak,h=>h
 | .tmp i::rs,K,ak,h=>CT br rs _ (by simpa[ur]using ak) h
 | .cell a ty::rs,K,ak,h=>by
  simp only[ur,List.all_cons,Bool.and_eq_true,beq_iff_eq]at ak
  obtain⟨aU,h⟩:=h
  obtain⟨b,c9,gi,⟨a6,hq,cn⟩,gj,iD⟩:=br.at ak.1 aU
  have a1:=CT br rs (fun aG=>K (G a::aG)) (by simpa[ur]using ak.2) h
  simp only[List.map_cons,j6.back,ku,c9]
  have ae:iU (cC a9 H) b=some (G a).cells.toList:=by unfold iU;rw[gj];rfl
  rw[ae]
  simp only
  split at cn
  ·rename_i aL
   rw[cn]
   simp only[a6]
   refine⟨by simp,?_⟩
   have:(((G a).cells.toList.drop 0).take (G a).cells.size)=(G a).cells.toList:=by rw[List.drop_zero,List.take_of_length_le (by simp)]
   rw[this]
   simp only[Array.toArray_toList]
   rw[<-uC aL]
   exact a1
  ·rw[cn.1]
   simp only
   rw[cn.2]
   exact a1
def lX(a9:Nat->Option bO)(n:Nat):Nat->Option bO:=fun b=>if b<n then none else a9 b
theorem NW{f:FuncId}{args:List Value}{v:Value}{H H1:ab}{a9:Nat->Option bO}(aB:Fit a9 H1)(h:ee P (.call f args H) (.val v (cC a9 H1))):∀n,ee P (.call f args H) (.val v (cC (lX a9 n) H1))
 | 0=>by
  have:lX a9 0=a9:=by funext b;simp[lX]
  rw[this];exact h
 | n+1=>by
  have a1:=NW aB h n
  cases aU:a9 n with
  | none=>
   have:lX a9 (n+1)=lX a9 n:=by
    funext b
    unfold lX
    by_cases ag:b=n
    ·subst ag;simp[aU]
    ·by_cases aZ:b<n
     ·rw[if_pos (by omega),if_pos aZ]
     ·rw[if_neg (by omega),if_neg aZ]
   rw[this];exact a1
  | some x=>
   obtain⟨aD,e,l,cs,J⟩:=aB n x aU
   have aZ:=aB.lt aU
   have jR:(cC (lX a9 n) H1)[n]?=some (.own e l cs):=by
    rw[k1,aD]
    simp[lX,aU,J]
   have aa:=ee.z0 a1 ⟨e,l,cs,jR⟩
   have:(cC (lX a9 n) H1).set n .dead=cC (lX a9 (n+1)) H1:=by
    apply List.ext_getElem?
    intro b
    by_cases ag:n=b
    ·subst ag
     rw[List.getElem?_set_self (by rw[kn];exact aZ),k1,aD]
     simp[lX]
    ·rw[List.getElem?_set_ne ag,k1,k1]
     congr 1
     funext y
     unfold lX
     by_cases ar:b<n
     ·rw[if_pos ar,if_pos (by omega)]
     ·rw[if_neg ar,if_neg (by omega)]
   rw[<-this];exact aa
theorem RT{H1:ab}{a9:Nat->Option bO}(aB:Fit a9 H1):cC (lX a9 H1.length) H1=H1:=by
 apply List.ext_getElem?
 intro b
 rw[k1]
 by_cases ag:b<H1.length
 ·simp[lX,ag]
 ·rw[List.getElem?_eq_none (by omega)];rfl
theorem aO.agp{f:FuncId}{fn:Func}{z:cD}{args:List Value}{H:ab}{Q:Value->ab->Prop}(aB:P.funcs[f]?=some fn)(aJ:(fn.name== "runtime.NumGoroutine")=false)(ae:comp P fn=some z.back)(aM:(kL P C z.code&&ur C z.results)=true)
  (ar:args.length<=fn.ntmps)(xb:(C.all fun p=>decide (args.length<=p.1))=true)(h:e6 P z.code (jK args) (fun _=>undef) H (y5 z.results Q)):aO P f args H Q:=by
 simp only[Bool.and_eq_true]at aM
 have vJ:cC (fun _=>none) H=H:=by
  apply List.ext_getElem?
  intro b
  rw[k1]
  cases H[b]?<;>rfl
 have br:gS P C (jK args) (fun _=>undef) H (fun _=>none):=by
  have hu:∀r e,C.lookup r=some e->jK args r=undef:=fun r e al=>by
   have:=of_decide_eq_true (List.all_eq_true.1 xb _ (F_ al))
   simp only at this
   unfold jK
   rw[List.getD_eq_getElem?_getD,List.getElem?_eq_none this]
   rfl
  exact⟨fun b x ag=>(by cases ag),fun r e al=> .inl (hu r e al),fun r dW e c5 b al fO cF a_=>by rw[hu r e al]at a_;cases a_⟩
 have J:=sC z.code _ _ _ _ _ aM.1 br h
 rw[vJ]at J
 obtain⟨v,H1,o,aa,aA⟩:=aO.NS (Q:=fun v H1=>∃e3 aS,H1=cC e3 aS/\Fit e3 aS/\Q v aS) aB aJ ae ar (eL.mono (x:=z.code.back) (fun e az H1 ⟨bE,aS,e3,bk,eX,av⟩=>by
  cases e with
  | normal=>
   rw[bk]
   simp only[qS]
   refine CT eX _ _ aM.2 ?_
   have:∀(rs:List j6) (K er:List Value->Prop),(∀aG,K aG->er aG)->o8 az bE rs K->o8 az bE rs er:=by
    intro rs
    induction rs with
    | nil=>intro K er ak h;exact ak _ h
    | cons r rs a1=>
     intro K er ak h
     cases r with
     | tmp i=>exact a1 _ _ (fun aG=>ak _) h
     | cell a ty=>exact⟨h.1,a1 _ _ (fun aG=>ak _) h.2⟩
   exact this _ _ _ (fun aG an=>⟨e3,aS,rfl,eX.fit,an⟩) av
  | exit id=>exact av
  | ret=>
   rw[bk]
   simp only[qS]
   refine CT eX _ _ aM.2 ?_
   have:∀(rs:List j6) (K er:List Value->Prop),(∀aG,K aG->er aG)->o8 az bE rs K->o8 az bE rs er:=by
    intro rs
    induction rs with
    | nil=>intro K er ak h;exact ak _ h
    | cons r rs a1=>
     intro K er ak h
     cases r with
     | tmp i=>exact a1 _ _ (fun aG=>ak _) h
     | cell a ty=>exact⟨h.1,a1 _ _ (fun aG=>ak _) h.2⟩
   exact this _ _ _ (fun aG an=>⟨e3,aS,rfl,eX.fit,an⟩) av) J)
 obtain⟨e3,aS,rfl,bC,aC⟩:=aA
 have:=NW bC aa aS.length
 rw[RT bC]at this
 exact⟨v,aS,.inl ⟨o,this⟩,aC⟩
end
def eo(P:Program)(l:List hf)(Q:Fr->Fr->ab->Prop)(ax:bb l Q)(F G:Fr)(H:ab):Prop:=dE P l F G H Q
def cc(P:Program)(x:e5)(Q:dP->Fr->Fr->ab->Prop)(ax:bb x Q)(F G:Fr)(H:ab):Prop:=e6 P x F G H Q
def sO(rs:List j6)(K:List Value->Prop)(ax:bb rs K)(F G:Fr):Prop:=o8 F G rs K
def c7(P:Program)(m k:Nat)(x:e5)(Q:dP->Fr->Fr->ab->Prop)(ax:bb x Q)(F G:Fr)(H:ab):Prop:=wF (e6 P x) Q F G H
def c2(P:Program)(e:Nat)(K:Prop)(ax:bb K K)(v:Value):Prop:=gF (Whole P e v) K
theorem c2.mk{P:Program}{e:Nat}{K:Prop}{ax:bb K K}{v:Value}(h:Whole P e v)(ak:K):c2 P e K ax v:=⟨h,ak⟩
section
variable {P:Program} {F G:Fr} {H:ab}
@[simp] theorem agL{e:Nat}{K:Prop}(ax:bb K K)(cs:Array Value):c2 P e K ax (.agg cs)=dI K .mk (dr P e=some true/\bA P e=some cs.size/\(cs.toList.all (·.oneCell'))=true):=by
 apply propext
 constructor
 ·rintro⟨⟨o,aa,aA⟩,ak⟩;exact⟨⟨by simpa[eS]using aA,o,aa⟩,ak⟩
 ·rintro⟨⟨o,aa,aA⟩,ak⟩;exact⟨⟨aa,aA,by simpa[eS]using o⟩,ak⟩
variable {r:List hf} {Q:Fr->Fr->ab->Prop}
@[simp] theorem aeH(ax:bb ([]:List hf) Q):eo P [] Q ax F G H=Q F G H:=rfl
@[simp] theorem aeI(l:List bG)(ax:bb (.xs l::r) Q):eo P (.xs l::r) Q ax F G H=ba P l (fun az H1=>eo P r Q .mk az G H1) .mk F H:=rfl
theorem sv{c e:Nat}{z:Value}(aM:dD P e=some z)(dS:flat z=true)(hw:Whole P e z)(ax:bb (.bQ c e::r) Q):eo P (.bQ c e::r) Q ax F G H=eo P r Q .mk (a2 F c (.pointer (some ⟨H.length,0,none⟩))) (a2 G c z) (H++[.dead]):=by
 simp[eo,dE,aM,e_,gF,dS,hw]
@[simp] theorem akT(c e:Nat)(y:Operand)(ax:bb (.cq c e y::r) Q):eo P (.cq c e y::r) Q ax F G H=c2 P e (eo P r Q .mk (a2 F c (.pointer (some ⟨H.length,0,none⟩))) (a2 G c (aq F y)) (H++[.dead])) .mk (aq F y):=rfl
@[simp] theorem akU(d s x f c off:Nat)(ax:bb (.a7 none d s x f c off::r) Q):eo P (.a7 none d s x f c off::r) Q ax F G H=dI (eo P r Q .mk (a2 F d (pJ (F c) off)) G H) .mk (kj (F c)=true):=rfl
@[simp] theorem akV(j:Nat)(w:Bool)(d s x f c off:Nat)(ax:bb (.a7 (some (j,w)) d s x f c off::r) Q):eo P (.a7 (some (j,w)) d s x f c off::r) Q ax F G H=o0 (eo P (.a7 none d s x f c off::r) Q .mk F G H) (eo P r Q .mk (a2 F d undef) G H) .mk (hG (F j)) w:=rfl
@[simp] theorem akY(d t x c:Nat)(ax:bb (.bT none d t x c::r) Q):eo P (.bT none d t x c::r) Q ax F G H=dI (eo P r Q .mk (a2 F d (G c)) G H) .mk (kj (F c)=true):=rfl
@[simp] theorem akZ(j:Nat)(w:Bool)(d t x c:Nat)(ax:bb (.bT (some (j,w)) d t x c::r) Q):eo P (.bT (some (j,w)) d t x c::r) Q ax F G H=o0 (eo P (.bT none d t x c::r) Q .mk F G H) (eo P r Q .mk (a2 F d undef) G H) .mk (hG (F j)) w:=rfl
@[simp] theorem akW(d t x c off:Nat)(ax:bb (.aE none d t x c off::r) Q):eo P (.aE none d t x c off::r) Q ax F G H=dI (zM (fun cs=>gl (fun a=>bs (gl (fun n=>dI (eo P r Q .mk (a2 F d (.agg ((cs.toList.drop off).take n).toArray)) G H) .mk (off+n<=cs.size)) .mk (bA P t)) (gl (fun v=>eo P r Q .mk (a2 F d v) G H) .mk cs.toList[off]?) .mk a) .mk (dr P t)) .mk (G c)) .mk (kj (F c)=true):=rfl
@[simp] theorem akX(j:Nat)(w:Bool)(d t x c off:Nat)(ax:bb (.aE (some (j,w)) d t x c off::r) Q):eo P (.aE (some (j,w)) d t x c off::r) Q ax F G H=o0 (eo P (.aE none d t x c off::r) Q .mk F G H) (eo P r Q .mk (a2 F d undef) G H) .mk (hG (F j)) w:=rfl
@[simp] theorem ak2(b:Bool)(t x c:Nat)(y:Operand)(ax:bb (.bX b none t x y c::r) Q):eo P (.bX b none t x y c::r) Q ax F G H=dI (c2 P t (eo P r Q .mk F (a2 G c (aq F y)) H) .mk (aq F y)) .mk (kj (F c)=true):=by
 simp[eo,dE,ng,dI,c2,gF,and_assoc]
@[simp] theorem ak3(b:Bool)(j:Nat)(w:Bool)(t x c:Nat)(y:Operand)(ax:bb (.bX b (some (j,w)) t x y c::r) Q):eo P (.bX b (some (j,w)) t x y c::r) Q ax F G H=o0 (eo P (.bX b none t x y c::r) Q .mk F G H) (eo P r Q .mk F G H) .mk (hG (F j)) w:=rfl
@[simp] theorem ak0(b:Bool)(t x c off:Nat)(y:Operand)(ax:bb (.st b none t x y c off::r) Q):eo P (.st b none t x y c off::r) Q ax F G H=dI (zM (fun cs=>dI (eo P r Q .mk F (a2 G c (.agg (mq cs.toList off (aq F y).cells.toList).toArray)) H) .mk (bA P t=some (aq F y).cells.size/\off+(aq F y).cells.size<=cs.size/\((aq F y).cells.toList.all (·.oneCell'))=true)) .mk (G c)) .mk (kj (F c)=true):=rfl
@[simp] theorem ak1(b:Bool)(j:Nat)(w:Bool)(t x c off:Nat)(y:Operand)(ax:bb (.st b (some (j,w)) t x y c off::r) Q):eo P (.st b (some (j,w)) t x y c off::r) Q ax F G H=o0 (eo P (.st b none t x y c off::r) Q .mk F G H) (eo P r Q .mk F G H) .mk (hG (F j)) w:=rfl
end
def mix(m:Nat)(F az:Fr):Fr:=fun r=>if(m>>>r) % 2=1 then az r else F r
@[simp] theorem hl(m:Nat)(F az:Fr)(r:Nat):mix m F az r=if(m>>>r) % 2=1 then az r else F r:=rfl
theorem r5{m:Nat}{F az:Fr}(h:∀r,g7 m r=false->az r=F r):az=mix m F az:=by
 funext r
 simp only[mix]
 split
 ·rfl
 ·rename_i al;exact h r (by simpa[g7]using al)
section
variable {P:Program} {F G:Fr} {H:ab} {Q:dP->Fr->Fr->ab->Prop}
@[simp] theorem aeO(ax:bb (e5.skip) Q):cc P .skip Q ax F G H=Q .normal F G H:=rfl
@[simp] theorem ak8(ax:bb (e5.ret) Q):cc P .ret Q ax F G H=Q .ret F G H:=rfl
@[simp] theorem aeL(id:Nat)(ax:bb (e5.exit id) Q):cc P (.exit id) Q ax F G H=Q (.exit id) F G H:=rfl
@[simp] theorem kJ(x y:e5)(ax:bb (e5.seq x y) Q):cc P (.seq x y) Q ax F G H=cc P x (m5 (fun az bE H1=>cc P y Q .mk az bE H1) Q) .mk F G H:=rfl
@[simp] theorem aeK(c:Operand)(x y:e5)(ax:bb (e5.cond c x y) Q):cc P (.cond c x y) Q ax F G H=zL (fun b=>bs (cc P x Q .mk F G H) (cc P y Q .mk F G H) .mk b) .mk (aq F c):=rfl
@[simp] theorem aeJ(id:Nat)(x:e5)(ax:bb (e5.block id x) Q):cc P (.block id x) Q ax F G H=cc P x (rf id Q) .mk F G H:=rfl
@[simp] theorem aeM(m k:Nat)(x:e5)(ax:bb (e5.loop m k x) Q):cc P (.loop m k x) Q ax F G H=c7 P m k x Q .mk F G H:=rfl
@[simp] theorem aeN(l:List hf)(ax:bb (e5.ops l) Q):cc P (.ops l) Q ax F G H=eo P l (fun az bE H1=>Q .normal az bE H1) .mk F G H:=rfl
@[simp] theorem ak7(l:List hf)(ax:bb (e5.opsL l) Q):cc P (.opsL l) Q ax F G H=eo P l (fun az bE H1=>Q .normal az bE H1) .mk F G H:=rfl
@[simp] theorem ak5{K:List Value->Prop}(ax:bb ([]:List j6) K):sO [] K ax F G=K []:=rfl
@[simp] theorem ak6{K:List Value->Prop}(i:Nat)(rs:List j6)(ax:bb (.tmp i::rs) K):sO (.tmp i::rs) K ax F G=sO rs (fun aG=>K (F i::aG)) .mk F G:=rfl
@[simp] theorem ak4{K:List Value->Prop}(a ty:Nat)(rs:List j6)(ax:bb (.cell a ty::rs) K):sO (.cell a ty::rs) K ax F G=dI (sO rs (fun aG=>K (G a::aG)) .mk F G) .mk (kj (F a)=true):=rfl
@[simp] theorem akt{rs:List j6}{ad:Value->ab->Prop}:y5 rs ad .normal F G H=sO rs (fun aG=>ad (bd aG) H) .mk F G:=rfl
@[simp] theorem aku{rs:List j6}{ad:Value->ab->Prop}:y5 rs ad .ret F G H=sO rs (fun aG=>ad (bd aG) H) .mk F G:=rfl
@[simp] theorem Pn{K:Fr->Fr->ab->Prop}:m5 K Q .normal F G H=K F G H:=rfl
@[simp] theorem akj{K:Fr->Fr->ab->Prop}:m5 K Q .ret F G H=Q .ret F G H:=rfl
@[simp] theorem abF{K:Fr->Fr->ab->Prop}(id:Nat):m5 K Q (.exit id) F G H=Q (.exit id) F G H:=rfl
@[simp] theorem aho(id:Nat):rf id Q .normal F G H=Q .normal F G H:=rfl
@[simp] theorem ahp(id:Nat):rf id Q .ret F G H=Q .ret F G H:=rfl
@[simp] theorem ahn(id h2:Nat):rf id Q (.exit h2) F G H=if h2=id then Q .normal F G H else Q (.exit h2) F G H:=rfl
theorem c7.mk{m k:Nat}{x:e5}{ax:bb x Q}(aL:kv m k x=true)(ai:Nat->Fr->Fr->ab->Prop)(n:Nat)(aH:ai n F G H)
  (round:∀n az bE H1,ai n (mix m F az) (mix k G bE) H1->∀K:Fr->Fr->ab->Prop,(∀ec bR c4 aS,ec<n->ai ec bR c4 aS->K bR c4 aS)->cc P x (m5 K Q) .mk (mix m F az) (mix k G bE) H1):c7 P m k x Q ax F G H:=by
 have main:∀n az bE H1,(∀r,g7 m r=false->az r=F r)->(∀r,g7 k r=false->bE r=G r)->ai n az bE H1->wF (e6 P x) Q az bE H1:=by
  intro n
  induction n using Nat.strongRecOn with
  | _ n a1=>
   intro az bE H1 a_ gV dj
   have al:e6 P x az bE H1 (m5 (fun bR c4 aS=>∃ec,ec<n/\ai ec bR c4 aS) Q):=by
    have:=round n az bE H1 (by rw[<-r5 a_,<-r5 gV];exact dj) (fun bR c4 aS=>∃ec,ec<n/\ai ec bR c4 aS) fun ec bR c4 aS o aa=>⟨ec,o,aa⟩
    rw[<-r5 a_,<-r5 gV]at this
    exact this
   refine .round (fun bR c4 aS=>(∃ec,ec<n/\ai ec bR c4 aS)/\(∀r,g7 m r=false->bR r=az r)/\∀r,g7 k r=false->c4 r=bE r) (e6.gN (x:=x) aL (fun e bR c4 aS f2 iL aa=>?_) al) ?_
   ·cases e with
    | normal=>exact⟨aa,f2,iL⟩
    | exit id=>exact aa
    | ret=>exact aa
   ·rintro bR c4 aS ⟨⟨ec,o,aa⟩,f2,iL⟩
    exact a1 ec o bR c4 aS (fun r al=>by rw[f2 r al,a_ r al]) (fun r al=>by rw[iL r al,gV r al]) aa
 exact main n F G H (fun _ _=>rfl) (fun _ _=>rfl) aH
def QY(ad:Fr->Fr->ab->Prop):dP->Fr->Fr->ab->Prop
 | .normal,F,G,H=>ad F G H
 | _,_,_,_=>False
@[simp] theorem agE(ad:Fr->Fr->ab->Prop):QY ad .normal F G H=ad F G H:=rfl
theorem sw(m k:Nat)(x:e5)(ax:bb (e5.box m k x) Q):cc P (.box m k x) Q ax F G H=cc P x Q .mk F G H:=rfl
theorem cc.join{m k:Nat}{x:e5}{K:Fr->Fr->ab->Prop}{ax:bb (e5.box m k x) (m5 K Q)}(aL:kv m k x=true)(ad:Fr->Fr->ab->Prop)(o:∀er:dP->Fr->Fr->ab->Prop,(∀az bE H1,ad az bE H1->er .normal az bE H1)->(∀e az bE H1,e≠ .normal->Q e az bE H1->er e az bE H1)->cc P x er .mk F G H)
  (aa:∀az bE H1,ad (mix m F az) (mix k G bE) H1->K (mix m F az) (mix k G bE) H1):cc P (.box m k x) (m5 K Q) ax F G H:=by
 refine e6.gN (x:=x) aL (fun e az bE H1 f1 cr h=>?_) (o (m5 ad Q) (fun _ _ _ h=>h) (fun e az bE H1 he h=>by
  cases e with
  | normal=>exact absurd rfl he
  | exit id=>exact h
  | ret=>exact h))
 cases e with
 | normal=>
  have:=aa az bE H1 (by rw[<-r5 f1,<-r5 cr];exact h)
  rw[<-r5 f1,<-r5 cr]at this
  exact this
 | exit id=>exact h
 | ret=>exact h
theorem aO.agq{f:FuncId}{fn:Func}{z:cD}{C:Cells}{args:List Value}{ad:Value->ab->Prop}(aB:P.funcs[f]?=some fn)(aJ:(fn.name== "runtime.NumGoroutine")=false)(ae:comp P fn=some z.back)(aM:(kL P C z.code&&ur C z.results)=true)
  (ar:args.length<=fn.ntmps)(xb:(C.all fun p=>decide (args.length<=p.1))=true)(h:cc P z.code (y5 z.results ad) .mk (jK args) (fun _=>undef) H):aO P f args H ad:=aO.agp aB aJ ae aM ar xb h
end
theorem RB{C:Cells}{args:List Value}{n:Nat}(ar:args.length<=n)(h:(C.all fun p=>decide (n<=p.1))=true):(C.all fun p=>decide (args.length<=p.1))=true:=by
 rw[List.all_eq_true]at h⊢
 intro p aU
 have:=of_decide_eq_true (h p aU)
 exact decide_eq_true (Nat.le_trans ar this)
theorem Ext.dead(H:ab):Ext H (H++[.dead]):=⟨[.dead],rfl,fun x J e cs=>by simp at J;subst J;simp⟩
def Kept(H aF:ab)(s:Value)(e:Nat):Prop:=∀b X,H[b]?=some X->(inBlock s b->X.elem?≠some e)->aF[b]?=some X
theorem ey.kept{H aF:ab}{e c5 R n:Nat}{s v:Value}{cs:List Value}(h:ey H c5 R v n cs)(ak:Kept H aF s e)(cF:c5≠e):ey aF c5 R v n cs:=by
 obtain⟨a,cap,an,o,aa,aA⟩:=h
 refine⟨a,cap,an,o,aa,fun ae=>?_⟩
 obtain⟨b,i,X,all,a0,a4,bI,cj,e8⟩:=aA ae
 exact⟨b,i,X,all,a0,ak b X a4 (fun _ h=>cF (by rw[cj]at h;exact Option.some.inj h)),bI,cj,e8⟩
def eA(ay:Bool)(R:Nat)(cs:List Value)(i:Nat):Value:=if ay=true then .agg ((cs.drop (i*R)).take R).toArray else cs[i]?.getD undef
class b7 {α:Type} (ad:ab->Value->α->Prop):Prop where
 ext:∀{H H1:ab} {v:Value} {x:α},ad H v x->Ext H H1->ad H1 v x
def Row{α:Type}(e R:Nat)(ay:Bool)(ad:ab->Value->α->Prop)(H:ab)(v:Value)(xs:List α):Prop:=∃cs,ey H e R v xs.length cs/\∀i x,xs[i]?=some x->ad H (eA ay R cs i) x
def bH{α:Type}(k e R:Nat)(ay:Bool)(ad:ab->Value->α->Prop)(H:ab)(v:Value)(xs:List α):Prop:=∃cs,iq H k e R v xs.length cs/\∀i x,xs[i]?=some x->ad H (eA ay R cs i) x
section
variable {α:Type} {e R k:Nat} {ay:Bool} {ad:ab->Value->α->Prop} {H H1:ab} {v:Value} {xs:List α}
instance[b7 ad]:b7 (Row e R ay ad):=⟨fun⟨cs,o,aa⟩ J=>⟨cs,o.ext J,fun i x af=>b7.ext (aa i x af) J⟩⟩
instance[b7 ad]:b7 (bH k e R ay ad):=⟨fun⟨cs,o,aa⟩ J=>⟨cs,o.ext J,fun i x af=>b7.ext (aa i x af) J⟩⟩
theorem bH.row(h:bH k e R ay ad H v xs):Row e R ay ad H v xs:=let⟨cs,o,aa⟩:=h;⟨cs,o.fh,aa⟩
theorem Row.len(h:Row e R ay ad H v xs):∃a c,v= .slice a xs.length c:=let⟨cs,o,aa⟩:=h;o.len
theorem bH.len(h:bH k e R ay ad H v xs):∃a c,v= .slice a xs.length c:=h.row.len
theorem Row.nil(e R:Nat)(ay:Bool)(ad:ab->Value->α->Prop)(H:ab):Row e R ay ad H (.slice none 0 0) []:=⟨[],ey.nil H e R,fun i x h=>by simp at h⟩
theorem bH.nil(k e R:Nat)(ay:Bool)(ad:ab->Value->α->Prop)(H:ab):bH k e R ay ad H (.slice none 0 0) []:=⟨[],iq.nil H k e R,fun i x h=>by simp at h⟩
theorem bH.void(k e R i:Nat)(ay:Bool)(ad:ab->Value->α->Prop)(H:ab):bH k e R ay ad H (.slice (some ⟨0,i,none⟩) 0 0) []:=⟨[],iq.void H k e R i,fun i x h=>by simp at h⟩
theorem Row.kept{s:Value}{c5:Nat}(h:Row e R ay ad H v xs)(ak:Kept H H1 s c5)(cF:e≠c5)(br:∀u x,ad H u x->ad H1 u x):Row e R ay ad H1 v xs:=let⟨cs,o,aa⟩:=h;⟨cs,o.kept ak cF,fun i x af=>br _ _ (aa i x af)⟩
theorem Row.at(h:Row e R ay ad H v xs){i:Nat}{x:α}(af:xs[i]?=some x):∃b U cap X all,v= .slice (some ⟨b,U,none⟩) xs.length cap/\H[b]?=some X/\X.cells?=some all/\U+i*R+R<=all.length/\
  ad H (if ay=true then .agg ((all.drop (U+i*R)).take R).toArray else((all.drop (U+i*R)).take R)[0]?.getD undef) x\/(ay=false/\R≠1):=by
 by_cases ao:ay=false/\R≠1
 ·exact⟨0,0,0,.dead,[],.inr ao⟩
 obtain⟨cs,o,aa⟩:=h
 have ar:i<xs.length:=(cJ.1 af).1
 obtain⟨a,cap,an,aA,bj,bJ⟩:=o
 obtain⟨b,U,X,all,rfl,a4,bI,cj,e8,g9⟩:=bJ (by omega)
 have hle:(i+1)*R<=xs.length*R:=Nat.mul_le_mul_right _ ar
 rw[Nat.succ_mul]at hle
 refine⟨b,U,cap,X,all,.inl ⟨an,a4,bI,by omega,?_⟩⟩
 have J:=aa i x af
 unfold eA at J
 have ae:(cs.drop (i*R)).take R=(all.drop (U+i*R)).take R:=by
  rw[g9,List.drop_take,List.drop_drop,List.take_take,Nat.min_eq_left (by omega)]
 cases ay with
 | true=>simp only[if_true]at J⊢;rw[<-ae];exact J
 | false=>
  have fG:R=1:=by
   by_cases h:R=1
   ·exact h
   ·exact absurd ⟨rfl,h⟩ ao
  subst fG
  simp only[Bool.false_eq_true,if_false]at J⊢
  rw[<-ae]
  simpa[List.getElem?_take,List.getElem?_drop]using J
end
section
variable {P:Program} {r:List bG} {F:Fr} {H:ab} {Q:Fr->ab->Prop} {α:Type}
theorem cv{d t d2 e R n:Nat}{ay:Bool}{x i:Operand}{ad:ab->Value->α->Prop}{xs:List α}{a:α}{ax:bb (bg d t x i::aE d2 e (T d)::r) Q}(br:Row e R ay ad H (aq F x) xs)(af:aq F i= .int .i64 (n:Int))(aL:xs[n]?=some a)
  (bM:fi P t=some e)(ao:bA P e=some R)(ea:dr P e=some ay)(o:ay=true\/R=1)(K:∀p u,ad H u a->ba P r Q .mk (a2 (a2 F d p) d2 u) H):ba P (bg d t x i::aE d2 e (T d)::r) Q ax F H:=by
 have ar:n<xs.length:=(cJ.1 aL).1
 obtain⟨b,U,cap,X,all,⟨an,aW,ae,bC,hu⟩ | ⟨a0,a4⟩⟩:=br.at aL
 ·rw[il,an,af,sM,pY,bM,gm,ao,gm,sK]
  refine dI.mk ⟨by omega,by omega⟩ ?_
  rw[CB]
  simp only[n9,jG,rb,aW,Option.bind_some,ae,gm,ea,Int.toNat_natCast]
  cases ay with
  | true=>
   rw[QP,ao,gm]
   refine dI.mk bC ?_
   exact K _ _ hu
  | false=>
   rw[zB]
   have fG:R=1:=by rcases o with h | h;cases h;exact h
   subst fG
   have aZ:U+n*1<all.length:=by omega
   rw[bz aZ,gm]
   refine K _ _ ?_
   simp only[Bool.false_eq_true,if_false]at hu
   rw[List.getElem?_take_of_lt (by omega),List.getElem?_drop,Nat.add_zero,bz aZ]at hu
   exact hu
 ·rcases o with h | h
  ·rw[h]at a0;cases a0
  ·exact absurd h a4
theorem PT{j:Nat}{w:Bool}{x:bG}{ax:bb (aN j w x::r) Q}(h:hG (F j)=some w)(K:ba P (h7 x::r) Q .mk F H):ba P (aN j w x::r) Q ax F H:=by
 rw[acy]
 show nV _ _ _ _
 unfold nV
 rw[if_pos h]
 exact K
theorem qX{j d t d2 e R n:Nat}{w:Bool}{ay:Bool}{x i:Operand}{ad:ab->Value->α->Prop}{xs:List α}{a:α}{ax:bb (bg d t x i::aN j w (aE d2 e (T d))::r) Q}(aX:hG (F j)=some w)(EW:j≠d)(br:Row e R ay ad H (aq F x) xs)(af:aq F i= .int .i64 (n:Int))(aL:xs[n]?=some a)
  (bM:fi P t=some e)(ao:bA P e=some R)(ea:dr P e=some ay)(o:ay=true\/R=1)(K:∀p u,ad H u a->ba P r Q .mk (a2 (a2 F d p) d2 u) H):ba P (bg d t x i::aN j w (aE d2 e (T d))::r) Q ax F H:=by
 have aH:ba P (bg d t x i::aE d2 e (T d)::r) Q .mk F H:=cv br af aL bM ao ea o K
 rw[il]at aH⊢
 revert aH
 simp only[C3,zN,ra,pX,gl,C2,zJ,dI,gF,e_]
 cases aq F x<;>try exact id
 cases aq F i<;>try exact id
 simp only
 cases fi P t<;>try exact id
 simp only
 rename_i SL
 cases bA P SL<;>try exact id
 simp only
 split
 ·rintro⟨o,aa⟩
  exact⟨o,PT (by rw[iP _ _ EW];exact aX) aa⟩
 ·exact id
theorem ck{d t e R:Nat}{ay:Bool}{x:Operand}{ad:ab->Value->α->Prop}{xs:List α}{ax:bb (bt d t x::r) Q}(br:Row e R ay ad H (aq F x) xs)(bM:fi P t=some e)(K:ba P r Q .mk (a2 F d (.int .i64 xs.length)) H):ba P (bt d t x::r) Q ax F H:=by
 obtain⟨a,c,an⟩:=br.len
 rw[jk,an,ZM,bM]
 exact K
theorem sZ{ay:Bool}{R i n:Nat}{cs aK:List Value}(ar:cs.length=n*R)(af:i<n)(o:ay=true\/R=1):eA ay R (cs++aK) i=eA ay R cs i:=by
 unfold eA
 have hle:(i+1)*R<=n*R:=Nat.mul_le_mul_right _ af
 rw[Nat.succ_mul]at hle
 cases ay with
 | true=>
  simp only[if_true]
  rw[List.drop_append_of_le_length (by omega),List.take_append_of_le_length (by simp;omega)]
 | false=>
  have fG:R=1:=by rcases o with h | h;cases h;exact h
  subst fG
  simp only[Bool.false_eq_true,if_false]
  rw[List.getElem?_append_left (by omega)]
theorem DD{P:Program}{e:Nat}{ay:Bool}{R n:Nat}{cs:List Value}{u:Value}(ar:cs.length=n*R)(hw:Whole P e u)(ao:bA P e=some R)(ea:dr P e=some ay):eA ay R (cs++u.cells.toList) n=u:=by
 obtain⟨a6,hq,cn⟩:=hw
 have cV:u.cells.size=R:=by rw[ao]at a6;exact(Option.some.inj a6).symm
 unfold eA
 cases ay with
 | true=>
  simp only[if_true]
  have aL:eS u=true:=by
   cases av:eS u with
   | true=>rfl
   | false=>rw[av]at cn;simp at cn;rw[cn.1]at ea;cases ea
  rw[<-ar,List.drop_append_of_le_length (Nat.le_refl _),List.drop_length,List.nil_append,List.take_of_length_le (by simp;omega),Array.toArray_toList]
  exact(uC aL).symm
 | false=>
  simp only[Bool.false_eq_true,if_false]
  have aL:eS u=false:=by
   cases av:eS u with
   | false=>rfl
   | true=>rw[av]at cn;simp at cn;rw[cn]at ea;cases ea
  rw[aL]at cn
  simp at cn
  have o:R=1:=by rw[<-cV,cn.2];rfl
  subst o
  rw[List.getElem?_append_right (by omega),cn.2]
  have:n-cs.length=0:=by omega
  simp[this]
theorem uc{eE:Bool}{d1 d2 t b1 cY e R bF k:Nat}{ay:Bool}{s x:Operand}{z:Value}{ad:ab->Value->α->Prop}{xs:List α}{a:α}{ax:bb ((⟨eE,none,some d1,.buildSlice t 1 #[(0,x)]⟩:bG)::ap d2 b1 cY s (T d1)::r) Q}(cw:bH k e R ay ad H (aq F s) xs)(aL:ad H (aq F x) a)
  (hw:Whole P e (aq F x))(fG:∀v,aq (a2 F d1 v) s=aq F s)(hJ:∀aF dC u y,Kept H aF dC e->ad H u y->ad aF u y)
  (bM:P.underlying t=some (.slice e))(hu:P.underlying b1=some (.slice e))(J:fQ P cY=true)(ao:bA P e=some R)(ea:dr P e=some ay)(ag:bytes? P e=some bF)(aM:dD P e=some z)(dS:flat z=true)(dd:z.cells.size=R)(cV:0<R)(rW:R<=1000)
  (dZ:0<bF)(bC:(xs.length+1)*bF<=140737488355328)(ak:k<=H.length)
  (K:∀p au aF,bH k e R ay ad aF au (xs++[a])->(∀cE:ab,cE.length<=k->Ext cE H->Ext cE aF)->Kept H aF (aq F s) e->ba P r Q .mk (a2 (a2 F d1 p) d2 au) aF):
  ba P ((⟨eE,none,some d1,.buildSlice t 1 #[(0,x)]⟩:bG)::ap d2 b1 cY s (T d1)::r) Q ax F H:=by
 obtain⟨cs,iW,gI⟩:=cw
 have gd:=iW.1
 have lx:(aq F x).cells.size=R:=by have:=hw.1;rw[ao]at this;exact(Option.some.inj this).symm
 have o:ay=true\/R=1:=by
  cases ay with
  | true=>exact .inl rfl
  | false=>
   refine .inr ?_
   have cn:=hw.2.2
   cases av:eS (aq F x)with
   | true=>rw[av]at cn;simp at cn;rw[cn]at ea;cases ea
   | false=>rw[av]at cn;simp at cn;rw[<-lx,cn.2];rfl
 refine acu iW fG bM hu J ao ag aM dS dd cV rW dZ bC (by simp[lx]) hw.2.1 ak fun p au aF a0 a4 bI=>K p au aF ⟨_,by simpa using a0,fun i y aI=>?_⟩ a4 bI
 by_cases af:i<xs.length
 ·rw[List.getElem?_append_left af]at aI
  rw[sZ gd af o]
  exact hJ _ _ _ _ bI (gI i y aI)
 ·have fe:i=xs.length:=by
   have:=(cJ.1 aI).1
   simp at this
   omega
  subst fe
  rw[List.getElem?_append_right (Nat.le_refl _),Nat.sub_self]at aI
  simp at aI
  subst aI
  rw[DD gd hw ao ea]
  exact hJ _ _ _ _ bI aL
theorem Ae{ay:Bool}{R i n:Nat}{cs aK:List Value}(ar:cs.length=n*R)(af:n<=i)(o:ay=true\/R=1):eA ay R (cs++aK) i=eA ay R aK (i-n):=by
 unfold eA
 have hle:n*R<=i*R:=Nat.mul_le_mul_right _ af
 cases ay with
 | true=>
  simp only[if_true]
  rw[List.drop_append,List.drop_eq_nil_of_le (by omega),List.nil_append,ar,Nat.sub_mul]
 | false=>
  have fG:R=1:=by rcases o with h | h;cases h;exact h
  subst fG
  simp only[Bool.false_eq_true,if_false]
  rw[List.getElem?_append_right (by omega)]
  congr 2
  omega
theorem Cz{d b1 cY e R bF k:Nat}{ay:Bool}{s x:Operand}{z:Value}{ad:ab->Value->α->Prop}{xs bS:List α}{ax:bb (ap d b1 cY s x::r) Q}(cw:bH k e R ay ad H (aq F s) xs)(lr:Row e R ay ad H (aq F x) bS)(kU:∀u y,ad H u y->Whole P e u)(hJ:∀aF dC u y,Kept H aF dC e->ad H u y->ad aF u y)
  (hu:P.underlying b1=some (.slice e))(J:fQ P cY=true)(ao:bA P e=some R)(ea:dr P e=some ay)(o:ay=true\/R=1)(ag:bytes? P e=some bF)(aM:dD P e=some z)(dd:z.cells.size=R)(dZ:0<bF)(bC:(xs.length+bS.length)*bF<=140737488355328)(ak:k<=H.length)
  (K:∀au aF,bH k e R ay ad aF au (xs++bS)->(∀cE:ab,cE.length<=k->Ext cE H->Ext cE aF)->Kept H aF (aq F s) e->ba P r Q .mk (a2 F d au) aF):ba P (ap d b1 cY s x::r) Q ax F H:=by
 obtain⟨cs,iW,gI⟩:=cw
 obtain⟨aK,AL,xz⟩:=lr
 have gd:=iW.1
 obtain⟨a,c,an,a0,a4,bI⟩:=AL
 have dk:Src H R (aq F x) bS.length bS.length aK:=by
  have:=ey.src (H:=H) (e:=e) (R:=R) (v:=aq F x) (n:=bS.length) (cs:=aK) ⟨a,c,an,a0,a4,bI⟩ (Nat.le_refl _)
  rwa[<-a4,List.take_length]at this
 have x7:(aK.all (·.oneCell'))=true:=by
  rw[List.all_eq_true]
  intro u ny
  obtain⟨j,aY⟩:=List.getElem?_of_mem ny
  have gf:j<bS.length*R:=by have:=(cJ.1 aY).1;omega
  have cV:0<R:=by rcases Nat.eq_zero_or_pos R with q | q;·subst q;simp at gf
                  exact q
  have cK:j/R<bS.length:=Nat.div_lt_of_lt_mul (by rw[Nat.mul_comm];exact gf)
  have hw:=kU _ _ (xz _ _ (bz cK))
  have gg:u∈(eA ay R aK (j/R)).cells.toList:=by
   unfold eA
   cases ay with
   | true=>
    simp only[if_true,Value.cells,List.toList_toArray]
    have np:=Nat.div_add_mod j R
    have eG:=Nat.mod_lt j cV
    rw[Nat.mul_comm]at np
    refine List.mem_of_getElem? (i:=j % R) ?_
    rw[List.getElem?_take_of_lt eG,List.getElem?_drop,np]
    exact aY
   | false=>
    have fG:R=1:=by rcases o with h | h;cases h;exact h
    subst fG
    have nr:aK[j/1]?=some u:=by rw[Nat.div_one];exact aY
    simp only[eA,Bool.false_eq_true,if_false]at hw⊢
    rw[nr]at hw⊢
    simp only[Option.getD_some]at hw⊢
    have cn:=hw.2.2
    cases av:eS u with
    | false=>rw[av]at cn;simp at cn;rw[cn.2];simp
    | true=>
     rw[av]at cn
     simp at cn
     rw[cn]at ea
     cases ea
  exact List.all_eq_true.1 hw.2.1 u gg
 refine G5 iW dk hu J ao ag aM dd dZ bC x7 a4 ak fun au aF c9 gi eT gj iD=>K au aF ⟨_,by simpa using c9,fun i y aI=>?_⟩ gi eT
 by_cases af:i<xs.length
 ·rw[List.getElem?_append_left af]at aI
  rw[sZ gd af o]
  exact hJ _ _ _ _ eT (gI i y aI)
 ·rw[List.getElem?_append_right (by omega)]at aI
  rw[Ae gd (by omega) o]
  exact hJ _ _ _ _ eT (xz _ y aI)
theorem Oe(z:Value)(R n i:Nat)(aM:z.cells.size=R)(af:i<n)(cV:0<R):((made z (n*R)).drop (i*R)).take R=z.cells.toList:=by
 have hle:(i+1)*R<=n*R:=Nat.mul_le_mul_right _ af
 rw[Nat.succ_mul]at hle
 apply List.ext_getElem?
 intro j
 by_cases aY:j<R
 ·rw[List.getElem?_take_of_lt aY,List.getElem?_drop]
  unfold made
  rw[List.getElem?_map,List.getElem?_range (by omega)]
  simp only[Option.map_some,aM]
  rw[Nat.mul_comm i R,Nat.mul_add_mod,Nat.mod_eq_of_lt aY]
  simp[aM,aY]
 ·rw[List.getElem?_eq_none (by simp;omega),List.getElem?_eq_none (by simp;omega)]
theorem su{d t e R bF n:Nat}{ay:Bool}{x y:Operand}{eK cX:IntKind}{z:Value}{ad:ab->Value->α->Prop}{a:α}{ax:bb (ms d t x y::r) Q}(hu:P.underlying t=some (.slice e))(ao:bA P e=some R)(ag:bytes? P e=some bF)(aM:dD P e=some z)(dS:flat z=true)
  (ea:dr P e=some ay)(hw:Whole P e z)(J:aq F x= .int eK (n:Int))(aI:aq F y= .int cX (n:Int))(cV:0<R)(dZ:0<bF)(bC:bF*n<=281474976710656)(br:∀aF,ad aF z a)
  (K:∀v aF,bH H.length e R ay ad aF v (List.replicate n a)->Ext H aF->(n=0/\v= .slice (some ⟨0,0,none⟩) 0 0/\aF=H\/0<n/\v= .slice (some ⟨H.length,0,none⟩) n n/\aF=H++[.own e false (made z (n*R))])->ba P r Q .mk (a2 F d v) aF):ba P (ms d t x y::r) Q ax F H:=by
 have dd:z.cells.size=R:=by have:=hw.1;rw[ao]at this;exact(Option.some.inj this).symm
 by_cases aJ:n=0
 ·subst aJ
  exact CC hu ao ag J aI (K _ H (bH.void _ _ _ _ _ _ _) (Ext.refl H) (.inl ⟨rfl,rfl,rfl⟩))
 ·refine zn hu ao ag aM dS dd J aI cV dZ (Nat.le_refl _) (by omega) bC (K _ _ ⟨made z (n*R),⟨by simp[qK],.inr ⟨H.length,0,n,false,made z (n*R),by simp,by omega,by simp,Nat.le_refl _,by simp,by simp[qK],?_⟩⟩,fun i x af=>?_⟩ ((Ext.refl H).snoc _ _ _) (.inr ⟨by omega,rfl,rfl⟩))
  ·rw[List.drop_zero,List.take_of_length_le (by simp[qK])]
  ·rw[List.getElem?_replicate]at af
   split at af
   ·rename_i aZ
    obtain rfl:=Option.some.inj af
    have hm:=Oe z R n i dd aZ cV
    have:eA ay R (made z (n*R)) i=z:=by
     have cn:=hw.2.2
     unfold eA
     cases ay with
     | true=>
      have aL:eS z=true:=by
       cases av:eS z with
       | true=>rfl
       | false=>rw[av]at cn;simp at cn;rw[cn.1]at ea;cases ea
      simp only[if_true]
      rw[hm,Array.toArray_toList]
      exact(uC aL).symm
     | false=>
      have aL:eS z=false:=by
       cases av:eS z with
       | false=>rfl
       | true=>rw[av]at cn;simp at cn;rw[cn]at ea;cases ea
      rw[aL]at cn
      simp at cn
      have o:R=1:=by rw[<-dd,cn.2];rfl
      subst o
      simp only[Bool.false_eq_true,if_false]
      have aa:(made z (n*1))[i]?=(((made z (n*1)).drop (i*1)).take 1)[0]?:=by
       rw[List.getElem?_take_of_lt (by omega),List.getElem?_drop];simp
      rw[aa,hm,cn.2]
      rfl
    rw[this]
    exact br _
   ·cases af
theorem SQ{P:Program}{e:Nat}{ay:Bool}{R n i j:Nat}{cs:List Value}{u:Value}(ar:cs.length=n*R)(aY:j<n)(af:i<n)(hw:Whole P e u)(ao:bA P e=some R)(ea:dr P e=some ay)(o:ay=true\/R=1):eA ay R (dp cs (j*R) u.cells.toList) i=if i=j then u else eA ay R cs i:=by
 obtain⟨a6,hq,cn⟩:=hw
 have cV:u.cells.size=R:=by rw[ao]at a6;exact(Option.some.inj a6).symm
 have A3:(j+1)*R<=n*R:=Nat.mul_le_mul_right _ aY
 have VT:(i+1)*R<=n*R:=Nat.mul_le_mul_right _ af
 rw[Nat.succ_mul]at A3 VT
 have bC:j*R+u.cells.toList.length<=cs.length:=by simp;omega
 have lu:=fun m=>sk (j:=m) bC
 unfold eA
 cases ay with
 | true=>
  have aL:eS u=true:=by
   cases av:eS u with
   | true=>rfl
   | false=>rw[av]at cn;simp at cn;rw[cn.1]at ea;cases ea
  simp only[if_true]
  have aD:((dp cs (j*R) u.cells.toList).drop (i*R)).take R=if i=j then u.cells.toList else(cs.drop (i*R)).take R:=by
   apply List.ext_getElem?
   intro m
   by_cases hm:m<R
   ·rw[List.getElem?_take_of_lt hm,List.getElem?_drop,lu]
    by_cases qo:i=j
    ·subst qo
     rw[if_pos rfl,if_pos ⟨by omega,by simp;omega⟩]
     congr 1
     omega
    ·rw[if_neg qo,List.getElem?_take_of_lt hm,List.getElem?_drop]
     rw[if_neg]
     simp only[Array.length_toList,cV,not_and,Nat.not_lt]
     intro aH
     rcases Nat.lt_or_ge i j with q | q
     ·have:(i+1)*R<=j*R:=Nat.mul_le_mul_right _ q
      rw[Nat.succ_mul]at this
      omega
     ·have:(j+1)*R<=i*R:=Nat.mul_le_mul_right _ (by omega)
      rw[Nat.succ_mul]at this
      omega
   ·rw[List.getElem?_eq_none (by simp;omega)]
    split
    ·rw[List.getElem?_eq_none (by simp;omega)]
    ·rw[List.getElem?_eq_none (by simp;omega)]
  rw[aD]
  split
  ·rw[Array.toArray_toList];exact(uC aL).symm
  ·rfl
 | false=>
  have fG:R=1:=by rcases o with h | h;cases h;exact h
  subst fG
  have aL:eS u=false:=by
   cases av:eS u with
   | false=>rfl
   | true=>rw[av]at cn;simp at cn;rw[cn]at ea;cases ea
  rw[aL]at cn
  simp at cn
  simp only[Bool.false_eq_true,if_false]
  rw[lu]
  by_cases qo:i=j
  ·subst qo
   rw[if_pos rfl,if_pos ⟨by omega,by simp;omega⟩,cn.2]
   simp
  ·rw[if_neg qo,if_neg]
   simp only[Array.length_toList,cV,not_and,Nat.not_lt]
   omega
theorem kp{d t e R n k:Nat}{ay:Bool}{x i y:Operand}{ad:ab->Value->α->Prop}{xs:List α}{a:α}{ax:bb (bg d t x i::st e (T d) y::r) Q}(cw:bH k e R ay ad H (aq F x) xs)(af:aq F i= .int .i64 (n:Int))(aJ:n<xs.length)(aL:ad H (aq F y) a)
  (hw:Whole P e (aq F y))(aI:∀v,aq (a2 F d v) y=aq F y)(hJ:∀aF dC u y,Kept H aF dC e->ad H u y->ad aF u y)(bM:fi P t=some e)(ao:bA P e=some R)(ea:dr P e=some ay)(cV:0<R)
  (K:∀p aF,bH k e R ay ad aF (aq F x) (xs.set n a)->(∀cE:ab,cE.length<=k->Ext cE H->Ext cE aF)->Kept H aF (aq F x) e->aF.length=H.length->(∀c,c<k->aF[c]?=H[c]?)->ba P r Q .mk (a2 F d p) aF):ba P (bg d t x i::st e (T d) y::r) Q ax F H:=by
 obtain⟨cs,⟨ar,iW⟩,gI⟩:=cw
 have lx:(aq F y).cells.size=R:=by have:=hw.1;rw[ao]at this;exact(Option.some.inj this).symm
 have o:ay=true\/R=1:=by
  cases ay with
  | true=>exact .inl rfl
  | false=>
   refine .inr ?_
   have cn:=hw.2.2
   cases av:eS (aq F y)with
   | true=>rw[av]at cn;simp at cn;rw[cn]at ea;cases ea
   | false=>rw[av]at cn;simp at cn;rw[<-lx,cn.2];rfl
 rcases iW with⟨aH,-⟩ | ⟨b,U,cap,l,all,an,a0,a4,bI,cj,e8,g9⟩
 ·omega
 have hle:(n+1)*R<=xs.length*R:=Nat.mul_le_mul_right _ aJ
 have EZ:xs.length*R<=cap*R:=Nat.mul_le_mul_right _ a4
 rw[Nat.succ_mul]at hle
 have g2:=(cJ.1 cj).1
 rw[il,an,af,sM,pY,bM,gm,ao,gm,sK]
 refine dI.mk ⟨by omega,by omega⟩ ?_
 rw[PZ]
 simp only[n9,jG,rb,cj,HN,Int.toNat_natCast,aI]
 have bC:U+n*R+(aq F y).cells.toList.length<=all.length:=by simp[lx];omega
 refine dI.mk ⟨by rw[ao,lx],by simpa using bC,hw.2.1⟩ ?_
 rw[aI,Hq bC]
 have gy:((dp all (U+n*R) (aq F y).cells.toList).drop U).take (xs.length*R)=dp cs (n*R) (aq F y).cells.toList:=by
  have oB:n*R+(aq F y).cells.toList.length<=cs.length:=by simp[lx,ar];omega
  apply List.ext_getElem?
  intro j
  by_cases aY:j<xs.length*R
  ·rw[List.getElem?_take_of_lt aY,List.getElem?_drop,sk bC,sk oB,g9,List.getElem?_take_of_lt aY,List.getElem?_drop]
   by_cases ae:n*R<=j/\j<n*R+(aq F y).cells.toList.length
   ·rw[if_pos ae,if_pos ⟨by omega,by omega⟩]
    congr 1
    omega
   ·rw[if_neg ae,if_neg (by omega)]
  ·rw[List.getElem?_eq_none (by simp;omega),List.getElem?_eq_none (by rw[nN oB,ar];omega)]
 have vD:Kept H (H.set b (.own e l (dp all (U+n*R) (aq F y).cells.toList))) (aq F x) e:=fun cy X aW df=>by
  have:b≠cy:=fun c5=>by
   subst c5
   rw[cj]at aW
   exact df ⟨U,xs.length,cap,an⟩ (by rw[<-Option.some.inj aW];rfl)
  rw[List.getElem?_set_ne this];exact aW
 refine K _ _ ⟨dp cs (n*R) (aq F y).cells.toList,⟨by rw[nN (by simp[lx,ar];omega)];simpa using ar,.inr ⟨b,U,cap,l,_,by simpa using an,a0,by simpa using a4,bI,List.getElem?_set_self g2,by rw[nN bC];exact e8,by simpa using gy.symm⟩⟩,fun i x J=>?_⟩
  (fun cE aH J=>J.set (by omega) (by simp)) vD (by simp) (fun c ae=>List.getElem?_set_ne (by omega))
 have cK:i<xs.length:=by have:=(cJ.1 J).1;simpa using this
 rw[SQ ar aJ cK hw ao ea o]
 by_cases fe:i=n
 ·subst fe
  rw[List.getElem?_set_self aJ]at J
  obtain rfl:=Option.some.inj J
  rw[if_pos rfl]
  exact hJ _ _ _ _ vD aL
 ·rw[List.getElem?_set_ne (Ne.symm fe)]at J
  rw[if_neg fe]
  exact hJ _ _ _ _ vD (gI i x J)
theorem qY{eE:Bool}{d t e R l h:Nat}{ay:Bool}{x:Operand}{bc af:Option Operand}{ad:ab->Value->α->Prop}{xs:List α}{ax:bb ((⟨eE,none,some d,.slice t x bc af none⟩:bG)::r) Q}(br:Row e R ay ad H (aq F x) xs)(hu:P.underlying t=some (.slice e))(ao:bA P e=some R)(o:ay=true\/R=1)
  (ar:dN (aq F) bc=some l)(cO:eY (aq F) xs.length af=some h)(xZ:l<=h)(xS:h<=xs.length)(K:∀au,Row e R ay ad H au ((xs.drop l).take (h-l))->ba P r Q .mk (a2 F d au) H):ba P ((⟨eE,none,some d,.slice t x bc af none⟩:bG)::r) Q ax F H:=by
 obtain⟨cs,bL,b3⟩:=br
 refine PY bL hu ao ar cO xZ xS fun au u9=>K au ⟨_,by simpa[show min (h-l) (xs.length-l)=h-l by omega]using u9,fun i y aI=>?_⟩
 have cK:i<h-l:=by
  have:=(cJ.1 aI).1
  simp at this
  omega
 rw[List.getElem?_take_of_lt cK,List.getElem?_drop]at aI
 have:=b3 _ _ aI
 have bk:eA ay R ((cs.drop (l*R)).take ((h-l)*R)) i=eA ay R cs (l+i):=by
  have hle:(i+1)*R<=(h-l)*R:=Nat.mul_le_mul_right _ cK
  rw[Nat.succ_mul]at hle
  unfold eA
  cases ay with
  | true=>
   simp only[if_true]
   rw[List.drop_take,List.drop_drop,List.take_take,Nat.min_eq_left (by omega),<-Nat.add_mul]
  | false=>
   have fG:R=1:=by rcases o with h | h;cases h;exact h
   subst fG
   simp only[Bool.false_eq_true,if_false,Nat.mul_one]
   rw[List.getElem?_take_of_lt cK,List.getElem?_drop]
 rw[bk]
 exact this
end
section
variable {P:Program} {r:List bG} {F:Fr} {H:ab} {Q:Fr->ab->Prop}
theorem PX{eE:Bool}{d t e R b i len cap l h:Nat}{X:bO}{x:Operand}{bc af:Option Operand}{ax:bb ((⟨eE,none,some d,.slice t x bc af none⟩:bG)::r) Q}(an:aq F x= .slice (some ⟨b,i,none⟩) len cap)(aW:H[b]?=some X)(he:X.elem?=some e)(hu:P.underlying t=some (.slice e))(ao:bA P e=some R)
  (ar:dN (aq F) bc=some l)(cO:eY (aq F) len af=some h)(o:l<=h)(aa:h<=cap)(mR:l<cap)(K:ba P r Q .mk (a2 F d (.slice (some ⟨b,i+l*R,none⟩) (h-l) (cap-l))) H):ba P ((⟨eE,none,some d,.slice t x bc af none⟩:bG)::r) Q ax F H:=by
 have yi:cb P (aq F) H (.slice t x bc af none)=none:=by simp only[cb,an]
 have a_:∀U:Oper,U.op= .slice t x bc af none->bW P U=false:=fun U aQ=>by simp[bW,aQ]
 exact jl (v:= .slice (some ⟨b,i+l*R,none⟩) (h-l) (cap-l)) (H1:=H) rfl rfl yi (fun U aQ=> .slice aQ hu ao an aW he ar cO o aa mR) a_ (.inr (Ext.refl H)) K
end
section
variable {α:Type} {e R k:Nat} {ay:Bool} {ad:ab->Value->α->Prop} {H:ab} {v:Value} {xs:List α}
theorem bH.abH{b:Nat}{X:bO}(h:bH k e R ay ad H v xs)(ag:b<k)(br:∀u y,ad H u y->ad (H.set b X) u y):bH k e R ay ad (H.set b X) v xs:=by
 obtain⟨cs,⟨o,aa⟩,aA⟩:=h
 refine⟨cs,⟨o,?_⟩,fun i y af=>br _ _ (aA i y af)⟩
 rcases aa with aa | ⟨c,i,cap,l,all,a0,a4,bI,cj,e8,g9⟩
 ·exact .inl aa
 ·exact .inr ⟨c,i,cap,l,all,a0,a4,bI,cj,by rw[List.getElem?_set_ne (by omega)];exact e8,g9⟩
end
section
variable {P:Program} {F G:Fr} {H:ab} {Q:dP->Fr->Fr->ab->Prop}
theorem c7.range{m k id C ai N D t:Nat}{B:e5}{ax:bb (e5.seq (.ops [.xs [bi C .lss t (T ai) (T N)]]) (.seq (.cond (T C) .skip (.exit id)) (.seq B (.ops [.xs [bi D .add t (T ai) (dq.ai 1),I ai (T D)]])))) Q}
  (aL:kv m k (e5.seq (.ops [.xs [bi C .lss t (T ai) (T N)]]) (.seq (.cond (T C) .skip (.exit id)) (.seq B (.ops [.xs [bi D .add t (T ai) (dq.ai 1),I ai (T D)]]))))=true)(n:Nat)(aJ:n<9223372036854775807)(bP:F N= .int .i64 (n:Int))(T1:g7 m N=false)(Ts:F ai= .int .i64 0)(ain:C≠ai)(aio:D≠ai)
  (Inv:Nat->Fr->Fr->ab->Prop)(aH:Inv 0 F G H)
  (body:∀(i:Nat) (az bE:Fr) (H1:ab),i<n->mix m F az ai= .int .i64 (i:Int)->Inv i (mix m F az) (mix k G bE) H1->∀K:Fr->Fr->ab->Prop,(∀bR c4 aS,bR ai= .int .i64 (i:Int)->Inv (i+1) (a2 (a2 bR D (.int .i64 ((i+1:Nat):Int))) ai (.int .i64 ((i+1:Nat):Int))) c4 aS->K bR c4 aS)->
   cc P B (m5 K Q) .mk (a2 (mix m F az) C (.bool true)) (mix k G bE) H1)
  (fin:∀(az bE:Fr) (H1:ab),mix m F az ai= .int .i64 (n:Int)->Inv n (mix m F az) (mix k G bE) H1->Q (.exit id) (a2 (mix m F az) C (.bool false)) (mix k G bE) H1):
  c7 P m k (e5.seq (.ops [.xs [bi C .lss t (T ai) (T N)]]) (.seq (.cond (T C) .skip (.exit id)) (.seq B (.ops [.xs [bi D .add t (T ai) (dq.ai 1),I ai (T D)]])))) Q ax F G H:=by
 refine c7.mk aL (fun ec az bE H1=>∃i,ec=n-i/\i<=n/\az ai= .int .i64 (i:Int)/\Inv i az bE H1) n ⟨0,by omega,by omega,by simpa using Ts,aH⟩ ?_
 rintro ec az bE H1 ⟨i,rfl,af,dj,Ln⟩ K aV
 have tc:mix m F az N= .int .i64 (n:Int):=by
  simp only[mix]
  rw[if_neg (by simpa[g7]using T1)]
  exact bP
 generalize u2:mix m F az=agw at*
 simp only[kJ,aeN,aeI,PO,n9,dj,tc,abu,gm,PV,aeH,Pn,aeK,jG,QZ]
 refine bs.bZ (fun aZ=>?_) (fun hh=>?_)
 ·have jW:i<n:=by omega
  have aD:decide ((i:Int)<(n:Int))=true:=decide_eq_true aZ
  simp only[aD,aeO,Pn]
  have:=body i az bE H1 jW (by rw[u2];exact dj) (by rw[u2];exact Ln) (fun bR c4 aS=>ba P [bi D .add t (T ai) (dq.ai 1),I ai (T D)] (fun az H1=>K az c4 H1) .mk bR aS) fun bR c4 aS jt TH=>?_
  ·rw[u2]at this
   refine e6.mono (x:=B) (fun e bR c4 aS h=>?_) this
   cases e with
   | normal=>exact h
   | exit id=>exact h
   | ret=>exact h
  ·simp only[PO,n9,KO,jt,abr,gm,acC,jG,PV]
   have hw:IntKind.wrap .i64 ((i:Int)+1)=((i+1:Nat):Int):=by rw[b8 (by omega) (by omega)];simp
   rw[hw]
   exact aV (n-(i+1)) _ _ _ (by omega) ⟨i+1,rfl,by omega,jG _ _ _,TH⟩
 ·have aD:decide ((i:Int)<(n:Int))=false:=decide_eq_false hh
  have fe:i=n:=by omega
  subst fe
  simp only[aD,aeL,abF]
  have:=fin az bE H1 (by rw[u2];exact dj) (by rw[u2];exact Ln)
  rw[u2]at this
  exact this
end
end Go.dq
end
