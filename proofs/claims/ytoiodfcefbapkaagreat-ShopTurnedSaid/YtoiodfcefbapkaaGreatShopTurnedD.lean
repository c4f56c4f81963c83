/- Part of the proof of ShopTurned. -/
import Derived.Test.YtoiodfcefbapkaaGreatShopTurnedC
set_option linter.unusedVariables false
set_option linter.unusedSimpArgs false
section
namespace Go.cW
inductive g2 where
 | xs (l:List bF)
 | bL (r e:Nat)
 | cm (r e:Nat) (y:Operand)
 | a9 (g:Option (Nat×Bool)) (d s x f r off:Nat)
 | bT (g:Option (Nat×Bool)) (d t x r:Nat)
 | aF (g:Option (Nat×Bool)) (d t x r off:Nat)
 | bW (b:Bool) (g:Option (Nat×Bool)) (t x:Nat) (y:Operand) (r:Nat)
 | st (b:Bool) (g:Option (Nat×Bool)) (t x:Nat) (y:Operand) (r off:Nat)
inductive eY where
 | skip
 | ret
 | exit (id:Nat)
 | seq (x y:eY)
 | cond (c:Operand) (x y:eY)
 | block (id:Nat) (x:eY)
 | loop (m k:Nat) (x:eY)
 | box (m k:Nat) (x:eY)
 | ops (l:List g2)
 | opsL (l:List g2)
inductive jR where
 | tmp (i:Nat)
 | cell (a ty:Nat)
structure cL where
 code:eY
 results:List jR
def g2.back:g2->List bF
 | .xs l=>l
 | .bL r e=>[⟨true,none,some r,.alloc e⟩]
 | .cm r e y=>[⟨true,none,some r,.box e y⟩]
 | .a9 g d s x f _ _=>[⟨true,g,some d,.fieldAddr s (.tmp x) f⟩]
 | .bT g d t x _=>[⟨true,g,some d,.load t (.tmp x)⟩]
 | .aF g d t x _ _=>[⟨true,g,some d,.load t (.tmp x)⟩]
 | .bW b g t x y _=>[⟨b,g,none,.store t (.tmp x) y⟩]
 | .st b g t x y _ _=>[⟨b,g,none,.store t (.tmp x) y⟩]
def qn:List g2->List bF
 | []=>[]
 | i::r=>i.back++qn r
def eY.back:eY->gF
 | .skip=> .skip
 | .ret=> .ret
 | .exit id=> .exit id
 | .seq x y=> .seq x.back y.back
 | .cond c x y=> .cond c x.back y.back
 | .block id x=> .block id x.back
 | .loop _ _ x=> .loop x.back
 | .box _ _ x=>x.back
 | .ops l=> .ops (qn l)
 | .opsL l=> .opsL (qn l)
def jR.back:jR->ResultVar
 | .tmp i=> .tmp i
 | .cell a ty=> .cell a ty
def cL.back(z:cL):fq:=⟨z.code.back,z.results.map jR.back⟩
def j7:Value->Bool
 | .pointer (some _)=>true
 | _=>false
@[simp] theorem ail(a:Addr):j7 (.pointer (some a))=true:=rfl
def pa(v:Value)(n:Nat):Value:=match v with
 | .pointer (some ⟨b,i,none⟩)=> .pointer (some ⟨b,i+n,none⟩)
 | _=>undef
def e3:Value->Bool
 | .agg _=>true
 | _=>false
def Whole(P:Program)(e:TypeId)(v:Value):Prop:=bp P e=some v.cells.size/\(v.cells.toList.all (·.oneCell'))=true/\(if e3 v=true then dq P e=some true else dq P e=some false/\v.cells= #[v])
def mU(g:Option (Nat×Bool))(F:Fr)(dk cV:Prop):Prop:=match g with
 | none=>dk
 | some (j,w)=>nE (hr (F j)) w dk cV
def dv(P:Program):List g2->Fr->Fr->ab->(Fr->Fr->ab->Prop)->Prop
 | [],F,G,H,Q=>Q F G H
 | .xs l::r,F,G,H,Q=>bj P l F H fun ay H1=>dv P r ay G H1 Q
 | .bL c e::r,F,G,H,Q=>e5 (dA P e) fun z=>gv (flat z=true/\Whole P e z) (dv P r (a1 F c (.pointer (some ⟨H.length,0,none⟩))) (a1 G c z) (H++[.dead]) Q)
 | .cm c e y::r,F,G,H,Q=>gv (Whole P e (aq F y)) (dv P r (a1 F c (.pointer (some ⟨H.length,0,none⟩))) (a1 G c (aq F y)) (H++[.dead]) Q)
 | .a9 g d s x f c off::r,F,G,H,Q=>mU g F (gv (j7 (F c)=true) (dv P r (a1 F d (pa (F c) off)) G H Q)) (dv P r (a1 F d undef) G H Q)
 | .bT g d t x c::r,F,G,H,Q=>mU g F (gv (j7 (F c)=true) (dv P r (a1 F d (G c)) G H Q)) (dv P r (a1 F d undef) G H Q)
 | .aF g d t x c off::r,F,G,H,Q=>mU g F (gv (j7 (F c)=true) (nJ (G c) fun cs=>e5 (dq P t) fun a=>hY a (e5 (bp P t) fun n=>gv (off+n<=cs.size) (dv P r (a1 F d (.agg ((cs.toList.drop off).take n).toArray)) G H Q)) (e5 cs.toList[off]? fun v=>dv P r (a1 F d v) G H Q)))
   (dv P r (a1 F d undef) G H Q)
 | .bW _ g t x y c::r,F,G,H,Q=>mU g F (gv (j7 (F c)=true/\Whole P t (aq F y)) (dv P r F (a1 G c (aq F y)) H Q)) (dv P r F G H Q)
 | .st _ g t x y c off::r,F,G,H,Q=>mU g F (gv (j7 (F c)=true) (nJ (G c) fun cs=>gv (bp P t=some (aq F y).cells.size/\off+(aq F y).cells.size<=cs.size/\((aq F y).cells.toList.all (·.oneCell'))=true) (dv P r F (a1 G c (.agg (l9 cs.toList off (aq F y).cells.toList).toArray)) H Q))) (dv P r F G H Q)
def mJ(K:Fr->Fr->ab->Prop)(Q:dH->Fr->Fr->ab->Prop):dH->Fr->Fr->ab->Prop
 | .normal,F,G,H=>K F G H
 | e,F,G,H=>Q e F G H
def qC(id:Nat)(Q:dH->Fr->Fr->ab->Prop):dH->Fr->Fr->ab->Prop
 | .exit hS,F,G,H=>if hS=id then Q .normal F G H else Q (.exit hS) F G H
 | e,F,G,H=>Q e F G H
inductive v3 (body:Fr->Fr->ab->(dH->Fr->Fr->ab->Prop)->Prop) (Q:dH->Fr->Fr->ab->Prop):Fr->Fr->ab->Prop
 | round {F G:Fr} {H:ab} (ai:Fr->Fr->ab->Prop) (h:body F G H (mJ ai Q)) (ed:∀ay bD H1,ai ay bD H1->v3 body Q ay bD H1):v3 body Q F G H
def eZ(P:Program):eY->Fr->Fr->ab->(dH->Fr->Fr->ab->Prop)->Prop
 | .skip,F,G,H,Q=>Q .normal F G H
 | .ret,F,G,H,Q=>Q .ret F G H
 | .exit id,F,G,H,Q=>Q (.exit id) F G H
 | .seq x y,F,G,H,Q=>eZ P x F G H (mJ (fun ay bD H1=>eZ P y ay bD H1 Q) Q)
 | .cond c x y,F,G,H,Q=>za (aq F c) fun b=>hY b (eZ P x F G H Q) (eZ P y F G H Q)
 | .block id x,F,G,H,Q=>eZ P x F G H (qC id Q)
 | .loop _ _ x,F,G,H,Q=>v3 (eZ P x) Q F G H
 | .box _ _ x,F,G,H,Q=>eZ P x F G H Q
 | .ops l,F,G,H,Q=>dv P l F G H (fun ay bD H1=>Q .normal ay bD H1)
 | .opsL l,F,G,H,Q=>dv P l F G H (fun ay bD H1=>Q .normal ay bD H1)
def oL(F G:Fr):List jR->(List Value->Prop)->Prop
 | [],K=>K []
 | .tmp i::rs,K=>oL F G rs fun aE=>K (F i::aE)
 | .cell a ty::rs,K=>gv (j7 (F a)=true) (oL F G rs fun aE=>K (G a::aE))
def yt(rs:List jR)(Q:Value->ab->Prop):dH->Fr->Fr->ab->Prop
 | .normal,F,G,H=>oL F G rs fun aE=>Q (bd aE) H
 | .ret,F,G,H=>oL F G rs fun aE=>Q (bd aE) H
 | .exit _,_,_,_=>False
abbrev Cells:=List (Nat×Nat)
abbrev iK:=List (Nat×Nat×Nat×Option (Nat×Bool))
def lQ(C:Cells)(r:Nat):Bool:=(C.lookup r).isSome
def CP(C:Cells):Option Nat->Bool
 | some d=> !lQ C d
 | none=>true
def kill(d:Nat)(E:iK):iK:=E.filter fun p=>p.1 !=d&&p.2.1 !=d&&(match p.2.2.2 with | some (j,_)=>j !=d | none=>true)
def E_:Option Nat->iK->iK
 | some d,E=>kill d E
 | none,E=>E
def zG:Option (Nat×Bool)->Option (Nat×Bool)->Bool
 | some (j,w),some (eb,gD)=>j==eb&&w==gD
 | none,none=>true
 | _,_=>false
def reach(E:iK)(g:Option (Nat×Bool))(x r off:Nat):Bool:=(x==r&&off==0) || match E.lookup x with
 | some (dR,ND,kE)=>dR==r&&ND==off&&(zG kE none || zG kE g)
 | none=>false
def CW(P:Program)(E:iK)(g:Option (Nat×Bool))(s x f r off:Nat):Bool:=match fQ P s f with
 | some R=>decide (R<=off)&&reach E g x r (off-R)
 | none=>false
def hH(P:Program)(C:Cells)(late:Bool):iK->List g2->Bool
 | _,[]=>true
 | E,.xs l::r=>(l.all fun R=>CP C R.d)&&hH P C late (l.foldl (fun E R=>E_ R.d E) E) r
 | E,.bL c e::r=>C.lookup c==some e&&hH P C late (kill c E) r
 | E,.cm c e _::r=>C.lookup c==some e&&hH P C late (kill c E) r
 | E,.a9 g d s x f c off::r=> !lQ C d&&lQ C c&&CW P E g s x f c off&&(match g with | some (j,_)=>j !=d | none=>true)&&hH P C late ((d,c,off,g)::kill d E) r
 | E,.bT g d t x c::r=> !lQ C d&&C.lookup c==some t&&reach E g x c 0&&hH P C late (kill d E) r
 | E,.aF g d _ x c off::r=> !lQ C d&&lQ C c&&reach E g x c off&&hH P C late (kill d E) r
 | E,.bW b g t x _ c::r=>(b || late)&&C.lookup c==some t&&reach E g x c 0&&hH P C late E r
 | E,.st b g _ x _ c off::r=>(b || late)&&lQ C c&&reach E g x c off&&hH P C late E r
def vy:Op->Bool
 | .load .. | .store .. =>false
 | .call {callee:= .value _,.. }=>false
 | op=> !jt op
def mb:List Nat->List Nat->List g2->Bool
 | _,_,[]=>true
 | af,W,.xs l::r=>(l.all fun R=>vy R.op)&&mb af W r
 | af,W,.a9 _ _ _ _ _ _ _::r=>mb af W r
 | af,W,.bT _ _ _ _ c::r=> !W.contains c&&mb (c::af) W r
 | af,W,.aF _ _ _ _ c _::r=> !W.contains c&&mb (c::af) W r
 | af,W,.bW b _ _ _ _ c::r=>(b || (!W.contains c&& !af.contains c))&&mb af (if b then W else c::W) r
 | af,W,.st b _ _ _ _ c _::r=>(b || (!W.contains c&& !af.contains c))&&mb af (if b then W else c::W) r
 | _,_,_=>false
def gV(m r:Nat):Bool:=(m>>>r) % 2==1
def JE(m:Nat):Option Nat->Bool
 | some d=>gV m d
 | none=>true
def wi(m k:Nat):g2->Bool
 | .xs l=>l.all fun R=>JE m R.d
 | .bL c _=>gV m c&&gV k c
 | .cm c _ _=>gV m c&&gV k c
 | .a9 _ d _ _ _ _ _=>gV m d
 | .bT _ d _ _ _=>gV m d
 | .aF _ d _ _ _ _=>gV m d
 | .bW _ _ _ _ _ c=>gV k c
 | .st _ _ _ _ _ c _=>gV k c
def ki(m k:Nat):eY->Bool
 | .seq x y=>ki m k x&&ki m k y
 | .cond _ x y=>ki m k x&&ki m k y
 | .block _ x=>ki m k x
 | .loop _ _ x=>ki m k x
 | .box _ _ x=>ki m k x
 | .ops l=>l.all (wi m k)
 | .opsL l=>l.all (wi m k)
 | _=>true
def kA(P:Program)(C:Cells):eY->Bool
 | .seq x y=>kA P C x&&kA P C y
 | .cond _ x y=>kA P C x&&kA P C y
 | .block _ x=>kA P C x
 | .loop m k x=>ki m k x&&kA P C x
 | .box m k x=>ki m k x&&kA P C x
 | .ops l=>hH P C false [] l
 | .opsL l=>hH P C true [] l&&mb [] [] l
 | _=>true
def ts(C:Cells)(rs:List jR):Bool:=rs.all fun r=>match r with
 | .tmp i=>true
 | .cell a ty=>C.lookup a==some ty
section
variable {P:Program}
theorem bj.append:∀{l de:List bF} {F:Fr} {H:ab} {Q:Fr->ab->Prop},bj P l F H (fun ay H1=>bj P de ay H1 Q)->bj P (l++de) F H Q
 | [],de,F,H,Q,h=>h
 | x::l,de,F,H,Q,h=>by
  simp only[List.cons_append,bj]at h⊢
  split
  ·rename_i aU;rw[aU]at h;exact gm.mono (fun v H1=>bj.append) h
  ·rename_i j w aU
   rw[aU]at h
   simp only at h
   split
   ·rename_i ag;rw[if_pos ag]at h;exact gm.mono (fun v H1=>bj.append) h
   ·rename_i ag;rw[if_neg ag]at h;exact bj.append h
theorem R_{F:Fr}{d:Option Nat}{v:Value}{r:Nat}(h:d≠some r):fW F d v r=F r:=by
 cases d with
 | none=>rfl
 | some e=>exact iG F v fun he=>h (by rw[he])
theorem bj.gA:∀{l:List bF} {F:Fr} {H:ab} {Q:Fr->ab->Prop},bj P l F H Q->bj P l F H fun ay H1=>Q ay H1/\∀r,(∀R∈l,R.d≠some r)->ay r=F r
 | [],F,H,Q,h=>⟨h,fun _ _=>rfl⟩
 | x::l,F,H,Q,h=>by
  have next:∀v H1,bj P l (fW F x.d v) H1 Q->bj P l (fW F x.d v) H1 fun ay H1=>Q ay H1/\∀r,(∀R∈x::l,R.d≠some r)->ay r=F r:=fun v H1 o=>
   bj.mono (fun ay aR ⟨aY,a3⟩=>⟨aY,fun r al=>by rw[a3 r fun R aM=>al R (List.mem_cons_of_mem _ aM),R_ (al x List.mem_cons_self)]⟩) (bj.gA o)
  simp only[bj]at h⊢
  split
  ·rename_i aU;rw[aU]at h;exact gm.mono (fun v H1=>next v H1) h
  ·rename_i j w aU
   rw[aU]at h
   simp only at h
   split
   ·rename_i ag;rw[if_pos ag]at h;exact gm.mono (fun v H1=>next v H1) h
   ·rename_i ag;rw[if_neg ag]at h;exact next _ _ h
def mm(g:Option (Nat×Bool))(F:Fr):Prop:=match g with
 | none=>True
 | some (j,w)=>hr (F j)=some w
theorem mU.imp{g:Option (Nat×Bool)}{F:Fr}{A B vX kT:Prop}(h:mU g F A B)(o:mm g F->A->vX)(aa:¬mm g F->B->kT):mU g F vX kT:=by
 cases g with
 | none=>exact o trivial h
 | some p3=>
  obtain⟨j,w⟩:=p3
  simp only[mU,nE]at h⊢
  split
  ·rename_i ag;rw[if_pos ag]at h;exact o ag h
  ·rename_i ag;rw[if_neg ag]at h;exact aa ag h
theorem yZ{b:Bool}{g:Option (Nat×Bool)}{d:Option Nat}{op:Op}{r:List bF}{F:Fr}{H:ab}{Q:Fr->ab->Prop}(h:mU g F (bj P (⟨b,none,d,op⟩::r) F H Q) (bj P r (fW F d undef) H Q)):bj P (⟨b,g,d,op⟩::r) F H Q:=by
 cases g with
 | none=>exact h
 | some p3=>exact h
theorem yX{b:Bool}{g:Option (Nat×Bool)}{d:Option Nat}{op:Op}{r:List bF}{F:Fr}{H:ab}{af W:List Nat}{Q:Fr->ab->Prop}(h:mU g F (fy P (⟨b,none,d,op⟩::r) F H af W Q) (fy P r (fW F d undef) H af W Q)):fy P (⟨b,g,d,op⟩::r) F H af W Q:=by
 cases g with
 | none=>exact h
 | some p3=>exact h
def iw(E:iK)(F:Fr):Prop:=∀x∈E,mm x.2.2.2 F->F x.1=pa (F x.2.1) x.2.2.1
theorem iw.nil(F:Fr):iw [] F:=fun x h=>by simp at h
theorem Np{d:Nat}{E:iK}{x:Nat×Nat×Nat×Option (Nat×Bool)}(h:x∈kill d E):x∈E/\x.1≠d/\x.2.1≠d/\∀j w,x.2.2.2=some (j,w)->j≠d:=by
 unfold kill at h
 rw[List.mem_filter]at h
 obtain⟨o,aa⟩:=h
 simp only[Bool.and_eq_true,bne_iff_ne,ne_eq]at aa
 refine⟨o,aa.1.1,aa.1.2,fun j w aU=>?_⟩
 have:=aa.2
 rw[aU]at this
 simpa using this
theorem C3{g:Option (Nat×Bool)}{F ay:Fr}(h:∀j w,g=some (j,w)->ay j=F j):mm g ay↔mm g F:=by
 cases g with
 | none=>exact Iff.rfl
 | some p3=>obtain⟨j,w⟩:=p3;simp only[mm,h j w rfl]
theorem iw.kill{E:iK}{F:Fr}(h:iw E F)(d:Nat)(v:Value):iw (kill d E) (a1 F d v):=fun x J aU=>by
 obtain⟨o,aa,aB,bs⟩:=Np J
 rw[iG _ _ aa,iG _ _ aB]
 exact h x o ((C3 fun j w e=>iG F v (bs j w e)).1 aU)
theorem Y0{l:List bF}:∀{E:iK} {x:Nat×Nat×Nat×Option (Nat×Bool)},x∈l.foldl (fun E R=>E_ R.d E) E->x∈E/\∀R∈l,R.d≠some x.1/\R.d≠some x.2.1/\∀j w,x.2.2.2=some (j,w)->R.d≠some j:=by
 induction l with
 | nil=>intro E x h;exact⟨h,fun R aM=>by simp at aM⟩
 | cons R l a0=>
  intro E x h
  simp only[List.foldl_cons]at h
  obtain⟨o,aa⟩:=a0 h
  cases aA:R.d with
  | none=>
   rw[aA]at o
   refine⟨o,fun kv ft=>?_⟩
   rcases List.mem_cons.1 ft with rfl | ft
   ·rw[aA];simp
   ·exact aa kv ft
  | some d=>
   rw[aA]at o
   obtain⟨aY,a3,bN,ck⟩:=Np o
   refine⟨aY,fun kv ft=>?_⟩
   rcases List.mem_cons.1 ft with rfl | ft
   ·rw[aA]
    exact⟨fun e=>a3 (Option.some.inj e).symm,fun e=>bN (Option.some.inj e).symm,fun j w aU e=>ck j w aU (Option.some.inj e).symm⟩
   ·exact aa kv ft
theorem iw.M7{E:iK}{F ay:Fr}(h:iw E F){l:List bF}(a4:∀r,(∀R∈l,R.d≠some r)->ay r=F r):iw (l.foldl (fun E R=>E_ R.d E) E) ay:=fun x J aU=>by
 obtain⟨o,aa⟩:=Y0 J
 rw[a4 _ fun R aM=>(aa R aM).1,a4 _ fun R aM=>(aa R aM).2.1]
 exact h x o ((C3 fun j w e=>a4 j fun R aM=>(aa R aM).2.2 j w e).1 aU)
theorem JK{g kE:Option (Nat×Bool)}(h:zG g kE=true):g=kE:=by
 cases g<;>cases kE<;>simp[zG]at h⊢
 ·obtain⟨o,aa⟩:=h;exact Prod.ext o aa
theorem Fe{α:Type}:∀{E:List (Nat×α)} {x:Nat} {y:α},E.lookup x=some y->(x,y)∈E
 | [],x,y,h=>by simp at h
 | (a,b)::E,x,y,h=>by
  rw[List.lookup_cons]at h
  split at h
  ·rename_i J
   have:x=a:=by simpa using J
   subst this
   obtain rfl:=Option.some.inj h
   exact List.mem_cons_self
  ·exact List.mem_cons_of_mem _ (Fe h)
theorem qa{E:iK}{F:Fr}{g:Option (Nat×Bool)}{x r off b:Nat}(h:reach E g x r off=true)(bZ:iw E F)(aU:mm g F)(al:F r= .pointer (some ⟨b,0,none⟩)):F x= .pointer (some ⟨b,off,none⟩):=by
 simp only[reach,Bool.or_eq_true,Bool.and_eq_true,beq_iff_eq]at h
 rcases h with⟨rfl,rfl⟩ | h
 ·exact al
 ·cases ar:E.lookup x with
  | none=>rw[ar]at h;cases h
  | some p=>
   obtain⟨dR,ND,kE⟩:=p
   rw[ar]at h
   simp only[Bool.and_eq_true,Bool.or_eq_true,beq_iff_eq]at h
   obtain⟨⟨rfl,rfl⟩,Ul⟩:=h
   have:=bZ _ (Fe ar)
   simp only at this
   rw[this,al]
   ·simp[pa]
   ·rcases Ul with q | q
    ·rw[JK q];trivial
    ·rw[JK q];exact aU
structure gG (P:Program) (C:Cells) (F G:Fr) (H:ab) (a8:Nat->Option bK):Prop where
 fit:Fit a8 H
 cell:∀r e,C.lookup r=some e->F r=undef\/∃b,F r= .pointer (some ⟨b,0,none⟩)/\a8 b=some (.own e false (G r).cells.toList)/\Whole P e (G r)
 inj:∀r dR e cX b,C.lookup r=some e->C.lookup dR=some cX->r≠dR->F r= .pointer (some ⟨b,0,none⟩)->F dR≠ .pointer (some ⟨b,0,none⟩)
section
variable {C:Cells} {F G:Fr} {H:ab} {a8:Nat->Option bK}
theorem gG.at(h:gG P C F G H a8){r e:Nat}(al:C.lookup r=some e)(a2:j7 (F r)=true):∃b,F r= .pointer (some ⟨b,0,none⟩)/\a8 b=some (.own e false (G r).cells.toList)/\Whole P e (G r)/\(cv a8 H)[b]?=some (.own e false (G r).cells.toList)/\b<H.length:=by
 rcases h.cell r e al with q | ⟨b,aY,a3,bN⟩
 ·rw[q]at a2;cases a2
 ·have aA:=(h.fit b _ a3).1
  refine⟨b,aY,a3,bN,?_,(cH.1 aA).1⟩
  rw[kN,aA,a3]
  rfl
theorem uF{r:Nat}(h:lQ C r=true):∃e,C.lookup r=some e:=Option.isSome_iff_exists.1 h
theorem gG.nz(h:gG P C F G H a8){d:Nat}(aA:lQ C d=false)(v:Value):gG P C (a1 F d v) G H a8:=by
 have ne:∀r e,C.lookup r=some e->r≠d:=fun r e al=>by rintro rfl;simp[lQ,al]at aA
 refine⟨h.fit,fun r e al=>?_,fun r dR e cX b al fB cQ a4=>?_⟩
 ·rw[iG _ _ (ne r e al)];exact h.cell r e al
 ·rw[iG _ _ (ne r e al)]at a4
  rw[iG _ _ (ne dR cX fB)]
  exact h.inj r dR e cX b al fB cQ a4
theorem gG.congr(h:gG P C F G H a8){ay:Fr}{H1:ab}(a4:∀r e,C.lookup r=some e->ay r=F r)(az:Fit a8 H1):gG P C ay G H1 a8:=by
 refine⟨az,fun r e al=>?_,fun r dR e cX b al fB cQ ag=>?_⟩
 ·rw[a4 r e al];exact h.cell r e al
 ·rw[a4 r e al]at ag
  rw[a4 dR cX fB]
  exact h.inj r dR e cX b al fB cQ ag
def ry(a8:Nat->Option bK)(b:Nat)(x:bK):Nat->Option bK:=fun c=>if c=b then some x else a8 c
theorem vw(a8:Nat->Option bK)(b:Nat)(x:bK):ry a8 b x b=some x:=by simp[ry]
theorem vv(a8:Nat->Option bK){b c:Nat}(x:bK)(h:c≠b):ry a8 b x c=a8 c:=by simp[ry,h]
theorem gG.new(h:gG P C F G H a8){c e:Nat}(ae:C.lookup c=some e){z:Value}(aN:Whole P e z):
  gG P C (a1 F c (.pointer (some ⟨H.length,0,none⟩))) (a1 G c z) (H++[.dead]) (ry a8 H.length (.own e false z.cells.toList))/\cv (ry a8 H.length (.own e false z.cells.toList)) (H++[.dead])=cv a8 H++[.own e false z.cells.toList]:=by
 have aG:a8 H.length=none:=by
  cases a2:a8 H.length with
  | none=>rfl
  | some x=>have:=h.fit.lt a2;omega
 refine⟨⟨fun b x ag=>?_,fun r cX al=>?_,fun r dR bm bk b al fB cQ a4=>?_⟩,?_⟩
 ·by_cases gy:b=H.length
  ·subst gy
   rw[vw]at ag
   obtain rfl:=Option.some.inj ag
   exact⟨by simp,_,_,_,rfl⟩
  ·rw[vv _ _ gy]at ag
   obtain⟨aY,a3⟩:=h.fit b x ag
   exact⟨by rw[List.getElem?_append_left (h.fit.lt ag)];exact aY,a3⟩
 ·by_cases sI:r=c
  ·subst sI
   rw[ae]at al
   obtain rfl:=Option.some.inj al
   exact .inr ⟨H.length,jv _ _ _,by rw[vw,jv],by rw[jv];exact aN⟩
  ·rw[iG _ _ sI,iG _ _ sI]
   rcases h.cell r cX al with q | ⟨b,aY,a3,bN⟩
   ·exact .inl q
   ·have:=h.fit.lt a3
    exact .inr ⟨b,aY,by rw[vv _ _ (by omega)];exact a3,bN⟩
 ·have lt:∀r e b,C.lookup r=some e->F r= .pointer (some ⟨b,0,none⟩)->b<H.length:=fun r e b al a4=>by
   rcases h.cell r e al with q | ⟨ct,aY,a3,bN⟩
   ·rw[q]at a4;cases a4
   ·rw[aY]at a4;simp at a4;subst a4;exact h.fit.lt a3
  by_cases o:r=c
  ·subst o
   rw[jv]at a4
   simp at a4
   subst a4
   rw[iG _ _ (Ne.symm cQ)]
   intro av
   have:=lt dR bk _ fB av
   omega
  ·rw[iG _ _ o]at a4
   by_cases aa:dR=c
   ·subst aa
    rw[jv]
    intro av
    simp at av
    have:=lt r bm b al a4
    omega
   ·rw[iG _ _ aa]
    exact h.inj r dR bm bk b al fB cQ a4
 ·apply List.ext_getElem?
  intro b
  rw[kN]
  by_cases ag:b<H.length
  ·rw[List.getElem?_append_left ag,List.getElem?_append_left (by rw[j_];exact ag),kN,vv _ _ (by omega)]
  ·by_cases gy:b=H.length
   ·subst gy
    rw[vw,List.getElem?_append_right (Nat.le_refl _),List.getElem?_append_right (by rw[j_];exact Nat.le_refl _),j_]
    simp
   ·rw[List.getElem?_eq_none (by simp;omega),List.getElem?_eq_none (by simp[j_];omega)]
    rfl
theorem gG.set(h:gG P C F G H a8){c e b:Nat}(ae:C.lookup c=some e)(a4:F c= .pointer (some ⟨b,0,none⟩)){z:Value}(aN:Whole P e z):
  gG P C F (a1 G c z) H (ry a8 b (.own e false z.cells.toList))/\cv (ry a8 b (.own e false z.cells.toList)) H=(cv a8 H).set b (.own e false z.cells.toList):=by
 have ag:a8 b=some (.own e false (G c).cells.toList):=by
  rcases h.cell c e ae with q | ⟨ct,aY,a3,bN⟩
  ·rw[q]at a4;cases a4
  ·rw[aY]at a4;simp at a4;subst a4;exact a3
 have aA:=(h.fit b _ ag).1
 have gP:=h.fit.lt ag
 refine⟨⟨fun ct x c8=>?_,fun r cX al=>?_,h.inj⟩,?_⟩
 ·by_cases gy:ct=b
  ·subst gy
   rw[vw]at c8
   obtain rfl:=Option.some.inj c8
   exact⟨aA,_,_,_,rfl⟩
  ·rw[vv _ _ gy]at c8
   exact h.fit ct x c8
 ·by_cases sI:r=c
  ·subst sI
   rw[ae]at al
   obtain rfl:=Option.some.inj al
   exact .inr ⟨b,a4,by rw[vw,jv],by rw[jv];exact aN⟩
  ·rw[iG _ _ sI]
   rcases h.cell r cX al with q | ⟨ct,aY,a3,bN⟩
   ·exact .inl q
   ·have:ct≠b:=fun e=>by subst e;exact h.inj c r e _ ct ae al (Ne.symm sI) a4 aY
    exact .inr ⟨ct,aY,by rw[vv _ _ this];exact a3,bN⟩
 ·apply List.ext_getElem?
  intro ct
  rw[kN]
  by_cases gy:b=ct
  ·subst gy
   rw[vw,List.getElem?_set_self (by rw[j_];exact gP),aA]
   rfl
  ·rw[List.getElem?_set_ne gy,kN,vv _ _ (Ne.symm gy)]
end
section
variable {aJ:Operand->Value} {H:ab} {b e:Nat} {x y:Operand} {v:Value}
theorem wa{v:Value}(h:e3 v=true):v= .agg v.cells:=by cases v<;>simp[e3]at h;rfl
theorem aaB{t:Nat}(J:aJ x= .pointer (some ⟨b,0,none⟩))(aT:H[b]?=some (.own e false v.cells.toList))(hw:Whole P t v):b5 P aJ H (.load t x)=some (v,H):=by
 obtain⟨o,aa,aB⟩:=hw
 have ae:iL H b=some v.cells.toList:=by unfold iL;rw[aT];rfl
 simp only[b5,J,ae]
 split at aB
 ·rename_i aO
  rw[aB]
  simp only[o]
  rw[if_pos (by simp)]
  have:(v.cells.toList.drop 0).take v.cells.size=v.cells.toList:=by rw[List.drop_zero,List.take_of_length_le (by simp)]
  rw[this]
  simp only[Array.toArray_toList]
  rw[<-wa aO]
 ·rw[aB.1]
  simp only
  rw[aB.2]
  rfl
theorem Oz{t off:Nat}{cs:List Value}(J:aJ x= .pointer (some ⟨b,off,none⟩))(aT:H[b]?=some (.own e false cs))(ao:bp P t=some (aJ y).cells.size)(bz:off+(aJ y).cells.size<=cs.length)(o:((aJ y).cells.toList.all (·.oneCell'))=true):
  b5 P aJ H (.store t x y)=some (undef,H.set b (.own e false (dg cs off (aJ y).cells.toList))):=by
 simp only[b5,J,aT]
 rw[if_pos ⟨ao,bz,o⟩]
end
theorem Whole.aaI{e off:Nat}{cs:Array Value}{aE:List Value}(h:Whole P e (.agg cs))(bz:off+aE.length<=cs.size)(o:(aE.all (·.oneCell'))=true):Whole P e (.agg (dg cs.toList off aE).toArray):=by
 obtain⟨aY,a3,bN⟩:=h
 have ar:(dg cs.toList off aE).length=cs.size:=by rw[nx (by simpa using bz)];simp
 refine⟨?_,?_,by simpa[e3]using bN⟩
 ·rw[aY];simp only[Value.cells,List.size_toArray,ar]
 ·simp only[Value.cells]at a3⊢
  rw[List.all_eq_true]at a3⊢
  intro u hu
  simp only[dg,List.mem_append]at hu
  rcases hu with(hu | hu) | hu
  ·exact a3 u (List.mem_of_mem_take hu)
  ·exact List.all_eq_true.1 o u hu
  ·exact a3 u (List.mem_of_mem_drop hu)
theorem PL{t:Nat}{x:Operand}{d:Option Nat}{r:List bF}{F:Fr}{H H1:ab}{Q:Fr->ab->Prop}{v:Value}(h:b5 P (aq F) H (.load t x)=some (v,H1))(ak:bj P r (fW F d v) H1 Q):bj P (⟨true,none,d,.load t x⟩::r) F H Q:=by
 simp only[bj,gm,h]
 exact⟨fun _=>trivial,ak⟩
theorem PM{t:Nat}{x y:Operand}{d:Option Nat}{r:List bF}{F:Fr}{H H1:ab}{Q:Fr->ab->Prop}{v:Value}(h:b5 P (aq F) H (.store t x y)=some (v,H1))(ak:bj P r (fW F d v) H1 Q):bj P (⟨true,none,d,.store t x y⟩::r) F H Q:=by
 simp only[bj,gm,h]
 exact⟨fun _=>trivial,ak⟩
theorem aeD{s f b R off:Nat}{x:Nat}{d:Nat}{r:List bF}{F:Fr}{H:ab}{Q:Fr->ab->Prop}(J:F x= .pointer (some ⟨b,off,none⟩))(az:fQ P s f=some R)(ak:bj P r (a1 F d (.pointer (some ⟨b,off+R,none⟩))) H Q):bj P (⟨true,none,some d,.fieldAddr s (.tmp x) f⟩::r) F H Q:=by
 have ao:b5 P (aq F) H (.fieldAddr s (.tmp x) f)=some (.pointer (some ⟨b,off+R,none⟩),H):=by simp only[b5,aq,J,az,Option.map_some]
 simp only[bj,gm,ao]
 exact⟨fun _=>trivial,ak⟩
theorem adV{cs aE:List Value}{i:Nat}(h:i+aE.length<=cs.length):l9 cs i aE=dg cs i aE:=GA h
theorem wF{α:Type}{R:Option α}{K:α->Prop}(h:e5 R K):∃v,R=some v/\K v:=by
 cases R with
 | none=>exact h.elim
 | some v=>exact⟨v,rfl,h⟩
theorem Fo{v:Value}{K:Array Value->Prop}(h:nJ v K):∃cs,v= .agg cs/\K cs:=by
 cases v with
 | agg cs=>exact⟨cs,rfl,h⟩
 | _=>exact h.elim
variable {C:Cells}
theorem JP{E:iK}{F:Fr}{g:Option (Nat×Bool)}{s x f r off b:Nat}(h:CW P E g s x f r off=true)(bZ:iw E F)(aU:mm g F)(al:F r= .pointer (some ⟨b,0,none⟩)):∃R,fQ P s f=some R/\R<=off/\F x= .pointer (some ⟨b,off-R,none⟩):=by
 unfold CW at h
 cases hd:fQ P s f with
 | none=>rw[hd]at h;cases h
 | some R=>
  rw[hd]at h
  simp only[Bool.and_eq_true,decide_eq_true_eq]at h
  exact⟨R,rfl,h.1,qa h.2 bZ aU al⟩
theorem JO{E:iK}{F:Fr}{g:Option (Nat×Bool)}{d c off:Nat}(bZ:iw E F)(qW:(match g with | some (j,_)=>j !=d | none=>true)=true)(aU:¬mm g F):iw ((d,c,off,g)::kill d E) (a1 F d undef):=fun y aK uV=>by
 rcases List.mem_cons.1 aK with rfl | aK
 ·refine absurd ((C3 fun j w e=>iG F undef ?_).1 uV) aU
  simp only at e
  subst e
  simpa using qW
 ·exact bZ.kill d _ y aK uV
theorem Jh{F G:Fr}{H:ab}{a8:Nat->Option bK}{E:iK}{g:Option (Nat×Bool)}{t x c:Nat}(bo:gG P C F G H a8)(ae:C.lookup c=some t)(hi:reach E g x c 0=true)(bZ:iw E F)(aU:mm g F)(a2:j7 (F c)=true):b5 P (aq F) (cv a8 H) (.load t (.tmp x))=some (G c,cv a8 H):=by
 obtain⟨b,da,gB,fC,g8,iD⟩:=bo.at ae a2
 exact aaB (b:=b) (qa hi bZ aU da) g8 fC
theorem Jg{F G:Fr}{H:ab}{a8:Nat->Option bK}{E:iK}{g:Option (Nat×Bool)}{t x c e off:Nat}{K:Value->Prop}(bo:gG P C F G H a8)(ae:C.lookup c=some e)(hi:reach E g x c off=true)(bZ:iw E F)(aU:mm g F)
  (h:gv (j7 (F c)=true) (nJ (G c) fun cs=>e5 (dq P t) fun a=>hY a (e5 (bp P t) fun n=>gv (off+n<=cs.size) (K (.agg ((cs.toList.drop off).take n).toArray))) (e5 cs.toList[off]? fun v=>K v))):∃v,b5 P (aq F) (cv a8 H) (.load t (.tmp x))=some (v,cv a8 H)/\K v:=by
 obtain⟨a2,h⟩:=h
 obtain⟨b,da,gB,fC,g8,iD⟩:=bo.at ae a2
 obtain⟨cs,gn,h⟩:=Fo h
 have J:=qa hi bZ aU da
 have KX:iL (cv a8 H) b=some cs.toList:=by unfold iL;rw[g8,gn];rfl
 obtain⟨a,aO,h⟩:=wF h
 cases a with
 | true=>
  obtain⟨n,aG,bz,aX⟩:=wF h
  exact⟨_,by simp only[b5,aq,J,KX,aO,aG];rw[if_pos (by simpa using bz)],aX⟩
 | false=>
  obtain⟨v,an,aX⟩:=wF h
  exact⟨v,by simp only[b5,aq,J,KX,aO,an];rfl,aX⟩
theorem Jj{F G:Fr}{H:ab}{a8:Nat->Option bK}{E:iK}{g:Option (Nat×Bool)}{t x c:Nat}{y:Operand}(bo:gG P C F G H a8)(ae:C.lookup c=some t)(hi:reach E g x c 0=true)(bZ:iw E F)(aU:mm g F)(a2:j7 (F c)=true)(hw:Whole P t (aq F y)):
  ∃eV,b5 P (aq F) (cv a8 H) (.store t (.tmp x) y)=some (undef,cv eV H)/\gG P C F (a1 G c (aq F y)) H eV:=by
 obtain⟨b,da,gB,fC,g8,iD⟩:=bo.at ae a2
 have J:=qa hi bZ aU da
 have c7:(aq F y).cells.size=(G c).cells.size:=by have:=fC.1;rw[hw.1]at this;exact Option.some.inj this
 have ao:=Oz (P:=P) (aJ:=aq F) (x:= .tmp x) (y:=y) J g8 hw.1 (by simp;omega) hw.2.1
 obtain⟨aY,a3⟩:=bo.set ae da hw
 refine⟨_,?_,aY⟩
 rw[ao,a3]
 have:dg (G c).cells.toList 0 (aq F y).cells.toList=(aq F y).cells.toList:=by
  simp only[dg,List.take_zero,List.nil_append,Nat.zero_add]
  rw[List.drop_eq_nil_of_le (by simp;omega),List.append_nil]
 rw[this]
theorem Ji{F G:Fr}{H:ab}{a8:Nat->Option bK}{E:iK}{g:Option (Nat×Bool)}{t x c e off:Nat}{y:Operand}{K:Value->Prop}(bo:gG P C F G H a8)(ae:C.lookup c=some e)(hi:reach E g x c off=true)(bZ:iw E F)(aU:mm g F)
  (h:gv (j7 (F c)=true) (nJ (G c) fun cs=>gv (bp P t=some (aq F y).cells.size/\off+(aq F y).cells.size<=cs.size/\((aq F y).cells.toList.all (·.oneCell'))=true) (K (.agg (l9 cs.toList off (aq F y).cells.toList).toArray)))):
  ∃eV v,b5 P (aq F) (cv a8 H) (.store t (.tmp x) y)=some (undef,cv eV H)/\gG P C F (a1 G c v) H eV/\K v:=by
 obtain⟨a2,h⟩:=h
 obtain⟨b,da,gB,fC,g8,iD⟩:=bo.at ae a2
 obtain⟨cs,gn,⟨o,aa,aB⟩,aX⟩:=Fo h
 have J:=qa hi bZ aU da
 have ao:=Oz (P:=P) (aJ:=aq F) (x:= .tmp x) (y:=y) J g8 o (by rw[gn];simpa[Value.cells]using aa) aB
 rw[gn]at ao fC
 rw[adV (by simpa using aa)]at aX
 obtain⟨aY,a3⟩:=bo.set ae da (fC.aaI (aE:=(aq F y).cells.toList) (by simpa using aa) aB)
 refine⟨_,_,?_,aY,aX⟩
 rw[ao,a3]
 rfl
theorem mc:∀(l:List g2) (E:iK) (F G:Fr) (H:ab) (a8:Nat->Option bK) (Q:Fr->Fr->ab->Prop),hH P C false E l=true->gG P C F G H a8->iw E F->dv P l F G H Q->
  bj P (qn l) F (cv a8 H) fun ay H1=>∃bD aR eV,H1=cv eV aR/\gG P C ay bD aR eV/\Q ay bD aR
 | [],E,F,G,H,a8,Q,ak,bo,bZ,h=>⟨G,H,a8,rfl,bo,h⟩
 | .xs l::r,E,F,G,H,a8,Q,ak,bo,bZ,h=>by
  simp only[hH,Bool.and_eq_true]at ak
  simp only[qn,g2.back]
  refine bj.append (bj.mono (fun ay H1 c4=>?_) (bj.o_ bo.fit (bj.gA h)))
  obtain⟨aH,rfl,az,aN,a4⟩:=c4
  have wQ:∀r e,C.lookup r=some e->ay r=F r:=fun r e al=>a4 r fun R aM=>by
   have:=List.all_eq_true.1 ak.1 R aM
   cases aA:R.d with
   | none=>simp
   | some d=>rw[aA]at this;rintro⟨rfl⟩;simp[CP,lQ,al]at this
  exact mc r _ ay G aH a8 Q ak.2 (bo.congr wQ az) (bZ.M7 a4) aN
 | .bL c e::r,E,F,G,H,a8,Q,ak,bo,bZ,h=>by
  simp only[hH,Bool.and_eq_true,beq_iff_eq]at ak
  obtain⟨z,aN,⟨dU,hw⟩,aX⟩:=wF h
  obtain⟨aY,a3⟩:=bo.new ak.1 hw
  show bj P (bL c e::qn r) F (cv a8 H) _
  rw[PK]
  simp only[aN]
  refine⟨⟨dU,by rw[hw.1];rfl⟩,?_⟩
  rw[j_,<-a3]
  exact mc r _ _ _ _ _ Q ak.2 aY (bZ.kill c _) aX
 | .cm c e y::r,E,F,G,H,a8,Q,ak,bo,bZ,h=>by
  simp only[hH,Bool.and_eq_true,beq_iff_eq]at ak
  obtain⟨hw,aX⟩:=h
  obtain⟨aY,a3⟩:=bo.new ak.1 hw
  show bj P (cm c e y::qn r) F (cv a8 H) _
  rw[PF]
  refine⟨by rw[hw.1];rfl,?_⟩
  rw[j_,<-a3]
  exact mc r _ _ _ _ _ Q ak.2 aY (bZ.kill c _) aX
 | .a9 g d s x f c off::r,E,F,G,H,a8,Q,ak,bo,bZ,h=>by
  simp only[hH,Bool.and_eq_true,Bool.not_eq_true']at ak
  obtain⟨⟨⟨⟨aA,ae⟩,n5⟩,qW⟩,al⟩:=ak
  obtain⟨e,fS⟩:=uF ae
  have Ad:c≠d:=fun cX=>by subst cX;rw[ae]at aA;cases aA
  simp only[dv]at h
  refine yZ (h.imp (fun aU aX=>?_) fun aU aX=>?_)
  ·obtain⟨a2,aX⟩:=aX
   have De:iw ((d,c,off,g)::kill d E) (a1 F d (pa (F c) off)):=fun y aK uV=>by
    rcases List.mem_cons.1 aK with rfl | aK
    ·simp only;rw[jv,iG _ _ Ad]
    ·exact bZ.kill d _ y aK uV
   have sJ:=mc r _ _ _ _ _ Q al (bo.nz aA (pa (F c) off)) De aX
   obtain⟨b,da,-⟩:=bo.at fS a2
   obtain⟨R,hd,aM,J⟩:=JP n5 bZ aU da
   refine aeD J hd ?_
   rw[da]at sJ
   simp only[pa,Nat.zero_add]at sJ
   rw[show off-R+R=off by omega]
   exact sJ
  ·exact mc r _ _ _ _ _ Q al (bo.nz aA undef) (JO bZ qW aU) aX
 | .bT g d t x c::r,E,F,G,H,a8,Q,ak,bo,bZ,h=>by
  simp only[hH,Bool.and_eq_true,Bool.not_eq_true',beq_iff_eq]at ak
  obtain⟨⟨⟨aA,ae⟩,hi⟩,al⟩:=ak
  simp only[dv]at h
  refine yZ (h.imp (fun aU aX=>?_) fun aU aX=>?_)
  ·obtain⟨a2,aX⟩:=aX
   exact PL (Jh bo ae hi bZ aU a2) (mc r _ _ _ _ _ Q al (bo.nz aA (G c)) (bZ.kill d _) aX)
  ·exact mc r _ _ _ _ _ Q al (bo.nz aA undef) (bZ.kill d _) aX
 | .aF g d t x c off::r,E,F,G,H,a8,Q,ak,bo,bZ,h=>by
  simp only[hH,Bool.and_eq_true,Bool.not_eq_true']at ak
  obtain⟨⟨⟨aA,ae⟩,hi⟩,al⟩:=ak
  obtain⟨e,fS⟩:=uF ae
  simp only[dv]at h
  refine yZ (h.imp (fun aU aX=>?_) fun aU aX=>?_)
  ·obtain⟨v,ao,Di⟩:=Jg (K:=fun v=>dv P r (a1 F d v) G H Q) bo fS hi bZ aU aX
   exact PL ao (mc r _ _ _ _ _ Q al (bo.nz aA v) (bZ.kill d _) Di)
  ·exact mc r _ _ _ _ _ Q al (bo.nz aA undef) (bZ.kill d _) aX
 | .bW b g t x y c::r,E,F,G,H,a8,Q,ak,bo,bZ,h=>by
  simp only[hH,Bool.and_eq_true,beq_iff_eq,Bool.or_false]at ak
  obtain⟨⟨⟨ag,ae⟩,hi⟩,al⟩:=ak
  have ag:b=true:=by simpa using ag
  subst ag
  simp only[dv]at h
  refine yZ (h.imp (fun aU aX=>?_) fun aU aX=>?_)
  ·obtain⟨⟨a2,hw⟩,aX⟩:=aX
   obtain⟨eV,ao,eN⟩:=Jj (y:=y) bo ae hi bZ aU a2 hw
   exact PM ao (mc r _ _ _ _ _ Q al eN bZ aX)
  ·exact mc r _ _ _ _ _ Q al bo bZ aX
 | .st b g t x y c off::r,E,F,G,H,a8,Q,ak,bo,bZ,h=>by
  simp only[hH,Bool.and_eq_true]at ak
  obtain⟨⟨⟨ag,ae⟩,hi⟩,al⟩:=ak
  have ag:b=true:=by simpa using ag
  subst ag
  obtain⟨e,fS⟩:=uF ae
  simp only[dv]at h
  refine yZ (h.imp (fun aU aX=>?_) fun aU aX=>?_)
  ·obtain⟨eV,v,ao,eN,aX⟩:=Ji (y:=y) (K:=fun v=>dv P r F (a1 G c v) H Q) bo fS hi bZ aU aX
   exact PM ao (mc r _ _ _ _ _ Q al eN bZ aX)
  ·exact mc r _ _ _ _ _ Q al bo bZ aX
theorem PJ{F:Fr}{H:ab}{b ct:Bool}{af W:List Nat}{K:Value->ab->Prop}{op:Op}(av:vy op=true)(h:gm P b F H K op):gM P ct (aq F) H af W (fun v H1 fK fL=>fK=af/\fL=W/\K v H1) op:=by
 have main:jt op=false->(match b5 P (aq F) H op with
   | some (v,H1)=>(hT op=true->b=true)/\K v H1
   | none=>jt op=true/\∃v H1,nI P (aq F) H op v H1/\(b=true\/Ext H H1)/\K v H1)->(match b5 P (aq F) H op with | some (v,H1)=>af=af/\W=W/\K v H1 | none=>False):=by
  intro hm
  cases b5 P (aq F) H op with
  | some p=>exact fun h=>⟨rfl,rfl,h.2⟩
  | none=>intro h;rw[hm]at h;cases h.1
 cases op with
 | load t x=>cases av
 | store t x y=>cases av
 | call c=>
  obtain⟨callee,args,k1⟩:=c
  cases callee with
  | value f=>cases av
  | invoke r m=>exact main rfl h
  | builtin bi=>exact main (by simpa[vy]using av) h
 | _=>exact main (by simpa[vy]using av) h
theorem fy.append:∀{l de:List bF} {F:Fr} {H:ab} {af W:List Nat} {Q:Fr->ab->Prop} {b:Bool},(∀R∈l,vy R.op=true)->bj P l F H (fun ay H1=>fy P de ay H1 af W Q)->fy P (l++de) F H af W Q
 | [],de,F,H,af,W,Q,b,av,h=>h
 | x::l,de,F,H,af,W,Q,b,av,h=>by
  have J:=av x List.mem_cons_self
  have ar:∀R∈l,vy R.op=true:=fun R aM=>av R (List.mem_cons_of_mem _ aM)
  simp only[List.cons_append,fy]
  simp only[bj]at h
  split
  ·rename_i aU
   rw[aU]at h
   exact gM.mono (fun v H1 fK fL ⟨bm,bk,c4⟩=>by subst bm bk;exact fy.append (b:=b) ar c4) (PJ J h)
  ·rename_i j w aU
   rw[aU]at h
   simp only at h
   split
   ·rename_i ag
    rw[if_pos ag]at h
    exact gM.mono (fun v H1 fK fL ⟨bm,bk,c4⟩=>by subst bm bk;exact fy.append (b:=b) ar c4) (PJ J h)
   ·rename_i ag
    rw[if_neg ag]at h
    exact fy.append (b:=b) ar h
theorem aep{s f b R off:Nat}{x:Nat}{d:Nat}{r:List bF}{F:Fr}{H:ab}{af W:List Nat}{Q:Fr->ab->Prop}(J:F x= .pointer (some ⟨b,off,none⟩))(az:fQ P s f=some R)(ak:fy P r (a1 F d (.pointer (some ⟨b,off+R,none⟩))) H af W Q):fy P (⟨true,none,some d,.fieldAddr s (.tmp x) f⟩::r) F H af W Q:=by
 have ao:b5 P (aq F) H (.fieldAddr s (.tmp x) f)=some (.pointer (some ⟨b,off+R,none⟩),H):=by simp only[b5,aq,J,az,Option.map_some]
 simp only[fy,gM,ao]
 exact ak
theorem PH{t b i:Nat}{x:Operand}{d:Option Nat}{r:List bF}{F:Fr}{H H1:ab}{af W:List Nat}{Q:Fr->ab->Prop}{v:Value}(J:aq F x= .pointer (some ⟨b,i,none⟩))(uB:b∉W)(h:b5 P (aq F) H (.load t x)=some (v,H1))(ak:fy P r (fW F d v) H1 (b::af) W Q):fy P (⟨true,none,d,.load t x⟩::r) F H af W Q:=by
 simp only[fy,gM,J,h]
 exact⟨uB,ak⟩
theorem PI{ml:Bool}{t b i:Nat}{x y:Operand}{d:Option Nat}{r:List bF}{F:Fr}{H H1:ab}{af W:List Nat}{Q:Fr->ab->Prop}{v:Value}(J:aq F x= .pointer (some ⟨b,i,none⟩))(uB:ml=true\/(b∉W/\b∉af))(h:b5 P (aq F) H (.store t x y)=some (v,H1))(ak:fy P r (fW F d v) H1 af (if ml=true then W else b::W) Q):fy P (⟨ml,none,d,.store t x y⟩::r) F H af W Q:=by
 simp only[fy,gM,J,h]
 exact⟨uB,ak⟩
def oJ(C:Cells)(F:Fr)(gd af:List Nat):Prop:=∀b∈af,∃c e,c∈gd/\C.lookup c=some e/\F c= .pointer (some ⟨b,0,none⟩)
theorem oJ.not{F G:Fr}{H:ab}{a8:Nat->Option bK}{gd af:List Nat}{c e b:Nat}(h:oJ C F gd af)(bo:gG P C F G H a8)(ae:C.lookup c=some e)(a4:F c= .pointer (some ⟨b,0,none⟩))(aG:c∉gd):b∉af:=fun ag=>by
 obtain⟨dT,cX,o,aa,aB⟩:=h b ag
 have:dT≠c:=fun e=>aG (e▸o)
 exact bo.inj dT c cX e b aa ae this aB a4
theorem oJ.cons{F:Fr}{gd af:List Nat}{c e b:Nat}(h:oJ C F gd af)(ae:C.lookup c=some e)(a4:F c= .pointer (some ⟨b,0,none⟩)):oJ C F (c::gd) (b::af):=fun ct ag=>by
 rcases List.mem_cons.1 ag with rfl | ag
 ·exact⟨c,e,List.mem_cons_self,ae,a4⟩
 ·obtain⟨dT,cX,o,aa,aB⟩:=h ct ag
  exact⟨dT,cX,List.mem_cons_of_mem _ o,aa,aB⟩
theorem oJ.congr{F ay:Fr}{gd af:List Nat}(h:oJ C F gd af)(a4:∀r e,C.lookup r=some e->ay r=F r):oJ C ay gd af:=fun b ag=>by
 obtain⟨c,e,o,aa,aB⟩:=h b ag
 exact⟨c,e,o,aa,by rw[a4 c e aa];exact aB⟩
theorem nA{F:Fr}{d:Nat}{v:Value}(aA:lQ C d=false):∀r e,C.lookup r=some e->a1 F d v r=F r:=fun r e al=>iG _ _ (by rintro rfl;simp[lQ,al]at aA)
theorem nD:∀(l:List g2) (E:iK) (gd ho af W:List Nat) (F G:Fr) (H:ab) (a8:Nat->Option bK) (Q:Fr->Fr->ab->Prop),hH P C true E l=true->mb gd ho l=true->oJ C F gd af->oJ C F ho W->gG P C F G H a8->iw E F->dv P l F G H Q->
  fy P (qn l) F (cv a8 H) af W fun ay H1=>∃bD aR eV,H1=cv eV aR/\gG P C ay bD aR eV/\Q ay bD aR
 | [],E,gd,ho,af,W,F,G,H,a8,Q,ak,gq,iO,hP,bo,bZ,h=>⟨G,H,a8,rfl,bo,h⟩
 | .xs l::r,E,gd,ho,af,W,F,G,H,a8,Q,ak,gq,iO,hP,bo,bZ,h=>by
  simp only[hH,Bool.and_eq_true]at ak
  simp only[mb,Bool.and_eq_true]at gq
  simp only[qn,g2.back]
  refine fy.append (b:=true) (fun R aM=>List.all_eq_true.1 gq.1 R aM) (bj.mono (fun ay H1 c4=>?_) (bj.o_ bo.fit (bj.gA h)))
  obtain⟨aH,rfl,az,aN,a4⟩:=c4
  have wQ:∀r e,C.lookup r=some e->ay r=F r:=fun r e al=>a4 r fun R aM=>by
   have:=List.all_eq_true.1 ak.1 R aM
   cases aA:R.d with
   | none=>simp
   | some d=>rw[aA]at this;rintro⟨rfl⟩;simp[CP,lQ,al]at this
  exact nD r _ gd ho af W ay G aH a8 Q ak.2 gq.2 (iO.congr wQ) (hP.congr wQ) (bo.congr wQ az) (bZ.M7 a4) aN
 | .bL c e::r,E,gd,ho,af,W,F,G,H,a8,Q,ak,gq,iO,hP,bo,bZ,h=>by cases gq
 | .cm c e y::r,E,gd,ho,af,W,F,G,H,a8,Q,ak,gq,iO,hP,bo,bZ,h=>by cases gq
 | .a9 g d s x f c off::r,E,gd,ho,af,W,F,G,H,a8,Q,ak,gq,iO,hP,bo,bZ,h=>by
  simp only[hH,Bool.and_eq_true,Bool.not_eq_true']at ak
  simp only[mb]at gq
  obtain⟨⟨⟨⟨aA,ae⟩,n5⟩,qW⟩,al⟩:=ak
  obtain⟨e,fS⟩:=uF ae
  have Ad:c≠d:=fun cX=>by subst cX;rw[ae]at aA;cases aA
  simp only[dv]at h
  refine yX (h.imp (fun aU aX=>?_) fun aU aX=>?_)
  ·obtain⟨a2,aX⟩:=aX
   have De:iw ((d,c,off,g)::kill d E) (a1 F d (pa (F c) off)):=fun y aK uV=>by
    rcases List.mem_cons.1 aK with rfl | aK
    ·simp only;rw[jv,iG _ _ Ad]
    ·exact bZ.kill d _ y aK uV
   have sJ:=nD r _ gd ho af W _ _ _ _ Q al gq (iO.congr (nA aA)) (hP.congr (nA aA)) (bo.nz aA (pa (F c) off)) De aX
   obtain⟨b,da,-⟩:=bo.at fS a2
   obtain⟨R,hd,aM,J⟩:=JP n5 bZ aU da
   refine aep J hd ?_
   rw[da]at sJ
   simp only[pa,Nat.zero_add]at sJ
   rw[show off-R+R=off by omega]
   exact sJ
  ·exact nD r _ gd ho af W _ _ _ _ Q al gq (iO.congr (nA aA)) (hP.congr (nA aA)) (bo.nz aA undef) (JO bZ qW aU) aX
 | .bT g d t x c::r,E,gd,ho,af,W,F,G,H,a8,Q,ak,gq,iO,hP,bo,bZ,h=>by
  simp only[hH,Bool.and_eq_true,Bool.not_eq_true',beq_iff_eq]at ak
  simp only[mb,Bool.and_eq_true,Bool.not_eq_true']at gq
  obtain⟨⟨⟨aA,ae⟩,hi⟩,al⟩:=ak
  simp only[dv]at h
  refine yX (h.imp (fun aU aX=>?_) fun aU aX=>?_)
  ·obtain⟨a2,aX⟩:=aX
   obtain⟨b,da,-⟩:=bo.at ae a2
   exact PH (i:=0) (qa hi bZ aU da) (hP.not bo ae da (by simpa using gq.1)) (Jh bo ae hi bZ aU a2)
    (nD r _ (c::gd) ho _ W _ _ _ _ Q al gq.2 ((iO.cons ae da).congr (nA aA)) (hP.congr (nA aA)) (bo.nz aA (G c)) (bZ.kill d _) aX)
  ·refine nD r _ (c::gd) ho af W _ _ _ _ Q al gq.2 (fun b ag=>?_) (hP.congr (nA aA)) (bo.nz aA undef) (bZ.kill d _) aX
   obtain⟨dT,cX,o,aa⟩:=(iO.congr (nA aA)) b ag
   exact⟨dT,cX,List.mem_cons_of_mem _ o,aa⟩
 | .aF g d t x c off::r,E,gd,ho,af,W,F,G,H,a8,Q,ak,gq,iO,hP,bo,bZ,h=>by
  simp only[hH,Bool.and_eq_true,Bool.not_eq_true']at ak
  simp only[mb,Bool.and_eq_true,Bool.not_eq_true']at gq
  obtain⟨⟨⟨aA,ae⟩,hi⟩,al⟩:=ak
  obtain⟨e,fS⟩:=uF ae
  simp only[dv]at h
  refine yX (h.imp (fun aU aX=>?_) fun aU aX=>?_)
  ·obtain⟨b,da,-⟩:=bo.at fS aX.1
   obtain⟨v,ao,Di⟩:=Jg (K:=fun v=>dv P r (a1 F d v) G H Q) bo fS hi bZ aU aX
   exact PH (i:=off) (qa hi bZ aU da) (hP.not bo fS da (by simpa using gq.1)) ao
    (nD r _ (c::gd) ho _ W _ _ _ _ Q al gq.2 ((iO.cons fS da).congr (nA aA)) (hP.congr (nA aA)) (bo.nz aA v) (bZ.kill d _) Di)
  ·refine nD r _ (c::gd) ho af W _ _ _ _ Q al gq.2 (fun b ag=>?_) (hP.congr (nA aA)) (bo.nz aA undef) (bZ.kill d _) aX
   obtain⟨dT,cX,o,aa⟩:=(iO.congr (nA aA)) b ag
   exact⟨dT,cX,List.mem_cons_of_mem _ o,aa⟩
 | .bW ml g t x y c::r,E,gd,ho,af,W,F,G,H,a8,Q,ak,gq,iO,hP,bo,bZ,h=>by
  simp only[hH,Bool.and_eq_true,beq_iff_eq]at ak
  simp only[mb,Bool.and_eq_true,Bool.or_eq_true,Bool.not_eq_true']at gq
  obtain⟨⟨⟨-,ae⟩,hi⟩,al⟩:=ak
  simp only[dv]at h
  refine yX (h.imp (fun aU aX=>?_) fun aU aX=>?_)
  ·obtain⟨⟨a2,hw⟩,aX⟩:=aX
   obtain⟨b,da,-⟩:=bo.at ae a2
   obtain⟨eV,ao,eN⟩:=Jj (y:=y) bo ae hi bZ aU a2 hw
   refine PI (i:=0) (qa hi bZ aU da) (gq.1.imp id fun q=>⟨hP.not bo ae da (by simpa using q.1),iO.not bo ae da (by simpa using q.2)⟩) ao
    (nD r _ gd (if ml=true then ho else c::ho) af _ _ _ _ _ Q al gq.2 iO ?_ eN bZ aX)
   cases ml with
   | true=>exact hP
   | false=>exact hP.cons ae da
  ·refine nD r _ gd (if ml=true then ho else c::ho) af W _ _ _ _ Q al gq.2 iO (fun b ag=>?_) bo bZ aX
   obtain⟨dT,cX,o,aa⟩:=hP b ag
   cases ml with
   | true=>exact⟨dT,cX,o,aa⟩
   | false=>exact⟨dT,cX,List.mem_cons_of_mem _ o,aa⟩
 | .st ml g t x y c off::r,E,gd,ho,af,W,F,G,H,a8,Q,ak,gq,iO,hP,bo,bZ,h=>by
  simp only[hH,Bool.and_eq_true]at ak
  simp only[mb,Bool.and_eq_true,Bool.or_eq_true,Bool.not_eq_true']at gq
  obtain⟨⟨⟨-,ae⟩,hi⟩,al⟩:=ak
  obtain⟨e,fS⟩:=uF ae
  simp only[dv]at h
  refine yX (h.imp (fun aU aX=>?_) fun aU aX=>?_)
  ·obtain⟨b,da,-⟩:=bo.at fS aX.1
   obtain⟨eV,v,ao,eN,aX⟩:=Ji (y:=y) (K:=fun v=>dv P r F (a1 G c v) H Q) bo fS hi bZ aU aX
   refine PI (i:=off) (qa hi bZ aU da) (gq.1.imp id fun q=>⟨hP.not bo fS da (by simpa using q.1),iO.not bo fS da (by simpa using q.2)⟩) ao
    (nD r _ gd (if ml=true then ho else c::ho) af _ _ _ _ _ Q al gq.2 iO ?_ eN bZ aX)
   cases ml with
   | true=>exact hP
   | false=>exact hP.cons fS da
  ·refine nD r _ gd (if ml=true then ho else c::ho) af W _ _ _ _ Q al gq.2 iO (fun b ag=>?_) bo bZ aX
   obtain⟨dT,cX,o,aa⟩:=hP b ag
   cases ml with
   | true=>exact⟨dT,cX,o,aa⟩
   | false=>exact⟨dT,cX,List.mem_cons_of_mem _ o,aa⟩
theorem nJ.imp{v:Value}{K eg:Array Value->Prop}(h:nJ v K)(ak:∀cs,K cs->eg cs):nJ v eg:=by
 obtain⟨cs,rfl,h⟩:=Fo h
 exact ak cs h
theorem e5.imp{α:Type}{R:Option α}{K eg:α->Prop}(h:e5 R K)(ak:∀v,K v->eg v):e5 R eg:=by
 obtain⟨v,rfl,h⟩:=wF h
 exact ak v h
theorem gv.imp{c K eg:Prop}(h:gv c K)(ak:K->eg):gv c eg:=⟨h.1,ak h.2⟩
theorem hY.imp{b:Bool}{A B vX kT:Prop}(h:hY b A B)(o:A->vX)(aa:B->kT):hY b vX kT:=by
 cases b
 ·exact aa h
 ·exact o h
theorem dv.gA:∀{l:List g2} {m k:Nat} {F G:Fr} {H:ab} {Q cf:Fr->Fr->ab->Prop},(l.all (wi m k))=true->(∀ay bD H1,(∀r,gV m r=false->ay r=F r)->(∀r,gV k r=false->bD r=G r)->Q ay bD H1->cf ay bD H1)->dv P l F G H Q->dv P l F G H cf
 | [],m,k,F,G,H,Q,cf,aO,av,h=>av _ _ _ (fun _ _=>rfl) (fun _ _=>rfl) h
 | i::l,m,k,F,G,H,Q,cf,aO,av,h=>by
  simp only[List.all_cons,Bool.and_eq_true]at aO
  have qj:∀{d:Nat} {v:Value} {y4:Fr} {aH:ab},gV m d=true->(∀r,gV k r=false->y4 r=G r)->dv P l (a1 F d v) y4 aH Q->dv P l (a1 F d v) y4 aH cf:=fun{d v y4 aH} aA gH o=>
   dv.gA aO.2 (fun ay bD H1 f1 cq=>av ay bD H1 (fun r al=>by rw[f1 r al,iG];rintro rfl;rw[aA]at al;cases al) (fun r al=>by rw[cq r al,gH r al])) o
  have Pn:∀{c:Nat} {v:Value} {aH:ab},gV k c=true->dv P l F (a1 G c v) aH Q->dv P l F (a1 G c v) aH cf:=fun{c v aH} ae o=>
   dv.gA aO.2 (fun ay bD H1 f1 cq=>av ay bD H1 f1 (fun r al=>by rw[cq r al,iG];rintro rfl;rw[ae]at al;cases al)) o
  have Ny:∀{c:Nat} {v:Value},gV k c=true->∀r,gV k r=false->a1 G c v r=G r:=fun{c v} ae r al=>iG _ _ (by rintro rfl;rw[ae]at al;cases al)
  cases i with
  | xs aeo=>
   simp only[dv]at h⊢
   refine bj.mono (fun ay H1 ⟨o,a4⟩=>dv.gA aO.2 (fun bR c5 aR f2 iy=>av bR c5 aR (fun r al=>?_) iy) o) (bj.gA h)
   rw[f2 r al,a4 r fun R aM aA=>?_]
   have:=List.all_eq_true.1 aO.1 R aM
   rw[aA]at this
   simp only[JE]at this
   rw[this]at al
   cases al
  | bL c e=>
   simp only[wi,Bool.and_eq_true]at aO
   simp only[dv]at h⊢
   exact h.imp fun z aN=>aN.imp (qj aO.1.1 (Ny aO.1.2))
  | cm c e y=>
   simp only[wi,Bool.and_eq_true]at aO
   simp only[dv]at h⊢
   exact h.imp (qj aO.1.1 (Ny aO.1.2))
  | a9 g d s x f c off=>
   simp only[dv]at h⊢
   exact h.imp (fun _ q=>q.imp (qj aO.1 fun _ _=>rfl)) fun _=>qj aO.1 fun _ _=>rfl
  | bT g d t x c=>
   simp only[dv]at h⊢
   exact h.imp (fun _ q=>q.imp (qj aO.1 fun _ _=>rfl)) fun _=>qj aO.1 fun _ _=>rfl
  | aF g d t x c off=>
   simp only[dv]at h⊢
   exact h.imp (fun _ q=>q.imp fun q=>q.imp fun cs q=>q.imp fun a q=>q.imp (fun q=>q.imp fun n q=>q.imp (qj aO.1 fun _ _=>rfl)) fun q=>q.imp fun v=>qj aO.1 fun _ _=>rfl) fun _=>qj aO.1 fun _ _=>rfl
  | bW b g t x y c=>
   simp only[dv]at h⊢
   exact h.imp (fun _ q=>q.imp (Pn aO.1)) fun _=>dv.gA aO.2 av
  | st b g t x y c off=>
   simp only[dv]at h⊢
   exact h.imp (fun _ q=>q.imp fun q=>q.imp fun cs q=>q.imp (Pn aO.1)) fun _=>dv.gA aO.2 av
theorem eZ.gA:∀{x:eY} {m k:Nat} {F G:Fr} {H:ab} {Q cf:dH->Fr->Fr->ab->Prop},ki m k x=true->(∀e ay bD H1,(∀r,gV m r=false->ay r=F r)->(∀r,gV k r=false->bD r=G r)->Q e ay bD H1->cf e ay bD H1)->eZ P x F G H Q->eZ P x F G H cf
 | .skip,m,k,F,G,H,Q,cf,aO,av,h=>av _ _ _ _ (fun _ _=>rfl) (fun _ _=>rfl) h
 | .ret,m,k,F,G,H,Q,cf,aO,av,h=>av _ _ _ _ (fun _ _=>rfl) (fun _ _=>rfl) h
 | .exit id,m,k,F,G,H,Q,cf,aO,av,h=>av _ _ _ _ (fun _ _=>rfl) (fun _ _=>rfl) h
 | .seq x y,m,k,F,G,H,Q,cf,aO,av,h=>by
  simp only[ki,Bool.and_eq_true]at aO
  refine eZ.gA (x:=x) aO.1 (fun e ay bD H1 f1 cq o=>?_) h
  cases e with
  | normal=>exact eZ.gA (x:=y) aO.2 (fun e bR c5 aR f2 iy=>av e bR c5 aR (fun r al=>by rw[f2 r al,f1 r al]) (fun r al=>by rw[iy r al,cq r al])) o
  | exit id=>exact av _ _ _ _ f1 cq o
  | ret=>exact av _ _ _ _ f1 cq o
 | .cond c x y,m,k,F,G,H,Q,cf,aO,av,h=>by
  simp only[ki,Bool.and_eq_true]at aO
  simp only[eZ]at h⊢
  cases an:aq F c<;>rw[an]at h<;>try exact h.elim
  rename_i b
  cases b with
  | true=>exact eZ.gA (x:=x) aO.1 av h
  | false=>exact eZ.gA (x:=y) aO.2 av h
 | .block id x,m,k,F,G,H,Q,cf,aO,av,h=>by
  simp only[ki]at aO
  refine eZ.gA (x:=x) aO (fun e ay bD H1 f1 cq o=>?_) h
  cases e with
  | normal=>exact av _ _ _ _ f1 cq o
  | ret=>exact av _ _ _ _ f1 cq o
  | exit hS=>
   simp only[qC]at o⊢
   split
   ·rename_i ad;rw[if_pos ad]at o;exact av _ _ _ _ f1 cq o
   ·rename_i ad;rw[if_neg ad]at o;exact av _ _ _ _ f1 cq o
 | .loop mG cb x,m,k,F,G,H,Q,cf,aO,av,h=>by
  simp only[ki]at aO
  simp only[eZ]at h⊢
  induction h with
  | round ai ag ed a0=>
   rename_i PT PV cx
   refine .round (fun ay bD H1=>ai ay bD H1/\(∀r,gV m r=false->ay r=PT r)/\∀r,gV k r=false->bD r=PV r) (eZ.gA (x:=x) aO (fun e ay bD H1 f1 cq o=>?_) ag) ?_
   ·cases e with
    | normal=>exact⟨o,f1,cq⟩
    | exit id=>exact av _ _ _ _ f1 cq o
    | ret=>exact av _ _ _ _ f1 cq o
   ·rintro ay bD H1 ⟨o,f1,cq⟩
    exact a0 ay bD H1 o fun e bR c5 aR f2 iy=>av e bR c5 aR (fun r al=>by rw[f2 r al,f1 r al]) (fun r al=>by rw[iy r al,cq r al])
 | .box mG cb x,m,k,F,G,H,Q,cf,aO,av,h=>eZ.gA (x:=x) aO av h
 | .ops l,m,k,F,G,H,Q,cf,aO,av,h=>dv.gA aO (fun ay bD H1=>av _ ay bD H1) h
 | .opsL l,m,k,F,G,H,Q,cf,aO,av,h=>dv.gA aO (fun ay bD H1=>av _ ay bD H1) h
theorem dv.mono:∀{l:List g2} {F G:Fr} {H:ab} {Q cf:Fr->Fr->ab->Prop},(∀F G H,Q F G H->cf F G H)->dv P l F G H Q->dv P l F G H cf
 | [],F,G,H,Q,cf,av,h=>av _ _ _ h
 | i::l,F,G,H,Q,cf,av,h=>by
  have a0:∀{F G:Fr} {H:ab},dv P l F G H Q->dv P l F G H cf:=dv.mono av
  cases i<;>simp only[dv]at h⊢
  case xs aeo=>exact bj.mono (fun ay H1=>a0) h
  case bL=>exact h.imp fun z aN=>aN.imp a0
  case cm=>exact h.imp a0
  case a9=>exact h.imp (fun _ q=>q.imp a0) fun _=>a0
  case bT=>exact h.imp (fun _ q=>q.imp a0) fun _=>a0
  case aF=>exact h.imp (fun _ q=>q.imp fun q=>q.imp fun cs q=>q.imp fun a q=>q.imp (fun q=>q.imp fun n q=>q.imp a0) fun q=>q.imp fun v=>a0) fun _=>a0
  case bW=>exact h.imp (fun _ q=>q.imp a0) fun _=>a0
  case st=>exact h.imp (fun _ q=>q.imp fun q=>q.imp fun cs q=>q.imp a0) fun _=>a0
theorem eZ.mono:∀{x:eY} {F G:Fr} {H:ab} {Q cf:dH->Fr->Fr->ab->Prop},(∀e F G H,Q e F G H->cf e F G H)->eZ P x F G H Q->eZ P x F G H cf
 | .skip,F,G,H,Q,cf,av,h=>av _ _ _ _ h
 | .ret,F,G,H,Q,cf,av,h=>av _ _ _ _ h
 | .exit id,F,G,H,Q,cf,av,h=>av _ _ _ _ h
 | .seq x y,F,G,H,Q,cf,av,h=>by
  refine eZ.mono (x:=x) (fun e ay bD H1 o=>?_) h
  cases e with
  | normal=>exact eZ.mono (x:=y) av o
  | exit id=>exact av _ _ _ _ o
  | ret=>exact av _ _ _ _ o
 | .cond c x y,F,G,H,Q,cf,av,h=>by
  simp only[eZ]at h⊢
  cases an:aq F c<;>rw[an]at h<;>try exact h.elim
  rename_i b
  cases b with
  | true=>exact eZ.mono (x:=x) av h
  | false=>exact eZ.mono (x:=y) av h
 | .block id x,F,G,H,Q,cf,av,h=>by
  refine eZ.mono (x:=x) (fun e ay bD H1 o=>?_) h
  cases e with
  | normal=>exact av _ _ _ _ o
  | ret=>exact av _ _ _ _ o
  | exit hS=>
   simp only[qC]at o⊢
   split
   ·rename_i ad;rw[if_pos ad]at o;exact av _ _ _ _ o
   ·rename_i ad;rw[if_neg ad]at o;exact av _ _ _ _ o
 | .loop mG cb x,F,G,H,Q,cf,av,h=>by
  simp only[eZ]at h⊢
  induction h with
  | round ai ag ed a0=>
   refine .round ai (eZ.mono (x:=x) (fun e ay bD H1 o=>?_) ag) a0
   cases e with
   | normal=>exact o
   | exit id=>exact av _ _ _ _ o
   | ret=>exact av _ _ _ _ o
 | .box mG cb x,F,G,H,Q,cf,av,h=>eZ.mono (x:=x) av h
 | .ops l,F,G,H,Q,cf,av,h=>dv.mono (fun ay bD H1=>av _ ay bD H1) h
 | .opsL l,F,G,H,Q,cf,av,h=>dv.mono (fun ay bD H1=>av _ ay bD H1) h
theorem rM:∀(z:eY) (F G:Fr) (H:ab) (a8:Nat->Option bK) (Q:dH->Fr->Fr->ab->Prop),kA P C z=true->gG P C F G H a8->eZ P z F G H Q->
  eA P z.back F (cv a8 H) fun e ay H1=>∃bD aR eV,H1=cv eV aR/\gG P C ay bD aR eV/\Q e ay bD aR
 | .skip,F,G,H,a8,Q,ak,bo,h=>⟨G,H,a8,rfl,bo,h⟩
 | .ret,F,G,H,a8,Q,ak,bo,h=>⟨G,H,a8,rfl,bo,h⟩
 | .exit id,F,G,H,a8,Q,ak,bo,h=>⟨G,H,a8,rfl,bo,h⟩
 | .seq x y,F,G,H,a8,Q,ak,bo,h=>by
  simp only[kA,Bool.and_eq_true]at ak
  refine eA.mono (x:=x.back) (fun e ay H1 ⟨bD,aR,eV,bm,eN,av⟩=>?_) (rM x F G H a8 _ ak.1 bo h)
  cases e with
  | normal=>rw[bm];exact rM y ay bD aR eV Q ak.2 eN av
  | exit id=>exact⟨bD,aR,eV,bm,eN,av⟩
  | ret=>exact⟨bD,aR,eV,bm,eN,av⟩
 | .cond c x y,F,G,H,a8,Q,ak,bo,h=>by
  simp only[kA,Bool.and_eq_true]at ak
  simp only[eZ]at h
  simp only[eY.back,eA]
  cases an:aq F c<;>rw[an]at h<;>try exact h.elim
  rename_i b
  cases b with
  | true=>exact rM x F G H a8 Q ak.1 bo h
  | false=>exact rM y F G H a8 Q ak.2 bo h
 | .block id x,F,G,H,a8,Q,ak,bo,h=>by
  simp only[kA]at ak
  refine eA.mono (x:=x.back) (fun e ay H1 ⟨bD,aR,eV,bm,eN,av⟩=>?_) (rM x F G H a8 _ ak bo h)
  cases e with
  | normal=>exact⟨bD,aR,eV,bm,eN,av⟩
  | exit hS=>
   simp only[qC]at av
   simp only[pB]
   split
   ·rename_i ad;rw[if_pos ad]at av;exact⟨bD,aR,eV,bm,eN,av⟩
   ·rename_i ad;rw[if_neg ad]at av;exact⟨bD,aR,eV,bm,eN,av⟩
  | ret=>exact⟨bD,aR,eV,bm,eN,av⟩
 | .loop m k x,F,G,H,a8,Q,ak,bo,h=>by
  simp only[kA,Bool.and_eq_true]at ak
  simp only[eZ]at h
  simp only[eY.back,eA]
  induction h generalizing a8 with
  | round ai ag ed a0=>
   refine .round (fun ay H1=>∃bD aR eV,H1=cv eV aR/\gG P C ay bD aR eV/\ai ay bD aR) (eA.mono (x:=x.back) (fun e ay H1 ⟨bD,aR,eV,bm,eN,av⟩=>?_) (rM x _ _ _ a8 _ ak.2 bo ag)) ?_
   ·rintro ay H1 ⟨bD,aR,eV,bm,eN,av⟩
    rw[bm]
    exact a0 ay bD aR av eV eN
   ·cases e with
    | normal=>exact⟨bD,aR,eV,bm,eN,av⟩
    | exit id=>exact⟨bD,aR,eV,bm,eN,av⟩
    | ret=>exact⟨bD,aR,eV,bm,eN,av⟩
 | .box m k x,F,G,H,a8,Q,ak,bo,h=>by
  simp only[kA,Bool.and_eq_true]at ak
  exact rM x F G H a8 Q ak.2 bo h
 | .ops l,F,G,H,a8,Q,ak,bo,h=>mc l [] F G H a8 _ ak bo (iw.nil F) h
 | .opsL l,F,G,H,a8,Q,ak,bo,h=>by
  simp only[kA,Bool.and_eq_true]at ak
  exact nD l [] [] [] [] [] F G H a8 _ ak.1 ak.2 (fun b ag=>by simp at ag) (fun b ag=>by simp at ag) bo (iw.nil F) h
theorem Cb{F G:Fr}{H:ab}{a8:Nat->Option bK}(bo:gG P C F G H a8):∀(rs:List jR) (K:List Value->Prop),ts C rs=true->oL F G rs K->kh P F (cv a8 H) (rs.map jR.back) K
 | [],K,ak,h=>h
 | .tmp i::rs,K,ak,h=>Cb bo rs _ (by simpa[ts]using ak) h
 | .cell a ty::rs,K,ak,h=>by
  simp only[ts,List.all_cons,Bool.and_eq_true,beq_iff_eq]at ak
  obtain⟨a2,h⟩:=h
  obtain⟨b,da,gB,⟨a7,hl,cM⟩,g8,iD⟩:=bo.at ak.1 a2
  have a0:=Cb bo rs (fun aE=>K (G a::aE)) (by simpa[ts]using ak.2) h
  simp only[List.map_cons,jR.back,kh,da]
  have ae:iL (cv a8 H) b=some (G a).cells.toList:=by unfold iL;rw[g8];rfl
  rw[ae]
  simp only
  split at cM
  ·rename_i aO
   rw[cM]
   simp only[a7]
   refine⟨by simp,?_⟩
   have:(((G a).cells.toList.drop 0).take (G a).cells.size)=(G a).cells.toList:=by rw[List.drop_zero,List.take_of_length_le (by simp)]
   rw[this]
   simp only[Array.toArray_toList]
   rw[<-wa aO]
   exact a0
  ·rw[cM.1]
   simp only
   rw[cM.2]
   exact a0
def lI(a8:Nat->Option bK)(n:Nat):Nat->Option bK:=fun b=>if b<n then none else a8 b
theorem M6{f:FuncId}{args:List Value}{v:Value}{H H1:ab}{a8:Nat->Option bK}(az:Fit a8 H1)(h:dX P (.call f args H) (.val v (cv a8 H1))):∀n,dX P (.call f args H) (.val v (cv (lI a8 n) H1))
 | 0=>by
  have:lI a8 0=a8:=by funext b;simp[lI]
  rw[this];exact h
 | n+1=>by
  have a0:=M6 az h n
  cases a2:a8 n with
  | none=>
   have:lI a8 (n+1)=lI a8 n:=by
    funext b
    unfold lI
    by_cases ag:b=n
    ·subst ag;simp[a2]
    ·by_cases a5:b<n
     ·rw[if_pos (by omega),if_pos a5]
     ·rw[if_neg (by omega),if_neg a5]
   rw[this];exact a0
  | some x=>
   obtain⟨aA,e,l,cs,J⟩:=az n x a2
   have a5:=az.lt a2
   have jB:(cv (lI a8 n) H1)[n]?=some (.own e l cs):=by
    rw[kN,aA]
    simp[lI,a2,J]
   have aa:=dX.zr a0 ⟨e,l,cs,jB⟩
   have:(cv (lI a8 n) H1).set n .dead=cv (lI a8 (n+1)) H1:=by
    apply List.ext_getElem?
    intro b
    by_cases ag:n=b
    ·subst ag
     rw[List.getElem?_set_self (by rw[j_];exact a5),kN,aA]
     simp[lI]
    ·rw[List.getElem?_set_ne ag,kN,kN]
     congr 1
     funext y
     unfold lI
     by_cases ar:b<n
     ·rw[if_pos ar,if_pos (by omega)]
     ·rw[if_neg ar,if_neg (by omega)]
   rw[<-this];exact aa
theorem QT{H1:ab}{a8:Nat->Option bK}(az:Fit a8 H1):cv (lI a8 H1.length) H1=H1:=by
 apply List.ext_getElem?
 intro b
 rw[kN]
 by_cases ag:b<H1.length
 ·simp[lI,ag]
 ·rw[List.getElem?_eq_none (by omega)];rfl
theorem aP.ae7{f:FuncId}{fn:Func}{z:cL}{args:List Value}{H:ab}{Q:Value->ab->Prop}(az:P.funcs[f]?=some fn)(aG:(fn.name== "runtime.NumGoroutine")=false)(ae:comp P fn=some z.back)(aN:(kA P C z.code&&ts C z.results)=true)
  (ar:args.length<=fn.ntmps)(wK:(C.all fun p=>decide (args.length<=p.1))=true)(h:eZ P z.code (jx args) (fun _=>undef) H (yt z.results Q)):aP P f args H Q:=by
 simp only[Bool.and_eq_true]at aN
 have AH:cv (fun _=>none) H=H:=by
  apply List.ext_getElem?
  intro b
  rw[kN]
  cases H[b]?<;>rfl
 have bo:gG P C (jx args) (fun _=>undef) H (fun _=>none):=by
  have hu:∀r e,C.lookup r=some e->jx args r=undef:=fun r e al=>by
   have:=of_decide_eq_true (List.all_eq_true.1 wK _ (Fe al))
   simp only at this
   unfold jx
   rw[List.getD_eq_getElem?_getD,List.getElem?_eq_none this]
   rfl
  exact⟨fun b x ag=>(by cases ag),fun r e al=> .inl (hu r e al),fun r dR e cX b al fB cQ a4=>by rw[hu r e al]at a4;cases a4⟩
 have J:=rM z.code _ _ _ _ _ aN.1 bo h
 rw[AH]at J
 obtain⟨v,H1,o,aa,aB⟩:=aP.M1 (Q:=fun v H1=>∃eV aR,H1=cv eV aR/\Fit eV aR/\Q v aR) az aG ae ar (eA.mono (x:=z.code.back) (fun e ay H1 ⟨bD,aR,eV,bm,eN,av⟩=>by
  cases e with
  | normal=>
   rw[bm]
   simp only[qb]
   refine Cb eN _ _ aN.2 ?_
   have:∀(rs:List jR) (K eg:List Value->Prop),(∀aE,K aE->eg aE)->oL ay bD rs K->oL ay bD rs eg:=by
    intro rs
    induction rs with
    | nil=>intro K eg ak h;exact ak _ h
    | cons r rs a0=>
     intro K eg ak h
     cases r with
     | tmp i=>exact a0 _ _ (fun aE=>ak _) h
     | cell a ty=>exact⟨h.1,a0 _ _ (fun aE=>ak _) h.2⟩
   exact this _ _ _ (fun aE an=>⟨eV,aR,rfl,eN.fit,an⟩) av
  | exit id=>exact av
  | ret=>
   rw[bm]
   simp only[qb]
   refine Cb eN _ _ aN.2 ?_
   have:∀(rs:List jR) (K eg:List Value->Prop),(∀aE,K aE->eg aE)->oL ay bD rs K->oL ay bD rs eg:=by
    intro rs
    induction rs with
    | nil=>intro K eg ak h;exact ak _ h
    | cons r rs a0=>
     intro K eg ak h
     cases r with
     | tmp i=>exact a0 _ _ (fun aE=>ak _) h
     | cell a ty=>exact⟨h.1,a0 _ _ (fun aE=>ak _) h.2⟩
   exact this _ _ _ (fun aE an=>⟨eV,aR,rfl,eN.fit,an⟩) av) J)
 obtain⟨eV,aR,rfl,bz,aD⟩:=aB
 have:=M6 bz aa aR.length
 rw[QT bz]at this
 exact⟨v,aR,.inl ⟨o,this⟩,aD⟩
end
def ec(P:Program)(l:List g2)(Q:Fr->Fr->ab->Prop)(ax:ba l Q)(F G:Fr)(H:ab):Prop:=dv P l F G H Q
def ca(P:Program)(x:eY)(Q:dH->Fr->Fr->ab->Prop)(ax:ba x Q)(F G:Fr)(H:ab):Prop:=eZ P x F G H Q
def rZ(rs:List jR)(K:List Value->Prop)(ax:ba rs K)(F G:Fr):Prop:=oL F G rs K
def dm(P:Program)(m k:Nat)(x:eY)(Q:dH->Fr->Fr->ab->Prop)(ax:ba x Q)(F G:Fr)(H:ab):Prop:=v3 (eZ P x) Q F G H
def cN(P:Program)(e:Nat)(K:Prop)(ax:ba K K)(v:Value):Prop:=gv (Whole P e v) K
theorem cN.mk{P:Program}{e:Nat}{K:Prop}{ax:ba K K}{v:Value}(h:Whole P e v)(ak:K):cN P e K ax v:=⟨h,ak⟩
section
variable {P:Program} {F G:Fr} {H:ab}
@[simp] theorem afu{e:Nat}{K:Prop}(ax:ba K K)(cs:Array Value):cN P e K ax (.agg cs)=dB K .mk (dq P e=some true/\bp P e=some cs.size/\(cs.toList.all (·.oneCell'))=true):=by
 apply propext
 constructor
 ·rintro⟨⟨o,aa,aB⟩,ak⟩;exact⟨⟨by simpa[e3]using aB,o,aa⟩,ak⟩
 ·rintro⟨⟨o,aa,aB⟩,ak⟩;exact⟨⟨aa,aB,by simpa[e3]using o⟩,ak⟩
variable {r:List g2} {Q:Fr->Fr->ab->Prop}
@[simp] theorem adp(ax:ba ([]:List g2) Q):ec P [] Q ax F G H=Q F G H:=rfl
@[simp] theorem adq(l:List bF)(ax:ba (.xs l::r) Q):ec P (.xs l::r) Q ax F G H=a_ P l (fun ay H1=>ec P r Q .mk ay G H1) .mk F H:=rfl
theorem rI{c e:Nat}{z:Value}(aN:dA P e=some z)(dU:flat z=true)(hw:Whole P e z)(ax:ba (.bL c e::r) Q):ec P (.bL c e::r) Q ax F G H=ec P r Q .mk (a1 F c (.pointer (some ⟨H.length,0,none⟩))) (a1 G c z) (H++[.dead]):=by
 simp[ec,dv,aN,e5,gv,dU,hw]
@[simp] theorem ajG(c e:Nat)(y:Operand)(ax:ba (.cm c e y::r) Q):ec P (.cm c e y::r) Q ax F G H=cN P e (ec P r Q .mk (a1 F c (.pointer (some ⟨H.length,0,none⟩))) (a1 G c (aq F y)) (H++[.dead])) .mk (aq F y):=rfl
@[simp] theorem ajH(d s x f c off:Nat)(ax:ba (.a9 none d s x f c off::r) Q):ec P (.a9 none d s x f c off::r) Q ax F G H=dB (ec P r Q .mk (a1 F d (pa (F c) off)) G H) .mk (j7 (F c)=true):=rfl
@[simp] theorem ajI(j:Nat)(w:Bool)(d s x f c off:Nat)(ax:ba (.a9 (some (j,w)) d s x f c off::r) Q):ec P (.a9 (some (j,w)) d s x f c off::r) Q ax F G H=oD (ec P (.a9 none d s x f c off::r) Q .mk F G H) (ec P r Q .mk (a1 F d undef) G H) .mk (hr (F j)) w:=rfl
@[simp] theorem ajL(d t x c:Nat)(ax:ba (.bT none d t x c::r) Q):ec P (.bT none d t x c::r) Q ax F G H=dB (ec P r Q .mk (a1 F d (G c)) G H) .mk (j7 (F c)=true):=rfl
@[simp] theorem ajM(j:Nat)(w:Bool)(d t x c:Nat)(ax:ba (.bT (some (j,w)) d t x c::r) Q):ec P (.bT (some (j,w)) d t x c::r) Q ax F G H=oD (ec P (.bT none d t x c::r) Q .mk F G H) (ec P r Q .mk (a1 F d undef) G H) .mk (hr (F j)) w:=rfl
@[simp] theorem ajJ(d t x c off:Nat)(ax:ba (.aF none d t x c off::r) Q):ec P (.aF none d t x c off::r) Q ax F G H=dB (zc (fun cs=>ga (fun a=>bt (ga (fun n=>dB (ec P r Q .mk (a1 F d (.agg ((cs.toList.drop off).take n).toArray)) G H) .mk (off+n<=cs.size)) .mk (bp P t)) (ga (fun v=>ec P r Q .mk (a1 F d v) G H) .mk cs.toList[off]?) .mk a) .mk (dq P t)) .mk (G c)) .mk (j7 (F c)=true):=rfl
@[simp] theorem ajK(j:Nat)(w:Bool)(d t x c off:Nat)(ax:ba (.aF (some (j,w)) d t x c off::r) Q):ec P (.aF (some (j,w)) d t x c off::r) Q ax F G H=oD (ec P (.aF none d t x c off::r) Q .mk F G H) (ec P r Q .mk (a1 F d undef) G H) .mk (hr (F j)) w:=rfl
@[simp] theorem ajP(b:Bool)(t x c:Nat)(y:Operand)(ax:ba (.bW b none t x y c::r) Q):ec P (.bW b none t x y c::r) Q ax F G H=dB (cN P t (ec P r Q .mk F (a1 G c (aq F y)) H) .mk (aq F y)) .mk (j7 (F c)=true):=by
 simp[ec,dv,mU,dB,cN,gv,and_assoc]
@[simp] theorem ajQ(b:Bool)(j:Nat)(w:Bool)(t x c:Nat)(y:Operand)(ax:ba (.bW b (some (j,w)) t x y c::r) Q):ec P (.bW b (some (j,w)) t x y c::r) Q ax F G H=oD (ec P (.bW b none t x y c::r) Q .mk F G H) (ec P r Q .mk F G H) .mk (hr (F j)) w:=rfl
@[simp] theorem ajN(b:Bool)(t x c off:Nat)(y:Operand)(ax:ba (.st b none t x y c off::r) Q):ec P (.st b none t x y c off::r) Q ax F G H=dB (zc (fun cs=>dB (ec P r Q .mk F (a1 G c (.agg (l9 cs.toList off (aq F y).cells.toList).toArray)) H) .mk (bp P t=some (aq F y).cells.size/\off+(aq F y).cells.size<=cs.size/\((aq F y).cells.toList.all (·.oneCell'))=true)) .mk (G c)) .mk (j7 (F c)=true):=rfl
@[simp] theorem ajO(b:Bool)(j:Nat)(w:Bool)(t x c off:Nat)(y:Operand)(ax:ba (.st b (some (j,w)) t x y c off::r) Q):ec P (.st b (some (j,w)) t x y c off::r) Q ax F G H=oD (ec P (.st b none t x y c off::r) Q .mk F G H) (ec P r Q .mk F G H) .mk (hr (F j)) w:=rfl
end
def mix(m:Nat)(F ay:Fr):Fr:=fun r=>if(m>>>r) % 2=1 then ay r else F r
@[simp] theorem ik(m:Nat)(F ay:Fr)(r:Nat):mix m F ay r=if(m>>>r) % 2=1 then ay r else F r:=rfl
theorem rk{m:Nat}{F ay:Fr}(h:∀r,gV m r=false->ay r=F r):ay=mix m F ay:=by
 funext r
 simp only[mix]
 split
 ·rfl
 ·rename_i al;exact h r (by simpa[gV]using al)
section
variable {P:Program} {F G:Fr} {H:ab} {Q:dH->Fr->Fr->ab->Prop}
@[simp] theorem adw(ax:ba (eY.skip) Q):ca P .skip Q ax F G H=Q .normal F G H:=rfl
@[simp] theorem ajV(ax:ba (eY.ret) Q):ca P .ret Q ax F G H=Q .ret F G H:=rfl
@[simp] theorem adt(id:Nat)(ax:ba (eY.exit id) Q):ca P (.exit id) Q ax F G H=Q (.exit id) F G H:=rfl
@[simp] theorem l8(x y:eY)(ax:ba (eY.seq x y) Q):ca P (.seq x y) Q ax F G H=ca P x (mJ (fun ay bD H1=>ca P y Q .mk ay bD H1) Q) .mk F G H:=rfl
@[simp] theorem ads(c:Operand)(x y:eY)(ax:ba (eY.cond c x y) Q):ca P (.cond c x y) Q ax F G H=zb (fun b=>bt (ca P x Q .mk F G H) (ca P y Q .mk F G H) .mk b) .mk (aq F c):=rfl
@[simp] theorem adr(id:Nat)(x:eY)(ax:ba (eY.block id x) Q):ca P (.block id x) Q ax F G H=ca P x (qC id Q) .mk F G H:=rfl
@[simp] theorem adu(m k:Nat)(x:eY)(ax:ba (eY.loop m k x) Q):ca P (.loop m k x) Q ax F G H=dm P m k x Q .mk F G H:=rfl
@[simp] theorem adv(l:List g2)(ax:ba (eY.ops l) Q):ca P (.ops l) Q ax F G H=ec P l (fun ay bD H1=>Q .normal ay bD H1) .mk F G H:=rfl
@[simp] theorem ajU(l:List g2)(ax:ba (eY.opsL l) Q):ca P (.opsL l) Q ax F G H=ec P l (fun ay bD H1=>Q .normal ay bD H1) .mk F G H:=rfl
@[simp] theorem ajS{K:List Value->Prop}(ax:ba ([]:List jR) K):rZ [] K ax F G=K []:=rfl
@[simp] theorem ajT{K:List Value->Prop}(i:Nat)(rs:List jR)(ax:ba (.tmp i::rs) K):rZ (.tmp i::rs) K ax F G=rZ rs (fun aE=>K (F i::aE)) .mk F G:=rfl
@[simp] theorem ajR{K:List Value->Prop}(a ty:Nat)(rs:List jR)(ax:ba (.cell a ty::rs) K):rZ (.cell a ty::rs) K ax F G=dB (rZ rs (fun aE=>K (G a::aE)) .mk F G) .mk (j7 (F a)=true):=rfl
@[simp] theorem ajg{rs:List jR}{af:Value->ab->Prop}:yt rs af .normal F G H=rZ rs (fun aE=>af (bd aE) H) .mk F G:=rfl
@[simp] theorem ajh{rs:List jR}{af:Value->ab->Prop}:yt rs af .ret F G H=rZ rs (fun aE=>af (bd aE) H) .mk F G:=rfl
@[simp] theorem Ot{K:Fr->Fr->ab->Prop}:mJ K Q .normal F G H=K F G H:=rfl
@[simp] theorem ai6{K:Fr->Fr->ab->Prop}:mJ K Q .ret F G H=Q .ret F G H:=rfl
@[simp] theorem aan{K:Fr->Fr->ab->Prop}(id:Nat):mJ K Q (.exit id) F G H=Q (.exit id) F G H:=rfl
@[simp] theorem af9(id:Nat):qC id Q .normal F G H=Q .normal F G H:=rfl
@[simp] theorem aga(id:Nat):qC id Q .ret F G H=Q .ret F G H:=rfl
@[simp] theorem af8(id hS:Nat):qC id Q (.exit hS) F G H=if hS=id then Q .normal F G H else Q (.exit hS) F G H:=rfl
theorem dm.mk{m k:Nat}{x:eY}{ax:ba x Q}(aO:ki m k x=true)(ai:Nat->Fr->Fr->ab->Prop)(n:Nat)(aI:ai n F G H)
  (round:∀n ay bD H1,ai n (mix m F ay) (mix k G bD) H1->∀K:Fr->Fr->ab->Prop,(∀dW bR c5 aR,dW<n->ai dW bR c5 aR->K bR c5 aR)->ca P x (mJ K Q) .mk (mix m F ay) (mix k G bD) H1):dm P m k x Q ax F G H:=by
 have main:∀n ay bD H1,(∀r,gV m r=false->ay r=F r)->(∀r,gV k r=false->bD r=G r)->ai n ay bD H1->v3 (eZ P x) Q ay bD H1:=by
  intro n
  induction n using Nat.strongRecOn with
  | _ n a0=>
   intro ay bD H1 a4 gH ed
   have al:eZ P x ay bD H1 (mJ (fun bR c5 aR=>∃dW,dW<n/\ai dW bR c5 aR) Q):=by
    have:=round n ay bD H1 (by rw[<-rk a4,<-rk gH];exact ed) (fun bR c5 aR=>∃dW,dW<n/\ai dW bR c5 aR) fun dW bR c5 aR o aa=>⟨dW,o,aa⟩
    rw[<-rk a4,<-rk gH]at this
    exact this
   refine .round (fun bR c5 aR=>(∃dW,dW<n/\ai dW bR c5 aR)/\(∀r,gV m r=false->bR r=ay r)/\∀r,gV k r=false->c5 r=bD r) (eZ.gA (x:=x) aO (fun e bR c5 aR f2 iy aa=>?_) al) ?_
   ·cases e with
    | normal=>exact⟨aa,f2,iy⟩
    | exit id=>exact aa
    | ret=>exact aa
   ·rintro bR c5 aR ⟨⟨dW,o,aa⟩,f2,iy⟩
    exact a0 dW o bR c5 aR (fun r al=>by rw[f2 r al,a4 r al]) (fun r al=>by rw[iy r al,gH r al]) aa
 exact main n F G H (fun _ _=>rfl) (fun _ _=>rfl) aI
def P2(af:Fr->Fr->ab->Prop):dH->Fr->Fr->ab->Prop
 | .normal,F,G,H=>af F G H
 | _,_,_,_=>False
@[simp] theorem afn(af:Fr->Fr->ab->Prop):P2 af .normal F G H=af F G H:=rfl
theorem vL(m k:Nat)(x:eY)(ax:ba (eY.box m k x) Q):ca P (.box m k x) Q ax F G H=ca P x Q .mk F G H:=rfl
theorem ca.join{m k:Nat}{x:eY}{K:Fr->Fr->ab->Prop}{ax:ba (eY.box m k x) (mJ K Q)}(aO:ki m k x=true)(af:Fr->Fr->ab->Prop)(o:∀eg:dH->Fr->Fr->ab->Prop,(∀ay bD H1,af ay bD H1->eg .normal ay bD H1)->(∀e ay bD H1,e≠ .normal->Q e ay bD H1->eg e ay bD H1)->ca P x eg .mk F G H)
  (aa:∀ay bD H1,af (mix m F ay) (mix k G bD) H1->K (mix m F ay) (mix k G bD) H1):ca P (.box m k x) (mJ K Q) ax F G H:=by
 refine eZ.gA (x:=x) aO (fun e ay bD H1 f1 cq h=>?_) (o (mJ af Q) (fun _ _ _ h=>h) (fun e ay bD H1 he h=>by
  cases e with
  | normal=>exact absurd rfl he
  | exit id=>exact h
  | ret=>exact h))
 cases e with
 | normal=>
  have:=aa ay bD H1 (by rw[<-rk f1,<-rk cq];exact h)
  rw[<-rk f1,<-rk cq]at this
  exact this
 | exit id=>exact h
 | ret=>exact h
theorem aP.ae8{f:FuncId}{fn:Func}{z:cL}{C:Cells}{args:List Value}{af:Value->ab->Prop}(az:P.funcs[f]?=some fn)(aG:(fn.name== "runtime.NumGoroutine")=false)(ae:comp P fn=some z.back)(aN:(kA P C z.code&&ts C z.results)=true)
  (ar:args.length<=fn.ntmps)(wK:(C.all fun p=>decide (args.length<=p.1))=true)(h:ca P z.code (yt z.results af) .mk (jx args) (fun _=>undef) H):aP P f args H af:=aP.ae7 az aG ae aN ar wK h
end
theorem QD{C:Cells}{args:List Value}{n:Nat}(ar:args.length<=n)(h:(C.all fun p=>decide (n<=p.1))=true):(C.all fun p=>decide (args.length<=p.1))=true:=by
 rw[List.all_eq_true]at h⊢
 intro p a2
 have:=of_decide_eq_true (h p a2)
 exact decide_eq_true (Nat.le_trans ar this)
theorem Ext.dead(H:ab):Ext H (H++[.dead]):=⟨[.dead],rfl,fun x J e cs=>by simp at J;subst J;simp⟩
def Kept(H aH:ab)(s:Value)(e:Nat):Prop:=∀b X,H[b]?=some X->(inBlock s b->X.elem?≠some e)->aH[b]?=some X
theorem eo.kept{H aH:ab}{e cX U n:Nat}{s v:Value}{cs:List Value}(h:eo H cX U v n cs)(ak:Kept H aH s e)(cQ:cX≠e):eo aH cX U v n cs:=by
 obtain⟨a,cap,an,o,aa,aB⟩:=h
 refine⟨a,cap,an,o,aa,fun ae=>?_⟩
 obtain⟨b,i,X,all,aY,a3,bN,ck,eU⟩:=aB ae
 exact⟨b,i,X,all,aY,ak b X a3 (fun _ h=>cQ (by rw[ck]at h;exact Option.some.inj h)),bN,ck,eU⟩
def ev(aC:Bool)(U:Nat)(cs:List Value)(i:Nat):Value:=if aC=true then .agg ((cs.drop (i*U)).take U).toArray else cs[i]?.getD undef
class b3 {α:Type} (af:ab->Value->α->Prop):Prop where
 ext:∀{H H1:ab} {v:Value} {x:α},af H v x->Ext H H1->af H1 v x
def Row{α:Type}(e U:Nat)(aC:Bool)(af:ab->Value->α->Prop)(H:ab)(v:Value)(xs:List α):Prop:=∃cs,eo H e U v xs.length cs/\∀i x,xs[i]?=some x->af H (ev aC U cs i) x
def bH{α:Type}(k e U:Nat)(aC:Bool)(af:ab->Value->α->Prop)(H:ab)(v:Value)(xs:List α):Prop:=∃cs,h7 H k e U v xs.length cs/\∀i x,xs[i]?=some x->af H (ev aC U cs i) x
section
variable {α:Type} {e U k:Nat} {aC:Bool} {af:ab->Value->α->Prop} {H H1:ab} {v:Value} {xs:List α}
instance[b3 af]:b3 (Row e U aC af):=⟨fun⟨cs,o,aa⟩ J=>⟨cs,o.ext J,fun i x ad=>b3.ext (aa i x ad) J⟩⟩
instance[b3 af]:b3 (bH k e U aC af):=⟨fun⟨cs,o,aa⟩ J=>⟨cs,o.ext J,fun i x ad=>b3.ext (aa i x ad) J⟩⟩
theorem bH.row(h:bH k e U aC af H v xs):Row e U aC af H v xs:=let⟨cs,o,aa⟩:=h;⟨cs,o.fG,aa⟩
theorem Row.len(h:Row e U aC af H v xs):∃a c,v= .slice a xs.length c:=let⟨cs,o,aa⟩:=h;o.len
theorem bH.len(h:bH k e U aC af H v xs):∃a c,v= .slice a xs.length c:=h.row.len
theorem Row.nil(e U:Nat)(aC:Bool)(af:ab->Value->α->Prop)(H:ab):Row e U aC af H (.slice none 0 0) []:=⟨[],eo.nil H e U,fun i x h=>by simp at h⟩
theorem bH.nil(k e U:Nat)(aC:Bool)(af:ab->Value->α->Prop)(H:ab):bH k e U aC af H (.slice none 0 0) []:=⟨[],h7.nil H k e U,fun i x h=>by simp at h⟩
theorem bH.void(k e U i:Nat)(aC:Bool)(af:ab->Value->α->Prop)(H:ab):bH k e U aC af H (.slice (some ⟨0,i,none⟩) 0 0) []:=⟨[],h7.void H k e U i,fun i x h=>by simp at h⟩
theorem Row.kept{s:Value}{cX:Nat}(h:Row e U aC af H v xs)(ak:Kept H H1 s cX)(cQ:e≠cX)(bo:∀u x,af H u x->af H1 u x):Row e U aC af H1 v xs:=let⟨cs,o,aa⟩:=h;⟨cs,o.kept ak cQ,fun i x ad=>bo _ _ (aa i x ad)⟩
theorem Row.at(h:Row e U aC af H v xs){i:Nat}{x:α}(ad:xs[i]?=some x):∃b R cap X all,v= .slice (some ⟨b,R,none⟩) xs.length cap/\H[b]?=some X/\X.cells?=some all/\R+i*U+U<=all.length/\
  af H (if aC=true then .agg ((all.drop (R+i*U)).take U).toArray else((all.drop (R+i*U)).take U)[0]?.getD undef) x\/(aC=false/\U≠1):=by
 by_cases ao:aC=false/\U≠1
 ·exact⟨0,0,0,.dead,[],.inr ao⟩
 obtain⟨cs,o,aa⟩:=h
 have ar:i<xs.length:=(cH.1 ad).1
 obtain⟨a,cap,an,aB,bs,bJ⟩:=o
 obtain⟨b,R,X,all,rfl,a3,bN,ck,eU,g9⟩:=bJ (by omega)
 have hle:(i+1)*U<=xs.length*U:=Nat.mul_le_mul_right _ ar
 rw[Nat.succ_mul]at hle
 refine⟨b,R,cap,X,all,.inl ⟨an,a3,bN,by omega,?_⟩⟩
 have J:=aa i x ad
 unfold ev at J
 have ae:(cs.drop (i*U)).take U=(all.drop (R+i*U)).take U:=by
  rw[g9,List.drop_take,List.drop_drop,List.take_take,Nat.min_eq_left (by omega)]
 cases aC with
 | true=>simp only[if_true]at J⊢;rw[<-ae];exact J
 | false=>
  have fu:U=1:=by
   by_cases h:U=1
   ·exact h
   ·exact absurd ⟨rfl,h⟩ ao
  subst fu
  simp only[Bool.false_eq_true,if_false]at J⊢
  rw[<-ae]
  simpa[List.getElem?_take,List.getElem?_drop]using J
end
section
variable {P:Program} {r:List bF} {F:Fr} {H:ab} {Q:Fr->ab->Prop} {α:Type}
theorem cY{d t d2 e U n:Nat}{aC:Bool}{x i:Operand}{af:ab->Value->α->Prop}{xs:List α}{a:α}{ax:ba (bn d t x i::aF d2 e (T d)::r) Q}(bo:Row e U aC af H (aq F x) xs)(ad:aq F i= .int .i64 (n:Int))(aO:xs[n]?=some a)
  (bO:e_ P t=some e)(ao:bp P e=some U)(et:dq P e=some aC)(o:aC=true\/U=1)(K:∀p u,af H u a->a_ P r Q .mk (a1 (a1 F d p) d2 u) H):a_ P (bn d t x i::aF d2 e (T d)::r) Q ax F H:=by
 have ar:n<xs.length:=(cH.1 aO).1
 obtain⟨b,R,cap,X,all,⟨an,aT,ae,bz,hu⟩ | ⟨aY,a3⟩⟩:=bo.at aO
 ·rw[hF,an,ad,rX,pw,bO,gb,ao,gb,rV]
  refine dB.mk ⟨by omega,by omega⟩ ?_
  rw[BV]
  simp only[nQ,jv,qx,aT,Option.bind_some,ae,gb,et,Int.toNat_natCast]
  cases aC with
  | true=>
   rw[PR,ao,gb]
   refine dB.mk bz ?_
   exact K _ _ hu
  | false=>
   rw[y0]
   have fu:U=1:=by rcases o with h | h;cases h;exact h
   subst fu
   have a5:R+n*1<all.length:=by omega
   rw[bB a5,gb]
   refine K _ _ ?_
   simp only[Bool.false_eq_true,if_false]at hu
   rw[List.getElem?_take_of_lt (by omega),List.getElem?_drop,Nat.add_zero,bB a5]at hu
   exact hu
 ·rcases o with h | h
  ·rw[h]at aY;cases aY
  ·exact absurd h a3
theorem OV{j:Nat}{w:Bool}{x:bF}{ax:ba (aL j w x::r) Q}(h:hr (F j)=some w)(K:a_ P (hX x::r) Q .mk F H):a_ P (aL j w x::r) Q ax F H:=by
 rw[abd]
 show nE _ _ _ _
 unfold nE
 rw[if_pos h]
 exact K
theorem tf{j d t d2 e U n:Nat}{w:Bool}{aC:Bool}{x i:Operand}{af:ab->Value->α->Prop}{xs:List α}{a:α}{ax:ba (bn d t x i::aL j w (aF d2 e (T d))::r) Q}(aU:hr (F j)=some w)(D4:j≠d)(bo:Row e U aC af H (aq F x) xs)(ad:aq F i= .int .i64 (n:Int))(aO:xs[n]?=some a)
  (bO:e_ P t=some e)(ao:bp P e=some U)(et:dq P e=some aC)(o:aC=true\/U=1)(K:∀p u,af H u a->a_ P r Q .mk (a1 (a1 F d p) d2 u) H):a_ P (bn d t x i::aL j w (aF d2 e (T d))::r) Q ax F H:=by
 have aI:a_ P (bn d t x i::aF d2 e (T d)::r) Q .mk F H:=cY bo ad aO bO ao et o K
 rw[hF]at aI⊢
 revert aI
 simp only[Cn,zd,qw,pv,ga,Cm,y_,dB,gv,e5]
 cases aq F x<;>try exact id
 cases aq F i<;>try exact id
 simp only
 cases e_ P t<;>try exact id
 simp only
 rename_i RP
 cases bp P RP<;>try exact id
 simp only
 split
 ·rintro⟨o,aa⟩
  exact⟨o,OV (by rw[iG _ _ D4];exact aU) aa⟩
 ·exact id
theorem cP{d t e U:Nat}{aC:Bool}{x:Operand}{af:ab->Value->α->Prop}{xs:List α}{ax:ba (bA d t x::r) Q}(bo:Row e U aC af H (aq F x) xs)(bO:e_ P t=some e)(K:a_ P r Q .mk (a1 F d (.int .i64 xs.length)) H):a_ P (bA d t x::r) Q ax F H:=by
 obtain⟨a,c,an⟩:=bo.len
 rw[iq,an,YG,bO]
 exact K
theorem r7{aC:Bool}{U i n:Nat}{cs aQ:List Value}(ar:cs.length=n*U)(ad:i<n)(o:aC=true\/U=1):ev aC U (cs++aQ) i=ev aC U cs i:=by
 unfold ev
 have hle:(i+1)*U<=n*U:=Nat.mul_le_mul_right _ ad
 rw[Nat.succ_mul]at hle
 cases aC with
 | true=>
  simp only[if_true]
  rw[List.drop_append_of_le_length (by omega),List.take_append_of_le_length (by simp;omega)]
 | false=>
  have fu:U=1:=by rcases o with h | h;cases h;exact h
  subst fu
  simp only[Bool.false_eq_true,if_false]
  rw[List.getElem?_append_left (by omega)]
theorem CT{P:Program}{e:Nat}{aC:Bool}{U n:Nat}{cs:List Value}{u:Value}(ar:cs.length=n*U)(hw:Whole P e u)(ao:bp P e=some U)(et:dq P e=some aC):ev aC U (cs++u.cells.toList) n=u:=by
 obtain⟨a7,hl,cM⟩:=hw
 have c7:u.cells.size=U:=by rw[ao]at a7;exact(Option.some.inj a7).symm
 unfold ev
 cases aC with
 | true=>
  simp only[if_true]
  have aO:e3 u=true:=by
   cases av:e3 u with
   | true=>rfl
   | false=>rw[av]at cM;simp at cM;rw[cM.1]at et;cases et
  rw[<-ar,List.drop_append_of_le_length (Nat.le_refl _),List.drop_length,List.nil_append,List.take_of_length_le (by simp;omega),Array.toArray_toList]
  exact(wa aO).symm
 | false=>
  simp only[Bool.false_eq_true,if_false]
  have aO:e3 u=false:=by
   cases av:e3 u with
   | false=>rfl
   | true=>rw[av]at cM;simp at cM;rw[cM]at et;cases et
  rw[aO]at cM
  simp at cM
  have o:U=1:=by rw[<-c7,cM.2];rfl
  subst o
  rw[List.getElem?_append_right (by omega),cM.2]
  have:n-cs.length=0:=by omega
  simp[this]
theorem qh{e0:Bool}{d1 d2 t bY cJ e U bI k:Nat}{aC:Bool}{s x:Operand}{z:Value}{af:ab->Value->α->Prop}{xs:List α}{a:α}{ax:ba ((⟨e0,none,some d1,.buildSlice t 1 #[(0,x)]⟩:bF)::ap d2 bY cJ s (T d1)::r) Q}(cy:bH k e U aC af H (aq F s) xs)(aO:af H (aq F x) a)
  (hw:Whole P e (aq F x))(fu:∀v,aq (a1 F d1 v) s=aq F s)(ht:∀aH dz u y,Kept H aH dz e->af H u y->af aH u y)
  (bO:P.underlying t=some (.slice e))(hu:P.underlying bY=some (.slice e))(J:fH P cJ=true)(ao:bp P e=some U)(et:dq P e=some aC)(ag:bytes? P e=some bI)(aN:dA P e=some z)(dU:flat z=true)(di:z.cells.size=U)(c7:0<U)(q9:U<=1000)
  (dY:0<bI)(bz:(xs.length+1)*bI<=140737488355328)(ak:k<=H.length)
  (K:∀p au aH,bH k e U aC af aH au (xs++[a])->(∀cx:ab,cx.length<=k->Ext cx H->Ext cx aH)->Kept H aH (aq F s) e->a_ P r Q .mk (a1 (a1 F d1 p) d2 au) aH):
  a_ P ((⟨e0,none,some d1,.buildSlice t 1 #[(0,x)]⟩:bF)::ap d2 bY cJ s (T d1)::r) Q ax F H:=by
 obtain⟨cs,iN,fR⟩:=cy
 have gz:=iN.1
 have lf:(aq F x).cells.size=U:=by have:=hw.1;rw[ao]at this;exact(Option.some.inj this).symm
 have o:aC=true\/U=1:=by
  cases aC with
  | true=>exact .inl rfl
  | false=>
   refine .inr ?_
   have cM:=hw.2.2
   cases av:e3 (aq F x)with
   | true=>rw[av]at cM;simp at cM;rw[cM]at et;cases et
   | false=>rw[av]at cM;simp at cM;rw[<-lf,cM.2];rfl
 refine aa9 iN fu bO hu J ao ag aN dU di c7 q9 dY bz (by simp[lf]) hw.2.1 ak fun p au aH aY a3 bN=>K p au aH ⟨_,by simpa using aY,fun i y aK=>?_⟩ a3 bN
 by_cases ad:i<xs.length
 ·rw[List.getElem?_append_left ad]at aK
  rw[r7 gz ad o]
  exact ht _ _ _ _ bN (fR i y aK)
 ·have fT:i=xs.length:=by
   have:=(cH.1 aK).1
   simp at this
   omega
  subst fT
  rw[List.getElem?_append_right (Nat.le_refl _),Nat.sub_self]at aK
  simp at aK
  subst aK
  rw[CT gz hw ao et]
  exact ht _ _ _ _ bN aO
theorem zF{aC:Bool}{U i n:Nat}{cs aQ:List Value}(ar:cs.length=n*U)(ad:n<=i)(o:aC=true\/U=1):ev aC U (cs++aQ) i=ev aC U aQ (i-n):=by
 unfold ev
 have hle:n*U<=i*U:=Nat.mul_le_mul_right _ ad
 cases aC with
 | true=>
  simp only[if_true]
  rw[List.drop_append,List.drop_eq_nil_of_le (by omega),List.nil_append,ar,Nat.sub_mul]
 | false=>
  have fu:U=1:=by rcases o with h | h;cases h;exact h
  subst fu
  simp only[Bool.false_eq_true,if_false]
  rw[List.getElem?_append_right (by omega)]
  congr 2
  omega
theorem Gd{d bY cJ e U bI k:Nat}{aC:Bool}{s x:Operand}{z:Value}{af:ab->Value->α->Prop}{xs bS:List α}{ax:ba (ap d bY cJ s x::r) Q}(cy:bH k e U aC af H (aq F s) xs)(k9:Row e U aC af H (aq F x) bS)(kI:∀u y,af H u y->Whole P e u)(ht:∀aH dz u y,Kept H aH dz e->af H u y->af aH u y)
  (hu:P.underlying bY=some (.slice e))(J:fH P cJ=true)(ao:bp P e=some U)(et:dq P e=some aC)(o:aC=true\/U=1)(ag:bytes? P e=some bI)(aN:dA P e=some z)(di:z.cells.size=U)(dY:0<bI)(bz:(xs.length+bS.length)*bI<=140737488355328)(ak:k<=H.length)
  (K:∀au aH,bH k e U aC af aH au (xs++bS)->(∀cx:ab,cx.length<=k->Ext cx H->Ext cx aH)->Kept H aH (aq F s) e->a_ P r Q .mk (a1 F d au) aH):a_ P (ap d bY cJ s x::r) Q ax F H:=by
 obtain⟨cs,iN,fR⟩:=cy
 obtain⟨aQ,z9,w6⟩:=k9
 have gz:=iN.1
 obtain⟨a,c,an,aY,a3,bN⟩:=z9
 have dc:Src H U (aq F x) bS.length bS.length aQ:=by
  have:=eo.src (H:=H) (e:=e) (U:=U) (v:=aq F x) (n:=bS.length) (cs:=aQ) ⟨a,c,an,aY,a3,bN⟩ (Nat.le_refl _)
  rwa[<-a3,List.take_length]at this
 have xB:(aQ.all (·.oneCell'))=true:=by
  rw[List.all_eq_true]
  intro u nc
  obtain⟨j,aW⟩:=List.getElem?_of_mem nc
  have gg:j<bS.length*U:=by have:=(cH.1 aW).1;omega
  have c7:0<U:=by rcases Nat.eq_zero_or_pos U with q | q;·subst q;simp at gg
                  exact q
  have cC:j/U<bS.length:=Nat.div_lt_of_lt_mul (by rw[Nat.mul_comm];exact gg)
  have hw:=kI _ _ (w6 _ _ (bB cC))
  have hh:u∈(ev aC U aQ (j/U)).cells.toList:=by
   unfold ev
   cases aC with
   | true=>
    simp only[if_true,Value.cells,List.toList_toArray]
    have m4:=Nat.div_add_mod j U
    have eO:=Nat.mod_lt j c7
    rw[Nat.mul_comm]at m4
    refine List.mem_of_getElem? (i:=j % U) ?_
    rw[List.getElem?_take_of_lt eO,List.getElem?_drop,m4]
    exact aW
   | false=>
    have fu:U=1:=by rcases o with h | h;cases h;exact h
    subst fu
    have m6:aQ[j/1]?=some u:=by rw[Nat.div_one];exact aW
    simp only[ev,Bool.false_eq_true,if_false]at hw⊢
    rw[m6]at hw⊢
    simp only[Option.getD_some]at hw⊢
    have cM:=hw.2.2
    cases av:e3 u with
    | false=>rw[av]at cM;simp at cM;rw[cM.2];simp
    | true=>
     rw[av]at cM
     simp at cM
     rw[cM]at et
     cases et
  exact List.all_eq_true.1 hw.2.1 u hh
 refine Gc iN dc hu J ao ag aN di dY bz xB a3 ak fun au aH da gB fC g8 iD=>K au aH ⟨_,by simpa using da,fun i y aK=>?_⟩ gB fC
 by_cases ad:i<xs.length
 ·rw[List.getElem?_append_left ad]at aK
  rw[r7 gz ad o]
  exact ht _ _ _ _ fC (fR i y aK)
 ·rw[List.getElem?_append_right (by omega)]at aK
  rw[zF gz (by omega) o]
  exact ht _ _ _ _ fC (w6 _ y aK)
theorem YX(z:Value)(U n i:Nat)(aN:z.cells.size=U)(ad:i<n)(c7:0<U):((made z (n*U)).drop (i*U)).take U=z.cells.toList:=by
 have hle:(i+1)*U<=n*U:=Nat.mul_le_mul_right _ ad
 rw[Nat.succ_mul]at hle
 apply List.ext_getElem?
 intro j
 by_cases aW:j<U
 ·rw[List.getElem?_take_of_lt aW,List.getElem?_drop]
  unfold made
  rw[List.getElem?_map,List.getElem?_range (by omega)]
  simp only[Option.map_some,aN]
  rw[Nat.mul_comm i U,Nat.mul_add_mod,Nat.mod_eq_of_lt aW]
  simp[aN,aW]
 ·rw[List.getElem?_eq_none (by simp;omega),List.getElem?_eq_none (by simp;omega)]
theorem rH{d t e U bI n:Nat}{aC:Bool}{x y:Operand}{e4 c9:IntKind}{z:Value}{af:ab->Value->α->Prop}{a:α}{ax:ba (ms d t x y::r) Q}(hu:P.underlying t=some (.slice e))(ao:bp P e=some U)(ag:bytes? P e=some bI)(aN:dA P e=some z)(dU:flat z=true)
  (et:dq P e=some aC)(hw:Whole P e z)(J:aq F x= .int e4 (n:Int))(aK:aq F y= .int c9 (n:Int))(c7:0<U)(dY:0<bI)(bz:bI*n<=281474976710656)(bo:∀aH,af aH z a)
  (K:∀v aH,bH H.length e U aC af aH v (List.replicate n a)->Ext H aH->(n=0/\v= .slice (some ⟨0,0,none⟩) 0 0/\aH=H\/0<n/\v= .slice (some ⟨H.length,0,none⟩) n n/\aH=H++[.own e false (made z (n*U))])->a_ P r Q .mk (a1 F d v) aH):a_ P (ms d t x y::r) Q ax F H:=by
 have di:z.cells.size=U:=by have:=hw.1;rw[ao]at this;exact(Option.some.inj this).symm
 by_cases aG:n=0
 ·subst aG
  exact BW hu ao ag J aK (K _ H (bH.void _ _ _ _ _ _ _) (Ext.refl H) (.inl ⟨rfl,rfl,rfl⟩))
 ·refine yN hu ao ag aN dU di J aK c7 dY (Nat.le_refl _) (by omega) bz (K _ _ ⟨made z (n*U),⟨by simp[vm],.inr ⟨H.length,0,n,false,made z (n*U),by simp,by omega,by simp,Nat.le_refl _,by simp,by simp[vm],?_⟩⟩,fun i x ad=>?_⟩ ((Ext.refl H).snoc _ _ _) (.inr ⟨by omega,rfl,rfl⟩))
  ·rw[List.drop_zero,List.take_of_length_le (by simp[vm])]
  ·rw[List.getElem?_replicate]at ad
   split at ad
   ·rename_i a5
    obtain rfl:=Option.some.inj ad
    have hm:=YX z U n i di a5 c7
    have:ev aC U (made z (n*U)) i=z:=by
     have cM:=hw.2.2
     unfold ev
     cases aC with
     | true=>
      have aO:e3 z=true:=by
       cases av:e3 z with
       | true=>rfl
       | false=>rw[av]at cM;simp at cM;rw[cM.1]at et;cases et
      simp only[if_true]
      rw[hm,Array.toArray_toList]
      exact(wa aO).symm
     | false=>
      have aO:e3 z=false:=by
       cases av:e3 z with
       | false=>rfl
       | true=>rw[av]at cM;simp at cM;rw[cM]at et;cases et
      rw[aO]at cM
      simp at cM
      have o:U=1:=by rw[<-di,cM.2];rfl
      subst o
      simp only[Bool.false_eq_true,if_false]
      have aa:(made z (n*1))[i]?=(((made z (n*1)).drop (i*1)).take 1)[0]?:=by
       rw[List.getElem?_take_of_lt (by omega),List.getElem?_drop];simp
      rw[aa,hm,cM.2]
      rfl
    rw[this]
    exact bo _
   ·cases ad
theorem RS{P:Program}{e:Nat}{aC:Bool}{U n i j:Nat}{cs:List Value}{u:Value}(ar:cs.length=n*U)(aW:j<n)(ad:i<n)(hw:Whole P e u)(ao:bp P e=some U)(et:dq P e=some aC)(o:aC=true\/U=1):ev aC U (dg cs (j*U) u.cells.toList) i=if i=j then u else ev aC U cs i:=by
 obtain⟨a7,hl,cM⟩:=hw
 have c7:u.cells.size=U:=by rw[ao]at a7;exact(Option.some.inj a7).symm
 have Ap:(j+1)*U<=n*U:=Nat.mul_le_mul_right _ aW
 have UI:(i+1)*U<=n*U:=Nat.mul_le_mul_right _ ad
 rw[Nat.succ_mul]at Ap UI
 have bz:j*U+u.cells.toList.length<=cs.length:=by simp;omega
 have la:=fun m=>rD (j:=m) bz
 unfold ev
 cases aC with
 | true=>
  have aO:e3 u=true:=by
   cases av:e3 u with
   | true=>rfl
   | false=>rw[av]at cM;simp at cM;rw[cM.1]at et;cases et
  simp only[if_true]
  have aA:((dg cs (j*U) u.cells.toList).drop (i*U)).take U=if i=j then u.cells.toList else(cs.drop (i*U)).take U:=by
   apply List.ext_getElem?
   intro m
   by_cases hm:m<U
   ·rw[List.getElem?_take_of_lt hm,List.getElem?_drop,la]
    by_cases pR:i=j
    ·subst pR
     rw[if_pos rfl,if_pos ⟨by omega,by simp;omega⟩]
     congr 1
     omega
    ·rw[if_neg pR,List.getElem?_take_of_lt hm,List.getElem?_drop]
     rw[if_neg]
     simp only[Array.length_toList,c7,not_and,Nat.not_lt]
     intro aI
     rcases Nat.lt_or_ge i j with q | q
     ·have:(i+1)*U<=j*U:=Nat.mul_le_mul_right _ q
      rw[Nat.succ_mul]at this
      omega
     ·have:(j+1)*U<=i*U:=Nat.mul_le_mul_right _ (by omega)
      rw[Nat.succ_mul]at this
      omega
   ·rw[List.getElem?_eq_none (by simp;omega)]
    split
    ·rw[List.getElem?_eq_none (by simp;omega)]
    ·rw[List.getElem?_eq_none (by simp;omega)]
  rw[aA]
  split
  ·rw[Array.toArray_toList];exact(wa aO).symm
  ·rfl
 | false=>
  have fu:U=1:=by rcases o with h | h;cases h;exact h
  subst fu
  have aO:e3 u=false:=by
   cases av:e3 u with
   | false=>rfl
   | true=>rw[av]at cM;simp at cM;rw[cM]at et;cases et
  rw[aO]at cM
  simp at cM
  simp only[Bool.false_eq_true,if_false]
  rw[la]
  by_cases pR:i=j
  ·subst pR
   rw[if_pos rfl,if_pos ⟨by omega,by simp;omega⟩,cM.2]
   simp
  ·rw[if_neg pR,if_neg]
   simp only[Array.length_toList,c7,not_and,Nat.not_lt]
   omega
theorem kR{d t e U n k:Nat}{aC:Bool}{x i y:Operand}{af:ab->Value->α->Prop}{xs:List α}{a:α}{ax:ba (bn d t x i::st e (T d) y::r) Q}(cy:bH k e U aC af H (aq F x) xs)(ad:aq F i= .int .i64 (n:Int))(aG:n<xs.length)(aO:af H (aq F y) a)
  (hw:Whole P e (aq F y))(aK:∀v,aq (a1 F d v) y=aq F y)(ht:∀aH dz u y,Kept H aH dz e->af H u y->af aH u y)(bO:e_ P t=some e)(ao:bp P e=some U)(et:dq P e=some aC)(c7:0<U)
  (K:∀p aH,bH k e U aC af aH (aq F x) (xs.set n a)->(∀cx:ab,cx.length<=k->Ext cx H->Ext cx aH)->Kept H aH (aq F x) e->aH.length=H.length->(∀c,c<k->aH[c]?=H[c]?)->a_ P r Q .mk (a1 F d p) aH):a_ P (bn d t x i::st e (T d) y::r) Q ax F H:=by
 obtain⟨cs,⟨ar,iN⟩,fR⟩:=cy
 have lf:(aq F y).cells.size=U:=by have:=hw.1;rw[ao]at this;exact(Option.some.inj this).symm
 have o:aC=true\/U=1:=by
  cases aC with
  | true=>exact .inl rfl
  | false=>
   refine .inr ?_
   have cM:=hw.2.2
   cases av:e3 (aq F y)with
   | true=>rw[av]at cM;simp at cM;rw[cM]at et;cases et
   | false=>rw[av]at cM;simp at cM;rw[<-lf,cM.2];rfl
 rcases iN with⟨aI,-⟩ | ⟨b,R,cap,l,all,an,aY,a3,bN,ck,eU,g9⟩
 ·omega
 have hle:(n+1)*U<=xs.length*U:=Nat.mul_le_mul_right _ aG
 have D7:xs.length*U<=cap*U:=Nat.mul_le_mul_right _ a3
 rw[Nat.succ_mul]at hle
 have gP:=(cH.1 ck).1
 rw[hF,an,ad,rX,pw,bO,gb,ao,gb,rV]
 refine dB.mk ⟨by omega,by omega⟩ ?_
 rw[O0]
 simp only[nQ,jv,qx,ck,GV,Int.toNat_natCast,aK]
 have bz:R+n*U+(aq F y).cells.toList.length<=all.length:=by simp[lf];omega
 refine dB.mk ⟨by rw[ao,lf],by simpa using bz,hw.2.1⟩ ?_
 rw[aK,GA bz]
 have gn:((dg all (R+n*U) (aq F y).cells.toList).drop R).take (xs.length*U)=dg cs (n*U) (aq F y).cells.toList:=by
  have n6:n*U+(aq F y).cells.toList.length<=cs.length:=by simp[lf,ar];omega
  apply List.ext_getElem?
  intro j
  by_cases aW:j<xs.length*U
  ·rw[List.getElem?_take_of_lt aW,List.getElem?_drop,rD bz,rD n6,g9,List.getElem?_take_of_lt aW,List.getElem?_drop]
   by_cases ae:n*U<=j/\j<n*U+(aq F y).cells.toList.length
   ·rw[if_pos ae,if_pos ⟨by omega,by omega⟩]
    congr 1
    omega
   ·rw[if_neg ae,if_neg (by omega)]
  ·rw[List.getElem?_eq_none (by simp;omega),List.getElem?_eq_none (by rw[nx n6,ar];omega)]
 have uZ:Kept H (H.set b (.own e l (dg all (R+n*U) (aq F y).cells.toList))) (aq F x) e:=fun ct X aT c8=>by
  have:b≠ct:=fun cX=>by
   subst cX
   rw[ck]at aT
   exact c8 ⟨R,xs.length,cap,an⟩ (by rw[<-Option.some.inj aT];rfl)
  rw[List.getElem?_set_ne this];exact aT
 refine K _ _ ⟨dg cs (n*U) (aq F y).cells.toList,⟨by rw[nx (by simp[lf,ar];omega)];simpa using ar,.inr ⟨b,R,cap,l,_,by simpa using an,aY,by simpa using a3,bN,List.getElem?_set_self gP,by rw[nx bz];exact eU,by simpa using gn.symm⟩⟩,fun i x J=>?_⟩
  (fun cx aI J=>J.set (by omega) (by simp)) uZ (by simp) (fun c ae=>List.getElem?_set_ne (by omega))
 have cC:i<xs.length:=by have:=(cH.1 J).1;simpa using this
 rw[RS ar aG cC hw ao et o]
 by_cases fT:i=n
 ·subst fT
  rw[List.getElem?_set_self aG]at J
  obtain rfl:=Option.some.inj J
  rw[if_pos rfl]
  exact ht _ _ _ _ uZ aO
 ·rw[List.getElem?_set_ne (Ne.symm fT)]at J
  rw[if_neg fT]
  exact ht _ _ _ _ uZ (fR i x J)
theorem qi{e0:Bool}{d t e U l h:Nat}{aC:Bool}{x:Operand}{bb ad:Option Operand}{af:ab->Value->α->Prop}{xs:List α}{ax:ba ((⟨e0,none,some d,.slice t x bb ad none⟩:bF)::r) Q}(bo:Row e U aC af H (aq F x) xs)(hu:P.underlying t=some (.slice e))(ao:bp P e=some U)(o:aC=true\/U=1)
  (ar:dM (aq F) bb=some l)(c4:e2 (aq F) xs.length ad=some h)(xu:l<=h)(xm:h<=xs.length)(K:∀au,Row e U aC af H au ((xs.drop l).take (h-l))->a_ P r Q .mk (a1 F d au) H):a_ P ((⟨e0,none,some d,.slice t x bb ad none⟩:bF)::r) Q ax F H:=by
 obtain⟨cs,bM,bZ⟩:=bo
 refine OZ bM hu ao ar c4 xu xm fun au um=>K au ⟨_,by simpa[show min (h-l) (xs.length-l)=h-l by omega]using um,fun i y aK=>?_⟩
 have cC:i<h-l:=by
  have:=(cH.1 aK).1
  simp at this
  omega
 rw[List.getElem?_take_of_lt cC,List.getElem?_drop]at aK
 have:=bZ _ _ aK
 have bm:ev aC U ((cs.drop (l*U)).take ((h-l)*U)) i=ev aC U cs (l+i):=by
  have hle:(i+1)*U<=(h-l)*U:=Nat.mul_le_mul_right _ cC
  rw[Nat.succ_mul]at hle
  unfold ev
  cases aC with
  | true=>
   simp only[if_true]
   rw[List.drop_take,List.drop_drop,List.take_take,Nat.min_eq_left (by omega),<-Nat.add_mul]
  | false=>
   have fu:U=1:=by rcases o with h | h;cases h;exact h
   subst fu
   simp only[Bool.false_eq_true,if_false,Nat.mul_one]
   rw[List.getElem?_take_of_lt cC,List.getElem?_drop]
 rw[bm]
 exact this
end
section
variable {P:Program} {r:List bF} {F:Fr} {H:ab} {Q:Fr->ab->Prop}
theorem OY{e0:Bool}{d t e U b i len cap l h:Nat}{X:bK}{x:Operand}{bb ad:Option Operand}{ax:ba ((⟨e0,none,some d,.slice t x bb ad none⟩:bF)::r) Q}(an:aq F x= .slice (some ⟨b,i,none⟩) len cap)(aT:H[b]?=some X)(he:X.elem?=some e)(hu:P.underlying t=some (.slice e))(ao:bp P e=some U)
  (ar:dM (aq F) bb=some l)(c4:e2 (aq F) len ad=some h)(o:l<=h)(aa:h<=cap)(my:l<cap)(K:a_ P r Q .mk (a1 F d (.slice (some ⟨b,i+l*U,none⟩) (h-l) (cap-l))) H):a_ P ((⟨e0,none,some d,.slice t x bb ad none⟩:bF)::r) Q ax F H:=by
 have xL:b5 P (aq F) H (.slice t x bb ad none)=none:=by simp only[b5,an]
 have a4:∀R:Oper,R.op= .slice t x bb ad none->bV P R=false:=fun R aM=>by simp[bV,aM]
 exact jM (v:= .slice (some ⟨b,i+l*U,none⟩) (h-l) (cap-l)) (H1:=H) rfl rfl xL (fun R aM=> .slice aM hu ao an aT he ar c4 o aa my) a4 (.inr (Ext.refl H)) K
end
section
variable {α:Type} {e U k:Nat} {aC:Bool} {af:ab->Value->α->Prop} {H:ab} {v:Value} {xs:List α}
theorem bH.aap{b:Nat}{X:bK}(h:bH k e U aC af H v xs)(ag:b<k)(bo:∀u y,af H u y->af (H.set b X) u y):bH k e U aC af (H.set b X) v xs:=by
 obtain⟨cs,⟨o,aa⟩,aB⟩:=h
 refine⟨cs,⟨o,?_⟩,fun i y ad=>bo _ _ (aB i y ad)⟩
 rcases aa with aa | ⟨c,i,cap,l,all,aY,a3,bN,ck,eU,g9⟩
 ·exact .inl aa
 ·exact .inr ⟨c,i,cap,l,all,aY,a3,bN,ck,by rw[List.getElem?_set_ne (by omega)];exact eU,g9⟩
end
section
variable {P:Program} {F G:Fr} {H:ab} {Q:dH->Fr->Fr->ab->Prop}
theorem dm.range{m k id C ai N D t:Nat}{B:eY}{ax:ba (eY.seq (.ops [.xs [bi C .lss t (T ai) (T N)]]) (.seq (.cond (T C) .skip (.exit id)) (.seq B (.ops [.xs [bi D .add t (T ai) (cW.ai 1),I ai (T D)]])))) Q}
  (aO:ki m k (eY.seq (.ops [.xs [bi C .lss t (T ai) (T N)]]) (.seq (.cond (T C) .skip (.exit id)) (.seq B (.ops [.xs [bi D .add t (T ai) (cW.ai 1),I ai (T D)]]))))=true)(n:Nat)(aG:n<9223372036854775807)(bQ:F N= .int .i64 (n:Int))(SY:gV m N=false)(So:F ai= .int .i64 0)(ag9:C≠ai)(aha:D≠ai)
  (Inv:Nat->Fr->Fr->ab->Prop)(aI:Inv 0 F G H)
  (body:∀(i:Nat) (ay bD:Fr) (H1:ab),i<n->mix m F ay ai= .int .i64 (i:Int)->Inv i (mix m F ay) (mix k G bD) H1->∀K:Fr->Fr->ab->Prop,(∀bR c5 aR,bR ai= .int .i64 (i:Int)->Inv (i+1) (a1 (a1 bR D (.int .i64 ((i+1:Nat):Int))) ai (.int .i64 ((i+1:Nat):Int))) c5 aR->K bR c5 aR)->
   ca P B (mJ K Q) .mk (a1 (mix m F ay) C (.bool true)) (mix k G bD) H1)
  (fin:∀(ay bD:Fr) (H1:ab),mix m F ay ai= .int .i64 (n:Int)->Inv n (mix m F ay) (mix k G bD) H1->Q (.exit id) (a1 (mix m F ay) C (.bool false)) (mix k G bD) H1):
  dm P m k (eY.seq (.ops [.xs [bi C .lss t (T ai) (T N)]]) (.seq (.cond (T C) .skip (.exit id)) (.seq B (.ops [.xs [bi D .add t (T ai) (cW.ai 1),I ai (T D)]])))) Q ax F G H:=by
 refine dm.mk aO (fun dW ay bD H1=>∃i,dW=n-i/\i<=n/\ay ai= .int .i64 (i:Int)/\Inv i ay bD H1) n ⟨0,by omega,by omega,by simpa using So,aI⟩ ?_
 rintro dW ay bD H1 ⟨i,rfl,ad,ed,Kr⟩ K aX
 have sg:mix m F ay N= .int .i64 (n:Int):=by
  simp only[mix]
  rw[if_neg (by simpa[gV]using SY)]
  exact bQ
 generalize ud:mix m F ay=afe at*
 simp only[l8,adv,adq,OS,nQ,ed,sg,aac,gb,OW,adp,Ot,ads,jv,P3]
 refine bt.b6 (fun a5=>?_) (fun hy=>?_)
 ·have jH:i<n:=by omega
  have aA:decide ((i:Int)<(n:Int))=true:=decide_eq_true a5
  simp only[aA,adw,Ot]
  have:=body i ay bD H1 jH (by rw[ud];exact ed) (by rw[ud];exact Kr) (fun bR c5 aR=>a_ P [bi D .add t (T ai) (cW.ai 1),I ai (T D)] (fun ay H1=>K ay c5 H1) .mk bR aR) fun bR c5 aR jg SF=>?_
  ·rw[ud]at this
   refine eZ.mono (x:=B) (fun e bR c5 aR h=>?_) this
   cases e with
   | normal=>exact h
   | exit id=>exact h
   | ret=>exact h
  ·simp only[OS,nQ,JT,jg,aaa,gb,abg,jv,OW]
   have hw:IntKind.wrap .i64 ((i:Int)+1)=((i+1:Nat):Int):=by rw[b7 (by omega) (by omega)];simp
   rw[hw]
   exact aX (n-(i+1)) _ _ _ (by omega) ⟨i+1,rfl,by omega,jv _ _ _,SF⟩
 ·have aA:decide ((i:Int)<(n:Int))=false:=decide_eq_false hy
  have fT:i=n:=by omega
  subst fT
  simp only[aA,adt,aan]
  have:=fin ay bD H1 (by rw[ud];exact ed) (by rw[ud];exact Kr)
  rw[ud]at this
  exact this
end
end Go.cW
end
