/- Part of the proof of ShopMakes. -/
import Derived.Test.YtoiodfcefbapkaaShopMakesC
set_option linter.unusedVariables false
set_option linter.unusedSimpArgs false
section
namespace Go.b9
inductive g6 where
 | xs (l:List br)
 | bY (r e:Nat)
 | cZ (r e:Nat) (y:Operand)
 | bk (g:Option (Nat×Bool)) (d s x f r off:Nat)
 | b3 (g:Option (Nat×Bool)) (d t x r:Nat)
 | aO (g:Option (Nat×Bool)) (d t x r off:Nat)
 | cD (b:Bool) (g:Option (Nat×Bool)) (t x:Nat) (y:Operand) (r:Nat)
 | st (b:Bool) (g:Option (Nat×Bool)) (t x:Nat) (y:Operand) (r off:Nat)
inductive eG where
 | skip
 | ret
 | exit (id:Nat)
 | seq (x y:eG)
 | cond (c:Operand) (x y:eG)
 | block (id:Nat) (x:eG)
 | loop (m k:Nat) (x:eG)
 | box (m k:Nat) (x:eG)
 | ops (l:List g6)
 | opsL (l:List g6)
inductive jh where
 | tmp (i:Nat)
 | cell (a ty:Nat)
structure dn where
 code:eG
 results:List jh
def g6.back:g6->List br
 | .xs l=>l
 | .bY r e=>[⟨true,none,some r,.alloc e⟩]
 | .cZ r e y=>[⟨true,none,some r,.box e y⟩]
 | .bk g d s x f _ _=>[⟨true,g,some d,.fieldAddr s (.tmp x) f⟩]
 | .b3 g d t x _=>[⟨true,g,some d,.load t (.tmp x)⟩]
 | .aO g d t x _ _=>[⟨true,g,some d,.load t (.tmp x)⟩]
 | .cD b g t x y _=>[⟨b,g,none,.store t (.tmp x) y⟩]
 | .st b g t x y _ _=>[⟨b,g,none,.store t (.tmp x) y⟩]
def pP:List g6->List br
 | []=>[]
 | i::r=>i.back++pP r
def eG.back:eG->gp
 | .skip=> .skip
 | .ret=> .ret
 | .exit id=> .exit id
 | .seq x y=> .seq x.back y.back
 | .cond c x y=> .cond c x.back y.back
 | .block id x=> .block id x.back
 | .loop _ _ x=> .loop x.back
 | .box _ _ x=>x.back
 | .ops l=> .ops (pP l)
 | .opsL l=> .opsL (pP l)
def jh.back:jh->ResultVar
 | .tmp i=> .tmp i
 | .cell a ty=> .cell a ty
def dn.back(z:dn):fa:=⟨z.code.back,z.results.map jh.back⟩
def jx:Value->Bool
 | .pointer (some _)=>true
 | _=>false
@[simp] theorem aep(a:Addr):jx (.pointer (some a))=true:=rfl
def oy(v:Value)(n:Nat):Value:=match v with
 | .pointer (some ⟨b,i,none⟩)=> .pointer (some ⟨b,i+n,none⟩)
 | _=>undef
def eB:Value->Bool
 | .agg _=>true
 | _=>false
def Whole(P:Program)(e:TypeId)(v:Value):Prop:=bn P e=some v.cells.size/\(v.cells.toList.all (·.oneCell'))=true/\(if eB v=true then c_ P e=some true else c_ P e=some false/\v.cells= #[v])
def mi(g:Option (Nat×Bool))(F:Fr)(cu cT:Prop):Prop:=match g with
 | none=>cu
 | some (j,w)=>m2 (gR (F j)) w cu cT
def dg(P:Program):List g6->Fr->Fr->ab->(Fr->Fr->ab->Prop)->Prop
 | [],F,G,H,Q=>Q F G H
 | .xs l::r,F,G,H,Q=>bd P l F H fun az H1=>dg P r az G H1 Q
 | .bY c e::r,F,G,H,Q=>eI (dv P e) fun z=>ga (flat z=true/\Whole P e z) (dg P r (aX F c (.pointer (some ⟨H.length,0,none⟩))) (aX G c z) (H++[.dead]) Q)
 | .cZ c e y::r,F,G,H,Q=>ga (Whole P e (aq F y)) (dg P r (aX F c (.pointer (some ⟨H.length,0,none⟩))) (aX G c (aq F y)) (H++[.dead]) Q)
 | .bk g d s x f c off::r,F,G,H,Q=>mi g F (ga (jx (F c)=true) (dg P r (aX F d (oy (F c) off)) G H Q)) (dg P r (aX F d undef) G H Q)
 | .b3 g d t x c::r,F,G,H,Q=>mi g F (ga (jx (F c)=true) (dg P r (aX F d (G c)) G H Q)) (dg P r (aX F d undef) G H Q)
 | .aO g d t x c off::r,F,G,H,Q=>mi g F (ga (jx (F c)=true) (m8 (G c) fun cs=>eI (c_ P t) fun a=>hB a (eI (bn P t) fun n=>ga (off+n<=cs.size) (dg P r (aX F d (.agg ((cs.toList.drop off).take n).toArray)) G H Q)) (eI cs.toList[off]? fun v=>dg P r (aX F d v) G H Q)))
   (dg P r (aX F d undef) G H Q)
 | .cD _ g t x y c::r,F,G,H,Q=>mi g F (ga (jx (F c)=true/\Whole P t (aq F y)) (dg P r F (aX G c (aq F y)) H Q)) (dg P r F G H Q)
 | .st _ g t x y c off::r,F,G,H,Q=>mi g F (ga (jx (F c)=true) (m8 (G c) fun cs=>ga (bn P t=some (aq F y).cells.size/\off+(aq F y).cells.size<=cs.size/\((aq F y).cells.toList.all (·.oneCell'))=true) (dg P r F (aX G c (.agg (lr cs.toList off (aq F y).cells.toList).toArray)) H Q))) (dg P r F G H Q)
def l3(K:Fr->Fr->ab->Prop)(Q:dr->Fr->Fr->ab->Prop):dr->Fr->Fr->ab->Prop
 | .normal,F,G,H=>K F G H
 | e,F,G,H=>Q e F G H
def p2(id:Nat)(Q:dr->Fr->Fr->ab->Prop):dr->Fr->Fr->ab->Prop
 | .exit ht,F,G,H=>if ht=id then Q .normal F G H else Q (.exit ht) F G H
 | e,F,G,H=>Q e F G H
inductive vd (body:Fr->Fr->ab->(dr->Fr->Fr->ab->Prop)->Prop) (Q:dr->Fr->Fr->ab->Prop):Fr->Fr->ab->Prop
 | round {F G:Fr} {H:ab} (ak:Fr->Fr->ab->Prop) (h:body F G H (l3 ak Q)) (da:∀az bC H1,ak az bC H1->vd body Q az bC H1):vd body Q F G H
def eH(P:Program):eG->Fr->Fr->ab->(dr->Fr->Fr->ab->Prop)->Prop
 | .skip,F,G,H,Q=>Q .normal F G H
 | .ret,F,G,H,Q=>Q .ret F G H
 | .exit id,F,G,H,Q=>Q (.exit id) F G H
 | .seq x y,F,G,H,Q=>eH P x F G H (l3 (fun az bC H1=>eH P y az bC H1 Q) Q)
 | .cond c x y,F,G,H,Q=>ya (aq F c) fun b=>hB b (eH P x F G H Q) (eH P y F G H Q)
 | .block id x,F,G,H,Q=>eH P x F G H (p2 id Q)
 | .loop _ _ x,F,G,H,Q=>vd (eH P x) Q F G H
 | .box _ _ x,F,G,H,Q=>eH P x F G H Q
 | .ops l,F,G,H,Q=>dg P l F G H (fun az bC H1=>Q .normal az bC H1)
 | .opsL l,F,G,H,Q=>dg P l F G H (fun az bC H1=>Q .normal az bC H1)
def nV(F G:Fr):List jh->(List Value->Prop)->Prop
 | [],K=>K []
 | .tmp i::rs,K=>nV F G rs fun aA=>K (F i::aA)
 | .cell a ty::rs,K=>ga (jx (F a)=true) (nV F G rs fun aA=>K (G a::aA))
def xE(rs:List jh)(Q:Value->ab->Prop):dr->Fr->Fr->ab->Prop
 | .normal,F,G,H=>nV F G rs fun aA=>Q (bj aA) H
 | .ret,F,G,H=>nV F G rs fun aA=>Q (bj aA) H
 | .exit _,_,_,_=>False
abbrev Cells:=List (Nat×Nat)
abbrev h4:=List (Nat×Nat×Nat×Option (Nat×Bool))
def k_(C:Cells)(r:Nat):Bool:=(C.lookup r).isSome
def BL(C:Cells):Option Nat->Bool
 | some d=> !k_ C d
 | none=>true
def kill(d:Nat)(E:h4):h4:=E.filter fun p=>p.1 !=d&&p.2.1 !=d&&(match p.2.2.2 with | some (j,_)=>j !=d | none=>true)
def D8:Option Nat->h4->h4
 | some d,E=>kill d E
 | none,E=>E
def yE:Option (Nat×Bool)->Option (Nat×Bool)->Bool
 | some (j,w),some (dC,gn)=>j==dC&&w==gn
 | none,none=>true
 | _,_=>false
def reach(E:h4)(g:Option (Nat×Bool))(x r off:Nat):Bool:=(x==r&&off==0) || match E.lookup x with
 | some (di,Lu,j9)=>di==r&&Lu==off&&(yE j9 none || yE j9 g)
 | none=>false
def BU(P:Program)(E:h4)(g:Option (Nat×Bool))(s x f r off:Nat):Bool:=match gf P s f with
 | some U=>decide (U<=off)&&reach E g x r (off-U)
 | none=>false
def hg(P:Program)(C:Cells)(late:Bool):h4->List g6->Bool
 | _,[]=>true
 | E,.xs l::r=>(l.all fun U=>BL C U.d)&&hg P C late (l.foldl (fun E U=>D8 U.d E) E) r
 | E,.bY c e::r=>C.lookup c==some e&&hg P C late (kill c E) r
 | E,.cZ c e _::r=>C.lookup c==some e&&hg P C late (kill c E) r
 | E,.bk g d s x f c off::r=> !k_ C d&&k_ C c&&BU P E g s x f c off&&(match g with | some (j,_)=>j !=d | none=>true)&&hg P C late ((d,c,off,g)::kill d E) r
 | E,.b3 g d t x c::r=> !k_ C d&&C.lookup c==some t&&reach E g x c 0&&hg P C late (kill d E) r
 | E,.aO g d _ x c off::r=> !k_ C d&&k_ C c&&reach E g x c off&&hg P C late (kill d E) r
 | E,.cD b g t x _ c::r=>(b || late)&&C.lookup c==some t&&reach E g x c 0&&hg P C late E r
 | E,.st b g _ x _ c off::r=>(b || late)&&k_ C c&&reach E g x c off&&hg P C late E r
def uH:Op->Bool
 | .load .. | .store .. =>false
 | .call {callee:= .value _,.. }=>false
 | op=> !iH op
def lv:List Nat->List Nat->List g6->Bool
 | _,_,[]=>true
 | af,W,.xs l::r=>(l.all fun U=>uH U.op)&&lv af W r
 | af,W,.bk _ _ _ _ _ _ _::r=>lv af W r
 | af,W,.b3 _ _ _ _ c::r=> !W.contains c&&lv (c::af) W r
 | af,W,.aO _ _ _ _ c _::r=> !W.contains c&&lv (c::af) W r
 | af,W,.cD b _ _ _ _ c::r=>(b || (!W.contains c&& !af.contains c))&&lv af (if b then W else c::W) r
 | af,W,.st b _ _ _ _ c _::r=>(b || (!W.contains c&& !af.contains c))&&lv af (if b then W else c::W) r
 | _,_,_=>false
def gG(m r:Nat):Bool:=(m>>>r) % 2==1
def H0(m:Nat):Option Nat->Bool
 | some d=>gG m d
 | none=>true
def vr(m k:Nat):g6->Bool
 | .xs l=>l.all fun U=>H0 m U.d
 | .bY c _=>gG m c&&gG k c
 | .cZ c _ _=>gG m c&&gG k c
 | .bk _ d _ _ _ _ _=>gG m d
 | .b3 _ d _ _ _=>gG m d
 | .aO _ d _ _ _ _=>gG m d
 | .cD _ _ _ _ _ c=>gG k c
 | .st _ _ _ _ _ c _=>gG k c
def jH(m k:Nat):eG->Bool
 | .seq x y=>jH m k x&&jH m k y
 | .cond _ x y=>jH m k x&&jH m k y
 | .block _ x=>jH m k x
 | .loop _ _ x=>jH m k x
 | .box _ _ x=>jH m k x
 | .ops l=>l.all (vr m k)
 | .opsL l=>l.all (vr m k)
 | _=>true
def j4(P:Program)(C:Cells):eG->Bool
 | .seq x y=>j4 P C x&&j4 P C y
 | .cond _ x y=>j4 P C x&&j4 P C y
 | .block _ x=>j4 P C x
 | .loop m k x=>jH m k x&&j4 P C x
 | .box m k x=>jH m k x&&j4 P C x
 | .ops l=>hg P C false [] l
 | .opsL l=>hg P C true [] l&&lv [] [] l
 | _=>true
def sP(C:Cells)(rs:List jh):Bool:=rs.all fun r=>match r with
 | .tmp i=>true
 | .cell a ty=>C.lookup a==some ty
section
variable {P:Program}
theorem bd.append:∀{l c2:List br} {F:Fr} {H:ab} {Q:Fr->ab->Prop},bd P l F H (fun az H1=>bd P c2 az H1 Q)->bd P (l++c2) F H Q
 | [],c2,F,H,Q,h=>h
 | x::l,c2,F,H,Q,h=>by
  simp only[List.cons_append,bd]at h⊢
  split
  ·rename_i aU;rw[aU]at h;exact fV.mono (fun v H1=>bd.append) h
  ·rename_i j w aU
   rw[aU]at h
   simp only at h
   split
   ·rename_i ae;rw[if_pos ae]at h;exact fV.mono (fun v H1=>bd.append) h
   ·rename_i ae;rw[if_neg ae]at h;exact bd.append h
theorem Pz{F:Fr}{d:Option Nat}{v:Value}{r:Nat}(h:d≠some r):fC F d v r=F r:=by
 cases d with
 | none=>rfl
 | some e=>exact gY F v fun he=>h (by rw[he])
theorem bd.gk:∀{l:List br} {F:Fr} {H:ab} {Q:Fr->ab->Prop},bd P l F H Q->bd P l F H fun az H1=>Q az H1/\∀r,(∀U∈l,U.d≠some r)->az r=F r
 | [],F,H,Q,h=>⟨h,fun _ _=>rfl⟩
 | x::l,F,H,Q,h=>by
  have next:∀v H1,bd P l (fC F x.d v) H1 Q->bd P l (fC F x.d v) H1 fun az H1=>Q az H1/\∀r,(∀U∈x::l,U.d≠some r)->az r=F r:=fun v H1 o=>
   bd.mono (fun az aY ⟨aS,aM⟩=>⟨aS,fun r aj=>by rw[aM r fun U aK=>aj U (List.mem_cons_of_mem _ aK),Pz (aj x List.mem_cons_self)]⟩) (bd.gk o)
  simp only[bd]at h⊢
  split
  ·rename_i aU;rw[aU]at h;exact fV.mono (fun v H1=>next v H1) h
  ·rename_i j w aU
   rw[aU]at h
   simp only at h
   split
   ·rename_i ae;rw[if_pos ae]at h;exact fV.mono (fun v H1=>next v H1) h
   ·rename_i ae;rw[if_neg ae]at h;exact next _ _ h
def lF(g:Option (Nat×Bool))(F:Fr):Prop:=match g with
 | none=>True
 | some (j,w)=>gR (F j)=some w
theorem mi.imp{g:Option (Nat×Bool)}{F:Fr}{A B u9 kq:Prop}(h:mi g F A B)(o:lF g F->A->u9)(aa:¬lF g F->B->kq):mi g F u9 kq:=by
 cases g with
 | none=>exact o trivial h
 | some py=>
  obtain⟨j,w⟩:=py
  simp only[mi,m2]at h⊢
  split
  ·rename_i ae;rw[if_pos ae]at h;exact o ae h
  ·rename_i ae;rw[if_neg ae]at h;exact aa ae h
theorem x3{b:Bool}{g:Option (Nat×Bool)}{d:Option Nat}{op:Op}{r:List br}{F:Fr}{H:ab}{Q:Fr->ab->Prop}(h:mi g F (bd P (⟨b,none,d,op⟩::r) F H Q) (bd P r (fC F d undef) H Q)):bd P (⟨b,g,d,op⟩::r) F H Q:=by
 cases g with
 | none=>exact h
 | some py=>exact h
theorem x1{b:Bool}{g:Option (Nat×Bool)}{d:Option Nat}{op:Op}{r:List br}{F:Fr}{H:ab}{af W:List Nat}{Q:Fr->ab->Prop}(h:mi g F (fi P (⟨b,none,d,op⟩::r) F H af W Q) (fi P r (fC F d undef) H af W Q)):fi P (⟨b,g,d,op⟩::r) F H af W Q:=by
 cases g with
 | none=>exact h
 | some py=>exact h
def hV(E:h4)(F:Fr):Prop:=∀x∈E,lF x.2.2.2 F->F x.1=oy (F x.2.1) x.2.2.1
theorem hV.nil(F:Fr):hV [] F:=fun x h=>by simp at h
theorem Ld{d:Nat}{E:h4}{x:Nat×Nat×Nat×Option (Nat×Bool)}(h:x∈kill d E):x∈E/\x.1≠d/\x.2.1≠d/\∀j w,x.2.2.2=some (j,w)->j≠d:=by
 unfold kill at h
 rw[List.mem_filter]at h
 obtain⟨o,aa⟩:=h
 simp only[Bool.and_eq_true,bne_iff_ne,ne_eq]at aa
 refine⟨o,aa.1.1,aa.1.2,fun j w aU=>?_⟩
 have:=aa.2
 rw[aU]at this
 simpa using this
theorem B1{g:Option (Nat×Bool)}{F az:Fr}(h:∀j w,g=some (j,w)->az j=F j):lF g az↔lF g F:=by
 cases g with
 | none=>exact Iff.rfl
 | some py=>obtain⟨j,w⟩:=py;simp only[lF,h j w rfl]
theorem hV.kill{E:h4}{F:Fr}(h:hV E F)(d:Nat)(v:Value):hV (kill d E) (aX F d v):=fun x I aU=>by
 obtain⟨o,aa,aD,bD⟩:=Ld I
 rw[gY _ _ aa,gY _ _ aD]
 exact h x o ((B1 fun j w e=>gY F v (bD j w e)).1 aU)
theorem VU{l:List br}:∀{E:h4} {x:Nat×Nat×Nat×Option (Nat×Bool)},x∈l.foldl (fun E U=>D8 U.d E) E->x∈E/\∀U∈l,U.d≠some x.1/\U.d≠some x.2.1/\∀j w,x.2.2.2=some (j,w)->U.d≠some j:=by
 induction l with
 | nil=>intro E x h;exact⟨h,fun U aK=>by simp at aK⟩
 | cons U l aV=>
  intro E x h
  simp only[List.foldl_cons]at h
  obtain⟨o,aa⟩:=aV h
  cases aL:U.d with
  | none=>
   rw[aL]at o
   refine⟨o,fun jZ ff=>?_⟩
   rcases List.mem_cons.1 ff with rfl | ff
   ·rw[aL];simp
   ·exact aa jZ ff
  | some d=>
   rw[aL]at o
   obtain⟨aS,aM,bh,b0⟩:=Ld o
   refine⟨aS,fun jZ ff=>?_⟩
   rcases List.mem_cons.1 ff with rfl | ff
   ·rw[aL]
    exact⟨fun e=>aM (Option.some.inj e).symm,fun e=>bh (Option.some.inj e).symm,fun j w aU e=>b0 j w aU (Option.some.inj e).symm⟩
   ·exact aa jZ ff
theorem hV.KV{E:h4}{F az:Fr}(h:hV E F){l:List br}(a2:∀r,(∀U∈l,U.d≠some r)->az r=F r):hV (l.foldl (fun E U=>D8 U.d E) E) az:=fun x I aU=>by
 obtain⟨o,aa⟩:=VU I
 rw[a2 _ fun U aK=>(aa U aK).1,a2 _ fun U aK=>(aa U aK).2.1]
 exact h x o ((B1 fun j w e=>a2 j fun U aK=>(aa U aK).2.2 j w e).1 aU)
theorem H7{g j9:Option (Nat×Bool)}(h:yE g j9=true):g=j9:=by
 cases g<;>cases j9<;>simp[yE]at h⊢
 ·obtain⟨o,aa⟩:=h;exact Prod.ext o aa
theorem Ea{α:Type}:∀{E:List (Nat×α)} {x:Nat} {y:α},E.lookup x=some y->(x,y)∈E
 | [],x,y,h=>by simp at h
 | (a,b)::E,x,y,h=>by
  rw[List.lookup_cons]at h
  split at h
  ·rename_i I
   have:x=a:=by simpa using I
   subst this
   obtain rfl:=Option.some.inj h
   exact List.mem_cons_self
  ·exact List.mem_cons_of_mem _ (Ea h)
theorem pG{E:h4}{F:Fr}{g:Option (Nat×Bool)}{x r off b:Nat}(h:reach E g x r off=true)(bJ:hV E F)(aU:lF g F)(aj:F r= .pointer (some ⟨b,0,none⟩)):F x= .pointer (some ⟨b,off,none⟩):=by
 simp only[reach,Bool.or_eq_true,Bool.and_eq_true,beq_iff_eq]at h
 rcases h with⟨rfl,rfl⟩ | h
 ·exact aj
 ·cases ar:E.lookup x with
  | none=>rw[ar]at h;cases h
  | some p=>
   obtain⟨di,Lu,j9⟩:=p
   rw[ar]at h
   simp only[Bool.and_eq_true,Bool.or_eq_true,beq_iff_eq]at h
   obtain⟨⟨rfl,rfl⟩,RI⟩:=h
   have:=bJ _ (Ea ar)
   simp only at this
   rw[this,aj]
   ·simp[oy]
   ·rcases RI with q | q
    ·rw[H7 q];trivial
    ·rw[H7 q];exact aU
structure gq (P:Program) (C:Cells) (F G:Fr) (H:ab) (a4:Nat->Option bA):Prop where
 fit:Fit a4 H
 cell:∀r e,C.lookup r=some e->F r=undef\/∃b,F r= .pointer (some ⟨b,0,none⟩)/\a4 b=some (.own e false (G r).cells.toList)/\Whole P e (G r)
 inj:∀r di e cI b,C.lookup r=some e->C.lookup di=some cI->r≠di->F r= .pointer (some ⟨b,0,none⟩)->F di≠ .pointer (some ⟨b,0,none⟩)
section
variable {C:Cells} {F G:Fr} {H:ab} {a4:Nat->Option bA}
theorem gq.at(h:gq P C F G H a4){r e:Nat}(aj:C.lookup r=some e)(aT:jx (F r)=true):∃b,F r= .pointer (some ⟨b,0,none⟩)/\a4 b=some (.own e false (G r).cells.toList)/\Whole P e (G r)/\(cl a4 H)[b]?=some (.own e false (G r).cells.toList)/\b<H.length:=by
 rcases h.cell r e aj with q | ⟨b,aS,aM,bh⟩
 ·rw[q]at aT;cases aT
 ·have aL:=(h.fit b _ aM).1
  refine⟨b,aS,aM,bh,?_,(cd.1 aL).1⟩
  rw[km,aL,aM]
  rfl
theorem tG{r:Nat}(h:k_ C r=true):∃e,C.lookup r=some e:=Option.isSome_iff_exists.1 h
theorem gq.mW(h:gq P C F G H a4){d:Nat}(aL:k_ C d=false)(v:Value):gq P C (aX F d v) G H a4:=by
 have ne:∀r e,C.lookup r=some e->r≠d:=fun r e aj=>by rintro rfl;simp[k_,aj]at aL
 refine⟨h.fit,fun r e aj=>?_,fun r di e cI b aj fq cF a2=>?_⟩
 ·rw[gY _ _ (ne r e aj)];exact h.cell r e aj
 ·rw[gY _ _ (ne r e aj)]at a2
  rw[gY _ _ (ne di cI fq)]
  exact h.inj r di e cI b aj fq cF a2
theorem gq.congr(h:gq P C F G H a4){az:Fr}{H1:ab}(a2:∀r e,C.lookup r=some e->az r=F r)(ax:Fit a4 H1):gq P C az G H1 a4:=by
 refine⟨ax,fun r e aj=>?_,fun r di e cI b aj fq cF ae=>?_⟩
 ·rw[a2 r e aj];exact h.cell r e aj
 ·rw[a2 r e aj]at ae
  rw[a2 di cI fq]
  exact h.inj r di e cI b aj fq cF ae
def qX(a4:Nat->Option bA)(b:Nat)(x:bA):Nat->Option bA:=fun c=>if c=b then some x else a4 c
theorem uF(a4:Nat->Option bA)(b:Nat)(x:bA):qX a4 b x b=some x:=by simp[qX]
theorem uE(a4:Nat->Option bA){b c:Nat}(x:bA)(h:c≠b):qX a4 b x c=a4 c:=by simp[qX,h]
theorem gq.new(h:gq P C F G H a4){c e:Nat}(ag:C.lookup c=some e){z:Value}(aP:Whole P e z):
  gq P C (aX F c (.pointer (some ⟨H.length,0,none⟩))) (aX G c z) (H++[.dead]) (qX a4 H.length (.own e false z.cells.toList))/\cl (qX a4 H.length (.own e false z.cells.toList)) (H++[.dead])=cl a4 H++[.own e false z.cells.toList]:=by
 have aE:a4 H.length=none:=by
  cases aT:a4 H.length with
  | none=>rfl
  | some x=>have:=h.fit.lt aT;omega
 refine⟨⟨fun b x ae=>?_,fun r cI aj=>?_,fun r di bp bo b aj fq cF a2=>?_⟩,?_⟩
 ·by_cases fD:b=H.length
  ·subst fD
   rw[uF]at ae
   obtain rfl:=Option.some.inj ae
   exact⟨by simp,_,_,_,rfl⟩
  ·rw[uE _ _ fD]at ae
   obtain⟨aS,aM⟩:=h.fit b x ae
   exact⟨by rw[List.getElem?_append_left (h.fit.lt ae)];exact aS,aM⟩
 ·by_cases sa:r=c
  ·subst sa
   rw[ag]at aj
   obtain rfl:=Option.some.inj aj
   exact .inr ⟨H.length,hJ _ _ _,by rw[uF,hJ],by rw[hJ];exact aP⟩
  ·rw[gY _ _ sa,gY _ _ sa]
   rcases h.cell r cI aj with q | ⟨b,aS,aM,bh⟩
   ·exact .inl q
   ·have:=h.fit.lt aM
    exact .inr ⟨b,aS,by rw[uE _ _ (by omega)];exact aM,bh⟩
 ·have lt:∀r e b,C.lookup r=some e->F r= .pointer (some ⟨b,0,none⟩)->b<H.length:=fun r e b aj a2=>by
   rcases h.cell r e aj with q | ⟨ca,aS,aM,bh⟩
   ·rw[q]at a2;cases a2
   ·rw[aS]at a2;simp at a2;subst a2;exact h.fit.lt aM
  by_cases o:r=c
  ·subst o
   rw[hJ]at a2
   simp at a2
   subst a2
   rw[gY _ _ (Ne.symm cF)]
   intro av
   have:=lt di bo _ fq av
   omega
  ·rw[gY _ _ o]at a2
   by_cases aa:di=c
   ·subst aa
    rw[hJ]
    intro av
    simp at av
    have:=lt r bp b aj a2
    omega
   ·rw[gY _ _ aa]
    exact h.inj r di bp bo b aj fq cF a2
 ·apply List.ext_getElem?
  intro b
  rw[km]
  by_cases ae:b<H.length
  ·rw[List.getElem?_append_left ae,List.getElem?_append_left (by rw[jB];exact ae),km,uE _ _ (by omega)]
  ·by_cases fD:b=H.length
   ·subst fD
    rw[uF,List.getElem?_append_right (Nat.le_refl _),List.getElem?_append_right (by rw[jB];exact Nat.le_refl _),jB]
    simp
   ·rw[List.getElem?_eq_none (by simp;omega),List.getElem?_eq_none (by simp[jB];omega)]
    rfl
theorem gq.set(h:gq P C F G H a4){c e b:Nat}(ag:C.lookup c=some e)(a2:F c= .pointer (some ⟨b,0,none⟩)){z:Value}(aP:Whole P e z):
  gq P C F (aX G c z) H (qX a4 b (.own e false z.cells.toList))/\cl (qX a4 b (.own e false z.cells.toList)) H=(cl a4 H).set b (.own e false z.cells.toList):=by
 have ae:a4 b=some (.own e false (G c).cells.toList):=by
  rcases h.cell c e ag with q | ⟨ca,aS,aM,bh⟩
  ·rw[q]at a2;cases a2
  ·rw[aS]at a2;simp at a2;subst a2;exact aM
 have aL:=(h.fit b _ ae).1
 have gD:=h.fit.lt ae
 refine⟨⟨fun ca x cM=>?_,fun r cI aj=>?_,h.inj⟩,?_⟩
 ·by_cases fD:ca=b
  ·subst fD
   rw[uF]at cM
   obtain rfl:=Option.some.inj cM
   exact⟨aL,_,_,_,rfl⟩
  ·rw[uE _ _ fD]at cM
   exact h.fit ca x cM
 ·by_cases sa:r=c
  ·subst sa
   rw[ag]at aj
   obtain rfl:=Option.some.inj aj
   exact .inr ⟨b,a2,by rw[uF,hJ],by rw[hJ];exact aP⟩
  ·rw[gY _ _ sa]
   rcases h.cell r cI aj with q | ⟨ca,aS,aM,bh⟩
   ·exact .inl q
   ·have:ca≠b:=fun e=>by subst e;exact h.inj c r e _ ca ag aj (Ne.symm sa) a2 aS
    exact .inr ⟨ca,aS,by rw[uE _ _ this];exact aM,bh⟩
 ·apply List.ext_getElem?
  intro ca
  rw[km]
  by_cases fD:b=ca
  ·subst fD
   rw[uF,List.getElem?_set_self (by rw[jB];exact gD),aL]
   rfl
  ·rw[List.getElem?_set_ne fD,km,uE _ _ (Ne.symm fD)]
end
section
variable {aI:Operand->Value} {H:ab} {b e:Nat} {x y:Operand} {v:Value}
theorem s5{v:Value}(h:eB v=true):v= .agg v.cells:=by cases v<;>simp[eB]at h;rfl
theorem XA{t:Nat}(I:aI x= .pointer (some ⟨b,0,none⟩))(aR:H[b]?=some (.own e false v.cells.toList))(hw:Whole P t v):bU P aI H (.load t x)=some (v,H):=by
 obtain⟨o,aa,aD⟩:=hw
 have ag:h5 H b=some v.cells.toList:=by unfold h5;rw[aR];rfl
 simp only[bU,I,ag]
 split at aD
 ·rename_i aF
  rw[aD]
  simp only[o]
  rw[if_pos (by simp)]
  have:(v.cells.toList.drop 0).take v.cells.size=v.cells.toList:=by rw[List.drop_zero,List.take_of_length_le (by simp)]
  rw[this]
  simp only[Array.toArray_toList]
  rw[<-s5 aF]
 ·rw[aD.1]
  simp only
  rw[aD.2]
  rfl
theorem Mk{t off:Nat}{cs:List Value}(I:aI x= .pointer (some ⟨b,off,none⟩))(aR:H[b]?=some (.own e false cs))(an:bn P t=some (aI y).cells.size)(bq:off+(aI y).cells.size<=cs.length)(o:((aI y).cells.toList.all (·.oneCell'))=true):
  bU P aI H (.store t x y)=some (undef,H.set b (.own e false (c3 cs off (aI y).cells.toList))):=by
 simp only[bU,I,aR]
 rw[if_pos ⟨an,bq,o⟩]
end
theorem Whole.XH{e off:Nat}{cs:Array Value}{aA:List Value}(h:Whole P e (.agg cs))(bq:off+aA.length<=cs.size)(o:(aA.all (·.oneCell'))=true):Whole P e (.agg (c3 cs.toList off aA).toArray):=by
 obtain⟨aS,aM,bh⟩:=h
 have ar:(c3 cs.toList off aA).length=cs.size:=by rw[mU (by simpa using bq)];simp
 refine⟨?_,?_,by simpa[eB]using bh⟩
 ·rw[aS];simp only[Value.cells,List.size_toArray,ar]
 ·simp only[Value.cells]at aM⊢
  rw[List.all_eq_true]at aM⊢
  intro u hu
  simp only[c3,List.mem_append]at hu
  rcases hu with(hu | hu) | hu
  ·exact aM u (List.mem_of_mem_take hu)
  ·exact List.all_eq_true.1 o u hu
  ·exact aM u (List.mem_of_mem_drop hu)
theorem Nr{t:Nat}{x:Operand}{d:Option Nat}{r:List br}{F:Fr}{H H1:ab}{Q:Fr->ab->Prop}{v:Value}(h:bU P (aq F) H (.load t x)=some (v,H1))(ai:bd P r (fC F d v) H1 Q):bd P (⟨true,none,d,.load t x⟩::r) F H Q:=by
 simp only[bd,fV,h]
 exact⟨fun _=>trivial,ai⟩
theorem Ns{t:Nat}{x y:Operand}{d:Option Nat}{r:List br}{F:Fr}{H H1:ab}{Q:Fr->ab->Prop}{v:Value}(h:bU P (aq F) H (.store t x y)=some (v,H1))(ai:bd P r (fC F d v) H1 Q):bd P (⟨true,none,d,.store t x y⟩::r) F H Q:=by
 simp only[bd,fV,h]
 exact⟨fun _=>trivial,ai⟩
theorem aa2{s f b U off:Nat}{x:Nat}{d:Nat}{r:List br}{F:Fr}{H:ab}{Q:Fr->ab->Prop}(I:F x= .pointer (some ⟨b,off,none⟩))(ax:gf P s f=some U)(ai:bd P r (aX F d (.pointer (some ⟨b,off+U,none⟩))) H Q):bd P (⟨true,none,some d,.fieldAddr s (.tmp x) f⟩::r) F H Q:=by
 have an:bU P (aq F) H (.fieldAddr s (.tmp x) f)=some (.pointer (some ⟨b,off+U,none⟩),H):=by simp only[bU,aq,I,ax,Option.map_some]
 simp only[bd,fV,an]
 exact⟨fun _=>trivial,ai⟩
theorem aam{cs aA:List Value}{i:Nat}(h:i+aA.length<=cs.length):lr cs i aA=c3 cs i aA:=Fs h
theorem vI{α:Type}{U:Option α}{K:α->Prop}(h:eI U K):∃v,U=some v/\K v:=by
 cases U with
 | none=>exact h.elim
 | some v=>exact⟨v,rfl,h⟩
theorem Ek{v:Value}{K:Array Value->Prop}(h:m8 v K):∃cs,v= .agg cs/\K cs:=by
 cases v with
 | agg cs=>exact⟨cs,rfl,h⟩
 | _=>exact h.elim
variable {C:Cells}
theorem Ia{E:h4}{F:Fr}{g:Option (Nat×Bool)}{s x f r off b:Nat}(h:BU P E g s x f r off=true)(bJ:hV E F)(aU:lF g F)(aj:F r= .pointer (some ⟨b,0,none⟩)):∃U,gf P s f=some U/\U<=off/\F x= .pointer (some ⟨b,off-U,none⟩):=by
 unfold BU at h
 cases g1:gf P s f with
 | none=>rw[g1]at h;cases h
 | some U=>
  rw[g1]at h
  simp only[Bool.and_eq_true,decide_eq_true_eq]at h
  exact⟨U,rfl,h.1,pG h.2 bJ aU aj⟩
theorem H_{E:h4}{F:Fr}{g:Option (Nat×Bool)}{d c off:Nat}(bJ:hV E F)(qo:(match g with | some (j,_)=>j !=d | none=>true)=true)(aU:¬lF g F):hV ((d,c,off,g)::kill d E) (aX F d undef):=fun y aJ tQ=>by
 rcases List.mem_cons.1 aJ with rfl | aJ
 ·refine absurd ((B1 fun j w e=>gY F undef ?_).1 tQ) aU
  simp only at e
  subst e
  simpa using qo
 ·exact bJ.kill d _ y aJ tQ
theorem HB{F G:Fr}{H:ab}{a4:Nat->Option bA}{E:h4}{g:Option (Nat×Bool)}{t x c:Nat}(bl:gq P C F G H a4)(ag:C.lookup c=some t)(g2:reach E g x c 0=true)(bJ:hV E F)(aU:lF g F)(aT:jx (F c)=true):bU P (aq F) (cl a4 H) (.load t (.tmp x))=some (G c,cl a4 H):=by
 obtain⟨b,dp,hd,eM,gK,iI⟩:=bl.at ag aT
 exact XA (b:=b) (pG g2 bJ aU dp) gK eM
theorem HA{F G:Fr}{H:ab}{a4:Nat->Option bA}{E:h4}{g:Option (Nat×Bool)}{t x c e off:Nat}{K:Value->Prop}(bl:gq P C F G H a4)(ag:C.lookup c=some e)(g2:reach E g x c off=true)(bJ:hV E F)(aU:lF g F)
  (h:ga (jx (F c)=true) (m8 (G c) fun cs=>eI (c_ P t) fun a=>hB a (eI (bn P t) fun n=>ga (off+n<=cs.size) (K (.agg ((cs.toList.drop off).take n).toArray))) (eI cs.toList[off]? fun v=>K v))):∃v,bU P (aq F) (cl a4 H) (.load t (.tmp x))=some (v,cl a4 H)/\K v:=by
 obtain⟨aT,h⟩:=h
 obtain⟨b,dp,hd,eM,gK,iI⟩:=bl.at ag aT
 obtain⟨cs,fX,h⟩:=Ek h
 have I:=pG g2 bJ aU dp
 have Jf:h5 (cl a4 H) b=some cs.toList:=by unfold h5;rw[gK,fX];rfl
 obtain⟨a,aF,h⟩:=vI h
 cases a with
 | true=>
  obtain⟨n,aE,bq,a1⟩:=vI h
  exact⟨_,by simp only[bU,aq,I,Jf,aF,aE];rw[if_pos (by simpa using bq)],a1⟩
 | false=>
  obtain⟨v,ao,a1⟩:=vI h
  exact⟨v,by simp only[bU,aq,I,Jf,aF,ao];rfl,a1⟩
theorem HD{F G:Fr}{H:ab}{a4:Nat->Option bA}{E:h4}{g:Option (Nat×Bool)}{t x c:Nat}{y:Operand}(bl:gq P C F G H a4)(ag:C.lookup c=some t)(g2:reach E g x c 0=true)(bJ:hV E F)(aU:lF g F)(aT:jx (F c)=true)(hw:Whole P t (aq F y)):
  ∃eD,bU P (aq F) (cl a4 H) (.store t (.tmp x) y)=some (undef,cl eD H)/\gq P C F (aX G c (aq F y)) H eD:=by
 obtain⟨b,dp,hd,eM,gK,iI⟩:=bl.at ag aT
 have I:=pG g2 bJ aU dp
 have c0:(aq F y).cells.size=(G c).cells.size:=by have:=eM.1;rw[hw.1]at this;exact Option.some.inj this
 have an:=Mk (P:=P) (aI:=aq F) (x:= .tmp x) (y:=y) I gK hw.1 (by simp;omega) hw.2.1
 obtain⟨aS,aM⟩:=bl.set ag dp hw
 refine⟨_,?_,aS⟩
 rw[an,aM]
 have:c3 (G c).cells.toList 0 (aq F y).cells.toList=(aq F y).cells.toList:=by
  simp only[c3,List.take_zero,List.nil_append,Nat.zero_add]
  rw[List.drop_eq_nil_of_le (by simp;omega),List.append_nil]
 rw[this]
theorem HC{F G:Fr}{H:ab}{a4:Nat->Option bA}{E:h4}{g:Option (Nat×Bool)}{t x c e off:Nat}{y:Operand}{K:Value->Prop}(bl:gq P C F G H a4)(ag:C.lookup c=some e)(g2:reach E g x c off=true)(bJ:hV E F)(aU:lF g F)
  (h:ga (jx (F c)=true) (m8 (G c) fun cs=>ga (bn P t=some (aq F y).cells.size/\off+(aq F y).cells.size<=cs.size/\((aq F y).cells.toList.all (·.oneCell'))=true) (K (.agg (lr cs.toList off (aq F y).cells.toList).toArray)))):
  ∃eD v,bU P (aq F) (cl a4 H) (.store t (.tmp x) y)=some (undef,cl eD H)/\gq P C F (aX G c v) H eD/\K v:=by
 obtain⟨aT,h⟩:=h
 obtain⟨b,dp,hd,eM,gK,iI⟩:=bl.at ag aT
 obtain⟨cs,fX,⟨o,aa,aD⟩,a1⟩:=Ek h
 have I:=pG g2 bJ aU dp
 have an:=Mk (P:=P) (aI:=aq F) (x:= .tmp x) (y:=y) I gK o (by rw[fX];simpa[Value.cells]using aa) aD
 rw[fX]at an eM
 rw[aam (by simpa using aa)]at a1
 obtain⟨aS,aM⟩:=bl.set ag dp (eM.XH (aA:=(aq F y).cells.toList) (by simpa using aa) aD)
 refine⟨_,_,?_,aS,a1⟩
 rw[an,aM]
 rfl
theorem lx:∀(l:List g6) (E:h4) (F G:Fr) (H:ab) (a4:Nat->Option bA) (Q:Fr->Fr->ab->Prop),hg P C false E l=true->gq P C F G H a4->hV E F->dg P l F G H Q->
  bd P (pP l) F (cl a4 H) fun az H1=>∃bC aY eD,H1=cl eD aY/\gq P C az bC aY eD/\Q az bC aY
 | [],E,F,G,H,a4,Q,ai,bl,bJ,h=>⟨G,H,a4,rfl,bl,h⟩
 | .xs l::r,E,F,G,H,a4,Q,ai,bl,bJ,h=>by
  simp only[hg,Bool.and_eq_true]at ai
  simp only[pP,g6.back]
  refine bd.append (bd.mono (fun az H1 cR=>?_) (bd.ow bl.fit (bd.gk h)))
  obtain⟨aC,rfl,ax,aP,a2⟩:=cR
  have vP:∀r e,C.lookup r=some e->az r=F r:=fun r e aj=>a2 r fun U aK=>by
   have:=List.all_eq_true.1 ai.1 U aK
   cases aL:U.d with
   | none=>simp
   | some d=>rw[aL]at this;rintro⟨rfl⟩;simp[BL,k_,aj]at this
  exact lx r _ az G aC a4 Q ai.2 (bl.congr vP ax) (bJ.KV a2) aP
 | .bY c e::r,E,F,G,H,a4,Q,ai,bl,bJ,h=>by
  simp only[hg,Bool.and_eq_true,beq_iff_eq]at ai
  obtain⟨z,aP,⟨dt,hw⟩,a1⟩:=vI h
  obtain⟨aS,aM⟩:=bl.new ai.1 hw
  show bd P (bY c e::pP r) F (cl a4 H) _
  rw[Nq]
  simp only[aP]
  refine⟨⟨dt,by rw[hw.1];rfl⟩,?_⟩
  rw[jB,<-aM]
  exact lx r _ _ _ _ _ Q ai.2 aS (bJ.kill c _) a1
 | .cZ c e y::r,E,F,G,H,a4,Q,ai,bl,bJ,h=>by
  simp only[hg,Bool.and_eq_true,beq_iff_eq]at ai
  obtain⟨hw,a1⟩:=h
  obtain⟨aS,aM⟩:=bl.new ai.1 hw
  show bd P (cZ c e y::pP r) F (cl a4 H) _
  rw[Nl]
  refine⟨by rw[hw.1];rfl,?_⟩
  rw[jB,<-aM]
  exact lx r _ _ _ _ _ Q ai.2 aS (bJ.kill c _) a1
 | .bk g d s x f c off::r,E,F,G,H,a4,Q,ai,bl,bJ,h=>by
  simp only[hg,Bool.and_eq_true,Bool.not_eq_true']at ai
  obtain⟨⟨⟨⟨aL,ag⟩,ns⟩,qo⟩,aj⟩:=ai
  obtain⟨e,fx⟩:=tG ag
  have CV:c≠d:=fun cI=>by subst cI;rw[ag]at aL;cases aL
  simp only[dg]at h
  refine x3 (h.imp (fun aU a1=>?_) fun aU a1=>?_)
  ·obtain⟨aT,a1⟩:=a1
   have Ca:hV ((d,c,off,g)::kill d E) (aX F d (oy (F c) off)):=fun y aJ tQ=>by
    rcases List.mem_cons.1 aJ with rfl | aJ
    ·simp only;rw[hJ,gY _ _ CV]
    ·exact bJ.kill d _ y aJ tQ
   have sb:=lx r _ _ _ _ _ Q aj (bl.mW aL (oy (F c) off)) Ca a1
   obtain⟨b,dp,-⟩:=bl.at fx aT
   obtain⟨U,g1,aK,I⟩:=Ia ns bJ aU dp
   refine aa2 I g1 ?_
   rw[dp]at sb
   simp only[oy,Nat.zero_add]at sb
   rw[show off-U+U=off by omega]
   exact sb
  ·exact lx r _ _ _ _ _ Q aj (bl.mW aL undef) (H_ bJ qo aU) a1
 | .b3 g d t x c::r,E,F,G,H,a4,Q,ai,bl,bJ,h=>by
  simp only[hg,Bool.and_eq_true,Bool.not_eq_true',beq_iff_eq]at ai
  obtain⟨⟨⟨aL,ag⟩,g2⟩,aj⟩:=ai
  simp only[dg]at h
  refine x3 (h.imp (fun aU a1=>?_) fun aU a1=>?_)
  ·obtain⟨aT,a1⟩:=a1
   exact Nr (HB bl ag g2 bJ aU aT) (lx r _ _ _ _ _ Q aj (bl.mW aL (G c)) (bJ.kill d _) a1)
  ·exact lx r _ _ _ _ _ Q aj (bl.mW aL undef) (bJ.kill d _) a1
 | .aO g d t x c off::r,E,F,G,H,a4,Q,ai,bl,bJ,h=>by
  simp only[hg,Bool.and_eq_true,Bool.not_eq_true']at ai
  obtain⟨⟨⟨aL,ag⟩,g2⟩,aj⟩:=ai
  obtain⟨e,fx⟩:=tG ag
  simp only[dg]at h
  refine x3 (h.imp (fun aU a1=>?_) fun aU a1=>?_)
  ·obtain⟨v,an,Ch⟩:=HA (K:=fun v=>dg P r (aX F d v) G H Q) bl fx g2 bJ aU a1
   exact Nr an (lx r _ _ _ _ _ Q aj (bl.mW aL v) (bJ.kill d _) Ch)
  ·exact lx r _ _ _ _ _ Q aj (bl.mW aL undef) (bJ.kill d _) a1
 | .cD b g t x y c::r,E,F,G,H,a4,Q,ai,bl,bJ,h=>by
  simp only[hg,Bool.and_eq_true,beq_iff_eq,Bool.or_false]at ai
  obtain⟨⟨⟨ae,ag⟩,g2⟩,aj⟩:=ai
  have ae:b=true:=by simpa using ae
  subst ae
  simp only[dg]at h
  refine x3 (h.imp (fun aU a1=>?_) fun aU a1=>?_)
  ·obtain⟨⟨aT,hw⟩,a1⟩:=a1
   obtain⟨eD,an,gi⟩:=HD (y:=y) bl ag g2 bJ aU aT hw
   exact Ns an (lx r _ _ _ _ _ Q aj gi bJ a1)
  ·exact lx r _ _ _ _ _ Q aj bl bJ a1
 | .st b g t x y c off::r,E,F,G,H,a4,Q,ai,bl,bJ,h=>by
  simp only[hg,Bool.and_eq_true]at ai
  obtain⟨⟨⟨ae,ag⟩,g2⟩,aj⟩:=ai
  have ae:b=true:=by simpa using ae
  subst ae
  obtain⟨e,fx⟩:=tG ag
  simp only[dg]at h
  refine x3 (h.imp (fun aU a1=>?_) fun aU a1=>?_)
  ·obtain⟨eD,v,an,gi,a1⟩:=HC (y:=y) (K:=fun v=>dg P r F (aX G c v) H Q) bl fx g2 bJ aU a1
   exact Ns an (lx r _ _ _ _ _ Q aj gi bJ a1)
  ·exact lx r _ _ _ _ _ Q aj bl bJ a1
theorem Np{F:Fr}{H:ab}{b ca:Bool}{af W:List Nat}{K:Value->ab->Prop}{op:Op}(av:uH op=true)(h:fV P b F H K op):gz P ca (aq F) H af W (fun v H1 eZ ft=>eZ=af/\ft=W/\K v H1) op:=by
 have main:iH op=false->(match bU P (aq F) H op with
   | some (v,H1)=>(hv op=true->b=true)/\K v H1
   | none=>iH op=true/\∃v H1,m7 P (aq F) H op v H1/\(b=true\/Ext H H1)/\K v H1)->(match bU P (aq F) H op with | some (v,H1)=>af=af/\W=W/\K v H1 | none=>False):=by
  intro hm
  cases bU P (aq F) H op with
  | some p=>exact fun h=>⟨rfl,rfl,h.2⟩
  | none=>intro h;rw[hm]at h;cases h.1
 cases op with
 | load t x=>cases av
 | store t x y=>cases av
 | call c=>
  obtain⟨callee,args,kA⟩:=c
  cases callee with
  | value f=>cases av
  | invoke r m=>exact main rfl h
  | builtin bi=>exact main (by simpa[uH]using av) h
 | _=>exact main (by simpa[uH]using av) h
theorem fi.append:∀{l c2:List br} {F:Fr} {H:ab} {af W:List Nat} {Q:Fr->ab->Prop} {b:Bool},(∀U∈l,uH U.op=true)->bd P l F H (fun az H1=>fi P c2 az H1 af W Q)->fi P (l++c2) F H af W Q
 | [],c2,F,H,af,W,Q,b,av,h=>h
 | x::l,c2,F,H,af,W,Q,b,av,h=>by
  have I:=av x List.mem_cons_self
  have ar:∀U∈l,uH U.op=true:=fun U aK=>av U (List.mem_cons_of_mem _ aK)
  simp only[List.cons_append,fi]
  simp only[bd]at h
  split
  ·rename_i aU
   rw[aU]at h
   exact gz.mono (fun v H1 eZ ft ⟨bp,bo,cR⟩=>by subst bp bo;exact fi.append (b:=b) ar cR) (Np I h)
  ·rename_i j w aU
   rw[aU]at h
   simp only at h
   split
   ·rename_i ae
    rw[if_pos ae]at h
    exact gz.mono (fun v H1 eZ ft ⟨bp,bo,cR⟩=>by subst bp bo;exact fi.append (b:=b) ar cR) (Np I h)
   ·rename_i ae
    rw[if_neg ae]at h
    exact fi.append (b:=b) ar h
theorem aaO{s f b U off:Nat}{x:Nat}{d:Nat}{r:List br}{F:Fr}{H:ab}{af W:List Nat}{Q:Fr->ab->Prop}(I:F x= .pointer (some ⟨b,off,none⟩))(ax:gf P s f=some U)(ai:fi P r (aX F d (.pointer (some ⟨b,off+U,none⟩))) H af W Q):fi P (⟨true,none,some d,.fieldAddr s (.tmp x) f⟩::r) F H af W Q:=by
 have an:bU P (aq F) H (.fieldAddr s (.tmp x) f)=some (.pointer (some ⟨b,off+U,none⟩),H):=by simp only[bU,aq,I,ax,Option.map_some]
 simp only[fi,gz,an]
 exact ai
theorem Nn{t b i:Nat}{x:Operand}{d:Option Nat}{r:List br}{F:Fr}{H H1:ab}{af W:List Nat}{Q:Fr->ab->Prop}{v:Value}(I:aq F x= .pointer (some ⟨b,i,none⟩))(tE:b∉W)(h:bU P (aq F) H (.load t x)=some (v,H1))(ai:fi P r (fC F d v) H1 (b::af) W Q):fi P (⟨true,none,d,.load t x⟩::r) F H af W Q:=by
 simp only[fi,gz,I,h]
 exact⟨tE,ai⟩
theorem No{lE:Bool}{t b i:Nat}{x y:Operand}{d:Option Nat}{r:List br}{F:Fr}{H H1:ab}{af W:List Nat}{Q:Fr->ab->Prop}{v:Value}(I:aq F x= .pointer (some ⟨b,i,none⟩))(tE:lE=true\/(b∉W/\b∉af))(h:bU P (aq F) H (.store t x y)=some (v,H1))(ai:fi P r (fC F d v) H1 af (if lE=true then W else b::W) Q):fi P (⟨lE,none,d,.store t x y⟩::r) F H af W Q:=by
 simp only[fi,gz,I,h]
 exact⟨tE,ai⟩
def nT(C:Cells)(F:Fr)(fL af:List Nat):Prop:=∀b∈af,∃c e,c∈fL/\C.lookup c=some e/\F c= .pointer (some ⟨b,0,none⟩)
theorem nT.not{F G:Fr}{H:ab}{a4:Nat->Option bA}{fL af:List Nat}{c e b:Nat}(h:nT C F fL af)(bl:gq P C F G H a4)(ag:C.lookup c=some e)(a2:F c= .pointer (some ⟨b,0,none⟩))(aE:c∉fL):b∉af:=fun ae=>by
 obtain⟨dL,cI,o,aa,aD⟩:=h b ae
 have:dL≠c:=fun e=>aE (e▸o)
 exact bl.inj dL c cI e b aa ag this aD a2
theorem nT.cons{F:Fr}{fL af:List Nat}{c e b:Nat}(h:nT C F fL af)(ag:C.lookup c=some e)(a2:F c= .pointer (some ⟨b,0,none⟩)):nT C F (c::fL) (b::af):=fun ca ae=>by
 rcases List.mem_cons.1 ae with rfl | ae
 ·exact⟨c,e,List.mem_cons_self,ag,a2⟩
 ·obtain⟨dL,cI,o,aa,aD⟩:=h ca ae
  exact⟨dL,cI,List.mem_cons_of_mem _ o,aa,aD⟩
theorem nT.congr{F az:Fr}{fL af:List Nat}(h:nT C F fL af)(a2:∀r e,C.lookup r=some e->az r=F r):nT C az fL af:=fun b ae=>by
 obtain⟨c,e,o,aa,aD⟩:=h b ae
 exact⟨c,e,o,aa,by rw[a2 c e aa];exact aD⟩
theorem mX{F:Fr}{d:Nat}{v:Value}(aL:k_ C d=false):∀r e,C.lookup r=some e->aX F d v r=F r:=fun r e aj=>gY _ _ (by rintro rfl;simp[k_,aj]at aL)
theorem mZ:∀(l:List g6) (E:h4) (fL g5 af W:List Nat) (F G:Fr) (H:ab) (a4:Nat->Option bA) (Q:Fr->Fr->ab->Prop),hg P C true E l=true->lv fL g5 l=true->nT C F fL af->nT C F g5 W->gq P C F G H a4->hV E F->dg P l F G H Q->
  fi P (pP l) F (cl a4 H) af W fun az H1=>∃bC aY eD,H1=cl eD aY/\gq P C az bC aY eD/\Q az bC aY
 | [],E,fL,g5,af,W,F,G,H,a4,Q,ai,fY,h_,hq,bl,bJ,h=>⟨G,H,a4,rfl,bl,h⟩
 | .xs l::r,E,fL,g5,af,W,F,G,H,a4,Q,ai,fY,h_,hq,bl,bJ,h=>by
  simp only[hg,Bool.and_eq_true]at ai
  simp only[lv,Bool.and_eq_true]at fY
  simp only[pP,g6.back]
  refine fi.append (b:=true) (fun U aK=>List.all_eq_true.1 fY.1 U aK) (bd.mono (fun az H1 cR=>?_) (bd.ow bl.fit (bd.gk h)))
  obtain⟨aC,rfl,ax,aP,a2⟩:=cR
  have vP:∀r e,C.lookup r=some e->az r=F r:=fun r e aj=>a2 r fun U aK=>by
   have:=List.all_eq_true.1 ai.1 U aK
   cases aL:U.d with
   | none=>simp
   | some d=>rw[aL]at this;rintro⟨rfl⟩;simp[BL,k_,aj]at this
  exact mZ r _ fL g5 af W az G aC a4 Q ai.2 fY.2 (h_.congr vP) (hq.congr vP) (bl.congr vP ax) (bJ.KV a2) aP
 | .bY c e::r,E,fL,g5,af,W,F,G,H,a4,Q,ai,fY,h_,hq,bl,bJ,h=>by cases fY
 | .cZ c e y::r,E,fL,g5,af,W,F,G,H,a4,Q,ai,fY,h_,hq,bl,bJ,h=>by cases fY
 | .bk g d s x f c off::r,E,fL,g5,af,W,F,G,H,a4,Q,ai,fY,h_,hq,bl,bJ,h=>by
  simp only[hg,Bool.and_eq_true,Bool.not_eq_true']at ai
  simp only[lv]at fY
  obtain⟨⟨⟨⟨aL,ag⟩,ns⟩,qo⟩,aj⟩:=ai
  obtain⟨e,fx⟩:=tG ag
  have CV:c≠d:=fun cI=>by subst cI;rw[ag]at aL;cases aL
  simp only[dg]at h
  refine x1 (h.imp (fun aU a1=>?_) fun aU a1=>?_)
  ·obtain⟨aT,a1⟩:=a1
   have Ca:hV ((d,c,off,g)::kill d E) (aX F d (oy (F c) off)):=fun y aJ tQ=>by
    rcases List.mem_cons.1 aJ with rfl | aJ
    ·simp only;rw[hJ,gY _ _ CV]
    ·exact bJ.kill d _ y aJ tQ
   have sb:=mZ r _ fL g5 af W _ _ _ _ Q aj fY (h_.congr (mX aL)) (hq.congr (mX aL)) (bl.mW aL (oy (F c) off)) Ca a1
   obtain⟨b,dp,-⟩:=bl.at fx aT
   obtain⟨U,g1,aK,I⟩:=Ia ns bJ aU dp
   refine aaO I g1 ?_
   rw[dp]at sb
   simp only[oy,Nat.zero_add]at sb
   rw[show off-U+U=off by omega]
   exact sb
  ·exact mZ r _ fL g5 af W _ _ _ _ Q aj fY (h_.congr (mX aL)) (hq.congr (mX aL)) (bl.mW aL undef) (H_ bJ qo aU) a1
 | .b3 g d t x c::r,E,fL,g5,af,W,F,G,H,a4,Q,ai,fY,h_,hq,bl,bJ,h=>by
  simp only[hg,Bool.and_eq_true,Bool.not_eq_true',beq_iff_eq]at ai
  simp only[lv,Bool.and_eq_true,Bool.not_eq_true']at fY
  obtain⟨⟨⟨aL,ag⟩,g2⟩,aj⟩:=ai
  simp only[dg]at h
  refine x1 (h.imp (fun aU a1=>?_) fun aU a1=>?_)
  ·obtain⟨aT,a1⟩:=a1
   obtain⟨b,dp,-⟩:=bl.at ag aT
   exact Nn (i:=0) (pG g2 bJ aU dp) (hq.not bl ag dp (by simpa using fY.1)) (HB bl ag g2 bJ aU aT)
    (mZ r _ (c::fL) g5 _ W _ _ _ _ Q aj fY.2 ((h_.cons ag dp).congr (mX aL)) (hq.congr (mX aL)) (bl.mW aL (G c)) (bJ.kill d _) a1)
  ·refine mZ r _ (c::fL) g5 af W _ _ _ _ Q aj fY.2 (fun b ae=>?_) (hq.congr (mX aL)) (bl.mW aL undef) (bJ.kill d _) a1
   obtain⟨dL,cI,o,aa⟩:=(h_.congr (mX aL)) b ae
   exact⟨dL,cI,List.mem_cons_of_mem _ o,aa⟩
 | .aO g d t x c off::r,E,fL,g5,af,W,F,G,H,a4,Q,ai,fY,h_,hq,bl,bJ,h=>by
  simp only[hg,Bool.and_eq_true,Bool.not_eq_true']at ai
  simp only[lv,Bool.and_eq_true,Bool.not_eq_true']at fY
  obtain⟨⟨⟨aL,ag⟩,g2⟩,aj⟩:=ai
  obtain⟨e,fx⟩:=tG ag
  simp only[dg]at h
  refine x1 (h.imp (fun aU a1=>?_) fun aU a1=>?_)
  ·obtain⟨b,dp,-⟩:=bl.at fx a1.1
   obtain⟨v,an,Ch⟩:=HA (K:=fun v=>dg P r (aX F d v) G H Q) bl fx g2 bJ aU a1
   exact Nn (i:=off) (pG g2 bJ aU dp) (hq.not bl fx dp (by simpa using fY.1)) an
    (mZ r _ (c::fL) g5 _ W _ _ _ _ Q aj fY.2 ((h_.cons fx dp).congr (mX aL)) (hq.congr (mX aL)) (bl.mW aL v) (bJ.kill d _) Ch)
  ·refine mZ r _ (c::fL) g5 af W _ _ _ _ Q aj fY.2 (fun b ae=>?_) (hq.congr (mX aL)) (bl.mW aL undef) (bJ.kill d _) a1
   obtain⟨dL,cI,o,aa⟩:=(h_.congr (mX aL)) b ae
   exact⟨dL,cI,List.mem_cons_of_mem _ o,aa⟩
 | .cD lE g t x y c::r,E,fL,g5,af,W,F,G,H,a4,Q,ai,fY,h_,hq,bl,bJ,h=>by
  simp only[hg,Bool.and_eq_true,beq_iff_eq]at ai
  simp only[lv,Bool.and_eq_true,Bool.or_eq_true,Bool.not_eq_true']at fY
  obtain⟨⟨⟨-,ag⟩,g2⟩,aj⟩:=ai
  simp only[dg]at h
  refine x1 (h.imp (fun aU a1=>?_) fun aU a1=>?_)
  ·obtain⟨⟨aT,hw⟩,a1⟩:=a1
   obtain⟨b,dp,-⟩:=bl.at ag aT
   obtain⟨eD,an,gi⟩:=HD (y:=y) bl ag g2 bJ aU aT hw
   refine No (i:=0) (pG g2 bJ aU dp) (fY.1.imp id fun q=>⟨hq.not bl ag dp (by simpa using q.1),h_.not bl ag dp (by simpa using q.2)⟩) an
    (mZ r _ fL (if lE=true then g5 else c::g5) af _ _ _ _ _ Q aj fY.2 h_ ?_ gi bJ a1)
   cases lE with
   | true=>exact hq
   | false=>exact hq.cons ag dp
  ·refine mZ r _ fL (if lE=true then g5 else c::g5) af W _ _ _ _ Q aj fY.2 h_ (fun b ae=>?_) bl bJ a1
   obtain⟨dL,cI,o,aa⟩:=hq b ae
   cases lE with
   | true=>exact⟨dL,cI,o,aa⟩
   | false=>exact⟨dL,cI,List.mem_cons_of_mem _ o,aa⟩
 | .st lE g t x y c off::r,E,fL,g5,af,W,F,G,H,a4,Q,ai,fY,h_,hq,bl,bJ,h=>by
  simp only[hg,Bool.and_eq_true]at ai
  simp only[lv,Bool.and_eq_true,Bool.or_eq_true,Bool.not_eq_true']at fY
  obtain⟨⟨⟨-,ag⟩,g2⟩,aj⟩:=ai
  obtain⟨e,fx⟩:=tG ag
  simp only[dg]at h
  refine x1 (h.imp (fun aU a1=>?_) fun aU a1=>?_)
  ·obtain⟨b,dp,-⟩:=bl.at fx a1.1
   obtain⟨eD,v,an,gi,a1⟩:=HC (y:=y) (K:=fun v=>dg P r F (aX G c v) H Q) bl fx g2 bJ aU a1
   refine No (i:=off) (pG g2 bJ aU dp) (fY.1.imp id fun q=>⟨hq.not bl fx dp (by simpa using q.1),h_.not bl fx dp (by simpa using q.2)⟩) an
    (mZ r _ fL (if lE=true then g5 else c::g5) af _ _ _ _ _ Q aj fY.2 h_ ?_ gi bJ a1)
   cases lE with
   | true=>exact hq
   | false=>exact hq.cons fx dp
  ·refine mZ r _ fL (if lE=true then g5 else c::g5) af W _ _ _ _ Q aj fY.2 h_ (fun b ae=>?_) bl bJ a1
   obtain⟨dL,cI,o,aa⟩:=hq b ae
   cases lE with
   | true=>exact⟨dL,cI,o,aa⟩
   | false=>exact⟨dL,cI,List.mem_cons_of_mem _ o,aa⟩
theorem m8.imp{v:Value}{K dY:Array Value->Prop}(h:m8 v K)(ai:∀cs,K cs->dY cs):m8 v dY:=by
 obtain⟨cs,rfl,h⟩:=Ek h
 exact ai cs h
theorem eI.imp{α:Type}{U:Option α}{K dY:α->Prop}(h:eI U K)(ai:∀v,K v->dY v):eI U dY:=by
 obtain⟨v,rfl,h⟩:=vI h
 exact ai v h
theorem ga.imp{c K dY:Prop}(h:ga c K)(ai:K->dY):ga c dY:=⟨h.1,ai h.2⟩
theorem hB.imp{b:Bool}{A B u9 kq:Prop}(h:hB b A B)(o:A->u9)(aa:B->kq):hB b u9 kq:=by
 cases b
 ·exact aa h
 ·exact o h
theorem dg.gk:∀{l:List g6} {m k:Nat} {F G:Fr} {H:ab} {Q b6:Fr->Fr->ab->Prop},(l.all (vr m k))=true->(∀az bC H1,(∀r,gG m r=false->az r=F r)->(∀r,gG k r=false->bC r=G r)->Q az bC H1->b6 az bC H1)->dg P l F G H Q->dg P l F G H b6
 | [],m,k,F,G,H,Q,b6,aF,av,h=>av _ _ _ (fun _ _=>rfl) (fun _ _=>rfl) h
 | i::l,m,k,F,G,H,Q,b6,aF,av,h=>by
  simp only[List.all_cons,Bool.and_eq_true]at aF
  have pL:∀{d:Nat} {v:Value} {x6:Fr} {aC:ab},gG m d=true->(∀r,gG k r=false->x6 r=G r)->dg P l (aX F d v) x6 aC Q->dg P l (aX F d v) x6 aC b6:=fun{d v x6 aC} aL gr o=>
   dg.gk aF.2 (fun az bC H1 f1 cb=>av az bC H1 (fun r aj=>by rw[f1 r aj,gY];rintro rfl;rw[aL]at aj;cases aj) (fun r aj=>by rw[cb r aj,gr r aj])) o
  have M9:∀{c:Nat} {v:Value} {aC:ab},gG k c=true->dg P l F (aX G c v) aC Q->dg P l F (aX G c v) aC b6:=fun{c v aC} ag o=>
   dg.gk aF.2 (fun az bC H1 f1 cb=>av az bC H1 f1 (fun r aj=>by rw[cb r aj,gY];rintro rfl;rw[ag]at aj;cases aj)) o
  have Lq:∀{c:Nat} {v:Value},gG k c=true->∀r,gG k r=false->aX G c v r=G r:=fun{c v} ag r aj=>gY _ _ (by rintro rfl;rw[ag]at aj;cases aj)
  cases i with
  | xs aaN=>
   simp only[dg]at h⊢
   refine bd.mono (fun az H1 ⟨o,a2⟩=>dg.gk aF.2 (fun bQ dq aY f2 iO=>av bQ dq aY (fun r aj=>?_) iO) o) (bd.gk h)
   rw[f2 r aj,a2 r fun U aK aL=>?_]
   have:=List.all_eq_true.1 aF.1 U aK
   rw[aL]at this
   simp only[H0]at this
   rw[this]at aj
   cases aj
  | bY c e=>
   simp only[vr,Bool.and_eq_true]at aF
   simp only[dg]at h⊢
   exact h.imp fun z aP=>aP.imp (pL aF.1.1 (Lq aF.1.2))
  | cZ c e y=>
   simp only[vr,Bool.and_eq_true]at aF
   simp only[dg]at h⊢
   exact h.imp (pL aF.1.1 (Lq aF.1.2))
  | bk g d s x f c off=>
   simp only[dg]at h⊢
   exact h.imp (fun _ q=>q.imp (pL aF.1 fun _ _=>rfl)) fun _=>pL aF.1 fun _ _=>rfl
  | b3 g d t x c=>
   simp only[dg]at h⊢
   exact h.imp (fun _ q=>q.imp (pL aF.1 fun _ _=>rfl)) fun _=>pL aF.1 fun _ _=>rfl
  | aO g d t x c off=>
   simp only[dg]at h⊢
   exact h.imp (fun _ q=>q.imp fun q=>q.imp fun cs q=>q.imp fun a q=>q.imp (fun q=>q.imp fun n q=>q.imp (pL aF.1 fun _ _=>rfl)) fun q=>q.imp fun v=>pL aF.1 fun _ _=>rfl) fun _=>pL aF.1 fun _ _=>rfl
  | cD b g t x y c=>
   simp only[dg]at h⊢
   exact h.imp (fun _ q=>q.imp (M9 aF.1)) fun _=>dg.gk aF.2 av
  | st b g t x y c off=>
   simp only[dg]at h⊢
   exact h.imp (fun _ q=>q.imp fun q=>q.imp fun cs q=>q.imp (M9 aF.1)) fun _=>dg.gk aF.2 av
theorem eH.gk:∀{x:eG} {m k:Nat} {F G:Fr} {H:ab} {Q b6:dr->Fr->Fr->ab->Prop},jH m k x=true->(∀e az bC H1,(∀r,gG m r=false->az r=F r)->(∀r,gG k r=false->bC r=G r)->Q e az bC H1->b6 e az bC H1)->eH P x F G H Q->eH P x F G H b6
 | .skip,m,k,F,G,H,Q,b6,aF,av,h=>av _ _ _ _ (fun _ _=>rfl) (fun _ _=>rfl) h
 | .ret,m,k,F,G,H,Q,b6,aF,av,h=>av _ _ _ _ (fun _ _=>rfl) (fun _ _=>rfl) h
 | .exit id,m,k,F,G,H,Q,b6,aF,av,h=>av _ _ _ _ (fun _ _=>rfl) (fun _ _=>rfl) h
 | .seq x y,m,k,F,G,H,Q,b6,aF,av,h=>by
  simp only[jH,Bool.and_eq_true]at aF
  refine eH.gk (x:=x) aF.1 (fun e az bC H1 f1 cb o=>?_) h
  cases e with
  | normal=>exact eH.gk (x:=y) aF.2 (fun e bQ dq aY f2 iO=>av e bQ dq aY (fun r aj=>by rw[f2 r aj,f1 r aj]) (fun r aj=>by rw[iO r aj,cb r aj])) o
  | exit id=>exact av _ _ _ _ f1 cb o
  | ret=>exact av _ _ _ _ f1 cb o
 | .cond c x y,m,k,F,G,H,Q,b6,aF,av,h=>by
  simp only[jH,Bool.and_eq_true]at aF
  simp only[eH]at h⊢
  cases ao:aq F c<;>rw[ao]at h<;>try exact h.elim
  rename_i b
  cases b with
  | true=>exact eH.gk (x:=x) aF.1 av h
  | false=>exact eH.gk (x:=y) aF.2 av h
 | .block id x,m,k,F,G,H,Q,b6,aF,av,h=>by
  simp only[jH]at aF
  refine eH.gk (x:=x) aF (fun e az bC H1 f1 cb o=>?_) h
  cases e with
  | normal=>exact av _ _ _ _ f1 cb o
  | ret=>exact av _ _ _ _ f1 cb o
  | exit ht=>
   simp only[p2]at o⊢
   split
   ·rename_i ad;rw[if_pos ad]at o;exact av _ _ _ _ f1 cb o
   ·rename_i ad;rw[if_neg ad]at o;exact av _ _ _ _ f1 cb o
 | .loop lY bK x,m,k,F,G,H,Q,b6,aF,av,h=>by
  simp only[jH]at aF
  simp only[eH]at h⊢
  induction h with
  | round ak ae da aV=>
   rename_i Ny NA cx
   refine .round (fun az bC H1=>ak az bC H1/\(∀r,gG m r=false->az r=Ny r)/\∀r,gG k r=false->bC r=NA r) (eH.gk (x:=x) aF (fun e az bC H1 f1 cb o=>?_) ae) ?_
   ·cases e with
    | normal=>exact⟨o,f1,cb⟩
    | exit id=>exact av _ _ _ _ f1 cb o
    | ret=>exact av _ _ _ _ f1 cb o
   ·rintro az bC H1 ⟨o,f1,cb⟩
    exact aV az bC H1 o fun e bQ dq aY f2 iO=>av e bQ dq aY (fun r aj=>by rw[f2 r aj,f1 r aj]) (fun r aj=>by rw[iO r aj,cb r aj])
 | .box lY bK x,m,k,F,G,H,Q,b6,aF,av,h=>eH.gk (x:=x) aF av h
 | .ops l,m,k,F,G,H,Q,b6,aF,av,h=>dg.gk aF (fun az bC H1=>av _ az bC H1) h
 | .opsL l,m,k,F,G,H,Q,b6,aF,av,h=>dg.gk aF (fun az bC H1=>av _ az bC H1) h
theorem dg.mono:∀{l:List g6} {F G:Fr} {H:ab} {Q b6:Fr->Fr->ab->Prop},(∀F G H,Q F G H->b6 F G H)->dg P l F G H Q->dg P l F G H b6
 | [],F,G,H,Q,b6,av,h=>av _ _ _ h
 | i::l,F,G,H,Q,b6,av,h=>by
  have aV:∀{F G:Fr} {H:ab},dg P l F G H Q->dg P l F G H b6:=dg.mono av
  cases i<;>simp only[dg]at h⊢
  case xs aaN=>exact bd.mono (fun az H1=>aV) h
  case bY=>exact h.imp fun z aP=>aP.imp aV
  case cZ=>exact h.imp aV
  case bk=>exact h.imp (fun _ q=>q.imp aV) fun _=>aV
  case b3=>exact h.imp (fun _ q=>q.imp aV) fun _=>aV
  case aO=>exact h.imp (fun _ q=>q.imp fun q=>q.imp fun cs q=>q.imp fun a q=>q.imp (fun q=>q.imp fun n q=>q.imp aV) fun q=>q.imp fun v=>aV) fun _=>aV
  case cD=>exact h.imp (fun _ q=>q.imp aV) fun _=>aV
  case st=>exact h.imp (fun _ q=>q.imp fun q=>q.imp fun cs q=>q.imp aV) fun _=>aV
theorem eH.mono:∀{x:eG} {F G:Fr} {H:ab} {Q b6:dr->Fr->Fr->ab->Prop},(∀e F G H,Q e F G H->b6 e F G H)->eH P x F G H Q->eH P x F G H b6
 | .skip,F,G,H,Q,b6,av,h=>av _ _ _ _ h
 | .ret,F,G,H,Q,b6,av,h=>av _ _ _ _ h
 | .exit id,F,G,H,Q,b6,av,h=>av _ _ _ _ h
 | .seq x y,F,G,H,Q,b6,av,h=>by
  refine eH.mono (x:=x) (fun e az bC H1 o=>?_) h
  cases e with
  | normal=>exact eH.mono (x:=y) av o
  | exit id=>exact av _ _ _ _ o
  | ret=>exact av _ _ _ _ o
 | .cond c x y,F,G,H,Q,b6,av,h=>by
  simp only[eH]at h⊢
  cases ao:aq F c<;>rw[ao]at h<;>try exact h.elim
  rename_i b
  cases b with
  | true=>exact eH.mono (x:=x) av h
  | false=>exact eH.mono (x:=y) av h
 | .block id x,F,G,H,Q,b6,av,h=>by
  refine eH.mono (x:=x) (fun e az bC H1 o=>?_) h
  cases e with
  | normal=>exact av _ _ _ _ o
  | ret=>exact av _ _ _ _ o
  | exit ht=>
   simp only[p2]at o⊢
   split
   ·rename_i ad;rw[if_pos ad]at o;exact av _ _ _ _ o
   ·rename_i ad;rw[if_neg ad]at o;exact av _ _ _ _ o
 | .loop lY bK x,F,G,H,Q,b6,av,h=>by
  simp only[eH]at h⊢
  induction h with
  | round ak ae da aV=>
   refine .round ak (eH.mono (x:=x) (fun e az bC H1 o=>?_) ae) aV
   cases e with
   | normal=>exact o
   | exit id=>exact av _ _ _ _ o
   | ret=>exact av _ _ _ _ o
 | .box lY bK x,F,G,H,Q,b6,av,h=>eH.mono (x:=x) av h
 | .ops l,F,G,H,Q,b6,av,h=>dg.mono (fun az bC H1=>av _ az bC H1) h
 | .opsL l,F,G,H,Q,b6,av,h=>dg.mono (fun az bC H1=>av _ az bC H1) h
theorem rb:∀(z:eG) (F G:Fr) (H:ab) (a4:Nat->Option bA) (Q:dr->Fr->Fr->ab->Prop),j4 P C z=true->gq P C F G H a4->eH P z F G H Q->
  ei P z.back F (cl a4 H) fun e az H1=>∃bC aY eD,H1=cl eD aY/\gq P C az bC aY eD/\Q e az bC aY
 | .skip,F,G,H,a4,Q,ai,bl,h=>⟨G,H,a4,rfl,bl,h⟩
 | .ret,F,G,H,a4,Q,ai,bl,h=>⟨G,H,a4,rfl,bl,h⟩
 | .exit id,F,G,H,a4,Q,ai,bl,h=>⟨G,H,a4,rfl,bl,h⟩
 | .seq x y,F,G,H,a4,Q,ai,bl,h=>by
  simp only[j4,Bool.and_eq_true]at ai
  refine ei.mono (x:=x.back) (fun e az H1 ⟨bC,aY,eD,bp,gi,av⟩=>?_) (rb x F G H a4 _ ai.1 bl h)
  cases e with
  | normal=>rw[bp];exact rb y az bC aY eD Q ai.2 gi av
  | exit id=>exact⟨bC,aY,eD,bp,gi,av⟩
  | ret=>exact⟨bC,aY,eD,bp,gi,av⟩
 | .cond c x y,F,G,H,a4,Q,ai,bl,h=>by
  simp only[j4,Bool.and_eq_true]at ai
  simp only[eH]at h
  simp only[eG.back,ei]
  cases ao:aq F c<;>rw[ao]at h<;>try exact h.elim
  rename_i b
  cases b with
  | true=>exact rb x F G H a4 Q ai.1 bl h
  | false=>exact rb y F G H a4 Q ai.2 bl h
 | .block id x,F,G,H,a4,Q,ai,bl,h=>by
  simp only[j4]at ai
  refine ei.mono (x:=x.back) (fun e az H1 ⟨bC,aY,eD,bp,gi,av⟩=>?_) (rb x F G H a4 _ ai bl h)
  cases e with
  | normal=>exact⟨bC,aY,eD,bp,gi,av⟩
  | exit ht=>
   simp only[p2]at av
   simp only[oS]
   split
   ·rename_i ad;rw[if_pos ad]at av;exact⟨bC,aY,eD,bp,gi,av⟩
   ·rename_i ad;rw[if_neg ad]at av;exact⟨bC,aY,eD,bp,gi,av⟩
  | ret=>exact⟨bC,aY,eD,bp,gi,av⟩
 | .loop m k x,F,G,H,a4,Q,ai,bl,h=>by
  simp only[j4,Bool.and_eq_true]at ai
  simp only[eH]at h
  simp only[eG.back,ei]
  induction h generalizing a4 with
  | round ak ae da aV=>
   refine .round (fun az H1=>∃bC aY eD,H1=cl eD aY/\gq P C az bC aY eD/\ak az bC aY) (ei.mono (x:=x.back) (fun e az H1 ⟨bC,aY,eD,bp,gi,av⟩=>?_) (rb x _ _ _ a4 _ ai.2 bl ae)) ?_
   ·rintro az H1 ⟨bC,aY,eD,bp,gi,av⟩
    rw[bp]
    exact aV az bC aY av eD gi
   ·cases e with
    | normal=>exact⟨bC,aY,eD,bp,gi,av⟩
    | exit id=>exact⟨bC,aY,eD,bp,gi,av⟩
    | ret=>exact⟨bC,aY,eD,bp,gi,av⟩
 | .box m k x,F,G,H,a4,Q,ai,bl,h=>by
  simp only[j4,Bool.and_eq_true]at ai
  exact rb x F G H a4 Q ai.2 bl h
 | .ops l,F,G,H,a4,Q,ai,bl,h=>lx l [] F G H a4 _ ai bl (hV.nil F) h
 | .opsL l,F,G,H,a4,Q,ai,bl,h=>by
  simp only[j4,Bool.and_eq_true]at ai
  exact mZ l [] [] [] [] [] F G H a4 _ ai.1 ai.2 (fun b ae=>by simp at ae) (fun b ae=>by simp at ae) bl (hV.nil F) h
theorem Ba{F G:Fr}{H:ab}{a4:Nat->Option bA}(bl:gq P C F G H a4):∀(rs:List jh) (K:List Value->Prop),sP C rs=true->nV F G rs K->jG P F (cl a4 H) (rs.map jh.back) K
 | [],K,ai,h=>h
 | .tmp i::rs,K,ai,h=>Ba bl rs _ (by simpa[sP]using ai) h
 | .cell a ty::rs,K,ai,h=>by
  simp only[sP,List.all_cons,Bool.and_eq_true,beq_iff_eq]at ai
  obtain⟨aT,h⟩:=h
  obtain⟨b,dp,hd,⟨a5,hK,cc⟩,gK,iI⟩:=bl.at ai.1 aT
  have aV:=Ba bl rs (fun aA=>K (G a::aA)) (by simpa[sP]using ai.2) h
  simp only[List.map_cons,jh.back,jG,dp]
  have ag:h5 (cl a4 H) b=some (G a).cells.toList:=by unfold h5;rw[gK];rfl
  rw[ag]
  simp only
  split at cc
  ·rename_i aF
   rw[cc]
   simp only[a5]
   refine⟨by simp,?_⟩
   have:(((G a).cells.toList.drop 0).take (G a).cells.size)=(G a).cells.toList:=by rw[List.drop_zero,List.take_of_length_le (by simp)]
   rw[this]
   simp only[Array.toArray_toList]
   rw[<-s5 aF]
   exact aV
  ·rw[cc.1]
   simp only
   rw[cc.2]
   exact aV
def k4(a4:Nat->Option bA)(n:Nat):Nat->Option bA:=fun b=>if b<n then none else a4 b
theorem KU{f:FuncId}{args:List Value}{v:Value}{H H1:ab}{a4:Nat->Option bA}(ax:Fit a4 H1)(h:dK P (.call f args H) (.val v (cl a4 H1))):∀n,dK P (.call f args H) (.val v (cl (k4 a4 n) H1))
 | 0=>by
  have:k4 a4 0=a4:=by funext b;simp[k4]
  rw[this];exact h
 | n+1=>by
  have aV:=KU ax h n
  cases aT:a4 n with
  | none=>
   have:k4 a4 (n+1)=k4 a4 n:=by
    funext b
    unfold k4
    by_cases ae:b=n
    ·subst ae;simp[aT]
    ·by_cases a3:b<n
     ·rw[if_pos (by omega),if_pos a3]
     ·rw[if_neg (by omega),if_neg a3]
   rw[this];exact aV
  | some x=>
   obtain⟨aL,e,l,cs,I⟩:=ax n x aT
   have a3:=ax.lt aT
   have la:(cl (k4 a4 n) H1)[n]?=some (.own e l cs):=by
    rw[km,aL]
    simp[k4,aT,I]
   have aa:=dK.yp aV ⟨e,l,cs,la⟩
   have:(cl (k4 a4 n) H1).set n .dead=cl (k4 a4 (n+1)) H1:=by
    apply List.ext_getElem?
    intro b
    by_cases ae:n=b
    ·subst ae
     rw[List.getElem?_set_self (by rw[jB];exact a3),km,aL]
     simp[k4]
    ·rw[List.getElem?_set_ne ae,km,km]
     congr 1
     funext y
     unfold k4
     by_cases ar:b<n
     ·rw[if_pos ar,if_pos (by omega)]
     ·rw[if_neg ar,if_neg (by omega)]
   rw[<-this];exact aa
theorem Ot{H1:ab}{a4:Nat->Option bA}(ax:Fit a4 H1):cl (k4 a4 H1.length) H1=H1:=by
 apply List.ext_getElem?
 intro b
 rw[km]
 by_cases ae:b<H1.length
 ·simp[k4,ae]
 ·rw[List.getElem?_eq_none (by omega)];rfl
theorem a0.abx{f:FuncId}{fn:Func}{z:dn}{args:List Value}{H:ab}{Q:Value->ab->Prop}(ax:P.funcs[f]?=some fn)(aE:(fn.name== "runtime.NumGoroutine")=false)(ag:comp P fn=some z.back)(aP:(j4 P C z.code&&sP C z.results)=true)
  (ar:args.length<=fn.ntmps)(n1:(C.all fun p=>decide (args.length<=p.1))=true)(h:eH P z.code (iM args) (fun _=>undef) H (xE z.results Q)):a0 P f args H Q:=by
 simp only[Bool.and_eq_true]at aP
 have zx:cl (fun _=>none) H=H:=by
  apply List.ext_getElem?
  intro b
  rw[km]
  cases H[b]?<;>rfl
 have bl:gq P C (iM args) (fun _=>undef) H (fun _=>none):=by
  have hu:∀r e,C.lookup r=some e->iM args r=undef:=fun r e aj=>by
   have:=of_decide_eq_true (List.all_eq_true.1 n1 _ (Ea aj))
   simp only at this
   unfold iM
   rw[List.getD_eq_getElem?_getD,List.getElem?_eq_none this]
   rfl
  exact⟨fun b x ae=>(by cases ae),fun r e aj=> .inl (hu r e aj),fun r di e cI b aj fq cF a2=>by rw[hu r e aj]at a2;cases a2⟩
 have I:=rb z.code _ _ _ _ _ aP.1 bl h
 rw[zx]at I
 obtain⟨v,H1,o,aa,aD⟩:=a0.KP (Q:=fun v H1=>∃eD aY,H1=cl eD aY/\Fit eD aY/\Q v aY) ax aE ag ar (ei.mono (x:=z.code.back) (fun e az H1 ⟨bC,aY,eD,bp,gi,av⟩=>by
  cases e with
  | normal=>
   rw[bp]
   simp only[pH]
   refine Ba gi _ _ aP.2 ?_
   have:∀(rs:List jh) (K dY:List Value->Prop),(∀aA,K aA->dY aA)->nV az bC rs K->nV az bC rs dY:=by
    intro rs
    induction rs with
    | nil=>intro K dY ai h;exact ai _ h
    | cons r rs aV=>
     intro K dY ai h
     cases r with
     | tmp i=>exact aV _ _ (fun aA=>ai _) h
     | cell a ty=>exact⟨h.1,aV _ _ (fun aA=>ai _) h.2⟩
   exact this _ _ _ (fun aA ao=>⟨eD,aY,rfl,gi.fit,ao⟩) av
  | exit id=>exact av
  | ret=>
   rw[bp]
   simp only[pH]
   refine Ba gi _ _ aP.2 ?_
   have:∀(rs:List jh) (K dY:List Value->Prop),(∀aA,K aA->dY aA)->nV az bC rs K->nV az bC rs dY:=by
    intro rs
    induction rs with
    | nil=>intro K dY ai h;exact ai _ h
    | cons r rs aV=>
     intro K dY ai h
     cases r with
     | tmp i=>exact aV _ _ (fun aA=>ai _) h
     | cell a ty=>exact⟨h.1,aV _ _ (fun aA=>ai _) h.2⟩
   exact this _ _ _ (fun aA ao=>⟨eD,aY,rfl,gi.fit,ao⟩) av) I)
 obtain⟨eD,aY,rfl,bq,aG⟩:=aD
 have:=KU bq aa aY.length
 rw[Ot bq]at this
 exact⟨v,aY,.inl ⟨o,this⟩,aG⟩
end
def ed(P:Program)(l:List g6)(Q:Fr->Fr->ab->Prop)(aw:a_ l Q)(F G:Fr)(H:ab):Prop:=dg P l F G H Q
def bV(P:Program)(x:eG)(Q:dr->Fr->Fr->ab->Prop)(aw:a_ x Q)(F G:Fr)(H:ab):Prop:=eH P x F G H Q
def rn(rs:List jh)(K:List Value->Prop)(aw:a_ rs K)(F G:Fr):Prop:=nV F G rs K
def dy(P:Program)(m k:Nat)(x:eG)(Q:dr->Fr->Fr->ab->Prop)(aw:a_ x Q)(F G:Fr)(H:ab):Prop:=vd (eH P x) Q F G H
def ev(P:Program)(e:Nat)(K:Prop)(aw:a_ K K)(v:Value):Prop:=ga (Whole P e v) K
theorem ev.mk{P:Program}{e:Nat}{K:Prop}{aw:a_ K K}{v:Value}(h:Whole P e v)(ai:K):ev P e K aw v:=⟨h,ai⟩
section
variable {P:Program} {F G:Fr} {H:ab}
@[simp] theorem abU{e:Nat}{K:Prop}(aw:a_ K K)(cs:Array Value):ev P e K aw (.agg cs)=df K .mk (c_ P e=some true/\bn P e=some cs.size/\(cs.toList.all (·.oneCell'))=true):=by
 apply propext
 constructor
 ·rintro⟨⟨o,aa,aD⟩,ai⟩;exact⟨⟨by simpa[eB]using aD,o,aa⟩,ai⟩
 ·rintro⟨⟨o,aa,aD⟩,ai⟩;exact⟨⟨aa,aD,by simpa[eB]using o⟩,ai⟩
variable {r:List g6} {Q:Fr->Fr->ab->Prop}
@[simp] theorem ZT(aw:a_ ([]:List g6) Q):ed P [] Q aw F G H=Q F G H:=rfl
@[simp] theorem ZU(l:List br)(aw:a_ (.xs l::r) Q):ed P (.xs l::r) Q aw F G H=a8 P l (fun az H1=>ed P r Q .mk az G H1) .mk F H:=rfl
theorem uY{c e:Nat}{z:Value}(aP:dv P e=some z)(dt:flat z=true)(hw:Whole P e z)(aw:a_ (.bY c e::r) Q):ed P (.bY c e::r) Q aw F G H=ed P r Q .mk (aX F c (.pointer (some ⟨H.length,0,none⟩))) (aX G c z) (H++[.dead]):=by
 simp[ed,dg,aP,eI,ga,dt,hw]
@[simp] theorem afD(c e:Nat)(y:Operand)(aw:a_ (.cZ c e y::r) Q):ed P (.cZ c e y::r) Q aw F G H=ev P e (ed P r Q .mk (aX F c (.pointer (some ⟨H.length,0,none⟩))) (aX G c (aq F y)) (H++[.dead])) .mk (aq F y):=rfl
@[simp] theorem afE(d s x f c off:Nat)(aw:a_ (.bk none d s x f c off::r) Q):ed P (.bk none d s x f c off::r) Q aw F G H=df (ed P r Q .mk (aX F d (oy (F c) off)) G H) .mk (jx (F c)=true):=rfl
@[simp] theorem afF(j:Nat)(w:Bool)(d s x f c off:Nat)(aw:a_ (.bk (some (j,w)) d s x f c off::r) Q):ed P (.bk (some (j,w)) d s x f c off::r) Q aw F G H=nO (ed P (.bk none d s x f c off::r) Q .mk F G H) (ed P r Q .mk (aX F d undef) G H) .mk (gR (F j)) w:=rfl
@[simp] theorem afI(d t x c:Nat)(aw:a_ (.b3 none d t x c::r) Q):ed P (.b3 none d t x c::r) Q aw F G H=df (ed P r Q .mk (aX F d (G c)) G H) .mk (jx (F c)=true):=rfl
@[simp] theorem afJ(j:Nat)(w:Bool)(d t x c:Nat)(aw:a_ (.b3 (some (j,w)) d t x c::r) Q):ed P (.b3 (some (j,w)) d t x c::r) Q aw F G H=nO (ed P (.b3 none d t x c::r) Q .mk F G H) (ed P r Q .mk (aX F d undef) G H) .mk (gR (F j)) w:=rfl
@[simp] theorem afG(d t x c off:Nat)(aw:a_ (.aO none d t x c off::r) Q):ed P (.aO none d t x c off::r) Q aw F G H=df (yc (fun cs=>gb (fun a=>bG (gb (fun n=>df (ed P r Q .mk (aX F d (.agg ((cs.toList.drop off).take n).toArray)) G H) .mk (off+n<=cs.size)) .mk (bn P t)) (gb (fun v=>ed P r Q .mk (aX F d v) G H) .mk cs.toList[off]?) .mk a) .mk (c_ P t)) .mk (G c)) .mk (jx (F c)=true):=rfl
@[simp] theorem afH(j:Nat)(w:Bool)(d t x c off:Nat)(aw:a_ (.aO (some (j,w)) d t x c off::r) Q):ed P (.aO (some (j,w)) d t x c off::r) Q aw F G H=nO (ed P (.aO none d t x c off::r) Q .mk F G H) (ed P r Q .mk (aX F d undef) G H) .mk (gR (F j)) w:=rfl
@[simp] theorem afM(b:Bool)(t x c:Nat)(y:Operand)(aw:a_ (.cD b none t x y c::r) Q):ed P (.cD b none t x y c::r) Q aw F G H=df (ev P t (ed P r Q .mk F (aX G c (aq F y)) H) .mk (aq F y)) .mk (jx (F c)=true):=by
 simp[ed,dg,mi,df,ev,ga,and_assoc]
@[simp] theorem afN(b:Bool)(j:Nat)(w:Bool)(t x c:Nat)(y:Operand)(aw:a_ (.cD b (some (j,w)) t x y c::r) Q):ed P (.cD b (some (j,w)) t x y c::r) Q aw F G H=nO (ed P (.cD b none t x y c::r) Q .mk F G H) (ed P r Q .mk F G H) .mk (gR (F j)) w:=rfl
@[simp] theorem afK(b:Bool)(t x c off:Nat)(y:Operand)(aw:a_ (.st b none t x y c off::r) Q):ed P (.st b none t x y c off::r) Q aw F G H=df (yc (fun cs=>df (ed P r Q .mk F (aX G c (.agg (lr cs.toList off (aq F y).cells.toList).toArray)) H) .mk (bn P t=some (aq F y).cells.size/\off+(aq F y).cells.size<=cs.size/\((aq F y).cells.toList.all (·.oneCell'))=true)) .mk (G c)) .mk (jx (F c)=true):=rfl
@[simp] theorem afL(b:Bool)(j:Nat)(w:Bool)(t x c off:Nat)(y:Operand)(aw:a_ (.st b (some (j,w)) t x y c off::r) Q):ed P (.st b (some (j,w)) t x y c off::r) Q aw F G H=nO (ed P (.st b none t x y c off::r) Q .mk F G H) (ed P r Q .mk F G H) .mk (gR (F j)) w:=rfl
end
def mix(m:Nat)(F az:Fr):Fr:=fun r=>if(m>>>r) % 2=1 then az r else F r
@[simp] theorem jY(m:Nat)(F az:Fr)(r:Nat):mix m F az r=if(m>>>r) % 2=1 then az r else F r:=rfl
theorem qN{m:Nat}{F az:Fr}(h:∀r,gG m r=false->az r=F r):az=mix m F az:=by
 funext r
 simp only[mix]
 split
 ·rfl
 ·rename_i aj;exact h r (by simpa[gG]using aj)
section
variable {P:Program} {F G:Fr} {H:ab} {Q:dr->Fr->Fr->ab->Prop}
@[simp] theorem Z0(aw:a_ (eG.skip) Q):bV P .skip Q aw F G H=Q .normal F G H:=rfl
@[simp] theorem afS(aw:a_ (eG.ret) Q):bV P .ret Q aw F G H=Q .ret F G H:=rfl
@[simp] theorem ZX(id:Nat)(aw:a_ (eG.exit id) Q):bV P (.exit id) Q aw F G H=Q (.exit id) F G H:=rfl
@[simp] theorem kp(x y:eG)(aw:a_ (eG.seq x y) Q):bV P (.seq x y) Q aw F G H=bV P x (l3 (fun az bC H1=>bV P y Q .mk az bC H1) Q) .mk F G H:=rfl
@[simp] theorem ZW(c:Operand)(x y:eG)(aw:a_ (eG.cond c x y) Q):bV P (.cond c x y) Q aw F G H=yb (fun b=>bG (bV P x Q .mk F G H) (bV P y Q .mk F G H) .mk b) .mk (aq F c):=rfl
@[simp] theorem ZV(id:Nat)(x:eG)(aw:a_ (eG.block id x) Q):bV P (.block id x) Q aw F G H=bV P x (p2 id Q) .mk F G H:=rfl
@[simp] theorem ZY(m k:Nat)(x:eG)(aw:a_ (eG.loop m k x) Q):bV P (.loop m k x) Q aw F G H=dy P m k x Q .mk F G H:=rfl
@[simp] theorem ZZ(l:List g6)(aw:a_ (eG.ops l) Q):bV P (.ops l) Q aw F G H=ed P l (fun az bC H1=>Q .normal az bC H1) .mk F G H:=rfl
@[simp] theorem afR(l:List g6)(aw:a_ (eG.opsL l) Q):bV P (.opsL l) Q aw F G H=ed P l (fun az bC H1=>Q .normal az bC H1) .mk F G H:=rfl
@[simp] theorem afP{K:List Value->Prop}(aw:a_ ([]:List jh) K):rn [] K aw F G=K []:=rfl
@[simp] theorem afQ{K:List Value->Prop}(i:Nat)(rs:List jh)(aw:a_ (.tmp i::rs) K):rn (.tmp i::rs) K aw F G=rn rs (fun aA=>K (F i::aA)) .mk F G:=rfl
@[simp] theorem afO{K:List Value->Prop}(a ty:Nat)(rs:List jh)(aw:a_ (.cell a ty::rs) K):rn (.cell a ty::rs) K aw F G=df (rn rs (fun aA=>K (G a::aA)) .mk F G) .mk (jx (F a)=true):=rfl
@[simp] theorem afd{rs:List jh}{af:Value->ab->Prop}:xE rs af .normal F G H=rn rs (fun aA=>af (bj aA) H) .mk F G:=rfl
@[simp] theorem afe{rs:List jh}{af:Value->ab->Prop}:xE rs af .ret F G H=rn rs (fun aA=>af (bj aA) H) .mk F G:=rfl
@[simp] theorem Mg{K:Fr->Fr->ab->Prop}:l3 K Q .normal F G H=K F G H:=rfl
@[simp] theorem ae3{K:Fr->Fr->ab->Prop}:l3 K Q .ret F G H=Q .ret F G H:=rfl
@[simp] theorem Xo{K:Fr->Fr->ab->Prop}(id:Nat):l3 K Q (.exit id) F G H=Q (.exit id) F G H:=rfl
@[simp] theorem acx(id:Nat):p2 id Q .normal F G H=Q .normal F G H:=rfl
@[simp] theorem acy(id:Nat):p2 id Q .ret F G H=Q .ret F G H:=rfl
@[simp] theorem acw(id ht:Nat):p2 id Q (.exit ht) F G H=if ht=id then Q .normal F G H else Q (.exit ht) F G H:=rfl
theorem dy.mk{m k:Nat}{x:eG}{aw:a_ x Q}(aF:jH m k x=true)(ak:Nat->Fr->Fr->ab->Prop)(n:Nat)(aH:ak n F G H)
  (round:∀n az bC H1,ak n (mix m F az) (mix k G bC) H1->∀K:Fr->Fr->ab->Prop,(∀dI bQ dq aY,dI<n->ak dI bQ dq aY->K bQ dq aY)->bV P x (l3 K Q) .mk (mix m F az) (mix k G bC) H1):dy P m k x Q aw F G H:=by
 have main:∀n az bC H1,(∀r,gG m r=false->az r=F r)->(∀r,gG k r=false->bC r=G r)->ak n az bC H1->vd (eH P x) Q az bC H1:=by
  intro n
  induction n using Nat.strongRecOn with
  | _ n aV=>
   intro az bC H1 a2 gr da
   have aj:eH P x az bC H1 (l3 (fun bQ dq aY=>∃dI,dI<n/\ak dI bQ dq aY) Q):=by
    have:=round n az bC H1 (by rw[<-qN a2,<-qN gr];exact da) (fun bQ dq aY=>∃dI,dI<n/\ak dI bQ dq aY) fun dI bQ dq aY o aa=>⟨dI,o,aa⟩
    rw[<-qN a2,<-qN gr]at this
    exact this
   refine .round (fun bQ dq aY=>(∃dI,dI<n/\ak dI bQ dq aY)/\(∀r,gG m r=false->bQ r=az r)/\∀r,gG k r=false->dq r=bC r) (eH.gk (x:=x) aF (fun e bQ dq aY f2 iO aa=>?_) aj) ?_
   ·cases e with
    | normal=>exact⟨aa,f2,iO⟩
    | exit id=>exact aa
    | ret=>exact aa
   ·rintro bQ dq aY ⟨⟨dI,o,aa⟩,f2,iO⟩
    exact aV dI o bQ dq aY (fun r aj=>by rw[f2 r aj,a2 r aj]) (fun r aj=>by rw[iO r aj,gr r aj]) aa
 exact main n F G H (fun _ _=>rfl) (fun _ _=>rfl) aH
def NI(af:Fr->Fr->ab->Prop):dr->Fr->Fr->ab->Prop
 | .normal,F,G,H=>af F G H
 | _,_,_,_=>False
@[simp] theorem abN(af:Fr->Fr->ab->Prop):NI af .normal F G H=af F G H:=rfl
theorem uZ(m k:Nat)(x:eG)(aw:a_ (eG.box m k x) Q):bV P (.box m k x) Q aw F G H=bV P x Q .mk F G H:=rfl
theorem bV.join{m k:Nat}{x:eG}{K:Fr->Fr->ab->Prop}{aw:a_ (eG.box m k x) (l3 K Q)}(aF:jH m k x=true)(af:Fr->Fr->ab->Prop)(o:∀dY:dr->Fr->Fr->ab->Prop,(∀az bC H1,af az bC H1->dY .normal az bC H1)->(∀e az bC H1,e≠ .normal->Q e az bC H1->dY e az bC H1)->bV P x dY .mk F G H)
  (aa:∀az bC H1,af (mix m F az) (mix k G bC) H1->K (mix m F az) (mix k G bC) H1):bV P (.box m k x) (l3 K Q) aw F G H:=by
 refine eH.gk (x:=x) aF (fun e az bC H1 f1 cb h=>?_) (o (l3 af Q) (fun _ _ _ h=>h) (fun e az bC H1 he h=>by
  cases e with
  | normal=>exact absurd rfl he
  | exit id=>exact h
  | ret=>exact h))
 cases e with
 | normal=>
  have:=aa az bC H1 (by rw[<-qN f1,<-qN cb];exact h)
  rw[<-qN f1,<-qN cb]at this
  exact this
 | exit id=>exact h
 | ret=>exact h
theorem a0.aby{f:FuncId}{fn:Func}{z:dn}{C:Cells}{args:List Value}{af:Value->ab->Prop}(ax:P.funcs[f]?=some fn)(aE:(fn.name== "runtime.NumGoroutine")=false)(ag:comp P fn=some z.back)(aP:(j4 P C z.code&&sP C z.results)=true)
  (ar:args.length<=fn.ntmps)(n1:(C.all fun p=>decide (args.length<=p.1))=true)(h:bV P z.code (xE z.results af) .mk (iM args) (fun _=>undef) H):a0 P f args H af:=a0.abx ax aE ag aP ar n1 h
end
theorem Oa{C:Cells}{args:List Value}{n:Nat}(ar:args.length<=n)(h:(C.all fun p=>decide (n<=p.1))=true):(C.all fun p=>decide (args.length<=p.1))=true:=by
 rw[List.all_eq_true]at h⊢
 intro p aT
 have:=of_decide_eq_true (h p aT)
 exact decide_eq_true (Nat.le_trans ar this)
theorem Ext.dead(H:ab):Ext H (H++[.dead]):=⟨[.dead],rfl,fun x I e cs=>by simp at I;subst I;simp⟩
def Kept(H aC:ab)(s:Value)(e:Nat):Prop:=∀b X,H[b]?=some X->(inBlock s b->X.elem?≠some e)->aC[b]?=some X
theorem ec.kept{H aC:ab}{e cI J n:Nat}{s v:Value}{cs:List Value}(h:ec H cI J v n cs)(ai:Kept H aC s e)(cF:cI≠e):ec aC cI J v n cs:=by
 obtain⟨a,cap,ao,o,aa,aD⟩:=h
 refine⟨a,cap,ao,o,aa,fun ag=>?_⟩
 obtain⟨b,i,X,all,aS,aM,bh,b0,ey⟩:=aD ag
 exact⟨b,i,X,all,aS,ai b X aM (fun _ h=>cF (by rw[b0]at h;exact Option.some.inj h)),bh,b0,ey⟩
def ea(ay:Bool)(J:Nat)(cs:List Value)(i:Nat):Value:=if ay=true then .agg ((cs.drop (i*J)).take J).toArray else cs[i]?.getD undef
class bM {α:Type} (af:ab->Value->α->Prop):Prop where
 ext:∀{H H1:ab} {v:Value} {x:α},af H v x->Ext H H1->af H1 v x
def Row{α:Type}(e J:Nat)(ay:Bool)(af:ab->Value->α->Prop)(H:ab)(v:Value)(xs:List α):Prop:=∃cs,ec H e J v xs.length cs/\∀i x,xs[i]?=some x->af H (ea ay J cs i) x
def bz{α:Type}(k e J:Nat)(ay:Bool)(af:ab->Value->α->Prop)(H:ab)(v:Value)(xs:List α):Prop:=∃cs,hL H k e J v xs.length cs/\∀i x,xs[i]?=some x->af H (ea ay J cs i) x
section
variable {α:Type} {e J k:Nat} {ay:Bool} {af:ab->Value->α->Prop} {H H1:ab} {v:Value} {xs:List α}
instance[bM af]:bM (Row e J ay af):=⟨fun⟨cs,o,aa⟩ I=>⟨cs,o.ext I,fun i x ad=>bM.ext (aa i x ad) I⟩⟩
instance[bM af]:bM (bz k e J ay af):=⟨fun⟨cs,o,aa⟩ I=>⟨cs,o.ext I,fun i x ad=>bM.ext (aa i x ad) I⟩⟩
theorem bz.row(h:bz k e J ay af H v xs):Row e J ay af H v xs:=let⟨cs,o,aa⟩:=h;⟨cs,o.gm,aa⟩
theorem Row.len(h:Row e J ay af H v xs):∃a c,v= .slice a xs.length c:=let⟨cs,o,aa⟩:=h;o.len
theorem bz.len(h:bz k e J ay af H v xs):∃a c,v= .slice a xs.length c:=h.row.len
theorem Row.nil(e J:Nat)(ay:Bool)(af:ab->Value->α->Prop)(H:ab):Row e J ay af H (.slice none 0 0) []:=⟨[],ec.nil H e J,fun i x h=>by simp at h⟩
theorem bz.nil(k e J:Nat)(ay:Bool)(af:ab->Value->α->Prop)(H:ab):bz k e J ay af H (.slice none 0 0) []:=⟨[],hL.nil H k e J,fun i x h=>by simp at h⟩
theorem bz.void(k e J i:Nat)(ay:Bool)(af:ab->Value->α->Prop)(H:ab):bz k e J ay af H (.slice (some ⟨0,i,none⟩) 0 0) []:=⟨[],hL.void H k e J i,fun i x h=>by simp at h⟩
theorem Row.kept{s:Value}{cI:Nat}(h:Row e J ay af H v xs)(ai:Kept H H1 s cI)(cF:e≠cI)(bl:∀u x,af H u x->af H1 u x):Row e J ay af H1 v xs:=let⟨cs,o,aa⟩:=h;⟨cs,o.kept ai cF,fun i x ad=>bl _ _ (aa i x ad)⟩
theorem Row.at(h:Row e J ay af H v xs){i:Nat}{x:α}(ad:xs[i]?=some x):∃b U cap X all,v= .slice (some ⟨b,U,none⟩) xs.length cap/\H[b]?=some X/\X.cells?=some all/\U+i*J+J<=all.length/\
  af H (if ay=true then .agg ((all.drop (U+i*J)).take J).toArray else((all.drop (U+i*J)).take J)[0]?.getD undef) x\/(ay=false/\J≠1):=by
 by_cases an:ay=false/\J≠1
 ·exact⟨0,0,0,.dead,[],.inr an⟩
 obtain⟨cs,o,aa⟩:=h
 have ar:i<xs.length:=(cd.1 ad).1
 obtain⟨a,cap,ao,aD,bD,b2⟩:=o
 obtain⟨b,U,X,all,rfl,aM,bh,b0,ey,gl⟩:=b2 (by omega)
 have hle:(i+1)*J<=xs.length*J:=Nat.mul_le_mul_right _ ar
 rw[Nat.succ_mul]at hle
 refine⟨b,U,cap,X,all,.inl ⟨ao,aM,bh,by omega,?_⟩⟩
 have I:=aa i x ad
 unfold ea at I
 have ag:(cs.drop (i*J)).take J=(all.drop (U+i*J)).take J:=by
  rw[gl,List.drop_take,List.drop_drop,List.take_take,Nat.min_eq_left (by omega)]
 cases ay with
 | true=>simp only[if_true]at I⊢;rw[<-ag];exact I
 | false=>
  have fy:J=1:=by
   by_cases h:J=1
   ·exact h
   ·exact absurd ⟨rfl,h⟩ an
  subst fy
  simp only[Bool.false_eq_true,if_false]at I⊢
  rw[<-ag]
  simpa[List.getElem?_take,List.getElem?_drop]using I
end
section
variable {P:Program} {r:List br} {F:Fr} {H:ab} {Q:Fr->ab->Prop} {α:Type}
theorem cK{d t d2 e J n:Nat}{ay:Bool}{x i:Operand}{af:ab->Value->α->Prop}{xs:List α}{a:α}{aw:a_ (bb d t x i::aO d2 e (T d)::r) Q}(bl:Row e J ay af H (aq F x) xs)(ad:aq F i= .int .i64 (n:Int))(aF:xs[n]?=some a)
  (bt:eO P t=some e)(an:bn P e=some J)(dM:c_ P e=some ay)(o:ay=true\/J=1)(K:∀p u,af H u a->a8 P r Q .mk (aX (aX F d p) d2 u) H):a8 P (bb d t x i::aO d2 e (T d)::r) Q aw F H:=by
 have ar:n<xs.length:=(cd.1 aF).1
 obtain⟨b,U,cap,X,all,⟨ao,aR,ag,bq,hu⟩ | ⟨aS,aM⟩⟩:=bl.at aF
 ·rw[fJ,ao,ad,oO,m9,bt,eY,an,eY,oM]
  refine df.mk ⟨by omega,by omega⟩ ?_
  rw[uW]
  simp only[kD,hJ,mf,aR,Option.bind_some,ag,eY,dM,Int.toNat_natCast]
  cases ay with
  | true=>
   rw[Nw,an,eY]
   refine df.mk bq ?_
   exact K _ _ hu
  | false=>
   rw[sQ]
   have fy:J=1:=by rcases o with h | h;cases h;exact h
   subst fy
   have a3:U+n*1<all.length:=by omega
   rw[bx a3,eY]
   refine K _ _ ?_
   simp only[Bool.false_eq_true,if_false]at hu
   rw[List.getElem?_take_of_lt (by omega),List.getElem?_drop,Nat.add_zero,bx a3]at hu
   exact hu
 ·rcases o with h | h
  ·rw[h]at aS;cases aS
  ·exact absurd h aM
theorem uV{j:Nat}{w:Bool}{x:br}{aw:a_ (aN j w x::r) Q}(h:gR (F j)=some w)(K:a8 P (hz x::r) Q .mk F H):a8 P (aN j w x::r) Q aw F H:=by
 rw[Yb]
 show m2 _ _ _ _
 unfold m2
 rw[if_pos h]
 exact K
theorem mV{j d t d2 e J n:Nat}{w:Bool}{ay:Bool}{x i:Operand}{af:ab->Value->α->Prop}{xs:List α}{a:α}{aw:a_ (bb d t x i::aN j w (aO d2 e (T d))::r) Q}(aU:gR (F j)=some w)(lM:j≠d)(bl:Row e J ay af H (aq F x) xs)(ad:aq F i= .int .i64 (n:Int))(aF:xs[n]?=some a)
  (bt:eO P t=some e)(an:bn P e=some J)(dM:c_ P e=some ay)(o:ay=true\/J=1)(K:∀p u,af H u a->a8 P r Q .mk (aX (aX F d p) d2 u) H):a8 P (bb d t x i::aN j w (aO d2 e (T d))::r) Q aw F H:=by
 have aH:a8 P (bb d t x i::aO d2 e (T d)::r) Q .mk F H:=cK bl ad aF bt an dM o K
 rw[fJ]at aH⊢
 revert aH
 simp only[Bj,yd,pY,oN,gb,Bi,x_,df,ga,eI]
 cases aq F x<;>try exact id
 cases aq F i<;>try exact id
 simp only
 cases eO P t<;>try exact id
 simp only
 rename_i Ph
 cases bn P Ph<;>try exact id
 simp only
 split
 ·rintro⟨o,aa⟩
  exact⟨o,uV (by rw[gY _ _ lM];exact aU) aa⟩
 ·exact id
theorem cY{d t e J:Nat}{ay:Bool}{x:Operand}{af:ab->Value->α->Prop}{xs:List α}{aw:a_ (bB d t x::r) Q}(bl:Row e J ay af H (aq F x) xs)(bt:eO P t=some e)(K:a8 P r Q .mk (aX F d (.int .i64 xs.length)) H):a8 P (bB d t x::r) Q aw F H:=by
 obtain⟨a,c,ao⟩:=bl.len
 rw[gN,ao,Vx,bt]
 exact K
theorem rB{ay:Bool}{J i n:Nat}{cs fB:List Value}(ar:cs.length=n*J)(ad:i<n)(o:ay=true\/J=1):ea ay J (cs++fB) i=ea ay J cs i:=by
 unfold ea
 have hle:(i+1)*J<=n*J:=Nat.mul_le_mul_right _ ad
 rw[Nat.succ_mul]at hle
 cases ay with
 | true=>
  simp only[if_true]
  rw[List.drop_append_of_le_length (by omega),List.take_append_of_le_length (by simp;omega)]
 | false=>
  have fy:J=1:=by rcases o with h | h;cases h;exact h
  subst fy
  simp only[Bool.false_eq_true,if_false]
  rw[List.getElem?_append_left (by omega)]
theorem BR{P:Program}{e:Nat}{ay:Bool}{J n:Nat}{cs:List Value}{u:Value}(ar:cs.length=n*J)(hw:Whole P e u)(an:bn P e=some J)(dM:c_ P e=some ay):ea ay J (cs++u.cells.toList) n=u:=by
 obtain⟨a5,hK,cc⟩:=hw
 have c0:u.cells.size=J:=by rw[an]at a5;exact(Option.some.inj a5).symm
 unfold ea
 cases ay with
 | true=>
  simp only[if_true]
  have aF:eB u=true:=by
   cases av:eB u with
   | true=>rfl
   | false=>rw[av]at cc;simp at cc;rw[cc.1]at dM;cases dM
  rw[<-ar,List.drop_append_of_le_length (Nat.le_refl _),List.drop_length,List.nil_append,List.take_of_length_le (by simp;omega),Array.toArray_toList]
  exact(s5 aF).symm
 | false=>
  simp only[Bool.false_eq_true,if_false]
  have aF:eB u=false:=by
   cases av:eB u with
   | false=>rfl
   | true=>rw[av]at cc;simp at cc;rw[cc]at dM;cases dM
  rw[aF]at cc
  simp at cc
  have o:J=1:=by rw[<-c0,cc.2];rfl
  subst o
  rw[List.getElem?_append_right (by omega),cc.2]
  have:n-cs.length=0:=by omega
  simp[this]
theorem q6{ek:Bool}{d1 d2 t bL cN e J bs k:Nat}{ay:Bool}{s x:Operand}{z:Value}{af:ab->Value->α->Prop}{xs:List α}{a:α}{aw:a_ ((⟨ek,none,some d1,.buildSlice t 1 #[(0,x)]⟩:br)::ap d2 bL cN s (T d1)::r) Q}(cL:bz k e J ay af H (aq F s) xs)(aF:af H (aq F x) a)
  (hw:Whole P e (aq F x))(fy:∀v,aq (aX F d1 v) s=aq F s)(hE:∀aC de u y,Kept H aC de e->af H u y->af aC u y)
  (bt:P.underlying t=some (.slice e))(hu:P.underlying bL=some (.slice e))(I:fI P cN=true)(an:bn P e=some J)(dM:c_ P e=some ay)(ae:bytes? P e=some bs)(aP:dv P e=some z)(dt:flat z=true)(cW:z.cells.size=J)(c0:0<J)(qE:J<=1000)
  (dH:0<bs)(bq:(xs.length+1)*bs<=140737488355328)(ai:k<=H.length)
  (K:∀p au aC,bz k e J ay af aC au (xs++[a])->(∀cx:ab,cx.length<=k->Ext cx H->Ext cx aC)->Kept H aC (aq F s) e->a8 P r Q .mk (aX (aX F d1 p) d2 au) aC):
  a8 P ((⟨ek,none,some d1,.buildSlice t 1 #[(0,x)]⟩:br)::ap d2 bL cN s (T d1)::r) Q aw F H:=by
 obtain⟨cs,jL,hD⟩:=cL
 have gu:=jL.1
 have kL:(aq F x).cells.size=J:=by have:=hw.1;rw[an]at this;exact(Option.some.inj this).symm
 have o:ay=true\/J=1:=by
  cases ay with
  | true=>exact .inl rfl
  | false=>
   refine .inr ?_
   have cc:=hw.2.2
   cases av:eB (aq F x)with
   | true=>rw[av]at cc;simp at cc;rw[cc]at dM;cases dM
   | false=>rw[av]at cc;simp at cc;rw[<-kL,cc.2];rfl
 refine X7 jL fy bt hu I an ae aP dt cW c0 qE dH bq (by simp[kL]) hw.2.1 ai fun p au aC aS aM bh=>K p au aC ⟨_,by simpa using aS,fun i y aJ=>?_⟩ aM bh
 by_cases ad:i<xs.length
 ·rw[List.getElem?_append_left ad]at aJ
  rw[rB gu ad o]
  exact hE _ _ _ _ bh (hD i y aJ)
 ·have eT:i=xs.length:=by
   have:=(cd.1 aJ).1
   simp at this
   omega
  subst eT
  rw[List.getElem?_append_right (Nat.le_refl _),Nat.sub_self]at aJ
  simp at aJ
  subst aJ
  rw[BR gu hw an dM]
  exact hE _ _ _ _ bh aF
theorem yD{ay:Bool}{J i n:Nat}{cs fB:List Value}(ar:cs.length=n*J)(ad:n<=i)(o:ay=true\/J=1):ea ay J (cs++fB) i=ea ay J fB (i-n):=by
 unfold ea
 have hle:n*J<=i*J:=Nat.mul_le_mul_right _ ad
 cases ay with
 | true=>
  simp only[if_true]
  rw[List.drop_append,List.drop_eq_nil_of_le (by omega),List.nil_append,ar,Nat.sub_mul]
 | false=>
  have fy:J=1:=by rcases o with h | h;cases h;exact h
  subst fy
  simp only[Bool.false_eq_true,if_false]
  rw[List.getElem?_append_right (by omega)]
  congr 2
  omega
theorem AQ{d bL cN e J bs k:Nat}{ay:Bool}{s x:Operand}{z:Value}{af:ab->Value->α->Prop}{xs bH:List α}{aw:a_ (ap d bL cN s x::r) Q}(cL:bz k e J ay af H (aq F s) xs)(lH:Row e J ay af H (aq F x) bH)(k8:∀u y,af H u y->Whole P e u)(hE:∀aC de u y,Kept H aC de e->af H u y->af aC u y)
  (hu:P.underlying bL=some (.slice e))(I:fI P cN=true)(an:bn P e=some J)(dM:c_ P e=some ay)(o:ay=true\/J=1)(ae:bytes? P e=some bs)(aP:dv P e=some z)(cW:z.cells.size=J)(dH:0<bs)(bq:(xs.length+bH.length)*bs<=140737488355328)(ai:k<=H.length)
  (K:∀au aC,bz k e J ay af aC au (xs++bH)->(∀cx:ab,cx.length<=k->Ext cx H->Ext cx aC)->Kept H aC (aq F s) e->a8 P r Q .mk (aX F d au) aC):a8 P (ap d bL cN s x::r) Q aw F H:=by
 obtain⟨cs,jL,hD⟩:=cL
 obtain⟨fB,y2,wh⟩:=lH
 have gu:=jL.1
 obtain⟨a,c,ao,aS,aM,bh⟩:=y2
 have cV:Src H J (aq F x) bH.length bH.length fB:=by
  have:=ec.src (H:=H) (e:=e) (J:=J) (v:=aq F x) (n:=bH.length) (cs:=fB) ⟨a,c,ao,aS,aM,bh⟩ (Nat.le_refl _)
  rwa[<-aM,List.take_length]at this
 have wP:(fB.all (·.oneCell'))=true:=by
  rw[List.all_eq_true]
  intro u ue
  obtain⟨j,aQ⟩:=List.getElem?_of_mem ue
  have fO:j<bH.length*J:=by have:=(cd.1 aQ).1;omega
  have c0:0<J:=by rcases Nat.eq_zero_or_pos J with q | q;·subst q;simp at fO
                  exact q
  have cU:j/J<bH.length:=Nat.div_lt_of_lt_mul (by rw[Nat.mul_comm];exact fO)
  have hw:=k8 _ _ (wh _ _ (bx cU))
  have gj:u∈(ea ay J fB (j/J)).cells.toList:=by
   unfold ea
   cases ay with
   | true=>
    simp only[if_true,Value.cells,List.toList_toArray]
    have mw:=Nat.div_add_mod j J
    have fp:=Nat.mod_lt j c0
    rw[Nat.mul_comm]at mw
    refine List.mem_of_getElem? (i:=j % J) ?_
    rw[List.getElem?_take_of_lt fp,List.getElem?_drop,mw]
    exact aQ
   | false=>
    have fy:J=1:=by rcases o with h | h;cases h;exact h
    subst fy
    have my:fB[j/1]?=some u:=by rw[Nat.div_one];exact aQ
    simp only[ea,Bool.false_eq_true,if_false]at hw⊢
    rw[my]at hw⊢
    simp only[Option.getD_some]at hw⊢
    have cc:=hw.2.2
    cases av:eB u with
    | false=>rw[av]at cc;simp at cc;rw[cc.2];simp
    | true=>
     rw[av]at cc
     simp at cc
     rw[cc]at dM
     cases dM
  exact List.all_eq_true.1 hw.2.1 u gj
 refine E6 jL cV hu I an ae aP cW dH bq wP aM ai fun au aC dp hd eM gK iI=>K au aC ⟨_,by simpa using dp,fun i y aJ=>?_⟩ hd eM
 by_cases ad:i<xs.length
 ·rw[List.getElem?_append_left ad]at aJ
  rw[rB gu ad o]
  exact hE _ _ _ _ eM (hD i y aJ)
 ·rw[List.getElem?_append_right (by omega)]at aJ
  rw[yD gu (by omega) o]
  exact hE _ _ _ _ eM (wh _ y aJ)
theorem K_(z:Value)(J n i:Nat)(aP:z.cells.size=J)(ad:i<n)(c0:0<J):((made z (n*J)).drop (i*J)).take J=z.cells.toList:=by
 have hle:(i+1)*J<=n*J:=Nat.mul_le_mul_right _ ad
 rw[Nat.succ_mul]at hle
 apply List.ext_getElem?
 intro j
 by_cases aQ:j<J
 ·rw[List.getElem?_take_of_lt aQ,List.getElem?_drop]
  unfold made
  rw[List.getElem?_map,List.getElem?_range (by omega)]
  simp only[Option.map_some,aP]
  rw[Nat.mul_comm i J,Nat.mul_add_mod,Nat.mod_eq_of_lt aQ]
  simp[aP,aQ]
 ·rw[List.getElem?_eq_none (by simp;omega),List.getElem?_eq_none (by simp;omega)]
theorem q5{d t e J bs n:Nat}{ay:Bool}{x y:Operand}{eo cB:IntKind}{z:Value}{af:ab->Value->α->Prop}{a:α}{aw:a_ (ms d t x y::r) Q}(hu:P.underlying t=some (.slice e))(an:bn P e=some J)(ae:bytes? P e=some bs)(aP:dv P e=some z)(dt:flat z=true)
  (dM:c_ P e=some ay)(hw:Whole P e z)(I:aq F x= .int eo (n:Int))(aJ:aq F y= .int cB (n:Int))(c0:0<J)(dH:0<bs)(bq:bs*n<=281474976710656)(bl:∀aC,af aC z a)
  (K:∀v aC,bz H.length e J ay af aC v (List.replicate n a)->Ext H aC->(n=0/\v= .slice (some ⟨0,0,none⟩) 0 0/\aC=H\/0<n/\v= .slice (some ⟨H.length,0,none⟩) n n/\aC=H++[.own e false (made z (n*J))])->a8 P r Q .mk (aX F d v) aC):a8 P (ms d t x y::r) Q aw F H:=by
 have cW:z.cells.size=J:=by have:=hw.1;rw[an]at this;exact(Option.some.inj this).symm
 by_cases aE:n=0
 ·subst aE
  exact AU hu an ae I aJ (K _ H (bz.void _ _ _ _ _ _ _) (Ext.refl H) (.inl ⟨rfl,rfl,rfl⟩))
 ·refine xT hu an ae aP dt cW I aJ c0 dH (Nat.le_refl _) (by omega) bq (K _ _ ⟨made z (n*J),⟨by simp[pA],.inr ⟨H.length,0,n,false,made z (n*J),by simp,by omega,by simp,Nat.le_refl _,by simp,by simp[pA],?_⟩⟩,fun i x ad=>?_⟩ ((Ext.refl H).snoc _ _ _) (.inr ⟨by omega,rfl,rfl⟩))
  ·rw[List.drop_zero,List.take_of_length_le (by simp[pA])]
  ·rw[List.getElem?_replicate]at ad
   split at ad
   ·rename_i a3
    obtain rfl:=Option.some.inj ad
    have hm:=K_ z J n i cW a3 c0
    have:ea ay J (made z (n*J)) i=z:=by
     have cc:=hw.2.2
     unfold ea
     cases ay with
     | true=>
      have aF:eB z=true:=by
       cases av:eB z with
       | true=>rfl
       | false=>rw[av]at cc;simp at cc;rw[cc.1]at dM;cases dM
      simp only[if_true]
      rw[hm,Array.toArray_toList]
      exact(s5 aF).symm
     | false=>
      have aF:eB z=false:=by
       cases av:eB z with
       | false=>rfl
       | true=>rw[av]at cc;simp at cc;rw[cc]at dM;cases dM
      rw[aF]at cc
      simp at cc
      have o:J=1:=by rw[<-cW,cc.2];rfl
      subst o
      simp only[Bool.false_eq_true,if_false]
      have aa:(made z (n*1))[i]?=(((made z (n*1)).drop (i*1)).take 1)[0]?:=by
       rw[List.getElem?_take_of_lt (by omega),List.getElem?_drop];simp
      rw[aa,hm,cc.2]
      rfl
    rw[this]
    exact bl _
   ·cases ad
theorem Pn{P:Program}{e:Nat}{ay:Bool}{J n i j:Nat}{cs:List Value}{u:Value}(ar:cs.length=n*J)(aQ:j<n)(ad:i<n)(hw:Whole P e u)(an:bn P e=some J)(dM:c_ P e=some ay)(o:ay=true\/J=1):ea ay J (c3 cs (j*J) u.cells.toList) i=if i=j then u else ea ay J cs i:=by
 obtain⟨a5,hK,cc⟩:=hw
 have c0:u.cells.size=J:=by rw[an]at a5;exact(Option.some.inj a5).symm
 have zj:(j+1)*J<=n*J:=Nat.mul_le_mul_right _ aQ
 have R6:(i+1)*J<=n*J:=Nat.mul_le_mul_right _ ad
 rw[Nat.succ_mul]at zj R6
 have bq:j*J+u.cells.toList.length<=cs.length:=by simp;omega
 have lg:=fun m=>q2 (j:=m) bq
 unfold ea
 cases ay with
 | true=>
  have aF:eB u=true:=by
   cases av:eB u with
   | true=>rfl
   | false=>rw[av]at cc;simp at cc;rw[cc.1]at dM;cases dM
  simp only[if_true]
  have aL:((c3 cs (j*J) u.cells.toList).drop (i*J)).take J=if i=j then u.cells.toList else(cs.drop (i*J)).take J:=by
   apply List.ext_getElem?
   intro m
   by_cases hm:m<J
   ·rw[List.getElem?_take_of_lt hm,List.getElem?_drop,lg]
    by_cases nv:i=j
    ·subst nv
     rw[if_pos rfl,if_pos ⟨by omega,by simp;omega⟩]
     congr 1
     omega
    ·rw[if_neg nv,List.getElem?_take_of_lt hm,List.getElem?_drop]
     rw[if_neg]
     simp only[Array.length_toList,c0,not_and,Nat.not_lt]
     intro aH
     rcases Nat.lt_or_ge i j with q | q
     ·have:(i+1)*J<=j*J:=Nat.mul_le_mul_right _ q
      rw[Nat.succ_mul]at this
      omega
     ·have:(j+1)*J<=i*J:=Nat.mul_le_mul_right _ (by omega)
      rw[Nat.succ_mul]at this
      omega
   ·rw[List.getElem?_eq_none (by simp;omega)]
    split
    ·rw[List.getElem?_eq_none (by simp;omega)]
    ·rw[List.getElem?_eq_none (by simp;omega)]
  rw[aL]
  split
  ·rw[Array.toArray_toList];exact(s5 aF).symm
  ·rfl
 | false=>
  have fy:J=1:=by rcases o with h | h;cases h;exact h
  subst fy
  have aF:eB u=false:=by
   cases av:eB u with
   | false=>rfl
   | true=>rw[av]at cc;simp at cc;rw[cc]at dM;cases dM
  rw[aF]at cc
  simp at cc
  simp only[Bool.false_eq_true,if_false]
  rw[lg]
  by_cases nv:i=j
  ·subst nv
   rw[if_pos rfl,if_pos ⟨by omega,by simp;omega⟩,cc.2]
   simp
  ·rw[if_neg nv,if_neg]
   simp only[Array.length_toList,c0,not_and,Nat.not_lt]
   omega
theorem ja{d t e J n k:Nat}{ay:Bool}{x i y:Operand}{af:ab->Value->α->Prop}{xs:List α}{a:α}{aw:a_ (bb d t x i::st e (T d) y::r) Q}(cL:bz k e J ay af H (aq F x) xs)(ad:aq F i= .int .i64 (n:Int))(aE:n<xs.length)(aF:af H (aq F y) a)
  (hw:Whole P e (aq F y))(aJ:∀v,aq (aX F d v) y=aq F y)(hE:∀aC de u y,Kept H aC de e->af H u y->af aC u y)(bt:eO P t=some e)(an:bn P e=some J)(dM:c_ P e=some ay)(c0:0<J)
  (K:∀p aC,bz k e J ay af aC (aq F x) (xs.set n a)->(∀cx:ab,cx.length<=k->Ext cx H->Ext cx aC)->Kept H aC (aq F x) e->aC.length=H.length->(∀c,c<k->aC[c]?=H[c]?)->a8 P r Q .mk (aX F d p) aC):a8 P (bb d t x i::st e (T d) y::r) Q aw F H:=by
 obtain⟨cs,⟨ar,jL⟩,hD⟩:=cL
 have kL:(aq F y).cells.size=J:=by have:=hw.1;rw[an]at this;exact(Option.some.inj this).symm
 have o:ay=true\/J=1:=by
  cases ay with
  | true=>exact .inl rfl
  | false=>
   refine .inr ?_
   have cc:=hw.2.2
   cases av:eB (aq F y)with
   | true=>rw[av]at cc;simp at cc;rw[cc]at dM;cases dM
   | false=>rw[av]at cc;simp at cc;rw[<-kL,cc.2];rfl
 rcases jL with⟨aH,-⟩ | ⟨b,U,cap,l,all,ao,aS,aM,bh,b0,ey,gl⟩
 ·omega
 have hle:(n+1)*J<=xs.length*J:=Nat.mul_le_mul_right _ aE
 have Db:xs.length*J<=cap*J:=Nat.mul_le_mul_right _ aM
 rw[Nat.succ_mul]at hle
 have gD:=(cd.1 b0).1
 rw[fJ,ao,ad,oO,m9,bt,eY,an,eY,oM]
 refine df.mk ⟨by omega,by omega⟩ ?_
 rw[MN]
 simp only[kD,hJ,mf,b0,FU,Int.toNat_natCast,aJ]
 have bq:U+n*J+(aq F y).cells.toList.length<=all.length:=by simp[kL];omega
 refine df.mk ⟨by rw[an,kL],by simpa using bq,hw.2.1⟩ ?_
 rw[aJ,Fs bq]
 have fX:((c3 all (U+n*J) (aq F y).cells.toList).drop U).take (xs.length*J)=c3 cs (n*J) (aq F y).cells.toList:=by
  have nt:n*J+(aq F y).cells.toList.length<=cs.length:=by simp[kL,ar];omega
  apply List.ext_getElem?
  intro j
  by_cases aQ:j<xs.length*J
  ·rw[List.getElem?_take_of_lt aQ,List.getElem?_drop,q2 bq,q2 nt,gl,List.getElem?_take_of_lt aQ,List.getElem?_drop]
   by_cases ag:n*J<=j/\j<n*J+(aq F y).cells.toList.length
   ·rw[if_pos ag,if_pos ⟨by omega,by omega⟩]
    congr 1
    omega
   ·rw[if_neg ag,if_neg (by omega)]
  ·rw[List.getElem?_eq_none (by simp;omega),List.getElem?_eq_none (by rw[mU nt,ar];omega)]
 have tV:Kept H (H.set b (.own e l (c3 all (U+n*J) (aq F y).cells.toList))) (aq F x) e:=fun ca X aR cM=>by
  have:b≠ca:=fun cI=>by
   subst cI
   rw[b0]at aR
   exact cM ⟨U,xs.length,cap,ao⟩ (by rw[<-Option.some.inj aR];rfl)
  rw[List.getElem?_set_ne this];exact aR
 refine K _ _ ⟨c3 cs (n*J) (aq F y).cells.toList,⟨by rw[mU (by simp[kL,ar];omega)];simpa using ar,.inr ⟨b,U,cap,l,_,by simpa using ao,aS,by simpa using aM,bh,List.getElem?_set_self gD,by rw[mU bq];exact ey,by simpa using fX.symm⟩⟩,fun i x I=>?_⟩
  (fun cx aH I=>I.set (by omega) (by simp)) tV (by simp) (fun c ag=>List.getElem?_set_ne (by omega))
 have cU:i<xs.length:=by have:=(cd.1 I).1;simpa using this
 rw[Pn ar aE cU hw an dM o]
 by_cases eT:i=n
 ·subst eT
  rw[List.getElem?_set_self aE]at I
  obtain rfl:=Option.some.inj I
  rw[if_pos rfl]
  exact hE _ _ _ _ tV aF
 ·rw[List.getElem?_set_ne (Ne.symm eT)]at I
  rw[if_neg eT]
  exact hE _ _ _ _ tV (hD i x I)
theorem q7{ek:Bool}{d t e J l h:Nat}{ay:Bool}{x:Operand}{bX ad:Option Operand}{af:ab->Value->α->Prop}{xs:List α}{aw:a_ ((⟨ek,none,some d,.slice t x bX ad none⟩:br)::r) Q}(bl:Row e J ay af H (aq F x) xs)(hu:P.underlying t=some (.slice e))(an:bn P e=some J)(o:ay=true\/J=1)
  (ar:dN (aq F) bX=some l)(cR:fo (aq F) xs.length ad=some h)(zk:l<=h)(wF:h<=xs.length)(K:∀au,Row e J ay af H au ((xs.drop l).take (h-l))->a8 P r Q .mk (aX F d au) H):a8 P ((⟨ek,none,some d,.slice t x bX ad none⟩:br)::r) Q aw F H:=by
 obtain⟨cs,bE,bJ⟩:=bl
 refine MM bE hu an ar cR zk wF fun au tv=>K au ⟨_,by simpa[show min (h-l) (xs.length-l)=h-l by omega]using tv,fun i y aJ=>?_⟩
 have cU:i<h-l:=by
  have:=(cd.1 aJ).1
  simp at this
  omega
 rw[List.getElem?_take_of_lt cU,List.getElem?_drop]at aJ
 have:=bJ _ _ aJ
 have bp:ea ay J ((cs.drop (l*J)).take ((h-l)*J)) i=ea ay J cs (l+i):=by
  have hle:(i+1)*J<=(h-l)*J:=Nat.mul_le_mul_right _ cU
  rw[Nat.succ_mul]at hle
  unfold ea
  cases ay with
  | true=>
   simp only[if_true]
   rw[List.drop_take,List.drop_drop,List.take_take,Nat.min_eq_left (by omega),<-Nat.add_mul]
  | false=>
   have fy:J=1:=by rcases o with h | h;cases h;exact h
   subst fy
   simp only[Bool.false_eq_true,if_false,Nat.mul_one]
   rw[List.getElem?_take_of_lt cU,List.getElem?_drop]
 rw[bp]
 exact this
end
section
variable {P:Program} {r:List br} {F:Fr} {H:ab} {Q:Fr->ab->Prop}
theorem ML{ek:Bool}{d t e J b i len cap l h:Nat}{X:bA}{x:Operand}{bX ad:Option Operand}{aw:a_ ((⟨ek,none,some d,.slice t x bX ad none⟩:br)::r) Q}(ao:aq F x= .slice (some ⟨b,i,none⟩) len cap)(aR:H[b]?=some X)(he:X.elem?=some e)(hu:P.underlying t=some (.slice e))(an:bn P e=some J)
  (ar:dN (aq F) bX=some l)(cR:fo (aq F) len ad=some h)(o:l<=h)(aa:h<=cap)(lO:l<cap)(K:a8 P r Q .mk (aX F d (.slice (some ⟨b,i+l*J,none⟩) (h-l) (cap-l))) H):a8 P ((⟨ek,none,some d,.slice t x bX ad none⟩:br)::r) Q aw F H:=by
 have wX:bU P (aq F) H (.slice t x bX ad none)=none:=by simp only[bU,ao]
 have a2:∀U:Oper,U.op= .slice t x bX ad none->bF P U=false:=fun U aK=>by simp[bF,aK]
 exact ir (v:= .slice (some ⟨b,i+l*J,none⟩) (h-l) (cap-l)) (H1:=H) rfl rfl wX (fun U aK=> .slice aK hu an ao aR he ar cR o aa lO) a2 (.inr (Ext.refl H)) K
end
section
variable {α:Type} {e J k:Nat} {ay:Bool} {af:ab->Value->α->Prop} {H:ab} {v:Value} {xs:List α}
theorem bz.Xq{b:Nat}{X:bA}(h:bz k e J ay af H v xs)(ae:b<k)(bl:∀u y,af H u y->af (H.set b X) u y):bz k e J ay af (H.set b X) v xs:=by
 obtain⟨cs,⟨o,aa⟩,aD⟩:=h
 refine⟨cs,⟨o,?_⟩,fun i y ad=>bl _ _ (aD i y ad)⟩
 rcases aa with aa | ⟨c,i,cap,l,all,aS,aM,bh,b0,ey,gl⟩
 ·exact .inl aa
 ·exact .inr ⟨c,i,cap,l,all,aS,aM,bh,b0,by rw[List.getElem?_set_ne (by omega)];exact ey,gl⟩
end
section
variable {P:Program} {F G:Fr} {H:ab} {Q:dr->Fr->Fr->ab->Prop}
theorem dy.range{m k id C ak N D t:Nat}{B:eG}{aw:a_ (eG.seq (.ops [.xs [bi C .lss t (T ak) (T N)]]) (.seq (.cond (T C) .skip (.exit id)) (.seq B (.ops [.xs [bi D .add t (T ak) (b9.ak 1),R ak (T D)]])))) Q}
  (aF:jH m k (eG.seq (.ops [.xs [bi C .lss t (T ak) (T N)]]) (.seq (.cond (T C) .skip (.exit id)) (.seq B (.ops [.xs [bi D .add t (T ak) (b9.ak 1),R ak (T D)]]))))=true)(n:Nat)(aE:n<9223372036854775807)(cj:F N= .int .i64 (n:Int))(Qj:gG m N=false)(PK:F ak= .int .i64 0)(adt:C≠ak)(adu:D≠ak)
  (Inv:Nat->Fr->Fr->ab->Prop)(aH:Inv 0 F G H)
  (body:∀(i:Nat) (az bC:Fr) (H1:ab),i<n->mix m F az ak= .int .i64 (i:Int)->Inv i (mix m F az) (mix k G bC) H1->∀K:Fr->Fr->ab->Prop,(∀bQ dq aY,bQ ak= .int .i64 (i:Int)->Inv (i+1) (aX (aX bQ D (.int .i64 ((i+1:Nat):Int))) ak (.int .i64 ((i+1:Nat):Int))) dq aY->K bQ dq aY)->
   bV P B (l3 K Q) .mk (aX (mix m F az) C (.bool true)) (mix k G bC) H1)
  (fin:∀(az bC:Fr) (H1:ab),mix m F az ak= .int .i64 (n:Int)->Inv n (mix m F az) (mix k G bC) H1->Q (.exit id) (aX (mix m F az) C (.bool false)) (mix k G bC) H1):
  dy P m k (eG.seq (.ops [.xs [bi C .lss t (T ak) (T N)]]) (.seq (.cond (T C) .skip (.exit id)) (.seq B (.ops [.xs [bi D .add t (T ak) (b9.ak 1),R ak (T D)]])))) Q aw F G H:=by
 refine dy.mk aF (fun dI az bC H1=>∃i,dI=n-i/\i<=n/\az ak= .int .i64 (i:Int)/\Inv i az bC H1) n ⟨0,by omega,by omega,by simpa using PK,aH⟩ ?_
 rintro dI az bC H1 ⟨i,rfl,ad,da,IL⟩ K a1
 have rK:mix m F az N= .int .i64 (n:Int):=by
  simp only[mix]
  rw[if_neg (by simpa[gG]using Qj)]
  exact cj
 generalize tq:mix m F az=abD at*
 simp only[kp,ZZ,ZU,MH,kD,da,rK,Xe,eY,MJ,ZT,Mg,ZW,hJ,NJ]
 refine bG.cC (fun a3=>?_) (fun jR=>?_)
 ·have iT:i<n:=by omega
  have aL:decide ((i:Int)<(n:Int))=true:=decide_eq_true a3
  simp only[aL,Z0,Mg]
  have:=body i az bC H1 iT (by rw[tq];exact da) (by rw[tq];exact IL) (fun bQ dq aY=>a8 P [bi D .add t (T ak) (b9.ak 1),R ak (T D)] (fun az H1=>K az dq H1) .mk bQ aY) fun bQ dq aY iA PZ=>?_
  ·rw[tq]at this
   refine eH.mono (x:=B) (fun e bQ dq aY h=>?_) this
   cases e with
   | normal=>exact h
   | exit id=>exact h
   | ret=>exact h
  ·simp only[MH,kD,Ie,iA,Xc,eY,Yf,hJ,MJ]
   have hw:IntKind.wrap .i64 ((i:Int)+1)=((i+1:Nat):Int):=by rw[cP (by omega) (by omega)];simp
   rw[hw]
   exact a1 (n-(i+1)) _ _ _ (by omega) ⟨i+1,rfl,by omega,hJ _ _ _,PZ⟩
 ·have aL:decide ((i:Int)<(n:Int))=false:=decide_eq_false jR
  have eT:i=n:=by omega
  subst eT
  simp only[aL,ZX,Xo]
  have:=fin az bC H1 (by rw[tq];exact da) (by rw[tq];exact IL)
  rw[tq]at this
  exact this
end
end Go.b9
end
