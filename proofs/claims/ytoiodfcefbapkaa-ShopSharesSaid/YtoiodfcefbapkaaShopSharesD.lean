/- Part of the proof of ShopShares. -/
import Derived.Test.YtoiodfcefbapkaaShopSharesC
set_option linter.unusedVariables false
set_option linter.unusedSimpArgs false
section
namespace Go.b_
inductive g7 where
 | xs (l:List br)
 | bY (r e:Nat)
 | cZ (r e:Nat) (y:Operand)
 | bk (g:Option (Nat×Bool)) (d s x f r off:Nat)
 | b1 (g:Option (Nat×Bool)) (d t x r:Nat)
 | aO (g:Option (Nat×Bool)) (d t x r off:Nat)
 | cC (b:Bool) (g:Option (Nat×Bool)) (t x:Nat) (y:Operand) (r:Nat)
 | st (b:Bool) (g:Option (Nat×Bool)) (t x:Nat) (y:Operand) (r off:Nat)
inductive eI where
 | skip
 | ret
 | exit (id:Nat)
 | seq (x y:eI)
 | cond (c:Operand) (x y:eI)
 | block (id:Nat) (x:eI)
 | loop (m k:Nat) (x:eI)
 | box (m k:Nat) (x:eI)
 | ops (l:List g7)
 | opsL (l:List g7)
inductive jm where
 | tmp (i:Nat)
 | cell (a ty:Nat)
structure dm where
 code:eI
 results:List jm
def g7.back:g7->List br
 | .xs l=>l
 | .bY r e=>[⟨true,none,some r,.alloc e⟩]
 | .cZ r e y=>[⟨true,none,some r,.box e y⟩]
 | .bk g d s x f _ _=>[⟨true,g,some d,.fieldAddr s (.tmp x) f⟩]
 | .b1 g d t x _=>[⟨true,g,some d,.load t (.tmp x)⟩]
 | .aO g d t x _ _=>[⟨true,g,some d,.load t (.tmp x)⟩]
 | .cC b g t x y _=>[⟨b,g,none,.store t (.tmp x) y⟩]
 | .st b g t x y _ _=>[⟨b,g,none,.store t (.tmp x) y⟩]
def pV:List g7->List br
 | []=>[]
 | i::r=>i.back++pV r
def eI.back:eI->gn
 | .skip=> .skip
 | .ret=> .ret
 | .exit id=> .exit id
 | .seq x y=> .seq x.back y.back
 | .cond c x y=> .cond c x.back y.back
 | .block id x=> .block id x.back
 | .loop _ _ x=> .loop x.back
 | .box _ _ x=>x.back
 | .ops l=> .ops (pV l)
 | .opsL l=> .opsL (pV l)
def jm.back:jm->ResultVar
 | .tmp i=> .tmp i
 | .cell a ty=> .cell a ty
def dm.back(z:dm):e8:=⟨z.code.back,z.results.map jm.back⟩
def jC:Value->Bool
 | .pointer (some _)=>true
 | _=>false
@[simp] theorem aeD(a:Addr):jC (.pointer (some a))=true:=rfl
def oE(v:Value)(n:Nat):Value:=match v with
 | .pointer (some ⟨b,i,none⟩)=> .pointer (some ⟨b,i+n,none⟩)
 | _=>undef
def eB:Value->Bool
 | .agg _=>true
 | _=>false
def Whole(P:Program)(e:TypeId)(v:Value):Prop:=bm P e=some v.cells.size/\(v.cells.toList.all (·.oneCell'))=true/\(if eB v=true then da P e=some true else da P e=some false/\v.cells= #[v])
def mn(g:Option (Nat×Bool))(F:Fr)(ck cU:Prop):Prop:=match g with
 | none=>ck
 | some (j,w)=>m7 (gR (F j)) w ck cU
def dg(P:Program):List g7->Fr->Fr->ab->(Fr->Fr->ab->Prop)->Prop
 | [],F,G,H,Q=>Q F G H
 | .xs l::r,F,G,H,Q=>bd P l F H fun aA H1=>dg P r aA G H1 Q
 | .bY c e::r,F,G,H,Q=>eK (dw P e) fun z=>ga (flat z=true/\Whole P e z) (dg P r (aY F c (.pointer (some ⟨H.length,0,none⟩))) (aY G c z) (H++[.dead]) Q)
 | .cZ c e y::r,F,G,H,Q=>ga (Whole P e (aq F y)) (dg P r (aY F c (.pointer (some ⟨H.length,0,none⟩))) (aY G c (aq F y)) (H++[.dead]) Q)
 | .bk g d s x f c off::r,F,G,H,Q=>mn g F (ga (jC (F c)=true) (dg P r (aY F d (oE (F c) off)) G H Q)) (dg P r (aY F d undef) G H Q)
 | .b1 g d t x c::r,F,G,H,Q=>mn g F (ga (jC (F c)=true) (dg P r (aY F d (G c)) G H Q)) (dg P r (aY F d undef) G H Q)
 | .aO g d t x c off::r,F,G,H,Q=>mn g F (ga (jC (F c)=true) (nb (G c) fun cs=>eK (da P t) fun a=>hC a (eK (bm P t) fun n=>ga (off+n<=cs.size) (dg P r (aY F d (.agg ((cs.toList.drop off).take n).toArray)) G H Q)) (eK cs.toList[off]? fun v=>dg P r (aY F d v) G H Q)))
   (dg P r (aY F d undef) G H Q)
 | .cC _ g t x y c::r,F,G,H,Q=>mn g F (ga (jC (F c)=true/\Whole P t (aq F y)) (dg P r F (aY G c (aq F y)) H Q)) (dg P r F G H Q)
 | .st _ g t x y c off::r,F,G,H,Q=>mn g F (ga (jC (F c)=true) (nb (G c) fun cs=>ga (bm P t=some (aq F y).cells.size/\off+(aq F y).cells.size<=cs.size/\((aq F y).cells.toList.all (·.oneCell'))=true) (dg P r F (aY G c (.agg (lC cs.toList off (aq F y).cells.toList).toArray)) H Q))) (dg P r F G H Q)
def l7(K:Fr->Fr->ab->Prop)(Q:ds->Fr->Fr->ab->Prop):ds->Fr->Fr->ab->Prop
 | .normal,F,G,H=>K F G H
 | e,F,G,H=>Q e F G H
def p6(id:Nat)(Q:ds->Fr->Fr->ab->Prop):ds->Fr->Fr->ab->Prop
 | .exit hv,F,G,H=>if hv=id then Q .normal F G H else Q (.exit hv) F G H
 | e,F,G,H=>Q e F G H
inductive ve (body:Fr->Fr->ab->(ds->Fr->Fr->ab->Prop)->Prop) (Q:ds->Fr->Fr->ab->Prop):Fr->Fr->ab->Prop
 | round {F G:Fr} {H:ab} (ak:Fr->Fr->ab->Prop) (h:body F G H (l7 ak Q)) (dc:∀aA bC H1,ak aA bC H1->ve body Q aA bC H1):ve body Q F G H
def eJ(P:Program):eI->Fr->Fr->ab->(ds->Fr->Fr->ab->Prop)->Prop
 | .skip,F,G,H,Q=>Q .normal F G H
 | .ret,F,G,H,Q=>Q .ret F G H
 | .exit id,F,G,H,Q=>Q (.exit id) F G H
 | .seq x y,F,G,H,Q=>eJ P x F G H (l7 (fun aA bC H1=>eJ P y aA bC H1 Q) Q)
 | .cond c x y,F,G,H,Q=>yc (aq F c) fun b=>hC b (eJ P x F G H Q) (eJ P y F G H Q)
 | .block id x,F,G,H,Q=>eJ P x F G H (p6 id Q)
 | .loop _ _ x,F,G,H,Q=>ve (eJ P x) Q F G H
 | .box _ _ x,F,G,H,Q=>eJ P x F G H Q
 | .ops l,F,G,H,Q=>dg P l F G H (fun aA bC H1=>Q .normal aA bC H1)
 | .opsL l,F,G,H,Q=>dg P l F G H (fun aA bC H1=>Q .normal aA bC H1)
def n2(F G:Fr):List jm->(List Value->Prop)->Prop
 | [],K=>K []
 | .tmp i::rs,K=>n2 F G rs fun aB=>K (F i::aB)
 | .cell a ty::rs,K=>ga (jC (F a)=true) (n2 F G rs fun aB=>K (G a::aB))
def xC(rs:List jm)(Q:Value->ab->Prop):ds->Fr->Fr->ab->Prop
 | .normal,F,G,H=>n2 F G rs fun aB=>Q (bj aB) H
 | .ret,F,G,H=>n2 F G rs fun aB=>Q (bj aB) H
 | .exit _,_,_,_=>False
abbrev Cells:=List (Nat×Nat)
abbrev h9:=List (Nat×Nat×Nat×Option (Nat×Bool))
def ln(C:Cells)(r:Nat):Bool:=(C.lookup r).isSome
def BI(C:Cells):Option Nat->Bool
 | some d=> !ln C d
 | none=>true
def kill(d:Nat)(E:h9):h9:=E.filter fun p=>p.1 !=d&&p.2.1 !=d&&(match p.2.2.2 with | some (j,_)=>j !=d | none=>true)
def D8:Option Nat->h9->h9
 | some d,E=>kill d E
 | none,E=>E
def yD:Option (Nat×Bool)->Option (Nat×Bool)->Bool
 | some (j,w),some (dp,gm)=>j==dp&&w==gm
 | none,none=>true
 | _,_=>false
def reach(E:h9)(g:Option (Nat×Bool))(x r off:Nat):Bool:=(x==r&&off==0) || match E.lookup x with
 | some (di,Lz,ki)=>di==r&&Lz==off&&(yD ki none || yD ki g)
 | none=>false
def BR(P:Program)(E:h9)(g:Option (Nat×Bool))(s x f r off:Nat):Bool:=match gd P s f with
 | some U=>decide (U<=off)&&reach E g x r (off-U)
 | none=>false
def hi(P:Program)(C:Cells)(late:Bool):h9->List g7->Bool
 | _,[]=>true
 | E,.xs l::r=>(l.all fun U=>BI C U.d)&&hi P C late (l.foldl (fun E U=>D8 U.d E) E) r
 | E,.bY c e::r=>C.lookup c==some e&&hi P C late (kill c E) r
 | E,.cZ c e _::r=>C.lookup c==some e&&hi P C late (kill c E) r
 | E,.bk g d s x f c off::r=> !ln C d&&ln C c&&BR P E g s x f c off&&(match g with | some (j,_)=>j !=d | none=>true)&&hi P C late ((d,c,off,g)::kill d E) r
 | E,.b1 g d t x c::r=> !ln C d&&C.lookup c==some t&&reach E g x c 0&&hi P C late (kill d E) r
 | E,.aO g d _ x c off::r=> !ln C d&&ln C c&&reach E g x c off&&hi P C late (kill d E) r
 | E,.cC b g t x _ c::r=>(b || late)&&C.lookup c==some t&&reach E g x c 0&&hi P C late E r
 | E,.st b g _ x _ c off::r=>(b || late)&&ln C c&&reach E g x c off&&hi P C late E r
def uI:Op->Bool
 | .load .. | .store .. =>false
 | .call {callee:= .value _,.. }=>false
 | op=> !iO op
def lE:List Nat->List Nat->List g7->Bool
 | _,_,[]=>true
 | ae,W,.xs l::r=>(l.all fun U=>uI U.op)&&lE ae W r
 | ae,W,.bk _ _ _ _ _ _ _::r=>lE ae W r
 | ae,W,.b1 _ _ _ _ c::r=> !W.contains c&&lE (c::ae) W r
 | ae,W,.aO _ _ _ _ c _::r=> !W.contains c&&lE (c::ae) W r
 | ae,W,.cC b _ _ _ _ c::r=>(b || (!W.contains c&& !ae.contains c))&&lE ae (if b then W else c::W) r
 | ae,W,.st b _ _ _ _ c _::r=>(b || (!W.contains c&& !ae.contains c))&&lE ae (if b then W else c::W) r
 | _,_,_=>false
def gI(m r:Nat):Bool:=(m>>>r) % 2==1
def H2(m:Nat):Option Nat->Bool
 | some d=>gI m d
 | none=>true
def vp(m k:Nat):g7->Bool
 | .xs l=>l.all fun U=>H2 m U.d
 | .bY c _=>gI m c&&gI k c
 | .cZ c _ _=>gI m c&&gI k c
 | .bk _ d _ _ _ _ _=>gI m d
 | .b1 _ d _ _ _=>gI m d
 | .aO _ d _ _ _ _=>gI m d
 | .cC _ _ _ _ _ c=>gI k c
 | .st _ _ _ _ _ c _=>gI k c
def jL(m k:Nat):eI->Bool
 | .seq x y=>jL m k x&&jL m k y
 | .cond _ x y=>jL m k x&&jL m k y
 | .block _ x=>jL m k x
 | .loop _ _ x=>jL m k x
 | .box _ _ x=>jL m k x
 | .ops l=>l.all (vp m k)
 | .opsL l=>l.all (vp m k)
 | _=>true
def ke(P:Program)(C:Cells):eI->Bool
 | .seq x y=>ke P C x&&ke P C y
 | .cond _ x y=>ke P C x&&ke P C y
 | .block _ x=>ke P C x
 | .loop m k x=>jL m k x&&ke P C x
 | .box m k x=>jL m k x&&ke P C x
 | .ops l=>hi P C false [] l
 | .opsL l=>hi P C true [] l&&lE [] [] l
 | _=>true
def sT(C:Cells)(rs:List jm):Bool:=rs.all fun r=>match r with
 | .tmp i=>true
 | .cell a ty=>C.lookup a==some ty
section
variable {P:Program}
theorem bd.append:∀{l c2:List br} {F:Fr} {H:ab} {Q:Fr->ab->Prop},bd P l F H (fun aA H1=>bd P c2 aA H1 Q)->bd P (l++c2) F H Q
 | [],c2,F,H,Q,h=>h
 | x::l,c2,F,H,Q,h=>by
  simp only[List.cons_append,bd]at h⊢
  split
  ·rename_i aV;rw[aV]at h;exact fV.mono (fun v H1=>bd.append) h
  ·rename_i j w aV
   rw[aV]at h
   simp only at h
   split
   ·rename_i af;rw[if_pos af]at h;exact fV.mono (fun v H1=>bd.append) h
   ·rename_i af;rw[if_neg af]at h;exact bd.append h
theorem PH{F:Fr}{d:Option Nat}{v:Value}{r:Nat}(h:d≠some r):fF F d v r=F r:=by
 cases d with
 | none=>rfl
 | some e=>exact gX F v fun he=>h (by rw[he])
theorem bd.gi:∀{l:List br} {F:Fr} {H:ab} {Q:Fr->ab->Prop},bd P l F H Q->bd P l F H fun aA H1=>Q aA H1/\∀r,(∀U∈l,U.d≠some r)->aA r=F r
 | [],F,H,Q,h=>⟨h,fun _ _=>rfl⟩
 | x::l,F,H,Q,h=>by
  have next:∀v H1,bd P l (fF F x.d v) H1 Q->bd P l (fF F x.d v) H1 fun aA H1=>Q aA H1/\∀r,(∀U∈x::l,U.d≠some r)->aA r=F r:=fun v H1 o=>
   bd.mono (fun aA a0 ⟨aT,aQ⟩=>⟨aT,fun r aj=>by rw[aQ r fun U aM=>aj U (List.mem_cons_of_mem _ aM),PH (aj x List.mem_cons_self)]⟩) (bd.gi o)
  simp only[bd]at h⊢
  split
  ·rename_i aV;rw[aV]at h;exact fV.mono (fun v H1=>next v H1) h
  ·rename_i j w aV
   rw[aV]at h
   simp only at h
   split
   ·rename_i af;rw[if_pos af]at h;exact fV.mono (fun v H1=>next v H1) h
   ·rename_i af;rw[if_neg af]at h;exact next _ _ h
def lK(g:Option (Nat×Bool))(F:Fr):Prop:=match g with
 | none=>True
 | some (j,w)=>gR (F j)=some w
theorem mn.imp{g:Option (Nat×Bool)}{F:Fr}{A B u_ kz:Prop}(h:mn g F A B)(o:lK g F->A->u_)(aa:¬lK g F->B->kz):mn g F u_ kz:=by
 cases g with
 | none=>exact o trivial h
 | some pE=>
  obtain⟨j,w⟩:=pE
  simp only[mn,m7]at h⊢
  split
  ·rename_i af;rw[if_pos af]at h;exact o af h
  ·rename_i af;rw[if_neg af]at h;exact aa af h
theorem x5{b:Bool}{g:Option (Nat×Bool)}{d:Option Nat}{op:Op}{r:List br}{F:Fr}{H:ab}{Q:Fr->ab->Prop}(h:mn g F (bd P (⟨b,none,d,op⟩::r) F H Q) (bd P r (fF F d undef) H Q)):bd P (⟨b,g,d,op⟩::r) F H Q:=by
 cases g with
 | none=>exact h
 | some pE=>exact h
theorem x3{b:Bool}{g:Option (Nat×Bool)}{d:Option Nat}{op:Op}{r:List br}{F:Fr}{H:ab}{ae W:List Nat}{Q:Fr->ab->Prop}(h:mn g F (fi P (⟨b,none,d,op⟩::r) F H ae W Q) (fi P r (fF F d undef) H ae W Q)):fi P (⟨b,g,d,op⟩::r) F H ae W Q:=by
 cases g with
 | none=>exact h
 | some pE=>exact h
def hX(E:h9)(F:Fr):Prop:=∀x∈E,lK x.2.2.2 F->F x.1=oE (F x.2.1) x.2.2.1
theorem hX.nil(F:Fr):hX [] F:=fun x h=>by simp at h
theorem Lh{d:Nat}{E:h9}{x:Nat×Nat×Nat×Option (Nat×Bool)}(h:x∈kill d E):x∈E/\x.1≠d/\x.2.1≠d/\∀j w,x.2.2.2=some (j,w)->j≠d:=by
 unfold kill at h
 rw[List.mem_filter]at h
 obtain⟨o,aa⟩:=h
 simp only[Bool.and_eq_true,bne_iff_ne,ne_eq]at aa
 refine⟨o,aa.1.1,aa.1.2,fun j w aV=>?_⟩
 have:=aa.2
 rw[aV]at this
 simpa using this
theorem BY{g:Option (Nat×Bool)}{F aA:Fr}(h:∀j w,g=some (j,w)->aA j=F j):lK g aA↔lK g F:=by
 cases g with
 | none=>exact Iff.rfl
 | some pE=>obtain⟨j,w⟩:=pE;simp only[lK,h j w rfl]
theorem hX.kill{E:h9}{F:Fr}(h:hX E F)(d:Nat)(v:Value):hX (kill d E) (aY F d v):=fun x I aV=>by
 obtain⟨o,aa,aD,bD⟩:=Lh I
 rw[gX _ _ aa,gX _ _ aD]
 exact h x o ((BY fun j w e=>gX F v (bD j w e)).1 aV)
theorem V_{l:List br}:∀{E:h9} {x:Nat×Nat×Nat×Option (Nat×Bool)},x∈l.foldl (fun E U=>D8 U.d E) E->x∈E/\∀U∈l,U.d≠some x.1/\U.d≠some x.2.1/\∀j w,x.2.2.2=some (j,w)->U.d≠some j:=by
 induction l with
 | nil=>intro E x h;exact⟨h,fun U aM=>by simp at aM⟩
 | cons U l aW=>
  intro E x h
  simp only[List.foldl_cons]at h
  obtain⟨o,aa⟩:=aW h
  cases aJ:U.d with
  | none=>
   rw[aJ]at o
   refine⟨o,fun j9 fe=>?_⟩
   rcases List.mem_cons.1 fe with rfl | fe
   ·rw[aJ];simp
   ·exact aa j9 fe
  | some d=>
   rw[aJ]at o
   obtain⟨aT,aQ,bn,b8⟩:=Lh o
   refine⟨aT,fun j9 fe=>?_⟩
   rcases List.mem_cons.1 fe with rfl | fe
   ·rw[aJ]
    exact⟨fun e=>aQ (Option.some.inj e).symm,fun e=>bn (Option.some.inj e).symm,fun j w aV e=>b8 j w aV (Option.some.inj e).symm⟩
   ·exact aa j9 fe
theorem hX.KW{E:h9}{F aA:Fr}(h:hX E F){l:List br}(a2:∀r,(∀U∈l,U.d≠some r)->aA r=F r):hX (l.foldl (fun E U=>D8 U.d E) E) aA:=fun x I aV=>by
 obtain⟨o,aa⟩:=V_ I
 rw[a2 _ fun U aM=>(aa U aM).1,a2 _ fun U aM=>(aa U aM).2.1]
 exact h x o ((BY fun j w e=>a2 j fun U aM=>(aa U aM).2.2 j w e).1 aV)
theorem H8{g ki:Option (Nat×Bool)}(h:yD g ki=true):g=ki:=by
 cases g<;>cases ki<;>simp[yD]at h⊢
 ·obtain⟨o,aa⟩:=h;exact Prod.ext o aa
theorem Ea{α:Type}:∀{E:List (Nat×α)} {x:Nat} {y:α},E.lookup x=some y->(x,y)∈E
 | [],x,y,h=>by simp at h
 | (a,b)::E,x,y,h=>by
  rw[List.lookup_cons]at h
  split at h
  ·rename_i I
   have:x=a:=by simpa using I
   subst this
   obtain rfl:=Option.some.inj h
   exact List.mem_cons_self
  ·exact List.mem_cons_of_mem _ (Ea h)
theorem pL{E:h9}{F:Fr}{g:Option (Nat×Bool)}{x r off b:Nat}(h:reach E g x r off=true)(bK:hX E F)(aV:lK g F)(aj:F r= .pointer (some ⟨b,0,none⟩)):F x= .pointer (some ⟨b,off,none⟩):=by
 simp only[reach,Bool.or_eq_true,Bool.and_eq_true,beq_iff_eq]at h
 rcases h with⟨rfl,rfl⟩ | h
 ·exact aj
 ·cases ar:E.lookup x with
  | none=>rw[ar]at h;cases h
  | some p=>
   obtain⟨di,Lz,ki⟩:=p
   rw[ar]at h
   simp only[Bool.and_eq_true,Bool.or_eq_true,beq_iff_eq]at h
   obtain⟨⟨rfl,rfl⟩,RS⟩:=h
   have:=bK _ (Ea ar)
   simp only at this
   rw[this,aj]
   ·simp[oE]
   ·rcases RS with q | q
    ·rw[H8 q];trivial
    ·rw[H8 q];exact aV
structure gp (P:Program) (C:Cells) (F G:Fr) (H:ab) (a6:Nat->Option bB):Prop where
 fit:Fit a6 H
 cell:∀r e,C.lookup r=some e->F r=undef\/∃b,F r= .pointer (some ⟨b,0,none⟩)/\a6 b=some (.own e false (G r).cells.toList)/\Whole P e (G r)
 inj:∀r di e cH b,C.lookup r=some e->C.lookup di=some cH->r≠di->F r= .pointer (some ⟨b,0,none⟩)->F di≠ .pointer (some ⟨b,0,none⟩)
section
variable {C:Cells} {F G:Fr} {H:ab} {a6:Nat->Option bB}
theorem gp.at(h:gp P C F G H a6){r e:Nat}(aj:C.lookup r=some e)(aR:jC (F r)=true):∃b,F r= .pointer (some ⟨b,0,none⟩)/\a6 b=some (.own e false (G r).cells.toList)/\Whole P e (G r)/\(cq a6 H)[b]?=some (.own e false (G r).cells.toList)/\b<H.length:=by
 rcases h.cell r e aj with q | ⟨b,aT,aQ,bn⟩
 ·rw[q]at aR;cases aR
 ·have aJ:=(h.fit b _ aQ).1
  refine⟨b,aT,aQ,bn,?_,(cc.1 aJ).1⟩
  rw[kv,aJ,aQ]
  rfl
theorem tJ{r:Nat}(h:ln C r=true):∃e,C.lookup r=some e:=Option.isSome_iff_exists.1 h
theorem gp.mY(h:gp P C F G H a6){d:Nat}(aJ:ln C d=false)(v:Value):gp P C (aY F d v) G H a6:=by
 have ne:∀r e,C.lookup r=some e->r≠d:=fun r e aj=>by rintro rfl;simp[ln,aj]at aJ
 refine⟨h.fit,fun r e aj=>?_,fun r di e cH b aj fo cG a2=>?_⟩
 ·rw[gX _ _ (ne r e aj)];exact h.cell r e aj
 ·rw[gX _ _ (ne r e aj)]at a2
  rw[gX _ _ (ne di cH fo)]
  exact h.inj r di e cH b aj fo cG a2
theorem gp.congr(h:gp P C F G H a6){aA:Fr}{H1:ab}(a2:∀r e,C.lookup r=some e->aA r=F r)(ax:Fit a6 H1):gp P C aA G H1 a6:=by
 refine⟨ax,fun r e aj=>?_,fun r di e cH b aj fo cG af=>?_⟩
 ·rw[a2 r e aj];exact h.cell r e aj
 ·rw[a2 r e aj]at af
  rw[a2 di cH fo]
  exact h.inj r di e cH b aj fo cG af
def q0(a6:Nat->Option bB)(b:Nat)(x:bB):Nat->Option bB:=fun c=>if c=b then some x else a6 c
theorem uG(a6:Nat->Option bB)(b:Nat)(x:bB):q0 a6 b x b=some x:=by simp[q0]
theorem uF(a6:Nat->Option bB){b c:Nat}(x:bB)(h:c≠b):q0 a6 b x c=a6 c:=by simp[q0,h]
theorem gp.new(h:gp P C F G H a6){c e:Nat}(ag:C.lookup c=some e){z:Value}(aP:Whole P e z):
  gp P C (aY F c (.pointer (some ⟨H.length,0,none⟩))) (aY G c z) (H++[.dead]) (q0 a6 H.length (.own e false z.cells.toList))/\cq (q0 a6 H.length (.own e false z.cells.toList)) (H++[.dead])=cq a6 H++[.own e false z.cells.toList]:=by
 have aE:a6 H.length=none:=by
  cases aR:a6 H.length with
  | none=>rfl
  | some x=>have:=h.fit.lt aR;omega
 refine⟨⟨fun b x af=>?_,fun r cH aj=>?_,fun r di bq bh b aj fo cG a2=>?_⟩,?_⟩
 ·by_cases fG:b=H.length
  ·subst fG
   rw[uG]at af
   obtain rfl:=Option.some.inj af
   exact⟨by simp,_,_,_,rfl⟩
  ·rw[uF _ _ fG]at af
   obtain⟨aT,aQ⟩:=h.fit b x af
   exact⟨by rw[List.getElem?_append_left (h.fit.lt af)];exact aT,aQ⟩
 ·by_cases sd:r=c
  ·subst sd
   rw[ag]at aj
   obtain rfl:=Option.some.inj aj
   exact .inr ⟨H.length,hL _ _ _,by rw[uG,hL],by rw[hL];exact aP⟩
  ·rw[gX _ _ sd,gX _ _ sd]
   rcases h.cell r cH aj with q | ⟨b,aT,aQ,bn⟩
   ·exact .inl q
   ·have:=h.fit.lt aQ
    exact .inr ⟨b,aT,by rw[uF _ _ (by omega)];exact aQ,bn⟩
 ·have lt:∀r e b,C.lookup r=some e->F r= .pointer (some ⟨b,0,none⟩)->b<H.length:=fun r e b aj a2=>by
   rcases h.cell r e aj with q | ⟨cb,aT,aQ,bn⟩
   ·rw[q]at a2;cases a2
   ·rw[aT]at a2;simp at a2;subst a2;exact h.fit.lt aQ
  by_cases o:r=c
  ·subst o
   rw[hL]at a2
   simp at a2
   subst a2
   rw[gX _ _ (Ne.symm cG)]
   intro au
   have:=lt di bh _ fo au
   omega
  ·rw[gX _ _ o]at a2
   by_cases aa:di=c
   ·subst aa
    rw[hL]
    intro au
    simp at au
    have:=lt r bq b aj a2
    omega
   ·rw[gX _ _ aa]
    exact h.inj r di bq bh b aj fo cG a2
 ·apply List.ext_getElem?
  intro b
  rw[kv]
  by_cases af:b<H.length
  ·rw[List.getElem?_append_left af,List.getElem?_append_left (by rw[jG];exact af),kv,uF _ _ (by omega)]
  ·by_cases fG:b=H.length
   ·subst fG
    rw[uG,List.getElem?_append_right (Nat.le_refl _),List.getElem?_append_right (by rw[jG];exact Nat.le_refl _),jG]
    simp
   ·rw[List.getElem?_eq_none (by simp;omega),List.getElem?_eq_none (by simp[jG];omega)]
    rfl
theorem gp.set(h:gp P C F G H a6){c e b:Nat}(ag:C.lookup c=some e)(a2:F c= .pointer (some ⟨b,0,none⟩)){z:Value}(aP:Whole P e z):
  gp P C F (aY G c z) H (q0 a6 b (.own e false z.cells.toList))/\cq (q0 a6 b (.own e false z.cells.toList)) H=(cq a6 H).set b (.own e false z.cells.toList):=by
 have af:a6 b=some (.own e false (G c).cells.toList):=by
  rcases h.cell c e ag with q | ⟨cb,aT,aQ,bn⟩
  ·rw[q]at a2;cases a2
  ·rw[aT]at a2;simp at a2;subst a2;exact aQ
 have aJ:=(h.fit b _ af).1
 have gF:=h.fit.lt af
 refine⟨⟨fun cb x cK=>?_,fun r cH aj=>?_,h.inj⟩,?_⟩
 ·by_cases fG:cb=b
  ·subst fG
   rw[uG]at cK
   obtain rfl:=Option.some.inj cK
   exact⟨aJ,_,_,_,rfl⟩
  ·rw[uF _ _ fG]at cK
   exact h.fit cb x cK
 ·by_cases sd:r=c
  ·subst sd
   rw[ag]at aj
   obtain rfl:=Option.some.inj aj
   exact .inr ⟨b,a2,by rw[uG,hL],by rw[hL];exact aP⟩
  ·rw[gX _ _ sd]
   rcases h.cell r cH aj with q | ⟨cb,aT,aQ,bn⟩
   ·exact .inl q
   ·have:cb≠b:=fun e=>by subst e;exact h.inj c r e _ cb ag aj (Ne.symm sd) a2 aT
    exact .inr ⟨cb,aT,by rw[uF _ _ this];exact aQ,bn⟩
 ·apply List.ext_getElem?
  intro cb
  rw[kv]
  by_cases fG:b=cb
  ·subst fG
   rw[uG,List.getElem?_set_self (by rw[jG];exact gF),aJ]
   rfl
  ·rw[List.getElem?_set_ne fG,kv,uF _ _ (Ne.symm fG)]
end
section
variable {aK:Operand->Value} {H:ab} {b e:Nat} {x y:Operand} {v:Value}
theorem s7{v:Value}(h:eB v=true):v= .agg v.cells:=by cases v<;>simp[eB]at h;rfl
theorem XN{t:Nat}(I:aK x= .pointer (some ⟨b,0,none⟩))(aS:H[b]?=some (.own e false v.cells.toList))(hw:Whole P t v):bT P aK H (.load t x)=some (v,H):=by
 obtain⟨o,aa,aD⟩:=hw
 have ag:h_ H b=some v.cells.toList:=by unfold h_;rw[aS];rfl
 simp only[bT,I,ag]
 split at aD
 ·rename_i aF
  rw[aD]
  simp only[o]
  rw[if_pos (by simp)]
  have:(v.cells.toList.drop 0).take v.cells.size=v.cells.toList:=by rw[List.drop_zero,List.take_of_length_le (by simp)]
  rw[this]
  simp only[Array.toArray_toList]
  rw[<-s7 aF]
 ·rw[aD.1]
  simp only
  rw[aD.2]
  rfl
theorem Mn{t off:Nat}{cs:List Value}(I:aK x= .pointer (some ⟨b,off,none⟩))(aS:H[b]?=some (.own e false cs))(an:bm P t=some (aK y).cells.size)(bp:off+(aK y).cells.size<=cs.length)(o:((aK y).cells.toList.all (·.oneCell'))=true):
  bT P aK H (.store t x y)=some (undef,H.set b (.own e false (c3 cs off (aK y).cells.toList))):=by
 simp only[bT,I,aS]
 rw[if_pos ⟨an,bp,o⟩]
end
theorem Whole.XU{e off:Nat}{cs:Array Value}{aB:List Value}(h:Whole P e (.agg cs))(bp:off+aB.length<=cs.size)(o:(aB.all (·.oneCell'))=true):Whole P e (.agg (c3 cs.toList off aB).toArray):=by
 obtain⟨aT,aQ,bn⟩:=h
 have ar:(c3 cs.toList off aB).length=cs.size:=by rw[mW (by simpa using bp)];simp
 refine⟨?_,?_,by simpa[eB]using bn⟩
 ·rw[aT];simp only[Value.cells,List.size_toArray,ar]
 ·simp only[Value.cells]at aQ⊢
  rw[List.all_eq_true]at aQ⊢
  intro u hu
  simp only[c3,List.mem_append]at hu
  rcases hu with(hu | hu) | hu
  ·exact aQ u (List.mem_of_mem_take hu)
  ·exact List.all_eq_true.1 o u hu
  ·exact aQ u (List.mem_of_mem_drop hu)
theorem Nu{t:Nat}{x:Operand}{d:Option Nat}{r:List br}{F:Fr}{H H1:ab}{Q:Fr->ab->Prop}{v:Value}(h:bT P (aq F) H (.load t x)=some (v,H1))(ah:bd P r (fF F d v) H1 Q):bd P (⟨true,none,d,.load t x⟩::r) F H Q:=by
 simp only[bd,fV,h]
 exact⟨fun _=>trivial,ah⟩
theorem Nv{t:Nat}{x y:Operand}{d:Option Nat}{r:List br}{F:Fr}{H H1:ab}{Q:Fr->ab->Prop}{v:Value}(h:bT P (aq F) H (.store t x y)=some (v,H1))(ah:bd P r (fF F d v) H1 Q):bd P (⟨true,none,d,.store t x y⟩::r) F H Q:=by
 simp only[bd,fV,h]
 exact⟨fun _=>trivial,ah⟩
theorem abh{s f b U off:Nat}{x:Nat}{d:Nat}{r:List br}{F:Fr}{H:ab}{Q:Fr->ab->Prop}(I:F x= .pointer (some ⟨b,off,none⟩))(ax:gd P s f=some U)(ah:bd P r (aY F d (.pointer (some ⟨b,off+U,none⟩))) H Q):bd P (⟨true,none,some d,.fieldAddr s (.tmp x) f⟩::r) F H Q:=by
 have an:bT P (aq F) H (.fieldAddr s (.tmp x) f)=some (.pointer (some ⟨b,off+U,none⟩),H):=by simp only[bT,aq,I,ax,Option.map_some]
 simp only[bd,fV,an]
 exact⟨fun _=>trivial,ah⟩
theorem aaB{cs aB:List Value}{i:Nat}(h:i+aB.length<=cs.length):lC cs i aB=c3 cs i aB:=Fq h
theorem vH{α:Type}{U:Option α}{K:α->Prop}(h:eK U K):∃v,U=some v/\K v:=by
 cases U with
 | none=>exact h.elim
 | some v=>exact⟨v,rfl,h⟩
theorem Ek{v:Value}{K:Array Value->Prop}(h:nb v K):∃cs,v= .agg cs/\K cs:=by
 cases v with
 | agg cs=>exact⟨cs,rfl,h⟩
 | _=>exact h.elim
variable {C:Cells}
theorem Ib{E:h9}{F:Fr}{g:Option (Nat×Bool)}{s x f r off b:Nat}(h:BR P E g s x f r off=true)(bK:hX E F)(aV:lK g F)(aj:F r= .pointer (some ⟨b,0,none⟩)):∃U,gd P s f=some U/\U<=off/\F x= .pointer (some ⟨b,off-U,none⟩):=by
 unfold BR at h
 cases g2:gd P s f with
 | none=>rw[g2]at h;cases h
 | some U=>
  rw[g2]at h
  simp only[Bool.and_eq_true,decide_eq_true_eq]at h
  exact⟨U,rfl,h.1,pL h.2 bK aV aj⟩
theorem Ia{E:h9}{F:Fr}{g:Option (Nat×Bool)}{d c off:Nat}(bK:hX E F)(qu:(match g with | some (j,_)=>j !=d | none=>true)=true)(aV:¬lK g F):hX ((d,c,off,g)::kill d E) (aY F d undef):=fun y aL tS=>by
 rcases List.mem_cons.1 aL with rfl | aL
 ·refine absurd ((BY fun j w e=>gX F undef ?_).1 tS) aV
  simp only at e
  subst e
  simpa using qu
 ·exact bK.kill d _ y aL tS
theorem HB{F G:Fr}{H:ab}{a6:Nat->Option bB}{E:h9}{g:Option (Nat×Bool)}{t x c:Nat}(bl:gp P C F G H a6)(ag:C.lookup c=some t)(g3:reach E g x c 0=true)(bK:hX E F)(aV:lK g F)(aR:jC (F c)=true):bT P (aq F) (cq a6 H) (.load t (.tmp x))=some (G c,cq a6 H):=by
 obtain⟨b,dF,hI,fQ,gL,iP⟩:=bl.at ag aR
 exact XN (b:=b) (pL g3 bK aV dF) gL fQ
theorem HA{F G:Fr}{H:ab}{a6:Nat->Option bB}{E:h9}{g:Option (Nat×Bool)}{t x c e off:Nat}{K:Value->Prop}(bl:gp P C F G H a6)(ag:C.lookup c=some e)(g3:reach E g x c off=true)(bK:hX E F)(aV:lK g F)
  (h:ga (jC (F c)=true) (nb (G c) fun cs=>eK (da P t) fun a=>hC a (eK (bm P t) fun n=>ga (off+n<=cs.size) (K (.agg ((cs.toList.drop off).take n).toArray))) (eK cs.toList[off]? fun v=>K v))):∃v,bT P (aq F) (cq a6 H) (.load t (.tmp x))=some (v,cq a6 H)/\K v:=by
 obtain⟨aR,h⟩:=h
 obtain⟨b,dF,hI,fQ,gL,iP⟩:=bl.at ag aR
 obtain⟨cs,fX,h⟩:=Ek h
 have I:=pL g3 bK aV dF
 have Jg:h_ (cq a6 H) b=some cs.toList:=by unfold h_;rw[gL,fX];rfl
 obtain⟨a,aF,h⟩:=vH h
 cases a with
 | true=>
  obtain⟨n,aE,bp,a1⟩:=vH h
  exact⟨_,by simp only[bT,aq,I,Jg,aF,aE];rw[if_pos (by simpa using bp)],a1⟩
 | false=>
  obtain⟨v,ao,a1⟩:=vH h
  exact⟨v,by simp only[bT,aq,I,Jg,aF,ao];rfl,a1⟩
theorem HD{F G:Fr}{H:ab}{a6:Nat->Option bB}{E:h9}{g:Option (Nat×Bool)}{t x c:Nat}{y:Operand}(bl:gp P C F G H a6)(ag:C.lookup c=some t)(g3:reach E g x c 0=true)(bK:hX E F)(aV:lK g F)(aR:jC (F c)=true)(hw:Whole P t (aq F y)):
  ∃eF,bT P (aq F) (cq a6 H) (.store t (.tmp x) y)=some (undef,cq eF H)/\gp P C F (aY G c (aq F y)) H eF:=by
 obtain⟨b,dF,hI,fQ,gL,iP⟩:=bl.at ag aR
 have I:=pL g3 bK aV dF
 have c0:(aq F y).cells.size=(G c).cells.size:=by have:=fQ.1;rw[hw.1]at this;exact Option.some.inj this
 have an:=Mn (P:=P) (aK:=aq F) (x:= .tmp x) (y:=y) I gL hw.1 (by simp;omega) hw.2.1
 obtain⟨aT,aQ⟩:=bl.set ag dF hw
 refine⟨_,?_,aT⟩
 rw[an,aQ]
 have:c3 (G c).cells.toList 0 (aq F y).cells.toList=(aq F y).cells.toList:=by
  simp only[c3,List.take_zero,List.nil_append,Nat.zero_add]
  rw[List.drop_eq_nil_of_le (by simp;omega),List.append_nil]
 rw[this]
theorem HC{F G:Fr}{H:ab}{a6:Nat->Option bB}{E:h9}{g:Option (Nat×Bool)}{t x c e off:Nat}{y:Operand}{K:Value->Prop}(bl:gp P C F G H a6)(ag:C.lookup c=some e)(g3:reach E g x c off=true)(bK:hX E F)(aV:lK g F)
  (h:ga (jC (F c)=true) (nb (G c) fun cs=>ga (bm P t=some (aq F y).cells.size/\off+(aq F y).cells.size<=cs.size/\((aq F y).cells.toList.all (·.oneCell'))=true) (K (.agg (lC cs.toList off (aq F y).cells.toList).toArray)))):
  ∃eF v,bT P (aq F) (cq a6 H) (.store t (.tmp x) y)=some (undef,cq eF H)/\gp P C F (aY G c v) H eF/\K v:=by
 obtain⟨aR,h⟩:=h
 obtain⟨b,dF,hI,fQ,gL,iP⟩:=bl.at ag aR
 obtain⟨cs,fX,⟨o,aa,aD⟩,a1⟩:=Ek h
 have I:=pL g3 bK aV dF
 have an:=Mn (P:=P) (aK:=aq F) (x:= .tmp x) (y:=y) I gL o (by rw[fX];simpa[Value.cells]using aa) aD
 rw[fX]at an fQ
 rw[aaB (by simpa using aa)]at a1
 obtain⟨aT,aQ⟩:=bl.set ag dF (fQ.XU (aB:=(aq F y).cells.toList) (by simpa using aa) aD)
 refine⟨_,_,?_,aT,a1⟩
 rw[an,aQ]
 rfl
theorem lF:∀(l:List g7) (E:h9) (F G:Fr) (H:ab) (a6:Nat->Option bB) (Q:Fr->Fr->ab->Prop),hi P C false E l=true->gp P C F G H a6->hX E F->dg P l F G H Q->
  bd P (pV l) F (cq a6 H) fun aA H1=>∃bC a0 eF,H1=cq eF a0/\gp P C aA bC a0 eF/\Q aA bC a0
 | [],E,F,G,H,a6,Q,ah,bl,bK,h=>⟨G,H,a6,rfl,bl,h⟩
 | .xs l::r,E,F,G,H,a6,Q,ah,bl,bK,h=>by
  simp only[hi,Bool.and_eq_true]at ah
  simp only[pV,g7.back]
  refine bd.append (bd.mono (fun aA H1 cR=>?_) (bd.oC bl.fit (bd.gi h)))
  obtain⟨aC,rfl,ax,aP,a2⟩:=cR
  have vO:∀r e,C.lookup r=some e->aA r=F r:=fun r e aj=>a2 r fun U aM=>by
   have:=List.all_eq_true.1 ah.1 U aM
   cases aJ:U.d with
   | none=>simp
   | some d=>rw[aJ]at this;rintro⟨rfl⟩;simp[BI,ln,aj]at this
  exact lF r _ aA G aC a6 Q ah.2 (bl.congr vO ax) (bK.KW a2) aP
 | .bY c e::r,E,F,G,H,a6,Q,ah,bl,bK,h=>by
  simp only[hi,Bool.and_eq_true,beq_iff_eq]at ah
  obtain⟨z,aP,⟨dt,hw⟩,a1⟩:=vH h
  obtain⟨aT,aQ⟩:=bl.new ah.1 hw
  show bd P (bY c e::pV r) F (cq a6 H) _
  rw[Nt]
  simp only[aP]
  refine⟨⟨dt,by rw[hw.1];rfl⟩,?_⟩
  rw[jG,<-aQ]
  exact lF r _ _ _ _ _ Q ah.2 aT (bK.kill c _) a1
 | .cZ c e y::r,E,F,G,H,a6,Q,ah,bl,bK,h=>by
  simp only[hi,Bool.and_eq_true,beq_iff_eq]at ah
  obtain⟨hw,a1⟩:=h
  obtain⟨aT,aQ⟩:=bl.new ah.1 hw
  show bd P (cZ c e y::pV r) F (cq a6 H) _
  rw[No]
  refine⟨by rw[hw.1];rfl,?_⟩
  rw[jG,<-aQ]
  exact lF r _ _ _ _ _ Q ah.2 aT (bK.kill c _) a1
 | .bk g d s x f c off::r,E,F,G,H,a6,Q,ah,bl,bK,h=>by
  simp only[hi,Bool.and_eq_true,Bool.not_eq_true']at ah
  obtain⟨⟨⟨⟨aJ,ag⟩,ny⟩,qu⟩,aj⟩:=ah
  obtain⟨e,fz⟩:=tJ ag
  have CS:c≠d:=fun cH=>by subst cH;rw[ag]at aJ;cases aJ
  simp only[dg]at h
  refine x5 (h.imp (fun aV a1=>?_) fun aV a1=>?_)
  ·obtain⟨aR,a1⟩:=a1
   have B7:hX ((d,c,off,g)::kill d E) (aY F d (oE (F c) off)):=fun y aL tS=>by
    rcases List.mem_cons.1 aL with rfl | aL
    ·simp only;rw[hL,gX _ _ CS]
    ·exact bK.kill d _ y aL tS
   have se:=lF r _ _ _ _ _ Q aj (bl.mY aJ (oE (F c) off)) B7 a1
   obtain⟨b,dF,-⟩:=bl.at fz aR
   obtain⟨U,g2,aM,I⟩:=Ib ny bK aV dF
   refine abh I g2 ?_
   rw[dF]at se
   simp only[oE,Nat.zero_add]at se
   rw[show off-U+U=off by omega]
   exact se
  ·exact lF r _ _ _ _ _ Q aj (bl.mY aJ undef) (Ia bK qu aV) a1
 | .b1 g d t x c::r,E,F,G,H,a6,Q,ah,bl,bK,h=>by
  simp only[hi,Bool.and_eq_true,Bool.not_eq_true',beq_iff_eq]at ah
  obtain⟨⟨⟨aJ,ag⟩,g3⟩,aj⟩:=ah
  simp only[dg]at h
  refine x5 (h.imp (fun aV a1=>?_) fun aV a1=>?_)
  ·obtain⟨aR,a1⟩:=a1
   exact Nu (HB bl ag g3 bK aV aR) (lF r _ _ _ _ _ Q aj (bl.mY aJ (G c)) (bK.kill d _) a1)
  ·exact lF r _ _ _ _ _ Q aj (bl.mY aJ undef) (bK.kill d _) a1
 | .aO g d t x c off::r,E,F,G,H,a6,Q,ah,bl,bK,h=>by
  simp only[hi,Bool.and_eq_true,Bool.not_eq_true']at ah
  obtain⟨⟨⟨aJ,ag⟩,g3⟩,aj⟩:=ah
  obtain⟨e,fz⟩:=tJ ag
  simp only[dg]at h
  refine x5 (h.imp (fun aV a1=>?_) fun aV a1=>?_)
  ·obtain⟨v,an,Ce⟩:=HA (K:=fun v=>dg P r (aY F d v) G H Q) bl fz g3 bK aV a1
   exact Nu an (lF r _ _ _ _ _ Q aj (bl.mY aJ v) (bK.kill d _) Ce)
  ·exact lF r _ _ _ _ _ Q aj (bl.mY aJ undef) (bK.kill d _) a1
 | .cC b g t x y c::r,E,F,G,H,a6,Q,ah,bl,bK,h=>by
  simp only[hi,Bool.and_eq_true,beq_iff_eq,Bool.or_false]at ah
  obtain⟨⟨⟨af,ag⟩,g3⟩,aj⟩:=ah
  have af:b=true:=by simpa using af
  subst af
  simp only[dg]at h
  refine x5 (h.imp (fun aV a1=>?_) fun aV a1=>?_)
  ·obtain⟨⟨aR,hw⟩,a1⟩:=a1
   obtain⟨eF,an,gg⟩:=HD (y:=y) bl ag g3 bK aV aR hw
   exact Nv an (lF r _ _ _ _ _ Q aj gg bK a1)
  ·exact lF r _ _ _ _ _ Q aj bl bK a1
 | .st b g t x y c off::r,E,F,G,H,a6,Q,ah,bl,bK,h=>by
  simp only[hi,Bool.and_eq_true]at ah
  obtain⟨⟨⟨af,ag⟩,g3⟩,aj⟩:=ah
  have af:b=true:=by simpa using af
  subst af
  obtain⟨e,fz⟩:=tJ ag
  simp only[dg]at h
  refine x5 (h.imp (fun aV a1=>?_) fun aV a1=>?_)
  ·obtain⟨eF,v,an,gg,a1⟩:=HC (y:=y) (K:=fun v=>dg P r F (aY G c v) H Q) bl fz g3 bK aV a1
   exact Nv an (lF r _ _ _ _ _ Q aj gg bK a1)
  ·exact lF r _ _ _ _ _ Q aj bl bK a1
theorem Ns{F:Fr}{H:ab}{b cb:Bool}{ae W:List Nat}{K:Value->ab->Prop}{op:Op}(au:uI op=true)(h:fV P b F H K op):gA P cb (aq F) H ae W (fun v H1 fs ft=>fs=ae/\ft=W/\K v H1) op:=by
 have main:iO op=false->(match bT P (aq F) H op with
   | some (v,H1)=>(hx op=true->b=true)/\K v H1
   | none=>iO op=true/\∃v H1,na P (aq F) H op v H1/\(b=true\/Ext H H1)/\K v H1)->(match bT P (aq F) H op with | some (v,H1)=>ae=ae/\W=W/\K v H1 | none=>False):=by
  intro hm
  cases bT P (aq F) H op with
  | some p=>exact fun h=>⟨rfl,rfl,h.2⟩
  | none=>intro h;rw[hm]at h;cases h.1
 cases op with
 | load t x=>cases au
 | store t x y=>cases au
 | call c=>
  obtain⟨callee,args,kI⟩:=c
  cases callee with
  | value f=>cases au
  | invoke r m=>exact main rfl h
  | builtin bi=>exact main (by simpa[uI]using au) h
 | _=>exact main (by simpa[uI]using au) h
theorem fi.append:∀{l c2:List br} {F:Fr} {H:ab} {ae W:List Nat} {Q:Fr->ab->Prop} {b:Bool},(∀U∈l,uI U.op=true)->bd P l F H (fun aA H1=>fi P c2 aA H1 ae W Q)->fi P (l++c2) F H ae W Q
 | [],c2,F,H,ae,W,Q,b,au,h=>h
 | x::l,c2,F,H,ae,W,Q,b,au,h=>by
  have I:=au x List.mem_cons_self
  have ar:∀U∈l,uI U.op=true:=fun U aM=>au U (List.mem_cons_of_mem _ aM)
  simp only[List.cons_append,fi]
  simp only[bd]at h
  split
  ·rename_i aV
   rw[aV]at h
   exact gA.mono (fun v H1 fs ft ⟨bq,bh,cR⟩=>by subst bq bh;exact fi.append (b:=b) ar cR) (Ns I h)
  ·rename_i j w aV
   rw[aV]at h
   simp only at h
   split
   ·rename_i af
    rw[if_pos af]at h
    exact gA.mono (fun v H1 fs ft ⟨bq,bh,cR⟩=>by subst bq bh;exact fi.append (b:=b) ar cR) (Ns I h)
   ·rename_i af
    rw[if_neg af]at h
    exact fi.append (b:=b) ar h
theorem aa3{s f b U off:Nat}{x:Nat}{d:Nat}{r:List br}{F:Fr}{H:ab}{ae W:List Nat}{Q:Fr->ab->Prop}(I:F x= .pointer (some ⟨b,off,none⟩))(ax:gd P s f=some U)(ah:fi P r (aY F d (.pointer (some ⟨b,off+U,none⟩))) H ae W Q):fi P (⟨true,none,some d,.fieldAddr s (.tmp x) f⟩::r) F H ae W Q:=by
 have an:bT P (aq F) H (.fieldAddr s (.tmp x) f)=some (.pointer (some ⟨b,off+U,none⟩),H):=by simp only[bT,aq,I,ax,Option.map_some]
 simp only[fi,gA,an]
 exact ah
theorem Nq{t b i:Nat}{x:Operand}{d:Option Nat}{r:List br}{F:Fr}{H H1:ab}{ae W:List Nat}{Q:Fr->ab->Prop}{v:Value}(I:aq F x= .pointer (some ⟨b,i,none⟩))(tH:b∉W)(h:bT P (aq F) H (.load t x)=some (v,H1))(ah:fi P r (fF F d v) H1 (b::ae) W Q):fi P (⟨true,none,d,.load t x⟩::r) F H ae W Q:=by
 simp only[fi,gA,I,h]
 exact⟨tH,ah⟩
theorem Nr{lJ:Bool}{t b i:Nat}{x y:Operand}{d:Option Nat}{r:List br}{F:Fr}{H H1:ab}{ae W:List Nat}{Q:Fr->ab->Prop}{v:Value}(I:aq F x= .pointer (some ⟨b,i,none⟩))(tH:lJ=true\/(b∉W/\b∉ae))(h:bT P (aq F) H (.store t x y)=some (v,H1))(ah:fi P r (fF F d v) H1 ae (if lJ=true then W else b::W) Q):fi P (⟨lJ,none,d,.store t x y⟩::r) F H ae W Q:=by
 simp only[fi,gA,I,h]
 exact⟨tH,ah⟩
def n0(C:Cells)(F:Fr)(fN ae:List Nat):Prop:=∀b∈ae,∃c e,c∈fN/\C.lookup c=some e/\F c= .pointer (some ⟨b,0,none⟩)
theorem n0.not{F G:Fr}{H:ab}{a6:Nat->Option bB}{fN ae:List Nat}{c e b:Nat}(h:n0 C F fN ae)(bl:gp P C F G H a6)(ag:C.lookup c=some e)(a2:F c= .pointer (some ⟨b,0,none⟩))(aE:c∉fN):b∉ae:=fun af=>by
 obtain⟨dL,cH,o,aa,aD⟩:=h b af
 have:dL≠c:=fun e=>aE (e▸o)
 exact bl.inj dL c cH e b aa ag this aD a2
theorem n0.cons{F:Fr}{fN ae:List Nat}{c e b:Nat}(h:n0 C F fN ae)(ag:C.lookup c=some e)(a2:F c= .pointer (some ⟨b,0,none⟩)):n0 C F (c::fN) (b::ae):=fun cb af=>by
 rcases List.mem_cons.1 af with rfl | af
 ·exact⟨c,e,List.mem_cons_self,ag,a2⟩
 ·obtain⟨dL,cH,o,aa,aD⟩:=h cb af
  exact⟨dL,cH,List.mem_cons_of_mem _ o,aa,aD⟩
theorem n0.congr{F aA:Fr}{fN ae:List Nat}(h:n0 C F fN ae)(a2:∀r e,C.lookup r=some e->aA r=F r):n0 C aA fN ae:=fun b af=>by
 obtain⟨c,e,o,aa,aD⟩:=h b af
 exact⟨c,e,o,aa,by rw[a2 c e aa];exact aD⟩
theorem mZ{F:Fr}{d:Nat}{v:Value}(aJ:ln C d=false):∀r e,C.lookup r=some e->aY F d v r=F r:=fun r e aj=>gX _ _ (by rintro rfl;simp[ln,aj]at aJ)
theorem m1:∀(l:List g7) (E:h9) (fN g6 ae W:List Nat) (F G:Fr) (H:ab) (a6:Nat->Option bB) (Q:Fr->Fr->ab->Prop),hi P C true E l=true->lE fN g6 l=true->n0 C F fN ae->n0 C F g6 W->gp P C F G H a6->hX E F->dg P l F G H Q->
  fi P (pV l) F (cq a6 H) ae W fun aA H1=>∃bC a0 eF,H1=cq eF a0/\gp P C aA bC a0 eF/\Q aA bC a0
 | [],E,fN,g6,ae,W,F,G,H,a6,Q,ah,fY,ie,hr,bl,bK,h=>⟨G,H,a6,rfl,bl,h⟩
 | .xs l::r,E,fN,g6,ae,W,F,G,H,a6,Q,ah,fY,ie,hr,bl,bK,h=>by
  simp only[hi,Bool.and_eq_true]at ah
  simp only[lE,Bool.and_eq_true]at fY
  simp only[pV,g7.back]
  refine fi.append (b:=true) (fun U aM=>List.all_eq_true.1 fY.1 U aM) (bd.mono (fun aA H1 cR=>?_) (bd.oC bl.fit (bd.gi h)))
  obtain⟨aC,rfl,ax,aP,a2⟩:=cR
  have vO:∀r e,C.lookup r=some e->aA r=F r:=fun r e aj=>a2 r fun U aM=>by
   have:=List.all_eq_true.1 ah.1 U aM
   cases aJ:U.d with
   | none=>simp
   | some d=>rw[aJ]at this;rintro⟨rfl⟩;simp[BI,ln,aj]at this
  exact m1 r _ fN g6 ae W aA G aC a6 Q ah.2 fY.2 (ie.congr vO) (hr.congr vO) (bl.congr vO ax) (bK.KW a2) aP
 | .bY c e::r,E,fN,g6,ae,W,F,G,H,a6,Q,ah,fY,ie,hr,bl,bK,h=>by cases fY
 | .cZ c e y::r,E,fN,g6,ae,W,F,G,H,a6,Q,ah,fY,ie,hr,bl,bK,h=>by cases fY
 | .bk g d s x f c off::r,E,fN,g6,ae,W,F,G,H,a6,Q,ah,fY,ie,hr,bl,bK,h=>by
  simp only[hi,Bool.and_eq_true,Bool.not_eq_true']at ah
  simp only[lE]at fY
  obtain⟨⟨⟨⟨aJ,ag⟩,ny⟩,qu⟩,aj⟩:=ah
  obtain⟨e,fz⟩:=tJ ag
  have CS:c≠d:=fun cH=>by subst cH;rw[ag]at aJ;cases aJ
  simp only[dg]at h
  refine x3 (h.imp (fun aV a1=>?_) fun aV a1=>?_)
  ·obtain⟨aR,a1⟩:=a1
   have B7:hX ((d,c,off,g)::kill d E) (aY F d (oE (F c) off)):=fun y aL tS=>by
    rcases List.mem_cons.1 aL with rfl | aL
    ·simp only;rw[hL,gX _ _ CS]
    ·exact bK.kill d _ y aL tS
   have se:=m1 r _ fN g6 ae W _ _ _ _ Q aj fY (ie.congr (mZ aJ)) (hr.congr (mZ aJ)) (bl.mY aJ (oE (F c) off)) B7 a1
   obtain⟨b,dF,-⟩:=bl.at fz aR
   obtain⟨U,g2,aM,I⟩:=Ib ny bK aV dF
   refine aa3 I g2 ?_
   rw[dF]at se
   simp only[oE,Nat.zero_add]at se
   rw[show off-U+U=off by omega]
   exact se
  ·exact m1 r _ fN g6 ae W _ _ _ _ Q aj fY (ie.congr (mZ aJ)) (hr.congr (mZ aJ)) (bl.mY aJ undef) (Ia bK qu aV) a1
 | .b1 g d t x c::r,E,fN,g6,ae,W,F,G,H,a6,Q,ah,fY,ie,hr,bl,bK,h=>by
  simp only[hi,Bool.and_eq_true,Bool.not_eq_true',beq_iff_eq]at ah
  simp only[lE,Bool.and_eq_true,Bool.not_eq_true']at fY
  obtain⟨⟨⟨aJ,ag⟩,g3⟩,aj⟩:=ah
  simp only[dg]at h
  refine x3 (h.imp (fun aV a1=>?_) fun aV a1=>?_)
  ·obtain⟨aR,a1⟩:=a1
   obtain⟨b,dF,-⟩:=bl.at ag aR
   exact Nq (i:=0) (pL g3 bK aV dF) (hr.not bl ag dF (by simpa using fY.1)) (HB bl ag g3 bK aV aR)
    (m1 r _ (c::fN) g6 _ W _ _ _ _ Q aj fY.2 ((ie.cons ag dF).congr (mZ aJ)) (hr.congr (mZ aJ)) (bl.mY aJ (G c)) (bK.kill d _) a1)
  ·refine m1 r _ (c::fN) g6 ae W _ _ _ _ Q aj fY.2 (fun b af=>?_) (hr.congr (mZ aJ)) (bl.mY aJ undef) (bK.kill d _) a1
   obtain⟨dL,cH,o,aa⟩:=(ie.congr (mZ aJ)) b af
   exact⟨dL,cH,List.mem_cons_of_mem _ o,aa⟩
 | .aO g d t x c off::r,E,fN,g6,ae,W,F,G,H,a6,Q,ah,fY,ie,hr,bl,bK,h=>by
  simp only[hi,Bool.and_eq_true,Bool.not_eq_true']at ah
  simp only[lE,Bool.and_eq_true,Bool.not_eq_true']at fY
  obtain⟨⟨⟨aJ,ag⟩,g3⟩,aj⟩:=ah
  obtain⟨e,fz⟩:=tJ ag
  simp only[dg]at h
  refine x3 (h.imp (fun aV a1=>?_) fun aV a1=>?_)
  ·obtain⟨b,dF,-⟩:=bl.at fz a1.1
   obtain⟨v,an,Ce⟩:=HA (K:=fun v=>dg P r (aY F d v) G H Q) bl fz g3 bK aV a1
   exact Nq (i:=off) (pL g3 bK aV dF) (hr.not bl fz dF (by simpa using fY.1)) an
    (m1 r _ (c::fN) g6 _ W _ _ _ _ Q aj fY.2 ((ie.cons fz dF).congr (mZ aJ)) (hr.congr (mZ aJ)) (bl.mY aJ v) (bK.kill d _) Ce)
  ·refine m1 r _ (c::fN) g6 ae W _ _ _ _ Q aj fY.2 (fun b af=>?_) (hr.congr (mZ aJ)) (bl.mY aJ undef) (bK.kill d _) a1
   obtain⟨dL,cH,o,aa⟩:=(ie.congr (mZ aJ)) b af
   exact⟨dL,cH,List.mem_cons_of_mem _ o,aa⟩
 | .cC lJ g t x y c::r,E,fN,g6,ae,W,F,G,H,a6,Q,ah,fY,ie,hr,bl,bK,h=>by
  simp only[hi,Bool.and_eq_true,beq_iff_eq]at ah
  simp only[lE,Bool.and_eq_true,Bool.or_eq_true,Bool.not_eq_true']at fY
  obtain⟨⟨⟨-,ag⟩,g3⟩,aj⟩:=ah
  simp only[dg]at h
  refine x3 (h.imp (fun aV a1=>?_) fun aV a1=>?_)
  ·obtain⟨⟨aR,hw⟩,a1⟩:=a1
   obtain⟨b,dF,-⟩:=bl.at ag aR
   obtain⟨eF,an,gg⟩:=HD (y:=y) bl ag g3 bK aV aR hw
   refine Nr (i:=0) (pL g3 bK aV dF) (fY.1.imp id fun q=>⟨hr.not bl ag dF (by simpa using q.1),ie.not bl ag dF (by simpa using q.2)⟩) an
    (m1 r _ fN (if lJ=true then g6 else c::g6) ae _ _ _ _ _ Q aj fY.2 ie ?_ gg bK a1)
   cases lJ with
   | true=>exact hr
   | false=>exact hr.cons ag dF
  ·refine m1 r _ fN (if lJ=true then g6 else c::g6) ae W _ _ _ _ Q aj fY.2 ie (fun b af=>?_) bl bK a1
   obtain⟨dL,cH,o,aa⟩:=hr b af
   cases lJ with
   | true=>exact⟨dL,cH,o,aa⟩
   | false=>exact⟨dL,cH,List.mem_cons_of_mem _ o,aa⟩
 | .st lJ g t x y c off::r,E,fN,g6,ae,W,F,G,H,a6,Q,ah,fY,ie,hr,bl,bK,h=>by
  simp only[hi,Bool.and_eq_true]at ah
  simp only[lE,Bool.and_eq_true,Bool.or_eq_true,Bool.not_eq_true']at fY
  obtain⟨⟨⟨-,ag⟩,g3⟩,aj⟩:=ah
  obtain⟨e,fz⟩:=tJ ag
  simp only[dg]at h
  refine x3 (h.imp (fun aV a1=>?_) fun aV a1=>?_)
  ·obtain⟨b,dF,-⟩:=bl.at fz a1.1
   obtain⟨eF,v,an,gg,a1⟩:=HC (y:=y) (K:=fun v=>dg P r F (aY G c v) H Q) bl fz g3 bK aV a1
   refine Nr (i:=off) (pL g3 bK aV dF) (fY.1.imp id fun q=>⟨hr.not bl fz dF (by simpa using q.1),ie.not bl fz dF (by simpa using q.2)⟩) an
    (m1 r _ fN (if lJ=true then g6 else c::g6) ae _ _ _ _ _ Q aj fY.2 ie ?_ gg bK a1)
   cases lJ with
   | true=>exact hr
   | false=>exact hr.cons fz dF
  ·refine m1 r _ fN (if lJ=true then g6 else c::g6) ae W _ _ _ _ Q aj fY.2 ie (fun b af=>?_) bl bK a1
   obtain⟨dL,cH,o,aa⟩:=hr b af
   cases lJ with
   | true=>exact⟨dL,cH,o,aa⟩
   | false=>exact⟨dL,cH,List.mem_cons_of_mem _ o,aa⟩
theorem nb.imp{v:Value}{K dW:Array Value->Prop}(h:nb v K)(ah:∀cs,K cs->dW cs):nb v dW:=by
 obtain⟨cs,rfl,h⟩:=Ek h
 exact ah cs h
theorem eK.imp{α:Type}{U:Option α}{K dW:α->Prop}(h:eK U K)(ah:∀v,K v->dW v):eK U dW:=by
 obtain⟨v,rfl,h⟩:=vH h
 exact ah v h
theorem ga.imp{c K dW:Prop}(h:ga c K)(ah:K->dW):ga c dW:=⟨h.1,ah h.2⟩
theorem hC.imp{b:Bool}{A B u_ kz:Prop}(h:hC b A B)(o:A->u_)(aa:B->kz):hC b u_ kz:=by
 cases b
 ·exact aa h
 ·exact o h
theorem dg.gi:∀{l:List g7} {m k:Nat} {F G:Fr} {H:ab} {Q b6:Fr->Fr->ab->Prop},(l.all (vp m k))=true->(∀aA bC H1,(∀r,gI m r=false->aA r=F r)->(∀r,gI k r=false->bC r=G r)->Q aA bC H1->b6 aA bC H1)->dg P l F G H Q->dg P l F G H b6
 | [],m,k,F,G,H,Q,b6,aF,au,h=>au _ _ _ (fun _ _=>rfl) (fun _ _=>rfl) h
 | i::l,m,k,F,G,H,Q,b6,aF,au,h=>by
  simp only[List.all_cons,Bool.and_eq_true]at aF
  have pR:∀{d:Nat} {v:Value} {x8:Fr} {aC:ab},gI m d=true->(∀r,gI k r=false->x8 r=G r)->dg P l (aY F d v) x8 aC Q->dg P l (aY F d v) x8 aC b6:=fun{d v x8 aC} aJ gq o=>
   dg.gi aF.2 (fun aA bC H1 f1 cl=>au aA bC H1 (fun r aj=>by rw[f1 r aj,gX];rintro rfl;rw[aJ]at aj;cases aj) (fun r aj=>by rw[cl r aj,gq r aj])) o
  have Nb:∀{c:Nat} {v:Value} {aC:ab},gI k c=true->dg P l F (aY G c v) aC Q->dg P l F (aY G c v) aC b6:=fun{c v aC} ag o=>
   dg.gi aF.2 (fun aA bC H1 f1 cl=>au aA bC H1 f1 (fun r aj=>by rw[cl r aj,gX];rintro rfl;rw[ag]at aj;cases aj)) o
  have Lv:∀{c:Nat} {v:Value},gI k c=true->∀r,gI k r=false->aY G c v r=G r:=fun{c v} ag r aj=>gX _ _ (by rintro rfl;rw[ag]at aj;cases aj)
  cases i with
  | xs aa2=>
   simp only[dg]at h⊢
   refine bd.mono (fun aA H1 ⟨o,a2⟩=>dg.gi aF.2 (fun bV dz a0 f2 iX=>au bV dz a0 (fun r aj=>?_) iX) o) (bd.gi h)
   rw[f2 r aj,a2 r fun U aM aJ=>?_]
   have:=List.all_eq_true.1 aF.1 U aM
   rw[aJ]at this
   simp only[H2]at this
   rw[this]at aj
   cases aj
  | bY c e=>
   simp only[vp,Bool.and_eq_true]at aF
   simp only[dg]at h⊢
   exact h.imp fun z aP=>aP.imp (pR aF.1.1 (Lv aF.1.2))
  | cZ c e y=>
   simp only[vp,Bool.and_eq_true]at aF
   simp only[dg]at h⊢
   exact h.imp (pR aF.1.1 (Lv aF.1.2))
  | bk g d s x f c off=>
   simp only[dg]at h⊢
   exact h.imp (fun _ q=>q.imp (pR aF.1 fun _ _=>rfl)) fun _=>pR aF.1 fun _ _=>rfl
  | b1 g d t x c=>
   simp only[dg]at h⊢
   exact h.imp (fun _ q=>q.imp (pR aF.1 fun _ _=>rfl)) fun _=>pR aF.1 fun _ _=>rfl
  | aO g d t x c off=>
   simp only[dg]at h⊢
   exact h.imp (fun _ q=>q.imp fun q=>q.imp fun cs q=>q.imp fun a q=>q.imp (fun q=>q.imp fun n q=>q.imp (pR aF.1 fun _ _=>rfl)) fun q=>q.imp fun v=>pR aF.1 fun _ _=>rfl) fun _=>pR aF.1 fun _ _=>rfl
  | cC b g t x y c=>
   simp only[dg]at h⊢
   exact h.imp (fun _ q=>q.imp (Nb aF.1)) fun _=>dg.gi aF.2 au
  | st b g t x y c off=>
   simp only[dg]at h⊢
   exact h.imp (fun _ q=>q.imp fun q=>q.imp fun cs q=>q.imp (Nb aF.1)) fun _=>dg.gi aF.2 au
theorem eJ.gi:∀{x:eI} {m k:Nat} {F G:Fr} {H:ab} {Q b6:ds->Fr->Fr->ab->Prop},jL m k x=true->(∀e aA bC H1,(∀r,gI m r=false->aA r=F r)->(∀r,gI k r=false->bC r=G r)->Q e aA bC H1->b6 e aA bC H1)->eJ P x F G H Q->eJ P x F G H b6
 | .skip,m,k,F,G,H,Q,b6,aF,au,h=>au _ _ _ _ (fun _ _=>rfl) (fun _ _=>rfl) h
 | .ret,m,k,F,G,H,Q,b6,aF,au,h=>au _ _ _ _ (fun _ _=>rfl) (fun _ _=>rfl) h
 | .exit id,m,k,F,G,H,Q,b6,aF,au,h=>au _ _ _ _ (fun _ _=>rfl) (fun _ _=>rfl) h
 | .seq x y,m,k,F,G,H,Q,b6,aF,au,h=>by
  simp only[jL,Bool.and_eq_true]at aF
  refine eJ.gi (x:=x) aF.1 (fun e aA bC H1 f1 cl o=>?_) h
  cases e with
  | normal=>exact eJ.gi (x:=y) aF.2 (fun e bV dz a0 f2 iX=>au e bV dz a0 (fun r aj=>by rw[f2 r aj,f1 r aj]) (fun r aj=>by rw[iX r aj,cl r aj])) o
  | exit id=>exact au _ _ _ _ f1 cl o
  | ret=>exact au _ _ _ _ f1 cl o
 | .cond c x y,m,k,F,G,H,Q,b6,aF,au,h=>by
  simp only[jL,Bool.and_eq_true]at aF
  simp only[eJ]at h⊢
  cases ao:aq F c<;>rw[ao]at h<;>try exact h.elim
  rename_i b
  cases b with
  | true=>exact eJ.gi (x:=x) aF.1 au h
  | false=>exact eJ.gi (x:=y) aF.2 au h
 | .block id x,m,k,F,G,H,Q,b6,aF,au,h=>by
  simp only[jL]at aF
  refine eJ.gi (x:=x) aF (fun e aA bC H1 f1 cl o=>?_) h
  cases e with
  | normal=>exact au _ _ _ _ f1 cl o
  | ret=>exact au _ _ _ _ f1 cl o
  | exit hv=>
   simp only[p6]at o⊢
   split
   ·rename_i ad;rw[if_pos ad]at o;exact au _ _ _ _ f1 cl o
   ·rename_i ad;rw[if_neg ad]at o;exact au _ _ _ _ f1 cl o
 | .loop l1 bN x,m,k,F,G,H,Q,b6,aF,au,h=>by
  simp only[jL]at aF
  simp only[eJ]at h⊢
  induction h with
  | round ak af dc aW=>
   rename_i NB ND cx
   refine .round (fun aA bC H1=>ak aA bC H1/\(∀r,gI m r=false->aA r=NB r)/\∀r,gI k r=false->bC r=ND r) (eJ.gi (x:=x) aF (fun e aA bC H1 f1 cl o=>?_) af) ?_
   ·cases e with
    | normal=>exact⟨o,f1,cl⟩
    | exit id=>exact au _ _ _ _ f1 cl o
    | ret=>exact au _ _ _ _ f1 cl o
   ·rintro aA bC H1 ⟨o,f1,cl⟩
    exact aW aA bC H1 o fun e bV dz a0 f2 iX=>au e bV dz a0 (fun r aj=>by rw[f2 r aj,f1 r aj]) (fun r aj=>by rw[iX r aj,cl r aj])
 | .box l1 bN x,m,k,F,G,H,Q,b6,aF,au,h=>eJ.gi (x:=x) aF au h
 | .ops l,m,k,F,G,H,Q,b6,aF,au,h=>dg.gi aF (fun aA bC H1=>au _ aA bC H1) h
 | .opsL l,m,k,F,G,H,Q,b6,aF,au,h=>dg.gi aF (fun aA bC H1=>au _ aA bC H1) h
theorem dg.mono:∀{l:List g7} {F G:Fr} {H:ab} {Q b6:Fr->Fr->ab->Prop},(∀F G H,Q F G H->b6 F G H)->dg P l F G H Q->dg P l F G H b6
 | [],F,G,H,Q,b6,au,h=>au _ _ _ h
 | i::l,F,G,H,Q,b6,au,h=>by
  have aW:∀{F G:Fr} {H:ab},dg P l F G H Q->dg P l F G H b6:=dg.mono au
  cases i<;>simp only[dg]at h⊢
  case xs aa2=>exact bd.mono (fun aA H1=>aW) h
  case bY=>exact h.imp fun z aP=>aP.imp aW
  case cZ=>exact h.imp aW
  case bk=>exact h.imp (fun _ q=>q.imp aW) fun _=>aW
  case b1=>exact h.imp (fun _ q=>q.imp aW) fun _=>aW
  case aO=>exact h.imp (fun _ q=>q.imp fun q=>q.imp fun cs q=>q.imp fun a q=>q.imp (fun q=>q.imp fun n q=>q.imp aW) fun q=>q.imp fun v=>aW) fun _=>aW
  case cC=>exact h.imp (fun _ q=>q.imp aW) fun _=>aW
  case st=>exact h.imp (fun _ q=>q.imp fun q=>q.imp fun cs q=>q.imp aW) fun _=>aW
theorem eJ.mono:∀{x:eI} {F G:Fr} {H:ab} {Q b6:ds->Fr->Fr->ab->Prop},(∀e F G H,Q e F G H->b6 e F G H)->eJ P x F G H Q->eJ P x F G H b6
 | .skip,F,G,H,Q,b6,au,h=>au _ _ _ _ h
 | .ret,F,G,H,Q,b6,au,h=>au _ _ _ _ h
 | .exit id,F,G,H,Q,b6,au,h=>au _ _ _ _ h
 | .seq x y,F,G,H,Q,b6,au,h=>by
  refine eJ.mono (x:=x) (fun e aA bC H1 o=>?_) h
  cases e with
  | normal=>exact eJ.mono (x:=y) au o
  | exit id=>exact au _ _ _ _ o
  | ret=>exact au _ _ _ _ o
 | .cond c x y,F,G,H,Q,b6,au,h=>by
  simp only[eJ]at h⊢
  cases ao:aq F c<;>rw[ao]at h<;>try exact h.elim
  rename_i b
  cases b with
  | true=>exact eJ.mono (x:=x) au h
  | false=>exact eJ.mono (x:=y) au h
 | .block id x,F,G,H,Q,b6,au,h=>by
  refine eJ.mono (x:=x) (fun e aA bC H1 o=>?_) h
  cases e with
  | normal=>exact au _ _ _ _ o
  | ret=>exact au _ _ _ _ o
  | exit hv=>
   simp only[p6]at o⊢
   split
   ·rename_i ad;rw[if_pos ad]at o;exact au _ _ _ _ o
   ·rename_i ad;rw[if_neg ad]at o;exact au _ _ _ _ o
 | .loop l1 bN x,F,G,H,Q,b6,au,h=>by
  simp only[eJ]at h⊢
  induction h with
  | round ak af dc aW=>
   refine .round ak (eJ.mono (x:=x) (fun e aA bC H1 o=>?_) af) aW
   cases e with
   | normal=>exact o
   | exit id=>exact au _ _ _ _ o
   | ret=>exact au _ _ _ _ o
 | .box l1 bN x,F,G,H,Q,b6,au,h=>eJ.mono (x:=x) au h
 | .ops l,F,G,H,Q,b6,au,h=>dg.mono (fun aA bC H1=>au _ aA bC H1) h
 | .opsL l,F,G,H,Q,b6,au,h=>dg.mono (fun aA bC H1=>au _ aA bC H1) h
theorem rj:∀(z:eI) (F G:Fr) (H:ab) (a6:Nat->Option bB) (Q:ds->Fr->Fr->ab->Prop),ke P C z=true->gp P C F G H a6->eJ P z F G H Q->
  ej P z.back F (cq a6 H) fun e aA H1=>∃bC a0 eF,H1=cq eF a0/\gp P C aA bC a0 eF/\Q e aA bC a0
 | .skip,F,G,H,a6,Q,ah,bl,h=>⟨G,H,a6,rfl,bl,h⟩
 | .ret,F,G,H,a6,Q,ah,bl,h=>⟨G,H,a6,rfl,bl,h⟩
 | .exit id,F,G,H,a6,Q,ah,bl,h=>⟨G,H,a6,rfl,bl,h⟩
 | .seq x y,F,G,H,a6,Q,ah,bl,h=>by
  simp only[ke,Bool.and_eq_true]at ah
  refine ej.mono (x:=x.back) (fun e aA H1 ⟨bC,a0,eF,bq,gg,au⟩=>?_) (rj x F G H a6 _ ah.1 bl h)
  cases e with
  | normal=>rw[bq];exact rj y aA bC a0 eF Q ah.2 gg au
  | exit id=>exact⟨bC,a0,eF,bq,gg,au⟩
  | ret=>exact⟨bC,a0,eF,bq,gg,au⟩
 | .cond c x y,F,G,H,a6,Q,ah,bl,h=>by
  simp only[ke,Bool.and_eq_true]at ah
  simp only[eJ]at h
  simp only[eI.back,ej]
  cases ao:aq F c<;>rw[ao]at h<;>try exact h.elim
  rename_i b
  cases b with
  | true=>exact rj x F G H a6 Q ah.1 bl h
  | false=>exact rj y F G H a6 Q ah.2 bl h
 | .block id x,F,G,H,a6,Q,ah,bl,h=>by
  simp only[ke]at ah
  refine ej.mono (x:=x.back) (fun e aA H1 ⟨bC,a0,eF,bq,gg,au⟩=>?_) (rj x F G H a6 _ ah bl h)
  cases e with
  | normal=>exact⟨bC,a0,eF,bq,gg,au⟩
  | exit hv=>
   simp only[p6]at au
   simp only[oZ]
   split
   ·rename_i ad;rw[if_pos ad]at au;exact⟨bC,a0,eF,bq,gg,au⟩
   ·rename_i ad;rw[if_neg ad]at au;exact⟨bC,a0,eF,bq,gg,au⟩
  | ret=>exact⟨bC,a0,eF,bq,gg,au⟩
 | .loop m k x,F,G,H,a6,Q,ah,bl,h=>by
  simp only[ke,Bool.and_eq_true]at ah
  simp only[eJ]at h
  simp only[eI.back,ej]
  induction h generalizing a6 with
  | round ak af dc aW=>
   refine .round (fun aA H1=>∃bC a0 eF,H1=cq eF a0/\gp P C aA bC a0 eF/\ak aA bC a0) (ej.mono (x:=x.back) (fun e aA H1 ⟨bC,a0,eF,bq,gg,au⟩=>?_) (rj x _ _ _ a6 _ ah.2 bl af)) ?_
   ·rintro aA H1 ⟨bC,a0,eF,bq,gg,au⟩
    rw[bq]
    exact aW aA bC a0 au eF gg
   ·cases e with
    | normal=>exact⟨bC,a0,eF,bq,gg,au⟩
    | exit id=>exact⟨bC,a0,eF,bq,gg,au⟩
    | ret=>exact⟨bC,a0,eF,bq,gg,au⟩
 | .box m k x,F,G,H,a6,Q,ah,bl,h=>by
  simp only[ke,Bool.and_eq_true]at ah
  exact rj x F G H a6 Q ah.2 bl h
 | .ops l,F,G,H,a6,Q,ah,bl,h=>lF l [] F G H a6 _ ah bl (hX.nil F) h
 | .opsL l,F,G,H,a6,Q,ah,bl,h=>by
  simp only[ke,Bool.and_eq_true]at ah
  exact m1 l [] [] [] [] [] F G H a6 _ ah.1 ah.2 (fun b af=>by simp at af) (fun b af=>by simp at af) bl (hX.nil F) h
theorem A9{F G:Fr}{H:ab}{a6:Nat->Option bB}(bl:gp P C F G H a6):∀(rs:List jm) (K:List Value->Prop),sT C rs=true->n2 F G rs K->jK P F (cq a6 H) (rs.map jm.back) K
 | [],K,ah,h=>h
 | .tmp i::rs,K,ah,h=>A9 bl rs _ (by simpa[sT]using ah) h
 | .cell a ty::rs,K,ah,h=>by
  simp only[sT,List.all_cons,Bool.and_eq_true,beq_iff_eq]at ah
  obtain⟨aR,h⟩:=h
  obtain⟨b,dF,hI,⟨a7,h6,cf⟩,gL,iP⟩:=bl.at ah.1 aR
  have aW:=A9 bl rs (fun aB=>K (G a::aB)) (by simpa[sT]using ah.2) h
  simp only[List.map_cons,jm.back,jK,dF]
  have ag:h_ (cq a6 H) b=some (G a).cells.toList:=by unfold h_;rw[gL];rfl
  rw[ag]
  simp only
  split at cf
  ·rename_i aF
   rw[cf]
   simp only[a7]
   refine⟨by simp,?_⟩
   have:(((G a).cells.toList.drop 0).take (G a).cells.size)=(G a).cells.toList:=by rw[List.drop_zero,List.take_of_length_le (by simp)]
   rw[this]
   simp only[Array.toArray_toList]
   rw[<-s7 aF]
   exact aW
  ·rw[cf.1]
   simp only
   rw[cf.2]
   exact aW
def lg(a6:Nat->Option bB)(n:Nat):Nat->Option bB:=fun b=>if b<n then none else a6 b
theorem KV{f:FuncId}{args:List Value}{v:Value}{H H1:ab}{a6:Nat->Option bB}(ax:Fit a6 H1)(h:dK P (.call f args H) (.val v (cq a6 H1))):∀n,dK P (.call f args H) (.val v (cq (lg a6 n) H1))
 | 0=>by
  have:lg a6 0=a6:=by funext b;simp[lg]
  rw[this];exact h
 | n+1=>by
  have aW:=KV ax h n
  cases aR:a6 n with
  | none=>
   have:lg a6 (n+1)=lg a6 n:=by
    funext b
    unfold lg
    by_cases af:b=n
    ·subst af;simp[aR]
    ·by_cases a5:b<n
     ·rw[if_pos (by omega),if_pos a5]
     ·rw[if_neg (by omega),if_neg a5]
   rw[this];exact aW
  | some x=>
   obtain⟨aJ,e,l,cs,I⟩:=ax n x aR
   have a5:=ax.lt aR
   have lo:(cq (lg a6 n) H1)[n]?=some (.own e l cs):=by
    rw[kv,aJ]
    simp[lg,aR,I]
   have aa:=dK.yq aW ⟨e,l,cs,lo⟩
   have:(cq (lg a6 n) H1).set n .dead=cq (lg a6 (n+1)) H1:=by
    apply List.ext_getElem?
    intro b
    by_cases af:n=b
    ·subst af
     rw[List.getElem?_set_self (by rw[jG];exact a5),kv,aJ]
     simp[lg]
    ·rw[List.getElem?_set_ne af,kv,kv]
     congr 1
     funext y
     unfold lg
     by_cases ar:b<n
     ·rw[if_pos ar,if_pos (by omega)]
     ·rw[if_neg ar,if_neg (by omega)]
   rw[<-this];exact aa
theorem OC{H1:ab}{a6:Nat->Option bB}(ax:Fit a6 H1):cq (lg a6 H1.length) H1=H1:=by
 apply List.ext_getElem?
 intro b
 rw[kv]
 by_cases af:b<H1.length
 ·simp[lg,af]
 ·rw[List.getElem?_eq_none (by omega)];rfl
theorem aZ.abM{f:FuncId}{fn:Func}{z:dm}{args:List Value}{H:ab}{Q:Value->ab->Prop}(ax:P.funcs[f]?=some fn)(aE:(fn.name== "runtime.NumGoroutine")=false)(ag:comp P fn=some z.back)(aP:(ke P C z.code&&sT C z.results)=true)
  (ar:args.length<=fn.ntmps)(qg:(C.all fun p=>decide (args.length<=p.1))=true)(h:eJ P z.code (iV args) (fun _=>undef) H (xC z.results Q)):aZ P f args H Q:=by
 simp only[Bool.and_eq_true]at aP
 have zz:cq (fun _=>none) H=H:=by
  apply List.ext_getElem?
  intro b
  rw[kv]
  cases H[b]?<;>rfl
 have bl:gp P C (iV args) (fun _=>undef) H (fun _=>none):=by
  have hu:∀r e,C.lookup r=some e->iV args r=undef:=fun r e aj=>by
   have:=of_decide_eq_true (List.all_eq_true.1 qg _ (Ea aj))
   simp only at this
   unfold iV
   rw[List.getD_eq_getElem?_getD,List.getElem?_eq_none this]
   rfl
  exact⟨fun b x af=>(by cases af),fun r e aj=> .inl (hu r e aj),fun r di e cH b aj fo cG a2=>by rw[hu r e aj]at a2;cases a2⟩
 have I:=rj z.code _ _ _ _ _ aP.1 bl h
 rw[zz]at I
 obtain⟨v,H1,o,aa,aD⟩:=aZ.KQ (Q:=fun v H1=>∃eF a0,H1=cq eF a0/\Fit eF a0/\Q v a0) ax aE ag ar (ej.mono (x:=z.code.back) (fun e aA H1 ⟨bC,a0,eF,bq,gg,au⟩=>by
  cases e with
  | normal=>
   rw[bq]
   simp only[pM]
   refine A9 gg _ _ aP.2 ?_
   have:∀(rs:List jm) (K dW:List Value->Prop),(∀aB,K aB->dW aB)->n2 aA bC rs K->n2 aA bC rs dW:=by
    intro rs
    induction rs with
    | nil=>intro K dW ah h;exact ah _ h
    | cons r rs aW=>
     intro K dW ah h
     cases r with
     | tmp i=>exact aW _ _ (fun aB=>ah _) h
     | cell a ty=>exact⟨h.1,aW _ _ (fun aB=>ah _) h.2⟩
   exact this _ _ _ (fun aB ao=>⟨eF,a0,rfl,gg.fit,ao⟩) au
  | exit id=>exact au
  | ret=>
   rw[bq]
   simp only[pM]
   refine A9 gg _ _ aP.2 ?_
   have:∀(rs:List jm) (K dW:List Value->Prop),(∀aB,K aB->dW aB)->n2 aA bC rs K->n2 aA bC rs dW:=by
    intro rs
    induction rs with
    | nil=>intro K dW ah h;exact ah _ h
    | cons r rs aW=>
     intro K dW ah h
     cases r with
     | tmp i=>exact aW _ _ (fun aB=>ah _) h
     | cell a ty=>exact⟨h.1,aW _ _ (fun aB=>ah _) h.2⟩
   exact this _ _ _ (fun aB ao=>⟨eF,a0,rfl,gg.fit,ao⟩) au) I)
 obtain⟨eF,a0,rfl,bp,aG⟩:=aD
 have:=KV bp aa a0.length
 rw[OC bp]at this
 exact⟨v,a0,.inl ⟨o,this⟩,aG⟩
end
def ec(P:Program)(l:List g7)(Q:Fr->Fr->ab->Prop)(aw:a_ l Q)(F G:Fr)(H:ab):Prop:=dg P l F G H Q
def bU(P:Program)(x:eI)(Q:ds->Fr->Fr->ab->Prop)(aw:a_ x Q)(F G:Fr)(H:ab):Prop:=eJ P x F G H Q
def rz(rs:List jm)(K:List Value->Prop)(aw:a_ rs K)(F G:Fr):Prop:=n2 F G rs K
def dx(P:Program)(m k:Nat)(x:eI)(Q:ds->Fr->Fr->ab->Prop)(aw:a_ x Q)(F G:Fr)(H:ab):Prop:=ve (eJ P x) Q F G H
def ew(P:Program)(e:Nat)(K:Prop)(aw:a_ K K)(v:Value):Prop:=ga (Whole P e v) K
theorem ew.mk{P:Program}{e:Nat}{K:Prop}{aw:a_ K K}{v:Value}(h:Whole P e v)(ah:K):ew P e K aw v:=⟨h,ah⟩
section
variable {P:Program} {F G:Fr} {H:ab}
@[simp] theorem ab8{e:Nat}{K:Prop}(aw:a_ K K)(cs:Array Value):ew P e K aw (.agg cs)=df K .mk (da P e=some true/\bm P e=some cs.size/\(cs.toList.all (·.oneCell'))=true):=by
 apply propext
 constructor
 ·rintro⟨⟨o,aa,aD⟩,ah⟩;exact⟨⟨by simpa[eB]using aD,o,aa⟩,ah⟩
 ·rintro⟨⟨o,aa,aD⟩,ah⟩;exact⟨⟨aa,aD,by simpa[eB]using o⟩,ah⟩
variable {r:List g7} {Q:Fr->Fr->ab->Prop}
@[simp] theorem Z7(aw:a_ ([]:List g7) Q):ec P [] Q aw F G H=Q F G H:=rfl
@[simp] theorem Z8(l:List br)(aw:a_ (.xs l::r) Q):ec P (.xs l::r) Q aw F G H=a8 P l (fun aA H1=>ec P r Q .mk aA G H1) .mk F H:=rfl
theorem uZ{c e:Nat}{z:Value}(aP:dw P e=some z)(dt:flat z=true)(hw:Whole P e z)(aw:a_ (.bY c e::r) Q):ec P (.bY c e::r) Q aw F G H=ec P r Q .mk (aY F c (.pointer (some ⟨H.length,0,none⟩))) (aY G c z) (H++[.dead]):=by
 simp[ec,dg,aP,eK,ga,dt,hw]
@[simp] theorem afP(c e:Nat)(y:Operand)(aw:a_ (.cZ c e y::r) Q):ec P (.cZ c e y::r) Q aw F G H=ew P e (ec P r Q .mk (aY F c (.pointer (some ⟨H.length,0,none⟩))) (aY G c (aq F y)) (H++[.dead])) .mk (aq F y):=rfl
@[simp] theorem afQ(d s x f c off:Nat)(aw:a_ (.bk none d s x f c off::r) Q):ec P (.bk none d s x f c off::r) Q aw F G H=df (ec P r Q .mk (aY F d (oE (F c) off)) G H) .mk (jC (F c)=true):=rfl
@[simp] theorem afR(j:Nat)(w:Bool)(d s x f c off:Nat)(aw:a_ (.bk (some (j,w)) d s x f c off::r) Q):ec P (.bk (some (j,w)) d s x f c off::r) Q aw F G H=nU (ec P (.bk none d s x f c off::r) Q .mk F G H) (ec P r Q .mk (aY F d undef) G H) .mk (gR (F j)) w:=rfl
@[simp] theorem afU(d t x c:Nat)(aw:a_ (.b1 none d t x c::r) Q):ec P (.b1 none d t x c::r) Q aw F G H=df (ec P r Q .mk (aY F d (G c)) G H) .mk (jC (F c)=true):=rfl
@[simp] theorem afV(j:Nat)(w:Bool)(d t x c:Nat)(aw:a_ (.b1 (some (j,w)) d t x c::r) Q):ec P (.b1 (some (j,w)) d t x c::r) Q aw F G H=nU (ec P (.b1 none d t x c::r) Q .mk F G H) (ec P r Q .mk (aY F d undef) G H) .mk (gR (F j)) w:=rfl
@[simp] theorem afS(d t x c off:Nat)(aw:a_ (.aO none d t x c off::r) Q):ec P (.aO none d t x c off::r) Q aw F G H=df (ye (fun cs=>gb (fun a=>bG (gb (fun n=>df (ec P r Q .mk (aY F d (.agg ((cs.toList.drop off).take n).toArray)) G H) .mk (off+n<=cs.size)) .mk (bm P t)) (gb (fun v=>ec P r Q .mk (aY F d v) G H) .mk cs.toList[off]?) .mk a) .mk (da P t)) .mk (G c)) .mk (jC (F c)=true):=rfl
@[simp] theorem afT(j:Nat)(w:Bool)(d t x c off:Nat)(aw:a_ (.aO (some (j,w)) d t x c off::r) Q):ec P (.aO (some (j,w)) d t x c off::r) Q aw F G H=nU (ec P (.aO none d t x c off::r) Q .mk F G H) (ec P r Q .mk (aY F d undef) G H) .mk (gR (F j)) w:=rfl
@[simp] theorem afY(b:Bool)(t x c:Nat)(y:Operand)(aw:a_ (.cC b none t x y c::r) Q):ec P (.cC b none t x y c::r) Q aw F G H=df (ew P t (ec P r Q .mk F (aY G c (aq F y)) H) .mk (aq F y)) .mk (jC (F c)=true):=by
 simp[ec,dg,mn,df,ew,ga,and_assoc]
@[simp] theorem afZ(b:Bool)(j:Nat)(w:Bool)(t x c:Nat)(y:Operand)(aw:a_ (.cC b (some (j,w)) t x y c::r) Q):ec P (.cC b (some (j,w)) t x y c::r) Q aw F G H=nU (ec P (.cC b none t x y c::r) Q .mk F G H) (ec P r Q .mk F G H) .mk (gR (F j)) w:=rfl
@[simp] theorem afW(b:Bool)(t x c off:Nat)(y:Operand)(aw:a_ (.st b none t x y c off::r) Q):ec P (.st b none t x y c off::r) Q aw F G H=df (ye (fun cs=>df (ec P r Q .mk F (aY G c (.agg (lC cs.toList off (aq F y).cells.toList).toArray)) H) .mk (bm P t=some (aq F y).cells.size/\off+(aq F y).cells.size<=cs.size/\((aq F y).cells.toList.all (·.oneCell'))=true)) .mk (G c)) .mk (jC (F c)=true):=rfl
@[simp] theorem afX(b:Bool)(j:Nat)(w:Bool)(t x c off:Nat)(y:Operand)(aw:a_ (.st b (some (j,w)) t x y c off::r) Q):ec P (.st b (some (j,w)) t x y c off::r) Q aw F G H=nU (ec P (.st b none t x y c off::r) Q .mk F G H) (ec P r Q .mk F G H) .mk (gR (F j)) w:=rfl
end
def mix(m:Nat)(F aA:Fr):Fr:=fun r=>if(m>>>r) % 2=1 then aA r else F r
@[simp] theorem kt(m:Nat)(F aA:Fr)(r:Nat):mix m F aA r=if(m>>>r) % 2=1 then aA r else F r:=rfl
theorem qQ{m:Nat}{F aA:Fr}(h:∀r,gI m r=false->aA r=F r):aA=mix m F aA:=by
 funext r
 simp only[mix]
 split
 ·rfl
 ·rename_i aj;exact h r (by simpa[gI]using aj)
section
variable {P:Program} {F G:Fr} {H:ab} {Q:ds->Fr->Fr->ab->Prop}
@[simp] theorem aad(aw:a_ (eI.skip) Q):bU P .skip Q aw F G H=Q .normal F G H:=rfl
@[simp] theorem af4(aw:a_ (eI.ret) Q):bU P .ret Q aw F G H=Q .ret F G H:=rfl
@[simp] theorem aaa(id:Nat)(aw:a_ (eI.exit id) Q):bU P (.exit id) Q aw F G H=Q (.exit id) F G H:=rfl
@[simp] theorem k1(x y:eI)(aw:a_ (eI.seq x y) Q):bU P (.seq x y) Q aw F G H=bU P x (l7 (fun aA bC H1=>bU P y Q .mk aA bC H1) Q) .mk F G H:=rfl
@[simp] theorem Z_(c:Operand)(x y:eI)(aw:a_ (eI.cond c x y) Q):bU P (.cond c x y) Q aw F G H=yd (fun b=>bG (bU P x Q .mk F G H) (bU P y Q .mk F G H) .mk b) .mk (aq F c):=rfl
@[simp] theorem Z9(id:Nat)(x:eI)(aw:a_ (eI.block id x) Q):bU P (.block id x) Q aw F G H=bU P x (p6 id Q) .mk F G H:=rfl
@[simp] theorem aab(m k:Nat)(x:eI)(aw:a_ (eI.loop m k x) Q):bU P (.loop m k x) Q aw F G H=dx P m k x Q .mk F G H:=rfl
@[simp] theorem aac(l:List g7)(aw:a_ (eI.ops l) Q):bU P (.ops l) Q aw F G H=ec P l (fun aA bC H1=>Q .normal aA bC H1) .mk F G H:=rfl
@[simp] theorem af3(l:List g7)(aw:a_ (eI.opsL l) Q):bU P (.opsL l) Q aw F G H=ec P l (fun aA bC H1=>Q .normal aA bC H1) .mk F G H:=rfl
@[simp] theorem af1{K:List Value->Prop}(aw:a_ ([]:List jm) K):rz [] K aw F G=K []:=rfl
@[simp] theorem af2{K:List Value->Prop}(i:Nat)(rs:List jm)(aw:a_ (.tmp i::rs) K):rz (.tmp i::rs) K aw F G=rz rs (fun aB=>K (F i::aB)) .mk F G:=rfl
@[simp] theorem af0{K:List Value->Prop}(a ty:Nat)(rs:List jm)(aw:a_ (.cell a ty::rs) K):rz (.cell a ty::rs) K aw F G=df (rz rs (fun aB=>K (G a::aB)) .mk F G) .mk (jC (F a)=true):=rfl
@[simp] theorem afp{rs:List jm}{ae:Value->ab->Prop}:xC rs ae .normal F G H=rz rs (fun aB=>ae (bj aB) H) .mk F G:=rfl
@[simp] theorem afq{rs:List jm}{ae:Value->ab->Prop}:xC rs ae .ret F G H=rz rs (fun aB=>ae (bj aB) H) .mk F G:=rfl
@[simp] theorem Mk{K:Fr->Fr->ab->Prop}:l7 K Q .normal F G H=K F G H:=rfl
@[simp] theorem aff{K:Fr->Fr->ab->Prop}:l7 K Q .ret F G H=Q .ret F G H:=rfl
@[simp] theorem XA{K:Fr->Fr->ab->Prop}(id:Nat):l7 K Q (.exit id) F G H=Q (.exit id) F G H:=rfl
@[simp] theorem acM(id:Nat):p6 id Q .normal F G H=Q .normal F G H:=rfl
@[simp] theorem acN(id:Nat):p6 id Q .ret F G H=Q .ret F G H:=rfl
@[simp] theorem acL(id hv:Nat):p6 id Q (.exit hv) F G H=if hv=id then Q .normal F G H else Q (.exit hv) F G H:=rfl
theorem dx.mk{m k:Nat}{x:eI}{aw:a_ x Q}(aF:jL m k x=true)(ak:Nat->Fr->Fr->ab->Prop)(n:Nat)(aH:ak n F G H)
  (round:∀n aA bC H1,ak n (mix m F aA) (mix k G bC) H1->∀K:Fr->Fr->ab->Prop,(∀dI bV dz a0,dI<n->ak dI bV dz a0->K bV dz a0)->bU P x (l7 K Q) .mk (mix m F aA) (mix k G bC) H1):dx P m k x Q aw F G H:=by
 have main:∀n aA bC H1,(∀r,gI m r=false->aA r=F r)->(∀r,gI k r=false->bC r=G r)->ak n aA bC H1->ve (eJ P x) Q aA bC H1:=by
  intro n
  induction n using Nat.strongRecOn with
  | _ n aW=>
   intro aA bC H1 a2 gq dc
   have aj:eJ P x aA bC H1 (l7 (fun bV dz a0=>∃dI,dI<n/\ak dI bV dz a0) Q):=by
    have:=round n aA bC H1 (by rw[<-qQ a2,<-qQ gq];exact dc) (fun bV dz a0=>∃dI,dI<n/\ak dI bV dz a0) fun dI bV dz a0 o aa=>⟨dI,o,aa⟩
    rw[<-qQ a2,<-qQ gq]at this
    exact this
   refine .round (fun bV dz a0=>(∃dI,dI<n/\ak dI bV dz a0)/\(∀r,gI m r=false->bV r=aA r)/\∀r,gI k r=false->dz r=bC r) (eJ.gi (x:=x) aF (fun e bV dz a0 f2 iX aa=>?_) aj) ?_
   ·cases e with
    | normal=>exact⟨aa,f2,iX⟩
    | exit id=>exact aa
    | ret=>exact aa
   ·rintro bV dz a0 ⟨⟨dI,o,aa⟩,f2,iX⟩
    exact aW dI o bV dz a0 (fun r aj=>by rw[f2 r aj,a2 r aj]) (fun r aj=>by rw[iX r aj,gq r aj]) aa
 exact main n F G H (fun _ _=>rfl) (fun _ _=>rfl) aH
def NO(ae:Fr->Fr->ab->Prop):ds->Fr->Fr->ab->Prop
 | .normal,F,G,H=>ae F G H
 | _,_,_,_=>False
@[simp] theorem ab1(ae:Fr->Fr->ab->Prop):NO ae .normal F G H=ae F G H:=rfl
theorem u0(m k:Nat)(x:eI)(aw:a_ (eI.box m k x) Q):bU P (.box m k x) Q aw F G H=bU P x Q .mk F G H:=rfl
theorem bU.join{m k:Nat}{x:eI}{K:Fr->Fr->ab->Prop}{aw:a_ (eI.box m k x) (l7 K Q)}(aF:jL m k x=true)(ae:Fr->Fr->ab->Prop)(o:∀dW:ds->Fr->Fr->ab->Prop,(∀aA bC H1,ae aA bC H1->dW .normal aA bC H1)->(∀e aA bC H1,e≠ .normal->Q e aA bC H1->dW e aA bC H1)->bU P x dW .mk F G H)
  (aa:∀aA bC H1,ae (mix m F aA) (mix k G bC) H1->K (mix m F aA) (mix k G bC) H1):bU P (.box m k x) (l7 K Q) aw F G H:=by
 refine eJ.gi (x:=x) aF (fun e aA bC H1 f1 cl h=>?_) (o (l7 ae Q) (fun _ _ _ h=>h) (fun e aA bC H1 he h=>by
  cases e with
  | normal=>exact absurd rfl he
  | exit id=>exact h
  | ret=>exact h))
 cases e with
 | normal=>
  have:=aa aA bC H1 (by rw[<-qQ f1,<-qQ cl];exact h)
  rw[<-qQ f1,<-qQ cl]at this
  exact this
 | exit id=>exact h
 | ret=>exact h
theorem aZ.abN{f:FuncId}{fn:Func}{z:dm}{C:Cells}{args:List Value}{ae:Value->ab->Prop}(ax:P.funcs[f]?=some fn)(aE:(fn.name== "runtime.NumGoroutine")=false)(ag:comp P fn=some z.back)(aP:(ke P C z.code&&sT C z.results)=true)
  (ar:args.length<=fn.ntmps)(qg:(C.all fun p=>decide (args.length<=p.1))=true)(h:bU P z.code (xC z.results ae) .mk (iV args) (fun _=>undef) H):aZ P f args H ae:=aZ.abM ax aE ag aP ar qg h
end
theorem Oh{C:Cells}{args:List Value}{n:Nat}(ar:args.length<=n)(h:(C.all fun p=>decide (n<=p.1))=true):(C.all fun p=>decide (args.length<=p.1))=true:=by
 rw[List.all_eq_true]at h⊢
 intro p aR
 have:=of_decide_eq_true (h p aR)
 exact decide_eq_true (Nat.le_trans ar this)
theorem Ext.dead(H:ab):Ext H (H++[.dead]):=⟨[.dead],rfl,fun x I e cs=>by simp at I;subst I;simp⟩
def Kept(H aC:ab)(s:Value)(e:Nat):Prop:=∀b X,H[b]?=some X->(inBlock s b->X.elem?≠some e)->aC[b]?=some X
theorem ea.kept{H aC:ab}{e cH R n:Nat}{s v:Value}{cs:List Value}(h:ea H cH R v n cs)(ah:Kept H aC s e)(cG:cH≠e):ea aC cH R v n cs:=by
 obtain⟨a,cap,ao,o,aa,aD⟩:=h
 refine⟨a,cap,ao,o,aa,fun ag=>?_⟩
 obtain⟨b,i,X,all,aT,aQ,bn,b8,eD⟩:=aD ag
 exact⟨b,i,X,all,aT,ah b X aQ (fun _ h=>cG (by rw[b8]at h;exact Option.some.inj h)),bn,b8,eD⟩
def dZ(ay:Bool)(R:Nat)(cs:List Value)(i:Nat):Value:=if ay=true then .agg ((cs.drop (i*R)).take R).toArray else cs[i]?.getD undef
class bJ {α:Type} (ae:ab->Value->α->Prop):Prop where
 ext:∀{H H1:ab} {v:Value} {x:α},ae H v x->Ext H H1->ae H1 v x
def Row{α:Type}(e R:Nat)(ay:Bool)(ae:ab->Value->α->Prop)(H:ab)(v:Value)(xs:List α):Prop:=∃cs,ea H e R v xs.length cs/\∀i x,xs[i]?=some x->ae H (dZ ay R cs i) x
def bz{α:Type}(k e R:Nat)(ay:Bool)(ae:ab->Value->α->Prop)(H:ab)(v:Value)(xs:List α):Prop:=∃cs,hN H k e R v xs.length cs/\∀i x,xs[i]?=some x->ae H (dZ ay R cs i) x
section
variable {α:Type} {e R k:Nat} {ay:Bool} {ae:ab->Value->α->Prop} {H H1:ab} {v:Value} {xs:List α}
instance[bJ ae]:bJ (Row e R ay ae):=⟨fun⟨cs,o,aa⟩ I=>⟨cs,o.ext I,fun i x ad=>bJ.ext (aa i x ad) I⟩⟩
instance[bJ ae]:bJ (bz k e R ay ae):=⟨fun⟨cs,o,aa⟩ I=>⟨cs,o.ext I,fun i x ad=>bJ.ext (aa i x ad) I⟩⟩
theorem bz.row(h:bz k e R ay ae H v xs):Row e R ay ae H v xs:=let⟨cs,o,aa⟩:=h;⟨cs,o.gl,aa⟩
theorem Row.len(h:Row e R ay ae H v xs):∃a c,v= .slice a xs.length c:=let⟨cs,o,aa⟩:=h;o.len
theorem bz.len(h:bz k e R ay ae H v xs):∃a c,v= .slice a xs.length c:=h.row.len
theorem Row.nil(e R:Nat)(ay:Bool)(ae:ab->Value->α->Prop)(H:ab):Row e R ay ae H (.slice none 0 0) []:=⟨[],ea.nil H e R,fun i x h=>by simp at h⟩
theorem bz.nil(k e R:Nat)(ay:Bool)(ae:ab->Value->α->Prop)(H:ab):bz k e R ay ae H (.slice none 0 0) []:=⟨[],hN.nil H k e R,fun i x h=>by simp at h⟩
theorem bz.void(k e R i:Nat)(ay:Bool)(ae:ab->Value->α->Prop)(H:ab):bz k e R ay ae H (.slice (some ⟨0,i,none⟩) 0 0) []:=⟨[],hN.void H k e R i,fun i x h=>by simp at h⟩
theorem Row.kept{s:Value}{cH:Nat}(h:Row e R ay ae H v xs)(ah:Kept H H1 s cH)(cG:e≠cH)(bl:∀u x,ae H u x->ae H1 u x):Row e R ay ae H1 v xs:=let⟨cs,o,aa⟩:=h;⟨cs,o.kept ah cG,fun i x ad=>bl _ _ (aa i x ad)⟩
theorem Row.at(h:Row e R ay ae H v xs){i:Nat}{x:α}(ad:xs[i]?=some x):∃b U cap X all,v= .slice (some ⟨b,U,none⟩) xs.length cap/\H[b]?=some X/\X.cells?=some all/\U+i*R+R<=all.length/\
  ae H (if ay=true then .agg ((all.drop (U+i*R)).take R).toArray else((all.drop (U+i*R)).take R)[0]?.getD undef) x\/(ay=false/\R≠1):=by
 by_cases an:ay=false/\R≠1
 ·exact⟨0,0,0,.dead,[],.inr an⟩
 obtain⟨cs,o,aa⟩:=h
 have ar:i<xs.length:=(cc.1 ad).1
 obtain⟨a,cap,ao,aD,bD,b2⟩:=o
 obtain⟨b,U,X,all,rfl,aQ,bn,b8,eD,gw⟩:=b2 (by omega)
 have hle:(i+1)*R<=xs.length*R:=Nat.mul_le_mul_right _ ar
 rw[Nat.succ_mul]at hle
 refine⟨b,U,cap,X,all,.inl ⟨ao,aQ,bn,by omega,?_⟩⟩
 have I:=aa i x ad
 unfold dZ at I
 have ag:(cs.drop (i*R)).take R=(all.drop (U+i*R)).take R:=by
  rw[gw,List.drop_take,List.drop_drop,List.take_take,Nat.min_eq_left (by omega)]
 cases ay with
 | true=>simp only[if_true]at I⊢;rw[<-ag];exact I
 | false=>
  have fA:R=1:=by
   by_cases h:R=1
   ·exact h
   ·exact absurd ⟨rfl,h⟩ an
  subst fA
  simp only[Bool.false_eq_true,if_false]at I⊢
  rw[<-ag]
  simpa[List.getElem?_take,List.getElem?_drop]using I
end
section
variable {P:Program} {r:List br} {F:Fr} {H:ab} {Q:Fr->ab->Prop} {α:Type}
theorem cI{d t d2 e R n:Nat}{ay:Bool}{x i:Operand}{ae:ab->Value->α->Prop}{xs:List α}{a:α}{aw:a_ (bb d t x i::aO d2 e (T d)::r) Q}(bl:Row e R ay ae H (aq F x) xs)(ad:aq F i= .int .i64 (n:Int))(aF:xs[n]?=some a)
  (bu:eR P t=some e)(an:bm P e=some R)(dM:da P e=some ay)(o:ay=true\/R=1)(K:∀p u,ae H u a->a8 P r Q .mk (aY (aY F d p) d2 u) H):a8 P (bb d t x i::aO d2 e (T d)::r) Q aw F H:=by
 have ar:n<xs.length:=(cc.1 aF).1
 obtain⟨b,U,cap,X,all,⟨ao,aS,ag,bp,hu⟩ | ⟨aT,aQ⟩⟩:=bl.at aF
 ·rw[fL,ao,ad,oW,nc,bu,e0,an,e0,oU]
  refine df.mk ⟨by omega,by omega⟩ ?_
  rw[uX]
  simp only[kL,hL,mj,aS,Option.bind_some,ag,e0,dM,Int.toNat_natCast]
  cases ay with
  | true=>
   rw[Nz,an,e0]
   refine df.mk bp ?_
   exact K _ _ hu
  | false=>
   rw[sU]
   have fA:R=1:=by rcases o with h | h;cases h;exact h
   subst fA
   have a5:U+n*1<all.length:=by omega
   rw[bt a5,e0]
   refine K _ _ ?_
   simp only[Bool.false_eq_true,if_false]at hu
   rw[List.getElem?_take_of_lt (by omega),List.getElem?_drop,Nat.add_zero,bt a5]at hu
   exact hu
 ·rcases o with h | h
  ·rw[h]at aT;cases aT
  ·exact absurd h aQ
theorem uW{j:Nat}{w:Bool}{x:br}{aw:a_ (aN j w x::r) Q}(h:gR (F j)=some w)(K:a8 P (hA x::r) Q .mk F H):a8 P (aN j w x::r) Q aw F H:=by
 rw[Yo]
 show m7 _ _ _ _
 unfold m7
 rw[if_pos h]
 exact K
theorem mX{j d t d2 e R n:Nat}{w:Bool}{ay:Bool}{x i:Operand}{ae:ab->Value->α->Prop}{xs:List α}{a:α}{aw:a_ (bb d t x i::aN j w (aO d2 e (T d))::r) Q}(aV:gR (F j)=some w)(lP:j≠d)(bl:Row e R ay ae H (aq F x) xs)(ad:aq F i= .int .i64 (n:Int))(aF:xs[n]?=some a)
  (bu:eR P t=some e)(an:bm P e=some R)(dM:da P e=some ay)(o:ay=true\/R=1)(K:∀p u,ae H u a->a8 P r Q .mk (aY (aY F d p) d2 u) H):a8 P (bb d t x i::aN j w (aO d2 e (T d))::r) Q aw F H:=by
 have aH:a8 P (bb d t x i::aO d2 e (T d)::r) Q .mk F H:=cI bl ad aF bu an dM o K
 rw[fL]at aH⊢
 revert aH
 simp only[Bi,yf,p2,oV,gb,Bh,yb,df,ga,eK]
 cases aq F x<;>try exact id
 cases aq F i<;>try exact id
 simp only
 cases eR P t<;>try exact id
 simp only
 rename_i Pq
 cases bm P Pq<;>try exact id
 simp only
 split
 ·rintro⟨o,aa⟩
  exact⟨o,uW (by rw[gX _ _ lP];exact aV) aa⟩
 ·exact id
theorem cN{d t e R:Nat}{ay:Bool}{x:Operand}{ae:ab->Value->α->Prop}{xs:List α}{aw:a_ (bA d t x::r) Q}(bl:Row e R ay ae H (aq F x) xs)(bu:eR P t=some e)(K:a8 P r Q .mk (aY F d (.int .i64 xs.length)) H):a8 P (bA d t x::r) Q aw F H:=by
 obtain⟨a,c,ao⟩:=bl.len
 rw[gO,ao,VO,bu]
 exact K
theorem rH{ay:Bool}{R i n:Nat}{cs fE:List Value}(ar:cs.length=n*R)(ad:i<n)(o:ay=true\/R=1):dZ ay R (cs++fE) i=dZ ay R cs i:=by
 unfold dZ
 have hle:(i+1)*R<=n*R:=Nat.mul_le_mul_right _ ad
 rw[Nat.succ_mul]at hle
 cases ay with
 | true=>
  simp only[if_true]
  rw[List.drop_append_of_le_length (by omega),List.take_append_of_le_length (by simp;omega)]
 | false=>
  have fA:R=1:=by rcases o with h | h;cases h;exact h
  subst fA
  simp only[Bool.false_eq_true,if_false]
  rw[List.getElem?_append_left (by omega)]
theorem BO{P:Program}{e:Nat}{ay:Bool}{R n:Nat}{cs:List Value}{u:Value}(ar:cs.length=n*R)(hw:Whole P e u)(an:bm P e=some R)(dM:da P e=some ay):dZ ay R (cs++u.cells.toList) n=u:=by
 obtain⟨a7,h6,cf⟩:=hw
 have c0:u.cells.size=R:=by rw[an]at a7;exact(Option.some.inj a7).symm
 unfold dZ
 cases ay with
 | true=>
  simp only[if_true]
  have aF:eB u=true:=by
   cases au:eB u with
   | true=>rfl
   | false=>rw[au]at cf;simp at cf;rw[cf.1]at dM;cases dM
  rw[<-ar,List.drop_append_of_le_length (Nat.le_refl _),List.drop_length,List.nil_append,List.take_of_length_le (by simp;omega),Array.toArray_toList]
  exact(s7 aF).symm
 | false=>
  simp only[Bool.false_eq_true,if_false]
  have aF:eB u=false:=by
   cases au:eB u with
   | false=>rfl
   | true=>rw[au]at cf;simp at cf;rw[cf]at dM;cases dM
  rw[aF]at cf
  simp at cf
  have o:R=1:=by rw[<-c0,cf.2];rfl
  subst o
  rw[List.getElem?_append_right (by omega),cf.2]
  have:n-cs.length=0:=by omega
  simp[this]
theorem ra{en:Bool}{d1 d2 t bO cM e R bs k:Nat}{ay:Bool}{s x:Operand}{z:Value}{ae:ab->Value->α->Prop}{xs:List α}{a:α}{aw:a_ ((⟨en,none,some d1,.buildSlice t 1 #[(0,x)]⟩:br)::ap d2 bO cM s (T d1)::r) Q}(cV:bz k e R ay ae H (aq F s) xs)(aF:ae H (aq F x) a)
  (hw:Whole P e (aq F x))(fA:∀v,aq (aY F d1 v) s=aq F s)(hG:∀aC c_ u y,Kept H aC c_ e->ae H u y->ae aC u y)
  (bu:P.underlying t=some (.slice e))(hu:P.underlying bO=some (.slice e))(I:fJ P cM=true)(an:bm P e=some R)(dM:da P e=some ay)(af:bytes? P e=some bs)(aP:dw P e=some z)(dt:flat z=true)(cY:z.cells.size=R)(c0:0<R)(qH:R<=1000)
  (dH:0<bs)(bp:(xs.length+1)*bs<=140737488355328)(ah:k<=H.length)
  (K:∀p av aC,bz k e R ay ae aC av (xs++[a])->(∀cx:ab,cx.length<=k->Ext cx H->Ext cx aC)->Kept H aC (aq F s) e->a8 P r Q .mk (aY (aY F d1 p) d2 av) aC):
  a8 P ((⟨en,none,some d1,.buildSlice t 1 #[(0,x)]⟩:br)::ap d2 bO cM s (T d1)::r) Q aw F H:=by
 obtain⟨cs,jQ,hF⟩:=cV
 have g1:=jQ.1
 have kV:(aq F x).cells.size=R:=by have:=hw.1;rw[an]at this;exact(Option.some.inj this).symm
 have o:ay=true\/R=1:=by
  cases ay with
  | true=>exact .inl rfl
  | false=>
   refine .inr ?_
   have cf:=hw.2.2
   cases au:eB (aq F x)with
   | true=>rw[au]at cf;simp at cf;rw[cf]at dM;cases dM
   | false=>rw[au]at cf;simp at cf;rw[<-kV,cf.2];rfl
 refine Yk jQ fA bu hu I an af aP dt cY c0 qH dH bp (by simp[kV]) hw.2.1 ah fun p av aC aT aQ bn=>K p av aC ⟨_,by simpa using aT,fun i y aL=>?_⟩ aQ bn
 by_cases ad:i<xs.length
 ·rw[List.getElem?_append_left ad]at aL
  rw[rH g1 ad o]
  exact hG _ _ _ _ bn (hF i y aL)
 ·have eX:i=xs.length:=by
   have:=(cc.1 aL).1
   simp at this
   omega
  subst eX
  rw[List.getElem?_append_right (Nat.le_refl _),Nat.sub_self]at aL
  simp at aL
  subst aL
  rw[BO g1 hw an dM]
  exact hG _ _ _ _ bn aF
theorem yC{ay:Bool}{R i n:Nat}{cs fE:List Value}(ar:cs.length=n*R)(ad:n<=i)(o:ay=true\/R=1):dZ ay R (cs++fE) i=dZ ay R fE (i-n):=by
 unfold dZ
 have hle:n*R<=i*R:=Nat.mul_le_mul_right _ ad
 cases ay with
 | true=>
  simp only[if_true]
  rw[List.drop_append,List.drop_eq_nil_of_le (by omega),List.nil_append,ar,Nat.sub_mul]
 | false=>
  have fA:R=1:=by rcases o with h | h;cases h;exact h
  subst fA
  simp only[Bool.false_eq_true,if_false]
  rw[List.getElem?_append_right (by omega)]
  congr 2
  omega
theorem AP{d bO cM e R bs k:Nat}{ay:Bool}{s x:Operand}{z:Value}{ae:ab->Value->α->Prop}{xs bI:List α}{aw:a_ (ap d bO cM s x::r) Q}(cV:bz k e R ay ae H (aq F s) xs)(lL:Row e R ay ae H (aq F x) bI)(lk:∀u y,ae H u y->Whole P e u)(hG:∀aC c_ u y,Kept H aC c_ e->ae H u y->ae aC u y)
  (hu:P.underlying bO=some (.slice e))(I:fJ P cM=true)(an:bm P e=some R)(dM:da P e=some ay)(o:ay=true\/R=1)(af:bytes? P e=some bs)(aP:dw P e=some z)(cY:z.cells.size=R)(dH:0<bs)(bp:(xs.length+bI.length)*bs<=140737488355328)(ah:k<=H.length)
  (K:∀av aC,bz k e R ay ae aC av (xs++bI)->(∀cx:ab,cx.length<=k->Ext cx H->Ext cx aC)->Kept H aC (aq F s) e->a8 P r Q .mk (aY F d av) aC):a8 P (ap d bO cM s x::r) Q aw F H:=by
 obtain⟨cs,jQ,hF⟩:=cV
 obtain⟨fE,y2,we⟩:=lL
 have g1:=jQ.1
 obtain⟨a,c,ao,aT,aQ,bn⟩:=y2
 have cX:Src H R (aq F x) bI.length bI.length fE:=by
  have:=ea.src (H:=H) (e:=e) (R:=R) (v:=aq F x) (n:=bI.length) (cs:=fE) ⟨a,c,ao,aT,aQ,bn⟩ (Nat.le_refl _)
  rwa[<-aQ,List.take_length]at this
 have wL:(fE.all (·.oneCell'))=true:=by
  rw[List.all_eq_true]
  intro u ug
  obtain⟨j,aI⟩:=List.getElem?_of_mem ug
  have fP:j<bI.length*R:=by have:=(cc.1 aI).1;omega
  have c0:0<R:=by rcases Nat.eq_zero_or_pos R with q | q;·subst q;simp at fP
                  exact q
  have cW:j/R<bI.length:=Nat.div_lt_of_lt_mul (by rw[Nat.mul_comm];exact fP)
  have hw:=lk _ _ (we _ _ (bt cW))
  have gh:u∈(dZ ay R fE (j/R)).cells.toList:=by
   unfold dZ
   cases ay with
   | true=>
    simp only[if_true,Value.cells,List.toList_toArray]
    have mz:=Nat.div_add_mod j R
    have fm:=Nat.mod_lt j c0
    rw[Nat.mul_comm]at mz
    refine List.mem_of_getElem? (i:=j % R) ?_
    rw[List.getElem?_take_of_lt fm,List.getElem?_drop,mz]
    exact aI
   | false=>
    have fA:R=1:=by rcases o with h | h;cases h;exact h
    subst fA
    have ju:fE[j/1]?=some u:=by rw[Nat.div_one];exact aI
    simp only[dZ,Bool.false_eq_true,if_false]at hw⊢
    rw[ju]at hw⊢
    simp only[Option.getD_some]at hw⊢
    have cf:=hw.2.2
    cases au:eB u with
    | false=>rw[au]at cf;simp at cf;rw[cf.2];simp
    | true=>
     rw[au]at cf
     simp at cf
     rw[cf]at dM
     cases dM
  exact List.all_eq_true.1 hw.2.1 u gh
 refine E5 jQ cX hu I an af aP cY dH bp wL aQ ah fun av aC dF hI fQ gL iP=>K av aC ⟨_,by simpa using dF,fun i y aL=>?_⟩ hI fQ
 by_cases ad:i<xs.length
 ·rw[List.getElem?_append_left ad]at aL
  rw[rH g1 ad o]
  exact hG _ _ _ _ fQ (hF i y aL)
 ·rw[List.getElem?_append_right (by omega)]at aL
  rw[yC g1 (by omega) o]
  exact hG _ _ _ _ fQ (we _ y aL)
theorem Lb(z:Value)(R n i:Nat)(aP:z.cells.size=R)(ad:i<n)(c0:0<R):((made z (n*R)).drop (i*R)).take R=z.cells.toList:=by
 have hle:(i+1)*R<=n*R:=Nat.mul_le_mul_right _ ad
 rw[Nat.succ_mul]at hle
 apply List.ext_getElem?
 intro j
 by_cases aI:j<R
 ·rw[List.getElem?_take_of_lt aI,List.getElem?_drop]
  unfold made
  rw[List.getElem?_map,List.getElem?_range (by omega)]
  simp only[Option.map_some,aP]
  rw[Nat.mul_comm i R,Nat.mul_add_mod,Nat.mod_eq_of_lt aI]
  simp[aP,aI]
 ·rw[List.getElem?_eq_none (by simp;omega),List.getElem?_eq_none (by simp;omega)]
theorem q_{d t e R bs n:Nat}{ay:Bool}{x y:Operand}{eg cB:IntKind}{z:Value}{ae:ab->Value->α->Prop}{a:α}{aw:a_ (ms d t x y::r) Q}(hu:P.underlying t=some (.slice e))(an:bm P e=some R)(af:bytes? P e=some bs)(aP:dw P e=some z)(dt:flat z=true)
  (dM:da P e=some ay)(hw:Whole P e z)(I:aq F x= .int eg (n:Int))(aL:aq F y= .int cB (n:Int))(c0:0<R)(dH:0<bs)(bp:bs*n<=281474976710656)(bl:∀aC,ae aC z a)
  (K:∀v aC,bz H.length e R ay ae aC v (List.replicate n a)->Ext H aC->(n=0/\v= .slice (some ⟨0,0,none⟩) 0 0/\aC=H\/0<n/\v= .slice (some ⟨H.length,0,none⟩) n n/\aC=H++[.own e false (made z (n*R))])->a8 P r Q .mk (aY F d v) aC):a8 P (ms d t x y::r) Q aw F H:=by
 have cY:z.cells.size=R:=by have:=hw.1;rw[an]at this;exact(Option.some.inj this).symm
 by_cases aE:n=0
 ·subst aE
  exact AS hu an af I aL (K _ H (bz.void _ _ _ _ _ _ _) (Ext.refl H) (.inl ⟨rfl,rfl,rfl⟩))
 ·refine xV hu an af aP dt cY I aL c0 dH (Nat.le_refl _) (by omega) bp (K _ _ ⟨made z (n*R),⟨by simp[pG],.inr ⟨H.length,0,n,false,made z (n*R),by simp,by omega,by simp,Nat.le_refl _,by simp,by simp[pG],?_⟩⟩,fun i x ad=>?_⟩ ((Ext.refl H).snoc _ _ _) (.inr ⟨by omega,rfl,rfl⟩))
  ·rw[List.drop_zero,List.take_of_length_le (by simp[pG])]
  ·rw[List.getElem?_replicate]at ad
   split at ad
   ·rename_i a5
    obtain rfl:=Option.some.inj ad
    have hm:=Lb z R n i cY a5 c0
    have:dZ ay R (made z (n*R)) i=z:=by
     have cf:=hw.2.2
     unfold dZ
     cases ay with
     | true=>
      have aF:eB z=true:=by
       cases au:eB z with
       | true=>rfl
       | false=>rw[au]at cf;simp at cf;rw[cf.1]at dM;cases dM
      simp only[if_true]
      rw[hm,Array.toArray_toList]
      exact(s7 aF).symm
     | false=>
      have aF:eB z=false:=by
       cases au:eB z with
       | false=>rfl
       | true=>rw[au]at cf;simp at cf;rw[cf]at dM;cases dM
      rw[aF]at cf
      simp at cf
      have o:R=1:=by rw[<-cY,cf.2];rfl
      subst o
      simp only[Bool.false_eq_true,if_false]
      have aa:(made z (n*1))[i]?=(((made z (n*1)).drop (i*1)).take 1)[0]?:=by
       rw[List.getElem?_take_of_lt (by omega),List.getElem?_drop];simp
      rw[aa,hm,cf.2]
      rfl
    rw[this]
    exact bl _
   ·cases ad
theorem Pv{P:Program}{e:Nat}{ay:Bool}{R n i j:Nat}{cs:List Value}{u:Value}(ar:cs.length=n*R)(aI:j<n)(ad:i<n)(hw:Whole P e u)(an:bm P e=some R)(dM:da P e=some ay)(o:ay=true\/R=1):dZ ay R (c3 cs (j*R) u.cells.toList) i=if i=j then u else dZ ay R cs i:=by
 obtain⟨a7,h6,cf⟩:=hw
 have c0:u.cells.size=R:=by rw[an]at a7;exact(Option.some.inj a7).symm
 have zk:(j+1)*R<=n*R:=Nat.mul_le_mul_right _ aI
 have Si:(i+1)*R<=n*R:=Nat.mul_le_mul_right _ ad
 rw[Nat.succ_mul]at zk Si
 have bp:j*R+u.cells.toList.length<=cs.length:=by simp;omega
 have lu:=fun m=>q6 (j:=m) bp
 unfold dZ
 cases ay with
 | true=>
  have aF:eB u=true:=by
   cases au:eB u with
   | true=>rfl
   | false=>rw[au]at cf;simp at cf;rw[cf.1]at dM;cases dM
  simp only[if_true]
  have aJ:((c3 cs (j*R) u.cells.toList).drop (i*R)).take R=if i=j then u.cells.toList else(cs.drop (i*R)).take R:=by
   apply List.ext_getElem?
   intro m
   by_cases hm:m<R
   ·rw[List.getElem?_take_of_lt hm,List.getElem?_drop,lu]
    by_cases nB:i=j
    ·subst nB
     rw[if_pos rfl,if_pos ⟨by omega,by simp;omega⟩]
     congr 1
     omega
    ·rw[if_neg nB,List.getElem?_take_of_lt hm,List.getElem?_drop]
     rw[if_neg]
     simp only[Array.length_toList,c0,not_and,Nat.not_lt]
     intro aH
     rcases Nat.lt_or_ge i j with q | q
     ·have:(i+1)*R<=j*R:=Nat.mul_le_mul_right _ q
      rw[Nat.succ_mul]at this
      omega
     ·have:(j+1)*R<=i*R:=Nat.mul_le_mul_right _ (by omega)
      rw[Nat.succ_mul]at this
      omega
   ·rw[List.getElem?_eq_none (by simp;omega)]
    split
    ·rw[List.getElem?_eq_none (by simp;omega)]
    ·rw[List.getElem?_eq_none (by simp;omega)]
  rw[aJ]
  split
  ·rw[Array.toArray_toList];exact(s7 aF).symm
  ·rfl
 | false=>
  have fA:R=1:=by rcases o with h | h;cases h;exact h
  subst fA
  have aF:eB u=false:=by
   cases au:eB u with
   | false=>rfl
   | true=>rw[au]at cf;simp at cf;rw[cf]at dM;cases dM
  rw[aF]at cf
  simp at cf
  simp only[Bool.false_eq_true,if_false]
  rw[lu]
  by_cases nB:i=j
  ·subst nB
   rw[if_pos rfl,if_pos ⟨by omega,by simp;omega⟩,cf.2]
   simp
  ·rw[if_neg nB,if_neg]
   simp only[Array.length_toList,c0,not_and,Nat.not_lt]
   omega
theorem iR{d t e R n k:Nat}{ay:Bool}{x i y:Operand}{ae:ab->Value->α->Prop}{xs:List α}{a:α}{aw:a_ (bb d t x i::st e (T d) y::r) Q}(cV:bz k e R ay ae H (aq F x) xs)(ad:aq F i= .int .i64 (n:Int))(aE:n<xs.length)(aF:ae H (aq F y) a)
  (hw:Whole P e (aq F y))(aL:∀v,aq (aY F d v) y=aq F y)(hG:∀aC c_ u y,Kept H aC c_ e->ae H u y->ae aC u y)(bu:eR P t=some e)(an:bm P e=some R)(dM:da P e=some ay)(c0:0<R)
  (K:∀p aC,bz k e R ay ae aC (aq F x) (xs.set n a)->(∀cx:ab,cx.length<=k->Ext cx H->Ext cx aC)->Kept H aC (aq F x) e->aC.length=H.length->(∀c,c<k->aC[c]?=H[c]?)->a8 P r Q .mk (aY F d p) aC):a8 P (bb d t x i::st e (T d) y::r) Q aw F H:=by
 obtain⟨cs,⟨ar,jQ⟩,hF⟩:=cV
 have kV:(aq F y).cells.size=R:=by have:=hw.1;rw[an]at this;exact(Option.some.inj this).symm
 have o:ay=true\/R=1:=by
  cases ay with
  | true=>exact .inl rfl
  | false=>
   refine .inr ?_
   have cf:=hw.2.2
   cases au:eB (aq F y)with
   | true=>rw[au]at cf;simp at cf;rw[cf]at dM;cases dM
   | false=>rw[au]at cf;simp at cf;rw[<-kV,cf.2];rfl
 rcases jQ with⟨aH,-⟩ | ⟨b,U,cap,l,all,ao,aT,aQ,bn,b8,eD,gw⟩
 ·omega
 have hle:(n+1)*R<=xs.length*R:=Nat.mul_le_mul_right _ aE
 have C9:xs.length*R<=cap*R:=Nat.mul_le_mul_right _ aQ
 rw[Nat.succ_mul]at hle
 have gF:=(cc.1 b8).1
 rw[fL,ao,ad,oW,nc,bu,e0,an,e0,oU]
 refine df.mk ⟨by omega,by omega⟩ ?_
 rw[MR]
 simp only[kL,hL,mj,b8,FR,Int.toNat_natCast,aL]
 have bp:U+n*R+(aq F y).cells.toList.length<=all.length:=by simp[kV];omega
 refine df.mk ⟨by rw[an,kV],by simpa using bp,hw.2.1⟩ ?_
 rw[aL,Fq bp]
 have fX:((c3 all (U+n*R) (aq F y).cells.toList).drop U).take (xs.length*R)=c3 cs (n*R) (aq F y).cells.toList:=by
  have nz:n*R+(aq F y).cells.toList.length<=cs.length:=by simp[kV,ar];omega
  apply List.ext_getElem?
  intro j
  by_cases aI:j<xs.length*R
  ·rw[List.getElem?_take_of_lt aI,List.getElem?_drop,q6 bp,q6 nz,gw,List.getElem?_take_of_lt aI,List.getElem?_drop]
   by_cases ag:n*R<=j/\j<n*R+(aq F y).cells.toList.length
   ·rw[if_pos ag,if_pos ⟨by omega,by omega⟩]
    congr 1
    omega
   ·rw[if_neg ag,if_neg (by omega)]
  ·rw[List.getElem?_eq_none (by simp;omega),List.getElem?_eq_none (by rw[mW nz,ar];omega)]
 have tX:Kept H (H.set b (.own e l (c3 all (U+n*R) (aq F y).cells.toList))) (aq F x) e:=fun cb X aS cK=>by
  have:b≠cb:=fun cH=>by
   subst cH
   rw[b8]at aS
   exact cK ⟨U,xs.length,cap,ao⟩ (by rw[<-Option.some.inj aS];rfl)
  rw[List.getElem?_set_ne this];exact aS
 refine K _ _ ⟨c3 cs (n*R) (aq F y).cells.toList,⟨by rw[mW (by simp[kV,ar];omega)];simpa using ar,.inr ⟨b,U,cap,l,_,by simpa using ao,aT,by simpa using aQ,bn,List.getElem?_set_self gF,by rw[mW bp];exact eD,by simpa using fX.symm⟩⟩,fun i x I=>?_⟩
  (fun cx aH I=>I.set (by omega) (by simp)) tX (by simp) (fun c ag=>List.getElem?_set_ne (by omega))
 have cW:i<xs.length:=by have:=(cc.1 I).1;simpa using this
 rw[Pv ar aE cW hw an dM o]
 by_cases eX:i=n
 ·subst eX
  rw[List.getElem?_set_self aE]at I
  obtain rfl:=Option.some.inj I
  rw[if_pos rfl]
  exact hG _ _ _ _ tX aF
 ·rw[List.getElem?_set_ne (Ne.symm eX)]at I
  rw[if_neg eX]
  exact hG _ _ _ _ tX (hF i x I)
theorem rb{en:Bool}{d t e R l h:Nat}{ay:Bool}{x:Operand}{bX ad:Option Operand}{ae:ab->Value->α->Prop}{xs:List α}{aw:a_ ((⟨en,none,some d,.slice t x bX ad none⟩:br)::r) Q}(bl:Row e R ay ae H (aq F x) xs)(hu:P.underlying t=some (.slice e))(an:bm P e=some R)(o:ay=true\/R=1)
  (ar:dN (aq F) bX=some l)(cR:fl (aq F) xs.length ad=some h)(zl:l<=h)(wC:h<=xs.length)(K:∀av,Row e R ay ae H av ((xs.drop l).take (h-l))->a8 P r Q .mk (aY F d av) H):a8 P ((⟨en,none,some d,.slice t x bX ad none⟩:br)::r) Q aw F H:=by
 obtain⟨cs,bE,bK⟩:=bl
 refine MQ bE hu an ar cR zl wC fun av tz=>K av ⟨_,by simpa[show min (h-l) (xs.length-l)=h-l by omega]using tz,fun i y aL=>?_⟩
 have cW:i<h-l:=by
  have:=(cc.1 aL).1
  simp at this
  omega
 rw[List.getElem?_take_of_lt cW,List.getElem?_drop]at aL
 have:=bK _ _ aL
 have bq:dZ ay R ((cs.drop (l*R)).take ((h-l)*R)) i=dZ ay R cs (l+i):=by
  have hle:(i+1)*R<=(h-l)*R:=Nat.mul_le_mul_right _ cW
  rw[Nat.succ_mul]at hle
  unfold dZ
  cases ay with
  | true=>
   simp only[if_true]
   rw[List.drop_take,List.drop_drop,List.take_take,Nat.min_eq_left (by omega),<-Nat.add_mul]
  | false=>
   have fA:R=1:=by rcases o with h | h;cases h;exact h
   subst fA
   simp only[Bool.false_eq_true,if_false,Nat.mul_one]
   rw[List.getElem?_take_of_lt cW,List.getElem?_drop]
 rw[bq]
 exact this
end
section
variable {P:Program} {r:List br} {F:Fr} {H:ab} {Q:Fr->ab->Prop}
theorem MP{en:Bool}{d t e R b i len cap l h:Nat}{X:bB}{x:Operand}{bX ad:Option Operand}{aw:a_ ((⟨en,none,some d,.slice t x bX ad none⟩:br)::r) Q}(ao:aq F x= .slice (some ⟨b,i,none⟩) len cap)(aS:H[b]?=some X)(he:X.elem?=some e)(hu:P.underlying t=some (.slice e))(an:bm P e=some R)
  (ar:dN (aq F) bX=some l)(cR:fl (aq F) len ad=some h)(o:l<=h)(aa:h<=cap)(lR:l<cap)(K:a8 P r Q .mk (aY F d (.slice (some ⟨b,i+l*R,none⟩) (h-l) (cap-l))) H):a8 P ((⟨en,none,some d,.slice t x bX ad none⟩:br)::r) Q aw F H:=by
 have wT:bT P (aq F) H (.slice t x bX ad none)=none:=by simp only[bT,ao]
 have a2:∀U:Oper,U.op= .slice t x bX ad none->bF P U=false:=fun U aM=>by simp[bF,aM]
 exact iz (v:= .slice (some ⟨b,i+l*R,none⟩) (h-l) (cap-l)) (H1:=H) rfl rfl wT (fun U aM=> .slice aM hu an ao aS he ar cR o aa lR) a2 (.inr (Ext.refl H)) K
end
section
variable {α:Type} {e R k:Nat} {ay:Bool} {ae:ab->Value->α->Prop} {H:ab} {v:Value} {xs:List α}
theorem bz.XC{b:Nat}{X:bB}(h:bz k e R ay ae H v xs)(af:b<k)(bl:∀u y,ae H u y->ae (H.set b X) u y):bz k e R ay ae (H.set b X) v xs:=by
 obtain⟨cs,⟨o,aa⟩,aD⟩:=h
 refine⟨cs,⟨o,?_⟩,fun i y ad=>bl _ _ (aD i y ad)⟩
 rcases aa with aa | ⟨c,i,cap,l,all,aT,aQ,bn,b8,eD,gw⟩
 ·exact .inl aa
 ·exact .inr ⟨c,i,cap,l,all,aT,aQ,bn,b8,by rw[List.getElem?_set_ne (by omega)];exact eD,gw⟩
end
section
variable {P:Program} {F G:Fr} {H:ab} {Q:ds->Fr->Fr->ab->Prop}
theorem dx.range{m k id C ak N D t:Nat}{B:eI}{aw:a_ (eI.seq (.ops [.xs [bi C .lss t (T ak) (T N)]]) (.seq (.cond (T C) .skip (.exit id)) (.seq B (.ops [.xs [bi D .add t (T ak) (b_.ak 1),J ak (T D)]])))) Q}
  (aF:jL m k (eI.seq (.ops [.xs [bi C .lss t (T ak) (T N)]]) (.seq (.cond (T C) .skip (.exit id)) (.seq B (.ops [.xs [bi D .add t (T ak) (b_.ak 1),J ak (T D)]]))))=true)(n:Nat)(aE:n<9223372036854775807)(cm:F N= .int .i64 (n:Int))(Qq:gI m N=false)(PS:F ak= .int .i64 0)(adH:C≠ak)(adI:D≠ak)
  (Inv:Nat->Fr->Fr->ab->Prop)(aH:Inv 0 F G H)
  (body:∀(i:Nat) (aA bC:Fr) (H1:ab),i<n->mix m F aA ak= .int .i64 (i:Int)->Inv i (mix m F aA) (mix k G bC) H1->∀K:Fr->Fr->ab->Prop,(∀bV dz a0,bV ak= .int .i64 (i:Int)->Inv (i+1) (aY (aY bV D (.int .i64 ((i+1:Nat):Int))) ak (.int .i64 ((i+1:Nat):Int))) dz a0->K bV dz a0)->
   bU P B (l7 K Q) .mk (aY (mix m F aA) C (.bool true)) (mix k G bC) H1)
  (fin:∀(aA bC:Fr) (H1:ab),mix m F aA ak= .int .i64 (n:Int)->Inv n (mix m F aA) (mix k G bC) H1->Q (.exit id) (aY (mix m F aA) C (.bool false)) (mix k G bC) H1):
  dx P m k (eI.seq (.ops [.xs [bi C .lss t (T ak) (T N)]]) (.seq (.cond (T C) .skip (.exit id)) (.seq B (.ops [.xs [bi D .add t (T ak) (b_.ak 1),J ak (T D)]])))) Q aw F G H:=by
 refine dx.mk aF (fun dI aA bC H1=>∃i,dI=n-i/\i<=n/\aA ak= .int .i64 (i:Int)/\Inv i aA bC H1) n ⟨0,by omega,by omega,by simpa using PS,aH⟩ ?_
 rintro dI aA bC H1 ⟨i,rfl,ad,dc,IL⟩ K a1
 have rP:mix m F aA N= .int .i64 (n:Int):=by
  simp only[mix]
  rw[if_neg (by simpa[gI]using Qq)]
  exact cm
 generalize tt:mix m F aA=abS at*
 simp only[k1,aac,Z8,MK,kL,dc,rP,Xq,e0,MN,Z7,Mk,Z_,hL,NP]
 refine bG.cE (fun a5=>?_) (fun jX=>?_)
 ·have jb:i<n:=by omega
  have aJ:decide ((i:Int)<(n:Int))=true:=decide_eq_true a5
  simp only[aJ,aad,Mk]
  have:=body i aA bC H1 jb (by rw[tt];exact dc) (by rw[tt];exact IL) (fun bV dz a0=>a8 P [bi D .add t (T ak) (b_.ak 1),J ak (T D)] (fun aA H1=>K aA dz H1) .mk bV a0) fun bV dz a0 iH P6=>?_
  ·rw[tt]at this
   refine eJ.mono (x:=B) (fun e bV dz a0 h=>?_) this
   cases e with
   | normal=>exact h
   | exit id=>exact h
   | ret=>exact h
  ·simp only[MK,kL,Ig,iH,Xo,e0,Ys,hL,MN]
   have hw:IntKind.wrap .i64 ((i:Int)+1)=((i+1:Nat):Int):=by rw[cP (by omega) (by omega)];simp
   rw[hw]
   exact a1 (n-(i+1)) _ _ _ (by omega) ⟨i+1,rfl,by omega,hL _ _ _,P6⟩
 ·have aJ:decide ((i:Int)<(n:Int))=false:=decide_eq_false jX
  have eX:i=n:=by omega
  subst eX
  simp only[aJ,aaa,XA]
  have:=fin aA bC H1 (by rw[tt];exact dc) (by rw[tt];exact IL)
  rw[tt]at this
  exact this
end
end Go.b_
end
