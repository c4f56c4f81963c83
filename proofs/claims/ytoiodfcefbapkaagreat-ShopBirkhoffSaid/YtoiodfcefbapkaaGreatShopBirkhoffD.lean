/- Part of the proof of ShopBirkhoff. -/
import Derived.Test.YtoiodfcefbapkaaGreatShopBirkhoffC
set_option linter.unusedVariables false
set_option linter.unusedSimpArgs false
section
namespace Go.cl
inductive hx where
 | xs (l:List bJ)
 | bL (r e:Nat)
 | cE (r e:Nat) (y:Operand)
 | a8 (g:Option (Nat×Bool)) (d s x f r off:Nat)
 | bR (g:Option (Nat×Bool)) (d t x r:Nat)
 | aB (g:Option (Nat×Bool)) (d t x r off:Nat)
 | bX (b:Bool) (g:Option (Nat×Bool)) (t x:Nat) (y:Operand) (r:Nat)
 | st (b:Bool) (g:Option (Nat×Bool)) (t x:Nat) (y:Operand) (r off:Nat)
inductive fc where
 | skip
 | ret
 | exit (id:Nat)
 | seq (x y:fc)
 | cond (c:Operand) (x y:fc)
 | block (id:Nat) (x:fc)
 | loop (m k:Nat) (x:fc)
 | box (m k:Nat) (x:fc)
 | ops (l:List hx)
 | opsL (l:List hx)
inductive kx where
 | tmp (i:Nat)
 | cell (a ty:Nat)
structure cT where
 code:fc
 results:List kx
def hx.back:hx->List bJ
 | .xs l=>l
 | .bL r e=>[⟨true,none,some r,.alloc e⟩]
 | .cE r e y=>[⟨true,none,some r,.box e y⟩]
 | .a8 g d s x f _ _=>[⟨true,g,some d,.fieldAddr s (.tmp x) f⟩]
 | .bR g d t x _=>[⟨true,g,some d,.load t (.tmp x)⟩]
 | .aB g d t x _ _=>[⟨true,g,some d,.load t (.tmp x)⟩]
 | .bX b g t x y _=>[⟨b,g,none,.store t (.tmp x) y⟩]
 | .st b g t x y _ _=>[⟨b,g,none,.store t (.tmp x) y⟩]
def rN:List hx->List bJ
 | []=>[]
 | i::r=>i.back++rN r
def fc.back:fc->g3
 | .skip=> .skip
 | .ret=> .ret
 | .exit id=> .exit id
 | .seq x y=> .seq x.back y.back
 | .cond c x y=> .cond c x.back y.back
 | .block id x=> .block id x.back
 | .loop _ _ x=> .loop x.back
 | .box _ _ x=>x.back
 | .ops l=> .ops (rN l)
 | .opsL l=> .opsL (rN l)
def kx.back:kx->ResultVar
 | .tmp i=> .tmp i
 | .cell a ty=> .cell a ty
def cT.back(z:cT):fL:=⟨z.code.back,z.results.map kx.back⟩
def kM:Value->Bool
 | .pointer (some _)=>true
 | _=>false
@[simp] theorem alf(a:Addr):kM (.pointer (some a))=true:=rfl
def qp(v:Value)(n:Nat):Value:=match v with
 | .pointer (some ⟨b,i,none⟩)=> .pointer (some ⟨b,i+n,none⟩)
 | _=>undef
def e7:Value->Bool
 | .agg _=>true
 | _=>false
def Whole(P:Program)(e:TypeId)(v:Value):Prop:=bu P e=some v.cells.size/\(v.cells.toList.all (·.oneCell'))=true/\(if e7 v=true then dk P e=some true else dk P e=some false/\v.cells= #[v])
def nM(g:Option (Nat×Bool))(F:Fr)(cy c5:Prop):Prop:=match g with
 | none=>cy
 | some (j,w)=>ow (hy (F j)) w cy c5
def dE(P:Program):List hx->Fr->Fr->ad->(Fr->Fr->ad->Prop)->Prop
 | [],F,G,H,Q=>Q F G H
 | .xs l::r,F,G,H,Q=>bm P l F H fun az H1=>dE P r az G H1 Q
 | .bL c e::r,F,G,H,Q=>fj (dL P e) fun z=>gR (flat z=true/\Whole P e z) (dE P r (a5 F c (.pointer (some ⟨H.length,0,none⟩))) (a5 G c z) (H++[.dead]) Q)
 | .cE c e y::r,F,G,H,Q=>gR (Whole P e (ar F y)) (dE P r (a5 F c (.pointer (some ⟨H.length,0,none⟩))) (a5 G c (ar F y)) (H++[.dead]) Q)
 | .a8 g d s x f c off::r,F,G,H,Q=>nM g F (gR (kM (F c)=true) (dE P r (a5 F d (qp (F c) off)) G H Q)) (dE P r (a5 F d undef) G H Q)
 | .bR g d t x c::r,F,G,H,Q=>nM g F (gR (kM (F c)=true) (dE P r (a5 F d (G c)) G H Q)) (dE P r (a5 F d undef) G H Q)
 | .aB g d t x c off::r,F,G,H,Q=>nM g F (gR (kM (F c)=true) (oF (G c) fun cs=>fj (dk P t) fun a=>iA a (fj (bu P t) fun n=>gR (off+n<=cs.size) (dE P r (a5 F d (.agg ((cs.toList.drop off).take n).toArray)) G H Q)) (fj cs.toList[off]? fun v=>dE P r (a5 F d v) G H Q)))
   (dE P r (a5 F d undef) G H Q)
 | .bX _ g t x y c::r,F,G,H,Q=>nM g F (gR (kM (F c)=true/\Whole P t (ar F y)) (dE P r F (a5 G c (ar F y)) H Q)) (dE P r F G H Q)
 | .st _ g t x y c off::r,F,G,H,Q=>nM g F (gR (kM (F c)=true) (oF (G c) fun cs=>gR (bu P t=some (ar F y).cells.size/\off+(ar F y).cells.size<=cs.size/\((ar F y).cells.toList.all (·.oneCell'))=true) (dE P r F (a5 G c (.agg (mY cs.toList off (ar F y).cells.toList).toArray)) H Q))) (dE P r F G H Q)
def nC(K:Fr->Fr->ad->Prop)(Q:dS->Fr->Fr->ad->Prop):dS->Fr->Fr->ad->Prop
 | .normal,F,G,H=>K F G H
 | e,F,G,H=>Q e F G H
def rZ(id:Nat)(Q:dS->Fr->Fr->ad->Prop):dS->Fr->Fr->ad->Prop
 | .exit iv,F,G,H=>if iv=id then Q .normal F G H else Q (.exit iv) F G H
 | e,F,G,H=>Q e F G H
inductive xP (body:Fr->Fr->ad->(dS->Fr->Fr->ad->Prop)->Prop) (Q:dS->Fr->Fr->ad->Prop):Fr->Fr->ad->Prop
 | round {F G:Fr} {H:ad} (ai:Fr->Fr->ad->Prop) (h:body F G H (nC ai Q)) (ew:∀az bH H1,ai az bH H1->xP body Q az bH H1):xP body Q F G H
def fe(P:Program):fc->Fr->Fr->ad->(dS->Fr->Fr->ad->Prop)->Prop
 | .skip,F,G,H,Q=>Q .normal F G H
 | .ret,F,G,H,Q=>Q .ret F G H
 | .exit id,F,G,H,Q=>Q (.exit id) F G H
 | .seq x y,F,G,H,Q=>fe P x F G H (nC (fun az bH H1=>fe P y az bH H1 Q) Q)
 | .cond c x y,F,G,H,Q=>AQ (ar F c) fun b=>iA b (fe P x F G H Q) (fe P y F G H Q)
 | .block id x,F,G,H,Q=>fe P x F G H (rZ id Q)
 | .loop _ _ x,F,G,H,Q=>xP (fe P x) Q F G H
 | .box _ _ x,F,G,H,Q=>fe P x F G H Q
 | .ops l,F,G,H,Q=>dE P l F G H (fun az bH H1=>Q .normal az bH H1)
 | .opsL l,F,G,H,Q=>dE P l F G H (fun az bH H1=>Q .normal az bH H1)
def pS(F G:Fr):List kx->(List Value->Prop)->Prop
 | [],K=>K []
 | .tmp i::rs,K=>pS F G rs fun aH=>K (F i::aH)
 | .cell a ty::rs,K=>gR (kM (F a)=true) (pS F G rs fun aH=>K (G a::aH))
def Ab(rs:List kx)(Q:Value->ad->Prop):dS->Fr->Fr->ad->Prop
 | .normal,F,G,H=>pS F G rs fun aH=>Q (bf aH) H
 | .ret,F,G,H=>pS F G rs fun aH=>Q (bf aH) H
 | .exit _,_,_,_=>False
abbrev Cells:=List (Nat×Nat)
abbrev js:=List (Nat×Nat×Nat×Option (Nat×Bool))
def mF(C:Cells)(r:Nat):Bool:=(C.lookup r).isSome
def EG(C:Cells):Option Nat->Bool
 | some d=> !mF C d
 | none=>true
def kill(d:Nat)(E:js):js:=E.filter fun p=>p.1 !=d&&p.2.1 !=d&&(match p.2.2.2 with | some (j,_)=>j !=d | none=>true)
def Hq:Option Nat->js->js
 | some d,E=>kill d E
 | none,E=>E
def Bj:Option (Nat×Bool)->Option (Nat×Bool)->Bool
 | some (j,w),some (dO,g1)=>j==dO&&w==g1
 | none,none=>true
 | _,_=>false
def reach(E:js)(g:Option (Nat×Bool))(x r off:Nat):Bool:=(x==r&&off==0) || match E.lookup x with
 | some (dG,P4,lr)=>dG==r&&P4==off&&(Bj lr none || Bj lr g)
 | none=>false
def EO(P:Program)(E:js)(g:Option (Nat×Bool))(s x f r off:Nat):Bool:=match fG P s f with
 | some U=>decide (U<=off)&&reach E g x r (off-U)
 | none=>false
def h9(P:Program)(C:Cells)(late:Bool):js->List hx->Bool
 | _,[]=>true
 | E,.xs l::r=>(l.all fun U=>EG C U.d)&&h9 P C late (l.foldl (fun E U=>Hq U.d E) E) r
 | E,.bL c e::r=>C.lookup c==some e&&h9 P C late (kill c E) r
 | E,.cE c e _::r=>C.lookup c==some e&&h9 P C late (kill c E) r
 | E,.a8 g d s x f c off::r=> !mF C d&&mF C c&&EO P E g s x f c off&&(match g with | some (j,_)=>j !=d | none=>true)&&h9 P C late ((d,c,off,g)::kill d E) r
 | E,.bR g d t x c::r=> !mF C d&&C.lookup c==some t&&reach E g x c 0&&h9 P C late (kill d E) r
 | E,.aB g d _ x c off::r=> !mF C d&&mF C c&&reach E g x c off&&h9 P C late (kill d E) r
 | E,.bX b g t x _ c::r=>(b || late)&&C.lookup c==some t&&reach E g x c 0&&h9 P C late E r
 | E,.st b g _ x _ c off::r=>(b || late)&&mF C c&&reach E g x c off&&h9 P C late E r
def xi:Op->Bool
 | .load .. | .store .. =>false
 | .call {callee:= .value _,.. }=>false
 | op=> !j3 op
def m1:List Nat->List Nat->List hx->Bool
 | _,_,[]=>true
 | ae,W,.xs l::r=>(l.all fun U=>xi U.op)&&m1 ae W r
 | ae,W,.a8 _ _ _ _ _ _ _::r=>m1 ae W r
 | ae,W,.bR _ _ _ _ c::r=> !W.contains c&&m1 (c::ae) W r
 | ae,W,.aB _ _ _ _ c _::r=> !W.contains c&&m1 (c::ae) W r
 | ae,W,.bX b _ _ _ _ c::r=>(b || (!W.contains c&& !ae.contains c))&&m1 ae (if b then W else c::W) r
 | ae,W,.st b _ _ _ _ c _::r=>(b || (!W.contains c&& !ae.contains c))&&m1 ae (if b then W else c::W) r
 | _,_,_=>false
def hl(m r:Nat):Bool:=(m>>>r) % 2==1
def LY(m:Nat):Option Nat->Bool
 | some d=>hl m d
 | none=>true
def x1(m k:Nat):hx->Bool
 | .xs l=>l.all fun U=>LY m U.d
 | .bL c _=>hl m c&&hl k c
 | .cE c _ _=>hl m c&&hl k c
 | .a8 _ d _ _ _ _ _=>hl m d
 | .bR _ d _ _ _=>hl m d
 | .aB _ d _ _ _ _=>hl m d
 | .bX _ _ _ _ _ c=>hl k c
 | .st _ _ _ _ _ c _=>hl k c
def kW(m k:Nat):fc->Bool
 | .seq x y=>kW m k x&&kW m k y
 | .cond _ x y=>kW m k x&&kW m k y
 | .block _ x=>kW m k x
 | .loop _ _ x=>kW m k x
 | .box _ _ x=>kW m k x
 | .ops l=>l.all (x1 m k)
 | .opsL l=>l.all (x1 m k)
 | _=>true
def lj(P:Program)(C:Cells):fc->Bool
 | .seq x y=>lj P C x&&lj P C y
 | .cond _ x y=>lj P C x&&lj P C y
 | .block _ x=>lj P C x
 | .loop m k x=>kW m k x&&lj P C x
 | .box m k x=>kW m k x&&lj P C x
 | .ops l=>h9 P C false [] l
 | .opsL l=>h9 P C true [] l&&m1 [] [] l
 | _=>true
def vj(C:Cells)(rs:List kx):Bool:=rs.all fun r=>match r with
 | .tmp i=>true
 | .cell a ty=>C.lookup a==some ty
section
variable {P:Program}
theorem bm.append:∀{l da:List bJ} {F:Fr} {H:ad} {Q:Fr->ad->Prop},bm P l F H (fun az H1=>bm P da az H1 Q)->bm P (l++da) F H Q
 | [],da,F,H,Q,h=>h
 | x::l,da,F,H,Q,h=>by
  simp only[List.cons_append,bm]at h⊢
  split
  ·rename_i a1;rw[a1]at h;exact gL.mono (fun v H1=>bm.append) h
  ·rename_i j w a1
   rw[a1]at h
   simp only at h
   split
   ·rename_i af;rw[if_pos af]at h;exact gL.mono (fun v H1=>bm.append) h
   ·rename_i af;rw[if_neg af]at h;exact bm.append h
theorem Ul{F:Fr}{d:Option Nat}{v:Value}{r:Nat}(h:d≠some r):gw F d v r=F r:=by
 cases d with
 | none=>rfl
 | some e=>exact hF F v fun he=>h (by rw[he])
theorem bm.gY:∀{l:List bJ} {F:Fr} {H:ad} {Q:Fr->ad->Prop},bm P l F H Q->bm P l F H fun az H1=>Q az H1/\∀r,(∀U∈l,U.d≠some r)->az r=F r
 | [],F,H,Q,h=>⟨h,fun _ _=>rfl⟩
 | x::l,F,H,Q,h=>by
  have next:∀v H1,bm P l (gw F x.d v) H1 Q->bm P l (gw F x.d v) H1 fun az H1=>Q az H1/\∀r,(∀U∈x::l,U.d≠some r)->az r=F r:=fun v H1 o=>
   bm.mono (fun az aT ⟨aU,aO⟩=>⟨aU,fun r al=>by rw[aO r fun U aW=>al U (List.mem_cons_of_mem _ aW),Ul (al x List.mem_cons_self)]⟩) (bm.gY o)
  simp only[bm]at h⊢
  split
  ·rename_i a1;rw[a1]at h;exact gL.mono (fun v H1=>next v H1) h
  ·rename_i j w a1
   rw[a1]at h
   simp only at h
   split
   ·rename_i af;rw[if_pos af]at h;exact gL.mono (fun v H1=>next v H1) h
   ·rename_i af;rw[if_neg af]at h;exact next _ _ h
def na(g:Option (Nat×Bool))(F:Fr):Prop:=match g with
 | none=>True
 | some (j,w)=>hy (F j)=some w
theorem nM.imp{g:Option (Nat×Bool)}{F:Fr}{A B xK lK:Prop}(h:nM g F A B)(o:na g F->A->xK)(aa:¬na g F->B->lK):nM g F xK lK:=by
 cases g with
 | none=>exact o trivial h
 | some rq=>
  obtain⟨j,w⟩:=rq
  simp only[nM,ow]at h⊢
  split
  ·rename_i af;rw[if_pos af]at h;exact o af h
  ·rename_i af;rw[if_neg af]at h;exact aa af h
theorem AG{b:Bool}{g:Option (Nat×Bool)}{d:Option Nat}{op:Op}{r:List bJ}{F:Fr}{H:ad}{Q:Fr->ad->Prop}(h:nM g F (bm P (⟨b,none,d,op⟩::r) F H Q) (bm P r (gw F d undef) H Q)):bm P (⟨b,g,d,op⟩::r) F H Q:=by
 cases g with
 | none=>exact h
 | some rq=>exact h
theorem AE{b:Bool}{g:Option (Nat×Bool)}{d:Option Nat}{op:Op}{r:List bJ}{F:Fr}{H:ad}{ae W:List Nat}{Q:Fr->ad->Prop}(h:nM g F (fS P (⟨b,none,d,op⟩::r) F H ae W Q) (fS P r (gw F d undef) H ae W Q)):fS P (⟨b,g,d,op⟩::r) F H ae W Q:=by
 cases g with
 | none=>exact h
 | some rq=>exact h
def jd(E:js)(F:Fr):Prop:=∀x∈E,na x.2.2.2 F->F x.1=qp (F x.2.1) x.2.2.1
theorem jd.nil(F:Fr):jd [] F:=fun x h=>by simp at h
theorem PL{d:Nat}{E:js}{x:Nat×Nat×Nat×Option (Nat×Bool)}(h:x∈kill d E):x∈E/\x.1≠d/\x.2.1≠d/\∀j w,x.2.2.2=some (j,w)->j≠d:=by
 unfold kill at h
 rw[List.mem_filter]at h
 obtain⟨o,aa⟩:=h
 simp only[Bool.and_eq_true,bne_iff_ne,ne_eq]at aa
 refine⟨o,aa.1.1,aa.1.2,fun j w a1=>?_⟩
 have:=aa.2
 rw[a1]at this
 simpa using this
theorem EW{g:Option (Nat×Bool)}{F az:Fr}(h:∀j w,g=some (j,w)->az j=F j):na g az↔na g F:=by
 cases g with
 | none=>exact Iff.rfl
 | some rq=>obtain⟨j,w⟩:=rq;simp only[na,h j w rfl]
theorem jd.kill{E:js}{F:Fr}(h:jd E F)(d:Nat)(v:Value):jd (kill d E) (a5 F d v):=fun x J a1=>by
 obtain⟨o,aa,aE,bA⟩:=PL J
 rw[hF _ _ aa,hF _ _ aE]
 exact h x o ((EW fun j w e=>hF F v (bA j w e)).1 a1)
theorem abJ{l:List bJ}:∀{E:js} {x:Nat×Nat×Nat×Option (Nat×Bool)},x∈l.foldl (fun E U=>Hq U.d E) E->x∈E/\∀U∈l,U.d≠some x.1/\U.d≠some x.2.1/\∀j w,x.2.2.2=some (j,w)->U.d≠some j:=by
 induction l with
 | nil=>intro E x h;exact⟨h,fun U aW=>by simp at aW⟩
 | cons U l a2=>
  intro E x h
  simp only[List.foldl_cons]at h
  obtain⟨o,aa⟩:=a2 h
  cases aA:U.d with
  | none=>
   rw[aA]at o
   refine⟨o,fun la fN=>?_⟩
   rcases List.mem_cons.1 fN with rfl | fN
   ·rw[aA];simp
   ·exact aa la fN
  | some d=>
   rw[aA]at o
   obtain⟨aU,aO,bw,cj⟩:=PL o
   refine⟨aU,fun la fN=>?_⟩
   rcases List.mem_cons.1 fN with rfl | fN
   ·rw[aA]
    exact⟨fun e=>aO (Option.some.inj e).symm,fun e=>bw (Option.some.inj e).symm,fun j w a1 e=>cj j w a1 (Option.some.inj e).symm⟩
   ·exact aa la fN
theorem jd.Ps{E:js}{F az:Fr}(h:jd E F){l:List bJ}(a7:∀r,(∀U∈l,U.d≠some r)->az r=F r):jd (l.foldl (fun E U=>Hq U.d E) E) az:=fun x J a1=>by
 obtain⟨o,aa⟩:=abJ J
 rw[a7 _ fun U aW=>(aa U aW).1,a7 _ fun U aW=>(aa U aW).2.1]
 exact h x o ((EW fun j w e=>a7 j fun U aW=>(aa U aW).2.2 j w e).1 a1)
theorem L7{g lr:Option (Nat×Bool)}(h:Bj g lr=true):g=lr:=by
 cases g<;>cases lr<;>simp[Bj]at h⊢
 ·obtain⟨o,aa⟩:=h;exact Prod.ext o aa
theorem Hu{α:Type}:∀{E:List (Nat×α)} {x:Nat} {y:α},E.lookup x=some y->(x,y)∈E
 | [],x,y,h=>by simp at h
 | (a,b)::E,x,y,h=>by
  rw[List.lookup_cons]at h
  split at h
  ·rename_i J
   have:x=a:=by simpa using J
   subst this
   obtain rfl:=Option.some.inj h
   exact List.mem_cons_self
  ·exact List.mem_cons_of_mem _ (Hu h)
theorem rB{E:js}{F:Fr}{g:Option (Nat×Bool)}{x r off b:Nat}(h:reach E g x r off=true)(b5:jd E F)(a1:na g F)(al:F r= .pointer (some ⟨b,0,none⟩)):F x= .pointer (some ⟨b,off,none⟩):=by
 simp only[reach,Bool.or_eq_true,Bool.and_eq_true,beq_iff_eq]at h
 rcases h with⟨rfl,rfl⟩ | h
 ·exact al
 ·cases au:E.lookup x with
  | none=>rw[au]at h;cases h
  | some p=>
   obtain⟨dG,P4,lr⟩:=p
   rw[au]at h
   simp only[Bool.and_eq_true,Bool.or_eq_true,beq_iff_eq]at h
   obtain⟨⟨rfl,rfl⟩,WH⟩:=h
   have:=b5 _ (Hu au)
   simp only at this
   rw[this,al]
   ·simp[qp]
   ·rcases WH with q | q
    ·rw[L7 q];trivial
    ·rw[L7 q];exact a1
structure g4 (P:Program) (C:Cells) (F G:Fr) (H:ad) (a_:Nat->Option bN):Prop where
 fit:Fit a_ H
 cell:∀r e,C.lookup r=some e->F r=undef\/∃b,F r= .pointer (some ⟨b,0,none⟩)/\a_ b=some (.own e false (G r).cells.toList)/\Whole P e (G r)
 inj:∀r dG e c0 b,C.lookup r=some e->C.lookup dG=some c0->r≠dG->F r= .pointer (some ⟨b,0,none⟩)->F dG≠ .pointer (some ⟨b,0,none⟩)
section
variable {C:Cells} {F G:Fr} {H:ad} {a_:Nat->Option bN}
theorem g4.at(h:g4 P C F G H a_){r e:Nat}(al:C.lookup r=some e)(aK:kM (F r)=true):∃b,F r= .pointer (some ⟨b,0,none⟩)/\a_ b=some (.own e false (G r).cells.toList)/\Whole P e (G r)/\(cL a_ H)[b]?=some (.own e false (G r).cells.toList)/\b<H.length:=by
 rcases h.cell r e al with q | ⟨b,aU,aO,bw⟩
 ·rw[q]at aK;cases aK
 ·have aA:=(h.fit b _ aO).1
  refine⟨b,aU,aO,bw,?_,(cn.1 aA).1⟩
  rw[lH,aA,aO]
  rfl
theorem wu{r:Nat}(h:mF C r=true):∃e,C.lookup r=some e:=Option.isSome_iff_exists.1 h
theorem g4.oq(h:g4 P C F G H a_){d:Nat}(aA:mF C d=false)(v:Value):g4 P C (a5 F d v) G H a_:=by
 have ne:∀r e,C.lookup r=some e->r≠d:=fun r e al=>by rintro rfl;simp[mF,al]at aA
 refine⟨h.fit,fun r e al=>?_,fun r dG e c0 b al fW c2 a7=>?_⟩
 ·rw[hF _ _ (ne r e al)];exact h.cell r e al
 ·rw[hF _ _ (ne r e al)]at a7
  rw[hF _ _ (ne dG c0 fW)]
  exact h.inj r dG e c0 b al fW c2 a7
theorem g4.congr(h:g4 P C F G H a_){az:Fr}{H1:ad}(a7:∀r e,C.lookup r=some e->az r=F r)(aC:Fit a_ H1):g4 P C az G H1 a_:=by
 refine⟨aC,fun r e al=>?_,fun r dG e c0 b al fW c2 af=>?_⟩
 ·rw[a7 r e al];exact h.cell r e al
 ·rw[a7 r e al]at af
  rw[a7 dG c0 fW]
  exact h.inj r dG e c0 b al fW c2 af
def s3(a_:Nat->Option bN)(b:Nat)(x:bN):Nat->Option bN:=fun c=>if c=b then some x else a_ c
theorem xg(a_:Nat->Option bN)(b:Nat)(x:bN):s3 a_ b x b=some x:=by simp[s3]
theorem xf(a_:Nat->Option bN){b c:Nat}(x:bN)(h:c≠b):s3 a_ b x c=a_ c:=by simp[s3,h]
theorem g4.new(h:g4 P C F G H a_){c e:Nat}(ag:C.lookup c=some e){z:Value}(aQ:Whole P e z):
  g4 P C (a5 F c (.pointer (some ⟨H.length,0,none⟩))) (a5 G c z) (H++[.dead]) (s3 a_ H.length (.own e false z.cells.toList))/\cL (s3 a_ H.length (.own e false z.cells.toList)) (H++[.dead])=cL a_ H++[.own e false z.cells.toList]:=by
 have aF:a_ H.length=none:=by
  cases aK:a_ H.length with
  | none=>rfl
  | some x=>have:=h.fit.lt aK;omega
 refine⟨⟨fun b x af=>?_,fun r c0 al=>?_,fun r dG bn bj b al fW c2 a7=>?_⟩,?_⟩
 ·by_cases gx:b=H.length
  ·subst gx
   rw[xg]at af
   obtain rfl:=Option.some.inj af
   exact⟨by simp,_,_,_,rfl⟩
  ·rw[xf _ _ gx]at af
   obtain⟨aU,aO⟩:=h.fit b x af
   exact⟨by rw[List.getElem?_append_left (h.fit.lt af)];exact aU,aO⟩
 ·by_cases ux:r=c
  ·subst ux
   rw[ag]at al
   obtain rfl:=Option.some.inj al
   exact .inr ⟨H.length,hG _ _ _,by rw[xg,hG],by rw[hG];exact aQ⟩
  ·rw[hF _ _ ux,hF _ _ ux]
   rcases h.cell r c0 al with q | ⟨b,aU,aO,bw⟩
   ·exact .inl q
   ·have:=h.fit.lt aO
    exact .inr ⟨b,aU,by rw[xf _ _ (by omega)];exact aO,bw⟩
 ·have lt:∀r e b,C.lookup r=some e->F r= .pointer (some ⟨b,0,none⟩)->b<H.length:=fun r e b al a7=>by
   rcases h.cell r e al with q | ⟨cg,aU,aO,bw⟩
   ·rw[q]at a7;cases a7
   ·rw[aU]at a7;simp at a7;subst a7;exact h.fit.lt aO
  by_cases o:r=c
  ·subst o
   rw[hG]at a7
   simp at a7
   subst a7
   rw[hF _ _ (Ne.symm c2)]
   intro aq
   have:=lt dG bj _ fW aq
   omega
  ·rw[hF _ _ o]at a7
   by_cases aa:dG=c
   ·subst aa
    rw[hG]
    intro aq
    simp at aq
    have:=lt r bn b al a7
    omega
   ·rw[hF _ _ aa]
    exact h.inj r dG bn bj b al fW c2 a7
 ·apply List.ext_getElem?
  intro b
  rw[lH]
  by_cases af:b<H.length
  ·rw[List.getElem?_append_left af,List.getElem?_append_left (by rw[kO];exact af),lH,xf _ _ (by omega)]
  ·by_cases gx:b=H.length
   ·subst gx
    rw[xg,List.getElem?_append_right (Nat.le_refl _),List.getElem?_append_right (by rw[kO];exact Nat.le_refl _),kO]
    simp
   ·rw[List.getElem?_eq_none (by simp;omega),List.getElem?_eq_none (by simp[kO];omega)]
    rfl
theorem g4.set(h:g4 P C F G H a_){c e b:Nat}(ag:C.lookup c=some e)(a7:F c= .pointer (some ⟨b,0,none⟩)){z:Value}(aQ:Whole P e z):
  g4 P C F (a5 G c z) H (s3 a_ b (.own e false z.cells.toList))/\cL (s3 a_ b (.own e false z.cells.toList)) H=(cL a_ H).set b (.own e false z.cells.toList):=by
 have af:a_ b=some (.own e false (G c).cells.toList):=by
  rcases h.cell c e ag with q | ⟨cg,aU,aO,bw⟩
  ·rw[q]at a7;cases a7
  ·rw[aU]at a7;simp at a7;subst a7;exact aO
 have aA:=(h.fit b _ af).1
 have hg:=h.fit.lt af
 refine⟨⟨fun cg x cZ=>?_,fun r c0 al=>?_,h.inj⟩,?_⟩
 ·by_cases gx:cg=b
  ·subst gx
   rw[xg]at cZ
   obtain rfl:=Option.some.inj cZ
   exact⟨aA,_,_,_,rfl⟩
  ·rw[xf _ _ gx]at cZ
   exact h.fit cg x cZ
 ·by_cases ux:r=c
  ·subst ux
   rw[ag]at al
   obtain rfl:=Option.some.inj al
   exact .inr ⟨b,a7,by rw[xg,hG],by rw[hG];exact aQ⟩
  ·rw[hF _ _ ux]
   rcases h.cell r c0 al with q | ⟨cg,aU,aO,bw⟩
   ·exact .inl q
   ·have:cg≠b:=fun e=>by subst e;exact h.inj c r e _ cg ag al (Ne.symm ux) a7 aU
    exact .inr ⟨cg,aU,by rw[xf _ _ this];exact aO,bw⟩
 ·apply List.ext_getElem?
  intro cg
  rw[lH]
  by_cases gx:b=cg
  ·subst gx
   rw[xg,List.getElem?_set_self (by rw[kO];exact hg),aA]
   rfl
  ·rw[List.getElem?_set_ne gx,lH,xf _ _ (Ne.symm gx)]
end
section
variable {aS:Operand->Value} {H:ad} {b e:Nat} {x y:Operand} {v:Value}
theorem xV{v:Value}(h:e7 v=true):v= .agg v.cells:=by cases v<;>simp[e7]at h;rfl
theorem adx{t:Nat}(J:aS x= .pointer (some ⟨b,0,none⟩))(aZ:H[b]?=some (.own e false v.cells.toList))(hw:Whole P t v):ca P aS H (.load t x)=some (v,H):=by
 obtain⟨o,aa,aE⟩:=hw
 have ag:jt H b=some v.cells.toList:=by unfold jt;rw[aZ];rfl
 simp only[ca,J,ag]
 split at aE
 ·rename_i aL
  rw[aE]
  simp only[o]
  rw[if_pos (by simp)]
  have:(v.cells.toList.drop 0).take v.cells.size=v.cells.toList:=by rw[List.drop_zero,List.take_of_length_le (by simp)]
  rw[this]
  simp only[Array.toArray_toList]
  rw[<-xV aL]
 ·rw[aE.1]
  simp only
  rw[aE.2]
  rfl
theorem QU{t off:Nat}{cs:List Value}(J:aS x= .pointer (some ⟨b,off,none⟩))(aZ:H[b]?=some (.own e false cs))(ao:bu P t=some (aS y).cells.size)(bF:off+(aS y).cells.size<=cs.length)(o:((aS y).cells.toList.all (·.oneCell'))=true):
  ca P aS H (.store t x y)=some (undef,H.set b (.own e false (dr cs off (aS y).cells.toList))):=by
 simp only[ca,J,aZ]
 rw[if_pos ⟨ao,bF,o⟩]
end
theorem Whole.adE{e off:Nat}{cs:Array Value}{aH:List Value}(h:Whole P e (.agg cs))(bF:off+aH.length<=cs.size)(o:(aH.all (·.oneCell'))=true):Whole P e (.agg (dr cs.toList off aH).toArray):=by
 obtain⟨aU,aO,bw⟩:=h
 have au:(dr cs.toList off aH).length=cs.size:=by rw[om (by simpa using bF)];simp
 refine⟨?_,?_,by simpa[e7]using bw⟩
 ·rw[aU];simp only[Value.cells,List.size_toArray,au]
 ·simp only[Value.cells]at aO⊢
  rw[List.all_eq_true]at aO⊢
  intro u hu
  simp only[dr,List.mem_append]at hu
  rcases hu with(hu | hu) | hu
  ·exact aO u (List.mem_of_mem_take hu)
  ·exact List.all_eq_true.1 o u hu
  ·exact aO u (List.mem_of_mem_drop hu)
theorem R5{t:Nat}{x:Operand}{d:Option Nat}{r:List bJ}{F:Fr}{H H1:ad}{Q:Fr->ad->Prop}{v:Value}(h:ca P (ar F) H (.load t x)=some (v,H1))(ah:bm P r (gw F d v) H1 Q):bm P (⟨true,none,d,.load t x⟩::r) F H Q:=by
 simp only[bm,gL,h]
 exact⟨fun _=>trivial,ah⟩
theorem R6{t:Nat}{x y:Operand}{d:Option Nat}{r:List bJ}{F:Fr}{H H1:ad}{Q:Fr->ad->Prop}{v:Value}(h:ca P (ar F) H (.store t x y)=some (v,H1))(ah:bm P r (gw F d v) H1 Q):bm P (⟨true,none,d,.store t x y⟩::r) F H Q:=by
 simp only[bm,gL,h]
 exact⟨fun _=>trivial,ah⟩
theorem ahw{s f b U off:Nat}{x:Nat}{d:Nat}{r:List bJ}{F:Fr}{H:ad}{Q:Fr->ad->Prop}(J:F x= .pointer (some ⟨b,off,none⟩))(aC:fG P s f=some U)(ah:bm P r (a5 F d (.pointer (some ⟨b,off+U,none⟩))) H Q):bm P (⟨true,none,some d,.fieldAddr s (.tmp x) f⟩::r) F H Q:=by
 have ao:ca P (ar F) H (.fieldAddr s (.tmp x) f)=some (.pointer (some ⟨b,off+U,none⟩),H):=by simp only[ca,ar,J,aC,Option.map_some]
 simp only[bm,gL,ao]
 exact⟨fun _=>trivial,ah⟩
theorem agO{cs aH:List Value}{i:Nat}(h:i+aH.length<=cs.length):mY cs i aH=dr cs i aH:=IV h
theorem yi{α:Type}{U:Option α}{K:α->Prop}(h:fj U K):∃v,U=some v/\K v:=by
 cases U with
 | none=>exact h.elim
 | some v=>exact⟨v,rfl,h⟩
theorem HF{v:Value}{K:Array Value->Prop}(h:oF v K):∃cs,v= .agg cs/\K cs:=by
 cases v with
 | agg cs=>exact⟨cs,rfl,h⟩
 | _=>exact h.elim
variable {C:Cells}
theorem Mb{E:js}{F:Fr}{g:Option (Nat×Bool)}{s x f r off b:Nat}(h:EO P E g s x f r off=true)(b5:jd E F)(a1:na g F)(al:F r= .pointer (some ⟨b,0,none⟩)):∃U,fG P s f=some U/\U<=off/\F x= .pointer (some ⟨b,off-U,none⟩):=by
 unfold EO at h
 cases hL:fG P s f with
 | none=>rw[hL]at h;cases h
 | some U=>
  rw[hL]at h
  simp only[Bool.and_eq_true,decide_eq_true_eq]at h
  exact⟨U,rfl,h.1,rB h.2 b5 a1 al⟩
theorem Ma{E:js}{F:Fr}{g:Option (Nat×Bool)}{d c off:Nat}(b5:jd E F)(sq:(match g with | some (j,_)=>j !=d | none=>true)=true)(a1:¬na g F):jd ((d,c,off,g)::kill d E) (a5 F d undef):=fun y aP wH=>by
 rcases List.mem_cons.1 aP with rfl | aP
 ·refine absurd ((EW fun j w e=>hF F undef ?_).1 wH) a1
  simp only at e
  subst e
  simpa using sq
 ·exact b5.kill d _ y aP wH
theorem Lt{F G:Fr}{H:ad}{a_:Nat->Option bN}{E:js}{g:Option (Nat×Bool)}{t x c:Nat}(bq:g4 P C F G H a_)(ag:C.lookup c=some t)(hN:reach E g x c 0=true)(b5:jd E F)(a1:na g F)(aK:kM (F c)=true):ca P (ar F) (cL a_ H) (.load t (.tmp x))=some (G c,cL a_ H):=by
 obtain⟨b,dh,gZ,fP,ho,iK⟩:=bq.at ag aK
 exact adx (b:=b) (rB hN b5 a1 dh) ho fP
theorem Ls{F G:Fr}{H:ad}{a_:Nat->Option bN}{E:js}{g:Option (Nat×Bool)}{t x c e off:Nat}{K:Value->Prop}(bq:g4 P C F G H a_)(ag:C.lookup c=some e)(hN:reach E g x c off=true)(b5:jd E F)(a1:na g F)
  (h:gR (kM (F c)=true) (oF (G c) fun cs=>fj (dk P t) fun a=>iA a (fj (bu P t) fun n=>gR (off+n<=cs.size) (K (.agg ((cs.toList.drop off).take n).toArray))) (fj cs.toList[off]? fun v=>K v))):∃v,ca P (ar F) (cL a_ H) (.load t (.tmp x))=some (v,cL a_ H)/\K v:=by
 obtain⟨aK,h⟩:=h
 obtain⟨b,dh,gZ,fP,ho,iK⟩:=bq.at ag aK
 obtain⟨cs,gp,h⟩:=HF h
 have J:=rB hN b5 a1 dh
 have Nm:jt (cL a_ H) b=some cs.toList:=by unfold jt;rw[ho,gp];rfl
 obtain⟨a,aL,h⟩:=yi h
 cases a with
 | true=>
  obtain⟨n,aF,bF,a4⟩:=yi h
  exact⟨_,by simp only[ca,ar,J,Nm,aL,aF];rw[if_pos (by simpa using bF)],a4⟩
 | false=>
  obtain⟨v,an,a4⟩:=yi h
  exact⟨v,by simp only[ca,ar,J,Nm,aL,an];rfl,a4⟩
theorem Lv{F G:Fr}{H:ad}{a_:Nat->Option bN}{E:js}{g:Option (Nat×Bool)}{t x c:Nat}{y:Operand}(bq:g4 P C F G H a_)(ag:C.lookup c=some t)(hN:reach E g x c 0=true)(b5:jd E F)(a1:na g F)(aK:kM (F c)=true)(hw:Whole P t (ar F y)):
  ∃e9,ca P (ar F) (cL a_ H) (.store t (.tmp x) y)=some (undef,cL e9 H)/\g4 P C F (a5 G c (ar F y)) H e9:=by
 obtain⟨b,dh,gZ,fP,ho,iK⟩:=bq.at ag aK
 have J:=rB hN b5 a1 dh
 have df:(ar F y).cells.size=(G c).cells.size:=by have:=fP.1;rw[hw.1]at this;exact Option.some.inj this
 have ao:=QU (P:=P) (aS:=ar F) (x:= .tmp x) (y:=y) J ho hw.1 (by simp;omega) hw.2.1
 obtain⟨aU,aO⟩:=bq.set ag dh hw
 refine⟨_,?_,aU⟩
 rw[ao,aO]
 have:dr (G c).cells.toList 0 (ar F y).cells.toList=(ar F y).cells.toList:=by
  simp only[dr,List.take_zero,List.nil_append,Nat.zero_add]
  rw[List.drop_eq_nil_of_le (by simp;omega),List.append_nil]
 rw[this]
theorem Lu{F G:Fr}{H:ad}{a_:Nat->Option bN}{E:js}{g:Option (Nat×Bool)}{t x c e off:Nat}{y:Operand}{K:Value->Prop}(bq:g4 P C F G H a_)(ag:C.lookup c=some e)(hN:reach E g x c off=true)(b5:jd E F)(a1:na g F)
  (h:gR (kM (F c)=true) (oF (G c) fun cs=>gR (bu P t=some (ar F y).cells.size/\off+(ar F y).cells.size<=cs.size/\((ar F y).cells.toList.all (·.oneCell'))=true) (K (.agg (mY cs.toList off (ar F y).cells.toList).toArray)))):
  ∃e9 v,ca P (ar F) (cL a_ H) (.store t (.tmp x) y)=some (undef,cL e9 H)/\g4 P C F (a5 G c v) H e9/\K v:=by
 obtain⟨aK,h⟩:=h
 obtain⟨b,dh,gZ,fP,ho,iK⟩:=bq.at ag aK
 obtain⟨cs,gp,⟨o,aa,aE⟩,a4⟩:=HF h
 have J:=rB hN b5 a1 dh
 have ao:=QU (P:=P) (aS:=ar F) (x:= .tmp x) (y:=y) J ho o (by rw[gp];simpa[Value.cells]using aa) aE
 rw[gp]at ao fP
 rw[agO (by simpa using aa)]at a4
 obtain⟨aU,aO⟩:=bq.set ag dh (fP.adE (aH:=(ar F y).cells.toList) (by simpa using aa) aE)
 refine⟨_,_,?_,aU,a4⟩
 rw[ao,aO]
 rfl
theorem m2:∀(l:List hx) (E:js) (F G:Fr) (H:ad) (a_:Nat->Option bN) (Q:Fr->Fr->ad->Prop),h9 P C false E l=true->g4 P C F G H a_->jd E F->dE P l F G H Q->
  bm P (rN l) F (cL a_ H) fun az H1=>∃bH aT e9,H1=cL e9 aT/\g4 P C az bH aT e9/\Q az bH aT
 | [],E,F,G,H,a_,Q,ah,bq,b5,h=>⟨G,H,a_,rfl,bq,h⟩
 | .xs l::r,E,F,G,H,a_,Q,ah,bq,b5,h=>by
  simp only[h9,Bool.and_eq_true]at ah
  simp only[rN,hx.back]
  refine bm.append (bm.mono (fun az H1 db=>?_) (bm.qo bq.fit (bm.gY h)))
  obtain⟨aI,rfl,aC,aQ,a7⟩:=db
  have yr:∀r e,C.lookup r=some e->az r=F r:=fun r e al=>a7 r fun U aW=>by
   have:=List.all_eq_true.1 ah.1 U aW
   cases aA:U.d with
   | none=>simp
   | some d=>rw[aA]at this;rintro⟨rfl⟩;simp[EG,mF,al]at this
  exact m2 r _ az G aI a_ Q ah.2 (bq.congr yr aC) (b5.Ps a7) aQ
 | .bL c e::r,E,F,G,H,a_,Q,ah,bq,b5,h=>by
  simp only[h9,Bool.and_eq_true,beq_iff_eq]at ah
  obtain⟨z,aQ,⟨eb,hw⟩,a4⟩:=yi h
  obtain⟨aU,aO⟩:=bq.new ah.1 hw
  show bm P (bL c e::rN r) F (cL a_ H) _
  rw[R4]
  simp only[aQ]
  refine⟨⟨eb,by rw[hw.1];rfl⟩,?_⟩
  rw[kO,<-aO]
  exact m2 r _ _ _ _ _ Q ah.2 aU (b5.kill c _) a4
 | .cE c e y::r,E,F,G,H,a_,Q,ah,bq,b5,h=>by
  simp only[h9,Bool.and_eq_true,beq_iff_eq]at ah
  obtain⟨hw,a4⟩:=h
  obtain⟨aU,aO⟩:=bq.new ah.1 hw
  show bm P (cE c e y::rN r) F (cL a_ H) _
  rw[RZ]
  refine⟨by rw[hw.1];rfl,?_⟩
  rw[kO,<-aO]
  exact m2 r _ _ _ _ _ Q ah.2 aU (b5.kill c _) a4
 | .a8 g d s x f c off::r,E,F,G,H,a_,Q,ah,bq,b5,h=>by
  simp only[h9,Bool.and_eq_true,Bool.not_eq_true']at ah
  obtain⟨⟨⟨⟨aA,ag⟩,o6⟩,sq⟩,al⟩:=ah
  obtain⟨e,gn⟩:=wu ag
  have BS:c≠d:=fun c0=>by subst c0;rw[ag]at aA;cases aA
  simp only[dE]at h
  refine AG (h.imp (fun a1 a4=>?_) fun a1 a4=>?_)
  ·obtain⟨aK,a4⟩:=a4
   have E9:jd ((d,c,off,g)::kill d E) (a5 F d (qp (F c) off)):=fun y aP wH=>by
    rcases List.mem_cons.1 aP with rfl | aP
    ·simp only;rw[hG,hF _ _ BS]
    ·exact b5.kill d _ y aP wH
   have uy:=m2 r _ _ _ _ _ Q al (bq.oq aA (qp (F c) off)) E9 a4
   obtain⟨b,dh,-⟩:=bq.at gn aK
   obtain⟨U,hL,aW,J⟩:=Mb o6 b5 a1 dh
   refine ahw J hL ?_
   rw[dh]at uy
   simp only[qp,Nat.zero_add]at uy
   rw[show off-U+U=off by omega]
   exact uy
  ·exact m2 r _ _ _ _ _ Q al (bq.oq aA undef) (Ma b5 sq a1) a4
 | .bR g d t x c::r,E,F,G,H,a_,Q,ah,bq,b5,h=>by
  simp only[h9,Bool.and_eq_true,Bool.not_eq_true',beq_iff_eq]at ah
  obtain⟨⟨⟨aA,ag⟩,hN⟩,al⟩:=ah
  simp only[dE]at h
  refine AG (h.imp (fun a1 a4=>?_) fun a1 a4=>?_)
  ·obtain⟨aK,a4⟩:=a4
   exact R5 (Lt bq ag hN b5 a1 aK) (m2 r _ _ _ _ _ Q al (bq.oq aA (G c)) (b5.kill d _) a4)
  ·exact m2 r _ _ _ _ _ Q al (bq.oq aA undef) (b5.kill d _) a4
 | .aB g d t x c off::r,E,F,G,H,a_,Q,ah,bq,b5,h=>by
  simp only[h9,Bool.and_eq_true,Bool.not_eq_true']at ah
  obtain⟨⟨⟨aA,ag⟩,hN⟩,al⟩:=ah
  obtain⟨e,gn⟩:=wu ag
  simp only[dE]at h
  refine AG (h.imp (fun a1 a4=>?_) fun a1 a4=>?_)
  ·obtain⟨v,ao,Fe⟩:=Ls (K:=fun v=>dE P r (a5 F d v) G H Q) bq gn hN b5 a1 a4
   exact R5 ao (m2 r _ _ _ _ _ Q al (bq.oq aA v) (b5.kill d _) Fe)
  ·exact m2 r _ _ _ _ _ Q al (bq.oq aA undef) (b5.kill d _) a4
 | .bX b g t x y c::r,E,F,G,H,a_,Q,ah,bq,b5,h=>by
  simp only[h9,Bool.and_eq_true,beq_iff_eq,Bool.or_false]at ah
  obtain⟨⟨⟨af,ag⟩,hN⟩,al⟩:=ah
  have af:b=true:=by simpa using af
  subst af
  simp only[dE]at h
  refine AG (h.imp (fun a1 a4=>?_) fun a1 a4=>?_)
  ·obtain⟨⟨aK,hw⟩,a4⟩:=a4
   obtain⟨e9,ao,e0⟩:=Lv (y:=y) bq ag hN b5 a1 aK hw
   exact R6 ao (m2 r _ _ _ _ _ Q al e0 b5 a4)
  ·exact m2 r _ _ _ _ _ Q al bq b5 a4
 | .st b g t x y c off::r,E,F,G,H,a_,Q,ah,bq,b5,h=>by
  simp only[h9,Bool.and_eq_true]at ah
  obtain⟨⟨⟨af,ag⟩,hN⟩,al⟩:=ah
  have af:b=true:=by simpa using af
  subst af
  obtain⟨e,gn⟩:=wu ag
  simp only[dE]at h
  refine AG (h.imp (fun a1 a4=>?_) fun a1 a4=>?_)
  ·obtain⟨e9,v,ao,e0,a4⟩:=Lu (y:=y) (K:=fun v=>dE P r F (a5 G c v) H Q) bq gn hN b5 a1 a4
   exact R6 ao (m2 r _ _ _ _ _ Q al e0 b5 a4)
  ·exact m2 r _ _ _ _ _ Q al bq b5 a4
theorem R3{F:Fr}{H:ad}{b cg:Bool}{ae W:List Nat}{K:Value->ad->Prop}{op:Op}(aq:xi op=true)(h:gL P b F H K op):hc P cg (ar F) H ae W (fun v H1 gd gf=>gd=ae/\gf=W/\K v H1) op:=by
 have main:j3 op=false->(match ca P (ar F) H op with
   | some (v,H1)=>(iw op=true->b=true)/\K v H1
   | none=>j3 op=true/\∃v H1,oD P (ar F) H op v H1/\(b=true\/Ext H H1)/\K v H1)->(match ca P (ar F) H op with | some (v,H1)=>ae=ae/\W=W/\K v H1 | none=>False):=by
  intro hm
  cases ca P (ar F) H op with
  | some p=>exact fun h=>⟨rfl,rfl,h.2⟩
  | none=>intro h;rw[hm]at h;cases h.1
 cases op with
 | load t x=>cases aq
 | store t x y=>cases aq
 | call c=>
  obtain⟨callee,args,lX⟩:=c
  cases callee with
  | value f=>cases aq
  | invoke r m=>exact main rfl h
  | builtin bi=>exact main (by simpa[xi]using aq) h
 | _=>exact main (by simpa[xi]using aq) h
theorem fS.append:∀{l da:List bJ} {F:Fr} {H:ad} {ae W:List Nat} {Q:Fr->ad->Prop} {b:Bool},(∀U∈l,xi U.op=true)->bm P l F H (fun az H1=>fS P da az H1 ae W Q)->fS P (l++da) F H ae W Q
 | [],da,F,H,ae,W,Q,b,aq,h=>h
 | x::l,da,F,H,ae,W,Q,b,aq,h=>by
  have J:=aq x List.mem_cons_self
  have au:∀U∈l,xi U.op=true:=fun U aW=>aq U (List.mem_cons_of_mem _ aW)
  simp only[List.cons_append,fS]
  simp only[bm]at h
  split
  ·rename_i a1
   rw[a1]at h
   exact hc.mono (fun v H1 gd gf ⟨bn,bj,db⟩=>by subst bn bj;exact fS.append (b:=b) au db) (R3 J h)
  ·rename_i j w a1
   rw[a1]at h
   simp only at h
   split
   ·rename_i af
    rw[if_pos af]at h
    exact hc.mono (fun v H1 gd gf ⟨bn,bj,db⟩=>by subst bn bj;exact fS.append (b:=b) au db) (R3 J h)
   ·rename_i af
    rw[if_neg af]at h
    exact fS.append (b:=b) au h
theorem ahi{s f b U off:Nat}{x:Nat}{d:Nat}{r:List bJ}{F:Fr}{H:ad}{ae W:List Nat}{Q:Fr->ad->Prop}(J:F x= .pointer (some ⟨b,off,none⟩))(aC:fG P s f=some U)(ah:fS P r (a5 F d (.pointer (some ⟨b,off+U,none⟩))) H ae W Q):fS P (⟨true,none,some d,.fieldAddr s (.tmp x) f⟩::r) F H ae W Q:=by
 have ao:ca P (ar F) H (.fieldAddr s (.tmp x) f)=some (.pointer (some ⟨b,off+U,none⟩),H):=by simp only[ca,ar,J,aC,Option.map_some]
 simp only[fS,hc,ao]
 exact ah
theorem R1{t b i:Nat}{x:Operand}{d:Option Nat}{r:List bJ}{F:Fr}{H H1:ad}{ae W:List Nat}{Q:Fr->ad->Prop}{v:Value}(J:ar F x= .pointer (some ⟨b,i,none⟩))(wm:b∉W)(h:ca P (ar F) H (.load t x)=some (v,H1))(ah:fS P r (gw F d v) H1 (b::ae) W Q):fS P (⟨true,none,d,.load t x⟩::r) F H ae W Q:=by
 simp only[fS,hc,J,h]
 exact⟨wm,ah⟩
theorem R2{m_:Bool}{t b i:Nat}{x y:Operand}{d:Option Nat}{r:List bJ}{F:Fr}{H H1:ad}{ae W:List Nat}{Q:Fr->ad->Prop}{v:Value}(J:ar F x= .pointer (some ⟨b,i,none⟩))(wm:m_=true\/(b∉W/\b∉ae))(h:ca P (ar F) H (.store t x y)=some (v,H1))(ah:fS P r (gw F d v) H1 ae (if m_=true then W else b::W) Q):fS P (⟨m_,none,d,.store t x y⟩::r) F H ae W Q:=by
 simp only[fS,hc,J,h]
 exact⟨wm,ah⟩
def pQ(C:Cells)(F:Fr)(gD ae:List Nat):Prop:=∀b∈ae,∃c e,c∈gD/\C.lookup c=some e/\F c= .pointer (some ⟨b,0,none⟩)
theorem pQ.not{F G:Fr}{H:ad}{a_:Nat->Option bN}{gD ae:List Nat}{c e b:Nat}(h:pQ C F gD ae)(bq:g4 P C F G H a_)(ag:C.lookup c=some e)(a7:F c= .pointer (some ⟨b,0,none⟩))(aF:c∉gD):b∉ae:=fun af=>by
 obtain⟨dA,c0,o,aa,aE⟩:=h b af
 have:dA≠c:=fun e=>aF (e▸o)
 exact bq.inj dA c c0 e b aa ag this aE a7
theorem pQ.cons{F:Fr}{gD ae:List Nat}{c e b:Nat}(h:pQ C F gD ae)(ag:C.lookup c=some e)(a7:F c= .pointer (some ⟨b,0,none⟩)):pQ C F (c::gD) (b::ae):=fun cg af=>by
 rcases List.mem_cons.1 af with rfl | af
 ·exact⟨c,e,List.mem_cons_self,ag,a7⟩
 ·obtain⟨dA,c0,o,aa,aE⟩:=h cg af
  exact⟨dA,c0,List.mem_cons_of_mem _ o,aa,aE⟩
theorem pQ.congr{F az:Fr}{gD ae:List Nat}(h:pQ C F gD ae)(a7:∀r e,C.lookup r=some e->az r=F r):pQ C az gD ae:=fun b af=>by
 obtain⟨c,e,o,aa,aE⟩:=h b af
 exact⟨c,e,o,aa,by rw[a7 c e aa];exact aE⟩
theorem ot{F:Fr}{d:Nat}{v:Value}(aA:mF C d=false):∀r e,C.lookup r=some e->a5 F d v r=F r:=fun r e al=>hF _ _ (by rintro rfl;simp[mF,al]at aA)
theorem ov:∀(l:List hx) (E:js) (gD hS ae W:List Nat) (F G:Fr) (H:ad) (a_:Nat->Option bN) (Q:Fr->Fr->ad->Prop),h9 P C true E l=true->m1 gD hS l=true->pQ C F gD ae->pQ C F hS W->g4 P C F G H a_->jd E F->dE P l F G H Q->
  fS P (rN l) F (cL a_ H) ae W fun az H1=>∃bH aT e9,H1=cL e9 aT/\g4 P C az bH aT e9/\Q az bH aT
 | [],E,gD,hS,ae,W,F,G,H,a_,Q,ah,gN,jx,ik,bq,b5,h=>⟨G,H,a_,rfl,bq,h⟩
 | .xs l::r,E,gD,hS,ae,W,F,G,H,a_,Q,ah,gN,jx,ik,bq,b5,h=>by
  simp only[h9,Bool.and_eq_true]at ah
  simp only[m1,Bool.and_eq_true]at gN
  simp only[rN,hx.back]
  refine fS.append (b:=true) (fun U aW=>List.all_eq_true.1 gN.1 U aW) (bm.mono (fun az H1 db=>?_) (bm.qo bq.fit (bm.gY h)))
  obtain⟨aI,rfl,aC,aQ,a7⟩:=db
  have yr:∀r e,C.lookup r=some e->az r=F r:=fun r e al=>a7 r fun U aW=>by
   have:=List.all_eq_true.1 ah.1 U aW
   cases aA:U.d with
   | none=>simp
   | some d=>rw[aA]at this;rintro⟨rfl⟩;simp[EG,mF,al]at this
  exact ov r _ gD hS ae W az G aI a_ Q ah.2 gN.2 (jx.congr yr) (ik.congr yr) (bq.congr yr aC) (b5.Ps a7) aQ
 | .bL c e::r,E,gD,hS,ae,W,F,G,H,a_,Q,ah,gN,jx,ik,bq,b5,h=>by cases gN
 | .cE c e y::r,E,gD,hS,ae,W,F,G,H,a_,Q,ah,gN,jx,ik,bq,b5,h=>by cases gN
 | .a8 g d s x f c off::r,E,gD,hS,ae,W,F,G,H,a_,Q,ah,gN,jx,ik,bq,b5,h=>by
  simp only[h9,Bool.and_eq_true,Bool.not_eq_true']at ah
  simp only[m1]at gN
  obtain⟨⟨⟨⟨aA,ag⟩,o6⟩,sq⟩,al⟩:=ah
  obtain⟨e,gn⟩:=wu ag
  have BS:c≠d:=fun c0=>by subst c0;rw[ag]at aA;cases aA
  simp only[dE]at h
  refine AE (h.imp (fun a1 a4=>?_) fun a1 a4=>?_)
  ·obtain⟨aK,a4⟩:=a4
   have E9:jd ((d,c,off,g)::kill d E) (a5 F d (qp (F c) off)):=fun y aP wH=>by
    rcases List.mem_cons.1 aP with rfl | aP
    ·simp only;rw[hG,hF _ _ BS]
    ·exact b5.kill d _ y aP wH
   have uy:=ov r _ gD hS ae W _ _ _ _ Q al gN (jx.congr (ot aA)) (ik.congr (ot aA)) (bq.oq aA (qp (F c) off)) E9 a4
   obtain⟨b,dh,-⟩:=bq.at gn aK
   obtain⟨U,hL,aW,J⟩:=Mb o6 b5 a1 dh
   refine ahi J hL ?_
   rw[dh]at uy
   simp only[qp,Nat.zero_add]at uy
   rw[show off-U+U=off by omega]
   exact uy
  ·exact ov r _ gD hS ae W _ _ _ _ Q al gN (jx.congr (ot aA)) (ik.congr (ot aA)) (bq.oq aA undef) (Ma b5 sq a1) a4
 | .bR g d t x c::r,E,gD,hS,ae,W,F,G,H,a_,Q,ah,gN,jx,ik,bq,b5,h=>by
  simp only[h9,Bool.and_eq_true,Bool.not_eq_true',beq_iff_eq]at ah
  simp only[m1,Bool.and_eq_true,Bool.not_eq_true']at gN
  obtain⟨⟨⟨aA,ag⟩,hN⟩,al⟩:=ah
  simp only[dE]at h
  refine AE (h.imp (fun a1 a4=>?_) fun a1 a4=>?_)
  ·obtain⟨aK,a4⟩:=a4
   obtain⟨b,dh,-⟩:=bq.at ag aK
   exact R1 (i:=0) (rB hN b5 a1 dh) (ik.not bq ag dh (by simpa using gN.1)) (Lt bq ag hN b5 a1 aK)
    (ov r _ (c::gD) hS _ W _ _ _ _ Q al gN.2 ((jx.cons ag dh).congr (ot aA)) (ik.congr (ot aA)) (bq.oq aA (G c)) (b5.kill d _) a4)
  ·refine ov r _ (c::gD) hS ae W _ _ _ _ Q al gN.2 (fun b af=>?_) (ik.congr (ot aA)) (bq.oq aA undef) (b5.kill d _) a4
   obtain⟨dA,c0,o,aa⟩:=(jx.congr (ot aA)) b af
   exact⟨dA,c0,List.mem_cons_of_mem _ o,aa⟩
 | .aB g d t x c off::r,E,gD,hS,ae,W,F,G,H,a_,Q,ah,gN,jx,ik,bq,b5,h=>by
  simp only[h9,Bool.and_eq_true,Bool.not_eq_true']at ah
  simp only[m1,Bool.and_eq_true,Bool.not_eq_true']at gN
  obtain⟨⟨⟨aA,ag⟩,hN⟩,al⟩:=ah
  obtain⟨e,gn⟩:=wu ag
  simp only[dE]at h
  refine AE (h.imp (fun a1 a4=>?_) fun a1 a4=>?_)
  ·obtain⟨b,dh,-⟩:=bq.at gn a4.1
   obtain⟨v,ao,Fe⟩:=Ls (K:=fun v=>dE P r (a5 F d v) G H Q) bq gn hN b5 a1 a4
   exact R1 (i:=off) (rB hN b5 a1 dh) (ik.not bq gn dh (by simpa using gN.1)) ao
    (ov r _ (c::gD) hS _ W _ _ _ _ Q al gN.2 ((jx.cons gn dh).congr (ot aA)) (ik.congr (ot aA)) (bq.oq aA v) (b5.kill d _) Fe)
  ·refine ov r _ (c::gD) hS ae W _ _ _ _ Q al gN.2 (fun b af=>?_) (ik.congr (ot aA)) (bq.oq aA undef) (b5.kill d _) a4
   obtain⟨dA,c0,o,aa⟩:=(jx.congr (ot aA)) b af
   exact⟨dA,c0,List.mem_cons_of_mem _ o,aa⟩
 | .bX m_ g t x y c::r,E,gD,hS,ae,W,F,G,H,a_,Q,ah,gN,jx,ik,bq,b5,h=>by
  simp only[h9,Bool.and_eq_true,beq_iff_eq]at ah
  simp only[m1,Bool.and_eq_true,Bool.or_eq_true,Bool.not_eq_true']at gN
  obtain⟨⟨⟨-,ag⟩,hN⟩,al⟩:=ah
  simp only[dE]at h
  refine AE (h.imp (fun a1 a4=>?_) fun a1 a4=>?_)
  ·obtain⟨⟨aK,hw⟩,a4⟩:=a4
   obtain⟨b,dh,-⟩:=bq.at ag aK
   obtain⟨e9,ao,e0⟩:=Lv (y:=y) bq ag hN b5 a1 aK hw
   refine R2 (i:=0) (rB hN b5 a1 dh) (gN.1.imp id fun q=>⟨ik.not bq ag dh (by simpa using q.1),jx.not bq ag dh (by simpa using q.2)⟩) ao
    (ov r _ gD (if m_=true then hS else c::hS) ae _ _ _ _ _ Q al gN.2 jx ?_ e0 b5 a4)
   cases m_ with
   | true=>exact ik
   | false=>exact ik.cons ag dh
  ·refine ov r _ gD (if m_=true then hS else c::hS) ae W _ _ _ _ Q al gN.2 jx (fun b af=>?_) bq b5 a4
   obtain⟨dA,c0,o,aa⟩:=ik b af
   cases m_ with
   | true=>exact⟨dA,c0,o,aa⟩
   | false=>exact⟨dA,c0,List.mem_cons_of_mem _ o,aa⟩
 | .st m_ g t x y c off::r,E,gD,hS,ae,W,F,G,H,a_,Q,ah,gN,jx,ik,bq,b5,h=>by
  simp only[h9,Bool.and_eq_true]at ah
  simp only[m1,Bool.and_eq_true,Bool.or_eq_true,Bool.not_eq_true']at gN
  obtain⟨⟨⟨-,ag⟩,hN⟩,al⟩:=ah
  obtain⟨e,gn⟩:=wu ag
  simp only[dE]at h
  refine AE (h.imp (fun a1 a4=>?_) fun a1 a4=>?_)
  ·obtain⟨b,dh,-⟩:=bq.at gn a4.1
   obtain⟨e9,v,ao,e0,a4⟩:=Lu (y:=y) (K:=fun v=>dE P r F (a5 G c v) H Q) bq gn hN b5 a1 a4
   refine R2 (i:=off) (rB hN b5 a1 dh) (gN.1.imp id fun q=>⟨ik.not bq gn dh (by simpa using q.1),jx.not bq gn dh (by simpa using q.2)⟩) ao
    (ov r _ gD (if m_=true then hS else c::hS) ae _ _ _ _ _ Q al gN.2 jx ?_ e0 b5 a4)
   cases m_ with
   | true=>exact ik
   | false=>exact ik.cons gn dh
  ·refine ov r _ gD (if m_=true then hS else c::hS) ae W _ _ _ _ Q al gN.2 jx (fun b af=>?_) bq b5 a4
   obtain⟨dA,c0,o,aa⟩:=ik b af
   cases m_ with
   | true=>exact⟨dA,c0,o,aa⟩
   | false=>exact⟨dA,c0,List.mem_cons_of_mem _ o,aa⟩
theorem oF.imp{v:Value}{K er:Array Value->Prop}(h:oF v K)(ah:∀cs,K cs->er cs):oF v er:=by
 obtain⟨cs,rfl,h⟩:=HF h
 exact ah cs h
theorem fj.imp{α:Type}{U:Option α}{K er:α->Prop}(h:fj U K)(ah:∀v,K v->er v):fj U er:=by
 obtain⟨v,rfl,h⟩:=yi h
 exact ah v h
theorem gR.imp{c K er:Prop}(h:gR c K)(ah:K->er):gR c er:=⟨h.1,ah h.2⟩
theorem iA.imp{b:Bool}{A B xK lK:Prop}(h:iA b A B)(o:A->xK)(aa:B->lK):iA b xK lK:=by
 cases b
 ·exact aa h
 ·exact o h
theorem dE.gY:∀{l:List hx} {m k:Nat} {F G:Fr} {H:ad} {Q cu:Fr->Fr->ad->Prop},(l.all (x1 m k))=true->(∀az bH H1,(∀r,hl m r=false->az r=F r)->(∀r,hl k r=false->bH r=G r)->Q az bH H1->cu az bH H1)->dE P l F G H Q->dE P l F G H cu
 | [],m,k,F,G,H,Q,cu,aL,aq,h=>aq _ _ _ (fun _ _=>rfl) (fun _ _=>rfl) h
 | i::l,m,k,F,G,H,Q,cu,aL,aq,h=>by
  simp only[List.all_cons,Bool.and_eq_true]at aL
  have rK:∀{d:Nat} {v:Value} {AK:Fr} {aI:ad},hl m d=true->(∀r,hl k r=false->AK r=G r)->dE P l (a5 F d v) AK aI Q->dE P l (a5 F d v) AK aI cu:=fun{d v AK aI} aA g6 o=>
   dE.gY aL.2 (fun az bH H1 f1 cK=>aq az bH H1 (fun r al=>by rw[f1 r al,hF];rintro rfl;rw[aA]at al;cases al) (fun r al=>by rw[cK r al,g6 r al])) o
  have RG:∀{c:Nat} {v:Value} {aI:ad},hl k c=true->dE P l F (a5 G c v) aI Q->dE P l F (a5 G c v) aI cu:=fun{c v aI} ag o=>
   dE.gY aL.2 (fun az bH H1 f1 cK=>aq az bH H1 f1 (fun r al=>by rw[cK r al,hF];rintro rfl;rw[ag]at al;cases al)) o
  have PZ:∀{c:Nat} {v:Value},hl k c=true->∀r,hl k r=false->a5 G c v r=G r:=fun{c v} ag r al=>hF _ _ (by rintro rfl;rw[ag]at al;cases al)
  cases i with
  | xs ahh=>
   simp only[dE]at h⊢
   refine bm.mono (fun az H1 ⟨o,a7⟩=>dE.gY aL.2 (fun bU dd aT f2 kf=>aq bU dd aT (fun r al=>?_) kf) o) (bm.gY h)
   rw[f2 r al,a7 r fun U aW aA=>?_]
   have:=List.all_eq_true.1 aL.1 U aW
   rw[aA]at this
   simp only[LY]at this
   rw[this]at al
   cases al
  | bL c e=>
   simp only[x1,Bool.and_eq_true]at aL
   simp only[dE]at h⊢
   exact h.imp fun z aQ=>aQ.imp (rK aL.1.1 (PZ aL.1.2))
  | cE c e y=>
   simp only[x1,Bool.and_eq_true]at aL
   simp only[dE]at h⊢
   exact h.imp (rK aL.1.1 (PZ aL.1.2))
  | a8 g d s x f c off=>
   simp only[dE]at h⊢
   exact h.imp (fun _ q=>q.imp (rK aL.1 fun _ _=>rfl)) fun _=>rK aL.1 fun _ _=>rfl
  | bR g d t x c=>
   simp only[dE]at h⊢
   exact h.imp (fun _ q=>q.imp (rK aL.1 fun _ _=>rfl)) fun _=>rK aL.1 fun _ _=>rfl
  | aB g d t x c off=>
   simp only[dE]at h⊢
   exact h.imp (fun _ q=>q.imp fun q=>q.imp fun cs q=>q.imp fun a q=>q.imp (fun q=>q.imp fun n q=>q.imp (rK aL.1 fun _ _=>rfl)) fun q=>q.imp fun v=>rK aL.1 fun _ _=>rfl) fun _=>rK aL.1 fun _ _=>rfl
  | bX b g t x y c=>
   simp only[dE]at h⊢
   exact h.imp (fun _ q=>q.imp (RG aL.1)) fun _=>dE.gY aL.2 aq
  | st b g t x y c off=>
   simp only[dE]at h⊢
   exact h.imp (fun _ q=>q.imp fun q=>q.imp fun cs q=>q.imp (RG aL.1)) fun _=>dE.gY aL.2 aq
theorem fe.gY:∀{x:fc} {m k:Nat} {F G:Fr} {H:ad} {Q cu:dS->Fr->Fr->ad->Prop},kW m k x=true->(∀e az bH H1,(∀r,hl m r=false->az r=F r)->(∀r,hl k r=false->bH r=G r)->Q e az bH H1->cu e az bH H1)->fe P x F G H Q->fe P x F G H cu
 | .skip,m,k,F,G,H,Q,cu,aL,aq,h=>aq _ _ _ _ (fun _ _=>rfl) (fun _ _=>rfl) h
 | .ret,m,k,F,G,H,Q,cu,aL,aq,h=>aq _ _ _ _ (fun _ _=>rfl) (fun _ _=>rfl) h
 | .exit id,m,k,F,G,H,Q,cu,aL,aq,h=>aq _ _ _ _ (fun _ _=>rfl) (fun _ _=>rfl) h
 | .seq x y,m,k,F,G,H,Q,cu,aL,aq,h=>by
  simp only[kW,Bool.and_eq_true]at aL
  refine fe.gY (x:=x) aL.1 (fun e az bH H1 f1 cK o=>?_) h
  cases e with
  | normal=>exact fe.gY (x:=y) aL.2 (fun e bU dd aT f2 kf=>aq e bU dd aT (fun r al=>by rw[f2 r al,f1 r al]) (fun r al=>by rw[kf r al,cK r al])) o
  | exit id=>exact aq _ _ _ _ f1 cK o
  | ret=>exact aq _ _ _ _ f1 cK o
 | .cond c x y,m,k,F,G,H,Q,cu,aL,aq,h=>by
  simp only[kW,Bool.and_eq_true]at aL
  simp only[fe]at h⊢
  cases an:ar F c<;>rw[an]at h<;>try exact h.elim
  rename_i b
  cases b with
  | true=>exact fe.gY (x:=x) aL.1 aq h
  | false=>exact fe.gY (x:=y) aL.2 aq h
 | .block id x,m,k,F,G,H,Q,cu,aL,aq,h=>by
  simp only[kW]at aL
  refine fe.gY (x:=x) aL (fun e az bH H1 f1 cK o=>?_) h
  cases e with
  | normal=>exact aq _ _ _ _ f1 cK o
  | ret=>exact aq _ _ _ _ f1 cK o
  | exit iv=>
   simp only[rZ]at o⊢
   split
   ·rename_i ab;rw[if_pos ab]at o;exact aq _ _ _ _ f1 cK o
   ·rename_i ab;rw[if_neg ab]at o;exact aq _ _ _ _ f1 cK o
 | .loop ny b1 x,m,k,F,G,H,Q,cu,aL,aq,h=>by
  simp only[kW]at aL
  simp only[fe]at h⊢
  induction h with
  | round ai af ew a2=>
   rename_i Sb Sc cJ
   refine .round (fun az bH H1=>ai az bH H1/\(∀r,hl m r=false->az r=Sb r)/\∀r,hl k r=false->bH r=Sc r) (fe.gY (x:=x) aL (fun e az bH H1 f1 cK o=>?_) af) ?_
   ·cases e with
    | normal=>exact⟨o,f1,cK⟩
    | exit id=>exact aq _ _ _ _ f1 cK o
    | ret=>exact aq _ _ _ _ f1 cK o
   ·rintro az bH H1 ⟨o,f1,cK⟩
    exact a2 az bH H1 o fun e bU dd aT f2 kf=>aq e bU dd aT (fun r al=>by rw[f2 r al,f1 r al]) (fun r al=>by rw[kf r al,cK r al])
 | .box ny b1 x,m,k,F,G,H,Q,cu,aL,aq,h=>fe.gY (x:=x) aL aq h
 | .ops l,m,k,F,G,H,Q,cu,aL,aq,h=>dE.gY aL (fun az bH H1=>aq _ az bH H1) h
 | .opsL l,m,k,F,G,H,Q,cu,aL,aq,h=>dE.gY aL (fun az bH H1=>aq _ az bH H1) h
theorem dE.mono:∀{l:List hx} {F G:Fr} {H:ad} {Q cu:Fr->Fr->ad->Prop},(∀F G H,Q F G H->cu F G H)->dE P l F G H Q->dE P l F G H cu
 | [],F,G,H,Q,cu,aq,h=>aq _ _ _ h
 | i::l,F,G,H,Q,cu,aq,h=>by
  have a2:∀{F G:Fr} {H:ad},dE P l F G H Q->dE P l F G H cu:=dE.mono aq
  cases i<;>simp only[dE]at h⊢
  case xs ahh=>exact bm.mono (fun az H1=>a2) h
  case bL=>exact h.imp fun z aQ=>aQ.imp a2
  case cE=>exact h.imp a2
  case a8=>exact h.imp (fun _ q=>q.imp a2) fun _=>a2
  case bR=>exact h.imp (fun _ q=>q.imp a2) fun _=>a2
  case aB=>exact h.imp (fun _ q=>q.imp fun q=>q.imp fun cs q=>q.imp fun a q=>q.imp (fun q=>q.imp fun n q=>q.imp a2) fun q=>q.imp fun v=>a2) fun _=>a2
  case bX=>exact h.imp (fun _ q=>q.imp a2) fun _=>a2
  case st=>exact h.imp (fun _ q=>q.imp fun q=>q.imp fun cs q=>q.imp a2) fun _=>a2
theorem fe.mono:∀{x:fc} {F G:Fr} {H:ad} {Q cu:dS->Fr->Fr->ad->Prop},(∀e F G H,Q e F G H->cu e F G H)->fe P x F G H Q->fe P x F G H cu
 | .skip,F,G,H,Q,cu,aq,h=>aq _ _ _ _ h
 | .ret,F,G,H,Q,cu,aq,h=>aq _ _ _ _ h
 | .exit id,F,G,H,Q,cu,aq,h=>aq _ _ _ _ h
 | .seq x y,F,G,H,Q,cu,aq,h=>by
  refine fe.mono (x:=x) (fun e az bH H1 o=>?_) h
  cases e with
  | normal=>exact fe.mono (x:=y) aq o
  | exit id=>exact aq _ _ _ _ o
  | ret=>exact aq _ _ _ _ o
 | .cond c x y,F,G,H,Q,cu,aq,h=>by
  simp only[fe]at h⊢
  cases an:ar F c<;>rw[an]at h<;>try exact h.elim
  rename_i b
  cases b with
  | true=>exact fe.mono (x:=x) aq h
  | false=>exact fe.mono (x:=y) aq h
 | .block id x,F,G,H,Q,cu,aq,h=>by
  refine fe.mono (x:=x) (fun e az bH H1 o=>?_) h
  cases e with
  | normal=>exact aq _ _ _ _ o
  | ret=>exact aq _ _ _ _ o
  | exit iv=>
   simp only[rZ]at o⊢
   split
   ·rename_i ab;rw[if_pos ab]at o;exact aq _ _ _ _ o
   ·rename_i ab;rw[if_neg ab]at o;exact aq _ _ _ _ o
 | .loop ny b1 x,F,G,H,Q,cu,aq,h=>by
  simp only[fe]at h⊢
  induction h with
  | round ai af ew a2=>
   refine .round ai (fe.mono (x:=x) (fun e az bH H1 o=>?_) af) a2
   cases e with
   | normal=>exact o
   | exit id=>exact aq _ _ _ _ o
   | ret=>exact aq _ _ _ _ o
 | .box ny b1 x,F,G,H,Q,cu,aq,h=>fe.mono (x:=x) aq h
 | .ops l,F,G,H,Q,cu,aq,h=>dE.mono (fun az bH H1=>aq _ az bH H1) h
 | .opsL l,F,G,H,Q,cu,aq,h=>dE.mono (fun az bH H1=>aq _ az bH H1) h
theorem tl:∀(z:fc) (F G:Fr) (H:ad) (a_:Nat->Option bN) (Q:dS->Fr->Fr->ad->Prop),lj P C z=true->g4 P C F G H a_->fe P z F G H Q->
  eP P z.back F (cL a_ H) fun e az H1=>∃bH aT e9,H1=cL e9 aT/\g4 P C az bH aT e9/\Q e az bH aT
 | .skip,F,G,H,a_,Q,ah,bq,h=>⟨G,H,a_,rfl,bq,h⟩
 | .ret,F,G,H,a_,Q,ah,bq,h=>⟨G,H,a_,rfl,bq,h⟩
 | .exit id,F,G,H,a_,Q,ah,bq,h=>⟨G,H,a_,rfl,bq,h⟩
 | .seq x y,F,G,H,a_,Q,ah,bq,h=>by
  simp only[lj,Bool.and_eq_true]at ah
  refine eP.mono (x:=x.back) (fun e az H1 ⟨bH,aT,e9,bn,e0,aq⟩=>?_) (tl x F G H a_ _ ah.1 bq h)
  cases e with
  | normal=>rw[bn];exact tl y az bH aT e9 Q ah.2 e0 aq
  | exit id=>exact⟨bH,aT,e9,bn,e0,aq⟩
  | ret=>exact⟨bH,aT,e9,bn,e0,aq⟩
 | .cond c x y,F,G,H,a_,Q,ah,bq,h=>by
  simp only[lj,Bool.and_eq_true]at ah
  simp only[fe]at h
  simp only[fc.back,eP]
  cases an:ar F c<;>rw[an]at h<;>try exact h.elim
  rename_i b
  cases b with
  | true=>exact tl x F G H a_ Q ah.1 bq h
  | false=>exact tl y F G H a_ Q ah.2 bq h
 | .block id x,F,G,H,a_,Q,ah,bq,h=>by
  simp only[lj]at ah
  refine eP.mono (x:=x.back) (fun e az H1 ⟨bH,aT,e9,bn,e0,aq⟩=>?_) (tl x F G H a_ _ ah bq h)
  cases e with
  | normal=>exact⟨bH,aT,e9,bn,e0,aq⟩
  | exit iv=>
   simp only[rZ]at aq
   simp only[qJ]
   split
   ·rename_i ab;rw[if_pos ab]at aq;exact⟨bH,aT,e9,bn,e0,aq⟩
   ·rename_i ab;rw[if_neg ab]at aq;exact⟨bH,aT,e9,bn,e0,aq⟩
  | ret=>exact⟨bH,aT,e9,bn,e0,aq⟩
 | .loop m k x,F,G,H,a_,Q,ah,bq,h=>by
  simp only[lj,Bool.and_eq_true]at ah
  simp only[fe]at h
  simp only[fc.back,eP]
  induction h generalizing a_ with
  | round ai af ew a2=>
   refine .round (fun az H1=>∃bH aT e9,H1=cL e9 aT/\g4 P C az bH aT e9/\ai az bH aT) (eP.mono (x:=x.back) (fun e az H1 ⟨bH,aT,e9,bn,e0,aq⟩=>?_) (tl x _ _ _ a_ _ ah.2 bq af)) ?_
   ·rintro az H1 ⟨bH,aT,e9,bn,e0,aq⟩
    rw[bn]
    exact a2 az bH aT aq e9 e0
   ·cases e with
    | normal=>exact⟨bH,aT,e9,bn,e0,aq⟩
    | exit id=>exact⟨bH,aT,e9,bn,e0,aq⟩
    | ret=>exact⟨bH,aT,e9,bn,e0,aq⟩
 | .box m k x,F,G,H,a_,Q,ah,bq,h=>by
  simp only[lj,Bool.and_eq_true]at ah
  exact tl x F G H a_ Q ah.2 bq h
 | .ops l,F,G,H,a_,Q,ah,bq,h=>m2 l [] F G H a_ _ ah bq (jd.nil F) h
 | .opsL l,F,G,H,a_,Q,ah,bq,h=>by
  simp only[lj,Bool.and_eq_true]at ah
  exact ov l [] [] [] [] [] F G H a_ _ ah.1 ah.2 (fun b af=>by simp at af) (fun b af=>by simp at af) bq (jd.nil F) h
theorem D2{F G:Fr}{H:ad}{a_:Nat->Option bN}(bq:g4 P C F G H a_):∀(rs:List kx) (K:List Value->Prop),vj C rs=true->pS F G rs K->kV P F (cL a_ H) (rs.map kx.back) K
 | [],K,ah,h=>h
 | .tmp i::rs,K,ah,h=>D2 bq rs _ (by simpa[vj]using ah) h
 | .cell a ty::rs,K,ah,h=>by
  simp only[vj,List.all_cons,Bool.and_eq_true,beq_iff_eq]at ah
  obtain⟨aK,h⟩:=h
  obtain⟨b,dh,gZ,⟨a9,iN,cW⟩,ho,iK⟩:=bq.at ah.1 aK
  have a2:=D2 bq rs (fun aH=>K (G a::aH)) (by simpa[vj]using ah.2) h
  simp only[List.map_cons,kx.back,kV,dh]
  have ag:jt (cL a_ H) b=some (G a).cells.toList:=by unfold jt;rw[ho];rfl
  rw[ag]
  simp only
  split at cW
  ·rename_i aL
   rw[cW]
   simp only[a9]
   refine⟨by simp,?_⟩
   have:(((G a).cells.toList.drop 0).take (G a).cells.size)=(G a).cells.toList:=by rw[List.drop_zero,List.take_of_length_le (by simp)]
   rw[this]
   simp only[Array.toArray_toList]
   rw[<-xV aL]
   exact a2
  ·rw[cW.1]
   simp only
   rw[cW.2]
   exact a2
def mB(a_:Nat->Option bN)(n:Nat):Nat->Option bN:=fun b=>if b<n then none else a_ b
theorem Pr{f:FuncId}{args:List Value}{v:Value}{H H1:ad}{a_:Nat->Option bN}(aC:Fit a_ H1)(h:ef P (.call f args H) (.val v (cL a_ H1))):∀n,ef P (.call f args H) (.val v (cL (mB a_ n) H1))
 | 0=>by
  have:mB a_ 0=a_:=by funext b;simp[mB]
  rw[this];exact h
 | n+1=>by
  have a2:=Pr aC h n
  cases aK:a_ n with
  | none=>
   have:mB a_ (n+1)=mB a_ n:=by
    funext b
    unfold mB
    by_cases af:b=n
    ·subst af;simp[aK]
    ·by_cases a3:b<n
     ·rw[if_pos (by omega),if_pos a3]
     ·rw[if_neg (by omega),if_neg a3]
   rw[this];exact a2
  | some x=>
   obtain⟨aA,e,l,cs,J⟩:=aC n x aK
   have a3:=aC.lt aK
   have jU:(cL (mB a_ n) H1)[n]?=some (.own e l cs):=by
    rw[lH,aA]
    simp[mB,aK,J]
   have aa:=ef.A6 a2 ⟨e,l,cs,jU⟩
   have:(cL (mB a_ n) H1).set n .dead=cL (mB a_ (n+1)) H1:=by
    apply List.ext_getElem?
    intro b
    by_cases af:n=b
    ·subst af
     rw[List.getElem?_set_self (by rw[kO];exact a3),lH,aA]
     simp[mB]
    ·rw[List.getElem?_set_ne af,lH,lH]
     congr 1
     funext y
     unfold mB
     by_cases au:b<n
     ·rw[if_pos au,if_pos (by omega)]
     ·rw[if_neg au,if_neg (by omega)]
   rw[<-this];exact aa
theorem Tb{H1:ad}{a_:Nat->Option bN}(aC:Fit a_ H1):cL (mB a_ H1.length) H1=H1:=by
 apply List.ext_getElem?
 intro b
 rw[lH]
 by_cases af:b<H1.length
 ·simp[mB,af]
 ·rw[List.getElem?_eq_none (by omega)];rfl
theorem aX.ah0{f:FuncId}{fn:Func}{z:cT}{args:List Value}{H:ad}{Q:Value->ad->Prop}(aC:P.funcs[f]?=some fn)(aF:(fn.name== "runtime.NumGoroutine")=false)(ag:comp P fn=some z.back)(aQ:(lj P C z.code&&vj C z.results)=true)
  (au:args.length<=fn.ntmps)(pY:(C.all fun p=>decide (args.length<=p.1))=true)(h:fe P z.code (kb args) (fun _=>undef) H (Ab z.results Q)):aX P f args H Q:=by
 simp only[Bool.and_eq_true]at aQ
 have Ck:cL (fun _=>none) H=H:=by
  apply List.ext_getElem?
  intro b
  rw[lH]
  cases H[b]?<;>rfl
 have bq:g4 P C (kb args) (fun _=>undef) H (fun _=>none):=by
  have hu:∀r e,C.lookup r=some e->kb args r=undef:=fun r e al=>by
   have:=of_decide_eq_true (List.all_eq_true.1 pY _ (Hu al))
   simp only at this
   unfold kb
   rw[List.getD_eq_getElem?_getD,List.getElem?_eq_none this]
   rfl
  exact⟨fun b x af=>(by cases af),fun r e al=> .inl (hu r e al),fun r dG e c0 b al fW c2 a7=>by rw[hu r e al]at a7;cases a7⟩
 have J:=tl z.code _ _ _ _ _ aQ.1 bq h
 rw[Ck]at J
 obtain⟨v,H1,o,aa,aE⟩:=aX.Pn (Q:=fun v H1=>∃e9 aT,H1=cL e9 aT/\Fit e9 aT/\Q v aT) aC aF ag au (eP.mono (x:=z.code.back) (fun e az H1 ⟨bH,aT,e9,bn,e0,aq⟩=>by
  cases e with
  | normal=>
   rw[bn]
   simp only[rC]
   refine D2 e0 _ _ aQ.2 ?_
   have:∀(rs:List kx) (K er:List Value->Prop),(∀aH,K aH->er aH)->pS az bH rs K->pS az bH rs er:=by
    intro rs
    induction rs with
    | nil=>intro K er ah h;exact ah _ h
    | cons r rs a2=>
     intro K er ah h
     cases r with
     | tmp i=>exact a2 _ _ (fun aH=>ah _) h
     | cell a ty=>exact⟨h.1,a2 _ _ (fun aH=>ah _) h.2⟩
   exact this _ _ _ (fun aH an=>⟨e9,aT,rfl,e0.fit,an⟩) aq
  | exit id=>exact aq
  | ret=>
   rw[bn]
   simp only[rC]
   refine D2 e0 _ _ aQ.2 ?_
   have:∀(rs:List kx) (K er:List Value->Prop),(∀aH,K aH->er aH)->pS az bH rs K->pS az bH rs er:=by
    intro rs
    induction rs with
    | nil=>intro K er ah h;exact ah _ h
    | cons r rs a2=>
     intro K er ah h
     cases r with
     | tmp i=>exact a2 _ _ (fun aH=>ah _) h
     | cell a ty=>exact⟨h.1,a2 _ _ (fun aH=>ah _) h.2⟩
   exact this _ _ _ (fun aH an=>⟨e9,aT,rfl,e0.fit,an⟩) aq) J)
 obtain⟨e9,aT,rfl,bF,aD⟩:=aE
 have:=Pr bF aa aT.length
 rw[Tb bF]at this
 exact⟨v,aT,.inl ⟨o,this⟩,aD⟩
end
def eo(P:Program)(l:List hx)(Q:Fr->Fr->ad->Prop)(ax:bc l Q)(F G:Fr)(H:ad):Prop:=dE P l F G H Q
def bV(P:Program)(x:fc)(Q:dS->Fr->Fr->ad->Prop)(ax:bc x Q)(F G:Fr)(H:ad):Prop:=fe P x F G H Q
def tx(rs:List kx)(K:List Value->Prop)(ax:bc rs K)(F G:Fr):Prop:=pS F G rs K
def c6(P:Program)(m k:Nat)(x:fc)(Q:dS->Fr->Fr->ad->Prop)(ax:bc x Q)(F G:Fr)(H:ad):Prop:=xP (fe P x) Q F G H
def cY(P:Program)(e:Nat)(K:Prop)(ax:bc K K)(v:Value):Prop:=gR (Whole P e v) K
theorem cY.mk{P:Program}{e:Nat}{K:Prop}{ax:bc K K}{v:Value}(h:Whole P e v)(ah:K):cY P e K ax v:=⟨h,ah⟩
section
variable {P:Program} {F G:Fr} {H:ad}
@[simp] theorem aim{e:Nat}{K:Prop}(ax:bc K K)(cs:Array Value):cY P e K ax (.agg cs)=dz K .mk (dk P e=some true/\bu P e=some cs.size/\(cs.toList.all (·.oneCell'))=true):=by
 apply propext
 constructor
 ·rintro⟨⟨o,aa,aE⟩,ah⟩;exact⟨⟨by simpa[e7]using aE,o,aa⟩,ah⟩
 ·rintro⟨⟨o,aa,aE⟩,ah⟩;exact⟨⟨aa,aE,by simpa[e7]using o⟩,ah⟩
variable {r:List hx} {Q:Fr->Fr->ad->Prop}
@[simp] theorem agi(ax:bc ([]:List hx) Q):eo P [] Q ax F G H=Q F G H:=rfl
@[simp] theorem agj(l:List bJ)(ax:bc (.xs l::r) Q):eo P (.xs l::r) Q ax F G H=ba P l (fun az H1=>eo P r Q .mk az G H1) .mk F H:=rfl
theorem th{c e:Nat}{z:Value}(aQ:dL P e=some z)(eb:flat z=true)(hw:Whole P e z)(ax:bc (.bL c e::r) Q):eo P (.bL c e::r) Q ax F G H=eo P r Q .mk (a5 F c (.pointer (some ⟨H.length,0,none⟩))) (a5 G c z) (H++[.dead]):=by
 simp[eo,dE,aQ,fj,gR,eb,hw]
@[simp] theorem amA(c e:Nat)(y:Operand)(ax:bc (.cE c e y::r) Q):eo P (.cE c e y::r) Q ax F G H=cY P e (eo P r Q .mk (a5 F c (.pointer (some ⟨H.length,0,none⟩))) (a5 G c (ar F y)) (H++[.dead])) .mk (ar F y):=rfl
@[simp] theorem amB(d s x f c off:Nat)(ax:bc (.a8 none d s x f c off::r) Q):eo P (.a8 none d s x f c off::r) Q ax F G H=dz (eo P r Q .mk (a5 F d (qp (F c) off)) G H) .mk (kM (F c)=true):=rfl
@[simp] theorem amC(j:Nat)(w:Bool)(d s x f c off:Nat)(ax:bc (.a8 (some (j,w)) d s x f c off::r) Q):eo P (.a8 (some (j,w)) d s x f c off::r) Q ax F G H=pK (eo P (.a8 none d s x f c off::r) Q .mk F G H) (eo P r Q .mk (a5 F d undef) G H) .mk (hy (F j)) w:=rfl
@[simp] theorem amF(d t x c:Nat)(ax:bc (.bR none d t x c::r) Q):eo P (.bR none d t x c::r) Q ax F G H=dz (eo P r Q .mk (a5 F d (G c)) G H) .mk (kM (F c)=true):=rfl
@[simp] theorem amG(j:Nat)(w:Bool)(d t x c:Nat)(ax:bc (.bR (some (j,w)) d t x c::r) Q):eo P (.bR (some (j,w)) d t x c::r) Q ax F G H=pK (eo P (.bR none d t x c::r) Q .mk F G H) (eo P r Q .mk (a5 F d undef) G H) .mk (hy (F j)) w:=rfl
@[simp] theorem amD(d t x c off:Nat)(ax:bc (.aB none d t x c off::r) Q):eo P (.aB none d t x c off::r) Q ax F G H=dz (AS (fun cs=>gC (fun a=>br (gC (fun n=>dz (eo P r Q .mk (a5 F d (.agg ((cs.toList.drop off).take n).toArray)) G H) .mk (off+n<=cs.size)) .mk (bu P t)) (gC (fun v=>eo P r Q .mk (a5 F d v) G H) .mk cs.toList[off]?) .mk a) .mk (dk P t)) .mk (G c)) .mk (kM (F c)=true):=rfl
@[simp] theorem amE(j:Nat)(w:Bool)(d t x c off:Nat)(ax:bc (.aB (some (j,w)) d t x c off::r) Q):eo P (.aB (some (j,w)) d t x c off::r) Q ax F G H=pK (eo P (.aB none d t x c off::r) Q .mk F G H) (eo P r Q .mk (a5 F d undef) G H) .mk (hy (F j)) w:=rfl
@[simp] theorem amJ(b:Bool)(t x c:Nat)(y:Operand)(ax:bc (.bX b none t x y c::r) Q):eo P (.bX b none t x y c::r) Q ax F G H=dz (cY P t (eo P r Q .mk F (a5 G c (ar F y)) H) .mk (ar F y)) .mk (kM (F c)=true):=by
 simp[eo,dE,nM,dz,cY,gR,and_assoc]
@[simp] theorem amK(b:Bool)(j:Nat)(w:Bool)(t x c:Nat)(y:Operand)(ax:bc (.bX b (some (j,w)) t x y c::r) Q):eo P (.bX b (some (j,w)) t x y c::r) Q ax F G H=pK (eo P (.bX b none t x y c::r) Q .mk F G H) (eo P r Q .mk F G H) .mk (hy (F j)) w:=rfl
@[simp] theorem amH(b:Bool)(t x c off:Nat)(y:Operand)(ax:bc (.st b none t x y c off::r) Q):eo P (.st b none t x y c off::r) Q ax F G H=dz (AS (fun cs=>dz (eo P r Q .mk F (a5 G c (.agg (mY cs.toList off (ar F y).cells.toList).toArray)) H) .mk (bu P t=some (ar F y).cells.size/\off+(ar F y).cells.size<=cs.size/\((ar F y).cells.toList.all (·.oneCell'))=true)) .mk (G c)) .mk (kM (F c)=true):=rfl
@[simp] theorem amI(b:Bool)(j:Nat)(w:Bool)(t x c off:Nat)(y:Operand)(ax:bc (.st b (some (j,w)) t x y c off::r) Q):eo P (.st b (some (j,w)) t x y c off::r) Q ax F G H=pK (eo P (.st b none t x y c off::r) Q .mk F G H) (eo P r Q .mk F G H) .mk (hy (F j)) w:=rfl
end
def mix(m:Nat)(F az:Fr):Fr:=fun r=>if(m>>>r) % 2=1 then az r else F r
@[simp] theorem g_(m:Nat)(F az:Fr)(r:Nat):mix m F az r=if(m>>>r) % 2=1 then az r else F r:=rfl
theorem sS{m:Nat}{F az:Fr}(h:∀r,hl m r=false->az r=F r):az=mix m F az:=by
 funext r
 simp only[mix]
 split
 ·rfl
 ·rename_i al;exact h r (by simpa[hl]using al)
section
variable {P:Program} {F G:Fr} {H:ad} {Q:dS->Fr->Fr->ad->Prop}
@[simp] theorem agp(ax:bc (fc.skip) Q):bV P .skip Q ax F G H=Q .normal F G H:=rfl
@[simp] theorem amP(ax:bc (fc.ret) Q):bV P .ret Q ax F G H=Q .ret F G H:=rfl
@[simp] theorem agm(id:Nat)(ax:bc (fc.exit id) Q):bV P (.exit id) Q ax F G H=Q (.exit id) F G H:=rfl
@[simp] theorem kP(x y:fc)(ax:bc (fc.seq x y) Q):bV P (.seq x y) Q ax F G H=bV P x (nC (fun az bH H1=>bV P y Q .mk az bH H1) Q) .mk F G H:=rfl
@[simp] theorem agl(c:Operand)(x y:fc)(ax:bc (fc.cond c x y) Q):bV P (.cond c x y) Q ax F G H=AR (fun b=>br (bV P x Q .mk F G H) (bV P y Q .mk F G H) .mk b) .mk (ar F c):=rfl
@[simp] theorem agk(id:Nat)(x:fc)(ax:bc (fc.block id x) Q):bV P (.block id x) Q ax F G H=bV P x (rZ id Q) .mk F G H:=rfl
@[simp] theorem agn(m k:Nat)(x:fc)(ax:bc (fc.loop m k x) Q):bV P (.loop m k x) Q ax F G H=c6 P m k x Q .mk F G H:=rfl
@[simp] theorem ago(l:List hx)(ax:bc (fc.ops l) Q):bV P (.ops l) Q ax F G H=eo P l (fun az bH H1=>Q .normal az bH H1) .mk F G H:=rfl
@[simp] theorem amO(l:List hx)(ax:bc (fc.opsL l) Q):bV P (.opsL l) Q ax F G H=eo P l (fun az bH H1=>Q .normal az bH H1) .mk F G H:=rfl
@[simp] theorem amM{K:List Value->Prop}(ax:bc ([]:List kx) K):tx [] K ax F G=K []:=rfl
@[simp] theorem amN{K:List Value->Prop}(i:Nat)(rs:List kx)(ax:bc (.tmp i::rs) K):tx (.tmp i::rs) K ax F G=tx rs (fun aH=>K (F i::aH)) .mk F G:=rfl
@[simp] theorem amL{K:List Value->Prop}(a ty:Nat)(rs:List kx)(ax:bc (.cell a ty::rs) K):tx (.cell a ty::rs) K ax F G=dz (tx rs (fun aH=>K (G a::aH)) .mk F G) .mk (kM (F a)=true):=rfl
@[simp] theorem ama{rs:List kx}{ae:Value->ad->Prop}:Ab rs ae .normal F G H=tx rs (fun aH=>ae (bf aH) H) .mk F G:=rfl
@[simp] theorem amb{rs:List kx}{ae:Value->ad->Prop}:Ab rs ae .ret F G H=tx rs (fun aH=>ae (bf aH) H) .mk F G:=rfl
@[simp] theorem QP{K:Fr->Fr->ad->Prop}:nC K Q .normal F G H=K F G H:=rfl
@[simp] theorem al0{K:Fr->Fr->ad->Prop}:nC K Q .ret F G H=Q .ret F G H:=rfl
@[simp] theorem adj{K:Fr->Fr->ad->Prop}(id:Nat):nC K Q (.exit id) F G H=Q (.exit id) F G H:=rfl
@[simp] theorem ai1(id:Nat):rZ id Q .normal F G H=Q .normal F G H:=rfl
@[simp] theorem ai2(id:Nat):rZ id Q .ret F G H=Q .ret F G H:=rfl
@[simp] theorem ai0(id iv:Nat):rZ id Q (.exit iv) F G H=if iv=id then Q .normal F G H else Q (.exit iv) F G H:=rfl
theorem c6.mk{m k:Nat}{x:fc}{ax:bc x Q}(aL:kW m k x=true)(ai:Nat->Fr->Fr->ad->Prop)(n:Nat)(aG:ai n F G H)
  (round:∀n az bH H1,ai n (mix m F az) (mix k G bH) H1->∀K:Fr->Fr->ad->Prop,(∀ed bU dd aT,ed<n->ai ed bU dd aT->K bU dd aT)->bV P x (nC K Q) .mk (mix m F az) (mix k G bH) H1):c6 P m k x Q ax F G H:=by
 have main:∀n az bH H1,(∀r,hl m r=false->az r=F r)->(∀r,hl k r=false->bH r=G r)->ai n az bH H1->xP (fe P x) Q az bH H1:=by
  intro n
  induction n using Nat.strongRecOn with
  | _ n a2=>
   intro az bH H1 a7 g6 ew
   have al:fe P x az bH H1 (nC (fun bU dd aT=>∃ed,ed<n/\ai ed bU dd aT) Q):=by
    have:=round n az bH H1 (by rw[<-sS a7,<-sS g6];exact ew) (fun bU dd aT=>∃ed,ed<n/\ai ed bU dd aT) fun ed bU dd aT o aa=>⟨ed,o,aa⟩
    rw[<-sS a7,<-sS g6]at this
    exact this
   refine .round (fun bU dd aT=>(∃ed,ed<n/\ai ed bU dd aT)/\(∀r,hl m r=false->bU r=az r)/\∀r,hl k r=false->dd r=bH r) (fe.gY (x:=x) aL (fun e bU dd aT f2 kf aa=>?_) al) ?_
   ·cases e with
    | normal=>exact⟨aa,f2,kf⟩
    | exit id=>exact aa
    | ret=>exact aa
   ·rintro bU dd aT ⟨⟨ed,o,aa⟩,f2,kf⟩
    exact a2 ed o bU dd aT (fun r al=>by rw[f2 r al,a7 r al]) (fun r al=>by rw[kf r al,g6 r al]) aa
 exact main n F G H (fun _ _=>rfl) (fun _ _=>rfl) aG
def Sh(ae:Fr->Fr->ad->Prop):dS->Fr->Fr->ad->Prop
 | .normal,F,G,H=>ae F G H
 | _,_,_,_=>False
@[simp] theorem aie(ae:Fr->Fr->ad->Prop):Sh ae .normal F G H=ae F G H:=rfl
theorem xA(m k:Nat)(x:fc)(ax:bc (fc.box m k x) Q):bV P (.box m k x) Q ax F G H=bV P x Q .mk F G H:=rfl
theorem bV.join{m k:Nat}{x:fc}{K:Fr->Fr->ad->Prop}{ax:bc (fc.box m k x) (nC K Q)}(aL:kW m k x=true)(ae:Fr->Fr->ad->Prop)(o:∀er:dS->Fr->Fr->ad->Prop,(∀az bH H1,ae az bH H1->er .normal az bH H1)->(∀e az bH H1,e≠ .normal->Q e az bH H1->er e az bH H1)->bV P x er .mk F G H)
  (aa:∀az bH H1,ae (mix m F az) (mix k G bH) H1->K (mix m F az) (mix k G bH) H1):bV P (.box m k x) (nC K Q) ax F G H:=by
 refine fe.gY (x:=x) aL (fun e az bH H1 f1 cK h=>?_) (o (nC ae Q) (fun _ _ _ h=>h) (fun e az bH H1 he h=>by
  cases e with
  | normal=>exact absurd rfl he
  | exit id=>exact h
  | ret=>exact h))
 cases e with
 | normal=>
  have:=aa az bH H1 (by rw[<-sS f1,<-sS cK];exact h)
  rw[<-sS f1,<-sS cK]at this
  exact this
 | exit id=>exact h
 | ret=>exact h
theorem aX.ah1{f:FuncId}{fn:Func}{z:cT}{C:Cells}{args:List Value}{ae:Value->ad->Prop}(aC:P.funcs[f]?=some fn)(aF:(fn.name== "runtime.NumGoroutine")=false)(ag:comp P fn=some z.back)(aQ:(lj P C z.code&&vj C z.results)=true)
  (au:args.length<=fn.ntmps)(pY:(C.all fun p=>decide (args.length<=p.1))=true)(h:bV P z.code (Ab z.results ae) .mk (kb args) (fun _=>undef) H):aX P f args H ae:=aX.ah0 aC aF ag aQ au pY h
end
theorem SV{C:Cells}{args:List Value}{n:Nat}(au:args.length<=n)(h:(C.all fun p=>decide (n<=p.1))=true):(C.all fun p=>decide (args.length<=p.1))=true:=by
 rw[List.all_eq_true]at h⊢
 intro p aK
 have:=of_decide_eq_true (h p aK)
 exact decide_eq_true (Nat.le_trans au this)
theorem Ext.dead(H:ad):Ext H (H++[.dead]):=⟨[.dead],rfl,fun x J e cs=>by simp at J;subst J;simp⟩
def Kept(H aI:ad)(s:Value)(e:Nat):Prop:=∀b X,H[b]?=some X->(inBlock s b->X.elem?≠some e)->aI[b]?=some X
theorem eA.kept{H aI:ad}{e c0 R n:Nat}{s v:Value}{cs:List Value}(h:eA H c0 R v n cs)(ah:Kept H aI s e)(c2:c0≠e):eA aI c0 R v n cs:=by
 obtain⟨a,cap,an,o,aa,aE⟩:=h
 refine⟨a,cap,an,o,aa,fun ag=>?_⟩
 obtain⟨b,i,X,all,aU,aO,bw,cj,eR⟩:=aE ag
 exact⟨b,i,X,all,aU,ah b X aO (fun _ h=>c2 (by rw[cj]at h;exact Option.some.inj h)),bw,cj,eR⟩
def eI(ay:Bool)(R:Nat)(cs:List Value)(i:Nat):Value:=if ay=true then .agg ((cs.drop (i*R)).take R).toArray else cs[i]?.getD undef
class bM {α:Type} (ae:ad->Value->α->Prop):Prop where
 ext:∀{H H1:ad} {v:Value} {x:α},ae H v x->Ext H H1->ae H1 v x
def Row{α:Type}(e R:Nat)(ay:Bool)(ae:ad->Value->α->Prop)(H:ad)(v:Value)(xs:List α):Prop:=∃cs,eA H e R v xs.length cs/\∀i x,xs[i]?=some x->ae H (eI ay R cs i) x
def bB{α:Type}(k e R:Nat)(ay:Bool)(ae:ad->Value->α->Prop)(H:ad)(v:Value)(xs:List α):Prop:=∃cs,iP H k e R v xs.length cs/\∀i x,xs[i]?=some x->ae H (eI ay R cs i) x
section
variable {α:Type} {e R k:Nat} {ay:Bool} {ae:ad->Value->α->Prop} {H H1:ad} {v:Value} {xs:List α}
instance[bM ae]:bM (Row e R ay ae):=⟨fun⟨cs,o,aa⟩ J=>⟨cs,o.ext J,fun i x ab=>bM.ext (aa i x ab) J⟩⟩
instance[bM ae]:bM (bB k e R ay ae):=⟨fun⟨cs,o,aa⟩ J=>⟨cs,o.ext J,fun i x ab=>bM.ext (aa i x ab) J⟩⟩
theorem bB.row(h:bB k e R ay ae H v xs):Row e R ay ae H v xs:=let⟨cs,o,aa⟩:=h;⟨cs,o.gj,aa⟩
theorem Row.len(h:Row e R ay ae H v xs):∃a c,v= .slice a xs.length c:=let⟨cs,o,aa⟩:=h;o.len
theorem bB.len(h:bB k e R ay ae H v xs):∃a c,v= .slice a xs.length c:=h.row.len
theorem Row.nil(e R:Nat)(ay:Bool)(ae:ad->Value->α->Prop)(H:ad):Row e R ay ae H (.slice none 0 0) []:=⟨[],eA.nil H e R,fun i x h=>by simp at h⟩
theorem bB.nil(k e R:Nat)(ay:Bool)(ae:ad->Value->α->Prop)(H:ad):bB k e R ay ae H (.slice none 0 0) []:=⟨[],iP.nil H k e R,fun i x h=>by simp at h⟩
theorem bB.void(k e R i:Nat)(ay:Bool)(ae:ad->Value->α->Prop)(H:ad):bB k e R ay ae H (.slice (some ⟨0,i,none⟩) 0 0) []:=⟨[],iP.void H k e R i,fun i x h=>by simp at h⟩
theorem Row.kept{s:Value}{c0:Nat}(h:Row e R ay ae H v xs)(ah:Kept H H1 s c0)(c2:e≠c0)(bq:∀u x,ae H u x->ae H1 u x):Row e R ay ae H1 v xs:=let⟨cs,o,aa⟩:=h;⟨cs,o.kept ah c2,fun i x ab=>bq _ _ (aa i x ab)⟩
theorem Row.at(h:Row e R ay ae H v xs){i:Nat}{x:α}(ab:xs[i]?=some x):∃b U cap X all,v= .slice (some ⟨b,U,none⟩) xs.length cap/\H[b]?=some X/\X.cells?=some all/\U+i*R+R<=all.length/\
  ae H (if ay=true then .agg ((all.drop (U+i*R)).take R).toArray else((all.drop (U+i*R)).take R)[0]?.getD undef) x\/(ay=false/\R≠1):=by
 by_cases ao:ay=false/\R≠1
 ·exact⟨0,0,0,.dead,[],.inr ao⟩
 obtain⟨cs,o,aa⟩:=h
 have au:i<xs.length:=(cn.1 ab).1
 obtain⟨a,cap,an,aE,bA,bQ⟩:=o
 obtain⟨b,U,X,all,rfl,aO,bw,cj,eR,g0⟩:=bQ (by omega)
 have hle:(i+1)*R<=xs.length*R:=Nat.mul_le_mul_right _ au
 rw[Nat.succ_mul]at hle
 refine⟨b,U,cap,X,all,.inl ⟨an,aO,bw,by omega,?_⟩⟩
 have J:=aa i x ab
 unfold eI at J
 have ag:(cs.drop (i*R)).take R=(all.drop (U+i*R)).take R:=by
  rw[g0,List.drop_take,List.drop_drop,List.take_take,Nat.min_eq_left (by omega)]
 cases ay with
 | true=>simp only[if_true]at J⊢;rw[<-ag];exact J
 | false=>
  have fO:R=1:=by
   by_cases h:R=1
   ·exact h
   ·exact absurd ⟨rfl,h⟩ ao
  subst fO
  simp only[Bool.false_eq_true,if_false]at J⊢
  rw[<-ag]
  simpa[List.getElem?_take,List.getElem?_drop]using J
end
section
variable {P:Program} {r:List bJ} {F:Fr} {H:ad} {Q:Fr->ad->Prop} {α:Type}
theorem cF{d t d2 e R n:Nat}{ay:Bool}{x i:Operand}{ae:ad->Value->α->Prop}{xs:List α}{a:α}{ax:bc (bb d t x i::aB d2 e (T d)::r) Q}(bq:Row e R ay ae H (ar F x) xs)(ab:ar F i= .int .i64 (n:Int))(aL:xs[n]?=some a)
  (bG:e1 P t=some e)(ao:bu P e=some R)(eE:dk P e=some ay)(o:ay=true\/R=1)(K:∀p u,ae H u a->ba P r Q .mk (a5 (a5 F d p) d2 u) H):ba P (bb d t x i::aB d2 e (T d)::r) Q ax F H:=by
 have au:n<xs.length:=(cn.1 aL).1
 obtain⟨b,U,cap,X,all,⟨an,aZ,ag,bF,hu⟩ | ⟨aU,aO⟩⟩:=bq.at aL
 ·rw[gk,an,ab,oG,m5,bG,eG,ao,eG,oE]
  refine dz.mk ⟨by omega,by omega⟩ ?_
  rw[te]
  simp only[ke,hG,lo,aZ,Option.bind_some,ag,eG,eE,Int.toNat_natCast]
  cases ay with
  | true=>
   rw[R_,ao,eG]
   refine dz.mk bF ?_
   exact K _ _ hu
  | false=>
   rw[rP]
   have fO:R=1:=by rcases o with h | h;cases h;exact h
   subst fO
   have a3:U+n*1<all.length:=by omega
   rw[bs a3,eG]
   refine K _ _ ?_
   simp only[Bool.false_eq_true,if_false]at hu
   rw[List.getElem?_take_of_lt (by omega),List.getElem?_drop,Nat.add_zero,bs a3]at hu
   exact hu
 ·rcases o with h | h
  ·rw[h]at aU;cases aU
  ·exact absurd h aO
theorem xy{j:Nat}{w:Bool}{x:bJ}{ax:bc (aJ j w x::r) Q}(h:hy (F j)=some w)(K:ba P (iz x::r) Q .mk F H):ba P (aJ j w x::r) Q ax F H:=by
 rw[ad8]
 show ow _ _ _ _
 unfold ow
 rw[if_pos h]
 exact K
theorem qw{j d t d2 e R n:Nat}{w:Bool}{ay:Bool}{x i:Operand}{ae:ad->Value->α->Prop}{xs:List α}{a:α}{ax:bc (bb d t x i::aJ j w (aB d2 e (T d))::r) Q}(a1:hy (F j)=some w)(nk:j≠d)(bq:Row e R ay ae H (ar F x) xs)(ab:ar F i= .int .i64 (n:Int))(aL:xs[n]?=some a)
  (bG:e1 P t=some e)(ao:bu P e=some R)(eE:dk P e=some ay)(o:ay=true\/R=1)(K:∀p u,ae H u a->ba P r Q .mk (a5 (a5 F d p) d2 u) H):ba P (bb d t x i::aJ j w (aB d2 e (T d))::r) Q ax F H:=by
 have aG:ba P (bb d t x i::aB d2 e (T d)::r) Q .mk F H:=cF bq ab aL bG ao eE o K
 rw[gk]at aG⊢
 revert aG
 simp only[Ed,AT,rW,qE,gC,Ec,AP,dz,gR,fj]
 cases ar F x<;>try exact id
 cases ar F i<;>try exact id
 simp only
 cases e1 P t<;>try exact id
 simp only
 rename_i T2
 cases bu P T2<;>try exact id
 simp only
 split
 ·rintro⟨o,aa⟩
  exact⟨o,xy (by rw[hF _ _ nk];exact a1) aa⟩
 ·exact id
theorem cD{d t e R:Nat}{ay:Bool}{x:Operand}{ae:ad->Value->α->Prop}{xs:List α}{ax:bc (bt d t x::r) Q}(bq:Row e R ay ae H (ar F x) xs)(bG:e1 P t=some e)(K:ba P r Q .mk (a5 F d (.int .i64 xs.length)) H):ba P (bt d t x::r) Q ax F H:=by
 obtain⟨a,c,an⟩:=bq.len
 rw[hq,an,abg,bG]
 exact K
theorem tG{ay:Bool}{R i n:Nat}{cs a0:List Value}(au:cs.length=n*R)(ab:i<n)(o:ay=true\/R=1):eI ay R (cs++a0) i=eI ay R cs i:=by
 unfold eI
 have hle:(i+1)*R<=n*R:=Nat.mul_le_mul_right _ ab
 rw[Nat.succ_mul]at hle
 cases ay with
 | true=>
  simp only[if_true]
  rw[List.drop_append_of_le_length (by omega),List.take_append_of_le_length (by simp;omega)]
 | false=>
  have fO:R=1:=by rcases o with h | h;cases h;exact h
  subst fO
  simp only[Bool.false_eq_true,if_false]
  rw[List.getElem?_append_left (by omega)]
theorem EL{P:Program}{e:Nat}{ay:Bool}{R n:Nat}{cs:List Value}{u:Value}(au:cs.length=n*R)(hw:Whole P e u)(ao:bu P e=some R)(eE:dk P e=some ay):eI ay R (cs++u.cells.toList) n=u:=by
 obtain⟨a9,iN,cW⟩:=hw
 have df:u.cells.size=R:=by rw[ao]at a9;exact(Option.some.inj a9).symm
 unfold eI
 cases ay with
 | true=>
  simp only[if_true]
  have aL:e7 u=true:=by
   cases aq:e7 u with
   | true=>rfl
   | false=>rw[aq]at cW;simp at cW;rw[cW.1]at eE;cases eE
  rw[<-au,List.drop_append_of_le_length (Nat.le_refl _),List.drop_length,List.nil_append,List.take_of_length_le (by simp;omega),Array.toArray_toList]
  exact(xV aL).symm
 | false=>
  simp only[Bool.false_eq_true,if_false]
  have aL:e7 u=false:=by
   cases aq:e7 u with
   | false=>rfl
   | true=>rw[aq]at cW;simp at cW;rw[cW]at eE;cases eE
  rw[aL]at cW
  simp at cW
  have o:R=1:=by rw[<-df,cW.2];rfl
  subst o
  rw[List.getElem?_append_right (by omega),cW.2]
  have:n-cs.length=0:=by omega
  simp[this]
theorem rJ{ff:Bool}{d1 d2 t b4 cV e R bI k:Nat}{ay:Bool}{s x:Operand}{z:Value}{ae:ad->Value->α->Prop}{xs:List α}{a:α}{ax:bc ((⟨ff,none,some d1,.buildSlice t 1 #[(0,x)]⟩:bJ)::ap d2 b4 cV s (T d1)::r) Q}(cR:bB k e R ay ae H (ar F s) xs)(aL:ae H (ar F x) a)
  (hw:Whole P e (ar F x))(fO:∀v,ar (a5 F d1 v) s=ar F s)(hY:∀aI dp u y,Kept H aI dp e->ae H u y->ae aI u y)
  (bG:P.underlying t=some (.slice e))(hu:P.underlying b4=some (.slice e))(J:fY P cV=true)(ao:bu P e=some R)(eE:dk P e=some ay)(af:bytes? P e=some bI)(aQ:dL P e=some z)(eb:flat z=true)(dt:z.cells.size=R)(df:0<R)(sI:R<=1000)
  (eh:0<bI)(bF:(xs.length+1)*bI<=140737488355328)(ah:k<=H.length)
  (K:∀p aw aI,bB k e R ay ae aI aw (xs++[a])->(∀cJ:ad,cJ.length<=k->Ext cJ H->Ext cJ aI)->Kept H aI (ar F s) e->ba P r Q .mk (a5 (a5 F d1 p) d2 aw) aI):
  ba P ((⟨ff,none,some d1,.buildSlice t 1 #[(0,x)]⟩:bJ)::ap d2 b4 cV s (T d1)::r) Q ax F H:=by
 obtain⟨cs,jv,fU⟩:=cR
 have gV:=jv.1
 have me:(ar F x).cells.size=R:=by have:=hw.1;rw[ao]at this;exact(Option.some.inj this).symm
 have o:ay=true\/R=1:=by
  cases ay with
  | true=>exact .inl rfl
  | false=>
   refine .inr ?_
   have cW:=hw.2.2
   cases aq:e7 (ar F x)with
   | true=>rw[aq]at cW;simp at cW;rw[cW]at eE;cases eE
   | false=>rw[aq]at cW;simp at cW;rw[<-me,cW.2];rfl
 refine ad4 jv fO bG hu J ao af aQ eb dt df sI eh bF (by simp[me]) hw.2.1 ah fun p aw aI aU aO bw=>K p aw aI ⟨_,by simpa using aU,fun i y aP=>?_⟩ aO bw
 by_cases ab:i<xs.length
 ·rw[List.getElem?_append_left ab]at aP
  rw[tG gV ab o]
  exact hY _ _ _ _ bw (fU i y aP)
 ·have gz:i=xs.length:=by
   have:=(cn.1 aP).1
   simp at this
   omega
  subst gz
  rw[List.getElem?_append_right (Nat.le_refl _),Nat.sub_self]at aP
  simp at aP
  subst aP
  rw[EL gV hw ao eE]
  exact hY _ _ _ _ bw aL
theorem Bi{ay:Bool}{R i n:Nat}{cs a0:List Value}(au:cs.length=n*R)(ab:n<=i)(o:ay=true\/R=1):eI ay R (cs++a0) i=eI ay R a0 (i-n):=by
 unfold eI
 have hle:n*R<=i*R:=Nat.mul_le_mul_right _ ab
 cases ay with
 | true=>
  simp only[if_true]
  rw[List.drop_append,List.drop_eq_nil_of_le (by omega),List.nil_append,au,Nat.sub_mul]
 | false=>
  have fO:R=1:=by rcases o with h | h;cases h;exact h
  subst fO
  simp only[Bool.false_eq_true,if_false]
  rw[List.getElem?_append_right (by omega)]
  congr 2
  omega
theorem DG{d b4 cV e R bI k:Nat}{ay:Bool}{s x:Operand}{z:Value}{ae:ad->Value->α->Prop}{xs bY:List α}{ax:bc (ap d b4 cV s x::r) Q}(cR:bB k e R ay ae H (ar F s) xs)(l6:Row e R ay ae H (ar F x) bY)(ly:∀u y,ae H u y->Whole P e u)(hY:∀aI dp u y,Kept H aI dp e->ae H u y->ae aI u y)
  (hu:P.underlying b4=some (.slice e))(J:fY P cV=true)(ao:bu P e=some R)(eE:dk P e=some ay)(o:ay=true\/R=1)(af:bytes? P e=some bI)(aQ:dL P e=some z)(dt:z.cells.size=R)(eh:0<bI)(bF:(xs.length+bY.length)*bI<=140737488355328)(ah:k<=H.length)
  (K:∀aw aI,bB k e R ay ae aI aw (xs++bY)->(∀cJ:ad,cJ.length<=k->Ext cJ H->Ext cJ aI)->Kept H aI (ar F s) e->ba P r Q .mk (a5 F d aw) aI):ba P (ap d b4 cV s x::r) Q ax F H:=by
 obtain⟨cs,jv,fU⟩:=cR
 obtain⟨a0,BM,yK⟩:=l6
 have gV:=jv.1
 obtain⟨a,c,an,aU,aO,bw⟩:=BM
 have dn:Src H R (ar F x) bY.length bY.length a0:=by
  have:=eA.src (H:=H) (e:=e) (R:=R) (v:=ar F x) (n:=bY.length) (cs:=a0) ⟨a,c,an,aU,aO,bw⟩ (Nat.le_refl _)
  rwa[<-aO,List.take_length]at this
 have zd:(a0.all (·.oneCell'))=true:=by
  rw[List.all_eq_true]
  intro u n2
  obtain⟨j,aN⟩:=List.getElem?_of_mem n2
  have gg:j<bY.length*R:=by have:=(cn.1 aN).1;omega
  have df:0<R:=by rcases Nat.eq_zero_or_pos R with q | q;·subst q;simp at gg
                  exact q
  have cA:j/R<bY.length:=Nat.div_lt_of_lt_mul (by rw[Nat.mul_comm];exact gg)
  have hw:=ly _ _ (yK _ _ (bs cA))
  have hM:u∈(eI ay R a0 (j/R)).cells.toList:=by
   unfold eI
   cases ay with
   | true=>
    simp only[if_true,Value.cells,List.toList_toArray]
    have nS:=Nat.div_add_mod j R
    have eM:=Nat.mod_lt j df
    rw[Nat.mul_comm]at nS
    refine List.mem_of_getElem? (i:=j % R) ?_
    rw[List.getElem?_take_of_lt eM,List.getElem?_drop,nS]
    exact aN
   | false=>
    have fO:R=1:=by rcases o with h | h;cases h;exact h
    subst fO
    have kF:a0[j/1]?=some u:=by rw[Nat.div_one];exact aN
    simp only[eI,Bool.false_eq_true,if_false]at hw⊢
    rw[kF]at hw⊢
    simp only[Option.getD_some]at hw⊢
    have cW:=hw.2.2
    cases aq:e7 u with
    | false=>rw[aq]at cW;simp at cW;rw[cW.2];simp
    | true=>
     rw[aq]at cW
     simp at cW
     rw[cW]at eE
     cases eE
  exact List.all_eq_true.1 hw.2.1 u hM
 refine Iw jv dn hu J ao af aQ dt eh bF zd aO ah fun aw aI dh gZ fP ho iK=>K aw aI ⟨_,by simpa using dh,fun i y aP=>?_⟩ gZ fP
 by_cases ab:i<xs.length
 ·rw[List.getElem?_append_left ab]at aP
  rw[tG gV ab o]
  exact hY _ _ _ _ fP (fU i y aP)
 ·rw[List.getElem?_append_right (by omega)]at aP
  rw[Bi gV (by omega) o]
  exact hY _ _ _ _ fP (yK _ y aP)
theorem abE(z:Value)(R n i:Nat)(aQ:z.cells.size=R)(ab:i<n)(df:0<R):((made z (n*R)).drop (i*R)).take R=z.cells.toList:=by
 have hle:(i+1)*R<=n*R:=Nat.mul_le_mul_right _ ab
 rw[Nat.succ_mul]at hle
 apply List.ext_getElem?
 intro j
 by_cases aN:j<R
 ·rw[List.getElem?_take_of_lt aN,List.getElem?_drop]
  unfold made
  rw[List.getElem?_map,List.getElem?_range (by omega)]
  simp only[Option.map_some,aQ]
  rw[Nat.mul_comm i R,Nat.mul_add_mod,Nat.mod_eq_of_lt aN]
  simp[aQ,aN]
 ·rw[List.getElem?_eq_none (by simp;omega),List.getElem?_eq_none (by simp;omega)]
theorem tf{d t e R bI n:Nat}{ay:Bool}{x y:Operand}{e6 dc:IntKind}{z:Value}{ae:ad->Value->α->Prop}{a:α}{ax:bc (ms d t x y::r) Q}(hu:P.underlying t=some (.slice e))(ao:bu P e=some R)(af:bytes? P e=some bI)(aQ:dL P e=some z)(eb:flat z=true)
  (eE:dk P e=some ay)(hw:Whole P e z)(J:ar F x= .int e6 (n:Int))(aP:ar F y= .int dc (n:Int))(df:0<R)(eh:0<bI)(bF:bI*n<=281474976710656)(bq:∀aI,ae aI z a)
  (K:∀v aI,bB H.length e R ay ae aI v (List.replicate n a)->Ext H aI->(n=0/\v= .slice (some ⟨0,0,none⟩) 0 0/\aI=H\/0<n/\v= .slice (some ⟨H.length,0,none⟩) n n/\aI=H++[.own e false (made z (n*R))])->ba P r Q .mk (a5 F d v) aI):ba P (ms d t x y::r) Q ax F H:=by
 have dt:z.cells.size=R:=by have:=hw.1;rw[ao]at this;exact(Option.some.inj this).symm
 by_cases aF:n=0
 ·subst aF
  exact DI hu ao af J aP (K _ H (bB.void _ _ _ _ _ _ _) (Ext.refl H) (.inl ⟨rfl,rfl,rfl⟩))
 ·refine Ar hu ao af aQ eb dt J aP df eh (Nat.le_refl _) (by omega) bF (K _ _ ⟨made z (n*R),⟨by simp[w7],.inr ⟨H.length,0,n,false,made z (n*R),by simp,by omega,by simp,Nat.le_refl _,by simp,by simp[w7],?_⟩⟩,fun i x ab=>?_⟩ ((Ext.refl H).snoc _ _ _) (.inr ⟨by omega,rfl,rfl⟩))
  ·rw[List.drop_zero,List.take_of_length_le (by simp[w7])]
  ·rw[List.getElem?_replicate]at ab
   split at ab
   ·rename_i a3
    obtain rfl:=Option.some.inj ab
    have hm:=abE z R n i dt a3 df
    have:eI ay R (made z (n*R)) i=z:=by
     have cW:=hw.2.2
     unfold eI
     cases ay with
     | true=>
      have aL:e7 z=true:=by
       cases aq:e7 z with
       | true=>rfl
       | false=>rw[aq]at cW;simp at cW;rw[cW.1]at eE;cases eE
      simp only[if_true]
      rw[hm,Array.toArray_toList]
      exact(xV aL).symm
     | false=>
      have aL:e7 z=false:=by
       cases aq:e7 z with
       | false=>rfl
       | true=>rw[aq]at cW;simp at cW;rw[cW]at eE;cases eE
      rw[aL]at cW
      simp at cW
      have o:R=1:=by rw[<-dt,cW.2];rfl
      subst o
      simp only[Bool.false_eq_true,if_false]
      have aa:(made z (n*1))[i]?=(((made z (n*1)).drop (i*1)).take 1)[0]?:=by
       rw[List.getElem?_take_of_lt (by omega),List.getElem?_drop];simp
      rw[aa,hm,cW.2]
      rfl
    rw[this]
    exact bq _
   ·cases ab
theorem T5{P:Program}{e:Nat}{ay:Bool}{R n i j:Nat}{cs:List Value}{u:Value}(au:cs.length=n*R)(aN:j<n)(ab:i<n)(hw:Whole P e u)(ao:bu P e=some R)(eE:dk P e=some ay)(o:ay=true\/R=1):eI ay R (dr cs (j*R) u.cells.toList) i=if i=j then u else eI ay R cs i:=by
 obtain⟨a9,iN,cW⟩:=hw
 have df:u.cells.size=R:=by rw[ao]at a9;exact(Option.some.inj a9).symm
 have B5:(j+1)*R<=n*R:=Nat.mul_le_mul_right _ aN
 have W6:(i+1)*R<=n*R:=Nat.mul_le_mul_right _ ab
 rw[Nat.succ_mul]at B5 W6
 have bF:j*R+u.cells.toList.length<=cs.length:=by simp;omega
 have l_:=fun m=>s9 (j:=m) bF
 unfold eI
 cases ay with
 | true=>
  have aL:e7 u=true:=by
   cases aq:e7 u with
   | true=>rfl
   | false=>rw[aq]at cW;simp at cW;rw[cW.1]at eE;cases eE
  simp only[if_true]
  have aA:((dr cs (j*R) u.cells.toList).drop (i*R)).take R=if i=j then u.cells.toList else(cs.drop (i*R)).take R:=by
   apply List.ext_getElem?
   intro m
   by_cases hm:m<R
   ·rw[List.getElem?_take_of_lt hm,List.getElem?_drop,l_]
    by_cases o9:i=j
    ·subst o9
     rw[if_pos rfl,if_pos ⟨by omega,by simp;omega⟩]
     congr 1
     omega
    ·rw[if_neg o9,List.getElem?_take_of_lt hm,List.getElem?_drop]
     rw[if_neg]
     simp only[Array.length_toList,df,not_and,Nat.not_lt]
     intro aG
     rcases Nat.lt_or_ge i j with q | q
     ·have:(i+1)*R<=j*R:=Nat.mul_le_mul_right _ q
      rw[Nat.succ_mul]at this
      omega
     ·have:(j+1)*R<=i*R:=Nat.mul_le_mul_right _ (by omega)
      rw[Nat.succ_mul]at this
      omega
   ·rw[List.getElem?_eq_none (by simp;omega)]
    split
    ·rw[List.getElem?_eq_none (by simp;omega)]
    ·rw[List.getElem?_eq_none (by simp;omega)]
  rw[aA]
  split
  ·rw[Array.toArray_toList];exact(xV aL).symm
  ·rfl
 | false=>
  have fO:R=1:=by rcases o with h | h;cases h;exact h
  subst fO
  have aL:e7 u=false:=by
   cases aq:e7 u with
   | false=>rfl
   | true=>rw[aq]at cW;simp at cW;rw[cW]at eE;cases eE
  rw[aL]at cW
  simp at cW
  simp only[Bool.false_eq_true,if_false]
  rw[l_]
  by_cases o9:i=j
  ·subst o9
   rw[if_pos rfl,if_pos ⟨by omega,by simp;omega⟩,cW.2]
   simp
  ·rw[if_neg o9,if_neg]
   simp only[Array.length_toList,df,not_and,Nat.not_lt]
   omega
theorem ja{d t e R n k:Nat}{ay:Bool}{x i y:Operand}{ae:ad->Value->α->Prop}{xs:List α}{a:α}{ax:bc (bb d t x i::st e (T d) y::r) Q}(cR:bB k e R ay ae H (ar F x) xs)(ab:ar F i= .int .i64 (n:Int))(aF:n<xs.length)(aL:ae H (ar F y) a)
  (hw:Whole P e (ar F y))(aP:∀v,ar (a5 F d v) y=ar F y)(hY:∀aI dp u y,Kept H aI dp e->ae H u y->ae aI u y)(bG:e1 P t=some e)(ao:bu P e=some R)(eE:dk P e=some ay)(df:0<R)
  (K:∀p aI,bB k e R ay ae aI (ar F x) (xs.set n a)->(∀cJ:ad,cJ.length<=k->Ext cJ H->Ext cJ aI)->Kept H aI (ar F x) e->aI.length=H.length->(∀c,c<k->aI[c]?=H[c]?)->ba P r Q .mk (a5 F d p) aI):ba P (bb d t x i::st e (T d) y::r) Q ax F H:=by
 obtain⟨cs,⟨au,jv⟩,fU⟩:=cR
 have me:(ar F y).cells.size=R:=by have:=hw.1;rw[ao]at this;exact(Option.some.inj this).symm
 have o:ay=true\/R=1:=by
  cases ay with
  | true=>exact .inl rfl
  | false=>
   refine .inr ?_
   have cW:=hw.2.2
   cases aq:e7 (ar F y)with
   | true=>rw[aq]at cW;simp at cW;rw[cW]at eE;cases eE
   | false=>rw[aq]at cW;simp at cW;rw[<-me,cW.2];rfl
 rcases jv with⟨aG,-⟩ | ⟨b,U,cap,l,all,an,aU,aO,bw,cj,eR,g0⟩
 ·omega
 have hle:(n+1)*R<=xs.length*R:=Nat.mul_le_mul_right _ aF
 have Gc:xs.length*R<=cap*R:=Nat.mul_le_mul_right _ aO
 rw[Nat.succ_mul]at hle
 have hg:=(cn.1 cj).1
 rw[gk,an,ab,oG,m5,bG,eG,ao,eG,oE]
 refine dz.mk ⟨by omega,by omega⟩ ?_
 rw[Ri]
 simp only[ke,hG,lo,cj,Je,Int.toNat_natCast,aP]
 have bF:U+n*R+(ar F y).cells.toList.length<=all.length:=by simp[me];omega
 refine dz.mk ⟨by rw[ao,me],by simpa using bF,hw.2.1⟩ ?_
 rw[aP,IV bF]
 have gp:((dr all (U+n*R) (ar F y).cells.toList).drop U).take (xs.length*R)=dr cs (n*R) (ar F y).cells.toList:=by
  have o7:n*R+(ar F y).cells.toList.length<=cs.length:=by simp[me,au];omega
  apply List.ext_getElem?
  intro j
  by_cases aN:j<xs.length*R
  ·rw[List.getElem?_take_of_lt aN,List.getElem?_drop,s9 bF,s9 o7,g0,List.getElem?_take_of_lt aN,List.getElem?_drop]
   by_cases ag:n*R<=j/\j<n*R+(ar F y).cells.toList.length
   ·rw[if_pos ag,if_pos ⟨by omega,by omega⟩]
    congr 1
    omega
   ·rw[if_neg ag,if_neg (by omega)]
  ·rw[List.getElem?_eq_none (by simp;omega),List.getElem?_eq_none (by rw[om o7,au];omega)]
 have wM:Kept H (H.set b (.own e l (dr all (U+n*R) (ar F y).cells.toList))) (ar F x) e:=fun cg X aZ cZ=>by
  have:b≠cg:=fun c0=>by
   subst c0
   rw[cj]at aZ
   exact cZ ⟨U,xs.length,cap,an⟩ (by rw[<-Option.some.inj aZ];rfl)
  rw[List.getElem?_set_ne this];exact aZ
 refine K _ _ ⟨dr cs (n*R) (ar F y).cells.toList,⟨by rw[om (by simp[me,au];omega)];simpa using au,.inr ⟨b,U,cap,l,_,by simpa using an,aU,by simpa using aO,bw,List.getElem?_set_self hg,by rw[om bF];exact eR,by simpa using gp.symm⟩⟩,fun i x J=>?_⟩
  (fun cJ aG J=>J.set (by omega) (by simp)) wM (by simp) (fun c ag=>List.getElem?_set_ne (by omega))
 have cA:i<xs.length:=by have:=(cn.1 J).1;simpa using this
 rw[T5 au aF cA hw ao eE o]
 by_cases gz:i=n
 ·subst gz
  rw[List.getElem?_set_self aF]at J
  obtain rfl:=Option.some.inj J
  rw[if_pos rfl]
  exact hY _ _ _ _ wM aL
 ·rw[List.getElem?_set_ne (Ne.symm gz)]at J
  rw[if_neg gz]
  exact hY _ _ _ _ wM (fU i x J)
theorem tg{ff:Bool}{d t e R l h:Nat}{ay:Bool}{x:Operand}{bg ab:Option Operand}{ae:ad->Value->α->Prop}{xs:List α}{ax:bc ((⟨ff,none,some d,.slice t x bg ab none⟩:bJ)::r) Q}(bq:Row e R ay ae H (ar F x) xs)(hu:P.underlying t=some (.slice e))(ao:bu P e=some R)(o:ay=true\/R=1)
  (au:ea (ar F) bg=some l)(db:fo (ar F) xs.length ab=some h)(y7:l<=h)(y4:h<=xs.length)(K:∀aw,Row e R ay ae H aw ((xs.drop l).take (h-l))->ba P r Q .mk (a5 F d aw) H):ba P ((⟨ff,none,some d,.slice t x bg ab none⟩:bJ)::r) Q ax F H:=by
 obtain⟨cs,bP,b5⟩:=bq
 refine Rh bP hu ao au db y7 y4 fun aw v_=>K aw ⟨_,by simpa[show min (h-l) (xs.length-l)=h-l by omega]using v_,fun i y aP=>?_⟩
 have cA:i<h-l:=by
  have:=(cn.1 aP).1
  simp at this
  omega
 rw[List.getElem?_take_of_lt cA,List.getElem?_drop]at aP
 have:=b5 _ _ aP
 have bn:eI ay R ((cs.drop (l*R)).take ((h-l)*R)) i=eI ay R cs (l+i):=by
  have hle:(i+1)*R<=(h-l)*R:=Nat.mul_le_mul_right _ cA
  rw[Nat.succ_mul]at hle
  unfold eI
  cases ay with
  | true=>
   simp only[if_true]
   rw[List.drop_take,List.drop_drop,List.take_take,Nat.min_eq_left (by omega),<-Nat.add_mul]
  | false=>
   have fO:R=1:=by rcases o with h | h;cases h;exact h
   subst fO
   simp only[Bool.false_eq_true,if_false,Nat.mul_one]
   rw[List.getElem?_take_of_lt cA,List.getElem?_drop]
 rw[bn]
 exact this
end
section
variable {P:Program} {r:List bJ} {F:Fr} {H:ad} {Q:Fr->ad->Prop}
theorem Rg{ff:Bool}{d t e R b i len cap l h:Nat}{X:bN}{x:Operand}{bg ab:Option Operand}{ax:bc ((⟨ff,none,some d,.slice t x bg ab none⟩:bJ)::r) Q}(an:ar F x= .slice (some ⟨b,i,none⟩) len cap)(aZ:H[b]?=some X)(he:X.elem?=some e)(hu:P.underlying t=some (.slice e))(ao:bu P e=some R)
  (au:ea (ar F) bg=some l)(db:fo (ar F) len ab=some h)(o:l<=h)(aa:h<=cap)(ma:l<cap)(K:ba P r Q .mk (a5 F d (.slice (some ⟨b,i+l*R,none⟩) (h-l) (cap-l))) H):ba P ((⟨ff,none,some d,.slice t x bg ab none⟩:bJ)::r) Q ax F H:=by
 have zp:ca P (ar F) H (.slice t x bg ab none)=none:=by simp only[ca,an]
 have a7:∀U:Oper,U.op= .slice t x bg ab none->bZ P U=false:=fun U aW=>by simp[bZ,aW]
 exact kr (v:= .slice (some ⟨b,i+l*R,none⟩) (h-l) (cap-l)) (H1:=H) rfl rfl zp (fun U aW=> .slice aW hu ao an aZ he au db o aa ma) a7 (.inr (Ext.refl H)) K
end
section
variable {α:Type} {e R k:Nat} {ay:Bool} {ae:ad->Value->α->Prop} {H:ad} {v:Value} {xs:List α}
theorem bB.adl{b:Nat}{X:bN}(h:bB k e R ay ae H v xs)(af:b<k)(bq:∀u y,ae H u y->ae (H.set b X) u y):bB k e R ay ae (H.set b X) v xs:=by
 obtain⟨cs,⟨o,aa⟩,aE⟩:=h
 refine⟨cs,⟨o,?_⟩,fun i y ab=>bq _ _ (aE i y ab)⟩
 rcases aa with aa | ⟨c,i,cap,l,all,aU,aO,bw,cj,eR,g0⟩
 ·exact .inl aa
 ·exact .inr ⟨c,i,cap,l,all,aU,aO,bw,cj,by rw[List.getElem?_set_ne (by omega)];exact eR,g0⟩
end
section
variable {P:Program} {F G:Fr} {H:ad} {Q:dS->Fr->Fr->ad->Prop}
theorem c6.range{m k id C ai N D t:Nat}{B:fc}{ax:bc (fc.seq (.ops [.xs [bi C .lss t (T ai) (T N)]]) (.seq (.cond (T C) .skip (.exit id)) (.seq B (.ops [.xs [bi D .add t (T ai) (cl.ai 1),I ai (T D)]])))) Q}
  (aL:kW m k (fc.seq (.ops [.xs [bi C .lss t (T ai) (T N)]]) (.seq (.cond (T C) .skip (.exit id)) (.seq B (.ops [.xs [bi D .add t (T ai) (cl.ai 1),I ai (T D)]]))))=true)(n:Nat)(aF:n<9223372036854775807)(bW:F N= .int .i64 (n:Int))(Va:hl m N=false)(UA:F ai= .int .i64 0)(ajZ:C≠ai)(aj0:D≠ai)
  (Inv:Nat->Fr->Fr->ad->Prop)(aG:Inv 0 F G H)
  (body:∀(i:Nat) (az bH:Fr) (H1:ad),i<n->mix m F az ai= .int .i64 (i:Int)->Inv i (mix m F az) (mix k G bH) H1->∀K:Fr->Fr->ad->Prop,(∀bU dd aT,bU ai= .int .i64 (i:Int)->Inv (i+1) (a5 (a5 bU D (.int .i64 ((i+1:Nat):Int))) ai (.int .i64 ((i+1:Nat):Int))) dd aT->K bU dd aT)->
   bV P B (nC K Q) .mk (a5 (mix m F az) C (.bool true)) (mix k G bH) H1)
  (fin:∀(az bH:Fr) (H1:ad),mix m F az ai= .int .i64 (n:Int)->Inv n (mix m F az) (mix k G bH) H1->Q (.exit id) (a5 (mix m F az) C (.bool false)) (mix k G bH) H1):
  c6 P m k (fc.seq (.ops [.xs [bi C .lss t (T ai) (T N)]]) (.seq (.cond (T C) .skip (.exit id)) (.seq B (.ops [.xs [bi D .add t (T ai) (cl.ai 1),I ai (T D)]])))) Q ax F G H:=by
 refine c6.mk aL (fun ed az bH H1=>∃i,ed=n-i/\i<=n/\az ai= .int .i64 (i:Int)/\Inv i az bH H1) n ⟨0,by omega,by omega,by simpa using UA,aG⟩ ?_
 rintro ed az bH H1 ⟨i,rfl,ab,ew,MM⟩ K a4
 have tS:mix m F az N= .int .i64 (n:Int):=by
  simp only[mix]
  rw[if_neg (by simpa[hl]using Va)]
  exact bW
 generalize vW:mix m F az=ah7 at*
 simp only[kP,ago,agj,Rc,ke,ew,tS,ac7,eG,Re,agi,QP,agl,hG,Si]
 refine br.b_ (fun a3=>?_) (fun h0=>?_)
 ·have kn:i<n:=by omega
  have aA:decide ((i:Int)<(n:Int))=true:=decide_eq_true a3
  simp only[aA,agp,QP]
  have:=body i az bH H1 kn (by rw[vW];exact ew) (by rw[vW];exact MM) (fun bU dd aT=>ba P [bi D .add t (T ai) (cl.ai 1),I ai (T D)] (fun az H1=>K az dd H1) .mk bU aT) fun bU dd aT jS UT=>?_
  ·rw[vW]at this
   refine fe.mono (x:=B) (fun e bU dd aT h=>?_) this
   cases e with
   | normal=>exact h
   | exit id=>exact h
   | ret=>exact h
  ·simp only[Rc,ke,Mf,jS,ac5,eG,aeb,hG,Re]
   have hw:IntKind.wrap .i64 ((i:Int)+1)=((i+1:Nat):Int):=by rw[b2 (by omega) (by omega)];simp
   rw[hw]
   exact a4 (n-(i+1)) _ _ _ (by omega) ⟨i+1,rfl,by omega,hG _ _ _,UT⟩
 ·have aA:decide ((i:Int)<(n:Int))=false:=decide_eq_false h0
  have gz:i=n:=by omega
  subst gz
  simp only[aA,agm,adj]
  have:=fin az bH H1 (by rw[vW];exact ew) (by rw[vW];exact MM)
  rw[vW]at this
  exact this
end
end Go.cl
end
