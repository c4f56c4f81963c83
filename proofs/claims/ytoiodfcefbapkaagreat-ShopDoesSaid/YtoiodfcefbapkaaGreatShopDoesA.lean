/- Part of the proof of ShopDoes. -/
import Derived.Test.YtoiodfcefbapkaaGreatRows
import Derived.WalkKit
import Derived.ProofKit
import Derived.OpenShut
import Derived.ShutString
import Derived.ChangeOld
import Derived.Below
import Derived.Deep.Slices
import Derived.Orders
import Derived.Deep.LoopGhost
import Derived.Laws.BytesArg
import Derived.Test.YtoiodfcefbapkaaGreatProg
import Derived.Laws.Strings
import Derived.ChangeArms
set_option linter.unusedVariables false
set_option linter.unusedSimpArgs false
section
namespace Go.dq
theorem bz{α:Type}{l:List α}{i:Nat}(h:i<l.length):l[i]?=some l[i]:=List.getElem?_eq_getElem h
theorem cJ{α:Type}{l:List α}{i:Nat}{a:α}:l[i]?=some a↔∃h:i<l.length,l[i]=a:=List.getElem?_eq_some_iff
def dH(P:Program){α:Type}:Sem α->Option α
 | .pure a=>some a
 | .program k=>dH P (k P)
 | .mark _ k=>dH P k
 | _=>none
theorem sd{P:Program}{α:Type}(s:Sem α)(a:α)(h:dH P s=some a)(w:World):s.run P w= .ok a w:=by
 induction s with
 | pure x=>simp[dH]at h;subst h;rfl
 | program k a1=>simp only[dH]at h;simp only[Sem.run];exact a1 P h
 | mark m k a1=>simp only[dH]at h;simp only[Sem.run];exact a1 h
 | _=>simp[dH]at h
def hg:Value->Bool
 | .bool _ | .int _ _ | .string _ | .float _ _ | .pointer none | .slice none 0 0 | .nilFunc | .nilIface | .map none=>true
 | _=>false
def flat(v:Value):Bool:=hg v || match v with
 | .agg cs=>cs.all hg
 | .tuple cs=>cs.all hg
 | .func (.func _) a b=>a.all hg&&b.all hg
 | _=>false
inductive bO where
 | own (e:TypeId) (loose:Bool) (cs:List Value)
 | ro (e:TypeId) (cs:List Value)
 | dead
abbrev ab:=List bO
def bO.cells?:bO->Option (List Value)
 | .own _ _ cs=>some cs
 | .ro _ cs=>some cs
 | .dead=>none
def hW(H:ab)(b:Nat):Prop:=∃e l cs,H[b]?=some (.own e l cs)
def lR(H:ab)(b:Nat):Prop:=∃x cs,H[b]?=some x/\x.cells?=some cs
theorem hW.live{H:ab}{b:Nat}(h:hW H b):lR H b:=by
 obtain⟨e,l,cs,h⟩:=h
 exact⟨_,cs,h,rfl⟩
structure iR where
 g:Nat
 U:Nat
 N:Nat
 R:Nat
 loose:Bool
abbrev bm:=Nat->Option iR
inductive bo (aj:bm):Value->Value->Prop
 | bool (b:Bool):bo aj (.bool b) (.bool b)
 | int (k:IntKind) (n:Int):bo aj (.int k n) (.int k n)
 | float (k:FloatKind) (n:Nat):bo aj (.float k n) (.float k n)
 | str (s:ByteArray):bo aj (.string s) (.string s)
 | B3:bo aj (.pointer none) (.pointer none)
 | ptr {b i:Nat} {k:iR} (h:aj b=some k):bo aj (.pointer (some ⟨b,i,none⟩)) (.pointer (some ⟨k.g,k.U+i,none⟩))
 | s5 (g:Nat):bo aj (.pointer (some ⟨0,g,some 0⟩)) (.pointer (some ⟨g,0,none⟩))
 | r_:bo aj (.slice none 0 0) (.slice none 0 0)
 | void (i:Nat) (a:Addr):bo aj (.slice (some ⟨0,i,none⟩) 0 0) (.slice (some a) 0 0)
 | empty {b i:Nat} (ag:b≠0) (a:Addr) (c:Nat):bo aj (.slice (some ⟨b,i,none⟩) 0 0) (.slice (some a) 0 c)
 | slice {b i:Nat} {k:iR} {len cap dJ:Nat} (h:aj b=some k) (ae:0<cap) (ar:len<=cap) (gb:cap<=dJ) (J:k.loose=false->dJ=cap)
   (bP:k.loose=true->k.U+i+dJ*k.R<=k.N):bo aj (.slice (some ⟨b,i,none⟩) len cap) (.slice (some ⟨k.g,k.U+i,none⟩) len dJ)
 | agg {xs bS:Array Value} (ar:xs.size=bS.size) (h:∀(i:Nat) (v au:Value),xs[i]?=some v->bS[i]?=some au->bo aj v au):bo aj (.agg xs) (.agg bS)
 | tuple {xs bS:Array Value} (ar:xs.size=bS.size) (h:∀(i:Nat) (v au:Value),xs[i]?=some v->bS[i]?=some au->bo aj v au):bo aj (.tuple xs) (.tuple bS)
 | func (fn:Fn) {xs bS wy wz:Array Value} (ar:xs.size=bS.size) (h:∀(i:Nat) (v au:Value),xs[i]?=some v->bS[i]?=some au->bo aj v au)
   (dK:wy.size=wz.size) (cA:∀(i:Nat) (v au:Value),wy[i]?=some v->wz[i]?=some au->bo aj v au):bo aj (.func fn xs wy) (.func fn bS wz)
 | nilFunc:bo aj .nilFunc .nilFunc
 | iface (t:TypeId) {v au:Value} (h:bo aj v au):bo aj (.iface t v) (.iface t au)
 | nilIface:bo aj .nilIface .nilIface
 | B2:bo aj (.map none) (.map none)
def fl(aj:bm)(xs bS:Array Value):Prop:=xs.size=bS.size/\∀(i:Nat) (v au:Value),xs[i]?=some v->bS[i]?=some au->bo aj v au
def c0(aj:bm)(xs bS:List Value):Prop:=xs.length=bS.length/\∀(i:Nat) (v au:Value),xs[i]?=some v->bS[i]?=some au->bo aj v au
theorem bo.ext{aj bB:bm}(he:∀b k,aj b=some k->bB b=some k){v au:Value}(h:bo aj v au):bo bB v au:=by
 induction h with
 | bool b=>exact .bool b
 | int k n=>exact .int k n
 | float k n=>exact .float k n
 | str s=>exact .str s
 | B3=>exact .B3
 | ptr h=>exact .ptr (he _ _ h)
 | s5 g=>exact .s5 g
 | r_=>exact .r_
 | void i a=>exact .void i a
 | empty ag a c=>exact .empty ag a c
 | slice h ae ar gb J bP=>exact .slice (he _ _ h) ae ar gb J bP
 | agg ar _ a1=>exact .agg ar a1
 | tuple ar _ a1=>exact .tuple ar a1
 | func fn ar _ dK _ a1 XB=>exact .func fn ar a1 dK XB
 | nilFunc=>exact .nilFunc
 | iface t _ a1=>exact .iface t a1
 | nilIface=>exact .nilIface
 | B2=>exact .B2
theorem c0.ext{aj bB:bm}(he:∀b k,aj b=some k->bB b=some k){xs bS:List Value}(h:c0 aj xs bS):c0 bB xs bS:=⟨h.1,fun i v au J aI=>(h.2 i v au J aI).ext he⟩
theorem Aj{aj:bm}{v au:Value}(aB:hg v=true)(h:bo aj v au):au=v:=by
 cases h<;>first | rfl | (simp[hg]at aB;done) | skip
theorem KS(aj:bm){v:Value}(aB:hg v=true):bo aj v v:=by
 unfold hg at aB
 split at aB<;>first | constructor | (cases aB;done)
theorem fl.flat{aj:bm}{xs bS:Array Value}(aB:xs.all hg=true)(h:fl aj xs bS):bS=xs:=by
 apply Array.ext
 ·exact h.1.symm
 ·intro i jx ix
  have J:hg xs[i]=true:=by
   have:=Array.all_eq_true.1 aB i ix
   simpa using this
  exact Aj J (h.2 i _ _ (Array.getElem?_eq_getElem ix) (Array.getElem?_eq_getElem jx))
theorem fl.Ci(aj:bm){xs:Array Value}(aB:xs.all hg=true):fl aj xs xs:=by
 refine⟨rfl,fun i v au J aI=>?_⟩
 rw[J]at aI
 obtain rfl:=Option.some.inj aI
 obtain⟨af,rfl⟩:=Array.getElem?_eq_some_iff.1 J
 exact KS aj (by simpa using Array.all_eq_true.1 aB i af)
theorem KU{aj:bm}{v au:Value}(aB:flat v=true)(h:bo aj v au):au=v:=by
 unfold flat at aB
 cases o:hg v
 ·rw[o]at aB
  simp only[Bool.false_or]at aB
  cases h with
  | agg ar h=>exact congrArg Value.agg (fl.flat aB ⟨ar,h⟩)
  | tuple ar h=>exact congrArg Value.tuple (fl.flat aB ⟨ar,h⟩)
  | func fn ar h dK cA=>
   cases fn<;>simp only[Bool.and_eq_true,reduceCtorEq]at aB
   rw[fl.flat aB.1 ⟨ar,h⟩,fl.flat aB.2 ⟨dK,cA⟩]
  | _=>simp at aB
 ·exact Aj o h
theorem uT(aj:bm){v:Value}(aB:flat v=true):bo aj v v:=by
 unfold flat at aB
 cases o:hg v
 ·rw[o]at aB
  simp only[Bool.false_or]at aB
  split at aB
  ·exact .agg rfl (fl.Ci aj aB).2
  ·exact .tuple rfl (fl.Ci aj aB).2
  ·simp only[Bool.and_eq_true]at aB
   exact .func _ rfl (fl.Ci aj aB.1).2 rfl (fl.Ci aj aB.2).2
  ·cases aB
 ·exact KS aj o
theorem bo.OD{aj:bm}{v au:Value}(h:bo aj v au):au.oneCell'=v.oneCell':=by cases h<;>rfl
theorem bo.undef(aj:bm):bo aj Go.undef Go.undef:= .tuple rfl fun i v au h=>by simp at h
theorem bo.cells{aj:bm}{v au:Value}(h:bo aj v au):fl aj v.cells au.cells:=by
 cases h with
 | agg ar h=>exact⟨ar,h⟩
 | _=>
  refine⟨rfl,fun i x eD J aI=>?_⟩
  obtain⟨af,rfl⟩:=Array.getElem?_eq_some_iff.1 J
  obtain⟨aY,rfl⟩:=Array.getElem?_eq_some_iff.1 aI
  simp only[Value.cells,List.size_toArray,List.length_cons,List.length_nil]at af aY
  obtain rfl:i=0:=by omega
  first
   | (simp only[Value.cells];constructor<;>assumption;done)
   | (constructor<;>assumption)
theorem fl.toList{aj:bm}{xs bS:Array Value}(h:fl aj xs bS):c0 aj xs.toList bS.toList:=⟨by simpa using h.1,fun i v au J aI=>h.2 i v au (by simpa using J) (by simpa using aI)⟩
theorem c0.toArray{aj:bm}{xs bS:List Value}(h:c0 aj xs bS):fl aj xs.toArray bS.toArray:=⟨by simpa using h.1,fun i v au J aI=>h.2 i v au (by simpa using J) (by simpa using aI)⟩
theorem c0.nil(aj:bm):c0 aj [] []:=⟨rfl,fun i v au h=>by simp at h⟩
theorem c0.cons{aj:bm}{x y:Value}{xs bS:List Value}(h:bo aj x y)(ao:c0 aj xs bS):c0 aj (x::xs) (y::bS):=by
 refine⟨by simp[ao.1],fun i v au J aI=>?_⟩
 cases i with
 | zero=>simp at J aI;subst J;subst aI;exact h
 | succ i=>simp at J aI;exact ao.2 i v au J aI
theorem c0.append{aj:bm}{xs bS wy wz:List Value}(h:c0 aj xs bS)(cA:c0 aj wy wz):c0 aj (xs++wy) (bS++wz):=by
 refine⟨by simp[h.1,cA.1],fun i v au J aI=>?_⟩
 by_cases af:i<xs.length
 ·rw[List.getElem?_append_left af]at J
  rw[List.getElem?_append_left (by rw[<-h.1];exact af)]at aI
  exact h.2 i v au J aI
 ·rw[List.getElem?_append_right (by omega)]at J
  rw[List.getElem?_append_right (by rw[<-h.1];omega),<-h.1]at aI
  exact cA.2 _ v au J aI
theorem c0.take{aj:bm}{xs bS:List Value}(h:c0 aj xs bS)(n:Nat):c0 aj (xs.take n) (bS.take n):=by
 refine⟨by simp[h.1],fun i v au J aI=>?_⟩
 rw[List.getElem?_take]at J aI
 split at J
 ·rename_i af;rw[if_pos af]at aI;exact h.2 i v au J aI
 ·cases J
theorem c0.drop{aj:bm}{xs bS:List Value}(h:c0 aj xs bS)(n:Nat):c0 aj (xs.drop n) (bS.drop n):=by
 refine⟨by simp[h.1],fun i v au J aI=>?_⟩
 rw[List.getElem?_drop]at J aI
 exact h.2 _ v au J aI
theorem c0.set{aj:bm}{xs bS:List Value}(h:c0 aj xs bS)(n:Nat){x y:Value}(J:bo aj x y):c0 aj (xs.set n x) (bS.set n y):=by
 refine⟨by simp[h.1],fun i v au an dR=>?_⟩
 rw[List.getElem?_set]at an dR
 by_cases aJ:n=i
 ·subst aJ
  rw[if_pos rfl]at an dR
  rw[<-h.1]at dR
  split at an
  ·rename_i aZ;rw[if_pos aZ]at dR;cases an;cases dR;exact J
  ·cases an
 ·rw[if_neg aJ]at an dR
  exact h.2 i v au an dR
theorem c0.replicate(aj:bm)(n:Nat):c0 aj (List.replicate n undef) (List.replicate n undef):=by
 refine⟨rfl,fun i v au J aI=>?_⟩
 rw[List.getElem?_replicate]at J aI
 split at J
 ·rename_i h;rw[if_pos h]at aI;cases J;cases aI;exact bo.undef aj
 ·cases J
theorem c0.get{aj:bm}{xs bS:List Value}(h:c0 aj xs bS){i:Nat}{v:Value}(J:xs[i]?=some v):∃au,bS[i]?=some au/\bo aj v au:=by
 obtain⟨af,rfl⟩:=cJ.1 J
 have aY:i<bS.length:=by rw[<-h.1];exact af
 exact⟨bS[i],bz aY,h.2 i _ _ (bz af) (bz aY)⟩
theorem fl.get{aj:bm}{xs bS:Array Value}(h:fl aj xs bS){i:Nat}{v:Value}(J:xs[i]?=some v):∃au,bS[i]?=some au/\bo aj v au:=by
 obtain⟨au,o,aa⟩:=h.toList.get (i:=i) (v:=v) (by simpa using J)
 exact⟨au,by simpa using o,aa⟩
theorem c0.getD{aj:bm}{xs bS:List Value}(h:c0 aj xs bS)(i:Nat):bo aj (xs.getD i undef) (bS.getD i undef):=by
 by_cases af:i<xs.length
 ·obtain⟨au,o,aa⟩:=h.get (bz af)
  simp only[List.getD_eq_getElem?_getD,o,bz af,Option.getD_some]
  exact aa
 ·simp only[List.getD_eq_getElem?_getD]
  rw[List.getElem?_eq_none (by omega),List.getElem?_eq_none (by rw[<-h.1];omega)]
  exact bo.undef aj
def mA(eu:Nat×Nat)(N:Nat):Prop:=∀j,j<N->¬(eu.1<=j/\j<eu.2)
inductive k7 (P:Program) (base:Nat) (aj:bm) (w:World) (k:iR):bO->Prop
 | own {e:TypeId} {l:Bool} {cs:List Value} {cur:Array Value} {eu:Nat×Nat} {inf:TypeInfo} (ag:base<=k.g) (ar:k.loose=l) (af:P.info? e=some inf) (ao:inf.size=k.R)
   (aX:w.heap[k.g]?=some (.cells cur e eu)) (bP:cur.size=k.N) (aB:mA eu k.N) (bC:k.U+cs.length<=k.N)
   (an:∀(i:Nat) (v:Value),cs[i]?=some v->∃au,cur[k.U+i]?=some au/\bo aj v au):k7 P base aj w k (.own e l cs)
 | ro {e:TypeId} {cs:List Value} {inf:TypeInfo} (af:P.info? e=some inf) (ao:inf.size=k.R) (an:∀(i:Nat) (v:Value),cs[i]?=some v->∃au,w.cell? ⟨k.g,k.U+i,none⟩=some au/\bo aj v au) (cV:k.g<w.heap.size):k7 P base aj w k (.ro e cs)
 | dead:k7 P base aj w k .dead
structure ct (P:Program) (base:Nat) (aj:bm) (H:ab) (w:World):Prop where
 pos:0<H.length
 size:base<=w.heap.size
 eZ:∀b k,aj b=some k->0<b/\b<H.length
 fc:∀b k x,aj b=some k->H[b]?=some x->k7 P base aj w k x
 inj:∀b cy k b_,aj b=some k->aj cy=some b_->b≠cy->hW H b->lR H cy->k.g≠b_.g
structure Step (aj:bm) (H:ab) (w:World) (bB:bm) (H1:ab) (a6:World):Prop where
 ext:∀b k,aj b=some k->bB b=some k
 new:∀b k,bB b=some k->aj b=some k\/H.length<=b
 len:H.length<=H1.length
 own:∀b k,bB b=some k->hW H1 b->w.heap.size<=k.g\/∃hF hP,aj hF=some hP/\hW H hF/\hP.g=k.g
 os:a6.os=w.os
 tape:a6.tape=w.tape
 output:a6.output=w.output
 size:w.heap.size<=a6.heap.size
 frame:∀g,g<w.heap.size->(∀b k,aj b=some k->hW H b->k.g≠g)->a6.heap[g]?=w.heap[g]?
theorem Step.refl(aj:bm)(H:ab)(w:World):Step aj H w aj H w:=
 ⟨fun _ _ h=>h,fun _ _ h=> .inl h,Nat.le_refl _,fun b k h aQ=> .inr ⟨b,k,h,aQ,rfl⟩,rfl,rfl,rfl,Nat.le_refl _,fun _ _ _=>rfl⟩
theorem Step.trans{aj bB lK:bm}{H H1 aS:ab}{w a6 hq:World}(h:Step aj H w bB H1 a6)(cA:Step bB H1 a6 lK aS hq):Step aj H w lK aS hq where
 ext b k ag:=cA.ext b k (h.ext b k ag)
 new b k ag:=by
  rcases cA.new b k ag with o | o
  ·exact h.new b k o
  ·exact .inr (Nat.le_trans h.len o)
 len:=Nat.le_trans h.len cA.len
 own b k ag aQ:=by
  rcases cA.own b k ag aQ with o | ⟨hF,hP,o,aa,aA⟩
  ·exact .inl (Nat.le_trans h.size o)
  ·rcases h.own hF hP o aa with bj | ⟨hs,jC,bj,bJ,ds⟩
   ·exact .inl (by omega)
   ·exact .inr ⟨hs,jC,bj,bJ,by omega⟩
 os:=cA.os.trans h.os
 tape:=cA.tape.trans h.tape
 output:=cA.output.trans h.output
 size:=Nat.le_trans h.size cA.size
 frame g aX cF:=by
  rw[cA.frame g (Nat.lt_of_lt_of_le aX h.size) ?_,h.frame g aX cF]
  intro b k ag aQ e
  rcases h.own b k ag aQ with o | ⟨hF,hP,o,aa,aA⟩
  ·omega
  ·exact cF hF hP o aa (by omega)
theorem Dr{w a6:World}{a:Addr}(h:a6.heap[a.block]?=w.heap[a.block]?):a6.cell? a=w.cell? a:=by simp[World.cell?,h]
theorem k7.gN{P:Program}{base:Nat}{aj bB:bm}{w a6:World}{k:iR}{x:bO}(h:k7 P base aj w k x)(he:∀b k,aj b=some k->bB b=some k)
  (hw:x.cells?≠none->a6.heap[k.g]?=w.heap[k.g]?)(yh:w.heap.size<=a6.heap.size):k7 P base bB a6 k x:=by
 cases h with
 | own ag ar af ao aX bP aB bC an=>
  exact .own ag ar af ao (by rw[hw (by simp[bO.cells?])];exact aX) bP aB bC fun i v af=>let⟨au,o,aa⟩:=an i v af;⟨au,o,aa.ext he⟩
 | ro af ao an cV=>
  refine .ro af ao (fun i v af=>?_) (Nat.lt_of_lt_of_le cV yh)
  obtain⟨au,o,aa⟩:=an i v af
  exact⟨au,by rw[Dr (w:=w) (by exact hw (by simp[bO.cells?]))];exact o,aa.ext he⟩
 | dead=>exact .dead
theorem k7.lt{P:Program}{base:Nat}{aj:bm}{w:World}{k:iR}{x:bO}(h:k7 P base aj w k x)(J:x.cells?≠none):k.g<w.heap.size:=by
 cases h with
 | own ag ar af ao aX bP aB bC an=>exact(Array.getElem?_eq_some_iff.1 aX).1
 | ro af ao an cV=>exact cV
 | dead=>simp[bO.cells?]at J
theorem ct.heap{P:Program}{base:Nat}{aj:bm}{H:ab}{w a6:World}(h:ct P base aj H w)(cO:a6.heap=w.heap):ct P base aj H a6:=
 ⟨h.pos,by rw[cO];exact h.size,h.eZ,fun b k x ag J=>(h.fc b k x ag J).gN (fun _ _ h=>h) (fun _=>by rw[cO]) (by rw[cO];exact Nat.le_refl _),h.inj⟩
theorem Step.drawn(aj:bm)(H:ab)(w:World)(n:Nat):Step aj H w aj H {w with drawn:=n}:=
 ⟨fun _ _ h=>h,fun _ _ h=> .inl h,Nat.le_refl _,fun b k h aQ=> .inr ⟨b,k,h,aQ,rfl⟩,rfl,rfl,rfl,Nat.le_refl _,fun _ _ _=>rfl⟩
def bm.put(aj:bm)(b:Nat)(k:iR):bm:=fun c=>if c=b then some k else aj c
theorem bm.nK(aj:bm)(b:Nat)(k:iR):aj.put b k b=some k:=by simp[bm.put]
theorem bm.lF(aj:bm){b c:Nat}(k:iR)(h:c≠b):aj.put b k c=aj c:=by simp[bm.put,h]
theorem ct.KH{P:Program}{base:Nat}{aj:bm}{H:ab}{w:World}(h:ct P base aj H w)(k:iR):∀b b_,aj b=some b_->aj.put H.length k b=some b_:=fun b b_ ag=>by
 rw[bm.lF _ _ (by have:=(h.eZ b b_ ag).2;omega)];exact ag
theorem w8{H:ab}{x:bO}{b:Nat}(h:b<H.length):(H++[x])[b]?=H[b]?:=List.getElem?_append_left h
theorem KZ(H:ab)(x:bO):(H++[x])[H.length]?=some x:=by simp
theorem BP{H:ab}{x:bO}{b:Nat}(h:hW (H++[x]) b)(ag:b≠H.length):hW H b:=by
 obtain⟨e,l,cs,h⟩:=h
 have aZ:b<(H++[x]).length:=(cJ.1 h).1
 simp at aZ
 exact⟨e,l,cs,by rwa[w8 (by omega)]at h⟩
theorem F3{H:ab}{x:bO}{b:Nat}(h:lR (H++[x]) b)(ag:b≠H.length):lR H b:=by
 obtain⟨y,cs,h,ae⟩:=h
 have aZ:b<(H++[x]).length:=(cJ.1 h).1
 simp at aZ
 exact⟨y,cs,by rwa[w8 (by omega)]at h,ae⟩
theorem ct.alloc{P:Program}{base:Nat}{aj:bm}{H:ab}{w:World}(h:ct P base aj H w){e:TypeId}{l:Bool}{cs:List Value}{cur:Array Value}{eu:Nat×Nat}{inf:TypeInfo}{R:Nat}
  (af:P.info? e=some inf)(ao:inf.size=R)(aB:mA eu cur.size)(bC:cs.length<=cur.size)(an:∀(i:Nat) (v:Value),cs[i]?=some v->∃au,cur[i]?=some au/\bo aj v au):
  ct P base (aj.put H.length ⟨w.heap.size,0,cur.size,R,l⟩) (H++[.own e l cs]) (w.alloc (.cells cur e eu))/\Step aj H w (aj.put H.length ⟨w.heap.size,0,cur.size,R,l⟩) (H++[.own e l cs]) (w.alloc (.cells cur e eu)):=by
 have hold:∀g,g<w.heap.size->(w.alloc (.cells cur e eu)).heap[g]?=w.heap[g]?:=fun g aX=>heap_alloc_old w _ aX
 have he:=h.KH ⟨w.heap.size,0,cur.size,R,l⟩
 constructor
 ·refine⟨by simp,by simp;have:=h.size;omega,fun b k ag=>?_,fun b k x ag J=>?_,fun b cy k b_ ag df cF aQ dK=>?_⟩
  ·by_cases gJ:b=H.length
   ·subst gJ;exact⟨h.pos,by simp⟩
   ·rw[bm.lF _ _ gJ]at ag;have:=h.eZ b k ag;simp;omega
  ·by_cases gJ:b=H.length
   ·subst gJ
    rw[bm.nK]at ag
    obtain rfl:=Option.some.inj ag
    rw[KZ]at J
    obtain rfl:=Option.some.inj J
    exact .own h.size rfl af ao (heap_alloc_new w _) rfl aB (by simpa using bC) fun i v ae=>let⟨au,o,aa⟩:=an i v ae;⟨au,by simpa using o,aa.ext he⟩
   ·rw[bm.lF _ _ gJ]at ag
    rw[w8 (h.eZ b k ag).2]at J
    exact(h.fc b k x ag J).gN he (fun yB=>hold _ ((h.fc b k x ag J).lt yB)) (by simp)
  ·by_cases gJ:b=H.length
   ·subst gJ
    rw[bm.nK]at ag
    obtain rfl:=Option.some.inj ag
    have vp:cy≠H.length:=fun e=>cF e.symm
    rw[bm.lF _ _ vp]at df
    obtain⟨y,e7,aI,ae⟩:=F3 dK vp
    have:=(h.fc cy b_ y df aI).lt (by rw[ae];simp)
    simp only;omega
   ·rw[bm.lF _ _ gJ]at ag
    have fF:=BP aQ gJ
    by_cases vp:cy=H.length
    ·subst vp
     rw[bm.nK]at df
     obtain rfl:=Option.some.inj df
     obtain⟨hH,NY,sU,aI⟩:=fF
     have:=(h.fc b k _ ag aI).lt (by simp[bO.cells?])
     simp only;omega
    ·rw[bm.lF _ _ vp]at df
     exact h.inj b cy k b_ ag df cF fF (F3 dK vp)
 ·refine⟨he,fun b k ag=>?_,by simp,fun b k ag aQ=>?_,rfl,rfl,rfl,by simp,fun g aX _=>hold g aX⟩
  ·by_cases gJ:b=H.length
   ·exact .inr (by omega)
   ·rw[bm.lF _ _ gJ]at ag;exact .inl ag
  ·by_cases gJ:b=H.length
   ·subst gJ;rw[bm.nK]at ag;obtain rfl:=Option.some.inj ag;exact .inl (Nat.le_refl _)
   ·rw[bm.lF _ _ gJ]at ag;exact .inr ⟨b,k,ag,BP aQ gJ,rfl⟩
def iE(w:World)(g:Nat)(x:Obj):World:={w with heap:=w.heap.setIfInBounds g x}
theorem Gq(w:World)(g:Nat)(x:Obj)(h:g<w.heap.size):(iE w g x).heap[g]?=some x:=by simp[iE,h]
theorem B_(w:World)(g i:Nat)(x:Obj)(h:i≠g):(iE w g x).heap[i]?=w.heap[i]?:=by simp[iE,Array.getElem?_setIfInBounds_ne (Ne.symm h)]
theorem Ca(w:World)(g:Nat)(x:Obj):(iE w g x).heap.size=w.heap.size:=by simp[iE]
theorem yI{H:ab}{b c:Nat}{x:bO}(h:hW (H.set b x) c)(J:hW H b):hW H c:=by
 by_cases ae:b=c
 ·subst ae;exact J
 ·obtain⟨e,l,cs,h⟩:=h
  exact⟨e,l,cs,by rwa[List.getElem?_set_ne ae]at h⟩
theorem F4{H:ab}{b c:Nat}{x:bO}(h:lR (H.set b x) c)(J:hW H b):lR H c:=by
 by_cases ae:b=c
 ·subst ae;exact J.live
 ·obtain⟨y,cs,h,cO⟩:=h
  exact⟨y,cs,by rwa[List.getElem?_set_ne ae]at h,cO⟩
theorem ct.put{P:Program}{base:Nat}{aj:bm}{H:ab}{w:World}(h:ct P base aj H w){b:Nat}{k:iR}{e:TypeId}{l:Bool}{cs eN:List Value}{lW:Array Value}{eu:Nat×Nat}
  (ag:aj b=some k)(J:H[b]?=some (.own e l cs))(pk:∃cur,w.heap[k.g]?=some (.cells cur e eu)/\lW.size=cur.size)(hlen:eN.length=cs.length)
  (an:∀(i:Nat) (v:Value),eN[i]?=some v->∃au,lW[k.U+i]?=some au/\bo aj v au):
  ct P base aj (H.set b (.own e l eN)) (iE w k.g (.cells lW e eu))/\Step aj H w aj (H.set b (.own e l eN)) (iE w k.g (.cells lW e eu)):=by
 obtain⟨cur,pk,cV⟩:=pk
 have ke:hW H b:=⟨e,l,cs,J⟩
 have aZ:k.g<w.heap.size:=(Array.getElem?_eq_some_iff.1 pk).1
 have df:b<H.length:=(h.eZ b k ag).2
 constructor
 ·refine⟨by simpa using h.pos,by rw[Ca];exact h.size,fun c cX ae=>by simpa using h.eZ c cX ae,fun c cX x ae iB=>?_,fun c dY cX vT ae g3 cF aQ dK=>h.inj c dY cX vT ae g3 cF (yI aQ ke) (F4 dK ke)⟩
  by_cases jS:b=c
  ·subst jS
   rw[ag]at ae
   obtain rfl:=Option.some.inj ae
   rw[List.getElem?_set_self df]at iB
   obtain rfl:=Option.some.inj iB
   cases h.fc b k _ ag J with
   | own th ar af ao aX bP aB bC Fx=>
    rw[pk]at aX
    injection aX with aX
    injection aX with mM xR qm
    subst mM;subst qm
    exact .own th ar af ao (Gq w _ _ aZ) (by omega) aB (by omega) an
  ·rw[List.getElem?_set_ne jS]at iB
   have oq:=h.fc c cX x ae iB
   refine oq.gN (fun _ _ h=>h) (fun yB=>B_ w _ _ _ ?_) (by rw[Ca];exact Nat.le_refl _)
   obtain⟨n6,xJ⟩:∃n6,x.cells?=some n6:=by cases av:x.cells? with | none=>exact absurd av yB | some q=>exact⟨q,rfl⟩
   exact fun e=>h.inj b c k cX ag ae jS ke ⟨x,n6,iB,xJ⟩ e.symm
 ·refine⟨fun _ _ h=>h,fun _ _ h=> .inl h,by simp,fun c cX ae aQ=> .inr ⟨c,cX,ae,yI aQ ke,rfl⟩,rfl,rfl,rfl,by rw[Ca];exact Nat.le_refl _,fun g aX cF=>?_⟩
  exact B_ w _ _ _ fun e=>cF b k ag ke e.symm
theorem ct.kill{P:Program}{base:Nat}{aj:bm}{H:ab}{w:World}(h:ct P base aj H w)(b:Nat)(ke:hW H b):ct P base aj (H.set b .dead) w/\Step aj H w aj (H.set b .dead) w:=by
 have df:b<H.length:=by obtain⟨e,l,cs,J⟩:=ke;exact(cJ.1 J).1
 constructor
 ·refine⟨by simpa using h.pos,h.size,fun c cX ae=>by simpa using h.eZ c cX ae,fun c cX x ae iB=>?_,fun c dY cX vT ae g3 cF aQ dK=>h.inj c dY cX vT ae g3 cF (yI aQ ke) (F4 dK ke)⟩
  by_cases jS:b=c
  ·subst jS
   rw[List.getElem?_set_self df]at iB
   obtain rfl:=Option.some.inj iB
   exact .dead
  ·rw[List.getElem?_set_ne jS]at iB
   exact h.fc c cX x ae iB
 ·exact⟨fun _ _ h=>h,fun _ _ h=> .inl h,by simp,fun c cX ae aQ=> .inr ⟨c,cX,ae,yI aQ ke,rfl⟩,rfl,rfl,rfl,Nat.le_refl _,fun _ _ _=>rfl⟩
theorem ct.Gc{P:Program}{base:Nat}{aj:bm}{H:ab}{w:World}(h:ct P base aj H w){b i:Nat}{k:iR}{e:TypeId}{l dn:Bool}{cs eN:List Value}{lW:Array Value}{eu:Nat×Nat}
  (ag:aj b=some k)(J:H[b]?=some (.own e l cs))(pk:∃cur,w.heap[k.g]?=some (.cells cur e eu)/\lW.size=cur.size)(bC:k.U+i+eN.length<=lW.size)
  (an:∀(j:Nat) (v:Value),eN[j]?=some v->∃au,lW[k.U+i+j]?=some au/\bo aj v au):
  ct P base (aj.put H.length ⟨k.g,k.U+i,k.N,k.R,dn⟩) (H.set b .dead++[.own e dn eN]) (iE w k.g (.cells lW e eu))/\
  Step aj H w (aj.put H.length ⟨k.g,k.U+i,k.N,k.R,dn⟩) (H.set b .dead++[.own e dn eN]) (iE w k.g (.cells lW e eu)):=by
 obtain⟨cur,pk,cV⟩:=pk
 have ke:hW H b:=⟨e,l,cs,J⟩
 have aZ:k.g<w.heap.size:=(Array.getElem?_eq_some_iff.1 pk).1
 have df:b<H.length:=(h.eZ b k ag).2
 have he:=h.KH ⟨k.g,k.U+i,k.N,k.R,dn⟩
 have hlen:(H.set b .dead).length=H.length:=by simp
 have EL:∀{c},c≠H.length->lR (H.set b .dead++[.own e dn eN]) c->c≠b/\lR H c:=by
  intro c ae ar
  have o:=F3 ar (by rw[hlen];exact ae)
  refine⟨fun e=>?_,F4 o ke⟩
  subst e
  obtain⟨y,e7,aI,LZ⟩:=o
  rw[List.getElem?_set_self df]at aI
  obtain rfl:=Option.some.inj aI
  simp[bO.cells?]at LZ
 have yh:(iE w k.g (.cells lW e eu)).heap.size=w.heap.size:=Ca ..
 have AZ:∀c cX x,aj c=some cX->H[c]?=some x->c≠b->k7 P base (aj.put H.length ⟨k.g,k.U+i,k.N,k.R,dn⟩) (iE w k.g (.cells lW e eu)) cX x:=by
  intro c cX x ae iB jS
  have oq:=h.fc c cX x ae iB
  refine oq.gN he (fun yB=>B_ w _ _ _ ?_) (by rw[yh];exact Nat.le_refl _)
  obtain⟨n6,xJ⟩:∃n6,x.cells?=some n6:=by cases av:x.cells? with | none=>exact absurd av yB | some q=>exact⟨q,rfl⟩
  exact fun e=>h.inj b c k cX ag ae (Ne.symm jS) ke ⟨x,n6,iB,xJ⟩ e.symm
 constructor
 ·refine⟨by simp,by rw[yh];exact h.size,fun c cX ae=>?_,fun c cX x ae iB=>?_,fun c dY cX vT ae g3 cF aQ dK=>?_⟩
  ·by_cases fX:c=H.length
   ·subst fX;exact⟨h.pos,by simp⟩
   ·rw[bm.lF _ _ fX]at ae;have:=h.eZ c cX ae;simp;omega
  ·by_cases fX:c=H.length
   ·subst fX
    rw[bm.nK]at ae
    obtain rfl:=Option.some.inj ae
    rw[<-hlen,KZ]at iB
    obtain rfl:=Option.some.inj iB
    cases h.fc b k _ ag J with
    | own th ar af ao aX bP aB EP Fx=>
     rw[pk]at aX
     injection aX with aX
     injection aX with mM xR qm
     subst mM;subst qm
     exact .own th rfl af ao (Gq w _ _ aZ) (by simp only;omega) aB (by simp only;omega) fun j v aY=>let⟨au,o,aa⟩:=an j v aY;⟨au,o,aa.ext he⟩
   ·rw[bm.lF _ _ fX]at ae
    rw[w8 (by rw[hlen];exact(h.eZ c cX ae).2)]at iB
    by_cases jS:b=c
    ·subst jS
     rw[List.getElem?_set_self df]at iB
     obtain rfl:=Option.some.inj iB
     exact .dead
    ·rw[List.getElem?_set_ne jS]at iB
     exact AZ c cX x ae iB (Ne.symm jS)
  ·by_cases fX:c=H.length
   ·subst fX
    rw[bm.nK]at ae
    obtain rfl:=Option.some.inj ae
    have vs:dY≠H.length:=fun e=>cF e.symm
    rw[bm.lF _ _ vs]at g3
    obtain⟨o,aa⟩:=EL vs dK
    exact h.inj b dY k vT ag g3 (Ne.symm o) ke aa
   ·rw[bm.lF _ _ fX]at ae
    obtain⟨o,aa⟩:=EL fX aQ.live
    have rQ:=BP aQ (by rw[hlen];exact fX)
    have MG:hW H c:=by
     obtain⟨hH,NY,sU,aI⟩:=rQ
     exact⟨hH,NY,sU,by rwa[List.getElem?_set_ne (Ne.symm o)]at aI⟩
    by_cases vs:dY=H.length
    ·subst vs
     rw[bm.nK]at g3
     obtain rfl:=Option.some.inj g3
     exact h.inj c b cX k ae ag o MG ke.live
    ·rw[bm.lF _ _ vs]at g3
     exact h.inj c dY cX vT ae g3 cF MG (EL vs dK).2
 ·refine⟨he,fun c cX ae=>?_,by simp,fun c cX ae aQ=>?_,rfl,rfl,rfl,by rw[yh];exact Nat.le_refl _,fun g aX cF=>B_ w _ _ _ fun e=>cF b k ag ke e.symm⟩
  ·by_cases fX:c=H.length
   ·exact .inr (by omega)
   ·rw[bm.lF _ _ fX]at ae;exact .inl ae
  ·by_cases fX:c=H.length
   ·subst fX;rw[bm.nK]at ae;obtain rfl:=Option.some.inj ae;exact .inr ⟨b,k,ag,ke,rfl⟩
   ·rw[bm.lF _ _ fX]at ae
    exact .inr ⟨c,cX,ae,yI (BP aQ (by rw[hlen];exact fX)) ke,rfl⟩
theorem fP{P:Program}{α β:Type}(x:Sem α)(f:α->Sem β):dH P (x>>=f)=(dH P x).bind fun a=>dH P (f a):=by
 show dH P (x.bind f)=_
 induction x with
 | pure a=>rfl
 | program k a1=>simp only[Sem.bind,dH];exact a1 P
 | mark m k a1=>simp only[Sem.bind,dH];exact a1
 | _=>simp[Sem.bind,dH]
theorem ff{P:Program}{α:Type}(a:α):dH P (pure a:Sem α)=some a:=rfl
def bA(P:Program)(t:TypeId):Option Nat:=(P.info? t).map (·.size)
def dD(P:Program)(t:TypeId):Option Value:=(P.info? t).bind (·.zero)
def bytes?(P:Program)(t:TypeId):Option Nat:=(P.info? t).map (·.bytes)
theorem oT{P:Program}(t:TypeId):dH P (underlying t)=P.underlying t:=by
 unfold underlying
 rw[fP]
 show(some P).bind _=_
 simp only[Option.bind_some]
 cases h:P.underlying t<;>rfl
theorem OV{P:Program}(t:TypeId):dH P (typeInfo t)=P.info? t:=by
 unfold typeInfo
 rw[fP]
 show(some P).bind _=_
 simp only[Option.bind_some]
 cases h:P.info? t<;>rfl
theorem y4{P:Program}(t:TypeId):dH P (sizeOf t)=bA P t:=by
 unfold sizeOf
 rw[fP,OV]
 cases h:P.info? t<;>simp[bA,h,ff]
theorem Gp{P:Program}(t:TypeId):dH P (zeroValue t)=dD P t:=by
 unfold zeroValue
 rw[fP,OV]
 cases h:P.info? t with
 | none=>simp[dD,h]
 | some i=>cases aM:i.zero<;>simp[dD,h,aM]<;>rfl
theorem OT{P:Program}(t:TypeId):dH P (isAgg t)=(P.underlying t).map fun d=>match d with | .struct _ | .array _ _=>true | _=>false:=by
 unfold isAgg
 rw[fP,oT]
 cases h:P.underlying t with
 | none=>rfl
 | some d=>cases d<;>rfl
theorem kH{P:Program}{t:TypeId}{n:Nat}(h:bA P t=some n)(w:World):(sizeOf t).run P w= .ok n w:=sd _ _ (by rw[y4];exact h) w
theorem Cl{P:Program}{t:TypeId}{z:Value}(h:dD P t=some z)(w:World):(zeroValue t).run P w= .ok z w:=sd _ _ (by rw[Gp];exact h) w
theorem fl.set{aj:bm}{xs bS:Array Value}(h:fl aj xs bS)(n:Nat){x y:Value}(J:bo aj x y):fl aj (xs.setIfInBounds n x) (bS.setIfInBounds n y):=by
 have:=(h.toList.set n J).toArray
 rw[show xs.setIfInBounds n x=(xs.toList.set n x).toArray from by apply Array.ext';simp,show bS.setIfInBounds n y=(bS.toList.set n y).toArray from by apply Array.ext';simp]
 exact this
theorem KW{aj:bm}(off:Nat):∀(l dn:List Value) (j:Nat) (cs eN:Array Value),c0 aj l dn->fl aj cs eN->
  fl aj ((l.zipIdx j).foldl (fun cs (rh:Value×Nat)=>cs.setIfInBounds (off+rh.2) rh.1) cs) ((dn.zipIdx j).foldl (fun cs (rh:Value×Nat)=>cs.setIfInBounds (off+rh.2) rh.1) eN)
 | [],[],_,_,_,_,h=>h
 | [],_::_,_,_,_,ar,_=>by simp[c0]at ar
 | _::_,[],_,_,_,ar,_=>by simp[c0]at ar
 | x::l,y::dn,j,cs,eN,ar,h=>by
  simp only[List.zipIdx_cons,List.foldl_cons]
  refine KW off l dn (j+1) _ _ ⟨by simpa using ar.1,fun i v au an dR=>ar.2 (i+1) v au (by simpa using an) (by simpa using dR)⟩ (h.set _ ?_)
  exact ar.2 0 x y rfl rfl
theorem Ai{aj:bm}{aP cH:Operand->Value}(place:Nat->Option (Nat×Nat)):∀(a5:List (Nat×Operand)) (cs eN out:Array Value),(∀p∈a5,bo aj (aP p.2) (cH p.2))->fl aj cs eN->
  Instr.fill place cs (a5.map fun p=>(p.1,aP p.2))=some out->∃ho,Instr.fill place eN (a5.map fun p=>(p.1,cH p.2))=some ho/\fl aj out ho
 | [],cs,eN,out,_,h,aB=>by
  simp[Instr.fill]at aB
  subst aB
  exact⟨eN,rfl,h⟩
 | (i,x)::a5,cs,eN,out,aU,h,aB=>by
  simp only[List.map_cons,Instr.fill]at aB⊢
  cases iN:place i with
  | none=>simp[iN]at aB
  | some os=>
   obtain⟨off,size⟩:=os
   simp only[iN]at aB⊢
   have an:=(aU (i,x) (List.mem_cons_self)).cells
   by_cases ae:((aP x).cells.size≠size || decide (off+(aP x).cells.size>cs.size))=true
   ·rw[if_pos ae]at aB;cases aB
   ·rw[if_neg ae]at aB
    rw[if_neg (by rw[<-an.1,<-h.1];exact ae)]
    refine Ai place a5 _ _ out (fun p hm=>aU p (List.mem_cons_of_mem _ hm)) ?_ aB
    have:=KW off (aP x).cells.toList (cH x).cells.toList 0 cs eN an.toList h
    rw[<-Array.foldl_toList,<-Array.foldl_toList,Array.toList_zipIdx,Array.toList_zipIdx]
    exact this
theorem CS{aj:bm}{z:Value}(aM:flat z=true):fl aj z.cells z.cells:=(uT aj aM).cells
theorem Rr{P:Program}{aj:bm}{aP cH:Operand->Value}{t:TypeId}{a5:Array (Nat×Operand)}{z v:Value}(aM:dD P t=some z)(dS:flat z=true)(aU:∀p∈a5,bo aj (aP p.2) (cH p.2))
  (h:dH P (Instr.build t (a5.map fun p=>(p.1,aP p.2)))=some v):∃au,dH P (Instr.build t (a5.map fun p=>(p.1,cH p.2)))=some au/\bo aj v au:=by
 have rR:∀p∈a5.toList,bo aj (aP p.2) (cH p.2):=fun p hm=>aU p (by simpa using hm)
 have ar:∀r:Operand->Value,(a5.map fun p=>(p.1,r p.2)).toList=a5.toList.map fun p=>(p.1,r p.2):=fun r=>by simp
 unfold Instr.build at h⊢
 simp only[fP,Gp,aM,Option.bind_some,oT]at h⊢
 cases hu:P.underlying t with
 | none=>simp[hu]at h
 | some d=>
  simp only[hu,Option.bind_some]at h⊢
  cases d with
  | struct fields=>
   simp only[fP]at h⊢
   cases hm:dH P (fields.mapM fun f=>do pure (f.offset,<-sizeOf f.type))with
   | none=>rw[hm]at h;simp at h
   | some lE=>
    rw[hm]at h
    simp only[Option.bind_some,ar]at h⊢
    cases aB:Instr.fill (fun x=>lE[x]?) z.cells (a5.toList.map fun p=>(p.1,aP p.2))with
    | none=>rw[aB]at h;simp[dH,stuck]at h
    | some out=>
     rw[aB]at h
     obtain⟨ho,o,aa⟩:=Ai (cH:=cH) _ a5.toList _ _ out rR (CS dS) aB
     rw[o]
     simp only[ff,Option.some.injEq]at h⊢
     subst h
     exact⟨_,rfl,.agg aa.1 aa.2⟩
  | array n elem=>
   simp only[fP,y4]at h⊢
   cases ao:bA P elem with
   | none=>rw[ao]at h;simp at h
   | some size=>
    rw[ao]at h
    simp only[Option.bind_some,ar]at h⊢
    cases aB:Instr.fill (fun i=>some (i*size,size)) z.cells (a5.toList.map fun p=>(p.1,aP p.2))with
    | none=>rw[aB]at h;simp[dH,stuck]at h
    | some out=>
     rw[aB]at h
     obtain⟨ho,o,aa⟩:=Ai (cH:=cH) _ a5.toList _ _ out rR (CS dS) aB
     rw[o]
     simp only[ff,Option.some.injEq]at h⊢
     subst h
     exact⟨_,rfl,.agg aa.1 aa.2⟩
  | _=>simp[dH,stuck]at h
theorem fl.extract{aj:bm}{xs bS:Array Value}(h:fl aj xs bS)(i j:Nat):fl aj (xs.extract i j) (bS.extract i j):=by
 have:=((h.toList.take j).drop i).toArray
 rw[show xs.extract i j=((xs.toList.take j).drop i).toArray from by apply Array.ext';simp[Array.toList_extract,List.drop_take],show bS.extract i j=((bS.toList.take j).drop i).toArray from by apply Array.ext';simp[Array.toList_extract,List.drop_take]]
 exact this
theorem OJ{P:Program}{aj:bm}{t:TypeId}{xs bS:Array Value}{off:Nat}{v:Value}(J:fl aj xs bS)(h:dH P (part t xs off)=some v):∃au,dH P (part t bS off)=some au/\bo aj v au:=by
 unfold part at h⊢
 simp only[fP]at h⊢
 cases aL:dH P (isAgg t)with
 | none=>rw[aL]at h;simp at h
 | some b=>
  rw[aL]at h
  simp only[Option.bind_some]at h⊢
  cases b
  ·simp only[Bool.false_eq_true,if_false]at h⊢
   cases ae:xs[off]? with
   | none=>simp[ae,dH,stuck]at h
   | some c=>
    simp only[ae,ff,Option.some.injEq]at h
    subst h
    obtain⟨au,o,aa⟩:=J.get ae
    simp only[o,ff]
    exact⟨_,rfl,aa⟩
  ·simp only[if_true,fP,y4]at h⊢
   cases ao:bA P t with
   | none=>rw[ao]at h;simp at h
   | some n=>
    rw[ao]at h
    simp only[Option.bind_some,ff,Option.some.injEq]at h⊢
    subst h
    exact⟨_,rfl,.agg (J.extract _ _).1 (J.extract _ _).2⟩
def r4(P:Program)(t:TypeId):Bool:=match P.underlying t with
 | some (.int _)=>true
 | _=>false
def bW(P:Program)(U:Oper):Bool:=
 match U.op with
 | .move _ | .assign _ | .pick .. | .build .. | .nilCheck _ | .fieldAddr .. | .field .. | .indexAddr .. | .index .. | .extract .. | .makeFunc .. | .makeInterface .. | .binOp .. | .unOp .. =>true
 | .call {callee:= .builtin .len,.. } | .call {callee:= .builtin .max,.. } | .call {callee:= .builtin .min,.. }=>true
 | .convert s t _=>r4 P s&&r4 P t
 | _=>false
inductive hV (P:Program) (aP:Operand->Value) (U:Oper):Value->Prop
 | move {x:Operand} (h:U.op= .move x):hV P aP U (aP x)
 | assign {x:Operand} (h:U.op= .assign x):hV P aP U (aP x)
 | pick {c a b:Operand} {t:Bool} (h:U.op= .pick c a b) (ae:aP c= .bool t):hV P aP U (if t then aP a else aP b)
 | pure {v:Value} (a_:bW P U=true) (aB:(U.op.operands.all fun x=>flat (aP x))=true) (an:flat v=true) (h:dH P (execOp aP U)=some (.value v)):hV P aP U v
 | build {t:TypeId} {a5:Array (Nat×Operand)} {z v:Value} (h:U.op= .build t a5) (aM:dD P t=some z) (dS:flat z=true) (al:dH P (Instr.build t (a5.map fun p=>(p.1,aP p.2)))=some v):hV P aP U v
 | nilCheck {x:Operand} {a:Addr} (h:U.op= .nilCheck x) (J:aP x= .pointer (some a)):hV P aP U (aP x)
 | fieldAddr {s:TypeId} {x:Operand} {f b i n:Nat} {j8:Array Field} {fd:Field} (h:U.op= .fieldAddr s x f) (hu:P.underlying s=some (.struct j8)) (aB:j8[f]?=some fd) (ao:bA P fd.type=some (n+1))
   (J:aP x= .pointer (some ⟨b,i,none⟩)):hV P aP U (.pointer (some ⟨b,i+fd.offset,none⟩))
 | field {t:TypeId} {x:Operand} {f:Nat} {cs:Array Value} {v:Value} (h:U.op= .field t x f) (J:aP x= .agg cs) (al:dH P (Instr.field t (.agg cs) f)=some v):hV P aP U v
 | NP {t e:TypeId} {x ew:Operand} {b i len cap R:Nat} {k:IntKind} {n:Int} (h:U.op= .indexAddr t x ew) (hu:P.underlying t=some (.slice e)) (ao:bA P e=some R) (J:aP x= .slice (some ⟨b,i,none⟩) len cap)
   (af:aP ew= .int k n) (aH:0<=n) (o:n<len):hV P aP U (.pointer (some ⟨b,i+n.toNat*R,none⟩))
 | XC {t e:TypeId} {x ew:Operand} {b i len R:Nat} {k:IntKind} {n:Int} (h:U.op= .indexAddr t x ew) (hu:P.underlying t=some (.array len e)) (ao:bA P e=some R) (J:aP x= .pointer (some ⟨b,i,none⟩))
   (af:aP ew= .int k n) (aH:0<=n) (o:n<len):hV P aP U (.pointer (some ⟨b,i+n.toNat*R,none⟩))
 | index {t e:TypeId} {x ew:Operand} {len R:Nat} {k:IntKind} {n:Int} {cs:Array Value} {v:Value} (h:U.op= .index t x ew) (hu:P.underlying t=some (.array len e)) (ao:bA P e=some R) (J:aP x= .agg cs)
   (af:aP ew= .int k n) (aH:0<=n) (o:n<len) (al:dH P (part e cs (n.toNat*R))=some v):hV P aP U v
 | extract {x:Operand} {i:Nat} {aG:Array Value} {v:Value} (h:U.op= .extract x i) (J:aP x= .tuple aG) (an:aG[i]?=some v):hV P aP U v
 | N3 {x:Operand} {t e:TypeId} {a:Option Addr} {n c:Nat} (h:U.op= .call {callee:= .builtin .len,args:= #[x],argTypes:= #[t]}) (hu:P.underlying t=some (.slice e)) (J:aP x= .slice a n c):hV P aP U (.int .i64 n)
 | makeFunc {fn:Fn} {a b:Array Operand} (h:U.op= .makeFunc fn a b):hV P aP U (.func fn (a.map aP) (b.map aP))
 | Oh {t:TypeId} {x:Operand} (h:U.op= .makeInterface t x) (ae:P.concrete t=true):hV P aP U (.iface t (aP x))
 | KG {t e pS:TypeId} {x y:Operand} {a:Option Addr} {n c:Nat} (h:U.op= .binOp .eql t x y pS) (hu:P.underlying t=some (.slice e)) (J:aP x= .slice a n c) (aI:aP y= .slice none 0 0):hV P aP U (.bool a.isNone)
 | Ov {t e pS:TypeId} {x y:Operand} {a:Option Addr} {n c:Nat} (h:U.op= .binOp .neq t x y pS) (hu:P.underlying t=some (.slice e)) (J:aP x= .slice a n c) (aI:aP y= .slice none 0 0):hV P aP U (.bool (!a.isNone))
theorem fl.map{aj:bm}{aP cH:Operand->Value}(xs:Array Operand)(h:∀x∈xs,bo aj (aP x) (cH x)):fl aj (xs.map aP) (xs.map cH):=by
 refine⟨by simp,fun i v au an dR=>?_⟩
 simp only[Array.getElem?_map,Option.map_eq_some_iff]at an dR
 obtain⟨x,J,rfl⟩:=an
 obtain⟨y,aI,rfl⟩:=dR
 rw[J]at aI
 obtain rfl:=Option.some.inj aI
 exact h x (Array.mem_of_getElem? J)
theorem bo.oQ{aj:bm}{k:IntKind}{n:Int}{v:Value}(h:bo aj (.int k n) v):v= .int k n:=by cases h;rfl
theorem bo.J1{aj:bm}{b:Bool}{v:Value}(h:bo aj (.bool b) v):v= .bool b:=by cases h;rfl
theorem bo.sc{aj:bm}{b i:Nat}{v:Value}(h:bo aj (.pointer (some ⟨b,i,none⟩)) v):∃k,aj b=some k/\v= .pointer (some ⟨k.g,k.U+i,none⟩):=by
 cases h with
 | ptr h=>exact⟨_,h,rfl⟩
theorem bo.JP{aj:bm}{cs:Array Value}{v:Value}(h:bo aj (.agg cs) v):∃eN,v= .agg eN/\fl aj cs eN:=by
 cases h with
 | agg ar h=>exact⟨_,rfl,ar,h⟩
theorem bo.ack{aj:bm}{cs:Array Value}{v:Value}(h:bo aj (.tuple cs) v):∃eN,v= .tuple eN/\fl aj cs eN:=by
 cases h with
 | tuple ar h=>exact⟨_,rfl,ar,h⟩
theorem bo.Ct{aj:bm}{b i len cap:Nat}{v:Value}(h:bo aj (.slice (some ⟨b,i,none⟩) len cap) v)(aH:0<len):
  ∃k dJ,aj b=some k/\v= .slice (some ⟨k.g,k.U+i,none⟩) len dJ/\len<=cap/\cap<=dJ/\(k.loose=false->dJ=cap)/\(k.loose=true->k.U+i+dJ*k.R<=k.N):=by
 cases h with
 | void=>omega
 | empty=>omega
 | slice h ae ar gb J bP=>exact⟨_,_,h,rfl,ar,gb,J,bP⟩
theorem bo.qU{aj:bm}{a:Option Addr}{len cap:Nat}{v:Value}(h:bo aj (.slice a len cap) v):∃fC dJ,v= .slice fC len dJ/\len<=dJ/\len<=cap/\cap<=dJ/\fC.isNone=a.isNone:=by
 cases h with
 | r_=>exact⟨_,_,rfl,Nat.le_refl _,Nat.le_refl _,Nat.le_refl _,rfl⟩
 | void=>exact⟨_,_,rfl,Nat.le_refl _,Nat.le_refl _,Nat.le_refl _,rfl⟩
 | empty=>exact⟨_,_,rfl,Nat.zero_le _,Nat.le_refl _,Nat.zero_le _,rfl⟩
 | slice h ae ar gb J bP=>exact⟨_,_,rfl,Nat.le_trans ar gb,ar,gb,rfl⟩
theorem p3{g U n:Nat}:(⟨g,U,none⟩:Addr).add n=⟨g,U+n,none⟩:=by unfold Addr.add;split<;>simp_all
theorem Ph{P:Program}(w:World)(d:Nat)(t e:TypeId)(a:Option Addr)(n c:Nat)(h:P.underlying t=some (.slice e)):
  (Op.equalIn (d+1) t (.slice a n c) (.slice none 0 0)).run P w= .ok a.isNone w:=by
 cases a<;>simp[Op.equalIn,run_underlying h]
theorem abi{P:Program}(w:World)(t e:TypeId)(a:Option Addr)(n c:Nat)(h:P.underlying t=some (.slice e)):
  (binOp .eql t (.slice a n c) (.slice none 0 0)).run P w= .ok (.bool a.isNone) w:=by
 simp only[binOp]
 simp[Op.equal,Op.maxDepth,Ph w 9999 t e a n c h]
theorem abj{P:Program}(w:World)(t e:TypeId)(a:Option Addr)(n c:Nat)(h:P.underlying t=some (.slice e)):
  (binOp .neq t (.slice a n c) (.slice none 0 0)).run P w= .ok (.bool (!a.isNone)) w:=by
 simp only[binOp]
 simp[Op.equal,Op.maxDepth,Ph w 9999 t e a n c h]
theorem DI{P:Program}{aP cH:Operand->Value}{U:Oper}{v:Value}{aj:bm}(h:hV P aP U v)(dz:∀x∈U.op.operands,bo aj (aP x) (cH x))(w:World):
  ∃au,(execOp cH U).run P w= .ok (.value au) w/\bo aj v au:=by
 cases h with
 | move h=>exact⟨_,by simp[execOp,h],dz _ (by simp[h,Op.operands])⟩
 | assign h=>exact⟨_,by simp[execOp,h],dz _ (by simp[h,Op.operands])⟩
 | pick h ae=>
  rename_i c a b t
  have o:=(ae▸dz c (by simp[h,Op.operands])).J1
  refine⟨if t then cH a else cH b,by simp[execOp,h,o,asBool],?_⟩
  cases t
  ·exact dz b (by simp[h,Op.operands])
  ·exact dz a (by simp[h,Op.operands])
 | pure a_ aB an h=>
  have he:execOp aP U=execOp cH U:=by
   refine execOp_congr U (fun cs b e=>?_) fun x J=>(KU (by simpa using Array.all_eq_true'.1 aB x J) (dz x J)).symm
   simp[bW,e]at a_
  exact⟨v,sd _ _ (he▸h) w,uT aj an⟩
 | build h aM dS al=>
  rename_i t a5 z
  obtain⟨au,o,aa⟩:=Rr (cH:=cH) aM dS (fun p aU=>dz p.2 (by simp[h,Op.operands];exact⟨p.1,by simpa using aU⟩)) al
  exact⟨au,by simp[execOp,h,sd _ _ o w],aa⟩
 | nilCheck h J=>
  rename_i x a
  have o:=dz x (by simp[h,Op.operands])
  rw[J]at o⊢
  obtain⟨fC,he⟩:∃fC,cH x= .pointer (some fC):=by
   generalize cH x=u at o
   cases o<;>exact⟨_,rfl⟩
  exact⟨cH x,by simp[execOp,h,he],o⟩
 | fieldAddr h hu aB ao J=>
  rename_i s x f b i n j8 fd
  obtain⟨k,ak,he⟩:=(J▸dz x (by simp[h,Op.operands])).sc
  refine⟨_,?_,.ptr (i:=i+fd.offset) ak⟩
  simp[execOp,h,he,Instr.fieldAt,run_underlying hu,aB,Instr.sureAddr,fieldPlace,kH ao,p3,Nat.add_assoc]
 | field h J al=>
  rename_i t x f cs
  obtain⟨eN,he,xD⟩:=(J▸dz x (by simp[h,Op.operands])).JP
  unfold Instr.field at al
  simp only[fP,oT]at al
  cases hu:P.underlying t with
  | none=>simp[hu]at al
  | some d=>
   simp only[hu,Option.bind_some]at al
   cases d with
   | struct fields=>
    simp only at al
    cases oA:fields[f]? with
    | none=>simp[oA,dH,stuck]at al
    | some fd=>
     simp only[oA,asAgg,fP,ff,Option.bind_some]at al
     obtain⟨au,o,aa⟩:=OJ xD al
     exact⟨au,by simp[execOp,h,he,Instr.field,run_underlying hu,oA,asAgg,sd _ _ o w],aa⟩
   | _=>simp[dH,stuck]at al
 | NP h hu ao J af aH o=>
  rename_i t e x ew b i len cap R k n
  obtain⟨ZF,dJ,ak,he,-⟩:=(J▸dz x (by simp[h,Op.operands])).Ct (by omega)
  have gz:=(af▸dz ew (by simp[h,Op.operands])).oQ
  refine⟨_,?_,.ptr (i:=i+n.toNat*R) ak⟩
  simp[execOp,h,he,gz,Instr.indexAt,asIntOf,run_underlying hu,kH ao,aH,o,p3,Nat.add_assoc]
 | XC h hu ao J af aH o=>
  rename_i t e x ew b i len R k n
  obtain⟨ZF,ak,he⟩:=(J▸dz x (by simp[h,Op.operands])).sc
  have gz:=(af▸dz ew (by simp[h,Op.operands])).oQ
  refine⟨_,?_,.ptr (i:=i+n.toNat*R) ak⟩
  simp[execOp,h,he,gz,Instr.indexAt,Instr.sureAddr,asIntOf,run_underlying hu,kH ao,aH,o,p3,Nat.add_assoc]
 | index h hu ao J af aH o al=>
  rename_i t e x ew len R k n cs
  obtain⟨eN,he,xD⟩:=(J▸dz x (by simp[h,Op.operands])).JP
  have gz:=(af▸dz ew (by simp[h,Op.operands])).oQ
  obtain⟨au,aU,aa⟩:=OJ xD al
  exact⟨au,by simp[execOp,h,he,gz,Instr.index,asIntOf,run_underlying hu,kH ao,aH,o,sd _ _ aU w],aa⟩
 | extract h J an=>
  rename_i x i aG
  obtain⟨eN,he,xD⟩:=(J▸dz x (by simp[h,Op.operands])).ack
  obtain⟨au,o,aa⟩:=xD.get an
  exact⟨au,by simp[execOp,h,he,Instr.extract,o],aa⟩
 | N3 h hu J=>
  rename_i x t e a n c
  obtain⟨fC,dY,he,-⟩:=(J▸dz x (by simp[h,Op.operands,Call.operands])).qU
  exact⟨_,by simp[execOp,h,he,resolve,invoke,builtin,Builtin.len_,run_underlying hu,goInt],.int _ _⟩
 | makeFunc h=>
  rename_i fn a b
  have o:=fl.map a (aj:=aj) (aP:=aP) (cH:=cH) fun x J=>dz x (by simp[h,Op.operands,J])
  have aa:=fl.map b (aj:=aj) (aP:=aP) (cH:=cH) fun x J=>dz x (by simp[h,Op.operands,J])
  exact⟨_,by simp[execOp,h,Instr.makeFunc],.func fn o.1 o.2 aa.1 aa.2⟩
 | Oh h ae=>
  rename_i t x
  exact⟨_,by simp[execOp,h,run_makeInterface w t _ ae],.iface t (dz x (by simp[h,Op.operands]))⟩
 | KG h hu J aI=>
  rename_i t e pS x y a n c
  obtain⟨fC,dY,he,-,-,-,aJ⟩:=(J▸dz x (by simp[h,Op.operands])).qU
  have qC:=Aj rfl (aI▸dz y (by simp[h,Op.operands]))
  refine⟨.bool a.isNone,?_,.bool _⟩
  rw[<-aJ]
  simp[execOp,h,he,qC,eqGuard,abi w t e fC n dY hu]
 | Ov h hu J aI=>
  rename_i t e pS x y a n c
  obtain⟨fC,dY,he,-,-,-,aJ⟩:=(J▸dz x (by simp[h,Op.operands])).qU
  have qC:=Aj rfl (aI▸dz y (by simp[h,Op.operands]))
  refine⟨.bool (!a.isNone),?_,.bool _⟩
  rw[<-aJ]
  simp[execOp,h,he,qC,eqGuard,abj w t e fC n dY hu]
def dr(P:Program)(t:TypeId):Option Bool:=(P.underlying t).map fun d=>match d with | .struct _ | .array _ _=>true | _=>false
theorem Ck{P:Program}{t:TypeId}{b:Bool}(h:dr P t=some b)(w:World):(isAgg t).run P w= .ok b w:=sd _ _ (by rw[OT];exact h) w
def bO.elem?:bO->Option TypeId
 | .own e _ _=>some e
 | .ro e _=>some e
 | .dead=>none
theorem ct.cell{P:Program}{base:Nat}{aj:bm}{H:ab}{w:World}(h:ct P base aj H w){b j:Nat}{k:iR}{x:bO}{cs:List Value}{v:Value}(ag:aj b=some k)(J:H[b]?=some x)(ae:x.cells?=some cs)
  (aY:cs[j]?=some v):∃au,w.cell? ⟨k.g,k.U+j,none⟩=some au/\bo aj v au:=by
 cases h.fc b k x ag J with
 | own th ar af ao aX bP aB bC an=>
  simp only[bO.cells?,Option.some.injEq]at ae
  subst ae
  obtain⟨au,o,aa⟩:=an j v aY
  exact⟨au,by simp[World.cell?,aX,o],aa⟩
 | ro af ao an cV=>
  simp only[bO.cells?,Option.some.injEq]at ae
  subst ae
  exact an j v aY
 | dead=>simp[bO.cells?]at ae
theorem ct.cells{P:Program}{base:Nat}{aj:bm}{H:ab}{w:World}(h:ct P base aj H w){b i n:Nat}{k:iR}{x:bO}{cs:List Value}(ag:aj b=some k)(J:H[b]?=some x)(ae:x.cells?=some cs)
  (bC:i+n<=cs.length):∃aG:List Value,aG.length=n/\(∀(j:Nat) (v:Value),aG[j]?=some v->w.cell? ((⟨k.g,k.U+i,none⟩:Addr).add j)=some v)/\c0 aj ((cs.drop i).take n) aG:=by
 have key:∀j,j<n->∃v au,cs[i+j]?=some v/\w.cell? ⟨k.g,k.U+(i+j),none⟩=some au/\bo aj v au:=fun j aY=>by
  have aZ:i+j<cs.length:=by omega
  obtain⟨au,o,aa⟩:=h.cell ag J ae (bz aZ)
  exact⟨_,au,bz aZ,o,aa⟩
 refine⟨(List.range n).map fun j=>(w.cell? ⟨k.g,k.U+(i+j),none⟩).getD undef,by simp,fun j v aY=>?_,?_,fun j v au an dR=>?_⟩
 ·have aZ:j<n:=by have:=(cJ.1 aY).1;simpa using this
  obtain⟨_,au,_,o,_⟩:=key j aZ
  simp[aZ,o]at aY
  rw[p3,Nat.add_assoc,o,aY]
 ·simp;omega
 ·have aZ:j<n:=by have:=(cJ.1 dR).1;simpa using this
  obtain⟨u,Qh,aH,o,aa⟩:=key j aZ
  simp[aZ,o]at dR
  rw[List.getElem?_take_of_lt aZ,List.getElem?_drop,aH]at an
  cases an
  subst dR
  exact aa
def dp(cs:List Value)(i:Nat)(aG:List Value):List Value:=cs.take i++aG++cs.drop (i+aG.length)
theorem nN{cs aG:List Value}{i:Nat}(h:i+aG.length<=cs.length):(dp cs i aG).length=cs.length:=by simp[dp];omega
theorem abY(cs:List Value)(i:Nat):dp cs i []=cs:=by simp[dp]
theorem abZ{cs:List Value}{i:Nat}(v:Value)(h:i<cs.length):dp cs i [v]=cs.set i v:=by
 simp only[dp,List.length_cons,List.length_nil]
 rw[List.set_eq_take_append_cons_drop,if_pos h]
 simp
theorem abX(cs aG:List Value)(i:Nat)(v:Value)(h:i+1+aG.length<=cs.length):dp (cs.set i v) (i+1) aG=dp cs i (v::aG):=by
 simp only[dp,List.length_cons]
 rw[List.set_eq_take_append_cons_drop,if_pos (by omega)]
 have o:(cs.take i).length=i:=by simp;omega
 have bk:(cs.take i++v::cs.drop (i+1)).take (i+1)=cs.take i++[v]:=by
  rw[List.take_append,List.take_of_length_le (by omega),o]
  simp[show i+1-i=1 by omega]
 have bp:(cs.take i++v::cs.drop (i+1)).drop (i+1+aG.length)=cs.drop (i+(aG.length+1)):=by
  rw[List.drop_append,List.drop_eq_nil_of_le (by omega),o,List.nil_append,show i+1+aG.length-i=aG.length+1 by omega,List.drop_succ_cons,List.drop_drop]
  congr 1
  omega
 rw[bk,bp]
 simp
theorem sk{cs aG:List Value}{i j:Nat}(h:i+aG.length<=cs.length):(dp cs i aG)[j]?=if i<=j/\j<i+aG.length then aG[j-i]? else cs[j]?:=by
 simp only[dp]
 have o:(cs.take i).length=i:=by simp;omega
 by_cases aY:j<i
 ·rw[if_neg (by omega),List.append_assoc,List.getElem?_append_left (by omega),List.getElem?_take_of_lt aY]
 ·by_cases jU:j<i+aG.length
  ·rw[if_pos ⟨by omega,jU⟩,List.append_assoc,List.getElem?_append_right (by omega),o,List.getElem?_append_left (by omega)]
  ·rw[if_neg (by omega),List.getElem?_append_right (by simp;omega),List.getElem?_drop]
   congr 1
   simp
   omega
theorem ab0{aj:bm}{cs:List Value}{cur:Array Value}{aG hR:List Value}{U i:Nat}(an:∀(j:Nat) (v:Value),cs[j]?=some v->∃au,cur[U+j]?=some au/\bo aj v au)(ar:c0 aj aG hR)(bC:i+aG.length<=cs.length)
  (pk:U+cs.length<=cur.size):∀(j:Nat) (v:Value),(dp cs i aG)[j]?=some v->∃au,(dp cur.toList (U+i) hR).toArray[U+j]?=some au/\bo aj v au:=by
 intro j v aY
 rw[sk bC]at aY
 have e:(dp cur.toList (U+i) hR).toArray[U+j]?=(dp cur.toList (U+i) hR)[U+j]?:=by simp
 rw[e,sk (by rw[<-ar.1];simp;omega),<-ar.1]
 split at aY
 ·rename_i ae
  rw[if_pos (by omega),show U+j-(U+i)=j-i by omega]
  exact ar.get aY
 ·rename_i ae
  rw[if_neg (by omega)]
  obtain⟨au,o,aa⟩:=an j v aY
  exact⟨au,by simpa using o,aa⟩
theorem abG{w:World}{g p:Nat}{cur:Array Value}{e:TypeId}{eu:Nat×Nat}(aX:w.heap[g]?=some (.cells cur e eu))(v:Value):
  w.setCell ⟨g,p,none⟩ v=iE w g (.cells (cur.setIfInBounds p v) e eu):=by
 obtain⟨aZ,he⟩:=Array.getElem?_eq_some_iff.1 aX
 simp only[World.setCell,iE]
 congr 1
 apply Array.ext_getElem?
 intro i
 rw[Array.getElem?_modify,Array.getElem?_setIfInBounds]
 split
 ·rename_i af
  subst af
  rw[aX]
  rfl
 ·rfl
theorem aaN(w:World)(g:Nat)(x y:Obj):iE (iE w g x) g y=iE w g y:=by simp[iE]
theorem aaM{w:World}{g:Nat}{x:Obj}(h:w.heap[g]?=some x):iE w g x=w:=by
 obtain⟨aZ,he⟩:=Array.getElem?_eq_some_iff.1 h
 unfold iE
 have:w.heap.setIfInBounds g x=w.heap:=by
  apply Array.ext_getElem?
  intro i
  rw[Array.getElem?_setIfInBounds]
  split
  ·rename_i af;subst af;rw[h]
  ·rfl
 rw[this]
theorem GJ{P:Program}(g off:Nat)(e:TypeId)(eu:Nat×Nat):∀(aG:List Value) (i:Nat) (cur:Array Value) (w:World),w.heap[g]?=some (.cells cur e eu)->mA eu cur.size->off+i+aG.length<=cur.size->
  (∀v∈aG,v.oneCell'=true)->(storeCells ⟨g,off,none⟩ aG i).run P w= .ok () (iE w g (.cells (dp cur.toList (off+i) aG).toArray e eu))
 | [],i,cur,w,aX,_,_,_=>by
  rw[abY,aaM (by simpa using aX)]
  rfl
 | v::aG,i,cur,w,aX,aB,bC,o=>by
  simp only[List.length_cons]at bC
  have aZ:off+i<cur.size:=by omega
  have mL:w.cell? ⟨g,off+i,none⟩=some cur[off+i]:=by simp[World.cell?,aX,aZ]
  have L9:w.frozen? ⟨g,off+i,none⟩=false:=by
   have:=aB (off+i) aZ
   simp only[World.frozen?,aX]
   simpa using this
  have ao:(store ((⟨g,off,none⟩:Addr).add i) v).run P w= .ok () (iE w g (.cells (cur.setIfInBounds (off+i) v) e eu)):=by
   rw[p3,run_store P w _ v _ (o v List.mem_cons_self),mL]
   simp only[L9]
   rw[<-abG aX]
   rfl
  have ER:(iE w g (.cells (cur.setIfInBounds (off+i) v) e eu)).heap[g]?=some (.cells (cur.setIfInBounds (off+i) v) e eu):=Gq w _ _ (Array.getElem?_eq_some_iff.1 aX).1
  have a1:=GJ (P:=P) g off e eu aG (i+1) (cur.setIfInBounds (off+i) v) _ ER (by simpa using aB) (by simp;omega) fun u hu=>o u (List.mem_cons_of_mem _ hu)
  simp only[storeCells,Sem.run_bind,ao,Result.andThen_ok,a1,aaN]
  congr 4
  rw[<-abX _ _ _ _ (by simp;omega)]
  simp[Nat.add_assoc]
def zj(s:ByteArray):List Value:=s.data.toList.map fun b=> .int .u8 b.toNat
inductive Src (H:ab) (R:Nat):Value->Nat->Nat->List Value->Prop
 | wA {a:Option Addr} {m c:Nat}:Src H R (.slice a m c) m 0 []
 | row {b i n m c:Nat} {x:bO} {cs:List Value} (J:H[b]?=some x) (ae:x.cells?=some cs) (aJ:0<n) (hm:n<=m) (bC:i+n*R<=cs.length):Src H R (.slice (some ⟨b,i,none⟩) m c) m n ((cs.drop i).take (n*R))
 | str {s:ByteArray} (o:R=1):Src H R (.string s) s.size s.size (zj s)
theorem ua{P:Program}{base:Nat}{aj:bm}{H:ab}{w:World}{R m n:Nat}{v au:Value}{news:List Value}(ao:Src H R v m n news)(h:ct P base aj H w)(an:bo aj v au):
  (Builtin.lenOf au).run P w= .ok m w/\news.length=n*R/\∃hQ:List Value,(∀a6:World,a6.heap=w.heap->(Builtin.firstCells R n au).run P a6= .ok hQ.toArray a6)/\c0 aj news hQ:=by
 cases ao with
 | wA=>
  obtain⟨fC,dY,rfl,-⟩:=an.qU
  refine⟨by simp[Builtin.lenOf],by simp,[],fun a6 _=>?_,c0.nil aj⟩
  cases fC<;>simp[Builtin.firstCells,loadCells,loadCellsFrom]
 | row J ae aJ hm bC=>
  rename_i b i c x cs
  obtain⟨k,dJ,ak,rfl,-⟩:=an.Ct (by omega)
  obtain⟨aG,ar,mL,al⟩:=h.cells ak J ae bC
  refine⟨by simp[Builtin.lenOf],by simp;omega,aG,fun a6 hw=>?_,al⟩
  simp only[Builtin.firstCells]
  rw[<-ar]
  exact run_loadCells_list a6 _ aG fun j u hu=>by rw[Dr (w:=w) (by rw[hw])];exact mL j u hu
 | str o=>
  rename_i s
  have he:au= .string s:=by cases an;rfl
  subst he
  refine⟨by simp[Builtin.lenOf],by rw[o,Nat.mul_one];unfold zj;rw[List.length_map];rfl,zj s,fun a6 _=>?_,rfl,fun i v au J aI=>?_⟩
  ·simp only[Builtin.firstCells,zj]
   have e:(s.extract 0 s.size).data=s.data:=by
    rw[ByteArray.data_extract];exact Array.extract_size
   rw[e]
   simp only[Sem.run_pure]
   congr 1
   apply Array.ext'
   simp
  ·rw[J]at aI
   obtain rfl:=Option.some.inj aI
   simp only[zj,List.getElem?_map,Option.map_eq_some_iff]at J
   obtain⟨b,-,rfl⟩:=J
   exact .int _ _
def fV(P:Program)(base:Nat)(aj:bm)(H:ab)(w:World)(s:Sem Value)(v:Value)(aF:ab):Prop:=
 ∃bB au a6,s.run P w= .ok au a6/\bo bB v au/\ct P base bB aF a6/\Step aj H w bB aF a6
theorem ct.Dd{P:Program}{base:Nat}{aj:bm}{H:ab}{w:World}(h:ct P base aj H w){e:TypeId}{n:Nat}(ao:bA P e=some n){cs:List Value}{cur:Array Value}{eu:Nat×Nat}(l:Bool)(aB:mA eu cur.size)(bC:cs.length<=cur.size)
  (an:∀(i:Nat) (v:Value),cs[i]?=some v->∃au,cur[i]?=some au/\bo aj v au):
  ct P base (aj.put H.length ⟨w.heap.size,0,cur.size,n,l⟩) (H++[.own e l cs]) (w.alloc (.cells cur e eu))/\Step aj H w (aj.put H.length ⟨w.heap.size,0,cur.size,n,l⟩) (H++[.own e l cs]) (w.alloc (.cells cur e eu)):=by
 unfold bA at ao
 obtain⟨inf,af,aJ⟩:=Option.map_eq_some_iff.1 ao
 exact h.alloc af aJ aB bC an
theorem mA.zero(n:Nat):mA (0,0) n:=fun j _ h=>by simp at h
theorem ct.NV{P:Program}{base:Nat}{aj:bm}{H:ab}{w:World}(h:ct P base aj H w)(x:Obj):ct P base aj H (w.alloc x)/\Step aj H w aj H (w.alloc x):=by
 have hold:∀g,g<w.heap.size->(w.alloc x).heap[g]?=w.heap[g]?:=fun g aX=>heap_alloc_old w _ aX
 refine⟨⟨h.pos,by simp;have:=h.size;omega,h.eZ,fun b k y ag aI=>(h.fc b k y ag aI).gN (fun _ _ h=>h) (fun aJ=>hold _ ((h.fc b k y ag aI).lt aJ)) (by simp),h.inj⟩,?_⟩
 exact⟨fun _ _ h=>h,fun _ _ h=> .inl h,Nat.le_refl _,fun b k ag aQ=> .inr ⟨b,k,ag,aQ,rfl⟩,rfl,rfl,rfl,by simp,fun g aX _=>hold g aX⟩
theorem c0.ofArray{aj:bm}{xs bS:Array Value}(h:fl aj xs bS):∀(i:Nat) (v:Value),xs.toList[i]?=some v->∃au,bS[i]?=some au/\bo aj v au:=fun i v an=>by
 obtain⟨au,o,aa⟩:=h.toList.get an
 exact⟨au,by simpa using o,aa⟩
section
variable {P:Program} {base:Nat} {aj:bm} {H:ab} {w:World}
theorem R6{e:TypeId}{z:Value}{n:Nat}(h:ct P base aj H w)(aM:dD P e=some z)(dS:flat z=true)(ao:bA P e=some n):
  fV P base aj H w (Instr.alloc e true (.tuple #[])) (.pointer (some ⟨H.length,0,none⟩)) (H++[.own e false z.cells.toList]):=by
 obtain⟨o,aa⟩:=h.Dd (cur:=z.cells) (eu:=(0,0)) ao false (mA.zero _) (by simp) (c0.ofArray (CS dS))
 refine⟨_,.pointer (some ⟨w.heap.size,0,none⟩),_,?_,?_,o,aa⟩
 ·simp[Instr.alloc,Cl aM,newVar,newRow]
 ·exact .ptr (k:=⟨w.heap.size,0,z.cells.size,n,false⟩) (bm.nK _ _ _)
theorem Sb{e:TypeId}{v au:Value}{n:Nat}(h:ct P base aj H w)(an:bo aj v au)(ao:bA P e=some n):
  fV P base aj H w (Instr.box e au) (.pointer (some ⟨H.length,0,none⟩)) (H++[.own e false v.cells.toList]):=by
 obtain⟨o,aa⟩:=h.Dd (cur:=au.cells) (eu:=(0,0)) (cs:=v.cells.toList) ao false (mA.zero _) (by simp[an.cells.1]) (c0.ofArray an.cells)
 refine⟨_,.pointer (some ⟨w.heap.size,0,none⟩),_,?_,?_,o,aa⟩
 ·simp[Instr.box,newVar,newRow]
 ·exact .ptr (k:=⟨w.heap.size,0,au.cells.size,n,false⟩) (bm.nK _ _ _)
theorem Sh{t:TypeId}{b i:Nat}{X:bO}{cs:List Value}{v au:Value}(h:ct P base aj H w)(aL:dr P t=some false)(J:bo aj (.pointer (some ⟨b,i,none⟩)) au)(aW:H[b]?=some X)(ae:X.cells?=some cs)(an:cs[i]?=some v):
  fV P base aj H w (Instr.loadAt t au) v H:=by
 obtain⟨k,ak,rfl⟩:=J.sc
 obtain⟨u,o,aa⟩:=h.cell ak aW ae an
 exact⟨aj,u,w,by simp[Instr.loadAt,Instr.sureAddr,loadVar,Ck aL,o],aa,h,Step.refl _ _ _⟩
theorem Si{t:TypeId}{b i n:Nat}{X:bO}{cs:List Value}{au:Value}(h:ct P base aj H w)(aL:dr P t=some true)(ao:bA P t=some n)(J:bo aj (.pointer (some ⟨b,i,none⟩)) au)(aW:H[b]?=some X)(ae:X.cells?=some cs)
  (bC:i+n<=cs.length):fV P base aj H w (Instr.loadAt t au) (.agg ((cs.drop i).take n).toArray) H:=by
 obtain⟨k,ak,rfl⟩:=J.sc
 obtain⟨aG,ar,mL,al⟩:=h.cells ak aW ae bC
 have g6:=run_loadCells_list (P:=P) w ⟨k.g,k.U+i,none⟩ aG mL
 rw[ar]at g6
 exact⟨aj,.agg aG.toArray,w,by simp[Instr.loadAt,Instr.sureAddr,loadVar,Ck aL,kH ao,g6],.agg al.toArray.1 al.toArray.2,h,Step.refl _ _ _⟩
theorem Gr{b i:Nat}{k:iR}{e:TypeId}{l:Bool}{cs aG hR:List Value}(h:ct P base aj H w)(ag:aj b=some k)(aW:H[b]?=some (.own e l cs))(ar:c0 aj aG hR)(bC:i+aG.length<=cs.length)(o:∀v∈aG,v.oneCell'=true):
  ∃a6,(storeCells ⟨k.g,k.U+i,none⟩ hR).run P w= .ok () a6/\ct P base aj (H.set b (.own e l (dp cs i aG))) a6/\Step aj H w aj (H.set b (.own e l (dp cs i aG))) a6:=by
 cases h.fc b k _ ag aW with
 | own th hi af ao aX bP aB EP an=>
  rename_i cur eu inf
  have gy:(dp cs i aG).length=cs.length:=nN bC
  have hlen:hR.length=aG.length:=ar.1.symm
  have K4:∀v∈hR,v.oneCell'=true:=fun au dR=>by
   obtain⟨j,aY⟩:=List.getElem?_of_mem dR
   have xX:j<aG.length:=by rw[ar.1];exact(cJ.1 aY).1
   have:=(ar.2 j _ _ (bz xX) aY).OD
   rw[this]
   exact o _ (List.getElem_mem xX)
  have g6:=GJ (P:=P) k.g (k.U+i) e eu hR 0 cur w aX (bP▸aB) (by omega) K4
  simp only[Nat.add_zero]at g6
  have Fj:=ab0 an ar bC (by omega)
  obtain⟨s1,s2⟩:=h.put (eN:=dp cs i aG) (lW:=(dp cur.toList (k.U+i) hR).toArray) ag aW ⟨cur,aX,by rw[List.size_toArray,nN (by simp;omega)];simp⟩ gy Fj
  exact⟨_,g6,s1,s2⟩
theorem Sq{t:TypeId}{b i:Nat}{e:TypeId}{l:Bool}{cs:List Value}{y fC m8:Value}(h:ct P base aj H w)(ao:bA P t=some y.cells.size)(aL:bo aj (.pointer (some ⟨b,i,none⟩)) fC)(aI:bo aj y m8)
  (aW:H[b]?=some (.own e l cs))(bC:i+y.cells.size<=cs.length)(o:(y.cells.toList.all (·.oneCell'))=true):
  ∃a6,(Instr.storeAt t fC m8).run P w= .ok () a6/\ct P base aj (H.set b (.own e l (dp cs i y.cells.toList))) a6/\Step aj H w aj (H.set b (.own e l (dp cs i y.cells.toList))) a6:=by
 obtain⟨k,ak,rfl⟩:=aL.sc
 obtain⟨a6,al,s1,s2⟩:=Gr (i:=i) h ak aW aI.cells.toList (by simpa using bC) (fun v an=>by simpa using List.all_eq_true.1 o v an)
 have cV:=aI.cells.1
 exact⟨a6,by simp[Instr.storeAt,Instr.sureAddr,storeVar,kH ao,<-cV,al],s1,s2⟩
def dN(aP:Operand->Value):Option Operand->Option Nat
 | none=>some 0
 | some x=>match aP x with
  | .int _ n=>if 0<=n then some n.toNat else none
  | _=>none
def eY(aP:Operand->Value)(d:Nat):Option Operand->Option Nat
 | none=>some d
 | some x=>match aP x with
  | .int _ n=>if 0<=n then some n.toNat else none
  | _=>none
theorem run_sliceBound{P:Program}{w:World}{k:IntKind}{n:Int}{y:Nat}{code:BoundsCode}(aH:0<=n)(o:n.toNat<=y):(Instr.sliceBound (.int k n) y code).run P w= .ok n.toNat w:=by
 have:n<=(y:Int):=by omega
 simp[Instr.sliceBound,asIntOf,aH,this]
theorem GI{aP cH:Operand->Value}{bc af:Option Operand}{len cap l cO:Nat}(hi:∀x,bc=some x->bo aj (aP x) (cH x))(ie:∀x,af=some x->bo aj (aP x) (cH x))(ar:dN aP bc=some l)(eR:eY aP len af=some cO)
  (o:l<=cO)(aa:cO<=cap)(w:World):(Instr.sliceBounds true len cap (bc.map cH) (af.map cH) none).run P w= .ok (l,cO,cap) w:=by
 have el:∀x,bc=some x->∃k n,cH x= .int k n/\0<=n/\n.toNat=l:=fun x J=>by
  have an:=hi x J
  subst J
  simp only[dN]at ar
  split at ar
  ·rename_i k n he
   rw[he]at an
   split at ar
   ·cases ar;exact⟨k,n,an.oQ,by assumption,rfl⟩
   ·cases ar
  ·cases ar
 have SN:∀x,af=some x->∃k n,cH x= .int k n/\0<=n/\n.toNat=cO:=fun x J=>by
  have an:=ie x J
  subst J
  simp only[eY]at eR
  split at eR
  ·rename_i k n he
   rw[he]at an
   split at eR
   ·cases eR;exact⟨k,n,an.oQ,by assumption,rfl⟩
   ·cases eR
  ·cases eR
 unfold Instr.sliceBounds
 cases af with
 | none=>
  have Vw:len=cO:=by simpa[eY]using eR
  subst Vw
  cases bc with
  | none=>
   have iM:0=l:=by simpa[dN]using ar
   subst iM
   simp
  | some x=>
   obtain⟨k,n,e,aH,rfl⟩:=el x rfl
   simp[e,run_sliceBound (P:=P) (w:=w) (k:=k) aH o]
 | some y=>
  obtain⟨b_,ec,c5,rp,rfl⟩:=SN y rfl
  cases bc with
  | none=>
   have iM:0=l:=by simpa[dN]using ar
   subst iM
   simp[c5,run_sliceBound (P:=P) (w:=w) (k:=b_) rp aa]
  | some x=>
   obtain⟨k,n,e,aH,rfl⟩:=el x rfl
   simp[e,c5,run_sliceBound (P:=P) (w:=w) (k:=b_) rp aa,run_sliceBound (P:=P) (w:=w) (k:=k) aH o]
theorem Pg{aP cH:Operand->Value}{bc af fv:Operand}{len cap l cO m:Nat}(hi:bo aj (aP bc) (cH bc))(ie:bo aj (aP af) (cH af))(x1:bo aj (aP fv) (cH fv))(ar:dN aP (some bc)=some l)(eR:dN aP (some af)=some cO)(hm:dN aP (some fv)=some m)
  (o:l<=cO)(aa:cO<=m)(aA:m<=cap)(w:World):(Instr.sliceBounds true len cap (some (cH bc)) (some (cH af)) (some (cH fv))).run P w= .ok (l,cO,m) w:=by
 have el:∀x q,bo aj (aP x) (cH x)->dN aP (some x)=some q->∃k n,cH x= .int k n/\0<=n/\n.toNat=q:=fun x q an av=>by
  simp only[dN]at av
  split at av
  ·rename_i k n he
   rw[he]at an
   split at av
   ·cases av;exact⟨k,n,an.oQ,by assumption,rfl⟩
   ·cases av
  ·cases av
 obtain⟨jC,cB,bk,c9,rfl⟩:=el bc l hi ar
 obtain⟨mi,cL,bp,gi,rfl⟩:=el af cO ie eR
 obtain⟨tQ,hn,e0,eT,rfl⟩:=el fv m x1 hm
 simp[Instr.sliceBounds,bk,bp,e0,run_sliceBound (P:=P) (w:=w) (k:=jC) c9 o,run_sliceBound (P:=P) (w:=w) (k:=mi) gi aa,run_sliceBound (P:=P) (w:=w) (k:=tQ) eT aA]
theorem y7{t e:TypeId}{R:Nat}{a:Option Addr}{len cap l cO m:Nat}{bc af fv:Option Value}(hu:P.underlying t=some (.slice e))(ao:bA P e=some R)(ag:(Instr.sliceBounds true len cap bc af fv).run P w= .ok (l,cO,m) w):
  (Instr.sliceAt t (.slice a len cap) bc af fv).run P w= .ok (.slice (if m=l then a else a.map (·.add (l*R))) (cO-l) (m-l)) w:=by
 simp[Instr.sliceAt,Instr.slice,run_underlying hu,ag,kH ao]
section
variable {aP cH:Operand->Value} {bc af:Option Operand}
theorem Sl{t e:TypeId}{R b i len cap l cO:Nat}{X:bO}{eD:Value}(h:ct P base aj H w)(hu:P.underlying t=some (.slice e))(ao:bA P e=some R)(J:bo aj (.slice (some ⟨b,i,none⟩) len cap) eD)(aW:H[b]?=some X)(he:X.elem?=some e)
  (hi:∀x,bc=some x->bo aj (aP x) (cH x))(ie:∀x,af=some x->bo aj (aP x) (cH x))(ar:dN aP bc=some l)(eR:eY aP len af=some cO)(o:l<=cO)(aa:cO<=cap)(aZ:l<cap):
  fV P base aj H w (Instr.sliceAt t eD (bc.map cH) (af.map cH) none) (.slice (some ⟨b,i+l*R,none⟩) (cO-l) (cap-l)) H:=by
 cases J with
 | void=>omega
 | empty=>omega
 | slice ak ae hle gb oO bP=>
  rename_i k dJ
  have ag:=GI (P:=P) (cap:=dJ) hi ie ar eR o (by omega) w
  refine⟨aj,_,w,y7 hu ao ag,?_,h,Step.refl _ _ _⟩
  rw[if_neg (by omega)]
  simp only[Option.map_some,p3,Nat.add_assoc]
  refine .slice ak (by omega) (by omega) (by omega) (fun aB=>by have:=oO aB;omega) fun bM=>?_
  have A0:k.R=R:=by
   have oq:=h.fc b k X ak aW
   cases oq with
   | own th hi af rV aX bP aB EP an=>
    simp only[bO.elem?,Option.some.injEq]at he
    subst he
    simp only[bA,af,Option.map_some,Option.some.injEq]at ao
    omega
   | ro af rV an cV=>
    simp only[bO.elem?,Option.some.injEq]at he
    subst he
    simp only[bA,af,Option.map_some,Option.some.injEq]at ao
    omega
   | dead=>simp[bO.elem?]at he
  have:=bP bM
  rw[A0]at this⊢
  have bk:l*R+(dJ-l)*R=dJ*R:=by rw[<-Nat.add_mul];congr 1;omega
  omega
end
end
section
variable {P:Program} {base:Nat} {aj:bm} {H:ab} {w:World} {aP cH:Operand->Value} {bc af:Option Operand}
theorem So{t e:TypeId}{R b i len cap:Nat}{eD:Value}(h:ct P base aj H w)(hu:P.underlying t=some (.slice e))(ao:bA P e=some R)(J:bo aj (.slice (some ⟨b,i,none⟩) len cap) eD)(rD:0<cap)
  (hi:∀x,bc=some x->bo aj (aP x) (cH x))(ie:∀x,af=some x->bo aj (aP x) (cH x))(ar:dN aP bc=some cap)(eR:eY aP len af=some cap):
  fV P base aj H w (Instr.sliceAt t eD (bc.map cH) (af.map cH) none) (.slice (some ⟨b,i,none⟩) 0 0) H:=by
 cases J with
 | void=>omega
 | empty=>omega
 | slice ak ae hle gb oO bP=>
  rename_i k dJ
  have ag:=GI (P:=P) (cap:=dJ) hi ie ar eR (Nat.le_refl _) gb w
  have nm:b≠0:=by have:=(h.eZ b k ak).1;omega
  refine⟨aj,_,w,y7 hu ao ag,?_,h,Step.refl _ _ _⟩
  rw[Nat.sub_self]
  by_cases hm:dJ=cap
  ·rw[if_pos hm];exact .empty nm _ _
  ·rw[if_neg hm];exact .empty nm _ _
theorem Sp{t e:TypeId}{R:Nat}{a:Option Addr}{eD:Value}(h:ct P base aj H w)(hu:P.underlying t=some (.slice e))(ao:bA P e=some R)(J:bo aj (.slice a 0 0) eD)
  (hi:∀x,bc=some x->bo aj (aP x) (cH x))(ie:∀x,af=some x->bo aj (aP x) (cH x))(ar:dN aP bc=some 0)(eR:eY aP 0 af=some 0):
  fV P base aj H w (Instr.sliceAt t eD (bc.map cH) (af.map cH) none) (.slice a 0 0) H:=by
 have key:∀(fC:Option Addr) (c:Nat),(Instr.sliceAt t (.slice fC 0 c) (bc.map cH) (af.map cH) none).run P w= .ok (.slice fC 0 c) w:=fun fC c=>by
  rw[y7 hu ao (GI (P:=P) (cap:=c) hi ie ar eR (Nat.le_refl _) (Nat.zero_le _) w)]
  congr 2
  split
  ·rfl
  ·cases fC with
   | none=>rfl
   | some sP=>simp[Addr.add]
 obtain⟨fC,dY,rfl,-⟩:=J.qU
 exact⟨aj,_,w,key _ _,J,h,Step.refl _ _ _⟩
theorem Sn{t e:TypeId}{R len cap l:Nat}{a:Addr}{eD:Value}{bc af fv:Operand}(h:ct P base aj H w)(hu:P.underlying t=some (.slice e))(ao:bA P e=some R)(J:bo aj (.slice (some a) len cap) eD)
  (hi:bo aj (aP bc) (cH bc))(ie:bo aj (aP af) (cH af))(x1:bo aj (aP fv) (cH fv))(ar:dN aP (some bc)=some l)(eR:dN aP (some af)=some l)(hm:dN aP (some fv)=some l)(aA:l<=cap):
  fV P base aj H w (Instr.sliceAt t eD (some (cH bc)) (some (cH af)) (some (cH fv))) (.slice (some ⟨0,0,none⟩) 0 0) H:=by
 obtain⟨fC,dY,rfl,-,-,bj,bJ⟩:=J.qU
 cases fC with
 | none=>simp at bJ
 | some sP=>
  refine⟨aj,_,w,y7 hu ao (Pg (P:=P) (cap:=dY) (len:=len) hi ie x1 ar eR hm (Nat.le_refl _) (Nat.le_refl _) (Nat.le_trans aA bj) w),?_,h,Step.refl _ _ _⟩
  rw[if_pos rfl,Nat.sub_self]
  exact .void 0 sP
theorem Sm{t e:TypeId}{R:Nat}{eD:Value}{bc af fv:Operand}(h:ct P base aj H w)(hu:P.underlying t=some (.slice e))(ao:bA P e=some R)(J:bo aj (.slice none 0 0) eD)
  (hi:bo aj (aP bc) (cH bc))(ie:bo aj (aP af) (cH af))(x1:bo aj (aP fv) (cH fv))(ar:dN aP (some bc)=some 0)(eR:dN aP (some af)=some 0)(hm:dN aP (some fv)=some 0):
  fV P base aj H w (Instr.sliceAt t eD (some (cH bc)) (some (cH af)) (some (cH fv))) (.slice none 0 0) H:=by
 cases J with
 | r_=>
  refine⟨aj,_,w,y7 hu ao (Pg (P:=P) (cap:=0) (len:=0) hi ie x1 ar eR hm (Nat.le_refl _) (Nat.le_refl _) (Nat.le_refl _) w),?_,h,Step.refl _ _ _⟩
  exact .r_
theorem fV.Qt{s:Sem Value}(h:ct P base aj H w){x:Obj}(al:s.run P w= .ok (.slice (some ⟨w.heap.size,0,none⟩) 0 0) (w.alloc x)):fV P base aj H w s (.slice (some ⟨0,0,none⟩) 0 0) H:=
 ⟨aj,_,_,al,.void 0 _,(h.NV x).1,(h.NV x).2⟩
theorem fV.B1{s:Sem Value}{e:TypeId}{R len cap dJ:Nat}{cs:List Value}{cur:Array Value}{eu:Nat×Nat}{l:Bool}(h:ct P base aj H w)(ao:bA P e=some R)
  {ei:World}(qA:ei.heap=w.heap)(tq:ei.os=w.os)(BC:ei.tape=w.tape)(Fa:ei.output=w.output)
  (al:s.run P w= .ok (.slice (some ⟨w.heap.size,0,none⟩) len dJ) (ei.alloc (.cells cur e eu)))(aB:mA eu cur.size)(bC:cs.length<=cur.size)(an:∀(i:Nat) (v:Value),cs[i]?=some v->∃au,cur[i]?=some au/\bo aj v au)
  (ae:0<cap)(hle:len<=cap)(gb:cap<=dJ)(J:l=false->dJ=cap)(bP:l=true->dJ*R<=cur.size):fV P base aj H w s (.slice (some ⟨H.length,0,none⟩) len cap) (H++[.own e l cs]):=by
 have Fj:ct P base aj H ei:=h.heap qA
 have dc:Step aj H w aj H ei:=⟨fun _ _ h=>h,fun _ _ h=> .inl h,Nat.le_refl _,fun b k ag aQ=> .inr ⟨b,k,ag,aQ,rfl⟩,tq,BC,Fa,by rw[qA];exact Nat.le_refl _,fun g _ _=>by rw[qA]⟩
 obtain⟨o,aa⟩:=Fj.Dd (cs:=cs) (cur:=cur) (eu:=eu) ao l aB bC an
 refine⟨_,_,_,al,?_,o,dc.trans aa⟩
 have:=bo.slice (aj:=aj.put H.length ⟨ei.heap.size,0,cur.size,R,l⟩) (b:=H.length) (i:=0) (k:=⟨ei.heap.size,0,cur.size,R,l⟩) (len:=len) (cap:=cap) (dJ:=dJ) (bm.nK _ _ _) ae hle gb J
  (fun bM=>by have:=bP bM;simp only;omega)
 simp only[qA]at this⊢
 exact this
def made(z:Value)(n:Nat):List Value:=(List.range n).map fun i=>z.cells[i % z.cells.size]!
theorem Og(z:Value)(n:Nat):(Array.range n).map (fun i=>z.cells[i % z.cells.size]!)=(made z n).toArray:=by
 apply Array.ext'
 simp[made]
theorem Of{z:Value}(aM:flat z=true)(g4:0<z.cells.size)(n:Nat):∀(i:Nat) (v:Value),(made z n)[i]?=some v->∃au,(made z n).toArray[i]?=some au/\bo aj v au:=fun i v an=>by
 refine⟨v,by simpa using an,?_⟩
 simp only[made,List.getElem?_map,Option.map_eq_some_iff]at an
 obtain⟨j,-,rfl⟩:=an
 have aZ:j % z.cells.size<z.cells.size:=Nat.mod_lt _ g4
 have e:z.cells[j % z.cells.size]! =z.cells[j % z.cells.size]:=by simp[aZ]
 rw[e]
 exact(CS aM).2 _ _ _ (Array.getElem?_eq_getElem aZ) (Array.getElem?_eq_getElem aZ)
theorem O4(f:Nat->Value):(Array.range 0).map f= #[]:=by apply Array.ext';simp
theorem wrap_small{n:Nat}(h:n<=281474976710656):IntKind.i64.wrap (n:Int)=n:=by
 have:=IntWalk.i64_in (n:Int) (by omega)
 exact this
theorem Sj{t e:TypeId}{R bF l c:Nat}{eK cX:IntKind}{z:Value}(h:ct P base aj H w)(hu:P.underlying t=some (.slice e))(ao:bA P e=some R)(ag:bytes? P e=some bF)(aM:dD P e=some z)(dS:flat z=true)(dd:z.cells.size=R)
  (cV:0<R)(dZ:0<bF)(mR:l<=c)(ae:0<c)(bC:bF*c<=281474976710656):fV P base aj H w (Instr.makeSlice t (.int eK l) (.int cX c)) (.slice (some ⟨H.length,0,none⟩) l c) (H++[.own e false (made z (c*R))]):=by
 have l7:c<=281474976710656:=Nat.le_trans (Nat.le_mul_of_pos_left _ dZ) bC
 refine fV.B1 (ei:=w) (cur:=(made z (c*R)).toArray) (eu:=(0,0)) (l:=false) (cap:=c) (dJ:=c) h ao rfl rfl rfl rfl ?_ (mA.zero _) (by simp) (Of dS (by omega) _) ae mR (Nat.le_refl _) (fun _=>rfl) (fun h=>by cases h)
 have mK:(typeInfo e).run P w=(match P.info? e with | some i=> .ok i w | none=> .halt (.stuck "no such type") w):=by
  unfold typeInfo;simp;cases P.info? e<;>rfl
 obtain⟨inf,af,AO⟩:=Option.map_eq_some_iff.1 (show(P.info? e).map (·.bytes)=some bF from ag)
 have aJ:¬(c*R=0):=by have:=Nat.mul_pos ae cV;omega
 have L7:¬(281474976710656:Int)<(bF:Int)*(c:Int):=by
  have:((bF*c:Nat):Int)<=281474976710656:=by omega
  rw[Int.natCast_mul]at this
  omega
 have VS:¬(c:Int)<(l:Int):=by omega
 have mS:¬(c:Int)<0:=by omega
 have V7:¬(l:Int)<0:=by omega
 simp[Instr.makeSlice,run_underlying hu,asInt,asIntOf,mK,af,AO,wrap_small (Nat.le_trans mR l7),wrap_small l7,L7,VS,mS,V7,kH ao,aJ,Cl aM,newRow]
 rw[show c*R=c*R from rfl,<-Og]
theorem Sk{t e:TypeId}{R bF:Nat}{eK cX:IntKind}(h:ct P base aj H w)(hu:P.underlying t=some (.slice e))(ao:bA P e=some R)(ag:bytes? P e=some bF):
  fV P base aj H w (Instr.makeSlice t (.int eK 0) (.int cX 0)) (.slice (some ⟨0,0,none⟩) 0 0) H:=by
 obtain⟨inf,af,AO⟩:=Option.map_eq_some_iff.1 (show(P.info? e).map (·.bytes)=some bF from ag)
 have mK:(typeInfo e).run P w= .ok inf w:=by unfold typeInfo;simp[af]
 refine fV.Qt (x:= .cells #[] e) h ?_
 have ei:IntKind.i64.wrap 0=0:=by decide
 simp[Instr.makeSlice,run_underlying hu,asInt,asIntOf,mK,ei,kH ao,newRow]
 rw[O4]
theorem Sc{t e:TypeId}{R len:Nat}{a5:Array (Nat×Operand)}{z:Value}{out:Array Value}(h:ct P base aj H w)(hu:P.underlying t=some (.slice e))(ao:bA P e=some R)(aM:dD P e=some z)(dS:flat z=true)(dd:z.cells.size=R)
  (cV:0<R)(ar:0<len)(bC:len*R<=16777216)(aU:∀p∈a5,bo aj (aP p.2) (cH p.2))(aB:Instr.fill (fun i=>some (i*R,R)) (made z (len*R)).toArray (a5.toList.map fun p=>(p.1,aP p.2))=some out)(tq:out.size=len*R):
  fV P base aj H w (Instr.buildSlice t len (a5.map fun p=>(p.1,cH p.2))) (.slice (some ⟨H.length,0,none⟩) len len) (H++[.own e false out.toList]):=by
 have rR:∀p∈a5.toList,bo aj (aP p.2) (cH p.2):=fun p hm=>aU p (by simpa using hm)
 have hm:fl aj (made z (len*R)).toArray (made z (len*R)).toArray:=⟨rfl,fun i v au an dR=>by
  obtain⟨u,o,aa⟩:=Of (aj:=aj) dS (by omega) (len*R) i v (by simpa using an)
  rw[dR]at o
  cases o
  exact aa⟩
 obtain⟨ho,o,aa⟩:=Ai (cH:=cH) _ a5.toList _ _ out rR hm aB
 refine fV.B1 (ei:=w) (cur:=ho) (eu:=(0,0)) (l:=false) (cap:=len) (dJ:=len) h ao rfl rfl rfl rfl ?_ (mA.zero _) (by simp[aa.1]) (c0.ofArray aa) ar (Nat.le_refl _) (Nat.le_refl _) (fun _=>rfl) (fun h=>by cases h)
 have aJ:¬(len*R=0):=by have:=Nat.mul_pos ar cV;omega
 have L7:¬(16777216<len*R):=by omega
 have dK:(a5.map fun p=>(p.1,cH p.2)).toList=a5.toList.map fun p=>(p.1,cH p.2):=by simp
 simp only[Instr.buildSlice,Sem.run_bind,run_underlying hu,Result.andThen_ok,kH ao]
 rw[if_neg (by omega),if_neg aJ]
 simp only[Sem.run_bind,Cl aM,Result.andThen_ok,Sem.run_pure]
 rw[Og,dK,o]
 simp[newRow]
theorem Sd{t e:TypeId}{R:Nat}(h:ct P base aj H w)(hu:P.underlying t=some (.slice e))(ao:bA P e=some R):fV P base aj H w (Instr.buildSlice t 0 #[]) (.slice (some ⟨0,0,none⟩) 0 0) H:=by
 refine fV.Qt (x:= .cells #[] e) h ?_
 simp[Instr.buildSlice,run_underlying hu,kH ao,newRow,Instr.fill]
 rw[O4]
def fQ(P:Program)(t:TypeId):Bool:=match P.underlying t with
 | some (.slice _) | some .string=>true
 | _=>false
theorem Px{t:TypeId}(h:fQ P t=true):(∃e,P.underlying t=some (.slice e))\/P.underlying t=some .string:=by
 unfold fQ at h
 split at h
 ·rename_i e he;exact .inl ⟨e,he⟩
 ·rename_i he;exact .inr he
 ·cases h
theorem GH{b1 cY e ty:TypeId}{R:Nat}{a:Option Addr}{len cap n:Nat}{x:Value}{news:List Value}(hu:P.underlying b1=some (.slice e))(J:fQ P cY=true)(ao:bA P e=some R)
  (ar:(Builtin.lenOf x).run P w= .ok n w)(aB:(Builtin.firstCells R n x).run P w= .ok news.toArray w)(g5:len+n<=cap){a6:World}(dc:(match a with | some sP=>storeCells (sP.add (len*R)) news | none=>pure ()).run P w= .ok () a6):
  (Builtin.append_ #[b1,cY] ty #[.slice a len cap,x]).run P w= .ok (.slice a (len+n) cap) a6:=by
 rcases Px J with⟨c5,aD⟩ | aD
 all_goals
  cases a with
  | none=>
   simp at dc
   subst dc
   simp[Builtin.append_,run_underlying hu,run_underlying aD,kH ao,ar,g5,aB]
  | some sP=>
   simp at dc
   simp[Builtin.append_,run_underlying hu,run_underlying aD,kH ao,ar,g5,aB,dc]
theorem Pf{b1 cY e ty:TypeId}{R bF:Nat}{z:Value}{a:Option Addr}{len cap n:Nat}{x:Value}{tV news:List Value}(hu:P.underlying b1=some (.slice e))(J:fQ P cY=true)(ao:bA P e=some R)(ag:bytes? P e=some bF)(aM:dD P e=some z)
  (ar:(Builtin.lenOf x).run P w= .ok n w)(aB:∀a6:World,a6.heap=w.heap->(Builtin.firstCells R n x).run P a6= .ok news.toArray a6)(hx:∀a6:World,a6.heap=w.heap->(Builtin.firstCells R len (.slice a len cap)).run P a6= .ok tV.toArray a6)
  (g5:cap<len+n)(bC:(len+n)*bF<=140737488355328)(dZ:0<bF):
  (Builtin.append_ #[b1,cY] ty #[.slice a len cap,x]).run P w= .ok (.slice (some ⟨w.heap.size,0,none⟩) (len+n) (grownCap w (len+n) cap e)) (w.drew.alloc (.cells (tV.toArray++news.toArray++Builtin.zeroCells z.cells (grownCap w (len+n) cap e-(len+n))) e)):=by
 obtain⟨inf,af,AO⟩:=Option.map_eq_some_iff.1 (show(P.info? e).map (·.bytes)=some bF from ag)
 have mK:∀a6:World,(typeInfo e).run P a6= .ok inf a6:=fun a6=>by unfold typeInfo;simp[af]
 have aJ:¬(len+n<=cap):=by omega
 have xE:len+n<=140737488355328:=Nat.le_trans (Nat.le_mul_of_pos_right _ dZ) bC
 have ail:¬(9223372036854775807<((len:Int)+(n:Int))):=by omega
 have aH:¬(bF=0):=by omega
 have Ao:¬(281474976710656<Builtin.nextslicecap (len+n) cap*bF):=by have:=growslice_fits g5 bC;omega
 have xO:=aB w.drew rfl
 have Vo:=hx w.drew rfl
 rcases Px J with⟨c5,aD⟩ | aD
 all_goals simp[Builtin.append_,run_underlying hu,run_underlying aD,kH ao,ar,aJ,mK,AO,aH,Ao,Question.forced,xO,Vo,Cl aM,newRow,grownCap]
 all_goals
  congr 2
  apply Array.ext'
  simp[List.append_assoc]
def n4(b1 cY ty:TypeId)(s x:Value):Sem Value:=Builtin.append_ #[b1,cY] ty #[s,x]
theorem R7{b1 cY e ty:TypeId}{R len cap m:Nat}{a:Option Addr}{x dC eD:Value}(h:ct P base aj H w)(hu:P.underlying b1=some (.slice e))(J:fQ P cY=true)(ao:bA P e=some R)(dk:Src H R x m 0 [])(hm:m=0)(kg:bo aj (.slice a len cap) dC)(jd:bo aj x eD):
  fV P base aj H w (n4 b1 cY ty dC eD) (.slice a len cap) H:=by
 subst hm
 obtain⟨o,-,hQ,aa,aA⟩:=ua dk h jd
 have aJ:hQ=[]:=List.eq_nil_of_length_eq_zero (by simpa using aA.1.symm)
 subst aJ
 obtain⟨fC,dY,rfl,hle,-⟩:=kg.qU
 refine⟨aj,_,w,GH (a6:=w) hu J ao o (aa w rfl) hle ?_,kg,h,Step.refl _ _ _⟩
 cases fC<;>rfl
theorem QM(tV:List Value)(z:Value)(n:Nat):∀(i:Nat) (v:Value),tV[i]?=some v->(tV.toArray++Builtin.zeroCells z.cells n)[i]?=some v:=fun i v an=>by
 have aZ:=(cJ.1 an).1
 rw[Array.getElem?_append_left (by simpa using aZ)]
 simpa using an
theorem Sa{b1 cY e ty:TypeId}{R bF n:Nat}{z:Value}{a:Option Addr}{x dC eD:Value}{news:List Value}(h:ct P base aj H w)(hu:P.underlying b1=some (.slice e))(J:fQ P cY=true)(ao:bA P e=some R)(ag:bytes? P e=some bF)(aM:dD P e=some z)(dd:z.cells.size=R)
  (dk:Src H R x n n news)(aJ:0<n)(dZ:0<bF)(bC:n*bF<=140737488355328)(aL:a=none\/∃i,a=some ⟨0,i,none⟩)(kg:bo aj (.slice a 0 0) dC)(jd:bo aj x eD):
  fV P base aj H w (n4 b1 cY ty dC eD) (.slice (some ⟨H.length,0,none⟩) n n) (H++[.own e true news]):=by
 obtain⟨o,hlen,hQ,aa,aA⟩:=ua dk h jd
 obtain⟨fC,rfl⟩:∃fC,dC= .slice fC 0 0:=by
  rcases aL with rfl | ⟨i,rfl⟩
  ·cases kg;exact⟨_,rfl⟩
  ·cases kg with
   | void=>exact⟨_,rfl⟩
   | empty nm=>exact absurd rfl nm
   | slice ak ae=>omega
 have al:=Pf (P:=P) (w:=w) (ty:=ty) (a:=fC) (len:=0) (cap:=0) (tV:=[]) hu J ao ag aM o aa (fun a6 _=>by cases fC<;>simp[Builtin.firstCells,loadCells,loadCellsFrom]) (by omega) (by simpa using bC) dZ
 simp only[Nat.zero_add,List.nil_append]at al
 have hh:=grownCap_ge w n 0 e
 have dK:hQ.length=n*R:=by rw[<-aA.1,hlen]
 refine fV.B1 (ei:=w.drew) (cap:=n) (l:=true) (eu:=(0,0)) h ao rfl rfl rfl rfl al (mA.zero _) (by simp[size_zeroCells,dK,hlen]) (fun i v an=>?_) aJ (Nat.le_refl _) hh (fun h=>by cases h) (fun _=>?_)
 ·obtain⟨au,nz,jb⟩:=aA.get an
  exact⟨au,by have:=QM hQ z (grownCap w n 0 e-n) i au nz;simpa using this,jb⟩
 ·simp[size_zeroCells,dK,dd,<-Nat.add_mul]
  rw[show n+(grownCap w n 0 e-n)=grownCap w n 0 e by omega]
  exact Nat.le_refl _
theorem R9{b1 cY e ty:TypeId}{R b i len cap n:Nat}{l:Bool}{cs:List Value}{x dC eD:Value}{news:List Value}(h:ct P base aj H w)(hu:P.underlying b1=some (.slice e))(J:fQ P cY=true)(ao:bA P e=some R)
  (dk:Src H R x n n news)(g5:len+n<=cap)(ae:0<cap)(aW:H[b]?=some (.own e l cs))(bC:i+len*R+news.length<=cs.length)(ht:(news.all (·.oneCell'))=true)(kg:bo aj (.slice (some ⟨b,i,none⟩) len cap) dC)(jd:bo aj x eD):
  fV P base aj H w (n4 b1 cY ty dC eD) (.slice (some ⟨b,i,none⟩) (len+n) cap) (H.set b (.own e l (dp cs (i+len*R) news))):=by
 obtain⟨o,hlen,hQ,aa,aA⟩:=ua dk h jd
 cases kg with
 | void=>omega
 | empty=>omega
 | slice ak qk hle gb oO bP=>
  rename_i k dJ
  obtain⟨a6,al,s1,s2⟩:=Gr (i:=i+len*R) h ak aW aA bC (fun v an=>by simpa using List.all_eq_true.1 ht v an)
  refine⟨aj,_,a6,GH (a6:=a6) hu J ao o (aa w rfl) (by omega) ?_,.slice ak ae g5 gb oO bP,s1,s2⟩
  simp only[p3]
  rw[<-al]
  congr 3
  omega
theorem K2{b1 cY e ty:TypeId}{R bF b i len dJ n:Nat}{z:Value}{X:bO}{cs:List Value}{k:iR}{eD:Value}{news hQ:List Value}(h:ct P base aj H w)(hu:P.underlying b1=some (.slice e))(J:fQ P cY=true)(ao:bA P e=some R)(ag:bytes? P e=some bF)(aM:dD P e=some z)(dd:z.cells.size=R)
  (dZ:0<bF)(bC:(len+n)*bF<=140737488355328)(ak:aj b=some k)(aW:H[b]?=some X)(ae:X.cells?=some cs)(hx:i+len*R<=cs.length)(g5:dJ<len+n)
  (o:(Builtin.lenOf eD).run P w= .ok n w)(hlen:news.length=n*R)(aa:∀a6:World,a6.heap=w.heap->(Builtin.firstCells R n eD).run P a6= .ok hQ.toArray a6)(aA:c0 aj news hQ):
  fV P base aj H w (n4 b1 cY ty (.slice (some ⟨k.g,k.U+i,none⟩) len dJ) eD) (.slice (some ⟨H.length,0,none⟩) (len+n) (len+n)) (H++[.own e true ((cs.drop i).take (len*R)++news)]):=by
 obtain⟨aG,tH,mL,nA⟩:=h.cells ak aW ae hx
 have al:=Pf (P:=P) (w:=w) (ty:=ty) (a:=some ⟨k.g,k.U+i,none⟩) (len:=len) (cap:=dJ) (tV:=aG) hu J ao ag aM o aa (fun a6 hw=>by
  simp only[Builtin.firstCells]
  rw[<-tH]
  exact run_loadCells_list a6 _ aG fun j u hu=>by rw[Dr (w:=w) (by rw[hw])];exact mL j u hu) g5 bC dZ
 have hh:=grownCap_ge w (len+n) dJ e
 have dK:(aG++hQ).length=(len+n)*R:=by rw[List.length_append,tH,<-aA.1,hlen,Nat.add_mul]
 have gd:((cs.drop i).take (len*R)++news).length=(len+n)*R:=by rw[List.length_append,nA.1,tH,hlen,Nat.add_mul]
 have D9:=nA.append aA
 have SH:aG.toArray++hQ.toArray++Builtin.zeroCells z.cells (grownCap w (len+n) dJ e-(len+n))=(aG++hQ).toArray++Builtin.zeroCells z.cells (grownCap w (len+n) dJ e-(len+n)):=by simp
 rw[SH]at al
 refine fV.B1 (ei:=w.drew) (cap:=len+n) (l:=true) (eu:=(0,0)) h ao rfl rfl rfl rfl al (mA.zero _) (by rw[Array.size_append,List.size_toArray,dK,gd];omega) (fun j v an=>?_) (by omega) (Nat.le_refl _) hh (fun h=>by cases h) (fun _=>?_)
 ·obtain⟨au,nz,jb⟩:=D9.get an
  exact⟨au,QM (aG++hQ) z _ j au nz,jb⟩
 ·rw[Array.size_append,List.size_toArray,dK,size_zeroCells,dd,<-Nat.add_mul,show len+n+(grownCap w (len+n) dJ e-(len+n))=grownCap w (len+n) dJ e by omega]
  exact Nat.le_refl _
theorem R8{b1 cY e ty:TypeId}{R bF b i len cap n:Nat}{z:Value}{cs:List Value}{x dC eD:Value}{news:List Value}(h:ct P base aj H w)(hu:P.underlying b1=some (.slice e))(J:fQ P cY=true)(ao:bA P e=some R)(ag:bytes? P e=some bF)(aM:dD P e=some z)(dd:z.cells.size=R)
  (dk:Src H R x n n news)(aJ:0<n)(dZ:0<bF)(bC:(len+n)*bF<=140737488355328)(aW:H[b]?=some (.own e false cs))(hx:i+len*R<=cs.length)(g5:cap<len+n)(ae:0<cap)(kg:bo aj (.slice (some ⟨b,i,none⟩) len cap) dC)(jd:bo aj x eD):
  fV P base aj H w (n4 b1 cY ty dC eD) (.slice (some ⟨H.length,0,none⟩) (len+n) (len+n)) (H++[.own e true ((cs.drop i).take (len*R)++news)]):=by
 obtain⟨o,hlen,hQ,aa,aA⟩:=ua dk h jd
 cases kg with
 | void=>omega
 | empty=>omega
 | slice ak qk hle gb oO bP=>
  rename_i k dJ
  have ar:k.loose=false:=by cases h.fc b k _ ak aW;assumption
  have:=oO ar
  exact K2 h hu J ao ag aM dd dZ bC ak aW rfl hx (by omega) o hlen aa aA
theorem Sg{s:Sem Value}{v:Value}{b:Nat}{e:TypeId}{l:Bool}{cs:List Value}{X:bO}(h:ct P base aj H w)(aW:H[b]?=some (.own e l cs))(aD:fV P base aj H w s v (H++[X])):fV P base aj H w s v (H.set b .dead++[X]):=by
 obtain⟨bB,au,a6,a0,a4,bI,cj⟩:=aD
 have df:b<H.length:=(cJ.1 aW).1
 obtain⟨jC,mi⟩:=bI.kill b ⟨e,l,cs,by rw[w8 df];exact aW⟩
 have SU:(H++[X]).set b .dead=H.set b .dead++[X]:=by rw[List.set_append_left _ _ df]
 rw[SU]at jC mi
 exact⟨bB,au,a6,a0,a4,jC,cj.trans mi⟩
theorem R_{b1 cY e ty:TypeId}{R bF b i len cap n:Nat}{z:Value}{cs:List Value}{x dC eD:Value}{news:List Value}(h:ct P base aj H w)(hu:P.underlying b1=some (.slice e))(J:fQ P cY=true)(ao:bA P e=some R)(ag:bytes? P e=some bF)(aM:dD P e=some z)(dd:z.cells.size=R)
  (dk:Src H R x n n news)(aJ:0<n)(dZ:0<bF)(bC:(len+n)*bF<=140737488355328)(aW:H[b]?=some (.own e true cs))(hx:i+len*R<=cs.length)(g5:cap<len+n)(ae:0<cap)(ht:(news.all (·.oneCell'))=true)
  (kg:bo aj (.slice (some ⟨b,i,none⟩) len cap) dC)(jd:bo aj x eD):
  fV P base aj H w (n4 b1 cY ty dC eD) (.slice (some ⟨H.length,0,none⟩) (len+n) (len+n)) (H.set b .dead++[.own e true ((cs.drop i).take (len*R)++news)]):=by
 obtain⟨o,hlen,hQ,aa,aA⟩:=ua dk h jd
 cases kg with
 | void=>omega
 | empty=>omega
 | slice ak qk hle gb oO bP=>
  rename_i k dJ
  have oq:=h.fc b k _ ak aW
  cases oq with
  | own th hi af cV aX T0 aB EP an=>
  rename_i cur eu inf
  have A0:k.R=R:=by simp only[bA,af,Option.map_some,Option.some.injEq]at ao;omega
  have TZ:=bP hi
  rw[A0]at TZ
  by_cases fe:len+n<=dJ
  ·
   have hmul:len*R+n*R<=dJ*R:=by rw[<-Nat.add_mul];exact Nat.mul_le_mul_right _ fe
   have E0:hQ.length=n*R:=by rw[<-aA.1,hlen]
   have x7:∀v∈hQ,v.oneCell'=true:=fun au dR=>by
    obtain⟨j,aY⟩:=List.getElem?_of_mem dR
    have xX:j<news.length:=by rw[aA.1];exact(cJ.1 aY).1
    rw[(aA.2 j _ _ (bz xX) aY).OD]
    simpa using List.all_eq_true.1 ht _ (List.getElem_mem xX)
   have g6:=GJ (P:=P) k.g (k.U+i+len*R) e eu hQ 0 cur w aX (T0▸aB) (by omega) x7
   simp only[Nat.add_zero]at g6
   have gd:((cs.drop i).take (len*R)).length=len*R:=by simp;omega
   have My:=h.Gc (i:=i) (dn:=true) (eN:=(cs.drop i).take (len*R)++news) (lW:=(dp cur.toList (k.U+i+len*R) hQ).toArray) (eu:=eu) ak aW ⟨cur,aX,by rw[List.size_toArray,nN (by simp;omega)];simp⟩
    (by rw[List.size_toArray,nN (by simp;omega),List.length_append,gd,hlen];simp;omega) (fun j v aY=>by
     have bk:(dp cur.toList (k.U+i+len*R) hQ).toArray[k.U+i+j]?=(dp cur.toList (k.U+i+len*R) hQ)[k.U+i+j]?:=by simp
     rw[bk,sk (by simp;omega)]
     by_cases gf:j<len*R
     ·rw[if_neg (by omega)]
      rw[List.getElem?_append_left (by omega),List.getElem?_take_of_lt gf,List.getElem?_drop]at aY
      obtain⟨au,a0,a4⟩:=an (i+j) v aY
      exact⟨au,by simpa[Nat.add_assoc]using a0,a4⟩
     ·rw[List.getElem?_append_right (by omega),gd]at aY
      have mO:j-len*R<news.length:=(cJ.1 aY).1
      rw[if_pos (by omega),show k.U+i+j-(k.U+i+len*R)=j-len*R by omega]
      exact aA.get aY)
   refine⟨_,_,_,GH hu J ao o (aa w rfl) fe (by simp only[p3];exact g6),?_,My.1,My.2⟩
   have:=bo.slice (aj:=aj.put H.length ⟨k.g,k.U+i,k.N,k.R,true⟩) (b:=H.length) (i:=0) (k:=⟨k.g,k.U+i,k.N,k.R,true⟩) (len:=len+n) (cap:=len+n) (dJ:=dJ) (bm.nK _ _ _) (by omega) (Nat.le_refl _) fe (fun h=>by cases h)
    (fun _=>by simp only;rw[A0];omega)
   simpa using this
  ·
   have xR:=K2 (b1:=b1) (cY:=cY) (ty:=ty) (bF:=bF) (z:=z) (eD:=eD) (len:=len) (n:=n) (i:=i) (dJ:=dJ) h hu J ao ag aM dd dZ bC ak aW rfl hx (by omega) o hlen aa aA
   exact Sg h aW xR
theorem Se{ik b1 e ty:TypeId}{R b i lg p9 m n:Nat}{l:Bool}{cs:List Value}{x fD eD:Value}{news:List Value}(h:ct P base aj H w)(hu:P.underlying ik=some (.slice e))(ao:bA P e=some R)(dk:Src H R x m n news)(aJ:n=min m lg)(jX:0<n)
  (aW:H[b]?=some (.own e l cs))(bC:i+news.length<=cs.length)(ht:(news.all (·.oneCell'))=true)(yu:bo aj (.slice (some ⟨b,i,none⟩) lg p9) fD)(jd:bo aj x eD):
  fV P base aj H w (Builtin.copy_ #[ik,b1] ty #[fD,eD]) (.int .i64 n) (H.set b (.own e l (dp cs i news))):=by
 obtain⟨o,hlen,hQ,aa,aA⟩:=ua dk h jd
 obtain⟨k,dJ,ak,rfl,-⟩:=yu.Ct (by omega)
 obtain⟨a6,al,s1,s2⟩:=Gr (i:=i) h ak aW aA bC (fun v an=>by simpa using List.all_eq_true.1 ht v an)
 have hM:Nat.min m lg=n:=aJ.symm
 exact⟨aj,.int .i64 n,a6,by simp[Builtin.copy_,run_underlying hu,o,hM,kH ao,aa w rfl,al,goInt],.int _ _,s1,s2⟩
theorem Sf{ik b1 e ty:TypeId}{R lg p9 m:Nat}{a:Option Addr}{x fD eD:Value}(h:ct P base aj H w)(hu:P.underlying ik=some (.slice e))(ao:bA P e=some R)(dk:Src H R x m 0 [])(aJ:min m lg=0)(yu:bo aj (.slice a lg p9) fD)(jd:bo aj x eD):
  fV P base aj H w (Builtin.copy_ #[ik,b1] ty #[fD,eD]) (.int .i64 0) H:=by
 obtain⟨o,hlen,hQ,aa,aA⟩:=ua dk h jd
 have V9:hQ=[]:=List.eq_nil_of_length_eq_zero (by simpa using aA.1.symm)
 subst V9
 obtain⟨fC,dY,rfl,-⟩:=yu.qU
 have hM:Nat.min m lg=0:=aJ
 refine⟨aj,.int .i64 0,w,?_,.int _ _,h,Step.refl _ _ _⟩
 cases fC<;>simp[Builtin.copy_,run_underlying hu,o,hM,kH ao,aa w rfl,goInt,storeCells]
end
section
variable {P:Program} {base:Nat} {aj:bm} {H:ab} {w:World}
theorem Sr{src dst e:TypeId}{x eD:Value}{n:Nat}{xs:List Int}(h:ct P base aj H w)(ao:P.underlying src=some (.slice e))(he:P.underlying e=some (.int .u8))(aD:P.underlying dst=some .string)
  (kf:∃a len c,x= .slice a len c)(dk:Src H 1 x n n (xs.map (Value.int .u8)))(jd:bo aj x eD):fV P base aj H w (convert src dst eD) (.string (strOfNums xs)) H:=by
 obtain⟨a,len,c,rfl⟩:=kf
 generalize x2:xs.map (Value.int .u8)=news at dk
 cases dk with
 | wA=>
  have J:xs=[]:=by simpa using x2
  subst J
  obtain⟨fC,dY,rfl,-⟩:=jd.qU
  refine⟨aj,.string (strOfNums []),w,?_,.str _,h,Step.refl _ _ _⟩
  cases fC with
  | none=>rw[run_convert_bytes_nil w src e ao he _ _ dst aD];rfl
  | some sP=>
   rw[run_convert_bytes_string w src dst e (some sP) 0 dY ao he aD,run_bytesToString w _ 0 dY [] (by simp[loadCells,loadCellsFrom]),foldl_push_bytes]
   rfl
 | row J ae aJ hm bC=>
  rename_i b i X cs
  obtain⟨k,dJ,ak,rfl,-⟩:=jd.Ct (by omega)
  obtain⟨aG,ar,mL,al⟩:=h.cells ak J ae bC
  have hlen:xs.length=n:=by
   have:=congrArg List.length x2
   have aa:=al.1
   simp only[List.length_map]at this
   omega
  refine⟨aj,.string (strOfNums xs),w,run_convert_bytes_arg w src e ao he _ _ n dJ xs hlen (fun j aY=>?_) dst aD,.str _,h,Step.refl _ _ _⟩
  have jU:((cs.drop i).take (n*1))[j]?=some (.int .u8 (xs.getD j 0)):=by
   rw[<-x2]
   simp[bz (show j<xs.length by omega),List.getD_eq_getElem?_getD]
  obtain⟨au,nz,jb⟩:=al.get jU
  have:=mL j au nz
  rw[p3]at this
  rw[this,jb.oQ]
end
inductive fm (P:Program) (aP:Operand->Value) (H:ab) (U:Oper):Value->ab->Prop
 | tU {v:Value} (ao:∀cs b,U.op≠ .select cs b) (aB:(U.op.operands.all fun x=>flat (aP x))=true) (an:flat v=true) (h:dH P (execOp aP U)=some (.value v)):fm P aP H U v H
 | alloc {e:TypeId} {z:Value} {n:Nat} (h:U.op= .alloc e) (aM:dD P e=some z) (dS:flat z=true) (ao:bA P e=some n):fm P aP H U (.pointer (some ⟨H.length,0,none⟩)) (H++[.own e false z.cells.toList])
 | box {e:TypeId} {x:Operand} {n:Nat} (h:U.op= .box e x) (ao:bA P e=some n):fm P aP H U (.pointer (some ⟨H.length,0,none⟩)) (H++[.own e false (aP x).cells.toList])
 | yP {t:TypeId} {x:Operand} {b i:Nat} {X:bO} {cs:List Value} {v:Value} (h:U.op= .load t x) (aL:dr P t=some false) (J:aP x= .pointer (some ⟨b,i,none⟩)) (aW:H[b]?=some X) (ae:X.cells?=some cs) (an:cs[i]?=some v):fm P aP H U v H
 | yQ {t:TypeId} {x:Operand} {b i n:Nat} {X:bO} {cs:List Value} (h:U.op= .load t x) (aL:dr P t=some true) (ao:bA P t=some n) (J:aP x= .pointer (some ⟨b,i,none⟩)) (aW:H[b]?=some X) (ae:X.cells?=some cs) (bC:i+n<=cs.length):
   fm P aP H U (.agg ((cs.drop i).take n).toArray) H
 | store {t:TypeId} {x y:Operand} {b i:Nat} {e:TypeId} {l:Bool} {cs:List Value} (h:U.op= .store t x y) (ao:bA P t=some (aP y).cells.size) (J:aP x= .pointer (some ⟨b,i,none⟩)) (aW:H[b]?=some (.own e l cs)) (bC:i+(aP y).cells.size<=cs.length)
   (o:((aP y).cells.toList.all (·.oneCell'))=true):fm P aP H U undef (H.set b (.own e l (dp cs i (aP y).cells.toList)))
 | slice {t e:TypeId} {x:Operand} {bc af:Option Operand} {R b i len cap l cO:Nat} {X:bO} (h:U.op= .slice t x bc af none) (hu:P.underlying t=some (.slice e)) (ao:bA P e=some R) (J:aP x= .slice (some ⟨b,i,none⟩) len cap) (aW:H[b]?=some X) (he:X.elem?=some e)
   (ar:dN aP bc=some l) (eR:eY aP len af=some cO) (o:l<=cO) (aa:cO<=cap) (aZ:l<cap):fm P aP H U (.slice (some ⟨b,i+l*R,none⟩) (cO-l) (cap-l)) H
 | zg {t e:TypeId} {x:Operand} {bc af:Option Operand} {R b i len cap:Nat} (h:U.op= .slice t x bc af none) (hu:P.underlying t=some (.slice e)) (ao:bA P e=some R) (J:aP x= .slice (some ⟨b,i,none⟩) len cap) (rD:0<cap)
   (ar:dN aP bc=some cap) (eR:eY aP len af=some cap):fm P aP H U (.slice (some ⟨b,i,none⟩) 0 0) H
 | zh {t e:TypeId} {x:Operand} {bc af:Option Operand} {R:Nat} {a:Option Addr} (h:U.op= .slice t x bc af none) (hu:P.underlying t=some (.slice e)) (ao:bA P e=some R) (J:aP x= .slice a 0 0)
   (ar:dN aP bc=some 0) (eR:eY aP 0 af=some 0):fm P aP H U (.slice a 0 0) H
 | Cs {t e:TypeId} {x bc af fv:Operand} {R len cap l:Nat} {a:Addr} (h:U.op= .slice t x (some bc) (some af) (some fv)) (hu:P.underlying t=some (.slice e)) (ao:bA P e=some R) (J:aP x= .slice (some a) len cap)
   (ar:dN aP (some bc)=some l) (eR:dN aP (some af)=some l) (hm:dN aP (some fv)=some l) (aA:l<=cap):fm P aP H U (.slice (some ⟨0,0,none⟩) 0 0) H
 | Cr {t e:TypeId} {x bc af fv:Operand} {R:Nat} (h:U.op= .slice t x (some bc) (some af) (some fv)) (hu:P.underlying t=some (.slice e)) (ao:bA P e=some R) (J:aP x= .slice none 0 0)
   (ar:dN aP (some bc)=some 0) (eR:dN aP (some af)=some 0) (hm:dN aP (some fv)=some 0):fm P aP H U (.slice none 0 0) H
 | make {t e:TypeId} {x y:Operand} {R bF l c:Nat} {eK cX:IntKind} {z:Value} (h:U.op= .makeSlice t x y) (hu:P.underlying t=some (.slice e)) (ao:bA P e=some R) (ag:bytes? P e=some bF) (aM:dD P e=some z) (dS:flat z=true) (dd:z.cells.size=R)
   (J:aP x= .int eK (l:Int)) (aI:aP y= .int cX (c:Int)) (cV:0<R) (dZ:0<bF) (mR:l<=c) (ae:0<c) (bC:bF*c<=281474976710656):fm P aP H U (.slice (some ⟨H.length,0,none⟩) l c) (H++[.own e false (made z (c*R))])
 | vX {t e:TypeId} {x y:Operand} {R bF:Nat} {eK cX:IntKind} (h:U.op= .makeSlice t x y) (hu:P.underlying t=some (.slice e)) (ao:bA P e=some R) (ag:bytes? P e=some bF) (J:aP x= .int eK 0) (aI:aP y= .int cX 0):
   fm P aP H U (.slice (some ⟨0,0,none⟩) 0 0) H
 | build {t e:TypeId} {R len:Nat} {a5:Array (Nat×Operand)} {z:Value} {out:Array Value} (h:U.op= .buildSlice t len a5) (hu:P.underlying t=some (.slice e)) (ao:bA P e=some R) (aM:dD P e=some z) (dS:flat z=true) (dd:z.cells.size=R)
   (cV:0<R) (ar:0<len) (bC:len*R<=16777216) (aB:Instr.fill (fun i=>some (i*R,R)) (made z (len*R)).toArray (a5.toList.map fun p=>(p.1,aP p.2))=some out) (tq:out.size=len*R):
   fm P aP H U (.slice (some ⟨H.length,0,none⟩) len len) (H++[.own e false out.toList])
 | wW {t e:TypeId} {R:Nat} (h:U.op= .buildSlice t 0 #[]) (hu:P.underlying t=some (.slice e)) (ao:bA P e=some R):fm P aP H U (.slice (some ⟨0,0,none⟩) 0 0) H
 | wO {b1 cY e:TypeId} {s x:Operand} {R len cap:Nat} {a:Option Addr} (h:U.op= .call {callee:= .builtin .append,args:= #[s,x],argTypes:= #[b1,cY]}) (hu:P.underlying b1=some (.slice e)) (J:fQ P cY=true) (ao:bA P e=some R) (dk:Src H R (aP x) 0 0 [])
   (an:aP s= .slice a len cap):fm P aP H U (.slice a len cap) H
 | wS {b1 cY e:TypeId} {s x:Operand} {R bF n:Nat} {z:Value} {a:Option Addr} {news:List Value} (h:U.op= .call {callee:= .builtin .append,args:= #[s,x],argTypes:= #[b1,cY]}) (hu:P.underlying b1=some (.slice e)) (J:fQ P cY=true) (ao:bA P e=some R)
   (ag:bytes? P e=some bF) (aM:dD P e=some z) (dd:z.cells.size=R) (dk:Src H R (aP x) n n news) (aJ:0<n) (dZ:0<bF) (bC:n*bF<=140737488355328) (aL:a=none\/∃i,a=some ⟨0,i,none⟩) (an:aP s= .slice a 0 0):
   fm P aP H U (.slice (some ⟨H.length,0,none⟩) n n) (H++[.own e true news])
 | wQ {b1 cY e:TypeId} {s x:Operand} {R b i len cap n:Nat} {l:Bool} {cs:List Value} {news:List Value} (h:U.op= .call {callee:= .builtin .append,args:= #[s,x],argTypes:= #[b1,cY]}) (hu:P.underlying b1=some (.slice e)) (J:fQ P cY=true) (ao:bA P e=some R)
   (dk:Src H R (aP x) n n news) (g5:len+n<=cap) (ae:0<cap) (aW:H[b]?=some (.own e l cs)) (bC:i+len*R+news.length<=cs.length) (ht:(news.all (·.oneCell'))=true) (an:aP s= .slice (some ⟨b,i,none⟩) len cap):
   fm P aP H U (.slice (some ⟨b,i,none⟩) (len+n) cap) (H.set b (.own e l (dp cs (i+len*R) news)))
 | wP {b1 cY e:TypeId} {s x:Operand} {R bF b i len cap n:Nat} {z:Value} {cs:List Value} {news:List Value} (h:U.op= .call {callee:= .builtin .append,args:= #[s,x],argTypes:= #[b1,cY]}) (hu:P.underlying b1=some (.slice e)) (J:fQ P cY=true) (ao:bA P e=some R)
   (ag:bytes? P e=some bF) (aM:dD P e=some z) (dd:z.cells.size=R) (dk:Src H R (aP x) n n news) (aJ:0<n) (dZ:0<bF) (bC:(len+n)*bF<=140737488355328) (aW:H[b]?=some (.own e false cs)) (hx:i+len*R<=cs.length) (g5:cap<len+n) (ae:0<cap)
   (an:aP s= .slice (some ⟨b,i,none⟩) len cap):fm P aP H U (.slice (some ⟨H.length,0,none⟩) (len+n) (len+n)) (H++[.own e true ((cs.drop i).take (len*R)++news)])
 | wR {b1 cY e:TypeId} {s x:Operand} {R bF b i len cap n:Nat} {z:Value} {cs:List Value} {news:List Value} (h:U.op= .call {callee:= .builtin .append,args:= #[s,x],argTypes:= #[b1,cY]}) (hu:P.underlying b1=some (.slice e)) (J:fQ P cY=true) (ao:bA P e=some R)
   (ag:bytes? P e=some bF) (aM:dD P e=some z) (dd:z.cells.size=R) (dk:Src H R (aP x) n n news) (aJ:0<n) (dZ:0<bF) (bC:(len+n)*bF<=140737488355328) (aW:H[b]?=some (.own e true cs)) (hx:i+len*R<=cs.length) (g5:cap<len+n) (ae:0<cap)
   (ht:(news.all (·.oneCell'))=true) (an:aP s= .slice (some ⟨b,i,none⟩) len cap):fm P aP H U (.slice (some ⟨H.length,0,none⟩) (len+n) (len+n)) (H.set b .dead++[.own e true ((cs.drop i).take (len*R)++news)])
 | copy {ik b1 e:TypeId} {d x:Operand} {R b i lg p9 m n:Nat} {l:Bool} {cs:List Value} {news:List Value} (h:U.op= .call {callee:= .builtin .copy,args:= #[d,x],argTypes:= #[ik,b1]}) (hu:P.underlying ik=some (.slice e)) (ao:bA P e=some R) (dk:Src H R (aP x) m n news)
   (aJ:n=min m lg) (jX:0<n) (aW:H[b]?=some (.own e l cs)) (bC:i+news.length<=cs.length) (ht:(news.all (·.oneCell'))=true) (an:aP d= .slice (some ⟨b,i,none⟩) lg p9):fm P aP H U (.int .i64 n) (H.set b (.own e l (dp cs i news)))
 | w0 {ik b1 e:TypeId} {d x:Operand} {R lg p9 m:Nat} {a:Option Addr} (h:U.op= .call {callee:= .builtin .copy,args:= #[d,x],argTypes:= #[ik,b1]}) (hu:P.underlying ik=some (.slice e)) (ao:bA P e=some R) (dk:Src H R (aP x) m 0 []) (aJ:min m lg=0)
   (an:aP d= .slice a lg p9):fm P aP H U (.int .i64 0) H
 | str {src dst e:TypeId} {x:Operand} {n:Nat} {xs:List Int} (h:U.op= .convert src dst x) (ao:P.underlying src=some (.slice e)) (he:P.underlying e=some (.int .u8)) (aD:P.underlying dst=some .string) (kf:∃a len c,aP x= .slice a len c)
   (dk:Src H 1 (aP x) n n (xs.map (Value.int .u8))):fm P aP H U (.string (strOfNums xs)) H
theorem On{P:Program}{base:Nat}{aj:bm}{H aF:ab}{w:World}{aP cH:Operand->Value}{U:Oper}{v:Value}(h:fm P aP H U v aF)(bL:ct P base aj H w)(dz:∀x∈U.op.operands,bo aj (aP x) (cH x)):
  ∃bB au a6,((execOp cH U).run P w= .ok (.value au) a6\/((execOp cH U).run P w= .ok .skip a6/\au=undef))/\bo bB v au/\ct P base bB aF a6/\Step aj H w bB aF a6:=by
 have fin:∀{s:Sem Value} {v:Value} {aF:ab},fV P base aj H w s v aF->(∀au a6,s.run P w= .ok au a6->(execOp cH U).run P w= .ok (.value au) a6)->
   ∃bB au a6,((execOp cH U).run P w= .ok (.value au) a6\/((execOp cH U).run P w= .ok .skip a6/\au=undef))/\bo bB v au/\ct P base bB aF a6/\Step aj H w bB aF a6:=by
  intro s v aF ⟨bB,au,a6,a0,a4,bI,cj⟩ al
  exact⟨bB,au,a6,.inl (al _ _ a0),a4,bI,cj⟩
 cases h with
 | tU ao aB an h=>
  have he:execOp aP U=execOp cH U:=execOp_congr U ao fun x J=>(KU (by simpa using Array.all_eq_true'.1 aB x J) (dz x J)).symm
  exact⟨aj,v,w,.inl (sd _ _ (he▸h) w),uT aj an,bL,Step.refl _ _ _⟩
 | alloc h aM dS ao=>exact fin (R6 bL aM dS ao) fun au a6 al=>by simp[execOp,h,al]
 | box h ao=>exact fin (Sb bL (dz _ (by simp[h,Op.operands])) ao) fun au a6 al=>by simp[execOp,h,al]
 | yP h aL J aW ae an=>exact fin (Sh bL aL (J▸dz _ (by simp[h,Op.operands])) aW ae an) fun au a6 al=>by simp[execOp,h,al]
 | yQ h aL ao J aW ae bC=>exact fin (Si bL aL ao (J▸dz _ (by simp[h,Op.operands])) aW ae bC) fun au a6 al=>by simp[execOp,h,al]
 | store h ao J aW bC o=>
  obtain⟨a6,al,s1,s2⟩:=Sq bL ao (J▸dz _ (by simp[h,Op.operands])) (dz _ (by simp[h,Op.operands])) aW bC o
  exact⟨aj,undef,a6,.inr ⟨by simp[execOp,h,al],rfl⟩,bo.undef aj,s1,s2⟩
 | slice h hu ao J aW he ar eR o aa aZ=>
  refine fin (Sl bL hu ao (J▸dz _ (by simp[h,Op.operands])) aW he (fun y aI=>dz y ?_) (fun y aI=>dz y ?_) ar eR o aa aZ) fun au a6 al=>by simp[execOp,h,al]
  ·simp[h,Op.operands,aI]
  ·simp[h,Op.operands,aI]
 | zg h hu ao J rD ar eR=>
  refine fin (So bL hu ao (J▸dz _ (by simp[h,Op.operands])) rD (fun y aI=>dz y ?_) (fun y aI=>dz y ?_) ar eR) fun au a6 al=>by simp[execOp,h,al]
  ·simp[h,Op.operands,aI]
  ·simp[h,Op.operands,aI]
 | zh h hu ao J ar eR=>
  refine fin (Sp bL hu ao (J▸dz _ (by simp[h,Op.operands])) (fun y aI=>dz y ?_) (fun y aI=>dz y ?_) ar eR) fun au a6 al=>by simp[execOp,h,al]
  ·simp[h,Op.operands,aI]
  ·simp[h,Op.operands,aI]
 | Cs h hu ao J ar eR hm aA=>exact fin (Sn bL hu ao (J▸dz _ (by simp[h,Op.operands])) (dz _ (by simp[h,Op.operands])) (dz _ (by simp[h,Op.operands])) (dz _ (by simp[h,Op.operands])) ar eR hm aA) fun au a6 al=>by simp[execOp,h,al]
 | Cr h hu ao J ar eR hm=>exact fin (Sm bL hu ao (J▸dz _ (by simp[h,Op.operands])) (dz _ (by simp[h,Op.operands])) (dz _ (by simp[h,Op.operands])) (dz _ (by simp[h,Op.operands])) ar eR hm) fun au a6 al=>by simp[execOp,h,al]
 | make h hu ao ag aM dS dd J aI cV dZ mR ae bC=>
  have bk:=(J▸dz _ (by simp[h,Op.operands])).oQ
  have bp:=(aI▸dz _ (by simp[h,Op.operands])).oQ
  rename_i t e x y R bF l c eK cX z
  exact fin (Sj (eK:=eK) (cX:=cX) bL hu ao ag aM dS dd cV dZ mR ae bC) fun au a6 al=>by simp[execOp,h,bk,bp,al]
 | vX h hu ao ag J aI=>
  have bk:=(J▸dz _ (by simp[h,Op.operands])).oQ
  have bp:=(aI▸dz _ (by simp[h,Op.operands])).oQ
  rename_i t e x y R bF eK cX
  exact fin (Sk (eK:=eK) (cX:=cX) bL hu ao ag) fun au a6 al=>by simp[execOp,h,bk,bp,al]
 | build h hu ao aM dS dd cV ar bC aB tq=>exact fin (Sc bL hu ao aM dS dd cV ar bC (fun p aU=>dz p.2 (by simp[h,Op.operands];exact⟨p.1,by simpa using aU⟩)) aB tq) fun au a6 al=>by simp[execOp,h,al]
 | wW h hu ao=>exact fin (Sd bL hu ao) fun au a6 al=>by simp[execOp,h,al]
 | wO h hu J ao dk an=>exact fin (R7 (ty:=U.type) bL hu J ao dk rfl (an▸dz _ (by simp[h,Op.operands,Call.operands])) (dz _ (by simp[h,Op.operands,Call.operands]))) fun au a6 al=>by simp[n4]at al;simp[execOp,h,resolve,invoke,builtin,al]
 | wS h hu J ao ag aM dd dk aJ dZ bC aL an=>
  exact fin (Sa (ty:=U.type) bL hu J ao ag aM dd dk aJ dZ bC aL (an▸dz _ (by simp[h,Op.operands,Call.operands])) (dz _ (by simp[h,Op.operands,Call.operands]))) fun au a6 al=>by simp[n4]at al;simp[execOp,h,resolve,invoke,builtin,al]
 | wQ h hu J ao dk g5 ae aW bC ht an=>
  exact fin (R9 (ty:=U.type) bL hu J ao dk g5 ae aW bC ht (an▸dz _ (by simp[h,Op.operands,Call.operands])) (dz _ (by simp[h,Op.operands,Call.operands]))) fun au a6 al=>by simp[n4]at al;simp[execOp,h,resolve,invoke,builtin,al]
 | wP h hu J ao ag aM dd dk aJ dZ bC aW hx g5 ae an=>
  exact fin (R8 (ty:=U.type) bL hu J ao ag aM dd dk aJ dZ bC aW hx g5 ae (an▸dz _ (by simp[h,Op.operands,Call.operands])) (dz _ (by simp[h,Op.operands,Call.operands]))) fun au a6 al=>by simp[n4]at al;simp[execOp,h,resolve,invoke,builtin,al]
 | wR h hu J ao ag aM dd dk aJ dZ bC aW hx g5 ae ht an=>
  exact fin (R_ (ty:=U.type) bL hu J ao ag aM dd dk aJ dZ bC aW hx g5 ae ht (an▸dz _ (by simp[h,Op.operands,Call.operands])) (dz _ (by simp[h,Op.operands,Call.operands]))) fun au a6 al=>by simp[n4]at al;simp[execOp,h,resolve,invoke,builtin,al]
 | copy h hu ao dk aJ jX aW bC ht an=>
  rename_i ik b1 e d x R b i lg p9 m n l cs news
  exact fin (Se (ty:=U.type) (b1:=b1) bL hu ao dk aJ jX aW bC ht (an▸dz _ (by simp[h,Op.operands,Call.operands])) (dz _ (by simp[h,Op.operands,Call.operands]))) fun au a6 al=>by simp[execOp,h,resolve,invoke,builtin,al]
 | w0 h hu ao dk aJ an=>
  rename_i ik b1 e d x R lg p9 m a
  exact fin (Sf (ty:=U.type) (b1:=b1) bL hu ao dk aJ (an▸dz _ (by simp[h,Op.operands,Call.operands])) (dz _ (by simp[h,Op.operands,Call.operands]))) fun au a6 al=>by simp[execOp,h,resolve,invoke,builtin,al]
 | str h ao he aD kf dk=>exact fin (Sr bL ao he aD kf dk (dz _ (by simp[h,Op.operands]))) fun au a6 al=>by simp[execOp,h,al]
def fo(t:List Value):Operand->Value
 | .tmp i=>t.getD i undef
 | .const v=>v
 | .global g=> .pointer (some ⟨0,g,some 0⟩)
 | .func f=> .func (.func f) #[] #[]
def nH:Operand->Bool
 | .const v=>flat v
 | _=>true
def fj(t:List Value)(dst:Option Tmp)(v:Value):List Value:=match dst with
 | some d=>t.set d v
 | none=>t
def g_(ops:Array Oper)(t:List Value)(j:Nat):Option Bool:=
 match((ops[j]?).bind (·.dst)).bind (t[·]?)with
 | some (.bool b)=>some b
 | _=>none
inductive dP where
 | normal
 | exit (id:Nat)
 | ret
 deriving DecidableEq
def dP.real:dP->Exit
 | .normal=> .normal
 | .exit id=> .exit id
 | .ret=> .ret
inductive mz (P:Program) (t:List Value) (H:ab):List ResultVar->List Value->Prop
 | nil:mz P t H [] []
 | tmp {i:Nat} {rs:List ResultVar} {aG:List Value} (ao:mz P t H rs aG):mz P t H (.tmp i::rs) (t.getD i undef::aG)
 | z1 {a:Nat} {ty:TypeId} {b i:Nat} {X:bO} {cs:List Value} {v:Value} {rs:List ResultVar} {aG:List Value} (aL:dr P ty=some false) (J:t.getD a undef= .pointer (some ⟨b,i,none⟩)) (aW:H[b]?=some X) (ae:X.cells?=some cs) (an:cs[i]?=some v)
   (ao:mz P t H rs aG):mz P t H (.cell a ty::rs) (v::aG)
 | z2 {a:Nat} {ty:TypeId} {b i n:Nat} {X:bO} {cs:List Value} {rs:List ResultVar} {aG:List Value} (aL:dr P ty=some true) (aJ:bA P ty=some n) (J:t.getD a undef= .pointer (some ⟨b,i,none⟩)) (aW:H[b]?=some X) (ae:X.cells?=some cs) (bC:i+n<=cs.length)
   (ao:mz P t H rs aG):mz P t H (.cell a ty::rs) (.agg ((cs.drop i).take n).toArray::aG)
def bd(aG:List Value):Value:=match aG with
 | [v]=>v
 | _=> .tuple aG.toArray
def Ext(H aF:ab):Prop:=∃N,aF=H++N/\∀x∈N,∀e cs,x≠ .ro e cs
def SJ(ops:Array Oper):Bool:=ops.toList.zipIdx.all fun qM=>qM.1.after.all fun e=> !Region.binds .any e || decide (e.on<qM.2)
def Z9(ops:Array Oper)(m:Array Nat):Bool:=ops.toList.zipIdx.all fun qM=>(List.range ops.size).all fun j=>
 !(m.getD qM.2 0).testBit j || qM.1.after.any fun e=>Region.binds .any e&&(e.on==j || (decide (e.on<qM.2)&&(m.getD e.on 0).testBit j))
def o9(m:Array Nat)(i j:Nat):Bool:=(m.getD j 0).testBit i
def acg(ops:Array Oper)(m:Array Nat):Bool:=ops.toList.zipIdx.all fun pR=>ops.toList.zipIdx.all fun fx=> !decide (fx.2<pR.2) || o9 m fx.2 pR.2 ||
 ((match fx.1.dst with | some d=> !(pR.1.looksAt ops).contains d&&pR.1.dst !=some d | none=>true)&&(match pR.1.dst with | some d=> !(fx.1.looksAt ops).contains d | none=>true))
def gX(ops:Array Oper):Bool:=SJ ops&&Z9 ops (Region.before ops)&&acg ops (Region.before ops)
def eO(P:Program)(ops:Array Oper)(i:Nat):Bool:=ops.toList.zipIdx.all fun pR=>bW P pR.1 || decide (pR.2=i) || o9 (Region.before ops) (min i pR.2) (max i pR.2)
inductive pW where
 | code (c:Code) (t:List Value) (H:ab)
 | op (ops:Array Oper) (U:Oper) (t:List Value) (H:ab)
 | call (f:FuncId) (args:List Value) (H:ab)
inductive Out where
 | code (e:dP) (t:List Value) (H:ab)
 | val (v:Value) (H:ab)
def m0(H:ab)(b:Nat):Option bO->ab
 | some x=>H.set b x
 | none=>H
def o2(P:Program)(ops:Array Oper)(U:Oper)(t:List Value)(H:ab)(v:Value)(H1:ab):Option (Nat×Option bO)->Prop
 | none=>(Region.wanted U (g_ ops t)=false\/bW P U=true)/\H1=H
 | some (b,y)=>Region.wanted U (g_ ops t)=true/\bW P U=false/\b<H.length/\H[b]?≠some .dead/\H1=m0 H b y/\∀aF:ab,aF[b]?=H[b]?->fm P (fo t) aF U v (m0 aF b y)
inductive ee (P:Program):pW->Out->Prop
 | skip {t:List Value} {H:ab}:ee P (.code .skip t H) (.code .normal t H)
 | ret {t:List Value} {H:ab}:ee P (.code .ret t H) (.code .ret t H)
 | exit {id:Nat} {t:List Value} {H:ab}:ee P (.code (.exit id) t H) (.code (.exit id) t H)
 | Cn {a b:Code} {t t1:List Value} {H H1:ab} {e:dP} {t2:List Value} {aS:ab} (o:ee P (.code a t H) (.code .normal t1 H1)) (aa:ee P (.code b t1 H1) (.code e t2 aS)):ee P (.code (.seq a b) t H) (.code e t2 aS)
 | zb {a b:Code} {t t1:List Value} {H H1:ab} {e:dP} (o:ee P (.code a t H) (.code e t1 H1)) (he:e≠ .normal):ee P (.code (.seq a b) t H) (.code e t1 H1)
 | cond {c:Operand} {x y:Code} {b:Bool} {t t1:List Value} {H H1:ab} {e:dP} (ae:fo t c= .bool b) (ak:nH c=true) (h:ee P (.code (if b then x else y) t H) (.code e t1 H1)):ee P (.code (.cond c x y) t H) (.code e t1 H1)
 | block {id:Nat} {c:Code} {t t1:List Value} {H H1:ab} {e:dP} (h:ee P (.code c t H) (.code e t1 H1)):ee P (.code (.block id c) t H) (.code (if e= .exit id then .normal else e) t1 H1)
 | BV {c:Code} {t t1 t2:List Value} {H H1 aS:ab} {e:dP} (o:ee P (.code c t H) (.code .normal t1 H1)) (aa:ee P (.code (.loop c) t1 H1) (.code e t2 aS)):ee P (.code (.loop c) t H) (.code e t2 aS)
 | yS {c:Code} {t t1:List Value} {H H1:ab} {e:dP} (o:ee P (.code c t H) (.code e t1 H1)) (he:e≠ .normal):ee P (.code (.loop c) t H) (.code e t1 H1)
 | region {id:Nat} {ops:Array Oper} {draw:Bool} (T:Nat->List Value) (V:Nat->Value) (a3:Nat->ab) (ak:(ops.all fun U=>U.op.operands.all nH)=true)
   (h:∀(i:Nat) (U:Oper),ops[i]?=some U->ee P (.op ops U (T i) (a3 i)) (.val (V i) (a3 (i+1)))) (bf:∀(i:Nat) (U:Oper),ops[i]?=some U->T (i+1)=fj (T i) U.dst (V i))
   (aD:draw=true->gX ops=true/\∀(i:Nat) (U:Oper),ops[i]?=some U->bW P U=false->eO P ops i=true\/Ext (a3 i) (a3 (i+1))):ee P (.code (.region id ops draw) (T 0) (a3 0)) (.code .normal (T ops.size) (a3 ops.size))
 | Cj {id:Nat} {ops:Array Oper} {draw:Bool} (T:Nat->List Value) (V:Nat->Value) (a3:Nat->ab) (ep:Nat->Option (Nat×Option bO)) (ak:(ops.all fun U=>U.op.operands.all nH)=true)
   (h:∀(i:Nat) (U:Oper),ops[i]?=some U->ee P (.op ops U (T i) (a3 i)) (.val (V i) (a3 (i+1)))) (bf:∀(i:Nat) (U:Oper),ops[i]?=some U->T (i+1)=fj (T i) U.dst (V i)) (eF:gX ops=true)
   (ar:∀(i:Nat) (U:Oper),ops[i]?=some U->o2 P ops U (T i) (a3 i) (V i) (a3 (i+1)) (ep i)) (aD:∀(i j:Nat) (b:Nat) (x:bO) (y:Option bO),ep i=some (b,some x)->ep j=some (b,y)->i≠j->eO P ops i=true\/eO P ops j=true) (vM:∀j,ops.size<=j->ep j=none):
   ee P (.code (.region id ops draw) (T 0) (a3 0)) (.code .normal (T ops.size) (a3 ops.size))
 | tW {ops:Array Oper} {U:Oper} {t:List Value} {H:ab} (hw:Region.wanted U (g_ ops t)=false):ee P (.op ops U t H) (.val undef H)
 | v8 {ops:Array Oper} {U:Oper} {t:List Value} {H:ab} {v:Value} (hw:Region.wanted U (g_ ops t)=true) (a_:bW P U=true) (h:hV P (fo t) U v):ee P (.op ops U t H) (.val v H)
 | sb {ops:Array Oper} {U:Oper} {t:List Value} {H H1:ab} {v:Value} (hw:Region.wanted U (g_ ops t)=true) (a_:bW P U=false) (h:fm P (fo t) H U v H1):ee P (.op ops U t H) (.val v H1)
 | v7 {ops:Array Oper} {U:Oper} {t:List Value} {H H1:ab} {v:Value} {f:Operand} {args:Array Operand} {ld:Array TypeId} {g:FuncId} {first cap:Array Value} {fn:Func} (hw:Region.wanted U (g_ ops t)=true) (a_:bW P U=false)
   (aQ:U.op= .call {callee:= .value f,args:=args,argTypes:=ld}) (aB:fo t f= .func (.func g) first cap) (aX:P.funcs[g]?=some fn) (aJ:(fn.name== "runtime.NumGoroutine")=false) (ag:fn.body.isSome=true)
   (h:ee P (.call g (first.toList++args.toList.map (fo t)++cap.toList) H) (.val v H1)):ee P (.op ops U t H) (.val v H1)
 | call {f:FuncId} {fn:Func} {c:Code} {args t1 aG:List Value} {H H1:ab} {e:dP} (aB:P.funcs[f]?=some fn) (ag:fn.body=some c) (h:ee P (.code c (args++List.replicate (fn.ntmps-args.length) undef) H) (.code e t1 H1))
   (he:e= .normal\/e= .ret) (al:mz P t1 H1 fn.results.toList aG):ee P (.call f args H) (.val (bd aG) H1)
 | z0 {f:FuncId} {args:List Value} {v:Value} {H H1:ab} {b:Nat} (h:ee P (.call f args H) (.val v H1)) (aQ:hW H1 b):ee P (.call f args H) (.val v (H1.set b .dead))
def uy(P:Program)(base:Nat)(ops:Array Oper)(U:Oper)(t:List Value)(H:ab)(v:Value)(H1:ab):Prop:=
 (Region.wanted U (g_ ops t)=false/\v=undef/\H1=H)\/
 (Region.wanted U (g_ ops t)=true/\bW P U=true/\hV P (fo t) U v/\H1=H)\/
 (Region.wanted U (g_ ops t)=true/\bW P U=false/\∀(aj:bm) (w:World) (a:Act),(∀x∈U.op.operands,bo aj (fo t x) (a.eval x))->ct P base aj H w->∀(K:Act->World->Prop) (Q:Exit->Act->World->Prop),
  (∀bB au a6,bo bB v au->ct P base bB H1 a6->Step aj H w bB H1 a6->K (a.put U.dst au) a6)->U.wp P a w K Q)
def Sound(P:Program)(base:Nat):pW->Out->Prop
 | .code c t H,.code e t1 H1=>∀(aj:bm) (w:World) (a:Act),c0 aj t a.tmps.toList->a.defers=[]->ct P base aj H w->∀(Q:Exit->Act->World->Prop),
   (∀bB b4 a6,c0 bB t1 b4.tmps.toList->b4.defers=[]->ct P base bB H1 a6->Step aj H w bB H1 a6->Q e.real b4 a6)->c.wp P Q a w
 | .op ops U t H,.val v H1=>uy P base ops U t H v H1
 | .call f args H,.val v H1=>∀(aj:bm) (w:World) (lb:Array Value),c0 aj args lb.toList->ct P base aj H w->
   Calls P f lb w fun e gQ=>∃au bB,e= .returned au/\bo bB v au/\ct P base bB H1 gQ/\Step aj H w bB H1 gQ
 | _,_=>True
theorem zd{aj:bm}{t:List Value}{a:Act}(h:c0 aj t a.tmps.toList){x:Operand}(J:nH x=true):bo aj (fo t x) (a.eval x):=by
 cases x with
 | tmp i=>
  have:=h.getD i
  simpa[fo,Act.eval,Array.getD_eq_getD_getElem?,List.getD_eq_getElem?_getD]using this
 | const v=>exact uT aj J
 | global g=>exact .s5 g
 | func f=>exact .func _ rfl (fun i v au h=>by simp at h) rfl (fun i v au h=>by simp at h)
theorem aaO{aj:bm}{t:List Value}{a:Act}(h:c0 aj t a.tmps.toList)(dst:Option Tmp){v au:Value}(an:bo aj v au):c0 aj (fj t dst v) (a.put dst au).tmps.toList:=by
 cases dst with
 | none=>exact h
 | some d=>
  simp only[fj,Act.put,Array.toList_setIfInBounds]
  exact h.set d an
theorem put_defers(a:Act)(dst:Option Tmp)(v:Value):(a.put dst v).defers=a.defers:=by cases dst<;>rfl
theorem bo.hG{aj:bm}{v au:Value}(h:bo aj v au):(match(some v:Option Value)with | some (.bool b)=>some b | _=>(none:Option Bool))=match(some au:Option Value)with | some (.bool b)=>some b | _=>none:=by
 cases h<;>rfl
theorem agm{aj:bm}{t:List Value}{a:Act}(h:c0 aj t a.tmps.toList)(ops:Array Oper)(j:Nat):yielded ops a.tmps j=g_ ops t j:=by
 unfold yielded g_
 cases aD:(ops[j]?).bind (·.dst)with
 | none=>rfl
 | some d=>
  simp only[Option.bind_some]
  by_cases aZ:d<t.length
  ·have o:=bz aZ
   obtain⟨au,aa,aA⟩:=h.get o
   have uV:a.tmps[d]?=some au:=by simpa using aa
   rw[o,uV]
   exact aA.hG.symm
  ·have aH:t.length<=d:=Nat.le_of_not_lt aZ
   have o:t[d]?=none:=List.getElem?_eq_none aH
   have aa:a.tmps[d]?=none:=by
    have:=h.1
    rw[Array.getElem?_eq_none_iff]
    simp at this
    exact this▸aH
   rw[o,aa]
theorem Hn{U:Oper}{f g:Nat->Option Bool}(h:∀j b,U.guard=some (j,b)->f j=g j):Region.wanted U f=Region.wanted U g:=by
 unfold Region.wanted
 cases aX:U.guard with
 | none=>rfl
 | some NT=>simp only[h NT.1 NT.2 aX]
theorem Gi{P:Program}{base:Nat}{ops:Array Oper}{T:Nat->List Value}{V:Nat->Value}{a3:Nat->ab}{Q:Exit->Act->World->Prop}(ak:(ops.all fun U=>U.op.operands.all nH)=true)
  (h:∀(i:Nat) (U:Oper),ops[i]?=some U->uy P base ops U (T i) (a3 i) (V i) (a3 (i+1)))(bf:∀(i:Nat) (U:Oper),ops[i]?=some U->T (i+1)=fj (T i) U.dst (V i)){iH:bm}{ei:World}
  (aC:∀bB b4 a6,c0 bB (T ops.size) b4.tmps.toList->b4.defers=[]->ct P base bB (a3 ops.size) a6->Step iH (a3 0) ei bB (a3 ops.size) a6->Q .normal b4 a6):∀(m k:Nat),k+m=ops.size->∀(aj:bm) (a:Act) (w:World),c0 aj (T k) a.tmps.toList->a.defers=[]->
  ct P base aj (a3 k) w->Step iH (a3 0) ei aj (a3 k) w->wpOps P ops Q (List.range' k m) a w
 | 0,k,i_,aj,a,w,dm,h1,bL,dc=>by
  have:k=ops.size:=by omega
  subst this
  exact aC aj a w dm h1 bL dc
 | m+1,k,i_,aj,a,w,dm,h1,bL,dc=>by
  have aZ:k<ops.size:=by omega
  have aQ:ops[k]?=some ops[k]:=Array.getElem?_eq_getElem aZ
  have cd:∀x∈ops[k].op.operands,bo aj (fo (T k) x) (a.eval x):=fun x J=>zd dm (by
   have o:=Array.all_eq_true.1 ak k aZ
   simpa using Array.all_eq_true'.1 o x J)
  have hw:Region.wanted ops[k] (yielded ops a.tmps)=Region.wanted ops[k] (g_ ops (T k)):=Hn fun j _ _=>agm dm ops j
  rw[List.range'_succ,wpOps_cons]
  unfold wpOp
  simp only[aQ,hw]
  have next:∀bB au a6,bo bB (V k) au->ct P base bB (a3 (k+1)) a6->Step aj (a3 k) w bB (a3 (k+1)) a6->wpOps P ops Q (List.range' (k+1) m) (a.put ops[k].dst au) a6:=fun bB au a6 an hK mb=>by
   refine Gi ak h bf aC m (k+1) (by omega) bB _ a6 ?_ (by rw[put_defers];exact h1) hK (dc.trans mb)
   rw[bf k _ aQ]
   exact aaO (dm.ext mb.ext) _ an
  rcases h k _ aQ with⟨o,aa,aA⟩ | ⟨o,aa,aA,bj⟩ | ⟨o,aa,aA⟩
  ·rw[o]
   exact next aj undef w (aa▸bo.undef aj) (aA▸bL) (aA▸Step.refl _ _ _)
  ·rw[o]
   obtain⟨au,al,an⟩:=DI aA cd w
   refine .inl ?_
   unfold Oper.wp
   rw[al]
   exact next aj au w an (bj▸bL) (bj▸Step.refl _ _ _)
  ·rw[o]
   exact .inl (aA aj w a cd bL _ _ next)
end Go.dq
end
