/- Part of the proof of ShopShares. -/
import Derived.Test.YtoiodfcefbapkaaRows
import Derived.WalkKit
import Derived.ProofKit
import Derived.OpenShut
import Derived.ShutString
import Derived.ChangeOld
import Derived.Below
import Derived.Deep.Slices
import Derived.Orders
import Derived.Deep.LoopGhost
import Derived.Laws.BytesArg
import Derived.Test.YtoiodfcefbapkaaProg
import Derived.Laws.Strings
import Derived.ChangeArms
set_option linter.unusedVariables false
set_option linter.unusedSimpArgs false
section
namespace Go.b_
theorem bt{α:Type}{l:List α}{i:Nat}(h:i<l.length):l[i]?=some l[i]:=List.getElem?_eq_getElem h
theorem cc{α:Type}{l:List α}{i:Nat}{a:α}:l[i]?=some a↔∃h:i<l.length,l[i]=a:=List.getElem?_eq_some_iff
def dk(P:Program){α:Type}:Sem α->Option α
 | .pure a=>some a
 | .program k=>dk P (k P)
 | .mark _ k=>dk P k
 | _=>none
theorem qZ{P:Program}{α:Type}(s:Sem α)(a:α)(h:dk P s=some a)(w:World):s.run P w= .ok a w:=by
 induction s with
 | pure x=>simp[dk]at h;subst h;rfl
 | program k aW=>simp only[dk]at h;simp only[Sem.run];exact aW P h
 | mark m k aW=>simp only[dk]at h;simp only[Sem.run];exact aW h
 | _=>simp[dk]at h
def gD:Value->Bool
 | .bool _ | .int _ _ | .string _ | .float _ _ | .pointer none | .slice none 0 0 | .nilFunc | .nilIface | .map none=>true
 | _=>false
def flat(v:Value):Bool:=gD v || match v with
 | .agg cs=>cs.all gD
 | .tuple cs=>cs.all gD
 | .func (.func _) a b=>a.all gD&&b.all gD
 | _=>false
inductive bB where
 | own (e:TypeId) (loose:Bool) (cs:List Value)
 | ro (e:TypeId) (cs:List Value)
 | dead
abbrev ab:=List bB
def bB.cells?:bB->Option (List Value)
 | .own _ _ cs=>some cs
 | .ro _ cs=>some cs
 | .dead=>none
def hn(H:ab)(b:Nat):Prop:=∃e l cs,H[b]?=some (.own e l cs)
def k9(H:ab)(b:Nat):Prop:=∃x cs,H[b]?=some x/\x.cells?=some cs
theorem hn.live{H:ab}{b:Nat}(h:hn H b):k9 H b:=by
 obtain⟨e,l,cs,h⟩:=h
 exact⟨_,cs,h,rfl⟩
structure h8 where
 g:Nat
 U:Nat
 N:Nat
 R:Nat
 loose:Bool
abbrev bc:=Nat->Option h8
inductive bf (ai:bc):Value->Value->Prop
 | bool (b:Bool):bf ai (.bool b) (.bool b)
 | int (k:IntKind) (n:Int):bf ai (.int k n) (.int k n)
 | float (k:FloatKind) (n:Nat):bf ai (.float k n) (.float k n)
 | str (s:ByteArray):bf ai (.string s) (.string s)
 | Ag:bf ai (.pointer none) (.pointer none)
 | ptr {b i:Nat} {k:h8} (h:ai b=some k):bf ai (.pointer (some ⟨b,i,none⟩)) (.pointer (some ⟨k.g,k.U+i,none⟩))
 | rL (g:Nat):bf ai (.pointer (some ⟨0,g,some 0⟩)) (.pointer (some ⟨g,0,none⟩))
 | qS:bf ai (.slice none 0 0) (.slice none 0 0)
 | void (i:Nat) (a:Addr):bf ai (.slice (some ⟨0,i,none⟩) 0 0) (.slice (some a) 0 0)
 | empty {b i:Nat} (af:b≠0) (a:Addr) (c:Nat):bf ai (.slice (some ⟨b,i,none⟩) 0 0) (.slice (some a) 0 c)
 | slice {b i:Nat} {k:h8} {len cap dn:Nat} (h:ai b=some k) (ag:0<cap) (ar:len<=cap) (fH:cap<=dn) (I:k.loose=false->dn=cap)
   (cm:k.loose=true->k.U+i+dn*k.R<=k.N):bf ai (.slice (some ⟨b,i,none⟩) len cap) (.slice (some ⟨k.g,k.U+i,none⟩) len dn)
 | agg {xs bI:Array Value} (ar:xs.size=bI.size) (h:∀(i:Nat) (v av:Value),xs[i]?=some v->bI[i]?=some av->bf ai v av):bf ai (.agg xs) (.agg bI)
 | tuple {xs bI:Array Value} (ar:xs.size=bI.size) (h:∀(i:Nat) (v av:Value),xs[i]?=some v->bI[i]?=some av->bf ai v av):bf ai (.tuple xs) (.tuple bI)
 | func (fn:Fn) {xs bI u6 u7:Array Value} (ar:xs.size=bI.size) (h:∀(i:Nat) (v av:Value),xs[i]?=some v->bI[i]?=some av->bf ai v av)
   (dA:u6.size=u7.size) (b5:∀(i:Nat) (v av:Value),u6[i]?=some v->u7[i]?=some av->bf ai v av):bf ai (.func fn xs u6) (.func fn bI u7)
 | nilFunc:bf ai .nilFunc .nilFunc
 | iface (t:TypeId) {v av:Value} (h:bf ai v av):bf ai (.iface t v) (.iface t av)
 | nilIface:bf ai .nilIface .nilIface
 | Af:bf ai (.map none) (.map none)
def eT(ai:bc)(xs bI:Array Value):Prop:=xs.size=bI.size/\∀(i:Nat) (v av:Value),xs[i]?=some v->bI[i]?=some av->bf ai v av
def cF(ai:bc)(xs bI:List Value):Prop:=xs.length=bI.length/\∀(i:Nat) (v av:Value),xs[i]?=some v->bI[i]?=some av->bf ai v av
theorem bf.ext{ai bo:bc}(he:∀b k,ai b=some k->bo b=some k){v av:Value}(h:bf ai v av):bf bo v av:=by
 induction h with
 | bool b=>exact .bool b
 | int k n=>exact .int k n
 | float k n=>exact .float k n
 | str s=>exact .str s
 | Ag=>exact .Ag
 | ptr h=>exact .ptr (he _ _ h)
 | rL g=>exact .rL g
 | qS=>exact .qS
 | void i a=>exact .void i a
 | empty af a c=>exact .empty af a c
 | slice h ag ar fH I cm=>exact .slice (he _ _ h) ag ar fH I cm
 | agg ar _ aW=>exact .agg ar aW
 | tuple ar _ aW=>exact .tuple ar aW
 | func fn ar _ dA _ aW TY=>exact .func fn ar aW dA TY
 | nilFunc=>exact .nilFunc
 | iface t _ aW=>exact .iface t aW
 | nilIface=>exact .nilIface
 | Af=>exact .Af
theorem cF.ext{ai bo:bc}(he:∀b k,ai b=some k->bo b=some k){xs bI:List Value}(h:cF ai xs bI):cF bo xs bI:=⟨h.1,fun i v av I aL=>(h.2 i v av I aL).ext he⟩
theorem yG{ai:bc}{v av:Value}(ax:gD v=true)(h:bf ai v av):av=v:=by
 cases h<;>first | rfl | (simp[gD]at ax;done) | skip
theorem Ij(ai:bc){v:Value}(ax:gD v=true):bf ai v v:=by
 unfold gD at ax
 split at ax<;>first | constructor | (cases ax;done)
theorem eT.flat{ai:bc}{xs bI:Array Value}(ax:xs.all gD=true)(h:eT ai xs bI):bI=xs:=by
 apply Array.ext
 ·exact h.1.symm
 ·intro i iJ hQ
  have I:gD xs[i]=true:=by
   have:=Array.all_eq_true.1 ax i hQ
   simpa using this
  exact yG I (h.2 i _ _ (Array.getElem?_eq_getElem hQ) (Array.getElem?_eq_getElem iJ))
theorem eT.Aw(ai:bc){xs:Array Value}(ax:xs.all gD=true):eT ai xs xs:=by
 refine⟨rfl,fun i v av I aL=>?_⟩
 rw[I]at aL
 obtain rfl:=Option.some.inj aL
 obtain⟨ad,rfl⟩:=Array.getElem?_eq_some_iff.1 I
 exact Ij ai (by simpa using Array.all_eq_true.1 ax i ad)
theorem Il{ai:bc}{v av:Value}(ax:flat v=true)(h:bf ai v av):av=v:=by
 unfold flat at ax
 cases o:gD v
 ·rw[o]at ax
  simp only[Bool.false_or]at ax
  cases h with
  | agg ar h=>exact congrArg Value.agg (eT.flat ax ⟨ar,h⟩)
  | tuple ar h=>exact congrArg Value.tuple (eT.flat ax ⟨ar,h⟩)
  | func fn ar h dA b5=>
   cases fn<;>simp only[Bool.and_eq_true,reduceCtorEq]at ax
   rw[eT.flat ax.1 ⟨ar,h⟩,eT.flat ax.2 ⟨dA,b5⟩]
  | _=>simp at ax
 ·exact yG o h
theorem tm(ai:bc){v:Value}(ax:flat v=true):bf ai v v:=by
 unfold flat at ax
 cases o:gD v
 ·rw[o]at ax
  simp only[Bool.false_or]at ax
  split at ax
  ·exact .agg rfl (eT.Aw ai ax).2
  ·exact .tuple rfl (eT.Aw ai ax).2
  ·simp only[Bool.and_eq_true]at ax
   exact .func _ rfl (eT.Aw ai ax.1).2 rfl (eT.Aw ai ax.2).2
  ·cases ax
 ·exact Ij ai o
theorem bf.LC{ai:bc}{v av:Value}(h:bf ai v av):av.oneCell'=v.oneCell':=by cases h<;>rfl
theorem bf.undef(ai:bc):bf ai Go.undef Go.undef:= .tuple rfl fun i v av h=>by simp at h
theorem bf.cells{ai:bc}{v av:Value}(h:bf ai v av):eT ai v.cells av.cells:=by
 cases h with
 | agg ar h=>exact⟨ar,h⟩
 | _=>
  refine⟨rfl,fun i x ei I aL=>?_⟩
  obtain⟨ad,rfl⟩:=Array.getElem?_eq_some_iff.1 I
  obtain⟨aI,rfl⟩:=Array.getElem?_eq_some_iff.1 aL
  simp only[Value.cells,List.size_toArray,List.length_cons,List.length_nil]at ad aI
  obtain rfl:i=0:=by omega
  first
   | (simp only[Value.cells];constructor<;>assumption;done)
   | (constructor<;>assumption)
theorem eT.toList{ai:bc}{xs bI:Array Value}(h:eT ai xs bI):cF ai xs.toList bI.toList:=⟨by simpa using h.1,fun i v av I aL=>h.2 i v av (by simpa using I) (by simpa using aL)⟩
theorem cF.toArray{ai:bc}{xs bI:List Value}(h:cF ai xs bI):eT ai xs.toArray bI.toArray:=⟨by simpa using h.1,fun i v av I aL=>h.2 i v av (by simpa using I) (by simpa using aL)⟩
theorem cF.nil(ai:bc):cF ai [] []:=⟨rfl,fun i v av h=>by simp at h⟩
theorem cF.cons{ai:bc}{x y:Value}{xs bI:List Value}(h:bf ai x y)(an:cF ai xs bI):cF ai (x::xs) (y::bI):=by
 refine⟨by simp[an.1],fun i v av I aL=>?_⟩
 cases i with
 | zero=>simp at I aL;subst I;subst aL;exact h
 | succ i=>simp at I aL;exact an.2 i v av I aL
theorem cF.append{ai:bc}{xs bI u6 u7:List Value}(h:cF ai xs bI)(b5:cF ai u6 u7):cF ai (xs++u6) (bI++u7):=by
 refine⟨by simp[h.1,b5.1],fun i v av I aL=>?_⟩
 by_cases ad:i<xs.length
 ·rw[List.getElem?_append_left ad]at I
  rw[List.getElem?_append_left (by rw[<-h.1];exact ad)]at aL
  exact h.2 i v av I aL
 ·rw[List.getElem?_append_right (by omega)]at I
  rw[List.getElem?_append_right (by rw[<-h.1];omega),<-h.1]at aL
  exact b5.2 _ v av I aL
theorem cF.take{ai:bc}{xs bI:List Value}(h:cF ai xs bI)(n:Nat):cF ai (xs.take n) (bI.take n):=by
 refine⟨by simp[h.1],fun i v av I aL=>?_⟩
 rw[List.getElem?_take]at I aL
 split at I
 ·rename_i ad;rw[if_pos ad]at aL;exact h.2 i v av I aL
 ·cases I
theorem cF.drop{ai:bc}{xs bI:List Value}(h:cF ai xs bI)(n:Nat):cF ai (xs.drop n) (bI.drop n):=by
 refine⟨by simp[h.1],fun i v av I aL=>?_⟩
 rw[List.getElem?_drop]at I aL
 exact h.2 _ v av I aL
theorem cF.set{ai:bc}{xs bI:List Value}(h:cF ai xs bI)(n:Nat){x y:Value}(I:bf ai x y):cF ai (xs.set n x) (bI.set n y):=by
 refine⟨by simp[h.1],fun i v av ao dd=>?_⟩
 rw[List.getElem?_set]at ao dd
 by_cases aE:n=i
 ·subst aE
  rw[if_pos rfl]at ao dd
  rw[<-h.1]at dd
  split at ao
  ·rename_i a5;rw[if_pos a5]at dd;cases ao;cases dd;exact I
  ·cases ao
 ·rw[if_neg aE]at ao dd
  exact h.2 i v av ao dd
theorem cF.replicate(ai:bc)(n:Nat):cF ai (List.replicate n undef) (List.replicate n undef):=by
 refine⟨rfl,fun i v av I aL=>?_⟩
 rw[List.getElem?_replicate]at I aL
 split at I
 ·rename_i h;rw[if_pos h]at aL;cases I;cases aL;exact bf.undef ai
 ·cases I
theorem cF.get{ai:bc}{xs bI:List Value}(h:cF ai xs bI){i:Nat}{v:Value}(I:xs[i]?=some v):∃av,bI[i]?=some av/\bf ai v av:=by
 obtain⟨ad,rfl⟩:=cc.1 I
 have aI:i<bI.length:=by rw[<-h.1];exact ad
 exact⟨bI[i],bt aI,h.2 i _ _ (bt ad) (bt aI)⟩
theorem eT.get{ai:bc}{xs bI:Array Value}(h:eT ai xs bI){i:Nat}{v:Value}(I:xs[i]?=some v):∃av,bI[i]?=some av/\bf ai v av:=by
 obtain⟨av,o,aa⟩:=h.toList.get (i:=i) (v:=v) (by simpa using I)
 exact⟨av,by simpa using o,aa⟩
theorem cF.getD{ai:bc}{xs bI:List Value}(h:cF ai xs bI)(i:Nat):bf ai (xs.getD i undef) (bI.getD i undef):=by
 by_cases ad:i<xs.length
 ·obtain⟨av,o,aa⟩:=h.get (bt ad)
  simp only[List.getD_eq_getElem?_getD,o,bt ad,Option.getD_some]
  exact aa
 ·simp only[List.getD_eq_getElem?_getD]
  rw[List.getElem?_eq_none (by omega),List.getElem?_eq_none (by rw[<-h.1];omega)]
  exact bf.undef ai
def lH(dX:Nat×Nat)(N:Nat):Prop:=∀j,j<N->¬(dX.1<=j/\j<dX.2)
inductive kB (P:Program) (base:Nat) (ai:bc) (w:World) (k:h8):bB->Prop
 | own {e:TypeId} {l:Bool} {cs:List Value} {cur:Array Value} {dX:Nat×Nat} {inf:TypeInfo} (af:base<=k.g) (ar:k.loose=l) (ad:P.info? e=some inf) (an:inf.size=k.R)
   (aV:w.heap[k.g]?=some (.cells cur e dX)) (cm:cur.size=k.N) (ax:lH dX k.N) (bp:k.U+cs.length<=k.N)
   (ao:∀(i:Nat) (v:Value),cs[i]?=some v->∃av,cur[k.U+i]?=some av/\bf ai v av):kB P base ai w k (.own e l cs)
 | ro {e:TypeId} {cs:List Value} {inf:TypeInfo} (ad:P.info? e=some inf) (an:inf.size=k.R) (ao:∀(i:Nat) (v:Value),cs[i]?=some v->∃av,w.cell? ⟨k.g,k.U+i,none⟩=some av/\bf ai v av) (c0:k.g<w.heap.size):kB P base ai w k (.ro e cs)
 | dead:kB P base ai w k .dead
structure b9 (P:Program) (base:Nat) (ai:bc) (H:ab) (w:World):Prop where
 pos:0<H.length
 size:base<=w.heap.size
 ez:∀b k,ai b=some k->0<b/\b<H.length
 eO:∀b k x,ai b=some k->H[b]?=some x->kB P base ai w k x
 inj:∀b cb k bN,ai b=some k->ai cb=some bN->b≠cb->hn H b->k9 H cb->k.g≠bN.g
structure Step (ai:bc) (H:ab) (w:World) (bo:bc) (H1:ab) (a7:World):Prop where
 ext:∀b k,ai b=some k->bo b=some k
 new:∀b k,bo b=some k->ai b=some k\/H.length<=b
 len:H.length<=H1.length
 own:∀b k,bo b=some k->hn H1 b->w.heap.size<=k.g\/∃g8 iN,ai g8=some iN/\hn H g8/\iN.g=k.g
 os:a7.os=w.os
 tape:a7.tape=w.tape
 output:a7.output=w.output
 size:w.heap.size<=a7.heap.size
 frame:∀g,g<w.heap.size->(∀b k,ai b=some k->hn H b->k.g≠g)->a7.heap[g]?=w.heap[g]?
theorem Step.refl(ai:bc)(H:ab)(w:World):Step ai H w ai H w:=
 ⟨fun _ _ h=>h,fun _ _ h=> .inl h,Nat.le_refl _,fun b k h aM=> .inr ⟨b,k,h,aM,rfl⟩,rfl,rfl,rfl,Nat.le_refl _,fun _ _ _=>rfl⟩
theorem Step.trans{ai bo m2:bc}{H H1 a0:ab}{w a7 h6:World}(h:Step ai H w bo H1 a7)(b5:Step bo H1 a7 m2 a0 h6):Step ai H w m2 a0 h6 where
 ext b k af:=b5.ext b k (h.ext b k af)
 new b k af:=by
  rcases b5.new b k af with o | o
  ·exact h.new b k o
  ·exact .inr (Nat.le_trans h.len o)
 len:=Nat.le_trans h.len b5.len
 own b k af aM:=by
  rcases b5.own b k af aM with o | ⟨g8,iN,o,aa,aD⟩
  ·exact .inl (Nat.le_trans h.size o)
  ·rcases h.own g8 iN o aa with bD | ⟨gC,j8,bD,b2,gE⟩
   ·exact .inl (by omega)
   ·exact .inr ⟨gC,j8,bD,b2,by omega⟩
 os:=b5.os.trans h.os
 tape:=b5.tape.trans h.tape
 output:=b5.output.trans h.output
 size:=Nat.le_trans h.size b5.size
 frame g aV cG:=by
  rw[b5.frame g (Nat.lt_of_lt_of_le aV h.size) ?_,h.frame g aV cG]
  intro b k af aM e
  rcases h.own b k af aM with o | ⟨g8,iN,o,aa,aD⟩
  ·omega
  ·exact cG g8 iN o aa (by omega)
theorem BA{w a7:World}{a:Addr}(h:a7.heap[a.block]?=w.heap[a.block]?):a7.cell? a=w.cell? a:=by simp[World.cell?,h]
theorem kB.gi{P:Program}{base:Nat}{ai bo:bc}{w a7:World}{k:h8}{x:bB}(h:kB P base ai w k x)(he:∀b k,ai b=some k->bo b=some k)
  (hw:x.cells?≠none->a7.heap[k.g]?=w.heap[k.g]?)(wS:w.heap.size<=a7.heap.size):kB P base bo a7 k x:=by
 cases h with
 | own af ar ad an aV cm ax bp ao=>
  exact .own af ar ad an (by rw[hw (by simp[bB.cells?])];exact aV) cm ax bp fun i v ad=>let⟨av,o,aa⟩:=ao i v ad;⟨av,o,aa.ext he⟩
 | ro ad an ao c0=>
  refine .ro ad an (fun i v ad=>?_) (Nat.lt_of_lt_of_le c0 wS)
  obtain⟨av,o,aa⟩:=ao i v ad
  exact⟨av,by rw[BA (w:=w) (by exact hw (by simp[bB.cells?]))];exact o,aa.ext he⟩
 | dead=>exact .dead
theorem kB.lt{P:Program}{base:Nat}{ai:bc}{w:World}{k:h8}{x:bB}(h:kB P base ai w k x)(I:x.cells?≠none):k.g<w.heap.size:=by
 cases h with
 | own af ar ad an aV cm ax bp ao=>exact(Array.getElem?_eq_some_iff.1 aV).1
 | ro ad an ao c0=>exact c0
 | dead=>simp[bB.cells?]at I
theorem b9.heap{P:Program}{base:Nat}{ai:bc}{H:ab}{w a7:World}(h:b9 P base ai H w)(cR:a7.heap=w.heap):b9 P base ai H a7:=
 ⟨h.pos,by rw[cR];exact h.size,h.ez,fun b k x af I=>(h.eO b k x af I).gi (fun _ _ h=>h) (fun _=>by rw[cR]) (by rw[cR];exact Nat.le_refl _),h.inj⟩
theorem Step.drawn(ai:bc)(H:ab)(w:World)(n:Nat):Step ai H w ai H {w with drawn:=n}:=
 ⟨fun _ _ h=>h,fun _ _ h=> .inl h,Nat.le_refl _,fun b k h aM=> .inr ⟨b,k,h,aM,rfl⟩,rfl,rfl,rfl,Nat.le_refl _,fun _ _ _=>rfl⟩
def bc.put(ai:bc)(b:Nat)(k:h8):bc:=fun c=>if c=b then some k else ai c
theorem bc.mT(ai:bc)(b:Nat)(k:h8):ai.put b k b=some k:=by simp[bc.put]
theorem bc.kY(ai:bc){b c:Nat}(k:h8)(h:c≠b):ai.put b k c=ai c:=by simp[bc.put,h]
theorem b9.H_{P:Program}{base:Nat}{ai:bc}{H:ab}{w:World}(h:b9 P base ai H w)(k:h8):∀b bN,ai b=some bN->ai.put H.length k b=some bN:=fun b bN af=>by
 rw[bc.kY _ _ (by have:=(h.ez b bN af).2;omega)];exact af
theorem vG{H:ab}{x:bB}{b:Nat}(h:b<H.length):(H++[x])[b]?=H[b]?:=List.getElem?_append_left h
theorem Ir(H:ab)(x:bB):(H++[x])[H.length]?=some x:=by simp
theorem z3{H:ab}{x:bB}{b:Nat}(h:hn (H++[x]) b)(af:b≠H.length):hn H b:=by
 obtain⟨e,l,cs,h⟩:=h
 have a5:b<(H++[x]).length:=(cc.1 h).1
 simp at a5
 exact⟨e,l,cs,by rwa[vG (by omega)]at h⟩
theorem D4{H:ab}{x:bB}{b:Nat}(h:k9 (H++[x]) b)(af:b≠H.length):k9 H b:=by
 obtain⟨y,cs,h,ag⟩:=h
 have a5:b<(H++[x]).length:=(cc.1 h).1
 simp at a5
 exact⟨y,cs,by rwa[vG (by omega)]at h,ag⟩
theorem b9.alloc{P:Program}{base:Nat}{ai:bc}{H:ab}{w:World}(h:b9 P base ai H w){e:TypeId}{l:Bool}{cs:List Value}{cur:Array Value}{dX:Nat×Nat}{inf:TypeInfo}{R:Nat}
  (ad:P.info? e=some inf)(an:inf.size=R)(ax:lH dX cur.size)(bp:cs.length<=cur.size)(ao:∀(i:Nat) (v:Value),cs[i]?=some v->∃av,cur[i]?=some av/\bf ai v av):
  b9 P base (ai.put H.length ⟨w.heap.size,0,cur.size,R,l⟩) (H++[.own e l cs]) (w.alloc (.cells cur e dX))/\Step ai H w (ai.put H.length ⟨w.heap.size,0,cur.size,R,l⟩) (H++[.own e l cs]) (w.alloc (.cells cur e dX)):=by
 have hold:∀g,g<w.heap.size->(w.alloc (.cells cur e dX)).heap[g]?=w.heap[g]?:=fun g aV=>heap_alloc_old w _ aV
 have he:=h.H_ ⟨w.heap.size,0,cur.size,R,l⟩
 constructor
 ·refine⟨by simp,by simp;have:=h.size;omega,fun b k af=>?_,fun b k x af I=>?_,fun b cb k bN af cK cG aM dA=>?_⟩
  ·by_cases fG:b=H.length
   ·subst fG;exact⟨h.pos,by simp⟩
   ·rw[bc.kY _ _ fG]at af;have:=h.ez b k af;simp;omega
  ·by_cases fG:b=H.length
   ·subst fG
    rw[bc.mT]at af
    obtain rfl:=Option.some.inj af
    rw[Ir]at I
    obtain rfl:=Option.some.inj I
    exact .own h.size rfl ad an (heap_alloc_new w _) rfl ax (by simpa using bp) fun i v ag=>let⟨av,o,aa⟩:=ao i v ag;⟨av,by simpa using o,aa.ext he⟩
   ·rw[bc.kY _ _ fG]at af
    rw[vG (h.ez b k af).2]at I
    exact(h.eO b k x af I).gi he (fun w8=>hold _ ((h.eO b k x af I).lt w8)) (by simp)
  ·by_cases fG:b=H.length
   ·subst fG
    rw[bc.mT]at af
    obtain rfl:=Option.some.inj af
    have tK:cb≠H.length:=fun e=>cG e.symm
    rw[bc.kY _ _ tK]at cK
    obtain⟨y,HU,aL,ag⟩:=D4 dA tK
    have:=(h.eO cb bN y cK aL).lt (by rw[ag];simp)
    simp only;omega
   ·rw[bc.kY _ _ fG]at af
    have fe:=z3 aM fG
    by_cases tK:cb=H.length
    ·subst tK
     rw[bc.mT]at cK
     obtain rfl:=Option.some.inj cK
     obtain⟨ib,KX,vu,aL⟩:=fe
     have:=(h.eO b k _ af aL).lt (by simp[bB.cells?])
     simp only;omega
    ·rw[bc.kY _ _ tK]at cK
     exact h.inj b cb k bN af cK cG fe (D4 dA tK)
 ·refine⟨he,fun b k af=>?_,by simp,fun b k af aM=>?_,rfl,rfl,rfl,by simp,fun g aV _=>hold g aV⟩
  ·by_cases fG:b=H.length
   ·exact .inr (by omega)
   ·rw[bc.kY _ _ fG]at af;exact .inl af
  ·by_cases fG:b=H.length
   ·subst fG;rw[bc.mT]at af;obtain rfl:=Option.some.inj af;exact .inl (Nat.le_refl _)
   ·rw[bc.kY _ _ fG]at af;exact .inr ⟨b,k,af,z3 aM fG,rfl⟩
def hU(w:World)(g:Nat)(x:Obj):World:={w with heap:=w.heap.setIfInBounds g x}
theorem Et(w:World)(g:Nat)(x:Obj)(h:g<w.heap.size):(hU w g x).heap[g]?=some x:=by simp[hU,h]
theorem Ap(w:World)(g i:Nat)(x:Obj)(h:i≠g):(hU w g x).heap[i]?=w.heap[i]?:=by simp[hU,Array.getElem?_setIfInBounds_ne (Ne.symm h)]
theorem Aq(w:World)(g:Nat)(x:Obj):(hU w g x).heap.size=w.heap.size:=by simp[hU]
theorem xd{H:ab}{b c:Nat}{x:bB}(h:hn (H.set b x) c)(I:hn H b):hn H c:=by
 by_cases ag:b=c
 ·subst ag;exact I
 ·obtain⟨e,l,cs,h⟩:=h
  exact⟨e,l,cs,by rwa[List.getElem?_set_ne ag]at h⟩
theorem D5{H:ab}{b c:Nat}{x:bB}(h:k9 (H.set b x) c)(I:hn H b):k9 H c:=by
 by_cases ag:b=c
 ·subst ag;exact I.live
 ·obtain⟨y,cs,h,cR⟩:=h
  exact⟨y,cs,by rwa[List.getElem?_set_ne ag]at h,cR⟩
theorem b9.put{P:Program}{base:Nat}{ai:bc}{H:ab}{w:World}(h:b9 P base ai H w){b:Nat}{k:h8}{e:TypeId}{l:Bool}{cs eo:List Value}{lf:Array Value}{dX:Nat×Nat}
  (af:ai b=some k)(I:H[b]?=some (.own e l cs))(od:∃cur,w.heap[k.g]?=some (.cells cur e dX)/\lf.size=cur.size)(hlen:eo.length=cs.length)
  (ao:∀(i:Nat) (v:Value),eo[i]?=some v->∃av,lf[k.U+i]?=some av/\bf ai v av):
  b9 P base ai (H.set b (.own e l eo)) (hU w k.g (.cells lf e dX))/\Step ai H w ai (H.set b (.own e l eo)) (hU w k.g (.cells lf e dX)):=by
 obtain⟨cur,od,c0⟩:=od
 have jx:hn H b:=⟨e,l,cs,I⟩
 have a5:k.g<w.heap.size:=(Array.getElem?_eq_some_iff.1 od).1
 have cK:b<H.length:=(h.ez b k af).2
 constructor
 ·refine⟨by simpa using h.pos,by rw[Aq];exact h.size,fun c cB ag=>by simpa using h.ez c cB ag,fun c cB x ag hT=>?_,fun c dL cB uo ag lp cG aM dA=>h.inj c dL cB uo ag lp cG (xd aM jx) (D5 dA jx)⟩
  by_cases my:b=c
  ·subst my
   rw[af]at ag
   obtain rfl:=Option.some.inj ag
   rw[List.getElem?_set_self cK]at hT
   obtain rfl:=Option.some.inj hT
   cases h.eO b k _ af I with
   | own rW ar ad an aV cm ax bp DF=>
    rw[od]at aV
    injection aV with aV
    injection aV with og wA pd
    subst og;subst pd
    exact .own rW ar ad an (Et w _ _ a5) (by omega) ax (by omega) ao
  ·rw[List.getElem?_set_ne my]at hT
   have nv:=h.eO c cB x ag hT
   refine nv.gi (fun _ _ h=>h) (fun w8=>Ap w _ _ _ ?_) (by rw[Aq];exact Nat.le_refl _)
   obtain⟨ni,wo⟩:∃ni,x.cells?=some ni:=by cases au:x.cells? with | none=>exact absurd au w8 | some q=>exact⟨q,rfl⟩
   exact fun e=>h.inj b c k cB af ag my jx ⟨x,ni,hT,wo⟩ e.symm
 ·refine⟨fun _ _ h=>h,fun _ _ h=> .inl h,by simp,fun c cB ag aM=> .inr ⟨c,cB,ag,xd aM jx,rfl⟩,rfl,rfl,rfl,by rw[Aq];exact Nat.le_refl _,fun g aV cG=>?_⟩
  exact Ap w _ _ _ fun e=>cG b k af jx e.symm
theorem b9.kill{P:Program}{base:Nat}{ai:bc}{H:ab}{w:World}(h:b9 P base ai H w)(b:Nat)(jx:hn H b):b9 P base ai (H.set b .dead) w/\Step ai H w ai (H.set b .dead) w:=by
 have cK:b<H.length:=by obtain⟨e,l,cs,I⟩:=jx;exact(cc.1 I).1
 constructor
 ·refine⟨by simpa using h.pos,h.size,fun c cB ag=>by simpa using h.ez c cB ag,fun c cB x ag hT=>?_,fun c dL cB uo ag lp cG aM dA=>h.inj c dL cB uo ag lp cG (xd aM jx) (D5 dA jx)⟩
  by_cases my:b=c
  ·subst my
   rw[List.getElem?_set_self cK]at hT
   obtain rfl:=Option.some.inj hT
   exact .dead
  ·rw[List.getElem?_set_ne my]at hT
   exact h.eO c cB x ag hT
 ·exact⟨fun _ _ h=>h,fun _ _ h=> .inl h,by simp,fun c cB ag aM=> .inr ⟨c,cB,ag,xd aM jx,rfl⟩,rfl,rfl,rfl,Nat.le_refl _,fun _ _ _=>rfl⟩
theorem b9.Ef{P:Program}{base:Nat}{ai:bc}{H:ab}{w:World}(h:b9 P base ai H w){b i:Nat}{k:h8}{e:TypeId}{l c2:Bool}{cs eo:List Value}{lf:Array Value}{dX:Nat×Nat}
  (af:ai b=some k)(I:H[b]?=some (.own e l cs))(od:∃cur,w.heap[k.g]?=some (.cells cur e dX)/\lf.size=cur.size)(bp:k.U+i+eo.length<=lf.size)
  (ao:∀(j:Nat) (v:Value),eo[j]?=some v->∃av,lf[k.U+i+j]?=some av/\bf ai v av):
  b9 P base (ai.put H.length ⟨k.g,k.U+i,k.N,k.R,c2⟩) (H.set b .dead++[.own e c2 eo]) (hU w k.g (.cells lf e dX))/\
  Step ai H w (ai.put H.length ⟨k.g,k.U+i,k.N,k.R,c2⟩) (H.set b .dead++[.own e c2 eo]) (hU w k.g (.cells lf e dX)):=by
 obtain⟨cur,od,c0⟩:=od
 have jx:hn H b:=⟨e,l,cs,I⟩
 have a5:k.g<w.heap.size:=(Array.getElem?_eq_some_iff.1 od).1
 have cK:b<H.length:=(h.ez b k af).2
 have he:=h.H_ ⟨k.g,k.U+i,k.N,k.R,c2⟩
 have hlen:(H.set b .dead).length=H.length:=by simp
 have CT:∀{c},c≠H.length->k9 (H.set b .dead++[.own e c2 eo]) c->c≠b/\k9 H c:=by
  intro c ag ar
  have o:=D4 ar (by rw[hlen];exact ag)
  refine⟨fun e=>?_,D5 o jx⟩
  subst e
  obtain⟨y,HU,aL,RE⟩:=o
  rw[List.getElem?_set_self cK]at aL
  obtain rfl:=Option.some.inj aL
  simp[bB.cells?]at RE
 have wS:(hU w k.g (.cells lf e dX)).heap.size=w.heap.size:=Aq ..
 have zg:∀c cB x,ai c=some cB->H[c]?=some x->c≠b->kB P base (ai.put H.length ⟨k.g,k.U+i,k.N,k.R,c2⟩) (hU w k.g (.cells lf e dX)) cB x:=by
  intro c cB x ag hT my
  have nv:=h.eO c cB x ag hT
  refine nv.gi he (fun w8=>Ap w _ _ _ ?_) (by rw[wS];exact Nat.le_refl _)
  obtain⟨ni,wo⟩:∃ni,x.cells?=some ni:=by cases au:x.cells? with | none=>exact absurd au w8 | some q=>exact⟨q,rfl⟩
  exact fun e=>h.inj b c k cB af ag (Ne.symm my) jx ⟨x,ni,hT,wo⟩ e.symm
 constructor
 ·refine⟨by simp,by rw[wS];exact h.size,fun c cB ag=>?_,fun c cB x ag hT=>?_,fun c dL cB uo ag lp cG aM dA=>?_⟩
  ·by_cases fz:c=H.length
   ·subst fz;exact⟨h.pos,by simp⟩
   ·rw[bc.kY _ _ fz]at ag;have:=h.ez c cB ag;simp;omega
  ·by_cases fz:c=H.length
   ·subst fz
    rw[bc.mT]at ag
    obtain rfl:=Option.some.inj ag
    rw[<-hlen,Ir]at hT
    obtain rfl:=Option.some.inj hT
    cases h.eO b k _ af I with
    | own rW ar ad an aV cm ax CZ DF=>
     rw[od]at aV
     injection aV with aV
     injection aV with og wA pd
     subst og;subst pd
     exact .own rW rfl ad an (Et w _ _ a5) (by simp only;omega) ax (by simp only;omega) fun j v aI=>let⟨av,o,aa⟩:=ao j v aI;⟨av,o,aa.ext he⟩
   ·rw[bc.kY _ _ fz]at ag
    rw[vG (by rw[hlen];exact(h.ez c cB ag).2)]at hT
    by_cases my:b=c
    ·subst my
     rw[List.getElem?_set_self cK]at hT
     obtain rfl:=Option.some.inj hT
     exact .dead
    ·rw[List.getElem?_set_ne my]at hT
     exact zg c cB x ag hT (Ne.symm my)
  ·by_cases fz:c=H.length
   ·subst fz
    rw[bc.mT]at ag
    obtain rfl:=Option.some.inj ag
    have tN:dL≠H.length:=fun e=>cG e.symm
    rw[bc.kY _ _ tN]at lp
    obtain⟨o,aa⟩:=CT tN dA
    exact h.inj b dL k uo af lp (Ne.symm o) jx aa
   ·rw[bc.kY _ _ fz]at ag
    obtain⟨o,aa⟩:=CT fz aM.live
    have qB:=z3 aM (by rw[hlen];exact fz)
    have JT:hn H c:=by
     obtain⟨ib,KX,vu,aL⟩:=qB
     exact⟨ib,KX,vu,by rwa[List.getElem?_set_ne (Ne.symm o)]at aL⟩
    by_cases tN:dL=H.length
    ·subst tN
     rw[bc.mT]at lp
     obtain rfl:=Option.some.inj lp
     exact h.inj c b cB k ag af o JT jx.live
    ·rw[bc.kY _ _ tN]at lp
     exact h.inj c dL cB uo ag lp cG JT (CT tN dA).2
 ·refine⟨he,fun c cB ag=>?_,by simp,fun c cB ag aM=>?_,rfl,rfl,rfl,by rw[wS];exact Nat.le_refl _,fun g aV cG=>Ap w _ _ _ fun e=>cG b k af jx e.symm⟩
  ·by_cases fz:c=H.length
   ·exact .inr (by omega)
   ·rw[bc.kY _ _ fz]at ag;exact .inl ag
  ·by_cases fz:c=H.length
   ·subst fz;rw[bc.mT]at ag;obtain rfl:=Option.some.inj ag;exact .inr ⟨b,k,af,jx,rfl⟩
   ·rw[bc.kY _ _ fz]at ag
    exact .inr ⟨c,cB,ag,xd (z3 aM (by rw[hlen];exact fz)) jx,rfl⟩
theorem fp{P:Program}{α β:Type}(x:Sem α)(f:α->Sem β):dk P (x>>=f)=(dk P x).bind fun a=>dk P (f a):=by
 show dk P (x.bind f)=_
 induction x with
 | pure a=>rfl
 | program k aW=>simp only[Sem.bind,dk];exact aW P
 | mark m k aW=>simp only[Sem.bind,dk];exact aW
 | _=>simp[Sem.bind,dk]
theorem eQ{P:Program}{α:Type}(a:α):dk P (pure a:Sem α)=some a:=rfl
def bm(P:Program)(t:TypeId):Option Nat:=(P.info? t).map (·.size)
def dw(P:Program)(t:TypeId):Option Value:=(P.info? t).bind (·.zero)
def bytes?(P:Program)(t:TypeId):Option Nat:=(P.info? t).map (·.bytes)
theorem nO{P:Program}(t:TypeId):dk P (underlying t)=P.underlying t:=by
 unfold underlying
 rw[fp]
 show(some P).bind _=_
 simp only[Option.bind_some]
 cases h:P.underlying t<;>rfl
theorem LU{P:Program}(t:TypeId):dk P (typeInfo t)=P.info? t:=by
 unfold typeInfo
 rw[fp]
 show(some P).bind _=_
 simp only[Option.bind_some]
 cases h:P.info? t<;>rfl
theorem xy{P:Program}(t:TypeId):dk P (sizeOf t)=bm P t:=by
 unfold sizeOf
 rw[fp,LU]
 cases h:P.info? t<;>simp[bm,h,eQ]
theorem Es{P:Program}(t:TypeId):dk P (zeroValue t)=dw P t:=by
 unfold zeroValue
 rw[fp,LU]
 cases h:P.info? t with
 | none=>simp[dw,h]
 | some i=>cases aP:i.zero<;>simp[dw,h,aP]<;>rfl
theorem LR{P:Program}(t:TypeId):dk P (isAgg t)=(P.underlying t).map fun d=>match d with | .struct _ | .array _ _=>true | _=>false:=by
 unfold isAgg
 rw[fp,nO]
 cases h:P.underlying t with
 | none=>rfl
 | some d=>cases d<;>rfl
theorem kb{P:Program}{t:TypeId}{n:Nat}(h:bm P t=some n)(w:World):(sizeOf t).run P w= .ok n w:=qZ _ _ (by rw[xy];exact h) w
theorem Az{P:Program}{t:TypeId}{z:Value}(h:dw P t=some z)(w:World):(zeroValue t).run P w= .ok z w:=qZ _ _ (by rw[Es];exact h) w
theorem eT.set{ai:bc}{xs bI:Array Value}(h:eT ai xs bI)(n:Nat){x y:Value}(I:bf ai x y):eT ai (xs.setIfInBounds n x) (bI.setIfInBounds n y):=by
 have:=(h.toList.set n I).toArray
 rw[show xs.setIfInBounds n x=(xs.toList.set n x).toArray from by apply Array.ext';simp,show bI.setIfInBounds n y=(bI.toList.set n y).toArray from by apply Array.ext';simp]
 exact this
theorem Io{ai:bc}(off:Nat):∀(l c2:List Value) (j:Nat) (cs eo:Array Value),cF ai l c2->eT ai cs eo->
  eT ai ((l.zipIdx j).foldl (fun cs (p7:Value×Nat)=>cs.setIfInBounds (off+p7.2) p7.1) cs) ((c2.zipIdx j).foldl (fun cs (p7:Value×Nat)=>cs.setIfInBounds (off+p7.2) p7.1) eo)
 | [],[],_,_,_,_,h=>h
 | [],_::_,_,_,_,ar,_=>by simp[cF]at ar
 | _::_,[],_,_,_,ar,_=>by simp[cF]at ar
 | x::l,y::c2,j,cs,eo,ar,h=>by
  simp only[List.zipIdx_cons,List.foldl_cons]
  refine Io off l c2 (j+1) _ _ ⟨by simpa using ar.1,fun i v av ao dd=>ar.2 (i+1) v av (by simpa using ao) (by simpa using dd)⟩ (h.set _ ?_)
  exact ar.2 0 x y rfl rfl
theorem yF{ai:bc}{aK cu:Operand->Value}(place:Nat->Option (Nat×Nat)):∀(aU:List (Nat×Operand)) (cs eo out:Array Value),(∀p∈aU,bf ai (aK p.2) (cu p.2))->eT ai cs eo->
  Instr.fill place cs (aU.map fun p=>(p.1,aK p.2))=some out->∃gW,Instr.fill place eo (aU.map fun p=>(p.1,cu p.2))=some gW/\eT ai out gW
 | [],cs,eo,out,_,h,ax=>by
  simp[Instr.fill]at ax
  subst ax
  exact⟨eo,rfl,h⟩
 | (i,x)::aU,cs,eo,out,aR,h,ax=>by
  simp only[List.map_cons,Instr.fill]at ax⊢
  cases jd:place i with
  | none=>simp[jd]at ax
  | some os=>
   obtain⟨off,size⟩:=os
   simp only[jd]at ax⊢
   have ao:=(aR (i,x) (List.mem_cons_self)).cells
   by_cases ag:((aK x).cells.size≠size || decide (off+(aK x).cells.size>cs.size))=true
   ·rw[if_pos ag]at ax;cases ax
   ·rw[if_neg ag]at ax
    rw[if_neg (by rw[<-ao.1,<-h.1];exact ag)]
    refine yF place aU _ _ out (fun p hm=>aR p (List.mem_cons_of_mem _ hm)) ?_ ax
    have:=Io off (aK x).cells.toList (cu x).cells.toList 0 cs eo ao.toList h
    rw[<-Array.foldl_toList,<-Array.foldl_toList,Array.toList_zipIdx,Array.toList_zipIdx]
    exact this
theorem A8{ai:bc}{z:Value}(aP:flat z=true):eT ai z.cells z.cells:=(tm ai aP).cells
theorem Oc{P:Program}{ai:bc}{aK cu:Operand->Value}{t:TypeId}{aU:Array (Nat×Operand)}{z v:Value}(aP:dw P t=some z)(dt:flat z=true)(aR:∀p∈aU,bf ai (aK p.2) (cu p.2))
  (h:dk P (Instr.build t (aU.map fun p=>(p.1,aK p.2)))=some v):∃av,dk P (Instr.build t (aU.map fun p=>(p.1,cu p.2)))=some av/\bf ai v av:=by
 have qC:∀p∈aU.toList,bf ai (aK p.2) (cu p.2):=fun p hm=>aR p (by simpa using hm)
 have ar:∀r:Operand->Value,(aU.map fun p=>(p.1,r p.2)).toList=aU.toList.map fun p=>(p.1,r p.2):=fun r=>by simp
 unfold Instr.build at h⊢
 simp only[fp,Es,aP,Option.bind_some,nO]at h⊢
 cases hu:P.underlying t with
 | none=>simp[hu]at h
 | some d=>
  simp only[hu,Option.bind_some]at h⊢
  cases d with
  | struct fields=>
   simp only[fp]at h⊢
   cases hm:dk P (fields.mapM fun f=>do pure (f.offset,<-sizeOf f.type))with
   | none=>rw[hm]at h;simp at h
   | some l5=>
    rw[hm]at h
    simp only[Option.bind_some,ar]at h⊢
    cases ax:Instr.fill (fun x=>l5[x]?) z.cells (aU.toList.map fun p=>(p.1,aK p.2))with
    | none=>rw[ax]at h;simp[dk,stuck]at h
    | some out=>
     rw[ax]at h
     obtain⟨gW,o,aa⟩:=yF (cu:=cu) _ aU.toList _ _ out qC (A8 dt) ax
     rw[o]
     simp only[eQ,Option.some.injEq]at h⊢
     subst h
     exact⟨_,rfl,.agg aa.1 aa.2⟩
  | array n elem=>
   simp only[fp,xy]at h⊢
   cases an:bm P elem with
   | none=>rw[an]at h;simp at h
   | some size=>
    rw[an]at h
    simp only[Option.bind_some,ar]at h⊢
    cases ax:Instr.fill (fun i=>some (i*size,size)) z.cells (aU.toList.map fun p=>(p.1,aK p.2))with
    | none=>rw[ax]at h;simp[dk,stuck]at h
    | some out=>
     rw[ax]at h
     obtain⟨gW,o,aa⟩:=yF (cu:=cu) _ aU.toList _ _ out qC (A8 dt) ax
     rw[o]
     simp only[eQ,Option.some.injEq]at h⊢
     subst h
     exact⟨_,rfl,.agg aa.1 aa.2⟩
  | _=>simp[dk,stuck]at h
theorem eT.extract{ai:bc}{xs bI:Array Value}(h:eT ai xs bI)(i j:Nat):eT ai (xs.extract i j) (bI.extract i j):=by
 have:=((h.toList.take j).drop i).toArray
 rw[show xs.extract i j=((xs.toList.take j).drop i).toArray from by apply Array.ext';simp[Array.toList_extract,List.drop_take],show bI.extract i j=((bI.toList.take j).drop i).toArray from by apply Array.ext';simp[Array.toList_extract,List.drop_take]]
 exact this
theorem LJ{P:Program}{ai:bc}{t:TypeId}{xs bI:Array Value}{off:Nat}{v:Value}(I:eT ai xs bI)(h:dk P (part t xs off)=some v):∃av,dk P (part t bI off)=some av/\bf ai v av:=by
 unfold part at h⊢
 simp only[fp]at h⊢
 cases aF:dk P (isAgg t)with
 | none=>rw[aF]at h;simp at h
 | some b=>
  rw[aF]at h
  simp only[Option.bind_some]at h⊢
  cases b
  ·simp only[Bool.false_eq_true,if_false]at h⊢
   cases ag:xs[off]? with
   | none=>simp[ag,dk,stuck]at h
   | some c=>
    simp only[ag,eQ,Option.some.injEq]at h
    subst h
    obtain⟨av,o,aa⟩:=I.get ag
    simp only[o,eQ]
    exact⟨_,rfl,aa⟩
  ·simp only[if_true,fp,xy]at h⊢
   cases an:bm P t with
   | none=>rw[an]at h;simp at h
   | some n=>
    rw[an]at h
    simp only[Option.bind_some,eQ,Option.some.injEq]at h⊢
    subst h
    exact⟨_,rfl,.agg (I.extract _ _).1 (I.extract _ _).2⟩
def qP(P:Program)(t:TypeId):Bool:=match P.underlying t with
 | some (.int _)=>true
 | _=>false
def bF(P:Program)(U:Oper):Bool:=
 match U.op with
 | .move _ | .assign _ | .pick .. | .build .. | .nilCheck _ | .fieldAddr .. | .field .. | .indexAddr .. | .index .. | .extract .. | .makeFunc .. | .makeInterface .. | .binOp .. | .unOp .. =>true
 | .call {callee:= .builtin .len,.. } | .call {callee:= .builtin .max,.. } | .call {callee:= .builtin .min,.. }=>true
 | .convert s t _=>qP P s&&qP P t
 | _=>false
inductive hk (P:Program) (aK:Operand->Value) (U:Oper):Value->Prop
 | move {x:Operand} (h:U.op= .move x):hk P aK U (aK x)
 | assign {x:Operand} (h:U.op= .assign x):hk P aK U (aK x)
 | pick {c a b:Operand} {t:Bool} (h:U.op= .pick c a b) (ag:aK c= .bool t):hk P aK U (if t then aK a else aK b)
 | pure {v:Value} (a2:bF P U=true) (ax:(U.op.operands.all fun x=>flat (aK x))=true) (ao:flat v=true) (h:dk P (execOp aK U)=some (.value v)):hk P aK U v
 | build {t:TypeId} {aU:Array (Nat×Operand)} {z v:Value} (h:U.op= .build t aU) (aP:dw P t=some z) (dt:flat z=true) (aj:dk P (Instr.build t (aU.map fun p=>(p.1,aK p.2)))=some v):hk P aK U v
 | nilCheck {x:Operand} {a:Addr} (h:U.op= .nilCheck x) (I:aK x= .pointer (some a)):hk P aK U (aK x)
 | fieldAddr {s:TypeId} {x:Operand} {f b i n:Nat} {jq:Array Field} {fd:Field} (h:U.op= .fieldAddr s x f) (hu:P.underlying s=some (.struct jq)) (ax:jq[f]?=some fd) (an:bm P fd.type=some (n+1))
   (I:aK x= .pointer (some ⟨b,i,none⟩)):hk P aK U (.pointer (some ⟨b,i+fd.offset,none⟩))
 | field {t:TypeId} {x:Operand} {f:Nat} {cs:Array Value} {v:Value} (h:U.op= .field t x f) (I:aK x= .agg cs) (aj:dk P (Instr.field t (.agg cs) f)=some v):hk P aK U v
 | KM {t e:TypeId} {x ey:Operand} {b i len cap R:Nat} {k:IntKind} {n:Int} (h:U.op= .indexAddr t x ey) (hu:P.underlying t=some (.slice e)) (an:bm P e=some R) (I:aK x= .slice (some ⟨b,i,none⟩) len cap)
   (ad:aK ey= .int k n) (aH:0<=n) (o:n<len):hk P aK U (.pointer (some ⟨b,i+n.toNat*R,none⟩))
 | TZ {t e:TypeId} {x ey:Operand} {b i len R:Nat} {k:IntKind} {n:Int} (h:U.op= .indexAddr t x ey) (hu:P.underlying t=some (.array len e)) (an:bm P e=some R) (I:aK x= .pointer (some ⟨b,i,none⟩))
   (ad:aK ey= .int k n) (aH:0<=n) (o:n<len):hk P aK U (.pointer (some ⟨b,i+n.toNat*R,none⟩))
 | index {t e:TypeId} {x ey:Operand} {len R:Nat} {k:IntKind} {n:Int} {cs:Array Value} {v:Value} (h:U.op= .index t x ey) (hu:P.underlying t=some (.array len e)) (an:bm P e=some R) (I:aK x= .agg cs)
   (ad:aK ey= .int k n) (aH:0<=n) (o:n<len) (aj:dk P (part e cs (n.toNat*R))=some v):hk P aK U v
 | extract {x:Operand} {i:Nat} {aB:Array Value} {v:Value} (h:U.op= .extract x i) (I:aK x= .tuple aB) (ao:aB[i]?=some v):hk P aK U v
 | KZ {x:Operand} {t e:TypeId} {a:Option Addr} {n c:Nat} (h:U.op= .call {callee:= .builtin .len,args:= #[x],argTypes:= #[t]}) (hu:P.underlying t=some (.slice e)) (I:aK x= .slice a n c):hk P aK U (.int .i64 n)
 | makeFunc {fn:Fn} {a b:Array Operand} (h:U.op= .makeFunc fn a b):hk P aK U (.func fn (a.map aK) (b.map aK))
 | Le {t:TypeId} {x:Operand} (h:U.op= .makeInterface t x) (ag:P.concrete t=true):hk P aK U (.iface t (aK x))
 | H9 {t e oP:TypeId} {x y:Operand} {a:Option Addr} {n c:Nat} (h:U.op= .binOp .eql t x y oP) (hu:P.underlying t=some (.slice e)) (I:aK x= .slice a n c) (aL:aK y= .slice none 0 0):hk P aK U (.bool a.isNone)
 | Lw {t e oP:TypeId} {x y:Operand} {a:Option Addr} {n c:Nat} (h:U.op= .binOp .neq t x y oP) (hu:P.underlying t=some (.slice e)) (I:aK x= .slice a n c) (aL:aK y= .slice none 0 0):hk P aK U (.bool (!a.isNone))
theorem eT.map{ai:bc}{aK cu:Operand->Value}(xs:Array Operand)(h:∀x∈xs,bf ai (aK x) (cu x)):eT ai (xs.map aK) (xs.map cu):=by
 refine⟨by simp,fun i v av ao dd=>?_⟩
 simp only[Array.getElem?_map,Option.map_eq_some_iff]at ao dd
 obtain⟨x,I,rfl⟩:=ao
 obtain⟨y,aL,rfl⟩:=dd
 rw[I]at aL
 obtain rfl:=Option.some.inj aL
 exact h x (Array.mem_of_getElem? I)
theorem bf.nJ{ai:bc}{k:IntKind}{n:Int}{v:Value}(h:bf ai (.int k n) v):v= .int k n:=by cases h;rfl
theorem bf.Hv{ai:bc}{b:Bool}{v:Value}(h:bf ai (.bool b) v):v= .bool b:=by cases h;rfl
theorem bf.qY{ai:bc}{b i:Nat}{v:Value}(h:bf ai (.pointer (some ⟨b,i,none⟩)) v):∃k,ai b=some k/\v= .pointer (some ⟨k.g,k.U+i,none⟩):=by
 cases h with
 | ptr h=>exact⟨_,h,rfl⟩
theorem bf.Hp{ai:bc}{cs:Array Value}{v:Value}(h:bf ai (.agg cs) v):∃eo,v= .agg eo/\eT ai cs eo:=by
 cases h with
 | agg ar h=>exact⟨_,rfl,ar,h⟩
theorem bf.Yc{ai:bc}{cs:Array Value}{v:Value}(h:bf ai (.tuple cs) v):∃eo,v= .tuple eo/\eT ai cs eo:=by
 cases h with
 | tuple ar h=>exact⟨_,rfl,ar,h⟩
theorem bf.AJ{ai:bc}{b i len cap:Nat}{v:Value}(h:bf ai (.slice (some ⟨b,i,none⟩) len cap) v)(aH:0<len):
  ∃k dn,ai b=some k/\v= .slice (some ⟨k.g,k.U+i,none⟩) len dn/\len<=cap/\cap<=dn/\(k.loose=false->dn=cap)/\(k.loose=true->k.U+i+dn*k.R<=k.N):=by
 cases h with
 | void=>omega
 | empty=>omega
 | slice h ag ar fH I cm=>exact⟨_,_,h,rfl,ar,fH,I,cm⟩
theorem bf.pN{ai:bc}{a:Option Addr}{len cap:Nat}{v:Value}(h:bf ai (.slice a len cap) v):∃ek dn,v= .slice ek len dn/\len<=dn/\len<=cap/\cap<=dn/\ek.isNone=a.isNone:=by
 cases h with
 | qS=>exact⟨_,_,rfl,Nat.le_refl _,Nat.le_refl _,Nat.le_refl _,rfl⟩
 | void=>exact⟨_,_,rfl,Nat.le_refl _,Nat.le_refl _,Nat.le_refl _,rfl⟩
 | empty=>exact⟨_,_,rfl,Nat.zero_le _,Nat.le_refl _,Nat.zero_le _,rfl⟩
 | slice h ag ar fH I cm=>exact⟨_,_,rfl,Nat.le_trans ar fH,ar,fH,rfl⟩
theorem oY{g U n:Nat}:(⟨g,U,none⟩:Addr).add n=⟨g,U+n,none⟩:=by unfold Addr.add;split<;>simp_all
theorem Me{P:Program}(w:World)(d:Nat)(t e:TypeId)(a:Option Addr)(n c:Nat)(h:P.underlying t=some (.slice e)):
  (Op.equalIn (d+1) t (.slice a n c) (.slice none 0 0)).run P w= .ok a.isNone w:=by
 cases a<;>simp[Op.equalIn,run_underlying h]
theorem Xh{P:Program}(w:World)(t e:TypeId)(a:Option Addr)(n c:Nat)(h:P.underlying t=some (.slice e)):
  (binOp .eql t (.slice a n c) (.slice none 0 0)).run P w= .ok (.bool a.isNone) w:=by
 simp only[binOp]
 simp[Op.equal,Op.maxDepth,Me w 9999 t e a n c h]
theorem Xi{P:Program}(w:World)(t e:TypeId)(a:Option Addr)(n c:Nat)(h:P.underlying t=some (.slice e)):
  (binOp .neq t (.slice a n c) (.slice none 0 0)).run P w= .ok (.bool (!a.isNone)) w:=by
 simp only[binOp]
 simp[Op.equal,Op.maxDepth,Me w 9999 t e a n c h]
theorem BU{P:Program}{aK cu:Operand->Value}{U:Oper}{v:Value}{ai:bc}(h:hk P aK U v)(c9:∀x∈U.op.operands,bf ai (aK x) (cu x))(w:World):
  ∃av,(execOp cu U).run P w= .ok (.value av) w/\bf ai v av:=by
 cases h with
 | move h=>exact⟨_,by simp[execOp,h],c9 _ (by simp[h,Op.operands])⟩
 | assign h=>exact⟨_,by simp[execOp,h],c9 _ (by simp[h,Op.operands])⟩
 | pick h ag=>
  rename_i c a b t
  have o:=(ag▸c9 c (by simp[h,Op.operands])).Hv
  refine⟨if t then cu a else cu b,by simp[execOp,h,o,asBool],?_⟩
  cases t
  ·exact c9 b (by simp[h,Op.operands])
  ·exact c9 a (by simp[h,Op.operands])
 | pure a2 ax ao h=>
  have he:execOp aK U=execOp cu U:=by
   refine execOp_congr U (fun cs b e=>?_) fun x I=>(Il (by simpa using Array.all_eq_true'.1 ax x I) (c9 x I)).symm
   simp[bF,e]at a2
  exact⟨v,qZ _ _ (he▸h) w,tm ai ao⟩
 | build h aP dt aj=>
  rename_i t aU z
  obtain⟨av,o,aa⟩:=Oc (cu:=cu) aP dt (fun p aR=>c9 p.2 (by simp[h,Op.operands];exact⟨p.1,by simpa using aR⟩)) aj
  exact⟨av,by simp[execOp,h,qZ _ _ o w],aa⟩
 | nilCheck h I=>
  rename_i x a
  have o:=c9 x (by simp[h,Op.operands])
  rw[I]at o⊢
  obtain⟨ek,he⟩:∃ek,cu x= .pointer (some ek):=by
   generalize cu x=u at o
   cases o<;>exact⟨_,rfl⟩
  exact⟨cu x,by simp[execOp,h,he],o⟩
 | fieldAddr h hu ax an I=>
  rename_i s x f b i n jq fd
  obtain⟨k,ah,he⟩:=(I▸c9 x (by simp[h,Op.operands])).qY
  refine⟨_,?_,.ptr (i:=i+fd.offset) ah⟩
  simp[execOp,h,he,Instr.fieldAt,run_underlying hu,ax,Instr.sureAddr,fieldPlace,kb an,oY,Nat.add_assoc]
 | field h I aj=>
  rename_i t x f cs
  obtain⟨eo,he,wi⟩:=(I▸c9 x (by simp[h,Op.operands])).Hp
  unfold Instr.field at aj
  simp only[fp,nO]at aj
  cases hu:P.underlying t with
  | none=>simp[hu]at aj
  | some d=>
   simp only[hu,Option.bind_some]at aj
   cases d with
   | struct fields=>
    simp only at aj
    cases CX:fields[f]? with
    | none=>simp[CX,dk,stuck]at aj
    | some fd=>
     simp only[CX,asAgg,fp,eQ,Option.bind_some]at aj
     obtain⟨av,o,aa⟩:=LJ wi aj
     exact⟨av,by simp[execOp,h,he,Instr.field,run_underlying hu,CX,asAgg,qZ _ _ o w],aa⟩
   | _=>simp[dk,stuck]at aj
 | KM h hu an I ad aH o=>
  rename_i t e x ey b i len cap R k n
  obtain⟨VF,dn,ah,he,-⟩:=(I▸c9 x (by simp[h,Op.operands])).AJ (by omega)
  have km:=(ad▸c9 ey (by simp[h,Op.operands])).nJ
  refine⟨_,?_,.ptr (i:=i+n.toNat*R) ah⟩
  simp[execOp,h,he,km,Instr.indexAt,asIntOf,run_underlying hu,kb an,aH,o,oY,Nat.add_assoc]
 | TZ h hu an I ad aH o=>
  rename_i t e x ey b i len R k n
  obtain⟨VF,ah,he⟩:=(I▸c9 x (by simp[h,Op.operands])).qY
  have km:=(ad▸c9 ey (by simp[h,Op.operands])).nJ
  refine⟨_,?_,.ptr (i:=i+n.toNat*R) ah⟩
  simp[execOp,h,he,km,Instr.indexAt,Instr.sureAddr,asIntOf,run_underlying hu,kb an,aH,o,oY,Nat.add_assoc]
 | index h hu an I ad aH o aj=>
  rename_i t e x ey len R k n cs
  obtain⟨eo,he,wi⟩:=(I▸c9 x (by simp[h,Op.operands])).Hp
  have km:=(ad▸c9 ey (by simp[h,Op.operands])).nJ
  obtain⟨av,aR,aa⟩:=LJ wi aj
  exact⟨av,by simp[execOp,h,he,km,Instr.index,asIntOf,run_underlying hu,kb an,aH,o,qZ _ _ aR w],aa⟩
 | extract h I ao=>
  rename_i x i aB
  obtain⟨eo,he,wi⟩:=(I▸c9 x (by simp[h,Op.operands])).Yc
  obtain⟨av,o,aa⟩:=wi.get ao
  exact⟨av,by simp[execOp,h,he,Instr.extract,o],aa⟩
 | KZ h hu I=>
  rename_i x t e a n c
  obtain⟨ek,dL,he,-⟩:=(I▸c9 x (by simp[h,Op.operands,Call.operands])).pN
  exact⟨_,by simp[execOp,h,he,resolve,invoke,builtin,Builtin.len_,run_underlying hu,goInt],.int _ _⟩
 | makeFunc h=>
  rename_i fn a b
  have o:=eT.map a (ai:=ai) (aK:=aK) (cu:=cu) fun x I=>c9 x (by simp[h,Op.operands,I])
  have aa:=eT.map b (ai:=ai) (aK:=aK) (cu:=cu) fun x I=>c9 x (by simp[h,Op.operands,I])
  exact⟨_,by simp[execOp,h,Instr.makeFunc],.func fn o.1 o.2 aa.1 aa.2⟩
 | Le h ag=>
  rename_i t x
  exact⟨_,by simp[execOp,h,run_makeInterface w t _ ag],.iface t (c9 x (by simp[h,Op.operands]))⟩
 | H9 h hu I aL=>
  rename_i t e oP x y a n c
  obtain⟨ek,dL,he,-,-,-,aE⟩:=(I▸c9 x (by simp[h,Op.operands])).pN
  have pz:=yG rfl (aL▸c9 y (by simp[h,Op.operands]))
  refine⟨.bool a.isNone,?_,.bool _⟩
  rw[<-aE]
  simp[execOp,h,he,pz,eqGuard,Xh w t e ek n dL hu]
 | Lw h hu I aL=>
  rename_i t e oP x y a n c
  obtain⟨ek,dL,he,-,-,-,aE⟩:=(I▸c9 x (by simp[h,Op.operands])).pN
  have pz:=yG rfl (aL▸c9 y (by simp[h,Op.operands]))
  refine⟨.bool (!a.isNone),?_,.bool _⟩
  rw[<-aE]
  simp[execOp,h,he,pz,eqGuard,Xi w t e ek n dL hu]
def da(P:Program)(t:TypeId):Option Bool:=(P.underlying t).map fun d=>match d with | .struct _ | .array _ _=>true | _=>false
theorem Ay{P:Program}{t:TypeId}{b:Bool}(h:da P t=some b)(w:World):(isAgg t).run P w= .ok b w:=qZ _ _ (by rw[LR];exact h) w
def bB.elem?:bB->Option TypeId
 | .own e _ _=>some e
 | .ro e _=>some e
 | .dead=>none
theorem b9.cell{P:Program}{base:Nat}{ai:bc}{H:ab}{w:World}(h:b9 P base ai H w){b j:Nat}{k:h8}{x:bB}{cs:List Value}{v:Value}(af:ai b=some k)(I:H[b]?=some x)(ag:x.cells?=some cs)
  (aI:cs[j]?=some v):∃av,w.cell? ⟨k.g,k.U+j,none⟩=some av/\bf ai v av:=by
 cases h.eO b k x af I with
 | own rW ar ad an aV cm ax bp ao=>
  simp only[bB.cells?,Option.some.injEq]at ag
  subst ag
  obtain⟨av,o,aa⟩:=ao j v aI
  exact⟨av,by simp[World.cell?,aV,o],aa⟩
 | ro ad an ao c0=>
  simp only[bB.cells?,Option.some.injEq]at ag
  subst ag
  exact ao j v aI
 | dead=>simp[bB.cells?]at ag
theorem b9.cells{P:Program}{base:Nat}{ai:bc}{H:ab}{w:World}(h:b9 P base ai H w){b i n:Nat}{k:h8}{x:bB}{cs:List Value}(af:ai b=some k)(I:H[b]?=some x)(ag:x.cells?=some cs)
  (bp:i+n<=cs.length):∃aB:List Value,aB.length=n/\(∀(j:Nat) (v:Value),aB[j]?=some v->w.cell? ((⟨k.g,k.U+i,none⟩:Addr).add j)=some v)/\cF ai ((cs.drop i).take n) aB:=by
 have key:∀j,j<n->∃v av,cs[i+j]?=some v/\w.cell? ⟨k.g,k.U+(i+j),none⟩=some av/\bf ai v av:=fun j aI=>by
  have a5:i+j<cs.length:=by omega
  obtain⟨av,o,aa⟩:=h.cell af I ag (bt a5)
  exact⟨_,av,bt a5,o,aa⟩
 refine⟨(List.range n).map fun j=>(w.cell? ⟨k.g,k.U+(i+j),none⟩).getD undef,by simp,fun j v aI=>?_,?_,fun j v av ao dd=>?_⟩
 ·have a5:j<n:=by have:=(cc.1 aI).1;simpa using this
  obtain⟨_,av,_,o,_⟩:=key j a5
  simp[a5,o]at aI
  rw[oY,Nat.add_assoc,o,aI]
 ·simp;omega
 ·have a5:j<n:=by have:=(cc.1 dd).1;simpa using this
  obtain⟨u,aae,aH,o,aa⟩:=key j a5
  simp[a5,o]at dd
  rw[List.getElem?_take_of_lt a5,List.getElem?_drop,aH]at ao
  cases ao
  subst dd
  exact aa
def c3(cs:List Value)(i:Nat)(aB:List Value):List Value:=cs.take i++aB++cs.drop (i+aB.length)
theorem mW{cs aB:List Value}{i:Nat}(h:i+aB.length<=cs.length):(c3 cs i aB).length=cs.length:=by simp[c3];omega
theorem XR(cs:List Value)(i:Nat):c3 cs i []=cs:=by simp[c3]
theorem XS{cs:List Value}{i:Nat}(v:Value)(h:i<cs.length):c3 cs i [v]=cs.set i v:=by
 simp only[c3,List.length_cons,List.length_nil]
 rw[List.set_eq_take_append_cons_drop,if_pos h]
 simp
theorem XQ(cs aB:List Value)(i:Nat)(v:Value)(h:i+1+aB.length<=cs.length):c3 (cs.set i v) (i+1) aB=c3 cs i (v::aB):=by
 simp only[c3,List.length_cons]
 rw[List.set_eq_take_append_cons_drop,if_pos (by omega)]
 have o:(cs.take i).length=i:=by simp;omega
 have bq:(cs.take i++v::cs.drop (i+1)).take (i+1)=cs.take i++[v]:=by
  rw[List.take_append,List.take_of_length_le (by omega),o]
  simp[show i+1-i=1 by omega]
 have bh:(cs.take i++v::cs.drop (i+1)).drop (i+1+aB.length)=cs.drop (i+(aB.length+1)):=by
  rw[List.drop_append,List.drop_eq_nil_of_le (by omega),o,List.nil_append,show i+1+aB.length-i=aB.length+1 by omega,List.drop_succ_cons,List.drop_drop]
  congr 1
  omega
 rw[bq,bh]
 simp
theorem q6{cs aB:List Value}{i j:Nat}(h:i+aB.length<=cs.length):(c3 cs i aB)[j]?=if i<=j/\j<i+aB.length then aB[j-i]? else cs[j]?:=by
 simp only[c3]
 have o:(cs.take i).length=i:=by simp;omega
 by_cases aI:j<i
 ·rw[if_neg (by omega),List.append_assoc,List.getElem?_append_left (by omega),List.getElem?_take_of_lt aI]
 ·by_cases lv:j<i+aB.length
  ·rw[if_pos ⟨by omega,lv⟩,List.append_assoc,List.getElem?_append_right (by omega),o,List.getElem?_append_left (by omega)]
  ·rw[if_neg (by omega),List.getElem?_append_right (by simp;omega),List.getElem?_drop]
   congr 1
   simp
   omega
theorem XT{ai:bc}{cs:List Value}{cur:Array Value}{aB hh:List Value}{U i:Nat}(ao:∀(j:Nat) (v:Value),cs[j]?=some v->∃av,cur[U+j]?=some av/\bf ai v av)(ar:cF ai aB hh)(bp:i+aB.length<=cs.length)
  (od:U+cs.length<=cur.size):∀(j:Nat) (v:Value),(c3 cs i aB)[j]?=some v->∃av,(c3 cur.toList (U+i) hh).toArray[U+j]?=some av/\bf ai v av:=by
 intro j v aI
 rw[q6 bp]at aI
 have e:(c3 cur.toList (U+i) hh).toArray[U+j]?=(c3 cur.toList (U+i) hh)[U+j]?:=by simp
 rw[e,q6 (by rw[<-ar.1];simp;omega),<-ar.1]
 split at aI
 ·rename_i ag
  rw[if_pos (by omega),show U+j-(U+i)=j-i by omega]
  exact ar.get aI
 ·rename_i ag
  rw[if_neg (by omega)]
  obtain⟨av,o,aa⟩:=ao j v aI
  exact⟨av,by simpa using o,aa⟩
theorem XB{w:World}{g p:Nat}{cur:Array Value}{e:TypeId}{dX:Nat×Nat}(aV:w.heap[g]?=some (.cells cur e dX))(v:Value):
  w.setCell ⟨g,p,none⟩ v=hU w g (.cells (cur.setIfInBounds p v) e dX):=by
 obtain⟨a5,he⟩:=Array.getElem?_eq_some_iff.1 aV
 simp only[World.setCell,hU]
 congr 1
 apply Array.ext_getElem?
 intro i
 rw[Array.getElem?_modify,Array.getElem?_setIfInBounds]
 split
 ·rename_i ad
  subst ad
  rw[aV]
  rfl
 ·rfl
theorem WL(w:World)(g:Nat)(x y:Obj):hU (hU w g x) g y=hU w g y:=by simp[hU]
theorem WK{w:World}{g:Nat}{x:Obj}(h:w.heap[g]?=some x):hU w g x=w:=by
 obtain⟨a5,he⟩:=Array.getElem?_eq_some_iff.1 h
 unfold hU
 have:w.heap.setIfInBounds g x=w.heap:=by
  apply Array.ext_getElem?
  intro i
  rw[Array.getElem?_setIfInBounds]
  split
  ·rename_i ad;subst ad;rw[h]
  ·rfl
 rw[this]
theorem EJ{P:Program}(g off:Nat)(e:TypeId)(dX:Nat×Nat):∀(aB:List Value) (i:Nat) (cur:Array Value) (w:World),w.heap[g]?=some (.cells cur e dX)->lH dX cur.size->off+i+aB.length<=cur.size->
  (∀v∈aB,v.oneCell'=true)->(storeCells ⟨g,off,none⟩ aB i).run P w= .ok () (hU w g (.cells (c3 cur.toList (off+i) aB).toArray e dX))
 | [],i,cur,w,aV,_,_,_=>by
  rw[XR,WK (by simpa using aV)]
  rfl
 | v::aB,i,cur,w,aV,ax,bp,o=>by
  simp only[List.length_cons]at bp
  have a5:off+i<cur.size:=by omega
  have lO:w.cell? ⟨g,off+i,none⟩=some cur[off+i]:=by simp[World.cell?,aV,a5]
  have Jq:w.frozen? ⟨g,off+i,none⟩=false:=by
   have:=ax (off+i) a5
   simp only[World.frozen?,aV]
   simpa using this
  have an:(store ((⟨g,off,none⟩:Addr).add i) v).run P w= .ok () (hU w g (.cells (cur.setIfInBounds (off+i) v) e dX)):=by
   rw[oY,run_store P w _ v _ (o v List.mem_cons_self),lO]
   simp only[Jq]
   rw[<-XB aV]
   rfl
  have C1:(hU w g (.cells (cur.setIfInBounds (off+i) v) e dX)).heap[g]?=some (.cells (cur.setIfInBounds (off+i) v) e dX):=Et w _ _ (Array.getElem?_eq_some_iff.1 aV).1
  have aW:=EJ (P:=P) g off e dX aB (i+1) (cur.setIfInBounds (off+i) v) _ C1 (by simpa using ax) (by simp;omega) fun u hu=>o u (List.mem_cons_of_mem _ hu)
  simp only[storeCells,Sem.run_bind,an,Result.andThen_ok,aW,WL]
  congr 4
  rw[<-XQ _ _ _ _ (by simp;omega)]
  simp[Nat.add_assoc]
def xQ(s:ByteArray):List Value:=s.data.toList.map fun b=> .int .u8 b.toNat
inductive Src (H:ab) (R:Nat):Value->Nat->Nat->List Value->Prop
 | u9 {a:Option Addr} {m c:Nat}:Src H R (.slice a m c) m 0 []
 | row {b i n m c:Nat} {x:bB} {cs:List Value} (I:H[b]?=some x) (ag:x.cells?=some cs) (aE:0<n) (hm:n<=m) (bp:i+n*R<=cs.length):Src H R (.slice (some ⟨b,i,none⟩) m c) m n ((cs.drop i).take (n*R))
 | str {s:ByteArray} (o:R=1):Src H R (.string s) s.size s.size (xQ s)
theorem sF{P:Program}{base:Nat}{ai:bc}{H:ab}{w:World}{R m n:Nat}{v av:Value}{news:List Value}(an:Src H R v m n news)(h:b9 P base ai H w)(ao:bf ai v av):
  (Builtin.lenOf av).run P w= .ok m w/\news.length=n*R/\∃hg:List Value,(∀a7:World,a7.heap=w.heap->(Builtin.firstCells R n av).run P a7= .ok hg.toArray a7)/\cF ai news hg:=by
 cases an with
 | u9=>
  obtain⟨ek,dL,rfl,-⟩:=ao.pN
  refine⟨by simp[Builtin.lenOf],by simp,[],fun a7 _=>?_,cF.nil ai⟩
  cases ek<;>simp[Builtin.firstCells,loadCells,loadCellsFrom]
 | row I ag aE hm bp=>
  rename_i b i c x cs
  obtain⟨k,dn,ah,rfl,-⟩:=ao.AJ (by omega)
  obtain⟨aB,ar,lO,aj⟩:=h.cells ah I ag bp
  refine⟨by simp[Builtin.lenOf],by simp;omega,aB,fun a7 hw=>?_,aj⟩
  simp only[Builtin.firstCells]
  rw[<-ar]
  exact run_loadCells_list a7 _ aB fun j u hu=>by rw[BA (w:=w) (by rw[hw])];exact lO j u hu
 | str o=>
  rename_i s
  have he:av= .string s:=by cases ao;rfl
  subst he
  refine⟨by simp[Builtin.lenOf],by rw[o,Nat.mul_one];unfold xQ;rw[List.length_map];rfl,xQ s,fun a7 _=>?_,rfl,fun i v av I aL=>?_⟩
  ·simp only[Builtin.firstCells,xQ]
   have e:(s.extract 0 s.size).data=s.data:=by
    rw[ByteArray.data_extract];exact Array.extract_size
   rw[e]
   simp only[Sem.run_pure]
   congr 1
   apply Array.ext'
   simp
  ·rw[I]at aL
   obtain rfl:=Option.some.inj aL
   simp only[xQ,List.getElem?_map,Option.map_eq_some_iff]at I
   obtain⟨b,-,rfl⟩:=I
   exact .int _ _
def fy(P:Program)(base:Nat)(ai:bc)(H:ab)(w:World)(s:Sem Value)(v:Value)(aC:ab):Prop:=
 ∃bo av a7,s.run P w= .ok av a7/\bf bo v av/\b9 P base bo aC a7/\Step ai H w bo aC a7
theorem b9.Bs{P:Program}{base:Nat}{ai:bc}{H:ab}{w:World}(h:b9 P base ai H w){e:TypeId}{n:Nat}(an:bm P e=some n){cs:List Value}{cur:Array Value}{dX:Nat×Nat}(l:Bool)(ax:lH dX cur.size)(bp:cs.length<=cur.size)
  (ao:∀(i:Nat) (v:Value),cs[i]?=some v->∃av,cur[i]?=some av/\bf ai v av):
  b9 P base (ai.put H.length ⟨w.heap.size,0,cur.size,n,l⟩) (H++[.own e l cs]) (w.alloc (.cells cur e dX))/\Step ai H w (ai.put H.length ⟨w.heap.size,0,cur.size,n,l⟩) (H++[.own e l cs]) (w.alloc (.cells cur e dX)):=by
 unfold bm at an
 obtain⟨inf,ad,aE⟩:=Option.map_eq_some_iff.1 an
 exact h.alloc ad aE ax bp ao
theorem lH.zero(n:Nat):lH (0,0) n:=fun j _ h=>by simp at h
theorem b9.KT{P:Program}{base:Nat}{ai:bc}{H:ab}{w:World}(h:b9 P base ai H w)(x:Obj):b9 P base ai H (w.alloc x)/\Step ai H w ai H (w.alloc x):=by
 have hold:∀g,g<w.heap.size->(w.alloc x).heap[g]?=w.heap[g]?:=fun g aV=>heap_alloc_old w _ aV
 refine⟨⟨h.pos,by simp;have:=h.size;omega,h.ez,fun b k y af aL=>(h.eO b k y af aL).gi (fun _ _ h=>h) (fun aE=>hold _ ((h.eO b k y af aL).lt aE)) (by simp),h.inj⟩,?_⟩
 exact⟨fun _ _ h=>h,fun _ _ h=> .inl h,Nat.le_refl _,fun b k af aM=> .inr ⟨b,k,af,aM,rfl⟩,rfl,rfl,rfl,by simp,fun g aV _=>hold g aV⟩
theorem cF.ofArray{ai:bc}{xs bI:Array Value}(h:eT ai xs bI):∀(i:Nat) (v:Value),xs.toList[i]?=some v->∃av,bI[i]?=some av/\bf ai v av:=fun i v ao=>by
 obtain⟨av,o,aa⟩:=h.toList.get ao
 exact⟨av,by simpa using o,aa⟩
section
variable {P:Program} {base:Nat} {ai:bc} {H:ab} {w:World}
theorem OJ{e:TypeId}{z:Value}{n:Nat}(h:b9 P base ai H w)(aP:dw P e=some z)(dt:flat z=true)(an:bm P e=some n):
  fy P base ai H w (Instr.alloc e true (.tuple #[])) (.pointer (some ⟨H.length,0,none⟩)) (H++[.own e false z.cells.toList]):=by
 obtain⟨o,aa⟩:=h.Bs (cur:=z.cells) (dX:=(0,0)) an false (lH.zero _) (by simp) (cF.ofArray (A8 dt))
 refine⟨_,.pointer (some ⟨w.heap.size,0,none⟩),_,?_,?_,o,aa⟩
 ·simp[Instr.alloc,Az aP,newVar,newRow]
 ·exact .ptr (k:=⟨w.heap.size,0,z.cells.size,n,false⟩) (bc.mT _ _ _)
theorem OP{e:TypeId}{v av:Value}{n:Nat}(h:b9 P base ai H w)(ao:bf ai v av)(an:bm P e=some n):
  fy P base ai H w (Instr.box e av) (.pointer (some ⟨H.length,0,none⟩)) (H++[.own e false v.cells.toList]):=by
 obtain⟨o,aa⟩:=h.Bs (cur:=av.cells) (dX:=(0,0)) (cs:=v.cells.toList) an false (lH.zero _) (by simp[ao.cells.1]) (cF.ofArray ao.cells)
 refine⟨_,.pointer (some ⟨w.heap.size,0,none⟩),_,?_,?_,o,aa⟩
 ·simp[Instr.box,newVar,newRow]
 ·exact .ptr (k:=⟨w.heap.size,0,av.cells.size,n,false⟩) (bc.mT _ _ _)
theorem OV{t:TypeId}{b i:Nat}{X:bB}{cs:List Value}{v av:Value}(h:b9 P base ai H w)(aF:da P t=some false)(I:bf ai (.pointer (some ⟨b,i,none⟩)) av)(aS:H[b]?=some X)(ag:X.cells?=some cs)(ao:cs[i]?=some v):
  fy P base ai H w (Instr.loadAt t av) v H:=by
 obtain⟨k,ah,rfl⟩:=I.qY
 obtain⟨u,o,aa⟩:=h.cell ah aS ag ao
 exact⟨ai,u,w,by simp[Instr.loadAt,Instr.sureAddr,loadVar,Ay aF,o],aa,h,Step.refl _ _ _⟩
theorem OW{t:TypeId}{b i n:Nat}{X:bB}{cs:List Value}{av:Value}(h:b9 P base ai H w)(aF:da P t=some true)(an:bm P t=some n)(I:bf ai (.pointer (some ⟨b,i,none⟩)) av)(aS:H[b]?=some X)(ag:X.cells?=some cs)
  (bp:i+n<=cs.length):fy P base ai H w (Instr.loadAt t av) (.agg ((cs.drop i).take n).toArray) H:=by
 obtain⟨k,ah,rfl⟩:=I.qY
 obtain⟨aB,ar,lO,aj⟩:=h.cells ah aS ag bp
 have gH:=run_loadCells_list (P:=P) w ⟨k.g,k.U+i,none⟩ aB lO
 rw[ar]at gH
 exact⟨ai,.agg aB.toArray,w,by simp[Instr.loadAt,Instr.sureAddr,loadVar,Ay aF,kb an,gH],.agg aj.toArray.1 aj.toArray.2,h,Step.refl _ _ _⟩
theorem Eu{b i:Nat}{k:h8}{e:TypeId}{l:Bool}{cs aB hh:List Value}(h:b9 P base ai H w)(af:ai b=some k)(aS:H[b]?=some (.own e l cs))(ar:cF ai aB hh)(bp:i+aB.length<=cs.length)(o:∀v∈aB,v.oneCell'=true):
  ∃a7,(storeCells ⟨k.g,k.U+i,none⟩ hh).run P w= .ok () a7/\b9 P base ai (H.set b (.own e l (c3 cs i aB))) a7/\Step ai H w ai (H.set b (.own e l (c3 cs i aB))) a7:=by
 cases h.eO b k _ af aS with
 | own rW il ad an aV cm ax CZ ao=>
  rename_i cur dX inf
  have fX:(c3 cs i aB).length=cs.length:=mW bp
  have hlen:hh.length=aB.length:=ar.1.symm
  have Iw:∀v∈hh,v.oneCell'=true:=fun av dd=>by
   obtain⟨j,aI⟩:=List.getElem?_of_mem dd
   have wF:j<aB.length:=by rw[ar.1];exact(cc.1 aI).1
   have:=(ar.2 j _ _ (bt wF) aI).LC
   rw[this]
   exact o _ (List.getElem_mem wF)
  have gH:=EJ (P:=P) k.g (k.U+i) e dX hh 0 cur w aV (cm▸ax) (by omega) Iw
  simp only[Nat.add_zero]at gH
  have Dt:=XT ao ar bp (by omega)
  obtain⟨s1,s2⟩:=h.put (eo:=c3 cs i aB) (lf:=(c3 cur.toList (k.U+i) hh).toArray) af aS ⟨cur,aV,by rw[List.size_toArray,mW (by simp;omega)];simp⟩ fX Dt
  exact⟨_,gH,s1,s2⟩
theorem O5{t:TypeId}{b i:Nat}{e:TypeId}{l:Bool}{cs:List Value}{y ek ma:Value}(h:b9 P base ai H w)(an:bm P t=some y.cells.size)(aF:bf ai (.pointer (some ⟨b,i,none⟩)) ek)(aL:bf ai y ma)
  (aS:H[b]?=some (.own e l cs))(bp:i+y.cells.size<=cs.length)(o:(y.cells.toList.all (·.oneCell'))=true):
  ∃a7,(Instr.storeAt t ek ma).run P w= .ok () a7/\b9 P base ai (H.set b (.own e l (c3 cs i y.cells.toList))) a7/\Step ai H w ai (H.set b (.own e l (c3 cs i y.cells.toList))) a7:=by
 obtain⟨k,ah,rfl⟩:=aF.qY
 obtain⟨a7,aj,s1,s2⟩:=Eu (i:=i) h ah aS aL.cells.toList (by simpa using bp) (fun v ao=>by simpa using List.all_eq_true.1 o v ao)
 have c0:=aL.cells.1
 exact⟨a7,by simp[Instr.storeAt,Instr.sureAddr,storeVar,kb an,<-c0,aj],s1,s2⟩
def dN(aK:Operand->Value):Option Operand->Option Nat
 | none=>some 0
 | some x=>match aK x with
  | .int _ n=>if 0<=n then some n.toNat else none
  | _=>none
def fl(aK:Operand->Value)(d:Nat):Option Operand->Option Nat
 | none=>some d
 | some x=>match aK x with
  | .int _ n=>if 0<=n then some n.toNat else none
  | _=>none
theorem run_sliceBound{P:Program}{w:World}{k:IntKind}{n:Int}{y:Nat}{code:BoundsCode}(aH:0<=n)(o:n.toNat<=y):(Instr.sliceBound (.int k n) y code).run P w= .ok n.toNat w:=by
 have:n<=(y:Int):=by omega
 simp[Instr.sliceBound,asIntOf,aH,this]
theorem EI{aK cu:Operand->Value}{bX ad:Option Operand}{len cap l cR:Nat}(il:∀x,bX=some x->bf ai (aK x) (cu x))(ih:∀x,ad=some x->bf ai (aK x) (cu x))(ar:dN aK bX=some l)(ev:fl aK len ad=some cR)
  (o:l<=cR)(aa:cR<=cap)(w:World):(Instr.sliceBounds true len cap (bX.map cu) (ad.map cu) none).run P w= .ok (l,cR,cap) w:=by
 have el:∀x,bX=some x->∃k n,cu x= .int k n/\0<=n/\n.toNat=l:=fun x I=>by
  have ao:=il x I
  subst I
  simp only[dN]at ar
  split at ar
  ·rename_i k n he
   rw[he]at ao
   split at ar
   ·cases ar;exact⟨k,n,ao.nJ,by assumption,rfl⟩
   ·cases ar
  ·cases ar
 have Ps:∀x,ad=some x->∃k n,cu x= .int k n/\0<=n/\n.toNat=cR:=fun x I=>by
  have ao:=ih x I
  subst I
  simp only[fl]at ev
  split at ev
  ·rename_i k n he
   rw[he]at ao
   split at ev
   ·cases ev;exact⟨k,n,ao.nJ,by assumption,rfl⟩
   ·cases ev
  ·cases ev
 unfold Instr.sliceBounds
 cases ad with
 | none=>
  have RY:len=cR:=by simpa[fl]using ev
  subst RY
  cases bX with
  | none=>
   have jZ:0=l:=by simpa[dN]using ar
   subst jZ
   simp
  | some x=>
   obtain⟨k,n,e,aH,rfl⟩:=el x rfl
   simp[e,run_sliceBound (P:=P) (w:=w) (k:=k) aH o]
 | some y=>
  obtain⟨bN,dI,cH,qe,rfl⟩:=Ps y rfl
  cases bX with
  | none=>
   have jZ:0=l:=by simpa[dN]using ar
   subst jZ
   simp[cH,run_sliceBound (P:=P) (w:=w) (k:=bN) qe aa]
  | some x=>
   obtain⟨k,n,e,aH,rfl⟩:=el x rfl
   simp[e,cH,run_sliceBound (P:=P) (w:=w) (k:=bN) qe aa,run_sliceBound (P:=P) (w:=w) (k:=k) aH o]
theorem Md{aK cu:Operand->Value}{bX ad e4:Operand}{len cap l cR m:Nat}(il:bf ai (aK bX) (cu bX))(ih:bf ai (aK ad) (cu ad))(wI:bf ai (aK e4) (cu e4))(ar:dN aK (some bX)=some l)(ev:dN aK (some ad)=some cR)(hm:dN aK (some e4)=some m)
  (o:l<=cR)(aa:cR<=m)(aD:m<=cap)(w:World):(Instr.sliceBounds true len cap (some (cu bX)) (some (cu ad)) (some (cu e4))).run P w= .ok (l,cR,m) w:=by
 have el:∀x q,bf ai (aK x) (cu x)->dN aK (some x)=some q->∃k n,cu x= .int k n/\0<=n/\n.toNat=q:=fun x q ao au=>by
  simp only[dN]at au
  split at au
  ·rename_i k n he
   rw[he]at ao
   split at au
   ·cases au;exact⟨k,n,ao.nJ,by assumption,rfl⟩
   ·cases au
  ·cases au
 obtain⟨j8,du,bq,dF,rfl⟩:=el bX l il ar
 obtain⟨lz,dE,bh,hI,rfl⟩:=el ad cR ih ev
 obtain⟨sy,jF,e1,fQ,rfl⟩:=el e4 m wI hm
 simp[Instr.sliceBounds,bq,bh,e1,run_sliceBound (P:=P) (w:=w) (k:=j8) dF o,run_sliceBound (P:=P) (w:=w) (k:=lz) hI aa,run_sliceBound (P:=P) (w:=w) (k:=sy) fQ aD]
theorem xE{t e:TypeId}{R:Nat}{a:Option Addr}{len cap l cR m:Nat}{bX ad e4:Option Value}(hu:P.underlying t=some (.slice e))(an:bm P e=some R)(af:(Instr.sliceBounds true len cap bX ad e4).run P w= .ok (l,cR,m) w):
  (Instr.sliceAt t (.slice a len cap) bX ad e4).run P w= .ok (.slice (if m=l then a else a.map (·.add (l*R))) (cR-l) (m-l)) w:=by
 simp[Instr.sliceAt,Instr.slice,run_underlying hu,af,kb an]
section
variable {aK cu:Operand->Value} {bX ad:Option Operand}
theorem OZ{t e:TypeId}{R b i len cap l cR:Nat}{X:bB}{ei:Value}(h:b9 P base ai H w)(hu:P.underlying t=some (.slice e))(an:bm P e=some R)(I:bf ai (.slice (some ⟨b,i,none⟩) len cap) ei)(aS:H[b]?=some X)(he:X.elem?=some e)
  (il:∀x,bX=some x->bf ai (aK x) (cu x))(ih:∀x,ad=some x->bf ai (aK x) (cu x))(ar:dN aK bX=some l)(ev:fl aK len ad=some cR)(o:l<=cR)(aa:cR<=cap)(a5:l<cap):
  fy P base ai H w (Instr.sliceAt t ei (bX.map cu) (ad.map cu) none) (.slice (some ⟨b,i+l*R,none⟩) (cR-l) (cap-l)) H:=by
 cases I with
 | void=>omega
 | empty=>omega
 | slice ah ag hle fH nH cm=>
  rename_i k dn
  have af:=EI (P:=P) (cap:=dn) il ih ar ev o (by omega) w
  refine⟨ai,_,w,xE hu an af,?_,h,Step.refl _ _ _⟩
  rw[if_neg (by omega)]
  simp only[Option.map_some,oY,Nat.add_assoc]
  refine .slice ah (by omega) (by omega) (by omega) (fun ax=>by have:=nH ax;omega) fun bu=>?_
  have zh:k.R=R:=by
   have nv:=h.eO b k X ah aS
   cases nv with
   | own rW il ad Te aV cm ax CZ ao=>
    simp only[bB.elem?,Option.some.injEq]at he
    subst he
    simp only[bm,ad,Option.map_some,Option.some.injEq]at an
    omega
   | ro ad Te ao c0=>
    simp only[bB.elem?,Option.some.injEq]at he
    subst he
    simp only[bm,ad,Option.map_some,Option.some.injEq]at an
    omega
   | dead=>simp[bB.elem?]at he
  have:=cm bu
  rw[zh]at this⊢
  have bq:l*R+(dn-l)*R=dn*R:=by rw[<-Nat.add_mul];congr 1;omega
  omega
end
end
section
variable {P:Program} {base:Nat} {ai:bc} {H:ab} {w:World} {aK cu:Operand->Value} {bX ad:Option Operand}
theorem O2{t e:TypeId}{R b i len cap:Nat}{ei:Value}(h:b9 P base ai H w)(hu:P.underlying t=some (.slice e))(an:bm P e=some R)(I:bf ai (.slice (some ⟨b,i,none⟩) len cap) ei)(qs:0<cap)
  (il:∀x,bX=some x->bf ai (aK x) (cu x))(ih:∀x,ad=some x->bf ai (aK x) (cu x))(ar:dN aK bX=some cap)(ev:fl aK len ad=some cap):
  fy P base ai H w (Instr.sliceAt t ei (bX.map cu) (ad.map cu) none) (.slice (some ⟨b,i,none⟩) 0 0) H:=by
 cases I with
 | void=>omega
 | empty=>omega
 | slice ah ag hle fH nH cm=>
  rename_i k dn
  have af:=EI (P:=P) (cap:=dn) il ih ar ev (Nat.le_refl _) fH w
  have mw:b≠0:=by have:=(h.ez b k ah).1;omega
  refine⟨ai,_,w,xE hu an af,?_,h,Step.refl _ _ _⟩
  rw[Nat.sub_self]
  by_cases hm:dn=cap
  ·rw[if_pos hm];exact .empty mw _ _
  ·rw[if_neg hm];exact .empty mw _ _
theorem O3{t e:TypeId}{R:Nat}{a:Option Addr}{ei:Value}(h:b9 P base ai H w)(hu:P.underlying t=some (.slice e))(an:bm P e=some R)(I:bf ai (.slice a 0 0) ei)
  (il:∀x,bX=some x->bf ai (aK x) (cu x))(ih:∀x,ad=some x->bf ai (aK x) (cu x))(ar:dN aK bX=some 0)(ev:fl aK 0 ad=some 0):
  fy P base ai H w (Instr.sliceAt t ei (bX.map cu) (ad.map cu) none) (.slice a 0 0) H:=by
 have key:∀(ek:Option Addr) (c:Nat),(Instr.sliceAt t (.slice ek 0 c) (bX.map cu) (ad.map cu) none).run P w= .ok (.slice ek 0 c) w:=fun ek c=>by
  rw[xE hu an (EI (P:=P) (cap:=c) il ih ar ev (Nat.le_refl _) (Nat.zero_le _) w)]
  congr 2
  split
  ·rfl
  ·cases ek with
   | none=>rfl
   | some rA=>simp[Addr.add]
 obtain⟨ek,dL,rfl,-⟩:=I.pN
 exact⟨ai,_,w,key _ _,I,h,Step.refl _ _ _⟩
theorem O1{t e:TypeId}{R len cap l:Nat}{a:Addr}{ei:Value}{bX ad e4:Operand}(h:b9 P base ai H w)(hu:P.underlying t=some (.slice e))(an:bm P e=some R)(I:bf ai (.slice (some a) len cap) ei)
  (il:bf ai (aK bX) (cu bX))(ih:bf ai (aK ad) (cu ad))(wI:bf ai (aK e4) (cu e4))(ar:dN aK (some bX)=some l)(ev:dN aK (some ad)=some l)(hm:dN aK (some e4)=some l)(aD:l<=cap):
  fy P base ai H w (Instr.sliceAt t ei (some (cu bX)) (some (cu ad)) (some (cu e4))) (.slice (some ⟨0,0,none⟩) 0 0) H:=by
 obtain⟨ek,dL,rfl,-,-,bD,b2⟩:=I.pN
 cases ek with
 | none=>simp at b2
 | some rA=>
  refine⟨ai,_,w,xE hu an (Md (P:=P) (cap:=dL) (len:=len) il ih wI ar ev hm (Nat.le_refl _) (Nat.le_refl _) (Nat.le_trans aD bD) w),?_,h,Step.refl _ _ _⟩
  rw[if_pos rfl,Nat.sub_self]
  exact .void 0 rA
theorem O0{t e:TypeId}{R:Nat}{ei:Value}{bX ad e4:Operand}(h:b9 P base ai H w)(hu:P.underlying t=some (.slice e))(an:bm P e=some R)(I:bf ai (.slice none 0 0) ei)
  (il:bf ai (aK bX) (cu bX))(ih:bf ai (aK ad) (cu ad))(wI:bf ai (aK e4) (cu e4))(ar:dN aK (some bX)=some 0)(ev:dN aK (some ad)=some 0)(hm:dN aK (some e4)=some 0):
  fy P base ai H w (Instr.sliceAt t ei (some (cu bX)) (some (cu ad)) (some (cu e4))) (.slice none 0 0) H:=by
 cases I with
 | qS=>
  refine⟨ai,_,w,xE hu an (Md (P:=P) (cap:=0) (len:=0) il ih wI ar ev hm (Nat.le_refl _) (Nat.le_refl _) (Nat.le_refl _) w),?_,h,Step.refl _ _ _⟩
  exact .qS
theorem fy.Ni{s:Sem Value}(h:b9 P base ai H w){x:Obj}(aj:s.run P w= .ok (.slice (some ⟨w.heap.size,0,none⟩) 0 0) (w.alloc x)):fy P base ai H w s (.slice (some ⟨0,0,none⟩) 0 0) H:=
 ⟨ai,_,_,aj,.void 0 _,(h.KT x).1,(h.KT x).2⟩
theorem fy.Ae{s:Sem Value}{e:TypeId}{R len cap dn:Nat}{cs:List Value}{cur:Array Value}{dX:Nat×Nat}{l:Bool}(h:b9 P base ai H w)(an:bm P e=some R)
  {dP:World}(pv:dP.heap=w.heap)(r8:dP.os=w.os)(Tm:dP.tape=w.tape)(Di:dP.output=w.output)
  (aj:s.run P w= .ok (.slice (some ⟨w.heap.size,0,none⟩) len dn) (dP.alloc (.cells cur e dX)))(ax:lH dX cur.size)(bp:cs.length<=cur.size)(ao:∀(i:Nat) (v:Value),cs[i]?=some v->∃av,cur[i]?=some av/\bf ai v av)
  (ag:0<cap)(hle:len<=cap)(fH:cap<=dn)(I:l=false->dn=cap)(cm:l=true->dn*R<=cur.size):fy P base ai H w s (.slice (some ⟨H.length,0,none⟩) len cap) (H++[.own e l cs]):=by
 have Dt:b9 P base ai H dP:=h.heap pv
 have cS:Step ai H w ai H dP:=⟨fun _ _ h=>h,fun _ _ h=> .inl h,Nat.le_refl _,fun b k af aM=> .inr ⟨b,k,af,aM,rfl⟩,r8,Tm,Di,by rw[pv];exact Nat.le_refl _,fun g _ _=>by rw[pv]⟩
 obtain⟨o,aa⟩:=Dt.Bs (cs:=cs) (cur:=cur) (dX:=dX) an l ax bp ao
 refine⟨_,_,_,aj,?_,o,cS.trans aa⟩
 have:=bf.slice (ai:=ai.put H.length ⟨dP.heap.size,0,cur.size,R,l⟩) (b:=H.length) (i:=0) (k:=⟨dP.heap.size,0,cur.size,R,l⟩) (len:=len) (cap:=cap) (dn:=dn) (bc.mT _ _ _) ag hle fH I
  (fun bu=>by have:=cm bu;simp only;omega)
 simp only[pv]at this⊢
 exact this
def made(z:Value)(n:Nat):List Value:=(List.range n).map fun i=>z.cells[i % z.cells.size]!
theorem Ld(z:Value)(n:Nat):(Array.range n).map (fun i=>z.cells[i % z.cells.size]!)=(made z n).toArray:=by
 apply Array.ext'
 simp[made]
theorem Lc{z:Value}(aP:flat z=true)(ht:0<z.cells.size)(n:Nat):∀(i:Nat) (v:Value),(made z n)[i]?=some v->∃av,(made z n).toArray[i]?=some av/\bf ai v av:=fun i v ao=>by
 refine⟨v,by simpa using ao,?_⟩
 simp only[made,List.getElem?_map,Option.map_eq_some_iff]at ao
 obtain⟨j,-,rfl⟩:=ao
 have a5:j % z.cells.size<z.cells.size:=Nat.mod_lt _ ht
 have e:z.cells[j % z.cells.size]! =z.cells[j % z.cells.size]:=by simp[a5]
 rw[e]
 exact(A8 aP).2 _ _ _ (Array.getElem?_eq_getElem a5) (Array.getElem?_eq_getElem a5)
theorem L4(f:Nat->Value):(Array.range 0).map f= #[]:=by apply Array.ext';simp
theorem wrap_small{n:Nat}(h:n<=281474976710656):IntKind.i64.wrap (n:Int)=n:=by
 have:=IntWalk.i64_in (n:Int) (by omega)
 exact this
theorem OX{t e:TypeId}{R bs l c:Nat}{eg cB:IntKind}{z:Value}(h:b9 P base ai H w)(hu:P.underlying t=some (.slice e))(an:bm P e=some R)(af:bytes? P e=some bs)(aP:dw P e=some z)(dt:flat z=true)(cY:z.cells.size=R)
  (c0:0<R)(dH:0<bs)(lR:l<=c)(ag:0<c)(bp:bs*c<=281474976710656):fy P base ai H w (Instr.makeSlice t (.int eg l) (.int cB c)) (.slice (some ⟨H.length,0,none⟩) l c) (H++[.own e false (made z (c*R))]):=by
 have lq:c<=281474976710656:=Nat.le_trans (Nat.le_mul_of_pos_left _ dH) bp
 refine fy.Ae (dP:=w) (cur:=(made z (c*R)).toArray) (dX:=(0,0)) (l:=false) (cap:=c) (dn:=c) h an rfl rfl rfl rfl ?_ (lH.zero _) (by simp) (Lc dt (by omega) _) ag lR (Nat.le_refl _) (fun _=>rfl) (fun h=>by cases h)
 have lN:(typeInfo e).run P w=(match P.info? e with | some i=> .ok i w | none=> .halt (.stuck "no such type") w):=by
  unfold typeInfo;simp;cases P.info? e<;>rfl
 obtain⟨inf,ad,y6⟩:=Option.map_eq_some_iff.1 (show(P.info? e).map (·.bytes)=some bs from af)
 have aE:¬(c*R=0):=by have:=Nat.mul_pos ag c0;omega
 have Jo:¬(281474976710656:Int)<(bs:Int)*(c:Int):=by
  have:((bs*c:Nat):Int)<=281474976710656:=by omega
  rw[Int.natCast_mul]at this
  omega
 have Sh:¬(c:Int)<(l:Int):=by omega
 have Dh:¬(c:Int)<0:=by omega
 have Sw:¬(l:Int)<0:=by omega
 simp[Instr.makeSlice,run_underlying hu,asInt,asIntOf,lN,ad,y6,wrap_small (Nat.le_trans lR lq),wrap_small lq,Jo,Sh,Dh,Sw,kb an,aE,Az aP,newRow]
 rw[show c*R=c*R from rfl,<-Ld]
theorem OY{t e:TypeId}{R bs:Nat}{eg cB:IntKind}(h:b9 P base ai H w)(hu:P.underlying t=some (.slice e))(an:bm P e=some R)(af:bytes? P e=some bs):
  fy P base ai H w (Instr.makeSlice t (.int eg 0) (.int cB 0)) (.slice (some ⟨0,0,none⟩) 0 0) H:=by
 obtain⟨inf,ad,y6⟩:=Option.map_eq_some_iff.1 (show(P.info? e).map (·.bytes)=some bs from af)
 have lN:(typeInfo e).run P w= .ok inf w:=by unfold typeInfo;simp[ad]
 refine fy.Ni (x:= .cells #[] e) h ?_
 have dP:IntKind.i64.wrap 0=0:=by decide
 simp[Instr.makeSlice,run_underlying hu,asInt,asIntOf,lN,dP,kb an,newRow]
 rw[L4]
theorem OQ{t e:TypeId}{R len:Nat}{aU:Array (Nat×Operand)}{z:Value}{out:Array Value}(h:b9 P base ai H w)(hu:P.underlying t=some (.slice e))(an:bm P e=some R)(aP:dw P e=some z)(dt:flat z=true)(cY:z.cells.size=R)
  (c0:0<R)(ar:0<len)(bp:len*R<=16777216)(aR:∀p∈aU,bf ai (aK p.2) (cu p.2))(ax:Instr.fill (fun i=>some (i*R,R)) (made z (len*R)).toArray (aU.toList.map fun p=>(p.1,aK p.2))=some out)(r8:out.size=len*R):
  fy P base ai H w (Instr.buildSlice t len (aU.map fun p=>(p.1,cu p.2))) (.slice (some ⟨H.length,0,none⟩) len len) (H++[.own e false out.toList]):=by
 have qC:∀p∈aU.toList,bf ai (aK p.2) (cu p.2):=fun p hm=>aR p (by simpa using hm)
 have hm:eT ai (made z (len*R)).toArray (made z (len*R)).toArray:=⟨rfl,fun i v av ao dd=>by
  obtain⟨u,o,aa⟩:=Lc (ai:=ai) dt (by omega) (len*R) i v (by simpa using ao)
  rw[dd]at o
  cases o
  exact aa⟩
 obtain⟨gW,o,aa⟩:=yF (cu:=cu) _ aU.toList _ _ out qC hm ax
 refine fy.Ae (dP:=w) (cur:=gW) (dX:=(0,0)) (l:=false) (cap:=len) (dn:=len) h an rfl rfl rfl rfl ?_ (lH.zero _) (by simp[aa.1]) (cF.ofArray aa) ar (Nat.le_refl _) (Nat.le_refl _) (fun _=>rfl) (fun h=>by cases h)
 have aE:¬(len*R=0):=by have:=Nat.mul_pos ar c0;omega
 have Jo:¬(16777216<len*R):=by omega
 have dA:(aU.map fun p=>(p.1,cu p.2)).toList=aU.toList.map fun p=>(p.1,cu p.2):=by simp
 simp only[Instr.buildSlice,Sem.run_bind,run_underlying hu,Result.andThen_ok,kb an]
 rw[if_neg (by omega),if_neg aE]
 simp only[Sem.run_bind,Az aP,Result.andThen_ok,Sem.run_pure]
 rw[Ld,dA,o]
 simp[newRow]
theorem OR{t e:TypeId}{R:Nat}(h:b9 P base ai H w)(hu:P.underlying t=some (.slice e))(an:bm P e=some R):fy P base ai H w (Instr.buildSlice t 0 #[]) (.slice (some ⟨0,0,none⟩) 0 0) H:=by
 refine fy.Ni (x:= .cells #[] e) h ?_
 simp[Instr.buildSlice,run_underlying hu,kb an,newRow,Instr.fill]
 rw[L4]
def fJ(P:Program)(t:TypeId):Bool:=match P.underlying t with
 | some (.slice _) | some .string=>true
 | _=>false
theorem Ms{t:TypeId}(h:fJ P t=true):(∃e,P.underlying t=some (.slice e))\/P.underlying t=some .string:=by
 unfold fJ at h
 split at h
 ·rename_i e he;exact .inl ⟨e,he⟩
 ·rename_i he;exact .inr he
 ·cases h
theorem EH{bO cM e ty:TypeId}{R:Nat}{a:Option Addr}{len cap n:Nat}{x:Value}{news:List Value}(hu:P.underlying bO=some (.slice e))(I:fJ P cM=true)(an:bm P e=some R)
  (ar:(Builtin.lenOf x).run P w= .ok n w)(ax:(Builtin.firstCells R n x).run P w= .ok news.toArray w)(gG:len+n<=cap){a7:World}(cS:(match a with | some rA=>storeCells (rA.add (len*R)) news | none=>pure ()).run P w= .ok () a7):
  (Builtin.append_ #[bO,cM] ty #[.slice a len cap,x]).run P w= .ok (.slice a (len+n) cap) a7:=by
 rcases Ms I with⟨cH,aJ⟩ | aJ
 all_goals
  cases a with
  | none=>
   simp at cS
   subst cS
   simp[Builtin.append_,run_underlying hu,run_underlying aJ,kb an,ar,gG,ax]
  | some rA=>
   simp at cS
   simp[Builtin.append_,run_underlying hu,run_underlying aJ,kb an,ar,gG,ax,cS]
theorem Mc{bO cM e ty:TypeId}{R bs:Nat}{z:Value}{a:Option Addr}{len cap n:Nat}{x:Value}{sB news:List Value}(hu:P.underlying bO=some (.slice e))(I:fJ P cM=true)(an:bm P e=some R)(af:bytes? P e=some bs)(aP:dw P e=some z)
  (ar:(Builtin.lenOf x).run P w= .ok n w)(ax:∀a7:World,a7.heap=w.heap->(Builtin.firstCells R n x).run P a7= .ok news.toArray a7)(g2:∀a7:World,a7.heap=w.heap->(Builtin.firstCells R len (.slice a len cap)).run P a7= .ok sB.toArray a7)
  (gG:cap<len+n)(bp:(len+n)*bs<=140737488355328)(dH:0<bs):
  (Builtin.append_ #[bO,cM] ty #[.slice a len cap,x]).run P w= .ok (.slice (some ⟨w.heap.size,0,none⟩) (len+n) (grownCap w (len+n) cap e)) (w.drew.alloc (.cells (sB.toArray++news.toArray++Builtin.zeroCells z.cells (grownCap w (len+n) cap e-(len+n))) e)):=by
 obtain⟨inf,ad,y6⟩:=Option.map_eq_some_iff.1 (show(P.info? e).map (·.bytes)=some bs from af)
 have lN:∀a7:World,(typeInfo e).run P a7= .ok inf a7:=fun a7=>by unfold typeInfo;simp[ad]
 have aE:¬(len+n<=cap):=by omega
 have adP:len+n<=140737488355328:=Nat.le_trans (Nat.le_mul_of_pos_right _ dH) bp
 have adG:¬(9223372036854775807<((len:Int)+(n:Int))):=by omega
 have aH:¬(bs=0):=by omega
 have qf:¬(281474976710656<Builtin.nextslicecap (len+n) cap*bs):=by have:=growslice_fits gG bp;omega
 have wy:=ax w.drew rfl
 have RQ:=g2 w.drew rfl
 rcases Ms I with⟨cH,aJ⟩ | aJ
 all_goals simp[Builtin.append_,run_underlying hu,run_underlying aJ,kb an,ar,aE,lN,y6,aH,qf,Question.forced,wy,RQ,Az aP,newRow,grownCap]
 all_goals
  congr 2
  apply Array.ext'
  simp[List.append_assoc]
def ng(bO cM ty:TypeId)(s x:Value):Sem Value:=Builtin.append_ #[bO,cM] ty #[s,x]
theorem OK{bO cM e ty:TypeId}{R len cap m:Nat}{a:Option Addr}{x c_ ei:Value}(h:b9 P base ai H w)(hu:P.underlying bO=some (.slice e))(I:fJ P cM=true)(an:bm P e=some R)(cX:Src H R x m 0 [])(hm:m=0)(jA:bf ai (.slice a len cap) c_)(iu:bf ai x ei):
  fy P base ai H w (ng bO cM ty c_ ei) (.slice a len cap) H:=by
 subst hm
 obtain⟨o,-,hg,aa,aD⟩:=sF cX h iu
 have aE:hg=[]:=List.eq_nil_of_length_eq_zero (by simpa using aD.1.symm)
 subst aE
 obtain⟨ek,dL,rfl,hle,-⟩:=jA.pN
 refine⟨ai,_,w,EH (a7:=w) hu I an o (aa w rfl) hle ?_,jA,h,Step.refl _ _ _⟩
 cases ek<;>rfl
theorem Nw(sB:List Value)(z:Value)(n:Nat):∀(i:Nat) (v:Value),sB[i]?=some v->(sB.toArray++Builtin.zeroCells z.cells n)[i]?=some v:=fun i v ao=>by
 have a5:=(cc.1 ao).1
 rw[Array.getElem?_append_left (by simpa using a5)]
 simpa using ao
theorem OO{bO cM e ty:TypeId}{R bs n:Nat}{z:Value}{a:Option Addr}{x c_ ei:Value}{news:List Value}(h:b9 P base ai H w)(hu:P.underlying bO=some (.slice e))(I:fJ P cM=true)(an:bm P e=some R)(af:bytes? P e=some bs)(aP:dw P e=some z)(cY:z.cells.size=R)
  (cX:Src H R x n n news)(aE:0<n)(dH:0<bs)(bp:n*bs<=140737488355328)(aF:a=none\/∃i,a=some ⟨0,i,none⟩)(jA:bf ai (.slice a 0 0) c_)(iu:bf ai x ei):
  fy P base ai H w (ng bO cM ty c_ ei) (.slice (some ⟨H.length,0,none⟩) n n) (H++[.own e true news]):=by
 obtain⟨o,hlen,hg,aa,aD⟩:=sF cX h iu
 obtain⟨ek,rfl⟩:∃ek,c_= .slice ek 0 0:=by
  rcases aF with rfl | ⟨i,rfl⟩
  ·cases jA;exact⟨_,rfl⟩
  ·cases jA with
   | void=>exact⟨_,rfl⟩
   | empty mw=>exact absurd rfl mw
   | slice ah ag=>omega
 have aj:=Mc (P:=P) (w:=w) (ty:=ty) (a:=ek) (len:=0) (cap:=0) (sB:=[]) hu I an af aP o aa (fun a7 _=>by cases ek<;>simp[Builtin.firstCells,loadCells,loadCellsFrom]) (by omega) (by simpa using bp) dH
 simp only[Nat.zero_add,List.nil_append]at aj
 have jX:=grownCap_ge w n 0 e
 have dA:hg.length=n*R:=by rw[<-aD.1,hlen]
 refine fy.Ae (dP:=w.drew) (cap:=n) (l:=true) (dX:=(0,0)) h an rfl rfl rfl rfl aj (lH.zero _) (by simp[size_zeroCells,dA,hlen]) (fun i v ao=>?_) aE (Nat.le_refl _) jX (fun h=>by cases h) (fun _=>?_)
 ·obtain⟨av,mI,j6⟩:=aD.get ao
  exact⟨av,by have:=Nw hg z (grownCap w n 0 e-n) i av mI;simpa using this,j6⟩
 ·simp[size_zeroCells,dA,cY,<-Nat.add_mul]
  rw[show n+(grownCap w n 0 e-n)=grownCap w n 0 e by omega]
  exact Nat.le_refl _
theorem OM{bO cM e ty:TypeId}{R b i len cap n:Nat}{l:Bool}{cs:List Value}{x c_ ei:Value}{news:List Value}(h:b9 P base ai H w)(hu:P.underlying bO=some (.slice e))(I:fJ P cM=true)(an:bm P e=some R)
  (cX:Src H R x n n news)(gG:len+n<=cap)(ag:0<cap)(aS:H[b]?=some (.own e l cs))(bp:i+len*R+news.length<=cs.length)(gZ:(news.all (·.oneCell'))=true)(jA:bf ai (.slice (some ⟨b,i,none⟩) len cap) c_)(iu:bf ai x ei):
  fy P base ai H w (ng bO cM ty c_ ei) (.slice (some ⟨b,i,none⟩) (len+n) cap) (H.set b (.own e l (c3 cs (i+len*R) news))):=by
 obtain⟨o,hlen,hg,aa,aD⟩:=sF cX h iu
 cases jA with
 | void=>omega
 | empty=>omega
 | slice ah qq hle fH nH cm=>
  rename_i k dn
  obtain⟨a7,aj,s1,s2⟩:=Eu (i:=i+len*R) h ah aS aD bp (fun v ao=>by simpa using List.all_eq_true.1 gZ v ao)
  refine⟨ai,_,a7,EH (a7:=a7) hu I an o (aa w rfl) (by omega) ?_,.slice ah ag gG fH nH cm,s1,s2⟩
  simp only[oY]
  rw[<-aj]
  congr 3
  omega
theorem Iu{bO cM e ty:TypeId}{R bs b i len dn n:Nat}{z:Value}{X:bB}{cs:List Value}{k:h8}{ei:Value}{news hg:List Value}(h:b9 P base ai H w)(hu:P.underlying bO=some (.slice e))(I:fJ P cM=true)(an:bm P e=some R)(af:bytes? P e=some bs)(aP:dw P e=some z)(cY:z.cells.size=R)
  (dH:0<bs)(bp:(len+n)*bs<=140737488355328)(ah:ai b=some k)(aS:H[b]?=some X)(ag:X.cells?=some cs)(g2:i+len*R<=cs.length)(gG:dn<len+n)
  (o:(Builtin.lenOf ei).run P w= .ok n w)(hlen:news.length=n*R)(aa:∀a7:World,a7.heap=w.heap->(Builtin.firstCells R n ei).run P a7= .ok hg.toArray a7)(aD:cF ai news hg):
  fy P base ai H w (ng bO cM ty (.slice (some ⟨k.g,k.U+i,none⟩) len dn) ei) (.slice (some ⟨H.length,0,none⟩) (len+n) (len+n)) (H++[.own e true ((cs.drop i).take (len*R)++news)]):=by
 obtain⟨aB,sn,lO,mJ⟩:=h.cells ah aS ag g2
 have aj:=Mc (P:=P) (w:=w) (ty:=ty) (a:=some ⟨k.g,k.U+i,none⟩) (len:=len) (cap:=dn) (sB:=aB) hu I an af aP o aa (fun a7 hw=>by
  simp only[Builtin.firstCells]
  rw[<-sn]
  exact run_loadCells_list a7 _ aB fun j u hu=>by rw[BA (w:=w) (by rw[hw])];exact lO j u hu) gG bp dH
 have jX:=grownCap_ge w (len+n) dn e
 have dA:(aB++hg).length=(len+n)*R:=by rw[List.length_append,sn,<-aD.1,hlen,Nat.add_mul]
 have g1:((cs.drop i).take (len*R)++news).length=(len+n)*R:=by rw[List.length_append,mJ.1,sn,hlen,Nat.add_mul]
 have Cf:=mJ.append aD
 have Pm:aB.toArray++hg.toArray++Builtin.zeroCells z.cells (grownCap w (len+n) dn e-(len+n))=(aB++hg).toArray++Builtin.zeroCells z.cells (grownCap w (len+n) dn e-(len+n)):=by simp
 rw[Pm]at aj
 refine fy.Ae (dP:=w.drew) (cap:=len+n) (l:=true) (dX:=(0,0)) h an rfl rfl rfl rfl aj (lH.zero _) (by rw[Array.size_append,List.size_toArray,dA,g1];omega) (fun j v ao=>?_) (by omega) (Nat.le_refl _) jX (fun h=>by cases h) (fun _=>?_)
 ·obtain⟨av,mI,j6⟩:=Cf.get ao
  exact⟨av,Nw (aB++hg) z _ j av mI,j6⟩
 ·rw[Array.size_append,List.size_toArray,dA,size_zeroCells,cY,<-Nat.add_mul,show len+n+(grownCap w (len+n) dn e-(len+n))=grownCap w (len+n) dn e by omega]
  exact Nat.le_refl _
theorem OL{bO cM e ty:TypeId}{R bs b i len cap n:Nat}{z:Value}{cs:List Value}{x c_ ei:Value}{news:List Value}(h:b9 P base ai H w)(hu:P.underlying bO=some (.slice e))(I:fJ P cM=true)(an:bm P e=some R)(af:bytes? P e=some bs)(aP:dw P e=some z)(cY:z.cells.size=R)
  (cX:Src H R x n n news)(aE:0<n)(dH:0<bs)(bp:(len+n)*bs<=140737488355328)(aS:H[b]?=some (.own e false cs))(g2:i+len*R<=cs.length)(gG:cap<len+n)(ag:0<cap)(jA:bf ai (.slice (some ⟨b,i,none⟩) len cap) c_)(iu:bf ai x ei):
  fy P base ai H w (ng bO cM ty c_ ei) (.slice (some ⟨H.length,0,none⟩) (len+n) (len+n)) (H++[.own e true ((cs.drop i).take (len*R)++news)]):=by
 obtain⟨o,hlen,hg,aa,aD⟩:=sF cX h iu
 cases jA with
 | void=>omega
 | empty=>omega
 | slice ah qq hle fH nH cm=>
  rename_i k dn
  have ar:k.loose=false:=by cases h.eO b k _ ah aS;assumption
  have:=nH ar
  exact Iu h hu I an af aP cY dH bp ah aS rfl g2 (by omega) o hlen aa aD
theorem OU{s:Sem Value}{v:Value}{b:Nat}{e:TypeId}{l:Bool}{cs:List Value}{X:bB}(h:b9 P base ai H w)(aS:H[b]?=some (.own e l cs))(aJ:fy P base ai H w s v (H++[X])):fy P base ai H w s v (H.set b .dead++[X]):=by
 obtain⟨bo,av,a7,aT,aQ,bn,b8⟩:=aJ
 have cK:b<H.length:=(cc.1 aS).1
 obtain⟨j8,lz⟩:=bn.kill b ⟨e,l,cs,by rw[vG cK];exact aS⟩
 have Py:(H++[X]).set b .dead=H.set b .dead++[X]:=by rw[List.set_append_left _ _ cK]
 rw[Py]at j8 lz
 exact⟨bo,av,a7,aT,aQ,j8,b8.trans lz⟩
theorem ON{bO cM e ty:TypeId}{R bs b i len cap n:Nat}{z:Value}{cs:List Value}{x c_ ei:Value}{news:List Value}(h:b9 P base ai H w)(hu:P.underlying bO=some (.slice e))(I:fJ P cM=true)(an:bm P e=some R)(af:bytes? P e=some bs)(aP:dw P e=some z)(cY:z.cells.size=R)
  (cX:Src H R x n n news)(aE:0<n)(dH:0<bs)(bp:(len+n)*bs<=140737488355328)(aS:H[b]?=some (.own e true cs))(g2:i+len*R<=cs.length)(gG:cap<len+n)(ag:0<cap)(gZ:(news.all (·.oneCell'))=true)
  (jA:bf ai (.slice (some ⟨b,i,none⟩) len cap) c_)(iu:bf ai x ei):
  fy P base ai H w (ng bO cM ty c_ ei) (.slice (some ⟨H.length,0,none⟩) (len+n) (len+n)) (H.set b .dead++[.own e true ((cs.drop i).take (len*R)++news)]):=by
 obtain⟨o,hlen,hg,aa,aD⟩:=sF cX h iu
 cases jA with
 | void=>omega
 | empty=>omega
 | slice ah qq hle fH nH cm=>
  rename_i k dn
  have nv:=h.eO b k _ ah aS
  cases nv with
  | own rW il ad c0 aV Qp ax CZ ao=>
  rename_i cur dX inf
  have zh:k.R=R:=by simp only[bm,ad,Option.map_some,Option.some.injEq]at an;omega
  have Qo:=cm il
  rw[zh]at Qo
  by_cases eX:len+n<=dn
  ·
   have hmul:len*R+n*R<=dn*R:=by rw[<-Nat.add_mul];exact Nat.mul_le_mul_right _ eX
   have C_:hg.length=n*R:=by rw[<-aD.1,hlen]
   have wL:∀v∈hg,v.oneCell'=true:=fun av dd=>by
    obtain⟨j,aI⟩:=List.getElem?_of_mem dd
    have wF:j<news.length:=by rw[aD.1];exact(cc.1 aI).1
    rw[(aD.2 j _ _ (bt wF) aI).LC]
    simpa using List.all_eq_true.1 gZ _ (List.getElem_mem wF)
   have gH:=EJ (P:=P) k.g (k.U+i+len*R) e dX hg 0 cur w aV (Qp▸ax) (by omega) wL
   simp only[Nat.add_zero]at gH
   have g1:((cs.drop i).take (len*R)).length=len*R:=by simp;omega
   have JP:=h.Ef (i:=i) (c2:=true) (eo:=(cs.drop i).take (len*R)++news) (lf:=(c3 cur.toList (k.U+i+len*R) hg).toArray) (dX:=dX) ah aS ⟨cur,aV,by rw[List.size_toArray,mW (by simp;omega)];simp⟩
    (by rw[List.size_toArray,mW (by simp;omega),List.length_append,g1,hlen];simp;omega) (fun j v aI=>by
     have bq:(c3 cur.toList (k.U+i+len*R) hg).toArray[k.U+i+j]?=(c3 cur.toList (k.U+i+len*R) hg)[k.U+i+j]?:=by simp
     rw[bq,q6 (by simp;omega)]
     by_cases fP:j<len*R
     ·rw[if_neg (by omega)]
      rw[List.getElem?_append_left (by omega),List.getElem?_take_of_lt fP,List.getElem?_drop]at aI
      obtain⟨av,aT,aQ⟩:=ao (i+j) v aI
      exact⟨av,by simpa[Nat.add_assoc]using aT,aQ⟩
     ·rw[List.getElem?_append_right (by omega),g1]at aI
      have nC:j-len*R<news.length:=(cc.1 aI).1
      rw[if_pos (by omega),show k.U+i+j-(k.U+i+len*R)=j-len*R by omega]
      exact aD.get aI)
   refine⟨_,_,_,EH hu I an o (aa w rfl) eX (by simp only[oY];exact gH),?_,JP.1,JP.2⟩
   have:=bf.slice (ai:=ai.put H.length ⟨k.g,k.U+i,k.N,k.R,true⟩) (b:=H.length) (i:=0) (k:=⟨k.g,k.U+i,k.N,k.R,true⟩) (len:=len+n) (cap:=len+n) (dn:=dn) (bc.mT _ _ _) (by omega) (Nat.le_refl _) eX (fun h=>by cases h)
    (fun _=>by simp only;rw[zh];omega)
   simpa using this
  ·
   have wA:=Iu (bO:=bO) (cM:=cM) (ty:=ty) (bs:=bs) (z:=z) (ei:=ei) (len:=len) (n:=n) (i:=i) (dn:=dn) h hu I an af aP cY dH bp ah aS rfl g2 (by omega) o hlen aa aD
   exact OU h aS wA
theorem OS{hJ bO e ty:TypeId}{R b i kK o1 m n:Nat}{l:Bool}{cs:List Value}{x fa ei:Value}{news:List Value}(h:b9 P base ai H w)(hu:P.underlying hJ=some (.slice e))(an:bm P e=some R)(cX:Src H R x m n news)(aE:n=min m kK)(j1:0<n)
  (aS:H[b]?=some (.own e l cs))(bp:i+news.length<=cs.length)(gZ:(news.all (·.oneCell'))=true)(w0:bf ai (.slice (some ⟨b,i,none⟩) kK o1) fa)(iu:bf ai x ei):
  fy P base ai H w (Builtin.copy_ #[hJ,bO] ty #[fa,ei]) (.int .i64 n) (H.set b (.own e l (c3 cs i news))):=by
 obtain⟨o,hlen,hg,aa,aD⟩:=sF cX h iu
 obtain⟨k,dn,ah,rfl,-⟩:=w0.AJ (by omega)
 obtain⟨a7,aj,s1,s2⟩:=Eu (i:=i) h ah aS aD bp (fun v ao=>by simpa using List.all_eq_true.1 gZ v ao)
 have hb:Nat.min m kK=n:=aE.symm
 exact⟨ai,.int .i64 n,a7,by simp[Builtin.copy_,run_underlying hu,o,hb,kb an,aa w rfl,aj,goInt],.int _ _,s1,s2⟩
theorem OT{hJ bO e ty:TypeId}{R kK o1 m:Nat}{a:Option Addr}{x fa ei:Value}(h:b9 P base ai H w)(hu:P.underlying hJ=some (.slice e))(an:bm P e=some R)(cX:Src H R x m 0 [])(aE:min m kK=0)(w0:bf ai (.slice a kK o1) fa)(iu:bf ai x ei):
  fy P base ai H w (Builtin.copy_ #[hJ,bO] ty #[fa,ei]) (.int .i64 0) H:=by
 obtain⟨o,hlen,hg,aa,aD⟩:=sF cX h iu
 have Sy:hg=[]:=List.eq_nil_of_length_eq_zero (by simpa using aD.1.symm)
 subst Sy
 obtain⟨ek,dL,rfl,-⟩:=w0.pN
 have hb:Nat.min m kK=0:=aE
 refine⟨ai,.int .i64 0,w,?_,.int _ _,h,Step.refl _ _ _⟩
 cases ek<;>simp[Builtin.copy_,run_underlying hu,o,hb,kb an,aa w rfl,goInt,storeCells]
end
section
variable {P:Program} {base:Nat} {ai:bc} {H:ab} {w:World}
theorem O6{src dst e:TypeId}{x ei:Value}{n:Nat}{xs:List Int}(h:b9 P base ai H w)(an:P.underlying src=some (.slice e))(he:P.underlying e=some (.int .u8))(aJ:P.underlying dst=some .string)
  (mG:∃a len c,x= .slice a len c)(cX:Src H 1 x n n (xs.map (Value.int .u8)))(iu:bf ai x ei):fy P base ai H w (convert src dst ei) (.string (strOfNums xs)) H:=by
 obtain⟨a,len,c,rfl⟩:=mG
 generalize wJ:xs.map (Value.int .u8)=news at cX
 cases cX with
 | u9=>
  have I:xs=[]:=by simpa using wJ
  subst I
  obtain⟨ek,dL,rfl,-⟩:=iu.pN
  refine⟨ai,.string (strOfNums []),w,?_,.str _,h,Step.refl _ _ _⟩
  cases ek with
  | none=>rw[run_convert_bytes_nil w src e an he _ _ dst aJ];rfl
  | some rA=>
   rw[run_convert_bytes_string w src dst e (some rA) 0 dL an he aJ,run_bytesToString w _ 0 dL [] (by simp[loadCells,loadCellsFrom]),foldl_push_bytes]
   rfl
 | row I ag aE hm bp=>
  rename_i b i X cs
  obtain⟨k,dn,ah,rfl,-⟩:=iu.AJ (by omega)
  obtain⟨aB,ar,lO,aj⟩:=h.cells ah I ag bp
  have hlen:xs.length=n:=by
   have:=congrArg List.length wJ
   have aa:=aj.1
   simp only[List.length_map]at this
   omega
  refine⟨ai,.string (strOfNums xs),w,run_convert_bytes_arg w src e an he _ _ n dn xs hlen (fun j aI=>?_) dst aJ,.str _,h,Step.refl _ _ _⟩
  have lv:((cs.drop i).take (n*1))[j]?=some (.int .u8 (xs.getD j 0)):=by
   rw[<-wJ]
   simp[bt (show j<xs.length by omega),List.getD_eq_getElem?_getD]
  obtain⟨av,mI,j6⟩:=aj.get lv
  have:=lO j av mI
  rw[oY]at this
  rw[this,j6.nJ]
end
inductive eV (P:Program) (aK:Operand->Value) (H:ab) (U:Oper):Value->ab->Prop
 | sA {v:Value} (an:∀cs b,U.op≠ .select cs b) (ax:(U.op.operands.all fun x=>flat (aK x))=true) (ao:flat v=true) (h:dk P (execOp aK U)=some (.value v)):eV P aK H U v H
 | alloc {e:TypeId} {z:Value} {n:Nat} (h:U.op= .alloc e) (aP:dw P e=some z) (dt:flat z=true) (an:bm P e=some n):eV P aK H U (.pointer (some ⟨H.length,0,none⟩)) (H++[.own e false z.cells.toList])
 | box {e:TypeId} {x:Operand} {n:Nat} (h:U.op= .box e x) (an:bm P e=some n):eV P aK H U (.pointer (some ⟨H.length,0,none⟩)) (H++[.own e false (aK x).cells.toList])
 | xh {t:TypeId} {x:Operand} {b i:Nat} {X:bB} {cs:List Value} {v:Value} (h:U.op= .load t x) (aF:da P t=some false) (I:aK x= .pointer (some ⟨b,i,none⟩)) (aS:H[b]?=some X) (ag:X.cells?=some cs) (ao:cs[i]?=some v):eV P aK H U v H
 | xi {t:TypeId} {x:Operand} {b i n:Nat} {X:bB} {cs:List Value} (h:U.op= .load t x) (aF:da P t=some true) (an:bm P t=some n) (I:aK x= .pointer (some ⟨b,i,none⟩)) (aS:H[b]?=some X) (ag:X.cells?=some cs) (bp:i+n<=cs.length):
   eV P aK H U (.agg ((cs.drop i).take n).toArray) H
 | store {t:TypeId} {x y:Operand} {b i:Nat} {e:TypeId} {l:Bool} {cs:List Value} (h:U.op= .store t x y) (an:bm P t=some (aK y).cells.size) (I:aK x= .pointer (some ⟨b,i,none⟩)) (aS:H[b]?=some (.own e l cs)) (bp:i+(aK y).cells.size<=cs.length)
   (o:((aK y).cells.toList.all (·.oneCell'))=true):eV P aK H U undef (H.set b (.own e l (c3 cs i (aK y).cells.toList)))
 | slice {t e:TypeId} {x:Operand} {bX ad:Option Operand} {R b i len cap l cR:Nat} {X:bB} (h:U.op= .slice t x bX ad none) (hu:P.underlying t=some (.slice e)) (an:bm P e=some R) (I:aK x= .slice (some ⟨b,i,none⟩) len cap) (aS:H[b]?=some X) (he:X.elem?=some e)
   (ar:dN aK bX=some l) (ev:fl aK len ad=some cR) (o:l<=cR) (aa:cR<=cap) (a5:l<cap):eV P aK H U (.slice (some ⟨b,i+l*R,none⟩) (cR-l) (cap-l)) H
 | xN {t e:TypeId} {x:Operand} {bX ad:Option Operand} {R b i len cap:Nat} (h:U.op= .slice t x bX ad none) (hu:P.underlying t=some (.slice e)) (an:bm P e=some R) (I:aK x= .slice (some ⟨b,i,none⟩) len cap) (qs:0<cap)
   (ar:dN aK bX=some cap) (ev:fl aK len ad=some cap):eV P aK H U (.slice (some ⟨b,i,none⟩) 0 0) H
 | xO {t e:TypeId} {x:Operand} {bX ad:Option Operand} {R:Nat} {a:Option Addr} (h:U.op= .slice t x bX ad none) (hu:P.underlying t=some (.slice e)) (an:bm P e=some R) (I:aK x= .slice a 0 0)
   (ar:dN aK bX=some 0) (ev:fl aK 0 ad=some 0):eV P aK H U (.slice a 0 0) H
 | AI {t e:TypeId} {x bX ad e4:Operand} {R len cap l:Nat} {a:Addr} (h:U.op= .slice t x (some bX) (some ad) (some e4)) (hu:P.underlying t=some (.slice e)) (an:bm P e=some R) (I:aK x= .slice (some a) len cap)
   (ar:dN aK (some bX)=some l) (ev:dN aK (some ad)=some l) (hm:dN aK (some e4)=some l) (aD:l<=cap):eV P aK H U (.slice (some ⟨0,0,none⟩) 0 0) H
 | AH {t e:TypeId} {x bX ad e4:Operand} {R:Nat} (h:U.op= .slice t x (some bX) (some ad) (some e4)) (hu:P.underlying t=some (.slice e)) (an:bm P e=some R) (I:aK x= .slice none 0 0)
   (ar:dN aK (some bX)=some 0) (ev:dN aK (some ad)=some 0) (hm:dN aK (some e4)=some 0):eV P aK H U (.slice none 0 0) H
 | make {t e:TypeId} {x y:Operand} {R bs l c:Nat} {eg cB:IntKind} {z:Value} (h:U.op= .makeSlice t x y) (hu:P.underlying t=some (.slice e)) (an:bm P e=some R) (af:bytes? P e=some bs) (aP:dw P e=some z) (dt:flat z=true) (cY:z.cells.size=R)
   (I:aK x= .int eg (l:Int)) (aL:aK y= .int cB (c:Int)) (c0:0<R) (dH:0<bs) (lR:l<=c) (ag:0<c) (bp:bs*c<=281474976710656):eV P aK H U (.slice (some ⟨H.length,0,none⟩) l c) (H++[.own e false (made z (c*R))])
 | uw {t e:TypeId} {x y:Operand} {R bs:Nat} {eg cB:IntKind} (h:U.op= .makeSlice t x y) (hu:P.underlying t=some (.slice e)) (an:bm P e=some R) (af:bytes? P e=some bs) (I:aK x= .int eg 0) (aL:aK y= .int cB 0):
   eV P aK H U (.slice (some ⟨0,0,none⟩) 0 0) H
 | build {t e:TypeId} {R len:Nat} {aU:Array (Nat×Operand)} {z:Value} {out:Array Value} (h:U.op= .buildSlice t len aU) (hu:P.underlying t=some (.slice e)) (an:bm P e=some R) (aP:dw P e=some z) (dt:flat z=true) (cY:z.cells.size=R)
   (c0:0<R) (ar:0<len) (bp:len*R<=16777216) (ax:Instr.fill (fun i=>some (i*R,R)) (made z (len*R)).toArray (aU.toList.map fun p=>(p.1,aK p.2))=some out) (r8:out.size=len*R):
   eV P aK H U (.slice (some ⟨H.length,0,none⟩) len len) (H++[.own e false out.toList])
 | vt {t e:TypeId} {R:Nat} (h:U.op= .buildSlice t 0 #[]) (hu:P.underlying t=some (.slice e)) (an:bm P e=some R):eV P aK H U (.slice (some ⟨0,0,none⟩) 0 0) H
 | vk {bO cM e:TypeId} {s x:Operand} {R len cap:Nat} {a:Option Addr} (h:U.op= .call {callee:= .builtin .append,args:= #[s,x],argTypes:= #[bO,cM]}) (hu:P.underlying bO=some (.slice e)) (I:fJ P cM=true) (an:bm P e=some R) (cX:Src H R (aK x) 0 0 [])
   (ao:aK s= .slice a len cap):eV P aK H U (.slice a len cap) H
 | vo {bO cM e:TypeId} {s x:Operand} {R bs n:Nat} {z:Value} {a:Option Addr} {news:List Value} (h:U.op= .call {callee:= .builtin .append,args:= #[s,x],argTypes:= #[bO,cM]}) (hu:P.underlying bO=some (.slice e)) (I:fJ P cM=true) (an:bm P e=some R)
   (af:bytes? P e=some bs) (aP:dw P e=some z) (cY:z.cells.size=R) (cX:Src H R (aK x) n n news) (aE:0<n) (dH:0<bs) (bp:n*bs<=140737488355328) (aF:a=none\/∃i,a=some ⟨0,i,none⟩) (ao:aK s= .slice a 0 0):
   eV P aK H U (.slice (some ⟨H.length,0,none⟩) n n) (H++[.own e true news])
 | vm {bO cM e:TypeId} {s x:Operand} {R b i len cap n:Nat} {l:Bool} {cs:List Value} {news:List Value} (h:U.op= .call {callee:= .builtin .append,args:= #[s,x],argTypes:= #[bO,cM]}) (hu:P.underlying bO=some (.slice e)) (I:fJ P cM=true) (an:bm P e=some R)
   (cX:Src H R (aK x) n n news) (gG:len+n<=cap) (ag:0<cap) (aS:H[b]?=some (.own e l cs)) (bp:i+len*R+news.length<=cs.length) (gZ:(news.all (·.oneCell'))=true) (ao:aK s= .slice (some ⟨b,i,none⟩) len cap):
   eV P aK H U (.slice (some ⟨b,i,none⟩) (len+n) cap) (H.set b (.own e l (c3 cs (i+len*R) news)))
 | vl {bO cM e:TypeId} {s x:Operand} {R bs b i len cap n:Nat} {z:Value} {cs:List Value} {news:List Value} (h:U.op= .call {callee:= .builtin .append,args:= #[s,x],argTypes:= #[bO,cM]}) (hu:P.underlying bO=some (.slice e)) (I:fJ P cM=true) (an:bm P e=some R)
   (af:bytes? P e=some bs) (aP:dw P e=some z) (cY:z.cells.size=R) (cX:Src H R (aK x) n n news) (aE:0<n) (dH:0<bs) (bp:(len+n)*bs<=140737488355328) (aS:H[b]?=some (.own e false cs)) (g2:i+len*R<=cs.length) (gG:cap<len+n) (ag:0<cap)
   (ao:aK s= .slice (some ⟨b,i,none⟩) len cap):eV P aK H U (.slice (some ⟨H.length,0,none⟩) (len+n) (len+n)) (H++[.own e true ((cs.drop i).take (len*R)++news)])
 | vn {bO cM e:TypeId} {s x:Operand} {R bs b i len cap n:Nat} {z:Value} {cs:List Value} {news:List Value} (h:U.op= .call {callee:= .builtin .append,args:= #[s,x],argTypes:= #[bO,cM]}) (hu:P.underlying bO=some (.slice e)) (I:fJ P cM=true) (an:bm P e=some R)
   (af:bytes? P e=some bs) (aP:dw P e=some z) (cY:z.cells.size=R) (cX:Src H R (aK x) n n news) (aE:0<n) (dH:0<bs) (bp:(len+n)*bs<=140737488355328) (aS:H[b]?=some (.own e true cs)) (g2:i+len*R<=cs.length) (gG:cap<len+n) (ag:0<cap)
   (gZ:(news.all (·.oneCell'))=true) (ao:aK s= .slice (some ⟨b,i,none⟩) len cap):eV P aK H U (.slice (some ⟨H.length,0,none⟩) (len+n) (len+n)) (H.set b .dead++[.own e true ((cs.drop i).take (len*R)++news)])
 | copy {hJ bO e:TypeId} {d x:Operand} {R b i kK o1 m n:Nat} {l:Bool} {cs:List Value} {news:List Value} (h:U.op= .call {callee:= .builtin .copy,args:= #[d,x],argTypes:= #[hJ,bO]}) (hu:P.underlying hJ=some (.slice e)) (an:bm P e=some R) (cX:Src H R (aK x) m n news)
   (aE:n=min m kK) (j1:0<n) (aS:H[b]?=some (.own e l cs)) (bp:i+news.length<=cs.length) (gZ:(news.all (·.oneCell'))=true) (ao:aK d= .slice (some ⟨b,i,none⟩) kK o1):eV P aK H U (.int .i64 n) (H.set b (.own e l (c3 cs i news)))
 | vx {hJ bO e:TypeId} {d x:Operand} {R kK o1 m:Nat} {a:Option Addr} (h:U.op= .call {callee:= .builtin .copy,args:= #[d,x],argTypes:= #[hJ,bO]}) (hu:P.underlying hJ=some (.slice e)) (an:bm P e=some R) (cX:Src H R (aK x) m 0 []) (aE:min m kK=0)
   (ao:aK d= .slice a kK o1):eV P aK H U (.int .i64 0) H
 | str {src dst e:TypeId} {x:Operand} {n:Nat} {xs:List Int} (h:U.op= .convert src dst x) (an:P.underlying src=some (.slice e)) (he:P.underlying e=some (.int .u8)) (aJ:P.underlying dst=some .string) (mG:∃a len c,aK x= .slice a len c)
   (cX:Src H 1 (aK x) n n (xs.map (Value.int .u8))):eV P aK H U (.string (strOfNums xs)) H
theorem Lm{P:Program}{base:Nat}{ai:bc}{H aC:ab}{w:World}{aK cu:Operand->Value}{U:Oper}{v:Value}(h:eV P aK H U v aC)(bE:b9 P base ai H w)(c9:∀x∈U.op.operands,bf ai (aK x) (cu x)):
  ∃bo av a7,((execOp cu U).run P w= .ok (.value av) a7\/((execOp cu U).run P w= .ok .skip a7/\av=undef))/\bf bo v av/\b9 P base bo aC a7/\Step ai H w bo aC a7:=by
 have fin:∀{s:Sem Value} {v:Value} {aC:ab},fy P base ai H w s v aC->(∀av a7,s.run P w= .ok av a7->(execOp cu U).run P w= .ok (.value av) a7)->
   ∃bo av a7,((execOp cu U).run P w= .ok (.value av) a7\/((execOp cu U).run P w= .ok .skip a7/\av=undef))/\bf bo v av/\b9 P base bo aC a7/\Step ai H w bo aC a7:=by
  intro s v aC ⟨bo,av,a7,aT,aQ,bn,b8⟩ aj
  exact⟨bo,av,a7,.inl (aj _ _ aT),aQ,bn,b8⟩
 cases h with
 | sA an ax ao h=>
  have he:execOp aK U=execOp cu U:=execOp_congr U an fun x I=>(Il (by simpa using Array.all_eq_true'.1 ax x I) (c9 x I)).symm
  exact⟨ai,v,w,.inl (qZ _ _ (he▸h) w),tm ai ao,bE,Step.refl _ _ _⟩
 | alloc h aP dt an=>exact fin (OJ bE aP dt an) fun av a7 aj=>by simp[execOp,h,aj]
 | box h an=>exact fin (OP bE (c9 _ (by simp[h,Op.operands])) an) fun av a7 aj=>by simp[execOp,h,aj]
 | xh h aF I aS ag ao=>exact fin (OV bE aF (I▸c9 _ (by simp[h,Op.operands])) aS ag ao) fun av a7 aj=>by simp[execOp,h,aj]
 | xi h aF an I aS ag bp=>exact fin (OW bE aF an (I▸c9 _ (by simp[h,Op.operands])) aS ag bp) fun av a7 aj=>by simp[execOp,h,aj]
 | store h an I aS bp o=>
  obtain⟨a7,aj,s1,s2⟩:=O5 bE an (I▸c9 _ (by simp[h,Op.operands])) (c9 _ (by simp[h,Op.operands])) aS bp o
  exact⟨ai,undef,a7,.inr ⟨by simp[execOp,h,aj],rfl⟩,bf.undef ai,s1,s2⟩
 | slice h hu an I aS he ar ev o aa a5=>
  refine fin (OZ bE hu an (I▸c9 _ (by simp[h,Op.operands])) aS he (fun y aL=>c9 y ?_) (fun y aL=>c9 y ?_) ar ev o aa a5) fun av a7 aj=>by simp[execOp,h,aj]
  ·simp[h,Op.operands,aL]
  ·simp[h,Op.operands,aL]
 | xN h hu an I qs ar ev=>
  refine fin (O2 bE hu an (I▸c9 _ (by simp[h,Op.operands])) qs (fun y aL=>c9 y ?_) (fun y aL=>c9 y ?_) ar ev) fun av a7 aj=>by simp[execOp,h,aj]
  ·simp[h,Op.operands,aL]
  ·simp[h,Op.operands,aL]
 | xO h hu an I ar ev=>
  refine fin (O3 bE hu an (I▸c9 _ (by simp[h,Op.operands])) (fun y aL=>c9 y ?_) (fun y aL=>c9 y ?_) ar ev) fun av a7 aj=>by simp[execOp,h,aj]
  ·simp[h,Op.operands,aL]
  ·simp[h,Op.operands,aL]
 | AI h hu an I ar ev hm aD=>exact fin (O1 bE hu an (I▸c9 _ (by simp[h,Op.operands])) (c9 _ (by simp[h,Op.operands])) (c9 _ (by simp[h,Op.operands])) (c9 _ (by simp[h,Op.operands])) ar ev hm aD) fun av a7 aj=>by simp[execOp,h,aj]
 | AH h hu an I ar ev hm=>exact fin (O0 bE hu an (I▸c9 _ (by simp[h,Op.operands])) (c9 _ (by simp[h,Op.operands])) (c9 _ (by simp[h,Op.operands])) (c9 _ (by simp[h,Op.operands])) ar ev hm) fun av a7 aj=>by simp[execOp,h,aj]
 | make h hu an af aP dt cY I aL c0 dH lR ag bp=>
  have bq:=(I▸c9 _ (by simp[h,Op.operands])).nJ
  have bh:=(aL▸c9 _ (by simp[h,Op.operands])).nJ
  rename_i t e x y R bs l c eg cB z
  exact fin (OX (eg:=eg) (cB:=cB) bE hu an af aP dt cY c0 dH lR ag bp) fun av a7 aj=>by simp[execOp,h,bq,bh,aj]
 | uw h hu an af I aL=>
  have bq:=(I▸c9 _ (by simp[h,Op.operands])).nJ
  have bh:=(aL▸c9 _ (by simp[h,Op.operands])).nJ
  rename_i t e x y R bs eg cB
  exact fin (OY (eg:=eg) (cB:=cB) bE hu an af) fun av a7 aj=>by simp[execOp,h,bq,bh,aj]
 | build h hu an aP dt cY c0 ar bp ax r8=>exact fin (OQ bE hu an aP dt cY c0 ar bp (fun p aR=>c9 p.2 (by simp[h,Op.operands];exact⟨p.1,by simpa using aR⟩)) ax r8) fun av a7 aj=>by simp[execOp,h,aj]
 | vt h hu an=>exact fin (OR bE hu an) fun av a7 aj=>by simp[execOp,h,aj]
 | vk h hu I an cX ao=>exact fin (OK (ty:=U.type) bE hu I an cX rfl (ao▸c9 _ (by simp[h,Op.operands,Call.operands])) (c9 _ (by simp[h,Op.operands,Call.operands]))) fun av a7 aj=>by simp[ng]at aj;simp[execOp,h,resolve,invoke,builtin,aj]
 | vo h hu I an af aP cY cX aE dH bp aF ao=>
  exact fin (OO (ty:=U.type) bE hu I an af aP cY cX aE dH bp aF (ao▸c9 _ (by simp[h,Op.operands,Call.operands])) (c9 _ (by simp[h,Op.operands,Call.operands]))) fun av a7 aj=>by simp[ng]at aj;simp[execOp,h,resolve,invoke,builtin,aj]
 | vm h hu I an cX gG ag aS bp gZ ao=>
  exact fin (OM (ty:=U.type) bE hu I an cX gG ag aS bp gZ (ao▸c9 _ (by simp[h,Op.operands,Call.operands])) (c9 _ (by simp[h,Op.operands,Call.operands]))) fun av a7 aj=>by simp[ng]at aj;simp[execOp,h,resolve,invoke,builtin,aj]
 | vl h hu I an af aP cY cX aE dH bp aS g2 gG ag ao=>
  exact fin (OL (ty:=U.type) bE hu I an af aP cY cX aE dH bp aS g2 gG ag (ao▸c9 _ (by simp[h,Op.operands,Call.operands])) (c9 _ (by simp[h,Op.operands,Call.operands]))) fun av a7 aj=>by simp[ng]at aj;simp[execOp,h,resolve,invoke,builtin,aj]
 | vn h hu I an af aP cY cX aE dH bp aS g2 gG ag gZ ao=>
  exact fin (ON (ty:=U.type) bE hu I an af aP cY cX aE dH bp aS g2 gG ag gZ (ao▸c9 _ (by simp[h,Op.operands,Call.operands])) (c9 _ (by simp[h,Op.operands,Call.operands]))) fun av a7 aj=>by simp[ng]at aj;simp[execOp,h,resolve,invoke,builtin,aj]
 | copy h hu an cX aE j1 aS bp gZ ao=>
  rename_i hJ bO e d x R b i kK o1 m n l cs news
  exact fin (OS (ty:=U.type) (bO:=bO) bE hu an cX aE j1 aS bp gZ (ao▸c9 _ (by simp[h,Op.operands,Call.operands])) (c9 _ (by simp[h,Op.operands,Call.operands]))) fun av a7 aj=>by simp[execOp,h,resolve,invoke,builtin,aj]
 | vx h hu an cX aE ao=>
  rename_i hJ bO e d x R kK o1 m a
  exact fin (OT (ty:=U.type) (bO:=bO) bE hu an cX aE (ao▸c9 _ (by simp[h,Op.operands,Call.operands])) (c9 _ (by simp[h,Op.operands,Call.operands]))) fun av a7 aj=>by simp[execOp,h,resolve,invoke,builtin,aj]
 | str h an he aJ mG cX=>exact fin (O6 bE an he aJ mG cX (c9 _ (by simp[h,Op.operands]))) fun av a7 aj=>by simp[execOp,h,aj]
def eZ(t:List Value):Operand->Value
 | .tmp i=>t.getD i undef
 | .const v=>v
 | .global g=> .pointer (some ⟨0,g,some 0⟩)
 | .func f=> .func (.func f) #[] #[]
def mQ:Operand->Bool
 | .const v=>flat v
 | _=>true
def eS(t:List Value)(dst:Option Tmp)(v:Value):List Value:=match dst with
 | some d=>t.set d v
 | none=>t
def gM(ops:Array Oper)(t:List Value)(j:Nat):Option Bool:=
 match((ops[j]?).bind (·.dst)).bind (t[·]?)with
 | some (.bool b)=>some b
 | _=>none
inductive ds where
 | normal
 | exit (id:Nat)
 | ret
 deriving DecidableEq
def ds.real:ds->Exit
 | .normal=> .normal
 | .exit id=> .exit id
 | .ret=> .ret
inductive lG (P:Program) (t:List Value) (H:ab):List ResultVar->List Value->Prop
 | nil:lG P t H [] []
 | tmp {i:Nat} {rs:List ResultVar} {aB:List Value} (an:lG P t H rs aB):lG P t H (.tmp i::rs) (t.getD i undef::aB)
 | ys {a:Nat} {ty:TypeId} {b i:Nat} {X:bB} {cs:List Value} {v:Value} {rs:List ResultVar} {aB:List Value} (aF:da P ty=some false) (I:t.getD a undef= .pointer (some ⟨b,i,none⟩)) (aS:H[b]?=some X) (ag:X.cells?=some cs) (ao:cs[i]?=some v)
   (an:lG P t H rs aB):lG P t H (.cell a ty::rs) (v::aB)
 | yt {a:Nat} {ty:TypeId} {b i n:Nat} {X:bB} {cs:List Value} {rs:List ResultVar} {aB:List Value} (aF:da P ty=some true) (aE:bm P ty=some n) (I:t.getD a undef= .pointer (some ⟨b,i,none⟩)) (aS:H[b]?=some X) (ag:X.cells?=some cs) (bp:i+n<=cs.length)
   (an:lG P t H rs aB):lG P t H (.cell a ty::rs) (.agg ((cs.drop i).take n).toArray::aB)
def bj(aB:List Value):Value:=match aB with
 | [v]=>v
 | _=> .tuple aB.toArray
def Ext(H aC:ab):Prop:=∃N,aC=H++N/\∀x∈N,∀e cs,x≠ .ro e cs
def Po(ops:Array Oper):Bool:=ops.toList.zipIdx.all fun pI=>pI.1.after.all fun e=> !Region.binds .any e || decide (e.on<pI.2)
def V8(ops:Array Oper)(m:Array Nat):Bool:=ops.toList.zipIdx.all fun pI=>(List.range ops.size).all fun j=>
 !(m.getD pI.2 0).testBit j || pI.1.after.any fun e=>Region.binds .any e&&(e.on==j || (decide (e.on<pI.2)&&(m.getD e.on 0).testBit j))
def n3(m:Array Nat)(i j:Nat):Bool:=(m.getD j 0).testBit i
def X8(ops:Array Oper)(m:Array Nat):Bool:=ops.toList.zipIdx.all fun oO=>ops.toList.zipIdx.all fun e5=> !decide (e5.2<oO.2) || n3 m e5.2 oO.2 ||
 ((match e5.1.dst with | some d=> !(oO.1.looksAt ops).contains d&&oO.1.dst !=some d | none=>true)&&(match oO.1.dst with | some d=> !(e5.1.looksAt ops).contains d | none=>true))
def gx(ops:Array Oper):Bool:=Po ops&&V8 ops (Region.before ops)&&X8 ops (Region.before ops)
def eu(P:Program)(ops:Array Oper)(i:Nat):Bool:=ops.toList.zipIdx.all fun oO=>bF P oO.1 || decide (oO.2=i) || n3 (Region.before ops) (min i oO.2) (max i oO.2)
inductive oS where
 | code (c:Code) (t:List Value) (H:ab)
 | op (ops:Array Oper) (U:Oper) (t:List Value) (H:ab)
 | call (f:FuncId) (args:List Value) (H:ab)
inductive Out where
 | code (e:ds) (t:List Value) (H:ab)
 | val (v:Value) (H:ab)
def l0(H:ab)(b:Nat):Option bB->ab
 | some x=>H.set b x
 | none=>H
def nX(P:Program)(ops:Array Oper)(U:Oper)(t:List Value)(H:ab)(v:Value)(H1:ab):Option (Nat×Option bB)->Prop
 | none=>(Region.wanted U (gM ops t)=false\/bF P U=true)/\H1=H
 | some (b,y)=>Region.wanted U (gM ops t)=true/\bF P U=false/\b<H.length/\H[b]?≠some .dead/\H1=l0 H b y/\∀aC:ab,aC[b]?=H[b]?->eV P (eZ t) aC U v (l0 aC b y)
inductive dK (P:Program):oS->Out->Prop
 | skip {t:List Value} {H:ab}:dK P (.code .skip t H) (.code .normal t H)
 | ret {t:List Value} {H:ab}:dK P (.code .ret t H) (.code .ret t H)
 | exit {id:Nat} {t:List Value} {H:ab}:dK P (.code (.exit id) t H) (.code (.exit id) t H)
 | AB {a b:Code} {t t1:List Value} {H H1:ab} {e:ds} {t2:List Value} {a0:ab} (o:dK P (.code a t H) (.code .normal t1 H1)) (aa:dK P (.code b t1 H1) (.code e t2 a0)):dK P (.code (.seq a b) t H) (.code e t2 a0)
 | xI {a b:Code} {t t1:List Value} {H H1:ab} {e:ds} (o:dK P (.code a t H) (.code e t1 H1)) (he:e≠ .normal):dK P (.code (.seq a b) t H) (.code e t1 H1)
 | cond {c:Operand} {x y:Code} {b:Bool} {t t1:List Value} {H H1:ab} {e:ds} (ag:eZ t c= .bool b) (ah:mQ c=true) (h:dK P (.code (if b then x else y) t H) (.code e t1 H1)):dK P (.code (.cond c x y) t H) (.code e t1 H1)
 | block {id:Nat} {c:Code} {t t1:List Value} {H H1:ab} {e:ds} (h:dK P (.code c t H) (.code e t1 H1)):dK P (.code (.block id c) t H) (.code (if e= .exit id then .normal else e) t1 H1)
 | z9 {c:Code} {t t1 t2:List Value} {H H1 a0:ab} {e:ds} (o:dK P (.code c t H) (.code .normal t1 H1)) (aa:dK P (.code (.loop c) t1 H1) (.code e t2 a0)):dK P (.code (.loop c) t H) (.code e t2 a0)
 | xj {c:Code} {t t1:List Value} {H H1:ab} {e:ds} (o:dK P (.code c t H) (.code e t1 H1)) (he:e≠ .normal):dK P (.code (.loop c) t H) (.code e t1 H1)
 | region {id:Nat} {ops:Array Oper} {draw:Bool} (T:Nat->List Value) (V:Nat->Value) (aX:Nat->ab) (ah:(ops.all fun U=>U.op.operands.all mQ)=true)
   (h:∀(i:Nat) (U:Oper),ops[i]?=some U->dK P (.op ops U (T i) (aX i)) (.val (V i) (aX (i+1)))) (ba:∀(i:Nat) (U:Oper),ops[i]?=some U->T (i+1)=eS (T i) U.dst (V i))
   (aJ:draw=true->gx ops=true/\∀(i:Nat) (U:Oper),ops[i]?=some U->bF P U=false->eu P ops i=true\/Ext (aX i) (aX (i+1))):dK P (.code (.region id ops draw) (T 0) (aX 0)) (.code .normal (T ops.size) (aX ops.size))
 | Ax {id:Nat} {ops:Array Oper} {draw:Bool} (T:Nat->List Value) (V:Nat->Value) (aX:Nat->ab) (dV:Nat->Option (Nat×Option bB)) (ah:(ops.all fun U=>U.op.operands.all mQ)=true)
   (h:∀(i:Nat) (U:Oper),ops[i]?=some U->dK P (.op ops U (T i) (aX i)) (.val (V i) (aX (i+1)))) (ba:∀(i:Nat) (U:Oper),ops[i]?=some U->T (i+1)=eS (T i) U.dst (V i)) (ee:gx ops=true)
   (ar:∀(i:Nat) (U:Oper),ops[i]?=some U->nX P ops U (T i) (aX i) (V i) (aX (i+1)) (dV i)) (aJ:∀(i j:Nat) (b:Nat) (x:bB) (y:Option bB),dV i=some (b,some x)->dV j=some (b,y)->i≠j->eu P ops i=true\/eu P ops j=true) (ue:∀j,ops.size<=j->dV j=none):
   dK P (.code (.region id ops draw) (T 0) (aX 0)) (.code .normal (T ops.size) (aX ops.size))
 | sC {ops:Array Oper} {U:Oper} {t:List Value} {H:ab} (hw:Region.wanted U (gM ops t)=false):dK P (.op ops U t H) (.val undef H)
 | uC {ops:Array Oper} {U:Oper} {t:List Value} {H:ab} {v:Value} (hw:Region.wanted U (gM ops t)=true) (a2:bF P U=true) (h:hk P (eZ t) U v):dK P (.op ops U t H) (.val v H)
 | qV {ops:Array Oper} {U:Oper} {t:List Value} {H H1:ab} {v:Value} (hw:Region.wanted U (gM ops t)=true) (a2:bF P U=false) (h:eV P (eZ t) H U v H1):dK P (.op ops U t H) (.val v H1)
 | uB {ops:Array Oper} {U:Oper} {t:List Value} {H H1:ab} {v:Value} {f:Operand} {args:Array Operand} {kI:Array TypeId} {g:FuncId} {first cap:Array Value} {fn:Func} (hw:Region.wanted U (gM ops t)=true) (a2:bF P U=false)
   (aM:U.op= .call {callee:= .value f,args:=args,argTypes:=kI}) (ax:eZ t f= .func (.func g) first cap) (aV:P.funcs[g]?=some fn) (aE:(fn.name== "runtime.NumGoroutine")=false) (af:fn.body.isSome=true)
   (h:dK P (.call g (first.toList++args.toList.map (eZ t)++cap.toList) H) (.val v H1)):dK P (.op ops U t H) (.val v H1)
 | call {f:FuncId} {fn:Func} {c:Code} {args t1 aB:List Value} {H H1:ab} {e:ds} (ax:P.funcs[f]?=some fn) (af:fn.body=some c) (h:dK P (.code c (args++List.replicate (fn.ntmps-args.length) undef) H) (.code e t1 H1))
   (he:e= .normal\/e= .ret) (aj:lG P t1 H1 fn.results.toList aB):dK P (.call f args H) (.val (bj aB) H1)
 | yq {f:FuncId} {args:List Value} {v:Value} {H H1:ab} {b:Nat} (h:dK P (.call f args H) (.val v H1)) (aM:hn H1 b):dK P (.call f args H) (.val v (H1.set b .dead))
def s3(P:Program)(base:Nat)(ops:Array Oper)(U:Oper)(t:List Value)(H:ab)(v:Value)(H1:ab):Prop:=
 (Region.wanted U (gM ops t)=false/\v=undef/\H1=H)\/
 (Region.wanted U (gM ops t)=true/\bF P U=true/\hk P (eZ t) U v/\H1=H)\/
 (Region.wanted U (gM ops t)=true/\bF P U=false/\∀(ai:bc) (w:World) (a:Act),(∀x∈U.op.operands,bf ai (eZ t x) (a.eval x))->b9 P base ai H w->∀(K:Act->World->Prop) (Q:Exit->Act->World->Prop),
  (∀bo av a7,bf bo v av->b9 P base bo H1 a7->Step ai H w bo H1 a7->K (a.put U.dst av) a7)->U.wp P a w K Q)
def Sound(P:Program)(base:Nat):oS->Out->Prop
 | .code c t H,.code e t1 H1=>∀(ai:bc) (w:World) (a:Act),cF ai t a.tmps.toList->a.defers=[]->b9 P base ai H w->∀(Q:Exit->Act->World->Prop),
   (∀bo b4 a7,cF bo t1 b4.tmps.toList->b4.defers=[]->b9 P base bo H1 a7->Step ai H w bo H1 a7->Q e.real b4 a7)->c.wp P Q a w
 | .op ops U t H,.val v H1=>s3 P base ops U t H v H1
 | .call f args H,.val v H1=>∀(ai:bc) (w:World) (kH:Array Value),cF ai args kH.toList->b9 P base ai H w->
   Calls P f kH w fun e gm=>∃av bo,e= .returned av/\bf bo v av/\b9 P base bo H1 gm/\Step ai H w bo H1 gm
 | _,_=>True
theorem xK{ai:bc}{t:List Value}{a:Act}(h:cF ai t a.tmps.toList){x:Operand}(I:mQ x=true):bf ai (eZ t x) (a.eval x):=by
 cases x with
 | tmp i=>
  have:=h.getD i
  simpa[eZ,Act.eval,Array.getD_eq_getD_getElem?,List.getD_eq_getElem?_getD]using this
 | const v=>exact tm ai I
 | global g=>exact .rL g
 | func f=>exact .func _ rfl (fun i v av h=>by simp at h) rfl (fun i v av h=>by simp at h)
theorem WM{ai:bc}{t:List Value}{a:Act}(h:cF ai t a.tmps.toList)(dst:Option Tmp){v av:Value}(ao:bf ai v av):cF ai (eS t dst v) (a.put dst av).tmps.toList:=by
 cases dst with
 | none=>exact h
 | some d=>
  simp only[eS,Act.put,Array.toList_setIfInBounds]
  exact h.set d ao
theorem put_defers(a:Act)(dst:Option Tmp)(v:Value):(a.put dst v).defers=a.defers:=by cases dst<;>rfl
theorem bf.gR{ai:bc}{v av:Value}(h:bf ai v av):(match(some v:Option Value)with | some (.bool b)=>some b | _=>(none:Option Bool))=match(some av:Option Value)with | some (.bool b)=>some b | _=>none:=by
 cases h<;>rfl
theorem abJ{ai:bc}{t:List Value}{a:Act}(h:cF ai t a.tmps.toList)(ops:Array Oper)(j:Nat):yielded ops a.tmps j=gM ops t j:=by
 unfold yielded gM
 cases aJ:(ops[j]?).bind (·.dst)with
 | none=>rfl
 | some d=>
  simp only[Option.bind_some]
  by_cases a5:d<t.length
  ·have o:=bt a5
   obtain⟨av,aa,aD⟩:=h.get o
   have tp:a.tmps[d]?=some av:=by simpa using aa
   rw[o,tp]
   exact aD.gR.symm
  ·have aH:t.length<=d:=Nat.le_of_not_lt a5
   have o:t[d]?=none:=List.getElem?_eq_none aH
   have aa:a.tmps[d]?=none:=by
    have:=h.1
    rw[Array.getElem?_eq_none_iff]
    simp at this
    exact this▸aH
   rw[o,aa]
theorem Fm{U:Oper}{f g:Nat->Option Bool}(h:∀j b,U.guard=some (j,b)->f j=g j):Region.wanted U f=Region.wanted U g:=by
 unfold Region.wanted
 cases aV:U.guard with
 | none=>rfl
 | some KR=>simp only[h KR.1 KR.2 aV]
theorem El{P:Program}{base:Nat}{ops:Array Oper}{T:Nat->List Value}{V:Nat->Value}{aX:Nat->ab}{Q:Exit->Act->World->Prop}(ah:(ops.all fun U=>U.op.operands.all mQ)=true)
  (h:∀(i:Nat) (U:Oper),ops[i]?=some U->s3 P base ops U (T i) (aX i) (V i) (aX (i+1)))(ba:∀(i:Nat) (U:Oper),ops[i]?=some U->T (i+1)=eS (T i) U.dst (V i)){hV:bc}{dP:World}
  (aG:∀bo b4 a7,cF bo (T ops.size) b4.tmps.toList->b4.defers=[]->b9 P base bo (aX ops.size) a7->Step hV (aX 0) dP bo (aX ops.size) a7->Q .normal b4 a7):∀(m k:Nat),k+m=ops.size->∀(ai:bc) (a:Act) (w:World),cF ai (T k) a.tmps.toList->a.defers=[]->
  b9 P base ai (aX k) w->Step hV (aX 0) dP ai (aX k) w->wpOps P ops Q (List.range' k m) a w
 | 0,k,ik,ai,a,w,cg,hs,bE,cS=>by
  have:k=ops.size:=by omega
  subst this
  exact aG ai a w cg hs bE cS
 | m+1,k,ik,ai,a,w,cg,hs,bE,cS=>by
  have a5:k<ops.size:=by omega
  have aM:ops[k]?=some ops[k]:=Array.getElem?_eq_getElem a5
  have bW:∀x∈ops[k].op.operands,bf ai (eZ (T k) x) (a.eval x):=fun x I=>xK cg (by
   have o:=Array.all_eq_true.1 ah k a5
   simpa using Array.all_eq_true'.1 o x I)
  have hw:Region.wanted ops[k] (yielded ops a.tmps)=Region.wanted ops[k] (gM ops (T k)):=Fm fun j _ _=>abJ cg ops j
  rw[List.range'_succ,wpOps_cons]
  unfold wpOp
  simp only[aM,hw]
  have next:∀bo av a7,bf bo (V k) av->b9 P base bo (aX (k+1)) a7->Step ai (aX k) w bo (aX (k+1)) a7->wpOps P ops Q (List.range' (k+1) m) (a.put ops[k].dst av) a7:=fun bo av a7 ao g_ lx=>by
   refine El ah h ba aG m (k+1) (by omega) bo _ a7 ?_ (by rw[put_defers];exact hs) g_ (cS.trans lx)
   rw[ba k _ aM]
   exact WM (cg.ext lx.ext) _ ao
  rcases h k _ aM with⟨o,aa,aD⟩ | ⟨o,aa,aD,bD⟩ | ⟨o,aa,aD⟩
  ·rw[o]
   exact next ai undef w (aa▸bf.undef ai) (aD▸bE) (aD▸Step.refl _ _ _)
  ·rw[o]
   obtain⟨av,aj,ao⟩:=BU aD bW w
   refine .inl ?_
   unfold Oper.wp
   rw[aj]
   exact next ai av w ao (bD▸bE) (bD▸Step.refl _ _ _)
  ·rw[o]
   exact .inl (aD ai w a bW bE _ _ next)
end Go.b_
end
