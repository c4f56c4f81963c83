/- Part of the proof of ShopMakes. -/
import Derived.Test.YtoiodfcefbapkaaRows
import Derived.WalkKit
import Derived.ProofKit
import Derived.OpenShut
import Derived.ShutString
import Derived.ChangeOld
import Derived.Below
import Derived.Deep.Slices
import Derived.Orders
import Derived.Deep.LoopGhost
import Derived.Laws.BytesArg
import Derived.Test.YtoiodfcefbapkaaProg
import Derived.Laws.Strings
import Derived.ChangeArms
set_option linter.unusedVariables false
set_option linter.unusedSimpArgs false
section
namespace Go.b9
theorem bx{α:Type}{l:List α}{i:Nat}(h:i<l.length):l[i]?=some l[i]:=List.getElem?_eq_getElem h
theorem cd{α:Type}{l:List α}{i:Nat}{a:α}:l[i]?=some a↔∃h:i<l.length,l[i]=a:=List.getElem?_eq_some_iff
def dk(P:Program){α:Type}:Sem α->Option α
 | .pure a=>some a
 | .program k=>dk P (k P)
 | .mark _ k=>dk P k
 | _=>none
theorem qW{P:Program}{α:Type}(s:Sem α)(a:α)(h:dk P s=some a)(w:World):s.run P w= .ok a w:=by
 induction s with
 | pure x=>simp[dk]at h;subst h;rfl
 | program k aV=>simp only[dk]at h;simp only[Sem.run];exact aV P h
 | mark m k aV=>simp only[dk]at h;simp only[Sem.run];exact aV h
 | _=>simp[dk]at h
def gB:Value->Bool
 | .bool _ | .int _ _ | .string _ | .float _ _ | .pointer none | .slice none 0 0 | .nilFunc | .nilIface | .map none=>true
 | _=>false
def flat(v:Value):Bool:=gB v || match v with
 | .agg cs=>cs.all gB
 | .tuple cs=>cs.all gB
 | .func (.func _) a b=>a.all gB&&b.all gB
 | _=>false
inductive bA where
 | own (e:TypeId) (loose:Bool) (cs:List Value)
 | ro (e:TypeId) (cs:List Value)
 | dead
abbrev ab:=List bA
def bA.cells?:bA->Option (List Value)
 | .own _ _ cs=>some cs
 | .ro _ cs=>some cs
 | .dead=>none
def hk(H:ab)(b:Nat):Prop:=∃e l cs,H[b]?=some (.own e l cs)
def kZ(H:ab)(b:Nat):Prop:=∃x cs,H[b]?=some x/\x.cells?=some cs
theorem hk.live{H:ab}{b:Nat}(h:hk H b):kZ H b:=by
 obtain⟨e,l,cs,h⟩:=h
 exact⟨_,cs,h,rfl⟩
structure h2 where
 g:Nat
 U:Nat
 N:Nat
 J:Nat
 loose:Bool
abbrev ba:=Nat->Option h2
inductive bf (ah:ba):Value->Value->Prop
 | bool (b:Bool):bf ah (.bool b) (.bool b)
 | int (k:IntKind) (n:Int):bf ah (.int k n) (.int k n)
 | float (k:FloatKind) (n:Nat):bf ah (.float k n) (.float k n)
 | str (s:ByteArray):bf ah (.string s) (.string s)
 | Ae:bf ah (.pointer none) (.pointer none)
 | ptr {b i:Nat} {k:h2} (h:ah b=some k):bf ah (.pointer (some ⟨b,i,none⟩)) (.pointer (some ⟨k.g,k.U+i,none⟩))
 | rF (g:Nat):bf ah (.pointer (some ⟨0,g,some 0⟩)) (.pointer (some ⟨g,0,none⟩))
 | qP:bf ah (.slice none 0 0) (.slice none 0 0)
 | void (i:Nat) (a:Addr):bf ah (.slice (some ⟨0,i,none⟩) 0 0) (.slice (some a) 0 0)
 | empty {b i:Nat} (ae:b≠0) (a:Addr) (c:Nat):bf ah (.slice (some ⟨b,i,none⟩) 0 0) (.slice (some a) 0 c)
 | slice {b i:Nat} {k:h2} {len cap dm:Nat} (h:ah b=some k) (ag:0<cap) (ar:len<=cap) (fE:cap<=dm) (I:k.loose=false->dm=cap)
   (cj:k.loose=true->k.U+i+dm*k.J<=k.N):bf ah (.slice (some ⟨b,i,none⟩) len cap) (.slice (some ⟨k.g,k.U+i,none⟩) len dm)
 | agg {xs bH:Array Value} (ar:xs.size=bH.size) (h:∀(i:Nat) (v au:Value),xs[i]?=some v->bH[i]?=some au->bf ah v au):bf ah (.agg xs) (.agg bH)
 | tuple {xs bH:Array Value} (ar:xs.size=bH.size) (h:∀(i:Nat) (v au:Value),xs[i]?=some v->bH[i]?=some au->bf ah v au):bf ah (.tuple xs) (.tuple bH)
 | func (fn:Fn) {xs bH u5 u6:Array Value} (ar:xs.size=bH.size) (h:∀(i:Nat) (v au:Value),xs[i]?=some v->bH[i]?=some au->bf ah v au)
   (dz:u5.size=u6.size) (b7:∀(i:Nat) (v au:Value),u5[i]?=some v->u6[i]?=some au->bf ah v au):bf ah (.func fn xs u5) (.func fn bH u6)
 | nilFunc:bf ah .nilFunc .nilFunc
 | iface (t:TypeId) {v au:Value} (h:bf ah v au):bf ah (.iface t v) (.iface t au)
 | nilIface:bf ah .nilIface .nilIface
 | Ad:bf ah (.map none) (.map none)
def eQ(ah:ba)(xs bH:Array Value):Prop:=xs.size=bH.size/\∀(i:Nat) (v au:Value),xs[i]?=some v->bH[i]?=some au->bf ah v au
def cz(ah:ba)(xs bH:List Value):Prop:=xs.length=bH.length/\∀(i:Nat) (v au:Value),xs[i]?=some v->bH[i]?=some au->bf ah v au
theorem bf.ext{ah bm:ba}(he:∀b k,ah b=some k->bm b=some k){v au:Value}(h:bf ah v au):bf bm v au:=by
 induction h with
 | bool b=>exact .bool b
 | int k n=>exact .int k n
 | float k n=>exact .float k n
 | str s=>exact .str s
 | Ae=>exact .Ae
 | ptr h=>exact .ptr (he _ _ h)
 | rF g=>exact .rF g
 | qP=>exact .qP
 | void i a=>exact .void i a
 | empty ae a c=>exact .empty ae a c
 | slice h ag ar fE I cj=>exact .slice (he _ _ h) ag ar fE I cj
 | agg ar _ aV=>exact .agg ar aV
 | tuple ar _ aV=>exact .tuple ar aV
 | func fn ar _ dz _ aV TI=>exact .func fn ar aV dz TI
 | nilFunc=>exact .nilFunc
 | iface t _ aV=>exact .iface t aV
 | nilIface=>exact .nilIface
 | Ad=>exact .Ad
theorem cz.ext{ah bm:ba}(he:∀b k,ah b=some k->bm b=some k){xs bH:List Value}(h:cz ah xs bH):cz bm xs bH:=⟨h.1,fun i v au I aJ=>(h.2 i v au I aJ).ext he⟩
theorem yH{ah:ba}{v au:Value}(ax:gB v=true)(h:bf ah v au):au=v:=by
 cases h<;>first | rfl | (simp[gB]at ax;done) | skip
theorem Ii(ah:ba){v:Value}(ax:gB v=true):bf ah v v:=by
 unfold gB at ax
 split at ax<;>first | constructor | (cases ax;done)
theorem eQ.flat{ah:ba}{xs bH:Array Value}(ax:xs.all gB=true)(h:eQ ah xs bH):bH=xs:=by
 apply Array.ext
 ·exact h.1.symm
 ·intro i iC hO
  have I:gB xs[i]=true:=by
   have:=Array.all_eq_true.1 ax i hO
   simpa using this
  exact yH I (h.2 i _ _ (Array.getElem?_eq_getElem hO) (Array.getElem?_eq_getElem iC))
theorem eQ.Av(ah:ba){xs:Array Value}(ax:xs.all gB=true):eQ ah xs xs:=by
 refine⟨rfl,fun i v au I aJ=>?_⟩
 rw[I]at aJ
 obtain rfl:=Option.some.inj aJ
 obtain⟨ad,rfl⟩:=Array.getElem?_eq_some_iff.1 I
 exact Ii ah (by simpa using Array.all_eq_true.1 ax i ad)
theorem Ik{ah:ba}{v au:Value}(ax:flat v=true)(h:bf ah v au):au=v:=by
 unfold flat at ax
 cases o:gB v
 ·rw[o]at ax
  simp only[Bool.false_or]at ax
  cases h with
  | agg ar h=>exact congrArg Value.agg (eQ.flat ax ⟨ar,h⟩)
  | tuple ar h=>exact congrArg Value.tuple (eQ.flat ax ⟨ar,h⟩)
  | func fn ar h dz b7=>
   cases fn<;>simp only[Bool.and_eq_true,reduceCtorEq]at ax
   rw[eQ.flat ax.1 ⟨ar,h⟩,eQ.flat ax.2 ⟨dz,b7⟩]
  | _=>simp at ax
 ·exact yH o h
theorem tj(ah:ba){v:Value}(ax:flat v=true):bf ah v v:=by
 unfold flat at ax
 cases o:gB v
 ·rw[o]at ax
  simp only[Bool.false_or]at ax
  split at ax
  ·exact .agg rfl (eQ.Av ah ax).2
  ·exact .tuple rfl (eQ.Av ah ax).2
  ·simp only[Bool.and_eq_true]at ax
   exact .func _ rfl (eQ.Av ah ax.1).2 rfl (eQ.Av ah ax.2).2
  ·cases ax
 ·exact Ii ah o
theorem bf.Lx{ah:ba}{v au:Value}(h:bf ah v au):au.oneCell'=v.oneCell':=by cases h<;>rfl
theorem bf.undef(ah:ba):bf ah Go.undef Go.undef:= .tuple rfl fun i v au h=>by simp at h
theorem bf.cells{ah:ba}{v au:Value}(h:bf ah v au):eQ ah v.cells au.cells:=by
 cases h with
 | agg ar h=>exact⟨ar,h⟩
 | _=>
  refine⟨rfl,fun i x eh I aJ=>?_⟩
  obtain⟨ad,rfl⟩:=Array.getElem?_eq_some_iff.1 I
  obtain⟨aQ,rfl⟩:=Array.getElem?_eq_some_iff.1 aJ
  simp only[Value.cells,List.size_toArray,List.length_cons,List.length_nil]at ad aQ
  obtain rfl:i=0:=by omega
  first
   | (simp only[Value.cells];constructor<;>assumption;done)
   | (constructor<;>assumption)
theorem eQ.toList{ah:ba}{xs bH:Array Value}(h:eQ ah xs bH):cz ah xs.toList bH.toList:=⟨by simpa using h.1,fun i v au I aJ=>h.2 i v au (by simpa using I) (by simpa using aJ)⟩
theorem cz.toArray{ah:ba}{xs bH:List Value}(h:cz ah xs bH):eQ ah xs.toArray bH.toArray:=⟨by simpa using h.1,fun i v au I aJ=>h.2 i v au (by simpa using I) (by simpa using aJ)⟩
theorem cz.nil(ah:ba):cz ah [] []:=⟨rfl,fun i v au h=>by simp at h⟩
theorem cz.cons{ah:ba}{x y:Value}{xs bH:List Value}(h:bf ah x y)(an:cz ah xs bH):cz ah (x::xs) (y::bH):=by
 refine⟨by simp[an.1],fun i v au I aJ=>?_⟩
 cases i with
 | zero=>simp at I aJ;subst I;subst aJ;exact h
 | succ i=>simp at I aJ;exact an.2 i v au I aJ
theorem cz.append{ah:ba}{xs bH u5 u6:List Value}(h:cz ah xs bH)(b7:cz ah u5 u6):cz ah (xs++u5) (bH++u6):=by
 refine⟨by simp[h.1,b7.1],fun i v au I aJ=>?_⟩
 by_cases ad:i<xs.length
 ·rw[List.getElem?_append_left ad]at I
  rw[List.getElem?_append_left (by rw[<-h.1];exact ad)]at aJ
  exact h.2 i v au I aJ
 ·rw[List.getElem?_append_right (by omega)]at I
  rw[List.getElem?_append_right (by rw[<-h.1];omega),<-h.1]at aJ
  exact b7.2 _ v au I aJ
theorem cz.take{ah:ba}{xs bH:List Value}(h:cz ah xs bH)(n:Nat):cz ah (xs.take n) (bH.take n):=by
 refine⟨by simp[h.1],fun i v au I aJ=>?_⟩
 rw[List.getElem?_take]at I aJ
 split at I
 ·rename_i ad;rw[if_pos ad]at aJ;exact h.2 i v au I aJ
 ·cases I
theorem cz.drop{ah:ba}{xs bH:List Value}(h:cz ah xs bH)(n:Nat):cz ah (xs.drop n) (bH.drop n):=by
 refine⟨by simp[h.1],fun i v au I aJ=>?_⟩
 rw[List.getElem?_drop]at I aJ
 exact h.2 _ v au I aJ
theorem cz.set{ah:ba}{xs bH:List Value}(h:cz ah xs bH)(n:Nat){x y:Value}(I:bf ah x y):cz ah (xs.set n x) (bH.set n y):=by
 refine⟨by simp[h.1],fun i v au ao dc=>?_⟩
 rw[List.getElem?_set]at ao dc
 by_cases aE:n=i
 ·subst aE
  rw[if_pos rfl]at ao dc
  rw[<-h.1]at dc
  split at ao
  ·rename_i a3;rw[if_pos a3]at dc;cases ao;cases dc;exact I
  ·cases ao
 ·rw[if_neg aE]at ao dc
  exact h.2 i v au ao dc
theorem cz.replicate(ah:ba)(n:Nat):cz ah (List.replicate n undef) (List.replicate n undef):=by
 refine⟨rfl,fun i v au I aJ=>?_⟩
 rw[List.getElem?_replicate]at I aJ
 split at I
 ·rename_i h;rw[if_pos h]at aJ;cases I;cases aJ;exact bf.undef ah
 ·cases I
theorem cz.get{ah:ba}{xs bH:List Value}(h:cz ah xs bH){i:Nat}{v:Value}(I:xs[i]?=some v):∃au,bH[i]?=some au/\bf ah v au:=by
 obtain⟨ad,rfl⟩:=cd.1 I
 have aQ:i<bH.length:=by rw[<-h.1];exact ad
 exact⟨bH[i],bx aQ,h.2 i _ _ (bx ad) (bx aQ)⟩
theorem eQ.get{ah:ba}{xs bH:Array Value}(h:eQ ah xs bH){i:Nat}{v:Value}(I:xs[i]?=some v):∃au,bH[i]?=some au/\bf ah v au:=by
 obtain⟨au,o,aa⟩:=h.toList.get (i:=i) (v:=v) (by simpa using I)
 exact⟨au,by simpa using o,aa⟩
theorem cz.getD{ah:ba}{xs bH:List Value}(h:cz ah xs bH)(i:Nat):bf ah (xs.getD i undef) (bH.getD i undef):=by
 by_cases ad:i<xs.length
 ·obtain⟨au,o,aa⟩:=h.get (bx ad)
  simp only[List.getD_eq_getElem?_getD,o,bx ad,Option.getD_some]
  exact aa
 ·simp only[List.getD_eq_getElem?_getD]
  rw[List.getElem?_eq_none (by omega),List.getElem?_eq_none (by rw[<-h.1];omega)]
  exact bf.undef ah
def lB(dZ:Nat×Nat)(N:Nat):Prop:=∀j,j<N->¬(dZ.1<=j/\j<dZ.2)
inductive ks (P:Program) (base:Nat) (ah:ba) (w:World) (k:h2):bA->Prop
 | own {e:TypeId} {l:Bool} {cs:List Value} {cur:Array Value} {dZ:Nat×Nat} {inf:TypeInfo} (ae:base<=k.g) (ar:k.loose=l) (ad:P.info? e=some inf) (an:inf.size=k.J)
   (aU:w.heap[k.g]?=some (.cells cur e dZ)) (cj:cur.size=k.N) (ax:lB dZ k.N) (bq:k.U+cs.length<=k.N)
   (ao:∀(i:Nat) (v:Value),cs[i]?=some v->∃au,cur[k.U+i]?=some au/\bf ah v au):ks P base ah w k (.own e l cs)
 | ro {e:TypeId} {cs:List Value} {inf:TypeInfo} (ad:P.info? e=some inf) (an:inf.size=k.J) (ao:∀(i:Nat) (v:Value),cs[i]?=some v->∃au,w.cell? ⟨k.g,k.U+i,none⟩=some au/\bf ah v au) (c0:k.g<w.heap.size):ks P base ah w k (.ro e cs)
 | dead:ks P base ah w k .dead
structure b8 (P:Program) (base:Nat) (ah:ba) (H:ab) (w:World):Prop where
 pos:0<H.length
 size:base<=w.heap.size
 ez:∀b k,ah b=some k->0<b/\b<H.length
 eL:∀b k x,ah b=some k->H[b]?=some x->ks P base ah w k x
 inj:∀b ca k bK,ah b=some k->ah ca=some bK->b≠ca->hk H b->kZ H ca->k.g≠bK.g
structure Step (ah:ba) (H:ab) (w:World) (bm:ba) (H1:ab) (a5:World):Prop where
 ext:∀b k,ah b=some k->bm b=some k
 new:∀b k,bm b=some k->ah b=some k\/H.length<=b
 len:H.length<=H1.length
 own:∀b k,bm b=some k->hk H1 b->w.heap.size<=k.g\/∃g7 iY,ah g7=some iY/\hk H g7/\iY.g=k.g
 os:a5.os=w.os
 tape:a5.tape=w.tape
 output:a5.output=w.output
 size:w.heap.size<=a5.heap.size
 frame:∀g,g<w.heap.size->(∀b k,ah b=some k->hk H b->k.g≠g)->a5.heap[g]?=w.heap[g]?
theorem Step.refl(ah:ba)(H:ab)(w:World):Step ah H w ah H w:=
 ⟨fun _ _ h=>h,fun _ _ h=> .inl h,Nat.le_refl _,fun b k h aK=> .inr ⟨b,k,h,aK,rfl⟩,rfl,rfl,rfl,Nat.le_refl _,fun _ _ _=>rfl⟩
theorem Step.trans{ah bm kT:ba}{H H1 aY:ab}{w a5 hK:World}(h:Step ah H w bm H1 a5)(b7:Step bm H1 a5 kT aY hK):Step ah H w kT aY hK where
 ext b k ae:=b7.ext b k (h.ext b k ae)
 new b k ae:=by
  rcases b7.new b k ae with o | o
  ·exact h.new b k o
  ·exact .inr (Nat.le_trans h.len o)
 len:=Nat.le_trans h.len b7.len
 own b k ae aK:=by
  rcases b7.own b k ae aK with o | ⟨g7,iY,o,aa,aD⟩
  ·exact .inl (Nat.le_trans h.size o)
  ·rcases h.own g7 iY o aa with bD | ⟨gQ,iG,bD,b2,gC⟩
   ·exact .inl (by omega)
   ·exact .inr ⟨gQ,iG,bD,b2,by omega⟩
 os:=b7.os.trans h.os
 tape:=b7.tape.trans h.tape
 output:=b7.output.trans h.output
 size:=Nat.le_trans h.size b7.size
 frame g aU cF:=by
  rw[b7.frame g (Nat.lt_of_lt_of_le aU h.size) ?_,h.frame g aU cF]
  intro b k ae aK e
  rcases h.own b k ae aK with o | ⟨g7,iY,o,aa,aD⟩
  ·omega
  ·exact cF g7 iY o aa (by omega)
theorem BD{w a5:World}{a:Addr}(h:a5.heap[a.block]?=w.heap[a.block]?):a5.cell? a=w.cell? a:=by simp[World.cell?,h]
theorem ks.gk{P:Program}{base:Nat}{ah bm:ba}{w a5:World}{k:h2}{x:bA}(h:ks P base ah w k x)(he:∀b k,ah b=some k->bm b=some k)
  (hw:x.cells?≠none->a5.heap[k.g]?=w.heap[k.g]?)(wW:w.heap.size<=a5.heap.size):ks P base bm a5 k x:=by
 cases h with
 | own ae ar ad an aU cj ax bq ao=>
  exact .own ae ar ad an (by rw[hw (by simp[bA.cells?])];exact aU) cj ax bq fun i v ad=>let⟨au,o,aa⟩:=ao i v ad;⟨au,o,aa.ext he⟩
 | ro ad an ao c0=>
  refine .ro ad an (fun i v ad=>?_) (Nat.lt_of_lt_of_le c0 wW)
  obtain⟨au,o,aa⟩:=ao i v ad
  exact⟨au,by rw[BD (w:=w) (by exact hw (by simp[bA.cells?]))];exact o,aa.ext he⟩
 | dead=>exact .dead
theorem ks.lt{P:Program}{base:Nat}{ah:ba}{w:World}{k:h2}{x:bA}(h:ks P base ah w k x)(I:x.cells?≠none):k.g<w.heap.size:=by
 cases h with
 | own ae ar ad an aU cj ax bq ao=>exact(Array.getElem?_eq_some_iff.1 aU).1
 | ro ad an ao c0=>exact c0
 | dead=>simp[bA.cells?]at I
theorem b8.heap{P:Program}{base:Nat}{ah:ba}{H:ab}{w a5:World}(h:b8 P base ah H w)(cR:a5.heap=w.heap):b8 P base ah H a5:=
 ⟨h.pos,by rw[cR];exact h.size,h.ez,fun b k x ae I=>(h.eL b k x ae I).gk (fun _ _ h=>h) (fun _=>by rw[cR]) (by rw[cR];exact Nat.le_refl _),h.inj⟩
theorem Step.drawn(ah:ba)(H:ab)(w:World)(n:Nat):Step ah H w ah H {w with drawn:=n}:=
 ⟨fun _ _ h=>h,fun _ _ h=> .inl h,Nat.le_refl _,fun b k h aK=> .inr ⟨b,k,h,aK,rfl⟩,rfl,rfl,rfl,Nat.le_refl _,fun _ _ _=>rfl⟩
def ba.put(ah:ba)(b:Nat)(k:h2):ba:=fun c=>if c=b then some k else ah c
theorem ba.mR(ah:ba)(b:Nat)(k:h2):ah.put b k b=some k:=by simp[ba.put]
theorem ba.kP(ah:ba){b c:Nat}(k:h2)(h:c≠b):ah.put b k c=ah c:=by simp[ba.put,h]
theorem b8.H9{P:Program}{base:Nat}{ah:ba}{H:ab}{w:World}(h:b8 P base ah H w)(k:h2):∀b bK,ah b=some bK->ah.put H.length k b=some bK:=fun b bK ae=>by
 rw[ba.kP _ _ (by have:=(h.ez b bK ae).2;omega)];exact ae
theorem vH{H:ab}{x:bA}{b:Nat}(h:b<H.length):(H++[x])[b]?=H[b]?:=List.getElem?_append_left h
theorem Iq(H:ab)(x:bA):(H++[x])[H.length]?=some x:=by simp
theorem z1{H:ab}{x:bA}{b:Nat}(h:hk (H++[x]) b)(ae:b≠H.length):hk H b:=by
 obtain⟨e,l,cs,h⟩:=h
 have a3:b<(H++[x]).length:=(cd.1 h).1
 simp at a3
 exact⟨e,l,cs,by rwa[vH (by omega)]at h⟩
theorem D4{H:ab}{x:bA}{b:Nat}(h:kZ (H++[x]) b)(ae:b≠H.length):kZ H b:=by
 obtain⟨y,cs,h,ag⟩:=h
 have a3:b<(H++[x]).length:=(cd.1 h).1
 simp at a3
 exact⟨y,cs,by rwa[vH (by omega)]at h,ag⟩
theorem b8.alloc{P:Program}{base:Nat}{ah:ba}{H:ab}{w:World}(h:b8 P base ah H w){e:TypeId}{l:Bool}{cs:List Value}{cur:Array Value}{dZ:Nat×Nat}{inf:TypeInfo}{J:Nat}
  (ad:P.info? e=some inf)(an:inf.size=J)(ax:lB dZ cur.size)(bq:cs.length<=cur.size)(ao:∀(i:Nat) (v:Value),cs[i]?=some v->∃au,cur[i]?=some au/\bf ah v au):
  b8 P base (ah.put H.length ⟨w.heap.size,0,cur.size,J,l⟩) (H++[.own e l cs]) (w.alloc (.cells cur e dZ))/\Step ah H w (ah.put H.length ⟨w.heap.size,0,cur.size,J,l⟩) (H++[.own e l cs]) (w.alloc (.cells cur e dZ)):=by
 have hold:∀g,g<w.heap.size->(w.alloc (.cells cur e dZ)).heap[g]?=w.heap[g]?:=fun g aU=>heap_alloc_old w _ aU
 have he:=h.H9 ⟨w.heap.size,0,cur.size,J,l⟩
 constructor
 ·refine⟨by simp,by simp;have:=h.size;omega,fun b k ae=>?_,fun b k x ae I=>?_,fun b ca k bK ae cM cF aK dz=>?_⟩
  ·by_cases fD:b=H.length
   ·subst fD;exact⟨h.pos,by simp⟩
   ·rw[ba.kP _ _ fD]at ae;have:=h.ez b k ae;simp;omega
  ·by_cases fD:b=H.length
   ·subst fD
    rw[ba.mR]at ae
    obtain rfl:=Option.some.inj ae
    rw[Iq]at I
    obtain rfl:=Option.some.inj I
    exact .own h.size rfl ad an (heap_alloc_new w _) rfl ax (by simpa using bq) fun i v ag=>let⟨au,o,aa⟩:=ao i v ag;⟨au,by simpa using o,aa.ext he⟩
   ·rw[ba.kP _ _ fD]at ae
    rw[vH (h.ez b k ae).2]at I
    exact(h.eL b k x ae I).gk he (fun xb=>hold _ ((h.eL b k x ae I).lt xb)) (by simp)
  ·by_cases fD:b=H.length
   ·subst fD
    rw[ba.mR]at ae
    obtain rfl:=Option.some.inj ae
    have tH:ca≠H.length:=fun e=>cF e.symm
    rw[ba.kP _ _ tH]at cM
    obtain⟨y,HU,aJ,ag⟩:=D4 dz tH
    have:=(h.eL ca bK y cM aJ).lt (by rw[ag];simp)
    simp only;omega
   ·rw[ba.kP _ _ fD]at ae
    have ff:=z1 aK fD
    by_cases tH:ca=H.length
    ·subst tH
     rw[ba.mR]at cM
     obtain rfl:=Option.some.inj cM
     obtain⟨h7,KW,ru,aJ⟩:=ff
     have:=(h.eL b k _ ae aJ).lt (by simp[bA.cells?])
     simp only;omega
    ·rw[ba.kP _ _ tH]at cM
     exact h.inj b ca k bK ae cM cF ff (D4 dz tH)
 ·refine⟨he,fun b k ae=>?_,by simp,fun b k ae aK=>?_,rfl,rfl,rfl,by simp,fun g aU _=>hold g aU⟩
  ·by_cases fD:b=H.length
   ·exact .inr (by omega)
   ·rw[ba.kP _ _ fD]at ae;exact .inl ae
  ·by_cases fD:b=H.length
   ·subst fD;rw[ba.mR]at ae;obtain rfl:=Option.some.inj ae;exact .inl (Nat.le_refl _)
   ·rw[ba.kP _ _ fD]at ae;exact .inr ⟨b,k,ae,z1 aK fD,rfl⟩
def hS(w:World)(g:Nat)(x:Obj):World:={w with heap:=w.heap.setIfInBounds g x}
theorem Et(w:World)(g:Nat)(x:Obj)(h:g<w.heap.size):(hS w g x).heap[g]?=some x:=by simp[hS,h]
theorem Ao(w:World)(g i:Nat)(x:Obj)(h:i≠g):(hS w g x).heap[i]?=w.heap[i]?:=by simp[hS,Array.getElem?_setIfInBounds_ne (Ne.symm h)]
theorem Ap(w:World)(g:Nat)(x:Obj):(hS w g x).heap.size=w.heap.size:=by simp[hS]
theorem xh{H:ab}{b c:Nat}{x:bA}(h:hk (H.set b x) c)(I:hk H b):hk H c:=by
 by_cases ag:b=c
 ·subst ag;exact I
 ·obtain⟨e,l,cs,h⟩:=h
  exact⟨e,l,cs,by rwa[List.getElem?_set_ne ag]at h⟩
theorem D5{H:ab}{b c:Nat}{x:bA}(h:kZ (H.set b x) c)(I:hk H b):kZ H c:=by
 by_cases ag:b=c
 ·subst ag;exact I.live
 ·obtain⟨y,cs,h,cR⟩:=h
  exact⟨y,cs,by rwa[List.getElem?_set_ne ag]at h,cR⟩
theorem b8.put{P:Program}{base:Nat}{ah:ba}{H:ab}{w:World}(h:b8 P base ah H w){b:Nat}{k:h2}{e:TypeId}{l:Bool}{cs en:List Value}{k3:Array Value}{dZ:Nat×Nat}
  (ae:ah b=some k)(I:H[b]?=some (.own e l cs))(n8:∃cur,w.heap[k.g]?=some (.cells cur e dZ)/\k3.size=cur.size)(hlen:en.length=cs.length)
  (ao:∀(i:Nat) (v:Value),en[i]?=some v->∃au,k3[k.U+i]?=some au/\bf ah v au):
  b8 P base ah (H.set b (.own e l en)) (hS w k.g (.cells k3 e dZ))/\Step ah H w ah (H.set b (.own e l en)) (hS w k.g (.cells k3 e dZ)):=by
 obtain⟨cur,n8,c0⟩:=n8
 have js:hk H b:=⟨e,l,cs,I⟩
 have a3:k.g<w.heap.size:=(Array.getElem?_eq_some_iff.1 n8).1
 have cM:b<H.length:=(h.ez b k ae).2
 constructor
 ·refine⟨by simpa using h.pos,by rw[Ap];exact h.size,fun c cB ag=>by simpa using h.ez c cB ag,fun c cB x ag hR=>?_,fun c dL cB um ag lb cF aK dz=>h.inj c dL cB um ag lb cF (xh aK js) (D5 dz js)⟩
  by_cases mv:b=c
  ·subst mv
   rw[ae]at ag
   obtain rfl:=Option.some.inj ag
   rw[List.getElem?_set_self cM]at hR
   obtain rfl:=Option.some.inj hR
   cases h.eL b k _ ae I with
   | own rS ar ad an aU cj ax bq DG=>
    rw[n8]at aU
    injection aU with aU
    injection aU with n_ wD o7
    subst n_;subst o7
    exact .own rS ar ad an (Et w _ _ a3) (by omega) ax (by omega) ao
  ·rw[List.getElem?_set_ne mv]at hR
   have np:=h.eL c cB x ag hR
   refine np.gk (fun _ _ h=>h) (fun xb=>Ao w _ _ _ ?_) (by rw[Ap];exact Nat.le_refl _)
   obtain⟨nd,wu⟩:∃nd,x.cells?=some nd:=by cases av:x.cells? with | none=>exact absurd av xb | some q=>exact⟨q,rfl⟩
   exact fun e=>h.inj b c k cB ae ag mv js ⟨x,nd,hR,wu⟩ e.symm
 ·refine⟨fun _ _ h=>h,fun _ _ h=> .inl h,by simp,fun c cB ag aK=> .inr ⟨c,cB,ag,xh aK js,rfl⟩,rfl,rfl,rfl,by rw[Ap];exact Nat.le_refl _,fun g aU cF=>?_⟩
  exact Ao w _ _ _ fun e=>cF b k ae js e.symm
theorem b8.kill{P:Program}{base:Nat}{ah:ba}{H:ab}{w:World}(h:b8 P base ah H w)(b:Nat)(js:hk H b):b8 P base ah (H.set b .dead) w/\Step ah H w ah (H.set b .dead) w:=by
 have cM:b<H.length:=by obtain⟨e,l,cs,I⟩:=js;exact(cd.1 I).1
 constructor
 ·refine⟨by simpa using h.pos,h.size,fun c cB ag=>by simpa using h.ez c cB ag,fun c cB x ag hR=>?_,fun c dL cB um ag lb cF aK dz=>h.inj c dL cB um ag lb cF (xh aK js) (D5 dz js)⟩
  by_cases mv:b=c
  ·subst mv
   rw[List.getElem?_set_self cM]at hR
   obtain rfl:=Option.some.inj hR
   exact .dead
  ·rw[List.getElem?_set_ne mv]at hR
   exact h.eL c cB x ag hR
 ·exact⟨fun _ _ h=>h,fun _ _ h=> .inl h,by simp,fun c cB ag aK=> .inr ⟨c,cB,ag,xh aK js,rfl⟩,rfl,rfl,rfl,Nat.le_refl _,fun _ _ _=>rfl⟩
theorem b8.Ef{P:Program}{base:Nat}{ah:ba}{H:ab}{w:World}(h:b8 P base ah H w){b i:Nat}{k:h2}{e:TypeId}{l c2:Bool}{cs en:List Value}{k3:Array Value}{dZ:Nat×Nat}
  (ae:ah b=some k)(I:H[b]?=some (.own e l cs))(n8:∃cur,w.heap[k.g]?=some (.cells cur e dZ)/\k3.size=cur.size)(bq:k.U+i+en.length<=k3.size)
  (ao:∀(j:Nat) (v:Value),en[j]?=some v->∃au,k3[k.U+i+j]?=some au/\bf ah v au):
  b8 P base (ah.put H.length ⟨k.g,k.U+i,k.N,k.J,c2⟩) (H.set b .dead++[.own e c2 en]) (hS w k.g (.cells k3 e dZ))/\
  Step ah H w (ah.put H.length ⟨k.g,k.U+i,k.N,k.J,c2⟩) (H.set b .dead++[.own e c2 en]) (hS w k.g (.cells k3 e dZ)):=by
 obtain⟨cur,n8,c0⟩:=n8
 have js:hk H b:=⟨e,l,cs,I⟩
 have a3:k.g<w.heap.size:=(Array.getElem?_eq_some_iff.1 n8).1
 have cM:b<H.length:=(h.ez b k ae).2
 have he:=h.H9 ⟨k.g,k.U+i,k.N,k.J,c2⟩
 have hlen:(H.set b .dead).length=H.length:=by simp
 have CW:∀{c},c≠H.length->kZ (H.set b .dead++[.own e c2 en]) c->c≠b/\kZ H c:=by
  intro c ag ar
  have o:=D4 ar (by rw[hlen];exact ag)
  refine⟨fun e=>?_,D5 o js⟩
  subst e
  obtain⟨y,HU,aJ,Ru⟩:=o
  rw[List.getElem?_set_self cM]at aJ
  obtain rfl:=Option.some.inj aJ
  simp[bA.cells?]at Ru
 have wW:(hS w k.g (.cells k3 e dZ)).heap.size=w.heap.size:=Ap ..
 have zg:∀c cB x,ah c=some cB->H[c]?=some x->c≠b->ks P base (ah.put H.length ⟨k.g,k.U+i,k.N,k.J,c2⟩) (hS w k.g (.cells k3 e dZ)) cB x:=by
  intro c cB x ag hR mv
  have np:=h.eL c cB x ag hR
  refine np.gk he (fun xb=>Ao w _ _ _ ?_) (by rw[wW];exact Nat.le_refl _)
  obtain⟨nd,wu⟩:∃nd,x.cells?=some nd:=by cases av:x.cells? with | none=>exact absurd av xb | some q=>exact⟨q,rfl⟩
  exact fun e=>h.inj b c k cB ae ag (Ne.symm mv) js ⟨x,nd,hR,wu⟩ e.symm
 constructor
 ·refine⟨by simp,by rw[wW];exact h.size,fun c cB ag=>?_,fun c cB x ag hR=>?_,fun c dL cB um ag lb cF aK dz=>?_⟩
  ·by_cases fx:c=H.length
   ·subst fx;exact⟨h.pos,by simp⟩
   ·rw[ba.kP _ _ fx]at ag;have:=h.ez c cB ag;simp;omega
  ·by_cases fx:c=H.length
   ·subst fx
    rw[ba.mR]at ag
    obtain rfl:=Option.some.inj ag
    rw[<-hlen,Iq]at hR
    obtain rfl:=Option.some.inj hR
    cases h.eL b k _ ae I with
    | own rS ar ad an aU cj ax C2 DG=>
     rw[n8]at aU
     injection aU with aU
     injection aU with n_ wD o7
     subst n_;subst o7
     exact .own rS rfl ad an (Et w _ _ a3) (by simp only;omega) ax (by simp only;omega) fun j v aQ=>let⟨au,o,aa⟩:=ao j v aQ;⟨au,o,aa.ext he⟩
   ·rw[ba.kP _ _ fx]at ag
    rw[vH (by rw[hlen];exact(h.ez c cB ag).2)]at hR
    by_cases mv:b=c
    ·subst mv
     rw[List.getElem?_set_self cM]at hR
     obtain rfl:=Option.some.inj hR
     exact .dead
    ·rw[List.getElem?_set_ne mv]at hR
     exact zg c cB x ag hR (Ne.symm mv)
  ·by_cases fx:c=H.length
   ·subst fx
    rw[ba.mR]at ag
    obtain rfl:=Option.some.inj ag
    have tK:dL≠H.length:=fun e=>cF e.symm
    rw[ba.kP _ _ tK]at lb
    obtain⟨o,aa⟩:=CW tK dz
    exact h.inj b dL k um ae lb (Ne.symm o) js aa
   ·rw[ba.kP _ _ fx]at ag
    obtain⟨o,aa⟩:=CW fx aK.live
    have qy:=z1 aK (by rw[hlen];exact fx)
    have JS:hk H c:=by
     obtain⟨h7,KW,ru,aJ⟩:=qy
     exact⟨h7,KW,ru,by rwa[List.getElem?_set_ne (Ne.symm o)]at aJ⟩
    by_cases tK:dL=H.length
    ·subst tK
     rw[ba.mR]at lb
     obtain rfl:=Option.some.inj lb
     exact h.inj c b cB k ag ae o JS js.live
    ·rw[ba.kP _ _ tK]at lb
     exact h.inj c dL cB um ag lb cF JS (CW tK dz).2
 ·refine⟨he,fun c cB ag=>?_,by simp,fun c cB ag aK=>?_,rfl,rfl,rfl,by rw[wW];exact Nat.le_refl _,fun g aU cF=>Ao w _ _ _ fun e=>cF b k ae js e.symm⟩
  ·by_cases fx:c=H.length
   ·exact .inr (by omega)
   ·rw[ba.kP _ _ fx]at ag;exact .inl ag
  ·by_cases fx:c=H.length
   ·subst fx;rw[ba.mR]at ag;obtain rfl:=Option.some.inj ag;exact .inr ⟨b,k,ae,js,rfl⟩
   ·rw[ba.kP _ _ fx]at ag
    exact .inr ⟨c,cB,ag,xh (z1 aK (by rw[hlen];exact fx)) js,rfl⟩
theorem fr{P:Program}{α β:Type}(x:Sem α)(f:α->Sem β):dk P (x>>=f)=(dk P x).bind fun a=>dk P (f a):=by
 show dk P (x.bind f)=_
 induction x with
 | pure a=>rfl
 | program k aV=>simp only[Sem.bind,dk];exact aV P
 | mark m k aV=>simp only[Sem.bind,dk];exact aV
 | _=>simp[Sem.bind,dk]
theorem eN{P:Program}{α:Type}(a:α):dk P (pure a:Sem α)=some a:=rfl
def bn(P:Program)(t:TypeId):Option Nat:=(P.info? t).map (·.size)
def dv(P:Program)(t:TypeId):Option Value:=(P.info? t).bind (·.zero)
def bytes?(P:Program)(t:TypeId):Option Nat:=(P.info? t).map (·.bytes)
theorem nG{P:Program}(t:TypeId):dk P (underlying t)=P.underlying t:=by
 unfold underlying
 rw[fr]
 show(some P).bind _=_
 simp only[Option.bind_some]
 cases h:P.underlying t<;>rfl
theorem LP{P:Program}(t:TypeId):dk P (typeInfo t)=P.info? t:=by
 unfold typeInfo
 rw[fr]
 show(some P).bind _=_
 simp only[Option.bind_some]
 cases h:P.info? t<;>rfl
theorem xA{P:Program}(t:TypeId):dk P (sizeOf t)=bn P t:=by
 unfold sizeOf
 rw[fr,LP]
 cases h:P.info? t<;>simp[bn,h,eN]
theorem Es{P:Program}(t:TypeId):dk P (zeroValue t)=dv P t:=by
 unfold zeroValue
 rw[fr,LP]
 cases h:P.info? t with
 | none=>simp[dv,h]
 | some i=>cases aP:i.zero<;>simp[dv,h,aP]<;>rfl
theorem LN{P:Program}(t:TypeId):dk P (isAgg t)=(P.underlying t).map fun d=>match d with | .struct _ | .array _ _=>true | _=>false:=by
 unfold isAgg
 rw[fr,nG]
 cases h:P.underlying t with
 | none=>rfl
 | some d=>cases d<;>rfl
theorem j2{P:Program}{t:TypeId}{n:Nat}(h:bn P t=some n)(w:World):(sizeOf t).run P w= .ok n w:=qW _ _ (by rw[xA];exact h) w
theorem Ay{P:Program}{t:TypeId}{z:Value}(h:dv P t=some z)(w:World):(zeroValue t).run P w= .ok z w:=qW _ _ (by rw[Es];exact h) w
theorem eQ.set{ah:ba}{xs bH:Array Value}(h:eQ ah xs bH)(n:Nat){x y:Value}(I:bf ah x y):eQ ah (xs.setIfInBounds n x) (bH.setIfInBounds n y):=by
 have:=(h.toList.set n I).toArray
 rw[show xs.setIfInBounds n x=(xs.toList.set n x).toArray from by apply Array.ext';simp,show bH.setIfInBounds n y=(bH.toList.set n y).toArray from by apply Array.ext';simp]
 exact this
theorem Im{ah:ba}(off:Nat):∀(l c2:List Value) (j:Nat) (cs en:Array Value),cz ah l c2->eQ ah cs en->
  eQ ah ((l.zipIdx j).foldl (fun cs (p3:Value×Nat)=>cs.setIfInBounds (off+p3.2) p3.1) cs) ((c2.zipIdx j).foldl (fun cs (p3:Value×Nat)=>cs.setIfInBounds (off+p3.2) p3.1) en)
 | [],[],_,_,_,_,h=>h
 | [],_::_,_,_,_,ar,_=>by simp[cz]at ar
 | _::_,[],_,_,_,ar,_=>by simp[cz]at ar
 | x::l,y::c2,j,cs,en,ar,h=>by
  simp only[List.zipIdx_cons,List.foldl_cons]
  refine Im off l c2 (j+1) _ _ ⟨by simpa using ar.1,fun i v au ao dc=>ar.2 (i+1) v au (by simpa using ao) (by simpa using dc)⟩ (h.set _ ?_)
  exact ar.2 0 x y rfl rfl
theorem yG{ah:ba}{aI ct:Operand->Value}(place:Nat->Option (Nat×Nat)):∀(aZ:List (Nat×Operand)) (cs en out:Array Value),(∀p∈aZ,bf ah (aI p.2) (ct p.2))->eQ ah cs en->
  Instr.fill place cs (aZ.map fun p=>(p.1,aI p.2))=some out->∃gW,Instr.fill place en (aZ.map fun p=>(p.1,ct p.2))=some gW/\eQ ah out gW
 | [],cs,en,out,_,h,ax=>by
  simp[Instr.fill]at ax
  subst ax
  exact⟨en,rfl,h⟩
 | (i,x)::aZ,cs,en,out,aT,h,ax=>by
  simp only[List.map_cons,Instr.fill]at ax⊢
  cases kh:place i with
  | none=>simp[kh]at ax
  | some os=>
   obtain⟨off,size⟩:=os
   simp only[kh]at ax⊢
   have ao:=(aT (i,x) (List.mem_cons_self)).cells
   by_cases ag:((aI x).cells.size≠size || decide (off+(aI x).cells.size>cs.size))=true
   ·rw[if_pos ag]at ax;cases ax
   ·rw[if_neg ag]at ax
    rw[if_neg (by rw[<-ao.1,<-h.1];exact ag)]
    refine yG place aZ _ _ out (fun p hm=>aT p (List.mem_cons_of_mem _ hm)) ?_ ax
    have:=Im off (aI x).cells.toList (ct x).cells.toList 0 cs en ao.toList h
    rw[<-Array.foldl_toList,<-Array.foldl_toList,Array.toList_zipIdx,Array.toList_zipIdx]
    exact this
theorem A_{ah:ba}{z:Value}(aP:flat z=true):eQ ah z.cells z.cells:=(tj ah aP).cells
theorem N6{P:Program}{ah:ba}{aI ct:Operand->Value}{t:TypeId}{aZ:Array (Nat×Operand)}{z v:Value}(aP:dv P t=some z)(dt:flat z=true)(aT:∀p∈aZ,bf ah (aI p.2) (ct p.2))
  (h:dk P (Instr.build t (aZ.map fun p=>(p.1,aI p.2)))=some v):∃au,dk P (Instr.build t (aZ.map fun p=>(p.1,ct p.2)))=some au/\bf ah v au:=by
 have qz:∀p∈aZ.toList,bf ah (aI p.2) (ct p.2):=fun p hm=>aT p (by simpa using hm)
 have ar:∀r:Operand->Value,(aZ.map fun p=>(p.1,r p.2)).toList=aZ.toList.map fun p=>(p.1,r p.2):=fun r=>by simp
 unfold Instr.build at h⊢
 simp only[fr,Es,aP,Option.bind_some,nG]at h⊢
 cases hu:P.underlying t with
 | none=>simp[hu]at h
 | some d=>
  simp only[hu,Option.bind_some]at h⊢
  cases d with
  | struct fields=>
   simp only[fr]at h⊢
   cases hm:dk P (fields.mapM fun f=>do pure (f.offset,<-sizeOf f.type))with
   | none=>rw[hm]at h;simp at h
   | some l1=>
    rw[hm]at h
    simp only[Option.bind_some,ar]at h⊢
    cases ax:Instr.fill (fun x=>l1[x]?) z.cells (aZ.toList.map fun p=>(p.1,aI p.2))with
    | none=>rw[ax]at h;simp[dk,stuck]at h
    | some out=>
     rw[ax]at h
     obtain⟨gW,o,aa⟩:=yG (ct:=ct) _ aZ.toList _ _ out qz (A_ dt) ax
     rw[o]
     simp only[eN,Option.some.injEq]at h⊢
     subst h
     exact⟨_,rfl,.agg aa.1 aa.2⟩
  | array n elem=>
   simp only[fr,xA]at h⊢
   cases an:bn P elem with
   | none=>rw[an]at h;simp at h
   | some size=>
    rw[an]at h
    simp only[Option.bind_some,ar]at h⊢
    cases ax:Instr.fill (fun i=>some (i*size,size)) z.cells (aZ.toList.map fun p=>(p.1,aI p.2))with
    | none=>rw[ax]at h;simp[dk,stuck]at h
    | some out=>
     rw[ax]at h
     obtain⟨gW,o,aa⟩:=yG (ct:=ct) _ aZ.toList _ _ out qz (A_ dt) ax
     rw[o]
     simp only[eN,Option.some.injEq]at h⊢
     subst h
     exact⟨_,rfl,.agg aa.1 aa.2⟩
  | _=>simp[dk,stuck]at h
theorem eQ.extract{ah:ba}{xs bH:Array Value}(h:eQ ah xs bH)(i j:Nat):eQ ah (xs.extract i j) (bH.extract i j):=by
 have:=((h.toList.take j).drop i).toArray
 rw[show xs.extract i j=((xs.toList.take j).drop i).toArray from by apply Array.ext';simp[Array.toList_extract,List.drop_take],show bH.extract i j=((bH.toList.take j).drop i).toArray from by apply Array.ext';simp[Array.toList_extract,List.drop_take]]
 exact this
theorem LF{P:Program}{ah:ba}{t:TypeId}{xs bH:Array Value}{off:Nat}{v:Value}(I:eQ ah xs bH)(h:dk P (part t xs off)=some v):∃au,dk P (part t bH off)=some au/\bf ah v au:=by
 unfold part at h⊢
 simp only[fr]at h⊢
 cases aF:dk P (isAgg t)with
 | none=>rw[aF]at h;simp at h
 | some b=>
  rw[aF]at h
  simp only[Option.bind_some]at h⊢
  cases b
  ·simp only[Bool.false_eq_true,if_false]at h⊢
   cases ag:xs[off]? with
   | none=>simp[ag,dk,stuck]at h
   | some c=>
    simp only[ag,eN,Option.some.injEq]at h
    subst h
    obtain⟨au,o,aa⟩:=I.get ag
    simp only[o,eN]
    exact⟨_,rfl,aa⟩
  ·simp only[if_true,fr,xA]at h⊢
   cases an:bn P t with
   | none=>rw[an]at h;simp at h
   | some n=>
    rw[an]at h
    simp only[Option.bind_some,eN,Option.some.injEq]at h⊢
    subst h
    exact⟨_,rfl,.agg (I.extract _ _).1 (I.extract _ _).2⟩
def qM(P:Program)(t:TypeId):Bool:=match P.underlying t with
 | some (.int _)=>true
 | _=>false
def bF(P:Program)(U:Oper):Bool:=
 match U.op with
 | .move _ | .assign _ | .pick .. | .build .. | .nilCheck _ | .fieldAddr .. | .field .. | .indexAddr .. | .index .. | .extract .. | .makeFunc .. | .makeInterface .. | .binOp .. | .unOp .. =>true
 | .call {callee:= .builtin .len,.. } | .call {callee:= .builtin .max,.. } | .call {callee:= .builtin .min,.. }=>true
 | .convert s t _=>qM P s&&qM P t
 | _=>false
inductive hi (P:Program) (aI:Operand->Value) (U:Oper):Value->Prop
 | move {x:Operand} (h:U.op= .move x):hi P aI U (aI x)
 | assign {x:Operand} (h:U.op= .assign x):hi P aI U (aI x)
 | pick {c a b:Operand} {t:Bool} (h:U.op= .pick c a b) (ag:aI c= .bool t):hi P aI U (if t then aI a else aI b)
 | pure {v:Value} (a2:bF P U=true) (ax:(U.op.operands.all fun x=>flat (aI x))=true) (ao:flat v=true) (h:dk P (execOp aI U)=some (.value v)):hi P aI U v
 | build {t:TypeId} {aZ:Array (Nat×Operand)} {z v:Value} (h:U.op= .build t aZ) (aP:dv P t=some z) (dt:flat z=true) (aj:dk P (Instr.build t (aZ.map fun p=>(p.1,aI p.2)))=some v):hi P aI U v
 | nilCheck {x:Operand} {a:Addr} (h:U.op= .nilCheck x) (I:aI x= .pointer (some a)):hi P aI U (aI x)
 | fieldAddr {s:TypeId} {x:Operand} {f b i n:Nat} {jk:Array Field} {fd:Field} (h:U.op= .fieldAddr s x f) (hu:P.underlying s=some (.struct jk)) (ax:jk[f]?=some fd) (an:bn P fd.type=some (n+1))
   (I:aI x= .pointer (some ⟨b,i,none⟩)):hi P aI U (.pointer (some ⟨b,i+fd.offset,none⟩))
 | field {t:TypeId} {x:Operand} {f:Nat} {cs:Array Value} {v:Value} (h:U.op= .field t x f) (I:aI x= .agg cs) (aj:dk P (Instr.field t (.agg cs) f)=some v):hi P aI U v
 | KL {t e:TypeId} {x ew:Operand} {b i len cap J:Nat} {k:IntKind} {n:Int} (h:U.op= .indexAddr t x ew) (hu:P.underlying t=some (.slice e)) (an:bn P e=some J) (I:aI x= .slice (some ⟨b,i,none⟩) len cap)
   (ad:aI ew= .int k n) (aH:0<=n) (o:n<len):hi P aI U (.pointer (some ⟨b,i+n.toNat*J,none⟩))
 | TJ {t e:TypeId} {x ew:Operand} {b i len J:Nat} {k:IntKind} {n:Int} (h:U.op= .indexAddr t x ew) (hu:P.underlying t=some (.array len e)) (an:bn P e=some J) (I:aI x= .pointer (some ⟨b,i,none⟩))
   (ad:aI ew= .int k n) (aH:0<=n) (o:n<len):hi P aI U (.pointer (some ⟨b,i+n.toNat*J,none⟩))
 | index {t e:TypeId} {x ew:Operand} {len J:Nat} {k:IntKind} {n:Int} {cs:Array Value} {v:Value} (h:U.op= .index t x ew) (hu:P.underlying t=some (.array len e)) (an:bn P e=some J) (I:aI x= .agg cs)
   (ad:aI ew= .int k n) (aH:0<=n) (o:n<len) (aj:dk P (part e cs (n.toNat*J))=some v):hi P aI U v
 | extract {x:Operand} {i:Nat} {aA:Array Value} {v:Value} (h:U.op= .extract x i) (I:aI x= .tuple aA) (ao:aA[i]?=some v):hi P aI U v
 | KY {x:Operand} {t e:TypeId} {a:Option Addr} {n c:Nat} (h:U.op= .call {callee:= .builtin .len,args:= #[x],argTypes:= #[t]}) (hu:P.underlying t=some (.slice e)) (I:aI x= .slice a n c):hi P aI U (.int .i64 n)
 | makeFunc {fn:Fn} {a b:Array Operand} (h:U.op= .makeFunc fn a b):hi P aI U (.func fn (a.map aI) (b.map aI))
 | Lc {t:TypeId} {x:Operand} (h:U.op= .makeInterface t x) (ag:P.concrete t=true):hi P aI U (.iface t (aI x))
 | H8 {t e oI:TypeId} {x y:Operand} {a:Option Addr} {n c:Nat} (h:U.op= .binOp .eql t x y oI) (hu:P.underlying t=some (.slice e)) (I:aI x= .slice a n c) (aJ:aI y= .slice none 0 0):hi P aI U (.bool a.isNone)
 | Lr {t e oI:TypeId} {x y:Operand} {a:Option Addr} {n c:Nat} (h:U.op= .binOp .neq t x y oI) (hu:P.underlying t=some (.slice e)) (I:aI x= .slice a n c) (aJ:aI y= .slice none 0 0):hi P aI U (.bool (!a.isNone))
theorem eQ.map{ah:ba}{aI ct:Operand->Value}(xs:Array Operand)(h:∀x∈xs,bf ah (aI x) (ct x)):eQ ah (xs.map aI) (xs.map ct):=by
 refine⟨by simp,fun i v au ao dc=>?_⟩
 simp only[Array.getElem?_map,Option.map_eq_some_iff]at ao dc
 obtain⟨x,I,rfl⟩:=ao
 obtain⟨y,aJ,rfl⟩:=dc
 rw[I]at aJ
 obtain rfl:=Option.some.inj aJ
 exact h x (Array.mem_of_getElem? I)
theorem bf.nC{ah:ba}{k:IntKind}{n:Int}{v:Value}(h:bf ah (.int k n) v):v= .int k n:=by cases h;rfl
theorem bf.Hv{ah:ba}{b:Bool}{v:Value}(h:bf ah (.bool b) v):v= .bool b:=by cases h;rfl
theorem bf.qV{ah:ba}{b i:Nat}{v:Value}(h:bf ah (.pointer (some ⟨b,i,none⟩)) v):∃k,ah b=some k/\v= .pointer (some ⟨k.g,k.U+i,none⟩):=by
 cases h with
 | ptr h=>exact⟨_,h,rfl⟩
theorem bf.Hq{ah:ba}{cs:Array Value}{v:Value}(h:bf ah (.agg cs) v):∃en,v= .agg en/\eQ ah cs en:=by
 cases h with
 | agg ar h=>exact⟨_,rfl,ar,h⟩
theorem bf.XZ{ah:ba}{cs:Array Value}{v:Value}(h:bf ah (.tuple cs) v):∃en,v= .tuple en/\eQ ah cs en:=by
 cases h with
 | tuple ar h=>exact⟨_,rfl,ar,h⟩
theorem bf.AI{ah:ba}{b i len cap:Nat}{v:Value}(h:bf ah (.slice (some ⟨b,i,none⟩) len cap) v)(aH:0<len):
  ∃k dm,ah b=some k/\v= .slice (some ⟨k.g,k.U+i,none⟩) len dm/\len<=cap/\cap<=dm/\(k.loose=false->dm=cap)/\(k.loose=true->k.U+i+dm*k.J<=k.N):=by
 cases h with
 | void=>omega
 | empty=>omega
 | slice h ag ar fE I cj=>exact⟨_,_,h,rfl,ar,fE,I,cj⟩
theorem bf.pI{ah:ba}{a:Option Addr}{len cap:Nat}{v:Value}(h:bf ah (.slice a len cap) v):∃ej dm,v= .slice ej len dm/\len<=dm/\len<=cap/\cap<=dm/\ej.isNone=a.isNone:=by
 cases h with
 | qP=>exact⟨_,_,rfl,Nat.le_refl _,Nat.le_refl _,Nat.le_refl _,rfl⟩
 | void=>exact⟨_,_,rfl,Nat.le_refl _,Nat.le_refl _,Nat.le_refl _,rfl⟩
 | empty=>exact⟨_,_,rfl,Nat.zero_le _,Nat.le_refl _,Nat.zero_le _,rfl⟩
 | slice h ag ar fE I cj=>exact⟨_,_,rfl,Nat.le_trans ar fE,ar,fE,rfl⟩
theorem oQ{g U n:Nat}:(⟨g,U,none⟩:Addr).add n=⟨g,U+n,none⟩:=by unfold Addr.add;split<;>simp_all
theorem Ma{P:Program}(w:World)(d:Nat)(t e:TypeId)(a:Option Addr)(n c:Nat)(h:P.underlying t=some (.slice e)):
  (Op.equalIn (d+1) t (.slice a n c) (.slice none 0 0)).run P w= .ok a.isNone w:=by
 cases a<;>simp[Op.equalIn,run_underlying h]
theorem W6{P:Program}(w:World)(t e:TypeId)(a:Option Addr)(n c:Nat)(h:P.underlying t=some (.slice e)):
  (binOp .eql t (.slice a n c) (.slice none 0 0)).run P w= .ok (.bool a.isNone) w:=by
 simp only[binOp]
 simp[Op.equal,Op.maxDepth,Ma w 9999 t e a n c h]
theorem W7{P:Program}(w:World)(t e:TypeId)(a:Option Addr)(n c:Nat)(h:P.underlying t=some (.slice e)):
  (binOp .neq t (.slice a n c) (.slice none 0 0)).run P w= .ok (.bool (!a.isNone)) w:=by
 simp only[binOp]
 simp[Op.equal,Op.maxDepth,Ma w 9999 t e a n c h]
theorem BX{P:Program}{aI ct:Operand->Value}{U:Oper}{v:Value}{ah:ba}(h:hi P aI U v)(c8:∀x∈U.op.operands,bf ah (aI x) (ct x))(w:World):
  ∃au,(execOp ct U).run P w= .ok (.value au) w/\bf ah v au:=by
 cases h with
 | move h=>exact⟨_,by simp[execOp,h],c8 _ (by simp[h,Op.operands])⟩
 | assign h=>exact⟨_,by simp[execOp,h],c8 _ (by simp[h,Op.operands])⟩
 | pick h ag=>
  rename_i c a b t
  have o:=(ag▸c8 c (by simp[h,Op.operands])).Hv
  refine⟨if t then ct a else ct b,by simp[execOp,h,o,asBool],?_⟩
  cases t
  ·exact c8 b (by simp[h,Op.operands])
  ·exact c8 a (by simp[h,Op.operands])
 | pure a2 ax ao h=>
  have he:execOp aI U=execOp ct U:=by
   refine execOp_congr U (fun cs b e=>?_) fun x I=>(Ik (by simpa using Array.all_eq_true'.1 ax x I) (c8 x I)).symm
   simp[bF,e]at a2
  exact⟨v,qW _ _ (he▸h) w,tj ah ao⟩
 | build h aP dt aj=>
  rename_i t aZ z
  obtain⟨au,o,aa⟩:=N6 (ct:=ct) aP dt (fun p aT=>c8 p.2 (by simp[h,Op.operands];exact⟨p.1,by simpa using aT⟩)) aj
  exact⟨au,by simp[execOp,h,qW _ _ o w],aa⟩
 | nilCheck h I=>
  rename_i x a
  have o:=c8 x (by simp[h,Op.operands])
  rw[I]at o⊢
  obtain⟨ej,he⟩:∃ej,ct x= .pointer (some ej):=by
   generalize ct x=u at o
   cases o<;>exact⟨_,rfl⟩
  exact⟨ct x,by simp[execOp,h,he],o⟩
 | fieldAddr h hu ax an I=>
  rename_i s x f b i n jk fd
  obtain⟨k,ai,he⟩:=(I▸c8 x (by simp[h,Op.operands])).qV
  refine⟨_,?_,.ptr (i:=i+fd.offset) ai⟩
  simp[execOp,h,he,Instr.fieldAt,run_underlying hu,ax,Instr.sureAddr,fieldPlace,j2 an,oQ,Nat.add_assoc]
 | field h I aj=>
  rename_i t x f cs
  obtain⟨en,he,wk⟩:=(I▸c8 x (by simp[h,Op.operands])).Hq
  unfold Instr.field at aj
  simp only[fr,nG]at aj
  cases hu:P.underlying t with
  | none=>simp[hu]at aj
  | some d=>
   simp only[hu,Option.bind_some]at aj
   cases d with
   | struct fields=>
    simp only at aj
    cases C0:fields[f]? with
    | none=>simp[C0,dk,stuck]at aj
    | some fd=>
     simp only[C0,asAgg,fr,eN,Option.bind_some]at aj
     obtain⟨au,o,aa⟩:=LF wk aj
     exact⟨au,by simp[execOp,h,he,Instr.field,run_underlying hu,C0,asAgg,qW _ _ o w],aa⟩
   | _=>simp[dk,stuck]at aj
 | KL h hu an I ad aH o=>
  rename_i t e x ew b i len cap J k n
  obtain⟨Vo,dm,ai,he,-⟩:=(I▸c8 x (by simp[h,Op.operands])).AI (by omega)
  have kd:=(ad▸c8 ew (by simp[h,Op.operands])).nC
  refine⟨_,?_,.ptr (i:=i+n.toNat*J) ai⟩
  simp[execOp,h,he,kd,Instr.indexAt,asIntOf,run_underlying hu,j2 an,aH,o,oQ,Nat.add_assoc]
 | TJ h hu an I ad aH o=>
  rename_i t e x ew b i len J k n
  obtain⟨Vo,ai,he⟩:=(I▸c8 x (by simp[h,Op.operands])).qV
  have kd:=(ad▸c8 ew (by simp[h,Op.operands])).nC
  refine⟨_,?_,.ptr (i:=i+n.toNat*J) ai⟩
  simp[execOp,h,he,kd,Instr.indexAt,Instr.sureAddr,asIntOf,run_underlying hu,j2 an,aH,o,oQ,Nat.add_assoc]
 | index h hu an I ad aH o aj=>
  rename_i t e x ew len J k n cs
  obtain⟨en,he,wk⟩:=(I▸c8 x (by simp[h,Op.operands])).Hq
  have kd:=(ad▸c8 ew (by simp[h,Op.operands])).nC
  obtain⟨au,aT,aa⟩:=LF wk aj
  exact⟨au,by simp[execOp,h,he,kd,Instr.index,asIntOf,run_underlying hu,j2 an,aH,o,qW _ _ aT w],aa⟩
 | extract h I ao=>
  rename_i x i aA
  obtain⟨en,he,wk⟩:=(I▸c8 x (by simp[h,Op.operands])).XZ
  obtain⟨au,o,aa⟩:=wk.get ao
  exact⟨au,by simp[execOp,h,he,Instr.extract,o],aa⟩
 | KY h hu I=>
  rename_i x t e a n c
  obtain⟨ej,dL,he,-⟩:=(I▸c8 x (by simp[h,Op.operands,Call.operands])).pI
  exact⟨_,by simp[execOp,h,he,resolve,invoke,builtin,Builtin.len_,run_underlying hu,goInt],.int _ _⟩
 | makeFunc h=>
  rename_i fn a b
  have o:=eQ.map a (ah:=ah) (aI:=aI) (ct:=ct) fun x I=>c8 x (by simp[h,Op.operands,I])
  have aa:=eQ.map b (ah:=ah) (aI:=aI) (ct:=ct) fun x I=>c8 x (by simp[h,Op.operands,I])
  exact⟨_,by simp[execOp,h,Instr.makeFunc],.func fn o.1 o.2 aa.1 aa.2⟩
 | Lc h ag=>
  rename_i t x
  exact⟨_,by simp[execOp,h,run_makeInterface w t _ ag],.iface t (c8 x (by simp[h,Op.operands]))⟩
 | H8 h hu I aJ=>
  rename_i t e oI x y a n c
  obtain⟨ej,dL,he,-,-,-,aE⟩:=(I▸c8 x (by simp[h,Op.operands])).pI
  have ps:=yH rfl (aJ▸c8 y (by simp[h,Op.operands]))
  refine⟨.bool a.isNone,?_,.bool _⟩
  rw[<-aE]
  simp[execOp,h,he,ps,eqGuard,W6 w t e ej n dL hu]
 | Lr h hu I aJ=>
  rename_i t e oI x y a n c
  obtain⟨ej,dL,he,-,-,-,aE⟩:=(I▸c8 x (by simp[h,Op.operands])).pI
  have ps:=yH rfl (aJ▸c8 y (by simp[h,Op.operands]))
  refine⟨.bool (!a.isNone),?_,.bool _⟩
  rw[<-aE]
  simp[execOp,h,he,ps,eqGuard,W7 w t e ej n dL hu]
def c_(P:Program)(t:TypeId):Option Bool:=(P.underlying t).map fun d=>match d with | .struct _ | .array _ _=>true | _=>false
theorem Ax{P:Program}{t:TypeId}{b:Bool}(h:c_ P t=some b)(w:World):(isAgg t).run P w= .ok b w:=qW _ _ (by rw[LN];exact h) w
def bA.elem?:bA->Option TypeId
 | .own e _ _=>some e
 | .ro e _=>some e
 | .dead=>none
theorem b8.cell{P:Program}{base:Nat}{ah:ba}{H:ab}{w:World}(h:b8 P base ah H w){b j:Nat}{k:h2}{x:bA}{cs:List Value}{v:Value}(ae:ah b=some k)(I:H[b]?=some x)(ag:x.cells?=some cs)
  (aQ:cs[j]?=some v):∃au,w.cell? ⟨k.g,k.U+j,none⟩=some au/\bf ah v au:=by
 cases h.eL b k x ae I with
 | own rS ar ad an aU cj ax bq ao=>
  simp only[bA.cells?,Option.some.injEq]at ag
  subst ag
  obtain⟨au,o,aa⟩:=ao j v aQ
  exact⟨au,by simp[World.cell?,aU,o],aa⟩
 | ro ad an ao c0=>
  simp only[bA.cells?,Option.some.injEq]at ag
  subst ag
  exact ao j v aQ
 | dead=>simp[bA.cells?]at ag
theorem b8.cells{P:Program}{base:Nat}{ah:ba}{H:ab}{w:World}(h:b8 P base ah H w){b i n:Nat}{k:h2}{x:bA}{cs:List Value}(ae:ah b=some k)(I:H[b]?=some x)(ag:x.cells?=some cs)
  (bq:i+n<=cs.length):∃aA:List Value,aA.length=n/\(∀(j:Nat) (v:Value),aA[j]?=some v->w.cell? ((⟨k.g,k.U+i,none⟩:Addr).add j)=some v)/\cz ah ((cs.drop i).take n) aA:=by
 have key:∀j,j<n->∃v au,cs[i+j]?=some v/\w.cell? ⟨k.g,k.U+(i+j),none⟩=some au/\bf ah v au:=fun j aQ=>by
  have a3:i+j<cs.length:=by omega
  obtain⟨au,o,aa⟩:=h.cell ae I ag (bx a3)
  exact⟨_,au,bx a3,o,aa⟩
 refine⟨(List.range n).map fun j=>(w.cell? ⟨k.g,k.U+(i+j),none⟩).getD undef,by simp,fun j v aQ=>?_,?_,fun j v au ao dc=>?_⟩
 ·have a3:j<n:=by have:=(cd.1 aQ).1;simpa using this
  obtain⟨_,au,_,o,_⟩:=key j a3
  simp[a3,o]at aQ
  rw[oQ,Nat.add_assoc,o,aQ]
 ·simp;omega
 ·have a3:j<n:=by have:=(cd.1 dc).1;simpa using this
  obtain⟨u,Z1,aH,o,aa⟩:=key j a3
  simp[a3,o]at dc
  rw[List.getElem?_take_of_lt a3,List.getElem?_drop,aH]at ao
  cases ao
  subst dc
  exact aa
def c3(cs:List Value)(i:Nat)(aA:List Value):List Value:=cs.take i++aA++cs.drop (i+aA.length)
theorem mU{cs aA:List Value}{i:Nat}(h:i+aA.length<=cs.length):(c3 cs i aA).length=cs.length:=by simp[c3];omega
theorem XE(cs:List Value)(i:Nat):c3 cs i []=cs:=by simp[c3]
theorem XF{cs:List Value}{i:Nat}(v:Value)(h:i<cs.length):c3 cs i [v]=cs.set i v:=by
 simp only[c3,List.length_cons,List.length_nil]
 rw[List.set_eq_take_append_cons_drop,if_pos h]
 simp
theorem XD(cs aA:List Value)(i:Nat)(v:Value)(h:i+1+aA.length<=cs.length):c3 (cs.set i v) (i+1) aA=c3 cs i (v::aA):=by
 simp only[c3,List.length_cons]
 rw[List.set_eq_take_append_cons_drop,if_pos (by omega)]
 have o:(cs.take i).length=i:=by simp;omega
 have bp:(cs.take i++v::cs.drop (i+1)).take (i+1)=cs.take i++[v]:=by
  rw[List.take_append,List.take_of_length_le (by omega),o]
  simp[show i+1-i=1 by omega]
 have bo:(cs.take i++v::cs.drop (i+1)).drop (i+1+aA.length)=cs.drop (i+(aA.length+1)):=by
  rw[List.drop_append,List.drop_eq_nil_of_le (by omega),o,List.nil_append,show i+1+aA.length-i=aA.length+1 by omega,List.drop_succ_cons,List.drop_drop]
  congr 1
  omega
 rw[bp,bo]
 simp
theorem q2{cs aA:List Value}{i j:Nat}(h:i+aA.length<=cs.length):(c3 cs i aA)[j]?=if i<=j/\j<i+aA.length then aA[j-i]? else cs[j]?:=by
 simp only[c3]
 have o:(cs.take i).length=i:=by simp;omega
 by_cases aQ:j<i
 ·rw[if_neg (by omega),List.append_assoc,List.getElem?_append_left (by omega),List.getElem?_take_of_lt aQ]
 ·by_cases lh:j<i+aA.length
  ·rw[if_pos ⟨by omega,lh⟩,List.append_assoc,List.getElem?_append_right (by omega),o,List.getElem?_append_left (by omega)]
  ·rw[if_neg (by omega),List.getElem?_append_right (by simp;omega),List.getElem?_drop]
   congr 1
   simp
   omega
theorem XG{ah:ba}{cs:List Value}{cur:Array Value}{aA hf:List Value}{U i:Nat}(ao:∀(j:Nat) (v:Value),cs[j]?=some v->∃au,cur[U+j]?=some au/\bf ah v au)(ar:cz ah aA hf)(bq:i+aA.length<=cs.length)
  (n8:U+cs.length<=cur.size):∀(j:Nat) (v:Value),(c3 cs i aA)[j]?=some v->∃au,(c3 cur.toList (U+i) hf).toArray[U+j]?=some au/\bf ah v au:=by
 intro j v aQ
 rw[q2 bq]at aQ
 have e:(c3 cur.toList (U+i) hf).toArray[U+j]?=(c3 cur.toList (U+i) hf)[U+j]?:=by simp
 rw[e,q2 (by rw[<-ar.1];simp;omega),<-ar.1]
 split at aQ
 ·rename_i ag
  rw[if_pos (by omega),show U+j-(U+i)=j-i by omega]
  exact ar.get aQ
 ·rename_i ag
  rw[if_neg (by omega)]
  obtain⟨au,o,aa⟩:=ao j v aQ
  exact⟨au,by simpa using o,aa⟩
theorem Xp{w:World}{g p:Nat}{cur:Array Value}{e:TypeId}{dZ:Nat×Nat}(aU:w.heap[g]?=some (.cells cur e dZ))(v:Value):
  w.setCell ⟨g,p,none⟩ v=hS w g (.cells (cur.setIfInBounds p v) e dZ):=by
 obtain⟨a3,he⟩:=Array.getElem?_eq_some_iff.1 aU
 simp only[World.setCell,hS]
 congr 1
 apply Array.ext_getElem?
 intro i
 rw[Array.getElem?_modify,Array.getElem?_setIfInBounds]
 split
 ·rename_i ad
  subst ad
  rw[aU]
  rfl
 ·rfl
theorem Wx(w:World)(g:Nat)(x y:Obj):hS (hS w g x) g y=hS w g y:=by simp[hS]
theorem Ww{w:World}{g:Nat}{x:Obj}(h:w.heap[g]?=some x):hS w g x=w:=by
 obtain⟨a3,he⟩:=Array.getElem?_eq_some_iff.1 h
 unfold hS
 have:w.heap.setIfInBounds g x=w.heap:=by
  apply Array.ext_getElem?
  intro i
  rw[Array.getElem?_setIfInBounds]
  split
  ·rename_i ad;subst ad;rw[h]
  ·rfl
 rw[this]
theorem EL{P:Program}(g off:Nat)(e:TypeId)(dZ:Nat×Nat):∀(aA:List Value) (i:Nat) (cur:Array Value) (w:World),w.heap[g]?=some (.cells cur e dZ)->lB dZ cur.size->off+i+aA.length<=cur.size->
  (∀v∈aA,v.oneCell'=true)->(storeCells ⟨g,off,none⟩ aA i).run P w= .ok () (hS w g (.cells (c3 cur.toList (off+i) aA).toArray e dZ))
 | [],i,cur,w,aU,_,_,_=>by
  rw[XE,Ww (by simpa using aU)]
  rfl
 | v::aA,i,cur,w,aU,ax,bq,o=>by
  simp only[List.length_cons]at bq
  have a3:off+i<cur.size:=by omega
  have lL:w.cell? ⟨g,off+i,none⟩=some cur[off+i]:=by simp[World.cell?,aU,a3]
  have Jp:w.frozen? ⟨g,off+i,none⟩=false:=by
   have:=ax (off+i) a3
   simp only[World.frozen?,aU]
   simpa using this
  have an:(store ((⟨g,off,none⟩:Addr).add i) v).run P w= .ok () (hS w g (.cells (cur.setIfInBounds (off+i) v) e dZ)):=by
   rw[oQ,run_store P w _ v _ (o v List.mem_cons_self),lL]
   simp only[Jp]
   rw[<-Xp aU]
   rfl
  have C4:(hS w g (.cells (cur.setIfInBounds (off+i) v) e dZ)).heap[g]?=some (.cells (cur.setIfInBounds (off+i) v) e dZ):=Et w _ _ (Array.getElem?_eq_some_iff.1 aU).1
  have aV:=EL (P:=P) g off e dZ aA (i+1) (cur.setIfInBounds (off+i) v) _ C4 (by simpa using ax) (by simp;omega) fun u hu=>o u (List.mem_cons_of_mem _ hu)
  simp only[storeCells,Sem.run_bind,an,Result.andThen_ok,aV,Wx]
  congr 4
  rw[<-XD _ _ _ _ (by simp;omega)]
  simp[Nat.add_assoc]
def xR(s:ByteArray):List Value:=s.data.toList.map fun b=> .int .u8 b.toNat
inductive Src (H:ab) (J:Nat):Value->Nat->Nat->List Value->Prop
 | u7 {a:Option Addr} {m c:Nat}:Src H J (.slice a m c) m 0 []
 | row {b i n m c:Nat} {x:bA} {cs:List Value} (I:H[b]?=some x) (ag:x.cells?=some cs) (aE:0<n) (hm:n<=m) (bq:i+n*J<=cs.length):Src H J (.slice (some ⟨b,i,none⟩) m c) m n ((cs.drop i).take (n*J))
 | str {s:ByteArray} (o:J=1):Src H J (.string s) s.size s.size (xR s)
theorem sD{P:Program}{base:Nat}{ah:ba}{H:ab}{w:World}{J m n:Nat}{v au:Value}{news:List Value}(an:Src H J v m n news)(h:b8 P base ah H w)(ao:bf ah v au):
  (Builtin.lenOf au).run P w= .ok m w/\news.length=n*J/\∃hc:List Value,(∀a5:World,a5.heap=w.heap->(Builtin.firstCells J n au).run P a5= .ok hc.toArray a5)/\cz ah news hc:=by
 cases an with
 | u7=>
  obtain⟨ej,dL,rfl,-⟩:=ao.pI
  refine⟨by simp[Builtin.lenOf],by simp,[],fun a5 _=>?_,cz.nil ah⟩
  cases ej<;>simp[Builtin.firstCells,loadCells,loadCellsFrom]
 | row I ag aE hm bq=>
  rename_i b i c x cs
  obtain⟨k,dm,ai,rfl,-⟩:=ao.AI (by omega)
  obtain⟨aA,ar,lL,aj⟩:=h.cells ai I ag bq
  refine⟨by simp[Builtin.lenOf],by simp;omega,aA,fun a5 hw=>?_,aj⟩
  simp only[Builtin.firstCells]
  rw[<-ar]
  exact run_loadCells_list a5 _ aA fun j u hu=>by rw[BD (w:=w) (by rw[hw])];exact lL j u hu
 | str o=>
  rename_i s
  have he:au= .string s:=by cases ao;rfl
  subst he
  refine⟨by simp[Builtin.lenOf],by rw[o,Nat.mul_one];unfold xR;rw[List.length_map];rfl,xR s,fun a5 _=>?_,rfl,fun i v au I aJ=>?_⟩
  ·simp only[Builtin.firstCells,xR]
   have e:(s.extract 0 s.size).data=s.data:=by
    rw[ByteArray.data_extract];exact Array.extract_size
   rw[e]
   simp only[Sem.run_pure]
   congr 1
   apply Array.ext'
   simp
  ·rw[I]at aJ
   obtain rfl:=Option.some.inj aJ
   simp only[xR,List.getElem?_map,Option.map_eq_some_iff]at I
   obtain⟨b,-,rfl⟩:=I
   exact .int _ _
def fw(P:Program)(base:Nat)(ah:ba)(H:ab)(w:World)(s:Sem Value)(v:Value)(aC:ab):Prop:=
 ∃bm au a5,s.run P w= .ok au a5/\bf bm v au/\b8 P base bm aC a5/\Step ah H w bm aC a5
theorem b8.Bu{P:Program}{base:Nat}{ah:ba}{H:ab}{w:World}(h:b8 P base ah H w){e:TypeId}{n:Nat}(an:bn P e=some n){cs:List Value}{cur:Array Value}{dZ:Nat×Nat}(l:Bool)(ax:lB dZ cur.size)(bq:cs.length<=cur.size)
  (ao:∀(i:Nat) (v:Value),cs[i]?=some v->∃au,cur[i]?=some au/\bf ah v au):
  b8 P base (ah.put H.length ⟨w.heap.size,0,cur.size,n,l⟩) (H++[.own e l cs]) (w.alloc (.cells cur e dZ))/\Step ah H w (ah.put H.length ⟨w.heap.size,0,cur.size,n,l⟩) (H++[.own e l cs]) (w.alloc (.cells cur e dZ)):=by
 unfold bn at an
 obtain⟨inf,ad,aE⟩:=Option.map_eq_some_iff.1 an
 exact h.alloc ad aE ax bq ao
theorem lB.zero(n:Nat):lB (0,0) n:=fun j _ h=>by simp at h
theorem b8.KS{P:Program}{base:Nat}{ah:ba}{H:ab}{w:World}(h:b8 P base ah H w)(x:Obj):b8 P base ah H (w.alloc x)/\Step ah H w ah H (w.alloc x):=by
 have hold:∀g,g<w.heap.size->(w.alloc x).heap[g]?=w.heap[g]?:=fun g aU=>heap_alloc_old w _ aU
 refine⟨⟨h.pos,by simp;have:=h.size;omega,h.ez,fun b k y ae aJ=>(h.eL b k y ae aJ).gk (fun _ _ h=>h) (fun aE=>hold _ ((h.eL b k y ae aJ).lt aE)) (by simp),h.inj⟩,?_⟩
 exact⟨fun _ _ h=>h,fun _ _ h=> .inl h,Nat.le_refl _,fun b k ae aK=> .inr ⟨b,k,ae,aK,rfl⟩,rfl,rfl,rfl,by simp,fun g aU _=>hold g aU⟩
theorem cz.ofArray{ah:ba}{xs bH:Array Value}(h:eQ ah xs bH):∀(i:Nat) (v:Value),xs.toList[i]?=some v->∃au,bH[i]?=some au/\bf ah v au:=fun i v ao=>by
 obtain⟨au,o,aa⟩:=h.toList.get ao
 exact⟨au,by simpa using o,aa⟩
section
variable {P:Program} {base:Nat} {ah:ba} {H:ab} {w:World}
theorem OB{e:TypeId}{z:Value}{n:Nat}(h:b8 P base ah H w)(aP:dv P e=some z)(dt:flat z=true)(an:bn P e=some n):
  fw P base ah H w (Instr.alloc e true (.tuple #[])) (.pointer (some ⟨H.length,0,none⟩)) (H++[.own e false z.cells.toList]):=by
 obtain⟨o,aa⟩:=h.Bu (cur:=z.cells) (dZ:=(0,0)) an false (lB.zero _) (by simp) (cz.ofArray (A_ dt))
 refine⟨_,.pointer (some ⟨w.heap.size,0,none⟩),_,?_,?_,o,aa⟩
 ·simp[Instr.alloc,Ay aP,newVar,newRow]
 ·exact .ptr (k:=⟨w.heap.size,0,z.cells.size,n,false⟩) (ba.mR _ _ _)
theorem OH{e:TypeId}{v au:Value}{n:Nat}(h:b8 P base ah H w)(ao:bf ah v au)(an:bn P e=some n):
  fw P base ah H w (Instr.box e au) (.pointer (some ⟨H.length,0,none⟩)) (H++[.own e false v.cells.toList]):=by
 obtain⟨o,aa⟩:=h.Bu (cur:=au.cells) (dZ:=(0,0)) (cs:=v.cells.toList) an false (lB.zero _) (by simp[ao.cells.1]) (cz.ofArray ao.cells)
 refine⟨_,.pointer (some ⟨w.heap.size,0,none⟩),_,?_,?_,o,aa⟩
 ·simp[Instr.box,newVar,newRow]
 ·exact .ptr (k:=⟨w.heap.size,0,au.cells.size,n,false⟩) (ba.mR _ _ _)
theorem ON{t:TypeId}{b i:Nat}{X:bA}{cs:List Value}{v au:Value}(h:b8 P base ah H w)(aF:c_ P t=some false)(I:bf ah (.pointer (some ⟨b,i,none⟩)) au)(aR:H[b]?=some X)(ag:X.cells?=some cs)(ao:cs[i]?=some v):
  fw P base ah H w (Instr.loadAt t au) v H:=by
 obtain⟨k,ai,rfl⟩:=I.qV
 obtain⟨u,o,aa⟩:=h.cell ai aR ag ao
 exact⟨ah,u,w,by simp[Instr.loadAt,Instr.sureAddr,loadVar,Ax aF,o],aa,h,Step.refl _ _ _⟩
theorem OO{t:TypeId}{b i n:Nat}{X:bA}{cs:List Value}{au:Value}(h:b8 P base ah H w)(aF:c_ P t=some true)(an:bn P t=some n)(I:bf ah (.pointer (some ⟨b,i,none⟩)) au)(aR:H[b]?=some X)(ag:X.cells?=some cs)
  (bq:i+n<=cs.length):fw P base ah H w (Instr.loadAt t au) (.agg ((cs.drop i).take n).toArray) H:=by
 obtain⟨k,ai,rfl⟩:=I.qV
 obtain⟨aA,ar,lL,aj⟩:=h.cells ai aR ag bq
 have gF:=run_loadCells_list (P:=P) w ⟨k.g,k.U+i,none⟩ aA lL
 rw[ar]at gF
 exact⟨ah,.agg aA.toArray,w,by simp[Instr.loadAt,Instr.sureAddr,loadVar,Ax aF,j2 an,gF],.agg aj.toArray.1 aj.toArray.2,h,Step.refl _ _ _⟩
theorem Eu{b i:Nat}{k:h2}{e:TypeId}{l:Bool}{cs aA hf:List Value}(h:b8 P base ah H w)(ae:ah b=some k)(aR:H[b]?=some (.own e l cs))(ar:cz ah aA hf)(bq:i+aA.length<=cs.length)(o:∀v∈aA,v.oneCell'=true):
  ∃a5,(storeCells ⟨k.g,k.U+i,none⟩ hf).run P w= .ok () a5/\b8 P base ah (H.set b (.own e l (c3 cs i aA))) a5/\Step ah H w ah (H.set b (.own e l (c3 cs i aA))) a5:=by
 cases h.eL b k _ ae aR with
 | own rS ie ad an aU cj ax C2 ao=>
  rename_i cur dZ inf
  have fX:(c3 cs i aA).length=cs.length:=mU bq
  have hlen:hf.length=aA.length:=ar.1.symm
  have Iv:∀v∈hf,v.oneCell'=true:=fun au dc=>by
   obtain⟨j,aQ⟩:=List.getElem?_of_mem dc
   have wI:j<aA.length:=by rw[ar.1];exact(cd.1 aQ).1
   have:=(ar.2 j _ _ (bx wI) aQ).Lx
   rw[this]
   exact o _ (List.getElem_mem wI)
  have gF:=EL (P:=P) k.g (k.U+i) e dZ hf 0 cur w aU (cj▸ax) (by omega) Iv
  simp only[Nat.add_zero]at gF
  have Dv:=XG ao ar bq (by omega)
  obtain⟨s1,s2⟩:=h.put (en:=c3 cs i aA) (k3:=(c3 cur.toList (k.U+i) hf).toArray) ae aR ⟨cur,aU,by rw[List.size_toArray,mU (by simp;omega)];simp⟩ fX Dv
  exact⟨_,gF,s1,s2⟩
theorem OX{t:TypeId}{b i:Nat}{e:TypeId}{l:Bool}{cs:List Value}{y ej l7:Value}(h:b8 P base ah H w)(an:bn P t=some y.cells.size)(aF:bf ah (.pointer (some ⟨b,i,none⟩)) ej)(aJ:bf ah y l7)
  (aR:H[b]?=some (.own e l cs))(bq:i+y.cells.size<=cs.length)(o:(y.cells.toList.all (·.oneCell'))=true):
  ∃a5,(Instr.storeAt t ej l7).run P w= .ok () a5/\b8 P base ah (H.set b (.own e l (c3 cs i y.cells.toList))) a5/\Step ah H w ah (H.set b (.own e l (c3 cs i y.cells.toList))) a5:=by
 obtain⟨k,ai,rfl⟩:=aF.qV
 obtain⟨a5,aj,s1,s2⟩:=Eu (i:=i) h ai aR aJ.cells.toList (by simpa using bq) (fun v ao=>by simpa using List.all_eq_true.1 o v ao)
 have c0:=aJ.cells.1
 exact⟨a5,by simp[Instr.storeAt,Instr.sureAddr,storeVar,j2 an,<-c0,aj],s1,s2⟩
def dN(aI:Operand->Value):Option Operand->Option Nat
 | none=>some 0
 | some x=>match aI x with
  | .int _ n=>if 0<=n then some n.toNat else none
  | _=>none
def fo(aI:Operand->Value)(d:Nat):Option Operand->Option Nat
 | none=>some d
 | some x=>match aI x with
  | .int _ n=>if 0<=n then some n.toNat else none
  | _=>none
theorem run_sliceBound{P:Program}{w:World}{k:IntKind}{n:Int}{y:Nat}{code:BoundsCode}(aH:0<=n)(o:n.toNat<=y):(Instr.sliceBound (.int k n) y code).run P w= .ok n.toNat w:=by
 have:n<=(y:Int):=by omega
 simp[Instr.sliceBound,asIntOf,aH,this]
theorem EK{aI ct:Operand->Value}{bX ad:Option Operand}{len cap l cR:Nat}(ie:∀x,bX=some x->bf ah (aI x) (ct x))(ib:∀x,ad=some x->bf ah (aI x) (ct x))(ar:dN aI bX=some l)(eu:fo aI len ad=some cR)
  (o:l<=cR)(aa:cR<=cap)(w:World):(Instr.sliceBounds true len cap (bX.map ct) (ad.map ct) none).run P w= .ok (l,cR,cap) w:=by
 have el:∀x,bX=some x->∃k n,ct x= .int k n/\0<=n/\n.toNat=l:=fun x I=>by
  have ao:=ie x I
  subst I
  simp only[dN]at ar
  split at ar
  ·rename_i k n he
   rw[he]at ao
   split at ar
   ·cases ar;exact⟨k,n,ao.nC,by assumption,rfl⟩
   ·cases ar
  ·cases ar
 have Pk:∀x,ad=some x->∃k n,ct x= .int k n/\0<=n/\n.toNat=cR:=fun x I=>by
  have ao:=ib x I
  subst I
  simp only[fo]at eu
  split at eu
  ·rename_i k n he
   rw[he]at ao
   split at eu
   ·cases eu;exact⟨k,n,ao.nC,by assumption,rfl⟩
   ·cases eu
  ·cases eu
 unfold Instr.sliceBounds
 cases ad with
 | none=>
  have RO:len=cR:=by simpa[fo]using eu
  subst RO
  cases bX with
  | none=>
   have kf:0=l:=by simpa[dN]using ar
   subst kf
   simp
  | some x=>
   obtain⟨k,n,e,aH,rfl⟩:=el x rfl
   simp[e,run_sliceBound (P:=P) (w:=w) (k:=k) aH o]
 | some y=>
  obtain⟨bK,dI,cI,p_,rfl⟩:=Pk y rfl
  cases bX with
  | none=>
   have kf:0=l:=by simpa[dN]using ar
   subst kf
   simp[cI,run_sliceBound (P:=P) (w:=w) (k:=bK) p_ aa]
  | some x=>
   obtain⟨k,n,e,aH,rfl⟩:=el x rfl
   simp[e,cI,run_sliceBound (P:=P) (w:=w) (k:=bK) p_ aa,run_sliceBound (P:=P) (w:=w) (k:=k) aH o]
theorem L_{aI ct:Operand->Value}{bX ad e2:Operand}{len cap l cR m:Nat}(ie:bf ah (aI bX) (ct bX))(ib:bf ah (aI ad) (ct ad))(wM:bf ah (aI e2) (ct e2))(ar:dN aI (some bX)=some l)(eu:dN aI (some ad)=some cR)(hm:dN aI (some e2)=some m)
  (o:l<=cR)(aa:cR<=m)(aD:m<=cap)(w:World):(Instr.sliceBounds true len cap (some (ct bX)) (some (ct ad)) (some (ct e2))).run P w= .ok (l,cR,m) w:=by
 have el:∀x q,bf ah (aI x) (ct x)->dN aI (some x)=some q->∃k n,ct x= .int k n/\0<=n/\n.toNat=q:=fun x q ao av=>by
  simp only[dN]at av
  split at av
  ·rename_i k n he
   rw[he]at ao
   split at av
   ·cases av;exact⟨k,n,ao.nC,by assumption,rfl⟩
   ·cases av
  ·cases av
 obtain⟨iG,dx,bp,dp,rfl⟩:=el bX l ie ar
 obtain⟨ll,dF,bo,hd,rfl⟩:=el ad cR ib eu
 obtain⟨sv,jA,e0,eM,rfl⟩:=el e2 m wM hm
 simp[Instr.sliceBounds,bp,bo,e0,run_sliceBound (P:=P) (w:=w) (k:=iG) dp o,run_sliceBound (P:=P) (w:=w) (k:=ll) hd aa,run_sliceBound (P:=P) (w:=w) (k:=sv) eM aD]
theorem xF{t e:TypeId}{J:Nat}{a:Option Addr}{len cap l cR m:Nat}{bX ad e2:Option Value}(hu:P.underlying t=some (.slice e))(an:bn P e=some J)(ae:(Instr.sliceBounds true len cap bX ad e2).run P w= .ok (l,cR,m) w):
  (Instr.sliceAt t (.slice a len cap) bX ad e2).run P w= .ok (.slice (if m=l then a else a.map (·.add (l*J))) (cR-l) (m-l)) w:=by
 simp[Instr.sliceAt,Instr.slice,run_underlying hu,ae,j2 an]
section
variable {aI ct:Operand->Value} {bX ad:Option Operand}
theorem OR{t e:TypeId}{J b i len cap l cR:Nat}{X:bA}{eh:Value}(h:b8 P base ah H w)(hu:P.underlying t=some (.slice e))(an:bn P e=some J)(I:bf ah (.slice (some ⟨b,i,none⟩) len cap) eh)(aR:H[b]?=some X)(he:X.elem?=some e)
  (ie:∀x,bX=some x->bf ah (aI x) (ct x))(ib:∀x,ad=some x->bf ah (aI x) (ct x))(ar:dN aI bX=some l)(eu:fo aI len ad=some cR)(o:l<=cR)(aa:cR<=cap)(a3:l<cap):
  fw P base ah H w (Instr.sliceAt t eh (bX.map ct) (ad.map ct) none) (.slice (some ⟨b,i+l*J,none⟩) (cR-l) (cap-l)) H:=by
 cases I with
 | void=>omega
 | empty=>omega
 | slice ai ag hle fE nB cj=>
  rename_i k dm
  have ae:=EK (P:=P) (cap:=dm) ie ib ar eu o (by omega) w
  refine⟨ah,_,w,xF hu an ae,?_,h,Step.refl _ _ _⟩
  rw[if_neg (by omega)]
  simp only[Option.map_some,oQ,Nat.add_assoc]
  refine .slice ai (by omega) (by omega) (by omega) (fun ax=>by have:=nB ax;omega) fun bt=>?_
  have zh:k.J=J:=by
   have np:=h.eL b k X ai aR
   cases np with
   | own rS ie ad S0 aU cj ax C2 ao=>
    simp only[bA.elem?,Option.some.injEq]at he
    subst he
    simp only[bn,ad,Option.map_some,Option.some.injEq]at an
    omega
   | ro ad S0 ao c0=>
    simp only[bA.elem?,Option.some.injEq]at he
    subst he
    simp only[bn,ad,Option.map_some,Option.some.injEq]at an
    omega
   | dead=>simp[bA.elem?]at he
  have:=cj bt
  rw[zh]at this⊢
  have bp:l*J+(dm-l)*J=dm*J:=by rw[<-Nat.add_mul];congr 1;omega
  omega
end
end
section
variable {P:Program} {base:Nat} {ah:ba} {H:ab} {w:World} {aI ct:Operand->Value} {bX ad:Option Operand}
theorem OU{t e:TypeId}{J b i len cap:Nat}{eh:Value}(h:b8 P base ah H w)(hu:P.underlying t=some (.slice e))(an:bn P e=some J)(I:bf ah (.slice (some ⟨b,i,none⟩) len cap) eh)(qm:0<cap)
  (ie:∀x,bX=some x->bf ah (aI x) (ct x))(ib:∀x,ad=some x->bf ah (aI x) (ct x))(ar:dN aI bX=some cap)(eu:fo aI len ad=some cap):
  fw P base ah H w (Instr.sliceAt t eh (bX.map ct) (ad.map ct) none) (.slice (some ⟨b,i,none⟩) 0 0) H:=by
 cases I with
 | void=>omega
 | empty=>omega
 | slice ai ag hle fE nB cj=>
  rename_i k dm
  have ae:=EK (P:=P) (cap:=dm) ie ib ar eu (Nat.le_refl _) fE w
  have mq:b≠0:=by have:=(h.ez b k ai).1;omega
  refine⟨ah,_,w,xF hu an ae,?_,h,Step.refl _ _ _⟩
  rw[Nat.sub_self]
  by_cases hm:dm=cap
  ·rw[if_pos hm];exact .empty mq _ _
  ·rw[if_neg hm];exact .empty mq _ _
theorem OV{t e:TypeId}{J:Nat}{a:Option Addr}{eh:Value}(h:b8 P base ah H w)(hu:P.underlying t=some (.slice e))(an:bn P e=some J)(I:bf ah (.slice a 0 0) eh)
  (ie:∀x,bX=some x->bf ah (aI x) (ct x))(ib:∀x,ad=some x->bf ah (aI x) (ct x))(ar:dN aI bX=some 0)(eu:fo aI 0 ad=some 0):
  fw P base ah H w (Instr.sliceAt t eh (bX.map ct) (ad.map ct) none) (.slice a 0 0) H:=by
 have key:∀(ej:Option Addr) (c:Nat),(Instr.sliceAt t (.slice ej 0 c) (bX.map ct) (ad.map ct) none).run P w= .ok (.slice ej 0 c) w:=fun ej c=>by
  rw[xF hu an (EK (P:=P) (cap:=c) ie ib ar eu (Nat.le_refl _) (Nat.zero_le _) w)]
  congr 2
  split
  ·rfl
  ·cases ej with
   | none=>rfl
   | some rp=>simp[Addr.add]
 obtain⟨ej,dL,rfl,-⟩:=I.pI
 exact⟨ah,_,w,key _ _,I,h,Step.refl _ _ _⟩
theorem OT{t e:TypeId}{J len cap l:Nat}{a:Addr}{eh:Value}{bX ad e2:Operand}(h:b8 P base ah H w)(hu:P.underlying t=some (.slice e))(an:bn P e=some J)(I:bf ah (.slice (some a) len cap) eh)
  (ie:bf ah (aI bX) (ct bX))(ib:bf ah (aI ad) (ct ad))(wM:bf ah (aI e2) (ct e2))(ar:dN aI (some bX)=some l)(eu:dN aI (some ad)=some l)(hm:dN aI (some e2)=some l)(aD:l<=cap):
  fw P base ah H w (Instr.sliceAt t eh (some (ct bX)) (some (ct ad)) (some (ct e2))) (.slice (some ⟨0,0,none⟩) 0 0) H:=by
 obtain⟨ej,dL,rfl,-,-,bD,b2⟩:=I.pI
 cases ej with
 | none=>simp at b2
 | some rp=>
  refine⟨ah,_,w,xF hu an (L_ (P:=P) (cap:=dL) (len:=len) ie ib wM ar eu hm (Nat.le_refl _) (Nat.le_refl _) (Nat.le_trans aD bD) w),?_,h,Step.refl _ _ _⟩
  rw[if_pos rfl,Nat.sub_self]
  exact .void 0 rp
theorem OS{t e:TypeId}{J:Nat}{eh:Value}{bX ad e2:Operand}(h:b8 P base ah H w)(hu:P.underlying t=some (.slice e))(an:bn P e=some J)(I:bf ah (.slice none 0 0) eh)
  (ie:bf ah (aI bX) (ct bX))(ib:bf ah (aI ad) (ct ad))(wM:bf ah (aI e2) (ct e2))(ar:dN aI (some bX)=some 0)(eu:dN aI (some ad)=some 0)(hm:dN aI (some e2)=some 0):
  fw P base ah H w (Instr.sliceAt t eh (some (ct bX)) (some (ct ad)) (some (ct e2))) (.slice none 0 0) H:=by
 cases I with
 | qP=>
  refine⟨ah,_,w,xF hu an (L_ (P:=P) (cap:=0) (len:=0) ie ib wM ar eu hm (Nat.le_refl _) (Nat.le_refl _) (Nat.le_refl _) w),?_,h,Step.refl _ _ _⟩
  exact .qP
theorem fw.Nf{s:Sem Value}(h:b8 P base ah H w){x:Obj}(aj:s.run P w= .ok (.slice (some ⟨w.heap.size,0,none⟩) 0 0) (w.alloc x)):fw P base ah H w s (.slice (some ⟨0,0,none⟩) 0 0) H:=
 ⟨ah,_,_,aj,.void 0 _,(h.KS x).1,(h.KS x).2⟩
theorem fw.Ac{s:Sem Value}{e:TypeId}{J len cap dm:Nat}{cs:List Value}{cur:Array Value}{dZ:Nat×Nat}{l:Bool}(h:b8 P base ah H w)(an:bn P e=some J)
  {dP:World}(pn:dP.heap=w.heap)(r4:dP.os=w.os)(S8:dP.tape=w.tape)(Dk:dP.output=w.output)
  (aj:s.run P w= .ok (.slice (some ⟨w.heap.size,0,none⟩) len dm) (dP.alloc (.cells cur e dZ)))(ax:lB dZ cur.size)(bq:cs.length<=cur.size)(ao:∀(i:Nat) (v:Value),cs[i]?=some v->∃au,cur[i]?=some au/\bf ah v au)
  (ag:0<cap)(hle:len<=cap)(fE:cap<=dm)(I:l=false->dm=cap)(cj:l=true->dm*J<=cur.size):fw P base ah H w s (.slice (some ⟨H.length,0,none⟩) len cap) (H++[.own e l cs]):=by
 have Dv:b8 P base ah H dP:=h.heap pn
 have cS:Step ah H w ah H dP:=⟨fun _ _ h=>h,fun _ _ h=> .inl h,Nat.le_refl _,fun b k ae aK=> .inr ⟨b,k,ae,aK,rfl⟩,r4,S8,Dk,by rw[pn];exact Nat.le_refl _,fun g _ _=>by rw[pn]⟩
 obtain⟨o,aa⟩:=Dv.Bu (cs:=cs) (cur:=cur) (dZ:=dZ) an l ax bq ao
 refine⟨_,_,_,aj,?_,o,cS.trans aa⟩
 have:=bf.slice (ah:=ah.put H.length ⟨dP.heap.size,0,cur.size,J,l⟩) (b:=H.length) (i:=0) (k:=⟨dP.heap.size,0,cur.size,J,l⟩) (len:=len) (cap:=cap) (dm:=dm) (ba.mR _ _ _) ag hle fE I
  (fun bt=>by have:=cj bt;simp only;omega)
 simp only[pn]at this⊢
 exact this
def made(z:Value)(n:Nat):List Value:=(List.range n).map fun i=>z.cells[i % z.cells.size]!
theorem Lb(z:Value)(n:Nat):(Array.range n).map (fun i=>z.cells[i % z.cells.size]!)=(made z n).toArray:=by
 apply Array.ext'
 simp[made]
theorem La{z:Value}(aP:flat z=true)(hP:0<z.cells.size)(n:Nat):∀(i:Nat) (v:Value),(made z n)[i]?=some v->∃au,(made z n).toArray[i]?=some au/\bf ah v au:=fun i v ao=>by
 refine⟨v,by simpa using ao,?_⟩
 simp only[made,List.getElem?_map,Option.map_eq_some_iff]at ao
 obtain⟨j,-,rfl⟩:=ao
 have a3:j % z.cells.size<z.cells.size:=Nat.mod_lt _ hP
 have e:z.cells[j % z.cells.size]! =z.cells[j % z.cells.size]:=by simp[a3]
 rw[e]
 exact(A_ aP).2 _ _ _ (Array.getElem?_eq_getElem a3) (Array.getElem?_eq_getElem a3)
theorem LZ(f:Nat->Value):(Array.range 0).map f= #[]:=by apply Array.ext';simp
theorem wrap_small{n:Nat}(h:n<=281474976710656):IntKind.i64.wrap (n:Int)=n:=by
 have:=IntWalk.i64_in (n:Int) (by omega)
 exact this
theorem OP{t e:TypeId}{J bs l c:Nat}{eo cB:IntKind}{z:Value}(h:b8 P base ah H w)(hu:P.underlying t=some (.slice e))(an:bn P e=some J)(ae:bytes? P e=some bs)(aP:dv P e=some z)(dt:flat z=true)(cW:z.cells.size=J)
  (c0:0<J)(dH:0<bs)(lO:l<=c)(ag:0<c)(bq:bs*c<=281474976710656):fw P base ah H w (Instr.makeSlice t (.int eo l) (.int cB c)) (.slice (some ⟨H.length,0,none⟩) l c) (H++[.own e false (made z (c*J))]):=by
 have ld:c<=281474976710656:=Nat.le_trans (Nat.le_mul_of_pos_left _ dH) bq
 refine fw.Ac (dP:=w) (cur:=(made z (c*J)).toArray) (dZ:=(0,0)) (l:=false) (cap:=c) (dm:=c) h an rfl rfl rfl rfl ?_ (lB.zero _) (by simp) (La dt (by omega) _) ag lO (Nat.le_refl _) (fun _=>rfl) (fun h=>by cases h)
 have lK:(typeInfo e).run P w=(match P.info? e with | some i=> .ok i w | none=> .halt (.stuck "no such type") w):=by
  unfold typeInfo;simp;cases P.info? e<;>rfl
 obtain⟨inf,ad,y6⟩:=Option.map_eq_some_iff.1 (show(P.info? e).map (·.bytes)=some bs from ae)
 have aE:¬(c*J=0):=by have:=Nat.mul_pos ag c0;omega
 have Jn:¬(281474976710656:Int)<(bs:Int)*(c:Int):=by
  have:((bs*c:Nat):Int)<=281474976710656:=by omega
  rw[Int.natCast_mul]at this
  omega
 have R5:¬(c:Int)<(l:Int):=by omega
 have Dj:¬(c:Int)<0:=by omega
 have Sk:¬(l:Int)<0:=by omega
 simp[Instr.makeSlice,run_underlying hu,asInt,asIntOf,lK,ad,y6,wrap_small (Nat.le_trans lO ld),wrap_small ld,Jn,R5,Dj,Sk,j2 an,aE,Ay aP,newRow]
 rw[show c*J=c*J from rfl,<-Lb]
theorem OQ{t e:TypeId}{J bs:Nat}{eo cB:IntKind}(h:b8 P base ah H w)(hu:P.underlying t=some (.slice e))(an:bn P e=some J)(ae:bytes? P e=some bs):
  fw P base ah H w (Instr.makeSlice t (.int eo 0) (.int cB 0)) (.slice (some ⟨0,0,none⟩) 0 0) H:=by
 obtain⟨inf,ad,y6⟩:=Option.map_eq_some_iff.1 (show(P.info? e).map (·.bytes)=some bs from ae)
 have lK:(typeInfo e).run P w= .ok inf w:=by unfold typeInfo;simp[ad]
 refine fw.Nf (x:= .cells #[] e) h ?_
 have dP:IntKind.i64.wrap 0=0:=by decide
 simp[Instr.makeSlice,run_underlying hu,asInt,asIntOf,lK,dP,j2 an,newRow]
 rw[LZ]
theorem OI{t e:TypeId}{J len:Nat}{aZ:Array (Nat×Operand)}{z:Value}{out:Array Value}(h:b8 P base ah H w)(hu:P.underlying t=some (.slice e))(an:bn P e=some J)(aP:dv P e=some z)(dt:flat z=true)(cW:z.cells.size=J)
  (c0:0<J)(ar:0<len)(bq:len*J<=16777216)(aT:∀p∈aZ,bf ah (aI p.2) (ct p.2))(ax:Instr.fill (fun i=>some (i*J,J)) (made z (len*J)).toArray (aZ.toList.map fun p=>(p.1,aI p.2))=some out)(r4:out.size=len*J):
  fw P base ah H w (Instr.buildSlice t len (aZ.map fun p=>(p.1,ct p.2))) (.slice (some ⟨H.length,0,none⟩) len len) (H++[.own e false out.toList]):=by
 have qz:∀p∈aZ.toList,bf ah (aI p.2) (ct p.2):=fun p hm=>aT p (by simpa using hm)
 have hm:eQ ah (made z (len*J)).toArray (made z (len*J)).toArray:=⟨rfl,fun i v au ao dc=>by
  obtain⟨u,o,aa⟩:=La (ah:=ah) dt (by omega) (len*J) i v (by simpa using ao)
  rw[dc]at o
  cases o
  exact aa⟩
 obtain⟨gW,o,aa⟩:=yG (ct:=ct) _ aZ.toList _ _ out qz hm ax
 refine fw.Ac (dP:=w) (cur:=gW) (dZ:=(0,0)) (l:=false) (cap:=len) (dm:=len) h an rfl rfl rfl rfl ?_ (lB.zero _) (by simp[aa.1]) (cz.ofArray aa) ar (Nat.le_refl _) (Nat.le_refl _) (fun _=>rfl) (fun h=>by cases h)
 have aE:¬(len*J=0):=by have:=Nat.mul_pos ar c0;omega
 have Jn:¬(16777216<len*J):=by omega
 have dz:(aZ.map fun p=>(p.1,ct p.2)).toList=aZ.toList.map fun p=>(p.1,ct p.2):=by simp
 simp only[Instr.buildSlice,Sem.run_bind,run_underlying hu,Result.andThen_ok,j2 an]
 rw[if_neg (by omega),if_neg aE]
 simp only[Sem.run_bind,Ay aP,Result.andThen_ok,Sem.run_pure]
 rw[Lb,dz,o]
 simp[newRow]
theorem OJ{t e:TypeId}{J:Nat}(h:b8 P base ah H w)(hu:P.underlying t=some (.slice e))(an:bn P e=some J):fw P base ah H w (Instr.buildSlice t 0 #[]) (.slice (some ⟨0,0,none⟩) 0 0) H:=by
 refine fw.Nf (x:= .cells #[] e) h ?_
 simp[Instr.buildSlice,run_underlying hu,j2 an,newRow,Instr.fill]
 rw[LZ]
def fI(P:Program)(t:TypeId):Bool:=match P.underlying t with
 | some (.slice _) | some .string=>true
 | _=>false
theorem Mp{t:TypeId}(h:fI P t=true):(∃e,P.underlying t=some (.slice e))\/P.underlying t=some .string:=by
 unfold fI at h
 split at h
 ·rename_i e he;exact .inl ⟨e,he⟩
 ·rename_i he;exact .inr he
 ·cases h
theorem EJ{bL cN e ty:TypeId}{J:Nat}{a:Option Addr}{len cap n:Nat}{x:Value}{news:List Value}(hu:P.underlying bL=some (.slice e))(I:fI P cN=true)(an:bn P e=some J)
  (ar:(Builtin.lenOf x).run P w= .ok n w)(ax:(Builtin.firstCells J n x).run P w= .ok news.toArray w)(gE:len+n<=cap){a5:World}(cS:(match a with | some rp=>storeCells (rp.add (len*J)) news | none=>pure ()).run P w= .ok () a5):
  (Builtin.append_ #[bL,cN] ty #[.slice a len cap,x]).run P w= .ok (.slice a (len+n) cap) a5:=by
 rcases Mp I with⟨cI,aL⟩ | aL
 all_goals
  cases a with
  | none=>
   simp at cS
   subst cS
   simp[Builtin.append_,run_underlying hu,run_underlying aL,j2 an,ar,gE,ax]
  | some rp=>
   simp at cS
   simp[Builtin.append_,run_underlying hu,run_underlying aL,j2 an,ar,gE,ax,cS]
theorem L9{bL cN e ty:TypeId}{J bs:Nat}{z:Value}{a:Option Addr}{len cap n:Nat}{x:Value}{sy news:List Value}(hu:P.underlying bL=some (.slice e))(I:fI P cN=true)(an:bn P e=some J)(ae:bytes? P e=some bs)(aP:dv P e=some z)
  (ar:(Builtin.lenOf x).run P w= .ok n w)(ax:∀a5:World,a5.heap=w.heap->(Builtin.firstCells J n x).run P a5= .ok news.toArray a5)(g1:∀a5:World,a5.heap=w.heap->(Builtin.firstCells J len (.slice a len cap)).run P a5= .ok sy.toArray a5)
  (gE:cap<len+n)(bq:(len+n)*bs<=140737488355328)(dH:0<bs):
  (Builtin.append_ #[bL,cN] ty #[.slice a len cap,x]).run P w= .ok (.slice (some ⟨w.heap.size,0,none⟩) (len+n) (grownCap w (len+n) cap e)) (w.drew.alloc (.cells (sy.toArray++news.toArray++Builtin.zeroCells z.cells (grownCap w (len+n) cap e-(len+n))) e)):=by
 obtain⟨inf,ad,y6⟩:=Option.map_eq_some_iff.1 (show(P.info? e).map (·.bytes)=some bs from ae)
 have lK:∀a5:World,(typeInfo e).run P a5= .ok inf a5:=fun a5=>by unfold typeInfo;simp[ad]
 have aE:¬(len+n<=cap):=by omega
 have adC:len+n<=140737488355328:=Nat.le_trans (Nat.le_mul_of_pos_right _ dH) bq
 have ads:¬(9223372036854775807<((len:Int)+(n:Int))):=by omega
 have aH:¬(bs=0):=by omega
 have qa:¬(281474976710656<Builtin.nextslicecap (len+n) cap*bs):=by have:=growslice_fits gE bq;omega
 have wA:=ax w.drew rfl
 have RG:=g1 w.drew rfl
 rcases Mp I with⟨cI,aL⟩ | aL
 all_goals simp[Builtin.append_,run_underlying hu,run_underlying aL,j2 an,ar,aE,lK,y6,aH,qa,Question.forced,wA,RG,Ay aP,newRow,grownCap]
 all_goals
  congr 2
  apply Array.ext'
  simp[List.append_assoc]
def nb(bL cN ty:TypeId)(s x:Value):Sem Value:=Builtin.append_ #[bL,cN] ty #[s,x]
theorem OC{bL cN e ty:TypeId}{J len cap m:Nat}{a:Option Addr}{x de eh:Value}(h:b8 P base ah H w)(hu:P.underlying bL=some (.slice e))(I:fI P cN=true)(an:bn P e=some J)(cV:Src H J x m 0 [])(hm:m=0)(jv:bf ah (.slice a len cap) de)(ih:bf ah x eh):
  fw P base ah H w (nb bL cN ty de eh) (.slice a len cap) H:=by
 subst hm
 obtain⟨o,-,hc,aa,aD⟩:=sD cV h ih
 have aE:hc=[]:=List.eq_nil_of_length_eq_zero (by simpa using aD.1.symm)
 subst aE
 obtain⟨ej,dL,rfl,hle,-⟩:=jv.pI
 refine⟨ah,_,w,EJ (a5:=w) hu I an o (aa w rfl) hle ?_,jv,h,Step.refl _ _ _⟩
 cases ej<;>rfl
theorem Nt(sy:List Value)(z:Value)(n:Nat):∀(i:Nat) (v:Value),sy[i]?=some v->(sy.toArray++Builtin.zeroCells z.cells n)[i]?=some v:=fun i v ao=>by
 have a3:=(cd.1 ao).1
 rw[Array.getElem?_append_left (by simpa using a3)]
 simpa using ao
theorem OG{bL cN e ty:TypeId}{J bs n:Nat}{z:Value}{a:Option Addr}{x de eh:Value}{news:List Value}(h:b8 P base ah H w)(hu:P.underlying bL=some (.slice e))(I:fI P cN=true)(an:bn P e=some J)(ae:bytes? P e=some bs)(aP:dv P e=some z)(cW:z.cells.size=J)
  (cV:Src H J x n n news)(aE:0<n)(dH:0<bs)(bq:n*bs<=140737488355328)(aF:a=none\/∃i,a=some ⟨0,i,none⟩)(jv:bf ah (.slice a 0 0) de)(ih:bf ah x eh):
  fw P base ah H w (nb bL cN ty de eh) (.slice (some ⟨H.length,0,none⟩) n n) (H++[.own e true news]):=by
 obtain⟨o,hlen,hc,aa,aD⟩:=sD cV h ih
 obtain⟨ej,rfl⟩:∃ej,de= .slice ej 0 0:=by
  rcases aF with rfl | ⟨i,rfl⟩
  ·cases jv;exact⟨_,rfl⟩
  ·cases jv with
   | void=>exact⟨_,rfl⟩
   | empty mq=>exact absurd rfl mq
   | slice ai ag=>omega
 have aj:=L9 (P:=P) (w:=w) (ty:=ty) (a:=ej) (len:=0) (cap:=0) (sy:=[]) hu I an ae aP o aa (fun a5 _=>by cases ej<;>simp[Builtin.firstCells,loadCells,loadCellsFrom]) (by omega) (by simpa using bq) dH
 simp only[Nat.zero_add,List.nil_append]at aj
 have jR:=grownCap_ge w n 0 e
 have dz:hc.length=n*J:=by rw[<-aD.1,hlen]
 refine fw.Ac (dP:=w.drew) (cap:=n) (l:=true) (dZ:=(0,0)) h an rfl rfl rfl rfl aj (lB.zero _) (by simp[size_zeroCells,dz,hlen]) (fun i v ao=>?_) aE (Nat.le_refl _) jR (fun h=>by cases h) (fun _=>?_)
 ·obtain⟨au,mE,jX⟩:=aD.get ao
  exact⟨au,by have:=Nt hc z (grownCap w n 0 e-n) i au mE;simpa using this,jX⟩
 ·simp[size_zeroCells,dz,cW,<-Nat.add_mul]
  rw[show n+(grownCap w n 0 e-n)=grownCap w n 0 e by omega]
  exact Nat.le_refl _
theorem OE{bL cN e ty:TypeId}{J b i len cap n:Nat}{l:Bool}{cs:List Value}{x de eh:Value}{news:List Value}(h:b8 P base ah H w)(hu:P.underlying bL=some (.slice e))(I:fI P cN=true)(an:bn P e=some J)
  (cV:Src H J x n n news)(gE:len+n<=cap)(ag:0<cap)(aR:H[b]?=some (.own e l cs))(bq:i+len*J+news.length<=cs.length)(g0:(news.all (·.oneCell'))=true)(jv:bf ah (.slice (some ⟨b,i,none⟩) len cap) de)(ih:bf ah x eh):
  fw P base ah H w (nb bL cN ty de eh) (.slice (some ⟨b,i,none⟩) (len+n) cap) (H.set b (.own e l (c3 cs (i+len*J) news))):=by
 obtain⟨o,hlen,hc,aa,aD⟩:=sD cV h ih
 cases jv with
 | void=>omega
 | empty=>omega
 | slice ai ql hle fE nB cj=>
  rename_i k dm
  obtain⟨a5,aj,s1,s2⟩:=Eu (i:=i+len*J) h ai aR aD bq (fun v ao=>by simpa using List.all_eq_true.1 g0 v ao)
  refine⟨ah,_,a5,EJ (a5:=a5) hu I an o (aa w rfl) (by omega) ?_,.slice ai ag gE fE nB cj,s1,s2⟩
  simp only[oQ]
  rw[<-aj]
  congr 3
  omega
theorem It{bL cN e ty:TypeId}{J bs b i len dm n:Nat}{z:Value}{X:bA}{cs:List Value}{k:h2}{eh:Value}{news hc:List Value}(h:b8 P base ah H w)(hu:P.underlying bL=some (.slice e))(I:fI P cN=true)(an:bn P e=some J)(ae:bytes? P e=some bs)(aP:dv P e=some z)(cW:z.cells.size=J)
  (dH:0<bs)(bq:(len+n)*bs<=140737488355328)(ai:ah b=some k)(aR:H[b]?=some X)(ag:X.cells?=some cs)(g1:i+len*J<=cs.length)(gE:dm<len+n)
  (o:(Builtin.lenOf eh).run P w= .ok n w)(hlen:news.length=n*J)(aa:∀a5:World,a5.heap=w.heap->(Builtin.firstCells J n eh).run P a5= .ok hc.toArray a5)(aD:cz ah news hc):
  fw P base ah H w (nb bL cN ty (.slice (some ⟨k.g,k.U+i,none⟩) len dm) eh) (.slice (some ⟨H.length,0,none⟩) (len+n) (len+n)) (H++[.own e true ((cs.drop i).take (len*J)++news)]):=by
 obtain⟨aA,sk,lL,mF⟩:=h.cells ai aR ag g1
 have aj:=L9 (P:=P) (w:=w) (ty:=ty) (a:=some ⟨k.g,k.U+i,none⟩) (len:=len) (cap:=dm) (sy:=aA) hu I an ae aP o aa (fun a5 hw=>by
  simp only[Builtin.firstCells]
  rw[<-sk]
  exact run_loadCells_list a5 _ aA fun j u hu=>by rw[BD (w:=w) (by rw[hw])];exact lL j u hu) gE bq dH
 have jR:=grownCap_ge w (len+n) dm e
 have dz:(aA++hc).length=(len+n)*J:=by rw[List.length_append,sk,<-aD.1,hlen,Nat.add_mul]
 have gu:((cs.drop i).take (len*J)++news).length=(len+n)*J:=by rw[List.length_append,mF.1,sk,hlen,Nat.add_mul]
 have Ci:=mF.append aD
 have Pd:aA.toArray++hc.toArray++Builtin.zeroCells z.cells (grownCap w (len+n) dm e-(len+n))=(aA++hc).toArray++Builtin.zeroCells z.cells (grownCap w (len+n) dm e-(len+n)):=by simp
 rw[Pd]at aj
 refine fw.Ac (dP:=w.drew) (cap:=len+n) (l:=true) (dZ:=(0,0)) h an rfl rfl rfl rfl aj (lB.zero _) (by rw[Array.size_append,List.size_toArray,dz,gu];omega) (fun j v ao=>?_) (by omega) (Nat.le_refl _) jR (fun h=>by cases h) (fun _=>?_)
 ·obtain⟨au,mE,jX⟩:=Ci.get ao
  exact⟨au,Nt (aA++hc) z _ j au mE,jX⟩
 ·rw[Array.size_append,List.size_toArray,dz,size_zeroCells,cW,<-Nat.add_mul,show len+n+(grownCap w (len+n) dm e-(len+n))=grownCap w (len+n) dm e by omega]
  exact Nat.le_refl _
theorem OD{bL cN e ty:TypeId}{J bs b i len cap n:Nat}{z:Value}{cs:List Value}{x de eh:Value}{news:List Value}(h:b8 P base ah H w)(hu:P.underlying bL=some (.slice e))(I:fI P cN=true)(an:bn P e=some J)(ae:bytes? P e=some bs)(aP:dv P e=some z)(cW:z.cells.size=J)
  (cV:Src H J x n n news)(aE:0<n)(dH:0<bs)(bq:(len+n)*bs<=140737488355328)(aR:H[b]?=some (.own e false cs))(g1:i+len*J<=cs.length)(gE:cap<len+n)(ag:0<cap)(jv:bf ah (.slice (some ⟨b,i,none⟩) len cap) de)(ih:bf ah x eh):
  fw P base ah H w (nb bL cN ty de eh) (.slice (some ⟨H.length,0,none⟩) (len+n) (len+n)) (H++[.own e true ((cs.drop i).take (len*J)++news)]):=by
 obtain⟨o,hlen,hc,aa,aD⟩:=sD cV h ih
 cases jv with
 | void=>omega
 | empty=>omega
 | slice ai ql hle fE nB cj=>
  rename_i k dm
  have ar:k.loose=false:=by cases h.eL b k _ ai aR;assumption
  have:=nB ar
  exact It h hu I an ae aP cW dH bq ai aR rfl g1 (by omega) o hlen aa aD
theorem OM{s:Sem Value}{v:Value}{b:Nat}{e:TypeId}{l:Bool}{cs:List Value}{X:bA}(h:b8 P base ah H w)(aR:H[b]?=some (.own e l cs))(aL:fw P base ah H w s v (H++[X])):fw P base ah H w s v (H.set b .dead++[X]):=by
 obtain⟨bm,au,a5,aS,aM,bh,b0⟩:=aL
 have cM:b<H.length:=(cd.1 aR).1
 obtain⟨iG,ll⟩:=bh.kill b ⟨e,l,cs,by rw[vH cM];exact aR⟩
 have Pq:(H++[X]).set b .dead=H.set b .dead++[X]:=by rw[List.set_append_left _ _ cM]
 rw[Pq]at iG ll
 exact⟨bm,au,a5,aS,aM,iG,b0.trans ll⟩
theorem OF{bL cN e ty:TypeId}{J bs b i len cap n:Nat}{z:Value}{cs:List Value}{x de eh:Value}{news:List Value}(h:b8 P base ah H w)(hu:P.underlying bL=some (.slice e))(I:fI P cN=true)(an:bn P e=some J)(ae:bytes? P e=some bs)(aP:dv P e=some z)(cW:z.cells.size=J)
  (cV:Src H J x n n news)(aE:0<n)(dH:0<bs)(bq:(len+n)*bs<=140737488355328)(aR:H[b]?=some (.own e true cs))(g1:i+len*J<=cs.length)(gE:cap<len+n)(ag:0<cap)(g0:(news.all (·.oneCell'))=true)
  (jv:bf ah (.slice (some ⟨b,i,none⟩) len cap) de)(ih:bf ah x eh):
  fw P base ah H w (nb bL cN ty de eh) (.slice (some ⟨H.length,0,none⟩) (len+n) (len+n)) (H.set b .dead++[.own e true ((cs.drop i).take (len*J)++news)]):=by
 obtain⟨o,hlen,hc,aa,aD⟩:=sD cV h ih
 cases jv with
 | void=>omega
 | empty=>omega
 | slice ai ql hle fE nB cj=>
  rename_i k dm
  have np:=h.eL b k _ ai aR
  cases np with
  | own rS ie ad c0 aU Qi ax C2 ao=>
  rename_i cur dZ inf
  have zh:k.J=J:=by simp only[bn,ad,Option.map_some,Option.some.injEq]at an;omega
  have Qh:=cj ie
  rw[zh]at Qh
  by_cases eT:len+n<=dm
  ·
   have hmul:len*J+n*J<=dm*J:=by rw[<-Nat.add_mul];exact Nat.mul_le_mul_right _ eT
   have Dc:hc.length=n*J:=by rw[<-aD.1,hlen]
   have wP:∀v∈hc,v.oneCell'=true:=fun au dc=>by
    obtain⟨j,aQ⟩:=List.getElem?_of_mem dc
    have wI:j<news.length:=by rw[aD.1];exact(cd.1 aQ).1
    rw[(aD.2 j _ _ (bx wI) aQ).Lx]
    simpa using List.all_eq_true.1 g0 _ (List.getElem_mem wI)
   have gF:=EL (P:=P) k.g (k.U+i+len*J) e dZ hc 0 cur w aU (Qi▸ax) (by omega) wP
   simp only[Nat.add_zero]at gF
   have gu:((cs.drop i).take (len*J)).length=len*J:=by simp;omega
   have JO:=h.Ef (i:=i) (c2:=true) (en:=(cs.drop i).take (len*J)++news) (k3:=(c3 cur.toList (k.U+i+len*J) hc).toArray) (dZ:=dZ) ai aR ⟨cur,aU,by rw[List.size_toArray,mU (by simp;omega)];simp⟩
    (by rw[List.size_toArray,mU (by simp;omega),List.length_append,gu,hlen];simp;omega) (fun j v aQ=>by
     have bp:(c3 cur.toList (k.U+i+len*J) hc).toArray[k.U+i+j]?=(c3 cur.toList (k.U+i+len*J) hc)[k.U+i+j]?:=by simp
     rw[bp,q2 (by simp;omega)]
     by_cases fO:j<len*J
     ·rw[if_neg (by omega)]
      rw[List.getElem?_append_left (by omega),List.getElem?_take_of_lt fO,List.getElem?_drop]at aQ
      obtain⟨au,aS,aM⟩:=ao (i+j) v aQ
      exact⟨au,by simpa[Nat.add_assoc]using aS,aM⟩
     ·rw[List.getElem?_append_right (by omega),gu]at aQ
      have nw:j-len*J<news.length:=(cd.1 aQ).1
      rw[if_pos (by omega),show k.U+i+j-(k.U+i+len*J)=j-len*J by omega]
      exact aD.get aQ)
   refine⟨_,_,_,EJ hu I an o (aa w rfl) eT (by simp only[oQ];exact gF),?_,JO.1,JO.2⟩
   have:=bf.slice (ah:=ah.put H.length ⟨k.g,k.U+i,k.N,k.J,true⟩) (b:=H.length) (i:=0) (k:=⟨k.g,k.U+i,k.N,k.J,true⟩) (len:=len+n) (cap:=len+n) (dm:=dm) (ba.mR _ _ _) (by omega) (Nat.le_refl _) eT (fun h=>by cases h)
    (fun _=>by simp only;rw[zh];omega)
   simpa using this
  ·
   have wD:=It (bL:=bL) (cN:=cN) (ty:=ty) (bs:=bs) (z:=z) (eh:=eh) (len:=len) (n:=n) (i:=i) (dm:=dm) h hu I an ae aP cW dH bq ai aR rfl g1 (by omega) o hlen aa aD
   exact OM h aR wD
theorem OK{hH bL e ty:TypeId}{J b i kC oU m n:Nat}{l:Bool}{cs:List Value}{x fc eh:Value}{news:List Value}(h:b8 P base ah H w)(hu:P.underlying hH=some (.slice e))(an:bn P e=some J)(cV:Src H J x m n news)(aE:n=min m kC)(jU:0<n)
  (aR:H[b]?=some (.own e l cs))(bq:i+news.length<=cs.length)(g0:(news.all (·.oneCell'))=true)(w4:bf ah (.slice (some ⟨b,i,none⟩) kC oU) fc)(ih:bf ah x eh):
  fw P base ah H w (Builtin.copy_ #[hH,bL] ty #[fc,eh]) (.int .i64 n) (H.set b (.own e l (c3 cs i news))):=by
 obtain⟨o,hlen,hc,aa,aD⟩:=sD cV h ih
 obtain⟨k,dm,ai,rfl,-⟩:=w4.AI (by omega)
 obtain⟨a5,aj,s1,s2⟩:=Eu (i:=i) h ai aR aD bq (fun v ao=>by simpa using List.all_eq_true.1 g0 v ao)
 have g_:Nat.min m kC=n:=aE.symm
 exact⟨ah,.int .i64 n,a5,by simp[Builtin.copy_,run_underlying hu,o,g_,j2 an,aa w rfl,aj,goInt],.int _ _,s1,s2⟩
theorem OL{hH bL e ty:TypeId}{J kC oU m:Nat}{a:Option Addr}{x fc eh:Value}(h:b8 P base ah H w)(hu:P.underlying hH=some (.slice e))(an:bn P e=some J)(cV:Src H J x m 0 [])(aE:min m kC=0)(w4:bf ah (.slice a kC oU) fc)(ih:bf ah x eh):
  fw P base ah H w (Builtin.copy_ #[hH,bL] ty #[fc,eh]) (.int .i64 0) H:=by
 obtain⟨o,hlen,hc,aa,aD⟩:=sD cV h ih
 have Sm:hc=[]:=List.eq_nil_of_length_eq_zero (by simpa using aD.1.symm)
 subst Sm
 obtain⟨ej,dL,rfl,-⟩:=w4.pI
 have g_:Nat.min m kC=0:=aE
 refine⟨ah,.int .i64 0,w,?_,.int _ _,h,Step.refl _ _ _⟩
 cases ej<;>simp[Builtin.copy_,run_underlying hu,o,g_,j2 an,aa w rfl,goInt,storeCells]
end
section
variable {P:Program} {base:Nat} {ah:ba} {H:ab} {w:World}
theorem OY{src dst e:TypeId}{x eh:Value}{n:Nat}{xs:List Int}(h:b8 P base ah H w)(an:P.underlying src=some (.slice e))(he:P.underlying e=some (.int .u8))(aL:P.underlying dst=some .string)
  (lS:∃a len c,x= .slice a len c)(cV:Src H 1 x n n (xs.map (Value.int .u8)))(ih:bf ah x eh):fw P base ah H w (convert src dst eh) (.string (strOfNums xs)) H:=by
 obtain⟨a,len,c,rfl⟩:=lS
 generalize wN:xs.map (Value.int .u8)=news at cV
 cases cV with
 | u7=>
  have I:xs=[]:=by simpa using wN
  subst I
  obtain⟨ej,dL,rfl,-⟩:=ih.pI
  refine⟨ah,.string (strOfNums []),w,?_,.str _,h,Step.refl _ _ _⟩
  cases ej with
  | none=>rw[run_convert_bytes_nil w src e an he _ _ dst aL];rfl
  | some rp=>
   rw[run_convert_bytes_string w src dst e (some rp) 0 dL an he aL,run_bytesToString w _ 0 dL [] (by simp[loadCells,loadCellsFrom]),foldl_push_bytes]
   rfl
 | row I ag aE hm bq=>
  rename_i b i X cs
  obtain⟨k,dm,ai,rfl,-⟩:=ih.AI (by omega)
  obtain⟨aA,ar,lL,aj⟩:=h.cells ai I ag bq
  have hlen:xs.length=n:=by
   have:=congrArg List.length wN
   have aa:=aj.1
   simp only[List.length_map]at this
   omega
  refine⟨ah,.string (strOfNums xs),w,run_convert_bytes_arg w src e an he _ _ n dm xs hlen (fun j aQ=>?_) dst aL,.str _,h,Step.refl _ _ _⟩
  have lh:((cs.drop i).take (n*1))[j]?=some (.int .u8 (xs.getD j 0)):=by
   rw[<-wN]
   simp[bx (show j<xs.length by omega),List.getD_eq_getElem?_getD]
  obtain⟨au,mE,jX⟩:=aj.get lh
  have:=lL j au mE
  rw[oQ]at this
  rw[this,jX.nC]
end
inductive eR (P:Program) (aI:Operand->Value) (H:ab) (U:Oper):Value->ab->Prop
 | sx {v:Value} (an:∀cs b,U.op≠ .select cs b) (ax:(U.op.operands.all fun x=>flat (aI x))=true) (ao:flat v=true) (h:dk P (execOp aI U)=some (.value v)):eR P aI H U v H
 | alloc {e:TypeId} {z:Value} {n:Nat} (h:U.op= .alloc e) (aP:dv P e=some z) (dt:flat z=true) (an:bn P e=some n):eR P aI H U (.pointer (some ⟨H.length,0,none⟩)) (H++[.own e false z.cells.toList])
 | box {e:TypeId} {x:Operand} {n:Nat} (h:U.op= .box e x) (an:bn P e=some n):eR P aI H U (.pointer (some ⟨H.length,0,none⟩)) (H++[.own e false (aI x).cells.toList])
 | xl {t:TypeId} {x:Operand} {b i:Nat} {X:bA} {cs:List Value} {v:Value} (h:U.op= .load t x) (aF:c_ P t=some false) (I:aI x= .pointer (some ⟨b,i,none⟩)) (aR:H[b]?=some X) (ag:X.cells?=some cs) (ao:cs[i]?=some v):eR P aI H U v H
 | xm {t:TypeId} {x:Operand} {b i n:Nat} {X:bA} {cs:List Value} (h:U.op= .load t x) (aF:c_ P t=some true) (an:bn P t=some n) (I:aI x= .pointer (some ⟨b,i,none⟩)) (aR:H[b]?=some X) (ag:X.cells?=some cs) (bq:i+n<=cs.length):
   eR P aI H U (.agg ((cs.drop i).take n).toArray) H
 | store {t:TypeId} {x y:Operand} {b i:Nat} {e:TypeId} {l:Bool} {cs:List Value} (h:U.op= .store t x y) (an:bn P t=some (aI y).cells.size) (I:aI x= .pointer (some ⟨b,i,none⟩)) (aR:H[b]?=some (.own e l cs)) (bq:i+(aI y).cells.size<=cs.length)
   (o:((aI y).cells.toList.all (·.oneCell'))=true):eR P aI H U undef (H.set b (.own e l (c3 cs i (aI y).cells.toList)))
 | slice {t e:TypeId} {x:Operand} {bX ad:Option Operand} {J b i len cap l cR:Nat} {X:bA} (h:U.op= .slice t x bX ad none) (hu:P.underlying t=some (.slice e)) (an:bn P e=some J) (I:aI x= .slice (some ⟨b,i,none⟩) len cap) (aR:H[b]?=some X) (he:X.elem?=some e)
   (ar:dN aI bX=some l) (eu:fo aI len ad=some cR) (o:l<=cR) (aa:cR<=cap) (a3:l<cap):eR P aI H U (.slice (some ⟨b,i+l*J,none⟩) (cR-l) (cap-l)) H
 | xO {t e:TypeId} {x:Operand} {bX ad:Option Operand} {J b i len cap:Nat} (h:U.op= .slice t x bX ad none) (hu:P.underlying t=some (.slice e)) (an:bn P e=some J) (I:aI x= .slice (some ⟨b,i,none⟩) len cap) (qm:0<cap)
   (ar:dN aI bX=some cap) (eu:fo aI len ad=some cap):eR P aI H U (.slice (some ⟨b,i,none⟩) 0 0) H
 | xP {t e:TypeId} {x:Operand} {bX ad:Option Operand} {J:Nat} {a:Option Addr} (h:U.op= .slice t x bX ad none) (hu:P.underlying t=some (.slice e)) (an:bn P e=some J) (I:aI x= .slice a 0 0)
   (ar:dN aI bX=some 0) (eu:fo aI 0 ad=some 0):eR P aI H U (.slice a 0 0) H
 | AH {t e:TypeId} {x bX ad e2:Operand} {J len cap l:Nat} {a:Addr} (h:U.op= .slice t x (some bX) (some ad) (some e2)) (hu:P.underlying t=some (.slice e)) (an:bn P e=some J) (I:aI x= .slice (some a) len cap)
   (ar:dN aI (some bX)=some l) (eu:dN aI (some ad)=some l) (hm:dN aI (some e2)=some l) (aD:l<=cap):eR P aI H U (.slice (some ⟨0,0,none⟩) 0 0) H
 | AG {t e:TypeId} {x bX ad e2:Operand} {J:Nat} (h:U.op= .slice t x (some bX) (some ad) (some e2)) (hu:P.underlying t=some (.slice e)) (an:bn P e=some J) (I:aI x= .slice none 0 0)
   (ar:dN aI (some bX)=some 0) (eu:dN aI (some ad)=some 0) (hm:dN aI (some e2)=some 0):eR P aI H U (.slice none 0 0) H
 | make {t e:TypeId} {x y:Operand} {J bs l c:Nat} {eo cB:IntKind} {z:Value} (h:U.op= .makeSlice t x y) (hu:P.underlying t=some (.slice e)) (an:bn P e=some J) (ae:bytes? P e=some bs) (aP:dv P e=some z) (dt:flat z=true) (cW:z.cells.size=J)
   (I:aI x= .int eo (l:Int)) (aJ:aI y= .int cB (c:Int)) (c0:0<J) (dH:0<bs) (lO:l<=c) (ag:0<c) (bq:bs*c<=281474976710656):eR P aI H U (.slice (some ⟨H.length,0,none⟩) l c) (H++[.own e false (made z (c*J))])
 | uv {t e:TypeId} {x y:Operand} {J bs:Nat} {eo cB:IntKind} (h:U.op= .makeSlice t x y) (hu:P.underlying t=some (.slice e)) (an:bn P e=some J) (ae:bytes? P e=some bs) (I:aI x= .int eo 0) (aJ:aI y= .int cB 0):
   eR P aI H U (.slice (some ⟨0,0,none⟩) 0 0) H
 | build {t e:TypeId} {J len:Nat} {aZ:Array (Nat×Operand)} {z:Value} {out:Array Value} (h:U.op= .buildSlice t len aZ) (hu:P.underlying t=some (.slice e)) (an:bn P e=some J) (aP:dv P e=some z) (dt:flat z=true) (cW:z.cells.size=J)
   (c0:0<J) (ar:0<len) (bq:len*J<=16777216) (ax:Instr.fill (fun i=>some (i*J,J)) (made z (len*J)).toArray (aZ.toList.map fun p=>(p.1,aI p.2))=some out) (r4:out.size=len*J):
   eR P aI H U (.slice (some ⟨H.length,0,none⟩) len len) (H++[.own e false out.toList])
 | vu {t e:TypeId} {J:Nat} (h:U.op= .buildSlice t 0 #[]) (hu:P.underlying t=some (.slice e)) (an:bn P e=some J):eR P aI H U (.slice (some ⟨0,0,none⟩) 0 0) H
 | vm {bL cN e:TypeId} {s x:Operand} {J len cap:Nat} {a:Option Addr} (h:U.op= .call {callee:= .builtin .append,args:= #[s,x],argTypes:= #[bL,cN]}) (hu:P.underlying bL=some (.slice e)) (I:fI P cN=true) (an:bn P e=some J) (cV:Src H J (aI x) 0 0 [])
   (ao:aI s= .slice a len cap):eR P aI H U (.slice a len cap) H
 | vq {bL cN e:TypeId} {s x:Operand} {J bs n:Nat} {z:Value} {a:Option Addr} {news:List Value} (h:U.op= .call {callee:= .builtin .append,args:= #[s,x],argTypes:= #[bL,cN]}) (hu:P.underlying bL=some (.slice e)) (I:fI P cN=true) (an:bn P e=some J)
   (ae:bytes? P e=some bs) (aP:dv P e=some z) (cW:z.cells.size=J) (cV:Src H J (aI x) n n news) (aE:0<n) (dH:0<bs) (bq:n*bs<=140737488355328) (aF:a=none\/∃i,a=some ⟨0,i,none⟩) (ao:aI s= .slice a 0 0):
   eR P aI H U (.slice (some ⟨H.length,0,none⟩) n n) (H++[.own e true news])
 | vo {bL cN e:TypeId} {s x:Operand} {J b i len cap n:Nat} {l:Bool} {cs:List Value} {news:List Value} (h:U.op= .call {callee:= .builtin .append,args:= #[s,x],argTypes:= #[bL,cN]}) (hu:P.underlying bL=some (.slice e)) (I:fI P cN=true) (an:bn P e=some J)
   (cV:Src H J (aI x) n n news) (gE:len+n<=cap) (ag:0<cap) (aR:H[b]?=some (.own e l cs)) (bq:i+len*J+news.length<=cs.length) (g0:(news.all (·.oneCell'))=true) (ao:aI s= .slice (some ⟨b,i,none⟩) len cap):
   eR P aI H U (.slice (some ⟨b,i,none⟩) (len+n) cap) (H.set b (.own e l (c3 cs (i+len*J) news)))
 | vn {bL cN e:TypeId} {s x:Operand} {J bs b i len cap n:Nat} {z:Value} {cs:List Value} {news:List Value} (h:U.op= .call {callee:= .builtin .append,args:= #[s,x],argTypes:= #[bL,cN]}) (hu:P.underlying bL=some (.slice e)) (I:fI P cN=true) (an:bn P e=some J)
   (ae:bytes? P e=some bs) (aP:dv P e=some z) (cW:z.cells.size=J) (cV:Src H J (aI x) n n news) (aE:0<n) (dH:0<bs) (bq:(len+n)*bs<=140737488355328) (aR:H[b]?=some (.own e false cs)) (g1:i+len*J<=cs.length) (gE:cap<len+n) (ag:0<cap)
   (ao:aI s= .slice (some ⟨b,i,none⟩) len cap):eR P aI H U (.slice (some ⟨H.length,0,none⟩) (len+n) (len+n)) (H++[.own e true ((cs.drop i).take (len*J)++news)])
 | vp {bL cN e:TypeId} {s x:Operand} {J bs b i len cap n:Nat} {z:Value} {cs:List Value} {news:List Value} (h:U.op= .call {callee:= .builtin .append,args:= #[s,x],argTypes:= #[bL,cN]}) (hu:P.underlying bL=some (.slice e)) (I:fI P cN=true) (an:bn P e=some J)
   (ae:bytes? P e=some bs) (aP:dv P e=some z) (cW:z.cells.size=J) (cV:Src H J (aI x) n n news) (aE:0<n) (dH:0<bs) (bq:(len+n)*bs<=140737488355328) (aR:H[b]?=some (.own e true cs)) (g1:i+len*J<=cs.length) (gE:cap<len+n) (ag:0<cap)
   (g0:(news.all (·.oneCell'))=true) (ao:aI s= .slice (some ⟨b,i,none⟩) len cap):eR P aI H U (.slice (some ⟨H.length,0,none⟩) (len+n) (len+n)) (H.set b .dead++[.own e true ((cs.drop i).take (len*J)++news)])
 | copy {hH bL e:TypeId} {d x:Operand} {J b i kC oU m n:Nat} {l:Bool} {cs:List Value} {news:List Value} (h:U.op= .call {callee:= .builtin .copy,args:= #[d,x],argTypes:= #[hH,bL]}) (hu:P.underlying hH=some (.slice e)) (an:bn P e=some J) (cV:Src H J (aI x) m n news)
   (aE:n=min m kC) (jU:0<n) (aR:H[b]?=some (.own e l cs)) (bq:i+news.length<=cs.length) (g0:(news.all (·.oneCell'))=true) (ao:aI d= .slice (some ⟨b,i,none⟩) kC oU):eR P aI H U (.int .i64 n) (H.set b (.own e l (c3 cs i news)))
 | vy {hH bL e:TypeId} {d x:Operand} {J kC oU m:Nat} {a:Option Addr} (h:U.op= .call {callee:= .builtin .copy,args:= #[d,x],argTypes:= #[hH,bL]}) (hu:P.underlying hH=some (.slice e)) (an:bn P e=some J) (cV:Src H J (aI x) m 0 []) (aE:min m kC=0)
   (ao:aI d= .slice a kC oU):eR P aI H U (.int .i64 0) H
 | str {src dst e:TypeId} {x:Operand} {n:Nat} {xs:List Int} (h:U.op= .convert src dst x) (an:P.underlying src=some (.slice e)) (he:P.underlying e=some (.int .u8)) (aL:P.underlying dst=some .string) (lS:∃a len c,aI x= .slice a len c)
   (cV:Src H 1 (aI x) n n (xs.map (Value.int .u8))):eR P aI H U (.string (strOfNums xs)) H
theorem Li{P:Program}{base:Nat}{ah:ba}{H aC:ab}{w:World}{aI ct:Operand->Value}{U:Oper}{v:Value}(h:eR P aI H U v aC)(bE:b8 P base ah H w)(c8:∀x∈U.op.operands,bf ah (aI x) (ct x)):
  ∃bm au a5,((execOp ct U).run P w= .ok (.value au) a5\/((execOp ct U).run P w= .ok .skip a5/\au=undef))/\bf bm v au/\b8 P base bm aC a5/\Step ah H w bm aC a5:=by
 have fin:∀{s:Sem Value} {v:Value} {aC:ab},fw P base ah H w s v aC->(∀au a5,s.run P w= .ok au a5->(execOp ct U).run P w= .ok (.value au) a5)->
   ∃bm au a5,((execOp ct U).run P w= .ok (.value au) a5\/((execOp ct U).run P w= .ok .skip a5/\au=undef))/\bf bm v au/\b8 P base bm aC a5/\Step ah H w bm aC a5:=by
  intro s v aC ⟨bm,au,a5,aS,aM,bh,b0⟩ aj
  exact⟨bm,au,a5,.inl (aj _ _ aS),aM,bh,b0⟩
 cases h with
 | sx an ax ao h=>
  have he:execOp aI U=execOp ct U:=execOp_congr U an fun x I=>(Ik (by simpa using Array.all_eq_true'.1 ax x I) (c8 x I)).symm
  exact⟨ah,v,w,.inl (qW _ _ (he▸h) w),tj ah ao,bE,Step.refl _ _ _⟩
 | alloc h aP dt an=>exact fin (OB bE aP dt an) fun au a5 aj=>by simp[execOp,h,aj]
 | box h an=>exact fin (OH bE (c8 _ (by simp[h,Op.operands])) an) fun au a5 aj=>by simp[execOp,h,aj]
 | xl h aF I aR ag ao=>exact fin (ON bE aF (I▸c8 _ (by simp[h,Op.operands])) aR ag ao) fun au a5 aj=>by simp[execOp,h,aj]
 | xm h aF an I aR ag bq=>exact fin (OO bE aF an (I▸c8 _ (by simp[h,Op.operands])) aR ag bq) fun au a5 aj=>by simp[execOp,h,aj]
 | store h an I aR bq o=>
  obtain⟨a5,aj,s1,s2⟩:=OX bE an (I▸c8 _ (by simp[h,Op.operands])) (c8 _ (by simp[h,Op.operands])) aR bq o
  exact⟨ah,undef,a5,.inr ⟨by simp[execOp,h,aj],rfl⟩,bf.undef ah,s1,s2⟩
 | slice h hu an I aR he ar eu o aa a3=>
  refine fin (OR bE hu an (I▸c8 _ (by simp[h,Op.operands])) aR he (fun y aJ=>c8 y ?_) (fun y aJ=>c8 y ?_) ar eu o aa a3) fun au a5 aj=>by simp[execOp,h,aj]
  ·simp[h,Op.operands,aJ]
  ·simp[h,Op.operands,aJ]
 | xO h hu an I qm ar eu=>
  refine fin (OU bE hu an (I▸c8 _ (by simp[h,Op.operands])) qm (fun y aJ=>c8 y ?_) (fun y aJ=>c8 y ?_) ar eu) fun au a5 aj=>by simp[execOp,h,aj]
  ·simp[h,Op.operands,aJ]
  ·simp[h,Op.operands,aJ]
 | xP h hu an I ar eu=>
  refine fin (OV bE hu an (I▸c8 _ (by simp[h,Op.operands])) (fun y aJ=>c8 y ?_) (fun y aJ=>c8 y ?_) ar eu) fun au a5 aj=>by simp[execOp,h,aj]
  ·simp[h,Op.operands,aJ]
  ·simp[h,Op.operands,aJ]
 | AH h hu an I ar eu hm aD=>exact fin (OT bE hu an (I▸c8 _ (by simp[h,Op.operands])) (c8 _ (by simp[h,Op.operands])) (c8 _ (by simp[h,Op.operands])) (c8 _ (by simp[h,Op.operands])) ar eu hm aD) fun au a5 aj=>by simp[execOp,h,aj]
 | AG h hu an I ar eu hm=>exact fin (OS bE hu an (I▸c8 _ (by simp[h,Op.operands])) (c8 _ (by simp[h,Op.operands])) (c8 _ (by simp[h,Op.operands])) (c8 _ (by simp[h,Op.operands])) ar eu hm) fun au a5 aj=>by simp[execOp,h,aj]
 | make h hu an ae aP dt cW I aJ c0 dH lO ag bq=>
  have bp:=(I▸c8 _ (by simp[h,Op.operands])).nC
  have bo:=(aJ▸c8 _ (by simp[h,Op.operands])).nC
  rename_i t e x y J bs l c eo cB z
  exact fin (OP (eo:=eo) (cB:=cB) bE hu an ae aP dt cW c0 dH lO ag bq) fun au a5 aj=>by simp[execOp,h,bp,bo,aj]
 | uv h hu an ae I aJ=>
  have bp:=(I▸c8 _ (by simp[h,Op.operands])).nC
  have bo:=(aJ▸c8 _ (by simp[h,Op.operands])).nC
  rename_i t e x y J bs eo cB
  exact fin (OQ (eo:=eo) (cB:=cB) bE hu an ae) fun au a5 aj=>by simp[execOp,h,bp,bo,aj]
 | build h hu an aP dt cW c0 ar bq ax r4=>exact fin (OI bE hu an aP dt cW c0 ar bq (fun p aT=>c8 p.2 (by simp[h,Op.operands];exact⟨p.1,by simpa using aT⟩)) ax r4) fun au a5 aj=>by simp[execOp,h,aj]
 | vu h hu an=>exact fin (OJ bE hu an) fun au a5 aj=>by simp[execOp,h,aj]
 | vm h hu I an cV ao=>exact fin (OC (ty:=U.type) bE hu I an cV rfl (ao▸c8 _ (by simp[h,Op.operands,Call.operands])) (c8 _ (by simp[h,Op.operands,Call.operands]))) fun au a5 aj=>by simp[nb]at aj;simp[execOp,h,resolve,invoke,builtin,aj]
 | vq h hu I an ae aP cW cV aE dH bq aF ao=>
  exact fin (OG (ty:=U.type) bE hu I an ae aP cW cV aE dH bq aF (ao▸c8 _ (by simp[h,Op.operands,Call.operands])) (c8 _ (by simp[h,Op.operands,Call.operands]))) fun au a5 aj=>by simp[nb]at aj;simp[execOp,h,resolve,invoke,builtin,aj]
 | vo h hu I an cV gE ag aR bq g0 ao=>
  exact fin (OE (ty:=U.type) bE hu I an cV gE ag aR bq g0 (ao▸c8 _ (by simp[h,Op.operands,Call.operands])) (c8 _ (by simp[h,Op.operands,Call.operands]))) fun au a5 aj=>by simp[nb]at aj;simp[execOp,h,resolve,invoke,builtin,aj]
 | vn h hu I an ae aP cW cV aE dH bq aR g1 gE ag ao=>
  exact fin (OD (ty:=U.type) bE hu I an ae aP cW cV aE dH bq aR g1 gE ag (ao▸c8 _ (by simp[h,Op.operands,Call.operands])) (c8 _ (by simp[h,Op.operands,Call.operands]))) fun au a5 aj=>by simp[nb]at aj;simp[execOp,h,resolve,invoke,builtin,aj]
 | vp h hu I an ae aP cW cV aE dH bq aR g1 gE ag g0 ao=>
  exact fin (OF (ty:=U.type) bE hu I an ae aP cW cV aE dH bq aR g1 gE ag g0 (ao▸c8 _ (by simp[h,Op.operands,Call.operands])) (c8 _ (by simp[h,Op.operands,Call.operands]))) fun au a5 aj=>by simp[nb]at aj;simp[execOp,h,resolve,invoke,builtin,aj]
 | copy h hu an cV aE jU aR bq g0 ao=>
  rename_i hH bL e d x J b i kC oU m n l cs news
  exact fin (OK (ty:=U.type) (bL:=bL) bE hu an cV aE jU aR bq g0 (ao▸c8 _ (by simp[h,Op.operands,Call.operands])) (c8 _ (by simp[h,Op.operands,Call.operands]))) fun au a5 aj=>by simp[execOp,h,resolve,invoke,builtin,aj]
 | vy h hu an cV aE ao=>
  rename_i hH bL e d x J kC oU m a
  exact fin (OL (ty:=U.type) (bL:=bL) bE hu an cV aE (ao▸c8 _ (by simp[h,Op.operands,Call.operands])) (c8 _ (by simp[h,Op.operands,Call.operands]))) fun au a5 aj=>by simp[execOp,h,resolve,invoke,builtin,aj]
 | str h an he aL lS cV=>exact fin (OY bE an he aL lS cV (c8 _ (by simp[h,Op.operands]))) fun au a5 aj=>by simp[execOp,h,aj]
def eW(t:List Value):Operand->Value
 | .tmp i=>t.getD i undef
 | .const v=>v
 | .global g=> .pointer (some ⟨0,g,some 0⟩)
 | .func f=> .func (.func f) #[] #[]
def mN:Operand->Bool
 | .const v=>flat v
 | _=>true
def eP(t:List Value)(dst:Option Tmp)(v:Value):List Value:=match dst with
 | some d=>t.set d v
 | none=>t
def gL(ops:Array Oper)(t:List Value)(j:Nat):Option Bool:=
 match((ops[j]?).bind (·.dst)).bind (t[·]?)with
 | some (.bool b)=>some b
 | _=>none
inductive dr where
 | normal
 | exit (id:Nat)
 | ret
 deriving DecidableEq
def dr.real:dr->Exit
 | .normal=> .normal
 | .exit id=> .exit id
 | .ret=> .ret
inductive lA (P:Program) (t:List Value) (H:ab):List ResultVar->List Value->Prop
 | nil:lA P t H [] []
 | tmp {i:Nat} {rs:List ResultVar} {aA:List Value} (an:lA P t H rs aA):lA P t H (.tmp i::rs) (t.getD i undef::aA)
 | yq {a:Nat} {ty:TypeId} {b i:Nat} {X:bA} {cs:List Value} {v:Value} {rs:List ResultVar} {aA:List Value} (aF:c_ P ty=some false) (I:t.getD a undef= .pointer (some ⟨b,i,none⟩)) (aR:H[b]?=some X) (ag:X.cells?=some cs) (ao:cs[i]?=some v)
   (an:lA P t H rs aA):lA P t H (.cell a ty::rs) (v::aA)
 | yr {a:Nat} {ty:TypeId} {b i n:Nat} {X:bA} {cs:List Value} {rs:List ResultVar} {aA:List Value} (aF:c_ P ty=some true) (aE:bn P ty=some n) (I:t.getD a undef= .pointer (some ⟨b,i,none⟩)) (aR:H[b]?=some X) (ag:X.cells?=some cs) (bq:i+n<=cs.length)
   (an:lA P t H rs aA):lA P t H (.cell a ty::rs) (.agg ((cs.drop i).take n).toArray::aA)
def bj(aA:List Value):Value:=match aA with
 | [v]=>v
 | _=> .tuple aA.toArray
def Ext(H aC:ab):Prop:=∃N,aC=H++N/\∀x∈N,∀e cs,x≠ .ro e cs
def Pf(ops:Array Oper):Bool:=ops.toList.zipIdx.all fun pD=>pD.1.after.all fun e=> !Region.binds .any e || decide (e.on<pD.2)
def VS(ops:Array Oper)(m:Array Nat):Bool:=ops.toList.zipIdx.all fun pD=>(List.range ops.size).all fun j=>
 !(m.getD pD.2 0).testBit j || pD.1.after.any fun e=>Region.binds .any e&&(e.on==j || (decide (e.on<pD.2)&&(m.getD e.on 0).testBit j))
def nW(m:Array Nat)(i j:Nat):Bool:=(m.getD j 0).testBit i
def XV(ops:Array Oper)(m:Array Nat):Bool:=ops.toList.zipIdx.all fun oH=>ops.toList.zipIdx.all fun e4=> !decide (e4.2<oH.2) || nW m e4.2 oH.2 ||
 ((match e4.1.dst with | some d=> !(oH.1.looksAt ops).contains d&&oH.1.dst !=some d | none=>true)&&(match oH.1.dst with | some d=> !(e4.1.looksAt ops).contains d | none=>true))
def gw(ops:Array Oper):Bool:=Pf ops&&VS ops (Region.before ops)&&XV ops (Region.before ops)
def er(P:Program)(ops:Array Oper)(i:Nat):Bool:=ops.toList.zipIdx.all fun oH=>bF P oH.1 || decide (oH.2=i) || nW (Region.before ops) (min i oH.2) (max i oH.2)
inductive oL where
 | code (c:Code) (t:List Value) (H:ab)
 | op (ops:Array Oper) (U:Oper) (t:List Value) (H:ab)
 | call (f:FuncId) (args:List Value) (H:ab)
inductive Out where
 | code (e:dr) (t:List Value) (H:ab)
 | val (v:Value) (H:ab)
def lX(H:ab)(b:Nat):Option bA->ab
 | some x=>H.set b x
 | none=>H
def nQ(P:Program)(ops:Array Oper)(U:Oper)(t:List Value)(H:ab)(v:Value)(H1:ab):Option (Nat×Option bA)->Prop
 | none=>(Region.wanted U (gL ops t)=false\/bF P U=true)/\H1=H
 | some (b,y)=>Region.wanted U (gL ops t)=true/\bF P U=false/\b<H.length/\H[b]?≠some .dead/\H1=lX H b y/\∀aC:ab,aC[b]?=H[b]?->eR P (eW t) aC U v (lX aC b y)
inductive dK (P:Program):oL->Out->Prop
 | skip {t:List Value} {H:ab}:dK P (.code .skip t H) (.code .normal t H)
 | ret {t:List Value} {H:ab}:dK P (.code .ret t H) (.code .ret t H)
 | exit {id:Nat} {t:List Value} {H:ab}:dK P (.code (.exit id) t H) (.code (.exit id) t H)
 | AA {a b:Code} {t t1:List Value} {H H1:ab} {e:dr} {t2:List Value} {aY:ab} (o:dK P (.code a t H) (.code .normal t1 H1)) (aa:dK P (.code b t1 H1) (.code e t2 aY)):dK P (.code (.seq a b) t H) (.code e t2 aY)
 | xJ {a b:Code} {t t1:List Value} {H H1:ab} {e:dr} (o:dK P (.code a t H) (.code e t1 H1)) (he:e≠ .normal):dK P (.code (.seq a b) t H) (.code e t1 H1)
 | cond {c:Operand} {x y:Code} {b:Bool} {t t1:List Value} {H H1:ab} {e:dr} (ag:eW t c= .bool b) (ai:mN c=true) (h:dK P (.code (if b then x else y) t H) (.code e t1 H1)):dK P (.code (.cond c x y) t H) (.code e t1 H1)
 | block {id:Nat} {c:Code} {t t1:List Value} {H H1:ab} {e:dr} (h:dK P (.code c t H) (.code e t1 H1)):dK P (.code (.block id c) t H) (.code (if e= .exit id then .normal else e) t1 H1)
 | z7 {c:Code} {t t1 t2:List Value} {H H1 aY:ab} {e:dr} (o:dK P (.code c t H) (.code .normal t1 H1)) (aa:dK P (.code (.loop c) t1 H1) (.code e t2 aY)):dK P (.code (.loop c) t H) (.code e t2 aY)
 | xn {c:Code} {t t1:List Value} {H H1:ab} {e:dr} (o:dK P (.code c t H) (.code e t1 H1)) (he:e≠ .normal):dK P (.code (.loop c) t H) (.code e t1 H1)
 | region {id:Nat} {ops:Array Oper} {draw:Bool} (T:Nat->List Value) (V:Nat->Value) (aW:Nat->ab) (ai:(ops.all fun U=>U.op.operands.all mN)=true)
   (h:∀(i:Nat) (U:Oper),ops[i]?=some U->dK P (.op ops U (T i) (aW i)) (.val (V i) (aW (i+1)))) (bc:∀(i:Nat) (U:Oper),ops[i]?=some U->T (i+1)=eP (T i) U.dst (V i))
   (aL:draw=true->gw ops=true/\∀(i:Nat) (U:Oper),ops[i]?=some U->bF P U=false->er P ops i=true\/Ext (aW i) (aW (i+1))):dK P (.code (.region id ops draw) (T 0) (aW 0)) (.code .normal (T ops.size) (aW ops.size))
 | Aw {id:Nat} {ops:Array Oper} {draw:Bool} (T:Nat->List Value) (V:Nat->Value) (aW:Nat->ab) (dW:Nat->Option (Nat×Option bA)) (ai:(ops.all fun U=>U.op.operands.all mN)=true)
   (h:∀(i:Nat) (U:Oper),ops[i]?=some U->dK P (.op ops U (T i) (aW i)) (.val (V i) (aW (i+1)))) (bc:∀(i:Nat) (U:Oper),ops[i]?=some U->T (i+1)=eP (T i) U.dst (V i)) (ef:gw ops=true)
   (ar:∀(i:Nat) (U:Oper),ops[i]?=some U->nQ P ops U (T i) (aW i) (V i) (aW (i+1)) (dW i)) (aL:∀(i j:Nat) (b:Nat) (x:bA) (y:Option bA),dW i=some (b,some x)->dW j=some (b,y)->i≠j->er P ops i=true\/er P ops j=true) (uc:∀j,ops.size<=j->dW j=none):
   dK P (.code (.region id ops draw) (T 0) (aW 0)) (.code .normal (T ops.size) (aW ops.size))
 | sz {ops:Array Oper} {U:Oper} {t:List Value} {H:ab} (hw:Region.wanted U (gL ops t)=false):dK P (.op ops U t H) (.val undef H)
 | uB {ops:Array Oper} {U:Oper} {t:List Value} {H:ab} {v:Value} (hw:Region.wanted U (gL ops t)=true) (a2:bF P U=true) (h:hi P (eW t) U v):dK P (.op ops U t H) (.val v H)
 | qS {ops:Array Oper} {U:Oper} {t:List Value} {H H1:ab} {v:Value} (hw:Region.wanted U (gL ops t)=true) (a2:bF P U=false) (h:eR P (eW t) H U v H1):dK P (.op ops U t H) (.val v H1)
 | uA {ops:Array Oper} {U:Oper} {t:List Value} {H H1:ab} {v:Value} {f:Operand} {args:Array Operand} {kA:Array TypeId} {g:FuncId} {first cap:Array Value} {fn:Func} (hw:Region.wanted U (gL ops t)=true) (a2:bF P U=false)
   (aK:U.op= .call {callee:= .value f,args:=args,argTypes:=kA}) (ax:eW t f= .func (.func g) first cap) (aU:P.funcs[g]?=some fn) (aE:(fn.name== "runtime.NumGoroutine")=false) (ae:fn.body.isSome=true)
   (h:dK P (.call g (first.toList++args.toList.map (eW t)++cap.toList) H) (.val v H1)):dK P (.op ops U t H) (.val v H1)
 | call {f:FuncId} {fn:Func} {c:Code} {args t1 aA:List Value} {H H1:ab} {e:dr} (ax:P.funcs[f]?=some fn) (ae:fn.body=some c) (h:dK P (.code c (args++List.replicate (fn.ntmps-args.length) undef) H) (.code e t1 H1))
   (he:e= .normal\/e= .ret) (aj:lA P t1 H1 fn.results.toList aA):dK P (.call f args H) (.val (bj aA) H1)
 | yp {f:FuncId} {args:List Value} {v:Value} {H H1:ab} {b:Nat} (h:dK P (.call f args H) (.val v H1)) (aK:hk H1 b):dK P (.call f args H) (.val v (H1.set b .dead))
def sY(P:Program)(base:Nat)(ops:Array Oper)(U:Oper)(t:List Value)(H:ab)(v:Value)(H1:ab):Prop:=
 (Region.wanted U (gL ops t)=false/\v=undef/\H1=H)\/
 (Region.wanted U (gL ops t)=true/\bF P U=true/\hi P (eW t) U v/\H1=H)\/
 (Region.wanted U (gL ops t)=true/\bF P U=false/\∀(ah:ba) (w:World) (a:Act),(∀x∈U.op.operands,bf ah (eW t x) (a.eval x))->b8 P base ah H w->∀(K:Act->World->Prop) (Q:Exit->Act->World->Prop),
  (∀bm au a5,bf bm v au->b8 P base bm H1 a5->Step ah H w bm H1 a5->K (a.put U.dst au) a5)->U.wp P a w K Q)
def Sound(P:Program)(base:Nat):oL->Out->Prop
 | .code c t H,.code e t1 H1=>∀(ah:ba) (w:World) (a:Act),cz ah t a.tmps.toList->a.defers=[]->b8 P base ah H w->∀(Q:Exit->Act->World->Prop),
   (∀bm b1 a5,cz bm t1 b1.tmps.toList->b1.defers=[]->b8 P base bm H1 a5->Step ah H w bm H1 a5->Q e.real b1 a5)->c.wp P Q a w
 | .op ops U t H,.val v H1=>sY P base ops U t H v H1
 | .call f args H,.val v H1=>∀(ah:ba) (w:World) (kz:Array Value),cz ah args kz.toList->b8 P base ah H w->
   Calls P f kz w fun e gn=>∃au bm,e= .returned au/\bf bm v au/\b8 P base bm H1 gn/\Step ah H w bm H1 gn
 | _,_=>True
theorem xL{ah:ba}{t:List Value}{a:Act}(h:cz ah t a.tmps.toList){x:Operand}(I:mN x=true):bf ah (eW t x) (a.eval x):=by
 cases x with
 | tmp i=>
  have:=h.getD i
  simpa[eW,Act.eval,Array.getD_eq_getD_getElem?,List.getD_eq_getElem?_getD]using this
 | const v=>exact tj ah I
 | global g=>exact .rF g
 | func f=>exact .func _ rfl (fun i v au h=>by simp at h) rfl (fun i v au h=>by simp at h)
theorem Wy{ah:ba}{t:List Value}{a:Act}(h:cz ah t a.tmps.toList)(dst:Option Tmp){v au:Value}(ao:bf ah v au):cz ah (eP t dst v) (a.put dst au).tmps.toList:=by
 cases dst with
 | none=>exact h
 | some d=>
  simp only[eP,Act.put,Array.toList_setIfInBounds]
  exact h.set d ao
theorem put_defers(a:Act)(dst:Option Tmp)(v:Value):(a.put dst v).defers=a.defers:=by cases dst<;>rfl
theorem bf.gR{ah:ba}{v au:Value}(h:bf ah v au):(match(some v:Option Value)with | some (.bool b)=>some b | _=>(none:Option Bool))=match(some au:Option Value)with | some (.bool b)=>some b | _=>none:=by
 cases h<;>rfl
theorem abu{ah:ba}{t:List Value}{a:Act}(h:cz ah t a.tmps.toList)(ops:Array Oper)(j:Nat):yielded ops a.tmps j=gL ops t j:=by
 unfold yielded gL
 cases aL:(ops[j]?).bind (·.dst)with
 | none=>rfl
 | some d=>
  simp only[Option.bind_some]
  by_cases a3:d<t.length
  ·have o:=bx a3
   obtain⟨au,aa,aD⟩:=h.get o
   have tl:a.tmps[d]?=some au:=by simpa using aa
   rw[o,tl]
   exact aD.gR.symm
  ·have aH:t.length<=d:=Nat.le_of_not_lt a3
   have o:t[d]?=none:=List.getElem?_eq_none aH
   have aa:a.tmps[d]?=none:=by
    have:=h.1
    rw[Array.getElem?_eq_none_iff]
    simp at this
    exact this▸aH
   rw[o,aa]
theorem Fo{U:Oper}{f g:Nat->Option Bool}(h:∀j b,U.guard=some (j,b)->f j=g j):Region.wanted U f=Region.wanted U g:=by
 unfold Region.wanted
 cases aU:U.guard with
 | none=>rfl
 | some KQ=>simp only[h KQ.1 KQ.2 aU]
theorem El{P:Program}{base:Nat}{ops:Array Oper}{T:Nat->List Value}{V:Nat->Value}{aW:Nat->ab}{Q:Exit->Act->World->Prop}(ai:(ops.all fun U=>U.op.operands.all mN)=true)
  (h:∀(i:Nat) (U:Oper),ops[i]?=some U->sY P base ops U (T i) (aW i) (V i) (aW (i+1)))(bc:∀(i:Nat) (U:Oper),ops[i]?=some U->T (i+1)=eP (T i) U.dst (V i)){hT:ba}{dP:World}
  (aG:∀bm b1 a5,cz bm (T ops.size) b1.tmps.toList->b1.defers=[]->b8 P base bm (aW ops.size) a5->Step hT (aW 0) dP bm (aW ops.size) a5->Q .normal b1 a5):∀(m k:Nat),k+m=ops.size->∀(ah:ba) (a:Act) (w:World),cz ah (T k) a.tmps.toList->a.defers=[]->
  b8 P base ah (aW k) w->Step hT (aW 0) dP ah (aW k) w->wpOps P ops Q (List.range' k m) a w
 | 0,k,iS,ah,a,w,cr,hr,bE,cS=>by
  have:k=ops.size:=by omega
  subst this
  exact aG ah a w cr hr bE cS
 | m+1,k,iS,ah,a,w,cr,hr,bE,cS=>by
  have a3:k<ops.size:=by omega
  have aK:ops[k]?=some ops[k]:=Array.getElem?_eq_getElem a3
  have bW:∀x∈ops[k].op.operands,bf ah (eW (T k) x) (a.eval x):=fun x I=>xL cr (by
   have o:=Array.all_eq_true.1 ai k a3
   simpa using Array.all_eq_true'.1 o x I)
  have hw:Region.wanted ops[k] (yielded ops a.tmps)=Region.wanted ops[k] (gL ops (T k)):=Fo fun j _ _=>abu cr ops j
  rw[List.range'_succ,wpOps_cons]
  unfold wpOp
  simp only[aK,hw]
  have next:∀bm au a5,bf bm (V k) au->b8 P base bm (aW (k+1)) a5->Step ah (aW k) w bm (aW (k+1)) a5->wpOps P ops Q (List.range' (k+1) m) (a.put ops[k].dst au) a5:=fun bm au a5 ao g8 lj=>by
   refine El ai h bc aG m (k+1) (by omega) bm _ a5 ?_ (by rw[put_defers];exact hr) g8 (cS.trans lj)
   rw[bc k _ aK]
   exact Wy (cr.ext lj.ext) _ ao
  rcases h k _ aK with⟨o,aa,aD⟩ | ⟨o,aa,aD,bD⟩ | ⟨o,aa,aD⟩
  ·rw[o]
   exact next ah undef w (aa▸bf.undef ah) (aD▸bE) (aD▸Step.refl _ _ _)
  ·rw[o]
   obtain⟨au,aj,ao⟩:=BX aD bW w
   refine .inl ?_
   unfold Oper.wp
   rw[aj]
   exact next ah au w ao (bD▸bE) (bD▸Step.refl _ _ _)
  ·rw[o]
   exact .inl (aD ah w a bW bE _ _ next)
end Go.b9
end
