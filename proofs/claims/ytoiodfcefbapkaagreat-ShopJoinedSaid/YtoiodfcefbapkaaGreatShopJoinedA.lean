/- Part of the proof of ShopJoined. -/
import Derived.Test.YtoiodfcefbapkaaGreatRows
import Derived.WalkKit
import Derived.ProofKit
import Derived.OpenShut
import Derived.ShutString
import Derived.ChangeOld
import Derived.Below
import Derived.Deep.Slices
import Derived.Orders
import Derived.Deep.LoopGhost
import Derived.Laws.BytesArg
import Derived.Test.YtoiodfcefbapkaaGreatProg
import Derived.Laws.Strings
import Derived.ChangeArms
set_option linter.unusedVariables false
set_option linter.unusedSimpArgs false
section
namespace Go.cJ
theorem bJ{α:Type}{l:List α}{i:Nat}(h:i<l.length):l[i]?=some l[i]:=List.getElem?_eq_getElem h
theorem cK{α:Type}{l:List α}{i:Nat}{a:α}:l[i]?=some a↔∃h:i<l.length,l[i]=a:=List.getElem?_eq_some_iff
def dz(P:Program){α:Type}:Sem α->Option α
 | .pure a=>some a
 | .program k=>dz P (k P)
 | .mark _ k=>dz P k
 | _=>none
theorem ry{P:Program}{α:Type}(s:Sem α)(a:α)(h:dz P s=some a)(w:World):s.run P w= .ok a w:=by
 induction s with
 | pure x=>simp[dz]at h;subst h;rfl
 | program k a2=>simp only[dz]at h;simp only[Sem.run];exact a2 P h
 | mark m k a2=>simp only[dz]at h;simp only[Sem.run];exact a2 h
 | _=>simp[dz]at h
def g5:Value->Bool
 | .bool _ | .int _ _ | .string _ | .float _ _ | .pointer none | .slice none 0 0 | .nilFunc | .nilIface | .map none=>true
 | _=>false
def flat(v:Value):Bool:=g5 v || match v with
 | .agg cs=>cs.all g5
 | .tuple cs=>cs.all g5
 | .func (.func _) a b=>a.all g5&&b.all g5
 | _=>false
inductive bI where
 | own (e:TypeId) (loose:Bool) (cs:List Value)
 | ro (e:TypeId) (cs:List Value)
 | dead
abbrev ab:=List bI
def bI.cells?:bI->Option (List Value)
 | .own _ _ cs=>some cs
 | .ro _ cs=>some cs
 | .dead=>none
def hA(H:ab)(b:Nat):Prop:=∃e l cs,H[b]?=some (.own e l cs)
def lr(H:ab)(b:Nat):Prop:=∃x cs,H[b]?=some x/\x.cells?=some cs
theorem hA.live{H:ab}{b:Nat}(h:hA H b):lr H b:=by
 obtain⟨e,l,cs,h⟩:=h
 exact⟨_,cs,h,rfl⟩
structure iC where
 g:Nat
 R:Nat
 N:Nat
 U:Nat
 loose:Bool
abbrev bd:=Nat->Option iC
inductive bl (ah:bd):Value->Value->Prop
 | bool (b:Bool):bl ah (.bool b) (.bool b)
 | int (k:IntKind) (n:Int):bl ah (.int k n) (.int k n)
 | float (k:FloatKind) (n:Nat):bl ah (.float k n) (.float k n)
 | str (s:ByteArray):bl ah (.string s) (.string s)
 | AY:bl ah (.pointer none) (.pointer none)
 | ptr {b i:Nat} {k:iC} (h:ah b=some k):bl ah (.pointer (some ⟨b,i,none⟩)) (.pointer (some ⟨k.g,k.R+i,none⟩))
 | se (g:Nat):bl ah (.pointer (some ⟨0,g,some 0⟩)) (.pointer (some ⟨g,0,none⟩))
 | rn:bl ah (.slice none 0 0) (.slice none 0 0)
 | void (i:Nat) (a:Addr):bl ah (.slice (some ⟨0,i,none⟩) 0 0) (.slice (some a) 0 0)
 | empty {b i:Nat} (ag:b≠0) (a:Addr) (c:Nat):bl ah (.slice (some ⟨b,i,none⟩) 0 0) (.slice (some a) 0 c)
 | slice {b i:Nat} {k:iC} {len cap dC:Nat} (h:ah b=some k) (ad:0<cap) (ar:len<=cap) (fO:cap<=dC) (J:k.loose=false->dC=cap)
   (bX:k.loose=true->k.R+i+dC*k.U<=k.N):bl ah (.slice (some ⟨b,i,none⟩) len cap) (.slice (some ⟨k.g,k.R+i,none⟩) len dC)
 | agg {xs bO:Array Value} (ar:xs.size=bO.size) (h:∀(i:Nat) (v au:Value),xs[i]?=some v->bO[i]?=some au->bl ah v au):bl ah (.agg xs) (.agg bO)
 | tuple {xs bO:Array Value} (ar:xs.size=bO.size) (h:∀(i:Nat) (v au:Value),xs[i]?=some v->bO[i]?=some au->bl ah v au):bl ah (.tuple xs) (.tuple bO)
 | func (fn:Fn) {xs bO vD vE:Array Value} (ar:xs.size=bO.size) (h:∀(i:Nat) (v au:Value),xs[i]?=some v->bO[i]?=some au->bl ah v au)
   (dG:vD.size=vE.size) (cv:∀(i:Nat) (v au:Value),vD[i]?=some v->vE[i]?=some au->bl ah v au):bl ah (.func fn xs vD) (.func fn bO vE)
 | nilFunc:bl ah .nilFunc .nilFunc
 | iface (t:TypeId) {v au:Value} (h:bl ah v au):bl ah (.iface t v) (.iface t au)
 | nilIface:bl ah .nilIface .nilIface
 | AX:bl ah (.map none) (.map none)
def e8(ah:bd)(xs bO:Array Value):Prop:=xs.size=bO.size/\∀(i:Nat) (v au:Value),xs[i]?=some v->bO[i]?=some au->bl ah v au
def cB(ah:bd)(xs bO:List Value):Prop:=xs.length=bO.length/\∀(i:Nat) (v au:Value),xs[i]?=some v->bO[i]?=some au->bl ah v au
theorem bl.ext{ah bs:bd}(he:∀b k,ah b=some k->bs b=some k){v au:Value}(h:bl ah v au):bl bs v au:=by
 induction h with
 | bool b=>exact .bool b
 | int k n=>exact .int k n
 | float k n=>exact .float k n
 | str s=>exact .str s
 | AY=>exact .AY
 | ptr h=>exact .ptr (he _ _ h)
 | se g=>exact .se g
 | rn=>exact .rn
 | void i a=>exact .void i a
 | empty ag a c=>exact .empty ag a c
 | slice h ad ar fO J bX=>exact .slice (he _ _ h) ad ar fO J bX
 | agg ar _ a2=>exact .agg ar a2
 | tuple ar _ a2=>exact .tuple ar a2
 | func fn ar _ dG _ a2 Wf=>exact .func fn ar a2 dG Wf
 | nilFunc=>exact .nilFunc
 | iface t _ a2=>exact .iface t a2
 | nilIface=>exact .nilIface
 | AX=>exact .AX
theorem cB.ext{ah bs:bd}(he:∀b k,ah b=some k->bs b=some k){xs bO:List Value}(h:cB ah xs bO):cB bs xs bO:=⟨h.1,fun i v au J aL=>(h.2 i v au J aL).ext he⟩
theorem zn{ah:bd}{v au:Value}(ay:g5 v=true)(h:bl ah v au):au=v:=by
 cases h<;>first | rfl | (simp[g5]at ay;done) | skip
theorem Jy(ah:bd){v:Value}(ay:g5 v=true):bl ah v v:=by
 unfold g5 at ay
 split at ay<;>first | constructor | (cases ay;done)
theorem e8.flat{ah:bd}{xs bO:Array Value}(ay:xs.all g5=true)(h:e8 ah xs bO):bO=xs:=by
 apply Array.ext
 ·exact h.1.symm
 ·intro i jd h5
  have J:g5 xs[i]=true:=by
   have:=Array.all_eq_true.1 ay i h5
   simpa using this
  exact zn J (h.2 i _ _ (Array.getElem?_eq_getElem h5) (Array.getElem?_eq_getElem jd))
theorem e8.Bd(ah:bd){xs:Array Value}(ay:xs.all g5=true):e8 ah xs xs:=by
 refine⟨rfl,fun i v au J aL=>?_⟩
 rw[J]at aL
 obtain rfl:=Option.some.inj aL
 obtain⟨ae,rfl⟩:=Array.getElem?_eq_some_iff.1 J
 exact Jy ah (by simpa using Array.all_eq_true.1 ay i ae)
theorem JA{ah:bd}{v au:Value}(ay:flat v=true)(h:bl ah v au):au=v:=by
 unfold flat at ay
 cases o:g5 v
 ·rw[o]at ay
  simp only[Bool.false_or]at ay
  cases h with
  | agg ar h=>exact congrArg Value.agg (e8.flat ay ⟨ar,h⟩)
  | tuple ar h=>exact congrArg Value.tuple (e8.flat ay ⟨ar,h⟩)
  | func fn ar h dG cv=>
   cases fn<;>simp only[Bool.and_eq_true,reduceCtorEq]at ay
   rw[e8.flat ay.1 ⟨ar,h⟩,e8.flat ay.2 ⟨dG,cv⟩]
  | _=>simp at ay
 ·exact zn o h
theorem tQ(ah:bd){v:Value}(ay:flat v=true):bl ah v v:=by
 unfold flat at ay
 cases o:g5 v
 ·rw[o]at ay
  simp only[Bool.false_or]at ay
  split at ay
  ·exact .agg rfl (e8.Bd ah ay).2
  ·exact .tuple rfl (e8.Bd ah ay).2
  ·simp only[Bool.and_eq_true]at ay
   exact .func _ rfl (e8.Bd ah ay.1).2 rfl (e8.Bd ah ay.2).2
  ·cases ay
 ·exact Jy ah o
theorem bl.Nk{ah:bd}{v au:Value}(h:bl ah v au):au.oneCell'=v.oneCell':=by cases h<;>rfl
theorem bl.undef(ah:bd):bl ah Go.undef Go.undef:= .tuple rfl fun i v au h=>by simp at h
theorem bl.cells{ah:bd}{v au:Value}(h:bl ah v au):e8 ah v.cells au.cells:=by
 cases h with
 | agg ar h=>exact⟨ar,h⟩
 | _=>
  refine⟨rfl,fun i x ew J aL=>?_⟩
  obtain⟨ae,rfl⟩:=Array.getElem?_eq_some_iff.1 J
  obtain⟨aX,rfl⟩:=Array.getElem?_eq_some_iff.1 aL
  simp only[Value.cells,List.size_toArray,List.length_cons,List.length_nil]at ae aX
  obtain rfl:i=0:=by omega
  first
   | (simp only[Value.cells];constructor<;>assumption;done)
   | (constructor<;>assumption)
theorem e8.toList{ah:bd}{xs bO:Array Value}(h:e8 ah xs bO):cB ah xs.toList bO.toList:=⟨by simpa using h.1,fun i v au J aL=>h.2 i v au (by simpa using J) (by simpa using aL)⟩
theorem cB.toArray{ah:bd}{xs bO:List Value}(h:cB ah xs bO):e8 ah xs.toArray bO.toArray:=⟨by simpa using h.1,fun i v au J aL=>h.2 i v au (by simpa using J) (by simpa using aL)⟩
theorem cB.nil(ah:bd):cB ah [] []:=⟨rfl,fun i v au h=>by simp at h⟩
theorem cB.cons{ah:bd}{x y:Value}{xs bO:List Value}(h:bl ah x y)(ao:cB ah xs bO):cB ah (x::xs) (y::bO):=by
 refine⟨by simp[ao.1],fun i v au J aL=>?_⟩
 cases i with
 | zero=>simp at J aL;subst J;subst aL;exact h
 | succ i=>simp at J aL;exact ao.2 i v au J aL
theorem cB.append{ah:bd}{xs bO vD vE:List Value}(h:cB ah xs bO)(cv:cB ah vD vE):cB ah (xs++vD) (bO++vE):=by
 refine⟨by simp[h.1,cv.1],fun i v au J aL=>?_⟩
 by_cases ae:i<xs.length
 ·rw[List.getElem?_append_left ae]at J
  rw[List.getElem?_append_left (by rw[<-h.1];exact ae)]at aL
  exact h.2 i v au J aL
 ·rw[List.getElem?_append_right (by omega)]at J
  rw[List.getElem?_append_right (by rw[<-h.1];omega),<-h.1]at aL
  exact cv.2 _ v au J aL
theorem cB.take{ah:bd}{xs bO:List Value}(h:cB ah xs bO)(n:Nat):cB ah (xs.take n) (bO.take n):=by
 refine⟨by simp[h.1],fun i v au J aL=>?_⟩
 rw[List.getElem?_take]at J aL
 split at J
 ·rename_i ae;rw[if_pos ae]at aL;exact h.2 i v au J aL
 ·cases J
theorem cB.drop{ah:bd}{xs bO:List Value}(h:cB ah xs bO)(n:Nat):cB ah (xs.drop n) (bO.drop n):=by
 refine⟨by simp[h.1],fun i v au J aL=>?_⟩
 rw[List.getElem?_drop]at J aL
 exact h.2 _ v au J aL
theorem cB.set{ah:bd}{xs bO:List Value}(h:cB ah xs bO)(n:Nat){x y:Value}(J:bl ah x y):cB ah (xs.set n x) (bO.set n y):=by
 refine⟨by simp[h.1],fun i v au an dJ=>?_⟩
 rw[List.getElem?_set]at an dJ
 by_cases aG:n=i
 ·subst aG
  rw[if_pos rfl]at an dJ
  rw[<-h.1]at dJ
  split at an
  ·rename_i a6;rw[if_pos a6]at dJ;cases an;cases dJ;exact J
  ·cases an
 ·rw[if_neg aG]at an dJ
  exact h.2 i v au an dJ
theorem cB.replicate(ah:bd)(n:Nat):cB ah (List.replicate n undef) (List.replicate n undef):=by
 refine⟨rfl,fun i v au J aL=>?_⟩
 rw[List.getElem?_replicate]at J aL
 split at J
 ·rename_i h;rw[if_pos h]at aL;cases J;cases aL;exact bl.undef ah
 ·cases J
theorem cB.get{ah:bd}{xs bO:List Value}(h:cB ah xs bO){i:Nat}{v:Value}(J:xs[i]?=some v):∃au,bO[i]?=some au/\bl ah v au:=by
 obtain⟨ae,rfl⟩:=cK.1 J
 have aX:i<bO.length:=by rw[<-h.1];exact ae
 exact⟨bO[i],bJ aX,h.2 i _ _ (bJ ae) (bJ aX)⟩
theorem e8.get{ah:bd}{xs bO:Array Value}(h:e8 ah xs bO){i:Nat}{v:Value}(J:xs[i]?=some v):∃au,bO[i]?=some au/\bl ah v au:=by
 obtain⟨au,o,aa⟩:=h.toList.get (i:=i) (v:=v) (by simpa using J)
 exact⟨au,by simpa using o,aa⟩
theorem cB.getD{ah:bd}{xs bO:List Value}(h:cB ah xs bO)(i:Nat):bl ah (xs.getD i undef) (bO.getD i undef):=by
 by_cases ae:i<xs.length
 ·obtain⟨au,o,aa⟩:=h.get (bJ ae)
  simp only[List.getD_eq_getElem?_getD,o,bJ ae,Option.getD_some]
  exact aa
 ·simp only[List.getD_eq_getElem?_getD]
  rw[List.getElem?_eq_none (by omega),List.getElem?_eq_none (by rw[<-h.1];omega)]
  exact bl.undef ah
def l4(ej:Nat×Nat)(N:Nat):Prop:=∀j,j<N->¬(ej.1<=j/\j<ej.2)
inductive kO (P:Program) (base:Nat) (ah:bd) (w:World) (k:iC):bI->Prop
 | own {e:TypeId} {l:Bool} {cs:List Value} {cur:Array Value} {ej:Nat×Nat} {inf:TypeInfo} (ag:base<=k.g) (ar:k.loose=l) (ae:P.info? e=some inf) (ao:inf.size=k.U)
   (aU:w.heap[k.g]?=some (.cells cur e ej)) (bX:cur.size=k.N) (ay:l4 ej k.N) (bw:k.R+cs.length<=k.N)
   (an:∀(i:Nat) (v:Value),cs[i]?=some v->∃au,cur[k.R+i]?=some au/\bl ah v au):kO P base ah w k (.own e l cs)
 | ro {e:TypeId} {cs:List Value} {inf:TypeInfo} (ae:P.info? e=some inf) (ao:inf.size=k.U) (an:∀(i:Nat) (v:Value),cs[i]?=some v->∃au,w.cell? ⟨k.g,k.R+i,none⟩=some au/\bl ah v au) (df:k.g<w.heap.size):kO P base ah w k (.ro e cs)
 | dead:kO P base ah w k .dead
structure ck (P:Program) (base:Nat) (ah:bd) (H:ab) (w:World):Prop where
 pos:0<H.length
 size:base<=w.heap.size
 eK:∀b k,ah b=some k->0<b/\b<H.length
 e0:∀b k x,ah b=some k->H[b]?=some x->kO P base ah w k x
 inj:∀b cu k b5,ah b=some k->ah cu=some b5->b≠cu->hA H b->lr H cu->k.g≠b5.g
structure Step (ah:bd) (H:ab) (w:World) (bs:bd) (H1:ab) (a7:World):Prop where
 ext:∀b k,ah b=some k->bs b=some k
 new:∀b k,bs b=some k->ah b=some k\/H.length<=b
 len:H.length<=H1.length
 own:∀b k,bs b=some k->hA H1 b->w.heap.size<=k.g\/∃hf jF,ah hf=some jF/\hA H hf/\jF.g=k.g
 os:a7.os=w.os
 tape:a7.tape=w.tape
 output:a7.output=w.output
 size:w.heap.size<=a7.heap.size
 frame:∀g,g<w.heap.size->(∀b k,ah b=some k->hA H b->k.g≠g)->a7.heap[g]?=w.heap[g]?
theorem Step.refl(ah:bd)(H:ab)(w:World):Step ah H w ah H w:=
 ⟨fun _ _ h=>h,fun _ _ h=> .inl h,Nat.le_refl _,fun b k h aK=> .inr ⟨b,k,h,aK,rfl⟩,rfl,rfl,rfl,Nat.le_refl _,fun _ _ _=>rfl⟩
theorem Step.trans{ah bs lo:bd}{H H1 aR:ab}{w a7 iA:World}(h:Step ah H w bs H1 a7)(cv:Step bs H1 a7 lo aR iA):Step ah H w lo aR iA where
 ext b k ag:=cv.ext b k (h.ext b k ag)
 new b k ag:=by
  rcases cv.new b k ag with o | o
  ·exact h.new b k o
  ·exact .inr (Nat.le_trans h.len o)
 len:=Nat.le_trans h.len cv.len
 own b k ag aK:=by
  rcases cv.own b k ag aK with o | ⟨hf,jF,o,aa,aA⟩
  ·exact .inl (Nat.le_trans h.size o)
  ·rcases h.own hf jF o aa with bo | ⟨gH,jl,bo,bK,dM⟩
   ·exact .inl (by omega)
   ·exact .inr ⟨gH,jl,bo,bK,by omega⟩
 os:=cv.os.trans h.os
 tape:=cv.tape.trans h.tape
 output:=cv.output.trans h.output
 size:=Nat.le_trans h.size cv.size
 frame g aU cN:=by
  rw[cv.frame g (Nat.lt_of_lt_of_le aU h.size) ?_,h.frame g aU cN]
  intro b k ag aK e
  rcases h.own b k ag aK with o | ⟨hf,jF,o,aa,aA⟩
  ·omega
  ·exact cN hf jF o aa (by omega)
theorem Ch{w a7:World}{a:Addr}(h:a7.heap[a.block]?=w.heap[a.block]?):a7.cell? a=w.cell? a:=by simp[World.cell?,h]
theorem kO.gu{P:Program}{base:Nat}{ah bs:bd}{w a7:World}{k:iC}{x:bI}(h:kO P base ah w k x)(he:∀b k,ah b=some k->bs b=some k)
  (hw:x.cells?≠none->a7.heap[k.g]?=w.heap[k.g]?)(xu:w.heap.size<=a7.heap.size):kO P base bs a7 k x:=by
 cases h with
 | own ag ar ae ao aU bX ay bw an=>
  exact .own ag ar ae ao (by rw[hw (by simp[bI.cells?])];exact aU) bX ay bw fun i v ae=>let⟨au,o,aa⟩:=an i v ae;⟨au,o,aa.ext he⟩
 | ro ae ao an df=>
  refine .ro ae ao (fun i v ae=>?_) (Nat.lt_of_lt_of_le df xu)
  obtain⟨au,o,aa⟩:=an i v ae
  exact⟨au,by rw[Ch (w:=w) (by exact hw (by simp[bI.cells?]))];exact o,aa.ext he⟩
 | dead=>exact .dead
theorem kO.lt{P:Program}{base:Nat}{ah:bd}{w:World}{k:iC}{x:bI}(h:kO P base ah w k x)(J:x.cells?≠none):k.g<w.heap.size:=by
 cases h with
 | own ag ar ae ao aU bX ay bw an=>exact(Array.getElem?_eq_some_iff.1 aU).1
 | ro ae ao an df=>exact df
 | dead=>simp[bI.cells?]at J
theorem ck.heap{P:Program}{base:Nat}{ah:bd}{H:ab}{w a7:World}(h:ck P base ah H w)(cV:a7.heap=w.heap):ck P base ah H a7:=
 ⟨h.pos,by rw[cV];exact h.size,h.eK,fun b k x ag J=>(h.e0 b k x ag J).gu (fun _ _ h=>h) (fun _=>by rw[cV]) (by rw[cV];exact Nat.le_refl _),h.inj⟩
theorem Step.drawn(ah:bd)(H:ab)(w:World)(n:Nat):Step ah H w ah H {w with drawn:=n}:=
 ⟨fun _ _ h=>h,fun _ _ h=> .inl h,Nat.le_refl _,fun b k h aK=> .inr ⟨b,k,h,aK,rfl⟩,rfl,rfl,rfl,Nat.le_refl _,fun _ _ _=>rfl⟩
def bd.put(ah:bd)(b:Nat)(k:iC):bd:=fun c=>if c=b then some k else ah c
theorem bd.nq(ah:bd)(b:Nat)(k:iC):ah.put b k b=some k:=by simp[bd.put]
theorem bd.lh(ah:bd){b c:Nat}(k:iC)(h:c≠b):ah.put b k c=ah c:=by simp[bd.put,h]
theorem ck.Jp{P:Program}{base:Nat}{ah:bd}{H:ab}{w:World}(h:ck P base ah H w)(k:iC):∀b b5,ah b=some b5->ah.put H.length k b=some b5:=fun b b5 ag=>by
 rw[bd.lh _ _ (by have:=(h.eK b b5 ag).2;omega)];exact ag
theorem wk{H:ab}{x:bI}{b:Nat}(h:b<H.length):(H++[x])[b]?=H[b]?:=List.getElem?_append_left h
theorem JF(H:ab)(x:bI):(H++[x])[H.length]?=some x:=by simp
theorem AI{H:ab}{x:bI}{b:Nat}(h:hA (H++[x]) b)(ag:b≠H.length):hA H b:=by
 obtain⟨e,l,cs,h⟩:=h
 have a6:b<(H++[x]).length:=(cK.1 h).1
 simp at a6
 exact⟨e,l,cs,by rwa[wk (by omega)]at h⟩
theorem EF{H:ab}{x:bI}{b:Nat}(h:lr (H++[x]) b)(ag:b≠H.length):lr H b:=by
 obtain⟨y,cs,h,ad⟩:=h
 have a6:b<(H++[x]).length:=(cK.1 h).1
 simp at a6
 exact⟨y,cs,by rwa[wk (by omega)]at h,ad⟩
theorem ck.alloc{P:Program}{base:Nat}{ah:bd}{H:ab}{w:World}(h:ck P base ah H w){e:TypeId}{l:Bool}{cs:List Value}{cur:Array Value}{ej:Nat×Nat}{inf:TypeInfo}{U:Nat}
  (ae:P.info? e=some inf)(ao:inf.size=U)(ay:l4 ej cur.size)(bw:cs.length<=cur.size)(an:∀(i:Nat) (v:Value),cs[i]?=some v->∃au,cur[i]?=some au/\bl ah v au):
  ck P base (ah.put H.length ⟨w.heap.size,0,cur.size,U,l⟩) (H++[.own e l cs]) (w.alloc (.cells cur e ej))/\Step ah H w (ah.put H.length ⟨w.heap.size,0,cur.size,U,l⟩) (H++[.own e l cs]) (w.alloc (.cells cur e ej)):=by
 have hold:∀g,g<w.heap.size->(w.alloc (.cells cur e ej)).heap[g]?=w.heap[g]?:=fun g aU=>heap_alloc_old w _ aU
 have he:=h.Jp ⟨w.heap.size,0,cur.size,U,l⟩
 constructor
 ·refine⟨by simp,by simp;have:=h.size;omega,fun b k ag=>?_,fun b k x ag J=>?_,fun b cu k b5 ag c3 cN aK dG=>?_⟩
  ·by_cases gq:b=H.length
   ·subst gq;exact⟨h.pos,by simp⟩
   ·rw[bd.lh _ _ gq]at ag;have:=h.eK b k ag;simp;omega
  ·by_cases gq:b=H.length
   ·subst gq
    rw[bd.nq]at ag
    obtain rfl:=Option.some.inj ag
    rw[JF]at J
    obtain rfl:=Option.some.inj J
    exact .own h.size rfl ae ao (heap_alloc_new w _) rfl ay (by simpa using bw) fun i v ad=>let⟨au,o,aa⟩:=an i v ad;⟨au,by simpa using o,aa.ext he⟩
   ·rw[bd.lh _ _ gq]at ag
    rw[wk (h.eK b k ag).2]at J
    exact(h.e0 b k x ag J).gu he (fun xL=>hold _ ((h.e0 b k x ag J).lt xL)) (by simp)
  ·by_cases gq:b=H.length
   ·subst gq
    rw[bd.nq]at ag
    obtain rfl:=Option.some.inj ag
    have ux:cu≠H.length:=fun e=>cN e.symm
    rw[bd.lh _ _ ux]at c3
    obtain⟨y,eT,aL,ad⟩:=EF dG ux
    have:=(h.e0 cu b5 y c3 aL).lt (by rw[ad];simp)
    simp only;omega
   ·rw[bd.lh _ _ gq]at ag
    have fp:=AI aK gq
    by_cases ux:cu=H.length
    ·subst ux
     rw[bd.nq]at c3
     obtain rfl:=Option.some.inj c3
     obtain⟨hh,MJ,r8,aL⟩:=fp
     have:=(h.e0 b k _ ag aL).lt (by simp[bI.cells?])
     simp only;omega
    ·rw[bd.lh _ _ ux]at c3
     exact h.inj b cu k b5 ag c3 cN fp (EF dG ux)
 ·refine⟨he,fun b k ag=>?_,by simp,fun b k ag aK=>?_,rfl,rfl,rfl,by simp,fun g aU _=>hold g aU⟩
  ·by_cases gq:b=H.length
   ·exact .inr (by omega)
   ·rw[bd.lh _ _ gq]at ag;exact .inl ag
  ·by_cases gq:b=H.length
   ·subst gq;rw[bd.nq]at ag;obtain rfl:=Option.some.inj ag;exact .inl (Nat.le_refl _)
   ·rw[bd.lh _ _ gq]at ag;exact .inr ⟨b,k,ag,AI aK gq,rfl⟩
def ia(w:World)(g:Nat)(x:Obj):World:={w with heap:=w.heap.setIfInBounds g x}
theorem E9(w:World)(g:Nat)(x:Obj)(h:g<w.heap.size):(ia w g x).heap[g]?=some x:=by simp[ia,h]
theorem A5(w:World)(g i:Nat)(x:Obj)(h:i≠g):(ia w g x).heap[i]?=w.heap[i]?:=by simp[ia,Array.getElem?_setIfInBounds_ne (Ne.symm h)]
theorem A6(w:World)(g:Nat)(x:Obj):(ia w g x).heap.size=w.heap.size:=by simp[ia]
theorem xT{H:ab}{b c:Nat}{x:bI}(h:hA (H.set b x) c)(J:hA H b):hA H c:=by
 by_cases ad:b=c
 ·subst ad;exact J
 ·obtain⟨e,l,cs,h⟩:=h
  exact⟨e,l,cs,by rwa[List.getElem?_set_ne ad]at h⟩
theorem EG{H:ab}{b c:Nat}{x:bI}(h:lr (H.set b x) c)(J:hA H b):lr H c:=by
 by_cases ad:b=c
 ·subst ad;exact J.live
 ·obtain⟨y,cs,h,cV⟩:=h
  exact⟨y,cs,by rwa[List.getElem?_set_ne ad]at h,cV⟩
theorem ck.put{P:Program}{base:Nat}{ah:bd}{H:ab}{w:World}(h:ck P base ah H w){b:Nat}{k:iC}{e:TypeId}{l:Bool}{cs eA:List Value}{lz:Array Value}{ej:Nat×Nat}
  (ag:ah b=some k)(J:H[b]?=some (.own e l cs))(oS:∃cur,w.heap[k.g]?=some (.cells cur e ej)/\lz.size=cur.size)(hlen:eA.length=cs.length)
  (an:∀(i:Nat) (v:Value),eA[i]?=some v->∃au,lz[k.R+i]?=some au/\bl ah v au):
  ck P base ah (H.set b (.own e l eA)) (ia w k.g (.cells lz e ej))/\Step ah H w ah (H.set b (.own e l eA)) (ia w k.g (.cells lz e ej)):=by
 obtain⟨cur,oS,df⟩:=oS
 have jX:hA H b:=⟨e,l,cs,J⟩
 have a6:k.g<w.heap.size:=(Array.getElem?_eq_some_iff.1 oS).1
 have c3:b<H.length:=(h.eK b k ag).2
 constructor
 ·refine⟨by simpa using h.pos,by rw[A6];exact h.size,fun c c4 ad=>by simpa using h.eK c c4 ad,fun c c4 x ad h_=>?_,fun c dR c4 u3 ad gK cN aK dG=>h.inj c dR c4 u3 ad gK cN (xT aK jX) (EG dG jX)⟩
  by_cases iL:b=c
  ·subst iL
   rw[ag]at ad
   obtain rfl:=Option.some.inj ad
   rw[List.getElem?_set_self c3]at h_
   obtain rfl:=Option.some.inj h_
   cases h.e0 b k _ ag J with
   | own su ar ae ao aU bX ay bw Ea=>
    rw[oS]at aU
    injection aU with aU
    injection aU with mi w8 pM
    subst mi;subst pM
    exact .own su ar ae ao (E9 w _ _ a6) (by omega) ay (by omega) an
  ·rw[List.getElem?_set_ne iL]at h_
   have nZ:=h.e0 c c4 x ad h_
   refine nZ.gu (fun _ _ h=>h) (fun xL=>A5 w _ _ _ ?_) (by rw[A6];exact Nat.le_refl _)
   obtain⟨nN,w1⟩:∃nN,x.cells?=some nN:=by cases av:x.cells? with | none=>exact absurd av xL | some q=>exact⟨q,rfl⟩
   exact fun e=>h.inj b c k c4 ag ad iL jX ⟨x,nN,h_,w1⟩ e.symm
 ·refine⟨fun _ _ h=>h,fun _ _ h=> .inl h,by simp,fun c c4 ad aK=> .inr ⟨c,c4,ad,xT aK jX,rfl⟩,rfl,rfl,rfl,by rw[A6];exact Nat.le_refl _,fun g aU cN=>?_⟩
  exact A5 w _ _ _ fun e=>cN b k ag jX e.symm
theorem ck.kill{P:Program}{base:Nat}{ah:bd}{H:ab}{w:World}(h:ck P base ah H w)(b:Nat)(jX:hA H b):ck P base ah (H.set b .dead) w/\Step ah H w ah (H.set b .dead) w:=by
 have c3:b<H.length:=by obtain⟨e,l,cs,J⟩:=jX;exact(cK.1 J).1
 constructor
 ·refine⟨by simpa using h.pos,h.size,fun c c4 ad=>by simpa using h.eK c c4 ad,fun c c4 x ad h_=>?_,fun c dR c4 u3 ad gK cN aK dG=>h.inj c dR c4 u3 ad gK cN (xT aK jX) (EG dG jX)⟩
  by_cases iL:b=c
  ·subst iL
   rw[List.getElem?_set_self c3]at h_
   obtain rfl:=Option.some.inj h_
   exact .dead
  ·rw[List.getElem?_set_ne iL]at h_
   exact h.e0 c c4 x ad h_
 ·exact⟨fun _ _ h=>h,fun _ _ h=> .inl h,by simp,fun c c4 ad aK=> .inr ⟨c,c4,ad,xT aK jX,rfl⟩,rfl,rfl,rfl,Nat.le_refl _,fun _ _ _=>rfl⟩
theorem ck.ES{P:Program}{base:Nat}{ah:bd}{H:ab}{w:World}(h:ck P base ah H w){b i:Nat}{k:iC}{e:TypeId}{l c_:Bool}{cs eA:List Value}{lz:Array Value}{ej:Nat×Nat}
  (ag:ah b=some k)(J:H[b]?=some (.own e l cs))(oS:∃cur,w.heap[k.g]?=some (.cells cur e ej)/\lz.size=cur.size)(bw:k.R+i+eA.length<=lz.size)
  (an:∀(j:Nat) (v:Value),eA[j]?=some v->∃au,lz[k.R+i+j]?=some au/\bl ah v au):
  ck P base (ah.put H.length ⟨k.g,k.R+i,k.N,k.U,c_⟩) (H.set b .dead++[.own e c_ eA]) (ia w k.g (.cells lz e ej))/\
  Step ah H w (ah.put H.length ⟨k.g,k.R+i,k.N,k.U,c_⟩) (H.set b .dead++[.own e c_ eA]) (ia w k.g (.cells lz e ej)):=by
 obtain⟨cur,oS,df⟩:=oS
 have jX:hA H b:=⟨e,l,cs,J⟩
 have a6:k.g<w.heap.size:=(Array.getElem?_eq_some_iff.1 oS).1
 have c3:b<H.length:=(h.eK b k ag).2
 have he:=h.Jp ⟨k.g,k.R+i,k.N,k.U,c_⟩
 have hlen:(H.set b .dead).length=H.length:=by simp
 have Dp:∀{c},c≠H.length->lr (H.set b .dead++[.own e c_ eA]) c->c≠b/\lr H c:=by
  intro c ad ar
  have o:=EF ar (by rw[hlen];exact ad)
  refine⟨fun e=>?_,EG o jX⟩
  subst e
  obtain⟨y,eT,aL,KC⟩:=o
  rw[List.getElem?_set_self c3]at aL
  obtain rfl:=Option.some.inj aL
  simp[bI.cells?]at KC
 have xu:(ia w k.g (.cells lz e ej)).heap.size=w.heap.size:=A6 ..
 have z2:∀c c4 x,ah c=some c4->H[c]?=some x->c≠b->kO P base (ah.put H.length ⟨k.g,k.R+i,k.N,k.U,c_⟩) (ia w k.g (.cells lz e ej)) c4 x:=by
  intro c c4 x ad h_ iL
  have nZ:=h.e0 c c4 x ad h_
  refine nZ.gu he (fun xL=>A5 w _ _ _ ?_) (by rw[xu];exact Nat.le_refl _)
  obtain⟨nN,w1⟩:∃nN,x.cells?=some nN:=by cases av:x.cells? with | none=>exact absurd av xL | some q=>exact⟨q,rfl⟩
  exact fun e=>h.inj b c k c4 ag ad (Ne.symm iL) jX ⟨x,nN,h_,w1⟩ e.symm
 constructor
 ·refine⟨by simp,by rw[xu];exact h.size,fun c c4 ad=>?_,fun c c4 x ad h_=>?_,fun c dR c4 u3 ad gK cN aK dG=>?_⟩
  ·by_cases fJ:c=H.length
   ·subst fJ;exact⟨h.pos,by simp⟩
   ·rw[bd.lh _ _ fJ]at ad;have:=h.eK c c4 ad;simp;omega
  ·by_cases fJ:c=H.length
   ·subst fJ
    rw[bd.nq]at ad
    obtain rfl:=Option.some.inj ad
    rw[<-hlen,JF]at h_
    obtain rfl:=Option.some.inj h_
    cases h.e0 b k _ ag J with
    | own su ar ae ao aU bX ay Du Ea=>
     rw[oS]at aU
     injection aU with aU
     injection aU with mi w8 pM
     subst mi;subst pM
     exact .own su rfl ae ao (E9 w _ _ a6) (by simp only;omega) ay (by simp only;omega) fun j v aX=>let⟨au,o,aa⟩:=an j v aX;⟨au,o,aa.ext he⟩
   ·rw[bd.lh _ _ fJ]at ad
    rw[wk (by rw[hlen];exact(h.eK c c4 ad).2)]at h_
    by_cases iL:b=c
    ·subst iL
     rw[List.getElem?_set_self c3]at h_
     obtain rfl:=Option.some.inj h_
     exact .dead
    ·rw[List.getElem?_set_ne iL]at h_
     exact z2 c c4 x ad h_ (Ne.symm iL)
  ·by_cases fJ:c=H.length
   ·subst fJ
    rw[bd.nq]at ad
    obtain rfl:=Option.some.inj ad
    have uA:dR≠H.length:=fun e=>cN e.symm
    rw[bd.lh _ _ uA]at gK
    obtain⟨o,aa⟩:=Dp uA dG
    exact h.inj b dR k u3 ag gK (Ne.symm o) jX aa
   ·rw[bd.lh _ _ fJ]at ad
    obtain⟨o,aa⟩:=Dp fJ aK.live
    have q3:=AI aK (by rw[hlen];exact fJ)
    have Ll:hA H c:=by
     obtain⟨hh,MJ,r8,aL⟩:=q3
     exact⟨hh,MJ,r8,by rwa[List.getElem?_set_ne (Ne.symm o)]at aL⟩
    by_cases uA:dR=H.length
    ·subst uA
     rw[bd.nq]at gK
     obtain rfl:=Option.some.inj gK
     exact h.inj c b c4 k ad ag o Ll jX.live
    ·rw[bd.lh _ _ uA]at gK
     exact h.inj c dR c4 u3 ad gK cN Ll (Dp uA dG).2
 ·refine⟨he,fun c c4 ad=>?_,by simp,fun c c4 ad aK=>?_,rfl,rfl,rfl,by rw[xu];exact Nat.le_refl _,fun g aU cN=>A5 w _ _ _ fun e=>cN b k ag jX e.symm⟩
  ·by_cases fJ:c=H.length
   ·exact .inr (by omega)
   ·rw[bd.lh _ _ fJ]at ad;exact .inl ad
  ·by_cases fJ:c=H.length
   ·subst fJ;rw[bd.nq]at ad;obtain rfl:=Option.some.inj ad;exact .inr ⟨b,k,ag,jX,rfl⟩
   ·rw[bd.lh _ _ fJ]at ad
    exact .inr ⟨c,c4,ad,xT (AI aK (by rw[hlen];exact fJ)) jX,rfl⟩
theorem fy{P:Program}{α β:Type}(x:Sem α)(f:α->Sem β):dz P (x>>=f)=(dz P x).bind fun a=>dz P (f a):=by
 show dz P (x.bind f)=_
 induction x with
 | pure a=>rfl
 | program k a2=>simp only[Sem.bind,dz];exact a2 P
 | mark m k a2=>simp only[Sem.bind,dz];exact a2
 | _=>simp[Sem.bind,dz]
theorem e4{P:Program}{α:Type}(a:α):dz P (pure a:Sem α)=some a:=rfl
def bq(P:Program)(t:TypeId):Option Nat:=(P.info? t).map (·.size)
def dA(P:Program)(t:TypeId):Option Value:=(P.info? t).bind (·.zero)
def bytes?(P:Program)(t:TypeId):Option Nat:=(P.info? t).map (·.bytes)
theorem ot{P:Program}(t:TypeId):dz P (underlying t)=P.underlying t:=by
 unfold underlying
 rw[fy]
 show(some P).bind _=_
 simp only[Option.bind_some]
 cases h:P.underlying t<;>rfl
theorem NF{P:Program}(t:TypeId):dz P (typeInfo t)=P.info? t:=by
 unfold typeInfo
 rw[fy]
 show(some P).bind _=_
 simp only[Option.bind_some]
 cases h:P.info? t<;>rfl
theorem ya{P:Program}(t:TypeId):dz P (sizeOf t)=bq P t:=by
 unfold sizeOf
 rw[fy,NF]
 cases h:P.info? t<;>simp[bq,h,e4]
theorem E8{P:Program}(t:TypeId):dz P (zeroValue t)=dA P t:=by
 unfold zeroValue
 rw[fy,NF]
 cases h:P.info? t with
 | none=>simp[dA,h]
 | some i=>cases aM:i.zero<;>simp[dA,h,aM]<;>rfl
theorem NC{P:Program}(t:TypeId):dz P (isAgg t)=(P.underlying t).map fun d=>match d with | .struct _ | .array _ _=>true | _=>false:=by
 unfold isAgg
 rw[fy,ot]
 cases h:P.underlying t with
 | none=>rfl
 | some d=>cases d<;>rfl
theorem km{P:Program}{t:TypeId}{n:Nat}(h:bq P t=some n)(w:World):(sizeOf t).run P w= .ok n w:=ry _ _ (by rw[ya];exact h) w
theorem Bg{P:Program}{t:TypeId}{z:Value}(h:dA P t=some z)(w:World):(zeroValue t).run P w= .ok z w:=ry _ _ (by rw[E8];exact h) w
theorem e8.set{ah:bd}{xs bO:Array Value}(h:e8 ah xs bO)(n:Nat){x y:Value}(J:bl ah x y):e8 ah (xs.setIfInBounds n x) (bO.setIfInBounds n y):=by
 have:=(h.toList.set n J).toArray
 rw[show xs.setIfInBounds n x=(xs.toList.set n x).toArray from by apply Array.ext';simp,show bO.setIfInBounds n y=(bO.toList.set n y).toArray from by apply Array.ext';simp]
 exact this
theorem JC{ah:bd}(off:Nat):∀(l c_:List Value) (j:Nat) (cs eA:Array Value),cB ah l c_->e8 ah cs eA->
  e8 ah ((l.zipIdx j).foldl (fun cs (qC:Value×Nat)=>cs.setIfInBounds (off+qC.2) qC.1) cs) ((c_.zipIdx j).foldl (fun cs (qC:Value×Nat)=>cs.setIfInBounds (off+qC.2) qC.1) eA)
 | [],[],_,_,_,_,h=>h
 | [],_::_,_,_,_,ar,_=>by simp[cB]at ar
 | _::_,[],_,_,_,ar,_=>by simp[cB]at ar
 | x::l,y::c_,j,cs,eA,ar,h=>by
  simp only[List.zipIdx_cons,List.foldl_cons]
  refine JC off l c_ (j+1) _ _ ⟨by simpa using ar.1,fun i v au an dJ=>ar.2 (i+1) v au (by simpa using an) (by simpa using dJ)⟩ (h.set _ ?_)
  exact ar.2 0 x y rfl rfl
theorem zm{ah:bd}{aJ cz:Operand->Value}(place:Nat->Option (Nat×Nat)):∀(aW:List (Nat×Operand)) (cs eA out:Array Value),(∀p∈aW,bl ah (aJ p.2) (cz p.2))->e8 ah cs eA->
  Instr.fill place cs (aW.map fun p=>(p.1,aJ p.2))=some out->∃g1,Instr.fill place eA (aW.map fun p=>(p.1,cz p.2))=some g1/\e8 ah out g1
 | [],cs,eA,out,_,h,ay=>by
  simp[Instr.fill]at ay
  subst ay
  exact⟨eA,rfl,h⟩
 | (i,x)::aW,cs,eA,out,aY,h,ay=>by
  simp only[List.map_cons,Instr.fill]at ay⊢
  cases kE:place i with
  | none=>simp[kE]at ay
  | some os=>
   obtain⟨off,size⟩:=os
   simp only[kE]at ay⊢
   have an:=(aY (i,x) (List.mem_cons_self)).cells
   by_cases ad:((aJ x).cells.size≠size || decide (off+(aJ x).cells.size>cs.size))=true
   ·rw[if_pos ad]at ay;cases ay
   ·rw[if_neg ad]at ay
    rw[if_neg (by rw[<-an.1,<-h.1];exact ad)]
    refine zm place aW _ _ out (fun p hm=>aY p (List.mem_cons_of_mem _ hm)) ?_ ay
    have:=JC off (aJ x).cells.toList (cz x).cells.toList 0 cs eA an.toList h
    rw[<-Array.foldl_toList,<-Array.foldl_toList,Array.toList_zipIdx,Array.toList_zipIdx]
    exact this
theorem BM{ah:bd}{z:Value}(aM:flat z=true):e8 ah z.cells z.cells:=(tQ ah aM).cells
theorem Qa{P:Program}{ah:bd}{aJ cz:Operand->Value}{t:TypeId}{aW:Array (Nat×Operand)}{z v:Value}(aM:dA P t=some z)(dS:flat z=true)(aY:∀p∈aW,bl ah (aJ p.2) (cz p.2))
  (h:dz P (Instr.build t (aW.map fun p=>(p.1,aJ p.2)))=some v):∃au,dz P (Instr.build t (aW.map fun p=>(p.1,cz p.2)))=some au/\bl ah v au:=by
 have q4:∀p∈aW.toList,bl ah (aJ p.2) (cz p.2):=fun p hm=>aY p (by simpa using hm)
 have ar:∀r:Operand->Value,(aW.map fun p=>(p.1,r p.2)).toList=aW.toList.map fun p=>(p.1,r p.2):=fun r=>by simp
 unfold Instr.build at h⊢
 simp only[fy,E8,aM,Option.bind_some,ot]at h⊢
 cases hu:P.underlying t with
 | none=>simp[hu]at h
 | some d=>
  simp only[hu,Option.bind_some]at h⊢
  cases d with
  | struct fields=>
   simp only[fy]at h⊢
   cases hm:dz P (fields.mapM fun f=>do pure (f.offset,<-sizeOf f.type))with
   | none=>rw[hm]at h;simp at h
   | some lg=>
    rw[hm]at h
    simp only[Option.bind_some,ar]at h⊢
    cases ay:Instr.fill (fun x=>lg[x]?) z.cells (aW.toList.map fun p=>(p.1,aJ p.2))with
    | none=>rw[ay]at h;simp[dz,stuck]at h
    | some out=>
     rw[ay]at h
     obtain⟨g1,o,aa⟩:=zm (cz:=cz) _ aW.toList _ _ out q4 (BM dS) ay
     rw[o]
     simp only[e4,Option.some.injEq]at h⊢
     subst h
     exact⟨_,rfl,.agg aa.1 aa.2⟩
  | array n elem=>
   simp only[fy,ya]at h⊢
   cases ao:bq P elem with
   | none=>rw[ao]at h;simp at h
   | some size=>
    rw[ao]at h
    simp only[Option.bind_some,ar]at h⊢
    cases ay:Instr.fill (fun i=>some (i*size,size)) z.cells (aW.toList.map fun p=>(p.1,aJ p.2))with
    | none=>rw[ay]at h;simp[dz,stuck]at h
    | some out=>
     rw[ay]at h
     obtain⟨g1,o,aa⟩:=zm (cz:=cz) _ aW.toList _ _ out q4 (BM dS) ay
     rw[o]
     simp only[e4,Option.some.injEq]at h⊢
     subst h
     exact⟨_,rfl,.agg aa.1 aa.2⟩
  | _=>simp[dz,stuck]at h
theorem e8.extract{ah:bd}{xs bO:Array Value}(h:e8 ah xs bO)(i j:Nat):e8 ah (xs.extract i j) (bO.extract i j):=by
 have:=((h.toList.take j).drop i).toArray
 rw[show xs.extract i j=((xs.toList.take j).drop i).toArray from by apply Array.ext';simp[Array.toList_extract,List.drop_take],show bO.extract i j=((bO.toList.take j).drop i).toArray from by apply Array.ext';simp[Array.toList_extract,List.drop_take]]
 exact this
theorem Nv{P:Program}{ah:bd}{t:TypeId}{xs bO:Array Value}{off:Nat}{v:Value}(J:e8 ah xs bO)(h:dz P (part t xs off)=some v):∃au,dz P (part t bO off)=some au/\bl ah v au:=by
 unfold part at h⊢
 simp only[fy]at h⊢
 cases aO:dz P (isAgg t)with
 | none=>rw[aO]at h;simp at h
 | some b=>
  rw[aO]at h
  simp only[Option.bind_some]at h⊢
  cases b
  ·simp only[Bool.false_eq_true,if_false]at h⊢
   cases ad:xs[off]? with
   | none=>simp[ad,dz,stuck]at h
   | some c=>
    simp only[ad,e4,Option.some.injEq]at h
    subst h
    obtain⟨au,o,aa⟩:=J.get ad
    simp only[o,e4]
    exact⟨_,rfl,aa⟩
  ·simp only[if_true,fy,ya]at h⊢
   cases ao:bq P t with
   | none=>rw[ao]at h;simp at h
   | some n=>
    rw[ao]at h
    simp only[Option.bind_some,e4,Option.some.injEq]at h⊢
    subst h
    exact⟨_,rfl,.agg (J.extract _ _).1 (J.extract _ _).2⟩
def rk(P:Program)(t:TypeId):Bool:=match P.underlying t with
 | some (.int _)=>true
 | _=>false
def bR(P:Program)(R:Oper):Bool:=
 match R.op with
 | .move _ | .assign _ | .pick .. | .build .. | .nilCheck _ | .fieldAddr .. | .field .. | .indexAddr .. | .index .. | .extract .. | .makeFunc .. | .makeInterface .. | .binOp .. | .unOp .. =>true
 | .call {callee:= .builtin .len,.. } | .call {callee:= .builtin .max,.. } | .call {callee:= .builtin .min,.. }=>true
 | .convert s t _=>rk P s&&rk P t
 | _=>false
inductive hy (P:Program) (aJ:Operand->Value) (R:Oper):Value->Prop
 | move {x:Operand} (h:R.op= .move x):hy P aJ R (aJ x)
 | assign {x:Operand} (h:R.op= .assign x):hy P aJ R (aJ x)
 | pick {c a b:Operand} {t:Bool} (h:R.op= .pick c a b) (ad:aJ c= .bool t):hy P aJ R (if t then aJ a else aJ b)
 | pure {v:Value} (a5:bR P R=true) (ay:(R.op.operands.all fun x=>flat (aJ x))=true) (an:flat v=true) (h:dz P (execOp aJ R)=some (.value v)):hy P aJ R v
 | build {t:TypeId} {aW:Array (Nat×Operand)} {z v:Value} (h:R.op= .build t aW) (aM:dA P t=some z) (dS:flat z=true) (al:dz P (Instr.build t (aW.map fun p=>(p.1,aJ p.2)))=some v):hy P aJ R v
 | nilCheck {x:Operand} {a:Addr} (h:R.op= .nilCheck x) (J:aJ x= .pointer (some a)):hy P aJ R (aJ x)
 | fieldAddr {s:TypeId} {x:Operand} {f b i n:Nat} {jO:Array Field} {fd:Field} (h:R.op= .fieldAddr s x f) (hu:P.underlying s=some (.struct jO)) (ay:jO[f]?=some fd) (ao:bq P fd.type=some (n+1))
   (J:aJ x= .pointer (some ⟨b,i,none⟩)):hy P aJ R (.pointer (some ⟨b,i+fd.offset,none⟩))
 | field {t:TypeId} {x:Operand} {f:Nat} {cs:Array Value} {v:Value} (h:R.op= .field t x f) (J:aJ x= .agg cs) (al:dz P (Instr.field t (.agg cs) f)=some v):hy P aJ R v
 | Mz {t e:TypeId} {x en:Operand} {b i len cap U:Nat} {k:IntKind} {n:Int} (h:R.op= .indexAddr t x en) (hu:P.underlying t=some (.slice e)) (ao:bq P e=some U) (J:aJ x= .slice (some ⟨b,i,none⟩) len cap)
   (ae:aJ en= .int k n) (aH:0<=n) (o:n<len):hy P aJ R (.pointer (some ⟨b,i+n.toNat*U,none⟩))
 | Wg {t e:TypeId} {x en:Operand} {b i len U:Nat} {k:IntKind} {n:Int} (h:R.op= .indexAddr t x en) (hu:P.underlying t=some (.array len e)) (ao:bq P e=some U) (J:aJ x= .pointer (some ⟨b,i,none⟩))
   (ae:aJ en= .int k n) (aH:0<=n) (o:n<len):hy P aJ R (.pointer (some ⟨b,i+n.toNat*U,none⟩))
 | index {t e:TypeId} {x en:Operand} {len U:Nat} {k:IntKind} {n:Int} {cs:Array Value} {v:Value} (h:R.op= .index t x en) (hu:P.underlying t=some (.array len e)) (ao:bq P e=some U) (J:aJ x= .agg cs)
   (ae:aJ en= .int k n) (aH:0<=n) (o:n<len) (al:dz P (part e cs (n.toNat*U))=some v):hy P aJ R v
 | extract {x:Operand} {i:Nat} {aD:Array Value} {v:Value} (h:R.op= .extract x i) (J:aJ x= .tuple aD) (an:aD[i]?=some v):hy P aJ R v
 | MM {x:Operand} {t e:TypeId} {a:Option Addr} {n c:Nat} (h:R.op= .call {callee:= .builtin .len,args:= #[x],argTypes:= #[t]}) (hu:P.underlying t=some (.slice e)) (J:aJ x= .slice a n c):hy P aJ R (.int .i64 n)
 | makeFunc {fn:Fn} {a b:Array Operand} (h:R.op= .makeFunc fn a b):hy P aJ R (.func fn (a.map aJ) (b.map aJ))
 | M0 {t:TypeId} {x:Operand} (h:R.op= .makeInterface t x) (ad:P.concrete t=true):hy P aJ R (.iface t (aJ x))
 | Jo {t e pf:TypeId} {x y:Operand} {a:Option Addr} {n c:Nat} (h:R.op= .binOp .eql t x y pf) (hu:P.underlying t=some (.slice e)) (J:aJ x= .slice a n c) (aL:aJ y= .slice none 0 0):hy P aJ R (.bool a.isNone)
 | Nc {t e pf:TypeId} {x y:Operand} {a:Option Addr} {n c:Nat} (h:R.op= .binOp .neq t x y pf) (hu:P.underlying t=some (.slice e)) (J:aJ x= .slice a n c) (aL:aJ y= .slice none 0 0):hy P aJ R (.bool (!a.isNone))
theorem e8.map{ah:bd}{aJ cz:Operand->Value}(xs:Array Operand)(h:∀x∈xs,bl ah (aJ x) (cz x)):e8 ah (xs.map aJ) (xs.map cz):=by
 refine⟨by simp,fun i v au an dJ=>?_⟩
 simp only[Array.getElem?_map,Option.map_eq_some_iff]at an dJ
 obtain⟨x,J,rfl⟩:=an
 obtain⟨y,aL,rfl⟩:=dJ
 rw[J]at aL
 obtain rfl:=Option.some.inj aL
 exact h x (Array.mem_of_getElem? J)
theorem bl.om{ah:bd}{k:IntKind}{n:Int}{v:Value}(h:bl ah (.int k n) v):v= .int k n:=by cases h;rfl
theorem bl.IJ{ah:bd}{b:Bool}{v:Value}(h:bl ah (.bool b) v):v= .bool b:=by cases h;rfl
theorem bl.rv{ah:bd}{b i:Nat}{v:Value}(h:bl ah (.pointer (some ⟨b,i,none⟩)) v):∃k,ah b=some k/\v= .pointer (some ⟨k.g,k.R+i,none⟩):=by
 cases h with
 | ptr h=>exact⟨_,h,rfl⟩
theorem bl.Iw{ah:bd}{cs:Array Value}{v:Value}(h:bl ah (.agg cs) v):∃eA,v= .agg eA/\e8 ah cs eA:=by
 cases h with
 | agg ar h=>exact⟨_,rfl,ar,h⟩
theorem bl.aaC{ah:bd}{cs:Array Value}{v:Value}(h:bl ah (.tuple cs) v):∃eA,v= .tuple eA/\e8 ah cs eA:=by
 cases h with
 | tuple ar h=>exact⟨_,rfl,ar,h⟩
theorem bl.Bp{ah:bd}{b i len cap:Nat}{v:Value}(h:bl ah (.slice (some ⟨b,i,none⟩) len cap) v)(aH:0<len):
  ∃k dC,ah b=some k/\v= .slice (some ⟨k.g,k.R+i,none⟩) len dC/\len<=cap/\cap<=dC/\(k.loose=false->dC=cap)/\(k.loose=true->k.R+i+dC*k.U<=k.N):=by
 cases h with
 | void=>omega
 | empty=>omega
 | slice h ad ar fO J bX=>exact⟨_,_,h,rfl,ar,fO,J,bX⟩
theorem bl.qe{ah:bd}{a:Option Addr}{len cap:Nat}{v:Value}(h:bl ah (.slice a len cap) v):∃fw dC,v= .slice fw len dC/\len<=dC/\len<=cap/\cap<=dC/\fw.isNone=a.isNone:=by
 cases h with
 | rn=>exact⟨_,_,rfl,Nat.le_refl _,Nat.le_refl _,Nat.le_refl _,rfl⟩
 | void=>exact⟨_,_,rfl,Nat.le_refl _,Nat.le_refl _,Nat.le_refl _,rfl⟩
 | empty=>exact⟨_,_,rfl,Nat.zero_le _,Nat.le_refl _,Nat.zero_le _,rfl⟩
 | slice h ad ar fO J bX=>exact⟨_,_,rfl,Nat.le_trans ar fO,ar,fO,rfl⟩
theorem pq{g R n:Nat}:(⟨g,R,none⟩:Addr).add n=⟨g,R+n,none⟩:=by unfold Addr.add;split<;>simp_all
theorem N1{P:Program}(w:World)(d:Nat)(t e:TypeId)(a:Option Addr)(n c:Nat)(h:P.underlying t=some (.slice e)):
  (Op.equalIn (d+1) t (.slice a n c) (.slice none 0 0)).run P w= .ok a.isNone w:=by
 cases a<;>simp[Op.equalIn,run_underlying h]
theorem ZF{P:Program}(w:World)(t e:TypeId)(a:Option Addr)(n c:Nat)(h:P.underlying t=some (.slice e)):
  (binOp .eql t (.slice a n c) (.slice none 0 0)).run P w= .ok (.bool a.isNone) w:=by
 simp only[binOp]
 simp[Op.equal,Op.maxDepth,N1 w 9999 t e a n c h]
theorem ZG{P:Program}(w:World)(t e:TypeId)(a:Option Addr)(n c:Nat)(h:P.underlying t=some (.slice e)):
  (binOp .neq t (.slice a n c) (.slice none 0 0)).run P w= .ok (.bool (!a.isNone)) w:=by
 simp only[binOp]
 simp[Op.equal,Op.maxDepth,N1 w 9999 t e a n c h]
theorem Cw{P:Program}{aJ cz:Operand->Value}{R:Oper}{v:Value}{ah:bd}(h:hy P aJ R v)(dq:∀x∈R.op.operands,bl ah (aJ x) (cz x))(w:World):
  ∃au,(execOp cz R).run P w= .ok (.value au) w/\bl ah v au:=by
 cases h with
 | move h=>exact⟨_,by simp[execOp,h],dq _ (by simp[h,Op.operands])⟩
 | assign h=>exact⟨_,by simp[execOp,h],dq _ (by simp[h,Op.operands])⟩
 | pick h ad=>
  rename_i c a b t
  have o:=(ad▸dq c (by simp[h,Op.operands])).IJ
  refine⟨if t then cz a else cz b,by simp[execOp,h,o,asBool],?_⟩
  cases t
  ·exact dq b (by simp[h,Op.operands])
  ·exact dq a (by simp[h,Op.operands])
 | pure a5 ay an h=>
  have he:execOp aJ R=execOp cz R:=by
   refine execOp_congr R (fun cs b e=>?_) fun x J=>(JA (by simpa using Array.all_eq_true'.1 ay x J) (dq x J)).symm
   simp[bR,e]at a5
  exact⟨v,ry _ _ (he▸h) w,tQ ah an⟩
 | build h aM dS al=>
  rename_i t aW z
  obtain⟨au,o,aa⟩:=Qa (cz:=cz) aM dS (fun p aY=>dq p.2 (by simp[h,Op.operands];exact⟨p.1,by simpa using aY⟩)) al
  exact⟨au,by simp[execOp,h,ry _ _ o w],aa⟩
 | nilCheck h J=>
  rename_i x a
  have o:=dq x (by simp[h,Op.operands])
  rw[J]at o⊢
  obtain⟨fw,he⟩:∃fw,cz x= .pointer (some fw):=by
   generalize cz x=u at o
   cases o<;>exact⟨_,rfl⟩
  exact⟨cz x,by simp[execOp,h,he],o⟩
 | fieldAddr h hu ay ao J=>
  rename_i s x f b i n jO fd
  obtain⟨k,aj,he⟩:=(J▸dq x (by simp[h,Op.operands])).rv
  refine⟨_,?_,.ptr (i:=i+fd.offset) aj⟩
  simp[execOp,h,he,Instr.fieldAt,run_underlying hu,ay,Instr.sureAddr,fieldPlace,km ao,pq,Nat.add_assoc]
 | field h J al=>
  rename_i t x f cs
  obtain⟨eA,he,wX⟩:=(J▸dq x (by simp[h,Op.operands])).Iw
  unfold Instr.field at al
  simp only[fy,ot]at al
  cases hu:P.underlying t with
  | none=>simp[hu]at al
  | some d=>
   simp only[hu,Option.bind_some]at al
   cases d with
   | struct fields=>
    simp only at al
    cases pL:fields[f]? with
    | none=>simp[pL,dz,stuck]at al
    | some fd=>
     simp only[pL,asAgg,fy,e4,Option.bind_some]at al
     obtain⟨au,o,aa⟩:=Nv wX al
     exact⟨au,by simp[execOp,h,he,Instr.field,run_underlying hu,pL,asAgg,ry _ _ o w],aa⟩
   | _=>simp[dz,stuck]at al
 | Mz h hu ao J ae aH o=>
  rename_i t e x en b i len cap U k n
  obtain⟨X_,dC,aj,he,-⟩:=(J▸dq x (by simp[h,Op.operands])).Bp (by omega)
  have gd:=(ae▸dq en (by simp[h,Op.operands])).om
  refine⟨_,?_,.ptr (i:=i+n.toNat*U) aj⟩
  simp[execOp,h,he,gd,Instr.indexAt,asIntOf,run_underlying hu,km ao,aH,o,pq,Nat.add_assoc]
 | Wg h hu ao J ae aH o=>
  rename_i t e x en b i len U k n
  obtain⟨X_,aj,he⟩:=(J▸dq x (by simp[h,Op.operands])).rv
  have gd:=(ae▸dq en (by simp[h,Op.operands])).om
  refine⟨_,?_,.ptr (i:=i+n.toNat*U) aj⟩
  simp[execOp,h,he,gd,Instr.indexAt,Instr.sureAddr,asIntOf,run_underlying hu,km ao,aH,o,pq,Nat.add_assoc]
 | index h hu ao J ae aH o al=>
  rename_i t e x en len U k n cs
  obtain⟨eA,he,wX⟩:=(J▸dq x (by simp[h,Op.operands])).Iw
  have gd:=(ae▸dq en (by simp[h,Op.operands])).om
  obtain⟨au,aY,aa⟩:=Nv wX al
  exact⟨au,by simp[execOp,h,he,gd,Instr.index,asIntOf,run_underlying hu,km ao,aH,o,ry _ _ aY w],aa⟩
 | extract h J an=>
  rename_i x i aD
  obtain⟨eA,he,wX⟩:=(J▸dq x (by simp[h,Op.operands])).aaC
  obtain⟨au,o,aa⟩:=wX.get an
  exact⟨au,by simp[execOp,h,he,Instr.extract,o],aa⟩
 | MM h hu J=>
  rename_i x t e a n c
  obtain⟨fw,dR,he,-⟩:=(J▸dq x (by simp[h,Op.operands,Call.operands])).qe
  exact⟨_,by simp[execOp,h,he,resolve,invoke,builtin,Builtin.len_,run_underlying hu,goInt],.int _ _⟩
 | makeFunc h=>
  rename_i fn a b
  have o:=e8.map a (ah:=ah) (aJ:=aJ) (cz:=cz) fun x J=>dq x (by simp[h,Op.operands,J])
  have aa:=e8.map b (ah:=ah) (aJ:=aJ) (cz:=cz) fun x J=>dq x (by simp[h,Op.operands,J])
  exact⟨_,by simp[execOp,h,Instr.makeFunc],.func fn o.1 o.2 aa.1 aa.2⟩
 | M0 h ad=>
  rename_i t x
  exact⟨_,by simp[execOp,h,run_makeInterface w t _ ad],.iface t (dq x (by simp[h,Op.operands]))⟩
 | Jo h hu J aL=>
  rename_i t e pf x y a n c
  obtain⟨fw,dR,he,-,-,-,aG⟩:=(J▸dq x (by simp[h,Op.operands])).qe
  have p1:=zn rfl (aL▸dq y (by simp[h,Op.operands]))
  refine⟨.bool a.isNone,?_,.bool _⟩
  rw[<-aG]
  simp[execOp,h,he,p1,eqGuard,ZF w t e fw n dR hu]
 | Nc h hu J aL=>
  rename_i t e pf x y a n c
  obtain⟨fw,dR,he,-,-,-,aG⟩:=(J▸dq x (by simp[h,Op.operands])).qe
  have p1:=zn rfl (aL▸dq y (by simp[h,Op.operands]))
  refine⟨.bool (!a.isNone),?_,.bool _⟩
  rw[<-aG]
  simp[execOp,h,he,p1,eqGuard,ZG w t e fw n dR hu]
def ds(P:Program)(t:TypeId):Option Bool:=(P.underlying t).map fun d=>match d with | .struct _ | .array _ _=>true | _=>false
theorem Bf{P:Program}{t:TypeId}{b:Bool}(h:ds P t=some b)(w:World):(isAgg t).run P w= .ok b w:=ry _ _ (by rw[NC];exact h) w
def bI.elem?:bI->Option TypeId
 | .own e _ _=>some e
 | .ro e _=>some e
 | .dead=>none
theorem ck.cell{P:Program}{base:Nat}{ah:bd}{H:ab}{w:World}(h:ck P base ah H w){b j:Nat}{k:iC}{x:bI}{cs:List Value}{v:Value}(ag:ah b=some k)(J:H[b]?=some x)(ad:x.cells?=some cs)
  (aX:cs[j]?=some v):∃au,w.cell? ⟨k.g,k.R+j,none⟩=some au/\bl ah v au:=by
 cases h.e0 b k x ag J with
 | own su ar ae ao aU bX ay bw an=>
  simp only[bI.cells?,Option.some.injEq]at ad
  subst ad
  obtain⟨au,o,aa⟩:=an j v aX
  exact⟨au,by simp[World.cell?,aU,o],aa⟩
 | ro ae ao an df=>
  simp only[bI.cells?,Option.some.injEq]at ad
  subst ad
  exact an j v aX
 | dead=>simp[bI.cells?]at ad
theorem ck.cells{P:Program}{base:Nat}{ah:bd}{H:ab}{w:World}(h:ck P base ah H w){b i n:Nat}{k:iC}{x:bI}{cs:List Value}(ag:ah b=some k)(J:H[b]?=some x)(ad:x.cells?=some cs)
  (bw:i+n<=cs.length):∃aD:List Value,aD.length=n/\(∀(j:Nat) (v:Value),aD[j]?=some v->w.cell? ((⟨k.g,k.R+i,none⟩:Addr).add j)=some v)/\cB ah ((cs.drop i).take n) aD:=by
 have key:∀j,j<n->∃v au,cs[i+j]?=some v/\w.cell? ⟨k.g,k.R+(i+j),none⟩=some au/\bl ah v au:=fun j aX=>by
  have a6:i+j<cs.length:=by omega
  obtain⟨au,o,aa⟩:=h.cell ag J ad (bJ a6)
  exact⟨_,au,bJ a6,o,aa⟩
 refine⟨(List.range n).map fun j=>(w.cell? ⟨k.g,k.R+(i+j),none⟩).getD undef,by simp,fun j v aX=>?_,?_,fun j v au an dJ=>?_⟩
 ·have a6:j<n:=by have:=(cK.1 aX).1;simpa using this
  obtain⟨_,au,_,o,_⟩:=key j a6
  simp[a6,o]at aX
  rw[pq,Nat.add_assoc,o,aX]
 ·simp;omega
 ·have a6:j<n:=by have:=(cK.1 dJ).1;simpa using this
  obtain⟨u,OW,aH,o,aa⟩:=key j a6
  simp[a6,o]at dJ
  rw[List.getElem?_take_of_lt a6,List.getElem?_drop,aH]at an
  cases an
  subst dJ
  exact aa
def db(cs:List Value)(i:Nat)(aD:List Value):List Value:=cs.take i++aD++cs.drop (i+aD.length)
theorem nt{cs aD:List Value}{i:Nat}(h:i+aD.length<=cs.length):(db cs i aD).length=cs.length:=by simp[db];omega
theorem aai(cs:List Value)(i:Nat):db cs i []=cs:=by simp[db]
theorem aaj{cs:List Value}{i:Nat}(v:Value)(h:i<cs.length):db cs i [v]=cs.set i v:=by
 simp only[db,List.length_cons,List.length_nil]
 rw[List.set_eq_take_append_cons_drop,if_pos h]
 simp
theorem aah(cs aD:List Value)(i:Nat)(v:Value)(h:i+1+aD.length<=cs.length):db (cs.set i v) (i+1) aD=db cs i (v::aD):=by
 simp only[db,List.length_cons]
 rw[List.set_eq_take_append_cons_drop,if_pos (by omega)]
 have o:(cs.take i).length=i:=by simp;omega
 have bk:(cs.take i++v::cs.drop (i+1)).take (i+1)=cs.take i++[v]:=by
  rw[List.take_append,List.take_of_length_le (by omega),o]
  simp[show i+1-i=1 by omega]
 have bg:(cs.take i++v::cs.drop (i+1)).drop (i+1+aD.length)=cs.drop (i+(aD.length+1)):=by
  rw[List.drop_append,List.drop_eq_nil_of_le (by omega),o,List.nil_append,show i+1+aD.length-i=aD.length+1 by omega,List.drop_succ_cons,List.drop_drop]
  congr 1
  omega
 rw[bk,bg]
 simp
theorem rE{cs aD:List Value}{i j:Nat}(h:i+aD.length<=cs.length):(db cs i aD)[j]?=if i<=j/\j<i+aD.length then aD[j-i]? else cs[j]?:=by
 simp only[db]
 have o:(cs.take i).length=i:=by simp;omega
 by_cases aX:j<i
 ·rw[if_neg (by omega),List.append_assoc,List.getElem?_append_left (by omega),List.getElem?_take_of_lt aX]
 ·by_cases lK:j<i+aD.length
  ·rw[if_pos ⟨by omega,lK⟩,List.append_assoc,List.getElem?_append_right (by omega),o,List.getElem?_append_left (by omega)]
  ·rw[if_neg (by omega),List.getElem?_append_right (by simp;omega),List.getElem?_drop]
   congr 1
   simp
   omega
theorem aak{ah:bd}{cs:List Value}{cur:Array Value}{aD hr:List Value}{R i:Nat}(an:∀(j:Nat) (v:Value),cs[j]?=some v->∃au,cur[R+j]?=some au/\bl ah v au)(ar:cB ah aD hr)(bw:i+aD.length<=cs.length)
  (oS:R+cs.length<=cur.size):∀(j:Nat) (v:Value),(db cs i aD)[j]?=some v->∃au,(db cur.toList (R+i) hr).toArray[R+j]?=some au/\bl ah v au:=by
 intro j v aX
 rw[rE bw]at aX
 have e:(db cur.toList (R+i) hr).toArray[R+j]?=(db cur.toList (R+i) hr)[R+j]?:=by simp
 rw[e,rE (by rw[<-ar.1];simp;omega),<-ar.1]
 split at aX
 ·rename_i ad
  rw[if_pos (by omega),show R+j-(R+i)=j-i by omega]
  exact ar.get aX
 ·rename_i ad
  rw[if_neg (by omega)]
  obtain⟨au,o,aa⟩:=an j v aX
  exact⟨au,by simpa using o,aa⟩
theorem Z1{w:World}{g p:Nat}{cur:Array Value}{e:TypeId}{ej:Nat×Nat}(aU:w.heap[g]?=some (.cells cur e ej))(v:Value):
  w.setCell ⟨g,p,none⟩ v=ia w g (.cells (cur.setIfInBounds p v) e ej):=by
 obtain⟨a6,he⟩:=Array.getElem?_eq_some_iff.1 aU
 simp only[World.setCell,ia]
 congr 1
 apply Array.ext_getElem?
 intro i
 rw[Array.getElem?_modify,Array.getElem?_setIfInBounds]
 split
 ·rename_i ae
  subst ae
  rw[aU]
  rfl
 ·rfl
theorem Za(w:World)(g:Nat)(x y:Obj):ia (ia w g x) g y=ia w g y:=by simp[ia]
theorem Y_{w:World}{g:Nat}{x:Obj}(h:w.heap[g]?=some x):ia w g x=w:=by
 obtain⟨a6,he⟩:=Array.getElem?_eq_some_iff.1 h
 unfold ia
 have:w.heap.setIfInBounds g x=w.heap:=by
  apply Array.ext_getElem?
  intro i
  rw[Array.getElem?_setIfInBounds]
  split
  ·rename_i ae;subst ae;rw[h]
  ·rfl
 rw[this]
theorem Fu{P:Program}(g off:Nat)(e:TypeId)(ej:Nat×Nat):∀(aD:List Value) (i:Nat) (cur:Array Value) (w:World),w.heap[g]?=some (.cells cur e ej)->l4 ej cur.size->off+i+aD.length<=cur.size->
  (∀v∈aD,v.oneCell'=true)->(storeCells ⟨g,off,none⟩ aD i).run P w= .ok () (ia w g (.cells (db cur.toList (off+i) aD).toArray e ej))
 | [],i,cur,w,aU,_,_,_=>by
  rw[aai,Y_ (by simpa using aU)]
  rfl
 | v::aD,i,cur,w,aU,ay,bw,o=>by
  simp only[List.length_cons]at bw
  have a6:off+i<cur.size:=by omega
  have iM:w.cell? ⟨g,off+i,none⟩=some cur[off+i]:=by simp[World.cell?,aU,a6]
  have KN:w.frozen? ⟨g,off+i,none⟩=false:=by
   have:=ay (off+i) a6
   simp only[World.frozen?,aU]
   simpa using this
  have ao:(store ((⟨g,off,none⟩:Addr).add i) v).run P w= .ok () (ia w g (.cells (cur.setIfInBounds (off+i) v) e ej)):=by
   rw[pq,run_store P w _ v _ (o v List.mem_cons_self),iM]
   simp only[KN]
   rw[<-Z1 aU]
   rfl
  have Dw:(ia w g (.cells (cur.setIfInBounds (off+i) v) e ej)).heap[g]?=some (.cells (cur.setIfInBounds (off+i) v) e ej):=E9 w _ _ (Array.getElem?_eq_some_iff.1 aU).1
  have a2:=Fu (P:=P) g off e ej aD (i+1) (cur.setIfInBounds (off+i) v) _ Dw (by simpa using ay) (by simp;omega) fun u hu=>o u (List.mem_cons_of_mem _ hu)
  simp only[storeCells,Sem.run_bind,ao,Result.andThen_ok,a2,Za]
  congr 4
  rw[<-aah _ _ _ _ (by simp;omega)]
  simp[Nat.add_assoc]
def yq(s:ByteArray):List Value:=s.data.toList.map fun b=> .int .u8 b.toNat
inductive Src (H:ab) (U:Nat):Value->Nat->Nat->List Value->Prop
 | vF {a:Option Addr} {m c:Nat}:Src H U (.slice a m c) m 0 []
 | row {b i n m c:Nat} {x:bI} {cs:List Value} (J:H[b]?=some x) (ad:x.cells?=some cs) (aG:0<n) (hm:n<=m) (bw:i+n*U<=cs.length):Src H U (.slice (some ⟨b,i,none⟩) m c) m n ((cs.drop i).take (n*U))
 | str {s:ByteArray} (o:U=1):Src H U (.string s) s.size s.size (yq s)
theorem ta{P:Program}{base:Nat}{ah:bd}{H:ab}{w:World}{U m n:Nat}{v au:Value}{news:List Value}(ao:Src H U v m n news)(h:ck P base ah H w)(an:bl ah v au):
  (Builtin.lenOf au).run P w= .ok m w/\news.length=n*U/\∃hp:List Value,(∀a7:World,a7.heap=w.heap->(Builtin.firstCells U n au).run P a7= .ok hp.toArray a7)/\cB ah news hp:=by
 cases ao with
 | vF=>
  obtain⟨fw,dR,rfl,-⟩:=an.qe
  refine⟨by simp[Builtin.lenOf],by simp,[],fun a7 _=>?_,cB.nil ah⟩
  cases fw<;>simp[Builtin.firstCells,loadCells,loadCellsFrom]
 | row J ad aG hm bw=>
  rename_i b i c x cs
  obtain⟨k,dC,aj,rfl,-⟩:=an.Bp (by omega)
  obtain⟨aD,ar,iM,al⟩:=h.cells aj J ad bw
  refine⟨by simp[Builtin.lenOf],by simp;omega,aD,fun a7 hw=>?_,al⟩
  simp only[Builtin.firstCells]
  rw[<-ar]
  exact run_loadCells_list a7 _ aD fun j u hu=>by rw[Ch (w:=w) (by rw[hw])];exact iM j u hu
 | str o=>
  rename_i s
  have he:au= .string s:=by cases an;rfl
  subst he
  refine⟨by simp[Builtin.lenOf],by rw[o,Nat.mul_one];unfold yq;rw[List.length_map];rfl,yq s,fun a7 _=>?_,rfl,fun i v au J aL=>?_⟩
  ·simp only[Builtin.firstCells,yq]
   have e:(s.extract 0 s.size).data=s.data:=by
    rw[ByteArray.data_extract];exact Array.extract_size
   rw[e]
   simp only[Sem.run_pure]
   congr 1
   apply Array.ext'
   simp
  ·rw[J]at aL
   obtain rfl:=Option.some.inj aL
   simp only[yq,List.getElem?_map,Option.map_eq_some_iff]at J
   obtain⟨b,-,rfl⟩:=J
   exact .int _ _
def fH(P:Program)(base:Nat)(ah:bd)(H:ab)(w:World)(s:Sem Value)(v:Value)(aF:ab):Prop:=
 ∃bs au a7,s.run P w= .ok au a7/\bl bs v au/\ck P base bs aF a7/\Step ah H w bs aF a7
theorem ck.B7{P:Program}{base:Nat}{ah:bd}{H:ab}{w:World}(h:ck P base ah H w){e:TypeId}{n:Nat}(ao:bq P e=some n){cs:List Value}{cur:Array Value}{ej:Nat×Nat}(l:Bool)(ay:l4 ej cur.size)(bw:cs.length<=cur.size)
  (an:∀(i:Nat) (v:Value),cs[i]?=some v->∃au,cur[i]?=some au/\bl ah v au):
  ck P base (ah.put H.length ⟨w.heap.size,0,cur.size,n,l⟩) (H++[.own e l cs]) (w.alloc (.cells cur e ej))/\Step ah H w (ah.put H.length ⟨w.heap.size,0,cur.size,n,l⟩) (H++[.own e l cs]) (w.alloc (.cells cur e ej)):=by
 unfold bq at ao
 obtain⟨inf,ae,aG⟩:=Option.map_eq_some_iff.1 ao
 exact h.alloc ae aG ay bw an
theorem l4.zero(n:Nat):l4 (0,0) n:=fun j _ h=>by simp at h
theorem ck.MG{P:Program}{base:Nat}{ah:bd}{H:ab}{w:World}(h:ck P base ah H w)(x:Obj):ck P base ah H (w.alloc x)/\Step ah H w ah H (w.alloc x):=by
 have hold:∀g,g<w.heap.size->(w.alloc x).heap[g]?=w.heap[g]?:=fun g aU=>heap_alloc_old w _ aU
 refine⟨⟨h.pos,by simp;have:=h.size;omega,h.eK,fun b k y ag aL=>(h.e0 b k y ag aL).gu (fun _ _ h=>h) (fun aG=>hold _ ((h.e0 b k y ag aL).lt aG)) (by simp),h.inj⟩,?_⟩
 exact⟨fun _ _ h=>h,fun _ _ h=> .inl h,Nat.le_refl _,fun b k ag aK=> .inr ⟨b,k,ag,aK,rfl⟩,rfl,rfl,rfl,by simp,fun g aU _=>hold g aU⟩
theorem cB.ofArray{ah:bd}{xs bO:Array Value}(h:e8 ah xs bO):∀(i:Nat) (v:Value),xs.toList[i]?=some v->∃au,bO[i]?=some au/\bl ah v au:=fun i v an=>by
 obtain⟨au,o,aa⟩:=h.toList.get an
 exact⟨au,by simpa using o,aa⟩
section
variable {P:Program} {base:Nat} {ah:bd} {H:ab} {w:World}
theorem QK{e:TypeId}{z:Value}{n:Nat}(h:ck P base ah H w)(aM:dA P e=some z)(dS:flat z=true)(ao:bq P e=some n):
  fH P base ah H w (Instr.alloc e true (.tuple #[])) (.pointer (some ⟨H.length,0,none⟩)) (H++[.own e false z.cells.toList]):=by
 obtain⟨o,aa⟩:=h.B7 (cur:=z.cells) (ej:=(0,0)) ao false (l4.zero _) (by simp) (cB.ofArray (BM dS))
 refine⟨_,.pointer (some ⟨w.heap.size,0,none⟩),_,?_,?_,o,aa⟩
 ·simp[Instr.alloc,Bg aM,newVar,newRow]
 ·exact .ptr (k:=⟨w.heap.size,0,z.cells.size,n,false⟩) (bd.nq _ _ _)
theorem QQ{e:TypeId}{v au:Value}{n:Nat}(h:ck P base ah H w)(an:bl ah v au)(ao:bq P e=some n):
  fH P base ah H w (Instr.box e au) (.pointer (some ⟨H.length,0,none⟩)) (H++[.own e false v.cells.toList]):=by
 obtain⟨o,aa⟩:=h.B7 (cur:=au.cells) (ej:=(0,0)) (cs:=v.cells.toList) ao false (l4.zero _) (by simp[an.cells.1]) (cB.ofArray an.cells)
 refine⟨_,.pointer (some ⟨w.heap.size,0,none⟩),_,?_,?_,o,aa⟩
 ·simp[Instr.box,newVar,newRow]
 ·exact .ptr (k:=⟨w.heap.size,0,au.cells.size,n,false⟩) (bd.nq _ _ _)
theorem QW{t:TypeId}{b i:Nat}{X:bI}{cs:List Value}{v au:Value}(h:ck P base ah H w)(aO:ds P t=some false)(J:bl ah (.pointer (some ⟨b,i,none⟩)) au)(aQ:H[b]?=some X)(ad:X.cells?=some cs)(an:cs[i]?=some v):
  fH P base ah H w (Instr.loadAt t au) v H:=by
 obtain⟨k,aj,rfl⟩:=J.rv
 obtain⟨u,o,aa⟩:=h.cell aj aQ ad an
 exact⟨ah,u,w,by simp[Instr.loadAt,Instr.sureAddr,loadVar,Bf aO,o],aa,h,Step.refl _ _ _⟩
theorem QX{t:TypeId}{b i n:Nat}{X:bI}{cs:List Value}{au:Value}(h:ck P base ah H w)(aO:ds P t=some true)(ao:bq P t=some n)(J:bl ah (.pointer (some ⟨b,i,none⟩)) au)(aQ:H[b]?=some X)(ad:X.cells?=some cs)
  (bw:i+n<=cs.length):fH P base ah H w (Instr.loadAt t au) (.agg ((cs.drop i).take n).toArray) H:=by
 obtain⟨k,aj,rfl⟩:=J.rv
 obtain⟨aD,ar,iM,al⟩:=h.cells aj aQ ad bw
 have gN:=run_loadCells_list (P:=P) w ⟨k.g,k.R+i,none⟩ aD iM
 rw[ar]at gN
 exact⟨ah,.agg aD.toArray,w,by simp[Instr.loadAt,Instr.sureAddr,loadVar,Bf aO,km ao,gN],.agg al.toArray.1 al.toArray.2,h,Step.refl _ _ _⟩
theorem E_{b i:Nat}{k:iC}{e:TypeId}{l:Bool}{cs aD hr:List Value}(h:ck P base ah H w)(ag:ah b=some k)(aQ:H[b]?=some (.own e l cs))(ar:cB ah aD hr)(bw:i+aD.length<=cs.length)(o:∀v∈aD,v.oneCell'=true):
  ∃a7,(storeCells ⟨k.g,k.R+i,none⟩ hr).run P w= .ok () a7/\ck P base ah (H.set b (.own e l (db cs i aD))) a7/\Step ah H w ah (H.set b (.own e l (db cs i aD))) a7:=by
 cases h.e0 b k _ ag aQ with
 | own su g0 ae ao aU bX ay Du an=>
  rename_i cur ej inf
  have gb:(db cs i aD).length=cs.length:=nt bw
  have hlen:hr.length=aD.length:=ar.1.symm
  have JK:∀v∈hr,v.oneCell'=true:=fun au dJ=>by
   obtain⟨j,aX⟩:=List.getElem?_of_mem dJ
   have xb:j<aD.length:=by rw[ar.1];exact(cK.1 aX).1
   have:=(ar.2 j _ _ (bJ xb) aX).Nk
   rw[this]
   exact o _ (List.getElem_mem xb)
  have gN:=Fu (P:=P) k.g (k.R+i) e ej hr 0 cur w aU (bX▸ay) (by omega) JK
  simp only[Nat.add_zero]at gN
  have D0:=aak an ar bw (by omega)
  obtain⟨s1,s2⟩:=h.put (eA:=db cs i aD) (lz:=(db cur.toList (k.R+i) hr).toArray) ag aQ ⟨cur,aU,by rw[List.size_toArray,nt (by simp;omega)];simp⟩ gb D0
  exact⟨_,gN,s1,s2⟩
theorem Q5{t:TypeId}{b i:Nat}{e:TypeId}{l:Bool}{cs:List Value}{y fw mH:Value}(h:ck P base ah H w)(ao:bq P t=some y.cells.size)(aO:bl ah (.pointer (some ⟨b,i,none⟩)) fw)(aL:bl ah y mH)
  (aQ:H[b]?=some (.own e l cs))(bw:i+y.cells.size<=cs.length)(o:(y.cells.toList.all (·.oneCell'))=true):
  ∃a7,(Instr.storeAt t fw mH).run P w= .ok () a7/\ck P base ah (H.set b (.own e l (db cs i y.cells.toList))) a7/\Step ah H w ah (H.set b (.own e l (db cs i y.cells.toList))) a7:=by
 obtain⟨k,aj,rfl⟩:=aO.rv
 obtain⟨a7,al,s1,s2⟩:=E_ (i:=i) h aj aQ aL.cells.toList (by simpa using bw) (fun v an=>by simpa using List.all_eq_true.1 o v an)
 have df:=aL.cells.1
 exact⟨a7,by simp[Instr.storeAt,Instr.sureAddr,storeVar,km ao,<-df,al],s1,s2⟩
def dO(aJ:Operand->Value):Option Operand->Option Nat
 | none=>some 0
 | some x=>match aJ x with
  | .int _ n=>if 0<=n then some n.toNat else none
  | _=>none
def e2(aJ:Operand->Value)(d:Nat):Option Operand->Option Nat
 | none=>some d
 | some x=>match aJ x with
  | .int _ n=>if 0<=n then some n.toNat else none
  | _=>none
theorem run_sliceBound{P:Program}{w:World}{k:IntKind}{n:Int}{y:Nat}{code:BoundsCode}(aH:0<=n)(o:n.toNat<=y):(Instr.sliceBound (.int k n) y code).run P w= .ok n.toNat w:=by
 have:n<=(y:Int):=by omega
 simp[Instr.sliceBound,asIntOf,aH,this]
theorem Ft{aJ cz:Operand->Value}{bb ae:Option Operand}{len cap l cV:Nat}(g0:∀x,bb=some x->bl ah (aJ x) (cz x))(hQ:∀x,ae=some x->bl ah (aJ x) (cz x))(ar:dO aJ bb=some l)(eG:e2 aJ len ae=some cV)
  (o:l<=cV)(aa:cV<=cap)(w:World):(Instr.sliceBounds true len cap (bb.map cz) (ae.map cz) none).run P w= .ok (l,cV,cap) w:=by
 have el:∀x,bb=some x->∃k n,cz x= .int k n/\0<=n/\n.toNat=l:=fun x J=>by
  have an:=g0 x J
  subst J
  simp only[dO]at ar
  split at ar
  ·rename_i k n he
   rw[he]at an
   split at ar
   ·cases ar;exact⟨k,n,an.om,by assumption,rfl⟩
   ·cases ar
  ·cases ar
 have Rs:∀x,ae=some x->∃k n,cz x= .int k n/\0<=n/\n.toNat=cV:=fun x J=>by
  have an:=hQ x J
  subst J
  simp only[e2]at eG
  split at eG
  ·rename_i k n he
   rw[he]at an
   split at eG
   ·cases eG;exact⟨k,n,an.om,by assumption,rfl⟩
   ·cases eG
  ·cases eG
 unfold Instr.sliceBounds
 cases ae with
 | none=>
  have T8:len=cV:=by simpa[e2]using eG
  subst T8
  cases bb with
  | none=>
   have jU:0=l:=by simpa[dO]using ar
   subst jU
   simp
  | some x=>
   obtain⟨k,n,e,aH,rfl⟩:=el x rfl
   simp[e,run_sliceBound (P:=P) (w:=w) (k:=k) aH o]
 | some y=>
  obtain⟨b5,dU,cP,qK,rfl⟩:=Rs y rfl
  cases bb with
  | none=>
   have jU:0=l:=by simpa[dO]using ar
   subst jU
   simp[cP,run_sliceBound (P:=P) (w:=w) (k:=b5) qK aa]
  | some x=>
   obtain⟨k,n,e,aH,rfl⟩:=el x rfl
   simp[e,cP,run_sliceBound (P:=P) (w:=w) (k:=b5) qK aa,run_sliceBound (P:=P) (w:=w) (k:=k) aH o]
theorem N0{aJ cz:Operand->Value}{bb ae fk:Operand}{len cap l cV m:Nat}(g0:bl ah (aJ bb) (cz bb))(hQ:bl ah (aJ ae) (cz ae))(xf:bl ah (aJ fk) (cz fk))(ar:dO aJ (some bb)=some l)(eG:dO aJ (some ae)=some cV)(hm:dO aJ (some fk)=some m)
  (o:l<=cV)(aa:cV<=m)(aA:m<=cap)(w:World):(Instr.sliceBounds true len cap (some (cz bb)) (some (cz ae)) (some (cz fk))).run P w= .ok (l,cV,m) w:=by
 have el:∀x q,bl ah (aJ x) (cz x)->dO aJ (some x)=some q->∃k n,cz x= .int k n/\0<=n/\n.toNat=q:=fun x q an av=>by
  simp only[dO]at av
  split at av
  ·rename_i k n he
   rw[he]at an
   split at av
   ·cases av;exact⟨k,n,an.om,by assumption,rfl⟩
   ·cases av
  ·cases av
 obtain⟨jl,cQ,bk,dm,rfl⟩:=el bb l g0 ar
 obtain⟨kj,cW,bg,fZ,rfl⟩:=el ae cV hQ eG
 obtain⟨s4,j3,fW,eM,rfl⟩:=el fk m xf hm
 simp[Instr.sliceBounds,bk,bg,fW,run_sliceBound (P:=P) (w:=w) (k:=jl) dm o,run_sliceBound (P:=P) (w:=w) (k:=kj) fZ aa,run_sliceBound (P:=P) (w:=w) (k:=s4) eM aA]
theorem yd{t e:TypeId}{U:Nat}{a:Option Addr}{len cap l cV m:Nat}{bb ae fk:Option Value}(hu:P.underlying t=some (.slice e))(ao:bq P e=some U)(ag:(Instr.sliceBounds true len cap bb ae fk).run P w= .ok (l,cV,m) w):
  (Instr.sliceAt t (.slice a len cap) bb ae fk).run P w= .ok (.slice (if m=l then a else a.map (·.add (l*U))) (cV-l) (m-l)) w:=by
 simp[Instr.sliceAt,Instr.slice,run_underlying hu,ag,km ao]
section
variable {aJ cz:Operand->Value} {bb ae:Option Operand}
theorem Q0{t e:TypeId}{U b i len cap l cV:Nat}{X:bI}{ew:Value}(h:ck P base ah H w)(hu:P.underlying t=some (.slice e))(ao:bq P e=some U)(J:bl ah (.slice (some ⟨b,i,none⟩) len cap) ew)(aQ:H[b]?=some X)(he:X.elem?=some e)
  (g0:∀x,bb=some x->bl ah (aJ x) (cz x))(hQ:∀x,ae=some x->bl ah (aJ x) (cz x))(ar:dO aJ bb=some l)(eG:e2 aJ len ae=some cV)(o:l<=cV)(aa:cV<=cap)(a6:l<cap):
  fH P base ah H w (Instr.sliceAt t ew (bb.map cz) (ae.map cz) none) (.slice (some ⟨b,i+l*U,none⟩) (cV-l) (cap-l)) H:=by
 cases J with
 | void=>omega
 | empty=>omega
 | slice aj ad hle fO oi bX=>
  rename_i k dC
  have ag:=Ft (P:=P) (cap:=dC) g0 hQ ar eG o (by omega) w
  refine⟨ah,_,w,yd hu ao ag,?_,h,Step.refl _ _ _⟩
  rw[if_neg (by omega)]
  simp only[Option.map_some,pq,Nat.add_assoc]
  refine .slice aj (by omega) (by omega) (by omega) (fun ay=>by have:=oi ay;omega) fun bM=>?_
  have z3:k.U=U:=by
   have nZ:=h.e0 b k X aj aQ
   cases nZ with
   | own su g0 ae Vr aU bX ay Du an=>
    simp only[bI.elem?,Option.some.injEq]at he
    subst he
    simp only[bq,ae,Option.map_some,Option.some.injEq]at ao
    omega
   | ro ae Vr an df=>
    simp only[bI.elem?,Option.some.injEq]at he
    subst he
    simp only[bq,ae,Option.map_some,Option.some.injEq]at ao
    omega
   | dead=>simp[bI.elem?]at he
  have:=bX bM
  rw[z3]at this⊢
  have bk:l*U+(dC-l)*U=dC*U:=by rw[<-Nat.add_mul];congr 1;omega
  omega
end
end
section
variable {P:Program} {base:Nat} {ah:bd} {H:ab} {w:World} {aJ cz:Operand->Value} {bb ae:Option Operand}
theorem Q3{t e:TypeId}{U b i len cap:Nat}{ew:Value}(h:ck P base ah H w)(hu:P.underlying t=some (.slice e))(ao:bq P e=some U)(J:bl ah (.slice (some ⟨b,i,none⟩) len cap) ew)(qT:0<cap)
  (g0:∀x,bb=some x->bl ah (aJ x) (cz x))(hQ:∀x,ae=some x->bl ah (aJ x) (cz x))(ar:dO aJ bb=some cap)(eG:e2 aJ len ae=some cap):
  fH P base ah H w (Instr.sliceAt t ew (bb.map cz) (ae.map cz) none) (.slice (some ⟨b,i,none⟩) 0 0) H:=by
 cases J with
 | void=>omega
 | empty=>omega
 | slice aj ad hle fO oi bX=>
  rename_i k dC
  have ag:=Ft (P:=P) (cap:=dC) g0 hQ ar eG (Nat.le_refl _) fO w
  have mX:b≠0:=by have:=(h.eK b k aj).1;omega
  refine⟨ah,_,w,yd hu ao ag,?_,h,Step.refl _ _ _⟩
  rw[Nat.sub_self]
  by_cases hm:dC=cap
  ·rw[if_pos hm];exact .empty mX _ _
  ·rw[if_neg hm];exact .empty mX _ _
theorem Q4{t e:TypeId}{U:Nat}{a:Option Addr}{ew:Value}(h:ck P base ah H w)(hu:P.underlying t=some (.slice e))(ao:bq P e=some U)(J:bl ah (.slice a 0 0) ew)
  (g0:∀x,bb=some x->bl ah (aJ x) (cz x))(hQ:∀x,ae=some x->bl ah (aJ x) (cz x))(ar:dO aJ bb=some 0)(eG:e2 aJ 0 ae=some 0):
  fH P base ah H w (Instr.sliceAt t ew (bb.map cz) (ae.map cz) none) (.slice a 0 0) H:=by
 have key:∀(fw:Option Addr) (c:Nat),(Instr.sliceAt t (.slice fw 0 c) (bb.map cz) (ae.map cz) none).run P w= .ok (.slice fw 0 c) w:=fun fw c=>by
  rw[yd hu ao (Ft (P:=P) (cap:=c) g0 hQ ar eG (Nat.le_refl _) (Nat.zero_le _) w)]
  congr 2
  split
  ·rfl
  ·cases fw with
   | none=>rfl
   | some r4=>simp[Addr.add]
 obtain⟨fw,dR,rfl,-⟩:=J.qe
 exact⟨ah,_,w,key _ _,J,h,Step.refl _ _ _⟩
theorem Q2{t e:TypeId}{U len cap l:Nat}{a:Addr}{ew:Value}{bb ae fk:Operand}(h:ck P base ah H w)(hu:P.underlying t=some (.slice e))(ao:bq P e=some U)(J:bl ah (.slice (some a) len cap) ew)
  (g0:bl ah (aJ bb) (cz bb))(hQ:bl ah (aJ ae) (cz ae))(xf:bl ah (aJ fk) (cz fk))(ar:dO aJ (some bb)=some l)(eG:dO aJ (some ae)=some l)(hm:dO aJ (some fk)=some l)(aA:l<=cap):
  fH P base ah H w (Instr.sliceAt t ew (some (cz bb)) (some (cz ae)) (some (cz fk))) (.slice (some ⟨0,0,none⟩) 0 0) H:=by
 obtain⟨fw,dR,rfl,-,-,bo,bK⟩:=J.qe
 cases fw with
 | none=>simp at bK
 | some r4=>
  refine⟨ah,_,w,yd hu ao (N0 (P:=P) (cap:=dR) (len:=len) g0 hQ xf ar eG hm (Nat.le_refl _) (Nat.le_refl _) (Nat.le_trans aA bo) w),?_,h,Step.refl _ _ _⟩
  rw[if_pos rfl,Nat.sub_self]
  exact .void 0 r4
theorem Q1{t e:TypeId}{U:Nat}{ew:Value}{bb ae fk:Operand}(h:ck P base ah H w)(hu:P.underlying t=some (.slice e))(ao:bq P e=some U)(J:bl ah (.slice none 0 0) ew)
  (g0:bl ah (aJ bb) (cz bb))(hQ:bl ah (aJ ae) (cz ae))(xf:bl ah (aJ fk) (cz fk))(ar:dO aJ (some bb)=some 0)(eG:dO aJ (some ae)=some 0)(hm:dO aJ (some fk)=some 0):
  fH P base ah H w (Instr.sliceAt t ew (some (cz bb)) (some (cz ae)) (some (cz fk))) (.slice none 0 0) H:=by
 cases J with
 | rn=>
  refine⟨ah,_,w,yd hu ao (N0 (P:=P) (cap:=0) (len:=0) g0 hQ xf ar eG hm (Nat.le_refl _) (Nat.le_refl _) (Nat.le_refl _) w),?_,h,Step.refl _ _ _⟩
  exact .rn
theorem fH.O_{s:Sem Value}(h:ck P base ah H w){x:Obj}(al:s.run P w= .ok (.slice (some ⟨w.heap.size,0,none⟩) 0 0) (w.alloc x)):fH P base ah H w s (.slice (some ⟨0,0,none⟩) 0 0) H:=
 ⟨ah,_,_,al,.void 0 _,(h.MG x).1,(h.MG x).2⟩
theorem fH.AW{s:Sem Value}{e:TypeId}{U len cap dC:Nat}{cs:List Value}{cur:Array Value}{ej:Nat×Nat}{l:Bool}(h:ck P base ah H w)(ao:bq P e=some U)
  {d_:World}(pZ:d_.heap=w.heap)(sG:d_.os=w.os)(Vz:d_.tape=w.tape)(DQ:d_.output=w.output)
  (al:s.run P w= .ok (.slice (some ⟨w.heap.size,0,none⟩) len dC) (d_.alloc (.cells cur e ej)))(ay:l4 ej cur.size)(bw:cs.length<=cur.size)(an:∀(i:Nat) (v:Value),cs[i]?=some v->∃au,cur[i]?=some au/\bl ah v au)
  (ad:0<cap)(hle:len<=cap)(fO:cap<=dC)(J:l=false->dC=cap)(bX:l=true->dC*U<=cur.size):fH P base ah H w s (.slice (some ⟨H.length,0,none⟩) len cap) (H++[.own e l cs]):=by
 have D0:ck P base ah H d_:=h.heap pZ
 have c8:Step ah H w ah H d_:=⟨fun _ _ h=>h,fun _ _ h=> .inl h,Nat.le_refl _,fun b k ag aK=> .inr ⟨b,k,ag,aK,rfl⟩,sG,Vz,DQ,by rw[pZ];exact Nat.le_refl _,fun g _ _=>by rw[pZ]⟩
 obtain⟨o,aa⟩:=D0.B7 (cs:=cs) (cur:=cur) (ej:=ej) ao l ay bw an
 refine⟨_,_,_,al,?_,o,c8.trans aa⟩
 have:=bl.slice (ah:=ah.put H.length ⟨d_.heap.size,0,cur.size,U,l⟩) (b:=H.length) (i:=0) (k:=⟨d_.heap.size,0,cur.size,U,l⟩) (len:=len) (cap:=cap) (dC:=dC) (bd.nq _ _ _) ad hle fO J
  (fun bM=>by have:=bX bM;simp only;omega)
 simp only[pZ]at this⊢
 exact this
def made(z:Value)(n:Nat):List Value:=(List.range n).map fun i=>z.cells[i % z.cells.size]!
theorem MZ(z:Value)(n:Nat):(Array.range n).map (fun i=>z.cells[i % z.cells.size]!)=(made z n).toArray:=by
 apply Array.ext'
 simp[made]
theorem MY{z:Value}(aM:flat z=true)(h6:0<z.cells.size)(n:Nat):∀(i:Nat) (v:Value),(made z n)[i]?=some v->∃au,(made z n).toArray[i]?=some au/\bl ah v au:=fun i v an=>by
 refine⟨v,by simpa using an,?_⟩
 simp only[made,List.getElem?_map,Option.map_eq_some_iff]at an
 obtain⟨j,-,rfl⟩:=an
 have a6:j % z.cells.size<z.cells.size:=Nat.mod_lt _ h6
 have e:z.cells[j % z.cells.size]! =z.cells[j % z.cells.size]:=by simp[a6]
 rw[e]
 exact(BM aM).2 _ _ _ (Array.getElem?_eq_getElem a6) (Array.getElem?_eq_getElem a6)
theorem NO(f:Nat->Value):(Array.range 0).map f= #[]:=by apply Array.ext';simp
theorem wrap_small{n:Nat}(h:n<=281474976710656):IntKind.i64.wrap (n:Int)=n:=by
 have:=IntWalk.i64_in (n:Int) (by omega)
 exact this
theorem QY{t e:TypeId}{U bA l c:Nat}{eW c4:IntKind}{z:Value}(h:ck P base ah H w)(hu:P.underlying t=some (.slice e))(ao:bq P e=some U)(ag:bytes? P e=some bA)(aM:dA P e=some z)(dS:flat z=true)(dg:z.cells.size=U)
  (df:0<U)(dY:0<bA)(mn:l<=c)(ad:0<c)(bw:bA*c<=281474976710656):fH P base ah H w (Instr.makeSlice t (.int eW l) (.int c4 c)) (.slice (some ⟨H.length,0,none⟩) l c) (H++[.own e false (made z (c*U))]):=by
 have lH:c<=281474976710656:=Nat.le_trans (Nat.le_mul_of_pos_left _ dY) bw
 refine fH.AW (d_:=w) (cur:=(made z (c*U)).toArray) (ej:=(0,0)) (l:=false) (cap:=c) (dC:=c) h ao rfl rfl rfl rfl ?_ (l4.zero _) (by simp) (MY dS (by omega) _) ad mn (Nat.le_refl _) (fun _=>rfl) (fun h=>by cases h)
 have mh:(typeInfo e).run P w=(match P.info? e with | some i=> .ok i w | none=> .halt (.stuck "no such type") w):=by
  unfold typeInfo;simp;cases P.info? e<;>rfl
 obtain⟨inf,ae,zS⟩:=Option.map_eq_some_iff.1 (show(P.info? e).map (·.bytes)=some bA from ag)
 have aG:¬(c*U=0):=by have:=Nat.mul_pos ad df;omega
 have KL:¬(281474976710656:Int)<(bA:Int)*(c:Int):=by
  have:((bA*c:Nat):Int)<=281474976710656:=by omega
  rw[Int.natCast_mul]at this
  omega
 have Up:¬(c:Int)<(l:Int):=by omega
 have pT:¬(c:Int)<0:=by omega
 have UF:¬(l:Int)<0:=by omega
 simp[Instr.makeSlice,run_underlying hu,asInt,asIntOf,mh,ae,zS,wrap_small (Nat.le_trans mn lH),wrap_small lH,KL,Up,pT,UF,km ao,aG,Bg aM,newRow]
 rw[show c*U=c*U from rfl,<-MZ]
theorem QZ{t e:TypeId}{U bA:Nat}{eW c4:IntKind}(h:ck P base ah H w)(hu:P.underlying t=some (.slice e))(ao:bq P e=some U)(ag:bytes? P e=some bA):
  fH P base ah H w (Instr.makeSlice t (.int eW 0) (.int c4 0)) (.slice (some ⟨0,0,none⟩) 0 0) H:=by
 obtain⟨inf,ae,zS⟩:=Option.map_eq_some_iff.1 (show(P.info? e).map (·.bytes)=some bA from ag)
 have mh:(typeInfo e).run P w= .ok inf w:=by unfold typeInfo;simp[ae]
 refine fH.O_ (x:= .cells #[] e) h ?_
 have d_:IntKind.i64.wrap 0=0:=by decide
 simp[Instr.makeSlice,run_underlying hu,asInt,asIntOf,mh,d_,km ao,newRow]
 rw[NO]
theorem QR{t e:TypeId}{U len:Nat}{aW:Array (Nat×Operand)}{z:Value}{out:Array Value}(h:ck P base ah H w)(hu:P.underlying t=some (.slice e))(ao:bq P e=some U)(aM:dA P e=some z)(dS:flat z=true)(dg:z.cells.size=U)
  (df:0<U)(ar:0<len)(bw:len*U<=16777216)(aY:∀p∈aW,bl ah (aJ p.2) (cz p.2))(ay:Instr.fill (fun i=>some (i*U,U)) (made z (len*U)).toArray (aW.toList.map fun p=>(p.1,aJ p.2))=some out)(sG:out.size=len*U):
  fH P base ah H w (Instr.buildSlice t len (aW.map fun p=>(p.1,cz p.2))) (.slice (some ⟨H.length,0,none⟩) len len) (H++[.own e false out.toList]):=by
 have q4:∀p∈aW.toList,bl ah (aJ p.2) (cz p.2):=fun p hm=>aY p (by simpa using hm)
 have hm:e8 ah (made z (len*U)).toArray (made z (len*U)).toArray:=⟨rfl,fun i v au an dJ=>by
  obtain⟨u,o,aa⟩:=MY (ah:=ah) dS (by omega) (len*U) i v (by simpa using an)
  rw[dJ]at o
  cases o
  exact aa⟩
 obtain⟨g1,o,aa⟩:=zm (cz:=cz) _ aW.toList _ _ out q4 hm ay
 refine fH.AW (d_:=w) (cur:=g1) (ej:=(0,0)) (l:=false) (cap:=len) (dC:=len) h ao rfl rfl rfl rfl ?_ (l4.zero _) (by simp[aa.1]) (cB.ofArray aa) ar (Nat.le_refl _) (Nat.le_refl _) (fun _=>rfl) (fun h=>by cases h)
 have aG:¬(len*U=0):=by have:=Nat.mul_pos ar df;omega
 have KL:¬(16777216<len*U):=by omega
 have dG:(aW.map fun p=>(p.1,cz p.2)).toList=aW.toList.map fun p=>(p.1,cz p.2):=by simp
 simp only[Instr.buildSlice,Sem.run_bind,run_underlying hu,Result.andThen_ok,km ao]
 rw[if_neg (by omega),if_neg aG]
 simp only[Sem.run_bind,Bg aM,Result.andThen_ok,Sem.run_pure]
 rw[MZ,dG,o]
 simp[newRow]
theorem QS{t e:TypeId}{U:Nat}(h:ck P base ah H w)(hu:P.underlying t=some (.slice e))(ao:bq P e=some U):fH P base ah H w (Instr.buildSlice t 0 #[]) (.slice (some ⟨0,0,none⟩) 0 0) H:=by
 refine fH.O_ (x:= .cells #[] e) h ?_
 simp[Instr.buildSlice,run_underlying hu,km ao,newRow,Instr.fill]
 rw[NO]
def fB(P:Program)(t:TypeId):Bool:=match P.underlying t with
 | some (.slice _) | some .string=>true
 | _=>false
theorem Oe{t:TypeId}(h:fB P t=true):(∃e,P.underlying t=some (.slice e))\/P.underlying t=some .string:=by
 unfold fB at h
 split at h
 ·rename_i e he;exact .inl ⟨e,he⟩
 ·rename_i he;exact .inr he
 ·cases h
theorem Fs{bV cI e ty:TypeId}{U:Nat}{a:Option Addr}{len cap n:Nat}{x:Value}{news:List Value}(hu:P.underlying bV=some (.slice e))(J:fB P cI=true)(ao:bq P e=some U)
  (ar:(Builtin.lenOf x).run P w= .ok n w)(ay:(Builtin.firstCells U n x).run P w= .ok news.toArray w)(gM:len+n<=cap){a7:World}(c8:(match a with | some r4=>storeCells (r4.add (len*U)) news | none=>pure ()).run P w= .ok () a7):
  (Builtin.append_ #[bV,cI] ty #[.slice a len cap,x]).run P w= .ok (.slice a (len+n) cap) a7:=by
 rcases Oe J with⟨cP,aB⟩ | aB
 all_goals
  cases a with
  | none=>
   simp at c8
   subst c8
   simp[Builtin.append_,run_underlying hu,run_underlying aB,km ao,ar,gM,ay]
  | some r4=>
   simp at c8
   simp[Builtin.append_,run_underlying hu,run_underlying aB,km ao,ar,gM,ay,c8]
theorem NZ{bV cI e ty:TypeId}{U bA:Nat}{z:Value}{a:Option Addr}{len cap n:Nat}{x:Value}{s8 news:List Value}(hu:P.underlying bV=some (.slice e))(J:fB P cI=true)(ao:bq P e=some U)(ag:bytes? P e=some bA)(aM:dA P e=some z)
  (ar:(Builtin.lenOf x).run P w= .ok n w)(ay:∀a7:World,a7.heap=w.heap->(Builtin.firstCells U n x).run P a7= .ok news.toArray a7)(g7:∀a7:World,a7.heap=w.heap->(Builtin.firstCells U len (.slice a len cap)).run P a7= .ok s8.toArray a7)
  (gM:cap<len+n)(bw:(len+n)*bA<=140737488355328)(dY:0<bA):
  (Builtin.append_ #[bV,cI] ty #[.slice a len cap,x]).run P w= .ok (.slice (some ⟨w.heap.size,0,none⟩) (len+n) (grownCap w (len+n) cap e)) (w.drew.alloc (.cells (s8.toArray++news.toArray++Builtin.zeroCells z.cells (grownCap w (len+n) cap e-(len+n))) e)):=by
 obtain⟨inf,ae,zS⟩:=Option.map_eq_some_iff.1 (show(P.info? e).map (·.bytes)=some bA from ag)
 have mh:∀a7:World,(typeInfo e).run P a7= .ok inf a7:=fun a7=>by unfold typeInfo;simp[ae]
 have aG:¬(len+n<=cap):=by omega
 have agY:len+n<=140737488355328:=Nat.le_trans (Nat.le_mul_of_pos_right _ dY) bw
 have agI:¬(9223372036854775807<((len:Int)+(n:Int))):=by omega
 have aH:¬(bA=0):=by omega
 have zr:¬(281474976710656<Builtin.nextslicecap (len+n) cap*bA):=by have:=growslice_fits gM bw;omega
 have w5:=ay w.drew rfl
 have T0:=g7 w.drew rfl
 rcases Oe J with⟨cP,aB⟩ | aB
 all_goals simp[Builtin.append_,run_underlying hu,run_underlying aB,km ao,ar,aG,mh,zS,aH,zr,Question.forced,w5,T0,Bg aM,newRow,grownCap]
 all_goals
  congr 2
  apply Array.ext'
  simp[List.append_assoc]
def nL(bV cI ty:TypeId)(s x:Value):Sem Value:=Builtin.append_ #[bV,cI] ty #[s,x]
theorem QL{bV cI e ty:TypeId}{U len cap m:Nat}{a:Option Addr}{x dv ew:Value}(h:ck P base ah H w)(hu:P.underlying bV=some (.slice e))(J:fB P cI=true)(ao:bq P e=some U)(c7:Src H U x m 0 [])(hm:m=0)(jh:bl ah (.slice a len cap) dv)(iQ:bl ah x ew):
  fH P base ah H w (nL bV cI ty dv ew) (.slice a len cap) H:=by
 subst hm
 obtain⟨o,-,hp,aa,aA⟩:=ta c7 h iQ
 have aG:hp=[]:=List.eq_nil_of_length_eq_zero (by simpa using aA.1.symm)
 subst aG
 obtain⟨fw,dR,rfl,hle,-⟩:=jh.qe
 refine⟨ah,_,w,Fs (a7:=w) hu J ao o (aa w rfl) hle ?_,jh,h,Step.refl _ _ _⟩
 cases fw<;>rfl
theorem Ps(s8:List Value)(z:Value)(n:Nat):∀(i:Nat) (v:Value),s8[i]?=some v->(s8.toArray++Builtin.zeroCells z.cells n)[i]?=some v:=fun i v an=>by
 have a6:=(cK.1 an).1
 rw[Array.getElem?_append_left (by simpa using a6)]
 simpa using an
theorem QP{bV cI e ty:TypeId}{U bA n:Nat}{z:Value}{a:Option Addr}{x dv ew:Value}{news:List Value}(h:ck P base ah H w)(hu:P.underlying bV=some (.slice e))(J:fB P cI=true)(ao:bq P e=some U)(ag:bytes? P e=some bA)(aM:dA P e=some z)(dg:z.cells.size=U)
  (c7:Src H U x n n news)(aG:0<n)(dY:0<bA)(bw:n*bA<=140737488355328)(aO:a=none\/∃i,a=some ⟨0,i,none⟩)(jh:bl ah (.slice a 0 0) dv)(iQ:bl ah x ew):
  fH P base ah H w (nL bV cI ty dv ew) (.slice (some ⟨H.length,0,none⟩) n n) (H++[.own e true news]):=by
 obtain⟨o,hlen,hp,aa,aA⟩:=ta c7 h iQ
 obtain⟨fw,rfl⟩:∃fw,dv= .slice fw 0 0:=by
  rcases aO with rfl | ⟨i,rfl⟩
  ·cases jh;exact⟨_,rfl⟩
  ·cases jh with
   | void=>exact⟨_,rfl⟩
   | empty mX=>exact absurd rfl mX
   | slice aj ad=>omega
 have al:=NZ (P:=P) (w:=w) (ty:=ty) (a:=fw) (len:=0) (cap:=0) (s8:=[]) hu J ao ag aM o aa (fun a7 _=>by cases fw<;>simp[Builtin.firstCells,loadCells,loadCellsFrom]) (by omega) (by simpa using bw) dY
 simp only[Nat.zero_add,List.nil_append]at al
 have hl:=grownCap_ge w n 0 e
 have dG:hp.length=n*U:=by rw[<-aA.1,hlen]
 refine fH.AW (d_:=w.drew) (cap:=n) (l:=true) (ej:=(0,0)) h ao rfl rfl rfl rfl al (l4.zero _) (by simp[size_zeroCells,dG,hlen]) (fun i v an=>?_) aG (Nat.le_refl _) hl (fun h=>by cases h) (fun _=>?_)
 ·obtain⟨au,m_,h8⟩:=aA.get an
  exact⟨au,by have:=Ps hp z (grownCap w n 0 e-n) i au m_;simpa using this,h8⟩
 ·simp[size_zeroCells,dG,dg,<-Nat.add_mul]
  rw[show n+(grownCap w n 0 e-n)=grownCap w n 0 e by omega]
  exact Nat.le_refl _
theorem QN{bV cI e ty:TypeId}{U b i len cap n:Nat}{l:Bool}{cs:List Value}{x dv ew:Value}{news:List Value}(h:ck P base ah H w)(hu:P.underlying bV=some (.slice e))(J:fB P cI=true)(ao:bq P e=some U)
  (c7:Src H U x n n news)(gM:len+n<=cap)(ad:0<cap)(aQ:H[b]?=some (.own e l cs))(bw:i+len*U+news.length<=cs.length)(g6:(news.all (·.oneCell'))=true)(jh:bl ah (.slice (some ⟨b,i,none⟩) len cap) dv)(iQ:bl ah x ew):
  fH P base ah H w (nL bV cI ty dv ew) (.slice (some ⟨b,i,none⟩) (len+n) cap) (H.set b (.own e l (db cs (i+len*U) news))):=by
 obtain⟨o,hlen,hp,aa,aA⟩:=ta c7 h iQ
 cases jh with
 | void=>omega
 | empty=>omega
 | slice aj pI hle fO oi bX=>
  rename_i k dC
  obtain⟨a7,al,s1,s2⟩:=E_ (i:=i+len*U) h aj aQ aA bw (fun v an=>by simpa using List.all_eq_true.1 g6 v an)
  refine⟨ah,_,a7,Fs (a7:=a7) hu J ao o (aa w rfl) (by omega) ?_,.slice aj ad gM fO oi bX,s1,s2⟩
  simp only[pq]
  rw[<-al]
  congr 3
  omega
theorem JI{bV cI e ty:TypeId}{U bA b i len dC n:Nat}{z:Value}{X:bI}{cs:List Value}{k:iC}{ew:Value}{news hp:List Value}(h:ck P base ah H w)(hu:P.underlying bV=some (.slice e))(J:fB P cI=true)(ao:bq P e=some U)(ag:bytes? P e=some bA)(aM:dA P e=some z)(dg:z.cells.size=U)
  (dY:0<bA)(bw:(len+n)*bA<=140737488355328)(aj:ah b=some k)(aQ:H[b]?=some X)(ad:X.cells?=some cs)(g7:i+len*U<=cs.length)(gM:dC<len+n)
  (o:(Builtin.lenOf ew).run P w= .ok n w)(hlen:news.length=n*U)(aa:∀a7:World,a7.heap=w.heap->(Builtin.firstCells U n ew).run P a7= .ok hp.toArray a7)(aA:cB ah news hp):
  fH P base ah H w (nL bV cI ty (.slice (some ⟨k.g,k.R+i,none⟩) len dC) ew) (.slice (some ⟨H.length,0,none⟩) (len+n) (len+n)) (H++[.own e true ((cs.drop i).take (len*U)++news)]):=by
 obtain⟨aD,sS,iM,na⟩:=h.cells aj aQ ad g7
 have al:=NZ (P:=P) (w:=w) (ty:=ty) (a:=some ⟨k.g,k.R+i,none⟩) (len:=len) (cap:=dC) (s8:=aD) hu J ao ag aM o aa (fun a7 hw=>by
  simp only[Builtin.firstCells]
  rw[<-sS]
  exact run_loadCells_list a7 _ aD fun j u hu=>by rw[Ch (w:=w) (by rw[hw])];exact iM j u hu) gM bw dY
 have hl:=grownCap_ge w (len+n) dC e
 have dG:(aD++hp).length=(len+n)*U:=by rw[List.length_append,sS,<-aA.1,hlen,Nat.add_mul]
 have fP:((cs.drop i).take (len*U)++news).length=(len+n)*U:=by rw[List.length_append,na.1,sS,hlen,Nat.add_mul]
 have CQ:=na.append aA
 have Rm:aD.toArray++hp.toArray++Builtin.zeroCells z.cells (grownCap w (len+n) dC e-(len+n))=(aD++hp).toArray++Builtin.zeroCells z.cells (grownCap w (len+n) dC e-(len+n)):=by simp
 rw[Rm]at al
 refine fH.AW (d_:=w.drew) (cap:=len+n) (l:=true) (ej:=(0,0)) h ao rfl rfl rfl rfl al (l4.zero _) (by rw[Array.size_append,List.size_toArray,dG,fP];omega) (fun j v an=>?_) (by omega) (Nat.le_refl _) hl (fun h=>by cases h) (fun _=>?_)
 ·obtain⟨au,m_,h8⟩:=CQ.get an
  exact⟨au,Ps (aD++hp) z _ j au m_,h8⟩
 ·rw[Array.size_append,List.size_toArray,dG,size_zeroCells,dg,<-Nat.add_mul,show len+n+(grownCap w (len+n) dC e-(len+n))=grownCap w (len+n) dC e by omega]
  exact Nat.le_refl _
theorem QM{bV cI e ty:TypeId}{U bA b i len cap n:Nat}{z:Value}{cs:List Value}{x dv ew:Value}{news:List Value}(h:ck P base ah H w)(hu:P.underlying bV=some (.slice e))(J:fB P cI=true)(ao:bq P e=some U)(ag:bytes? P e=some bA)(aM:dA P e=some z)(dg:z.cells.size=U)
  (c7:Src H U x n n news)(aG:0<n)(dY:0<bA)(bw:(len+n)*bA<=140737488355328)(aQ:H[b]?=some (.own e false cs))(g7:i+len*U<=cs.length)(gM:cap<len+n)(ad:0<cap)(jh:bl ah (.slice (some ⟨b,i,none⟩) len cap) dv)(iQ:bl ah x ew):
  fH P base ah H w (nL bV cI ty dv ew) (.slice (some ⟨H.length,0,none⟩) (len+n) (len+n)) (H++[.own e true ((cs.drop i).take (len*U)++news)]):=by
 obtain⟨o,hlen,hp,aa,aA⟩:=ta c7 h iQ
 cases jh with
 | void=>omega
 | empty=>omega
 | slice aj pI hle fO oi bX=>
  rename_i k dC
  have ar:k.loose=false:=by cases h.e0 b k _ aj aQ;assumption
  have:=oi ar
  exact JI h hu J ao ag aM dg dY bw aj aQ rfl g7 (by omega) o hlen aa aA
theorem QV{s:Sem Value}{v:Value}{b:Nat}{e:TypeId}{l:Bool}{cs:List Value}{X:bI}(h:ck P base ah H w)(aQ:H[b]?=some (.own e l cs))(aB:fH P base ah H w s v (H++[X])):fH P base ah H w s v (H.set b .dead++[X]):=by
 obtain⟨bs,au,a7,a1,a3,bG,cn⟩:=aB
 have c3:b<H.length:=(cK.1 aQ).1
 obtain⟨jl,kj⟩:=bG.kill b ⟨e,l,cs,by rw[wk c3];exact aQ⟩
 have Rw:(H++[X]).set b .dead=H.set b .dead++[X]:=by rw[List.set_append_left _ _ c3]
 rw[Rw]at jl kj
 exact⟨bs,au,a7,a1,a3,jl,cn.trans kj⟩
theorem QO{bV cI e ty:TypeId}{U bA b i len cap n:Nat}{z:Value}{cs:List Value}{x dv ew:Value}{news:List Value}(h:ck P base ah H w)(hu:P.underlying bV=some (.slice e))(J:fB P cI=true)(ao:bq P e=some U)(ag:bytes? P e=some bA)(aM:dA P e=some z)(dg:z.cells.size=U)
  (c7:Src H U x n n news)(aG:0<n)(dY:0<bA)(bw:(len+n)*bA<=140737488355328)(aQ:H[b]?=some (.own e true cs))(g7:i+len*U<=cs.length)(gM:cap<len+n)(ad:0<cap)(g6:(news.all (·.oneCell'))=true)
  (jh:bl ah (.slice (some ⟨b,i,none⟩) len cap) dv)(iQ:bl ah x ew):
  fH P base ah H w (nL bV cI ty dv ew) (.slice (some ⟨H.length,0,none⟩) (len+n) (len+n)) (H.set b .dead++[.own e true ((cs.drop i).take (len*U)++news)]):=by
 obtain⟨o,hlen,hp,aa,aA⟩:=ta c7 h iQ
 cases jh with
 | void=>omega
 | empty=>omega
 | slice aj pI hle fO oi bX=>
  rename_i k dC
  have nZ:=h.e0 b k _ aj aQ
  cases nZ with
  | own su g0 ae df aU SB ay Du an=>
  rename_i cur ej inf
  have z3:k.U=U:=by simp only[bq,ae,Option.map_some,Option.some.injEq]at ao;omega
  have SA:=bX g0
  rw[z3]at SA
  by_cases gr:len+n<=dC
  ·
   have hmul:len*U+n*U<=dC*U:=by rw[<-Nat.add_mul];exact Nat.mul_le_mul_right _ gr
   have sD:hp.length=n*U:=by rw[<-aA.1,hlen]
   have xl:∀v∈hp,v.oneCell'=true:=fun au dJ=>by
    obtain⟨j,aX⟩:=List.getElem?_of_mem dJ
    have xb:j<news.length:=by rw[aA.1];exact(cK.1 aX).1
    rw[(aA.2 j _ _ (bJ xb) aX).Nk]
    simpa using List.all_eq_true.1 g6 _ (List.getElem_mem xb)
   have gN:=Fu (P:=P) k.g (k.R+i+len*U) e ej hp 0 cur w aU (SB▸ay) (by omega) xl
   simp only[Nat.add_zero]at gN
   have fP:((cs.drop i).take (len*U)).length=len*U:=by simp;omega
   have Ld:=h.ES (i:=i) (c_:=true) (eA:=(cs.drop i).take (len*U)++news) (lz:=(db cur.toList (k.R+i+len*U) hp).toArray) (ej:=ej) aj aQ ⟨cur,aU,by rw[List.size_toArray,nt (by simp;omega)];simp⟩
    (by rw[List.size_toArray,nt (by simp;omega),List.length_append,fP,hlen];simp;omega) (fun j v aX=>by
     have bk:(db cur.toList (k.R+i+len*U) hp).toArray[k.R+i+j]?=(db cur.toList (k.R+i+len*U) hp)[k.R+i+j]?:=by simp
     rw[bk,rE (by simp;omega)]
     by_cases gA:j<len*U
     ·rw[if_neg (by omega)]
      rw[List.getElem?_append_left (by omega),List.getElem?_take_of_lt gA,List.getElem?_drop]at aX
      obtain⟨au,a1,a3⟩:=an (i+j) v aX
      exact⟨au,by simpa[Nat.add_assoc]using a1,a3⟩
     ·rw[List.getElem?_append_right (by omega),fP]at aX
      have n6:j-len*U<news.length:=(cK.1 aX).1
      rw[if_pos (by omega),show k.R+i+j-(k.R+i+len*U)=j-len*U by omega]
      exact aA.get aX)
   refine⟨_,_,_,Fs hu J ao o (aa w rfl) gr (by simp only[pq];exact gN),?_,Ld.1,Ld.2⟩
   have:=bl.slice (ah:=ah.put H.length ⟨k.g,k.R+i,k.N,k.U,true⟩) (b:=H.length) (i:=0) (k:=⟨k.g,k.R+i,k.N,k.U,true⟩) (len:=len+n) (cap:=len+n) (dC:=dC) (bd.nq _ _ _) (by omega) (Nat.le_refl _) gr (fun h=>by cases h)
    (fun _=>by simp only;rw[z3];omega)
   simpa using this
  ·
   have w8:=JI (bV:=bV) (cI:=cI) (ty:=ty) (bA:=bA) (z:=z) (ew:=ew) (len:=len) (n:=n) (i:=i) (dC:=dC) h hu J ao ag aM dg dY bw aj aQ rfl g7 (by omega) o hlen aa aA
   exact QV h aQ w8
theorem QT{hW bV e ty:TypeId}{U b i kV pw m n:Nat}{l:Bool}{cs:List Value}{x fo ew:Value}{news:List Value}(h:ck P base ah H w)(hu:P.underlying hW=some (.slice e))(ao:bq P e=some U)(c7:Src H U x m n news)(aG:n=min m kV)(jC:0<n)
  (aQ:H[b]?=some (.own e l cs))(bw:i+news.length<=cs.length)(g6:(news.all (·.oneCell'))=true)(xE:bl ah (.slice (some ⟨b,i,none⟩) kV pw) fo)(iQ:bl ah x ew):
  fH P base ah H w (Builtin.copy_ #[hW,bV] ty #[fo,ew]) (.int .i64 n) (H.set b (.own e l (db cs i news))):=by
 obtain⟨o,hlen,hp,aa,aA⟩:=ta c7 h iQ
 obtain⟨k,dC,aj,rfl,-⟩:=xE.Bp (by omega)
 obtain⟨a7,al,s1,s2⟩:=E_ (i:=i) h aj aQ aA bw (fun v an=>by simpa using List.all_eq_true.1 g6 v an)
 have hn:Nat.min m kV=n:=aG.symm
 exact⟨ah,.int .i64 n,a7,by simp[Builtin.copy_,run_underlying hu,o,hn,km ao,aa w rfl,al,goInt],.int _ _,s1,s2⟩
theorem QU{hW bV e ty:TypeId}{U kV pw m:Nat}{a:Option Addr}{x fo ew:Value}(h:ck P base ah H w)(hu:P.underlying hW=some (.slice e))(ao:bq P e=some U)(c7:Src H U x m 0 [])(aG:min m kV=0)(xE:bl ah (.slice a kV pw) fo)(iQ:bl ah x ew):
  fH P base ah H w (Builtin.copy_ #[hW,bV] ty #[fo,ew]) (.int .i64 0) H:=by
 obtain⟨o,hlen,hp,aa,aA⟩:=ta c7 h iQ
 have UH:hp=[]:=List.eq_nil_of_length_eq_zero (by simpa using aA.1.symm)
 subst UH
 obtain⟨fw,dR,rfl,-⟩:=xE.qe
 have hn:Nat.min m kV=0:=aG
 refine⟨ah,.int .i64 0,w,?_,.int _ _,h,Step.refl _ _ _⟩
 cases fw<;>simp[Builtin.copy_,run_underlying hu,o,hn,km ao,aa w rfl,goInt,storeCells]
end
section
variable {P:Program} {base:Nat} {ah:bd} {H:ab} {w:World}
theorem Q6{src dst e:TypeId}{x ew:Value}{n:Nat}{xs:List Int}(h:ck P base ah H w)(ao:P.underlying src=some (.slice e))(he:P.underlying e=some (.int .u8))(aB:P.underlying dst=some .string)
  (lO:∃a len c,x= .slice a len c)(c7:Src H 1 x n n (xs.map (Value.int .u8)))(iQ:bl ah x ew):fH P base ah H w (convert src dst ew) (.string (strOfNums xs)) H:=by
 obtain⟨a,len,c,rfl⟩:=lO
 generalize xg:xs.map (Value.int .u8)=news at c7
 cases c7 with
 | vF=>
  have J:xs=[]:=by simpa using xg
  subst J
  obtain⟨fw,dR,rfl,-⟩:=iQ.qe
  refine⟨ah,.string (strOfNums []),w,?_,.str _,h,Step.refl _ _ _⟩
  cases fw with
  | none=>rw[run_convert_bytes_nil w src e ao he _ _ dst aB];rfl
  | some r4=>
   rw[run_convert_bytes_string w src dst e (some r4) 0 dR ao he aB,run_bytesToString w _ 0 dR [] (by simp[loadCells,loadCellsFrom]),foldl_push_bytes]
   rfl
 | row J ad aG hm bw=>
  rename_i b i X cs
  obtain⟨k,dC,aj,rfl,-⟩:=iQ.Bp (by omega)
  obtain⟨aD,ar,iM,al⟩:=h.cells aj J ad bw
  have hlen:xs.length=n:=by
   have:=congrArg List.length xg
   have aa:=al.1
   simp only[List.length_map]at this
   omega
  refine⟨ah,.string (strOfNums xs),w,run_convert_bytes_arg w src e ao he _ _ n dC xs hlen (fun j aX=>?_) dst aB,.str _,h,Step.refl _ _ _⟩
  have lK:((cs.drop i).take (n*1))[j]?=some (.int .u8 (xs.getD j 0)):=by
   rw[<-xg]
   simp[bJ (show j<xs.length by omega),List.getD_eq_getElem?_getD]
  obtain⟨au,m_,h8⟩:=al.get lK
  have:=iM j au m_
  rw[pq]at this
  rw[this,h8.om]
end
inductive e9 (P:Program) (aJ:Operand->Value) (H:ab) (R:Oper):Value->ab->Prop
 | s7 {v:Value} (ao:∀cs b,R.op≠ .select cs b) (ay:(R.op.operands.all fun x=>flat (aJ x))=true) (an:flat v=true) (h:dz P (execOp aJ R)=some (.value v)):e9 P aJ H R v H
 | alloc {e:TypeId} {z:Value} {n:Nat} (h:R.op= .alloc e) (aM:dA P e=some z) (dS:flat z=true) (ao:bq P e=some n):e9 P aJ H R (.pointer (some ⟨H.length,0,none⟩)) (H++[.own e false z.cells.toList])
 | box {e:TypeId} {x:Operand} {n:Nat} (h:R.op= .box e x) (ao:bq P e=some n):e9 P aJ H R (.pointer (some ⟨H.length,0,none⟩)) (H++[.own e false (aJ x).cells.toList])
 | xW {t:TypeId} {x:Operand} {b i:Nat} {X:bI} {cs:List Value} {v:Value} (h:R.op= .load t x) (aO:ds P t=some false) (J:aJ x= .pointer (some ⟨b,i,none⟩)) (aQ:H[b]?=some X) (ad:X.cells?=some cs) (an:cs[i]?=some v):e9 P aJ H R v H
 | xX {t:TypeId} {x:Operand} {b i n:Nat} {X:bI} {cs:List Value} (h:R.op= .load t x) (aO:ds P t=some true) (ao:bq P t=some n) (J:aJ x= .pointer (some ⟨b,i,none⟩)) (aQ:H[b]?=some X) (ad:X.cells?=some cs) (bw:i+n<=cs.length):
   e9 P aJ H R (.agg ((cs.drop i).take n).toArray) H
 | store {t:TypeId} {x y:Operand} {b i:Nat} {e:TypeId} {l:Bool} {cs:List Value} (h:R.op= .store t x y) (ao:bq P t=some (aJ y).cells.size) (J:aJ x= .pointer (some ⟨b,i,none⟩)) (aQ:H[b]?=some (.own e l cs)) (bw:i+(aJ y).cells.size<=cs.length)
   (o:((aJ y).cells.toList.all (·.oneCell'))=true):e9 P aJ H R undef (H.set b (.own e l (db cs i (aJ y).cells.toList)))
 | slice {t e:TypeId} {x:Operand} {bb ae:Option Operand} {U b i len cap l cV:Nat} {X:bI} (h:R.op= .slice t x bb ae none) (hu:P.underlying t=some (.slice e)) (ao:bq P e=some U) (J:aJ x= .slice (some ⟨b,i,none⟩) len cap) (aQ:H[b]?=some X) (he:X.elem?=some e)
   (ar:dO aJ bb=some l) (eG:e2 aJ len ae=some cV) (o:l<=cV) (aa:cV<=cap) (a6:l<cap):e9 P aJ H R (.slice (some ⟨b,i+l*U,none⟩) (cV-l) (cap-l)) H
 | yn {t e:TypeId} {x:Operand} {bb ae:Option Operand} {U b i len cap:Nat} (h:R.op= .slice t x bb ae none) (hu:P.underlying t=some (.slice e)) (ao:bq P e=some U) (J:aJ x= .slice (some ⟨b,i,none⟩) len cap) (qT:0<cap)
   (ar:dO aJ bb=some cap) (eG:e2 aJ len ae=some cap):e9 P aJ H R (.slice (some ⟨b,i,none⟩) 0 0) H
 | yo {t e:TypeId} {x:Operand} {bb ae:Option Operand} {U:Nat} {a:Option Addr} (h:R.op= .slice t x bb ae none) (hu:P.underlying t=some (.slice e)) (ao:bq P e=some U) (J:aJ x= .slice a 0 0)
   (ar:dO aJ bb=some 0) (eG:e2 aJ 0 ae=some 0):e9 P aJ H R (.slice a 0 0) H
 | Bo {t e:TypeId} {x bb ae fk:Operand} {U len cap l:Nat} {a:Addr} (h:R.op= .slice t x (some bb) (some ae) (some fk)) (hu:P.underlying t=some (.slice e)) (ao:bq P e=some U) (J:aJ x= .slice (some a) len cap)
   (ar:dO aJ (some bb)=some l) (eG:dO aJ (some ae)=some l) (hm:dO aJ (some fk)=some l) (aA:l<=cap):e9 P aJ H R (.slice (some ⟨0,0,none⟩) 0 0) H
 | Bn {t e:TypeId} {x bb ae fk:Operand} {U:Nat} (h:R.op= .slice t x (some bb) (some ae) (some fk)) (hu:P.underlying t=some (.slice e)) (ao:bq P e=some U) (J:aJ x= .slice none 0 0)
   (ar:dO aJ (some bb)=some 0) (eG:dO aJ (some ae)=some 0) (hm:dO aJ (some fk)=some 0):e9 P aJ H R (.slice none 0 0) H
 | make {t e:TypeId} {x y:Operand} {U bA l c:Nat} {eW c4:IntKind} {z:Value} (h:R.op= .makeSlice t x y) (hu:P.underlying t=some (.slice e)) (ao:bq P e=some U) (ag:bytes? P e=some bA) (aM:dA P e=some z) (dS:flat z=true) (dg:z.cells.size=U)
   (J:aJ x= .int eW (l:Int)) (aL:aJ y= .int c4 (c:Int)) (df:0<U) (dY:0<bA) (mn:l<=c) (ad:0<c) (bw:bA*c<=281474976710656):e9 P aJ H R (.slice (some ⟨H.length,0,none⟩) l c) (H++[.own e false (made z (c*U))])
 | x3 {t e:TypeId} {x y:Operand} {U bA:Nat} {eW c4:IntKind} (h:R.op= .makeSlice t x y) (hu:P.underlying t=some (.slice e)) (ao:bq P e=some U) (ag:bytes? P e=some bA) (J:aJ x= .int eW 0) (aL:aJ y= .int c4 0):
   e9 P aJ H R (.slice (some ⟨0,0,none⟩) 0 0) H
 | build {t e:TypeId} {U len:Nat} {aW:Array (Nat×Operand)} {z:Value} {out:Array Value} (h:R.op= .buildSlice t len aW) (hu:P.underlying t=some (.slice e)) (ao:bq P e=some U) (aM:dA P e=some z) (dS:flat z=true) (dg:z.cells.size=U)
   (df:0<U) (ar:0<len) (bw:len*U<=16777216) (ay:Instr.fill (fun i=>some (i*U,U)) (made z (len*U)).toArray (aW.toList.map fun p=>(p.1,aJ p.2))=some out) (sG:out.size=len*U):
   e9 P aJ H R (.slice (some ⟨H.length,0,none⟩) len len) (H++[.own e false out.toList])
 | v5 {t e:TypeId} {U:Nat} (h:R.op= .buildSlice t 0 #[]) (hu:P.underlying t=some (.slice e)) (ao:bq P e=some U):e9 P aJ H R (.slice (some ⟨0,0,none⟩) 0 0) H
 | vU {bV cI e:TypeId} {s x:Operand} {U len cap:Nat} {a:Option Addr} (h:R.op= .call {callee:= .builtin .append,args:= #[s,x],argTypes:= #[bV,cI]}) (hu:P.underlying bV=some (.slice e)) (J:fB P cI=true) (ao:bq P e=some U) (c7:Src H U (aJ x) 0 0 [])
   (an:aJ s= .slice a len cap):e9 P aJ H R (.slice a len cap) H
 | vY {bV cI e:TypeId} {s x:Operand} {U bA n:Nat} {z:Value} {a:Option Addr} {news:List Value} (h:R.op= .call {callee:= .builtin .append,args:= #[s,x],argTypes:= #[bV,cI]}) (hu:P.underlying bV=some (.slice e)) (J:fB P cI=true) (ao:bq P e=some U)
   (ag:bytes? P e=some bA) (aM:dA P e=some z) (dg:z.cells.size=U) (c7:Src H U (aJ x) n n news) (aG:0<n) (dY:0<bA) (bw:n*bA<=140737488355328) (aO:a=none\/∃i,a=some ⟨0,i,none⟩) (an:aJ s= .slice a 0 0):
   e9 P aJ H R (.slice (some ⟨H.length,0,none⟩) n n) (H++[.own e true news])
 | vW {bV cI e:TypeId} {s x:Operand} {U b i len cap n:Nat} {l:Bool} {cs:List Value} {news:List Value} (h:R.op= .call {callee:= .builtin .append,args:= #[s,x],argTypes:= #[bV,cI]}) (hu:P.underlying bV=some (.slice e)) (J:fB P cI=true) (ao:bq P e=some U)
   (c7:Src H U (aJ x) n n news) (gM:len+n<=cap) (ad:0<cap) (aQ:H[b]?=some (.own e l cs)) (bw:i+len*U+news.length<=cs.length) (g6:(news.all (·.oneCell'))=true) (an:aJ s= .slice (some ⟨b,i,none⟩) len cap):
   e9 P aJ H R (.slice (some ⟨b,i,none⟩) (len+n) cap) (H.set b (.own e l (db cs (i+len*U) news)))
 | vV {bV cI e:TypeId} {s x:Operand} {U bA b i len cap n:Nat} {z:Value} {cs:List Value} {news:List Value} (h:R.op= .call {callee:= .builtin .append,args:= #[s,x],argTypes:= #[bV,cI]}) (hu:P.underlying bV=some (.slice e)) (J:fB P cI=true) (ao:bq P e=some U)
   (ag:bytes? P e=some bA) (aM:dA P e=some z) (dg:z.cells.size=U) (c7:Src H U (aJ x) n n news) (aG:0<n) (dY:0<bA) (bw:(len+n)*bA<=140737488355328) (aQ:H[b]?=some (.own e false cs)) (g7:i+len*U<=cs.length) (gM:cap<len+n) (ad:0<cap)
   (an:aJ s= .slice (some ⟨b,i,none⟩) len cap):e9 P aJ H R (.slice (some ⟨H.length,0,none⟩) (len+n) (len+n)) (H++[.own e true ((cs.drop i).take (len*U)++news)])
 | vX {bV cI e:TypeId} {s x:Operand} {U bA b i len cap n:Nat} {z:Value} {cs:List Value} {news:List Value} (h:R.op= .call {callee:= .builtin .append,args:= #[s,x],argTypes:= #[bV,cI]}) (hu:P.underlying bV=some (.slice e)) (J:fB P cI=true) (ao:bq P e=some U)
   (ag:bytes? P e=some bA) (aM:dA P e=some z) (dg:z.cells.size=U) (c7:Src H U (aJ x) n n news) (aG:0<n) (dY:0<bA) (bw:(len+n)*bA<=140737488355328) (aQ:H[b]?=some (.own e true cs)) (g7:i+len*U<=cs.length) (gM:cap<len+n) (ad:0<cap)
   (g6:(news.all (·.oneCell'))=true) (an:aJ s= .slice (some ⟨b,i,none⟩) len cap):e9 P aJ H R (.slice (some ⟨H.length,0,none⟩) (len+n) (len+n)) (H.set b .dead++[.own e true ((cs.drop i).take (len*U)++news)])
 | copy {hW bV e:TypeId} {d x:Operand} {U b i kV pw m n:Nat} {l:Bool} {cs:List Value} {news:List Value} (h:R.op= .call {callee:= .builtin .copy,args:= #[d,x],argTypes:= #[hW,bV]}) (hu:P.underlying hW=some (.slice e)) (ao:bq P e=some U) (c7:Src H U (aJ x) m n news)
   (aG:n=min m kV) (jC:0<n) (aQ:H[b]?=some (.own e l cs)) (bw:i+news.length<=cs.length) (g6:(news.all (·.oneCell'))=true) (an:aJ d= .slice (some ⟨b,i,none⟩) kV pw):e9 P aJ H R (.int .i64 n) (H.set b (.own e l (db cs i news)))
 | wa {hW bV e:TypeId} {d x:Operand} {U kV pw m:Nat} {a:Option Addr} (h:R.op= .call {callee:= .builtin .copy,args:= #[d,x],argTypes:= #[hW,bV]}) (hu:P.underlying hW=some (.slice e)) (ao:bq P e=some U) (c7:Src H U (aJ x) m 0 []) (aG:min m kV=0)
   (an:aJ d= .slice a kV pw):e9 P aJ H R (.int .i64 0) H
 | str {src dst e:TypeId} {x:Operand} {n:Nat} {xs:List Int} (h:R.op= .convert src dst x) (ao:P.underlying src=some (.slice e)) (he:P.underlying e=some (.int .u8)) (aB:P.underlying dst=some .string) (lO:∃a len c,aJ x= .slice a len c)
   (c7:Src H 1 (aJ x) n n (xs.map (Value.int .u8))):e9 P aJ H R (.string (strOfNums xs)) H
theorem M7{P:Program}{base:Nat}{ah:bd}{H aF:ab}{w:World}{aJ cz:Operand->Value}{R:Oper}{v:Value}(h:e9 P aJ H R v aF)(bE:ck P base ah H w)(dq:∀x∈R.op.operands,bl ah (aJ x) (cz x)):
  ∃bs au a7,((execOp cz R).run P w= .ok (.value au) a7\/((execOp cz R).run P w= .ok .skip a7/\au=undef))/\bl bs v au/\ck P base bs aF a7/\Step ah H w bs aF a7:=by
 have fin:∀{s:Sem Value} {v:Value} {aF:ab},fH P base ah H w s v aF->(∀au a7,s.run P w= .ok au a7->(execOp cz R).run P w= .ok (.value au) a7)->
   ∃bs au a7,((execOp cz R).run P w= .ok (.value au) a7\/((execOp cz R).run P w= .ok .skip a7/\au=undef))/\bl bs v au/\ck P base bs aF a7/\Step ah H w bs aF a7:=by
  intro s v aF ⟨bs,au,a7,a1,a3,bG,cn⟩ al
  exact⟨bs,au,a7,.inl (al _ _ a1),a3,bG,cn⟩
 cases h with
 | s7 ao ay an h=>
  have he:execOp aJ R=execOp cz R:=execOp_congr R ao fun x J=>(JA (by simpa using Array.all_eq_true'.1 ay x J) (dq x J)).symm
  exact⟨ah,v,w,.inl (ry _ _ (he▸h) w),tQ ah an,bE,Step.refl _ _ _⟩
 | alloc h aM dS ao=>exact fin (QK bE aM dS ao) fun au a7 al=>by simp[execOp,h,al]
 | box h ao=>exact fin (QQ bE (dq _ (by simp[h,Op.operands])) ao) fun au a7 al=>by simp[execOp,h,al]
 | xW h aO J aQ ad an=>exact fin (QW bE aO (J▸dq _ (by simp[h,Op.operands])) aQ ad an) fun au a7 al=>by simp[execOp,h,al]
 | xX h aO ao J aQ ad bw=>exact fin (QX bE aO ao (J▸dq _ (by simp[h,Op.operands])) aQ ad bw) fun au a7 al=>by simp[execOp,h,al]
 | store h ao J aQ bw o=>
  obtain⟨a7,al,s1,s2⟩:=Q5 bE ao (J▸dq _ (by simp[h,Op.operands])) (dq _ (by simp[h,Op.operands])) aQ bw o
  exact⟨ah,undef,a7,.inr ⟨by simp[execOp,h,al],rfl⟩,bl.undef ah,s1,s2⟩
 | slice h hu ao J aQ he ar eG o aa a6=>
  refine fin (Q0 bE hu ao (J▸dq _ (by simp[h,Op.operands])) aQ he (fun y aL=>dq y ?_) (fun y aL=>dq y ?_) ar eG o aa a6) fun au a7 al=>by simp[execOp,h,al]
  ·simp[h,Op.operands,aL]
  ·simp[h,Op.operands,aL]
 | yn h hu ao J qT ar eG=>
  refine fin (Q3 bE hu ao (J▸dq _ (by simp[h,Op.operands])) qT (fun y aL=>dq y ?_) (fun y aL=>dq y ?_) ar eG) fun au a7 al=>by simp[execOp,h,al]
  ·simp[h,Op.operands,aL]
  ·simp[h,Op.operands,aL]
 | yo h hu ao J ar eG=>
  refine fin (Q4 bE hu ao (J▸dq _ (by simp[h,Op.operands])) (fun y aL=>dq y ?_) (fun y aL=>dq y ?_) ar eG) fun au a7 al=>by simp[execOp,h,al]
  ·simp[h,Op.operands,aL]
  ·simp[h,Op.operands,aL]
 | Bo h hu ao J ar eG hm aA=>exact fin (Q2 bE hu ao (J▸dq _ (by simp[h,Op.operands])) (dq _ (by simp[h,Op.operands])) (dq _ (by simp[h,Op.operands])) (dq _ (by simp[h,Op.operands])) ar eG hm aA) fun au a7 al=>by simp[execOp,h,al]
 | Bn h hu ao J ar eG hm=>exact fin (Q1 bE hu ao (J▸dq _ (by simp[h,Op.operands])) (dq _ (by simp[h,Op.operands])) (dq _ (by simp[h,Op.operands])) (dq _ (by simp[h,Op.operands])) ar eG hm) fun au a7 al=>by simp[execOp,h,al]
 | make h hu ao ag aM dS dg J aL df dY mn ad bw=>
  have bk:=(J▸dq _ (by simp[h,Op.operands])).om
  have bg:=(aL▸dq _ (by simp[h,Op.operands])).om
  rename_i t e x y U bA l c eW c4 z
  exact fin (QY (eW:=eW) (c4:=c4) bE hu ao ag aM dS dg df dY mn ad bw) fun au a7 al=>by simp[execOp,h,bk,bg,al]
 | x3 h hu ao ag J aL=>
  have bk:=(J▸dq _ (by simp[h,Op.operands])).om
  have bg:=(aL▸dq _ (by simp[h,Op.operands])).om
  rename_i t e x y U bA eW c4
  exact fin (QZ (eW:=eW) (c4:=c4) bE hu ao ag) fun au a7 al=>by simp[execOp,h,bk,bg,al]
 | build h hu ao aM dS dg df ar bw ay sG=>exact fin (QR bE hu ao aM dS dg df ar bw (fun p aY=>dq p.2 (by simp[h,Op.operands];exact⟨p.1,by simpa using aY⟩)) ay sG) fun au a7 al=>by simp[execOp,h,al]
 | v5 h hu ao=>exact fin (QS bE hu ao) fun au a7 al=>by simp[execOp,h,al]
 | vU h hu J ao c7 an=>exact fin (QL (ty:=R.type) bE hu J ao c7 rfl (an▸dq _ (by simp[h,Op.operands,Call.operands])) (dq _ (by simp[h,Op.operands,Call.operands]))) fun au a7 al=>by simp[nL]at al;simp[execOp,h,resolve,invoke,builtin,al]
 | vY h hu J ao ag aM dg c7 aG dY bw aO an=>
  exact fin (QP (ty:=R.type) bE hu J ao ag aM dg c7 aG dY bw aO (an▸dq _ (by simp[h,Op.operands,Call.operands])) (dq _ (by simp[h,Op.operands,Call.operands]))) fun au a7 al=>by simp[nL]at al;simp[execOp,h,resolve,invoke,builtin,al]
 | vW h hu J ao c7 gM ad aQ bw g6 an=>
  exact fin (QN (ty:=R.type) bE hu J ao c7 gM ad aQ bw g6 (an▸dq _ (by simp[h,Op.operands,Call.operands])) (dq _ (by simp[h,Op.operands,Call.operands]))) fun au a7 al=>by simp[nL]at al;simp[execOp,h,resolve,invoke,builtin,al]
 | vV h hu J ao ag aM dg c7 aG dY bw aQ g7 gM ad an=>
  exact fin (QM (ty:=R.type) bE hu J ao ag aM dg c7 aG dY bw aQ g7 gM ad (an▸dq _ (by simp[h,Op.operands,Call.operands])) (dq _ (by simp[h,Op.operands,Call.operands]))) fun au a7 al=>by simp[nL]at al;simp[execOp,h,resolve,invoke,builtin,al]
 | vX h hu J ao ag aM dg c7 aG dY bw aQ g7 gM ad g6 an=>
  exact fin (QO (ty:=R.type) bE hu J ao ag aM dg c7 aG dY bw aQ g7 gM ad g6 (an▸dq _ (by simp[h,Op.operands,Call.operands])) (dq _ (by simp[h,Op.operands,Call.operands]))) fun au a7 al=>by simp[nL]at al;simp[execOp,h,resolve,invoke,builtin,al]
 | copy h hu ao c7 aG jC aQ bw g6 an=>
  rename_i hW bV e d x U b i kV pw m n l cs news
  exact fin (QT (ty:=R.type) (bV:=bV) bE hu ao c7 aG jC aQ bw g6 (an▸dq _ (by simp[h,Op.operands,Call.operands])) (dq _ (by simp[h,Op.operands,Call.operands]))) fun au a7 al=>by simp[execOp,h,resolve,invoke,builtin,al]
 | wa h hu ao c7 aG an=>
  rename_i hW bV e d x U kV pw m a
  exact fin (QU (ty:=R.type) (bV:=bV) bE hu ao c7 aG (an▸dq _ (by simp[h,Op.operands,Call.operands])) (dq _ (by simp[h,Op.operands,Call.operands]))) fun au a7 al=>by simp[execOp,h,resolve,invoke,builtin,al]
 | str h ao he aB lO c7=>exact fin (Q6 bE ao he aB lO c7 (dq _ (by simp[h,Op.operands]))) fun au a7 al=>by simp[execOp,h,al]
def fa(t:List Value):Operand->Value
 | .tmp i=>t.getD i undef
 | .const v=>v
 | .global g=> .pointer (some ⟨0,g,some 0⟩)
 | .func f=> .func (.func f) #[] #[]
def nk:Operand->Bool
 | .const v=>flat v
 | _=>true
def e6(t:List Value)(dst:Option Tmp)(v:Value):List Value:=match dst with
 | some d=>t.set d v
 | none=>t
def gS(ops:Array Oper)(t:List Value)(j:Nat):Option Bool:=
 match((ops[j]?).bind (·.dst)).bind (t[·]?)with
 | some (.bool b)=>some b
 | _=>none
inductive dH where
 | normal
 | exit (id:Nat)
 | ret
 deriving DecidableEq
def dH.real:dH->Exit
 | .normal=> .normal
 | .exit id=> .exit id
 | .ret=> .ret
inductive l3 (P:Program) (t:List Value) (H:ab):List ResultVar->List Value->Prop
 | nil:l3 P t H [] []
 | tmp {i:Nat} {rs:List ResultVar} {aD:List Value} (ao:l3 P t H rs aD):l3 P t H (.tmp i::rs) (t.getD i undef::aD)
 | y6 {a:Nat} {ty:TypeId} {b i:Nat} {X:bI} {cs:List Value} {v:Value} {rs:List ResultVar} {aD:List Value} (aO:ds P ty=some false) (J:t.getD a undef= .pointer (some ⟨b,i,none⟩)) (aQ:H[b]?=some X) (ad:X.cells?=some cs) (an:cs[i]?=some v)
   (ao:l3 P t H rs aD):l3 P t H (.cell a ty::rs) (v::aD)
 | y7 {a:Nat} {ty:TypeId} {b i n:Nat} {X:bI} {cs:List Value} {rs:List ResultVar} {aD:List Value} (aO:ds P ty=some true) (aG:bq P ty=some n) (J:t.getD a undef= .pointer (some ⟨b,i,none⟩)) (aQ:H[b]?=some X) (ad:X.cells?=some cs) (bw:i+n<=cs.length)
   (ao:l3 P t H rs aD):l3 P t H (.cell a ty::rs) (.agg ((cs.drop i).take n).toArray::aD)
def bf(aD:List Value):Value:=match aD with
 | [v]=>v
 | _=> .tuple aD.toArray
def Ext(H aF:ab):Prop:=∃N,aF=H++N/\∀x∈N,∀e cs,x≠ .ro e cs
def Ro(ops:Array Oper):Bool:=ops.toList.zipIdx.all fun p8=>p8.1.after.all fun e=> !Region.binds .any e || decide (e.on<p8.2)
def Yy(ops:Array Oper)(m:Array Nat):Bool:=ops.toList.zipIdx.all fun p8=>(List.range ops.size).all fun j=>
 !(m.getD p8.2 0).testBit j || p8.1.after.any fun e=>Region.binds .any e&&(e.on==j || (decide (e.on<p8.2)&&(m.getD e.on 0).testBit j))
def oI(m:Array Nat)(i j:Nat):Bool:=(m.getD j 0).testBit i
def aay(ops:Array Oper)(m:Array Nat):Bool:=ops.toList.zipIdx.all fun pe=>ops.toList.zipIdx.all fun fs=> !decide (fs.2<pe.2) || oI m fs.2 pe.2 ||
 ((match fs.1.dst with | some d=> !(pe.1.looksAt ops).contains d&&pe.1.dst !=some d | none=>true)&&(match pe.1.dst with | some d=> !(fs.1.looksAt ops).contains d | none=>true))
def gD(ops:Array Oper):Bool:=Ro ops&&Yy ops (Region.before ops)&&aay ops (Region.before ops)
def eD(P:Program)(ops:Array Oper)(i:Nat):Bool:=ops.toList.zipIdx.all fun pe=>bR P pe.1 || decide (pe.2=i) || oI (Region.before ops) (min i pe.2) (max i pe.2)
inductive pk where
 | code (c:Code) (t:List Value) (H:ab)
 | op (ops:Array Oper) (R:Oper) (t:List Value) (H:ab)
 | call (f:FuncId) (args:List Value) (H:ab)
inductive Out where
 | code (e:dH) (t:List Value) (H:ab)
 | val (v:Value) (H:ab)
def my(H:ab)(b:Nat):Option bI->ab
 | some x=>H.set b x
 | none=>H
def oC(P:Program)(ops:Array Oper)(R:Oper)(t:List Value)(H:ab)(v:Value)(H1:ab):Option (Nat×Option bI)->Prop
 | none=>(Region.wanted R (gS ops t)=false\/bR P R=true)/\H1=H
 | some (b,y)=>Region.wanted R (gS ops t)=true/\bR P R=false/\b<H.length/\H[b]?≠some .dead/\H1=my H b y/\∀aF:ab,aF[b]?=H[b]?->e9 P (fa t) aF R v (my aF b y)
inductive dX (P:Program):pk->Out->Prop
 | skip {t:List Value} {H:ab}:dX P (.code .skip t H) (.code .normal t H)
 | ret {t:List Value} {H:ab}:dX P (.code .ret t H) (.code .ret t H)
 | exit {id:Nat} {t:List Value} {H:ab}:dX P (.code (.exit id) t H) (.code (.exit id) t H)
 | Bi {a b:Code} {t t1:List Value} {H H1:ab} {e:dH} {t2:List Value} {aR:ab} (o:dX P (.code a t H) (.code .normal t1 H1)) (aa:dX P (.code b t1 H1) (.code e t2 aR)):dX P (.code (.seq a b) t H) (.code e t2 aR)
 | yi {a b:Code} {t t1:List Value} {H H1:ab} {e:dH} (o:dX P (.code a t H) (.code e t1 H1)) (he:e≠ .normal):dX P (.code (.seq a b) t H) (.code e t1 H1)
 | cond {c:Operand} {x y:Code} {b:Bool} {t t1:List Value} {H H1:ab} {e:dH} (ad:fa t c= .bool b) (aj:nk c=true) (h:dX P (.code (if b then x else y) t H) (.code e t1 H1)):dX P (.code (.cond c x y) t H) (.code e t1 H1)
 | block {id:Nat} {c:Code} {t t1:List Value} {H H1:ab} {e:dH} (h:dX P (.code c t H) (.code e t1 H1)):dX P (.code (.block id c) t H) (.code (if e= .exit id then .normal else e) t1 H1)
 | AQ {c:Code} {t t1 t2:List Value} {H H1 aR:ab} {e:dH} (o:dX P (.code c t H) (.code .normal t1 H1)) (aa:dX P (.code (.loop c) t1 H1) (.code e t2 aR)):dX P (.code (.loop c) t H) (.code e t2 aR)
 | xZ {c:Code} {t t1:List Value} {H H1:ab} {e:dH} (o:dX P (.code c t H) (.code e t1 H1)) (he:e≠ .normal):dX P (.code (.loop c) t H) (.code e t1 H1)
 | region {id:Nat} {ops:Array Oper} {draw:Bool} (T:Nat->List Value) (V:Nat->Value) (aZ:Nat->ab) (aj:(ops.all fun R=>R.op.operands.all nk)=true)
   (h:∀(i:Nat) (R:Oper),ops[i]?=some R->dX P (.op ops R (T i) (aZ i)) (.val (V i) (aZ (i+1)))) (bc:∀(i:Nat) (R:Oper),ops[i]?=some R->T (i+1)=e6 (T i) R.dst (V i))
   (aB:draw=true->gD ops=true/\∀(i:Nat) (R:Oper),ops[i]?=some R->bR P R=false->eD P ops i=true\/Ext (aZ i) (aZ (i+1))):dX P (.code (.region id ops draw) (T 0) (aZ 0)) (.code .normal (T ops.size) (aZ ops.size))
 | Be {id:Nat} {ops:Array Oper} {draw:Bool} (T:Nat->List Value) (V:Nat->Value) (aZ:Nat->ab) (ee:Nat->Option (Nat×Option bI)) (aj:(ops.all fun R=>R.op.operands.all nk)=true)
   (h:∀(i:Nat) (R:Oper),ops[i]?=some R->dX P (.op ops R (T i) (aZ i)) (.val (V i) (aZ (i+1)))) (bc:∀(i:Nat) (R:Oper),ops[i]?=some R->T (i+1)=e6 (T i) R.dst (V i)) (ev:gD ops=true)
   (ar:∀(i:Nat) (R:Oper),ops[i]?=some R->oC P ops R (T i) (aZ i) (V i) (aZ (i+1)) (ee i)) (aB:∀(i j:Nat) (b:Nat) (x:bI) (y:Option bI),ee i=some (b,some x)->ee j=some (b,y)->i≠j->eD P ops i=true\/eD P ops j=true) (uU:∀j,ops.size<=j->ee j=none):
   dX P (.code (.region id ops draw) (T 0) (aZ 0)) (.code .normal (T ops.size) (aZ ops.size))
 | s9 {ops:Array Oper} {R:Oper} {t:List Value} {H:ab} (hw:Region.wanted R (gS ops t)=false):dX P (.op ops R t H) (.val undef H)
 | vd {ops:Array Oper} {R:Oper} {t:List Value} {H:ab} {v:Value} (hw:Region.wanted R (gS ops t)=true) (a5:bR P R=true) (h:hy P (fa t) R v):dX P (.op ops R t H) (.val v H)
 | rq {ops:Array Oper} {R:Oper} {t:List Value} {H H1:ab} {v:Value} (hw:Region.wanted R (gS ops t)=true) (a5:bR P R=false) (h:e9 P (fa t) H R v H1):dX P (.op ops R t H) (.val v H1)
 | vc {ops:Array Oper} {R:Oper} {t:List Value} {H H1:ab} {v:Value} {f:Operand} {args:Array Operand} {kU:Array TypeId} {g:FuncId} {first cap:Array Value} {fn:Func} (hw:Region.wanted R (gS ops t)=true) (a5:bR P R=false)
   (aK:R.op= .call {callee:= .value f,args:=args,argTypes:=kU}) (ay:fa t f= .func (.func g) first cap) (aU:P.funcs[g]?=some fn) (aG:(fn.name== "runtime.NumGoroutine")=false) (ag:fn.body.isSome=true)
   (h:dX P (.call g (first.toList++args.toList.map (fa t)++cap.toList) H) (.val v H1)):dX P (.op ops R t H) (.val v H1)
 | call {f:FuncId} {fn:Func} {c:Code} {args t1 aD:List Value} {H H1:ab} {e:dH} (ay:P.funcs[f]?=some fn) (ag:fn.body=some c) (h:dX P (.code c (args++List.replicate (fn.ntmps-args.length) undef) H) (.code e t1 H1))
   (he:e= .normal\/e= .ret) (al:l3 P t1 H1 fn.results.toList aD):dX P (.call f args H) (.val (bf aD) H1)
 | y5 {f:FuncId} {args:List Value} {v:Value} {H H1:ab} {b:Nat} (h:dX P (.call f args H) (.val v H1)) (aK:hA H1 b):dX P (.call f args H) (.val v (H1.set b .dead))
def tx(P:Program)(base:Nat)(ops:Array Oper)(R:Oper)(t:List Value)(H:ab)(v:Value)(H1:ab):Prop:=
 (Region.wanted R (gS ops t)=false/\v=undef/\H1=H)\/
 (Region.wanted R (gS ops t)=true/\bR P R=true/\hy P (fa t) R v/\H1=H)\/
 (Region.wanted R (gS ops t)=true/\bR P R=false/\∀(ah:bd) (w:World) (a:Act),(∀x∈R.op.operands,bl ah (fa t x) (a.eval x))->ck P base ah H w->∀(K:Act->World->Prop) (Q:Exit->Act->World->Prop),
  (∀bs au a7,bl bs v au->ck P base bs H1 a7->Step ah H w bs H1 a7->K (a.put R.dst au) a7)->R.wp P a w K Q)
def Sound(P:Program)(base:Nat):pk->Out->Prop
 | .code c t H,.code e t1 H1=>∀(ah:bd) (w:World) (a:Act),cB ah t a.tmps.toList->a.defers=[]->ck P base ah H w->∀(Q:Exit->Act->World->Prop),
   (∀bs bY a7,cB bs t1 bY.tmps.toList->bY.defers=[]->ck P base bs H1 a7->Step ah H w bs H1 a7->Q e.real bY a7)->c.wp P Q a w
 | .op ops R t H,.val v H1=>tx P base ops R t H v H1
 | .call f args H,.val v H1=>∀(ah:bd) (w:World) (kT:Array Value),cB ah args kT.toList->ck P base ah H w->
   Calls P f kT w fun e gx=>∃au bs,e= .returned au/\bl bs v au/\ck P base bs H1 gx/\Step ah H w bs H1 gx
 | _,_=>True
theorem yk{ah:bd}{t:List Value}{a:Act}(h:cB ah t a.tmps.toList){x:Operand}(J:nk x=true):bl ah (fa t x) (a.eval x):=by
 cases x with
 | tmp i=>
  have:=h.getD i
  simpa[fa,Act.eval,Array.getD_eq_getD_getElem?,List.getD_eq_getElem?_getD]using this
 | const v=>exact tQ ah J
 | global g=>exact .se g
 | func f=>exact .func _ rfl (fun i v au h=>by simp at h) rfl (fun i v au h=>by simp at h)
theorem Zb{ah:bd}{t:List Value}{a:Act}(h:cB ah t a.tmps.toList)(dst:Option Tmp){v au:Value}(an:bl ah v au):cB ah (e6 t dst v) (a.put dst au).tmps.toList:=by
 cases dst with
 | none=>exact h
 | some d=>
  simp only[e6,Act.put,Array.toList_setIfInBounds]
  exact h.set d an
theorem put_defers(a:Act)(dst:Option Tmp)(v:Value):(a.put dst v).defers=a.defers:=by cases dst<;>rfl
theorem bl.hg{ah:bd}{v au:Value}(h:bl ah v au):(match(some v:Option Value)with | some (.bool b)=>some b | _=>(none:Option Bool))=match(some au:Option Value)with | some (.bool b)=>some b | _=>none:=by
 cases h<;>rfl
theorem aeD{ah:bd}{t:List Value}{a:Act}(h:cB ah t a.tmps.toList)(ops:Array Oper)(j:Nat):yielded ops a.tmps j=gS ops t j:=by
 unfold yielded gS
 cases aB:(ops[j]?).bind (·.dst)with
 | none=>rfl
 | some d=>
  simp only[Option.bind_some]
  by_cases a6:d<t.length
  ·have o:=bJ a6
   obtain⟨au,aa,aA⟩:=h.get o
   have tS:a.tmps[d]?=some au:=by simpa using aa
   rw[o,tS]
   exact aA.hg.symm
  ·have aH:t.length<=d:=Nat.le_of_not_lt a6
   have o:t[d]?=none:=List.getElem?_eq_none aH
   have aa:a.tmps[d]?=none:=by
    have:=h.1
    rw[Array.getElem?_eq_none_iff]
    simp at this
    exact this▸aH
   rw[o,aa]
theorem Gc{R:Oper}{f g:Nat->Option Bool}(h:∀j b,R.guard=some (j,b)->f j=g j):Region.wanted R f=Region.wanted R g:=by
 unfold Region.wanted
 cases aU:R.guard with
 | none=>rfl
 | some MD=>simp only[h MD.1 MD.2 aU]
theorem EY{P:Program}{base:Nat}{ops:Array Oper}{T:Nat->List Value}{V:Nat->Value}{aZ:Nat->ab}{Q:Exit->Act->World->Prop}(aj:(ops.all fun R=>R.op.operands.all nk)=true)
  (h:∀(i:Nat) (R:Oper),ops[i]?=some R->tx P base ops R (T i) (aZ i) (V i) (aZ (i+1)))(bc:∀(i:Nat) (R:Oper),ops[i]?=some R->T (i+1)=e6 (T i) R.dst (V i)){ic:bd}{d_:World}
  (aE:∀bs bY a7,cB bs (T ops.size) bY.tmps.toList->bY.defers=[]->ck P base bs (aZ ops.size) a7->Step ic (aZ 0) d_ bs (aZ ops.size) a7->Q .normal bY a7):∀(m k:Nat),k+m=ops.size->∀(ah:bd) (a:Act) (w:World),cB ah (T k) a.tmps.toList->a.defers=[]->
  ck P base ah (aZ k) w->Step ic (aZ 0) d_ ah (aZ k) w->wpOps P ops Q (List.range' k m) a w
 | 0,k,kD,ah,a,w,dk,hF,bE,c8=>by
  have:k=ops.size:=by omega
  subst this
  exact aE ah a w dk hF bE c8
 | m+1,k,kD,ah,a,w,dk,hF,bE,c8=>by
  have a6:k<ops.size:=by omega
  have aK:ops[k]?=some ops[k]:=Array.getElem?_eq_getElem a6
  have b8:∀x∈ops[k].op.operands,bl ah (fa (T k) x) (a.eval x):=fun x J=>yk dk (by
   have o:=Array.all_eq_true.1 aj k a6
   simpa using Array.all_eq_true'.1 o x J)
  have hw:Region.wanted ops[k] (yielded ops a.tmps)=Region.wanted ops[k] (gS ops (T k)):=Gc fun j _ _=>aeD dk ops j
  rw[List.range'_succ,wpOps_cons]
  unfold wpOp
  simp only[aK,hw]
  have next:∀bs au a7,bl bs (V k) au->ck P base bs (aZ (k+1)) a7->Step ah (aZ k) w bs (aZ (k+1)) a7->wpOps P ops Q (List.range' (k+1) m) (a.put ops[k].dst au) a7:=fun bs au a7 an hk lP=>by
   refine EY aj h bc aE m (k+1) (by omega) bs _ a7 ?_ (by rw[put_defers];exact hF) hk (c8.trans lP)
   rw[bc k _ aK]
   exact Zb (dk.ext lP.ext) _ an
  rcases h k _ aK with⟨o,aa,aA⟩ | ⟨o,aa,aA,bo⟩ | ⟨o,aa,aA⟩
  ·rw[o]
   exact next ah undef w (aa▸bl.undef ah) (aA▸bE) (aA▸Step.refl _ _ _)
  ·rw[o]
   obtain⟨au,al,an⟩:=Cw aA b8 w
   refine .inl ?_
   unfold Oper.wp
   rw[al]
   exact next ah au w an (bo▸bE) (bo▸Step.refl _ _ _)
  ·rw[o]
   exact .inl (aA ah w a b8 bE _ _ next)
end Go.cJ
end
