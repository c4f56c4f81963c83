/- Part of the proof of ShopTurned. -/
import Derived.Test.YtoiodfcefbapkaaGreatRows
import Derived.WalkKit
import Derived.ProofKit
import Derived.OpenShut
import Derived.ShutString
import Derived.ChangeOld
import Derived.Below
import Derived.Deep.Slices
import Derived.Orders
import Derived.Deep.LoopGhost
import Derived.Laws.BytesArg
import Derived.Test.YtoiodfcefbapkaaGreatProg
import Derived.Laws.Strings
import Derived.ChangeArms
set_option linter.unusedVariables false
set_option linter.unusedSimpArgs false
section
namespace Go.cW
theorem bB{α:Type}{l:List α}{i:Nat}(h:i<l.length):l[i]?=some l[i]:=List.getElem?_eq_getElem h
theorem cH{α:Type}{l:List α}{i:Nat}{a:α}:l[i]?=some a↔∃h:i<l.length,l[i]=a:=List.getElem?_eq_some_iff
def dy(P:Program){α:Type}:Sem α->Option α
 | .pure a=>some a
 | .program k=>dy P (k P)
 | .mark _ k=>dy P k
 | _=>none
theorem rv{P:Program}{α:Type}(s:Sem α)(a:α)(h:dy P s=some a)(w:World):s.run P w= .ok a w:=by
 induction s with
 | pure x=>simp[dy]at h;subst h;rfl
 | program k a0=>simp only[dy]at h;simp only[Sem.run];exact a0 P h
 | mark m k a0=>simp only[dy]at h;simp only[Sem.run];exact a0 h
 | _=>simp[dy]at h
def hb:Value->Bool
 | .bool _ | .int _ _ | .string _ | .float _ _ | .pointer none | .slice none 0 0 | .nilFunc | .nilIface | .map none=>true
 | _=>false
def flat(v:Value):Bool:=hb v || match v with
 | .agg cs=>cs.all hb
 | .tuple cs=>cs.all hb
 | .func (.func _) a b=>a.all hb&&b.all hb
 | _=>false
inductive bK where
 | own (e:TypeId) (loose:Bool) (cs:List Value)
 | ro (e:TypeId) (cs:List Value)
 | dead
abbrev ab:=List bK
def bK.cells?:bK->Option (List Value)
 | .own _ _ cs=>some cs
 | .ro _ cs=>some cs
 | .dead=>none
def hM(H:ab)(b:Nat):Prop:=∃e l cs,H[b]?=some (.own e l cs)
def lB(H:ab)(b:Nat):Prop:=∃x cs,H[b]?=some x/\x.cells?=some cs
theorem hM.live{H:ab}{b:Nat}(h:hM H b):lB H b:=by
 obtain⟨e,l,cs,h⟩:=h
 exact⟨_,cs,h,rfl⟩
structure iI where
 g:Nat
 R:Nat
 N:Nat
 U:Nat
 loose:Bool
abbrev bg:=Nat->Option iI
inductive bl (ah:bg):Value->Value->Prop
 | bool (b:Bool):bl ah (.bool b) (.bool b)
 | int (k:IntKind) (n:Int):bl ah (.int k n) (.int k n)
 | float (k:FloatKind) (n:Nat):bl ah (.float k n) (.float k n)
 | str (s:ByteArray):bl ah (.string s) (.string s)
 | Bn:bl ah (.pointer none) (.pointer none)
 | ptr {b i:Nat} {k:iI} (h:ah b=some k):bl ah (.pointer (some ⟨b,i,none⟩)) (.pointer (some ⟨k.g,k.R+i,none⟩))
 | sa (g:Nat):bl ah (.pointer (some ⟨0,g,some 0⟩)) (.pointer (some ⟨g,0,none⟩))
 | rn:bl ah (.slice none 0 0) (.slice none 0 0)
 | void (i:Nat) (a:Addr):bl ah (.slice (some ⟨0,i,none⟩) 0 0) (.slice (some a) 0 0)
 | empty {b i:Nat} (ag:b≠0) (a:Addr) (c:Nat):bl ah (.slice (some ⟨b,i,none⟩) 0 0) (.slice (some a) 0 c)
 | slice {b i:Nat} {k:iI} {len cap dD:Nat} (h:ah b=some k) (ae:0<cap) (ar:len<=cap) (fX:cap<=dD) (J:k.loose=false->dD=cap)
   (bQ:k.loose=true->k.R+i+dD*k.U<=k.N):bl ah (.slice (some ⟨b,i,none⟩) len cap) (.slice (some ⟨k.g,k.R+i,none⟩) len dD)
 | agg {xs bS:Array Value} (ar:xs.size=bS.size) (h:∀(i:Nat) (v au:Value),xs[i]?=some v->bS[i]?=some au->bl ah v au):bl ah (.agg xs) (.agg bS)
 | tuple {xs bS:Array Value} (ar:xs.size=bS.size) (h:∀(i:Nat) (v au:Value),xs[i]?=some v->bS[i]?=some au->bl ah v au):bl ah (.tuple xs) (.tuple bS)
 | func (fn:Fn) {xs bS vU vV:Array Value} (ar:xs.size=bS.size) (h:∀(i:Nat) (v au:Value),xs[i]?=some v->bS[i]?=some au->bl ah v au)
   (dG:vU.size=vV.size) (cu:∀(i:Nat) (v au:Value),vU[i]?=some v->vV[i]?=some au->bl ah v au):bl ah (.func fn xs vU) (.func fn bS vV)
 | nilFunc:bl ah .nilFunc .nilFunc
 | iface (t:TypeId) {v au:Value} (h:bl ah v au):bl ah (.iface t v) (.iface t au)
 | nilIface:bl ah .nilIface .nilIface
 | Bm:bl ah (.map none) (.map none)
def fc(ah:bg)(xs bS:Array Value):Prop:=xs.size=bS.size/\∀(i:Nat) (v au:Value),xs[i]?=some v->bS[i]?=some au->bl ah v au
def cK(ah:bg)(xs bS:List Value):Prop:=xs.length=bS.length/\∀(i:Nat) (v au:Value),xs[i]?=some v->bS[i]?=some au->bl ah v au
theorem bl.ext{ah bu:bg}(he:∀b k,ah b=some k->bu b=some k){v au:Value}(h:bl ah v au):bl bu v au:=by
 induction h with
 | bool b=>exact .bool b
 | int k n=>exact .int k n
 | float k n=>exact .float k n
 | str s=>exact .str s
 | Bn=>exact .Bn
 | ptr h=>exact .ptr (he _ _ h)
 | sa g=>exact .sa g
 | rn=>exact .rn
 | void i a=>exact .void i a
 | empty ag a c=>exact .empty ag a c
 | slice h ae ar fX J bQ=>exact .slice (he _ _ h) ae ar fX J bQ
 | agg ar _ a0=>exact .agg ar a0
 | tuple ar _ a0=>exact .tuple ar a0
 | func fn ar _ dG _ a0 Wz=>exact .func fn ar a0 dG Wz
 | nilFunc=>exact .nilFunc
 | iface t _ a0=>exact .iface t a0
 | nilIface=>exact .nilIface
 | Bm=>exact .Bm
theorem cK.ext{ah bu:bg}(he:∀b k,ah b=some k->bu b=some k){xs bS:List Value}(h:cK ah xs bS):cK bu xs bS:=⟨h.1,fun i v au J aK=>(h.2 i v au J aK).ext he⟩
theorem zJ{ah:bg}{v au:Value}(az:hb v=true)(h:bl ah v au):au=v:=by
 cases h<;>first | rfl | (simp[hb]at az;done) | skip
theorem JV(ah:bg){v:Value}(az:hb v=true):bl ah v v:=by
 unfold hb at az
 split at az<;>first | constructor | (cases az;done)
theorem fc.flat{ah:bg}{xs bS:Array Value}(az:xs.all hb=true)(h:fc ah xs bS):bS=xs:=by
 apply Array.ext
 ·exact h.1.symm
 ·intro i jl ie
  have J:hb xs[i]=true:=by
   have:=Array.all_eq_true.1 az i ie
   simpa using this
  exact zJ J (h.2 i _ _ (Array.getElem?_eq_getElem ie) (Array.getElem?_eq_getElem jl))
theorem fc.BB(ah:bg){xs:Array Value}(az:xs.all hb=true):fc ah xs xs:=by
 refine⟨rfl,fun i v au J aK=>?_⟩
 rw[J]at aK
 obtain rfl:=Option.some.inj aK
 obtain⟨ad,rfl⟩:=Array.getElem?_eq_some_iff.1 J
 exact JV ah (by simpa using Array.all_eq_true.1 az i ad)
theorem JX{ah:bg}{v au:Value}(az:flat v=true)(h:bl ah v au):au=v:=by
 unfold flat at az
 cases o:hb v
 ·rw[o]at az
  simp only[Bool.false_or]at az
  cases h with
  | agg ar h=>exact congrArg Value.agg (fc.flat az ⟨ar,h⟩)
  | tuple ar h=>exact congrArg Value.tuple (fc.flat az ⟨ar,h⟩)
  | func fn ar h dG cu=>
   cases fn<;>simp only[Bool.and_eq_true,reduceCtorEq]at az
   rw[fc.flat az.1 ⟨ar,h⟩,fc.flat az.2 ⟨dG,cu⟩]
  | _=>simp at az
 ·exact zJ o h
theorem tV(ah:bg){v:Value}(az:flat v=true):bl ah v v:=by
 unfold flat at az
 cases o:hb v
 ·rw[o]at az
  simp only[Bool.false_or]at az
  split at az
  ·exact .agg rfl (fc.BB ah az).2
  ·exact .tuple rfl (fc.BB ah az).2
  ·simp only[Bool.and_eq_true]at az
   exact .func _ rfl (fc.BB ah az.1).2 rfl (fc.BB ah az.2).2
  ·cases az
 ·exact JV ah o
theorem bl.NH{ah:bg}{v au:Value}(h:bl ah v au):au.oneCell'=v.oneCell':=by cases h<;>rfl
theorem bl.undef(ah:bg):bl ah Go.undef Go.undef:= .tuple rfl fun i v au h=>by simp at h
theorem bl.cells{ah:bg}{v au:Value}(h:bl ah v au):fc ah v.cells au.cells:=by
 cases h with
 | agg ar h=>exact⟨ar,h⟩
 | _=>
  refine⟨rfl,fun i x eu J aK=>?_⟩
  obtain⟨ad,rfl⟩:=Array.getElem?_eq_some_iff.1 J
  obtain⟨aW,rfl⟩:=Array.getElem?_eq_some_iff.1 aK
  simp only[Value.cells,List.size_toArray,List.length_cons,List.length_nil]at ad aW
  obtain rfl:i=0:=by omega
  first
   | (simp only[Value.cells];constructor<;>assumption;done)
   | (constructor<;>assumption)
theorem fc.toList{ah:bg}{xs bS:Array Value}(h:fc ah xs bS):cK ah xs.toList bS.toList:=⟨by simpa using h.1,fun i v au J aK=>h.2 i v au (by simpa using J) (by simpa using aK)⟩
theorem cK.toArray{ah:bg}{xs bS:List Value}(h:cK ah xs bS):fc ah xs.toArray bS.toArray:=⟨by simpa using h.1,fun i v au J aK=>h.2 i v au (by simpa using J) (by simpa using aK)⟩
theorem cK.nil(ah:bg):cK ah [] []:=⟨rfl,fun i v au h=>by simp at h⟩
theorem cK.cons{ah:bg}{x y:Value}{xs bS:List Value}(h:bl ah x y)(ao:cK ah xs bS):cK ah (x::xs) (y::bS):=by
 refine⟨by simp[ao.1],fun i v au J aK=>?_⟩
 cases i with
 | zero=>simp at J aK;subst J;subst aK;exact h
 | succ i=>simp at J aK;exact ao.2 i v au J aK
theorem cK.append{ah:bg}{xs bS vU vV:List Value}(h:cK ah xs bS)(cu:cK ah vU vV):cK ah (xs++vU) (bS++vV):=by
 refine⟨by simp[h.1,cu.1],fun i v au J aK=>?_⟩
 by_cases ad:i<xs.length
 ·rw[List.getElem?_append_left ad]at J
  rw[List.getElem?_append_left (by rw[<-h.1];exact ad)]at aK
  exact h.2 i v au J aK
 ·rw[List.getElem?_append_right (by omega)]at J
  rw[List.getElem?_append_right (by rw[<-h.1];omega),<-h.1]at aK
  exact cu.2 _ v au J aK
theorem cK.take{ah:bg}{xs bS:List Value}(h:cK ah xs bS)(n:Nat):cK ah (xs.take n) (bS.take n):=by
 refine⟨by simp[h.1],fun i v au J aK=>?_⟩
 rw[List.getElem?_take]at J aK
 split at J
 ·rename_i ad;rw[if_pos ad]at aK;exact h.2 i v au J aK
 ·cases J
theorem cK.drop{ah:bg}{xs bS:List Value}(h:cK ah xs bS)(n:Nat):cK ah (xs.drop n) (bS.drop n):=by
 refine⟨by simp[h.1],fun i v au J aK=>?_⟩
 rw[List.getElem?_drop]at J aK
 exact h.2 _ v au J aK
theorem cK.set{ah:bg}{xs bS:List Value}(h:cK ah xs bS)(n:Nat){x y:Value}(J:bl ah x y):cK ah (xs.set n x) (bS.set n y):=by
 refine⟨by simp[h.1],fun i v au an dJ=>?_⟩
 rw[List.getElem?_set]at an dJ
 by_cases aG:n=i
 ·subst aG
  rw[if_pos rfl]at an dJ
  rw[<-h.1]at dJ
  split at an
  ·rename_i a5;rw[if_pos a5]at dJ;cases an;cases dJ;exact J
  ·cases an
 ·rw[if_neg aG]at an dJ
  exact h.2 i v au an dJ
theorem cK.replicate(ah:bg)(n:Nat):cK ah (List.replicate n undef) (List.replicate n undef):=by
 refine⟨rfl,fun i v au J aK=>?_⟩
 rw[List.getElem?_replicate]at J aK
 split at J
 ·rename_i h;rw[if_pos h]at aK;cases J;cases aK;exact bl.undef ah
 ·cases J
theorem cK.get{ah:bg}{xs bS:List Value}(h:cK ah xs bS){i:Nat}{v:Value}(J:xs[i]?=some v):∃au,bS[i]?=some au/\bl ah v au:=by
 obtain⟨ad,rfl⟩:=cH.1 J
 have aW:i<bS.length:=by rw[<-h.1];exact ad
 exact⟨bS[i],bB aW,h.2 i _ _ (bB ad) (bB aW)⟩
theorem fc.get{ah:bg}{xs bS:Array Value}(h:fc ah xs bS){i:Nat}{v:Value}(J:xs[i]?=some v):∃au,bS[i]?=some au/\bl ah v au:=by
 obtain⟨au,o,aa⟩:=h.toList.get (i:=i) (v:=v) (by simpa using J)
 exact⟨au,by simpa using o,aa⟩
theorem cK.getD{ah:bg}{xs bS:List Value}(h:cK ah xs bS)(i:Nat):bl ah (xs.getD i undef) (bS.getD i undef):=by
 by_cases ad:i<xs.length
 ·obtain⟨au,o,aa⟩:=h.get (bB ad)
  simp only[List.getD_eq_getElem?_getD,o,bB ad,Option.getD_some]
  exact aa
 ·simp only[List.getD_eq_getElem?_getD]
  rw[List.getElem?_eq_none (by omega),List.getElem?_eq_none (by rw[<-h.1];omega)]
  exact bl.undef ah
def mi(ei:Nat×Nat)(N:Nat):Prop:=∀j,j<N->¬(ei.1<=j/\j<ei.2)
inductive kV (P:Program) (base:Nat) (ah:bg) (w:World) (k:iI):bK->Prop
 | own {e:TypeId} {l:Bool} {cs:List Value} {cur:Array Value} {ei:Nat×Nat} {inf:TypeInfo} (ag:base<=k.g) (ar:k.loose=l) (ad:P.info? e=some inf) (ao:inf.size=k.U)
   (aU:w.heap[k.g]?=some (.cells cur e ei)) (bQ:cur.size=k.N) (az:mi ei k.N) (bz:k.R+cs.length<=k.N)
   (an:∀(i:Nat) (v:Value),cs[i]?=some v->∃au,cur[k.R+i]?=some au/\bl ah v au):kV P base ah w k (.own e l cs)
 | ro {e:TypeId} {cs:List Value} {inf:TypeInfo} (ad:P.info? e=some inf) (ao:inf.size=k.U) (an:∀(i:Nat) (v:Value),cs[i]?=some v->∃au,w.cell? ⟨k.g,k.R+i,none⟩=some au/\bl ah v au) (c7:k.g<w.heap.size):kV P base ah w k (.ro e cs)
 | dead:kV P base ah w k .dead
structure cl (P:Program) (base:Nat) (ah:bg) (H:ab) (w:World):Prop where
 pos:0<H.length
 size:base<=w.heap.size
 eP:∀b k,ah b=some k->0<b/\b<H.length
 e8:∀b k x,ah b=some k->H[b]?=some x->kV P base ah w k x
 inj:∀b ct k cb,ah b=some k->ah ct=some cb->b≠ct->hM H b->lB H ct->k.g≠cb.g
structure Step (ah:bg) (H:ab) (w:World) (bu:bg) (H1:ab) (a7:World):Prop where
 ext:∀b k,ah b=some k->bu b=some k
 new:∀b k,bu b=some k->ah b=some k\/H.length<=b
 len:H.length<=H1.length
 own:∀b k,bu b=some k->hM H1 b->w.heap.size<=k.g\/∃hq jL,ah hq=some jL/\hM H hq/\jL.g=k.g
 os:a7.os=w.os
 tape:a7.tape=w.tape
 output:a7.output=w.output
 size:w.heap.size<=a7.heap.size
 frame:∀g,g<w.heap.size->(∀b k,ah b=some k->hM H b->k.g≠g)->a7.heap[g]?=w.heap[g]?
theorem Step.refl(ah:bg)(H:ab)(w:World):Step ah H w ah H w:=
 ⟨fun _ _ h=>h,fun _ _ h=> .inl h,Nat.le_refl _,fun b k h aM=> .inr ⟨b,k,h,aM,rfl⟩,rfl,rfl,rfl,Nat.le_refl _,fun _ _ _=>rfl⟩
theorem Step.trans{ah bu mO:bg}{H H1 aR:ab}{w a7 hl:World}(h:Step ah H w bu H1 a7)(cu:Step bu H1 a7 mO aR hl):Step ah H w mO aR hl where
 ext b k ag:=cu.ext b k (h.ext b k ag)
 new b k ag:=by
  rcases cu.new b k ag with o | o
  ·exact h.new b k o
  ·exact .inr (Nat.le_trans h.len o)
 len:=Nat.le_trans h.len cu.len
 own b k ag aM:=by
  rcases cu.own b k ag aM with o | ⟨hq,jL,o,aa,aB⟩
  ·exact .inl (Nat.le_trans h.size o)
  ·rcases h.own hq jL o aa with bs | ⟨gN,jr,bs,bJ,dP⟩
   ·exact .inl (by omega)
   ·exact .inr ⟨gN,jr,bs,bJ,by omega⟩
 os:=cu.os.trans h.os
 tape:=cu.tape.trans h.tape
 output:=cu.output.trans h.output
 size:=Nat.le_trans h.size cu.size
 frame g aU cQ:=by
  rw[cu.frame g (Nat.lt_of_lt_of_le aU h.size) ?_,h.frame g aU cQ]
  intro b k ag aM e
  rcases h.own b k ag aM with o | ⟨hq,jL,o,aa,aB⟩
  ·omega
  ·exact cQ hq jL o aa (by omega)
theorem CI{w a7:World}{a:Addr}(h:a7.heap[a.block]?=w.heap[a.block]?):a7.cell? a=w.cell? a:=by simp[World.cell?,h]
theorem kV.gA{P:Program}{base:Nat}{ah bu:bg}{w a7:World}{k:iI}{x:bK}(h:kV P base ah w k x)(he:∀b k,ah b=some k->bu b=some k)
  (hw:x.cells?≠none->a7.heap[k.g]?=w.heap[k.g]?)(xK:w.heap.size<=a7.heap.size):kV P base bu a7 k x:=by
 cases h with
 | own ag ar ad ao aU bQ az bz an=>
  exact .own ag ar ad ao (by rw[hw (by simp[bK.cells?])];exact aU) bQ az bz fun i v ad=>let⟨au,o,aa⟩:=an i v ad;⟨au,o,aa.ext he⟩
 | ro ad ao an c7=>
  refine .ro ad ao (fun i v ad=>?_) (Nat.lt_of_lt_of_le c7 xK)
  obtain⟨au,o,aa⟩:=an i v ad
  exact⟨au,by rw[CI (w:=w) (by exact hw (by simp[bK.cells?]))];exact o,aa.ext he⟩
 | dead=>exact .dead
theorem kV.lt{P:Program}{base:Nat}{ah:bg}{w:World}{k:iI}{x:bK}(h:kV P base ah w k x)(J:x.cells?≠none):k.g<w.heap.size:=by
 cases h with
 | own ag ar ad ao aU bQ az bz an=>exact(Array.getElem?_eq_some_iff.1 aU).1
 | ro ad ao an c7=>exact c7
 | dead=>simp[bK.cells?]at J
theorem cl.heap{P:Program}{base:Nat}{ah:bg}{H:ab}{w a7:World}(h:cl P base ah H w)(c4:a7.heap=w.heap):cl P base ah H a7:=
 ⟨h.pos,by rw[c4];exact h.size,h.eP,fun b k x ag J=>(h.e8 b k x ag J).gA (fun _ _ h=>h) (fun _=>by rw[c4]) (by rw[c4];exact Nat.le_refl _),h.inj⟩
theorem Step.drawn(ah:bg)(H:ab)(w:World)(n:Nat):Step ah H w ah H {w with drawn:=n}:=
 ⟨fun _ _ h=>h,fun _ _ h=> .inl h,Nat.le_refl _,fun b k h aM=> .inr ⟨b,k,h,aM,rfl⟩,rfl,rfl,rfl,Nat.le_refl _,fun _ _ _=>rfl⟩
def bg.put(ah:bg)(b:Nat)(k:iI):bg:=fun c=>if c=b then some k else ah c
theorem bg.nu(ah:bg)(b:Nat)(k:iI):ah.put b k b=some k:=by simp[bg.put]
theorem bg.lp(ah:bg){b c:Nat}(k:iI)(h:c≠b):ah.put b k c=ah c:=by simp[bg.put,h]
theorem cl.JM{P:Program}{base:Nat}{ah:bg}{H:ab}{w:World}(h:cl P base ah H w)(k:iI):∀b cb,ah b=some cb->ah.put H.length k b=some cb:=fun b cb ag=>by
 rw[bg.lp _ _ (by have:=(h.eP b cb ag).2;omega)];exact ag
theorem wE{H:ab}{x:bK}{b:Nat}(h:b<H.length):(H++[x])[b]?=H[b]?:=List.getElem?_append_left h
theorem J2(H:ab)(x:bK):(H++[x])[H.length]?=some x:=by simp
theorem A8{H:ab}{x:bK}{b:Nat}(h:hM (H++[x]) b)(ag:b≠H.length):hM H b:=by
 obtain⟨e,l,cs,h⟩:=h
 have a5:b<(H++[x]).length:=(cH.1 h).1
 simp at a5
 exact⟨e,l,cs,by rwa[wE (by omega)]at h⟩
theorem E8{H:ab}{x:bK}{b:Nat}(h:lB (H++[x]) b)(ag:b≠H.length):lB H b:=by
 obtain⟨y,cs,h,ae⟩:=h
 have a5:b<(H++[x]).length:=(cH.1 h).1
 simp at a5
 exact⟨y,cs,by rwa[wE (by omega)]at h,ae⟩
theorem cl.alloc{P:Program}{base:Nat}{ah:bg}{H:ab}{w:World}(h:cl P base ah H w){e:TypeId}{l:Bool}{cs:List Value}{cur:Array Value}{ei:Nat×Nat}{inf:TypeInfo}{U:Nat}
  (ad:P.info? e=some inf)(ao:inf.size=U)(az:mi ei cur.size)(bz:cs.length<=cur.size)(an:∀(i:Nat) (v:Value),cs[i]?=some v->∃au,cur[i]?=some au/\bl ah v au):
  cl P base (ah.put H.length ⟨w.heap.size,0,cur.size,U,l⟩) (H++[.own e l cs]) (w.alloc (.cells cur e ei))/\Step ah H w (ah.put H.length ⟨w.heap.size,0,cur.size,U,l⟩) (H++[.own e l cs]) (w.alloc (.cells cur e ei)):=by
 have hold:∀g,g<w.heap.size->(w.alloc (.cells cur e ei)).heap[g]?=w.heap[g]?:=fun g aU=>heap_alloc_old w _ aU
 have he:=h.JM ⟨w.heap.size,0,cur.size,U,l⟩
 constructor
 ·refine⟨by simp,by simp;have:=h.size;omega,fun b k ag=>?_,fun b k x ag J=>?_,fun b ct k cb ag c8 cQ aM dG=>?_⟩
  ·by_cases gy:b=H.length
   ·subst gy;exact⟨h.pos,by simp⟩
   ·rw[bg.lp _ _ gy]at ag;have:=h.eP b k ag;simp;omega
  ·by_cases gy:b=H.length
   ·subst gy
    rw[bg.nu]at ag
    obtain rfl:=Option.some.inj ag
    rw[J2]at J
    obtain rfl:=Option.some.inj J
    exact .own h.size rfl ad ao (heap_alloc_new w _) rfl az (by simpa using bz) fun i v ae=>let⟨au,o,aa⟩:=an i v ae;⟨au,by simpa using o,aa.ext he⟩
   ·rw[bg.lp _ _ gy]at ag
    rw[wE (h.eP b k ag).2]at J
    exact(h.e8 b k x ag J).gA he (fun x4=>hold _ ((h.e8 b k x ag J).lt x4)) (by simp)
  ·by_cases gy:b=H.length
   ·subst gy
    rw[bg.nu]at ag
    obtain rfl:=Option.some.inj ag
    have uH:ct≠H.length:=fun e=>cQ e.symm
    rw[bg.lp _ _ uH]at c8
    obtain⟨y,e1,aK,ae⟩:=E8 dG uH
    have:=(h.e8 ct cb y c8 aK).lt (by rw[ae];simp)
    simp only;omega
   ·rw[bg.lp _ _ gy]at ag
    have ft:=A8 aM gy
    by_cases uH:ct=H.length
    ·subst uH
     rw[bg.nu]at c8
     obtain rfl:=Option.some.inj c8
     obtain⟨hs,M8,wm,aK⟩:=ft
     have:=(h.e8 b k _ ag aK).lt (by simp[bK.cells?])
     simp only;omega
    ·rw[bg.lp _ _ uH]at c8
     exact h.inj b ct k cb ag c8 cQ ft (E8 dG uH)
 ·refine⟨he,fun b k ag=>?_,by simp,fun b k ag aM=>?_,rfl,rfl,rfl,by simp,fun g aU _=>hold g aU⟩
  ·by_cases gy:b=H.length
   ·exact .inr (by omega)
   ·rw[bg.lp _ _ gy]at ag;exact .inl ag
  ·by_cases gy:b=H.length
   ·subst gy;rw[bg.nu]at ag;obtain rfl:=Option.some.inj ag;exact .inl (Nat.le_refl _)
   ·rw[bg.lp _ _ gy]at ag;exact .inr ⟨b,k,ag,A8 aM gy,rfl⟩
def im(w:World)(g:Nat)(x:Obj):World:={w with heap:=w.heap.setIfInBounds g x}
theorem Fx(w:World)(g:Nat)(x:Obj)(h:g<w.heap.size):(im w g x).heap[g]?=some x:=by simp[im,h]
theorem Bu(w:World)(g i:Nat)(x:Obj)(h:i≠g):(im w g x).heap[i]?=w.heap[i]?:=by simp[im,Array.getElem?_setIfInBounds_ne (Ne.symm h)]
theorem Bv(w:World)(g:Nat)(x:Obj):(im w g x).heap.size=w.heap.size:=by simp[im]
theorem x_{H:ab}{b c:Nat}{x:bK}(h:hM (H.set b x) c)(J:hM H b):hM H c:=by
 by_cases ae:b=c
 ·subst ae;exact J
 ·obtain⟨e,l,cs,h⟩:=h
  exact⟨e,l,cs,by rwa[List.getElem?_set_ne ae]at h⟩
theorem E9{H:ab}{b c:Nat}{x:bK}(h:lB (H.set b x) c)(J:hM H b):lB H c:=by
 by_cases ae:b=c
 ·subst ae;exact J.live
 ·obtain⟨y,cs,h,c4⟩:=h
  exact⟨y,cs,by rwa[List.getElem?_set_ne ae]at h,c4⟩
theorem cl.put{P:Program}{base:Nat}{ah:bg}{H:ab}{w:World}(h:cl P base ah H w){b:Nat}{k:iI}{e:TypeId}{l:Bool}{cs eC:List Value}{lH:Array Value}{ei:Nat×Nat}
  (ag:ah b=some k)(J:H[b]?=some (.own e l cs))(oV:∃cur,w.heap[k.g]?=some (.cells cur e ei)/\lH.size=cur.size)(hlen:eC.length=cs.length)
  (an:∀(i:Nat) (v:Value),eC[i]?=some v->∃au,lH[k.R+i]?=some au/\bl ah v au):
  cl P base ah (H.set b (.own e l eC)) (im w k.g (.cells lH e ei))/\Step ah H w ah (H.set b (.own e l eC)) (im w k.g (.cells lH e ei)):=by
 obtain⟨cur,oV,c7⟩:=oV
 have j2:hM H b:=⟨e,l,cs,J⟩
 have a5:k.g<w.heap.size:=(Array.getElem?_eq_some_iff.1 oV).1
 have c8:b<H.length:=(h.eP b k ag).2
 constructor
 ·refine⟨by simpa using h.pos,by rw[Bv];exact h.size,fun c c9 ae=>by simpa using h.eP c c9 ae,fun c c9 x ae ij=>?_,fun c dT c9 vi ae gQ cQ aM dG=>h.inj c dT c9 vi ae gQ cQ (x_ aM j2) (E9 dG j2)⟩
  by_cases jC:b=c
  ·subst jC
   rw[ag]at ae
   obtain rfl:=Option.some.inj ae
   rw[List.getElem?_set_self c8]at ij
   obtain rfl:=Option.some.inj ij
   cases h.e8 b k _ ag J with
   | own sr ar ad ao aU bQ az bz EC=>
    rw[oV]at aU
    injection aU with aU
    injection aU with mv xl pQ
    subst mv;subst pQ
    exact .own sr ar ad ao (Fx w _ _ a5) (by omega) az (by omega) an
  ·rw[List.getElem?_set_ne jC]at ij
   have n1:=h.e8 c c9 x ae ij
   refine n1.gA (fun _ _ h=>h) (fun x4=>Bu w _ _ _ ?_) (by rw[Bv];exact Nat.le_refl _)
   obtain⟨nN,xd⟩:∃nN,x.cells?=some nN:=by cases av:x.cells? with | none=>exact absurd av x4 | some q=>exact⟨q,rfl⟩
   exact fun e=>h.inj b c k c9 ag ae jC j2 ⟨x,nN,ij,xd⟩ e.symm
 ·refine⟨fun _ _ h=>h,fun _ _ h=> .inl h,by simp,fun c c9 ae aM=> .inr ⟨c,c9,ae,x_ aM j2,rfl⟩,rfl,rfl,rfl,by rw[Bv];exact Nat.le_refl _,fun g aU cQ=>?_⟩
  exact Bu w _ _ _ fun e=>cQ b k ag j2 e.symm
theorem cl.kill{P:Program}{base:Nat}{ah:bg}{H:ab}{w:World}(h:cl P base ah H w)(b:Nat)(j2:hM H b):cl P base ah (H.set b .dead) w/\Step ah H w ah (H.set b .dead) w:=by
 have c8:b<H.length:=by obtain⟨e,l,cs,J⟩:=j2;exact(cH.1 J).1
 constructor
 ·refine⟨by simpa using h.pos,h.size,fun c c9 ae=>by simpa using h.eP c c9 ae,fun c c9 x ae ij=>?_,fun c dT c9 vi ae gQ cQ aM dG=>h.inj c dT c9 vi ae gQ cQ (x_ aM j2) (E9 dG j2)⟩
  by_cases jC:b=c
  ·subst jC
   rw[List.getElem?_set_self c8]at ij
   obtain rfl:=Option.some.inj ij
   exact .dead
  ·rw[List.getElem?_set_ne jC]at ij
   exact h.e8 c c9 x ae ij
 ·exact⟨fun _ _ h=>h,fun _ _ h=> .inl h,by simp,fun c c9 ae aM=> .inr ⟨c,c9,ae,x_ aM j2,rfl⟩,rfl,rfl,rfl,Nat.le_refl _,fun _ _ _=>rfl⟩
theorem cl.Fh{P:Program}{base:Nat}{ah:bg}{H:ab}{w:World}(h:cl P base ah H w){b i:Nat}{k:iI}{e:TypeId}{l de:Bool}{cs eC:List Value}{lH:Array Value}{ei:Nat×Nat}
  (ag:ah b=some k)(J:H[b]?=some (.own e l cs))(oV:∃cur,w.heap[k.g]?=some (.cells cur e ei)/\lH.size=cur.size)(bz:k.R+i+eC.length<=lH.size)
  (an:∀(j:Nat) (v:Value),eC[j]?=some v->∃au,lH[k.R+i+j]?=some au/\bl ah v au):
  cl P base (ah.put H.length ⟨k.g,k.R+i,k.N,k.U,de⟩) (H.set b .dead++[.own e de eC]) (im w k.g (.cells lH e ei))/\
  Step ah H w (ah.put H.length ⟨k.g,k.R+i,k.N,k.U,de⟩) (H.set b .dead++[.own e de eC]) (im w k.g (.cells lH e ei)):=by
 obtain⟨cur,oV,c7⟩:=oV
 have j2:hM H b:=⟨e,l,cs,J⟩
 have a5:k.g<w.heap.size:=(Array.getElem?_eq_some_iff.1 oV).1
 have c8:b<H.length:=(h.eP b k ag).2
 have he:=h.JM ⟨k.g,k.R+i,k.N,k.U,de⟩
 have hlen:(H.set b .dead).length=H.length:=by simp
 have DU:∀{c},c≠H.length->lB (H.set b .dead++[.own e de eC]) c->c≠b/\lB H c:=by
  intro c ae ar
  have o:=E8 ar (by rw[hlen];exact ae)
  refine⟨fun e=>?_,E9 o j2⟩
  subst e
  obtain⟨y,e1,aK,K0⟩:=o
  rw[List.getElem?_set_self c8]at aK
  obtain rfl:=Option.some.inj aK
  simp[bK.cells?]at K0
 have xK:(im w k.g (.cells lH e ei)).heap.size=w.heap.size:=Bv ..
 have Al:∀c c9 x,ah c=some c9->H[c]?=some x->c≠b->kV P base (ah.put H.length ⟨k.g,k.R+i,k.N,k.U,de⟩) (im w k.g (.cells lH e ei)) c9 x:=by
  intro c c9 x ae ij jC
  have n1:=h.e8 c c9 x ae ij
  refine n1.gA he (fun x4=>Bu w _ _ _ ?_) (by rw[xK];exact Nat.le_refl _)
  obtain⟨nN,xd⟩:∃nN,x.cells?=some nN:=by cases av:x.cells? with | none=>exact absurd av x4 | some q=>exact⟨q,rfl⟩
  exact fun e=>h.inj b c k c9 ag ae (Ne.symm jC) j2 ⟨x,nN,ij,xd⟩ e.symm
 constructor
 ·refine⟨by simp,by rw[xK];exact h.size,fun c c9 ae=>?_,fun c c9 x ae ij=>?_,fun c dT c9 vi ae gQ cQ aM dG=>?_⟩
  ·by_cases fS:c=H.length
   ·subst fS;exact⟨h.pos,by simp⟩
   ·rw[bg.lp _ _ fS]at ae;have:=h.eP c c9 ae;simp;omega
  ·by_cases fS:c=H.length
   ·subst fS
    rw[bg.nu]at ae
    obtain rfl:=Option.some.inj ae
    rw[<-hlen,J2]at ij
    obtain rfl:=Option.some.inj ij
    cases h.e8 b k _ ag J with
    | own sr ar ad ao aU bQ az DY EC=>
     rw[oV]at aU
     injection aU with aU
     injection aU with mv xl pQ
     subst mv;subst pQ
     exact .own sr rfl ad ao (Fx w _ _ a5) (by simp only;omega) az (by simp only;omega) fun j v aW=>let⟨au,o,aa⟩:=an j v aW;⟨au,o,aa.ext he⟩
   ·rw[bg.lp _ _ fS]at ae
    rw[wE (by rw[hlen];exact(h.eP c c9 ae).2)]at ij
    by_cases jC:b=c
    ·subst jC
     rw[List.getElem?_set_self c8]at ij
     obtain rfl:=Option.some.inj ij
     exact .dead
    ·rw[List.getElem?_set_ne jC]at ij
     exact Al c c9 x ae ij (Ne.symm jC)
  ·by_cases fS:c=H.length
   ·subst fS
    rw[bg.nu]at ae
    obtain rfl:=Option.some.inj ae
    have uL:dT≠H.length:=fun e=>cQ e.symm
    rw[bg.lp _ _ uL]at gQ
    obtain⟨o,aa⟩:=DU uL dG
    exact h.inj b dT k vi ag gQ (Ne.symm o) j2 aa
   ·rw[bg.lp _ _ fS]at ae
    obtain⟨o,aa⟩:=DU fS aM.live
    have q3:=A8 aM (by rw[hlen];exact fS)
    have LI:hM H c:=by
     obtain⟨hs,M8,wm,aK⟩:=q3
     exact⟨hs,M8,wm,by rwa[List.getElem?_set_ne (Ne.symm o)]at aK⟩
    by_cases uL:dT=H.length
    ·subst uL
     rw[bg.nu]at gQ
     obtain rfl:=Option.some.inj gQ
     exact h.inj c b c9 k ae ag o LI j2.live
    ·rw[bg.lp _ _ uL]at gQ
     exact h.inj c dT c9 vi ae gQ cQ LI (DU uL dG).2
 ·refine⟨he,fun c c9 ae=>?_,by simp,fun c c9 ae aM=>?_,rfl,rfl,rfl,by rw[xK];exact Nat.le_refl _,fun g aU cQ=>Bu w _ _ _ fun e=>cQ b k ag j2 e.symm⟩
  ·by_cases fS:c=H.length
   ·exact .inr (by omega)
   ·rw[bg.lp _ _ fS]at ae;exact .inl ae
  ·by_cases fS:c=H.length
   ·subst fS;rw[bg.nu]at ae;obtain rfl:=Option.some.inj ae;exact .inr ⟨b,k,ag,j2,rfl⟩
   ·rw[bg.lp _ _ fS]at ae
    exact .inr ⟨c,c9,ae,x_ (A8 aM (by rw[hlen];exact fS)) j2,rfl⟩
theorem fD{P:Program}{α β:Type}(x:Sem α)(f:α->Sem β):dy P (x>>=f)=(dy P x).bind fun a=>dy P (f a):=by
 show dy P (x.bind f)=_
 induction x with
 | pure a=>rfl
 | program k a0=>simp only[Sem.bind,dy];exact a0 P
 | mark m k a0=>simp only[Sem.bind,dy];exact a0
 | _=>simp[Sem.bind,dy]
theorem e9{P:Program}{α:Type}(a:α):dy P (pure a:Sem α)=some a:=rfl
def bp(P:Program)(t:TypeId):Option Nat:=(P.info? t).map (·.size)
def dA(P:Program)(t:TypeId):Option Value:=(P.info? t).bind (·.zero)
def bytes?(P:Program)(t:TypeId):Option Nat:=(P.info? t).map (·.bytes)
theorem ov{P:Program}(t:TypeId):dy P (underlying t)=P.underlying t:=by
 unfold underlying
 rw[fD]
 show(some P).bind _=_
 simp only[Option.bind_some]
 cases h:P.underlying t<;>rfl
theorem N1{P:Program}(t:TypeId):dy P (typeInfo t)=P.info? t:=by
 unfold typeInfo
 rw[fD]
 show(some P).bind _=_
 simp only[Option.bind_some]
 cases h:P.info? t<;>rfl
theorem ys{P:Program}(t:TypeId):dy P (sizeOf t)=bp P t:=by
 unfold sizeOf
 rw[fD,N1]
 cases h:P.info? t<;>simp[bp,h,e9]
theorem Fw{P:Program}(t:TypeId):dy P (zeroValue t)=dA P t:=by
 unfold zeroValue
 rw[fD,N1]
 cases h:P.info? t with
 | none=>simp[dA,h]
 | some i=>cases aN:i.zero<;>simp[dA,h,aN]<;>rfl
theorem NZ{P:Program}(t:TypeId):dy P (isAgg t)=(P.underlying t).map fun d=>match d with | .struct _ | .array _ _=>true | _=>false:=by
 unfold isAgg
 rw[fD,ov]
 cases h:P.underlying t with
 | none=>rfl
 | some d=>cases d<;>rfl
theorem kx{P:Program}{t:TypeId}{n:Nat}(h:bp P t=some n)(w:World):(sizeOf t).run P w= .ok n w:=rv _ _ (by rw[ys];exact h) w
theorem BE{P:Program}{t:TypeId}{z:Value}(h:dA P t=some z)(w:World):(zeroValue t).run P w= .ok z w:=rv _ _ (by rw[Fw];exact h) w
theorem fc.set{ah:bg}{xs bS:Array Value}(h:fc ah xs bS)(n:Nat){x y:Value}(J:bl ah x y):fc ah (xs.setIfInBounds n x) (bS.setIfInBounds n y):=by
 have:=(h.toList.set n J).toArray
 rw[show xs.setIfInBounds n x=(xs.toList.set n x).toArray from by apply Array.ext';simp,show bS.setIfInBounds n y=(bS.toList.set n y).toArray from by apply Array.ext';simp]
 exact this
theorem JZ{ah:bg}(off:Nat):∀(l de:List Value) (j:Nat) (cs eC:Array Value),cK ah l de->fc ah cs eC->
  fc ah ((l.zipIdx j).foldl (fun cs (qF:Value×Nat)=>cs.setIfInBounds (off+qF.2) qF.1) cs) ((de.zipIdx j).foldl (fun cs (qF:Value×Nat)=>cs.setIfInBounds (off+qF.2) qF.1) eC)
 | [],[],_,_,_,_,h=>h
 | [],_::_,_,_,_,ar,_=>by simp[cK]at ar
 | _::_,[],_,_,_,ar,_=>by simp[cK]at ar
 | x::l,y::de,j,cs,eC,ar,h=>by
  simp only[List.zipIdx_cons,List.foldl_cons]
  refine JZ off l de (j+1) _ _ ⟨by simpa using ar.1,fun i v au an dJ=>ar.2 (i+1) v au (by simpa using an) (by simpa using dJ)⟩ (h.set _ ?_)
  exact ar.2 0 x y rfl rfl
theorem zI{ah:bg}{aJ cz:Operand->Value}(place:Nat->Option (Nat×Nat)):∀(a6:List (Nat×Operand)) (cs eC out:Array Value),(∀p∈a6,bl ah (aJ p.2) (cz p.2))->fc ah cs eC->
  Instr.fill place cs (a6.map fun p=>(p.1,aJ p.2))=some out->∃g7,Instr.fill place eC (a6.map fun p=>(p.1,cz p.2))=some g7/\fc ah out g7
 | [],cs,eC,out,_,h,az=>by
  simp[Instr.fill]at az
  subst az
  exact⟨eC,rfl,h⟩
 | (i,x)::a6,cs,eC,out,a2,h,az=>by
  simp only[List.map_cons,Instr.fill]at az⊢
  cases ig:place i with
  | none=>simp[ig]at az
  | some os=>
   obtain⟨off,size⟩:=os
   simp only[ig]at az⊢
   have an:=(a2 (i,x) (List.mem_cons_self)).cells
   by_cases ae:((aJ x).cells.size≠size || decide (off+(aJ x).cells.size>cs.size))=true
   ·rw[if_pos ae]at az;cases az
   ·rw[if_neg ae]at az
    rw[if_neg (by rw[<-an.1,<-h.1];exact ae)]
    refine zI place a6 _ _ out (fun p hm=>a2 p (List.mem_cons_of_mem _ hm)) ?_ az
    have:=JZ off (aJ x).cells.toList (cz x).cells.toList 0 cs eC an.toList h
    rw[<-Array.foldl_toList,<-Array.foldl_toList,Array.toList_zipIdx,Array.toList_zipIdx]
    exact this
theorem Ca{ah:bg}{z:Value}(aN:flat z=true):fc ah z.cells z.cells:=(tV ah aN).cells
theorem Qt{P:Program}{ah:bg}{aJ cz:Operand->Value}{t:TypeId}{a6:Array (Nat×Operand)}{z v:Value}(aN:dA P t=some z)(dU:flat z=true)(a2:∀p∈a6,bl ah (aJ p.2) (cz p.2))
  (h:dy P (Instr.build t (a6.map fun p=>(p.1,aJ p.2)))=some v):∃au,dy P (Instr.build t (a6.map fun p=>(p.1,cz p.2)))=some au/\bl ah v au:=by
 have q4:∀p∈a6.toList,bl ah (aJ p.2) (cz p.2):=fun p hm=>a2 p (by simpa using hm)
 have ar:∀r:Operand->Value,(a6.map fun p=>(p.1,r p.2)).toList=a6.toList.map fun p=>(p.1,r p.2):=fun r=>by simp
 unfold Instr.build at h⊢
 simp only[fD,Fw,aN,Option.bind_some,ov]at h⊢
 cases hu:P.underlying t with
 | none=>simp[hu]at h
 | some d=>
  simp only[hu,Option.bind_some]at h⊢
  cases d with
  | struct fields=>
   simp only[fD]at h⊢
   cases hm:dy P (fields.mapM fun f=>do pure (f.offset,<-sizeOf f.type))with
   | none=>rw[hm]at h;simp at h
   | some lo=>
    rw[hm]at h
    simp only[Option.bind_some,ar]at h⊢
    cases az:Instr.fill (fun x=>lo[x]?) z.cells (a6.toList.map fun p=>(p.1,aJ p.2))with
    | none=>rw[az]at h;simp[dy,stuck]at h
    | some out=>
     rw[az]at h
     obtain⟨g7,o,aa⟩:=zI (cz:=cz) _ a6.toList _ _ out q4 (Ca dU) az
     rw[o]
     simp only[e9,Option.some.injEq]at h⊢
     subst h
     exact⟨_,rfl,.agg aa.1 aa.2⟩
  | array n elem=>
   simp only[fD,ys]at h⊢
   cases ao:bp P elem with
   | none=>rw[ao]at h;simp at h
   | some size=>
    rw[ao]at h
    simp only[Option.bind_some,ar]at h⊢
    cases az:Instr.fill (fun i=>some (i*size,size)) z.cells (a6.toList.map fun p=>(p.1,aJ p.2))with
    | none=>rw[az]at h;simp[dy,stuck]at h
    | some out=>
     rw[az]at h
     obtain⟨g7,o,aa⟩:=zI (cz:=cz) _ a6.toList _ _ out q4 (Ca dU) az
     rw[o]
     simp only[e9,Option.some.injEq]at h⊢
     subst h
     exact⟨_,rfl,.agg aa.1 aa.2⟩
  | _=>simp[dy,stuck]at h
theorem fc.extract{ah:bg}{xs bS:Array Value}(h:fc ah xs bS)(i j:Nat):fc ah (xs.extract i j) (bS.extract i j):=by
 have:=((h.toList.take j).drop i).toArray
 rw[show xs.extract i j=((xs.toList.take j).drop i).toArray from by apply Array.ext';simp[Array.toList_extract,List.drop_take],show bS.extract i j=((bS.toList.take j).drop i).toArray from by apply Array.ext';simp[Array.toList_extract,List.drop_take]]
 exact this
theorem NO{P:Program}{ah:bg}{t:TypeId}{xs bS:Array Value}{off:Nat}{v:Value}(J:fc ah xs bS)(h:dy P (part t xs off)=some v):∃au,dy P (part t bS off)=some au/\bl ah v au:=by
 unfold part at h⊢
 simp only[fD]at h⊢
 cases aO:dy P (isAgg t)with
 | none=>rw[aO]at h;simp at h
 | some b=>
  rw[aO]at h
  simp only[Option.bind_some]at h⊢
  cases b
  ·simp only[Bool.false_eq_true,if_false]at h⊢
   cases ae:xs[off]? with
   | none=>simp[ae,dy,stuck]at h
   | some c=>
    simp only[ae,e9,Option.some.injEq]at h
    subst h
    obtain⟨au,o,aa⟩:=J.get ae
    simp only[o,e9]
    exact⟨_,rfl,aa⟩
  ·simp only[if_true,fD,ys]at h⊢
   cases ao:bp P t with
   | none=>rw[ao]at h;simp at h
   | some n=>
    rw[ao]at h
    simp only[Option.bind_some,e9,Option.some.injEq]at h⊢
    subst h
    exact⟨_,rfl,.agg (J.extract _ _).1 (J.extract _ _).2⟩
def rj(P:Program)(t:TypeId):Bool:=match P.underlying t with
 | some (.int _)=>true
 | _=>false
def bV(P:Program)(R:Oper):Bool:=
 match R.op with
 | .move _ | .assign _ | .pick .. | .build .. | .nilCheck _ | .fieldAddr .. | .field .. | .indexAddr .. | .index .. | .extract .. | .makeFunc .. | .makeInterface .. | .binOp .. | .unOp .. =>true
 | .call {callee:= .builtin .len,.. } | .call {callee:= .builtin .max,.. } | .call {callee:= .builtin .min,.. }=>true
 | .convert s t _=>rj P s&&rj P t
 | _=>false
inductive hL (P:Program) (aJ:Operand->Value) (R:Oper):Value->Prop
 | move {x:Operand} (h:R.op= .move x):hL P aJ R (aJ x)
 | assign {x:Operand} (h:R.op= .assign x):hL P aJ R (aJ x)
 | pick {c a b:Operand} {t:Bool} (h:R.op= .pick c a b) (ae:aJ c= .bool t):hL P aJ R (if t then aJ a else aJ b)
 | pure {v:Value} (a4:bV P R=true) (az:(R.op.operands.all fun x=>flat (aJ x))=true) (an:flat v=true) (h:dy P (execOp aJ R)=some (.value v)):hL P aJ R v
 | build {t:TypeId} {a6:Array (Nat×Operand)} {z v:Value} (h:R.op= .build t a6) (aN:dA P t=some z) (dU:flat z=true) (al:dy P (Instr.build t (a6.map fun p=>(p.1,aJ p.2)))=some v):hL P aJ R v
 | nilCheck {x:Operand} {a:Addr} (h:R.op= .nilCheck x) (J:aJ x= .pointer (some a)):hL P aJ R (aJ x)
 | fieldAddr {s:TypeId} {x:Operand} {f b i n:Nat} {jT:Array Field} {fd:Field} (h:R.op= .fieldAddr s x f) (hu:P.underlying s=some (.struct jT)) (az:jT[f]?=some fd) (ao:bp P fd.type=some (n+1))
   (J:aJ x= .pointer (some ⟨b,i,none⟩)):hL P aJ R (.pointer (some ⟨b,i+fd.offset,none⟩))
 | field {t:TypeId} {x:Operand} {f:Nat} {cs:Array Value} {v:Value} (h:R.op= .field t x f) (J:aJ x= .agg cs) (al:dy P (Instr.field t (.agg cs) f)=some v):hL P aJ R v
 | MX {t e:TypeId} {x ek:Operand} {b i len cap U:Nat} {k:IntKind} {n:Int} (h:R.op= .indexAddr t x ek) (hu:P.underlying t=some (.slice e)) (ao:bp P e=some U) (J:aJ x= .slice (some ⟨b,i,none⟩) len cap)
   (ad:aJ ek= .int k n) (aI:0<=n) (o:n<len):hL P aJ R (.pointer (some ⟨b,i+n.toNat*U,none⟩))
 | WB {t e:TypeId} {x ek:Operand} {b i len U:Nat} {k:IntKind} {n:Int} (h:R.op= .indexAddr t x ek) (hu:P.underlying t=some (.array len e)) (ao:bp P e=some U) (J:aJ x= .pointer (some ⟨b,i,none⟩))
   (ad:aJ ek= .int k n) (aI:0<=n) (o:n<len):hL P aJ R (.pointer (some ⟨b,i+n.toNat*U,none⟩))
 | index {t e:TypeId} {x ek:Operand} {len U:Nat} {k:IntKind} {n:Int} {cs:Array Value} {v:Value} (h:R.op= .index t x ek) (hu:P.underlying t=some (.array len e)) (ao:bp P e=some U) (J:aJ x= .agg cs)
   (ad:aJ ek= .int k n) (aI:0<=n) (o:n<len) (al:dy P (part e cs (n.toNat*U))=some v):hL P aJ R v
 | extract {x:Operand} {i:Nat} {aE:Array Value} {v:Value} (h:R.op= .extract x i) (J:aJ x= .tuple aE) (an:aE[i]?=some v):hL P aJ R v
 | Na {x:Operand} {t e:TypeId} {a:Option Addr} {n c:Nat} (h:R.op= .call {callee:= .builtin .len,args:= #[x],argTypes:= #[t]}) (hu:P.underlying t=some (.slice e)) (J:aJ x= .slice a n c):hL P aJ R (.int .i64 n)
 | makeFunc {fn:Fn} {a b:Array Operand} (h:R.op= .makeFunc fn a b):hL P aJ R (.func fn (a.map aJ) (b.map aJ))
 | No {t:TypeId} {x:Operand} (h:R.op= .makeInterface t x) (ae:P.concrete t=true):hL P aJ R (.iface t (aJ x))
 | JL {t e pn:TypeId} {x y:Operand} {a:Option Addr} {n c:Nat} (h:R.op= .binOp .eql t x y pn) (hu:P.underlying t=some (.slice e)) (J:aJ x= .slice a n c) (aK:aJ y= .slice none 0 0):hL P aJ R (.bool a.isNone)
 | Nz {t e pn:TypeId} {x y:Operand} {a:Option Addr} {n c:Nat} (h:R.op= .binOp .neq t x y pn) (hu:P.underlying t=some (.slice e)) (J:aJ x= .slice a n c) (aK:aJ y= .slice none 0 0):hL P aJ R (.bool (!a.isNone))
theorem fc.map{ah:bg}{aJ cz:Operand->Value}(xs:Array Operand)(h:∀x∈xs,bl ah (aJ x) (cz x)):fc ah (xs.map aJ) (xs.map cz):=by
 refine⟨by simp,fun i v au an dJ=>?_⟩
 simp only[Array.getElem?_map,Option.map_eq_some_iff]at an dJ
 obtain⟨x,J,rfl⟩:=an
 obtain⟨y,aK,rfl⟩:=dJ
 rw[J]at aK
 obtain rfl:=Option.some.inj aK
 exact h x (Array.mem_of_getElem? J)
theorem bl.oo{ah:bg}{k:IntKind}{n:Int}{v:Value}(h:bl ah (.int k n) v):v= .int k n:=by cases h;rfl
theorem bl.I5{ah:bg}{b:Bool}{v:Value}(h:bl ah (.bool b) v):v= .bool b:=by cases h;rfl
theorem bl.ru{ah:bg}{b i:Nat}{v:Value}(h:bl ah (.pointer (some ⟨b,i,none⟩)) v):∃k,ah b=some k/\v= .pointer (some ⟨k.g,k.R+i,none⟩):=by
 cases h with
 | ptr h=>exact⟨_,h,rfl⟩
theorem bl.IQ{ah:bg}{cs:Array Value}{v:Value}(h:bl ah (.agg cs) v):∃eC,v= .agg eC/\fc ah cs eC:=by
 cases h with
 | agg ar h=>exact⟨_,rfl,ar,h⟩
theorem bl.aa0{ah:bg}{cs:Array Value}{v:Value}(h:bl ah (.tuple cs) v):∃eC,v= .tuple eC/\fc ah cs eC:=by
 cases h with
 | tuple ar h=>exact⟨_,rfl,ar,h⟩
theorem bl.BN{ah:bg}{b i len cap:Nat}{v:Value}(h:bl ah (.slice (some ⟨b,i,none⟩) len cap) v)(aI:0<len):
  ∃k dD,ah b=some k/\v= .slice (some ⟨k.g,k.R+i,none⟩) len dD/\len<=cap/\cap<=dD/\(k.loose=false->dD=cap)/\(k.loose=true->k.R+i+dD*k.U<=k.N):=by
 cases h with
 | void=>omega
 | empty=>omega
 | slice h ae ar fX J bQ=>exact⟨_,_,h,rfl,ar,fX,J,bQ⟩
theorem bl.qd{ah:bg}{a:Option Addr}{len cap:Nat}{v:Value}(h:bl ah (.slice a len cap) v):∃fz dD,v= .slice fz len dD/\len<=dD/\len<=cap/\cap<=dD/\fz.isNone=a.isNone:=by
 cases h with
 | rn=>exact⟨_,_,rfl,Nat.le_refl _,Nat.le_refl _,Nat.le_refl _,rfl⟩
 | void=>exact⟨_,_,rfl,Nat.le_refl _,Nat.le_refl _,Nat.le_refl _,rfl⟩
 | empty=>exact⟨_,_,rfl,Nat.zero_le _,Nat.le_refl _,Nat.zero_le _,rfl⟩
 | slice h ae ar fX J bQ=>exact⟨_,_,rfl,Nat.le_trans ar fX,ar,fX,rfl⟩
theorem pz{g R n:Nat}:(⟨g,R,none⟩:Addr).add n=⟨g,R+n,none⟩:=by unfold Addr.add;split<;>simp_all
theorem Ol{P:Program}(w:World)(d:Nat)(t e:TypeId)(a:Option Addr)(n c:Nat)(h:P.underlying t=some (.slice e)):
  (Op.equalIn (d+1) t (.slice a n c) (.slice none 0 0)).run P w= .ok a.isNone w:=by
 cases a<;>simp[Op.equalIn,run_underlying h]
theorem Z2{P:Program}(w:World)(t e:TypeId)(a:Option Addr)(n c:Nat)(h:P.underlying t=some (.slice e)):
  (binOp .eql t (.slice a n c) (.slice none 0 0)).run P w= .ok (.bool a.isNone) w:=by
 simp only[binOp]
 simp[Op.equal,Op.maxDepth,Ol w 9999 t e a n c h]
theorem Z3{P:Program}(w:World)(t e:TypeId)(a:Option Addr)(n c:Nat)(h:P.underlying t=some (.slice e)):
  (binOp .neq t (.slice a n c) (.slice none 0 0)).run P w= .ok (.bool (!a.isNone)) w:=by
 simp only[binOp]
 simp[Op.equal,Op.maxDepth,Ol w 9999 t e a n c h]
theorem CY{P:Program}{aJ cz:Operand->Value}{R:Oper}{v:Value}{ah:bg}(h:hL P aJ R v)(dr:∀x∈R.op.operands,bl ah (aJ x) (cz x))(w:World):
  ∃au,(execOp cz R).run P w= .ok (.value au) w/\bl ah v au:=by
 cases h with
 | move h=>exact⟨_,by simp[execOp,h],dr _ (by simp[h,Op.operands])⟩
 | assign h=>exact⟨_,by simp[execOp,h],dr _ (by simp[h,Op.operands])⟩
 | pick h ae=>
  rename_i c a b t
  have o:=(ae▸dr c (by simp[h,Op.operands])).I5
  refine⟨if t then cz a else cz b,by simp[execOp,h,o,asBool],?_⟩
  cases t
  ·exact dr b (by simp[h,Op.operands])
  ·exact dr a (by simp[h,Op.operands])
 | pure a4 az an h=>
  have he:execOp aJ R=execOp cz R:=by
   refine execOp_congr R (fun cs b e=>?_) fun x J=>(JX (by simpa using Array.all_eq_true'.1 az x J) (dr x J)).symm
   simp[bV,e]at a4
  exact⟨v,rv _ _ (he▸h) w,tV ah an⟩
 | build h aN dU al=>
  rename_i t a6 z
  obtain⟨au,o,aa⟩:=Qt (cz:=cz) aN dU (fun p a2=>dr p.2 (by simp[h,Op.operands];exact⟨p.1,by simpa using a2⟩)) al
  exact⟨au,by simp[execOp,h,rv _ _ o w],aa⟩
 | nilCheck h J=>
  rename_i x a
  have o:=dr x (by simp[h,Op.operands])
  rw[J]at o⊢
  obtain⟨fz,he⟩:∃fz,cz x= .pointer (some fz):=by
   generalize cz x=u at o
   cases o<;>exact⟨_,rfl⟩
  exact⟨cz x,by simp[execOp,h,he],o⟩
 | fieldAddr h hu az ao J=>
  rename_i s x f b i n jT fd
  obtain⟨k,ak,he⟩:=(J▸dr x (by simp[h,Op.operands])).ru
  refine⟨_,?_,.ptr (i:=i+fd.offset) ak⟩
  simp[execOp,h,he,Instr.fieldAt,run_underlying hu,az,Instr.sureAddr,fieldPlace,kx ao,pz,Nat.add_assoc]
 | field h J al=>
  rename_i t x f cs
  obtain⟨eC,he,w_⟩:=(J▸dr x (by simp[h,Op.operands])).IQ
  unfold Instr.field at al
  simp only[fD,ov]at al
  cases hu:P.underlying t with
  | none=>simp[hu]at al
  | some d=>
   simp only[hu,Option.bind_some]at al
   cases d with
   | struct fields=>
    simp only at al
    cases pP:fields[f]? with
    | none=>simp[pP,dy,stuck]at al
    | some fd=>
     simp only[pP,asAgg,fD,e9,Option.bind_some]at al
     obtain⟨au,o,aa⟩:=NO w_ al
     exact⟨au,by simp[execOp,h,he,Instr.field,run_underlying hu,pP,asAgg,rv _ _ o w],aa⟩
   | _=>simp[dy,stuck]at al
 | MX h hu ao J ad aI o=>
  rename_i t e x ek b i len cap U k n
  obtain⟨Yx,dD,ak,he,-⟩:=(J▸dr x (by simp[h,Op.operands])).BN (by omega)
  have gp:=(ad▸dr ek (by simp[h,Op.operands])).oo
  refine⟨_,?_,.ptr (i:=i+n.toNat*U) ak⟩
  simp[execOp,h,he,gp,Instr.indexAt,asIntOf,run_underlying hu,kx ao,aI,o,pz,Nat.add_assoc]
 | WB h hu ao J ad aI o=>
  rename_i t e x ek b i len U k n
  obtain⟨Yx,ak,he⟩:=(J▸dr x (by simp[h,Op.operands])).ru
  have gp:=(ad▸dr ek (by simp[h,Op.operands])).oo
  refine⟨_,?_,.ptr (i:=i+n.toNat*U) ak⟩
  simp[execOp,h,he,gp,Instr.indexAt,Instr.sureAddr,asIntOf,run_underlying hu,kx ao,aI,o,pz,Nat.add_assoc]
 | index h hu ao J ad aI o al=>
  rename_i t e x ek len U k n cs
  obtain⟨eC,he,w_⟩:=(J▸dr x (by simp[h,Op.operands])).IQ
  have gp:=(ad▸dr ek (by simp[h,Op.operands])).oo
  obtain⟨au,a2,aa⟩:=NO w_ al
  exact⟨au,by simp[execOp,h,he,gp,Instr.index,asIntOf,run_underlying hu,kx ao,aI,o,rv _ _ a2 w],aa⟩
 | extract h J an=>
  rename_i x i aE
  obtain⟨eC,he,w_⟩:=(J▸dr x (by simp[h,Op.operands])).aa0
  obtain⟨au,o,aa⟩:=w_.get an
  exact⟨au,by simp[execOp,h,he,Instr.extract,o],aa⟩
 | Na h hu J=>
  rename_i x t e a n c
  obtain⟨fz,dT,he,-⟩:=(J▸dr x (by simp[h,Op.operands,Call.operands])).qd
  exact⟨_,by simp[execOp,h,he,resolve,invoke,builtin,Builtin.len_,run_underlying hu,goInt],.int _ _⟩
 | makeFunc h=>
  rename_i fn a b
  have o:=fc.map a (ah:=ah) (aJ:=aJ) (cz:=cz) fun x J=>dr x (by simp[h,Op.operands,J])
  have aa:=fc.map b (ah:=ah) (aJ:=aJ) (cz:=cz) fun x J=>dr x (by simp[h,Op.operands,J])
  exact⟨_,by simp[execOp,h,Instr.makeFunc],.func fn o.1 o.2 aa.1 aa.2⟩
 | No h ae=>
  rename_i t x
  exact⟨_,by simp[execOp,h,run_makeInterface w t _ ae],.iface t (dr x (by simp[h,Op.operands]))⟩
 | JL h hu J aK=>
  rename_i t e pn x y a n c
  obtain⟨fz,dT,he,-,-,-,aG⟩:=(J▸dr x (by simp[h,Op.operands])).qd
  have pZ:=zJ rfl (aK▸dr y (by simp[h,Op.operands]))
  refine⟨.bool a.isNone,?_,.bool _⟩
  rw[<-aG]
  simp[execOp,h,he,pZ,eqGuard,Z2 w t e fz n dT hu]
 | Nz h hu J aK=>
  rename_i t e pn x y a n c
  obtain⟨fz,dT,he,-,-,-,aG⟩:=(J▸dr x (by simp[h,Op.operands])).qd
  have pZ:=zJ rfl (aK▸dr y (by simp[h,Op.operands]))
  refine⟨.bool (!a.isNone),?_,.bool _⟩
  rw[<-aG]
  simp[execOp,h,he,pZ,eqGuard,Z3 w t e fz n dT hu]
def dq(P:Program)(t:TypeId):Option Bool:=(P.underlying t).map fun d=>match d with | .struct _ | .array _ _=>true | _=>false
theorem BD{P:Program}{t:TypeId}{b:Bool}(h:dq P t=some b)(w:World):(isAgg t).run P w= .ok b w:=rv _ _ (by rw[NZ];exact h) w
def bK.elem?:bK->Option TypeId
 | .own e _ _=>some e
 | .ro e _=>some e
 | .dead=>none
theorem cl.cell{P:Program}{base:Nat}{ah:bg}{H:ab}{w:World}(h:cl P base ah H w){b j:Nat}{k:iI}{x:bK}{cs:List Value}{v:Value}(ag:ah b=some k)(J:H[b]?=some x)(ae:x.cells?=some cs)
  (aW:cs[j]?=some v):∃au,w.cell? ⟨k.g,k.R+j,none⟩=some au/\bl ah v au:=by
 cases h.e8 b k x ag J with
 | own sr ar ad ao aU bQ az bz an=>
  simp only[bK.cells?,Option.some.injEq]at ae
  subst ae
  obtain⟨au,o,aa⟩:=an j v aW
  exact⟨au,by simp[World.cell?,aU,o],aa⟩
 | ro ad ao an c7=>
  simp only[bK.cells?,Option.some.injEq]at ae
  subst ae
  exact an j v aW
 | dead=>simp[bK.cells?]at ae
theorem cl.cells{P:Program}{base:Nat}{ah:bg}{H:ab}{w:World}(h:cl P base ah H w){b i n:Nat}{k:iI}{x:bK}{cs:List Value}(ag:ah b=some k)(J:H[b]?=some x)(ae:x.cells?=some cs)
  (bz:i+n<=cs.length):∃aE:List Value,aE.length=n/\(∀(j:Nat) (v:Value),aE[j]?=some v->w.cell? ((⟨k.g,k.R+i,none⟩:Addr).add j)=some v)/\cK ah ((cs.drop i).take n) aE:=by
 have key:∀j,j<n->∃v au,cs[i+j]?=some v/\w.cell? ⟨k.g,k.R+(i+j),none⟩=some au/\bl ah v au:=fun j aW=>by
  have a5:i+j<cs.length:=by omega
  obtain⟨au,o,aa⟩:=h.cell ag J ae (bB a5)
  exact⟨_,au,bB a5,o,aa⟩
 refine⟨(List.range n).map fun j=>(w.cell? ⟨k.g,k.R+(i+j),none⟩).getD undef,by simp,fun j v aW=>?_,?_,fun j v au an dJ=>?_⟩
 ·have a5:j<n:=by have:=(cH.1 aW).1;simpa using this
  obtain⟨_,au,_,o,_⟩:=key j a5
  simp[a5,o]at aW
  rw[pz,Nat.add_assoc,o,aW]
 ·simp;omega
 ·have a5:j<n:=by have:=(cH.1 dJ).1;simpa using this
  obtain⟨u,Pj,aI,o,aa⟩:=key j a5
  simp[a5,o]at dJ
  rw[List.getElem?_take_of_lt a5,List.getElem?_drop,aI]at an
  cases an
  subst dJ
  exact aa
def dg(cs:List Value)(i:Nat)(aE:List Value):List Value:=cs.take i++aE++cs.drop (i+aE.length)
theorem nx{cs aE:List Value}{i:Nat}(h:i+aE.length<=cs.length):(dg cs i aE).length=cs.length:=by simp[dg];omega
theorem aaF(cs:List Value)(i:Nat):dg cs i []=cs:=by simp[dg]
theorem aaG{cs:List Value}{i:Nat}(v:Value)(h:i<cs.length):dg cs i [v]=cs.set i v:=by
 simp only[dg,List.length_cons,List.length_nil]
 rw[List.set_eq_take_append_cons_drop,if_pos h]
 simp
theorem aaE(cs aE:List Value)(i:Nat)(v:Value)(h:i+1+aE.length<=cs.length):dg (cs.set i v) (i+1) aE=dg cs i (v::aE):=by
 simp only[dg,List.length_cons]
 rw[List.set_eq_take_append_cons_drop,if_pos (by omega)]
 have o:(cs.take i).length=i:=by simp;omega
 have bm:(cs.take i++v::cs.drop (i+1)).take (i+1)=cs.take i++[v]:=by
  rw[List.take_append,List.take_of_length_le (by omega),o]
  simp[show i+1-i=1 by omega]
 have bk:(cs.take i++v::cs.drop (i+1)).drop (i+1+aE.length)=cs.drop (i+(aE.length+1)):=by
  rw[List.drop_append,List.drop_eq_nil_of_le (by omega),o,List.nil_append,show i+1+aE.length-i=aE.length+1 by omega,List.drop_succ_cons,List.drop_drop]
  congr 1
  omega
 rw[bm,bk]
 simp
theorem rD{cs aE:List Value}{i j:Nat}(h:i+aE.length<=cs.length):(dg cs i aE)[j]?=if i<=j/\j<i+aE.length then aE[j-i]? else cs[j]?:=by
 simp only[dg]
 have o:(cs.take i).length=i:=by simp;omega
 by_cases aW:j<i
 ·rw[if_neg (by omega),List.append_assoc,List.getElem?_append_left (by omega),List.getElem?_take_of_lt aW]
 ·by_cases jF:j<i+aE.length
  ·rw[if_pos ⟨by omega,jF⟩,List.append_assoc,List.getElem?_append_right (by omega),o,List.getElem?_append_left (by omega)]
  ·rw[if_neg (by omega),List.getElem?_append_right (by simp;omega),List.getElem?_drop]
   congr 1
   simp
   omega
theorem aaH{ah:bg}{cs:List Value}{cur:Array Value}{aE hG:List Value}{R i:Nat}(an:∀(j:Nat) (v:Value),cs[j]?=some v->∃au,cur[R+j]?=some au/\bl ah v au)(ar:cK ah aE hG)(bz:i+aE.length<=cs.length)
  (oV:R+cs.length<=cur.size):∀(j:Nat) (v:Value),(dg cs i aE)[j]?=some v->∃au,(dg cur.toList (R+i) hG).toArray[R+j]?=some au/\bl ah v au:=by
 intro j v aW
 rw[rD bz]at aW
 have e:(dg cur.toList (R+i) hG).toArray[R+j]?=(dg cur.toList (R+i) hG)[R+j]?:=by simp
 rw[e,rD (by rw[<-ar.1];simp;omega),<-ar.1]
 split at aW
 ·rename_i ae
  rw[if_pos (by omega),show R+j-(R+i)=j-i by omega]
  exact ar.get aW
 ·rename_i ae
  rw[if_neg (by omega)]
  obtain⟨au,o,aa⟩:=an j v aW
  exact⟨au,by simpa using o,aa⟩
theorem aao{w:World}{g p:Nat}{cur:Array Value}{e:TypeId}{ei:Nat×Nat}(aU:w.heap[g]?=some (.cells cur e ei))(v:Value):
  w.setCell ⟨g,p,none⟩ v=im w g (.cells (cur.setIfInBounds p v) e ei):=by
 obtain⟨a5,he⟩:=Array.getElem?_eq_some_iff.1 aU
 simp only[World.setCell,im]
 congr 1
 apply Array.ext_getElem?
 intro i
 rw[Array.getElem?_modify,Array.getElem?_setIfInBounds]
 split
 ·rename_i ad
  subst ad
  rw[aU]
  rfl
 ·rfl
theorem Zw(w:World)(g:Nat)(x y:Obj):im (im w g x) g y=im w g y:=by simp[im]
theorem Zv{w:World}{g:Nat}{x:Obj}(h:w.heap[g]?=some x):im w g x=w:=by
 obtain⟨a5,he⟩:=Array.getElem?_eq_some_iff.1 h
 unfold im
 have:w.heap.setIfInBounds g x=w.heap:=by
  apply Array.ext_getElem?
  intro i
  rw[Array.getElem?_setIfInBounds]
  split
  ·rename_i ad;subst ad;rw[h]
  ·rfl
 rw[this]
theorem FQ{P:Program}(g off:Nat)(e:TypeId)(ei:Nat×Nat):∀(aE:List Value) (i:Nat) (cur:Array Value) (w:World),w.heap[g]?=some (.cells cur e ei)->mi ei cur.size->off+i+aE.length<=cur.size->
  (∀v∈aE,v.oneCell'=true)->(storeCells ⟨g,off,none⟩ aE i).run P w= .ok () (im w g (.cells (dg cur.toList (off+i) aE).toArray e ei))
 | [],i,cur,w,aU,_,_,_=>by
  rw[aaF,Zv (by simpa using aU)]
  rfl
 | v::aE,i,cur,w,aU,az,bz,o=>by
  simp only[List.length_cons]at bz
  have a5:off+i<cur.size:=by omega
  have kp:w.cell? ⟨g,off+i,none⟩=some cur[off+i]:=by simp[World.cell?,aU,a5]
  have K_:w.frozen? ⟨g,off+i,none⟩=false:=by
   have:=az (off+i) a5
   simp only[World.frozen?,aU]
   simpa using this
  have ao:(store ((⟨g,off,none⟩:Addr).add i) v).run P w= .ok () (im w g (.cells (cur.setIfInBounds (off+i) v) e ei)):=by
   rw[pz,run_store P w _ v _ (o v List.mem_cons_self),kp]
   simp only[K_]
   rw[<-aao aU]
   rfl
  have DZ:(im w g (.cells (cur.setIfInBounds (off+i) v) e ei)).heap[g]?=some (.cells (cur.setIfInBounds (off+i) v) e ei):=Fx w _ _ (Array.getElem?_eq_some_iff.1 aU).1
  have a0:=FQ (P:=P) g off e ei aE (i+1) (cur.setIfInBounds (off+i) v) _ DZ (by simpa using az) (by simp;omega) fun u hu=>o u (List.mem_cons_of_mem _ hu)
  simp only[storeCells,Sem.run_bind,ao,Result.andThen_ok,a0,Zw]
  congr 4
  rw[<-aaE _ _ _ _ (by simp;omega)]
  simp[Nat.add_assoc]
def yH(s:ByteArray):List Value:=s.data.toList.map fun b=> .int .u8 b.toNat
inductive Src (H:ab) (U:Nat):Value->Nat->Nat->List Value->Prop
 | vW {a:Option Addr} {m c:Nat}:Src H U (.slice a m c) m 0 []
 | row {b i n m c:Nat} {x:bK} {cs:List Value} (J:H[b]?=some x) (ae:x.cells?=some cs) (aG:0<n) (hm:n<=m) (bz:i+n*U<=cs.length):Src H U (.slice (some ⟨b,i,none⟩) m c) m n ((cs.drop i).take (n*U))
 | str {s:ByteArray} (o:U=1):Src H U (.string s) s.size s.size (yH s)
theorem tc{P:Program}{base:Nat}{ah:bg}{H:ab}{w:World}{U m n:Nat}{v au:Value}{news:List Value}(ao:Src H U v m n news)(h:cl P base ah H w)(an:bl ah v au):
  (Builtin.lenOf au).run P w= .ok m w/\news.length=n*U/\∃hD:List Value,(∀a7:World,a7.heap=w.heap->(Builtin.firstCells U n au).run P a7= .ok hD.toArray a7)/\cK ah news hD:=by
 cases ao with
 | vW=>
  obtain⟨fz,dT,rfl,-⟩:=an.qd
  refine⟨by simp[Builtin.lenOf],by simp,[],fun a7 _=>?_,cK.nil ah⟩
  cases fz<;>simp[Builtin.firstCells,loadCells,loadCellsFrom]
 | row J ae aG hm bz=>
  rename_i b i c x cs
  obtain⟨k,dD,ak,rfl,-⟩:=an.BN (by omega)
  obtain⟨aE,ar,kp,al⟩:=h.cells ak J ae bz
  refine⟨by simp[Builtin.lenOf],by simp;omega,aE,fun a7 hw=>?_,al⟩
  simp only[Builtin.firstCells]
  rw[<-ar]
  exact run_loadCells_list a7 _ aE fun j u hu=>by rw[CI (w:=w) (by rw[hw])];exact kp j u hu
 | str o=>
  rename_i s
  have he:au= .string s:=by cases an;rfl
  subst he
  refine⟨by simp[Builtin.lenOf],by rw[o,Nat.mul_one];unfold yH;rw[List.length_map];rfl,yH s,fun a7 _=>?_,rfl,fun i v au J aK=>?_⟩
  ·simp only[Builtin.firstCells,yH]
   have e:(s.extract 0 s.size).data=s.data:=by
    rw[ByteArray.data_extract];exact Array.extract_size
   rw[e]
   simp only[Sem.run_pure]
   congr 1
   apply Array.ext'
   simp
  ·rw[J]at aK
   obtain rfl:=Option.some.inj aK
   simp only[yH,List.getElem?_map,Option.map_eq_some_iff]at J
   obtain⟨b,-,rfl⟩:=J
   exact .int _ _
def fO(P:Program)(base:Nat)(ah:bg)(H:ab)(w:World)(s:Sem Value)(v:Value)(aH:ab):Prop:=
 ∃bu au a7,s.run P w= .ok au a7/\bl bu v au/\cl P base bu aH a7/\Step ah H w bu aH a7
theorem cl.Cw{P:Program}{base:Nat}{ah:bg}{H:ab}{w:World}(h:cl P base ah H w){e:TypeId}{n:Nat}(ao:bp P e=some n){cs:List Value}{cur:Array Value}{ei:Nat×Nat}(l:Bool)(az:mi ei cur.size)(bz:cs.length<=cur.size)
  (an:∀(i:Nat) (v:Value),cs[i]?=some v->∃au,cur[i]?=some au/\bl ah v au):
  cl P base (ah.put H.length ⟨w.heap.size,0,cur.size,n,l⟩) (H++[.own e l cs]) (w.alloc (.cells cur e ei))/\Step ah H w (ah.put H.length ⟨w.heap.size,0,cur.size,n,l⟩) (H++[.own e l cs]) (w.alloc (.cells cur e ei)):=by
 unfold bp at ao
 obtain⟨inf,ad,aG⟩:=Option.map_eq_some_iff.1 ao
 exact h.alloc ad aG az bz an
theorem mi.zero(n:Nat):mi (0,0) n:=fun j _ h=>by simp at h
theorem cl.M5{P:Program}{base:Nat}{ah:bg}{H:ab}{w:World}(h:cl P base ah H w)(x:Obj):cl P base ah H (w.alloc x)/\Step ah H w ah H (w.alloc x):=by
 have hold:∀g,g<w.heap.size->(w.alloc x).heap[g]?=w.heap[g]?:=fun g aU=>heap_alloc_old w _ aU
 refine⟨⟨h.pos,by simp;have:=h.size;omega,h.eP,fun b k y ag aK=>(h.e8 b k y ag aK).gA (fun _ _ h=>h) (fun aG=>hold _ ((h.e8 b k y ag aK).lt aG)) (by simp),h.inj⟩,?_⟩
 exact⟨fun _ _ h=>h,fun _ _ h=> .inl h,Nat.le_refl _,fun b k ag aM=> .inr ⟨b,k,ag,aM,rfl⟩,rfl,rfl,rfl,by simp,fun g aU _=>hold g aU⟩
theorem cK.ofArray{ah:bg}{xs bS:Array Value}(h:fc ah xs bS):∀(i:Nat) (v:Value),xs.toList[i]?=some v->∃au,bS[i]?=some au/\bl ah v au:=fun i v an=>by
 obtain⟨au,o,aa⟩:=h.toList.get an
 exact⟨au,by simpa using o,aa⟩
section
variable {P:Program} {base:Nat} {ah:bg} {H:ab} {w:World}
theorem Q5{e:TypeId}{z:Value}{n:Nat}(h:cl P base ah H w)(aN:dA P e=some z)(dU:flat z=true)(ao:bp P e=some n):
  fO P base ah H w (Instr.alloc e true (.tuple #[])) (.pointer (some ⟨H.length,0,none⟩)) (H++[.own e false z.cells.toList]):=by
 obtain⟨o,aa⟩:=h.Cw (cur:=z.cells) (ei:=(0,0)) ao false (mi.zero _) (by simp) (cK.ofArray (Ca dU))
 refine⟨_,.pointer (some ⟨w.heap.size,0,none⟩),_,?_,?_,o,aa⟩
 ·simp[Instr.alloc,BE aN,newVar,newRow]
 ·exact .ptr (k:=⟨w.heap.size,0,z.cells.size,n,false⟩) (bg.nu _ _ _)
theorem Ra{e:TypeId}{v au:Value}{n:Nat}(h:cl P base ah H w)(an:bl ah v au)(ao:bp P e=some n):
  fO P base ah H w (Instr.box e au) (.pointer (some ⟨H.length,0,none⟩)) (H++[.own e false v.cells.toList]):=by
 obtain⟨o,aa⟩:=h.Cw (cur:=au.cells) (ei:=(0,0)) (cs:=v.cells.toList) ao false (mi.zero _) (by simp[an.cells.1]) (cK.ofArray an.cells)
 refine⟨_,.pointer (some ⟨w.heap.size,0,none⟩),_,?_,?_,o,aa⟩
 ·simp[Instr.box,newVar,newRow]
 ·exact .ptr (k:=⟨w.heap.size,0,au.cells.size,n,false⟩) (bg.nu _ _ _)
theorem Rg{t:TypeId}{b i:Nat}{X:bK}{cs:List Value}{v au:Value}(h:cl P base ah H w)(aO:dq P t=some false)(J:bl ah (.pointer (some ⟨b,i,none⟩)) au)(aT:H[b]?=some X)(ae:X.cells?=some cs)(an:cs[i]?=some v):
  fO P base ah H w (Instr.loadAt t au) v H:=by
 obtain⟨k,ak,rfl⟩:=J.ru
 obtain⟨u,o,aa⟩:=h.cell ak aT ae an
 exact⟨ah,u,w,by simp[Instr.loadAt,Instr.sureAddr,loadVar,BD aO,o],aa,h,Step.refl _ _ _⟩
theorem Rh{t:TypeId}{b i n:Nat}{X:bK}{cs:List Value}{au:Value}(h:cl P base ah H w)(aO:dq P t=some true)(ao:bp P t=some n)(J:bl ah (.pointer (some ⟨b,i,none⟩)) au)(aT:H[b]?=some X)(ae:X.cells?=some cs)
  (bz:i+n<=cs.length):fO P base ah H w (Instr.loadAt t au) (.agg ((cs.drop i).take n).toArray) H:=by
 obtain⟨k,ak,rfl⟩:=J.ru
 obtain⟨aE,ar,kp,al⟩:=h.cells ak aT ae bz
 have gT:=run_loadCells_list (P:=P) w ⟨k.g,k.R+i,none⟩ aE kp
 rw[ar]at gT
 exact⟨ah,.agg aE.toArray,w,by simp[Instr.loadAt,Instr.sureAddr,loadVar,BD aO,kx ao,gT],.agg al.toArray.1 al.toArray.2,h,Step.refl _ _ _⟩
theorem Fy{b i:Nat}{k:iI}{e:TypeId}{l:Bool}{cs aE hG:List Value}(h:cl P base ah H w)(ag:ah b=some k)(aT:H[b]?=some (.own e l cs))(ar:cK ah aE hG)(bz:i+aE.length<=cs.length)(o:∀v∈aE,v.oneCell'=true):
  ∃a7,(storeCells ⟨k.g,k.R+i,none⟩ hG).run P w= .ok () a7/\cl P base ah (H.set b (.own e l (dg cs i aE))) a7/\Step ah H w ah (H.set b (.own e l (dg cs i aE))) a7:=by
 cases h.e8 b k _ ag aT with
 | own sr g4 ad ao aU bQ az DY an=>
  rename_i cur ei inf
  have gn:(dg cs i aE).length=cs.length:=nx bz
  have hlen:hG.length=aE.length:=ar.1.symm
  have J7:∀v∈hG,v.oneCell'=true:=fun au dJ=>by
   obtain⟨j,aW⟩:=List.getElem?_of_mem dJ
   have xr:j<aE.length:=by rw[ar.1];exact(cH.1 aW).1
   have:=(ar.2 j _ _ (bB xr) aW).NH
   rw[this]
   exact o _ (List.getElem_mem xr)
  have gT:=FQ (P:=P) k.g (k.R+i) e ei hG 0 cur w aU (bQ▸az) (by omega) J7
  simp only[Nat.add_zero]at gT
  have Es:=aaH an ar bz (by omega)
  obtain⟨s1,s2⟩:=h.put (eC:=dg cs i aE) (lH:=(dg cur.toList (k.R+i) hG).toArray) ag aT ⟨cur,aU,by rw[List.size_toArray,nx (by simp;omega)];simp⟩ gn Es
  exact⟨_,gT,s1,s2⟩
theorem Rq{t:TypeId}{b i:Nat}{e:TypeId}{l:Bool}{cs:List Value}{y fz mM:Value}(h:cl P base ah H w)(ao:bp P t=some y.cells.size)(aO:bl ah (.pointer (some ⟨b,i,none⟩)) fz)(aK:bl ah y mM)
  (aT:H[b]?=some (.own e l cs))(bz:i+y.cells.size<=cs.length)(o:(y.cells.toList.all (·.oneCell'))=true):
  ∃a7,(Instr.storeAt t fz mM).run P w= .ok () a7/\cl P base ah (H.set b (.own e l (dg cs i y.cells.toList))) a7/\Step ah H w ah (H.set b (.own e l (dg cs i y.cells.toList))) a7:=by
 obtain⟨k,ak,rfl⟩:=aO.ru
 obtain⟨a7,al,s1,s2⟩:=Fy (i:=i) h ak aT aK.cells.toList (by simpa using bz) (fun v an=>by simpa using List.all_eq_true.1 o v an)
 have c7:=aK.cells.1
 exact⟨a7,by simp[Instr.storeAt,Instr.sureAddr,storeVar,kx ao,<-c7,al],s1,s2⟩
def dM(aJ:Operand->Value):Option Operand->Option Nat
 | none=>some 0
 | some x=>match aJ x with
  | .int _ n=>if 0<=n then some n.toNat else none
  | _=>none
def e2(aJ:Operand->Value)(d:Nat):Option Operand->Option Nat
 | none=>some d
 | some x=>match aJ x with
  | .int _ n=>if 0<=n then some n.toNat else none
  | _=>none
theorem run_sliceBound{P:Program}{w:World}{k:IntKind}{n:Int}{y:Nat}{code:BoundsCode}(aI:0<=n)(o:n.toNat<=y):(Instr.sliceBound (.int k n) y code).run P w= .ok n.toNat w:=by
 have:n<=(y:Int):=by omega
 simp[Instr.sliceBound,asIntOf,aI,this]
theorem FP{aJ cz:Operand->Value}{bb ad:Option Operand}{len cap l c4:Nat}(g4:∀x,bb=some x->bl ah (aJ x) (cz x))(h3:∀x,ad=some x->bl ah (aJ x) (cz x))(ar:dM aJ bb=some l)(eI:e2 aJ len ad=some c4)
  (o:l<=c4)(aa:c4<=cap)(w:World):(Instr.sliceBounds true len cap (bb.map cz) (ad.map cz) none).run P w= .ok (l,c4,cap) w:=by
 have el:∀x,bb=some x->∃k n,cz x= .int k n/\0<=n/\n.toNat=l:=fun x J=>by
  have an:=g4 x J
  subst J
  simp only[dM]at ar
  split at ar
  ·rename_i k n he
   rw[he]at an
   split at ar
   ·cases ar;exact⟨k,n,an.oo,by assumption,rfl⟩
   ·cases ar
  ·cases ar
 have RR:∀x,ad=some x->∃k n,cz x= .int k n/\0<=n/\n.toNat=c4:=fun x J=>by
  have an:=h3 x J
  subst J
  simp only[e2]at eI
  split at eI
  ·rename_i k n he
   rw[he]at an
   split at eI
   ·cases eI;exact⟨k,n,an.oo,by assumption,rfl⟩
   ·cases eI
  ·cases eI
 unfold Instr.sliceBounds
 cases ad with
 | none=>
  have Uq:len=c4:=by simpa[e2]using eI
  subst Uq
  cases bb with
  | none=>
   have iz:0=l:=by simpa[dM]using ar
   subst iz
   simp
  | some x=>
   obtain⟨k,n,e,aI,rfl⟩:=el x rfl
   simp[e,run_sliceBound (P:=P) (w:=w) (k:=k) aI o]
 | some y=>
  obtain⟨cb,dW,cX,qM,rfl⟩:=RR y rfl
  cases bb with
  | none=>
   have iz:0=l:=by simpa[dM]using ar
   subst iz
   simp[cX,run_sliceBound (P:=P) (w:=w) (k:=cb) qM aa]
  | some x=>
   obtain⟨k,n,e,aI,rfl⟩:=el x rfl
   simp[e,cX,run_sliceBound (P:=P) (w:=w) (k:=cb) qM aa,run_sliceBound (P:=P) (w:=w) (k:=k) aI o]
theorem Ok{aJ cz:Operand->Value}{bb ad fk:Operand}{len cap l c4 m:Nat}(g4:bl ah (aJ bb) (cz bb))(h3:bl ah (aJ ad) (cz ad))(xv:bl ah (aJ fk) (cz fk))(ar:dM aJ (some bb)=some l)(eI:dM aJ (some ad)=some c4)(hm:dM aJ (some fk)=some m)
  (o:l<=c4)(aa:c4<=m)(aB:m<=cap)(w:World):(Instr.sliceBounds true len cap (some (cz bb)) (some (cz ad)) (some (cz fk))).run P w= .ok (l,c4,m) w:=by
 have el:∀x q,bl ah (aJ x) (cz x)->dM aJ (some x)=some q->∃k n,cz x= .int k n/\0<=n/\n.toNat=q:=fun x q an av=>by
  simp only[dM]at av
  split at av
  ·rename_i k n he
   rw[he]at an
   split at av
   ·cases av;exact⟨k,n,an.oo,by assumption,rfl⟩
   ·cases av
  ·cases av
 obtain⟨jr,cT,bm,da,rfl⟩:=el bb l g4 ar
 obtain⟨kt,c2,bk,gB,rfl⟩:=el ad c4 h3 eI
 obtain⟨s6,j9,fP,fC,rfl⟩:=el fk m xv hm
 simp[Instr.sliceBounds,bm,bk,fP,run_sliceBound (P:=P) (w:=w) (k:=jr) da o,run_sliceBound (P:=P) (w:=w) (k:=kt) gB aa,run_sliceBound (P:=P) (w:=w) (k:=s6) fC aB]
theorem yv{t e:TypeId}{U:Nat}{a:Option Addr}{len cap l c4 m:Nat}{bb ad fk:Option Value}(hu:P.underlying t=some (.slice e))(ao:bp P e=some U)(ag:(Instr.sliceBounds true len cap bb ad fk).run P w= .ok (l,c4,m) w):
  (Instr.sliceAt t (.slice a len cap) bb ad fk).run P w= .ok (.slice (if m=l then a else a.map (·.add (l*U))) (c4-l) (m-l)) w:=by
 simp[Instr.sliceAt,Instr.slice,run_underlying hu,ag,kx ao]
section
variable {aJ cz:Operand->Value} {bb ad:Option Operand}
theorem Rk{t e:TypeId}{U b i len cap l c4:Nat}{X:bK}{eu:Value}(h:cl P base ah H w)(hu:P.underlying t=some (.slice e))(ao:bp P e=some U)(J:bl ah (.slice (some ⟨b,i,none⟩) len cap) eu)(aT:H[b]?=some X)(he:X.elem?=some e)
  (g4:∀x,bb=some x->bl ah (aJ x) (cz x))(h3:∀x,ad=some x->bl ah (aJ x) (cz x))(ar:dM aJ bb=some l)(eI:e2 aJ len ad=some c4)(o:l<=c4)(aa:c4<=cap)(a5:l<cap):
  fO P base ah H w (Instr.sliceAt t eu (bb.map cz) (ad.map cz) none) (.slice (some ⟨b,i+l*U,none⟩) (c4-l) (cap-l)) H:=by
 cases J with
 | void=>omega
 | empty=>omega
 | slice ak ae hle fX oj bQ=>
  rename_i k dD
  have ag:=FP (P:=P) (cap:=dD) g4 h3 ar eI o (by omega) w
  refine⟨ah,_,w,yv hu ao ag,?_,h,Step.refl _ _ _⟩
  rw[if_neg (by omega)]
  simp only[Option.map_some,pz,Nat.add_assoc]
  refine .slice ak (by omega) (by omega) (by omega) (fun az=>by have:=oj az;omega) fun bO=>?_
  have Am:k.U=U:=by
   have n1:=h.e8 b k X ak aT
   cases n1 with
   | own sr g4 ad AX aU bQ az DY an=>
    simp only[bK.elem?,Option.some.injEq]at he
    subst he
    simp only[bp,ad,Option.map_some,Option.some.injEq]at ao
    omega
   | ro ad AX an c7=>
    simp only[bK.elem?,Option.some.injEq]at he
    subst he
    simp only[bp,ad,Option.map_some,Option.some.injEq]at ao
    omega
   | dead=>simp[bK.elem?]at he
  have:=bQ bO
  rw[Am]at this⊢
  have bm:l*U+(dD-l)*U=dD*U:=by rw[<-Nat.add_mul];congr 1;omega
  omega
end
end
section
variable {P:Program} {base:Nat} {ah:bg} {H:ab} {w:World} {aJ cz:Operand->Value} {bb ad:Option Operand}
theorem Rn{t e:TypeId}{U b i len cap:Nat}{eu:Value}(h:cl P base ah H w)(hu:P.underlying t=some (.slice e))(ao:bp P e=some U)(J:bl ah (.slice (some ⟨b,i,none⟩) len cap) eu)(qT:0<cap)
  (g4:∀x,bb=some x->bl ah (aJ x) (cz x))(h3:∀x,ad=some x->bl ah (aJ x) (cz x))(ar:dM aJ bb=some cap)(eI:e2 aJ len ad=some cap):
  fO P base ah H w (Instr.sliceAt t eu (bb.map cz) (ad.map cz) none) (.slice (some ⟨b,i,none⟩) 0 0) H:=by
 cases J with
 | void=>omega
 | empty=>omega
 | slice ak ae hle fX oj bQ=>
  rename_i k dD
  have ag:=FP (P:=P) (cap:=dD) g4 h3 ar eI (Nat.le_refl _) fX w
  have m2:b≠0:=by have:=(h.eP b k ak).1;omega
  refine⟨ah,_,w,yv hu ao ag,?_,h,Step.refl _ _ _⟩
  rw[Nat.sub_self]
  by_cases hm:dD=cap
  ·rw[if_pos hm];exact .empty m2 _ _
  ·rw[if_neg hm];exact .empty m2 _ _
theorem Ro{t e:TypeId}{U:Nat}{a:Option Addr}{eu:Value}(h:cl P base ah H w)(hu:P.underlying t=some (.slice e))(ao:bp P e=some U)(J:bl ah (.slice a 0 0) eu)
  (g4:∀x,bb=some x->bl ah (aJ x) (cz x))(h3:∀x,ad=some x->bl ah (aJ x) (cz x))(ar:dM aJ bb=some 0)(eI:e2 aJ 0 ad=some 0):
  fO P base ah H w (Instr.sliceAt t eu (bb.map cz) (ad.map cz) none) (.slice a 0 0) H:=by
 have key:∀(fz:Option Addr) (c:Nat),(Instr.sliceAt t (.slice fz 0 c) (bb.map cz) (ad.map cz) none).run P w= .ok (.slice fz 0 c) w:=fun fz c=>by
  rw[yv hu ao (FP (P:=P) (cap:=c) g4 h3 ar eI (Nat.le_refl _) (Nat.zero_le _) w)]
  congr 2
  split
  ·rfl
  ·cases fz with
   | none=>rfl
   | some r0=>simp[Addr.add]
 obtain⟨fz,dT,rfl,-⟩:=J.qd
 exact⟨ah,_,w,key _ _,J,h,Step.refl _ _ _⟩
theorem Rm{t e:TypeId}{U len cap l:Nat}{a:Addr}{eu:Value}{bb ad fk:Operand}(h:cl P base ah H w)(hu:P.underlying t=some (.slice e))(ao:bp P e=some U)(J:bl ah (.slice (some a) len cap) eu)
  (g4:bl ah (aJ bb) (cz bb))(h3:bl ah (aJ ad) (cz ad))(xv:bl ah (aJ fk) (cz fk))(ar:dM aJ (some bb)=some l)(eI:dM aJ (some ad)=some l)(hm:dM aJ (some fk)=some l)(aB:l<=cap):
  fO P base ah H w (Instr.sliceAt t eu (some (cz bb)) (some (cz ad)) (some (cz fk))) (.slice (some ⟨0,0,none⟩) 0 0) H:=by
 obtain⟨fz,dT,rfl,-,-,bs,bJ⟩:=J.qd
 cases fz with
 | none=>simp at bJ
 | some r0=>
  refine⟨ah,_,w,yv hu ao (Ok (P:=P) (cap:=dT) (len:=len) g4 h3 xv ar eI hm (Nat.le_refl _) (Nat.le_refl _) (Nat.le_trans aB bs) w),?_,h,Step.refl _ _ _⟩
  rw[if_pos rfl,Nat.sub_self]
  exact .void 0 r0
theorem Rl{t e:TypeId}{U:Nat}{eu:Value}{bb ad fk:Operand}(h:cl P base ah H w)(hu:P.underlying t=some (.slice e))(ao:bp P e=some U)(J:bl ah (.slice none 0 0) eu)
  (g4:bl ah (aJ bb) (cz bb))(h3:bl ah (aJ ad) (cz ad))(xv:bl ah (aJ fk) (cz fk))(ar:dM aJ (some bb)=some 0)(eI:dM aJ (some ad)=some 0)(hm:dM aJ (some fk)=some 0):
  fO P base ah H w (Instr.sliceAt t eu (some (cz bb)) (some (cz ad)) (some (cz fk))) (.slice none 0 0) H:=by
 cases J with
 | rn=>
  refine⟨ah,_,w,yv hu ao (Ok (P:=P) (cap:=0) (len:=0) g4 h3 xv ar eI hm (Nat.le_refl _) (Nat.le_refl _) (Nat.le_refl _) w),?_,h,Step.refl _ _ _⟩
  exact .rn
theorem fO.Pv{s:Sem Value}(h:cl P base ah H w){x:Obj}(al:s.run P w= .ok (.slice (some ⟨w.heap.size,0,none⟩) 0 0) (w.alloc x)):fO P base ah H w s (.slice (some ⟨0,0,none⟩) 0 0) H:=
 ⟨ah,_,_,al,.void 0 _,(h.M5 x).1,(h.M5 x).2⟩
theorem fO.Bl{s:Sem Value}{e:TypeId}{U len cap dD:Nat}{cs:List Value}{cur:Array Value}{ei:Nat×Nat}{l:Bool}(h:cl P base ah H w)(ao:bp P e=some U)
  {d_:World}(pY:d_.heap=w.heap)(sE:d_.os=w.os)(VP:d_.tape=w.tape)(Eh:d_.output=w.output)
  (al:s.run P w= .ok (.slice (some ⟨w.heap.size,0,none⟩) len dD) (d_.alloc (.cells cur e ei)))(az:mi ei cur.size)(bz:cs.length<=cur.size)(an:∀(i:Nat) (v:Value),cs[i]?=some v->∃au,cur[i]?=some au/\bl ah v au)
  (ae:0<cap)(hle:len<=cap)(fX:cap<=dD)(J:l=false->dD=cap)(bQ:l=true->dD*U<=cur.size):fO P base ah H w s (.slice (some ⟨H.length,0,none⟩) len cap) (H++[.own e l cs]):=by
 have Es:cl P base ah H d_:=h.heap pY
 have dd:Step ah H w ah H d_:=⟨fun _ _ h=>h,fun _ _ h=> .inl h,Nat.le_refl _,fun b k ag aM=> .inr ⟨b,k,ag,aM,rfl⟩,sE,VP,Eh,by rw[pY];exact Nat.le_refl _,fun g _ _=>by rw[pY]⟩
 obtain⟨o,aa⟩:=Es.Cw (cs:=cs) (cur:=cur) (ei:=ei) ao l az bz an
 refine⟨_,_,_,al,?_,o,dd.trans aa⟩
 have:=bl.slice (ah:=ah.put H.length ⟨d_.heap.size,0,cur.size,U,l⟩) (b:=H.length) (i:=0) (k:=⟨d_.heap.size,0,cur.size,U,l⟩) (len:=len) (cap:=cap) (dD:=dD) (bg.nu _ _ _) ae hle fX J
  (fun bO=>by have:=bQ bO;simp only;omega)
 simp only[pY]at this⊢
 exact this
def made(z:Value)(n:Nat):List Value:=(List.range n).map fun i=>z.cells[i % z.cells.size]!
theorem Nn(z:Value)(n:Nat):(Array.range n).map (fun i=>z.cells[i % z.cells.size]!)=(made z n).toArray:=by
 apply Array.ext'
 simp[made]
theorem Nm{z:Value}(aN:flat z=true)(hA:0<z.cells.size)(n:Nat):∀(i:Nat) (v:Value),(made z n)[i]?=some v->∃au,(made z n).toArray[i]?=some au/\bl ah v au:=fun i v an=>by
 refine⟨v,by simpa using an,?_⟩
 simp only[made,List.getElem?_map,Option.map_eq_some_iff]at an
 obtain⟨j,-,rfl⟩:=an
 have a5:j % z.cells.size<z.cells.size:=Nat.mod_lt _ hA
 have e:z.cells[j % z.cells.size]! =z.cells[j % z.cells.size]:=by simp[a5]
 rw[e]
 exact(Ca aN).2 _ _ _ (Array.getElem?_eq_getElem a5) (Array.getElem?_eq_getElem a5)
theorem N_(f:Nat->Value):(Array.range 0).map f= #[]:=by apply Array.ext';simp
theorem wrap_small{n:Nat}(h:n<=281474976710656):IntKind.i64.wrap (n:Int)=n:=by
 have:=IntWalk.i64_in (n:Int) (by omega)
 exact this
theorem Ri{t e:TypeId}{U bI l c:Nat}{e4 c9:IntKind}{z:Value}(h:cl P base ah H w)(hu:P.underlying t=some (.slice e))(ao:bp P e=some U)(ag:bytes? P e=some bI)(aN:dA P e=some z)(dU:flat z=true)(di:z.cells.size=U)
  (c7:0<U)(dY:0<bI)(my:l<=c)(ae:0<c)(bz:bI*c<=281474976710656):fO P base ah H w (Instr.makeSlice t (.int e4 l) (.int c9 c)) (.slice (some ⟨H.length,0,none⟩) l c) (H++[.own e false (made z (c*U))]):=by
 have lS:c<=281474976710656:=Nat.le_trans (Nat.le_mul_of_pos_left _ dY) bz
 refine fO.Bl (d_:=w) (cur:=(made z (c*U)).toArray) (ei:=(0,0)) (l:=false) (cap:=c) (dD:=c) h ao rfl rfl rfl rfl ?_ (mi.zero _) (by simp) (Nm dU (by omega) _) ae my (Nat.le_refl _) (fun _=>rfl) (fun h=>by cases h)
 have mu:(typeInfo e).run P w=(match P.info? e with | some i=> .ok i w | none=> .halt (.stuck "no such type") w):=by
  unfold typeInfo;simp;cases P.info? e<;>rfl
 obtain⟨inf,ad,Aa⟩:=Option.map_eq_some_iff.1 (show(P.info? e).map (·.bytes)=some bI from ag)
 have aG:¬(c*U=0):=by have:=Nat.mul_pos ae c7;omega
 have K8:¬(281474976710656:Int)<(bI:Int)*(c:Int):=by
  have:((bI*c:Nat):Int)<=281474976710656:=by omega
  rw[Int.natCast_mul]at this
  omega
 have UH:¬(c:Int)<(l:Int):=by omega
 have pW:¬(c:Int)<0:=by omega
 have UZ:¬(l:Int)<0:=by omega
 simp[Instr.makeSlice,run_underlying hu,asInt,asIntOf,mu,ad,Aa,wrap_small (Nat.le_trans my lS),wrap_small lS,K8,UH,pW,UZ,kx ao,aG,BE aN,newRow]
 rw[show c*U=c*U from rfl,<-Nn]
theorem Rj{t e:TypeId}{U bI:Nat}{e4 c9:IntKind}(h:cl P base ah H w)(hu:P.underlying t=some (.slice e))(ao:bp P e=some U)(ag:bytes? P e=some bI):
  fO P base ah H w (Instr.makeSlice t (.int e4 0) (.int c9 0)) (.slice (some ⟨0,0,none⟩) 0 0) H:=by
 obtain⟨inf,ad,Aa⟩:=Option.map_eq_some_iff.1 (show(P.info? e).map (·.bytes)=some bI from ag)
 have mu:(typeInfo e).run P w= .ok inf w:=by unfold typeInfo;simp[ad]
 refine fO.Pv (x:= .cells #[] e) h ?_
 have d_:IntKind.i64.wrap 0=0:=by decide
 simp[Instr.makeSlice,run_underlying hu,asInt,asIntOf,mu,d_,kx ao,newRow]
 rw[N_]
theorem Rb{t e:TypeId}{U len:Nat}{a6:Array (Nat×Operand)}{z:Value}{out:Array Value}(h:cl P base ah H w)(hu:P.underlying t=some (.slice e))(ao:bp P e=some U)(aN:dA P e=some z)(dU:flat z=true)(di:z.cells.size=U)
  (c7:0<U)(ar:0<len)(bz:len*U<=16777216)(a2:∀p∈a6,bl ah (aJ p.2) (cz p.2))(az:Instr.fill (fun i=>some (i*U,U)) (made z (len*U)).toArray (a6.toList.map fun p=>(p.1,aJ p.2))=some out)(sE:out.size=len*U):
  fO P base ah H w (Instr.buildSlice t len (a6.map fun p=>(p.1,cz p.2))) (.slice (some ⟨H.length,0,none⟩) len len) (H++[.own e false out.toList]):=by
 have q4:∀p∈a6.toList,bl ah (aJ p.2) (cz p.2):=fun p hm=>a2 p (by simpa using hm)
 have hm:fc ah (made z (len*U)).toArray (made z (len*U)).toArray:=⟨rfl,fun i v au an dJ=>by
  obtain⟨u,o,aa⟩:=Nm (ah:=ah) dU (by omega) (len*U) i v (by simpa using an)
  rw[dJ]at o
  cases o
  exact aa⟩
 obtain⟨g7,o,aa⟩:=zI (cz:=cz) _ a6.toList _ _ out q4 hm az
 refine fO.Bl (d_:=w) (cur:=g7) (ei:=(0,0)) (l:=false) (cap:=len) (dD:=len) h ao rfl rfl rfl rfl ?_ (mi.zero _) (by simp[aa.1]) (cK.ofArray aa) ar (Nat.le_refl _) (Nat.le_refl _) (fun _=>rfl) (fun h=>by cases h)
 have aG:¬(len*U=0):=by have:=Nat.mul_pos ar c7;omega
 have K8:¬(16777216<len*U):=by omega
 have dG:(a6.map fun p=>(p.1,cz p.2)).toList=a6.toList.map fun p=>(p.1,cz p.2):=by simp
 simp only[Instr.buildSlice,Sem.run_bind,run_underlying hu,Result.andThen_ok,kx ao]
 rw[if_neg (by omega),if_neg aG]
 simp only[Sem.run_bind,BE aN,Result.andThen_ok,Sem.run_pure]
 rw[Nn,dG,o]
 simp[newRow]
theorem Rc{t e:TypeId}{U:Nat}(h:cl P base ah H w)(hu:P.underlying t=some (.slice e))(ao:bp P e=some U):fO P base ah H w (Instr.buildSlice t 0 #[]) (.slice (some ⟨0,0,none⟩) 0 0) H:=by
 refine fO.Pv (x:= .cells #[] e) h ?_
 simp[Instr.buildSlice,run_underlying hu,kx ao,newRow,Instr.fill]
 rw[N_]
def fH(P:Program)(t:TypeId):Bool:=match P.underlying t with
 | some (.slice _) | some .string=>true
 | _=>false
theorem OD{t:TypeId}(h:fH P t=true):(∃e,P.underlying t=some (.slice e))\/P.underlying t=some .string:=by
 unfold fH at h
 split at h
 ·rename_i e he;exact .inl ⟨e,he⟩
 ·rename_i he;exact .inr he
 ·cases h
theorem FO{bY cJ e ty:TypeId}{U:Nat}{a:Option Addr}{len cap n:Nat}{x:Value}{news:List Value}(hu:P.underlying bY=some (.slice e))(J:fH P cJ=true)(ao:bp P e=some U)
  (ar:(Builtin.lenOf x).run P w= .ok n w)(az:(Builtin.firstCells U n x).run P w= .ok news.toArray w)(gS:len+n<=cap){a7:World}(dd:(match a with | some r0=>storeCells (r0.add (len*U)) news | none=>pure ()).run P w= .ok () a7):
  (Builtin.append_ #[bY,cJ] ty #[.slice a len cap,x]).run P w= .ok (.slice a (len+n) cap) a7:=by
 rcases OD J with⟨cX,aA⟩ | aA
 all_goals
  cases a with
  | none=>
   simp at dd
   subst dd
   simp[Builtin.append_,run_underlying hu,run_underlying aA,kx ao,ar,gS,az]
  | some r0=>
   simp at dd
   simp[Builtin.append_,run_underlying hu,run_underlying aA,kx ao,ar,gS,az,dd]
theorem Oj{bY cJ e ty:TypeId}{U bI:Nat}{z:Value}{a:Option Addr}{len cap n:Nat}{x:Value}{s_ news:List Value}(hu:P.underlying bY=some (.slice e))(J:fH P cJ=true)(ao:bp P e=some U)(ag:bytes? P e=some bI)(aN:dA P e=some z)
  (ar:(Builtin.lenOf x).run P w= .ok n w)(az:∀a7:World,a7.heap=w.heap->(Builtin.firstCells U n x).run P a7= .ok news.toArray a7)(hd:∀a7:World,a7.heap=w.heap->(Builtin.firstCells U len (.slice a len cap)).run P a7= .ok s_.toArray a7)
  (gS:cap<len+n)(bz:(len+n)*bI<=140737488355328)(dY:0<bI):
  (Builtin.append_ #[bY,cJ] ty #[.slice a len cap,x]).run P w= .ok (.slice (some ⟨w.heap.size,0,none⟩) (len+n) (grownCap w (len+n) cap e)) (w.drew.alloc (.cells (s_.toArray++news.toArray++Builtin.zeroCells z.cells (grownCap w (len+n) cap e-(len+n))) e)):=by
 obtain⟨inf,ad,Aa⟩:=Option.map_eq_some_iff.1 (show(P.info? e).map (·.bytes)=some bI from ag)
 have mu:∀a7:World,(typeInfo e).run P a7= .ok inf a7:=fun a7=>by unfold typeInfo;simp[ad]
 have aG:¬(len+n<=cap):=by omega
 have ahn:len+n<=140737488355328:=Nat.le_trans (Nat.le_mul_of_pos_right _ dY) bz
 have ag8:¬(9223372036854775807<((len:Int)+(n:Int))):=by omega
 have aI:¬(bI=0):=by omega
 have zN:¬(281474976710656<Builtin.nextslicecap (len+n) cap*bI):=by have:=growslice_fits gS bz;omega
 have xi:=az w.drew rfl
 have Ui:=hd w.drew rfl
 rcases OD J with⟨cX,aA⟩ | aA
 all_goals simp[Builtin.append_,run_underlying hu,run_underlying aA,kx ao,ar,aG,mu,Aa,aI,zN,Question.forced,xi,Ui,BE aN,newRow,grownCap]
 all_goals
  congr 2
  apply Array.ext'
  simp[List.append_assoc]
def nL(bY cJ ty:TypeId)(s x:Value):Sem Value:=Builtin.append_ #[bY,cJ] ty #[s,x]
theorem Q6{bY cJ e ty:TypeId}{U len cap m:Nat}{a:Option Addr}{x dz eu:Value}(h:cl P base ah H w)(hu:P.underlying bY=some (.slice e))(J:fH P cJ=true)(ao:bp P e=some U)(dc:Src H U x m 0 [])(hm:m=0)(j3:bl ah (.slice a len cap) dz)(iS:bl ah x eu):
  fO P base ah H w (nL bY cJ ty dz eu) (.slice a len cap) H:=by
 subst hm
 obtain⟨o,-,hD,aa,aB⟩:=tc dc h iS
 have aG:hD=[]:=List.eq_nil_of_length_eq_zero (by simpa using aB.1.symm)
 subst aG
 obtain⟨fz,dT,rfl,hle,-⟩:=j3.qd
 refine⟨ah,_,w,FO (a7:=w) hu J ao o (aa w rfl) hle ?_,j3,h,Step.refl _ _ _⟩
 cases fz<;>rfl
theorem PN(s_:List Value)(z:Value)(n:Nat):∀(i:Nat) (v:Value),s_[i]?=some v->(s_.toArray++Builtin.zeroCells z.cells n)[i]?=some v:=fun i v an=>by
 have a5:=(cH.1 an).1
 rw[Array.getElem?_append_left (by simpa using a5)]
 simpa using an
theorem Q_{bY cJ e ty:TypeId}{U bI n:Nat}{z:Value}{a:Option Addr}{x dz eu:Value}{news:List Value}(h:cl P base ah H w)(hu:P.underlying bY=some (.slice e))(J:fH P cJ=true)(ao:bp P e=some U)(ag:bytes? P e=some bI)(aN:dA P e=some z)(di:z.cells.size=U)
  (dc:Src H U x n n news)(aG:0<n)(dY:0<bI)(bz:n*bI<=140737488355328)(aO:a=none\/∃i,a=some ⟨0,i,none⟩)(j3:bl ah (.slice a 0 0) dz)(iS:bl ah x eu):
  fO P base ah H w (nL bY cJ ty dz eu) (.slice (some ⟨H.length,0,none⟩) n n) (H++[.own e true news]):=by
 obtain⟨o,hlen,hD,aa,aB⟩:=tc dc h iS
 obtain⟨fz,rfl⟩:∃fz,dz= .slice fz 0 0:=by
  rcases aO with rfl | ⟨i,rfl⟩
  ·cases j3;exact⟨_,rfl⟩
  ·cases j3 with
   | void=>exact⟨_,rfl⟩
   | empty m2=>exact absurd rfl m2
   | slice ak ae=>omega
 have al:=Oj (P:=P) (w:=w) (ty:=ty) (a:=fz) (len:=0) (cap:=0) (s_:=[]) hu J ao ag aN o aa (fun a7 _=>by cases fz<;>simp[Builtin.firstCells,loadCells,loadCellsFrom]) (by omega) (by simpa using bz) dY
 simp only[Nat.zero_add,List.nil_append]at al
 have hy:=grownCap_ge w n 0 e
 have dG:hD.length=n*U:=by rw[<-aB.1,hlen]
 refine fO.Bl (d_:=w.drew) (cap:=n) (l:=true) (ei:=(0,0)) h ao rfl rfl rfl rfl al (mi.zero _) (by simp[size_zeroCells,dG,hlen]) (fun i v an=>?_) aG (Nat.le_refl _) hy (fun h=>by cases h) (fun _=>?_)
 ·obtain⟨au,nf,iQ⟩:=aB.get an
  exact⟨au,by have:=PN hD z (grownCap w n 0 e-n) i au nf;simpa using this,iQ⟩
 ·simp[size_zeroCells,dG,di,<-Nat.add_mul]
  rw[show n+(grownCap w n 0 e-n)=grownCap w n 0 e by omega]
  exact Nat.le_refl _
theorem Q8{bY cJ e ty:TypeId}{U b i len cap n:Nat}{l:Bool}{cs:List Value}{x dz eu:Value}{news:List Value}(h:cl P base ah H w)(hu:P.underlying bY=some (.slice e))(J:fH P cJ=true)(ao:bp P e=some U)
  (dc:Src H U x n n news)(gS:len+n<=cap)(ae:0<cap)(aT:H[b]?=some (.own e l cs))(bz:i+len*U+news.length<=cs.length)(hc:(news.all (·.oneCell'))=true)(j3:bl ah (.slice (some ⟨b,i,none⟩) len cap) dz)(iS:bl ah x eu):
  fO P base ah H w (nL bY cJ ty dz eu) (.slice (some ⟨b,i,none⟩) (len+n) cap) (H.set b (.own e l (dg cs (i+len*U) news))):=by
 obtain⟨o,hlen,hD,aa,aB⟩:=tc dc h iS
 cases j3 with
 | void=>omega
 | empty=>omega
 | slice ak pM hle fX oj bQ=>
  rename_i k dD
  obtain⟨a7,al,s1,s2⟩:=Fy (i:=i+len*U) h ak aT aB bz (fun v an=>by simpa using List.all_eq_true.1 hc v an)
  refine⟨ah,_,a7,FO (a7:=a7) hu J ao o (aa w rfl) (by omega) ?_,.slice ak ae gS fX oj bQ,s1,s2⟩
  simp only[pz]
  rw[<-al]
  congr 3
  omega
theorem J5{bY cJ e ty:TypeId}{U bI b i len dD n:Nat}{z:Value}{X:bK}{cs:List Value}{k:iI}{eu:Value}{news hD:List Value}(h:cl P base ah H w)(hu:P.underlying bY=some (.slice e))(J:fH P cJ=true)(ao:bp P e=some U)(ag:bytes? P e=some bI)(aN:dA P e=some z)(di:z.cells.size=U)
  (dY:0<bI)(bz:(len+n)*bI<=140737488355328)(ak:ah b=some k)(aT:H[b]?=some X)(ae:X.cells?=some cs)(hd:i+len*U<=cs.length)(gS:dD<len+n)
  (o:(Builtin.lenOf eu).run P w= .ok n w)(hlen:news.length=n*U)(aa:∀a7:World,a7.heap=w.heap->(Builtin.firstCells U n eu).run P a7= .ok hD.toArray a7)(aB:cK ah news hD):
  fO P base ah H w (nL bY cJ ty (.slice (some ⟨k.g,k.R+i,none⟩) len dD) eu) (.slice (some ⟨H.length,0,none⟩) (len+n) (len+n)) (H++[.own e true ((cs.drop i).take (len*U)++news)]):=by
 obtain⟨aE,sT,kp,ng⟩:=h.cells ak aT ae hd
 have al:=Oj (P:=P) (w:=w) (ty:=ty) (a:=some ⟨k.g,k.R+i,none⟩) (len:=len) (cap:=dD) (s_:=aE) hu J ao ag aN o aa (fun a7 hw=>by
  simp only[Builtin.firstCells]
  rw[<-sT]
  exact run_loadCells_list a7 _ aE fun j u hu=>by rw[CI (w:=w) (by rw[hw])];exact kp j u hu) gS bz dY
 have hy:=grownCap_ge w (len+n) dD e
 have dG:(aE++hD).length=(len+n)*U:=by rw[List.length_append,sT,<-aB.1,hlen,Nat.add_mul]
 have gz:((cs.drop i).take (len*U)++news).length=(len+n)*U:=by rw[List.length_append,ng.1,sT,hlen,Nat.add_mul]
 have Dj:=ng.append aB
 have RL:aE.toArray++hD.toArray++Builtin.zeroCells z.cells (grownCap w (len+n) dD e-(len+n))=(aE++hD).toArray++Builtin.zeroCells z.cells (grownCap w (len+n) dD e-(len+n)):=by simp
 rw[RL]at al
 refine fO.Bl (d_:=w.drew) (cap:=len+n) (l:=true) (ei:=(0,0)) h ao rfl rfl rfl rfl al (mi.zero _) (by rw[Array.size_append,List.size_toArray,dG,gz];omega) (fun j v an=>?_) (by omega) (Nat.le_refl _) hy (fun h=>by cases h) (fun _=>?_)
 ·obtain⟨au,nf,iQ⟩:=Dj.get an
  exact⟨au,PN (aE++hD) z _ j au nf,iQ⟩
 ·rw[Array.size_append,List.size_toArray,dG,size_zeroCells,di,<-Nat.add_mul,show len+n+(grownCap w (len+n) dD e-(len+n))=grownCap w (len+n) dD e by omega]
  exact Nat.le_refl _
theorem Q7{bY cJ e ty:TypeId}{U bI b i len cap n:Nat}{z:Value}{cs:List Value}{x dz eu:Value}{news:List Value}(h:cl P base ah H w)(hu:P.underlying bY=some (.slice e))(J:fH P cJ=true)(ao:bp P e=some U)(ag:bytes? P e=some bI)(aN:dA P e=some z)(di:z.cells.size=U)
  (dc:Src H U x n n news)(aG:0<n)(dY:0<bI)(bz:(len+n)*bI<=140737488355328)(aT:H[b]?=some (.own e false cs))(hd:i+len*U<=cs.length)(gS:cap<len+n)(ae:0<cap)(j3:bl ah (.slice (some ⟨b,i,none⟩) len cap) dz)(iS:bl ah x eu):
  fO P base ah H w (nL bY cJ ty dz eu) (.slice (some ⟨H.length,0,none⟩) (len+n) (len+n)) (H++[.own e true ((cs.drop i).take (len*U)++news)]):=by
 obtain⟨o,hlen,hD,aa,aB⟩:=tc dc h iS
 cases j3 with
 | void=>omega
 | empty=>omega
 | slice ak pM hle fX oj bQ=>
  rename_i k dD
  have ar:k.loose=false:=by cases h.e8 b k _ ak aT;assumption
  have:=oj ar
  exact J5 h hu J ao ag aN di dY bz ak aT rfl hd (by omega) o hlen aa aB
theorem Rf{s:Sem Value}{v:Value}{b:Nat}{e:TypeId}{l:Bool}{cs:List Value}{X:bK}(h:cl P base ah H w)(aT:H[b]?=some (.own e l cs))(aA:fO P base ah H w s v (H++[X])):fO P base ah H w s v (H.set b .dead++[X]):=by
 obtain⟨bu,au,a7,aY,a3,bN,ck⟩:=aA
 have c8:b<H.length:=(cH.1 aT).1
 obtain⟨jr,kt⟩:=bN.kill b ⟨e,l,cs,by rw[wE c8];exact aT⟩
 have RV:(H++[X]).set b .dead=H.set b .dead++[X]:=by rw[List.set_append_left _ _ c8]
 rw[RV]at jr kt
 exact⟨bu,au,a7,aY,a3,jr,ck.trans kt⟩
theorem Q9{bY cJ e ty:TypeId}{U bI b i len cap n:Nat}{z:Value}{cs:List Value}{x dz eu:Value}{news:List Value}(h:cl P base ah H w)(hu:P.underlying bY=some (.slice e))(J:fH P cJ=true)(ao:bp P e=some U)(ag:bytes? P e=some bI)(aN:dA P e=some z)(di:z.cells.size=U)
  (dc:Src H U x n n news)(aG:0<n)(dY:0<bI)(bz:(len+n)*bI<=140737488355328)(aT:H[b]?=some (.own e true cs))(hd:i+len*U<=cs.length)(gS:cap<len+n)(ae:0<cap)(hc:(news.all (·.oneCell'))=true)
  (j3:bl ah (.slice (some ⟨b,i,none⟩) len cap) dz)(iS:bl ah x eu):
  fO P base ah H w (nL bY cJ ty dz eu) (.slice (some ⟨H.length,0,none⟩) (len+n) (len+n)) (H.set b .dead++[.own e true ((cs.drop i).take (len*U)++news)]):=by
 obtain⟨o,hlen,hD,aa,aB⟩:=tc dc h iS
 cases j3 with
 | void=>omega
 | empty=>omega
 | slice ak pM hle fX oj bQ=>
  rename_i k dD
  have n1:=h.e8 b k _ ak aT
  cases n1 with
  | own sr g4 ad c7 aU SX az DY an=>
  rename_i cur ei inf
  have Am:k.U=U:=by simp only[bp,ad,Option.map_some,Option.some.injEq]at ao;omega
  have SW:=bQ g4
  rw[Am]at SW
  by_cases fT:len+n<=dD
  ·
   have hmul:len*U+n*U<=dD*U:=by rw[<-Nat.add_mul];exact Nat.mul_le_mul_right _ fT
   have sB:hD.length=n*U:=by rw[<-aB.1,hlen]
   have xB:∀v∈hD,v.oneCell'=true:=fun au dJ=>by
    obtain⟨j,aW⟩:=List.getElem?_of_mem dJ
    have xr:j<news.length:=by rw[aB.1];exact(cH.1 aW).1
    rw[(aB.2 j _ _ (bB xr) aW).NH]
    simpa using List.all_eq_true.1 hc _ (List.getElem_mem xr)
   have gT:=FQ (P:=P) k.g (k.R+i+len*U) e ei hD 0 cur w aU (SX▸az) (by omega) xB
   simp only[Nat.add_zero]at gT
   have gz:((cs.drop i).take (len*U)).length=len*U:=by simp;omega
   have Lz:=h.Fh (i:=i) (de:=true) (eC:=(cs.drop i).take (len*U)++news) (lH:=(dg cur.toList (k.R+i+len*U) hD).toArray) (ei:=ei) ak aT ⟨cur,aU,by rw[List.size_toArray,nx (by simp;omega)];simp⟩
    (by rw[List.size_toArray,nx (by simp;omega),List.length_append,gz,hlen];simp;omega) (fun j v aW=>by
     have bm:(dg cur.toList (k.R+i+len*U) hD).toArray[k.R+i+j]?=(dg cur.toList (k.R+i+len*U) hD)[k.R+i+j]?:=by simp
     rw[bm,rD (by simp;omega)]
     by_cases gg:j<len*U
     ·rw[if_neg (by omega)]
      rw[List.getElem?_append_left (by omega),List.getElem?_take_of_lt gg,List.getElem?_drop]at aW
      obtain⟨au,aY,a3⟩:=an (i+j) v aW
      exact⟨au,by simpa[Nat.add_assoc]using aY,a3⟩
     ·rw[List.getElem?_append_right (by omega),gz]at aW
      have n8:j-len*U<news.length:=(cH.1 aW).1
      rw[if_pos (by omega),show k.R+i+j-(k.R+i+len*U)=j-len*U by omega]
      exact aB.get aW)
   refine⟨_,_,_,FO hu J ao o (aa w rfl) fT (by simp only[pz];exact gT),?_,Lz.1,Lz.2⟩
   have:=bl.slice (ah:=ah.put H.length ⟨k.g,k.R+i,k.N,k.U,true⟩) (b:=H.length) (i:=0) (k:=⟨k.g,k.R+i,k.N,k.U,true⟩) (len:=len+n) (cap:=len+n) (dD:=dD) (bg.nu _ _ _) (by omega) (Nat.le_refl _) fT (fun h=>by cases h)
    (fun _=>by simp only;rw[Am];omega)
   simpa using this
  ·
   have xl:=J5 (bY:=bY) (cJ:=cJ) (ty:=ty) (bI:=bI) (z:=z) (eu:=eu) (len:=len) (n:=n) (i:=i) (dD:=dD) h hu J ao ag aN di dY bz ak aT rfl hd (by omega) o hlen aa aB
   exact Rf h aT xl
theorem Rd{h5 bY e ty:TypeId}{U b i k2 pD m n:Nat}{l:Bool}{cs:List Value}{x fr eu:Value}{news:List Value}(h:cl P base ah H w)(hu:P.underlying h5=some (.slice e))(ao:bp P e=some U)(dc:Src H U x m n news)(aG:n=min m k2)(jI:0<n)
  (aT:H[b]?=some (.own e l cs))(bz:i+news.length<=cs.length)(hc:(news.all (·.oneCell'))=true)(xW:bl ah (.slice (some ⟨b,i,none⟩) k2 pD) fr)(iS:bl ah x eu):
  fO P base ah H w (Builtin.copy_ #[h5,bY] ty #[fr,eu]) (.int .i64 n) (H.set b (.own e l (dg cs i news))):=by
 obtain⟨o,hlen,hD,aa,aB⟩:=tc dc h iS
 obtain⟨k,dD,ak,rfl,-⟩:=xW.BN (by omega)
 obtain⟨a7,al,s1,s2⟩:=Fy (i:=i) h ak aT aB bz (fun v an=>by simpa using List.all_eq_true.1 hc v an)
 have hz:Nat.min m k2=n:=aG.symm
 exact⟨ah,.int .i64 n,a7,by simp[Builtin.copy_,run_underlying hu,o,hz,kx ao,aa w rfl,al,goInt],.int _ _,s1,s2⟩
theorem Re{h5 bY e ty:TypeId}{U k2 pD m:Nat}{a:Option Addr}{x fr eu:Value}(h:cl P base ah H w)(hu:P.underlying h5=some (.slice e))(ao:bp P e=some U)(dc:Src H U x m 0 [])(aG:min m k2=0)(xW:bl ah (.slice a k2 pD) fr)(iS:bl ah x eu):
  fO P base ah H w (Builtin.copy_ #[h5,bY] ty #[fr,eu]) (.int .i64 0) H:=by
 obtain⟨o,hlen,hD,aa,aB⟩:=tc dc h iS
 have U1:hD=[]:=List.eq_nil_of_length_eq_zero (by simpa using aB.1.symm)
 subst U1
 obtain⟨fz,dT,rfl,-⟩:=xW.qd
 have hz:Nat.min m k2=0:=aG
 refine⟨ah,.int .i64 0,w,?_,.int _ _,h,Step.refl _ _ _⟩
 cases fz<;>simp[Builtin.copy_,run_underlying hu,o,hz,kx ao,aa w rfl,goInt,storeCells]
end
section
variable {P:Program} {base:Nat} {ah:bg} {H:ab} {w:World}
theorem Rr{src dst e:TypeId}{x eu:Value}{n:Nat}{xs:List Int}(h:cl P base ah H w)(ao:P.underlying src=some (.slice e))(he:P.underlying e=some (.int .u8))(aA:P.underlying dst=some .string)
  (ld:∃a len c,x= .slice a len c)(dc:Src H 1 x n n (xs.map (Value.int .u8)))(iS:bl ah x eu):fO P base ah H w (convert src dst eu) (.string (strOfNums xs)) H:=by
 obtain⟨a,len,c,rfl⟩:=ld
 generalize xw:xs.map (Value.int .u8)=news at dc
 cases dc with
 | vW=>
  have J:xs=[]:=by simpa using xw
  subst J
  obtain⟨fz,dT,rfl,-⟩:=iS.qd
  refine⟨ah,.string (strOfNums []),w,?_,.str _,h,Step.refl _ _ _⟩
  cases fz with
  | none=>rw[run_convert_bytes_nil w src e ao he _ _ dst aA];rfl
  | some r0=>
   rw[run_convert_bytes_string w src dst e (some r0) 0 dT ao he aA,run_bytesToString w _ 0 dT [] (by simp[loadCells,loadCellsFrom]),foldl_push_bytes]
   rfl
 | row J ae aG hm bz=>
  rename_i b i X cs
  obtain⟨k,dD,ak,rfl,-⟩:=iS.BN (by omega)
  obtain⟨aE,ar,kp,al⟩:=h.cells ak J ae bz
  have hlen:xs.length=n:=by
   have:=congrArg List.length xw
   have aa:=al.1
   simp only[List.length_map]at this
   omega
  refine⟨ah,.string (strOfNums xs),w,run_convert_bytes_arg w src e ao he _ _ n dD xs hlen (fun j aW=>?_) dst aA,.str _,h,Step.refl _ _ _⟩
  have jF:((cs.drop i).take (n*1))[j]?=some (.int .u8 (xs.getD j 0)):=by
   rw[<-xw]
   simp[bB (show j<xs.length by omega),List.getD_eq_getElem?_getD]
  obtain⟨au,nf,iQ⟩:=al.get jF
  have:=kp j au nf
  rw[pz]at this
  rw[this,iQ.oo]
end
inductive fe (P:Program) (aJ:Operand->Value) (H:ab) (R:Oper):Value->ab->Prop
 | s9 {v:Value} (ao:∀cs b,R.op≠ .select cs b) (az:(R.op.operands.all fun x=>flat (aJ x))=true) (an:flat v=true) (h:dy P (execOp aJ R)=some (.value v)):fe P aJ H R v H
 | alloc {e:TypeId} {z:Value} {n:Nat} (h:R.op= .alloc e) (aN:dA P e=some z) (dU:flat z=true) (ao:bp P e=some n):fe P aJ H R (.pointer (some ⟨H.length,0,none⟩)) (H++[.own e false z.cells.toList])
 | box {e:TypeId} {x:Operand} {n:Nat} (h:R.op= .box e x) (ao:bp P e=some n):fe P aJ H R (.pointer (some ⟨H.length,0,none⟩)) (H++[.own e false (aJ x).cells.toList])
 | yd {t:TypeId} {x:Operand} {b i:Nat} {X:bK} {cs:List Value} {v:Value} (h:R.op= .load t x) (aO:dq P t=some false) (J:aJ x= .pointer (some ⟨b,i,none⟩)) (aT:H[b]?=some X) (ae:X.cells?=some cs) (an:cs[i]?=some v):fe P aJ H R v H
 | ye {t:TypeId} {x:Operand} {b i n:Nat} {X:bK} {cs:List Value} (h:R.op= .load t x) (aO:dq P t=some true) (ao:bp P t=some n) (J:aJ x= .pointer (some ⟨b,i,none⟩)) (aT:H[b]?=some X) (ae:X.cells?=some cs) (bz:i+n<=cs.length):
   fe P aJ H R (.agg ((cs.drop i).take n).toArray) H
 | store {t:TypeId} {x y:Operand} {b i:Nat} {e:TypeId} {l:Bool} {cs:List Value} (h:R.op= .store t x y) (ao:bp P t=some (aJ y).cells.size) (J:aJ x= .pointer (some ⟨b,i,none⟩)) (aT:H[b]?=some (.own e l cs)) (bz:i+(aJ y).cells.size<=cs.length)
   (o:((aJ y).cells.toList.all (·.oneCell'))=true):fe P aJ H R undef (H.set b (.own e l (dg cs i (aJ y).cells.toList)))
 | slice {t e:TypeId} {x:Operand} {bb ad:Option Operand} {U b i len cap l c4:Nat} {X:bK} (h:R.op= .slice t x bb ad none) (hu:P.underlying t=some (.slice e)) (ao:bp P e=some U) (J:aJ x= .slice (some ⟨b,i,none⟩) len cap) (aT:H[b]?=some X) (he:X.elem?=some e)
   (ar:dM aJ bb=some l) (eI:e2 aJ len ad=some c4) (o:l<=c4) (aa:c4<=cap) (a5:l<cap):fe P aJ H R (.slice (some ⟨b,i+l*U,none⟩) (c4-l) (cap-l)) H
 | yE {t e:TypeId} {x:Operand} {bb ad:Option Operand} {U b i len cap:Nat} (h:R.op= .slice t x bb ad none) (hu:P.underlying t=some (.slice e)) (ao:bp P e=some U) (J:aJ x= .slice (some ⟨b,i,none⟩) len cap) (qT:0<cap)
   (ar:dM aJ bb=some cap) (eI:e2 aJ len ad=some cap):fe P aJ H R (.slice (some ⟨b,i,none⟩) 0 0) H
 | yF {t e:TypeId} {x:Operand} {bb ad:Option Operand} {U:Nat} {a:Option Addr} (h:R.op= .slice t x bb ad none) (hu:P.underlying t=some (.slice e)) (ao:bp P e=some U) (J:aJ x= .slice a 0 0)
   (ar:dM aJ bb=some 0) (eI:e2 aJ 0 ad=some 0):fe P aJ H R (.slice a 0 0) H
 | BM {t e:TypeId} {x bb ad fk:Operand} {U len cap l:Nat} {a:Addr} (h:R.op= .slice t x (some bb) (some ad) (some fk)) (hu:P.underlying t=some (.slice e)) (ao:bp P e=some U) (J:aJ x= .slice (some a) len cap)
   (ar:dM aJ (some bb)=some l) (eI:dM aJ (some ad)=some l) (hm:dM aJ (some fk)=some l) (aB:l<=cap):fe P aJ H R (.slice (some ⟨0,0,none⟩) 0 0) H
 | BL {t e:TypeId} {x bb ad fk:Operand} {U:Nat} (h:R.op= .slice t x (some bb) (some ad) (some fk)) (hu:P.underlying t=some (.slice e)) (ao:bp P e=some U) (J:aJ x= .slice none 0 0)
   (ar:dM aJ (some bb)=some 0) (eI:dM aJ (some ad)=some 0) (hm:dM aJ (some fk)=some 0):fe P aJ H R (.slice none 0 0) H
 | make {t e:TypeId} {x y:Operand} {U bI l c:Nat} {e4 c9:IntKind} {z:Value} (h:R.op= .makeSlice t x y) (hu:P.underlying t=some (.slice e)) (ao:bp P e=some U) (ag:bytes? P e=some bI) (aN:dA P e=some z) (dU:flat z=true) (di:z.cells.size=U)
   (J:aJ x= .int e4 (l:Int)) (aK:aJ y= .int c9 (c:Int)) (c7:0<U) (dY:0<bI) (my:l<=c) (ae:0<c) (bz:bI*c<=281474976710656):fe P aJ H R (.slice (some ⟨H.length,0,none⟩) l c) (H++[.own e false (made z (c*U))])
 | yk {t e:TypeId} {x y:Operand} {U bI:Nat} {e4 c9:IntKind} (h:R.op= .makeSlice t x y) (hu:P.underlying t=some (.slice e)) (ao:bp P e=some U) (ag:bytes? P e=some bI) (J:aJ x= .int e4 0) (aK:aJ y= .int c9 0):
   fe P aJ H R (.slice (some ⟨0,0,none⟩) 0 0) H
 | build {t e:TypeId} {U len:Nat} {a6:Array (Nat×Operand)} {z:Value} {out:Array Value} (h:R.op= .buildSlice t len a6) (hu:P.underlying t=some (.slice e)) (ao:bp P e=some U) (aN:dA P e=some z) (dU:flat z=true) (di:z.cells.size=U)
   (c7:0<U) (ar:0<len) (bz:len*U<=16777216) (az:Instr.fill (fun i=>some (i*U,U)) (made z (len*U)).toArray (a6.toList.map fun p=>(p.1,aJ p.2))=some out) (sE:out.size=len*U):
   fe P aJ H R (.slice (some ⟨H.length,0,none⟩) len len) (H++[.own e false out.toList])
 | wk {t e:TypeId} {U:Nat} (h:R.op= .buildSlice t 0 #[]) (hu:P.underlying t=some (.slice e)) (ao:bp P e=some U):fe P aJ H R (.slice (some ⟨0,0,none⟩) 0 0) H
 | wb {bY cJ e:TypeId} {s x:Operand} {U len cap:Nat} {a:Option Addr} (h:R.op= .call {callee:= .builtin .append,args:= #[s,x],argTypes:= #[bY,cJ]}) (hu:P.underlying bY=some (.slice e)) (J:fH P cJ=true) (ao:bp P e=some U) (dc:Src H U (aJ x) 0 0 [])
   (an:aJ s= .slice a len cap):fe P aJ H R (.slice a len cap) H
 | wh {bY cJ e:TypeId} {s x:Operand} {U bI n:Nat} {z:Value} {a:Option Addr} {news:List Value} (h:R.op= .call {callee:= .builtin .append,args:= #[s,x],argTypes:= #[bY,cJ]}) (hu:P.underlying bY=some (.slice e)) (J:fH P cJ=true) (ao:bp P e=some U)
   (ag:bytes? P e=some bI) (aN:dA P e=some z) (di:z.cells.size=U) (dc:Src H U (aJ x) n n news) (aG:0<n) (dY:0<bI) (bz:n*bI<=140737488355328) (aO:a=none\/∃i,a=some ⟨0,i,none⟩) (an:aJ s= .slice a 0 0):
   fe P aJ H R (.slice (some ⟨H.length,0,none⟩) n n) (H++[.own e true news])
 | we {bY cJ e:TypeId} {s x:Operand} {U b i len cap n:Nat} {l:Bool} {cs:List Value} {news:List Value} (h:R.op= .call {callee:= .builtin .append,args:= #[s,x],argTypes:= #[bY,cJ]}) (hu:P.underlying bY=some (.slice e)) (J:fH P cJ=true) (ao:bp P e=some U)
   (dc:Src H U (aJ x) n n news) (gS:len+n<=cap) (ae:0<cap) (aT:H[b]?=some (.own e l cs)) (bz:i+len*U+news.length<=cs.length) (hc:(news.all (·.oneCell'))=true) (an:aJ s= .slice (some ⟨b,i,none⟩) len cap):
   fe P aJ H R (.slice (some ⟨b,i,none⟩) (len+n) cap) (H.set b (.own e l (dg cs (i+len*U) news)))
 | wc {bY cJ e:TypeId} {s x:Operand} {U bI b i len cap n:Nat} {z:Value} {cs:List Value} {news:List Value} (h:R.op= .call {callee:= .builtin .append,args:= #[s,x],argTypes:= #[bY,cJ]}) (hu:P.underlying bY=some (.slice e)) (J:fH P cJ=true) (ao:bp P e=some U)
   (ag:bytes? P e=some bI) (aN:dA P e=some z) (di:z.cells.size=U) (dc:Src H U (aJ x) n n news) (aG:0<n) (dY:0<bI) (bz:(len+n)*bI<=140737488355328) (aT:H[b]?=some (.own e false cs)) (hd:i+len*U<=cs.length) (gS:cap<len+n) (ae:0<cap)
   (an:aJ s= .slice (some ⟨b,i,none⟩) len cap):fe P aJ H R (.slice (some ⟨H.length,0,none⟩) (len+n) (len+n)) (H++[.own e true ((cs.drop i).take (len*U)++news)])
 | wg {bY cJ e:TypeId} {s x:Operand} {U bI b i len cap n:Nat} {z:Value} {cs:List Value} {news:List Value} (h:R.op= .call {callee:= .builtin .append,args:= #[s,x],argTypes:= #[bY,cJ]}) (hu:P.underlying bY=some (.slice e)) (J:fH P cJ=true) (ao:bp P e=some U)
   (ag:bytes? P e=some bI) (aN:dA P e=some z) (di:z.cells.size=U) (dc:Src H U (aJ x) n n news) (aG:0<n) (dY:0<bI) (bz:(len+n)*bI<=140737488355328) (aT:H[b]?=some (.own e true cs)) (hd:i+len*U<=cs.length) (gS:cap<len+n) (ae:0<cap)
   (hc:(news.all (·.oneCell'))=true) (an:aJ s= .slice (some ⟨b,i,none⟩) len cap):fe P aJ H R (.slice (some ⟨H.length,0,none⟩) (len+n) (len+n)) (H.set b .dead++[.own e true ((cs.drop i).take (len*U)++news)])
 | copy {h5 bY e:TypeId} {d x:Operand} {U b i k2 pD m n:Nat} {l:Bool} {cs:List Value} {news:List Value} (h:R.op= .call {callee:= .builtin .copy,args:= #[d,x],argTypes:= #[h5,bY]}) (hu:P.underlying h5=some (.slice e)) (ao:bp P e=some U) (dc:Src H U (aJ x) m n news)
   (aG:n=min m k2) (jI:0<n) (aT:H[b]?=some (.own e l cs)) (bz:i+news.length<=cs.length) (hc:(news.all (·.oneCell'))=true) (an:aJ d= .slice (some ⟨b,i,none⟩) k2 pD):fe P aJ H R (.int .i64 n) (H.set b (.own e l (dg cs i news)))
 | wu {h5 bY e:TypeId} {d x:Operand} {U k2 pD m:Nat} {a:Option Addr} (h:R.op= .call {callee:= .builtin .copy,args:= #[d,x],argTypes:= #[h5,bY]}) (hu:P.underlying h5=some (.slice e)) (ao:bp P e=some U) (dc:Src H U (aJ x) m 0 []) (aG:min m k2=0)
   (an:aJ d= .slice a k2 pD):fe P aJ H R (.int .i64 0) H
 | str {src dst e:TypeId} {x:Operand} {n:Nat} {xs:List Int} (h:R.op= .convert src dst x) (ao:P.underlying src=some (.slice e)) (he:P.underlying e=some (.int .u8)) (aA:P.underlying dst=some .string) (ld:∃a len c,aJ x= .slice a len c)
   (dc:Src H 1 (aJ x) n n (xs.map (Value.int .u8))):fe P aJ H R (.string (strOfNums xs)) H
theorem Nu{P:Program}{base:Nat}{ah:bg}{H aH:ab}{w:World}{aJ cz:Operand->Value}{R:Oper}{v:Value}(h:fe P aJ H R v aH)(bM:cl P base ah H w)(dr:∀x∈R.op.operands,bl ah (aJ x) (cz x)):
  ∃bu au a7,((execOp cz R).run P w= .ok (.value au) a7\/((execOp cz R).run P w= .ok .skip a7/\au=undef))/\bl bu v au/\cl P base bu aH a7/\Step ah H w bu aH a7:=by
 have fin:∀{s:Sem Value} {v:Value} {aH:ab},fO P base ah H w s v aH->(∀au a7,s.run P w= .ok au a7->(execOp cz R).run P w= .ok (.value au) a7)->
   ∃bu au a7,((execOp cz R).run P w= .ok (.value au) a7\/((execOp cz R).run P w= .ok .skip a7/\au=undef))/\bl bu v au/\cl P base bu aH a7/\Step ah H w bu aH a7:=by
  intro s v aH ⟨bu,au,a7,aY,a3,bN,ck⟩ al
  exact⟨bu,au,a7,.inl (al _ _ aY),a3,bN,ck⟩
 cases h with
 | s9 ao az an h=>
  have he:execOp aJ R=execOp cz R:=execOp_congr R ao fun x J=>(JX (by simpa using Array.all_eq_true'.1 az x J) (dr x J)).symm
  exact⟨ah,v,w,.inl (rv _ _ (he▸h) w),tV ah an,bM,Step.refl _ _ _⟩
 | alloc h aN dU ao=>exact fin (Q5 bM aN dU ao) fun au a7 al=>by simp[execOp,h,al]
 | box h ao=>exact fin (Ra bM (dr _ (by simp[h,Op.operands])) ao) fun au a7 al=>by simp[execOp,h,al]
 | yd h aO J aT ae an=>exact fin (Rg bM aO (J▸dr _ (by simp[h,Op.operands])) aT ae an) fun au a7 al=>by simp[execOp,h,al]
 | ye h aO ao J aT ae bz=>exact fin (Rh bM aO ao (J▸dr _ (by simp[h,Op.operands])) aT ae bz) fun au a7 al=>by simp[execOp,h,al]
 | store h ao J aT bz o=>
  obtain⟨a7,al,s1,s2⟩:=Rq bM ao (J▸dr _ (by simp[h,Op.operands])) (dr _ (by simp[h,Op.operands])) aT bz o
  exact⟨ah,undef,a7,.inr ⟨by simp[execOp,h,al],rfl⟩,bl.undef ah,s1,s2⟩
 | slice h hu ao J aT he ar eI o aa a5=>
  refine fin (Rk bM hu ao (J▸dr _ (by simp[h,Op.operands])) aT he (fun y aK=>dr y ?_) (fun y aK=>dr y ?_) ar eI o aa a5) fun au a7 al=>by simp[execOp,h,al]
  ·simp[h,Op.operands,aK]
  ·simp[h,Op.operands,aK]
 | yE h hu ao J qT ar eI=>
  refine fin (Rn bM hu ao (J▸dr _ (by simp[h,Op.operands])) qT (fun y aK=>dr y ?_) (fun y aK=>dr y ?_) ar eI) fun au a7 al=>by simp[execOp,h,al]
  ·simp[h,Op.operands,aK]
  ·simp[h,Op.operands,aK]
 | yF h hu ao J ar eI=>
  refine fin (Ro bM hu ao (J▸dr _ (by simp[h,Op.operands])) (fun y aK=>dr y ?_) (fun y aK=>dr y ?_) ar eI) fun au a7 al=>by simp[execOp,h,al]
  ·simp[h,Op.operands,aK]
  ·simp[h,Op.operands,aK]
 | BM h hu ao J ar eI hm aB=>exact fin (Rm bM hu ao (J▸dr _ (by simp[h,Op.operands])) (dr _ (by simp[h,Op.operands])) (dr _ (by simp[h,Op.operands])) (dr _ (by simp[h,Op.operands])) ar eI hm aB) fun au a7 al=>by simp[execOp,h,al]
 | BL h hu ao J ar eI hm=>exact fin (Rl bM hu ao (J▸dr _ (by simp[h,Op.operands])) (dr _ (by simp[h,Op.operands])) (dr _ (by simp[h,Op.operands])) (dr _ (by simp[h,Op.operands])) ar eI hm) fun au a7 al=>by simp[execOp,h,al]
 | make h hu ao ag aN dU di J aK c7 dY my ae bz=>
  have bm:=(J▸dr _ (by simp[h,Op.operands])).oo
  have bk:=(aK▸dr _ (by simp[h,Op.operands])).oo
  rename_i t e x y U bI l c e4 c9 z
  exact fin (Ri (e4:=e4) (c9:=c9) bM hu ao ag aN dU di c7 dY my ae bz) fun au a7 al=>by simp[execOp,h,bm,bk,al]
 | yk h hu ao ag J aK=>
  have bm:=(J▸dr _ (by simp[h,Op.operands])).oo
  have bk:=(aK▸dr _ (by simp[h,Op.operands])).oo
  rename_i t e x y U bI e4 c9
  exact fin (Rj (e4:=e4) (c9:=c9) bM hu ao ag) fun au a7 al=>by simp[execOp,h,bm,bk,al]
 | build h hu ao aN dU di c7 ar bz az sE=>exact fin (Rb bM hu ao aN dU di c7 ar bz (fun p a2=>dr p.2 (by simp[h,Op.operands];exact⟨p.1,by simpa using a2⟩)) az sE) fun au a7 al=>by simp[execOp,h,al]
 | wk h hu ao=>exact fin (Rc bM hu ao) fun au a7 al=>by simp[execOp,h,al]
 | wb h hu J ao dc an=>exact fin (Q6 (ty:=R.type) bM hu J ao dc rfl (an▸dr _ (by simp[h,Op.operands,Call.operands])) (dr _ (by simp[h,Op.operands,Call.operands]))) fun au a7 al=>by simp[nL]at al;simp[execOp,h,resolve,invoke,builtin,al]
 | wh h hu J ao ag aN di dc aG dY bz aO an=>
  exact fin (Q_ (ty:=R.type) bM hu J ao ag aN di dc aG dY bz aO (an▸dr _ (by simp[h,Op.operands,Call.operands])) (dr _ (by simp[h,Op.operands,Call.operands]))) fun au a7 al=>by simp[nL]at al;simp[execOp,h,resolve,invoke,builtin,al]
 | we h hu J ao dc gS ae aT bz hc an=>
  exact fin (Q8 (ty:=R.type) bM hu J ao dc gS ae aT bz hc (an▸dr _ (by simp[h,Op.operands,Call.operands])) (dr _ (by simp[h,Op.operands,Call.operands]))) fun au a7 al=>by simp[nL]at al;simp[execOp,h,resolve,invoke,builtin,al]
 | wc h hu J ao ag aN di dc aG dY bz aT hd gS ae an=>
  exact fin (Q7 (ty:=R.type) bM hu J ao ag aN di dc aG dY bz aT hd gS ae (an▸dr _ (by simp[h,Op.operands,Call.operands])) (dr _ (by simp[h,Op.operands,Call.operands]))) fun au a7 al=>by simp[nL]at al;simp[execOp,h,resolve,invoke,builtin,al]
 | wg h hu J ao ag aN di dc aG dY bz aT hd gS ae hc an=>
  exact fin (Q9 (ty:=R.type) bM hu J ao ag aN di dc aG dY bz aT hd gS ae hc (an▸dr _ (by simp[h,Op.operands,Call.operands])) (dr _ (by simp[h,Op.operands,Call.operands]))) fun au a7 al=>by simp[nL]at al;simp[execOp,h,resolve,invoke,builtin,al]
 | copy h hu ao dc aG jI aT bz hc an=>
  rename_i h5 bY e d x U b i k2 pD m n l cs news
  exact fin (Rd (ty:=R.type) (bY:=bY) bM hu ao dc aG jI aT bz hc (an▸dr _ (by simp[h,Op.operands,Call.operands])) (dr _ (by simp[h,Op.operands,Call.operands]))) fun au a7 al=>by simp[execOp,h,resolve,invoke,builtin,al]
 | wu h hu ao dc aG an=>
  rename_i h5 bY e d x U k2 pD m a
  exact fin (Re (ty:=R.type) (bY:=bY) bM hu ao dc aG (an▸dr _ (by simp[h,Op.operands,Call.operands])) (dr _ (by simp[h,Op.operands,Call.operands]))) fun au a7 al=>by simp[execOp,h,resolve,invoke,builtin,al]
 | str h ao he aA ld dc=>exact fin (Rr bM ao he aA ld dc (dr _ (by simp[h,Op.operands]))) fun au a7 al=>by simp[execOp,h,al]
def fg(t:List Value):Operand->Value
 | .tmp i=>t.getD i undef
 | .const v=>v
 | .global g=> .pointer (some ⟨0,g,some 0⟩)
 | .func f=> .func (.func f) #[] #[]
def nq:Operand->Bool
 | .const v=>flat v
 | _=>true
def fa(t:List Value)(dst:Option Tmp)(v:Value):List Value:=match dst with
 | some d=>t.set d v
 | none=>t
def gX(ops:Array Oper)(t:List Value)(j:Nat):Option Bool:=
 match((ops[j]?).bind (·.dst)).bind (t[·]?)with
 | some (.bool b)=>some b
 | _=>none
inductive dH where
 | normal
 | exit (id:Nat)
 | ret
 deriving DecidableEq
def dH.real:dH->Exit
 | .normal=> .normal
 | .exit id=> .exit id
 | .ret=> .ret
inductive mh (P:Program) (t:List Value) (H:ab):List ResultVar->List Value->Prop
 | nil:mh P t H [] []
 | tmp {i:Nat} {rs:List ResultVar} {aE:List Value} (ao:mh P t H rs aE):mh P t H (.tmp i::rs) (t.getD i undef::aE)
 | zt {a:Nat} {ty:TypeId} {b i:Nat} {X:bK} {cs:List Value} {v:Value} {rs:List ResultVar} {aE:List Value} (aO:dq P ty=some false) (J:t.getD a undef= .pointer (some ⟨b,i,none⟩)) (aT:H[b]?=some X) (ae:X.cells?=some cs) (an:cs[i]?=some v)
   (ao:mh P t H rs aE):mh P t H (.cell a ty::rs) (v::aE)
 | zu {a:Nat} {ty:TypeId} {b i n:Nat} {X:bK} {cs:List Value} {rs:List ResultVar} {aE:List Value} (aO:dq P ty=some true) (aG:bp P ty=some n) (J:t.getD a undef= .pointer (some ⟨b,i,none⟩)) (aT:H[b]?=some X) (ae:X.cells?=some cs) (bz:i+n<=cs.length)
   (ao:mh P t H rs aE):mh P t H (.cell a ty::rs) (.agg ((cs.drop i).take n).toArray::aE)
def bd(aE:List Value):Value:=match aE with
 | [v]=>v
 | _=> .tuple aE.toArray
def Ext(H aH:ab):Prop:=∃N,aH=H++N/\∀x∈N,∀e cs,x≠ .ro e cs
def RN(ops:Array Oper):Bool:=ops.toList.zipIdx.all fun p6=>p6.1.after.all fun e=> !Region.binds .any e || decide (e.on<p6.2)
def YY(ops:Array Oper)(m:Array Nat):Bool:=ops.toList.zipIdx.all fun p6=>(List.range ops.size).all fun j=>
 !(m.getD p6.2 0).testBit j || p6.1.after.any fun e=>Region.binds .any e&&(e.on==j || (decide (e.on<p6.2)&&(m.getD e.on 0).testBit j))
def oM(m:Array Nat)(i j:Nat):Bool:=(m.getD j 0).testBit i
def aaW(ops:Array Oper)(m:Array Nat):Bool:=ops.toList.zipIdx.all fun pk=>ops.toList.zipIdx.all fun fl=> !decide (fl.2<pk.2) || oM m fl.2 pk.2 ||
 ((match fl.1.dst with | some d=> !(pk.1.looksAt ops).contains d&&pk.1.dst !=some d | none=>true)&&(match pk.1.dst with | some d=> !(fl.1.looksAt ops).contains d | none=>true))
def gK(ops:Array Oper):Bool:=RN ops&&YY ops (Region.before ops)&&aaW ops (Region.before ops)
def eE(P:Program)(ops:Array Oper)(i:Nat):Bool:=ops.toList.zipIdx.all fun pk=>bV P pk.1 || decide (pk.2=i) || oM (Region.before ops) (min i pk.2) (max i pk.2)
inductive ps where
 | code (c:Code) (t:List Value) (H:ab)
 | op (ops:Array Oper) (R:Oper) (t:List Value) (H:ab)
 | call (f:FuncId) (args:List Value) (H:ab)
inductive Out where
 | code (e:dH) (t:List Value) (H:ab)
 | val (v:Value) (H:ab)
def mF(H:ab)(b:Nat):Option bK->ab
 | some x=>H.set b x
 | none=>H
def oF(P:Program)(ops:Array Oper)(R:Oper)(t:List Value)(H:ab)(v:Value)(H1:ab):Option (Nat×Option bK)->Prop
 | none=>(Region.wanted R (gX ops t)=false\/bV P R=true)/\H1=H
 | some (b,y)=>Region.wanted R (gX ops t)=true/\bV P R=false/\b<H.length/\H[b]?≠some .dead/\H1=mF H b y/\∀aH:ab,aH[b]?=H[b]?->fe P (fg t) aH R v (mF aH b y)
inductive dX (P:Program):ps->Out->Prop
 | skip {t:List Value} {H:ab}:dX P (.code .skip t H) (.code .normal t H)
 | ret {t:List Value} {H:ab}:dX P (.code .ret t H) (.code .ret t H)
 | exit {id:Nat} {t:List Value} {H:ab}:dX P (.code (.exit id) t H) (.code (.exit id) t H)
 | BG {a b:Code} {t t1:List Value} {H H1:ab} {e:dH} {t2:List Value} {aR:ab} (o:dX P (.code a t H) (.code .normal t1 H1)) (aa:dX P (.code b t1 H1) (.code e t2 aR)):dX P (.code (.seq a b) t H) (.code e t2 aR)
 | yz {a b:Code} {t t1:List Value} {H H1:ab} {e:dH} (o:dX P (.code a t H) (.code e t1 H1)) (he:e≠ .normal):dX P (.code (.seq a b) t H) (.code e t1 H1)
 | cond {c:Operand} {x y:Code} {b:Bool} {t t1:List Value} {H H1:ab} {e:dH} (ae:fg t c= .bool b) (ak:nq c=true) (h:dX P (.code (if b then x else y) t H) (.code e t1 H1)):dX P (.code (.cond c x y) t H) (.code e t1 H1)
 | block {id:Nat} {c:Code} {t t1:List Value} {H H1:ab} {e:dH} (h:dX P (.code c t H) (.code e t1 H1)):dX P (.code (.block id c) t H) (.code (if e= .exit id then .normal else e) t1 H1)
 | Bf {c:Code} {t t1 t2:List Value} {H H1 aR:ab} {e:dH} (o:dX P (.code c t H) (.code .normal t1 H1)) (aa:dX P (.code (.loop c) t1 H1) (.code e t2 aR)):dX P (.code (.loop c) t H) (.code e t2 aR)
 | yg {c:Code} {t t1:List Value} {H H1:ab} {e:dH} (o:dX P (.code c t H) (.code e t1 H1)) (he:e≠ .normal):dX P (.code (.loop c) t H) (.code e t1 H1)
 | region {id:Nat} {ops:Array Oper} {draw:Bool} (T:Nat->List Value) (V:Nat->Value) (aZ:Nat->ab) (ak:(ops.all fun R=>R.op.operands.all nq)=true)
   (h:∀(i:Nat) (R:Oper),ops[i]?=some R->dX P (.op ops R (T i) (aZ i)) (.val (V i) (aZ (i+1)))) (bc:∀(i:Nat) (R:Oper),ops[i]?=some R->T (i+1)=fa (T i) R.dst (V i))
   (aA:draw=true->gK ops=true/\∀(i:Nat) (R:Oper),ops[i]?=some R->bV P R=false->eE P ops i=true\/Ext (aZ i) (aZ (i+1))):dX P (.code (.region id ops draw) (T 0) (aZ 0)) (.code .normal (T ops.size) (aZ ops.size))
 | BC {id:Nat} {ops:Array Oper} {draw:Bool} (T:Nat->List Value) (V:Nat->Value) (aZ:Nat->ab) (ef:Nat->Option (Nat×Option bK)) (ak:(ops.all fun R=>R.op.operands.all nq)=true)
   (h:∀(i:Nat) (R:Oper),ops[i]?=some R->dX P (.op ops R (T i) (aZ i)) (.val (V i) (aZ (i+1)))) (bc:∀(i:Nat) (R:Oper),ops[i]?=some R->T (i+1)=fa (T i) R.dst (V i)) (ew:gK ops=true)
   (ar:∀(i:Nat) (R:Oper),ops[i]?=some R->oF P ops R (T i) (aZ i) (V i) (aZ (i+1)) (ef i)) (aA:∀(i j:Nat) (b:Nat) (x:bK) (y:Option bK),ef i=some (b,some x)->ef j=some (b,y)->i≠j->eE P ops i=true\/eE P ops j=true) (u9:∀j,ops.size<=j->ef j=none):
   dX P (.code (.region id ops draw) (T 0) (aZ 0)) (.code .normal (T ops.size) (aZ ops.size))
 | ta {ops:Array Oper} {R:Oper} {t:List Value} {H:ab} (hw:Region.wanted R (gX ops t)=false):dX P (.op ops R t H) (.val undef H)
 | vs {ops:Array Oper} {R:Oper} {t:List Value} {H:ab} {v:Value} (hw:Region.wanted R (gX ops t)=true) (a4:bV P R=true) (h:hL P (fg t) R v):dX P (.op ops R t H) (.val v H)
 | rq {ops:Array Oper} {R:Oper} {t:List Value} {H H1:ab} {v:Value} (hw:Region.wanted R (gX ops t)=true) (a4:bV P R=false) (h:fe P (fg t) H R v H1):dX P (.op ops R t H) (.val v H1)
 | vr {ops:Array Oper} {R:Oper} {t:List Value} {H H1:ab} {v:Value} {f:Operand} {args:Array Operand} {k1:Array TypeId} {g:FuncId} {first cap:Array Value} {fn:Func} (hw:Region.wanted R (gX ops t)=true) (a4:bV P R=false)
   (aM:R.op= .call {callee:= .value f,args:=args,argTypes:=k1}) (az:fg t f= .func (.func g) first cap) (aU:P.funcs[g]?=some fn) (aG:(fn.name== "runtime.NumGoroutine")=false) (ag:fn.body.isSome=true)
   (h:dX P (.call g (first.toList++args.toList.map (fg t)++cap.toList) H) (.val v H1)):dX P (.op ops R t H) (.val v H1)
 | call {f:FuncId} {fn:Func} {c:Code} {args t1 aE:List Value} {H H1:ab} {e:dH} (az:P.funcs[f]?=some fn) (ag:fn.body=some c) (h:dX P (.code c (args++List.replicate (fn.ntmps-args.length) undef) H) (.code e t1 H1))
   (he:e= .normal\/e= .ret) (al:mh P t1 H1 fn.results.toList aE):dX P (.call f args H) (.val (bd aE) H1)
 | zr {f:FuncId} {args:List Value} {v:Value} {H H1:ab} {b:Nat} (h:dX P (.call f args H) (.val v H1)) (aM:hM H1 b):dX P (.call f args H) (.val v (H1.set b .dead))
def tz(P:Program)(base:Nat)(ops:Array Oper)(R:Oper)(t:List Value)(H:ab)(v:Value)(H1:ab):Prop:=
 (Region.wanted R (gX ops t)=false/\v=undef/\H1=H)\/
 (Region.wanted R (gX ops t)=true/\bV P R=true/\hL P (fg t) R v/\H1=H)\/
 (Region.wanted R (gX ops t)=true/\bV P R=false/\∀(ah:bg) (w:World) (a:Act),(∀x∈R.op.operands,bl ah (fg t x) (a.eval x))->cl P base ah H w->∀(K:Act->World->Prop) (Q:Exit->Act->World->Prop),
  (∀bu au a7,bl bu v au->cl P base bu H1 a7->Step ah H w bu H1 a7->K (a.put R.dst au) a7)->R.wp P a w K Q)
def Sound(P:Program)(base:Nat):ps->Out->Prop
 | .code c t H,.code e t1 H1=>∀(ah:bg) (w:World) (a:Act),cK ah t a.tmps.toList->a.defers=[]->cl P base ah H w->∀(Q:Exit->Act->World->Prop),
   (∀bu b1 a7,cK bu t1 b1.tmps.toList->b1.defers=[]->cl P base bu H1 a7->Step ah H w bu H1 a7->Q e.real b1 a7)->c.wp P Q a w
 | .op ops R t H,.val v H1=>tz P base ops R t H v H1
 | .call f args H,.val v H1=>∀(ah:bg) (w:World) (k0:Array Value),cK ah args k0.toList->cl P base ah H w->
   Calls P f k0 w fun e gD=>∃au bu,e= .returned au/\bl bu v au/\cl P base bu H1 gD/\Step ah H w bu H1 gD
 | _,_=>True
theorem yB{ah:bg}{t:List Value}{a:Act}(h:cK ah t a.tmps.toList){x:Operand}(J:nq x=true):bl ah (fg t x) (a.eval x):=by
 cases x with
 | tmp i=>
  have:=h.getD i
  simpa[fg,Act.eval,Array.getD_eq_getD_getElem?,List.getD_eq_getElem?_getD]using this
 | const v=>exact tV ah J
 | global g=>exact .sa g
 | func f=>exact .func _ rfl (fun i v au h=>by simp at h) rfl (fun i v au h=>by simp at h)
theorem Zx{ah:bg}{t:List Value}{a:Act}(h:cK ah t a.tmps.toList)(dst:Option Tmp){v au:Value}(an:bl ah v au):cK ah (fa t dst v) (a.put dst au).tmps.toList:=by
 cases dst with
 | none=>exact h
 | some d=>
  simp only[fa,Act.put,Array.toList_setIfInBounds]
  exact h.set d an
theorem put_defers(a:Act)(dst:Option Tmp)(v:Value):(a.put dst v).defers=a.defers:=by cases dst<;>rfl
theorem bl.hr{ah:bg}{v au:Value}(h:bl ah v au):(match(some v:Option Value)with | some (.bool b)=>some b | _=>(none:Option Bool))=match(some au:Option Value)with | some (.bool b)=>some b | _=>none:=by
 cases h<;>rfl
theorem ae4{ah:bg}{t:List Value}{a:Act}(h:cK ah t a.tmps.toList)(ops:Array Oper)(j:Nat):yielded ops a.tmps j=gX ops t j:=by
 unfold yielded gX
 cases aA:(ops[j]?).bind (·.dst)with
 | none=>rfl
 | some d=>
  simp only[Option.bind_some]
  by_cases a5:d<t.length
  ·have o:=bB a5
   obtain⟨au,aa,aB⟩:=h.get o
   have tX:a.tmps[d]?=some au:=by simpa using aa
   rw[o,tX]
   exact aB.hr.symm
  ·have aI:t.length<=d:=Nat.le_of_not_lt a5
   have o:t[d]?=none:=List.getElem?_eq_none aI
   have aa:a.tmps[d]?=none:=by
    have:=h.1
    rw[Array.getElem?_eq_none_iff]
    simp at this
    exact this▸aI
   rw[o,aa]
theorem Gx{R:Oper}{f g:Nat->Option Bool}(h:∀j b,R.guard=some (j,b)->f j=g j):Region.wanted R f=Region.wanted R g:=by
 unfold Region.wanted
 cases aU:R.guard with
 | none=>rfl
 | some M3=>simp only[h M3.1 M3.2 aU]
theorem Fp{P:Program}{base:Nat}{ops:Array Oper}{T:Nat->List Value}{V:Nat->Value}{aZ:Nat->ab}{Q:Exit->Act->World->Prop}(ak:(ops.all fun R=>R.op.operands.all nq)=true)
  (h:∀(i:Nat) (R:Oper),ops[i]?=some R->tz P base ops R (T i) (aZ i) (V i) (aZ (i+1)))(bc:∀(i:Nat) (R:Oper),ops[i]?=some R->T (i+1)=fa (T i) R.dst (V i)){ir:bg}{d_:World}
  (aD:∀bu b1 a7,cK bu (T ops.size) b1.tmps.toList->b1.defers=[]->cl P base bu (aZ ops.size) a7->Step ir (aZ 0) d_ bu (aZ ops.size) a7->Q .normal b1 a7):∀(m k:Nat),k+m=ops.size->∀(ah:bg) (a:Act) (w:World),cK ah (T k) a.tmps.toList->a.defers=[]->
  cl P base ah (aZ k) w->Step ir (aZ 0) d_ ah (aZ k) w->wpOps P ops Q (List.range' k m) a w
 | 0,k,j0,ah,a,w,ds,hQ,bM,dd=>by
  have:k=ops.size:=by omega
  subst this
  exact aD ah a w ds hQ bM dd
 | m+1,k,j0,ah,a,w,ds,hQ,bM,dd=>by
  have a5:k<ops.size:=by omega
  have aM:ops[k]?=some ops[k]:=Array.getElem?_eq_getElem a5
  have b_:∀x∈ops[k].op.operands,bl ah (fg (T k) x) (a.eval x):=fun x J=>yB ds (by
   have o:=Array.all_eq_true.1 ak k a5
   simpa using Array.all_eq_true'.1 o x J)
  have hw:Region.wanted ops[k] (yielded ops a.tmps)=Region.wanted ops[k] (gX ops (T k)):=Gx fun j _ _=>ae4 ds ops j
  rw[List.range'_succ,wpOps_cons]
  unfold wpOp
  simp only[aM,hw]
  have next:∀bu au a7,bl bu (V k) au->cl P base bu (aZ (k+1)) a7->Step ah (aZ k) w bu (aZ (k+1)) a7->wpOps P ops Q (List.range' (k+1) m) (a.put ops[k].dst au) a7:=fun bu au a7 an hv lZ=>by
   refine Fp ak h bc aD m (k+1) (by omega) bu _ a7 ?_ (by rw[put_defers];exact hQ) hv (dd.trans lZ)
   rw[bc k _ aM]
   exact Zx (ds.ext lZ.ext) _ an
  rcases h k _ aM with⟨o,aa,aB⟩ | ⟨o,aa,aB,bs⟩ | ⟨o,aa,aB⟩
  ·rw[o]
   exact next ah undef w (aa▸bl.undef ah) (aB▸bM) (aB▸Step.refl _ _ _)
  ·rw[o]
   obtain⟨au,al,an⟩:=CY aB b_ w
   refine .inl ?_
   unfold Oper.wp
   rw[al]
   exact next ah au w an (bs▸bM) (bs▸Step.refl _ _ _)
  ·rw[o]
   exact .inl (aB ah w a b_ bM _ _ next)
end Go.cW
end
