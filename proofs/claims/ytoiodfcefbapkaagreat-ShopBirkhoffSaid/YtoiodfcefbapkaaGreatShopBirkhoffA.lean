/- Part of the proof of ShopBirkhoff. -/
import Derived.Test.YtoiodfcefbapkaaGreatRows
import Derived.WalkKit
import Derived.ProofKit
import Derived.OpenShut
import Derived.ShutString
import Derived.ChangeOld
import Derived.Below
import Derived.Deep.Slices
import Derived.Orders
import Derived.Deep.LoopGhost
import Derived.Laws.BytesArg
import Derived.Test.YtoiodfcefbapkaaGreatProg
import Derived.Laws.Strings
import Derived.ChangeArms
set_option linter.unusedVariables false
set_option linter.unusedSimpArgs false
section
namespace Go.cl
theorem bs{α:Type}{l:List α}{i:Nat}(h:i<l.length):l[i]?=some l[i]:=List.getElem?_eq_getElem h
theorem cn{α:Type}{l:List α}{i:Nat}{a:α}:l[i]?=some a↔∃h:i<l.length,l[i]=a:=List.getElem?_eq_some_iff
def dK(P:Program){α:Type}:Sem α->Option α
 | .pure a=>some a
 | .program k=>dK P (k P)
 | .mark _ k=>dK P k
 | _=>none
theorem s0{P:Program}{α:Type}(s:Sem α)(a:α)(h:dK P s=some a)(w:World):s.run P w= .ok a w:=by
 induction s with
 | pure x=>simp[dK]at h;subst h;rfl
 | program k a2=>simp only[dK]at h;simp only[Sem.run];exact a2 P h
 | mark m k a2=>simp only[dK]at h;simp only[Sem.run];exact a2 h
 | _=>simp[dK]at h
def hd:Value->Bool
 | .bool _ | .int _ _ | .string _ | .float _ _ | .pointer none | .slice none 0 0 | .nilFunc | .nilIface | .map none=>true
 | _=>false
def flat(v:Value):Bool:=hd v || match v with
 | .agg cs=>cs.all hd
 | .tuple cs=>cs.all hd
 | .func (.func _) a b=>a.all hd&&b.all hd
 | _=>false
inductive bN where
 | own (e:TypeId) (loose:Bool) (cs:List Value)
 | ro (e:TypeId) (cs:List Value)
 | dead
abbrev ad:=List bN
def bN.cells?:bN->Option (List Value)
 | .own _ _ cs=>some cs
 | .ro _ cs=>some cs
 | .dead=>none
def ie(H:ad)(b:Nat):Prop:=∃e l cs,H[b]?=some (.own e l cs)
def my(H:ad)(b:Nat):Prop:=∃x cs,H[b]?=some x/\x.cells?=some cs
theorem ie.live{H:ad}{b:Nat}(h:ie H b):my H b:=by
 obtain⟨e,l,cs,h⟩:=h
 exact⟨_,cs,h,rfl⟩
structure jo where
 g:Nat
 U:Nat
 N:Nat
 R:Nat
 loose:Bool
abbrev bl:=Nat->Option jo
inductive bo (ak:bl):Value->Value->Prop
 | bool (b:Bool):bo ak (.bool b) (.bool b)
 | int (k:IntKind) (n:Int):bo ak (.int k n) (.int k n)
 | float (k:FloatKind) (n:Nat):bo ak (.float k n) (.float k n)
 | str (s:ByteArray):bo ak (.string s) (.string s)
 | C8:bo ak (.pointer none) (.pointer none)
 | ptr {b i:Nat} {k:jo} (h:ak b=some k):bo ak (.pointer (some ⟨b,i,none⟩)) (.pointer (some ⟨k.g,k.U+i,none⟩))
 | tK (g:Nat):bo ak (.pointer (some ⟨0,g,some 0⟩)) (.pointer (some ⟨g,0,none⟩))
 | sU:bo ak (.slice none 0 0) (.slice none 0 0)
 | void (i:Nat) (a:Addr):bo ak (.slice (some ⟨0,i,none⟩) 0 0) (.slice (some a) 0 0)
 | empty {b i:Nat} (af:b≠0) (a:Addr) (c:Nat):bo ak (.slice (some ⟨b,i,none⟩) 0 0) (.slice (some a) 0 c)
 | slice {b i:Nat} {k:jo} {len cap dM:Nat} (h:ak b=some k) (ag:0<cap) (au:len<=cap) (gy:cap<=dM) (J:k.loose=false->dM=cap)
   (bW:k.loose=true->k.U+i+dM*k.R<=k.N):bo ak (.slice (some ⟨b,i,none⟩) len cap) (.slice (some ⟨k.g,k.U+i,none⟩) len dM)
 | agg {xs bY:Array Value} (au:xs.size=bY.size) (h:∀(i:Nat) (v aw:Value),xs[i]?=some v->bY[i]?=some aw->bo ak v aw):bo ak (.agg xs) (.agg bY)
 | tuple {xs bY:Array Value} (au:xs.size=bY.size) (h:∀(i:Nat) (v aw:Value),xs[i]?=some v->bY[i]?=some aw->bo ak v aw):bo ak (.tuple xs) (.tuple bY)
 | func (fn:Fn) {xs bY xH xI:Array Value} (au:xs.size=bY.size) (h:∀(i:Nat) (v aw:Value),xs[i]?=some v->bY[i]?=some aw->bo ak v aw)
   (dR:xH.size=xI.size) (cq:∀(i:Nat) (v aw:Value),xH[i]?=some v->xI[i]?=some aw->bo ak v aw):bo ak (.func fn xs xH) (.func fn bY xI)
 | nilFunc:bo ak .nilFunc .nilFunc
 | iface (t:TypeId) {v aw:Value} (h:bo ak v aw):bo ak (.iface t v) (.iface t aw)
 | nilIface:bo ak .nilIface .nilIface
 | C7:bo ak (.map none) (.map none)
def fw(ak:bl)(xs bY:Array Value):Prop:=xs.size=bY.size/\∀(i:Nat) (v aw:Value),xs[i]?=some v->bY[i]?=some aw->bo ak v aw
def cX(ak:bl)(xs bY:List Value):Prop:=xs.length=bY.length/\∀(i:Nat) (v aw:Value),xs[i]?=some v->bY[i]?=some aw->bo ak v aw
theorem bo.ext{ak bD:bl}(he:∀b k,ak b=some k->bD b=some k){v aw:Value}(h:bo ak v aw):bo bD v aw:=by
 induction h with
 | bool b=>exact .bool b
 | int k n=>exact .int k n
 | float k n=>exact .float k n
 | str s=>exact .str s
 | C8=>exact .C8
 | ptr h=>exact .ptr (he _ _ h)
 | tK g=>exact .tK g
 | sU=>exact .sU
 | void i a=>exact .void i a
 | empty af a c=>exact .empty af a c
 | slice h ag au gy J bW=>exact .slice (he _ _ h) ag au gy J bW
 | agg au _ a2=>exact .agg au a2
 | tuple au _ a2=>exact .tuple au a2
 | func fn au _ dR _ a2 Y8=>exact .func fn au a2 dR Y8
 | nilFunc=>exact .nilFunc
 | iface t _ a2=>exact .iface t a2
 | nilIface=>exact .nilIface
 | C7=>exact .C7
theorem cX.ext{ak bD:bl}(he:∀b k,ak b=some k->bD b=some k){xs bY:List Value}(h:cX ak xs bY):cX bD xs bY:=⟨h.1,fun i v aw J aP=>(h.2 i v aw J aP).ext he⟩
theorem Bn{ak:bl}{v aw:Value}(aC:hd v=true)(h:bo ak v aw):aw=v:=by
 cases h<;>first | rfl | (simp[hd]at aC;done) | skip
theorem Mh(ak:bl){v:Value}(aC:hd v=true):bo ak v v:=by
 unfold hd at aC
 split at aC<;>first | constructor | (cases aC;done)
theorem fw.flat{ak:bl}{xs bY:Array Value}(aC:xs.all hd=true)(h:fw ak xs bY):bY=xs:=by
 apply Array.ext
 ·exact h.1.symm
 ·intro i jX iU
  have J:hd xs[i]=true:=by
   have:=Array.all_eq_true.1 aC i iU
   simpa using this
  exact Bn J (h.2 i _ _ (Array.getElem?_eq_getElem iU) (Array.getElem?_eq_getElem jX))
theorem fw.Dl(ak:bl){xs:Array Value}(aC:xs.all hd=true):fw ak xs xs:=by
 refine⟨rfl,fun i v aw J aP=>?_⟩
 rw[J]at aP
 obtain rfl:=Option.some.inj aP
 obtain⟨ab,rfl⟩:=Array.getElem?_eq_some_iff.1 J
 exact Mh ak (by simpa using Array.all_eq_true.1 aC i ab)
theorem Mj{ak:bl}{v aw:Value}(aC:flat v=true)(h:bo ak v aw):aw=v:=by
 unfold flat at aC
 cases o:hd v
 ·rw[o]at aC
  simp only[Bool.false_or]at aC
  cases h with
  | agg au h=>exact congrArg Value.agg (fw.flat aC ⟨au,h⟩)
  | tuple au h=>exact congrArg Value.tuple (fw.flat aC ⟨au,h⟩)
  | func fn au h dR cq=>
   cases fn<;>simp only[Bool.and_eq_true,reduceCtorEq]at aC
   rw[fw.flat aC.1 ⟨au,h⟩,fw.flat aC.2 ⟨dR,cq⟩]
  | _=>simp at aC
 ·exact Bn o h
theorem vN(ak:bl){v:Value}(aC:flat v=true):bo ak v v:=by
 unfold flat at aC
 cases o:hd v
 ·rw[o]at aC
  simp only[Bool.false_or]at aC
  split at aC
  ·exact .agg rfl (fw.Dl ak aC).2
  ·exact .tuple rfl (fw.Dl ak aC).2
  ·simp only[Bool.and_eq_true]at aC
   exact .func _ rfl (fw.Dl ak aC.1).2 rfl (fw.Dl ak aC.2).2
  ·cases aC
 ·exact Mh ak o
theorem bo.P7{ak:bl}{v aw:Value}(h:bo ak v aw):aw.oneCell'=v.oneCell':=by cases h<;>rfl
theorem bo.undef(ak:bl):bo ak Go.undef Go.undef:= .tuple rfl fun i v aw h=>by simp at h
theorem bo.cells{ak:bl}{v aw:Value}(h:bo ak v aw):fw ak v.cells aw.cells:=by
 cases h with
 | agg au h=>exact⟨au,h⟩
 | _=>
  refine⟨rfl,fun i x eN J aP=>?_⟩
  obtain⟨ab,rfl⟩:=Array.getElem?_eq_some_iff.1 J
  obtain⟨aN,rfl⟩:=Array.getElem?_eq_some_iff.1 aP
  simp only[Value.cells,List.size_toArray,List.length_cons,List.length_nil]at ab aN
  obtain rfl:i=0:=by omega
  first
   | (simp only[Value.cells];constructor<;>assumption;done)
   | (constructor<;>assumption)
theorem fw.toList{ak:bl}{xs bY:Array Value}(h:fw ak xs bY):cX ak xs.toList bY.toList:=⟨by simpa using h.1,fun i v aw J aP=>h.2 i v aw (by simpa using J) (by simpa using aP)⟩
theorem cX.toArray{ak:bl}{xs bY:List Value}(h:cX ak xs bY):fw ak xs.toArray bY.toArray:=⟨by simpa using h.1,fun i v aw J aP=>h.2 i v aw (by simpa using J) (by simpa using aP)⟩
theorem cX.nil(ak:bl):cX ak [] []:=⟨rfl,fun i v aw h=>by simp at h⟩
theorem cX.cons{ak:bl}{x y:Value}{xs bY:List Value}(h:bo ak x y)(ao:cX ak xs bY):cX ak (x::xs) (y::bY):=by
 refine⟨by simp[ao.1],fun i v aw J aP=>?_⟩
 cases i with
 | zero=>simp at J aP;subst J;subst aP;exact h
 | succ i=>simp at J aP;exact ao.2 i v aw J aP
theorem cX.append{ak:bl}{xs bY xH xI:List Value}(h:cX ak xs bY)(cq:cX ak xH xI):cX ak (xs++xH) (bY++xI):=by
 refine⟨by simp[h.1,cq.1],fun i v aw J aP=>?_⟩
 by_cases ab:i<xs.length
 ·rw[List.getElem?_append_left ab]at J
  rw[List.getElem?_append_left (by rw[<-h.1];exact ab)]at aP
  exact h.2 i v aw J aP
 ·rw[List.getElem?_append_right (by omega)]at J
  rw[List.getElem?_append_right (by rw[<-h.1];omega),<-h.1]at aP
  exact cq.2 _ v aw J aP
theorem cX.take{ak:bl}{xs bY:List Value}(h:cX ak xs bY)(n:Nat):cX ak (xs.take n) (bY.take n):=by
 refine⟨by simp[h.1],fun i v aw J aP=>?_⟩
 rw[List.getElem?_take]at J aP
 split at J
 ·rename_i ab;rw[if_pos ab]at aP;exact h.2 i v aw J aP
 ·cases J
theorem cX.drop{ak:bl}{xs bY:List Value}(h:cX ak xs bY)(n:Nat):cX ak (xs.drop n) (bY.drop n):=by
 refine⟨by simp[h.1],fun i v aw J aP=>?_⟩
 rw[List.getElem?_drop]at J aP
 exact h.2 _ v aw J aP
theorem cX.set{ak:bl}{xs bY:List Value}(h:cX ak xs bY)(n:Nat){x y:Value}(J:bo ak x y):cX ak (xs.set n x) (bY.set n y):=by
 refine⟨by simp[h.1],fun i v aw an dC=>?_⟩
 rw[List.getElem?_set]at an dC
 by_cases aF:n=i
 ·subst aF
  rw[if_pos rfl]at an dC
  rw[<-h.1]at dC
  split at an
  ·rename_i a3;rw[if_pos a3]at dC;cases an;cases dC;exact J
  ·cases an
 ·rw[if_neg aF]at an dC
  exact h.2 i v aw an dC
theorem cX.replicate(ak:bl)(n:Nat):cX ak (List.replicate n undef) (List.replicate n undef):=by
 refine⟨rfl,fun i v aw J aP=>?_⟩
 rw[List.getElem?_replicate]at J aP
 split at J
 ·rename_i h;rw[if_pos h]at aP;cases J;cases aP;exact bo.undef ak
 ·cases J
theorem cX.get{ak:bl}{xs bY:List Value}(h:cX ak xs bY){i:Nat}{v:Value}(J:xs[i]?=some v):∃aw,bY[i]?=some aw/\bo ak v aw:=by
 obtain⟨ab,rfl⟩:=cn.1 J
 have aN:i<bY.length:=by rw[<-h.1];exact ab
 exact⟨bY[i],bs aN,h.2 i _ _ (bs ab) (bs aN)⟩
theorem fw.get{ak:bl}{xs bY:Array Value}(h:fw ak xs bY){i:Nat}{v:Value}(J:xs[i]?=some v):∃aw,bY[i]?=some aw/\bo ak v aw:=by
 obtain⟨aw,o,aa⟩:=h.toList.get (i:=i) (v:=v) (by simpa using J)
 exact⟨aw,by simpa using o,aa⟩
theorem cX.getD{ak:bl}{xs bY:List Value}(h:cX ak xs bY)(i:Nat):bo ak (xs.getD i undef) (bY.getD i undef):=by
 by_cases ab:i<xs.length
 ·obtain⟨aw,o,aa⟩:=h.get (bs ab)
  simp only[List.getD_eq_getElem?_getD,o,bs ab,Option.getD_some]
  exact aa
 ·simp only[List.getD_eq_getElem?_getD]
  rw[List.getElem?_eq_none (by omega),List.getElem?_eq_none (by rw[<-h.1];omega)]
  exact bo.undef ak
def m8(eu:Nat×Nat)(N:Nat):Prop:=∀j,j<N->¬(eu.1<=j/\j<eu.2)
inductive lM (P:Program) (base:Nat) (ak:bl) (w:World) (k:jo):bN->Prop
 | own {e:TypeId} {l:Bool} {cs:List Value} {cur:Array Value} {eu:Nat×Nat} {inf:TypeInfo} (af:base<=k.g) (au:k.loose=l) (ab:P.info? e=some inf) (ao:inf.size=k.R)
   (a1:w.heap[k.g]?=some (.cells cur e eu)) (bW:cur.size=k.N) (aC:m8 eu k.N) (bF:k.U+cs.length<=k.N)
   (an:∀(i:Nat) (v:Value),cs[i]?=some v->∃aw,cur[k.U+i]?=some aw/\bo ak v aw):lM P base ak w k (.own e l cs)
 | ro {e:TypeId} {cs:List Value} {inf:TypeInfo} (ab:P.info? e=some inf) (ao:inf.size=k.R) (an:∀(i:Nat) (v:Value),cs[i]?=some v->∃aw,w.cell? ⟨k.g,k.U+i,none⟩=some aw/\bo ak v aw) (df:k.g<w.heap.size):lM P base ak w k (.ro e cs)
 | dead:lM P base ak w k .dead
structure cC (P:Program) (base:Nat) (ak:bl) (H:ad) (w:World):Prop where
 pos:0<H.length
 size:base<=w.heap.size
 e2:∀b k,ak b=some k->0<b/\b<H.length
 fm:∀b k x,ak b=some k->H[b]?=some x->lM P base ak w k x
 inj:∀b cg k b1,ak b=some k->ak cg=some b1->b≠cg->ie H b->my H cg->k.g≠b1.g
structure Step (ak:bl) (H:ad) (w:World) (bD:bl) (H1:ad) (a9:World):Prop where
 ext:∀b k,ak b=some k->bD b=some k
 new:∀b k,bD b=some k->ak b=some k\/H.length<=b
 len:H.length<=H1.length
 own:∀b k,bD b=some k->ie H1 b->w.heap.size<=k.g\/∃hU gP,ak hU=some gP/\ie H hU/\gP.g=k.g
 os:a9.os=w.os
 tape:a9.tape=w.tape
 output:a9.output=w.output
 size:w.heap.size<=a9.heap.size
 frame:∀g,g<w.heap.size->(∀b k,ak b=some k->ie H b->k.g≠g)->a9.heap[g]?=w.heap[g]?
theorem Step.refl(ak:bl)(H:ad)(w:World):Step ak H w ak H w:=
 ⟨fun _ _ h=>h,fun _ _ h=> .inl h,Nat.le_refl _,fun b k h aW=> .inr ⟨b,k,h,aW,rfl⟩,rfl,rfl,rfl,Nat.le_refl _,fun _ _ _=>rfl⟩
theorem Step.trans{ak bD nG:bl}{H H1 aT:ad}{w a9 iN:World}(h:Step ak H w bD H1 a9)(cq:Step bD H1 a9 nG aT iN):Step ak H w nG aT iN where
 ext b k af:=cq.ext b k (h.ext b k af)
 new b k af:=by
  rcases cq.new b k af with o | o
  ·exact h.new b k o
  ·exact .inr (Nat.le_trans h.len o)
 len:=Nat.le_trans h.len cq.len
 own b k af aW:=by
  rcases cq.own b k af aW with o | ⟨hU,gP,o,aa,aE⟩
  ·exact .inl (Nat.le_trans h.size o)
  ·rcases h.own hU gP o aa with bA | ⟨gT,j2,bA,bQ,dY⟩
   ·exact .inl (by omega)
   ·exact .inr ⟨gT,j2,bA,bQ,by omega⟩
 os:=cq.os.trans h.os
 tape:=cq.tape.trans h.tape
 output:=cq.output.trans h.output
 size:=Nat.le_trans h.size cq.size
 frame g a1 c2:=by
  rw[cq.frame g (Nat.lt_of_lt_of_le a1 h.size) ?_,h.frame g a1 c2]
  intro b k af aW e
  rcases h.own b k af aW with o | ⟨hU,gP,o,aa,aE⟩
  ·omega
  ·exact c2 hU gP o aa (by omega)
theorem Ey{w a9:World}{a:Addr}(h:a9.heap[a.block]?=w.heap[a.block]?):a9.cell? a=w.cell? a:=by simp[World.cell?,h]
theorem lM.gY{P:Program}{base:Nat}{ak bD:bl}{w a9:World}{k:jo}{x:bN}(h:lM P base ak w k x)(he:∀b k,ak b=some k->bD b=some k)
  (hw:x.cells?≠none->a9.heap[k.g]?=w.heap[k.g]?)(zo:w.heap.size<=a9.heap.size):lM P base bD a9 k x:=by
 cases h with
 | own af au ab ao a1 bW aC bF an=>
  exact .own af au ab ao (by rw[hw (by simp[bN.cells?])];exact a1) bW aC bF fun i v ab=>let⟨aw,o,aa⟩:=an i v ab;⟨aw,o,aa.ext he⟩
 | ro ab ao an df=>
  refine .ro ab ao (fun i v ab=>?_) (Nat.lt_of_lt_of_le df zo)
  obtain⟨aw,o,aa⟩:=an i v ab
  exact⟨aw,by rw[Ey (w:=w) (by exact hw (by simp[bN.cells?]))];exact o,aa.ext he⟩
 | dead=>exact .dead
theorem lM.lt{P:Program}{base:Nat}{ak:bl}{w:World}{k:jo}{x:bN}(h:lM P base ak w k x)(J:x.cells?≠none):k.g<w.heap.size:=by
 cases h with
 | own af au ab ao a1 bW aC bF an=>exact(Array.getElem?_eq_some_iff.1 a1).1
 | ro ab ao an df=>exact df
 | dead=>simp[bN.cells?]at J
theorem cC.heap{P:Program}{base:Nat}{ak:bl}{H:ad}{w a9:World}(h:cC P base ak H w)(db:a9.heap=w.heap):cC P base ak H a9:=
 ⟨h.pos,by rw[db];exact h.size,h.e2,fun b k x af J=>(h.fm b k x af J).gY (fun _ _ h=>h) (fun _=>by rw[db]) (by rw[db];exact Nat.le_refl _),h.inj⟩
theorem Step.drawn(ak:bl)(H:ad)(w:World)(n:Nat):Step ak H w ak H {w with drawn:=n}:=
 ⟨fun _ _ h=>h,fun _ _ h=> .inl h,Nat.le_refl _,fun b k h aW=> .inr ⟨b,k,h,aW,rfl⟩,rfl,rfl,rfl,Nat.le_refl _,fun _ _ _=>rfl⟩
def bl.put(ak:bl)(b:Nat)(k:jo):bl:=fun c=>if c=b then some k else ak c
theorem bl.oh(ak:bl)(b:Nat)(k:jo):ak.put b k b=some k:=by simp[bl.put]
theorem bl.mn(ak:bl){b c:Nat}(k:jo)(h:c≠b):ak.put b k c=ak c:=by simp[bl.put,h]
theorem cC.L9{P:Program}{base:Nat}{ak:bl}{H:ad}{w:World}(h:cC P base ak H w)(k:jo):∀b b1,ak b=some b1->ak.put H.length k b=some b1:=fun b b1 af=>by
 rw[bl.mn _ _ (by have:=(h.e2 b b1 af).2;omega)];exact af
theorem yh{H:ad}{x:bN}{b:Nat}(h:b<H.length):(H++[x])[b]?=H[b]?:=List.getElem?_append_left h
theorem Mo(H:ad)(x:bN):(H++[x])[H.length]?=some x:=by simp
theorem CS{H:ad}{x:bN}{b:Nat}(h:ie (H++[x]) b)(af:b≠H.length):ie H b:=by
 obtain⟨e,l,cs,h⟩:=h
 have a3:b<(H++[x]).length:=(cn.1 h).1
 simp at a3
 exact⟨e,l,cs,by rwa[yh (by omega)]at h⟩
theorem Hn{H:ad}{x:bN}{b:Nat}(h:my (H++[x]) b)(af:b≠H.length):my H b:=by
 obtain⟨y,cs,h,ag⟩:=h
 have a3:b<(H++[x]).length:=(cn.1 h).1
 simp at a3
 exact⟨y,cs,by rwa[yh (by omega)]at h,ag⟩
theorem cC.alloc{P:Program}{base:Nat}{ak:bl}{H:ad}{w:World}(h:cC P base ak H w){e:TypeId}{l:Bool}{cs:List Value}{cur:Array Value}{eu:Nat×Nat}{inf:TypeInfo}{R:Nat}
  (ab:P.info? e=some inf)(ao:inf.size=R)(aC:m8 eu cur.size)(bF:cs.length<=cur.size)(an:∀(i:Nat) (v:Value),cs[i]?=some v->∃aw,cur[i]?=some aw/\bo ak v aw):
  cC P base (ak.put H.length ⟨w.heap.size,0,cur.size,R,l⟩) (H++[.own e l cs]) (w.alloc (.cells cur e eu))/\Step ak H w (ak.put H.length ⟨w.heap.size,0,cur.size,R,l⟩) (H++[.own e l cs]) (w.alloc (.cells cur e eu)):=by
 have hold:∀g,g<w.heap.size->(w.alloc (.cells cur e eu)).heap[g]?=w.heap[g]?:=fun g a1=>heap_alloc_old w _ a1
 have he:=h.L9 ⟨w.heap.size,0,cur.size,R,l⟩
 constructor
 ·refine⟨by simp,by simp;have:=h.size;omega,fun b k af=>?_,fun b k x af J=>?_,fun b cg k b1 af cZ c2 aW dR=>?_⟩
  ·by_cases gx:b=H.length
   ·subst gx;exact⟨h.pos,by simp⟩
   ·rw[bl.mn _ _ gx]at af;have:=h.e2 b k af;simp;omega
  ·by_cases gx:b=H.length
   ·subst gx
    rw[bl.oh]at af
    obtain rfl:=Option.some.inj af
    rw[Mo]at J
    obtain rfl:=Option.some.inj J
    exact .own h.size rfl ab ao (heap_alloc_new w _) rfl aC (by simpa using bF) fun i v ag=>let⟨aw,o,aa⟩:=an i v ag;⟨aw,by simpa using o,aa.ext he⟩
   ·rw[bl.mn _ _ gx]at af
    rw[yh (h.e2 b k af).2]at J
    exact(h.fm b k x af J).gY he (fun zL=>hold _ ((h.fm b k x af J).lt zL)) (by simp)
  ·by_cases gx:b=H.length
   ·subst gx
    rw[bl.oh]at af
    obtain rfl:=Option.some.inj af
    have wv:cg≠H.length:=fun e=>c2 e.symm
    rw[bl.mn _ _ wv]at cZ
    obtain⟨y,fg,aP,ag⟩:=Hn dR wv
    have:=(h.fm cg b1 y cZ aP).lt (by rw[ag];simp)
    simp only;omega
   ·rw[bl.mn _ _ gx]at af
    have fN:=CS aW gx
    by_cases wv:cg=H.length
    ·subst wv
     rw[bl.oh]at cZ
     obtain rfl:=Option.some.inj cZ
     obtain⟨hV,Pt,jg,aP⟩:=fN
     have:=(h.fm b k _ af aP).lt (by simp[bN.cells?])
     simp only;omega
    ·rw[bl.mn _ _ wv]at cZ
     exact h.inj b cg k b1 af cZ c2 fN (Hn dR wv)
 ·refine⟨he,fun b k af=>?_,by simp,fun b k af aW=>?_,rfl,rfl,rfl,by simp,fun g a1 _=>hold g a1⟩
  ·by_cases gx:b=H.length
   ·exact .inr (by omega)
   ·rw[bl.mn _ _ gx]at af;exact .inl af
  ·by_cases gx:b=H.length
   ·subst gx;rw[bl.oh]at af;obtain rfl:=Option.some.inj af;exact .inl (Nat.le_refl _)
   ·rw[bl.mn _ _ gx]at af;exact .inr ⟨b,k,af,CS aW gx,rfl⟩
def i_(w:World)(g:Nat)(x:Obj):World:={w with heap:=w.heap.setIfInBounds g x}
theorem HP(w:World)(g:Nat)(x:Obj)(h:g<w.heap.size):(i_ w g x).heap[g]?=some x:=by simp[i_,h]
theorem Dg(w:World)(g i:Nat)(x:Obj)(h:i≠g):(i_ w g x).heap[i]?=w.heap[i]?:=by simp[i_,Array.getElem?_setIfInBounds_ne (Ne.symm h)]
theorem Dh(w:World)(g:Nat)(x:Obj):(i_ w g x).heap.size=w.heap.size:=by simp[i_]
theorem zQ{H:ad}{b c:Nat}{x:bN}(h:ie (H.set b x) c)(J:ie H b):ie H c:=by
 by_cases ag:b=c
 ·subst ag;exact J
 ·obtain⟨e,l,cs,h⟩:=h
  exact⟨e,l,cs,by rwa[List.getElem?_set_ne ag]at h⟩
theorem Ho{H:ad}{b c:Nat}{x:bN}(h:my (H.set b x) c)(J:ie H b):my H c:=by
 by_cases ag:b=c
 ·subst ag;exact J.live
 ·obtain⟨y,cs,h,db⟩:=h
  exact⟨y,cs,by rwa[List.getElem?_set_ne ag]at h,db⟩
theorem cC.put{P:Program}{base:Nat}{ak:bl}{H:ad}{w:World}(h:cC P base ak H w){b:Nat}{k:jo}{e:TypeId}{l:Bool}{cs eQ:List Value}{mA:Array Value}{eu:Nat×Nat}
  (af:ak b=some k)(J:H[b]?=some (.own e l cs))(p3:∃cur,w.heap[k.g]?=some (.cells cur e eu)/\mA.size=cur.size)(hlen:eQ.length=cs.length)
  (an:∀(i:Nat) (v:Value),eQ[i]?=some v->∃aw,mA[k.U+i]?=some aw/\bo ak v aw):
  cC P base ak (H.set b (.own e l eQ)) (i_ w k.g (.cells mA e eu))/\Step ak H w ak (H.set b (.own e l eQ)) (i_ w k.g (.cells mA e eu)):=by
 obtain⟨cur,p3,df⟩:=p3
 have kH:ie H b:=⟨e,l,cs,J⟩
 have a3:k.g<w.heap.size:=(Array.getElem?_eq_some_iff.1 p3).1
 have cZ:b<H.length:=(h.e2 b k af).2
 constructor
 ·refine⟨by simpa using h.pos,by rw[Dh];exact h.size,fun c dc ag=>by simpa using h.e2 c dc ag,fun c dc x ag iZ=>?_,fun c dA dc w3 ag hh c2 aW dR=>h.inj c dA dc w3 ag hh c2 (zQ aW kH) (Ho dR kH)⟩
  by_cases kk:b=c
  ·subst kk
   rw[af]at ag
   obtain rfl:=Option.some.inj ag
   rw[List.getElem?_set_self cZ]at iZ
   obtain rfl:=Option.some.inj iZ
   cases h.fm b k _ af J with
   | own ua au ab ao a1 bW aC bF GP=>
    rw[p3]at a1
    injection a1 with a1
    injection a1 with nj y3 q3
    subst nj;subst q3
    exact .own ua au ab ao (HP w _ _ a3) (by omega) aC (by omega) an
  ·rw[List.getElem?_set_ne kk]at iZ
   have o2:=h.fm c dc x ag iZ
   refine o2.gY (fun _ _ h=>h) (fun zL=>Dg w _ _ _ ?_) (by rw[Dh];exact Nat.le_refl _)
   obtain⟨oM,yV⟩:∃oM,x.cells?=some oM:=by cases aq:x.cells? with | none=>exact absurd aq zL | some q=>exact⟨q,rfl⟩
   exact fun e=>h.inj b c k dc af ag kk kH ⟨x,oM,iZ,yV⟩ e.symm
 ·refine⟨fun _ _ h=>h,fun _ _ h=> .inl h,by simp,fun c dc ag aW=> .inr ⟨c,dc,ag,zQ aW kH,rfl⟩,rfl,rfl,rfl,by rw[Dh];exact Nat.le_refl _,fun g a1 c2=>?_⟩
  exact Dg w _ _ _ fun e=>c2 b k af kH e.symm
theorem cC.kill{P:Program}{base:Nat}{ak:bl}{H:ad}{w:World}(h:cC P base ak H w)(b:Nat)(kH:ie H b):cC P base ak (H.set b .dead) w/\Step ak H w ak (H.set b .dead) w:=by
 have cZ:b<H.length:=by obtain⟨e,l,cs,J⟩:=kH;exact(cn.1 J).1
 constructor
 ·refine⟨by simpa using h.pos,h.size,fun c dc ag=>by simpa using h.e2 c dc ag,fun c dc x ag iZ=>?_,fun c dA dc w3 ag hh c2 aW dR=>h.inj c dA dc w3 ag hh c2 (zQ aW kH) (Ho dR kH)⟩
  by_cases kk:b=c
  ·subst kk
   rw[List.getElem?_set_self cZ]at iZ
   obtain rfl:=Option.some.inj iZ
   exact .dead
  ·rw[List.getElem?_set_ne kk]at iZ
   exact h.fm c dc x ag iZ
 ·exact⟨fun _ _ h=>h,fun _ _ h=> .inl h,by simp,fun c dc ag aW=> .inr ⟨c,dc,ag,zQ aW kH,rfl⟩,rfl,rfl,rfl,Nat.le_refl _,fun _ _ _=>rfl⟩
theorem cC.Hz{P:Program}{base:Nat}{ak:bl}{H:ad}{w:World}(h:cC P base ak H w){b i:Nat}{k:jo}{e:TypeId}{l da:Bool}{cs eQ:List Value}{mA:Array Value}{eu:Nat×Nat}
  (af:ak b=some k)(J:H[b]?=some (.own e l cs))(p3:∃cur,w.heap[k.g]?=some (.cells cur e eu)/\mA.size=cur.size)(bF:k.U+i+eQ.length<=mA.size)
  (an:∀(j:Nat) (v:Value),eQ[j]?=some v->∃aw,mA[k.U+i+j]?=some aw/\bo ak v aw):
  cC P base (ak.put H.length ⟨k.g,k.U+i,k.N,k.R,da⟩) (H.set b .dead++[.own e da eQ]) (i_ w k.g (.cells mA e eu))/\
  Step ak H w (ak.put H.length ⟨k.g,k.U+i,k.N,k.R,da⟩) (H.set b .dead++[.own e da eQ]) (i_ w k.g (.cells mA e eu)):=by
 obtain⟨cur,p3,df⟩:=p3
 have kH:ie H b:=⟨e,l,cs,J⟩
 have a3:k.g<w.heap.size:=(Array.getElem?_eq_some_iff.1 p3).1
 have cZ:b<H.length:=(h.e2 b k af).2
 have he:=h.L9 ⟨k.g,k.U+i,k.N,k.R,da⟩
 have hlen:(H.set b .dead).length=H.length:=by simp
 have FX:∀{c},c≠H.length->my (H.set b .dead++[.own e da eQ]) c->c≠b/\my H c:=by
  intro c ag au
  have o:=Hn au (by rw[hlen];exact ag)
  refine⟨fun e=>?_,Ho o kH⟩
  subst e
  obtain⟨y,fg,aP,Np⟩:=o
  rw[List.getElem?_set_self cZ]at aP
  obtain rfl:=Option.some.inj aP
  simp[bN.cells?]at Np
 have zo:(i_ w k.g (.cells mA e eu)).heap.size=w.heap.size:=Dh ..
 have B1:∀c dc x,ak c=some dc->H[c]?=some x->c≠b->lM P base (ak.put H.length ⟨k.g,k.U+i,k.N,k.R,da⟩) (i_ w k.g (.cells mA e eu)) dc x:=by
  intro c dc x ag iZ kk
  have o2:=h.fm c dc x ag iZ
  refine o2.gY he (fun zL=>Dg w _ _ _ ?_) (by rw[zo];exact Nat.le_refl _)
  obtain⟨oM,yV⟩:∃oM,x.cells?=some oM:=by cases aq:x.cells? with | none=>exact absurd aq zL | some q=>exact⟨q,rfl⟩
  exact fun e=>h.inj b c k dc af ag (Ne.symm kk) kH ⟨x,oM,iZ,yV⟩ e.symm
 constructor
 ·refine⟨by simp,by rw[zo];exact h.size,fun c dc ag=>?_,fun c dc x ag iZ=>?_,fun c dA dc w3 ag hh c2 aW dR=>?_⟩
  ·by_cases gn:c=H.length
   ·subst gn;exact⟨h.pos,by simp⟩
   ·rw[bl.mn _ _ gn]at ag;have:=h.e2 c dc ag;simp;omega
  ·by_cases gn:c=H.length
   ·subst gn
    rw[bl.oh]at ag
    obtain rfl:=Option.some.inj ag
    rw[<-hlen,Mo]at iZ
    obtain rfl:=Option.some.inj iZ
    cases h.fm b k _ af J with
    | own ua au ab ao a1 bW aC F1 GP=>
     rw[p3]at a1
     injection a1 with a1
     injection a1 with nj y3 q3
     subst nj;subst q3
     exact .own ua rfl ab ao (HP w _ _ a3) (by simp only;omega) aC (by simp only;omega) fun j v aN=>let⟨aw,o,aa⟩:=an j v aN;⟨aw,o,aa.ext he⟩
   ·rw[bl.mn _ _ gn]at ag
    rw[yh (by rw[hlen];exact(h.e2 c dc ag).2)]at iZ
    by_cases kk:b=c
    ·subst kk
     rw[List.getElem?_set_self cZ]at iZ
     obtain rfl:=Option.some.inj iZ
     exact .dead
    ·rw[List.getElem?_set_ne kk]at iZ
     exact B1 c dc x ag iZ (Ne.symm kk)
  ·by_cases gn:c=H.length
   ·subst gn
    rw[bl.oh]at ag
    obtain rfl:=Option.some.inj ag
    have wz:dA≠H.length:=fun e=>c2 e.symm
    rw[bl.mn _ _ wz]at hh
    obtain⟨o,aa⟩:=FX wz dR
    exact h.inj b dA k w3 af hh (Ne.symm o) kH aa
   ·rw[bl.mn _ _ gn]at ag
    obtain⟨o,aa⟩:=FX gn aW.live
    have sD:=CS aW (by rw[hlen];exact gn)
    have N8:ie H c:=by
     obtain⟨hV,Pt,jg,aP⟩:=sD
     exact⟨hV,Pt,jg,by rwa[List.getElem?_set_ne (Ne.symm o)]at aP⟩
    by_cases wz:dA=H.length
    ·subst wz
     rw[bl.oh]at hh
     obtain rfl:=Option.some.inj hh
     exact h.inj c b dc k ag af o N8 kH.live
    ·rw[bl.mn _ _ wz]at hh
     exact h.inj c dA dc w3 ag hh c2 N8 (FX wz dR).2
 ·refine⟨he,fun c dc ag=>?_,by simp,fun c dc ag aW=>?_,rfl,rfl,rfl,by rw[zo];exact Nat.le_refl _,fun g a1 c2=>Dg w _ _ _ fun e=>c2 b k af kH e.symm⟩
  ·by_cases gn:c=H.length
   ·exact .inr (by omega)
   ·rw[bl.mn _ _ gn]at ag;exact .inl ag
  ·by_cases gn:c=H.length
   ·subst gn;rw[bl.oh]at ag;obtain rfl:=Option.some.inj ag;exact .inr ⟨b,k,af,kH,rfl⟩
   ·rw[bl.mn _ _ gn]at ag
    exact .inr ⟨c,dc,ag,zQ (CS aW (by rw[hlen];exact gn)) kH,rfl⟩
theorem fX{P:Program}{α β:Type}(x:Sem α)(f:α->Sem β):dK P (x>>=f)=(dK P x).bind fun a=>dK P (f a):=by
 show dK P (x.bind f)=_
 induction x with
 | pure a=>rfl
 | program k a2=>simp only[Sem.bind,dK];exact a2 P
 | mark m k a2=>simp only[Sem.bind,dK];exact a2
 | _=>simp[Sem.bind,dK]
theorem fr{P:Program}{α:Type}(a:α):dK P (pure a:Sem α)=some a:=rfl
def bu(P:Program)(t:TypeId):Option Nat:=(P.info? t).map (·.size)
def dL(P:Program)(t:TypeId):Option Value:=(P.info? t).bind (·.zero)
def bytes?(P:Program)(t:TypeId):Option Nat:=(P.info? t).map (·.bytes)
theorem pz{P:Program}(t:TypeId):dK P (underlying t)=P.underlying t:=by
 unfold underlying
 rw[fX]
 show(some P).bind _=_
 simp only[Option.bind_some]
 cases h:P.underlying t<;>rfl
theorem Qo{P:Program}(t:TypeId):dK P (typeInfo t)=P.info? t:=by
 unfold typeInfo
 rw[fX]
 show(some P).bind _=_
 simp only[Option.bind_some]
 cases h:P.info? t<;>rfl
theorem z8{P:Program}(t:TypeId):dK P (sizeOf t)=bu P t:=by
 unfold sizeOf
 rw[fX,Qo]
 cases h:P.info? t<;>simp[bu,h,fr]
theorem HO{P:Program}(t:TypeId):dK P (zeroValue t)=dL P t:=by
 unfold zeroValue
 rw[fX,Qo]
 cases h:P.info? t with
 | none=>simp[dL,h]
 | some i=>cases aQ:i.zero<;>simp[dL,h,aQ]<;>rfl
theorem Qm{P:Program}(t:TypeId):dK P (isAgg t)=(P.underlying t).map fun d=>match d with | .struct _ | .array _ _=>true | _=>false:=by
 unfold isAgg
 rw[fX,pz]
 cases h:P.underlying t with
 | none=>rfl
 | some d=>cases d<;>rfl
theorem ld{P:Program}{t:TypeId}{n:Nat}(h:bu P t=some n)(w:World):(sizeOf t).run P w= .ok n w:=s0 _ _ (by rw[z8];exact h) w
theorem Dp{P:Program}{t:TypeId}{z:Value}(h:dL P t=some z)(w:World):(zeroValue t).run P w= .ok z w:=s0 _ _ (by rw[HO];exact h) w
theorem fw.set{ak:bl}{xs bY:Array Value}(h:fw ak xs bY)(n:Nat){x y:Value}(J:bo ak x y):fw ak (xs.setIfInBounds n x) (bY.setIfInBounds n y):=by
 have:=(h.toList.set n J).toArray
 rw[show xs.setIfInBounds n x=(xs.toList.set n x).toArray from by apply Array.ext';simp,show bY.setIfInBounds n y=(bY.toList.set n y).toArray from by apply Array.ext';simp]
 exact this
theorem Ml{ak:bl}(off:Nat):∀(l da:List Value) (j:Nat) (cs eQ:Array Value),cX ak l da->fw ak cs eQ->
  fw ak ((l.zipIdx j).foldl (fun cs (r1:Value×Nat)=>cs.setIfInBounds (off+r1.2) r1.1) cs) ((da.zipIdx j).foldl (fun cs (r1:Value×Nat)=>cs.setIfInBounds (off+r1.2) r1.1) eQ)
 | [],[],_,_,_,_,h=>h
 | [],_::_,_,_,_,au,_=>by simp[cX]at au
 | _::_,[],_,_,_,au,_=>by simp[cX]at au
 | x::l,y::da,j,cs,eQ,au,h=>by
  simp only[List.zipIdx_cons,List.foldl_cons]
  refine Ml off l da (j+1) _ _ ⟨by simpa using au.1,fun i v aw an dC=>au.2 (i+1) v aw (by simpa using an) (by simpa using dC)⟩ (h.set _ ?_)
  exact au.2 0 x y rfl rfl
theorem Bm{ak:bl}{aS cO:Operand->Value}(place:Nat->Option (Nat×Nat)):∀(aM:List (Nat×Operand)) (cs eQ out:Array Value),(∀p∈aM,bo ak (aS p.2) (cO p.2))->fw ak cs eQ->
  Instr.fill place cs (aM.map fun p=>(p.1,aS p.2))=some out->∃hE,Instr.fill place eQ (aM.map fun p=>(p.1,cO p.2))=some hE/\fw ak out hE
 | [],cs,eQ,out,_,h,aC=>by
  simp[Instr.fill]at aC
  subst aC
  exact⟨eQ,rfl,h⟩
 | (i,x)::aM,cs,eQ,out,aK,h,aC=>by
  simp only[List.map_cons,Instr.fill]at aC⊢
  cases h3:place i with
  | none=>simp[h3]at aC
  | some os=>
   obtain⟨off,size⟩:=os
   simp only[h3]at aC⊢
   have an:=(aK (i,x) (List.mem_cons_self)).cells
   by_cases ag:((aS x).cells.size≠size || decide (off+(aS x).cells.size>cs.size))=true
   ·rw[if_pos ag]at aC;cases aC
   ·rw[if_neg ag]at aC
    rw[if_neg (by rw[<-an.1,<-h.1];exact ag)]
    refine Bm place aM _ _ out (fun p hm=>aK p (List.mem_cons_of_mem _ hm)) ?_ aC
    have:=Ml off (aS x).cells.toList (cO x).cells.toList 0 cs eQ an.toList h
    rw[<-Array.foldl_toList,<-Array.foldl_toList,Array.toList_zipIdx,Array.toList_zipIdx]
    exact this
theorem D1{ak:bl}{z:Value}(aQ:flat z=true):fw ak z.cells z.cells:=(vN ak aQ).cells
theorem SN{P:Program}{ak:bl}{aS cO:Operand->Value}{t:TypeId}{aM:Array (Nat×Operand)}{z v:Value}(aQ:dL P t=some z)(eb:flat z=true)(aK:∀p∈aM,bo ak (aS p.2) (cO p.2))
  (h:dK P (Instr.build t (aM.map fun p=>(p.1,aS p.2)))=some v):∃aw,dK P (Instr.build t (aM.map fun p=>(p.1,cO p.2)))=some aw/\bo ak v aw:=by
 have sE:∀p∈aM.toList,bo ak (aS p.2) (cO p.2):=fun p hm=>aK p (by simpa using hm)
 have au:∀r:Operand->Value,(aM.map fun p=>(p.1,r p.2)).toList=aM.toList.map fun p=>(p.1,r p.2):=fun r=>by simp
 unfold Instr.build at h⊢
 simp only[fX,HO,aQ,Option.bind_some,pz]at h⊢
 cases hu:P.underlying t with
 | none=>simp[hu]at h
 | some d=>
  simp only[hu,Option.bind_some]at h⊢
  cases d with
  | struct fields=>
   simp only[fX]at h⊢
   cases hm:dK P (fields.mapM fun f=>do pure (f.offset,<-sizeOf f.type))with
   | none=>rw[hm]at h;simp at h
   | some mm=>
    rw[hm]at h
    simp only[Option.bind_some,au]at h⊢
    cases aC:Instr.fill (fun x=>mm[x]?) z.cells (aM.toList.map fun p=>(p.1,aS p.2))with
    | none=>rw[aC]at h;simp[dK,stuck]at h
    | some out=>
     rw[aC]at h
     obtain⟨hE,o,aa⟩:=Bm (cO:=cO) _ aM.toList _ _ out sE (D1 eb) aC
     rw[o]
     simp only[fr,Option.some.injEq]at h⊢
     subst h
     exact⟨_,rfl,.agg aa.1 aa.2⟩
  | array n elem=>
   simp only[fX,z8]at h⊢
   cases ao:bu P elem with
   | none=>rw[ao]at h;simp at h
   | some size=>
    rw[ao]at h
    simp only[Option.bind_some,au]at h⊢
    cases aC:Instr.fill (fun i=>some (i*size,size)) z.cells (aM.toList.map fun p=>(p.1,aS p.2))with
    | none=>rw[aC]at h;simp[dK,stuck]at h
    | some out=>
     rw[aC]at h
     obtain⟨hE,o,aa⟩:=Bm (cO:=cO) _ aM.toList _ _ out sE (D1 eb) aC
     rw[o]
     simp only[fr,Option.some.injEq]at h⊢
     subst h
     exact⟨_,rfl,.agg aa.1 aa.2⟩
  | _=>simp[dK,stuck]at h
theorem fw.extract{ak:bl}{xs bY:Array Value}(h:fw ak xs bY)(i j:Nat):fw ak (xs.extract i j) (bY.extract i j):=by
 have:=((h.toList.take j).drop i).toArray
 rw[show xs.extract i j=((xs.toList.take j).drop i).toArray from by apply Array.ext';simp[Array.toList_extract,List.drop_take],show bY.extract i j=((bY.toList.take j).drop i).toArray from by apply Array.ext';simp[Array.toList_extract,List.drop_take]]
 exact this
theorem Qb{P:Program}{ak:bl}{t:TypeId}{xs bY:Array Value}{off:Nat}{v:Value}(J:fw ak xs bY)(h:dK P (part t xs off)=some v):∃aw,dK P (part t bY off)=some aw/\bo ak v aw:=by
 unfold part at h⊢
 simp only[fX]at h⊢
 cases aL:dK P (isAgg t)with
 | none=>rw[aL]at h;simp at h
 | some b=>
  rw[aL]at h
  simp only[Option.bind_some]at h⊢
  cases b
  ·simp only[Bool.false_eq_true,if_false]at h⊢
   cases ag:xs[off]? with
   | none=>simp[ag,dK,stuck]at h
   | some c=>
    simp only[ag,fr,Option.some.injEq]at h
    subst h
    obtain⟨aw,o,aa⟩:=J.get ag
    simp only[o,fr]
    exact⟨_,rfl,aa⟩
  ·simp only[if_true,fX,z8]at h⊢
   cases ao:bu P t with
   | none=>rw[ao]at h;simp at h
   | some n=>
    rw[ao]at h
    simp only[Option.bind_some,fr,Option.some.injEq]at h⊢
    subst h
    exact⟨_,rfl,.agg (J.extract _ _).1 (J.extract _ _).2⟩
def sR(P:Program)(t:TypeId):Bool:=match P.underlying t with
 | some (.int _)=>true
 | _=>false
def bZ(P:Program)(U:Oper):Bool:=
 match U.op with
 | .move _ | .assign _ | .pick .. | .build .. | .nilCheck _ | .fieldAddr .. | .field .. | .indexAddr .. | .index .. | .extract .. | .makeFunc .. | .makeInterface .. | .binOp .. | .unOp .. =>true
 | .call {callee:= .builtin .len,.. } | .call {callee:= .builtin .max,.. } | .call {callee:= .builtin .min,.. }=>true
 | .convert s t _=>sR P s&&sR P t
 | _=>false
inductive ic (P:Program) (aS:Operand->Value) (U:Oper):Value->Prop
 | move {x:Operand} (h:U.op= .move x):ic P aS U (aS x)
 | assign {x:Operand} (h:U.op= .assign x):ic P aS U (aS x)
 | pick {c a b:Operand} {t:Bool} (h:U.op= .pick c a b) (ag:aS c= .bool t):ic P aS U (if t then aS a else aS b)
 | pure {v:Value} (a7:bZ P U=true) (aC:(U.op.operands.all fun x=>flat (aS x))=true) (an:flat v=true) (h:dK P (execOp aS U)=some (.value v)):ic P aS U v
 | build {t:TypeId} {aM:Array (Nat×Operand)} {z v:Value} (h:U.op= .build t aM) (aQ:dL P t=some z) (eb:flat z=true) (al:dK P (Instr.build t (aM.map fun p=>(p.1,aS p.2)))=some v):ic P aS U v
 | nilCheck {x:Operand} {a:Addr} (h:U.op= .nilCheck x) (J:aS x= .pointer (some a)):ic P aS U (aS x)
 | fieldAddr {s:TypeId} {x:Operand} {f b i n:Nat} {kA:Array Field} {fd:Field} (h:U.op= .fieldAddr s x f) (hu:P.underlying s=some (.struct kA)) (aC:kA[f]?=some fd) (ao:bu P fd.type=some (n+1))
   (J:aS x= .pointer (some ⟨b,i,none⟩)):ic P aS U (.pointer (some ⟨b,i+fd.offset,none⟩))
 | field {t:TypeId} {x:Operand} {f:Nat} {cs:Array Value} {v:Value} (h:U.op= .field t x f) (J:aS x= .agg cs) (al:dK P (Instr.field t (.agg cs) f)=some v):ic P aS U v
 | Pj {t e:TypeId} {x ez:Operand} {b i len cap R:Nat} {k:IntKind} {n:Int} (h:U.op= .indexAddr t x ez) (hu:P.underlying t=some (.slice e)) (ao:bu P e=some R) (J:aS x= .slice (some ⟨b,i,none⟩) len cap)
   (ab:aS ez= .int k n) (aG:0<=n) (o:n<len):ic P aS U (.pointer (some ⟨b,i+n.toNat*R,none⟩))
 | Y_ {t e:TypeId} {x ez:Operand} {b i len R:Nat} {k:IntKind} {n:Int} (h:U.op= .indexAddr t x ez) (hu:P.underlying t=some (.array len e)) (ao:bu P e=some R) (J:aS x= .pointer (some ⟨b,i,none⟩))
   (ab:aS ez= .int k n) (aG:0<=n) (o:n<len):ic P aS U (.pointer (some ⟨b,i+n.toNat*R,none⟩))
 | index {t e:TypeId} {x ez:Operand} {len R:Nat} {k:IntKind} {n:Int} {cs:Array Value} {v:Value} (h:U.op= .index t x ez) (hu:P.underlying t=some (.array len e)) (ao:bu P e=some R) (J:aS x= .agg cs)
   (ab:aS ez= .int k n) (aG:0<=n) (o:n<len) (al:dK P (part e cs (n.toNat*R))=some v):ic P aS U v
 | extract {x:Operand} {i:Nat} {aH:Array Value} {v:Value} (h:U.op= .extract x i) (J:aS x= .tuple aH) (an:aH[i]?=some v):ic P aS U v
 | Pw {x:Operand} {t e:TypeId} {a:Option Addr} {n c:Nat} (h:U.op= .call {callee:= .builtin .len,args:= #[x],argTypes:= #[t]}) (hu:P.underlying t=some (.slice e)) (J:aS x= .slice a n c):ic P aS U (.int .i64 n)
 | makeFunc {fn:Fn} {a b:Array Operand} (h:U.op= .makeFunc fn a b):ic P aS U (.func fn (a.map aS) (b.map aS))
 | PK {t:TypeId} {x:Operand} (h:U.op= .makeInterface t x) (ag:P.concrete t=true):ic P aS U (.iface t (aS x))
 | L8 {t e qB:TypeId} {x y:Operand} {a:Option Addr} {n c:Nat} (h:U.op= .binOp .eql t x y qB) (hu:P.underlying t=some (.slice e)) (J:aS x= .slice a n c) (aP:aS y= .slice none 0 0):ic P aS U (.bool a.isNone)
 | P0 {t e qB:TypeId} {x y:Operand} {a:Option Addr} {n c:Nat} (h:U.op= .binOp .neq t x y qB) (hu:P.underlying t=some (.slice e)) (J:aS x= .slice a n c) (aP:aS y= .slice none 0 0):ic P aS U (.bool (!a.isNone))
theorem fw.map{ak:bl}{aS cO:Operand->Value}(xs:Array Operand)(h:∀x∈xs,bo ak (aS x) (cO x)):fw ak (xs.map aS) (xs.map cO):=by
 refine⟨by simp,fun i v aw an dC=>?_⟩
 simp only[Array.getElem?_map,Option.map_eq_some_iff]at an dC
 obtain⟨x,J,rfl⟩:=an
 obtain⟨y,aP,rfl⟩:=dC
 rw[J]at aP
 obtain rfl:=Option.some.inj aP
 exact h x (Array.mem_of_getElem? J)
theorem bo.pt{ak:bl}{k:IntKind}{n:Int}{v:Value}(h:bo ak (.int k n) v):v= .int k n:=by cases h;rfl
theorem bo.Lk{ak:bl}{b:Bool}{v:Value}(h:bo ak (.bool b) v):v= .bool b:=by cases h;rfl
theorem bo.sZ{ak:bl}{b i:Nat}{v:Value}(h:bo ak (.pointer (some ⟨b,i,none⟩)) v):∃k,ak b=some k/\v= .pointer (some ⟨k.g,k.U+i,none⟩):=by
 cases h with
 | ptr h=>exact⟨_,h,rfl⟩
theorem bo.K7{ak:bl}{cs:Array Value}{v:Value}(h:bo ak (.agg cs) v):∃eQ,v= .agg eQ/\fw ak cs eQ:=by
 cases h with
 | agg au h=>exact⟨_,rfl,au,h⟩
theorem bo.adW{ak:bl}{cs:Array Value}{v:Value}(h:bo ak (.tuple cs) v):∃eQ,v= .tuple eQ/\fw ak cs eQ:=by
 cases h with
 | tuple au h=>exact⟨_,rfl,au,h⟩
theorem bo.Dz{ak:bl}{b i len cap:Nat}{v:Value}(h:bo ak (.slice (some ⟨b,i,none⟩) len cap) v)(aG:0<len):
  ∃k dM,ak b=some k/\v= .slice (some ⟨k.g,k.U+i,none⟩) len dM/\len<=cap/\cap<=dM/\(k.loose=false->dM=cap)/\(k.loose=true->k.U+i+dM*k.R<=k.N):=by
 cases h with
 | void=>omega
 | empty=>omega
 | slice h ag au gy J bW=>exact⟨_,_,h,rfl,au,gy,J,bW⟩
theorem bo.rF{ak:bl}{a:Option Addr}{len cap:Nat}{v:Value}(h:bo ak (.slice a len cap) v):∃eL dM,v= .slice eL len dM/\len<=dM/\len<=cap/\cap<=dM/\eL.isNone=a.isNone:=by
 cases h with
 | sU=>exact⟨_,_,rfl,Nat.le_refl _,Nat.le_refl _,Nat.le_refl _,rfl⟩
 | void=>exact⟨_,_,rfl,Nat.le_refl _,Nat.le_refl _,Nat.le_refl _,rfl⟩
 | empty=>exact⟨_,_,rfl,Nat.zero_le _,Nat.le_refl _,Nat.zero_le _,rfl⟩
 | slice h ag au gy J bW=>exact⟨_,_,rfl,Nat.le_trans au gy,au,gy,rfl⟩
theorem qH{g U n:Nat}:(⟨g,U,none⟩:Addr).add n=⟨g,U+n,none⟩:=by unfold Addr.add;split<;>simp_all
theorem QJ{P:Program}(w:World)(d:Nat)(t e:TypeId)(a:Option Addr)(n c:Nat)(h:P.underlying t=some (.slice e)):
  (Op.equalIn (d+1) t (.slice a n c) (.slice none 0 0)).run P w= .ok a.isNone w:=by
 cases a<;>simp[Op.equalIn,run_underlying h]
theorem acX{P:Program}(w:World)(t e:TypeId)(a:Option Addr)(n c:Nat)(h:P.underlying t=some (.slice e)):
  (binOp .eql t (.slice a n c) (.slice none 0 0)).run P w= .ok (.bool a.isNone) w:=by
 simp only[binOp]
 simp[Op.equal,Op.maxDepth,QJ w 9999 t e a n c h]
theorem acY{P:Program}(w:World)(t e:TypeId)(a:Option Addr)(n c:Nat)(h:P.underlying t=some (.slice e)):
  (binOp .neq t (.slice a n c) (.slice none 0 0)).run P w= .ok (.bool (!a.isNone)) w:=by
 simp only[binOp]
 simp[Op.equal,Op.maxDepth,QJ w 9999 t e a n c h]
theorem ER{P:Program}{aS cO:Operand->Value}{U:Oper}{v:Value}{ak:bl}(h:ic P aS U v)(dy:∀x∈U.op.operands,bo ak (aS x) (cO x))(w:World):
  ∃aw,(execOp cO U).run P w= .ok (.value aw) w/\bo ak v aw:=by
 cases h with
 | move h=>exact⟨_,by simp[execOp,h],dy _ (by simp[h,Op.operands])⟩
 | assign h=>exact⟨_,by simp[execOp,h],dy _ (by simp[h,Op.operands])⟩
 | pick h ag=>
  rename_i c a b t
  have o:=(ag▸dy c (by simp[h,Op.operands])).Lk
  refine⟨if t then cO a else cO b,by simp[execOp,h,o,asBool],?_⟩
  cases t
  ·exact dy b (by simp[h,Op.operands])
  ·exact dy a (by simp[h,Op.operands])
 | pure a7 aC an h=>
  have he:execOp aS U=execOp cO U:=by
   refine execOp_congr U (fun cs b e=>?_) fun x J=>(Mj (by simpa using Array.all_eq_true'.1 aC x J) (dy x J)).symm
   simp[bZ,e]at a7
  exact⟨v,s0 _ _ (he▸h) w,vN ak an⟩
 | build h aQ eb al=>
  rename_i t aM z
  obtain⟨aw,o,aa⟩:=SN (cO:=cO) aQ eb (fun p aK=>dy p.2 (by simp[h,Op.operands];exact⟨p.1,by simpa using aK⟩)) al
  exact⟨aw,by simp[execOp,h,s0 _ _ o w],aa⟩
 | nilCheck h J=>
  rename_i x a
  have o:=dy x (by simp[h,Op.operands])
  rw[J]at o⊢
  obtain⟨eL,he⟩:∃eL,cO x= .pointer (some eL):=by
   generalize cO x=u at o
   cases o<;>exact⟨_,rfl⟩
  exact⟨cO x,by simp[execOp,h,he],o⟩
 | fieldAddr h hu aC ao J=>
  rename_i s x f b i n kA fd
  obtain⟨k,ah,he⟩:=(J▸dy x (by simp[h,Op.operands])).sZ
  refine⟨_,?_,.ptr (i:=i+fd.offset) ah⟩
  simp[execOp,h,he,Instr.fieldAt,run_underlying hu,aC,Instr.sureAddr,fieldPlace,ld ao,qH,Nat.add_assoc]
 | field h J al=>
  rename_i t x f cs
  obtain⟨eQ,he,yP⟩:=(J▸dy x (by simp[h,Op.operands])).K7
  unfold Instr.field at al
  simp only[fX,pz]at al
  cases hu:P.underlying t with
  | none=>simp[hu]at al
  | some d=>
   simp only[hu,Option.bind_some]at al
   cases d with
   | struct fields=>
    simp only at al
    cases q2:fields[f]? with
    | none=>simp[q2,dK,stuck]at al
    | some fd=>
     simp only[q2,asAgg,fX,fr,Option.bind_some]at al
     obtain⟨aw,o,aa⟩:=Qb yP al
     exact⟨aw,by simp[execOp,h,he,Instr.field,run_underlying hu,q2,asAgg,s0 _ _ o w],aa⟩
   | _=>simp[dK,stuck]at al
 | Pj h hu ao J ab aG o=>
  rename_i t e x ez b i len cap R k n
  obtain⟨aa7,dM,ah,he,-⟩:=(J▸dy x (by simp[h,Op.operands])).Dz (by omega)
  have fV:=(ab▸dy ez (by simp[h,Op.operands])).pt
  refine⟨_,?_,.ptr (i:=i+n.toNat*R) ah⟩
  simp[execOp,h,he,fV,Instr.indexAt,asIntOf,run_underlying hu,ld ao,aG,o,qH,Nat.add_assoc]
 | Y_ h hu ao J ab aG o=>
  rename_i t e x ez b i len R k n
  obtain⟨aa7,ah,he⟩:=(J▸dy x (by simp[h,Op.operands])).sZ
  have fV:=(ab▸dy ez (by simp[h,Op.operands])).pt
  refine⟨_,?_,.ptr (i:=i+n.toNat*R) ah⟩
  simp[execOp,h,he,fV,Instr.indexAt,Instr.sureAddr,asIntOf,run_underlying hu,ld ao,aG,o,qH,Nat.add_assoc]
 | index h hu ao J ab aG o al=>
  rename_i t e x ez len R k n cs
  obtain⟨eQ,he,yP⟩:=(J▸dy x (by simp[h,Op.operands])).K7
  have fV:=(ab▸dy ez (by simp[h,Op.operands])).pt
  obtain⟨aw,aK,aa⟩:=Qb yP al
  exact⟨aw,by simp[execOp,h,he,fV,Instr.index,asIntOf,run_underlying hu,ld ao,aG,o,s0 _ _ aK w],aa⟩
 | extract h J an=>
  rename_i x i aH
  obtain⟨eQ,he,yP⟩:=(J▸dy x (by simp[h,Op.operands])).adW
  obtain⟨aw,o,aa⟩:=yP.get an
  exact⟨aw,by simp[execOp,h,he,Instr.extract,o],aa⟩
 | Pw h hu J=>
  rename_i x t e a n c
  obtain⟨eL,dA,he,-⟩:=(J▸dy x (by simp[h,Op.operands,Call.operands])).rF
  exact⟨_,by simp[execOp,h,he,resolve,invoke,builtin,Builtin.len_,run_underlying hu,goInt],.int _ _⟩
 | makeFunc h=>
  rename_i fn a b
  have o:=fw.map a (ak:=ak) (aS:=aS) (cO:=cO) fun x J=>dy x (by simp[h,Op.operands,J])
  have aa:=fw.map b (ak:=ak) (aS:=aS) (cO:=cO) fun x J=>dy x (by simp[h,Op.operands,J])
  exact⟨_,by simp[execOp,h,Instr.makeFunc],.func fn o.1 o.2 aa.1 aa.2⟩
 | PK h ag=>
  rename_i t x
  exact⟨_,by simp[execOp,h,run_makeInterface w t _ ag],.iface t (dy x (by simp[h,Op.operands]))⟩
 | L8 h hu J aP=>
  rename_i t e qB x y a n c
  obtain⟨eL,dA,he,-,-,-,aF⟩:=(J▸dy x (by simp[h,Op.operands])).rF
  have rk:=Bn rfl (aP▸dy y (by simp[h,Op.operands]))
  refine⟨.bool a.isNone,?_,.bool _⟩
  rw[<-aF]
  simp[execOp,h,he,rk,eqGuard,acX w t e eL n dA hu]
 | P0 h hu J aP=>
  rename_i t e qB x y a n c
  obtain⟨eL,dA,he,-,-,-,aF⟩:=(J▸dy x (by simp[h,Op.operands])).rF
  have rk:=Bn rfl (aP▸dy y (by simp[h,Op.operands]))
  refine⟨.bool (!a.isNone),?_,.bool _⟩
  rw[<-aF]
  simp[execOp,h,he,rk,eqGuard,acY w t e eL n dA hu]
def dk(P:Program)(t:TypeId):Option Bool:=(P.underlying t).map fun d=>match d with | .struct _ | .array _ _=>true | _=>false
theorem Dn{P:Program}{t:TypeId}{b:Bool}(h:dk P t=some b)(w:World):(isAgg t).run P w= .ok b w:=s0 _ _ (by rw[Qm];exact h) w
def bN.elem?:bN->Option TypeId
 | .own e _ _=>some e
 | .ro e _=>some e
 | .dead=>none
theorem cC.cell{P:Program}{base:Nat}{ak:bl}{H:ad}{w:World}(h:cC P base ak H w){b j:Nat}{k:jo}{x:bN}{cs:List Value}{v:Value}(af:ak b=some k)(J:H[b]?=some x)(ag:x.cells?=some cs)
  (aN:cs[j]?=some v):∃aw,w.cell? ⟨k.g,k.U+j,none⟩=some aw/\bo ak v aw:=by
 cases h.fm b k x af J with
 | own ua au ab ao a1 bW aC bF an=>
  simp only[bN.cells?,Option.some.injEq]at ag
  subst ag
  obtain⟨aw,o,aa⟩:=an j v aN
  exact⟨aw,by simp[World.cell?,a1,o],aa⟩
 | ro ab ao an df=>
  simp only[bN.cells?,Option.some.injEq]at ag
  subst ag
  exact an j v aN
 | dead=>simp[bN.cells?]at ag
theorem cC.cells{P:Program}{base:Nat}{ak:bl}{H:ad}{w:World}(h:cC P base ak H w){b i n:Nat}{k:jo}{x:bN}{cs:List Value}(af:ak b=some k)(J:H[b]?=some x)(ag:x.cells?=some cs)
  (bF:i+n<=cs.length):∃aH:List Value,aH.length=n/\(∀(j:Nat) (v:Value),aH[j]?=some v->w.cell? ((⟨k.g,k.U+i,none⟩:Addr).add j)=some v)/\cX ak ((cs.drop i).take n) aH:=by
 have key:∀j,j<n->∃v aw,cs[i+j]?=some v/\w.cell? ⟨k.g,k.U+(i+j),none⟩=some aw/\bo ak v aw:=fun j aN=>by
  have a3:i+j<cs.length:=by omega
  obtain⟨aw,o,aa⟩:=h.cell af J ag (bs a3)
  exact⟨_,aw,bs a3,o,aa⟩
 refine⟨(List.range n).map fun j=>(w.cell? ⟨k.g,k.U+(i+j),none⟩).getD undef,by simp,fun j v aN=>?_,?_,fun j v aw an dC=>?_⟩
 ·have a3:j<n:=by have:=(cn.1 aN).1;simpa using this
  obtain⟨_,aw,_,o,_⟩:=key j a3
  simp[a3,o]at aN
  rw[qH,Nat.add_assoc,o,aN]
 ·simp;omega
 ·have a3:j<n:=by have:=(cn.1 dC).1;simpa using this
  obtain⟨u,RB,aG,o,aa⟩:=key j a3
  simp[a3,o]at dC
  rw[List.getElem?_take_of_lt a3,List.getElem?_drop,aG]at an
  cases an
  subst dC
  exact aa
def dr(cs:List Value)(i:Nat)(aH:List Value):List Value:=cs.take i++aH++cs.drop (i+aH.length)
theorem om{cs aH:List Value}{i:Nat}(h:i+aH.length<=cs.length):(dr cs i aH).length=cs.length:=by simp[dr];omega
theorem adB(cs:List Value)(i:Nat):dr cs i []=cs:=by simp[dr]
theorem adC{cs:List Value}{i:Nat}(v:Value)(h:i<cs.length):dr cs i [v]=cs.set i v:=by
 simp only[dr,List.length_cons,List.length_nil]
 rw[List.set_eq_take_append_cons_drop,if_pos h]
 simp
theorem adA(cs aH:List Value)(i:Nat)(v:Value)(h:i+1+aH.length<=cs.length):dr (cs.set i v) (i+1) aH=dr cs i (v::aH):=by
 simp only[dr,List.length_cons]
 rw[List.set_eq_take_append_cons_drop,if_pos (by omega)]
 have o:(cs.take i).length=i:=by simp;omega
 have bn:(cs.take i++v::cs.drop (i+1)).take (i+1)=cs.take i++[v]:=by
  rw[List.take_append,List.take_of_length_le (by omega),o]
  simp[show i+1-i=1 by omega]
 have bj:(cs.take i++v::cs.drop (i+1)).drop (i+1+aH.length)=cs.drop (i+(aH.length+1)):=by
  rw[List.drop_append,List.drop_eq_nil_of_le (by omega),o,List.nil_append,show i+1+aH.length-i=aH.length+1 by omega,List.drop_succ_cons,List.drop_drop]
  congr 1
  omega
 rw[bn,bj]
 simp
theorem s9{cs aH:List Value}{i j:Nat}(h:i+aH.length<=cs.length):(dr cs i aH)[j]?=if i<=j/\j<i+aH.length then aH[j-i]? else cs[j]?:=by
 simp only[dr]
 have o:(cs.take i).length=i:=by simp;omega
 by_cases aN:j<i
 ·rw[if_neg (by omega),List.append_assoc,List.getElem?_append_left (by omega),List.getElem?_take_of_lt aN]
 ·by_cases mK:j<i+aH.length
  ·rw[if_pos ⟨by omega,mK⟩,List.append_assoc,List.getElem?_append_right (by omega),o,List.getElem?_append_left (by omega)]
  ·rw[if_neg (by omega),List.getElem?_append_right (by simp;omega),List.getElem?_drop]
   congr 1
   simp
   omega
theorem adD{ak:bl}{cs:List Value}{cur:Array Value}{aH h8:List Value}{U i:Nat}(an:∀(j:Nat) (v:Value),cs[j]?=some v->∃aw,cur[U+j]?=some aw/\bo ak v aw)(au:cX ak aH h8)(bF:i+aH.length<=cs.length)
  (p3:U+cs.length<=cur.size):∀(j:Nat) (v:Value),(dr cs i aH)[j]?=some v->∃aw,(dr cur.toList (U+i) h8).toArray[U+j]?=some aw/\bo ak v aw:=by
 intro j v aN
 rw[s9 bF]at aN
 have e:(dr cur.toList (U+i) h8).toArray[U+j]?=(dr cur.toList (U+i) h8)[U+j]?:=by simp
 rw[e,s9 (by rw[<-au.1];simp;omega),<-au.1]
 split at aN
 ·rename_i ag
  rw[if_pos (by omega),show U+j-(U+i)=j-i by omega]
  exact au.get aN
 ·rename_i ag
  rw[if_neg (by omega)]
  obtain⟨aw,o,aa⟩:=an j v aN
  exact⟨aw,by simpa using o,aa⟩
theorem adk{w:World}{g p:Nat}{cur:Array Value}{e:TypeId}{eu:Nat×Nat}(a1:w.heap[g]?=some (.cells cur e eu))(v:Value):
  w.setCell ⟨g,p,none⟩ v=i_ w g (.cells (cur.setIfInBounds p v) e eu):=by
 obtain⟨a3,he⟩:=Array.getElem?_eq_some_iff.1 a1
 simp only[World.setCell,i_]
 congr 1
 apply Array.ext_getElem?
 intro i
 rw[Array.getElem?_modify,Array.getElem?_setIfInBounds]
 split
 ·rename_i ab
  subst ab
  rw[a1]
  rfl
 ·rfl
theorem acq(w:World)(g:Nat)(x y:Obj):i_ (i_ w g x) g y=i_ w g y:=by simp[i_]
theorem acp{w:World}{g:Nat}{x:Obj}(h:w.heap[g]?=some x):i_ w g x=w:=by
 obtain⟨a3,he⟩:=Array.getElem?_eq_some_iff.1 h
 unfold i_
 have:w.heap.setIfInBounds g x=w.heap:=by
  apply Array.ext_getElem?
  intro i
  rw[Array.getElem?_setIfInBounds]
  split
  ·rename_i ab;subst ab;rw[h]
  ·rfl
 rw[this]
theorem H8{P:Program}(g off:Nat)(e:TypeId)(eu:Nat×Nat):∀(aH:List Value) (i:Nat) (cur:Array Value) (w:World),w.heap[g]?=some (.cells cur e eu)->m8 eu cur.size->off+i+aH.length<=cur.size->
  (∀v∈aH,v.oneCell'=true)->(storeCells ⟨g,off,none⟩ aH i).run P w= .ok () (i_ w g (.cells (dr cur.toList (off+i) aH).toArray e eu))
 | [],i,cur,w,a1,_,_,_=>by
  rw[adB,acp (by simpa using a1)]
  rfl
 | v::aH,i,cur,w,a1,aC,bF,o=>by
  simp only[List.length_cons]at bF
  have a3:off+i<cur.size:=by omega
  have k5:w.cell? ⟨g,off+i,none⟩=some cur[off+i]:=by simp[World.cell?,a1,a3]
  have Ny:w.frozen? ⟨g,off+i,none⟩=false:=by
   have:=aC (off+i) a3
   simp only[World.frozen?,a1]
   simpa using this
  have ao:(store ((⟨g,off,none⟩:Addr).add i) v).run P w= .ok () (i_ w g (.cells (cur.setIfInBounds (off+i) v) e eu)):=by
   rw[qH,run_store P w _ v _ (o v List.mem_cons_self),k5]
   simp only[Ny]
   rw[<-adk a1]
   rfl
  have F2:(i_ w g (.cells (cur.setIfInBounds (off+i) v) e eu)).heap[g]?=some (.cells (cur.setIfInBounds (off+i) v) e eu):=HP w _ _ (Array.getElem?_eq_some_iff.1 a1).1
  have a2:=H8 (P:=P) g off e eu aH (i+1) (cur.setIfInBounds (off+i) v) _ F2 (by simpa using aC) (by simp;omega) fun u hu=>o u (List.mem_cons_of_mem _ hu)
  simp only[storeCells,Sem.run_bind,ao,Result.andThen_ok,a2,acq]
  congr 4
  rw[<-adA _ _ _ _ (by simp;omega)]
  simp[Nat.add_assoc]
def Ao(s:ByteArray):List Value:=s.data.toList.map fun b=> .int .u8 b.toNat
inductive Src (H:ad) (R:Nat):Value->Nat->Nat->List Value->Prop
 | xJ {a:Option Addr} {m c:Nat}:Src H R (.slice a m c) m 0 []
 | row {b i n m c:Nat} {x:bN} {cs:List Value} (J:H[b]?=some x) (ag:x.cells?=some cs) (aF:0<n) (hm:n<=m) (bF:i+n*R<=cs.length):Src H R (.slice (some ⟨b,i,none⟩) m c) m n ((cs.drop i).take (n*R))
 | str {s:ByteArray} (o:R=1):Src H R (.string s) s.size s.size (Ao s)
theorem u1{P:Program}{base:Nat}{ak:bl}{H:ad}{w:World}{R m n:Nat}{v aw:Value}{news:List Value}(ao:Src H R v m n news)(h:cC P base ak H w)(an:bo ak v aw):
  (Builtin.lenOf aw).run P w= .ok m w/\news.length=n*R/\∃h7:List Value,(∀a9:World,a9.heap=w.heap->(Builtin.firstCells R n aw).run P a9= .ok h7.toArray a9)/\cX ak news h7:=by
 cases ao with
 | xJ=>
  obtain⟨eL,dA,rfl,-⟩:=an.rF
  refine⟨by simp[Builtin.lenOf],by simp,[],fun a9 _=>?_,cX.nil ak⟩
  cases eL<;>simp[Builtin.firstCells,loadCells,loadCellsFrom]
 | row J ag aF hm bF=>
  rename_i b i c x cs
  obtain⟨k,dM,ah,rfl,-⟩:=an.Dz (by omega)
  obtain⟨aH,au,k5,al⟩:=h.cells ah J ag bF
  refine⟨by simp[Builtin.lenOf],by simp;omega,aH,fun a9 hw=>?_,al⟩
  simp only[Builtin.firstCells]
  rw[<-au]
  exact run_loadCells_list a9 _ aH fun j u hu=>by rw[Ey (w:=w) (by rw[hw])];exact k5 j u hu
 | str o=>
  rename_i s
  have he:aw= .string s:=by cases an;rfl
  subst he
  refine⟨by simp[Builtin.lenOf],by rw[o,Nat.mul_one];unfold Ao;rw[List.length_map];rfl,Ao s,fun a9 _=>?_,rfl,fun i v aw J aP=>?_⟩
  ·simp only[Builtin.firstCells,Ao]
   have e:(s.extract 0 s.size).data=s.data:=by
    rw[ByteArray.data_extract];exact Array.extract_size
   rw[e]
   simp only[Sem.run_pure]
   congr 1
   apply Array.ext'
   simp
  ·rw[J]at aP
   obtain rfl:=Option.some.inj aP
   simp only[Ao,List.getElem?_map,Option.map_eq_some_iff]at J
   obtain⟨b,-,rfl⟩:=J
   exact .int _ _
def gm(P:Program)(base:Nat)(ak:bl)(H:ad)(w:World)(s:Sem Value)(v:Value)(aI:ad):Prop:=
 ∃bD aw a9,s.run P w= .ok aw a9/\bo bD v aw/\cC P base bD aI a9/\Step ak H w bD aI a9
theorem cC.En{P:Program}{base:Nat}{ak:bl}{H:ad}{w:World}(h:cC P base ak H w){e:TypeId}{n:Nat}(ao:bu P e=some n){cs:List Value}{cur:Array Value}{eu:Nat×Nat}(l:Bool)(aC:m8 eu cur.size)(bF:cs.length<=cur.size)
  (an:∀(i:Nat) (v:Value),cs[i]?=some v->∃aw,cur[i]?=some aw/\bo ak v aw):
  cC P base (ak.put H.length ⟨w.heap.size,0,cur.size,n,l⟩) (H++[.own e l cs]) (w.alloc (.cells cur e eu))/\Step ak H w (ak.put H.length ⟨w.heap.size,0,cur.size,n,l⟩) (H++[.own e l cs]) (w.alloc (.cells cur e eu)):=by
 unfold bu at ao
 obtain⟨inf,ab,aF⟩:=Option.map_eq_some_iff.1 ao
 exact h.alloc ab aF aC bF an
theorem m8.zero(n:Nat):m8 (0,0) n:=fun j _ h=>by simp at h
theorem cC.Pp{P:Program}{base:Nat}{ak:bl}{H:ad}{w:World}(h:cC P base ak H w)(x:Obj):cC P base ak H (w.alloc x)/\Step ak H w ak H (w.alloc x):=by
 have hold:∀g,g<w.heap.size->(w.alloc x).heap[g]?=w.heap[g]?:=fun g a1=>heap_alloc_old w _ a1
 refine⟨⟨h.pos,by simp;have:=h.size;omega,h.e2,fun b k y af aP=>(h.fm b k y af aP).gY (fun _ _ h=>h) (fun aF=>hold _ ((h.fm b k y af aP).lt aF)) (by simp),h.inj⟩,?_⟩
 exact⟨fun _ _ h=>h,fun _ _ h=> .inl h,Nat.le_refl _,fun b k af aW=> .inr ⟨b,k,af,aW,rfl⟩,rfl,rfl,rfl,by simp,fun g a1 _=>hold g a1⟩
theorem cX.ofArray{ak:bl}{xs bY:Array Value}(h:fw ak xs bY):∀(i:Nat) (v:Value),xs.toList[i]?=some v->∃aw,bY[i]?=some aw/\bo ak v aw:=fun i v an=>by
 obtain⟨aw,o,aa⟩:=h.toList.get an
 exact⟨aw,by simpa using o,aa⟩
section
variable {P:Program} {base:Nat} {ak:bl} {H:ad} {w:World}
theorem Tl{e:TypeId}{z:Value}{n:Nat}(h:cC P base ak H w)(aQ:dL P e=some z)(eb:flat z=true)(ao:bu P e=some n):
  gm P base ak H w (Instr.alloc e true (.tuple #[])) (.pointer (some ⟨H.length,0,none⟩)) (H++[.own e false z.cells.toList]):=by
 obtain⟨o,aa⟩:=h.En (cur:=z.cells) (eu:=(0,0)) ao false (m8.zero _) (by simp) (cX.ofArray (D1 eb))
 refine⟨_,.pointer (some ⟨w.heap.size,0,none⟩),_,?_,?_,o,aa⟩
 ·simp[Instr.alloc,Dp aQ,newVar,newRow]
 ·exact .ptr (k:=⟨w.heap.size,0,z.cells.size,n,false⟩) (bl.oh _ _ _)
theorem Tr{e:TypeId}{v aw:Value}{n:Nat}(h:cC P base ak H w)(an:bo ak v aw)(ao:bu P e=some n):
  gm P base ak H w (Instr.box e aw) (.pointer (some ⟨H.length,0,none⟩)) (H++[.own e false v.cells.toList]):=by
 obtain⟨o,aa⟩:=h.En (cur:=aw.cells) (eu:=(0,0)) (cs:=v.cells.toList) ao false (m8.zero _) (by simp[an.cells.1]) (cX.ofArray an.cells)
 refine⟨_,.pointer (some ⟨w.heap.size,0,none⟩),_,?_,?_,o,aa⟩
 ·simp[Instr.box,newVar,newRow]
 ·exact .ptr (k:=⟨w.heap.size,0,aw.cells.size,n,false⟩) (bl.oh _ _ _)
theorem Tx{t:TypeId}{b i:Nat}{X:bN}{cs:List Value}{v aw:Value}(h:cC P base ak H w)(aL:dk P t=some false)(J:bo ak (.pointer (some ⟨b,i,none⟩)) aw)(aZ:H[b]?=some X)(ag:X.cells?=some cs)(an:cs[i]?=some v):
  gm P base ak H w (Instr.loadAt t aw) v H:=by
 obtain⟨k,ah,rfl⟩:=J.sZ
 obtain⟨u,o,aa⟩:=h.cell ah aZ ag an
 exact⟨ak,u,w,by simp[Instr.loadAt,Instr.sureAddr,loadVar,Dn aL,o],aa,h,Step.refl _ _ _⟩
theorem Ty{t:TypeId}{b i n:Nat}{X:bN}{cs:List Value}{aw:Value}(h:cC P base ak H w)(aL:dk P t=some true)(ao:bu P t=some n)(J:bo ak (.pointer (some ⟨b,i,none⟩)) aw)(aZ:H[b]?=some X)(ag:X.cells?=some cs)
  (bF:i+n<=cs.length):gm P base ak H w (Instr.loadAt t aw) (.agg ((cs.drop i).take n).toArray) H:=by
 obtain⟨k,ah,rfl⟩:=J.sZ
 obtain⟨aH,au,k5,al⟩:=h.cells ah aZ ag bF
 have hj:=run_loadCells_list (P:=P) w ⟨k.g,k.U+i,none⟩ aH k5
 rw[au]at hj
 exact⟨ak,.agg aH.toArray,w,by simp[Instr.loadAt,Instr.sureAddr,loadVar,Dn aL,ld ao,hj],.agg al.toArray.1 al.toArray.2,h,Step.refl _ _ _⟩
theorem HQ{b i:Nat}{k:jo}{e:TypeId}{l:Bool}{cs aH h8:List Value}(h:cC P base ak H w)(af:ak b=some k)(aZ:H[b]?=some (.own e l cs))(au:cX ak aH h8)(bF:i+aH.length<=cs.length)(o:∀v∈aH,v.oneCell'=true):
  ∃a9,(storeCells ⟨k.g,k.U+i,none⟩ h8).run P w= .ok () a9/\cC P base ak (H.set b (.own e l (dr cs i aH))) a9/\Step ak H w ak (H.set b (.own e l (dr cs i aH))) a9:=by
 cases h.fm b k _ af aZ with
 | own ua hC ab ao a1 bW aC F1 an=>
  rename_i cur eu inf
  have gp:(dr cs i aH).length=cs.length:=om bF
  have hlen:h8.length=aH.length:=au.1.symm
  have Mt:∀v∈h8,v.oneCell'=true:=fun aw dC=>by
   obtain⟨j,aN⟩:=List.getElem?_of_mem dC
   have y6:j<aH.length:=by rw[au.1];exact(cn.1 aN).1
   have:=(au.2 j _ _ (bs y6) aN).P7
   rw[this]
   exact o _ (List.getElem_mem y6)
  have hj:=H8 (P:=P) k.g (k.U+i) e eu h8 0 cur w a1 (bW▸aC) (by omega) Mt
  simp only[Nat.add_zero]at hj
  have GC:=adD an au bF (by omega)
  obtain⟨s1,s2⟩:=h.put (eQ:=dr cs i aH) (mA:=(dr cur.toList (k.U+i) h8).toArray) af aZ ⟨cur,a1,by rw[List.size_toArray,om (by simp;omega)];simp⟩ gp GC
  exact⟨_,hj,s1,s2⟩
theorem TH{t:TypeId}{b i:Nat}{e:TypeId}{l:Bool}{cs:List Value}{y eL nE:Value}(h:cC P base ak H w)(ao:bu P t=some y.cells.size)(aL:bo ak (.pointer (some ⟨b,i,none⟩)) eL)(aP:bo ak y nE)
  (aZ:H[b]?=some (.own e l cs))(bF:i+y.cells.size<=cs.length)(o:(y.cells.toList.all (·.oneCell'))=true):
  ∃a9,(Instr.storeAt t eL nE).run P w= .ok () a9/\cC P base ak (H.set b (.own e l (dr cs i y.cells.toList))) a9/\Step ak H w ak (H.set b (.own e l (dr cs i y.cells.toList))) a9:=by
 obtain⟨k,ah,rfl⟩:=aL.sZ
 obtain⟨a9,al,s1,s2⟩:=HQ (i:=i) h ah aZ aP.cells.toList (by simpa using bF) (fun v an=>by simpa using List.all_eq_true.1 o v an)
 have df:=aP.cells.1
 exact⟨a9,by simp[Instr.storeAt,Instr.sureAddr,storeVar,ld ao,<-df,al],s1,s2⟩
def ea(aS:Operand->Value):Option Operand->Option Nat
 | none=>some 0
 | some x=>match aS x with
  | .int _ n=>if 0<=n then some n.toNat else none
  | _=>none
def fo(aS:Operand->Value)(d:Nat):Option Operand->Option Nat
 | none=>some d
 | some x=>match aS x with
  | .int _ n=>if 0<=n then some n.toNat else none
  | _=>none
theorem run_sliceBound{P:Program}{w:World}{k:IntKind}{n:Int}{y:Nat}{code:BoundsCode}(aG:0<=n)(o:n.toNat<=y):(Instr.sliceBound (.int k n) y code).run P w= .ok n.toNat w:=by
 have:n<=(y:Int):=by omega
 simp[Instr.sliceBound,asIntOf,aG,this]
theorem H7{aS cO:Operand->Value}{bg ab:Option Operand}{len cap l db:Nat}(hC:∀x,bg=some x->bo ak (aS x) (cO x))(iF:∀x,ab=some x->bo ak (aS x) (cO x))(au:ea aS bg=some l)(eX:fo aS len ab=some db)
  (o:l<=db)(aa:db<=cap)(w:World):(Instr.sliceBounds true len cap (bg.map cO) (ab.map cO) none).run P w= .ok (l,db,cap) w:=by
 have el:∀x,bg=some x->∃k n,cO x= .int k n/\0<=n/\n.toNat=l:=fun x J=>by
  have an:=hC x J
  subst J
  simp only[ea]at au
  split at au
  ·rename_i k n he
   rw[he]at an
   split at au
   ·cases au;exact⟨k,n,an.pt,by assumption,rfl⟩
   ·cases au
  ·cases au
 have T4:∀x,ab=some x->∃k n,cO x= .int k n/\0<=n/\n.toNat=db:=fun x J=>by
  have an:=iF x J
  subst J
  simp only[fo]at eX
  split at eX
  ·rename_i k n he
   rw[he]at an
   split at eX
   ·cases eX;exact⟨k,n,an.pt,by assumption,rfl⟩
   ·cases eX
  ·cases eX
 unfold Instr.sliceBounds
 cases ab with
 | none=>
  have WM:len=db:=by simpa[fo]using eX
  subst WM
  cases bg with
  | none=>
   have im:0=l:=by simpa[ea]using au
   subst im
   simp
  | some x=>
   obtain⟨k,n,e,aG,rfl⟩:=el x rfl
   simp[e,run_sliceBound (P:=P) (w:=w) (k:=k) aG o]
 | some y=>
  obtain⟨b1,ed,c0,r8,rfl⟩:=T4 y rfl
  cases bg with
  | none=>
   have im:0=l:=by simpa[ea]using au
   subst im
   simp[c0,run_sliceBound (P:=P) (w:=w) (k:=b1) r8 aa]
  | some x=>
   obtain⟨k,n,e,aG,rfl⟩:=el x rfl
   simp[e,c0,run_sliceBound (P:=P) (w:=w) (k:=b1) r8 aa,run_sliceBound (P:=P) (w:=w) (k:=k) aG o]
theorem QI{aS cO:Operand->Value}{bg ab fH:Operand}{len cap l db m:Nat}(hC:bo ak (aS bg) (cO bg))(iF:bo ak (aS ab) (cO ab))(y9:bo ak (aS fH) (cO fH))(au:ea aS (some bg)=some l)(eX:ea aS (some ab)=some db)(hm:ea aS (some fH)=some m)
  (o:l<=db)(aa:db<=m)(aE:m<=cap)(w:World):(Instr.sliceBounds true len cap (some (cO bg)) (some (cO ab)) (some (cO fH))).run P w= .ok (l,db,m) w:=by
 have el:∀x q,bo ak (aS x) (cO x)->ea aS (some x)=some q->∃k n,cO x= .int k n/\0<=n/\n.toNat=q:=fun x q an aq=>by
  simp only[ea]at aq
  split at aq
  ·rename_i k n he
   rw[he]at an
   split at aq
   ·cases aq;exact⟨k,n,an.pt,by assumption,rfl⟩
   ·cases aq
  ·cases aq
 obtain⟨j2,c4,bn,dh,rfl⟩:=el bg l hC au
 obtain⟨k_,c9,bj,gZ,rfl⟩:=el ab db iF eX
 obtain⟨uQ,j4,fT,fP,rfl⟩:=el fH m y9 hm
 simp[Instr.sliceBounds,bn,bj,fT,run_sliceBound (P:=P) (w:=w) (k:=j2) dh o,run_sliceBound (P:=P) (w:=w) (k:=k_) gZ aa,run_sliceBound (P:=P) (w:=w) (k:=uQ) fP aE]
theorem Ac{t e:TypeId}{R:Nat}{a:Option Addr}{len cap l db m:Nat}{bg ab fH:Option Value}(hu:P.underlying t=some (.slice e))(ao:bu P e=some R)(af:(Instr.sliceBounds true len cap bg ab fH).run P w= .ok (l,db,m) w):
  (Instr.sliceAt t (.slice a len cap) bg ab fH).run P w= .ok (.slice (if m=l then a else a.map (·.add (l*R))) (db-l) (m-l)) w:=by
 simp[Instr.sliceAt,Instr.slice,run_underlying hu,af,ld ao]
section
variable {aS cO:Operand->Value} {bg ab:Option Operand}
theorem TB{t e:TypeId}{R b i len cap l db:Nat}{X:bN}{eN:Value}(h:cC P base ak H w)(hu:P.underlying t=some (.slice e))(ao:bu P e=some R)(J:bo ak (.slice (some ⟨b,i,none⟩) len cap) eN)(aZ:H[b]?=some X)(he:X.elem?=some e)
  (hC:∀x,bg=some x->bo ak (aS x) (cO x))(iF:∀x,ab=some x->bo ak (aS x) (cO x))(au:ea aS bg=some l)(eX:fo aS len ab=some db)(o:l<=db)(aa:db<=cap)(a3:l<cap):
  gm P base ak H w (Instr.sliceAt t eN (bg.map cO) (ab.map cO) none) (.slice (some ⟨b,i+l*R,none⟩) (db-l) (cap-l)) H:=by
 cases J with
 | void=>omega
 | empty=>omega
 | slice ah ag hle gy pr bW=>
  rename_i k dM
  have af:=H7 (P:=P) (cap:=dM) hC iF au eX o (by omega) w
  refine⟨ak,_,w,Ac hu ao af,?_,h,Step.refl _ _ _⟩
  rw[if_neg (by omega)]
  simp only[Option.map_some,qH,Nat.add_assoc]
  refine .slice ah (by omega) (by omega) (by omega) (fun aC=>by have:=pr aC;omega) fun bG=>?_
  have B2:k.R=R:=by
   have o2:=h.fm b k X ah aZ
   cases o2 with
   | own ua hC ab CB a1 bW aC F1 an=>
    simp only[bN.elem?,Option.some.injEq]at he
    subst he
    simp only[bu,ab,Option.map_some,Option.some.injEq]at ao
    omega
   | ro ab CB an df=>
    simp only[bN.elem?,Option.some.injEq]at he
    subst he
    simp only[bu,ab,Option.map_some,Option.some.injEq]at ao
    omega
   | dead=>simp[bN.elem?]at he
  have:=bW bG
  rw[B2]at this⊢
  have bn:l*R+(dM-l)*R=dM*R:=by rw[<-Nat.add_mul];congr 1;omega
  omega
end
end
section
variable {P:Program} {base:Nat} {ak:bl} {H:ad} {w:World} {aS cO:Operand->Value} {bg ab:Option Operand}
theorem TE{t e:TypeId}{R b i len cap:Nat}{eN:Value}(h:cC P base ak H w)(hu:P.underlying t=some (.slice e))(ao:bu P e=some R)(J:bo ak (.slice (some ⟨b,i,none⟩) len cap) eN)(sm:0<cap)
  (hC:∀x,bg=some x->bo ak (aS x) (cO x))(iF:∀x,ab=some x->bo ak (aS x) (cO x))(au:ea aS bg=some cap)(eX:fo aS len ab=some cap):
  gm P base ak H w (Instr.sliceAt t eN (bg.map cO) (ab.map cO) none) (.slice (some ⟨b,i,none⟩) 0 0) H:=by
 cases J with
 | void=>omega
 | empty=>omega
 | slice ah ag hle gy pr bW=>
  rename_i k dM
  have af:=H7 (P:=P) (cap:=dM) hC iF au eX (Nat.le_refl _) gy w
  have nR:b≠0:=by have:=(h.e2 b k ah).1;omega
  refine⟨ak,_,w,Ac hu ao af,?_,h,Step.refl _ _ _⟩
  rw[Nat.sub_self]
  by_cases hm:dM=cap
  ·rw[if_pos hm];exact .empty nR _ _
  ·rw[if_neg hm];exact .empty nR _ _
theorem TF{t e:TypeId}{R:Nat}{a:Option Addr}{eN:Value}(h:cC P base ak H w)(hu:P.underlying t=some (.slice e))(ao:bu P e=some R)(J:bo ak (.slice a 0 0) eN)
  (hC:∀x,bg=some x->bo ak (aS x) (cO x))(iF:∀x,ab=some x->bo ak (aS x) (cO x))(au:ea aS bg=some 0)(eX:fo aS 0 ab=some 0):
  gm P base ak H w (Instr.sliceAt t eN (bg.map cO) (ab.map cO) none) (.slice a 0 0) H:=by
 have key:∀(eL:Option Addr) (c:Nat),(Instr.sliceAt t (.slice eL 0 c) (bg.map cO) (ab.map cO) none).run P w= .ok (.slice eL 0 c) w:=fun eL c=>by
  rw[Ac hu ao (H7 (P:=P) (cap:=c) hC iF au eX (Nat.le_refl _) (Nat.zero_le _) w)]
  congr 2
  split
  ·rfl
  ·cases eL with
   | none=>rfl
   | some tz=>simp[Addr.add]
 obtain⟨eL,dA,rfl,-⟩:=J.rF
 exact⟨ak,_,w,key _ _,J,h,Step.refl _ _ _⟩
theorem TD{t e:TypeId}{R len cap l:Nat}{a:Addr}{eN:Value}{bg ab fH:Operand}(h:cC P base ak H w)(hu:P.underlying t=some (.slice e))(ao:bu P e=some R)(J:bo ak (.slice (some a) len cap) eN)
  (hC:bo ak (aS bg) (cO bg))(iF:bo ak (aS ab) (cO ab))(y9:bo ak (aS fH) (cO fH))(au:ea aS (some bg)=some l)(eX:ea aS (some ab)=some l)(hm:ea aS (some fH)=some l)(aE:l<=cap):
  gm P base ak H w (Instr.sliceAt t eN (some (cO bg)) (some (cO ab)) (some (cO fH))) (.slice (some ⟨0,0,none⟩) 0 0) H:=by
 obtain⟨eL,dA,rfl,-,-,bA,bQ⟩:=J.rF
 cases eL with
 | none=>simp at bQ
 | some tz=>
  refine⟨ak,_,w,Ac hu ao (QI (P:=P) (cap:=dA) (len:=len) hC iF y9 au eX hm (Nat.le_refl _) (Nat.le_refl _) (Nat.le_trans aE bA) w),?_,h,Step.refl _ _ _⟩
  rw[if_pos rfl,Nat.sub_self]
  exact .void 0 tz
theorem TC{t e:TypeId}{R:Nat}{eN:Value}{bg ab fH:Operand}(h:cC P base ak H w)(hu:P.underlying t=some (.slice e))(ao:bu P e=some R)(J:bo ak (.slice none 0 0) eN)
  (hC:bo ak (aS bg) (cO bg))(iF:bo ak (aS ab) (cO ab))(y9:bo ak (aS fH) (cO fH))(au:ea aS (some bg)=some 0)(eX:ea aS (some ab)=some 0)(hm:ea aS (some fH)=some 0):
  gm P base ak H w (Instr.sliceAt t eN (some (cO bg)) (some (cO ab)) (some (cO fH))) (.slice none 0 0) H:=by
 cases J with
 | sU=>
  refine⟨ak,_,w,Ac hu ao (QI (P:=P) (cap:=0) (len:=0) hC iF y9 au eX hm (Nat.le_refl _) (Nat.le_refl _) (Nat.le_refl _) w),?_,h,Step.refl _ _ _⟩
  exact .sU
theorem gm.RP{s:Sem Value}(h:cC P base ak H w){x:Obj}(al:s.run P w= .ok (.slice (some ⟨w.heap.size,0,none⟩) 0 0) (w.alloc x)):gm P base ak H w s (.slice (some ⟨0,0,none⟩) 0 0) H:=
 ⟨ak,_,_,al,.void 0 _,(h.Pp x).1,(h.Pp x).2⟩
theorem gm.C6{s:Sem Value}{e:TypeId}{R len cap dM:Nat}{cs:List Value}{cur:Array Value}{eu:Nat×Nat}{l:Bool}(h:cC P base ak H w)(ao:bu P e=some R)
  {ek:World}(rh:ek.heap=w.heap)(ur:ek.os=w.os)(Yl:ek.tape=w.tape)(Gq:ek.output=w.output)
  (al:s.run P w= .ok (.slice (some ⟨w.heap.size,0,none⟩) len dM) (ek.alloc (.cells cur e eu)))(aC:m8 eu cur.size)(bF:cs.length<=cur.size)(an:∀(i:Nat) (v:Value),cs[i]?=some v->∃aw,cur[i]?=some aw/\bo ak v aw)
  (ag:0<cap)(hle:len<=cap)(gy:cap<=dM)(J:l=false->dM=cap)(bW:l=true->dM*R<=cur.size):gm P base ak H w s (.slice (some ⟨H.length,0,none⟩) len cap) (H++[.own e l cs]):=by
 have GC:cC P base ak H ek:=h.heap rh
 have c3:Step ak H w ak H ek:=⟨fun _ _ h=>h,fun _ _ h=> .inl h,Nat.le_refl _,fun b k af aW=> .inr ⟨b,k,af,aW,rfl⟩,ur,Yl,Gq,by rw[rh];exact Nat.le_refl _,fun g _ _=>by rw[rh]⟩
 obtain⟨o,aa⟩:=GC.En (cs:=cs) (cur:=cur) (eu:=eu) ao l aC bF an
 refine⟨_,_,_,al,?_,o,c3.trans aa⟩
 have:=bo.slice (ak:=ak.put H.length ⟨ek.heap.size,0,cur.size,R,l⟩) (b:=H.length) (i:=0) (k:=⟨ek.heap.size,0,cur.size,R,l⟩) (len:=len) (cap:=cap) (dM:=dM) (bl.oh _ _ _) ag hle gy J
  (fun bG=>by have:=bW bG;simp only;omega)
 simp only[rh]at this⊢
 exact this
def made(z:Value)(n:Nat):List Value:=(List.range n).map fun i=>z.cells[i % z.cells.size]!
theorem PJ(z:Value)(n:Nat):(Array.range n).map (fun i=>z.cells[i % z.cells.size]!)=(made z n).toArray:=by
 apply Array.ext'
 simp[made]
theorem PI{z:Value}(aQ:flat z=true)(iu:0<z.cells.size)(n:Nat):∀(i:Nat) (v:Value),(made z n)[i]?=some v->∃aw,(made z n).toArray[i]?=some aw/\bo ak v aw:=fun i v an=>by
 refine⟨v,by simpa using an,?_⟩
 simp only[made,List.getElem?_map,Option.map_eq_some_iff]at an
 obtain⟨j,-,rfl⟩:=an
 have a3:j % z.cells.size<z.cells.size:=Nat.mod_lt _ iu
 have e:z.cells[j % z.cells.size]! =z.cells[j % z.cells.size]:=by simp[a3]
 rw[e]
 exact(D1 aQ).2 _ _ _ (Array.getElem?_eq_getElem a3) (Array.getElem?_eq_getElem a3)
theorem Qx(f:Nat->Value):(Array.range 0).map f= #[]:=by apply Array.ext';simp
theorem wrap_small{n:Nat}(h:n<=281474976710656):IntKind.i64.wrap (n:Int)=n:=by
 have:=IntWalk.i64_in (n:Int) (by omega)
 exact this
theorem Tz{t e:TypeId}{R bI l c:Nat}{e6 dc:IntKind}{z:Value}(h:cC P base ak H w)(hu:P.underlying t=some (.slice e))(ao:bu P e=some R)(af:bytes? P e=some bI)(aQ:dL P e=some z)(eb:flat z=true)(dt:z.cells.size=R)
  (df:0<R)(eh:0<bI)(ma:l<=c)(ag:0<c)(bF:bI*c<=281474976710656):gm P base ak H w (Instr.makeSlice t (.int e6 l) (.int dc c)) (.slice (some ⟨H.length,0,none⟩) l c) (H++[.own e false (made z (c*R))]):=by
 have l7:c<=281474976710656:=Nat.le_trans (Nat.le_mul_of_pos_left _ eh) bF
 refine gm.C6 (ek:=w) (cur:=(made z (c*R)).toArray) (eu:=(0,0)) (l:=false) (cap:=c) (dM:=c) h ao rfl rfl rfl rfl ?_ (m8.zero _) (by simp) (PI eb (by omega) _) ag ma (Nat.le_refl _) (fun _=>rfl) (fun h=>by cases h)
 have nh:(typeInfo e).run P w=(match P.info? e with | some i=> .ok i w | none=> .halt (.stuck "no such type") w):=by
  unfold typeInfo;simp;cases P.info? e<;>rfl
 obtain⟨inf,ab,BP⟩:=Option.map_eq_some_iff.1 (show(P.info? e).map (·.bytes)=some bI from af)
 have aF:¬(c*R=0):=by have:=Nat.mul_pos ag df;omega
 have Nw:¬(281474976710656:Int)<(bI:Int)*(c:Int):=by
  have:((bI*c:Nat):Int)<=281474976710656:=by omega
  rw[Int.natCast_mul]at this
  omega
 have Gb:¬(c:Int)<(l:Int):=by omega
 have q8:¬(c:Int)<0:=by omega
 have Xn:¬(l:Int)<0:=by omega
 simp[Instr.makeSlice,run_underlying hu,asInt,asIntOf,nh,ab,BP,wrap_small (Nat.le_trans ma l7),wrap_small l7,Nw,Gb,q8,Xn,ld ao,aF,Dp aQ,newRow]
 rw[show c*R=c*R from rfl,<-PJ]
theorem TA{t e:TypeId}{R bI:Nat}{e6 dc:IntKind}(h:cC P base ak H w)(hu:P.underlying t=some (.slice e))(ao:bu P e=some R)(af:bytes? P e=some bI):
  gm P base ak H w (Instr.makeSlice t (.int e6 0) (.int dc 0)) (.slice (some ⟨0,0,none⟩) 0 0) H:=by
 obtain⟨inf,ab,BP⟩:=Option.map_eq_some_iff.1 (show(P.info? e).map (·.bytes)=some bI from af)
 have nh:(typeInfo e).run P w= .ok inf w:=by unfold typeInfo;simp[ab]
 refine gm.RP (x:= .cells #[] e) h ?_
 have ek:IntKind.i64.wrap 0=0:=by decide
 simp[Instr.makeSlice,run_underlying hu,asInt,asIntOf,nh,ek,ld ao,newRow]
 rw[Qx]
theorem Ts{t e:TypeId}{R len:Nat}{aM:Array (Nat×Operand)}{z:Value}{out:Array Value}(h:cC P base ak H w)(hu:P.underlying t=some (.slice e))(ao:bu P e=some R)(aQ:dL P e=some z)(eb:flat z=true)(dt:z.cells.size=R)
  (df:0<R)(au:0<len)(bF:len*R<=16777216)(aK:∀p∈aM,bo ak (aS p.2) (cO p.2))(aC:Instr.fill (fun i=>some (i*R,R)) (made z (len*R)).toArray (aM.toList.map fun p=>(p.1,aS p.2))=some out)(ur:out.size=len*R):
  gm P base ak H w (Instr.buildSlice t len (aM.map fun p=>(p.1,cO p.2))) (.slice (some ⟨H.length,0,none⟩) len len) (H++[.own e false out.toList]):=by
 have sE:∀p∈aM.toList,bo ak (aS p.2) (cO p.2):=fun p hm=>aK p (by simpa using hm)
 have hm:fw ak (made z (len*R)).toArray (made z (len*R)).toArray:=⟨rfl,fun i v aw an dC=>by
  obtain⟨u,o,aa⟩:=PI (ak:=ak) eb (by omega) (len*R) i v (by simpa using an)
  rw[dC]at o
  cases o
  exact aa⟩
 obtain⟨hE,o,aa⟩:=Bm (cO:=cO) _ aM.toList _ _ out sE hm aC
 refine gm.C6 (ek:=w) (cur:=hE) (eu:=(0,0)) (l:=false) (cap:=len) (dM:=len) h ao rfl rfl rfl rfl ?_ (m8.zero _) (by simp[aa.1]) (cX.ofArray aa) au (Nat.le_refl _) (Nat.le_refl _) (fun _=>rfl) (fun h=>by cases h)
 have aF:¬(len*R=0):=by have:=Nat.mul_pos au df;omega
 have Nw:¬(16777216<len*R):=by omega
 have dR:(aM.map fun p=>(p.1,cO p.2)).toList=aM.toList.map fun p=>(p.1,cO p.2):=by simp
 simp only[Instr.buildSlice,Sem.run_bind,run_underlying hu,Result.andThen_ok,ld ao]
 rw[if_neg (by omega),if_neg aF]
 simp only[Sem.run_bind,Dp aQ,Result.andThen_ok,Sem.run_pure]
 rw[PJ,dR,o]
 simp[newRow]
theorem Tt{t e:TypeId}{R:Nat}(h:cC P base ak H w)(hu:P.underlying t=some (.slice e))(ao:bu P e=some R):gm P base ak H w (Instr.buildSlice t 0 #[]) (.slice (some ⟨0,0,none⟩) 0 0) H:=by
 refine gm.RP (x:= .cells #[] e) h ?_
 simp[Instr.buildSlice,run_underlying hu,ld ao,newRow,Instr.fill]
 rw[Qx]
def fY(P:Program)(t:TypeId):Bool:=match P.underlying t with
 | some (.slice _) | some .string=>true
 | _=>false
theorem QY{t:TypeId}(h:fY P t=true):(∃e,P.underlying t=some (.slice e))\/P.underlying t=some .string:=by
 unfold fY at h
 split at h
 ·rename_i e he;exact .inl ⟨e,he⟩
 ·rename_i he;exact .inr he
 ·cases h
theorem H6{b4 cV e ty:TypeId}{R:Nat}{a:Option Addr}{len cap n:Nat}{x:Value}{news:List Value}(hu:P.underlying b4=some (.slice e))(J:fY P cV=true)(ao:bu P e=some R)
  (au:(Builtin.lenOf x).run P w= .ok n w)(aC:(Builtin.firstCells R n x).run P w= .ok news.toArray w)(hi:len+n<=cap){a9:World}(c3:(match a with | some tz=>storeCells (tz.add (len*R)) news | none=>pure ()).run P w= .ok () a9):
  (Builtin.append_ #[b4,cV] ty #[.slice a len cap,x]).run P w= .ok (.slice a (len+n) cap) a9:=by
 rcases QY J with⟨c0,aA⟩ | aA
 all_goals
  cases a with
  | none=>
   simp at c3
   subst c3
   simp[Builtin.append_,run_underlying hu,run_underlying aA,ld ao,au,hi,aC]
  | some tz=>
   simp at c3
   simp[Builtin.append_,run_underlying hu,run_underlying aA,ld ao,au,hi,aC,c3]
theorem QH{b4 cV e ty:TypeId}{R bI:Nat}{z:Value}{a:Option Addr}{len cap n:Nat}{x:Value}{uV news:List Value}(hu:P.underlying b4=some (.slice e))(J:fY P cV=true)(ao:bu P e=some R)(af:bytes? P e=some bI)(aQ:dL P e=some z)
  (au:(Builtin.lenOf x).run P w= .ok n w)(aC:∀a9:World,a9.heap=w.heap->(Builtin.firstCells R n x).run P a9= .ok news.toArray a9)(hL:∀a9:World,a9.heap=w.heap->(Builtin.firstCells R len (.slice a len cap)).run P a9= .ok uV.toArray a9)
  (hi:cap<len+n)(bF:(len+n)*bI<=140737488355328)(eh:0<bI):
  (Builtin.append_ #[b4,cV] ty #[.slice a len cap,x]).run P w= .ok (.slice (some ⟨w.heap.size,0,none⟩) (len+n) (grownCap w (len+n) cap e)) (w.drew.alloc (.cells (uV.toArray++news.toArray++Builtin.zeroCells z.cells (grownCap w (len+n) cap e-(len+n))) e)):=by
 obtain⟨inf,ab,BP⟩:=Option.map_eq_some_iff.1 (show(P.info? e).map (·.bytes)=some bI from af)
 have nh:∀a9:World,(typeInfo e).run P a9= .ok inf a9:=fun a9=>by unfold typeInfo;simp[ab]
 have aF:¬(len+n<=cap):=by omega
 have akd:len+n<=140737488355328:=Nat.le_trans (Nat.le_mul_of_pos_right _ eh) bF
 have ajY:¬(9223372036854775807<((len:Int)+(n:Int))):=by omega
 have aG:¬(bI=0):=by omega
 have r_:¬(281474976710656<Builtin.nextslicecap (len+n) cap*bI):=by have:=growslice_fits hi bF;omega
 have y0:=aC w.drew rfl
 have WD:=hL w.drew rfl
 rcases QY J with⟨c0,aA⟩ | aA
 all_goals simp[Builtin.append_,run_underlying hu,run_underlying aA,ld ao,au,aF,nh,BP,aG,r_,Question.forced,y0,WD,Dp aQ,newRow,grownCap]
 all_goals
  congr 2
  apply Array.ext'
  simp[List.append_assoc]
def oJ(b4 cV ty:TypeId)(s x:Value):Sem Value:=Builtin.append_ #[b4,cV] ty #[s,x]
theorem Tm{b4 cV e ty:TypeId}{R len cap m:Nat}{a:Option Addr}{x dp eN:Value}(h:cC P base ak H w)(hu:P.underlying b4=some (.slice e))(J:fY P cV=true)(ao:bu P e=some R)(dn:Src H R x m 0 [])(hm:m=0)(kI:bo ak (.slice a len cap) dp)(jD:bo ak x eN):
  gm P base ak H w (oJ b4 cV ty dp eN) (.slice a len cap) H:=by
 subst hm
 obtain⟨o,-,h7,aa,aE⟩:=u1 dn h jD
 have aF:h7=[]:=List.eq_nil_of_length_eq_zero (by simpa using aE.1.symm)
 subst aF
 obtain⟨eL,dA,rfl,hle,-⟩:=kI.rF
 refine⟨ak,_,w,H6 (a9:=w) hu J ao o (aa w rfl) hle ?_,kI,h,Step.refl _ _ _⟩
 cases eL<;>rfl
theorem R7(uV:List Value)(z:Value)(n:Nat):∀(i:Nat) (v:Value),uV[i]?=some v->(uV.toArray++Builtin.zeroCells z.cells n)[i]?=some v:=fun i v an=>by
 have a3:=(cn.1 an).1
 rw[Array.getElem?_append_left (by simpa using a3)]
 simpa using an
theorem Tq{b4 cV e ty:TypeId}{R bI n:Nat}{z:Value}{a:Option Addr}{x dp eN:Value}{news:List Value}(h:cC P base ak H w)(hu:P.underlying b4=some (.slice e))(J:fY P cV=true)(ao:bu P e=some R)(af:bytes? P e=some bI)(aQ:dL P e=some z)(dt:z.cells.size=R)
  (dn:Src H R x n n news)(aF:0<n)(eh:0<bI)(bF:n*bI<=140737488355328)(aL:a=none\/∃i,a=some ⟨0,i,none⟩)(kI:bo ak (.slice a 0 0) dp)(jD:bo ak x eN):
  gm P base ak H w (oJ b4 cV ty dp eN) (.slice (some ⟨H.length,0,none⟩) n n) (H++[.own e true news]):=by
 obtain⟨o,hlen,h7,aa,aE⟩:=u1 dn h jD
 obtain⟨eL,rfl⟩:∃eL,dp= .slice eL 0 0:=by
  rcases aL with rfl | ⟨i,rfl⟩
  ·cases kI;exact⟨_,rfl⟩
  ·cases kI with
   | void=>exact⟨_,rfl⟩
   | empty nR=>exact absurd rfl nR
   | slice ah ag=>omega
 have al:=QH (P:=P) (w:=w) (ty:=ty) (a:=eL) (len:=0) (cap:=0) (uV:=[]) hu J ao af aQ o aa (fun a9 _=>by cases eL<;>simp[Builtin.firstCells,loadCells,loadCellsFrom]) (by omega) (by simpa using bF) eh
 simp only[Nat.zero_add,List.nil_append]at al
 have h0:=grownCap_ge w n 0 e
 have dR:h7.length=n*R:=by rw[<-aE.1,hlen]
 refine gm.C6 (ek:=w.drew) (cap:=n) (l:=true) (eu:=(0,0)) h ao rfl rfl rfl rfl al (m8.zero _) (by simp[size_zeroCells,dR,hlen]) (fun i v an=>?_) aF (Nat.le_refl _) h0 (fun h=>by cases h) (fun _=>?_)
 ·obtain⟨aw,n3,jB⟩:=aE.get an
  exact⟨aw,by have:=R7 h7 z (grownCap w n 0 e-n) i aw n3;simpa using this,jB⟩
 ·simp[size_zeroCells,dR,dt,<-Nat.add_mul]
  rw[show n+(grownCap w n 0 e-n)=grownCap w n 0 e by omega]
  exact Nat.le_refl _
theorem To{b4 cV e ty:TypeId}{R b i len cap n:Nat}{l:Bool}{cs:List Value}{x dp eN:Value}{news:List Value}(h:cC P base ak H w)(hu:P.underlying b4=some (.slice e))(J:fY P cV=true)(ao:bu P e=some R)
  (dn:Src H R x n n news)(hi:len+n<=cap)(ag:0<cap)(aZ:H[b]?=some (.own e l cs))(bF:i+len*R+news.length<=cs.length)(hJ:(news.all (·.oneCell'))=true)(kI:bo ak (.slice (some ⟨b,i,none⟩) len cap) dp)(jD:bo ak x eN):
  gm P base ak H w (oJ b4 cV ty dp eN) (.slice (some ⟨b,i,none⟩) (len+n) cap) (H.set b (.own e l (dr cs (i+len*R) news))):=by
 obtain⟨o,hlen,h7,aa,aE⟩:=u1 dn h jD
 cases kI with
 | void=>omega
 | empty=>omega
 | slice ah mH hle gy pr bW=>
  rename_i k dM
  obtain⟨a9,al,s1,s2⟩:=HQ (i:=i+len*R) h ah aZ aE bF (fun v an=>by simpa using List.all_eq_true.1 hJ v an)
  refine⟨ak,_,a9,H6 (a9:=a9) hu J ao o (aa w rfl) (by omega) ?_,.slice ah ag hi gy pr bW,s1,s2⟩
  simp only[qH]
  rw[<-al]
  congr 3
  omega
theorem Mr{b4 cV e ty:TypeId}{R bI b i len dM n:Nat}{z:Value}{X:bN}{cs:List Value}{k:jo}{eN:Value}{news h7:List Value}(h:cC P base ak H w)(hu:P.underlying b4=some (.slice e))(J:fY P cV=true)(ao:bu P e=some R)(af:bytes? P e=some bI)(aQ:dL P e=some z)(dt:z.cells.size=R)
  (eh:0<bI)(bF:(len+n)*bI<=140737488355328)(ah:ak b=some k)(aZ:H[b]?=some X)(ag:X.cells?=some cs)(hL:i+len*R<=cs.length)(hi:dM<len+n)
  (o:(Builtin.lenOf eN).run P w= .ok n w)(hlen:news.length=n*R)(aa:∀a9:World,a9.heap=w.heap->(Builtin.firstCells R n eN).run P a9= .ok h7.toArray a9)(aE:cX ak news h7):
  gm P base ak H w (oJ b4 cV ty (.slice (some ⟨k.g,k.U+i,none⟩) len dM) eN) (.slice (some ⟨H.length,0,none⟩) (len+n) (len+n)) (H++[.own e true ((cs.drop i).take (len*R)++news)]):=by
 obtain⟨aH,uJ,k5,n4⟩:=h.cells ah aZ ag hL
 have al:=QH (P:=P) (w:=w) (ty:=ty) (a:=some ⟨k.g,k.U+i,none⟩) (len:=len) (cap:=dM) (uV:=aH) hu J ao af aQ o aa (fun a9 hw=>by
  simp only[Builtin.firstCells]
  rw[<-uJ]
  exact run_loadCells_list a9 _ aH fun j u hu=>by rw[Ey (w:=w) (by rw[hw])];exact k5 j u hu) hi bF eh
 have h0:=grownCap_ge w (len+n) dM e
 have dR:(aH++h7).length=(len+n)*R:=by rw[List.length_append,uJ,<-aE.1,hlen,Nat.add_mul]
 have gV:((cs.drop i).take (len*R)++news).length=(len+n)*R:=by rw[List.length_append,n4.1,uJ,hlen,Nat.add_mul]
 have Fg:=n4.append aE
 have TY:aH.toArray++h7.toArray++Builtin.zeroCells z.cells (grownCap w (len+n) dM e-(len+n))=(aH++h7).toArray++Builtin.zeroCells z.cells (grownCap w (len+n) dM e-(len+n)):=by simp
 rw[TY]at al
 refine gm.C6 (ek:=w.drew) (cap:=len+n) (l:=true) (eu:=(0,0)) h ao rfl rfl rfl rfl al (m8.zero _) (by rw[Array.size_append,List.size_toArray,dR,gV];omega) (fun j v an=>?_) (by omega) (Nat.le_refl _) h0 (fun h=>by cases h) (fun _=>?_)
 ·obtain⟨aw,n3,jB⟩:=Fg.get an
  exact⟨aw,R7 (aH++h7) z _ j aw n3,jB⟩
 ·rw[Array.size_append,List.size_toArray,dR,size_zeroCells,dt,<-Nat.add_mul,show len+n+(grownCap w (len+n) dM e-(len+n))=grownCap w (len+n) dM e by omega]
  exact Nat.le_refl _
theorem Tn{b4 cV e ty:TypeId}{R bI b i len cap n:Nat}{z:Value}{cs:List Value}{x dp eN:Value}{news:List Value}(h:cC P base ak H w)(hu:P.underlying b4=some (.slice e))(J:fY P cV=true)(ao:bu P e=some R)(af:bytes? P e=some bI)(aQ:dL P e=some z)(dt:z.cells.size=R)
  (dn:Src H R x n n news)(aF:0<n)(eh:0<bI)(bF:(len+n)*bI<=140737488355328)(aZ:H[b]?=some (.own e false cs))(hL:i+len*R<=cs.length)(hi:cap<len+n)(ag:0<cap)(kI:bo ak (.slice (some ⟨b,i,none⟩) len cap) dp)(jD:bo ak x eN):
  gm P base ak H w (oJ b4 cV ty dp eN) (.slice (some ⟨H.length,0,none⟩) (len+n) (len+n)) (H++[.own e true ((cs.drop i).take (len*R)++news)]):=by
 obtain⟨o,hlen,h7,aa,aE⟩:=u1 dn h jD
 cases kI with
 | void=>omega
 | empty=>omega
 | slice ah mH hle gy pr bW=>
  rename_i k dM
  have au:k.loose=false:=by cases h.fm b k _ ah aZ;assumption
  have:=pr au
  exact Mr h hu J ao af aQ dt eh bF ah aZ rfl hL (by omega) o hlen aa aE
theorem Tw{s:Sem Value}{v:Value}{b:Nat}{e:TypeId}{l:Bool}{cs:List Value}{X:bN}(h:cC P base ak H w)(aZ:H[b]?=some (.own e l cs))(aA:gm P base ak H w s v (H++[X])):gm P base ak H w s v (H.set b .dead++[X]):=by
 obtain⟨bD,aw,a9,aU,aO,bw,cj⟩:=aA
 have cZ:b<H.length:=(cn.1 aZ).1
 obtain⟨j2,k_⟩:=bw.kill b ⟨e,l,cs,by rw[yh cZ];exact aZ⟩
 have T7:(H++[X]).set b .dead=H.set b .dead++[X]:=by rw[List.set_append_left _ _ cZ]
 rw[T7]at j2 k_
 exact⟨bD,aw,a9,aU,aO,j2,cj.trans k_⟩
theorem Tp{b4 cV e ty:TypeId}{R bI b i len cap n:Nat}{z:Value}{cs:List Value}{x dp eN:Value}{news:List Value}(h:cC P base ak H w)(hu:P.underlying b4=some (.slice e))(J:fY P cV=true)(ao:bu P e=some R)(af:bytes? P e=some bI)(aQ:dL P e=some z)(dt:z.cells.size=R)
  (dn:Src H R x n n news)(aF:0<n)(eh:0<bI)(bF:(len+n)*bI<=140737488355328)(aZ:H[b]?=some (.own e true cs))(hL:i+len*R<=cs.length)(hi:cap<len+n)(ag:0<cap)(hJ:(news.all (·.oneCell'))=true)
  (kI:bo ak (.slice (some ⟨b,i,none⟩) len cap) dp)(jD:bo ak x eN):
  gm P base ak H w (oJ b4 cV ty dp eN) (.slice (some ⟨H.length,0,none⟩) (len+n) (len+n)) (H.set b .dead++[.own e true ((cs.drop i).take (len*R)++news)]):=by
 obtain⟨o,hlen,h7,aa,aE⟩:=u1 dn h jD
 cases kI with
 | void=>omega
 | empty=>omega
 | slice ah mH hle gy pr bW=>
  rename_i k dM
  have o2:=h.fm b k _ ah aZ
  cases o2 with
  | own ua hC ab df a1 U_ aC F1 an=>
  rename_i cur eu inf
  have B2:k.R=R:=by simp only[bu,ab,Option.map_some,Option.some.injEq]at ao;omega
  have U9:=bW hC
  rw[B2]at U9
  by_cases gz:len+n<=dM
  ·
   have hmul:len*R+n*R<=dM*R:=by rw[<-Nat.add_mul];exact Nat.mul_le_mul_right _ gz
   have uk:h7.length=n*R:=by rw[<-aE.1,hlen]
   have zd:∀v∈h7,v.oneCell'=true:=fun aw dC=>by
    obtain⟨j,aN⟩:=List.getElem?_of_mem dC
    have y6:j<news.length:=by rw[aE.1];exact(cn.1 aN).1
    rw[(aE.2 j _ _ (bs y6) aN).P7]
    simpa using List.all_eq_true.1 hJ _ (List.getElem_mem y6)
   have hj:=H8 (P:=P) k.g (k.U+i+len*R) e eu h7 0 cur w a1 (U_▸aC) (by omega) zd
   simp only[Nat.add_zero]at hj
   have gV:((cs.drop i).take (len*R)).length=len*R:=by simp;omega
   have N2:=h.Hz (i:=i) (da:=true) (eQ:=(cs.drop i).take (len*R)++news) (mA:=(dr cur.toList (k.U+i+len*R) h7).toArray) (eu:=eu) ah aZ ⟨cur,a1,by rw[List.size_toArray,om (by simp;omega)];simp⟩
    (by rw[List.size_toArray,om (by simp;omega),List.length_append,gV,hlen];simp;omega) (fun j v aN=>by
     have bn:(dr cur.toList (k.U+i+len*R) h7).toArray[k.U+i+j]?=(dr cur.toList (k.U+i+len*R) h7)[k.U+i+j]?:=by simp
     rw[bn,s9 (by simp;omega)]
     by_cases gg:j<len*R
     ·rw[if_neg (by omega)]
      rw[List.getElem?_append_left (by omega),List.getElem?_take_of_lt gg,List.getElem?_drop]at aN
      obtain⟨aw,aU,aO⟩:=an (i+j) v aN
      exact⟨aw,by simpa[Nat.add_assoc]using aU,aO⟩
     ·rw[List.getElem?_append_right (by omega),gV]at aN
      have o_:j-len*R<news.length:=(cn.1 aN).1
      rw[if_pos (by omega),show k.U+i+j-(k.U+i+len*R)=j-len*R by omega]
      exact aE.get aN)
   refine⟨_,_,_,H6 hu J ao o (aa w rfl) gz (by simp only[qH];exact hj),?_,N2.1,N2.2⟩
   have:=bo.slice (ak:=ak.put H.length ⟨k.g,k.U+i,k.N,k.R,true⟩) (b:=H.length) (i:=0) (k:=⟨k.g,k.U+i,k.N,k.R,true⟩) (len:=len+n) (cap:=len+n) (dM:=dM) (bl.oh _ _ _) (by omega) (Nat.le_refl _) gz (fun h=>by cases h)
    (fun _=>by simp only;rw[B2];omega)
   simpa using this
  ·
   have y3:=Mr (b4:=b4) (cV:=cV) (ty:=ty) (bI:=bI) (z:=z) (eN:=eN) (len:=len) (n:=n) (i:=i) (dM:=dM) h hu J ao af aQ dt eh bF ah aZ rfl hL (by omega) o hlen aa aE
   exact Tw h aZ y3
theorem Tu{iL b4 e ty:TypeId}{R b i lY qN m n:Nat}{l:Bool}{cs:List Value}{x fM eN:Value}{news:List Value}(h:cC P base ak H w)(hu:P.underlying iL=some (.slice e))(ao:bu P e=some R)(dn:Src H R x m n news)(aF:n=min m lY)(jz:0<n)
  (aZ:H[b]?=some (.own e l cs))(bF:i+news.length<=cs.length)(hJ:(news.all (·.oneCell'))=true)(zz:bo ak (.slice (some ⟨b,i,none⟩) lY qN) fM)(jD:bo ak x eN):
  gm P base ak H w (Builtin.copy_ #[iL,b4] ty #[fM,eN]) (.int .i64 n) (H.set b (.own e l (dr cs i news))):=by
 obtain⟨o,hlen,h7,aa,aE⟩:=u1 dn h jD
 obtain⟨k,dM,ah,rfl,-⟩:=zz.Dz (by omega)
 obtain⟨a9,al,s1,s2⟩:=HQ (i:=i) h ah aZ aE bF (fun v an=>by simpa using List.all_eq_true.1 hJ v an)
 have h1:Nat.min m lY=n:=aF.symm
 exact⟨ak,.int .i64 n,a9,by simp[Builtin.copy_,run_underlying hu,o,h1,ld ao,aa w rfl,al,goInt],.int _ _,s1,s2⟩
theorem Tv{iL b4 e ty:TypeId}{R lY qN m:Nat}{a:Option Addr}{x fM eN:Value}(h:cC P base ak H w)(hu:P.underlying iL=some (.slice e))(ao:bu P e=some R)(dn:Src H R x m 0 [])(aF:min m lY=0)(zz:bo ak (.slice a lY qN) fM)(jD:bo ak x eN):
  gm P base ak H w (Builtin.copy_ #[iL,b4] ty #[fM,eN]) (.int .i64 0) H:=by
 obtain⟨o,hlen,h7,aa,aE⟩:=u1 dn h jD
 have Xp:h7=[]:=List.eq_nil_of_length_eq_zero (by simpa using aE.1.symm)
 subst Xp
 obtain⟨eL,dA,rfl,-⟩:=zz.rF
 have h1:Nat.min m lY=0:=aF
 refine⟨ak,.int .i64 0,w,?_,.int _ _,h,Step.refl _ _ _⟩
 cases eL<;>simp[Builtin.copy_,run_underlying hu,o,h1,ld ao,aa w rfl,goInt,storeCells]
end
section
variable {P:Program} {base:Nat} {ak:bl} {H:ad} {w:World}
theorem TI{src dst e:TypeId}{x eN:Value}{n:Nat}{xs:List Int}(h:cC P base ak H w)(ao:P.underlying src=some (.slice e))(he:P.underlying e=some (.int .u8))(aA:P.underlying dst=some .string)
  (mc:∃a len c,x= .slice a len c)(dn:Src H 1 x n n (xs.map (Value.int .u8)))(jD:bo ak x eN):gm P base ak H w (convert src dst eN) (.string (strOfNums xs)) H:=by
 obtain⟨a,len,c,rfl⟩:=mc
 generalize y_:xs.map (Value.int .u8)=news at dn
 cases dn with
 | xJ=>
  have J:xs=[]:=by simpa using y_
  subst J
  obtain⟨eL,dA,rfl,-⟩:=jD.rF
  refine⟨ak,.string (strOfNums []),w,?_,.str _,h,Step.refl _ _ _⟩
  cases eL with
  | none=>rw[run_convert_bytes_nil w src e ao he _ _ dst aA];rfl
  | some tz=>
   rw[run_convert_bytes_string w src dst e (some tz) 0 dA ao he aA,run_bytesToString w _ 0 dA [] (by simp[loadCells,loadCellsFrom]),foldl_push_bytes]
   rfl
 | row J ag aF hm bF=>
  rename_i b i X cs
  obtain⟨k,dM,ah,rfl,-⟩:=jD.Dz (by omega)
  obtain⟨aH,au,k5,al⟩:=h.cells ah J ag bF
  have hlen:xs.length=n:=by
   have:=congrArg List.length y_
   have aa:=al.1
   simp only[List.length_map]at this
   omega
  refine⟨ak,.string (strOfNums xs),w,run_convert_bytes_arg w src e ao he _ _ n dM xs hlen (fun j aN=>?_) dst aA,.str _,h,Step.refl _ _ _⟩
  have mK:((cs.drop i).take (n*1))[j]?=some (.int .u8 (xs.getD j 0)):=by
   rw[<-y_]
   simp[bs (show j<xs.length by omega),List.getD_eq_getElem?_getD]
  obtain⟨aw,n3,jB⟩:=al.get mK
  have:=k5 j aw n3
  rw[qH]at this
  rw[this,jB.pt]
end
inductive fx (P:Program) (aS:Operand->Value) (H:ad) (U:Oper):Value->ad->Prop
 | uU {v:Value} (ao:∀cs b,U.op≠ .select cs b) (aC:(U.op.operands.all fun x=>flat (aS x))=true) (an:flat v=true) (h:dK P (execOp aS U)=some (.value v)):fx P aS H U v H
 | alloc {e:TypeId} {z:Value} {n:Nat} (h:U.op= .alloc e) (aQ:dL P e=some z) (eb:flat z=true) (ao:bu P e=some n):fx P aS H U (.pointer (some ⟨H.length,0,none⟩)) (H++[.own e false z.cells.toList])
 | box {e:TypeId} {x:Operand} {n:Nat} (h:U.op= .box e x) (ao:bu P e=some n):fx P aS H U (.pointer (some ⟨H.length,0,none⟩)) (H++[.own e false (aS x).cells.toList])
 | zT {t:TypeId} {x:Operand} {b i:Nat} {X:bN} {cs:List Value} {v:Value} (h:U.op= .load t x) (aL:dk P t=some false) (J:aS x= .pointer (some ⟨b,i,none⟩)) (aZ:H[b]?=some X) (ag:X.cells?=some cs) (an:cs[i]?=some v):fx P aS H U v H
 | zU {t:TypeId} {x:Operand} {b i n:Nat} {X:bN} {cs:List Value} (h:U.op= .load t x) (aL:dk P t=some true) (ao:bu P t=some n) (J:aS x= .pointer (some ⟨b,i,none⟩)) (aZ:H[b]?=some X) (ag:X.cells?=some cs) (bF:i+n<=cs.length):
   fx P aS H U (.agg ((cs.drop i).take n).toArray) H
 | store {t:TypeId} {x y:Operand} {b i:Nat} {e:TypeId} {l:Bool} {cs:List Value} (h:U.op= .store t x y) (ao:bu P t=some (aS y).cells.size) (J:aS x= .pointer (some ⟨b,i,none⟩)) (aZ:H[b]?=some (.own e l cs)) (bF:i+(aS y).cells.size<=cs.length)
   (o:((aS y).cells.toList.all (·.oneCell'))=true):fx P aS H U undef (H.set b (.own e l (dr cs i (aS y).cells.toList)))
 | slice {t e:TypeId} {x:Operand} {bg ab:Option Operand} {R b i len cap l db:Nat} {X:bN} (h:U.op= .slice t x bg ab none) (hu:P.underlying t=some (.slice e)) (ao:bu P e=some R) (J:aS x= .slice (some ⟨b,i,none⟩) len cap) (aZ:H[b]?=some X) (he:X.elem?=some e)
   (au:ea aS bg=some l) (eX:fo aS len ab=some db) (o:l<=db) (aa:db<=cap) (a3:l<cap):fx P aS H U (.slice (some ⟨b,i+l*R,none⟩) (db-l) (cap-l)) H
 | Al {t e:TypeId} {x:Operand} {bg ab:Option Operand} {R b i len cap:Nat} (h:U.op= .slice t x bg ab none) (hu:P.underlying t=some (.slice e)) (ao:bu P e=some R) (J:aS x= .slice (some ⟨b,i,none⟩) len cap) (sm:0<cap)
   (au:ea aS bg=some cap) (eX:fo aS len ab=some cap):fx P aS H U (.slice (some ⟨b,i,none⟩) 0 0) H
 | Am {t e:TypeId} {x:Operand} {bg ab:Option Operand} {R:Nat} {a:Option Addr} (h:U.op= .slice t x bg ab none) (hu:P.underlying t=some (.slice e)) (ao:bu P e=some R) (J:aS x= .slice a 0 0)
   (au:ea aS bg=some 0) (eX:fo aS 0 ab=some 0):fx P aS H U (.slice a 0 0) H
 | Dy {t e:TypeId} {x bg ab fH:Operand} {R len cap l:Nat} {a:Addr} (h:U.op= .slice t x (some bg) (some ab) (some fH)) (hu:P.underlying t=some (.slice e)) (ao:bu P e=some R) (J:aS x= .slice (some a) len cap)
   (au:ea aS (some bg)=some l) (eX:ea aS (some ab)=some l) (hm:ea aS (some fH)=some l) (aE:l<=cap):fx P aS H U (.slice (some ⟨0,0,none⟩) 0 0) H
 | Dx {t e:TypeId} {x bg ab fH:Operand} {R:Nat} (h:U.op= .slice t x (some bg) (some ab) (some fH)) (hu:P.underlying t=some (.slice e)) (ao:bu P e=some R) (J:aS x= .slice none 0 0)
   (au:ea aS (some bg)=some 0) (eX:ea aS (some ab)=some 0) (hm:ea aS (some fH)=some 0):fx P aS H U (.slice none 0 0) H
 | make {t e:TypeId} {x y:Operand} {R bI l c:Nat} {e6 dc:IntKind} {z:Value} (h:U.op= .makeSlice t x y) (hu:P.underlying t=some (.slice e)) (ao:bu P e=some R) (af:bytes? P e=some bI) (aQ:dL P e=some z) (eb:flat z=true) (dt:z.cells.size=R)
   (J:aS x= .int e6 (l:Int)) (aP:aS y= .int dc (c:Int)) (df:0<R) (eh:0<bI) (ma:l<=c) (ag:0<c) (bF:bI*c<=281474976710656):fx P aS H U (.slice (some ⟨H.length,0,none⟩) l c) (H++[.own e false (made z (c*R))])
 | zZ {t e:TypeId} {x y:Operand} {R bI:Nat} {e6 dc:IntKind} (h:U.op= .makeSlice t x y) (hu:P.underlying t=some (.slice e)) (ao:bu P e=some R) (af:bytes? P e=some bI) (J:aS x= .int e6 0) (aP:aS y= .int dc 0):
   fx P aS H U (.slice (some ⟨0,0,none⟩) 0 0) H
 | build {t e:TypeId} {R len:Nat} {aM:Array (Nat×Operand)} {z:Value} {out:Array Value} (h:U.op= .buildSlice t len aM) (hu:P.underlying t=some (.slice e)) (ao:bu P e=some R) (aQ:dL P e=some z) (eb:flat z=true) (dt:z.cells.size=R)
   (df:0<R) (au:0<len) (bF:len*R<=16777216) (aC:Instr.fill (fun i=>some (i*R,R)) (made z (len*R)).toArray (aM.toList.map fun p=>(p.1,aS p.2))=some out) (ur:out.size=len*R):
   fx P aS H U (.slice (some ⟨H.length,0,none⟩) len len) (H++[.own e false out.toList])
 | x4 {t e:TypeId} {R:Nat} (h:U.op= .buildSlice t 0 #[]) (hu:P.underlying t=some (.slice e)) (ao:bu P e=some R):fx P aS H U (.slice (some ⟨0,0,none⟩) 0 0) H
 | xW {b4 cV e:TypeId} {s x:Operand} {R len cap:Nat} {a:Option Addr} (h:U.op= .call {callee:= .builtin .append,args:= #[s,x],argTypes:= #[b4,cV]}) (hu:P.underlying b4=some (.slice e)) (J:fY P cV=true) (ao:bu P e=some R) (dn:Src H R (aS x) 0 0 [])
   (an:aS s= .slice a len cap):fx P aS H U (.slice a len cap) H
 | x0 {b4 cV e:TypeId} {s x:Operand} {R bI n:Nat} {z:Value} {a:Option Addr} {news:List Value} (h:U.op= .call {callee:= .builtin .append,args:= #[s,x],argTypes:= #[b4,cV]}) (hu:P.underlying b4=some (.slice e)) (J:fY P cV=true) (ao:bu P e=some R)
   (af:bytes? P e=some bI) (aQ:dL P e=some z) (dt:z.cells.size=R) (dn:Src H R (aS x) n n news) (aF:0<n) (eh:0<bI) (bF:n*bI<=140737488355328) (aL:a=none\/∃i,a=some ⟨0,i,none⟩) (an:aS s= .slice a 0 0):
   fx P aS H U (.slice (some ⟨H.length,0,none⟩) n n) (H++[.own e true news])
 | xY {b4 cV e:TypeId} {s x:Operand} {R b i len cap n:Nat} {l:Bool} {cs:List Value} {news:List Value} (h:U.op= .call {callee:= .builtin .append,args:= #[s,x],argTypes:= #[b4,cV]}) (hu:P.underlying b4=some (.slice e)) (J:fY P cV=true) (ao:bu P e=some R)
   (dn:Src H R (aS x) n n news) (hi:len+n<=cap) (ag:0<cap) (aZ:H[b]?=some (.own e l cs)) (bF:i+len*R+news.length<=cs.length) (hJ:(news.all (·.oneCell'))=true) (an:aS s= .slice (some ⟨b,i,none⟩) len cap):
   fx P aS H U (.slice (some ⟨b,i,none⟩) (len+n) cap) (H.set b (.own e l (dr cs (i+len*R) news)))
 | xX {b4 cV e:TypeId} {s x:Operand} {R bI b i len cap n:Nat} {z:Value} {cs:List Value} {news:List Value} (h:U.op= .call {callee:= .builtin .append,args:= #[s,x],argTypes:= #[b4,cV]}) (hu:P.underlying b4=some (.slice e)) (J:fY P cV=true) (ao:bu P e=some R)
   (af:bytes? P e=some bI) (aQ:dL P e=some z) (dt:z.cells.size=R) (dn:Src H R (aS x) n n news) (aF:0<n) (eh:0<bI) (bF:(len+n)*bI<=140737488355328) (aZ:H[b]?=some (.own e false cs)) (hL:i+len*R<=cs.length) (hi:cap<len+n) (ag:0<cap)
   (an:aS s= .slice (some ⟨b,i,none⟩) len cap):fx P aS H U (.slice (some ⟨H.length,0,none⟩) (len+n) (len+n)) (H++[.own e true ((cs.drop i).take (len*R)++news)])
 | xZ {b4 cV e:TypeId} {s x:Operand} {R bI b i len cap n:Nat} {z:Value} {cs:List Value} {news:List Value} (h:U.op= .call {callee:= .builtin .append,args:= #[s,x],argTypes:= #[b4,cV]}) (hu:P.underlying b4=some (.slice e)) (J:fY P cV=true) (ao:bu P e=some R)
   (af:bytes? P e=some bI) (aQ:dL P e=some z) (dt:z.cells.size=R) (dn:Src H R (aS x) n n news) (aF:0<n) (eh:0<bI) (bF:(len+n)*bI<=140737488355328) (aZ:H[b]?=some (.own e true cs)) (hL:i+len*R<=cs.length) (hi:cap<len+n) (ag:0<cap)
   (hJ:(news.all (·.oneCell'))=true) (an:aS s= .slice (some ⟨b,i,none⟩) len cap):fx P aS H U (.slice (some ⟨H.length,0,none⟩) (len+n) (len+n)) (H.set b .dead++[.own e true ((cs.drop i).take (len*R)++news)])
 | copy {iL b4 e:TypeId} {d x:Operand} {R b i lY qN m n:Nat} {l:Bool} {cs:List Value} {news:List Value} (h:U.op= .call {callee:= .builtin .copy,args:= #[d,x],argTypes:= #[iL,b4]}) (hu:P.underlying iL=some (.slice e)) (ao:bu P e=some R) (dn:Src H R (aS x) m n news)
   (aF:n=min m lY) (jz:0<n) (aZ:H[b]?=some (.own e l cs)) (bF:i+news.length<=cs.length) (hJ:(news.all (·.oneCell'))=true) (an:aS d= .slice (some ⟨b,i,none⟩) lY qN):fx P aS H U (.int .i64 n) (H.set b (.own e l (dr cs i news)))
 | x9 {iL b4 e:TypeId} {d x:Operand} {R lY qN m:Nat} {a:Option Addr} (h:U.op= .call {callee:= .builtin .copy,args:= #[d,x],argTypes:= #[iL,b4]}) (hu:P.underlying iL=some (.slice e)) (ao:bu P e=some R) (dn:Src H R (aS x) m 0 []) (aF:min m lY=0)
   (an:aS d= .slice a lY qN):fx P aS H U (.int .i64 0) H
 | str {src dst e:TypeId} {x:Operand} {n:Nat} {xs:List Int} (h:U.op= .convert src dst x) (ao:P.underlying src=some (.slice e)) (he:P.underlying e=some (.int .u8)) (aA:P.underlying dst=some .string) (mc:∃a len c,aS x= .slice a len c)
   (dn:Src H 1 (aS x) n n (xs.map (Value.int .u8))):fx P aS H U (.string (strOfNums xs)) H
theorem PR{P:Program}{base:Nat}{ak:bl}{H aI:ad}{w:World}{aS cO:Operand->Value}{U:Oper}{v:Value}(h:fx P aS H U v aI)(bP:cC P base ak H w)(dy:∀x∈U.op.operands,bo ak (aS x) (cO x)):
  ∃bD aw a9,((execOp cO U).run P w= .ok (.value aw) a9\/((execOp cO U).run P w= .ok .skip a9/\aw=undef))/\bo bD v aw/\cC P base bD aI a9/\Step ak H w bD aI a9:=by
 have fin:∀{s:Sem Value} {v:Value} {aI:ad},gm P base ak H w s v aI->(∀aw a9,s.run P w= .ok aw a9->(execOp cO U).run P w= .ok (.value aw) a9)->
   ∃bD aw a9,((execOp cO U).run P w= .ok (.value aw) a9\/((execOp cO U).run P w= .ok .skip a9/\aw=undef))/\bo bD v aw/\cC P base bD aI a9/\Step ak H w bD aI a9:=by
  intro s v aI ⟨bD,aw,a9,aU,aO,bw,cj⟩ al
  exact⟨bD,aw,a9,.inl (al _ _ aU),aO,bw,cj⟩
 cases h with
 | uU ao aC an h=>
  have he:execOp aS U=execOp cO U:=execOp_congr U ao fun x J=>(Mj (by simpa using Array.all_eq_true'.1 aC x J) (dy x J)).symm
  exact⟨ak,v,w,.inl (s0 _ _ (he▸h) w),vN ak an,bP,Step.refl _ _ _⟩
 | alloc h aQ eb ao=>exact fin (Tl bP aQ eb ao) fun aw a9 al=>by simp[execOp,h,al]
 | box h ao=>exact fin (Tr bP (dy _ (by simp[h,Op.operands])) ao) fun aw a9 al=>by simp[execOp,h,al]
 | zT h aL J aZ ag an=>exact fin (Tx bP aL (J▸dy _ (by simp[h,Op.operands])) aZ ag an) fun aw a9 al=>by simp[execOp,h,al]
 | zU h aL ao J aZ ag bF=>exact fin (Ty bP aL ao (J▸dy _ (by simp[h,Op.operands])) aZ ag bF) fun aw a9 al=>by simp[execOp,h,al]
 | store h ao J aZ bF o=>
  obtain⟨a9,al,s1,s2⟩:=TH bP ao (J▸dy _ (by simp[h,Op.operands])) (dy _ (by simp[h,Op.operands])) aZ bF o
  exact⟨ak,undef,a9,.inr ⟨by simp[execOp,h,al],rfl⟩,bo.undef ak,s1,s2⟩
 | slice h hu ao J aZ he au eX o aa a3=>
  refine fin (TB bP hu ao (J▸dy _ (by simp[h,Op.operands])) aZ he (fun y aP=>dy y ?_) (fun y aP=>dy y ?_) au eX o aa a3) fun aw a9 al=>by simp[execOp,h,al]
  ·simp[h,Op.operands,aP]
  ·simp[h,Op.operands,aP]
 | Al h hu ao J sm au eX=>
  refine fin (TE bP hu ao (J▸dy _ (by simp[h,Op.operands])) sm (fun y aP=>dy y ?_) (fun y aP=>dy y ?_) au eX) fun aw a9 al=>by simp[execOp,h,al]
  ·simp[h,Op.operands,aP]
  ·simp[h,Op.operands,aP]
 | Am h hu ao J au eX=>
  refine fin (TF bP hu ao (J▸dy _ (by simp[h,Op.operands])) (fun y aP=>dy y ?_) (fun y aP=>dy y ?_) au eX) fun aw a9 al=>by simp[execOp,h,al]
  ·simp[h,Op.operands,aP]
  ·simp[h,Op.operands,aP]
 | Dy h hu ao J au eX hm aE=>exact fin (TD bP hu ao (J▸dy _ (by simp[h,Op.operands])) (dy _ (by simp[h,Op.operands])) (dy _ (by simp[h,Op.operands])) (dy _ (by simp[h,Op.operands])) au eX hm aE) fun aw a9 al=>by simp[execOp,h,al]
 | Dx h hu ao J au eX hm=>exact fin (TC bP hu ao (J▸dy _ (by simp[h,Op.operands])) (dy _ (by simp[h,Op.operands])) (dy _ (by simp[h,Op.operands])) (dy _ (by simp[h,Op.operands])) au eX hm) fun aw a9 al=>by simp[execOp,h,al]
 | make h hu ao af aQ eb dt J aP df eh ma ag bF=>
  have bn:=(J▸dy _ (by simp[h,Op.operands])).pt
  have bj:=(aP▸dy _ (by simp[h,Op.operands])).pt
  rename_i t e x y R bI l c e6 dc z
  exact fin (Tz (e6:=e6) (dc:=dc) bP hu ao af aQ eb dt df eh ma ag bF) fun aw a9 al=>by simp[execOp,h,bn,bj,al]
 | zZ h hu ao af J aP=>
  have bn:=(J▸dy _ (by simp[h,Op.operands])).pt
  have bj:=(aP▸dy _ (by simp[h,Op.operands])).pt
  rename_i t e x y R bI e6 dc
  exact fin (TA (e6:=e6) (dc:=dc) bP hu ao af) fun aw a9 al=>by simp[execOp,h,bn,bj,al]
 | build h hu ao aQ eb dt df au bF aC ur=>exact fin (Ts bP hu ao aQ eb dt df au bF (fun p aK=>dy p.2 (by simp[h,Op.operands];exact⟨p.1,by simpa using aK⟩)) aC ur) fun aw a9 al=>by simp[execOp,h,al]
 | x4 h hu ao=>exact fin (Tt bP hu ao) fun aw a9 al=>by simp[execOp,h,al]
 | xW h hu J ao dn an=>exact fin (Tm (ty:=U.type) bP hu J ao dn rfl (an▸dy _ (by simp[h,Op.operands,Call.operands])) (dy _ (by simp[h,Op.operands,Call.operands]))) fun aw a9 al=>by simp[oJ]at al;simp[execOp,h,resolve,invoke,builtin,al]
 | x0 h hu J ao af aQ dt dn aF eh bF aL an=>
  exact fin (Tq (ty:=U.type) bP hu J ao af aQ dt dn aF eh bF aL (an▸dy _ (by simp[h,Op.operands,Call.operands])) (dy _ (by simp[h,Op.operands,Call.operands]))) fun aw a9 al=>by simp[oJ]at al;simp[execOp,h,resolve,invoke,builtin,al]
 | xY h hu J ao dn hi ag aZ bF hJ an=>
  exact fin (To (ty:=U.type) bP hu J ao dn hi ag aZ bF hJ (an▸dy _ (by simp[h,Op.operands,Call.operands])) (dy _ (by simp[h,Op.operands,Call.operands]))) fun aw a9 al=>by simp[oJ]at al;simp[execOp,h,resolve,invoke,builtin,al]
 | xX h hu J ao af aQ dt dn aF eh bF aZ hL hi ag an=>
  exact fin (Tn (ty:=U.type) bP hu J ao af aQ dt dn aF eh bF aZ hL hi ag (an▸dy _ (by simp[h,Op.operands,Call.operands])) (dy _ (by simp[h,Op.operands,Call.operands]))) fun aw a9 al=>by simp[oJ]at al;simp[execOp,h,resolve,invoke,builtin,al]
 | xZ h hu J ao af aQ dt dn aF eh bF aZ hL hi ag hJ an=>
  exact fin (Tp (ty:=U.type) bP hu J ao af aQ dt dn aF eh bF aZ hL hi ag hJ (an▸dy _ (by simp[h,Op.operands,Call.operands])) (dy _ (by simp[h,Op.operands,Call.operands]))) fun aw a9 al=>by simp[oJ]at al;simp[execOp,h,resolve,invoke,builtin,al]
 | copy h hu ao dn aF jz aZ bF hJ an=>
  rename_i iL b4 e d x R b i lY qN m n l cs news
  exact fin (Tu (ty:=U.type) (b4:=b4) bP hu ao dn aF jz aZ bF hJ (an▸dy _ (by simp[h,Op.operands,Call.operands])) (dy _ (by simp[h,Op.operands,Call.operands]))) fun aw a9 al=>by simp[execOp,h,resolve,invoke,builtin,al]
 | x9 h hu ao dn aF an=>
  rename_i iL b4 e d x R lY qN m a
  exact fin (Tv (ty:=U.type) (b4:=b4) bP hu ao dn aF (an▸dy _ (by simp[h,Op.operands,Call.operands])) (dy _ (by simp[h,Op.operands,Call.operands]))) fun aw a9 al=>by simp[execOp,h,resolve,invoke,builtin,al]
 | str h ao he aA mc dn=>exact fin (TI bP ao he aA mc dn (dy _ (by simp[h,Op.operands]))) fun aw a9 al=>by simp[execOp,h,al]
def fD(t:List Value):Operand->Value
 | .tmp i=>t.getD i undef
 | .const v=>v
 | .global g=> .pointer (some ⟨0,g,some 0⟩)
 | .func f=> .func (.func f) #[] #[]
def od:Operand->Bool
 | .const v=>flat v
 | _=>true
def fu(t:List Value)(dst:Option Tmp)(v:Value):List Value:=match dst with
 | some d=>t.set d v
 | none=>t
def hp(ops:Array Oper)(t:List Value)(j:Nat):Option Bool:=
 match((ops[j]?).bind (·.dst)).bind (t[·]?)with
 | some (.bool b)=>some b
 | _=>none
inductive dS where
 | normal
 | exit (id:Nat)
 | ret
 deriving DecidableEq
def dS.real:dS->Exit
 | .normal=> .normal
 | .exit id=> .exit id
 | .ret=> .ret
inductive m6 (P:Program) (t:List Value) (H:ad):List ResultVar->List Value->Prop
 | nil:m6 P t H [] []
 | tmp {i:Nat} {rs:List ResultVar} {aH:List Value} (ao:m6 P t H rs aH):m6 P t H (.tmp i::rs) (t.getD i undef::aH)
 | A7 {a:Nat} {ty:TypeId} {b i:Nat} {X:bN} {cs:List Value} {v:Value} {rs:List ResultVar} {aH:List Value} (aL:dk P ty=some false) (J:t.getD a undef= .pointer (some ⟨b,i,none⟩)) (aZ:H[b]?=some X) (ag:X.cells?=some cs) (an:cs[i]?=some v)
   (ao:m6 P t H rs aH):m6 P t H (.cell a ty::rs) (v::aH)
 | A8 {a:Nat} {ty:TypeId} {b i n:Nat} {X:bN} {cs:List Value} {rs:List ResultVar} {aH:List Value} (aL:dk P ty=some true) (aF:bu P ty=some n) (J:t.getD a undef= .pointer (some ⟨b,i,none⟩)) (aZ:H[b]?=some X) (ag:X.cells?=some cs) (bF:i+n<=cs.length)
   (ao:m6 P t H rs aH):m6 P t H (.cell a ty::rs) (.agg ((cs.drop i).take n).toArray::aH)
def bf(aH:List Value):Value:=match aH with
 | [v]=>v
 | _=> .tuple aH.toArray
def Ext(H aI:ad):Prop:=∃N,aI=H++N/\∀x∈N,∀e cs,x≠ .ro e cs
def T0(ops:Array Oper):Bool:=ops.toList.zipIdx.all fun ry=>ry.1.after.all fun e=> !Region.binds .any e || decide (e.on<ry.2)
def abH(ops:Array Oper)(m:Array Nat):Bool:=ops.toList.zipIdx.all fun ry=>(List.range ops.size).all fun j=>
 !(m.getD ry.2 0).testBit j || ry.1.after.any fun e=>Region.binds .any e&&(e.on==j || (decide (e.on<ry.2)&&(m.getD e.on 0).testBit j))
def pU(m:Array Nat)(i j:Nat):Bool:=(m.getD j 0).testBit i
def adQ(ops:Array Oper)(m:Array Nat):Bool:=ops.toList.zipIdx.all fun qA=>ops.toList.zipIdx.all fun fI=> !decide (fI.2<qA.2) || pU m fI.2 qA.2 ||
 ((match fI.1.dst with | some d=> !(qA.1.looksAt ops).contains d&&qA.1.dst !=some d | none=>true)&&(match qA.1.dst with | some d=> !(fI.1.looksAt ops).contains d | none=>true))
def ha(ops:Array Oper):Bool:=T0 ops&&abH ops (Region.before ops)&&adQ ops (Region.before ops)
def eU(P:Program)(ops:Array Oper)(i:Nat):Bool:=ops.toList.zipIdx.all fun qA=>bZ P qA.1 || decide (qA.2=i) || pU (Region.before ops) (min i qA.2) (max i qA.2)
inductive qD where
 | code (c:Code) (t:List Value) (H:ad)
 | op (ops:Array Oper) (U:Oper) (t:List Value) (H:ad)
 | call (f:FuncId) (args:List Value) (H:ad)
inductive Out where
 | code (e:dS) (t:List Value) (H:ad)
 | val (v:Value) (H:ad)
def nx(H:ad)(b:Nat):Option bN->ad
 | some x=>H.set b x
 | none=>H
def pM(P:Program)(ops:Array Oper)(U:Oper)(t:List Value)(H:ad)(v:Value)(H1:ad):Option (Nat×Option bN)->Prop
 | none=>(Region.wanted U (hp ops t)=false\/bZ P U=true)/\H1=H
 | some (b,y)=>Region.wanted U (hp ops t)=true/\bZ P U=false/\b<H.length/\H[b]?≠some .dead/\H1=nx H b y/\∀aI:ad,aI[b]?=H[b]?->fx P (fD t) aI U v (nx aI b y)
inductive ef (P:Program):qD->Out->Prop
 | skip {t:List Value} {H:ad}:ef P (.code .skip t H) (.code .normal t H)
 | ret {t:List Value} {H:ad}:ef P (.code .ret t H) (.code .ret t H)
 | exit {id:Nat} {t:List Value} {H:ad}:ef P (.code (.exit id) t H) (.code (.exit id) t H)
 | Dr {a b:Code} {t t1:List Value} {H H1:ad} {e:dS} {t2:List Value} {aT:ad} (o:ef P (.code a t H) (.code .normal t1 H1)) (aa:ef P (.code b t1 H1) (.code e t2 aT)):ef P (.code (.seq a b) t H) (.code e t2 aT)
 | Ag {a b:Code} {t t1:List Value} {H H1:ad} {e:dS} (o:ef P (.code a t H) (.code e t1 H1)) (he:e≠ .normal):ef P (.code (.seq a b) t H) (.code e t1 H1)
 | cond {c:Operand} {x y:Code} {b:Bool} {t t1:List Value} {H H1:ad} {e:dS} (ag:fD t c= .bool b) (ah:od c=true) (h:ef P (.code (if b then x else y) t H) (.code e t1 H1)):ef P (.code (.cond c x y) t H) (.code e t1 H1)
 | block {id:Nat} {c:Code} {t t1:List Value} {H H1:ad} {e:dS} (h:ef P (.code c t H) (.code e t1 H1)):ef P (.code (.block id c) t H) (.code (if e= .exit id then .normal else e) t1 H1)
 | C0 {c:Code} {t t1 t2:List Value} {H H1 aT:ad} {e:dS} (o:ef P (.code c t H) (.code .normal t1 H1)) (aa:ef P (.code (.loop c) t1 H1) (.code e t2 aT)):ef P (.code (.loop c) t H) (.code e t2 aT)
 | zV {c:Code} {t t1:List Value} {H H1:ad} {e:dS} (o:ef P (.code c t H) (.code e t1 H1)) (he:e≠ .normal):ef P (.code (.loop c) t H) (.code e t1 H1)
 | region {id:Nat} {ops:Array Oper} {draw:Bool} (T:Nat->List Value) (V:Nat->Value) (a6:Nat->ad) (ah:(ops.all fun U=>U.op.operands.all od)=true)
   (h:∀(i:Nat) (U:Oper),ops[i]?=some U->ef P (.op ops U (T i) (a6 i)) (.val (V i) (a6 (i+1)))) (bd:∀(i:Nat) (U:Oper),ops[i]?=some U->T (i+1)=fu (T i) U.dst (V i))
   (aA:draw=true->ha ops=true/\∀(i:Nat) (U:Oper),ops[i]?=some U->bZ P U=false->eU P ops i=true\/Ext (a6 i) (a6 (i+1))):ef P (.code (.region id ops draw) (T 0) (a6 0)) (.code .normal (T ops.size) (a6 ops.size))
 | Dm {id:Nat} {ops:Array Oper} {draw:Bool} (T:Nat->List Value) (V:Nat->Value) (a6:Nat->ad) (ep:Nat->Option (Nat×Option bN)) (ah:(ops.all fun U=>U.op.operands.all od)=true)
   (h:∀(i:Nat) (U:Oper),ops[i]?=some U->ef P (.op ops U (T i) (a6 i)) (.val (V i) (a6 (i+1)))) (bd:∀(i:Nat) (U:Oper),ops[i]?=some U->T (i+1)=fu (T i) U.dst (V i)) (eK:ha ops=true)
   (au:∀(i:Nat) (U:Oper),ops[i]?=some U->pM P ops U (T i) (a6 i) (V i) (a6 (i+1)) (ep i)) (aA:∀(i j:Nat) (b:Nat) (x:bN) (y:Option bN),ep i=some (b,some x)->ep j=some (b,y)->i≠j->eU P ops i=true\/eU P ops j=true) (wT:∀j,ops.size<=j->ep j=none):
   ef P (.code (.region id ops draw) (T 0) (a6 0)) (.code .normal (T ops.size) (a6 ops.size))
 | uW {ops:Array Oper} {U:Oper} {t:List Value} {H:ad} (hw:Region.wanted U (hp ops t)=false):ef P (.op ops U t H) (.val undef H)
 | xc {ops:Array Oper} {U:Oper} {t:List Value} {H:ad} {v:Value} (hw:Region.wanted U (hp ops t)=true) (a7:bZ P U=true) (h:ic P (fD t) U v):ef P (.op ops U t H) (.val v H)
 | sW {ops:Array Oper} {U:Oper} {t:List Value} {H H1:ad} {v:Value} (hw:Region.wanted U (hp ops t)=true) (a7:bZ P U=false) (h:fx P (fD t) H U v H1):ef P (.op ops U t H) (.val v H1)
 | xb {ops:Array Oper} {U:Oper} {t:List Value} {H H1:ad} {v:Value} {f:Operand} {args:Array Operand} {lX:Array TypeId} {g:FuncId} {first cap:Array Value} {fn:Func} (hw:Region.wanted U (hp ops t)=true) (a7:bZ P U=false)
   (aW:U.op= .call {callee:= .value f,args:=args,argTypes:=lX}) (aC:fD t f= .func (.func g) first cap) (a1:P.funcs[g]?=some fn) (aF:(fn.name== "runtime.NumGoroutine")=false) (af:fn.body.isSome=true)
   (h:ef P (.call g (first.toList++args.toList.map (fD t)++cap.toList) H) (.val v H1)):ef P (.op ops U t H) (.val v H1)
 | call {f:FuncId} {fn:Func} {c:Code} {args t1 aH:List Value} {H H1:ad} {e:dS} (aC:P.funcs[f]?=some fn) (af:fn.body=some c) (h:ef P (.code c (args++List.replicate (fn.ntmps-args.length) undef) H) (.code e t1 H1))
   (he:e= .normal\/e= .ret) (al:m6 P t1 H1 fn.results.toList aH):ef P (.call f args H) (.val (bf aH) H1)
 | A6 {f:FuncId} {args:List Value} {v:Value} {H H1:ad} {b:Nat} (h:ef P (.call f args H) (.val v H1)) (aW:ie H1 b):ef P (.call f args H) (.val v (H1.set b .dead))
def vr(P:Program)(base:Nat)(ops:Array Oper)(U:Oper)(t:List Value)(H:ad)(v:Value)(H1:ad):Prop:=
 (Region.wanted U (hp ops t)=false/\v=undef/\H1=H)\/
 (Region.wanted U (hp ops t)=true/\bZ P U=true/\ic P (fD t) U v/\H1=H)\/
 (Region.wanted U (hp ops t)=true/\bZ P U=false/\∀(ak:bl) (w:World) (a:Act),(∀x∈U.op.operands,bo ak (fD t x) (a.eval x))->cC P base ak H w->∀(K:Act->World->Prop) (Q:Exit->Act->World->Prop),
  (∀bD aw a9,bo bD v aw->cC P base bD H1 a9->Step ak H w bD H1 a9->K (a.put U.dst aw) a9)->U.wp P a w K Q)
def Sound(P:Program)(base:Nat):qD->Out->Prop
 | .code c t H,.code e t1 H1=>∀(ak:bl) (w:World) (a:Act),cX ak t a.tmps.toList->a.defers=[]->cC P base ak H w->∀(Q:Exit->Act->World->Prop),
   (∀bD b3 a9,cX bD t1 b3.tmps.toList->b3.defers=[]->cC P base bD H1 a9->Step ak H w bD H1 a9->Q e.real b3 a9)->c.wp P Q a w
 | .op ops U t H,.val v H1=>vr P base ops U t H v H1
 | .call f args H,.val v H1=>∀(ak:bl) (w:World) (lW:Array Value),cX ak args lW.toList->cC P base ak H w->
   Calls P f lW w fun e g1=>∃aw bD,e= .returned aw/\bo bD v aw/\cC P base bD H1 g1/\Step ak H w bD H1 g1
 | _,_=>True
theorem Ai{ak:bl}{t:List Value}{a:Act}(h:cX ak t a.tmps.toList){x:Operand}(J:od x=true):bo ak (fD t x) (a.eval x):=by
 cases x with
 | tmp i=>
  have:=h.getD i
  simpa[fD,Act.eval,Array.getD_eq_getD_getElem?,List.getD_eq_getElem?_getD]using this
 | const v=>exact vN ak J
 | global g=>exact .tK g
 | func f=>exact .func _ rfl (fun i v aw h=>by simp at h) rfl (fun i v aw h=>by simp at h)
theorem acr{ak:bl}{t:List Value}{a:Act}(h:cX ak t a.tmps.toList)(dst:Option Tmp){v aw:Value}(an:bo ak v aw):cX ak (fu t dst v) (a.put dst aw).tmps.toList:=by
 cases dst with
 | none=>exact h
 | some d=>
  simp only[fu,Act.put,Array.toList_setIfInBounds]
  exact h.set d an
theorem put_defers(a:Act)(dst:Option Tmp)(v:Value):(a.put dst v).defers=a.defers:=by cases dst<;>rfl
theorem bo.hy{ak:bl}{v aw:Value}(h:bo ak v aw):(match(some v:Option Value)with | some (.bool b)=>some b | _=>(none:Option Bool))=match(some aw:Option Value)with | some (.bool b)=>some b | _=>none:=by
 cases h<;>rfl
theorem ahX{ak:bl}{t:List Value}{a:Act}(h:cX ak t a.tmps.toList)(ops:Array Oper)(j:Nat):yielded ops a.tmps j=hp ops t j:=by
 unfold yielded hp
 cases aA:(ops[j]?).bind (·.dst)with
 | none=>rfl
 | some d=>
  simp only[Option.bind_some]
  by_cases a3:d<t.length
  ·have o:=bs a3
   obtain⟨aw,aa,aE⟩:=h.get o
   have vP:a.tmps[d]?=some aw:=by simpa using aa
   rw[o,vP]
   exact aE.hy.symm
  ·have aG:t.length<=d:=Nat.le_of_not_lt a3
   have o:t[d]?=none:=List.getElem?_eq_none aG
   have aa:a.tmps[d]?=none:=by
    have:=h.1
    rw[Array.getElem?_eq_none_iff]
    simp at this
    exact this▸aG
   rw[o,aa]
theorem IS{U:Oper}{f g:Nat->Option Bool}(h:∀j b,U.guard=some (j,b)->f j=g j):Region.wanted U f=Region.wanted U g:=by
 unfold Region.wanted
 cases a1:U.guard with
 | none=>rfl
 | some w2=>simp only[h w2.1 w2.2 a1]
theorem HG{P:Program}{base:Nat}{ops:Array Oper}{T:Nat->List Value}{V:Nat->Value}{a6:Nat->ad}{Q:Exit->Act->World->Prop}(ah:(ops.all fun U=>U.op.operands.all od)=true)
  (h:∀(i:Nat) (U:Oper),ops[i]?=some U->vr P base ops U (T i) (a6 i) (V i) (a6 (i+1)))(bd:∀(i:Nat) (U:Oper),ops[i]?=some U->T (i+1)=fu (T i) U.dst (V i)){jb:bl}{ek:World}
  (aD:∀bD b3 a9,cX bD (T ops.size) b3.tmps.toList->b3.defers=[]->cC P base bD (a6 ops.size) a9->Step jb (a6 0) ek bD (a6 ops.size) a9->Q .normal b3 a9):∀(m k:Nat),k+m=ops.size->∀(ak:bl) (a:Act) (w:World),cX ak (T k) a.tmps.toList->a.defers=[]->
  cC P base ak (a6 k) w->Step jb (a6 0) ek ak (a6 k) w->wpOps P ops Q (List.range' k m) a w
 | 0,k,km,ak,a,w,c1,il,bP,c3=>by
  have:k=ops.size:=by omega
  subst this
  exact aD ak a w c1 il bP c3
 | m+1,k,km,ak,a,w,c1,il,bP,c3=>by
  have a3:k<ops.size:=by omega
  have aW:ops[k]?=some ops[k]:=Array.getElem?_eq_getElem a3
  have cd:∀x∈ops[k].op.operands,bo ak (fD (T k) x) (a.eval x):=fun x J=>Ai c1 (by
   have o:=Array.all_eq_true.1 ah k a3
   simpa using Array.all_eq_true'.1 o x J)
  have hw:Region.wanted ops[k] (yielded ops a.tmps)=Region.wanted ops[k] (hp ops (T k)):=IS fun j _ _=>ahX c1 ops j
  rw[List.range'_succ,wpOps_cons]
  unfold wpOp
  simp only[aW,hw]
  have next:∀bD aw a9,bo bD (V k) aw->cC P base bD (a6 (k+1)) a9->Step ak (a6 k) w bD (a6 (k+1)) a9->wpOps P ops Q (List.range' (k+1) m) (a.put ops[k].dst aw) a9:=fun bD aw a9 an hZ mO=>by
   refine HG ah h bd aD m (k+1) (by omega) bD _ a9 ?_ (by rw[put_defers];exact il) hZ (c3.trans mO)
   rw[bd k _ aW]
   exact acr (c1.ext mO.ext) _ an
  rcases h k _ aW with⟨o,aa,aE⟩ | ⟨o,aa,aE,bA⟩ | ⟨o,aa,aE⟩
  ·rw[o]
   exact next ak undef w (aa▸bo.undef ak) (aE▸bP) (aE▸Step.refl _ _ _)
  ·rw[o]
   obtain⟨aw,al,an⟩:=ER aE cd w
   refine .inl ?_
   unfold Oper.wp
   rw[al]
   exact next ak aw w an (bA▸bP) (bA▸Step.refl _ _ _)
  ·rw[o]
   exact .inl (aE ak w a cd bP _ _ next)
end Go.cl
end
