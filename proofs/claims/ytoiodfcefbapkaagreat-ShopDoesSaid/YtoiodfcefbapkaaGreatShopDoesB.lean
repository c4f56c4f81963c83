/- Part of the proof of ShopDoes. -/
import Derived.Test.YtoiodfcefbapkaaGreatShopDoesA
set_option linter.unusedVariables false
set_option linter.unusedSimpArgs false
section
namespace Go.dq
def bm.below(aj:bm)(n:Nat):bm:=fun b=>if b<n then aj b else none
theorem bm.jq{aj:bm}{n b:Nat}{k:iR}(h:aj.below n b=some k):b<n/\aj b=some k:=by
 unfold bm.below at h
 split at h
 ·exact⟨by assumption,h⟩
 ·cases h
theorem bm.Di{aj:bm}{n b:Nat}{k:iR}(ag:b<n)(h:aj b=some k):aj.below n b=some k:=by simp[bm.below,ag,h]
def j5(n:Nat)(v:Value):Prop:=∃(aj:bm) (au:Value),(∀b k,aj b=some k->b<n)/\bo aj v au
theorem j5.mono{n m:Nat}{v:Value}(h:j5 n v)(E8:n<=m):j5 m v:=by
 obtain⟨aj,au,o,aa⟩:=h
 exact⟨aj,au,fun b k ag=>Nat.lt_of_lt_of_le (o b k ag) E8,aa⟩
theorem j5.of{aj:bm}{n:Nat}{v au:Value}(aD:∀b k,aj b=some k->b<n)(h:bo aj v au):j5 n v:=⟨aj,au,aD,h⟩
theorem bo.restrict{aj:bm}{n:Nat}{v au:Value}(h:bo aj v au):j5 n v->bo (aj.below n) v au:=by
 have arr:∀{xs bS CU:Array Value} {oZ:bm},(∀b k,oZ b=some k->b<n)->xs.size=bS.size->xs.size=CU.size->(∀(i:Nat) (v au:Value),xs[i]?=some v->bS[i]?=some au->j5 n v->bo (aj.below n) v au)->
   (∀(i:Nat) (v au:Value),xs[i]?=some v->CU[i]?=some au->bo oZ v au)->∀(i:Nat) (v au:Value),xs[i]?=some v->bS[i]?=some au->bo (aj.below n) v au:=by
  intro xs bS CU oZ mh ar dK a1 aM i v au J aI
  obtain⟨af,-⟩:=Array.getElem?_eq_some_iff.1 J
  have Xv:i<CU.size:=dK▸af
  exact a1 i v au J aI ⟨oZ,_,mh,aM i v _ J (Array.getElem?_eq_getElem Xv)⟩
 induction h with
 | bool b=>exact fun _=> .bool b
 | int k n=>exact fun _=> .int k n
 | float k n=>exact fun _=> .float k n
 | str s=>exact fun _=> .str s
 | B3=>exact fun _=> .B3
 | ptr h=>
  rintro⟨oZ,u,mh,hu⟩
  obtain⟨k,ak,-⟩:=hu.sc
  exact .ptr (bm.Di (mh _ _ ak) h)
 | s5 g=>exact fun _=> .s5 g
 | r_=>exact fun _=> .r_
 | void i a=>exact fun _=> .void i a
 | empty ag a c=>exact fun _=> .empty ag a c
 | slice h ae ar gb J bP=>
  rintro⟨oZ,u,mh,hu⟩
  cases hu with
  | void=>omega
  | empty=>omega
  | slice cA=>exact .slice (bm.Di (mh _ _ cA) h) ae ar gb J bP
 | agg ar _ a1=>
  rintro⟨oZ,u,mh,hu⟩
  cases hu with
  | agg dK aM=>exact .agg ar (arr mh ar dK a1 aM)
 | tuple ar _ a1=>
  rintro⟨oZ,u,mh,hu⟩
  cases hu with
  | tuple dK aM=>exact .tuple ar (arr mh ar dK a1 aM)
 | func fn ar _ iM _ a1 qF=>
  rintro⟨oZ,u,mh,hu⟩
  cases hu with
  | func _ dK aM Mm jg=>exact .func fn ar (arr mh ar dK a1 aM) iM (arr mh iM Mm qF jg)
 | nilFunc=>exact fun _=> .nilFunc
 | iface t _ a1=>
  rintro⟨oZ,u,mh,hu⟩
  cases hu with
  | iface _ aM=>exact .iface t (a1 ⟨oZ,_,mh,aM⟩)
 | nilIface=>exact fun _=> .nilIface
 | B2=>exact fun _=> .B2
theorem Ext.refl(H:ab):Ext H H:=⟨[],by simp,by simp⟩
theorem Ext.trans{A B C:ab}(h:Ext A B)(cA:Ext B C):Ext A C:=by
 obtain⟨N,rfl,bP⟩:=h
 obtain⟨M,rfl,jv⟩:=cA
 exact⟨N++M,by simp,fun x J=>(List.mem_append.1 J).elim (bP x) (jv x)⟩
theorem Ext.len{A B:ab}(h:Ext A B):A.length<=B.length:=by obtain⟨N,rfl,-⟩:=h;simp
theorem Ext.get{A B:ab}(h:Ext A B){b:Nat}(ag:b<A.length):B[b]?=A[b]?:=by obtain⟨N,rfl,-⟩:=h;exact List.getElem?_append_left ag
theorem Ext.get_some{A B:ab}(h:Ext A B){b:Nat}{x:bO}(ag:A[b]?=some x):B[b]?=some x:=by rw[h.get (cJ.1 ag).1];exact ag
theorem Ext.new{A B:ab}(h:Ext A B){b:Nat}{x:bO}(ag:A.length<=b)(J:B[b]?=some x):∀e cs,x≠ .ro e cs:=by
 obtain⟨N,rfl,bP⟩:=h
 rw[List.getElem?_append_right ag]at J
 exact bP x (List.mem_of_getElem? J)
theorem qG{H aF:ab}{b:Nat}(h:H[b]?=aF[b]?):hW H b↔hW aF b:=by unfold hW;rw[h]
theorem yH{H aF:ab}{b:Nat}(h:H[b]?=aF[b]?):lR H b↔lR aF b:=by unfold lR;rw[h]
section
variable {ops:Array Oper}
theorem yX{i:Nat}{U:Oper}(h:ops[i]?=some U):(U,i)∈ops.toList.zipIdx:=by
 rw[List.mem_zipIdx_iff_getElem?]
 simpa using h
theorem SK(h:gX ops=true){i:Nat}{U:Oper}(aQ:ops[i]?=some U){e:Edge}(he:e∈U.after)(ag:Region.binds .any e=true):e.on<i:=by
 simp only[gX,Bool.and_eq_true]at h
 have:=List.all_eq_true.1 h.1.1 _ (yX aQ)
 have:=Array.all_eq_true'.1 this e he
 simpa[ag]using this
theorem Z_(h:gX ops=true){i j:Nat}{U:Oper}(aQ:ops[i]?=some U)(aY:j<ops.size)(ag:o9 (Region.before ops) j i=true):
  ∃e,e∈U.after/\Region.binds .any e=true/\(e.on=j\/(e.on<i/\o9 (Region.before ops) j e.on=true)):=by
 simp only[gX,Bool.and_eq_true]at h
 have o:=List.all_eq_true.1 h.1.2 _ (yX aQ)
 have aa:=List.all_eq_true.1 o j (List.mem_range.2 aY)
 simp only[o9]at ag
 rw[ag]at aa
 simp only[Bool.not_true,Bool.false_or,Array.any_eq_true']at aa
 obtain⟨e,he,aA⟩:=aa
 simp only[Bool.and_eq_true,Bool.or_eq_true,beq_iff_eq,decide_eq_true_eq]at aA
 exact⟨e,he,aA.1,aA.2⟩
theorem G2(h:gX ops=true){i j:Nat}{x y:Oper}(af:ops[i]?=some x)(aY:ops[j]?=some y)(qo:i<j):o9 (Region.before ops) i j=true\/
  ((∀d,x.dst=some d->d∉y.looksAt ops/\y.dst≠some d)/\∀d,y.dst=some d->d∉x.looksAt ops):=by
 simp only[gX,Bool.and_eq_true]at h
 have o:=List.all_eq_true.1 h.2 _ (yX aY)
 have aa:=List.all_eq_true.1 o _ (yX af)
 simp only[qo,decide_true,Bool.not_true,Bool.false_or,Bool.or_eq_true]at aa
 rcases aa with aa | aa
 ·exact .inl aa
 ·refine .inr ?_
  simp only[Bool.and_eq_true]at aa
  constructor
  ·intro d aD
   have:=aa.1
   simp only[aD,Bool.and_eq_true,Bool.not_eq_true',bne_iff_ne]at this
   exact⟨by simpa using this.1,this.2⟩
  ·intro d aD
   have:=aa.2
   simp only[aD,Bool.not_eq_true']at this
   simpa using this
theorem uD{P:Program}{i j:Nat}{y:Oper}(h:eO P ops i=true)(aY:ops[j]?=some y)(a_:bW P y=false)(cF:j≠i):o9 (Region.before ops) (min i j) (max i j)=true:=by
 have:=List.all_eq_true.1 h _ (yX aY)
 simpa[a_,cF]using this
def pU(ops:Array Oper)(X:Nat->Bool):Prop:=∀i U e,X i=true->ops[i]?=some U->e∈U.after->Region.binds .any e=true->X e.on=true
def la(ops:Array Oper)(X:Nat->Bool)(i:Nat)(U:Oper):Prop:=ops[i]?=some U/\X i=false/\∀e,e∈U.after->Region.binds .any e=true->X e.on=true
theorem uK(h:gX ops=true){X:Nat->Bool}(ae:pU ops X):∀(i:Nat) (U:Oper),ops[i]?=some U->(∀e,e∈U.after->Region.binds .any e=true->X e.on=true)->∀j,j<ops.size->o9 (Region.before ops) j i=true->X j=true:=by
 intro i
 induction i using Nat.strongRecOn with
 | _ i a1=>
  intro U aQ al j aY ag
  obtain⟨e,he,mJ,o | ⟨o,aa⟩⟩:=Z_ h aQ aY ag
  ·rw[<-o];exact al e he mJ
  ·have aW:=al e he mJ
   have aZ:e.on<ops.size:=Nat.lt_trans o (Array.getElem?_eq_some_iff.1 aQ).1
   exact a1 e.on o ops[e.on] (Array.getElem?_eq_getElem aZ) (fun c5 oy df=>ae e.on _ c5 aW (Array.getElem?_eq_getElem aZ) oy df) j aY aa
theorem z5(h:gX ops=true){X:Nat->Bool}(ae:pU ops X){i j:Nat}(af:i<ops.size)(aW:X i=true)(aY:j<ops.size)(ag:o9 (Region.before ops) j i=true):X j=true:=
 uK h ae i ops[i] (Array.getElem?_eq_getElem af) (fun e he mJ=>ae i _ e aW (Array.getElem?_eq_getElem af) he mJ) j aY ag
def e4(X:Nat->Bool)(i:Nat):Nat->Bool:=fun j=>decide (j=i) || X j
theorem z6{X:Nat->Bool}(ae:pU ops X){i:Nat}{U:Oper}(al:la ops X i U):pU ops (e4 X i):=by
 intro j kF e aW aQ he ag
 simp only[e4,Bool.or_eq_true,decide_eq_true_eq]at aW⊢
 rcases aW with rfl | aW
 ·rw[al.1]at aQ
  obtain rfl:=Option.some.inj aQ
  exact .inr (al.2.2 e he ag)
 ·exact .inr (ae j kF e aW aQ he ag)
def wr(ops:Array Oper)(d:Tmp)(j:Nat):Bool:=match ops[j]? with
 | some U=>U.dst==some d
 | none=>false
theorem uo{d:Tmp}{j:Nat}:wr ops d j=true↔∃U,ops[j]?=some U/\U.dst=some d:=by
 unfold wr
 cases h:ops[j]?<;>simp
theorem uq{d:Tmp}{j:Nat}(h:wr ops d j=true):j<ops.size:=by
 obtain⟨U,aQ,-⟩:=uo.1 h
 exact(Array.getElem?_eq_some_iff.1 aQ).1
def zW(ops:Array Oper)(X:Nat->Bool)(d:Tmp)(j:Nat):Prop:=X j=true/\wr ops d j=true/\∀ek,X ek=true->wr ops d ek=true->ek<=j
open Classical in
noncomputable def cur(ops:Array Oper)(V:Nat->Value)(t0:List Value)(X:Nat->Bool)(d:Tmp):Value:=
 if h:∃j,zW ops X d j then V h.choose else t0.getD d undef
theorem Kk{V:Nat->Value}{t0:List Value}{X:Nat->Bool}{d:Tmp}{j:Nat}(o:X j=true)(aa:wr ops d j=true)(aA:∀ek,X ek=true->wr ops d ek=true->ek<=j):cur ops V t0 X d=V j:=by
 unfold cur
 have h:∃j,zW ops X d j:=⟨j,o,aa,aA⟩
 rw[dif_pos h]
 have ae:=h.choose_spec
 have:=aA _ ae.1 ae.2.1
 have:=ae.2.2 j o aa
 congr 1
 omega
theorem Dt{V:Nat->Value}{t0:List Value}{X:Nat->Bool}{d:Tmp}(h:∀j,X j=true->wr ops d j=false):cur ops V t0 X d=t0.getD d undef:=by
 unfold cur
 rw[dif_neg]
 rintro⟨j,o,aa,-⟩
 rw[h j o]at aa
 cases aa
theorem w1{V:Nat->Value}{t0:List Value}{X Y:Nat->Bool}{d:Tmp}(h:∀j,wr ops d j=true->X j=Y j):cur ops V t0 X d=cur ops V t0 Y d:=by
 have e:zW ops X d=zW ops Y d:=by
  funext j
  apply propext
  constructor
  ·rintro⟨o,aa,aA⟩;exact⟨h j aa▸o,aa,fun ek a0 a4=>aA ek ((h ek a4).symm▸a0) a4⟩
  ·rintro⟨o,aa,aA⟩;exact⟨(h j aa).symm▸o,aa,fun ek a0 a4=>aA ek (h ek a4▸a0) a4⟩
 unfold cur
 rw[e]
theorem RL(V:Nat->Value)(t0:List Value)(X:Nat->Bool)(d:Tmp):(∃j,X j=true/\wr ops d j=true/\cur ops V t0 X d=V j)\/cur ops V t0 X d=t0.getD d undef:=by
 unfold cur
 split
 ·rename_i h
  exact .inl ⟨h.choose,h.choose_spec.1,h.choose_spec.2.1,rfl⟩
 ·exact .inr rfl
theorem o7{T:Nat->List Value}{V:Nat->Value}(bf:∀(i:Nat) (U:Oper),ops[i]?=some U->T (i+1)=fj (T i) U.dst (V i)):∀i,i<=ops.size->(T i).length=(T 0).length
 | 0,_=>rfl
 | i+1,h=>by
  have aZ:i<ops.size:=by omega
  rw[bf i _ (Array.getElem?_eq_getElem aZ)]
  have:=o7 bf i (by omega)
  unfold fj
  split<;>simp[this]
theorem wM{T:Nat->List Value}{V:Nat->Value}(bf:∀(i:Nat) (U:Oper),ops[i]?=some U->T (i+1)=fj (T i) U.dst (V i)):∀i,i<=ops.size->∀d,d<(T 0).length->(T i).getD d undef=cur ops V (T 0) (fun j=>decide (j<i)) d
 | 0,_,d,aD=>by rw[Dt];intro j aY;simp at aY
 | i+1,h,d,aD=>by
  have aZ:i<ops.size:=by omega
  have aQ:=Array.getElem?_eq_getElem aZ
  have a1:=wM bf i (by omega) d aD
  have hlen:=o7 bf i (by omega)
  rw[bf i _ aQ]
  by_cases hw:wr ops d i=true
  ·obtain⟨U,fF,xM⟩:=uo.1 hw
   rw[aQ]at fF
   obtain rfl:=Option.some.inj fF
   rw[Kk (j:=i) (by simp) hw (fun ek o _=>by simp at o;omega)]
   simp only[fj,xM]
   simp[List.getD_eq_getElem?_getD,List.getElem?_set,hlen,aD]
  ·have cF:ops[i].dst≠some d:=fun e=>hw (uo.2 ⟨_,aQ,e⟩)
   rw[w1 (Y:=fun j=>decide (j<i)) (fun j aY=>?_),<-a1]
   ·unfold fj
    split
    ·rename_i fD jT
     have:fD≠d:=fun e=>cF (e▸jT)
     simp[List.getD_eq_getElem?_getD,List.getElem?_set,this]
    ·rfl
   ·have:j≠i:=fun e=>hw (e▸aY)
    simp only[decide_eq_decide]
    omega
theorem Pa(h:gX ops=true){X:Nat->Bool}(ae:pU ops X){i:Nat}{U:Oper}(al:la ops X i U){d:Tmp}(aD:d∈U.looksAt ops\/U.dst=some d):∀j,wr ops d j=true->X j=decide (j<i):=by
 intro j aY
 obtain⟨y,aI,oP⟩:=uo.1 aY
 have gf:j<ops.size:=uq aY
 have cK:i<ops.size:=(Array.getElem?_eq_some_iff.1 al.1).1
 rcases Nat.lt_trichotomy j i with aZ | heq | po
 ·rcases G2 h aI al.1 aZ with ag | ⟨o,aa⟩
  ·rw[uK h ae i U al.1 al.2.2 j gf ag];simp[aZ]
  ·rcases aD with aD | aD
   ·exact absurd aD (o d oP).1
   ·exact absurd aD (o d oP).2
 ·subst heq;rw[al.2.1];simp
 ·have aW:X j=false:=by
   cases UG:X j with
   | false=>rfl
   | true=>
    rcases G2 h al.1 aI po with ag | ⟨o,aa⟩
    ·have:=z5 h ae gf UG cK ag
     rw[al.2.1]at this
     cases this
    ·rcases aD with aD | aD
     ·exact absurd aD (aa d oP)
     ·exact absurd oP (o d aD).2
  rw[aW]
  simp
  omega
theorem Kj(h:gX ops=true){X:Nat->Bool}(ae:pU ops X){i:Nat}{U:Oper}(al:la ops X i U){V:Nat->Value}{t0:List Value}{d:Tmp}(aD:d∈U.looksAt ops\/U.dst=some d):
  cur ops V t0 X d=cur ops V t0 (fun j=>decide (j<i)) d:=w1 (Pa h ae al aD)
theorem z9(h:gX ops=true){X:Nat->Bool}(ae:pU ops X){i:Nat}{U:Oper}(al:la ops X i U){V:Nat->Value}{t0:List Value}(d:Tmp):cur ops V t0 (e4 X i) d=if U.dst=some d then V i else cur ops V t0 X d:=by
 have cK:i<ops.size:=(Array.getElem?_eq_some_iff.1 al.1).1
 split
 ·rename_i aD
  refine Kk (by simp[e4]) (uo.2 ⟨U,al.1,aD⟩) fun ek o aa=>?_
  simp only[e4,Bool.or_eq_true,decide_eq_true_eq]at o
  rcases o with rfl | o
  ·exact Nat.le_refl _
  ·obtain⟨y,aI,oP⟩:=uo.1 aa
   rcases Nat.lt_or_ge i ek with aZ | hh
   ·rcases G2 h al.1 aI aZ with ag | ⟨a0,a4⟩
    ·have:=z5 h ae (uq aa) o cK ag
     rw[al.2.1]at this
     cases this
    ·exact absurd oP (a0 d aD).2
   ·exact hh
 ·rename_i aD
  refine w1 fun j aY=>?_
  have:j≠i:=fun e=>by
   obtain⟨y,aI,oP⟩:=uo.1 aY
   subst e
   rw[al.1]at aI
   obtain rfl:=Option.some.inj aI
   exact aD oP
  simp[e4,this]
end
def ri(s bh j:Nat):Nat:=if j<s then s else if j<bh then j+1 else bh
def nh(s bh j:Nat):Nat:=if j<s then s else if j<bh then j else bh
structure Inv (P:Program) (base:Nat) (ops:Array Oper) (T:Nat->List Value) (V:Nat->Value) (a3:Nat->ab) (iH:bm) (ei:World) (X:Nat->Bool) (s bh:Nat) (aj:bm) (a:Act) (w:World):Prop where
 closed:pU ops X
 dw:s<=bh
 iC:bh<=ops.size
 abB:∀j U,s<=j->j<bh->ops[j]?=some U->bW P U=false->eO P ops j=false
 before:∀j U,j<s->ops[j]?=some U->bW P U=false->X j=true
 after:∀j U,bh<=j->ops[j]?=some U->bW P U=false->X j=false
 stop:bh=ops.size\/∃U,ops[bh]?=some U/\bW P U=false/\eO P ops bh=true
 ji:ct P base aj (a3 bh) w
 ext:∀b k,iH b=some k->aj b=some k
 eZ:∀b k,aj b=some k->b<(a3 s).length\/∃j,s<=j/\j<bh/\X j=true/\(a3 j).length<=b/\b<(a3 (j+1)).length
 CR:∀j,s<=j->j<=bh->∀b k x cs v,aj b=some k->b<(a3 j).length->(a3 bh)[b]?=some x->x.cells?=some cs->v∈cs->j5 (a3 j).length v
 wx:∀j,j<ops.size->X j=true->j5 (a3 (ri s bh j)).length (V j)
 QC:∀v∈T 0,j5 (a3 s).length v
 OP:0<(a3 0).length
 BU:(a3 0).length<=(a3 s).length
 fI:a.tmps.size=(T 0).length
 tmps:∀d,d<(T 0).length->bo aj (cur ops V (T 0) X d) (a.tmps.getD d undef)
 defers:a.defers=[]
 step:Step iH (a3 0) ei aj (a3 bh) w
theorem k7.Hl{P:Program}{base:Nat}{aj:bm}{w:World}{k:iR}{x:bO}(h:k7 P base aj w k x){cs:List Value}(ae:x.cells?=some cs){v:Value}(an:v∈cs):∃au,bo aj v au:=by
 obtain⟨i,af⟩:=List.getElem?_of_mem an
 cases h with
 | own ag ar gz ao aX bP aB bC jc=>
  simp only[bO.cells?,Option.some.injEq]at ae
  subst ae
  obtain⟨au,-,aa⟩:=jc i v af
  exact⟨au,aa⟩
 | ro gz ao jc cV=>
  simp only[bO.cells?,Option.some.injEq]at ae
  subst ae
  obtain⟨au,-,aa⟩:=jc i v af
  exact⟨au,aa⟩
 | dead=>simp[bO.cells?]at ae
theorem k7.aa5{P:Program}{base:Nat}{aj bB:bm}{w:World}{k:iR}{x:bO}(h:k7 P base aj w k x)(he:∀cs v,x.cells?=some cs->v∈cs->∀au,bo aj v au->bo bB v au):k7 P base bB w k x:=by
 cases h with
 | own ag ar af ao aX bP aB bC an=>exact .own ag ar af ao aX bP aB bC fun i v af=>let⟨au,o,aa⟩:=an i v af;⟨au,o,he _ v rfl (List.mem_of_getElem? af) au aa⟩
 | ro af ao an cV=>exact .ro af ao (fun i v af=>let⟨au,o,aa⟩:=an i v af;⟨au,o,he _ v rfl (List.mem_of_getElem? af) au aa⟩) cV
 | dead=>exact .dead
theorem ct.grow{P:Program}{base:Nat}{aj:bm}{H aF:ab}{w:World}(h:ct P base aj H w)(he:Ext H aF):ct P base aj aF w:=by
 have ar:=he.len
 refine⟨Nat.lt_of_lt_of_le h.pos ar,h.size,fun b k ag=>⟨(h.eZ b k ag).1,Nat.lt_of_lt_of_le (h.eZ b k ag).2 ar⟩,fun b k x ag J=>?_,fun b cy k b_ ag df cF aQ A7=>?_⟩
 ·rw[he.get (h.eZ b k ag).2]at J
  exact h.fc b k x ag J
 ·exact h.inj b cy k b_ ag df cF ((qG (he.get (h.eZ b k ag).2)).1 aQ) ((yH (he.get (h.eZ cy b_ df).2)).1 A7)
theorem Step.grow{P:Program}{base:Nat}{aj bB:bm}{H H1 aS:ab}{w a6:World}(h:Step aj H w bB H1 a6)(bL:ct P base bB H1 a6)(he:Ext H1 aS):Step aj H w bB aS a6 where
 ext:=h.ext
 new:=h.new
 len:=Nat.le_trans h.len he.len
 own b k ag aQ:=h.own b k ag ((qG (he.get (bL.eZ b k ag).2)).1 aQ)
 os:=h.os
 tape:=h.tape
 output:=h.output
 size:=h.size
 frame:=h.frame
section
variable {P:Program} {base:Nat} {ops:Array Oper} {T:Nat->List Value} {V:Nat->Value} {a3:Nat->ab} {iH:bm} {ei:World} {X:Nat->Bool} {s bh:Nat} {aj:bm} {a:Act} {w:World}
theorem za(a_:∀j U,ops[j]?=some U->bW P U=true->a3 (j+1)=a3 j)(b3:∀j U,ops[j]?=some U->bW P U=false->eO P ops j=true\/Ext (a3 j) (a3 (j+1)))(aJ:bh<=ops.size)
  (M6:∀j U,s<=j->j<bh->ops[j]?=some U->bW P U=false->eO P ops j=false):∀(m i:Nat),s<=i->i+m<=bh->Ext (a3 i) (a3 (i+m))
 | 0,i,_,_=>Ext.refl _
 | m+1,i,ao,hm=>by
  have a1:=za a_ b3 aJ M6 m i ao (by omega)
  have aZ:i+m<ops.size:=by omega
  have aQ:=Array.getElem?_eq_getElem aZ
  refine a1.trans ?_
  show Ext (a3 (i+m)) (a3 (i+m+1))
  cases aB:bW P ops[i+m]with
  | true=>rw[a_ _ _ aQ aB];exact Ext.refl _
  | false=>
   rcases b3 _ _ aQ aB with ag | he
   ·rw[M6 _ _ (by omega) (by omega) aQ aB]at ag;cases ag
   ·exact he
theorem Inv.kQ(ai:Inv P base ops T V a3 iH ei X s bh aj a w)(a_:∀j U,ops[j]?=some U->bW P U=true->a3 (j+1)=a3 j)(b3:∀j U,ops[j]?=some U->bW P U=false->eO P ops j=true\/Ext (a3 j) (a3 (j+1)))
  {i j:Nat}(o:s<=i)(aa:i<=j)(aA:j<=bh):Ext (a3 i) (a3 j):=by
 have:=za a_ b3 ai.iC ai.abB (j-i) i o (by omega)
 rwa[show i+(j-i)=j by omega]at this
theorem Inv.operand(ai:Inv P base ops T V a3 iH ei X s bh aj a w)(eF:gX ops=true)(a_:∀j U,ops[j]?=some U->bW P U=true->a3 (j+1)=a3 j)(b3:∀j U,ops[j]?=some U->bW P U=false->eO P ops j=true\/Ext (a3 j) (a3 (j+1)))
  (bf:∀(i:Nat) (U:Oper),ops[i]?=some U->T (i+1)=fj (T i) U.dst (V i)){i:Nat}{U:Oper}(al:la ops X i U){d:Tmp}(aD:d∈U.looksAt ops):bo (aj.below (a3 (nh s bh i)).length) ((T i).getD d undef) (a.tmps.getD d undef):=by
 have cK:i<ops.size:=(Array.getElem?_eq_some_iff.1 al.1).1
 by_cases iY: @LT.lt Nat _ d (T 0).length
 ·rw[wM bf i (by omega) d iY,<-Kj eF ai.closed al (.inl aD)]
  refine(ai.tmps d iY).restrict ?_
  have oK:=ai.dw
  have gd:(a3 s).length<=(a3 (nh s bh i)).length:=by
   unfold nh
   split
   ·exact Nat.le_refl _
   ·split
    ·exact(ai.kQ a_ b3 (Nat.le_refl _) (by omega) (by omega)).len
    ·exact(ai.kQ a_ b3 (Nat.le_refl _) ai.dw (Nat.le_refl _)).len
  rcases RL (ops:=ops) V (T 0) X d with⟨j,o,aa,aA⟩ | aA
  ·rw[aA]
   have fE:=Pa eF ai.closed al (.inl aD) j aa
   rw[o]at fE
   have mN:j<i:=by simpa using fE.symm
   refine(ai.wx j (uq aa) o).mono ?_
   unfold ri
   split
   ·exact gd
   ·split
    ·unfold nh
     rw[if_neg (by omega)]
     split
     ·exact(ai.kQ a_ b3 (by omega) (by omega) (by omega)).len
     ·exact(ai.kQ a_ b3 (by omega) (by omega) (by omega)).len
    ·unfold nh
     rw[if_neg (by omega),if_neg (by omega)]
     exact Nat.le_refl _
  ·rw[aA]
   refine(ai.QC _ ?_).mono gd
   simp only[List.getD_eq_getElem?_getD,bz iY,Option.getD_some]
   exact List.getElem_mem iY
 ·have o:(T i).getD d undef=undef:=by
   rw[List.getD_eq_getElem?_getD,List.getElem?_eq_none (by rw[o7 bf i (by omega)];omega)]
   rfl
  have aa:a.tmps.getD d undef=undef:=by
   have:=ai.fI
   rw[Array.getD_eq_getD_getElem?,Array.getElem?_eq_none (by omega)]
   rfl
  rw[o,aa]
  exact bo.undef _
theorem Inv.operands(ai:Inv P base ops T V a3 iH ei X s bh aj a w)(eF:gX ops=true)(ak:(ops.all fun U=>U.op.operands.all nH)=true)(a_:∀j U,ops[j]?=some U->bW P U=true->a3 (j+1)=a3 j)(b3:∀j U,ops[j]?=some U->bW P U=false->eO P ops j=true\/Ext (a3 j) (a3 (j+1)))
  (bf:∀(i:Nat) (U:Oper),ops[i]?=some U->T (i+1)=fj (T i) U.dst (V i)){i:Nat}{U:Oper}(al:la ops X i U):∀x∈U.op.operands,bo (aj.below (a3 (nh s bh i)).length) (fo (T i) x) (a.eval x):=by
 intro x J
 obtain⟨aZ,aQ⟩:=Array.getElem?_eq_some_iff.1 al.1
 cases x with
 | tmp d=>
  have:d∈U.looksAt ops:=by
   unfold Oper.looksAt
   exact List.mem_append_left _ (List.mem_filterMap.2 ⟨.tmp d,by simpa using J,rfl⟩)
  exact ai.operand eF a_ b3 bf al this
 | const v=>
  have o:=Array.all_eq_true.1 ak i aZ
  rw[aQ]at o
  have:=Array.all_eq_true'.1 o _ J
  exact uT _ this
 | global g=>exact .s5 g
 | func f=>exact .func _ rfl (fun i v au h=>by simp at h) rfl (fun i v au h=>by simp at h)
theorem Inv.wanted(ai:Inv P base ops T V a3 iH ei X s bh aj a w)(eF:gX ops=true)(a_:∀j U,ops[j]?=some U->bW P U=true->a3 (j+1)=a3 j)(b3:∀j U,ops[j]?=some U->bW P U=false->eO P ops j=true\/Ext (a3 j) (a3 (j+1)))
  (bf:∀(i:Nat) (U:Oper),ops[i]?=some U->T (i+1)=fj (T i) U.dst (V i)){i:Nat}{U:Oper}(al:la ops X i U):Region.wanted U (yielded ops a.tmps)=Region.wanted U (g_ ops (T i)):=by
 have cK:i<ops.size:=(Array.getElem?_eq_some_iff.1 al.1).1
 refine Hn fun j b aX=>?_
 unfold yielded g_
 cases aD:(ops[j]?).bind (·.dst)with
 | none=>rfl
 | some d=>
  have gg:d∈U.looksAt ops:=by
   unfold Oper.looksAt
   refine List.mem_append_right _ ?_
   simp only[aX,aD]
   simp
  have an:=ai.operand eF a_ b3 bf al gg
  simp only[Option.bind_some]
  have ve:=o7 bf i (by omega)
  by_cases iY: @LT.lt Nat _ d (T 0).length
  ·have bk:(T i)[d]?=some ((T i).getD d undef):=by
    rw[List.getD_eq_getElem?_getD,bz (by omega)]
    rfl
   have bp:a.tmps[d]?=some (a.tmps.getD d undef):=by
    have:=ai.fI
    rw[Array.getD_eq_getD_getElem?,Array.getElem?_eq_getElem (by omega)]
    rfl
   rw[bk,bp]
   exact an.hG.symm
  ·have bk:(T i)[d]?=none:=List.getElem?_eq_none (by omega)
   have bp:a.tmps[d]?=none:=Array.getElem?_eq_none (by have:=ai.fI;omega)
   rw[bk,bp]
theorem Al{a:Act}{dst:Option Tmp}{v:Value}{d n:Nat}(ar:a.tmps.size=n)(aD:d<n):(a.put dst v).tmps.getD d undef=if dst=some d then v else a.tmps.getD d undef:=by
 cases dst with
 | none=>simp[Act.put]
 | some e=>
  simp only[Act.put,Array.getD_eq_getD_getElem?,Array.getElem?_setIfInBounds]
  by_cases he:e=d
  ·subst he;simp[ar,aD]
  ·simp[he]
theorem Cq(a:Act)(dst:Option Tmp)(v:Value):(a.put dst v).tmps.size=a.tmps.size:=by cases dst<;>simp[Act.put]
theorem Inv.Pe(ai:Inv P base ops T V a3 iH ei X s bh aj a w)(eF:gX ops=true){i:Nat}{U:Oper}(al:la ops X i U)(aB:bW P U=true){au:Value}(an:bo (aj.below (a3 (nh s bh i)).length) (V i) au)
  (a_:∀j U,ops[j]?=some U->bW P U=true->a3 (j+1)=a3 j):Inv P base ops T V a3 iH ei (e4 X i) s bh aj (a.put U.dst au) w:=by
 have cK:i<ops.size:=(Array.getElem?_eq_some_iff.1 al.1).1
 have cF:∀j y,ops[j]?=some y->bW P y=false->j≠i:=fun j y aI NL e=>by
  subst e;rw[al.1]at aI;cases aI;rw[aB]at NL;cases NL
 refine{ai with closed:=z6 ai.closed al,before:=?_,after:=?_,eZ:=?_,wx:=?_,fI:=?_,tmps:=?_,defers:=?_}
 ·intro j y o aa aA
  simp[e4,ai.before j y o aa aA]
 ·intro j y o aa aA
  simp[e4,ai.after j y o aa aA,cF j y aa aA]
 ·intro b k ag
  rcases ai.eZ b k ag with h | ⟨j,o,aa,aA,bj⟩
  ·exact .inl h
  ·exact .inr ⟨j,o,aa,by simp[e4,aA],bj⟩
 ·intro j aY aW
  simp only[e4,Bool.or_eq_true,decide_eq_true_eq]at aW
  rcases aW with rfl | aW
  ·have hw:j5 (a3 (nh s bh j)).length (V j):=j5.of (fun b k ag=>(bm.jq ag).1) an
   have e:(a3 (ri s bh j)).length=(a3 (nh s bh j)).length:=by
    unfold ri nh
    split
    ·rfl
    ·split
     ·rw[a_ j U al.1 aB]
     ·rfl
   rw[e]
   exact hw
  ·exact ai.wx j aY aW
 ·rw[Cq];exact ai.fI
 ·intro d aD
  rw[z9 eF ai.closed al,Al ai.fI aD]
  split
  ·exact an.ext fun b k ag=>(bm.jq ag).2
  ·exact ai.tmps d aD
 ·rw[put_defers];exact ai.defers
theorem Inv.abN(ai:Inv P base ops T V a3 iH ei X s bh aj a w)(a_:∀j U,ops[j]?=some U->bW P U=true->a3 (j+1)=a3 j)(b3:∀j U,ops[j]?=some U->bW P U=false->eO P ops j=true\/Ext (a3 j) (a3 (j+1)))
  {i:Nat}(o:s<=i)(aa:i<=bh):ct P base (aj.below (a3 i).length) (a3 i) w:=by
 have he:=ai.kQ a_ b3 o aa (Nat.le_refl _)
 refine⟨?_,ai.ji.size,fun b k ag=>⟨(ai.ji.eZ b k (bm.jq ag).2).1,(bm.jq ag).1⟩,fun b k x ag J=>?_,fun b cy k b_ ag df cF aQ ar=>?_⟩
 ·have:=(ai.kQ a_ b3 (Nat.le_refl _) o aa).len
  have:=ai.OP
  have:=ai.BU
  omega
 ·have pz:=he.get_some J
  refine(ai.ji.fc b k x (bm.jq ag).2 pz).aa5 fun cs v ae an au jc=>jc.restrict ?_
  exact ai.CR i o aa b k x cs v (bm.jq ag).2 (bm.jq ag).1 pz ae an
 ·exact ai.ji.inj b cy k b_ (bm.jq ag).2 (bm.jq df).2 cF ((qG (he.get (bm.jq ag).1)).2 aQ) ((yH (he.get (bm.jq df).1)).2 ar)
end
section
variable {P:Program} {base:Nat} {ops:Array Oper} {T:Nat->List Value} {V:Nat->Value} {a3:Nat->ab} {iH:bm} {ei:World} {X:Nat->Bool} {s bh:Nat} {aj:bm} {a:Act} {w:World}
def bm.join(aj bB:bm)(l h:Nat):bm:=fun b=>if b<l then aj b else if b<h then bB b else aj b
theorem Inv.runM(ai:Inv P base ops T V a3 iH ei X s bh aj a w)(eF:gX ops=true)(a_:∀j U,ops[j]?=some U->bW P U=true->a3 (j+1)=a3 j)(b3:∀j U,ops[j]?=some U->bW P U=false->eO P ops j=true\/Ext (a3 j) (a3 (j+1)))
  {i:Nat}{U:Oper}(al:la ops X i U)(iy:s<=i)(fe:i<bh){bB:bm}{au:Value}{a6:World}(an:bo bB (V i) au)(bL:ct P base bB (a3 (i+1)) a6)(dc:Step (aj.below (a3 i).length) (a3 i) w bB (a3 (i+1)) a6):
  ∃q4,Inv P base ops T V a3 iH ei (e4 X i) s bh q4 (a.put U.dst au) a6:=by
 have cK:i<ops.size:=(Array.getElem?_eq_some_iff.1 al.1).1
 have bk:=ai.kQ a_ b3 iy (by omega) (show i+1<=bh by omega)
 have bp:=ai.kQ a_ b3 (show s<=i+1 by omega) fe (Nat.le_refl _)
 have e0:=ai.kQ a_ b3 iy (by omega) (Nat.le_refl bh)
 have es:=ai.kQ a_ b3 (Nat.le_refl s) iy (by omega)
 have yM:=bk.len
 have yN:=bp.len
 have ls:=es.len
 have Wb:∀b k,aj b=some k->b<(a3 i).length\/(a3 (i+1)).length<=b:=by
  intro b k ag
  rcases ai.eZ b k ag with h | ⟨j,o,aa,aA,bj,bJ⟩
  ·exact .inl (by omega)
  ·rcases Nat.lt_trichotomy j i with aZ | heq | po
   ·have:=(ai.kQ a_ b3 (show s<=j+1 by omega) aZ (by omega)).len
    exact .inl (by omega)
   ·subst heq;rw[al.2.1]at aA;cases aA
   ·have:=(ai.kQ a_ b3 (show s<=i+1 by omega) po (by omega)).len
    exact .inr (by omega)
 have Ba:∀b k,aj b=some k->aj.join bB (a3 i).length (a3 (i+1)).length b=some k:=by
  intro b k ag
  unfold bm.join
  rcases Wb b k ag with h | h
  ·rw[if_pos h];exact ag
  ·rw[if_neg (by omega),if_neg (by omega)];exact ag
 have Mx:∀b k,bB b=some k->aj.join bB (a3 i).length (a3 (i+1)).length b=some k:=by
  intro b k ag
  have aZ:=(bL.eZ b k ag).2
  unfold bm.join
  rcases dc.new b k ag with h | h
  ·rw[if_pos (bm.jq h).1];exact(bm.jq h).2
  ·rw[if_neg (by omega),if_pos aZ];exact ag
 have ot:∀b k,aj.join bB (a3 i).length (a3 (i+1)).length b=some k->(b<(a3 i).length/\aj b=some k/\bB b=some k)\/((a3 i).length<=b/\b<(a3 (i+1)).length/\bB b=some k)\/((a3 (i+1)).length<=b/\aj b=some k):=by
  intro b k ag
  unfold bm.join at ag
  by_cases o:b<(a3 i).length
  ·rw[if_pos o]at ag
   exact .inl ⟨o,ag,dc.ext b k (bm.Di o ag)⟩
  ·rw[if_neg o]at ag
   by_cases aa:b<(a3 (i+1)).length
   ·rw[if_pos aa]at ag;exact .inr (.inl ⟨by omega,aa,ag⟩)
   ·rw[if_neg aa]at ag;exact .inr (.inr ⟨by omega,ag⟩)
 have E2:∀b k,aj.join bB (a3 i).length (a3 (i+1)).length b=some k->b<(a3 (i+1)).length->bB b=some k:=by
  intro b k ag aZ
  rcases ot b k ag with h | h | h
  ·exact h.2.2
  ·exact h.2.2
  ·omega
 have K1:∀b k x,aj b=some k->(a3 bh)[b]?=some x->x.cells?≠none->k.g<w.heap.size:=fun b k x ag J aJ=>(ai.ji.fc b k x ag J).lt aJ
 have ZV:∀b k,aj b=some k->lR (a3 bh) b->k.g<w.heap.size:=fun b k ag ⟨x,cs,J,ae⟩=>K1 b k x ag J (by rw[ae];simp)
 have rP:∀b k cy b_,(a3 i).length<=b->bB b=some k->hW (a3 (i+1)) b->aj cy=some b_->lR (a3 bh) cy->cy<(a3 i).length\/(a3 (i+1)).length<=cy->k.g≠b_.g:=by
  intro b k cy b_ g2 ag aQ df dK Bh
  rcases dc.own b k ag aQ with h | ⟨hF,hP,o,aa,aA⟩
  ·have:=ZV cy b_ df dK
   omega
  ·by_cases qc:hF=cy
   ·
    subst qc
    have hm:=(bm.jq o).2
    rw[hm]at df
    obtain rfl:=Option.some.inj df
    have nm:=(bm.jq o).1
    have rQ:lR (a3 (i+1)) hF:=(yH (bp.get (by omega))).1 dK
    exact bL.inj b hF k hP ag (dc.ext _ _ o) (by omega) aQ rQ
   ·have:=ai.ji.inj hF cy hP b_ (bm.jq o).2 df qc ((qG (e0.get (bm.jq o).1)).2 aa) dK
    omega
 refine⟨aj.join bB (a3 i).length (a3 (i+1)).length,?_⟩
 refine{ai with closed:=z6 ai.closed al,before:=?_,after:=?_,ji:=?_,ext:=fun b k ag=>Ba b k (ai.ext b k ag),eZ:=?_,CR:=?_,wx:=?_,fI:=?_,tmps:=?_,defers:=?_,step:=?_}
 ·intro j y o aa aA
  simp[e4,ai.before j y o aa aA]
 ·intro j y o aa aA
  have:j≠i:=by omega
  simp[e4,ai.after j y o aa aA,this]
 ·refine⟨ai.ji.pos,bL.size,fun b k ag=>?_,fun b k x ag J=>?_,fun b cy k b_ ag df cF aQ ar=>?_⟩
  ·rcases ot b k ag with⟨h,cA,-⟩ | ⟨h,cA,s6⟩ | ⟨h,cA⟩
   ·exact ai.ji.eZ b k cA
   ·have:=bL.eZ b k s6;exact⟨this.1,by omega⟩
   ·exact ai.ji.eZ b k cA
  ·by_cases aZ:b<(a3 (i+1)).length
   ·have l5:=E2 b k ag aZ
    rw[bp.get aZ]at J
    exact(bL.fc b k x l5 J).gN Mx (fun _=>rfl) (Nat.le_refl _)
   ·rcases ot b k ag with⟨h,-,-⟩ | ⟨-,h,-⟩ | ⟨h,cA⟩
    ·omega
    ·omega
    ·refine(ai.ji.fc b k x cA J).gN Ba (fun aJ=>dc.frame k.g (K1 b k x cA J aJ) fun hF hP nm Bd=>?_) dc.size
     have LO:=bm.jq nm
     obtain⟨n6,xJ⟩:∃n6,x.cells?=some n6:=by cases av:x.cells? with | none=>exact absurd av aJ | some q=>exact⟨q,rfl⟩
     exact ai.ji.inj hF b hP k LO.2 cA (by omega) ((qG (e0.get LO.1)).2 Bd) ⟨x,n6,J,xJ⟩
  ·by_cases aZ:b<(a3 (i+1)).length
   ·have l5:=E2 b k ag aZ
    have rQ:=(qG (bp.get aZ)).1 aQ
    by_cases jW:cy<(a3 (i+1)).length
    ·exact bL.inj b cy k b_ l5 (E2 cy b_ df jW) cF rQ ((yH (bp.get jW)).1 ar)
    ·rcases ot cy b_ df with⟨h,-,-⟩ | ⟨-,h,-⟩ | ⟨h,cA⟩
     ·omega
     ·omega
     ·rcases ot b k ag with⟨q,qQ,-⟩ | ⟨q,qQ,OW⟩ | ⟨q,qQ⟩
      ·exact ai.ji.inj b cy k b_ qQ cA cF aQ ar
      ·exact rP b k cy b_ q l5 rQ cA ar (.inr h)
      ·omega
   ·rcases ot b k ag with⟨h,-,-⟩ | ⟨-,h,-⟩ | ⟨h,cA⟩
    ·omega
    ·omega
    ·rcases ot cy b_ df with⟨q,qQ,-⟩ | ⟨q,qQ,OW⟩ | ⟨q,qQ⟩
     ·exact ai.ji.inj b cy k b_ cA qQ cF aQ ar
     ·have fY:=(yH (bp.get qQ)).1 ar
      have rQ:hW (a3 (i+1)) cy:=by
       obtain⟨x,cs,J,ae⟩:=fY
       cases x with
       | own e l c=>exact⟨e,l,c,J⟩
       | ro e c=>exact absurd rfl (bk.new q J e c)
       | dead=>simp[bO.cells?]at ae
      exact fun e=>rP cy b_ b k q OW rQ cA aQ.live (.inr h) e.symm
     ·exact ai.ji.inj b cy k b_ cA qQ cF aQ ar
 ·intro b k ag
  rcases ot b k ag with⟨h,cA,-⟩ | ⟨h,cA,s6⟩ | ⟨h,cA⟩
  ·rcases ai.eZ b k cA with q | ⟨j,a0,a4,bI,cj⟩
   ·exact .inl q
   ·exact .inr ⟨j,a0,a4,by simp[e4,bI],cj⟩
  ·exact .inr ⟨i,iy,fe,by simp[e4],h,cA⟩
  ·rcases ai.eZ b k cA with q | ⟨j,a0,a4,bI,cj⟩
   ·exact .inl q
   ·exact .inr ⟨j,a0,a4,by simp[e4,bI],cj⟩
 ·intro j o aa b k x cs v ag g2 J ae tI
  rcases ot b k ag with⟨h,cA,-⟩ | ⟨h,cA,s6⟩ | ⟨h,cA⟩
  ·exact ai.CR j o aa b k x cs v cA g2 J ae tI
  ·have fE:i+1<=j:=by
    rcases Nat.lt_or_ge i j with q | q
    ·exact q
    ·have:=(ai.kQ a_ b3 o q (by omega)).len
     omega
   rw[bp.get cA]at J
   obtain⟨u,hu⟩:=(bL.fc b k x s6 J).Hl ae tI
   exact(j5.of (fun b k ag=>(bL.eZ b k ag).2) hu).mono (ai.kQ a_ b3 (by omega) fE aa).len
  ·exact ai.CR j o aa b k x cs v cA g2 J ae tI
 ·intro j aY aW
  simp only[e4,Bool.or_eq_true,decide_eq_true_eq]at aW
  rcases aW with rfl | aW
  ·unfold ri
   rw[if_neg (by omega),if_pos fe]
   exact j5.of (fun b k ag=>(bL.eZ b k ag).2) an
  ·exact ai.wx j aY aW
 ·rw[Cq];exact ai.fI
 ·intro d aD
  rw[z9 eF ai.closed al,Al ai.fI aD]
  split
  ·exact an.ext Mx
  ·exact(ai.tmps d aD).ext Ba
 ·rw[put_defers];exact ai.defers
 ·have qs:=ai.BU
  refine⟨fun b k ag=>Ba b k (ai.ext b k ag),fun b k ag=>?_,ai.step.len,fun b k ag aQ=>?_,dc.os.trans ai.step.os,dc.tape.trans ai.step.tape,dc.output.trans ai.step.output,Nat.le_trans ai.step.size dc.size,fun g aX cF=>?_⟩
  ·rcases ot b k ag with⟨h,cA,-⟩ | ⟨h,cA,s6⟩ | ⟨h,cA⟩
   ·exact ai.step.new b k cA
   ·exact .inr (by omega)
   ·exact ai.step.new b k cA
  ·rcases ot b k ag with⟨h,cA,-⟩ | ⟨h,cA,s6⟩ | ⟨h,cA⟩
   ·exact ai.step.own b k cA aQ
   ·rcases dc.own b k s6 ((qG (bp.get cA)).1 aQ)with q | ⟨hF,hP,a0,a4,bI⟩
    ·exact .inl (Nat.le_trans ai.step.size q)
    ·have Cb:=bm.jq a0
     rcases ai.step.own hF hP Cb.2 ((qG (e0.get Cb.1)).2 a4)with r | ⟨hs,jC,eg,fZ,iO⟩
     ·exact .inl (by omega)
     ·exact .inr ⟨hs,jC,eg,fZ,by omega⟩
   ·exact ai.step.own b k cA aQ
  ·rw[dc.frame g (Nat.lt_of_lt_of_le aX ai.step.size) fun b k ag aQ=>?_,ai.step.frame g aX cF]
   have df:=bm.jq ag
   rcases ai.step.own b k df.2 ((qG (e0.get df.1)).2 aQ)with r | ⟨hs,jC,eg,fZ,iO⟩
   ·omega
   ·exact fun e=>cF hs jC eg fZ (by omega)
theorem Gf(ops:Array Oper):∀(m i:Nat),i+m=ops.size->∃bh,i<=bh/\bh<=ops.size/\(∀j U,i<=j->j<bh->ops[j]?=some U->bW P U=false->eO P ops j=false)/\(bh=ops.size\/∃U,ops[bh]?=some U/\bW P U=false/\eO P ops bh=true)
 | 0,i,h=>⟨i,Nat.le_refl _,by omega,fun j U o aa=>by omega,.inl (by omega)⟩
 | m+1,i,h=>by
  have aZ:i<ops.size:=by omega
  have aQ:=Array.getElem?_eq_getElem aZ
  by_cases ag:bW P ops[i]=false/\eO P ops i=true
  ·exact⟨i,Nat.le_refl _,by omega,fun j U o aa=>by omega,.inr ⟨_,aQ,ag.1,ag.2⟩⟩
  ·obtain⟨bh,o,aa,aA,bj⟩:=Gf ops m (i+1) (by omega)
   refine⟨bh,by omega,aa,fun j U a0 a4 bI cj=>?_,bj⟩
   by_cases aY:j=i
   ·subst aY
    rw[aQ]at bI
    obtain rfl:=Option.some.inj bI
    cases qj:eO P ops j with
    | false=>rfl
    | true=>exact absurd ⟨cj,qj⟩ ag
   ·exact aA j U (by omega) a4 bI cj
theorem Inv.abh(ai:Inv P base ops T V a3 iH ei X s bh aj a w)(eF:gX ops=true)(a_:∀j U,ops[j]?=some U->bW P U=true->a3 (j+1)=a3 j)(b3:∀j U,ops[j]?=some U->bW P U=false->eO P ops j=true\/Ext (a3 j) (a3 (j+1)))
  {U:Oper}(al:la ops X bh U)(aB:bW P U=false)(AN:eO P ops bh=true){bB:bm}{au:Value}{a6:World}(an:bo bB (V bh) au)(bL:ct P base bB (a3 (bh+1)) a6)(dc:Step aj (a3 bh) w bB (a3 (bh+1)) a6):
  ∃pH q4,Inv P base ops T V a3 iH ei (e4 X bh) (bh+1) pH q4 (a.put U.dst au) a6:=by
 have cK:bh<ops.size:=(Array.getElem?_eq_some_iff.1 al.1).1
 obtain⟨pH,o,aa,aA,bj⟩:=Gf ops (ops.size-(bh+1)) (bh+1) (by omega)
 have nq:∀{i j:Nat},bh+1<=i->i<=j->j<=pH->Ext (a3 i) (a3 j):=fun{i j} a0 a4 bI=>by
  have:=za a_ b3 aa aA (j-i) i a0 (by omega)
  rwa[show i+(j-i)=j by omega]at this
 have e:=nq (Nat.le_refl _) o (Nat.le_refl _)
 have oK:=ai.dw
 have ls:=(ai.kQ a_ b3 (Nat.le_refl s) oK (Nat.le_refl _)).len
 have dM:=dc.len
 have qs:=ai.BU
 refine⟨pH,bB,?_⟩
 refine⟨z6 ai.closed al,o,aa,aA,fun j y a0 a4 bI=>?_,fun j y a0 a4 bI=>?_,bj,bL.grow e,fun b k ag=>dc.ext b k (ai.ext b k ag),fun b k ag=> .inl (bL.eZ b k ag).2,?_,?_,fun v an=>(ai.QC v an).mono (by omega),ai.OP,by omega,by rw[Cq];exact ai.fI,?_,by rw[put_defers];exact ai.defers,(ai.step.trans dc).grow bL e⟩
 ·by_cases aY:j=bh
  ·subst aY;simp[e4]
  ·have ag:=uD AN a4 bI aY
   rw[show min bh j=j by omega,show max bh j=bh by omega]at ag
   have:=uK eF ai.closed bh U al.1 al.2.2 j (by omega) ag
   simp[e4,this]
 ·have aY:j≠bh:=by omega
  have gf:j<ops.size:=(Array.getElem?_eq_some_iff.1 a4).1
  cases aW:X j with
  | false=>simp[e4,aW,aY]
  | true=>
   have ag:=uD AN a4 bI aY
   rw[show min bh j=bh by omega,show max bh j=j by omega]at ag
   have:=z5 eF ai.closed gf aW cK ag
   rw[al.2.1]at this
   cases this
 ·intro j a0 a4 b k x cs v ag g2 J ae tI
  have mJ:=(bL.eZ b k ag).2
  rw[e.get mJ]at J
  obtain⟨u,hu⟩:=(bL.fc b k x ag J).Hl ae tI
  exact(j5.of (fun b k ag=>(bL.eZ b k ag).2) hu).mono (nq (Nat.le_refl _) a0 a4).len
 ·intro j aY aW
  simp only[e4,Bool.or_eq_true,decide_eq_true_eq]at aW
  have gd:(a3 (bh+1)).length<=(a3 (ri (bh+1) pH j)).length:=by
   unfold ri
   split
   ·exact Nat.le_refl _
   ·split
    ·exact(nq (Nat.le_refl _) (by omega) (by omega)).len
    ·exact(nq (Nat.le_refl _) o (Nat.le_refl _)).len
  rcases aW with rfl | aW
  ·exact(j5.of (fun b k ag=>(bL.eZ b k ag).2) an).mono gd
  ·refine(ai.wx j aY aW).mono (Nat.le_trans ?_ (Nat.le_trans dM gd))
   unfold ri
   split
   ·exact ls
   ·split
    ·exact(ai.kQ a_ b3 (by omega) (by omega) (Nat.le_refl _)).len
    ·exact Nat.le_refl _
 ·intro d aD
  rw[z9 eF ai.closed al,Al ai.fI aD]
  split
  ·exact an
  ·exact(ai.tmps d aD).ext dc.ext
theorem O_{dB:Array Bool}{i:Nat}(h:i∈Region.ready .any ops dB)(ar:dB.size=ops.size):∃U,la ops (fun j=>dB.getD j false) i U:=by
 unfold Region.ready at h
 rw[List.mem_filter]at h
 obtain⟨o,aa⟩:=h
 have aZ:i<ops.size:=List.mem_range.1 o
 have aQ:=Array.getElem?_eq_getElem aZ
 simp only[aQ,Option.map_some,Option.getD_some,Bool.and_eq_true,Bool.not_eq_true',Array.all_eq_true']at aa
 refine⟨ops[i],aQ,?_,fun e he ag=>?_⟩
 ·have:=aa.1
  simp only[Array.getD_eq_getD_getElem?,Array.getElem?_eq_getElem (show i<dB.size by omega),Option.getD_some]at this⊢
  exact this
 ·have:=aa.2 e he
  simpa[ag]using this
theorem O9{dB:Array Bool}(h:Region.ready .any ops dB=[])(ar:dB.size=ops.size)(eF:gX ops=true):∀i,i<ops.size->dB.getD i false=true:=by
 intro i
 induction i using Nat.strongRecOn with
 | _ i a1=>
  intro af
  cases ae:dB.getD i false with
  | true=>rfl
  | false=>
   have aQ:=Array.getElem?_eq_getElem af
   have gg:i∈Region.ready .any ops dB:=by
    unfold Region.ready
    rw[List.mem_filter]
    refine⟨List.mem_range.2 af,?_⟩
    simp only[aQ,Option.map_some,Option.getD_some,Bool.and_eq_true,Bool.not_eq_true',Array.all_eq_true']
    constructor
    ·simp only[Array.getD_eq_getD_getElem?,Array.getElem?_eq_getElem (show i<dB.size by omega),Option.getD_some]at ae⊢
     exact ae
    ·intro e he
     cases ag:Region.binds .any e with
     | false=>simp
     | true=>
      have:=SK eF aQ he ag
      simp[a1 e.on this (by omega)]
   rw[h]at gg
   cases gg
theorem N4{dB:Array Bool}{i:Nat}(af:i<dB.size):(fun j=>(dB.setIfInBounds i true).getD j false)=e4 (fun j=>dB.getD j false) i:=by
 funext j
 simp only[e4,Array.getD_eq_getD_getElem?,Array.getElem?_setIfInBounds]
 by_cases h:i=j
 ·subst h;simp[af]
 ·have:j≠i:=fun e=>h e.symm
  simp[h,this]
def uh(n:Nat)(X:Nat->Bool):Nat:=((List.range n).filter fun i=> !X i).length
theorem CQ{n:Nat}{X:Nat->Bool}{i:Nat}(af:i<n)(aW:X i=false):uh n (e4 X i)+1<=uh n X:=by
 unfold uh
 have:∀(l:List Nat),l.Nodup->(l.filter fun j=> !e4 X i j).length+(if i∈l then 1 else 0)=(l.filter fun j=> !X j).length:=by
  intro l ar
  induction l with
  | nil=>rfl
  | cons a l a1=>
   rw[List.nodup_cons]at ar
   have a1:=a1 ar.2
   by_cases jQ:a=i
   ·subst jQ
    rw[if_neg ar.1]at a1
    simp only[List.filter_cons,e4,decide_true,Bool.true_or,Bool.not_true,aW,Bool.not_false,List.mem_cons,true_or,if_true]
    simp only[e4,Bool.not_or]at a1
    simp
    omega
   ·have hm:(i∈a::l)↔i∈l:=by simp[Ne.symm jQ]
    simp only[hm]
    have e:e4 X i a=X a:=by simp[e4,jQ]
    simp only[List.filter_cons,e]
    cases X a
    ·simp only[Bool.not_false,if_true,List.length_cons];omega
    ·simpa using a1
 have:=this (List.range n) List.nodup_range
 rw[if_pos (List.mem_range.2 af)]at this
 omega
theorem Q6{Q:Exit->Act->World->Prop}(eF:gX ops=true)(ak:(ops.all fun U=>U.op.operands.all nH)=true)(h:∀(i:Nat) (U:Oper),ops[i]?=some U->uy P base ops U (T i) (a3 i) (V i) (a3 (i+1)))
  (bf:∀(i:Nat) (U:Oper),ops[i]?=some U->T (i+1)=fj (T i) U.dst (V i))(b3:∀j U,ops[j]?=some U->bW P U=false->eO P ops j=true\/Ext (a3 j) (a3 (j+1)))
  (aC:∀bB b4 a6,c0 bB (T ops.size) b4.tmps.toList->b4.defers=[]->ct P base bB (a3 ops.size) a6->Step iH (a3 0) ei bB (a3 ops.size) a6->Q .normal b4 a6):
  ∀(fuel:Nat) (dB:Array Bool) (s bh:Nat) (aj:bm) (a:Act) (w:World),dB.size=ops.size->uh ops.size (fun j=>dB.getD j false)<=fuel->Inv P base ops T V a3 iH ei (fun j=>dB.getD j false) s bh aj a w->wpAny P .any ops Q fuel dB a w:=by
 have a_:∀j U,ops[j]?=some U->bW P U=true->a3 (j+1)=a3 j:=fun j U aQ aB=>by
  rcases h j U aQ with⟨-,-,aA⟩ | ⟨-,-,-,aA⟩ | ⟨-,aa,-⟩
  ·exact aA
  ·exact aA
  ·rw[aB]at aa;cases aa
 have fin:∀(dB:Array Bool) (s bh:Nat) (aj:bm) (a:Act) (w:World),dB.size=ops.size->(∀i,i<ops.size->dB.getD i false=true)->Inv P base ops T V a3 iH ei (fun j=>dB.getD j false) s bh aj a w->Q .normal a w:=by
  intro dB s bh aj a w ar ev ai
  have Bb:bh=ops.size:=by
   rcases ai.stop with h | ⟨U,o,aa,-⟩
   ·exact h
   ·have:=ai.after bh U (Nat.le_refl _) o aa
    have:=ev bh (Array.getElem?_eq_some_iff.1 o).1
    simp_all
  subst Bb
  refine aC aj a w ⟨?_,fun d v au an dR=>?_⟩ ai.defers ai.ji ai.step
  ·rw[o7 bf _ (Nat.le_refl _)];simpa using ai.fI.symm
  ·have iY:d<(T 0).length:=by
    have:=(cJ.1 an).1
    rwa[o7 bf _ (Nat.le_refl _)]at this
   have jc:=ai.tmps d iY
   rw[w1 (Y:=fun j=>decide (j<ops.size)) (fun j aY=>by rw[ev j (uq aY)];simp[uq aY]),<-wM bf _ (Nat.le_refl _) d iY]at jc
   rw[List.getD_eq_getElem?_getD,an]at jc
   have bp:a.tmps[d]?=some au:=by simpa using dR
   rw[Array.getD_eq_getD_getElem?,bp]at jc
   exact jc
 intro fuel
 induction fuel with
 | zero=>
  intro dB s bh aj a w ar hu ai
  have ev:∀i,i<ops.size->dB.getD i false=true:=by
   intro i af
   cases ae:dB.getD i false with
   | true=>rfl
   | false=>have:=CQ (X:=fun j=>dB.getD j false) af ae;omega
  refine⟨?_,fin dB s bh aj a w ar ev ai⟩
  unfold Region.ready
  rw[List.filter_eq_nil_iff]
  intro i af
  have:=ev i (List.mem_range.1 af)
  simp only[Array.getD_eq_getD_getElem?,Array.getElem?_eq_getElem (show i<dB.size by have:=List.mem_range.1 af;omega),Option.getD_some]at this⊢
  simp[this]
 | succ fuel a1=>
  intro dB s bh aj a w ar hu ai
  refine⟨fun aJ=>fin dB s bh aj a w ar (O9 aJ ar eF) ai,fun i af=>?_⟩
  obtain⟨U,al⟩:=O_ af ar
  have cK:i<ops.size:=(Array.getElem?_eq_some_iff.1 al.1).1
  have kc:=N4 (dB:=dB) (i:=i) (by omega)
  have cont:∀(dC pH:Nat) (q4:bm) (au:Value) (a6:World),Inv P base ops T V a3 iH ei (e4 (fun j=>dB.getD j false) i) dC pH q4 (a.put U.dst au) a6->wpAny P .any ops Q fuel (dB.setIfInBounds i true) (a.put U.dst au) a6:=by
   intro dC pH q4 au a6 sI
   refine a1 _ dC pH q4 _ a6 (by simpa using ar) ?_ (by rw[kc];exact sI)
   rw[kc]
   have:=CQ (X:=fun j=>dB.getD j false) cK al.2.1
   omega
  unfold wpOp
  simp only[al.1,ai.wanted eF a_ b3 bf al]
  have mT:=ai.operands eF ak a_ b3 bf al
  have mem:bW P U=false->∀bB au a6,bo bB (V i) au->ct P base bB (a3 (i+1)) a6->Step (aj.below (a3 i).length) (a3 i) w bB (a3 (i+1)) a6->wpAny P .any ops Q fuel (dB.setIfInBounds i true) (a.put U.dst au) a6:=by
   intro aB bB au a6 an bL dc
   have iy:s<=i:=by
    rcases Nat.lt_or_ge i s with q | q
    ·exact(Bool.false_ne_true (al.2.1.symm.trans (ai.before i U q al.1 aB))).elim
    ·exact q
   have fe:i<=bh:=by
    rcases Nat.lt_or_ge bh i with q | q
    ·rcases ai.stop with cA | ⟨y,a0,a4,bI⟩
     ·omega
     ·have ag:=uD bI al.1 aB (by omega)
      rw[show min bh i=bh by omega,show max bh i=i by omega]at ag
      have:=uK eF ai.closed i U al.1 al.2.2 bh (Array.getElem?_eq_some_iff.1 a0).1 ag
      have:=ai.after bh y (Nat.le_refl _) a0 a4
      simp_all
    ·exact q
   by_cases heq:i=bh
   ·subst heq
    have AN:eO P ops i=true:=by
     rcases ai.stop with cA | ⟨y,a0,a4,bI⟩
     ·omega
     ·exact bI
    have Mt:aj.below (a3 i).length=aj:=by
     funext b
     unfold bm.below
     split
     ·rfl
     ·cases ag:aj b with
      | none=>rfl
      | some k=>have:=(ai.ji.eZ b k ag).2;omega
    rw[Mt]at dc
    obtain⟨pH,q4,sI⟩:=ai.abh eF a_ b3 al aB AN an bL dc
    exact cont _ _ _ _ _ sI
   ·obtain⟨q4,sI⟩:=ai.runM eF a_ b3 al iy (by omega) an bL dc
    exact cont _ _ _ _ _ sI
  have GM:bW P U=false->ct P base (aj.below (a3 i).length) (a3 i) w/\∀x∈U.op.operands,bo (aj.below (a3 i).length) (fo (T i) x) (a.eval x):=by
   intro aB
   have iy:s<=i:=by
    rcases Nat.lt_or_ge i s with q | q
    ·exact(Bool.false_ne_true (al.2.1.symm.trans (ai.before i U q al.1 aB))).elim
    ·exact q
   have fe:i<=bh:=by
    rcases Nat.lt_or_ge bh i with q | q
    ·rcases ai.stop with cA | ⟨y,a0,a4,bI⟩
     ·omega
     ·have ag:=uD bI al.1 aB (by omega)
      rw[show min bh i=bh by omega,show max bh i=i by omega]at ag
      have:=uK eF ai.closed i U al.1 al.2.2 bh (Array.getElem?_eq_some_iff.1 a0).1 ag
      have:=ai.after bh y (Nat.le_refl _) a0 a4
      simp_all
    ·exact q
   refine⟨ai.abN a_ b3 iy fe,?_⟩
   have SI:nh s bh i=i:=by unfold nh;rw[if_neg (by omega)];split<;>omega
   rw[SI]at mT
   exact mT
  rcases h i U al.1 with⟨o,aa,aA⟩ | ⟨o,aa,aA,bj⟩ | ⟨o,aa,aA⟩
  ·rw[o]
   cases aB:bW P U with
   | true=>exact cont _ _ _ undef _ (ai.Pe (au:=undef) eF al aB (by rw[aa];exact bo.undef _) a_)
   | false=>exact mem aB (aj.below (a3 i).length) undef w (by rw[aa];exact bo.undef _) (aA▸(GM aB).1) (aA▸Step.refl _ _ _)
  ·rw[o]
   obtain⟨au,g6,an⟩:=DI aA mT w
   refine .inl ?_
   unfold Oper.wp
   rw[g6]
   exact cont _ _ _ _ _ (ai.Pe eF al aa an a_)
  ·rw[o]
   exact .inl (aA (aj.below (a3 i).length) w a (GM aa).2 (GM aa).1 _ _ fun bB au a6 an bL dc=>mem aa bB au a6 an bL dc)
end
section
variable {P:Program} {base:Nat} {ops:Array Oper} {T:Nat->List Value} {V:Nat->Value} {a3:Nat->ab} {ep:Nat->Option (Nat×Option bO)} {aj:bm} {ei:World} {X:Nat->Bool} {a:Act} {w:World} {H:ab}
def nf(ep:Nat->Option (Nat×Option bO))(j b:Nat):Prop:=∃x,ep j=some (b,some x)
theorem ZK(ar:∀(i:Nat) (U:Oper),ops[i]?=some U->o2 P ops U (T i) (a3 i) (V i) (a3 (i+1)) (ep i)){i:Nat}(af:i<ops.size){b:Nat}(hw:¬nf ep i b):(a3 (i+1))[b]?=(a3 i)[b]?:=by
 have h:=ar i _ (Array.getElem?_eq_getElem af)
 cases bM:ep i with
 | none=>rw[bM]at h;rw[h.2]
 | some bF=>
  obtain⟨c,y⟩:=bF
  rw[bM]at h
  obtain⟨-,-,-,-,bJ,-⟩:=h
  cases y with
  | none=>rw[bJ];rfl
  | some x=>
   simp only[m0]at bJ
   have:c≠b:=fun e=>hw ⟨x,by rw[bM,e]⟩
   rw[bJ,List.getElem?_set_ne this]
theorem N1(ar:∀(i:Nat) (U:Oper),ops[i]?=some U->o2 P ops U (T i) (a3 i) (V i) (a3 (i+1)) (ep i)):∀i,i<=ops.size->(a3 i).length=(a3 0).length
 | 0,_=>rfl
 | i+1,af=>by
  have a1:=N1 ar i (by omega)
  have h:=ar i _ (Array.getElem?_eq_getElem (show i<ops.size by omega))
  cases bM:ep i with
  | none=>rw[bM]at h;rw[h.2,a1]
  | some bF=>
   obtain⟨c,y⟩:=bF
   rw[bM]at h
   obtain⟨-,-,-,-,bJ,-⟩:=h
   cases y with
   | none=>rw[bJ,<-a1];rfl
   | some x=>rw[bJ];simp[m0,a1]
theorem BT(ar:∀(i:Nat) (U:Oper),ops[i]?=some U->o2 P ops U (T i) (a3 i) (V i) (a3 (i+1)) (ep i)){b:Nat}:∀(m i:Nat),i+m<=ops.size->(∀j,i<=j->j<i+m->¬nf ep j b)->(a3 (i+m))[b]?=(a3 i)[b]?
 | 0,i,_,_=>rfl
 | m+1,i,h,hw=>by
  have a1:=BT ar m i (by omega) fun j o aa=>hw j o (by omega)
  rw[<-a1]
  exact ZK ar (show i+m<ops.size by omega) (hw (i+m) (by omega) (by omega))
structure lQ (P:Program) (base:Nat) (ops:Array Oper) (T:Nat->List Value) (V:Nat->Value) (a3:Nat->ab) (ep:Nat->Option (Nat×Option bO)) (aj:bm) (ei:World) (X:Nat->Bool) (a:Act) (w:World) (H:ab):Prop where
 closed:pU ops X
 size:∀j,X j=true->j<ops.size
 len:H.length=(a3 0).length
 row:∀b,∃k,k<=ops.size/\(∀j,j<k->nf ep j b->X j=true)/\(∀j,k<=j->nf ep j b->X j=false)/\H[b]?=(a3 k)[b]?
 ji:ct P base aj H w
 fI:a.tmps.size=(T 0).length
 tmps:∀d,d<(T 0).length->bo aj (cur ops V (T 0) X d) (a.tmps.getD d undef)
 defers:a.defers=[]
 step:Step aj (a3 0) ei aj H w
theorem lQ.operand(ai:lQ P base ops T V a3 ep aj ei X a w H)(eF:gX ops=true)(bf:∀(i:Nat) (U:Oper),ops[i]?=some U->T (i+1)=fj (T i) U.dst (V i)){i:Nat}{U:Oper}(al:la ops X i U){d:Tmp}(aD:d∈U.looksAt ops):
  bo aj ((T i).getD d undef) (a.tmps.getD d undef):=by
 have cK:i<ops.size:=(Array.getElem?_eq_some_iff.1 al.1).1
 by_cases iY: @LT.lt Nat _ d (T 0).length
 ·rw[wM bf i (by omega) d iY,<-Kj eF ai.closed al (.inl aD)]
  exact ai.tmps d iY
 ·have o:(T i).getD d undef=undef:=by
   rw[List.getD_eq_getElem?_getD,List.getElem?_eq_none (by rw[o7 bf i (by omega)];omega)]
   rfl
  have aa:a.tmps.getD d undef=undef:=by
   have:=ai.fI
   rw[Array.getD_eq_getD_getElem?,Array.getElem?_eq_none (by omega)]
   rfl
  rw[o,aa]
  exact bo.undef _
theorem lQ.operands(ai:lQ P base ops T V a3 ep aj ei X a w H)(eF:gX ops=true)(ak:(ops.all fun U=>U.op.operands.all nH)=true)(bf:∀(i:Nat) (U:Oper),ops[i]?=some U->T (i+1)=fj (T i) U.dst (V i)){i:Nat}{U:Oper}(al:la ops X i U):
  ∀x∈U.op.operands,bo aj (fo (T i) x) (a.eval x):=by
 intro x J
 obtain⟨aZ,aQ⟩:=Array.getElem?_eq_some_iff.1 al.1
 cases x with
 | tmp d=>
  have:d∈U.looksAt ops:=by
   unfold Oper.looksAt
   exact List.mem_append_left _ (List.mem_filterMap.2 ⟨.tmp d,by simpa using J,rfl⟩)
  exact ai.operand eF bf al this
 | const v=>
  have o:=Array.all_eq_true.1 ak i aZ
  rw[aQ]at o
  exact uT _ (Array.all_eq_true'.1 o _ J)
 | global g=>exact .s5 g
 | func f=>exact .func _ rfl (fun i v au h=>by simp at h) rfl (fun i v au h=>by simp at h)
theorem lQ.wanted(ai:lQ P base ops T V a3 ep aj ei X a w H)(eF:gX ops=true)(bf:∀(i:Nat) (U:Oper),ops[i]?=some U->T (i+1)=fj (T i) U.dst (V i)){i:Nat}{U:Oper}(al:la ops X i U):
  Region.wanted U (yielded ops a.tmps)=Region.wanted U (g_ ops (T i)):=by
 have cK:i<ops.size:=(Array.getElem?_eq_some_iff.1 al.1).1
 refine Hn fun j b aX=>?_
 unfold yielded g_
 cases aD:(ops[j]?).bind (·.dst)with
 | none=>rfl
 | some d=>
  have gg:d∈U.looksAt ops:=by
   unfold Oper.looksAt
   refine List.mem_append_right _ ?_
   simp only[aX,aD]
   simp
  have an:=ai.operand eF bf al gg
  simp only[Option.bind_some]
  have ve:=o7 bf i (by omega)
  by_cases iY: @LT.lt Nat _ d (T 0).length
  ·have bk:(T i)[d]?=some ((T i).getD d undef):=by
    rw[List.getD_eq_getElem?_getD,bz (by omega)]
    rfl
   have bp:a.tmps[d]?=some (a.tmps.getD d undef):=by
    have:=ai.fI
    rw[Array.getD_eq_getD_getElem?,Array.getElem?_eq_getElem (by omega)]
    rfl
   rw[bk,bp]
   exact an.hG.symm
  ·have bk:(T i)[d]?=none:=List.getElem?_eq_none (by omega)
   have bp:a.tmps[d]?=none:=Array.getElem?_eq_none (by have:=ai.fI;omega)
   rw[bk,bp]
theorem lQ.put(ai:lQ P base ops T V a3 ep aj ei X a w H)(eF:gX ops=true){i:Nat}{U:Oper}(al:la ops X i U){au:Value}{a6:World}{H1:ab}(hlen:H1.length=H.length)(Xj:∀b,nf ep i b->H1[b]?=(a3 (i+1))[b]?/\(∀j,j<i->nf ep j b->X j=true)/\∀j,i<j->nf ep j b->X j=false)
  (Wf:∀b,¬nf ep i b->H1[b]?=H[b]?)(an:bo aj (V i) au)(bL:ct P base aj H1 a6)(dc:Step aj H w aj H1 a6):lQ P base ops T V a3 ep aj ei (e4 X i) (a.put U.dst au) a6 H1:=by
 have cK:i<ops.size:=(Array.getElem?_eq_some_iff.1 al.1).1
 refine⟨z6 ai.closed al,fun j aY=>?_,by rw[hlen,ai.len],fun b=>?_,bL,by rw[Cq];exact ai.fI,fun d aD=>?_,by rw[put_defers];exact ai.defers,ai.step.trans dc⟩
 ·simp only[e4,Bool.or_eq_true,decide_eq_true_eq]at aY
  rcases aY with rfl | aY
  ·exact cK
  ·exact ai.size j aY
 ·by_cases hw:nf ep i b
  ·obtain⟨a0,a4,bI⟩:=Xj b hw
   refine⟨i+1,by omega,fun j aY py=>?_,fun j aY py=>?_,a0⟩
   ·by_cases fE:j=i
    ·subst fE;simp[e4]
    ·simp[e4,a4 j (by omega) py]
   ·have:j≠i:=by omega
    simp[e4,bI j (by omega) py,this]
  ·obtain⟨k,jC,mi,tQ,yL⟩:=ai.row b
   refine⟨k,jC,fun j aY py=>by simp[e4,mi j aY py],fun j aY py=>?_,by rw[Wf b hw];exact yL⟩
   have:j≠i:=fun e=>hw (e▸py)
   simp[e4,tQ j aY py,this]
 ·rw[z9 eF ai.closed al,Al ai.fI aD]
  split
  ·exact an
  ·exact ai.tmps d aD
theorem aaf{bB:bm}{H1:ab}{a6:World}(bL:ct P base bB H1 a6)(dc:Step aj H w bB H1 a6)(hlen:H1.length=H.length):bB=aj:=by
 funext b
 cases h:bB b with
 | none=>
  cases cA:aj b with
  | none=>rfl
  | some k=>rw[dc.ext b k cA]at h;cases h
 | some k=>
  rcases dc.new b k h with cA | cA
  ·exact cA.symm
  ·have:=(bL.eZ b k h).2;omega
theorem ZJ{Q:Exit->Act->World->Prop}(eF:gX ops=true)(ak:(ops.all fun U=>U.op.operands.all nH)=true)(h:∀(i:Nat) (U:Oper),ops[i]?=some U->uy P base ops U (T i) (a3 i) (V i) (a3 (i+1)))
  (bf:∀(i:Nat) (U:Oper),ops[i]?=some U->T (i+1)=fj (T i) U.dst (V i))(ar:∀(i:Nat) (U:Oper),ops[i]?=some U->o2 P ops U (T i) (a3 i) (V i) (a3 (i+1)) (ep i))
  (l8:∀(i j:Nat) (b:Nat) (x:bO) (y:Option bO),ep i=some (b,some x)->ep j=some (b,y)->i≠j->eO P ops i=true\/eO P ops j=true)
  (vM:∀j,ops.size<=j->ep j=none)(aC:∀bB b4 a6,c0 bB (T ops.size) b4.tmps.toList->b4.defers=[]->ct P base bB (a3 ops.size) a6->Step aj (a3 0) ei bB (a3 ops.size) a6->Q .normal b4 a6):
  ∀(fuel:Nat) (dB:Array Bool) (a:Act) (w:World) (H:ab),dB.size=ops.size->uh ops.size (fun j=>dB.getD j false)<=fuel->lQ P base ops T V a3 ep aj ei (fun j=>dB.getD j false) a w H->wpAny P .any ops Q fuel dB a w:=by
 have fin:∀(dB:Array Bool) (a:Act) (w:World) (H:ab),dB.size=ops.size->(∀i,i<ops.size->dB.getD i false=true)->lQ P base ops T V a3 ep aj ei (fun j=>dB.getD j false) a w H->Q .normal a w:=by
  intro dB a w H kc ev ai
  have D3:H=a3 ops.size:=by
   apply List.ext_getElem?
   intro b
   obtain⟨k,jC,mi,tQ,yL⟩:=ai.row b
   have:=BT ar (b:=b) (ops.size-k) k (by omega) fun j o aa hw=>by
    have aA:=tQ j o hw
    rw[ev j (by omega)]at aA
    cases aA
   rw[show k+(ops.size-k)=ops.size by omega]at this
   rw[yL,this]
  subst D3
  refine aC aj a w ⟨?_,fun d v au an dR=>?_⟩ ai.defers ai.ji ai.step
  ·rw[o7 bf _ (Nat.le_refl _)];simpa using ai.fI.symm
  ·have iY:d<(T 0).length:=by
    have:=(cJ.1 an).1
    rwa[o7 bf _ (Nat.le_refl _)]at this
   have jc:=ai.tmps d iY
   rw[w1 (Y:=fun j=>decide (j<ops.size)) (fun j aY=>by rw[ev j (uq aY)];simp[uq aY]),<-wM bf _ (Nat.le_refl _) d iY]at jc
   rw[List.getD_eq_getElem?_getD,an]at jc
   have bp:a.tmps[d]?=some au:=by simpa using dR
   rw[Array.getD_eq_getD_getElem?,bp]at jc
   exact jc
 intro fuel
 induction fuel with
 | zero=>
  intro dB a w H kc hu ai
  have ev:∀i,i<ops.size->dB.getD i false=true:=by
   intro i af
   cases ae:dB.getD i false with
   | true=>rfl
   | false=>have:=CQ (X:=fun j=>dB.getD j false) af ae;omega
  refine⟨?_,fin dB a w H kc ev ai⟩
  unfold Region.ready
  rw[List.filter_eq_nil_iff]
  intro i af
  have:=ev i (List.mem_range.1 af)
  simp only[Array.getD_eq_getD_getElem?,Array.getElem?_eq_getElem (show i<dB.size by have:=List.mem_range.1 af;omega),Option.getD_some]at this⊢
  simp[this]
 | succ fuel a1=>
  intro dB a w H kc hu ai
  refine⟨fun aJ=>fin dB a w H kc (O9 aJ kc eF) ai,fun i af=>?_⟩
  obtain⟨U,al⟩:=O_ af kc
  have cK:i<ops.size:=(Array.getElem?_eq_some_iff.1 al.1).1
  have tB:=N4 (dB:=dB) (i:=i) (by omega)
  have cont:∀(au:Value) (a6:World) (H1:ab),lQ P base ops T V a3 ep aj ei (e4 (fun j=>dB.getD j false) i) (a.put U.dst au) a6 H1->wpAny P .any ops Q fuel (dB.setIfInBounds i true) (a.put U.dst au) a6:=by
   intro au a6 H1 sI
   refine a1 _ _ a6 H1 (by simpa using kc) ?_ (by rw[tB];exact sI)
   rw[tB]
   have:=CQ (X:=fun j=>dB.getD j false) cK al.2.1
   omega
  have mT:=ai.operands eF ak bf al
  have Xd:=ai.wanted eF bf al
  have A2:=ar i U al.1
  unfold wpOp
  simp only[al.1,Xd]
  cases bM:ep i with
  | none=>
   rw[bM]at A2
   obtain⟨av,aiq⟩:=A2
   have quiet:∀au,bo aj (V i) au->lQ P base ops T V a3 ep aj ei (e4 (fun j=>dB.getD j false) i) (a.put U.dst au) w H:=fun au an=>
    ai.put eF al rfl (fun b ag=>by obtain⟨x,J⟩:=ag;rw[bM]at J;cases J) (fun b _=>rfl) an ai.ji (Step.refl _ _ _)
   rcases h i U al.1 with⟨o,aa,aA⟩ | ⟨o,aa,aA,bj⟩ | ⟨o,aa,aA⟩
   ·rw[o]
    exact cont undef w H (quiet undef (by rw[aa];exact bo.undef _))
   ·rw[o]
    obtain⟨au,g6,an⟩:=DI aA mT w
    refine .inl ?_
    unfold Oper.wp
    rw[g6]
    exact cont au w H (quiet au an)
   ·rcases av with q | q
    ·rw[o]at q;cases q
    ·rw[aa]at q;cases q
  | some bF=>
   obtain⟨b,y⟩:=bF
   rw[bM]at A2
   obtain⟨o,aa,aA,bj,bJ,ds⟩:=A2
   rw[o]
   have MK:∀j,j≠i->nf ep j b->o9 (Region.before ops) (min j i) (max j i)=true:=fun j aY ⟨x,J⟩=>by
    have gf:j<ops.size:=by
     rcases Nat.lt_or_ge j ops.size with q | q
     ·exact q
     ·exact absurd J (by rw[vM j q];simp)
    have x4:=Array.getElem?_eq_getElem gf
    have Mo:=ar j _ x4
    rw[J]at Mo
    rcases l8 j i b x y J bM aY with q | q
    ·exact uD q al.1 aa (Ne.symm aY)
    ·have:=uD q x4 Mo.2.1 aY
     rw[Nat.min_comm,Nat.max_comm]
     exact this
   have hi:∀j,j<i->nf ep j b->dB.getD j false=true:=fun j aY hw=>by
    have aH:=MK j (by omega) hw
    rw[show min j i=j by omega,show max j i=i by omega]at aH
    exact uK eF ai.closed i U al.1 al.2.2 j (by omega) aH
   have ie:∀j,i<j->nf ep j b->dB.getD j false=false:=fun j aY hw=>by
    have aH:=MK j (by omega) hw
    rw[show min j i=i by omega,show max j i=j by omega]at aH
    cases aW:dB.getD j false with
    | false=>rfl
    | true=>
     have:=z5 eF ai.closed (ai.size j aW) aW cK aH
     exact absurd (al.2.1.symm.trans this) Bool.false_ne_true
   have TF:H[b]?=(a3 i)[b]?:=by
    obtain⟨k,jC,mi,tQ,yL⟩:=ai.row b
    rw[yL]
    rcases Nat.le_total k i with hy | hy
    ·have:=BT ar (b:=b) (i-k) k (by omega) fun j a0 a4 hw=>by
      have bk:=tQ j a0 hw
      have bp:=hi j (by omega) hw
      exact Bool.false_ne_true (bk.symm.trans bp)
     rw[show k+(i-k)=i by omega]at this
     exact this.symm
    ·have:=BT ar (b:=b) (k-i) i (by omega) fun j a0 a4 hw=>by
      have bk:=mi j (by omega) hw
      by_cases fE:j=i
      ·subst fE;exact Bool.false_ne_true (al.2.1.symm.trans bk)
      ·exact Bool.false_ne_true ((ie j (by omega) hw).symm.trans bk)
     rw[show i+(k-i)=k by omega]at this
     exact this
   have hm:=ds H TF
   obtain⟨bB,au,a6,g6,an,hK,dc⟩:=On hm ai.ji mT
   have hlen:(m0 H b y).length=H.length:=by cases y<;>simp[m0]
   obtain rfl:=aaf hK dc hlen
   have g2:b<H.length:=by rw[ai.len,<-N1 ar i (by omega)];exact aA
   have KR:lQ P base ops T V a3 ep bB ei (e4 (fun j=>dB.getD j false) i) (a.put U.dst au) a6 (m0 H b y):=by
    refine ai.put eF al hlen (fun c ae=>?_) (fun c ae=>?_) an hK dc
    ·obtain⟨x,J⟩:=ae
     rw[bM]at J
     simp only[Option.some.injEq,Prod.mk.injEq]at J
     obtain⟨rfl,rfl⟩:=J
     refine⟨?_,hi,ie⟩
     simp only[m0]at bJ⊢
     rw[List.getElem?_set_self g2,bJ,List.getElem?_set_self aA]
    ·cases y with
     | none=>rfl
     | some x=>
      have:b≠c:=fun e=>ae ⟨x,by rw[bM,e]⟩
      simp only[m0]
      rw[List.getElem?_set_ne this]
   refine .inl ?_
   unfold Oper.wp
   rcases g6 with g6 | ⟨g6,rfl⟩
   ·rw[g6];exact cont au a6 _ KR
   ·rw[g6];exact cont undef a6 _ KR
end
section
variable {P:Program} {base:Nat}
def wc(tmps:Array Value):ResultVar->Sem Value
 | .tmp t=>pure (tmps.getD t undef)
 | .cell a t=>do loadVar t (<-asAddr (tmps.getD a undef))
theorem abo{aj:bm}{H:ab}{w:World}{t:List Value}{a:Act}(dm:c0 aj t a.tmps.toList)(bL:ct P base aj H w){rs:List ResultVar}{aG:List Value}(h:mz P t H rs aG):∃hR,(rs.mapM (wc a.tmps)).run P w= .ok hR w/\c0 aj aG hR:=by
 have DM:∀i,bo aj (t.getD i undef) (a.tmps.getD i undef):=fun i=>zd (x:= .tmp i) dm rfl
 induction h with
 | nil=>exact⟨[],by simp,c0.nil aj⟩
 | tmp ao a1=>
  rename_i i rs aG
  obtain⟨hR,o,aa⟩:=a1
  exact⟨_::hR,by simp[List.mapM_cons,wc,o],(c0.cons (DM i) aa)⟩
 | z1 aL J aW ae an ao a1=>
  rename_i r ty b i X cs v rs aG
  obtain⟨hR,o,aa⟩:=a1
  obtain⟨k,ak,he⟩:=(J▸DM r).sc
  obtain⟨u,a0,a4⟩:=bL.cell ak aW ae an
  exact⟨u::hR,by simp[List.mapM_cons,wc,he,asAddr,loadVar,Ck aL,a0,o],c0.cons a4 aa⟩
 | z2 aL aJ J aW ae bC ao a1=>
  rename_i r ty b i n X cs rs aG
  obtain⟨hR,o,aa⟩:=a1
  obtain⟨k,ak,he⟩:=(J▸DM r).sc
  obtain⟨us,ar,mL,al⟩:=bL.cells ak aW ae bC
  have g6:=run_loadCells_list (P:=P) w ⟨k.g,k.U+i,none⟩ us mL
  rw[ar]at g6
  exact⟨.agg us.toArray::hR,by simp[List.mapM_cons,wc,he,asAddr,loadVar,Ck aL,kH aJ,g6,o],c0.cons (.agg al.toArray.1 al.toArray.2) aa⟩
theorem aa9{aj:bm}{H:ab}{w:World}{t:List Value}{a:Act}{fn:Func}(dm:c0 aj t a.tmps.toList)(bL:ct P base aj H w){aG:List Value}(h:mz P t H fn.results.toList aG):∃au,(results fn a.tmps).run P w= .ok au w/\bo aj (bd aG) au:=by
 obtain⟨hR,o,aa⟩:=abo dm bL h
 have e:(fn.results.mapM (wc a.tmps)).run P w= .ok hR.toArray w:=by
  rw[Array.mapM_eq_mapM_toList]
  simp[o]
 have bp:(results fn a.tmps).run P w= .ok (if h:hR.toArray.size=1 then hR.toArray[0]else .tuple hR.toArray) w:=by
  have:results fn a.tmps=(do let aG<-fn.results.mapM (wc a.tmps);pure (if h:aG.size=1 then aG[0]else .tuple aG)):=rfl
  rw[this]
  simp[e]
 refine⟨_,bp,?_⟩
 have ar:=aa.1
 unfold bd
 match aG,hR,ar,aa with
 | [],[],_,aa=>exact .tuple rfl aa.toArray.2
 | [v],[au],_,aa=>exact aa.2 0 v au rfl rfl
 | v::v2::aG,u::kq::us,_,aa=>
  have:¬((u::kq::us).toArray.size=1):=by simp
  rw[dif_neg this]
  exact .tuple aa.toArray.1 aa.toArray.2
def uA(P:Program)(base:Nat)(c:Code)(e:dP)(qV:List Value)(aF:ab):Nat->List Value->ab->Prop
 | 0,t,H=>Sound P base (.code c t H) (.code e qV aF)/\e≠ .normal
 | n+1,t,H=>∃t1 H1,Sound P base (.code c t H) (.code .normal t1 H1)/\uA P base c e qV aF n t1 H1
theorem N7{c:Code}{e:dP}{t qV:List Value}{H aF:ab}{n:Nat}(h:uA P base c e qV aF n t H):Sound P base (.code (.loop c) t H) (.code e qV aF):=by
 intro aj w a dm h1 bL Q aC
 refine wp_loop_ghost (fun m b4 a6=>∃bB t1 H1,c0 bB t1 b4.tmps.toList/\b4.defers=[]/\ct P base bB H1 a6/\Step aj H w bB H1 a6/\uA P base c e qV aF m t1 H1) n ⟨aj,t,H,dm,h1,bL,Step.refl _ _ _,h⟩ ?_
 rintro m b4 a6 ⟨bB,t1,H1,pe,ov,hK,mb,al⟩
 cases m with
 | zero=>
  obtain⟨ao,cF⟩:=al
  refine ao bB a6 b4 pe ov hK _ fun lK cM hq xj xK ry yk=>?_
  have:=aC lK cM hq xj xK ry (mb.trans yk)
  cases e with
  | normal=>exact absurd rfl cF
  | exit id=>exact this
  | ret=>exact this
 | succ m=>
  obtain⟨t2,aS,ao,al⟩:=al
  refine ao bB a6 b4 pe ov hK _ fun lK cM hq xj xK ry yk=>?_
  exact⟨m,Nat.lt_succ_self m,lK,t2,aS,xj,xK,ry,mb.trans yk,al⟩
def QX(P:Program)(base:Nat):pW->Out->Prop
 | .code (.loop c) t H,.code e qV aF=>∃n,uA P base c e qV aF n t H
 | _,_=>True
theorem abm(hm:P.follows .mixedOrders=true){j:pW}{U:Out}(h:ee P j U):Sound P base j U/\QX P base j U:=by
 induction h with
 | skip=>exact⟨fun aj w a dm h1 bL Q aC=>wp_skip (aC aj a w dm h1 bL (Step.refl _ _ _)),trivial⟩
 | ret=>exact⟨fun aj w a dm h1 bL Q aC=>wp_ret (aC aj a w dm h1 bL (Step.refl _ _ _)),trivial⟩
 | exit=>exact⟨fun aj w a dm h1 bL Q aC=>wp_exit (aC aj a w dm h1 bL (Step.refl _ _ _)),trivial⟩
 | Cn o aa lz qF=>
  refine⟨fun aj w a dm h1 bL Q aC=>wp_seq (lz.1 aj w a dm h1 bL _ fun bB b4 a6 pe ov hK mb=>?_),trivial⟩
  exact qF.1 bB a6 b4 pe ov hK Q fun lK cM hq xj xK ry yk=>aC lK cM hq xj xK ry (mb.trans yk)
 | zb o he lz=>
  rename_i zR hF t t1 H H1 e
  refine⟨fun aj w a dm h1 bL Q aC=>wp_seq (lz.1 aj w a dm h1 bL _ fun bB b4 a6 pe ov hK mb=>?_),trivial⟩
  have:=aC bB b4 a6 pe ov hK mb
  cases e with
  | normal=>exact absurd rfl he
  | exit id=>exact this
  | ret=>exact this
 | cond ae ak h a1=>
  rename_i c x y b t t1 H H1 e
  refine⟨fun aj w a dm h1 bL Q aC=>?_,trivial⟩
  have an:=zd dm ak
  rw[ae]at an
  exact wp_cond an.J1 (a1.1 aj w a dm h1 bL Q aC)
 | block h a1=>
  rename_i id c t t1 H H1 e
  refine⟨fun aj w a dm h1 bL Q aC=>wp_block (a1.1 aj w a dm h1 bL _ fun bB b4 a6 pe ov hK mb=>?_),trivial⟩
  have:=aC bB b4 a6 pe ov hK mb
  cases e with
  | normal=>simpa[dP.real,Exit.inBlock]using this
  | exit h2=>
   by_cases af:h2=id
   ·subst af;simpa[dP.real,Exit.inBlock]using this
   ·simpa[dP.real,Exit.inBlock,af]using this
  | ret=>simpa[dP.real,Exit.inBlock]using this
 | BV o aa lz qF=>
  obtain⟨n,al⟩:=qF.2
  have:uA P base _ _ _ _ (n+1) _ _:=⟨_,_,lz.1,al⟩
  exact⟨N7 this,n+1,this⟩
 | yS o he lz=>
  have:uA P base _ _ _ _ 0 _ _:=⟨lz.1,he⟩
  exact⟨N7 this,0,this⟩
 | region T V a3 ak h bf aD a1=>
  rename_i id ops draw
  have mT:∀(i:Nat) (U:Oper),ops[i]?=some U->uy P base ops U (T i) (a3 i) (V i) (a3 (i+1)):=fun i U aQ=>(a1 i U aQ).1
  refine⟨fun aj w a dm h1 bL Q aC=>?_,trivial⟩
  cases draw with
  | false=>
   refine wp_region ?_
   rw[List.range_eq_range']
   exact Gi ak mT bf (fun bB b4 a6 a0 a4 bI cj=>aC bB b4 a6 a0 a4 bI cj) ops.size 0 (by omega) aj a w dm h1 bL (Step.refl _ _ _)
  | true=>
   obtain⟨eF,b3⟩:=aD rfl
   refine wp_region_any hm ?_
   obtain⟨bh,o,aa,aA,bj⟩:=Gf ops ops.size 0 (by omega)
   have u9:ct P base aj (a3 0) {w with drawn:=w.drawn+1}:=bL.heap rfl
   have a_:∀j U,ops[j]?=some U->bW P U=true->a3 (j+1)=a3 j:=fun j U aQ aB=>by
    rcases mT j U aQ with⟨-,-,aA⟩ | ⟨-,-,-,aA⟩ | ⟨-,aa,-⟩
    ·exact aA
    ·exact aA
    ·rw[aB]at aa;cases aa
   have nq:Ext (a3 0) (a3 bh):=by
    have:=za a_ b3 aa aA bh 0 (Nat.zero_le _) (by omega)
    simpa using this
   have ql:∀j,(Array.replicate ops.size false).getD j false=false:=fun j=>by
    simp only[Array.getD_eq_getD_getElem?,Array.getElem?_replicate]
    split<;>rfl
   refine Q6 (V:=V) (iH:=aj) (ei:=w) eF ak mT bf b3 (fun bB b4 a6 a0 a4 bI cj=>aC bB b4 a6 a0 a4 bI cj) ops.size (Array.replicate ops.size false) 0 bh aj a _ (by simp) (by unfold uh;exact Nat.le_trans (List.length_filter_le _ _) (by simp)) ?_
   refine⟨(fun i U e aW=>by rw[ql]at aW;cases aW),o,aa,aA,(fun j U aY=>by omega),fun j U _ _ _=>ql j,bj,u9.grow nq,fun b k ag=>ag,fun b k ag=> .inl (bL.eZ b k ag).2,?_,(fun j _ aW=>by rw[ql]at aW;cases aW),fun v an=>?_,bL.pos,Nat.le_refl _,by simpa using dm.1.symm,?_,h1,?_⟩
   ·intro j a0 a4 b k x cs v ag g2 J ae an
    have mJ:=(bL.eZ b k ag).2
    rw[nq.get mJ]at J
    obtain⟨u,hu⟩:=(bL.fc b k x ag J).Hl ae an
    have hlen:(a3 0).length<=(a3 j).length:=by
     have:=(za a_ b3 aa aA j 0 (Nat.zero_le _) (by omega)).len
     simpa using this
    exact(j5.of (fun b k ag=>(bL.eZ b k ag).2) hu).mono hlen
   ·obtain⟨i,af⟩:=List.getElem?_of_mem an
    obtain⟨u,-,hu⟩:=dm.get af
    exact j5.of (fun b k ag=>(bL.eZ b k ag).2) hu
   ·intro d aD
    rw[Dt (fun j aW=>by rw[ql]at aW;cases aW)]
    exact zd (x:= .tmp d) dm rfl
   ·have:=(Step.drawn aj (a3 0) w (w.drawn+1)).grow u9 nq
    exact this
 | Cj T V a3 ep ak h bf eF ar aD vM a1=>
  rename_i id ops draw
  have mT:∀(i:Nat) (U:Oper),ops[i]?=some U->uy P base ops U (T i) (a3 i) (V i) (a3 (i+1)):=fun i U aQ=>(a1 i U aQ).1
  refine⟨fun aj w a dm h1 bL Q aC=>?_,trivial⟩
  cases draw with
  | false=>
   refine wp_region ?_
   rw[List.range_eq_range']
   exact Gi ak mT bf (fun bB b4 a6 a0 a4 bI cj=>aC bB b4 a6 a0 a4 bI cj) ops.size 0 (by omega) aj a w dm h1 bL (Step.refl _ _ _)
  | true=>
   refine wp_region_any hm ?_
   have u9:ct P base aj (a3 0) {w with drawn:=w.drawn+1}:=bL.heap rfl
   have ql:∀j,(Array.replicate ops.size false).getD j false=false:=fun j=>by
    simp only[Array.getD_eq_getD_getElem?,Array.getElem?_replicate]
    split<;>rfl
   refine ZJ (V:=V) (aj:=aj) (ei:=w) eF ak mT bf ar aD vM (fun bB b4 a6 a0 a4 bI cj=>aC bB b4 a6 a0 a4 bI cj) ops.size (Array.replicate ops.size false) a _ (a3 0) (by simp) (by unfold uh;exact Nat.le_trans (List.length_filter_le _ _) (by simp)) ?_
   refine⟨(fun i U e aW=>by rw[ql]at aW;cases aW),(fun j aW=>by rw[ql]at aW;cases aW),rfl,(fun b=>⟨0,Nat.zero_le _,fun j aY=>absurd aY (Nat.not_lt_zero j),fun j _ _=>ql j,rfl⟩),u9,by simpa using dm.1.symm,?_,h1,Step.drawn aj (a3 0) w (w.drawn+1)⟩
   intro d aD
   rw[Dt (fun j aW=>by rw[ql]at aW;cases aW)]
   exact zd (x:= .tmp d) dm rfl
 | tW hw=>exact⟨.inl ⟨hw,rfl,rfl⟩,trivial⟩
 | v8 hw a_ h=>exact⟨.inr (.inl ⟨hw,a_,h,rfl⟩),trivial⟩
 | sb hw a_ h=>
  refine⟨.inr (.inr ⟨hw,a_,fun aj w a cd bL K Q aV=>?_⟩),trivial⟩
  obtain⟨bB,au,a6,al,an,hK,dc⟩:=On h bL cd
  unfold Oper.wp
  rcases al with al | ⟨al,rfl⟩
  ·rw[al];exact aV bB au a6 an hK dc
  ·rw[al];exact aV bB undef a6 an hK dc
 | v7 hw a_ aQ aB aX aJ ag h a1=>
  rename_i ops U t H H1 v f args ld g first cap fn
  refine⟨.inr (.inr ⟨hw,a_,fun aj w a cd bL K Q aV=>?_⟩),trivial⟩
  have tj:=cd f (by simp[aQ,Op.operands,Call.operands])
  rw[aB]at tj
  obtain⟨w6,dJ,he,o,aa⟩:∃w6 dJ,a.eval f= .func (.func g) w6 dJ/\fl aj first w6/\fl aj cap dJ:=by
   generalize a.eval f=u at tj
   cases tj with
   | func _ ar cO dK eR=>exact⟨_,_,rfl,⟨ar,cO⟩,dK,eR⟩
  have rC:c0 aj (args.toList.map (fo t)) (args.toList.map a.eval):=by
   refine⟨by simp,fun i u Qh hu ny=>?_⟩
   simp only[List.getElem?_map,Option.map_eq_some_iff]at hu ny
   obtain⟨x,J,rfl⟩:=hu
   obtain⟨y,aI,rfl⟩:=ny
   rw[J]at aI
   obtain rfl:=Option.some.inj aI
   exact cd x (by simp[aQ,Op.operands,Call.operands];exact .inr (by simpa using List.mem_of_getElem? J))
  have g6:(execOp a.eval U).run P w= .ok (.enter g (w6++args.map a.eval++dJ)) w:=by
   have xG:¬fn.body=none:=fun e=>by rw[e]at ag;cases ag
   have hM:¬fn.name= "runtime.NumGoroutine" :=by simpa using aJ
   simp[execOp,aQ,resolve,he,Deferred.ofValue,invoke,callFunc,aX,hM,xG]
  unfold Oper.wp
  rw[g6,Oper.upon_enter]
  have TR:c0 aj (first.toList++args.toList.map (fo t)++cap.toList) (w6++args.map a.eval++dJ).toList:=by
   have:=(o.toList.append rC).append aa.toList
   simpa using this
  refine(a1.1 aj w _ TR bL).mono fun e gQ cO=>?_
  obtain⟨au,bB,rfl,an,hK,dc⟩:=cO
  exact aV bB au gQ an hK dc
 | call aB ag h he al a1=>
  rename_i f fn c args t1 aG H H1 e
  refine⟨fun aj w lb dm bL=>?_,trivial⟩
  refine calls_of_wp aB ag (a1.1 aj w _ ?_ rfl bL _ fun bB b4 a6 pe ov hK mb=>?_)
  ·have ar:args.length=lb.size:=by simpa using dm.1
   have:=dm.append (c0.replicate aj (fn.ntmps-args.length))
   rw[ar]at this⊢
   simpa using this
  ·obtain⟨au,a0,a4⟩:=aa9 pe hK al
   rcases he with rfl | rfl
   ·exact⟨ov,au,a0,au,bB,rfl,a4,hK,mb⟩
   ·exact⟨ov,au,a0,au,bB,rfl,a4,hK,mb⟩
 | z0 h aQ a1=>
  refine⟨fun aj w lb dm bL=>?_,trivial⟩
  refine(a1.1 aj w lb dm bL).mono fun e gQ cO=>?_
  obtain⟨au,bB,rfl,an,hK,dc⟩:=cO
  obtain⟨jC,mi⟩:=hK.kill _ aQ
  exact⟨au,bB,rfl,an,jC,dc.trans mi⟩
theorem abl(hm:P.follows .mixedOrders=true){f:FuncId}{args:List Value}{H H1:ab}{v:Value}(h:ee P (.call f args H) (.val v H1)){aj:bm}{w:World}{lb:Array Value}(dm:c0 aj args lb.toList)(bL:ct P base aj H w):
  Calls P f lb w fun e gQ=>∃au bB,e= .returned au/\bo bB v au/\ct P base bB H1 gQ/\Step aj H w bB H1 gQ:=(abm hm h).1 aj w lb dm bL
end
def kx(op:BinOp)(k:IntKind)(a b:Int):Option Value:=
 match op with
 | .add=>some (.int k (k.wrap (a+b)))
 | .sub=>some (.int k (k.wrap (a-b)))
 | .mul=>some (.int k (k.wrap (a*b)))
 | .quo=>if b=0 then none else some (.int k (k.wrap (a.tdiv b)))
 | .rem=>if b=0 then none else some (.int k (a.tmod b))
 | .and=>some (.int k (k.wrap (BitVec.ofInt k.bits a&&&BitVec.ofInt k.bits b).toNat))
 | .or=>some (.int k (k.wrap (BitVec.ofInt k.bits a ||| BitVec.ofInt k.bits b).toNat))
 | .xor=>some (.int k (k.wrap (BitVec.ofInt k.bits a^^^BitVec.ofInt k.bits b).toNat))
 | .eql=>some (.bool (a==b))
 | .neq=>some (.bool (a !=b))
 | .lss=>some (.bool (decide (a<b)))
 | .leq=>some (.bool (decide (a<=b)))
 | .gtr=>some (.bool (decide (a>b)))
 | .geq=>some (.bool (decide (a>=b)))
 | _=>none
def wV(op:BinOp)(k:IntKind)(a b:Int):Option Value:=
 if b<0 then none else
 match op with
 | .shl=>some (.int k (k.wrap (a*2^(min b.toNat k.bits))))
 | .shr=>some (.int k (a.fdiv (2^(min b.toNat k.bits))))
 | _=>none
def uE(op:BinOp)(a b:ByteArray):Option Value:=
 match op with
 | .add=>if a.size+b.size<=9223372036854775807 then some (.string (a++b))else none
 | .eql=>some (.bool (a.toList==b.toList))
 | .neq=>some (.bool !(a.toList==b.toList))
 | .lss=>some (.bool (Op.bytesLess a.toList b.toList))
 | _=>none
def uG(P:Program)(t:TypeId):Bool:=match P.underlying t with
 | some .bool=>true
 | _=>false
def iG(P:Program)(t:TypeId):Bool:=match P.underlying t with
 | some .string=>true
 | _=>false
theorem NQ{P:Program}{t:TypeId}{k:IntKind}(h:(match P.underlying t with | some (.int k)=>some k | _=>none)=some k):r4 P t=true:=by
 unfold r4
 split at h
 ·rename_i b_ ak;first | rw[ak] | rfl
 ·cases h
def ki(P:Program)(t:TypeId):Option IntKind:=match P.underlying t with
 | some (.int k)=>some k
 | _=>none
def fi(P:Program)(t:TypeId):Option TypeId:=match P.underlying t with
 | some (.slice e)=>some e
 | _=>none
theorem Ri{P:Program}{t:TypeId}(h:uG P t=true):P.underlying t=some .bool:=by
 unfold uG at h
 split at h
 ·assumption
 ·cases h
theorem wj{P:Program}{t:TypeId}(h:iG P t=true):P.underlying t=some .string:=by
 unfold iG at h
 split at h
 ·assumption
 ·cases h
theorem NR{P:Program}{t:TypeId}{k:IntKind}(h:ki P t=some k):P.underlying t=some (.int k):=by
 unfold ki at h
 split at h
 ·obtain rfl:=Option.some.inj h;assumption
 ·cases h
theorem GN{P:Program}{t e:TypeId}(h:fi P t=some e):P.underlying t=some (.slice e):=by
 unfold fi at h
 split at h
 ·obtain rfl:=Option.some.inj h;assumption
 ·cases h
def eh(P:Program)(op:BinOp)(t:TypeId)(x y:Value):Option Value:=
 match x,y with
 | .int k a,.int b_ b=>if op= .shl\/op= .shr then wV op k a b else if k=b_ then kx op k a b else none
 | .string a,.string b=>uE op a b
 | .bool a,.bool b=>if uG P t=true then(match op with | .eql=>some (.bool (a==b)) | .neq=>some (.bool (!(a==b))) | _=>none)else none
 | .slice a n c,.slice none 0 0=>match fi P t with
  | some _=>(match op with | .eql=>some (.bool a.isNone) | .neq=>some (.bool (!a.isNone)) | _=>none)
  | _=>none
 | _,_=>none
def pO(op:UnOp)(x:Value):Option Value:=
 match op,x with
 | .neg,.int k n=>some (.int k (k.wrap (0-n)))
 | .xor,.int k n=>some (.int k (k.wrap (BitVec.ofInt k.bits (if k.signed then-1 else k.max)^^^BitVec.ofInt k.bits n).toNat))
 | .not,.bool b=>some (.bool !b)
 | _,_=>none
section
variable {P:Program} {aP:Operand->Value} {U:Oper} {H:ab}
theorem qb{U:Oper}(h:∀x∈U.op.operands,flat (aP x)=true):(U.op.operands.all fun x=>flat (aP x))=true:=by
 rw[Array.all_eq_true']
 exact h
theorem Ra{op:BinOp}{k:IntKind}{a b:Int}{v:Value}(h:kx op k a b=some v)(t:TypeId):dH P (binOp op t (.int k a) (.int k b))=some v/\flat v=true:=by
 cases op<;>simp only[kx]at h<;>first
  | (cases h;done)
  | (split at h
     ·cases h
     ·rename_i ag
      obtain rfl:=Option.some.inj h
      exact⟨by simp[binOp,Op.intDiv,ag,ff],rfl⟩)
  | (obtain rfl:=Option.some.inj h
     exact⟨by simp[binOp,Op.intArith,Op.intBits,Op.intCmp,ff],rfl⟩)
theorem Rb{op:BinOp}{k b_:IntKind}{a b:Int}{v:Value}(cd:op= .shl\/op= .shr)(h:wV op k a b=some v)(t:TypeId):dH P (binOp op t (.int k a) (.int b_ b))=some v/\flat v=true:=by
 unfold wV at h
 split at h
 ·cases h
 ·rename_i ag
  rcases cd with rfl | rfl
  ·simp only at h
   obtain rfl:=Option.some.inj h
   exact⟨by simp[binOp,Op.shift,ag,ff],rfl⟩
  ·simp only at h
   obtain rfl:=Option.some.inj h
   exact⟨by simp[binOp,Op.shift,ag,ff],rfl⟩
theorem Rc{op:BinOp}{a b:ByteArray}{v:Value}(h:uE op a b=some v)(t:TypeId):dH P (binOp op t (.string a) (.string b))=some v/\flat v=true:=by
 unfold uE at h
 split at h
 ·split at h
  ·rename_i ao
   obtain rfl:=Option.some.inj h
   have:¬((((a.size+b.size:Nat)):Int)>IntKind.i64.max):=by
    have:IntKind.i64.max=9223372036854775807:=by decide
    omega
   exact⟨by simp only[binOp,Op.stringOp,if_neg this];rfl,rfl⟩
  ·cases h
 ·obtain rfl:=Option.some.inj h
  exact⟨by simp[binOp,Op.stringOp,ff],rfl⟩
 ·obtain rfl:=Option.some.inj h
  exact⟨by simp[binOp,Op.stringOp,ff],rfl⟩
 ·obtain rfl:=Option.some.inj h
  exact⟨by simp[binOp,Op.stringOp,ff],rfl⟩
 ·cases h
theorem aaK(d:Nat){t:TypeId}{a b:Bool}(hu:P.underlying t=some .bool):dH P (Op.equalIn (d+1) t (.bool a) (.bool b))=some (a==b):=by
 simp only[Op.equalIn,fP,oT,hu,Option.bind_some]
 rfl
theorem abv{op:BinOp}{t pS:TypeId}{x y:Operand}{v:Value}(aQ:U.op= .binOp op t x y pS)(h:eh P op t (aP x) (aP y)=some v):hV P aP U v:=by
 have key:∀{a b:Value},aP x=a->aP y=b->flat a=true->flat b=true->(∀u:Unit,dH P (eqGuard op t x y a b)=some ())->dH P (binOp op t a b)=some v->flat v=true->hV P aP U v:=by
  intro a b aL ag oz Vj aX al an
  refine .pure (by simp[bW,aQ]) (qb fun z aM=>?_) an ?_
  ·simp only[aQ,Op.operands,List.mem_toArray,List.mem_cons,List.not_mem_nil,or_false]at aM
   rcases aM with rfl | rfl
   ·rw[aL];exact oz
   ·rw[ag];exact Vj
  ·simp only[execOp,aQ,aL,ag,fP,aX (),Option.bind_some,al,ff]
 unfold eh at h
 split at h
 ·rename_i k a b_ b o aa
  have aX:∀u:Unit,dH P (eqGuard op t x y (.int k a) (.int b_ b))=some ():=fun _=>by unfold eqGuard;split<;>rfl
  split at h
  ·rename_i cd
   obtain⟨a0,a4⟩:=Rb (P:=P) (b_:=b_) cd h t
   exact key o aa rfl rfl aX a0 a4
  ·split at h
   ·rename_i ak
    subst ak
    obtain⟨a0,a4⟩:=Ra (P:=P) h t
    exact key o aa rfl rfl aX a0 a4
   ·cases h
 ·rename_i a b o aa
  obtain⟨a0,a4⟩:=Rc (P:=P) h t
  exact key o aa rfl rfl (fun _=>by unfold eqGuard;split<;>rfl) a0 a4
 ·rename_i a b o aa
  split at h
  ·rename_i hu
   have hu:=Ri hu
   have aX:∀u:Unit,dH P (eqGuard op t x y (.bool a) (.bool b))=some ():=fun _=>by unfold eqGuard;split<;>rfl
   have he:dH P (Op.equal t (.bool a) (.bool b))=some (a==b):=aaK 9999 hu
   split at h
   ·obtain rfl:=Option.some.inj h
    exact key o aa rfl rfl aX (by simp only[binOp,fP,he,Option.bind_some,ff]) rfl
   ·obtain rfl:=Option.some.inj h
    exact key o aa rfl rfl aX (by simp only[binOp,fP,he,Option.bind_some,ff]) rfl
   ·cases h
  ·cases h
 ·rename_i a n c o aa
  split at h
  ·rename_i e hu
   have hu:=GN hu
   split at h
   ·obtain rfl:=Option.some.inj h
    exact .KG aQ hu o aa
   ·obtain rfl:=Option.some.inj h
    exact .Ov aQ hu o aa
   ·cases h
  ·cases h
 ·cases h
theorem ab9{op:UnOp}{t:TypeId}{x:Operand}{v:Value}(aQ:U.op= .unOp op t x)(h:pO op (aP x)=some v):hV P aP U v:=by
 have key:∀{a:Value},aP x=a->flat a=true->dH P (Op.unary op a)=some v->flat v=true->hV P aP U v:=by
  intro a aL oz al an
  refine .pure (by simp[bW,aQ]) (qb fun z aM=>?_) an ?_
  ·simp only[aQ,Op.operands,List.mem_toArray,List.mem_cons,List.not_mem_nil,or_false]at aM
   subst aM
   rw[aL];exact oz
  ·simp only[execOp,aQ,aL,fP,al,Option.bind_some,ff]
 unfold pO at h
 split at h
 ·rename_i k n o
  obtain rfl:=Option.some.inj h
  exact key o rfl (by simp[Op.unary,Op.intArith,ff]) rfl
 ·rename_i k n o
  obtain rfl:=Option.some.inj h
  exact key o rfl (by simp[Op.unary,Op.intBits,ff]) rfl
 ·rename_i b o
  obtain rfl:=Option.some.inj h
  exact key o rfl (by simp[Op.unary,ff]) rfl
 ·cases h
end
def iU(H:ab)(b:Nat):Option (List Value):=(H[b]?).bind bO.cells?
def fW(P:Program)(s:TypeId)(f:Nat):Option Nat:=match P.underlying s with
 | some (.struct j8)=>(match j8[f]? with
  | some fd=>(match bA P fd.type with
   | some (_+1)=>some fd.offset
   | _=>none)
  | none=>none)
 | _=>none
theorem S6{P:Program}{s:TypeId}{f off:Nat}(h:fW P s f=some off):∃j8 fd n,P.underlying s=some (.struct j8)/\j8[f]?=some fd/\bA P fd.type=some (n+1)/\fd.offset=off:=by
 unfold fW at h
 split at h
 ·rename_i j8 hu
  split at h
  ·rename_i fd aB
   split at h
   ·rename_i n ao
    exact⟨j8,fd,n,hu,aB,ao,by simpa using h⟩
   ·cases h
  ·cases h
 ·cases h
def pc(P:Program)(s:TypeId)(f:Nat):Option (Nat×Option Nat):=match P.underlying s with
 | some (.struct j8)=>(match j8[f]? with
  | some fd=>(match dr P fd.type with
   | some false=>some (fd.offset,none)
   | some true=>(bA P fd.type).map fun n=>(fd.offset,some n)
   | none=>none)
  | none=>none)
 | _=>none
def p8(cs:Array Value):Nat×Option Nat->Option Value
 | (off,none)=>cs[off]?
 | (off,some n)=>some (.agg (cs.extract off (off+n)))
theorem pK{P:Program}{α β:Type}(x:Sem α)(f:α->β):dH P (f<$>x)=(dH P x).map f:=by
 rw[map_eq_pure_bind,fP]
 cases dH P x<;>rfl
theorem S5{P:Program}{s:TypeId}{f:Nat}{c:Nat×Option Nat}{cs:Array Value}{v:Value}(h:pc P s f=some c)(an:p8 cs c=some v):dH P (Instr.field s (.agg cs) f)=some v:=by
 unfold pc at h
 split at h
 ·rename_i j8 hu
  split at h
  ·rename_i fd aB
   simp only[Instr.field,fP,oT,hu,Option.bind_some,aB,asAgg,ff,part,OT]
   unfold dr at h
   cases aD:P.underlying fd.type with
   | none=>simp[aD]at h
   | some d=>
    simp only[aD,Option.map_some]at h⊢
    cases d<;>simp only at h<;>first
     | (obtain rfl:=Option.some.inj h
        simp only[p8]at an
        simp[an,ff]
        done)
     | (obtain⟨n,aJ,rfl⟩:=Option.map_eq_some_iff.1 h
        simp only[p8,Option.some.injEq]at an
        subst an
        simp[pK,y4,aJ])
  ·cases h
 ·cases h
def sj(P:Program)(aP:Operand->Value)(H:ab):Callee->List Operand->List TypeId->Option (Value×ab)
 | .builtin .len,[x],[t]=>(match aP x with
  | .slice _ n _=>(match fi P t with
   | some _=>some (.int .i64 n,H)
   | none=>none)
  | .string s=>if iG P t=true then some (.int .i64 s.size,H)else none
  | _=>none)
 | .builtin .max,[x,y],_=>(match aP x,aP y with
  | .int k a,.int _ b=>some (.int k (if b>a then b else a),H)
  | _,_=>none)
 | .builtin .min,[x,y],_=>(match aP x,aP y with
  | .int k a,.int _ b=>some (.int k (if b<a then b else a),H)
  | _,_=>none)
 | _,_,_=>none
def cb(P:Program)(aP:Operand->Value)(H:ab):Op->Option (Value×ab)
 | .move x=>some (aP x,H)
 | .assign x=>some (aP x,H)
 | .pick c a b=>(match aP c with
  | .bool t=>some (if t then aP a else aP b,H)
  | _=>none)
 | .alloc e=>(match dD P e with
  | some z=>if flat z=true/\(bA P e).isSome=true then some (.pointer (some ⟨H.length,0,none⟩),H++[.own e false z.cells.toList])else none
  | none=>none)
 | .box e x=>if(bA P e).isSome=true then some (.pointer (some ⟨H.length,0,none⟩),H++[.own e false (aP x).cells.toList])else none
 | .load ty x=>(match aP x with
  | .pointer (some ⟨b,i,none⟩)=>(match iU H b with
   | some cs=>(match dr P ty with
    | some false=>(cs[i]?).map fun v=>(v,H)
    | some true=>(match bA P ty with
     | some n=>if i+n<=cs.length then some (.agg ((cs.drop i).take n).toArray,H)else none
     | none=>none)
    | none=>none)
   | none=>none)
  | _=>none)
 | .store ty x y=>(match aP x with
  | .pointer (some ⟨b,i,none⟩)=>(match H[b]? with
   | some (.own e l cs)=>if bA P ty=some (aP y).cells.size/\i+(aP y).cells.size<=cs.length/\((aP y).cells.toList.all (·.oneCell'))=true then some (undef,H.set b (.own e l (dp cs i (aP y).cells.toList)))else none
   | _=>none)
  | _=>none)
 | .nilCheck x=>(match aP x with
  | .pointer (some a)=>some (.pointer (some a),H)
  | _=>none)
 | .binOp op t x y _=>(eh P op t (aP x) (aP y)).map fun v=>(v,H)
 | .unOp op _ x=>(pO op (aP x)).map fun v=>(v,H)
 | .convert src dst x=>(match aP x with
  | .int _ n=>(match ki P src,ki P dst with
   | some _,some k=>some (.int k (k.wrap n),H)
   | _,_=>none)
  | .string s=>if iG P src=true/\iG P dst=true then some (.string s,H)else none
  | _=>none)
 | .makeInterface t x=>if P.concrete t=true then some (.iface t (aP x),H)else none
 | .makeFunc fn a b=>some (.func fn (a.map aP) (b.map aP),H)
 | .fieldAddr s x f=>(match aP x with
  | .pointer (some ⟨b,i,none⟩)=>(fW P s f).map fun off=>(.pointer (some ⟨b,i+off,none⟩),H)
  | _=>none)
 | .field t x f=>(match aP x with
  | .agg cs=>(match pc P t f with
   | some c=>(p8 cs c).map fun v=>(v,H)
   | none=>none)
  | _=>none)
 | .indexAddr t x ew=>(match aP x,aP ew with
  | .slice (some ⟨b,i,none⟩) len _,.int _ n=>(match fi P t with
   | some e=>(match bA P e with
    | some R=>if 0<=n/\n<len then some (.pointer (some ⟨b,i+n.toNat*R,none⟩),H)else none
    | none=>none)
   | none=>none)
  | _,_=>none)
 | .index t x ew=>(match aP x,aP ew with
  | .string s,.int _ n=>if iG P t=true/\0<=n/\n<s.size then some (.int .u8 ((s.data.getD n.toNat 0).toNat:Int),H)else none
  | _,_=>none)
 | .extract x i=>(match aP x with
  | .tuple aG=>(aG[i]?).map fun v=>(v,H)
  | _=>none)
 | .build t a5=>(match dD P t with
  | some z=>if flat z=true then(dH P (Instr.build t (a5.map fun p=>(p.1,aP p.2)))).map fun v=>(v,H)else none
  | none=>none)
 | .call c=>sj P aP H c.callee c.args.toList c.argTypes.toList
 | .slice t x bc af none=>(match aP x with
  | .string s=>(match dN aP bc,eY aP s.size af with
   | some l,some h=>if iG P t=true/\l<=h/\h<=s.size then some (.string (s.extract l h),H)else none
   | _,_=>none)
  | _=>none)
 | _=>none
theorem z3{H:ab}{b:Nat}{cs:List Value}(h:iU H b=some cs):∃X,H[b]?=some X/\X.cells?=some cs:=by
 unfold iU at h
 cases ag:H[b]? with
 | none=>simp[ag]at h
 | some X=>exact⟨X,rfl,by simpa[ag]using h⟩
theorem yO{aP:Operand->Value}{x:Operand}{n d:Nat}(h:dN aP (some x)=some n\/eY aP d (some x)=some n):∃k m,aP x= .int k m/\0<=m/\m.toNat=n:=by
 simp only[dN,eY,or_self]at h
 split at h
 ·rename_i k m he
  split at h
  ·rename_i aH;exact⟨k,m,he,aH,by simpa using h⟩
  ·cases h
 ·cases h
theorem B9{P:Program}{k:IntKind}{n:Int}{y:Nat}{code:BoundsCode}(aH:0<=n)(o:n.toNat<=y):dH P (Instr.sliceBound (.int k n) y code)=some n.toNat:=by
 have:n<=(y:Int):=by omega
 simp only[Instr.sliceBound,asIntOf,fP,ff,Option.bind_some]
 rw[if_pos ⟨aH,this⟩]
 rfl
theorem zi{P:Program}{ops:Array Oper}{U:Oper}{t:List Value}{H H1:ab}{v:Value}(hw:Region.wanted U (g_ ops t)=true)(h:cb P (fo t) H U.op=some (v,H1)):ee P (.op ops U t H) (.val v H1):=by
 have F:bW P U=true->hV P (fo t) U v->H1=H->ee P (.op ops U t H) (.val v H1):=fun aB a_ e=>e▸ .v8 hw aB a_
 have M:bW P U=false->fm P (fo t) H U v H1->ee P (.op ops U t H) (.val v H1):=fun aB jv=> .sb hw aB jv
 cases cd:U.op<;>rw[cd]at h<;>try (simp[cb]at h;done)
 case move x=>simp only[cb,Option.some.injEq,Prod.mk.injEq]at h;obtain⟨rfl,rfl⟩:=h;exact F (by simp[bW,cd]) (.move cd) rfl
 case assign x=>simp only[cb,Option.some.injEq,Prod.mk.injEq]at h;obtain⟨rfl,rfl⟩:=h;exact F (by simp[bW,cd]) (.assign cd) rfl
 case pick c a b=>
  simp only[cb]at h
  split at h
  ·rename_i qV ae
   simp only[Option.some.injEq,Prod.mk.injEq]at h
   obtain⟨rfl,rfl⟩:=h
   exact F (by simp[bW,cd]) (.pick cd ae) rfl
  ·cases h
 case alloc e=>
  simp only[cb]at h
  split at h
  ·rename_i z aM
   split at h
   ·rename_i ae
    simp only[Option.some.injEq,Prod.mk.injEq]at h
    obtain⟨rfl,rfl⟩:=h
    obtain⟨n,aJ⟩:=Option.isSome_iff_exists.1 ae.2
    exact M (by simp[bW,cd]) (.alloc cd aM ae.1 aJ)
   ·cases h
  ·cases h
 case box e x=>
  simp only[cb]at h
  split at h
  ·rename_i ae
   simp only[Option.some.injEq,Prod.mk.injEq]at h
   obtain⟨rfl,rfl⟩:=h
   obtain⟨n,aJ⟩:=Option.isSome_iff_exists.1 ae
   exact M (by simp[bW,cd]) (.box cd aJ)
  ·cases h
 case load ty x=>
  simp only[cb]at h
  split at h
  ·rename_i b i J
   split at h
   ·rename_i cs gy
    obtain⟨X,aW,ae⟩:=z3 gy
    split at h
    ·rename_i aL
     obtain⟨u,hu,he⟩:=Option.map_eq_some_iff.1 h
     simp only[Prod.mk.injEq]at he
     obtain⟨rfl,rfl⟩:=he
     exact M (by simp[bW,cd]) (.yP cd aL J aW ae hu)
    ·rename_i aL
     split at h
     ·rename_i n aJ
      split at h
      ·rename_i bC
       simp only[Option.some.injEq,Prod.mk.injEq]at h
       obtain⟨rfl,rfl⟩:=h
       exact M (by simp[bW,cd]) (.yQ cd aL aJ J aW ae bC)
      ·cases h
     ·cases h
    ·cases h
   ·cases h
  ·cases h
 case store ty x y=>
  simp only[cb]at h
  split at h
  ·rename_i b i J
   split at h
   ·rename_i e l cs aW
    split at h
    ·rename_i ae
     simp only[Option.some.injEq,Prod.mk.injEq]at h
     obtain⟨rfl,rfl⟩:=h
     exact M (by simp[bW,cd]) (.store cd ae.1 J aW ae.2.1 ae.2.2)
    ·cases h
   ·cases h
  ·cases h
 case nilCheck x=>
  simp only[cb]at h
  split at h
  ·rename_i a J
   simp only[Option.some.injEq,Prod.mk.injEq]at h
   obtain⟨rfl,rfl⟩:=h
   exact F (by simp[bW,cd]) (J▸ .nilCheck cd J) rfl
  ·cases h
 case binOp op ty x y pS=>
  simp only[cb]at h
  obtain⟨u,hu,he⟩:=Option.map_eq_some_iff.1 h
  simp only[Prod.mk.injEq]at he
  obtain⟨rfl,rfl⟩:=he
  exact F (by simp[bW,cd]) (abv cd hu) rfl
 case unOp op ty x=>
  simp only[cb]at h
  obtain⟨u,hu,he⟩:=Option.map_eq_some_iff.1 h
  simp only[Prod.mk.injEq]at he
  obtain⟨rfl,rfl⟩:=he
  exact F (by simp[bW,cd]) (ab9 cd hu) rfl
 case convert src dst x=>
  simp only[cb]at h
  split at h
  ·rename_i hP n J
   split at h
   ·rename_i jC k ao aD
    simp only[Option.some.injEq,Prod.mk.injEq]at h
    obtain⟨rfl,rfl⟩:=h
    have Mi:bW P U=true:=by simp[bW,cd,NQ ao,NQ aD]
    refine F Mi (.pure Mi (qb fun z aM=>?_) rfl ?_) rfl
    ·simp only[cd,Op.operands,List.mem_toArray,List.mem_cons,List.not_mem_nil,or_false]at aM
     subst aM
     rw[J];rfl
    ·simp only[execOp,cd,J,fP,convert,oT,NR ao,NR aD,Option.bind_some,Conv.intToInt,ff]
   ·cases h
  ·rename_i s J
   split at h
   ·rename_i ae
    simp only[Option.some.injEq,Prod.mk.injEq]at h
    obtain⟨rfl,rfl⟩:=h
    refine M (by simp[bW,cd,r4,wj ae.1]) (.tU (by simp[cd]) (qb fun z aM=>?_) rfl ?_)
    ·simp only[cd,Op.operands,List.mem_toArray,List.mem_cons,List.not_mem_nil,or_false]at aM
     subst aM
     rw[J];rfl
    ·simp only[execOp,cd,J,fP,convert,oT,wj ae.1,wj ae.2,Option.bind_some,ff]
   ·cases h
  ·cases h
 case makeInterface ty x=>
  simp only[cb]at h
  split at h
  ·rename_i ae
   simp only[Option.some.injEq,Prod.mk.injEq]at h
   obtain⟨rfl,rfl⟩:=h
   exact F (by simp[bW,cd]) (.Oh cd ae) rfl
  ·cases h
 case makeFunc fn a b=>simp only[cb,Option.some.injEq,Prod.mk.injEq]at h;obtain⟨rfl,rfl⟩:=h;exact F (by simp[bW,cd]) (.makeFunc cd) rfl
 case fieldAddr s x f=>
  simp only[cb]at h
  split at h
  ·rename_i b i J
   obtain⟨off,We,he⟩:=Option.map_eq_some_iff.1 h
   simp only[Prod.mk.injEq]at he
   obtain⟨rfl,rfl⟩:=he
   obtain⟨j8,fd,n,a0,a4,bI,rfl⟩:=S6 We
   exact F (by simp[bW,cd]) (.fieldAddr cd a0 a4 bI J) rfl
  ·cases h
 case field ty x f=>
  simp only[cb]at h
  split at h
  ·rename_i cs J
   split at h
   ·rename_i c ae
    obtain⟨u,hu,he⟩:=Option.map_eq_some_iff.1 h
    simp only[Prod.mk.injEq]at he
    obtain⟨rfl,rfl⟩:=he
    exact F (by simp[bW,cd]) (.field cd J (S5 ae hu)) rfl
   ·cases h
  ·cases h
 case indexAddr ty x ew=>
  simp only[cb]at h
  split at h
  ·rename_i b i len cap k n J af
   split at h
   ·rename_i e he
    split at h
    ·rename_i R ao
     split at h
     ·rename_i ae
      simp only[Option.some.injEq,Prod.mk.injEq]at h
      obtain⟨rfl,rfl⟩:=h
      exact F (by simp[bW,cd]) (.NP cd (GN he) ao J af ae.1 ae.2) rfl
     ·cases h
    ·cases h
   ·cases h
  ·cases h
 case index ty x ew=>
  simp only[cb]at h
  split at h
  ·rename_i s k n J af
   split at h
   ·rename_i ae
    simp only[Option.some.injEq,Prod.mk.injEq]at h
    obtain⟨rfl,rfl⟩:=h
    refine F (by simp[bW,cd]) (.pure (by simp[bW,cd]) (qb fun z aM=>?_) rfl ?_) rfl
    ·simp only[cd,Op.operands,List.mem_toArray,List.mem_cons,List.not_mem_nil,or_false]at aM
     rcases aM with rfl | rfl
     ·rw[J];rfl
     ·rw[af];rfl
    ·have aZ:n.toNat<s.size:=by omega
     have bk:s[n.toNat]?=some (s.data.getD n.toNat 0):=by
      have:s[n.toNat]?=some s[n.toNat]:=by simp[aZ]
      rw[this]
      have jW:n.toNat<s.data.size:=aZ
      simp only[Array.getD_eq_getD_getElem?,Array.getElem?_eq_getElem jW,Option.getD_some]
      rfl
     simp only[execOp,cd,J,af,fP,Instr.index,asIntOf,ff,Option.bind_some,oT,wj ae.1,if_pos ae.2.1,bk]
   ·cases h
  ·cases h
 case extract x i=>
  simp only[cb]at h
  split at h
  ·rename_i aG J
   obtain⟨u,hu,he⟩:=Option.map_eq_some_iff.1 h
   simp only[Prod.mk.injEq]at he
   obtain⟨rfl,rfl⟩:=he
   exact F (by simp[bW,cd]) (.extract cd J hu) rfl
  ·cases h
 case build ty a5=>
  simp only[cb]at h
  split at h
  ·rename_i z aM
   split at h
   ·rename_i aB
    obtain⟨u,hu,he⟩:=Option.map_eq_some_iff.1 h
    simp only[Prod.mk.injEq]at he
    obtain⟨rfl,rfl⟩:=he
    exact F (by simp[bW,cd]) (.build cd aM aB hu) rfl
   ·cases h
  ·cases h
 case slice ty x bc af fv=>
  cases fv with
  | some m=>simp only[cb]at h;cases h
  | none=>
   simp only[cb]at h
   split at h
   ·rename_i s J
    split at h
    ·rename_i l cO ar ie
     split at h
     ·rename_i ae
      simp only[Option.some.injEq,Prod.mk.injEq]at h
      obtain⟨rfl,rfl⟩:=h
      refine M (by simp[bW,cd]) (.tU (by simp[cd]) (qb fun z aM=>?_) rfl ?_)
      ·simp only[cd,Op.operands]at aM
       have aM:z=x\/bc=some z\/af=some z:=by
        cases bc<;>cases af<;>simp at aM⊢<;>first | (rcases aM with rfl | rfl | rfl<;>simp;done) | (rcases aM with rfl | rfl<;>simp;done) | (subst aM;simp;done) | (rcases aM with rfl | aM)<;>first | (rcases aM with rfl | rfl<;>simp;done) | (subst aM;simp;done) | (simp;done) | skip
       rcases aM with rfl | rfl | rfl
       ·rw[J];rfl
       ·obtain⟨k,m,e,-⟩:=yO (d:=0) (.inl ar);rw[e];rfl
       ·obtain⟨k,m,e,-⟩:=yO (.inr ie);rw[e];rfl
      ·have ag:dH P (Instr.sliceBounds false s.size s.size (bc.map (fo t)) (af.map (fo t)) none)=some (l,cO,s.size):=by
        unfold Instr.sliceBounds
        cases af with
        | none=>
         have:s.size=cO:=by simpa[eY]using ie
         subst this
         cases bc with
         | none=>
          have:0=l:=by simpa[dN]using ar
          subst this
          simp[fP,ff]
         | some y=>
          obtain⟨k,m,e,aH,rfl⟩:=yO (d:=0) (.inl ar)
          simp[e,fP,pK,ff,B9 (P:=P) (k:=k) aH ae.2.1]
        | some z=>
         obtain⟨b_,m1,c5,rp,rfl⟩:=yO (.inr ie)
         cases bc with
         | none=>
          have:0=l:=by simpa[dN]using ar
          subst this
          simp[c5,fP,pK,ff,B9 (P:=P) (k:=b_) rp ae.2.2]
         | some y=>
          obtain⟨k,m,e,aH,rfl⟩:=yO (d:=0) (.inl ar)
          simp[e,c5,fP,pK,ff,B9 (P:=P) (k:=b_) rp ae.2.2,B9 (P:=P) (k:=k) aH ae.2.1]
       simp only[execOp,cd,J,fP,Instr.sliceAt,Instr.slice,oT,wj ae.1,Option.bind_some,Option.map_none]
       simp[ag,fP,pK,ff]
     ·cases h
    ·cases h
   ·cases h
 case call c=>
  obtain⟨callee,args,ld⟩:=c
  simp only[cb]at h
  unfold sj at h
  split at h
  ·rename_i x ty rC UN
   obtain rfl:args= #[x]:=by apply Array.ext';simpa using rC
   obtain rfl:ld= #[ty]:=by apply Array.ext';simpa using UN
   split at h
   ·rename_i a n ez J
    split at h
    ·rename_i e he
     simp only[Option.some.injEq,Prod.mk.injEq]at h
     obtain⟨rfl,rfl⟩:=h
     exact F (by simp[bW,cd]) (.N3 cd (GN he) J) rfl
    ·cases h
   ·rename_i s J
    split at h
    ·rename_i ao
     simp only[Option.some.injEq,Prod.mk.injEq]at h
     obtain⟨rfl,rfl⟩:=h
     refine F (by simp[bW,cd]) (.pure (by simp[bW,cd]) (qb fun z aM=>?_) rfl ?_) rfl
     ·simp[cd,Op.operands,Call.operands]at aM
      subst aM;rw[J];rfl
     ·simp[execOp,cd,resolve,J,invoke,builtin,Builtin.len_,fP,pK,ff,oT,wj ao,goInt]
    ·cases h
   ·cases h
  ·rename_i x y rC
   obtain rfl:args= #[x,y]:=by apply Array.ext';simpa using rC
   split at h
   ·rename_i k a b_ b J aI
    simp only[Option.some.injEq,Prod.mk.injEq]at h
    obtain⟨rfl,rfl⟩:=h
    refine F (by simp[bW,cd]) (.pure (by simp[bW,cd]) (qb fun z aM=>?_) rfl ?_) rfl
    ·simp[cd,Op.operands,Call.operands]at aM
     rcases aM with rfl | rfl
     ·rw[J];rfl
     ·rw[aI];rfl
    ·simp[execOp,cd,resolve,J,aI,invoke,builtin,Builtin.max_,Builtin.max2,fP,pK,ff]
   ·cases h
  ·rename_i x y rC
   obtain rfl:args= #[x,y]:=by apply Array.ext';simpa using rC
   split at h
   ·rename_i k a b_ b J aI
    simp only[Option.some.injEq,Prod.mk.injEq]at h
    obtain⟨rfl,rfl⟩:=h
    refine F (by simp[bW,cd]) (.pure (by simp[bW,cd]) (qb fun z aM=>?_) rfl ?_) rfl
    ·simp[cd,Op.operands,Call.operands]at aM
     rcases aM with rfl | rfl
     ·rw[J];rfl
     ·rw[aI];rfl
    ·simp[execOp,cd,resolve,J,aI,invoke,builtin,Builtin.min_,Builtin.min2,fP,pK,ff]
   ·cases h
  ·cases h
def gt(t:List Value)(i:Nat):Value:=t.getD i undef
theorem Tm{t:List Value}{i:Nat}(v:Value)(h:i<t.length):gt (t.set i v) i=v:=by simp[gt,List.getD_eq_getElem?_getD,h]
theorem Tl{t:List Value}{i j:Nat}(v:Value)(h:i≠j):gt (t.set i v) j=gt t j:=by simp[gt,List.getD_eq_getElem?_getD,List.getElem?_set,h]
theorem Tn(t:List Value)(i j:Nat)(v:Value):gt (t.set i v) j=if i=j then(if i<t.length then v else gt t j)else gt t j:=by
 by_cases h:i=j
 ·subst h
  rw[if_pos rfl]
  split
  ·rename_i ar;exact Tm v ar
  ·rename_i ar;simp[gt,List.getD_eq_getElem?_getD,ar]
 ·rw[if_neg h];exact Tl v h
def hG:Value->Option Bool
 | .bool b=>some b
 | _=>none
theorem PC(ops:Array Oper)(t:List Value)(j:Nat):g_ ops t j=match(ops[j]?).bind (·.dst)with | some d=>hG (gt t d) | none=>none:=by
 unfold g_
 cases(ops[j]?).bind (·.dst)with
 | none=>rfl
 | some d=>
  simp only[Option.bind_some]
  by_cases h: @LT.lt Nat _ d t.length
  ·rw[bz h]
   simp only[gt,List.getD_eq_getElem?_getD,bz h,Option.getD_some]
   unfold hG
   cases t[d]<;>rfl
  ·rw[List.getElem?_eq_none (Nat.le_of_not_lt h)]
   simp only[gt,List.getD_eq_getElem?_getD,List.getElem?_eq_none (Nat.le_of_not_lt h),Option.getD_none]
   rfl
def zC(P:Program)(g:FuncId):Prop:=∃fn,P.funcs[g]?=some fn/\(fn.name== "runtime.NumGoroutine")=false/\fn.body.isSome=true
def QO(P:Program)(f:FuncId)(args:List Value)(v:Value):Prop:=args.all hg=true/\flat v=true/\dH P (callFunc f args.toArray)=some (.value v)
def aO(P:Program)(f:FuncId)(args:List Value)(H:ab)(Q:Value->ab->Prop):Prop:=∃v H1,((zC P f/\ee P (.call f args H) (.val v H1))\/(QO P f args v/\H1=H))/\Q v H1
def CV(P:Program)(c:Code)(t:List Value)(H:ab)(Q:dP->List Value->ab->Prop):Prop:=∃e t1 H1,ee P (.code c t H) (.code e t1 H1)/\Q e t1 H1
theorem aO.mono{P:Program}{f:FuncId}{args:List Value}{H:ab}{Q cl:Value->ab->Prop}(h:aO P f args H Q)(av:∀v H1,Q v H1->cl v H1):aO P f args H cl:=by
 obtain⟨v,H1,al,an⟩:=h
 exact⟨v,H1,al,av _ _ an⟩
def h3:Op->Bool
 | .store .. =>true
 | _=>false
def CX(P:Program)(ops:Array Oper)(draw:Bool)(k:Nat)(s:Bool):Prop:=draw=true->s=true->eO P ops k=true
def zD(P:Program)(ops:Array Oper)(draw:Bool)(k:Nat)(H H1:ab):Prop:=draw=true->eO P ops k=true\/Ext H H1
def wI(P:Program)(ops:Array Oper)(draw:Bool)(k:Nat)(U:Oper)(t:List Value)(H:ab)(K:List Value->ab->Prop):Op->Prop
 | .call {callee:= .value f,args,.. }=>(match fo t f with
  | .func (.func g) first cap=>aO P g (first.toList++args.toList.map (fo t)++cap.toList) H fun v H1=>zD P ops draw k H H1/\K (fj t U.dst v) H1
  | _=>False)
 | op=>(match cb P (fo t) H op with
  | some (v,H1)=>CX P ops draw k (h3 op)/\K (fj t U.dst v) H1
  | none=>∃v H1,bW P U=false/\fm P (fo t) H U v H1/\zD P ops draw k H H1/\K (fj t U.dst v) H1)
def o5(P:Program)(ops:Array Oper)(draw:Bool):Nat->List Oper->List Value->ab->(List Value->ab->Prop)->Prop
 | _,[],t,H,Q=>Q t H
 | k,U::rest,t,H,Q=>if Region.wanted U (g_ ops t)=true then wI P ops draw k U t H (fun t1 H1=>o5 P ops draw (k+1) rest t1 H1 Q) U.op else o5 P ops draw (k+1) rest (fj t U.dst undef) H Q
def ml(P:Program)(K:List Value->ab->Prop)(Q:dP->List Value->ab->Prop):dP->List Value->ab->Prop
 | .normal,t,H=>K t H
 | e,t,H=>Q e t H
def Dk(id:Nat)(Q:dP->List Value->ab->Prop):dP->List Value->ab->Prop
 | .exit h2,t,H=>if h2=id then Q .normal t H else Q (.exit h2) t H
 | e,t,H=>Q e t H
def gZ(P:Program)(U:Bool)(aP:Operand->Value)(H:ab)(ad W:List Nat)(K:Value->ab->List Nat->List Nat->Prop):Op->Prop
 | .load ty x=>(match aP x with
  | .pointer (some ⟨b,_,none⟩)=>b∉W/\(match cb P aP H (.load ty x)with | some (v,H1)=>K v H1 (b::ad) W | none=>False)
  | _=>False)
 | .store ty x y=>(match aP x with
  | .pointer (some ⟨b,_,none⟩)=>(U=true\/(b∉W/\b∉ad))/\(match cb P aP H (.store ty x y)with | some (v,H1)=>K v H1 ad (if U=true then W else b::W) | none=>False)
  | _=>False)
 | op=>(match cb P aP H op with | some (v,H1)=>K v H1 ad W | none=>False)
def F7(P:Program)(ops:Array Oper):Bool:=ops.all fun U=>bW P U || (match U.op with | .load .. =>true | .store .. =>true | _=>false)
def o4(P:Program)(ops:Array Oper):Nat->List Oper->List Value->ab->List Nat->List Nat->(List Value->ab->Prop)->Prop
 | _,[],t,H,_,_,Q=>Q t H
 | k,U::rest,t,H,ad,W,Q=>if Region.wanted U (g_ ops t)=true then gZ P (eO P ops k) (fo t) H ad W (fun v H1 ft fS=>o4 P ops (k+1) rest (fj t U.dst v) H1 ft fS Q) U.op else o4 P ops (k+1) rest (fj t U.dst undef) H ad W Q
def z7(ops:Array Oper):Bool:=ops.all fun U=>U.op.operands.all nH
def k8(P:Program):Code->List Value->ab->(dP->List Value->ab->Prop)->Prop
 | .skip,t,H,Q=>Q .normal t H
 | .ret,t,H,Q=>Q .ret t H
 | .exit id,t,H,Q=>Q (.exit id) t H
 | .seq a b,t,H,Q=>k8 P a t H (ml P (fun t1 H1=>k8 P b t1 H1 Q) Q)
 | .cond c x y,t,H,Q=>nH c=true/\(match fo t c with
  | .bool b=>if b=true then k8 P x t H Q else k8 P y t H Q
  | _=>False)
 | .block id c,t,H,Q=>k8 P c t H (Dk id Q)
 | .loop c,t,H,Q=>CV P (.loop c) t H Q
 | .region id ops draw,t,H,Q=>(z7 ops=true/\(draw=true->gX ops=true)/\o5 P ops draw 0 ops.toList t H (fun t1 H1=>Q .normal t1 H1))\/(z7 ops=true/\gX ops=true/\F7 P ops=true/\o4 P ops 0 ops.toList t H [] [] (fun t1 H1=>Q .normal t1 H1))
 | _,_,_,_=>False
section
variable {P:Program}
theorem abT{aP:Operand->Value}{H H1:ab}{op:Op}{v:Value}(h:cb P aP H op=some (v,H1))(ao:h3 op=false):Ext H H1:=by
 have same:H1=H->Ext H H1:=fun e=>e▸Ext.refl H
 have one:∀{e:TypeId} {l:Bool} {cs:List Value},H1=H++[.own e l cs]->Ext H H1:=fun{e l cs} he=>⟨[.own e l cs],he,fun x J c5 eN=>by simp at J;subst J;simp⟩
 cases op<;>simp only[cb]at h<;>try (first | (simp at h;done) | (cases ao;done))
 case move=>simp at h;exact same h.2.symm
 case assign=>simp at h;exact same h.2.symm
 case pick=>split at h<;>simp at h;exact same h.2.symm
 case alloc=>
  split at h
  ·split at h
   ·simp at h;exact one h.2.symm
   ·cases h
  ·cases h
 case box=>
  split at h
  ·simp at h;exact one h.2.symm
  ·cases h
 case load=>
  split at h
  ·split at h
   ·split at h
    ·obtain⟨u,hu,he⟩:=Option.map_eq_some_iff.1 h;simp at he;exact same he.2.symm
    ·split at h
     ·split at h
      ·simp at h;exact same h.2.symm
      ·cases h
     ·cases h
    ·cases h
   ·cases h
  ·cases h
 case nilCheck=>split at h<;>simp at h;exact same h.2.symm
 case binOp=>obtain⟨u,hu,he⟩:=Option.map_eq_some_iff.1 h;simp at he;exact same he.2.symm
 case unOp=>obtain⟨u,hu,he⟩:=Option.map_eq_some_iff.1 h;simp at he;exact same he.2.symm
 case convert=>
  split at h
  ·split at h<;>simp at h;exact same h.2.symm
  ·split at h<;>simp at h;exact same h.2.symm
  ·cases h
 case makeInterface=>split at h<;>simp at h;exact same h.2.symm
 case makeFunc=>simp at h;exact same h.2.symm
 case fieldAddr=>
  split at h
  ·obtain⟨u,hu,he⟩:=Option.map_eq_some_iff.1 h;simp at he;exact same he.2.symm
  ·cases h
 case field=>
  split at h
  ·split at h
   ·obtain⟨u,hu,he⟩:=Option.map_eq_some_iff.1 h;simp at he;exact same he.2.symm
   ·cases h
  ·cases h
 case indexAddr=>
  split at h
  ·split at h
   ·split at h
    ·split at h<;>simp at h;exact same h.2.symm
    ·cases h
   ·cases h
  ·cases h
 case index=>split at h;(split at h<;>simp at h;exact same h.2.symm);cases h
 case extract=>
  split at h
  ·obtain⟨u,hu,he⟩:=Option.map_eq_some_iff.1 h;simp at he;exact same he.2.symm
  ·cases h
 case build=>
  split at h
  ·split at h
   ·obtain⟨u,hu,he⟩:=Option.map_eq_some_iff.1 h;simp at he;exact same he.2.symm
   ·cases h
  ·cases h
 case call c=>
  unfold sj at h
  split at h
  ·split at h
   ·split at h<;>simp at h;exact same h.2.symm
   ·split at h<;>simp at h;exact same h.2.symm
   ·cases h
  ·split at h<;>simp at h;exact same h.2.symm
  ·split at h<;>simp at h;exact same h.2.symm
  ·cases h
 case slice ty x bc af fv=>
  cases fv with
  | some m=>simp at h
  | none=>
   simp only at h
   split at h
   ·split at h
    ·split at h<;>simp at h;exact same h.2.symm
    ·cases h
   ·cases h
theorem aat{ops:Array Oper}{draw:Bool}{k:Nat}{U:Oper}{t:List Value}{H:ab}{K:List Value->ab->Prop}(hw:Region.wanted U (g_ ops t)=true)(h:wI P ops draw k U t H K U.op):
  ∃v H1,ee P (.op ops U t H) (.val v H1)/\(draw=true->bW P U=false->eO P ops k=true\/Ext H H1)/\K (fj t U.dst v) H1:=by
 have other:(match cb P (fo t) H U.op with
  | some (v,H1)=>CX P ops draw k (h3 U.op)/\K (fj t U.dst v) H1
  | none=>∃v H1,bW P U=false/\fm P (fo t) H U v H1/\zD P ops draw k H H1/\K (fj t U.dst v) H1)->∃v H1,ee P (.op ops U t H) (.val v H1)/\(draw=true->bW P U=false->eO P ops k=true\/Ext H H1)/\K (fj t U.dst v) H1:=by
  intro h
  split at h
  ·rename_i v H1 ao
   refine⟨v,H1,zi hw ao,fun aD _=>?_,h.2⟩
   cases dc:h3 U.op with
   | true=>exact .inl (h.1 aD dc)
   | false=>exact .inr (abT ao dc)
  ·obtain⟨v,H1,aB,hm,he,aV⟩:=h
   exact⟨v,H1,.sb hw aB hm,fun aD _=>he aD,aV⟩
 cases cd:U.op<;>rw[cd]at h other<;>try (exact other h)
 rename_i c
 obtain⟨callee,args,ld⟩:=c
 cases callee with
 | invoke r m=>exact other h
 | builtin b=>exact other h
 | value f=>
  simp only[wI]at h
  split at h
  ·rename_i g first cap aB
   obtain⟨v,H1,⟨⟨fn,o,aa,aA⟩,al⟩ | ⟨⟨aL,an,aU⟩,rfl⟩,he,aV⟩:=h
   ·exact⟨v,H1,.v7 hw (by simp[bW,cd]) cd aB o aa aA al,fun aD _=>he aD,aV⟩
   ·refine⟨v,H1,.sb hw (by simp[bW,cd]) (.tU (by simp[cd]) ?_ an ?_),fun aD _=>he aD,aV⟩
    ·simp only[List.all_append,Bool.and_eq_true,List.all_map]at aL
     have o:first.all hg=true:=by simpa using aL.1.1
     have aa:cap.all hg=true:=by simpa using aL.2
     have aA:∀x∈args,flat (fo t x)=true:=fun x J=>by
      have:=List.all_eq_true.1 aL.1.2 x (by simpa using J)
      simp only[Function.comp]at this
      simp[flat,this]
     simp only[cd,Op.operands,Call.operands]
     have aH:flat (fo t f)=true:=by rw[aB];simp[flat,o,aa]
     refine Array.all_eq_true'.2 fun x J=>?_
     rcases Array.mem_append.1 J with J | J
     ·simp at J;subst J;exact aH
     ·exact aA x J
    ·have:(first.toList++args.toList.map (fo t)++cap.toList).toArray=first++args.map (fo t)++cap:=by apply Array.ext';simp
     rw[this]at aU
     simp only[execOp,cd,resolve,aB,Deferred.ofValue,invoke]
     exact aU
  ·exact h.elim
theorem OG{ops:Array Oper}{draw:Bool}{Q:List Value->ab->Prop}:∀(rest:List Oper) (k:Nat) (t:List Value) (H:ab),(∀i,rest[i]?=ops[k+i]?)->o5 P ops draw k rest t H Q->
  ∃(T:Nat->List Value) (V:Nat->Value) (a3:Nat->ab),T k=t/\a3 k=H/\(∀i U,k<=i->ops[i]?=some U->ee P (.op ops U (T i) (a3 i)) (.val (V i) (a3 (i+1)))/\T (i+1)=fj (T i) U.dst (V i)/\(draw=true->bW P U=false->eO P ops i=true\/Ext (a3 i) (a3 (i+1))))/\
   Q (T (k+rest.length)) (a3 (k+rest.length))
 | [],k,t,H,al,h=>by
  refine⟨fun _=>t,fun _=>undef,fun _=>H,rfl,rfl,fun i U hy aQ=>?_,by simpa[o5]using h⟩
  have o:ops.size<=k:=by
   have:=al 0
   simp at this
   exact this
  have aa:=(Array.getElem?_eq_some_iff.1 aQ).1
  omega
 | U::rest,k,t,H,al,h=>by
  have aQ:ops[k]?=some U:=by have:=al 0;simpa using this.symm
  have fO:∀i,rest[i]?=ops[k+1+i]?:=fun i=>by have:=al (i+1);simp at this;rw[this];congr 1;omega
  obtain⟨v,H1,a0,a4,bI⟩:∃v H1,ee P (.op ops U t H) (.val v H1)/\(draw=true->bW P U=false->eO P ops k=true\/Ext H H1)/\o5 P ops draw (k+1) rest (fj t U.dst v) H1 Q:=by
   simp only[o5]at h
   split at h
   ·rename_i hw;exact aat hw h
   ·rename_i hw
    exact⟨undef,H,.tW (by simpa using hw),fun _ _=> .inr (Ext.refl H),h⟩
  obtain⟨T,V,a3,eg,fZ,iO,m4⟩:=OG rest (k+1) _ H1 fO bI
  refine⟨fun i=>if i<=k then t else T i,fun i=>if i<=k then v else V i,fun i=>if i<=k then H else a3 i,by simp,by simp,fun i kF hy fF=>?_,?_⟩
  ·by_cases rL:i=k
   ·subst rL
    rw[aQ]at fF
    obtain rfl:=Option.some.inj fF
    simp only[Nat.le_refl,if_true,show¬(i+1<=i) by omega,if_false,eg,fZ]
    exact⟨a0,trivial,a4⟩
   ·simp only[show¬(i<=k) by omega,show¬(i+1<=k) by omega,if_false]
    exact iO i kF (by omega) fF
  ·have e:k+(U::rest).length=k+1+rest.length:=by simp;omega
   rw[e]
   simp only[show¬(k+1+rest.length<=k) by omega,if_false]
   exact m4
theorem Pu{ops:Array Oper}{U:Oper}{t:List Value}{H H1:ab}{v:Value}(hw:Region.wanted U (g_ ops t)=true)(aB:bW P U=false)(ae:∀c,U.op≠ .call c)(h:cb P (fo t) H U.op=some (v,H1)):fm P (fo t) H U v H1:=by
 have al:=zi (ops:=ops) hw h
 cases al with
 | tW rZ=>rw[hw]at rZ;cases rZ
 | v8 _ a_ _=>rw[aB]at a_;cases a_
 | sb _ _ hm=>exact hm
 | v7 _ _ aQ=>exact absurd aQ (ae _)
theorem Z2{ops:Array Oper}{U:Oper}{t:List Value}{H:ab}{ad W:List Nat}{K:Value->ab->List Nat->List Nat->Prop}(hw:Region.wanted U (g_ ops t)=true)(ag:(bW P U || (match U.op with | .load .. =>true | .store .. =>true | _=>false))=true){Dm:Bool}(h:gZ P Dm (fo t) H ad W K U.op):
  ∃v H1 ft fS g,ee P (.op ops U t H) (.val v H1)/\o2 P ops U t H v H1 g/\K v H1 ft fS/\((g=none/\ft=ad/\fS=W)\/(∃b,g=some (b,none)/\b∉W/\ft=b::ad/\fS=W)\/∃b x,g=some (b,some x)/\(Dm=true\/(b∉W/\b∉ad))/\ft=ad/\fS=if Dm=true then W else b::W):=by
 cases cd:U.op with
 | load ty x=>
  rw[cd]at h
  have aB:bW P U=false:=by simp[bW,cd]
  simp only[gZ]at h
  split at h
  ·rename_i b i J
   obtain⟨EB,h⟩:=h
   split at h
   ·rename_i v H1 ao
    have nx:=ao
    simp only[cb,J]at ao
    cases gy:iU H b with
    | none=>rw[gy]at ao;cases ao
    | some cs=>
     obtain⟨X,aW,UF⟩:=z3 gy
     have TD:H1=H:=by
      rw[gy]at ao
      simp only at ao
      split at ao
      ·obtain⟨u,hu,he⟩:=Option.map_eq_some_iff.1 ao;simp at he;exact he.2.symm
      ·split at ao
       ·split at ao
        ·simp at ao;exact ao.2.symm
        ·cases ao
       ·cases ao
      ·cases ao
     subst TD
     have VX:H1[b]?≠some .dead:=fun e=>by rw[aW]at e;simp at e;subst e;simp[bO.cells?]at UF
     refine⟨v,H1,b::ad,W,some (b,none),zi hw (by rw[cd];exact nx),⟨hw,aB,(cJ.1 aW).1,VX,rfl,fun aF s_=>?_⟩,h,.inr (.inl ⟨b,rfl,EB,rfl,rfl⟩)⟩
     refine Pu (ops:=ops) hw aB (by simp[cd]) ?_
     rw[cd]
     have:iU aF b=iU H1 b:=by unfold iU;rw[s_]
     rw[gy]at ao
     simp only[cb,J,this,gy,m0]
     revert ao
     cases dr P ty with
     | none=>simp
     | some g=>
      cases g with
      | false=>
       simp only
       cases cs[i]?<;>simp
      | true=>
       simp only
       cases bA P ty with
       | none=>simp
       | some n=>
        simp only
        split<;>simp
   ·exact h.elim
  ·exact h.elim
 | store ty x y=>
  rw[cd]at h
  have aB:bW P U=false:=by simp[bW,cd]
  simp only[gZ]at h
  split at h
  ·rename_i b i J
   obtain⟨EB,h⟩:=h
   split at h
   ·rename_i v H1 ao
    have nx:=ao
    simp only[cb,J]at ao
    split at ao
    ·rename_i e l cs aW
     split at ao
     ·rename_i xI
      simp only[Option.some.injEq,Prod.mk.injEq]at ao
      obtain⟨rfl,rfl⟩:=ao
      refine⟨_,_,ad,_,some (b,some (.own e l (dp cs i (fo t y).cells.toList))),zi hw (by rw[cd];exact nx),⟨hw,aB,(cJ.1 aW).1,by rw[aW];simp,rfl,fun aF s_=>?_⟩,h,.inr (.inr ⟨b,_,rfl,EB,rfl,rfl⟩)⟩
      refine Pu (ops:=ops) hw aB (by simp[cd]) ?_
      rw[cd]
      simp only[cb,J,s_,aW,m0]
      rw[if_pos xI]
     ·cases ao
    ·cases ao
   ·exact h.elim
  ·exact h.elim
 | _=>
  have a_:bW P U=true:=by simpa[cd]using ag
  rw[cd]at h
  simp only[gZ]at h
  split at h
  ·rename_i v H1 ao
   have al:=zi (ops:=ops) hw (by rw[cd];exact ao)
   have D3:H1=H:=by
    cases al with
    | tW=>rfl
    | v8=>rfl
    | sb _ aB=>rw[a_]at aB;cases aB
    | v7 _ aB=>rw[a_]at aB;cases aB
   exact⟨v,H1,ad,W,none,al,⟨.inr a_,D3⟩,h,.inl ⟨rfl,rfl,rfl⟩⟩
  ·exact h.elim
theorem OC{ops:Array Oper}{Q:List Value->ab->Prop}(jV:F7 P ops=true):∀(rest:List Oper) (k:Nat) (t:List Value) (H:ab) (ad W:List Nat),(∀i,rest[i]?=ops[k+i]?)->o4 P ops k rest t H ad W Q->
  ∃(T:Nat->List Value) (V:Nat->Value) (a3:Nat->ab) (ep:Nat->Option (Nat×Option bO)),T k=t/\a3 k=H/\(∀i U,k<=i->ops[i]?=some U->ee P (.op ops U (T i) (a3 i)) (.val (V i) (a3 (i+1)))/\T (i+1)=fj (T i) U.dst (V i)/\o2 P ops U (T i) (a3 i) (V i) (a3 (i+1)) (ep i))/\
   (∀i b y,k<=i->ep i=some (b,y)->eO P ops i=true\/(b∉W/\(y≠none->b∉ad)))/\(∀(i j:Nat) (b:Nat) (x:bO) (y:Option bO),k<=i->k<=j->ep i=some (b,some x)->ep j=some (b,y)->i≠j->eO P ops i=true\/eO P ops j=true)/\(∀j,k<=j->ops.size<=j->ep j=none)/\Q (T (k+rest.length)) (a3 (k+rest.length))
 | [],k,t,H,ad,W,al,h=>by
  refine⟨fun _=>t,fun _=>undef,fun _=>H,fun _=>none,rfl,rfl,fun i U hy aQ=>?_,by simp,by simp,by simp,by simpa[o4]using h⟩
  have o:ops.size<=k:=by
   have:=al 0
   simp at this
   exact this
  have aa:=(Array.getElem?_eq_some_iff.1 aQ).1
  omega
 | U::rest,k,t,H,ad,W,al,h=>by
  have aQ:ops[k]?=some U:=by have:=al 0;simpa using this.symm
  have gB:=(Array.getElem?_eq_some_iff.1 aQ).1
  have fO:∀i,rest[i]?=ops[k+1+i]?:=fun i=>by have:=al (i+1);simp at this;rw[this];congr 1;omega
  have E9:=Array.all_eq_true'.1 jV U (Array.mem_of_getElem? aQ)
  obtain⟨v,H1,ft,fS,g,a0,a4,bI,cj⟩:∃v H1 ft fS g,ee P (.op ops U t H) (.val v H1)/\o2 P ops U t H v H1 g/\o4 P ops (k+1) rest (fj t U.dst v) H1 ft fS Q/\((g=none/\ft=ad/\fS=W)\/(∃b,g=some (b,none)/\b∉W/\ft=b::ad/\fS=W)\/∃b x,g=some (b,some x)/\(eO P ops k=true\/(b∉W/\b∉ad))/\ft=ad/\fS=if eO P ops k=true then W else b::W):=by
   simp only[o4]at h
   split at h
   ·rename_i hw;exact Z2 hw E9 h
   ·rename_i hw
    have rZ:Region.wanted U (g_ ops t)=false:=by simpa using hw
    exact⟨undef,H,ad,W,none,.tW rZ,⟨.inl rZ,rfl⟩,h,.inl ⟨rfl,rfl,rfl⟩⟩
  obtain⟨T,V,a3,ep,eg,fZ,iO,Cg,Gy,Gz,m4⟩:=OC jV rest (k+1) _ H1 ft fS fO bI
  have mc:∀b,(b∈W->b∈fS)/\(b∈ad->b∈ft):=by
   intro b
   rcases cj with⟨-,rfl,rfl⟩ | ⟨c,-,-,rfl,rfl⟩ | ⟨c,x,-,-,rfl,rfl⟩
   ·exact⟨id,id⟩
   ·exact⟨id,List.mem_cons_of_mem _⟩
   ·split
    ·exact⟨id,id⟩
    ·exact⟨List.mem_cons_of_mem _,id⟩
  refine⟨fun i=>if i<=k then t else T i,fun i=>if i<=k then v else V i,fun i=>if i<=k then H else a3 i,fun i=>if i<=k then g else ep i,by simp,by simp,fun i kF hy fF=>?_,fun i b y hy aX=>?_,fun i j b x y hy vE ka kb cF=>?_,fun j o aa=>?_,?_⟩
  ·by_cases rL:i=k
   ·subst rL
    rw[aQ]at fF
    obtain rfl:=Option.some.inj fF
    simp only[Nat.le_refl,if_true,show¬(i+1<=i) by omega,if_false,eg,fZ]
    exact⟨a0,trivial,a4⟩
   ·simp only[show¬(i<=k) by omega,show¬(i+1<=k) by omega,if_false]
    exact iO i kF (by omega) fF
  ·by_cases rL:i=k
   ·subst rL
    simp only[Nat.le_refl,if_true]at aX
    rcases cj with⟨e,-⟩ | ⟨c,e,o,-⟩ | ⟨c,x,e,o,-⟩
    ·rw[e]at aX;cases aX
    ·rw[e]at aX;simp at aX;obtain⟨rfl,rfl⟩:=aX;exact .inr ⟨o,fun h=>absurd rfl h⟩
    ·rw[e]at aX;simp at aX;obtain⟨rfl,rfl⟩:=aX
     exact o.imp id fun q=>⟨q.1,fun _=>q.2⟩
   ·simp only[show¬(i<=k) by omega,if_false]at aX
    exact(Cg i b y (by omega) aX).imp id fun⟨o,aa⟩=>⟨fun ag=>o ((mc b).1 ag),fun aI ag=>aa aI ((mc b).2 ag)⟩
  ·by_cases rL:i=k
   ·subst rL
    simp only[Nat.le_refl,if_true,show¬(j<=i) by omega,if_false]at ka kb
    rcases Cg j b y (by omega) kb with aH | ⟨o,aa⟩
    ·exact .inr aH
    rcases cj with⟨e,-⟩ | ⟨d,e,-⟩ | ⟨d,z,e,-,-,rfl⟩
    ·rw[e]at ka;cases ka
    ·rw[e]at ka;simp at ka
    ·rw[e]at ka
     simp at ka
     obtain⟨rfl,rfl⟩:=ka
     cases mK:eO P ops i with
     | true=>exact .inl rfl
     | false=>rw[mK]at o;simp at o
   ·simp only[show¬(i<=k) by omega,if_false]at ka
    by_cases xW:j=k
    ·subst xW
     simp only[Nat.le_refl,if_true]at kb
     rcases Cg i b (some x) (by omega) ka with aH | ⟨o,aa⟩
     ·exact .inl aH
     rcases cj with⟨e,-⟩ | ⟨d,e,-,rfl,-⟩ | ⟨d,z,e,-,-,rfl⟩
     ·rw[e]at kb;cases kb
     ·rw[e]at kb
      simp at kb
      obtain⟨rfl,rfl⟩:=kb
      exact absurd List.mem_cons_self (aa (by simp))
     ·rw[e]at kb
      simp at kb
      obtain⟨rfl,rfl⟩:=kb
      cases mK:eO P ops j with
      | true=>exact .inr rfl
      | false=>rw[mK]at o;simp at o
    ·simp only[show¬(j<=k) by omega,if_false]at kb
     exact Gy i j b x y (by omega) (by omega) ka kb cF
  ·simp only[show¬(j<=k) by omega,if_false]
   exact Gz j (by omega) aa
  ·have e:k+(U::rest).length=k+1+rest.length:=by simp;omega
   rw[e]
   simp only[show¬(k+1+rest.length<=k) by omega,if_false]
   exact m4
theorem sX:∀(c:Code) (t:List Value) (H:ab) (Q:dP->List Value->ab->Prop),k8 P c t H Q->CV P c t H Q
 | .skip,t,H,Q,h=>⟨.normal,t,H,.skip,h⟩
 | .ret,t,H,Q,h=>⟨.ret,t,H,.ret,h⟩
 | .exit id,t,H,Q,h=>⟨.exit id,t,H,.exit,h⟩
 | .seq a b,t,H,Q,h=>by
  obtain⟨e,t1,H1,al,av⟩:=sX a t H _ h
  cases e with
  | normal=>
   obtain⟨bp,t2,aS,qw,oH⟩:=sX b t1 H1 Q av
   exact⟨bp,t2,aS,.Cn al qw,oH⟩
  | exit id=>exact⟨.exit id,t1,H1,.zb al (by simp),av⟩
  | ret=>exact⟨.ret,t1,H1,.zb al (by simp),av⟩
 | .cond c x y,t,H,Q,h=>by
  simp only[k8]at h
  obtain⟨ak,h⟩:=h
  split at h
  ·rename_i b ae
   cases b with
   | true=>
    obtain⟨e,t1,H1,al,av⟩:=sX x t H Q (by simpa using h)
    exact⟨e,t1,H1,.cond ae ak al,av⟩
   | false=>
    obtain⟨e,t1,H1,al,av⟩:=sX y t H Q (by simpa using h)
    exact⟨e,t1,H1,.cond ae ak al,av⟩
  ·exact h.elim
 | .block id c,t,H,Q,h=>by
  obtain⟨e,t1,H1,al,av⟩:=sX c t H _ h
  refine⟨_,t1,H1,.block al,?_⟩
  cases e with
  | normal=>exact av
  | exit h2=>
   simp only[Dk]at av
   by_cases af:h2=id
   ·subst af;simpa using av
   ·simpa[af]using av
  | ret=>exact av
 | .loop c,t,H,Q,h=>h
 | .region id ops draw,t,H,Q,h=>by
  simp only[k8]at h
  rcases h with⟨o,aa,aA⟩ | ⟨o,aa,aH,aA⟩
  rotate_left
  ·obtain⟨T,V,a3,ep,eg,fZ,iO,Cg,Gy,Gz,m4⟩:=OC aH ops.toList 0 t H [] [] (fun i=>by simp) aA
   have g6:=ee.Cj (P:=P) (id:=id) (ops:=ops) (draw:=draw) T V a3 ep o (fun i U aQ=>(iO i U (Nat.zero_le _) aQ).1) (fun i U aQ=>(iO i U (Nat.zero_le _) aQ).2.1) aa (fun i U aQ=>(iO i U (Nat.zero_le _) aQ).2.2) (fun i j b x y=>Gy i j b x y (Nat.zero_le _) (Nat.zero_le _)) (fun j=>Gz j (Nat.zero_le _))
   rw[eg,fZ]at g6
   exact⟨.normal,_,_,g6,by simpa using m4⟩
  obtain⟨T,V,a3,eg,fZ,iO,m4⟩:=OG ops.toList 0 t H (fun i=>by simp) aA
  have g6:=ee.region (P:=P) (id:=id) (ops:=ops) (draw:=draw) T V a3 o (fun i U aQ=>(iO i U (Nat.zero_le _) aQ).1) (fun i U aQ=>(iO i U (Nat.zero_le _) aQ).2.1) (fun aD=>⟨aa aD,fun i U aQ aB=>(iO i U (Nat.zero_le _) aQ).2.2 aD aB⟩)
  rw[eg,fZ]at g6
  exact⟨.normal,_,_,g6,by simpa using m4⟩
 | .rangeFunc ..,t,H,Q,h=>by simp only[k8]at h
 | .scope ..,t,H,Q,h=>by simp only[k8]at h
 | .label ..,t,H,Q,h=>by simp only[k8]at h
 | .goto ..,t,H,Q,h=>by simp only[k8]at h
 | .refuse ..,t,H,Q,h=>by simp only[k8]at h
def pZ(P:Program)(t:List Value)(H:ab):List ResultVar->(List Value->Prop)->Prop
 | [],K=>K []
 | .tmp i::rs,K=>pZ P t H rs fun aG=>K (gt t i::aG)
 | .cell a ty::rs,K=>(match gt t a with
  | .pointer (some ⟨b,i,none⟩)=>(match iU H b with
   | some cs=>(match dr P ty with
    | some false=>(match cs[i]? with
     | some v=>pZ P t H rs fun aG=>K (v::aG)
     | none=>False)
    | some true=>(match bA P ty with
     | some n=>i+n<=cs.length/\pZ P t H rs fun aG=>K (.agg ((cs.drop i).take n).toArray::aG)
     | none=>False)
    | none=>False)
   | none=>False)
  | _=>False)
theorem y9{t:List Value}{H:ab}:∀(rs:List ResultVar) (K:List Value->Prop),pZ P t H rs K->∃aG,mz P t H rs aG/\K aG
 | [],K,h=>⟨[],.nil,h⟩
 | .tmp i::rs,K,h=>by
  obtain⟨aG,o,aa⟩:=y9 rs _ h
  exact⟨_,.tmp o,aa⟩
 | .cell a ty::rs,K,h=>by
  simp only[pZ]at h
  split at h
  ·rename_i b i J
   split at h
   ·rename_i cs gy
    obtain⟨X,aW,ae⟩:=z3 gy
    split at h
    ·rename_i aL
     split at h
     ·rename_i v an
      obtain⟨aG,o,aa⟩:=y9 rs _ h
      exact⟨_,.z1 aL J aW ae an o,aa⟩
     ·exact h.elim
    ·rename_i aL
     split at h
     ·rename_i n aJ
      obtain⟨aG,o,aa⟩:=y9 rs _ h.2
      exact⟨_,.z2 aL aJ J aW ae h.1 o,aa⟩
     ·exact h.elim
    ·exact h.elim
   ·exact h.elim
  ·exact h.elim
def aba(P:Program)(rs:List ResultVar)(Q:Value->ab->Prop):dP->List Value->ab->Prop
 | .normal,t,H=>pZ P t H rs fun aG=>Q (bd aG) H
 | .ret,t,H=>pZ P t H rs fun aG=>Q (bd aG) H
 | .exit _,_,_=>False
theorem aO.SS{f:FuncId}{fn:Func}{c:Code}{args:List Value}{H:ab}{Q:Value->ab->Prop}(aB:P.funcs[f]?=some fn)(aJ:(fn.name== "runtime.NumGoroutine")=false)(ag:fn.body=some c)
  (h:k8 P c (args++List.replicate (fn.ntmps-args.length) undef) H (aba P fn.results.toList Q)):∃v H1,zC P f/\ee P (.call f args H) (.val v H1)/\Q v H1:=by
 have ae:zC P f:=⟨fn,aB,aJ,by rw[ag];rfl⟩
 obtain⟨e,t1,H1,al,av⟩:=sX _ _ _ _ h
 cases e with
 | normal=>
  obtain⟨aG,o,aa⟩:=y9 _ _ av
  exact⟨_,H1,ae,.call aB ag al (.inl rfl) o,aa⟩
 | exit id=>exact av.elim
 | ret=>
  obtain⟨aG,o,aa⟩:=y9 _ _ av
  exact⟨_,H1,ae,.call aB ag al (.inr rfl) o,aa⟩
end
end Go.dq
end
