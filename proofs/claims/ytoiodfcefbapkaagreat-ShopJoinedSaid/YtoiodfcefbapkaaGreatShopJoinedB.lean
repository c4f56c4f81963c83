/- Part of the proof of ShopJoined. -/
import Derived.Test.YtoiodfcefbapkaaGreatShopJoinedA
set_option linter.unusedVariables false
set_option linter.unusedSimpArgs false
section
namespace Go.cJ
def bd.below(ah:bd)(n:Nat):bd:=fun b=>if b<n then ah b else none
theorem bd.iX{ah:bd}{n b:Nat}{k:iC}(h:ah.below n b=some k):b<n/\ah b=some k:=by
 unfold bd.below at h
 split at h
 ·exact⟨by assumption,h⟩
 ·cases h
theorem bd.B_{ah:bd}{n b:Nat}{k:iC}(ag:b<n)(h:ah b=some k):ah.below n b=some k:=by simp[bd.below,ag,h]
def jL(n:Nat)(v:Value):Prop:=∃(ah:bd) (au:Value),(∀b k,ah b=some k->b<n)/\bl ah v au
theorem jL.mono{n m:Nat}{v:Value}(h:jL n v)(DN:n<=m):jL m v:=by
 obtain⟨ah,au,o,aa⟩:=h
 exact⟨ah,au,fun b k ag=>Nat.lt_of_lt_of_le (o b k ag) DN,aa⟩
theorem jL.of{ah:bd}{n:Nat}{v au:Value}(aB:∀b k,ah b=some k->b<n)(h:bl ah v au):jL n v:=⟨ah,au,aB,h⟩
theorem bl.restrict{ah:bd}{n:Nat}{v au:Value}(h:bl ah v au):jL n v->bl (ah.below n) v au:=by
 have arr:∀{xs bO BO:Array Value} {oz:bd},(∀b k,oz b=some k->b<n)->xs.size=bO.size->xs.size=BO.size->(∀(i:Nat) (v au:Value),xs[i]?=some v->bO[i]?=some au->jL n v->bl (ah.below n) v au)->
   (∀(i:Nat) (v au:Value),xs[i]?=some v->BO[i]?=some au->bl oz v au)->∀(i:Nat) (v au:Value),xs[i]?=some v->bO[i]?=some au->bl (ah.below n) v au:=by
  intro xs bO BO oz lS ar dG a2 aM i v au J aL
  obtain⟨ae,-⟩:=Array.getElem?_eq_some_iff.1 J
  have Wa:i<BO.size:=dG▸ae
  exact a2 i v au J aL ⟨oz,_,lS,aM i v _ J (Array.getElem?_eq_getElem Wa)⟩
 induction h with
 | bool b=>exact fun _=> .bool b
 | int k n=>exact fun _=> .int k n
 | float k n=>exact fun _=> .float k n
 | str s=>exact fun _=> .str s
 | AY=>exact fun _=> .AY
 | ptr h=>
  rintro⟨oz,u,lS,hu⟩
  obtain⟨k,aj,-⟩:=hu.rv
  exact .ptr (bd.B_ (lS _ _ aj) h)
 | se g=>exact fun _=> .se g
 | rn=>exact fun _=> .rn
 | void i a=>exact fun _=> .void i a
 | empty ag a c=>exact fun _=> .empty ag a c
 | slice h ad ar fO J bX=>
  rintro⟨oz,u,lS,hu⟩
  cases hu with
  | void=>omega
  | empty=>omega
  | slice cv=>exact .slice (bd.B_ (lS _ _ cv) h) ad ar fO J bX
 | agg ar _ a2=>
  rintro⟨oz,u,lS,hu⟩
  cases hu with
  | agg dG aM=>exact .agg ar (arr lS ar dG a2 aM)
 | tuple ar _ a2=>
  rintro⟨oz,u,lS,hu⟩
  cases hu with
  | tuple dG aM=>exact .tuple ar (arr lS ar dG a2 aM)
 | func fn ar _ jU _ a2 p3=>
  rintro⟨oz,u,lS,hu⟩
  cases hu with
  | func _ dG aM K2 jk=>exact .func fn ar (arr lS ar dG a2 aM) jU (arr lS jU K2 p3 jk)
 | nilFunc=>exact fun _=> .nilFunc
 | iface t _ a2=>
  rintro⟨oz,u,lS,hu⟩
  cases hu with
  | iface _ aM=>exact .iface t (a2 ⟨oz,_,lS,aM⟩)
 | nilIface=>exact fun _=> .nilIface
 | AX=>exact fun _=> .AX
theorem Ext.refl(H:ab):Ext H H:=⟨[],by simp,by simp⟩
theorem Ext.trans{A B C:ab}(h:Ext A B)(cv:Ext B C):Ext A C:=by
 obtain⟨N,rfl,bX⟩:=h
 obtain⟨M,rfl,jb⟩:=cv
 exact⟨N++M,by simp,fun x J=>(List.mem_append.1 J).elim (bX x) (jb x)⟩
theorem Ext.len{A B:ab}(h:Ext A B):A.length<=B.length:=by obtain⟨N,rfl,-⟩:=h;simp
theorem Ext.get{A B:ab}(h:Ext A B){b:Nat}(ag:b<A.length):B[b]?=A[b]?:=by obtain⟨N,rfl,-⟩:=h;exact List.getElem?_append_left ag
theorem Ext.get_some{A B:ab}(h:Ext A B){b:Nat}{x:bI}(ag:A[b]?=some x):B[b]?=some x:=by rw[h.get (cK.1 ag).1];exact ag
theorem Ext.new{A B:ab}(h:Ext A B){b:Nat}{x:bI}(ag:A.length<=b)(J:B[b]?=some x):∀e cs,x≠ .ro e cs:=by
 obtain⟨N,rfl,bX⟩:=h
 rw[List.getElem?_append_right ag]at J
 exact bX x (List.mem_of_getElem? J)
theorem p4{H aF:ab}{b:Nat}(h:H[b]?=aF[b]?):hA H b↔hA aF b:=by unfold hA;rw[h]
theorem xS{H aF:ab}{b:Nat}(h:H[b]?=aF[b]?):lr H b↔lr aF b:=by unfold lr;rw[h]
section
variable {ops:Array Oper}
theorem x5{i:Nat}{R:Oper}(h:ops[i]?=some R):(R,i)∈ops.toList.zipIdx:=by
 rw[List.mem_zipIdx_iff_getElem?]
 simpa using h
theorem Rp(h:gD ops=true){i:Nat}{R:Oper}(aK:ops[i]?=some R){e:Edge}(he:e∈R.after)(ag:Region.binds .any e=true):e.on<i:=by
 simp only[gD,Bool.and_eq_true]at h
 have:=List.all_eq_true.1 h.1.1 _ (x5 aK)
 have:=Array.all_eq_true'.1 this e he
 simpa[ag]using this
theorem Yz(h:gD ops=true){i j:Nat}{R:Oper}(aK:ops[i]?=some R)(aX:j<ops.size)(ag:oI (Region.before ops) j i=true):
  ∃e,e∈R.after/\Region.binds .any e=true/\(e.on=j\/(e.on<i/\oI (Region.before ops) j e.on=true)):=by
 simp only[gD,Bool.and_eq_true]at h
 have o:=List.all_eq_true.1 h.1.2 _ (x5 aK)
 have aa:=List.all_eq_true.1 o j (List.mem_range.2 aX)
 simp only[oI]at ag
 rw[ag]at aa
 simp only[Bool.not_true,Bool.false_or,Array.any_eq_true']at aa
 obtain⟨e,he,aA⟩:=aa
 simp only[Bool.and_eq_true,Bool.or_eq_true,beq_iff_eq,decide_eq_true_eq]at aA
 exact⟨e,he,aA.1,aA.2⟩
theorem FM(h:gD ops=true){i j:Nat}{x y:Oper}(ae:ops[i]?=some x)(aX:ops[j]?=some y)(pN:i<j):oI (Region.before ops) i j=true\/
  ((∀d,x.dst=some d->d∉y.looksAt ops/\y.dst≠some d)/\∀d,y.dst=some d->d∉x.looksAt ops):=by
 simp only[gD,Bool.and_eq_true]at h
 have o:=List.all_eq_true.1 h.2 _ (x5 aX)
 have aa:=List.all_eq_true.1 o _ (x5 ae)
 simp only[pN,decide_true,Bool.not_true,Bool.false_or,Bool.or_eq_true]at aa
 rcases aa with aa | aa
 ·exact .inl aa
 ·refine .inr ?_
  simp only[Bool.and_eq_true]at aa
  constructor
  ·intro d aB
   have:=aa.1
   simp only[aB,Bool.and_eq_true,Bool.not_eq_true',bne_iff_ne]at this
   exact⟨by simpa using this.1,this.2⟩
  ·intro d aB
   have:=aa.2
   simp only[aB,Bool.not_eq_true']at this
   simpa using this
theorem tB{P:Program}{i j:Nat}{y:Oper}(h:eD P ops i=true)(aX:ops[j]?=some y)(a5:bR P y=false)(cN:j≠i):oI (Region.before ops) (min i j) (max i j)=true:=by
 have:=List.all_eq_true.1 h _ (x5 aX)
 simpa[a5,cN]using this
def ph(ops:Array Oper)(X:Nat->Bool):Prop:=∀i R e,X i=true->ops[i]?=some R->e∈R.after->Region.binds .any e=true->X e.on=true
def kS(ops:Array Oper)(X:Nat->Bool)(i:Nat)(R:Oper):Prop:=ops[i]?=some R/\X i=false/\∀e,e∈R.after->Region.binds .any e=true->X e.on=true
theorem tI(h:gD ops=true){X:Nat->Bool}(ad:ph ops X):∀(i:Nat) (R:Oper),ops[i]?=some R->(∀e,e∈R.after->Region.binds .any e=true->X e.on=true)->∀j,j<ops.size->oI (Region.before ops) j i=true->X j=true:=by
 intro i
 induction i using Nat.strongRecOn with
 | _ i a2=>
  intro R aK al j aX ag
  obtain⟨e,he,mg,o | ⟨o,aa⟩⟩:=Yz h aK aX ag
  ·rw[<-o];exact al e he mg
  ·have aQ:=al e he mg
   have a6:e.on<ops.size:=Nat.lt_trans o (Array.getElem?_eq_some_iff.1 aK).1
   exact a2 e.on o ops[e.on] (Array.getElem?_eq_getElem a6) (fun cP pJ c3=>ad e.on _ cP aQ (Array.getElem?_eq_getElem a6) pJ c3) j aX aa
theorem y_(h:gD ops=true){X:Nat->Bool}(ad:ph ops X){i j:Nat}(ae:i<ops.size)(aQ:X i=true)(aX:j<ops.size)(ag:oI (Region.before ops) j i=true):X j=true:=
 tI h ad i ops[i] (Array.getElem?_eq_getElem ae) (fun e he mg=>ad i _ e aQ (Array.getElem?_eq_getElem ae) he mg) j aX ag
def eQ(X:Nat->Bool)(i:Nat):Nat->Bool:=fun j=>decide (j=i) || X j
theorem za{X:Nat->Bool}(ad:ph ops X){i:Nat}{R:Oper}(al:kS ops X i R):ph ops (eQ X i):=by
 intro j kl e aQ aK he ag
 simp only[eQ,Bool.or_eq_true,decide_eq_true_eq]at aQ⊢
 rcases aQ with rfl | aQ
 ·rw[al.1]at aK
  obtain rfl:=Option.some.inj aK
  exact .inr (al.2.2 e he ag)
 ·exact .inr (ad j kl e aQ aK he ag)
def wr(ops:Array Oper)(d:Tmp)(j:Nat):Bool:=match ops[j]? with
 | some R=>R.dst==some d
 | none=>false
theorem tl{d:Tmp}{j:Nat}:wr ops d j=true↔∃R,ops[j]?=some R/\R.dst=some d:=by
 unfold wr
 cases h:ops[j]?<;>simp
theorem tm{d:Tmp}{j:Nat}(h:wr ops d j=true):j<ops.size:=by
 obtain⟨R,aK,-⟩:=tl.1 h
 exact(Array.getElem?_eq_some_iff.1 aK).1
def y3(ops:Array Oper)(X:Nat->Bool)(d:Tmp)(j:Nat):Prop:=X j=true/\wr ops d j=true/\∀ea,X ea=true->wr ops d ea=true->ea<=j
open Classical in
noncomputable def cur(ops:Array Oper)(V:Nat->Value)(t0:List Value)(X:Nat->Bool)(d:Tmp):Value:=
 if h:∃j,y3 ops X d j then V h.choose else t0.getD d undef
theorem I7{V:Nat->Value}{t0:List Value}{X:Nat->Bool}{d:Tmp}{j:Nat}(o:X j=true)(aa:wr ops d j=true)(aA:∀ea,X ea=true->wr ops d ea=true->ea<=j):cur ops V t0 X d=V j:=by
 unfold cur
 have h:∃j,y3 ops X d j:=⟨j,o,aa,aA⟩
 rw[dif_pos h]
 have ad:=h.choose_spec
 have:=aA _ ad.1 ad.2.1
 have:=ad.2.2 j o aa
 congr 1
 omega
theorem Cj{V:Nat->Value}{t0:List Value}{X:Nat->Bool}{d:Tmp}(h:∀j,X j=true->wr ops d j=false):cur ops V t0 X d=t0.getD d undef:=by
 unfold cur
 rw[dif_neg]
 rintro⟨j,o,aa,-⟩
 rw[h j o]at aa
 cases aa
theorem wb{V:Nat->Value}{t0:List Value}{X Y:Nat->Bool}{d:Tmp}(h:∀j,wr ops d j=true->X j=Y j):cur ops V t0 X d=cur ops V t0 Y d:=by
 have e:y3 ops X d=y3 ops Y d:=by
  funext j
  apply propext
  constructor
  ·rintro⟨o,aa,aA⟩;exact⟨h j aa▸o,aa,fun ea a1 a3=>aA ea ((h ea a3).symm▸a1) a3⟩
  ·rintro⟨o,aa,aA⟩;exact⟨(h j aa).symm▸o,aa,fun ea a1 a3=>aA ea (h ea a3▸a1) a3⟩
 unfold cur
 rw[e]
theorem Qu(V:Nat->Value)(t0:List Value)(X:Nat->Bool)(d:Tmp):(∃j,X j=true/\wr ops d j=true/\cur ops V t0 X d=V j)\/cur ops V t0 X d=t0.getD d undef:=by
 unfold cur
 split
 ·rename_i h
  exact .inl ⟨h.choose,h.choose_spec.1,h.choose_spec.2.1,rfl⟩
 ·exact .inr rfl
theorem oG{T:Nat->List Value}{V:Nat->Value}(bc:∀(i:Nat) (R:Oper),ops[i]?=some R->T (i+1)=e6 (T i) R.dst (V i)):∀i,i<=ops.size->(T i).length=(T 0).length
 | 0,_=>rfl
 | i+1,h=>by
  have a6:i<ops.size:=by omega
  rw[bc i _ (Array.getElem?_eq_getElem a6)]
  have:=oG bc i (by omega)
  unfold e6
  split<;>simp[this]
theorem vQ{T:Nat->List Value}{V:Nat->Value}(bc:∀(i:Nat) (R:Oper),ops[i]?=some R->T (i+1)=e6 (T i) R.dst (V i)):∀i,i<=ops.size->∀d,d<(T 0).length->(T i).getD d undef=cur ops V (T 0) (fun j=>decide (j<i)) d
 | 0,_,d,aB=>by rw[Cj];intro j aX;simp at aX
 | i+1,h,d,aB=>by
  have a6:i<ops.size:=by omega
  have aK:=Array.getElem?_eq_getElem a6
  have a2:=vQ bc i (by omega) d aB
  have hlen:=oG bc i (by omega)
  rw[bc i _ aK]
  by_cases hw:wr ops d i=true
  ·obtain⟨R,fp,w3⟩:=tl.1 hw
   rw[aK]at fp
   obtain rfl:=Option.some.inj fp
   rw[I7 (j:=i) (by simp) hw (fun ea o _=>by simp at o;omega)]
   simp only[e6,w3]
   simp[List.getD_eq_getElem?_getD,List.getElem?_set,hlen,aB]
  ·have cN:ops[i].dst≠some d:=fun e=>hw (tl.2 ⟨_,aK,e⟩)
   rw[wb (Y:=fun j=>decide (j<i)) (fun j aX=>?_),<-a2]
   ·unfold e6
    split
    ·rename_i fo k4
     have:fo≠d:=fun e=>cN (e▸k4)
     simp[List.getD_eq_getElem?_getD,List.getElem?_set,this]
    ·rfl
   ·have:j≠i:=fun e=>hw (e▸aX)
    simp only[decide_eq_decide]
    omega
theorem NU(h:gD ops=true){X:Nat->Bool}(ad:ph ops X){i:Nat}{R:Oper}(al:kS ops X i R){d:Tmp}(aB:d∈R.looksAt ops\/R.dst=some d):∀j,wr ops d j=true->X j=decide (j<i):=by
 intro j aX
 obtain⟨y,aL,oj⟩:=tl.1 aX
 have gA:j<ops.size:=tm aX
 have cA:i<ops.size:=(Array.getElem?_eq_some_iff.1 al.1).1
 rcases Nat.lt_trichotomy j i with a6 | heq | oU
 ·rcases FM h aL al.1 a6 with ag | ⟨o,aa⟩
  ·rw[tI h ad i R al.1 al.2.2 j gA ag];simp[a6]
  ·rcases aB with aB | aB
   ·exact absurd aB (o d oj).1
   ·exact absurd aB (o d oj).2
 ·subst heq;rw[al.2.1];simp
 ·have aQ:X j=false:=by
   cases Tn:X j with
   | false=>rfl
   | true=>
    rcases FM h al.1 aL oU with ag | ⟨o,aa⟩
    ·have:=y_ h ad gA Tn cA ag
     rw[al.2.1]at this
     cases this
    ·rcases aB with aB | aB
     ·exact absurd aB (aa d oj)
     ·exact absurd oj (o d aB).2
  rw[aQ]
  simp
  omega
theorem I6(h:gD ops=true){X:Nat->Bool}(ad:ph ops X){i:Nat}{R:Oper}(al:kS ops X i R){V:Nat->Value}{t0:List Value}{d:Tmp}(aB:d∈R.looksAt ops\/R.dst=some d):
  cur ops V t0 X d=cur ops V t0 (fun j=>decide (j<i)) d:=wb (NU h ad al aB)
theorem zc(h:gD ops=true){X:Nat->Bool}(ad:ph ops X){i:Nat}{R:Oper}(al:kS ops X i R){V:Nat->Value}{t0:List Value}(d:Tmp):cur ops V t0 (eQ X i) d=if R.dst=some d then V i else cur ops V t0 X d:=by
 have cA:i<ops.size:=(Array.getElem?_eq_some_iff.1 al.1).1
 split
 ·rename_i aB
  refine I7 (by simp[eQ]) (tl.2 ⟨R,al.1,aB⟩) fun ea o aa=>?_
  simp only[eQ,Bool.or_eq_true,decide_eq_true_eq]at o
  rcases o with rfl | o
  ·exact Nat.le_refl _
  ·obtain⟨y,aL,oj⟩:=tl.1 aa
   rcases Nat.lt_or_ge i ea with a6 | hl
   ·rcases FM h al.1 aL a6 with ag | ⟨a1,a3⟩
    ·have:=y_ h ad (tm aa) o cA ag
     rw[al.2.1]at this
     cases this
    ·exact absurd oj (a1 d aB).2
   ·exact hl
 ·rename_i aB
  refine wb fun j aX=>?_
  have:j≠i:=fun e=>by
   obtain⟨y,aL,oj⟩:=tl.1 aX
   subst e
   rw[al.1]at aL
   obtain rfl:=Option.some.inj aL
   exact aB oj
  simp[eQ,this]
end
def qD(s bj j:Nat):Nat:=if j<s then s else if j<bj then j+1 else bj
def mR(s bj j:Nat):Nat:=if j<s then s else if j<bj then j else bj
structure Inv (P:Program) (base:Nat) (ops:Array Oper) (T:Nat->List Value) (V:Nat->Value) (aZ:Nat->ab) (ic:bd) (d_:World) (X:Nat->Bool) (s bj:Nat) (ah:bd) (a:Act) (w:World):Prop where
 closed:ph ops X
 dn:s<=bj
 iS:bj<=ops.size
 ZW:∀j R,s<=j->j<bj->ops[j]?=some R->bR P R=false->eD P ops j=false
 before:∀j R,j<s->ops[j]?=some R->bR P R=false->X j=true
 after:∀j R,bj<=j->ops[j]?=some R->bR P R=false->X j=false
 stop:bj=ops.size\/∃R,ops[bj]?=some R/\bR P R=false/\eD P ops bj=true
 iU:ck P base ah (aZ bj) w
 ext:∀b k,ic b=some k->ah b=some k
 eK:∀b k,ah b=some k->b<(aZ s).length\/∃j,s<=j/\j<bj/\X j=true/\(aZ j).length<=b/\b<(aZ (j+1)).length
 BJ:∀j,s<=j->j<=bj->∀b k x cs v,ah b=some k->b<(aZ j).length->(aZ bj)[b]?=some x->x.cells?=some cs->v∈cs->jL (aZ j).length v
 vC:∀j,j<ops.size->X j=true->jL (aZ (qD s bj j)).length (V j)
 Ph:∀v∈T 0,jL (aZ s).length v
 NA:0<(aZ 0).length
 AP:(aZ 0).length<=(aZ s).length
 fr:a.tmps.size=(T 0).length
 tmps:∀d,d<(T 0).length->bl ah (cur ops V (T 0) X d) (a.tmps.getD d undef)
 defers:a.defers=[]
 step:Step ic (aZ 0) d_ ah (aZ bj) w
theorem kO.F8{P:Program}{base:Nat}{ah:bd}{w:World}{k:iC}{x:bI}(h:kO P base ah w k x){cs:List Value}(ad:x.cells?=some cs){v:Value}(an:v∈cs):∃au,bl ah v au:=by
 obtain⟨i,ae⟩:=List.getElem?_of_mem an
 cases h with
 | own ag ar gd ao aU bX ay bw iP=>
  simp only[bI.cells?,Option.some.injEq]at ad
  subst ad
  obtain⟨au,-,aa⟩:=iP i v ae
  exact⟨au,aa⟩
 | ro gd ao iP df=>
  simp only[bI.cells?,Option.some.injEq]at ad
  subst ad
  obtain⟨au,-,aa⟩:=iP i v ae
  exact⟨au,aa⟩
 | dead=>simp[bI.cells?]at ad
theorem kO.Zs{P:Program}{base:Nat}{ah bs:bd}{w:World}{k:iC}{x:bI}(h:kO P base ah w k x)(he:∀cs v,x.cells?=some cs->v∈cs->∀au,bl ah v au->bl bs v au):kO P base bs w k x:=by
 cases h with
 | own ag ar ae ao aU bX ay bw an=>exact .own ag ar ae ao aU bX ay bw fun i v ae=>let⟨au,o,aa⟩:=an i v ae;⟨au,o,he _ v rfl (List.mem_of_getElem? ae) au aa⟩
 | ro ae ao an df=>exact .ro ae ao (fun i v ae=>let⟨au,o,aa⟩:=an i v ae;⟨au,o,he _ v rfl (List.mem_of_getElem? ae) au aa⟩) df
 | dead=>exact .dead
theorem ck.grow{P:Program}{base:Nat}{ah:bd}{H aF:ab}{w:World}(h:ck P base ah H w)(he:Ext H aF):ck P base ah aF w:=by
 have ar:=he.len
 refine⟨Nat.lt_of_lt_of_le h.pos ar,h.size,fun b k ag=>⟨(h.eK b k ag).1,Nat.lt_of_lt_of_le (h.eK b k ag).2 ar⟩,fun b k x ag J=>?_,fun b cu k b5 ag c3 cN aK z_=>?_⟩
 ·rw[he.get (h.eK b k ag).2]at J
  exact h.e0 b k x ag J
 ·exact h.inj b cu k b5 ag c3 cN ((p4 (he.get (h.eK b k ag).2)).1 aK) ((xS (he.get (h.eK cu b5 c3).2)).1 z_)
theorem Step.grow{P:Program}{base:Nat}{ah bs:bd}{H H1 aR:ab}{w a7:World}(h:Step ah H w bs H1 a7)(bE:ck P base bs H1 a7)(he:Ext H1 aR):Step ah H w bs aR a7 where
 ext:=h.ext
 new:=h.new
 len:=Nat.le_trans h.len he.len
 own b k ag aK:=h.own b k ag ((p4 (he.get (bE.eK b k ag).2)).1 aK)
 os:=h.os
 tape:=h.tape
 output:=h.output
 size:=h.size
 frame:=h.frame
section
variable {P:Program} {base:Nat} {ops:Array Oper} {T:Nat->List Value} {V:Nat->Value} {aZ:Nat->ab} {ic:bd} {d_:World} {X:Nat->Bool} {s bj:Nat} {ah:bd} {a:Act} {w:World}
theorem yh(a5:∀j R,ops[j]?=some R->bR P R=true->aZ (j+1)=aZ j)(bW:∀j R,ops[j]?=some R->bR P R=false->eD P ops j=true\/Ext (aZ j) (aZ (j+1)))(aG:bj<=ops.size)
  (LM:∀j R,s<=j->j<bj->ops[j]?=some R->bR P R=false->eD P ops j=false):∀(m i:Nat),s<=i->i+m<=bj->Ext (aZ i) (aZ (i+m))
 | 0,i,_,_=>Ext.refl _
 | m+1,i,ao,hm=>by
  have a2:=yh a5 bW aG LM m i ao (by omega)
  have a6:i+m<ops.size:=by omega
  have aK:=Array.getElem?_eq_getElem a6
  refine a2.trans ?_
  show Ext (aZ (i+m)) (aZ (i+m+1))
  cases ay:bR P ops[i+m]with
  | true=>rw[a5 _ _ aK ay];exact Ext.refl _
  | false=>
   rcases bW _ _ aK ay with ag | he
   ·rw[LM _ _ (by omega) (by omega) aK ay]at ag;cases ag
   ·exact he
theorem Inv.kx(ai:Inv P base ops T V aZ ic d_ X s bj ah a w)(a5:∀j R,ops[j]?=some R->bR P R=true->aZ (j+1)=aZ j)(bW:∀j R,ops[j]?=some R->bR P R=false->eD P ops j=true\/Ext (aZ j) (aZ (j+1)))
  {i j:Nat}(o:s<=i)(aa:i<=j)(aA:j<=bj):Ext (aZ i) (aZ j):=by
 have:=yh a5 bW ai.iS ai.ZW (j-i) i o (by omega)
 rwa[show i+(j-i)=j by omega]at this
theorem Inv.operand(ai:Inv P base ops T V aZ ic d_ X s bj ah a w)(ev:gD ops=true)(a5:∀j R,ops[j]?=some R->bR P R=true->aZ (j+1)=aZ j)(bW:∀j R,ops[j]?=some R->bR P R=false->eD P ops j=true\/Ext (aZ j) (aZ (j+1)))
  (bc:∀(i:Nat) (R:Oper),ops[i]?=some R->T (i+1)=e6 (T i) R.dst (V i)){i:Nat}{R:Oper}(al:kS ops X i R){d:Tmp}(aB:d∈R.looksAt ops):bl (ah.below (aZ (mR s bj i)).length) ((T i).getD d undef) (a.tmps.getD d undef):=by
 have cA:i<ops.size:=(Array.getElem?_eq_some_iff.1 al.1).1
 by_cases jz: @LT.lt Nat _ d (T 0).length
 ·rw[vQ bc i (by omega) d jz,<-I6 ev ai.closed al (.inl aB)]
  refine(ai.tmps d jz).restrict ?_
  have uS:=ai.dn
  have fP:(aZ s).length<=(aZ (mR s bj i)).length:=by
   unfold mR
   split
   ·exact Nat.le_refl _
   ·split
    ·exact(ai.kx a5 bW (Nat.le_refl _) (by omega) (by omega)).len
    ·exact(ai.kx a5 bW (Nat.le_refl _) ai.dn (Nat.le_refl _)).len
  rcases Qu (ops:=ops) V (T 0) X d with⟨j,o,aa,aA⟩ | aA
  ·rw[aA]
   have fE:=NU ev ai.closed al (.inl aB) j aa
   rw[o]at fE
   have mj:j<i:=by simpa using fE.symm
   refine(ai.vC j (tm aa) o).mono ?_
   unfold qD
   split
   ·exact fP
   ·split
    ·unfold mR
     rw[if_neg (by omega)]
     split
     ·exact(ai.kx a5 bW (by omega) (by omega) (by omega)).len
     ·exact(ai.kx a5 bW (by omega) (by omega) (by omega)).len
    ·unfold mR
     rw[if_neg (by omega),if_neg (by omega)]
     exact Nat.le_refl _
  ·rw[aA]
   refine(ai.Ph _ ?_).mono fP
   simp only[List.getD_eq_getElem?_getD,bJ jz,Option.getD_some]
   exact List.getElem_mem jz
 ·have o:(T i).getD d undef=undef:=by
   rw[List.getD_eq_getElem?_getD,List.getElem?_eq_none (by rw[oG bc i (by omega)];omega)]
   rfl
  have aa:a.tmps.getD d undef=undef:=by
   have:=ai.fr
   rw[Array.getD_eq_getD_getElem?,Array.getElem?_eq_none (by omega)]
   rfl
  rw[o,aa]
  exact bl.undef _
theorem Inv.operands(ai:Inv P base ops T V aZ ic d_ X s bj ah a w)(ev:gD ops=true)(aj:(ops.all fun R=>R.op.operands.all nk)=true)(a5:∀j R,ops[j]?=some R->bR P R=true->aZ (j+1)=aZ j)(bW:∀j R,ops[j]?=some R->bR P R=false->eD P ops j=true\/Ext (aZ j) (aZ (j+1)))
  (bc:∀(i:Nat) (R:Oper),ops[i]?=some R->T (i+1)=e6 (T i) R.dst (V i)){i:Nat}{R:Oper}(al:kS ops X i R):∀x∈R.op.operands,bl (ah.below (aZ (mR s bj i)).length) (fa (T i) x) (a.eval x):=by
 intro x J
 obtain⟨a6,aK⟩:=Array.getElem?_eq_some_iff.1 al.1
 cases x with
 | tmp d=>
  have:d∈R.looksAt ops:=by
   unfold Oper.looksAt
   exact List.mem_append_left _ (List.mem_filterMap.2 ⟨.tmp d,by simpa using J,rfl⟩)
  exact ai.operand ev a5 bW bc al this
 | const v=>
  have o:=Array.all_eq_true.1 aj i a6
  rw[aK]at o
  have:=Array.all_eq_true'.1 o _ J
  exact tQ _ this
 | global g=>exact .se g
 | func f=>exact .func _ rfl (fun i v au h=>by simp at h) rfl (fun i v au h=>by simp at h)
theorem Inv.wanted(ai:Inv P base ops T V aZ ic d_ X s bj ah a w)(ev:gD ops=true)(a5:∀j R,ops[j]?=some R->bR P R=true->aZ (j+1)=aZ j)(bW:∀j R,ops[j]?=some R->bR P R=false->eD P ops j=true\/Ext (aZ j) (aZ (j+1)))
  (bc:∀(i:Nat) (R:Oper),ops[i]?=some R->T (i+1)=e6 (T i) R.dst (V i)){i:Nat}{R:Oper}(al:kS ops X i R):Region.wanted R (yielded ops a.tmps)=Region.wanted R (gS ops (T i)):=by
 have cA:i<ops.size:=(Array.getElem?_eq_some_iff.1 al.1).1
 refine Gc fun j b aU=>?_
 unfold yielded gS
 cases aB:(ops[j]?).bind (·.dst)with
 | none=>rfl
 | some d=>
  have iq:d∈R.looksAt ops:=by
   unfold Oper.looksAt
   refine List.mem_append_right _ ?_
   simp only[aU,aB]
   simp
  have an:=ai.operand ev a5 bW bc al iq
  simp only[Option.bind_some]
  have uj:=oG bc i (by omega)
  by_cases jz: @LT.lt Nat _ d (T 0).length
  ·have bk:(T i)[d]?=some ((T i).getD d undef):=by
    rw[List.getD_eq_getElem?_getD,bJ (by omega)]
    rfl
   have bg:a.tmps[d]?=some (a.tmps.getD d undef):=by
    have:=ai.fr
    rw[Array.getD_eq_getD_getElem?,Array.getElem?_eq_getElem (by omega)]
    rfl
   rw[bk,bg]
   exact an.hg.symm
  ·have bk:(T i)[d]?=none:=List.getElem?_eq_none (by omega)
   have bg:a.tmps[d]?=none:=Array.getElem?_eq_none (by have:=ai.fr;omega)
   rw[bk,bg]
theorem zp{a:Act}{dst:Option Tmp}{v:Value}{d n:Nat}(ar:a.tmps.size=n)(aB:d<n):(a.put dst v).tmps.getD d undef=if dst=some d then v else a.tmps.getD d undef:=by
 cases dst with
 | none=>simp[Act.put]
 | some e=>
  simp only[Act.put,Array.getD_eq_getD_getElem?,Array.getElem?_setIfInBounds]
  by_cases he:e=d
  ·subst he;simp[ar,aB]
  ·simp[he]
theorem Bm(a:Act)(dst:Option Tmp)(v:Value):(a.put dst v).tmps.size=a.tmps.size:=by cases dst<;>simp[Act.put]
theorem Inv.NY(ai:Inv P base ops T V aZ ic d_ X s bj ah a w)(ev:gD ops=true){i:Nat}{R:Oper}(al:kS ops X i R)(ay:bR P R=true){au:Value}(an:bl (ah.below (aZ (mR s bj i)).length) (V i) au)
  (a5:∀j R,ops[j]?=some R->bR P R=true->aZ (j+1)=aZ j):Inv P base ops T V aZ ic d_ (eQ X i) s bj ah (a.put R.dst au) w:=by
 have cA:i<ops.size:=(Array.getElem?_eq_some_iff.1 al.1).1
 have cN:∀j y,ops[j]?=some y->bR P y=false->j≠i:=fun j y aL Mu e=>by
  subst e;rw[al.1]at aL;cases aL;rw[ay]at Mu;cases Mu
 refine{ai with closed:=za ai.closed al,before:=?_,after:=?_,eK:=?_,vC:=?_,fr:=?_,tmps:=?_,defers:=?_}
 ·intro j y o aa aA
  simp[eQ,ai.before j y o aa aA]
 ·intro j y o aa aA
  simp[eQ,ai.after j y o aa aA,cN j y aa aA]
 ·intro b k ag
  rcases ai.eK b k ag with h | ⟨j,o,aa,aA,bo⟩
  ·exact .inl h
  ·exact .inr ⟨j,o,aa,by simp[eQ,aA],bo⟩
 ·intro j aX aQ
  simp only[eQ,Bool.or_eq_true,decide_eq_true_eq]at aQ
  rcases aQ with rfl | aQ
  ·have hw:jL (aZ (mR s bj j)).length (V j):=jL.of (fun b k ag=>(bd.iX ag).1) an
   have e:(aZ (qD s bj j)).length=(aZ (mR s bj j)).length:=by
    unfold qD mR
    split
    ·rfl
    ·split
     ·rw[a5 j R al.1 ay]
     ·rfl
   rw[e]
   exact hw
  ·exact ai.vC j aX aQ
 ·rw[Bm];exact ai.fr
 ·intro d aB
  rw[zc ev ai.closed al,zp ai.fr aB]
  split
  ·exact an.ext fun b k ag=>(bd.iX ag).2
  ·exact ai.tmps d aB
 ·rw[put_defers];exact ai.defers
theorem Inv.Z8(ai:Inv P base ops T V aZ ic d_ X s bj ah a w)(a5:∀j R,ops[j]?=some R->bR P R=true->aZ (j+1)=aZ j)(bW:∀j R,ops[j]?=some R->bR P R=false->eD P ops j=true\/Ext (aZ j) (aZ (j+1)))
  {i:Nat}(o:s<=i)(aa:i<=bj):ck P base (ah.below (aZ i).length) (aZ i) w:=by
 have he:=ai.kx a5 bW o aa (Nat.le_refl _)
 refine⟨?_,ai.iU.size,fun b k ag=>⟨(ai.iU.eK b k (bd.iX ag).2).1,(bd.iX ag).1⟩,fun b k x ag J=>?_,fun b cu k b5 ag c3 cN aK ar=>?_⟩
 ·have:=(ai.kx a5 bW (Nat.le_refl _) o aa).len
  have:=ai.NA
  have:=ai.AP
  omega
 ·have rh:=he.get_some J
  refine(ai.iU.e0 b k x (bd.iX ag).2 rh).Zs fun cs v ad an au iP=>iP.restrict ?_
  exact ai.BJ i o aa b k x cs v (bd.iX ag).2 (bd.iX ag).1 rh ad an
 ·exact ai.iU.inj b cu k b5 (bd.iX ag).2 (bd.iX c3).2 cN ((p4 (he.get (bd.iX ag).1)).2 aK) ((xS (he.get (bd.iX c3).1)).2 ar)
end
section
variable {P:Program} {base:Nat} {ops:Array Oper} {T:Nat->List Value} {V:Nat->Value} {aZ:Nat->ab} {ic:bd} {d_:World} {X:Nat->Bool} {s bj:Nat} {ah:bd} {a:Act} {w:World}
def bd.join(ah bs:bd)(l h:Nat):bd:=fun b=>if b<l then ah b else if b<h then bs b else ah b
theorem Inv.runM(ai:Inv P base ops T V aZ ic d_ X s bj ah a w)(ev:gD ops=true)(a5:∀j R,ops[j]?=some R->bR P R=true->aZ (j+1)=aZ j)(bW:∀j R,ops[j]?=some R->bR P R=false->eD P ops j=true\/Ext (aZ j) (aZ (j+1)))
  {i:Nat}{R:Oper}(al:kS ops X i R)(h7:s<=i)(gr:i<bj){bs:bd}{au:Value}{a7:World}(an:bl bs (V i) au)(bE:ck P base bs (aZ (i+1)) a7)(c8:Step (ah.below (aZ i).length) (aZ i) w bs (aZ (i+1)) a7):
  ∃qm,Inv P base ops T V aZ ic d_ (eQ X i) s bj qm (a.put R.dst au) a7:=by
 have cA:i<ops.size:=(Array.getElem?_eq_some_iff.1 al.1).1
 have bk:=ai.kx a5 bW h7 (by omega) (show i+1<=bj by omega)
 have bg:=ai.kx a5 bW (show s<=i+1 by omega) gr (Nat.le_refl _)
 have fW:=ai.kx a5 bW h7 (by omega) (Nat.le_refl bj)
 have es:=ai.kx a5 bW (Nat.le_refl s) h7 (by omega)
 have AM:=bk.len
 have AN:=bg.len
 have ls:=es.len
 have UK:∀b k,ah b=some k->b<(aZ i).length\/(aZ (i+1)).length<=b:=by
  intro b k ag
  rcases ai.eK b k ag with h | ⟨j,o,aa,aA,bo,bK⟩
  ·exact .inl (by omega)
  ·rcases Nat.lt_trichotomy j i with a6 | heq | oU
   ·have:=(ai.kx a5 bW (show s<=j+1 by omega) a6 (by omega)).len
    exact .inl (by omega)
   ·subst heq;rw[al.2.1]at aA;cases aA
   ·have:=(ai.kx a5 bW (show s<=i+1 by omega) oU (by omega)).len
    exact .inr (by omega)
 have Ad:∀b k,ah b=some k->ah.join bs (aZ i).length (aZ (i+1)).length b=some k:=by
  intro b k ag
  unfold bd.join
  rcases UK b k ag with h | h
  ·rw[if_pos h];exact ag
  ·rw[if_neg (by omega),if_neg (by omega)];exact ag
 have Lc:∀b k,bs b=some k->ah.join bs (aZ i).length (aZ (i+1)).length b=some k:=by
  intro b k ag
  have a6:=(bE.eK b k ag).2
  unfold bd.join
  rcases c8.new b k ag with h | h
  ·rw[if_pos (bd.iX h).1];exact(bd.iX h).2
  ·rw[if_neg (by omega),if_pos a6];exact ag
 have n0:∀b k,ah.join bs (aZ i).length (aZ (i+1)).length b=some k->(b<(aZ i).length/\ah b=some k/\bs b=some k)\/((aZ i).length<=b/\b<(aZ (i+1)).length/\bs b=some k)\/((aZ (i+1)).length<=b/\ah b=some k):=by
  intro b k ag
  unfold bd.join at ag
  by_cases o:b<(aZ i).length
  ·rw[if_pos o]at ag
   exact .inl ⟨o,ag,c8.ext b k (bd.B_ o ag)⟩
  ·rw[if_neg o]at ag
   by_cases aa:b<(aZ (i+1)).length
   ·rw[if_pos aa]at ag;exact .inr (.inl ⟨by omega,aa,ag⟩)
   ·rw[if_neg aa]at ag;exact .inr (.inr ⟨by omega,ag⟩)
 have DH:∀b k,ah.join bs (aZ i).length (aZ (i+1)).length b=some k->b<(aZ (i+1)).length->bs b=some k:=by
  intro b k ag a6
  rcases n0 b k ag with h | h | h
  ·exact h.2.2
  ·exact h.2.2
  ·omega
 have JH:∀b k x,ah b=some k->(aZ bj)[b]?=some x->x.cells?≠none->k.g<w.heap.size:=fun b k x ag J aG=>(ai.iU.e0 b k x ag J).lt aG
 have Ym:∀b k,ah b=some k->lr (aZ bj) b->k.g<w.heap.size:=fun b k ag ⟨x,cs,J,ad⟩=>JH b k x ag J (by rw[ad];simp)
 have q2:∀b k cu b5,(aZ i).length<=b->bs b=some k->hA (aZ (i+1)) b->ah cu=some b5->lr (aZ bj) cu->cu<(aZ i).length\/(aZ (i+1)).length<=cu->k.g≠b5.g:=by
  intro b k cu b5 gJ ag aK c3 dG Ak
  rcases c8.own b k ag aK with h | ⟨hf,jF,o,aa,aA⟩
  ·have:=Ym cu b5 c3 dG
   omega
  ·by_cases pA:hf=cu
   ·
    subst pA
    have hm:=(bd.iX o).2
    rw[hm]at c3
    obtain rfl:=Option.some.inj c3
    have mX:=(bd.iX o).1
    have q3:lr (aZ (i+1)) hf:=(xS (bg.get (by omega))).1 dG
    exact bE.inj b hf k jF ag (c8.ext _ _ o) (by omega) aK q3
   ·have:=ai.iU.inj hf cu jF b5 (bd.iX o).2 c3 pA ((p4 (fW.get (bd.iX o).1)).2 aa) dG
    omega
 refine⟨ah.join bs (aZ i).length (aZ (i+1)).length,?_⟩
 refine{ai with closed:=za ai.closed al,before:=?_,after:=?_,iU:=?_,ext:=fun b k ag=>Ad b k (ai.ext b k ag),eK:=?_,BJ:=?_,vC:=?_,fr:=?_,tmps:=?_,defers:=?_,step:=?_}
 ·intro j y o aa aA
  simp[eQ,ai.before j y o aa aA]
 ·intro j y o aa aA
  have:j≠i:=by omega
  simp[eQ,ai.after j y o aa aA,this]
 ·refine⟨ai.iU.pos,bE.size,fun b k ag=>?_,fun b k x ag J=>?_,fun b cu k b5 ag c3 cN aK ar=>?_⟩
  ·rcases n0 b k ag with⟨h,cv,-⟩ | ⟨h,cv,sf⟩ | ⟨h,cv⟩
   ·exact ai.iU.eK b k cv
   ·have:=bE.eK b k sf;exact⟨this.1,by omega⟩
   ·exact ai.iU.eK b k cv
  ·by_cases a6:b<(aZ (i+1)).length
   ·have kC:=DH b k ag a6
    rw[bg.get a6]at J
    exact(bE.e0 b k x kC J).gu Lc (fun _=>rfl) (Nat.le_refl _)
   ·rcases n0 b k ag with⟨h,-,-⟩ | ⟨-,h,-⟩ | ⟨h,cv⟩
    ·omega
    ·omega
    ·refine(ai.iU.e0 b k x cv J).gu Ad (fun aG=>c8.frame k.g (JH b k x cv J aG) fun hf jF mX Ag=>?_) c8.size
     have Ks:=bd.iX mX
     obtain⟨nN,w1⟩:∃nN,x.cells?=some nN:=by cases av:x.cells? with | none=>exact absurd av aG | some q=>exact⟨q,rfl⟩
     exact ai.iU.inj hf b jF k Ks.2 cv (by omega) ((p4 (fW.get Ks.1)).2 Ag) ⟨x,nN,J,w1⟩
  ·by_cases a6:b<(aZ (i+1)).length
   ·have kC:=DH b k ag a6
    have q3:=(p4 (bg.get a6)).1 aK
    by_cases jB:cu<(aZ (i+1)).length
    ·exact bE.inj b cu k b5 kC (DH cu b5 c3 jB) cN q3 ((xS (bg.get jB)).1 ar)
    ·rcases n0 cu b5 c3 with⟨h,-,-⟩ | ⟨-,h,-⟩ | ⟨h,cv⟩
     ·omega
     ·omega
     ·rcases n0 b k ag with⟨q,qa,-⟩ | ⟨q,qa,NG⟩ | ⟨q,qa⟩
      ·exact ai.iU.inj b cu k b5 qa cv cN aK ar
      ·exact q2 b k cu b5 q kC q3 cv ar (.inr h)
      ·omega
   ·rcases n0 b k ag with⟨h,-,-⟩ | ⟨-,h,-⟩ | ⟨h,cv⟩
    ·omega
    ·omega
    ·rcases n0 cu b5 c3 with⟨q,qa,-⟩ | ⟨q,qa,NG⟩ | ⟨q,qa⟩
     ·exact ai.iU.inj b cu k b5 cv qa cN aK ar
     ·have gL:=(xS (bg.get qa)).1 ar
      have q3:hA (aZ (i+1)) cu:=by
       obtain⟨x,cs,J,ad⟩:=gL
       cases x with
       | own e l c=>exact⟨e,l,c,J⟩
       | ro e c=>exact absurd rfl (bk.new q J e c)
       | dead=>simp[bI.cells?]at ad
      exact fun e=>q2 cu b5 b k q NG q3 cv aK.live (.inr h) e.symm
     ·exact ai.iU.inj b cu k b5 cv qa cN aK ar
 ·intro b k ag
  rcases n0 b k ag with⟨h,cv,-⟩ | ⟨h,cv,sf⟩ | ⟨h,cv⟩
  ·rcases ai.eK b k cv with q | ⟨j,a1,a3,bG,cn⟩
   ·exact .inl q
   ·exact .inr ⟨j,a1,a3,by simp[eQ,bG],cn⟩
  ·exact .inr ⟨i,h7,gr,by simp[eQ],h,cv⟩
  ·rcases ai.eK b k cv with q | ⟨j,a1,a3,bG,cn⟩
   ·exact .inl q
   ·exact .inr ⟨j,a1,a3,by simp[eQ,bG],cn⟩
 ·intro j o aa b k x cs v ag gJ J ad sT
  rcases n0 b k ag with⟨h,cv,-⟩ | ⟨h,cv,sf⟩ | ⟨h,cv⟩
  ·exact ai.BJ j o aa b k x cs v cv gJ J ad sT
  ·have fE:i+1<=j:=by
    rcases Nat.lt_or_ge i j with q | q
    ·exact q
    ·have:=(ai.kx a5 bW o q (by omega)).len
     omega
   rw[bg.get cv]at J
   obtain⟨u,hu⟩:=(bE.e0 b k x sf J).F8 ad sT
   exact(jL.of (fun b k ag=>(bE.eK b k ag).2) hu).mono (ai.kx a5 bW (by omega) fE aa).len
  ·exact ai.BJ j o aa b k x cs v cv gJ J ad sT
 ·intro j aX aQ
  simp only[eQ,Bool.or_eq_true,decide_eq_true_eq]at aQ
  rcases aQ with rfl | aQ
  ·unfold qD
   rw[if_neg (by omega),if_pos gr]
   exact jL.of (fun b k ag=>(bE.eK b k ag).2) an
  ·exact ai.vC j aX aQ
 ·rw[Bm];exact ai.fr
 ·intro d aB
  rw[zc ev ai.closed al,zp ai.fr aB]
  split
  ·exact an.ext Lc
  ·exact(ai.tmps d aB).ext Ad
 ·rw[put_defers];exact ai.defers
 ·have pO:=ai.AP
  refine⟨fun b k ag=>Ad b k (ai.ext b k ag),fun b k ag=>?_,ai.step.len,fun b k ag aK=>?_,c8.os.trans ai.step.os,c8.tape.trans ai.step.tape,c8.output.trans ai.step.output,Nat.le_trans ai.step.size c8.size,fun g aU cN=>?_⟩
  ·rcases n0 b k ag with⟨h,cv,-⟩ | ⟨h,cv,sf⟩ | ⟨h,cv⟩
   ·exact ai.step.new b k cv
   ·exact .inr (by omega)
   ·exact ai.step.new b k cv
  ·rcases n0 b k ag with⟨h,cv,-⟩ | ⟨h,cv,sf⟩ | ⟨h,cv⟩
   ·exact ai.step.own b k cv aK
   ·rcases c8.own b k sf ((p4 (bg.get cv)).1 aK)with q | ⟨hf,jF,a1,a3,bG⟩
    ·exact .inl (Nat.le_trans ai.step.size q)
    ·have A7:=bd.iX a1
     rcases ai.step.own hf jF A7.2 ((p4 (fW.get A7.1)).2 a3)with r | ⟨gH,jl,ed,fA,hV⟩
     ·exact .inl (by omega)
     ·exact .inr ⟨gH,jl,ed,fA,by omega⟩
   ·exact ai.step.own b k cv aK
  ·rw[c8.frame g (Nat.lt_of_lt_of_le aU ai.step.size) fun b k ag aK=>?_,ai.step.frame g aU cN]
   have c3:=bd.iX ag
   rcases ai.step.own b k c3.2 ((p4 (fW.get c3.1)).2 aK)with r | ⟨gH,jl,ed,fA,hV⟩
   ·omega
   ·exact fun e=>cN gH jl ed fA (by omega)
theorem EV(ops:Array Oper):∀(m i:Nat),i+m=ops.size->∃bj,i<=bj/\bj<=ops.size/\(∀j R,i<=j->j<bj->ops[j]?=some R->bR P R=false->eD P ops j=false)/\(bj=ops.size\/∃R,ops[bj]?=some R/\bR P R=false/\eD P ops bj=true)
 | 0,i,h=>⟨i,Nat.le_refl _,by omega,fun j R o aa=>by omega,.inl (by omega)⟩
 | m+1,i,h=>by
  have a6:i<ops.size:=by omega
  have aK:=Array.getElem?_eq_getElem a6
  by_cases ag:bR P ops[i]=false/\eD P ops i=true
  ·exact⟨i,Nat.le_refl _,by omega,fun j R o aa=>by omega,.inr ⟨_,aK,ag.1,ag.2⟩⟩
  ·obtain⟨bj,o,aa,aA,bo⟩:=EV ops m (i+1) (by omega)
   refine⟨bj,by omega,aa,fun j R a1 a3 bG cn=>?_,bo⟩
   by_cases aX:j=i
   ·subst aX
    rw[aK]at bG
    obtain rfl:=Option.some.inj bG
    cases mY:eD P ops j with
    | false=>rfl
    | true=>exact absurd ⟨cn,mY⟩ ag
   ·exact aA j R (by omega) a3 bG cn
theorem Inv.ZE(ai:Inv P base ops T V aZ ic d_ X s bj ah a w)(ev:gD ops=true)(a5:∀j R,ops[j]?=some R->bR P R=true->aZ (j+1)=aZ j)(bW:∀j R,ops[j]?=some R->bR P R=false->eD P ops j=true\/Ext (aZ j) (aZ (j+1)))
  {R:Oper}(al:kS ops X bj R)(ay:bR P R=false)(zR:eD P ops bj=true){bs:bd}{au:Value}{a7:World}(an:bl bs (V bj) au)(bE:ck P base bs (aZ (bj+1)) a7)(c8:Step ah (aZ bj) w bs (aZ (bj+1)) a7):
  ∃o7 qm,Inv P base ops T V aZ ic d_ (eQ X bj) (bj+1) o7 qm (a.put R.dst au) a7:=by
 have cA:bj<ops.size:=(Array.getElem?_eq_some_iff.1 al.1).1
 obtain⟨o7,o,aa,aA,bo⟩:=EV ops (ops.size-(bj+1)) (bj+1) (by omega)
 have m1:∀{i j:Nat},bj+1<=i->i<=j->j<=o7->Ext (aZ i) (aZ j):=fun{i j} a1 a3 bG=>by
  have:=yh a5 bW aa aA (j-i) i a1 (by omega)
  rwa[show i+(j-i)=j by omega]at this
 have e:=m1 (Nat.le_refl _) o (Nat.le_refl _)
 have uS:=ai.dn
 have ls:=(ai.kx a5 bW (Nat.le_refl s) uS (Nat.le_refl _)).len
 have da:=c8.len
 have pO:=ai.AP
 refine⟨o7,bs,?_⟩
 refine⟨za ai.closed al,o,aa,aA,fun j y a1 a3 bG=>?_,fun j y a1 a3 bG=>?_,bo,bE.grow e,fun b k ag=>c8.ext b k (ai.ext b k ag),fun b k ag=> .inl (bE.eK b k ag).2,?_,?_,fun v an=>(ai.Ph v an).mono (by omega),ai.NA,by omega,by rw[Bm];exact ai.fr,?_,by rw[put_defers];exact ai.defers,(ai.step.trans c8).grow bE e⟩
 ·by_cases aX:j=bj
  ·subst aX;simp[eQ]
  ·have ag:=tB zR a3 bG aX
   rw[show min bj j=j by omega,show max bj j=bj by omega]at ag
   have:=tI ev ai.closed bj R al.1 al.2.2 j (by omega) ag
   simp[eQ,this]
 ·have aX:j≠bj:=by omega
  have gA:j<ops.size:=(Array.getElem?_eq_some_iff.1 a3).1
  cases aQ:X j with
  | false=>simp[eQ,aQ,aX]
  | true=>
   have ag:=tB zR a3 bG aX
   rw[show min bj j=bj by omega,show max bj j=j by omega]at ag
   have:=y_ ev ai.closed gA aQ cA ag
   rw[al.2.1]at this
   cases this
 ·intro j a1 a3 b k x cs v ag gJ J ad sT
  have mg:=(bE.eK b k ag).2
  rw[e.get mg]at J
  obtain⟨u,hu⟩:=(bE.e0 b k x ag J).F8 ad sT
  exact(jL.of (fun b k ag=>(bE.eK b k ag).2) hu).mono (m1 (Nat.le_refl _) a1 a3).len
 ·intro j aX aQ
  simp only[eQ,Bool.or_eq_true,decide_eq_true_eq]at aQ
  have fP:(aZ (bj+1)).length<=(aZ (qD (bj+1) o7 j)).length:=by
   unfold qD
   split
   ·exact Nat.le_refl _
   ·split
    ·exact(m1 (Nat.le_refl _) (by omega) (by omega)).len
    ·exact(m1 (Nat.le_refl _) o (Nat.le_refl _)).len
  rcases aQ with rfl | aQ
  ·exact(jL.of (fun b k ag=>(bE.eK b k ag).2) an).mono fP
  ·refine(ai.vC j aX aQ).mono (Nat.le_trans ?_ (Nat.le_trans da fP))
   unfold qD
   split
   ·exact ls
   ·split
    ·exact(ai.kx a5 bW (by omega) (by omega) (Nat.le_refl _)).len
    ·exact Nat.le_refl _
 ·intro d aB
  rw[zc ev ai.closed al,zp ai.fr aB]
  split
  ·exact an
  ·exact(ai.tmps d aB).ext c8.ext
theorem NT{dt:Array Bool}{i:Nat}(h:i∈Region.ready .any ops dt)(ar:dt.size=ops.size):∃R,kS ops (fun j=>dt.getD j false) i R:=by
 unfold Region.ready at h
 rw[List.mem_filter]at h
 obtain⟨o,aa⟩:=h
 have a6:i<ops.size:=List.mem_range.1 o
 have aK:=Array.getElem?_eq_getElem a6
 simp only[aK,Option.map_some,Option.getD_some,Bool.and_eq_true,Bool.not_eq_true',Array.all_eq_true']at aa
 refine⟨ops[i],aK,?_,fun e he ag=>?_⟩
 ·have:=aa.1
  simp only[Array.getD_eq_getD_getElem?,Array.getElem?_eq_getElem (show i<dt.size by omega),Option.getD_some]at this⊢
  exact this
 ·have:=aa.2 e he
  simpa[ag]using this
theorem NS{dt:Array Bool}(h:Region.ready .any ops dt=[])(ar:dt.size=ops.size)(ev:gD ops=true):∀i,i<ops.size->dt.getD i false=true:=by
 intro i
 induction i using Nat.strongRecOn with
 | _ i a2=>
  intro ae
  cases ad:dt.getD i false with
  | true=>rfl
  | false=>
   have aK:=Array.getElem?_eq_getElem ae
   have iq:i∈Region.ready .any ops dt:=by
    unfold Region.ready
    rw[List.mem_filter]
    refine⟨List.mem_range.2 ae,?_⟩
    simp only[aK,Option.map_some,Option.getD_some,Bool.and_eq_true,Bool.not_eq_true',Array.all_eq_true']
    constructor
    ·simp only[Array.getD_eq_getD_getElem?,Array.getElem?_eq_getElem (show i<dt.size by omega),Option.getD_some]at ad⊢
     exact ad
    ·intro e he
     cases ag:Region.binds .any e with
     | false=>simp
     | true=>
      have:=Rp ev aK he ag
      simp[a2 e.on this (by omega)]
   rw[h]at iq
   cases iq
theorem MO{dt:Array Bool}{i:Nat}(ae:i<dt.size):(fun j=>(dt.setIfInBounds i true).getD j false)=eQ (fun j=>dt.getD j false) i:=by
 funext j
 simp only[eQ,Array.getD_eq_getD_getElem?,Array.getElem?_setIfInBounds]
 by_cases h:i=j
 ·subst h;simp[ae]
 ·have:j≠i:=fun e=>h e.symm
  simp[h,this]
def tg(n:Nat)(X:Nat->Bool):Nat:=((List.range n).filter fun i=> !X i).length
theorem BI{n:Nat}{X:Nat->Bool}{i:Nat}(ae:i<n)(aQ:X i=false):tg n (eQ X i)+1<=tg n X:=by
 unfold tg
 have:∀(l:List Nat),l.Nodup->(l.filter fun j=> !eQ X i j).length+(if i∈l then 1 else 0)=(l.filter fun j=> !X j).length:=by
  intro l ar
  induction l with
  | nil=>rfl
  | cons a l a2=>
   rw[List.nodup_cons]at ar
   have a2:=a2 ar.2
   by_cases k3:a=i
   ·subst k3
    rw[if_neg ar.1]at a2
    simp only[List.filter_cons,eQ,decide_true,Bool.true_or,Bool.not_true,aQ,Bool.not_false,List.mem_cons,true_or,if_true]
    simp only[eQ,Bool.not_or]at a2
    simp
    omega
   ·have hm:(i∈a::l)↔i∈l:=by simp[Ne.symm k3]
    simp only[hm]
    have e:eQ X i a=X a:=by simp[eQ,k3]
    simp only[List.filter_cons,e]
    cases X a
    ·simp only[Bool.not_false,if_true,List.length_cons];omega
    ·simpa using a2
 have:=this (List.range n) List.nodup_range
 rw[if_pos (List.mem_range.2 ae)]at this
 omega
theorem PR{Q:Exit->Act->World->Prop}(ev:gD ops=true)(aj:(ops.all fun R=>R.op.operands.all nk)=true)(h:∀(i:Nat) (R:Oper),ops[i]?=some R->tx P base ops R (T i) (aZ i) (V i) (aZ (i+1)))
  (bc:∀(i:Nat) (R:Oper),ops[i]?=some R->T (i+1)=e6 (T i) R.dst (V i))(bW:∀j R,ops[j]?=some R->bR P R=false->eD P ops j=true\/Ext (aZ j) (aZ (j+1)))
  (aE:∀bs bY a7,cB bs (T ops.size) bY.tmps.toList->bY.defers=[]->ck P base bs (aZ ops.size) a7->Step ic (aZ 0) d_ bs (aZ ops.size) a7->Q .normal bY a7):
  ∀(fuel:Nat) (dt:Array Bool) (s bj:Nat) (ah:bd) (a:Act) (w:World),dt.size=ops.size->tg ops.size (fun j=>dt.getD j false)<=fuel->Inv P base ops T V aZ ic d_ (fun j=>dt.getD j false) s bj ah a w->wpAny P .any ops Q fuel dt a w:=by
 have a5:∀j R,ops[j]?=some R->bR P R=true->aZ (j+1)=aZ j:=fun j R aK ay=>by
  rcases h j R aK with⟨-,-,aA⟩ | ⟨-,-,-,aA⟩ | ⟨-,aa,-⟩
  ·exact aA
  ·exact aA
  ·rw[ay]at aa;cases aa
 have fin:∀(dt:Array Bool) (s bj:Nat) (ah:bd) (a:Act) (w:World),dt.size=ops.size->(∀i,i<ops.size->dt.getD i false=true)->Inv P base ops T V aZ ic d_ (fun j=>dt.getD j false) s bj ah a w->Q .normal a w:=by
  intro dt s bj ah a w ar e1 ai
  have Ae:bj=ops.size:=by
   rcases ai.stop with h | ⟨R,o,aa,-⟩
   ·exact h
   ·have:=ai.after bj R (Nat.le_refl _) o aa
    have:=e1 bj (Array.getElem?_eq_some_iff.1 o).1
    simp_all
  subst Ae
  refine aE ah a w ⟨?_,fun d v au an dJ=>?_⟩ ai.defers ai.iU ai.step
  ·rw[oG bc _ (Nat.le_refl _)];simpa using ai.fr.symm
  ·have jz:d<(T 0).length:=by
    have:=(cK.1 an).1
    rwa[oG bc _ (Nat.le_refl _)]at this
   have iP:=ai.tmps d jz
   rw[wb (Y:=fun j=>decide (j<ops.size)) (fun j aX=>by rw[e1 j (tm aX)];simp[tm aX]),<-vQ bc _ (Nat.le_refl _) d jz]at iP
   rw[List.getD_eq_getElem?_getD,an]at iP
   have bg:a.tmps[d]?=some au:=by simpa using dJ
   rw[Array.getD_eq_getD_getElem?,bg]at iP
   exact iP
 intro fuel
 induction fuel with
 | zero=>
  intro dt s bj ah a w ar hu ai
  have e1:∀i,i<ops.size->dt.getD i false=true:=by
   intro i ae
   cases ad:dt.getD i false with
   | true=>rfl
   | false=>have:=BI (X:=fun j=>dt.getD j false) ae ad;omega
  refine⟨?_,fin dt s bj ah a w ar e1 ai⟩
  unfold Region.ready
  rw[List.filter_eq_nil_iff]
  intro i ae
  have:=e1 i (List.mem_range.1 ae)
  simp only[Array.getD_eq_getD_getElem?,Array.getElem?_eq_getElem (show i<dt.size by have:=List.mem_range.1 ae;omega),Option.getD_some]at this⊢
  simp[this]
 | succ fuel a2=>
  intro dt s bj ah a w ar hu ai
  refine⟨fun aG=>fin dt s bj ah a w ar (NS aG ar ev) ai,fun i ae=>?_⟩
  obtain⟨R,al⟩:=NT ae ar
  have cA:i<ops.size:=(Array.getElem?_eq_some_iff.1 al.1).1
  have jV:=MO (dt:=dt) (i:=i) (by omega)
  have cont:∀(dv o7:Nat) (qm:bd) (au:Value) (a7:World),Inv P base ops T V aZ ic d_ (eQ (fun j=>dt.getD j false) i) dv o7 qm (a.put R.dst au) a7->wpAny P .any ops Q fuel (dt.setIfInBounds i true) (a.put R.dst au) a7:=by
   intro dv o7 qm au a7 rY
   refine a2 _ dv o7 qm _ a7 (by simpa using ar) ?_ (by rw[jV];exact rY)
   rw[jV]
   have:=BI (X:=fun j=>dt.getD j false) cA al.2.1
   omega
  unfold wpOp
  simp only[al.1,ai.wanted ev a5 bW bc al]
  have mr:=ai.operands ev aj a5 bW bc al
  have mem:bR P R=false->∀bs au a7,bl bs (V i) au->ck P base bs (aZ (i+1)) a7->Step (ah.below (aZ i).length) (aZ i) w bs (aZ (i+1)) a7->wpAny P .any ops Q fuel (dt.setIfInBounds i true) (a.put R.dst au) a7:=by
   intro ay bs au a7 an bE c8
   have h7:s<=i:=by
    rcases Nat.lt_or_ge i s with q | q
    ·exact(Bool.false_ne_true (al.2.1.symm.trans (ai.before i R q al.1 ay))).elim
    ·exact q
   have gr:i<=bj:=by
    rcases Nat.lt_or_ge bj i with q | q
    ·rcases ai.stop with cv | ⟨y,a1,a3,bG⟩
     ·omega
     ·have ag:=tB bG al.1 ay (by omega)
      rw[show min bj i=bj by omega,show max bj i=i by omega]at ag
      have:=tI ev ai.closed i R al.1 al.2.2 bj (Array.getElem?_eq_some_iff.1 a1).1 ag
      have:=ai.after bj y (Nat.le_refl _) a1 a3
      simp_all
    ·exact q
   by_cases heq:i=bj
   ·subst heq
    have zR:eD P ops i=true:=by
     rcases ai.stop with cv | ⟨y,a1,a3,bG⟩
     ·omega
     ·exact bG
    have UB:ah.below (aZ i).length=ah:=by
     funext b
     unfold bd.below
     split
     ·rfl
     ·cases ag:ah b with
      | none=>rfl
      | some k=>have:=(ai.iU.eK b k ag).2;omega
    rw[UB]at c8
    obtain⟨o7,qm,rY⟩:=ai.ZE ev a5 bW al ay zR an bE c8
    exact cont _ _ _ _ _ rY
   ·obtain⟨qm,rY⟩:=ai.runM ev a5 bW al h7 (by omega) an bE c8
    exact cont _ _ _ _ _ rY
  have Fx:bR P R=false->ck P base (ah.below (aZ i).length) (aZ i) w/\∀x∈R.op.operands,bl (ah.below (aZ i).length) (fa (T i) x) (a.eval x):=by
   intro ay
   have h7:s<=i:=by
    rcases Nat.lt_or_ge i s with q | q
    ·exact(Bool.false_ne_true (al.2.1.symm.trans (ai.before i R q al.1 ay))).elim
    ·exact q
   have gr:i<=bj:=by
    rcases Nat.lt_or_ge bj i with q | q
    ·rcases ai.stop with cv | ⟨y,a1,a3,bG⟩
     ·omega
     ·have ag:=tB bG al.1 ay (by omega)
      rw[show min bj i=bj by omega,show max bj i=i by omega]at ag
      have:=tI ev ai.closed i R al.1 al.2.2 bj (Array.getElem?_eq_some_iff.1 a1).1 ag
      have:=ai.after bj y (Nat.le_refl _) a1 a3
      simp_all
    ·exact q
   refine⟨ai.Z8 a5 bW h7 gr,?_⟩
   have Rn:mR s bj i=i:=by unfold mR;rw[if_neg (by omega)];split<;>omega
   rw[Rn]at mr
   exact mr
  rcases h i R al.1 with⟨o,aa,aA⟩ | ⟨o,aa,aA,bo⟩ | ⟨o,aa,aA⟩
  ·rw[o]
   cases ay:bR P R with
   | true=>exact cont _ _ _ undef _ (ai.NY (au:=undef) ev al ay (by rw[aa];exact bl.undef _) a5)
   | false=>exact mem ay (ah.below (aZ i).length) undef w (by rw[aa];exact bl.undef _) (aA▸(Fx ay).1) (aA▸Step.refl _ _ _)
  ·rw[o]
   obtain⟨au,gN,an⟩:=Cw aA mr w
   refine .inl ?_
   unfold Oper.wp
   rw[gN]
   exact cont _ _ _ _ _ (ai.NY ev al aa an a5)
  ·rw[o]
   exact .inl (aA (ah.below (aZ i).length) w a (Fx aa).2 (Fx aa).1 _ _ fun bs au a7 an bE c8=>mem aa bs au a7 an bE c8)
end
section
variable {P:Program} {base:Nat} {ops:Array Oper} {T:Nat->List Value} {V:Nat->Value} {aZ:Nat->ab} {ee:Nat->Option (Nat×Option bI)} {ah:bd} {d_:World} {X:Nat->Bool} {a:Act} {w:World} {H:ab}
def mP(ee:Nat->Option (Nat×Option bI))(j b:Nat):Prop:=∃x,ee j=some (b,some x)
theorem Yg(ar:∀(i:Nat) (R:Oper),ops[i]?=some R->oC P ops R (T i) (aZ i) (V i) (aZ (i+1)) (ee i)){i:Nat}(ae:i<ops.size){b:Nat}(hw:¬mP ee i b):(aZ (i+1))[b]?=(aZ i)[b]?:=by
 have h:=ar i _ (Array.getElem?_eq_getElem ae)
 cases bM:ee i with
 | none=>rw[bM]at h;rw[h.2]
 | some bA=>
  obtain⟨c,y⟩:=bA
  rw[bM]at h
  obtain⟨-,-,-,-,bK,-⟩:=h
  cases y with
  | none=>rw[bK];rfl
  | some x=>
   simp only[my]at bK
   have:c≠b:=fun e=>hw ⟨x,by rw[bM,e]⟩
   rw[bK,List.getElem?_set_ne this]
theorem MK(ar:∀(i:Nat) (R:Oper),ops[i]?=some R->oC P ops R (T i) (aZ i) (V i) (aZ (i+1)) (ee i)):∀i,i<=ops.size->(aZ i).length=(aZ 0).length
 | 0,_=>rfl
 | i+1,ae=>by
  have a2:=MK ar i (by omega)
  have h:=ar i _ (Array.getElem?_eq_getElem (show i<ops.size by omega))
  cases bM:ee i with
  | none=>rw[bM]at h;rw[h.2,a2]
  | some bA=>
   obtain⟨c,y⟩:=bA
   rw[bM]at h
   obtain⟨-,-,-,-,bK,-⟩:=h
   cases y with
   | none=>rw[bK,<-a2];rfl
   | some x=>rw[bK];simp[my,a2]
theorem AO(ar:∀(i:Nat) (R:Oper),ops[i]?=some R->oC P ops R (T i) (aZ i) (V i) (aZ (i+1)) (ee i)){b:Nat}:∀(m i:Nat),i+m<=ops.size->(∀j,i<=j->j<i+m->¬mP ee j b)->(aZ (i+m))[b]?=(aZ i)[b]?
 | 0,i,_,_=>rfl
 | m+1,i,h,hw=>by
  have a2:=AO ar m i (by omega) fun j o aa=>hw j o (by omega)
  rw[<-a2]
  exact Yg ar (show i+m<ops.size by omega) (hw (i+m) (by omega) (by omega))
structure lq (P:Program) (base:Nat) (ops:Array Oper) (T:Nat->List Value) (V:Nat->Value) (aZ:Nat->ab) (ee:Nat->Option (Nat×Option bI)) (ah:bd) (d_:World) (X:Nat->Bool) (a:Act) (w:World) (H:ab):Prop where
 closed:ph ops X
 size:∀j,X j=true->j<ops.size
 len:H.length=(aZ 0).length
 row:∀b,∃k,k<=ops.size/\(∀j,j<k->mP ee j b->X j=true)/\(∀j,k<=j->mP ee j b->X j=false)/\H[b]?=(aZ k)[b]?
 iU:ck P base ah H w
 fr:a.tmps.size=(T 0).length
 tmps:∀d,d<(T 0).length->bl ah (cur ops V (T 0) X d) (a.tmps.getD d undef)
 defers:a.defers=[]
 step:Step ah (aZ 0) d_ ah H w
theorem lq.operand(ai:lq P base ops T V aZ ee ah d_ X a w H)(ev:gD ops=true)(bc:∀(i:Nat) (R:Oper),ops[i]?=some R->T (i+1)=e6 (T i) R.dst (V i)){i:Nat}{R:Oper}(al:kS ops X i R){d:Tmp}(aB:d∈R.looksAt ops):
  bl ah ((T i).getD d undef) (a.tmps.getD d undef):=by
 have cA:i<ops.size:=(Array.getElem?_eq_some_iff.1 al.1).1
 by_cases jz: @LT.lt Nat _ d (T 0).length
 ·rw[vQ bc i (by omega) d jz,<-I6 ev ai.closed al (.inl aB)]
  exact ai.tmps d jz
 ·have o:(T i).getD d undef=undef:=by
   rw[List.getD_eq_getElem?_getD,List.getElem?_eq_none (by rw[oG bc i (by omega)];omega)]
   rfl
  have aa:a.tmps.getD d undef=undef:=by
   have:=ai.fr
   rw[Array.getD_eq_getD_getElem?,Array.getElem?_eq_none (by omega)]
   rfl
  rw[o,aa]
  exact bl.undef _
theorem lq.operands(ai:lq P base ops T V aZ ee ah d_ X a w H)(ev:gD ops=true)(aj:(ops.all fun R=>R.op.operands.all nk)=true)(bc:∀(i:Nat) (R:Oper),ops[i]?=some R->T (i+1)=e6 (T i) R.dst (V i)){i:Nat}{R:Oper}(al:kS ops X i R):
  ∀x∈R.op.operands,bl ah (fa (T i) x) (a.eval x):=by
 intro x J
 obtain⟨a6,aK⟩:=Array.getElem?_eq_some_iff.1 al.1
 cases x with
 | tmp d=>
  have:d∈R.looksAt ops:=by
   unfold Oper.looksAt
   exact List.mem_append_left _ (List.mem_filterMap.2 ⟨.tmp d,by simpa using J,rfl⟩)
  exact ai.operand ev bc al this
 | const v=>
  have o:=Array.all_eq_true.1 aj i a6
  rw[aK]at o
  exact tQ _ (Array.all_eq_true'.1 o _ J)
 | global g=>exact .se g
 | func f=>exact .func _ rfl (fun i v au h=>by simp at h) rfl (fun i v au h=>by simp at h)
theorem lq.wanted(ai:lq P base ops T V aZ ee ah d_ X a w H)(ev:gD ops=true)(bc:∀(i:Nat) (R:Oper),ops[i]?=some R->T (i+1)=e6 (T i) R.dst (V i)){i:Nat}{R:Oper}(al:kS ops X i R):
  Region.wanted R (yielded ops a.tmps)=Region.wanted R (gS ops (T i)):=by
 have cA:i<ops.size:=(Array.getElem?_eq_some_iff.1 al.1).1
 refine Gc fun j b aU=>?_
 unfold yielded gS
 cases aB:(ops[j]?).bind (·.dst)with
 | none=>rfl
 | some d=>
  have iq:d∈R.looksAt ops:=by
   unfold Oper.looksAt
   refine List.mem_append_right _ ?_
   simp only[aU,aB]
   simp
  have an:=ai.operand ev bc al iq
  simp only[Option.bind_some]
  have uj:=oG bc i (by omega)
  by_cases jz: @LT.lt Nat _ d (T 0).length
  ·have bk:(T i)[d]?=some ((T i).getD d undef):=by
    rw[List.getD_eq_getElem?_getD,bJ (by omega)]
    rfl
   have bg:a.tmps[d]?=some (a.tmps.getD d undef):=by
    have:=ai.fr
    rw[Array.getD_eq_getD_getElem?,Array.getElem?_eq_getElem (by omega)]
    rfl
   rw[bk,bg]
   exact an.hg.symm
  ·have bk:(T i)[d]?=none:=List.getElem?_eq_none (by omega)
   have bg:a.tmps[d]?=none:=Array.getElem?_eq_none (by have:=ai.fr;omega)
   rw[bk,bg]
theorem lq.put(ai:lq P base ops T V aZ ee ah d_ X a w H)(ev:gD ops=true){i:Nat}{R:Oper}(al:kS ops X i R){au:Value}{a7:World}{H1:ab}(hlen:H1.length=H.length)(VZ:∀b,mP ee i b->H1[b]?=(aZ (i+1))[b]?/\(∀j,j<i->mP ee j b->X j=true)/\∀j,i<j->mP ee j b->X j=false)
  (UO:∀b,¬mP ee i b->H1[b]?=H[b]?)(an:bl ah (V i) au)(bE:ck P base ah H1 a7)(c8:Step ah H w ah H1 a7):lq P base ops T V aZ ee ah d_ (eQ X i) (a.put R.dst au) a7 H1:=by
 have cA:i<ops.size:=(Array.getElem?_eq_some_iff.1 al.1).1
 refine⟨za ai.closed al,fun j aX=>?_,by rw[hlen,ai.len],fun b=>?_,bE,by rw[Bm];exact ai.fr,fun d aB=>?_,by rw[put_defers];exact ai.defers,ai.step.trans c8⟩
 ·simp only[eQ,Bool.or_eq_true,decide_eq_true_eq]at aX
  rcases aX with rfl | aX
  ·exact cA
  ·exact ai.size j aX
 ·by_cases hw:mP ee i b
  ·obtain⟨a1,a3,bG⟩:=VZ b hw
   refine⟨i+1,by omega,fun j aX re=>?_,fun j aX re=>?_,a1⟩
   ·by_cases fE:j=i
    ·subst fE;simp[eQ]
    ·simp[eQ,a3 j (by omega) re]
   ·have:j≠i:=by omega
    simp[eQ,bG j (by omega) re,this]
  ·obtain⟨k,jl,kj,s4,xU⟩:=ai.row b
   refine⟨k,jl,fun j aX re=>by simp[eQ,kj j aX re],fun j aX re=>?_,by rw[UO b hw];exact xU⟩
   have:j≠i:=fun e=>hw (e▸re)
   simp[eQ,s4 j aX re,this]
 ·rw[zc ev ai.closed al,zp ai.fr aB]
  split
  ·exact an
  ·exact ai.tmps d aB
theorem YF{bs:bd}{H1:ab}{a7:World}(bE:ck P base bs H1 a7)(c8:Step ah H w bs H1 a7)(hlen:H1.length=H.length):bs=ah:=by
 funext b
 cases h:bs b with
 | none=>
  cases cv:ah b with
  | none=>rfl
  | some k=>rw[c8.ext b k cv]at h;cases h
 | some k=>
  rcases c8.new b k h with cv | cv
  ·exact cv.symm
  ·have:=(bE.eK b k h).2;omega
theorem Yf{Q:Exit->Act->World->Prop}(ev:gD ops=true)(aj:(ops.all fun R=>R.op.operands.all nk)=true)(h:∀(i:Nat) (R:Oper),ops[i]?=some R->tx P base ops R (T i) (aZ i) (V i) (aZ (i+1)))
  (bc:∀(i:Nat) (R:Oper),ops[i]?=some R->T (i+1)=e6 (T i) R.dst (V i))(ar:∀(i:Nat) (R:Oper),ops[i]?=some R->oC P ops R (T i) (aZ i) (V i) (aZ (i+1)) (ee i))
  (lJ:∀(i j:Nat) (b:Nat) (x:bI) (y:Option bI),ee i=some (b,some x)->ee j=some (b,y)->i≠j->eD P ops i=true\/eD P ops j=true)
  (uU:∀j,ops.size<=j->ee j=none)(aE:∀bs bY a7,cB bs (T ops.size) bY.tmps.toList->bY.defers=[]->ck P base bs (aZ ops.size) a7->Step ah (aZ 0) d_ bs (aZ ops.size) a7->Q .normal bY a7):
  ∀(fuel:Nat) (dt:Array Bool) (a:Act) (w:World) (H:ab),dt.size=ops.size->tg ops.size (fun j=>dt.getD j false)<=fuel->lq P base ops T V aZ ee ah d_ (fun j=>dt.getD j false) a w H->wpAny P .any ops Q fuel dt a w:=by
 have fin:∀(dt:Array Bool) (a:Act) (w:World) (H:ab),dt.size=ops.size->(∀i,i<ops.size->dt.getD i false=true)->lq P base ops T V aZ ee ah d_ (fun j=>dt.getD j false) a w H->Q .normal a w:=by
  intro dt a w H jV e1 ai
  have CN:H=aZ ops.size:=by
   apply List.ext_getElem?
   intro b
   obtain⟨k,jl,kj,s4,xU⟩:=ai.row b
   have:=AO ar (b:=b) (ops.size-k) k (by omega) fun j o aa hw=>by
    have aA:=s4 j o hw
    rw[e1 j (by omega)]at aA
    cases aA
   rw[show k+(ops.size-k)=ops.size by omega]at this
   rw[xU,this]
  subst CN
  refine aE ah a w ⟨?_,fun d v au an dJ=>?_⟩ ai.defers ai.iU ai.step
  ·rw[oG bc _ (Nat.le_refl _)];simpa using ai.fr.symm
  ·have jz:d<(T 0).length:=by
    have:=(cK.1 an).1
    rwa[oG bc _ (Nat.le_refl _)]at this
   have iP:=ai.tmps d jz
   rw[wb (Y:=fun j=>decide (j<ops.size)) (fun j aX=>by rw[e1 j (tm aX)];simp[tm aX]),<-vQ bc _ (Nat.le_refl _) d jz]at iP
   rw[List.getD_eq_getElem?_getD,an]at iP
   have bg:a.tmps[d]?=some au:=by simpa using dJ
   rw[Array.getD_eq_getD_getElem?,bg]at iP
   exact iP
 intro fuel
 induction fuel with
 | zero=>
  intro dt a w H jV hu ai
  have e1:∀i,i<ops.size->dt.getD i false=true:=by
   intro i ae
   cases ad:dt.getD i false with
   | true=>rfl
   | false=>have:=BI (X:=fun j=>dt.getD j false) ae ad;omega
  refine⟨?_,fin dt a w H jV e1 ai⟩
  unfold Region.ready
  rw[List.filter_eq_nil_iff]
  intro i ae
  have:=e1 i (List.mem_range.1 ae)
  simp only[Array.getD_eq_getD_getElem?,Array.getElem?_eq_getElem (show i<dt.size by have:=List.mem_range.1 ae;omega),Option.getD_some]at this⊢
  simp[this]
 | succ fuel a2=>
  intro dt a w H jV hu ai
  refine⟨fun aG=>fin dt a w H jV (NS aG jV ev) ai,fun i ae=>?_⟩
  obtain⟨R,al⟩:=NT ae jV
  have cA:i<ops.size:=(Array.getElem?_eq_some_iff.1 al.1).1
  have sM:=MO (dt:=dt) (i:=i) (by omega)
  have cont:∀(au:Value) (a7:World) (H1:ab),lq P base ops T V aZ ee ah d_ (eQ (fun j=>dt.getD j false) i) (a.put R.dst au) a7 H1->wpAny P .any ops Q fuel (dt.setIfInBounds i true) (a.put R.dst au) a7:=by
   intro au a7 H1 rY
   refine a2 _ _ a7 H1 (by simpa using jV) ?_ (by rw[sM];exact rY)
   rw[sM]
   have:=BI (X:=fun j=>dt.getD j false) cA al.2.1
   omega
  have mr:=ai.operands ev aj bc al
  have VS:=ai.wanted ev bc al
  have z5:=ar i R al.1
  unfold wpOp
  simp only[al.1,VS]
  cases bM:ee i with
  | none=>
   rw[bM]at z5
   obtain⟨av,agM⟩:=z5
   have quiet:∀au,bl ah (V i) au->lq P base ops T V aZ ee ah d_ (eQ (fun j=>dt.getD j false) i) (a.put R.dst au) w H:=fun au an=>
    ai.put ev al rfl (fun b ag=>by obtain⟨x,J⟩:=ag;rw[bM]at J;cases J) (fun b _=>rfl) an ai.iU (Step.refl _ _ _)
   rcases h i R al.1 with⟨o,aa,aA⟩ | ⟨o,aa,aA,bo⟩ | ⟨o,aa,aA⟩
   ·rw[o]
    exact cont undef w H (quiet undef (by rw[aa];exact bl.undef _))
   ·rw[o]
    obtain⟨au,gN,an⟩:=Cw aA mr w
    refine .inl ?_
    unfold Oper.wp
    rw[gN]
    exact cont au w H (quiet au an)
   ·rcases av with q | q
    ·rw[o]at q;cases q
    ·rw[aa]at q;cases q
  | some bA=>
   obtain⟨b,y⟩:=bA
   rw[bM]at z5
   obtain⟨o,aa,aA,bo,bK,dM⟩:=z5
   rw[o]
   have Lp:∀j,j≠i->mP ee j b->oI (Region.before ops) (min j i) (max j i)=true:=fun j aX ⟨x,J⟩=>by
    have gA:j<ops.size:=by
     rcases Nat.lt_or_ge j ops.size with q | q
     ·exact q
     ·exact absurd J (by rw[uU j q];simp)
    have xi:=Array.getElem?_eq_getElem gA
    have K6:=ar j _ xi
    rw[J]at K6
    rcases lJ j i b x y J bM aX with q | q
    ·exact tB q al.1 aa (Ne.symm aX)
    ·have:=tB q xi K6.2.1 aX
     rw[Nat.min_comm,Nat.max_comm]
     exact this
   have g0:∀j,j<i->mP ee j b->dt.getD j false=true:=fun j aX hw=>by
    have aH:=Lp j (by omega) hw
    rw[show min j i=j by omega,show max j i=i by omega]at aH
    exact tI ev ai.closed i R al.1 al.2.2 j (by omega) aH
   have hQ:∀j,i<j->mP ee j b->dt.getD j false=false:=fun j aX hw=>by
    have aH:=Lp j (by omega) hw
    rw[show min j i=i by omega,show max j i=j by omega]at aH
    cases aQ:dt.getD j false with
    | false=>rfl
    | true=>
     have:=y_ ev ai.closed (ai.size j aQ) aQ cA aH
     exact absurd (al.2.1.symm.trans this) Bool.false_ne_true
   have Sd:H[b]?=(aZ i)[b]?:=by
    obtain⟨k,jl,kj,s4,xU⟩:=ai.row b
    rw[xU]
    rcases Nat.le_total k i with g8 | g8
    ·have:=AO ar (b:=b) (i-k) k (by omega) fun j a1 a3 hw=>by
      have bk:=s4 j a1 hw
      have bg:=g0 j (by omega) hw
      exact Bool.false_ne_true (bk.symm.trans bg)
     rw[show k+(i-k)=i by omega]at this
     exact this.symm
    ·have:=AO ar (b:=b) (k-i) i (by omega) fun j a1 a3 hw=>by
      have bk:=kj j (by omega) hw
      by_cases fE:j=i
      ·subst fE;exact Bool.false_ne_true (al.2.1.symm.trans bk)
      ·exact Bool.false_ne_true ((hQ j (by omega) hw).symm.trans bk)
     rw[show i+(k-i)=k by omega]at this
     exact this
   have hm:=dM H Sd
   obtain⟨bs,au,a7,gN,an,hk,c8⟩:=M7 hm ai.iU mr
   have hlen:(my H b y).length=H.length:=by cases y<;>simp[my]
   obtain rfl:=YF hk c8 hlen
   have gJ:b<H.length:=by rw[ai.len,<-MK ar i (by omega)];exact aA
   have Jx:lq P base ops T V aZ ee bs d_ (eQ (fun j=>dt.getD j false) i) (a.put R.dst au) a7 (my H b y):=by
    refine ai.put ev al hlen (fun c ad=>?_) (fun c ad=>?_) an hk c8
    ·obtain⟨x,J⟩:=ad
     rw[bM]at J
     simp only[Option.some.injEq,Prod.mk.injEq]at J
     obtain⟨rfl,rfl⟩:=J
     refine⟨?_,g0,hQ⟩
     simp only[my]at bK⊢
     rw[List.getElem?_set_self gJ,bK,List.getElem?_set_self aA]
    ·cases y with
     | none=>rfl
     | some x=>
      have:b≠c:=fun e=>ad ⟨x,by rw[bM,e]⟩
      simp only[my]
      rw[List.getElem?_set_ne this]
   refine .inl ?_
   unfold Oper.wp
   rcases gN with gN | ⟨gN,rfl⟩
   ·rw[gN];exact cont au a7 _ Jx
   ·rw[gN];exact cont undef a7 _ Jx
end
section
variable {P:Program} {base:Nat}
def vl(tmps:Array Value):ResultVar->Sem Value
 | .tmp t=>pure (tmps.getD t undef)
 | .cell a t=>do loadVar t (<-asAddr (tmps.getD a undef))
theorem ZL{ah:bd}{H:ab}{w:World}{t:List Value}{a:Act}(dk:cB ah t a.tmps.toList)(bE:ck P base ah H w){rs:List ResultVar}{aD:List Value}(h:l3 P t H rs aD):∃hr,(rs.mapM (vl a.tmps)).run P w= .ok hr w/\cB ah aD hr:=by
 have CA:∀i,bl ah (t.getD i undef) (a.tmps.getD i undef):=fun i=>yk (x:= .tmp i) dk rfl
 induction h with
 | nil=>exact⟨[],by simp,cB.nil ah⟩
 | tmp ao a2=>
  rename_i i rs aD
  obtain⟨hr,o,aa⟩:=a2
  exact⟨_::hr,by simp[List.mapM_cons,vl,o],(cB.cons (CA i) aa)⟩
 | y6 aO J aQ ad an ao a2=>
  rename_i r ty b i X cs v rs aD
  obtain⟨hr,o,aa⟩:=a2
  obtain⟨k,aj,he⟩:=(J▸CA r).rv
  obtain⟨u,a1,a3⟩:=bE.cell aj aQ ad an
  exact⟨u::hr,by simp[List.mapM_cons,vl,he,asAddr,loadVar,Bf aO,a1,o],cB.cons a3 aa⟩
 | y7 aO aG J aQ ad bw ao a2=>
  rename_i r ty b i n X cs rs aD
  obtain⟨hr,o,aa⟩:=a2
  obtain⟨k,aj,he⟩:=(J▸CA r).rv
  obtain⟨us,ar,iM,al⟩:=bE.cells aj aQ ad bw
  have gN:=run_loadCells_list (P:=P) w ⟨k.g,k.R+i,none⟩ us iM
  rw[ar]at gN
  exact⟨.agg us.toArray::hr,by simp[List.mapM_cons,vl,he,asAddr,loadVar,Bf aO,km aG,gN,o],cB.cons (.agg al.toArray.1 al.toArray.2) aa⟩
theorem Zw{ah:bd}{H:ab}{w:World}{t:List Value}{a:Act}{fn:Func}(dk:cB ah t a.tmps.toList)(bE:ck P base ah H w){aD:List Value}(h:l3 P t H fn.results.toList aD):∃au,(results fn a.tmps).run P w= .ok au w/\bl ah (bf aD) au:=by
 obtain⟨hr,o,aa⟩:=ZL dk bE h
 have e:(fn.results.mapM (vl a.tmps)).run P w= .ok hr.toArray w:=by
  rw[Array.mapM_eq_mapM_toList]
  simp[o]
 have bg:(results fn a.tmps).run P w= .ok (if h:hr.toArray.size=1 then hr.toArray[0]else .tuple hr.toArray) w:=by
  have:results fn a.tmps=(do let aD<-fn.results.mapM (vl a.tmps);pure (if h:aD.size=1 then aD[0]else .tuple aD)):=rfl
  rw[this]
  simp[e]
 refine⟨_,bg,?_⟩
 have ar:=aa.1
 unfold bf
 match aD,hr,ar,aa with
 | [],[],_,aa=>exact .tuple rfl aa.toArray.2
 | [v],[au],_,aa=>exact aa.2 0 v au rfl rfl
 | v::v2::aD,u::ln::us,_,aa=>
  have:¬((u::ln::us).toArray.size=1):=by simp
  rw[dif_neg this]
  exact .tuple aa.toArray.1 aa.toArray.2
def tz(P:Program)(base:Nat)(c:Code)(e:dH)(qf:List Value)(aF:ab):Nat->List Value->ab->Prop
 | 0,t,H=>Sound P base (.code c t H) (.code e qf aF)/\e≠ .normal
 | n+1,t,H=>∃t1 H1,Sound P base (.code c t H) (.code .normal t1 H1)/\tz P base c e qf aF n t1 H1
theorem MR{c:Code}{e:dH}{t qf:List Value}{H aF:ab}{n:Nat}(h:tz P base c e qf aF n t H):Sound P base (.code (.loop c) t H) (.code e qf aF):=by
 intro ah w a dk hF bE Q aE
 refine wp_loop_ghost (fun m bY a7=>∃bs t1 H1,cB bs t1 bY.tmps.toList/\bY.defers=[]/\ck P base bs H1 a7/\Step ah H w bs H1 a7/\tz P base c e qf aF m t1 H1) n ⟨ah,t,H,dk,hF,bE,Step.refl _ _ _,h⟩ ?_
 rintro m bY a7 ⟨bs,t1,H1,oO,n1,hk,lP,al⟩
 cases m with
 | zero=>
  obtain⟨ao,cN⟩:=al
  refine ao bs a7 bY oO n1 hk _ fun lo cC iA wE w2 wI xx=>?_
  have:=aE lo cC iA wE w2 wI (lP.trans xx)
  cases e with
  | normal=>exact absurd rfl cN
  | exit id=>exact this
  | ret=>exact this
 | succ m=>
  obtain⟨t2,aR,ao,al⟩:=al
  refine ao bs a7 bY oO n1 hk _ fun lo cC iA wE w2 wI xx=>?_
  exact⟨m,Nat.lt_succ_self m,lo,t2,aR,wE,w2,wI,lP.trans xx,al⟩
def PD(P:Program)(base:Nat):pk->Out->Prop
 | .code (.loop c) t H,.code e qf aF=>∃n,tz P base c e qf aF n t H
 | _,_=>True
theorem ZJ(hm:P.follows .mixedOrders=true){j:pk}{R:Out}(h:dX P j R):Sound P base j R/\PD P base j R:=by
 induction h with
 | skip=>exact⟨fun ah w a dk hF bE Q aE=>wp_skip (aE ah a w dk hF bE (Step.refl _ _ _)),trivial⟩
 | ret=>exact⟨fun ah w a dk hF bE Q aE=>wp_ret (aE ah a w dk hF bE (Step.refl _ _ _)),trivial⟩
 | exit=>exact⟨fun ah w a dk hF bE Q aE=>wp_exit (aE ah a w dk hF bE (Step.refl _ _ _)),trivial⟩
 | Bi o aa k9 p3=>
  refine⟨fun ah w a dk hF bE Q aE=>wp_seq (k9.1 ah w a dk hF bE _ fun bs bY a7 oO n1 hk lP=>?_),trivial⟩
  exact p3.1 bs a7 bY oO n1 hk Q fun lo cC iA wE w2 wI xx=>aE lo cC iA wE w2 wI (lP.trans xx)
 | yi o he k9=>
  rename_i yX hf t t1 H H1 e
  refine⟨fun ah w a dk hF bE Q aE=>wp_seq (k9.1 ah w a dk hF bE _ fun bs bY a7 oO n1 hk lP=>?_),trivial⟩
  have:=aE bs bY a7 oO n1 hk lP
  cases e with
  | normal=>exact absurd rfl he
  | exit id=>exact this
  | ret=>exact this
 | cond ad aj h a2=>
  rename_i c x y b t t1 H H1 e
  refine⟨fun ah w a dk hF bE Q aE=>?_,trivial⟩
  have an:=yk dk aj
  rw[ad]at an
  exact wp_cond an.IJ (a2.1 ah w a dk hF bE Q aE)
 | block h a2=>
  rename_i id c t t1 H H1 e
  refine⟨fun ah w a dk hF bE Q aE=>wp_block (a2.1 ah w a dk hF bE _ fun bs bY a7 oO n1 hk lP=>?_),trivial⟩
  have:=aE bs bY a7 oO n1 hk lP
  cases e with
  | normal=>simpa[dH.real,Exit.inBlock]using this
  | exit hG=>
   by_cases ae:hG=id
   ·subst ae;simpa[dH.real,Exit.inBlock]using this
   ·simpa[dH.real,Exit.inBlock,ae]using this
  | ret=>simpa[dH.real,Exit.inBlock]using this
 | AQ o aa k9 p3=>
  obtain⟨n,al⟩:=p3.2
  have:tz P base _ _ _ _ (n+1) _ _:=⟨_,_,k9.1,al⟩
  exact⟨MR this,n+1,this⟩
 | xZ o he k9=>
  have:tz P base _ _ _ _ 0 _ _:=⟨k9.1,he⟩
  exact⟨MR this,0,this⟩
 | region T V aZ aj h bc aB a2=>
  rename_i id ops draw
  have mr:∀(i:Nat) (R:Oper),ops[i]?=some R->tx P base ops R (T i) (aZ i) (V i) (aZ (i+1)):=fun i R aK=>(a2 i R aK).1
  refine⟨fun ah w a dk hF bE Q aE=>?_,trivial⟩
  cases draw with
  | false=>
   refine wp_region ?_
   rw[List.range_eq_range']
   exact EY aj mr bc (fun bs bY a7 a1 a3 bG cn=>aE bs bY a7 a1 a3 bG cn) ops.size 0 (by omega) ah a w dk hF bE (Step.refl _ _ _)
  | true=>
   obtain⟨ev,bW⟩:=aB rfl
   refine wp_region_any hm ?_
   obtain⟨bj,o,aa,aA,bo⟩:=EV ops ops.size 0 (by omega)
   have ue:ck P base ah (aZ 0) {w with drawn:=w.drawn+1}:=bE.heap rfl
   have a5:∀j R,ops[j]?=some R->bR P R=true->aZ (j+1)=aZ j:=fun j R aK ay=>by
    rcases mr j R aK with⟨-,-,aA⟩ | ⟨-,-,-,aA⟩ | ⟨-,aa,-⟩
    ·exact aA
    ·exact aA
    ·rw[ay]at aa;cases aa
   have m1:Ext (aZ 0) (aZ bj):=by
    have:=yh a5 bW aa aA bj 0 (Nat.zero_le _) (by omega)
    simpa using this
   have pK:∀j,(Array.replicate ops.size false).getD j false=false:=fun j=>by
    simp only[Array.getD_eq_getD_getElem?,Array.getElem?_replicate]
    split<;>rfl
   refine PR (V:=V) (ic:=ah) (d_:=w) ev aj mr bc bW (fun bs bY a7 a1 a3 bG cn=>aE bs bY a7 a1 a3 bG cn) ops.size (Array.replicate ops.size false) 0 bj ah a _ (by simp) (by unfold tg;exact Nat.le_trans (List.length_filter_le _ _) (by simp)) ?_
   refine⟨(fun i R e aQ=>by rw[pK]at aQ;cases aQ),o,aa,aA,(fun j R aX=>by omega),fun j R _ _ _=>pK j,bo,ue.grow m1,fun b k ag=>ag,fun b k ag=> .inl (bE.eK b k ag).2,?_,(fun j _ aQ=>by rw[pK]at aQ;cases aQ),fun v an=>?_,bE.pos,Nat.le_refl _,by simpa using dk.1.symm,?_,hF,?_⟩
   ·intro j a1 a3 b k x cs v ag gJ J ad an
    have mg:=(bE.eK b k ag).2
    rw[m1.get mg]at J
    obtain⟨u,hu⟩:=(bE.e0 b k x ag J).F8 ad an
    have hlen:(aZ 0).length<=(aZ j).length:=by
     have:=(yh a5 bW aa aA j 0 (Nat.zero_le _) (by omega)).len
     simpa using this
    exact(jL.of (fun b k ag=>(bE.eK b k ag).2) hu).mono hlen
   ·obtain⟨i,ae⟩:=List.getElem?_of_mem an
    obtain⟨u,-,hu⟩:=dk.get ae
    exact jL.of (fun b k ag=>(bE.eK b k ag).2) hu
   ·intro d aB
    rw[Cj (fun j aQ=>by rw[pK]at aQ;cases aQ)]
    exact yk (x:= .tmp d) dk rfl
   ·have:=(Step.drawn ah (aZ 0) w (w.drawn+1)).grow ue m1
    exact this
 | Be T V aZ ee aj h bc ev ar aB uU a2=>
  rename_i id ops draw
  have mr:∀(i:Nat) (R:Oper),ops[i]?=some R->tx P base ops R (T i) (aZ i) (V i) (aZ (i+1)):=fun i R aK=>(a2 i R aK).1
  refine⟨fun ah w a dk hF bE Q aE=>?_,trivial⟩
  cases draw with
  | false=>
   refine wp_region ?_
   rw[List.range_eq_range']
   exact EY aj mr bc (fun bs bY a7 a1 a3 bG cn=>aE bs bY a7 a1 a3 bG cn) ops.size 0 (by omega) ah a w dk hF bE (Step.refl _ _ _)
  | true=>
   refine wp_region_any hm ?_
   have ue:ck P base ah (aZ 0) {w with drawn:=w.drawn+1}:=bE.heap rfl
   have pK:∀j,(Array.replicate ops.size false).getD j false=false:=fun j=>by
    simp only[Array.getD_eq_getD_getElem?,Array.getElem?_replicate]
    split<;>rfl
   refine Yf (V:=V) (ah:=ah) (d_:=w) ev aj mr bc ar aB uU (fun bs bY a7 a1 a3 bG cn=>aE bs bY a7 a1 a3 bG cn) ops.size (Array.replicate ops.size false) a _ (aZ 0) (by simp) (by unfold tg;exact Nat.le_trans (List.length_filter_le _ _) (by simp)) ?_
   refine⟨(fun i R e aQ=>by rw[pK]at aQ;cases aQ),(fun j aQ=>by rw[pK]at aQ;cases aQ),rfl,(fun b=>⟨0,Nat.zero_le _,fun j aX=>absurd aX (Nat.not_lt_zero j),fun j _ _=>pK j,rfl⟩),ue,by simpa using dk.1.symm,?_,hF,Step.drawn ah (aZ 0) w (w.drawn+1)⟩
   intro d aB
   rw[Cj (fun j aQ=>by rw[pK]at aQ;cases aQ)]
   exact yk (x:= .tmp d) dk rfl
 | s9 hw=>exact⟨.inl ⟨hw,rfl,rfl⟩,trivial⟩
 | vd hw a5 h=>exact⟨.inr (.inl ⟨hw,a5,h,rfl⟩),trivial⟩
 | rq hw a5 h=>
  refine⟨.inr (.inr ⟨hw,a5,fun ah w a b8 bE K Q a0=>?_⟩),trivial⟩
  obtain⟨bs,au,a7,al,an,hk,c8⟩:=M7 h bE b8
  unfold Oper.wp
  rcases al with al | ⟨al,rfl⟩
  ·rw[al];exact a0 bs au a7 an hk c8
  ·rw[al];exact a0 bs undef a7 an hk c8
 | vc hw a5 aK ay aU aG ag h a2=>
  rename_i ops R t H H1 v f args kU g first cap fn
  refine⟨.inr (.inr ⟨hw,a5,fun ah w a b8 bE K Q a0=>?_⟩),trivial⟩
  have zY:=b8 f (by simp[aK,Op.operands,Call.operands])
  rw[ay]at zY
  obtain⟨wi,dC,he,o,aa⟩:∃wi dC,a.eval f= .func (.func g) wi dC/\e8 ah first wi/\e8 ah cap dC:=by
   generalize a.eval f=u at zY
   cases zY with
   | func _ ar cV dG eG=>exact⟨_,_,rfl,⟨ar,cV⟩,dG,eG⟩
  have ss:cB ah (args.toList.map (fa t)) (args.toList.map a.eval):=by
   refine⟨by simp,fun i u OW hu m9=>?_⟩
   simp only[List.getElem?_map,Option.map_eq_some_iff]at hu m9
   obtain⟨x,J,rfl⟩:=hu
   obtain⟨y,aL,rfl⟩:=m9
   rw[J]at aL
   obtain rfl:=Option.some.inj aL
   exact b8 x (by simp[aK,Op.operands,Call.operands];exact .inr (by simpa using List.mem_of_getElem? J))
  have gN:(execOp a.eval R).run P w= .ok (.enter g (wi++args.map a.eval++dC)) w:=by
   have wY:¬fn.body=none:=fun e=>by rw[e]at ag;cases ag
   have hn:¬fn.name= "runtime.NumGoroutine" :=by simpa using aG
   simp[execOp,aK,resolve,he,Deferred.ofValue,invoke,callFunc,aU,hn,wY]
  unfold Oper.wp
  rw[gN,Oper.upon_enter]
  have Ss:cB ah (first.toList++args.toList.map (fa t)++cap.toList) (wi++args.map a.eval++dC).toList:=by
   have:=(o.toList.append ss).append aa.toList
   simpa using this
  refine(a2.1 ah w _ Ss bE).mono fun e gx cV=>?_
  obtain⟨au,bs,rfl,an,hk,c8⟩:=cV
  exact a0 bs au gx an hk c8
 | call ay ag h he al a2=>
  rename_i f fn c args t1 aD H H1 e
  refine⟨fun ah w kT dk bE=>?_,trivial⟩
  refine calls_of_wp ay ag (a2.1 ah w _ ?_ rfl bE _ fun bs bY a7 oO n1 hk lP=>?_)
  ·have ar:args.length=kT.size:=by simpa using dk.1
   have:=dk.append (cB.replicate ah (fn.ntmps-args.length))
   rw[ar]at this⊢
   simpa using this
  ·obtain⟨au,a1,a3⟩:=Zw oO hk al
   rcases he with rfl | rfl
   ·exact⟨n1,au,a1,au,bs,rfl,a3,hk,lP⟩
   ·exact⟨n1,au,a1,au,bs,rfl,a3,hk,lP⟩
 | y5 h aK a2=>
  refine⟨fun ah w kT dk bE=>?_,trivial⟩
  refine(a2.1 ah w kT dk bE).mono fun e gx cV=>?_
  obtain⟨au,bs,rfl,an,hk,c8⟩:=cV
  obtain⟨jl,kj⟩:=hk.kill _ aK
  exact⟨au,bs,rfl,an,jl,c8.trans kj⟩
theorem ZI(hm:P.follows .mixedOrders=true){f:FuncId}{args:List Value}{H H1:ab}{v:Value}(h:dX P (.call f args H) (.val v H1)){ah:bd}{w:World}{kT:Array Value}(dk:cB ah args kT.toList)(bE:ck P base ah H w):
  Calls P f kT w fun e gx=>∃au bs,e= .returned au/\bl bs v au/\ck P base bs H1 gx/\Step ah H w bs H1 gx:=(ZJ hm h).1 ah w kT dk bE
end
def kd(op:BinOp)(k:IntKind)(a b:Int):Option Value:=
 match op with
 | .add=>some (.int k (k.wrap (a+b)))
 | .sub=>some (.int k (k.wrap (a-b)))
 | .mul=>some (.int k (k.wrap (a*b)))
 | .quo=>if b=0 then none else some (.int k (k.wrap (a.tdiv b)))
 | .rem=>if b=0 then none else some (.int k (a.tmod b))
 | .and=>some (.int k (k.wrap (BitVec.ofInt k.bits a&&&BitVec.ofInt k.bits b).toNat))
 | .or=>some (.int k (k.wrap (BitVec.ofInt k.bits a ||| BitVec.ofInt k.bits b).toNat))
 | .xor=>some (.int k (k.wrap (BitVec.ofInt k.bits a^^^BitVec.ofInt k.bits b).toNat))
 | .eql=>some (.bool (a==b))
 | .neq=>some (.bool (a !=b))
 | .lss=>some (.bool (decide (a<b)))
 | .leq=>some (.bool (decide (a<=b)))
 | .gtr=>some (.bool (decide (a>b)))
 | .geq=>some (.bool (decide (a>=b)))
 | _=>none
def v3(op:BinOp)(k:IntKind)(a b:Int):Option Value:=
 if b<0 then none else
 match op with
 | .shl=>some (.int k (k.wrap (a*2^(min b.toNat k.bits))))
 | .shr=>some (.int k (a.fdiv (2^(min b.toNat k.bits))))
 | _=>none
def tC(op:BinOp)(a b:ByteArray):Option Value:=
 match op with
 | .add=>if a.size+b.size<=9223372036854775807 then some (.string (a++b))else none
 | .eql=>some (.bool (a.toList==b.toList))
 | .neq=>some (.bool !(a.toList==b.toList))
 | .lss=>some (.bool (Op.bytesLess a.toList b.toList))
 | _=>none
def tE(P:Program)(t:TypeId):Bool:=match P.underlying t with
 | some .bool=>true
 | _=>false
def iw(P:Program)(t:TypeId):Bool:=match P.underlying t with
 | some .string=>true
 | _=>false
theorem MA{P:Program}{t:TypeId}{k:IntKind}(h:(match P.underlying t with | some (.int k)=>some k | _=>none)=some k):rk P t=true:=by
 unfold rk
 split at h
 ·rename_i b5 aj;first | rw[aj] | rfl
 ·cases h
def j0(P:Program)(t:TypeId):Option IntKind:=match P.underlying t with
 | some (.int k)=>some k
 | _=>none
def fe(P:Program)(t:TypeId):Option TypeId:=match P.underlying t with
 | some (.slice e)=>some e
 | _=>none
theorem P3{P:Program}{t:TypeId}(h:tE P t=true):P.underlying t=some .bool:=by
 unfold tE at h
 split at h
 ·assumption
 ·cases h
theorem vp{P:Program}{t:TypeId}(h:iw P t=true):P.underlying t=some .string:=by
 unfold iw at h
 split at h
 ·assumption
 ·cases h
theorem MB{P:Program}{t:TypeId}{k:IntKind}(h:j0 P t=some k):P.underlying t=some (.int k):=by
 unfold j0 at h
 split at h
 ·obtain rfl:=Option.some.inj h;assumption
 ·cases h
theorem Fy{P:Program}{t e:TypeId}(h:fe P t=some e):P.underlying t=some (.slice e):=by
 unfold fe at h
 split at h
 ·obtain rfl:=Option.some.inj h;assumption
 ·cases h
def dZ(P:Program)(op:BinOp)(t:TypeId)(x y:Value):Option Value:=
 match x,y with
 | .int k a,.int b5 b=>if op= .shl\/op= .shr then v3 op k a b else if k=b5 then kd op k a b else none
 | .string a,.string b=>tC op a b
 | .bool a,.bool b=>if tE P t=true then(match op with | .eql=>some (.bool (a==b)) | .neq=>some (.bool (!(a==b))) | _=>none)else none
 | .slice a n c,.slice none 0 0=>match fe P t with
  | some _=>(match op with | .eql=>some (.bool a.isNone) | .neq=>some (.bool (!a.isNone)) | _=>none)
  | _=>none
 | _,_=>none
def pb(op:UnOp)(x:Value):Option Value:=
 match op,x with
 | .neg,.int k n=>some (.int k (k.wrap (0-n)))
 | .xor,.int k n=>some (.int k (k.wrap (BitVec.ofInt k.bits (if k.signed then-1 else k.max)^^^BitVec.ofInt k.bits n).toNat))
 | .not,.bool b=>some (.bool !b)
 | _,_=>none
section
variable {P:Program} {aJ:Operand->Value} {R:Oper} {H:ab}
theorem pz{R:Oper}(h:∀x∈R.op.operands,flat (aJ x)=true):(R.op.operands.all fun x=>flat (aJ x))=true:=by
 rw[Array.all_eq_true']
 exact h
theorem PV{op:BinOp}{k:IntKind}{a b:Int}{v:Value}(h:kd op k a b=some v)(t:TypeId):dz P (binOp op t (.int k a) (.int k b))=some v/\flat v=true:=by
 cases op<;>simp only[kd]at h<;>first
  | (cases h;done)
  | (split at h
     ·cases h
     ·rename_i ag
      obtain rfl:=Option.some.inj h
      exact⟨by simp[binOp,Op.intDiv,ag,e4],rfl⟩)
  | (obtain rfl:=Option.some.inj h
     exact⟨by simp[binOp,Op.intArith,Op.intBits,Op.intCmp,e4],rfl⟩)
theorem PW{op:BinOp}{k b5:IntKind}{a b:Int}{v:Value}(b8:op= .shl\/op= .shr)(h:v3 op k a b=some v)(t:TypeId):dz P (binOp op t (.int k a) (.int b5 b))=some v/\flat v=true:=by
 unfold v3 at h
 split at h
 ·cases h
 ·rename_i ag
  rcases b8 with rfl | rfl
  ·simp only at h
   obtain rfl:=Option.some.inj h
   exact⟨by simp[binOp,Op.shift,ag,e4],rfl⟩
  ·simp only at h
   obtain rfl:=Option.some.inj h
   exact⟨by simp[binOp,Op.shift,ag,e4],rfl⟩
theorem PX{op:BinOp}{a b:ByteArray}{v:Value}(h:tC op a b=some v)(t:TypeId):dz P (binOp op t (.string a) (.string b))=some v/\flat v=true:=by
 unfold tC at h
 split at h
 ·split at h
  ·rename_i ao
   obtain rfl:=Option.some.inj h
   have:¬((((a.size+b.size:Nat)):Int)>IntKind.i64.max):=by
    have:IntKind.i64.max=9223372036854775807:=by decide
    omega
   exact⟨by simp only[binOp,Op.stringOp,if_neg this];rfl,rfl⟩
  ·cases h
 ·obtain rfl:=Option.some.inj h
  exact⟨by simp[binOp,Op.stringOp,e4],rfl⟩
 ·obtain rfl:=Option.some.inj h
  exact⟨by simp[binOp,Op.stringOp,e4],rfl⟩
 ·obtain rfl:=Option.some.inj h
  exact⟨by simp[binOp,Op.stringOp,e4],rfl⟩
 ·cases h
theorem Y8(d:Nat){t:TypeId}{a b:Bool}(hu:P.underlying t=some .bool):dz P (Op.equalIn (d+1) t (.bool a) (.bool b))=some (a==b):=by
 simp only[Op.equalIn,fy,ot,hu,Option.bind_some]
 rfl
theorem ZR{op:BinOp}{t pf:TypeId}{x y:Operand}{v:Value}(aK:R.op= .binOp op t x y pf)(h:dZ P op t (aJ x) (aJ y)=some v):hy P aJ R v:=by
 have key:∀{a b:Value},aJ x=a->aJ y=b->flat a=true->flat b=true->(∀u:Unit,dz P (eqGuard op t x y a b)=some ())->dz P (binOp op t a b)=some v->flat v=true->hy P aJ R v:=by
  intro a b aO ag n3 TW aU al an
  refine .pure (by simp[bR,aK]) (pz fun z aM=>?_) an ?_
  ·simp only[aK,Op.operands,List.mem_toArray,List.mem_cons,List.not_mem_nil,or_false]at aM
   rcases aM with rfl | rfl
   ·rw[aO];exact n3
   ·rw[ag];exact TW
  ·simp only[execOp,aK,aO,ag,fy,aU (),Option.bind_some,al,e4]
 unfold dZ at h
 split at h
 ·rename_i k a b5 b o aa
  have aU:∀u:Unit,dz P (eqGuard op t x y (.int k a) (.int b5 b))=some ():=fun _=>by unfold eqGuard;split<;>rfl
  split at h
  ·rename_i b8
   obtain⟨a1,a3⟩:=PW (P:=P) (b5:=b5) b8 h t
   exact key o aa rfl rfl aU a1 a3
  ·split at h
   ·rename_i aj
    subst aj
    obtain⟨a1,a3⟩:=PV (P:=P) h t
    exact key o aa rfl rfl aU a1 a3
   ·cases h
 ·rename_i a b o aa
  obtain⟨a1,a3⟩:=PX (P:=P) h t
  exact key o aa rfl rfl (fun _=>by unfold eqGuard;split<;>rfl) a1 a3
 ·rename_i a b o aa
  split at h
  ·rename_i hu
   have hu:=P3 hu
   have aU:∀u:Unit,dz P (eqGuard op t x y (.bool a) (.bool b))=some ():=fun _=>by unfold eqGuard;split<;>rfl
   have he:dz P (Op.equal t (.bool a) (.bool b))=some (a==b):=Y8 9999 hu
   split at h
   ·obtain rfl:=Option.some.inj h
    exact key o aa rfl rfl aU (by simp only[binOp,fy,he,Option.bind_some,e4]) rfl
   ·obtain rfl:=Option.some.inj h
    exact key o aa rfl rfl aU (by simp only[binOp,fy,he,Option.bind_some,e4]) rfl
   ·cases h
  ·cases h
 ·rename_i a n c o aa
  split at h
  ·rename_i e hu
   have hu:=Fy hu
   split at h
   ·obtain rfl:=Option.some.inj h
    exact .Jo aK hu o aa
   ·obtain rfl:=Option.some.inj h
    exact .Nc aK hu o aa
   ·cases h
  ·cases h
 ·cases h
theorem aat{op:UnOp}{t:TypeId}{x:Operand}{v:Value}(aK:R.op= .unOp op t x)(h:pb op (aJ x)=some v):hy P aJ R v:=by
 have key:∀{a:Value},aJ x=a->flat a=true->dz P (Op.unary op a)=some v->flat v=true->hy P aJ R v:=by
  intro a aO n3 al an
  refine .pure (by simp[bR,aK]) (pz fun z aM=>?_) an ?_
  ·simp only[aK,Op.operands,List.mem_toArray,List.mem_cons,List.not_mem_nil,or_false]at aM
   subst aM
   rw[aO];exact n3
  ·simp only[execOp,aK,aO,fy,al,Option.bind_some,e4]
 unfold pb at h
 split at h
 ·rename_i k n o
  obtain rfl:=Option.some.inj h
  exact key o rfl (by simp[Op.unary,Op.intArith,e4]) rfl
 ·rename_i k n o
  obtain rfl:=Option.some.inj h
  exact key o rfl (by simp[Op.unary,Op.intBits,e4]) rfl
 ·rename_i b o
  obtain rfl:=Option.some.inj h
  exact key o rfl (by simp[Op.unary,e4]) rfl
 ·cases h
end
def iG(H:ab)(b:Nat):Option (List Value):=(H[b]?).bind bI.cells?
def fL(P:Program)(s:TypeId)(f:Nat):Option Nat:=match P.underlying s with
 | some (.struct jO)=>(match jO[f]? with
  | some fd=>(match bq P fd.type with
   | some (_+1)=>some fd.offset
   | _=>none)
  | none=>none)
 | _=>none
theorem RG{P:Program}{s:TypeId}{f off:Nat}(h:fL P s f=some off):∃jO fd n,P.underlying s=some (.struct jO)/\jO[f]?=some fd/\bq P fd.type=some (n+1)/\fd.offset=off:=by
 unfold fL at h
 split at h
 ·rename_i jO hu
  split at h
  ·rename_i fd ay
   split at h
   ·rename_i n ao
    exact⟨jO,fd,n,hu,ay,ao,by simpa using h⟩
   ·cases h
  ·cases h
 ·cases h
def oL(P:Program)(s:TypeId)(f:Nat):Option (Nat×Option Nat):=match P.underlying s with
 | some (.struct jO)=>(match jO[f]? with
  | some fd=>(match ds P fd.type with
   | some false=>some (fd.offset,none)
   | some true=>(bq P fd.type).map fun n=>(fd.offset,some n)
   | none=>none)
  | none=>none)
 | _=>none
def pv(cs:Array Value):Nat×Option Nat->Option Value
 | (off,none)=>cs[off]?
 | (off,some n)=>some (.agg (cs.extract off (off+n)))
theorem o_{P:Program}{α β:Type}(x:Sem α)(f:α->β):dz P (f<$>x)=(dz P x).map f:=by
 rw[map_eq_pure_bind,fy]
 cases dz P x<;>rfl
theorem RF{P:Program}{s:TypeId}{f:Nat}{c:Nat×Option Nat}{cs:Array Value}{v:Value}(h:oL P s f=some c)(an:pv cs c=some v):dz P (Instr.field s (.agg cs) f)=some v:=by
 unfold oL at h
 split at h
 ·rename_i jO hu
  split at h
  ·rename_i fd ay
   simp only[Instr.field,fy,ot,hu,Option.bind_some,ay,asAgg,e4,part,NC]
   unfold ds at h
   cases aB:P.underlying fd.type with
   | none=>simp[aB]at h
   | some d=>
    simp only[aB,Option.map_some]at h⊢
    cases d<;>simp only at h<;>first
     | (obtain rfl:=Option.some.inj h
        simp only[pv]at an
        simp[an,e4]
        done)
     | (obtain⟨n,aG,rfl⟩:=Option.map_eq_some_iff.1 h
        simp only[pv,Option.some.injEq]at an
        subst an
        simp[o_,ya,aG])
  ·cases h
 ·cases h
def rC(P:Program)(aJ:Operand->Value)(H:ab):Callee->List Operand->List TypeId->Option (Value×ab)
 | .builtin .len,[x],[t]=>(match aJ x with
  | .slice _ n _=>(match fe P t with
   | some _=>some (.int .i64 n,H)
   | none=>none)
  | .string s=>if iw P t=true then some (.int .i64 s.size,H)else none
  | _=>none)
 | .builtin .max,[x,y],_=>(match aJ x,aJ y with
  | .int k a,.int _ b=>some (.int k (if b>a then b else a),H)
  | _,_=>none)
 | .builtin .min,[x,y],_=>(match aJ x,aJ y with
  | .int k a,.int _ b=>some (.int k (if b<a then b else a),H)
  | _,_=>none)
 | _,_,_=>none
def b3(P:Program)(aJ:Operand->Value)(H:ab):Op->Option (Value×ab)
 | .move x=>some (aJ x,H)
 | .assign x=>some (aJ x,H)
 | .pick c a b=>(match aJ c with
  | .bool t=>some (if t then aJ a else aJ b,H)
  | _=>none)
 | .alloc e=>(match dA P e with
  | some z=>if flat z=true/\(bq P e).isSome=true then some (.pointer (some ⟨H.length,0,none⟩),H++[.own e false z.cells.toList])else none
  | none=>none)
 | .box e x=>if(bq P e).isSome=true then some (.pointer (some ⟨H.length,0,none⟩),H++[.own e false (aJ x).cells.toList])else none
 | .load ty x=>(match aJ x with
  | .pointer (some ⟨b,i,none⟩)=>(match iG H b with
   | some cs=>(match ds P ty with
    | some false=>(cs[i]?).map fun v=>(v,H)
    | some true=>(match bq P ty with
     | some n=>if i+n<=cs.length then some (.agg ((cs.drop i).take n).toArray,H)else none
     | none=>none)
    | none=>none)
   | none=>none)
  | _=>none)
 | .store ty x y=>(match aJ x with
  | .pointer (some ⟨b,i,none⟩)=>(match H[b]? with
   | some (.own e l cs)=>if bq P ty=some (aJ y).cells.size/\i+(aJ y).cells.size<=cs.length/\((aJ y).cells.toList.all (·.oneCell'))=true then some (undef,H.set b (.own e l (db cs i (aJ y).cells.toList)))else none
   | _=>none)
  | _=>none)
 | .nilCheck x=>(match aJ x with
  | .pointer (some a)=>some (.pointer (some a),H)
  | _=>none)
 | .binOp op t x y _=>(dZ P op t (aJ x) (aJ y)).map fun v=>(v,H)
 | .unOp op _ x=>(pb op (aJ x)).map fun v=>(v,H)
 | .convert src dst x=>(match aJ x with
  | .int _ n=>(match j0 P src,j0 P dst with
   | some _,some k=>some (.int k (k.wrap n),H)
   | _,_=>none)
  | .string s=>if iw P src=true/\iw P dst=true then some (.string s,H)else none
  | _=>none)
 | .makeInterface t x=>if P.concrete t=true then some (.iface t (aJ x),H)else none
 | .makeFunc fn a b=>some (.func fn (a.map aJ) (b.map aJ),H)
 | .fieldAddr s x f=>(match aJ x with
  | .pointer (some ⟨b,i,none⟩)=>(fL P s f).map fun off=>(.pointer (some ⟨b,i+off,none⟩),H)
  | _=>none)
 | .field t x f=>(match aJ x with
  | .agg cs=>(match oL P t f with
   | some c=>(pv cs c).map fun v=>(v,H)
   | none=>none)
  | _=>none)
 | .indexAddr t x en=>(match aJ x,aJ en with
  | .slice (some ⟨b,i,none⟩) len _,.int _ n=>(match fe P t with
   | some e=>(match bq P e with
    | some U=>if 0<=n/\n<len then some (.pointer (some ⟨b,i+n.toNat*U,none⟩),H)else none
    | none=>none)
   | none=>none)
  | _,_=>none)
 | .index t x en=>(match aJ x,aJ en with
  | .string s,.int _ n=>if iw P t=true/\0<=n/\n<s.size then some (.int .u8 ((s.data.getD n.toNat 0).toNat:Int),H)else none
  | _,_=>none)
 | .extract x i=>(match aJ x with
  | .tuple aD=>(aD[i]?).map fun v=>(v,H)
  | _=>none)
 | .build t aW=>(match dA P t with
  | some z=>if flat z=true then(dz P (Instr.build t (aW.map fun p=>(p.1,aJ p.2)))).map fun v=>(v,H)else none
  | none=>none)
 | .call c=>rC P aJ H c.callee c.args.toList c.argTypes.toList
 | .slice t x bb ae none=>(match aJ x with
  | .string s=>(match dO aJ bb,e2 aJ s.size ae with
   | some l,some h=>if iw P t=true/\l<=h/\h<=s.size then some (.string (s.extract l h),H)else none
   | _,_=>none)
  | _=>none)
 | _=>none
theorem y8{H:ab}{b:Nat}{cs:List Value}(h:iG H b=some cs):∃X,H[b]?=some X/\X.cells?=some cs:=by
 unfold iG at h
 cases ag:H[b]? with
 | none=>simp[ag]at h
 | some X=>exact⟨X,rfl,by simpa[ag]using h⟩
theorem xV{aJ:Operand->Value}{x:Operand}{n d:Nat}(h:dO aJ (some x)=some n\/e2 aJ d (some x)=some n):∃k m,aJ x= .int k m/\0<=m/\m.toNat=n:=by
 simp only[dO,e2,or_self]at h
 split at h
 ·rename_i k m he
  split at h
  ·rename_i aH;exact⟨k,m,he,aH,by simpa using h⟩
  ·cases h
 ·cases h
theorem A4{P:Program}{k:IntKind}{n:Int}{y:Nat}{code:BoundsCode}(aH:0<=n)(o:n.toNat<=y):dz P (Instr.sliceBound (.int k n) y code)=some n.toNat:=by
 have:n<=(y:Int):=by omega
 simp only[Instr.sliceBound,asIntOf,fy,e4,Option.bind_some]
 rw[if_pos ⟨aH,this⟩]
 rfl
theorem yp{P:Program}{ops:Array Oper}{R:Oper}{t:List Value}{H H1:ab}{v:Value}(hw:Region.wanted R (gS ops t)=true)(h:b3 P (fa t) H R.op=some (v,H1)):dX P (.op ops R t H) (.val v H1):=by
 have F:bR P R=true->hy P (fa t) R v->H1=H->dX P (.op ops R t H) (.val v H1):=fun ay a5 e=>e▸ .vd hw ay a5
 have M:bR P R=false->e9 P (fa t) H R v H1->dX P (.op ops R t H) (.val v H1):=fun ay jb=> .rq hw ay jb
 cases b8:R.op<;>rw[b8]at h<;>try (simp[b3]at h;done)
 case move x=>simp only[b3,Option.some.injEq,Prod.mk.injEq]at h;obtain⟨rfl,rfl⟩:=h;exact F (by simp[bR,b8]) (.move b8) rfl
 case assign x=>simp only[b3,Option.some.injEq,Prod.mk.injEq]at h;obtain⟨rfl,rfl⟩:=h;exact F (by simp[bR,b8]) (.assign b8) rfl
 case pick c a b=>
  simp only[b3]at h
  split at h
  ·rename_i qf ad
   simp only[Option.some.injEq,Prod.mk.injEq]at h
   obtain⟨rfl,rfl⟩:=h
   exact F (by simp[bR,b8]) (.pick b8 ad) rfl
  ·cases h
 case alloc e=>
  simp only[b3]at h
  split at h
  ·rename_i z aM
   split at h
   ·rename_i ad
    simp only[Option.some.injEq,Prod.mk.injEq]at h
    obtain⟨rfl,rfl⟩:=h
    obtain⟨n,aG⟩:=Option.isSome_iff_exists.1 ad.2
    exact M (by simp[bR,b8]) (.alloc b8 aM ad.1 aG)
   ·cases h
  ·cases h
 case box e x=>
  simp only[b3]at h
  split at h
  ·rename_i ad
   simp only[Option.some.injEq,Prod.mk.injEq]at h
   obtain⟨rfl,rfl⟩:=h
   obtain⟨n,aG⟩:=Option.isSome_iff_exists.1 ad
   exact M (by simp[bR,b8]) (.box b8 aG)
  ·cases h
 case load ty x=>
  simp only[b3]at h
  split at h
  ·rename_i b i J
   split at h
   ·rename_i cs gb
    obtain⟨X,aQ,ad⟩:=y8 gb
    split at h
    ·rename_i aO
     obtain⟨u,hu,he⟩:=Option.map_eq_some_iff.1 h
     simp only[Prod.mk.injEq]at he
     obtain⟨rfl,rfl⟩:=he
     exact M (by simp[bR,b8]) (.xW b8 aO J aQ ad hu)
    ·rename_i aO
     split at h
     ·rename_i n aG
      split at h
      ·rename_i bw
       simp only[Option.some.injEq,Prod.mk.injEq]at h
       obtain⟨rfl,rfl⟩:=h
       exact M (by simp[bR,b8]) (.xX b8 aO aG J aQ ad bw)
      ·cases h
     ·cases h
    ·cases h
   ·cases h
  ·cases h
 case store ty x y=>
  simp only[b3]at h
  split at h
  ·rename_i b i J
   split at h
   ·rename_i e l cs aQ
    split at h
    ·rename_i ad
     simp only[Option.some.injEq,Prod.mk.injEq]at h
     obtain⟨rfl,rfl⟩:=h
     exact M (by simp[bR,b8]) (.store b8 ad.1 J aQ ad.2.1 ad.2.2)
    ·cases h
   ·cases h
  ·cases h
 case nilCheck x=>
  simp only[b3]at h
  split at h
  ·rename_i a J
   simp only[Option.some.injEq,Prod.mk.injEq]at h
   obtain⟨rfl,rfl⟩:=h
   exact F (by simp[bR,b8]) (J▸ .nilCheck b8 J) rfl
  ·cases h
 case binOp op ty x y pf=>
  simp only[b3]at h
  obtain⟨u,hu,he⟩:=Option.map_eq_some_iff.1 h
  simp only[Prod.mk.injEq]at he
  obtain⟨rfl,rfl⟩:=he
  exact F (by simp[bR,b8]) (ZR b8 hu) rfl
 case unOp op ty x=>
  simp only[b3]at h
  obtain⟨u,hu,he⟩:=Option.map_eq_some_iff.1 h
  simp only[Prod.mk.injEq]at he
  obtain⟨rfl,rfl⟩:=he
  exact F (by simp[bR,b8]) (aat b8 hu) rfl
 case convert src dst x=>
  simp only[b3]at h
  split at h
  ·rename_i jF n J
   split at h
   ·rename_i jl k ao aB
    simp only[Option.some.injEq,Prod.mk.injEq]at h
    obtain⟨rfl,rfl⟩:=h
    have KX:bR P R=true:=by simp[bR,b8,MA ao,MA aB]
    refine F KX (.pure KX (pz fun z aM=>?_) rfl ?_) rfl
    ·simp only[b8,Op.operands,List.mem_toArray,List.mem_cons,List.not_mem_nil,or_false]at aM
     subst aM
     rw[J];rfl
    ·simp only[execOp,b8,J,fy,convert,ot,MB ao,MB aB,Option.bind_some,Conv.intToInt,e4]
   ·cases h
  ·rename_i s J
   split at h
   ·rename_i ad
    simp only[Option.some.injEq,Prod.mk.injEq]at h
    obtain⟨rfl,rfl⟩:=h
    refine M (by simp[bR,b8,rk,vp ad.1]) (.s7 (by simp[b8]) (pz fun z aM=>?_) rfl ?_)
    ·simp only[b8,Op.operands,List.mem_toArray,List.mem_cons,List.not_mem_nil,or_false]at aM
     subst aM
     rw[J];rfl
    ·simp only[execOp,b8,J,fy,convert,ot,vp ad.1,vp ad.2,Option.bind_some,e4]
   ·cases h
  ·cases h
 case makeInterface ty x=>
  simp only[b3]at h
  split at h
  ·rename_i ad
   simp only[Option.some.injEq,Prod.mk.injEq]at h
   obtain⟨rfl,rfl⟩:=h
   exact F (by simp[bR,b8]) (.M0 b8 ad) rfl
  ·cases h
 case makeFunc fn a b=>simp only[b3,Option.some.injEq,Prod.mk.injEq]at h;obtain⟨rfl,rfl⟩:=h;exact F (by simp[bR,b8]) (.makeFunc b8) rfl
 case fieldAddr s x f=>
  simp only[b3]at h
  split at h
  ·rename_i b i J
   obtain⟨off,UN,he⟩:=Option.map_eq_some_iff.1 h
   simp only[Prod.mk.injEq]at he
   obtain⟨rfl,rfl⟩:=he
   obtain⟨jO,fd,n,a1,a3,bG,rfl⟩:=RG UN
   exact F (by simp[bR,b8]) (.fieldAddr b8 a1 a3 bG J) rfl
  ·cases h
 case field ty x f=>
  simp only[b3]at h
  split at h
  ·rename_i cs J
   split at h
   ·rename_i c ad
    obtain⟨u,hu,he⟩:=Option.map_eq_some_iff.1 h
    simp only[Prod.mk.injEq]at he
    obtain⟨rfl,rfl⟩:=he
    exact F (by simp[bR,b8]) (.field b8 J (RF ad hu)) rfl
   ·cases h
  ·cases h
 case indexAddr ty x en=>
  simp only[b3]at h
  split at h
  ·rename_i b i len cap k n J ae
   split at h
   ·rename_i e he
    split at h
    ·rename_i U ao
     split at h
     ·rename_i ad
      simp only[Option.some.injEq,Prod.mk.injEq]at h
      obtain⟨rfl,rfl⟩:=h
      exact F (by simp[bR,b8]) (.Mz b8 (Fy he) ao J ae ad.1 ad.2) rfl
     ·cases h
    ·cases h
   ·cases h
  ·cases h
 case index ty x en=>
  simp only[b3]at h
  split at h
  ·rename_i s k n J ae
   split at h
   ·rename_i ad
    simp only[Option.some.injEq,Prod.mk.injEq]at h
    obtain⟨rfl,rfl⟩:=h
    refine F (by simp[bR,b8]) (.pure (by simp[bR,b8]) (pz fun z aM=>?_) rfl ?_) rfl
    ·simp only[b8,Op.operands,List.mem_toArray,List.mem_cons,List.not_mem_nil,or_false]at aM
     rcases aM with rfl | rfl
     ·rw[J];rfl
     ·rw[ae];rfl
    ·have a6:n.toNat<s.size:=by omega
     have bk:s[n.toNat]?=some (s.data.getD n.toNat 0):=by
      have:s[n.toNat]?=some s[n.toNat]:=by simp[a6]
      rw[this]
      have jB:n.toNat<s.data.size:=a6
      simp only[Array.getD_eq_getD_getElem?,Array.getElem?_eq_getElem jB,Option.getD_some]
      rfl
     simp only[execOp,b8,J,ae,fy,Instr.index,asIntOf,e4,Option.bind_some,ot,vp ad.1,if_pos ad.2.1,bk]
   ·cases h
  ·cases h
 case extract x i=>
  simp only[b3]at h
  split at h
  ·rename_i aD J
   obtain⟨u,hu,he⟩:=Option.map_eq_some_iff.1 h
   simp only[Prod.mk.injEq]at he
   obtain⟨rfl,rfl⟩:=he
   exact F (by simp[bR,b8]) (.extract b8 J hu) rfl
  ·cases h
 case build ty aW=>
  simp only[b3]at h
  split at h
  ·rename_i z aM
   split at h
   ·rename_i ay
    obtain⟨u,hu,he⟩:=Option.map_eq_some_iff.1 h
    simp only[Prod.mk.injEq]at he
    obtain⟨rfl,rfl⟩:=he
    exact F (by simp[bR,b8]) (.build b8 aM ay hu) rfl
   ·cases h
  ·cases h
 case slice ty x bb ae fk=>
  cases fk with
  | some m=>simp only[b3]at h;cases h
  | none=>
   simp only[b3]at h
   split at h
   ·rename_i s J
    split at h
    ·rename_i l cV ar hQ
     split at h
     ·rename_i ad
      simp only[Option.some.injEq,Prod.mk.injEq]at h
      obtain⟨rfl,rfl⟩:=h
      refine M (by simp[bR,b8]) (.s7 (by simp[b8]) (pz fun z aM=>?_) rfl ?_)
      ·simp only[b8,Op.operands]at aM
       have aM:z=x\/bb=some z\/ae=some z:=by
        cases bb<;>cases ae<;>simp at aM⊢<;>first | (rcases aM with rfl | rfl | rfl<;>simp;done) | (rcases aM with rfl | rfl<;>simp;done) | (subst aM;simp;done) | (rcases aM with rfl | aM)<;>first | (rcases aM with rfl | rfl<;>simp;done) | (subst aM;simp;done) | (simp;done) | skip
       rcases aM with rfl | rfl | rfl
       ·rw[J];rfl
       ·obtain⟨k,m,e,-⟩:=xV (d:=0) (.inl ar);rw[e];rfl
       ·obtain⟨k,m,e,-⟩:=xV (.inr hQ);rw[e];rfl
      ·have ag:dz P (Instr.sliceBounds false s.size s.size (bb.map (fa t)) (ae.map (fa t)) none)=some (l,cV,s.size):=by
        unfold Instr.sliceBounds
        cases ae with
        | none=>
         have:s.size=cV:=by simpa[e2]using hQ
         subst this
         cases bb with
         | none=>
          have:0=l:=by simpa[dO]using ar
          subst this
          simp[fy,e4]
         | some y=>
          obtain⟨k,m,e,aH,rfl⟩:=xV (d:=0) (.inl ar)
          simp[e,fy,o_,e4,A4 (P:=P) (k:=k) aH ad.2.1]
        | some z=>
         obtain⟨b5,mz,cP,qK,rfl⟩:=xV (.inr hQ)
         cases bb with
         | none=>
          have:0=l:=by simpa[dO]using ar
          subst this
          simp[cP,fy,o_,e4,A4 (P:=P) (k:=b5) qK ad.2.2]
         | some y=>
          obtain⟨k,m,e,aH,rfl⟩:=xV (d:=0) (.inl ar)
          simp[e,cP,fy,o_,e4,A4 (P:=P) (k:=b5) qK ad.2.2,A4 (P:=P) (k:=k) aH ad.2.1]
       simp only[execOp,b8,J,fy,Instr.sliceAt,Instr.slice,ot,vp ad.1,Option.bind_some,Option.map_none]
       simp[ag,fy,o_,e4]
     ·cases h
    ·cases h
   ·cases h
 case call c=>
  obtain⟨callee,args,kU⟩:=c
  simp only[b3]at h
  unfold rC at h
  split at h
  ·rename_i x ty ss Tu
   obtain rfl:args= #[x]:=by apply Array.ext';simpa using ss
   obtain rfl:kU= #[ty]:=by apply Array.ext';simpa using Tu
   split at h
   ·rename_i a n eE J
    split at h
    ·rename_i e he
     simp only[Option.some.injEq,Prod.mk.injEq]at h
     obtain⟨rfl,rfl⟩:=h
     exact F (by simp[bR,b8]) (.MM b8 (Fy he) J) rfl
    ·cases h
   ·rename_i s J
    split at h
    ·rename_i ao
     simp only[Option.some.injEq,Prod.mk.injEq]at h
     obtain⟨rfl,rfl⟩:=h
     refine F (by simp[bR,b8]) (.pure (by simp[bR,b8]) (pz fun z aM=>?_) rfl ?_) rfl
     ·simp[b8,Op.operands,Call.operands]at aM
      subst aM;rw[J];rfl
     ·simp[execOp,b8,resolve,J,invoke,builtin,Builtin.len_,fy,o_,e4,ot,vp ao,goInt]
    ·cases h
   ·cases h
  ·rename_i x y ss
   obtain rfl:args= #[x,y]:=by apply Array.ext';simpa using ss
   split at h
   ·rename_i k a b5 b J aL
    simp only[Option.some.injEq,Prod.mk.injEq]at h
    obtain⟨rfl,rfl⟩:=h
    refine F (by simp[bR,b8]) (.pure (by simp[bR,b8]) (pz fun z aM=>?_) rfl ?_) rfl
    ·simp[b8,Op.operands,Call.operands]at aM
     rcases aM with rfl | rfl
     ·rw[J];rfl
     ·rw[aL];rfl
    ·simp[execOp,b8,resolve,J,aL,invoke,builtin,Builtin.max_,Builtin.max2,fy,o_,e4]
   ·cases h
  ·rename_i x y ss
   obtain rfl:args= #[x,y]:=by apply Array.ext';simpa using ss
   split at h
   ·rename_i k a b5 b J aL
    simp only[Option.some.injEq,Prod.mk.injEq]at h
    obtain⟨rfl,rfl⟩:=h
    refine F (by simp[bR,b8]) (.pure (by simp[bR,b8]) (pz fun z aM=>?_) rfl ?_) rfl
    ·simp[b8,Op.operands,Call.operands]at aM
     rcases aM with rfl | rfl
     ·rw[J];rfl
     ·rw[aL];rfl
    ·simp[execOp,b8,resolve,J,aL,invoke,builtin,Builtin.min_,Builtin.min2,fy,o_,e4]
   ·cases h
  ·cases h
def gt(t:List Value)(i:Nat):Value:=t.getD i undef
theorem RT{t:List Value}{i:Nat}(v:Value)(h:i<t.length):gt (t.set i v) i=v:=by simp[gt,List.getD_eq_getElem?_getD,h]
theorem RS{t:List Value}{i j:Nat}(v:Value)(h:i≠j):gt (t.set i v) j=gt t j:=by simp[gt,List.getD_eq_getElem?_getD,List.getElem?_set,h]
theorem RU(t:List Value)(i j:Nat)(v:Value):gt (t.set i v) j=if i=j then(if i<t.length then v else gt t j)else gt t j:=by
 by_cases h:i=j
 ·subst h
  rw[if_pos rfl]
  split
  ·rename_i ar;exact RT v ar
  ·rename_i ar;simp[gt,List.getD_eq_getElem?_getD,ar]
 ·rw[if_neg h];exact RS v h
def hg:Value->Option Bool
 | .bool b=>some b
 | _=>none
theorem Ok(ops:Array Oper)(t:List Value)(j:Nat):gS ops t j=match(ops[j]?).bind (·.dst)with | some d=>hg (gt t d) | none=>none:=by
 unfold gS
 cases(ops[j]?).bind (·.dst)with
 | none=>rfl
 | some d=>
  simp only[Option.bind_some]
  by_cases h: @LT.lt Nat _ d t.length
  ·rw[bJ h]
   simp only[gt,List.getD_eq_getElem?_getD,bJ h,Option.getD_some]
   unfold hg
   cases t[d]<;>rfl
  ·rw[List.getElem?_eq_none (Nat.le_of_not_lt h)]
   simp only[gt,List.getD_eq_getElem?_getD,List.getElem?_eq_none (Nat.le_of_not_lt h),Option.getD_none]
   rfl
def yI(P:Program)(g:FuncId):Prop:=∃fn,P.funcs[g]?=some fn/\(fn.name== "runtime.NumGoroutine")=false/\fn.body.isSome=true
def Pu(P:Program)(f:FuncId)(args:List Value)(v:Value):Prop:=args.all g5=true/\flat v=true/\dz P (callFunc f args.toArray)=some (.value v)
def aP(P:Program)(f:FuncId)(args:List Value)(H:ab)(Q:Value->ab->Prop):Prop:=∃v H1,((yI P f/\dX P (.call f args H) (.val v H1))\/(Pu P f args v/\H1=H))/\Q v H1
def BQ(P:Program)(c:Code)(t:List Value)(H:ab)(Q:dH->List Value->ab->Prop):Prop:=∃e t1 H1,dX P (.code c t H) (.code e t1 H1)/\Q e t1 H1
theorem aP.mono{P:Program}{f:FuncId}{args:List Value}{H:ab}{Q cd:Value->ab->Prop}(h:aP P f args H Q)(av:∀v H1,Q v H1->cd v H1):aP P f args H cd:=by
 obtain⟨v,H1,al,an⟩:=h
 exact⟨v,H1,al,av _ _ an⟩
def hH:Op->Bool
 | .store .. =>true
 | _=>false
def BS(P:Program)(ops:Array Oper)(draw:Bool)(k:Nat)(s:Bool):Prop:=draw=true->s=true->eD P ops k=true
def yJ(P:Program)(ops:Array Oper)(draw:Bool)(k:Nat)(H H1:ab):Prop:=draw=true->eD P ops k=true\/Ext H H1
def vN(P:Program)(ops:Array Oper)(draw:Bool)(k:Nat)(R:Oper)(t:List Value)(H:ab)(K:List Value->ab->Prop):Op->Prop
 | .call {callee:= .value f,args,.. }=>(match fa t f with
  | .func (.func g) first cap=>aP P g (first.toList++args.toList.map (fa t)++cap.toList) H fun v H1=>yJ P ops draw k H H1/\K (e6 t R.dst v) H1
  | _=>False)
 | op=>(match b3 P (fa t) H op with
  | some (v,H1)=>BS P ops draw k (hH op)/\K (e6 t R.dst v) H1
  | none=>∃v H1,bR P R=false/\e9 P (fa t) H R v H1/\yJ P ops draw k H H1/\K (e6 t R.dst v) H1)
def oE(P:Program)(ops:Array Oper)(draw:Bool):Nat->List Oper->List Value->ab->(List Value->ab->Prop)->Prop
 | _,[],t,H,Q=>Q t H
 | k,R::rest,t,H,Q=>if Region.wanted R (gS ops t)=true then vN P ops draw k R t H (fun t1 H1=>oE P ops draw (k+1) rest t1 H1 Q) R.op else oE P ops draw (k+1) rest (e6 t R.dst undef) H Q
def lV(P:Program)(K:List Value->ab->Prop)(Q:dH->List Value->ab->Prop):dH->List Value->ab->Prop
 | .normal,t,H=>K t H
 | e,t,H=>Q e t H
def Cb(id:Nat)(Q:dH->List Value->ab->Prop):dH->List Value->ab->Prop
 | .exit hG,t,H=>if hG=id then Q .normal t H else Q (.exit hG) t H
 | e,t,H=>Q e t H
def gG(P:Program)(R:Bool)(aJ:Operand->Value)(H:ab)(af W:List Nat)(K:Value->ab->List Nat->List Nat->Prop):Op->Prop
 | .load ty x=>(match aJ x with
  | .pointer (some ⟨b,_,none⟩)=>b∉W/\(match b3 P aJ H (.load ty x)with | some (v,H1)=>K v H1 (b::af) W | none=>False)
  | _=>False)
 | .store ty x y=>(match aJ x with
  | .pointer (some ⟨b,_,none⟩)=>(R=true\/(b∉W/\b∉af))/\(match b3 P aJ H (.store ty x y)with | some (v,H1)=>K v H1 af (if R=true then W else b::W) | none=>False)
  | _=>False)
 | op=>(match b3 P aJ H op with | some (v,H1)=>K v H1 af W | none=>False)
def EI(P:Program)(ops:Array Oper):Bool:=ops.all fun R=>bR P R || (match R.op with | .load .. =>true | .store .. =>true | _=>false)
def oD(P:Program)(ops:Array Oper):Nat->List Oper->List Value->ab->List Nat->List Nat->(List Value->ab->Prop)->Prop
 | _,[],t,H,_,_,Q=>Q t H
 | k,R::rest,t,H,af,W,Q=>if Region.wanted R (gS ops t)=true then gG P (eD P ops k) (fa t) H af W (fun v H1 fi fD=>oD P ops (k+1) rest (e6 t R.dst v) H1 fi fD Q) R.op else oD P ops (k+1) rest (e6 t R.dst undef) H af W Q
def zb(ops:Array Oper):Bool:=ops.all fun R=>R.op.operands.all nk
def kP(P:Program):Code->List Value->ab->(dH->List Value->ab->Prop)->Prop
 | .skip,t,H,Q=>Q .normal t H
 | .ret,t,H,Q=>Q .ret t H
 | .exit id,t,H,Q=>Q (.exit id) t H
 | .seq a b,t,H,Q=>kP P a t H (lV P (fun t1 H1=>kP P b t1 H1 Q) Q)
 | .cond c x y,t,H,Q=>nk c=true/\(match fa t c with
  | .bool b=>if b=true then kP P x t H Q else kP P y t H Q
  | _=>False)
 | .block id c,t,H,Q=>kP P c t H (Cb id Q)
 | .loop c,t,H,Q=>BQ P (.loop c) t H Q
 | .region id ops draw,t,H,Q=>(zb ops=true/\(draw=true->gD ops=true)/\oE P ops draw 0 ops.toList t H (fun t1 H1=>Q .normal t1 H1))\/(zb ops=true/\gD ops=true/\EI P ops=true/\oD P ops 0 ops.toList t H [] [] (fun t1 H1=>Q .normal t1 H1))
 | _,_,_,_=>False
section
variable {P:Program}
theorem aad{aJ:Operand->Value}{H H1:ab}{op:Op}{v:Value}(h:b3 P aJ H op=some (v,H1))(ao:hH op=false):Ext H H1:=by
 have same:H1=H->Ext H H1:=fun e=>e▸Ext.refl H
 have one:∀{e:TypeId} {l:Bool} {cs:List Value},H1=H++[.own e l cs]->Ext H H1:=fun{e l cs} he=>⟨[.own e l cs],he,fun x J cP eA=>by simp at J;subst J;simp⟩
 cases op<;>simp only[b3]at h<;>try (first | (simp at h;done) | (cases ao;done))
 case move=>simp at h;exact same h.2.symm
 case assign=>simp at h;exact same h.2.symm
 case pick=>split at h<;>simp at h;exact same h.2.symm
 case alloc=>
  split at h
  ·split at h
   ·simp at h;exact one h.2.symm
   ·cases h
  ·cases h
 case box=>
  split at h
  ·simp at h;exact one h.2.symm
  ·cases h
 case load=>
  split at h
  ·split at h
   ·split at h
    ·obtain⟨u,hu,he⟩:=Option.map_eq_some_iff.1 h;simp at he;exact same he.2.symm
    ·split at h
     ·split at h
      ·simp at h;exact same h.2.symm
      ·cases h
     ·cases h
    ·cases h
   ·cases h
  ·cases h
 case nilCheck=>split at h<;>simp at h;exact same h.2.symm
 case binOp=>obtain⟨u,hu,he⟩:=Option.map_eq_some_iff.1 h;simp at he;exact same he.2.symm
 case unOp=>obtain⟨u,hu,he⟩:=Option.map_eq_some_iff.1 h;simp at he;exact same he.2.symm
 case convert=>
  split at h
  ·split at h<;>simp at h;exact same h.2.symm
  ·split at h<;>simp at h;exact same h.2.symm
  ·cases h
 case makeInterface=>split at h<;>simp at h;exact same h.2.symm
 case makeFunc=>simp at h;exact same h.2.symm
 case fieldAddr=>
  split at h
  ·obtain⟨u,hu,he⟩:=Option.map_eq_some_iff.1 h;simp at he;exact same he.2.symm
  ·cases h
 case field=>
  split at h
  ·split at h
   ·obtain⟨u,hu,he⟩:=Option.map_eq_some_iff.1 h;simp at he;exact same he.2.symm
   ·cases h
  ·cases h
 case indexAddr=>
  split at h
  ·split at h
   ·split at h
    ·split at h<;>simp at h;exact same h.2.symm
    ·cases h
   ·cases h
  ·cases h
 case index=>split at h;(split at h<;>simp at h;exact same h.2.symm);cases h
 case extract=>
  split at h
  ·obtain⟨u,hu,he⟩:=Option.map_eq_some_iff.1 h;simp at he;exact same he.2.symm
  ·cases h
 case build=>
  split at h
  ·split at h
   ·obtain⟨u,hu,he⟩:=Option.map_eq_some_iff.1 h;simp at he;exact same he.2.symm
   ·cases h
  ·cases h
 case call c=>
  unfold rC at h
  split at h
  ·split at h
   ·split at h<;>simp at h;exact same h.2.symm
   ·split at h<;>simp at h;exact same h.2.symm
   ·cases h
  ·split at h<;>simp at h;exact same h.2.symm
  ·split at h<;>simp at h;exact same h.2.symm
  ·cases h
 case slice ty x bb ae fk=>
  cases fk with
  | some m=>simp at h
  | none=>
   simp only at h
   split at h
   ·split at h
    ·split at h<;>simp at h;exact same h.2.symm
    ·cases h
   ·cases h
theorem YS{ops:Array Oper}{draw:Bool}{k:Nat}{R:Oper}{t:List Value}{H:ab}{K:List Value->ab->Prop}(hw:Region.wanted R (gS ops t)=true)(h:vN P ops draw k R t H K R.op):
  ∃v H1,dX P (.op ops R t H) (.val v H1)/\(draw=true->bR P R=false->eD P ops k=true\/Ext H H1)/\K (e6 t R.dst v) H1:=by
 have other:(match b3 P (fa t) H R.op with
  | some (v,H1)=>BS P ops draw k (hH R.op)/\K (e6 t R.dst v) H1
  | none=>∃v H1,bR P R=false/\e9 P (fa t) H R v H1/\yJ P ops draw k H H1/\K (e6 t R.dst v) H1)->∃v H1,dX P (.op ops R t H) (.val v H1)/\(draw=true->bR P R=false->eD P ops k=true\/Ext H H1)/\K (e6 t R.dst v) H1:=by
  intro h
  split at h
  ·rename_i v H1 ao
   refine⟨v,H1,yp hw ao,fun aB _=>?_,h.2⟩
   cases c8:hH R.op with
   | true=>exact .inl (h.1 aB c8)
   | false=>exact .inr (aad ao c8)
  ·obtain⟨v,H1,ay,hm,he,a0⟩:=h
   exact⟨v,H1,.rq hw ay hm,fun aB _=>he aB,a0⟩
 cases b8:R.op<;>rw[b8]at h other<;>try (exact other h)
 rename_i c
 obtain⟨callee,args,kU⟩:=c
 cases callee with
 | invoke r m=>exact other h
 | builtin b=>exact other h
 | value f=>
  simp only[vN]at h
  split at h
  ·rename_i g first cap ay
   obtain⟨v,H1,⟨⟨fn,o,aa,aA⟩,al⟩ | ⟨⟨aO,an,aY⟩,rfl⟩,he,a0⟩:=h
   ·exact⟨v,H1,.vc hw (by simp[bR,b8]) b8 ay o aa aA al,fun aB _=>he aB,a0⟩
   ·refine⟨v,H1,.rq hw (by simp[bR,b8]) (.s7 (by simp[b8]) ?_ an ?_),fun aB _=>he aB,a0⟩
    ·simp only[List.all_append,Bool.and_eq_true,List.all_map]at aO
     have o:first.all g5=true:=by simpa using aO.1.1
     have aa:cap.all g5=true:=by simpa using aO.2
     have aA:∀x∈args,flat (fa t x)=true:=fun x J=>by
      have:=List.all_eq_true.1 aO.1.2 x (by simpa using J)
      simp only[Function.comp]at this
      simp[flat,this]
     simp only[b8,Op.operands,Call.operands]
     have aH:flat (fa t f)=true:=by rw[ay];simp[flat,o,aa]
     refine Array.all_eq_true'.2 fun x J=>?_
     rcases Array.mem_append.1 J with J | J
     ·simp at J;subst J;exact aH
     ·exact aA x J
    ·have:(first.toList++args.toList.map (fa t)++cap.toList).toArray=first++args.map (fa t)++cap:=by apply Array.ext';simp
     rw[this]at aY
     simp only[execOp,b8,resolve,ay,Deferred.ofValue,invoke]
     exact aY
  ·exact h.elim
theorem Nn{ops:Array Oper}{draw:Bool}{Q:List Value->ab->Prop}:∀(rest:List Oper) (k:Nat) (t:List Value) (H:ab),(∀i,rest[i]?=ops[k+i]?)->oE P ops draw k rest t H Q->
  ∃(T:Nat->List Value) (V:Nat->Value) (aZ:Nat->ab),T k=t/\aZ k=H/\(∀i R,k<=i->ops[i]?=some R->dX P (.op ops R (T i) (aZ i)) (.val (V i) (aZ (i+1)))/\T (i+1)=e6 (T i) R.dst (V i)/\(draw=true->bR P R=false->eD P ops i=true\/Ext (aZ i) (aZ (i+1))))/\
   Q (T (k+rest.length)) (aZ (k+rest.length))
 | [],k,t,H,al,h=>by
  refine⟨fun _=>t,fun _=>undef,fun _=>H,rfl,rfl,fun i R g8 aK=>?_,by simpa[oE]using h⟩
  have o:ops.size<=k:=by
   have:=al 0
   simp at this
   exact this
  have aa:=(Array.getElem?_eq_some_iff.1 aK).1
  omega
 | R::rest,k,t,H,al,h=>by
  have aK:ops[k]?=some R:=by have:=al 0;simpa using this.symm
  have fx:∀i,rest[i]?=ops[k+1+i]?:=fun i=>by have:=al (i+1);simp at this;rw[this];congr 1;omega
  obtain⟨v,H1,a1,a3,bG⟩:∃v H1,dX P (.op ops R t H) (.val v H1)/\(draw=true->bR P R=false->eD P ops k=true\/Ext H H1)/\oE P ops draw (k+1) rest (e6 t R.dst v) H1 Q:=by
   simp only[oE]at h
   split at h
   ·rename_i hw;exact YS hw h
   ·rename_i hw
    exact⟨undef,H,.s9 (by simpa using hw),fun _ _=> .inr (Ext.refl H),h⟩
  obtain⟨T,V,aZ,ed,fA,hV,lj⟩:=Nn rest (k+1) _ H1 fx bG
  refine⟨fun i=>if i<=k then t else T i,fun i=>if i<=k then v else V i,fun i=>if i<=k then H else aZ i,by simp,by simp,fun i kl g8 fp=>?_,?_⟩
  ·by_cases sx:i=k
   ·subst sx
    rw[aK]at fp
    obtain rfl:=Option.some.inj fp
    simp only[Nat.le_refl,if_true,show¬(i+1<=i) by omega,if_false,ed,fA]
    exact⟨a1,trivial,a3⟩
   ·simp only[show¬(i<=k) by omega,show¬(i+1<=k) by omega,if_false]
    exact hV i kl (by omega) fp
  ·have e:k+(R::rest).length=k+1+rest.length:=by simp;omega
   rw[e]
   simp only[show¬(k+1+rest.length<=k) by omega,if_false]
   exact lj
theorem Ob{ops:Array Oper}{R:Oper}{t:List Value}{H H1:ab}{v:Value}(hw:Region.wanted R (gS ops t)=true)(ay:bR P R=false)(ad:∀c,R.op≠ .call c)(h:b3 P (fa t) H R.op=some (v,H1)):e9 P (fa t) H R v H1:=by
 have al:=yp (ops:=ops) hw h
 cases al with
 | s9 q_=>rw[hw]at q_;cases q_
 | vd _ a5 _=>rw[ay]at a5;cases a5
 | rq _ _ hm=>exact hm
 | vc _ _ aK=>exact absurd aK (ad _)
theorem Yu{ops:Array Oper}{R:Oper}{t:List Value}{H:ab}{af W:List Nat}{K:Value->ab->List Nat->List Nat->Prop}(hw:Region.wanted R (gS ops t)=true)(ag:(bR P R || (match R.op with | .load .. =>true | .store .. =>true | _=>false))=true){Cd:Bool}(h:gG P Cd (fa t) H af W K R.op):
  ∃v H1 fi fD g,dX P (.op ops R t H) (.val v H1)/\oC P ops R t H v H1 g/\K v H1 fi fD/\((g=none/\fi=af/\fD=W)\/(∃b,g=some (b,none)/\b∉W/\fi=b::af/\fD=W)\/∃b x,g=some (b,some x)/\(Cd=true\/(b∉W/\b∉af))/\fi=af/\fD=if Cd=true then W else b::W):=by
 cases b8:R.op with
 | load ty x=>
  rw[b8]at h
  have ay:bR P R=false:=by simp[bR,b8]
  simp only[gG]at h
  split at h
  ·rename_i b i J
   obtain⟨Df,h⟩:=h
   split at h
   ·rename_i v H1 ao
    have m8:=ao
    simp only[b3,J]at ao
    cases gb:iG H b with
    | none=>rw[gb]at ao;cases ao
    | some cs=>
     obtain⟨X,aQ,Tm⟩:=y8 gb
     have Sb:H1=H:=by
      rw[gb]at ao
      simp only at ao
      split at ao
      ·obtain⟨u,hu,he⟩:=Option.map_eq_some_iff.1 ao;simp at he;exact he.2.symm
      ·split at ao
       ·split at ao
        ·simp at ao;exact ao.2.symm
        ·cases ao
       ·cases ao
      ·cases ao
     subst Sb
     have Ut:H1[b]?≠some .dead:=fun e=>by rw[aQ]at e;simp at e;subst e;simp[bI.cells?]at Tm
     refine⟨v,H1,b::af,W,some (b,none),yp hw (by rw[b8];exact m8),⟨hw,ay,(cK.1 aQ).1,Ut,rfl,fun aF sh=>?_⟩,h,.inr (.inl ⟨b,rfl,Df,rfl,rfl⟩)⟩
     refine Ob (ops:=ops) hw ay (by simp[b8]) ?_
     rw[b8]
     have:iG aF b=iG H1 b:=by unfold iG;rw[sh]
     rw[gb]at ao
     simp only[b3,J,this,gb,my]
     revert ao
     cases ds P ty with
     | none=>simp
     | some g=>
      cases g with
      | false=>
       simp only
       cases cs[i]?<;>simp
      | true=>
       simp only
       cases bq P ty with
       | none=>simp
       | some n=>
        simp only
        split<;>simp
   ·exact h.elim
  ·exact h.elim
 | store ty x y=>
  rw[b8]at h
  have ay:bR P R=false:=by simp[bR,b8]
  simp only[gG]at h
  split at h
  ·rename_i b i J
   obtain⟨Df,h⟩:=h
   split at h
   ·rename_i v H1 ao
    have m8:=ao
    simp only[b3,J]at ao
    split at ao
    ·rename_i e l cs aQ
     split at ao
     ·rename_i w0
      simp only[Option.some.injEq,Prod.mk.injEq]at ao
      obtain⟨rfl,rfl⟩:=ao
      refine⟨_,_,af,_,some (b,some (.own e l (db cs i (fa t y).cells.toList))),yp hw (by rw[b8];exact m8),⟨hw,ay,(cK.1 aQ).1,by rw[aQ];simp,rfl,fun aF sh=>?_⟩,h,.inr (.inr ⟨b,_,rfl,Df,rfl,rfl⟩)⟩
      refine Ob (ops:=ops) hw ay (by simp[b8]) ?_
      rw[b8]
      simp only[b3,J,sh,aQ,my]
      rw[if_pos w0]
     ·cases ao
    ·cases ao
   ·exact h.elim
  ·exact h.elim
 | _=>
  have a5:bR P R=true:=by simpa[b8]using ag
  rw[b8]at h
  simp only[gG]at h
  split at h
  ·rename_i v H1 ao
   have al:=yp (ops:=ops) hw (by rw[b8];exact ao)
   have CN:H1=H:=by
    cases al with
    | s9=>rfl
    | vd=>rfl
    | rq _ ay=>rw[a5]at ay;cases ay
    | vc _ ay=>rw[a5]at ay;cases ay
   exact⟨v,H1,af,W,none,al,⟨.inr a5,CN⟩,h,.inl ⟨rfl,rfl,rfl⟩⟩
  ·exact h.elim
theorem Nj{ops:Array Oper}{Q:List Value->ab->Prop}(jA:EI P ops=true):∀(rest:List Oper) (k:Nat) (t:List Value) (H:ab) (af W:List Nat),(∀i,rest[i]?=ops[k+i]?)->oD P ops k rest t H af W Q->
  ∃(T:Nat->List Value) (V:Nat->Value) (aZ:Nat->ab) (ee:Nat->Option (Nat×Option bI)),T k=t/\aZ k=H/\(∀i R,k<=i->ops[i]?=some R->dX P (.op ops R (T i) (aZ i)) (.val (V i) (aZ (i+1)))/\T (i+1)=e6 (T i) R.dst (V i)/\oC P ops R (T i) (aZ i) (V i) (aZ (i+1)) (ee i))/\
   (∀i b y,k<=i->ee i=some (b,y)->eD P ops i=true\/(b∉W/\(y≠none->b∉af)))/\(∀(i j:Nat) (b:Nat) (x:bI) (y:Option bI),k<=i->k<=j->ee i=some (b,some x)->ee j=some (b,y)->i≠j->eD P ops i=true\/eD P ops j=true)/\(∀j,k<=j->ops.size<=j->ee j=none)/\Q (T (k+rest.length)) (aZ (k+rest.length))
 | [],k,t,H,af,W,al,h=>by
  refine⟨fun _=>t,fun _=>undef,fun _=>H,fun _=>none,rfl,rfl,fun i R g8 aK=>?_,by simp,by simp,by simp,by simpa[oD]using h⟩
  have o:ops.size<=k:=by
   have:=al 0
   simp at this
   exact this
  have aa:=(Array.getElem?_eq_some_iff.1 aK).1
  omega
 | R::rest,k,t,H,af,W,al,h=>by
  have aK:ops[k]?=some R:=by have:=al 0;simpa using this.symm
  have je:=(Array.getElem?_eq_some_iff.1 aK).1
  have fx:∀i,rest[i]?=ops[k+1+i]?:=fun i=>by have:=al (i+1);simp at this;rw[this];congr 1;omega
  have DO:=Array.all_eq_true'.1 jA R (Array.mem_of_getElem? aK)
  obtain⟨v,H1,fi,fD,g,a1,a3,bG,cn⟩:∃v H1 fi fD g,dX P (.op ops R t H) (.val v H1)/\oC P ops R t H v H1 g/\oD P ops (k+1) rest (e6 t R.dst v) H1 fi fD Q/\((g=none/\fi=af/\fD=W)\/(∃b,g=some (b,none)/\b∉W/\fi=b::af/\fD=W)\/∃b x,g=some (b,some x)/\(eD P ops k=true\/(b∉W/\b∉af))/\fi=af/\fD=if eD P ops k=true then W else b::W):=by
   simp only[oD]at h
   split at h
   ·rename_i hw;exact Yu hw DO h
   ·rename_i hw
    have q_:Region.wanted R (gS ops t)=false:=by simpa using hw
    exact⟨undef,H,af,W,none,.s9 q_,⟨.inl q_,rfl⟩,h,.inl ⟨rfl,rfl,rfl⟩⟩
  obtain⟨T,V,aZ,ee,ed,fA,hV,Ba,Fi,Fj,lj⟩:=Nj jA rest (k+1) _ H1 fi fD fx bG
  have lQ:∀b,(b∈W->b∈fD)/\(b∈af->b∈fi):=by
   intro b
   rcases cn with⟨-,rfl,rfl⟩ | ⟨c,-,-,rfl,rfl⟩ | ⟨c,x,-,-,rfl,rfl⟩
   ·exact⟨id,id⟩
   ·exact⟨id,List.mem_cons_of_mem _⟩
   ·split
    ·exact⟨id,id⟩
    ·exact⟨List.mem_cons_of_mem _,id⟩
  refine⟨fun i=>if i<=k then t else T i,fun i=>if i<=k then v else V i,fun i=>if i<=k then H else aZ i,fun i=>if i<=k then g else ee i,by simp,by simp,fun i kl g8 fp=>?_,fun i b y g8 aU=>?_,fun i j b x y g8 uN jS jT cN=>?_,fun j o aa=>?_,?_⟩
  ·by_cases sx:i=k
   ·subst sx
    rw[aK]at fp
    obtain rfl:=Option.some.inj fp
    simp only[Nat.le_refl,if_true,show¬(i+1<=i) by omega,if_false,ed,fA]
    exact⟨a1,trivial,a3⟩
   ·simp only[show¬(i<=k) by omega,show¬(i+1<=k) by omega,if_false]
    exact hV i kl (by omega) fp
  ·by_cases sx:i=k
   ·subst sx
    simp only[Nat.le_refl,if_true]at aU
    rcases cn with⟨e,-⟩ | ⟨c,e,o,-⟩ | ⟨c,x,e,o,-⟩
    ·rw[e]at aU;cases aU
    ·rw[e]at aU;simp at aU;obtain⟨rfl,rfl⟩:=aU;exact .inr ⟨o,fun h=>absurd rfl h⟩
    ·rw[e]at aU;simp at aU;obtain⟨rfl,rfl⟩:=aU
     exact o.imp id fun q=>⟨q.1,fun _=>q.2⟩
   ·simp only[show¬(i<=k) by omega,if_false]at aU
    exact(Ba i b y (by omega) aU).imp id fun⟨o,aa⟩=>⟨fun ag=>o ((lQ b).1 ag),fun aL ag=>aa aL ((lQ b).2 ag)⟩
  ·by_cases sx:i=k
   ·subst sx
    simp only[Nat.le_refl,if_true,show¬(j<=i) by omega,if_false]at jS jT
    rcases Ba j b y (by omega) jT with aH | ⟨o,aa⟩
    ·exact .inr aH
    rcases cn with⟨e,-⟩ | ⟨d,e,-⟩ | ⟨d,z,e,-,-,rfl⟩
    ·rw[e]at jS;cases jS
    ·rw[e]at jS;simp at jS
    ·rw[e]at jS
     simp at jS
     obtain⟨rfl,rfl⟩:=jS
     cases mh:eD P ops i with
     | true=>exact .inl rfl
     | false=>rw[mh]at o;simp at o
   ·simp only[show¬(i<=k) by omega,if_false]at jS
    by_cases Ug:j=k
    ·subst Ug
     simp only[Nat.le_refl,if_true]at jT
     rcases Ba i b (some x) (by omega) jS with aH | ⟨o,aa⟩
     ·exact .inl aH
     rcases cn with⟨e,-⟩ | ⟨d,e,-,rfl,-⟩ | ⟨d,z,e,-,-,rfl⟩
     ·rw[e]at jT;cases jT
     ·rw[e]at jT
      simp at jT
      obtain⟨rfl,rfl⟩:=jT
      exact absurd List.mem_cons_self (aa (by simp))
     ·rw[e]at jT
      simp at jT
      obtain⟨rfl,rfl⟩:=jT
      cases mh:eD P ops j with
      | true=>exact .inr rfl
      | false=>rw[mh]at o;simp at o
    ·simp only[show¬(j<=k) by omega,if_false]at jT
     exact Fi i j b x y (by omega) (by omega) jS jT cN
  ·simp only[show¬(j<=k) by omega,if_false]
   exact Fj j (by omega) aa
  ·have e:k+(R::rest).length=k+1+rest.length:=by simp;omega
   rw[e]
   simp only[show¬(k+1+rest.length<=k) by omega,if_false]
   exact lj
theorem r_:∀(c:Code) (t:List Value) (H:ab) (Q:dH->List Value->ab->Prop),kP P c t H Q->BQ P c t H Q
 | .skip,t,H,Q,h=>⟨.normal,t,H,.skip,h⟩
 | .ret,t,H,Q,h=>⟨.ret,t,H,.ret,h⟩
 | .exit id,t,H,Q,h=>⟨.exit id,t,H,.exit,h⟩
 | .seq a b,t,H,Q,h=>by
  obtain⟨e,t1,H1,al,av⟩:=r_ a t H _ h
  cases e with
  | normal=>
   obtain⟨bg,t2,aR,pV,n_⟩:=r_ b t1 H1 Q av
   exact⟨bg,t2,aR,.Bi al pV,n_⟩
  | exit id=>exact⟨.exit id,t1,H1,.yi al (by simp),av⟩
  | ret=>exact⟨.ret,t1,H1,.yi al (by simp),av⟩
 | .cond c x y,t,H,Q,h=>by
  simp only[kP]at h
  obtain⟨aj,h⟩:=h
  split at h
  ·rename_i b ad
   cases b with
   | true=>
    obtain⟨e,t1,H1,al,av⟩:=r_ x t H Q (by simpa using h)
    exact⟨e,t1,H1,.cond ad aj al,av⟩
   | false=>
    obtain⟨e,t1,H1,al,av⟩:=r_ y t H Q (by simpa using h)
    exact⟨e,t1,H1,.cond ad aj al,av⟩
  ·exact h.elim
 | .block id c,t,H,Q,h=>by
  obtain⟨e,t1,H1,al,av⟩:=r_ c t H _ h
  refine⟨_,t1,H1,.block al,?_⟩
  cases e with
  | normal=>exact av
  | exit hG=>
   simp only[Cb]at av
   by_cases ae:hG=id
   ·subst ae;simpa using av
   ·simpa[ae]using av
  | ret=>exact av
 | .loop c,t,H,Q,h=>h
 | .region id ops draw,t,H,Q,h=>by
  simp only[kP]at h
  rcases h with⟨o,aa,aA⟩ | ⟨o,aa,aH,aA⟩
  rotate_left
  ·obtain⟨T,V,aZ,ee,ed,fA,hV,Ba,Fi,Fj,lj⟩:=Nj aH ops.toList 0 t H [] [] (fun i=>by simp) aA
   have gN:=dX.Be (P:=P) (id:=id) (ops:=ops) (draw:=draw) T V aZ ee o (fun i R aK=>(hV i R (Nat.zero_le _) aK).1) (fun i R aK=>(hV i R (Nat.zero_le _) aK).2.1) aa (fun i R aK=>(hV i R (Nat.zero_le _) aK).2.2) (fun i j b x y=>Fi i j b x y (Nat.zero_le _) (Nat.zero_le _)) (fun j=>Fj j (Nat.zero_le _))
   rw[ed,fA]at gN
   exact⟨.normal,_,_,gN,by simpa using lj⟩
  obtain⟨T,V,aZ,ed,fA,hV,lj⟩:=Nn ops.toList 0 t H (fun i=>by simp) aA
  have gN:=dX.region (P:=P) (id:=id) (ops:=ops) (draw:=draw) T V aZ o (fun i R aK=>(hV i R (Nat.zero_le _) aK).1) (fun i R aK=>(hV i R (Nat.zero_le _) aK).2.1) (fun aB=>⟨aa aB,fun i R aK ay=>(hV i R (Nat.zero_le _) aK).2.2 aB ay⟩)
  rw[ed,fA]at gN
  exact⟨.normal,_,_,gN,by simpa using lj⟩
 | .rangeFunc ..,t,H,Q,h=>by simp only[kP]at h
 | .scope ..,t,H,Q,h=>by simp only[kP]at h
 | .label ..,t,H,Q,h=>by simp only[kP]at h
 | .goto ..,t,H,Q,h=>by simp only[kP]at h
 | .refuse ..,t,H,Q,h=>by simp only[kP]at h
def po(P:Program)(t:List Value)(H:ab):List ResultVar->(List Value->Prop)->Prop
 | [],K=>K []
 | .tmp i::rs,K=>po P t H rs fun aD=>K (gt t i::aD)
 | .cell a ty::rs,K=>(match gt t a with
  | .pointer (some ⟨b,i,none⟩)=>(match iG H b with
   | some cs=>(match ds P ty with
    | some false=>(match cs[i]? with
     | some v=>po P t H rs fun aD=>K (v::aD)
     | none=>False)
    | some true=>(match bq P ty with
     | some n=>i+n<=cs.length/\po P t H rs fun aD=>K (.agg ((cs.drop i).take n).toArray::aD)
     | none=>False)
    | none=>False)
   | none=>False)
  | _=>False)
theorem yf{t:List Value}{H:ab}:∀(rs:List ResultVar) (K:List Value->Prop),po P t H rs K->∃aD,l3 P t H rs aD/\K aD
 | [],K,h=>⟨[],.nil,h⟩
 | .tmp i::rs,K,h=>by
  obtain⟨aD,o,aa⟩:=yf rs _ h
  exact⟨_,.tmp o,aa⟩
 | .cell a ty::rs,K,h=>by
  simp only[po]at h
  split at h
  ·rename_i b i J
   split at h
   ·rename_i cs gb
    obtain⟨X,aQ,ad⟩:=y8 gb
    split at h
    ·rename_i aO
     split at h
     ·rename_i v an
      obtain⟨aD,o,aa⟩:=yf rs _ h
      exact⟨_,.y6 aO J aQ ad an o,aa⟩
     ·exact h.elim
    ·rename_i aO
     split at h
     ·rename_i n aG
      obtain⟨aD,o,aa⟩:=yf rs _ h.2
      exact⟨_,.y7 aO aG J aQ ad h.1 o,aa⟩
     ·exact h.elim
    ·exact h.elim
   ·exact h.elim
  ·exact h.elim
def Zx(P:Program)(rs:List ResultVar)(Q:Value->ab->Prop):dH->List Value->ab->Prop
 | .normal,t,H=>po P t H rs fun aD=>Q (bf aD) H
 | .ret,t,H=>po P t H rs fun aD=>Q (bf aD) H
 | .exit _,_,_=>False
theorem aP.Rv{f:FuncId}{fn:Func}{c:Code}{args:List Value}{H:ab}{Q:Value->ab->Prop}(ay:P.funcs[f]?=some fn)(aG:(fn.name== "runtime.NumGoroutine")=false)(ag:fn.body=some c)
  (h:kP P c (args++List.replicate (fn.ntmps-args.length) undef) H (Zx P fn.results.toList Q)):∃v H1,yI P f/\dX P (.call f args H) (.val v H1)/\Q v H1:=by
 have ad:yI P f:=⟨fn,ay,aG,by rw[ag];rfl⟩
 obtain⟨e,t1,H1,al,av⟩:=r_ _ _ _ _ h
 cases e with
 | normal=>
  obtain⟨aD,o,aa⟩:=yf _ _ av
  exact⟨_,H1,ad,.call ay ag al (.inl rfl) o,aa⟩
 | exit id=>exact av.elim
 | ret=>
  obtain⟨aD,o,aa⟩:=yf _ _ av
  exact⟨_,H1,ad,.call ay ag al (.inr rfl) o,aa⟩
end
end Go.cJ
end
