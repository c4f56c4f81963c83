/- Part of the proof of ShopShares. -/
import Derived.Test.YtoiodfcefbapkaaShopSharesA
set_option linter.unusedVariables false
set_option linter.unusedSimpArgs false
section
namespace Go.b_
def bc.below(ai:bc)(n:Nat):bc:=fun b=>if b<n then ai b else none
theorem bc.iE{ai:bc}{n b:Nat}{k:h8}(h:ai.below n b=some k):b<n/\ai b=some k:=by
 unfold bc.below at h
 split at h
 ·exact⟨by assumption,h⟩
 ·cases h
theorem bc.Bt{ai:bc}{n b:Nat}{k:h8}(af:b<n)(h:ai b=some k):ai.below n b=some k:=by simp[bc.below,af,h]
def jl(n:Nat)(v:Value):Prop:=∃(ai:bc) (av:Value),(∀b k,ai b=some k->b<n)/\bf ai v av
theorem jl.mono{n m:Nat}{v:Value}(h:jl n v)(uc:n<=m):jl m v:=by
 obtain⟨ai,av,o,aa⟩:=h
 exact⟨ai,av,fun b k af=>Nat.lt_of_lt_of_le (o b k af) uc,aa⟩
theorem jl.of{ai:bc}{n:Nat}{v av:Value}(aJ:∀b k,ai b=some k->b<n)(h:bf ai v av):jl n v:=⟨ai,av,aJ,h⟩
theorem bf.restrict{ai:bc}{n:Nat}{v av:Value}(h:bf ai v av):jl n v->bf (ai.below n) v av:=by
 have arr:∀{xs bI A_:Array Value} {nT:bc},(∀b k,nT b=some k->b<n)->xs.size=bI.size->xs.size=A_.size->(∀(i:Nat) (v av:Value),xs[i]?=some v->bI[i]?=some av->jl n v->bf (ai.below n) v av)->
   (∀(i:Nat) (v av:Value),xs[i]?=some v->A_[i]?=some av->bf nT v av)->∀(i:Nat) (v av:Value),xs[i]?=some v->bI[i]?=some av->bf (ai.below n) v av:=by
  intro xs bI A_ nT ly ar dA aW aP i v av I aL
  obtain⟨ad,-⟩:=Array.getElem?_eq_some_iff.1 I
  have TT:i<A_.size:=dA▸ad
  exact aW i v av I aL ⟨nT,_,ly,aP i v _ I (Array.getElem?_eq_getElem TT)⟩
 induction h with
 | bool b=>exact fun _=> .bool b
 | int k n=>exact fun _=> .int k n
 | float k n=>exact fun _=> .float k n
 | str s=>exact fun _=> .str s
 | Ag=>exact fun _=> .Ag
 | ptr h=>
  rintro⟨nT,u,ly,hu⟩
  obtain⟨k,ah,-⟩:=hu.qY
  exact .ptr (bc.Bt (ly _ _ ah) h)
 | rL g=>exact fun _=> .rL g
 | qS=>exact fun _=> .qS
 | void i a=>exact fun _=> .void i a
 | empty af a c=>exact fun _=> .empty af a c
 | slice h ag ar fH I cm=>
  rintro⟨nT,u,ly,hu⟩
  cases hu with
  | void=>omega
  | empty=>omega
  | slice b5=>exact .slice (bc.Bt (ly _ _ b5) h) ag ar fH I cm
 | agg ar _ aW=>
  rintro⟨nT,u,ly,hu⟩
  cases hu with
  | agg dA aP=>exact .agg ar (arr ly ar dA aW aP)
 | tuple ar _ aW=>
  rintro⟨nT,u,ly,hu⟩
  cases hu with
  | tuple dA aP=>exact .tuple ar (arr ly ar dA aW aP)
 | func fn ar _ jZ _ aW pC=>
  rintro⟨nT,u,ly,hu⟩
  cases hu with
  | func _ dA aP Sc uk=>exact .func fn ar (arr ly ar dA aW aP) jZ (arr ly jZ Sc pC uk)
 | nilFunc=>exact fun _=> .nilFunc
 | iface t _ aW=>
  rintro⟨nT,u,ly,hu⟩
  cases hu with
  | iface _ aP=>exact .iface t (aW ⟨nT,_,ly,aP⟩)
 | nilIface=>exact fun _=> .nilIface
 | Af=>exact fun _=> .Af
theorem Ext.refl(H:ab):Ext H H:=⟨[],by simp,by simp⟩
theorem Ext.trans{A B C:ab}(h:Ext A B)(b5:Ext B C):Ext A C:=by
 obtain⟨N,rfl,cm⟩:=h
 obtain⟨M,rfl,fb⟩:=b5
 exact⟨N++M,by simp,fun x I=>(List.mem_append.1 I).elim (cm x) (fb x)⟩
theorem Ext.len{A B:ab}(h:Ext A B):A.length<=B.length:=by obtain⟨N,rfl,-⟩:=h;simp
theorem Ext.get{A B:ab}(h:Ext A B){b:Nat}(af:b<A.length):B[b]?=A[b]?:=by obtain⟨N,rfl,-⟩:=h;exact List.getElem?_append_left af
theorem Ext.get_some{A B:ab}(h:Ext A B){b:Nat}{x:bB}(af:A[b]?=some x):B[b]?=some x:=by rw[h.get (cc.1 af).1];exact af
theorem Ext.new{A B:ab}(h:Ext A B){b:Nat}{x:bB}(af:A.length<=b)(I:B[b]?=some x):∀e cs,x≠ .ro e cs:=by
 obtain⟨N,rfl,cm⟩:=h
 rw[List.getElem?_append_right af]at I
 exact cm x (List.mem_of_getElem? I)
theorem pD{H aC:ab}{b:Nat}(h:H[b]?=aC[b]?):hn H b↔hn aC b:=by unfold hn;rw[h]
theorem xc{H aC:ab}{b:Nat}(h:H[b]?=aC[b]?):k9 H b↔k9 aC b:=by unfold k9;rw[h]
section
variable {ops:Array Oper}
theorem xn{i:Nat}{U:Oper}(h:ops[i]?=some U):(U,i)∈ops.toList.zipIdx:=by
 rw[List.mem_zipIdx_iff_getElem?]
 simpa using h
theorem Pp(h:gx ops=true){i:Nat}{U:Oper}(aM:ops[i]?=some U){e:Edge}(he:e∈U.after)(af:Region.binds .any e=true):e.on<i:=by
 simp only[gx,Bool.and_eq_true]at h
 have:=List.all_eq_true.1 h.1.1 _ (xn aM)
 have:=Array.all_eq_true'.1 this e he
 simpa[af]using this
theorem V9(h:gx ops=true){i j:Nat}{U:Oper}(aM:ops[i]?=some U)(aI:j<ops.size)(af:n3 (Region.before ops) j i=true):
  ∃e,e∈U.after/\Region.binds .any e=true/\(e.on=j\/(e.on<i/\n3 (Region.before ops) j e.on=true)):=by
 simp only[gx,Bool.and_eq_true]at h
 have o:=List.all_eq_true.1 h.1.2 _ (xn aM)
 have aa:=List.all_eq_true.1 o j (List.mem_range.2 aI)
 simp only[n3]at af
 rw[af]at aa
 simp only[Bool.not_true,Bool.false_or,Array.any_eq_true']at aa
 obtain⟨e,he,aD⟩:=aa
 simp only[Bool.and_eq_true,Bool.or_eq_true,beq_iff_eq,decide_eq_true_eq]at aD
 exact⟨e,he,aD.1,aD.2⟩
theorem E1(h:gx ops=true){i j:Nat}{x y:Oper}(ad:ops[i]?=some x)(aI:ops[j]?=some y)(nB:i<j):n3 (Region.before ops) i j=true\/
  ((∀d,x.dst=some d->d∉y.looksAt ops/\y.dst≠some d)/\∀d,y.dst=some d->d∉x.looksAt ops):=by
 simp only[gx,Bool.and_eq_true]at h
 have o:=List.all_eq_true.1 h.2 _ (xn aI)
 have aa:=List.all_eq_true.1 o _ (xn ad)
 simp only[nB,decide_true,Bool.not_true,Bool.false_or,Bool.or_eq_true]at aa
 rcases aa with aa | aa
 ·exact .inl aa
 ·refine .inr ?_
  simp only[Bool.and_eq_true]at aa
  constructor
  ·intro d aJ
   have:=aa.1
   simp only[aJ,Bool.and_eq_true,Bool.not_eq_true',bne_iff_ne]at this
   exact⟨by simpa using this.1,this.2⟩
  ·intro d aJ
   have:=aa.2
   simp only[aJ,Bool.not_eq_true']at this
   simpa using this
theorem s_{P:Program}{i j:Nat}{y:Oper}(h:eu P ops i=true)(aI:ops[j]?=some y)(a2:bF P y=false)(cG:j≠i):n3 (Region.before ops) (min i j) (max i j)=true:=by
 have:=List.all_eq_true.1 h _ (xn aI)
 simpa[a2,cG]using this
def oQ(ops:Array Oper)(X:Nat->Bool):Prop:=∀i U e,X i=true->ops[i]?=some U->e∈U.after->Region.binds .any e=true->X e.on=true
def kG(ops:Array Oper)(X:Nat->Bool)(i:Nat)(U:Oper):Prop:=ops[i]?=some U/\X i=false/\∀e,e∈U.after->Region.binds .any e=true->X e.on=true
theorem tf(h:gx ops=true){X:Nat->Bool}(ag:oQ ops X):∀(i:Nat) (U:Oper),ops[i]?=some U->(∀e,e∈U.after->Region.binds .any e=true->X e.on=true)->∀j,j<ops.size->n3 (Region.before ops) j i=true->X j=true:=by
 intro i
 induction i using Nat.strongRecOn with
 | _ i aW=>
  intro U aM aj j aI af
  obtain⟨e,he,lM,o | ⟨o,aa⟩⟩:=V9 h aM aI af
  ·rw[<-o];exact aj e he lM
  ·have aS:=aj e he lM
   have a5:e.on<ops.size:=Nat.lt_trans o (Array.getElem?_eq_some_iff.1 aM).1
   exact aW e.on o ops[e.on] (Array.getElem?_eq_getElem a5) (fun cH rY cK=>ag e.on _ cH aS (Array.getElem?_eq_getElem a5) rY cK) j aI aa
theorem yw(h:gx ops=true){X:Nat->Bool}(ag:oQ ops X){i j:Nat}(ad:i<ops.size)(aS:X i=true)(aI:j<ops.size)(af:n3 (Region.before ops) j i=true):X j=true:=
 tf h ag i ops[i] (Array.getElem?_eq_getElem ad) (fun e he lM=>ag i _ e aS (Array.getElem?_eq_getElem ad) he lM) j aI af
def eH(X:Nat->Bool)(i:Nat):Nat->Bool:=fun j=>decide (j=i) || X j
theorem yx{X:Nat->Bool}(ag:oQ ops X){i:Nat}{U:Oper}(aj:kG ops X i U):oQ ops (eH X i):=by
 intro j j9 e aS aM he af
 simp only[eH,Bool.or_eq_true,decide_eq_true_eq]at aS⊢
 rcases aS with rfl | aS
 ·rw[aj.1]at aM
  obtain rfl:=Option.some.inj aM
  exact .inr (aj.2.2 e he af)
 ·exact .inr (ag j j9 e aS aM he af)
def wr(ops:Array Oper)(d:Tmp)(j:Nat):Bool:=match ops[j]? with
 | some U=>U.dst==some d
 | none=>false
theorem sR{d:Tmp}{j:Nat}:wr ops d j=true↔∃U,ops[j]?=some U/\U.dst=some d:=by
 unfold wr
 cases h:ops[j]?<;>simp
theorem sS{d:Tmp}{j:Nat}(h:wr ops d j=true):j<ops.size:=by
 obtain⟨U,aM,-⟩:=sR.1 h
 exact(Array.getElem?_eq_some_iff.1 aM).1
def yn(ops:Array Oper)(X:Nat->Bool)(d:Tmp)(j:Nat):Prop:=X j=true/\wr ops d j=true/\∀dp,X dp=true->wr ops d dp=true->dp<=j
open Classical in
noncomputable def cur(ops:Array Oper)(V:Nat->Value)(t0:List Value)(X:Nat->Bool)(d:Tmp):Value:=
 if h:∃j,yn ops X d j then V h.choose else t0.getD d undef
theorem HP{V:Nat->Value}{t0:List Value}{X:Nat->Bool}{d:Tmp}{j:Nat}(o:X j=true)(aa:wr ops d j=true)(aD:∀dp,X dp=true->wr ops d dp=true->dp<=j):cur ops V t0 X d=V j:=by
 unfold cur
 have h:∃j,yn ops X d j:=⟨j,o,aa,aD⟩
 rw[dif_pos h]
 have ag:=h.choose_spec
 have:=aD _ ag.1 ag.2.1
 have:=ag.2.2 j o aa
 congr 1
 omega
theorem BC{V:Nat->Value}{t0:List Value}{X:Nat->Bool}{d:Tmp}(h:∀j,X j=true->wr ops d j=false):cur ops V t0 X d=t0.getD d undef:=by
 unfold cur
 rw[dif_neg]
 rintro⟨j,o,aa,-⟩
 rw[h j o]at aa
 cases aa
theorem vz{V:Nat->Value}{t0:List Value}{X Y:Nat->Bool}{d:Tmp}(h:∀j,wr ops d j=true->X j=Y j):cur ops V t0 X d=cur ops V t0 Y d:=by
 have e:yn ops X d=yn ops Y d:=by
  funext j
  apply propext
  constructor
  ·rintro⟨o,aa,aD⟩;exact⟨h j aa▸o,aa,fun dp aT aQ=>aD dp ((h dp aQ).symm▸aT) aQ⟩
  ·rintro⟨o,aa,aD⟩;exact⟨(h j aa).symm▸o,aa,fun dp aT aQ=>aD dp (h dp aQ▸aT) aQ⟩
 unfold cur
 rw[e]
theorem Ov(V:Nat->Value)(t0:List Value)(X:Nat->Bool)(d:Tmp):(∃j,X j=true/\wr ops d j=true/\cur ops V t0 X d=V j)\/cur ops V t0 X d=t0.getD d undef:=by
 unfold cur
 split
 ·rename_i h
  exact .inl ⟨h.choose,h.choose_spec.1,h.choose_spec.2.1,rfl⟩
 ·exact .inr rfl
theorem n1{T:Nat->List Value}{V:Nat->Value}(ba:∀(i:Nat) (U:Oper),ops[i]?=some U->T (i+1)=eS (T i) U.dst (V i)):∀i,i<=ops.size->(T i).length=(T 0).length
 | 0,_=>rfl
 | i+1,h=>by
  have a5:i<ops.size:=by omega
  rw[ba i _ (Array.getElem?_eq_getElem a5)]
  have:=n1 ba i (by omega)
  unfold eS
  split<;>simp[this]
theorem vj{T:Nat->List Value}{V:Nat->Value}(ba:∀(i:Nat) (U:Oper),ops[i]?=some U->T (i+1)=eS (T i) U.dst (V i)):∀i,i<=ops.size->∀d,d<(T 0).length->(T i).getD d undef=cur ops V (T 0) (fun j=>decide (j<i)) d
 | 0,_,d,aJ=>by rw[BC];intro j aI;simp at aI
 | i+1,h,d,aJ=>by
  have a5:i<ops.size:=by omega
  have aM:=Array.getElem?_eq_getElem a5
  have aW:=vj ba i (by omega) d aJ
  have hlen:=n1 ba i (by omega)
  rw[ba i _ aM]
  by_cases hw:wr ops d i=true
  ·obtain⟨U,fe,wv⟩:=sR.1 hw
   rw[aM]at fe
   obtain rfl:=Option.some.inj fe
   rw[HP (j:=i) (by simp) hw (fun dp o _=>by simp at o;omega)]
   simp only[eS,wv]
   simp[List.getD_eq_getElem?_getD,List.getElem?_set,hlen,aJ]
  ·have cG:ops[i].dst≠some d:=fun e=>hw (sR.2 ⟨_,aM,e⟩)
   rw[vz (Y:=fun j=>decide (j<i)) (fun j aI=>?_),<-aW]
   ·unfold eS
    split
    ·rename_i fa kS
     have:fa≠d:=fun e=>cG (e▸kS)
     simp[List.getD_eq_getElem?_getD,List.getElem?_set,this]
    ·rfl
   ·have:j≠i:=fun e=>hw (e▸aI)
    simp only[decide_eq_decide]
    omega
theorem L9(h:gx ops=true){X:Nat->Bool}(ag:oQ ops X){i:Nat}{U:Oper}(aj:kG ops X i U){d:Tmp}(aJ:d∈U.looksAt ops\/U.dst=some d):∀j,wr ops d j=true->X j=decide (j<i):=by
 intro j aI
 obtain⟨y,aL,qN⟩:=sR.1 aI
 have fP:j<ops.size:=sS aI
 have cW:i<ops.size:=(Array.getElem?_eq_some_iff.1 aj.1).1
 rcases Nat.lt_trichotomy j i with a5 | heq | wB
 ·rcases E1 h aL aj.1 a5 with af | ⟨o,aa⟩
  ·rw[tf h ag i U aj.1 aj.2.2 j fP af];simp[a5]
  ·rcases aJ with aJ | aJ
   ·exact absurd aJ (o d qN).1
   ·exact absurd aJ (o d qN).2
 ·subst heq;rw[aj.2.1];simp
 ·have aS:X j=false:=by
   cases Q9:X j with
   | false=>rfl
   | true=>
    rcases E1 h aj.1 aL wB with af | ⟨o,aa⟩
    ·have:=yw h ag fP Q9 cW af
     rw[aj.2.1]at this
     cases this
    ·rcases aJ with aJ | aJ
     ·exact absurd aJ (aa d qN)
     ·exact absurd qN (o d aJ).2
  rw[aS]
  simp
  omega
theorem HO(h:gx ops=true){X:Nat->Bool}(ag:oQ ops X){i:Nat}{U:Oper}(aj:kG ops X i U){V:Nat->Value}{t0:List Value}{d:Tmp}(aJ:d∈U.looksAt ops\/U.dst=some d):
  cur ops V t0 X d=cur ops V t0 (fun j=>decide (j<i)) d:=vz (L9 h ag aj aJ)
theorem yz(h:gx ops=true){X:Nat->Bool}(ag:oQ ops X){i:Nat}{U:Oper}(aj:kG ops X i U){V:Nat->Value}{t0:List Value}(d:Tmp):cur ops V t0 (eH X i) d=if U.dst=some d then V i else cur ops V t0 X d:=by
 have cW:i<ops.size:=(Array.getElem?_eq_some_iff.1 aj.1).1
 split
 ·rename_i aJ
  refine HP (by simp[eH]) (sR.2 ⟨U,aj.1,aJ⟩) fun dp o aa=>?_
  simp only[eH,Bool.or_eq_true,decide_eq_true_eq]at o
  rcases o with rfl | o
  ·exact Nat.le_refl _
  ·obtain⟨y,aL,qN⟩:=sR.1 aa
   rcases Nat.lt_or_ge i dp with a5 | jX
   ·rcases E1 h aj.1 aL a5 with af | ⟨aT,aQ⟩
    ·have:=yw h ag (sS aa) o cW af
     rw[aj.2.1]at this
     cases this
    ·exact absurd qN (aT d aJ).2
   ·exact jX
 ·rename_i aJ
  refine vz fun j aI=>?_
  have:j≠i:=fun e=>by
   obtain⟨y,aL,qN⟩:=sR.1 aI
   subst e
   rw[aj.1]at aL
   obtain rfl:=Option.some.inj aL
   exact aJ qN
  simp[eH,this]
end
def p8(s bg j:Nat):Nat:=if j<s then s else if j<bg then j+1 else bg
def mo(s bg j:Nat):Nat:=if j<s then s else if j<bg then j else bg
structure Inv (P:Program) (base:Nat) (ops:Array Oper) (T:Nat->List Value) (V:Nat->Value) (aX:Nat->ab) (hV:bc) (dP:World) (X:Nat->Bool) (s bg:Nat) (ai:bc) (a:Act) (w:World):Prop where
 closed:oQ ops X
 c6:s<=bg
 h3:bg<=ops.size
 Xw:∀j U,s<=j->j<bg->ops[j]?=some U->bF P U=false->eu P ops j=false
 before:∀j U,j<s->ops[j]?=some U->bF P U=false->X j=true
 after:∀j U,bg<=j->ops[j]?=some U->bF P U=false->X j=false
 stop:bg=ops.size\/∃U,ops[bg]?=some U/\bF P U=false/\eu P ops bg=true
 ix:b9 P base ai (aX bg) w
 ext:∀b k,hV b=some k->ai b=some k
 ez:∀b k,ai b=some k->b<(aX s).length\/∃j,s<=j/\j<bg/\X j=true/\(aX j).length<=b/\b<(aX (j+1)).length
 A7:∀j,s<=j->j<=bg->∀b k x cs v,ai b=some k->b<(aX j).length->(aX bg)[b]?=some x->x.cells?=some cs->v∈cs->jl (aX j).length v
 u5:∀j,j<ops.size->X j=true->jl (aX (p8 s bg j)).length (V j)
 Nm:∀v∈T 0,jl (aX s).length v
 LO:0<(aX 0).length
 z8:(aX 0).length<=(aX s).length
 fg:a.tmps.size=(T 0).length
 tmps:∀d,d<(T 0).length->bf ai (cur ops V (T 0) X d) (a.tmps.getD d undef)
 defers:a.defers=[]
 step:Step hV (aX 0) dP ai (aX bg) w
theorem kB.Fl{P:Program}{base:Nat}{ai:bc}{w:World}{k:h8}{x:bB}(h:kB P base ai w k x){cs:List Value}(ag:x.cells?=some cs){v:Value}(ao:v∈cs):∃av,bf ai v av:=by
 obtain⟨i,ad⟩:=List.getElem?_of_mem ao
 cases h with
 | own af ar km an aV cm ax bp ir=>
  simp only[bB.cells?,Option.some.injEq]at ag
  subst ag
  obtain⟨av,-,aa⟩:=ir i v ad
  exact⟨av,aa⟩
 | ro km an ir c0=>
  simp only[bB.cells?,Option.some.injEq]at ag
  subst ag
  obtain⟨av,-,aa⟩:=ir i v ad
  exact⟨av,aa⟩
 | dead=>simp[bB.cells?]at ag
theorem kB.W5{P:Program}{base:Nat}{ai bo:bc}{w:World}{k:h8}{x:bB}(h:kB P base ai w k x)(he:∀cs v,x.cells?=some cs->v∈cs->∀av,bf ai v av->bf bo v av):kB P base bo w k x:=by
 cases h with
 | own af ar ad an aV cm ax bp ao=>exact .own af ar ad an aV cm ax bp fun i v ad=>let⟨av,o,aa⟩:=ao i v ad;⟨av,o,he _ v rfl (List.mem_of_getElem? ad) av aa⟩
 | ro ad an ao c0=>exact .ro ad an (fun i v ad=>let⟨av,o,aa⟩:=ao i v ad;⟨av,o,he _ v rfl (List.mem_of_getElem? ad) av aa⟩) c0
 | dead=>exact .dead
theorem b9.grow{P:Program}{base:Nat}{ai:bc}{H aC:ab}{w:World}(h:b9 P base ai H w)(he:Ext H aC):b9 P base ai aC w:=by
 have ar:=he.len
 refine⟨Nat.lt_of_lt_of_le h.pos ar,h.size,fun b k af=>⟨(h.ez b k af).1,Nat.lt_of_lt_of_le (h.ez b k af).2 ar⟩,fun b k x af I=>?_,fun b cb k bN af cK cG aM mC=>?_⟩
 ·rw[he.get (h.ez b k af).2]at I
  exact h.eO b k x af I
 ·exact h.inj b cb k bN af cK cG ((pD (he.get (h.ez b k af).2)).1 aM) ((xc (he.get (h.ez cb bN cK).2)).1 mC)
theorem Step.grow{P:Program}{base:Nat}{ai bo:bc}{H H1 a0:ab}{w a7:World}(h:Step ai H w bo H1 a7)(bE:b9 P base bo H1 a7)(he:Ext H1 a0):Step ai H w bo a0 a7 where
 ext:=h.ext
 new:=h.new
 len:=Nat.le_trans h.len he.len
 own b k af aM:=h.own b k af ((pD (he.get (bE.ez b k af).2)).1 aM)
 os:=h.os
 tape:=h.tape
 output:=h.output
 size:=h.size
 frame:=h.frame
section
variable {P:Program} {base:Nat} {ops:Array Oper} {T:Nat->List Value} {V:Nat->Value} {aX:Nat->ab} {hV:bc} {dP:World} {X:Nat->Bool} {s bg:Nat} {ai:bc} {a:Act} {w:World}
theorem xH(a2:∀j U,ops[j]?=some U->bF P U=true->aX (j+1)=aX j)(bK:∀j U,ops[j]?=some U->bF P U=false->eu P ops j=true\/Ext (aX j) (aX (j+1)))(aE:bg<=ops.size)
  (J9:∀j U,s<=j->j<bg->ops[j]?=some U->bF P U=false->eu P ops j=false):∀(m i:Nat),s<=i->i+m<=bg->Ext (aX i) (aX (i+m))
 | 0,i,_,_=>Ext.refl _
 | m+1,i,an,hm=>by
  have aW:=xH a2 bK aE J9 m i an (by omega)
  have a5:i+m<ops.size:=by omega
  have aM:=Array.getElem?_eq_getElem a5
  refine aW.trans ?_
  show Ext (aX (i+m)) (aX (i+m+1))
  cases ax:bF P ops[i+m]with
  | true=>rw[a2 _ _ aM ax];exact Ext.refl _
  | false=>
   rcases bK _ _ aM ax with af | he
   ·rw[J9 _ _ (by omega) (by omega) aM ax]at af;cases af
   ·exact he
theorem Inv.kh(ak:Inv P base ops T V aX hV dP X s bg ai a w)(a2:∀j U,ops[j]?=some U->bF P U=true->aX (j+1)=aX j)(bK:∀j U,ops[j]?=some U->bF P U=false->eu P ops j=true\/Ext (aX j) (aX (j+1)))
  {i j:Nat}(o:s<=i)(aa:i<=j)(aD:j<=bg):Ext (aX i) (aX j):=by
 have:=xH a2 bK ak.h3 ak.Xw (j-i) i o (by omega)
 rwa[show i+(j-i)=j by omega]at this
theorem Inv.operand(ak:Inv P base ops T V aX hV dP X s bg ai a w)(ee:gx ops=true)(a2:∀j U,ops[j]?=some U->bF P U=true->aX (j+1)=aX j)(bK:∀j U,ops[j]?=some U->bF P U=false->eu P ops j=true\/Ext (aX j) (aX (j+1)))
  (ba:∀(i:Nat) (U:Oper),ops[i]?=some U->T (i+1)=eS (T i) U.dst (V i)){i:Nat}{U:Oper}(aj:kG ops X i U){d:Tmp}(aJ:d∈U.looksAt ops):bf (ai.below (aX (mo s bg i)).length) ((T i).getD d undef) (a.tmps.getD d undef):=by
 have cW:i<ops.size:=(Array.getElem?_eq_some_iff.1 aj.1).1
 by_cases jW: @LT.lt Nat _ d (T 0).length
 ·rw[vj ba i (by omega) d jW,<-HO ee ak.closed aj (.inl aJ)]
  refine(ak.tmps d jW).restrict ?_
  have qG:=ak.c6
  have g1:(aX s).length<=(aX (mo s bg i)).length:=by
   unfold mo
   split
   ·exact Nat.le_refl _
   ·split
    ·exact(ak.kh a2 bK (Nat.le_refl _) (by omega) (by omega)).len
    ·exact(ak.kh a2 bK (Nat.le_refl _) ak.c6 (Nat.le_refl _)).len
  rcases Ov (ops:=ops) V (T 0) X d with⟨j,o,aa,aD⟩ | aD
  ·rw[aD]
   have fc:=L9 ee ak.closed aj (.inl aJ) j aa
   rw[o]at fc
   have lQ:j<i:=by simpa using fc.symm
   refine(ak.u5 j (sS aa) o).mono ?_
   unfold p8
   split
   ·exact g1
   ·split
    ·unfold mo
     rw[if_neg (by omega)]
     split
     ·exact(ak.kh a2 bK (by omega) (by omega) (by omega)).len
     ·exact(ak.kh a2 bK (by omega) (by omega) (by omega)).len
    ·unfold mo
     rw[if_neg (by omega),if_neg (by omega)]
     exact Nat.le_refl _
  ·rw[aD]
   refine(ak.Nm _ ?_).mono g1
   simp only[List.getD_eq_getElem?_getD,bt jW,Option.getD_some]
   exact List.getElem_mem jW
 ·have o:(T i).getD d undef=undef:=by
   rw[List.getD_eq_getElem?_getD,List.getElem?_eq_none (by rw[n1 ba i (by omega)];omega)]
   rfl
  have aa:a.tmps.getD d undef=undef:=by
   have:=ak.fg
   rw[Array.getD_eq_getD_getElem?,Array.getElem?_eq_none (by omega)]
   rfl
  rw[o,aa]
  exact bf.undef _
theorem Inv.operands(ak:Inv P base ops T V aX hV dP X s bg ai a w)(ee:gx ops=true)(ah:(ops.all fun U=>U.op.operands.all mQ)=true)(a2:∀j U,ops[j]?=some U->bF P U=true->aX (j+1)=aX j)(bK:∀j U,ops[j]?=some U->bF P U=false->eu P ops j=true\/Ext (aX j) (aX (j+1)))
  (ba:∀(i:Nat) (U:Oper),ops[i]?=some U->T (i+1)=eS (T i) U.dst (V i)){i:Nat}{U:Oper}(aj:kG ops X i U):∀x∈U.op.operands,bf (ai.below (aX (mo s bg i)).length) (eZ (T i) x) (a.eval x):=by
 intro x I
 obtain⟨a5,aM⟩:=Array.getElem?_eq_some_iff.1 aj.1
 cases x with
 | tmp d=>
  have:d∈U.looksAt ops:=by
   unfold Oper.looksAt
   exact List.mem_append_left _ (List.mem_filterMap.2 ⟨.tmp d,by simpa using I,rfl⟩)
  exact ak.operand ee a2 bK ba aj this
 | const v=>
  have o:=Array.all_eq_true.1 ah i a5
  rw[aM]at o
  have:=Array.all_eq_true'.1 o _ I
  exact tm _ this
 | global g=>exact .rL g
 | func f=>exact .func _ rfl (fun i v av h=>by simp at h) rfl (fun i v av h=>by simp at h)
theorem Inv.wanted(ak:Inv P base ops T V aX hV dP X s bg ai a w)(ee:gx ops=true)(a2:∀j U,ops[j]?=some U->bF P U=true->aX (j+1)=aX j)(bK:∀j U,ops[j]?=some U->bF P U=false->eu P ops j=true\/Ext (aX j) (aX (j+1)))
  (ba:∀(i:Nat) (U:Oper),ops[i]?=some U->T (i+1)=eS (T i) U.dst (V i)){i:Nat}{U:Oper}(aj:kG ops X i U):Region.wanted U (yielded ops a.tmps)=Region.wanted U (gM ops (T i)):=by
 have cW:i<ops.size:=(Array.getElem?_eq_some_iff.1 aj.1).1
 refine Fm fun j b aV=>?_
 unfold yielded gM
 cases aJ:(ops[j]?).bind (·.dst)with
 | none=>rfl
 | some d=>
  have gh:d∈U.looksAt ops:=by
   unfold Oper.looksAt
   refine List.mem_append_right _ ?_
   simp only[aV,aJ]
   simp
  have ao:=ak.operand ee a2 bK ba aj gh
  simp only[Option.bind_some]
  have tC:=n1 ba i (by omega)
  by_cases jW: @LT.lt Nat _ d (T 0).length
  ·have bq:(T i)[d]?=some ((T i).getD d undef):=by
    rw[List.getD_eq_getElem?_getD,bt (by omega)]
    rfl
   have bh:a.tmps[d]?=some (a.tmps.getD d undef):=by
    have:=ak.fg
    rw[Array.getD_eq_getD_getElem?,Array.getElem?_eq_getElem (by omega)]
    rfl
   rw[bq,bh]
   exact ao.gR.symm
  ·have bq:(T i)[d]?=none:=List.getElem?_eq_none (by omega)
   have bh:a.tmps[d]?=none:=Array.getElem?_eq_none (by have:=ak.fg;omega)
   rw[bq,bh]
theorem yI{a:Act}{dst:Option Tmp}{v:Value}{d n:Nat}(ar:a.tmps.size=n)(aJ:d<n):(a.put dst v).tmps.getD d undef=if dst=some d then v else a.tmps.getD d undef:=by
 cases dst with
 | none=>simp[Act.put]
 | some e=>
  simp only[Act.put,Array.getD_eq_getD_getElem?,Array.getElem?_setIfInBounds]
  by_cases he:e=d
  ·subst he;simp[ar,aJ]
  ·simp[he]
theorem AG(a:Act)(dst:Option Tmp)(v:Value):(a.put dst v).tmps.size=a.tmps.size:=by cases dst<;>simp[Act.put]
theorem Inv.Mb(ak:Inv P base ops T V aX hV dP X s bg ai a w)(ee:gx ops=true){i:Nat}{U:Oper}(aj:kG ops X i U)(ax:bF P U=true){av:Value}(ao:bf (ai.below (aX (mo s bg i)).length) (V i) av)
  (a2:∀j U,ops[j]?=some U->bF P U=true->aX (j+1)=aX j):Inv P base ops T V aX hV dP (eH X i) s bg ai (a.put U.dst av) w:=by
 have cW:i<ops.size:=(Array.getElem?_eq_some_iff.1 aj.1).1
 have cG:∀j y,ops[j]?=some y->bF P y=false->j≠i:=fun j y aL KJ e=>by
  subst e;rw[aj.1]at aL;cases aL;rw[ax]at KJ;cases KJ
 refine{ak with closed:=yx ak.closed aj,before:=?_,after:=?_,ez:=?_,u5:=?_,fg:=?_,tmps:=?_,defers:=?_}
 ·intro j y o aa aD
  simp[eH,ak.before j y o aa aD]
 ·intro j y o aa aD
  simp[eH,ak.after j y o aa aD,cG j y aa aD]
 ·intro b k af
  rcases ak.ez b k af with h | ⟨j,o,aa,aD,bD⟩
  ·exact .inl h
  ·exact .inr ⟨j,o,aa,by simp[eH,aD],bD⟩
 ·intro j aI aS
  simp only[eH,Bool.or_eq_true,decide_eq_true_eq]at aS
  rcases aS with rfl | aS
  ·have hw:jl (aX (mo s bg j)).length (V j):=jl.of (fun b k af=>(bc.iE af).1) ao
   have e:(aX (p8 s bg j)).length=(aX (mo s bg j)).length:=by
    unfold p8 mo
    split
    ·rfl
    ·split
     ·rw[a2 j U aj.1 ax]
     ·rfl
   rw[e]
   exact hw
  ·exact ak.u5 j aI aS
 ·rw[AG];exact ak.fg
 ·intro d aJ
  rw[yz ee ak.closed aj,yI ak.fg aJ]
  split
  ·exact ao.ext fun b k af=>(bc.iE af).2
  ·exact ak.tmps d aJ
 ·rw[put_defers];exact ak.defers
theorem Inv.XH(ak:Inv P base ops T V aX hV dP X s bg ai a w)(a2:∀j U,ops[j]?=some U->bF P U=true->aX (j+1)=aX j)(bK:∀j U,ops[j]?=some U->bF P U=false->eu P ops j=true\/Ext (aX j) (aX (j+1)))
  {i:Nat}(o:s<=i)(aa:i<=bg):b9 P base (ai.below (aX i).length) (aX i) w:=by
 have he:=ak.kh a2 bK o aa (Nat.le_refl _)
 refine⟨?_,ak.ix.size,fun b k af=>⟨(ak.ix.ez b k (bc.iE af).2).1,(bc.iE af).1⟩,fun b k x af I=>?_,fun b cb k bN af cK cG aM ar=>?_⟩
 ·have:=(ak.kh a2 bK (Nat.le_refl _) o aa).len
  have:=ak.LO
  have:=ak.z8
  omega
 ·have oz:=he.get_some I
  refine(ak.ix.eO b k x (bc.iE af).2 oz).W5 fun cs v ag ao av ir=>ir.restrict ?_
  exact ak.A7 i o aa b k x cs v (bc.iE af).2 (bc.iE af).1 oz ag ao
 ·exact ak.ix.inj b cb k bN (bc.iE af).2 (bc.iE cK).2 cG ((pD (he.get (bc.iE af).1)).2 aM) ((xc (he.get (bc.iE cK).1)).2 ar)
end
section
variable {P:Program} {base:Nat} {ops:Array Oper} {T:Nat->List Value} {V:Nat->Value} {aX:Nat->ab} {hV:bc} {dP:World} {X:Nat->Bool} {s bg:Nat} {ai:bc} {a:Act} {w:World}
def bc.join(ai bo:bc)(l h:Nat):bc:=fun b=>if b<l then ai b else if b<h then bo b else ai b
theorem Inv.runM(ak:Inv P base ops T V aX hV dP X s bg ai a w)(ee:gx ops=true)(a2:∀j U,ops[j]?=some U->bF P U=true->aX (j+1)=aX j)(bK:∀j U,ops[j]?=some U->bF P U=false->eu P ops j=true\/Ext (aX j) (aX (j+1)))
  {i:Nat}{U:Oper}(aj:kG ops X i U)(hR:s<=i)(eX:i<bg){bo:bc}{av:Value}{a7:World}(ao:bf bo (V i) av)(bE:b9 P base bo (aX (i+1)) a7)(cS:Step (ai.below (aX i).length) (aX i) w bo (aX (i+1)) a7):
  ∃pW,Inv P base ops T V aX hV dP (eH X i) s bg pW (a.put U.dst av) a7:=by
 have cW:i<ops.size:=(Array.getElem?_eq_some_iff.1 aj.1).1
 have bq:=ak.kh a2 bK hR (by omega) (show i+1<=bg by omega)
 have bh:=ak.kh a2 bK (show s<=i+1 by omega) eX (Nat.le_refl _)
 have e1:=ak.kh a2 bK hR (by omega) (Nat.le_refl bg)
 have es:=ak.kh a2 bK (Nat.le_refl s) hR (by omega)
 have VH:=bq.len
 have VI:=bh.len
 have ls:=es.len
 have SA:∀b k,ai b=some k->b<(aX i).length\/(aX (i+1)).length<=b:=by
  intro b k af
  rcases ak.ez b k af with h | ⟨j,o,aa,aD,bD,b2⟩
  ·exact .inl (by omega)
  ·rcases Nat.lt_trichotomy j i with a5 | heq | wB
   ·have:=(ak.kh a2 bK (show s<=j+1 by omega) a5 (by omega)).len
    exact .inl (by omega)
   ·subst heq;rw[aj.2.1]at aD;cases aD
   ·have:=(ak.kh a2 bK (show s<=i+1 by omega) wB (by omega)).len
    exact .inr (by omega)
 have zu:∀b k,ai b=some k->ai.join bo (aX i).length (aX (i+1)).length b=some k:=by
  intro b k af
  unfold bc.join
  rcases SA b k af with h | h
  ·rw[if_pos h];exact af
  ·rw[if_neg (by omega),if_neg (by omega)];exact af
 have JO:∀b k,bo b=some k->ai.join bo (aX i).length (aX (i+1)).length b=some k:=by
  intro b k af
  have a5:=(bE.ez b k af).2
  unfold bc.join
  rcases cS.new b k af with h | h
  ·rw[if_pos (bc.iE h).1];exact(bc.iE h).2
  ·rw[if_neg (by omega),if_pos a5];exact af
 have nw:∀b k,ai.join bo (aX i).length (aX (i+1)).length b=some k->(b<(aX i).length/\ai b=some k/\bo b=some k)\/((aX i).length<=b/\b<(aX (i+1)).length/\bo b=some k)\/((aX (i+1)).length<=b/\ai b=some k):=by
  intro b k af
  unfold bc.join at af
  by_cases o:b<(aX i).length
  ·rw[if_pos o]at af
   exact .inl ⟨o,af,cS.ext b k (bc.Bt o af)⟩
  ·rw[if_neg o]at af
   by_cases aa:b<(aX (i+1)).length
   ·rw[if_pos aa]at af;exact .inr (.inl ⟨by omega,aa,af⟩)
   ·rw[if_neg aa]at af;exact .inr (.inr ⟨by omega,af⟩)
 have Dc:∀b k,ai.join bo (aX i).length (aX (i+1)).length b=some k->b<(aX (i+1)).length->bo b=some k:=by
  intro b k af a5
  rcases nw b k af with h | h | h
  ·exact h.2.2
  ·exact h.2.2
  ·omega
 have It:∀b k x,ai b=some k->(aX bg)[b]?=some x->x.cells?≠none->k.g<w.heap.size:=fun b k x af I aE=>(ak.ix.eO b k x af I).lt aE
 have VS:∀b k,ai b=some k->k9 (aX bg) b->k.g<w.heap.size:=fun b k af ⟨x,cs,I,ag⟩=>It b k x af I (by rw[ag];simp)
 have qA:∀b k cb bN,(aX i).length<=b->bo b=some k->hn (aX (i+1)) b->ai cb=some bN->k9 (aX bg) cb->cb<(aX i).length\/(aX (i+1)).length<=cb->k.g≠bN.g:=by
  intro b k cb bN gF af aM cK dA zy
  rcases cS.own b k af aM with h | ⟨g8,iN,o,aa,aD⟩
  ·have:=VS cb bN cK dA
   omega
  ·by_cases o4:g8=cb
   ·
    subst o4
    have hm:=(bc.iE o).2
    rw[hm]at cK
    obtain rfl:=Option.some.inj cK
    have mw:=(bc.iE o).1
    have qB:k9 (aX (i+1)) g8:=(xc (bh.get (by omega))).1 dA
    exact bE.inj b g8 k iN af (cS.ext _ _ o) (by omega) aM qB
   ·have:=ak.ix.inj g8 cb iN bN (bc.iE o).2 cK o4 ((pD (e1.get (bc.iE o).1)).2 aa) dA
    omega
 refine⟨ai.join bo (aX i).length (aX (i+1)).length,?_⟩
 refine{ak with closed:=yx ak.closed aj,before:=?_,after:=?_,ix:=?_,ext:=fun b k af=>zu b k (ak.ext b k af),ez:=?_,A7:=?_,u5:=?_,fg:=?_,tmps:=?_,defers:=?_,step:=?_}
 ·intro j y o aa aD
  simp[eH,ak.before j y o aa aD]
 ·intro j y o aa aD
  have:j≠i:=by omega
  simp[eH,ak.after j y o aa aD,this]
 ·refine⟨ak.ix.pos,bE.size,fun b k af=>?_,fun b k x af I=>?_,fun b cb k bN af cK cG aM ar=>?_⟩
  ·rcases nw b k af with⟨h,b5,-⟩ | ⟨h,b5,rM⟩ | ⟨h,b5⟩
   ·exact ak.ix.ez b k b5
   ·have:=bE.ez b k rM;exact⟨this.1,by omega⟩
   ·exact ak.ix.ez b k b5
  ·by_cases a5:b<(aX (i+1)).length
   ·have kR:=Dc b k af a5
    rw[bh.get a5]at I
    exact(bE.eO b k x kR I).gi JO (fun _=>rfl) (Nat.le_refl _)
   ·rcases nw b k af with⟨h,-,-⟩ | ⟨-,h,-⟩ | ⟨h,b5⟩
    ·omega
    ·omega
    ·refine(ak.ix.eO b k x b5 I).gi zu (fun aE=>cS.frame k.g (It b k x b5 I aE) fun g8 iN mw SC=>?_) cS.size
     have Ja:=bc.iE mw
     obtain⟨ni,wo⟩:∃ni,x.cells?=some ni:=by cases au:x.cells? with | none=>exact absurd au aE | some q=>exact⟨q,rfl⟩
     exact ak.ix.inj g8 b iN k Ja.2 b5 (by omega) ((pD (e1.get Ja.1)).2 SC) ⟨x,ni,I,wo⟩
  ·by_cases a5:b<(aX (i+1)).length
   ·have kR:=Dc b k af a5
    have qB:=(pD (bh.get a5)).1 aM
    by_cases jb:cb<(aX (i+1)).length
    ·exact bE.inj b cb k bN kR (Dc cb bN cK jb) cG qB ((xc (bh.get jb)).1 ar)
    ·rcases nw cb bN cK with⟨h,-,-⟩ | ⟨-,h,-⟩ | ⟨h,b5⟩
     ·omega
     ·omega
     ·rcases nw b k af with⟨q,pK,-⟩ | ⟨q,pK,LW⟩ | ⟨q,pK⟩
      ·exact ak.ix.inj b cb k bN pK b5 cG aM ar
      ·exact qA b k cb bN q kR qB b5 ar (.inr h)
      ·omega
   ·rcases nw b k af with⟨h,-,-⟩ | ⟨-,h,-⟩ | ⟨h,b5⟩
    ·omega
    ·omega
    ·rcases nw cb bN cK with⟨q,pK,-⟩ | ⟨q,pK,LW⟩ | ⟨q,pK⟩
     ·exact ak.ix.inj b cb k bN b5 pK cG aM ar
     ·have ha:=(xc (bh.get pK)).1 ar
      have qB:hn (aX (i+1)) cb:=by
       obtain⟨x,cs,I,ag⟩:=ha
       cases x with
       | own e l c=>exact⟨e,l,c,I⟩
       | ro e c=>exact absurd rfl (bq.new q I e c)
       | dead=>simp[bB.cells?]at ag
      exact fun e=>qA cb bN b k q LW qB b5 aM.live (.inr h) e.symm
     ·exact ak.ix.inj b cb k bN b5 pK cG aM ar
 ·intro b k af
  rcases nw b k af with⟨h,b5,-⟩ | ⟨h,b5,rM⟩ | ⟨h,b5⟩
  ·rcases ak.ez b k b5 with q | ⟨j,aT,aQ,bn,b8⟩
   ·exact .inl q
   ·exact .inr ⟨j,aT,aQ,by simp[eH,bn],b8⟩
  ·exact .inr ⟨i,hR,eX,by simp[eH],h,b5⟩
  ·rcases ak.ez b k b5 with q | ⟨j,aT,aQ,bn,b8⟩
   ·exact .inl q
   ·exact .inr ⟨j,aT,aQ,by simp[eH,bn],b8⟩
 ·intro j o aa b k x cs v af gF I ag ps
  rcases nw b k af with⟨h,b5,-⟩ | ⟨h,b5,rM⟩ | ⟨h,b5⟩
  ·exact ak.A7 j o aa b k x cs v b5 gF I ag ps
  ·have fc:i+1<=j:=by
    rcases Nat.lt_or_ge i j with q | q
    ·exact q
    ·have:=(ak.kh a2 bK o q (by omega)).len
     omega
   rw[bh.get b5]at I
   obtain⟨u,hu⟩:=(bE.eO b k x rM I).Fl ag ps
   exact(jl.of (fun b k af=>(bE.ez b k af).2) hu).mono (ak.kh a2 bK (by omega) fc aa).len
  ·exact ak.A7 j o aa b k x cs v b5 gF I ag ps
 ·intro j aI aS
  simp only[eH,Bool.or_eq_true,decide_eq_true_eq]at aS
  rcases aS with rfl | aS
  ·unfold p8
   rw[if_neg (by omega),if_pos eX]
   exact jl.of (fun b k af=>(bE.ez b k af).2) ao
  ·exact ak.u5 j aI aS
 ·rw[AG];exact ak.fg
 ·intro d aJ
  rw[yz ee ak.closed aj,yI ak.fg aJ]
  split
  ·exact ao.ext JO
  ·exact(ak.tmps d aJ).ext zu
 ·rw[put_defers];exact ak.defers
 ·have pf:=ak.z8
  refine⟨fun b k af=>zu b k (ak.ext b k af),fun b k af=>?_,ak.step.len,fun b k af aM=>?_,cS.os.trans ak.step.os,cS.tape.trans ak.step.tape,cS.output.trans ak.step.output,Nat.le_trans ak.step.size cS.size,fun g aV cG=>?_⟩
  ·rcases nw b k af with⟨h,b5,-⟩ | ⟨h,b5,rM⟩ | ⟨h,b5⟩
   ·exact ak.step.new b k b5
   ·exact .inr (by omega)
   ·exact ak.step.new b k b5
  ·rcases nw b k af with⟨h,b5,-⟩ | ⟨h,b5,rM⟩ | ⟨h,b5⟩
   ·exact ak.step.own b k b5 aM
   ·rcases cS.own b k rM ((pD (bh.get b5)).1 aM)with q | ⟨g8,iN,aT,aQ,bn⟩
    ·exact .inl (Nat.le_trans ak.step.size q)
    ·have Ar:=bc.iE aT
     rcases ak.step.own g8 iN Ar.2 ((pD (e1.get Ar.1)).2 aQ)with r | ⟨gC,j8,eh,fZ,h4⟩
     ·exact .inl (by omega)
     ·exact .inr ⟨gC,j8,eh,fZ,by omega⟩
   ·exact ak.step.own b k b5 aM
  ·rw[cS.frame g (Nat.lt_of_lt_of_le aV ak.step.size) fun b k af aM=>?_,ak.step.frame g aV cG]
   have cK:=bc.iE af
   rcases ak.step.own b k cK.2 ((pD (e1.get cK.1)).2 aM)with r | ⟨gC,j8,eh,fZ,h4⟩
   ·omega
   ·exact fun e=>cG gC j8 eh fZ (by omega)
theorem Ei(ops:Array Oper):∀(m i:Nat),i+m=ops.size->∃bg,i<=bg/\bg<=ops.size/\(∀j U,i<=j->j<bg->ops[j]?=some U->bF P U=false->eu P ops j=false)/\(bg=ops.size\/∃U,ops[bg]?=some U/\bF P U=false/\eu P ops bg=true)
 | 0,i,h=>⟨i,Nat.le_refl _,by omega,fun j U o aa=>by omega,.inl (by omega)⟩
 | m+1,i,h=>by
  have a5:i<ops.size:=by omega
  have aM:=Array.getElem?_eq_getElem a5
  by_cases af:bF P ops[i]=false/\eu P ops i=true
  ·exact⟨i,Nat.le_refl _,by omega,fun j U o aa=>by omega,.inr ⟨_,aM,af.1,af.2⟩⟩
  ·obtain⟨bg,o,aa,aD,bD⟩:=Ei ops m (i+1) (by omega)
   refine⟨bg,by omega,aa,fun j U aT aQ bn b8=>?_,bD⟩
   by_cases aI:j=i
   ·subst aI
    rw[aM]at bn
    obtain rfl:=Option.some.inj bn
    cases nu:eu P ops j with
    | false=>rfl
    | true=>exact absurd ⟨b8,nu⟩ af
   ·exact aD j U (by omega) aQ bn b8
theorem Inv.Xg(ak:Inv P base ops T V aX hV dP X s bg ai a w)(ee:gx ops=true)(a2:∀j U,ops[j]?=some U->bF P U=true->aX (j+1)=aX j)(bK:∀j U,ops[j]?=some U->bF P U=false->eu P ops j=true\/Ext (aX j) (aX (j+1)))
  {U:Oper}(aj:kG ops X bg U)(ax:bF P U=false)(y5:eu P ops bg=true){bo:bc}{av:Value}{a7:World}(ao:bf bo (V bg) av)(bE:b9 P base bo (aX (bg+1)) a7)(cS:Step ai (aX bg) w bo (aX (bg+1)) a7):
  ∃oB pW,Inv P base ops T V aX hV dP (eH X bg) (bg+1) oB pW (a.put U.dst av) a7:=by
 have cW:bg<ops.size:=(Array.getElem?_eq_some_iff.1 aj.1).1
 obtain⟨oB,o,aa,aD,bD⟩:=Ei ops (ops.size-(bg+1)) (bg+1) (by omega)
 have mA:∀{i j:Nat},bg+1<=i->i<=j->j<=oB->Ext (aX i) (aX j):=fun{i j} aT aQ bn=>by
  have:=xH a2 bK aa aD (j-i) i aT (by omega)
  rwa[show i+(j-i)=j by omega]at this
 have e:=mA (Nat.le_refl _) o (Nat.le_refl _)
 have qG:=ak.c6
 have ls:=(ak.kh a2 bK (Nat.le_refl s) qG (Nat.le_refl _)).len
 have ff:=cS.len
 have pf:=ak.z8
 refine⟨oB,bo,?_⟩
 refine⟨yx ak.closed aj,o,aa,aD,fun j y aT aQ bn=>?_,fun j y aT aQ bn=>?_,bD,bE.grow e,fun b k af=>cS.ext b k (ak.ext b k af),fun b k af=> .inl (bE.ez b k af).2,?_,?_,fun v ao=>(ak.Nm v ao).mono (by omega),ak.LO,by omega,by rw[AG];exact ak.fg,?_,by rw[put_defers];exact ak.defers,(ak.step.trans cS).grow bE e⟩
 ·by_cases aI:j=bg
  ·subst aI;simp[eH]
  ·have af:=s_ y5 aQ bn aI
   rw[show min bg j=j by omega,show max bg j=bg by omega]at af
   have:=tf ee ak.closed bg U aj.1 aj.2.2 j (by omega) af
   simp[eH,this]
 ·have aI:j≠bg:=by omega
  have fP:j<ops.size:=(Array.getElem?_eq_some_iff.1 aQ).1
  cases aS:X j with
  | false=>simp[eH,aS,aI]
  | true=>
   have af:=s_ y5 aQ bn aI
   rw[show min bg j=bg by omega,show max bg j=j by omega]at af
   have:=yw ee ak.closed fP aS cW af
   rw[aj.2.1]at this
   cases this
 ·intro j aT aQ b k x cs v af gF I ag ps
  have lM:=(bE.ez b k af).2
  rw[e.get lM]at I
  obtain⟨u,hu⟩:=(bE.eO b k x af I).Fl ag ps
  exact(jl.of (fun b k af=>(bE.ez b k af).2) hu).mono (mA (Nat.le_refl _) aT aQ).len
 ·intro j aI aS
  simp only[eH,Bool.or_eq_true,decide_eq_true_eq]at aS
  have g1:(aX (bg+1)).length<=(aX (p8 (bg+1) oB j)).length:=by
   unfold p8
   split
   ·exact Nat.le_refl _
   ·split
    ·exact(mA (Nat.le_refl _) (by omega) (by omega)).len
    ·exact(mA (Nat.le_refl _) o (Nat.le_refl _)).len
  rcases aS with rfl | aS
  ·exact(jl.of (fun b k af=>(bE.ez b k af).2) ao).mono g1
  ·refine(ak.u5 j aI aS).mono (Nat.le_trans ?_ (Nat.le_trans ff g1))
   unfold p8
   split
   ·exact ls
   ·split
    ·exact(ak.kh a2 bK (by omega) (by omega) (Nat.le_refl _)).len
    ·exact Nat.le_refl _
 ·intro d aJ
  rw[yz ee ak.closed aj,yI ak.fg aJ]
  split
  ·exact ao
  ·exact(ak.tmps d aJ).ext cS.ext
theorem L8{de:Array Bool}{i:Nat}(h:i∈Region.ready .any ops de)(ar:de.size=ops.size):∃U,kG ops (fun j=>de.getD j false) i U:=by
 unfold Region.ready at h
 rw[List.mem_filter]at h
 obtain⟨o,aa⟩:=h
 have a5:i<ops.size:=List.mem_range.1 o
 have aM:=Array.getElem?_eq_getElem a5
 simp only[aM,Option.map_some,Option.getD_some,Bool.and_eq_true,Bool.not_eq_true',Array.all_eq_true']at aa
 refine⟨ops[i],aM,?_,fun e he af=>?_⟩
 ·have:=aa.1
  simp only[Array.getD_eq_getD_getElem?,Array.getElem?_eq_getElem (show i<de.size by omega),Option.getD_some]at this⊢
  exact this
 ·have:=aa.2 e he
  simpa[af]using this
theorem L7{de:Array Bool}(h:Region.ready .any ops de=[])(ar:de.size=ops.size)(ee:gx ops=true):∀i,i<ops.size->de.getD i false=true:=by
 intro i
 induction i using Nat.strongRecOn with
 | _ i aW=>
  intro ad
  cases ag:de.getD i false with
  | true=>rfl
  | false=>
   have aM:=Array.getElem?_eq_getElem ad
   have gh:i∈Region.ready .any ops de:=by
    unfold Region.ready
    rw[List.mem_filter]
    refine⟨List.mem_range.2 ad,?_⟩
    simp only[aM,Option.map_some,Option.getD_some,Bool.and_eq_true,Bool.not_eq_true',Array.all_eq_true']
    constructor
    ·simp only[Array.getD_eq_getD_getElem?,Array.getElem?_eq_getElem (show i<de.size by omega),Option.getD_some]at ag⊢
     exact ag
    ·intro e he
     cases af:Region.binds .any e with
     | false=>simp
     | true=>
      have:=Pp ee aM he af
      simp[aW e.on this (by omega)]
   rw[h]at gh
   cases gh
theorem K1{de:Array Bool}{i:Nat}(ad:i<de.size):(fun j=>(de.setIfInBounds i true).getD j false)=eH (fun j=>de.getD j false) i:=by
 funext j
 simp only[eH,Array.getD_eq_getD_getElem?,Array.getElem?_setIfInBounds]
 by_cases h:i=j
 ·subst h;simp[ad]
 ·have:j≠i:=fun e=>h e.symm
  simp[h,this]
def sO(n:Nat)(X:Nat->Bool):Nat:=((List.range n).filter fun i=> !X i).length
theorem A3{n:Nat}{X:Nat->Bool}{i:Nat}(ad:i<n)(aS:X i=false):sO n (eH X i)+1<=sO n X:=by
 unfold sO
 have:∀(l:List Nat),l.Nodup->(l.filter fun j=> !eH X i j).length+(if i∈l then 1 else 0)=(l.filter fun j=> !X j).length:=by
  intro l ar
  induction l with
  | nil=>rfl
  | cons a l aW=>
   rw[List.nodup_cons]at ar
   have aW:=aW ar.2
   by_cases jU:a=i
   ·subst jU
    rw[if_neg ar.1]at aW
    simp only[List.filter_cons,eH,decide_true,Bool.true_or,Bool.not_true,aS,Bool.not_false,List.mem_cons,true_or,if_true]
    simp only[eH,Bool.not_or]at aW
    simp
    omega
   ·have hm:(i∈a::l)↔i∈l:=by simp[Ne.symm jU]
    simp only[hm]
    have e:eH X i a=X a:=by simp[eH,jU]
    simp only[List.filter_cons,e]
    cases X a
    ·simp only[Bool.not_false,if_true,List.length_cons];omega
    ·simpa using aW
 have:=this (List.range n) List.nodup_range
 rw[if_pos (List.mem_range.2 ad)]at this
 omega
theorem NW{Q:Exit->Act->World->Prop}(ee:gx ops=true)(ah:(ops.all fun U=>U.op.operands.all mQ)=true)(h:∀(i:Nat) (U:Oper),ops[i]?=some U->s3 P base ops U (T i) (aX i) (V i) (aX (i+1)))
  (ba:∀(i:Nat) (U:Oper),ops[i]?=some U->T (i+1)=eS (T i) U.dst (V i))(bK:∀j U,ops[j]?=some U->bF P U=false->eu P ops j=true\/Ext (aX j) (aX (j+1)))
  (aG:∀bo b4 a7,cF bo (T ops.size) b4.tmps.toList->b4.defers=[]->b9 P base bo (aX ops.size) a7->Step hV (aX 0) dP bo (aX ops.size) a7->Q .normal b4 a7):
  ∀(fuel:Nat) (de:Array Bool) (s bg:Nat) (ai:bc) (a:Act) (w:World),de.size=ops.size->sO ops.size (fun j=>de.getD j false)<=fuel->Inv P base ops T V aX hV dP (fun j=>de.getD j false) s bg ai a w->wpAny P .any ops Q fuel de a w:=by
 have a2:∀j U,ops[j]?=some U->bF P U=true->aX (j+1)=aX j:=fun j U aM ax=>by
  rcases h j U aM with⟨-,-,aD⟩ | ⟨-,-,-,aD⟩ | ⟨-,aa,-⟩
  ·exact aD
  ·exact aD
  ·rw[ax]at aa;cases aa
 have fin:∀(de:Array Bool) (s bg:Nat) (ai:bc) (a:Act) (w:World),de.size=ops.size->(∀i,i<ops.size->de.getD i false=true)->Inv P base ops T V aX hV dP (fun j=>de.getD j false) s bg ai a w->Q .normal a w:=by
  intro de s bg ai a w ar cQ ak
  have zv:bg=ops.size:=by
   rcases ak.stop with h | ⟨U,o,aa,-⟩
   ·exact h
   ·have:=ak.after bg U (Nat.le_refl _) o aa
    have:=cQ bg (Array.getElem?_eq_some_iff.1 o).1
    simp_all
  subst zv
  refine aG ai a w ⟨?_,fun d v av ao dd=>?_⟩ ak.defers ak.ix ak.step
  ·rw[n1 ba _ (Nat.le_refl _)];simpa using ak.fg.symm
  ·have jW:d<(T 0).length:=by
    have:=(cc.1 ao).1
    rwa[n1 ba _ (Nat.le_refl _)]at this
   have ir:=ak.tmps d jW
   rw[vz (Y:=fun j=>decide (j<ops.size)) (fun j aI=>by rw[cQ j (sS aI)];simp[sS aI]),<-vj ba _ (Nat.le_refl _) d jW]at ir
   rw[List.getD_eq_getElem?_getD,ao]at ir
   have bh:a.tmps[d]?=some av:=by simpa using dd
   rw[Array.getD_eq_getD_getElem?,bh]at ir
   exact ir
 intro fuel
 induction fuel with
 | zero=>
  intro de s bg ai a w ar hu ak
  have cQ:∀i,i<ops.size->de.getD i false=true:=by
   intro i ad
   cases ag:de.getD i false with
   | true=>rfl
   | false=>have:=A3 (X:=fun j=>de.getD j false) ad ag;omega
  refine⟨?_,fin de s bg ai a w ar cQ ak⟩
  unfold Region.ready
  rw[List.filter_eq_nil_iff]
  intro i ad
  have:=cQ i (List.mem_range.1 ad)
  simp only[Array.getD_eq_getD_getElem?,Array.getElem?_eq_getElem (show i<de.size by have:=List.mem_range.1 ad;omega),Option.getD_some]at this⊢
  simp[this]
 | succ fuel aW=>
  intro de s bg ai a w ar hu ak
  refine⟨fun aE=>fin de s bg ai a w ar (L7 aE ar ee) ak,fun i ad=>?_⟩
  obtain⟨U,aj⟩:=L8 ad ar
  have cW:i<ops.size:=(Array.getElem?_eq_some_iff.1 aj.1).1
  have jw:=K1 (de:=de) (i:=i) (by omega)
  have cont:∀(c_ oB:Nat) (pW:bc) (av:Value) (a7:World),Inv P base ops T V aX hV dP (eH (fun j=>de.getD j false) i) c_ oB pW (a.put U.dst av) a7->wpAny P .any ops Q fuel (de.setIfInBounds i true) (a.put U.dst av) a7:=by
   intro c_ oB pW av a7 rp
   refine aW _ c_ oB pW _ a7 (by simpa using ar) ?_ (by rw[jw];exact rp)
   rw[jw]
   have:=A3 (X:=fun j=>de.getD j false) cW aj.2.1
   omega
  unfold wpOp
  simp only[aj.1,ak.wanted ee a2 bK ba aj]
  have lT:=ak.operands ee ah a2 bK ba aj
  have mem:bF P U=false->∀bo av a7,bf bo (V i) av->b9 P base bo (aX (i+1)) a7->Step (ai.below (aX i).length) (aX i) w bo (aX (i+1)) a7->wpAny P .any ops Q fuel (de.setIfInBounds i true) (a.put U.dst av) a7:=by
   intro ax bo av a7 ao bE cS
   have hR:s<=i:=by
    rcases Nat.lt_or_ge i s with q | q
    ·exact(Bool.false_ne_true (aj.2.1.symm.trans (ak.before i U q aj.1 ax))).elim
    ·exact q
   have eX:i<=bg:=by
    rcases Nat.lt_or_ge bg i with q | q
    ·rcases ak.stop with b5 | ⟨y,aT,aQ,bn⟩
     ·omega
     ·have af:=s_ bn aj.1 ax (by omega)
      rw[show min bg i=bg by omega,show max bg i=i by omega]at af
      have:=tf ee ak.closed i U aj.1 aj.2.2 bg (Array.getElem?_eq_some_iff.1 aT).1 af
      have:=ak.after bg y (Nat.le_refl _) aT aQ
      simp_all
    ·exact q
   by_cases heq:i=bg
   ·subst heq
    have y5:eu P ops i=true:=by
     rcases ak.stop with b5 | ⟨y,aT,aQ,bn⟩
     ·omega
     ·exact bn
    have Ss:ai.below (aX i).length=ai:=by
     funext b
     unfold bc.below
     split
     ·rfl
     ·cases af:ai b with
      | none=>rfl
      | some k=>have:=(ak.ix.ez b k af).2;omega
    rw[Ss]at cS
    obtain⟨oB,pW,rp⟩:=ak.Xg ee a2 bK aj ax y5 ao bE cS
    exact cont _ _ _ _ _ rp
   ·obtain⟨pW,rp⟩:=ak.runM ee a2 bK aj hR (by omega) ao bE cS
    exact cont _ _ _ _ _ rp
  have EM:bF P U=false->b9 P base (ai.below (aX i).length) (aX i) w/\∀x∈U.op.operands,bf (ai.below (aX i).length) (eZ (T i) x) (a.eval x):=by
   intro ax
   have hR:s<=i:=by
    rcases Nat.lt_or_ge i s with q | q
    ·exact(Bool.false_ne_true (aj.2.1.symm.trans (ak.before i U q aj.1 ax))).elim
    ·exact q
   have eX:i<=bg:=by
    rcases Nat.lt_or_ge bg i with q | q
    ·rcases ak.stop with b5 | ⟨y,aT,aQ,bn⟩
     ·omega
     ·have af:=s_ bn aj.1 ax (by omega)
      rw[show min bg i=bg by omega,show max bg i=i by omega]at af
      have:=tf ee ak.closed i U aj.1 aj.2.2 bg (Array.getElem?_eq_some_iff.1 aT).1 af
      have:=ak.after bg y (Nat.le_refl _) aT aQ
      simp_all
    ·exact q
   refine⟨ak.XH a2 bK hR eX,?_⟩
   have Pn:mo s bg i=i:=by unfold mo;rw[if_neg (by omega)];split<;>omega
   rw[Pn]at lT
   exact lT
  rcases h i U aj.1 with⟨o,aa,aD⟩ | ⟨o,aa,aD,bD⟩ | ⟨o,aa,aD⟩
  ·rw[o]
   cases ax:bF P U with
   | true=>exact cont _ _ _ undef _ (ak.Mb (av:=undef) ee aj ax (by rw[aa];exact bf.undef _) a2)
   | false=>exact mem ax (ai.below (aX i).length) undef w (by rw[aa];exact bf.undef _) (aD▸(EM ax).1) (aD▸Step.refl _ _ _)
  ·rw[o]
   obtain⟨av,gH,ao⟩:=BU aD lT w
   refine .inl ?_
   unfold Oper.wp
   rw[gH]
   exact cont _ _ _ _ _ (ak.Mb ee aj aa ao a2)
  ·rw[o]
   exact .inl (aD (ai.below (aX i).length) w a (EM aa).2 (EM aa).1 _ _ fun bo av a7 ao bE cS=>mem aa bo av a7 ao bE cS)
end
section
variable {P:Program} {base:Nat} {ops:Array Oper} {T:Nat->List Value} {V:Nat->Value} {aX:Nat->ab} {dV:Nat->Option (Nat×Option bB)} {ai:bc} {dP:World} {X:Nat->Bool} {a:Act} {w:World} {H:ab}
def mm(dV:Nat->Option (Nat×Option bB))(j b:Nat):Prop:=∃x,dV j=some (b,some x)
theorem VM(ar:∀(i:Nat) (U:Oper),ops[i]?=some U->nX P ops U (T i) (aX i) (V i) (aX (i+1)) (dV i)){i:Nat}(ad:i<ops.size){b:Nat}(hw:¬mm dV i b):(aX (i+1))[b]?=(aX i)[b]?:=by
 have h:=ar i _ (Array.getElem?_eq_getElem ad)
 cases bu:dV i with
 | none=>rw[bu]at h;rw[h.2]
 | some bs=>
  obtain⟨c,y⟩:=bs
  rw[bu]at h
  obtain⟨-,-,-,-,b2,-⟩:=h
  cases y with
  | none=>rw[b2];rfl
  | some x=>
   simp only[l0]at b2
   have:c≠b:=fun e=>hw ⟨x,by rw[bu,e]⟩
   rw[b2,List.getElem?_set_ne this]
theorem KY(ar:∀(i:Nat) (U:Oper),ops[i]?=some U->nX P ops U (T i) (aX i) (V i) (aX (i+1)) (dV i)):∀i,i<=ops.size->(aX i).length=(aX 0).length
 | 0,_=>rfl
 | i+1,ad=>by
  have aW:=KY ar i (by omega)
  have h:=ar i _ (Array.getElem?_eq_getElem (show i<ops.size by omega))
  cases bu:dV i with
  | none=>rw[bu]at h;rw[h.2,aW]
  | some bs=>
   obtain⟨c,y⟩:=bs
   rw[bu]at h
   obtain⟨-,-,-,-,b2,-⟩:=h
   cases y with
   | none=>rw[b2,<-aW];rfl
   | some x=>rw[b2];simp[l0,aW]
theorem z7(ar:∀(i:Nat) (U:Oper),ops[i]?=some U->nX P ops U (T i) (aX i) (V i) (aX (i+1)) (dV i)){b:Nat}:∀(m i:Nat),i+m<=ops.size->(∀j,i<=j->j<i+m->¬mm dV j b)->(aX (i+m))[b]?=(aX i)[b]?
 | 0,i,_,_=>rfl
 | m+1,i,h,hw=>by
  have aW:=z7 ar m i (by omega) fun j o aa=>hw j o (by omega)
  rw[<-aW]
  exact VM ar (show i+m<ops.size by omega) (hw (i+m) (by omega) (by omega))
structure k8 (P:Program) (base:Nat) (ops:Array Oper) (T:Nat->List Value) (V:Nat->Value) (aX:Nat->ab) (dV:Nat->Option (Nat×Option bB)) (ai:bc) (dP:World) (X:Nat->Bool) (a:Act) (w:World) (H:ab):Prop where
 closed:oQ ops X
 size:∀j,X j=true->j<ops.size
 len:H.length=(aX 0).length
 row:∀b,∃k,k<=ops.size/\(∀j,j<k->mm dV j b->X j=true)/\(∀j,k<=j->mm dV j b->X j=false)/\H[b]?=(aX k)[b]?
 ix:b9 P base ai H w
 fg:a.tmps.size=(T 0).length
 tmps:∀d,d<(T 0).length->bf ai (cur ops V (T 0) X d) (a.tmps.getD d undef)
 defers:a.defers=[]
 step:Step ai (aX 0) dP ai H w
theorem k8.operand(ak:k8 P base ops T V aX dV ai dP X a w H)(ee:gx ops=true)(ba:∀(i:Nat) (U:Oper),ops[i]?=some U->T (i+1)=eS (T i) U.dst (V i)){i:Nat}{U:Oper}(aj:kG ops X i U){d:Tmp}(aJ:d∈U.looksAt ops):
  bf ai ((T i).getD d undef) (a.tmps.getD d undef):=by
 have cW:i<ops.size:=(Array.getElem?_eq_some_iff.1 aj.1).1
 by_cases jW: @LT.lt Nat _ d (T 0).length
 ·rw[vj ba i (by omega) d jW,<-HO ee ak.closed aj (.inl aJ)]
  exact ak.tmps d jW
 ·have o:(T i).getD d undef=undef:=by
   rw[List.getD_eq_getElem?_getD,List.getElem?_eq_none (by rw[n1 ba i (by omega)];omega)]
   rfl
  have aa:a.tmps.getD d undef=undef:=by
   have:=ak.fg
   rw[Array.getD_eq_getD_getElem?,Array.getElem?_eq_none (by omega)]
   rfl
  rw[o,aa]
  exact bf.undef _
theorem k8.operands(ak:k8 P base ops T V aX dV ai dP X a w H)(ee:gx ops=true)(ah:(ops.all fun U=>U.op.operands.all mQ)=true)(ba:∀(i:Nat) (U:Oper),ops[i]?=some U->T (i+1)=eS (T i) U.dst (V i)){i:Nat}{U:Oper}(aj:kG ops X i U):
  ∀x∈U.op.operands,bf ai (eZ (T i) x) (a.eval x):=by
 intro x I
 obtain⟨a5,aM⟩:=Array.getElem?_eq_some_iff.1 aj.1
 cases x with
 | tmp d=>
  have:d∈U.looksAt ops:=by
   unfold Oper.looksAt
   exact List.mem_append_left _ (List.mem_filterMap.2 ⟨.tmp d,by simpa using I,rfl⟩)
  exact ak.operand ee ba aj this
 | const v=>
  have o:=Array.all_eq_true.1 ah i a5
  rw[aM]at o
  exact tm _ (Array.all_eq_true'.1 o _ I)
 | global g=>exact .rL g
 | func f=>exact .func _ rfl (fun i v av h=>by simp at h) rfl (fun i v av h=>by simp at h)
theorem k8.wanted(ak:k8 P base ops T V aX dV ai dP X a w H)(ee:gx ops=true)(ba:∀(i:Nat) (U:Oper),ops[i]?=some U->T (i+1)=eS (T i) U.dst (V i)){i:Nat}{U:Oper}(aj:kG ops X i U):
  Region.wanted U (yielded ops a.tmps)=Region.wanted U (gM ops (T i)):=by
 have cW:i<ops.size:=(Array.getElem?_eq_some_iff.1 aj.1).1
 refine Fm fun j b aV=>?_
 unfold yielded gM
 cases aJ:(ops[j]?).bind (·.dst)with
 | none=>rfl
 | some d=>
  have gh:d∈U.looksAt ops:=by
   unfold Oper.looksAt
   refine List.mem_append_right _ ?_
   simp only[aV,aJ]
   simp
  have ao:=ak.operand ee ba aj gh
  simp only[Option.bind_some]
  have tC:=n1 ba i (by omega)
  by_cases jW: @LT.lt Nat _ d (T 0).length
  ·have bq:(T i)[d]?=some ((T i).getD d undef):=by
    rw[List.getD_eq_getElem?_getD,bt (by omega)]
    rfl
   have bh:a.tmps[d]?=some (a.tmps.getD d undef):=by
    have:=ak.fg
    rw[Array.getD_eq_getD_getElem?,Array.getElem?_eq_getElem (by omega)]
    rfl
   rw[bq,bh]
   exact ao.gR.symm
  ·have bq:(T i)[d]?=none:=List.getElem?_eq_none (by omega)
   have bh:a.tmps[d]?=none:=Array.getElem?_eq_none (by have:=ak.fg;omega)
   rw[bq,bh]
theorem k8.put(ak:k8 P base ops T V aX dV ai dP X a w H)(ee:gx ops=true){i:Nat}{U:Oper}(aj:kG ops X i U){av:Value}{a7:World}{H1:ab}(hlen:H1.length=H.length)(TI:∀b,mm dV i b->H1[b]?=(aX (i+1))[b]?/\(∀j,j<i->mm dV j b->X j=true)/\∀j,i<j->mm dV j b->X j=false)
  (SG:∀b,¬mm dV i b->H1[b]?=H[b]?)(ao:bf ai (V i) av)(bE:b9 P base ai H1 a7)(cS:Step ai H w ai H1 a7):k8 P base ops T V aX dV ai dP (eH X i) (a.put U.dst av) a7 H1:=by
 have cW:i<ops.size:=(Array.getElem?_eq_some_iff.1 aj.1).1
 refine⟨yx ak.closed aj,fun j aI=>?_,by rw[hlen,ak.len],fun b=>?_,bE,by rw[AG];exact ak.fg,fun d aJ=>?_,by rw[put_defers];exact ak.defers,ak.step.trans cS⟩
 ·simp only[eH,Bool.or_eq_true,decide_eq_true_eq]at aI
  rcases aI with rfl | aI
  ·exact cW
  ·exact ak.size j aI
 ·by_cases hw:mm dV i b
  ·obtain⟨aT,aQ,bn⟩:=TI b hw
   refine⟨i+1,by omega,fun j aI mK=>?_,fun j aI mK=>?_,aT⟩
   ·by_cases fc:j=i
    ·subst fc;simp[eH]
    ·simp[eH,aQ j (by omega) mK]
   ·have:j≠i:=by omega
    simp[eH,bn j (by omega) mK,this]
  ·obtain⟨k,j8,lz,sy,xf⟩:=ak.row b
   refine⟨k,j8,fun j aI mK=>by simp[eH,lz j aI mK],fun j aI mK=>?_,by rw[SG b hw];exact xf⟩
   have:j≠i:=fun e=>hw (e▸mK)
   simp[eH,sy j aI mK,this]
 ·rw[yz ee ak.closed aj,yI ak.fg aJ]
  split
  ·exact ao
  ·exact ak.tmps d aJ
theorem Wh{bo:bc}{H1:ab}{a7:World}(bE:b9 P base bo H1 a7)(cS:Step ai H w bo H1 a7)(hlen:H1.length=H.length):bo=ai:=by
 funext b
 cases h:bo b with
 | none=>
  cases b5:ai b with
  | none=>rfl
  | some k=>rw[cS.ext b k b5]at h;cases h
 | some k=>
  rcases cS.new b k h with b5 | b5
  ·exact b5.symm
  ·have:=(bE.ez b k h).2;omega
theorem VL{Q:Exit->Act->World->Prop}(ee:gx ops=true)(ah:(ops.all fun U=>U.op.operands.all mQ)=true)(h:∀(i:Nat) (U:Oper),ops[i]?=some U->s3 P base ops U (T i) (aX i) (V i) (aX (i+1)))
  (ba:∀(i:Nat) (U:Oper),ops[i]?=some U->T (i+1)=eS (T i) U.dst (V i))(ar:∀(i:Nat) (U:Oper),ops[i]?=some U->nX P ops U (T i) (aX i) (V i) (aX (i+1)) (dV i))
  (lr:∀(i j:Nat) (b:Nat) (x:bB) (y:Option bB),dV i=some (b,some x)->dV j=some (b,y)->i≠j->eu P ops i=true\/eu P ops j=true)
  (ue:∀j,ops.size<=j->dV j=none)(aG:∀bo b4 a7,cF bo (T ops.size) b4.tmps.toList->b4.defers=[]->b9 P base bo (aX ops.size) a7->Step ai (aX 0) dP bo (aX ops.size) a7->Q .normal b4 a7):
  ∀(fuel:Nat) (de:Array Bool) (a:Act) (w:World) (H:ab),de.size=ops.size->sO ops.size (fun j=>de.getD j false)<=fuel->k8 P base ops T V aX dV ai dP (fun j=>de.getD j false) a w H->wpAny P .any ops Q fuel de a w:=by
 have fin:∀(de:Array Bool) (a:Act) (w:World) (H:ab),de.size=ops.size->(∀i,i<ops.size->de.getD i false=true)->k8 P base ops T V aX dV ai dP (fun j=>de.getD j false) a w H->Q .normal a w:=by
  intro de a w H jw cQ ak
  have B9:H=aX ops.size:=by
   apply List.ext_getElem?
   intro b
   obtain⟨k,j8,lz,sy,xf⟩:=ak.row b
   have:=z7 ar (b:=b) (ops.size-k) k (by omega) fun j o aa hw=>by
    have aD:=sy j o hw
    rw[cQ j (by omega)]at aD
    cases aD
   rw[show k+(ops.size-k)=ops.size by omega]at this
   rw[xf,this]
  subst B9
  refine aG ai a w ⟨?_,fun d v av ao dd=>?_⟩ ak.defers ak.ix ak.step
  ·rw[n1 ba _ (Nat.le_refl _)];simpa using ak.fg.symm
  ·have jW:d<(T 0).length:=by
    have:=(cc.1 ao).1
    rwa[n1 ba _ (Nat.le_refl _)]at this
   have ir:=ak.tmps d jW
   rw[vz (Y:=fun j=>decide (j<ops.size)) (fun j aI=>by rw[cQ j (sS aI)];simp[sS aI]),<-vj ba _ (Nat.le_refl _) d jW]at ir
   rw[List.getD_eq_getElem?_getD,ao]at ir
   have bh:a.tmps[d]?=some av:=by simpa using dd
   rw[Array.getD_eq_getD_getElem?,bh]at ir
   exact ir
 intro fuel
 induction fuel with
 | zero=>
  intro de a w H jw hu ak
  have cQ:∀i,i<ops.size->de.getD i false=true:=by
   intro i ad
   cases ag:de.getD i false with
   | true=>rfl
   | false=>have:=A3 (X:=fun j=>de.getD j false) ad ag;omega
  refine⟨?_,fin de a w H jw cQ ak⟩
  unfold Region.ready
  rw[List.filter_eq_nil_iff]
  intro i ad
  have:=cQ i (List.mem_range.1 ad)
  simp only[Array.getD_eq_getD_getElem?,Array.getElem?_eq_getElem (show i<de.size by have:=List.mem_range.1 ad;omega),Option.getD_some]at this⊢
  simp[this]
 | succ fuel aW=>
  intro de a w H jw hu ak
  refine⟨fun aE=>fin de a w H jw (L7 aE jw ee) ak,fun i ad=>?_⟩
  obtain⟨U,aj⟩:=L8 ad jw
  have cW:i<ops.size:=(Array.getElem?_eq_some_iff.1 aj.1).1
  have zJ:=K1 (de:=de) (i:=i) (by omega)
  have cont:∀(av:Value) (a7:World) (H1:ab),k8 P base ops T V aX dV ai dP (eH (fun j=>de.getD j false) i) (a.put U.dst av) a7 H1->wpAny P .any ops Q fuel (de.setIfInBounds i true) (a.put U.dst av) a7:=by
   intro av a7 H1 rp
   refine aW _ _ a7 H1 (by simpa using jw) ?_ (by rw[zJ];exact rp)
   rw[zJ]
   have:=A3 (X:=fun j=>de.getD j false) cW aj.2.1
   omega
  have lT:=ak.operands ee ah ba aj
  have TG:=ak.wanted ee ba aj
  have zj:=ar i U aj.1
  unfold wpOp
  simp only[aj.1,TG]
  cases bu:dV i with
  | none=>
   rw[bu]at zj
   obtain⟨au,adK⟩:=zj
   have quiet:∀av,bf ai (V i) av->k8 P base ops T V aX dV ai dP (eH (fun j=>de.getD j false) i) (a.put U.dst av) w H:=fun av ao=>
    ak.put ee aj rfl (fun b af=>by obtain⟨x,I⟩:=af;rw[bu]at I;cases I) (fun b _=>rfl) ao ak.ix (Step.refl _ _ _)
   rcases h i U aj.1 with⟨o,aa,aD⟩ | ⟨o,aa,aD,bD⟩ | ⟨o,aa,aD⟩
   ·rw[o]
    exact cont undef w H (quiet undef (by rw[aa];exact bf.undef _))
   ·rw[o]
    obtain⟨av,gH,ao⟩:=BU aD lT w
    refine .inl ?_
    unfold Oper.wp
    rw[gH]
    exact cont av w H (quiet av ao)
   ·rcases au with q | q
    ·rw[o]at q;cases q
    ·rw[aa]at q;cases q
  | some bs=>
   obtain⟨b,y⟩:=bs
   rw[bu]at zj
   obtain⟨o,aa,aD,bD,b2,gE⟩:=zj
   rw[o]
   have JV:∀j,j≠i->mm dV j b->n3 (Region.before ops) (min j i) (max j i)=true:=fun j aI ⟨x,I⟩=>by
    have fP:j<ops.size:=by
     rcases Nat.lt_or_ge j ops.size with q | q
     ·exact q
     ·exact absurd I (by rw[ue j q];simp)
    have JU:=Array.getElem?_eq_getElem fP
    have lS:=ar j _ JU
    rw[I]at lS
    rcases lr j i b x y I bu aI with q | q
    ·exact s_ q aj.1 aa (Ne.symm aI)
    ·have:=s_ q JU lS.2.1 aI
     rw[Nat.min_comm,Nat.max_comm]
     exact this
   have il:∀j,j<i->mm dV j b->de.getD j false=true:=fun j aI hw=>by
    have aH:=JV j (by omega) hw
    rw[show min j i=j by omega,show max j i=i by omega]at aH
    exact tf ee ak.closed i U aj.1 aj.2.2 j (by omega) aH
   have ih:∀j,i<j->mm dV j b->de.getD j false=false:=fun j aI hw=>by
    have aH:=JV j (by omega) hw
    rw[show min j i=i by omega,show max j i=j by omega]at aH
    cases aS:de.getD j false with
    | false=>rfl
    | true=>
     have:=yw ee ak.closed (ak.size j aS) aS cW aH
     exact absurd (aj.2.1.symm.trans this) Bool.false_ne_true
   have P3:H[b]?=(aX i)[b]?:=by
    obtain⟨k,j8,lz,sy,xf⟩:=ak.row b
    rw[xf]
    rcases Nat.le_total k i with eY | eY
    ·have:=z7 ar (b:=b) (i-k) k (by omega) fun j aT aQ hw=>by
      have bq:=sy j aT hw
      have bh:=il j (by omega) hw
      exact Bool.false_ne_true (bq.symm.trans bh)
     rw[show k+(i-k)=i by omega]at this
     exact this.symm
    ·have:=z7 ar (b:=b) (k-i) i (by omega) fun j aT aQ hw=>by
      have bq:=lz j (by omega) hw
      by_cases fc:j=i
      ·subst fc;exact Bool.false_ne_true (aj.2.1.symm.trans bq)
      ·exact Bool.false_ne_true ((ih j (by omega) hw).symm.trans bq)
     rw[show i+(k-i)=k by omega]at this
     exact this
   have hm:=gE H P3
   obtain⟨bo,av,a7,gH,ao,g_,cS⟩:=Lm hm ak.ix lT
   have hlen:(l0 H b y).length=H.length:=by cases y<;>simp[l0]
   obtain rfl:=Wh g_ cS hlen
   have gF:b<H.length:=by rw[ak.len,<-KY ar i (by omega)];exact aD
   have Ii:k8 P base ops T V aX dV bo dP (eH (fun j=>de.getD j false) i) (a.put U.dst av) a7 (l0 H b y):=by
    refine ak.put ee aj hlen (fun c ag=>?_) (fun c ag=>?_) ao g_ cS
    ·obtain⟨x,I⟩:=ag
     rw[bu]at I
     simp only[Option.some.injEq,Prod.mk.injEq]at I
     obtain⟨rfl,rfl⟩:=I
     refine⟨?_,il,ih⟩
     simp only[l0]at b2⊢
     rw[List.getElem?_set_self gF,b2,List.getElem?_set_self aD]
    ·cases y with
     | none=>rfl
     | some x=>
      have:b≠c:=fun e=>ag ⟨x,by rw[bu,e]⟩
      simp only[l0]
      rw[List.getElem?_set_ne this]
   refine .inl ?_
   unfold Oper.wp
   rcases gH with gH | ⟨gH,rfl⟩
   ·rw[gH];exact cont av a7 _ Ii
   ·rw[gH];exact cont undef a7 _ Ii
end
section
variable {P:Program} {base:Nat}
def uL(tmps:Array Value):ResultVar->Sem Value
 | .tmp t=>pure (tmps.getD t undef)
 | .cell a t=>do loadVar t (<-asAddr (tmps.getD a undef))
theorem Xn{ai:bc}{H:ab}{w:World}{t:List Value}{a:Act}(cg:cF ai t a.tmps.toList)(bE:b9 P base ai H w){rs:List ResultVar}{aB:List Value}(h:lG P t H rs aB):∃hh,(rs.mapM (uL a.tmps)).run P w= .ok hh w/\cF ai aB hh:=by
 have BX:∀i,bf ai (t.getD i undef) (a.tmps.getD i undef):=fun i=>xK (x:= .tmp i) cg rfl
 induction h with
 | nil=>exact⟨[],by simp,cF.nil ai⟩
 | tmp an aW=>
  rename_i i rs aB
  obtain⟨hh,o,aa⟩:=aW
  exact⟨_::hh,by simp[List.mapM_cons,uL,o],(cF.cons (BX i) aa)⟩
 | ys aF I aS ag ao an aW=>
  rename_i r ty b i X cs v rs aB
  obtain⟨hh,o,aa⟩:=aW
  obtain⟨k,ah,he⟩:=(I▸BX r).qY
  obtain⟨u,aT,aQ⟩:=bE.cell ah aS ag ao
  exact⟨u::hh,by simp[List.mapM_cons,uL,he,asAddr,loadVar,Ay aF,aT,o],cF.cons aQ aa⟩
 | yt aF aE I aS ag bp an aW=>
  rename_i r ty b i n X cs rs aB
  obtain⟨hh,o,aa⟩:=aW
  obtain⟨k,ah,he⟩:=(I▸BX r).qY
  obtain⟨us,ar,lO,aj⟩:=bE.cells ah aS ag bp
  have gH:=run_loadCells_list (P:=P) w ⟨k.g,k.U+i,none⟩ us lO
  rw[ar]at gH
  exact⟨.agg us.toArray::hh,by simp[List.mapM_cons,uL,he,asAddr,loadVar,Ay aF,kb aE,gH,o],cF.cons (.agg aj.toArray.1 aj.toArray.2) aa⟩
theorem W8{ai:bc}{H:ab}{w:World}{t:List Value}{a:Act}{fn:Func}(cg:cF ai t a.tmps.toList)(bE:b9 P base ai H w){aB:List Value}(h:lG P t H fn.results.toList aB):∃av,(results fn a.tmps).run P w= .ok av w/\bf ai (bj aB) av:=by
 obtain⟨hh,o,aa⟩:=Xn cg bE h
 have e:(fn.results.mapM (uL a.tmps)).run P w= .ok hh.toArray w:=by
  rw[Array.mapM_eq_mapM_toList]
  simp[o]
 have bh:(results fn a.tmps).run P w= .ok (if h:hh.toArray.size=1 then hh.toArray[0]else .tuple hh.toArray) w:=by
  have:results fn a.tmps=(do let aB<-fn.results.mapM (uL a.tmps);pure (if h:aB.size=1 then aB[0]else .tuple aB)):=rfl
  rw[this]
  simp[e]
 refine⟨_,bh,?_⟩
 have ar:=aa.1
 unfold bj
 match aB,hh,ar,aa with
 | [],[],_,aa=>exact .tuple rfl aa.toArray.2
 | [v],[av],_,aa=>exact aa.2 0 v av rfl rfl
 | v::v2::aB,u::k2::us,_,aa=>
  have:¬((u::k2::us).toArray.size=1):=by simp
  rw[dif_neg this]
  exact .tuple aa.toArray.1 aa.toArray.2
def s4(P:Program)(base:Nat)(c:Code)(e:ds)(pO:List Value)(aC:ab):Nat->List Value->ab->Prop
 | 0,t,H=>Sound P base (.code c t H) (.code e pO aC)/\e≠ .normal
 | n+1,t,H=>∃t1 H1,Sound P base (.code c t H) (.code .normal t1 H1)/\s4 P base c e pO aC n t1 H1
theorem K5{c:Code}{e:ds}{t pO:List Value}{H aC:ab}{n:Nat}(h:s4 P base c e pO aC n t H):Sound P base (.code (.loop c) t H) (.code e pO aC):=by
 intro ai w a cg hs bE Q aG
 refine wp_loop_ghost (fun m b4 a7=>∃bo t1 H1,cF bo t1 b4.tmps.toList/\b4.defers=[]/\b9 P base bo H1 a7/\Step ai H w bo H1 a7/\s4 P base c e pO aC m t1 H1) n ⟨ai,t,H,cg,hs,bE,Step.refl _ _ _,h⟩ ?_
 rintro m b4 a7 ⟨bo,t1,H1,n9,nx,g_,lx,aj⟩
 cases m with
 | zero=>
  obtain⟨an,cG⟩:=aj
  refine an bo a7 b4 n9 nx g_ _ fun m2 dq h6 vR wu vW wV=>?_
  have:=aG m2 dq h6 vR wu vW (lx.trans wV)
  cases e with
  | normal=>exact absurd rfl cG
  | exit id=>exact this
  | ret=>exact this
 | succ m=>
  obtain⟨t2,a0,an,aj⟩:=aj
  refine an bo a7 b4 n9 nx g_ _ fun m2 dq h6 vR wu vW wV=>?_
  exact⟨m,Nat.lt_succ_self m,m2,t2,a0,vR,wu,vW,lx.trans wV,aj⟩
def NL(P:Program)(base:Nat):oS->Out->Prop
 | .code (.loop c) t H,.code e pO aC=>∃n,s4 P base c e pO aC n t H
 | _,_=>True
theorem Xl(hm:P.follows .mixedOrders=true){j:oS}{U:Out}(h:dK P j U):Sound P base j U/\NL P base j U:=by
 induction h with
 | skip=>exact⟨fun ai w a cg hs bE Q aG=>wp_skip (aG ai a w cg hs bE (Step.refl _ _ _)),trivial⟩
 | ret=>exact⟨fun ai w a cg hs bE Q aG=>wp_ret (aG ai a w cg hs bE (Step.refl _ _ _)),trivial⟩
 | exit=>exact⟨fun ai w a cg hs bE Q aG=>wp_exit (aG ai a w cg hs bE (Step.refl _ _ _)),trivial⟩
 | AB o aa kW pC=>
  refine⟨fun ai w a cg hs bE Q aG=>wp_seq (kW.1 ai w a cg hs bE _ fun bo b4 a7 n9 nx g_ lx=>?_),trivial⟩
  exact pC.1 bo a7 b4 n9 nx g_ Q fun m2 dq h6 vR wu vW wV=>aG m2 dq h6 vR wu vW (lx.trans wV)
 | xI o he kW=>
  rename_i yi g8 t t1 H H1 e
  refine⟨fun ai w a cg hs bE Q aG=>wp_seq (kW.1 ai w a cg hs bE _ fun bo b4 a7 n9 nx g_ lx=>?_),trivial⟩
  have:=aG bo b4 a7 n9 nx g_ lx
  cases e with
  | normal=>exact absurd rfl he
  | exit id=>exact this
  | ret=>exact this
 | cond ag ah h aW=>
  rename_i c x y b t t1 H H1 e
  refine⟨fun ai w a cg hs bE Q aG=>?_,trivial⟩
  have ao:=xK cg ah
  rw[ag]at ao
  exact wp_cond ao.Hv (aW.1 ai w a cg hs bE Q aG)
 | block h aW=>
  rename_i id c t t1 H H1 e
  refine⟨fun ai w a cg hs bE Q aG=>wp_block (aW.1 ai w a cg hs bE _ fun bo b4 a7 n9 nx g_ lx=>?_),trivial⟩
  have:=aG bo b4 a7 n9 nx g_ lx
  cases e with
  | normal=>simpa[ds.real,Exit.inBlock]using this
  | exit hv=>
   by_cases ad:hv=id
   ·subst ad;simpa[ds.real,Exit.inBlock]using this
   ·simpa[ds.real,Exit.inBlock,ad]using this
  | ret=>simpa[ds.real,Exit.inBlock]using this
 | z9 o aa kW pC=>
  obtain⟨n,aj⟩:=pC.2
  have:s4 P base _ _ _ _ (n+1) _ _:=⟨_,_,kW.1,aj⟩
  exact⟨K5 this,n+1,this⟩
 | xj o he kW=>
  have:s4 P base _ _ _ _ 0 _ _:=⟨kW.1,he⟩
  exact⟨K5 this,0,this⟩
 | region T V aX ah h ba aJ aW=>
  rename_i id ops draw
  have lT:∀(i:Nat) (U:Oper),ops[i]?=some U->s3 P base ops U (T i) (aX i) (V i) (aX (i+1)):=fun i U aM=>(aW i U aM).1
  refine⟨fun ai w a cg hs bE Q aG=>?_,trivial⟩
  cases draw with
  | false=>
   refine wp_region ?_
   rw[List.range_eq_range']
   exact El ah lT ba (fun bo b4 a7 aT aQ bn b8=>aG bo b4 a7 aT aQ bn b8) ops.size 0 (by omega) ai a w cg hs bE (Step.refl _ _ _)
  | true=>
   obtain⟨ee,bK⟩:=aJ rfl
   refine wp_region_any hm ?_
   obtain⟨bg,o,aa,aD,bD⟩:=Ei ops ops.size 0 (by omega)
   have tz:b9 P base ai (aX 0) {w with drawn:=w.drawn+1}:=bE.heap rfl
   have a2:∀j U,ops[j]?=some U->bF P U=true->aX (j+1)=aX j:=fun j U aM ax=>by
    rcases lT j U aM with⟨-,-,aD⟩ | ⟨-,-,-,aD⟩ | ⟨-,aa,-⟩
    ·exact aD
    ·exact aD
    ·rw[ax]at aa;cases aa
   have mA:Ext (aX 0) (aX bg):=by
    have:=xH a2 bK aa aD bg 0 (Nat.zero_le _) (by omega)
    simpa using this
   have pc:∀j,(Array.replicate ops.size false).getD j false=false:=fun j=>by
    simp only[Array.getD_eq_getD_getElem?,Array.getElem?_replicate]
    split<;>rfl
   refine NW (V:=V) (hV:=ai) (dP:=w) ee ah lT ba bK (fun bo b4 a7 aT aQ bn b8=>aG bo b4 a7 aT aQ bn b8) ops.size (Array.replicate ops.size false) 0 bg ai a _ (by simp) (by unfold sO;exact Nat.le_trans (List.length_filter_le _ _) (by simp)) ?_
   refine⟨(fun i U e aS=>by rw[pc]at aS;cases aS),o,aa,aD,(fun j U aI=>by omega),fun j U _ _ _=>pc j,bD,tz.grow mA,fun b k af=>af,fun b k af=> .inl (bE.ez b k af).2,?_,(fun j _ aS=>by rw[pc]at aS;cases aS),fun v ao=>?_,bE.pos,Nat.le_refl _,by simpa using cg.1.symm,?_,hs,?_⟩
   ·intro j aT aQ b k x cs v af gF I ag ao
    have lM:=(bE.ez b k af).2
    rw[mA.get lM]at I
    obtain⟨u,hu⟩:=(bE.eO b k x af I).Fl ag ao
    have hlen:(aX 0).length<=(aX j).length:=by
     have:=(xH a2 bK aa aD j 0 (Nat.zero_le _) (by omega)).len
     simpa using this
    exact(jl.of (fun b k af=>(bE.ez b k af).2) hu).mono hlen
   ·obtain⟨i,ad⟩:=List.getElem?_of_mem ao
    obtain⟨u,-,hu⟩:=cg.get ad
    exact jl.of (fun b k af=>(bE.ez b k af).2) hu
   ·intro d aJ
    rw[BC (fun j aS=>by rw[pc]at aS;cases aS)]
    exact xK (x:= .tmp d) cg rfl
   ·have:=(Step.drawn ai (aX 0) w (w.drawn+1)).grow tz mA
    exact this
 | Ax T V aX dV ah h ba ee ar aJ ue aW=>
  rename_i id ops draw
  have lT:∀(i:Nat) (U:Oper),ops[i]?=some U->s3 P base ops U (T i) (aX i) (V i) (aX (i+1)):=fun i U aM=>(aW i U aM).1
  refine⟨fun ai w a cg hs bE Q aG=>?_,trivial⟩
  cases draw with
  | false=>
   refine wp_region ?_
   rw[List.range_eq_range']
   exact El ah lT ba (fun bo b4 a7 aT aQ bn b8=>aG bo b4 a7 aT aQ bn b8) ops.size 0 (by omega) ai a w cg hs bE (Step.refl _ _ _)
  | true=>
   refine wp_region_any hm ?_
   have tz:b9 P base ai (aX 0) {w with drawn:=w.drawn+1}:=bE.heap rfl
   have pc:∀j,(Array.replicate ops.size false).getD j false=false:=fun j=>by
    simp only[Array.getD_eq_getD_getElem?,Array.getElem?_replicate]
    split<;>rfl
   refine VL (V:=V) (ai:=ai) (dP:=w) ee ah lT ba ar aJ ue (fun bo b4 a7 aT aQ bn b8=>aG bo b4 a7 aT aQ bn b8) ops.size (Array.replicate ops.size false) a _ (aX 0) (by simp) (by unfold sO;exact Nat.le_trans (List.length_filter_le _ _) (by simp)) ?_
   refine⟨(fun i U e aS=>by rw[pc]at aS;cases aS),(fun j aS=>by rw[pc]at aS;cases aS),rfl,(fun b=>⟨0,Nat.zero_le _,fun j aI=>absurd aI (Nat.not_lt_zero j),fun j _ _=>pc j,rfl⟩),tz,by simpa using cg.1.symm,?_,hs,Step.drawn ai (aX 0) w (w.drawn+1)⟩
   intro d aJ
   rw[BC (fun j aS=>by rw[pc]at aS;cases aS)]
   exact xK (x:= .tmp d) cg rfl
 | sC hw=>exact⟨.inl ⟨hw,rfl,rfl⟩,trivial⟩
 | uC hw a2 h=>exact⟨.inr (.inl ⟨hw,a2,h,rfl⟩),trivial⟩
 | qV hw a2 h=>
  refine⟨.inr (.inr ⟨hw,a2,fun ai w a bW bE K Q a1=>?_⟩),trivial⟩
  obtain⟨bo,av,a7,aj,ao,g_,cS⟩:=Lm h bE bW
  unfold Oper.wp
  rcases aj with aj | ⟨aj,rfl⟩
  ·rw[aj];exact a1 bo av a7 ao g_ cS
  ·rw[aj];exact a1 bo undef a7 ao g_ cS
 | uB hw a2 aM ax aV aE af h aW=>
  rename_i ops U t H H1 v f args kI g first cap fn
  refine⟨.inr (.inr ⟨hw,a2,fun ai w a bW bE K Q a1=>?_⟩),trivial⟩
  have zb:=bW f (by simp[aM,Op.operands,Call.operands])
  rw[ax]at zb
  obtain⟨vE,dn,he,o,aa⟩:∃vE dn,a.eval f= .func (.func g) vE dn/\eT ai first vE/\eT ai cap dn:=by
   generalize a.eval f=u at zb
   cases zb with
   | func _ ar cR dA ev=>exact⟨_,_,rfl,⟨ar,cR⟩,dA,ev⟩
  have rV:cF ai (args.toList.map (eZ t)) (args.toList.map a.eval):=by
   refine⟨by simp,fun i u aae hu ug=>?_⟩
   simp only[List.getElem?_map,Option.map_eq_some_iff]at hu ug
   obtain⟨x,I,rfl⟩:=hu
   obtain⟨y,aL,rfl⟩:=ug
   rw[I]at aL
   obtain rfl:=Option.some.inj aL
   exact bW x (by simp[aM,Op.operands,Call.operands];exact .inr (by simpa using List.mem_of_getElem? I))
  have gH:(execOp a.eval U).run P w= .ok (.enter g (vE++args.map a.eval++dn)) w:=by
   have wj:¬fn.body=none:=fun e=>by rw[e]at af;cases af
   have hb:¬fn.name= "runtime.NumGoroutine" :=by simpa using aE
   simp[execOp,aM,resolve,he,Deferred.ofValue,invoke,callFunc,aV,hb,wj]
  unfold Oper.wp
  rw[gH,Oper.upon_enter]
  have Qf:cF ai (first.toList++args.toList.map (eZ t)++cap.toList) (vE++args.map a.eval++dn).toList:=by
   have:=(o.toList.append rV).append aa.toList
   simpa using this
  refine(aW.1 ai w _ Qf bE).mono fun e gm cR=>?_
  obtain⟨av,bo,rfl,ao,g_,cS⟩:=cR
  exact a1 bo av gm ao g_ cS
 | call ax af h he aj aW=>
  rename_i f fn c args t1 aB H H1 e
  refine⟨fun ai w kH cg bE=>?_,trivial⟩
  refine calls_of_wp ax af (aW.1 ai w _ ?_ rfl bE _ fun bo b4 a7 n9 nx g_ lx=>?_)
  ·have ar:args.length=kH.size:=by simpa using cg.1
   have:=cg.append (cF.replicate ai (fn.ntmps-args.length))
   rw[ar]at this⊢
   simpa using this
  ·obtain⟨av,aT,aQ⟩:=W8 n9 g_ aj
   rcases he with rfl | rfl
   ·exact⟨nx,av,aT,av,bo,rfl,aQ,g_,lx⟩
   ·exact⟨nx,av,aT,av,bo,rfl,aQ,g_,lx⟩
 | yq h aM aW=>
  refine⟨fun ai w kH cg bE=>?_,trivial⟩
  refine(aW.1 ai w kH cg bE).mono fun e gm cR=>?_
  obtain⟨av,bo,rfl,ao,g_,cS⟩:=cR
  obtain⟨j8,lz⟩:=g_.kill _ aM
  exact⟨av,bo,rfl,ao,j8,cS.trans lz⟩
theorem Xk(hm:P.follows .mixedOrders=true){f:FuncId}{args:List Value}{H H1:ab}{v:Value}(h:dK P (.call f args H) (.val v H1)){ai:bc}{w:World}{kH:Array Value}(cg:cF ai args kH.toList)(bE:b9 P base ai H w):
  Calls P f kH w fun e gm=>∃av bo,e= .returned av/\bf bo v av/\b9 P base bo H1 gm/\Step ai H w bo H1 gm:=(Xl hm h).1 ai w kH cg bE
end
def jM(op:BinOp)(k:IntKind)(a b:Int):Option Value:=
 match op with
 | .add=>some (.int k (k.wrap (a+b)))
 | .sub=>some (.int k (k.wrap (a-b)))
 | .mul=>some (.int k (k.wrap (a*b)))
 | .quo=>if b=0 then none else some (.int k (k.wrap (a.tdiv b)))
 | .rem=>if b=0 then none else some (.int k (a.tmod b))
 | .and=>some (.int k (k.wrap (BitVec.ofInt k.bits a&&&BitVec.ofInt k.bits b).toNat))
 | .or=>some (.int k (k.wrap (BitVec.ofInt k.bits a ||| BitVec.ofInt k.bits b).toNat))
 | .xor=>some (.int k (k.wrap (BitVec.ofInt k.bits a^^^BitVec.ofInt k.bits b).toNat))
 | .eql=>some (.bool (a==b))
 | .neq=>some (.bool (a !=b))
 | .lss=>some (.bool (decide (a<b)))
 | .leq=>some (.bool (decide (a<=b)))
 | .gtr=>some (.bool (decide (a>b)))
 | .geq=>some (.bool (decide (a>=b)))
 | _=>none
def vr(op:BinOp)(k:IntKind)(a b:Int):Option Value:=
 if b<0 then none else
 match op with
 | .shl=>some (.int k (k.wrap (a*2^(min b.toNat k.bits))))
 | .shr=>some (.int k (a.fdiv (2^(min b.toNat k.bits))))
 | _=>none
def ta(op:BinOp)(a b:ByteArray):Option Value:=
 match op with
 | .add=>if a.size+b.size<=9223372036854775807 then some (.string (a++b))else none
 | .eql=>some (.bool (a.toList==b.toList))
 | .neq=>some (.bool !(a.toList==b.toList))
 | .lss=>some (.bool (Op.bytesLess a.toList b.toList))
 | _=>none
def tb(P:Program)(t:TypeId):Bool:=match P.underlying t with
 | some .bool=>true
 | _=>false
def iy(P:Program)(t:TypeId):Bool:=match P.underlying t with
 | some .string=>true
 | _=>false
theorem KO{P:Program}{t:TypeId}{k:IntKind}(h:(match P.underlying t with | some (.int k)=>some k | _=>none)=some k):qP P t=true:=by
 unfold qP
 split at h
 ·rename_i bN ah;first | rw[ah] | rfl
 ·cases h
def jB(P:Program)(t:TypeId):Option IntKind:=match P.underlying t with
 | some (.int k)=>some k
 | _=>none
def eR(P:Program)(t:TypeId):Option TypeId:=match P.underlying t with
 | some (.slice e)=>some e
 | _=>none
theorem N6{P:Program}{t:TypeId}(h:tb P t=true):P.underlying t=some .bool:=by
 unfold tb at h
 split at h
 ·assumption
 ·cases h
theorem uQ{P:Program}{t:TypeId}(h:iy P t=true):P.underlying t=some .string:=by
 unfold iy at h
 split at h
 ·assumption
 ·cases h
theorem KP{P:Program}{t:TypeId}{k:IntKind}(h:jB P t=some k):P.underlying t=some (.int k):=by
 unfold jB at h
 split at h
 ·obtain rfl:=Option.some.inj h;assumption
 ·cases h
theorem EN{P:Program}{t e:TypeId}(h:eR P t=some e):P.underlying t=some (.slice e):=by
 unfold eR at h
 split at h
 ·obtain rfl:=Option.some.inj h;assumption
 ·cases h
def dO(P:Program)(op:BinOp)(t:TypeId)(x y:Value):Option Value:=
 match x,y with
 | .int k a,.int bN b=>if op= .shl\/op= .shr then vr op k a b else if k=bN then jM op k a b else none
 | .string a,.string b=>ta op a b
 | .bool a,.bool b=>if tb P t=true then(match op with | .eql=>some (.bool (a==b)) | .neq=>some (.bool (!(a==b))) | _=>none)else none
 | .slice a n c,.slice none 0 0=>match eR P t with
  | some _=>(match op with | .eql=>some (.bool a.isNone) | .neq=>some (.bool (!a.isNone)) | _=>none)
  | _=>none
 | _,_=>none
def oJ(op:UnOp)(x:Value):Option Value:=
 match op,x with
 | .neg,.int k n=>some (.int k (k.wrap (0-n)))
 | .xor,.int k n=>some (.int k (k.wrap (BitVec.ofInt k.bits (if k.signed then-1 else k.max)^^^BitVec.ofInt k.bits n).toNat))
 | .not,.bool b=>some (.bool !b)
 | _,_=>none
section
variable {P:Program} {aK:Operand->Value} {U:Oper} {H:ab}
theorem o3{U:Oper}(h:∀x∈U.op.operands,flat (aK x)=true):(U.op.operands.all fun x=>flat (aK x))=true:=by
 rw[Array.all_eq_true']
 exact h
theorem N0{op:BinOp}{k:IntKind}{a b:Int}{v:Value}(h:jM op k a b=some v)(t:TypeId):dk P (binOp op t (.int k a) (.int k b))=some v/\flat v=true:=by
 cases op<;>simp only[jM]at h<;>first
  | (cases h;done)
  | (split at h
     ·cases h
     ·rename_i af
      obtain rfl:=Option.some.inj h
      exact⟨by simp[binOp,Op.intDiv,af,eQ],rfl⟩)
  | (obtain rfl:=Option.some.inj h
     exact⟨by simp[binOp,Op.intArith,Op.intBits,Op.intCmp,eQ],rfl⟩)
theorem N1{op:BinOp}{k bN:IntKind}{a b:Int}{v:Value}(bW:op= .shl\/op= .shr)(h:vr op k a b=some v)(t:TypeId):dk P (binOp op t (.int k a) (.int bN b))=some v/\flat v=true:=by
 unfold vr at h
 split at h
 ·cases h
 ·rename_i af
  rcases bW with rfl | rfl
  ·simp only at h
   obtain rfl:=Option.some.inj h
   exact⟨by simp[binOp,Op.shift,af,eQ],rfl⟩
  ·simp only at h
   obtain rfl:=Option.some.inj h
   exact⟨by simp[binOp,Op.shift,af,eQ],rfl⟩
theorem N2{op:BinOp}{a b:ByteArray}{v:Value}(h:ta op a b=some v)(t:TypeId):dk P (binOp op t (.string a) (.string b))=some v/\flat v=true:=by
 unfold ta at h
 split at h
 ·split at h
  ·rename_i an
   obtain rfl:=Option.some.inj h
   have:¬((((a.size+b.size:Nat)):Int)>IntKind.i64.max):=by
    have:IntKind.i64.max=9223372036854775807:=by decide
    omega
   exact⟨by simp only[binOp,Op.stringOp,if_neg this];rfl,rfl⟩
  ·cases h
 ·obtain rfl:=Option.some.inj h
  exact⟨by simp[binOp,Op.stringOp,eQ],rfl⟩
 ·obtain rfl:=Option.some.inj h
  exact⟨by simp[binOp,Op.stringOp,eQ],rfl⟩
 ·obtain rfl:=Option.some.inj h
  exact⟨by simp[binOp,Op.stringOp,eQ],rfl⟩
 ·cases h
theorem WI(d:Nat){t:TypeId}{a b:Bool}(hu:P.underlying t=some .bool):dk P (Op.equalIn (d+1) t (.bool a) (.bool b))=some (a==b):=by
 simp only[Op.equalIn,fp,nO,hu,Option.bind_some]
 rfl
theorem Xr{op:BinOp}{t oP:TypeId}{x y:Operand}{v:Value}(aM:U.op= .binOp op t x y oP)(h:dO P op t (aK x) (aK y)=some v):hk P aK U v:=by
 have key:∀{a b:Value},aK x=a->aK y=b->flat a=true->flat b=true->(∀u:Unit,dk P (eqGuard op t x y a b)=some ())->dk P (binOp op t a b)=some v->flat v=true->hk P aK U v:=by
  intro a b aF af ny RO aV aj ao
  refine .pure (by simp[bF,aM]) (o3 fun z aP=>?_) ao ?_
  ·simp only[aM,Op.operands,List.mem_toArray,List.mem_cons,List.not_mem_nil,or_false]at aP
   rcases aP with rfl | rfl
   ·rw[aF];exact ny
   ·rw[af];exact RO
  ·simp only[execOp,aM,aF,af,fp,aV (),Option.bind_some,aj,eQ]
 unfold dO at h
 split at h
 ·rename_i k a bN b o aa
  have aV:∀u:Unit,dk P (eqGuard op t x y (.int k a) (.int bN b))=some ():=fun _=>by unfold eqGuard;split<;>rfl
  split at h
  ·rename_i bW
   obtain⟨aT,aQ⟩:=N1 (P:=P) (bN:=bN) bW h t
   exact key o aa rfl rfl aV aT aQ
  ·split at h
   ·rename_i ah
    subst ah
    obtain⟨aT,aQ⟩:=N0 (P:=P) h t
    exact key o aa rfl rfl aV aT aQ
   ·cases h
 ·rename_i a b o aa
  obtain⟨aT,aQ⟩:=N2 (P:=P) h t
  exact key o aa rfl rfl (fun _=>by unfold eqGuard;split<;>rfl) aT aQ
 ·rename_i a b o aa
  split at h
  ·rename_i hu
   have hu:=N6 hu
   have aV:∀u:Unit,dk P (eqGuard op t x y (.bool a) (.bool b))=some ():=fun _=>by unfold eqGuard;split<;>rfl
   have he:dk P (Op.equal t (.bool a) (.bool b))=some (a==b):=WI 9999 hu
   split at h
   ·obtain rfl:=Option.some.inj h
    exact key o aa rfl rfl aV (by simp only[binOp,fp,he,Option.bind_some,eQ]) rfl
   ·obtain rfl:=Option.some.inj h
    exact key o aa rfl rfl aV (by simp only[binOp,fp,he,Option.bind_some,eQ]) rfl
   ·cases h
  ·cases h
 ·rename_i a n c o aa
  split at h
  ·rename_i e hu
   have hu:=EN hu
   split at h
   ·obtain rfl:=Option.some.inj h
    exact .H9 aM hu o aa
   ·obtain rfl:=Option.some.inj h
    exact .Lw aM hu o aa
   ·cases h
  ·cases h
 ·cases h
theorem X2{op:UnOp}{t:TypeId}{x:Operand}{v:Value}(aM:U.op= .unOp op t x)(h:oJ op (aK x)=some v):hk P aK U v:=by
 have key:∀{a:Value},aK x=a->flat a=true->dk P (Op.unary op a)=some v->flat v=true->hk P aK U v:=by
  intro a aF ny aj ao
  refine .pure (by simp[bF,aM]) (o3 fun z aP=>?_) ao ?_
  ·simp only[aM,Op.operands,List.mem_toArray,List.mem_cons,List.not_mem_nil,or_false]at aP
   subst aP
   rw[aF];exact ny
  ·simp only[execOp,aM,aF,fp,aj,Option.bind_some,eQ]
 unfold oJ at h
 split at h
 ·rename_i k n o
  obtain rfl:=Option.some.inj h
  exact key o rfl (by simp[Op.unary,Op.intArith,eQ]) rfl
 ·rename_i k n o
  obtain rfl:=Option.some.inj h
  exact key o rfl (by simp[Op.unary,Op.intBits,eQ]) rfl
 ·rename_i b o
  obtain rfl:=Option.some.inj h
  exact key o rfl (by simp[Op.unary,eQ]) rfl
 ·cases h
end
def h_(H:ab)(b:Nat):Option (List Value):=(H[b]?).bind bB.cells?
def gd(P:Program)(s:TypeId)(f:Nat):Option Nat:=match P.underlying s with
 | some (.struct jq)=>(match jq[f]? with
  | some fd=>(match bm P fd.type with
   | some (_+1)=>some fd.offset
   | _=>none)
  | none=>none)
 | _=>none
theorem PF{P:Program}{s:TypeId}{f off:Nat}(h:gd P s f=some off):∃jq fd n,P.underlying s=some (.struct jq)/\jq[f]?=some fd/\bm P fd.type=some (n+1)/\fd.offset=off:=by
 unfold gd at h
 split at h
 ·rename_i jq hu
  split at h
  ·rename_i fd ax
   split at h
   ·rename_i n an
    exact⟨jq,fd,n,hu,ax,an,by simpa using h⟩
   ·cases h
  ·cases h
 ·cases h
def qc(P:Program)(s:TypeId)(f:Nat):Option (Nat×Option Nat):=match P.underlying s with
 | some (.struct jq)=>(match jq[f]? with
  | some fd=>(match da P fd.type with
   | some false=>some (fd.offset,none)
   | some true=>(bm P fd.type).map fun n=>(fd.offset,some n)
   | none=>none)
  | none=>none)
 | _=>none
def o0(cs:Array Value):Nat×Option Nat->Option Value
 | (off,none)=>cs[off]?
 | (off,some n)=>some (.agg (cs.extract off (off+n)))
theorem oF{P:Program}{α β:Type}(x:Sem α)(f:α->β):dk P (f<$>x)=(dk P x).map f:=by
 rw[map_eq_pure_bind,fp]
 cases dk P x<;>rfl
theorem PE{P:Program}{s:TypeId}{f:Nat}{c:Nat×Option Nat}{cs:Array Value}{v:Value}(h:qc P s f=some c)(ao:o0 cs c=some v):dk P (Instr.field s (.agg cs) f)=some v:=by
 unfold qc at h
 split at h
 ·rename_i jq hu
  split at h
  ·rename_i fd ax
   simp only[Instr.field,fp,nO,hu,Option.bind_some,ax,asAgg,eQ,part,LR]
   unfold da at h
   cases aJ:P.underlying fd.type with
   | none=>simp[aJ]at h
   | some d=>
    simp only[aJ,Option.map_some]at h⊢
    cases d<;>simp only at h<;>first
     | (obtain rfl:=Option.some.inj h
        simp only[o0]at ao
        simp[ao,eQ]
        done)
     | (obtain⟨n,aE,rfl⟩:=Option.map_eq_some_iff.1 h
        simp only[o0,Option.some.injEq]at ao
        subst ao
        simp[oF,xy,aE])
  ·cases h
 ·cases h
def q5(P:Program)(aK:Operand->Value)(H:ab):Callee->List Operand->List TypeId->Option (Value×ab)
 | .builtin .len,[x],[t]=>(match aK x with
  | .slice _ n _=>(match eR P t with
   | some _=>some (.int .i64 n,H)
   | none=>none)
  | .string s=>if iy P t=true then some (.int .i64 s.size,H)else none
  | _=>none)
 | .builtin .max,[x,y],_=>(match aK x,aK y with
  | .int k a,.int _ b=>some (.int k (if b>a then b else a),H)
  | _,_=>none)
 | .builtin .min,[x,y],_=>(match aK x,aK y with
  | .int k a,.int _ b=>some (.int k (if b<a then b else a),H)
  | _,_=>none)
 | _,_,_=>none
def bT(P:Program)(aK:Operand->Value)(H:ab):Op->Option (Value×ab)
 | .move x=>some (aK x,H)
 | .assign x=>some (aK x,H)
 | .pick c a b=>(match aK c with
  | .bool t=>some (if t then aK a else aK b,H)
  | _=>none)
 | .alloc e=>(match dw P e with
  | some z=>if flat z=true/\(bm P e).isSome=true then some (.pointer (some ⟨H.length,0,none⟩),H++[.own e false z.cells.toList])else none
  | none=>none)
 | .box e x=>if(bm P e).isSome=true then some (.pointer (some ⟨H.length,0,none⟩),H++[.own e false (aK x).cells.toList])else none
 | .load ty x=>(match aK x with
  | .pointer (some ⟨b,i,none⟩)=>(match h_ H b with
   | some cs=>(match da P ty with
    | some false=>(cs[i]?).map fun v=>(v,H)
    | some true=>(match bm P ty with
     | some n=>if i+n<=cs.length then some (.agg ((cs.drop i).take n).toArray,H)else none
     | none=>none)
    | none=>none)
   | none=>none)
  | _=>none)
 | .store ty x y=>(match aK x with
  | .pointer (some ⟨b,i,none⟩)=>(match H[b]? with
   | some (.own e l cs)=>if bm P ty=some (aK y).cells.size/\i+(aK y).cells.size<=cs.length/\((aK y).cells.toList.all (·.oneCell'))=true then some (undef,H.set b (.own e l (c3 cs i (aK y).cells.toList)))else none
   | _=>none)
  | _=>none)
 | .nilCheck x=>(match aK x with
  | .pointer (some a)=>some (.pointer (some a),H)
  | _=>none)
 | .binOp op t x y _=>(dO P op t (aK x) (aK y)).map fun v=>(v,H)
 | .unOp op _ x=>(oJ op (aK x)).map fun v=>(v,H)
 | .convert src dst x=>(match aK x with
  | .int _ n=>(match jB P src,jB P dst with
   | some _,some k=>some (.int k (k.wrap n),H)
   | _,_=>none)
  | .string s=>if iy P src=true/\iy P dst=true then some (.string s,H)else none
  | _=>none)
 | .makeInterface t x=>if P.concrete t=true then some (.iface t (aK x),H)else none
 | .makeFunc fn a b=>some (.func fn (a.map aK) (b.map aK),H)
 | .fieldAddr s x f=>(match aK x with
  | .pointer (some ⟨b,i,none⟩)=>(gd P s f).map fun off=>(.pointer (some ⟨b,i+off,none⟩),H)
  | _=>none)
 | .field t x f=>(match aK x with
  | .agg cs=>(match qc P t f with
   | some c=>(o0 cs c).map fun v=>(v,H)
   | none=>none)
  | _=>none)
 | .indexAddr t x ey=>(match aK x,aK ey with
  | .slice (some ⟨b,i,none⟩) len _,.int _ n=>(match eR P t with
   | some e=>(match bm P e with
    | some R=>if 0<=n/\n<len then some (.pointer (some ⟨b,i+n.toNat*R,none⟩),H)else none
    | none=>none)
   | none=>none)
  | _,_=>none)
 | .index t x ey=>(match aK x,aK ey with
  | .string s,.int _ n=>if iy P t=true/\0<=n/\n<s.size then some (.int .u8 ((s.data.getD n.toNat 0).toNat:Int),H)else none
  | _,_=>none)
 | .extract x i=>(match aK x with
  | .tuple aB=>(aB[i]?).map fun v=>(v,H)
  | _=>none)
 | .build t aU=>(match dw P t with
  | some z=>if flat z=true then(dk P (Instr.build t (aU.map fun p=>(p.1,aK p.2)))).map fun v=>(v,H)else none
  | none=>none)
 | .call c=>q5 P aK H c.callee c.args.toList c.argTypes.toList
 | .slice t x bX ad none=>(match aK x with
  | .string s=>(match dN aK bX,fl aK s.size ad with
   | some l,some h=>if iy P t=true/\l<=h/\h<=s.size then some (.string (s.extract l h),H)else none
   | _,_=>none)
  | _=>none)
 | _=>none
theorem yu{H:ab}{b:Nat}{cs:List Value}(h:h_ H b=some cs):∃X,H[b]?=some X/\X.cells?=some cs:=by
 unfold h_ at h
 cases af:H[b]? with
 | none=>simp[af]at h
 | some X=>exact⟨X,rfl,by simpa[af]using h⟩
theorem xg{aK:Operand->Value}{x:Operand}{n d:Nat}(h:dN aK (some x)=some n\/fl aK d (some x)=some n):∃k m,aK x= .int k m/\0<=m/\m.toNat=n:=by
 simp only[dN,fl,or_self]at h
 split at h
 ·rename_i k m he
  split at h
  ·rename_i aH;exact⟨k,m,he,aH,by simpa using h⟩
  ·cases h
 ·cases h
theorem Ao{P:Program}{k:IntKind}{n:Int}{y:Nat}{code:BoundsCode}(aH:0<=n)(o:n.toNat<=y):dk P (Instr.sliceBound (.int k n) y code)=some n.toNat:=by
 have:n<=(y:Int):=by omega
 simp only[Instr.sliceBound,asIntOf,fp,eQ,Option.bind_some]
 rw[if_pos ⟨aH,this⟩]
 rfl
theorem xP{P:Program}{ops:Array Oper}{U:Oper}{t:List Value}{H H1:ab}{v:Value}(hw:Region.wanted U (gM ops t)=true)(h:bT P (eZ t) H U.op=some (v,H1)):dK P (.op ops U t H) (.val v H1):=by
 have F:bF P U=true->hk P (eZ t) U v->H1=H->dK P (.op ops U t H) (.val v H1):=fun ax a2 e=>e▸ .uC hw ax a2
 have M:bF P U=false->eV P (eZ t) H U v H1->dK P (.op ops U t H) (.val v H1):=fun ax fb=> .qV hw ax fb
 cases bW:U.op<;>rw[bW]at h<;>try (simp[bT]at h;done)
 case move x=>simp only[bT,Option.some.injEq,Prod.mk.injEq]at h;obtain⟨rfl,rfl⟩:=h;exact F (by simp[bF,bW]) (.move bW) rfl
 case assign x=>simp only[bT,Option.some.injEq,Prod.mk.injEq]at h;obtain⟨rfl,rfl⟩:=h;exact F (by simp[bF,bW]) (.assign bW) rfl
 case pick c a b=>
  simp only[bT]at h
  split at h
  ·rename_i pO ag
   simp only[Option.some.injEq,Prod.mk.injEq]at h
   obtain⟨rfl,rfl⟩:=h
   exact F (by simp[bF,bW]) (.pick bW ag) rfl
  ·cases h
 case alloc e=>
  simp only[bT]at h
  split at h
  ·rename_i z aP
   split at h
   ·rename_i ag
    simp only[Option.some.injEq,Prod.mk.injEq]at h
    obtain⟨rfl,rfl⟩:=h
    obtain⟨n,aE⟩:=Option.isSome_iff_exists.1 ag.2
    exact M (by simp[bF,bW]) (.alloc bW aP ag.1 aE)
   ·cases h
  ·cases h
 case box e x=>
  simp only[bT]at h
  split at h
  ·rename_i ag
   simp only[Option.some.injEq,Prod.mk.injEq]at h
   obtain⟨rfl,rfl⟩:=h
   obtain⟨n,aE⟩:=Option.isSome_iff_exists.1 ag
   exact M (by simp[bF,bW]) (.box bW aE)
  ·cases h
 case load ty x=>
  simp only[bT]at h
  split at h
  ·rename_i b i I
   split at h
   ·rename_i cs fX
    obtain⟨X,aS,ag⟩:=yu fX
    split at h
    ·rename_i aF
     obtain⟨u,hu,he⟩:=Option.map_eq_some_iff.1 h
     simp only[Prod.mk.injEq]at he
     obtain⟨rfl,rfl⟩:=he
     exact M (by simp[bF,bW]) (.xh bW aF I aS ag hu)
    ·rename_i aF
     split at h
     ·rename_i n aE
      split at h
      ·rename_i bp
       simp only[Option.some.injEq,Prod.mk.injEq]at h
       obtain⟨rfl,rfl⟩:=h
       exact M (by simp[bF,bW]) (.xi bW aF aE I aS ag bp)
      ·cases h
     ·cases h
    ·cases h
   ·cases h
  ·cases h
 case store ty x y=>
  simp only[bT]at h
  split at h
  ·rename_i b i I
   split at h
   ·rename_i e l cs aS
    split at h
    ·rename_i ag
     simp only[Option.some.injEq,Prod.mk.injEq]at h
     obtain⟨rfl,rfl⟩:=h
     exact M (by simp[bF,bW]) (.store bW ag.1 I aS ag.2.1 ag.2.2)
    ·cases h
   ·cases h
  ·cases h
 case nilCheck x=>
  simp only[bT]at h
  split at h
  ·rename_i a I
   simp only[Option.some.injEq,Prod.mk.injEq]at h
   obtain⟨rfl,rfl⟩:=h
   exact F (by simp[bF,bW]) (I▸ .nilCheck bW I) rfl
  ·cases h
 case binOp op ty x y oP=>
  simp only[bT]at h
  obtain⟨u,hu,he⟩:=Option.map_eq_some_iff.1 h
  simp only[Prod.mk.injEq]at he
  obtain⟨rfl,rfl⟩:=he
  exact F (by simp[bF,bW]) (Xr bW hu) rfl
 case unOp op ty x=>
  simp only[bT]at h
  obtain⟨u,hu,he⟩:=Option.map_eq_some_iff.1 h
  simp only[Prod.mk.injEq]at he
  obtain⟨rfl,rfl⟩:=he
  exact F (by simp[bF,bW]) (X2 bW hu) rfl
 case convert src dst x=>
  simp only[bT]at h
  split at h
  ·rename_i iN n I
   split at h
   ·rename_i j8 k an aJ
    simp only[Option.some.injEq,Prod.mk.injEq]at h
    obtain⟨rfl,rfl⟩:=h
    have JC:bF P U=true:=by simp[bF,bW,KO an,KO aJ]
    refine F JC (.pure JC (o3 fun z aP=>?_) rfl ?_) rfl
    ·simp only[bW,Op.operands,List.mem_toArray,List.mem_cons,List.not_mem_nil,or_false]at aP
     subst aP
     rw[I];rfl
    ·simp only[execOp,bW,I,fp,convert,nO,KP an,KP aJ,Option.bind_some,Conv.intToInt,eQ]
   ·cases h
  ·rename_i s I
   split at h
   ·rename_i ag
    simp only[Option.some.injEq,Prod.mk.injEq]at h
    obtain⟨rfl,rfl⟩:=h
    refine M (by simp[bF,bW,qP,uQ ag.1]) (.sA (by simp[bW]) (o3 fun z aP=>?_) rfl ?_)
    ·simp only[bW,Op.operands,List.mem_toArray,List.mem_cons,List.not_mem_nil,or_false]at aP
     subst aP
     rw[I];rfl
    ·simp only[execOp,bW,I,fp,convert,nO,uQ ag.1,uQ ag.2,Option.bind_some,eQ]
   ·cases h
  ·cases h
 case makeInterface ty x=>
  simp only[bT]at h
  split at h
  ·rename_i ag
   simp only[Option.some.injEq,Prod.mk.injEq]at h
   obtain⟨rfl,rfl⟩:=h
   exact F (by simp[bF,bW]) (.Le bW ag) rfl
  ·cases h
 case makeFunc fn a b=>simp only[bT,Option.some.injEq,Prod.mk.injEq]at h;obtain⟨rfl,rfl⟩:=h;exact F (by simp[bF,bW]) (.makeFunc bW) rfl
 case fieldAddr s x f=>
  simp only[bT]at h
  split at h
  ·rename_i b i I
   obtain⟨off,SF,he⟩:=Option.map_eq_some_iff.1 h
   simp only[Prod.mk.injEq]at he
   obtain⟨rfl,rfl⟩:=he
   obtain⟨jq,fd,n,aT,aQ,bn,rfl⟩:=PF SF
   exact F (by simp[bF,bW]) (.fieldAddr bW aT aQ bn I) rfl
  ·cases h
 case field ty x f=>
  simp only[bT]at h
  split at h
  ·rename_i cs I
   split at h
   ·rename_i c ag
    obtain⟨u,hu,he⟩:=Option.map_eq_some_iff.1 h
    simp only[Prod.mk.injEq]at he
    obtain⟨rfl,rfl⟩:=he
    exact F (by simp[bF,bW]) (.field bW I (PE ag hu)) rfl
   ·cases h
  ·cases h
 case indexAddr ty x ey=>
  simp only[bT]at h
  split at h
  ·rename_i b i len cap k n I ad
   split at h
   ·rename_i e he
    split at h
    ·rename_i R an
     split at h
     ·rename_i ag
      simp only[Option.some.injEq,Prod.mk.injEq]at h
      obtain⟨rfl,rfl⟩:=h
      exact F (by simp[bF,bW]) (.KM bW (EN he) an I ad ag.1 ag.2) rfl
     ·cases h
    ·cases h
   ·cases h
  ·cases h
 case index ty x ey=>
  simp only[bT]at h
  split at h
  ·rename_i s k n I ad
   split at h
   ·rename_i ag
    simp only[Option.some.injEq,Prod.mk.injEq]at h
    obtain⟨rfl,rfl⟩:=h
    refine F (by simp[bF,bW]) (.pure (by simp[bF,bW]) (o3 fun z aP=>?_) rfl ?_) rfl
    ·simp only[bW,Op.operands,List.mem_toArray,List.mem_cons,List.not_mem_nil,or_false]at aP
     rcases aP with rfl | rfl
     ·rw[I];rfl
     ·rw[ad];rfl
    ·have a5:n.toNat<s.size:=by omega
     have bq:s[n.toNat]?=some (s.data.getD n.toNat 0):=by
      have:s[n.toNat]?=some s[n.toNat]:=by simp[a5]
      rw[this]
      have jb:n.toNat<s.data.size:=a5
      simp only[Array.getD_eq_getD_getElem?,Array.getElem?_eq_getElem jb,Option.getD_some]
      rfl
     simp only[execOp,bW,I,ad,fp,Instr.index,asIntOf,eQ,Option.bind_some,nO,uQ ag.1,if_pos ag.2.1,bq]
   ·cases h
  ·cases h
 case extract x i=>
  simp only[bT]at h
  split at h
  ·rename_i aB I
   obtain⟨u,hu,he⟩:=Option.map_eq_some_iff.1 h
   simp only[Prod.mk.injEq]at he
   obtain⟨rfl,rfl⟩:=he
   exact F (by simp[bF,bW]) (.extract bW I hu) rfl
  ·cases h
 case build ty aU=>
  simp only[bT]at h
  split at h
  ·rename_i z aP
   split at h
   ·rename_i ax
    obtain⟨u,hu,he⟩:=Option.map_eq_some_iff.1 h
    simp only[Prod.mk.injEq]at he
    obtain⟨rfl,rfl⟩:=he
    exact F (by simp[bF,bW]) (.build bW aP ax hu) rfl
   ·cases h
  ·cases h
 case slice ty x bX ad e4=>
  cases e4 with
  | some m=>simp only[bT]at h;cases h
  | none=>
   simp only[bT]at h
   split at h
   ·rename_i s I
    split at h
    ·rename_i l cR ar ih
     split at h
     ·rename_i ag
      simp only[Option.some.injEq,Prod.mk.injEq]at h
      obtain⟨rfl,rfl⟩:=h
      refine M (by simp[bF,bW]) (.sA (by simp[bW]) (o3 fun z aP=>?_) rfl ?_)
      ·simp only[bW,Op.operands]at aP
       have aP:z=x\/bX=some z\/ad=some z:=by
        cases bX<;>cases ad<;>simp at aP⊢<;>first | (rcases aP with rfl | rfl | rfl<;>simp;done) | (rcases aP with rfl | rfl<;>simp;done) | (subst aP;simp;done) | (rcases aP with rfl | aP)<;>first | (rcases aP with rfl | rfl<;>simp;done) | (subst aP;simp;done) | (simp;done) | skip
       rcases aP with rfl | rfl | rfl
       ·rw[I];rfl
       ·obtain⟨k,m,e,-⟩:=xg (d:=0) (.inl ar);rw[e];rfl
       ·obtain⟨k,m,e,-⟩:=xg (.inr ih);rw[e];rfl
      ·have af:dk P (Instr.sliceBounds false s.size s.size (bX.map (eZ t)) (ad.map (eZ t)) none)=some (l,cR,s.size):=by
        unfold Instr.sliceBounds
        cases ad with
        | none=>
         have:s.size=cR:=by simpa[fl]using ih
         subst this
         cases bX with
         | none=>
          have:0=l:=by simpa[dN]using ar
          subst this
          simp[fp,eQ]
         | some y=>
          obtain⟨k,m,e,aH,rfl⟩:=xg (d:=0) (.inl ar)
          simp[e,fp,oF,eQ,Ao (P:=P) (k:=k) aH ag.2.1]
        | some z=>
         obtain⟨bN,l1,cH,qe,rfl⟩:=xg (.inr ih)
         cases bX with
         | none=>
          have:0=l:=by simpa[dN]using ar
          subst this
          simp[cH,fp,oF,eQ,Ao (P:=P) (k:=bN) qe ag.2.2]
         | some y=>
          obtain⟨k,m,e,aH,rfl⟩:=xg (d:=0) (.inl ar)
          simp[e,cH,fp,oF,eQ,Ao (P:=P) (k:=bN) qe ag.2.2,Ao (P:=P) (k:=k) aH ag.2.1]
       simp only[execOp,bW,I,fp,Instr.sliceAt,Instr.slice,nO,uQ ag.1,Option.bind_some,Option.map_none]
       simp[af,fp,oF,eQ]
     ·cases h
    ·cases h
   ·cases h
 case call c=>
  obtain⟨callee,args,kI⟩:=c
  simp only[bT]at h
  unfold q5 at h
  split at h
  ·rename_i x ty rV Rg
   obtain rfl:args= #[x]:=by apply Array.ext';simpa using rV
   obtain rfl:kI= #[ty]:=by apply Array.ext';simpa using Rg
   split at h
   ·rename_i a n gS I
    split at h
    ·rename_i e he
     simp only[Option.some.injEq,Prod.mk.injEq]at h
     obtain⟨rfl,rfl⟩:=h
     exact F (by simp[bF,bW]) (.KZ bW (EN he) I) rfl
    ·cases h
   ·rename_i s I
    split at h
    ·rename_i an
     simp only[Option.some.injEq,Prod.mk.injEq]at h
     obtain⟨rfl,rfl⟩:=h
     refine F (by simp[bF,bW]) (.pure (by simp[bF,bW]) (o3 fun z aP=>?_) rfl ?_) rfl
     ·simp[bW,Op.operands,Call.operands]at aP
      subst aP;rw[I];rfl
     ·simp[execOp,bW,resolve,I,invoke,builtin,Builtin.len_,fp,oF,eQ,nO,uQ an,goInt]
    ·cases h
   ·cases h
  ·rename_i x y rV
   obtain rfl:args= #[x,y]:=by apply Array.ext';simpa using rV
   split at h
   ·rename_i k a bN b I aL
    simp only[Option.some.injEq,Prod.mk.injEq]at h
    obtain⟨rfl,rfl⟩:=h
    refine F (by simp[bF,bW]) (.pure (by simp[bF,bW]) (o3 fun z aP=>?_) rfl ?_) rfl
    ·simp[bW,Op.operands,Call.operands]at aP
     rcases aP with rfl | rfl
     ·rw[I];rfl
     ·rw[aL];rfl
    ·simp[execOp,bW,resolve,I,aL,invoke,builtin,Builtin.max_,Builtin.max2,fp,oF,eQ]
   ·cases h
  ·rename_i x y rV
   obtain rfl:args= #[x,y]:=by apply Array.ext';simpa using rV
   split at h
   ·rename_i k a bN b I aL
    simp only[Option.some.injEq,Prod.mk.injEq]at h
    obtain⟨rfl,rfl⟩:=h
    refine F (by simp[bF,bW]) (.pure (by simp[bF,bW]) (o3 fun z aP=>?_) rfl ?_) rfl
    ·simp[bW,Op.operands,Call.operands]at aP
     rcases aP with rfl | rfl
     ·rw[I];rfl
     ·rw[aL];rfl
    ·simp[execOp,bW,resolve,I,aL,invoke,builtin,Builtin.min_,Builtin.min2,fp,oF,eQ]
   ·cases h
  ·cases h
def gt(t:List Value)(i:Nat):Value:=t.getD i undef
theorem PL{t:List Value}{i:Nat}(v:Value)(h:i<t.length):gt (t.set i v) i=v:=by simp[gt,List.getD_eq_getElem?_getD,h]
theorem PK{t:List Value}{i j:Nat}(v:Value)(h:i≠j):gt (t.set i v) j=gt t j:=by simp[gt,List.getD_eq_getElem?_getD,List.getElem?_set,h]
theorem PM(t:List Value)(i j:Nat)(v:Value):gt (t.set i v) j=if i=j then(if i<t.length then v else gt t j)else gt t j:=by
 by_cases h:i=j
 ·subst h
  rw[if_pos rfl]
  split
  ·rename_i ar;exact PL v ar
  ·rename_i ar;simp[gt,List.getD_eq_getElem?_getD,ar]
 ·rw[if_neg h];exact PK v h
def gR:Value->Option Bool
 | .bool b=>some b
 | _=>none
theorem Mz(ops:Array Oper)(t:List Value)(j:Nat):gM ops t j=match(ops[j]?).bind (·.dst)with | some d=>gR (gt t d) | none=>none:=by
 unfold gM
 cases(ops[j]?).bind (·.dst)with
 | none=>rfl
 | some d=>
  simp only[Option.bind_some]
  by_cases h: @LT.lt Nat _ d t.length
  ·rw[bt h]
   simp only[gt,List.getD_eq_getElem?_getD,bt h,Option.getD_some]
   unfold gR
   cases t[d]<;>rfl
  ·rw[List.getElem?_eq_none (Nat.le_of_not_lt h)]
   simp only[gt,List.getD_eq_getElem?_getD,List.getElem?_eq_none (Nat.le_of_not_lt h),Option.getD_none]
   rfl
def x6(P:Program)(g:FuncId):Prop:=∃fn,P.funcs[g]?=some fn/\(fn.name== "runtime.NumGoroutine")=false/\fn.body.isSome=true
def Ny(P:Program)(f:FuncId)(args:List Value)(v:Value):Prop:=args.all gD=true/\flat v=true/\dk P (callFunc f args.toArray)=some (.value v)
def aZ(P:Program)(f:FuncId)(args:List Value)(H:ab)(Q:Value->ab->Prop):Prop:=∃v H1,((x6 P f/\dK P (.call f args H) (.val v H1))\/(Ny P f args v/\H1=H))/\Q v H1
def Ba(P:Program)(c:Code)(t:List Value)(H:ab)(Q:ds->List Value->ab->Prop):Prop:=∃e t1 H1,dK P (.code c t H) (.code e t1 H1)/\Q e t1 H1
theorem aZ.mono{P:Program}{f:FuncId}{args:List Value}{H:ab}{Q b6:Value->ab->Prop}(h:aZ P f args H Q)(au:∀v H1,Q v H1->b6 v H1):aZ P f args H b6:=by
 obtain⟨v,H1,aj,ao⟩:=h
 exact⟨v,H1,aj,au _ _ ao⟩
def hx:Op->Bool
 | .store .. =>true
 | _=>false
def Bb(P:Program)(ops:Array Oper)(draw:Bool)(k:Nat)(s:Bool):Prop:=draw=true->s=true->eu P ops k=true
def x7(P:Program)(ops:Array Oper)(draw:Bool)(k:Nat)(H H1:ab):Prop:=draw=true->eu P ops k=true\/Ext H H1
def vf(P:Program)(ops:Array Oper)(draw:Bool)(k:Nat)(U:Oper)(t:List Value)(H:ab)(K:List Value->ab->Prop):Op->Prop
 | .call {callee:= .value f,args,.. }=>(match eZ t f with
  | .func (.func g) first cap=>aZ P g (first.toList++args.toList.map (eZ t)++cap.toList) H fun v H1=>x7 P ops draw k H H1/\K (eS t U.dst v) H1
  | _=>False)
 | op=>(match bT P (eZ t) H op with
  | some (v,H1)=>Bb P ops draw k (hx op)/\K (eS t U.dst v) H1
  | none=>∃v H1,bF P U=false/\eV P (eZ t) H U v H1/\x7 P ops draw k H H1/\K (eS t U.dst v) H1)
def nZ(P:Program)(ops:Array Oper)(draw:Bool):Nat->List Oper->List Value->ab->(List Value->ab->Prop)->Prop
 | _,[],t,H,Q=>Q t H
 | k,U::rest,t,H,Q=>if Region.wanted U (gM ops t)=true then vf P ops draw k U t H (fun t1 H1=>nZ P ops draw (k+1) rest t1 H1 Q) U.op else nZ P ops draw (k+1) rest (eS t U.dst undef) H Q
def fv(P:Program)(K:List Value->ab->Prop)(Q:ds->List Value->ab->Prop):ds->List Value->ab->Prop
 | .normal,t,H=>K t H
 | e,t,H=>Q e t H
def Bu(id:Nat)(Q:ds->List Value->ab->Prop):ds->List Value->ab->Prop
 | .exit hv,t,H=>if hv=id then Q .normal t H else Q (.exit hv) t H
 | e,t,H=>Q e t H
def gA(P:Program)(U:Bool)(aK:Operand->Value)(H:ab)(ae W:List Nat)(K:Value->ab->List Nat->List Nat->Prop):Op->Prop
 | .load ty x=>(match aK x with
  | .pointer (some ⟨b,_,none⟩)=>b∉W/\(match bT P aK H (.load ty x)with | some (v,H1)=>K v H1 (b::ae) W | none=>False)
  | _=>False)
 | .store ty x y=>(match aK x with
  | .pointer (some ⟨b,_,none⟩)=>(U=true\/(b∉W/\b∉ae))/\(match bT P aK H (.store ty x y)with | some (v,H1)=>K v H1 ae (if U=true then W else b::W) | none=>False)
  | _=>False)
 | op=>(match bT P aK H op with | some (v,H1)=>K v H1 ae W | none=>False)
def D9(P:Program)(ops:Array Oper):Bool:=ops.all fun U=>bF P U || (match U.op with | .load .. =>true | .store .. =>true | _=>false)
def nY(P:Program)(ops:Array Oper):Nat->List Oper->List Value->ab->List Nat->List Nat->(List Value->ab->Prop)->Prop
 | _,[],t,H,_,_,Q=>Q t H
 | k,U::rest,t,H,ae,W,Q=>if Region.wanted U (gM ops t)=true then gA P (eu P ops k) (eZ t) H ae W (fun v H1 fs ft=>nY P ops (k+1) rest (eS t U.dst v) H1 fs ft Q) U.op else nY P ops (k+1) rest (eS t U.dst undef) H ae W Q
def yy(ops:Array Oper):Bool:=ops.all fun U=>U.op.operands.all mQ
def kC(P:Program):Code->List Value->ab->(ds->List Value->ab->Prop)->Prop
 | .skip,t,H,Q=>Q .normal t H
 | .ret,t,H,Q=>Q .ret t H
 | .exit id,t,H,Q=>Q (.exit id) t H
 | .seq a b,t,H,Q=>kC P a t H (fv P (fun t1 H1=>kC P b t1 H1 Q) Q)
 | .cond c x y,t,H,Q=>mQ c=true/\(match eZ t c with
  | .bool b=>if b=true then kC P x t H Q else kC P y t H Q
  | _=>False)
 | .block id c,t,H,Q=>kC P c t H (Bu id Q)
 | .loop c,t,H,Q=>Ba P (.loop c) t H Q
 | .region id ops draw,t,H,Q=>(yy ops=true/\(draw=true->gx ops=true)/\nZ P ops draw 0 ops.toList t H (fun t1 H1=>Q .normal t1 H1))\/(yy ops=true/\gx ops=true/\D9 P ops=true/\nY P ops 0 ops.toList t H [] [] (fun t1 H1=>Q .normal t1 H1))
 | _,_,_,_=>False
section
variable {P:Program}
theorem XM{aK:Operand->Value}{H H1:ab}{op:Op}{v:Value}(h:bT P aK H op=some (v,H1))(an:hx op=false):Ext H H1:=by
 have same:H1=H->Ext H H1:=fun e=>e▸Ext.refl H
 have one:∀{e:TypeId} {l:Bool} {cs:List Value},H1=H++[.own e l cs]->Ext H H1:=fun{e l cs} he=>⟨[.own e l cs],he,fun x I cH eo=>by simp at I;subst I;simp⟩
 cases op<;>simp only[bT]at h<;>try (first | (simp at h;done) | (cases an;done))
 case move=>simp at h;exact same h.2.symm
 case assign=>simp at h;exact same h.2.symm
 case pick=>split at h<;>simp at h;exact same h.2.symm
 case alloc=>
  split at h
  ·split at h
   ·simp at h;exact one h.2.symm
   ·cases h
  ·cases h
 case box=>
  split at h
  ·simp at h;exact one h.2.symm
  ·cases h
 case load=>
  split at h
  ·split at h
   ·split at h
    ·obtain⟨u,hu,he⟩:=Option.map_eq_some_iff.1 h;simp at he;exact same he.2.symm
    ·split at h
     ·split at h
      ·simp at h;exact same h.2.symm
      ·cases h
     ·cases h
    ·cases h
   ·cases h
  ·cases h
 case nilCheck=>split at h<;>simp at h;exact same h.2.symm
 case binOp=>obtain⟨u,hu,he⟩:=Option.map_eq_some_iff.1 h;simp at he;exact same he.2.symm
 case unOp=>obtain⟨u,hu,he⟩:=Option.map_eq_some_iff.1 h;simp at he;exact same he.2.symm
 case convert=>
  split at h
  ·split at h<;>simp at h;exact same h.2.symm
  ·split at h<;>simp at h;exact same h.2.symm
  ·cases h
 case makeInterface=>split at h<;>simp at h;exact same h.2.symm
 case makeFunc=>simp at h;exact same h.2.symm
 case fieldAddr=>
  split at h
  ·obtain⟨u,hu,he⟩:=Option.map_eq_some_iff.1 h;simp at he;exact same he.2.symm
  ·cases h
 case field=>
  split at h
  ·split at h
   ·obtain⟨u,hu,he⟩:=Option.map_eq_some_iff.1 h;simp at he;exact same he.2.symm
   ·cases h
  ·cases h
 case indexAddr=>
  split at h
  ·split at h
   ·split at h
    ·split at h<;>simp at h;exact same h.2.symm
    ·cases h
   ·cases h
  ·cases h
 case index=>split at h;(split at h<;>simp at h;exact same h.2.symm);cases h
 case extract=>
  split at h
  ·obtain⟨u,hu,he⟩:=Option.map_eq_some_iff.1 h;simp at he;exact same he.2.symm
  ·cases h
 case build=>
  split at h
  ·split at h
   ·obtain⟨u,hu,he⟩:=Option.map_eq_some_iff.1 h;simp at he;exact same he.2.symm
   ·cases h
  ·cases h
 case call c=>
  unfold q5 at h
  split at h
  ·split at h
   ·split at h<;>simp at h;exact same h.2.symm
   ·split at h<;>simp at h;exact same h.2.symm
   ·cases h
  ·split at h<;>simp at h;exact same h.2.symm
  ·split at h<;>simp at h;exact same h.2.symm
  ·cases h
 case slice ty x bX ad e4=>
  cases e4 with
  | some m=>simp at h
  | none=>
   simp only at h
   split at h
   ·split at h
    ·split at h<;>simp at h;exact same h.2.symm
    ·cases h
   ·cases h
theorem Wr{ops:Array Oper}{draw:Bool}{k:Nat}{U:Oper}{t:List Value}{H:ab}{K:List Value->ab->Prop}(hw:Region.wanted U (gM ops t)=true)(h:vf P ops draw k U t H K U.op):
  ∃v H1,dK P (.op ops U t H) (.val v H1)/\(draw=true->bF P U=false->eu P ops k=true\/Ext H H1)/\K (eS t U.dst v) H1:=by
 have other:(match bT P (eZ t) H U.op with
  | some (v,H1)=>Bb P ops draw k (hx U.op)/\K (eS t U.dst v) H1
  | none=>∃v H1,bF P U=false/\eV P (eZ t) H U v H1/\x7 P ops draw k H H1/\K (eS t U.dst v) H1)->∃v H1,dK P (.op ops U t H) (.val v H1)/\(draw=true->bF P U=false->eu P ops k=true\/Ext H H1)/\K (eS t U.dst v) H1:=by
  intro h
  split at h
  ·rename_i v H1 an
   refine⟨v,H1,xP hw an,fun aJ _=>?_,h.2⟩
   cases cS:hx U.op with
   | true=>exact .inl (h.1 aJ cS)
   | false=>exact .inr (XM an cS)
  ·obtain⟨v,H1,ax,hm,he,a1⟩:=h
   exact⟨v,H1,.qV hw ax hm,fun aJ _=>he aJ,a1⟩
 cases bW:U.op<;>rw[bW]at h other<;>try (exact other h)
 rename_i c
 obtain⟨callee,args,kI⟩:=c
 cases callee with
 | invoke r m=>exact other h
 | builtin b=>exact other h
 | value f=>
  simp only[vf]at h
  split at h
  ·rename_i g first cap ax
   obtain⟨v,H1,⟨⟨fn,o,aa,aD⟩,aj⟩ | ⟨⟨aF,ao,aR⟩,rfl⟩,he,a1⟩:=h
   ·exact⟨v,H1,.uB hw (by simp[bF,bW]) bW ax o aa aD aj,fun aJ _=>he aJ,a1⟩
   ·refine⟨v,H1,.qV hw (by simp[bF,bW]) (.sA (by simp[bW]) ?_ ao ?_),fun aJ _=>he aJ,a1⟩
    ·simp only[List.all_append,Bool.and_eq_true,List.all_map]at aF
     have o:first.all gD=true:=by simpa using aF.1.1
     have aa:cap.all gD=true:=by simpa using aF.2
     have aD:∀x∈args,flat (eZ t x)=true:=fun x I=>by
      have:=List.all_eq_true.1 aF.1.2 x (by simpa using I)
      simp only[Function.comp]at this
      simp[flat,this]
     simp only[bW,Op.operands,Call.operands]
     have aH:flat (eZ t f)=true:=by rw[ax];simp[flat,o,aa]
     refine Array.all_eq_true'.2 fun x I=>?_
     rcases Array.mem_append.1 I with I | I
     ·simp at I;subst I;exact aH
     ·exact aD x I
    ·have:(first.toList++args.toList.map (eZ t)++cap.toList).toArray=first++args.map (eZ t)++cap:=by apply Array.ext';simp
     rw[this]at aR
     simp only[execOp,bW,resolve,ax,Deferred.ofValue,invoke]
     exact aR
  ·exact h.elim
theorem LF{ops:Array Oper}{draw:Bool}{Q:List Value->ab->Prop}:∀(rest:List Oper) (k:Nat) (t:List Value) (H:ab),(∀i,rest[i]?=ops[k+i]?)->nZ P ops draw k rest t H Q->
  ∃(T:Nat->List Value) (V:Nat->Value) (aX:Nat->ab),T k=t/\aX k=H/\(∀i U,k<=i->ops[i]?=some U->dK P (.op ops U (T i) (aX i)) (.val (V i) (aX (i+1)))/\T (i+1)=eS (T i) U.dst (V i)/\(draw=true->bF P U=false->eu P ops i=true\/Ext (aX i) (aX (i+1))))/\
   Q (T (k+rest.length)) (aX (k+rest.length))
 | [],k,t,H,aj,h=>by
  refine⟨fun _=>t,fun _=>undef,fun _=>H,rfl,rfl,fun i U eY aM=>?_,by simpa[nZ]using h⟩
  have o:ops.size<=k:=by
   have:=aj 0
   simp at this
   exact this
  have aa:=(Array.getElem?_eq_some_iff.1 aM).1
  omega
 | U::rest,k,t,H,aj,h=>by
  have aM:ops[k]?=some U:=by have:=aj 0;simpa using this.symm
  have fo:∀i,rest[i]?=ops[k+1+i]?:=fun i=>by have:=aj (i+1);simp at this;rw[this];congr 1;omega
  obtain⟨v,H1,aT,aQ,bn⟩:∃v H1,dK P (.op ops U t H) (.val v H1)/\(draw=true->bF P U=false->eu P ops k=true\/Ext H H1)/\nZ P ops draw (k+1) rest (eS t U.dst v) H1 Q:=by
   simp only[nZ]at h
   split at h
   ·rename_i hw;exact Wr hw h
   ·rename_i hw
    exact⟨undef,H,.sC (by simpa using hw),fun _ _=> .inr (Ext.refl H),h⟩
  obtain⟨T,V,aX,eh,fZ,h4,l6⟩:=LF rest (k+1) _ H1 fo bn
  refine⟨fun i=>if i<=k then t else T i,fun i=>if i<=k then v else V i,fun i=>if i<=k then H else aX i,by simp,by simp,fun i j9 eY fe=>?_,?_⟩
  ·by_cases r0:i=k
   ·subst r0
    rw[aM]at fe
    obtain rfl:=Option.some.inj fe
    simp only[Nat.le_refl,if_true,show¬(i+1<=i) by omega,if_false,eh,fZ]
    exact⟨aT,trivial,aQ⟩
   ·simp only[show¬(i<=k) by omega,show¬(i+1<=k) by omega,if_false]
    exact h4 i j9 (by omega) fe
  ·have e:k+(U::rest).length=k+1+rest.length:=by simp;omega
   rw[e]
   simp only[show¬(k+1+rest.length<=k) by omega,if_false]
   exact l6
theorem Mo{ops:Array Oper}{U:Oper}{t:List Value}{H H1:ab}{v:Value}(hw:Region.wanted U (gM ops t)=true)(ax:bF P U=false)(ag:∀c,U.op≠ .call c)(h:bT P (eZ t) H U.op=some (v,H1)):eV P (eZ t) H U v H1:=by
 have aj:=xP (ops:=ops) hw h
 cases aj with
 | sC qJ=>rw[hw]at qJ;cases qJ
 | uC _ a2 _=>rw[ax]at a2;cases a2
 | qV _ _ hm=>exact hm
 | uB _ _ aM=>exact absurd aM (ag _)
theorem VX{ops:Array Oper}{U:Oper}{t:List Value}{H:ab}{ae W:List Nat}{K:Value->ab->List Nat->List Nat->Prop}(hw:Region.wanted U (gM ops t)=true)(af:(bF P U || (match U.op with | .load .. =>true | .store .. =>true | _=>false))=true){Bv:Bool}(h:gA P Bv (eZ t) H ae W K U.op):
  ∃v H1 fs ft g,dK P (.op ops U t H) (.val v H1)/\nX P ops U t H v H1 g/\K v H1 fs ft/\((g=none/\fs=ae/\ft=W)\/(∃b,g=some (b,none)/\b∉W/\fs=b::ae/\ft=W)\/∃b x,g=some (b,some x)/\(Bv=true\/(b∉W/\b∉ae))/\fs=ae/\ft=if Bv=true then W else b::W):=by
 cases bW:U.op with
 | load ty x=>
  rw[bW]at h
  have ax:bF P U=false:=by simp[bF,bW]
  simp only[gA]at h
  split at h
  ·rename_i b i I
   obtain⟨CK,h⟩:=h
   split at h
   ·rename_i v H1 an
    have mF:=an
    simp only[bT,I]at an
    cases fX:h_ H b with
    | none=>rw[fX]at an;cases an
    | some cs=>
     obtain⟨X,aS,Q8⟩:=yu fX
     have P1:H1=H:=by
      rw[fX]at an
      simp only at an
      split at an
      ·obtain⟨u,hu,he⟩:=Option.map_eq_some_iff.1 an;simp at he;exact he.2.symm
      ·split at an
       ·split at an
        ·simp at an;exact an.2.symm
        ·cases an
       ·cases an
      ·cases an
     subst P1
     have Sl:H1[b]?≠some .dead:=fun e=>by rw[aS]at e;simp at e;subst e;simp[bB.cells?]at Q8
     refine⟨v,H1,b::ae,W,some (b,none),xP hw (by rw[bW];exact mF),⟨hw,ax,(cc.1 aS).1,Sl,rfl,fun aC rN=>?_⟩,h,.inr (.inl ⟨b,rfl,CK,rfl,rfl⟩)⟩
     refine Mo (ops:=ops) hw ax (by simp[bW]) ?_
     rw[bW]
     have:h_ aC b=h_ H1 b:=by unfold h_;rw[rN]
     rw[fX]at an
     simp only[bT,I,this,fX,l0]
     revert an
     cases da P ty with
     | none=>simp
     | some g=>
      cases g with
      | false=>
       simp only
       cases cs[i]?<;>simp
      | true=>
       simp only
       cases bm P ty with
       | none=>simp
       | some n=>
        simp only
        split<;>simp
   ·exact h.elim
  ·exact h.elim
 | store ty x y=>
  rw[bW]at h
  have ax:bF P U=false:=by simp[bF,bW]
  simp only[gA]at h
  split at h
  ·rename_i b i I
   obtain⟨CK,h⟩:=h
   split at h
   ·rename_i v H1 an
    have mF:=an
    simp only[bT,I]at an
    split at an
    ·rename_i e l cs aS
     split at an
     ·rename_i wm
      simp only[Option.some.injEq,Prod.mk.injEq]at an
      obtain⟨rfl,rfl⟩:=an
      refine⟨_,_,ae,_,some (b,some (.own e l (c3 cs i (eZ t y).cells.toList))),xP hw (by rw[bW];exact mF),⟨hw,ax,(cc.1 aS).1,by rw[aS];simp,rfl,fun aC rN=>?_⟩,h,.inr (.inr ⟨b,_,rfl,CK,rfl,rfl⟩)⟩
      refine Mo (ops:=ops) hw ax (by simp[bW]) ?_
      rw[bW]
      simp only[bT,I,rN,aS,l0]
      rw[if_pos wm]
     ·cases an
    ·cases an
   ·exact h.elim
  ·exact h.elim
 | _=>
  have a2:bF P U=true:=by simpa[bW]using af
  rw[bW]at h
  simp only[gA]at h
  split at h
  ·rename_i v H1 an
   have aj:=xP (ops:=ops) hw (by rw[bW];exact an)
   have B9:H1=H:=by
    cases aj with
    | sC=>rfl
    | uC=>rfl
    | qV _ ax=>rw[a2]at ax;cases ax
    | uB _ ax=>rw[a2]at ax;cases ax
   exact⟨v,H1,ae,W,none,aj,⟨.inr a2,B9⟩,h,.inl ⟨rfl,rfl,rfl⟩⟩
  ·exact h.elim
theorem LB{ops:Array Oper}{Q:List Value->ab->Prop}(jv:D9 P ops=true):∀(rest:List Oper) (k:Nat) (t:List Value) (H:ab) (ae W:List Nat),(∀i,rest[i]?=ops[k+i]?)->nY P ops k rest t H ae W Q->
  ∃(T:Nat->List Value) (V:Nat->Value) (aX:Nat->ab) (dV:Nat->Option (Nat×Option bB)),T k=t/\aX k=H/\(∀i U,k<=i->ops[i]?=some U->dK P (.op ops U (T i) (aX i)) (.val (V i) (aX (i+1)))/\T (i+1)=eS (T i) U.dst (V i)/\nX P ops U (T i) (aX i) (V i) (aX (i+1)) (dV i))/\
   (∀i b y,k<=i->dV i=some (b,y)->eu P ops i=true\/(b∉W/\(y≠none->b∉ae)))/\(∀(i j:Nat) (b:Nat) (x:bB) (y:Option bB),k<=i->k<=j->dV i=some (b,some x)->dV j=some (b,y)->i≠j->eu P ops i=true\/eu P ops j=true)/\(∀j,k<=j->ops.size<=j->dV j=none)/\Q (T (k+rest.length)) (aX (k+rest.length))
 | [],k,t,H,ae,W,aj,h=>by
  refine⟨fun _=>t,fun _=>undef,fun _=>H,fun _=>none,rfl,rfl,fun i U eY aM=>?_,by simp,by simp,by simp,by simpa[nY]using h⟩
  have o:ops.size<=k:=by
   have:=aj 0
   simp at this
   exact this
  have aa:=(Array.getElem?_eq_some_iff.1 aM).1
  omega
 | U::rest,k,t,H,ae,W,aj,h=>by
  have aM:ops[k]?=some U:=by have:=aj 0;simpa using this.symm
  have ja:=(Array.getElem?_eq_some_iff.1 aM).1
  have fo:∀i,rest[i]?=ops[k+1+i]?:=fun i=>by have:=aj (i+1);simp at this;rw[this];congr 1;omega
  have SD:=Array.all_eq_true'.1 jv U (Array.mem_of_getElem? aM)
  obtain⟨v,H1,fs,ft,g,aT,aQ,bn,b8⟩:∃v H1 fs ft g,dK P (.op ops U t H) (.val v H1)/\nX P ops U t H v H1 g/\nY P ops (k+1) rest (eS t U.dst v) H1 fs ft Q/\((g=none/\fs=ae/\ft=W)\/(∃b,g=some (b,none)/\b∉W/\fs=b::ae/\ft=W)\/∃b x,g=some (b,some x)/\(eu P ops k=true\/(b∉W/\b∉ae))/\fs=ae/\ft=if eu P ops k=true then W else b::W):=by
   simp only[nY]at h
   split at h
   ·rename_i hw;exact VX hw SD h
   ·rename_i hw
    have qJ:Region.wanted U (gM ops t)=false:=by simpa using hw
    exact⟨undef,H,ae,W,none,.sC qJ,⟨.inl qJ,rfl⟩,h,.inl ⟨rfl,rfl,rfl⟩⟩
  obtain⟨T,V,aX,dV,eh,fZ,h4,At,EB,EC,l6⟩:=LB jv rest (k+1) _ H1 fs ft fo bn
  have kp:∀b,(b∈W->b∈ft)/\(b∈ae->b∈fs):=by
   intro b
   rcases b8 with⟨-,rfl,rfl⟩ | ⟨c,-,-,rfl,rfl⟩ | ⟨c,x,-,-,rfl,rfl⟩
   ·exact⟨id,id⟩
   ·exact⟨id,List.mem_cons_of_mem _⟩
   ·split
    ·exact⟨id,id⟩
    ·exact⟨List.mem_cons_of_mem _,id⟩
  refine⟨fun i=>if i<=k then t else T i,fun i=>if i<=k then v else V i,fun i=>if i<=k then H else aX i,fun i=>if i<=k then g else dV i,by simp,by simp,fun i j9 eY fe=>?_,fun i b y eY aV=>?_,fun i j b x y eY iK js jt cG=>?_,fun j o aa=>?_,?_⟩
  ·by_cases r0:i=k
   ·subst r0
    rw[aM]at fe
    obtain rfl:=Option.some.inj fe
    simp only[Nat.le_refl,if_true,show¬(i+1<=i) by omega,if_false,eh,fZ]
    exact⟨aT,trivial,aQ⟩
   ·simp only[show¬(i<=k) by omega,show¬(i+1<=k) by omega,if_false]
    exact h4 i j9 (by omega) fe
  ·by_cases r0:i=k
   ·subst r0
    simp only[Nat.le_refl,if_true]at aV
    rcases b8 with⟨e,-⟩ | ⟨c,e,o,-⟩ | ⟨c,x,e,o,-⟩
    ·rw[e]at aV;cases aV
    ·rw[e]at aV;simp at aV;obtain⟨rfl,rfl⟩:=aV;exact .inr ⟨o,fun h=>absurd rfl h⟩
    ·rw[e]at aV;simp at aV;obtain⟨rfl,rfl⟩:=aV
     exact o.imp id fun q=>⟨q.1,fun _=>q.2⟩
   ·simp only[show¬(i<=k) by omega,if_false]at aV
    exact(At i b y (by omega) aV).imp id fun⟨o,aa⟩=>⟨fun af=>o ((kp b).1 af),fun aL af=>aa aL ((kp b).2 af)⟩
  ·by_cases r0:i=k
   ·subst r0
    simp only[Nat.le_refl,if_true,show¬(j<=i) by omega,if_false]at js jt
    rcases At j b y (by omega) jt with aH | ⟨o,aa⟩
    ·exact .inr aH
    rcases b8 with⟨e,-⟩ | ⟨d,e,-⟩ | ⟨d,z,e,-,-,rfl⟩
    ·rw[e]at js;cases js
    ·rw[e]at js;simp at js
    ·rw[e]at js
     simp at js
     obtain⟨rfl,rfl⟩:=js
     cases lN:eu P ops i with
     | true=>exact .inl rfl
     | false=>rw[lN]at o;simp at o
   ·simp only[show¬(i<=k) by omega,if_false]at js
    by_cases R4:j=k
    ·subst R4
     simp only[Nat.le_refl,if_true]at jt
     rcases At i b (some x) (by omega) js with aH | ⟨o,aa⟩
     ·exact .inl aH
     rcases b8 with⟨e,-⟩ | ⟨d,e,-,rfl,-⟩ | ⟨d,z,e,-,-,rfl⟩
     ·rw[e]at jt;cases jt
     ·rw[e]at jt
      simp at jt
      obtain⟨rfl,rfl⟩:=jt
      exact absurd List.mem_cons_self (aa (by simp))
     ·rw[e]at jt
      simp at jt
      obtain⟨rfl,rfl⟩:=jt
      cases lN:eu P ops j with
      | true=>exact .inr rfl
      | false=>rw[lN]at o;simp at o
    ·simp only[show¬(j<=k) by omega,if_false]at jt
     exact EB i j b x y (by omega) (by omega) js jt cG
  ·simp only[show¬(j<=k) by omega,if_false]
   exact EC j (by omega) aa
  ·have e:k+(U::rest).length=k+1+rest.length:=by simp;omega
   rw[e]
   simp only[show¬(k+1+rest.length<=k) by omega,if_false]
   exact l6
theorem rF:∀(c:Code) (t:List Value) (H:ab) (Q:ds->List Value->ab->Prop),kC P c t H Q->Ba P c t H Q
 | .skip,t,H,Q,h=>⟨.normal,t,H,.skip,h⟩
 | .ret,t,H,Q,h=>⟨.ret,t,H,.ret,h⟩
 | .exit id,t,H,Q,h=>⟨.exit id,t,H,.exit,h⟩
 | .seq a b,t,H,Q,h=>by
  obtain⟨e,t1,H1,aj,au⟩:=rF a t H _ h
  cases e with
  | normal=>
   obtain⟨bh,t2,a0,sc,sa⟩:=rF b t1 H1 Q au
   exact⟨bh,t2,a0,.AB aj sc,sa⟩
  | exit id=>exact⟨.exit id,t1,H1,.xI aj (by simp),au⟩
  | ret=>exact⟨.ret,t1,H1,.xI aj (by simp),au⟩
 | .cond c x y,t,H,Q,h=>by
  simp only[kC]at h
  obtain⟨ah,h⟩:=h
  split at h
  ·rename_i b ag
   cases b with
   | true=>
    obtain⟨e,t1,H1,aj,au⟩:=rF x t H Q (by simpa using h)
    exact⟨e,t1,H1,.cond ag ah aj,au⟩
   | false=>
    obtain⟨e,t1,H1,aj,au⟩:=rF y t H Q (by simpa using h)
    exact⟨e,t1,H1,.cond ag ah aj,au⟩
  ·exact h.elim
 | .block id c,t,H,Q,h=>by
  obtain⟨e,t1,H1,aj,au⟩:=rF c t H _ h
  refine⟨_,t1,H1,.block aj,?_⟩
  cases e with
  | normal=>exact au
  | exit hv=>
   simp only[Bu]at au
   by_cases ad:hv=id
   ·subst ad;simpa using au
   ·simpa[ad]using au
  | ret=>exact au
 | .loop c,t,H,Q,h=>h
 | .region id ops draw,t,H,Q,h=>by
  simp only[kC]at h
  rcases h with⟨o,aa,aD⟩ | ⟨o,aa,aH,aD⟩
  rotate_left
  ·obtain⟨T,V,aX,dV,eh,fZ,h4,At,EB,EC,l6⟩:=LB aH ops.toList 0 t H [] [] (fun i=>by simp) aD
   have gH:=dK.Ax (P:=P) (id:=id) (ops:=ops) (draw:=draw) T V aX dV o (fun i U aM=>(h4 i U (Nat.zero_le _) aM).1) (fun i U aM=>(h4 i U (Nat.zero_le _) aM).2.1) aa (fun i U aM=>(h4 i U (Nat.zero_le _) aM).2.2) (fun i j b x y=>EB i j b x y (Nat.zero_le _) (Nat.zero_le _)) (fun j=>EC j (Nat.zero_le _))
   rw[eh,fZ]at gH
   exact⟨.normal,_,_,gH,by simpa using l6⟩
  obtain⟨T,V,aX,eh,fZ,h4,l6⟩:=LF ops.toList 0 t H (fun i=>by simp) aD
  have gH:=dK.region (P:=P) (id:=id) (ops:=ops) (draw:=draw) T V aX o (fun i U aM=>(h4 i U (Nat.zero_le _) aM).1) (fun i U aM=>(h4 i U (Nat.zero_le _) aM).2.1) (fun aJ=>⟨aa aJ,fun i U aM ax=>(h4 i U (Nat.zero_le _) aM).2.2 aJ ax⟩)
  rw[eh,fZ]at gH
  exact⟨.normal,_,_,gH,by simpa using l6⟩
 | .rangeFunc ..,t,H,Q,h=>by simp only[kC]at h
 | .scope ..,t,H,Q,h=>by simp only[kC]at h
 | .label ..,t,H,Q,h=>by simp only[kC]at h
 | .goto ..,t,H,Q,h=>by simp only[kC]at h
 | .refuse ..,t,H,Q,h=>by simp only[kC]at h
def oX(P:Program)(t:List Value)(H:ab):List ResultVar->(List Value->Prop)->Prop
 | [],K=>K []
 | .tmp i::rs,K=>oX P t H rs fun aB=>K (gt t i::aB)
 | .cell a ty::rs,K=>(match gt t a with
  | .pointer (some ⟨b,i,none⟩)=>(match h_ H b with
   | some cs=>(match da P ty with
    | some false=>(match cs[i]? with
     | some v=>oX P t H rs fun aB=>K (v::aB)
     | none=>False)
    | some true=>(match bm P ty with
     | some n=>i+n<=cs.length/\oX P t H rs fun aB=>K (.agg ((cs.drop i).take n).toArray::aB)
     | none=>False)
    | none=>False)
   | none=>False)
  | _=>False)
theorem xG{t:List Value}{H:ab}:∀(rs:List ResultVar) (K:List Value->Prop),oX P t H rs K->∃aB,lG P t H rs aB/\K aB
 | [],K,h=>⟨[],.nil,h⟩
 | .tmp i::rs,K,h=>by
  obtain⟨aB,o,aa⟩:=xG rs _ h
  exact⟨_,.tmp o,aa⟩
 | .cell a ty::rs,K,h=>by
  simp only[oX]at h
  split at h
  ·rename_i b i I
   split at h
   ·rename_i cs fX
    obtain⟨X,aS,ag⟩:=yu fX
    split at h
    ·rename_i aF
     split at h
     ·rename_i v ao
      obtain⟨aB,o,aa⟩:=xG rs _ h
      exact⟨_,.ys aF I aS ag ao o,aa⟩
     ·exact h.elim
    ·rename_i aF
     split at h
     ·rename_i n aE
      obtain⟨aB,o,aa⟩:=xG rs _ h.2
      exact⟨_,.yt aF aE I aS ag h.1 o,aa⟩
     ·exact h.elim
    ·exact h.elim
   ·exact h.elim
  ·exact h.elim
def W9(P:Program)(rs:List ResultVar)(Q:Value->ab->Prop):ds->List Value->ab->Prop
 | .normal,t,H=>oX P t H rs fun aB=>Q (bj aB) H
 | .ret,t,H=>oX P t H rs fun aB=>Q (bj aB) H
 | .exit _,_,_=>False
theorem aZ.Px{f:FuncId}{fn:Func}{c:Code}{args:List Value}{H:ab}{Q:Value->ab->Prop}(ax:P.funcs[f]?=some fn)(aE:(fn.name== "runtime.NumGoroutine")=false)(af:fn.body=some c)
  (h:kC P c (args++List.replicate (fn.ntmps-args.length) undef) H (W9 P fn.results.toList Q)):∃v H1,x6 P f/\dK P (.call f args H) (.val v H1)/\Q v H1:=by
 have ag:x6 P f:=⟨fn,ax,aE,by rw[af];rfl⟩
 obtain⟨e,t1,H1,aj,au⟩:=rF _ _ _ _ h
 cases e with
 | normal=>
  obtain⟨aB,o,aa⟩:=xG _ _ au
  exact⟨_,H1,ag,.call ax af aj (.inl rfl) o,aa⟩
 | exit id=>exact au.elim
 | ret=>
  obtain⟨aB,o,aa⟩:=xG _ _ au
  exact⟨_,H1,ag,.call ax af aj (.inr rfl) o,aa⟩
end
end Go.b_
end
