/- Part of the proof of ShopMakes. -/
import Derived.Test.YtoiodfcefbapkaaShopMakesA
set_option linter.unusedVariables false
set_option linter.unusedSimpArgs false
section
namespace Go.b9
def ba.below(ah:ba)(n:Nat):ba:=fun b=>if b<n then ah b else none
theorem ba.ix{ah:ba}{n b:Nat}{k:h2}(h:ah.below n b=some k):b<n/\ah b=some k:=by
 unfold ba.below at h
 split at h
 ·exact⟨by assumption,h⟩
 ·cases h
theorem ba.Bx{ah:ba}{n b:Nat}{k:h2}(ae:b<n)(h:ah b=some k):ah.below n b=some k:=by simp[ba.below,ae,h]
def jg(n:Nat)(v:Value):Prop:=∃(ah:ba) (au:Value),(∀b k,ah b=some k->b<n)/\bf ah v au
theorem jg.mono{n m:Nat}{v:Value}(h:jg n v)(ua:n<=m):jg m v:=by
 obtain⟨ah,au,o,aa⟩:=h
 exact⟨ah,au,fun b k ae=>Nat.lt_of_lt_of_le (o b k ae) ua,aa⟩
theorem jg.of{ah:ba}{n:Nat}{v au:Value}(aL:∀b k,ah b=some k->b<n)(h:bf ah v au):jg n v:=⟨ah,au,aL,h⟩
theorem bf.restrict{ah:ba}{n:Nat}{v au:Value}(h:bf ah v au):jg n v->bf (ah.below n) v au:=by
 have arr:∀{xs bH Bb:Array Value} {nN:ba},(∀b k,nN b=some k->b<n)->xs.size=bH.size->xs.size=Bb.size->(∀(i:Nat) (v au:Value),xs[i]?=some v->bH[i]?=some au->jg n v->bf (ah.below n) v au)->
   (∀(i:Nat) (v au:Value),xs[i]?=some v->Bb[i]?=some au->bf nN v au)->∀(i:Nat) (v au:Value),xs[i]?=some v->bH[i]?=some au->bf (ah.below n) v au:=by
  intro xs bH Bb nN lk ar dz aV aP i v au I aJ
  obtain⟨ad,-⟩:=Array.getElem?_eq_some_iff.1 I
  have TD:i<Bb.size:=dz▸ad
  exact aV i v au I aJ ⟨nN,_,lk,aP i v _ I (Array.getElem?_eq_getElem TD)⟩
 induction h with
 | bool b=>exact fun _=> .bool b
 | int k n=>exact fun _=> .int k n
 | float k n=>exact fun _=> .float k n
 | str s=>exact fun _=> .str s
 | Ae=>exact fun _=> .Ae
 | ptr h=>
  rintro⟨nN,u,lk,hu⟩
  obtain⟨k,ai,-⟩:=hu.qV
  exact .ptr (ba.Bx (lk _ _ ai) h)
 | rF g=>exact fun _=> .rF g
 | qP=>exact fun _=> .qP
 | void i a=>exact fun _=> .void i a
 | empty ae a c=>exact fun _=> .empty ae a c
 | slice h ag ar fE I cj=>
  rintro⟨nN,u,lk,hu⟩
  cases hu with
  | void=>omega
  | empty=>omega
  | slice b7=>exact .slice (ba.Bx (lk _ _ b7) h) ag ar fE I cj
 | agg ar _ aV=>
  rintro⟨nN,u,lk,hu⟩
  cases hu with
  | agg dz aP=>exact .agg ar (arr lk ar dz aV aP)
 | tuple ar _ aV=>
  rintro⟨nN,u,lk,hu⟩
  cases hu with
  | tuple dz aP=>exact .tuple ar (arr lk ar dz aV aP)
 | func fn ar _ kf _ aV pw=>
  rintro⟨nN,u,lk,hu⟩
  cases hu with
  | func _ dz aP R0 uj=>exact .func fn ar (arr lk ar dz aV aP) kf (arr lk kf R0 pw uj)
 | nilFunc=>exact fun _=> .nilFunc
 | iface t _ aV=>
  rintro⟨nN,u,lk,hu⟩
  cases hu with
  | iface _ aP=>exact .iface t (aV ⟨nN,_,lk,aP⟩)
 | nilIface=>exact fun _=> .nilIface
 | Ad=>exact fun _=> .Ad
theorem Ext.refl(H:ab):Ext H H:=⟨[],by simp,by simp⟩
theorem Ext.trans{A B C:ab}(h:Ext A B)(b7:Ext B C):Ext A C:=by
 obtain⟨N,rfl,cj⟩:=h
 obtain⟨M,rfl,gh⟩:=b7
 exact⟨N++M,by simp,fun x I=>(List.mem_append.1 I).elim (cj x) (gh x)⟩
theorem Ext.len{A B:ab}(h:Ext A B):A.length<=B.length:=by obtain⟨N,rfl,-⟩:=h;simp
theorem Ext.get{A B:ab}(h:Ext A B){b:Nat}(ae:b<A.length):B[b]?=A[b]?:=by obtain⟨N,rfl,-⟩:=h;exact List.getElem?_append_left ae
theorem Ext.get_some{A B:ab}(h:Ext A B){b:Nat}{x:bA}(ae:A[b]?=some x):B[b]?=some x:=by rw[h.get (cd.1 ae).1];exact ae
theorem Ext.new{A B:ab}(h:Ext A B){b:Nat}{x:bA}(ae:A.length<=b)(I:B[b]?=some x):∀e cs,x≠ .ro e cs:=by
 obtain⟨N,rfl,cj⟩:=h
 rw[List.getElem?_append_right ae]at I
 exact cj x (List.mem_of_getElem? I)
theorem px{H aC:ab}{b:Nat}(h:H[b]?=aC[b]?):hk H b↔hk aC b:=by unfold hk;rw[h]
theorem xg{H aC:ab}{b:Nat}(h:H[b]?=aC[b]?):kZ H b↔kZ aC b:=by unfold kZ;rw[h]
section
variable {ops:Array Oper}
theorem xr{i:Nat}{U:Oper}(h:ops[i]?=some U):(U,i)∈ops.toList.zipIdx:=by
 rw[List.mem_zipIdx_iff_getElem?]
 simpa using h
theorem Pg(h:gw ops=true){i:Nat}{U:Oper}(aK:ops[i]?=some U){e:Edge}(he:e∈U.after)(ae:Region.binds .any e=true):e.on<i:=by
 simp only[gw,Bool.and_eq_true]at h
 have:=List.all_eq_true.1 h.1.1 _ (xr aK)
 have:=Array.all_eq_true'.1 this e he
 simpa[ae]using this
theorem VT(h:gw ops=true){i j:Nat}{U:Oper}(aK:ops[i]?=some U)(aQ:j<ops.size)(ae:nW (Region.before ops) j i=true):
  ∃e,e∈U.after/\Region.binds .any e=true/\(e.on=j\/(e.on<i/\nW (Region.before ops) j e.on=true)):=by
 simp only[gw,Bool.and_eq_true]at h
 have o:=List.all_eq_true.1 h.1.2 _ (xr aK)
 have aa:=List.all_eq_true.1 o j (List.mem_range.2 aQ)
 simp only[nW]at ae
 rw[ae]at aa
 simp only[Bool.not_true,Bool.false_or,Array.any_eq_true']at aa
 obtain⟨e,he,aD⟩:=aa
 simp only[Bool.and_eq_true,Bool.or_eq_true,beq_iff_eq,decide_eq_true_eq]at aD
 exact⟨e,he,aD.1,aD.2⟩
theorem E2(h:gw ops=true){i j:Nat}{x y:Oper}(ad:ops[i]?=some x)(aQ:ops[j]?=some y)(nv:i<j):nW (Region.before ops) i j=true\/
  ((∀d,x.dst=some d->d∉y.looksAt ops/\y.dst≠some d)/\∀d,y.dst=some d->d∉x.looksAt ops):=by
 simp only[gw,Bool.and_eq_true]at h
 have o:=List.all_eq_true.1 h.2 _ (xr aQ)
 have aa:=List.all_eq_true.1 o _ (xr ad)
 simp only[nv,decide_true,Bool.not_true,Bool.false_or,Bool.or_eq_true]at aa
 rcases aa with aa | aa
 ·exact .inl aa
 ·refine .inr ?_
  simp only[Bool.and_eq_true]at aa
  constructor
  ·intro d aL
   have:=aa.1
   simp only[aL,Bool.and_eq_true,Bool.not_eq_true',bne_iff_ne]at this
   exact⟨by simpa using this.1,this.2⟩
  ·intro d aL
   have:=aa.2
   simp only[aL,Bool.not_eq_true']at this
   simpa using this
theorem s7{P:Program}{i j:Nat}{y:Oper}(h:er P ops i=true)(aQ:ops[j]?=some y)(a2:bF P y=false)(cF:j≠i):nW (Region.before ops) (min i j) (max i j)=true:=by
 have:=List.all_eq_true.1 h _ (xr aQ)
 simpa[a2,cF]using this
def oJ(ops:Array Oper)(X:Nat->Bool):Prop:=∀i U e,X i=true->ops[i]?=some U->e∈U.after->Region.binds .any e=true->X e.on=true
def ky(ops:Array Oper)(X:Nat->Bool)(i:Nat)(U:Oper):Prop:=ops[i]?=some U/\X i=false/\∀e,e∈U.after->Region.binds .any e=true->X e.on=true
theorem td(h:gw ops=true){X:Nat->Bool}(ag:oJ ops X):∀(i:Nat) (U:Oper),ops[i]?=some U->(∀e,e∈U.after->Region.binds .any e=true->X e.on=true)->∀j,j<ops.size->nW (Region.before ops) j i=true->X j=true:=by
 intro i
 induction i using Nat.strongRecOn with
 | _ i aV=>
  intro U aK aj j aQ ae
  obtain⟨e,he,lJ,o | ⟨o,aa⟩⟩:=VT h aK aQ ae
  ·rw[<-o];exact aj e he lJ
  ·have aR:=aj e he lJ
   have a3:e.on<ops.size:=Nat.lt_trans o (Array.getElem?_eq_some_iff.1 aK).1
   exact aV e.on o ops[e.on] (Array.getElem?_eq_getElem a3) (fun cI rU cM=>ag e.on _ cI aR (Array.getElem?_eq_getElem a3) rU cM) j aQ aa
theorem yu(h:gw ops=true){X:Nat->Bool}(ag:oJ ops X){i j:Nat}(ad:i<ops.size)(aR:X i=true)(aQ:j<ops.size)(ae:nW (Region.before ops) j i=true):X j=true:=
 td h ag i ops[i] (Array.getElem?_eq_getElem ad) (fun e he lJ=>ag i _ e aR (Array.getElem?_eq_getElem ad) he lJ) j aQ ae
def eF(X:Nat->Bool)(i:Nat):Nat->Bool:=fun j=>decide (j=i) || X j
theorem yv{X:Nat->Bool}(ag:oJ ops X){i:Nat}{U:Oper}(aj:ky ops X i U):oJ ops (eF X i):=by
 intro j jZ e aR aK he ae
 simp only[eF,Bool.or_eq_true,decide_eq_true_eq]at aR⊢
 rcases aR with rfl | aR
 ·rw[aj.1]at aK
  obtain rfl:=Option.some.inj aK
  exact .inr (aj.2.2 e he ae)
 ·exact .inr (ag j jZ e aR aK he ae)
def wr(ops:Array Oper)(d:Tmp)(j:Nat):Bool:=match ops[j]? with
 | some U=>U.dst==some d
 | none=>false
theorem sN{d:Tmp}{j:Nat}:wr ops d j=true↔∃U,ops[j]?=some U/\U.dst=some d:=by
 unfold wr
 cases h:ops[j]?<;>simp
theorem sO{d:Tmp}{j:Nat}(h:wr ops d j=true):j<ops.size:=by
 obtain⟨U,aK,-⟩:=sN.1 h
 exact(Array.getElem?_eq_some_iff.1 aK).1
def ym(ops:Array Oper)(X:Nat->Bool)(d:Tmp)(j:Nat):Prop:=X j=true/\wr ops d j=true/\∀dC,X dC=true->wr ops d dC=true->dC<=j
open Classical in
noncomputable def cur(ops:Array Oper)(V:Nat->Value)(t0:List Value)(X:Nat->Bool)(d:Tmp):Value:=
 if h:∃j,ym ops X d j then V h.choose else t0.getD d undef
theorem HO{V:Nat->Value}{t0:List Value}{X:Nat->Bool}{d:Tmp}{j:Nat}(o:X j=true)(aa:wr ops d j=true)(aD:∀dC,X dC=true->wr ops d dC=true->dC<=j):cur ops V t0 X d=V j:=by
 unfold cur
 have h:∃j,ym ops X d j:=⟨j,o,aa,aD⟩
 rw[dif_pos h]
 have ag:=h.choose_spec
 have:=aD _ ag.1 ag.2.1
 have:=ag.2.2 j o aa
 congr 1
 omega
theorem BF{V:Nat->Value}{t0:List Value}{X:Nat->Bool}{d:Tmp}(h:∀j,X j=true->wr ops d j=false):cur ops V t0 X d=t0.getD d undef:=by
 unfold cur
 rw[dif_neg]
 rintro⟨j,o,aa,-⟩
 rw[h j o]at aa
 cases aa
theorem vz{V:Nat->Value}{t0:List Value}{X Y:Nat->Bool}{d:Tmp}(h:∀j,wr ops d j=true->X j=Y j):cur ops V t0 X d=cur ops V t0 Y d:=by
 have e:ym ops X d=ym ops Y d:=by
  funext j
  apply propext
  constructor
  ·rintro⟨o,aa,aD⟩;exact⟨h j aa▸o,aa,fun dC aS aM=>aD dC ((h dC aM).symm▸aS) aM⟩
  ·rintro⟨o,aa,aD⟩;exact⟨(h j aa).symm▸o,aa,fun dC aS aM=>aD dC (h dC aM▸aS) aM⟩
 unfold cur
 rw[e]
theorem Ok(V:Nat->Value)(t0:List Value)(X:Nat->Bool)(d:Tmp):(∃j,X j=true/\wr ops d j=true/\cur ops V t0 X d=V j)\/cur ops V t0 X d=t0.getD d undef:=by
 unfold cur
 split
 ·rename_i h
  exact .inl ⟨h.choose,h.choose_spec.1,h.choose_spec.2.1,rfl⟩
 ·exact .inr rfl
theorem nU{T:Nat->List Value}{V:Nat->Value}(bc:∀(i:Nat) (U:Oper),ops[i]?=some U->T (i+1)=eP (T i) U.dst (V i)):∀i,i<=ops.size->(T i).length=(T 0).length
 | 0,_=>rfl
 | i+1,h=>by
  have a3:i<ops.size:=by omega
  rw[bc i _ (Array.getElem?_eq_getElem a3)]
  have:=nU bc i (by omega)
  unfold eP
  split<;>simp[this]
theorem vl{T:Nat->List Value}{V:Nat->Value}(bc:∀(i:Nat) (U:Oper),ops[i]?=some U->T (i+1)=eP (T i) U.dst (V i)):∀i,i<=ops.size->∀d,d<(T 0).length->(T i).getD d undef=cur ops V (T 0) (fun j=>decide (j<i)) d
 | 0,_,d,aL=>by rw[BF];intro j aQ;simp at aQ
 | i+1,h,d,aL=>by
  have a3:i<ops.size:=by omega
  have aK:=Array.getElem?_eq_getElem a3
  have aV:=vl bc i (by omega) d aL
  have hlen:=nU bc i (by omega)
  rw[bc i _ aK]
  by_cases hw:wr ops d i=true
  ·obtain⟨U,ff,wy⟩:=sN.1 hw
   rw[aK]at ff
   obtain rfl:=Option.some.inj ff
   rw[HO (j:=i) (by simp) hw (fun dC o _=>by simp at o;omega)]
   simp only[eP,wy]
   simp[List.getD_eq_getElem?_getD,List.getElem?_set,hlen,aL]
  ·have cF:ops[i].dst≠some d:=fun e=>hw (sN.2 ⟨_,aK,e⟩)
   rw[vz (Y:=fun j=>decide (j<i)) (fun j aQ=>?_),<-aV]
   ·unfold eP
    split
    ·rename_i fc kI
     have:fc≠d:=fun e=>cF (e▸kI)
     simp[List.getD_eq_getElem?_getD,List.getElem?_set,this]
    ·rfl
   ·have:j≠i:=fun e=>hw (e▸aQ)
    simp only[decide_eq_decide]
    omega
theorem L5(h:gw ops=true){X:Nat->Bool}(ag:oJ ops X){i:Nat}{U:Oper}(aj:ky ops X i U){d:Tmp}(aL:d∈U.looksAt ops\/U.dst=some d):∀j,wr ops d j=true->X j=decide (j<i):=by
 intro j aQ
 obtain⟨y,aJ,qK⟩:=sN.1 aQ
 have fO:j<ops.size:=sO aQ
 have cU:i<ops.size:=(Array.getElem?_eq_some_iff.1 aj.1).1
 rcases Nat.lt_trichotomy j i with a3 | heq | wE
 ·rcases E2 h aJ aj.1 a3 with ae | ⟨o,aa⟩
  ·rw[td h ag i U aj.1 aj.2.2 j fO ae];simp[a3]
  ·rcases aL with aL | aL
   ·exact absurd aL (o d qK).1
   ·exact absurd aL (o d qK).2
 ·subst heq;rw[aj.2.1];simp
 ·have aR:X j=false:=by
   cases Q1:X j with
   | false=>rfl
   | true=>
    rcases E2 h aj.1 aJ wE with ae | ⟨o,aa⟩
    ·have:=yu h ag fO Q1 cU ae
     rw[aj.2.1]at this
     cases this
    ·rcases aL with aL | aL
     ·exact absurd aL (aa d qK)
     ·exact absurd qK (o d aL).2
  rw[aR]
  simp
  omega
theorem HN(h:gw ops=true){X:Nat->Bool}(ag:oJ ops X){i:Nat}{U:Oper}(aj:ky ops X i U){V:Nat->Value}{t0:List Value}{d:Tmp}(aL:d∈U.looksAt ops\/U.dst=some d):
  cur ops V t0 X d=cur ops V t0 (fun j=>decide (j<i)) d:=vz (L5 h ag aj aL)
theorem yz(h:gw ops=true){X:Nat->Bool}(ag:oJ ops X){i:Nat}{U:Oper}(aj:ky ops X i U){V:Nat->Value}{t0:List Value}(d:Tmp):cur ops V t0 (eF X i) d=if U.dst=some d then V i else cur ops V t0 X d:=by
 have cU:i<ops.size:=(Array.getElem?_eq_some_iff.1 aj.1).1
 split
 ·rename_i aL
  refine HO (by simp[eF]) (sN.2 ⟨U,aj.1,aL⟩) fun dC o aa=>?_
  simp only[eF,Bool.or_eq_true,decide_eq_true_eq]at o
  rcases o with rfl | o
  ·exact Nat.le_refl _
  ·obtain⟨y,aJ,qK⟩:=sN.1 aa
   rcases Nat.lt_or_ge i dC with a3 | jR
   ·rcases E2 h aj.1 aJ a3 with ae | ⟨aS,aM⟩
    ·have:=yu h ag (sO aa) o cU ae
     rw[aj.2.1]at this
     cases this
    ·exact absurd qK (aS d aL).2
   ·exact jR
 ·rename_i aL
  refine vz fun j aQ=>?_
  have:j≠i:=fun e=>by
   obtain⟨y,aJ,qK⟩:=sN.1 aQ
   subst e
   rw[aj.1]at aJ
   obtain rfl:=Option.some.inj aJ
   exact aL qK
  simp[eF,this]
end
def p4(s bg j:Nat):Nat:=if j<s then s else if j<bg then j+1 else bg
def mj(s bg j:Nat):Nat:=if j<s then s else if j<bg then j else bg
structure Inv (P:Program) (base:Nat) (ops:Array Oper) (T:Nat->List Value) (V:Nat->Value) (aW:Nat->ab) (hT:ba) (dP:World) (X:Nat->Bool) (s bg:Nat) (ah:ba) (a:Act) (w:World):Prop where
 closed:oJ ops X
 c6:s<=bg
 ik:bg<=ops.size
 Xk:∀j U,s<=j->j<bg->ops[j]?=some U->bF P U=false->er P ops j=false
 before:∀j U,j<s->ops[j]?=some U->bF P U=false->X j=true
 after:∀j U,bg<=j->ops[j]?=some U->bF P U=false->X j=false
 stop:bg=ops.size\/∃U,ops[bg]?=some U/\bF P U=false/\er P ops bg=true
 im:b8 P base ah (aW bg) w
 ext:∀b k,hT b=some k->ah b=some k
 ez:∀b k,ah b=some k->b<(aW s).length\/∃j,s<=j/\j<bg/\X j=true/\(aW j).length<=b/\b<(aW (j+1)).length
 A9:∀j,s<=j->j<=bg->∀b k x cs v,ah b=some k->b<(aW j).length->(aW bg)[b]?=some x->x.cells?=some cs->v∈cs->jg (aW j).length v
 u4:∀j,j<ops.size->X j=true->jg (aW (p4 s bg j)).length (V j)
 Nj:∀v∈T 0,jg (aW s).length v
 LK:0<(aW 0).length
 z6:(aW 0).length<=(aW s).length
 fg:a.tmps.size=(T 0).length
 tmps:∀d,d<(T 0).length->bf ah (cur ops V (T 0) X d) (a.tmps.getD d undef)
 defers:a.defers=[]
 step:Step hT (aW 0) dP ah (aW bg) w
theorem ks.Fm{P:Program}{base:Nat}{ah:ba}{w:World}{k:h2}{x:bA}(h:ks P base ah w k x){cs:List Value}(ag:x.cells?=some cs){v:Value}(ao:v∈cs):∃au,bf ah v au:=by
 obtain⟨i,ad⟩:=List.getElem?_of_mem ao
 cases h with
 | own ae ar kd an aU cj ax bq ig=>
  simp only[bA.cells?,Option.some.injEq]at ag
  subst ag
  obtain⟨au,-,aa⟩:=ig i v ad
  exact⟨au,aa⟩
 | ro kd an ig c0=>
  simp only[bA.cells?,Option.some.injEq]at ag
  subst ag
  obtain⟨au,-,aa⟩:=ig i v ad
  exact⟨au,aa⟩
 | dead=>simp[bA.cells?]at ag
theorem ks.WT{P:Program}{base:Nat}{ah bm:ba}{w:World}{k:h2}{x:bA}(h:ks P base ah w k x)(he:∀cs v,x.cells?=some cs->v∈cs->∀au,bf ah v au->bf bm v au):ks P base bm w k x:=by
 cases h with
 | own ae ar ad an aU cj ax bq ao=>exact .own ae ar ad an aU cj ax bq fun i v ad=>let⟨au,o,aa⟩:=ao i v ad;⟨au,o,he _ v rfl (List.mem_of_getElem? ad) au aa⟩
 | ro ad an ao c0=>exact .ro ad an (fun i v ad=>let⟨au,o,aa⟩:=ao i v ad;⟨au,o,he _ v rfl (List.mem_of_getElem? ad) au aa⟩) c0
 | dead=>exact .dead
theorem b8.grow{P:Program}{base:Nat}{ah:ba}{H aC:ab}{w:World}(h:b8 P base ah H w)(he:Ext H aC):b8 P base ah aC w:=by
 have ar:=he.len
 refine⟨Nat.lt_of_lt_of_le h.pos ar,h.size,fun b k ae=>⟨(h.ez b k ae).1,Nat.lt_of_lt_of_le (h.ez b k ae).2 ar⟩,fun b k x ae I=>?_,fun b ca k bK ae cM cF aK pb=>?_⟩
 ·rw[he.get (h.ez b k ae).2]at I
  exact h.eL b k x ae I
 ·exact h.inj b ca k bK ae cM cF ((px (he.get (h.ez b k ae).2)).1 aK) ((xg (he.get (h.ez ca bK cM).2)).1 pb)
theorem Step.grow{P:Program}{base:Nat}{ah bm:ba}{H H1 aY:ab}{w a5:World}(h:Step ah H w bm H1 a5)(bE:b8 P base bm H1 a5)(he:Ext H1 aY):Step ah H w bm aY a5 where
 ext:=h.ext
 new:=h.new
 len:=Nat.le_trans h.len he.len
 own b k ae aK:=h.own b k ae ((px (he.get (bE.ez b k ae).2)).1 aK)
 os:=h.os
 tape:=h.tape
 output:=h.output
 size:=h.size
 frame:=h.frame
section
variable {P:Program} {base:Nat} {ops:Array Oper} {T:Nat->List Value} {V:Nat->Value} {aW:Nat->ab} {hT:ba} {dP:World} {X:Nat->Bool} {s bg:Nat} {ah:ba} {a:Act} {w:World}
theorem xI(a2:∀j U,ops[j]?=some U->bF P U=true->aW (j+1)=aW j)(bJ:∀j U,ops[j]?=some U->bF P U=false->er P ops j=true\/Ext (aW j) (aW (j+1)))(aE:bg<=ops.size)
  (J8:∀j U,s<=j->j<bg->ops[j]?=some U->bF P U=false->er P ops j=false):∀(m i:Nat),s<=i->i+m<=bg->Ext (aW i) (aW (i+m))
 | 0,i,_,_=>Ext.refl _
 | m+1,i,an,hm=>by
  have aV:=xI a2 bJ aE J8 m i an (by omega)
  have a3:i+m<ops.size:=by omega
  have aK:=Array.getElem?_eq_getElem a3
  refine aV.trans ?_
  show Ext (aW (i+m)) (aW (i+m+1))
  cases ax:bF P ops[i+m]with
  | true=>rw[a2 _ _ aK ax];exact Ext.refl _
  | false=>
   rcases bJ _ _ aK ax with ae | he
   ·rw[J8 _ _ (by omega) (by omega) aK ax]at ae;cases ae
   ·exact he
theorem Inv.j8(ak:Inv P base ops T V aW hT dP X s bg ah a w)(a2:∀j U,ops[j]?=some U->bF P U=true->aW (j+1)=aW j)(bJ:∀j U,ops[j]?=some U->bF P U=false->er P ops j=true\/Ext (aW j) (aW (j+1)))
  {i j:Nat}(o:s<=i)(aa:i<=j)(aD:j<=bg):Ext (aW i) (aW j):=by
 have:=xI a2 bJ ak.ik ak.Xk (j-i) i o (by omega)
 rwa[show i+(j-i)=j by omega]at this
theorem Inv.operand(ak:Inv P base ops T V aW hT dP X s bg ah a w)(ef:gw ops=true)(a2:∀j U,ops[j]?=some U->bF P U=true->aW (j+1)=aW j)(bJ:∀j U,ops[j]?=some U->bF P U=false->er P ops j=true\/Ext (aW j) (aW (j+1)))
  (bc:∀(i:Nat) (U:Oper),ops[i]?=some U->T (i+1)=eP (T i) U.dst (V i)){i:Nat}{U:Oper}(aj:ky ops X i U){d:Tmp}(aL:d∈U.looksAt ops):bf (ah.below (aW (mj s bg i)).length) ((T i).getD d undef) (a.tmps.getD d undef):=by
 have cU:i<ops.size:=(Array.getElem?_eq_some_iff.1 aj.1).1
 by_cases jQ: @LT.lt Nat _ d (T 0).length
 ·rw[vl bc i (by omega) d jQ,<-HN ef ak.closed aj (.inl aL)]
  refine(ak.tmps d jQ).restrict ?_
  have qD:=ak.c6
  have gu:(aW s).length<=(aW (mj s bg i)).length:=by
   unfold mj
   split
   ·exact Nat.le_refl _
   ·split
    ·exact(ak.j8 a2 bJ (Nat.le_refl _) (by omega) (by omega)).len
    ·exact(ak.j8 a2 bJ (Nat.le_refl _) ak.c6 (Nat.le_refl _)).len
  rcases Ok (ops:=ops) V (T 0) X d with⟨j,o,aa,aD⟩ | aD
  ·rw[aD]
   have fe:=L5 ef ak.closed aj (.inl aL) j aa
   rw[o]at fe
   have lN:j<i:=by simpa using fe.symm
   refine(ak.u4 j (sO aa) o).mono ?_
   unfold p4
   split
   ·exact gu
   ·split
    ·unfold mj
     rw[if_neg (by omega)]
     split
     ·exact(ak.j8 a2 bJ (by omega) (by omega) (by omega)).len
     ·exact(ak.j8 a2 bJ (by omega) (by omega) (by omega)).len
    ·unfold mj
     rw[if_neg (by omega),if_neg (by omega)]
     exact Nat.le_refl _
  ·rw[aD]
   refine(ak.Nj _ ?_).mono gu
   simp only[List.getD_eq_getElem?_getD,bx jQ,Option.getD_some]
   exact List.getElem_mem jQ
 ·have o:(T i).getD d undef=undef:=by
   rw[List.getD_eq_getElem?_getD,List.getElem?_eq_none (by rw[nU bc i (by omega)];omega)]
   rfl
  have aa:a.tmps.getD d undef=undef:=by
   have:=ak.fg
   rw[Array.getD_eq_getD_getElem?,Array.getElem?_eq_none (by omega)]
   rfl
  rw[o,aa]
  exact bf.undef _
theorem Inv.operands(ak:Inv P base ops T V aW hT dP X s bg ah a w)(ef:gw ops=true)(ai:(ops.all fun U=>U.op.operands.all mN)=true)(a2:∀j U,ops[j]?=some U->bF P U=true->aW (j+1)=aW j)(bJ:∀j U,ops[j]?=some U->bF P U=false->er P ops j=true\/Ext (aW j) (aW (j+1)))
  (bc:∀(i:Nat) (U:Oper),ops[i]?=some U->T (i+1)=eP (T i) U.dst (V i)){i:Nat}{U:Oper}(aj:ky ops X i U):∀x∈U.op.operands,bf (ah.below (aW (mj s bg i)).length) (eW (T i) x) (a.eval x):=by
 intro x I
 obtain⟨a3,aK⟩:=Array.getElem?_eq_some_iff.1 aj.1
 cases x with
 | tmp d=>
  have:d∈U.looksAt ops:=by
   unfold Oper.looksAt
   exact List.mem_append_left _ (List.mem_filterMap.2 ⟨.tmp d,by simpa using I,rfl⟩)
  exact ak.operand ef a2 bJ bc aj this
 | const v=>
  have o:=Array.all_eq_true.1 ai i a3
  rw[aK]at o
  have:=Array.all_eq_true'.1 o _ I
  exact tj _ this
 | global g=>exact .rF g
 | func f=>exact .func _ rfl (fun i v au h=>by simp at h) rfl (fun i v au h=>by simp at h)
theorem Inv.wanted(ak:Inv P base ops T V aW hT dP X s bg ah a w)(ef:gw ops=true)(a2:∀j U,ops[j]?=some U->bF P U=true->aW (j+1)=aW j)(bJ:∀j U,ops[j]?=some U->bF P U=false->er P ops j=true\/Ext (aW j) (aW (j+1)))
  (bc:∀(i:Nat) (U:Oper),ops[i]?=some U->T (i+1)=eP (T i) U.dst (V i)){i:Nat}{U:Oper}(aj:ky ops X i U):Region.wanted U (yielded ops a.tmps)=Region.wanted U (gL ops (T i)):=by
 have cU:i<ops.size:=(Array.getElem?_eq_some_iff.1 aj.1).1
 refine Fo fun j b aU=>?_
 unfold yielded gL
 cases aL:(ops[j]?).bind (·.dst)with
 | none=>rfl
 | some d=>
  have gj:d∈U.looksAt ops:=by
   unfold Oper.looksAt
   refine List.mem_append_right _ ?_
   simp only[aU,aL]
   simp
  have ao:=ak.operand ef a2 bJ bc aj gj
  simp only[Option.bind_some]
  have tz:=nU bc i (by omega)
  by_cases jQ: @LT.lt Nat _ d (T 0).length
  ·have bp:(T i)[d]?=some ((T i).getD d undef):=by
    rw[List.getD_eq_getElem?_getD,bx (by omega)]
    rfl
   have bo:a.tmps[d]?=some (a.tmps.getD d undef):=by
    have:=ak.fg
    rw[Array.getD_eq_getD_getElem?,Array.getElem?_eq_getElem (by omega)]
    rfl
   rw[bp,bo]
   exact ao.gR.symm
  ·have bp:(T i)[d]?=none:=List.getElem?_eq_none (by omega)
   have bo:a.tmps[d]?=none:=Array.getElem?_eq_none (by have:=ak.fg;omega)
   rw[bp,bo]
theorem yJ{a:Act}{dst:Option Tmp}{v:Value}{d n:Nat}(ar:a.tmps.size=n)(aL:d<n):(a.put dst v).tmps.getD d undef=if dst=some d then v else a.tmps.getD d undef:=by
 cases dst with
 | none=>simp[Act.put]
 | some e=>
  simp only[Act.put,Array.getD_eq_getD_getElem?,Array.getElem?_setIfInBounds]
  by_cases he:e=d
  ·subst he;simp[ar,aL]
  ·simp[he]
theorem AF(a:Act)(dst:Option Tmp)(v:Value):(a.put dst v).tmps.size=a.tmps.size:=by cases dst<;>simp[Act.put]
theorem Inv.L8(ak:Inv P base ops T V aW hT dP X s bg ah a w)(ef:gw ops=true){i:Nat}{U:Oper}(aj:ky ops X i U)(ax:bF P U=true){au:Value}(ao:bf (ah.below (aW (mj s bg i)).length) (V i) au)
  (a2:∀j U,ops[j]?=some U->bF P U=true->aW (j+1)=aW j):Inv P base ops T V aW hT dP (eF X i) s bg ah (a.put U.dst au) w:=by
 have cU:i<ops.size:=(Array.getElem?_eq_some_iff.1 aj.1).1
 have cF:∀j y,ops[j]?=some y->bF P y=false->j≠i:=fun j y aJ KI e=>by
  subst e;rw[aj.1]at aJ;cases aJ;rw[ax]at KI;cases KI
 refine{ak with closed:=yv ak.closed aj,before:=?_,after:=?_,ez:=?_,u4:=?_,fg:=?_,tmps:=?_,defers:=?_}
 ·intro j y o aa aD
  simp[eF,ak.before j y o aa aD]
 ·intro j y o aa aD
  simp[eF,ak.after j y o aa aD,cF j y aa aD]
 ·intro b k ae
  rcases ak.ez b k ae with h | ⟨j,o,aa,aD,bD⟩
  ·exact .inl h
  ·exact .inr ⟨j,o,aa,by simp[eF,aD],bD⟩
 ·intro j aQ aR
  simp only[eF,Bool.or_eq_true,decide_eq_true_eq]at aR
  rcases aR with rfl | aR
  ·have hw:jg (aW (mj s bg j)).length (V j):=jg.of (fun b k ae=>(ba.ix ae).1) ao
   have e:(aW (p4 s bg j)).length=(aW (mj s bg j)).length:=by
    unfold p4 mj
    split
    ·rfl
    ·split
     ·rw[a2 j U aj.1 ax]
     ·rfl
   rw[e]
   exact hw
  ·exact ak.u4 j aQ aR
 ·rw[AF];exact ak.fg
 ·intro d aL
  rw[yz ef ak.closed aj,yJ ak.fg aL]
  split
  ·exact ao.ext fun b k ae=>(ba.ix ae).2
  ·exact ak.tmps d aL
 ·rw[put_defers];exact ak.defers
theorem Inv.Xu(ak:Inv P base ops T V aW hT dP X s bg ah a w)(a2:∀j U,ops[j]?=some U->bF P U=true->aW (j+1)=aW j)(bJ:∀j U,ops[j]?=some U->bF P U=false->er P ops j=true\/Ext (aW j) (aW (j+1)))
  {i:Nat}(o:s<=i)(aa:i<=bg):b8 P base (ah.below (aW i).length) (aW i) w:=by
 have he:=ak.j8 a2 bJ o aa (Nat.le_refl _)
 refine⟨?_,ak.im.size,fun b k ae=>⟨(ak.im.ez b k (ba.ix ae).2).1,(ba.ix ae).1⟩,fun b k x ae I=>?_,fun b ca k bK ae cM cF aK ar=>?_⟩
 ·have:=(ak.j8 a2 bJ (Nat.le_refl _) o aa).len
  have:=ak.LK
  have:=ak.z6
  omega
 ·have oq:=he.get_some I
  refine(ak.im.eL b k x (ba.ix ae).2 oq).WT fun cs v ag ao au ig=>ig.restrict ?_
  exact ak.A9 i o aa b k x cs v (ba.ix ae).2 (ba.ix ae).1 oq ag ao
 ·exact ak.im.inj b ca k bK (ba.ix ae).2 (ba.ix cM).2 cF ((px (he.get (ba.ix ae).1)).2 aK) ((xg (he.get (ba.ix cM).1)).2 ar)
end
section
variable {P:Program} {base:Nat} {ops:Array Oper} {T:Nat->List Value} {V:Nat->Value} {aW:Nat->ab} {hT:ba} {dP:World} {X:Nat->Bool} {s bg:Nat} {ah:ba} {a:Act} {w:World}
def ba.join(ah bm:ba)(l h:Nat):ba:=fun b=>if b<l then ah b else if b<h then bm b else ah b
theorem Inv.runM(ak:Inv P base ops T V aW hT dP X s bg ah a w)(ef:gw ops=true)(a2:∀j U,ops[j]?=some U->bF P U=true->aW (j+1)=aW j)(bJ:∀j U,ops[j]?=some U->bF P U=false->er P ops j=true\/Ext (aW j) (aW (j+1)))
  {i:Nat}{U:Oper}(aj:ky ops X i U)(hQ:s<=i)(eT:i<bg){bm:ba}{au:Value}{a5:World}(ao:bf bm (V i) au)(bE:b8 P base bm (aW (i+1)) a5)(cS:Step (ah.below (aW i).length) (aW i) w bm (aW (i+1)) a5):
  ∃pQ,Inv P base ops T V aW hT dP (eF X i) s bg pQ (a.put U.dst au) a5:=by
 have cU:i<ops.size:=(Array.getElem?_eq_some_iff.1 aj.1).1
 have bp:=ak.j8 a2 bJ hQ (by omega) (show i+1<=bg by omega)
 have bo:=ak.j8 a2 bJ (show s<=i+1 by omega) eT (Nat.le_refl _)
 have e0:=ak.j8 a2 bJ hQ (by omega) (Nat.le_refl bg)
 have es:=ak.j8 a2 bJ (Nat.le_refl s) hQ (by omega)
 have Vq:=bp.len
 have Vr:=bo.len
 have ls:=es.len
 have So:∀b k,ah b=some k->b<(aW i).length\/(aW (i+1)).length<=b:=by
  intro b k ae
  rcases ak.ez b k ae with h | ⟨j,o,aa,aD,bD,b2⟩
  ·exact .inl (by omega)
  ·rcases Nat.lt_trichotomy j i with a3 | heq | wE
   ·have:=(ak.j8 a2 bJ (show s<=j+1 by omega) a3 (by omega)).len
    exact .inl (by omega)
   ·subst heq;rw[aj.2.1]at aD;cases aD
   ·have:=(ak.j8 a2 bJ (show s<=i+1 by omega) wE (by omega)).len
    exact .inr (by omega)
 have zs:∀b k,ah b=some k->ah.join bm (aW i).length (aW (i+1)).length b=some k:=by
  intro b k ae
  unfold ba.join
  rcases So b k ae with h | h
  ·rw[if_pos h];exact ae
  ·rw[if_neg (by omega),if_neg (by omega)];exact ae
 have JN:∀b k,bm b=some k->ah.join bm (aW i).length (aW (i+1)).length b=some k:=by
  intro b k ae
  have a3:=(bE.ez b k ae).2
  unfold ba.join
  rcases cS.new b k ae with h | h
  ·rw[if_pos (ba.ix h).1];exact(ba.ix h).2
  ·rw[if_neg (by omega),if_pos a3];exact ae
 have nq:∀b k,ah.join bm (aW i).length (aW (i+1)).length b=some k->(b<(aW i).length/\ah b=some k/\bm b=some k)\/((aW i).length<=b/\b<(aW (i+1)).length/\bm b=some k)\/((aW (i+1)).length<=b/\ah b=some k):=by
  intro b k ae
  unfold ba.join at ae
  by_cases o:b<(aW i).length
  ·rw[if_pos o]at ae
   exact .inl ⟨o,ae,cS.ext b k (ba.Bx o ae)⟩
  ·rw[if_neg o]at ae
   by_cases aa:b<(aW (i+1)).length
   ·rw[if_pos aa]at ae;exact .inr (.inl ⟨by omega,aa,ae⟩)
   ·rw[if_neg aa]at ae;exact .inr (.inr ⟨by omega,ae⟩)
 have De:∀b k,ah.join bm (aW i).length (aW (i+1)).length b=some k->b<(aW (i+1)).length->bm b=some k:=by
  intro b k ae a3
  rcases nq b k ae with h | h | h
  ·exact h.2.2
  ·exact h.2.2
  ·omega
 have Is:∀b k x,ah b=some k->(aW bg)[b]?=some x->x.cells?≠none->k.g<w.heap.size:=fun b k x ae I aE=>(ak.im.eL b k x ae I).lt aE
 have VB:∀b k,ah b=some k->kZ (aW bg) b->k.g<w.heap.size:=fun b k ae ⟨x,cs,I,ag⟩=>Is b k x ae I (by rw[ag];simp)
 have qx:∀b k ca bK,(aW i).length<=b->bm b=some k->hk (aW (i+1)) b->ah ca=some bK->kZ (aW bg) ca->ca<(aW i).length\/(aW (i+1)).length<=ca->k.g≠bK.g:=by
  intro b k ca bK gD ae aK cM dz zw
  rcases cS.own b k ae aK with h | ⟨g7,iY,o,aa,aD⟩
  ·have:=VB ca bK cM dz
   omega
  ·by_cases oX:g7=ca
   ·
    subst oX
    have hm:=(ba.ix o).2
    rw[hm]at cM
    obtain rfl:=Option.some.inj cM
    have mq:=(ba.ix o).1
    have qy:kZ (aW (i+1)) g7:=(xg (bo.get (by omega))).1 dz
    exact bE.inj b g7 k iY ae (cS.ext _ _ o) (by omega) aK qy
   ·have:=ak.im.inj g7 ca iY bK (ba.ix o).2 cM oX ((px (e0.get (ba.ix o).1)).2 aa) dz
    omega
 refine⟨ah.join bm (aW i).length (aW (i+1)).length,?_⟩
 refine{ak with closed:=yv ak.closed aj,before:=?_,after:=?_,im:=?_,ext:=fun b k ae=>zs b k (ak.ext b k ae),ez:=?_,A9:=?_,u4:=?_,fg:=?_,tmps:=?_,defers:=?_,step:=?_}
 ·intro j y o aa aD
  simp[eF,ak.before j y o aa aD]
 ·intro j y o aa aD
  have:j≠i:=by omega
  simp[eF,ak.after j y o aa aD,this]
 ·refine⟨ak.im.pos,bE.size,fun b k ae=>?_,fun b k x ae I=>?_,fun b ca k bK ae cM cF aK ar=>?_⟩
  ·rcases nq b k ae with⟨h,b7,-⟩ | ⟨h,b7,rG⟩ | ⟨h,b7⟩
   ·exact ak.im.ez b k b7
   ·have:=bE.ez b k rG;exact⟨this.1,by omega⟩
   ·exact ak.im.ez b k b7
  ·by_cases a3:b<(aW (i+1)).length
   ·have mr:=De b k ae a3
    rw[bo.get a3]at I
    exact(bE.eL b k x mr I).gk JN (fun _=>rfl) (Nat.le_refl _)
   ·rcases nq b k ae with⟨h,-,-⟩ | ⟨-,h,-⟩ | ⟨h,b7⟩
    ·omega
    ·omega
    ·refine(ak.im.eL b k x b7 I).gk zs (fun aE=>cS.frame k.g (Is b k x b7 I aE) fun g7 iY mq Sq=>?_) cS.size
     have I_:=ba.ix mq
     obtain⟨nd,wu⟩:∃nd,x.cells?=some nd:=by cases av:x.cells? with | none=>exact absurd av aE | some q=>exact⟨q,rfl⟩
     exact ak.im.inj g7 b iY k I_.2 b7 (by omega) ((px (e0.get I_.1)).2 Sq) ⟨x,nd,I,wu⟩
  ·by_cases a3:b<(aW (i+1)).length
   ·have mr:=De b k ae a3
    have qy:=(px (bo.get a3)).1 aK
    by_cases iT:ca<(aW (i+1)).length
    ·exact bE.inj b ca k bK mr (De ca bK cM iT) cF qy ((xg (bo.get iT)).1 ar)
    ·rcases nq ca bK cM with⟨h,-,-⟩ | ⟨-,h,-⟩ | ⟨h,b7⟩
     ·omega
     ·omega
     ·rcases nq b k ae with⟨q,pF,-⟩ | ⟨q,pF,LR⟩ | ⟨q,pF⟩
      ·exact ak.im.inj b ca k bK pF b7 cF aK ar
      ·exact qx b k ca bK q mr qy b7 ar (.inr h)
      ·omega
   ·rcases nq b k ae with⟨h,-,-⟩ | ⟨-,h,-⟩ | ⟨h,b7⟩
    ·omega
    ·omega
    ·rcases nq ca bK cM with⟨q,pF,-⟩ | ⟨q,pF,LR⟩ | ⟨q,pF⟩
     ·exact ak.im.inj b ca k bK b7 pF cF aK ar
     ·have g9:=(xg (bo.get pF)).1 ar
      have qy:hk (aW (i+1)) ca:=by
       obtain⟨x,cs,I,ag⟩:=g9
       cases x with
       | own e l c=>exact⟨e,l,c,I⟩
       | ro e c=>exact absurd rfl (bp.new q I e c)
       | dead=>simp[bA.cells?]at ag
      exact fun e=>qx ca bK b k q LR qy b7 aK.live (.inr h) e.symm
     ·exact ak.im.inj b ca k bK b7 pF cF aK ar
 ·intro b k ae
  rcases nq b k ae with⟨h,b7,-⟩ | ⟨h,b7,rG⟩ | ⟨h,b7⟩
  ·rcases ak.ez b k b7 with q | ⟨j,aS,aM,bh,b0⟩
   ·exact .inl q
   ·exact .inr ⟨j,aS,aM,by simp[eF,bh],b0⟩
  ·exact .inr ⟨i,hQ,eT,by simp[eF],h,b7⟩
  ·rcases ak.ez b k b7 with q | ⟨j,aS,aM,bh,b0⟩
   ·exact .inl q
   ·exact .inr ⟨j,aS,aM,by simp[eF,bh],b0⟩
 ·intro j o aa b k x cs v ae gD I ag pj
  rcases nq b k ae with⟨h,b7,-⟩ | ⟨h,b7,rG⟩ | ⟨h,b7⟩
  ·exact ak.A9 j o aa b k x cs v b7 gD I ag pj
  ·have fe:i+1<=j:=by
    rcases Nat.lt_or_ge i j with q | q
    ·exact q
    ·have:=(ak.j8 a2 bJ o q (by omega)).len
     omega
   rw[bo.get b7]at I
   obtain⟨u,hu⟩:=(bE.eL b k x rG I).Fm ag pj
   exact(jg.of (fun b k ae=>(bE.ez b k ae).2) hu).mono (ak.j8 a2 bJ (by omega) fe aa).len
  ·exact ak.A9 j o aa b k x cs v b7 gD I ag pj
 ·intro j aQ aR
  simp only[eF,Bool.or_eq_true,decide_eq_true_eq]at aR
  rcases aR with rfl | aR
  ·unfold p4
   rw[if_neg (by omega),if_pos eT]
   exact jg.of (fun b k ae=>(bE.ez b k ae).2) ao
  ·exact ak.u4 j aQ aR
 ·rw[AF];exact ak.fg
 ·intro d aL
  rw[yz ef ak.closed aj,yJ ak.fg aL]
  split
  ·exact ao.ext JN
  ·exact(ak.tmps d aL).ext zs
 ·rw[put_defers];exact ak.defers
 ·have o_:=ak.z6
  refine⟨fun b k ae=>zs b k (ak.ext b k ae),fun b k ae=>?_,ak.step.len,fun b k ae aK=>?_,cS.os.trans ak.step.os,cS.tape.trans ak.step.tape,cS.output.trans ak.step.output,Nat.le_trans ak.step.size cS.size,fun g aU cF=>?_⟩
  ·rcases nq b k ae with⟨h,b7,-⟩ | ⟨h,b7,rG⟩ | ⟨h,b7⟩
   ·exact ak.step.new b k b7
   ·exact .inr (by omega)
   ·exact ak.step.new b k b7
  ·rcases nq b k ae with⟨h,b7,-⟩ | ⟨h,b7,rG⟩ | ⟨h,b7⟩
   ·exact ak.step.own b k b7 aK
   ·rcases cS.own b k rG ((px (bo.get b7)).1 aK)with q | ⟨g7,iY,aS,aM,bh⟩
    ·exact .inl (Nat.le_trans ak.step.size q)
    ·have Aq:=ba.ix aS
     rcases ak.step.own g7 iY Aq.2 ((px (e0.get Aq.1)).2 aM)with r | ⟨gQ,iG,dT,fH,hZ⟩
     ·exact .inl (by omega)
     ·exact .inr ⟨gQ,iG,dT,fH,by omega⟩
   ·exact ak.step.own b k b7 aK
  ·rw[cS.frame g (Nat.lt_of_lt_of_le aU ak.step.size) fun b k ae aK=>?_,ak.step.frame g aU cF]
   have cM:=ba.ix ae
   rcases ak.step.own b k cM.2 ((px (e0.get cM.1)).2 aK)with r | ⟨gQ,iG,dT,fH,hZ⟩
   ·omega
   ·exact fun e=>cF gQ iG dT fH (by omega)
theorem Ei(ops:Array Oper):∀(m i:Nat),i+m=ops.size->∃bg,i<=bg/\bg<=ops.size/\(∀j U,i<=j->j<bg->ops[j]?=some U->bF P U=false->er P ops j=false)/\(bg=ops.size\/∃U,ops[bg]?=some U/\bF P U=false/\er P ops bg=true)
 | 0,i,h=>⟨i,Nat.le_refl _,by omega,fun j U o aa=>by omega,.inl (by omega)⟩
 | m+1,i,h=>by
  have a3:i<ops.size:=by omega
  have aK:=Array.getElem?_eq_getElem a3
  by_cases ae:bF P ops[i]=false/\er P ops i=true
  ·exact⟨i,Nat.le_refl _,by omega,fun j U o aa=>by omega,.inr ⟨_,aK,ae.1,ae.2⟩⟩
  ·obtain⟨bg,o,aa,aD,bD⟩:=Ei ops m (i+1) (by omega)
   refine⟨bg,by omega,aa,fun j U aS aM bh b0=>?_,bD⟩
   by_cases aQ:j=i
   ·subst aQ
    rw[aK]at bh
    obtain rfl:=Option.some.inj bh
    cases lI:er P ops j with
    | false=>rfl
    | true=>exact absurd ⟨b0,lI⟩ ae
   ·exact aD j U (by omega) aM bh b0
theorem Inv.W5(ak:Inv P base ops T V aW hT dP X s bg ah a w)(ef:gw ops=true)(a2:∀j U,ops[j]?=some U->bF P U=true->aW (j+1)=aW j)(bJ:∀j U,ops[j]?=some U->bF P U=false->er P ops j=true\/Ext (aW j) (aW (j+1)))
  {U:Oper}(aj:ky ops X bg U)(ax:bF P U=false)(y5:er P ops bg=true){bm:ba}{au:Value}{a5:World}(ao:bf bm (V bg) au)(bE:b8 P base bm (aW (bg+1)) a5)(cS:Step ah (aW bg) w bm (aW (bg+1)) a5):
  ∃ov pQ,Inv P base ops T V aW hT dP (eF X bg) (bg+1) ov pQ (a.put U.dst au) a5:=by
 have cU:bg<ops.size:=(Array.getElem?_eq_some_iff.1 aj.1).1
 obtain⟨ov,o,aa,aD,bD⟩:=Ei ops (ops.size-(bg+1)) (bg+1) (by omega)
 have mx:∀{i j:Nat},bg+1<=i->i<=j->j<=ov->Ext (aW i) (aW j):=fun{i j} aS aM bh=>by
  have:=xI a2 bJ aa aD (j-i) i aS (by omega)
  rwa[show i+(j-i)=j by omega]at this
 have e:=mx (Nat.le_refl _) o (Nat.le_refl _)
 have qD:=ak.c6
 have ls:=(ak.j8 a2 bJ (Nat.le_refl s) qD (Nat.le_refl _)).len
 have fG:=cS.len
 have o_:=ak.z6
 refine⟨ov,bm,?_⟩
 refine⟨yv ak.closed aj,o,aa,aD,fun j y aS aM bh=>?_,fun j y aS aM bh=>?_,bD,bE.grow e,fun b k ae=>cS.ext b k (ak.ext b k ae),fun b k ae=> .inl (bE.ez b k ae).2,?_,?_,fun v ao=>(ak.Nj v ao).mono (by omega),ak.LK,by omega,by rw[AF];exact ak.fg,?_,by rw[put_defers];exact ak.defers,(ak.step.trans cS).grow bE e⟩
 ·by_cases aQ:j=bg
  ·subst aQ;simp[eF]
  ·have ae:=s7 y5 aM bh aQ
   rw[show min bg j=j by omega,show max bg j=bg by omega]at ae
   have:=td ef ak.closed bg U aj.1 aj.2.2 j (by omega) ae
   simp[eF,this]
 ·have aQ:j≠bg:=by omega
  have fO:j<ops.size:=(Array.getElem?_eq_some_iff.1 aM).1
  cases aR:X j with
  | false=>simp[eF,aR,aQ]
  | true=>
   have ae:=s7 y5 aM bh aQ
   rw[show min bg j=bg by omega,show max bg j=j by omega]at ae
   have:=yu ef ak.closed fO aR cU ae
   rw[aj.2.1]at this
   cases this
 ·intro j aS aM b k x cs v ae gD I ag pj
  have lJ:=(bE.ez b k ae).2
  rw[e.get lJ]at I
  obtain⟨u,hu⟩:=(bE.eL b k x ae I).Fm ag pj
  exact(jg.of (fun b k ae=>(bE.ez b k ae).2) hu).mono (mx (Nat.le_refl _) aS aM).len
 ·intro j aQ aR
  simp only[eF,Bool.or_eq_true,decide_eq_true_eq]at aR
  have gu:(aW (bg+1)).length<=(aW (p4 (bg+1) ov j)).length:=by
   unfold p4
   split
   ·exact Nat.le_refl _
   ·split
    ·exact(mx (Nat.le_refl _) (by omega) (by omega)).len
    ·exact(mx (Nat.le_refl _) o (Nat.le_refl _)).len
  rcases aR with rfl | aR
  ·exact(jg.of (fun b k ae=>(bE.ez b k ae).2) ao).mono gu
  ·refine(ak.u4 j aQ aR).mono (Nat.le_trans ?_ (Nat.le_trans fG gu))
   unfold p4
   split
   ·exact ls
   ·split
    ·exact(ak.j8 a2 bJ (by omega) (by omega) (Nat.le_refl _)).len
    ·exact Nat.le_refl _
 ·intro d aL
  rw[yz ef ak.closed aj,yJ ak.fg aL]
  split
  ·exact ao
  ·exact(ak.tmps d aL).ext cS.ext
theorem L4{dd:Array Bool}{i:Nat}(h:i∈Region.ready .any ops dd)(ar:dd.size=ops.size):∃U,ky ops (fun j=>dd.getD j false) i U:=by
 unfold Region.ready at h
 rw[List.mem_filter]at h
 obtain⟨o,aa⟩:=h
 have a3:i<ops.size:=List.mem_range.1 o
 have aK:=Array.getElem?_eq_getElem a3
 simp only[aK,Option.map_some,Option.getD_some,Bool.and_eq_true,Bool.not_eq_true',Array.all_eq_true']at aa
 refine⟨ops[i],aK,?_,fun e he ae=>?_⟩
 ·have:=aa.1
  simp only[Array.getD_eq_getD_getElem?,Array.getElem?_eq_getElem (show i<dd.size by omega),Option.getD_some]at this⊢
  exact this
 ·have:=aa.2 e he
  simpa[ae]using this
theorem L3{dd:Array Bool}(h:Region.ready .any ops dd=[])(ar:dd.size=ops.size)(ef:gw ops=true):∀i,i<ops.size->dd.getD i false=true:=by
 intro i
 induction i using Nat.strongRecOn with
 | _ i aV=>
  intro ad
  cases ag:dd.getD i false with
  | true=>rfl
  | false=>
   have aK:=Array.getElem?_eq_getElem ad
   have gj:i∈Region.ready .any ops dd:=by
    unfold Region.ready
    rw[List.mem_filter]
    refine⟨List.mem_range.2 ad,?_⟩
    simp only[aK,Option.map_some,Option.getD_some,Bool.and_eq_true,Bool.not_eq_true',Array.all_eq_true']
    constructor
    ·simp only[Array.getD_eq_getD_getElem?,Array.getElem?_eq_getElem (show i<dd.size by omega),Option.getD_some]at ag⊢
     exact ag
    ·intro e he
     cases ae:Region.binds .any e with
     | false=>simp
     | true=>
      have:=Pg ef aK he ae
      simp[aV e.on this (by omega)]
   rw[h]at gj
   cases gj
theorem KZ{dd:Array Bool}{i:Nat}(ad:i<dd.size):(fun j=>(dd.setIfInBounds i true).getD j false)=eF (fun j=>dd.getD j false) i:=by
 funext j
 simp only[eF,Array.getD_eq_getD_getElem?,Array.getElem?_setIfInBounds]
 by_cases h:i=j
 ·subst h;simp[ad]
 ·have:j≠i:=fun e=>h e.symm
  simp[h,this]
def sK(n:Nat)(X:Nat->Bool):Nat:=((List.range n).filter fun i=> !X i).length
theorem A5{n:Nat}{X:Nat->Bool}{i:Nat}(ad:i<n)(aR:X i=false):sK n (eF X i)+1<=sK n X:=by
 unfold sK
 have:∀(l:List Nat),l.Nodup->(l.filter fun j=> !eF X i j).length+(if i∈l then 1 else 0)=(l.filter fun j=> !X j).length:=by
  intro l ar
  induction l with
  | nil=>rfl
  | cons a l aV=>
   rw[List.nodup_cons]at ar
   have aV:=aV ar.2
   by_cases jO:a=i
   ·subst jO
    rw[if_neg ar.1]at aV
    simp only[List.filter_cons,eF,decide_true,Bool.true_or,Bool.not_true,aR,Bool.not_false,List.mem_cons,true_or,if_true]
    simp only[eF,Bool.not_or]at aV
    simp
    omega
   ·have hm:(i∈a::l)↔i∈l:=by simp[Ne.symm jO]
    simp only[hm]
    have e:eF X i a=X a:=by simp[eF,jO]
    simp only[List.filter_cons,e]
    cases X a
    ·simp only[Bool.not_false,if_true,List.length_cons];omega
    ·simpa using aV
 have:=this (List.range n) List.nodup_range
 rw[if_pos (List.mem_range.2 ad)]at this
 omega
theorem NP{Q:Exit->Act->World->Prop}(ef:gw ops=true)(ai:(ops.all fun U=>U.op.operands.all mN)=true)(h:∀(i:Nat) (U:Oper),ops[i]?=some U->sY P base ops U (T i) (aW i) (V i) (aW (i+1)))
  (bc:∀(i:Nat) (U:Oper),ops[i]?=some U->T (i+1)=eP (T i) U.dst (V i))(bJ:∀j U,ops[j]?=some U->bF P U=false->er P ops j=true\/Ext (aW j) (aW (j+1)))
  (aG:∀bm b1 a5,cz bm (T ops.size) b1.tmps.toList->b1.defers=[]->b8 P base bm (aW ops.size) a5->Step hT (aW 0) dP bm (aW ops.size) a5->Q .normal b1 a5):
  ∀(fuel:Nat) (dd:Array Bool) (s bg:Nat) (ah:ba) (a:Act) (w:World),dd.size=ops.size->sK ops.size (fun j=>dd.getD j false)<=fuel->Inv P base ops T V aW hT dP (fun j=>dd.getD j false) s bg ah a w->wpAny P .any ops Q fuel dd a w:=by
 have a2:∀j U,ops[j]?=some U->bF P U=true->aW (j+1)=aW j:=fun j U aK ax=>by
  rcases h j U aK with⟨-,-,aD⟩ | ⟨-,-,-,aD⟩ | ⟨-,aa,-⟩
  ·exact aD
  ·exact aD
  ·rw[ax]at aa;cases aa
 have fin:∀(dd:Array Bool) (s bg:Nat) (ah:ba) (a:Act) (w:World),dd.size=ops.size->(∀i,i<ops.size->dd.getD i false=true)->Inv P base ops T V aW hT dP (fun j=>dd.getD j false) s bg ah a w->Q .normal a w:=by
  intro dd s bg ah a w ar cQ ak
  have zt:bg=ops.size:=by
   rcases ak.stop with h | ⟨U,o,aa,-⟩
   ·exact h
   ·have:=ak.after bg U (Nat.le_refl _) o aa
    have:=cQ bg (Array.getElem?_eq_some_iff.1 o).1
    simp_all
  subst zt
  refine aG ah a w ⟨?_,fun d v au ao dc=>?_⟩ ak.defers ak.im ak.step
  ·rw[nU bc _ (Nat.le_refl _)];simpa using ak.fg.symm
  ·have jQ:d<(T 0).length:=by
    have:=(cd.1 ao).1
    rwa[nU bc _ (Nat.le_refl _)]at this
   have ig:=ak.tmps d jQ
   rw[vz (Y:=fun j=>decide (j<ops.size)) (fun j aQ=>by rw[cQ j (sO aQ)];simp[sO aQ]),<-vl bc _ (Nat.le_refl _) d jQ]at ig
   rw[List.getD_eq_getElem?_getD,ao]at ig
   have bo:a.tmps[d]?=some au:=by simpa using dc
   rw[Array.getD_eq_getD_getElem?,bo]at ig
   exact ig
 intro fuel
 induction fuel with
 | zero=>
  intro dd s bg ah a w ar hu ak
  have cQ:∀i,i<ops.size->dd.getD i false=true:=by
   intro i ad
   cases ag:dd.getD i false with
   | true=>rfl
   | false=>have:=A5 (X:=fun j=>dd.getD j false) ad ag;omega
  refine⟨?_,fin dd s bg ah a w ar cQ ak⟩
  unfold Region.ready
  rw[List.filter_eq_nil_iff]
  intro i ad
  have:=cQ i (List.mem_range.1 ad)
  simp only[Array.getD_eq_getD_getElem?,Array.getElem?_eq_getElem (show i<dd.size by have:=List.mem_range.1 ad;omega),Option.getD_some]at this⊢
  simp[this]
 | succ fuel aV=>
  intro dd s bg ah a w ar hu ak
  refine⟨fun aE=>fin dd s bg ah a w ar (L3 aE ar ef) ak,fun i ad=>?_⟩
  obtain⟨U,aj⟩:=L4 ad ar
  have cU:i<ops.size:=(Array.getElem?_eq_some_iff.1 aj.1).1
  have jr:=KZ (dd:=dd) (i:=i) (by omega)
  have cont:∀(de ov:Nat) (pQ:ba) (au:Value) (a5:World),Inv P base ops T V aW hT dP (eF (fun j=>dd.getD j false) i) de ov pQ (a.put U.dst au) a5->wpAny P .any ops Q fuel (dd.setIfInBounds i true) (a.put U.dst au) a5:=by
   intro de ov pQ au a5 rj
   refine aV _ de ov pQ _ a5 (by simpa using ar) ?_ (by rw[jr];exact rj)
   rw[jr]
   have:=A5 (X:=fun j=>dd.getD j false) cU aj.2.1
   omega
  unfold wpOp
  simp only[aj.1,ak.wanted ef a2 bJ bc aj]
  have lQ:=ak.operands ef ai a2 bJ bc aj
  have mem:bF P U=false->∀bm au a5,bf bm (V i) au->b8 P base bm (aW (i+1)) a5->Step (ah.below (aW i).length) (aW i) w bm (aW (i+1)) a5->wpAny P .any ops Q fuel (dd.setIfInBounds i true) (a.put U.dst au) a5:=by
   intro ax bm au a5 ao bE cS
   have hQ:s<=i:=by
    rcases Nat.lt_or_ge i s with q | q
    ·exact(Bool.false_ne_true (aj.2.1.symm.trans (ak.before i U q aj.1 ax))).elim
    ·exact q
   have eT:i<=bg:=by
    rcases Nat.lt_or_ge bg i with q | q
    ·rcases ak.stop with b7 | ⟨y,aS,aM,bh⟩
     ·omega
     ·have ae:=s7 bh aj.1 ax (by omega)
      rw[show min bg i=bg by omega,show max bg i=i by omega]at ae
      have:=td ef ak.closed i U aj.1 aj.2.2 bg (Array.getElem?_eq_some_iff.1 aS).1 ae
      have:=ak.after bg y (Nat.le_refl _) aS aM
      simp_all
    ·exact q
   by_cases heq:i=bg
   ·subst heq
    have y5:er P ops i=true:=by
     rcases ak.stop with b7 | ⟨y,aS,aM,bh⟩
     ·omega
     ·exact bh
    have Sf:ah.below (aW i).length=ah:=by
     funext b
     unfold ba.below
     split
     ·rfl
     ·cases ae:ah b with
      | none=>rfl
      | some k=>have:=(ak.im.ez b k ae).2;omega
    rw[Sf]at cS
    obtain⟨ov,pQ,rj⟩:=ak.W5 ef a2 bJ aj ax y5 ao bE cS
    exact cont _ _ _ _ _ rj
   ·obtain⟨pQ,rj⟩:=ak.runM ef a2 bJ aj hQ (by omega) ao bE cS
    exact cont _ _ _ _ _ rj
  have EO:bF P U=false->b8 P base (ah.below (aW i).length) (aW i) w/\∀x∈U.op.operands,bf (ah.below (aW i).length) (eW (T i) x) (a.eval x):=by
   intro ax
   have hQ:s<=i:=by
    rcases Nat.lt_or_ge i s with q | q
    ·exact(Bool.false_ne_true (aj.2.1.symm.trans (ak.before i U q aj.1 ax))).elim
    ·exact q
   have eT:i<=bg:=by
    rcases Nat.lt_or_ge bg i with q | q
    ·rcases ak.stop with b7 | ⟨y,aS,aM,bh⟩
     ·omega
     ·have ae:=s7 bh aj.1 ax (by omega)
      rw[show min bg i=bg by omega,show max bg i=i by omega]at ae
      have:=td ef ak.closed i U aj.1 aj.2.2 bg (Array.getElem?_eq_some_iff.1 aS).1 ae
      have:=ak.after bg y (Nat.le_refl _) aS aM
      simp_all
    ·exact q
   refine⟨ak.Xu a2 bJ hQ eT,?_⟩
   have Pe:mj s bg i=i:=by unfold mj;rw[if_neg (by omega)];split<;>omega
   rw[Pe]at lQ
   exact lQ
  rcases h i U aj.1 with⟨o,aa,aD⟩ | ⟨o,aa,aD,bD⟩ | ⟨o,aa,aD⟩
  ·rw[o]
   cases ax:bF P U with
   | true=>exact cont _ _ _ undef _ (ak.L8 (au:=undef) ef aj ax (by rw[aa];exact bf.undef _) a2)
   | false=>exact mem ax (ah.below (aW i).length) undef w (by rw[aa];exact bf.undef _) (aD▸(EO ax).1) (aD▸Step.refl _ _ _)
  ·rw[o]
   obtain⟨au,gF,ao⟩:=BX aD lQ w
   refine .inl ?_
   unfold Oper.wp
   rw[gF]
   exact cont _ _ _ _ _ (ak.L8 ef aj aa ao a2)
  ·rw[o]
   exact .inl (aD (ah.below (aW i).length) w a (EO aa).2 (EO aa).1 _ _ fun bm au a5 ao bE cS=>mem aa bm au a5 ao bE cS)
end
section
variable {P:Program} {base:Nat} {ops:Array Oper} {T:Nat->List Value} {V:Nat->Value} {aW:Nat->ab} {dW:Nat->Option (Nat×Option bA)} {ah:ba} {dP:World} {X:Nat->Bool} {a:Act} {w:World} {H:ab}
def mh(dW:Nat->Option (Nat×Option bA))(j b:Nat):Prop:=∃x,dW j=some (b,some x)
theorem Vv(ar:∀(i:Nat) (U:Oper),ops[i]?=some U->nQ P ops U (T i) (aW i) (V i) (aW (i+1)) (dW i)){i:Nat}(ad:i<ops.size){b:Nat}(hw:¬mh dW i b):(aW (i+1))[b]?=(aW i)[b]?:=by
 have h:=ar i _ (Array.getElem?_eq_getElem ad)
 cases bt:dW i with
 | none=>rw[bt]at h;rw[h.2]
 | some bs=>
  obtain⟨c,y⟩:=bs
  rw[bt]at h
  obtain⟨-,-,-,-,b2,-⟩:=h
  cases y with
  | none=>rw[b2];rfl
  | some x=>
   simp only[lX]at b2
   have:c≠b:=fun e=>hw ⟨x,by rw[bt,e]⟩
   rw[b2,List.getElem?_set_ne this]
theorem KX(ar:∀(i:Nat) (U:Oper),ops[i]?=some U->nQ P ops U (T i) (aW i) (V i) (aW (i+1)) (dW i)):∀i,i<=ops.size->(aW i).length=(aW 0).length
 | 0,_=>rfl
 | i+1,ad=>by
  have aV:=KX ar i (by omega)
  have h:=ar i _ (Array.getElem?_eq_getElem (show i<ops.size by omega))
  cases bt:dW i with
  | none=>rw[bt]at h;rw[h.2,aV]
  | some bs=>
   obtain⟨c,y⟩:=bs
   rw[bt]at h
   obtain⟨-,-,-,-,b2,-⟩:=h
   cases y with
   | none=>rw[b2,<-aV];rfl
   | some x=>rw[b2];simp[lX,aV]
theorem z5(ar:∀(i:Nat) (U:Oper),ops[i]?=some U->nQ P ops U (T i) (aW i) (V i) (aW (i+1)) (dW i)){b:Nat}:∀(m i:Nat),i+m<=ops.size->(∀j,i<=j->j<i+m->¬mh dW j b)->(aW (i+m))[b]?=(aW i)[b]?
 | 0,i,_,_=>rfl
 | m+1,i,h,hw=>by
  have aV:=z5 ar m i (by omega) fun j o aa=>hw j o (by omega)
  rw[<-aV]
  exact Vv ar (show i+m<ops.size by omega) (hw (i+m) (by omega) (by omega))
structure kY (P:Program) (base:Nat) (ops:Array Oper) (T:Nat->List Value) (V:Nat->Value) (aW:Nat->ab) (dW:Nat->Option (Nat×Option bA)) (ah:ba) (dP:World) (X:Nat->Bool) (a:Act) (w:World) (H:ab):Prop where
 closed:oJ ops X
 size:∀j,X j=true->j<ops.size
 len:H.length=(aW 0).length
 row:∀b,∃k,k<=ops.size/\(∀j,j<k->mh dW j b->X j=true)/\(∀j,k<=j->mh dW j b->X j=false)/\H[b]?=(aW k)[b]?
 im:b8 P base ah H w
 fg:a.tmps.size=(T 0).length
 tmps:∀d,d<(T 0).length->bf ah (cur ops V (T 0) X d) (a.tmps.getD d undef)
 defers:a.defers=[]
 step:Step ah (aW 0) dP ah H w
theorem kY.operand(ak:kY P base ops T V aW dW ah dP X a w H)(ef:gw ops=true)(bc:∀(i:Nat) (U:Oper),ops[i]?=some U->T (i+1)=eP (T i) U.dst (V i)){i:Nat}{U:Oper}(aj:ky ops X i U){d:Tmp}(aL:d∈U.looksAt ops):
  bf ah ((T i).getD d undef) (a.tmps.getD d undef):=by
 have cU:i<ops.size:=(Array.getElem?_eq_some_iff.1 aj.1).1
 by_cases jQ: @LT.lt Nat _ d (T 0).length
 ·rw[vl bc i (by omega) d jQ,<-HN ef ak.closed aj (.inl aL)]
  exact ak.tmps d jQ
 ·have o:(T i).getD d undef=undef:=by
   rw[List.getD_eq_getElem?_getD,List.getElem?_eq_none (by rw[nU bc i (by omega)];omega)]
   rfl
  have aa:a.tmps.getD d undef=undef:=by
   have:=ak.fg
   rw[Array.getD_eq_getD_getElem?,Array.getElem?_eq_none (by omega)]
   rfl
  rw[o,aa]
  exact bf.undef _
theorem kY.operands(ak:kY P base ops T V aW dW ah dP X a w H)(ef:gw ops=true)(ai:(ops.all fun U=>U.op.operands.all mN)=true)(bc:∀(i:Nat) (U:Oper),ops[i]?=some U->T (i+1)=eP (T i) U.dst (V i)){i:Nat}{U:Oper}(aj:ky ops X i U):
  ∀x∈U.op.operands,bf ah (eW (T i) x) (a.eval x):=by
 intro x I
 obtain⟨a3,aK⟩:=Array.getElem?_eq_some_iff.1 aj.1
 cases x with
 | tmp d=>
  have:d∈U.looksAt ops:=by
   unfold Oper.looksAt
   exact List.mem_append_left _ (List.mem_filterMap.2 ⟨.tmp d,by simpa using I,rfl⟩)
  exact ak.operand ef bc aj this
 | const v=>
  have o:=Array.all_eq_true.1 ai i a3
  rw[aK]at o
  exact tj _ (Array.all_eq_true'.1 o _ I)
 | global g=>exact .rF g
 | func f=>exact .func _ rfl (fun i v au h=>by simp at h) rfl (fun i v au h=>by simp at h)
theorem kY.wanted(ak:kY P base ops T V aW dW ah dP X a w H)(ef:gw ops=true)(bc:∀(i:Nat) (U:Oper),ops[i]?=some U->T (i+1)=eP (T i) U.dst (V i)){i:Nat}{U:Oper}(aj:ky ops X i U):
  Region.wanted U (yielded ops a.tmps)=Region.wanted U (gL ops (T i)):=by
 have cU:i<ops.size:=(Array.getElem?_eq_some_iff.1 aj.1).1
 refine Fo fun j b aU=>?_
 unfold yielded gL
 cases aL:(ops[j]?).bind (·.dst)with
 | none=>rfl
 | some d=>
  have gj:d∈U.looksAt ops:=by
   unfold Oper.looksAt
   refine List.mem_append_right _ ?_
   simp only[aU,aL]
   simp
  have ao:=ak.operand ef bc aj gj
  simp only[Option.bind_some]
  have tz:=nU bc i (by omega)
  by_cases jQ: @LT.lt Nat _ d (T 0).length
  ·have bp:(T i)[d]?=some ((T i).getD d undef):=by
    rw[List.getD_eq_getElem?_getD,bx (by omega)]
    rfl
   have bo:a.tmps[d]?=some (a.tmps.getD d undef):=by
    have:=ak.fg
    rw[Array.getD_eq_getD_getElem?,Array.getElem?_eq_getElem (by omega)]
    rfl
   rw[bp,bo]
   exact ao.gR.symm
  ·have bp:(T i)[d]?=none:=List.getElem?_eq_none (by omega)
   have bo:a.tmps[d]?=none:=Array.getElem?_eq_none (by have:=ak.fg;omega)
   rw[bp,bo]
theorem kY.put(ak:kY P base ops T V aW dW ah dP X a w H)(ef:gw ops=true){i:Nat}{U:Oper}(aj:ky ops X i U){au:Value}{a5:World}{H1:ab}(hlen:H1.length=H.length)(Tt:∀b,mh dW i b->H1[b]?=(aW (i+1))[b]?/\(∀j,j<i->mh dW j b->X j=true)/\∀j,i<j->mh dW j b->X j=false)
  (Su:∀b,¬mh dW i b->H1[b]?=H[b]?)(ao:bf ah (V i) au)(bE:b8 P base ah H1 a5)(cS:Step ah H w ah H1 a5):kY P base ops T V aW dW ah dP (eF X i) (a.put U.dst au) a5 H1:=by
 have cU:i<ops.size:=(Array.getElem?_eq_some_iff.1 aj.1).1
 refine⟨yv ak.closed aj,fun j aQ=>?_,by rw[hlen,ak.len],fun b=>?_,bE,by rw[AF];exact ak.fg,fun d aL=>?_,by rw[put_defers];exact ak.defers,ak.step.trans cS⟩
 ·simp only[eF,Bool.or_eq_true,decide_eq_true_eq]at aQ
  rcases aQ with rfl | aQ
  ·exact cU
  ·exact ak.size j aQ
 ·by_cases hw:mh dW i b
  ·obtain⟨aS,aM,bh⟩:=Tt b hw
   refine⟨i+1,by omega,fun j aQ mG=>?_,fun j aQ mG=>?_,aS⟩
   ·by_cases fe:j=i
    ·subst fe;simp[eF]
    ·simp[eF,aM j (by omega) mG]
   ·have:j≠i:=by omega
    simp[eF,bh j (by omega) mG,this]
  ·obtain⟨k,iG,ll,sv,xj⟩:=ak.row b
   refine⟨k,iG,fun j aQ mG=>by simp[eF,ll j aQ mG],fun j aQ mG=>?_,by rw[Su b hw];exact xj⟩
   have:j≠i:=fun e=>hw (e▸mG)
   simp[eF,sv j aQ mG,this]
 ·rw[yz ef ak.closed aj,yJ ak.fg aL]
  split
  ·exact ao
  ·exact ak.tmps d aL
theorem V3{bm:ba}{H1:ab}{a5:World}(bE:b8 P base bm H1 a5)(cS:Step ah H w bm H1 a5)(hlen:H1.length=H.length):bm=ah:=by
 funext b
 cases h:bm b with
 | none=>
  cases b7:ah b with
  | none=>rfl
  | some k=>rw[cS.ext b k b7]at h;cases h
 | some k=>
  rcases cS.new b k h with b7 | b7
  ·exact b7.symm
  ·have:=(bE.ez b k h).2;omega
theorem Vu{Q:Exit->Act->World->Prop}(ef:gw ops=true)(ai:(ops.all fun U=>U.op.operands.all mN)=true)(h:∀(i:Nat) (U:Oper),ops[i]?=some U->sY P base ops U (T i) (aW i) (V i) (aW (i+1)))
  (bc:∀(i:Nat) (U:Oper),ops[i]?=some U->T (i+1)=eP (T i) U.dst (V i))(ar:∀(i:Nat) (U:Oper),ops[i]?=some U->nQ P ops U (T i) (aW i) (V i) (aW (i+1)) (dW i))
  (lf:∀(i j:Nat) (b:Nat) (x:bA) (y:Option bA),dW i=some (b,some x)->dW j=some (b,y)->i≠j->er P ops i=true\/er P ops j=true)
  (uc:∀j,ops.size<=j->dW j=none)(aG:∀bm b1 a5,cz bm (T ops.size) b1.tmps.toList->b1.defers=[]->b8 P base bm (aW ops.size) a5->Step ah (aW 0) dP bm (aW ops.size) a5->Q .normal b1 a5):
  ∀(fuel:Nat) (dd:Array Bool) (a:Act) (w:World) (H:ab),dd.size=ops.size->sK ops.size (fun j=>dd.getD j false)<=fuel->kY P base ops T V aW dW ah dP (fun j=>dd.getD j false) a w H->wpAny P .any ops Q fuel dd a w:=by
 have fin:∀(dd:Array Bool) (a:Act) (w:World) (H:ab),dd.size=ops.size->(∀i,i<ops.size->dd.getD i false=true)->kY P base ops T V aW dW ah dP (fun j=>dd.getD j false) a w H->Q .normal a w:=by
  intro dd a w H jr cQ ak
  have Cc:H=aW ops.size:=by
   apply List.ext_getElem?
   intro b
   obtain⟨k,iG,ll,sv,xj⟩:=ak.row b
   have:=z5 ar (b:=b) (ops.size-k) k (by omega) fun j o aa hw=>by
    have aD:=sv j o hw
    rw[cQ j (by omega)]at aD
    cases aD
   rw[show k+(ops.size-k)=ops.size by omega]at this
   rw[xj,this]
  subst Cc
  refine aG ah a w ⟨?_,fun d v au ao dc=>?_⟩ ak.defers ak.im ak.step
  ·rw[nU bc _ (Nat.le_refl _)];simpa using ak.fg.symm
  ·have jQ:d<(T 0).length:=by
    have:=(cd.1 ao).1
    rwa[nU bc _ (Nat.le_refl _)]at this
   have ig:=ak.tmps d jQ
   rw[vz (Y:=fun j=>decide (j<ops.size)) (fun j aQ=>by rw[cQ j (sO aQ)];simp[sO aQ]),<-vl bc _ (Nat.le_refl _) d jQ]at ig
   rw[List.getD_eq_getElem?_getD,ao]at ig
   have bo:a.tmps[d]?=some au:=by simpa using dc
   rw[Array.getD_eq_getD_getElem?,bo]at ig
   exact ig
 intro fuel
 induction fuel with
 | zero=>
  intro dd a w H jr hu ak
  have cQ:∀i,i<ops.size->dd.getD i false=true:=by
   intro i ad
   cases ag:dd.getD i false with
   | true=>rfl
   | false=>have:=A5 (X:=fun j=>dd.getD j false) ad ag;omega
  refine⟨?_,fin dd a w H jr cQ ak⟩
  unfold Region.ready
  rw[List.filter_eq_nil_iff]
  intro i ad
  have:=cQ i (List.mem_range.1 ad)
  simp only[Array.getD_eq_getD_getElem?,Array.getElem?_eq_getElem (show i<dd.size by have:=List.mem_range.1 ad;omega),Option.getD_some]at this⊢
  simp[this]
 | succ fuel aV=>
  intro dd a w H jr hu ak
  refine⟨fun aE=>fin dd a w H jr (L3 aE jr ef) ak,fun i ad=>?_⟩
  obtain⟨U,aj⟩:=L4 ad jr
  have cU:i<ops.size:=(Array.getElem?_eq_some_iff.1 aj.1).1
  have zH:=KZ (dd:=dd) (i:=i) (by omega)
  have cont:∀(au:Value) (a5:World) (H1:ab),kY P base ops T V aW dW ah dP (eF (fun j=>dd.getD j false) i) (a.put U.dst au) a5 H1->wpAny P .any ops Q fuel (dd.setIfInBounds i true) (a.put U.dst au) a5:=by
   intro au a5 H1 rj
   refine aV _ _ a5 H1 (by simpa using jr) ?_ (by rw[zH];exact rj)
   rw[zH]
   have:=A5 (X:=fun j=>dd.getD j false) cU aj.2.1
   omega
  have lQ:=ak.operands ef ai bc aj
  have Tr:=ak.wanted ef bc aj
  have zi:=ar i U aj.1
  unfold wpOp
  simp only[aj.1,Tr]
  cases bt:dW i with
  | none=>
   rw[bt]at zi
   obtain⟨av,adw⟩:=zi
   have quiet:∀au,bf ah (V i) au->kY P base ops T V aW dW ah dP (eF (fun j=>dd.getD j false) i) (a.put U.dst au) w H:=fun au ao=>
    ak.put ef aj rfl (fun b ae=>by obtain⟨x,I⟩:=ae;rw[bt]at I;cases I) (fun b _=>rfl) ao ak.im (Step.refl _ _ _)
   rcases h i U aj.1 with⟨o,aa,aD⟩ | ⟨o,aa,aD,bD⟩ | ⟨o,aa,aD⟩
   ·rw[o]
    exact cont undef w H (quiet undef (by rw[aa];exact bf.undef _))
   ·rw[o]
    obtain⟨au,gF,ao⟩:=BX aD lQ w
    refine .inl ?_
    unfold Oper.wp
    rw[gF]
    exact cont au w H (quiet au ao)
   ·rcases av with q | q
    ·rw[o]at q;cases q
    ·rw[aa]at q;cases q
  | some bs=>
   obtain⟨b,y⟩:=bs
   rw[bt]at zi
   obtain⟨o,aa,aD,bD,b2,gC⟩:=zi
   rw[o]
   have JU:∀j,j≠i->mh dW j b->nW (Region.before ops) (min j i) (max j i)=true:=fun j aQ ⟨x,I⟩=>by
    have fO:j<ops.size:=by
     rcases Nat.lt_or_ge j ops.size with q | q
     ·exact q
     ·exact absurd I (by rw[uc j q];simp)
    have JT:=Array.getElem?_eq_getElem fO
    have lP:=ar j _ JT
    rw[I]at lP
    rcases lf j i b x y I bt aQ with q | q
    ·exact s7 q aj.1 aa (Ne.symm aQ)
    ·have:=s7 q JT lP.2.1 aQ
     rw[Nat.min_comm,Nat.max_comm]
     exact this
   have ie:∀j,j<i->mh dW j b->dd.getD j false=true:=fun j aQ hw=>by
    have aH:=JU j (by omega) hw
    rw[show min j i=j by omega,show max j i=i by omega]at aH
    exact td ef ak.closed i U aj.1 aj.2.2 j (by omega) aH
   have ib:∀j,i<j->mh dW j b->dd.getD j false=false:=fun j aQ hw=>by
    have aH:=JU j (by omega) hw
    rw[show min j i=i by omega,show max j i=j by omega]at aH
    cases aR:dd.getD j false with
    | false=>rfl
    | true=>
     have:=yu ef ak.closed (ak.size j aR) aR cU aH
     exact absurd (aj.2.1.symm.trans this) Bool.false_ne_true
   have PW:H[b]?=(aW i)[b]?:=by
    obtain⟨k,iG,ll,sv,xj⟩:=ak.row b
    rw[xj]
    rcases Nat.le_total k i with eU | eU
    ·have:=z5 ar (b:=b) (i-k) k (by omega) fun j aS aM hw=>by
      have bp:=sv j aS hw
      have bo:=ie j (by omega) hw
      exact Bool.false_ne_true (bp.symm.trans bo)
     rw[show k+(i-k)=i by omega]at this
     exact this.symm
    ·have:=z5 ar (b:=b) (k-i) i (by omega) fun j aS aM hw=>by
      have bp:=ll j (by omega) hw
      by_cases fe:j=i
      ·subst fe;exact Bool.false_ne_true (aj.2.1.symm.trans bp)
      ·exact Bool.false_ne_true ((ib j (by omega) hw).symm.trans bp)
     rw[show i+(k-i)=k by omega]at this
     exact this
   have hm:=gC H PW
   obtain⟨bm,au,a5,gF,ao,g8,cS⟩:=Li hm ak.im lQ
   have hlen:(lX H b y).length=H.length:=by cases y<;>simp[lX]
   obtain rfl:=V3 g8 cS hlen
   have gD:b<H.length:=by rw[ak.len,<-KX ar i (by omega)];exact aD
   have Ih:kY P base ops T V aW dW bm dP (eF (fun j=>dd.getD j false) i) (a.put U.dst au) a5 (lX H b y):=by
    refine ak.put ef aj hlen (fun c ag=>?_) (fun c ag=>?_) ao g8 cS
    ·obtain⟨x,I⟩:=ag
     rw[bt]at I
     simp only[Option.some.injEq,Prod.mk.injEq]at I
     obtain⟨rfl,rfl⟩:=I
     refine⟨?_,ie,ib⟩
     simp only[lX]at b2⊢
     rw[List.getElem?_set_self gD,b2,List.getElem?_set_self aD]
    ·cases y with
     | none=>rfl
     | some x=>
      have:b≠c:=fun e=>ag ⟨x,by rw[bt,e]⟩
      simp only[lX]
      rw[List.getElem?_set_ne this]
   refine .inl ?_
   unfold Oper.wp
   rcases gF with gF | ⟨gF,rfl⟩
   ·rw[gF];exact cont au a5 _ Ih
   ·rw[gF];exact cont undef a5 _ Ih
end
section
variable {P:Program} {base:Nat}
def uJ(tmps:Array Value):ResultVar->Sem Value
 | .tmp t=>pure (tmps.getD t undef)
 | .cell a t=>do loadVar t (<-asAddr (tmps.getD a undef))
theorem Xb{ah:ba}{H:ab}{w:World}{t:List Value}{a:Act}(cr:cz ah t a.tmps.toList)(bE:b8 P base ah H w){rs:List ResultVar}{aA:List Value}(h:lA P t H rs aA):∃hf,(rs.mapM (uJ a.tmps)).run P w= .ok hf w/\cz ah aA hf:=by
 have B0:∀i,bf ah (t.getD i undef) (a.tmps.getD i undef):=fun i=>xL (x:= .tmp i) cr rfl
 induction h with
 | nil=>exact⟨[],by simp,cz.nil ah⟩
 | tmp an aV=>
  rename_i i rs aA
  obtain⟨hf,o,aa⟩:=aV
  exact⟨_::hf,by simp[List.mapM_cons,uJ,o],(cz.cons (B0 i) aa)⟩
 | yq aF I aR ag ao an aV=>
  rename_i r ty b i X cs v rs aA
  obtain⟨hf,o,aa⟩:=aV
  obtain⟨k,ai,he⟩:=(I▸B0 r).qV
  obtain⟨u,aS,aM⟩:=bE.cell ai aR ag ao
  exact⟨u::hf,by simp[List.mapM_cons,uJ,he,asAddr,loadVar,Ax aF,aS,o],cz.cons aM aa⟩
 | yr aF aE I aR ag bq an aV=>
  rename_i r ty b i n X cs rs aA
  obtain⟨hf,o,aa⟩:=aV
  obtain⟨k,ai,he⟩:=(I▸B0 r).qV
  obtain⟨us,ar,lL,aj⟩:=bE.cells ai aR ag bq
  have gF:=run_loadCells_list (P:=P) w ⟨k.g,k.U+i,none⟩ us lL
  rw[ar]at gF
  exact⟨.agg us.toArray::hf,by simp[List.mapM_cons,uJ,he,asAddr,loadVar,Ax aF,j2 aE,gF,o],cz.cons (.agg aj.toArray.1 aj.toArray.2) aa⟩
theorem WW{ah:ba}{H:ab}{w:World}{t:List Value}{a:Act}{fn:Func}(cr:cz ah t a.tmps.toList)(bE:b8 P base ah H w){aA:List Value}(h:lA P t H fn.results.toList aA):∃au,(results fn a.tmps).run P w= .ok au w/\bf ah (bj aA) au:=by
 obtain⟨hf,o,aa⟩:=Xb cr bE h
 have e:(fn.results.mapM (uJ a.tmps)).run P w= .ok hf.toArray w:=by
  rw[Array.mapM_eq_mapM_toList]
  simp[o]
 have bo:(results fn a.tmps).run P w= .ok (if h:hf.toArray.size=1 then hf.toArray[0]else .tuple hf.toArray) w:=by
  have:results fn a.tmps=(do let aA<-fn.results.mapM (uJ a.tmps);pure (if h:aA.size=1 then aA[0]else .tuple aA)):=rfl
  rw[this]
  simp[e]
 refine⟨_,bo,?_⟩
 have ar:=aa.1
 unfold bj
 match aA,hf,ar,aa with
 | [],[],_,aa=>exact .tuple rfl aa.toArray.2
 | [v],[au],_,aa=>exact aa.2 0 v au rfl rfl
 | v::v2::aA,u::lq::us,_,aa=>
  have:¬((u::lq::us).toArray.size=1):=by simp
  rw[dif_neg this]
  exact .tuple aa.toArray.1 aa.toArray.2
def s0(P:Program)(base:Nat)(c:Code)(e:dr)(pJ:List Value)(aC:ab):Nat->List Value->ab->Prop
 | 0,t,H=>Sound P base (.code c t H) (.code e pJ aC)/\e≠ .normal
 | n+1,t,H=>∃t1 H1,Sound P base (.code c t H) (.code .normal t1 H1)/\s0 P base c e pJ aC n t1 H1
theorem K3{c:Code}{e:dr}{t pJ:List Value}{H aC:ab}{n:Nat}(h:s0 P base c e pJ aC n t H):Sound P base (.code (.loop c) t H) (.code e pJ aC):=by
 intro ah w a cr hr bE Q aG
 refine wp_loop_ghost (fun m b1 a5=>∃bm t1 H1,cz bm t1 b1.tmps.toList/\b1.defers=[]/\b8 P base bm H1 a5/\Step ah H w bm H1 a5/\s0 P base c e pJ aC m t1 H1) n ⟨ah,t,H,cr,hr,bE,Step.refl _ _ _,h⟩ ?_
 rintro m b1 a5 ⟨bm,t1,H1,n3,nr,g8,lj,aj⟩
 cases m with
 | zero=>
  obtain⟨an,cF⟩:=aj
  refine an bm a5 b1 n3 nr g8 _ fun kT ds hK vS wx vX wZ=>?_
  have:=aG kT ds hK vS wx vX (lj.trans wZ)
  cases e with
  | normal=>exact absurd rfl cF
  | exit id=>exact this
  | ret=>exact this
 | succ m=>
  obtain⟨t2,aY,an,aj⟩:=aj
  refine an bm a5 b1 n3 nr g8 _ fun kT ds hK vS wx vX wZ=>?_
  exact⟨m,Nat.lt_succ_self m,kT,t2,aY,vS,wx,vX,lj.trans wZ,aj⟩
def NG(P:Program)(base:Nat):oL->Out->Prop
 | .code (.loop c) t H,.code e pJ aC=>∃n,s0 P base c e pJ aC n t H
 | _,_=>True
theorem W_(hm:P.follows .mixedOrders=true){j:oL}{U:Out}(h:dK P j U):Sound P base j U/\NG P base j U:=by
 induction h with
 | skip=>exact⟨fun ah w a cr hr bE Q aG=>wp_skip (aG ah a w cr hr bE (Step.refl _ _ _)),trivial⟩
 | ret=>exact⟨fun ah w a cr hr bE Q aG=>wp_ret (aG ah a w cr hr bE (Step.refl _ _ _)),trivial⟩
 | exit=>exact⟨fun ah w a cr hr bE Q aG=>wp_exit (aG ah a w cr hr bE (Step.refl _ _ _)),trivial⟩
 | AA o aa kN pw=>
  refine⟨fun ah w a cr hr bE Q aG=>wp_seq (kN.1 ah w a cr hr bE _ fun bm b1 a5 n3 nr g8 lj=>?_),trivial⟩
  exact pw.1 bm a5 b1 n3 nr g8 Q fun kT ds hK vS wx vX wZ=>aG kT ds hK vS wx vX (lj.trans wZ)
 | xJ o he kN=>
  rename_i yg g7 t t1 H H1 e
  refine⟨fun ah w a cr hr bE Q aG=>wp_seq (kN.1 ah w a cr hr bE _ fun bm b1 a5 n3 nr g8 lj=>?_),trivial⟩
  have:=aG bm b1 a5 n3 nr g8 lj
  cases e with
  | normal=>exact absurd rfl he
  | exit id=>exact this
  | ret=>exact this
 | cond ag ai h aV=>
  rename_i c x y b t t1 H H1 e
  refine⟨fun ah w a cr hr bE Q aG=>?_,trivial⟩
  have ao:=xL cr ai
  rw[ag]at ao
  exact wp_cond ao.Hv (aV.1 ah w a cr hr bE Q aG)
 | block h aV=>
  rename_i id c t t1 H H1 e
  refine⟨fun ah w a cr hr bE Q aG=>wp_block (aV.1 ah w a cr hr bE _ fun bm b1 a5 n3 nr g8 lj=>?_),trivial⟩
  have:=aG bm b1 a5 n3 nr g8 lj
  cases e with
  | normal=>simpa[dr.real,Exit.inBlock]using this
  | exit ht=>
   by_cases ad:ht=id
   ·subst ad;simpa[dr.real,Exit.inBlock]using this
   ·simpa[dr.real,Exit.inBlock,ad]using this
  | ret=>simpa[dr.real,Exit.inBlock]using this
 | z7 o aa kN pw=>
  obtain⟨n,aj⟩:=pw.2
  have:s0 P base _ _ _ _ (n+1) _ _:=⟨_,_,kN.1,aj⟩
  exact⟨K3 this,n+1,this⟩
 | xn o he kN=>
  have:s0 P base _ _ _ _ 0 _ _:=⟨kN.1,he⟩
  exact⟨K3 this,0,this⟩
 | region T V aW ai h bc aL aV=>
  rename_i id ops draw
  have lQ:∀(i:Nat) (U:Oper),ops[i]?=some U->sY P base ops U (T i) (aW i) (V i) (aW (i+1)):=fun i U aK=>(aV i U aK).1
  refine⟨fun ah w a cr hr bE Q aG=>?_,trivial⟩
  cases draw with
  | false=>
   refine wp_region ?_
   rw[List.range_eq_range']
   exact El ai lQ bc (fun bm b1 a5 aS aM bh b0=>aG bm b1 a5 aS aM bh b0) ops.size 0 (by omega) ah a w cr hr bE (Step.refl _ _ _)
  | true=>
   obtain⟨ef,bJ⟩:=aL rfl
   refine wp_region_any hm ?_
   obtain⟨bg,o,aa,aD,bD⟩:=Ei ops ops.size 0 (by omega)
   have tv:b8 P base ah (aW 0) {w with drawn:=w.drawn+1}:=bE.heap rfl
   have a2:∀j U,ops[j]?=some U->bF P U=true->aW (j+1)=aW j:=fun j U aK ax=>by
    rcases lQ j U aK with⟨-,-,aD⟩ | ⟨-,-,-,aD⟩ | ⟨-,aa,-⟩
    ·exact aD
    ·exact aD
    ·rw[ax]at aa;cases aa
   have mx:Ext (aW 0) (aW bg):=by
    have:=xI a2 bJ aa aD bg 0 (Nat.zero_le _) (by omega)
    simpa using this
   have o6:∀j,(Array.replicate ops.size false).getD j false=false:=fun j=>by
    simp only[Array.getD_eq_getD_getElem?,Array.getElem?_replicate]
    split<;>rfl
   refine NP (V:=V) (hT:=ah) (dP:=w) ef ai lQ bc bJ (fun bm b1 a5 aS aM bh b0=>aG bm b1 a5 aS aM bh b0) ops.size (Array.replicate ops.size false) 0 bg ah a _ (by simp) (by unfold sK;exact Nat.le_trans (List.length_filter_le _ _) (by simp)) ?_
   refine⟨(fun i U e aR=>by rw[o6]at aR;cases aR),o,aa,aD,(fun j U aQ=>by omega),fun j U _ _ _=>o6 j,bD,tv.grow mx,fun b k ae=>ae,fun b k ae=> .inl (bE.ez b k ae).2,?_,(fun j _ aR=>by rw[o6]at aR;cases aR),fun v ao=>?_,bE.pos,Nat.le_refl _,by simpa using cr.1.symm,?_,hr,?_⟩
   ·intro j aS aM b k x cs v ae gD I ag ao
    have lJ:=(bE.ez b k ae).2
    rw[mx.get lJ]at I
    obtain⟨u,hu⟩:=(bE.eL b k x ae I).Fm ag ao
    have hlen:(aW 0).length<=(aW j).length:=by
     have:=(xI a2 bJ aa aD j 0 (Nat.zero_le _) (by omega)).len
     simpa using this
    exact(jg.of (fun b k ae=>(bE.ez b k ae).2) hu).mono hlen
   ·obtain⟨i,ad⟩:=List.getElem?_of_mem ao
    obtain⟨u,-,hu⟩:=cr.get ad
    exact jg.of (fun b k ae=>(bE.ez b k ae).2) hu
   ·intro d aL
    rw[BF (fun j aR=>by rw[o6]at aR;cases aR)]
    exact xL (x:= .tmp d) cr rfl
   ·have:=(Step.drawn ah (aW 0) w (w.drawn+1)).grow tv mx
    exact this
 | Aw T V aW dW ai h bc ef ar aL uc aV=>
  rename_i id ops draw
  have lQ:∀(i:Nat) (U:Oper),ops[i]?=some U->sY P base ops U (T i) (aW i) (V i) (aW (i+1)):=fun i U aK=>(aV i U aK).1
  refine⟨fun ah w a cr hr bE Q aG=>?_,trivial⟩
  cases draw with
  | false=>
   refine wp_region ?_
   rw[List.range_eq_range']
   exact El ai lQ bc (fun bm b1 a5 aS aM bh b0=>aG bm b1 a5 aS aM bh b0) ops.size 0 (by omega) ah a w cr hr bE (Step.refl _ _ _)
  | true=>
   refine wp_region_any hm ?_
   have tv:b8 P base ah (aW 0) {w with drawn:=w.drawn+1}:=bE.heap rfl
   have o6:∀j,(Array.replicate ops.size false).getD j false=false:=fun j=>by
    simp only[Array.getD_eq_getD_getElem?,Array.getElem?_replicate]
    split<;>rfl
   refine Vu (V:=V) (ah:=ah) (dP:=w) ef ai lQ bc ar aL uc (fun bm b1 a5 aS aM bh b0=>aG bm b1 a5 aS aM bh b0) ops.size (Array.replicate ops.size false) a _ (aW 0) (by simp) (by unfold sK;exact Nat.le_trans (List.length_filter_le _ _) (by simp)) ?_
   refine⟨(fun i U e aR=>by rw[o6]at aR;cases aR),(fun j aR=>by rw[o6]at aR;cases aR),rfl,(fun b=>⟨0,Nat.zero_le _,fun j aQ=>absurd aQ (Nat.not_lt_zero j),fun j _ _=>o6 j,rfl⟩),tv,by simpa using cr.1.symm,?_,hr,Step.drawn ah (aW 0) w (w.drawn+1)⟩
   intro d aL
   rw[BF (fun j aR=>by rw[o6]at aR;cases aR)]
   exact xL (x:= .tmp d) cr rfl
 | sz hw=>exact⟨.inl ⟨hw,rfl,rfl⟩,trivial⟩
 | uB hw a2 h=>exact⟨.inr (.inl ⟨hw,a2,h,rfl⟩),trivial⟩
 | qS hw a2 h=>
  refine⟨.inr (.inr ⟨hw,a2,fun ah w a bW bE K Q a1=>?_⟩),trivial⟩
  obtain⟨bm,au,a5,aj,ao,g8,cS⟩:=Li h bE bW
  unfold Oper.wp
  rcases aj with aj | ⟨aj,rfl⟩
  ·rw[aj];exact a1 bm au a5 ao g8 cS
  ·rw[aj];exact a1 bm undef a5 ao g8 cS
 | uA hw a2 aK ax aU aE ae h aV=>
  rename_i ops U t H H1 v f args kA g first cap fn
  refine⟨.inr (.inr ⟨hw,a2,fun ah w a bW bE K Q a1=>?_⟩),trivial⟩
  have zb:=bW f (by simp[aK,Op.operands,Call.operands])
  rw[ax]at zb
  obtain⟨vF,dm,he,o,aa⟩:∃vF dm,a.eval f= .func (.func g) vF dm/\eQ ah first vF/\eQ ah cap dm:=by
   generalize a.eval f=u at zb
   cases zb with
   | func _ ar cR dz eu=>exact⟨_,_,rfl,⟨ar,cR⟩,dz,eu⟩
  have rR:cz ah (args.toList.map (eW t)) (args.toList.map a.eval):=by
   refine⟨by simp,fun i u Z1 hu ue=>?_⟩
   simp only[List.getElem?_map,Option.map_eq_some_iff]at hu ue
   obtain⟨x,I,rfl⟩:=hu
   obtain⟨y,aJ,rfl⟩:=ue
   rw[I]at aJ
   obtain rfl:=Option.some.inj aJ
   exact bW x (by simp[aK,Op.operands,Call.operands];exact .inr (by simpa using List.mem_of_getElem? I))
  have gF:(execOp a.eval U).run P w= .ok (.enter g (vF++args.map a.eval++dm)) w:=by
   have wm:¬fn.body=none:=fun e=>by rw[e]at ae;cases ae
   have g_:¬fn.name= "runtime.NumGoroutine" :=by simpa using aE
   simp[execOp,aK,resolve,he,Deferred.ofValue,invoke,callFunc,aU,g_,wm]
  unfold Oper.wp
  rw[gF,Oper.upon_enter]
  have P_:cz ah (first.toList++args.toList.map (eW t)++cap.toList) (vF++args.map a.eval++dm).toList:=by
   have:=(o.toList.append rR).append aa.toList
   simpa using this
  refine(aV.1 ah w _ P_ bE).mono fun e gn cR=>?_
  obtain⟨au,bm,rfl,ao,g8,cS⟩:=cR
  exact a1 bm au gn ao g8 cS
 | call ax ae h he aj aV=>
  rename_i f fn c args t1 aA H H1 e
  refine⟨fun ah w kz cr bE=>?_,trivial⟩
  refine calls_of_wp ax ae (aV.1 ah w _ ?_ rfl bE _ fun bm b1 a5 n3 nr g8 lj=>?_)
  ·have ar:args.length=kz.size:=by simpa using cr.1
   have:=cr.append (cz.replicate ah (fn.ntmps-args.length))
   rw[ar]at this⊢
   simpa using this
  ·obtain⟨au,aS,aM⟩:=WW n3 g8 aj
   rcases he with rfl | rfl
   ·exact⟨nr,au,aS,au,bm,rfl,aM,g8,lj⟩
   ·exact⟨nr,au,aS,au,bm,rfl,aM,g8,lj⟩
 | yp h aK aV=>
  refine⟨fun ah w kz cr bE=>?_,trivial⟩
  refine(aV.1 ah w kz cr bE).mono fun e gn cR=>?_
  obtain⟨au,bm,rfl,ao,g8,cS⟩:=cR
  obtain⟨iG,ll⟩:=g8.kill _ aK
  exact⟨au,bm,rfl,ao,iG,cS.trans ll⟩
theorem W9(hm:P.follows .mixedOrders=true){f:FuncId}{args:List Value}{H H1:ab}{v:Value}(h:dK P (.call f args H) (.val v H1)){ah:ba}{w:World}{kz:Array Value}(cr:cz ah args kz.toList)(bE:b8 P base ah H w):
  Calls P f kz w fun e gn=>∃au bm,e= .returned au/\bf bm v au/\b8 P base bm H1 gn/\Step ah H w bm H1 gn:=(W_ hm h).1 ah w kz cr bE
end
def jI(op:BinOp)(k:IntKind)(a b:Int):Option Value:=
 match op with
 | .add=>some (.int k (k.wrap (a+b)))
 | .sub=>some (.int k (k.wrap (a-b)))
 | .mul=>some (.int k (k.wrap (a*b)))
 | .quo=>if b=0 then none else some (.int k (k.wrap (a.tdiv b)))
 | .rem=>if b=0 then none else some (.int k (a.tmod b))
 | .and=>some (.int k (k.wrap (BitVec.ofInt k.bits a&&&BitVec.ofInt k.bits b).toNat))
 | .or=>some (.int k (k.wrap (BitVec.ofInt k.bits a ||| BitVec.ofInt k.bits b).toNat))
 | .xor=>some (.int k (k.wrap (BitVec.ofInt k.bits a^^^BitVec.ofInt k.bits b).toNat))
 | .eql=>some (.bool (a==b))
 | .neq=>some (.bool (a !=b))
 | .lss=>some (.bool (decide (a<b)))
 | .leq=>some (.bool (decide (a<=b)))
 | .gtr=>some (.bool (decide (a>b)))
 | .geq=>some (.bool (decide (a>=b)))
 | _=>none
def vs(op:BinOp)(k:IntKind)(a b:Int):Option Value:=
 if b<0 then none else
 match op with
 | .shl=>some (.int k (k.wrap (a*2^(min b.toNat k.bits))))
 | .shr=>some (.int k (a.fdiv (2^(min b.toNat k.bits))))
 | _=>none
def s8(op:BinOp)(a b:ByteArray):Option Value:=
 match op with
 | .add=>if a.size+b.size<=9223372036854775807 then some (.string (a++b))else none
 | .eql=>some (.bool (a.toList==b.toList))
 | .neq=>some (.bool !(a.toList==b.toList))
 | .lss=>some (.bool (Op.bytesLess a.toList b.toList))
 | _=>none
def s9(P:Program)(t:TypeId):Bool:=match P.underlying t with
 | some .bool=>true
 | _=>false
def iq(P:Program)(t:TypeId):Bool:=match P.underlying t with
 | some .string=>true
 | _=>false
theorem KN{P:Program}{t:TypeId}{k:IntKind}(h:(match P.underlying t with | some (.int k)=>some k | _=>none)=some k):qM P t=true:=by
 unfold qM
 split at h
 ·rename_i bK ai;first | rw[ai] | rfl
 ·cases h
def jw(P:Program)(t:TypeId):Option IntKind:=match P.underlying t with
 | some (.int k)=>some k
 | _=>none
def eO(P:Program)(t:TypeId):Option TypeId:=match P.underlying t with
 | some (.slice e)=>some e
 | _=>none
theorem NZ{P:Program}{t:TypeId}(h:s9 P t=true):P.underlying t=some .bool:=by
 unfold s9 at h
 split at h
 ·assumption
 ·cases h
theorem uO{P:Program}{t:TypeId}(h:iq P t=true):P.underlying t=some .string:=by
 unfold iq at h
 split at h
 ·assumption
 ·cases h
theorem KO{P:Program}{t:TypeId}{k:IntKind}(h:jw P t=some k):P.underlying t=some (.int k):=by
 unfold jw at h
 split at h
 ·obtain rfl:=Option.some.inj h;assumption
 ·cases h
theorem EP{P:Program}{t e:TypeId}(h:eO P t=some e):P.underlying t=some (.slice e):=by
 unfold eO at h
 split at h
 ·obtain rfl:=Option.some.inj h;assumption
 ·cases h
def dO(P:Program)(op:BinOp)(t:TypeId)(x y:Value):Option Value:=
 match x,y with
 | .int k a,.int bK b=>if op= .shl\/op= .shr then vs op k a b else if k=bK then jI op k a b else none
 | .string a,.string b=>s8 op a b
 | .bool a,.bool b=>if s9 P t=true then(match op with | .eql=>some (.bool (a==b)) | .neq=>some (.bool (!(a==b))) | _=>none)else none
 | .slice a n c,.slice none 0 0=>match eO P t with
  | some _=>(match op with | .eql=>some (.bool a.isNone) | .neq=>some (.bool (!a.isNone)) | _=>none)
  | _=>none
 | _,_=>none
def oD(op:UnOp)(x:Value):Option Value:=
 match op,x with
 | .neg,.int k n=>some (.int k (k.wrap (0-n)))
 | .xor,.int k n=>some (.int k (k.wrap (BitVec.ofInt k.bits (if k.signed then-1 else k.max)^^^BitVec.ofInt k.bits n).toNat))
 | .not,.bool b=>some (.bool !b)
 | _,_=>none
section
variable {P:Program} {aI:Operand->Value} {U:Oper} {H:ab}
theorem oW{U:Oper}(h:∀x∈U.op.operands,flat (aI x)=true):(U.op.operands.all fun x=>flat (aI x))=true:=by
 rw[Array.all_eq_true']
 exact h
theorem NT{op:BinOp}{k:IntKind}{a b:Int}{v:Value}(h:jI op k a b=some v)(t:TypeId):dk P (binOp op t (.int k a) (.int k b))=some v/\flat v=true:=by
 cases op<;>simp only[jI]at h<;>first
  | (cases h;done)
  | (split at h
     ·cases h
     ·rename_i ae
      obtain rfl:=Option.some.inj h
      exact⟨by simp[binOp,Op.intDiv,ae,eN],rfl⟩)
  | (obtain rfl:=Option.some.inj h
     exact⟨by simp[binOp,Op.intArith,Op.intBits,Op.intCmp,eN],rfl⟩)
theorem NU{op:BinOp}{k bK:IntKind}{a b:Int}{v:Value}(bW:op= .shl\/op= .shr)(h:vs op k a b=some v)(t:TypeId):dk P (binOp op t (.int k a) (.int bK b))=some v/\flat v=true:=by
 unfold vs at h
 split at h
 ·cases h
 ·rename_i ae
  rcases bW with rfl | rfl
  ·simp only at h
   obtain rfl:=Option.some.inj h
   exact⟨by simp[binOp,Op.shift,ae,eN],rfl⟩
  ·simp only at h
   obtain rfl:=Option.some.inj h
   exact⟨by simp[binOp,Op.shift,ae,eN],rfl⟩
theorem NV{op:BinOp}{a b:ByteArray}{v:Value}(h:s8 op a b=some v)(t:TypeId):dk P (binOp op t (.string a) (.string b))=some v/\flat v=true:=by
 unfold s8 at h
 split at h
 ·split at h
  ·rename_i an
   obtain rfl:=Option.some.inj h
   have:¬((((a.size+b.size:Nat)):Int)>IntKind.i64.max):=by
    have:IntKind.i64.max=9223372036854775807:=by decide
    omega
   exact⟨by simp only[binOp,Op.stringOp,if_neg this];rfl,rfl⟩
  ·cases h
 ·obtain rfl:=Option.some.inj h
  exact⟨by simp[binOp,Op.stringOp,eN],rfl⟩
 ·obtain rfl:=Option.some.inj h
  exact⟨by simp[binOp,Op.stringOp,eN],rfl⟩
 ·obtain rfl:=Option.some.inj h
  exact⟨by simp[binOp,Op.stringOp,eN],rfl⟩
 ·cases h
theorem Wu(d:Nat){t:TypeId}{a b:Bool}(hu:P.underlying t=some .bool):dk P (Op.equalIn (d+1) t (.bool a) (.bool b))=some (a==b):=by
 simp only[Op.equalIn,fr,nG,hu,Option.bind_some]
 rfl
theorem Xf{op:BinOp}{t oI:TypeId}{x y:Operand}{v:Value}(aK:U.op= .binOp op t x y oI)(h:dO P op t (aI x) (aI y)=some v):hi P aI U v:=by
 have key:∀{a b:Value},aI x=a->aI y=b->flat a=true->flat b=true->(∀u:Unit,dk P (eqGuard op t x y a b)=some ())->dk P (binOp op t a b)=some v->flat v=true->hi P aI U v:=by
  intro a b aF ae ns RE aU aj ao
  refine .pure (by simp[bF,aK]) (oW fun z aP=>?_) ao ?_
  ·simp only[aK,Op.operands,List.mem_toArray,List.mem_cons,List.not_mem_nil,or_false]at aP
   rcases aP with rfl | rfl
   ·rw[aF];exact ns
   ·rw[ae];exact RE
  ·simp only[execOp,aK,aF,ae,fr,aU (),Option.bind_some,aj,eN]
 unfold dO at h
 split at h
 ·rename_i k a bK b o aa
  have aU:∀u:Unit,dk P (eqGuard op t x y (.int k a) (.int bK b))=some ():=fun _=>by unfold eqGuard;split<;>rfl
  split at h
  ·rename_i bW
   obtain⟨aS,aM⟩:=NU (P:=P) (bK:=bK) bW h t
   exact key o aa rfl rfl aU aS aM
  ·split at h
   ·rename_i ai
    subst ai
    obtain⟨aS,aM⟩:=NT (P:=P) h t
    exact key o aa rfl rfl aU aS aM
   ·cases h
 ·rename_i a b o aa
  obtain⟨aS,aM⟩:=NV (P:=P) h t
  exact key o aa rfl rfl (fun _=>by unfold eqGuard;split<;>rfl) aS aM
 ·rename_i a b o aa
  split at h
  ·rename_i hu
   have hu:=NZ hu
   have aU:∀u:Unit,dk P (eqGuard op t x y (.bool a) (.bool b))=some ():=fun _=>by unfold eqGuard;split<;>rfl
   have he:dk P (Op.equal t (.bool a) (.bool b))=some (a==b):=Wu 9999 hu
   split at h
   ·obtain rfl:=Option.some.inj h
    exact key o aa rfl rfl aU (by simp only[binOp,fr,he,Option.bind_some,eN]) rfl
   ·obtain rfl:=Option.some.inj h
    exact key o aa rfl rfl aU (by simp only[binOp,fr,he,Option.bind_some,eN]) rfl
   ·cases h
  ·cases h
 ·rename_i a n c o aa
  split at h
  ·rename_i e hu
   have hu:=EP hu
   split at h
   ·obtain rfl:=Option.some.inj h
    exact .H8 aK hu o aa
   ·obtain rfl:=Option.some.inj h
    exact .Lr aK hu o aa
   ·cases h
  ·cases h
 ·cases h
theorem XP{op:UnOp}{t:TypeId}{x:Operand}{v:Value}(aK:U.op= .unOp op t x)(h:oD op (aI x)=some v):hi P aI U v:=by
 have key:∀{a:Value},aI x=a->flat a=true->dk P (Op.unary op a)=some v->flat v=true->hi P aI U v:=by
  intro a aF ns aj ao
  refine .pure (by simp[bF,aK]) (oW fun z aP=>?_) ao ?_
  ·simp only[aK,Op.operands,List.mem_toArray,List.mem_cons,List.not_mem_nil,or_false]at aP
   subst aP
   rw[aF];exact ns
  ·simp only[execOp,aK,aF,fr,aj,Option.bind_some,eN]
 unfold oD at h
 split at h
 ·rename_i k n o
  obtain rfl:=Option.some.inj h
  exact key o rfl (by simp[Op.unary,Op.intArith,eN]) rfl
 ·rename_i k n o
  obtain rfl:=Option.some.inj h
  exact key o rfl (by simp[Op.unary,Op.intBits,eN]) rfl
 ·rename_i b o
  obtain rfl:=Option.some.inj h
  exact key o rfl (by simp[Op.unary,eN]) rfl
 ·cases h
end
def h5(H:ab)(b:Nat):Option (List Value):=(H[b]?).bind bA.cells?
def gf(P:Program)(s:TypeId)(f:Nat):Option Nat:=match P.underlying s with
 | some (.struct jk)=>(match jk[f]? with
  | some fd=>(match bn P fd.type with
   | some (_+1)=>some fd.offset
   | _=>none)
  | none=>none)
 | _=>none
theorem Px{P:Program}{s:TypeId}{f off:Nat}(h:gf P s f=some off):∃jk fd n,P.underlying s=some (.struct jk)/\jk[f]?=some fd/\bn P fd.type=some (n+1)/\fd.offset=off:=by
 unfold gf at h
 split at h
 ·rename_i jk hu
  split at h
  ·rename_i fd ax
   split at h
   ·rename_i n an
    exact⟨jk,fd,n,hu,ax,an,by simpa using h⟩
   ·cases h
  ·cases h
 ·cases h
def p8(P:Program)(s:TypeId)(f:Nat):Option (Nat×Option Nat):=match P.underlying s with
 | some (.struct jk)=>(match jk[f]? with
  | some fd=>(match c_ P fd.type with
   | some false=>some (fd.offset,none)
   | some true=>(bn P fd.type).map fun n=>(fd.offset,some n)
   | none=>none)
  | none=>none)
 | _=>none
def oT(cs:Array Value):Nat×Option Nat->Option Value
 | (off,none)=>cs[off]?
 | (off,some n)=>some (.agg (cs.extract off (off+n)))
theorem oz{P:Program}{α β:Type}(x:Sem α)(f:α->β):dk P (f<$>x)=(dk P x).map f:=by
 rw[map_eq_pure_bind,fr]
 cases dk P x<;>rfl
theorem Pw{P:Program}{s:TypeId}{f:Nat}{c:Nat×Option Nat}{cs:Array Value}{v:Value}(h:p8 P s f=some c)(ao:oT cs c=some v):dk P (Instr.field s (.agg cs) f)=some v:=by
 unfold p8 at h
 split at h
 ·rename_i jk hu
  split at h
  ·rename_i fd ax
   simp only[Instr.field,fr,nG,hu,Option.bind_some,ax,asAgg,eN,part,LN]
   unfold c_ at h
   cases aL:P.underlying fd.type with
   | none=>simp[aL]at h
   | some d=>
    simp only[aL,Option.map_some]at h⊢
    cases d<;>simp only at h<;>first
     | (obtain rfl:=Option.some.inj h
        simp only[oT]at ao
        simp[ao,eN]
        done)
     | (obtain⟨n,aE,rfl⟩:=Option.map_eq_some_iff.1 h
        simp only[oT,Option.some.injEq]at ao
        subst ao
        simp[oz,xA,aE])
  ·cases h
 ·cases h
def q1(P:Program)(aI:Operand->Value)(H:ab):Callee->List Operand->List TypeId->Option (Value×ab)
 | .builtin .len,[x],[t]=>(match aI x with
  | .slice _ n _=>(match eO P t with
   | some _=>some (.int .i64 n,H)
   | none=>none)
  | .string s=>if iq P t=true then some (.int .i64 s.size,H)else none
  | _=>none)
 | .builtin .max,[x,y],_=>(match aI x,aI y with
  | .int k a,.int _ b=>some (.int k (if b>a then b else a),H)
  | _,_=>none)
 | .builtin .min,[x,y],_=>(match aI x,aI y with
  | .int k a,.int _ b=>some (.int k (if b<a then b else a),H)
  | _,_=>none)
 | _,_,_=>none
def bU(P:Program)(aI:Operand->Value)(H:ab):Op->Option (Value×ab)
 | .move x=>some (aI x,H)
 | .assign x=>some (aI x,H)
 | .pick c a b=>(match aI c with
  | .bool t=>some (if t then aI a else aI b,H)
  | _=>none)
 | .alloc e=>(match dv P e with
  | some z=>if flat z=true/\(bn P e).isSome=true then some (.pointer (some ⟨H.length,0,none⟩),H++[.own e false z.cells.toList])else none
  | none=>none)
 | .box e x=>if(bn P e).isSome=true then some (.pointer (some ⟨H.length,0,none⟩),H++[.own e false (aI x).cells.toList])else none
 | .load ty x=>(match aI x with
  | .pointer (some ⟨b,i,none⟩)=>(match h5 H b with
   | some cs=>(match c_ P ty with
    | some false=>(cs[i]?).map fun v=>(v,H)
    | some true=>(match bn P ty with
     | some n=>if i+n<=cs.length then some (.agg ((cs.drop i).take n).toArray,H)else none
     | none=>none)
    | none=>none)
   | none=>none)
  | _=>none)
 | .store ty x y=>(match aI x with
  | .pointer (some ⟨b,i,none⟩)=>(match H[b]? with
   | some (.own e l cs)=>if bn P ty=some (aI y).cells.size/\i+(aI y).cells.size<=cs.length/\((aI y).cells.toList.all (·.oneCell'))=true then some (undef,H.set b (.own e l (c3 cs i (aI y).cells.toList)))else none
   | _=>none)
  | _=>none)
 | .nilCheck x=>(match aI x with
  | .pointer (some a)=>some (.pointer (some a),H)
  | _=>none)
 | .binOp op t x y _=>(dO P op t (aI x) (aI y)).map fun v=>(v,H)
 | .unOp op _ x=>(oD op (aI x)).map fun v=>(v,H)
 | .convert src dst x=>(match aI x with
  | .int _ n=>(match jw P src,jw P dst with
   | some _,some k=>some (.int k (k.wrap n),H)
   | _,_=>none)
  | .string s=>if iq P src=true/\iq P dst=true then some (.string s,H)else none
  | _=>none)
 | .makeInterface t x=>if P.concrete t=true then some (.iface t (aI x),H)else none
 | .makeFunc fn a b=>some (.func fn (a.map aI) (b.map aI),H)
 | .fieldAddr s x f=>(match aI x with
  | .pointer (some ⟨b,i,none⟩)=>(gf P s f).map fun off=>(.pointer (some ⟨b,i+off,none⟩),H)
  | _=>none)
 | .field t x f=>(match aI x with
  | .agg cs=>(match p8 P t f with
   | some c=>(oT cs c).map fun v=>(v,H)
   | none=>none)
  | _=>none)
 | .indexAddr t x ew=>(match aI x,aI ew with
  | .slice (some ⟨b,i,none⟩) len _,.int _ n=>(match eO P t with
   | some e=>(match bn P e with
    | some J=>if 0<=n/\n<len then some (.pointer (some ⟨b,i+n.toNat*J,none⟩),H)else none
    | none=>none)
   | none=>none)
  | _,_=>none)
 | .index t x ew=>(match aI x,aI ew with
  | .string s,.int _ n=>if iq P t=true/\0<=n/\n<s.size then some (.int .u8 ((s.data.getD n.toNat 0).toNat:Int),H)else none
  | _,_=>none)
 | .extract x i=>(match aI x with
  | .tuple aA=>(aA[i]?).map fun v=>(v,H)
  | _=>none)
 | .build t aZ=>(match dv P t with
  | some z=>if flat z=true then(dk P (Instr.build t (aZ.map fun p=>(p.1,aI p.2)))).map fun v=>(v,H)else none
  | none=>none)
 | .call c=>q1 P aI H c.callee c.args.toList c.argTypes.toList
 | .slice t x bX ad none=>(match aI x with
  | .string s=>(match dN aI bX,fo aI s.size ad with
   | some l,some h=>if iq P t=true/\l<=h/\h<=s.size then some (.string (s.extract l h),H)else none
   | _,_=>none)
  | _=>none)
 | _=>none
theorem ys{H:ab}{b:Nat}{cs:List Value}(h:h5 H b=some cs):∃X,H[b]?=some X/\X.cells?=some cs:=by
 unfold h5 at h
 cases ae:H[b]? with
 | none=>simp[ae]at h
 | some X=>exact⟨X,rfl,by simpa[ae]using h⟩
theorem xk{aI:Operand->Value}{x:Operand}{n d:Nat}(h:dN aI (some x)=some n\/fo aI d (some x)=some n):∃k m,aI x= .int k m/\0<=m/\m.toNat=n:=by
 simp only[dN,fo,or_self]at h
 split at h
 ·rename_i k m he
  split at h
  ·rename_i aH;exact⟨k,m,he,aH,by simpa using h⟩
  ·cases h
 ·cases h
theorem An{P:Program}{k:IntKind}{n:Int}{y:Nat}{code:BoundsCode}(aH:0<=n)(o:n.toNat<=y):dk P (Instr.sliceBound (.int k n) y code)=some n.toNat:=by
 have:n<=(y:Int):=by omega
 simp only[Instr.sliceBound,asIntOf,fr,eN,Option.bind_some]
 rw[if_pos ⟨aH,this⟩]
 rfl
theorem xQ{P:Program}{ops:Array Oper}{U:Oper}{t:List Value}{H H1:ab}{v:Value}(hw:Region.wanted U (gL ops t)=true)(h:bU P (eW t) H U.op=some (v,H1)):dK P (.op ops U t H) (.val v H1):=by
 have F:bF P U=true->hi P (eW t) U v->H1=H->dK P (.op ops U t H) (.val v H1):=fun ax a2 e=>e▸ .uB hw ax a2
 have M:bF P U=false->eR P (eW t) H U v H1->dK P (.op ops U t H) (.val v H1):=fun ax gh=> .qS hw ax gh
 cases bW:U.op<;>rw[bW]at h<;>try (simp[bU]at h;done)
 case move x=>simp only[bU,Option.some.injEq,Prod.mk.injEq]at h;obtain⟨rfl,rfl⟩:=h;exact F (by simp[bF,bW]) (.move bW) rfl
 case assign x=>simp only[bU,Option.some.injEq,Prod.mk.injEq]at h;obtain⟨rfl,rfl⟩:=h;exact F (by simp[bF,bW]) (.assign bW) rfl
 case pick c a b=>
  simp only[bU]at h
  split at h
  ·rename_i pJ ag
   simp only[Option.some.injEq,Prod.mk.injEq]at h
   obtain⟨rfl,rfl⟩:=h
   exact F (by simp[bF,bW]) (.pick bW ag) rfl
  ·cases h
 case alloc e=>
  simp only[bU]at h
  split at h
  ·rename_i z aP
   split at h
   ·rename_i ag
    simp only[Option.some.injEq,Prod.mk.injEq]at h
    obtain⟨rfl,rfl⟩:=h
    obtain⟨n,aE⟩:=Option.isSome_iff_exists.1 ag.2
    exact M (by simp[bF,bW]) (.alloc bW aP ag.1 aE)
   ·cases h
  ·cases h
 case box e x=>
  simp only[bU]at h
  split at h
  ·rename_i ag
   simp only[Option.some.injEq,Prod.mk.injEq]at h
   obtain⟨rfl,rfl⟩:=h
   obtain⟨n,aE⟩:=Option.isSome_iff_exists.1 ag
   exact M (by simp[bF,bW]) (.box bW aE)
  ·cases h
 case load ty x=>
  simp only[bU]at h
  split at h
  ·rename_i b i I
   split at h
   ·rename_i cs fX
    obtain⟨X,aR,ag⟩:=ys fX
    split at h
    ·rename_i aF
     obtain⟨u,hu,he⟩:=Option.map_eq_some_iff.1 h
     simp only[Prod.mk.injEq]at he
     obtain⟨rfl,rfl⟩:=he
     exact M (by simp[bF,bW]) (.xl bW aF I aR ag hu)
    ·rename_i aF
     split at h
     ·rename_i n aE
      split at h
      ·rename_i bq
       simp only[Option.some.injEq,Prod.mk.injEq]at h
       obtain⟨rfl,rfl⟩:=h
       exact M (by simp[bF,bW]) (.xm bW aF aE I aR ag bq)
      ·cases h
     ·cases h
    ·cases h
   ·cases h
  ·cases h
 case store ty x y=>
  simp only[bU]at h
  split at h
  ·rename_i b i I
   split at h
   ·rename_i e l cs aR
    split at h
    ·rename_i ag
     simp only[Option.some.injEq,Prod.mk.injEq]at h
     obtain⟨rfl,rfl⟩:=h
     exact M (by simp[bF,bW]) (.store bW ag.1 I aR ag.2.1 ag.2.2)
    ·cases h
   ·cases h
  ·cases h
 case nilCheck x=>
  simp only[bU]at h
  split at h
  ·rename_i a I
   simp only[Option.some.injEq,Prod.mk.injEq]at h
   obtain⟨rfl,rfl⟩:=h
   exact F (by simp[bF,bW]) (I▸ .nilCheck bW I) rfl
  ·cases h
 case binOp op ty x y oI=>
  simp only[bU]at h
  obtain⟨u,hu,he⟩:=Option.map_eq_some_iff.1 h
  simp only[Prod.mk.injEq]at he
  obtain⟨rfl,rfl⟩:=he
  exact F (by simp[bF,bW]) (Xf bW hu) rfl
 case unOp op ty x=>
  simp only[bU]at h
  obtain⟨u,hu,he⟩:=Option.map_eq_some_iff.1 h
  simp only[Prod.mk.injEq]at he
  obtain⟨rfl,rfl⟩:=he
  exact F (by simp[bF,bW]) (XP bW hu) rfl
 case convert src dst x=>
  simp only[bU]at h
  split at h
  ·rename_i iY n I
   split at h
   ·rename_i iG k an aL
    simp only[Option.some.injEq,Prod.mk.injEq]at h
    obtain⟨rfl,rfl⟩:=h
    have JB:bF P U=true:=by simp[bF,bW,KN an,KN aL]
    refine F JB (.pure JB (oW fun z aP=>?_) rfl ?_) rfl
    ·simp only[bW,Op.operands,List.mem_toArray,List.mem_cons,List.not_mem_nil,or_false]at aP
     subst aP
     rw[I];rfl
    ·simp only[execOp,bW,I,fr,convert,nG,KO an,KO aL,Option.bind_some,Conv.intToInt,eN]
   ·cases h
  ·rename_i s I
   split at h
   ·rename_i ag
    simp only[Option.some.injEq,Prod.mk.injEq]at h
    obtain⟨rfl,rfl⟩:=h
    refine M (by simp[bF,bW,qM,uO ag.1]) (.sx (by simp[bW]) (oW fun z aP=>?_) rfl ?_)
    ·simp only[bW,Op.operands,List.mem_toArray,List.mem_cons,List.not_mem_nil,or_false]at aP
     subst aP
     rw[I];rfl
    ·simp only[execOp,bW,I,fr,convert,nG,uO ag.1,uO ag.2,Option.bind_some,eN]
   ·cases h
  ·cases h
 case makeInterface ty x=>
  simp only[bU]at h
  split at h
  ·rename_i ag
   simp only[Option.some.injEq,Prod.mk.injEq]at h
   obtain⟨rfl,rfl⟩:=h
   exact F (by simp[bF,bW]) (.Lc bW ag) rfl
  ·cases h
 case makeFunc fn a b=>simp only[bU,Option.some.injEq,Prod.mk.injEq]at h;obtain⟨rfl,rfl⟩:=h;exact F (by simp[bF,bW]) (.makeFunc bW) rfl
 case fieldAddr s x f=>
  simp only[bU]at h
  split at h
  ·rename_i b i I
   obtain⟨off,St,he⟩:=Option.map_eq_some_iff.1 h
   simp only[Prod.mk.injEq]at he
   obtain⟨rfl,rfl⟩:=he
   obtain⟨jk,fd,n,aS,aM,bh,rfl⟩:=Px St
   exact F (by simp[bF,bW]) (.fieldAddr bW aS aM bh I) rfl
  ·cases h
 case field ty x f=>
  simp only[bU]at h
  split at h
  ·rename_i cs I
   split at h
   ·rename_i c ag
    obtain⟨u,hu,he⟩:=Option.map_eq_some_iff.1 h
    simp only[Prod.mk.injEq]at he
    obtain⟨rfl,rfl⟩:=he
    exact F (by simp[bF,bW]) (.field bW I (Pw ag hu)) rfl
   ·cases h
  ·cases h
 case indexAddr ty x ew=>
  simp only[bU]at h
  split at h
  ·rename_i b i len cap k n I ad
   split at h
   ·rename_i e he
    split at h
    ·rename_i J an
     split at h
     ·rename_i ag
      simp only[Option.some.injEq,Prod.mk.injEq]at h
      obtain⟨rfl,rfl⟩:=h
      exact F (by simp[bF,bW]) (.KL bW (EP he) an I ad ag.1 ag.2) rfl
     ·cases h
    ·cases h
   ·cases h
  ·cases h
 case index ty x ew=>
  simp only[bU]at h
  split at h
  ·rename_i s k n I ad
   split at h
   ·rename_i ag
    simp only[Option.some.injEq,Prod.mk.injEq]at h
    obtain⟨rfl,rfl⟩:=h
    refine F (by simp[bF,bW]) (.pure (by simp[bF,bW]) (oW fun z aP=>?_) rfl ?_) rfl
    ·simp only[bW,Op.operands,List.mem_toArray,List.mem_cons,List.not_mem_nil,or_false]at aP
     rcases aP with rfl | rfl
     ·rw[I];rfl
     ·rw[ad];rfl
    ·have a3:n.toNat<s.size:=by omega
     have bp:s[n.toNat]?=some (s.data.getD n.toNat 0):=by
      have:s[n.toNat]?=some s[n.toNat]:=by simp[a3]
      rw[this]
      have iT:n.toNat<s.data.size:=a3
      simp only[Array.getD_eq_getD_getElem?,Array.getElem?_eq_getElem iT,Option.getD_some]
      rfl
     simp only[execOp,bW,I,ad,fr,Instr.index,asIntOf,eN,Option.bind_some,nG,uO ag.1,if_pos ag.2.1,bp]
   ·cases h
  ·cases h
 case extract x i=>
  simp only[bU]at h
  split at h
  ·rename_i aA I
   obtain⟨u,hu,he⟩:=Option.map_eq_some_iff.1 h
   simp only[Prod.mk.injEq]at he
   obtain⟨rfl,rfl⟩:=he
   exact F (by simp[bF,bW]) (.extract bW I hu) rfl
  ·cases h
 case build ty aZ=>
  simp only[bU]at h
  split at h
  ·rename_i z aP
   split at h
   ·rename_i ax
    obtain⟨u,hu,he⟩:=Option.map_eq_some_iff.1 h
    simp only[Prod.mk.injEq]at he
    obtain⟨rfl,rfl⟩:=he
    exact F (by simp[bF,bW]) (.build bW aP ax hu) rfl
   ·cases h
  ·cases h
 case slice ty x bX ad e2=>
  cases e2 with
  | some m=>simp only[bU]at h;cases h
  | none=>
   simp only[bU]at h
   split at h
   ·rename_i s I
    split at h
    ·rename_i l cR ar ib
     split at h
     ·rename_i ag
      simp only[Option.some.injEq,Prod.mk.injEq]at h
      obtain⟨rfl,rfl⟩:=h
      refine M (by simp[bF,bW]) (.sx (by simp[bW]) (oW fun z aP=>?_) rfl ?_)
      ·simp only[bW,Op.operands]at aP
       have aP:z=x\/bX=some z\/ad=some z:=by
        cases bX<;>cases ad<;>simp at aP⊢<;>first | (rcases aP with rfl | rfl | rfl<;>simp;done) | (rcases aP with rfl | rfl<;>simp;done) | (subst aP;simp;done) | (rcases aP with rfl | aP)<;>first | (rcases aP with rfl | rfl<;>simp;done) | (subst aP;simp;done) | (simp;done) | skip
       rcases aP with rfl | rfl | rfl
       ·rw[I];rfl
       ·obtain⟨k,m,e,-⟩:=xk (d:=0) (.inl ar);rw[e];rfl
       ·obtain⟨k,m,e,-⟩:=xk (.inr ib);rw[e];rfl
      ·have ae:dk P (Instr.sliceBounds false s.size s.size (bX.map (eW t)) (ad.map (eW t)) none)=some (l,cR,s.size):=by
        unfold Instr.sliceBounds
        cases ad with
        | none=>
         have:s.size=cR:=by simpa[fo]using ib
         subst this
         cases bX with
         | none=>
          have:0=l:=by simpa[dN]using ar
          subst this
          simp[fr,eN]
         | some y=>
          obtain⟨k,m,e,aH,rfl⟩:=xk (d:=0) (.inl ar)
          simp[e,fr,oz,eN,An (P:=P) (k:=k) aH ag.2.1]
        | some z=>
         obtain⟨bK,lY,cI,p_,rfl⟩:=xk (.inr ib)
         cases bX with
         | none=>
          have:0=l:=by simpa[dN]using ar
          subst this
          simp[cI,fr,oz,eN,An (P:=P) (k:=bK) p_ ag.2.2]
         | some y=>
          obtain⟨k,m,e,aH,rfl⟩:=xk (d:=0) (.inl ar)
          simp[e,cI,fr,oz,eN,An (P:=P) (k:=bK) p_ ag.2.2,An (P:=P) (k:=k) aH ag.2.1]
       simp only[execOp,bW,I,fr,Instr.sliceAt,Instr.slice,nG,uO ag.1,Option.bind_some,Option.map_none]
       simp[ae,fr,oz,eN]
     ·cases h
    ·cases h
   ·cases h
 case call c=>
  obtain⟨callee,args,kA⟩:=c
  simp only[bU]at h
  unfold q1 at h
  split at h
  ·rename_i x ty rR Q9
   obtain rfl:args= #[x]:=by apply Array.ext';simpa using rR
   obtain rfl:kA= #[ty]:=by apply Array.ext';simpa using Q9
   split at h
   ·rename_i a n gS I
    split at h
    ·rename_i e he
     simp only[Option.some.injEq,Prod.mk.injEq]at h
     obtain⟨rfl,rfl⟩:=h
     exact F (by simp[bF,bW]) (.KY bW (EP he) I) rfl
    ·cases h
   ·rename_i s I
    split at h
    ·rename_i an
     simp only[Option.some.injEq,Prod.mk.injEq]at h
     obtain⟨rfl,rfl⟩:=h
     refine F (by simp[bF,bW]) (.pure (by simp[bF,bW]) (oW fun z aP=>?_) rfl ?_) rfl
     ·simp[bW,Op.operands,Call.operands]at aP
      subst aP;rw[I];rfl
     ·simp[execOp,bW,resolve,I,invoke,builtin,Builtin.len_,fr,oz,eN,nG,uO an,goInt]
    ·cases h
   ·cases h
  ·rename_i x y rR
   obtain rfl:args= #[x,y]:=by apply Array.ext';simpa using rR
   split at h
   ·rename_i k a bK b I aJ
    simp only[Option.some.injEq,Prod.mk.injEq]at h
    obtain⟨rfl,rfl⟩:=h
    refine F (by simp[bF,bW]) (.pure (by simp[bF,bW]) (oW fun z aP=>?_) rfl ?_) rfl
    ·simp[bW,Op.operands,Call.operands]at aP
     rcases aP with rfl | rfl
     ·rw[I];rfl
     ·rw[aJ];rfl
    ·simp[execOp,bW,resolve,I,aJ,invoke,builtin,Builtin.max_,Builtin.max2,fr,oz,eN]
   ·cases h
  ·rename_i x y rR
   obtain rfl:args= #[x,y]:=by apply Array.ext';simpa using rR
   split at h
   ·rename_i k a bK b I aJ
    simp only[Option.some.injEq,Prod.mk.injEq]at h
    obtain⟨rfl,rfl⟩:=h
    refine F (by simp[bF,bW]) (.pure (by simp[bF,bW]) (oW fun z aP=>?_) rfl ?_) rfl
    ·simp[bW,Op.operands,Call.operands]at aP
     rcases aP with rfl | rfl
     ·rw[I];rfl
     ·rw[aJ];rfl
    ·simp[execOp,bW,resolve,I,aJ,invoke,builtin,Builtin.min_,Builtin.min2,fr,oz,eN]
   ·cases h
  ·cases h
def gt(t:List Value)(i:Nat):Value:=t.getD i undef
theorem PE{t:List Value}{i:Nat}(v:Value)(h:i<t.length):gt (t.set i v) i=v:=by simp[gt,List.getD_eq_getElem?_getD,h]
theorem PD{t:List Value}{i j:Nat}(v:Value)(h:i≠j):gt (t.set i v) j=gt t j:=by simp[gt,List.getD_eq_getElem?_getD,List.getElem?_set,h]
theorem PF(t:List Value)(i j:Nat)(v:Value):gt (t.set i v) j=if i=j then(if i<t.length then v else gt t j)else gt t j:=by
 by_cases h:i=j
 ·subst h
  rw[if_pos rfl]
  split
  ·rename_i ar;exact PE v ar
  ·rename_i ar;simp[gt,List.getD_eq_getElem?_getD,ar]
 ·rw[if_neg h];exact PD v h
def gR:Value->Option Bool
 | .bool b=>some b
 | _=>none
theorem Mw(ops:Array Oper)(t:List Value)(j:Nat):gL ops t j=match(ops[j]?).bind (·.dst)with | some d=>gR (gt t d) | none=>none:=by
 unfold gL
 cases(ops[j]?).bind (·.dst)with
 | none=>rfl
 | some d=>
  simp only[Option.bind_some]
  by_cases h: @LT.lt Nat _ d t.length
  ·rw[bx h]
   simp only[gt,List.getD_eq_getElem?_getD,bx h,Option.getD_some]
   unfold gR
   cases t[d]<;>rfl
  ·rw[List.getElem?_eq_none (Nat.le_of_not_lt h)]
   simp only[gt,List.getD_eq_getElem?_getD,List.getElem?_eq_none (Nat.le_of_not_lt h),Option.getD_none]
   rfl
def x4(P:Program)(g:FuncId):Prop:=∃fn,P.funcs[g]?=some fn/\(fn.name== "runtime.NumGoroutine")=false/\fn.body.isSome=true
def Nv(P:Program)(f:FuncId)(args:List Value)(v:Value):Prop:=args.all gB=true/\flat v=true/\dk P (callFunc f args.toArray)=some (.value v)
def a0(P:Program)(f:FuncId)(args:List Value)(H:ab)(Q:Value->ab->Prop):Prop:=∃v H1,((x4 P f/\dK P (.call f args H) (.val v H1))\/(Nv P f args v/\H1=H))/\Q v H1
def Bc(P:Program)(c:Code)(t:List Value)(H:ab)(Q:dr->List Value->ab->Prop):Prop:=∃e t1 H1,dK P (.code c t H) (.code e t1 H1)/\Q e t1 H1
theorem a0.mono{P:Program}{f:FuncId}{args:List Value}{H:ab}{Q b6:Value->ab->Prop}(h:a0 P f args H Q)(av:∀v H1,Q v H1->b6 v H1):a0 P f args H b6:=by
 obtain⟨v,H1,aj,ao⟩:=h
 exact⟨v,H1,aj,av _ _ ao⟩
def hv:Op->Bool
 | .store .. =>true
 | _=>false
def Bd(P:Program)(ops:Array Oper)(draw:Bool)(k:Nat)(s:Bool):Prop:=draw=true->s=true->er P ops k=true
def x5(P:Program)(ops:Array Oper)(draw:Bool)(k:Nat)(H H1:ab):Prop:=draw=true->er P ops k=true\/Ext H H1
def vh(P:Program)(ops:Array Oper)(draw:Bool)(k:Nat)(U:Oper)(t:List Value)(H:ab)(K:List Value->ab->Prop):Op->Prop
 | .call {callee:= .value f,args,.. }=>(match eW t f with
  | .func (.func g) first cap=>a0 P g (first.toList++args.toList.map (eW t)++cap.toList) H fun v H1=>x5 P ops draw k H H1/\K (eP t U.dst v) H1
  | _=>False)
 | op=>(match bU P (eW t) H op with
  | some (v,H1)=>Bd P ops draw k (hv op)/\K (eP t U.dst v) H1
  | none=>∃v H1,bF P U=false/\eR P (eW t) H U v H1/\x5 P ops draw k H H1/\K (eP t U.dst v) H1)
def nS(P:Program)(ops:Array Oper)(draw:Bool):Nat->List Oper->List Value->ab->(List Value->ab->Prop)->Prop
 | _,[],t,H,Q=>Q t H
 | k,U::rest,t,H,Q=>if Region.wanted U (gL ops t)=true then vh P ops draw k U t H (fun t1 H1=>nS P ops draw (k+1) rest t1 H1 Q) U.op else nS P ops draw (k+1) rest (eP t U.dst undef) H Q
def fZ(P:Program)(K:List Value->ab->Prop)(Q:dr->List Value->ab->Prop):dr->List Value->ab->Prop
 | .normal,t,H=>K t H
 | e,t,H=>Q e t H
def By(id:Nat)(Q:dr->List Value->ab->Prop):dr->List Value->ab->Prop
 | .exit ht,t,H=>if ht=id then Q .normal t H else Q (.exit ht) t H
 | e,t,H=>Q e t H
def gz(P:Program)(U:Bool)(aI:Operand->Value)(H:ab)(af W:List Nat)(K:Value->ab->List Nat->List Nat->Prop):Op->Prop
 | .load ty x=>(match aI x with
  | .pointer (some ⟨b,_,none⟩)=>b∉W/\(match bU P aI H (.load ty x)with | some (v,H1)=>K v H1 (b::af) W | none=>False)
  | _=>False)
 | .store ty x y=>(match aI x with
  | .pointer (some ⟨b,_,none⟩)=>(U=true\/(b∉W/\b∉af))/\(match bU P aI H (.store ty x y)with | some (v,H1)=>K v H1 af (if U=true then W else b::W) | none=>False)
  | _=>False)
 | op=>(match bU P aI H op with | some (v,H1)=>K v H1 af W | none=>False)
def D9(P:Program)(ops:Array Oper):Bool:=ops.all fun U=>bF P U || (match U.op with | .load .. =>true | .store .. =>true | _=>false)
def nR(P:Program)(ops:Array Oper):Nat->List Oper->List Value->ab->List Nat->List Nat->(List Value->ab->Prop)->Prop
 | _,[],t,H,_,_,Q=>Q t H
 | k,U::rest,t,H,af,W,Q=>if Region.wanted U (gL ops t)=true then gz P (er P ops k) (eW t) H af W (fun v H1 eZ ft=>nR P ops (k+1) rest (eP t U.dst v) H1 eZ ft Q) U.op else nR P ops (k+1) rest (eP t U.dst undef) H af W Q
def yw(ops:Array Oper):Bool:=ops.all fun U=>U.op.operands.all mN
def kt(P:Program):Code->List Value->ab->(dr->List Value->ab->Prop)->Prop
 | .skip,t,H,Q=>Q .normal t H
 | .ret,t,H,Q=>Q .ret t H
 | .exit id,t,H,Q=>Q (.exit id) t H
 | .seq a b,t,H,Q=>kt P a t H (fZ P (fun t1 H1=>kt P b t1 H1 Q) Q)
 | .cond c x y,t,H,Q=>mN c=true/\(match eW t c with
  | .bool b=>if b=true then kt P x t H Q else kt P y t H Q
  | _=>False)
 | .block id c,t,H,Q=>kt P c t H (By id Q)
 | .loop c,t,H,Q=>Bc P (.loop c) t H Q
 | .region id ops draw,t,H,Q=>(yw ops=true/\(draw=true->gw ops=true)/\nS P ops draw 0 ops.toList t H (fun t1 H1=>Q .normal t1 H1))\/(yw ops=true/\gw ops=true/\D9 P ops=true/\nR P ops 0 ops.toList t H [] [] (fun t1 H1=>Q .normal t1 H1))
 | _,_,_,_=>False
section
variable {P:Program}
theorem Xz{aI:Operand->Value}{H H1:ab}{op:Op}{v:Value}(h:bU P aI H op=some (v,H1))(an:hv op=false):Ext H H1:=by
 have same:H1=H->Ext H H1:=fun e=>e▸Ext.refl H
 have one:∀{e:TypeId} {l:Bool} {cs:List Value},H1=H++[.own e l cs]->Ext H H1:=fun{e l cs} he=>⟨[.own e l cs],he,fun x I cI en=>by simp at I;subst I;simp⟩
 cases op<;>simp only[bU]at h<;>try (first | (simp at h;done) | (cases an;done))
 case move=>simp at h;exact same h.2.symm
 case assign=>simp at h;exact same h.2.symm
 case pick=>split at h<;>simp at h;exact same h.2.symm
 case alloc=>
  split at h
  ·split at h
   ·simp at h;exact one h.2.symm
   ·cases h
  ·cases h
 case box=>
  split at h
  ·simp at h;exact one h.2.symm
  ·cases h
 case load=>
  split at h
  ·split at h
   ·split at h
    ·obtain⟨u,hu,he⟩:=Option.map_eq_some_iff.1 h;simp at he;exact same he.2.symm
    ·split at h
     ·split at h
      ·simp at h;exact same h.2.symm
      ·cases h
     ·cases h
    ·cases h
   ·cases h
  ·cases h
 case nilCheck=>split at h<;>simp at h;exact same h.2.symm
 case binOp=>obtain⟨u,hu,he⟩:=Option.map_eq_some_iff.1 h;simp at he;exact same he.2.symm
 case unOp=>obtain⟨u,hu,he⟩:=Option.map_eq_some_iff.1 h;simp at he;exact same he.2.symm
 case convert=>
  split at h
  ·split at h<;>simp at h;exact same h.2.symm
  ·split at h<;>simp at h;exact same h.2.symm
  ·cases h
 case makeInterface=>split at h<;>simp at h;exact same h.2.symm
 case makeFunc=>simp at h;exact same h.2.symm
 case fieldAddr=>
  split at h
  ·obtain⟨u,hu,he⟩:=Option.map_eq_some_iff.1 h;simp at he;exact same he.2.symm
  ·cases h
 case field=>
  split at h
  ·split at h
   ·obtain⟨u,hu,he⟩:=Option.map_eq_some_iff.1 h;simp at he;exact same he.2.symm
   ·cases h
  ·cases h
 case indexAddr=>
  split at h
  ·split at h
   ·split at h
    ·split at h<;>simp at h;exact same h.2.symm
    ·cases h
   ·cases h
  ·cases h
 case index=>split at h;(split at h<;>simp at h;exact same h.2.symm);cases h
 case extract=>
  split at h
  ·obtain⟨u,hu,he⟩:=Option.map_eq_some_iff.1 h;simp at he;exact same he.2.symm
  ·cases h
 case build=>
  split at h
  ·split at h
   ·obtain⟨u,hu,he⟩:=Option.map_eq_some_iff.1 h;simp at he;exact same he.2.symm
   ·cases h
  ·cases h
 case call c=>
  unfold q1 at h
  split at h
  ·split at h
   ·split at h<;>simp at h;exact same h.2.symm
   ·split at h<;>simp at h;exact same h.2.symm
   ·cases h
  ·split at h<;>simp at h;exact same h.2.symm
  ·split at h<;>simp at h;exact same h.2.symm
  ·cases h
 case slice ty x bX ad e2=>
  cases e2 with
  | some m=>simp at h
  | none=>
   simp only at h
   split at h
   ·split at h
    ·split at h<;>simp at h;exact same h.2.symm
    ·cases h
   ·cases h
theorem We{ops:Array Oper}{draw:Bool}{k:Nat}{U:Oper}{t:List Value}{H:ab}{K:List Value->ab->Prop}(hw:Region.wanted U (gL ops t)=true)(h:vh P ops draw k U t H K U.op):
  ∃v H1,dK P (.op ops U t H) (.val v H1)/\(draw=true->bF P U=false->er P ops k=true\/Ext H H1)/\K (eP t U.dst v) H1:=by
 have other:(match bU P (eW t) H U.op with
  | some (v,H1)=>Bd P ops draw k (hv U.op)/\K (eP t U.dst v) H1
  | none=>∃v H1,bF P U=false/\eR P (eW t) H U v H1/\x5 P ops draw k H H1/\K (eP t U.dst v) H1)->∃v H1,dK P (.op ops U t H) (.val v H1)/\(draw=true->bF P U=false->er P ops k=true\/Ext H H1)/\K (eP t U.dst v) H1:=by
  intro h
  split at h
  ·rename_i v H1 an
   refine⟨v,H1,xQ hw an,fun aL _=>?_,h.2⟩
   cases cS:hv U.op with
   | true=>exact .inl (h.1 aL cS)
   | false=>exact .inr (Xz an cS)
  ·obtain⟨v,H1,ax,hm,he,a1⟩:=h
   exact⟨v,H1,.qS hw ax hm,fun aL _=>he aL,a1⟩
 cases bW:U.op<;>rw[bW]at h other<;>try (exact other h)
 rename_i c
 obtain⟨callee,args,kA⟩:=c
 cases callee with
 | invoke r m=>exact other h
 | builtin b=>exact other h
 | value f=>
  simp only[vh]at h
  split at h
  ·rename_i g first cap ax
   obtain⟨v,H1,⟨⟨fn,o,aa,aD⟩,aj⟩ | ⟨⟨aF,ao,aT⟩,rfl⟩,he,a1⟩:=h
   ·exact⟨v,H1,.uA hw (by simp[bF,bW]) bW ax o aa aD aj,fun aL _=>he aL,a1⟩
   ·refine⟨v,H1,.qS hw (by simp[bF,bW]) (.sx (by simp[bW]) ?_ ao ?_),fun aL _=>he aL,a1⟩
    ·simp only[List.all_append,Bool.and_eq_true,List.all_map]at aF
     have o:first.all gB=true:=by simpa using aF.1.1
     have aa:cap.all gB=true:=by simpa using aF.2
     have aD:∀x∈args,flat (eW t x)=true:=fun x I=>by
      have:=List.all_eq_true.1 aF.1.2 x (by simpa using I)
      simp only[Function.comp]at this
      simp[flat,this]
     simp only[bW,Op.operands,Call.operands]
     have aH:flat (eW t f)=true:=by rw[ax];simp[flat,o,aa]
     refine Array.all_eq_true'.2 fun x I=>?_
     rcases Array.mem_append.1 I with I | I
     ·simp at I;subst I;exact aH
     ·exact aD x I
    ·have:(first.toList++args.toList.map (eW t)++cap.toList).toArray=first++args.map (eW t)++cap:=by apply Array.ext';simp
     rw[this]at aT
     simp only[execOp,bW,resolve,ax,Deferred.ofValue,invoke]
     exact aT
  ·exact h.elim
theorem LA{ops:Array Oper}{draw:Bool}{Q:List Value->ab->Prop}:∀(rest:List Oper) (k:Nat) (t:List Value) (H:ab),(∀i,rest[i]?=ops[k+i]?)->nS P ops draw k rest t H Q->
  ∃(T:Nat->List Value) (V:Nat->Value) (aW:Nat->ab),T k=t/\aW k=H/\(∀i U,k<=i->ops[i]?=some U->dK P (.op ops U (T i) (aW i)) (.val (V i) (aW (i+1)))/\T (i+1)=eP (T i) U.dst (V i)/\(draw=true->bF P U=false->er P ops i=true\/Ext (aW i) (aW (i+1))))/\
   Q (T (k+rest.length)) (aW (k+rest.length))
 | [],k,t,H,aj,h=>by
  refine⟨fun _=>t,fun _=>undef,fun _=>H,rfl,rfl,fun i U eU aK=>?_,by simpa[nS]using h⟩
  have o:ops.size<=k:=by
   have:=aj 0
   simp at this
   exact this
  have aa:=(Array.getElem?_eq_some_iff.1 aK).1
  omega
 | U::rest,k,t,H,aj,h=>by
  have aK:ops[k]?=some U:=by have:=aj 0;simpa using this.symm
  have fq:∀i,rest[i]?=ops[k+1+i]?:=fun i=>by have:=aj (i+1);simp at this;rw[this];congr 1;omega
  obtain⟨v,H1,aS,aM,bh⟩:∃v H1,dK P (.op ops U t H) (.val v H1)/\(draw=true->bF P U=false->er P ops k=true\/Ext H H1)/\nS P ops draw (k+1) rest (eP t U.dst v) H1 Q:=by
   simp only[nS]at h
   split at h
   ·rename_i hw;exact We hw h
   ·rename_i hw
    exact⟨undef,H,.sz (by simpa using hw),fun _ _=> .inr (Ext.refl H),h⟩
  obtain⟨T,V,aW,dT,fH,hZ,l2⟩:=LA rest (k+1) _ H1 fq bh
  refine⟨fun i=>if i<=k then t else T i,fun i=>if i<=k then v else V i,fun i=>if i<=k then H else aW i,by simp,by simp,fun i jZ eU ff=>?_,?_⟩
  ·by_cases rV:i=k
   ·subst rV
    rw[aK]at ff
    obtain rfl:=Option.some.inj ff
    simp only[Nat.le_refl,if_true,show¬(i+1<=i) by omega,if_false,dT,fH]
    exact⟨aS,trivial,aM⟩
   ·simp only[show¬(i<=k) by omega,show¬(i+1<=k) by omega,if_false]
    exact hZ i jZ (by omega) ff
  ·have e:k+(U::rest).length=k+1+rest.length:=by simp;omega
   rw[e]
   simp only[show¬(k+1+rest.length<=k) by omega,if_false]
   exact l2
theorem Ml{ops:Array Oper}{U:Oper}{t:List Value}{H H1:ab}{v:Value}(hw:Region.wanted U (gL ops t)=true)(ax:bF P U=false)(ag:∀c,U.op≠ .call c)(h:bU P (eW t) H U.op=some (v,H1)):eR P (eW t) H U v H1:=by
 have aj:=xQ (ops:=ops) hw h
 cases aj with
 | sz qG=>rw[hw]at qG;cases qG
 | uB _ a2 _=>rw[ax]at a2;cases a2
 | qS _ _ hm=>exact hm
 | uA _ _ aK=>exact absurd aK (ag _)
theorem VH{ops:Array Oper}{U:Oper}{t:List Value}{H:ab}{af W:List Nat}{K:Value->ab->List Nat->List Nat->Prop}(hw:Region.wanted U (gL ops t)=true)(ae:(bF P U || (match U.op with | .load .. =>true | .store .. =>true | _=>false))=true){Bz:Bool}(h:gz P Bz (eW t) H af W K U.op):
  ∃v H1 eZ ft g,dK P (.op ops U t H) (.val v H1)/\nQ P ops U t H v H1 g/\K v H1 eZ ft/\((g=none/\eZ=af/\ft=W)\/(∃b,g=some (b,none)/\b∉W/\eZ=b::af/\ft=W)\/∃b x,g=some (b,some x)/\(Bz=true\/(b∉W/\b∉af))/\eZ=af/\ft=if Bz=true then W else b::W):=by
 cases bW:U.op with
 | load ty x=>
  rw[bW]at h
  have ax:bF P U=false:=by simp[bF,bW]
  simp only[gz]at h
  split at h
  ·rename_i b i I
   obtain⟨CN,h⟩:=h
   split at h
   ·rename_i v H1 an
    have mC:=an
    simp only[bU,I]at an
    cases fX:h5 H b with
    | none=>rw[fX]at an;cases an
    | some cs=>
     obtain⟨X,aR,Q0⟩:=ys fX
     have PU:H1=H:=by
      rw[fX]at an
      simp only at an
      split at an
      ·obtain⟨u,hu,he⟩:=Option.map_eq_some_iff.1 an;simp at he;exact he.2.symm
      ·split at an
       ·split at an
        ·simp at an;exact an.2.symm
        ·cases an
       ·cases an
      ·cases an
     subst PU
     have R_:H1[b]?≠some .dead:=fun e=>by rw[aR]at e;simp at e;subst e;simp[bA.cells?]at Q0
     refine⟨v,H1,b::af,W,some (b,none),xQ hw (by rw[bW];exact mC),⟨hw,ax,(cd.1 aR).1,R_,rfl,fun aC rI=>?_⟩,h,.inr (.inl ⟨b,rfl,CN,rfl,rfl⟩)⟩
     refine Ml (ops:=ops) hw ax (by simp[bW]) ?_
     rw[bW]
     have:h5 aC b=h5 H1 b:=by unfold h5;rw[rI]
     rw[fX]at an
     simp only[bU,I,this,fX,lX]
     revert an
     cases c_ P ty with
     | none=>simp
     | some g=>
      cases g with
      | false=>
       simp only
       cases cs[i]?<;>simp
      | true=>
       simp only
       cases bn P ty with
       | none=>simp
       | some n=>
        simp only
        split<;>simp
   ·exact h.elim
  ·exact h.elim
 | store ty x y=>
  rw[bW]at h
  have ax:bF P U=false:=by simp[bF,bW]
  simp only[gz]at h
  split at h
  ·rename_i b i I
   obtain⟨CN,h⟩:=h
   split at h
   ·rename_i v H1 an
    have mC:=an
    simp only[bU,I]at an
    split at an
    ·rename_i e l cs aR
     split at an
     ·rename_i wq
      simp only[Option.some.injEq,Prod.mk.injEq]at an
      obtain⟨rfl,rfl⟩:=an
      refine⟨_,_,af,_,some (b,some (.own e l (c3 cs i (eW t y).cells.toList))),xQ hw (by rw[bW];exact mC),⟨hw,ax,(cd.1 aR).1,by rw[aR];simp,rfl,fun aC rI=>?_⟩,h,.inr (.inr ⟨b,_,rfl,CN,rfl,rfl⟩)⟩
      refine Ml (ops:=ops) hw ax (by simp[bW]) ?_
      rw[bW]
      simp only[bU,I,rI,aR,lX]
      rw[if_pos wq]
     ·cases an
    ·cases an
   ·exact h.elim
  ·exact h.elim
 | _=>
  have a2:bF P U=true:=by simpa[bW]using ae
  rw[bW]at h
  simp only[gz]at h
  split at h
  ·rename_i v H1 an
   have aj:=xQ (ops:=ops) hw (by rw[bW];exact an)
   have Cc:H1=H:=by
    cases aj with
    | sz=>rfl
    | uB=>rfl
    | qS _ ax=>rw[a2]at ax;cases ax
    | uA _ ax=>rw[a2]at ax;cases ax
   exact⟨v,H1,af,W,none,aj,⟨.inr a2,Cc⟩,h,.inl ⟨rfl,rfl,rfl⟩⟩
  ·exact h.elim
theorem Lw{ops:Array Oper}{Q:List Value->ab->Prop}(jq:D9 P ops=true):∀(rest:List Oper) (k:Nat) (t:List Value) (H:ab) (af W:List Nat),(∀i,rest[i]?=ops[k+i]?)->nR P ops k rest t H af W Q->
  ∃(T:Nat->List Value) (V:Nat->Value) (aW:Nat->ab) (dW:Nat->Option (Nat×Option bA)),T k=t/\aW k=H/\(∀i U,k<=i->ops[i]?=some U->dK P (.op ops U (T i) (aW i)) (.val (V i) (aW (i+1)))/\T (i+1)=eP (T i) U.dst (V i)/\nQ P ops U (T i) (aW i) (V i) (aW (i+1)) (dW i))/\
   (∀i b y,k<=i->dW i=some (b,y)->er P ops i=true\/(b∉W/\(y≠none->b∉af)))/\(∀(i j:Nat) (b:Nat) (x:bA) (y:Option bA),k<=i->k<=j->dW i=some (b,some x)->dW j=some (b,y)->i≠j->er P ops i=true\/er P ops j=true)/\(∀j,k<=j->ops.size<=j->dW j=none)/\Q (T (k+rest.length)) (aW (k+rest.length))
 | [],k,t,H,af,W,aj,h=>by
  refine⟨fun _=>t,fun _=>undef,fun _=>H,fun _=>none,rfl,rfl,fun i U eU aK=>?_,by simp,by simp,by simp,by simpa[nR]using h⟩
  have o:ops.size<=k:=by
   have:=aj 0
   simp at this
   exact this
  have aa:=(Array.getElem?_eq_some_iff.1 aK).1
  omega
 | U::rest,k,t,H,af,W,aj,h=>by
  have aK:ops[k]?=some U:=by have:=aj 0;simpa using this.symm
  have iR:=(Array.getElem?_eq_some_iff.1 aK).1
  have fq:∀i,rest[i]?=ops[k+1+i]?:=fun i=>by have:=aj (i+1);simp at this;rw[this];congr 1;omega
  have Sr:=Array.all_eq_true'.1 jq U (Array.mem_of_getElem? aK)
  obtain⟨v,H1,eZ,ft,g,aS,aM,bh,b0⟩:∃v H1 eZ ft g,dK P (.op ops U t H) (.val v H1)/\nQ P ops U t H v H1 g/\nR P ops (k+1) rest (eP t U.dst v) H1 eZ ft Q/\((g=none/\eZ=af/\ft=W)\/(∃b,g=some (b,none)/\b∉W/\eZ=b::af/\ft=W)\/∃b x,g=some (b,some x)/\(er P ops k=true\/(b∉W/\b∉af))/\eZ=af/\ft=if er P ops k=true then W else b::W):=by
   simp only[nR]at h
   split at h
   ·rename_i hw;exact VH hw Sr h
   ·rename_i hw
    have qG:Region.wanted U (gL ops t)=false:=by simpa using hw
    exact⟨undef,H,af,W,none,.sz qG,⟨.inl qG,rfl⟩,h,.inl ⟨rfl,rfl,rfl⟩⟩
  obtain⟨T,V,aW,dW,dT,fH,hZ,As,EC,ED,l2⟩:=Lw jq rest (k+1) _ H1 eZ ft fq bh
  have ki:∀b,(b∈W->b∈ft)/\(b∈af->b∈eZ):=by
   intro b
   rcases b0 with⟨-,rfl,rfl⟩ | ⟨c,-,-,rfl,rfl⟩ | ⟨c,x,-,-,rfl,rfl⟩
   ·exact⟨id,id⟩
   ·exact⟨id,List.mem_cons_of_mem _⟩
   ·split
    ·exact⟨id,id⟩
    ·exact⟨List.mem_cons_of_mem _,id⟩
  refine⟨fun i=>if i<=k then t else T i,fun i=>if i<=k then v else V i,fun i=>if i<=k then H else aW i,fun i=>if i<=k then g else dW i,by simp,by simp,fun i jZ eU ff=>?_,fun i b y eU aU=>?_,fun i j b x y eU o9 jn jo cF=>?_,fun j o aa=>?_,?_⟩
  ·by_cases rV:i=k
   ·subst rV
    rw[aK]at ff
    obtain rfl:=Option.some.inj ff
    simp only[Nat.le_refl,if_true,show¬(i+1<=i) by omega,if_false,dT,fH]
    exact⟨aS,trivial,aM⟩
   ·simp only[show¬(i<=k) by omega,show¬(i+1<=k) by omega,if_false]
    exact hZ i jZ (by omega) ff
  ·by_cases rV:i=k
   ·subst rV
    simp only[Nat.le_refl,if_true]at aU
    rcases b0 with⟨e,-⟩ | ⟨c,e,o,-⟩ | ⟨c,x,e,o,-⟩
    ·rw[e]at aU;cases aU
    ·rw[e]at aU;simp at aU;obtain⟨rfl,rfl⟩:=aU;exact .inr ⟨o,fun h=>absurd rfl h⟩
    ·rw[e]at aU;simp at aU;obtain⟨rfl,rfl⟩:=aU
     exact o.imp id fun q=>⟨q.1,fun _=>q.2⟩
   ·simp only[show¬(i<=k) by omega,if_false]at aU
    exact(As i b y (by omega) aU).imp id fun⟨o,aa⟩=>⟨fun ae=>o ((ki b).1 ae),fun aJ ae=>aa aJ ((ki b).2 ae)⟩
  ·by_cases rV:i=k
   ·subst rV
    simp only[Nat.le_refl,if_true,show¬(j<=i) by omega,if_false]at jn jo
    rcases As j b y (by omega) jo with aH | ⟨o,aa⟩
    ·exact .inr aH
    rcases b0 with⟨e,-⟩ | ⟨d,e,-⟩ | ⟨d,z,e,-,-,rfl⟩
    ·rw[e]at jn;cases jn
    ·rw[e]at jn;simp at jn
    ·rw[e]at jn
     simp at jn
     obtain⟨rfl,rfl⟩:=jn
     cases lK:er P ops i with
     | true=>exact .inl rfl
     | false=>rw[lK]at o;simp at o
   ·simp only[show¬(i<=k) by omega,if_false]at jn
    by_cases RT:j=k
    ·subst RT
     simp only[Nat.le_refl,if_true]at jo
     rcases As i b (some x) (by omega) jn with aH | ⟨o,aa⟩
     ·exact .inl aH
     rcases b0 with⟨e,-⟩ | ⟨d,e,-,rfl,-⟩ | ⟨d,z,e,-,-,rfl⟩
     ·rw[e]at jo;cases jo
     ·rw[e]at jo
      simp at jo
      obtain⟨rfl,rfl⟩:=jo
      exact absurd List.mem_cons_self (aa (by simp))
     ·rw[e]at jo
      simp at jo
      obtain⟨rfl,rfl⟩:=jo
      cases lK:er P ops j with
      | true=>exact .inr rfl
      | false=>rw[lK]at o;simp at o
    ·simp only[show¬(j<=k) by omega,if_false]at jo
     exact EC i j b x y (by omega) (by omega) jn jo cF
  ·simp only[show¬(j<=k) by omega,if_false]
   exact ED j (by omega) aa
  ·have e:k+(U::rest).length=k+1+rest.length:=by simp;omega
   rw[e]
   simp only[show¬(k+1+rest.length<=k) by omega,if_false]
   exact l2
theorem rz:∀(c:Code) (t:List Value) (H:ab) (Q:dr->List Value->ab->Prop),kt P c t H Q->Bc P c t H Q
 | .skip,t,H,Q,h=>⟨.normal,t,H,.skip,h⟩
 | .ret,t,H,Q,h=>⟨.ret,t,H,.ret,h⟩
 | .exit id,t,H,Q,h=>⟨.exit id,t,H,.exit,h⟩
 | .seq a b,t,H,Q,h=>by
  obtain⟨e,t1,H1,aj,av⟩:=rz a t H _ h
  cases e with
  | normal=>
   obtain⟨bo,t2,aY,r_,r8⟩:=rz b t1 H1 Q av
   exact⟨bo,t2,aY,.AA aj r_,r8⟩
  | exit id=>exact⟨.exit id,t1,H1,.xJ aj (by simp),av⟩
  | ret=>exact⟨.ret,t1,H1,.xJ aj (by simp),av⟩
 | .cond c x y,t,H,Q,h=>by
  simp only[kt]at h
  obtain⟨ai,h⟩:=h
  split at h
  ·rename_i b ag
   cases b with
   | true=>
    obtain⟨e,t1,H1,aj,av⟩:=rz x t H Q (by simpa using h)
    exact⟨e,t1,H1,.cond ag ai aj,av⟩
   | false=>
    obtain⟨e,t1,H1,aj,av⟩:=rz y t H Q (by simpa using h)
    exact⟨e,t1,H1,.cond ag ai aj,av⟩
  ·exact h.elim
 | .block id c,t,H,Q,h=>by
  obtain⟨e,t1,H1,aj,av⟩:=rz c t H _ h
  refine⟨_,t1,H1,.block aj,?_⟩
  cases e with
  | normal=>exact av
  | exit ht=>
   simp only[By]at av
   by_cases ad:ht=id
   ·subst ad;simpa using av
   ·simpa[ad]using av
  | ret=>exact av
 | .loop c,t,H,Q,h=>h
 | .region id ops draw,t,H,Q,h=>by
  simp only[kt]at h
  rcases h with⟨o,aa,aD⟩ | ⟨o,aa,aH,aD⟩
  rotate_left
  ·obtain⟨T,V,aW,dW,dT,fH,hZ,As,EC,ED,l2⟩:=Lw aH ops.toList 0 t H [] [] (fun i=>by simp) aD
   have gF:=dK.Aw (P:=P) (id:=id) (ops:=ops) (draw:=draw) T V aW dW o (fun i U aK=>(hZ i U (Nat.zero_le _) aK).1) (fun i U aK=>(hZ i U (Nat.zero_le _) aK).2.1) aa (fun i U aK=>(hZ i U (Nat.zero_le _) aK).2.2) (fun i j b x y=>EC i j b x y (Nat.zero_le _) (Nat.zero_le _)) (fun j=>ED j (Nat.zero_le _))
   rw[dT,fH]at gF
   exact⟨.normal,_,_,gF,by simpa using l2⟩
  obtain⟨T,V,aW,dT,fH,hZ,l2⟩:=LA ops.toList 0 t H (fun i=>by simp) aD
  have gF:=dK.region (P:=P) (id:=id) (ops:=ops) (draw:=draw) T V aW o (fun i U aK=>(hZ i U (Nat.zero_le _) aK).1) (fun i U aK=>(hZ i U (Nat.zero_le _) aK).2.1) (fun aL=>⟨aa aL,fun i U aK ax=>(hZ i U (Nat.zero_le _) aK).2.2 aL ax⟩)
  rw[dT,fH]at gF
  exact⟨.normal,_,_,gF,by simpa using l2⟩
 | .rangeFunc ..,t,H,Q,h=>by simp only[kt]at h
 | .scope ..,t,H,Q,h=>by simp only[kt]at h
 | .label ..,t,H,Q,h=>by simp only[kt]at h
 | .goto ..,t,H,Q,h=>by simp only[kt]at h
 | .refuse ..,t,H,Q,h=>by simp only[kt]at h
def oP(P:Program)(t:List Value)(H:ab):List ResultVar->(List Value->Prop)->Prop
 | [],K=>K []
 | .tmp i::rs,K=>oP P t H rs fun aA=>K (gt t i::aA)
 | .cell a ty::rs,K=>(match gt t a with
  | .pointer (some ⟨b,i,none⟩)=>(match h5 H b with
   | some cs=>(match c_ P ty with
    | some false=>(match cs[i]? with
     | some v=>oP P t H rs fun aA=>K (v::aA)
     | none=>False)
    | some true=>(match bn P ty with
     | some n=>i+n<=cs.length/\oP P t H rs fun aA=>K (.agg ((cs.drop i).take n).toArray::aA)
     | none=>False)
    | none=>False)
   | none=>False)
  | _=>False)
theorem xH{t:List Value}{H:ab}:∀(rs:List ResultVar) (K:List Value->Prop),oP P t H rs K->∃aA,lA P t H rs aA/\K aA
 | [],K,h=>⟨[],.nil,h⟩
 | .tmp i::rs,K,h=>by
  obtain⟨aA,o,aa⟩:=xH rs _ h
  exact⟨_,.tmp o,aa⟩
 | .cell a ty::rs,K,h=>by
  simp only[oP]at h
  split at h
  ·rename_i b i I
   split at h
   ·rename_i cs fX
    obtain⟨X,aR,ag⟩:=ys fX
    split at h
    ·rename_i aF
     split at h
     ·rename_i v ao
      obtain⟨aA,o,aa⟩:=xH rs _ h
      exact⟨_,.yq aF I aR ag ao o,aa⟩
     ·exact h.elim
    ·rename_i aF
     split at h
     ·rename_i n aE
      obtain⟨aA,o,aa⟩:=xH rs _ h.2
      exact⟨_,.yr aF aE I aR ag h.1 o,aa⟩
     ·exact h.elim
    ·exact h.elim
   ·exact h.elim
  ·exact h.elim
def WX(P:Program)(rs:List ResultVar)(Q:Value->ab->Prop):dr->List Value->ab->Prop
 | .normal,t,H=>oP P t H rs fun aA=>Q (bj aA) H
 | .ret,t,H=>oP P t H rs fun aA=>Q (bj aA) H
 | .exit _,_,_=>False
theorem a0.Pp{f:FuncId}{fn:Func}{c:Code}{args:List Value}{H:ab}{Q:Value->ab->Prop}(ax:P.funcs[f]?=some fn)(aE:(fn.name== "runtime.NumGoroutine")=false)(ae:fn.body=some c)
  (h:kt P c (args++List.replicate (fn.ntmps-args.length) undef) H (WX P fn.results.toList Q)):∃v H1,x4 P f/\dK P (.call f args H) (.val v H1)/\Q v H1:=by
 have ag:x4 P f:=⟨fn,ax,aE,by rw[ae];rfl⟩
 obtain⟨e,t1,H1,aj,av⟩:=rz _ _ _ _ h
 cases e with
 | normal=>
  obtain⟨aA,o,aa⟩:=xH _ _ av
  exact⟨_,H1,ag,.call ax ae aj (.inl rfl) o,aa⟩
 | exit id=>exact av.elim
 | ret=>
  obtain⟨aA,o,aa⟩:=xH _ _ av
  exact⟨_,H1,ag,.call ax ae aj (.inr rfl) o,aa⟩
end
end Go.b9
end
