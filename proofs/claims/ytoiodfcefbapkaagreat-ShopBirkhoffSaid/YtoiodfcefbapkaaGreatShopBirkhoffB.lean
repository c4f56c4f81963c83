/- Part of the proof of ShopBirkhoff. -/
import Derived.Test.YtoiodfcefbapkaaGreatShopBirkhoffA
set_option linter.unusedVariables false
set_option linter.unusedSimpArgs false
section
namespace Go.cl
def bl.below(ak:bl)(n:Nat):bl:=fun b=>if b<n then ak b else none
theorem bl.jP{ak:bl}{n b:Nat}{k:jo}(h:ak.below n b=some k):b<n/\ak b=some k:=by
 unfold bl.below at h
 split at h
 ·exact⟨by assumption,h⟩
 ·cases h
theorem bl.Er{ak:bl}{n b:Nat}{k:jo}(af:b<n)(h:ak b=some k):ak.below n b=some k:=by simp[bl.below,af,h]
def kv(n:Nat)(v:Value):Prop:=∃(ak:bl) (aw:Value),(∀b k,ak b=some k->b<n)/\bo ak v aw
theorem kv.mono{n m:Nat}{v:Value}(h:kv n v)(Gm:n<=m):kv m v:=by
 obtain⟨ak,aw,o,aa⟩:=h
 exact⟨ak,aw,fun b k af=>Nat.lt_of_lt_of_le (o b k af) Gm,aa⟩
theorem kv.of{ak:bl}{n:Nat}{v aw:Value}(aA:∀b k,ak b=some k->b<n)(h:bo ak v aw):kv n v:=⟨ak,aw,aA,h⟩
theorem bo.restrict{ak:bl}{n:Nat}{v aw:Value}(h:bo ak v aw):kv n v->bo (ak.below n) v aw:=by
 have arr:∀{xs bY D3:Array Value} {pJ:bl},(∀b k,pJ b=some k->b<n)->xs.size=bY.size->xs.size=D3.size->(∀(i:Nat) (v aw:Value),xs[i]?=some v->bY[i]?=some aw->kv n v->bo (ak.below n) v aw)->
   (∀(i:Nat) (v aw:Value),xs[i]?=some v->D3[i]?=some aw->bo pJ v aw)->∀(i:Nat) (v aw:Value),xs[i]?=some v->bY[i]?=some aw->bo (ak.below n) v aw:=by
  intro xs bY D3 pJ mQ au dR a2 aQ i v aw J aP
  obtain⟨ab,-⟩:=Array.getElem?_eq_some_iff.1 J
  have Y2:i<D3.size:=dR▸ab
  exact a2 i v aw J aP ⟨pJ,_,mQ,aQ i v _ J (Array.getElem?_eq_getElem Y2)⟩
 induction h with
 | bool b=>exact fun _=> .bool b
 | int k n=>exact fun _=> .int k n
 | float k n=>exact fun _=> .float k n
 | str s=>exact fun _=> .str s
 | C8=>exact fun _=> .C8
 | ptr h=>
  rintro⟨pJ,u,mQ,hu⟩
  obtain⟨k,ah,-⟩:=hu.sZ
  exact .ptr (bl.Er (mQ _ _ ah) h)
 | tK g=>exact fun _=> .tK g
 | sU=>exact fun _=> .sU
 | void i a=>exact fun _=> .void i a
 | empty af a c=>exact fun _=> .empty af a c
 | slice h ag au gy J bW=>
  rintro⟨pJ,u,mQ,hu⟩
  cases hu with
  | void=>omega
  | empty=>omega
  | slice cq=>exact .slice (bl.Er (mQ _ _ cq) h) ag au gy J bW
 | agg au _ a2=>
  rintro⟨pJ,u,mQ,hu⟩
  cases hu with
  | agg dR aQ=>exact .agg au (arr mQ au dR a2 aQ)
 | tuple au _ a2=>
  rintro⟨pJ,u,mQ,hu⟩
  cases hu with
  | tuple dR aQ=>exact .tuple au (arr mQ au dR a2 aQ)
 | func fn au _ im _ a2 rm=>
  rintro⟨pJ,u,mQ,hu⟩
  cases hu with
  | func _ dR aQ NU j1=>exact .func fn au (arr mQ au dR a2 aQ) im (arr mQ im NU rm j1)
 | nilFunc=>exact fun _=> .nilFunc
 | iface t _ a2=>
  rintro⟨pJ,u,mQ,hu⟩
  cases hu with
  | iface _ aQ=>exact .iface t (a2 ⟨pJ,_,mQ,aQ⟩)
 | nilIface=>exact fun _=> .nilIface
 | C7=>exact fun _=> .C7
theorem Ext.refl(H:ad):Ext H H:=⟨[],by simp,by simp⟩
theorem Ext.trans{A B C:ad}(h:Ext A B)(cq:Ext B C):Ext A C:=by
 obtain⟨N,rfl,bW⟩:=h
 obtain⟨M,rfl,eZ⟩:=cq
 exact⟨N++M,by simp,fun x J=>(List.mem_append.1 J).elim (bW x) (eZ x)⟩
theorem Ext.len{A B:ad}(h:Ext A B):A.length<=B.length:=by obtain⟨N,rfl,-⟩:=h;simp
theorem Ext.get{A B:ad}(h:Ext A B){b:Nat}(af:b<A.length):B[b]?=A[b]?:=by obtain⟨N,rfl,-⟩:=h;exact List.getElem?_append_left af
theorem Ext.get_some{A B:ad}(h:Ext A B){b:Nat}{x:bN}(af:A[b]?=some x):B[b]?=some x:=by rw[h.get (cn.1 af).1];exact af
theorem Ext.new{A B:ad}(h:Ext A B){b:Nat}{x:bN}(af:A.length<=b)(J:B[b]?=some x):∀e cs,x≠ .ro e cs:=by
 obtain⟨N,rfl,bW⟩:=h
 rw[List.getElem?_append_right af]at J
 exact bW x (List.mem_of_getElem? J)
theorem rn{H aI:ad}{b:Nat}(h:H[b]?=aI[b]?):ie H b↔ie aI b:=by unfold ie;rw[h]
theorem zP{H aI:ad}{b:Nat}(h:H[b]?=aI[b]?):my H b↔my aI b:=by unfold my;rw[h]
section
variable {ops:Array Oper}
theorem z1{i:Nat}{U:Oper}(h:ops[i]?=some U):(U,i)∈ops.toList.zipIdx:=by
 rw[List.mem_zipIdx_iff_getElem?]
 simpa using h
theorem T1(h:ha ops=true){i:Nat}{U:Oper}(aW:ops[i]?=some U){e:Edge}(he:e∈U.after)(af:Region.binds .any e=true):e.on<i:=by
 simp only[ha,Bool.and_eq_true]at h
 have:=List.all_eq_true.1 h.1.1 _ (z1 aW)
 have:=Array.all_eq_true'.1 this e he
 simpa[af]using this
theorem abI(h:ha ops=true){i j:Nat}{U:Oper}(aW:ops[i]?=some U)(aN:j<ops.size)(af:pU (Region.before ops) j i=true):
  ∃e,e∈U.after/\Region.binds .any e=true/\(e.on=j\/(e.on<i/\pU (Region.before ops) j e.on=true)):=by
 simp only[ha,Bool.and_eq_true]at h
 have o:=List.all_eq_true.1 h.1.2 _ (z1 aW)
 have aa:=List.all_eq_true.1 o j (List.mem_range.2 aN)
 simp only[pU]at af
 rw[af]at aa
 simp only[Bool.not_true,Bool.false_or,Array.any_eq_true']at aa
 obtain⟨e,he,aE⟩:=aa
 simp only[Bool.and_eq_true,Bool.or_eq_true,beq_iff_eq,decide_eq_true_eq]at aE
 exact⟨e,he,aE.1,aE.2⟩
theorem Ip(h:ha ops=true){i j:Nat}{x y:Oper}(ab:ops[i]?=some x)(aN:ops[j]?=some y)(o9:i<j):pU (Region.before ops) i j=true\/
  ((∀d,x.dst=some d->d∉y.looksAt ops/\y.dst≠some d)/\∀d,y.dst=some d->d∉x.looksAt ops):=by
 simp only[ha,Bool.and_eq_true]at h
 have o:=List.all_eq_true.1 h.2 _ (z1 aN)
 have aa:=List.all_eq_true.1 o _ (z1 ab)
 simp only[o9,decide_true,Bool.not_true,Bool.false_or,Bool.or_eq_true]at aa
 rcases aa with aa | aa
 ·exact .inl aa
 ·refine .inr ?_
  simp only[Bool.and_eq_true]at aa
  constructor
  ·intro d aA
   have:=aa.1
   simp only[aA,Bool.and_eq_true,Bool.not_eq_true',bne_iff_ne]at this
   exact⟨by simpa using this.1,this.2⟩
  ·intro d aA
   have:=aa.2
   simp only[aA,Bool.not_eq_true']at this
   simpa using this
theorem vx{P:Program}{i j:Nat}{y:Oper}(h:eU P ops i=true)(aN:ops[j]?=some y)(a7:bZ P y=false)(c2:j≠i):pU (Region.before ops) (min i j) (max i j)=true:=by
 have:=List.all_eq_true.1 h _ (z1 aN)
 simpa[a7,c2]using this
def qC(ops:Array Oper)(X:Nat->Bool):Prop:=∀i U e,X i=true->ops[i]?=some U->e∈U.after->Region.binds .any e=true->X e.on=true
def lU(ops:Array Oper)(X:Nat->Bool)(i:Nat)(U:Oper):Prop:=ops[i]?=some U/\X i=false/\∀e,e∈U.after->Region.binds .any e=true->X e.on=true
theorem vG(h:ha ops=true){X:Nat->Bool}(ag:qC ops X):∀(i:Nat) (U:Oper),ops[i]?=some U->(∀e,e∈U.after->Region.binds .any e=true->X e.on=true)->∀j,j<ops.size->pU (Region.before ops) j i=true->X j=true:=by
 intro i
 induction i using Nat.strongRecOn with
 | _ i a2=>
  intro U aW al j aN af
  obtain⟨e,he,lz,o | ⟨o,aa⟩⟩:=abI h aW aN af
  ·rw[<-o];exact al e he lz
  ·have aZ:=al e he lz
   have a3:e.on<ops.size:=Nat.lt_trans o (Array.getElem?_eq_some_iff.1 aW).1
   exact a2 e.on o ops[e.on] (Array.getElem?_eq_getElem a3) (fun c0 nT cZ=>ag e.on _ c0 aZ (Array.getElem?_eq_getElem a3) nT cZ) j aN aa
theorem Ba(h:ha ops=true){X:Nat->Bool}(ag:qC ops X){i j:Nat}(ab:i<ops.size)(aZ:X i=true)(aN:j<ops.size)(af:pU (Region.before ops) j i=true):X j=true:=
 vG h ag i ops[i] (Array.getElem?_eq_getElem ab) (fun e he lz=>ag i _ e aZ (Array.getElem?_eq_getElem ab) he lz) j aN af
def fb(X:Nat->Bool)(i:Nat):Nat->Bool:=fun j=>decide (j=i) || X j
theorem Bb{X:Nat->Bool}(ag:qC ops X){i:Nat}{U:Oper}(al:lU ops X i U):qC ops (fb X i):=by
 intro j la e aZ aW he af
 simp only[fb,Bool.or_eq_true,decide_eq_true_eq]at aZ⊢
 rcases aZ with rfl | aZ
 ·rw[al.1]at aW
  obtain rfl:=Option.some.inj aW
  exact .inr (al.2.2 e he af)
 ·exact .inr (ag j la e aZ aW he af)
def wr(ops:Array Oper)(d:Tmp)(j:Nat):Bool:=match ops[j]? with
 | some U=>U.dst==some d
 | none=>false
theorem vh{d:Tmp}{j:Nat}:wr ops d j=true↔∃U,ops[j]?=some U/\U.dst=some d:=by
 unfold wr
 cases h:ops[j]?<;>simp
theorem vi{d:Tmp}{j:Nat}(h:wr ops d j=true):j<ops.size:=by
 obtain⟨U,aW,-⟩:=vh.1 h
 exact(Array.getElem?_eq_some_iff.1 aW).1
def A3(ops:Array Oper)(X:Nat->Bool)(d:Tmp)(j:Nat):Prop:=X j=true/\wr ops d j=true/\∀dO,X dO=true->wr ops d dO=true->dO<=j
open Classical in
noncomputable def cur(ops:Array Oper)(V:Nat->Value)(t0:List Value)(X:Nat->Bool)(d:Tmp):Value:=
 if h:∃j,A3 ops X d j then V h.choose else t0.getD d undef
theorem LJ{V:Nat->Value}{t0:List Value}{X:Nat->Bool}{d:Tmp}{j:Nat}(o:X j=true)(aa:wr ops d j=true)(aE:∀dO,X dO=true->wr ops d dO=true->dO<=j):cur ops V t0 X d=V j:=by
 unfold cur
 have h:∃j,A3 ops X d j:=⟨j,o,aa,aE⟩
 rw[dif_pos h]
 have ag:=h.choose_spec
 have:=aE _ ag.1 ag.2.1
 have:=ag.2.2 j o aa
 congr 1
 omega
theorem EB{V:Nat->Value}{t0:List Value}{X:Nat->Bool}{d:Tmp}(h:∀j,X j=true->wr ops d j=false):cur ops V t0 X d=t0.getD d undef:=by
 unfold cur
 rw[dif_neg]
 rintro⟨j,o,aa,-⟩
 rw[h j o]at aa
 cases aa
theorem ya{V:Nat->Value}{t0:List Value}{X Y:Nat->Bool}{d:Tmp}(h:∀j,wr ops d j=true->X j=Y j):cur ops V t0 X d=cur ops V t0 Y d:=by
 have e:A3 ops X d=A3 ops Y d:=by
  funext j
  apply propext
  constructor
  ·rintro⟨o,aa,aE⟩;exact⟨h j aa▸o,aa,fun dO aU aO=>aE dO ((h dO aO).symm▸aU) aO⟩
  ·rintro⟨o,aa,aE⟩;exact⟨(h j aa).symm▸o,aa,fun dO aU aO=>aE dO (h dO aO▸aU) aO⟩
 unfold cur
 rw[e]
theorem S6(V:Nat->Value)(t0:List Value)(X:Nat->Bool)(d:Tmp):(∃j,X j=true/\wr ops d j=true/\cur ops V t0 X d=V j)\/cur ops V t0 X d=t0.getD d undef:=by
 unfold cur
 split
 ·rename_i h
  exact .inl ⟨h.choose,h.choose_spec.1,h.choose_spec.2.1,rfl⟩
 ·exact .inr rfl
theorem pR{T:Nat->List Value}{V:Nat->Value}(bd:∀(i:Nat) (U:Oper),ops[i]?=some U->T (i+1)=fu (T i) U.dst (V i)):∀i,i<=ops.size->(T i).length=(T 0).length
 | 0,_=>rfl
 | i+1,h=>by
  have a3:i<ops.size:=by omega
  rw[bd i _ (Array.getElem?_eq_getElem a3)]
  have:=pR bd i (by omega)
  unfold fu
  split<;>simp[this]
theorem xT{T:Nat->List Value}{V:Nat->Value}(bd:∀(i:Nat) (U:Oper),ops[i]?=some U->T (i+1)=fu (T i) U.dst (V i)):∀i,i<=ops.size->∀d,d<(T 0).length->(T i).getD d undef=cur ops V (T 0) (fun j=>decide (j<i)) d
 | 0,_,d,aA=>by rw[EB];intro j aN;simp at aN
 | i+1,h,d,aA=>by
  have a3:i<ops.size:=by omega
  have aW:=Array.getElem?_eq_getElem a3
  have a2:=xT bd i (by omega) d aA
  have hlen:=pR bd i (by omega)
  rw[bd i _ aW]
  by_cases hw:wr ops d i=true
  ·obtain⟨U,fN,yY⟩:=vh.1 hw
   rw[aW]at fN
   obtain rfl:=Option.some.inj fN
   rw[LJ (j:=i) (by simp) hw (fun dO o _=>by simp at o;omega)]
   simp only[fu,yY]
   simp[List.getD_eq_getElem?_getD,List.getElem?_set,hlen,aA]
  ·have c2:ops[i].dst≠some d:=fun e=>hw (vh.2 ⟨_,aW,e⟩)
   rw[ya (Y:=fun j=>decide (j<i)) (fun j aN=>?_),<-a2]
   ·unfold fu
    split
    ·rename_i fM l8
     have:fM≠d:=fun e=>c2 (e▸l8)
     simp[List.getD_eq_getElem?_getD,List.getElem?_set,this]
    ·rfl
   ·have:j≠i:=fun e=>hw (e▸aN)
    simp only[decide_eq_decide]
    omega
theorem QD(h:ha ops=true){X:Nat->Bool}(ag:qC ops X){i:Nat}{U:Oper}(al:lU ops X i U){d:Tmp}(aA:d∈U.looksAt ops\/U.dst=some d):∀j,wr ops d j=true->X j=decide (j<i):=by
 intro j aN
 obtain⟨y,aP,ps⟩:=vh.1 aN
 have gg:j<ops.size:=vi aN
 have cA:i<ops.size:=(Array.getElem?_eq_some_iff.1 al.1).1
 rcases Nat.lt_trichotomy j i with a3 | heq | p6
 ·rcases Ip h aP al.1 a3 with af | ⟨o,aa⟩
  ·rw[vG h ag i U al.1 al.2.2 j gg af];simp[a3]
  ·rcases aA with aA | aA
   ·exact absurd aA (o d ps).1
   ·exact absurd aA (o d ps).2
 ·subst heq;rw[al.2.1];simp
 ·have aZ:X j=false:=by
   cases VV:X j with
   | false=>rfl
   | true=>
    rcases Ip h al.1 aP p6 with af | ⟨o,aa⟩
    ·have:=Ba h ag gg VV cA af
     rw[al.2.1]at this
     cases this
    ·rcases aA with aA | aA
     ·exact absurd aA (aa d ps)
     ·exact absurd ps (o d aA).2
  rw[aZ]
  simp
  omega
theorem LI(h:ha ops=true){X:Nat->Bool}(ag:qC ops X){i:Nat}{U:Oper}(al:lU ops X i U){V:Nat->Value}{t0:List Value}{d:Tmp}(aA:d∈U.looksAt ops\/U.dst=some d):
  cur ops V t0 X d=cur ops V t0 (fun j=>decide (j<i)) d:=ya (QD h ag al aA)
theorem Bd(h:ha ops=true){X:Nat->Bool}(ag:qC ops X){i:Nat}{U:Oper}(al:lU ops X i U){V:Nat->Value}{t0:List Value}(d:Tmp):cur ops V t0 (fb X i) d=if U.dst=some d then V i else cur ops V t0 X d:=by
 have cA:i<ops.size:=(Array.getElem?_eq_some_iff.1 al.1).1
 split
 ·rename_i aA
  refine LJ (by simp[fb]) (vh.2 ⟨U,al.1,aA⟩) fun dO o aa=>?_
  simp only[fb,Bool.or_eq_true,decide_eq_true_eq]at o
  rcases o with rfl | o
  ·exact Nat.le_refl _
  ·obtain⟨y,aP,ps⟩:=vh.1 aa
   rcases Nat.lt_or_ge i dO with a3 | h0
   ·rcases Ip h al.1 aP a3 with af | ⟨aU,aO⟩
    ·have:=Ba h ag (vi aa) o cA af
     rw[al.2.1]at this
     cases this
    ·exact absurd ps (aU d aA).2
   ·exact h0
 ·rename_i aA
  refine ya fun j aN=>?_
  have:j≠i:=fun e=>by
   obtain⟨y,aP,ps⟩:=vh.1 aN
   subst e
   rw[al.1]at aP
   obtain rfl:=Option.some.inj aP
   exact aA ps
  simp[fb,this]
end
def r2(s bk j:Nat):Nat:=if j<s then s else if j<bk then j+1 else bk
def nN(s bk j:Nat):Nat:=if j<s then s else if j<bk then j else bk
structure Inv (P:Program) (base:Nat) (ops:Array Oper) (T:Nat->List Value) (V:Nat->Value) (a6:Nat->ad) (jb:bl) (ek:World) (X:Nat->Bool) (s bk:Nat) (ak:bl) (a:Act) (w:World):Prop where
 closed:qC ops X
 dw:s<=bk
 jj:bk<=ops.size
 adf:∀j U,s<=j->j<bk->ops[j]?=some U->bZ P U=false->eU P ops j=false
 before:∀j U,j<s->ops[j]?=some U->bZ P U=false->X j=true
 after:∀j U,bk<=j->ops[j]?=some U->bZ P U=false->X j=false
 stop:bk=ops.size\/∃U,ops[bk]?=some U/\bZ P U=false/\eU P ops bk=true
 jJ:cC P base ak (a6 bk) w
 ext:∀b k,jb b=some k->ak b=some k
 e2:∀b k,ak b=some k->b<(a6 s).length\/∃j,s<=j/\j<bk/\X j=true/\(a6 j).length<=b/\b<(a6 (j+1)).length
 DZ:∀j,s<=j->j<=bk->∀b k x cs v,ak b=some k->b<(a6 j).length->(a6 bk)[b]?=some x->x.cells?=some cs->v∈cs->kv (a6 j).length v
 xG:∀j,j<ops.size->X j=true->kv (a6 (r2 s bk j)).length (V j)
 RX:∀v∈T 0,kv (a6 s).length v
 Qh:0<(a6 0).length
 CZ:(a6 0).length<=(a6 s).length
 fQ:a.tmps.size=(T 0).length
 tmps:∀d,d<(T 0).length->bo ak (cur ops V (T 0) X d) (a.tmps.getD d undef)
 defers:a.defers=[]
 step:Step jb (a6 0) ek ak (a6 bk) w
theorem lM.IP{P:Program}{base:Nat}{ak:bl}{w:World}{k:jo}{x:bN}(h:lM P base ak w k x){cs:List Value}(ag:x.cells?=some cs){v:Value}(an:v∈cs):∃aw,bo ak v aw:=by
 obtain⟨i,ab⟩:=List.getElem?_of_mem an
 cases h with
 | own af au fV ao a1 bW aC bF jC=>
  simp only[bN.cells?,Option.some.injEq]at ag
  subst ag
  obtain⟨aw,-,aa⟩:=jC i v ab
  exact⟨aw,aa⟩
 | ro fV ao jC df=>
  simp only[bN.cells?,Option.some.injEq]at ag
  subst ag
  obtain⟨aw,-,aa⟩:=jC i v ab
  exact⟨aw,aa⟩
 | dead=>simp[bN.cells?]at ag
theorem lM.acK{P:Program}{base:Nat}{ak bD:bl}{w:World}{k:jo}{x:bN}(h:lM P base ak w k x)(he:∀cs v,x.cells?=some cs->v∈cs->∀aw,bo ak v aw->bo bD v aw):lM P base bD w k x:=by
 cases h with
 | own af au ab ao a1 bW aC bF an=>exact .own af au ab ao a1 bW aC bF fun i v ab=>let⟨aw,o,aa⟩:=an i v ab;⟨aw,o,he _ v rfl (List.mem_of_getElem? ab) aw aa⟩
 | ro ab ao an df=>exact .ro ab ao (fun i v ab=>let⟨aw,o,aa⟩:=an i v ab;⟨aw,o,he _ v rfl (List.mem_of_getElem? ab) aw aa⟩) df
 | dead=>exact .dead
theorem cC.grow{P:Program}{base:Nat}{ak:bl}{H aI:ad}{w:World}(h:cC P base ak H w)(he:Ext H aI):cC P base ak aI w:=by
 have au:=he.len
 refine⟨Nat.lt_of_lt_of_le h.pos au,h.size,fun b k af=>⟨(h.e2 b k af).1,Nat.lt_of_lt_of_le (h.e2 b k af).2 au⟩,fun b k x af J=>?_,fun b cg k b1 af cZ c2 aW nX=>?_⟩
 ·rw[he.get (h.e2 b k af).2]at J
  exact h.fm b k x af J
 ·exact h.inj b cg k b1 af cZ c2 ((rn (he.get (h.e2 b k af).2)).1 aW) ((zP (he.get (h.e2 cg b1 cZ).2)).1 nX)
theorem Step.grow{P:Program}{base:Nat}{ak bD:bl}{H H1 aT:ad}{w a9:World}(h:Step ak H w bD H1 a9)(bP:cC P base bD H1 a9)(he:Ext H1 aT):Step ak H w bD aT a9 where
 ext:=h.ext
 new:=h.new
 len:=Nat.le_trans h.len he.len
 own b k af aW:=h.own b k af ((rn (he.get (bP.e2 b k af).2)).1 aW)
 os:=h.os
 tape:=h.tape
 output:=h.output
 size:=h.size
 frame:=h.frame
section
variable {P:Program} {base:Nat} {ops:Array Oper} {T:Nat->List Value} {V:Nat->Value} {a6:Nat->ad} {jb:bl} {ek:World} {X:Nat->Bool} {s bk:Nat} {ak:bl} {a:Act} {w:World}
theorem Af(a7:∀j U,ops[j]?=some U->bZ P U=true->a6 (j+1)=a6 j)(b5:∀j U,ops[j]?=some U->bZ P U=false->eU P ops j=true\/Ext (a6 j) (a6 (j+1)))(aF:bk<=ops.size)
  (Ox:∀j U,s<=j->j<bk->ops[j]?=some U->bZ P U=false->eU P ops j=false):∀(m i:Nat),s<=i->i+m<=bk->Ext (a6 i) (a6 (i+m))
 | 0,i,_,_=>Ext.refl _
 | m+1,i,ao,hm=>by
  have a2:=Af a7 b5 aF Ox m i ao (by omega)
  have a3:i+m<ops.size:=by omega
  have aW:=Array.getElem?_eq_getElem a3
  refine a2.trans ?_
  show Ext (a6 (i+m)) (a6 (i+m+1))
  cases aC:bZ P ops[i+m]with
  | true=>rw[a7 _ _ aW aC];exact Ext.refl _
  | false=>
   rcases b5 _ _ aW aC with af | he
   ·rw[Ox _ _ (by omega) (by omega) aW aC]at af;cases af
   ·exact he
theorem Inv.lq(ai:Inv P base ops T V a6 jb ek X s bk ak a w)(a7:∀j U,ops[j]?=some U->bZ P U=true->a6 (j+1)=a6 j)(b5:∀j U,ops[j]?=some U->bZ P U=false->eU P ops j=true\/Ext (a6 j) (a6 (j+1)))
  {i j:Nat}(o:s<=i)(aa:i<=j)(aE:j<=bk):Ext (a6 i) (a6 j):=by
 have:=Af a7 b5 ai.jj ai.adf (j-i) i o (by omega)
 rwa[show i+(j-i)=j by omega]at this
theorem Inv.operand(ai:Inv P base ops T V a6 jb ek X s bk ak a w)(eK:ha ops=true)(a7:∀j U,ops[j]?=some U->bZ P U=true->a6 (j+1)=a6 j)(b5:∀j U,ops[j]?=some U->bZ P U=false->eU P ops j=true\/Ext (a6 j) (a6 (j+1)))
  (bd:∀(i:Nat) (U:Oper),ops[i]?=some U->T (i+1)=fu (T i) U.dst (V i)){i:Nat}{U:Oper}(al:lU ops X i U){d:Tmp}(aA:d∈U.looksAt ops):bo (ak.below (a6 (nN s bk i)).length) ((T i).getD d undef) (a.tmps.getD d undef):=by
 have cA:i<ops.size:=(Array.getElem?_eq_some_iff.1 al.1).1
 by_cases kl: @LT.lt Nat _ d (T 0).length
 ·rw[xT bd i (by omega) d kl,<-LI eK ai.closed al (.inl aA)]
  refine(ai.tmps d kl).restrict ?_
  have qe:=ai.dw
  have gV:(a6 s).length<=(a6 (nN s bk i)).length:=by
   unfold nN
   split
   ·exact Nat.le_refl _
   ·split
    ·exact(ai.lq a7 b5 (Nat.le_refl _) (by omega) (by omega)).len
    ·exact(ai.lq a7 b5 (Nat.le_refl _) ai.dw (Nat.le_refl _)).len
  rcases S6 (ops:=ops) V (T 0) X d with⟨j,o,aa,aE⟩ | aE
  ·rw[aE]
   have fA:=QD eK ai.closed al (.inl aA) j aa
   rw[o]at fA
   have nm:j<i:=by simpa using fA.symm
   refine(ai.xG j (vi aa) o).mono ?_
   unfold r2
   split
   ·exact gV
   ·split
    ·unfold nN
     rw[if_neg (by omega)]
     split
     ·exact(ai.lq a7 b5 (by omega) (by omega) (by omega)).len
     ·exact(ai.lq a7 b5 (by omega) (by omega) (by omega)).len
    ·unfold nN
     rw[if_neg (by omega),if_neg (by omega)]
     exact Nat.le_refl _
  ·rw[aE]
   refine(ai.RX _ ?_).mono gV
   simp only[List.getD_eq_getElem?_getD,bs kl,Option.getD_some]
   exact List.getElem_mem kl
 ·have o:(T i).getD d undef=undef:=by
   rw[List.getD_eq_getElem?_getD,List.getElem?_eq_none (by rw[pR bd i (by omega)];omega)]
   rfl
  have aa:a.tmps.getD d undef=undef:=by
   have:=ai.fQ
   rw[Array.getD_eq_getD_getElem?,Array.getElem?_eq_none (by omega)]
   rfl
  rw[o,aa]
  exact bo.undef _
theorem Inv.operands(ai:Inv P base ops T V a6 jb ek X s bk ak a w)(eK:ha ops=true)(ah:(ops.all fun U=>U.op.operands.all od)=true)(a7:∀j U,ops[j]?=some U->bZ P U=true->a6 (j+1)=a6 j)(b5:∀j U,ops[j]?=some U->bZ P U=false->eU P ops j=true\/Ext (a6 j) (a6 (j+1)))
  (bd:∀(i:Nat) (U:Oper),ops[i]?=some U->T (i+1)=fu (T i) U.dst (V i)){i:Nat}{U:Oper}(al:lU ops X i U):∀x∈U.op.operands,bo (ak.below (a6 (nN s bk i)).length) (fD (T i) x) (a.eval x):=by
 intro x J
 obtain⟨a3,aW⟩:=Array.getElem?_eq_some_iff.1 al.1
 cases x with
 | tmp d=>
  have:d∈U.looksAt ops:=by
   unfold Oper.looksAt
   exact List.mem_append_left _ (List.mem_filterMap.2 ⟨.tmp d,by simpa using J,rfl⟩)
  exact ai.operand eK a7 b5 bd al this
 | const v=>
  have o:=Array.all_eq_true.1 ah i a3
  rw[aW]at o
  have:=Array.all_eq_true'.1 o _ J
  exact vN _ this
 | global g=>exact .tK g
 | func f=>exact .func _ rfl (fun i v aw h=>by simp at h) rfl (fun i v aw h=>by simp at h)
theorem Inv.wanted(ai:Inv P base ops T V a6 jb ek X s bk ak a w)(eK:ha ops=true)(a7:∀j U,ops[j]?=some U->bZ P U=true->a6 (j+1)=a6 j)(b5:∀j U,ops[j]?=some U->bZ P U=false->eU P ops j=true\/Ext (a6 j) (a6 (j+1)))
  (bd:∀(i:Nat) (U:Oper),ops[i]?=some U->T (i+1)=fu (T i) U.dst (V i)){i:Nat}{U:Oper}(al:lU ops X i U):Region.wanted U (yielded ops a.tmps)=Region.wanted U (hp ops (T i)):=by
 have cA:i<ops.size:=(Array.getElem?_eq_some_iff.1 al.1).1
 refine IS fun j b a1=>?_
 unfold yielded hp
 cases aA:(ops[j]?).bind (·.dst)with
 | none=>rfl
 | some d=>
  have hM:d∈U.looksAt ops:=by
   unfold Oper.looksAt
   refine List.mem_append_right _ ?_
   simp only[a1,aA]
   simp
  have an:=ai.operand eK a7 b5 bd al hM
  simp only[Option.bind_some]
  have we:=pR bd i (by omega)
  by_cases kl: @LT.lt Nat _ d (T 0).length
  ·have bn:(T i)[d]?=some ((T i).getD d undef):=by
    rw[List.getD_eq_getElem?_getD,bs (by omega)]
    rfl
   have bj:a.tmps[d]?=some (a.tmps.getD d undef):=by
    have:=ai.fQ
    rw[Array.getD_eq_getD_getElem?,Array.getElem?_eq_getElem (by omega)]
    rfl
   rw[bn,bj]
   exact an.hy.symm
  ·have bn:(T i)[d]?=none:=List.getElem?_eq_none (by omega)
   have bj:a.tmps[d]?=none:=Array.getElem?_eq_none (by have:=ai.fQ;omega)
   rw[bn,bj]
theorem Bp{a:Act}{dst:Option Tmp}{v:Value}{d n:Nat}(au:a.tmps.size=n)(aA:d<n):(a.put dst v).tmps.getD d undef=if dst=some d then v else a.tmps.getD d undef:=by
 cases dst with
 | none=>simp[Act.put]
 | some e=>
  simp only[Act.put,Array.getD_eq_getD_getElem?,Array.getElem?_setIfInBounds]
  by_cases he:e=d
  ·subst he;simp[au,aA]
  ·simp[he]
theorem Dw(a:Act)(dst:Option Tmp)(v:Value):(a.put dst v).tmps.size=a.tmps.size:=by cases dst<;>simp[Act.put]
theorem Inv.QG(ai:Inv P base ops T V a6 jb ek X s bk ak a w)(eK:ha ops=true){i:Nat}{U:Oper}(al:lU ops X i U)(aC:bZ P U=true){aw:Value}(an:bo (ak.below (a6 (nN s bk i)).length) (V i) aw)
  (a7:∀j U,ops[j]?=some U->bZ P U=true->a6 (j+1)=a6 j):Inv P base ops T V a6 jb ek (fb X i) s bk ak (a.put U.dst aw) w:=by
 have cA:i<ops.size:=(Array.getElem?_eq_some_iff.1 al.1).1
 have c2:∀j y,ops[j]?=some y->bZ P y=false->j≠i:=fun j y aP Pe e=>by
  subst e;rw[al.1]at aP;cases aP;rw[aC]at Pe;cases Pe
 refine{ai with closed:=Bb ai.closed al,before:=?_,after:=?_,e2:=?_,xG:=?_,fQ:=?_,tmps:=?_,defers:=?_}
 ·intro j y o aa aE
  simp[fb,ai.before j y o aa aE]
 ·intro j y o aa aE
  simp[fb,ai.after j y o aa aE,c2 j y aa aE]
 ·intro b k af
  rcases ai.e2 b k af with h | ⟨j,o,aa,aE,bA⟩
  ·exact .inl h
  ·exact .inr ⟨j,o,aa,by simp[fb,aE],bA⟩
 ·intro j aN aZ
  simp only[fb,Bool.or_eq_true,decide_eq_true_eq]at aZ
  rcases aZ with rfl | aZ
  ·have hw:kv (a6 (nN s bk j)).length (V j):=kv.of (fun b k af=>(bl.jP af).1) an
   have e:(a6 (r2 s bk j)).length=(a6 (nN s bk j)).length:=by
    unfold r2 nN
    split
    ·rfl
    ·split
     ·rw[a7 j U al.1 aC]
     ·rfl
   rw[e]
   exact hw
  ·exact ai.xG j aN aZ
 ·rw[Dw];exact ai.fQ
 ·intro d aA
  rw[Bd eK ai.closed al,Bp ai.fQ aA]
  split
  ·exact an.ext fun b k af=>(bl.jP af).2
  ·exact ai.tmps d aA
 ·rw[put_defers];exact ai.defers
theorem Inv.adr(ai:Inv P base ops T V a6 jb ek X s bk ak a w)(a7:∀j U,ops[j]?=some U->bZ P U=true->a6 (j+1)=a6 j)(b5:∀j U,ops[j]?=some U->bZ P U=false->eU P ops j=true\/Ext (a6 j) (a6 (j+1)))
  {i:Nat}(o:s<=i)(aa:i<=bk):cC P base (ak.below (a6 i).length) (a6 i) w:=by
 have he:=ai.lq a7 b5 o aa (Nat.le_refl _)
 refine⟨?_,ai.jJ.size,fun b k af=>⟨(ai.jJ.e2 b k (bl.jP af).2).1,(bl.jP af).1⟩,fun b k x af J=>?_,fun b cg k b1 af cZ c2 aW au=>?_⟩
 ·have:=(ai.lq a7 b5 (Nat.le_refl _) o aa).len
  have:=ai.Qh
  have:=ai.CZ
  omega
 ·have sN:=he.get_some J
  refine(ai.jJ.fm b k x (bl.jP af).2 sN).acK fun cs v ag an aw jC=>jC.restrict ?_
  exact ai.DZ i o aa b k x cs v (bl.jP af).2 (bl.jP af).1 sN ag an
 ·exact ai.jJ.inj b cg k b1 (bl.jP af).2 (bl.jP cZ).2 c2 ((rn (he.get (bl.jP af).1)).2 aW) ((zP (he.get (bl.jP cZ).1)).2 au)
end
section
variable {P:Program} {base:Nat} {ops:Array Oper} {T:Nat->List Value} {V:Nat->Value} {a6:Nat->ad} {jb:bl} {ek:World} {X:Nat->Bool} {s bk:Nat} {ak:bl} {a:Act} {w:World}
def bl.join(ak bD:bl)(l h:Nat):bl:=fun b=>if b<l then ak b else if b<h then bD b else ak b
theorem Inv.runM(ai:Inv P base ops T V a6 jb ek X s bk ak a w)(eK:ha ops=true)(a7:∀j U,ops[j]?=some U->bZ P U=true->a6 (j+1)=a6 j)(b5:∀j U,ops[j]?=some U->bZ P U=false->eU P ops j=true\/Ext (a6 j) (a6 (j+1)))
  {i:Nat}{U:Oper}(al:lU ops X i U)(iY:s<=i)(gz:i<bk){bD:bl}{aw:Value}{a9:World}(an:bo bD (V i) aw)(bP:cC P base bD (a6 (i+1)) a9)(c3:Step (ak.below (a6 i).length) (a6 i) w bD (a6 (i+1)) a9):
  ∃rO,Inv P base ops T V a6 jb ek (fb X i) s bk rO (a.put U.dst aw) a9:=by
 have cA:i<ops.size:=(Array.getElem?_eq_some_iff.1 al.1).1
 have bn:=ai.lq a7 b5 iY (by omega) (show i+1<=bk by omega)
 have bj:=ai.lq a7 b5 (show s<=i+1 by omega) gz (Nat.le_refl _)
 have fT:=ai.lq a7 b5 iY (by omega) (Nat.le_refl bk)
 have es:=ai.lq a7 b5 (Nat.le_refl s) iY (by omega)
 have CW:=bn.len
 have CX:=bj.len
 have ls:=es.len
 have Xt:∀b k,ak b=some k->b<(a6 i).length\/(a6 (i+1)).length<=b:=by
  intro b k af
  rcases ai.e2 b k af with h | ⟨j,o,aa,aE,bA,bQ⟩
  ·exact .inl (by omega)
  ·rcases Nat.lt_trichotomy j i with a3 | heq | p6
   ·have:=(ai.lq a7 b5 (show s<=j+1 by omega) a3 (by omega)).len
    exact .inl (by omega)
   ·subst heq;rw[al.2.1]at aE;cases aE
   ·have:=(ai.lq a7 b5 (show s<=i+1 by omega) p6 (by omega)).len
    exact .inr (by omega)
 have Cc:∀b k,ak b=some k->ak.join bD (a6 i).length (a6 (i+1)).length b=some k:=by
  intro b k af
  unfold bl.join
  rcases Xt b k af with h | h
  ·rw[if_pos h];exact af
  ·rw[if_neg (by omega),if_neg (by omega)];exact af
 have N1:∀b k,bD b=some k->ak.join bD (a6 i).length (a6 (i+1)).length b=some k:=by
  intro b k af
  have a3:=(bP.e2 b k af).2
  unfold bl.join
  rcases c3.new b k af with h | h
  ·rw[if_pos (bl.jP h).1];exact(bl.jP h).2
  ·rw[if_neg (by omega),if_pos a3];exact af
 have o3:∀b k,ak.join bD (a6 i).length (a6 (i+1)).length b=some k->(b<(a6 i).length/\ak b=some k/\bD b=some k)\/((a6 i).length<=b/\b<(a6 (i+1)).length/\bD b=some k)\/((a6 (i+1)).length<=b/\ak b=some k):=by
  intro b k af
  unfold bl.join at af
  by_cases o:b<(a6 i).length
  ·rw[if_pos o]at af
   exact .inl ⟨o,af,c3.ext b k (bl.Er o af)⟩
  ·rw[if_neg o]at af
   by_cases aa:b<(a6 (i+1)).length
   ·rw[if_pos aa]at af;exact .inr (.inl ⟨by omega,aa,af⟩)
   ·rw[if_neg aa]at af;exact .inr (.inr ⟨by omega,af⟩)
 have Gg:∀b k,ak.join bD (a6 i).length (a6 (i+1)).length b=some k->b<(a6 (i+1)).length->bD b=some k:=by
  intro b k af a3
  rcases o3 b k af with h | h | h
  ·exact h.2.2
  ·exact h.2.2
  ·omega
 have Mq:∀b k x,ak b=some k->(a6 bk)[b]?=some x->x.cells?≠none->k.g<w.heap.size:=fun b k x af J aF=>(ai.jJ.fm b k x af J).lt aF
 have abm:∀b k,ak b=some k->my (a6 bk) b->k.g<w.heap.size:=fun b k af ⟨x,cs,J,ag⟩=>Mq b k x af J (by rw[ag];simp)
 have sC:∀b k cg b1,(a6 i).length<=b->bD b=some k->ie (a6 (i+1)) b->ak cg=some b1->my (a6 bk) cg->cg<(a6 i).length\/(a6 (i+1)).length<=cg->k.g≠b1.g:=by
  intro b k cg b1 hg af aW cZ dR Cj
  rcases c3.own b k af aW with h | ⟨hU,gP,o,aa,aE⟩
  ·have:=abm cg b1 cZ dR
   omega
  ·by_cases qQ:hU=cg
   ·
    subst qQ
    have hm:=(bl.jP o).2
    rw[hm]at cZ
    obtain rfl:=Option.some.inj cZ
    have nR:=(bl.jP o).1
    have sD:my (a6 (i+1)) hU:=(zP (bj.get (by omega))).1 dR
    exact bP.inj b hU k gP af (c3.ext _ _ o) (by omega) aW sD
   ·have:=ai.jJ.inj hU cg gP b1 (bl.jP o).2 cZ qQ ((rn (fT.get (bl.jP o).1)).2 aa) dR
    omega
 refine⟨ak.join bD (a6 i).length (a6 (i+1)).length,?_⟩
 refine{ai with closed:=Bb ai.closed al,before:=?_,after:=?_,jJ:=?_,ext:=fun b k af=>Cc b k (ai.ext b k af),e2:=?_,DZ:=?_,xG:=?_,fQ:=?_,tmps:=?_,defers:=?_,step:=?_}
 ·intro j y o aa aE
  simp[fb,ai.before j y o aa aE]
 ·intro j y o aa aE
  have:j≠i:=by omega
  simp[fb,ai.after j y o aa aE,this]
 ·refine⟨ai.jJ.pos,bP.size,fun b k af=>?_,fun b k x af J=>?_,fun b cg k b1 af cZ c2 aW au=>?_⟩
  ·rcases o3 b k af with⟨h,cq,-⟩ | ⟨h,cq,tL⟩ | ⟨h,cq⟩
   ·exact ai.jJ.e2 b k cq
   ·have:=bP.e2 b k tL;exact⟨this.1,by omega⟩
   ·exact ai.jJ.e2 b k cq
  ·by_cases a3:b<(a6 (i+1)).length
   ·have jV:=Gg b k af a3
    rw[bj.get a3]at J
    exact(bP.fm b k x jV J).gY N1 (fun _=>rfl) (Nat.le_refl _)
   ·rcases o3 b k af with⟨h,-,-⟩ | ⟨-,h,-⟩ | ⟨h,cq⟩
    ·omega
    ·omega
    ·refine(ai.jJ.fm b k x cq J).gY Cc (fun aF=>c3.frame k.g (Mq b k x cq J aF) fun hU gP nR Cf=>?_) c3.size
     have Nc:=bl.jP nR
     obtain⟨oM,yV⟩:∃oM,x.cells?=some oM:=by cases aq:x.cells? with | none=>exact absurd aq aF | some q=>exact⟨q,rfl⟩
     exact ai.jJ.inj hU b gP k Nc.2 cq (by omega) ((rn (fT.get Nc.1)).2 Cf) ⟨x,oM,J,yV⟩
  ·by_cases a3:b<(a6 (i+1)).length
   ·have jV:=Gg b k af a3
    have sD:=(rn (bj.get a3)).1 aW
    by_cases kn:cg<(a6 (i+1)).length
    ·exact bP.inj b cg k b1 jV (Gg cg b1 cZ kn) c2 sD ((zP (bj.get kn)).1 au)
    ·rcases o3 cg b1 cZ with⟨h,-,-⟩ | ⟨-,h,-⟩ | ⟨h,cq⟩
     ·omega
     ·omega
     ·rcases o3 b k af with⟨q,rA,-⟩ | ⟨q,rA,Qp⟩ | ⟨q,rA⟩
      ·exact ai.jJ.inj b cg k b1 rA cq c2 aW au
      ·exact sC b k cg b1 q jV sD cq au (.inr h)
      ·omega
   ·rcases o3 b k af with⟨h,-,-⟩ | ⟨-,h,-⟩ | ⟨h,cq⟩
    ·omega
    ·omega
    ·rcases o3 cg b1 cZ with⟨q,rA,-⟩ | ⟨q,rA,Qp⟩ | ⟨q,rA⟩
     ·exact ai.jJ.inj b cg k b1 cq rA c2 aW au
     ·have gA:=(zP (bj.get rA)).1 au
      have sD:ie (a6 (i+1)) cg:=by
       obtain⟨x,cs,J,ag⟩:=gA
       cases x with
       | own e l c=>exact⟨e,l,c,J⟩
       | ro e c=>exact absurd rfl (bn.new q J e c)
       | dead=>simp[bN.cells?]at ag
      exact fun e=>sC cg b1 b k q Qp sD cq aW.live (.inr h) e.symm
     ·exact ai.jJ.inj b cg k b1 cq rA c2 aW au
 ·intro b k af
  rcases o3 b k af with⟨h,cq,-⟩ | ⟨h,cq,tL⟩ | ⟨h,cq⟩
  ·rcases ai.e2 b k cq with q | ⟨j,aU,aO,bw,cj⟩
   ·exact .inl q
   ·exact .inr ⟨j,aU,aO,by simp[fb,bw],cj⟩
  ·exact .inr ⟨i,iY,gz,by simp[fb],h,cq⟩
  ·rcases ai.e2 b k cq with q | ⟨j,aU,aO,bw,cj⟩
   ·exact .inl q
   ·exact .inr ⟨j,aU,aO,by simp[fb,bw],cj⟩
 ·intro j o aa b k x cs v af hg J ag re
  rcases o3 b k af with⟨h,cq,-⟩ | ⟨h,cq,tL⟩ | ⟨h,cq⟩
  ·exact ai.DZ j o aa b k x cs v cq hg J ag re
  ·have fA:i+1<=j:=by
    rcases Nat.lt_or_ge i j with q | q
    ·exact q
    ·have:=(ai.lq a7 b5 o q (by omega)).len
     omega
   rw[bj.get cq]at J
   obtain⟨u,hu⟩:=(bP.fm b k x tL J).IP ag re
   exact(kv.of (fun b k af=>(bP.e2 b k af).2) hu).mono (ai.lq a7 b5 (by omega) fA aa).len
  ·exact ai.DZ j o aa b k x cs v cq hg J ag re
 ·intro j aN aZ
  simp only[fb,Bool.or_eq_true,decide_eq_true_eq]at aZ
  rcases aZ with rfl | aZ
  ·unfold r2
   rw[if_neg (by omega),if_pos gz]
   exact kv.of (fun b k af=>(bP.e2 b k af).2) an
  ·exact ai.xG j aN aZ
 ·rw[Dw];exact ai.fQ
 ·intro d aA
  rw[Bd eK ai.closed al,Bp ai.fQ aA]
  split
  ·exact an.ext N1
  ·exact(ai.tmps d aA).ext Cc
 ·rw[put_defers];exact ai.defers
 ·have q4:=ai.CZ
  refine⟨fun b k af=>Cc b k (ai.ext b k af),fun b k af=>?_,ai.step.len,fun b k af aW=>?_,c3.os.trans ai.step.os,c3.tape.trans ai.step.tape,c3.output.trans ai.step.output,Nat.le_trans ai.step.size c3.size,fun g a1 c2=>?_⟩
  ·rcases o3 b k af with⟨h,cq,-⟩ | ⟨h,cq,tL⟩ | ⟨h,cq⟩
   ·exact ai.step.new b k cq
   ·exact .inr (by omega)
   ·exact ai.step.new b k cq
  ·rcases o3 b k af with⟨h,cq,-⟩ | ⟨h,cq,tL⟩ | ⟨h,cq⟩
   ·exact ai.step.own b k cq aW
   ·rcases c3.own b k tL ((rn (bj.get cq)).1 aW)with q | ⟨hU,gP,aU,aO,bw⟩
    ·exact .inl (Nat.le_trans ai.step.size q)
    ·have Di:=bl.jP aU
     rcases ai.step.own hU gP Di.2 ((rn (fT.get Di.1)).2 aO)with r | ⟨gT,j2,ec,fs,hP⟩
     ·exact .inl (by omega)
     ·exact .inr ⟨gT,j2,ec,fs,by omega⟩
   ·exact ai.step.own b k cq aW
  ·rw[c3.frame g (Nat.lt_of_lt_of_le a1 ai.step.size) fun b k af aW=>?_,ai.step.frame g a1 c2]
   have cZ:=bl.jP af
   rcases ai.step.own b k cZ.2 ((rn (fT.get cZ.1)).2 aW)with r | ⟨gT,j2,ec,fs,hP⟩
   ·omega
   ·exact fun e=>c2 gT j2 ec fs (by omega)
theorem HD(ops:Array Oper):∀(m i:Nat),i+m=ops.size->∃bk,i<=bk/\bk<=ops.size/\(∀j U,i<=j->j<bk->ops[j]?=some U->bZ P U=false->eU P ops j=false)/\(bk=ops.size\/∃U,ops[bk]?=some U/\bZ P U=false/\eU P ops bk=true)
 | 0,i,h=>⟨i,Nat.le_refl _,by omega,fun j U o aa=>by omega,.inl (by omega)⟩
 | m+1,i,h=>by
  have a3:i<ops.size:=by omega
  have aW:=Array.getElem?_eq_getElem a3
  by_cases af:bZ P ops[i]=false/\eU P ops i=true
  ·exact⟨i,Nat.le_refl _,by omega,fun j U o aa=>by omega,.inr ⟨_,aW,af.1,af.2⟩⟩
  ·obtain⟨bk,o,aa,aE,bA⟩:=HD ops m (i+1) (by omega)
   refine⟨bk,by omega,aa,fun j U aU aO bw cj=>?_,bA⟩
   by_cases aN:j=i
   ·subst aN
    rw[aW]at bw
    obtain rfl:=Option.some.inj bw
    cases o1:eU P ops j with
    | false=>rfl
    | true=>exact absurd ⟨cj,o1⟩ af
   ·exact aE j U (by omega) aO bw cj
theorem Inv.acW(ai:Inv P base ops T V a6 jb ek X s bk ak a w)(eK:ha ops=true)(a7:∀j U,ops[j]?=some U->bZ P U=true->a6 (j+1)=a6 j)(b5:∀j U,ops[j]?=some U->bZ P U=false->eU P ops j=true\/Ext (a6 j) (a6 (j+1)))
  {U:Oper}(al:lU ops X bk U)(aC:bZ P U=false)(BO:eU P ops bk=true){bD:bl}{aw:Value}{a9:World}(an:bo bD (V bk) aw)(bP:cC P base bD (a6 (bk+1)) a9)(c3:Step ak (a6 bk) w bD (a6 (bk+1)) a9):
  ∃qn rO,Inv P base ops T V a6 jb ek (fb X bk) (bk+1) qn rO (a.put U.dst aw) a9:=by
 have cA:bk<ops.size:=(Array.getElem?_eq_some_iff.1 al.1).1
 obtain⟨qn,o,aa,aE,bA⟩:=HD ops (ops.size-(bk+1)) (bk+1) (by omega)
 have nU:∀{i j:Nat},bk+1<=i->i<=j->j<=qn->Ext (a6 i) (a6 j):=fun{i j} aU aO bw=>by
  have:=Af a7 b5 aa aE (j-i) i aU (by omega)
  rwa[show i+(j-i)=j by omega]at this
 have e:=nU (Nat.le_refl _) o (Nat.le_refl _)
 have qe:=ai.dw
 have ls:=(ai.lq a7 b5 (Nat.le_refl s) qe (Nat.le_refl _)).len
 have dq:=c3.len
 have q4:=ai.CZ
 refine⟨qn,bD,?_⟩
 refine⟨Bb ai.closed al,o,aa,aE,fun j y aU aO bw=>?_,fun j y aU aO bw=>?_,bA,bP.grow e,fun b k af=>c3.ext b k (ai.ext b k af),fun b k af=> .inl (bP.e2 b k af).2,?_,?_,fun v an=>(ai.RX v an).mono (by omega),ai.Qh,by omega,by rw[Dw];exact ai.fQ,?_,by rw[put_defers];exact ai.defers,(ai.step.trans c3).grow bP e⟩
 ·by_cases aN:j=bk
  ·subst aN;simp[fb]
  ·have af:=vx BO aO bw aN
   rw[show min bk j=j by omega,show max bk j=bk by omega]at af
   have:=vG eK ai.closed bk U al.1 al.2.2 j (by omega) af
   simp[fb,this]
 ·have aN:j≠bk:=by omega
  have gg:j<ops.size:=(Array.getElem?_eq_some_iff.1 aO).1
  cases aZ:X j with
  | false=>simp[fb,aZ,aN]
  | true=>
   have af:=vx BO aO bw aN
   rw[show min bk j=bk by omega,show max bk j=j by omega]at af
   have:=Ba eK ai.closed gg aZ cA af
   rw[al.2.1]at this
   cases this
 ·intro j aU aO b k x cs v af hg J ag re
  have lz:=(bP.e2 b k af).2
  rw[e.get lz]at J
  obtain⟨u,hu⟩:=(bP.fm b k x af J).IP ag re
  exact(kv.of (fun b k af=>(bP.e2 b k af).2) hu).mono (nU (Nat.le_refl _) aU aO).len
 ·intro j aN aZ
  simp only[fb,Bool.or_eq_true,decide_eq_true_eq]at aZ
  have gV:(a6 (bk+1)).length<=(a6 (r2 (bk+1) qn j)).length:=by
   unfold r2
   split
   ·exact Nat.le_refl _
   ·split
    ·exact(nU (Nat.le_refl _) (by omega) (by omega)).len
    ·exact(nU (Nat.le_refl _) o (Nat.le_refl _)).len
  rcases aZ with rfl | aZ
  ·exact(kv.of (fun b k af=>(bP.e2 b k af).2) an).mono gV
  ·refine(ai.xG j aN aZ).mono (Nat.le_trans ?_ (Nat.le_trans dq gV))
   unfold r2
   split
   ·exact ls
   ·split
    ·exact(ai.lq a7 b5 (by omega) (by omega) (Nat.le_refl _)).len
    ·exact Nat.le_refl _
 ·intro d aA
  rw[Bd eK ai.closed al,Bp ai.fQ aA]
  split
  ·exact an
  ·exact(ai.tmps d aA).ext c3.ext
theorem QC{dD:Array Bool}{i:Nat}(h:i∈Region.ready .any ops dD)(au:dD.size=ops.size):∃U,lU ops (fun j=>dD.getD j false) i U:=by
 unfold Region.ready at h
 rw[List.mem_filter]at h
 obtain⟨o,aa⟩:=h
 have a3:i<ops.size:=List.mem_range.1 o
 have aW:=Array.getElem?_eq_getElem a3
 simp only[aW,Option.map_some,Option.getD_some,Bool.and_eq_true,Bool.not_eq_true',Array.all_eq_true']at aa
 refine⟨ops[i],aW,?_,fun e he af=>?_⟩
 ·have:=aa.1
  simp only[Array.getD_eq_getD_getElem?,Array.getElem?_eq_getElem (show i<dD.size by omega),Option.getD_some]at this⊢
  exact this
 ·have:=aa.2 e he
  simpa[af]using this
theorem QB{dD:Array Bool}(h:Region.ready .any ops dD=[])(au:dD.size=ops.size)(eK:ha ops=true):∀i,i<ops.size->dD.getD i false=true:=by
 intro i
 induction i using Nat.strongRecOn with
 | _ i a2=>
  intro ab
  cases ag:dD.getD i false with
  | true=>rfl
  | false=>
   have aW:=Array.getElem?_eq_getElem ab
   have hM:i∈Region.ready .any ops dD:=by
    unfold Region.ready
    rw[List.mem_filter]
    refine⟨List.mem_range.2 ab,?_⟩
    simp only[aW,Option.map_some,Option.getD_some,Bool.and_eq_true,Bool.not_eq_true',Array.all_eq_true']
    constructor
    ·simp only[Array.getD_eq_getD_getElem?,Array.getElem?_eq_getElem (show i<dD.size by omega),Option.getD_some]at ag⊢
     exact ag
    ·intro e he
     cases af:Region.binds .any e with
     | false=>simp
     | true=>
      have:=T1 eK aW he af
      simp[a2 e.on this (by omega)]
   rw[h]at hM
   cases hM
theorem Py{dD:Array Bool}{i:Nat}(ab:i<dD.size):(fun j=>(dD.setIfInBounds i true).getD j false)=fb (fun j=>dD.getD j false) i:=by
 funext j
 simp only[fb,Array.getD_eq_getD_getElem?,Array.getElem?_setIfInBounds]
 by_cases h:i=j
 ·subst h;simp[ab]
 ·have:j≠i:=fun e=>h e.symm
  simp[h,this]
def vb(n:Nat)(X:Nat->Bool):Nat:=((List.range n).filter fun i=> !X i).length
theorem DU{n:Nat}{X:Nat->Bool}{i:Nat}(ab:i<n)(aZ:X i=false):vb n (fb X i)+1<=vb n X:=by
 unfold vb
 have:∀(l:List Nat),l.Nodup->(l.filter fun j=> !fb X i j).length+(if i∈l then 1 else 0)=(l.filter fun j=> !X j).length:=by
  intro l au
  induction l with
  | nil=>rfl
  | cons a l a2=>
   rw[List.nodup_cons]at au
   have a2:=a2 au.2
   by_cases k4:a=i
   ·subst k4
    rw[if_neg au.1]at a2
    simp only[List.filter_cons,fb,decide_true,Bool.true_or,Bool.not_true,aZ,Bool.not_false,List.mem_cons,true_or,if_true]
    simp only[fb,Bool.not_or]at a2
    simp
    omega
   ·have hm:(i∈a::l)↔i∈l:=by simp[Ne.symm k4]
    simp only[hm]
    have e:fb X i a=X a:=by simp[fb,k4]
    simp only[List.filter_cons,e]
    cases X a
    ·simp only[Bool.not_false,if_true,List.length_cons];omega
    ·simpa using a2
 have:=this (List.range n) List.nodup_range
 rw[if_pos (List.mem_range.2 ab)]at this
 omega
theorem Sp{Q:Exit->Act->World->Prop}(eK:ha ops=true)(ah:(ops.all fun U=>U.op.operands.all od)=true)(h:∀(i:Nat) (U:Oper),ops[i]?=some U->vr P base ops U (T i) (a6 i) (V i) (a6 (i+1)))
  (bd:∀(i:Nat) (U:Oper),ops[i]?=some U->T (i+1)=fu (T i) U.dst (V i))(b5:∀j U,ops[j]?=some U->bZ P U=false->eU P ops j=true\/Ext (a6 j) (a6 (j+1)))
  (aD:∀bD b3 a9,cX bD (T ops.size) b3.tmps.toList->b3.defers=[]->cC P base bD (a6 ops.size) a9->Step jb (a6 0) ek bD (a6 ops.size) a9->Q .normal b3 a9):
  ∀(fuel:Nat) (dD:Array Bool) (s bk:Nat) (ak:bl) (a:Act) (w:World),dD.size=ops.size->vb ops.size (fun j=>dD.getD j false)<=fuel->Inv P base ops T V a6 jb ek (fun j=>dD.getD j false) s bk ak a w->wpAny P .any ops Q fuel dD a w:=by
 have a7:∀j U,ops[j]?=some U->bZ P U=true->a6 (j+1)=a6 j:=fun j U aW aC=>by
  rcases h j U aW with⟨-,-,aE⟩ | ⟨-,-,-,aE⟩ | ⟨-,aa,-⟩
  ·exact aE
  ·exact aE
  ·rw[aC]at aa;cases aa
 have fin:∀(dD:Array Bool) (s bk:Nat) (ak:bl) (a:Act) (w:World),dD.size=ops.size->(∀i,i<ops.size->dD.getD i false=true)->Inv P base ops T V a6 jb ek (fun j=>dD.getD j false) s bk ak a w->Q .normal a w:=by
  intro dD s bk ak a w au dv ai
  have Cd:bk=ops.size:=by
   rcases ai.stop with h | ⟨U,o,aa,-⟩
   ·exact h
   ·have:=ai.after bk U (Nat.le_refl _) o aa
    have:=dv bk (Array.getElem?_eq_some_iff.1 o).1
    simp_all
  subst Cd
  refine aD ak a w ⟨?_,fun d v aw an dC=>?_⟩ ai.defers ai.jJ ai.step
  ·rw[pR bd _ (Nat.le_refl _)];simpa using ai.fQ.symm
  ·have kl:d<(T 0).length:=by
    have:=(cn.1 an).1
    rwa[pR bd _ (Nat.le_refl _)]at this
   have jC:=ai.tmps d kl
   rw[ya (Y:=fun j=>decide (j<ops.size)) (fun j aN=>by rw[dv j (vi aN)];simp[vi aN]),<-xT bd _ (Nat.le_refl _) d kl]at jC
   rw[List.getD_eq_getElem?_getD,an]at jC
   have bj:a.tmps[d]?=some aw:=by simpa using dC
   rw[Array.getD_eq_getD_getElem?,bj]at jC
   exact jC
 intro fuel
 induction fuel with
 | zero=>
  intro dD s bk ak a w au hu ai
  have dv:∀i,i<ops.size->dD.getD i false=true:=by
   intro i ab
   cases ag:dD.getD i false with
   | true=>rfl
   | false=>have:=DU (X:=fun j=>dD.getD j false) ab ag;omega
  refine⟨?_,fin dD s bk ak a w au dv ai⟩
  unfold Region.ready
  rw[List.filter_eq_nil_iff]
  intro i ab
  have:=dv i (List.mem_range.1 ab)
  simp only[Array.getD_eq_getD_getElem?,Array.getElem?_eq_getElem (show i<dD.size by have:=List.mem_range.1 ab;omega),Option.getD_some]at this⊢
  simp[this]
 | succ fuel a2=>
  intro dD s bk ak a w au hu ai
  refine⟨fun aF=>fin dD s bk ak a w au (QB aF au eK) ai,fun i ab=>?_⟩
  obtain⟨U,al⟩:=QC ab au
  have cA:i<ops.size:=(Array.getElem?_eq_some_iff.1 al.1).1
  have iW:=Py (dD:=dD) (i:=i) (by omega)
  have cont:∀(dp qn:Nat) (rO:bl) (aw:Value) (a9:World),Inv P base ops T V a6 jb ek (fb (fun j=>dD.getD j false) i) dp qn rO (a.put U.dst aw) a9->wpAny P .any ops Q fuel (dD.setIfInBounds i true) (a.put U.dst aw) a9:=by
   intro dp qn rO aw a9 ts
   refine a2 _ dp qn rO _ a9 (by simpa using au) ?_ (by rw[iW];exact ts)
   rw[iW]
   have:=DU (X:=fun j=>dD.getD j false) cA al.2.1
   omega
  unfold wpOp
  simp only[al.1,ai.wanted eK a7 b5 bd al]
  have nr:=ai.operands eK ah a7 b5 bd al
  have mem:bZ P U=false->∀bD aw a9,bo bD (V i) aw->cC P base bD (a6 (i+1)) a9->Step (ak.below (a6 i).length) (a6 i) w bD (a6 (i+1)) a9->wpAny P .any ops Q fuel (dD.setIfInBounds i true) (a.put U.dst aw) a9:=by
   intro aC bD aw a9 an bP c3
   have iY:s<=i:=by
    rcases Nat.lt_or_ge i s with q | q
    ·exact(Bool.false_ne_true (al.2.1.symm.trans (ai.before i U q al.1 aC))).elim
    ·exact q
   have gz:i<=bk:=by
    rcases Nat.lt_or_ge bk i with q | q
    ·rcases ai.stop with cq | ⟨y,aU,aO,bw⟩
     ·omega
     ·have af:=vx bw al.1 aC (by omega)
      rw[show min bk i=bk by omega,show max bk i=i by omega]at af
      have:=vG eK ai.closed i U al.1 al.2.2 bk (Array.getElem?_eq_some_iff.1 aU).1 af
      have:=ai.after bk y (Nat.le_refl _) aU aO
      simp_all
    ·exact q
   by_cases heq:i=bk
   ·subst heq
    have BO:eU P ops i=true:=by
     rcases ai.stop with cq | ⟨y,aU,aO,bw⟩
     ·omega
     ·exact bw
    have Xi:ak.below (a6 i).length=ak:=by
     funext b
     unfold bl.below
     split
     ·rfl
     ·cases af:ak b with
      | none=>rfl
      | some k=>have:=(ai.jJ.e2 b k af).2;omega
    rw[Xi]at c3
    obtain⟨qn,rO,ts⟩:=ai.acW eK a7 b5 al aC BO an bP c3
    exact cont _ _ _ _ _ ts
   ·obtain⟨rO,ts⟩:=ai.runM eK a7 b5 al iY (by omega) an bP c3
    exact cont _ _ _ _ _ ts
  have Ia:bZ P U=false->cC P base (ak.below (a6 i).length) (a6 i) w/\∀x∈U.op.operands,bo (ak.below (a6 i).length) (fD (T i) x) (a.eval x):=by
   intro aC
   have iY:s<=i:=by
    rcases Nat.lt_or_ge i s with q | q
    ·exact(Bool.false_ne_true (al.2.1.symm.trans (ai.before i U q al.1 aC))).elim
    ·exact q
   have gz:i<=bk:=by
    rcases Nat.lt_or_ge bk i with q | q
    ·rcases ai.stop with cq | ⟨y,aU,aO,bw⟩
     ·omega
     ·have af:=vx bw al.1 aC (by omega)
      rw[show min bk i=bk by omega,show max bk i=i by omega]at af
      have:=vG eK ai.closed i U al.1 al.2.2 bk (Array.getElem?_eq_some_iff.1 aU).1 af
      have:=ai.after bk y (Nat.le_refl _) aU aO
      simp_all
    ·exact q
   refine⟨ai.adr a7 b5 iY gz,?_⟩
   have TZ:nN s bk i=i:=by unfold nN;rw[if_neg (by omega)];split<;>omega
   rw[TZ]at nr
   exact nr
  rcases h i U al.1 with⟨o,aa,aE⟩ | ⟨o,aa,aE,bA⟩ | ⟨o,aa,aE⟩
  ·rw[o]
   cases aC:bZ P U with
   | true=>exact cont _ _ _ undef _ (ai.QG (aw:=undef) eK al aC (by rw[aa];exact bo.undef _) a7)
   | false=>exact mem aC (ak.below (a6 i).length) undef w (by rw[aa];exact bo.undef _) (aE▸(Ia aC).1) (aE▸Step.refl _ _ _)
  ·rw[o]
   obtain⟨aw,hj,an⟩:=ER aE nr w
   refine .inl ?_
   unfold Oper.wp
   rw[hj]
   exact cont _ _ _ _ _ (ai.QG eK al aa an a7)
  ·rw[o]
   exact .inl (aE (ak.below (a6 i).length) w a (Ia aa).2 (Ia aa).1 _ _ fun bD aw a9 an bP c3=>mem aa bD aw a9 an bP c3)
end
section
variable {P:Program} {base:Nat} {ops:Array Oper} {T:Nat->List Value} {V:Nat->Value} {a6:Nat->ad} {ep:Nat->Option (Nat×Option bN)} {ak:bl} {ek:World} {X:Nat->Bool} {a:Act} {w:World} {H:ad}
def nL(ep:Nat->Option (Nat×Option bN))(j b:Nat):Prop:=∃x,ep j=some (b,some x)
theorem abe(au:∀(i:Nat) (U:Oper),ops[i]?=some U->pM P ops U (T i) (a6 i) (V i) (a6 (i+1)) (ep i)){i:Nat}(ab:i<ops.size){b:Nat}(hw:¬nL ep i b):(a6 (i+1))[b]?=(a6 i)[b]?:=by
 have h:=au i _ (Array.getElem?_eq_getElem ab)
 cases bG:ep i with
 | none=>rw[bG]at h;rw[h.2]
 | some bI=>
  obtain⟨c,y⟩:=bI
  rw[bG]at h
  obtain⟨-,-,-,-,bQ,-⟩:=h
  cases y with
  | none=>rw[bQ];rfl
  | some x=>
   simp only[nx]at bQ
   have:c≠b:=fun e=>hw ⟨x,by rw[bG,e]⟩
   rw[bQ,List.getElem?_set_ne this]
theorem Pu(au:∀(i:Nat) (U:Oper),ops[i]?=some U->pM P ops U (T i) (a6 i) (V i) (a6 (i+1)) (ep i)):∀i,i<=ops.size->(a6 i).length=(a6 0).length
 | 0,_=>rfl
 | i+1,ab=>by
  have a2:=Pu au i (by omega)
  have h:=au i _ (Array.getElem?_eq_getElem (show i<ops.size by omega))
  cases bG:ep i with
  | none=>rw[bG]at h;rw[h.2,a2]
  | some bI=>
   obtain⟨c,y⟩:=bI
   rw[bG]at h
   obtain⟨-,-,-,-,bQ,-⟩:=h
   cases y with
   | none=>rw[bQ,<-a2];rfl
   | some x=>rw[bQ];simp[nx,a2]
theorem CY(au:∀(i:Nat) (U:Oper),ops[i]?=some U->pM P ops U (T i) (a6 i) (V i) (a6 (i+1)) (ep i)){b:Nat}:∀(m i:Nat),i+m<=ops.size->(∀j,i<=j->j<i+m->¬nL ep j b)->(a6 (i+m))[b]?=(a6 i)[b]?
 | 0,i,_,_=>rfl
 | m+1,i,h,hw=>by
  have a2:=CY au m i (by omega) fun j o aa=>hw j o (by omega)
  rw[<-a2]
  exact abe au (show i+m<ops.size by omega) (hw (i+m) (by omega) (by omega))
structure mx (P:Program) (base:Nat) (ops:Array Oper) (T:Nat->List Value) (V:Nat->Value) (a6:Nat->ad) (ep:Nat->Option (Nat×Option bN)) (ak:bl) (ek:World) (X:Nat->Bool) (a:Act) (w:World) (H:ad):Prop where
 closed:qC ops X
 size:∀j,X j=true->j<ops.size
 len:H.length=(a6 0).length
 row:∀b,∃k,k<=ops.size/\(∀j,j<k->nL ep j b->X j=true)/\(∀j,k<=j->nL ep j b->X j=false)/\H[b]?=(a6 k)[b]?
 jJ:cC P base ak H w
 fQ:a.tmps.size=(T 0).length
 tmps:∀d,d<(T 0).length->bo ak (cur ops V (T 0) X d) (a.tmps.getD d undef)
 defers:a.defers=[]
 step:Step ak (a6 0) ek ak H w
theorem mx.operand(ai:mx P base ops T V a6 ep ak ek X a w H)(eK:ha ops=true)(bd:∀(i:Nat) (U:Oper),ops[i]?=some U->T (i+1)=fu (T i) U.dst (V i)){i:Nat}{U:Oper}(al:lU ops X i U){d:Tmp}(aA:d∈U.looksAt ops):
  bo ak ((T i).getD d undef) (a.tmps.getD d undef):=by
 have cA:i<ops.size:=(Array.getElem?_eq_some_iff.1 al.1).1
 by_cases kl: @LT.lt Nat _ d (T 0).length
 ·rw[xT bd i (by omega) d kl,<-LI eK ai.closed al (.inl aA)]
  exact ai.tmps d kl
 ·have o:(T i).getD d undef=undef:=by
   rw[List.getD_eq_getElem?_getD,List.getElem?_eq_none (by rw[pR bd i (by omega)];omega)]
   rfl
  have aa:a.tmps.getD d undef=undef:=by
   have:=ai.fQ
   rw[Array.getD_eq_getD_getElem?,Array.getElem?_eq_none (by omega)]
   rfl
  rw[o,aa]
  exact bo.undef _
theorem mx.operands(ai:mx P base ops T V a6 ep ak ek X a w H)(eK:ha ops=true)(ah:(ops.all fun U=>U.op.operands.all od)=true)(bd:∀(i:Nat) (U:Oper),ops[i]?=some U->T (i+1)=fu (T i) U.dst (V i)){i:Nat}{U:Oper}(al:lU ops X i U):
  ∀x∈U.op.operands,bo ak (fD (T i) x) (a.eval x):=by
 intro x J
 obtain⟨a3,aW⟩:=Array.getElem?_eq_some_iff.1 al.1
 cases x with
 | tmp d=>
  have:d∈U.looksAt ops:=by
   unfold Oper.looksAt
   exact List.mem_append_left _ (List.mem_filterMap.2 ⟨.tmp d,by simpa using J,rfl⟩)
  exact ai.operand eK bd al this
 | const v=>
  have o:=Array.all_eq_true.1 ah i a3
  rw[aW]at o
  exact vN _ (Array.all_eq_true'.1 o _ J)
 | global g=>exact .tK g
 | func f=>exact .func _ rfl (fun i v aw h=>by simp at h) rfl (fun i v aw h=>by simp at h)
theorem mx.wanted(ai:mx P base ops T V a6 ep ak ek X a w H)(eK:ha ops=true)(bd:∀(i:Nat) (U:Oper),ops[i]?=some U->T (i+1)=fu (T i) U.dst (V i)){i:Nat}{U:Oper}(al:lU ops X i U):
  Region.wanted U (yielded ops a.tmps)=Region.wanted U (hp ops (T i)):=by
 have cA:i<ops.size:=(Array.getElem?_eq_some_iff.1 al.1).1
 refine IS fun j b a1=>?_
 unfold yielded hp
 cases aA:(ops[j]?).bind (·.dst)with
 | none=>rfl
 | some d=>
  have hM:d∈U.looksAt ops:=by
   unfold Oper.looksAt
   refine List.mem_append_right _ ?_
   simp only[a1,aA]
   simp
  have an:=ai.operand eK bd al hM
  simp only[Option.bind_some]
  have we:=pR bd i (by omega)
  by_cases kl: @LT.lt Nat _ d (T 0).length
  ·have bn:(T i)[d]?=some ((T i).getD d undef):=by
    rw[List.getD_eq_getElem?_getD,bs (by omega)]
    rfl
   have bj:a.tmps[d]?=some (a.tmps.getD d undef):=by
    have:=ai.fQ
    rw[Array.getD_eq_getD_getElem?,Array.getElem?_eq_getElem (by omega)]
    rfl
   rw[bn,bj]
   exact an.hy.symm
  ·have bn:(T i)[d]?=none:=List.getElem?_eq_none (by omega)
   have bj:a.tmps[d]?=none:=Array.getElem?_eq_none (by have:=ai.fQ;omega)
   rw[bn,bj]
theorem mx.put(ai:mx P base ops T V a6 ep ak ek X a w H)(eK:ha ops=true){i:Nat}{U:Oper}(al:lU ops X i U){aw:Value}{a9:World}{H1:ad}(hlen:H1.length=H.length)(YP:∀b,nL ep i b->H1[b]?=(a6 (i+1))[b]?/\(∀j,j<i->nL ep j b->X j=true)/\∀j,i<j->nL ep j b->X j=false)
  (Xx:∀b,¬nL ep i b->H1[b]?=H[b]?)(an:bo ak (V i) aw)(bP:cC P base ak H1 a9)(c3:Step ak H w ak H1 a9):mx P base ops T V a6 ep ak ek (fb X i) (a.put U.dst aw) a9 H1:=by
 have cA:i<ops.size:=(Array.getElem?_eq_some_iff.1 al.1).1
 refine⟨Bb ai.closed al,fun j aN=>?_,by rw[hlen,ai.len],fun b=>?_,bP,by rw[Dw];exact ai.fQ,fun d aA=>?_,by rw[put_defers];exact ai.defers,ai.step.trans c3⟩
 ·simp only[fb,Bool.or_eq_true,decide_eq_true_eq]at aN
  rcases aN with rfl | aN
  ·exact cA
  ·exact ai.size j aN
 ·by_cases hw:nL ep i b
  ·obtain⟨aU,aO,bw⟩:=YP b hw
   refine⟨i+1,by omega,fun j aN qh=>?_,fun j aN qh=>?_,aU⟩
   ·by_cases fA:j=i
    ·subst fA;simp[fb]
    ·simp[fb,aO j (by omega) qh]
   ·have:j≠i:=by omega
    simp[fb,bw j (by omega) qh,this]
  ·obtain⟨k,j2,k_,uQ,zR⟩:=ai.row b
   refine⟨k,j2,fun j aN qh=>by simp[fb,k_ j aN qh],fun j aN qh=>?_,by rw[Xx b hw];exact zR⟩
   have:j≠i:=fun e=>hw (e▸qh)
   simp[fb,uQ j aN qh,this]
 ·rw[Bd eK ai.closed al,Bp ai.fQ aA]
  split
  ·exact an
  ·exact ai.tmps d aA
theorem abS{bD:bl}{H1:ad}{a9:World}(bP:cC P base bD H1 a9)(c3:Step ak H w bD H1 a9)(hlen:H1.length=H.length):bD=ak:=by
 funext b
 cases h:bD b with
 | none=>
  cases cq:ak b with
  | none=>rfl
  | some k=>rw[c3.ext b k cq]at h;cases h
 | some k=>
  rcases c3.new b k h with cq | cq
  ·exact cq.symm
  ·have:=(bP.e2 b k h).2;omega
theorem abd{Q:Exit->Act->World->Prop}(eK:ha ops=true)(ah:(ops.all fun U=>U.op.operands.all od)=true)(h:∀(i:Nat) (U:Oper),ops[i]?=some U->vr P base ops U (T i) (a6 i) (V i) (a6 (i+1)))
  (bd:∀(i:Nat) (U:Oper),ops[i]?=some U->T (i+1)=fu (T i) U.dst (V i))(au:∀(i:Nat) (U:Oper),ops[i]?=some U->pM P ops U (T i) (a6 i) (V i) (a6 (i+1)) (ep i))
  (mJ:∀(i j:Nat) (b:Nat) (x:bN) (y:Option bN),ep i=some (b,some x)->ep j=some (b,y)->i≠j->eU P ops i=true\/eU P ops j=true)
  (wT:∀j,ops.size<=j->ep j=none)(aD:∀bD b3 a9,cX bD (T ops.size) b3.tmps.toList->b3.defers=[]->cC P base bD (a6 ops.size) a9->Step ak (a6 0) ek bD (a6 ops.size) a9->Q .normal b3 a9):
  ∀(fuel:Nat) (dD:Array Bool) (a:Act) (w:World) (H:ad),dD.size=ops.size->vb ops.size (fun j=>dD.getD j false)<=fuel->mx P base ops T V a6 ep ak ek (fun j=>dD.getD j false) a w H->wpAny P .any ops Q fuel dD a w:=by
 have fin:∀(dD:Array Bool) (a:Act) (w:World) (H:ad),dD.size=ops.size->(∀i,i<ops.size->dD.getD i false=true)->mx P base ops T V a6 ep ak ek (fun j=>dD.getD j false) a w H->Q .normal a w:=by
  intro dD a w H iW dv ai
  have E_:H=a6 ops.size:=by
   apply List.ext_getElem?
   intro b
   obtain⟨k,j2,k_,uQ,zR⟩:=ai.row b
   have:=CY au (b:=b) (ops.size-k) k (by omega) fun j o aa hw=>by
    have aE:=uQ j o hw
    rw[dv j (by omega)]at aE
    cases aE
   rw[show k+(ops.size-k)=ops.size by omega]at this
   rw[zR,this]
  subst E_
  refine aD ak a w ⟨?_,fun d v aw an dC=>?_⟩ ai.defers ai.jJ ai.step
  ·rw[pR bd _ (Nat.le_refl _)];simpa using ai.fQ.symm
  ·have kl:d<(T 0).length:=by
    have:=(cn.1 an).1
    rwa[pR bd _ (Nat.le_refl _)]at this
   have jC:=ai.tmps d kl
   rw[ya (Y:=fun j=>decide (j<ops.size)) (fun j aN=>by rw[dv j (vi aN)];simp[vi aN]),<-xT bd _ (Nat.le_refl _) d kl]at jC
   rw[List.getD_eq_getElem?_getD,an]at jC
   have bj:a.tmps[d]?=some aw:=by simpa using dC
   rw[Array.getD_eq_getD_getElem?,bj]at jC
   exact jC
 intro fuel
 induction fuel with
 | zero=>
  intro dD a w H iW hu ai
  have dv:∀i,i<ops.size->dD.getD i false=true:=by
   intro i ab
   cases ag:dD.getD i false with
   | true=>rfl
   | false=>have:=DU (X:=fun j=>dD.getD j false) ab ag;omega
  refine⟨?_,fin dD a w H iW dv ai⟩
  unfold Region.ready
  rw[List.filter_eq_nil_iff]
  intro i ab
  have:=dv i (List.mem_range.1 ab)
  simp only[Array.getD_eq_getD_getElem?,Array.getElem?_eq_getElem (show i<dD.size by have:=List.mem_range.1 ab;omega),Option.getD_some]at this⊢
  simp[this]
 | succ fuel a2=>
  intro dD a w H iW hu ai
  refine⟨fun aF=>fin dD a w H iW (QB aF iW eK) ai,fun i ab=>?_⟩
  obtain⟨U,al⟩:=QC ab iW
  have cA:i<ops.size:=(Array.getElem?_eq_some_iff.1 al.1).1
  have uB:=Py (dD:=dD) (i:=i) (by omega)
  have cont:∀(aw:Value) (a9:World) (H1:ad),mx P base ops T V a6 ep ak ek (fb (fun j=>dD.getD j false) i) (a.put U.dst aw) a9 H1->wpAny P .any ops Q fuel (dD.setIfInBounds i true) (a.put U.dst aw) a9:=by
   intro aw a9 H1 ts
   refine a2 _ _ a9 H1 (by simpa using iW) ?_ (by rw[uB];exact ts)
   rw[uB]
   have:=DU (X:=fun j=>dD.getD j false) cA al.2.1
   omega
  have nr:=ai.operands eK ah bd al
  have YH:=ai.wanted eK bd al
  have B4:=au i U al.1
  unfold wpOp
  simp only[al.1,YH]
  cases bG:ep i with
  | none=>
   rw[bG]at B4
   obtain⟨aq,aj2⟩:=B4
   have quiet:∀aw,bo ak (V i) aw->mx P base ops T V a6 ep ak ek (fb (fun j=>dD.getD j false) i) (a.put U.dst aw) w H:=fun aw an=>
    ai.put eK al rfl (fun b af=>by obtain⟨x,J⟩:=af;rw[bG]at J;cases J) (fun b _=>rfl) an ai.jJ (Step.refl _ _ _)
   rcases h i U al.1 with⟨o,aa,aE⟩ | ⟨o,aa,aE,bA⟩ | ⟨o,aa,aE⟩
   ·rw[o]
    exact cont undef w H (quiet undef (by rw[aa];exact bo.undef _))
   ·rw[o]
    obtain⟨aw,hj,an⟩:=ER aE nr w
    refine .inl ?_
    unfold Oper.wp
    rw[hj]
    exact cont aw w H (quiet aw an)
   ·rcases aq with q | q
    ·rw[o]at q;cases q
    ·rw[aa]at q;cases q
  | some bI=>
   obtain⟨b,y⟩:=bI
   rw[bG]at B4
   obtain⟨o,aa,aE,bA,bQ,dY⟩:=B4
   rw[o]
   have Ob:∀j,j≠i->nL ep j b->pU (Region.before ops) (min j i) (max j i)=true:=fun j aN ⟨x,J⟩=>by
    have gg:j<ops.size:=by
     rcases Nat.lt_or_ge j ops.size with q | q
     ·exact q
     ·exact absurd J (by rw[wT j q];simp)
    have zb:=Array.getElem?_eq_getElem gg
    have np:=au j _ zb
    rw[J]at np
    rcases mJ j i b x y J bG aN with q | q
    ·exact vx q al.1 aa (Ne.symm aN)
    ·have:=vx q zb np.2.1 aN
     rw[Nat.min_comm,Nat.max_comm]
     exact this
   have hC:∀j,j<i->nL ep j b->dD.getD j false=true:=fun j aN hw=>by
    have aG:=Ob j (by omega) hw
    rw[show min j i=j by omega,show max j i=i by omega]at aG
    exact vG eK ai.closed i U al.1 al.2.2 j (by omega) aG
   have iF:∀j,i<j->nL ep j b->dD.getD j false=false:=fun j aN hw=>by
    have aG:=Ob j (by omega) hw
    rw[show min j i=i by omega,show max j i=j by omega]at aG
    cases aZ:dD.getD j false with
    | false=>rfl
    | true=>
     have:=Ba eK ai.closed (ai.size j aZ) aZ cA aG
     exact absurd (al.2.1.symm.trans this) Bool.false_ne_true
   have UP:H[b]?=(a6 i)[b]?:=by
    obtain⟨k,j2,k_,uQ,zR⟩:=ai.row b
    rw[zR]
    rcases Nat.le_total k i with fB | fB
    ·have:=CY au (b:=b) (i-k) k (by omega) fun j aU aO hw=>by
      have bn:=uQ j aU hw
      have bj:=hC j (by omega) hw
      exact Bool.false_ne_true (bn.symm.trans bj)
     rw[show k+(i-k)=i by omega]at this
     exact this.symm
    ·have:=CY au (b:=b) (k-i) i (by omega) fun j aU aO hw=>by
      have bn:=k_ j (by omega) hw
      by_cases fA:j=i
      ·subst fA;exact Bool.false_ne_true (al.2.1.symm.trans bn)
      ·exact Bool.false_ne_true ((iF j (by omega) hw).symm.trans bn)
     rw[show i+(k-i)=k by omega]at this
     exact this
   have hm:=dY H UP
   obtain⟨bD,aw,a9,hj,an,hZ,c3⟩:=PR hm ai.jJ nr
   have hlen:(nx H b y).length=H.length:=by cases y<;>simp[nx]
   obtain rfl:=abS hZ c3 hlen
   have hg:b<H.length:=by rw[ai.len,<-Pu au i (by omega)];exact aE
   have Mg:mx P base ops T V a6 ep bD ek (fb (fun j=>dD.getD j false) i) (a.put U.dst aw) a9 (nx H b y):=by
    refine ai.put eK al hlen (fun c ag=>?_) (fun c ag=>?_) an hZ c3
    ·obtain⟨x,J⟩:=ag
     rw[bG]at J
     simp only[Option.some.injEq,Prod.mk.injEq]at J
     obtain⟨rfl,rfl⟩:=J
     refine⟨?_,hC,iF⟩
     simp only[nx]at bQ⊢
     rw[List.getElem?_set_self hg,bQ,List.getElem?_set_self aE]
    ·cases y with
     | none=>rfl
     | some x=>
      have:b≠c:=fun e=>ag ⟨x,by rw[bG,e]⟩
      simp only[nx]
      rw[List.getElem?_set_ne this]
   refine .inl ?_
   unfold Oper.wp
   rcases hj with hj | ⟨hj,rfl⟩
   ·rw[hj];exact cont aw a9 _ Mg
   ·rw[hj];exact cont undef a9 _ Mg
end
section
variable {P:Program} {base:Nat}
def xm(tmps:Array Value):ResultVar->Sem Value
 | .tmp t=>pure (tmps.getD t undef)
 | .cell a t=>do loadVar t (<-asAddr (tmps.getD a undef))
theorem ac3{ak:bl}{H:ad}{w:World}{t:List Value}{a:Act}(c1:cX ak t a.tmps.toList)(bP:cC P base ak H w){rs:List ResultVar}{aH:List Value}(h:m6 P t H rs aH):∃h8,(rs.mapM (xm a.tmps)).run P w= .ok h8 w/\cX ak aH h8:=by
 have EV:∀i,bo ak (t.getD i undef) (a.tmps.getD i undef):=fun i=>Ai (x:= .tmp i) c1 rfl
 induction h with
 | nil=>exact⟨[],by simp,cX.nil ak⟩
 | tmp ao a2=>
  rename_i i rs aH
  obtain⟨h8,o,aa⟩:=a2
  exact⟨_::h8,by simp[List.mapM_cons,xm,o],(cX.cons (EV i) aa)⟩
 | A7 aL J aZ ag an ao a2=>
  rename_i r ty b i X cs v rs aH
  obtain⟨h8,o,aa⟩:=a2
  obtain⟨k,ah,he⟩:=(J▸EV r).sZ
  obtain⟨u,aU,aO⟩:=bP.cell ah aZ ag an
  exact⟨u::h8,by simp[List.mapM_cons,xm,he,asAddr,loadVar,Dn aL,aU,o],cX.cons aO aa⟩
 | A8 aL aF J aZ ag bF ao a2=>
  rename_i r ty b i n X cs rs aH
  obtain⟨h8,o,aa⟩:=a2
  obtain⟨k,ah,he⟩:=(J▸EV r).sZ
  obtain⟨us,au,k5,al⟩:=bP.cells ah aZ ag bF
  have hj:=run_loadCells_list (P:=P) w ⟨k.g,k.U+i,none⟩ us k5
  rw[au]at hj
  exact⟨.agg us.toArray::h8,by simp[List.mapM_cons,xm,he,asAddr,loadVar,Dn aL,ld aF,hj,o],cX.cons (.agg al.toArray.1 al.toArray.2) aa⟩
theorem acN{ak:bl}{H:ad}{w:World}{t:List Value}{a:Act}{fn:Func}(c1:cX ak t a.tmps.toList)(bP:cC P base ak H w){aH:List Value}(h:m6 P t H fn.results.toList aH):∃aw,(results fn a.tmps).run P w= .ok aw w/\bo ak (bf aH) aw:=by
 obtain⟨h8,o,aa⟩:=ac3 c1 bP h
 have e:(fn.results.mapM (xm a.tmps)).run P w= .ok h8.toArray w:=by
  rw[Array.mapM_eq_mapM_toList]
  simp[o]
 have bj:(results fn a.tmps).run P w= .ok (if h:h8.toArray.size=1 then h8.toArray[0]else .tuple h8.toArray) w:=by
  have:results fn a.tmps=(do let aH<-fn.results.mapM (xm a.tmps);pure (if h:aH.size=1 then aH[0]else .tuple aH)):=rfl
  rw[this]
  simp[e]
 refine⟨_,bj,?_⟩
 have au:=aa.1
 unfold bf
 match aH,h8,au,aa with
 | [],[],_,aa=>exact .tuple rfl aa.toArray.2
 | [v],[aw],_,aa=>exact aa.2 0 v aw rfl rfl
 | v::v2::aH,u::mr::us,_,aa=>
  have:¬((u::mr::us).toArray.size=1):=by simp
  rw[dif_neg this]
  exact .tuple aa.toArray.1 aa.toArray.2
def vt(P:Program)(base:Nat)(c:Code)(e:dS)(rH:List Value)(aI:ad):Nat->List Value->ad->Prop
 | 0,t,H=>Sound P base (.code c t H) (.code e rH aI)/\e≠ .normal
 | n+1,t,H=>∃t1 H1,Sound P base (.code c t H) (.code .normal t1 H1)/\vt P base c e rH aI n t1 H1
theorem PB{c:Code}{e:dS}{t rH:List Value}{H aI:ad}{n:Nat}(h:vt P base c e rH aI n t H):Sound P base (.code (.loop c) t H) (.code e rH aI):=by
 intro ak w a c1 il bP Q aD
 refine wp_loop_ghost (fun m b3 a9=>∃bD t1 H1,cX bD t1 b3.tmps.toList/\b3.defers=[]/\cC P base bD H1 a9/\Step ak H w bD H1 a9/\vt P base c e rH aI m t1 H1) n ⟨ak,t,H,c1,il,bP,Step.refl _ _ _,h⟩ ?_
 rintro m b3 a9 ⟨bD,t1,H1,pZ,o4,hZ,mO,al⟩
 cases m with
 | zero=>
  obtain⟨ao,c2⟩:=al
  refine ao bD a9 b3 pZ o4 hZ _ fun nG cM iN yu yW yy zr=>?_
  have:=aD nG cM iN yu yW yy (mO.trans zr)
  cases e with
  | normal=>exact absurd rfl c2
  | exit id=>exact this
  | ret=>exact this
 | succ m=>
  obtain⟨t2,aT,ao,al⟩:=al
  refine ao bD a9 b3 pZ o4 hZ _ fun nG cM iN yu yW yy zr=>?_
  exact⟨m,Nat.lt_succ_self m,nG,t2,aT,yu,yW,yy,mO.trans zr,al⟩
def Sg(P:Program)(base:Nat):qD->Out->Prop
 | .code (.loop c) t H,.code e rH aI=>∃n,vt P base c e rH aI n t H
 | _,_=>True
theorem ac1(hm:P.follows .mixedOrders=true){j:qD}{U:Out}(h:ef P j U):Sound P base j U/\Sg P base j U:=by
 induction h with
 | skip=>exact⟨fun ak w a c1 il bP Q aD=>wp_skip (aD ak a w c1 il bP (Step.refl _ _ _)),trivial⟩
 | ret=>exact⟨fun ak w a c1 il bP Q aD=>wp_ret (aD ak a w c1 il bP (Step.refl _ _ _)),trivial⟩
 | exit=>exact⟨fun ak w a c1 il bP Q aD=>wp_exit (aD ak a w c1 il bP (Step.refl _ _ _)),trivial⟩
 | Dr o aa mf rm=>
  refine⟨fun ak w a c1 il bP Q aD=>wp_seq (mf.1 ak w a c1 il bP _ fun bD b3 a9 pZ o4 hZ mO=>?_),trivial⟩
  exact rm.1 bD a9 b3 pZ o4 hZ Q fun nG cM iN yu yW yy zr=>aD nG cM iN yu yW yy (mO.trans zr)
 | Ag o he mf=>
  rename_i AX hU t t1 H H1 e
  refine⟨fun ak w a c1 il bP Q aD=>wp_seq (mf.1 ak w a c1 il bP _ fun bD b3 a9 pZ o4 hZ mO=>?_),trivial⟩
  have:=aD bD b3 a9 pZ o4 hZ mO
  cases e with
  | normal=>exact absurd rfl he
  | exit id=>exact this
  | ret=>exact this
 | cond ag ah h a2=>
  rename_i c x y b t t1 H H1 e
  refine⟨fun ak w a c1 il bP Q aD=>?_,trivial⟩
  have an:=Ai c1 ah
  rw[ag]at an
  exact wp_cond an.Lk (a2.1 ak w a c1 il bP Q aD)
 | block h a2=>
  rename_i id c t t1 H H1 e
  refine⟨fun ak w a c1 il bP Q aD=>wp_block (a2.1 ak w a c1 il bP _ fun bD b3 a9 pZ o4 hZ mO=>?_),trivial⟩
  have:=aD bD b3 a9 pZ o4 hZ mO
  cases e with
  | normal=>simpa[dS.real,Exit.inBlock]using this
  | exit iv=>
   by_cases ab:iv=id
   ·subst ab;simpa[dS.real,Exit.inBlock]using this
   ·simpa[dS.real,Exit.inBlock,ab]using this
  | ret=>simpa[dS.real,Exit.inBlock]using this
 | C0 o aa mf rm=>
  obtain⟨n,al⟩:=rm.2
  have:vt P base _ _ _ _ (n+1) _ _:=⟨_,_,mf.1,al⟩
  exact⟨PB this,n+1,this⟩
 | zV o he mf=>
  have:vt P base _ _ _ _ 0 _ _:=⟨mf.1,he⟩
  exact⟨PB this,0,this⟩
 | region T V a6 ah h bd aA a2=>
  rename_i id ops draw
  have nr:∀(i:Nat) (U:Oper),ops[i]?=some U->vr P base ops U (T i) (a6 i) (V i) (a6 (i+1)):=fun i U aW=>(a2 i U aW).1
  refine⟨fun ak w a c1 il bP Q aD=>?_,trivial⟩
  cases draw with
  | false=>
   refine wp_region ?_
   rw[List.range_eq_range']
   exact HG ah nr bd (fun bD b3 a9 aU aO bw cj=>aD bD b3 a9 aU aO bw cj) ops.size 0 (by omega) ak a w c1 il bP (Step.refl _ _ _)
  | true=>
   obtain⟨eK,b5⟩:=aA rfl
   refine wp_region_any hm ?_
   obtain⟨bk,o,aa,aE,bA⟩:=HD ops ops.size 0 (by omega)
   have v_:cC P base ak (a6 0) {w with drawn:=w.drawn+1}:=bP.heap rfl
   have a7:∀j U,ops[j]?=some U->bZ P U=true->a6 (j+1)=a6 j:=fun j U aW aC=>by
    rcases nr j U aW with⟨-,-,aE⟩ | ⟨-,-,-,aE⟩ | ⟨-,aa,-⟩
    ·exact aE
    ·exact aE
    ·rw[aC]at aa;cases aa
   have nU:Ext (a6 0) (a6 bk):=by
    have:=Af a7 b5 aa aE bk 0 (Nat.zero_le _) (by omega)
    simpa using this
   have q1:∀j,(Array.replicate ops.size false).getD j false=false:=fun j=>by
    simp only[Array.getD_eq_getD_getElem?,Array.getElem?_replicate]
    split<;>rfl
   refine Sp (V:=V) (jb:=ak) (ek:=w) eK ah nr bd b5 (fun bD b3 a9 aU aO bw cj=>aD bD b3 a9 aU aO bw cj) ops.size (Array.replicate ops.size false) 0 bk ak a _ (by simp) (by unfold vb;exact Nat.le_trans (List.length_filter_le _ _) (by simp)) ?_
   refine⟨(fun i U e aZ=>by rw[q1]at aZ;cases aZ),o,aa,aE,(fun j U aN=>by omega),fun j U _ _ _=>q1 j,bA,v_.grow nU,fun b k af=>af,fun b k af=> .inl (bP.e2 b k af).2,?_,(fun j _ aZ=>by rw[q1]at aZ;cases aZ),fun v an=>?_,bP.pos,Nat.le_refl _,by simpa using c1.1.symm,?_,il,?_⟩
   ·intro j aU aO b k x cs v af hg J ag an
    have lz:=(bP.e2 b k af).2
    rw[nU.get lz]at J
    obtain⟨u,hu⟩:=(bP.fm b k x af J).IP ag an
    have hlen:(a6 0).length<=(a6 j).length:=by
     have:=(Af a7 b5 aa aE j 0 (Nat.zero_le _) (by omega)).len
     simpa using this
    exact(kv.of (fun b k af=>(bP.e2 b k af).2) hu).mono hlen
   ·obtain⟨i,ab⟩:=List.getElem?_of_mem an
    obtain⟨u,-,hu⟩:=c1.get ab
    exact kv.of (fun b k af=>(bP.e2 b k af).2) hu
   ·intro d aA
    rw[EB (fun j aZ=>by rw[q1]at aZ;cases aZ)]
    exact Ai (x:= .tmp d) c1 rfl
   ·have:=(Step.drawn ak (a6 0) w (w.drawn+1)).grow v_ nU
    exact this
 | Dm T V a6 ep ah h bd eK au aA wT a2=>
  rename_i id ops draw
  have nr:∀(i:Nat) (U:Oper),ops[i]?=some U->vr P base ops U (T i) (a6 i) (V i) (a6 (i+1)):=fun i U aW=>(a2 i U aW).1
  refine⟨fun ak w a c1 il bP Q aD=>?_,trivial⟩
  cases draw with
  | false=>
   refine wp_region ?_
   rw[List.range_eq_range']
   exact HG ah nr bd (fun bD b3 a9 aU aO bw cj=>aD bD b3 a9 aU aO bw cj) ops.size 0 (by omega) ak a w c1 il bP (Step.refl _ _ _)
  | true=>
   refine wp_region_any hm ?_
   have v_:cC P base ak (a6 0) {w with drawn:=w.drawn+1}:=bP.heap rfl
   have q1:∀j,(Array.replicate ops.size false).getD j false=false:=fun j=>by
    simp only[Array.getD_eq_getD_getElem?,Array.getElem?_replicate]
    split<;>rfl
   refine abd (V:=V) (ak:=ak) (ek:=w) eK ah nr bd au aA wT (fun bD b3 a9 aU aO bw cj=>aD bD b3 a9 aU aO bw cj) ops.size (Array.replicate ops.size false) a _ (a6 0) (by simp) (by unfold vb;exact Nat.le_trans (List.length_filter_le _ _) (by simp)) ?_
   refine⟨(fun i U e aZ=>by rw[q1]at aZ;cases aZ),(fun j aZ=>by rw[q1]at aZ;cases aZ),rfl,(fun b=>⟨0,Nat.zero_le _,fun j aN=>absurd aN (Nat.not_lt_zero j),fun j _ _=>q1 j,rfl⟩),v_,by simpa using c1.1.symm,?_,il,Step.drawn ak (a6 0) w (w.drawn+1)⟩
   intro d aA
   rw[EB (fun j aZ=>by rw[q1]at aZ;cases aZ)]
   exact Ai (x:= .tmp d) c1 rfl
 | uW hw=>exact⟨.inl ⟨hw,rfl,rfl⟩,trivial⟩
 | xc hw a7 h=>exact⟨.inr (.inl ⟨hw,a7,h,rfl⟩),trivial⟩
 | sW hw a7 h=>
  refine⟨.inr (.inr ⟨hw,a7,fun ak w a cd bP K Q a4=>?_⟩),trivial⟩
  obtain⟨bD,aw,a9,al,an,hZ,c3⟩:=PR h bP cd
  unfold Oper.wp
  rcases al with al | ⟨al,rfl⟩
  ·rw[al];exact a4 bD aw a9 an hZ c3
  ·rw[al];exact a4 bD undef a9 an hZ c3
 | xb hw a7 aW aC a1 aF af h a2=>
  rename_i ops U t H H1 v f args lX g first cap fn
  refine⟨.inr (.inr ⟨hw,a7,fun ak w a cd bP K Q a4=>?_⟩),trivial⟩
  have BX:=cd f (by simp[aW,Op.operands,Call.operands])
  rw[aC]at BX
  obtain⟨ye,dM,he,o,aa⟩:∃ye dM,a.eval f= .func (.func g) ye dM/\fw ak first ye/\fw ak cap dM:=by
   generalize a.eval f=u at BX
   cases BX with
   | func _ au db dR eX=>exact⟨_,_,rfl,⟨au,db⟩,dR,eX⟩
  have t_:cX ak (args.toList.map (fD t)) (args.toList.map a.eval):=by
   refine⟨by simp,fun i u RB hu n2=>?_⟩
   simp only[List.getElem?_map,Option.map_eq_some_iff]at hu n2
   obtain⟨x,J,rfl⟩:=hu
   obtain⟨y,aP,rfl⟩:=n2
   rw[J]at aP
   obtain rfl:=Option.some.inj aP
   exact cd x (by simp[aW,Op.operands,Call.operands];exact .inr (by simpa using List.mem_of_getElem? J))
  have hj:(execOp a.eval U).run P w= .ok (.enter g (ye++args.map a.eval++dM)) w:=by
   have yS:¬fn.body=none:=fun e=>by rw[e]at af;cases af
   have h1:¬fn.name= "runtime.NumGoroutine" :=by simpa using aF
   simp[execOp,aW,resolve,he,Deferred.ofValue,invoke,callFunc,a1,h1,yS]
  unfold Oper.wp
  rw[hj,Oper.upon_enter]
  have v3:cX ak (first.toList++args.toList.map (fD t)++cap.toList) (ye++args.map a.eval++dM).toList:=by
   have:=(o.toList.append t_).append aa.toList
   simpa using this
  refine(a2.1 ak w _ v3 bP).mono fun e g1 db=>?_
  obtain⟨aw,bD,rfl,an,hZ,c3⟩:=db
  exact a4 bD aw g1 an hZ c3
 | call aC af h he al a2=>
  rename_i f fn c args t1 aH H H1 e
  refine⟨fun ak w lW c1 bP=>?_,trivial⟩
  refine calls_of_wp aC af (a2.1 ak w _ ?_ rfl bP _ fun bD b3 a9 pZ o4 hZ mO=>?_)
  ·have au:args.length=lW.size:=by simpa using c1.1
   have:=c1.append (cX.replicate ak (fn.ntmps-args.length))
   rw[au]at this⊢
   simpa using this
  ·obtain⟨aw,aU,aO⟩:=acN pZ hZ al
   rcases he with rfl | rfl
   ·exact⟨o4,aw,aU,aw,bD,rfl,aO,hZ,mO⟩
   ·exact⟨o4,aw,aU,aw,bD,rfl,aO,hZ,mO⟩
 | A6 h aW a2=>
  refine⟨fun ak w lW c1 bP=>?_,trivial⟩
  refine(a2.1 ak w lW c1 bP).mono fun e g1 db=>?_
  obtain⟨aw,bD,rfl,an,hZ,c3⟩:=db
  obtain⟨j2,k_⟩:=hZ.kill _ aW
  exact⟨aw,bD,rfl,an,j2,c3.trans k_⟩
theorem ac0(hm:P.follows .mixedOrders=true){f:FuncId}{args:List Value}{H H1:ad}{v:Value}(h:ef P (.call f args H) (.val v H1)){ak:bl}{w:World}{lW:Array Value}(c1:cX ak args lW.toList)(bP:cC P base ak H w):
  Calls P f lW w fun e g1=>∃aw bD,e= .returned aw/\bo bD v aw/\cC P base bD H1 g1/\Step ak H w bD H1 g1:=(ac1 hm h).1 ak w lW c1 bP
end
def kY(op:BinOp)(k:IntKind)(a b:Int):Option Value:=
 match op with
 | .add=>some (.int k (k.wrap (a+b)))
 | .sub=>some (.int k (k.wrap (a-b)))
 | .mul=>some (.int k (k.wrap (a*b)))
 | .quo=>if b=0 then none else some (.int k (k.wrap (a.tdiv b)))
 | .rem=>if b=0 then none else some (.int k (a.tmod b))
 | .and=>some (.int k (k.wrap (BitVec.ofInt k.bits a&&&BitVec.ofInt k.bits b).toNat))
 | .or=>some (.int k (k.wrap (BitVec.ofInt k.bits a ||| BitVec.ofInt k.bits b).toNat))
 | .xor=>some (.int k (k.wrap (BitVec.ofInt k.bits a^^^BitVec.ofInt k.bits b).toNat))
 | .eql=>some (.bool (a==b))
 | .neq=>some (.bool (a !=b))
 | .lss=>some (.bool (decide (a<b)))
 | .leq=>some (.bool (decide (a<=b)))
 | .gtr=>some (.bool (decide (a>b)))
 | .geq=>some (.bool (decide (a>=b)))
 | _=>none
def x3(op:BinOp)(k:IntKind)(a b:Int):Option Value:=
 if b<0 then none else
 match op with
 | .shl=>some (.int k (k.wrap (a*2^(min b.toNat k.bits))))
 | .shr=>some (.int k (a.fdiv (2^(min b.toNat k.bits))))
 | _=>none
def vy(op:BinOp)(a b:ByteArray):Option Value:=
 match op with
 | .add=>if a.size+b.size<=9223372036854775807 then some (.string (a++b))else none
 | .eql=>some (.bool (a.toList==b.toList))
 | .neq=>some (.bool !(a.toList==b.toList))
 | .lss=>some (.bool (Op.bytesLess a.toList b.toList))
 | _=>none
def vA(P:Program)(t:TypeId):Bool:=match P.underlying t with
 | some .bool=>true
 | _=>false
def jl(P:Program)(t:TypeId):Bool:=match P.underlying t with
 | some .string=>true
 | _=>false
theorem Pl{P:Program}{t:TypeId}{k:IntKind}(h:(match P.underlying t with | some (.int k)=>some k | _=>none)=some k):sR P t=true:=by
 unfold sR
 split at h
 ·rename_i b1 ah;first | rw[ah] | rfl
 ·cases h
def kL(P:Program)(t:TypeId):Option IntKind:=match P.underlying t with
 | some (.int k)=>some k
 | _=>none
def e1(P:Program)(t:TypeId):Option TypeId:=match P.underlying t with
 | some (.slice e)=>some e
 | _=>none
theorem SC{P:Program}{t:TypeId}(h:vA P t=true):P.underlying t=some .bool:=by
 unfold vA at h
 split at h
 ·assumption
 ·cases h
theorem xr{P:Program}{t:TypeId}(h:jl P t=true):P.underlying t=some .string:=by
 unfold jl at h
 split at h
 ·assumption
 ·cases h
theorem Pm{P:Program}{t:TypeId}{k:IntKind}(h:kL P t=some k):P.underlying t=some (.int k):=by
 unfold kL at h
 split at h
 ·obtain rfl:=Option.some.inj h;assumption
 ·cases h
theorem Ib{P:Program}{t e:TypeId}(h:e1 P t=some e):P.underlying t=some (.slice e):=by
 unfold e1 at h
 split at h
 ·obtain rfl:=Option.some.inj h;assumption
 ·cases h
def ej(P:Program)(op:BinOp)(t:TypeId)(x y:Value):Option Value:=
 match x,y with
 | .int k a,.int b1 b=>if op= .shl\/op= .shr then x3 op k a b else if k=b1 then kY op k a b else none
 | .string a,.string b=>vy op a b
 | .bool a,.bool b=>if vA P t=true then(match op with | .eql=>some (.bool (a==b)) | .neq=>some (.bool (!(a==b))) | _=>none)else none
 | .slice a n c,.slice none 0 0=>match e1 P t with
  | some _=>(match op with | .eql=>some (.bool a.isNone) | .neq=>some (.bool (!a.isNone)) | _=>none)
  | _=>none
 | _,_=>none
def qu(op:UnOp)(x:Value):Option Value:=
 match op,x with
 | .neg,.int k n=>some (.int k (k.wrap (0-n)))
 | .xor,.int k n=>some (.int k (k.wrap (BitVec.ofInt k.bits (if k.signed then-1 else k.max)^^^BitVec.ofInt k.bits n).toNat))
 | .not,.bool b=>some (.bool !b)
 | _,_=>none
section
variable {P:Program} {aS:Operand->Value} {U:Oper} {H:ad}
theorem qP{U:Oper}(h:∀x∈U.op.operands,flat (aS x)=true):(U.op.operands.all fun x=>flat (aS x))=true:=by
 rw[Array.all_eq_true']
 exact h
theorem Sv{op:BinOp}{k:IntKind}{a b:Int}{v:Value}(h:kY op k a b=some v)(t:TypeId):dK P (binOp op t (.int k a) (.int k b))=some v/\flat v=true:=by
 cases op<;>simp only[kY]at h<;>first
  | (cases h;done)
  | (split at h
     ·cases h
     ·rename_i af
      obtain rfl:=Option.some.inj h
      exact⟨by simp[binOp,Op.intDiv,af,fr],rfl⟩)
  | (obtain rfl:=Option.some.inj h
     exact⟨by simp[binOp,Op.intArith,Op.intBits,Op.intCmp,fr],rfl⟩)
theorem Sw{op:BinOp}{k b1:IntKind}{a b:Int}{v:Value}(cd:op= .shl\/op= .shr)(h:x3 op k a b=some v)(t:TypeId):dK P (binOp op t (.int k a) (.int b1 b))=some v/\flat v=true:=by
 unfold x3 at h
 split at h
 ·cases h
 ·rename_i af
  rcases cd with rfl | rfl
  ·simp only at h
   obtain rfl:=Option.some.inj h
   exact⟨by simp[binOp,Op.shift,af,fr],rfl⟩
  ·simp only at h
   obtain rfl:=Option.some.inj h
   exact⟨by simp[binOp,Op.shift,af,fr],rfl⟩
theorem Sx{op:BinOp}{a b:ByteArray}{v:Value}(h:vy op a b=some v)(t:TypeId):dK P (binOp op t (.string a) (.string b))=some v/\flat v=true:=by
 unfold vy at h
 split at h
 ·split at h
  ·rename_i ao
   obtain rfl:=Option.some.inj h
   have:¬((((a.size+b.size:Nat)):Int)>IntKind.i64.max):=by
    have:IntKind.i64.max=9223372036854775807:=by decide
    omega
   exact⟨by simp only[binOp,Op.stringOp,if_neg this];rfl,rfl⟩
  ·cases h
 ·obtain rfl:=Option.some.inj h
  exact⟨by simp[binOp,Op.stringOp,fr],rfl⟩
 ·obtain rfl:=Option.some.inj h
  exact⟨by simp[binOp,Op.stringOp,fr],rfl⟩
 ·obtain rfl:=Option.some.inj h
  exact⟨by simp[binOp,Op.stringOp,fr],rfl⟩
 ·cases h
theorem acn(d:Nat){t:TypeId}{a b:Bool}(hu:P.underlying t=some .bool):dK P (Op.equalIn (d+1) t (.bool a) (.bool b))=some (a==b):=by
 simp only[Op.equalIn,fX,pz,hu,Option.bind_some]
 rfl
theorem ac8{op:BinOp}{t qB:TypeId}{x y:Operand}{v:Value}(aW:U.op= .binOp op t x y qB)(h:ej P op t (aS x) (aS y)=some v):ic P aS U v:=by
 have key:∀{a b:Value},aS x=a->aS y=b->flat a=true->flat b=true->(∀u:Unit,dK P (eqGuard op t x y a b)=some ())->dK P (binOp op t a b)=some v->flat v=true->ic P aS U v:=by
  intro a b aL af o6 Wz a1 al an
  refine .pure (by simp[bZ,aW]) (qP fun z aQ=>?_) an ?_
  ·simp only[aW,Op.operands,List.mem_toArray,List.mem_cons,List.not_mem_nil,or_false]at aQ
   rcases aQ with rfl | rfl
   ·rw[aL];exact o6
   ·rw[af];exact Wz
  ·simp only[execOp,aW,aL,af,fX,a1 (),Option.bind_some,al,fr]
 unfold ej at h
 split at h
 ·rename_i k a b1 b o aa
  have a1:∀u:Unit,dK P (eqGuard op t x y (.int k a) (.int b1 b))=some ():=fun _=>by unfold eqGuard;split<;>rfl
  split at h
  ·rename_i cd
   obtain⟨aU,aO⟩:=Sw (P:=P) (b1:=b1) cd h t
   exact key o aa rfl rfl a1 aU aO
  ·split at h
   ·rename_i ah
    subst ah
    obtain⟨aU,aO⟩:=Sv (P:=P) h t
    exact key o aa rfl rfl a1 aU aO
   ·cases h
 ·rename_i a b o aa
  obtain⟨aU,aO⟩:=Sx (P:=P) h t
  exact key o aa rfl rfl (fun _=>by unfold eqGuard;split<;>rfl) aU aO
 ·rename_i a b o aa
  split at h
  ·rename_i hu
   have hu:=SC hu
   have a1:∀u:Unit,dK P (eqGuard op t x y (.bool a) (.bool b))=some ():=fun _=>by unfold eqGuard;split<;>rfl
   have he:dK P (Op.equal t (.bool a) (.bool b))=some (a==b):=acn 9999 hu
   split at h
   ·obtain rfl:=Option.some.inj h
    exact key o aa rfl rfl a1 (by simp only[binOp,fX,he,Option.bind_some,fr]) rfl
   ·obtain rfl:=Option.some.inj h
    exact key o aa rfl rfl a1 (by simp only[binOp,fX,he,Option.bind_some,fr]) rfl
   ·cases h
  ·cases h
 ·rename_i a n c o aa
  split at h
  ·rename_i e hu
   have hu:=Ib hu
   split at h
   ·obtain rfl:=Option.some.inj h
    exact .L8 aW hu o aa
   ·obtain rfl:=Option.some.inj h
    exact .P0 aW hu o aa
   ·cases h
  ·cases h
 ·cases h
theorem adM{op:UnOp}{t:TypeId}{x:Operand}{v:Value}(aW:U.op= .unOp op t x)(h:qu op (aS x)=some v):ic P aS U v:=by
 have key:∀{a:Value},aS x=a->flat a=true->dK P (Op.unary op a)=some v->flat v=true->ic P aS U v:=by
  intro a aL o6 al an
  refine .pure (by simp[bZ,aW]) (qP fun z aQ=>?_) an ?_
  ·simp only[aW,Op.operands,List.mem_toArray,List.mem_cons,List.not_mem_nil,or_false]at aQ
   subst aQ
   rw[aL];exact o6
  ·simp only[execOp,aW,aL,fX,al,Option.bind_some,fr]
 unfold qu at h
 split at h
 ·rename_i k n o
  obtain rfl:=Option.some.inj h
  exact key o rfl (by simp[Op.unary,Op.intArith,fr]) rfl
 ·rename_i k n o
  obtain rfl:=Option.some.inj h
  exact key o rfl (by simp[Op.unary,Op.intBits,fr]) rfl
 ·rename_i b o
  obtain rfl:=Option.some.inj h
  exact key o rfl (by simp[Op.unary,fr]) rfl
 ·cases h
end
def jt(H:ad)(b:Nat):Option (List Value):=(H[b]?).bind bN.cells?
def fG(P:Program)(s:TypeId)(f:Nat):Option Nat:=match P.underlying s with
 | some (.struct kA)=>(match kA[f]? with
  | some fd=>(match bu P fd.type with
   | some (_+1)=>some fd.offset
   | _=>none)
  | none=>none)
 | _=>none
theorem Ug{P:Program}{s:TypeId}{f off:Nat}(h:fG P s f=some off):∃kA fd n,P.underlying s=some (.struct kA)/\kA[f]?=some fd/\bu P fd.type=some (n+1)/\fd.offset=off:=by
 unfold fG at h
 split at h
 ·rename_i kA hu
  split at h
  ·rename_i fd aC
   split at h
   ·rename_i n ao
    exact⟨kA,fd,n,hu,aC,ao,by simpa using h⟩
   ·cases h
  ·cases h
 ·cases h
def pW(P:Program)(s:TypeId)(f:Nat):Option (Nat×Option Nat):=match P.underlying s with
 | some (.struct kA)=>(match kA[f]? with
  | some fd=>(match dk P fd.type with
   | some false=>some (fd.offset,none)
   | some true=>(bu P fd.type).map fun n=>(fd.offset,some n)
   | none=>none)
  | none=>none)
 | _=>none
def qM(cs:Array Value):Nat×Option Nat->Option Value
 | (off,none)=>cs[off]?
 | (off,some n)=>some (.agg (cs.extract off (off+n)))
theorem qq{P:Program}{α β:Type}(x:Sem α)(f:α->β):dK P (f<$>x)=(dK P x).map f:=by
 rw[map_eq_pure_bind,fX]
 cases dK P x<;>rfl
theorem Uf{P:Program}{s:TypeId}{f:Nat}{c:Nat×Option Nat}{cs:Array Value}{v:Value}(h:pW P s f=some c)(an:qM cs c=some v):dK P (Instr.field s (.agg cs) f)=some v:=by
 unfold pW at h
 split at h
 ·rename_i kA hu
  split at h
  ·rename_i fd aC
   simp only[Instr.field,fX,pz,hu,Option.bind_some,aC,asAgg,fr,part,Qm]
   unfold dk at h
   cases aA:P.underlying fd.type with
   | none=>simp[aA]at h
   | some d=>
    simp only[aA,Option.map_some]at h⊢
    cases d<;>simp only at h<;>first
     | (obtain rfl:=Option.some.inj h
        simp only[qM]at an
        simp[an,fr]
        done)
     | (obtain⟨n,aF,rfl⟩:=Option.map_eq_some_iff.1 h
        simp only[qM,Option.some.injEq]at an
        subst an
        simp[qq,z8,aF])
  ·cases h
 ·cases h
def s7(P:Program)(aS:Operand->Value)(H:ad):Callee->List Operand->List TypeId->Option (Value×ad)
 | .builtin .len,[x],[t]=>(match aS x with
  | .slice _ n _=>(match e1 P t with
   | some _=>some (.int .i64 n,H)
   | none=>none)
  | .string s=>if jl P t=true then some (.int .i64 s.size,H)else none
  | _=>none)
 | .builtin .max,[x,y],_=>(match aS x,aS y with
  | .int k a,.int _ b=>some (.int k (if b>a then b else a),H)
  | _,_=>none)
 | .builtin .min,[x,y],_=>(match aS x,aS y with
  | .int k a,.int _ b=>some (.int k (if b<a then b else a),H)
  | _,_=>none)
 | _,_,_=>none
def ca(P:Program)(aS:Operand->Value)(H:ad):Op->Option (Value×ad)
 | .move x=>some (aS x,H)
 | .assign x=>some (aS x,H)
 | .pick c a b=>(match aS c with
  | .bool t=>some (if t then aS a else aS b,H)
  | _=>none)
 | .alloc e=>(match dL P e with
  | some z=>if flat z=true/\(bu P e).isSome=true then some (.pointer (some ⟨H.length,0,none⟩),H++[.own e false z.cells.toList])else none
  | none=>none)
 | .box e x=>if(bu P e).isSome=true then some (.pointer (some ⟨H.length,0,none⟩),H++[.own e false (aS x).cells.toList])else none
 | .load ty x=>(match aS x with
  | .pointer (some ⟨b,i,none⟩)=>(match jt H b with
   | some cs=>(match dk P ty with
    | some false=>(cs[i]?).map fun v=>(v,H)
    | some true=>(match bu P ty with
     | some n=>if i+n<=cs.length then some (.agg ((cs.drop i).take n).toArray,H)else none
     | none=>none)
    | none=>none)
   | none=>none)
  | _=>none)
 | .store ty x y=>(match aS x with
  | .pointer (some ⟨b,i,none⟩)=>(match H[b]? with
   | some (.own e l cs)=>if bu P ty=some (aS y).cells.size/\i+(aS y).cells.size<=cs.length/\((aS y).cells.toList.all (·.oneCell'))=true then some (undef,H.set b (.own e l (dr cs i (aS y).cells.toList)))else none
   | _=>none)
  | _=>none)
 | .nilCheck x=>(match aS x with
  | .pointer (some a)=>some (.pointer (some a),H)
  | _=>none)
 | .binOp op t x y _=>(ej P op t (aS x) (aS y)).map fun v=>(v,H)
 | .unOp op _ x=>(qu op (aS x)).map fun v=>(v,H)
 | .convert src dst x=>(match aS x with
  | .int _ n=>(match kL P src,kL P dst with
   | some _,some k=>some (.int k (k.wrap n),H)
   | _,_=>none)
  | .string s=>if jl P src=true/\jl P dst=true then some (.string s,H)else none
  | _=>none)
 | .makeInterface t x=>if P.concrete t=true then some (.iface t (aS x),H)else none
 | .makeFunc fn a b=>some (.func fn (a.map aS) (b.map aS),H)
 | .fieldAddr s x f=>(match aS x with
  | .pointer (some ⟨b,i,none⟩)=>(fG P s f).map fun off=>(.pointer (some ⟨b,i+off,none⟩),H)
  | _=>none)
 | .field t x f=>(match aS x with
  | .agg cs=>(match pW P t f with
   | some c=>(qM cs c).map fun v=>(v,H)
   | none=>none)
  | _=>none)
 | .indexAddr t x ez=>(match aS x,aS ez with
  | .slice (some ⟨b,i,none⟩) len _,.int _ n=>(match e1 P t with
   | some e=>(match bu P e with
    | some R=>if 0<=n/\n<len then some (.pointer (some ⟨b,i+n.toNat*R,none⟩),H)else none
    | none=>none)
   | none=>none)
  | _,_=>none)
 | .index t x ez=>(match aS x,aS ez with
  | .string s,.int _ n=>if jl P t=true/\0<=n/\n<s.size then some (.int .u8 ((s.data.getD n.toNat 0).toNat:Int),H)else none
  | _,_=>none)
 | .extract x i=>(match aS x with
  | .tuple aH=>(aH[i]?).map fun v=>(v,H)
  | _=>none)
 | .build t aM=>(match dL P t with
  | some z=>if flat z=true then(dK P (Instr.build t (aM.map fun p=>(p.1,aS p.2)))).map fun v=>(v,H)else none
  | none=>none)
 | .call c=>s7 P aS H c.callee c.args.toList c.argTypes.toList
 | .slice t x bg ab none=>(match aS x with
  | .string s=>(match ea aS bg,fo aS s.size ab with
   | some l,some h=>if jl P t=true/\l<=h/\h<=s.size then some (.string (s.extract l h),H)else none
   | _,_=>none)
  | _=>none)
 | _=>none
theorem A9{H:ad}{b:Nat}{cs:List Value}(h:jt H b=some cs):∃X,H[b]?=some X/\X.cells?=some cs:=by
 unfold jt at h
 cases af:H[b]? with
 | none=>simp[af]at h
 | some X=>exact⟨X,rfl,by simpa[af]using h⟩
theorem zS{aS:Operand->Value}{x:Operand}{n d:Nat}(h:ea aS (some x)=some n\/fo aS d (some x)=some n):∃k m,aS x= .int k m/\0<=m/\m.toNat=n:=by
 simp only[ea,fo,or_self]at h
 split at h
 ·rename_i k m he
  split at h
  ·rename_i aG;exact⟨k,m,he,aG,by simpa using h⟩
  ·cases h
 ·cases h
theorem Df{P:Program}{k:IntKind}{n:Int}{y:Nat}{code:BoundsCode}(aG:0<=n)(o:n.toNat<=y):dK P (Instr.sliceBound (.int k n) y code)=some n.toNat:=by
 have:n<=(y:Int):=by omega
 simp only[Instr.sliceBound,asIntOf,fX,fr,Option.bind_some]
 rw[if_pos ⟨aG,this⟩]
 rfl
theorem An{P:Program}{ops:Array Oper}{U:Oper}{t:List Value}{H H1:ad}{v:Value}(hw:Region.wanted U (hp ops t)=true)(h:ca P (fD t) H U.op=some (v,H1)):ef P (.op ops U t H) (.val v H1):=by
 have F:bZ P U=true->ic P (fD t) U v->H1=H->ef P (.op ops U t H) (.val v H1):=fun aC a7 e=>e▸ .xc hw aC a7
 have M:bZ P U=false->fx P (fD t) H U v H1->ef P (.op ops U t H) (.val v H1):=fun aC eZ=> .sW hw aC eZ
 cases cd:U.op<;>rw[cd]at h<;>try (simp[ca]at h;done)
 case move x=>simp only[ca,Option.some.injEq,Prod.mk.injEq]at h;obtain⟨rfl,rfl⟩:=h;exact F (by simp[bZ,cd]) (.move cd) rfl
 case assign x=>simp only[ca,Option.some.injEq,Prod.mk.injEq]at h;obtain⟨rfl,rfl⟩:=h;exact F (by simp[bZ,cd]) (.assign cd) rfl
 case pick c a b=>
  simp only[ca]at h
  split at h
  ·rename_i rH ag
   simp only[Option.some.injEq,Prod.mk.injEq]at h
   obtain⟨rfl,rfl⟩:=h
   exact F (by simp[bZ,cd]) (.pick cd ag) rfl
  ·cases h
 case alloc e=>
  simp only[ca]at h
  split at h
  ·rename_i z aQ
   split at h
   ·rename_i ag
    simp only[Option.some.injEq,Prod.mk.injEq]at h
    obtain⟨rfl,rfl⟩:=h
    obtain⟨n,aF⟩:=Option.isSome_iff_exists.1 ag.2
    exact M (by simp[bZ,cd]) (.alloc cd aQ ag.1 aF)
   ·cases h
  ·cases h
 case box e x=>
  simp only[ca]at h
  split at h
  ·rename_i ag
   simp only[Option.some.injEq,Prod.mk.injEq]at h
   obtain⟨rfl,rfl⟩:=h
   obtain⟨n,aF⟩:=Option.isSome_iff_exists.1 ag
   exact M (by simp[bZ,cd]) (.box cd aF)
  ·cases h
 case load ty x=>
  simp only[ca]at h
  split at h
  ·rename_i b i J
   split at h
   ·rename_i cs gp
    obtain⟨X,aZ,ag⟩:=A9 gp
    split at h
    ·rename_i aL
     obtain⟨u,hu,he⟩:=Option.map_eq_some_iff.1 h
     simp only[Prod.mk.injEq]at he
     obtain⟨rfl,rfl⟩:=he
     exact M (by simp[bZ,cd]) (.zT cd aL J aZ ag hu)
    ·rename_i aL
     split at h
     ·rename_i n aF
      split at h
      ·rename_i bF
       simp only[Option.some.injEq,Prod.mk.injEq]at h
       obtain⟨rfl,rfl⟩:=h
       exact M (by simp[bZ,cd]) (.zU cd aL aF J aZ ag bF)
      ·cases h
     ·cases h
    ·cases h
   ·cases h
  ·cases h
 case store ty x y=>
  simp only[ca]at h
  split at h
  ·rename_i b i J
   split at h
   ·rename_i e l cs aZ
    split at h
    ·rename_i ag
     simp only[Option.some.injEq,Prod.mk.injEq]at h
     obtain⟨rfl,rfl⟩:=h
     exact M (by simp[bZ,cd]) (.store cd ag.1 J aZ ag.2.1 ag.2.2)
    ·cases h
   ·cases h
  ·cases h
 case nilCheck x=>
  simp only[ca]at h
  split at h
  ·rename_i a J
   simp only[Option.some.injEq,Prod.mk.injEq]at h
   obtain⟨rfl,rfl⟩:=h
   exact F (by simp[bZ,cd]) (J▸ .nilCheck cd J) rfl
  ·cases h
 case binOp op ty x y qB=>
  simp only[ca]at h
  obtain⟨u,hu,he⟩:=Option.map_eq_some_iff.1 h
  simp only[Prod.mk.injEq]at he
  obtain⟨rfl,rfl⟩:=he
  exact F (by simp[bZ,cd]) (ac8 cd hu) rfl
 case unOp op ty x=>
  simp only[ca]at h
  obtain⟨u,hu,he⟩:=Option.map_eq_some_iff.1 h
  simp only[Prod.mk.injEq]at he
  obtain⟨rfl,rfl⟩:=he
  exact F (by simp[bZ,cd]) (adM cd hu) rfl
 case convert src dst x=>
  simp only[ca]at h
  split at h
  ·rename_i gP n J
   split at h
   ·rename_i j2 k ao aA
    simp only[Option.some.injEq,Prod.mk.injEq]at h
    obtain⟨rfl,rfl⟩:=h
    have NJ:bZ P U=true:=by simp[bZ,cd,Pl ao,Pl aA]
    refine F NJ (.pure NJ (qP fun z aQ=>?_) rfl ?_) rfl
    ·simp only[cd,Op.operands,List.mem_toArray,List.mem_cons,List.not_mem_nil,or_false]at aQ
     subst aQ
     rw[J];rfl
    ·simp only[execOp,cd,J,fX,convert,pz,Pm ao,Pm aA,Option.bind_some,Conv.intToInt,fr]
   ·cases h
  ·rename_i s J
   split at h
   ·rename_i ag
    simp only[Option.some.injEq,Prod.mk.injEq]at h
    obtain⟨rfl,rfl⟩:=h
    refine M (by simp[bZ,cd,sR,xr ag.1]) (.uU (by simp[cd]) (qP fun z aQ=>?_) rfl ?_)
    ·simp only[cd,Op.operands,List.mem_toArray,List.mem_cons,List.not_mem_nil,or_false]at aQ
     subst aQ
     rw[J];rfl
    ·simp only[execOp,cd,J,fX,convert,pz,xr ag.1,xr ag.2,Option.bind_some,fr]
   ·cases h
  ·cases h
 case makeInterface ty x=>
  simp only[ca]at h
  split at h
  ·rename_i ag
   simp only[Option.some.injEq,Prod.mk.injEq]at h
   obtain⟨rfl,rfl⟩:=h
   exact F (by simp[bZ,cd]) (.PK cd ag) rfl
  ·cases h
 case makeFunc fn a b=>simp only[ca,Option.some.injEq,Prod.mk.injEq]at h;obtain⟨rfl,rfl⟩:=h;exact F (by simp[bZ,cd]) (.makeFunc cd) rfl
 case fieldAddr s x f=>
  simp only[ca]at h
  split at h
  ·rename_i b i J
   obtain⟨off,Xw,he⟩:=Option.map_eq_some_iff.1 h
   simp only[Prod.mk.injEq]at he
   obtain⟨rfl,rfl⟩:=he
   obtain⟨kA,fd,n,aU,aO,bw,rfl⟩:=Ug Xw
   exact F (by simp[bZ,cd]) (.fieldAddr cd aU aO bw J) rfl
  ·cases h
 case field ty x f=>
  simp only[ca]at h
  split at h
  ·rename_i cs J
   split at h
   ·rename_i c ag
    obtain⟨u,hu,he⟩:=Option.map_eq_some_iff.1 h
    simp only[Prod.mk.injEq]at he
    obtain⟨rfl,rfl⟩:=he
    exact F (by simp[bZ,cd]) (.field cd J (Uf ag hu)) rfl
   ·cases h
  ·cases h
 case indexAddr ty x ez=>
  simp only[ca]at h
  split at h
  ·rename_i b i len cap k n J ab
   split at h
   ·rename_i e he
    split at h
    ·rename_i R ao
     split at h
     ·rename_i ag
      simp only[Option.some.injEq,Prod.mk.injEq]at h
      obtain⟨rfl,rfl⟩:=h
      exact F (by simp[bZ,cd]) (.Pj cd (Ib he) ao J ab ag.1 ag.2) rfl
     ·cases h
    ·cases h
   ·cases h
  ·cases h
 case index ty x ez=>
  simp only[ca]at h
  split at h
  ·rename_i s k n J ab
   split at h
   ·rename_i ag
    simp only[Option.some.injEq,Prod.mk.injEq]at h
    obtain⟨rfl,rfl⟩:=h
    refine F (by simp[bZ,cd]) (.pure (by simp[bZ,cd]) (qP fun z aQ=>?_) rfl ?_) rfl
    ·simp only[cd,Op.operands,List.mem_toArray,List.mem_cons,List.not_mem_nil,or_false]at aQ
     rcases aQ with rfl | rfl
     ·rw[J];rfl
     ·rw[ab];rfl
    ·have a3:n.toNat<s.size:=by omega
     have bn:s[n.toNat]?=some (s.data.getD n.toNat 0):=by
      have:s[n.toNat]?=some s[n.toNat]:=by simp[a3]
      rw[this]
      have kn:n.toNat<s.data.size:=a3
      simp only[Array.getD_eq_getD_getElem?,Array.getElem?_eq_getElem kn,Option.getD_some]
      rfl
     simp only[execOp,cd,J,ab,fX,Instr.index,asIntOf,fr,Option.bind_some,pz,xr ag.1,if_pos ag.2.1,bn]
   ·cases h
  ·cases h
 case extract x i=>
  simp only[ca]at h
  split at h
  ·rename_i aH J
   obtain⟨u,hu,he⟩:=Option.map_eq_some_iff.1 h
   simp only[Prod.mk.injEq]at he
   obtain⟨rfl,rfl⟩:=he
   exact F (by simp[bZ,cd]) (.extract cd J hu) rfl
  ·cases h
 case build ty aM=>
  simp only[ca]at h
  split at h
  ·rename_i z aQ
   split at h
   ·rename_i aC
    obtain⟨u,hu,he⟩:=Option.map_eq_some_iff.1 h
    simp only[Prod.mk.injEq]at he
    obtain⟨rfl,rfl⟩:=he
    exact F (by simp[bZ,cd]) (.build cd aQ aC hu) rfl
   ·cases h
  ·cases h
 case slice ty x bg ab fH=>
  cases fH with
  | some m=>simp only[ca]at h;cases h
  | none=>
   simp only[ca]at h
   split at h
   ·rename_i s J
    split at h
    ·rename_i l db au iF
     split at h
     ·rename_i ag
      simp only[Option.some.injEq,Prod.mk.injEq]at h
      obtain⟨rfl,rfl⟩:=h
      refine M (by simp[bZ,cd]) (.uU (by simp[cd]) (qP fun z aQ=>?_) rfl ?_)
      ·simp only[cd,Op.operands]at aQ
       have aQ:z=x\/bg=some z\/ab=some z:=by
        cases bg<;>cases ab<;>simp at aQ⊢<;>first | (rcases aQ with rfl | rfl | rfl<;>simp;done) | (rcases aQ with rfl | rfl<;>simp;done) | (subst aQ;simp;done) | (rcases aQ with rfl | aQ)<;>first | (rcases aQ with rfl | rfl<;>simp;done) | (subst aQ;simp;done) | (simp;done) | skip
       rcases aQ with rfl | rfl | rfl
       ·rw[J];rfl
       ·obtain⟨k,m,e,-⟩:=zS (d:=0) (.inl au);rw[e];rfl
       ·obtain⟨k,m,e,-⟩:=zS (.inr iF);rw[e];rfl
      ·have af:dK P (Instr.sliceBounds false s.size s.size (bg.map (fD t)) (ab.map (fD t)) none)=some (l,db,s.size):=by
        unfold Instr.sliceBounds
        cases ab with
        | none=>
         have:s.size=db:=by simpa[fo]using iF
         subst this
         cases bg with
         | none=>
          have:0=l:=by simpa[ea]using au
          subst this
          simp[fX,fr]
         | some y=>
          obtain⟨k,m,e,aG,rfl⟩:=zS (d:=0) (.inl au)
          simp[e,fX,qq,fr,Df (P:=P) (k:=k) aG ag.2.1]
        | some z=>
         obtain⟨b1,ny,c0,r8,rfl⟩:=zS (.inr iF)
         cases bg with
         | none=>
          have:0=l:=by simpa[ea]using au
          subst this
          simp[c0,fX,qq,fr,Df (P:=P) (k:=b1) r8 ag.2.2]
         | some y=>
          obtain⟨k,m,e,aG,rfl⟩:=zS (d:=0) (.inl au)
          simp[e,c0,fX,qq,fr,Df (P:=P) (k:=b1) r8 ag.2.2,Df (P:=P) (k:=k) aG ag.2.1]
       simp only[execOp,cd,J,fX,Instr.sliceAt,Instr.slice,pz,xr ag.1,Option.bind_some,Option.map_none]
       simp[af,fX,qq,fr]
     ·cases h
    ·cases h
   ·cases h
 case call c=>
  obtain⟨callee,args,lX⟩:=c
  simp only[ca]at h
  unfold s7 at h
  split at h
  ·rename_i x ty t_ V5
   obtain rfl:args= #[x]:=by apply Array.ext';simpa using t_
   obtain rfl:lX= #[ty]:=by apply Array.ext';simpa using V5
   split at h
   ·rename_i a n eV J
    split at h
    ·rename_i e he
     simp only[Option.some.injEq,Prod.mk.injEq]at h
     obtain⟨rfl,rfl⟩:=h
     exact F (by simp[bZ,cd]) (.Pw cd (Ib he) J) rfl
    ·cases h
   ·rename_i s J
    split at h
    ·rename_i ao
     simp only[Option.some.injEq,Prod.mk.injEq]at h
     obtain⟨rfl,rfl⟩:=h
     refine F (by simp[bZ,cd]) (.pure (by simp[bZ,cd]) (qP fun z aQ=>?_) rfl ?_) rfl
     ·simp[cd,Op.operands,Call.operands]at aQ
      subst aQ;rw[J];rfl
     ·simp[execOp,cd,resolve,J,invoke,builtin,Builtin.len_,fX,qq,fr,pz,xr ao,goInt]
    ·cases h
   ·cases h
  ·rename_i x y t_
   obtain rfl:args= #[x,y]:=by apply Array.ext';simpa using t_
   split at h
   ·rename_i k a b1 b J aP
    simp only[Option.some.injEq,Prod.mk.injEq]at h
    obtain⟨rfl,rfl⟩:=h
    refine F (by simp[bZ,cd]) (.pure (by simp[bZ,cd]) (qP fun z aQ=>?_) rfl ?_) rfl
    ·simp[cd,Op.operands,Call.operands]at aQ
     rcases aQ with rfl | rfl
     ·rw[J];rfl
     ·rw[aP];rfl
    ·simp[execOp,cd,resolve,J,aP,invoke,builtin,Builtin.max_,Builtin.max2,fX,qq,fr]
   ·cases h
  ·rename_i x y t_
   obtain rfl:args= #[x,y]:=by apply Array.ext';simpa using t_
   split at h
   ·rename_i k a b1 b J aP
    simp only[Option.some.injEq,Prod.mk.injEq]at h
    obtain⟨rfl,rfl⟩:=h
    refine F (by simp[bZ,cd]) (.pure (by simp[bZ,cd]) (qP fun z aQ=>?_) rfl ?_) rfl
    ·simp[cd,Op.operands,Call.operands]at aQ
     rcases aQ with rfl | rfl
     ·rw[J];rfl
     ·rw[aP];rfl
    ·simp[execOp,cd,resolve,J,aP,invoke,builtin,Builtin.min_,Builtin.min2,fX,qq,fr]
   ·cases h
  ·cases h
def gt(t:List Value)(i:Nat):Value:=t.getD i undef
theorem Uu{t:List Value}{i:Nat}(v:Value)(h:i<t.length):gt (t.set i v) i=v:=by simp[gt,List.getD_eq_getElem?_getD,h]
theorem Ut{t:List Value}{i j:Nat}(v:Value)(h:i≠j):gt (t.set i v) j=gt t j:=by simp[gt,List.getD_eq_getElem?_getD,List.getElem?_set,h]
theorem Uv(t:List Value)(i j:Nat)(v:Value):gt (t.set i v) j=if i=j then(if i<t.length then v else gt t j)else gt t j:=by
 by_cases h:i=j
 ·subst h
  rw[if_pos rfl]
  split
  ·rename_i au;exact Uu v au
  ·rename_i au;simp[gt,List.getD_eq_getElem?_getD,au]
 ·rw[if_neg h];exact Ut v h
def hy:Value->Option Bool
 | .bool b=>some b
 | _=>none
theorem Q4(ops:Array Oper)(t:List Value)(j:Nat):hp ops t j=match(ops[j]?).bind (·.dst)with | some d=>hy (gt t d) | none=>none:=by
 unfold hp
 cases(ops[j]?).bind (·.dst)with
 | none=>rfl
 | some d=>
  simp only[Option.bind_some]
  by_cases h: @LT.lt Nat _ d t.length
  ·rw[bs h]
   simp only[gt,List.getD_eq_getElem?_getD,bs h,Option.getD_some]
   unfold hy
   cases t[d]<;>rfl
  ·rw[List.getElem?_eq_none (Nat.le_of_not_lt h)]
   simp only[gt,List.getD_eq_getElem?_getD,List.getElem?_eq_none (Nat.le_of_not_lt h),Option.getD_none]
   rfl
def AH(P:Program)(g:FuncId):Prop:=∃fn,P.funcs[g]?=some fn/\(fn.name== "runtime.NumGoroutine")=false/\fn.body.isSome=true
def R9(P:Program)(f:FuncId)(args:List Value)(v:Value):Prop:=args.all hd=true/\flat v=true/\dK P (callFunc f args.toArray)=some (.value v)
def aX(P:Program)(f:FuncId)(args:List Value)(H:ad)(Q:Value->ad->Prop):Prop:=∃v H1,((AH P f/\ef P (.call f args H) (.val v H1))\/(R9 P f args v/\H1=H))/\Q v H1
def D4(P:Program)(c:Code)(t:List Value)(H:ad)(Q:dS->List Value->ad->Prop):Prop:=∃e t1 H1,ef P (.code c t H) (.code e t1 H1)/\Q e t1 H1
theorem aX.mono{P:Program}{f:FuncId}{args:List Value}{H:ad}{Q cu:Value->ad->Prop}(h:aX P f args H Q)(aq:∀v H1,Q v H1->cu v H1):aX P f args H cu:=by
 obtain⟨v,H1,al,an⟩:=h
 exact⟨v,H1,al,aq _ _ an⟩
def iw:Op->Bool
 | .store .. =>true
 | _=>false
def D6(P:Program)(ops:Array Oper)(draw:Bool)(k:Nat)(s:Bool):Prop:=draw=true->s=true->eU P ops k=true
def AI(P:Program)(ops:Array Oper)(draw:Bool)(k:Nat)(H H1:ad):Prop:=draw=true->eU P ops k=true\/Ext H H1
def xQ(P:Program)(ops:Array Oper)(draw:Bool)(k:Nat)(U:Oper)(t:List Value)(H:ad)(K:List Value->ad->Prop):Op->Prop
 | .call {callee:= .value f,args,.. }=>(match fD t f with
  | .func (.func g) first cap=>aX P g (first.toList++args.toList.map (fD t)++cap.toList) H fun v H1=>AI P ops draw k H H1/\K (fu t U.dst v) H1
  | _=>False)
 | op=>(match ca P (fD t) H op with
  | some (v,H1)=>D6 P ops draw k (iw op)/\K (fu t U.dst v) H1
  | none=>∃v H1,bZ P U=false/\fx P (fD t) H U v H1/\AI P ops draw k H H1/\K (fu t U.dst v) H1)
def pO(P:Program)(ops:Array Oper)(draw:Bool):Nat->List Oper->List Value->ad->(List Value->ad->Prop)->Prop
 | _,[],t,H,Q=>Q t H
 | k,U::rest,t,H,Q=>if Region.wanted U (hp ops t)=true then xQ P ops draw k U t H (fun t1 H1=>pO P ops draw (k+1) rest t1 H1 Q) U.op else pO P ops draw (k+1) rest (fu t U.dst undef) H Q
def ft(P:Program)(K:List Value->ad->Prop)(Q:dS->List Value->ad->Prop):dS->List Value->ad->Prop
 | .normal,t,H=>K t H
 | e,t,H=>Q e t H
def Et(id:Nat)(Q:dS->List Value->ad->Prop):dS->List Value->ad->Prop
 | .exit iv,t,H=>if iv=id then Q .normal t H else Q (.exit iv) t H
 | e,t,H=>Q e t H
def hc(P:Program)(U:Bool)(aS:Operand->Value)(H:ad)(ae W:List Nat)(K:Value->ad->List Nat->List Nat->Prop):Op->Prop
 | .load ty x=>(match aS x with
  | .pointer (some ⟨b,_,none⟩)=>b∉W/\(match ca P aS H (.load ty x)with | some (v,H1)=>K v H1 (b::ae) W | none=>False)
  | _=>False)
 | .store ty x y=>(match aS x with
  | .pointer (some ⟨b,_,none⟩)=>(U=true\/(b∉W/\b∉ae))/\(match ca P aS H (.store ty x y)with | some (v,H1)=>K v H1 ae (if U=true then W else b::W) | none=>False)
  | _=>False)
 | op=>(match ca P aS H op with | some (v,H1)=>K v H1 ae W | none=>False)
def Hr(P:Program)(ops:Array Oper):Bool:=ops.all fun U=>bZ P U || (match U.op with | .load .. =>true | .store .. =>true | _=>false)
def pN(P:Program)(ops:Array Oper):Nat->List Oper->List Value->ad->List Nat->List Nat->(List Value->ad->Prop)->Prop
 | _,[],t,H,_,_,Q=>Q t H
 | k,U::rest,t,H,ae,W,Q=>if Region.wanted U (hp ops t)=true then hc P (eU P ops k) (fD t) H ae W (fun v H1 gd gf=>pN P ops (k+1) rest (fu t U.dst v) H1 gd gf Q) U.op else pN P ops (k+1) rest (fu t U.dst undef) H ae W Q
def Bc(ops:Array Oper):Bool:=ops.all fun U=>U.op.operands.all od
def lN(P:Program):Code->List Value->ad->(dS->List Value->ad->Prop)->Prop
 | .skip,t,H,Q=>Q .normal t H
 | .ret,t,H,Q=>Q .ret t H
 | .exit id,t,H,Q=>Q (.exit id) t H
 | .seq a b,t,H,Q=>lN P a t H (ft P (fun t1 H1=>lN P b t1 H1 Q) Q)
 | .cond c x y,t,H,Q=>od c=true/\(match fD t c with
  | .bool b=>if b=true then lN P x t H Q else lN P y t H Q
  | _=>False)
 | .block id c,t,H,Q=>lN P c t H (Et id Q)
 | .loop c,t,H,Q=>D4 P (.loop c) t H Q
 | .region id ops draw,t,H,Q=>(Bc ops=true/\(draw=true->ha ops=true)/\pO P ops draw 0 ops.toList t H (fun t1 H1=>Q .normal t1 H1))\/(Bc ops=true/\ha ops=true/\Hr P ops=true/\pN P ops 0 ops.toList t H [] [] (fun t1 H1=>Q .normal t1 H1))
 | _,_,_,_=>False
section
variable {P:Program}
theorem adw{aS:Operand->Value}{H H1:ad}{op:Op}{v:Value}(h:ca P aS H op=some (v,H1))(ao:iw op=false):Ext H H1:=by
 have same:H1=H->Ext H H1:=fun e=>e▸Ext.refl H
 have one:∀{e:TypeId} {l:Bool} {cs:List Value},H1=H++[.own e l cs]->Ext H H1:=fun{e l cs} he=>⟨[.own e l cs],he,fun x J c0 eQ=>by simp at J;subst J;simp⟩
 cases op<;>simp only[ca]at h<;>try (first | (simp at h;done) | (cases ao;done))
 case move=>simp at h;exact same h.2.symm
 case assign=>simp at h;exact same h.2.symm
 case pick=>split at h<;>simp at h;exact same h.2.symm
 case alloc=>
  split at h
  ·split at h
   ·simp at h;exact one h.2.symm
   ·cases h
  ·cases h
 case box=>
  split at h
  ·simp at h;exact one h.2.symm
  ·cases h
 case load=>
  split at h
  ·split at h
   ·split at h
    ·obtain⟨u,hu,he⟩:=Option.map_eq_some_iff.1 h;simp at he;exact same he.2.symm
    ·split at h
     ·split at h
      ·simp at h;exact same h.2.symm
      ·cases h
     ·cases h
    ·cases h
   ·cases h
  ·cases h
 case nilCheck=>split at h<;>simp at h;exact same h.2.symm
 case binOp=>obtain⟨u,hu,he⟩:=Option.map_eq_some_iff.1 h;simp at he;exact same he.2.symm
 case unOp=>obtain⟨u,hu,he⟩:=Option.map_eq_some_iff.1 h;simp at he;exact same he.2.symm
 case convert=>
  split at h
  ·split at h<;>simp at h;exact same h.2.symm
  ·split at h<;>simp at h;exact same h.2.symm
  ·cases h
 case makeInterface=>split at h<;>simp at h;exact same h.2.symm
 case makeFunc=>simp at h;exact same h.2.symm
 case fieldAddr=>
  split at h
  ·obtain⟨u,hu,he⟩:=Option.map_eq_some_iff.1 h;simp at he;exact same he.2.symm
  ·cases h
 case field=>
  split at h
  ·split at h
   ·obtain⟨u,hu,he⟩:=Option.map_eq_some_iff.1 h;simp at he;exact same he.2.symm
   ·cases h
  ·cases h
 case indexAddr=>
  split at h
  ·split at h
   ·split at h
    ·split at h<;>simp at h;exact same h.2.symm
    ·cases h
   ·cases h
  ·cases h
 case index=>split at h;(split at h<;>simp at h;exact same h.2.symm);cases h
 case extract=>
  split at h
  ·obtain⟨u,hu,he⟩:=Option.map_eq_some_iff.1 h;simp at he;exact same he.2.symm
  ·cases h
 case build=>
  split at h
  ·split at h
   ·obtain⟨u,hu,he⟩:=Option.map_eq_some_iff.1 h;simp at he;exact same he.2.symm
   ·cases h
  ·cases h
 case call c=>
  unfold s7 at h
  split at h
  ·split at h
   ·split at h<;>simp at h;exact same h.2.symm
   ·split at h<;>simp at h;exact same h.2.symm
   ·cases h
  ·split at h<;>simp at h;exact same h.2.symm
  ·split at h<;>simp at h;exact same h.2.symm
  ·cases h
 case slice ty x bg ab fH=>
  cases fH with
  | some m=>simp at h
  | none=>
   simp only at h
   split at h
   ·split at h
    ·split at h<;>simp at h;exact same h.2.symm
    ·cases h
   ·cases h
theorem ab6{ops:Array Oper}{draw:Bool}{k:Nat}{U:Oper}{t:List Value}{H:ad}{K:List Value->ad->Prop}(hw:Region.wanted U (hp ops t)=true)(h:xQ P ops draw k U t H K U.op):
  ∃v H1,ef P (.op ops U t H) (.val v H1)/\(draw=true->bZ P U=false->eU P ops k=true\/Ext H H1)/\K (fu t U.dst v) H1:=by
 have other:(match ca P (fD t) H U.op with
  | some (v,H1)=>D6 P ops draw k (iw U.op)/\K (fu t U.dst v) H1
  | none=>∃v H1,bZ P U=false/\fx P (fD t) H U v H1/\AI P ops draw k H H1/\K (fu t U.dst v) H1)->∃v H1,ef P (.op ops U t H) (.val v H1)/\(draw=true->bZ P U=false->eU P ops k=true\/Ext H H1)/\K (fu t U.dst v) H1:=by
  intro h
  split at h
  ·rename_i v H1 ao
   refine⟨v,H1,An hw ao,fun aA _=>?_,h.2⟩
   cases c3:iw U.op with
   | true=>exact .inl (h.1 aA c3)
   | false=>exact .inr (adw ao c3)
  ·obtain⟨v,H1,aC,hm,he,a4⟩:=h
   exact⟨v,H1,.sW hw aC hm,fun aA _=>he aA,a4⟩
 cases cd:U.op<;>rw[cd]at h other<;>try (exact other h)
 rename_i c
 obtain⟨callee,args,lX⟩:=c
 cases callee with
 | invoke r m=>exact other h
 | builtin b=>exact other h
 | value f=>
  simp only[xQ]at h
  split at h
  ·rename_i g first cap aC
   obtain⟨v,H1,⟨⟨fn,o,aa,aE⟩,al⟩ | ⟨⟨aL,an,aK⟩,rfl⟩,he,a4⟩:=h
   ·exact⟨v,H1,.xb hw (by simp[bZ,cd]) cd aC o aa aE al,fun aA _=>he aA,a4⟩
   ·refine⟨v,H1,.sW hw (by simp[bZ,cd]) (.uU (by simp[cd]) ?_ an ?_),fun aA _=>he aA,a4⟩
    ·simp only[List.all_append,Bool.and_eq_true,List.all_map]at aL
     have o:first.all hd=true:=by simpa using aL.1.1
     have aa:cap.all hd=true:=by simpa using aL.2
     have aE:∀x∈args,flat (fD t x)=true:=fun x J=>by
      have:=List.all_eq_true.1 aL.1.2 x (by simpa using J)
      simp only[Function.comp]at this
      simp[flat,this]
     simp only[cd,Op.operands,Call.operands]
     have aG:flat (fD t f)=true:=by rw[aC];simp[flat,o,aa]
     refine Array.all_eq_true'.2 fun x J=>?_
     rcases Array.mem_append.1 J with J | J
     ·simp at J;subst J;exact aG
     ·exact aE x J
    ·have:(first.toList++args.toList.map (fD t)++cap.toList).toArray=first++args.map (fD t)++cap:=by apply Array.ext';simp
     rw[this]at aK
     simp only[execOp,cd,resolve,aC,Deferred.ofValue,invoke]
     exact aK
  ·exact h.elim
theorem P9{ops:Array Oper}{draw:Bool}{Q:List Value->ad->Prop}:∀(rest:List Oper) (k:Nat) (t:List Value) (H:ad),(∀i,rest[i]?=ops[k+i]?)->pO P ops draw k rest t H Q->
  ∃(T:Nat->List Value) (V:Nat->Value) (a6:Nat->ad),T k=t/\a6 k=H/\(∀i U,k<=i->ops[i]?=some U->ef P (.op ops U (T i) (a6 i)) (.val (V i) (a6 (i+1)))/\T (i+1)=fu (T i) U.dst (V i)/\(draw=true->bZ P U=false->eU P ops i=true\/Ext (a6 i) (a6 (i+1))))/\
   Q (T (k+rest.length)) (a6 (k+rest.length))
 | [],k,t,H,al,h=>by
  refine⟨fun _=>t,fun _=>undef,fun _=>H,rfl,rfl,fun i U fB aW=>?_,by simpa[pO]using h⟩
  have o:ops.size<=k:=by
   have:=al 0
   simp at this
   exact this
  have aa:=(Array.getElem?_eq_some_iff.1 aW).1
  omega
 | U::rest,k,t,H,al,h=>by
  have aW:ops[k]?=some U:=by have:=al 0;simpa using this.symm
  have fW:∀i,rest[i]?=ops[k+1+i]?:=fun i=>by have:=al (i+1);simp at this;rw[this];congr 1;omega
  obtain⟨v,H1,aU,aO,bw⟩:∃v H1,ef P (.op ops U t H) (.val v H1)/\(draw=true->bZ P U=false->eU P ops k=true\/Ext H H1)/\pO P ops draw (k+1) rest (fu t U.dst v) H1 Q:=by
   simp only[pO]at h
   split at h
   ·rename_i hw;exact ab6 hw h
   ·rename_i hw
    exact⟨undef,H,.uW (by simpa using hw),fun _ _=> .inr (Ext.refl H),h⟩
  obtain⟨T,V,a6,ec,fs,hP,mo⟩:=P9 rest (k+1) _ H1 fW bw
  refine⟨fun i=>if i<=k then t else T i,fun i=>if i<=k then v else V i,fun i=>if i<=k then H else a6 i,by simp,by simp,fun i la fB fN=>?_,?_⟩
  ·by_cases ue:i=k
   ·subst ue
    rw[aW]at fN
    obtain rfl:=Option.some.inj fN
    simp only[Nat.le_refl,if_true,show¬(i+1<=i) by omega,if_false,ec,fs]
    exact⟨aU,trivial,aO⟩
   ·simp only[show¬(i<=k) by omega,show¬(i+1<=k) by omega,if_false]
    exact hP i la (by omega) fN
  ·have e:k+(U::rest).length=k+1+rest.length:=by simp;omega
   rw[e]
   simp only[show¬(k+1+rest.length<=k) by omega,if_false]
   exact mo
theorem QV{ops:Array Oper}{U:Oper}{t:List Value}{H H1:ad}{v:Value}(hw:Region.wanted U (hp ops t)=true)(aC:bZ P U=false)(ag:∀c,U.op≠ .call c)(h:ca P (fD t) H U.op=some (v,H1)):fx P (fD t) H U v H1:=by
 have al:=An (ops:=ops) hw h
 cases al with
 | uW sK=>rw[hw]at sK;cases sK
 | xc _ a7 _=>rw[aC]at a7;cases a7
 | sW _ _ hm=>exact hm
 | xb _ _ aW=>exact absurd aW (ag _)
theorem abu{ops:Array Oper}{U:Oper}{t:List Value}{H:ad}{ae W:List Nat}{K:Value->ad->List Nat->List Nat->Prop}(hw:Region.wanted U (hp ops t)=true)(af:(bZ P U || (match U.op with | .load .. =>true | .store .. =>true | _=>false))=true){Eu:Bool}(h:hc P Eu (fD t) H ae W K U.op):
  ∃v H1 gd gf g,ef P (.op ops U t H) (.val v H1)/\pM P ops U t H v H1 g/\K v H1 gd gf/\((g=none/\gd=ae/\gf=W)\/(∃b,g=some (b,none)/\b∉W/\gd=b::ae/\gf=W)\/∃b x,g=some (b,some x)/\(Eu=true\/(b∉W/\b∉ae))/\gd=ae/\gf=if Eu=true then W else b::W):=by
 cases cd:U.op with
 | load ty x=>
  rw[cd]at h
  have aC:bZ P U=false:=by simp[bZ,cd]
  simp only[hc]at h
  split at h
  ·rename_i b i J
   obtain⟨FL,h⟩:=h
   split at h
   ·rename_i v H1 ao
    have n1:=ao
    simp only[ca,J]at ao
    cases gp:jt H b with
    | none=>rw[gp]at ao;cases ao
    | some cs=>
     obtain⟨X,aZ,VU⟩:=A9 gp
     have UN:H1=H:=by
      rw[gp]at ao
      simp only at ao
      split at ao
      ·obtain⟨u,hu,he⟩:=Option.map_eq_some_iff.1 ao;simp at he;exact he.2.symm
      ·split at ao
       ·split at ao
        ·simp at ao;exact ao.2.symm
        ·cases ao
       ·cases ao
      ·cases ao
     subst UN
     have W8:H1[b]?≠some .dead:=fun e=>by rw[aZ]at e;simp at e;subst e;simp[bN.cells?]at VU
     refine⟨v,H1,b::ae,W,some (b,none),An hw (by rw[cd];exact n1),⟨hw,aC,(cn.1 aZ).1,W8,rfl,fun aI tQ=>?_⟩,h,.inr (.inl ⟨b,rfl,FL,rfl,rfl⟩)⟩
     refine QV (ops:=ops) hw aC (by simp[cd]) ?_
     rw[cd]
     have:jt aI b=jt H1 b:=by unfold jt;rw[tQ]
     rw[gp]at ao
     simp only[ca,J,this,gp,nx]
     revert ao
     cases dk P ty with
     | none=>simp
     | some g=>
      cases g with
      | false=>
       simp only
       cases cs[i]?<;>simp
      | true=>
       simp only
       cases bu P ty with
       | none=>simp
       | some n=>
        simp only
        split<;>simp
   ·exact h.elim
  ·exact h.elim
 | store ty x y=>
  rw[cd]at h
  have aC:bZ P U=false:=by simp[bZ,cd]
  simp only[hc]at h
  split at h
  ·rename_i b i J
   obtain⟨FL,h⟩:=h
   split at h
   ·rename_i v H1 ao
    have n1:=ao
    simp only[ca,J]at ao
    split at ao
    ·rename_i e l cs aZ
     split at ao
     ·rename_i yU
      simp only[Option.some.injEq,Prod.mk.injEq]at ao
      obtain⟨rfl,rfl⟩:=ao
      refine⟨_,_,ae,_,some (b,some (.own e l (dr cs i (fD t y).cells.toList))),An hw (by rw[cd];exact n1),⟨hw,aC,(cn.1 aZ).1,by rw[aZ];simp,rfl,fun aI tQ=>?_⟩,h,.inr (.inr ⟨b,_,rfl,FL,rfl,rfl⟩)⟩
      refine QV (ops:=ops) hw aC (by simp[cd]) ?_
      rw[cd]
      simp only[ca,J,tQ,aZ,nx]
      rw[if_pos yU]
     ·cases ao
    ·cases ao
   ·exact h.elim
  ·exact h.elim
 | _=>
  have a7:bZ P U=true:=by simpa[cd]using af
  rw[cd]at h
  simp only[hc]at h
  split at h
  ·rename_i v H1 ao
   have al:=An (ops:=ops) hw (by rw[cd];exact ao)
   have E_:H1=H:=by
    cases al with
    | uW=>rfl
    | xc=>rfl
    | sW _ aC=>rw[a7]at aC;cases aC
    | xb _ aC=>rw[a7]at aC;cases aC
   exact⟨v,H1,ae,W,none,al,⟨.inr a7,E_⟩,h,.inl ⟨rfl,rfl,rfl⟩⟩
  ·exact h.elim
theorem P6{ops:Array Oper}{Q:List Value->ad->Prop}(iq:Hr P ops=true):∀(rest:List Oper) (k:Nat) (t:List Value) (H:ad) (ae W:List Nat),(∀i,rest[i]?=ops[k+i]?)->pN P ops k rest t H ae W Q->
  ∃(T:Nat->List Value) (V:Nat->Value) (a6:Nat->ad) (ep:Nat->Option (Nat×Option bN)),T k=t/\a6 k=H/\(∀i U,k<=i->ops[i]?=some U->ef P (.op ops U (T i) (a6 i)) (.val (V i) (a6 (i+1)))/\T (i+1)=fu (T i) U.dst (V i)/\pM P ops U (T i) (a6 i) (V i) (a6 (i+1)) (ep i))/\
   (∀i b y,k<=i->ep i=some (b,y)->eU P ops i=true\/(b∉W/\(y≠none->b∉ae)))/\(∀(i j:Nat) (b:Nat) (x:bN) (y:Option bN),k<=i->k<=j->ep i=some (b,some x)->ep j=some (b,y)->i≠j->eU P ops i=true\/eU P ops j=true)/\(∀j,k<=j->ops.size<=j->ep j=none)/\Q (T (k+rest.length)) (a6 (k+rest.length))
 | [],k,t,H,ae,W,al,h=>by
  refine⟨fun _=>t,fun _=>undef,fun _=>H,fun _=>none,rfl,rfl,fun i U fB aW=>?_,by simp,by simp,by simp,by simpa[pN]using h⟩
  have o:ops.size<=k:=by
   have:=al 0
   simp at this
   exact this
  have aa:=(Array.getElem?_eq_some_iff.1 aW).1
  omega
 | U::rest,k,t,H,ae,W,al,h=>by
  have aW:ops[k]?=some U:=by have:=al 0;simpa using this.symm
  have iG:=(Array.getElem?_eq_some_iff.1 aW).1
  have fW:∀i,rest[i]?=ops[k+1+i]?:=fun i=>by have:=al (i+1);simp at this;rw[this];congr 1;omega
  have Gn:=Array.all_eq_true'.1 iq U (Array.mem_of_getElem? aW)
  obtain⟨v,H1,gd,gf,g,aU,aO,bw,cj⟩:∃v H1 gd gf g,ef P (.op ops U t H) (.val v H1)/\pM P ops U t H v H1 g/\pN P ops (k+1) rest (fu t U.dst v) H1 gd gf Q/\((g=none/\gd=ae/\gf=W)\/(∃b,g=some (b,none)/\b∉W/\gd=b::ae/\gf=W)\/∃b x,g=some (b,some x)/\(eU P ops k=true\/(b∉W/\b∉ae))/\gd=ae/\gf=if eU P ops k=true then W else b::W):=by
   simp only[pN]at h
   split at h
   ·rename_i hw;exact abu hw Gn h
   ·rename_i hw
    have sK:Region.wanted U (hp ops t)=false:=by simpa using hw
    exact⟨undef,H,ae,W,none,.uW sK,⟨.inl sK,rfl⟩,h,.inl ⟨rfl,rfl,rfl⟩⟩
  obtain⟨T,V,a6,ep,ec,fs,hP,xj,HY,HZ,mo⟩:=P6 iq rest (k+1) _ H1 gd gf fW bw
  have lC:∀b,(b∈W->b∈gf)/\(b∈ae->b∈gd):=by
   intro b
   rcases cj with⟨-,rfl,rfl⟩ | ⟨c,-,-,rfl,rfl⟩ | ⟨c,x,-,-,rfl,rfl⟩
   ·exact⟨id,id⟩
   ·exact⟨id,List.mem_cons_of_mem _⟩
   ·split
    ·exact⟨id,id⟩
    ·exact⟨List.mem_cons_of_mem _,id⟩
  refine⟨fun i=>if i<=k then t else T i,fun i=>if i<=k then v else V i,fun i=>if i<=k then H else a6 i,fun i=>if i<=k then g else ep i,by simp,by simp,fun i la fB fN=>?_,fun i b y fB a1=>?_,fun i j b x y fB jY kD kE c2=>?_,fun j o aa=>?_,?_⟩
  ·by_cases ue:i=k
   ·subst ue
    rw[aW]at fN
    obtain rfl:=Option.some.inj fN
    simp only[Nat.le_refl,if_true,show¬(i+1<=i) by omega,if_false,ec,fs]
    exact⟨aU,trivial,aO⟩
   ·simp only[show¬(i<=k) by omega,show¬(i+1<=k) by omega,if_false]
    exact hP i la (by omega) fN
  ·by_cases ue:i=k
   ·subst ue
    simp only[Nat.le_refl,if_true]at a1
    rcases cj with⟨e,-⟩ | ⟨c,e,o,-⟩ | ⟨c,x,e,o,-⟩
    ·rw[e]at a1;cases a1
    ·rw[e]at a1;simp at a1;obtain⟨rfl,rfl⟩:=a1;exact .inr ⟨o,fun h=>absurd rfl h⟩
    ·rw[e]at a1;simp at a1;obtain⟨rfl,rfl⟩:=a1
     exact o.imp id fun q=>⟨q.1,fun _=>q.2⟩
   ·simp only[show¬(i<=k) by omega,if_false]at a1
    exact(xj i b y (by omega) a1).imp id fun⟨o,aa⟩=>⟨fun af=>o ((lC b).1 af),fun aP af=>aa aP ((lC b).2 af)⟩
  ·by_cases ue:i=k
   ·subst ue
    simp only[Nat.le_refl,if_true,show¬(j<=i) by omega,if_false]at kD kE
    rcases xj j b y (by omega) kE with aG | ⟨o,aa⟩
    ·exact .inr aG
    rcases cj with⟨e,-⟩ | ⟨d,e,-⟩ | ⟨d,z,e,-,-,rfl⟩
    ·rw[e]at kD;cases kD
    ·rw[e]at kD;simp at kD
    ·rw[e]at kD
     simp at kD
     obtain⟨rfl,rfl⟩:=kD
     cases nh:eU P ops i with
     | true=>exact .inl rfl
     | false=>rw[nh]at o;simp at o
   ·simp only[show¬(i<=k) by omega,if_false]at kD
    by_cases nV:j=k
    ·subst nV
     simp only[Nat.le_refl,if_true]at kE
     rcases xj i b (some x) (by omega) kD with aG | ⟨o,aa⟩
     ·exact .inl aG
     rcases cj with⟨e,-⟩ | ⟨d,e,-,rfl,-⟩ | ⟨d,z,e,-,-,rfl⟩
     ·rw[e]at kE;cases kE
     ·rw[e]at kE
      simp at kE
      obtain⟨rfl,rfl⟩:=kE
      exact absurd List.mem_cons_self (aa (by simp))
     ·rw[e]at kE
      simp at kE
      obtain⟨rfl,rfl⟩:=kE
      cases nh:eU P ops j with
      | true=>exact .inr rfl
      | false=>rw[nh]at o;simp at o
    ·simp only[show¬(j<=k) by omega,if_false]at kE
     exact HY i j b x y (by omega) (by omega) kD kE c2
  ·simp only[show¬(j<=k) by omega,if_false]
   exact HZ j (by omega) aa
  ·have e:k+(U::rest).length=k+1+rest.length:=by simp;omega
   rw[e]
   simp only[show¬(k+1+rest.length<=k) by omega,if_false]
   exact mo
theorem tF:∀(c:Code) (t:List Value) (H:ad) (Q:dS->List Value->ad->Prop),lN P c t H Q->D4 P c t H Q
 | .skip,t,H,Q,h=>⟨.normal,t,H,.skip,h⟩
 | .ret,t,H,Q,h=>⟨.ret,t,H,.ret,h⟩
 | .exit id,t,H,Q,h=>⟨.exit id,t,H,.exit,h⟩
 | .seq a b,t,H,Q,h=>by
  obtain⟨e,t1,H1,al,aq⟩:=tF a t H _ h
  cases e with
  | normal=>
   obtain⟨bj,t2,aT,ra,pd⟩:=tF b t1 H1 Q aq
   exact⟨bj,t2,aT,.Dr al ra,pd⟩
  | exit id=>exact⟨.exit id,t1,H1,.Ag al (by simp),aq⟩
  | ret=>exact⟨.ret,t1,H1,.Ag al (by simp),aq⟩
 | .cond c x y,t,H,Q,h=>by
  simp only[lN]at h
  obtain⟨ah,h⟩:=h
  split at h
  ·rename_i b ag
   cases b with
   | true=>
    obtain⟨e,t1,H1,al,aq⟩:=tF x t H Q (by simpa using h)
    exact⟨e,t1,H1,.cond ag ah al,aq⟩
   | false=>
    obtain⟨e,t1,H1,al,aq⟩:=tF y t H Q (by simpa using h)
    exact⟨e,t1,H1,.cond ag ah al,aq⟩
  ·exact h.elim
 | .block id c,t,H,Q,h=>by
  obtain⟨e,t1,H1,al,aq⟩:=tF c t H _ h
  refine⟨_,t1,H1,.block al,?_⟩
  cases e with
  | normal=>exact aq
  | exit iv=>
   simp only[Et]at aq
   by_cases ab:iv=id
   ·subst ab;simpa using aq
   ·simpa[ab]using aq
  | ret=>exact aq
 | .loop c,t,H,Q,h=>h
 | .region id ops draw,t,H,Q,h=>by
  simp only[lN]at h
  rcases h with⟨o,aa,aE⟩ | ⟨o,aa,aG,aE⟩
  rotate_left
  ·obtain⟨T,V,a6,ep,ec,fs,hP,xj,HY,HZ,mo⟩:=P6 aG ops.toList 0 t H [] [] (fun i=>by simp) aE
   have hj:=ef.Dm (P:=P) (id:=id) (ops:=ops) (draw:=draw) T V a6 ep o (fun i U aW=>(hP i U (Nat.zero_le _) aW).1) (fun i U aW=>(hP i U (Nat.zero_le _) aW).2.1) aa (fun i U aW=>(hP i U (Nat.zero_le _) aW).2.2) (fun i j b x y=>HY i j b x y (Nat.zero_le _) (Nat.zero_le _)) (fun j=>HZ j (Nat.zero_le _))
   rw[ec,fs]at hj
   exact⟨.normal,_,_,hj,by simpa using mo⟩
  obtain⟨T,V,a6,ec,fs,hP,mo⟩:=P9 ops.toList 0 t H (fun i=>by simp) aE
  have hj:=ef.region (P:=P) (id:=id) (ops:=ops) (draw:=draw) T V a6 o (fun i U aW=>(hP i U (Nat.zero_le _) aW).1) (fun i U aW=>(hP i U (Nat.zero_le _) aW).2.1) (fun aA=>⟨aa aA,fun i U aW aC=>(hP i U (Nat.zero_le _) aW).2.2 aA aC⟩)
  rw[ec,fs]at hj
  exact⟨.normal,_,_,hj,by simpa using mo⟩
 | .rangeFunc ..,t,H,Q,h=>by simp only[lN]at h
 | .scope ..,t,H,Q,h=>by simp only[lN]at h
 | .label ..,t,H,Q,h=>by simp only[lN]at h
 | .goto ..,t,H,Q,h=>by simp only[lN]at h
 | .refuse ..,t,H,Q,h=>by simp only[lN]at h
def qF(P:Program)(t:List Value)(H:ad):List ResultVar->(List Value->Prop)->Prop
 | [],K=>K []
 | .tmp i::rs,K=>qF P t H rs fun aH=>K (gt t i::aH)
 | .cell a ty::rs,K=>(match gt t a with
  | .pointer (some ⟨b,i,none⟩)=>(match jt H b with
   | some cs=>(match dk P ty with
    | some false=>(match cs[i]? with
     | some v=>qF P t H rs fun aH=>K (v::aH)
     | none=>False)
    | some true=>(match bu P ty with
     | some n=>i+n<=cs.length/\qF P t H rs fun aH=>K (.agg ((cs.drop i).take n).toArray::aH)
     | none=>False)
    | none=>False)
   | none=>False)
  | _=>False)
theorem Ae{t:List Value}{H:ad}:∀(rs:List ResultVar) (K:List Value->Prop),qF P t H rs K->∃aH,m6 P t H rs aH/\K aH
 | [],K,h=>⟨[],.nil,h⟩
 | .tmp i::rs,K,h=>by
  obtain⟨aH,o,aa⟩:=Ae rs _ h
  exact⟨_,.tmp o,aa⟩
 | .cell a ty::rs,K,h=>by
  simp only[qF]at h
  split at h
  ·rename_i b i J
   split at h
   ·rename_i cs gp
    obtain⟨X,aZ,ag⟩:=A9 gp
    split at h
    ·rename_i aL
     split at h
     ·rename_i v an
      obtain⟨aH,o,aa⟩:=Ae rs _ h
      exact⟨_,.A7 aL J aZ ag an o,aa⟩
     ·exact h.elim
    ·rename_i aL
     split at h
     ·rename_i n aF
      obtain⟨aH,o,aa⟩:=Ae rs _ h.2
      exact⟨_,.A8 aL aF J aZ ag h.1 o,aa⟩
     ·exact h.elim
    ·exact h.elim
   ·exact h.elim
  ·exact h.elim
def acO(P:Program)(rs:List ResultVar)(Q:Value->ad->Prop):dS->List Value->ad->Prop
 | .normal,t,H=>qF P t H rs fun aH=>Q (bf aH) H
 | .ret,t,H=>qF P t H rs fun aH=>Q (bf aH) H
 | .exit _,_,_=>False
theorem aX.T6{f:FuncId}{fn:Func}{c:Code}{args:List Value}{H:ad}{Q:Value->ad->Prop}(aC:P.funcs[f]?=some fn)(aF:(fn.name== "runtime.NumGoroutine")=false)(af:fn.body=some c)
  (h:lN P c (args++List.replicate (fn.ntmps-args.length) undef) H (acO P fn.results.toList Q)):∃v H1,AH P f/\ef P (.call f args H) (.val v H1)/\Q v H1:=by
 have ag:AH P f:=⟨fn,aC,aF,by rw[af];rfl⟩
 obtain⟨e,t1,H1,al,aq⟩:=tF _ _ _ _ h
 cases e with
 | normal=>
  obtain⟨aH,o,aa⟩:=Ae _ _ aq
  exact⟨_,H1,ag,.call aC af al (.inl rfl) o,aa⟩
 | exit id=>exact aq.elim
 | ret=>
  obtain⟨aH,o,aa⟩:=Ae _ _ aq
  exact⟨_,H1,ag,.call aC af al (.inr rfl) o,aa⟩
end
end Go.cl
end
