/- Part of the proof of ShopTurned. -/
import Derived.Test.YtoiodfcefbapkaaGreatShopTurnedA
set_option linter.unusedVariables false
set_option linter.unusedSimpArgs false
section
namespace Go.cW
def bg.below(ah:bg)(n:Nat):bg:=fun b=>if b<n then ah b else none
theorem bg.jc{ah:bg}{n b:Nat}{k:iI}(h:ah.below n b=some k):b<n/\ah b=some k:=by
 unfold bg.below at h
 split at h
 ·exact⟨by assumption,h⟩
 ·cases h
theorem bg.Cz{ah:bg}{n b:Nat}{k:iI}(ag:b<n)(h:ah b=some k):ah.below n b=some k:=by simp[bg.below,ag,h]
def jQ(n:Nat)(v:Value):Prop:=∃(ah:bg) (au:Value),(∀b k,ah b=some k->b<n)/\bl ah v au
theorem jQ.mono{n m:Nat}{v:Value}(h:jQ n v)(Ee:n<=m):jQ m v:=by
 obtain⟨ah,au,o,aa⟩:=h
 exact⟨ah,au,fun b k ag=>Nat.lt_of_lt_of_le (o b k ag) Ee,aa⟩
theorem jQ.of{ah:bg}{n:Nat}{v au:Value}(aA:∀b k,ah b=some k->b<n)(h:bl ah v au):jQ n v:=⟨ah,au,aA,h⟩
theorem bl.restrict{ah:bg}{n:Nat}{v au:Value}(h:bl ah v au):jQ n v->bl (ah.below n) v au:=by
 have arr:∀{xs bS Cc:Array Value} {oB:bg},(∀b k,oB b=some k->b<n)->xs.size=bS.size->xs.size=Cc.size->(∀(i:Nat) (v au:Value),xs[i]?=some v->bS[i]?=some au->jQ n v->bl (ah.below n) v au)->
   (∀(i:Nat) (v au:Value),xs[i]?=some v->Cc[i]?=some au->bl oB v au)->∀(i:Nat) (v au:Value),xs[i]?=some v->bS[i]?=some au->bl (ah.below n) v au:=by
  intro xs bS Cc oB l4 ar dG a0 aN i v au J aK
  obtain⟨ad,-⟩:=Array.getElem?_eq_some_iff.1 J
  have Wu:i<Cc.size:=dG▸ad
  exact a0 i v au J aK ⟨oB,_,l4,aN i v _ J (Array.getElem?_eq_getElem Wu)⟩
 induction h with
 | bool b=>exact fun _=> .bool b
 | int k n=>exact fun _=> .int k n
 | float k n=>exact fun _=> .float k n
 | str s=>exact fun _=> .str s
 | Bn=>exact fun _=> .Bn
 | ptr h=>
  rintro⟨oB,u,l4,hu⟩
  obtain⟨k,ak,-⟩:=hu.ru
  exact .ptr (bg.Cz (l4 _ _ ak) h)
 | sa g=>exact fun _=> .sa g
 | rn=>exact fun _=> .rn
 | void i a=>exact fun _=> .void i a
 | empty ag a c=>exact fun _=> .empty ag a c
 | slice h ae ar fX J bQ=>
  rintro⟨oB,u,l4,hu⟩
  cases hu with
  | void=>omega
  | empty=>omega
  | slice cu=>exact .slice (bg.Cz (l4 _ _ cu) h) ae ar fX J bQ
 | agg ar _ a0=>
  rintro⟨oB,u,l4,hu⟩
  cases hu with
  | agg dG aN=>exact .agg ar (arr l4 ar dG a0 aN)
 | tuple ar _ a0=>
  rintro⟨oB,u,l4,hu⟩
  cases hu with
  | tuple dG aN=>exact .tuple ar (arr l4 ar dG a0 aN)
 | func fn ar _ iz _ a0 p1=>
  rintro⟨oB,u,l4,hu⟩
  cases hu with
  | func _ dG aN Ln iV=>exact .func fn ar (arr l4 ar dG a0 aN) iz (arr l4 iz Ln p1 iV)
 | nilFunc=>exact fun _=> .nilFunc
 | iface t _ a0=>
  rintro⟨oB,u,l4,hu⟩
  cases hu with
  | iface _ aN=>exact .iface t (a0 ⟨oB,_,l4,aN⟩)
 | nilIface=>exact fun _=> .nilIface
 | Bm=>exact fun _=> .Bm
theorem Ext.refl(H:ab):Ext H H:=⟨[],by simp,by simp⟩
theorem Ext.trans{A B C:ab}(h:Ext A B)(cu:Ext B C):Ext A C:=by
 obtain⟨N,rfl,bQ⟩:=h
 obtain⟨M,rfl,ji⟩:=cu
 exact⟨N++M,by simp,fun x J=>(List.mem_append.1 J).elim (bQ x) (ji x)⟩
theorem Ext.len{A B:ab}(h:Ext A B):A.length<=B.length:=by obtain⟨N,rfl,-⟩:=h;simp
theorem Ext.get{A B:ab}(h:Ext A B){b:Nat}(ag:b<A.length):B[b]?=A[b]?:=by obtain⟨N,rfl,-⟩:=h;exact List.getElem?_append_left ag
theorem Ext.get_some{A B:ab}(h:Ext A B){b:Nat}{x:bK}(ag:A[b]?=some x):B[b]?=some x:=by rw[h.get (cH.1 ag).1];exact ag
theorem Ext.new{A B:ab}(h:Ext A B){b:Nat}{x:bK}(ag:A.length<=b)(J:B[b]?=some x):∀e cs,x≠ .ro e cs:=by
 obtain⟨N,rfl,bQ⟩:=h
 rw[List.getElem?_append_right ag]at J
 exact bQ x (List.mem_of_getElem? J)
theorem p2{H aH:ab}{b:Nat}(h:H[b]?=aH[b]?):hM H b↔hM aH b:=by unfold hM;rw[h]
theorem x9{H aH:ab}{b:Nat}(h:H[b]?=aH[b]?):lB H b↔lB aH b:=by unfold lB;rw[h]
section
variable {ops:Array Oper}
theorem ym{i:Nat}{R:Oper}(h:ops[i]?=some R):(R,i)∈ops.toList.zipIdx:=by
 rw[List.mem_zipIdx_iff_getElem?]
 simpa using h
theorem RO(h:gK ops=true){i:Nat}{R:Oper}(aM:ops[i]?=some R){e:Edge}(he:e∈R.after)(ag:Region.binds .any e=true):e.on<i:=by
 simp only[gK,Bool.and_eq_true]at h
 have:=List.all_eq_true.1 h.1.1 _ (ym aM)
 have:=Array.all_eq_true'.1 this e he
 simpa[ag]using this
theorem YZ(h:gK ops=true){i j:Nat}{R:Oper}(aM:ops[i]?=some R)(aW:j<ops.size)(ag:oM (Region.before ops) j i=true):
  ∃e,e∈R.after/\Region.binds .any e=true/\(e.on=j\/(e.on<i/\oM (Region.before ops) j e.on=true)):=by
 simp only[gK,Bool.and_eq_true]at h
 have o:=List.all_eq_true.1 h.1.2 _ (ym aM)
 have aa:=List.all_eq_true.1 o j (List.mem_range.2 aW)
 simp only[oM]at ag
 rw[ag]at aa
 simp only[Bool.not_true,Bool.false_or,Array.any_eq_true']at aa
 obtain⟨e,he,aB⟩:=aa
 simp only[Bool.and_eq_true,Bool.or_eq_true,beq_iff_eq,decide_eq_true_eq]at aB
 exact⟨e,he,aB.1,aB.2⟩
theorem F8(h:gK ops=true){i j:Nat}{x y:Oper}(ad:ops[i]?=some x)(aW:ops[j]?=some y)(pR:i<j):oM (Region.before ops) i j=true\/
  ((∀d,x.dst=some d->d∉y.looksAt ops/\y.dst≠some d)/\∀d,y.dst=some d->d∉x.looksAt ops):=by
 simp only[gK,Bool.and_eq_true]at h
 have o:=List.all_eq_true.1 h.2 _ (ym aW)
 have aa:=List.all_eq_true.1 o _ (ym ad)
 simp only[pR,decide_true,Bool.not_true,Bool.false_or,Bool.or_eq_true]at aa
 rcases aa with aa | aa
 ·exact .inl aa
 ·refine .inr ?_
  simp only[Bool.and_eq_true]at aa
  constructor
  ·intro d aA
   have:=aa.1
   simp only[aA,Bool.and_eq_true,Bool.not_eq_true',bne_iff_ne]at this
   exact⟨by simpa using this.1,this.2⟩
  ·intro d aA
   have:=aa.2
   simp only[aA,Bool.not_eq_true']at this
   simpa using this
theorem tE{P:Program}{i j:Nat}{y:Oper}(h:eE P ops i=true)(aW:ops[j]?=some y)(a4:bV P y=false)(cQ:j≠i):oM (Region.before ops) (min i j) (max i j)=true:=by
 have:=List.all_eq_true.1 h _ (ym aW)
 simpa[a4,cQ]using this
def pq(ops:Array Oper)(X:Nat->Bool):Prop:=∀i R e,X i=true->ops[i]?=some R->e∈R.after->Region.binds .any e=true->X e.on=true
def kZ(ops:Array Oper)(X:Nat->Bool)(i:Nat)(R:Oper):Prop:=ops[i]?=some R/\X i=false/\∀e,e∈R.after->Region.binds .any e=true->X e.on=true
theorem tM(h:gK ops=true){X:Nat->Bool}(ae:pq ops X):∀(i:Nat) (R:Oper),ops[i]?=some R->(∀e,e∈R.after->Region.binds .any e=true->X e.on=true)->∀j,j<ops.size->oM (Region.before ops) j i=true->X j=true:=by
 intro i
 induction i using Nat.strongRecOn with
 | _ i a0=>
  intro R aM al j aW ag
  obtain⟨e,he,mr,o | ⟨o,aa⟩⟩:=YZ h aM aW ag
  ·rw[<-o];exact al e he mr
  ·have aT:=al e he mr
   have a5:e.on<ops.size:=Nat.lt_trans o (Array.getElem?_eq_some_iff.1 aM).1
   exact a0 e.on o ops[e.on] (Array.getElem?_eq_getElem a5) (fun cX pN c8=>ae e.on _ cX aT (Array.getElem?_eq_getElem a5) pN c8) j aW aa
theorem zx(h:gK ops=true){X:Nat->Bool}(ae:pq ops X){i j:Nat}(ad:i<ops.size)(aT:X i=true)(aW:j<ops.size)(ag:oM (Region.before ops) j i=true):X j=true:=
 tM h ae i ops[i] (Array.getElem?_eq_getElem ad) (fun e he mr=>ae i _ e aT (Array.getElem?_eq_getElem ad) he mr) j aW ag
def eX(X:Nat->Bool)(i:Nat):Nat->Bool:=fun j=>decide (j=i) || X j
theorem zy{X:Nat->Bool}(ae:pq ops X){i:Nat}{R:Oper}(al:kZ ops X i R):pq ops (eX X i):=by
 intro j kv e aT aM he ag
 simp only[eX,Bool.or_eq_true,decide_eq_true_eq]at aT⊢
 rcases aT with rfl | aT
 ·rw[al.1]at aM
  obtain rfl:=Option.some.inj aM
  exact .inr (al.2.2 e he ag)
 ·exact .inr (ae j kv e aT aM he ag)
def wr(ops:Array Oper)(d:Tmp)(j:Nat):Bool:=match ops[j]? with
 | some R=>R.dst==some d
 | none=>false
theorem tq{d:Tmp}{j:Nat}:wr ops d j=true↔∃R,ops[j]?=some R/\R.dst=some d:=by
 unfold wr
 cases h:ops[j]?<;>simp
theorem tr{d:Tmp}{j:Nat}(h:wr ops d j=true):j<ops.size:=by
 obtain⟨R,aM,-⟩:=tq.1 h
 exact(Array.getElem?_eq_some_iff.1 aM).1
def zn(ops:Array Oper)(X:Nat->Bool)(d:Tmp)(j:Nat):Prop:=X j=true/\wr ops d j=true/\∀eb,X eb=true->wr ops d eb=true->eb<=j
open Classical in
noncomputable def cur(ops:Array Oper)(V:Nat->Value)(t0:List Value)(X:Nat->Bool)(d:Tmp):Value:=
 if h:∃j,zn ops X d j then V h.choose else t0.getD d undef
theorem Jt{V:Nat->Value}{t0:List Value}{X:Nat->Bool}{d:Tmp}{j:Nat}(o:X j=true)(aa:wr ops d j=true)(aB:∀eb,X eb=true->wr ops d eb=true->eb<=j):cur ops V t0 X d=V j:=by
 unfold cur
 have h:∃j,zn ops X d j:=⟨j,o,aa,aB⟩
 rw[dif_pos h]
 have ae:=h.choose_spec
 have:=aB _ ae.1 ae.2.1
 have:=ae.2.2 j o aa
 congr 1
 omega
theorem CK{V:Nat->Value}{t0:List Value}{X:Nat->Bool}{d:Tmp}(h:∀j,X j=true->wr ops d j=false):cur ops V t0 X d=t0.getD d undef:=by
 unfold cur
 rw[dif_neg]
 rintro⟨j,o,aa,-⟩
 rw[h j o]at aa
 cases aa
theorem wv{V:Nat->Value}{t0:List Value}{X Y:Nat->Bool}{d:Tmp}(h:∀j,wr ops d j=true->X j=Y j):cur ops V t0 X d=cur ops V t0 Y d:=by
 have e:zn ops X d=zn ops Y d:=by
  funext j
  apply propext
  constructor
  ·rintro⟨o,aa,aB⟩;exact⟨h j aa▸o,aa,fun eb aY a3=>aB eb ((h eb a3).symm▸aY) a3⟩
  ·rintro⟨o,aa,aB⟩;exact⟨(h j aa).symm▸o,aa,fun eb aY a3=>aB eb (h eb a3▸aY) a3⟩
 unfold cur
 rw[e]
theorem QN(V:Nat->Value)(t0:List Value)(X:Nat->Bool)(d:Tmp):(∃j,X j=true/\wr ops d j=true/\cur ops V t0 X d=V j)\/cur ops V t0 X d=t0.getD d undef:=by
 unfold cur
 split
 ·rename_i h
  exact .inl ⟨h.choose,h.choose_spec.1,h.choose_spec.2.1,rfl⟩
 ·exact .inr rfl
theorem oK{T:Nat->List Value}{V:Nat->Value}(bc:∀(i:Nat) (R:Oper),ops[i]?=some R->T (i+1)=fa (T i) R.dst (V i)):∀i,i<=ops.size->(T i).length=(T 0).length
 | 0,_=>rfl
 | i+1,h=>by
  have a5:i<ops.size:=by omega
  rw[bc i _ (Array.getElem?_eq_getElem a5)]
  have:=oK bc i (by omega)
  unfold fa
  split<;>simp[this]
theorem v9{T:Nat->List Value}{V:Nat->Value}(bc:∀(i:Nat) (R:Oper),ops[i]?=some R->T (i+1)=fa (T i) R.dst (V i)):∀i,i<=ops.size->∀d,d<(T 0).length->(T i).getD d undef=cur ops V (T 0) (fun j=>decide (j<i)) d
 | 0,_,d,aA=>by rw[CK];intro j aW;simp at aW
 | i+1,h,d,aA=>by
  have a5:i<ops.size:=by omega
  have aM:=Array.getElem?_eq_getElem a5
  have a0:=v9 bc i (by omega) d aA
  have hlen:=oK bc i (by omega)
  rw[bc i _ aM]
  by_cases hw:wr ops d i=true
  ·obtain⟨R,ft,xg⟩:=tq.1 hw
   rw[aM]at ft
   obtain rfl:=Option.some.inj ft
   rw[Jt (j:=i) (by simp) hw (fun eb o _=>by simp at o;omega)]
   simp only[fa,xg]
   simp[List.getD_eq_getElem?_getD,List.getElem?_set,hlen,aA]
  ·have cQ:ops[i].dst≠some d:=fun e=>hw (tq.2 ⟨_,aM,e⟩)
   rw[wv (Y:=fun j=>decide (j<i)) (fun j aW=>?_),<-a0]
   ·unfold fa
    split
    ·rename_i fr jD
     have:fr≠d:=fun e=>cQ (e▸jD)
     simp[List.getD_eq_getElem?_getD,List.getElem?_set,this]
    ·rfl
   ·have:j≠i:=fun e=>hw (e▸aW)
    simp only[decide_eq_decide]
    omega
theorem Of(h:gK ops=true){X:Nat->Bool}(ae:pq ops X){i:Nat}{R:Oper}(al:kZ ops X i R){d:Tmp}(aA:d∈R.looksAt ops\/R.dst=some d):∀j,wr ops d j=true->X j=decide (j<i):=by
 intro j aW
 obtain⟨y,aK,om⟩:=tq.1 aW
 have gg:j<ops.size:=tr aW
 have cC:i<ops.size:=(Array.getElem?_eq_some_iff.1 al.1).1
 rcases Nat.lt_trichotomy j i with a5 | heq | oX
 ·rcases F8 h aK al.1 a5 with ag | ⟨o,aa⟩
  ·rw[tM h ae i R al.1 al.2.2 j gg ag];simp[a5]
  ·rcases aA with aA | aA
   ·exact absurd aA (o d om).1
   ·exact absurd aA (o d om).2
 ·subst heq;rw[al.2.1];simp
 ·have aT:X j=false:=by
   cases TF:X j with
   | false=>rfl
   | true=>
    rcases F8 h al.1 aK oX with ag | ⟨o,aa⟩
    ·have:=zx h ae gg TF cC ag
     rw[al.2.1]at this
     cases this
    ·rcases aA with aA | aA
     ·exact absurd aA (aa d om)
     ·exact absurd om (o d aA).2
  rw[aT]
  simp
  omega
theorem Js(h:gK ops=true){X:Nat->Bool}(ae:pq ops X){i:Nat}{R:Oper}(al:kZ ops X i R){V:Nat->Value}{t0:List Value}{d:Tmp}(aA:d∈R.looksAt ops\/R.dst=some d):
  cur ops V t0 X d=cur ops V t0 (fun j=>decide (j<i)) d:=wv (Of h ae al aA)
theorem zA(h:gK ops=true){X:Nat->Bool}(ae:pq ops X){i:Nat}{R:Oper}(al:kZ ops X i R){V:Nat->Value}{t0:List Value}(d:Tmp):cur ops V t0 (eX X i) d=if R.dst=some d then V i else cur ops V t0 X d:=by
 have cC:i<ops.size:=(Array.getElem?_eq_some_iff.1 al.1).1
 split
 ·rename_i aA
  refine Jt (by simp[eX]) (tq.2 ⟨R,al.1,aA⟩) fun eb o aa=>?_
  simp only[eX,Bool.or_eq_true,decide_eq_true_eq]at o
  rcases o with rfl | o
  ·exact Nat.le_refl _
  ·obtain⟨y,aK,om⟩:=tq.1 aa
   rcases Nat.lt_or_ge i eb with a5 | hy
   ·rcases F8 h al.1 aK a5 with ag | ⟨aY,a3⟩
    ·have:=zx h ae (tr aa) o cC ag
     rw[al.2.1]at this
     cases this
    ·exact absurd om (aY d aA).2
   ·exact hy
 ·rename_i aA
  refine wv fun j aW=>?_
  have:j≠i:=fun e=>by
   obtain⟨y,aK,om⟩:=tq.1 aW
   subst e
   rw[al.1]at aK
   obtain rfl:=Option.some.inj aK
   exact aA om
  simp[eX,this]
end
def qG(s bh j:Nat):Nat:=if j<s then s else if j<bh then j+1 else bh
def mV(s bh j:Nat):Nat:=if j<s then s else if j<bh then j else bh
structure Inv (P:Program) (base:Nat) (ops:Array Oper) (T:Nat->List Value) (V:Nat->Value) (aZ:Nat->ab) (ir:bg) (d_:World) (X:Nat->Bool) (s bh:Nat) (ah:bg) (a:Act) (w:World):Prop where
 closed:pq ops X
 dp:s<=bh
 iX:bh<=ops.size
 aaj:∀j R,s<=j->j<bh->ops[j]?=some R->bV P R=false->eE P ops j=false
 before:∀j R,j<s->ops[j]?=some R->bV P R=false->X j=true
 after:∀j R,bh<=j->ops[j]?=some R->bV P R=false->X j=false
 stop:bh=ops.size\/∃R,ops[bh]?=some R/\bV P R=false/\eE P ops bh=true
 i_:cl P base ah (aZ bh) w
 ext:∀b k,ir b=some k->ah b=some k
 eP:∀b k,ah b=some k->b<(aZ s).length\/∃j,s<=j/\j<bh/\X j=true/\(aZ j).length<=b/\b<(aZ (j+1)).length
 B9:∀j,s<=j->j<=bh->∀b k x cs v,ah b=some k->b<(aZ j).length->(aZ bh)[b]?=some x->x.cells?=some cs->v∈cs->jQ (aZ j).length v
 vT:∀j,j<ops.size->X j=true->jQ (aZ (qG s bh j)).length (V j)
 PD:∀v∈T 0,jQ (aZ s).length v
 NV:0<(aZ 0).length
 Be:(aZ 0).length<=(aZ s).length
 fw:a.tmps.size=(T 0).length
 tmps:∀d,d<(T 0).length->bl ah (cur ops V (T 0) X d) (a.tmps.getD d undef)
 defers:a.defers=[]
 step:Step ir (aZ 0) d_ ah (aZ bh) w
theorem kV.Gv{P:Program}{base:Nat}{ah:bg}{w:World}{k:iI}{x:bK}(h:kV P base ah w k x){cs:List Value}(ae:x.cells?=some cs){v:Value}(an:v∈cs):∃au,bl ah v au:=by
 obtain⟨i,ad⟩:=List.getElem?_of_mem an
 cases h with
 | own ag ar gp ao aU bQ az bz iR=>
  simp only[bK.cells?,Option.some.injEq]at ae
  subst ae
  obtain⟨au,-,aa⟩:=iR i v ad
  exact⟨au,aa⟩
 | ro gp ao iR c7=>
  simp only[bK.cells?,Option.some.injEq]at ae
  subst ae
  obtain⟨au,-,aa⟩:=iR i v ad
  exact⟨au,aa⟩
 | dead=>simp[bK.cells?]at ae
theorem kV.ZO{P:Program}{base:Nat}{ah bu:bg}{w:World}{k:iI}{x:bK}(h:kV P base ah w k x)(he:∀cs v,x.cells?=some cs->v∈cs->∀au,bl ah v au->bl bu v au):kV P base bu w k x:=by
 cases h with
 | own ag ar ad ao aU bQ az bz an=>exact .own ag ar ad ao aU bQ az bz fun i v ad=>let⟨au,o,aa⟩:=an i v ad;⟨au,o,he _ v rfl (List.mem_of_getElem? ad) au aa⟩
 | ro ad ao an c7=>exact .ro ad ao (fun i v ad=>let⟨au,o,aa⟩:=an i v ad;⟨au,o,he _ v rfl (List.mem_of_getElem? ad) au aa⟩) c7
 | dead=>exact .dead
theorem cl.grow{P:Program}{base:Nat}{ah:bg}{H aH:ab}{w:World}(h:cl P base ah H w)(he:Ext H aH):cl P base ah aH w:=by
 have ar:=he.len
 refine⟨Nat.lt_of_lt_of_le h.pos ar,h.size,fun b k ag=>⟨(h.eP b k ag).1,Nat.lt_of_lt_of_le (h.eP b k ag).2 ar⟩,fun b k x ag J=>?_,fun b ct k cb ag c8 cQ aM At=>?_⟩
 ·rw[he.get (h.eP b k ag).2]at J
  exact h.e8 b k x ag J
 ·exact h.inj b ct k cb ag c8 cQ ((p2 (he.get (h.eP b k ag).2)).1 aM) ((x9 (he.get (h.eP ct cb c8).2)).1 At)
theorem Step.grow{P:Program}{base:Nat}{ah bu:bg}{H H1 aR:ab}{w a7:World}(h:Step ah H w bu H1 a7)(bM:cl P base bu H1 a7)(he:Ext H1 aR):Step ah H w bu aR a7 where
 ext:=h.ext
 new:=h.new
 len:=Nat.le_trans h.len he.len
 own b k ag aM:=h.own b k ag ((p2 (he.get (bM.eP b k ag).2)).1 aM)
 os:=h.os
 tape:=h.tape
 output:=h.output
 size:=h.size
 frame:=h.frame
section
variable {P:Program} {base:Nat} {ops:Array Oper} {T:Nat->List Value} {V:Nat->Value} {aZ:Nat->ab} {ir:bg} {d_:World} {X:Nat->Bool} {s bh:Nat} {ah:bg} {a:Act} {w:World}
theorem yy(a4:∀j R,ops[j]?=some R->bV P R=true->aZ (j+1)=aZ j)(bZ:∀j R,ops[j]?=some R->bV P R=false->eE P ops j=true\/Ext (aZ j) (aZ (j+1)))(aG:bh<=ops.size)
  (L_:∀j R,s<=j->j<bh->ops[j]?=some R->bV P R=false->eE P ops j=false):∀(m i:Nat),s<=i->i+m<=bh->Ext (aZ i) (aZ (i+m))
 | 0,i,_,_=>Ext.refl _
 | m+1,i,ao,hm=>by
  have a0:=yy a4 bZ aG L_ m i ao (by omega)
  have a5:i+m<ops.size:=by omega
  have aM:=Array.getElem?_eq_getElem a5
  refine a0.trans ?_
  show Ext (aZ (i+m)) (aZ (i+m+1))
  cases az:bV P ops[i+m]with
  | true=>rw[a4 _ _ aM az];exact Ext.refl _
  | false=>
   rcases bZ _ _ aM az with ag | he
   ·rw[L_ _ _ (by omega) (by omega) aM az]at ag;cases ag
   ·exact he
theorem Inv.kD(ai:Inv P base ops T V aZ ir d_ X s bh ah a w)(a4:∀j R,ops[j]?=some R->bV P R=true->aZ (j+1)=aZ j)(bZ:∀j R,ops[j]?=some R->bV P R=false->eE P ops j=true\/Ext (aZ j) (aZ (j+1)))
  {i j:Nat}(o:s<=i)(aa:i<=j)(aB:j<=bh):Ext (aZ i) (aZ j):=by
 have:=yy a4 bZ ai.iX ai.aaj (j-i) i o (by omega)
 rwa[show i+(j-i)=j by omega]at this
theorem Inv.operand(ai:Inv P base ops T V aZ ir d_ X s bh ah a w)(ew:gK ops=true)(a4:∀j R,ops[j]?=some R->bV P R=true->aZ (j+1)=aZ j)(bZ:∀j R,ops[j]?=some R->bV P R=false->eE P ops j=true\/Ext (aZ j) (aZ (j+1)))
  (bc:∀(i:Nat) (R:Oper),ops[i]?=some R->T (i+1)=fa (T i) R.dst (V i)){i:Nat}{R:Oper}(al:kZ ops X i R){d:Tmp}(aA:d∈R.looksAt ops):bl (ah.below (aZ (mV s bh i)).length) ((T i).getD d undef) (a.tmps.getD d undef):=by
 have cC:i<ops.size:=(Array.getElem?_eq_some_iff.1 al.1).1
 by_cases jE: @LT.lt Nat _ d (T 0).length
 ·rw[v9 bc i (by omega) d jE,<-Js ew ai.closed al (.inl aA)]
  refine(ai.tmps d jE).restrict ?_
  have u7:=ai.dp
  have gz:(aZ s).length<=(aZ (mV s bh i)).length:=by
   unfold mV
   split
   ·exact Nat.le_refl _
   ·split
    ·exact(ai.kD a4 bZ (Nat.le_refl _) (by omega) (by omega)).len
    ·exact(ai.kD a4 bZ (Nat.le_refl _) ai.dp (Nat.le_refl _)).len
  rcases QN (ops:=ops) V (T 0) X d with⟨j,o,aa,aB⟩ | aB
  ·rw[aB]
   have fs:=Of ew ai.closed al (.inl aA) j aa
   rw[o]at fs
   have mw:j<i:=by simpa using fs.symm
   refine(ai.vT j (tr aa) o).mono ?_
   unfold qG
   split
   ·exact gz
   ·split
    ·unfold mV
     rw[if_neg (by omega)]
     split
     ·exact(ai.kD a4 bZ (by omega) (by omega) (by omega)).len
     ·exact(ai.kD a4 bZ (by omega) (by omega) (by omega)).len
    ·unfold mV
     rw[if_neg (by omega),if_neg (by omega)]
     exact Nat.le_refl _
  ·rw[aB]
   refine(ai.PD _ ?_).mono gz
   simp only[List.getD_eq_getElem?_getD,bB jE,Option.getD_some]
   exact List.getElem_mem jE
 ·have o:(T i).getD d undef=undef:=by
   rw[List.getD_eq_getElem?_getD,List.getElem?_eq_none (by rw[oK bc i (by omega)];omega)]
   rfl
  have aa:a.tmps.getD d undef=undef:=by
   have:=ai.fw
   rw[Array.getD_eq_getD_getElem?,Array.getElem?_eq_none (by omega)]
   rfl
  rw[o,aa]
  exact bl.undef _
theorem Inv.operands(ai:Inv P base ops T V aZ ir d_ X s bh ah a w)(ew:gK ops=true)(ak:(ops.all fun R=>R.op.operands.all nq)=true)(a4:∀j R,ops[j]?=some R->bV P R=true->aZ (j+1)=aZ j)(bZ:∀j R,ops[j]?=some R->bV P R=false->eE P ops j=true\/Ext (aZ j) (aZ (j+1)))
  (bc:∀(i:Nat) (R:Oper),ops[i]?=some R->T (i+1)=fa (T i) R.dst (V i)){i:Nat}{R:Oper}(al:kZ ops X i R):∀x∈R.op.operands,bl (ah.below (aZ (mV s bh i)).length) (fg (T i) x) (a.eval x):=by
 intro x J
 obtain⟨a5,aM⟩:=Array.getElem?_eq_some_iff.1 al.1
 cases x with
 | tmp d=>
  have:d∈R.looksAt ops:=by
   unfold Oper.looksAt
   exact List.mem_append_left _ (List.mem_filterMap.2 ⟨.tmp d,by simpa using J,rfl⟩)
  exact ai.operand ew a4 bZ bc al this
 | const v=>
  have o:=Array.all_eq_true.1 ak i a5
  rw[aM]at o
  have:=Array.all_eq_true'.1 o _ J
  exact tV _ this
 | global g=>exact .sa g
 | func f=>exact .func _ rfl (fun i v au h=>by simp at h) rfl (fun i v au h=>by simp at h)
theorem Inv.wanted(ai:Inv P base ops T V aZ ir d_ X s bh ah a w)(ew:gK ops=true)(a4:∀j R,ops[j]?=some R->bV P R=true->aZ (j+1)=aZ j)(bZ:∀j R,ops[j]?=some R->bV P R=false->eE P ops j=true\/Ext (aZ j) (aZ (j+1)))
  (bc:∀(i:Nat) (R:Oper),ops[i]?=some R->T (i+1)=fa (T i) R.dst (V i)){i:Nat}{R:Oper}(al:kZ ops X i R):Region.wanted R (yielded ops a.tmps)=Region.wanted R (gX ops (T i)):=by
 have cC:i<ops.size:=(Array.getElem?_eq_some_iff.1 al.1).1
 refine Gx fun j b aU=>?_
 unfold yielded gX
 cases aA:(ops[j]?).bind (·.dst)with
 | none=>rfl
 | some d=>
  have hh:d∈R.looksAt ops:=by
   unfold Oper.looksAt
   refine List.mem_append_right _ ?_
   simp only[aU,aA]
   simp
  have an:=ai.operand ew a4 bZ bc al hh
  simp only[Option.bind_some]
  have uv:=oK bc i (by omega)
  by_cases jE: @LT.lt Nat _ d (T 0).length
  ·have bm:(T i)[d]?=some ((T i).getD d undef):=by
    rw[List.getD_eq_getElem?_getD,bB (by omega)]
    rfl
   have bk:a.tmps[d]?=some (a.tmps.getD d undef):=by
    have:=ai.fw
    rw[Array.getD_eq_getD_getElem?,Array.getElem?_eq_getElem (by omega)]
    rfl
   rw[bm,bk]
   exact an.hr.symm
  ·have bm:(T i)[d]?=none:=List.getElem?_eq_none (by omega)
   have bk:a.tmps[d]?=none:=Array.getElem?_eq_none (by have:=ai.fw;omega)
   rw[bm,bk]
theorem zL{a:Act}{dst:Option Tmp}{v:Value}{d n:Nat}(ar:a.tmps.size=n)(aA:d<n):(a.put dst v).tmps.getD d undef=if dst=some d then v else a.tmps.getD d undef:=by
 cases dst with
 | none=>simp[Act.put]
 | some e=>
  simp only[Act.put,Array.getD_eq_getD_getElem?,Array.getElem?_setIfInBounds]
  by_cases he:e=d
  ·subst he;simp[ar,aA]
  ·simp[he]
theorem BK(a:Act)(dst:Option Tmp)(v:Value):(a.put dst v).tmps.size=a.tmps.size:=by cases dst<;>simp[Act.put]
theorem Inv.Oi(ai:Inv P base ops T V aZ ir d_ X s bh ah a w)(ew:gK ops=true){i:Nat}{R:Oper}(al:kZ ops X i R)(az:bV P R=true){au:Value}(an:bl (ah.below (aZ (mV s bh i)).length) (V i) au)
  (a4:∀j R,ops[j]?=some R->bV P R=true->aZ (j+1)=aZ j):Inv P base ops T V aZ ir d_ (eX X i) s bh ah (a.put R.dst au) w:=by
 have cC:i<ops.size:=(Array.getElem?_eq_some_iff.1 al.1).1
 have cQ:∀j y,ops[j]?=some y->bV P y=false->j≠i:=fun j y aK MT e=>by
  subst e;rw[al.1]at aK;cases aK;rw[az]at MT;cases MT
 refine{ai with closed:=zy ai.closed al,before:=?_,after:=?_,eP:=?_,vT:=?_,fw:=?_,tmps:=?_,defers:=?_}
 ·intro j y o aa aB
  simp[eX,ai.before j y o aa aB]
 ·intro j y o aa aB
  simp[eX,ai.after j y o aa aB,cQ j y aa aB]
 ·intro b k ag
  rcases ai.eP b k ag with h | ⟨j,o,aa,aB,bs⟩
  ·exact .inl h
  ·exact .inr ⟨j,o,aa,by simp[eX,aB],bs⟩
 ·intro j aW aT
  simp only[eX,Bool.or_eq_true,decide_eq_true_eq]at aT
  rcases aT with rfl | aT
  ·have hw:jQ (aZ (mV s bh j)).length (V j):=jQ.of (fun b k ag=>(bg.jc ag).1) an
   have e:(aZ (qG s bh j)).length=(aZ (mV s bh j)).length:=by
    unfold qG mV
    split
    ·rfl
    ·split
     ·rw[a4 j R al.1 az]
     ·rfl
   rw[e]
   exact hw
  ·exact ai.vT j aW aT
 ·rw[BK];exact ai.fw
 ·intro d aA
  rw[zA ew ai.closed al,zL ai.fw aA]
  split
  ·exact an.ext fun b k ag=>(bg.jc ag).2
  ·exact ai.tmps d aA
 ·rw[put_defers];exact ai.defers
theorem Inv.aau(ai:Inv P base ops T V aZ ir d_ X s bh ah a w)(a4:∀j R,ops[j]?=some R->bV P R=true->aZ (j+1)=aZ j)(bZ:∀j R,ops[j]?=some R->bV P R=false->eE P ops j=true\/Ext (aZ j) (aZ (j+1)))
  {i:Nat}(o:s<=i)(aa:i<=bh):cl P base (ah.below (aZ i).length) (aZ i) w:=by
 have he:=ai.kD a4 bZ o aa (Nat.le_refl _)
 refine⟨?_,ai.i_.size,fun b k ag=>⟨(ai.i_.eP b k (bg.jc ag).2).1,(bg.jc ag).1⟩,fun b k x ag J=>?_,fun b ct k cb ag c8 cQ aM ar=>?_⟩
 ·have:=(ai.kD a4 bZ (Nat.le_refl _) o aa).len
  have:=ai.NV
  have:=ai.Be
  omega
 ·have rf:=he.get_some J
  refine(ai.i_.e8 b k x (bg.jc ag).2 rf).ZO fun cs v ae an au iR=>iR.restrict ?_
  exact ai.B9 i o aa b k x cs v (bg.jc ag).2 (bg.jc ag).1 rf ae an
 ·exact ai.i_.inj b ct k cb (bg.jc ag).2 (bg.jc c8).2 cQ ((p2 (he.get (bg.jc ag).1)).2 aM) ((x9 (he.get (bg.jc c8).1)).2 ar)
end
section
variable {P:Program} {base:Nat} {ops:Array Oper} {T:Nat->List Value} {V:Nat->Value} {aZ:Nat->ab} {ir:bg} {d_:World} {X:Nat->Bool} {s bh:Nat} {ah:bg} {a:Act} {w:World}
def bg.join(ah bu:bg)(l h:Nat):bg:=fun b=>if b<l then ah b else if b<h then bu b else ah b
theorem Inv.runM(ai:Inv P base ops T V aZ ir d_ X s bh ah a w)(ew:gK ops=true)(a4:∀j R,ops[j]?=some R->bV P R=true->aZ (j+1)=aZ j)(bZ:∀j R,ops[j]?=some R->bV P R=false->eE P ops j=true\/Ext (aZ j) (aZ (j+1)))
  {i:Nat}{R:Oper}(al:kZ ops X i R)(ih:s<=i)(fT:i<bh){bu:bg}{au:Value}{a7:World}(an:bl bu (V i) au)(bM:cl P base bu (aZ (i+1)) a7)(dd:Step (ah.below (aZ i).length) (aZ i) w bu (aZ (i+1)) a7):
  ∃qo,Inv P base ops T V aZ ir d_ (eX X i) s bh qo (a.put R.dst au) a7:=by
 have cC:i<ops.size:=(Array.getElem?_eq_some_iff.1 al.1).1
 have bm:=ai.kD a4 bZ ih (by omega) (show i+1<=bh by omega)
 have bk:=ai.kD a4 bZ (show s<=i+1 by omega) fT (Nat.le_refl _)
 have fP:=ai.kD a4 bZ ih (by omega) (Nat.le_refl bh)
 have es:=ai.kD a4 bZ (Nat.le_refl s) ih (by omega)
 have Bb:=bm.len
 have Bc:=bk.len
 have ls:=es.len
 have U4:∀b k,ah b=some k->b<(aZ i).length\/(aZ (i+1)).length<=b:=by
  intro b k ag
  rcases ai.eP b k ag with h | ⟨j,o,aa,aB,bs,bJ⟩
  ·exact .inl (by omega)
  ·rcases Nat.lt_trichotomy j i with a5 | heq | oX
   ·have:=(ai.kD a4 bZ (show s<=j+1 by omega) a5 (by omega)).len
    exact .inl (by omega)
   ·subst heq;rw[al.2.1]at aB;cases aB
   ·have:=(ai.kD a4 bZ (show s<=i+1 by omega) oX (by omega)).len
    exact .inr (by omega)
 have Ay:∀b k,ah b=some k->ah.join bu (aZ i).length (aZ (i+1)).length b=some k:=by
  intro b k ag
  unfold bg.join
  rcases U4 b k ag with h | h
  ·rw[if_pos h];exact ag
  ·rw[if_neg (by omega),if_neg (by omega)];exact ag
 have Ly:∀b k,bu b=some k->ah.join bu (aZ i).length (aZ (i+1)).length b=some k:=by
  intro b k ag
  have a5:=(bM.eP b k ag).2
  unfold bg.join
  rcases dd.new b k ag with h | h
  ·rw[if_pos (bg.jc h).1];exact(bg.jc h).2
  ·rw[if_neg (by omega),if_pos a5];exact ag
 have n2:∀b k,ah.join bu (aZ i).length (aZ (i+1)).length b=some k->(b<(aZ i).length/\ah b=some k/\bu b=some k)\/((aZ i).length<=b/\b<(aZ (i+1)).length/\bu b=some k)\/((aZ (i+1)).length<=b/\ah b=some k):=by
  intro b k ag
  unfold bg.join at ag
  by_cases o:b<(aZ i).length
  ·rw[if_pos o]at ag
   exact .inl ⟨o,ag,dd.ext b k (bg.Cz o ag)⟩
  ·rw[if_neg o]at ag
   by_cases aa:b<(aZ (i+1)).length
   ·rw[if_pos aa]at ag;exact .inr (.inl ⟨by omega,aa,ag⟩)
   ·rw[if_neg aa]at ag;exact .inr (.inr ⟨by omega,ag⟩)
 have D9:∀b k,ah.join bu (aZ i).length (aZ (i+1)).length b=some k->b<(aZ (i+1)).length->bu b=some k:=by
  intro b k ag a5
  rcases n2 b k ag with h | h | h
  ·exact h.2.2
  ·exact h.2.2
  ·omega
 have J4:∀b k x,ah b=some k->(aZ bh)[b]?=some x->x.cells?≠none->k.g<w.heap.size:=fun b k x ag J aG=>(ai.i_.e8 b k x ag J).lt aG
 have YL:∀b k,ah b=some k->lB (aZ bh) b->k.g<w.heap.size:=fun b k ag ⟨x,cs,J,ae⟩=>J4 b k x ag J (by rw[ae];simp)
 have q2:∀b k ct cb,(aZ i).length<=b->bu b=some k->hM (aZ (i+1)) b->ah ct=some cb->lB (aZ bh) ct->ct<(aZ i).length\/(aZ (i+1)).length<=ct->k.g≠cb.g:=by
  intro b k ct cb gP ag aM c8 dG AG
  rcases dd.own b k ag aM with h | ⟨hq,jL,o,aa,aB⟩
  ·have:=YL ct cb c8 dG
   omega
  ·by_cases pG:hq=ct
   ·
    subst pG
    have hm:=(bg.jc o).2
    rw[hm]at c8
    obtain rfl:=Option.some.inj c8
    have m2:=(bg.jc o).1
    have q3:lB (aZ (i+1)) hq:=(x9 (bk.get (by omega))).1 dG
    exact bM.inj b hq k jL ag (dd.ext _ _ o) (by omega) aM q3
   ·have:=ai.i_.inj hq ct jL cb (bg.jc o).2 c8 pG ((p2 (fP.get (bg.jc o).1)).2 aa) dG
    omega
 refine⟨ah.join bu (aZ i).length (aZ (i+1)).length,?_⟩
 refine{ai with closed:=zy ai.closed al,before:=?_,after:=?_,i_:=?_,ext:=fun b k ag=>Ay b k (ai.ext b k ag),eP:=?_,B9:=?_,vT:=?_,fw:=?_,tmps:=?_,defers:=?_,step:=?_}
 ·intro j y o aa aB
  simp[eX,ai.before j y o aa aB]
 ·intro j y o aa aB
  have:j≠i:=by omega
  simp[eX,ai.after j y o aa aB,this]
 ·refine⟨ai.i_.pos,bM.size,fun b k ag=>?_,fun b k x ag J=>?_,fun b ct k cb ag c8 cQ aM ar=>?_⟩
  ·rcases n2 b k ag with⟨h,cu,-⟩ | ⟨h,cu,sb⟩ | ⟨h,cu⟩
   ·exact ai.i_.eP b k cu
   ·have:=bM.eP b k sb;exact⟨this.1,by omega⟩
   ·exact ai.i_.eP b k cu
  ·by_cases a5:b<(aZ (i+1)).length
   ·have jU:=D9 b k ag a5
    rw[bk.get a5]at J
    exact(bM.e8 b k x jU J).gA Ly (fun _=>rfl) (Nat.le_refl _)
   ·rcases n2 b k ag with⟨h,-,-⟩ | ⟨-,h,-⟩ | ⟨h,cu⟩
    ·omega
    ·omega
    ·refine(ai.i_.e8 b k x cu J).gA Ay (fun aG=>dd.frame k.g (J4 b k x cu J aG) fun hq jL m2 AB=>?_) dd.size
     have KQ:=bg.jc m2
     obtain⟨nN,xd⟩:∃nN,x.cells?=some nN:=by cases av:x.cells? with | none=>exact absurd av aG | some q=>exact⟨q,rfl⟩
     exact ai.i_.inj hq b jL k KQ.2 cu (by omega) ((p2 (fP.get KQ.1)).2 AB) ⟨x,nN,J,xd⟩
  ·by_cases a5:b<(aZ (i+1)).length
   ·have jU:=D9 b k ag a5
    have q3:=(p2 (bk.get a5)).1 aM
    by_cases jH:ct<(aZ (i+1)).length
    ·exact bM.inj b ct k cb jU (D9 ct cb c8 jH) cQ q3 ((x9 (bk.get jH)).1 ar)
    ·rcases n2 ct cb c8 with⟨h,-,-⟩ | ⟨-,h,-⟩ | ⟨h,cu⟩
     ·omega
     ·omega
     ·rcases n2 b k ag with⟨q,p_,-⟩ | ⟨q,p_,N2⟩ | ⟨q,p_⟩
      ·exact ai.i_.inj b ct k cb p_ cu cQ aM ar
      ·exact q2 b k ct cb q jU q3 cu ar (.inr h)
      ·omega
   ·rcases n2 b k ag with⟨h,-,-⟩ | ⟨-,h,-⟩ | ⟨h,cu⟩
    ·omega
    ·omega
    ·rcases n2 ct cb c8 with⟨q,p_,-⟩ | ⟨q,p_,N2⟩ | ⟨q,p_⟩
     ·exact ai.i_.inj b ct k cb cu p_ cQ aM ar
     ·have gh:=(x9 (bk.get p_)).1 ar
      have q3:hM (aZ (i+1)) ct:=by
       obtain⟨x,cs,J,ae⟩:=gh
       cases x with
       | own e l c=>exact⟨e,l,c,J⟩
       | ro e c=>exact absurd rfl (bm.new q J e c)
       | dead=>simp[bK.cells?]at ae
      exact fun e=>q2 ct cb b k q N2 q3 cu aM.live (.inr h) e.symm
     ·exact ai.i_.inj b ct k cb cu p_ cQ aM ar
 ·intro b k ag
  rcases n2 b k ag with⟨h,cu,-⟩ | ⟨h,cu,sb⟩ | ⟨h,cu⟩
  ·rcases ai.eP b k cu with q | ⟨j,aY,a3,bN,ck⟩
   ·exact .inl q
   ·exact .inr ⟨j,aY,a3,by simp[eX,bN],ck⟩
  ·exact .inr ⟨i,ih,fT,by simp[eX],h,cu⟩
  ·rcases ai.eP b k cu with q | ⟨j,aY,a3,bN,ck⟩
   ·exact .inl q
   ·exact .inr ⟨j,aY,a3,by simp[eX,bN],ck⟩
 ·intro j o aa b k x cs v ag gP J ae sU
  rcases n2 b k ag with⟨h,cu,-⟩ | ⟨h,cu,sb⟩ | ⟨h,cu⟩
  ·exact ai.B9 j o aa b k x cs v cu gP J ae sU
  ·have fs:i+1<=j:=by
    rcases Nat.lt_or_ge i j with q | q
    ·exact q
    ·have:=(ai.kD a4 bZ o q (by omega)).len
     omega
   rw[bk.get cu]at J
   obtain⟨u,hu⟩:=(bM.e8 b k x sb J).Gv ae sU
   exact(jQ.of (fun b k ag=>(bM.eP b k ag).2) hu).mono (ai.kD a4 bZ (by omega) fs aa).len
  ·exact ai.B9 j o aa b k x cs v cu gP J ae sU
 ·intro j aW aT
  simp only[eX,Bool.or_eq_true,decide_eq_true_eq]at aT
  rcases aT with rfl | aT
  ·unfold qG
   rw[if_neg (by omega),if_pos fT]
   exact jQ.of (fun b k ag=>(bM.eP b k ag).2) an
  ·exact ai.vT j aW aT
 ·rw[BK];exact ai.fw
 ·intro d aA
  rw[zA ew ai.closed al,zL ai.fw aA]
  split
  ·exact an.ext Ly
  ·exact(ai.tmps d aA).ext Ay
 ·rw[put_defers];exact ai.defers
 ·have pS:=ai.Be
  refine⟨fun b k ag=>Ay b k (ai.ext b k ag),fun b k ag=>?_,ai.step.len,fun b k ag aM=>?_,dd.os.trans ai.step.os,dd.tape.trans ai.step.tape,dd.output.trans ai.step.output,Nat.le_trans ai.step.size dd.size,fun g aU cQ=>?_⟩
  ·rcases n2 b k ag with⟨h,cu,-⟩ | ⟨h,cu,sb⟩ | ⟨h,cu⟩
   ·exact ai.step.new b k cu
   ·exact .inr (by omega)
   ·exact ai.step.new b k cu
  ·rcases n2 b k ag with⟨h,cu,-⟩ | ⟨h,cu,sb⟩ | ⟨h,cu⟩
   ·exact ai.step.own b k cu aM
   ·rcases dd.own b k sb ((p2 (bk.get cu)).1 aM)with q | ⟨hq,jL,aY,a3,bN⟩
    ·exact .inl (Nat.le_trans ai.step.size q)
    ·have Bw:=bg.jc aY
     rcases ai.step.own hq jL Bw.2 ((p2 (fP.get Bw.1)).2 a3)with r | ⟨gN,jr,ee,fF,hW⟩
     ·exact .inl (by omega)
     ·exact .inr ⟨gN,jr,ee,fF,by omega⟩
   ·exact ai.step.own b k cu aM
  ·rw[dd.frame g (Nat.lt_of_lt_of_le aU ai.step.size) fun b k ag aM=>?_,ai.step.frame g aU cQ]
   have c8:=bg.jc ag
   rcases ai.step.own b k c8.2 ((p2 (fP.get c8.1)).2 aM)with r | ⟨gN,jr,ee,fF,hW⟩
   ·omega
   ·exact fun e=>cQ gN jr ee fF (by omega)
theorem Fk(ops:Array Oper):∀(m i:Nat),i+m=ops.size->∃bh,i<=bh/\bh<=ops.size/\(∀j R,i<=j->j<bh->ops[j]?=some R->bV P R=false->eE P ops j=false)/\(bh=ops.size\/∃R,ops[bh]?=some R/\bV P R=false/\eE P ops bh=true)
 | 0,i,h=>⟨i,Nat.le_refl _,by omega,fun j R o aa=>by omega,.inl (by omega)⟩
 | m+1,i,h=>by
  have a5:i<ops.size:=by omega
  have aM:=Array.getElem?_eq_getElem a5
  by_cases ag:bV P ops[i]=false/\eE P ops i=true
  ·exact⟨i,Nat.le_refl _,by omega,fun j R o aa=>by omega,.inr ⟨_,aM,ag.1,ag.2⟩⟩
  ·obtain⟨bh,o,aa,aB,bs⟩:=Fk ops m (i+1) (by omega)
   refine⟨bh,by omega,aa,fun j R aY a3 bN ck=>?_,bs⟩
   by_cases aW:j=i
   ·subst aW
    rw[aM]at bN
    obtain rfl:=Option.some.inj bN
    cases pL:eE P ops j with
    | false=>rfl
    | true=>exact absurd ⟨ck,pL⟩ ag
   ·exact aB j R (by omega) a3 bN ck
theorem Inv.Z1(ai:Inv P base ops T V aZ ir d_ X s bh ah a w)(ew:gK ops=true)(a4:∀j R,ops[j]?=some R->bV P R=true->aZ (j+1)=aZ j)(bZ:∀j R,ops[j]?=some R->bV P R=false->eE P ops j=true\/Ext (aZ j) (aZ (j+1)))
  {R:Oper}(al:kZ ops X bh R)(az:bV P R=false)(z_:eE P ops bh=true){bu:bg}{au:Value}{a7:World}(an:bl bu (V bh) au)(bM:cl P base bu (aZ (bh+1)) a7)(dd:Step ah (aZ bh) w bu (aZ (bh+1)) a7):
  ∃o9 qo,Inv P base ops T V aZ ir d_ (eX X bh) (bh+1) o9 qo (a.put R.dst au) a7:=by
 have cC:bh<ops.size:=(Array.getElem?_eq_some_iff.1 al.1).1
 obtain⟨o9,o,aa,aB,bs⟩:=Fk ops (ops.size-(bh+1)) (bh+1) (by omega)
 have m5:∀{i j:Nat},bh+1<=i->i<=j->j<=o9->Ext (aZ i) (aZ j):=fun{i j} aY a3 bN=>by
  have:=yy a4 bZ aa aB (j-i) i aY (by omega)
  rwa[show i+(j-i)=j by omega]at this
 have e:=m5 (Nat.le_refl _) o (Nat.le_refl _)
 have u7:=ai.dp
 have ls:=(ai.kD a4 bZ (Nat.le_refl s) u7 (Nat.le_refl _)).len
 have df:=dd.len
 have pS:=ai.Be
 refine⟨o9,bu,?_⟩
 refine⟨zy ai.closed al,o,aa,aB,fun j y aY a3 bN=>?_,fun j y aY a3 bN=>?_,bs,bM.grow e,fun b k ag=>dd.ext b k (ai.ext b k ag),fun b k ag=> .inl (bM.eP b k ag).2,?_,?_,fun v an=>(ai.PD v an).mono (by omega),ai.NV,by omega,by rw[BK];exact ai.fw,?_,by rw[put_defers];exact ai.defers,(ai.step.trans dd).grow bM e⟩
 ·by_cases aW:j=bh
  ·subst aW;simp[eX]
  ·have ag:=tE z_ a3 bN aW
   rw[show min bh j=j by omega,show max bh j=bh by omega]at ag
   have:=tM ew ai.closed bh R al.1 al.2.2 j (by omega) ag
   simp[eX,this]
 ·have aW:j≠bh:=by omega
  have gg:j<ops.size:=(Array.getElem?_eq_some_iff.1 a3).1
  cases aT:X j with
  | false=>simp[eX,aT,aW]
  | true=>
   have ag:=tE z_ a3 bN aW
   rw[show min bh j=bh by omega,show max bh j=j by omega]at ag
   have:=zx ew ai.closed gg aT cC ag
   rw[al.2.1]at this
   cases this
 ·intro j aY a3 b k x cs v ag gP J ae sU
  have mr:=(bM.eP b k ag).2
  rw[e.get mr]at J
  obtain⟨u,hu⟩:=(bM.e8 b k x ag J).Gv ae sU
  exact(jQ.of (fun b k ag=>(bM.eP b k ag).2) hu).mono (m5 (Nat.le_refl _) aY a3).len
 ·intro j aW aT
  simp only[eX,Bool.or_eq_true,decide_eq_true_eq]at aT
  have gz:(aZ (bh+1)).length<=(aZ (qG (bh+1) o9 j)).length:=by
   unfold qG
   split
   ·exact Nat.le_refl _
   ·split
    ·exact(m5 (Nat.le_refl _) (by omega) (by omega)).len
    ·exact(m5 (Nat.le_refl _) o (Nat.le_refl _)).len
  rcases aT with rfl | aT
  ·exact(jQ.of (fun b k ag=>(bM.eP b k ag).2) an).mono gz
  ·refine(ai.vT j aW aT).mono (Nat.le_trans ?_ (Nat.le_trans df gz))
   unfold qG
   split
   ·exact ls
   ·split
    ·exact(ai.kD a4 bZ (by omega) (by omega) (Nat.le_refl _)).len
    ·exact Nat.le_refl _
 ·intro d aA
  rw[zA ew ai.closed al,zL ai.fw aA]
  split
  ·exact an
  ·exact(ai.tmps d aA).ext dd.ext
theorem Oe{du:Array Bool}{i:Nat}(h:i∈Region.ready .any ops du)(ar:du.size=ops.size):∃R,kZ ops (fun j=>du.getD j false) i R:=by
 unfold Region.ready at h
 rw[List.mem_filter]at h
 obtain⟨o,aa⟩:=h
 have a5:i<ops.size:=List.mem_range.1 o
 have aM:=Array.getElem?_eq_getElem a5
 simp only[aM,Option.map_some,Option.getD_some,Bool.and_eq_true,Bool.not_eq_true',Array.all_eq_true']at aa
 refine⟨ops[i],aM,?_,fun e he ag=>?_⟩
 ·have:=aa.1
  simp only[Array.getD_eq_getD_getElem?,Array.getElem?_eq_getElem (show i<du.size by omega),Option.getD_some]at this⊢
  exact this
 ·have:=aa.2 e he
  simpa[ag]using this
theorem Od{du:Array Bool}(h:Region.ready .any ops du=[])(ar:du.size=ops.size)(ew:gK ops=true):∀i,i<ops.size->du.getD i false=true:=by
 intro i
 induction i using Nat.strongRecOn with
 | _ i a0=>
  intro ad
  cases ae:du.getD i false with
  | true=>rfl
  | false=>
   have aM:=Array.getElem?_eq_getElem ad
   have hh:i∈Region.ready .any ops du:=by
    unfold Region.ready
    rw[List.mem_filter]
    refine⟨List.mem_range.2 ad,?_⟩
    simp only[aM,Option.map_some,Option.getD_some,Bool.and_eq_true,Bool.not_eq_true',Array.all_eq_true']
    constructor
    ·simp only[Array.getD_eq_getD_getElem?,Array.getElem?_eq_getElem (show i<du.size by omega),Option.getD_some]at ae⊢
     exact ae
    ·intro e he
     cases ag:Region.binds .any e with
     | false=>simp
     | true=>
      have:=RO ew aM he ag
      simp[a0 e.on this (by omega)]
   rw[h]at hh
   cases hh
theorem Nb{du:Array Bool}{i:Nat}(ad:i<du.size):(fun j=>(du.setIfInBounds i true).getD j false)=eX (fun j=>du.getD j false) i:=by
 funext j
 simp only[eX,Array.getD_eq_getD_getElem?,Array.getElem?_setIfInBounds]
 by_cases h:i=j
 ·subst h;simp[ad]
 ·have:j≠i:=fun e=>h e.symm
  simp[h,this]
def tj(n:Nat)(X:Nat->Bool):Nat:=((List.range n).filter fun i=> !X i).length
theorem B8{n:Nat}{X:Nat->Bool}{i:Nat}(ad:i<n)(aT:X i=false):tj n (eX X i)+1<=tj n X:=by
 unfold tj
 have:∀(l:List Nat),l.Nodup->(l.filter fun j=> !eX X i j).length+(if i∈l then 1 else 0)=(l.filter fun j=> !X j).length:=by
  intro l ar
  induction l with
  | nil=>rfl
  | cons a l a0=>
   rw[List.nodup_cons]at ar
   have a0:=a0 ar.2
   by_cases k_:a=i
   ·subst k_
    rw[if_neg ar.1]at a0
    simp only[List.filter_cons,eX,decide_true,Bool.true_or,Bool.not_true,aT,Bool.not_false,List.mem_cons,true_or,if_true]
    simp only[eX,Bool.not_or]at a0
    simp
    omega
   ·have hm:(i∈a::l)↔i∈l:=by simp[Ne.symm k_]
    simp only[hm]
    have e:eX X i a=X a:=by simp[eX,k_]
    simp only[List.filter_cons,e]
    cases X a
    ·simp only[Bool.not_false,if_true,List.length_cons];omega
    ·simpa using a0
 have:=this (List.range n) List.nodup_range
 rw[if_pos (List.mem_range.2 ad)]at this
 omega
theorem Qb{Q:Exit->Act->World->Prop}(ew:gK ops=true)(ak:(ops.all fun R=>R.op.operands.all nq)=true)(h:∀(i:Nat) (R:Oper),ops[i]?=some R->tz P base ops R (T i) (aZ i) (V i) (aZ (i+1)))
  (bc:∀(i:Nat) (R:Oper),ops[i]?=some R->T (i+1)=fa (T i) R.dst (V i))(bZ:∀j R,ops[j]?=some R->bV P R=false->eE P ops j=true\/Ext (aZ j) (aZ (j+1)))
  (aD:∀bu b1 a7,cK bu (T ops.size) b1.tmps.toList->b1.defers=[]->cl P base bu (aZ ops.size) a7->Step ir (aZ 0) d_ bu (aZ ops.size) a7->Q .normal b1 a7):
  ∀(fuel:Nat) (du:Array Bool) (s bh:Nat) (ah:bg) (a:Act) (w:World),du.size=ops.size->tj ops.size (fun j=>du.getD j false)<=fuel->Inv P base ops T V aZ ir d_ (fun j=>du.getD j false) s bh ah a w->wpAny P .any ops Q fuel du a w:=by
 have a4:∀j R,ops[j]?=some R->bV P R=true->aZ (j+1)=aZ j:=fun j R aM az=>by
  rcases h j R aM with⟨-,-,aB⟩ | ⟨-,-,-,aB⟩ | ⟨-,aa,-⟩
  ·exact aB
  ·exact aB
  ·rw[az]at aa;cases aa
 have fin:∀(du:Array Bool) (s bh:Nat) (ah:bg) (a:Act) (w:World),du.size=ops.size->(∀i,i<ops.size->du.getD i false=true)->Inv P base ops T V aZ ir d_ (fun j=>du.getD j false) s bh ah a w->Q .normal a w:=by
  intro du s bh ah a w ar ey ai
  have Az:bh=ops.size:=by
   rcases ai.stop with h | ⟨R,o,aa,-⟩
   ·exact h
   ·have:=ai.after bh R (Nat.le_refl _) o aa
    have:=ey bh (Array.getElem?_eq_some_iff.1 o).1
    simp_all
  subst Az
  refine aD ah a w ⟨?_,fun d v au an dJ=>?_⟩ ai.defers ai.i_ ai.step
  ·rw[oK bc _ (Nat.le_refl _)];simpa using ai.fw.symm
  ·have jE:d<(T 0).length:=by
    have:=(cH.1 an).1
    rwa[oK bc _ (Nat.le_refl _)]at this
   have iR:=ai.tmps d jE
   rw[wv (Y:=fun j=>decide (j<ops.size)) (fun j aW=>by rw[ey j (tr aW)];simp[tr aW]),<-v9 bc _ (Nat.le_refl _) d jE]at iR
   rw[List.getD_eq_getElem?_getD,an]at iR
   have bk:a.tmps[d]?=some au:=by simpa using dJ
   rw[Array.getD_eq_getD_getElem?,bk]at iR
   exact iR
 intro fuel
 induction fuel with
 | zero=>
  intro du s bh ah a w ar hu ai
  have ey:∀i,i<ops.size->du.getD i false=true:=by
   intro i ad
   cases ae:du.getD i false with
   | true=>rfl
   | false=>have:=B8 (X:=fun j=>du.getD j false) ad ae;omega
  refine⟨?_,fin du s bh ah a w ar ey ai⟩
  unfold Region.ready
  rw[List.filter_eq_nil_iff]
  intro i ad
  have:=ey i (List.mem_range.1 ad)
  simp only[Array.getD_eq_getD_getElem?,Array.getElem?_eq_getElem (show i<du.size by have:=List.mem_range.1 ad;omega),Option.getD_some]at this⊢
  simp[this]
 | succ fuel a0=>
  intro du s bh ah a w ar hu ai
  refine⟨fun aG=>fin du s bh ah a w ar (Od aG ar ew) ai,fun i ad=>?_⟩
  obtain⟨R,al⟩:=Oe ad ar
  have cC:i<ops.size:=(Array.getElem?_eq_some_iff.1 al.1).1
  have j1:=Nb (du:=du) (i:=i) (by omega)
  have cont:∀(dz o9:Nat) (qo:bg) (au:Value) (a7:World),Inv P base ops T V aZ ir d_ (eX (fun j=>du.getD j false) i) dz o9 qo (a.put R.dst au) a7->wpAny P .any ops Q fuel (du.setIfInBounds i true) (a.put R.dst au) a7:=by
   intro dz o9 qo au a7 rT
   refine a0 _ dz o9 qo _ a7 (by simpa using ar) ?_ (by rw[j1];exact rT)
   rw[j1]
   have:=B8 (X:=fun j=>du.getD j false) cC al.2.1
   omega
  unfold wpOp
  simp only[al.1,ai.wanted ew a4 bZ bc al]
  have mz:=ai.operands ew ak a4 bZ bc al
  have mem:bV P R=false->∀bu au a7,bl bu (V i) au->cl P base bu (aZ (i+1)) a7->Step (ah.below (aZ i).length) (aZ i) w bu (aZ (i+1)) a7->wpAny P .any ops Q fuel (du.setIfInBounds i true) (a.put R.dst au) a7:=by
   intro az bu au a7 an bM dd
   have ih:s<=i:=by
    rcases Nat.lt_or_ge i s with q | q
    ·exact(Bool.false_ne_true (al.2.1.symm.trans (ai.before i R q al.1 az))).elim
    ·exact q
   have fT:i<=bh:=by
    rcases Nat.lt_or_ge bh i with q | q
    ·rcases ai.stop with cu | ⟨y,aY,a3,bN⟩
     ·omega
     ·have ag:=tE bN al.1 az (by omega)
      rw[show min bh i=bh by omega,show max bh i=i by omega]at ag
      have:=tM ew ai.closed i R al.1 al.2.2 bh (Array.getElem?_eq_some_iff.1 aY).1 ag
      have:=ai.after bh y (Nat.le_refl _) aY a3
      simp_all
    ·exact q
   by_cases heq:i=bh
   ·subst heq
    have z_:eE P ops i=true:=by
     rcases ai.stop with cu | ⟨y,aY,a3,bN⟩
     ·omega
     ·exact bN
    have UU:ah.below (aZ i).length=ah:=by
     funext b
     unfold bg.below
     split
     ·rfl
     ·cases ag:ah b with
      | none=>rfl
      | some k=>have:=(ai.i_.eP b k ag).2;omega
    rw[UU]at dd
    obtain⟨o9,qo,rT⟩:=ai.Z1 ew a4 bZ al az z_ an bM dd
    exact cont _ _ _ _ _ rT
   ·obtain⟨qo,rT⟩:=ai.runM ew a4 bZ al ih (by omega) an bM dd
    exact cont _ _ _ _ _ rT
  have FV:bV P R=false->cl P base (ah.below (aZ i).length) (aZ i) w/\∀x∈R.op.operands,bl (ah.below (aZ i).length) (fg (T i) x) (a.eval x):=by
   intro az
   have ih:s<=i:=by
    rcases Nat.lt_or_ge i s with q | q
    ·exact(Bool.false_ne_true (al.2.1.symm.trans (ai.before i R q al.1 az))).elim
    ·exact q
   have fT:i<=bh:=by
    rcases Nat.lt_or_ge bh i with q | q
    ·rcases ai.stop with cu | ⟨y,aY,a3,bN⟩
     ·omega
     ·have ag:=tE bN al.1 az (by omega)
      rw[show min bh i=bh by omega,show max bh i=i by omega]at ag
      have:=tM ew ai.closed i R al.1 al.2.2 bh (Array.getElem?_eq_some_iff.1 aY).1 ag
      have:=ai.after bh y (Nat.le_refl _) aY a3
      simp_all
    ·exact q
   refine⟨ai.aau a4 bZ ih fT,?_⟩
   have RM:mV s bh i=i:=by unfold mV;rw[if_neg (by omega)];split<;>omega
   rw[RM]at mz
   exact mz
  rcases h i R al.1 with⟨o,aa,aB⟩ | ⟨o,aa,aB,bs⟩ | ⟨o,aa,aB⟩
  ·rw[o]
   cases az:bV P R with
   | true=>exact cont _ _ _ undef _ (ai.Oi (au:=undef) ew al az (by rw[aa];exact bl.undef _) a4)
   | false=>exact mem az (ah.below (aZ i).length) undef w (by rw[aa];exact bl.undef _) (aB▸(FV az).1) (aB▸Step.refl _ _ _)
  ·rw[o]
   obtain⟨au,gT,an⟩:=CY aB mz w
   refine .inl ?_
   unfold Oper.wp
   rw[gT]
   exact cont _ _ _ _ _ (ai.Oi ew al aa an a4)
  ·rw[o]
   exact .inl (aB (ah.below (aZ i).length) w a (FV aa).2 (FV aa).1 _ _ fun bu au a7 an bM dd=>mem aa bu au a7 an bM dd)
end
section
variable {P:Program} {base:Nat} {ops:Array Oper} {T:Nat->List Value} {V:Nat->Value} {aZ:Nat->ab} {ef:Nat->Option (Nat×Option bK)} {ah:bg} {d_:World} {X:Nat->Bool} {a:Act} {w:World} {H:ab}
def mT(ef:Nat->Option (Nat×Option bK))(j b:Nat):Prop:=∃x,ef j=some (b,some x)
theorem YE(ar:∀(i:Nat) (R:Oper),ops[i]?=some R->oF P ops R (T i) (aZ i) (V i) (aZ (i+1)) (ef i)){i:Nat}(ad:i<ops.size){b:Nat}(hw:¬mT ef i b):(aZ (i+1))[b]?=(aZ i)[b]?:=by
 have h:=ar i _ (Array.getElem?_eq_getElem ad)
 cases bO:ef i with
 | none=>rw[bO]at h;rw[h.2]
 | some bI=>
  obtain⟨c,y⟩:=bI
  rw[bO]at h
  obtain⟨-,-,-,-,bJ,-⟩:=h
  cases y with
  | none=>rw[bJ];rfl
  | some x=>
   simp only[mF]at bJ
   have:c≠b:=fun e=>hw ⟨x,by rw[bO,e]⟩
   rw[bJ,List.getElem?_set_ne this]
theorem M9(ar:∀(i:Nat) (R:Oper),ops[i]?=some R->oF P ops R (T i) (aZ i) (V i) (aZ (i+1)) (ef i)):∀i,i<=ops.size->(aZ i).length=(aZ 0).length
 | 0,_=>rfl
 | i+1,ad=>by
  have a0:=M9 ar i (by omega)
  have h:=ar i _ (Array.getElem?_eq_getElem (show i<ops.size by omega))
  cases bO:ef i with
  | none=>rw[bO]at h;rw[h.2,a0]
  | some bI=>
   obtain⟨c,y⟩:=bI
   rw[bO]at h
   obtain⟨-,-,-,-,bJ,-⟩:=h
   cases y with
   | none=>rw[bJ,<-a0];rfl
   | some x=>rw[bJ];simp[mF,a0]
theorem Bd(ar:∀(i:Nat) (R:Oper),ops[i]?=some R->oF P ops R (T i) (aZ i) (V i) (aZ (i+1)) (ef i)){b:Nat}:∀(m i:Nat),i+m<=ops.size->(∀j,i<=j->j<i+m->¬mT ef j b)->(aZ (i+m))[b]?=(aZ i)[b]?
 | 0,i,_,_=>rfl
 | m+1,i,h,hw=>by
  have a0:=Bd ar m i (by omega) fun j o aa=>hw j o (by omega)
  rw[<-a0]
  exact YE ar (show i+m<ops.size by omega) (hw (i+m) (by omega) (by omega))
structure lA (P:Program) (base:Nat) (ops:Array Oper) (T:Nat->List Value) (V:Nat->Value) (aZ:Nat->ab) (ef:Nat->Option (Nat×Option bK)) (ah:bg) (d_:World) (X:Nat->Bool) (a:Act) (w:World) (H:ab):Prop where
 closed:pq ops X
 size:∀j,X j=true->j<ops.size
 len:H.length=(aZ 0).length
 row:∀b,∃k,k<=ops.size/\(∀j,j<k->mT ef j b->X j=true)/\(∀j,k<=j->mT ef j b->X j=false)/\H[b]?=(aZ k)[b]?
 i_:cl P base ah H w
 fw:a.tmps.size=(T 0).length
 tmps:∀d,d<(T 0).length->bl ah (cur ops V (T 0) X d) (a.tmps.getD d undef)
 defers:a.defers=[]
 step:Step ah (aZ 0) d_ ah H w
theorem lA.operand(ai:lA P base ops T V aZ ef ah d_ X a w H)(ew:gK ops=true)(bc:∀(i:Nat) (R:Oper),ops[i]?=some R->T (i+1)=fa (T i) R.dst (V i)){i:Nat}{R:Oper}(al:kZ ops X i R){d:Tmp}(aA:d∈R.looksAt ops):
  bl ah ((T i).getD d undef) (a.tmps.getD d undef):=by
 have cC:i<ops.size:=(Array.getElem?_eq_some_iff.1 al.1).1
 by_cases jE: @LT.lt Nat _ d (T 0).length
 ·rw[v9 bc i (by omega) d jE,<-Js ew ai.closed al (.inl aA)]
  exact ai.tmps d jE
 ·have o:(T i).getD d undef=undef:=by
   rw[List.getD_eq_getElem?_getD,List.getElem?_eq_none (by rw[oK bc i (by omega)];omega)]
   rfl
  have aa:a.tmps.getD d undef=undef:=by
   have:=ai.fw
   rw[Array.getD_eq_getD_getElem?,Array.getElem?_eq_none (by omega)]
   rfl
  rw[o,aa]
  exact bl.undef _
theorem lA.operands(ai:lA P base ops T V aZ ef ah d_ X a w H)(ew:gK ops=true)(ak:(ops.all fun R=>R.op.operands.all nq)=true)(bc:∀(i:Nat) (R:Oper),ops[i]?=some R->T (i+1)=fa (T i) R.dst (V i)){i:Nat}{R:Oper}(al:kZ ops X i R):
  ∀x∈R.op.operands,bl ah (fg (T i) x) (a.eval x):=by
 intro x J
 obtain⟨a5,aM⟩:=Array.getElem?_eq_some_iff.1 al.1
 cases x with
 | tmp d=>
  have:d∈R.looksAt ops:=by
   unfold Oper.looksAt
   exact List.mem_append_left _ (List.mem_filterMap.2 ⟨.tmp d,by simpa using J,rfl⟩)
  exact ai.operand ew bc al this
 | const v=>
  have o:=Array.all_eq_true.1 ak i a5
  rw[aM]at o
  exact tV _ (Array.all_eq_true'.1 o _ J)
 | global g=>exact .sa g
 | func f=>exact .func _ rfl (fun i v au h=>by simp at h) rfl (fun i v au h=>by simp at h)
theorem lA.wanted(ai:lA P base ops T V aZ ef ah d_ X a w H)(ew:gK ops=true)(bc:∀(i:Nat) (R:Oper),ops[i]?=some R->T (i+1)=fa (T i) R.dst (V i)){i:Nat}{R:Oper}(al:kZ ops X i R):
  Region.wanted R (yielded ops a.tmps)=Region.wanted R (gX ops (T i)):=by
 have cC:i<ops.size:=(Array.getElem?_eq_some_iff.1 al.1).1
 refine Gx fun j b aU=>?_
 unfold yielded gX
 cases aA:(ops[j]?).bind (·.dst)with
 | none=>rfl
 | some d=>
  have hh:d∈R.looksAt ops:=by
   unfold Oper.looksAt
   refine List.mem_append_right _ ?_
   simp only[aU,aA]
   simp
  have an:=ai.operand ew bc al hh
  simp only[Option.bind_some]
  have uv:=oK bc i (by omega)
  by_cases jE: @LT.lt Nat _ d (T 0).length
  ·have bm:(T i)[d]?=some ((T i).getD d undef):=by
    rw[List.getD_eq_getElem?_getD,bB (by omega)]
    rfl
   have bk:a.tmps[d]?=some (a.tmps.getD d undef):=by
    have:=ai.fw
    rw[Array.getD_eq_getD_getElem?,Array.getElem?_eq_getElem (by omega)]
    rfl
   rw[bm,bk]
   exact an.hr.symm
  ·have bm:(T i)[d]?=none:=List.getElem?_eq_none (by omega)
   have bk:a.tmps[d]?=none:=Array.getElem?_eq_none (by have:=ai.fw;omega)
   rw[bm,bk]
theorem lA.put(ai:lA P base ops T V aZ ef ah d_ X a w H)(ew:gK ops=true){i:Nat}{R:Oper}(al:kZ ops X i R){au:Value}{a7:World}{H1:ab}(hlen:H1.length=H.length)(Wi:∀b,mT ef i b->H1[b]?=(aZ (i+1))[b]?/\(∀j,j<i->mT ef j b->X j=true)/\∀j,i<j->mT ef j b->X j=false)
  (U8:∀b,¬mT ef i b->H1[b]?=H[b]?)(an:bl ah (V i) au)(bM:cl P base ah H1 a7)(dd:Step ah H w ah H1 a7):lA P base ops T V aZ ef ah d_ (eX X i) (a.put R.dst au) a7 H1:=by
 have cC:i<ops.size:=(Array.getElem?_eq_some_iff.1 al.1).1
 refine⟨zy ai.closed al,fun j aW=>?_,by rw[hlen,ai.len],fun b=>?_,bM,by rw[BK];exact ai.fw,fun d aA=>?_,by rw[put_defers];exact ai.defers,ai.step.trans dd⟩
 ·simp only[eX,Bool.or_eq_true,decide_eq_true_eq]at aW
  rcases aW with rfl | aW
  ·exact cC
  ·exact ai.size j aW
 ·by_cases hw:mT ef i b
  ·obtain⟨aY,a3,bN⟩:=Wi b hw
   refine⟨i+1,by omega,fun j aW re=>?_,fun j aW re=>?_,aY⟩
   ·by_cases fs:j=i
    ·subst fs;simp[eX]
    ·simp[eX,a3 j (by omega) re]
   ·have:j≠i:=by omega
    simp[eX,bN j (by omega) re,this]
  ·obtain⟨k,jr,kt,s6,yb⟩:=ai.row b
   refine⟨k,jr,fun j aW re=>by simp[eX,kt j aW re],fun j aW re=>?_,by rw[U8 b hw];exact yb⟩
   have:j≠i:=fun e=>hw (e▸re)
   simp[eX,s6 j aW re,this]
 ·rw[zA ew ai.closed al,zL ai.fw aA]
  split
  ·exact an
  ·exact ai.tmps d aA
theorem Y5{bu:bg}{H1:ab}{a7:World}(bM:cl P base bu H1 a7)(dd:Step ah H w bu H1 a7)(hlen:H1.length=H.length):bu=ah:=by
 funext b
 cases h:bu b with
 | none=>
  cases cu:ah b with
  | none=>rfl
  | some k=>rw[dd.ext b k cu]at h;cases h
 | some k=>
  rcases dd.new b k h with cu | cu
  ·exact cu.symm
  ·have:=(bM.eP b k h).2;omega
theorem YD{Q:Exit->Act->World->Prop}(ew:gK ops=true)(ak:(ops.all fun R=>R.op.operands.all nq)=true)(h:∀(i:Nat) (R:Oper),ops[i]?=some R->tz P base ops R (T i) (aZ i) (V i) (aZ (i+1)))
  (bc:∀(i:Nat) (R:Oper),ops[i]?=some R->T (i+1)=fa (T i) R.dst (V i))(ar:∀(i:Nat) (R:Oper),ops[i]?=some R->oF P ops R (T i) (aZ i) (V i) (aZ (i+1)) (ef i))
  (lU:∀(i j:Nat) (b:Nat) (x:bK) (y:Option bK),ef i=some (b,some x)->ef j=some (b,y)->i≠j->eE P ops i=true\/eE P ops j=true)
  (u9:∀j,ops.size<=j->ef j=none)(aD:∀bu b1 a7,cK bu (T ops.size) b1.tmps.toList->b1.defers=[]->cl P base bu (aZ ops.size) a7->Step ah (aZ 0) d_ bu (aZ ops.size) a7->Q .normal b1 a7):
  ∀(fuel:Nat) (du:Array Bool) (a:Act) (w:World) (H:ab),du.size=ops.size->tj ops.size (fun j=>du.getD j false)<=fuel->lA P base ops T V aZ ef ah d_ (fun j=>du.getD j false) a w H->wpAny P .any ops Q fuel du a w:=by
 have fin:∀(du:Array Bool) (a:Act) (w:World) (H:ab),du.size=ops.size->(∀i,i<ops.size->du.getD i false=true)->lA P base ops T V aZ ef ah d_ (fun j=>du.getD j false) a w H->Q .normal a w:=by
  intro du a w H j1 ey ai
  have Df:H=aZ ops.size:=by
   apply List.ext_getElem?
   intro b
   obtain⟨k,jr,kt,s6,yb⟩:=ai.row b
   have:=Bd ar (b:=b) (ops.size-k) k (by omega) fun j o aa hw=>by
    have aB:=s6 j o hw
    rw[ey j (by omega)]at aB
    cases aB
   rw[show k+(ops.size-k)=ops.size by omega]at this
   rw[yb,this]
  subst Df
  refine aD ah a w ⟨?_,fun d v au an dJ=>?_⟩ ai.defers ai.i_ ai.step
  ·rw[oK bc _ (Nat.le_refl _)];simpa using ai.fw.symm
  ·have jE:d<(T 0).length:=by
    have:=(cH.1 an).1
    rwa[oK bc _ (Nat.le_refl _)]at this
   have iR:=ai.tmps d jE
   rw[wv (Y:=fun j=>decide (j<ops.size)) (fun j aW=>by rw[ey j (tr aW)];simp[tr aW]),<-v9 bc _ (Nat.le_refl _) d jE]at iR
   rw[List.getD_eq_getElem?_getD,an]at iR
   have bk:a.tmps[d]?=some au:=by simpa using dJ
   rw[Array.getD_eq_getD_getElem?,bk]at iR
   exact iR
 intro fuel
 induction fuel with
 | zero=>
  intro du a w H j1 hu ai
  have ey:∀i,i<ops.size->du.getD i false=true:=by
   intro i ad
   cases ae:du.getD i false with
   | true=>rfl
   | false=>have:=B8 (X:=fun j=>du.getD j false) ad ae;omega
  refine⟨?_,fin du a w H j1 ey ai⟩
  unfold Region.ready
  rw[List.filter_eq_nil_iff]
  intro i ad
  have:=ey i (List.mem_range.1 ad)
  simp only[Array.getD_eq_getD_getElem?,Array.getElem?_eq_getElem (show i<du.size by have:=List.mem_range.1 ad;omega),Option.getD_some]at this⊢
  simp[this]
 | succ fuel a0=>
  intro du a w H j1 hu ai
  refine⟨fun aG=>fin du a w H j1 (Od aG j1 ew) ai,fun i ad=>?_⟩
  obtain⟨R,al⟩:=Oe ad j1
  have cC:i<ops.size:=(Array.getElem?_eq_some_iff.1 al.1).1
  have sM:=Nb (du:=du) (i:=i) (by omega)
  have cont:∀(au:Value) (a7:World) (H1:ab),lA P base ops T V aZ ef ah d_ (eX (fun j=>du.getD j false) i) (a.put R.dst au) a7 H1->wpAny P .any ops Q fuel (du.setIfInBounds i true) (a.put R.dst au) a7:=by
   intro au a7 H1 rT
   refine a0 _ _ a7 H1 (by simpa using j1) ?_ (by rw[sM];exact rT)
   rw[sM]
   have:=B8 (X:=fun j=>du.getD j false) cC al.2.1
   omega
  have mz:=ai.operands ew ak bc al
  have Wc:=ai.wanted ew bc al
  have Ao:=ar i R al.1
  unfold wpOp
  simp only[al.1,Wc]
  cases bO:ef i with
  | none=>
   rw[bO]at Ao
   obtain⟨av,ahc⟩:=Ao
   have quiet:∀au,bl ah (V i) au->lA P base ops T V aZ ef ah d_ (eX (fun j=>du.getD j false) i) (a.put R.dst au) w H:=fun au an=>
    ai.put ew al rfl (fun b ag=>by obtain⟨x,J⟩:=ag;rw[bO]at J;cases J) (fun b _=>rfl) an ai.i_ (Step.refl _ _ _)
   rcases h i R al.1 with⟨o,aa,aB⟩ | ⟨o,aa,aB,bs⟩ | ⟨o,aa,aB⟩
   ·rw[o]
    exact cont undef w H (quiet undef (by rw[aa];exact bl.undef _))
   ·rw[o]
    obtain⟨au,gT,an⟩:=CY aB mz w
    refine .inl ?_
    unfold Oper.wp
    rw[gT]
    exact cont au w H (quiet au an)
   ·rcases av with q | q
    ·rw[o]at q;cases q
    ·rw[aa]at q;cases q
  | some bI=>
   obtain⟨b,y⟩:=bI
   rw[bO]at Ao
   obtain⟨o,aa,aB,bs,bJ,dP⟩:=Ao
   rw[o]
   have LM:∀j,j≠i->mT ef j b->oM (Region.before ops) (min j i) (max j i)=true:=fun j aW ⟨x,J⟩=>by
    have gg:j<ops.size:=by
     rcases Nat.lt_or_ge j ops.size with q | q
     ·exact q
     ·exact absurd J (by rw[u9 j q];simp)
    have xy:=Array.getElem?_eq_getElem gg
    have Lr:=ar j _ xy
    rw[J]at Lr
    rcases lU j i b x y J bO aW with q | q
    ·exact tE q al.1 aa (Ne.symm aW)
    ·have:=tE q xy Lr.2.1 aW
     rw[Nat.min_comm,Nat.max_comm]
     exact this
   have g4:∀j,j<i->mT ef j b->du.getD j false=true:=fun j aW hw=>by
    have aI:=LM j (by omega) hw
    rw[show min j i=j by omega,show max j i=i by omega]at aI
    exact tM ew ai.closed i R al.1 al.2.2 j (by omega) aI
   have h3:∀j,i<j->mT ef j b->du.getD j false=false:=fun j aW hw=>by
    have aI:=LM j (by omega) hw
    rw[show min j i=i by omega,show max j i=j by omega]at aI
    cases aT:du.getD j false with
    | false=>rfl
    | true=>
     have:=zx ew ai.closed (ai.size j aT) aT cC aI
     exact absurd (al.2.1.symm.trans this) Bool.false_ne_true
   have SC:H[b]?=(aZ i)[b]?:=by
    obtain⟨k,jr,kt,s6,yb⟩:=ai.row b
    rw[yb]
    rcases Nat.le_total k i with hf | hf
    ·have:=Bd ar (b:=b) (i-k) k (by omega) fun j aY a3 hw=>by
      have bm:=s6 j aY hw
      have bk:=g4 j (by omega) hw
      exact Bool.false_ne_true (bm.symm.trans bk)
     rw[show k+(i-k)=i by omega]at this
     exact this.symm
    ·have:=Bd ar (b:=b) (k-i) i (by omega) fun j aY a3 hw=>by
      have bm:=kt j (by omega) hw
      by_cases fs:j=i
      ·subst fs;exact Bool.false_ne_true (al.2.1.symm.trans bm)
      ·exact Bool.false_ne_true ((h3 j (by omega) hw).symm.trans bm)
     rw[show i+(k-i)=k by omega]at this
     exact this
   have hm:=dP H SC
   obtain⟨bu,au,a7,gT,an,hv,dd⟩:=Nu hm ai.i_ mz
   have hlen:(mF H b y).length=H.length:=by cases y<;>simp[mF]
   obtain rfl:=Y5 hv dd hlen
   have gP:b<H.length:=by rw[ai.len,<-M9 ar i (by omega)];exact aB
   have JU:lA P base ops T V aZ ef bu d_ (eX (fun j=>du.getD j false) i) (a.put R.dst au) a7 (mF H b y):=by
    refine ai.put ew al hlen (fun c ae=>?_) (fun c ae=>?_) an hv dd
    ·obtain⟨x,J⟩:=ae
     rw[bO]at J
     simp only[Option.some.injEq,Prod.mk.injEq]at J
     obtain⟨rfl,rfl⟩:=J
     refine⟨?_,g4,h3⟩
     simp only[mF]at bJ⊢
     rw[List.getElem?_set_self gP,bJ,List.getElem?_set_self aB]
    ·cases y with
     | none=>rfl
     | some x=>
      have:b≠c:=fun e=>ae ⟨x,by rw[bO,e]⟩
      simp only[mF]
      rw[List.getElem?_set_ne this]
   refine .inl ?_
   unfold Oper.wp
   rcases gT with gT | ⟨gT,rfl⟩
   ·rw[gT];exact cont au a7 _ JU
   ·rw[gT];exact cont undef a7 _ JU
end
section
variable {P:Program} {base:Nat}
def vC(tmps:Array Value):ResultVar->Sem Value
 | .tmp t=>pure (tmps.getD t undef)
 | .cell a t=>do loadVar t (<-asAddr (tmps.getD a undef))
theorem Z8{ah:bg}{H:ab}{w:World}{t:List Value}{a:Act}(ds:cK ah t a.tmps.toList)(bM:cl P base ah H w){rs:List ResultVar}{aE:List Value}(h:mh P t H rs aE):∃hG,(rs.mapM (vC a.tmps)).run P w= .ok hG w/\cK ah aE hG:=by
 have C2:∀i,bl ah (t.getD i undef) (a.tmps.getD i undef):=fun i=>yB (x:= .tmp i) ds rfl
 induction h with
 | nil=>exact⟨[],by simp,cK.nil ah⟩
 | tmp ao a0=>
  rename_i i rs aE
  obtain⟨hG,o,aa⟩:=a0
  exact⟨_::hG,by simp[List.mapM_cons,vC,o],(cK.cons (C2 i) aa)⟩
 | zt aO J aT ae an ao a0=>
  rename_i r ty b i X cs v rs aE
  obtain⟨hG,o,aa⟩:=a0
  obtain⟨k,ak,he⟩:=(J▸C2 r).ru
  obtain⟨u,aY,a3⟩:=bM.cell ak aT ae an
  exact⟨u::hG,by simp[List.mapM_cons,vC,he,asAddr,loadVar,BD aO,aY,o],cK.cons a3 aa⟩
 | zu aO aG J aT ae bz ao a0=>
  rename_i r ty b i n X cs rs aE
  obtain⟨hG,o,aa⟩:=a0
  obtain⟨k,ak,he⟩:=(J▸C2 r).ru
  obtain⟨us,ar,kp,al⟩:=bM.cells ak aT ae bz
  have gT:=run_loadCells_list (P:=P) w ⟨k.g,k.R+i,none⟩ us kp
  rw[ar]at gT
  exact⟨.agg us.toArray::hG,by simp[List.mapM_cons,vC,he,asAddr,loadVar,BD aO,kx aG,gT,o],cK.cons (.agg al.toArray.1 al.toArray.2) aa⟩
theorem ZS{ah:bg}{H:ab}{w:World}{t:List Value}{a:Act}{fn:Func}(ds:cK ah t a.tmps.toList)(bM:cl P base ah H w){aE:List Value}(h:mh P t H fn.results.toList aE):∃au,(results fn a.tmps).run P w= .ok au w/\bl ah (bd aE) au:=by
 obtain⟨hG,o,aa⟩:=Z8 ds bM h
 have e:(fn.results.mapM (vC a.tmps)).run P w= .ok hG.toArray w:=by
  rw[Array.mapM_eq_mapM_toList]
  simp[o]
 have bk:(results fn a.tmps).run P w= .ok (if h:hG.toArray.size=1 then hG.toArray[0]else .tuple hG.toArray) w:=by
  have:results fn a.tmps=(do let aE<-fn.results.mapM (vC a.tmps);pure (if h:aE.size=1 then aE[0]else .tuple aE)):=rfl
  rw[this]
  simp[e]
 refine⟨_,bk,?_⟩
 have ar:=aa.1
 unfold bd
 match aE,hG,ar,aa with
 | [],[],_,aa=>exact .tuple rfl aa.toArray.2
 | [v],[au],_,aa=>exact aa.2 0 v au rfl rfl
 | v::v2::aE,u::lv::us,_,aa=>
  have:¬((u::lv::us).toArray.size=1):=by simp
  rw[dif_neg this]
  exact .tuple aa.toArray.1 aa.toArray.2
def tB(P:Program)(base:Nat)(c:Code)(e:dH)(qe:List Value)(aH:ab):Nat->List Value->ab->Prop
 | 0,t,H=>Sound P base (.code c t H) (.code e qe aH)/\e≠ .normal
 | n+1,t,H=>∃t1 H1,Sound P base (.code c t H) (.code .normal t1 H1)/\tB P base c e qe aH n t1 H1
theorem Nf{c:Code}{e:dH}{t qe:List Value}{H aH:ab}{n:Nat}(h:tB P base c e qe aH n t H):Sound P base (.code (.loop c) t H) (.code e qe aH):=by
 intro ah w a ds hQ bM Q aD
 refine wp_loop_ghost (fun m b1 a7=>∃bu t1 H1,cK bu t1 b1.tmps.toList/\b1.defers=[]/\cl P base bu H1 a7/\Step ah H w bu H1 a7/\tB P base c e qe aH m t1 H1) n ⟨ah,t,H,ds,hQ,bM,Step.refl _ _ _,h⟩ ?_
 rintro m b1 a7 ⟨bu,t1,H1,oR,n3,hv,lZ,al⟩
 cases m with
 | zero=>
  obtain⟨ao,cQ⟩:=al
  refine ao bu a7 b1 oR n3 hv _ fun mO cA hl wS xe wW xN=>?_
  have:=aD mO cA hl wS xe wW (lZ.trans xN)
  cases e with
  | normal=>exact absurd rfl cQ
  | exit id=>exact this
  | ret=>exact this
 | succ m=>
  obtain⟨t2,aR,ao,al⟩:=al
  refine ao bu a7 b1 oR n3 hv _ fun mO cA hl wS xe wW xN=>?_
  exact⟨m,Nat.lt_succ_self m,mO,t2,aR,wS,xe,wW,lZ.trans xN,al⟩
def P0(P:Program)(base:Nat):ps->Out->Prop
 | .code (.loop c) t H,.code e qe aH=>∃n,tB P base c e qe aH n t H
 | _,_=>True
theorem Z6(hm:P.follows .mixedOrders=true){j:ps}{R:Out}(h:dX P j R):Sound P base j R/\P0 P base j R:=by
 induction h with
 | skip=>exact⟨fun ah w a ds hQ bM Q aD=>wp_skip (aD ah a w ds hQ bM (Step.refl _ _ _)),trivial⟩
 | ret=>exact⟨fun ah w a ds hQ bM Q aD=>wp_ret (aD ah a w ds hQ bM (Step.refl _ _ _)),trivial⟩
 | exit=>exact⟨fun ah w a ds hQ bM Q aD=>wp_exit (aD ah a w ds hQ bM (Step.refl _ _ _)),trivial⟩
 | BG o aa lg p1=>
  refine⟨fun ah w a ds hQ bM Q aD=>wp_seq (lg.1 ah w a ds hQ bM _ fun bu b1 a7 oR n3 hv lZ=>?_),trivial⟩
  exact p1.1 bu a7 b1 oR n3 hv Q fun mO cA hl wS xe wW xN=>aD mO cA hl wS xe wW (lZ.trans xN)
 | yz o he lg=>
  rename_i zh hq t t1 H H1 e
  refine⟨fun ah w a ds hQ bM Q aD=>wp_seq (lg.1 ah w a ds hQ bM _ fun bu b1 a7 oR n3 hv lZ=>?_),trivial⟩
  have:=aD bu b1 a7 oR n3 hv lZ
  cases e with
  | normal=>exact absurd rfl he
  | exit id=>exact this
  | ret=>exact this
 | cond ae ak h a0=>
  rename_i c x y b t t1 H H1 e
  refine⟨fun ah w a ds hQ bM Q aD=>?_,trivial⟩
  have an:=yB ds ak
  rw[ae]at an
  exact wp_cond an.I5 (a0.1 ah w a ds hQ bM Q aD)
 | block h a0=>
  rename_i id c t t1 H H1 e
  refine⟨fun ah w a ds hQ bM Q aD=>wp_block (a0.1 ah w a ds hQ bM _ fun bu b1 a7 oR n3 hv lZ=>?_),trivial⟩
  have:=aD bu b1 a7 oR n3 hv lZ
  cases e with
  | normal=>simpa[dH.real,Exit.inBlock]using this
  | exit hS=>
   by_cases ad:hS=id
   ·subst ad;simpa[dH.real,Exit.inBlock]using this
   ·simpa[dH.real,Exit.inBlock,ad]using this
  | ret=>simpa[dH.real,Exit.inBlock]using this
 | Bf o aa lg p1=>
  obtain⟨n,al⟩:=p1.2
  have:tB P base _ _ _ _ (n+1) _ _:=⟨_,_,lg.1,al⟩
  exact⟨Nf this,n+1,this⟩
 | yg o he lg=>
  have:tB P base _ _ _ _ 0 _ _:=⟨lg.1,he⟩
  exact⟨Nf this,0,this⟩
 | region T V aZ ak h bc aA a0=>
  rename_i id ops draw
  have mz:∀(i:Nat) (R:Oper),ops[i]?=some R->tz P base ops R (T i) (aZ i) (V i) (aZ (i+1)):=fun i R aM=>(a0 i R aM).1
  refine⟨fun ah w a ds hQ bM Q aD=>?_,trivial⟩
  cases draw with
  | false=>
   refine wp_region ?_
   rw[List.range_eq_range']
   exact Fp ak mz bc (fun bu b1 a7 aY a3 bN ck=>aD bu b1 a7 aY a3 bN ck) ops.size 0 (by omega) ah a w ds hQ bM (Step.refl _ _ _)
  | true=>
   obtain⟨ew,bZ⟩:=aA rfl
   refine wp_region_any hm ?_
   obtain⟨bh,o,aa,aB,bs⟩:=Fk ops ops.size 0 (by omega)
   have um:cl P base ah (aZ 0) {w with drawn:=w.drawn+1}:=bM.heap rfl
   have a4:∀j R,ops[j]?=some R->bV P R=true->aZ (j+1)=aZ j:=fun j R aM az=>by
    rcases mz j R aM with⟨-,-,aB⟩ | ⟨-,-,-,aB⟩ | ⟨-,aa,-⟩
    ·exact aB
    ·exact aB
    ·rw[az]at aa;cases aa
   have m5:Ext (aZ 0) (aZ bh):=by
    have:=yy a4 bZ aa aB bh 0 (Nat.zero_le _) (by omega)
    simpa using this
   have pO:∀j,(Array.replicate ops.size false).getD j false=false:=fun j=>by
    simp only[Array.getD_eq_getD_getElem?,Array.getElem?_replicate]
    split<;>rfl
   refine Qb (V:=V) (ir:=ah) (d_:=w) ew ak mz bc bZ (fun bu b1 a7 aY a3 bN ck=>aD bu b1 a7 aY a3 bN ck) ops.size (Array.replicate ops.size false) 0 bh ah a _ (by simp) (by unfold tj;exact Nat.le_trans (List.length_filter_le _ _) (by simp)) ?_
   refine⟨(fun i R e aT=>by rw[pO]at aT;cases aT),o,aa,aB,(fun j R aW=>by omega),fun j R _ _ _=>pO j,bs,um.grow m5,fun b k ag=>ag,fun b k ag=> .inl (bM.eP b k ag).2,?_,(fun j _ aT=>by rw[pO]at aT;cases aT),fun v an=>?_,bM.pos,Nat.le_refl _,by simpa using ds.1.symm,?_,hQ,?_⟩
   ·intro j aY a3 b k x cs v ag gP J ae an
    have mr:=(bM.eP b k ag).2
    rw[m5.get mr]at J
    obtain⟨u,hu⟩:=(bM.e8 b k x ag J).Gv ae an
    have hlen:(aZ 0).length<=(aZ j).length:=by
     have:=(yy a4 bZ aa aB j 0 (Nat.zero_le _) (by omega)).len
     simpa using this
    exact(jQ.of (fun b k ag=>(bM.eP b k ag).2) hu).mono hlen
   ·obtain⟨i,ad⟩:=List.getElem?_of_mem an
    obtain⟨u,-,hu⟩:=ds.get ad
    exact jQ.of (fun b k ag=>(bM.eP b k ag).2) hu
   ·intro d aA
    rw[CK (fun j aT=>by rw[pO]at aT;cases aT)]
    exact yB (x:= .tmp d) ds rfl
   ·have:=(Step.drawn ah (aZ 0) w (w.drawn+1)).grow um m5
    exact this
 | BC T V aZ ef ak h bc ew ar aA u9 a0=>
  rename_i id ops draw
  have mz:∀(i:Nat) (R:Oper),ops[i]?=some R->tz P base ops R (T i) (aZ i) (V i) (aZ (i+1)):=fun i R aM=>(a0 i R aM).1
  refine⟨fun ah w a ds hQ bM Q aD=>?_,trivial⟩
  cases draw with
  | false=>
   refine wp_region ?_
   rw[List.range_eq_range']
   exact Fp ak mz bc (fun bu b1 a7 aY a3 bN ck=>aD bu b1 a7 aY a3 bN ck) ops.size 0 (by omega) ah a w ds hQ bM (Step.refl _ _ _)
  | true=>
   refine wp_region_any hm ?_
   have um:cl P base ah (aZ 0) {w with drawn:=w.drawn+1}:=bM.heap rfl
   have pO:∀j,(Array.replicate ops.size false).getD j false=false:=fun j=>by
    simp only[Array.getD_eq_getD_getElem?,Array.getElem?_replicate]
    split<;>rfl
   refine YD (V:=V) (ah:=ah) (d_:=w) ew ak mz bc ar aA u9 (fun bu b1 a7 aY a3 bN ck=>aD bu b1 a7 aY a3 bN ck) ops.size (Array.replicate ops.size false) a _ (aZ 0) (by simp) (by unfold tj;exact Nat.le_trans (List.length_filter_le _ _) (by simp)) ?_
   refine⟨(fun i R e aT=>by rw[pO]at aT;cases aT),(fun j aT=>by rw[pO]at aT;cases aT),rfl,(fun b=>⟨0,Nat.zero_le _,fun j aW=>absurd aW (Nat.not_lt_zero j),fun j _ _=>pO j,rfl⟩),um,by simpa using ds.1.symm,?_,hQ,Step.drawn ah (aZ 0) w (w.drawn+1)⟩
   intro d aA
   rw[CK (fun j aT=>by rw[pO]at aT;cases aT)]
   exact yB (x:= .tmp d) ds rfl
 | ta hw=>exact⟨.inl ⟨hw,rfl,rfl⟩,trivial⟩
 | vs hw a4 h=>exact⟨.inr (.inl ⟨hw,a4,h,rfl⟩),trivial⟩
 | rq hw a4 h=>
  refine⟨.inr (.inr ⟨hw,a4,fun ah w a b_ bM K Q aX=>?_⟩),trivial⟩
  obtain⟨bu,au,a7,al,an,hv,dd⟩:=Nu h bM b_
  unfold Oper.wp
  rcases al with al | ⟨al,rfl⟩
  ·rw[al];exact aX bu au a7 an hv dd
  ·rw[al];exact aX bu undef a7 an hv dd
 | vr hw a4 aM az aU aG ag h a0=>
  rename_i ops R t H H1 v f args k1 g first cap fn
  refine⟨.inr (.inr ⟨hw,a4,fun ah w a b_ bM K Q aX=>?_⟩),trivial⟩
  have Ah:=b_ f (by simp[aM,Op.operands,Call.operands])
  rw[az]at Ah
  obtain⟨wB,dD,he,o,aa⟩:∃wB dD,a.eval f= .func (.func g) wB dD/\fc ah first wB/\fc ah cap dD:=by
   generalize a.eval f=u at Ah
   cases Ah with
   | func _ ar c4 dG eI=>exact⟨_,_,rfl,⟨ar,c4⟩,dG,eI⟩
  have sq:cK ah (args.toList.map (fg t)) (args.toList.map a.eval):=by
   refine⟨by simp,fun i u Pj hu nc=>?_⟩
   simp only[List.getElem?_map,Option.map_eq_some_iff]at hu nc
   obtain⟨x,J,rfl⟩:=hu
   obtain⟨y,aK,rfl⟩:=nc
   rw[J]at aK
   obtain rfl:=Option.some.inj aK
   exact b_ x (by simp[aM,Op.operands,Call.operands];exact .inr (by simpa using List.mem_of_getElem? J))
  have gT:(execOp a.eval R).run P w= .ok (.enter g (wB++args.map a.eval++dD)) w:=by
   have xa:¬fn.body=none:=fun e=>by rw[e]at ag;cases ag
   have hz:¬fn.name= "runtime.NumGoroutine" :=by simpa using aG
   simp[execOp,aM,resolve,he,Deferred.ofValue,invoke,callFunc,aU,hz,xa]
  unfold Oper.wp
  rw[gT,Oper.upon_enter]
  have SN:cK ah (first.toList++args.toList.map (fg t)++cap.toList) (wB++args.map a.eval++dD).toList:=by
   have:=(o.toList.append sq).append aa.toList
   simpa using this
  refine(a0.1 ah w _ SN bM).mono fun e gD c4=>?_
  obtain⟨au,bu,rfl,an,hv,dd⟩:=c4
  exact aX bu au gD an hv dd
 | call az ag h he al a0=>
  rename_i f fn c args t1 aE H H1 e
  refine⟨fun ah w k0 ds bM=>?_,trivial⟩
  refine calls_of_wp az ag (a0.1 ah w _ ?_ rfl bM _ fun bu b1 a7 oR n3 hv lZ=>?_)
  ·have ar:args.length=k0.size:=by simpa using ds.1
   have:=ds.append (cK.replicate ah (fn.ntmps-args.length))
   rw[ar]at this⊢
   simpa using this
  ·obtain⟨au,aY,a3⟩:=ZS oR hv al
   rcases he with rfl | rfl
   ·exact⟨n3,au,aY,au,bu,rfl,a3,hv,lZ⟩
   ·exact⟨n3,au,aY,au,bu,rfl,a3,hv,lZ⟩
 | zr h aM a0=>
  refine⟨fun ah w k0 ds bM=>?_,trivial⟩
  refine(a0.1 ah w k0 ds bM).mono fun e gD c4=>?_
  obtain⟨au,bu,rfl,an,hv,dd⟩:=c4
  obtain⟨jr,kt⟩:=hv.kill _ aM
  exact⟨au,bu,rfl,an,jr,dd.trans kt⟩
theorem Z5(hm:P.follows .mixedOrders=true){f:FuncId}{args:List Value}{H H1:ab}{v:Value}(h:dX P (.call f args H) (.val v H1)){ah:bg}{w:World}{k0:Array Value}(ds:cK ah args k0.toList)(bM:cl P base ah H w):
  Calls P f k0 w fun e gD=>∃au bu,e= .returned au/\bl bu v au/\cl P base bu H1 gD/\Step ah H w bu H1 gD:=(Z6 hm h).1 ah w k0 ds bM
end
def kk(op:BinOp)(k:IntKind)(a b:Int):Option Value:=
 match op with
 | .add=>some (.int k (k.wrap (a+b)))
 | .sub=>some (.int k (k.wrap (a-b)))
 | .mul=>some (.int k (k.wrap (a*b)))
 | .quo=>if b=0 then none else some (.int k (k.wrap (a.tdiv b)))
 | .rem=>if b=0 then none else some (.int k (a.tmod b))
 | .and=>some (.int k (k.wrap (BitVec.ofInt k.bits a&&&BitVec.ofInt k.bits b).toNat))
 | .or=>some (.int k (k.wrap (BitVec.ofInt k.bits a ||| BitVec.ofInt k.bits b).toNat))
 | .xor=>some (.int k (k.wrap (BitVec.ofInt k.bits a^^^BitVec.ofInt k.bits b).toNat))
 | .eql=>some (.bool (a==b))
 | .neq=>some (.bool (a !=b))
 | .lss=>some (.bool (decide (a<b)))
 | .leq=>some (.bool (decide (a<=b)))
 | .gtr=>some (.bool (decide (a>b)))
 | .geq=>some (.bool (decide (a>=b)))
 | _=>none
def wj(op:BinOp)(k:IntKind)(a b:Int):Option Value:=
 if b<0 then none else
 match op with
 | .shl=>some (.int k (k.wrap (a*2^(min b.toNat k.bits))))
 | .shr=>some (.int k (a.fdiv (2^(min b.toNat k.bits))))
 | _=>none
def tF(op:BinOp)(a b:ByteArray):Option Value:=
 match op with
 | .add=>if a.size+b.size<=9223372036854775807 then some (.string (a++b))else none
 | .eql=>some (.bool (a.toList==b.toList))
 | .neq=>some (.bool !(a.toList==b.toList))
 | .lss=>some (.bool (Op.bytesLess a.toList b.toList))
 | _=>none
def tH(P:Program)(t:TypeId):Bool:=match P.underlying t with
 | some .bool=>true
 | _=>false
def iE(P:Program)(t:TypeId):Bool:=match P.underlying t with
 | some .string=>true
 | _=>false
theorem MZ{P:Program}{t:TypeId}{k:IntKind}(h:(match P.underlying t with | some (.int k)=>some k | _=>none)=some k):rj P t=true:=by
 unfold rj
 split at h
 ·rename_i cb ak;first | rw[ak] | rfl
 ·cases h
def j6(P:Program)(t:TypeId):Option IntKind:=match P.underlying t with
 | some (.int k)=>some k
 | _=>none
def e_(P:Program)(t:TypeId):Option TypeId:=match P.underlying t with
 | some (.slice e)=>some e
 | _=>none
theorem Qm{P:Program}{t:TypeId}(h:tH P t=true):P.underlying t=some .bool:=by
 unfold tH at h
 split at h
 ·assumption
 ·cases h
theorem vG{P:Program}{t:TypeId}(h:iE P t=true):P.underlying t=some .string:=by
 unfold iE at h
 split at h
 ·assumption
 ·cases h
theorem M0{P:Program}{t:TypeId}{k:IntKind}(h:j6 P t=some k):P.underlying t=some (.int k):=by
 unfold j6 at h
 split at h
 ·obtain rfl:=Option.some.inj h;assumption
 ·cases h
theorem FW{P:Program}{t e:TypeId}(h:e_ P t=some e):P.underlying t=some (.slice e):=by
 unfold e_ at h
 split at h
 ·obtain rfl:=Option.some.inj h;assumption
 ·cases h
def dZ(P:Program)(op:BinOp)(t:TypeId)(x y:Value):Option Value:=
 match x,y with
 | .int k a,.int cb b=>if op= .shl\/op= .shr then wj op k a b else if k=cb then kk op k a b else none
 | .string a,.string b=>tF op a b
 | .bool a,.bool b=>if tH P t=true then(match op with | .eql=>some (.bool (a==b)) | .neq=>some (.bool (!(a==b))) | _=>none)else none
 | .slice a n c,.slice none 0 0=>match e_ P t with
  | some _=>(match op with | .eql=>some (.bool a.isNone) | .neq=>some (.bool (!a.isNone)) | _=>none)
  | _=>none
 | _,_=>none
def pf(op:UnOp)(x:Value):Option Value:=
 match op,x with
 | .neg,.int k n=>some (.int k (k.wrap (0-n)))
 | .xor,.int k n=>some (.int k (k.wrap (BitVec.ofInt k.bits (if k.signed then-1 else k.max)^^^BitVec.ofInt k.bits n).toNat))
 | .not,.bool b=>some (.bool !b)
 | _,_=>none
section
variable {P:Program} {aJ:Operand->Value} {R:Oper} {H:ab}
theorem pF{R:Oper}(h:∀x∈R.op.operands,flat (aJ x)=true):(R.op.operands.all fun x=>flat (aJ x))=true:=by
 rw[Array.all_eq_true']
 exact h
theorem Qf{op:BinOp}{k:IntKind}{a b:Int}{v:Value}(h:kk op k a b=some v)(t:TypeId):dy P (binOp op t (.int k a) (.int k b))=some v/\flat v=true:=by
 cases op<;>simp only[kk]at h<;>first
  | (cases h;done)
  | (split at h
     ·cases h
     ·rename_i ag
      obtain rfl:=Option.some.inj h
      exact⟨by simp[binOp,Op.intDiv,ag,e9],rfl⟩)
  | (obtain rfl:=Option.some.inj h
     exact⟨by simp[binOp,Op.intArith,Op.intBits,Op.intCmp,e9],rfl⟩)
theorem Qg{op:BinOp}{k cb:IntKind}{a b:Int}{v:Value}(b_:op= .shl\/op= .shr)(h:wj op k a b=some v)(t:TypeId):dy P (binOp op t (.int k a) (.int cb b))=some v/\flat v=true:=by
 unfold wj at h
 split at h
 ·cases h
 ·rename_i ag
  rcases b_ with rfl | rfl
  ·simp only at h
   obtain rfl:=Option.some.inj h
   exact⟨by simp[binOp,Op.shift,ag,e9],rfl⟩
  ·simp only at h
   obtain rfl:=Option.some.inj h
   exact⟨by simp[binOp,Op.shift,ag,e9],rfl⟩
theorem Qh{op:BinOp}{a b:ByteArray}{v:Value}(h:tF op a b=some v)(t:TypeId):dy P (binOp op t (.string a) (.string b))=some v/\flat v=true:=by
 unfold tF at h
 split at h
 ·split at h
  ·rename_i ao
   obtain rfl:=Option.some.inj h
   have:¬((((a.size+b.size:Nat)):Int)>IntKind.i64.max):=by
    have:IntKind.i64.max=9223372036854775807:=by decide
    omega
   exact⟨by simp only[binOp,Op.stringOp,if_neg this];rfl,rfl⟩
  ·cases h
 ·obtain rfl:=Option.some.inj h
  exact⟨by simp[binOp,Op.stringOp,e9],rfl⟩
 ·obtain rfl:=Option.some.inj h
  exact⟨by simp[binOp,Op.stringOp,e9],rfl⟩
 ·obtain rfl:=Option.some.inj h
  exact⟨by simp[binOp,Op.stringOp,e9],rfl⟩
 ·cases h
theorem Zt(d:Nat){t:TypeId}{a b:Bool}(hu:P.underlying t=some .bool):dy P (Op.equalIn (d+1) t (.bool a) (.bool b))=some (a==b):=by
 simp only[Op.equalIn,fD,ov,hu,Option.bind_some]
 rfl
theorem aad{op:BinOp}{t pn:TypeId}{x y:Operand}{v:Value}(aM:R.op= .binOp op t x y pn)(h:dZ P op t (aJ x) (aJ y)=some v):hL P aJ R v:=by
 have key:∀{a b:Value},aJ x=a->aJ y=b->flat a=true->flat b=true->(∀u:Unit,dy P (eqGuard op t x y a b)=some ())->dy P (binOp op t a b)=some v->flat v=true->hL P aJ R v:=by
  intro a b aO ag n5 Ud aU al an
  refine .pure (by simp[bV,aM]) (pF fun z aN=>?_) an ?_
  ·simp only[aM,Op.operands,List.mem_toArray,List.mem_cons,List.not_mem_nil,or_false]at aN
   rcases aN with rfl | rfl
   ·rw[aO];exact n5
   ·rw[ag];exact Ud
  ·simp only[execOp,aM,aO,ag,fD,aU (),Option.bind_some,al,e9]
 unfold dZ at h
 split at h
 ·rename_i k a cb b o aa
  have aU:∀u:Unit,dy P (eqGuard op t x y (.int k a) (.int cb b))=some ():=fun _=>by unfold eqGuard;split<;>rfl
  split at h
  ·rename_i b_
   obtain⟨aY,a3⟩:=Qg (P:=P) (cb:=cb) b_ h t
   exact key o aa rfl rfl aU aY a3
  ·split at h
   ·rename_i ak
    subst ak
    obtain⟨aY,a3⟩:=Qf (P:=P) h t
    exact key o aa rfl rfl aU aY a3
   ·cases h
 ·rename_i a b o aa
  obtain⟨aY,a3⟩:=Qh (P:=P) h t
  exact key o aa rfl rfl (fun _=>by unfold eqGuard;split<;>rfl) aY a3
 ·rename_i a b o aa
  split at h
  ·rename_i hu
   have hu:=Qm hu
   have aU:∀u:Unit,dy P (eqGuard op t x y (.bool a) (.bool b))=some ():=fun _=>by unfold eqGuard;split<;>rfl
   have he:dy P (Op.equal t (.bool a) (.bool b))=some (a==b):=Zt 9999 hu
   split at h
   ·obtain rfl:=Option.some.inj h
    exact key o aa rfl rfl aU (by simp only[binOp,fD,he,Option.bind_some,e9]) rfl
   ·obtain rfl:=Option.some.inj h
    exact key o aa rfl rfl aU (by simp only[binOp,fD,he,Option.bind_some,e9]) rfl
   ·cases h
  ·cases h
 ·rename_i a n c o aa
  split at h
  ·rename_i e hu
   have hu:=FW hu
   split at h
   ·obtain rfl:=Option.some.inj h
    exact .JL aM hu o aa
   ·obtain rfl:=Option.some.inj h
    exact .Nz aM hu o aa
   ·cases h
  ·cases h
 ·cases h
theorem aaS{op:UnOp}{t:TypeId}{x:Operand}{v:Value}(aM:R.op= .unOp op t x)(h:pf op (aJ x)=some v):hL P aJ R v:=by
 have key:∀{a:Value},aJ x=a->flat a=true->dy P (Op.unary op a)=some v->flat v=true->hL P aJ R v:=by
  intro a aO n5 al an
  refine .pure (by simp[bV,aM]) (pF fun z aN=>?_) an ?_
  ·simp only[aM,Op.operands,List.mem_toArray,List.mem_cons,List.not_mem_nil,or_false]at aN
   subst aN
   rw[aO];exact n5
  ·simp only[execOp,aM,aO,fD,al,Option.bind_some,e9]
 unfold pf at h
 split at h
 ·rename_i k n o
  obtain rfl:=Option.some.inj h
  exact key o rfl (by simp[Op.unary,Op.intArith,e9]) rfl
 ·rename_i k n o
  obtain rfl:=Option.some.inj h
  exact key o rfl (by simp[Op.unary,Op.intBits,e9]) rfl
 ·rename_i b o
  obtain rfl:=Option.some.inj h
  exact key o rfl (by simp[Op.unary,e9]) rfl
 ·cases h
end
def iL(H:ab)(b:Nat):Option (List Value):=(H[b]?).bind bK.cells?
def fQ(P:Program)(s:TypeId)(f:Nat):Option Nat:=match P.underlying s with
 | some (.struct jT)=>(match jT[f]? with
  | some fd=>(match bp P fd.type with
   | some (_+1)=>some fd.offset
   | _=>none)
  | none=>none)
 | _=>none
theorem R5{P:Program}{s:TypeId}{f off:Nat}(h:fQ P s f=some off):∃jT fd n,P.underlying s=some (.struct jT)/\jT[f]?=some fd/\bp P fd.type=some (n+1)/\fd.offset=off:=by
 unfold fQ at h
 split at h
 ·rename_i jT hu
  split at h
  ·rename_i fd az
   split at h
   ·rename_i n ao
    exact⟨jT,fd,n,hu,az,ao,by simpa using h⟩
   ·cases h
  ·cases h
 ·cases h
def oO(P:Program)(s:TypeId)(f:Nat):Option (Nat×Option Nat):=match P.underlying s with
 | some (.struct jT)=>(match jT[f]? with
  | some fd=>(match dq P fd.type with
   | some false=>some (fd.offset,none)
   | some true=>(bp P fd.type).map fun n=>(fd.offset,some n)
   | none=>none)
  | none=>none)
 | _=>none
def pC(cs:Array Value):Nat×Option Nat->Option Value
 | (off,none)=>cs[off]?
 | (off,some n)=>some (.agg (cs.extract off (off+n)))
theorem pb{P:Program}{α β:Type}(x:Sem α)(f:α->β):dy P (f<$>x)=(dy P x).map f:=by
 rw[map_eq_pure_bind,fD]
 cases dy P x<;>rfl
theorem R4{P:Program}{s:TypeId}{f:Nat}{c:Nat×Option Nat}{cs:Array Value}{v:Value}(h:oO P s f=some c)(an:pC cs c=some v):dy P (Instr.field s (.agg cs) f)=some v:=by
 unfold oO at h
 split at h
 ·rename_i jT hu
  split at h
  ·rename_i fd az
   simp only[Instr.field,fD,ov,hu,Option.bind_some,az,asAgg,e9,part,NZ]
   unfold dq at h
   cases aA:P.underlying fd.type with
   | none=>simp[aA]at h
   | some d=>
    simp only[aA,Option.map_some]at h⊢
    cases d<;>simp only at h<;>first
     | (obtain rfl:=Option.some.inj h
        simp only[pC]at an
        simp[an,e9]
        done)
     | (obtain⟨n,aG,rfl⟩:=Option.map_eq_some_iff.1 h
        simp only[pC,Option.some.injEq]at an
        subst an
        simp[pb,ys,aG])
  ·cases h
 ·cases h
def rB(P:Program)(aJ:Operand->Value)(H:ab):Callee->List Operand->List TypeId->Option (Value×ab)
 | .builtin .len,[x],[t]=>(match aJ x with
  | .slice _ n _=>(match e_ P t with
   | some _=>some (.int .i64 n,H)
   | none=>none)
  | .string s=>if iE P t=true then some (.int .i64 s.size,H)else none
  | _=>none)
 | .builtin .max,[x,y],_=>(match aJ x,aJ y with
  | .int k a,.int _ b=>some (.int k (if b>a then b else a),H)
  | _,_=>none)
 | .builtin .min,[x,y],_=>(match aJ x,aJ y with
  | .int k a,.int _ b=>some (.int k (if b<a then b else a),H)
  | _,_=>none)
 | _,_,_=>none
def b5(P:Program)(aJ:Operand->Value)(H:ab):Op->Option (Value×ab)
 | .move x=>some (aJ x,H)
 | .assign x=>some (aJ x,H)
 | .pick c a b=>(match aJ c with
  | .bool t=>some (if t then aJ a else aJ b,H)
  | _=>none)
 | .alloc e=>(match dA P e with
  | some z=>if flat z=true/\(bp P e).isSome=true then some (.pointer (some ⟨H.length,0,none⟩),H++[.own e false z.cells.toList])else none
  | none=>none)
 | .box e x=>if(bp P e).isSome=true then some (.pointer (some ⟨H.length,0,none⟩),H++[.own e false (aJ x).cells.toList])else none
 | .load ty x=>(match aJ x with
  | .pointer (some ⟨b,i,none⟩)=>(match iL H b with
   | some cs=>(match dq P ty with
    | some false=>(cs[i]?).map fun v=>(v,H)
    | some true=>(match bp P ty with
     | some n=>if i+n<=cs.length then some (.agg ((cs.drop i).take n).toArray,H)else none
     | none=>none)
    | none=>none)
   | none=>none)
  | _=>none)
 | .store ty x y=>(match aJ x with
  | .pointer (some ⟨b,i,none⟩)=>(match H[b]? with
   | some (.own e l cs)=>if bp P ty=some (aJ y).cells.size/\i+(aJ y).cells.size<=cs.length/\((aJ y).cells.toList.all (·.oneCell'))=true then some (undef,H.set b (.own e l (dg cs i (aJ y).cells.toList)))else none
   | _=>none)
  | _=>none)
 | .nilCheck x=>(match aJ x with
  | .pointer (some a)=>some (.pointer (some a),H)
  | _=>none)
 | .binOp op t x y _=>(dZ P op t (aJ x) (aJ y)).map fun v=>(v,H)
 | .unOp op _ x=>(pf op (aJ x)).map fun v=>(v,H)
 | .convert src dst x=>(match aJ x with
  | .int _ n=>(match j6 P src,j6 P dst with
   | some _,some k=>some (.int k (k.wrap n),H)
   | _,_=>none)
  | .string s=>if iE P src=true/\iE P dst=true then some (.string s,H)else none
  | _=>none)
 | .makeInterface t x=>if P.concrete t=true then some (.iface t (aJ x),H)else none
 | .makeFunc fn a b=>some (.func fn (a.map aJ) (b.map aJ),H)
 | .fieldAddr s x f=>(match aJ x with
  | .pointer (some ⟨b,i,none⟩)=>(fQ P s f).map fun off=>(.pointer (some ⟨b,i+off,none⟩),H)
  | _=>none)
 | .field t x f=>(match aJ x with
  | .agg cs=>(match oO P t f with
   | some c=>(pC cs c).map fun v=>(v,H)
   | none=>none)
  | _=>none)
 | .indexAddr t x ek=>(match aJ x,aJ ek with
  | .slice (some ⟨b,i,none⟩) len _,.int _ n=>(match e_ P t with
   | some e=>(match bp P e with
    | some U=>if 0<=n/\n<len then some (.pointer (some ⟨b,i+n.toNat*U,none⟩),H)else none
    | none=>none)
   | none=>none)
  | _,_=>none)
 | .index t x ek=>(match aJ x,aJ ek with
  | .string s,.int _ n=>if iE P t=true/\0<=n/\n<s.size then some (.int .u8 ((s.data.getD n.toNat 0).toNat:Int),H)else none
  | _,_=>none)
 | .extract x i=>(match aJ x with
  | .tuple aE=>(aE[i]?).map fun v=>(v,H)
  | _=>none)
 | .build t a6=>(match dA P t with
  | some z=>if flat z=true then(dy P (Instr.build t (a6.map fun p=>(p.1,aJ p.2)))).map fun v=>(v,H)else none
  | none=>none)
 | .call c=>rB P aJ H c.callee c.args.toList c.argTypes.toList
 | .slice t x bb ad none=>(match aJ x with
  | .string s=>(match dM aJ bb,e2 aJ s.size ad with
   | some l,some h=>if iE P t=true/\l<=h/\h<=s.size then some (.string (s.extract l h),H)else none
   | _,_=>none)
  | _=>none)
 | _=>none
theorem zv{H:ab}{b:Nat}{cs:List Value}(h:iL H b=some cs):∃X,H[b]?=some X/\X.cells?=some cs:=by
 unfold iL at h
 cases ag:H[b]? with
 | none=>simp[ag]at h
 | some X=>exact⟨X,rfl,by simpa[ag]using h⟩
theorem yc{aJ:Operand->Value}{x:Operand}{n d:Nat}(h:dM aJ (some x)=some n\/e2 aJ d (some x)=some n):∃k m,aJ x= .int k m/\0<=m/\m.toNat=n:=by
 simp only[dM,e2,or_self]at h
 split at h
 ·rename_i k m he
  split at h
  ·rename_i aI;exact⟨k,m,he,aI,by simpa using h⟩
  ·cases h
 ·cases h
theorem Bt{P:Program}{k:IntKind}{n:Int}{y:Nat}{code:BoundsCode}(aI:0<=n)(o:n.toNat<=y):dy P (Instr.sliceBound (.int k n) y code)=some n.toNat:=by
 have:n<=(y:Int):=by omega
 simp only[Instr.sliceBound,asIntOf,fD,e9,Option.bind_some]
 rw[if_pos ⟨aI,this⟩]
 rfl
theorem yG{P:Program}{ops:Array Oper}{R:Oper}{t:List Value}{H H1:ab}{v:Value}(hw:Region.wanted R (gX ops t)=true)(h:b5 P (fg t) H R.op=some (v,H1)):dX P (.op ops R t H) (.val v H1):=by
 have F:bV P R=true->hL P (fg t) R v->H1=H->dX P (.op ops R t H) (.val v H1):=fun az a4 e=>e▸ .vs hw az a4
 have M:bV P R=false->fe P (fg t) H R v H1->dX P (.op ops R t H) (.val v H1):=fun az ji=> .rq hw az ji
 cases b_:R.op<;>rw[b_]at h<;>try (simp[b5]at h;done)
 case move x=>simp only[b5,Option.some.injEq,Prod.mk.injEq]at h;obtain⟨rfl,rfl⟩:=h;exact F (by simp[bV,b_]) (.move b_) rfl
 case assign x=>simp only[b5,Option.some.injEq,Prod.mk.injEq]at h;obtain⟨rfl,rfl⟩:=h;exact F (by simp[bV,b_]) (.assign b_) rfl
 case pick c a b=>
  simp only[b5]at h
  split at h
  ·rename_i qe ae
   simp only[Option.some.injEq,Prod.mk.injEq]at h
   obtain⟨rfl,rfl⟩:=h
   exact F (by simp[bV,b_]) (.pick b_ ae) rfl
  ·cases h
 case alloc e=>
  simp only[b5]at h
  split at h
  ·rename_i z aN
   split at h
   ·rename_i ae
    simp only[Option.some.injEq,Prod.mk.injEq]at h
    obtain⟨rfl,rfl⟩:=h
    obtain⟨n,aG⟩:=Option.isSome_iff_exists.1 ae.2
    exact M (by simp[bV,b_]) (.alloc b_ aN ae.1 aG)
   ·cases h
  ·cases h
 case box e x=>
  simp only[b5]at h
  split at h
  ·rename_i ae
   simp only[Option.some.injEq,Prod.mk.injEq]at h
   obtain⟨rfl,rfl⟩:=h
   obtain⟨n,aG⟩:=Option.isSome_iff_exists.1 ae
   exact M (by simp[bV,b_]) (.box b_ aG)
  ·cases h
 case load ty x=>
  simp only[b5]at h
  split at h
  ·rename_i b i J
   split at h
   ·rename_i cs gn
    obtain⟨X,aT,ae⟩:=zv gn
    split at h
    ·rename_i aO
     obtain⟨u,hu,he⟩:=Option.map_eq_some_iff.1 h
     simp only[Prod.mk.injEq]at he
     obtain⟨rfl,rfl⟩:=he
     exact M (by simp[bV,b_]) (.yd b_ aO J aT ae hu)
    ·rename_i aO
     split at h
     ·rename_i n aG
      split at h
      ·rename_i bz
       simp only[Option.some.injEq,Prod.mk.injEq]at h
       obtain⟨rfl,rfl⟩:=h
       exact M (by simp[bV,b_]) (.ye b_ aO aG J aT ae bz)
      ·cases h
     ·cases h
    ·cases h
   ·cases h
  ·cases h
 case store ty x y=>
  simp only[b5]at h
  split at h
  ·rename_i b i J
   split at h
   ·rename_i e l cs aT
    split at h
    ·rename_i ae
     simp only[Option.some.injEq,Prod.mk.injEq]at h
     obtain⟨rfl,rfl⟩:=h
     exact M (by simp[bV,b_]) (.store b_ ae.1 J aT ae.2.1 ae.2.2)
    ·cases h
   ·cases h
  ·cases h
 case nilCheck x=>
  simp only[b5]at h
  split at h
  ·rename_i a J
   simp only[Option.some.injEq,Prod.mk.injEq]at h
   obtain⟨rfl,rfl⟩:=h
   exact F (by simp[bV,b_]) (J▸ .nilCheck b_ J) rfl
  ·cases h
 case binOp op ty x y pn=>
  simp only[b5]at h
  obtain⟨u,hu,he⟩:=Option.map_eq_some_iff.1 h
  simp only[Prod.mk.injEq]at he
  obtain⟨rfl,rfl⟩:=he
  exact F (by simp[bV,b_]) (aad b_ hu) rfl
 case unOp op ty x=>
  simp only[b5]at h
  obtain⟨u,hu,he⟩:=Option.map_eq_some_iff.1 h
  simp only[Prod.mk.injEq]at he
  obtain⟨rfl,rfl⟩:=he
  exact F (by simp[bV,b_]) (aaS b_ hu) rfl
 case convert src dst x=>
  simp only[b5]at h
  split at h
  ·rename_i jL n J
   split at h
   ·rename_i jr k ao aA
    simp only[Option.some.injEq,Prod.mk.injEq]at h
    obtain⟨rfl,rfl⟩:=h
    have Lj:bV P R=true:=by simp[bV,b_,MZ ao,MZ aA]
    refine F Lj (.pure Lj (pF fun z aN=>?_) rfl ?_) rfl
    ·simp only[b_,Op.operands,List.mem_toArray,List.mem_cons,List.not_mem_nil,or_false]at aN
     subst aN
     rw[J];rfl
    ·simp only[execOp,b_,J,fD,convert,ov,M0 ao,M0 aA,Option.bind_some,Conv.intToInt,e9]
   ·cases h
  ·rename_i s J
   split at h
   ·rename_i ae
    simp only[Option.some.injEq,Prod.mk.injEq]at h
    obtain⟨rfl,rfl⟩:=h
    refine M (by simp[bV,b_,rj,vG ae.1]) (.s9 (by simp[b_]) (pF fun z aN=>?_) rfl ?_)
    ·simp only[b_,Op.operands,List.mem_toArray,List.mem_cons,List.not_mem_nil,or_false]at aN
     subst aN
     rw[J];rfl
    ·simp only[execOp,b_,J,fD,convert,ov,vG ae.1,vG ae.2,Option.bind_some,e9]
   ·cases h
  ·cases h
 case makeInterface ty x=>
  simp only[b5]at h
  split at h
  ·rename_i ae
   simp only[Option.some.injEq,Prod.mk.injEq]at h
   obtain⟨rfl,rfl⟩:=h
   exact F (by simp[bV,b_]) (.No b_ ae) rfl
  ·cases h
 case makeFunc fn a b=>simp only[b5,Option.some.injEq,Prod.mk.injEq]at h;obtain⟨rfl,rfl⟩:=h;exact F (by simp[bV,b_]) (.makeFunc b_) rfl
 case fieldAddr s x f=>
  simp only[b5]at h
  split at h
  ·rename_i b i J
   obtain⟨off,U7,he⟩:=Option.map_eq_some_iff.1 h
   simp only[Prod.mk.injEq]at he
   obtain⟨rfl,rfl⟩:=he
   obtain⟨jT,fd,n,aY,a3,bN,rfl⟩:=R5 U7
   exact F (by simp[bV,b_]) (.fieldAddr b_ aY a3 bN J) rfl
  ·cases h
 case field ty x f=>
  simp only[b5]at h
  split at h
  ·rename_i cs J
   split at h
   ·rename_i c ae
    obtain⟨u,hu,he⟩:=Option.map_eq_some_iff.1 h
    simp only[Prod.mk.injEq]at he
    obtain⟨rfl,rfl⟩:=he
    exact F (by simp[bV,b_]) (.field b_ J (R4 ae hu)) rfl
   ·cases h
  ·cases h
 case indexAddr ty x ek=>
  simp only[b5]at h
  split at h
  ·rename_i b i len cap k n J ad
   split at h
   ·rename_i e he
    split at h
    ·rename_i U ao
     split at h
     ·rename_i ae
      simp only[Option.some.injEq,Prod.mk.injEq]at h
      obtain⟨rfl,rfl⟩:=h
      exact F (by simp[bV,b_]) (.MX b_ (FW he) ao J ad ae.1 ae.2) rfl
     ·cases h
    ·cases h
   ·cases h
  ·cases h
 case index ty x ek=>
  simp only[b5]at h
  split at h
  ·rename_i s k n J ad
   split at h
   ·rename_i ae
    simp only[Option.some.injEq,Prod.mk.injEq]at h
    obtain⟨rfl,rfl⟩:=h
    refine F (by simp[bV,b_]) (.pure (by simp[bV,b_]) (pF fun z aN=>?_) rfl ?_) rfl
    ·simp only[b_,Op.operands,List.mem_toArray,List.mem_cons,List.not_mem_nil,or_false]at aN
     rcases aN with rfl | rfl
     ·rw[J];rfl
     ·rw[ad];rfl
    ·have a5:n.toNat<s.size:=by omega
     have bm:s[n.toNat]?=some (s.data.getD n.toNat 0):=by
      have:s[n.toNat]?=some s[n.toNat]:=by simp[a5]
      rw[this]
      have jH:n.toNat<s.data.size:=a5
      simp only[Array.getD_eq_getD_getElem?,Array.getElem?_eq_getElem jH,Option.getD_some]
      rfl
     simp only[execOp,b_,J,ad,fD,Instr.index,asIntOf,e9,Option.bind_some,ov,vG ae.1,if_pos ae.2.1,bm]
   ·cases h
  ·cases h
 case extract x i=>
  simp only[b5]at h
  split at h
  ·rename_i aE J
   obtain⟨u,hu,he⟩:=Option.map_eq_some_iff.1 h
   simp only[Prod.mk.injEq]at he
   obtain⟨rfl,rfl⟩:=he
   exact F (by simp[bV,b_]) (.extract b_ J hu) rfl
  ·cases h
 case build ty a6=>
  simp only[b5]at h
  split at h
  ·rename_i z aN
   split at h
   ·rename_i az
    obtain⟨u,hu,he⟩:=Option.map_eq_some_iff.1 h
    simp only[Prod.mk.injEq]at he
    obtain⟨rfl,rfl⟩:=he
    exact F (by simp[bV,b_]) (.build b_ aN az hu) rfl
   ·cases h
  ·cases h
 case slice ty x bb ad fk=>
  cases fk with
  | some m=>simp only[b5]at h;cases h
  | none=>
   simp only[b5]at h
   split at h
   ·rename_i s J
    split at h
    ·rename_i l c4 ar h3
     split at h
     ·rename_i ae
      simp only[Option.some.injEq,Prod.mk.injEq]at h
      obtain⟨rfl,rfl⟩:=h
      refine M (by simp[bV,b_]) (.s9 (by simp[b_]) (pF fun z aN=>?_) rfl ?_)
      ·simp only[b_,Op.operands]at aN
       have aN:z=x\/bb=some z\/ad=some z:=by
        cases bb<;>cases ad<;>simp at aN⊢<;>first | (rcases aN with rfl | rfl | rfl<;>simp;done) | (rcases aN with rfl | rfl<;>simp;done) | (subst aN;simp;done) | (rcases aN with rfl | aN)<;>first | (rcases aN with rfl | rfl<;>simp;done) | (subst aN;simp;done) | (simp;done) | skip
       rcases aN with rfl | rfl | rfl
       ·rw[J];rfl
       ·obtain⟨k,m,e,-⟩:=yc (d:=0) (.inl ar);rw[e];rfl
       ·obtain⟨k,m,e,-⟩:=yc (.inr h3);rw[e];rfl
      ·have ag:dy P (Instr.sliceBounds false s.size s.size (bb.map (fg t)) (ad.map (fg t)) none)=some (l,c4,s.size):=by
        unfold Instr.sliceBounds
        cases ad with
        | none=>
         have:s.size=c4:=by simpa[e2]using h3
         subst this
         cases bb with
         | none=>
          have:0=l:=by simpa[dM]using ar
          subst this
          simp[fD,e9]
         | some y=>
          obtain⟨k,m,e,aI,rfl⟩:=yc (d:=0) (.inl ar)
          simp[e,fD,pb,e9,Bt (P:=P) (k:=k) aI ae.2.1]
        | some z=>
         obtain⟨cb,mG,cX,qM,rfl⟩:=yc (.inr h3)
         cases bb with
         | none=>
          have:0=l:=by simpa[dM]using ar
          subst this
          simp[cX,fD,pb,e9,Bt (P:=P) (k:=cb) qM ae.2.2]
         | some y=>
          obtain⟨k,m,e,aI,rfl⟩:=yc (d:=0) (.inl ar)
          simp[e,cX,fD,pb,e9,Bt (P:=P) (k:=cb) qM ae.2.2,Bt (P:=P) (k:=k) aI ae.2.1]
       simp only[execOp,b_,J,fD,Instr.sliceAt,Instr.slice,ov,vG ae.1,Option.bind_some,Option.map_none]
       simp[ag,fD,pb,e9]
     ·cases h
    ·cases h
   ·cases h
 case call c=>
  obtain⟨callee,args,k1⟩:=c
  simp only[b5]at h
  unfold rB at h
  split at h
  ·rename_i x ty sq TM
   obtain rfl:args= #[x]:=by apply Array.ext';simpa using sq
   obtain rfl:k1= #[ty]:=by apply Array.ext';simpa using TM
   split at h
   ·rename_i a n eG J
    split at h
    ·rename_i e he
     simp only[Option.some.injEq,Prod.mk.injEq]at h
     obtain⟨rfl,rfl⟩:=h
     exact F (by simp[bV,b_]) (.Na b_ (FW he) J) rfl
    ·cases h
   ·rename_i s J
    split at h
    ·rename_i ao
     simp only[Option.some.injEq,Prod.mk.injEq]at h
     obtain⟨rfl,rfl⟩:=h
     refine F (by simp[bV,b_]) (.pure (by simp[bV,b_]) (pF fun z aN=>?_) rfl ?_) rfl
     ·simp[b_,Op.operands,Call.operands]at aN
      subst aN;rw[J];rfl
     ·simp[execOp,b_,resolve,J,invoke,builtin,Builtin.len_,fD,pb,e9,ov,vG ao,goInt]
    ·cases h
   ·cases h
  ·rename_i x y sq
   obtain rfl:args= #[x,y]:=by apply Array.ext';simpa using sq
   split at h
   ·rename_i k a cb b J aK
    simp only[Option.some.injEq,Prod.mk.injEq]at h
    obtain⟨rfl,rfl⟩:=h
    refine F (by simp[bV,b_]) (.pure (by simp[bV,b_]) (pF fun z aN=>?_) rfl ?_) rfl
    ·simp[b_,Op.operands,Call.operands]at aN
     rcases aN with rfl | rfl
     ·rw[J];rfl
     ·rw[aK];rfl
    ·simp[execOp,b_,resolve,J,aK,invoke,builtin,Builtin.max_,Builtin.max2,fD,pb,e9]
   ·cases h
  ·rename_i x y sq
   obtain rfl:args= #[x,y]:=by apply Array.ext';simpa using sq
   split at h
   ·rename_i k a cb b J aK
    simp only[Option.some.injEq,Prod.mk.injEq]at h
    obtain⟨rfl,rfl⟩:=h
    refine F (by simp[bV,b_]) (.pure (by simp[bV,b_]) (pF fun z aN=>?_) rfl ?_) rfl
    ·simp[b_,Op.operands,Call.operands]at aN
     rcases aN with rfl | rfl
     ·rw[J];rfl
     ·rw[aK];rfl
    ·simp[execOp,b_,resolve,J,aK,invoke,builtin,Builtin.min_,Builtin.min2,fD,pb,e9]
   ·cases h
  ·cases h
def gt(t:List Value)(i:Nat):Value:=t.getD i undef
theorem Si{t:List Value}{i:Nat}(v:Value)(h:i<t.length):gt (t.set i v) i=v:=by simp[gt,List.getD_eq_getElem?_getD,h]
theorem Sh{t:List Value}{i j:Nat}(v:Value)(h:i≠j):gt (t.set i v) j=gt t j:=by simp[gt,List.getD_eq_getElem?_getD,List.getElem?_set,h]
theorem Sj(t:List Value)(i j:Nat)(v:Value):gt (t.set i v) j=if i=j then(if i<t.length then v else gt t j)else gt t j:=by
 by_cases h:i=j
 ·subst h
  rw[if_pos rfl]
  split
  ·rename_i ar;exact Si v ar
  ·rename_i ar;simp[gt,List.getD_eq_getElem?_getD,ar]
 ·rw[if_neg h];exact Sh v h
def hr:Value->Option Bool
 | .bool b=>some b
 | _=>none
theorem OJ(ops:Array Oper)(t:List Value)(j:Nat):gX ops t j=match(ops[j]?).bind (·.dst)with | some d=>hr (gt t d) | none=>none:=by
 unfold gX
 cases(ops[j]?).bind (·.dst)with
 | none=>rfl
 | some d=>
  simp only[Option.bind_some]
  by_cases h: @LT.lt Nat _ d t.length
  ·rw[bB h]
   simp only[gt,List.getD_eq_getElem?_getD,bB h,Option.getD_some]
   unfold hr
   cases t[d]<;>rfl
  ·rw[List.getElem?_eq_none (Nat.le_of_not_lt h)]
   simp only[gt,List.getD_eq_getElem?_getD,List.getElem?_eq_none (Nat.le_of_not_lt h),Option.getD_none]
   rfl
def y1(P:Program)(g:FuncId):Prop:=∃fn,P.funcs[g]?=some fn/\(fn.name== "runtime.NumGoroutine")=false/\fn.body.isSome=true
def PQ(P:Program)(f:FuncId)(args:List Value)(v:Value):Prop:=args.all hb=true/\flat v=true/\dy P (callFunc f args.toArray)=some (.value v)
def aP(P:Program)(f:FuncId)(args:List Value)(H:ab)(Q:Value->ab->Prop):Prop:=∃v H1,((y1 P f/\dX P (.call f args H) (.val v H1))\/(PQ P f args v/\H1=H))/\Q v H1
def Cd(P:Program)(c:Code)(t:List Value)(H:ab)(Q:dH->List Value->ab->Prop):Prop:=∃e t1 H1,dX P (.code c t H) (.code e t1 H1)/\Q e t1 H1
theorem aP.mono{P:Program}{f:FuncId}{args:List Value}{H:ab}{Q cf:Value->ab->Prop}(h:aP P f args H Q)(av:∀v H1,Q v H1->cf v H1):aP P f args H cf:=by
 obtain⟨v,H1,al,an⟩:=h
 exact⟨v,H1,al,av _ _ an⟩
def hT:Op->Bool
 | .store .. =>true
 | _=>false
def Cf(P:Program)(ops:Array Oper)(draw:Bool)(k:Nat)(s:Bool):Prop:=draw=true->s=true->eE P ops k=true
def y2(P:Program)(ops:Array Oper)(draw:Bool)(k:Nat)(H H1:ab):Prop:=draw=true->eE P ops k=true\/Ext H H1
def v5(P:Program)(ops:Array Oper)(draw:Bool)(k:Nat)(R:Oper)(t:List Value)(H:ab)(K:List Value->ab->Prop):Op->Prop
 | .call {callee:= .value f,args,.. }=>(match fg t f with
  | .func (.func g) first cap=>aP P g (first.toList++args.toList.map (fg t)++cap.toList) H fun v H1=>y2 P ops draw k H H1/\K (fa t R.dst v) H1
  | _=>False)
 | op=>(match b5 P (fg t) H op with
  | some (v,H1)=>Cf P ops draw k (hT op)/\K (fa t R.dst v) H1
  | none=>∃v H1,bV P R=false/\fe P (fg t) H R v H1/\y2 P ops draw k H H1/\K (fa t R.dst v) H1)
def oH(P:Program)(ops:Array Oper)(draw:Bool):Nat->List Oper->List Value->ab->(List Value->ab->Prop)->Prop
 | _,[],t,H,Q=>Q t H
 | k,R::rest,t,H,Q=>if Region.wanted R (gX ops t)=true then v5 P ops draw k R t H (fun t1 H1=>oH P ops draw (k+1) rest t1 H1 Q) R.op else oH P ops draw (k+1) rest (fa t R.dst undef) H Q
def kP(P:Program)(K:List Value->ab->Prop)(Q:dH->List Value->ab->Prop):dH->List Value->ab->Prop
 | .normal,t,H=>K t H
 | e,t,H=>Q e t H
def CB(id:Nat)(Q:dH->List Value->ab->Prop):dH->List Value->ab->Prop
 | .exit hS,t,H=>if hS=id then Q .normal t H else Q (.exit hS) t H
 | e,t,H=>Q e t H
def gM(P:Program)(R:Bool)(aJ:Operand->Value)(H:ab)(af W:List Nat)(K:Value->ab->List Nat->List Nat->Prop):Op->Prop
 | .load ty x=>(match aJ x with
  | .pointer (some ⟨b,_,none⟩)=>b∉W/\(match b5 P aJ H (.load ty x)with | some (v,H1)=>K v H1 (b::af) W | none=>False)
  | _=>False)
 | .store ty x y=>(match aJ x with
  | .pointer (some ⟨b,_,none⟩)=>(R=true\/(b∉W/\b∉af))/\(match b5 P aJ H (.store ty x y)with | some (v,H1)=>K v H1 af (if R=true then W else b::W) | none=>False)
  | _=>False)
 | op=>(match b5 P aJ H op with | some (v,H1)=>K v H1 af W | none=>False)
def Fa(P:Program)(ops:Array Oper):Bool:=ops.all fun R=>bV P R || (match R.op with | .load .. =>true | .store .. =>true | _=>false)
def oG(P:Program)(ops:Array Oper):Nat->List Oper->List Value->ab->List Nat->List Nat->(List Value->ab->Prop)->Prop
 | _,[],t,H,_,_,Q=>Q t H
 | k,R::rest,t,H,af,W,Q=>if Region.wanted R (gX ops t)=true then gM P (eE P ops k) (fg t) H af W (fun v H1 fK fL=>oG P ops (k+1) rest (fa t R.dst v) H1 fK fL Q) R.op else oG P ops (k+1) rest (fa t R.dst undef) H af W Q
def zz(ops:Array Oper):Bool:=ops.all fun R=>R.op.operands.all nq
def kW(P:Program):Code->List Value->ab->(dH->List Value->ab->Prop)->Prop
 | .skip,t,H,Q=>Q .normal t H
 | .ret,t,H,Q=>Q .ret t H
 | .exit id,t,H,Q=>Q (.exit id) t H
 | .seq a b,t,H,Q=>kW P a t H (kP P (fun t1 H1=>kW P b t1 H1 Q) Q)
 | .cond c x y,t,H,Q=>nq c=true/\(match fg t c with
  | .bool b=>if b=true then kW P x t H Q else kW P y t H Q
  | _=>False)
 | .block id c,t,H,Q=>kW P c t H (CB id Q)
 | .loop c,t,H,Q=>Cd P (.loop c) t H Q
 | .region id ops draw,t,H,Q=>(zz ops=true/\(draw=true->gK ops=true)/\oH P ops draw 0 ops.toList t H (fun t1 H1=>Q .normal t1 H1))\/(zz ops=true/\gK ops=true/\Fa P ops=true/\oG P ops 0 ops.toList t H [] [] (fun t1 H1=>Q .normal t1 H1))
 | _,_,_,_=>False
section
variable {P:Program}
theorem aaA{aJ:Operand->Value}{H H1:ab}{op:Op}{v:Value}(h:b5 P aJ H op=some (v,H1))(ao:hT op=false):Ext H H1:=by
 have same:H1=H->Ext H H1:=fun e=>e▸Ext.refl H
 have one:∀{e:TypeId} {l:Bool} {cs:List Value},H1=H++[.own e l cs]->Ext H H1:=fun{e l cs} he=>⟨[.own e l cs],he,fun x J cX eC=>by simp at J;subst J;simp⟩
 cases op<;>simp only[b5]at h<;>try (first | (simp at h;done) | (cases ao;done))
 case move=>simp at h;exact same h.2.symm
 case assign=>simp at h;exact same h.2.symm
 case pick=>split at h<;>simp at h;exact same h.2.symm
 case alloc=>
  split at h
  ·split at h
   ·simp at h;exact one h.2.symm
   ·cases h
  ·cases h
 case box=>
  split at h
  ·simp at h;exact one h.2.symm
  ·cases h
 case load=>
  split at h
  ·split at h
   ·split at h
    ·obtain⟨u,hu,he⟩:=Option.map_eq_some_iff.1 h;simp at he;exact same he.2.symm
    ·split at h
     ·split at h
      ·simp at h;exact same h.2.symm
      ·cases h
     ·cases h
    ·cases h
   ·cases h
  ·cases h
 case nilCheck=>split at h<;>simp at h;exact same h.2.symm
 case binOp=>obtain⟨u,hu,he⟩:=Option.map_eq_some_iff.1 h;simp at he;exact same he.2.symm
 case unOp=>obtain⟨u,hu,he⟩:=Option.map_eq_some_iff.1 h;simp at he;exact same he.2.symm
 case convert=>
  split at h
  ·split at h<;>simp at h;exact same h.2.symm
  ·split at h<;>simp at h;exact same h.2.symm
  ·cases h
 case makeInterface=>split at h<;>simp at h;exact same h.2.symm
 case makeFunc=>simp at h;exact same h.2.symm
 case fieldAddr=>
  split at h
  ·obtain⟨u,hu,he⟩:=Option.map_eq_some_iff.1 h;simp at he;exact same he.2.symm
  ·cases h
 case field=>
  split at h
  ·split at h
   ·obtain⟨u,hu,he⟩:=Option.map_eq_some_iff.1 h;simp at he;exact same he.2.symm
   ·cases h
  ·cases h
 case indexAddr=>
  split at h
  ·split at h
   ·split at h
    ·split at h<;>simp at h;exact same h.2.symm
    ·cases h
   ·cases h
  ·cases h
 case index=>split at h;(split at h<;>simp at h;exact same h.2.symm);cases h
 case extract=>
  split at h
  ·obtain⟨u,hu,he⟩:=Option.map_eq_some_iff.1 h;simp at he;exact same he.2.symm
  ·cases h
 case build=>
  split at h
  ·split at h
   ·obtain⟨u,hu,he⟩:=Option.map_eq_some_iff.1 h;simp at he;exact same he.2.symm
   ·cases h
  ·cases h
 case call c=>
  unfold rB at h
  split at h
  ·split at h
   ·split at h<;>simp at h;exact same h.2.symm
   ·split at h<;>simp at h;exact same h.2.symm
   ·cases h
  ·split at h<;>simp at h;exact same h.2.symm
  ·split at h<;>simp at h;exact same h.2.symm
  ·cases h
 case slice ty x bb ad fk=>
  cases fk with
  | some m=>simp at h
  | none=>
   simp only at h
   split at h
   ·split at h
    ·split at h<;>simp at h;exact same h.2.symm
    ·cases h
   ·cases h
theorem Zh{ops:Array Oper}{draw:Bool}{k:Nat}{R:Oper}{t:List Value}{H:ab}{K:List Value->ab->Prop}(hw:Region.wanted R (gX ops t)=true)(h:v5 P ops draw k R t H K R.op):
  ∃v H1,dX P (.op ops R t H) (.val v H1)/\(draw=true->bV P R=false->eE P ops k=true\/Ext H H1)/\K (fa t R.dst v) H1:=by
 have other:(match b5 P (fg t) H R.op with
  | some (v,H1)=>Cf P ops draw k (hT R.op)/\K (fa t R.dst v) H1
  | none=>∃v H1,bV P R=false/\fe P (fg t) H R v H1/\y2 P ops draw k H H1/\K (fa t R.dst v) H1)->∃v H1,dX P (.op ops R t H) (.val v H1)/\(draw=true->bV P R=false->eE P ops k=true\/Ext H H1)/\K (fa t R.dst v) H1:=by
  intro h
  split at h
  ·rename_i v H1 ao
   refine⟨v,H1,yG hw ao,fun aA _=>?_,h.2⟩
   cases dd:hT R.op with
   | true=>exact .inl (h.1 aA dd)
   | false=>exact .inr (aaA ao dd)
  ·obtain⟨v,H1,az,hm,he,aX⟩:=h
   exact⟨v,H1,.rq hw az hm,fun aA _=>he aA,aX⟩
 cases b_:R.op<;>rw[b_]at h other<;>try (exact other h)
 rename_i c
 obtain⟨callee,args,k1⟩:=c
 cases callee with
 | invoke r m=>exact other h
 | builtin b=>exact other h
 | value f=>
  simp only[v5]at h
  split at h
  ·rename_i g first cap az
   obtain⟨v,H1,⟨⟨fn,o,aa,aB⟩,al⟩ | ⟨⟨aO,an,a2⟩,rfl⟩,he,aX⟩:=h
   ·exact⟨v,H1,.vr hw (by simp[bV,b_]) b_ az o aa aB al,fun aA _=>he aA,aX⟩
   ·refine⟨v,H1,.rq hw (by simp[bV,b_]) (.s9 (by simp[b_]) ?_ an ?_),fun aA _=>he aA,aX⟩
    ·simp only[List.all_append,Bool.and_eq_true,List.all_map]at aO
     have o:first.all hb=true:=by simpa using aO.1.1
     have aa:cap.all hb=true:=by simpa using aO.2
     have aB:∀x∈args,flat (fg t x)=true:=fun x J=>by
      have:=List.all_eq_true.1 aO.1.2 x (by simpa using J)
      simp only[Function.comp]at this
      simp[flat,this]
     simp only[b_,Op.operands,Call.operands]
     have aI:flat (fg t f)=true:=by rw[az];simp[flat,o,aa]
     refine Array.all_eq_true'.2 fun x J=>?_
     rcases Array.mem_append.1 J with J | J
     ·simp at J;subst J;exact aI
     ·exact aB x J
    ·have:(first.toList++args.toList.map (fg t)++cap.toList).toArray=first++args.map (fg t)++cap:=by apply Array.ext';simp
     rw[this]at a2
     simp only[execOp,b_,resolve,az,Deferred.ofValue,invoke]
     exact a2
  ·exact h.elim
theorem NK{ops:Array Oper}{draw:Bool}{Q:List Value->ab->Prop}:∀(rest:List Oper) (k:Nat) (t:List Value) (H:ab),(∀i,rest[i]?=ops[k+i]?)->oH P ops draw k rest t H Q->
  ∃(T:Nat->List Value) (V:Nat->Value) (aZ:Nat->ab),T k=t/\aZ k=H/\(∀i R,k<=i->ops[i]?=some R->dX P (.op ops R (T i) (aZ i)) (.val (V i) (aZ (i+1)))/\T (i+1)=fa (T i) R.dst (V i)/\(draw=true->bV P R=false->eE P ops i=true\/Ext (aZ i) (aZ (i+1))))/\
   Q (T (k+rest.length)) (aZ (k+rest.length))
 | [],k,t,H,al,h=>by
  refine⟨fun _=>t,fun _=>undef,fun _=>H,rfl,rfl,fun i R hf aM=>?_,by simpa[oH]using h⟩
  have o:ops.size<=k:=by
   have:=al 0
   simp at this
   exact this
  have aa:=(Array.getElem?_eq_some_iff.1 aM).1
  omega
 | R::rest,k,t,H,al,h=>by
  have aM:ops[k]?=some R:=by have:=al 0;simpa using this.symm
  have fB:∀i,rest[i]?=ops[k+1+i]?:=fun i=>by have:=al (i+1);simp at this;rw[this];congr 1;omega
  obtain⟨v,H1,aY,a3,bN⟩:∃v H1,dX P (.op ops R t H) (.val v H1)/\(draw=true->bV P R=false->eE P ops k=true\/Ext H H1)/\oH P ops draw (k+1) rest (fa t R.dst v) H1 Q:=by
   simp only[oH]at h
   split at h
   ·rename_i hw;exact Zh hw h
   ·rename_i hw
    exact⟨undef,H,.ta (by simpa using hw),fun _ _=> .inr (Ext.refl H),h⟩
  obtain⟨T,V,aZ,ee,fF,hW,lq⟩:=NK rest (k+1) _ H1 fB bN
  refine⟨fun i=>if i<=k then t else T i,fun i=>if i<=k then v else V i,fun i=>if i<=k then H else aZ i,by simp,by simp,fun i kv hf ft=>?_,?_⟩
  ·by_cases sv:i=k
   ·subst sv
    rw[aM]at ft
    obtain rfl:=Option.some.inj ft
    simp only[Nat.le_refl,if_true,show¬(i+1<=i) by omega,if_false,ee,fF]
    exact⟨aY,trivial,a3⟩
   ·simp only[show¬(i<=k) by omega,show¬(i+1<=k) by omega,if_false]
    exact hW i kv (by omega) ft
  ·have e:k+(R::rest).length=k+1+rest.length:=by simp;omega
   rw[e]
   simp only[show¬(k+1+rest.length<=k) by omega,if_false]
   exact lq
theorem OA{ops:Array Oper}{R:Oper}{t:List Value}{H H1:ab}{v:Value}(hw:Region.wanted R (gX ops t)=true)(az:bV P R=false)(ae:∀c,R.op≠ .call c)(h:b5 P (fg t) H R.op=some (v,H1)):fe P (fg t) H R v H1:=by
 have al:=yG (ops:=ops) hw h
 cases al with
 | ta ra=>rw[hw]at ra;cases ra
 | vs _ a4 _=>rw[az]at a4;cases a4
 | rq _ _ hm=>exact hm
 | vr _ _ aM=>exact absurd aM (ae _)
theorem YS{ops:Array Oper}{R:Oper}{t:List Value}{H:ab}{af W:List Nat}{K:Value->ab->List Nat->List Nat->Prop}(hw:Region.wanted R (gX ops t)=true)(ag:(bV P R || (match R.op with | .load .. =>true | .store .. =>true | _=>false))=true){CE:Bool}(h:gM P CE (fg t) H af W K R.op):
  ∃v H1 fK fL g,dX P (.op ops R t H) (.val v H1)/\oF P ops R t H v H1 g/\K v H1 fK fL/\((g=none/\fK=af/\fL=W)\/(∃b,g=some (b,none)/\b∉W/\fK=b::af/\fL=W)\/∃b x,g=some (b,some x)/\(CE=true\/(b∉W/\b∉af))/\fK=af/\fL=if CE=true then W else b::W):=by
 cases b_:R.op with
 | load ty x=>
  rw[b_]at h
  have az:bV P R=false:=by simp[bV,b_]
  simp only[gM]at h
  split at h
  ·rename_i b i J
   obtain⟨DK,h⟩:=h
   split at h
   ·rename_i v H1 ao
    have nb:=ao
    simp only[b5,J]at ao
    cases gn:iL H b with
    | none=>rw[gn]at ao;cases ao
    | some cs=>
     obtain⟨X,aT,TE⟩:=zv gn
     have SA:H1=H:=by
      rw[gn]at ao
      simp only at ao
      split at ao
      ·obtain⟨u,hu,he⟩:=Option.map_eq_some_iff.1 ao;simp at he;exact he.2.symm
      ·split at ao
       ·split at ao
        ·simp at ao;exact ao.2.symm
        ·cases ao
       ·cases ao
      ·cases ao
     subst SA
     have UL:H1[b]?≠some .dead:=fun e=>by rw[aT]at e;simp at e;subst e;simp[bK.cells?]at TE
     refine⟨v,H1,b::af,W,some (b,none),yG hw (by rw[b_];exact nb),⟨hw,az,(cH.1 aT).1,UL,rfl,fun aH se=>?_⟩,h,.inr (.inl ⟨b,rfl,DK,rfl,rfl⟩)⟩
     refine OA (ops:=ops) hw az (by simp[b_]) ?_
     rw[b_]
     have:iL aH b=iL H1 b:=by unfold iL;rw[se]
     rw[gn]at ao
     simp only[b5,J,this,gn,mF]
     revert ao
     cases dq P ty with
     | none=>simp
     | some g=>
      cases g with
      | false=>
       simp only
       cases cs[i]?<;>simp
      | true=>
       simp only
       cases bp P ty with
       | none=>simp
       | some n=>
        simp only
        split<;>simp
   ·exact h.elim
  ·exact h.elim
 | store ty x y=>
  rw[b_]at h
  have az:bV P R=false:=by simp[bV,b_]
  simp only[gM]at h
  split at h
  ·rename_i b i J
   obtain⟨DK,h⟩:=h
   split at h
   ·rename_i v H1 ao
    have nb:=ao
    simp only[b5,J]at ao
    split at ao
    ·rename_i e l cs aT
     split at ao
     ·rename_i xc
      simp only[Option.some.injEq,Prod.mk.injEq]at ao
      obtain⟨rfl,rfl⟩:=ao
      refine⟨_,_,af,_,some (b,some (.own e l (dg cs i (fg t y).cells.toList))),yG hw (by rw[b_];exact nb),⟨hw,az,(cH.1 aT).1,by rw[aT];simp,rfl,fun aH se=>?_⟩,h,.inr (.inr ⟨b,_,rfl,DK,rfl,rfl⟩)⟩
      refine OA (ops:=ops) hw az (by simp[b_]) ?_
      rw[b_]
      simp only[b5,J,se,aT,mF]
      rw[if_pos xc]
     ·cases ao
    ·cases ao
   ·exact h.elim
  ·exact h.elim
 | _=>
  have a4:bV P R=true:=by simpa[b_]using ag
  rw[b_]at h
  simp only[gM]at h
  split at h
  ·rename_i v H1 ao
   have al:=yG (ops:=ops) hw (by rw[b_];exact ao)
   have Df:H1=H:=by
    cases al with
    | ta=>rfl
    | vs=>rfl
    | rq _ az=>rw[a4]at az;cases az
    | vr _ az=>rw[a4]at az;cases az
   exact⟨v,H1,af,W,none,al,⟨.inr a4,Df⟩,h,.inl ⟨rfl,rfl,rfl⟩⟩
  ·exact h.elim
theorem NG{ops:Array Oper}{Q:List Value->ab->Prop}(jG:Fa P ops=true):∀(rest:List Oper) (k:Nat) (t:List Value) (H:ab) (af W:List Nat),(∀i,rest[i]?=ops[k+i]?)->oG P ops k rest t H af W Q->
  ∃(T:Nat->List Value) (V:Nat->Value) (aZ:Nat->ab) (ef:Nat->Option (Nat×Option bK)),T k=t/\aZ k=H/\(∀i R,k<=i->ops[i]?=some R->dX P (.op ops R (T i) (aZ i)) (.val (V i) (aZ (i+1)))/\T (i+1)=fa (T i) R.dst (V i)/\oF P ops R (T i) (aZ i) (V i) (aZ (i+1)) (ef i))/\
   (∀i b y,k<=i->ef i=some (b,y)->eE P ops i=true\/(b∉W/\(y≠none->b∉af)))/\(∀(i j:Nat) (b:Nat) (x:bK) (y:Option bK),k<=i->k<=j->ef i=some (b,some x)->ef j=some (b,y)->i≠j->eE P ops i=true\/eE P ops j=true)/\(∀j,k<=j->ops.size<=j->ef j=none)/\Q (T (k+rest.length)) (aZ (k+rest.length))
 | [],k,t,H,af,W,al,h=>by
  refine⟨fun _=>t,fun _=>undef,fun _=>H,fun _=>none,rfl,rfl,fun i R hf aM=>?_,by simp,by simp,by simp,by simpa[oG]using h⟩
  have o:ops.size<=k:=by
   have:=al 0
   simp at this
   exact this
  have aa:=(Array.getElem?_eq_some_iff.1 aM).1
  omega
 | R::rest,k,t,H,af,W,al,h=>by
  have aM:ops[k]?=some R:=by have:=al 0;simpa using this.symm
  have hg:=(Array.getElem?_eq_some_iff.1 aM).1
  have fB:∀i,rest[i]?=ops[k+1+i]?:=fun i=>by have:=al (i+1);simp at this;rw[this];congr 1;omega
  have Ef:=Array.all_eq_true'.1 jG R (Array.mem_of_getElem? aM)
  obtain⟨v,H1,fK,fL,g,aY,a3,bN,ck⟩:∃v H1 fK fL g,dX P (.op ops R t H) (.val v H1)/\oF P ops R t H v H1 g/\oG P ops (k+1) rest (fa t R.dst v) H1 fK fL Q/\((g=none/\fK=af/\fL=W)\/(∃b,g=some (b,none)/\b∉W/\fK=b::af/\fL=W)\/∃b x,g=some (b,some x)/\(eE P ops k=true\/(b∉W/\b∉af))/\fK=af/\fL=if eE P ops k=true then W else b::W):=by
   simp only[oG]at h
   split at h
   ·rename_i hw;exact YS hw Ef h
   ·rename_i hw
    have ra:Region.wanted R (gX ops t)=false:=by simpa using hw
    exact⟨undef,H,af,W,none,.ta ra,⟨.inl ra,rfl⟩,h,.inl ⟨rfl,rfl,rfl⟩⟩
  obtain⟨T,V,aZ,ef,ee,fF,hW,vz,FG,FH,lq⟩:=NG jG rest (k+1) _ H1 fK fL fB bN
  have l0:∀b,(b∈W->b∈fL)/\(b∈af->b∈fK):=by
   intro b
   rcases ck with⟨-,rfl,rfl⟩ | ⟨c,-,-,rfl,rfl⟩ | ⟨c,x,-,-,rfl,rfl⟩
   ·exact⟨id,id⟩
   ·exact⟨id,List.mem_cons_of_mem _⟩
   ·split
    ·exact⟨id,id⟩
    ·exact⟨List.mem_cons_of_mem _,id⟩
  refine⟨fun i=>if i<=k then t else T i,fun i=>if i<=k then v else V i,fun i=>if i<=k then H else aZ i,fun i=>if i<=k then g else ef i,by simp,by simp,fun i kv hf ft=>?_,fun i b y hf aU=>?_,fun i j b x y hf u0 jX jY cQ=>?_,fun j o aa=>?_,?_⟩
  ·by_cases sv:i=k
   ·subst sv
    rw[aM]at ft
    obtain rfl:=Option.some.inj ft
    simp only[Nat.le_refl,if_true,show¬(i+1<=i) by omega,if_false,ee,fF]
    exact⟨aY,trivial,a3⟩
   ·simp only[show¬(i<=k) by omega,show¬(i+1<=k) by omega,if_false]
    exact hW i kv (by omega) ft
  ·by_cases sv:i=k
   ·subst sv
    simp only[Nat.le_refl,if_true]at aU
    rcases ck with⟨e,-⟩ | ⟨c,e,o,-⟩ | ⟨c,x,e,o,-⟩
    ·rw[e]at aU;cases aU
    ·rw[e]at aU;simp at aU;obtain⟨rfl,rfl⟩:=aU;exact .inr ⟨o,fun h=>absurd rfl h⟩
    ·rw[e]at aU;simp at aU;obtain⟨rfl,rfl⟩:=aU
     exact o.imp id fun q=>⟨q.1,fun _=>q.2⟩
   ·simp only[show¬(i<=k) by omega,if_false]at aU
    exact(vz i b y (by omega) aU).imp id fun⟨o,aa⟩=>⟨fun ag=>o ((l0 b).1 ag),fun aK ag=>aa aK ((l0 b).2 ag)⟩
  ·by_cases sv:i=k
   ·subst sv
    simp only[Nat.le_refl,if_true,show¬(j<=i) by omega,if_false]at jX jY
    rcases vz j b y (by omega) jY with aI | ⟨o,aa⟩
    ·exact .inr aI
    rcases ck with⟨e,-⟩ | ⟨d,e,-⟩ | ⟨d,z,e,-,-,rfl⟩
    ·rw[e]at jX;cases jX
    ·rw[e]at jX;simp at jX
    ·rw[e]at jX
     simp at jX
     obtain⟨rfl,rfl⟩:=jX
     cases mu:eE P ops i with
     | true=>exact .inl rfl
     | false=>rw[mu]at o;simp at o
   ·simp only[show¬(i<=k) by omega,if_false]at jX
    by_cases xq:j=k
    ·subst xq
     simp only[Nat.le_refl,if_true]at jY
     rcases vz i b (some x) (by omega) jX with aI | ⟨o,aa⟩
     ·exact .inl aI
     rcases ck with⟨e,-⟩ | ⟨d,e,-,rfl,-⟩ | ⟨d,z,e,-,-,rfl⟩
     ·rw[e]at jY;cases jY
     ·rw[e]at jY
      simp at jY
      obtain⟨rfl,rfl⟩:=jY
      exact absurd List.mem_cons_self (aa (by simp))
     ·rw[e]at jY
      simp at jY
      obtain⟨rfl,rfl⟩:=jY
      cases mu:eE P ops j with
      | true=>exact .inr rfl
      | false=>rw[mu]at o;simp at o
    ·simp only[show¬(j<=k) by omega,if_false]at jY
     exact FG i j b x y (by omega) (by omega) jX jY cQ
  ·simp only[show¬(j<=k) by omega,if_false]
   exact FH j (by omega) aa
  ·have e:k+(R::rest).length=k+1+rest.length:=by simp;omega
   rw[e]
   simp only[show¬(k+1+rest.length<=k) by omega,if_false]
   exact lq
theorem r6:∀(c:Code) (t:List Value) (H:ab) (Q:dH->List Value->ab->Prop),kW P c t H Q->Cd P c t H Q
 | .skip,t,H,Q,h=>⟨.normal,t,H,.skip,h⟩
 | .ret,t,H,Q,h=>⟨.ret,t,H,.ret,h⟩
 | .exit id,t,H,Q,h=>⟨.exit id,t,H,.exit,h⟩
 | .seq a b,t,H,Q,h=>by
  obtain⟨e,t1,H1,al,av⟩:=r6 a t H _ h
  cases e with
  | normal=>
   obtain⟨bk,t2,aR,na,ob⟩:=r6 b t1 H1 Q av
   exact⟨bk,t2,aR,.BG al na,ob⟩
  | exit id=>exact⟨.exit id,t1,H1,.yz al (by simp),av⟩
  | ret=>exact⟨.ret,t1,H1,.yz al (by simp),av⟩
 | .cond c x y,t,H,Q,h=>by
  simp only[kW]at h
  obtain⟨ak,h⟩:=h
  split at h
  ·rename_i b ae
   cases b with
   | true=>
    obtain⟨e,t1,H1,al,av⟩:=r6 x t H Q (by simpa using h)
    exact⟨e,t1,H1,.cond ae ak al,av⟩
   | false=>
    obtain⟨e,t1,H1,al,av⟩:=r6 y t H Q (by simpa using h)
    exact⟨e,t1,H1,.cond ae ak al,av⟩
  ·exact h.elim
 | .block id c,t,H,Q,h=>by
  obtain⟨e,t1,H1,al,av⟩:=r6 c t H _ h
  refine⟨_,t1,H1,.block al,?_⟩
  cases e with
  | normal=>exact av
  | exit hS=>
   simp only[CB]at av
   by_cases ad:hS=id
   ·subst ad;simpa using av
   ·simpa[ad]using av
  | ret=>exact av
 | .loop c,t,H,Q,h=>h
 | .region id ops draw,t,H,Q,h=>by
  simp only[kW]at h
  rcases h with⟨o,aa,aB⟩ | ⟨o,aa,aI,aB⟩
  rotate_left
  ·obtain⟨T,V,aZ,ef,ee,fF,hW,vz,FG,FH,lq⟩:=NG aI ops.toList 0 t H [] [] (fun i=>by simp) aB
   have gT:=dX.BC (P:=P) (id:=id) (ops:=ops) (draw:=draw) T V aZ ef o (fun i R aM=>(hW i R (Nat.zero_le _) aM).1) (fun i R aM=>(hW i R (Nat.zero_le _) aM).2.1) aa (fun i R aM=>(hW i R (Nat.zero_le _) aM).2.2) (fun i j b x y=>FG i j b x y (Nat.zero_le _) (Nat.zero_le _)) (fun j=>FH j (Nat.zero_le _))
   rw[ee,fF]at gT
   exact⟨.normal,_,_,gT,by simpa using lq⟩
  obtain⟨T,V,aZ,ee,fF,hW,lq⟩:=NK ops.toList 0 t H (fun i=>by simp) aB
  have gT:=dX.region (P:=P) (id:=id) (ops:=ops) (draw:=draw) T V aZ o (fun i R aM=>(hW i R (Nat.zero_le _) aM).1) (fun i R aM=>(hW i R (Nat.zero_le _) aM).2.1) (fun aA=>⟨aa aA,fun i R aM az=>(hW i R (Nat.zero_le _) aM).2.2 aA az⟩)
  rw[ee,fF]at gT
  exact⟨.normal,_,_,gT,by simpa using lq⟩
 | .rangeFunc ..,t,H,Q,h=>by simp only[kW]at h
 | .scope ..,t,H,Q,h=>by simp only[kW]at h
 | .label ..,t,H,Q,h=>by simp only[kW]at h
 | .goto ..,t,H,Q,h=>by simp only[kW]at h
 | .refuse ..,t,H,Q,h=>by simp only[kW]at h
def px(P:Program)(t:List Value)(H:ab):List ResultVar->(List Value->Prop)->Prop
 | [],K=>K []
 | .tmp i::rs,K=>px P t H rs fun aE=>K (gt t i::aE)
 | .cell a ty::rs,K=>(match gt t a with
  | .pointer (some ⟨b,i,none⟩)=>(match iL H b with
   | some cs=>(match dq P ty with
    | some false=>(match cs[i]? with
     | some v=>px P t H rs fun aE=>K (v::aE)
     | none=>False)
    | some true=>(match bp P ty with
     | some n=>i+n<=cs.length/\px P t H rs fun aE=>K (.agg ((cs.drop i).take n).toArray::aE)
     | none=>False)
    | none=>False)
   | none=>False)
  | _=>False)
theorem yx{t:List Value}{H:ab}:∀(rs:List ResultVar) (K:List Value->Prop),px P t H rs K->∃aE,mh P t H rs aE/\K aE
 | [],K,h=>⟨[],.nil,h⟩
 | .tmp i::rs,K,h=>by
  obtain⟨aE,o,aa⟩:=yx rs _ h
  exact⟨_,.tmp o,aa⟩
 | .cell a ty::rs,K,h=>by
  simp only[px]at h
  split at h
  ·rename_i b i J
   split at h
   ·rename_i cs gn
    obtain⟨X,aT,ae⟩:=zv gn
    split at h
    ·rename_i aO
     split at h
     ·rename_i v an
      obtain⟨aE,o,aa⟩:=yx rs _ h
      exact⟨_,.zt aO J aT ae an o,aa⟩
     ·exact h.elim
    ·rename_i aO
     split at h
     ·rename_i n aG
      obtain⟨aE,o,aa⟩:=yx rs _ h.2
      exact⟨_,.zu aO aG J aT ae h.1 o,aa⟩
     ·exact h.elim
    ·exact h.elim
   ·exact h.elim
  ·exact h.elim
def ZT(P:Program)(rs:List ResultVar)(Q:Value->ab->Prop):dH->List Value->ab->Prop
 | .normal,t,H=>px P t H rs fun aE=>Q (bd aE) H
 | .ret,t,H=>px P t H rs fun aE=>Q (bd aE) H
 | .exit _,_,_=>False
theorem aP.RU{f:FuncId}{fn:Func}{c:Code}{args:List Value}{H:ab}{Q:Value->ab->Prop}(az:P.funcs[f]?=some fn)(aG:(fn.name== "runtime.NumGoroutine")=false)(ag:fn.body=some c)
  (h:kW P c (args++List.replicate (fn.ntmps-args.length) undef) H (ZT P fn.results.toList Q)):∃v H1,y1 P f/\dX P (.call f args H) (.val v H1)/\Q v H1:=by
 have ae:y1 P f:=⟨fn,az,aG,by rw[ag];rfl⟩
 obtain⟨e,t1,H1,al,av⟩:=r6 _ _ _ _ h
 cases e with
 | normal=>
  obtain⟨aE,o,aa⟩:=yx _ _ av
  exact⟨_,H1,ae,.call az ag al (.inl rfl) o,aa⟩
 | exit id=>exact av.elim
 | ret=>
  obtain⟨aE,o,aa⟩:=yx _ _ av
  exact⟨_,H1,ae,.call az ag al (.inr rfl) o,aa⟩
end
end Go.cW
end
