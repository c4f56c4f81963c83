/- ShopBirkhoff returns true for every input and leaves it as it was: no condition. -/
import Derived.Test.YtoiodfcefbapkaaGreatShopBirkhoffJ
set_option linter.unusedVariables false
set_option linter.unusedSimpArgs false
section
set_option maxRecDepth 8000
set_option maxHeartbeats 1000000
namespace Go.cl
open Go.Proofs
open Go.Proofs.Tryz (prog)
open Go.RowKit
class lR {α:Type} (ae:ad->Value->α->Prop):Prop where
 app:∀{H N:ad} {v:Value} {x:α},ae H v x->ae (H++N) v x
theorem eA.app{H N:ad}{e R n:Nat}{v:Value}{cs:List Value}(h:eA H e R v n cs):eA (H++N) e R v n cs:=by
 obtain⟨a,cap,o,aa,aE,bA⟩:=h
 refine⟨a,cap,o,aa,aE,fun ag=>?_⟩
 obtain⟨b,i,X,all,aU,aO,bw⟩:=bA ag
 exact⟨b,i,X,all,aU,by rw[List.getElem?_append_left (cn.1 aO).1];exact aO,bw⟩
instance{α:Type}{e R:Nat}{ay:Bool}{ae:ad->Value->α->Prop}[lR ae]:lR (Row e R ay ae):=⟨fun⟨cs,o,aa⟩=>⟨cs,o.app,fun i x ab=>lR.app (aa i x ab)⟩⟩
instance:lR IR:=⟨fun h=>h⟩
def vJ(ay:Bool)(cs:List Value):Value:=if ay=true then .agg cs.toArray else cs[0]?.getD undef
def pP(H:Type)(enc:TypeId×Value->H)(w:World)(t:TypeId)(cs:List Value):Prop:=∃fuel x,DataW.trod enc prog w 0 (fun _=>true) true fuel t cs=some x
def oC(w:World)(ak:bl)(H:ad):Prop:=cC prog w.heap.size ak H w/\∀b,¬ie H b
def iO{α:Type}(w:World)(rd:List Value->Prop)(ay:Bool)(ae:ad->Value->α->Prop):Prop:=
 ∀cs,rd cs->∀ak H,oC w ak H->∃bD N LF x,oC w bD (H++N)/\(∀b k,ak b=some k->bD b=some k)/\cX bD LF cs/\ae (H++N) (vJ ay LF) x
theorem cX.one{ak:bl}{v aw:Value}(h:bo ak v aw):cX ak [v] [aw]:=⟨rfl,fun i x y J aP=>by
 match i with
 | 0=>simp at J aP;subst J aP;exact h
 | n+1=>simp at J⟩
theorem iO.flat{α:Type}{w:World}{rd:List Value->Prop}{ae:ad->Value->α->Prop}(h:∀cs,rd cs->∃v aw x,cs=[aw]/\(∀ak,bo ak v aw)/\∀H,ae H v x):iO w rd false ae:=fun cs ag ak H c1=>by
 obtain⟨v,aw,x,rfl,o,aa⟩:=h cs ag
 exact⟨ak,[],[v],x,by simpa using c1,fun _ _ h=>h,cX.one (o ak),aa _⟩
theorem iO.many{α:Type}{w:World}{rd:List Value->Prop}{ay:Bool}{ae:ad->Value->α->Prop}[lR ae](h:iO w rd ay ae):∀(L:List (List Value)),(∀cs∈L,rd cs)->∀ak H,oC w ak H->
  ∃(bD:bl) (N:ad) (M:List (List Value)) (xs:List α),oC w bD (H++N)/\(∀b k,ak b=some k->bD b=some k)/\M.length=L.length/\xs.length=L.length/\∀(i:Nat) (c:List Value),L[i]?=some c->∃cx x,M[i]?=some cx/\xs[i]?=some x/\cX bD cx c/\ae (H++N) (vJ ay cx) x
 | [],_,ak,H,c1=>⟨ak,[],[],[],by simpa using c1,fun _ _ h=>h,rfl,rfl,fun i c h=>by simp at h⟩
 | a::L,dv,ak,H,c1=>by
  obtain⟨bD,Ea,cx,AD,dh,gZ,fP,ho⟩:=h a (dv a (by simp)) ak H c1
  obtain⟨nG,Eb,M,xs,aU,aO,bw,cj,eR⟩:=iO.many h L (fun c ag=>dv c (by simp[ag])) bD (H++Ea) dh
  refine⟨nG,Ea++Eb,cx::M,AD::xs,by rw[<-List.append_assoc];exact aU,fun b k af=>aO b k (gZ b k af),by simp[bw],by simp[cj],fun i c ag=>?_⟩
  match i with
  | 0=>
   simp at ag
   subst ag
   exact⟨cx,AD,rfl,rfl,cX.ext aO fP,by rw[<-List.append_assoc];exact lR.app ho⟩
  | n+1=>
   obtain⟨cN,rM,ec,fs,hP,mo⟩:=eR n c (by simpa using ag)
   exact⟨cN,rM,by simpa using ec,by simpa using fs,hP,by rw[<-List.append_assoc];exact mo⟩
theorem oC.snoc{w:World}{ak:bl}{H:ad}(h:oC w ak H){e:TypeId}{inf:TypeInfo}{b U:Nat}{cs eQ:List Value}(ab:(prog).info? e=some inf)(af:b<w.heap.size)(c1:cX ak cs eQ)
  (FT:∀i v,eQ[i]?=some v->w.cell? ⟨b,U+i,none⟩=some v):
  ∃bD,oC w bD (H++[.ro e cs])/\(∀c k,ak c=some k->bD c=some k)/\bD H.length=some ⟨b,U,0,inf.size,false⟩:=by
 obtain⟨bP,gO⟩:=h
 have a3:∀c k,ak c=some k->c<H.length:=fun c k ag=>(bP.e2 c k ag).2
 have nU:∀c k,ak c=some k->(fun c=>if c=H.length then some (⟨b,U,0,inf.size,false⟩:jo)else ak c) c=some k:=fun c k ag=>by
  have:=a3 c k ag
  show(if c=H.length then _ else _)=_
  rw[if_neg (by omega)]
  exact ag
 have N6:∀c,¬ie (H++[.ro e cs]) c:=by
  rintro c ⟨c0,l,eQ,h⟩
  rcases Nat.lt_or_ge c H.length with ag | ag
  ·rw[List.getElem?_append_left ag]at h
   exact gO c ⟨c0,l,eQ,h⟩
  ·rw[List.getElem?_append_right ag]at h
   match aq:c-H.length with
   | 0=>rw[aq]at h;simp at h
   | n+1=>rw[aq]at h;simp at h
 refine⟨fun c=>if c=H.length then some ⟨b,U,0,inf.size,false⟩else ak c,⟨⟨by simp,Nat.le_refl _,fun c k ag=>?_,fun c k y ag aP=>?_,fun c dA k b1 _ _ _ aW=>absurd aW (N6 c)⟩,N6⟩,nU,by simp⟩
 ·have aK:=bP.pos
  split at ag
  ·next aq=>subst aq;simp;exact aK
  ·have:=bP.e2 c k ag
   simp
   omega
 ·split at ag
  ·next aq=>
   subst aq
   obtain rfl:=Option.some.inj ag
   rw[List.getElem?_append_right (Nat.le_refl _),Nat.sub_self]at aP
   obtain rfl:=Option.some.inj aP
   refine .ro ab rfl (fun i v an=>?_) af
   have cA:=(cn.1 an).1
   have dC:=bs (l:=eQ) (i:=i) (by rw[<-c1.1];exact cA)
   exact⟨_,FT i _ dC,(c1.2 i _ _ an dC).ext nU⟩
  ·have:=a3 c k ag
   rw[List.getElem?_append_left this]at aP
   exact(bP.fm c k y ag aP).gY nU (fun _=>rfl) (Nat.le_refl _)
theorem SR{w:World}{a:Addr}{v:Value}(h:w.cell? a=some v):a.block<w.heap.size:=by
 rcases Nat.lt_or_ge a.block w.heap.size with o | o
 ·exact o
 ·unfold World.cell? at h
  rw[Array.getElem?_eq_none o]at h
  simp at h
theorem SU{w:World}{x:Addr}{n:Nat}{cs:List Value}(aF:0<n)(au:cs.length=n)(h:∀i v,cs[i]?=some v->w.cell? (x.add i)=some v):x.spot=none/\x.block<w.heap.size/\∀i v,cs[i]?=some v->w.cell? ⟨x.block,x.off+i,none⟩=some v:=by
 have aG:=h 0 _ (bs (by omega))
 have hV:x.add 0=x:=by simp[Addr.add]
 rw[hV]at aG
 have uD:=World.cell?_spot aG
 refine⟨uD,SR aG,fun i v ab=>?_⟩
 have:=h i v ab
 obtain⟨b,U,s⟩:=x
 simp only at uD
 subst uD
 by_cases ss:i=0
 ·subst ss;simpa[Addr.add]using this
 ·simpa[Addr.add,ss]using this
theorem tI{L:List (List Value)}{n:Nat}(h:∀c∈L,c.length=n):L.flatten.length=L.length*n:=by
 induction L with
 | nil=>simp
 | cons a L a2=>
  rw[List.flatten_cons,List.length_append,a2 fun c ag=>h c (by simp[ag]),h a (by simp),List.length_cons,Nat.succ_mul,Nat.add_comm]
theorem Mi{L:List (List Value)}{n:Nat}(h:∀c∈L,c.length=n){i:Nat}{c:List Value}(ab:L[i]?=some c):(L.flatten.drop (i*n)).take n=c:=by
 induction L generalizing i with
 | nil=>simp at ab
 | cons a L a2=>
  have aL:=h a (by simp)
  match i with
  | 0=>
   simp at ab
   subst ab
   rw[List.flatten_cons,Nat.zero_mul,List.drop_zero,List.take_append_of_le_length (by omega),List.take_of_length_le (by omega)]
  | m+1=>
   rw[List.flatten_cons,show(m+1)*n=a.length+m*n by rw[aL,Nat.succ_mul,Nat.add_comm],List.drop_append,List.drop_of_length_le (by omega),List.nil_append,Nat.add_sub_cancel_left]
   exact a2 (fun c ag=>h c (by simp[ag])) (by simpa using ab)
theorem EP{L:List (List Value)}{n:Nat}(h:∀c∈L,c.length=n){q:Nat}{v:Value}(an:L.flatten[q]?=some v):∃i j c,L[i]?=some c/\c[j]?=some v/\j<n/\q=i*n+j:=by
 have aq:=(cn.1 an).1
 rw[tI h]at aq
 have aF:0<n:=by exact Nat.pos_of_ne_zero fun aG=>by subst aG;simp at aq
 have ab:q/n<L.length:=(Nat.div_lt_iff_lt_mul aF).2 aq
 have aN:=Nat.mod_lt q aF
 have pe:q=(q/n)*n+q % n:=by rw[Nat.mul_comm];exact(Nat.div_add_mod q n).symm
 have c1:=bs ab
 refine⟨q/n,q % n,_,c1,?_,aN,pe⟩
 have:=Mi h c1
 rw[<-this,List.getElem?_take_of_lt aN,List.getElem?_drop,<-pe]
 exact an
theorem Addr.add_add(a:Addr)(i j:Nat):(a.add i).add j=a.add (i+j):=Go.Deep.add_add a i j
theorem iO.slice{α:Type}{w:World}{xM:Type}{enc:TypeId×Value->xM}{t e:TypeId}{R:Nat}{ay:Bool}{ae:ad->Value->α->Prop}[lR ae]{inf:TypeInfo}(bG:(prog).underlying t=some (.slice e))(df:(prog).cellsOf e=R)(o:ay=true\/R=1)(aG:0<R)
  (ab:(prog).info? e=some inf)(ao:inf.size=R)(h:iO w (pP xM enc w e) ay ae):iO w (pP xM enc w t) false (Row e R ay ae):=by
 rintro cs ⟨fuel,x,J⟩ ak H c1
 rcases Go.Deep.open_slice bG J with⟨rfl,_⟩ | ⟨a,len,cap,m,n,D,ail,rfl,_,au,hm,Xk,_,FZ⟩
 ·exact⟨ak,[],[.slice none 0 0],[],by simpa using c1,fun _ _ h=>h,cX.one .sU,Row.nil _ _ _ _ _⟩
 ·have akN:m=cap:=by simpa using Xk
  by_cases aQ:len=0
  ·subst aQ
   have af:=c1.1.pos
   exact⟨ak,[],[.slice (some ⟨1,0,none⟩) 0 0],[],by simpa using c1,fun _ _ h=>h,cX.one (.empty (by decide) _ _),[],eA.void _ _ _ _,fun i x h=>by simp at h⟩
  ·obtain⟨g,a1⟩:=Go.Deep.choose_lt (α:=List Value) (n:=len) (p:=fun i c=>w.cells? 0 (a.add (i*R)) R=some c/\pP xM enc w e c) fun i ab=>by
    obtain⟨c,aU,aO⟩:=FZ i (by omega)
    rw[df]at aU
    exact⟨c,aU,_,_,aO⟩
   obtain⟨L,se⟩:∃L,L=(List.range len).map g:=⟨_,rfl⟩
   have MV:L.length=len:=by rw[se];simp
   have MT:∀i c,L[i]?=some c->i<len/\c=g i:=fun i c ag=>by
    have cA:=(cn.1 ag).1
    rw[se,List.getElem?_map,List.getElem?_range (by omega)]at ag
    exact⟨by omega,(Option.some.inj ag).symm⟩
   have hM:∀c∈L,c.length=R/\pP xM enc w e c:=fun c ag=>by
    obtain⟨i,ab⟩:=List.mem_iff_getElem?.1 ag
    obtain⟨aU,rfl⟩:=MT i c ab
    obtain⟨ec,fs⟩:=a1 i aU
    exact⟨(World.cells?_some ec).2.1,fs⟩
   obtain⟨bD,N,M,xs,dh,gZ,fP,ho,iK⟩:=iO.many h L (fun c ag=>(hM c ag).2) ak H c1
   have Fi:∀i cx,M[i]?=some cx->∃c x,L[i]?=some c/\xs[i]?=some x/\cX bD cx c/\ae (H++N) (vJ ay cx) x:=fun i cx ag=>by
    have cA:=(cn.1 ag).1
    have MU:=bs (l:=L) (i:=i) (by omega)
    obtain⟨cN,rM,ec,fs,hP,mo⟩:=iK i _ MU
    rw[ag]at ec
    obtain rfl:=Option.some.inj ec
    exact⟨_,rM,MU,fs,hP,mo⟩
   have v5:∀c∈M,c.length=R:=fun c ag=>by
    obtain⟨i,ab⟩:=List.mem_iff_getElem?.1 ag
    obtain⟨cN,rM,ec,fs,hP,-⟩:=Fi i c ab
    rw[hP.1]
    exact(hM cN (List.mem_of_getElem? ec)).1
   have By:∀c∈L,c.length=R:=fun c ag=>(hM c ag).1
   have Fg:cX bD M.flatten L.flatten:=by
    refine⟨by rw[tI v5,tI By,fP],fun q v aw an dC=>?_⟩
    obtain⟨i,j,c,aU,aO,bw,cj⟩:=EP v5 an
    obtain⟨fC,dO,dA,Di,acy,acz,acA⟩:=EP By dC
    have F5:i=fC:=by
     have bn:(i*R+j)/R=i:=by rw[Nat.mul_comm,Nat.mul_add_div aG,Nat.div_eq_of_lt bw];rfl
     have bj:(fC*R+dO)/R=fC:=by rw[Nat.mul_comm,Nat.mul_add_div aG,Nat.div_eq_of_lt acz];rfl
     rw[<-bn,<-bj,<-cj,<-acA]
    subst F5
    obtain rfl:j=dO:=by omega
    obtain⟨cN,rM,ec,fs,hP,-⟩:=Fi i c aU
    rw[Di]at ec
    obtain rfl:=Option.some.inj ec
    exact hP.2 j v aw aO acy
   have k5:∀q v,L.flatten[q]?=some v->w.cell? (a.add q)=some v:=fun q v an=>by
    obtain⟨i,j,c,aU,aO,bw,rfl⟩:=EP By an
    obtain⟨ec,rfl⟩:=MT i c aU
    have fs:=(World.cells?_some (a1 i ec).1).2.2 j bw
    rw[Addr.add_add]at fs
    rw[fs,aO]
   have wF:L.flatten.length=len*R:=by rw[tI By,MV]
   obtain⟨uD,o2,gp⟩:=SU (x:=a) (n:=len*R) (Nat.mul_pos (by omega) aG) wF k5
   obtain⟨nG,s1,s2,mU⟩:=dh.snoc (e:=e) ab o2 Fg gp
   obtain⟨aiq,aiz,aiH⟩:=a
   simp only at uD
   subst uD
   have VO:=bo.slice (i:=0) (len:=len) (cap:=cap) (dM:=cap) mU (by omega) au (Nat.le_refl _) (fun _=>rfl) (fun h=>by cases h)
   refine⟨nG,N++[.ro e M.flatten],[.slice (some ⟨(H++N).length,0,none⟩) len cap],xs,by rw[<-List.append_assoc];exact s1,fun b k af=>s2 b k (gZ b k af),cX.one (by simpa using VO),?_⟩
   rw[<-List.append_assoc]
   refine⟨M.flatten,⟨_,cap,by simp[vJ,ho,MV],by omega,by rw[tI v5,fP,ho],fun _=>⟨_,0,_,_,rfl,List.getElem?_concat_length,rfl,rfl,?_,?_⟩⟩,fun i y aP=>?_⟩
   ·rw[tI v5,fP,ho];omega
   ·rw[List.drop_zero,List.take_of_length_le (by rw[tI v5,fP,ho];omega)]
   ·have cA:=(cn.1 aP).1
    have MY:=bs (l:=M) (i:=i) (by omega)
    obtain⟨cN,rM,ec,fs,hP,mo⟩:=Fi i _ MY
    rw[aP]at fs
    obtain rfl:=Option.some.inj fs
    have bn:eI ay R M.flatten i=vJ ay M[i]:=by
     have o6:=Mi v5 MY
     unfold eI vJ
     rcases o with rfl | rfl
     ·rw[if_pos rfl,if_pos rfl,o6]
     ·cases ay with
      | true=>rw[if_pos rfl,if_pos rfl,o6]
      | false=>
       rw[if_neg (by decide),if_neg (by decide),<-o6,List.getElem?_take_of_lt (by decide),List.getElem?_drop]
       simp
    rw[bn]
    exact lR.app mo
theorem oC.start{w:World}:oC w (fun _=>none) [.dead]:=
 ⟨⟨by simp,Nat.le_refl _,(fun b k h=>by cases h),(fun b k x h=>by cases h),fun b cg k b1 h=>by cases h⟩,by
  rintro b ⟨e,l,cs,h⟩
  match b with
  | 0=>simp at h
  | n+1=>simp at h⟩
theorem Step.below{ak bD:bl}{H H1:ad}{w a9:World}(h:Step ak H w bD H1 a9)(gO:∀b,¬ie H b):Below w.heap.size w a9:=
 ⟨h.os,h.tape,h.output,h.size,fun g a1=>h.frame g a1 fun b k _ aW=>absurd aW (gO b)⟩
theorem abL:(prog).follows .mixedOrders=true:=by kernel_rfl
def Sk(H:ad)(v:Value)(l:List Nat):Prop:=v= .string (cv l)/\Bytes l
instance:lR Sk:=⟨fun h=>h⟩
def Sj(H:ad)(v:Value)(p:List Nat×List Int):Prop:=eO H v p/\Bytes p.1
instance:lR Sj:=⟨fun⟨⟨a,n,c,h,o⟩,af⟩=>⟨⟨a,n,c,h,lR.app o⟩,af⟩⟩
theorem SQ{f:FuncId}{args:List Value}{H:ad}{Q:Value->ad->Prop}(aF:(match dK prog (callFunc f args.toArray)with | some (.value _)=>true | _=>false)=false)(h:aX prog f args H Q):∃v H1,ef prog (.call f args H) (.val v H1)/\Q v H1:=by
 obtain⟨v,H1,⟨-,al⟩ | ⟨⟨-,-,al⟩,-⟩,aq⟩:=h
 ·exact⟨v,H1,al,aq⟩
 ·rw[al]at aF
  cases aF
theorem agI{w:World}{f:FuncId}{args lW:List Value}{ak:bl}{H:ad}(c1:oC w ak H)(bE:cX ak args lW)(aF:(match dK prog (callFunc f args.toArray)with | some (.value _)=>true | _=>false)=false)
  (h:aX prog f args H fun v H1=>Ext H H1/\v= .bool true):Calls prog f lW.toArray w fun e g1=>e= .returned (.bool true)/\Below w.heap.size w g1:=by
 obtain⟨u,H1,bq,J,rfl⟩:=SQ aF h
 refine(ac0 abL bq (lW:=lW.toArray) (by simpa using bE) c1.1).mono fun e g1 he=>?_
 obtain⟨aw,bD,rfl,an,-,c3⟩:=he
 cases an
 exact⟨rfl,c3.below c1.2⟩
theorem cX.single{ak:bl}{l:List Value}{v:Value}(h:cX ak l [v]):∃u,l=[u]:=by
 match l,h.1 with
 | [u],_=>exact⟨u,rfl⟩
end Go.cl
end
section
set_option maxRecDepth 8000
set_option maxHeartbeats 1000000
namespace Go.cl
open Go.Proofs
open Go.Proofs.Tryz (prog)
attribute [-simp] gk hq iM
theorem Uj{v n:Int}{H:ad}(aF:0<n)(nZ:n<1000000):aX prog 55 [.int .i64 v,.int .i64 n] H (fun u H1=>H1=H/\u= .int .i64 (v % n)):=by
 refine aX.cc fun Q aD=>?_
 apply ZK (by simp)
 have jz:¬n=0:=by omega
 have o:=Int.tmod_lt_of_pos v aF
 have aa: -n<v.tmod n:=by
  have:=Int.tmod_lt_of_pos (-v) aF
  rw[Int.neg_tmod]at this
  omega
 have aE:IntKind.i64.wrap (v.tmod n+n)=v.tmod n+n:=b2 (by omega) (by omega)
 have bA:(v.tmod n+n).tmod n=v % n:=by
  rw[Int.tmod_eq_emod_of_nonneg (by omega),Int.add_emod_right]
  have bQ:=Int.mul_tdiv_add_tmod v n
  have dY:v.tmod n=v-n*v.tdiv n:=by omega
  rw[dY,Int.sub_mul_emod_self_left]
 simp[Kc,jz,aE,bA,bf]
 exact aD _ _ ⟨rfl,rfl⟩
def uR(l:List Int)(n m:Nat)(w:Int):List (List Int):=(List.range n).map fun i=>(List.range m).map fun k=>match l[i*m+k]? with
 | some x=>x % w
 | none=>0
end Go.cl
end
section
set_option maxRecDepth 8000
set_option maxHeartbeats 1000000
namespace Go.cl
theorem g2.get{t:List (List Int)}(an:g2 t){i k:Nat}(ab:i<t.length)(ah:k<(t[0]?.getD []).length):∃r x,t[i]?=some r/\r∈t/\r[k]?=some x/\x∈r/\dH t i k=x/\0<=x/\x<=1000:=by
 have al:=bs ab
 have hm:=List.getElem_mem ab
 have au:=an.len _ hm
 have J:=bs (l:=t[i]) (i:=k) (by omega)
 have zK:=List.getElem_mem (l:=t[i]) (n:=k) (by omega)
 refine⟨_,_,al,hm,J,zK,?_,((IN.1 an).2 _ hm).2 _ zK⟩
 unfold dH
 rw[al]
 simp[J]
theorem Lm{t:List (List Int)}(an:g2 t):gH t.length (t[0]?.getD []).length (cr t)=(((jf t).1:Int):Rat):=(Iq (t:=t) rfl rfl an.small (by have:=an.2.1;omega)).1
theorem SF{t:List (List Int)}(an:g2 t){L:Int}(o:∀i,i<t.length->bC (t[0]?.getD []).length (b0 (cr t) i)<=((L:Int):Rat))(aa:∀k,k<(t[0]?.getD []).length->bC t.length (fun i=>b0 (cr t) i k)<=((L:Int):Rat)):(jf t).1<=L:=by
 have:=adT (s5 rfl an.len) an.1 an.2.2.1 o aa
 rw[Lm an]at this
 exact Rat.intCast_le_intCast.1 this
theorem SG{t:List (List Int)}(an:g2 t){i:Nat}(ab:i<t.length):bC (t[0]?.getD []).length (b0 (cr t) i)<=(((jf t).1:Int):Rat):=by
 rw[<-Lm an];exact Is (s5 rfl an.len) ab
end Go.cl
end
section
set_option maxRecDepth 8000
set_option maxHeartbeats 1000000
namespace Go.cl
open Go.Proofs
open Go.Proofs.Tryz (prog)
attribute [-simp] gk hq iM
def rT(t:List (List Int)):Prop:=g2 t/\t.length=(t[0]?.getD []).length/\∀i,i<t.length->(t[i]?.getD []).sum=(t[0]?.getD []).sum/\((fZ t.length t)[i]?.getD []).sum=(t[0]?.getD []).sum
theorem Lw{a b:Rat}:(if a<b then(-1:Int)else if a=b then 0 else 1)=0↔a=b:=by
 by_cases h:a<b
 ·rw[if_pos h]
  exact⟨fun h=>by omega,fun e=>absurd (e▸h) Rat.lt_irrefl⟩
 ·rw[if_neg h]
  by_cases e:a=b
  ·rw[if_pos e];exact⟨fun _=>e,fun _=>rfl⟩
  ·rw[if_neg e];exact⟨fun h=>by omega,fun h=>absurd h e⟩
theorem Px{v:Value}{t:List (List Int)}{H:ad}(bd:gr H v t)(au:t.length<65536)(al:∀r∈t,r.length<65536):
  aX prog 57 [v] H (fun u H1=>Ext H H1/\∃b,u= .bool b/\(b=true↔rT t)):=by
 refine aX.cc fun Q aD=>?_
 obtain⟨m,hm⟩:∃m,m=(t[0]?.getD []).length:=⟨_,rfl⟩
 apply aav (by simp)
 simp only[KE]
 refine bV.ft fun cy cb=>?_
 simp
 refine cb _ _ _ ?_
 clear cb
 refine bV.ft fun cy cb=>?_
 simp only[kP]
 refine bV.join (by kernel_rfl) (fun az bH H1=>Ext H H1/\∃bad,az 17= .bool bad/\(bad=false↔g2 t/\t.length=m)) ?_ ?_
 ·rintro c5 dB-
  simp
  refine aY.mk (DV (Row.w1 bd) (by omega) fun r h=>by have:=al r h;omega) ?_
  rintro u H1 ⟨bp,rfl⟩
  simp
  by_cases an:g2 t
  ·have aG:=an.1
   refine Exists.elim (⟨_,bs (show 0<t.length by omega)⟩:∃p,t[0]?=some p) fun H5 Ot=>?_
   have fp:H5.length=m:=by rw[hm,Ot];rfl
   have hK:=bM.ext (ae:=gr) bd bp
   simp[an]
   refine cD (ae:=ee) (xs:=t) (by simpa using hK) (by simp) ?_
   simp
   refine qw (ae:=ee) (xs:=t) (n:=0) (a:=H5) (e:=34) (R:=1) (ay:=false) (by simp[an]) (by decide) (by simpa using hK) (by simp) Ot (by simp) (by simp) (by simp) (by decide) ?_
   rintro fP pG lD
   try simp[an]
   refine cD (ae:=IR) (xs:=H5) (by simpa using lD) (by simp) ?_
   simp only[fp]
   simp
   exact dB _ _ _ ⟨bp,decide (t.length≠m),by simp;omega,by simp[an]⟩
  ·simp[an]
   exact dB _ _ _ ⟨bp,true,by simp,by simp[an]⟩
 rintro az bH H1 ⟨bp,bad,tM,jW⟩
 simp only[g_]at tM
 simp at tM
 simp[tM]
 refine br.mk (fun af=>?_) (fun af=>?_)
 ·simp[bf]
  refine aD _ _ ⟨bp,false,by simp,⟨fun h=>(by cases h),fun h=>?_⟩⟩
  have:=jW.2 ⟨h.1,by rw[hm];exact h.2.1⟩
  rw[af]at this
  cases this
 have re:=jW.1 af
 obtain⟨an,wV⟩:=re
 have ao:=an.small
 have eM:=an.len
 have v1:=an.1
 have v2:=an.2.1
 rw[<-hm]at eM
 have c3:=ao.e8 (m:=m) (by omega)
 have hK:=bM.ext (ae:=gr) bd bp
 refine cb _ _ _ ?_
 clear cb
 refine bV.ft fun cy cb=>?_
 simp
 refine aY.mk (xl hK (by omega) al fun r h x J=>by have:=(ao r h).2 x J;omega) ?_
 rintro _ aT ⟨bh,x2,x_,rfl,l4⟩
 simp
 have bO:Ext aT (aT++[.dead]):=Ext.dead aT
 refine cb _ _ _ ?_
 clear cb
 have zj:∀r∈cr t,r.length=m:=fun r h=>by
  unfold cr at h
  rw[List.mem_map]at h
  obtain⟨dG,cq,rfl⟩:=h
  simpa using eM dG cq
 refine bV.ft fun cy cb=>?_
 simp
 refine aY.mk (Iu (m:=m) (l4.ext bO) (by simp[cr];omega) (by simp[cr];omega) zj (by omega)) ?_
 rintro u bT ⟨b8,pH,rfl,ri⟩
 rw[z_]at ri
 obtain⟨oI,qK,rfl⟩:=Row.len ri
 simp
 have ct:Ext bT (bT++[.dead]):=Ext.dead bT
 refine cb _ _ _ ?_
 clear cb
 have Vn:=l4.ext (bO.av (b8.av ct))
 have VQ:=ri.ext ct
 have q_:(cr t).length=t.length:=by simp[cr]
 have jA:(cr (fZ m t)).length=m:=by simp[cr,fZ]
 have Gu:∀r∈cr t,r.length<4611686018427387904:=fun r h=>by have:=zj r h;omega
 have qf:∀r∈cr (fZ m t),r.length<4611686018427387904:=fun r h=>by
  unfold cr fZ at h
  simp at h
  obtain⟨k,-,rfl⟩:=h
  simp;omega
 refine Exists.elim (xu (t:=cr t) (i:=0) (by omega)) fun eF fp=>?_
 have xp:dj 64 (eS eF):=ao.hQ.sum fp.2.1
 have HU:eS eF=(((t[0]?.getD []).sum:Int):Rat):=by rw[<-fp.2.2,qs]
 refine bV.ft fun cy cb=>?_
 simp
 refine cD (ae:=ee) (xs:=t) (by simpa using bM.ext (ae:=gr) hK (bh.av (bO.av (b8.av ct)))) (by simp) ?_
 simp
 refine c6.range (by kernel_rfl) t.length (by omega) (by simp) (by rfl) (by simp) (by decide) (by decide) (fun i j8 lP dx=>Ext (bT++[.dead]) dx/\∀a,a<i->(t[a]?.getD []).sum=(t[0]?.getD []).sum/\((fZ t.length t)[a]?.getD []).sum=(t[0]?.getD []).sum) ⟨Ext.refl _,fun a h=>by omega⟩ ?_ ?_
 ·rintro i j8 lP dx ab a7 ⟨cB,dv⟩ K a4
  simp at a7
  refine Exists.elim (xu (t:=cr t) (i:=i) (by omega)) fun jk k8=>?_
  refine Exists.elim (xu (t:=cr (fZ m t)) (i:=i) (by omega)) fun xn rb=>?_
  have acB:eS jk=(((t[i]?.getD []).sum:Int):Rat):=by rw[<-k8.2.2,qs]
  have acC:eS xn=((((fZ m t)[i]?.getD []).sum:Int):Rat):=by rw[<-rb.2.2,qs]
  have Fq:=Vn.ext cB
  have VR:=VQ.ext cB
  simp[a7]
  try simp only[kP]
  refine bV.join (by kernel_rfl) (fun jq j9 cw=>Ext dx cw/\∃bad,jq 42= .bool bad/\(bad=false↔(t[i]?.getD []).sum=(t[0]?.getD []).sum/\((fZ m t)[i]?.getD []).sum=(t[0]?.getD []).sum)) ?_ ?_
  ·rintro ln eW-
   simp
   refine aY.mk (ru (N:=64) (j:=i) (row:=jk) (by simpa using Fq) k8.1 (Gu _ k8.2.1) (by omega) (ao.hQ _ k8.2.1).1 (ao.hQ _ k8.2.1).2 (by decide)) ?_
   rintro DX cw ⟨ch,qg⟩
   refine⟨ch,?_⟩
   simp
   refine aY.mk (ru (N:=64) (j:=0) (row:=eF) (by simpa using Fq.ext ch) fp.1 (Gu _ fp.2.1) (by omega) (ao.hQ _ fp.2.1).1 (ao.hQ _ fp.2.1).2 (by decide)) ?_
   rintro RU dW ⟨cH,YF⟩
   simp
   refine aY.mk (xh (N:=64) (qg.ext cH) YF (ao.hQ.sum k8.2.1) xp (by decide)) ?_
   rintro _ eH ⟨c_,rfl⟩
   have CN:=ch.av (cH.av c_)
   have key:((if eS jk<eS eF then(-1:Int)else if eS jk=eS eF then 0 else 1)=0)↔(t[i]?.getD []).sum=(t[0]?.getD []).sum:=by
    rw[Lw,acB,HU]
    exact Rat.intCast_inj
   refine Exists.elim (⟨_,rfl⟩:∃vD,vD=(if eS jk<eS eF then(-1:Int)else if eS jk=eS eF then 0 else 1)) fun vD Wl=>?_
   rw[<-Wl]at key⊢
   by_cases aG:vD=0
   ·simp[aG]
    refine aY.mk (ru (N:=64) (j:=i) (row:=xn) (by simpa using VR.ext CN) rb.1 (qf _ rb.2.1) (by omega) (c3.hQ _ rb.2.1).1 (c3.hQ _ rb.2.1).2 (by decide)) ?_
    rintro RQ ku ⟨fq,sL⟩
    refine⟨fq,?_⟩
    simp[aG]
    refine aY.mk (ru (N:=64) (j:=0) (row:=eF) (by simpa using Fq.ext (CN.av fq)) fp.1 (Gu _ fp.2.1) (by omega) (ao.hQ _ fp.2.1).1 (ao.hQ _ fp.2.1).2 (by decide)) ?_
    rintro RR hR ⟨e4,GX⟩
    simp[aG]
    refine aY.mk (xh (N:=64) (sL.ext e4) GX (c3.hQ.sum rb.2.1) xp (by decide)) ?_
    rintro _ gS ⟨e5,rfl⟩
    have Pq:((if eS xn<eS eF then(-1:Int)else if eS xn=eS eF then 0 else 1)=0)↔((fZ m t)[i]?.getD []).sum=(t[0]?.getD []).sum:=by
     rw[Lw,acC,HU]
     exact Rat.intCast_inj
    refine Exists.elim (⟨_,rfl⟩:∃x5,x5=(if eS xn<eS eF then(-1:Int)else if eS xn=eS eF then 0 else 1)) fun x5 Wk=>?_
    rw[<-Wk]at Pq⊢
    simp[aG]
    refine eW _ _ _ ⟨CN.av (fq.av (e4.av e5)),decide (x5≠0),by simp,?_⟩
    rw[<-Pq]
    simp[key.1 aG]
   ·simp[aG]
    refine eW _ _ _ ⟨CN,true,by simp,⟨fun h=>(by cases h),fun h=>absurd (key.2 h.1) aG⟩⟩
  rintro jq j9 cw ⟨ch,bad,vR,jW⟩
  simp only[g_]at vR
  simp at vR
  simp[vR]
  refine br.mk (fun af=>?_) (fun af=>?_)
  ·simp[bf]
   refine aD _ _ ⟨bp.av (bh.av (bO.av (b8.av (ct.av (cB.av ch))))),false,by simp,⟨fun h=>(by cases h),fun h=>?_⟩⟩
   have o:=h.2.2 i ab
   rw[wV]at o
   have:=jW.2 o
   rw[af]at this
   cases this
  ·have o:=jW.1 af
   have e:∀a,a<i+1->(t[a]?.getD []).sum=(t[0]?.getD []).sum/\((fZ t.length t)[a]?.getD []).sum=(t[0]?.getD []).sum:=fun a aL=>by
    by_cases k4:a=i
    ·subst k4
     rw[wV]
     exact o
    ·exact dv a (by omega)
   exact a4 _ _ _ (by simp[a7]) ⟨cB.av ch,e⟩
 ·intro j8 lP dx
  rintro dY ⟨cB,dv⟩
  refine cb _ _ _ ?_
  simp[bf]
  exact aD _ _ ⟨bp.av (bh.av (bO.av (b8.av (ct.av cB)))),true,by simp,⟨fun _=>⟨an,by rw[<-hm];exact wV,dv⟩,fun _=>rfl⟩⟩
end Go.cl
end
section
set_option maxRecDepth 8000
set_option maxHeartbeats 1000000
namespace Go.cl
def kN(p:Int×List Int)(i k:Nat):Int:=if p.2[i]?=some (k:Int)then p.1 else 0
def gq:List (Int×List Int)->Nat->Nat->Int
 | [],_,_=>0
 | p::aM,i,k=>kN p i k+gq aM i k
theorem PV(a b:List (Int×List Int))(i k:Nat):gq (a++b) i k=gq a i k+gq b i k:=by
 induction a with
 | nil=>simp[gq]
 | cons p a a2=>simp only[List.cons_append,gq];rw[a2];omega
def AO(n:Nat)(l:List Int)(i:Nat):Prop:=∃k:Nat,k<n/\l[i]?=some (k:Int)/\(k:Int)∉l.take i
def lT(n:Nat)(l:List Int):Prop:=l.length=n/\∀i,i<n->AO n l i
def nB(n:Nat):Nat:=(n-1)*(n-1)+1
theorem abN{n:Nat}(aF:0<n):(n:Int)*(n:Int)-2*(n:Int)+2=(nB n:Int):=by
 obtain⟨r,rfl⟩:∃r,n=r+1:=⟨n-1,by omega⟩
 unfold nB
 rw[Nat.add_sub_cancel]
 simp only[Int.natCast_add,Int.natCast_mul,Int.natCast_one,Int.add_mul,Int.mul_add,Int.one_mul,Int.mul_one]
 omega
def tt(n:Nat)(A:Nat->Nat->Int)(aR:List (Int×List Int)):Prop:=aR.length<=nB n/\(∀p∈aR,1<=p.1/\lT n p.2)/\∀i k,i<n->k<n->gq aR i k=A i k
theorem lT.inj{n:Nat}{l:List Int}(h:lT n l){i j k:Nat}(ab:l[i]?=some (k:Int))(aN:l[j]?=some (k:Int)):i=j:=by
 have key:∀{i j:Nat},i<j->l[i]?=some (k:Int)->l[j]?=some (k:Int)->False:=fun{i j} o9 ab aN=>by
  have gg:=(cn.1 aN).1
  rw[h.1]at gg
  obtain⟨b1,-,aO,bw⟩:=h.2 j gg
  rw[aN]at aO
  have:(k:Int)=(b1:Int):=Option.some.inj aO
  rw[<-this]at bw
  refine bw (List.mem_iff_getElem?.2 ⟨i,?_⟩)
  rw[List.getElem?_take_of_lt o9]
  exact ab
 rcases Nat.lt_trichotomy i j with o | o | o
 ·exact(key o ab aN).elim
 ·exact o
 ·exact(key o aN ab).elim
def oy(n:Nat)(l:List Int)(i:Nat)(dX:List Int):Prop:=dX.length=n/\∀k,k<n->(dX[k]?=some (-1)/\(k:Int)∉l.take i)\/∃j:Nat,j<i/\dX[k]?=some (j:Int)/\l[j]?=some (k:Int)
theorem oy.zero(n:Nat)(l:List Int):oy n l 0 (List.replicate n (-1)):=⟨by simp,fun k ah=> .inl ⟨by simp[ah],by simp⟩⟩
theorem oy.next{n i k:Nat}{l dX:List Int}(h:oy n l i dX)(ah:k<n)(J:l[i]?=some (k:Int)):oy n l (i+1) (dX.set k (i:Int)):=by
 refine⟨by rw[List.length_set];exact h.1,fun b1 gM=>?_⟩
 by_cases e:b1=k
 ·subst e
  exact .inr ⟨i,by omega,List.getElem?_set_self (by rw[h.1];exact ah),J⟩
 ·rw[List.getElem?_set_ne (Ne.symm e)]
  rcases h.2 b1 gM with⟨aU,aO⟩ | ⟨j,aU,aO,bw⟩
  ·refine .inl ⟨aU,?_⟩
   rw[List.take_add_one,J,List.mem_append]
   rintro(h | h)
   ·exact aO h
   ·simp at h;omega
  ·exact .inr ⟨j,by omega,aO,bw⟩
theorem oy.seen{n i k:Nat}{l dX:List Int}(h:oy n l i dX)(ah:k<n):∃x,dX[k]?=some x/\(0<=x↔(k:Int)∈l.take i):=by
 rcases h.2 k ah with⟨aU,aO⟩ | ⟨j,aU,aO,bw⟩
 ·exact⟨_,aU,⟨fun h=>by omega,fun h=>absurd h aO⟩⟩
 ·refine⟨_,aO,⟨fun _=>?_,fun _=>by omega⟩⟩
  refine List.mem_iff_getElem?.2 ⟨j,?_⟩
  rw[List.getElem?_take_of_lt aU]
  exact bw
def nw(n:Nat)(l:List Int):List Int:=(List.range n).map fun k:Nat=>if(k:Int)∈l then(l.idxOf (k:Int):Int)else-1
theorem oy.all{n:Nat}{l dX:List Int}(aK:lT n l)(h:oy n l n dX):dX=nw n l:=by
 refine List.ext_getElem? fun k=>?_
 by_cases ah:k<n
 ·unfold nw
  rw[List.getElem?_map,List.getElem?_range ah]
  have bG:l.take n=l:=List.take_of_length_le (by rw[aK.1];exact Nat.le_refl _)
  rcases h.2 k ah with⟨aU,aO⟩ | ⟨j,aU,aO,bw⟩
  ·rw[bG]at aO
   rw[aU]
   simp[aO]
  ·have hm:(k:Int)∈l:=List.mem_of_getElem? bw
   have a3:l.idxOf (k:Int)<l.length:=List.idxOf_lt_length_of_mem hm
   have e:l[l.idxOf (k:Int)]?=some (k:Int):=by rw[bs a3,List.getElem_idxOf]
   rw[aO,aK.inj bw e]
   simp[hm]
 ·rw[List.getElem?_eq_none (by rw[h.1];omega),List.getElem?_eq_none (by simp[nw];omega)]
theorem CR{n:Nat}{l:List Int}(aK:lT n l){i k:Nat}(ah:k<n):(nw n l)[k]?=some (i:Int)↔l[i]?=some (k:Int):=by
 unfold nw
 rw[List.getElem?_map,List.getElem?_range ah]
 by_cases hm:(k:Int)∈l
 ·have a3:l.idxOf (k:Int)<l.length:=List.idxOf_lt_length_of_mem hm
  have e:l[l.idxOf (k:Int)]?=some (k:Int):=by rw[bs a3,List.getElem_idxOf]
  simp only[Option.map_some,if_pos hm,Option.some.injEq]
  constructor
  ·intro h
   have:l.idxOf (k:Int)=i:=by omega
   rw[<-this];exact e
  ·intro h
   rw[aK.inj h e]
 ·simp only[Option.map_some,if_neg hm,Option.some.injEq]
  constructor
  ·intro h;omega
  ·intro h;exact absurd (List.mem_of_getElem? h) hm
theorem aa3{n:Nat}{l:List Int}(aK:lT n l):xN n n (nw n l):=by
 have au:(nw n l).length=n:=by simp[nw]
 refine Hp.2 ⟨au,fun k ah=>?_⟩
 by_cases hm:(k:Int)∈l
 ·obtain⟨i,ab⟩:=List.mem_iff_getElem?.1 hm
  have cA:=(cn.1 ab).1
  rw[aK.1]at cA
  have o:=(CR aK ah).2 ab
  refine⟨(i:Int),o,by omega,by omega,fun _ hM=>?_⟩
  obtain⟨b1,gM⟩:=List.mem_iff_getElem?.1 hM
  have k6:b1<k:=by
   have:=(cn.1 gM).1
   rw[List.length_take]at this
   omega
  rw[List.getElem?_take_of_lt k6]at gM
  have aa:=(CR aK (by omega)).1 gM
  rw[ab]at aa
  have:=Option.some.inj aa
  omega
 ·refine⟨-1,?_,by omega,by omega,fun h=>by omega⟩
  unfold nw
  rw[List.getElem?_map,List.getElem?_range ah]
  simp[hm]
def kd(n:Nat)(p:Int×List Int):List Nat×List Int:=(gh ((p.1:Int):Rat),nw n p.2)
theorem LC{c:Int}(o: -9223372036854775808<=c)(aa:c<9223372036854775808):lS ((c:Int):Rat):=(dj.int (N:=64) (by omega) (by decide)).C9 (by decide)
theorem LB{n:Nat}{p:Int×List Int}(aK:1<=p.1/\lT n p.2)(ag:p.1<9223372036854775808):rX n n (kd n p)/\Bytes (kd n p).1/\(kd n p).1.length<4611686018427387904/\(kd n p).2.length<n+1/\hr (kd n p).1=((p.1:Int):Rat):=by
 have gW:=LC (c:=p.1) (by omega) ag
 have o:=z6 gW
 have aa:=HK o.1
 refine⟨⟨⟨o.1,?_,by simp[kd,nw]⟩,aa3 aK.2⟩,P3 _,?_,by simp[kd,nw],C_ gW⟩
 ·show 0<hr (gh _)
  rw[C_ gW]
  have:((0:Int):Rat)<((p.1:Int):Rat):=Rat.intCast_lt_intCast.2 (by omega)
  exact this
 ·show(gh _).length<_
  omega
theorem ack{n:Nat}{aR:List (Int×List Int)}(h:∀p∈aR,1<=p.1/\lT n p.2)(ag:∀p∈aR,p.1<9223372036854775808){i k:Nat}(ab:i<n)(ah:k<n):en (parts (aR.map (kd n))) i k=((gq aR i k:Int):Rat):=by
 induction aR with
 | nil=>rfl
 | cons p aR a2=>
  have o:=a2 (fun q aq=>h q (by simp[aq])) fun q aq=>ag q (by simp[aq])
  have aa:=(LB (h p (by simp)) (ag p (by simp))).2.2.2.2
  have e:en (parts ((p::aR).map (kd n))) i k=gi (hr (kd n p).1,(kd n p).2) i k+en (parts (aR.map (kd n))) i k:=rfl
  rw[e,o,aa]
  have bj:gq (p::aR) i k=kN p i k+gq aR i k:=rfl
  rw[bj,Rat.intCast_add]
  congr 1
  unfold gi kN
  show(if(nw n p.2)[k]?=some (i:Int)then((p.1:Int):Rat)else 0)=_
  by_cases aq:p.2[i]?=some (k:Int)
  ·rw[if_pos aq,if_pos ((CR (h p (by simp)).2 ah).2 aq)]
  ·rw[if_neg aq,if_neg (fun cq=>aq ((CR (h p (by simp)).2 ah).1 cq))]
   rfl
end Go.cl
end
section
set_option maxRecDepth 8000
set_option maxHeartbeats 1000000
namespace Go.cl
open Go.Proofs
open Go.Proofs.Tryz (prog)
attribute [-simp] gk hq iM
def gu(H:ad)(v:Value)(p:Int×List Int):Prop:=∃a n c,v= .agg #[.int .i64 p.1,.slice a n c]/\Row 3 1 false IR H (.slice a n c) p.2
instance:bM gu:=⟨fun⟨a,n,c,h,o⟩ J=>⟨a,n,c,h,bM.ext (ae:=Row _ _ _ IR) o J⟩⟩
theorem gu.jL{H:ad}{v:Value}{p:Int×List Int}(h:gu H v p):Whole prog 69 v:=by
 obtain⟨a,n,c,rfl,-⟩:=h
 exact⟨by rfl,by simp[Value.cells,Value.oneCell'],by simp[e7]⟩
theorem gu.kept{H aI:ad}{e:Nat}{s v:Value}{p:Int×List Int}(h:gu H v p)(ah:Kept H aI s e)(aa:3≠e):gu aI v p:=by
 obtain⟨a,n,c,rfl,aO⟩:=h
 exact⟨a,n,c,rfl,aO.kept ah aa fun _ _ h=>h⟩
theorem PU{n:Nat}(aF:0<n)(mL:n<=8):∃y,IntKind.i64.wrap ((n:Int)*(n:Int))=(y:Int)/\∃x,IntKind.i64.wrap (2*(n:Int))=(x:Int)/\∃z,IntKind.i64.wrap ((y:Int)-(x:Int))=(z:Int)/\IntKind.i64.wrap ((z:Int)+2)=(nB n:Int)/\nB n<=50:=by
 have o:=abN aF
 have aa:n*n<=8*8:=Nat.mul_le_mul mL mL
 have aE:(n:Int)*(n:Int)=((n*n:Nat):Int):=by simp
 have bA:nB n<=50:=by
  unfold nB
  have:(n-1)*(n-1)<=7*7:=Nat.mul_le_mul (by omega) (by omega)
  omega
 refine⟨_,b2 (by omega) (by omega),_,b2 (by omega) (by omega),_,b2 (by omega) (by omega),?_,bA⟩
 rw[o]
 exact b2 (by omega) (by omega)
theorem abG{v w:Value}{t:List (List Int)}{aR:List (Int×List Int)}{H:ad}(bd:gr H v t)(au:t.length<65536)(al:∀r∈t,r.length<65536)(hA:Row 69 2 true gu H w aR)(pY:∀p∈aR,-9223372036854775808<=p.1/\p.1<9223372036854775808)(hlen:∀p∈aR,p.2.length<65536)(iX:aR.length<65536):
  aX prog 28 [v,w] H (fun u H1=>Ext H H1/\(¬rT t->u= .tuple #[.bool false,.int .i64 1])/\(rT t->∃b,u= .tuple #[.bool b,.int .i64 0]/\(b=true↔tt t.length (dH t) aR))):=by
 refine aX.cc fun Q aD=>?_
 apply aar (by simp)
 simp only[KA]
 refine bV.ft fun cy cb=>?_
 simp
 refine cb _ _ _ ?_
 clear cb
 refine bV.ft fun cy cb=>?_
 simp
 refine aY.mk (Px bd au al) ?_
 rintro _ H1 ⟨bp,gT,rfl,jV⟩
 simp
 refine br.mk (fun af=>?good) (fun af=>?bad)
 case bad=>
  simp[bf]
  exact aD _ _ ⟨bp,fun _=>rfl,fun h=>by rw[jV.2 h]at af;cases af⟩
 have c1:=jV.1 af
 have an:=c1.1
 refine Exists.elim (⟨_,rfl⟩:∃n,n=t.length) fun n aF=>?_
 have hm:(t[0]?.getD []).length=n:=by rw[aF];exact c1.2.1.symm
 have h2:0<n:=by have:=an.1;omega
 have mL:n<=8:=by have:=an.2.1;omega
 have Fp:∀b aI,Ext H aI->(b=true↔tt n (dH t) aR)->Q (.tuple #[.bool b,.int .i64 0]) aI:=fun b aI J af=>aD _ _ ⟨J,fun h=>absurd c1 h,fun _=>⟨b,rfl,by rw[<-aF];exact af⟩⟩
 clear aD
 have hK:=bM.ext (ae:=gr) bd bp
 have BD:=bM.ext (ae:=Row _ _ _ gu) hA bp
 refine cb _ _ _ ?_
 clear cb
 refine bV.ft fun cy cb=>?_
 simp
 refine cD (ae:=ee) (xs:=t) (by simpa using hK) (by simp) ?_
 simp only[<-aF]
 simp
 refine cb _ _ _ ?_
 clear cb
 refine Exists.elim (PU h2 mL) fun y aP=>Exists.elim aP.2 fun x J=>Exists.elim J.2 fun z aQ=>?_
 have aby:=aQ.2.2
 refine bV.ft fun cy cb=>?_
 simp
 refine cD (ae:=gu) (xs:=aR) (by simpa using BD) (by simp) ?_
 simp[aP.1,J.1,aQ.1,aQ.2.1]
 refine br.b_ (fun af=>?_) (fun af=>?_)
 ·simp[bf]
  exact Fp false _ bp ⟨fun h=>(by cases h),fun h=>by have:=h.1;omega⟩
 have uc:aR.length<=nB n:=by omega
 refine cb _ _ _ ?_
 clear cb
 refine bV.ft fun cy cb=>?_
 simp
 refine cb _ _ _ ?_
 clear cb
 refine bV.ft fun cy cb=>?_
 simp
 refine cD (ae:=gu) (xs:=aR) (by simpa using BD) (by simp) ?_
 simp
 have fail:∀jM,Ext H jM->(¬∀p∈aR,1<=p.1/\lT n p.2)->Q (.tuple #[.bool false,.int .i64 0]) jM:=fun jM J gO=>Fp false jM J ⟨fun h=>(by cases h),fun h=>absurd h.2.1 gO⟩
 refine c6.range (by kernel_rfl) aR.length (by omega) (by simp) (by rfl) (by simp) (by decide) (by decide) (fun s jq j9 cw=>Ext H1 cw/\(∀p∈aR.take s,1<=p.1/\lT n p.2)/\bB H1.length 93 2 true eO cw (jq 7) ((aR.take s).map (kd n))) ?_ ?_ ?_
 ·exact⟨Ext.refl _,by simp,by simpa using bB.nil _ _ _ _ _ _⟩
 ·rintro s jq j9 cw ao oT ⟨ch,n0,hf⟩ K a4
  simp at oT hf
  refine Exists.elim (⟨_,bs ao⟩:∃p,aR[s]?=some p) fun p aK=>?_
  have ir:=List.mem_of_getElem? aK
  have Cl:=pY p ir
  have h3:=hlen p ir
  have vY:=bp.av ch
  simp[oT]
  refine cF (ae:=gu) (xs:=aR) (n:=s) (a:=p) (e:=69) (R:=2) (ay:=true) (by simpa using bM.ext (ae:=Row _ _ _ gu) hA vY) (by simp[oT]) aK (by simp) (by simp) (by simp) (by decide) ?_
  rintro py u8 ⟨vw,abX,vC,rfl,ug⟩
  refine Exists.elim (Row.len ug) fun K4 h=>Exists.elim h fun vD h=>?_
  have EH:abX=p.2.length:=by injection h
  rw[EH]at ug⊢
  simp
  have fi:=Ext.dead cw
  have WV:=bM.ext (ae:=ee) ug fi
  refine bV.join (by kernel_rfl) (fun lO m4 eH=>eH=cw++[.dead]/\lO 48= .bool (!decide (1<=p.1/\p.2.length=n))) ?_ ?_
  ·rintro c5 dB-
   simp
   by_cases o:p.1<1
   ·simp[o]
    exact dB _ _ _ ⟨rfl,by simp;omega⟩
   ·simp[o]
    refine cD (ae:=IR) (xs:=p.2) (by simpa using WV) (by simp) ?_
    simp[o]
    refine dB _ _ _ ⟨rfl,?_⟩
    have:1<=p.1:=by omega
    simp[this]
    omega
  rintro lO m4 eH ⟨rfl,r_⟩
  simp only[g_]at r_
  simp at r_
  simp[r_]
  refine br.mk (fun af=>?_) (fun af=>?_)
  ·simp at af
   simp[bf]
   refine fail _ (vY.av fi) fun dv=>?_
   have:=dv p ir
   exact af.elim (fun h=>by omega) fun h=>h this.2.1
  have q9:1<=p.1/\p.2.length=n:=by simpa using af
  have Xs:=LC Cl.1 Cl.2
  simp
  refine aY.mk (Aa Cl.1 Cl.2) ?_
  rintro RQ ku ⟨fq,sL⟩
  simp
  refine aY.mk (H4 sL (dj.int (N:=64) (by omega) (by decide)) (by decide)) ?_
  rintro qy hR ⟨e4,L2⟩
  rw[if_pos Xs]at L2
  subst L2
  simp
  refine xw (e:=3) (R:=1) (ay:=false) (z:= .int .i64 0) (ae:=IR) (a:= -1) (fun aI _=>by simp[IR]) (by simpa using hH (-1)) (by simp) (by simp) (by simp) (by rfl) (by rfl) (by rfl) (by decide) (by decide) ?_
  intro DW gS lx e5
  simp
  refine aY.mk (bB.aR (QE (ae:=IR) (n:=n) lx.row (by omega) (fun H u y h=>by rw[h];exact hH y) (fun _ _ _ _ _ _ h=>h))) ?_
  rintro _ j_ ⟨gX,n9,rp,rfl,k2⟩
  rw[List.length_replicate]at k2⊢
  simp
  have G_:=Ext.dead j_
  have zJ:=fi.av (fq.av (e4.av e5))
  have sv:=bM.ext (ae:=ee) ug zJ
  have Vf:=bM.ext (ae:=bB _ _ _ _ eO) hf zJ
  have sy:=Ext.len ch
  have B3:=Ext.len zJ
  simp only[q9.2]
  refine cD (ae:=IR) (xs:=p.2) (by simpa[q9.2]using bM.ext (ae:=ee) sv (gX.av G_)) (by simp) ?_
  simp only[q9.2]
  simp
  refine c6.range (by kernel_rfl) n (by omega) (by simp) (by rfl) (by simp) (by decide) (by decide) (fun i tq vm ka=>Ext gS ka/\(∀j,j<i->AO n p.2 j)/\∃dX,oy n p.2 i dX/\bB gS.length 3 1 false IR ka (.slice n9 n rp) dX) ?_ ?_ ?_
  ·exact⟨gX.av G_,fun j h=>by omega,_,oy.zero _ _,bM.ext (ae:=bB _ _ _ _ IR) k2 G_⟩
  ·rintro i tq vm ka ab qT ⟨hD,dv,dX,ij,sf⟩ ln eW
   simp at qT
   have F7:=bM.ext (ae:=ee) sv hD
   have UQ:=vY.av (zJ.av hD)
   refine Exists.elim (⟨_,bs (by omega)⟩:∃x,p.2[i]?=some x) fun x J=>?_
   simp[qT]
   refine cF (ae:=IR) (xs:=p.2) (n:=i) (a:=x) (e:=3) (R:=1) (ay:=false) (by simpa[q9.2]using F7) (by simp[qT]) J (by simp) (by simp) (by simp) (by decide) ?_
   rintro Qa RD rfl
   simp[qT]
   refine bV.join (by kernel_rfl) (fun AJ AM pL=>pL=ka/\∃bad,AJ 83= .bool bad/\(bad=false↔AO n p.2 i)) ?_ ?_
   ·rintro oz g7-
    by_cases o:x<0
    ·simp[o]
     refine g7 _ _ _ ⟨rfl,true,by simp,⟨fun h=>(by cases h),fun h=>?_⟩⟩
     obtain⟨k,aU,aO,bw⟩:=h
     rw[J]at aO
     have:=Option.some.inj aO
     omega
    ·by_cases aa:(n:Int)<=x
     ·simp[o,aa]
      refine g7 _ _ _ ⟨rfl,true,by simp,⟨fun h=>(by cases h),fun h=>?_⟩⟩
      obtain⟨k,aU,aO,bw⟩:=h
      rw[J]at aO
      have:=Option.some.inj aO
      omega
     ·refine Exists.elim (⟨x.toNat,by omega⟩:∃k:Nat,x=(k:Int)) fun k ah=>?_
      have NR:k<n:=by omega
      refine Exists.elim (ij.seen NR) fun y aP=>?_
      have lA:¬(k:Int)<0:=by omega
      have k6:¬(n:Int)<=(k:Int):=by omega
      simp[ah,lA,k6]
      refine qw (ae:=IR) (xs:=dX) (n:=k) (a:=y) (e:=3) (R:=1) (ay:=false) (by simp[lA,k6]) (by decide) (by simpa using sf.row) (by simp[ah]) aP.1 (by simp) (by simp) (by simp) (by decide) ?_
      rintro z7 agq rfl
      simp[lA,k6]
      refine g7 _ _ _ ⟨rfl,decide (0<=y),by simp,?_⟩
      constructor
      ·intro h
       refine⟨k,NR,by rw[J,ah],fun hm=>?_⟩
       have:=aP.2.2 hm
       simp at h
       omega
      ·rintro⟨b1,aU,aO,bw⟩
       rw[J,ah]at aO
       have e:(k:Int)=(b1:Int):=Option.some.inj aO
       rw[<-e]at bw
       have:¬0<=y:=fun h=>bw (aP.2.1 h)
       simpa using this
   rintro AJ AM pL ⟨rfl,bad,tN,jW⟩
   simp only[g_]at tN
   simp at tN
   simp[tN]
   refine br.mk (fun af=>?_) (fun af=>?_)
   ·simp[bf]
    refine fail _ UQ fun V2=>?_
    have:=jW.2 ((V2 p ir).2.2 i ab)
    rw[af]at this
    cases this
   ·refine Exists.elim (jW.1 af) fun k ah=>?_
    have pq:x=(k:Int):=by have:=ah.2.1;rw[J]at this;exact Option.some.inj this
    simp[pq,qT]
    refine ja (k:=gS.length) (e:=3) (R:=1) (ay:=false) (n:=k) (ae:=IR) (xs:=dX) (a:=(i:Int)) (by simpa using sf) (by simp[pq]) (by rw[ij.1];exact ah.1) (by simp[qT,IR]) (by simpa[qT]using hH _) (by simp) (fun aI dp u y ah h=>h) (by simp) (by simp) (by simp) (by decide) ?_
    rintro z7 xL sg po sw NT-
    simp at sg
    try simp
    refine eW _ _ _ (by simp[qT]) ⟨po _ (Nat.le_refl _) hD,fun j aN=>?_,_,ij.next ah.1 ah.2.1,sg⟩
    by_cases fA:j=i
    ·subst fA;exact⟨k,ah⟩
    ·exact dv j (by omega)
  ·rintro tq vm ka qT ⟨hD,dv,dX,ij,sf⟩
   have uv:lT n p.2:=⟨q9.2,dv⟩
   have UW:=ij.all uv
   rw[UW]at sf
   have iX:eO ka (.agg #[.string (cv (gh ((p.1:Int):Rat))),.slice n9 n rp]) (kd n p):=⟨_,_,_,rfl,sf.row⟩
   have Vc:=bM.ext (ae:=bB _ _ _ _ eO) Vf hD
   have W1:=Ext.len hD
   simp
   refine rJ (k:=H1.length) (e:=93) (R:=2) (ay:=true) (bI:=40) (z:= .agg #[.string ⟨#[]⟩,.slice none 0 0]) (ae:=eO) (xs:=(aR.take s).map (kd n)) (a:=kd n p) (by simpa using Vc) (by simpa using iX) (by simpa using iX.jL) (by simp) (fun aI dp u y ah h=>h.kept ah (by decide)) (by simp) (by simp) (by simp) (by simp) (by simp) (by rfl) (by rfl) (by first | rfl | simp[flat,hd]) (by rfl) (by decide) (by decide) (by decide) (by simp;omega) (by omega) ?_
   intro ab8 ang ox BB nv B0
   try simp
   refine a4 _ _ _ (by simp[oT]) ⟨nv _ (Nat.le_refl _) (ch.av (zJ.av hD)),fun q aq=>?_,?_⟩
   ·rw[List.take_add_one,aK,List.mem_append]at aq
    rcases aq with aq | aq
    ·exact n0 q aq
    ·simp at aq
     subst aq
     exact⟨q9.1,uv⟩
   ·rw[List.take_add_one,aK,List.map_append]
    simpa using BB
 ·rintro jq j9 cw oT ⟨ch,n0,hf⟩
  rw[List.take_of_length_le (Nat.le_refl _)]at n0 hf
  refine cb _ _ _ ?_
  clear cb
  refine bV.ft fun cy cb=>?_
  simp
  have a3:∀p∈aR,p.1<9223372036854775808:=fun p aK=>(pY p aK).2
  have dv:∀q∈aR.map (kd n),rX n n q/\Bytes q.1/\q.1.length<4611686018427387904/\q.2.length<65536:=fun q aq=>by
   rw[List.mem_map]at aq
   obtain⟨p,aK,rfl⟩:=aq
   have:=LB (n0 p aK) (a3 p aK)
   exact⟨this.1,this.2.1,this.2.2.1,by omega⟩
  have ao:=an.small
  have BT:e_ n n (cr t):=s5 aF.symm (fun r h=>by rw[an.len r h];exact hm)
  refine aY.mk (LX (n:=n) (m:=n) hf.row (fun q aq=>(dv q aq).2.1) (fun q aq=>⟨(dv q aq).2.2.1,(dv q aq).2.2.2⟩) (by rw[List.length_map];omega) h2 h2 (by omega) (by omega)) ?_
  rintro _ dW ⟨cH,u2,DF,u3,h6,Sr,rfl,B9,yR,sl⟩
  have FK:=yR.2 ⟨fun q aq=>(dv q aq).1,by rw[List.length_map];omega⟩
  subst FK
  refine Exists.elim (sl rfl) fun B qS=>?_
  have gx:∀i k,i<n->k<n->b0 B i k=((gq aR i k:Int):Rat):=fun i k ab ah=>by rw[qS.2.2.1 i k ab ah,ack n0 a3 ab ah]
  have CC:=xt (aR:=aR.map (kd n)) fun q aq=>(dv q aq).1.1.1
  have c_:Ext dW (dW++[.dead,.dead]):=Ext.more dW (by simp)
  simp
  refine cY.mk B9 ?_
  simp
  refine cb _ _ _ ?_
  clear cb
  have iI:=ch.av (cH.av c_)
  simp[xA]
  refine aY.mk (xl (bM.ext (ae:=gr) hK iI) (by omega) al fun r h x J=>by have:=(ao r h).2 x J;omega) ?_
  rintro _ ku ⟨fq,x2,x_,rfl,l4⟩
  refine⟨fq,?_⟩
  simp
  refine aY.mk (QN (N:=64) (M:=gG (aR.map (kd n)).length) l4 (qS.1.ext (c_.av fq)) BT qS.2.1 (by omega) (by omega) (fun i k _ _=>L6 ao i k) (fun i k ab ah=>by rw[qS.2.2.1 i k ab ah];exact CC.2 i k) (by unfold gG;rw[List.length_map];omega)) ?_
  rintro _ hR ⟨e4,Sq,rfl,V8⟩
  simp[bf]
  refine Fp Sq _ (bp.av (iI.av (fq.av e4))) ?_
  rw[V8]
  constructor
  ·intro h
   refine⟨uc,n0,fun i k ab ah=>?_⟩
   have:=h i k ab ah
   rw[gx i k ab ah,pA]at this
   exact(Rat.intCast_inj.1 this).symm
  ·intro h i k ab ah
   rw[gx i k ab ah,h.2.2 i k ab ah,pA]
   rfl
section
variable {r:List bJ} {F:Fr} {H:ad} {Q:Fr->ad->Prop}
theorem Du{v:Value}{aR:List (Int×List Int)}{n:Nat}{a:Int×List Int}(bq:Row 69 2 true gu H v aR)(aL:aR[n]?=some a):∃b U cap X all d_ eg,v= .slice (some ⟨b,U,none⟩) aR.length cap/\H[b]?=some X/\X.cells?=some all/\all[U+n*2]?=some (.int .i64 a.1)/\all[U+n*2+1]?=some (.slice d_ a.2.length eg)/\ee H (.slice d_ a.2.length eg) a.2:=by
 obtain⟨b,U,cap,X,all,⟨an,aZ,ag,bF,hu⟩ | ⟨aU,aO⟩⟩:=bq.at aL
 ·simp only[if_true]at hu
  obtain⟨d_,j4,eg,he,aa⟩:=hu
  obtain⟨eL,dA,nT⟩:=aa.len
  simp at nT
  obtain⟨rfl,rfl,rfl⟩:=nT
  simp at he
  refine⟨b,U,cap,X,all,d_,eg,an,aZ,ag,?_,?_,aa⟩
  ·have:=congrArg (fun l:List Value=>l[0]?) he
   simpa[List.getElem?_take,List.getElem?_drop]using this
  ·have:=congrArg (fun l:List Value=>l[1]?) he
   simpa[List.getElem?_take,List.getElem?_drop]using this
 ·cases aU
theorem Iy{d t d1 d2 n:Nat}{x i:Operand}{aR:List (Int×List Int)}{a:Int×List Int}{ax:bc (bb d t x i::a8 d1 69 (T d) 0::aB d2 3 (T d1)::r) Q}(bq:Row 69 2 true gu H (ar F x) aR)(ab:ar F i= .int .i64 (n:Int))(aL:aR[n]?=some a)
  (bG:e1 prog t=some 69)(K:∀p q,ba prog r Q .mk (a5 (a5 (a5 F d p) d1 q) d2 (.int .i64 a.1)) H):ba prog (bb d t x i::a8 d1 69 (T d) 0::aB d2 3 (T d1)::r) Q ax F H:=by
 have au:n<aR.length:=(cn.1 aL).1
 obtain⟨b,U,cap,X,all,d_,eg,an,aZ,ag,aG,o,aa⟩:=Du bq aL
 rw[gk,an,ab,oG,m5,bG,eG,show bu prog 69=some 2 by rfl,eG,oE]
 refine dz.mk ⟨by omega,by omega⟩ ?_
 rw[xx]
 simp only[ke,hG,lo,show fG prog 69 0=some 0 by rfl,eG,Nat.add_zero]
 rw[te]
 simp only[ke,hG,lo,aZ,Option.bind_some,ag,eG,show dk prog 3=some false by rfl,Int.toNat_natCast,rP,aG]
 exact K _ _
theorem aee{j d t d1 d2 n:Nat}{w:Bool}{x i:Operand}{aR:List (Int×List Int)}{a:Int×List Int}{ax:bc (bb d t x i::aJ j w (a8 d1 69 (T d) 0)::aJ j w (aB d2 3 (T d1))::r) Q}(a1:hy (F j)=some w)(nk:j≠d)(F8:j≠d1)(bq:Row 69 2 true gu H (ar F x) aR)(ab:ar F i= .int .i64 (n:Int))(aL:aR[n]?=some a)
  (bG:e1 prog t=some 69)(K:∀p q,ba prog r Q .mk (a5 (a5 (a5 F d p) d1 q) d2 (.int .i64 a.1)) H):ba prog (bb d t x i::aJ j w (a8 d1 69 (T d) 0)::aJ j w (aB d2 3 (T d1))::r) Q ax F H:=by
 have au:n<aR.length:=(cn.1 aL).1
 obtain⟨b,U,cap,X,all,d_,eg,an,aZ,ag,aG,o,aa⟩:=Du bq aL
 rw[gk,an,ab,oG,m5,bG,eG,show bu prog 69=some 2 by rfl,eG,oE]
 refine dz.mk ⟨by omega,by omega⟩ ?_
 refine xy (by rw[hF _ _ nk];exact a1) ?_
 show ba prog (a8 d1 69 (T d) 0::aJ j w (aB d2 3 (T d1))::r) Q .mk _ H
 rw[xx]
 simp only[ke,hG,lo,show fG prog 69 0=some 0 by rfl,eG,Nat.add_zero]
 refine xy (by rw[hF _ _ F8,hF _ _ nk];exact a1) ?_
 show ba prog (aB d2 3 (T d1)::r) Q .mk _ H
 rw[te]
 simp only[ke,hG,lo,aZ,Option.bind_some,ag,eG,show dk prog 3=some false by rfl,Int.toNat_natCast,rP,aG]
 exact K _ _
theorem aef{d t d1 d2 n:Nat}{x i:Operand}{aR:List (Int×List Int)}{a:Int×List Int}{ax:bc (bb d t x i::a8 d1 69 (T d) 1::aB d2 34 (T d1)::r) Q}(bq:Row 69 2 true gu H (ar F x) aR)(ab:ar F i= .int .i64 (n:Int))(aL:aR[n]?=some a)
  (bG:e1 prog t=some 69)(K:∀p q u,ee H u a.2->ba prog r Q .mk (a5 (a5 (a5 F d p) d1 q) d2 u) H):ba prog (bb d t x i::a8 d1 69 (T d) 1::aB d2 34 (T d1)::r) Q ax F H:=by
 have au:n<aR.length:=(cn.1 aL).1
 obtain⟨b,U,cap,X,all,d_,eg,an,aZ,ag,aG,o,aa⟩:=Du bq aL
 rw[gk,an,ab,oG,m5,bG,eG,show bu prog 69=some 2 by rfl,eG,oE]
 refine dz.mk ⟨by omega,by omega⟩ ?_
 rw[xx]
 simp only[ke,hG,lo,show fG prog 69 1=some 1 by rfl,eG]
 rw[te]
 simp only[ke,hG,lo,aZ,Option.bind_some,ag,eG,show dk prog 34=some false by rfl,Int.toNat_natCast,rP,o]
 exact K _ _ _ aa
theorem aeg{j d t d1 d2 n:Nat}{w:Bool}{x i:Operand}{aR:List (Int×List Int)}{a:Int×List Int}{ax:bc (bb d t x i::aJ j w (a8 d1 69 (T d) 1)::aJ j w (aB d2 34 (T d1))::r) Q}(a1:hy (F j)=some w)(nk:j≠d)(F8:j≠d1)(bq:Row 69 2 true gu H (ar F x) aR)(ab:ar F i= .int .i64 (n:Int))(aL:aR[n]?=some a)
  (bG:e1 prog t=some 69)(K:∀p q u,ee H u a.2->ba prog r Q .mk (a5 (a5 (a5 F d p) d1 q) d2 u) H):ba prog (bb d t x i::aJ j w (a8 d1 69 (T d) 1)::aJ j w (aB d2 34 (T d1))::r) Q ax F H:=by
 have au:n<aR.length:=(cn.1 aL).1
 obtain⟨b,U,cap,X,all,d_,eg,an,aZ,ag,aG,o,aa⟩:=Du bq aL
 rw[gk,an,ab,oG,m5,bG,eG,show bu prog 69=some 2 by rfl,eG,oE]
 refine dz.mk ⟨by omega,by omega⟩ ?_
 refine xy (by rw[hF _ _ nk];exact a1) ?_
 show ba prog (a8 d1 69 (T d) 1::aJ j w (aB d2 34 (T d1))::r) Q .mk _ H
 rw[xx]
 simp only[ke,hG,lo,show fG prog 69 1=some 1 by rfl,eG]
 refine xy (by rw[hF _ _ F8,hF _ _ nk];exact a1) ?_
 show ba prog (aB d2 34 (T d1)::r) Q .mk _ H
 rw[te]
 simp only[ke,hG,lo,aZ,Option.bind_some,ag,eG,show dk prog 34=some false by rfl,Int.toNat_natCast,rP,o]
 exact K _ _ _ aa
end
def m7(n:Nat)(L:List (List Int)):Prop:=L.length=n/\∀i,i<n->∃r,L[i]?=some r/\r.length=n
theorem m7.get{n:Nat}{L:List (List Int)}(h:m7 n L){i k:Nat}(ab:i<n)(ah:k<n):∃r,L[i]?=some r/\r.length=n/\r[k]?=some (dH L i k):=by
 obtain⟨r,aU,aO⟩:=h.2 i ab
 refine⟨r,aU,aO,?_⟩
 unfold dH
 rw[aU,bs (show k<r.length by omega)]
 simp[bs (show k<r.length by omega)]
theorem m7.set{n:Nat}{L:List (List Int)}(h:m7 n L){j:Nat}{dG:List Int}(al:dG.length=n):m7 n (L.set j dG):=by
 refine⟨by rw[List.length_set];exact h.1,fun i ab=>?_⟩
 by_cases e:j=i
 ·subst e
  exact⟨dG,List.getElem?_set_self (by rw[h.1];exact ab),al⟩
 ·rw[List.getElem?_set_ne e]
  exact h.2 i ab
theorem L4{t:List (List Int)}{r:List Int}{j i:Nat}{x:Int}(aN:t[j]?=some r)(ab:i<r.length)(dO b1:Nat):dH (t.set j (r.set i x)) dO b1=if dO=j/\b1=i then x else dH t dO b1:=by
 have gg:=(cn.1 aN).1
 unfold dH
 by_cases o:dO=j
 ·subst o
  rw[List.getElem?_set_self gg,aN]
  by_cases aa:b1=i
  ·subst aa
   simp[List.getElem?_set_self ab]
  ·simp[List.getElem?_set_ne (Ne.symm aa),aa]
 ·rw[List.getElem?_set_ne (Ne.symm o),if_neg (by simp[o])]
theorem PW{aR:List (Int×List Int)}(h:∀p∈aR,1<=p.1)(i k:Nat):0<=gq aR i k:=by
 induction aR with
 | nil=>exact Int.le_refl _
 | cons p aR a2=>
  have o:=a2 fun q aq=>h q (by simp[aq])
  have aa:=h p (by simp)
  simp only[gq,kN]
  split<;>omega
theorem abQ{aR:List (Int×List Int)}{s:Nat}{p:Int×List Int}(aK:aR[s]?=some p)(i k:Nat):gq aR i k=gq (aR.take s) i k+kN p i k+gq (aR.drop (s+1)) i k:=by
 have ao:=(cn.1 aK).1
 have e:aR=aR.take s++p::aR.drop (s+1):=by
  have o:aR.drop s=p::aR.drop (s+1):=by
   rw[List.drop_eq_getElem_cons ao]
   rw[bs ao]at aK
   rw[Option.some.inj aK]
  rw[<-o,List.take_append_drop]
 have:gq aR i k=gq (aR.take s++p::aR.drop (s+1)) i k:=by rw[<-e]
 rw[this,PV]
 simp only[gq]
 omega
theorem abR{aR:List (Int×List Int)}{s:Nat}{p:Int×List Int}(aK:aR[s]?=some p)(i k:Nat):gq (aR.take (s+1)) i k=gq (aR.take s) i k+kN p i k:=by
 rw[List.take_add_one,aK,PV]
 simp[gq]
theorem abF{v w:Value}{t:List (List Int)}{aR:List (Int×List Int)}{H:ad}(bd:gr H v t)(c1:rT t)(hA:Row 69 2 true gu H w aR)(iX:aR.length<65536):
  aX prog 29 [v,w] H (fun u H1=>Ext H H1/\∃b,u= .bool b/\(b=true↔tt t.length (dH t) aR)):=by
 refine aX.cc fun Q aD=>?_
 have an:=c1.1
 obtain⟨n,aF⟩:∃n,n=t.length:=⟨_,rfl⟩
 have hm:(t[0]?.getD []).length=n:=by rw[aF];exact c1.2.1.symm
 have h2:0<n:=by have:=an.1;omega
 have mL:n<=8:=by have:=an.2.1;omega
 rw[<-aF]at aD
 have ys:0<H.length:=by
  obtain⟨b,U,cap,X,all,⟨o,aa,-⟩ | ⟨o,aa⟩⟩:=Row.at bd (bs (show 0<t.length by omega))
  ·have:=(cn.1 aa).1
   omega
  ·exact absurd rfl aa
 have OG:∀i,i<n->∃r,t[i]?=some r/\r.length=n/\∀x∈r,0<=x/\x<=1000:=fun i ab=>by
  have fV:i<t.length:=by omega
  refine⟨_,bs fV,?_,((IN.1 an).2 _ (List.getElem_mem fV)).2⟩
  rw[an.len _ (List.getElem_mem fV),hm]
 have Yc:m7 n t:=⟨aF.symm,fun i ab=>let⟨r,aU,aO,_⟩:=OG i ab;⟨r,aU,aO⟩⟩
 have CE:∀i k,i<n->k<n->0<=dH t i k/\dH t i k<=1000:=fun i k ab ah=>by
  obtain⟨r,x,aU,aO,bw,cj,eR,g0,z9⟩:=an.get (i:=i) (k:=k) (by omega) (by omega)
  rw[eR];exact⟨g0,z9⟩
 apply aan (by simp)
 simp only[Kx]
 refine bV.ft fun cy cb=>?_
 simp
 refine cb _ _ _ ?_
 clear cb
 refine bV.ft fun cy cb=>?_
 simp
 refine cD (ae:=ee) (xs:=t) (by simpa using bd) (by simp) ?_
 simp only[<-aF]
 simp
 refine cb _ _ _ ?_
 clear cb
 refine Exists.elim (PU h2 mL) fun y aP=>Exists.elim aP.2 fun x J=>Exists.elim J.2 fun z aQ=>?_
 refine bV.ft fun cy cb=>?_
 simp
 refine cD (ae:=gu) (xs:=aR) (by simpa using hA) (by simp) ?_
 simp[aP.1,J.1,aQ.1,aQ.2.1]
 refine br.b_ (fun af=>?_) (fun af=>?_)
 ·simp[bf]
  exact aD _ _ ⟨Ext.refl _,false,rfl,⟨fun h=>(by cases h),fun h=>by have:=h.1;omega⟩⟩
 have uc:aR.length<=nB n:=by omega
 refine cb _ _ _ ?_
 clear cb
 refine bV.ft fun cy cb=>?_
 simp
 refine qv (e:=34) (R:=1) (by simp) (by simp) ?_
 simp
 refine cb _ _ _ ?_
 clear cb
 have fail:∀jM,Ext H jM->(¬tt n (dH t) aR)->Q (.bool false) jM:=fun jM J gO=>aD _ _ ⟨J,false,rfl,⟨fun h=>(by cases h),fun h=>absurd h gO⟩⟩
 refine bV.ft fun cy cb=>?_
 simp
 refine c6.mk (by kernel_rfl) (fun q az bH H1=>∃i:Nat,q=n-i/\i<=n/\az 7= .int .i64 (i:Int)/\Ext H H1/\∃us,dZ H.length 34 3 1 false IR H1 (az 6) (t.take i) us) n ⟨0,by omega,by omega,by simp,Ext.refl _,[],?_⟩ ?_
 ·exact⟨ys,by simpa using bB.void _ _ _ _ _ _ _,rfl,fun i row u h=>by simp at h,fun i j b u w h=>by simp at h⟩
 rintro q az bH H1 ⟨i,rfl,ab,cf,bp,us,hB⟩ K a4
 simp at cf hB
 have jh:=lh (show i<4611686018427387904 by omega)
 have gA:=Ext.len bp
 simp[cf]
 refine br.mk (fun a3=>?_) (fun a3=>?_)
 ·simp at a3
  refine Exists.elim (OG i a3) fun row ei=>?_
  have hK:=bM.ext (ae:=gr) bd bp
  try simp
  refine qv (e:=3) (R:=1) (by simp) (by simp) ?_
  simp[cf]
  refine cF (ae:=ee) (xs:=t) (n:=i) (a:=row) (e:=34) (R:=1) (ay:=false) (by simpa using hK) (by simp[cf]) ei.1 (by simp) (by simp) (by simp) (by decide) ?_
  rintro fP pG lD
  try simp
  refine DG (k:=H1.length) (e:=3) (R:=1) (ay:=false) (bI:=8) (z:= .int .i64 0) (ae:=IR) (xs:=[]) (bY:=row) (by simpa using bB.void _ _ _ _ _ _ _) (by simpa using lD) (fun u y h=>by rw[show u=_ from h];exact hH y) (fun aI dp u y ah h=>h) (by simp) (by simp) (by simp) (by simp) (by decide) (by rfl) (by rfl) (by rfl) (by decide) (by simp;omega) (Nat.le_refl _) ?_
  intro pH bT g8 b8 WZ
  have hD:=b8 _ (Nat.le_refl _) (Ext.refl _)
  have Fm:bB H1.length 3 1 false IR bT pH row:=by simpa using g8
  have kj:=hB.ext hD
  have uj:=Ext.len hD
  have ri:=ee.whole Fm.row
  have jA:=hB.len
  simp at jA
  try simp
  refine As (k:=H.length) (e:=34) (R:=1) (ay:=false) (bI:=24) (z:= .slice none 0 0) (ae:=ga) (xs:=us) (a:=pH) (by simpa using kj.own) (by simp[ga]) (by simpa using ri) (by simp) (fun _ _ _ _ _ h=>h) (by simp) (by simp) (by simp) (by simp) (by simp) (by rfl) (by rfl) (by rfl) (by rfl) (by decide) (by decide) (by decide) (by omega) (by omega) ?_
  intro px xC cw hf ch kG p4 sy
  simp at kG p4
  have qe:=dZ.snoc (cJ:=H1) (ob:=H1.length) kj (fun b aG af=>(Fm.ge af aG).1) (fun j u b hu af aG=>hB.lt j u b hu af aG) (by decide) (Fm.le (by omega)) hf kG (fun u x h=>h)
  simp[cf,jh]
  refine a4 (n-(i+1)) _ _ _ (by omega) ⟨i+1,rfl,by omega,by simp,ch _ (Nat.le_refl _) (bp.av hD),us++[pH],?_⟩
  rw[List.take_add_one,ei.1]
  simpa using qe
 simp at a3
 obtain rfl:i=n:=by omega
 rw[List.take_of_length_le (by omega)]at hB
 refine cb _ _ _ ?_
 clear cb
 refine Exists.elim (⟨_,rfl⟩:∃h6,h6=az 6) fun h6 nX=>?_
 rw[<-nX]at hB
 refine bV.ft fun cy cb=>?_
 simp
 refine c6.mk (by kernel_rfl) (fun q bU dd aT=>∃s:Nat,q=aR.length-s/\s<=aR.length/\bU 8= .int .i64 (s:Int)/\Ext H aT/\(∀p∈aR.take s,1<=p.1/\lT i p.2)/\∃L,dZ H.length 34 3 1 false IR aT h6 L us/\m7 i L/\∀a b,a<i->b<i->dH L a b=dH t a b-gq (aR.take s) a b/\0<=dH L a b) aR.length ⟨0,by omega,by omega,by simp,bp,by simp,t,hB,Yc,fun a b aL af=>⟨by simp[gq],(CE a b aL af).1⟩⟩ ?_
 rintro q bU dd aT ⟨s,rfl,ao,cz,bh,gW,L,qZ,OA,se⟩ K a4
 simp at cz
 have k9:=lh (show s<4611686018427387904 by omega)
 have v8:=bM.ext (ae:=Row _ _ _ gu) hA bh
 have im:=Ext.len bh
 simp[cz]
 refine cD (ae:=gu) (xs:=aR) (by simpa using v8) (by simp) ?_
 simp[cz]
 refine br.mk (fun a3=>?_) (fun a3=>?_)
 ·simp at a3
  refine Exists.elim (⟨_,bs a3⟩:∃p,aR[s]?=some p) fun p aK=>?_
  have ir:=List.mem_of_getElem? aK
  try simp
  refine bV.join (by kernel_rfl) (fun di ev bS=>aT=bS/\di 62= .bool (!decide (1<=p.1/\p.2.length=i))) ?_ ?_
  ·rintro ln eW-
   simp[cz]
   refine Iy (aR:=aR) (n:=s) (a:=p) (by simpa using v8) (by simp[cz]) aK (by simp) ?_
   intro ho cj
   by_cases o:p.1<1
   ·simp[o]
    exact eW _ _ _ ⟨rfl,by simp;omega⟩
   ·simp[o,cz]
    refine aeg (aR:=aR) (n:=s) (a:=p) (by simp[o]) (by decide) (by decide) (by simpa using v8) (by simp[cz]) aK (by simp) ?_
    intro iK eR mX sJ
    simp[o]
    refine cD (ae:=IR) (xs:=p.2) (by simpa using sJ) (by simp) ?_
    simp[o]
    refine eW _ _ _ ⟨rfl,?_⟩
    have:1<=p.1:=by omega
    simp[this]
    omega
  rintro di ev bS ⟨rfl,E3⟩
  simp only[g_]at E3
  simp at E3
  simp[E3]
  refine br.mk (fun af=>?_) (fun af=>?_)
  ·simp at af
   simp[bf]
   refine fail _ bh fun dv=>?_
   have:=dv.2.1 p ir
   exact af.elim (fun h=>by omega) fun h=>h this.2.1
  have q9:1<=p.1/\p.2.length=i:=by simpa using af
  simp
  refine u6 (e:=4) (R:=1) (bI:=1) (ay:=false) (n:=i) (e6:= .i64) (dc:= .i64) (z:= .bool false) (ae:=mu) (a:=false) (by simp) (by simp) (by simp) (by rfl) (by rfl) (by simp) (DY false) (by simp) (by simp) (by decide) (by decide) (by omega) (fun aI=>rfl) ?_
  intro IG agt bT g8 b8
  have uj:=Ext.len b8
  simp
  have Wa:∀a b,a<i->b<i->dH L a b=dH t a b-gq (aR.take s) a b-(if a<0 then kN p a b else 0)/\0<=dH L a b:=fun a b aL af=>by
   rw[if_neg (by omega)]
   have:=se a b aL af
   omega
  refine c6.mk (by kernel_rfl) (fun q fa gJ b7=>∃j:Nat,q=i-j/\j<=i/\fa 10= .int .i64 (j:Int)/\Ext H b7/\(∀a,a<j->AO i p.2 a)/\(∃tw,bB aT.length 4 1 false mu b7 (.slice IG i agt) tw/\tw.length=i/\∀k,k<i->tw[k]?=some (decide ((k:Int)∈p.2.take j)))/\∃L,dZ H.length 34 3 1 false IR b7 h6 L us/\m7 i L/\∀a b,a<i->b<i->dH L a b=dH t a b-gq (aR.take s) a b-(if a<j then kN p a b else 0)/\0<=dH L a b) i ⟨0,by omega,by omega,by simp,bh.av b8,fun a h=>by omega,⟨List.replicate i false,g8,by simp,fun k ah=>by simp[ah]⟩,L,qZ.ext b8,OA,Wa⟩ ?_
  rintro q fa gJ b7 ⟨j,rfl,aN,fy,ct,dv,⟨tw,l3,sj,ey⟩,oA,tW,CA,Bx⟩ xO l2
  simp at fy
  have qh:=lh (show j<4611686018427387904 by omega)
  have qW:=bM.ext (ae:=Row _ _ _ gu) hA ct
  have Ga:=Ext.len ct
  simp[fy]
  refine br.mk (fun np=>?_) (fun np=>?_)
  ·simp at np
   refine Exists.elim (⟨_,bs (by omega)⟩:∃x,p.2[j]?=some x) fun x J=>?_
   try simp[cz,fy]
   refine aef (aR:=aR) (n:=s) (a:=p) (by simpa using qW) (by simp[cz]) aK (by simp) ?_
   intro mT g0 va wW
   simp[fy]
   refine cF (ae:=IR) (xs:=p.2) (n:=j) (a:=x) (e:=3) (R:=1) (ay:=false) (by simpa using wW) (by simp[fy]) J (by simp) (by simp) (by simp) (by decide) ?_
   rintro px Ay rfl
   simp
   have lC:IntKind.i64.wrap ((i:Int)-1)=(i:Int)-1:=b2 (by omega) (by omega)
   refine bV.join (by kernel_rfl) (fun kR m3 dW=>b7=dW/\∃bad,kR 103= .bool bad/\(bad=false↔∃k:Nat,k<i/\x=(k:Int)/\(k:Int)∉p.2.take j/\p.1<=dH oA j k)) ?_ ?_
   ·rintro D_ oV-
    simp[lC]
    refine aY.mk Y9 ?_
    rintro _ _ ⟨rfl,rfl⟩
    by_cases gz:0<=x/\x<=(i:Int)-1
    ·refine Exists.elim (⟨x.toNat,by omega⟩:∃k:Nat,x=(k:Int)) fun k ah=>?_
     have fB:k<i:=by omega
     have p8:0<=(k:Int):=by omega
     have p9:(k:Int)<=(i:Int)-1:=by omega
     simp[ah,p8,p9]
     refine qw (ae:=mu) (xs:=tw) (n:=k) (a:=decide ((k:Int)∈p.2.take j)) (e:=4) (R:=1) (ay:=false) (by simp[p8,p9]) (by decide) (by simpa using l3.row) (by simp[ah]) (ey k fB) (by simp) (by simp) (by simp) (by decide) ?_
     rintro Dd IF rfl
     by_cases qd:(k:Int)∈p.2.take j
     ·simp[p8,p9,qd]
      refine oV _ _ _ ⟨rfl,true,by simp,⟨fun h=>(by cases h),fun h=>?_⟩⟩
      obtain⟨b1,aU,aO,bw,-⟩:=h
      rw[ah]at aO
      rw[<-aO]at bw
      exact absurd qd bw
     ·refine Exists.elim (CA.get (i:=j) (k:=k) np fB) fun jH al=>?_
      refine Exists.elim (tW.pC al.1) fun ti hu=>?_
      simp[p8,p9,qd,fy]
      refine qw (ae:=ga) (xs:=us) (n:=j) (a:=ti) (e:=34) (R:=1) (ay:=false) (by simp[p8,p9,qd]) (by decide) (by simpa[<-nX]using tW.own.row) (by simp[fy]) hu.1 (by simp) (by simp) (by simp) (by decide) ?_
      rintro uX qy rfl
      simp[p8,p9,qd,ah]
      refine qw (ae:=IR) (xs:=jH) (n:=k) (a:=dH oA j k) (e:=3) (R:=1) (ay:=false) (by simp[p8,p9,qd]) (by decide) (by simpa using hu.2.row) (by simp[ah]) al.2.2 (by simp) (by simp) (by simp) (by decide) ?_
      rintro uY IB rfl
      simp[p8,p9,qd,cz]
      refine aee (aR:=aR) (n:=s) (a:=p) (by simp[p8,p9,qd]) (by decide) (by decide) (by simpa using qW) (by simp[cz]) aK (by simp) ?_
      intro xe alA
      simp[p8,p9,qd]
      refine oV _ _ _ ⟨rfl,decide (dH oA j k<p.1),by simp,?_⟩
      constructor
      ·intro h
       have h:¬dH oA j k<p.1:=by simpa using h
       exact⟨k,fB,ah,qd,by omega⟩
      ·rintro⟨b1,aU,aO,bw,cj⟩
       rw[ah]at aO
       have e:k=b1:=by omega
       subst e
       simp
       omega
    ·simp[gz]
     refine oV _ _ _ ⟨rfl,true,by simp,⟨fun h=>(by cases h),fun h=>?_⟩⟩
     obtain⟨b1,aU,aO,-⟩:=h
     exact absurd ⟨by omega,by omega⟩ gz
   rintro kR m3 dW ⟨rfl,bad,EX,jW⟩
   simp only[g_]at EX
   simp at EX
   simp[EX]
   refine br.mk (fun af=>?_) (fun af=>?_)
   ·simp[bf]
    refine fail _ ct fun eZ=>?_
    obtain⟨k,aU,aO,bw⟩:=(eZ.2.1 p ir).2.2 j np
    rw[J]at aO
    have bn:=eZ.2.2 j k np aU
    rw[abQ aK]at bn
    have bj:kN p j k=p.1:=by unfold kN;rw[J,if_pos aO]
    have fT:=(Bx j k np aU).1
    rw[if_neg (by omega)]at fT
    have lp:=PW (aR:=aR.drop (s+1)) (fun q aq=>(eZ.2.1 q (List.mem_of_mem_drop aq)).1) j k
    have:=jW.2 ⟨k,aU,Option.some.inj aO,bw,by omega⟩
    rw[af]at this
    cases this
   refine Exists.elim (jW.1 af) fun k ah=>?_
   have fB:=ah.1
   have pq:=ah.2.1
   have hle:=ah.2.2.2
   refine Exists.elim (CA.get (i:=j) (k:=k) np fB) fun jH al=>?_
   refine Exists.elim (tW.pC al.1) fun ti hu=>?_
   have U1:=Bx j k np fB
   have wU:=CE j k np fB
   have y8:=PW (aR:=aR.take s) (fun q aq=>(gW q aq).1) j k
   have Ye:IntKind.i64.wrap (dH oA j k-p.1)=dH oA j k-p.1:=b2 (by omega) (by rw[if_neg (by omega)]at U1;omega)
   simp[pq]
   refine ja (k:=aT.length) (e:=4) (R:=1) (ay:=false) (n:=k) (ae:=mu) (xs:=tw) (a:=true) (by simpa using l3) (by simp[pq]) (by rw[sj];exact fB) (by simp[mu]) (by simpa using DY _) (by simp) (fun aI dp u y ah h=>h) (by simp) (by simp) (by simp) (by decide) ?_
   rintro Dc ka sf hD NQ W1-
   simp at sf NQ
   have OZ:=hD _ im ct
   have Fz:=tW.other NQ (by decide) (by decide) (fun _ _ h=>h)
   have Vk:=bM.ext (ae:=Row _ _ _ gu) hA OZ
   refine Exists.elim (Fz.pC al.1) fun agu dC=>?_
   simp[fy]
   refine cF (ae:=ga) (xs:=us) (n:=j) (a:=agu) (e:=34) (R:=1) (ay:=false) (by simpa[<-nX]using Fz.own.row) (by simp[fy]) dC.1 (by simp) (by simp) (by simp) (by decide) ?_
   rintro Qa RD rfl
   simp
   refine cF (ae:=IR) (xs:=jH) (n:=k) (a:=dH oA j k) (e:=3) (R:=1) (ay:=false) (by simpa using dC.2.row) (by simp[pq]) al.2.2 (by simp) (by simp) (by simp) (by decide) ?_
   rintro ab7 u16 rfl
   simp[cz]
   refine Iy (aR:=aR) (n:=s) (a:=p) (by simpa using Vk) (by simp[cz]) aK (by simp) ?_
   intro z7 alC
   simp[Ye]
   refine ja (k:=H.length) (e:=3) (R:=1) (ay:=false) (n:=k) (ae:=IR) (xs:=jH) (a:=dH oA j k-p.1) (by simpa using dC.2) (by simp[pq]) (by rw[al.2.1];exact fB) (by simp[IR]) (by simpa using hH _) (by simp) (fun aI dp u y ah h=>h) (by simp) (by simp) (by simp) (by decide) ?_
   rintro ab8 ox BB nv B0 aky-
   simp at BB B0
   simp[fy,qh]
   refine l2 (i-(j+1)) _ _ _ (by omega) ⟨j+1,rfl,by omega,by simp,nv _ (Nat.le_refl _) OZ,fun a aL=>?_,⟨tw.set k true,sf.other B0 (by decide) (fun _ _ h=>h),by rw[List.length_set];exact sj,fun b1 gM=>?_⟩,oA.set j (jH.set k (dH oA j k-p.1)),Fz.inner dC.1 (by decide) B0 BB (fun _ _ h=>h),CA.set (by rw[List.length_set];exact al.2.1),fun a b aL af=>?_⟩
   ·by_cases BN:a=j
    ·subst BN
     exact⟨k,fB,by rw[J,pq],ah.2.2.1⟩
    ·exact dv a (by omega)
   ·rw[List.take_add_one,J,pq]
    by_cases ui:k=b1
    ·subst ui
     rw[List.getElem?_set_self (by rw[sj];exact fB)]
     simp
    ·rw[List.getElem?_set_ne ui,ey b1 gM]
     have:¬(b1:Int)=(k:Int):=by omega
     simp[this]
   ·rw[L4 al.1 (by rw[al.2.1];exact fB)]
    have yv:=Bx a b aL af
    by_cases nf:a=j/\b=k
    ·obtain⟨rfl,rfl⟩:=nf
     rw[if_pos ⟨rfl,rfl⟩,if_pos (by omega)]
     rw[if_neg (by omega)]at yv
     have bj:kN p a b=p.1:=by unfold kN;rw[J,pq,if_pos rfl]
     omega
    ·rw[if_neg nf]
     by_cases BN:a<j
     ·rw[if_pos (by omega)]
      rw[if_pos BN]at yv
      exact yv
     ·rw[if_neg BN]at yv
      by_cases V1:a=j
      ·subst V1
       rw[if_pos (by omega)]
       have bj:kN p a b=0:=by
        unfold kN
        rw[J,pq,if_neg (by simp;omega)]
       omega
      ·rw[if_neg (by omega)]
       exact yv
  ·simp at np
   have e:j=i:=by omega
   have uv:lT i p.2:=⟨q9.2,fun a aL=>dv a (by omega)⟩
   simp[cz,k9]
   refine a4 (aR.length-(s+1)) _ _ _ (by omega) ⟨s+1,rfl,by omega,by simp,ct,fun q aq=>?_,oA,tW,CA,fun a b aL af=>?_⟩
   ·rw[List.take_add_one,aK,List.mem_append]at aq
    rcases aq with aq | aq
    ·exact gW q aq
    ·simp at aq
     subst aq
     exact⟨q9.1,uv⟩
   ·have:=Bx a b aL af
    rw[if_pos (by omega)]at this
    rw[abR aK]
    omega
 ·simp at a3
  have e:s=aR.length:=by omega
  rw[e,List.take_of_length_le (Nat.le_refl _)]at gW
  have MS:∀a b,a<i->b<i->dH L a b=dH t a b-gq aR a b/\0<=dH L a b:=fun a b aL af=>by
   have:=se a b aL af
   rw[e,List.take_of_length_le (Nat.le_refl _)]at this
   exact this
  refine cb _ _ _ ?_
  clear cb
  have zero:∀a b,a<i->b<i->dH L a b≠0->¬tt i (dH t) aR:=fun a b aL af aG eZ=>by
   have o:=(MS a b aL af).1
   have aa:=eZ.2.2 a b aL af
   omega
  refine bV.ft fun cy cb=>?_
  simp
  refine c6.mk (by kernel_rfl) (fun q di ev bS=>∃a:Nat,q=i-a/\a<=i/\di 12= .int .i64 (a:Int)/\bS=aT/\∀eL b,eL<a->b<i->dH L eL b=0) i ⟨0,by omega,by omega,by simp,rfl,fun eL b h=>by omega⟩ ?_
  rintro q di ev bS ⟨a,rfl,aL,iR,fT,qm⟩ ln eW
  subst fT
  simp at iR
  have GY:=lh (show a<4611686018427387904 by omega)
  simp[iR]
  refine br.mk (fun iV=>?_) (fun iV=>?_)
  ·simp at iV
   simp
   refine c6.mk (by kernel_rfl) (fun q cQ dQ bT=>∃b:Nat,q=i-b/\b<=i/\cQ 13= .int .i64 (b:Int)/\bT=bS/\∀cg,cg<b->dH L a cg=0) i ⟨0,by omega,by omega,by simp,rfl,fun cg h=>by omega⟩ ?_
   rintro q cQ dQ bT ⟨b,rfl,af,g5,lp,sQ⟩ oz g7
   subst lp
   simp at g5
   have YI:=lh (show b<4611686018427387904 by omega)
   simp[g5]
   refine br.mk (fun iq=>?_) (fun iq=>?_)
   ·simp at iq
    refine Exists.elim (OA.get (i:=a) (k:=b) iV iq) fun kq al=>?_
    refine Exists.elim (qZ.pC al.1) fun IG hu=>?_
    try simp[iR,g5]
    refine cF (ae:=ga) (xs:=us) (n:=a) (a:=IG) (e:=34) (R:=1) (ay:=false) (by simpa[<-nX]using qZ.own.row) (by simp[iR]) hu.1 (by simp) (by simp) (by simp) (by decide) ?_
    rintro iK mX rfl
    simp[g5]
    refine cF (ae:=IR) (xs:=kq) (n:=b) (a:=dH L a b) (e:=3) (R:=1) (ay:=false) (by simpa using hu.2.row) (by simp[g5]) al.2.2 (by simp) (by simp) (by simp) (by decide) ?_
    rintro mT va rfl
    simp
    refine br.b_ (fun aG=>?_) (fun aG=>?_)
    ·simp[g5,YI]
     refine g7 (i-(b+1)) _ _ _ (by omega) ⟨b+1,rfl,by omega,by simp,rfl,fun cg cZ=>?_⟩
     by_cases o1:cg=b
     ·subst o1;exact aG
     ·exact sQ cg (by omega)
    ·simp[bf]
     exact fail _ bh (zero a b iV iq aG)
   ·simp at iq
    simp[iR,GY]
    refine eW (i-(a+1)) _ _ _ (by omega) ⟨a+1,rfl,by omega,by simp,rfl,fun eL cg yM cZ=>?_⟩
    by_cases V0:eL=a
    ·subst V0;exact sQ cg (by omega)
    ·exact qm eL cg (by omega) cZ
  ·simp at iV
   refine cb _ _ _ ?_
   simp[bf]
   refine aD _ _ ⟨bh,true,rfl,⟨fun _=>⟨uc,gW,fun eL cg yM cZ=>?_⟩,fun _=>rfl⟩⟩
   have o:=(MS eL cg yM cZ).1
   have aa:=qm eL cg (by omega) cZ
   omega
def tb(n:Nat)(l:List Int):List Int:=(List.range n).map fun j:Nat=>(l.idxOf (j:Int):Int)
theorem gb.uniq{n:Nat}{l:List Int}(h:gb n l){j a b:Nat}(aN:j<n)(aL:l[a]?=some (j:Int))(af:l[b]?=some (j:Int)):a=b:=by
 obtain⟨k,-,-,hu⟩:=h.at aN
 rw[hu a aL,hu b af]
theorem Aq{n:Nat}{l:List Int}(h:gb n l){j k:Nat}(aN:j<n):(tb n l)[j]?=some (k:Int)↔l[k]?=some (j:Int):=by
 unfold tb
 rw[List.getElem?_map,List.getElem?_range aN]
 obtain⟨gP,-,lA,-⟩:=h.at aN
 have a3:l.idxOf (j:Int)<l.length:=List.idxOf_lt_length_of_mem (List.mem_of_getElem? lA)
 have e:l[l.idxOf (j:Int)]?=some (j:Int):=by rw[bs a3,List.getElem_idxOf]
 simp only[Option.map_some,Option.some.injEq]
 constructor
 ·intro cq
  have:l.idxOf (j:Int)=k:=by omega
  rw[<-this];exact e
 ·intro cq
  rw[h.uniq aN cq e]
theorem adR{n:Nat}{l:List Int}(h:gb n l):lT n (tb n l):=by
 refine⟨by simp[tb],fun j aN=>?_⟩
 obtain⟨k,ah,jY,-⟩:=h.at aN
 refine⟨k,ah,(Aq h aN).2 jY,fun hm=>?_⟩
 obtain⟨dO,kF⟩:=List.mem_iff_getElem?.1 hm
 have a3:dO<j:=by
  have:=(cn.1 kF).1
  rw[List.length_take]at this
  omega
 rw[List.getElem?_take_of_lt a3]at kF
 have:=(Aq h (by omega)).1 kF
 rw[jY]at this
 have:=Option.some.inj this
 omega
def vv(n:Nat)(l:List Int)(m:Nat)(dX:List Int):Prop:=dX.length=n/\∀k j:Nat,k<m->j<n->l[k]?=some (j:Int)->dX[j]?=some (k:Int)
theorem vv.next{n m j:Nat}{l dX:List Int}(aK:gb n l)(h:vv n l m dX)(aN:j<n)(J:l[m]?=some (j:Int)):vv n l (m+1) (dX.set j (m:Int)):=by
 refine⟨by rw[List.length_set];exact h.1,fun k dO ah kF jY=>?_⟩
 by_cases e:dO=j
 ·subst e
  rw[aK.uniq aN jY J]
  exact List.getElem?_set_self (by rw[h.1];exact aN)
 ·rw[List.getElem?_set_ne (Ne.symm e)]
  refine h.2 k dO ?_ kF jY
  have:k≠m:=fun km=>by
   subst km
   rw[J]at jY
   have:=Option.some.inj jY
   omega
  omega
theorem vv.all{n:Nat}{l dX:List Int}(aK:gb n l)(h:vv n l n dX):dX=tb n l:=by
 refine List.ext_getElem? fun j=>?_
 by_cases aN:j<n
 ·obtain⟨k,ah,jY,-⟩:=aK.at aN
  rw[h.2 k j ah aN jY,(Aq aK aN).2 jY]
 ·rw[List.getElem?_eq_none (by rw[h.1];omega),List.getElem?_eq_none (by simp[tb];omega)]
def r3(n:Nat)(p:Rat×List Int):Int×List Int:=(p.1.num,tb n p.2)
theorem S2{n:Nat}{aM:List (Rat×List Int)}(h:∀p∈aM,gb n p.2/\p.1=((p.1.num:Int):Rat)){i k:Nat}(ab:i<n)(ah:k<n):((gq (aM.map (r3 n)) i k:Int):Rat)=en aM i k:=by
 induction aM with
 | nil=>rfl
 | cons p aM a2=>
  have o:=a2 fun q aq=>h q (by simp[aq])
  obtain⟨aa,aE⟩:=h p (by simp)
  have e:gq ((p::aM).map (r3 n)) i k=kN (r3 n p) i k+gq (aM.map (r3 n)) i k:=rfl
  rw[e,Rat.intCast_add,o]
  have bj:en (p::aM) i k=gi p i k+en aM i k:=rfl
  rw[bj]
  congr 1
  unfold kN gi
  show(((if(tb n p.2)[i]?=some (k:Int)then p.1.num else 0:Int)):Rat)=_
  by_cases aq:p.2[k]?=some (i:Int)
  ·rw[if_pos aq,if_pos ((Aq aa ab).2 aq)]
   exact aE.symm
  ·rw[if_neg aq,if_neg fun cq=>aq ((Aq aa ab).1 cq)]
   rfl
theorem abk{t:List (List Int)}{n:Nat}(aF:n=t.length)(c1:rT t):e_ n n (cr t)/\kT n (b0 (cr t)) ((((t[0]?.getD []).sum:Int)):Rat):=by
 obtain⟨an,o,aa⟩:=c1
 have hm:(t[0]?.getD []).length=n:=by rw[aF];exact o.symm
 have aA:e_ n n (cr t):=s5 aF.symm fun r al=>by rw[an.len r al];exact hm
 have ao:=an.small
 refine⟨aA,fun i k _ _=>ao.jj i k,fun i ab=>?_,fun k ah=>?_⟩
 ·rw[<-rD aA ab,qs,(aa i (by omega)).1]
 ·have:=(aa k (by omega)).2
  rw[<-aF]at this
  rw[<-this,<-qs,<-z_,rD aA.e8 ah]
  exact fF fun i ab=>(r5 aA ab ah).symm
theorem adn{v:Value}{t:List (List Int)}{H:ad}(bd:gr H v t)(au:t.length<65536)(al:∀r∈t,r.length<65536):
  aX prog 27 [v] H (fun u H1=>Ext H H1/\(¬rT t->u= .tuple #[.slice none 0 0,.int .i64 1])/\(rT t->∃w aR,u= .tuple #[w,.int .i64 0]/\Row 69 2 true gu H1 w aR/\tt t.length (dH t) aR/\∀p∈aR,p.1<=1000000000)):=by
 refine aX.cc fun Q aD=>?_
 apply aat (by simp)
 simp only[KC]
 refine bV.ft fun cy cb=>?_
 simp
 refine cb _ _ _ ?_
 clear cb
 refine bV.ft fun cy cb=>?_
 simp
 refine aY.mk (Px bd au al) ?_
 rintro _ H1 ⟨bp,gT,rfl,jV⟩
 simp
 refine br.mk (fun af=>?good) (fun af=>?bad)
 case bad=>
  simp[bf]
  exact aD _ _ ⟨bp,fun _=>rfl,fun h=>by rw[jV.2 h]at af;cases af⟩
 have c1:=jV.1 af
 have an:=c1.1
 have ao:=an.small
 refine Exists.elim (⟨_,rfl⟩:∃n,n=t.length) fun n aF=>?_
 have h2:0<n:=by have:=an.1;omega
 have mL:n<=8:=by have:=an.2.1;omega
 have nX:=abk aF c1
 have aA:=nX.1
 have Gd:=nX.2
 have hK:=bM.ext (ae:=gr) bd bp
 refine cb _ _ _ ?_
 clear cb
 refine bV.ft fun cy cb=>?_
 simp
 refine cb _ _ _ ?_
 clear cb
 have fp:(t[0]?.getD []).sum.natAbs<=1000000000:=by
  have aG:=bs (show 0<t.length by omega)
  rw[aG]
  have:=ao _ (List.getElem_mem (show 0<t.length by omega))
  have:=lV.sum this.1 this.2
  show(t[0].sum).natAbs<=_
  omega
 refine bV.ft fun cy cb=>?_
 simp
 refine aY.mk (xl hK (by omega) al fun r h x J=>by have:=(ao r h).2 x J;omega) ?_
 rintro _ aT ⟨bh,x2,x_,rfl,l4⟩
 simp
 refine aY.mk (LS (n:=n) (N:=64) (D:=1) l4 aA h2 (by omega) Gd (Qv t) (mw.int (by omega) (by decide) (by decide))) ?_
 rintro wp bS ⟨bO,aM,l9,Cb,qb⟩
 have uc:aM.length<=nB n:=l9.PS
 have aby:nB n<=50:=by
  unfold nB
  have:(n-1)*(n-1)<=7*7:=Nat.mul_le_mul (by omega) (by omega)
  omega
 have iu:=De fun p aK=>(l9.parts p aK).1
 have hint:∀p∈aM,p.1=((p.1.num:Int):Rat)/\1<=p.1.num/\p.1.num<=1000000000:=fun p aK=>by
  obtain⟨z,aQ⟩:=Cb p aK
  have e:p.1=(z:Rat):=by
   rw[<-aQ]
   have:((1:Nat):Rat)=1:=rfl
   rw[this,Rat.mul_one]
  have bj:p.1.num=z:=by rw[e,Rat.num_intCast]
  rw[bj]
  refine⟨e,?_,?_⟩
  ·have:=(l9.parts p aK).1
   rw[e]at this
   have:0<z:=by exact_mod_cast this
   omega
  ·have:=iu.2 p aK
   rw[l9.len,e]at this
   have:z<=(t[0]?.getD []).sum:=by exact_mod_cast this
   omega
 try simp
 refine cD (ae:=jN) (xs:=aM) (by simpa using qb) (by simp) ?_
 simp
 have gX:=bh.av bO
 refine c6.range (by kernel_rfl) aM.length (by omega) (by simp) (by rfl) (by simp) (by decide) (by decide) (fun s cQ dQ bT=>Ext bS bT/\bB bS.length 69 2 true gu bT (cQ 4) ((aM.take s).map (r3 n))) ?_ ?_ ?_
 ·exact⟨Ext.refl _,by simpa using bB.nil _ _ _ _ _ _⟩
 ·rintro s cQ dQ bT wR hW ⟨b8,g8⟩ K a4
  simp at hW g8
  refine Exists.elim (⟨_,bs wR⟩:∃p,aM[s]?=some p) fun p aK=>?_
  have ir:=List.mem_of_getElem? aK
  have k7:=(l9.parts p ir).2
  have akV:=hint p ir
  simp[hW]
  refine Rd (xs:=aM) (n:=s) (a:=p) (by simpa using bM.ext (ae:=Row _ _ _ jN) qb b8) (by simp[hW]) aK (by simp) ?_
  intro iK s1 b3 c4 cx s2 cM c9 cN d_ eg sG WU
  try simp
  have fi:=Ext.dead bT
  refine aY.mk (HI (sG.ext fi)) ?_
  rintro anx dx ⟨cB,Y1⟩
  simp
  refine aY.mk (Ic Y1 (by omega)) ?_
  rintro _ cw ⟨ch,rfl⟩
  have lE:=fi.av (cB.av ch)
  have akB:=Ext.len lE
  have akA:=Ext.len b8
  simp
  refine cD (ae:=ee) (xs:=t) (by simpa using bM.ext (ae:=gr) hK (gX.av (b8.av lE))) (by simp) ?_
  simp only[<-aF]
  try simp
  refine u6 (e:=3) (R:=1) (bI:=8) (ay:=false) (n:=n) (e6:= .i64) (dc:= .i64) (z:= .int .i64 0) (ae:=IR) (a:=0) (by simp) (by simp) (by simp) (by rfl) (by rfl) (by simp) (hH 0) (by simp) (by simp) (by decide) (by decide) (by omega) (fun aI=>rfl) ?_
  intro u2 u3 dW eJ cH
  have Hb:=Ext.dead dW
  have NL:=bM.ext (ae:=ee) WU lE
  have hf:=bM.ext (ae:=bB _ _ _ _ gu) g8 lE
  have h3:=k7.len
  simp
  refine cD (ae:=IR) (xs:=p.2) (by simpa using bM.ext (ae:=ee) NL (cH.av Hb)) (by simp) ?_
  simp only[h3]
  simp
  refine c6.range (by kernel_rfl) n (by omega) (by simp) (by rfl) (by simp) (by decide) (by decide) (fun m lO m4 eH=>Ext cw eH/\∃dX,vv n p.2 m dX/\bB cw.length 3 1 false IR eH (.slice u2 n u3) dX) ?_ ?_ ?_
  ·exact⟨cH.av Hb,List.replicate n 0,⟨by simp,fun k j ah=>by omega⟩,bM.ext (ae:=bB _ _ _ _ IR) eJ Hb⟩
  ·rintro m lO m4 eH Xf kg ⟨c_,dX,ij,ki⟩ I6 yt
   simp at kg
   refine Exists.elim (k7.dP m Xf) fun j aN=>?_
   simp[kg]
   refine cF (ae:=IR) (xs:=p.2) (n:=m) (a:=(j:Int)) (e:=3) (R:=1) (ay:=false) (by simpa[h3]using bM.ext (ae:=ee) NL c_) (by simp[kg]) aN.2 (by simp) (by simp) (by simp) (by decide) ?_
   rintro sY Ax rfl
   simp[kg]
   refine ja (k:=cw.length) (e:=3) (R:=1) (ay:=false) (n:=j) (ae:=IR) (xs:=dX) (a:=(m:Int)) (by simpa using ki) (by simp) (by rw[ij.1];exact aN.1) (by simp[kg,IR]) (by simpa[kg]using hH _) (by simp) (fun aI dp u y ah h=>h) (by simp) (by simp) (by simp) (by decide) ?_
   rintro uX hR qV e4 WY NS-
   simp at qV
   try simp
   exact yt _ _ _ (by simp[kg]) ⟨e4 _ (Nat.le_refl _) c_,_,ij.next k7 aN.1 aN.2,qV⟩
  ·rintro lO m4 eH kg ⟨c_,dX,ij,ki⟩
   rw[ij.all k7]at ki
   have iX:gu eH (.agg #[.int .i64 p.1.num,.slice u2 n u3]) (r3 n p):=⟨_,_,_,rfl,ki.row⟩
   have Vb:=bM.ext (ae:=bB _ _ _ _ gu) hf c_
   have akF:=Ext.len c_
   simp
   refine rJ (k:=bS.length) (e:=69) (R:=2) (ay:=true) (bI:=32) (z:= .agg #[.int .i64 0,.slice none 0 0]) (ae:=gu) (xs:=(aM.take s).map (r3 n)) (a:=r3 n p) (by simpa using Vb) (by simpa using iX) (by simpa using iX.jL) (by simp) (fun aI dp u y ah h=>h.kept ah (by decide)) (by simp) (by simp) (by simp) (by simp) (by simp) (by rfl) (by rfl) (by first | rfl | simp[flat,hd]) (by rfl) (by decide) (by decide) (by decide) (by simp;omega) (by omega) ?_
   intro uY agy gS lx e5 wL
   try simp
   refine a4 _ _ _ (by simp[hW]) ⟨e5 _ (Nat.le_refl _) (b8.av (lE.av c_)),?_⟩
   rw[List.take_add_one,aK,List.map_append]
   simpa using lx
 ·rintro cQ dQ bT hW ⟨b8,g8⟩
  rw[List.take_of_length_le (Nat.le_refl _)]at g8
  refine cb _ _ _ ?_
  simp[bf]
  refine aD _ _ ⟨bp.av (gX.av b8),fun h=>absurd c1 h,fun _=>⟨_,_,rfl,g8.row,?_,?_⟩⟩
  ·rw[<-aF]
   refine⟨by rw[List.length_map];exact uc,fun q aq=>?_,fun i k ab ah=>?_⟩
   ·rw[List.mem_map]at aq
    obtain⟨p,aK,rfl⟩:=aq
    exact⟨(hint p aK).2.1,adR (l9.parts p aK).2⟩
   ·have o:=S2 (n:=n) (aM:=aM) (fun p aK=>⟨(l9.parts p aK).2,(hint p aK).1⟩) ab ah
    rw[l9.sum i k ab ah,pA]at o
    exact Rat.intCast_inj.1 o
  ·intro q aq
   rw[List.mem_map]at aq
   obtain⟨p,aK,rfl⟩:=aq
   exact(hint p aK).2.2
end Go.cl
end
section
set_option maxRecDepth 8000
set_option maxHeartbeats 1000000
namespace Go.cl
open Go.Proofs
open Go.Proofs.Tryz (prog)
attribute [-simp] gk hq iM
attribute [-simp] pT
end Go.cl
end
section
set_option maxRecDepth 8000
set_option maxHeartbeats 1000000
namespace Go.cl
open Go.Proofs
open Go.Proofs.Tryz (prog)
open Go.RowKit
def qG(H:ad)(v:Value)(a:Nat):Prop:=v= .int .u8 a/\a<256
instance:lR qG:=⟨fun h=>h⟩
theorem iO.u8{w:World}{H:Type}{enc:TypeId×Value->H}:iO w (pP H enc w 5) false qG:=iO.flat fun cs ⟨fuel,x,h⟩=>by
 obtain⟨n,rfl,-,hw⟩:=DataW.trod_int (k:= .u8) (by rfl) h
 have af:0<=n/\n<256:=by
  simp[Lit.wf,IntKind.min,IntKind.max,IntKind.signed,IntKind.bits]at hw
  omega
 obtain⟨a,rfl⟩:∃a:Nat,n=a:=⟨n.toNat,by omega⟩
 exact⟨_,_,a,rfl,fun ak=> .int _ _,fun H=>⟨rfl,by omega⟩⟩
end Go.cl
end
section
set_option maxRecDepth 8000
set_option maxHeartbeats 1000000
namespace Go.cl
open Go.Proofs
open Go.Proofs.Tryz (prog)
attribute [-simp] gk hq iM
attribute [-simp] pT
end Go.cl
end
section
set_option maxRecDepth 8000
set_option maxHeartbeats 1000000
namespace Go.cl
open Go.Proofs
open Go.Proofs.Tryz (prog)
open Go.RowKit
end Go.cl
end
section
set_option maxRecDepth 8000
set_option maxHeartbeats 1000000
namespace Go.cl
attribute [-simp] gk hq iM
theorem gb.perm{n:Nat}{l da:List Int}(h:gb n l)(aK:da.Perm l):gb n da:=by
 refine⟨by rw[aK.length_eq];exact h.len,fun k ah=>?_,fun j aN=>by rw[aK.count_eq];exact h.qL j aN⟩
 have gM:k<da.length:=by rw[aK.length_eq,h.len];exact ah
 have hm:da[k]∈l:=aK.mem_iff.1 (List.getElem_mem gM)
 obtain⟨i,ab⟩:=List.mem_iff_getElem?.1 hm
 have cA:=(cn.1 ab).1
 obtain⟨j,aU,aO⟩:=h.dP i (by rw[<-h.len];exact cA)
 rw[ab]at aO
 exact⟨j,aU,by rw[bs gM,Option.some.inj aO]⟩
def mR(n:Nat):List Int:=(List.range n).map fun i:Nat=>(i:Int)
theorem CQ{n k:Nat}:(mR n)[k]?=if k<n then some (k:Int)else none:=by
 unfold mR
 rw[List.getElem?_map]
 by_cases h:k<n
 ·rw[List.getElem?_range h,if_pos h];rfl
 ·rw[List.getElem?_eq_none (by simp;omega),if_neg h];rfl
theorem Y6(n:Nat):gb n (mR n):=by
 refine⟨by simp[mR],fun k ah=>⟨k,ah,by rw[CQ,if_pos ah]⟩,fun j aN=>?_⟩
 have o:(mR n).count (j:Int)<=1:=EA.1 fun k ah hm=>by
  rw[CQ]at ah
  split at ah
  ·obtain⟨b1,gM⟩:=List.mem_iff_getElem?.1 hm
   have a3:b1<k:=by
    have:=(cn.1 gM).1
    rw[List.length_take]at this
    omega
   rw[List.getElem?_take_of_lt a3,CQ]at gM
   split at gM
   ·have:=Option.some.inj ah
    have:=Option.some.inj gM
    omega
   ·cases gM
  ·cases ah
 have aa:0<(mR n).count (j:Int):=List.count_pos_iff.2 (List.mem_of_getElem? (by rw[CQ,if_pos aN]))
 omega
theorem gb.swap{n i k:Nat}{l:List Int}{a b:Int}(h:gb n l)(aL:l[i]?=some a)(af:l[k]?=some b):gb n ((l.set i b).set k a):=by
 obtain⟨o,rfl⟩:=cn.1 aL
 obtain⟨aa,rfl⟩:=cn.1 af
 exact h.perm (List.set_set_perm o aa)
theorem acm{n:Nat}{aM:List (Rat×List Int)}(h:∀p∈aM,gb n p.2){i:Nat}(ab:i<n):bC n (fun k=>en aM i k)=dJ aM:=by
 induction aM with
 | nil=>exact rG n
 | cons p aM a2=>
  have:=a2 fun q aq=>h q (by simp[aq])
  show bC n (fun k=>gi p i k+en aM i k)=p.1+dJ aM
  rw[Ap,this,(h p (by simp)).row ab]
theorem Qj{n:Nat}{aM:List (Rat×List Int)}(h:∀p∈aM,gb n p.2){k:Nat}(ah:k<n):bC n (fun i=>en aM i k)=dJ aM:=by
 induction aM with
 | nil=>exact rG n
 | cons p aM a2=>
  have:=a2 fun q aq=>h q (by simp[aq])
  show bC n (fun i=>gi p i k+en aM i k)=p.1+dJ aM
  rw[Ap,this,(h p (by simp)).oK ah]
theorem Qk{aM:List (Rat×List Int)}(h:∀p∈aM,0<=p.1)(i k:Nat):0<=en aM i k:=by
 induction aM with
 | nil=>exact Rat.le_refl
 | cons p aM a2=>
  have o:=a2 fun q aq=>h q (by simp[aq])
  have aa:=h p (by simp)
  simp only[en,gi]
  split<;>grind
def ky:List (Int×List Int)->Int
 | []=>0
 | p::aM=>p.1+ky aM
theorem LG(a b:List (Int×List Int)):ky (a++b)=ky a+ky b:=by
 induction a with
 | nil=>simp[ky]
 | cons p a a2=>simp only[List.cons_append,ky];rw[a2];omega
theorem LH{aR:List (Int×List Int)}(h:∀p∈aR,1<=p.1):0<=ky aR:=by
 induction aR with
 | nil=>exact Int.le_refl _
 | cons p aR a2=>
  have o:=a2 fun q aq=>h q (by simp[aq])
  have aa:=h p (by simp)
  simp only[ky]
  omega
theorem abP{n:Nat}{aR:List (Int×List Int)}(h:∀p∈aR,lT n p.2){i:Nat}(ab:i<n):bC n (fun k=>((gq aR i k:Int):Rat))=((ky aR:Int):Rat):=by
 induction aR with
 | nil=>exact rG n
 | cons p aR a2=>
  have o:=a2 fun q aq=>h q (by simp[aq])
  obtain⟨gP,aU,aO,-⟩:=(h p (by simp)).2 i ab
  have e:bC n (fun k=>((gq (p::aR) i k:Int):Rat))=bC n (fun k=>(if k=gP then((p.1:Int):Rat)else 0)+((gq aR i k:Int):Rat)):=fF fun k ah=>by
   show(((kN p i k+gq aR i k:Int)):Rat)=_
   rw[Rat.intCast_add]
   congr 1
   unfold kN
   rw[aO]
   by_cases ui:k=gP
   ·rw[if_pos ui,if_pos (by rw[ui])]
   ·rw[if_neg ui,if_neg fun h=>ui (by have:=Option.some.inj h;omega)]
    rfl
  rw[e,Ap,ta gP (fun _=>((p.1:Int):Rat)),if_pos aU,o]
  show _=((p.1+ky aR:Int):Rat)
  rw[Rat.intCast_add]
structure j7 (n:Nat) (L:List (List Int)) (aM:List (Rat×List Int)) (c:Int):Prop where
 u0:m7 n L
 sum:∀i k,i<n->k<n->((dH L i k:Int):Rat)=en aM k i
 len:dJ aM=((c:Int):Rat)
 parts:∀p∈aM,0<=p.1/\gb n p.2
theorem j7.le{n:Nat}{L:List (List Int)}{aM:List (Rat×List Int)}{c:Int}(h:j7 n L aM c){i k:Nat}(ab:i<n)(ah:k<n):0<=dH L i k/\dH L i k<=c:=by
 have o:=Qk (fun p aK=>(h.parts p aK).1) k i
 have aa:en aM k i<=dJ aM:=by
  rw[<-Qj (fun p aK=>(h.parts p aK).2) ab]
  exact DC (f:=fun k=>en aM k i) (fun k _=>Qk (fun p aK=>(h.parts p aK).1) k i) ah
 rw[<-h.sum i k ab ah]at o aa
 rw[h.len]at aa
 exact⟨Rat.intCast_nonneg.1 o,Rat.intCast_le_intCast.1 aa⟩
theorem j7.row{n:Nat}{L:List (List Int)}{aM:List (Rat×List Int)}{c:Int}(h:j7 n L aM c){i:Nat}(ab:i<n):bC n (b0 (cr L) i)=((c:Int):Rat):=by
 rw[<-h.len,<-Qj (fun p aK=>(h.parts p aK).2) ab]
 exact fF fun k ah=>by rw[pA];exact h.sum i k ab ah
theorem j7.oK{n:Nat}{L:List (List Int)}{aM:List (Rat×List Int)}{c:Int}(h:j7 n L aM c){k:Nat}(ah:k<n):bC n (fun i=>b0 (cr L) i k)=((c:Int):Rat):=by
 rw[<-h.len,<-acm (fun p aK=>(h.parts p aK).2) ah]
 exact fF fun i ab=>by rw[pA];exact h.sum i k ab ah
theorem j7.valid{n:Nat}{L:List (List Int)}{aM:List (Rat×List Int)}{c:Int}(h:j7 n L aM c)(aF:1<=n)(mL:n<=8)(ag:c<=1000):g2 L/\(L[0]?.getD []).length=n:=by
 have hm:(L[0]?.getD []).length=n:=by
  obtain⟨r,aU,aO⟩:=h.u0.2 0 (by omega)
  rw[aU];exact aO
 refine⟨IN.2 ⟨by rw[h.u0.1];omega,fun r al=>?_⟩,hm⟩
 obtain⟨i,ab⟩:=List.mem_iff_getElem?.1 al
 have cA:=(cn.1 ab).1
 rw[h.u0.1]at cA
 obtain⟨dG,aU,aO⟩:=h.u0.2 i cA
 rw[ab]at aU
 obtain rfl:=Option.some.inj aU
 rw[hm]
 refine⟨⟨aO,by omega,by omega⟩,fun x J=>?_⟩
 obtain⟨k,ah⟩:=List.mem_iff_getElem?.1 J
 have iG:=(cn.1 ah).1
 have:=h.le cA (show k<n by omega)
 have e:dH L i k=x:=by unfold dH;rw[ab];simp[ah]
 rw[e]at this
 omega
theorem j7.level{n:Nat}{L:List (List Int)}{aM:List (Rat×List Int)}{c:Int}(h:j7 n L aM c)(aF:1<=n)(mL:n<=8)(ag:c<=1000):rT L/\(jf L).1=c:=by
 obtain⟨an,hm⟩:=h.valid aF mL ag
 have au:=h.u0.1
 have aA:e_ n n (cr L):=s5 au fun r al=>by rw[an.len r al];exact hm
 have ei:∀i,i<n->(L[i]?.getD []).sum=c:=fun i ab=>by
  have:=h.row ab
  rw[<-rD aA ab,qs]at this
  exact Rat.intCast_inj.1 this
 refine⟨⟨an,by rw[au,hm],fun i ab=>?_⟩,?_⟩
 ·rw[au]at ab
  rw[ei 0 (by omega),au]
  refine⟨ei i ab,?_⟩
  have e:dU (cr (fZ n L)) i=((c:Int):Rat):=by
   rw[<-z_,rD aA.e8 ab,<-h.oK ab]
   exact fF fun k ah=>r5 aA ah ab
  rw[qs]at e
  exact Rat.intCast_inj.1 e
 ·refine Int.le_antisymm (SF an (fun i ab=>?_) fun k ah=>?_) ?_
  ·rw[hm,h.row (by omega)];exact Rat.le_refl
  ·rw[au,h.oK (by omega)];exact Rat.le_refl
  ·have:=SG an (i:=0) (by omega)
   rw[hm,h.row (by omega)]at this
   exact Rat.intCast_le_intCast.1 this
theorem j7.ky{n:Nat}{L:List (List Int)}{aM:List (Rat×List Int)}{c:Int}{aR:List (Int×List Int)}(h:j7 n L aM c)(aF:1<=n)(eZ:tt n (dH L) aR):ky aR=c:=by
 have o:=abP (fun p aK=>(eZ.2.1 p aK).2) (i:=0) aF
 have aa:=h.row (i:=0) aF
 rw[<-fF fun k ah=>by rw[pA,show(L[0]?.getD [])[k]?.getD 0=gq aR 0 k from(eZ.2.2 0 k aF ah).symm]]at aa
 rw[o]at aa
 exact Rat.intCast_inj.1 aa
theorem j7.zero{n:Nat}{L:List (List Int)}(ao:m7 n L)(aG:∀i k,i<n->k<n->dH L i k=0):j7 n L [] 0:=
 ⟨ao,fun i k ab ah=>by rw[aG i k ab ah];rfl,rfl,by simp⟩
end Go.cl
end
section
set_option maxRecDepth 8000
set_option maxHeartbeats 1000000
namespace Go.cl
open Go.Proofs
open Go.Proofs.Tryz (prog)
attribute [-simp] gk hq iM
theorem abB{v:Value}{l:List Int}{a b:Nat}{w:Int}{H:ad}(ew:ee H v l)(aL:a<256)(af:b<256)(hw:0<=w)(nu:w<10000)(ys:0<H.length):
  aX prog 24 [v,.int .u8 a,.int .u8 b,.int .i64 w] H (fun u H1=>Ext H H1/\∃us,dZ H.length 34 3 1 false IR H1 u (uR l (a % 8+1) (b % 8+1) (w+1)) us):=by
 refine aX.cc fun Q aD=>?_
 obtain⟨n,aF⟩:∃n,n=a % 8+1:=⟨_,rfl⟩
 obtain⟨m,hm⟩:∃m,m=b % 8+1:=⟨_,rfl⟩
 rw[<-aF,<-hm]at aD
 obtain⟨kq,Gv⟩:∃r,r=a % 8:=⟨_,rfl⟩
 obtain⟨Qy,XW⟩:∃r,r=b % 8:=⟨_,rfl⟩
 have b3:IntKind.i64.wrap (a:Int)=a:=b2 (by omega) (by omega)
 have cM:(a:Int).tmod 8=(kq:Int):=by rw[Gv];exact(Int.ofNat_tmod a 8).symm
 have d_:IntKind.i64.wrap ((kq:Int)+1)=(n:Int):=by rw[b2 (by omega) (by omega)];omega
 have gT:IntKind.i64.wrap (b:Int)=b:=b2 (by omega) (by omega)
 have kX:(b:Int).tmod 8=(Qy:Int):=by rw[XW];exact(Int.ofNat_tmod b 8).symm
 have tA:IntKind.i64.wrap ((Qy:Int)+1)=(m:Int):=by rw[b2 (by omega) (by omega)];omega
 have a9:IntKind.i64.wrap (w+1)=w+1:=b2 (by omega) (by omega)
 have mL:n<=8:=by omega
 have Xe:m<=8:=by omega
 apply ZM (by simp)
 simp only[Ke]
 refine bV.ft fun cy cb=>?_
 simp
 refine cb _ _ _ ?_
 clear cb
 refine bV.ft fun cy cb=>?_
 simp[b3,cM,d_,gT,kX,tA]
 refine cb _ _ _ ?_
 clear cb
 refine bV.ft fun cy cb=>?_
 simp
 refine qv (e:=34) (R:=1) (by simp) (by simp) ?_
 simp
 refine cb _ _ _ ?_
 clear cb
 obtain⟨cell,k5⟩:∃cell:Nat->Nat->Int,cell=fun i k=>match l[i*m+k]? with
  | some x=>x % (w+1)
  | none=>0:=⟨_,rfl⟩
 have Xg:uR l n m (w+1)=(List.range n).map fun i=>(List.range m).map (cell i):=by rw[k5];rfl
 rw[Xg]at aD
 refine bV.ft fun cy cb=>?_
 simp
 refine c6.mk (by kernel_rfl) (fun q az bH H1=>∃i:Nat,q=n-i/\i<=n/\az 12= .int .i64 (i:Int)/\Ext H H1/\∃us,dZ H.length 34 3 1 false IR H1 (az 11) ((List.range i).map fun i=>(List.range m).map (cell i)) us) n ⟨0,by omega,by omega,by simp,Ext.refl _,[],⟨ys,by simpa using bB.void _ _ _ _ _ _ _,rfl,fun i row u h=>by simp at h,fun i j b u w h=>by simp at h⟩⟩ ?_
 rintro q az bH H1 ⟨i,rfl,ab,iR,bp,us,cR⟩ K a4
 simp at iR cR
 have Fa:=bM.ext (ae:=ee) ew bp
 have jh:=lh (show i<4611686018427387904 by omega)
 simp[iR]
 refine br.mk (fun a3=>?_) (fun a3=>?_)
 ·simp at a3
  refine qv (e:=3) (R:=1) (by simp) (by simp) ?_
  simp
  have NW:=Ext.len bp
  refine c6.mk (by kernel_rfl) (fun q bU dd aT=>∃k:Nat,q=m-k/\k<=m/\bU 14= .int .i64 (k:Int)/\Ext H1 aT/\bB H1.length 3 1 false IR aT (bU 13) ((List.range k).map (cell i))) m ⟨0,by omega,by omega,by simp,Ext.refl _,by simpa using bB.void _ _ _ _ _ _ _⟩ ?_
  rintro q bU dd aT ⟨k,rfl,ah,yj,bh,fU⟩ c5 dB
  simp at yj fU
  have sM:=lh (show k<4611686018427387904 by omega)
  have vZ:=bM.ext (ae:=ee) Fa bh
  have p7:i*m<=7*8:=Nat.mul_le_mul (by omega) Xe
  refine Exists.elim (⟨_,rfl⟩:∃y,y=i*m) fun y aP=>?_
  have bn:IntKind.i64.wrap ((i:Int)*(m:Int))=(y:Int):=by
   have:(i:Int)*(m:Int)=(y:Int):=by rw[aP];simp
   rw[this,b2 (by omega) (by omega)]
  have bj:IntKind.i64.wrap ((y:Int)+(k:Int))=((y+k:Nat):Int):=by rw[b2 (by omega) (by omega)];omega
  simp[yj,iR]
  refine br.mk (fun Gf=>?_) (fun Gf=>?_)
  ·simp at Gf
   simp
   refine bV.join (by kernel_rfl) (fun di ev bS=>bS=aT/\di 15= .int .i64 (cell i k)) ?_ ?_
   ·rintro ln eW-
    simp[yj,iR,bn,bj]
    refine cD (ae:=IR) (xs:=l) (by simpa using vZ) (by simp) ?_
    by_cases hlen:y+k<l.length
    ·have J:=bs hlen
     refine Exists.elim (⟨_,J⟩:∃x,l[y+k]?=some x) fun x J=>?_
     have uk:(y:Int)+(k:Int)<(l.length:Int):=by omega
     simp[hlen,uk,yj,iR,bn,bj]
     refine cF (ae:=IR) (xs:=l) (n:=y+k) (a:=x) (e:=3) (R:=1) (ay:=false) (by simpa using vZ) (by simp) J (by simp) (by simp) (by simp) (by decide) ?_
     rintro iK mX sJ
     obtain rfl:mX= .int .i64 x:=sJ
     simp[a9]
     refine aY.mk (Uj (by omega) (by omega)) ?_
     rintro _ _ ⟨rfl,rfl⟩
     simp
     refine eW _ _ _ ⟨rfl,?_⟩
     rw[k5]
     simp[<-aP,J]
    ·have uk:¬(y:Int)+(k:Int)<(l.length:Int):=by omega
     simp[hlen,uk]
     refine eW _ _ _ ⟨rfl,?_⟩
     rw[k5]
     simp[<-aP,List.getElem?_eq_none (show l.length<=y+k by omega)]
   rintro di ev bS ⟨rfl,r9⟩
   simp only[g_]at r9
   simp at r9
   simp[r9]
   refine rJ (k:=H1.length) (e:=3) (R:=1) (ay:=false) (bI:=8) (z:= .int .i64 0) (ae:=IR) (xs:=(List.range k).map (cell i)) (a:=cell i k) (by simpa using fU) (by simp[IR]) (by simpa using hH _) (by simp) (fun aI dp u y ah h=>h) (by simp) (by simp) (by simp) (by simp) (by simp) (by rfl) (by rfl) (by rfl) (by rfl) (by decide) (by decide) (by decide) (by simp;omega) (by have:=Ext.len bh;omega) ?_
   intro mT v6 dx jw cB sx
   simp[yj,sM]
   refine dB (m-(k+1)) _ _ _ (by omega) ⟨k+1,rfl,by omega,by simp,cB _ (Nat.le_refl _) bh,?_⟩
   rw[List.range_succ,List.map_append]
   simpa using jw
  ·simp at Gf
   obtain rfl:k=m:=by omega
   have kj:=cR.ext bh
   have uj:=Ext.len bh
   have ri:=ee.whole fU.row
   have jA:=cR.len
   simp at jA
   simp
   refine As (k:=H.length) (e:=34) (R:=1) (ay:=false) (bI:=24) (z:= .slice none 0 0) (ae:=ga) (xs:=us) (a:=bU 13) (by simpa using kj.own) (by simp[ga]) (by simpa using ri) (by simp) (fun _ _ _ _ _ h=>h) (by simp) (by simp) (by simp) (by simp) (by simp) (by rfl) (by rfl) (by rfl) (by rfl) (by decide) (by decide) (by decide) (by omega) (by omega) ?_
   intro px xC cw hf ch kG p4 sy
   simp at kG p4
   have qe:=dZ.snoc (cJ:=H1) (ob:=H1.length) kj (fun b aG af=>(fU.ge af aG).1) (fun j u b hu af aG=>cR.lt j u b hu af aG) (by decide) (fU.le (by omega)) hf kG (fun u x h=>h)
   simp[iR,jh]
   refine a4 (n-(i+1)) _ _ _ (by omega) ⟨i+1,rfl,by omega,by simp,ch _ (Nat.le_refl _) (bp.av bh),us++[bU 13],?_⟩
   rw[List.range_succ,List.map_append]
   simpa using qe
 ·simp at a3
  obtain rfl:i=n:=by omega
  refine cb _ _ _ ?_
  simp[bf]
  exact aD _ _ ⟨bp,us,cR⟩
theorem abC{l:List Int}{n:Nat}{w:Int}:m7 n (uR l n n w):=by
 refine⟨by simp[uR],fun i ab=>?_⟩
 unfold uR
 rw[List.getElem?_map,List.getElem?_range ab]
 exact⟨_,rfl,by simp⟩
theorem abD{n:Nat}{w:Int}{i k:Nat}(ab:i<n)(ah:k<n):dH (uR [] n n w) i k=0:=by
 unfold uR dH
 rw[List.getElem?_map,List.getElem?_range ab]
 simp[ah]
theorem j7.next{n:Nat}{L vp:List (List Int)}{aM:List (Rat×List Int)}{jg c:Int}{to:List Int}(h:j7 n L aM jg)(ao:m7 n vp)(Yk:gb n to)(ag:0<=c)
  (he:∀i k,i<n->k<n->dH vp i k=dH L i k+if to[i]?=some (k:Int)then c else 0):j7 n vp (aM++[(((c:Int):Rat),to)]) (jg+c):=by
 refine⟨ao,fun i k ab ah=>?_,?_,fun p aK=>?_⟩
 ·rw[he i k ab ah,Rat.intCast_add,h.sum i k ab ah,HN]
  congr 1
  simp only[en,gi]
  by_cases aq:to[i]?=some (k:Int)
  ·rw[if_pos aq,if_pos aq];exact(Rat.add_zero _).symm
  ·rw[if_neg aq,if_neg aq];exact(Rat.add_zero _).symm
 ·rw[HM,h.len,Rat.intCast_add]
  simp only[dJ]
  rw[Rat.add_zero]
 ·rw[List.mem_append]at aK
  rcases aK with aK | aK
  ·exact h.parts p aK
  ·simp at aK
   subst aK
   exact⟨Rat.intCast_nonneg.2 ag,Yk⟩
end Go.cl
end
section
set_option maxRecDepth 8000
set_option maxHeartbeats 1000000
namespace Go.cl
open Go.Proofs
open Go.Proofs.Tryz (prog)
attribute [-simp] gk hq iM
attribute [-simp] pT
instance:bM qG:=⟨fun h _=>h⟩
abbrev kU(H:ad)(v:Value)(l:List Nat):Prop:=Row 5 1 false qG H v l
instance:bM kU:=⟨fun h J=>bM.ext (ae:=Row 5 1 false qG) h J⟩
theorem ado{v w:Value}{P:List (List Nat)}{C:List Nat}{a:Nat}{H:ad}(hA:Row 61 1 false kU H v P)(pY:kU H w C)(aL:a<256)(ys:0<H.length):
  aX prog 7 [v,w,.int .u8 a] H (fun u H1=>Ext H H1/\u= .bool true):=by
 refine aX.cc fun Q aD=>?_
 obtain⟨kq,Gv⟩:∃r,r=a % 8:=⟨_,rfl⟩
 obtain⟨n,aF⟩:∃n,n=kq+1:=⟨_,rfl⟩
 have h2:1<=n:=by omega
 have mL:n<=8:=by omega
 have b3:IntKind.i64.wrap (a:Int)=a:=b2 (by omega) (by omega)
 have cM:(a:Int).tmod 8=(kq:Int):=by rw[Gv];exact(Int.ofNat_tmod a 8).symm
 have d_:IntKind.i64.wrap ((kq:Int)+1)=(n:Int):=by rw[b2 (by omega) (by omega)];omega
 have oI:IntKind.i64.wrap ((n:Int)-1)=(kq:Int):=by rw[b2 (by omega) (by omega)];omega
 have El:IntKind.u8.wrap (kq:Int)=(kq:Int):=by
  have h:∀r:Fin 8,IntKind.u8.wrap ((r.val:Nat):Int)=((r.val:Nat):Int):=by decide
  exact h ⟨kq,by omega⟩
 apply ZJ (by simp)
 simp only[Kb]
 refine bV.ft fun cy cb=>?_
 simp
 refine cb _ _ _ ?_
 clear cb
 refine bV.ft fun cy cb=>?_
 simp[b3,cM,d_]
 refine cb _ _ _ ?_
 clear cb
 refine bV.ft fun cy cb=>?_
 simp[oI,El]
 refine aY.mk (abB (l:=[]) (a:=kq) (b:=kq) (w:=1) (Row.nil _ _ _ _ _) (by omega) (by omega) (by decide) (by decide) ys) ?_
 rw[show kq % 8+1=n by omega,show(1:Int)+1=2 by decide]
 rintro Iv H1 ⟨bp,us,Vz⟩
 have sb:=j7.zero (abC (l:=[]) (n:=n) (w:=2)) fun i k ab ah=>abD ab ah
 simp
 refine cb _ _ _ ?_
 clear cb
 refine bV.ft fun cy cb=>?_
 simp
 refine cb _ _ _ ?_
 clear cb
 refine bV.ft fun cy cb=>?_
 simp
 refine c6.mk (by kernel_rfl) (fun q bU dd aT=>∃p:Nat,q=P.length-p/\p<=P.length/\p<=12/\bU 10= .int .i64 (p:Int)/\Ext H aT/\∃jg:Int,bU 9= .int .i64 jg/\0<=jg/\jg<=50*p/\∃L aM,dZ H.length 34 3 1 false IR aT Iv L us/\j7 n L aM jg) P.length ⟨0,by omega,by omega,by omega,by simp,bp,0,by simp,by omega,by omega,_,_,Vz,sb⟩ ?_
 rintro q bU dd aT ⟨p,rfl,aK,akT,fy,bh,jg,fz,mH,akh,L,aM,qZ,tP⟩ K a4
 simp at fy fz
 have zF:=lh (show p<4611686018427387904 by omega)
 have v8:=bM.ext (ae:=Row _ _ _ kU) hA bh
 have UI:=bM.ext (ae:=kU) pY bh
 simp only[kP]
 refine bV.join (by kernel_rfl) (fun di ev bS=>aT=bS/\di 47= .bool (decide (p<P.length/\p<12))) ?_ ?_
 ·rintro ln eW-
  simp[fy]
  refine cD (ae:=kU) (xs:=P) (by simpa using v8) (by simp) ?_
  by_cases a3:p<P.length
  ·simp[a3,fy]
   exact eW _ _ _ ⟨rfl,by simp[a3];omega⟩
  ·simp[a3]
   exact eW _ _ _ ⟨rfl,by simp[a3]⟩
 rintro di ev bS ⟨rfl,E1⟩
 simp only[g_]at E1
 simp at E1
 simp[E1]
 refine br.mk (fun af=>?_) (fun af=>?_)
 ·simp at af
  have h3:=af.1
  have akW:=af.2
  refine Exists.elim (⟨_,bs h3⟩:∃r,P[p]?=some r) fun row ei=>?_
  have im:=Ext.len bh
  try simp
  refine qv (e:=3) (R:=1) (by simp) (by simp) ?_
  simp
  refine c6.mk (by kernel_rfl) (fun q cQ dQ bT=>∃i:Nat,q=n-i/\i<=n/\cQ 12= .int .i64 (i:Int)/\Ext aT bT/\bB aT.length 3 1 false IR bT (cQ 11) (mR i)) n ⟨0,by omega,by omega,by simp,Ext.refl _,by simpa[mR]using bB.void _ _ _ _ _ _ _⟩ ?_
  rintro q cQ dQ bT ⟨i,rfl,ab,iR,b8,g8⟩ oz g7
  simp at iR g8
  have jh:=lh (show i<4611686018427387904 by omega)
  simp[iR]
  refine br.mk (fun B6=>?_) (fun B6=>?_)
  ·simp at B6
   try simp
   refine rJ (k:=aT.length) (e:=3) (R:=1) (ay:=false) (bI:=8) (z:= .int .i64 0) (ae:=IR) (xs:=mR i) (a:=(i:Int)) (by simpa using g8) (by simp[IR,iR]) (by simpa[iR]using hH _) (by simp) (fun aI dp u y ah h=>h) (by simp) (by simp) (by simp) (by simp) (by simp) (by rfl) (by rfl) (by rfl) (by rfl) (by decide) (by decide) (by decide) (by simp[mR];omega) (by have:=Ext.len b8;omega) ?_
   intro mT v6 dx jw cB sx
   simp[iR,jh]
   refine g7 (n-(i+1)) _ _ _ (by omega) ⟨i+1,rfl,by omega,by simp,cB _ (Nat.le_refl _) b8,?_⟩
   have:mR (i+1)=mR i++[(i:Int)]:=by unfold mR;rw[List.range_succ,List.map_append];rfl
   rw[this]
   simpa using jw
  simp at B6
  have e:i=n:=by omega
  rw[e]at g8
  refine Exists.elim (⟨_,rfl⟩:∃pE,pE=cQ 11) fun pE pg=>?_
  rw[<-pg]at g8
  simp
  refine c6.mk (by kernel_rfl) (fun q fa gJ b7=>∃i:Nat,q=n-i/\i<=n/\fa 13= .int .i64 (i:Int)/\Ext aT b7/\∃dX,bB aT.length 3 1 false IR b7 pE dX/\gb n dX) n ⟨0,by omega,by omega,by simp,b8,mR n,g8,Y6 n⟩ ?_
  rintro q fa gJ b7 ⟨m,rfl,hm,g5,ct,dX,l3,ij⟩ xO l2
  simp at g5
  have CM:=lh (show m<4611686018427387904 by omega)
  have qW:=bM.ext (ae:=Row _ _ _ kU) v8 ct
  simp only[kP]
  refine bV.join (by kernel_rfl) (fun j8 lP dx=>b7=dx/\j8 71= .bool (decide (m<row.length/\m<n))) ?_ ?_
  ·rintro D_ oV-
   simp[g5,fy]
   refine cF (ae:=kU) (xs:=P) (n:=p) (a:=row) (e:=61) (R:=1) (ay:=false) (by simpa using qW) (by simp[fy]) ei (by simp) (by simp) (by simp) (by decide) ?_
   rintro px Ay zx
   try simp
   refine cD (ae:=qG) (xs:=row) (by simpa using zx) (by simp) ?_
   by_cases a3:m<row.length
   ·simp[a3,g5]
    exact oV _ _ _ ⟨rfl,by simp[a3]⟩
   ·simp[a3,g5]
    exact oV _ _ _ ⟨rfl,by simp[a3]⟩
  rintro j8 lP dx ⟨rfl,E4⟩
  simp only[g_]at E4
  simp at E4
  simp[E4]
  refine br.mk (fun yQ=>?_) (fun yQ=>?_)
  ·simp at yQ
   refine Exists.elim (⟨_,bs yQ.1⟩:∃x,row[m]?=some x) fun x J=>?_
   refine Exists.elim (⟨_,rfl⟩:∃gP,gP=x % n) fun gP lA=>?_
   have NP:gP<n:=by rw[lA];exact Nat.mod_lt _ h2
   have jz:¬(n:Int)=0:=by omega
   have Xl:¬n=0:=by omega
   have fs:(x:Int).tmod (n:Int)=(gP:Int):=by rw[lA];exact(Int.ofNat_tmod x n).symm
   refine Exists.elim (ij.dP m yQ.2) fun n9 wJ=>?_
   refine Exists.elim (ij.dP gP NP) fun w2 NN=>?_
   try simp[fy,g5]
   refine cF (ae:=kU) (xs:=P) (n:=p) (a:=row) (e:=61) (R:=1) (ay:=false) (by simpa using qW) (by simp[fy]) ei (by simp) (by simp) (by simp) (by decide) ?_
   rintro px Ay zx
   simp[g5]
   refine cF (ae:=qG) (xs:=row) (n:=m) (a:=x) (e:=5) (R:=1) (ay:=false) (by simpa using zx) (by simp[g5]) J (by simp) (by simp) (by simp) (by decide) ?_
   rintro py u8 ⟨rfl,YV⟩
   have ec:IntKind.i64.wrap (x:Int)=x:=b2 (by omega) (by omega)
   simp[ec,fs,jz,Xl,g5,<-pg]
   refine cF (ae:=IR) (xs:=dX) (n:=gP) (a:=(w2:Int)) (e:=3) (R:=1) (ay:=false) (by simpa[<-pg]using l3.row) (by simp) NN.2 (by simp) (by simp) (by simp) (by decide) ?_
   rintro Dd IF rfl
   simp[g5,<-pg]
   refine cF (ae:=IR) (xs:=dX) (n:=m) (a:=(n9:Int)) (e:=3) (R:=1) (ay:=false) (by simpa[<-pg]using l3.row) (by simp[g5]) wJ.2 (by simp) (by simp) (by simp) (by decide) ?_
   rintro sY Ax rfl
   try simp
   refine ja (k:=aT.length) (e:=3) (R:=1) (ay:=false) (n:=m) (ae:=IR) (xs:=dX) (a:=(w2:Int)) (by simpa[<-pg]using l3) (by simp[g5]) (by rw[ij.len];exact yQ.2) (by simp[IR]) (by simpa using hH _) (by simp) (fun aI dp u y ah h=>h) (by simp) (by simp) (by simp) (by decide) ?_
   rintro uX hR qV e4 WY NS-
   simp[<-pg]at qV
   try simp
   refine ja (k:=aT.length) (e:=3) (R:=1) (ay:=false) (n:=gP) (ae:=IR) (xs:=dX.set m (w2:Int)) (a:=(n9:Int)) (by simpa[<-pg]using qV) (by simp) (by rw[List.length_set,ij.len];exact NP) (by simp[IR]) (by simpa using hH _) (by simp) (fun aI dp u y ah h=>h) (by simp) (by simp) (by simp) (by decide) ?_
   rintro uY gS lx e5 wL B3-
   simp[<-pg]at lx
   simp[g5,CM]
   exact l2 (n-(m+1)) _ _ _ (by omega) ⟨m+1,rfl,by omega,by simp,e5 _ (Nat.le_refl _) (e4 _ (Nat.le_refl _) ct),_,lx,ij.swap wJ.2 NN.2⟩
  ·have MF:=bM.ext (ae:=kU) UI ct
   simp
   refine bV.join (by kernel_rfl) (fun jq j9 cw=>b7=cw/\∃c:Int,jq 15= .int .i64 c/\1<=c/\c<=50) ?_ ?_
   ·rintro I5 sd-
    simp[fy]
    refine cD (ae:=qG) (xs:=C) (by simpa using MF) (by simp) ?_
    simp
    refine br.b_ (fun ma=>?_) (fun ma=>?_)
    ·have Gb:p<C.length:=by omega
     refine Exists.elim (⟨_,bs Gb⟩:∃x,C[p]?=some x) fun x J=>?_
     simp[fy]
     refine cF (ae:=qG) (xs:=C) (n:=p) (a:=x) (e:=5) (R:=1) (ay:=false) (by simpa using MF) (by simp[fy]) J (by simp) (by simp) (by simp) (by decide) ?_
     rintro py u8 ⟨rfl,YV⟩
     have ec:IntKind.i64.wrap (x:Int)=x:=b2 (by omega) (by omega)
     refine Exists.elim (⟨_,rfl⟩:∃y,y=x % 50) fun y aP=>?_
     have fs:(x:Int).tmod 50=(y:Int):=by rw[aP];exact(Int.ofNat_tmod x 50).symm
     have hP:IntKind.i64.wrap ((y:Int)+1)=(y:Int)+1:=b2 (by omega) (by omega)
     simp[ec,fs,hP]
     exact sd _ _ _ ⟨rfl,(y:Int)+1,by simp,by omega,by omega⟩
    ·exact sd _ _ _ ⟨rfl,1,by simp,by omega,by omega⟩
   rintro jq j9 cw ⟨rfl,c,r9,l7,ni⟩
   simp only[g_]at r9
   simp at r9
   have ng:IntKind.i64.wrap (jg+c)=jg+c:=b2 (by omega) (by omega)
   simp[r9,fz,ng]
   have tW:=qZ.ext ct
   have akz:=Ext.len ct
   refine c6.mk (by kernel_rfl) (fun q kR m3 dW=>∃i:Nat,q=n-i/\i<=n/\kR 16= .int .i64 (i:Int)/\Ext H dW/\bB aT.length 3 1 false IR dW pE dX/\∃oB,dZ H.length 34 3 1 false IR dW Iv oB us/\m7 n oB/\∀a b,a<n->b<n->dH oB a b=dH L a b+if a<i/\dX[a]?=some (b:Int)then c else 0) n ⟨0,by omega,by omega,by simp,bh.av ct,l3,L,tW,tP.u0,fun a b aL af=>by rw[if_neg (by omega)];omega⟩ ?_
   rintro q kR m3 dW ⟨fC,rfl,fV,pX,cH,eJ,oB,wc,GG,Ff⟩ Sf Fc
   simp at pX
   have YL:=lh (show fC<4611686018427387904 by omega)
   simp[pX]
   refine br.mk (fun um=>?_) (fun um=>?_)
   ·simp at um
    refine Exists.elim (ij.dP fC um) fun n_ nV=>?_
    refine Exists.elim (GG.get (i:=fC) (k:=n_) um nV.1) fun jH al=>?_
    refine Exists.elim (wc.pC al.1) fun ti hu=>?_
    have se:=Ff fC n_ um nV.1
    rw[if_neg (by omega)]at se
    have hle:=tP.le um nV.1
    have CK:IntKind.i64.wrap (dH oB fC n_+c)=dH oB fC n_+c:=b2 (by omega) (by omega)
    try simp[pX]
    refine cF (ae:=ga) (xs:=us) (n:=fC) (a:=ti) (e:=34) (R:=1) (ay:=false) (by simpa using wc.own.row) (by simp[pX]) hu.1 (by simp) (by simp) (by simp) (by decide) ?_
    rintro Dd IF rfl
    simp[pX,<-pg]
    refine cF (ae:=IR) (xs:=dX) (n:=fC) (a:=(n_:Int)) (e:=3) (R:=1) (ay:=false) (by simpa[<-pg]using eJ.row) (by simp[pX]) nV.2 (by simp) (by simp) (by simp) (by decide) ?_
    rintro sY Ax rfl
    try simp
    refine cF (ae:=IR) (xs:=jH) (n:=n_) (a:=dH oB fC n_) (e:=3) (R:=1) (ay:=false) (by simpa using hu.2.row) (by simp) al.2.2 (by simp) (by simp) (by simp) (by decide) ?_
    rintro uX qy rfl
    simp[r9,CK]
    refine ja (k:=H.length) (e:=3) (R:=1) (ay:=false) (n:=n_) (ae:=IR) (xs:=jH) (a:=dH oB fC n_+c) (by simpa using hu.2) (by simp) (by rw[al.2.1];exact nV.1) (by simp[IR]) (by simpa using hH _) (by simp) (fun aI dp u y ah h=>h) (by simp) (by simp) (by simp) (by decide) ?_
    rintro uY gS lx e5 wL B3-
    simp at lx wL
    simp[pX,YL]
    refine Fc (n-(fC+1)) _ _ _ (by omega) ⟨fC+1,rfl,by omega,by simp,e5 _ (Nat.le_refl _) cH,eJ.beside (by omega) wL (fun b aG af cZ=>?_) (fun _ _ h=>h),oB.set fC (jH.set n_ (dH oB fC n_+c)),wc.inner hu.1 (by decide) wL lx (fun _ _ h=>h),GG.set (by rw[List.length_set];exact al.2.1),fun a b aL af=>?_⟩
    ·have o:=(eJ.ge af aG).1
     have aa:=qZ.lt _ _ _ hu.1 cZ aG
     omega
    ·rw[L4 al.1 (by rw[al.2.1];exact nV.1)]
     by_cases nf:a=fC/\b=n_
     ·obtain⟨rfl,rfl⟩:=nf
      rw[if_pos ⟨rfl,rfl⟩,if_pos ⟨by omega,nV.2⟩,se]
      omega
     ·rw[if_neg nf,Ff a b aL af]
      congr 1
      by_cases yM:a<fC
      ·have bn:(a<fC/\dX[a]?=some (b:Int))↔(a<fC+1/\dX[a]?=some (b:Int)):=⟨fun h=>⟨by omega,h.2⟩,fun h=>⟨yM,h.2⟩⟩
       simp only[bn]
      ·rw[if_neg fun h=>yM h.1,if_neg]
       rintro⟨o,aa⟩
       have:a=fC:=by omega
       subst this
       rw[nV.2]at aa
       have:=Option.some.inj aa
       exact nf ⟨rfl,by omega⟩
   ·simp at um
    have c0:fC=n:=by omega
    simp[fy,zF]
    refine a4 (P.length-(p+1)) _ _ _ (by omega) ⟨p+1,rfl,by omega,by omega,by simp,cH,jg+c,by simp,by omega,by omega,oB,_,wc,tP.next GG ij (by omega) fun a b aL af=>?_⟩
    rw[Ff a b aL af,c0]
    congr 1
    have bn:(a<n/\dX[a]?=some (b:Int))↔dX[a]?=some (b:Int):=⟨fun h=>h.2,fun h=>⟨aL,h⟩⟩
    simp only[bn]
 ·refine cb _ _ _ ?_
  clear cb
  have Nk:jg<=1000:=by omega
  have MW:=tP.level h2 mL Nk
  have v3:=MW.1
  have lz:=MW.2
  have an:=v3.1
  have wg:L.length=n:=tP.u0.1
  have iE:gr aT Iv L:=qZ.row
  have M8:=(tP.valid h2 mL Nk).2
  have dq:L.length<65536/\∀r∈L,r.length<65536:=⟨by omega,fun r al=>by rw[an.len r al];omega⟩
  refine bV.ft fun cy cb=>?_
  simp
  refine aY.mk (adn iE dq.1 dq.2) ?_
  rintro pG bT ⟨b8,-,lD⟩
  refine Exists.elim (lD v3) fun cW h=>Exists.elim h fun aR h=>?_
  have fT:=h.1
  subst fT
  have iX:=h.2.1
  have eZ:=h.2.2.1
  have MZ:=h.2.2.2
  rw[wg]at eZ
  have gp:=tP.ky h2 eZ
  have hlen:aR.length<65536:=by
   have:=eZ.1
   unfold nB at this
   have aa:(n-1)*(n-1)<=7*7:=Nat.mul_le_mul (by omega) (by omega)
   omega
  have qY:=bM.ext (ae:=gr) iE b8
  simp
  refine cb _ _ _ ?_
  clear cb
  refine bV.ft fun cy cb=>?_
  simp
  refine aY.mk (abG qY dq.1 dq.2 iX (fun q aq=>⟨by have:=(eZ.2.1 q aq).1;omega,by have:=MZ q aq;omega⟩) (fun q aq=>by rw[(eZ.2.1 q aq).2.1];omega) hlen) ?_
  rintro mX b7 ⟨ct,-,sJ⟩
  refine Exists.elim (sJ v3) fun aiM Nf=>?_
  have nO:=Nf.1
  subst nO
  have V9:=Nf.2.2 (by rw[wg];exact eZ)
  subst V9
  have BG:=bM.ext (ae:=gr) qY ct
  have X6:=bM.ext (ae:=Row _ _ _ gu) iX ct
  simp
  refine cb _ _ _ ?_
  clear cb
  refine bV.ft fun cy cb=>?_
  simp
  refine aY.mk (Ll (Row.w1 BG) dq.1 dq.2) ?_
  rintro va dx ⟨cB,GS,-⟩
  have oP:=GS an
  rw[lz]at oP
  subst oP
  have M7:=bM.ext (ae:=gr) BG cB
  have X7:=bM.ext (ae:=Row _ _ _ gu) X6 cB
  simp
  refine cb _ _ _ ?_
  clear cb
  refine bV.ft fun cy cb=>?_
  simp
  refine aY.mk (Qe (Row.w1 M7) dq.1 dq.2) ?_
  rintro Ay cw ⟨ch,YB,-⟩
  refine Exists.elim (YB an) fun DX h=>Exists.elim h fun lb cf=>?_
  have L3:=cf.1
  subst L3
  have a7:=vs.mk' an cf.2.1 cf.2.2.1
  have X0:Row 93 2 true eO cw DX (jI lb):=cf.2.2.2
  have tU:=bM.ext (ae:=gr) M7 ch
  have Oy:=bM.ext (ae:=Row _ _ _ gu) X7 ch
  simp
  refine cb _ _ _ ?_
  clear cb
  refine bV.ft fun cy cb=>?_
  simp only[kP]
  refine bV.join (by kernel_rfl) (fun kR m3 dW=>Ext cw dW/\kR 200= .bool false) ?_ ?_
  ·rintro c5 dB-
   simp
   refine aY.mk (abF tU v3 Oy hlen) ?_
   rintro _ dW ⟨cH,Sr,rfl,yR⟩
   have FK:=yR.2 (by rw[wg];exact eZ)
   subst FK
   have yB:=bM.ext (ae:=gr) tU cH
   have Gx:=bM.ext (ae:=Row _ _ _ eO) X0 cH
   simp[fz]
   refine xw (e:=27) (R:=1) (ay:=false) (z:= .slice none 0 0) (ae:=Row 93 2 true eO) (a:=jI lb) (fun aI J=>by simpa using bM.ext (ae:=Row 93 2 true eO) Gx J) (by simpa using agL Gx) (by simp) (by simp) (by simp) (by rfl) (by rfl) (by rfl) (by decide) (by decide) ?_
   intro agH eH ki c_
   have sh:=bM.ext (ae:=gr) yB c_
   have X1:=bM.ext (ae:=Row _ _ _ eO) Gx c_
   simp
   refine aY.mk (Tk (eY:=[jI lb]) sh an ki.row (by simpa using a7.bytes) (by simpa using fun a b h=>(a7.short _ h).1) (by simp) (by have:=a7.Bl;simp;omega) (by simpa using fun a b h=>⟨(a7.ok _ h).1.1,(a7.ok _ h).1.2.2⟩)) ?_
   rintro _ ku ⟨fq,aiL,rfl,V6⟩
   have V7:=V6.2 (fun i k ab ah=>by
    have e:([jI lb]:List (List (List Nat×List Int))).flatten=jI lb:=by simp
    rw[e,a7.parts]
    exact a7.sum i k ab ah)
   subst V7
   have XZ:=bM.ext (ae:=Row _ _ _ eO) X1 fq
   simp
   refine aY.mk (abi XZ a7.bytes (fun p aK=>(a7.short p aK).1) (by have:=a7.Bl;omega) (fun p aK=>(a7.one p aK).1)) ?_
   have h3:dJ (parts (jI lb))=((jg:Int):Rat):=by rw[a7.parts,a7.len,lz]
   rw[h3]
   rintro RR hR ⟨e4,GX⟩
   simp[fz]
   refine aY.mk (A4 (n:=jg) (by omega) (by omega)) ?_
   rintro DW gS ⟨e5,zC⟩
   simp
   refine aY.mk (Le (N:=5) (q:=((jg:Int):Rat)) (x:=jg) (GX.ext e5) zC (by rw[Rat.num_intCast];exact b6.i64 (by omega) (by omega)) (by rw[Rat.den_intCast];exact b6.small (by decide) (by decide)) (b6.i64 (by omega) (by omega)) (b6.small (by decide) (by decide)) (by decide)) ?_
   rintro _ j_ ⟨gX,z,rfl,aQ⟩
   have iJ:=aQ.2 rfl
   subst iJ
   simp
   refine aY.mk abn ?_
   rintro _ ka ⟨hD,rfl⟩
   simp
   exact dB _ _ _ ⟨cH.av (c_.av (fq.av (e4.av (e5.av (gX.av hD))))),by simp⟩
  rintro kR m3 dW ⟨cH,EY⟩
  simp only[g_]at EY
  simp at EY
  simp[EY]
  refine cb _ _ _ ?_
  clear cb
  have nv:=bh.av (b8.av (ct.av (cB.av (ch.av cH))))
  have Oz:=bM.ext (ae:=Row _ _ _ gu) Oy cH
  refine bV.ft fun cy cb=>?_
  simp
  refine cb _ _ _ ?_
  clear cb
  refine bV.ft fun cy cb=>?_
  simp
  refine c6.mk (by kernel_rfl) (fun q lO m4 eH=>∃s:Nat,q=aR.length-s/\s<=aR.length/\lO 28= .int .i64 (s:Int)/\dW=eH/\lO 27= .int .i64 (ky (aR.take s))) aR.length ⟨0,by omega,by omega,by simp,rfl,by simp[ky]⟩ ?_
  rintro q lO m4 eH ⟨s,rfl,ao,qR,rfl,yk⟩ I6 yt
  simp at qR yk
  have k9:=lh (show s<4611686018427387904 by omega)
  simp[qR]
  refine cD (ae:=gu) (xs:=aR) (by simpa using Oz) (by simp) ?_
  simp[qR]
  refine br.mk (fun iW=>?_) (fun iW=>?_)
  ·simp at iW
   refine Exists.elim (⟨_,bs iW⟩:∃x,aR[s]?=some x) fun x J=>?_
   have zK:=List.mem_of_getElem? J
   have c4:=LH (aR:=aR.take s) fun q aq=>(eZ.2.1 q (List.mem_of_mem_take aq)).1
   have c9:=(eZ.2.1 x zK).1
   have j4:=MZ x zK
   have HC:=LH (aR:=aR.drop s) fun q aq=>(eZ.2.1 q (List.mem_of_mem_drop aq)).1
   have abW:=LG (aR.take s) (aR.drop s)
   rw[List.take_append_drop,gp]at abW
   have ng:IntKind.i64.wrap (ky (aR.take s)+x.1)=ky (aR.take s)+x.1:=b2 (by omega) (by omega)
   try simp[qR,yk]
   refine Iy (aR:=aR) (n:=s) (a:=x) (by simpa using Oz) (by simp[qR]) J (by simp) ?_
   intro sY aly
   simp[yk,ng,qR,k9]
   refine yt (aR.length-(s+1)) _ _ _ (by omega) ⟨s+1,rfl,by omega,by simp,rfl,?_⟩
   rw[List.take_add_one,J,LG]
   simp[ky]
  ·simp at iW
   have e:s=aR.length:=by omega
   rw[e,List.take_of_length_le (Nat.le_refl _),gp]at yk
   refine cb _ _ _ ?_
   simp[yk,fz,bf]
   exact aD _ _ ⟨nv,rfl⟩
end Go.cl
end
section
set_option maxRecDepth 8000
set_option maxHeartbeats 1000000
namespace Go.cl
open Go.Proofs
open Go.Proofs.Tryz (prog)
open Go.RowKit
theorem iO.RI{w:World}{H:Type}{enc:TypeId×Value->H}:iO w (pP H enc w 61) false kU:=
 iO.slice (by rfl) (by rfl) (.inr rfl) (by decide) (by rfl) (by rfl) iO.u8
theorem iO.agw{w:World}{H:Type}{enc:TypeId×Value->H}:iO w (pP H enc w 60) false (Row 61 1 false kU):=
 iO.slice (t:=60) (e:=61) (by rfl) (by rfl) (.inr rfl) (by decide) (by rfl) (by rfl) iO.RI
theorem adp{w:World}{H:Type}{enc:TypeId×Value->H}{x y z:Value}(aG:pP H enc w 60 [x])(o:pP H enc w 61 [y])(aa:pP H enc w 5 [z]):
  Calls prog 7 #[x,y,z] w fun e g1=>e= .returned (.bool true)/\Below w.heap.size w g1:=by
 obtain⟨bD,Ea,xp,a,dh,gZ,fP,ho⟩:=iO.agw _ aG _ _ oC.start
 obtain⟨nG,Eb,s1,b,aU,aO,bw,cj⟩:=iO.RI _ o _ _ dh
 obtain⟨anH,I7,s2,c,ec,fs,hP,mo,xj⟩:=iO.u8 _ aa _ _ aU
 obtain⟨v0,rfl⟩:=fP.single
 obtain⟨v1,rfl⟩:=bw.single
 obtain⟨v2,rfl⟩:=hP.single
 have i0:=lR.app (ae:=Row 61 1 false kU) (N:=I7) (lR.app (ae:=Row 61 1 false kU) (N:=Eb) ho)
 have i1:=lR.app (ae:=kU) (N:=I7) cj
 change Row 61 1 false kU _ v0 a at i0
 change kU _ v1 b at i1
 obtain rfl:v2=_:=mo
 obtain⟨AX,jg,rfl⟩:=Row.len i0
 obtain⟨b3,cx,rfl⟩:=Row.len i1
 exact agI ec ((cX.ext fs ((cX.ext aO fP).append bw)).append hP) (by kernel_rfl) (ado i0 i1 xj ec.1.pos)
end Go.cl
end
section
namespace Go.Proofs.YtoiodfcefbapkaaGreat.shopBirkhoff
open Go.ChangeShapes Go.WideShapes Go.ChangeAt Go.RowKit
theorem own:ownKnob Tryz.prog.godebug=none:=by kernel_rfl
theorem laidOut:laidOutB Tryz.prog=true:=by kernel_rfl
set_option maxRecDepth 100000 in
theorem lifted(os:Os)(started:os.Started)(H:Type)(enc:TypeId×Value->H):
  ReturnsInHanded {} Tryz.checked os 7 .any (Rows.shopBirkhoffSpec.pre6 enc Tryz.prog Tryz.f7 Rows.shopBirkhoffRow.domain false) (Rows.shopBirkhoffSpec.post enc Tryz.prog Tryz.f7 false true false false):=by
 refine returnsInHanded_of_change (C:=Tryz.checked) own started (by kernel_rfl) Tryz.func7
  (ChangeSpec.witness6 (enc:=enc) (C:=Tryz.checked) false ⟨#[], #[.slice none 0 0,.slice none 0 0,.int .u8 0],[]⟩ 8 (by kernel_rfl) (by kernel_rfl) (by kernel_rfl) (by kernel_rfl)) ?_
 intro W base args a0 gs before OP wm akl _
 have hk:∀(j:Nat) t v,Tryz.f7.params[j]?=some t->args[j]?=some v->Value.okWide Tryz.prog W .any base t v:=OP
 have VP:=wm
 obtain⟨p,q,ym,oY,rfl,Ny,mM⟩:=wm
 have bE:DataW.TrodAll enc Tryz.prog W 0 (fun _=>true) true Tryz.f7.params.toList args.toList a0 p:=ym
 rw[Tryz.params7]at bE hk
 obtain⟨v0,anp,d0,ajP,HJ,HU,aka,rfl,rfl,aG,eF⟩:=trodAll_cons bE
 obtain⟨v1,anq,d1,ajQ,dh,aU,akb,rfl,rfl,o,ec⟩:=trodAll_cons eF
 obtain⟨v2,anr,d2,ajR,gZ,aO,akc,rfl,rfl,aa,fs⟩:=trodAll_cons ec
 obtain⟨rfl,rfl,rfl⟩:=trodAll_nil fs
 obtain rfl:args= #[v0,v1,v2]:=by cases args;simp_all
 obtain⟨rfl,rfl⟩:=trodVars_none oY
 obtain⟨AX,CZ,ai6,rfl⟩:=okWide_slice Tryz.underlying60 (hk 0 60 v0 rfl rfl)
 obtain⟨b3,alj,x7,rfl⟩:=okWide_slice Tryz.underlying61 (hk 1 61 v1 rfl rfl)
 obtain⟨cM,rfl⟩:=okWide_int Tryz.underlying5 (hk 2 5 v2 rfl rfl)
 have gP:=aG
 have j2:=o
 have k_:=aa
 have abo:∀x∈HJ,x.block<W.heap.size:=by obtain⟨m,hm⟩:=gP;exact DataW.trod_lt m _ _ _ hm
 have abp:∀x∈dh,x.block<W.heap.size:=by obtain⟨m,hm⟩:=j2;exact DataW.trod_lt m _ _ _ hm
 have abq:∀x∈gZ,x.block<W.heap.size:=by obtain⟨m,hm⟩:=k_;exact DataW.trod_lt m _ _ _ hm
 obtain⟨Un,hV⟩:=aG
 obtain⟨Uo,bn⟩:=o
 obtain⟨Up,bj⟩:=aa
 simp only[Value.cells]at hV bn bj
 clear ym OP
 refine(cl.adp (H:=H) (enc:=enc) ⟨Un,_,hV⟩ ⟨Uo,_,bn⟩ ⟨Up,_,bj⟩).mono fun e ain ⟨he,A2⟩=>?_
 subst he
 exact⟨_,rfl,_,_,_,[],_,[],VP,trodAll_mk1 (shut_bool Tryz.underlying4 _),(trodAll_cons_mk (Below.trod laidOut (by kernel_rfl) (of_decide_eq_true (by kernel_rfl)) gP A2 abo) (trodAll_cons_mk (Below.trod laidOut (by kernel_rfl) (of_decide_eq_true (by kernel_rfl)) j2 A2 abp) (trodAll_cons_mk (Below.trod laidOut (by kernel_rfl) (of_decide_eq_true (by kernel_rfl)) k_ A2 abq) trodAll_mk0))),rfl,A2.frame _,fun h=>by cases h⟩
theorem over:Rows.shopBirkhoffRow.holds Tryz.pinned (OpenSpec.ofChange Rows.shopBirkhoffSpec):=
 OpenClaim.holds_of_wide 7 Tryz.f7 rfl rfl rfl rfl rfl rfl rfl ⟨rfl,rfl,rfl,rfl,rfl⟩ rfl rfl rfl rfl rfl (by kernel_rfl) Tryz.func7 (by kernel_rfl)
  (of_decide_eq_true (by kernel_rfl)) (by unfold Func.isWrapper;first | (rw[if_pos (by decide+kernel)];kernel_rfl) | (rw[if_neg (by decide+kernel)];exact⟨rfl,rfl⟩))
  (fun os started H enc _=>lifted os started H enc)
theorem proved:Rows.ShopBirkhoffSaid:=over
end Go.Proofs.YtoiodfcefbapkaaGreat.shopBirkhoff
end
