/- ShopTurned returns true for every input and leaves it as it was: no condition. -/
import Derived.Test.YtoiodfcefbapkaaGreatShopTurnedJ
set_option linter.unusedVariables false
set_option linter.unusedSimpArgs false
section
set_option maxRecDepth 8000
set_option maxHeartbeats 1000000
namespace Go.cW
open Go.Proofs
open Go.Proofs.Tryz (prog)
open Go.RowKit
class lC {α:Type} (af:ab->Value->α->Prop):Prop where
 app:∀{H N:ab} {v:Value} {x:α},af H v x->af (H++N) v x
theorem eo.app{H N:ab}{e U n:Nat}{v:Value}{cs:List Value}(h:eo H e U v n cs):eo (H++N) e U v n cs:=by
 obtain⟨a,cap,o,aa,aB,bs⟩:=h
 refine⟨a,cap,o,aa,aB,fun ae=>?_⟩
 obtain⟨b,i,X,all,aY,a3,bN⟩:=bs ae
 exact⟨b,i,X,all,aY,by rw[List.getElem?_append_left (cH.1 a3).1];exact a3,bN⟩
instance{α:Type}{e U:Nat}{aC:Bool}{af:ab->Value->α->Prop}[lC af]:lC (Row e U aC af):=⟨fun⟨cs,o,aa⟩=>⟨cs,o.app,fun i x ad=>lC.app (aa i x ad)⟩⟩
instance:lC IR:=⟨fun h=>h⟩
def tQ(aC:Bool)(cs:List Value):Value:=if aC=true then .agg cs.toArray else cs[0]?.getD undef
def oI(H:Type)(enc:TypeId×Value->H)(w:World)(t:TypeId)(cs:List Value):Prop:=∃fuel x,DataW.trod enc prog w 0 (fun _=>true) true fuel t cs=some x
def nH(w:World)(ah:bg)(H:ab):Prop:=cl prog w.heap.size ah H w/\∀b,¬hM H b
def iu{α:Type}(w:World)(rd:List Value->Prop)(aC:Bool)(af:ab->Value->α->Prop):Prop:=
 ∀cs,rd cs->∀ah H,nH w ah H->∃bu N Jq x,nH w bu (H++N)/\(∀b k,ah b=some k->bu b=some k)/\cK bu Jq cs/\af (H++N) (tQ aC Jq) x
theorem cK.one{ah:bg}{v au:Value}(h:bl ah v au):cK ah [v] [au]:=⟨rfl,fun i x y J aK=>by
 match i with
 | 0=>simp at J aK;subst J aK;exact h
 | n+1=>simp at J⟩
theorem iu.flat{α:Type}{w:World}{rd:List Value->Prop}{af:ab->Value->α->Prop}(h:∀cs,rd cs->∃v au x,cs=[au]/\(∀ah,bl ah v au)/\∀H,af H v x):iu w rd false af:=fun cs ae ah H ds=>by
 obtain⟨v,au,x,rfl,o,aa⟩:=h cs ae
 exact⟨ah,[],[v],x,by simpa using ds,fun _ _ h=>h,cK.one (o ah),aa _⟩
theorem iu.int{w:World}{H:Type}{enc:TypeId×Value->H}:iu w (oI H enc w 3) false IR:=iu.flat fun cs ⟨fuel,x,h⟩=>by
 obtain⟨n,rfl,-⟩:=DataW.trod_int (k:= .i64) (by rfl) h
 exact⟨_,_,n,rfl,fun ah=> .int _ _,fun H=>rfl⟩
theorem iu.many{α:Type}{w:World}{rd:List Value->Prop}{aC:Bool}{af:ab->Value->α->Prop}[lC af](h:iu w rd aC af):∀(L:List (List Value)),(∀cs∈L,rd cs)->∀ah H,nH w ah H->
  ∃(bu:bg) (N:ab) (M:List (List Value)) (xs:List α),nH w bu (H++N)/\(∀b k,ah b=some k->bu b=some k)/\M.length=L.length/\xs.length=L.length/\∀(i:Nat) (c:List Value),L[i]?=some c->∃cn x,M[i]?=some cn/\xs[i]?=some x/\cK bu cn c/\af (H++N) (tQ aC cn) x
 | [],_,ah,H,ds=>⟨ah,[],[],[],by simpa using ds,fun _ _ h=>h,rfl,rfl,fun i c h=>by simp at h⟩
 | a::L,ey,ah,H,ds=>by
  obtain⟨bu,Ck,cn,yW,da,gB,fC,g8⟩:=h a (ey a (by simp)) ah H ds
  obtain⟨mO,Cl,M,xs,aY,a3,bN,ck,eU⟩:=iu.many h L (fun c ae=>ey c (by simp[ae])) bu (H++Ck) da
  refine⟨mO,Ck++Cl,cn::M,yW::xs,by rw[<-List.append_assoc];exact aY,fun b k ag=>a3 b k (gB b k ag),by simp[bN],by simp[ck],fun i c ae=>?_⟩
  match i with
  | 0=>
   simp at ae
   subst ae
   exact⟨cn,yW,rfl,rfl,cK.ext a3 fC,by rw[<-List.append_assoc];exact lC.app g8⟩
  | n+1=>
   obtain⟨cD,qm,ee,fF,hW,lq⟩:=eU n c (by simpa using ae)
   exact⟨cD,qm,by simpa using ee,by simpa using fF,hW,by rw[<-List.append_assoc];exact lq⟩
theorem nH.snoc{w:World}{ah:bg}{H:ab}(h:nH w ah H){e:TypeId}{inf:TypeInfo}{b R:Nat}{cs eC:List Value}(ad:(prog).info? e=some inf)(ag:b<w.heap.size)(ds:cK ah cs eC)
  (DQ:∀i v,eC[i]?=some v->w.cell? ⟨b,R+i,none⟩=some v):
  ∃bu,nH w bu (H++[.ro e cs])/\(∀c k,ah c=some k->bu c=some k)/\bu H.length=some ⟨b,R,0,inf.size,false⟩:=by
 obtain⟨bM,g5⟩:=h
 have a5:∀c k,ah c=some k->c<H.length:=fun c k ae=>(bM.eP c k ae).2
 have m5:∀c k,ah c=some k->(fun c=>if c=H.length then some (⟨b,R,0,inf.size,false⟩:iI)else ah c) c=some k:=fun c k ae=>by
  have:=a5 c k ae
  show(if c=H.length then _ else _)=_
  rw[if_neg (by omega)]
  exact ae
 have LG:∀c,¬hM (H++[.ro e cs]) c:=by
  rintro c ⟨cX,l,eC,h⟩
  rcases Nat.lt_or_ge c H.length with ae | ae
  ·rw[List.getElem?_append_left ae]at h
   exact g5 c ⟨cX,l,eC,h⟩
  ·rw[List.getElem?_append_right ae]at h
   match av:c-H.length with
   | 0=>rw[av]at h;simp at h
   | n+1=>rw[av]at h;simp at h
 refine⟨fun c=>if c=H.length then some ⟨b,R,0,inf.size,false⟩else ah c,⟨⟨by simp,Nat.le_refl _,fun c k ae=>?_,fun c k y ae aK=>?_,fun c dT k cb _ _ _ aM=>absurd aM (LG c)⟩,LG⟩,m5,by simp⟩
 ·have a2:=bM.pos
  split at ae
  ·next av=>subst av;simp;exact a2
  ·have:=bM.eP c k ae
   simp
   omega
 ·split at ae
  ·next av=>
   subst av
   obtain rfl:=Option.some.inj ae
   rw[List.getElem?_append_right (Nat.le_refl _),Nat.sub_self]at aK
   obtain rfl:=Option.some.inj aK
   refine .ro ad rfl (fun i v an=>?_) ag
   have cC:=(cH.1 an).1
   have dJ:=bB (l:=eC) (i:=i) (by rw[<-ds.1];exact cC)
   exact⟨_,DQ i _ dJ,(ds.2 i _ _ an dJ).ext m5⟩
  ·have:=a5 c k ae
   rw[List.getElem?_append_left this]at aK
   exact(bM.e8 c k y ae aK).gA m5 (fun _=>rfl) (Nat.le_refl _)
theorem QA{w:World}{a:Addr}{v:Value}(h:w.cell? a=some v):a.block<w.heap.size:=by
 rcases Nat.lt_or_ge a.block w.heap.size with o | o
 ·exact o
 ·unfold World.cell? at h
  rw[Array.getElem?_eq_none o]at h
  simp at h
theorem QC{w:World}{x:Addr}{n:Nat}{cs:List Value}(aG:0<n)(ar:cs.length=n)(h:∀i v,cs[i]?=some v->w.cell? (x.add i)=some v):x.spot=none/\x.block<w.heap.size/\∀i v,cs[i]?=some v->w.cell? ⟨x.block,x.off+i,none⟩=some v:=by
 have aI:=h 0 _ (bB (by omega))
 have hs:x.add 0=x:=by simp[Addr.add]
 rw[hs]at aI
 have sN:=World.cell?_spot aI
 refine⟨sN,QA aI,fun i v ad=>?_⟩
 have:=h i v ad
 obtain⟨b,R,s⟩:=x
 simp only at sN
 subst sN
 by_cases Ai:i=0
 ·subst Ai;simpa[Addr.add]using this
 ·simpa[Addr.add,Ai]using this
theorem r9{L:List (List Value)}{n:Nat}(h:∀c∈L,c.length=n):L.flatten.length=L.length*n:=by
 induction L with
 | nil=>simp
 | cons a L a0=>
  rw[List.flatten_cons,List.length_append,a0 fun c ae=>h c (by simp[ae]),h a (by simp),List.length_cons,Nat.succ_mul,Nat.add_comm]
theorem JW{L:List (List Value)}{n:Nat}(h:∀c∈L,c.length=n){i:Nat}{c:List Value}(ad:L[i]?=some c):(L.flatten.drop (i*n)).take n=c:=by
 induction L generalizing i with
 | nil=>simp at ad
 | cons a L a0=>
  have aO:=h a (by simp)
  match i with
  | 0=>
   simp at ad
   subst ad
   rw[List.flatten_cons,Nat.zero_mul,List.drop_zero,List.take_append_of_le_length (by omega),List.take_of_length_le (by omega)]
  | m+1=>
   rw[List.flatten_cons,show(m+1)*n=a.length+m*n by rw[aO,Nat.succ_mul,Nat.add_comm],List.drop_append,List.drop_of_length_le (by omega),List.nil_append,Nat.add_sub_cancel_left]
   exact a0 (fun c ae=>h c (by simp[ae])) (by simpa using ad)
theorem CX{L:List (List Value)}{n:Nat}(h:∀c∈L,c.length=n){q:Nat}{v:Value}(an:L.flatten[q]?=some v):∃i j c,L[i]?=some c/\c[j]?=some v/\j<n/\q=i*n+j:=by
 have av:=(cH.1 an).1
 rw[r9 h]at av
 have aG:0<n:=by exact Nat.pos_of_ne_zero fun aI=>by subst aI;simp at av
 have ad:q/n<L.length:=(Nat.div_lt_iff_lt_mul aG).2 av
 have aW:=Nat.mod_lt q aG
 have oc:q=(q/n)*n+q % n:=by rw[Nat.mul_comm];exact(Nat.div_add_mod q n).symm
 have ds:=bB ad
 refine⟨q/n,q % n,_,ds,?_,aW,oc⟩
 have:=JW h ds
 rw[<-this,List.getElem?_take_of_lt aW,List.getElem?_drop,<-oc]
 exact an
theorem Addr.add_add(a:Addr)(i j:Nat):(a.add i).add j=a.add (i+j):=Go.Deep.add_add a i j
theorem iu.slice{α:Type}{w:World}{vZ:Type}{enc:TypeId×Value->vZ}{t e:TypeId}{U:Nat}{aC:Bool}{af:ab->Value->α->Prop}[lC af]{inf:TypeInfo}(bO:(prog).underlying t=some (.slice e))(c7:(prog).cellsOf e=U)(o:aC=true\/U=1)(aI:0<U)
  (ad:(prog).info? e=some inf)(ao:inf.size=U)(h:iu w (oI vZ enc w e) aC af):iu w (oI vZ enc w t) false (Row e U aC af):=by
 rintro cs ⟨fuel,x,J⟩ ah H ds
 rcases Go.Deep.open_slice bO J with⟨rfl,_⟩ | ⟨a,len,cap,m,n,D,aft,rfl,_,ar,hm,UX,_,DW⟩
 ·exact⟨ah,[],[.slice none 0 0],[],by simpa using ds,fun _ _ h=>h,cK.one .rn,Row.nil _ _ _ _ _⟩
 ·have ahU:m=cap:=by simpa using UX
  by_cases aN:len=0
  ·subst aN
   have ag:=ds.1.pos
   exact⟨ah,[],[.slice (some ⟨1,0,none⟩) 0 0],[],by simpa using ds,fun _ _ h=>h,cK.one (.empty (by decide) _ _),[],eo.void _ _ _ _,fun i x h=>by simp at h⟩
  ·obtain⟨g,aU⟩:=Go.Deep.choose_lt (α:=List Value) (n:=len) (p:=fun i c=>w.cells? 0 (a.add (i*U)) U=some c/\oI vZ enc w e c) fun i ad=>by
    obtain⟨c,aY,a3⟩:=DW i (by omega)
    rw[c7]at aY
    exact⟨c,aY,_,_,a3⟩
   obtain⟨L,Kx⟩:∃L,L=(List.range len).map g:=⟨_,rfl⟩
   have KA:L.length=len:=by rw[Kx];simp
   have Ky:∀i c,L[i]?=some c->i<len/\c=g i:=fun i c ae=>by
    have cC:=(cH.1 ae).1
    rw[Kx,List.getElem?_map,List.getElem?_range (by omega)]at ae
    exact⟨by omega,(Option.some.inj ae).symm⟩
   have hh:∀c∈L,c.length=U/\oI vZ enc w e c:=fun c ae=>by
    obtain⟨i,ad⟩:=List.mem_iff_getElem?.1 ae
    obtain⟨aY,rfl⟩:=Ky i c ad
    obtain⟨ee,fF⟩:=aU i aY
    exact⟨(World.cells?_some ee).2.1,fF⟩
   obtain⟨bu,N,M,xs,da,gB,fC,g8,iD⟩:=iu.many h L (fun c ae=>(hh c ae).2) ah H ds
   have Dl:∀i cn,M[i]?=some cn->∃c x,L[i]?=some c/\xs[i]?=some x/\cK bu cn c/\af (H++N) (tQ aC cn) x:=fun i cn ae=>by
    have cC:=(cH.1 ae).1
    have Kz:=bB (l:=L) (i:=i) (by omega)
    obtain⟨cD,qm,ee,fF,hW,lq⟩:=iD i _ Kz
    rw[ae]at ee
    obtain rfl:=Option.some.inj ee
    exact⟨_,qm,Kz,fF,hW,lq⟩
   have uh:∀c∈M,c.length=U:=fun c ae=>by
    obtain⟨i,ad⟩:=List.mem_iff_getElem?.1 ae
    obtain⟨cD,qm,ee,fF,hW,-⟩:=Dl i c ad
    rw[hW.1]
    exact(hh cD (List.mem_of_getElem? ee)).1
   have zW:∀c∈L,c.length=U:=fun c ae=>(hh c ae).1
   have Dj:cK bu M.flatten L.flatten:=by
    refine⟨by rw[r9 uh,r9 zW,fC],fun q v au an dJ=>?_⟩
    obtain⟨i,j,c,aY,a3,bN,ck⟩:=CX uh an
    obtain⟨jK,eb,dT,Bw,ZD,ZE,ZF⟩:=CX zW dJ
    have D2:i=jK:=by
     have bm:(i*U+j)/U=i:=by rw[Nat.mul_comm,Nat.mul_add_div aI,Nat.div_eq_of_lt bN];rfl
     have bk:(jK*U+eb)/U=jK:=by rw[Nat.mul_comm,Nat.mul_add_div aI,Nat.div_eq_of_lt ZE];rfl
     rw[<-bm,<-bk,<-ck,<-ZF]
    subst D2
    obtain rfl:j=eb:=by omega
    obtain⟨cD,qm,ee,fF,hW,-⟩:=Dl i c aY
    rw[Bw]at ee
    obtain rfl:=Option.some.inj ee
    exact hW.2 j v au a3 ZD
   have kp:∀q v,L.flatten[q]?=some v->w.cell? (a.add q)=some v:=fun q v an=>by
    obtain⟨i,j,c,aY,a3,bN,rfl⟩:=CX zW an
    obtain⟨ee,rfl⟩:=Ky i c aY
    have fF:=(World.cells?_some (aU i ee).1).2.2 j bN
    rw[Addr.add_add]at fF
    rw[fF,a3]
   have uS:L.flatten.length=len*U:=by rw[r9 zW,KA]
   obtain⟨sN,n1,gn⟩:=QC (x:=a) (n:=len*U) (Nat.mul_pos (by omega) aI) uS kp
   obtain⟨mO,s1,s2,l6⟩:=da.snoc (e:=e) ad n1 Dj gn
   obtain⟨afy,afH,afP⟩:=a
   simp only at sN
   subst sN
   have TA:=bl.slice (i:=0) (len:=len) (cap:=cap) (dD:=cap) l6 (by omega) ar (Nat.le_refl _) (fun _=>rfl) (fun h=>by cases h)
   refine⟨mO,N++[.ro e M.flatten],[.slice (some ⟨(H++N).length,0,none⟩) len cap],xs,by rw[<-List.append_assoc];exact s1,fun b k ag=>s2 b k (gB b k ag),cK.one (by simpa using TA),?_⟩
   rw[<-List.append_assoc]
   refine⟨M.flatten,⟨_,cap,by simp[tQ,g8,KA],by omega,by rw[r9 uh,fC,g8],fun _=>⟨_,0,_,_,rfl,List.getElem?_concat_length,rfl,rfl,?_,?_⟩⟩,fun i y aK=>?_⟩
   ·rw[r9 uh,fC,g8];omega
   ·rw[List.drop_zero,List.take_of_length_le (by rw[r9 uh,fC,g8];omega)]
   ·have cC:=(cH.1 aK).1
    have KC:=bB (l:=M) (i:=i) (by omega)
    obtain⟨cD,qm,ee,fF,hW,lq⟩:=Dl i _ KC
    rw[aK]at fF
    obtain rfl:=Option.some.inj fF
    have bm:ev aC U M.flatten i=tQ aC M[i]:=by
     have n5:=JW uh KC
     unfold ev tQ
     rcases o with rfl | rfl
     ·rw[if_pos rfl,if_pos rfl,n5]
     ·cases aC with
      | true=>rw[if_pos rfl,if_pos rfl,n5]
      | false=>
       rw[if_neg (by decide),if_neg (by decide),<-n5,List.getElem?_take_of_lt (by decide),List.getElem?_drop]
       simp
    rw[bm]
    exact lC.app lq
theorem nH.start{w:World}:nH w (fun _=>none) [.dead]:=
 ⟨⟨by simp,Nat.le_refl _,(fun b k h=>by cases h),(fun b k x h=>by cases h),fun b ct k cb h=>by cases h⟩,by
  rintro b ⟨e,l,cs,h⟩
  match b with
  | 0=>simp at h
  | n+1=>simp at h⟩
theorem Step.below{ah bu:bg}{H H1:ab}{w a7:World}(h:Step ah H w bu H1 a7)(g5:∀b,¬hM H b):Below w.heap.size w a7:=
 ⟨h.os,h.tape,h.output,h.size,fun g aU=>h.frame g aU fun b k _ aM=>absurd aM (g5 b)⟩
theorem Y2:(prog).follows .mixedOrders=true:=by kernel_rfl
def P5(H:ab)(v:Value)(l:List Nat):Prop:=v= .string (cg l)/\Bytes l
instance:lC P5:=⟨fun h=>h⟩
def P4(H:ab)(v:Value)(p:List Nat×List Int):Prop:=eK H v p/\Bytes p.1
instance:lC P4:=⟨fun⟨⟨a,n,c,h,o⟩,ag⟩=>⟨⟨a,n,c,h,lC.app o⟩,ag⟩⟩
theorem Qz{f:FuncId}{args:List Value}{H:ab}{Q:Value->ab->Prop}(aG:(match dy prog (callFunc f args.toArray)with | some (.value _)=>true | _=>false)=false)(h:aP prog f args H Q):∃v H1,dX prog (.call f args H) (.val v H1)/\Q v H1:=by
 obtain⟨v,H1,⟨-,al⟩ | ⟨⟨-,-,al⟩,-⟩,av⟩:=h
 ·exact⟨v,H1,al,av⟩
 ·rw[al]at aG
  cases aG
theorem adP{w:World}{f:FuncId}{args k0:List Value}{ah:bg}{H:ab}(ds:nH w ah H)(bx:cK ah args k0)(aG:(match dy prog (callFunc f args.toArray)with | some (.value _)=>true | _=>false)=false)
  (h:aP prog f args H fun v H1=>Ext H H1/\v= .bool true):Calls prog f k0.toArray w fun e gD=>e= .returned (.bool true)/\Below w.heap.size w gD:=by
 obtain⟨u,H1,bo,J,rfl⟩:=Qz aG h
 refine(Z5 Y2 bo (k0:=k0.toArray) (by simpa using bx) ds.1).mono fun e gD he=>?_
 obtain⟨au,bu,rfl,an,-,dd⟩:=he
 cases an
 exact⟨rfl,dd.below ds.2⟩
theorem cK.single{ah:bg}{l:List Value}{v:Value}(h:cK ah l [v]):∃u,l=[u]:=by
 match l,h.1 with
 | [u],_=>exact⟨u,rfl⟩
end Go.cW
end
section
set_option maxRecDepth 8000
set_option maxHeartbeats 1000000
namespace Go.cW
open Go.Proofs
open Go.Proofs.Tryz (prog)
attribute [-simp] hF iq ka
theorem R8{v n:Int}{H:ab}(aG:0<n)(lX:n<1000000):aP prog 55 [.int .i64 v,.int .i64 n] H (fun u H1=>H1=H/\u= .int .i64 (v % n)):=by
 refine aP.b9 fun Q aD=>?_
 apply Xe (by simp)
 have jI:¬n=0:=by omega
 have o:=Int.tmod_lt_of_pos v aG
 have aa: -n<v.tmod n:=by
  have:=Int.tmod_lt_of_pos (-v) aG
  rw[Int.neg_tmod]at this
  omega
 have aB:IntKind.i64.wrap (v.tmod n+n)=v.tmod n+n:=b7 (by omega) (by omega)
 have bs:(v.tmod n+n).tmod n=v % n:=by
  rw[Int.tmod_eq_emod_of_nonneg (by omega),Int.add_emod_right]
  have bJ:=Int.mul_tdiv_add_tmod v n
  have dP:v.tmod n=v-n*v.tdiv n:=by omega
  rw[dP,Int.sub_mul_emod_self_left]
 simp[HV,jI,aB,bs,bd]
 exact aD _ _ ⟨rfl,rfl⟩
def ot(l:List Int)(n m:Nat)(w:Int):List (List Int):=(List.range n).map fun i=>(List.range m).map fun k=>match l[i*m+k]? with
 | some x=>x % w
 | none=>0
theorem YV{v:Value}{l:List Int}{a b:Nat}{w:Int}{H:ab}(ed:dO H v l)(aO:a<256)(ag:b<256)(hw:0<=w)(jq:w<10000):
  aP prog 24 [v,.int .u8 a,.int .u8 b,.int .i64 w] H (fun u H1=>Ext H H1/\hn H1 u (ot l (a % 8+1) (b % 8+1) (w+1))):=by
 refine aP.b9 fun Q aD=>?_
 obtain⟨n,aG⟩:∃n,n=a % 8+1:=⟨_,rfl⟩
 obtain⟨m,hm⟩:∃m,m=b % 8+1:=⟨_,rfl⟩
 rw[<-aG,<-hm]at aD
 obtain⟨vA,Vv⟩:∃r,r=a % 8:=⟨_,rfl⟩
 obtain⟨Oa,Vw⟩:∃r,r=b % 8:=⟨_,rfl⟩
 have b1:IntKind.i64.wrap (a:Int)=a:=b7 (by omega) (by omega)
 have cA:(a:Int).tmod 8=(vA:Int):=by rw[Vv];exact(Int.ofNat_tmod a 8).symm
 have eB:IntKind.i64.wrap ((vA:Int)+1)=(n:Int):=by rw[b7 (by omega) (by omega)];omega
 have gN:IntKind.i64.wrap (b:Int)=b:=b7 (by omega) (by omega)
 have kj:(b:Int).tmod 8=(Oa:Int):=by rw[Vw];exact(Int.ofNat_tmod b 8).symm
 have r1:IntKind.i64.wrap ((Oa:Int)+1)=(m:Int):=by rw[b7 (by omega) (by omega)];omega
 have a7:IntKind.i64.wrap (w+1)=w+1:=b7 (by omega) (by omega)
 have LD:n<=8:=by omega
 have Av:m<=8:=by omega
 apply Xg (by simp)
 simp only[HX]
 refine ca.kP fun dk ff=>?_
 simp
 refine ff _ _ _ ?_
 clear ff
 refine ca.kP fun dk ff=>?_
 simp[b1,cA,eB,gN,kj,r1]
 refine ff _ _ _ ?_
 clear ff
 refine ca.kP fun dk ff=>?_
 simp
 refine qg (e:=34) (U:=1) (by simp) (by simp) ?_
 simp
 refine ff _ _ _ ?_
 clear ff
 obtain⟨cell,kp⟩:∃cell:Nat->Nat->Int,cell=fun i k=>match l[i*m+k]? with
  | some x=>x % (w+1)
  | none=>0:=⟨_,rfl⟩
 have US:ot l n m (w+1)=(List.range n).map fun i=>(List.range m).map (cell i):=by rw[kp];rfl
 rw[US]at aD
 refine ca.kP fun dk ff=>?_
 simp
 refine dm.mk (by kernel_rfl) (fun q ay bD H1=>∃i:Nat,q=n-i/\i<=n/\ay 12= .int .i64 (i:Int)/\Ext H H1/\bH H.length 34 1 false dO H1 (ay 11) ((List.range i).map fun i=>(List.range m).map (cell i))) n ⟨0,by omega,by omega,by simp,Ext.refl _,by simpa using bH.void _ _ _ _ _ _ _⟩ ?_
 rintro q ay bD H1 ⟨i,rfl,ad,nR,bw,cy⟩ K aX
 simp at nR cy
 have Dg:=b3.ext (af:=dO) ed bw
 have iC:=nC (show i<4611686018427387904 by omega)
 simp[nR]
 refine bt.mk (fun a5=>?_) (fun a5=>?_)
 ·simp at a5
  refine qg (e:=3) (U:=1) (by simp) (by simp) ?_
  simp
  have Lq:=Ext.len bw
  refine dm.mk (by kernel_rfl) (fun q bR c5 aR=>∃k:Nat,q=m-k/\k<=m/\bR 14= .int .i64 (k:Int)/\Ext H1 aR/\bH H1.length 3 1 false IR aR (bR 13) ((List.range k).map (cell i))) m ⟨0,by omega,by omega,by simp,Ext.refl _,by simpa using bH.void _ _ _ _ _ _ _⟩ ?_
  rintro q bR c5 aR ⟨k,rfl,ak,wG,bf,fR⟩ cV dw
  simp at wG fR
  have nh:=nC (show k<4611686018427387904 by omega)
  have uf:=b3.ext (af:=dO) Dg bf
  have oY:i*m<=7*8:=Nat.mul_le_mul (by omega) Av
  refine Exists.elim (⟨_,rfl⟩:∃y,y=i*m) fun y aK=>?_
  have bm:IntKind.i64.wrap ((i:Int)*(m:Int))=(y:Int):=by
   have:(i:Int)*(m:Int)=(y:Int):=by rw[aK];simp
   rw[this,b7 (by omega) (by omega)]
  have bk:IntKind.i64.wrap ((y:Int)+(k:Int))=((y+k:Nat):Int):=by rw[b7 (by omega) (by omega)];omega
  simp[wG,nR]
  refine bt.mk (fun u1=>?_) (fun u1=>?_)
  ·simp at u1
   simp
   refine ca.join (by kernel_rfl) (fun dt ez bP=>bP=aR/\dt 15= .int .i64 (cell i k)) ?_ ?_
   ·rintro mg fA-
    simp[wG,nR,bm,bk]
    refine cP (af:=IR) (xs:=l) (by simpa using uf) (by simp) ?_
    by_cases hlen:y+k<l.length
    ·have J:=bB hlen
     refine Exists.elim (⟨_,J⟩:∃x,l[y+k]?=some x) fun x J=>?_
     have sB:(y:Int)+(k:Int)<(l.length:Int):=by omega
     simp[hlen,sB,wG,nR,bm,bk]
     refine cY (af:=IR) (xs:=l) (n:=y+k) (a:=x) (e:=3) (U:=1) (aC:=false) (by simpa using uf) (by simp) J (by simp) (by simp) (by simp) (by decide) ?_
     rintro iD mL u_
     obtain rfl:mL= .int .i64 x:=u_
     simp[a7]
     refine aV.mk (R8 (by omega) (by omega)) ?_
     rintro _ _ ⟨rfl,rfl⟩
     simp
     refine fA _ _ _ ⟨rfl,?_⟩
     rw[kp]
     simp[<-aK,J]
    ·have sB:¬(y:Int)+(k:Int)<(l.length:Int):=by omega
     simp[hlen,sB]
     refine fA _ _ _ ⟨rfl,?_⟩
     rw[kp]
     simp[<-aK,List.getElem?_eq_none (show l.length<=y+k by omega)]
   rintro dt ez bP ⟨rfl,C5⟩
   simp only[ik]at C5
   simp at C5
   simp[C5]
   refine qh (k:=H1.length) (e:=3) (U:=1) (aC:=false) (bI:=8) (z:= .int .i64 0) (af:=IR) (xs:=(List.range k).map (cell i)) (a:=cell i k) (by simpa using fR) (by simp[IR]) (by simpa using kd _) (by simp) (fun aH dz u y ak h=>h) (by simp) (by simp) (by simp) (by simp) (by simp) (by rfl) (by rfl) (by rfl) (by rfl) (by decide) (by decide) (by decide) (by simp;omega) (by have:=Ext.len bf;omega) ?_
   intro ns v6 dN jA cI sA
   simp[wG,nh]
   refine dw (m-(k+1)) _ _ _ (by omega) ⟨k+1,rfl,by omega,by simp,cI _ (Nat.le_refl _) bf,?_⟩
   rw[List.range_succ,List.map_append]
   simpa using jA
  ·simp at u1
   obtain rfl:k=m:=by omega
   have gO:=fR.row
   have gx:=b3.ext (af:=bH _ _ _ _ dO) cy bf
   simp
   refine qh (k:=H.length) (e:=34) (U:=1) (aC:=false) (bI:=24) (z:= .slice none 0 0) (af:=dO) (xs:=(List.range i).map fun i=>(List.range k).map (cell i)) (a:=(List.range k).map (cell i)) (by simpa using gx) (by simpa using gO) (by simpa using dO.whole gO) (by simp) (fun aH dz u y ak h=>h.kept ak (by decide)) (by simp) (by simp) (by simp) (by simp) (by simp) (by rfl) (by rfl) (by rfl) (by rfl) (by decide) (by decide) (by decide) (by simp;omega) (by have:=Ext.len bf;omega) ?_
   intro p8 tm cU ia cw lb
   simp[nR,iC]
   refine aX (n-(i+1)) _ _ _ (by omega) ⟨i+1,rfl,by omega,by simp,cw _ (Nat.le_refl _) (bw.aw bf),?_⟩
   rw[List.range_succ,List.map_append]
   simpa using ia
 ·simp at a5
  obtain rfl:i=n:=by omega
  refine ff _ _ _ ?_
  simp[bd]
  exact aD _ _ ⟨bw,cy.row⟩
end Go.cW
end
section
set_option maxRecDepth 8000
set_option maxHeartbeats 1000000
namespace Go.cW
theorem Nk{l:List Int}{n m:Nat}{w:Int}:(ot l n m w).length=n:=by simp[ot]
theorem Nl{l:List Int}{n m:Nat}{w:Int}(aG:0<n):((ot l n m w)[0]?.getD []).length=m:=by
 unfold ot
 rw[List.getElem?_map,List.getElem?_range aG]
 simp
theorem YW{l:List Int}{n m:Nat}{w:Int}(aI:0<w)(hw:w<=1001)(aG:1<=n)(LD:n<=8)(hm:1<=m)(Av:m<=8):eT (ot l n m w)/\∀r∈ot l n m w,∀x∈r,0<=x/\x<w:=by
 have key:∀r∈ot l n m w,r.length=m/\∀x∈r,0<=x/\x<w:=fun r al=>by
  unfold ot at al
  rw[List.mem_map]at al
  obtain⟨i,-,rfl⟩:=al
  refine⟨by simp,fun x J=>?_⟩
  rw[List.mem_map]at J
  obtain⟨k,-,rfl⟩:=J
  split
  ·exact⟨Int.emod_nonneg _ (by omega),Int.emod_lt_of_pos _ aI⟩
  ·omega
 refine⟨vQ.2 ⟨by rw[Nk];omega,fun r al=>?_⟩,fun r al=>(key r al).2⟩
 rw[Nl aG,(key r al).1]
 exact⟨⟨rfl,hm,Av⟩,fun x J=>by have:=(key r al).2 x J;omega⟩
theorem eT.get{t:List (List Int)}(an:eT t){i k:Nat}(ad:i<t.length)(ak:k<(t[0]?.getD []).length):∃r x,t[i]?=some r/\r∈t/\r[k]?=some x/\x∈r/\lJ t i k=x/\0<=x/\x<=1000:=by
 have al:=bB ad
 have hm:=List.getElem_mem ad
 have ar:=an.len _ hm
 have J:=bB (l:=t[i]) (i:=k) (by omega)
 have MQ:=List.getElem_mem (l:=t[i]) (n:=k) (by omega)
 refine⟨_,_,al,hm,J,MQ,?_,((vQ.1 an).2 _ hm).2 _ MQ⟩
 unfold lJ
 rw[al]
 simp[J]
theorem CD{t:List (List Int)}(an:eT t):gj t.length (t[0]?.getD []).length (cF t)=(((fV t).1:Int):Rat):=(BT (t:=t) rfl rfl an.small (by have:=an.2.1;omega)).1
theorem I7{t:List (List Int)}(an:eT t){L:Int}(o:∀i,i<t.length->bX (t[0]?.getD []).length (bU (cF t) i)<=((L:Int):Rat))(aa:∀k,k<(t[0]?.getD []).length->bX t.length (fun i=>bU (cF t) i k)<=((L:Int):Rat)):(fV t).1<=L:=by
 have:=aaY (vx rfl an.len) an.1 an.2.2.1 o aa
 rw[CD an]at this
 exact Rat.intCast_le_intCast.1 this
theorem I8{t:List (List Int)}(an:eT t){i:Nat}(ad:i<t.length):bX (t[0]?.getD []).length (bU (cF t) i)<=(((fV t).1:Int):Rat):=by
 rw[<-CD an];exact Gb (vx rfl an.len) ad
theorem I6{t:List (List Int)}(an:eT t){k:Nat}(ak:k<(t[0]?.getD []).length):bX t.length (fun i=>bU (cF t) i k)<=(((fV t).1:Int):Rat):=by
 rw[<-CD an];exact F_ (vx rfl an.len) ak
theorem yJ{m:Nat}{t:List (List Int)}:(fM m t).length=m:=by simp[fM]
theorem yK{m:Nat}{t:List (List Int)}(hm:0<m):((fM m t)[0]?.getD []).length=t.length:=by
 unfold fM
 rw[List.getElem?_map,List.getElem?_range hm]
 simp
theorem JI{t:List (List Int)}{m i k:Nat}(ak:k<m)(ad:i<t.length):lJ (fM m t) k i=lJ t i k:=by
 unfold lJ fM
 rw[List.getElem?_map,List.getElem?_range ak,bB ad]
 simp[ad]
theorem eT.eS{t:List (List Int)}(an:eT t):eT (fM (t[0]?.getD []).length t):=by
 have h:=an
 obtain⟨o,aa,aB,bs,-⟩:=h
 refine vQ.2 ⟨by rw[yJ];omega,fun r al=>?_⟩
 rw[yK aB]
 unfold fM at al
 rw[List.mem_map]at al
 obtain⟨k,ak,rfl⟩:=al
 refine⟨⟨by simp,by simpa using o,by simpa using aa⟩,fun x J=>?_⟩
 rw[List.mem_map]at J
 obtain⟨r,al,rfl⟩:=J
 have ar:=an.len r al
 have jZ:k<r.length:=by rw[ar];simpa using ak
 rw[bB jZ]
 exact((vQ.1 an).2 r al).2 _ (List.getElem_mem jZ)
theorem I9{t u:List (List Int)}(an:eT t)(hu:eT u)(bm:u.length=(t[0]?.getD []).length)(bk:(u[0]?.getD []).length=t.length)(h:∀i k,i<t.length->k<(t[0]?.getD []).length->lJ u k i=lJ t i k):(fV u).1<=(fV t).1:=by
 have av:∀i k,i<t.length->k<(t[0]?.getD []).length->bU (cF u) k i=bU (cF t) i k:=fun i k ad ak=>by
  rw[pd,pd]
  exact congrArg _ (h i k ad ak)
 refine I7 hu (fun k ak=>?_) fun i ad=>?_
 ·rw[bk,hE fun i ad=>av i k ad (by omega)]
  exact I6 an (by omega)
 ·rw[bm,hE fun k ak=>av i k (by omega) ak]
  exact I8 an (by omega)
theorem eT.aa7{t:List (List Int)}(an:eT t):(fV (fM (t[0]?.getD []).length t)).1=(fV t).1:=by
 have aB:=an.2.2.1
 refine Int.le_antisymm (I9 an an.eS yJ (yK aB) fun i k ad ak=>JI ak ad) ?_
 refine I9 an.eS an (by rw[yK aB]) yJ.symm fun k i ak ad=>?_
 rw[yJ]at ak
 rw[yK aB]at ad
 exact(JI ak ad).symm
theorem eT.drop{t:List (List Int)}(an:eT t)(h:1<t.length):eT (t.drop 1)/\((t.drop 1)[0]?.getD []).length=(t[0]?.getD []).length:=by
 have e:((t.drop 1)[0]?.getD []).length=(t[0]?.getD []).length:=by
  rw[List.getElem?_drop,bB h]
  exact an.len _ (List.getElem_mem h)
 refine⟨vQ.2 ⟨by rw[List.length_drop];have:=an.2.1;omega,fun r al=>?_⟩,e⟩
 rw[e]
 exact(vQ.1 an).2 r (List.mem_of_mem_drop al)
theorem aaP{n:Nat}{f:Nat->Rat}:bX (n+1) f=f 0+bX n (fun i=>f (i+1)):=by
 induction n with
 | zero=>simp[bX];grind
 | succ n a0=>
  rw[bX,a0]
  simp only[bX]
  grind
theorem eT.Rx{t:List (List Int)}(an:eT t)(h:1<t.length):(fV (t.drop 1)).1<=(fV t).1:=by
 obtain⟨aA,e⟩:=an.drop h
 have av:∀i k,bU (cF (t.drop 1)) i k=bU (cF t) (i+1) k:=fun i k=>by
  rw[pd,pd,List.getElem?_drop,Nat.add_comm 1 i]
 refine I7 aA (fun i ad=>?_) fun k ak=>?_
 ·rw[e,hE fun k _=>av i k]
  rw[List.length_drop]at ad
  exact I8 an (by omega)
 ·rw[hE fun i _=>av i k]
  refine Rat.le_trans ?_ (I6 an (k:=k) (by omega))
  obtain⟨n,aG⟩:∃n,t.length=n+1:=⟨t.length-1,by omega⟩
  rw[List.length_drop,aG,Nat.add_sub_cancel,aaP]
  obtain⟨r,x,-,-,-,-,J,aI,-⟩:=an.get (i:=0) (k:=k) (by omega) (by omega)
  have:0<=bU (cF t) 0 k:=by
   rw[pd]
   have fP:(((t[0]?.getD [])[k]?.getD 0:Int):Rat)=((x:Int):Rat):=congrArg _ J
   rw[fP]
   exact Rat.intCast_nonneg.2 aI
  grind
end Go.cW
end
section
set_option maxRecDepth 8000
set_option maxHeartbeats 1000000
namespace Go.cW
open Go.Proofs
open Go.Proofs.Tryz (prog)
attribute [-simp] hF iq ka
attribute [-simp] qB
theorem aar{v:Value}{l:List Int}{a b:Nat}{H:ab}(ed:dO H v l)(aO:a<256)(ag:b<256):
  aP prog 5 [v,.int .u8 a,.int .u8 b] H (fun u H1=>Ext H H1/\u= .bool true):=by
 refine aP.b9 fun Q aD=>?_
 obtain⟨n,aG⟩:∃n,n=a % 8+1:=⟨_,rfl⟩
 obtain⟨m,hm⟩:∃m,m=b % 8+1:=⟨_,rfl⟩
 obtain⟨T,bc⟩:∃T,T=ot l n m 1001:=⟨_,rfl⟩
 have an:eT T:=by rw[bc];exact(YW (by decide) (by decide) (by omega) (by omega) (by omega) (by omega)).1
 have sl:T.length=n:=by rw[bc,Nk]
 have w3:(T[0]?.getD []).length=m:=by rw[bc,Nl (by omega)]
 have lW:1<=n:=by omega
 have m9:1<=m:=by omega
 have LD:n<=8:=by omega
 have Av:m<=8:=by omega
 obtain⟨FN,L5⟩:∃p,T[0]?=some p:=⟨_,bB (show 0<T.length by omega)⟩
 have gR:FN.length=m:=by rw[<-w3,L5];rfl
 obtain⟨qy,ea⟩:∃qy,qy=fM m T:=⟨_,rfl⟩
 have lP:eT qy:=by rw[ea,<-w3];exact an.eS
 have ux:qy.length=m:=by rw[ea,yJ]
 have Tv:(qy[0]?.getD []).length=n:=by rw[ea,yK (by omega),sl]
 have sm:(fV qy).1=(fV T).1:=by rw[ea,<-w3];exact an.aa7
 apply Xd (by simp)
 simp only[HU]
 refine ca.kP fun dk ff=>?_
 simp
 refine ff _ _ _ ?_
 clear ff
 refine ca.kP fun dk ff=>?_
 simp
 refine aV.mk (YV ed aO ag (by decide) (by decide)) ?_
 simp only[<-aG,<-hm,show(1000:Int)+1=1001 by decide,<-bc]
 rintro a7 H1 ⟨bw,k7⟩
 simp
 refine ff _ _ _ ?_
 clear ff
 refine ca.kP fun dk ff=>?_
 simp
 refine qg (e:=34) (U:=1) (by simp) (by simp) ?_
 simp
 refine ff _ _ _ ?_
 clear ff
 refine ca.kP fun dk ff=>?_
 simp
 refine dm.mk (by kernel_rfl) (fun q ay bD aR=>∃k:Nat,q=m-k/\k<=m/\ay 9= .int .i64 (k:Int)/\Ext H1 aR/\bH H1.length 34 1 false dO aR (ay 8) ((List.range k).map fun k=>T.map fun r=>r[k]?.getD 0)) m ⟨0,by omega,by omega,by simp,Ext.refl _,by simpa using bH.void _ _ _ _ _ _ _⟩ ?_
 rintro q ay bD aR ⟨k,rfl,ak,ej,bf,cy⟩ K aX
 simp at ej cy
 have hx:=b3.ext (af:=hn) k7 bf
 have nh:=nC (show k<4611686018427387904 by omega)
 simp[ej]
 refine cY (af:=dO) (xs:=T) (n:=0) (a:=FN) (e:=34) (U:=1) (aC:=false) (by simpa using hx) (by simp) L5 (by simp) (by simp) (by simp) (by decide) ?_
 rintro fC ph nd
 try simp
 refine cP (af:=IR) (xs:=FN) (by simpa using nd) (by simp) ?_
 simp only[gR]
 simp[ej]
 refine bt.mk (fun a5=>?_) (fun a5=>?_)
 ·simp at a5
  try simp
  refine qg (e:=3) (U:=1) (by simp) (by simp) ?_
  simp
  refine dm.mk (by kernel_rfl) (fun q bR c5 bP=>∃i:Nat,q=n-i/\i<=n/\bR 11= .int .i64 (i:Int)/\Ext aR bP/\bH aR.length 3 1 false IR bP (bR 10) ((T.take i).map fun r=>r[k]?.getD 0)) n ⟨0,by omega,by omega,by simp,Ext.refl _,by simpa using bH.void _ _ _ _ _ _ _⟩ ?_
  rintro q bR c5 bP ⟨i,rfl,ad,jf,bG,gx⟩ mg fA
  simp at jf gx
  have ib:=b3.ext (af:=hn) hx bG
  have iC:=nC (show i<4611686018427387904 by omega)
  simp[jf]
  refine cP (af:=dO) (xs:=T) (by simpa using ib) (by simp) ?_
  simp only[sl]
  simp[jf]
  refine bt.mk (fun Aq=>?_) (fun Aq=>?_)
  ·simp at Aq
   refine Exists.elim (an.get (i:=i) (k:=k) (by omega) (by omega)) fun r al=>Exists.elim al fun y al=>?_
   have q8:=al.1
   have na:=al.2.2.1
   try simp[jf]
   refine cY (af:=dO) (xs:=T) (n:=i) (a:=r) (e:=34) (U:=1) (aC:=false) (by simpa using ib) (by simp[jf]) q8 (by simp) (by simp) (by simp) (by decide) ?_
   rintro iD mL u_
   simp[ej]
   refine cY (af:=IR) (xs:=r) (n:=k) (a:=y) (e:=3) (U:=1) (aC:=false) (by simpa using u_) (by simp[ej]) na (by simp) (by simp) (by simp) (by decide) ?_
   rintro ns vM va
   obtain rfl:vM= .int .i64 y:=va
   try simp
   refine qh (k:=aR.length) (e:=3) (U:=1) (aC:=false) (bI:=8) (z:= .int .i64 0) (af:=IR) (xs:=(T.take i).map fun r=>r[k]?.getD 0) (a:=y) (by simpa using gx) (by simp[IR]) (by simpa using kd _) (by simp) (fun aH dz u y ak h=>h) (by simp) (by simp) (by simp) (by simp) (by simp) (by rfl) (by rfl) (by rfl) (by rfl) (by decide) (by decide) (by decide) (by simp;omega) (by have:=Ext.len bG;omega) ?_
   intro p8 tm cU ia cw lb
   simp[jf,iC]
   refine fA (n-(i+1)) _ _ _ (by omega) ⟨i+1,rfl,by omega,by simp,cw _ (Nat.le_refl _) bG,?_⟩
   rw[List.take_add_one,q8,List.map_append]
   simpa[na]using ia
  ·simp at Aq
   obtain rfl:i=n:=by omega
   rw[List.take_of_length_le (by simp;omega)]at gx
   have m1:=gx.row
   have kH:=b3.ext (af:=bH _ _ _ _ dO) cy bG
   simp
   refine qh (k:=H1.length) (e:=34) (U:=1) (aC:=false) (bI:=24) (z:= .slice none 0 0) (af:=dO) (xs:=(List.range k).map fun k=>T.map fun r=>r[k]?.getD 0) (a:=T.map fun r=>r[k]?.getD 0) (by simpa using kH) (by simpa using m1) (by simpa using dO.whole m1) (by simp) (fun aH dz u y ak h=>h.kept ak (by decide)) (by simp) (by simp) (by simp) (by simp) (by simp) (by rfl) (by rfl) (by rfl) (by rfl) (by decide) (by decide) (by decide) (by simp;omega) (by have:=Ext.len bf;have:=Ext.len bG;omega) ?_
   intro p8 tm cU ia cw lb
   simp[ej,nh]
   refine aX (m-(k+1)) _ _ _ (by omega) ⟨k+1,rfl,by omega,by simp,cw _ (Nat.le_refl _) (bf.aw bG),?_⟩
   rw[List.range_succ,List.map_append]
   simpa using ia
 ·simp at a5
  obtain rfl:k=m:=by omega
  refine ff _ _ _ ?_
  clear ff
  have qR:hn aR (ay 8) qy:=by
   rw[ea]
   simpa[fM]using cy.row
  refine Exists.elim (⟨_,rfl⟩:∃hl,hl=ay 8) fun hl jq=>?_
  rw[<-jq]at qR
  have df:∀{t:List (List Int)},eT t->t.length<65536/\∀r∈t,r.length<65536:=fun h=>⟨by have:=h.2.1;omega,fun r al=>by rw[h.len r al];have:=h.2.2.2.1;omega⟩
  refine ca.kP fun dk ff=>?_
  simp
  refine aV.mk (zo (Row.s5 hx) (df an).1 (df an).2) ?_
  rintro ph bP ⟨bG,iB,-⟩
  have fP:=iB an
  subst fP
  simp
  refine ff _ _ _ ?_
  clear ff
  have KJ:=b3.ext (af:=hn) qR bG
  refine ca.kP fun dk ff=>?_
  simp[<-jq]
  refine aV.mk (zo (Row.s5 KJ) (df lP).1 (df lP).2) ?_
  rintro yS b0 ⟨cj,EE,-⟩
  have k3:=EE lP
  subst k3
  simp
  refine ff _ _ _ ?_
  clear ff
  have KK:=b3.ext (af:=hn) KJ cj
  refine ca.kP fun dk ff=>?_
  simp[<-jq]
  refine aV.mk (NR (Row.s5 KK) (df lP).1 (df lP).2) ?_
  rintro mL b8 ⟨cR,xU,-⟩
  refine Exists.elim (xU lP) fun ql bJ=>Exists.elim bJ fun a6 bJ=>?_
  have mW:=bJ.1
  subst mW
  have a4:=tA.mk' lP bJ.2.1 bJ.2.2.1
  have L6:Row 93 2 true eK b8 ql (iZ a6):=bJ.2.2.2
  have KL:=b3.ext (af:=hn) KK cR
  have z3:=b3.ext (af:=hn) hx (bG.aw (cj.aw cR))
  simp
  refine ff _ _ _ ?_
  clear ff
  refine ca.kP fun dk ff=>?_
  simp only[l8]
  refine ca.join (by kernel_rfl) (fun ly lz cU=>Ext b8 cU/\ly 121= .bool false) ?_ ?_
  ·rintro cV dw-
   simp[sm,<-jq]
   refine cP (af:=dO) (xs:=qy) (by simpa[<-jq]using KL) (by simp) ?_
   simp only[ux]
   simp
   refine cP (af:=dO) (xs:=T) (by simpa using z3) (by simp) ?_
   simp only[sl]
   simp
   refine aV.mk (aag (n:=k) (m:=n) L6 a4.bytes a4.short (by have:=a4.wA;omega) (by omega) (by omega)) ?_
   rintro _ dN ⟨cI,afT,rfl,TN⟩
   have jU:=TN.2 (by have:=a4.ok;rw[ux,Tv]at this;exact this)
   subst jU
   have El:=b3.ext (af:=Row _ _ _ eK) L6 cI
   have Tq:=b3.ext (af:=hn) KL cI
   simp[<-jq]
   refine yL (e:=27) (U:=1) (aC:=false) (z:= .slice none 0 0) (af:=Row 93 2 true eK) (a:=iZ a6) (fun aH J=>by simpa using b3.ext (af:=Row 93 2 true eK) El J) (by simpa using adS El) (by simp) (by simp) (by simp) (by rfl) (by rfl) (by rfl) (by decide) (by decide) ?_
   intro Pz eW eM c1
   have Tr:=b3.ext (af:=hn) Tq c1
   have Vz:=b3.ext (af:=Row _ _ _ eK) El c1
   simp
   refine aV.mk (Q4 (eJ:=[iZ a6]) Tr lP eM.row (by simpa using a4.bytes) (by simpa using fun a b h=>(a4.short _ h).1) (by simp) (by have:=a4.wA;simp;omega) (by simpa using fun a b h=>⟨(a4.ok _ h).1.1,(a4.ok _ h).1.2.2⟩)) ?_
   rintro _ fJ ⟨dF,afU,rfl,TP⟩
   have jU:=TP.2 (fun i k ad ak=>by
    have e:([iZ a6]:List (List (List Nat×List Int))).flatten=iZ a6:=by simp
    rw[e,a4.parts]
    exact a4.sum i k ad ak)
   subst jU
   have VA:=b3.ext (af:=Row _ _ _ eK) Vz dF
   simp
   refine aV.mk (YI VA a4.bytes (fun p a2=>(a4.short p a2).1) (by have:=a4.wA;omega) (fun p a2=>(a4.one p a2).1)) ?_
   have l1:=(BT (t:=T) rfl rfl an.small (by omega)).2
   have ig:dV (parts (iZ a6))=(((fV T).1:Int):Rat):=by rw[a4.parts,a4.len,sm]
   rw[ig]
   rintro adL kX ⟨gI,vb⟩
   simp
   refine aV.mk (zp (n:=(fV T).1) (by omega) (by omega)) ?_
   rintro adM iJ ⟨fY,V8⟩
   simp
   refine aV.mk (I0 (N:=5) (q:=(((fV T).1:Int):Rat)) (x:=(fV T).1) (vb.ext fY) V8 (by rw[Rat.num_intCast];exact b2.i64 (by omega) (by omega)) (by rw[Rat.den_intCast];exact b2.small (by decide) (by decide)) (b2.i64 (by omega) (by omega)) (b2.small (by decide) (by decide)) (by decide)) ?_
   rintro _ h6 ⟨gi,z,rfl,aN⟩
   have hC:=aN.2 rfl
   subst hC
   simp
   refine aV.mk YM ?_
   rintro _ ke ⟨hR,rfl⟩
   simp
   exact dw _ _ _ ⟨cI.aw (c1.aw (dF.aw (gI.aw (fY.aw (gi.aw hR))))),by simp⟩
  rintro ly lz cU ⟨cw,C4⟩
  simp only[ik]at C4
  simp at C4
  simp[C4]
  refine ff _ _ _ ?_
  clear ff
  have sj:=b3.ext (af:=hn) z3 cw
  refine ca.kP fun dk ff=>?_
  have nj:=bw.aw (bf.aw (bG.aw (cj.aw (cR.aw cw))))
  simp
  refine cP (af:=dO) (xs:=T) (by simpa using sj) (by simp) ?_
  simp only[sl]
  simp
  refine bt.mk (fun o=>?_) (fun o=>?_)
  ·simp[bd]
   exact aD _ _ ⟨nj,rfl⟩
  ·have lX:1<n:=by simp at o;omega
   refine ff _ _ _ ?_
   clear ff
   have eH:=an.drop (by omega)
   have wM:=an.Rx (by omega)
   refine ca.kP fun dk ff=>?_
   simp
   refine qi (e:=34) (U:=1) (aC:=false) (af:=dO) (xs:=T) (l:=1) (h:=T.length) (by simpa using sj) (by simp) (by simp) (by decide) (by simp[dM]) (by simp[e2]) (by omega) (by omega) ?_
   intro akA Mu
   rw[List.take_of_length_le (by simp)]at Mu
   simp
   refine aV.mk (zo (Row.s5 Mu) (df eH.1).1 (df eH.1).2) ?_
   rintro adx kf ⟨g6,V4,-⟩
   have RF:=V4 eH.1
   subst RF
   simp
   refine ff _ _ _ ?_
   clear ff
   simp[vL,wM,bd]
   exact aD _ _ ⟨nj.aw g6,by simpa using wM⟩
end Go.cW
end
section
set_option maxRecDepth 8000
set_option maxHeartbeats 1000000
namespace Go.cW
open Go.Proofs
open Go.Proofs.Tryz (prog)
open Go.RowKit
def G1(H:ab)(v:Value)(a:Nat):Prop:=v= .int .u8 a/\a<256
instance:lC G1:=⟨fun h=>h⟩
theorem iu.u8{w:World}{H:Type}{enc:TypeId×Value->H}:iu w (oI H enc w 5) false G1:=iu.flat fun cs ⟨fuel,x,h⟩=>by
 obtain⟨n,rfl,-,hw⟩:=DataW.trod_int (k:= .u8) (by rfl) h
 have ag:0<=n/\n<256:=by
  simp[Lit.wf,IntKind.min,IntKind.max,IntKind.signed,IntKind.bits]at hw
  omega
 obtain⟨a,rfl⟩:∃a:Nat,n=a:=⟨n.toNat,by omega⟩
 exact⟨_,_,a,rfl,fun ah=> .int _ _,fun H=>⟨rfl,by omega⟩⟩
theorem iu.row{w:World}{H:Type}{enc:TypeId×Value->H}:iu w (oI H enc w 34) false dO:=
 iu.slice (by rfl) (by rfl) (.inr rfl) (by decide) (by rfl) (by rfl) iu.int
theorem aas{w:World}{H:Type}{enc:TypeId×Value->H}{x y z:Value}(aI:oI H enc w 34 [x])(o:oI H enc w 5 [y])(aa:oI H enc w 5 [z]):
  Calls prog 5 #[x,y,z] w fun e gD=>e= .returned (.bool true)/\Below w.heap.size w gD:=by
 obtain⟨bu,Ck,FR,a,da,gB,fC,g8⟩:=iu.row _ aI _ _ nH.start
 obtain⟨mO,Cl,s1,b,aY,a3,bN,ck,eU⟩:=iu.u8 _ o _ _ da
 obtain⟨akO,P1,s2,c,ee,fF,hW,lq,vz⟩:=iu.u8 _ aa _ _ aY
 obtain⟨v0,rfl⟩:=fC.single
 obtain⟨v1,rfl⟩:=bN.single
 obtain⟨v2,rfl⟩:=hW.single
 have i0:=lC.app (af:=dO) (N:=P1) (lC.app (af:=dO) (N:=Cl) g8)
 change dO _ v0 a at i0
 obtain rfl:v1=_:=ck
 obtain rfl:v2=_:=lq
 obtain⟨zh,wm,rfl⟩:=Row.len i0
 exact adP ee ((cK.ext fF ((cK.ext a3 fC).append bN)).append hW) (by kernel_rfl) (aar i0 eU vz)
end Go.cW
end
section
namespace Go.Proofs.YtoiodfcefbapkaaGreat.shopTurned
open Go.ChangeShapes Go.WideShapes Go.ChangeAt Go.RowKit
theorem own:ownKnob Tryz.prog.godebug=none:=by kernel_rfl
theorem laidOut:laidOutB Tryz.prog=true:=by kernel_rfl
set_option maxRecDepth 100000 in
theorem lifted(os:Os)(started:os.Started)(H:Type)(enc:TypeId×Value->H):
  ReturnsInHanded {} Tryz.checked os 5 .any (Rows.shopTurnedSpec.pre6 enc Tryz.prog Tryz.f5 Rows.shopTurnedRow.domain false) (Rows.shopTurnedSpec.post enc Tryz.prog Tryz.f5 false true false false):=by
 refine returnsInHanded_of_change (C:=Tryz.checked) own started (by kernel_rfl) Tryz.func5
  (ChangeSpec.witness6 (enc:=enc) (C:=Tryz.checked) false ⟨#[], #[.slice none 0 0,.int .u8 0,.int .u8 0],[]⟩ 8 (by kernel_rfl) (by kernel_rfl) (by kernel_rfl) (by kernel_rfl)) ?_
 intro W base args aQ gs before Mp uB ahu _
 have gU:∀(j:Nat) t v,Tryz.f5.params[j]?=some t->args[j]?=some v->Value.okWide Tryz.prog W .any base t v:=Mp
 have TB:=uB
 obtain⟨p,q,wI,nX,rfl,K_,kr⟩:=uB
 have bx:DataW.TrodAll enc Tryz.prog W 0 (fun _=>true) true Tryz.f5.params.toList args.toList aQ p:=wI
 rw[Tryz.params5]at bx gU
 obtain⟨v0,akw,d0,agY,Fs,aiG,ahk,rfl,rfl,aI,fE⟩:=trodAll_cons bx
 obtain⟨v1,akx,d1,agZ,da,aY,ahl,rfl,rfl,o,ee⟩:=trodAll_cons fE
 obtain⟨v2,aky,d2,ag0,gB,a3,ahm,rfl,rfl,aa,fF⟩:=trodAll_cons ee
 obtain⟨rfl,rfl,rfl⟩:=trodAll_nil fF
 obtain rfl:args= #[v0,v1,v2]:=by cases args;simp_all
 obtain⟨rfl,rfl⟩:=trodVars_none nX
 obtain⟨zh,Be,age,rfl⟩:=okWide_slice Tryz.underlying34 (gU 0 34 v0 rfl rfl)
 obtain⟨b1,rfl⟩:=okWide_int Tryz.underlying5 (gU 1 5 v1 rfl rfl)
 obtain⟨cA,rfl⟩:=okWide_int Tryz.underlying5 (gU 2 5 v2 rfl rfl)
 have jL:=aI
 have jr:=o
 have kt:=aa
 have YN:∀x∈Fs,x.block<W.heap.size:=by obtain⟨m,hm⟩:=jL;exact DataW.trod_lt m _ _ _ hm
 have YO:∀x∈da,x.block<W.heap.size:=by obtain⟨m,hm⟩:=jr;exact DataW.trod_lt m _ _ _ hm
 have YP:∀x∈gB,x.block<W.heap.size:=by obtain⟨m,hm⟩:=kt;exact DataW.trod_lt m _ _ _ hm
 obtain⟨Sb,hs⟩:=aI
 obtain⟨Sc,bm⟩:=o
 obtain⟨Sd,bk⟩:=aa
 simp only[Value.cells]at hs bm bk
 clear wI Mp
 refine(cW.aas (H:=H) (enc:=enc) ⟨Sb,_,hs⟩ ⟨Sc,_,bm⟩ ⟨Sd,_,bk⟩).mono fun e afv ⟨he,zm⟩=>?_
 subst he
 exact⟨_,rfl,_,_,_,[],_,[],TB,trodAll_mk1 (shut_bool Tryz.underlying4 _),(trodAll_cons_mk (Below.trod laidOut (by kernel_rfl) (of_decide_eq_true (by kernel_rfl)) jL zm YN) (trodAll_cons_mk (Below.trod laidOut (by kernel_rfl) (of_decide_eq_true (by kernel_rfl)) jr zm YO) (trodAll_cons_mk (Below.trod laidOut (by kernel_rfl) (of_decide_eq_true (by kernel_rfl)) kt zm YP) trodAll_mk0))),rfl,zm.frame _,fun h=>by cases h⟩
theorem over:Rows.shopTurnedRow.holds Tryz.pinned (OpenSpec.ofChange Rows.shopTurnedSpec):=
 OpenClaim.holds_of_wide 5 Tryz.f5 rfl rfl rfl rfl rfl rfl rfl ⟨rfl,rfl,rfl,rfl,rfl⟩ rfl rfl rfl rfl rfl (by kernel_rfl) Tryz.func5 (by kernel_rfl)
  (of_decide_eq_true (by kernel_rfl)) (by unfold Func.isWrapper;first | (rw[if_pos (by decide+kernel)];kernel_rfl) | (rw[if_neg (by decide+kernel)];exact⟨rfl,rfl⟩))
  (fun os started H enc _=>lifted os started H enc)
theorem proved:Rows.ShopTurnedSaid:=over
end Go.Proofs.YtoiodfcefbapkaaGreat.shopTurned
end
