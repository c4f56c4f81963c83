/- Part of the proof of ShopMakes. -/
import Derived.Test.YtoiodfcefbapkaaShopMakesD
set_option linter.unusedVariables false
set_option linter.unusedSimpArgs false
section
set_option maxRecDepth 100000
namespace Go.b9
open Go.Proofs
open Go.Proofs.Try (prog)
abbrev dE(f n:Nat)(z:dn):Prop:=∀{args:List Value} {H:ab} {Q:Value->ab->Prop},args.length<=n->bV prog z.code (xE z.results Q) .mk (iM args) (fun _=>undef) H->a0 prog f args H Q
theorem dJ{f n:Nat}{z:dn}(fn:Func)(C:Cells)(ax:prog.funcs[f]?=some fn:=by kernel_rfl)(aE:(fn.name== "runtime.NumGoroutine")=false:=by kernel_rfl)(ag:comp prog fn=some z.back:=by kernel_rfl)(aP:(j4 prog C z.code&&sP C z.results)=true:=by kernel_rfl)(hm:Nat.ble n fn.ntmps=true:=by kernel_rfl)(n1:(C.all fun p=>decide (n<=p.1))=true:=by kernel_rfl):dE f n z:=
 fun ar h=>a0.aby ax aE ag aP (Nat.le_trans ar (Nat.le_of_ble_eq_true hm)) (Oa ar n1) h
abbrev fU(f n:Nat)(z:fa):Prop:=∀{args:List Value} {H:ab} {Q:Value->ab->Prop},args.length<=n->gP prog z.code (pH prog z.results Q) .mk (iM args) H->a0 prog f args H Q
theorem e4{f n:Nat}{z:fa}(fn:Func)(ax:prog.funcs[f]?=some fn:=by kernel_rfl)(aE:(fn.name== "runtime.NumGoroutine")=false:=by kernel_rfl)(ag:comp prog fn=some z:=by kernel_rfl)(hm:Nat.ble n fn.ntmps=true:=by kernel_rfl):fU f n z:=
 fun ar h=>a0.Vg ax aE ag (Nat.le_trans ar (Nat.le_of_ble_eq_true hm)) h
def Gb:fa:=⟨.seq (.ops [bY 2 44])
 (.seq (.ops [R 3 (T 0),a6 4 32 [T 3],a6 5 32 [ak 1],eS 6 44 [(0,T 4),(1,T 5)],st 44 (T 2) (T 6)])
 (.ret)),[.cell 2 44]⟩
def Gg:fa:=⟨.seq (.ops [al 6 (C (.bool false))])
 (.seq (.ops [R 7 (T 0),R 8 (T 1),bi 9 .geq 3 (T 7) (T 8),R 10 (T 9),aN 10 true (R 11 (T 0)),aN 10 true (R 12 (T 2)),
  aN 10 true (bi 13 .leq 3 (T 11) (T 12)),cX 14 (T 10) (T 13) (C (.bool false)),al 6 (T 14)])
 (.ret)),[.tmp 6]⟩
def F_:fa:=⟨.seq (.ops [cZ 1 44 (T 0),bY 2 42])
 (.seq (.ops [bk 3 44 (T 1) 0,aO 4 42 (T 3),st 42 (T 2) (T 4)])
 (.ret)),[.cell 2 42]⟩
def Gj:fa:=⟨.seq (.ops [cZ 1 22 (T 0),al 2 (C (.bool false))])
 (.seq (.seq (.ops [aO 3 22 (T 1),bB 4 22 (T 3),bi 5 .lss 3 (T 4) (ak 1),R 6 (T 5),aN 6 false (aO 7 22 (T 1)),aN 6 false (bB 8 22 (T 7)),
  aN 6 false (bi 9 .gtr 3 (T 8) (ak 8)),cX 10 (T 6) (C (.bool true)) (T 9),R 11 (T 10),aN 11 false (aO 12 22 (T 1)),
  aN 11 false (bb 13 22 (T 12) (ak 0)),aN 11 false (aO 14 25 (T 13)),aN 11 false (bB 15 25 (T 14)),aN 11 false (bi 16 .lss 3 (T 15) (ak 1)),
  (cX 17 (T 11) (C (.bool true)) (T 16)),R 18 (T 17),aN 18 false (aO 19 22 (T 1)),aN 18 false (bb 20 22 (T 19) (ak 0)),
  aN 18 false (aO 21 25 (T 20)),aN 18 false (bB 22 25 (T 21)),aN 18 false (bi 23 .gtr 3 (T 22) (ak 8)),cX 24 (T 18) (C (.bool true)) (T 23)])
 (.cond (T 24) (.seq (.ops [al 2 (C (.bool false))])
 (.ret))
 (.skip)))
 (.seq (.ops [aO 25 22 (T 1),uw 26 (.func 49) #[] #[T 1],a6 27 48 [T 25,T 26],un 28 .not (T 27),al 2 (T 28)])
 (.ret))),[.tmp 2]⟩
def F8:fa:=⟨.seq (.ops [bY 2 42])
 (.seq (.ops [R 4 (T 0),cg 5 3 94 (T 4),al 3 (T 5)])
 (.seq (.seq (.ops [R 6 (T 0),bi 7 .lss 3 (T 6) (ak 0)])
 (.cond (T 7) (.ops [R 8 (T 3),un 9 .neg (T 8),al 3 (T 9)])
 (.skip)))
 (.seq (.ops [R 10 (T 0),bi 11 .lss 3 (T 10) (ak 0),R 12 (T 3),cg 13 94 95 (T 12),R 14 (T 3),bi 15 .shr 94 (T 14) (C (.int .u64 32)),
  (cg 16 94 95 (T 15)),fb 17 40 2 [(0,T 13),(1,T 16)],a6 18 55 [T 17],a6 19 54 [T 11,T 18],st 42 (T 2) (T 19)])
 (.ret)))),[.cell 2 42]⟩
def F9:fa:=⟨.seq (.ops [cZ 1 44 (T 0),al 2 (C (.bool false))])
 (.seq (.ops [bk 3 44 (T 1) 1,bk 4 42 (T 3) 1,aO 5 40 (T 4),bB 6 40 (T 5),bi 7 .eql 3 (T 6) (ak 1),R 8 (T 7),aN 8 true (bk 9 44 (T 1) 1),
  aN 8 true (bk 10 42 (T 9) 1),aN 8 true (aO 11 40 (T 10)),aN 8 true (bb 12 40 (T 11) (ak 0)),aN 8 true (aO 13 95 (T 12)),
  aN 8 true ((bi 14 .eql 95 (T 13) (C (.int .u32 1)))),cX 15 (T 8) (T 14) (C (.bool false)),al 2 (T 15)])
 (.ret)),[.tmp 2]⟩
def Ga:fa:=⟨.seq (.ops [cZ 1 44 (T 0),al 2 (ak 0)])
 (.seq (.ops [bk 3 44 (T 1) 0,aO 4 42 (T 3),a6 5 65 [T 4],al 2 (T 5)])
 (.ret)),[.tmp 2]⟩
def Gh:fa:=⟨.seq (.ops [cZ 1 51 (T 0),al 2 (ak 0)])
 (.seq (.ops [bk 3 51 (T 1) 0,aO 4 49 (T 3),bB 5 49 (T 4),al 2 (T 5)])
 (.ret)),[.tmp 2]⟩
def Gi:fa:=⟨.seq (.ops [cZ 1 51 (T 0),al 2 (ak 0)])
 (.seq (.ops [bk 3 51 (T 1) 0,aO 4 49 (T 3),bb 5 49 (T 4) (ak 0),aO 6 84 (T 5),bB 7 84 (T 6),al 2 (T 7)])
 (.ret)),[.tmp 2]⟩
def Gm:fa:=⟨.seq (.ops [al 4 (C (.bool false))])
 (.seq (.ops [R 5 (T 0),R 6 (T 1),a6 7 72 [T 5,T 6],bi 8 .geq 3 (T 7) (ak 0),al 4 (T 8)])
 (.ret)),[.tmp 4]⟩
def Gk:fa:=⟨.seq (.ops [al 3 (C (.bool false))])
 (.seq (.ops [R 4 (T 0),bB 5 25 (T 4),aO 6 22 (T 1),bb 7 22 (T 6) (ak 0),aO 8 25 (T 7),bB 9 25 (T 8),bi 10 .neq 3 (T 5) (T 9),R 11 (T 10),
  aN 11 false (R 12 (T 0)),aN 11 false (a6 13 50 [T 12,FD 51]),cX 14 (T 11) (C (.bool true)) (T 13),al 3 (T 14)])
 (.ret)),[.tmp 3]⟩
def Gn:fa:=⟨.seq (.ops [al 4 (C (.bool false))])
 (.seq (.ops [R 5 (T 0),R 6 (T 1),a6 7 73 [T 5,T 6],bi 8 .geq 3 (T 7) (ak 0),al 4 (T 8)])
 (.ret)),[.tmp 4]⟩
def Gl:fa:=⟨.seq (.ops [al 2 (C (.bool false))])
 (.seq (.ops [R 3 (T 0),bi 4 .lss 3 (T 3) (ak 0),R 5 (T 4),aN 5 false (R 6 (T 0)),aN 5 false (bi 7 .gtr 3 (T 6) (ak 1000)),
  (cX 8 (T 5) (C (.bool true)) (T 7)),al 2 (T 8)])
 (.ret)),[.tmp 2]⟩
def F4:fa:=⟨.seq (.ops [cZ 2 42 (T 0),cZ 3 42 (T 1),bY 4 42])
 (.seq (.ops [bk 5 42 (T 2) 0,aO 6 4 (T 5),bk 7 42 (T 3) 0,aO 8 4 (T 7),bi 9 .neq 4 (T 6) (T 8),bk 10 42 (T 2) 1,aO 11 40 (T 10),
  (bk 12 42 (T 3) 1),aO 13 40 (T 12),bg (a6 14 74 [T 11,T 13]),a6 15 54 [T 9,T 14],st 42 (T 4) (T 15)])
 (.ret)),[.cell 4 42]⟩
def F3:fa:=⟨.seq (.ops [cZ 2 42 (T 0),cZ 3 42 (T 1),al 4 (ak 0)])
 (.seq (.ops [aO 5 42 (T 2),aO 6 42 (T 3),a6 7 75 [T 5,T 6],a6 8 65 [T 7],al 4 (T 8)])
 (.ret)),[.tmp 4]⟩
def Gd:fa:=⟨.seq (.ops [bY 4 42])
 (.seq (.ops [R 5 (T 0),R 6 (T 5),aN 6 true (R 7 (T 1)),aN 6 true (bB 8 40 (T 7)),aN 6 true (bi 9 .gtr 3 (T 8) (ak 0)),
  (cX 10 (T 6) (T 9) (C (.bool false))),R 11 (T 1),eS 12 42 [(0,T 10),(1,T 11)],st 42 (T 4) (T 12)])
 (.ret)),[.cell 4 42]⟩
def Gf:fa:=⟨.seq (.ops [al 2 (C (.slice none 0 0))])
 (.seq (.block 0 (.loop (.seq (.seq (.ops [R 3 (T 0),bB 4 40 (T 3),bi 5 .gtr 3 (T 4) (ak 0),R 6 (T 5),aN 6 true (R 7 (T 0)),aN 6 true (R 8 (T 0)),aN 6 true (bB 9 40 (T 8)),
  aN 6 true (bi 10 .sub 3 (T 9) (ak 1)),aN 6 true (bb 11 40 (T 7) (T 10)),aN 6 true (aO 12 95 (T 11)),
  aN 6 true ((bi 13 .eql 95 (T 12) (C (.int .u32 0)))),cX 14 (T 6) (T 13) (C (.bool false))])
 (.cond (T 14) (.skip)
 (.exit 0)))
 (.block 1 (.ops [R 15 (T 0),R 16 (T 0),bB 17 40 (T 16),bi 18 .sub 3 (T 17) (ak 1),gm 19 40 (T 15) none (some (T 18)) none,al 0 (T 19)])))))
 (.seq (.ops [R 20 (T 0),al 2 (T 20)])
 (.ret))),[.tmp 2]⟩
def Bp:fa:=⟨.seq (.ops [al 4 (C (.slice none 0 0)),al 5 (C (.int .u32 0))])
 (.seq (.ops [R 10 (T 0),bB 11 40 (T 10),ms 12 40 (T 11) (T 11),al 6 (T 12)])
 (.seq (.ops [al 7 (C (.int .u64 0))])
 (.seq (.seq (.ops [R 13 (T 0),bB 14 40 (T 13),bi 15 .sub 3 (T 14) (ak 1),al 8 (T 15)])
 (.block 0 (.loop (.seq (.seq (.ops [R 16 (T 8),bi 17 .geq 3 (T 16) (ak 0)])
 (.cond (T 17) (.skip)
 (.exit 0)))
 (.seq (.block 1 (.seq (.ops [R 20 (T 7),bi 21 .shl 94 (T 20) (C (.int .u64 32)),R 22 (T 0),R 23 (T 8),bb 24 40 (T 22) (T 23),aO 25 95 (T 24),
  (cg 26 95 94 (T 25)),bi 27 .or 94 (T 21) (T 26),al 9 (T 27)])
 (.ops [R 28 (T 6),R 29 (T 8),R 30 (T 9),R 31 (T 1),cg 32 95 94 (T 31),bi 33 .quo 94 (T 30) (T 32),cg 34 94 95 (T 33),R 35 (T 9),
  (R 36 (T 1)),cg 37 95 94 (T 36),bi 38 .rem 94 (T 35) (T 37),bb 39 40 (T 28) (T 29),st 95 (T 39) (T 34),al 7 (T 38)])))
 (.ops [R 18 (T 8),bi 19 .sub 3 (T 18) (ak 1),al 8 (T 19)]))))))
 (.seq (.ops [R 40 (T 6),a6 41 55 [T 40],R 42 (T 7),cg 43 94 95 (T 42),al 4 (T 41),al 5 (T 43)])
 (.ret))))),[.tmp 4,.tmp 5]⟩
def Gc:fa:=⟨.seq (.ops [al 4 (ak 0)])
 (.seq (.seq (.ops [R 6 (T 0),bB 7 40 (T 6),R 8 (T 1),bB 9 40 (T 8),bi 10 .neq 3 (T 7) (T 9)])
 (.cond (T 10) (.seq (.seq (.ops [R 11 (T 0),bB 12 40 (T 11),R 13 (T 1),bB 14 40 (T 13),bi 15 .lss 3 (T 12) (T 14)])
 (.cond (T 15) (.seq (.ops [al 4 (ak (-1))])
 (.ret))
 (.skip)))
 (.seq (.ops [al 4 (ak 1)])
 (.ret)))
 (.skip)))
 (.seq (.seq (.ops [R 16 (T 0),bB 17 40 (T 16),bi 18 .sub 3 (T 17) (ak 1),al 5 (T 18)])
 (.block 0 (.loop (.seq (.seq (.ops [R 19 (T 5),bi 20 .geq 3 (T 19) (ak 0)])
 (.cond (T 20) (.skip)
 (.exit 0)))
 (.seq (.block 1 (.seq (.ops [R 23 (T 0),R 24 (T 5),bb 25 40 (T 23) (T 24),aO 26 95 (T 25),R 27 (T 1),R 28 (T 5),bb 29 40 (T 27) (T 28),aO 30 95 (T 29),
  (bi 31 .neq 95 (T 26) (T 30))])
 (.cond (T 31) (.seq (.seq (.ops [R 32 (T 0),R 33 (T 5),bb 34 40 (T 32) (T 33),aO 35 95 (T 34),R 36 (T 1),R 37 (T 5),bb 38 40 (T 36) (T 37),aO 39 95 (T 38),
  (bi 40 .lss 95 (T 35) (T 39))])
 (.cond (T 40) (.seq (.ops [al 4 (ak (-1))])
 (.ret))
 (.skip)))
 (.seq (.ops [al 4 (ak 1)])
 (.ret)))
 (.skip))))
 (.ops [R 21 (T 5),bi 22 .sub 3 (T 21) (ak 1),al 5 (T 22)]))))))
 (.seq (.ops [al 4 (ak 0)])
 (.ret)))),[.tmp 4]⟩
def F6:fa:=⟨.seq (.ops [cZ 1 42 (T 0),al 2 (ak 0)])
 (.seq (.block 0 (.seq (.ops [bk 4 42 (T 1) 1,aO 5 40 (T 4),bB 6 40 (T 5),bi 7 .eql 3 (T 6) (ak 0),al 3 (T 7)])
 (.cond (T 3) (.seq (.ops [al 2 (ak 0)])
 (.ret))
 (.seq (.ops [bk 9 42 (T 1) 0,aO 10 4 (T 9),al 8 (T 10)])
 (.cond (T 8) (.seq (.ops [al 2 (ak (-1))])
 (.ret))
 (.skip))))))
 (.seq (.ops [al 2 (ak 1)])
 (.ret))),[.tmp 2]⟩
def F1:fa:=⟨.seq (.ops [cZ 1 42 (T 0),bY 2 44])
 (.seq (.ops [aO 3 42 (T 1),bg (a6 4 32 [ak 1]),eS 5 44 [(0,T 3),(1,T 4)],st 44 (T 2) (T 5)])
 (.ret)),[.cell 2 44]⟩
def F2:fa:=⟨.seq (.ops [cZ 2 42 (T 0),cZ 3 42 (T 1),bY 4 42])
 (.seq (.block 0 (.seq (.ops [bk 6 42 (T 2) 0,aO 7 4 (T 6),bk 8 42 (T 3) 0,aO 9 4 (T 8),bi 10 .eql 4 (T 7) (T 9),al 5 (T 10)])
 (.cond (T 5) (.seq (.ops [bk 11 42 (T 2) 0,aO 12 4 (T 11),bk 13 42 (T 2) 1,aO 14 40 (T 13),bk 15 42 (T 3) 1,aO 16 40 (T 15),bg (a6 17 78 [T 14,T 16]),
  (a6 18 54 [T 12,T 17]),st 42 (T 4) (T 18)])
 (.ret))
 (.seq (.ops [bk 20 42 (T 2) 1,aO 21 40 (T 20),bk 22 42 (T 3) 1,aO 23 40 (T 22),a6 24 63 [T 21,T 23],bi 25 .geq 3 (T 24) (ak 0),al 19 (T 25)])
 (.cond (T 19) (.seq (.ops [bk 26 42 (T 2) 0,aO 27 4 (T 26),bk 28 42 (T 2) 1,aO 29 40 (T 28),bk 30 42 (T 3) 1,aO 31 40 (T 30),bg (a6 32 80 [T 29,T 31]),
  (a6 33 54 [T 27,T 32]),st 42 (T 4) (T 33)])
 (.ret))
 (.skip))))))
 (.seq (.ops [bk 34 42 (T 3) 0,aO 35 4 (T 34),bk 36 42 (T 3) 1,aO 37 40 (T 36),bk 38 42 (T 2) 1,aO 39 40 (T 38),bg (a6 40 80 [T 37,T 39]),
  (a6 41 54 [T 35,T 40]),st 42 (T 4) (T 41)])
 (.ret))),[.cell 4 42]⟩
def Gp:fa:=⟨.seq (.ops [al 4 (ak 0)])
 (.seq (.seq (.ops [R 6 (T 0),bB 7 22 (T 6),R 8 (ak 0)])
 (.block 0 (.loop (.seq (.ops [bi 9 .lss 3 (T 8) (T 7)])
 (.seq (.cond (T 9) (.skip)
 (.exit 0))
 (.seq (.block 1 (.seq (.ops [R 10 (T 8),al 5 (T 10)])
 (.seq (.ops [R 11 (T 1),R 12 (T 0),R 13 (T 5),bb 14 22 (T 12) (T 13),aO 15 25 (T 14),lD 16 (T 11) [T 15]])
 (.cond (T 16) (.seq (.ops [R 17 (T 5),al 4 (T 17)])
 (.ret))
 (.skip)))))
 (.ops [bi 18 .add 3 (T 8) (ak 1),R 8 (T 18)])))))))
 (.seq (.ops [al 4 (ak (-1))])
 (.ret))),[.tmp 4]⟩
def Gq:fa:=⟨.seq (.ops [al 4 (ak 0)])
 (.seq (.seq (.ops [R 6 (T 0),bB 7 25 (T 6),R 8 (ak 0)])
 (.block 0 (.loop (.seq (.ops [bi 9 .lss 3 (T 8) (T 7)])
 (.seq (.cond (T 9) (.skip)
 (.exit 0))
 (.seq (.block 1 (.seq (.ops [R 10 (T 8),al 5 (T 10)])
 (.seq (.ops [R 11 (T 1),R 12 (T 0),R 13 (T 5),bb 14 25 (T 12) (T 13),aO 15 3 (T 14),lD 16 (T 11) [T 15]])
 (.cond (T 16) (.seq (.ops [R 17 (T 5),al 4 (T 17)])
 (.ret))
 (.skip)))))
 (.ops [bi 18 .add 3 (T 8) (ak 1),R 8 (T 18)])))))))
 (.seq (.ops [al 4 (ak (-1))])
 (.ret))),[.tmp 4]⟩
def Br:fa:=⟨.seq (.ops [al 4 (C (.slice none 0 0))])
 (.seq (.ops [R 12 (T 0),bB 13 40 (T 12),R 14 (T 1),bB 15 40 (T 14),bi 16 .add 3 (T 13) (T 15),ms 17 40 (T 16) (T 16),al 5 (T 17)])
 (.seq (.seq (.ops [R 18 (T 0),bB 19 40 (T 18),R 20 (ak 0)])
 (.block 0 (.loop (.seq (.ops [bi 21 .lss 3 (T 20) (T 19)])
 (.seq (.cond (T 21) (.skip)
 (.exit 0))
 (.seq (.block 1 (.seq (.ops [R 22 (T 20),bb 23 40 (T 18) (T 20),aO 24 95 (T 23),al 6 (T 22),al 7 (T 24)])
 (.seq (.ops [al 8 (C (.int .u64 0))])
 (.seq (.seq (.ops [R 25 (T 1),bB 26 40 (T 25),R 27 (ak 0)])
 (.block 2 (.loop (.seq (.ops [bi 28 .lss 3 (T 27) (T 26)])
 (.seq (.cond (T 28) (.skip)
 (.exit 2))
 (.seq (.block 3 (.seq (.ops [R 29 (T 27),bb 30 40 (T 25) (T 27),aO 31 95 (T 30),al 9 (T 29),al 10 (T 31)])
 (.seq (.ops [R 32 (T 7),cg 33 95 94 (T 32),R 34 (T 10),cg 35 95 94 (T 34),bi 36 .mul 94 (T 33) (T 35),R 37 (T 5),R 38 (T 6),R 39 (T 9),
  (bi 40 .add 3 (T 38) (T 39)),bb 41 40 (T 37) (T 40),aO 42 95 (T 41),cg 43 95 94 (T 42),bi 44 .add 94 (T 36) (T 43),R 45 (T 8),
  (bi 46 .add 94 (T 44) (T 45)),al 11 (T 46)])
 (.ops [R 47 (T 5),R 48 (T 6),R 49 (T 9),bi 50 .add 3 (T 48) (T 49),R 51 (T 11),cg 52 94 95 (T 51),R 53 (T 11),
  (bi 54 .shr 94 (T 53) (C (.int .u64 32))),bb 55 40 (T 47) (T 50),st 95 (T 55) (T 52),al 8 (T 54)]))))
 (.ops [bi 56 .add 3 (T 27) (ak 1),R 27 (T 56)])))))))
 (.ops [R 57 (T 5),R 58 (T 6),R 59 (T 1),bB 60 40 (T 59),bi 61 .add 3 (T 58) (T 60),R 62 (T 8),cg 63 94 95 (T 62),
  (bb 64 40 (T 57) (T 61)),st 95 (T 64) (T 63)])))))
 (.ops [bi 65 .add 3 (T 20) (ak 1),R 20 (T 65)])))))))
 (.seq (.ops [R 66 (T 5),a6 67 55 [T 66],al 4 (T 67)])
 (.ret)))),[.tmp 4]⟩
def F7:fa:=⟨.seq (.ops [cZ 2 42 (T 0),cZ 3 42 (T 1),bY 4 42])
 (.seq (.ops [aO 5 42 (T 2),aO 6 42 (T 3),bg (a6 7 81 [T 6]),a6 8 68 [T 5,T 7],st 42 (T 4) (T 8)])
 (.ret)),[.cell 4 42]⟩
def Ge:fa:=⟨.seq (.ops [al 4 (C (.slice none 0 0))])
 (.seq (.seq (.ops [R 9 (T 0),bB 10 40 (T 9),R 11 (T 1),bB 12 40 (T 11),bi 13 .lss 3 (T 10) (T 12)])
 (.cond (T 13) (.ops [R 14 (T 1),R 15 (T 0),al 0 (T 14),al 1 (T 15)])
 (.skip)))
 (.seq (.ops [R 16 (T 0),bB 17 40 (T 16),bi 18 .add 3 (T 17) (ak 1),ms 19 40 (T 18) (T 18),al 5 (T 19)])
 (.seq (.ops [al 6 (C (.int .u32 0))])
 (.seq (.seq (.ops [R 20 (T 0),bB 21 40 (T 20),R 22 (ak 0)])
 (.block 0 (.loop (.seq (.ops [bi 23 .lss 3 (T 22) (T 21)])
 (.seq (.cond (T 23) (.skip)
 (.exit 0))
 (.seq (.block 1 (.seq (.ops [R 24 (T 22),al 7 (T 24)])
 (.seq (.ops [al 8 (C (.int .u32 0))])
 (.seq (.seq (.ops [R 25 (T 7),R 26 (T 1),bB 27 40 (T 26),bi 28 .lss 3 (T 25) (T 27)])
 (.cond (T 28) (.ops [R 29 (T 1),R 30 (T 7),bb 31 40 (T 29) (T 30),aO 32 95 (T 31),al 8 (T 32)])
 (.skip)))
 (.ops [R 34 (T 5),R 35 (T 7),R 36 (T 0),R 37 (T 7),bb 38 40 (T 36) (T 37),aO 39 95 (T 38),R 40 (T 8),R 41 (T 6),
  (a6 42 86 [T 39,T 40,T 41]),R 33 (T 42),ex 43 (T 33) 0,ex 44 (T 33) 1,bb 45 40 (T 34) (T 35),st 95 (T 45) (T 43),al 6 (T 44)])))))
 (.ops [bi 46 .add 3 (T 22) (ak 1),R 22 (T 46)])))))))
 (.seq (.ops [R 47 (T 5),R 48 (T 0),bB 49 40 (T 48),R 50 (T 6),bb 51 40 (T 47) (T 49),st 95 (T 51) (T 50)])
 (.seq (.ops [R 52 (T 5),a6 53 55 [T 52],al 4 (T 53)])
 (.ret))))))),[.tmp 4]⟩
def Bq:fa:=⟨.seq (.ops [al 4 (C (.slice none 0 0))])
 (.seq (.ops [R 9 (T 0),bB 10 40 (T 9),ms 11 40 (T 10) (T 10),al 5 (T 11)])
 (.seq (.ops [al 6 (C (.int .u32 0))])
 (.seq (.seq (.ops [R 12 (T 0),bB 13 40 (T 12),R 14 (ak 0)])
 (.block 0 (.loop (.seq (.ops [bi 15 .lss 3 (T 14) (T 13)])
 (.seq (.cond (T 15) (.skip)
 (.exit 0))
 (.seq (.block 1 (.seq (.ops [R 16 (T 14),al 7 (T 16)])
 (.seq (.ops [al 8 (C (.int .u32 0))])
 (.seq (.seq (.ops [R 17 (T 7),R 18 (T 1),bB 19 40 (T 18),bi 20 .lss 3 (T 17) (T 19)])
 (.cond (T 20) (.ops [R 21 (T 1),R 22 (T 7),bb 23 40 (T 21) (T 22),aO 24 95 (T 23),al 8 (T 24)])
 (.skip)))
 (.ops [R 26 (T 5),R 27 (T 7),R 28 (T 0),R 29 (T 7),bb 30 40 (T 28) (T 29),aO 31 95 (T 30),R 32 (T 8),R 33 (T 6),
  (a6 34 91 [T 31,T 32,T 33]),R 25 (T 34),ex 35 (T 25) 0,ex 36 (T 25) 1,bb 37 40 (T 26) (T 27),st 95 (T 37) (T 35),al 6 (T 36)])))))
 (.ops [bi 38 .add 3 (T 14) (ak 1),R 14 (T 38)])))))))
 (.seq (.ops [R 39 (T 5),a6 40 55 [T 39],al 4 (T 40)])
 (.ret))))),[.tmp 4]⟩
def F5:fa:=⟨.seq (.ops [cZ 1 42 (T 0),bY 2 42])
 (.seq (.ops [bk 3 42 (T 1) 0,aO 4 4 (T 3),un 5 .not (T 4),bk 6 42 (T 1) 1,aO 7 40 (T 6),a6 8 54 [T 5,T 7],st 42 (T 2) (T 8)])
 (.ret)),[.cell 2 42]⟩
def FZ:fa:=⟨.seq (.ops [al 6 (C (.int .u32 0)),al 7 (C (.int .u32 0))])
 (.seq (.ops [R 9 (T 0),cg 10 95 94 (T 9),R 11 (T 1),cg 12 95 94 (T 11),bi 13 .add 94 (T 10) (T 12),R 14 (T 2),cg 15 95 94 (T 14),
  (bi 16 .add 94 (T 13) (T 15)),al 8 (T 16)])
 (.seq (.ops [R 17 (T 8),cg 18 94 95 (T 17),al 6 (T 18)])
 (.seq (.ops [R 19 (T 8),bi 20 .shr 94 (T 19) (C (.int .u64 32)),cg 21 94 95 (T 20),al 7 (T 21)])
 (.ret)))),[.tmp 6,.tmp 7]⟩
def F0:fa:=⟨.seq (.ops [al 6 (C (.int .u32 0)),al 7 (C (.int .u32 0))])
 (.seq (.ops [R 8 (T 0),R 9 (T 1),bi 10 .sub 95 (T 8) (T 9),R 11 (T 2),bi 12 .sub 95 (T 10) (T 11),al 6 (T 12)])
 (.seq (.ops [R 13 (T 0),un 14 .xor (T 13),R 15 (T 1),bi 16 .and 95 (T 14) (T 15),R 17 (T 0),R 18 (T 1),bi 19 .xor 95 (T 17) (T 18),
  (un 20 .xor (T 19)),R 21 (T 6),bi 22 .and 95 (T 20) (T 21),bi 23 .or 95 (T 16) (T 22),bi 24 .shr 95 (T 23) (C (.int .u64 31)),
  (al 7 (T 24))])
 (.ret))),[.tmp 6,.tmp 7]⟩
def Gv:dn:=⟨.seq (.ops [.xs [al 4 (C (.bool false))]])
 (.seq (.ops [.xs [R 10 (T 0),a6 11 5 [T 10],al 5 (T 11)]])
 (.seq (.ops [.xs [fb 12 23 0 [],al 6 (T 12)]])
 (.seq (.seq (.ops [.xs [al 7 (ak 0)]])
 (.block 0 (.loop 274877898944 0 (.seq (.seq (.box 2088960 0 (.ops [.xs [R 13 (T 7),R 14 (T 1),bB 15 23 (T 14),bi 16 .lss 3 (T 13) (T 15),R 17 (T 16),aN 17 true (R 18 (T 7)),aN 17 true (bi 19 .lss 3 (T 18) (ak 60)),cX 20 (T 17) (T 19) (C (.bool false))]]))
 (.cond (T 20) (.skip)
 (.exit 0)))
 (.seq (.block 1 (.ops [.xs [R 23 (T 6),R 24 (T 1),R 25 (T 7),bb 26 23 (T 24) (T 25),bk 27 27 (T 26) 0,aO 28 3 (T 27),R 29 (T 1),R 30 (T 7),bb 31 23 (T 29) (T 30),bk 32 27 (T 31) 1,aO 33 25 (T 32),bg (a6 34 6 [T 33,ak 9]),eS 35 27 [(0,T 28),(1,T 34)],fb 36 23 1 [(0,T 35)],ap 37 23 23 (T 23) (T 36),al 6 (T 37)]]))
 (.ops [.xs [R 21 (T 7),bi 22 .add 3 (T 21) (ak 1),al 7 (T 22)]]))))))
 (.seq (.ops [.xs [R 39 (T 5),R 40 (T 6),a6 41 7 [T 39,T 40],R 38 (T 41),ex 42 (T 38) 0,ex 43 (T 38) 1,al 8 (T 42),al 9 (T 43)]])
 (.seq (.seq (.box 4486007441326080 0 (.ops [.xs [R 44 (T 5),a6 45 8 [T 44],un 46 .not (T 45),R 47 (T 46),aN 47 false (R 48 (T 5)),aN 47 false (a6 49 9 [T 48]),aN 47 false (un 50 .not (T 49)),cX 51 (T 47) (C (.bool true)) (T 50)]]))
 (.cond (T 51) (.seq (.box 2301339409586323472 0 (.ops [.xs [R 52 (T 8),un 53 .not (T 52),R 54 (T 53),aN 54 true (R 55 (T 9)),aN 54 true (bi 56 .eql 29 (T 55) (ak 1)),cX 57 (T 54) (T 56) (C (.bool false)),R 58 (T 57),aN 58 true (a6 59 10 []),cX 60 (T 58) (T 59) (C (.bool false)),al 4 (T 60)]]))
 (.ret))
 (.skip)))
 (.seq (.box 9442427122730076733456 0 (.ops [.xs [R 61 (T 8),R 62 (T 5),R 63 (T 6),a6 64 11 [T 62,T 63],bi 65 .eql 4 (T 61) (T 64),R 66 (T 65),aN 66 true (R 67 (T 9)),aN 66 true (bi 68 .eql 29 (T 67) (ak 0)),cX 69 (T 66) (T 68) (C (.bool false)),R 70 (T 69),aN 70 true (a6 71 10 []),cX 72 (T 70) (T 71) (C (.bool false)),al 4 (T 72)]]))
 (.ret))))))),[.tmp 4]⟩
def Gy:dn:=⟨.seq (.ops [.xs [al 2 (C (.slice none 0 0))]])
 (.seq (.ops [.xs [fb 5 22 0 [],al 3 (T 5)]])
 (.seq (.seq (.ops [.xs [al 4 (ak 0)]])
 (.block 0 (.loop 16777176 0 (.seq (.seq (.box 16320 0 (.ops [.xs [R 6 (T 4),R 7 (T 0),bB 8 22 (T 7),bi 9 .lss 3 (T 6) (T 8),R 10 (T 9),aN 10 true (R 11 (T 4)),aN 10 true (bi 12 .leq 3 (T 11) (ak 8)),cX 13 (T 10) (T 12) (C (.bool false))]]))
 (.cond (T 13) (.skip)
 (.exit 0)))
 (.seq (.block 1 (.ops [.xs [R 16 (T 3),R 17 (T 0),R 18 (T 4),bb 19 22 (T 17) (T 18),aO 20 25 (T 19),a6 21 6 [T 20,ak 9],fb 22 22 1 [(0,T 21)],ap 23 22 22 (T 16) (T 22),al 3 (T 23)]]))
 (.ops [.xs [R 14 (T 4),bi 15 .add 3 (T 14) (ak 1),al 4 (T 15)]]))))))
 (.seq (.ops [.xs [R 24 (T 3),al 2 (T 24)]])
 (.ret)))),[.tmp 2]⟩
def Gw:dn:=⟨.seq (.ops [.xs [al 4 (C (.slice none 0 0))]])
 (.seq (.ops [.xs [fb 5 25 0 [],R 6 (T 0),R 7 (T 0),bB 8 25 (T 7),R 9 (T 1),ux 10 [3,3] (T 8) (T 9),gm 11 25 (T 6) none (some (T 10)) none,ap 12 25 25 (T 5) (T 11),al 4 (T 12)]])
 (.ret)),[.tmp 4]⟩
def GX:dn:=⟨.seq (.ops [.xs [al 4 (C (.bool false)),al 5 (ak 0)]])
 (.seq (.seq (.ops [.xs [R 18 (T 0),a6 19 13 [T 18],un 20 .not (T 19)]])
 (.cond (T 20) (.seq (.ops [.xs [al 4 (C (.bool false)),al 5 (ak 1)]])
 (.ret))
 (.skip)))
 (.seq (.ops [.xs [R 21 (T 0),bB 22 22 (T 21),al 6 (T 22)]])
 (.seq (.seq (.ops [.xs [R 23 (T 1),bB 24 23 (T 23),R 25 (T 6),R 26 (T 6),bi 27 .mul 3 (T 25) (T 26),R 28 (T 6),bi 29 .mul 3 (ak 2) (T 28),bi 30 .sub 3 (T 27) (T 29),bi 31 .add 3 (T 30) (ak 2),bi 32 .gtr 3 (T 24) (T 31)]])
 (.cond (T 32) (.seq (.ops [.xs [al 4 (C (.bool false)),al 5 (ak 0)]])
 (.ret))
 (.skip)))
 (.seq (.ops [.xs [al 7 (C (.slice none 0 0))]])
 (.seq (.seq (.ops [.xs [R 33 (T 1),bB 34 23 (T 33),R 35 (ak 0)]])
 (.block 0 (.loop 39614081257132168762412269232 4608 (.seq (.ops [.xs [bi 36 .lss 3 (T 35) (T 34)]])
 (.seq (.cond (T 36) (.skip)
 (.exit 0))
 (.seq (.block 1 (.seq (.ops [.xs [bb 37 23 (T 33) (T 35),aO 38 27 (T 37)],.bY 9 27,.cD true none 27 9 (T 38) 9])
 (.seq (.seq (.box 562400197607424 0 (.ops [.bk none 39 27 9 0 9 0,.aO none 40 3 39 9 0,.xs [bi 41 .lss 3 (T 40) (ak 1),R 42 (T 41)],.bk (some (42,false)) 43 27 9 1 9 1,
  .aO (some (42,false)) 44 25 43 9 1,
  .xs [aN 42 false (bB 45 25 (T 44)),aN 42 false (R 46 (T 6)),aN 42 false (bi 47 .neq 3 (T 45) (T 46)),cX 48 (T 42) (C (.bool true)) (T 47)]]))
 (.cond (T 48) (.seq (.ops [.xs [al 4 (C (.bool false)),al 5 (ak 0)]])
 (.ret))
 (.skip)))
 (.seq (.ops [.bk none 50 27 9 0 9 0,.aO none 51 3 50 9 0,
  .xs [a6 52 14 [T 51],a6 53 15 [T 52],R 49 (T 53),ex 54 (T 49) 0,ex 55 (T 49) 1,al 10 (T 54),al 11 (T 55)]])
 (.seq (.ops [.xs [R 56 (T 10),fb 57 25 1 [(0,ak (-1))],R 58 (T 6),a6 59 16 [T 57,T 58],eS 60 48 [(0,T 56),(1,T 59)]],.bY 12 48,
  .cD true none 48 12 (T 60) 12])
 (.seq (.seq (.ops [.bk none 61 27 9 1 9 1,.aO none 62 25 61 9 1,.xs [bB 63 25 (T 62),R 64 (ak 0)]])
 (.block 2 (.loop 1237940020838636201189597232 0 (.seq (.ops [.xs [bi 65 .lss 3 (T 64) (T 63)]])
 (.seq (.cond (T 65) (.skip)
 (.exit 2))
 (.seq (.block 3 (.seq (.ops [.xs [R 66 (T 64),bb 67 25 (T 62) (T 64),aO 68 3 (T 67),al 13 (T 66),al 14 (T 68)]])
 (.seq (.seq (.box 19342222818023708089647104 0 (.ops [.xs [R 69 (T 14),bi 70 .lss 3 (T 69) (ak 0),R 71 (T 70),aN 71 false (R 72 (T 14)),aN 71 false (R 73 (T 6)),aN 71 false (bi 74 .geq 3 (T 72) (T 73)),cX 75 (T 71) (C (.bool true)) (T 74),R 76 (T 75)],
  .bk (some (76,false)) 77 48 12 1 12 1,.aO (some (76,false)) 78 25 77 12 1,
  .xs [aN 76 false (R 79 (T 14)),aN 76 false (bb 80 25 (T 78) (T 79)),aN 76 false (aO 81 3 (T 80)),aN 76 false (bi 82 .geq 3 (T 81) (ak 0)),cX 83 (T 76) (C (.bool true)) (T 82)]]))
 (.cond (T 83) (.seq (.ops [.xs [al 4 (C (.bool false)),al 5 (ak 0)]])
 (.ret))
 (.skip)))
 (.ops [.bk none 84 48 12 1 12 1,.aO none 85 25 84 12 1,.xs [R 86 (T 14),R 87 (T 13),bb 88 25 (T 85) (T 86),st 3 (T 88) (T 87)]]))))
 (.ops [.xs [bi 89 .add 3 (T 64) (ak 1),R 64 (T 89)]])))))))
 (.ops [.xs [R 90 (T 7)],.b3 none 91 48 12 12,.xs [fb 92 37 1 [(0,T 91)],ap 93 37 37 (T 90) (T 92),al 7 (T 93)]])))))))
 (.ops [.xs [bi 94 .add 3 (T 35) (ak 1),R 35 (T 94)]])))))))
 (.seq (.ops [.xs [R 96 (T 7),R 97 (T 6),R 98 (T 6),a6 99 17 [T 96,T 97,T 98],R 95 (T 99),ex 100 (T 95) 0,ex 101 (T 95) 1,ex 102 (T 95) 2],
  .bY 15 51,.bY 16 44,.cD true none 51 15 (T 100) 15,.cD true none 44 16 (T 101) 16,.xs [al 17 (T 102)]])
 (.seq (.box 1287933009831881071920650456662064 0 (.ops [.xs [R 103 (T 17),R 104 (T 103),aN 104 true (R 105 (T 0)),aN 104 true (bg (a6 106 18 [T 105]))],.b3 (some (104,true)) 107 51 15 15,
  .xs [aN 104 true (a6 108 19 [T 106,T 107]),cX 109 (T 104) (T 108) (C (.bool false)),al 4 (T 109),al 5 (ak 0)]]))
 (.ret)))))))),[.tmp 4,.tmp 5]⟩
def GU:dn:=⟨.seq (.ops [.xs [al 2 (C (.bool false))]])
 (.seq (.seq (.ops [.xs [al 3 (ak 0)]])
 (.block 0 (.loop 281474976710652 0 (.seq (.seq (.ops [.xs [R 5 (T 3),R 6 (T 0),bB 7 22 (T 6),bi 8 .lss 3 (T 5) (T 7)]])
 (.cond (T 8) (.skip)
 (.exit 0)))
 (.seq (.block 1 (.seq (.seq (.box 1073739776 0 (.ops [.xs [R 11 (T 0),R 12 (T 3),bb 13 22 (T 11) (T 12),aO 14 25 (T 13),bB 15 25 (T 14),R 16 (T 0),bb 17 22 (T 16) (ak 0),aO 18 25 (T 17),bB 19 25 (T 18),bi 20 .neq 3 (T 15) (T 19),R 21 (T 20),aN 21 false (R 22 (T 0)),aN 21 false (R 23 (T 3)),aN 21 false (bb 24 22 (T 22) (T 23)),aN 21 false (aO 25 25 (T 24)),aN 21 false (bB 26 25 (T 25)),aN 21 false (a6 27 20 [T 26,ak 1,ak 8]),aN 21 false (un 28 .not (T 27)),cX 29 (T 21) (C (.bool true)) (T 28)]]))
 (.cond (T 29) (.seq (.ops [.xs [al 2 (C (.bool false))]])
 (.ret))
 (.skip)))
 (.seq (.ops [.xs [al 4 (ak 0)]])
 (.block 2 (.loop 281473902968852 0 (.seq (.seq (.ops [.xs [R 30 (T 4),R 31 (T 0),R 32 (T 3),bb 33 22 (T 31) (T 32),aO 34 25 (T 33),bB 35 25 (T 34),bi 36 .lss 3 (T 30) (T 35)]])
 (.cond (T 36) (.skip)
 (.exit 2)))
 (.seq (.block 3 (.seq (.ops [.xs [R 39 (T 0),R 40 (T 3),bb 41 22 (T 39) (T 40),aO 42 25 (T 41),R 43 (T 4),bb 44 25 (T 42) (T 43),aO 45 3 (T 44),a6 46 20 [T 45,ak 0,ak 1000],un 47 .not (T 46)]])
 (.cond (T 47) (.seq (.ops [.xs [al 2 (C (.bool false))]])
 (.ret))
 (.skip))))
 (.ops [.xs [R 37 (T 4),bi 38 .add 3 (T 37) (ak 1),al 4 (T 38)]]))))))))
 (.ops [.xs [R 9 (T 3),bi 10 .add 3 (T 9) (ak 1),al 3 (T 10)]]))))))
 (.seq (.ops [.xs [R 48 (T 0),bB 49 22 (T 48),a6 50 20 [T 49,ak 1,ak 8],al 2 (T 50)]])
 (.ret))),[.tmp 2]⟩
def GS:dn:=⟨.seq (.ops [.xs [al 2 (C (.bool false))]])
 (.seq (.ops [.xs [R 7 (T 0),a6 8 21 [T 7],R 6 (T 8),ex 9 (T 6) 0,ex 10 (T 6) 1,al 3 (T 9),al 4 (T 10)]])
 (.seq (.seq (.ops [.xs [R 11 (T 3),bB 12 25 (T 11),R 13 (T 4),bB 14 25 (T 13),bi 15 .neq 3 (T 12) (T 14)]])
 (.cond (T 15) (.seq (.ops [.xs [al 2 (C (.bool false))]])
 (.ret))
 (.skip)))
 (.seq (.seq (.ops [.xs [al 5 (ak 0)]])
 (.block 0 (.loop 1099511562276 0 (.seq (.seq (.ops [.xs [R 16 (T 5),R 17 (T 3),bB 18 25 (T 17),bi 19 .lss 3 (T 16) (T 18)]])
 (.cond (T 19) (.skip)
 (.exit 0)))
 (.seq (.block 1 (.seq (.box 1099507433472 0 (.ops [.xs [R 22 (T 3),R 23 (T 5),bb 24 25 (T 22) (T 23),aO 25 3 (T 24),R 26 (T 3),bb 27 25 (T 26) (ak 0),aO 28 3 (T 27),bi 29 .neq 3 (T 25) (T 28),R 30 (T 29),aN 30 false (R 31 (T 4)),aN 30 false (R 32 (T 5)),aN 30 false (bb 33 25 (T 31) (T 32)),aN 30 false (aO 34 3 (T 33)),aN 30 false (R 35 (T 3)),aN 30 false (bb 36 25 (T 35) (ak 0)),aN 30 false (aO 37 3 (T 36)),aN 30 false (bi 38 .neq 3 (T 34) (T 37)),cX 39 (T 30) (C (.bool true)) (T 38)]]))
 (.cond (T 39) (.seq (.ops [.xs [al 2 (C (.bool false))]])
 (.ret))
 (.skip))))
 (.ops [.xs [R 20 (T 5),bi 21 .add 3 (T 20) (ak 1),al 5 (T 21)]]))))))
 (.seq (.ops [.xs [al 2 (C (.bool true))]])
 (.ret))))),[.tmp 2]⟩
def Gx:dn:=⟨.seq (.ops [.xs [al 0 (C (.bool false))]])
 (.seq (.ops [.xs [fb 10 25 2 [(0,ak 2),(1,ak 1)],fb 11 25 2 [(0,ak 1),(1,ak 2)],fb 12 22 2 [(0,T 10),(1,T 11)],al 1 (T 12)]])
 (.seq (.ops [.xs [R 14 (T 1),a6 15 22 [T 14],R 13 (T 15),ex 16 (T 13) 0,ex 17 (T 13) 1,ex 18 (T 13) 2,ex 19 (T 13) 3,al 2 (T 16),al 3 (T 17),al 4 (T 18),al 5 (T 19)]])
 (.seq (.ops [.xs [R 21 (T 1),a6 22 23 [T 21],R 20 (T 22),ex 23 (T 20) 0,ex 24 (T 20) 1,al 6 (T 23),al 7 (T 24)]])
 (.seq (.ops [.xs [R 26 (T 1),R 27 (T 6),a6 28 24 [T 26,T 27],R 25 (T 28),ex 29 (T 25) 0,ex 30 (T 25) 1,al 8 (T 29),al 9 (T 30)]])
 (.seq (.box 144115185928372225 0 (.ops [.xs [R 31 (T 2),bi 32 .eql 3 (T 31) (ak 3),R 33 (T 32),aN 33 true (R 34 (T 3)),aN 33 true (bi 35 .eql 3 (T 34) (ak 0)),cX 36 (T 33) (T 35) (C (.bool false)),R 37 (T 36),aN 37 true (R 38 (T 4)),aN 37 true (bi 39 .eql 3 (T 38) (ak 0)),cX 40 (T 37) (T 39) (C (.bool false)),R 41 (T 40),aN 41 true (R 42 (T 5)),aN 41 true (bi 43 .eql 29 (T 42) (ak 0)),cX 44 (T 41) (T 43) (C (.bool false)),R 45 (T 44),aN 45 true (R 46 (T 7)),aN 45 true (bi 47 .eql 29 (T 46) (ak 0)),cX 48 (T 45) (T 47) (C (.bool false)),R 49 (T 48),aN 49 true (R 50 (T 8)),aN 49 true ((bi 51 .eql 38 (T 50) (C (.string {data:= #[51]})))),cX 52 (T 49) (T 51) (C (.bool false)),R 53 (T 52),aN 53 true (R 54 (T 9)),aN 53 true (bi 55 .eql 29 (T 54) (ak 0)),cX 56 (T 53) (T 55) (C (.bool false)),al 0 (T 56)]]))
 (.ret)))))),[.tmp 0]⟩
def GR:dn:=⟨.seq (.ops [.xs [al 4 (C (.bool false))]])
 (.seq (.ops [.xs [R 14 (T 0),bB 15 22 (T 14),al 5 (T 15)]])
 (.seq (.seq (.ops [.xs [R 16 (T 1),bB 17 23 (T 16),R 18 (T 5),R 19 (T 5),bi 20 .mul 3 (T 18) (T 19),R 21 (T 5),bi 22 .mul 3 (ak 2) (T 21),bi 23 .sub 3 (T 20) (T 22),bi 24 .add 3 (T 23) (ak 2),bi 25 .gtr 3 (T 17) (T 24)]])
 (.cond (T 25) (.seq (.ops [.xs [al 4 (C (.bool false))]])
 (.ret))
 (.skip)))
 (.seq (.ops [.xs [fb 26 22 0 [],al 6 (T 26)]])
 (.seq (.seq (.ops [.xs [al 7 (ak 0)]])
 (.block 0 (.loop 2198889038016 0 (.seq (.seq (.ops [.xs [R 27 (T 7),R 28 (T 5),bi 29 .lss 3 (T 27) (T 28)]])
 (.cond (T 29) (.skip)
 (.exit 0)))
 (.seq (.block 1 (.ops [.xs [R 32 (T 6),fb 33 25 0 [],R 34 (T 0),R 35 (T 7),bb 36 22 (T 34) (T 35),aO 37 25 (T 36),ap 38 25 25 (T 33) (T 37),fb 39 22 1 [(0,T 38)],ap 40 22 22 (T 32) (T 39),al 6 (T 40)]]))
 (.ops [.xs [R 30 (T 7),bi 31 .add 3 (T 30) (ak 1),al 7 (T 31)]]))))))
 (.seq (.seq (.ops [.xs [al 8 (ak 0)]])
 (.block 2 (.loop 2658455991569831745807611921537437456 0 (.seq (.seq (.ops [.xs [R 41 (T 8),R 42 (T 1),bB 43 23 (T 42),bi 44 .lss 3 (T 41) (T 43)]])
 (.cond (T 44) (.skip)
 (.exit 2)))
 (.seq (.block 3 (.seq (.seq (.box 9223231299366420480 0 (.ops [.xs [R 47 (T 1),R 48 (T 8),bb 49 23 (T 47) (T 48),bk 50 27 (T 49) 0,aO 51 3 (T 50),bi 52 .lss 3 (T 51) (ak 1),R 53 (T 52),aN 53 false (R 54 (T 1)),aN 53 false (R 55 (T 8)),aN 53 false (bb 56 23 (T 54) (T 55)),aN 53 false (bk 57 27 (T 56) 1),aN 53 false (aO 58 25 (T 57)),aN 53 false (bB 59 25 (T 58)),aN 53 false (R 60 (T 5)),aN 53 false (bi 61 .neq 3 (T 59) (T 60)),cX 62 (T 53) (C (.bool true)) (T 61)]]))
 (.cond (T 62) (.seq (.ops [.xs [al 4 (C (.bool false))]])
 (.ret))
 (.skip)))
 (.seq (.ops [.xs [R 63 (T 5),ms 64 64 (T 63) (T 63),al 9 (T 64)]])
 (.seq (.ops [.xs [al 10 (ak 0)]])
 (.block 4 (.loop 2658455991569831708914125973141589008 0 (.seq (.seq (.ops [.xs [R 65 (T 10),R 66 (T 5),bi 67 .lss 3 (T 65) (T 66)]])
 (.cond (T 67) (.skip)
 (.exit 4)))
 (.seq (.block 5 (.seq (.ops [.xs [R 70 (T 1),R 71 (T 8),bb 72 23 (T 70) (T 71),bk 73 27 (T 72) 1,aO 74 25 (T 73),R 75 (T 10),bb 76 25 (T 74) (T 75),aO 77 3 (T 76),al 11 (T 77)]])
 (.seq (.seq (.box 20282409301420215520289957609472 0 (.ops [.xs [R 78 (T 11),R 79 (T 5),bi 80 .sub 3 (T 79) (ak 1),a6 81 20 [T 78,ak 0,T 80],un 82 .not (T 81),R 83 (T 82),aN 83 false (R 84 (T 9)),aN 83 false (R 85 (T 11)),aN 83 false (bb 86 64 (T 84) (T 85)),aN 83 false (aO 87 4 (T 86)),cX 88 (T 83) (C (.bool true)) (T 87),R 89 (T 88),aN 89 false (R 90 (T 6)),aN 89 false (R 91 (T 10)),aN 89 false (bb 92 22 (T 90) (T 91)),aN 89 false (aO 93 25 (T 92)),aN 89 false (R 94 (T 11)),aN 89 false (bb 95 25 (T 93) (T 94)),aN 89 false (aO 96 3 (T 95)),aN 89 false (R 97 (T 1)),aN 89 false (R 98 (T 8)),aN 89 false (bb 99 23 (T 97) (T 98)),aN 89 false (bk 100 27 (T 99) 0),aN 89 false (aO 101 3 (T 100)),aN 89 false (bi 102 .lss 3 (T 96) (T 101)),cX 103 (T 89) (C (.bool true)) (T 102)]]))
 (.cond (T 103) (.seq (.ops [.xs [al 4 (C (.bool false))]])
 (.ret))
 (.skip)))
 (.seq (.ops [.xs [R 104 (T 9),R 105 (T 11),bb 106 64 (T 104) (T 105),st 4 (T 106) (C (.bool true))]])
 (.ops [.xs [R 107 (T 6),R 108 (T 10),bb 109 22 (T 107) (T 108),aO 110 25 (T 109),R 111 (T 11),bb 112 25 (T 110) (T 111),aO 113 3 (T 112),R 114 (T 1),R 115 (T 8),bb 116 23 (T 114) (T 115),bk 117 27 (T 116) 0,aO 118 3 (T 117),bi 119 .sub 3 (T 113) (T 118),bb 120 25 (T 110) (T 111),st 3 (T 120) (T 119)]])))))
 (.ops [.xs [R 68 (T 10),bi 69 .add 3 (T 68) (ak 1),al 10 (T 69)]])))))))))
 (.ops [.xs [R 45 (T 8),bi 46 .add 3 (T 45) (ak 1),al 8 (T 46)]]))))))
 (.seq (.seq (.ops [.xs [al 12 (ak 0)]])
 (.block 6 (.loop 696895628998090403341245388406140736385040 0 (.seq (.seq (.ops [.xs [R 121 (T 12),R 122 (T 5),bi 123 .lss 3 (T 121) (T 122)]])
 (.cond (T 123) (.skip)
 (.exit 6)))
 (.seq (.block 7 (.seq (.ops [.xs [al 13 (ak 0)]])
 (.block 8 (.loop 696813216862351738557125352368403355017232 0 (.seq (.seq (.ops [.xs [R 126 (T 13),R 127 (T 5),bi 128 .lss 3 (T 126) (T 127)]])
 (.cond (T 128) (.skip)
 (.exit 8)))
 (.seq (.block 9 (.seq (.ops [.xs [R 131 (T 6),R 132 (T 12),bb 133 22 (T 131) (T 132),aO 134 25 (T 133),R 135 (T 13),bb 136 25 (T 134) (T 135),aO 137 3 (T 136),bi 138 .neq 3 (T 137) (ak 0)]])
 (.cond (T 138) (.seq (.ops [.xs [al 4 (C (.bool false))]])
 (.ret))
 (.skip))))
 (.ops [.xs [R 129 (T 13),bi 130 .add 3 (T 129) (ak 1),al 13 (T 130)]])))))))
 (.ops [.xs [R 124 (T 12),bi 125 .add 3 (T 124) (ak 1),al 12 (T 125)]]))))))
 (.seq (.ops [.xs [al 4 (C (.bool true))]])
 (.ret)))))))),[.tmp 4]⟩
def G0:dn:=⟨.seq (.ops [.xs [al 2 (C (.bool false))]])
 (.seq (.seq (.box 262080 0 (.ops [.xs [R 6 (T 0),a6 7 28 [T 6],un 8 .not (T 7),R 9 (T 8),aN 9 false (R 10 (T 0)),aN 9 false (bB 11 22 (T 10)),aN 9 false (R 12 (T 0)),aN 9 false (bb 13 22 (T 12) (ak 0)),aN 9 false (aO 14 25 (T 13)),aN 9 false (bB 15 25 (T 14)),aN 9 false (bi 16 .neq 3 (T 11) (T 15)),cX 17 (T 9) (C (.bool true)) (T 16)]]))
 (.cond (T 17) (.seq (.ops [.xs [al 2 (C (.bool false))]])
 (.ret))
 (.skip)))
 (.seq (.ops [.xs [R 18 (T 0),a6 19 18 [T 18]],.bY 3 51,.cD true none 51 3 (T 19) 3])
 (.seq (.ops [.b3 none 20 51 3 3,.xs [a6 21 29 [T 20]],.bY 4 51,.cD true none 51 4 (T 21) 4])
 (.seq (.seq (.ops [.xs [R 22 (T 0),bB 23 22 (T 22),R 24 (ak 0)]])
 (.block 0 (.loop 17592169267236 0 (.seq (.ops [.xs [bi 25 .lss 3 (T 24) (T 23)]])
 (.seq (.cond (T 25) (.skip)
 (.exit 0))
 (.seq (.block 1 (.seq (.ops [.xs [R 26 (T 24),al 5 (T 26)]])
 (.seq (.box 8795958804480 0 (.ops [.b3 none 27 51 3 3,.xs [R 28 (T 5),bg (a6 29 30 [T 27,T 28])],.b3 none 30 51 3 3,
  .xs [a6 31 30 [T 30,ak 0],a6 32 31 [T 29,T 31],bi 33 .neq 3 (T 32) (ak 0),R 34 (T 33)],.b3 (some (34,false)) 35 51 4 4,
  .xs [aN 34 false (R 36 (T 5)),aN 34 false (bg (a6 37 30 [T 35,T 36]))],.b3 (some (34,false)) 38 51 3 3,
  .xs [aN 34 false (a6 39 30 [T 38,ak 0]),aN 34 false (a6 40 31 [T 37,T 39]),aN 34 false (bi 41 .neq 3 (T 40) (ak 0)),cX 42 (T 34) (C (.bool true)) (T 41)]]))
 (.cond (T 42) (.seq (.ops [.xs [al 2 (C (.bool false))]])
 (.ret))
 (.skip)))))
 (.ops [.xs [bi 43 .add 3 (T 24) (ak 1),R 24 (T 43)]])))))))
 (.seq (.ops [.xs [al 2 (C (.bool true))]])
 (.ret)))))),[.tmp 2]⟩
def GH:dn:=⟨.seq (.ops [.cZ 1 44 (T 0),.xs [al 2 (C (.string {data:= #[]})),al 3 (ak 0)]])
 (.seq (.ops [.bk none 6 44 1 0 1 0,.bk none 7 42 6 1 1 1,.aO none 8 40 7 1 1,.xs [a6 9 33 [T 8],al 4 (T 9)]])
 (.seq (.seq (.ops [.xs [R 10 (T 4),bB 11 9 (T 10),bi 12 .gtr 3 (T 11) (ak 4000)]])
 (.cond (T 12) (.seq (.ops [.xs [al 2 (C (.string {data:= #[]})),al 3 (ak 5)]])
 (.ret))
 (.skip)))
 (.seq (.box 253968 0 (.seq (.ops [.bk none 13 44 1 0 1 0,.bk none 14 42 13 0 1 0,.aO none 15 4 14 1 0])
 (.cond (T 15) (.ops [.xs [R 16 (T 4),bi 17 .add 9 (C (.string {data:= #[45]})) (T 16),al 4 (T 17)]])
 (.skip))))
 (.seq (.seq (.ops [.b3 none 18 44 1 1,.xs [a6 19 34 [T 18]]])
 (.cond (T 19) (.seq (.ops [.xs [R 20 (T 4),al 2 (T 20),al 3 (ak 0)]])
 (.ret))
 (.skip)))
 (.seq (.ops [.bk none 21 44 1 1 1 2,.bk none 22 42 21 1 1 3,.aO none 23 40 22 1 3,.xs [a6 24 33 [T 23],al 5 (T 24)]])
 (.seq (.seq (.ops [.xs [R 25 (T 5),bB 26 9 (T 25),bi 27 .gtr 3 (T 26) (ak 4000)]])
 (.cond (T 27) (.seq (.ops [.xs [al 2 (C (.string {data:= #[]})),al 3 (ak 5)]])
 (.ret))
 (.skip)))
 (.seq (.ops [.xs [R 28 (T 4),bi 29 .add 9 (T 28) (C (.string {data:= #[47]})),R 30 (T 5),bi 31 .add 9 (T 29) (T 30),al 2 (T 31),al 3 (ak 0)]])
 (.ret)))))))),[.tmp 2,.tmp 3]⟩
def Hd:dn:=⟨.seq (.ops [.xs [al 4 (C (.slice none 0 0))]])
 (.seq (.box 3584 0 (.seq (.ops [.xs [R 9 (T 1),bi 10 .lss 3 (T 9) (ak 0)]])
 (.cond (T 10) (.ops [.xs [l0 11 9 (C (.string {data:= #[99,97,110,110,111,116,32,98,101,32,110,101,103,97,116,105,118,101]})),(⟨true,none,none,.panic (T 11)⟩)]])
 (.skip))))
 (.seq (.ops [.xs [R 13 (T 0),bB 14 25 (T 13),cg 15 3 76 (T 14),R 16 (T 1),cg 17 3 76 (T 16),a6 18 35 [T 15,T 17],R 12 (T 18),ex 19 (T 12) 0,ex 20 (T 12) 1,al 5 (T 19),al 6 (T 20)]])
 (.seq (.box 266338304 0 (.seq (.box 132120576 0 (.ops [.xs [R 21 (T 5),bi 22 .gtr 76 (T 21) (C (.int .u64 0)),R 23 (T 22),aN 23 false (R 24 (T 6)),aN 23 false ((bi 25 .gtr 76 (T 24) (C (.int .u64 9223372036854775807)))),cX 26 (T 23) (C (.bool true)) (T 25)]]))
 (.cond (T 26) (.ops [.xs [l0 27 9 (C (.string {data:= #[116,104,101,32,114,101,115,117,108,116,32,111,102,32,40,108,101,110,40,120,41,32,42,32,99,111,117,110,116,41,32,111,118,101,114,102,108,111,119,115]})),(⟨true,none,none,.panic (T 27)⟩)]])
 (.skip))))
 (.seq (.ops [.xs [R 28 (T 6),cg 29 76 3 (T 28),ms 30 25 (T 29) (T 29),al 7 (T 30)]])
 (.seq (.ops [.xs [R 31 (T 7),R 32 (T 0),cp 33 25 25 (T 31) (T 32),al 8 (T 33)]])
 (.seq (.block 0 (.loop 140720308486400 0 (.seq (.seq (.ops [.xs [R 34 (T 8),R 35 (T 7),bB 36 25 (T 35),bi 37 .lss 3 (T 34) (T 36)]])
 (.cond (T 37) (.skip)
 (.exit 0)))
 (.block 1 (.ops [.xs [R 38 (T 8),R 39 (T 7),R 40 (T 8),bg (gm 41 25 (T 39) (some (T 40)) none none),R 42 (T 7),R 43 (T 8),bg (gm 44 25 (T 42) none (some (T 43)) none),cp 45 25 25 (T 41) (T 44),bi 46 .add 3 (T 38) (T 45),al 8 (T 46)]])))))
 (.seq (.ops [.xs [R 47 (T 7),al 4 (T 47)]])
 (.ret)))))))),[.tmp 4]⟩
def GZ:dn:=⟨.seq (.ops [.bY 6 51,.bY 7 44,.xs [al 8 (C (.bool false))]])
 (.seq (.ops [.xs [R 17 (T 2),ms 18 25 (T 17) (T 17),fb 19 22 1 [(0,T 18)],R 20 (T 1),a6 21 36 [T 19,T 20],a6 22 18 [T 21],a6 23 14 [ak 0]],
  .bY 9 51,.bY 10 44,.cD true none 51 9 (T 22) 9,.cD true none 44 10 (T 23) 10])
 (.seq (.seq (.ops [.xs [R 24 (T 0),bB 25 37 (T 24),R 26 (ak 0)]])
 (.block 0 (.loop 40564819207303340847894435590400 13504 (.seq (.ops [.xs [bi 27 .lss 3 (T 26) (T 25)]])
 (.seq (.cond (T 27) (.skip)
 (.exit 0))
 (.seq (.block 1 (.seq (.ops [.xs [bb 28 37 (T 24) (T 26),aO 29 48 (T 28)],.bY 12 48,.cD true none 48 12 (T 29) 12])
 (.seq (.ops [.bk none 31 48 12 0 12 0,.aO none 32 38 31 12 0,.xs [a6 33 37 [T 32],R 30 (T 33),ex 34 (T 30) 0,ex 35 (T 30) 1],.bY 13 44,
  .cD true none 44 13 (T 34) 13,.xs [al 14 (T 35)]])
 (.seq (.seq (.box 1125831187365888 0 (.ops [.xs [R 36 (T 14),un 37 .not (T 36),R 38 (T 37)],.b3 (some (38,false)) 39 44 13 13,
  .xs [aN 38 false (a6 40 38 [T 39]),aN 38 false (bi 41 .leq 3 (T 40) (ak 0)),cX 42 (T 38) (C (.bool true)) (T 41),R 43 (T 42)],
  .bk (some (43,false)) 44 48 12 1 12 1,.aO (some (43,false)) 45 25 44 12 1,
  .xs [aN 43 false (bB 46 25 (T 45)),aN 43 false (R 47 (T 2)),aN 43 false (bi 48 .neq 3 (T 46) (T 47)),cX 49 (T 43) (C (.bool true)) (T 48)]]))
 (.cond (T 49) (.seq (.opsL [.xs [eS 50 51 []],.b3 none 51 44 10 10,.cD false none 51 6 (T 50) 6,.cD true none 44 7 (T 51) 7,.xs [al 8 (C (.bool false))]])
 (.ret))
 (.skip)))
 (.seq (.seq (.ops [.bk none 52 48 12 1 12 1,.aO none 53 25 52 12 1,.xs [bB 54 25 (T 53),R 55 (ak 0)]])
 (.block 2 (.loop 2535301200456422774196387545344 192 (.seq (.ops [.xs [bi 56 .lss 3 (T 55) (T 54)]])
 (.seq (.cond (T 56) (.skip)
 (.exit 2))
 (.seq (.box 1267650600228085286308627448064 192 (.block 3 (.seq (.ops [.xs [R 57 (T 55),bb 58 25 (T 53) (T 55),aO 59 3 (T 58),al 15 (T 57),al 16 (T 59)]])
 (.seq (.seq (.box 604461756885809980506112 0 (.ops [.xs [R 60 (T 16),bi 61 .lss 3 (T 60) (ak (-1)),R 62 (T 61),aN 62 false (R 63 (T 16)),aN 62 false (R 64 (T 1)),aN 62 false (bi 65 .geq 3 (T 63) (T 64)),cX 66 (T 62) (C (.bool true)) (T 65),R 67 (T 66),aN 67 false (R 68 (T 16)),aN 67 false (bi 69 .geq 3 (T 68) (ak 0)),aN 67 false (R 70 (T 69))],
  .bk (some (70,true)) 71 48 12 1 12 1,.aO (some (70,true)) 72 25 71 12 1,
  .xs [aN 70 true (R 73 (T 15)),aN 70 true ((gm 74 25 (T 72) none (some (T 73)) none)),aN 70 true (R 75 (T 16)),aN 70 true (a6 76 39 [T 74,T 75]),aN 67 false ((cX 77 (T 70) (T 76) (C (.bool false)))),cX 78 (T 67) (C (.bool true)) (T 77)]]))
 (.cond (T 78) (.seq (.opsL [.xs [eS 79 51 []],.b3 none 80 44 10 10,.cD false none 51 6 (T 79) 6,.cD true none 44 7 (T 80) 7,.xs [al 8 (C (.bool false))]])
 (.ret))
 (.skip)))
 (.seq (.ops [.xs [R 81 (T 16),bi 82 .geq 3 (T 81) (ak 0)]])
 (.cond (T 82) (.ops [.bk none 83 51 9 0 9 0,.aO none 84 49 83 9 0,.xs [R 85 (T 16),bb 86 49 (T 84) (T 85),aO 87 84 (T 86),R 88 (T 15)],.bk none 89 51 9 0 9 0,
  .aO none 90 49 89 9 0,.xs [R 91 (T 16),bb 92 49 (T 90) (T 91),aO 93 84 (T 92),R 94 (T 15),bb 95 84 (T 93) (T 94),aO 96 44 (T 95)],
  .b3 none 97 44 13 13,.xs [bg (a6 98 40 [T 96,T 97]),bb 99 84 (T 87) (T 88),st 44 (T 99) (T 98)]])
 (.skip)))))))
 (.ops [.xs [bi 100 .add 3 (T 55) (ak 1),R 55 (T 100)]])))))))
 (.ops [.b3 none 101 44 10 10,.b3 none 102 44 13 13,.xs [a6 103 40 [T 101,T 102]],.cD true none 44 10 (T 103) 10]))))))
 (.ops [.xs [bi 104 .add 3 (T 26) (ak 1),R 26 (T 104)]])))))))
 (.seq (.opsL [.b3 none 105 51 9 9,.b3 none 106 44 10 10,.xs [R 107 (T 0),bB 108 37 (T 107),bi 109 .leq 3 (T 108) (ak 1000)],
  .cD false none 51 6 (T 105) 6,.cD true none 44 7 (T 106) 7,.xs [al 8 (T 109)]])
 (.ret)))),[.cell 6 51,.cell 7 44,.tmp 8]⟩
def G2:dn:=⟨.seq (.ops [.bY 2 51])
 (.seq (.ops [.xs [al 3 (C (.slice none 0 0))]])
 (.seq (.seq (.ops [.xs [R 9 (T 0),bB 10 22 (T 9),R 11 (ak 0)]])
 (.block 0 (.loop 4294965608 0 (.seq (.ops [.xs [bi 12 .lss 3 (T 11) (T 10)]])
 (.seq (.cond (T 12) (.skip)
 (.exit 0))
 (.seq (.block 1 (.seq (.ops [.xs [bb 13 22 (T 9) (T 11),aO 14 25 (T 13),al 5 (T 14)]])
 (.seq (.ops [.xs [al 6 (C (.slice none 0 0))]])
 (.seq (.seq (.ops [.xs [R 15 (T 5),bB 16 25 (T 15),R 17 (ak 0)]])
 (.block 2 (.loop 134086976 0 (.seq (.ops [.xs [bi 18 .lss 3 (T 17) (T 16)]])
 (.seq (.cond (T 18) (.skip)
 (.exit 2))
 (.seq (.block 3 (.seq (.ops [.xs [bb 19 25 (T 15) (T 17),aO 20 3 (T 19),al 8 (T 20)]])
 (.ops [.xs [R 21 (T 6),R 22 (T 8),a6 23 14 [T 22],fb 24 84 1 [(0,T 23)],ap 25 84 84 (T 21) (T 24),al 6 (T 25)]])))
 (.ops [.xs [bi 26 .add 3 (T 17) (ak 1),R 17 (T 26)]])))))))
 (.ops [.xs [R 27 (T 3),R 28 (T 6),fb 29 49 1 [(0,T 28)],ap 30 49 49 (T 27) (T 29),al 3 (T 30)]])))))
 (.ops [.xs [bi 31 .add 3 (T 11) (ak 1),R 11 (T 31)]])))))))
 (.seq (.ops [.xs [R 32 (T 3),eS 33 51 [(0,T 32)]],.cD true none 51 2 (T 33) 2])
 (.ret)))),[.cell 2 51]⟩
def G6:dn:=⟨.seq (.ops [.cZ 2 51 (T 0),.cZ 3 51 (T 1),.xs [al 4 (C (.bool false))]])
 (.seq (.seq (.ops [.bk none 9 51 2 0 2 0,.aO none 10 49 9 2 0,.xs [bB 11 49 (T 10),R 12 (ak 0)]])
 (.block 0 (.loop 137438949872 256 (.seq (.ops [.xs [bi 13 .lss 3 (T 12) (T 11)]])
 (.seq (.cond (T 13) (.skip)
 (.exit 0))
 (.seq (.block 1 (.seq (.ops [.xs [R 14 (T 12),bb 15 49 (T 10) (T 12),aO 16 84 (T 15),al 5 (T 14),al 6 (T 16)]])
 (.seq (.ops [.xs [R 17 (T 6),bB 18 84 (T 17),R 19 (ak 0)]])
 (.block 2 (.loop 68718952848 256 (.seq (.ops [.xs [bi 20 .lss 3 (T 19) (T 18)]])
 (.seq (.cond (T 20) (.skip)
 (.exit 2))
 (.seq (.block 3 (.seq (.ops [.xs [R 21 (T 19),bb 22 84 (T 17) (T 19),aO 23 44 (T 22)],.bY 8 44,.xs [al 7 (T 21)],.cD true none 44 8 (T 23) 8])
 (.seq (.ops [.b3 none 24 44 8 8,.bk none 25 51 3 0 3 0,.aO none 26 49 25 3 0,
  .xs [R 27 (T 5),bb 28 49 (T 26) (T 27),aO 29 84 (T 28),R 30 (T 7),bb 31 84 (T 29) (T 30),aO 32 44 (T 31),a6 33 31 [T 24,T 32],bi 34 .neq 3 (T 33) (ak 0)]])
 (.cond (T 34) (.seq (.ops [.xs [al 4 (C (.bool false))]])
 (.ret))
 (.skip)))))
 (.ops [.xs [bi 35 .add 3 (T 19) (ak 1),R 19 (T 35)]])))))))))
 (.ops [.xs [bi 36 .add 3 (T 12) (ak 1),R 12 (T 36)]])))))))
 (.seq (.ops [.xs [al 4 (C (.bool true))]])
 (.ret))),[.tmp 4]⟩
def GQ:dn:=⟨.seq (.ops [.xs [al 2 (C (.slice none 0 0)),al 3 (C (.slice none 0 0))]])
 (.seq (.ops [.xs [R 8 (T 0),bB 9 22 (T 8),bg (ms 10 25 (T 9) (T 9)),R 11 (T 0),bb 12 22 (T 11) (ak 0),aO 13 25 (T 12),bB 14 25 (T 13),bg (ms 15 25 (T 14) (T 14)),al 4 (T 10),al 5 (T 15)]])
 (.seq (.seq (.ops [.xs [al 6 (ak 0)]])
 (.block 0 (.loop 144115188075790528 0 (.seq (.seq (.ops [.xs [R 16 (T 6),R 17 (T 0),bB 18 22 (T 17),bi 19 .lss 3 (T 16) (T 18)]])
 (.cond (T 19) (.skip)
 (.exit 0)))
 (.seq (.block 1 (.seq (.ops [.xs [al 7 (ak 0)]])
 (.block 2 (.loop 144115188071661696 0 (.seq (.seq (.ops [.xs [R 22 (T 7),R 23 (T 0),R 24 (T 6),bb 25 22 (T 23) (T 24),aO 26 25 (T 25),bB 27 25 (T 26),bi 28 .lss 3 (T 22) (T 27)]])
 (.cond (T 28) (.skip)
 (.exit 2)))
 (.seq (.block 3 (.seq (.ops [.xs [R 31 (T 4),R 32 (T 6),bb 33 25 (T 31) (T 32),aO 34 3 (T 33),R 35 (T 0),R 36 (T 6),bb 37 22 (T 35) (T 36),aO 38 25 (T 37),R 39 (T 7),bb 40 25 (T 38) (T 39),aO 41 3 (T 40),bi 42 .add 3 (T 34) (T 41),bb 43 25 (T 31) (T 32),st 3 (T 43) (T 42)]])
 (.ops [.xs [R 44 (T 5),R 45 (T 7),bb 46 25 (T 44) (T 45),aO 47 3 (T 46),R 48 (T 0),R 49 (T 6),bb 50 22 (T 48) (T 49),aO 51 25 (T 50),R 52 (T 7),bb 53 25 (T 51) (T 52),aO 54 3 (T 53),bi 55 .add 3 (T 47) (T 54),bb 56 25 (T 44) (T 45),st 3 (T 56) (T 55)]])))
 (.ops [.xs [R 29 (T 7),bi 30 .add 3 (T 29) (ak 1),al 7 (T 30)]])))))))
 (.ops [.xs [R 20 (T 6),bi 21 .add 3 (T 20) (ak 1),al 6 (T 21)]]))))))
 (.seq (.ops [.xs [R 57 (T 4),R 58 (T 5),al 2 (T 57),al 3 (T 58)]])
 (.ret)))),[.tmp 2,.tmp 3]⟩
def GV:dn:=⟨.seq (.ops [.xs [al 2 (ak 0),al 3 (ak 0),al 4 (ak 0),al 5 (ak 0)]])
 (.seq (.seq (.ops [.xs [R 15 (T 0),a6 16 28 [T 15],un 17 .not (T 16)]])
 (.cond (T 17) (.seq (.ops [.xs [al 2 (ak 0),al 3 (ak 0),al 4 (ak 0),al 5 (ak 1)]])
 (.ret))
 (.skip)))
 (.seq (.ops [.xs [R 18 (T 0),a6 19 18 [T 18]],.bY 6 51,.cD true none 51 6 (T 19) 6])
 (.seq (.ops [.b3 none 21 51 6 6,.xs [a6 22 41 [T 21],R 20 (T 22),ex 23 (T 20) 0,ex 24 (T 20) 1],.bY 7 44,.cD true none 44 7 (T 23) 7,
  .xs [al 8 (T 24)]])
 (.seq (.ops [.b3 none 26 51 6 6,.xs [a6 27 29 [T 26],a6 28 41 [T 27],R 25 (T 28),ex 29 (T 25) 0,ex 30 (T 25) 1],.bY 9 44,
  .cD true none 44 9 (T 29) 9,.xs [al 10 (T 30)]])
 (.seq (.seq (.ops [.b3 none 31 44 9 9,.b3 none 32 44 7 7,.xs [a6 33 31 [T 31,T 32],bi 34 .gtr 3 (T 33) (ak 0)]])
 (.cond (T 34) (.seq (.ops [.b3 none 36 44 9 9,.xs [a6 37 26 [T 36],a6 38 27 [T 37],R 35 (T 38),ex 39 (T 35) 0,ex 40 (T 35) 1,al 11 (T 39),al 12 (T 40)]])
 (.seq (.ops [.xs [R 41 (T 11),R 42 (T 10),al 2 (T 41),al 3 (ak 1),al 4 (T 42),al 5 (ak 0)]])
 (.ret)))
 (.skip)))
 (.seq (.ops [.b3 none 44 44 7 7,.xs [a6 45 26 [T 44],a6 46 27 [T 45],R 43 (T 46),ex 47 (T 43) 0,ex 48 (T 43) 1,al 13 (T 47),al 14 (T 48)]])
 (.seq (.ops [.xs [R 49 (T 13),R 50 (T 8),al 2 (T 49),al 3 (ak 0),al 4 (T 50),al 5 (ak 0)]])
 (.ret)))))))),[.tmp 2,.tmp 3,.tmp 4,.tmp 5]⟩
def GY:dn:=⟨.seq (.ops [.xs [al 2 (C (.slice none 0 0)),al 3 (ak 0)]])
 (.seq (.seq (.ops [.xs [R 4 (T 0),a6 5 28 [T 4],un 6 .not (T 5)]])
 (.cond (T 6) (.seq (.ops [.xs [al 2 (C (.slice none 0 0)),al 3 (ak 1)]])
 (.ret))
 (.skip)))
 (.seq (.ops [.xs [R 7 (T 0),a6 8 18 [T 7],a6 9 42 [T 8],ex 10 (T 9) 0,ex 11 (T 9) 1,al 2 (T 10),al 3 (T 11)]])
 (.ret))),[.tmp 2,.tmp 3]⟩
def GW:dn:=⟨.seq (.ops [.xs [al 4 (C (.string {data:= #[]})),al 5 (ak 0)]])
 (.seq (.seq (.ops [.xs [R 10 (T 0),a6 11 28 [T 10],un 12 .not (T 11)]])
 (.cond (T 12) (.seq (.ops [.xs [al 4 (C (.string {data:= #[]})),al 5 (ak 1)]])
 (.ret))
 (.skip)))
 (.seq (.ops [.xs [R 13 (T 0),a6 14 18 [T 13]],.bY 6 51,.cD true none 51 6 (T 14) 6])
 (.seq (.ops [.xs [R 16 (T 1)],.b3 none 17 51 6 6,.xs [bg (a6 18 43 [T 17])],.b3 none 19 51 6 6,
  .xs [bg (a6 20 44 [T 19]),bg (a6 21 17 [T 16,T 18,T 20]),R 15 (T 21),ex 22 (T 15) 0,ex 23 (T 15) 1,ex 24 (T 15) 2],.bY 7 51,
  .bY 8 44,.cD true none 51 7 (T 22) 7,.cD true none 44 8 (T 23) 8,.xs [al 9 (T 24)]])
 (.seq (.seq (.box 8556380160 0 (.ops [.xs [R 25 (T 9),un 26 .not (T 25),R 27 (T 26)],.b3 (some (27,false)) 28 51 6 6,.b3 (some (27,false)) 29 51 7 7,
  .xs [aN 27 false (a6 30 19 [T 28,T 29]),aN 27 false (un 31 .not (T 30)),cX 32 (T 27) (C (.bool true)) (T 31)]]))
 (.cond (T 32) (.seq (.ops [.xs [al 4 (C (.string {data:= #[]})),al 5 (ak 2)]])
 (.ret))
 (.skip)))
 (.seq (.ops [.b3 none 33 44 8 8,.xs [a6 34 15 [T 33],ex 35 (T 34) 0,ex 36 (T 34) 1,al 4 (T 35),al 5 (T 36)]])
 (.ret)))))),[.tmp 4,.tmp 5]⟩
def G3:dn:=⟨.seq (.ops [.cZ 1 51 (T 0),.xs [al 2 (C (.slice none 0 0))]])
 (.seq (.ops [.xs [al 3 (C (.slice none 0 0))]])
 (.seq (.seq (.ops [.bk none 17 51 1 0 1 0,.aO none 18 49 17 1 0,.xs [bB 19 49 (T 18),R 20 (ak 0)]])
 (.block 0 (.loop 1072693288 0 (.seq (.ops [.xs [bi 21 .lss 3 (T 20) (T 19)]])
 (.seq (.cond (T 21) (.skip)
 (.exit 0))
 (.seq (.block 1 (.seq (.ops [.xs [bb 22 49 (T 18) (T 20),aO 23 84 (T 22),al 5 (T 23)]])
 (.ops [.xs [R 24 (T 3),R 25 (T 5),a6 26 45 [T 25],fb 27 49 1 [(0,T 26)],ap 28 49 49 (T 24) (T 27),al 3 (T 28)]])))
 (.ops [.xs [bi 29 .add 3 (T 20) (ak 1),R 20 (T 29)]])))))))
 (.seq (.ops [.xs [R 30 (T 3),eS 31 51 [(0,T 30)]],.bY 6 51,.cD true none 51 6 (T 31) 6])
 (.seq (.ops [.xs [al 7 (C (.slice none 0 0))]])
 (.seq (.block 2 (.loop 10889035741470030830827987437812287930240 18432 (.seq (.seq (.ops [.b3 none 32 51 6 6,.xs [a6 33 30 [T 32,ak 0],a6 34 38 [T 33],bi 35 .gtr 3 (T 34) (ak 0)]])
 (.cond (T 35) (.skip)
 (.exit 2)))
 (.block 3 (.seq (.ops [.b3 none 36 51 6 6,.xs [bg (fb 37 25 1 [(0,ak (-1))])],.b3 none 38 51 6 6,
  .xs [bg (a6 39 44 [T 38]),bg (a6 40 16 [T 37,T 39]),eS 41 92 [(0,T 36),(1,T 40)],cZ 42 92 (T 41),al 8 (T 42)]])
 (.seq (.ops [.xs [R 43 (T 8),uw 44 (.func 46) #[T 43] #[],al 9 (T 44)]])
 (.seq (.seq (.ops [.b3 none 45 51 6 6,.xs [a6 46 43 [T 45],R 47 (ak 0)]])
 (.block 4 (.loop 1152780767118492672 0 (.seq (.ops [.xs [bi 48 .lss 3 (T 47) (T 46)]])
 (.seq (.cond (T 48) (.skip)
 (.exit 4))
 (.seq (.block 5 (.seq (.ops [.xs [R 49 (T 47),al 10 (T 49)]])
 (.seq (.ops [.xs [R 50 (T 8)],.b3 none 51 51 6 6,
  .xs [a6 52 44 [T 51],ms 53 64 (T 52) (T 52),ij 54 (T 50),bk 55 92 (T 54) 2,st 64 (T 55) (T 53)]])
 (.ops [.xs [R 56 (T 9),R 57 (T 10),lD 58 (T 56) [T 57]]]))))
 (.ops [.xs [bi 59 .add 3 (T 47) (ak 1),R 47 (T 59)]])))))))
 (.seq (.ops [.bk none 60 51 6 0 6 0,.aO none 61 49 60 6 0,
  .xs [R 62 (T 8),ij 63 (T 62),bk 64 92 (T 63) 1,aO 65 25 (T 64),bb 66 25 (T 65) (ak 0),aO 67 3 (T 66),bb 68 49 (T 61) (T 67),aO 69 84 (T 68),bb 70 84 (T 69) (ak 0),aO 71 44 (T 70)],
  .bY 11 44,.cD true none 44 11 (T 71) 11])
 (.seq (.seq (.ops [.xs [R 72 (T 8),ij 73 (T 72),bk 74 92 (T 73) 1,aO 75 25 (T 74),bB 76 25 (T 75),R 77 (ak 0)]])
 (.block 6 (.loop 79228011398536885764897140736 18432 (.seq (.ops [.xs [bi 78 .lss 3 (T 77) (T 76)]])
 (.seq (.cond (T 78) (.skip)
 (.exit 6))
 (.seq (.box 39613476794222361482184650752 18432 (.block 7 (.seq (.ops [.xs [R 79 (T 77),bb 80 25 (T 75) (T 77),aO 81 3 (T 80),al 12 (T 79),al 13 (T 81)]])
 (.seq (.ops [.bk none 82 51 6 0 6 0,.aO none 83 49 82 6 0,
  .xs [R 84 (T 13),bb 85 49 (T 83) (T 84),aO 86 84 (T 85),R 87 (T 12),bb 88 84 (T 86) (T 87),aO 89 44 (T 88)],.bY 14 44,
  .cD true none 44 14 (T 89) 14])
 (.seq (.ops [.b3 none 90 44 14 14,.b3 none 91 44 11 11,.xs [a6 92 31 [T 90,T 91],bi 93 .lss 3 (T 92) (ak 0)]])
 (.cond (T 93) (.ops [.b3 none 94 44 14 14,.cD true none 44 11 (T 94) 11])
 (.skip)))))))
 (.ops [.xs [bi 95 .add 3 (T 77) (ak 1),R 77 (T 95)]])))))))
 (.seq (.seq (.ops [.xs [R 96 (T 8),ij 97 (T 96),bk 98 92 (T 97) 1,aO 99 25 (T 98),bB 100 25 (T 99),R 101 (ak 0)]])
 (.block 8 (.loop 21267645397257453510002109971079200768 0 (.seq (.ops [.xs [bi 102 .lss 3 (T 101) (T 100)]])
 (.seq (.cond (T 102) (.skip)
 (.exit 8))
 (.seq (.block 9 (.seq (.ops [.xs [R 103 (T 101),bb 104 25 (T 99) (T 101),aO 105 3 (T 104),al 15 (T 103),al 16 (T 105)]])
 (.ops [.bk none 106 51 6 0 6 0,.aO none 107 49 106 6 0,.xs [R 108 (T 16),bb 109 49 (T 107) (T 108),aO 110 84 (T 109),R 111 (T 15)],
  .bk none 112 51 6 0 6 0,.aO none 113 49 112 6 0,
  .xs [R 114 (T 16),bb 115 49 (T 113) (T 114),aO 116 84 (T 115),R 117 (T 15),bb 118 84 (T 116) (T 117),aO 119 44 (T 118)],
  .b3 none 120 44 11 11,.xs [bg (a6 121 47 [T 119,T 120]),bb 122 84 (T 110) (T 111),st 44 (T 122) (T 121)]])))
 (.ops [.xs [bi 123 .add 3 (T 101) (ak 1),R 101 (T 123)]])))))))
 (.ops [.xs [R 124 (T 7)],.b3 none 125 44 11 11,
  .xs [R 126 (T 8),ij 127 (T 126),bk 128 92 (T 127) 1,aO 129 25 (T 128),eS 130 68 [(0,T 125),(1,T 129)],fb 131 65 1 [(0,T 130)],ap 132 65 65 (T 124) (T 131),al 7 (T 132)]])))))))))))
 (.seq (.ops [.xs [R 133 (T 7),al 2 (T 133)]])
 (.ret))))))),[.tmp 2]⟩
def GB:dn:=⟨.seq (.ops [.cZ 1 42 (T 0),.xs [al 2 (ak 0),al 3 (C (.bool false))]])
 (.seq (.seq (.ops [.bk none 7 42 1 1 1 1,.aO none 8 40 7 1 1,.xs [bB 9 40 (T 8),bi 10 .gtr 3 (T 9) (ak 2)]])
 (.cond (T 10) (.seq (.ops [.xs [al 2 (ak 0),al 3 (C (.bool false))]])
 (.ret))
 (.skip)))
 (.seq (.ops [.xs [al 4 (C (.int .u64 0))]])
 (.seq (.seq (.ops [.bk none 11 42 1 1 1 1,.aO none 12 40 11 1 1,.xs [bB 13 40 (T 12),R 14 (ak 0)]])
 (.block 0 (.loop 134201456 0 (.seq (.ops [.xs [bi 15 .lss 3 (T 14) (T 13)]])
 (.seq (.cond (T 15) (.skip)
 (.exit 0))
 (.seq (.block 1 (.seq (.ops [.xs [R 16 (T 14),bb 17 40 (T 12) (T 14),aO 18 95 (T 17),al 5 (T 16),al 6 (T 18)]])
 (.ops [.xs [R 19 (T 4),R 20 (T 6),cg 21 95 94 (T 20),R 22 (T 5),bi 23 .mul 3 (ak 32) (T 22),bi 24 .shl 94 (T 21) (T 23),bi 25 .or 94 (T 19) (T 24),al 4 (T 25)]])))
 (.ops [.xs [bi 26 .add 3 (T 14) (ak 1),R 14 (T 26)]])))))))
 (.seq (.seq (.ops [.xs [R 27 (T 4),bi 28 .gtr 94 (T 27) (C (.int .u64 4611686018427387904))]])
 (.cond (T 28) (.seq (.ops [.xs [al 2 (ak 0),al 3 (C (.bool false))]])
 (.ret))
 (.skip)))
 (.seq (.seq (.ops [.bk none 29 42 1 0 1 0,.aO none 30 4 29 1 0])
 (.cond (T 30) (.seq (.ops [.xs [R 31 (T 4),cg 32 94 3 (T 31),un 33 .neg (T 32),al 2 (T 33),al 3 (C (.bool true))]])
 (.ret))
 (.skip)))
 (.seq (.ops [.xs [R 34 (T 4),cg 35 94 3 (T 34),al 2 (T 35),al 3 (C (.bool true))]])
 (.ret))))))),[.tmp 2,.tmp 3]⟩
def G9:dn:=⟨.seq (.ops [.cZ 1 51 (T 0),.bY 2 51])
 (.seq (.ops [.b3 none 7 51 1 1,.xs [a6 8 44 [T 7],ms 9 49 (T 8) (T 8),al 3 (T 9)]])
 (.seq (.seq (.ops [.xs [R 10 (T 3),bB 11 49 (T 10),R 12 (ak 0)]])
 (.block 0 (.loop 137438949456 0 (.seq (.ops [.xs [bi 13 .lss 3 (T 12) (T 11)]])
 (.seq (.cond (T 13) (.skip)
 (.exit 0))
 (.seq (.block 1 (.seq (.ops [.xs [R 14 (T 12),al 4 (T 14)]])
 (.seq (.ops [.bk none 15 51 1 0 1 0,.aO none 16 49 15 1 0,.xs [bB 17 49 (T 16),R 18 (ak 0)]])
 (.block 2 (.loop 68719214656 0 (.seq (.ops [.xs [bi 19 .lss 3 (T 18) (T 17)]])
 (.seq (.cond (T 19) (.skip)
 (.exit 2))
 (.seq (.block 3 (.seq (.ops [.xs [bb 20 49 (T 16) (T 18),aO 21 84 (T 20),al 6 (T 21)]])
 (.ops [.xs [R 22 (T 3),R 23 (T 4),R 24 (T 3),R 25 (T 4),bb 26 49 (T 24) (T 25),aO 27 84 (T 26),R 28 (T 6),R 29 (T 4),bb 30 84 (T 28) (T 29),aO 31 44 (T 30),bg (fb 32 84 1 [(0,T 31)]),ap 33 84 84 (T 27) (T 32),bb 34 49 (T 22) (T 23),st 84 (T 34) (T 33)]])))
 (.ops [.xs [bi 35 .add 3 (T 18) (ak 1),R 18 (T 35)]])))))))))
 (.ops [.xs [bi 36 .add 3 (T 12) (ak 1),R 12 (T 36)]])))))))
 (.seq (.ops [.xs [R 37 (T 3),eS 38 51 [(0,T 37)]],.cD true none 51 2 (T 38) 2])
 (.ret)))),[.cell 2 51]⟩
def G4:dn:=⟨.seq (.ops [.cZ 2 51 (T 0),.bY 4 44])
 (.seq (.ops [.xs [a6 8 14 [ak 0]],.bY 5 44,.cD true none 44 5 (T 8) 5])
 (.seq (.seq (.ops [.bk none 9 51 2 0 2 0,.aO none 10 49 9 2 0,.xs [R 11 (T 1),bb 12 49 (T 10) (T 11),aO 13 84 (T 12),bB 14 84 (T 13),R 15 (ak 0)]])
 (.block 0 (.loop 8355968 160 (.seq (.ops [.xs [bi 16 .lss 3 (T 15) (T 14)]])
 (.seq (.cond (T 16) (.skip)
 (.exit 0))
 (.seq (.block 1 (.seq (.ops [.xs [bb 17 84 (T 13) (T 15),aO 18 44 (T 17)],.bY 7 44,.cD true none 44 7 (T 18) 7])
 (.ops [.b3 none 19 44 5 5,.b3 none 20 44 7 7,.xs [a6 21 40 [T 19,T 20]],.cD true none 44 5 (T 21) 5])))
 (.ops [.xs [bi 22 .add 3 (T 15) (ak 1),R 15 (T 22)]])))))))
 (.seq (.ops [.b3 none 23 44 5 5,.cD true none 44 4 (T 23) 4])
 (.ret)))),[.cell 4 44]⟩
def GF:dn:=⟨.seq (.ops [.cZ 2 44 (T 0),.cZ 3 44 (T 1),.xs [al 4 (ak 0)]])
 (.seq (.ops [.bk none 5 44 2 0 2 0,.aO none 6 42 5 2 0,.bk none 7 44 3 1 3 2,.aO none 8 42 7 3 2,.xs [bg (a6 9 52 [T 6,T 8])],.bk none 10 44 3 0 3 0,
  .aO none 11 42 10 3 0,.bk none 12 44 2 1 2 2,.aO none 13 42 12 2 2,.xs [a6 14 52 [T 11,T 13],a6 15 53 [T 9,T 14],al 4 (T 15)]])
 (.ret)),[.tmp 4]⟩
def GO:dn:=⟨.seq (.ops [.xs [al 2 (C (.string {data:= #[]}))]])
 (.seq (.seq (.ops [.xs [R 7 (T 0),bB 8 40 (T 7),bi 9 .eql 3 (T 8) (ak 0)]])
 (.cond (T 9) (.seq (.ops [.xs [al 2 (C (.string {data:= #[48]}))]])
 (.ret))
 (.skip)))
 (.seq (.ops [.xs [al 3 (C (.slice none 0 0))]])
 (.seq (.block 0 (.loop 2199023254649 0 (.seq (.seq (.ops [.xs [R 10 (T 0),bB 11 40 (T 10),bi 12 .gtr 3 (T 11) (ak 0)]])
 (.cond (T 12) (.skip)
 (.exit 0)))
 (.block 1 (.seq (.ops [.xs [R 14 (T 0),a6 15 56 [T 14,C (.int .u32 1000000000)],R 13 (T 15),ex 16 (T 13) 0,ex 17 (T 13) 1,al 4 (T 16),al 5 (T 17)]])
 (.seq (.seq (.ops [.xs [al 6 (ak 0)]])
 (.block 2 (.loop 1099511365736 0 (.seq (.seq (.box 536608768 0 (.ops [.xs [R 18 (T 6),bi 19 .lss 3 (T 18) (ak 9),R 20 (T 19),aN 20 true (R 21 (T 4)),aN 20 true (bB 22 40 (T 21)),aN 20 true (bi 23 .gtr 3 (T 22) (ak 0)),aN 20 true (R 24 (T 23)),aN 24 false (R 25 (T 5)),aN 24 false ((bi 26 .gtr 95 (T 25) (C (.int .u32 0)))),aN 20 true ((cX 27 (T 24) (C (.bool true)) (T 26))),cX 28 (T 20) (T 27) (C (.bool false))]]))
 (.cond (T 28) (.skip)
 (.exit 2)))
 (.seq (.block 3 (.seq (.ops [.xs [R 31 (T 3),R 32 (T 5),bi 33 .rem 95 (T 32) (C (.int .u32 10)),bi 34 .add 95 (C (.int .u32 48)) (T 33),cg 35 95 5 (T 34),fb 36 103 1 [(0,T 35)],ap 37 103 103 (T 31) (T 36),al 3 (T 37)]])
 (.ops [.xs [R 38 (T 5),bi 39 .quo 95 (T 38) (C (.int .u32 10)),al 5 (T 39)]])))
 (.ops [.xs [R 29 (T 6),bi 30 .add 3 (T 29) (ak 1),al 6 (T 30)]]))))))
 (.ops [.xs [R 40 (T 4),al 0 (T 40)]])))))))
 (.seq (.ops [.xs [R 41 (T 3),a6 42 57 [T 41]]])
 (.seq (.ops [.xs [R 43 (T 3),cg 44 103 9 (T 43),al 2 (T 44)]])
 (.ret)))))),[.tmp 2]⟩
def Gt:dn:=⟨.seq (.ops [.xs [al 4 (C (.int .u64 0)),al 5 (C (.int .u64 0))]])
 (.seq (.cond (C (.bool false)) (.seq (.ops [.xs [R 11 (T 0),cg 12 76 95 (T 11),R 13 (T 1),cg 14 76 95 (T 13),a6 15 58 [T 12,T 14],R 10 (T 15),ex 16 (T 10) 0,ex 17 (T 10) 1,al 6 (T 16),al 7 (T 17)]])
 (.seq (.ops [.xs [R 18 (T 6),cg 19 95 76 (T 18),R 20 (T 7),cg 21 95 76 (T 20),al 4 (T 19),al 5 (T 21)]])
 (.ret)))
 (.skip))
 (.seq (.ops [.xs [R 23 (T 0),R 24 (T 1),a6 25 59 [T 23,T 24],R 22 (T 25),ex 26 (T 22) 0,ex 27 (T 22) 1,al 8 (T 26),al 9 (T 27)]])
 (.seq (.ops [.xs [R 28 (T 8),R 29 (T 9),al 4 (T 28),al 5 (T 29)]])
 (.ret)))),[.tmp 4,.tmp 5]⟩
def Hc:dn:=⟨.seq (.ops [.xs [al 4 (C (.slice none 0 0))]])
 (.seq (.box 3584 0 (.seq (.ops [.xs [R 9 (T 1),bi 10 .lss 3 (T 9) (ak 0)]])
 (.cond (T 10) (.ops [.xs [l0 11 9 (C (.string {data:= #[99,97,110,110,111,116,32,98,101,32,110,101,103,97,116,105,118,101]})),(⟨true,none,none,.panic (T 11)⟩)]])
 (.skip))))
 (.seq (.ops [.xs [R 13 (T 0),bB 14 22 (T 13),cg 15 3 76 (T 14),R 16 (T 1),cg 17 3 76 (T 16),a6 18 35 [T 15,T 17],R 12 (T 18),ex 19 (T 12) 0,ex 20 (T 12) 1,al 5 (T 19),al 6 (T 20)]])
 (.seq (.box 266338304 0 (.seq (.box 132120576 0 (.ops [.xs [R 21 (T 5),bi 22 .gtr 76 (T 21) (C (.int .u64 0)),R 23 (T 22),aN 23 false (R 24 (T 6)),aN 23 false ((bi 25 .gtr 76 (T 24) (C (.int .u64 9223372036854775807)))),cX 26 (T 23) (C (.bool true)) (T 25)]]))
 (.cond (T 26) (.ops [.xs [l0 27 9 (C (.string {data:= #[116,104,101,32,114,101,115,117,108,116,32,111,102,32,40,108,101,110,40,120,41,32,42,32,99,111,117,110,116,41,32,111,118,101,114,102,108,111,119,115]})),(⟨true,none,none,.panic (T 27)⟩)]])
 (.skip))))
 (.seq (.ops [.xs [R 28 (T 6),cg 29 76 3 (T 28),ms 30 22 (T 29) (T 29),al 7 (T 30)]])
 (.seq (.ops [.xs [R 31 (T 7),R 32 (T 0),cp 33 22 22 (T 31) (T 32),al 8 (T 33)]])
 (.seq (.block 0 (.loop 140720308486400 0 (.seq (.seq (.ops [.xs [R 34 (T 8),R 35 (T 7),bB 36 22 (T 35),bi 37 .lss 3 (T 34) (T 36)]])
 (.cond (T 37) (.skip)
 (.exit 0)))
 (.block 1 (.ops [.xs [R 38 (T 8),R 39 (T 7),R 40 (T 8),bg (gm 41 22 (T 39) (some (T 40)) none none),R 42 (T 7),R 43 (T 8),bg (gm 44 22 (T 42) none (some (T 43)) none),cp 45 22 22 (T 41) (T 44),bi 46 .add 3 (T 38) (T 45),al 8 (T 46)]])))))
 (.seq (.ops [.xs [R 47 (T 7),al 4 (T 47)]])
 (.ret)))))))),[.tmp 4]⟩
def GC:dn:=⟨.seq (.ops [.bY 2 44,.xs [al 3 (C (.bool false))]])
 (.seq (.ops [.xs [R 15 (T 0),a6 16 60 [T 15,C (.string {data:= #[47]})],R 14 (T 16),ex 17 (T 14) 0,ex 18 (T 14) 1,ex 19 (T 14) 2,al 4 (T 17),al 5 (T 18),al 6 (T 19)]])
 (.seq (.ops [.xs [R 21 (T 4),a6 22 61 [T 21,C (.string {data:= #[45]})],R 20 (T 22),ex 23 (T 20) 0,ex 24 (T 20) 1,al 7 (T 23),al 8 (T 24)]])
 (.seq (.ops [.xs [R 26 (T 7),a6 27 62 [T 26],R 25 (T 27),ex 28 (T 25) 0,ex 29 (T 25) 1,al 9 (T 28),al 10 (T 29)]])
 (.seq (.ops [.xs [fb 30 40 1 [(0,C (.int .u32 1))],al 11 (T 30),al 12 (C (.bool true))]])
 (.seq (.box 17590038566912 0 (.seq (.ops [.xs [R 31 (T 6)]])
 (.cond (T 31) (.seq (.ops [.xs [R 33 (T 5),a6 34 62 [T 33],R 32 (T 34),ex 35 (T 32) 0,ex 36 (T 32) 1,al 11 (T 35),al 12 (T 36)]])
 (.ops [.xs [R 37 (T 12),R 38 (T 37),aN 38 true (R 39 (T 11)),aN 38 true ((fb 40 40 1 [(0,C (.int .u32 1))])),aN 38 true (a6 41 63 [T 39,T 40]),aN 38 true (bi 42 .gtr 3 (T 41) (ak 0)),cX 43 (T 38) (T 42) (C (.bool false)),al 12 (T 43)]]))
 (.skip))))
 (.seq (.seq (.box 288212783965667328 0 (.ops [.xs [R 44 (T 10),un 45 .not (T 44),R 46 (T 45),aN 46 false (R 47 (T 12)),aN 46 false (un 48 .not (T 47)),cX 49 (T 46) (C (.bool true)) (T 48),R 50 (T 49),aN 50 false (R 51 (T 8)),aN 50 false (R 52 (T 51)),aN 52 true (R 53 (T 9)),aN 52 true (bB 54 40 (T 53)),aN 52 true (bi 55 .eql 3 (T 54) (ak 0)),aN 50 false ((cX 56 (T 52) (T 55) (C (.bool false)))),cX 57 (T 50) (C (.bool true)) (T 56)]]))
 (.cond (T 57) (.seq (.ops [.xs [eS 58 44 []],.cD true none 44 2 (T 58) 2,.xs [al 3 (C (.bool false))]])
 (.ret))
 (.skip)))
 (.seq (.ops [.xs [R 59 (T 8),R 60 (T 9),a6 61 54 [T 59,T 60],R 62 (T 11),a6 63 54 [C (.bool false),T 62],eS 64 44 [(0,T 61),(1,T 63)]],
  .bY 13 44,.cD true none 44 13 (T 64) 13])
 (.seq (.box 302194561415509874573320 4 (.ops [.b3 none 65 44 13 13,.xs [R 66 (T 6),un 67 .not (T 66),R 68 (T 67)],.bk (some (68,false)) 69 44 13 0 13 0,
  .aO (some (68,false)) 70 42 69 13 0,.bk (some (68,false)) 71 44 13 1 13 2,.aO (some (68,false)) 72 42 71 13 2,
  .xs [aN 68 false (bg (a6 73 64 [T 70,T 72])),aN 68 false (bg (a6 74 32 [ak 1])),aN 68 false (bg (a6 75 53 [T 73,T 74])),aN 68 false (bi 76 .eql 3 (T 75) (ak 0)),cX 77 (T 68) (C (.bool true)) (T 76)],
  .cD true none 44 2 (T 65) 2,.xs [al 3 (T 77)]]))
 (.ret))))))))),[.cell 2 44,.tmp 3]⟩
def Ha:dn:=⟨.seq (.ops [.xs [al 4 (C (.bool false))]])
 (.seq (.ops [.xs [R 5 (T 0),R 6 (T 1),a6 7 66 [T 5,T 6],bi 8 .geq 3 (T 7) (ak 0),al 4 (T 8)]])
 (.ret)),[.tmp 4]⟩
def GD:dn:=⟨.seq (.ops [.cZ 2 44 (T 0),.cZ 3 44 (T 1),.bY 4 44])
 (.seq (.seq (.box 2016 0 (.ops [.b3 none 5 44 2 2,.xs [a6 6 34 [T 5],R 7 (T 6)],.b3 (some (7,true)) 8 44 3 3,
  .xs [aN 7 true (a6 9 34 [T 8]),cX 10 (T 7) (T 9) (C (.bool false))]]))
 (.cond (T 10) (.seq (.ops [.bk none 11 44 2 0 2 0,.aO none 12 42 11 2 0,.bk none 13 44 3 0 3 0,.aO none 14 42 13 3 0,.xs [a6 15 68 [T 12,T 14],a6 16 67 [T 15]],
  .cD true none 44 4 (T 16) 4])
 (.ret))
 (.skip)))
 (.seq (.ops [.bk none 17 44 2 0 2 0,.aO none 18 42 17 2 0,.bk none 19 44 3 1 3 2,.aO none 20 42 19 3 2,.xs [bg (a6 21 52 [T 18,T 20])],
  .bk none 22 44 3 0 3 0,.aO none 23 42 22 3 0,.bk none 24 44 2 1 2 2,.aO none 25 42 24 2 2,
  .xs [bg (a6 26 52 [T 23,T 25]),bg (a6 27 68 [T 21,T 26])],.bk none 28 44 2 1 2 2,.aO none 29 42 28 2 2,.bk none 30 44 3 1 3 2,
  .aO none 31 42 30 3 2,.xs [a6 32 52 [T 29,T 31],a6 33 69 [T 27,T 32]],.cD true none 44 4 (T 33) 4])
 (.ret))),[.cell 4 44]⟩
def G5:dn:=⟨.seq (.ops [.cZ 1 51 (T 0),.bY 2 44,.xs [al 3 (ak 0)]])
 (.seq (.ops [.b3 none 8 51 1 1,.xs [a6 9 30 [T 8,ak 0]],.bY 4 44,.cD true none 44 4 (T 9) 4,.xs [al 5 (ak 0)]])
 (.seq (.seq (.ops [.b3 none 10 51 1 1,.xs [a6 11 43 [T 10],R 12 (ak 0)]])
 (.block 0 (.loop 33550560 144 (.seq (.ops [.xs [bi 13 .lss 3 (T 12) (T 11)]])
 (.seq (.cond (T 13) (.skip)
 (.exit 0))
 (.seq (.box 16761056 144 (.block 1 (.seq (.ops [.xs [R 14 (T 12),al 6 (T 14)]])
 (.seq (.ops [.b3 none 15 51 1 1,.xs [R 16 (T 6),a6 17 30 [T 15,T 16]],.bY 7 44,.cD true none 44 7 (T 17) 7])
 (.seq (.ops [.b3 none 18 44 7 7,.b3 none 19 44 4 4,.xs [a6 20 31 [T 18,T 19],bi 21 .gtr 3 (T 20) (ak 0)]])
 (.cond (T 21) (.ops [.b3 none 22 44 7 7,.xs [R 23 (T 6)],.cD true none 44 4 (T 22) 4,.xs [al 5 (T 23)]])
 (.skip)))))))
 (.ops [.xs [bi 24 .add 3 (T 12) (ak 1),R 12 (T 24)]])))))))
 (.seq (.ops [.b3 none 25 44 4 4,.xs [R 26 (T 5)],.cD true none 44 2 (T 25) 2,.xs [al 3 (T 26)]])
 (.ret)))),[.cell 2 44,.tmp 3]⟩
def G7:dn:=⟨.seq (.ops [.cZ 1 51 (T 0),.xs [al 2 (C (.slice none 0 0)),al 3 (ak 0)]])
 (.seq (.ops [.xs [al 4 (C (.slice none 0 0))]])
 (.seq (.seq (.ops [.b3 none 12 51 1 1,.xs [a6 13 70 [T 12],a6 14 25 [T 13],bB 15 65 (T 14),R 16 (ak 0)]])
 (.block 0 (.loop 144115188075793372 576 (.seq (.ops [.xs [bi 17 .lss 3 (T 16) (T 15)]])
 (.seq (.cond (T 17) (.skip)
 (.exit 0))
 (.seq (.block 1 (.seq (.ops [.xs [bb 18 65 (T 14) (T 16),aO 19 68 (T 18)],.bY 6 68,.cD true none 68 6 (T 19) 6])
 (.seq (.ops [.bk none 21 68 6 0 6 0,.aO none 22 44 21 6 0,
  .xs [a6 23 15 [T 22],R 20 (T 23),ex 24 (T 20) 0,ex 25 (T 20) 1,al 7 (T 24),al 8 (T 25)]])
 (.seq (.seq (.ops [.xs [R 26 (T 8),bi 27 .neq 29 (T 26) (ak 0)]])
 (.cond (T 27) (.seq (.ops [.xs [R 28 (T 8),al 2 (C (.slice none 0 0)),al 3 (T 28)]])
 (.ret))
 (.skip)))
 (.seq (.ops [.xs [R 29 (T 7),eS 30 48 [(0,T 29)]],.bY 9 48,.cD true none 48 9 (T 30) 9])
 (.seq (.seq (.ops [.bk none 31 68 6 1 6 4,.aO none 32 25 31 6 4,.b3 none 33 51 1 1,
  .xs [bg (a6 34 44 [T 33]),gm 35 25 (T 32) none (some (T 34)) none,bB 36 25 (T 35),R 37 (ak 0)]])
 (.block 2 (.loop 4503462188419072 512 (.seq (.ops [.xs [bi 38 .lss 3 (T 37) (T 36)]])
 (.seq (.cond (T 38) (.skip)
 (.exit 2))
 (.seq (.block 3 (.seq (.ops [.xs [bb 39 25 (T 35) (T 37),aO 40 3 (T 39),al 11 (T 40)]])
 (.seq (.box 32985348835328 0 (.seq (.ops [.xs [R 41 (T 11)],.b3 none 42 51 1 1,.xs [a6 43 43 [T 42],bi 44 .geq 3 (T 41) (T 43)]])
 (.cond (T 44) (.ops [.xs [al 11 (ak (-1))]])
 (.skip))))
 (.ops [.bk none 45 48 9 1 9 1,.aO none 46 25 45 9 1,.xs [R 47 (T 11),fb 48 25 1 [(0,T 47)],ap 49 25 25 (T 46) (T 48)],.bk none 50 48 9 1 9 1,
  .st true none 25 50 (T 49) 9 1]))))
 (.ops [.xs [bi 51 .add 3 (T 37) (ak 1),R 37 (T 51)]])))))))
 (.ops [.xs [R 52 (T 4)],.b3 none 53 48 9 9,.xs [fb 54 37 1 [(0,T 53)],ap 55 37 37 (T 52) (T 54),al 4 (T 55)]])))))))
 (.ops [.xs [bi 56 .add 3 (T 16) (ak 1),R 16 (T 56)]])))))))
 (.seq (.ops [.xs [R 57 (T 4),al 2 (T 57),al 3 (ak 0)]])
 (.ret)))),[.tmp 2,.tmp 3]⟩
def G_:dn:=⟨.seq (.ops [.xs [al 2 (C (.slice none 0 0))]])
 (.seq (.seq (.ops [.xs [R 3 (T 0),bi 4 .eql 84 (T 3) (C (.slice none 0 0))]])
 (.cond (T 4) (.seq (.ops [.xs [al 2 (C (.slice none 0 0))]])
 (.ret))
 (.skip)))
 (.seq (.ops [.xs [fb 5 84 0 [],R 6 (T 0),ap 7 84 84 (T 5) (T 6),al 2 (T 7)]])
 (.ret))),[.tmp 2]⟩
def G1:dn:=⟨.seq (.ops [.xs [al 4 (C (.bool false))]])
 (.seq (.seq (.ops [.xs [R 6 (T 0),ij 7 (T 6),bk 8 92 (T 7) 0,aO 9 51 (T 8),a6 10 44 [T 9],R 11 (ak 0)]])
 (.block 0 (.loop 590295810358705649712 0 (.seq (.ops [.xs [bi 12 .lss 3 (T 11) (T 10)]])
 (.seq (.cond (T 12) (.skip)
 (.exit 0))
 (.seq (.box 295147905179352817712 0 (.block 1 (.seq (.ops [.xs [R 13 (T 11),al 5 (T 13)]])
 (.seq (.seq (.box 68719460352 0 (.ops [.xs [R 14 (T 0),ij 15 (T 14),bk 16 92 (T 15) 2,aO 17 64 (T 16),R 18 (T 5),bb 19 64 (T 17) (T 18),aO 20 4 (T 19),R 21 (T 20),aN 21 false (R 22 (T 0)),aN 21 false (ij 23 (T 22)),aN 21 false (bk 24 92 (T 23) 0),aN 21 false (bk 25 51 (T 24) 0),aN 21 false (aO 26 49 (T 25)),aN 21 false (R 27 (T 1)),aN 21 false (bb 28 49 (T 26) (T 27)),aN 21 false (aO 29 84 (T 28)),aN 21 false (R 30 (T 5)),aN 21 false (bb 31 84 (T 29) (T 30)),aN 21 false (aO 32 44 (T 31)),aN 21 false (a6 33 38 [T 32]),aN 21 false (bi 34 .leq 3 (T 33) (ak 0)),cX 35 (T 21) (C (.bool true)) (T 34)]]))
 (.cond (T 35) (.exit 1)
 (.skip)))
 (.seq (.ops [.xs [R 36 (T 0),ij 37 (T 36),bk 38 92 (T 37) 2,aO 39 64 (T 38),R 40 (T 5),bb 41 64 (T 39) (T 40),st 4 (T 41) (C (.bool true))]])
 (.seq (.box 2305838611167182848 0 (.ops [.xs [R 42 (T 0),ij 43 (T 42),bk 44 92 (T 43) 1,aO 45 25 (T 44),R 46 (T 5),bb 47 25 (T 45) (T 46),aO 48 3 (T 47),bi 49 .lss 3 (T 48) (ak 0),R 50 (T 49),aN 50 false (R 51 (T 0)),aN 50 false (R 52 (T 0)),aN 50 false (ij 53 (T 52)),aN 50 false (bk 54 92 (T 53) 1),aN 50 false (aO 55 25 (T 54)),aN 50 false (R 56 (T 5)),aN 50 false (bb 57 25 (T 55) (T 56)),aN 50 false (aO 58 3 (T 57)),aN 50 false (a6 59 46 [T 51,T 58]),cX 60 (T 50) (C (.bool true)) (T 59)]]))
 (.cond (T 60) (.seq (.ops [.xs [R 61 (T 0),ij 62 (T 61),bk 63 92 (T 62) 1,aO 64 25 (T 63),R 65 (T 5),R 66 (T 1),bb 67 25 (T 64) (T 65),st 3 (T 67) (T 66)]])
 (.seq (.ops [.xs [al 4 (C (.bool true))]])
 (.ret)))
 (.skip))))))))
 (.ops [.xs [bi 68 .add 3 (T 11) (ak 1),R 11 (T 68)]])))))))
 (.seq (.ops [.xs [al 4 (C (.bool false))]])
 (.ret))),[.tmp 4]⟩
def GI:dn:=⟨.seq (.ops [.cZ 2 44 (T 0),.cZ 3 44 (T 1),.bY 4 44])
 (.seq (.ops [.b3 none 5 44 2 2,.b3 none 6 44 3 3,.xs [bg (a6 7 71 [T 6]),a6 8 40 [T 5,T 7]],.cD true none 44 4 (T 8) 4])
 (.ret)),[.cell 4 44]⟩
def Hf:dn:=⟨.seq (.ops [.xs [R 4 (T 0),bB 5 103 (T 4),bi 6 .sub 3 (T 5) (ak 1),al 2 (ak 0),al 3 (T 6)]])
 (.block 0 (.loop 268435340 0 (.seq (.seq (.ops [.xs [R 7 (T 2),R 8 (T 3),bi 9 .lss 3 (T 7) (T 8)]])
 (.cond (T 9) (.skip)
 (.exit 0)))
 (.seq (.block 1 (.ops [.xs [R 14 (T 0),R 15 (T 2),R 16 (T 0),R 17 (T 3),R 18 (T 0),R 19 (T 3),bb 20 103 (T 18) (T 19),aO 21 5 (T 20),R 22 (T 0),R 23 (T 2),bb 24 103 (T 22) (T 23),aO 25 5 (T 24),bb 26 103 (T 14) (T 15),st 5 (T 26) (T 21),bb 27 103 (T 16) (T 17),st 5 (T 27) (T 25)]]))
 (.ops [.xs [R 10 (T 2),bi 11 .add 3 (T 10) (ak 1),R 12 (T 3),bi 13 .sub 3 (T 12) (ak 1),al 2 (T 11),al 3 (T 13)]]))))),[]⟩
def Gu:dn:=⟨.seq (.ops [.xs [al 4 (C (.int .u64 0)),al 5 (C (.int .u64 0))]])
 (.seq (.ops [.xs [R 14 (T 0),bi 15 .and 94 (T 14) (C (.int .u64 4294967295)),al 6 (T 15)]])
 (.seq (.ops [.xs [R 16 (T 0),bi 17 .shr 94 (T 16) (C (.int .u64 32)),al 7 (T 17)]])
 (.seq (.ops [.xs [R 18 (T 1),bi 19 .and 94 (T 18) (C (.int .u64 4294967295)),al 8 (T 19)]])
 (.seq (.ops [.xs [R 20 (T 1),bi 21 .shr 94 (T 20) (C (.int .u64 32)),al 9 (T 21)]])
 (.seq (.ops [.xs [R 22 (T 6),R 23 (T 8),bi 24 .mul 94 (T 22) (T 23),al 10 (T 24)]])
 (.seq (.ops [.xs [R 25 (T 7),R 26 (T 8),bi 27 .mul 94 (T 25) (T 26),R 28 (T 10),bi 29 .shr 94 (T 28) (C (.int .u64 32)),bi 30 .add 94 (T 27) (T 29),al 11 (T 30)]])
 (.seq (.ops [.xs [R 31 (T 11),bi 32 .and 94 (T 31) (C (.int .u64 4294967295)),al 12 (T 32)]])
 (.seq (.ops [.xs [R 33 (T 11),bi 34 .shr 94 (T 33) (C (.int .u64 32)),al 13 (T 34)]])
 (.seq (.ops [.xs [R 35 (T 12),R 36 (T 6),R 37 (T 9),bi 38 .mul 94 (T 36) (T 37),bi 39 .add 94 (T 35) (T 38),al 12 (T 39)]])
 (.seq (.ops [.xs [R 40 (T 7),R 41 (T 9),bi 42 .mul 94 (T 40) (T 41),R 43 (T 13),bi 44 .add 94 (T 42) (T 43),R 45 (T 12),bi 46 .shr 94 (T 45) (C (.int .u64 32)),bi 47 .add 94 (T 44) (T 46),al 4 (T 47)]])
 (.seq (.ops [.xs [R 48 (T 0),R 49 (T 1),bi 50 .mul 94 (T 48) (T 49),al 5 (T 50)]])
 (.ret)))))))))))),[.tmp 4,.tmp 5]⟩
def Hg:dn:=⟨.seq (.ops [.xs [al 4 (C (.string {data:= #[]})),al 5 (C (.string {data:= #[]})),al 6 (C (.bool false))]])
 (.seq (.ops [.xs [R 7 (T 0),R 8 (T 1),a6 9 76 [T 7,T 8],ex 10 (T 9) 0,ex 11 (T 9) 1,ex 12 (T 9) 2,al 4 (T 10),al 5 (T 11),al 6 (T 12)]])
 (.ret)),[.tmp 4,.tmp 5,.tmp 6]⟩
def Hh:dn:=⟨.seq (.ops [.xs [al 4 (C (.string {data:= #[]})),al 5 (C (.bool false))]])
 (.seq (.ops [.xs [R 6 (T 0),R 7 (T 1),a6 8 77 [T 6,T 7],ex 9 (T 8) 0,ex 10 (T 8) 1,al 4 (T 9),al 5 (T 10)]])
 (.ret)),[.tmp 4,.tmp 5]⟩
def GN:dn:=⟨.seq (.ops [.xs [al 2 (C (.slice none 0 0)),al 3 (C (.bool false))]])
 (.seq (.seq (.ops [.xs [R 10 (T 0),bB 11 9 (T 10),R 12 (ak 0)]])
 (.block 0 (.loop 67104796 0 (.seq (.ops [.xs [bi 13 .lss 3 (T 12) (T 11)]])
 (.seq (.cond (T 13) (.skip)
 (.exit 0))
 (.seq (.block 1 (.seq (.ops [.xs [R 14 (T 12),al 4 (T 14)]])
 (.seq (.box 33521664 0 (.ops [.xs [R 15 (T 0),R 16 (T 4),ew 17 9 (T 15) (T 16),bi 18 .lss 5 (T 17) (C (.int .u8 48)),R 19 (T 18),aN 19 false (R 20 (T 0)),aN 19 false (R 21 (T 4)),aN 19 false (ew 22 9 (T 20) (T 21)),aN 19 false ((bi 23 .gtr 5 (T 22) (C (.int .u8 57)))),cX 24 (T 19) (C (.bool true)) (T 23)]]))
 (.cond (T 24) (.seq (.ops [.xs [al 2 (C (.slice none 0 0)),al 3 (C (.bool false))]])
 (.ret))
 (.skip)))))
 (.ops [.xs [bi 25 .add 3 (T 12) (ak 1),R 12 (T 25)]])))))))
 (.seq (.seq (.box 8796025913344 0 (.ops [.xs [R 26 (T 0),bi 27 .eql 9 (T 26) (C (.string {data:= #[]})),R 28 (T 27),aN 28 false (R 29 (T 0)),aN 28 false (ew 30 9 (T 29) (ak 0)),aN 28 false ((bi 31 .eql 5 (T 30) (C (.int .u8 48)))),aN 28 false (R 32 (T 31)),aN 32 true (R 33 (T 0)),aN 32 true (bB 34 9 (T 33)),aN 32 true (bi 35 .gtr 3 (T 34) (ak 1)),aN 28 false ((cX 36 (T 32) (T 35) (C (.bool false)))),cX 37 (T 28) (C (.bool true)) (T 36),R 38 (T 37),aN 38 false (R 39 (T 0)),aN 38 false (bB 40 9 (T 39)),aN 38 false (bi 41 .gtr 3 (T 40) (ak 4000)),cX 42 (T 38) (C (.bool true)) (T 41)]]))
 (.cond (T 42) (.seq (.ops [.xs [al 2 (C (.slice none 0 0)),al 3 (C (.bool false))]])
 (.ret))
 (.skip)))
 (.seq (.ops [.xs [al 5 (C (.slice none 0 0))]])
 (.seq (.block 2 (.loop 75557863717118230397921 0 (.seq (.seq (.ops [.xs [R 43 (T 0),bi 44 .neq 9 (T 43) (C (.string {data:= #[]}))]])
 (.cond (T 44) (.skip)
 (.exit 2)))
 (.block 3 (.seq (.ops [.xs [R 45 (T 0),bB 46 9 (T 45),bi 47 .sub 3 (T 46) (ak 1),bi 48 .rem 3 (T 47) (ak 9),bi 49 .add 3 (T 48) (ak 1),al 6 (T 49)]])
 (.seq (.ops [.xs [al 7 (C (.int .u32 0)),al 8 (C (.int .u32 1))]])
 (.seq (.seq (.ops [.xs [R 50 (T 6),R 51 (ak 0)]])
 (.block 4 (.loop 36891236347605418880 0 (.seq (.ops [.xs [bi 52 .lss 3 (T 51) (T 50)]])
 (.seq (.cond (T 52) (.skip)
 (.exit 4))
 (.seq (.block 5 (.seq (.ops [.xs [R 53 (T 51),al 9 (T 53)]])
 (.ops [.xs [R 54 (T 7),bi 55 .mul 95 (C (.int .u32 10)) (T 54),R 56 (T 0),R 57 (T 9),ew 58 9 (T 56) (T 57),bi 59 .sub 5 (T 58) (C (.int .u8 48)),cg 60 5 95 (T 59),bi 61 .add 95 (T 55) (T 60),R 62 (T 8),bi 63 .mul 95 (C (.int .u32 10)) (T 62),al 7 (T 61),al 8 (T 63)]])))
 (.ops [.xs [bi 64 .add 3 (T 51) (ak 1),R 51 (T 64)]])))))))
 (.seq (.ops [.xs [R 65 (T 5),R 66 (T 8),fb 67 40 1 [(0,T 66)],a6 68 74 [T 65,T 67],R 69 (T 7),fb 70 40 1 [(0,T 69)],a6 71 55 [T 70],a6 72 78 [T 68,T 71],al 5 (T 72)]])
 (.ops [.xs [R 73 (T 0),R 74 (T 6),gm 75 9 (T 73) (some (T 74)) none none,al 0 (T 75)]])))))))))
 (.seq (.ops [.xs [R 76 (T 5),al 2 (T 76),al 3 (C (.bool true))]])
 (.ret)))))),[.tmp 2,.tmp 3]⟩
def Gz:dn:=⟨.seq (.ops [.cZ 2 42 (T 0),.cZ 3 42 (T 1),.bY 4 42])
 (.seq (.ops [.bk none 9 42 2 1 2 1,.aO none 10 40 9 2 1,.bk none 11 42 3 1 3 1,.aO none 12 40 11 3 1,.xs [al 5 (T 10),al 6 (T 12)]])
 (.seq (.block 0 (.loop 16769504 0 (.seq (.seq (.ops [.xs [R 13 (T 6),bB 14 40 (T 13),bi 15 .gtr 3 (T 14) (ak 0)]])
 (.cond (T 15) (.skip)
 (.exit 0)))
 (.block 1 (.seq (.ops [.xs [R 17 (T 5),R 18 (T 6),a6 19 79 [T 17,T 18],R 16 (T 19),ex 20 (T 16) 0,ex 21 (T 16) 1,al 7 (T 20),al 8 (T 21)]])
 (.ops [.xs [R 22 (T 6),R 23 (T 8),al 5 (T 22),al 6 (T 23)]]))))))
 (.seq (.ops [.xs [R 24 (T 5),a6 25 54 [C (.bool false),T 24]],.cD true none 42 4 (T 25) 4])
 (.ret)))),[.cell 4 42]⟩
def Hb:dn:=⟨.seq (.ops [.xs [al 4 (ak 0)]])
 (.seq (.seq (.ops [.xs [R 6 (T 0),bB 7 25 (T 6),R 8 (ak 0)]])
 (.block 0 (.loop 524080 0 (.seq (.ops [.xs [bi 9 .lss 3 (T 8) (T 7)]])
 (.seq (.cond (T 9) (.skip)
 (.exit 0))
 (.seq (.block 1 (.seq (.ops [.xs [R 10 (T 8),al 5 (T 10)]])
 (.seq (.ops [.xs [R 11 (T 1),R 12 (T 0),R 13 (T 5),bb 14 25 (T 12) (T 13),aO 15 3 (T 14),bi 16 .eql 3 (T 11) (T 15)]])
 (.cond (T 16) (.seq (.ops [.xs [R 17 (T 5),al 4 (T 17)]])
 (.ret))
 (.skip)))))
 (.ops [.xs [bi 18 .add 3 (T 8) (ak 1),R 8 (T 18)]])))))))
 (.seq (.ops [.xs [al 4 (ak (-1))]])
 (.ret))),[.tmp 4]⟩
def GJ:dn:=⟨.seq (.ops [.cZ 2 42 (T 0),.cZ 3 42 (T 1),.bY 4 44])
 (.seq (.box 64512 12 (.seq (.ops [.bk none 10 42 3 0 3 0,.aO none 11 4 10 3 0])
 (.cond (T 11) (.ops [.b3 none 12 42 2 2,.xs [bg (a6 13 81 [T 12])],.b3 none 14 42 3 3,.xs [a6 15 81 [T 14]],.cD true none 42 2 (T 13) 2,
  .cD true none 42 3 (T 15) 3])
 (.skip))))
 (.seq (.ops [.b3 none 16 42 2 2,.b3 none 17 42 3 3,.xs [a6 18 64 [T 16,T 17]],.bY 5 42,.cD true none 42 5 (T 18) 5])
 (.seq (.seq (.ops [.b3 none 19 42 5 5,.xs [bg (a6 20 32 [ak 1]),a6 21 53 [T 19,T 20],bi 22 .eql 3 (T 21) (ak 0)]])
 (.cond (T 22) (.seq (.ops [.b3 none 23 42 2 2,.b3 none 24 42 3 3,.xs [eS 25 44 [(0,T 23),(1,T 24)]],.cD true none 44 4 (T 25) 4])
 (.ret))
 (.skip)))
 (.seq (.ops [.b3 none 27 42 2 2,.b3 none 28 42 5 5,.xs [a6 29 82 [T 27,T 28],R 26 (T 29),ex 30 (T 26) 0,ex 31 (T 26) 1],.bY 6 42,.bY 7 42,
  .cD true none 42 6 (T 30) 6,.cD true none 42 7 (T 31) 7])
 (.seq (.ops [.b3 none 33 42 3 3,.b3 none 34 42 5 5,.xs [a6 35 82 [T 33,T 34],R 32 (T 35),ex 36 (T 32) 0,ex 37 (T 32) 1],.bY 8 42,.bY 9 42,
  .cD true none 42 8 (T 36) 8,.cD true none 42 9 (T 37) 9])
 (.seq (.ops [.b3 none 38 42 6 6,.b3 none 39 42 8 8,.xs [eS 40 44 [(0,T 38),(1,T 39)]],.cD true none 44 4 (T 40) 4])
 (.ret))))))),[.cell 4 44]⟩
def G8:dn:=⟨.seq (.ops [.cZ 1 51 (T 0),.bY 2 51])
 (.seq (.ops [.b3 none 14 51 1 1,.xs [bg (a6 15 43 [T 14])],.b3 none 16 51 1 1,.xs [a6 17 44 [T 16],al 3 (T 15),al 4 (T 17)]])
 (.seq (.ops [.b3 none 18 51 1 1,.xs [a6 19 29 [T 18]],.bY 5 51,.cD true none 51 5 (T 19) 5])
 (.seq (.ops [.b3 none 21 51 1 1,.xs [a6 22 41 [T 21],R 20 (T 22),ex 23 (T 20) 0,ex 24 (T 20) 1],.bY 6 44,.cD true none 44 6 (T 23) 6,
  .xs [al 7 (T 24)]])
 (.seq (.box 34326184704 320 (.seq (.ops [.b3 none 26 51 5 5,.xs [a6 27 41 [T 26],R 25 (T 27),ex 28 (T 25) 0,ex 29 (T 25) 1],.bY 8 44,.cD true none 44 8 (T 28) 8,
  .xs [al 9 (T 29)]])
 (.seq (.ops [.b3 none 30 44 8 8,.b3 none 31 44 6 6,.xs [a6 32 31 [T 30,T 31],bi 33 .gtr 3 (T 32) (ak 0)]])
 (.cond (T 33) (.ops [.b3 none 34 44 8 8,.cD true none 44 6 (T 34) 6])
 (.skip)))))
 (.seq (.ops [.xs [R 35 (T 3),R 36 (T 4),bi 37 .add 3 (T 35) (T 36),ms 38 49 (T 37) (T 37),al 10 (T 38)]])
 (.seq (.seq (.ops [.xs [R 39 (T 10),bB 40 49 (T 39),R 41 (ak 0)]])
 (.block 0 (.loop 18012199486228480 0 (.seq (.ops [.xs [bi 42 .lss 3 (T 41) (T 40)]])
 (.seq (.cond (T 42) (.skip)
 (.exit 0))
 (.seq (.block 1 (.seq (.ops [.xs [R 43 (T 41),al 11 (T 43)]])
 (.ops [.xs [R 44 (T 10),R 45 (T 11),a6 46 14 [ak 0],fb 47 84 1 [(0,T 46)],R 48 (T 3),R 49 (T 4),bi 50 .add 3 (T 48) (T 49),a6 51 83 [T 47,T 50],bb 52 49 (T 44) (T 45),st 84 (T 52) (T 51)]])))
 (.ops [.xs [bi 53 .add 3 (T 41) (ak 1),R 41 (T 53)]])))))))
 (.seq (.seq (.ops [.xs [R 54 (T 3),R 55 (ak 0)]])
 (.block 2 (.loop 4835703242429719679864832 0 (.seq (.ops [.xs [bi 56 .lss 3 (T 55) (T 54)]])
 (.seq (.cond (T 56) (.skip)
 (.exit 2))
 (.seq (.block 3 (.seq (.ops [.xs [R 57 (T 55),al 12 (T 57)]])
 (.seq (.ops [.xs [R 58 (T 10),R 59 (T 12),bb 60 49 (T 58) (T 59),aO 61 84 (T 60)],.bk none 62 51 1 0 1 0,.aO none 63 49 62 1 0,
  .xs [R 64 (T 12),bb 65 49 (T 63) (T 64),aO 66 84 (T 65),cp 67 84 84 (T 61) (T 66)]])
 (.ops [.xs [R 68 (T 10),R 69 (T 12),bb 70 49 (T 68) (T 69),aO 71 84 (T 70),R 72 (T 4),R 73 (T 12),bi 74 .add 3 (T 72) (T 73)],
  .b3 none 75 44 6 6,.b3 none 76 51 1 1,
  .xs [R 77 (T 12),bg (a6 78 30 [T 76,T 77]),bg (a6 79 47 [T 75,T 78]),bb 80 84 (T 71) (T 74),st 44 (T 80) (T 79)]]))))
 (.ops [.xs [bi 81 .add 3 (T 55) (ak 1),R 55 (T 81)]])))))))
 (.seq (.seq (.ops [.xs [R 82 (T 4),R 83 (ak 0)]])
 (.block 4 (.loop 20769187424467903957204951919239168 0 (.seq (.ops [.xs [bi 84 .lss 3 (T 83) (T 82)]])
 (.seq (.cond (T 84) (.skip)
 (.exit 4))
 (.seq (.block 5 (.seq (.ops [.xs [R 85 (T 83),al 13 (T 85)]])
 (.seq (.ops [.xs [R 86 (T 10),R 87 (T 3),R 88 (T 13),bi 89 .add 3 (T 87) (T 88),bb 90 49 (T 86) (T 89),aO 91 84 (T 90),R 92 (T 4),bg (gm 93 84 (T 91) (some (T 92)) none none)],
  .bk none 94 51 5 0 5 0,.aO none 95 49 94 5 0,.xs [R 96 (T 13),bb 97 49 (T 95) (T 96),aO 98 84 (T 97),cp 99 84 84 (T 93) (T 98)]])
 (.ops [.xs [R 100 (T 10),R 101 (T 3),R 102 (T 13),bi 103 .add 3 (T 101) (T 102),bb 104 49 (T 100) (T 103),aO 105 84 (T 104),R 106 (T 13)],
  .b3 none 107 44 6 6,.b3 none 108 51 5 5,
  .xs [R 109 (T 13),bg (a6 110 30 [T 108,T 109]),bg (a6 111 47 [T 107,T 110]),bb 112 84 (T 105) (T 106),st 44 (T 112) (T 111)]]))))
 (.ops [.xs [bi 113 .add 3 (T 83) (ak 1),R 83 (T 113)]])))))))
 (.seq (.ops [.xs [R 114 (T 10),eS 115 51 [(0,T 114)]],.cD true none 51 2 (T 115) 2])
 (.ret)))))))))),[.cell 2 51]⟩
def GG:dn:=⟨.seq (.ops [.cZ 1 44 (T 0),.bY 2 44])
 (.seq (.ops [.bk none 3 44 1 0 1 0,.aO none 4 42 3 1 0,.xs [bg (a6 5 81 [T 4])],.bk none 6 44 1 1 1 2,.aO none 7 42 6 1 2,
  .xs [eS 8 44 [(0,T 5),(1,T 7)]],.cD true none 44 2 (T 8) 2])
 (.ret)),[.cell 2 44]⟩
def Hi:dn:=⟨.seq (.ops [.xs [al 4 (C (.string {data:= #[]})),al 5 (C (.string {data:= #[]})),al 6 (C (.bool false))]])
 (.seq (.seq (.ops [.xs [R 8 (T 0),R 9 (T 1),a6 10 84 [T 8,T 9],al 7 (T 10)]])
 (.seq (.ops [.xs [R 11 (T 7),bi 12 .geq 3 (T 11) (ak 0)]])
 (.cond (T 12) (.seq (.ops [.xs [R 13 (T 0),R 14 (T 7),bg (gm 15 9 (T 13) none (some (T 14)) none),R 16 (T 0),R 17 (T 7),R 18 (T 1),bB 19 9 (T 18),bi 20 .add 3 (T 17) (T 19),bg (gm 21 9 (T 16) (some (T 20)) none none),al 4 (T 15),al 5 (T 21),al 6 (C (.bool true))]])
 (.ret))
 (.skip))))
 (.seq (.ops [.xs [R 22 (T 0),al 4 (T 22),al 5 (C (.string {data:= #[]})),al 6 (C (.bool false))]])
 (.ret))),[.tmp 4,.tmp 5,.tmp 6]⟩
def Hj:dn:=⟨.seq (.ops [.xs [al 4 (C (.string {data:= #[]})),al 5 (C (.bool false))]])
 (.seq (.seq (.ops [.xs [R 6 (T 0),R 7 (T 1),a6 8 85 [T 6,T 7],un 9 .not (T 8)]])
 (.cond (T 9) (.seq (.ops [.xs [R 10 (T 0),al 4 (T 10),al 5 (C (.bool false))]])
 (.ret))
 (.skip)))
 (.seq (.ops [.xs [R 11 (T 0),R 12 (T 1),bB 13 9 (T 12),gm 14 9 (T 11) (some (T 13)) none none,al 4 (T 14),al 5 (C (.bool true))]])
 (.ret))),[.tmp 4,.tmp 5]⟩
def GM:dn:=⟨.seq (.ops [.xs [al 4 (C (.slice none 0 0)),al 5 (C (.slice none 0 0))]])
 (.seq (.seq (.ops [.xs [R 14 (T 0),R 15 (T 1),a6 16 63 [T 14,T 15],bi 17 .lss 3 (T 16) (ak 0)]])
 (.cond (T 17) (.seq (.ops [.xs [R 18 (T 0),ap 19 40 40 (C (.slice none 0 0)) (T 18),al 4 (C (.slice none 0 0)),al 5 (T 19)]])
 (.ret))
 (.skip)))
 (.seq (.seq (.ops [.xs [R 20 (T 1),bB 21 40 (T 20),bi 22 .eql 3 (T 21) (ak 1)]])
 (.cond (T 22) (.seq (.ops [.xs [R 24 (T 0),R 25 (T 1),bb 26 40 (T 25) (ak 0),aO 27 95 (T 26),a6 28 56 [T 24,T 27],R 23 (T 28),ex 29 (T 23) 0,ex 30 (T 23) 1,al 6 (T 29),al 7 (T 30)]])
 (.seq (.ops [.xs [R 31 (T 6),R 32 (T 7),fb 33 40 1 [(0,T 32)],a6 34 55 [T 33],al 4 (T 31),al 5 (T 34)]])
 (.ret)))
 (.skip)))
 (.seq (.ops [.xs [R 35 (T 1),R 36 (T 1),bB 37 40 (T 36),bi 38 .sub 3 (T 37) (ak 1),bb 39 40 (T 35) (T 38),aO 40 95 (T 39),a6 41 87 [T 40],al 8 (T 41)]])
 (.seq (.ops [.xs [R 42 (T 1),R 43 (T 8),a6 44 88 [T 42,T 43],a6 45 55 [T 44],R 46 (T 0),R 47 (T 8),a6 48 88 [T 46,T 47],al 9 (T 45),al 10 (T 48)]])
 (.seq (.ops [.xs [R 49 (T 9),bB 50 40 (T 49),al 11 (T 50)]])
 (.seq (.ops [.xs [R 51 (T 0),bB 52 40 (T 51),R 53 (T 11),bi 54 .sub 3 (T 52) (T 53),bi 55 .add 3 (T 54) (ak 1),ms 56 40 (T 55) (T 55),al 12 (T 56)]])
 (.seq (.seq (.ops [.xs [R 57 (T 0),bB 58 40 (T 57),R 59 (T 11),bi 60 .sub 3 (T 58) (T 59),al 13 (T 60)]])
 (.block 0 (.loop 151113421608819433152512 0 (.seq (.seq (.ops [.xs [R 61 (T 13),bi 62 .geq 3 (T 61) (ak 0)]])
 (.cond (T 62) (.skip)
 (.exit 0)))
 (.seq (.block 1 (.ops [.xs [R 65 (T 12),R 66 (T 13),R 67 (T 10),R 68 (T 13),R 69 (T 13),R 70 (T 11),bi 71 .add 3 (T 69) (T 70),bi 72 .add 3 (T 71) (ak 1),gm 73 40 (T 67) (some (T 68)) (some (T 72)) none,R 74 (T 9),a6 75 89 [T 73,T 74],bb 76 40 (T 65) (T 66),st 95 (T 76) (T 75)]]))
 (.ops [.xs [R 63 (T 13),bi 64 .sub 3 (T 63) (ak 1),al 13 (T 64)]]))))))
 (.seq (.ops [.xs [R 77 (T 12),bg (a6 78 55 [T 77]),R 79 (T 10),R 80 (T 11),bg (gm 81 40 (T 79) none (some (T 80)) none),a6 82 55 [T 81],R 83 (T 8),a6 84 90 [T 82,T 83],al 4 (T 78),al 5 (T 84)]])
 (.ret))))))))),[.tmp 4,.tmp 5]⟩
def GA:dn:=⟨.seq (.ops [.cZ 2 42 (T 0),.cZ 3 42 (T 1),.bY 4 42,.bY 5 42])
 (.seq (.ops [.bk none 11 42 2 1 2 1,.aO none 12 40 11 2 1,.bk none 13 42 3 1 3 1,.aO none 14 40 13 3 1,
  .xs [a6 15 79 [T 12,T 14],R 10 (T 15),ex 16 (T 10) 0,ex 17 (T 10) 1,al 6 (T 16),al 7 (T 17)]])
 (.seq (.ops [.bk none 18 42 2 0 2 0,.aO none 19 4 18 2 0,.bk none 20 42 3 0 3 0,.aO none 21 4 20 3 0,
  .xs [bi 22 .neq 4 (T 19) (T 21),R 23 (T 6),bg (a6 24 54 [T 22,T 23])],.bk none 25 42 2 0 2 0,.aO none 26 4 25 2 0,
  .xs [R 27 (T 7),bg (a6 28 54 [T 26,T 27])],.bY 8 42,.bY 9 42,.cD true none 42 8 (T 24) 8,.cD true none 42 9 (T 28) 9])
 (.seq (.box 35183835217920 768 (.seq (.box 549218942976 0 (.ops [.xs [R 29 (T 7),bB 30 40 (T 29),bi 31 .gtr 3 (T 30) (ak 0),R 32 (T 31)],.bk (some (32,true)) 33 42 2 0 2 0,
  .aO (some (32,true)) 34 4 33 2 0,.bk (some (32,true)) 35 42 3 0 3 0,.aO (some (32,true)) 36 4 35 3 0,
  .xs [aN 32 true (bi 37 .neq 4 (T 34) (T 36)),cX 38 (T 32) (T 37) (C (.bool false))]]))
 (.cond (T 38) (.ops [.b3 none 39 42 8 8,.xs [bg (a6 40 32 [ak 1]),bg (a6 41 75 [T 39,T 40])],.b3 none 42 42 9 9,.b3 none 43 42 3 3,
  .xs [a6 44 68 [T 42,T 43]],.cD true none 42 8 (T 41) 8,.cD true none 42 9 (T 44) 9])
 (.skip))))
 (.seq (.opsL [.b3 none 45 42 8 8,.b3 none 46 42 9 9,.cD false none 42 4 (T 45) 4,.cD true none 42 5 (T 46) 5])
 (.ret))))),[.cell 4 42,.cell 5 42]⟩
def He:dn:=⟨.seq (.ops [.xs [al 4 (C (.slice none 0 0))]])
 (.seq (.box 3584 0 (.seq (.ops [.xs [R 9 (T 1),bi 10 .lss 3 (T 9) (ak 0)]])
 (.cond (T 10) (.ops [.xs [l0 11 9 (C (.string {data:= #[99,97,110,110,111,116,32,98,101,32,110,101,103,97,116,105,118,101]})),(⟨true,none,none,.panic (T 11)⟩)]])
 (.skip))))
 (.seq (.ops [.xs [R 13 (T 0),bB 14 84 (T 13),cg 15 3 76 (T 14),R 16 (T 1),cg 17 3 76 (T 16),a6 18 35 [T 15,T 17],R 12 (T 18),ex 19 (T 12) 0,ex 20 (T 12) 1,al 5 (T 19),al 6 (T 20)]])
 (.seq (.box 266338304 0 (.seq (.box 132120576 0 (.ops [.xs [R 21 (T 5),bi 22 .gtr 76 (T 21) (C (.int .u64 0)),R 23 (T 22),aN 23 false (R 24 (T 6)),aN 23 false ((bi 25 .gtr 76 (T 24) (C (.int .u64 9223372036854775807)))),cX 26 (T 23) (C (.bool true)) (T 25)]]))
 (.cond (T 26) (.ops [.xs [l0 27 9 (C (.string {data:= #[116,104,101,32,114,101,115,117,108,116,32,111,102,32,40,108,101,110,40,120,41,32,42,32,99,111,117,110,116,41,32,111,118,101,114,102,108,111,119,115]})),(⟨true,none,none,.panic (T 27)⟩)]])
 (.skip))))
 (.seq (.ops [.xs [R 28 (T 6),cg 29 76 3 (T 28),ms 30 84 (T 29) (T 29),al 7 (T 30)]])
 (.seq (.ops [.xs [R 31 (T 7),R 32 (T 0),cp 33 84 84 (T 31) (T 32),al 8 (T 33)]])
 (.seq (.block 0 (.loop 140720308486400 0 (.seq (.seq (.ops [.xs [R 34 (T 8),R 35 (T 7),bB 36 84 (T 35),bi 37 .lss 3 (T 34) (T 36)]])
 (.cond (T 37) (.skip)
 (.exit 0)))
 (.block 1 (.ops [.xs [R 38 (T 8),R 39 (T 7),R 40 (T 8),bg (gm 41 84 (T 39) (some (T 40)) none none),R 42 (T 7),R 43 (T 8),bg (gm 44 84 (T 42) none (some (T 43)) none),cp 45 84 84 (T 41) (T 44),bi 46 .add 3 (T 38) (T 45),al 8 (T 46)]])))))
 (.seq (.ops [.xs [R 47 (T 7),al 4 (T 47)]])
 (.ret)))))))),[.tmp 4]⟩
def Hl:dn:=⟨.seq (.ops [.xs [al 4 (ak 0)]])
 (.seq (.ops [.xs [R 14 (T 1),bB 15 9 (T 14),al 5 (T 15)]])
 (.seq (.block 0 (.seq (.box 16711680 0 (.ops [.xs [R 17 (T 5),bi 18 .eql 3 (T 17) (ak 0),R 19 (T 18),aN 19 false (R 20 (T 1)),aN 19 false (R 21 (T 0)),aN 19 false (bi 22 .eql 9 (T 20) (T 21)),cX 23 (T 19) (C (.bool true)) (T 22),al 16 (T 23)]]))
 (.cond (T 16) (.seq (.ops [.xs [al 4 (ak 0)]])
 (.ret))
 (.seq (.ops [.xs [R 25 (T 5),bi 26 .eql 3 (T 25) (ak 1),al 24 (T 26)]])
 (.cond (T 24) (.seq (.ops [.xs [R 27 (T 0),R 28 (T 1),ew 29 9 (T 28) (ak 0),a6 30 92 [T 27,T 29],al 4 (T 30)]])
 (.ret))
 (.seq (.ops [.xs [R 32 (T 5),R 33 (T 0),bB 34 9 (T 33),bi 35 .geq 3 (T 32) (T 34),al 31 (T 35)]])
 (.cond (T 31) (.seq (.ops [.xs [al 4 (ak (-1))]])
 (.ret))
 (.seq (.box 35115652612096 0 (.ops [.xs [R 37 (T 5),aO 38 3 (.global 0),bi 39 .leq 3 (T 37) (T 38),R 40 (T 39),aN 40 true (R 41 (T 0)),aN 40 true (bB 42 9 (T 41)),aN 40 true (bi 43 .leq 3 (T 42) (ak 64)),cX 44 (T 40) (T 43) (C (.bool false)),al 36 (T 44)]]))
 (.cond (T 36) (.seq (.ops [.xs [R 45 (T 0),R 46 (T 1),a6 47 93 [T 45,T 46],al 4 (T 47)]])
 (.ret))
 (.skip))))))))))
 (.seq (.ops [.xs [R 48 (T 1),ew 49 9 (T 48) (ak 0),al 6 (T 49)]])
 (.seq (.ops [.xs [R 50 (T 1),ew 51 9 (T 50) (ak 1),al 7 (T 51)]])
 (.seq (.ops [.xs [al 8 (ak 0)]])
 (.seq (.ops [.xs [R 52 (T 0),bB 53 9 (T 52),R 54 (T 5),bi 55 .sub 3 (T 53) (T 54),bi 56 .add 3 (T 55) (ak 1),al 9 (T 56)]])
 (.seq (.ops [.xs [al 10 (ak 0)]])
 (.seq (.block 1 (.loop 11150372599265311570767858992208992677149968 0 (.seq (.seq (.ops [.xs [R 57 (T 8),R 58 (T 9),bi 59 .lss 3 (T 57) (T 58)]])
 (.cond (T 59) (.skip)
 (.exit 1)))
 (.block 2 (.seq (.box 302230301982152686831888 0 (.seq (.ops [.xs [R 60 (T 0),R 61 (T 8),ew 62 9 (T 60) (T 61),R 63 (T 6),bi 64 .neq 5 (T 62) (T 63)]])
 (.cond (T 64) (.seq (.ops [.xs [R 65 (T 0),R 66 (T 8),bi 67 .add 3 (T 66) (ak 1),R 68 (T 9),gm 69 9 (T 65) (some (T 67)) (some (T 68)) none,R 70 (T 6),a6 71 92 [T 69,T 70],al 11 (T 71)]])
 (.seq (.seq (.ops [.xs [R 72 (T 11),bi 73 .lss 3 (T 72) (ak 0)]])
 (.cond (T 73) (.seq (.ops [.xs [al 4 (ak (-1))]])
 (.ret))
 (.skip)))
 (.ops [.xs [R 74 (T 8),R 75 (T 11),bi 76 .add 3 (T 75) (ak 1),bi 77 .add 3 (T 74) (T 76),al 8 (T 77)]])))
 (.skip))))
 (.seq (.seq (.box 19806738397111180741092311040 0 (.ops [.xs [R 78 (T 0),R 79 (T 8),bi 80 .add 3 (T 79) (ak 1),ew 81 9 (T 78) (T 80),R 82 (T 7),bi 83 .eql 5 (T 81) (T 82),R 84 (T 83),aN 84 true (R 85 (T 0)),aN 84 true (R 86 (T 8)),aN 84 true (R 87 (T 8)),aN 84 true (R 88 (T 5)),aN 84 true (bi 89 .add 3 (T 87) (T 88)),aN 84 true ((gm 90 9 (T 85) (some (T 86)) (some (T 89)) none)),aN 84 true (R 91 (T 1)),aN 84 true (bi 92 .eql 9 (T 90) (T 91)),cX 93 (T 84) (T 92) (C (.bool false))]]))
 (.cond (T 93) (.seq (.ops [.xs [R 94 (T 8),al 4 (T 94)]])
 (.ret))
 (.skip)))
 (.seq (.ops [.xs [R 95 (T 8),bi 96 .add 3 (T 95) (ak 1),al 8 (T 96)]])
 (.seq (.ops [.xs [R 97 (T 10),bi 98 .add 3 (T 97) (ak 1),al 10 (T 98)]])
 (.seq (.box 323884728358312612082407668973568 0 (.ops [.xs [R 99 (T 5),aO 100 3 (.global 0),bi 101 .leq 3 (T 99) (T 100),R 102 (T 101),aN 102 true (R 103 (T 10)),aN 102 true (R 104 (T 8)),aN 102 true (a6 105 94 [T 104]),aN 102 true (bi 106 .gtr 3 (T 103) (T 105)),cX 107 (T 102) (T 106) (C (.bool false))]]))
 (.cond (T 107) (.seq (.ops [.xs [R 108 (T 0),R 109 (T 8),gm 110 9 (T 108) (some (T 109)) none none,R 111 (T 1),a6 112 93 [T 110,T 111],al 12 (T 112)]])
 (.seq (.seq (.ops [.xs [R 113 (T 12),bi 114 .geq 3 (T 113) (ak 0)]])
 (.cond (T 114) (.seq (.ops [.xs [R 115 (T 12),R 116 (T 8),bi 117 .add 3 (T 115) (T 116),al 4 (T 117)]])
 (.ret))
 (.skip)))
 (.seq (.ops [.xs [al 4 (ak (-1))]])
 (.ret))))
 (.seq (.box 10888703434471084601859761486051512680448 0 (.ops [.xs [R 118 (T 5),aO 119 3 (.global 0),bi 120 .gtr 3 (T 118) (T 119),R 121 (T 120),aN 121 true (R 122 (T 10)),aN 121 true (R 123 (T 8)),aN 121 true ((bi 124 .shr 3 (T 123) (C (.int .u64 4)))),aN 121 true (bi 125 .add 3 (ak 4) (T 124)),aN 121 true (bi 126 .geq 3 (T 122) (T 125)),cX 127 (T 121) (T 126) (C (.bool false)),R 128 (T 127),aN 128 true (R 129 (T 8)),aN 128 true (R 130 (T 9)),aN 128 true (bi 131 .lss 3 (T 129) (T 130)),cX 132 (T 128) (T 131) (C (.bool false))]]))
 (.cond (T 132) (.seq (.ops [.xs [R 133 (T 0),R 134 (T 8),gm 135 9 (T 133) (some (T 134)) none none,R 136 (T 1),a6 137 95 [T 135,T 136],al 13 (T 137)]])
 (.seq (.seq (.ops [.xs [R 138 (T 13),bi 139 .lss 3 (T 138) (ak 0)]])
 (.cond (T 139) (.seq (.ops [.xs [al 4 (ak (-1))]])
 (.ret))
 (.skip)))
 (.seq (.ops [.xs [R 140 (T 8),R 141 (T 13),bi 142 .add 3 (T 140) (T 141),al 4 (T 142)]])
 (.ret))))
 (.skip)))))))))))))
 (.seq (.ops [.xs [al 4 (ak (-1))]])
 (.ret)))))))))),[.tmp 4]⟩
def Hk:dn:=⟨.seq (.ops [.xs [al 4 (C (.bool false))]])
 (.seq (.box 262128 0 (.ops [.xs [R 5 (T 0),bB 6 9 (T 5),R 7 (T 1),bB 8 9 (T 7),bi 9 .geq 3 (T 6) (T 8),R 10 (T 9),aN 10 true (R 11 (T 0)),aN 10 true (R 12 (T 1)),aN 10 true (bB 13 9 (T 12)),aN 10 true ((gm 14 9 (T 11) none (some (T 13)) none)),aN 10 true (R 15 (T 1)),aN 10 true (bi 16 .eql 9 (T 14) (T 15)),cX 17 (T 10) (T 16) (C (.bool false)),al 4 (T 17)]]))
 (.ret)),[.tmp 4]⟩
def Gr:dn:=⟨.seq (.ops [.xs [al 2 (ak 0)]])
 (.seq (.ops [.xs [R 3 (T 0),a6 4 96 [T 3],bi 5 .sub 3 (ak 32) (T 4),al 2 (T 5)]])
 (.ret)),[.tmp 2]⟩
def GP:dn:=⟨.seq (.ops [.xs [al 4 (C (.slice none 0 0))]])
 (.seq (.ops [.xs [R 9 (T 0),bB 10 40 (T 9),bi 11 .add 3 (T 10) (ak 1),ms 12 40 (T 11) (T 11),al 5 (T 12)]])
 (.seq (.seq (.ops [.xs [R 13 (T 0),bB 14 40 (T 13),R 15 (ak 0)]])
 (.block 0 (.loop 1099511595456 0 (.seq (.ops [.xs [bi 16 .lss 3 (T 15) (T 14)]])
 (.seq (.cond (T 16) (.skip)
 (.exit 0))
 (.seq (.block 1 (.seq (.ops [.xs [R 17 (T 15),bb 18 40 (T 13) (T 15),aO 19 95 (T 18),al 6 (T 17),al 7 (T 19)]])
 (.seq (.ops [.xs [R 20 (T 7),cg 21 95 94 (T 20),R 22 (T 1),bi 23 .shl 94 (T 21) (T 22),al 8 (T 23)]])
 (.seq (.ops [.xs [R 24 (T 5),R 25 (T 6),bb 26 40 (T 24) (T 25),aO 27 95 (T 26),R 28 (T 8),cg 29 94 95 (T 28),bi 30 .or 95 (T 27) (T 29),bb 31 40 (T 24) (T 25),st 95 (T 31) (T 30)]])
 (.ops [.xs [R 32 (T 5),R 33 (T 6),bi 34 .add 3 (T 33) (ak 1),R 35 (T 8),bi 36 .shr 94 (T 35) (C (.int .u64 32)),cg 37 94 95 (T 36),bb 38 40 (T 32) (T 34),st 95 (T 38) (T 37)]])))))
 (.ops [.xs [bi 39 .add 3 (T 15) (ak 1),R 15 (T 39)]])))))))
 (.seq (.ops [.xs [R 40 (T 5),al 4 (T 40)]])
 (.ret)))),[.tmp 4]⟩
def GK:dn:=⟨.seq (.ops [.xs [al 4 (C (.int .u32 0))]])
 (.seq (.ops [.xs [R 15 (T 1),bB 16 40 (T 15),al 5 (T 16)]])
 (.seq (.ops [.xs [R 17 (T 0),R 18 (T 5),bb 19 40 (T 17) (T 18),aO 20 95 (T 19),cg 21 95 94 (T 20),bi 22 .shl 94 (T 21) (C (.int .u64 32)),R 23 (T 0),R 24 (T 5),bi 25 .sub 3 (T 24) (ak 1),bb 26 40 (T 23) (T 25),aO 27 95 (T 26),cg 28 95 94 (T 27),bi 29 .or 94 (T 22) (T 28),al 6 (T 29)]])
 (.seq (.ops [.xs [R 30 (T 6),R 31 (T 1),R 32 (T 5),bi 33 .sub 3 (T 32) (ak 1),bb 34 40 (T 31) (T 33),aO 35 95 (T 34),cg 36 95 94 (T 35),bi 37 .quo 94 (T 30) (T 36),R 38 (T 6),R 39 (T 1),R 40 (T 5),bi 41 .sub 3 (T 40) (ak 1),bb 42 40 (T 39) (T 41),aO 43 95 (T 42),cg 44 95 94 (T 43),bi 45 .rem 94 (T 38) (T 44),al 7 (T 37),al 8 (T 45)]])
 (.seq (.box 4835703278388147954647424 0 (.block 0 (.loop 4835703278388147954647424 0 (.seq (.seq (.box 590295739989961474048 0 (.ops [.xs [R 46 (T 7),bi 47 .shr 94 (T 46) (C (.int .u64 32)),bi 48 .gtr 94 (T 47) (C (.int .u64 0)),R 49 (T 48),aN 49 false (R 50 (T 7)),aN 49 false (R 51 (T 1)),aN 49 false (R 52 (T 5)),aN 49 false (bi 53 .sub 3 (T 52) (ak 2)),aN 49 false (bb 54 40 (T 51) (T 53)),aN 49 false (aO 55 95 (T 54)),aN 49 false (cg 56 95 94 (T 55)),aN 49 false (bi 57 .mul 94 (T 50) (T 56)),aN 49 false (R 58 (T 8)),aN 49 false ((bi 59 .shl 94 (T 58) (C (.int .u64 32)))),aN 49 false (R 60 (T 0)),aN 49 false (R 61 (T 5)),aN 49 false (bi 62 .sub 3 (T 61) (ak 2)),aN 49 false (bb 63 40 (T 60) (T 62)),aN 49 false (aO 64 95 (T 63)),aN 49 false (cg 65 95 94 (T 64)),aN 49 false (bi 66 .or 94 (T 59) (T 65)),aN 49 false (bi 67 .gtr 94 (T 57) (T 66)),cX 68 (T 49) (C (.bool true)) (T 67)]]))
 (.cond (T 68) (.skip)
 (.exit 0)))
 (.block 1 (.seq (.ops [.xs [R 69 (T 7),bi 70 .sub 94 (T 69) (C (.int .u64 1)),al 7 (T 70)]])
 (.seq (.ops [.xs [R 71 (T 8),R 72 (T 1),R 73 (T 5),bi 74 .sub 3 (T 73) (ak 1),bb 75 40 (T 72) (T 74),aO 76 95 (T 75),cg 77 95 94 (T 76),bi 78 .add 94 (T 71) (T 77),al 8 (T 78)]])
 (.seq (.ops [.xs [R 79 (T 8),bi 80 .shr 94 (T 79) (C (.int .u64 32)),bi 81 .gtr 94 (T 80) (C (.int .u64 0))]])
 (.cond (T 81) (.exit 0)
 (.skip))))))))))
 (.seq (.ops [.xs [al 9 (C (.int .u64 0)),al 10 (C (.int .u32 0))]])
 (.seq (.seq (.ops [.xs [R 82 (T 1),bB 83 40 (T 82),R 84 (ak 0)]])
 (.block 2 (.loop 10384593697726842143226925863149056 0 (.seq (.ops [.xs [bi 85 .lss 3 (T 84) (T 83)]])
 (.seq (.cond (T 85) (.skip)
 (.exit 2))
 (.seq (.block 3 (.seq (.ops [.xs [R 86 (T 84),al 11 (T 86)]])
 (.seq (.ops [.xs [R 87 (T 7),R 88 (T 1),R 89 (T 11),bb 90 40 (T 88) (T 89),aO 91 95 (T 90),cg 92 95 94 (T 91),bi 93 .mul 94 (T 87) (T 92),R 94 (T 9),bi 95 .add 94 (T 93) (T 94),al 12 (T 95)]])
 (.seq (.ops [.xs [R 96 (T 12),bi 97 .shr 94 (T 96) (C (.int .u64 32)),al 9 (T 97)]])
 (.ops [.xs [R 99 (T 0),R 100 (T 11),R 101 (T 0),R 102 (T 11),bb 103 40 (T 101) (T 102),aO 104 95 (T 103),R 105 (T 12),cg 106 94 95 (T 105),R 107 (T 10),a6 108 91 [T 104,T 106,T 107],R 98 (T 108),ex 109 (T 98) 0,ex 110 (T 98) 1,bb 111 40 (T 99) (T 100),st 95 (T 111) (T 109),al 10 (T 110)]])))))
 (.ops [.xs [bi 112 .add 3 (T 84) (ak 1),R 84 (T 112)]])))))))
 (.seq (.ops [.xs [R 114 (T 0),R 115 (T 5),R 116 (T 0),R 117 (T 5),bb 118 40 (T 116) (T 117),aO 119 95 (T 118),R 120 (T 9),cg 121 94 95 (T 120),R 122 (T 10),a6 123 91 [T 119,T 121,T 122],R 113 (T 123),ex 124 (T 113) 0,ex 125 (T 113) 1,bb 126 40 (T 114) (T 115),st 95 (T 126) (T 124),al 10 (T 125)]])
 (.seq (.box 1461501637160761734743215600984595715940048461952 0 (.seq (.ops [.xs [R 127 (T 10),bi 128 .gtr 95 (T 127) (C (.int .u32 0))]])
 (.cond (T 128) (.seq (.ops [.xs [R 129 (T 7),bi 130 .sub 94 (T 129) (C (.int .u64 1)),al 7 (T 130)]])
 (.seq (.ops [.xs [al 13 (C (.int .u32 0))]])
 (.seq (.seq (.ops [.xs [R 131 (T 1),bB 132 40 (T 131),R 133 (ak 0)]])
 (.block 4 (.loop 11417970652611937578435456927608523274479230976 0 (.seq (.ops [.xs [bi 134 .lss 3 (T 133) (T 132)]])
 (.seq (.cond (T 134) (.skip)
 (.exit 4))
 (.seq (.block 5 (.seq (.ops [.xs [R 135 (T 133),al 14 (T 135)]])
 (.ops [.xs [R 137 (T 0),R 138 (T 14),R 139 (T 0),R 140 (T 14),bb 141 40 (T 139) (T 140),aO 142 95 (T 141),R 143 (T 1),R 144 (T 14),bb 145 40 (T 143) (T 144),aO 146 95 (T 145),R 147 (T 13),a6 148 86 [T 142,T 146,T 147],R 136 (T 148),ex 149 (T 136) 0,ex 150 (T 136) 1,bb 151 40 (T 137) (T 138),st 95 (T 151) (T 149),al 13 (T 150)]])))
 (.ops [.xs [bi 152 .add 3 (T 133) (ak 1),R 133 (T 152)]])))))))
 (.ops [.xs [R 153 (T 0),R 154 (T 5),bb 155 40 (T 153) (T 154),aO 156 95 (T 155),R 157 (T 13),bi 158 .add 95 (T 156) (T 157),bb 159 40 (T 153) (T 154),st 95 (T 159) (T 158)]]))))
 (.skip))))
 (.seq (.ops [.xs [R 160 (T 7),cg 161 94 95 (T 160),al 4 (T 161)]])
 (.ret)))))))))),[.tmp 4]⟩
def GL:dn:=⟨.seq (.ops [.xs [al 4 (C (.slice none 0 0))]])
 (.seq (.ops [.xs [R 8 (T 0),bB 9 40 (T 8),ms 10 40 (T 9) (T 9),al 5 (T 10)]])
 (.seq (.seq (.ops [.xs [R 11 (T 0),bB 12 40 (T 11),R 13 (ak 0)]])
 (.block 0 (.loop 8796093014208 0 (.seq (.ops [.xs [bi 14 .lss 3 (T 13) (T 12)]])
 (.seq (.cond (T 14) (.skip)
 (.exit 0))
 (.seq (.block 1 (.seq (.ops [.xs [R 15 (T 13),al 6 (T 15)]])
 (.seq (.ops [.xs [R 16 (T 0),R 17 (T 6),bb 18 40 (T 16) (T 17),aO 19 95 (T 18),cg 20 95 94 (T 19),al 7 (T 20)]])
 (.seq (.box 34357641344 0 (.seq (.ops [.xs [R 21 (T 6),bi 22 .add 3 (T 21) (ak 1),R 23 (T 0),bB 24 40 (T 23),bi 25 .lss 3 (T 22) (T 24)]])
 (.cond (T 25) (.ops [.xs [R 26 (T 7),R 27 (T 0),R 28 (T 6),bi 29 .add 3 (T 28) (ak 1),bb 30 40 (T 27) (T 29),aO 31 95 (T 30),cg 32 95 94 (T 31),bi 33 .shl 94 (T 32) (C (.int .u64 32)),bi 34 .or 94 (T 26) (T 33),al 7 (T 34)]])
 (.skip))))
 (.ops [.xs [R 35 (T 5),R 36 (T 6),R 37 (T 7),R 38 (T 1),bi 39 .shr 94 (T 37) (T 38),cg 40 94 95 (T 39),bb 41 40 (T 35) (T 36),st 95 (T 41) (T 40)]])))))
 (.ops [.xs [bi 42 .add 3 (T 13) (ak 1),R 13 (T 42)]])))))))
 (.seq (.ops [.xs [R 43 (T 5),a6 44 55 [T 43],al 4 (T 44)]])
 (.ret)))),[.tmp 4]⟩
def Hm:dn:=⟨.seq (.ops [.xs [al 4 (ak 0)]])
 (.seq (.ops [.xs [R 5 (T 0),R 6 (T 1),a6 7 97 [T 5,T 6],al 4 (T 7)]])
 (.ret)),[.tmp 4]⟩
def Gs:dn:=⟨.seq (.ops [.xs [al 2 (ak 0)]])
 (.seq (.box 125 0 (.seq (.ops [.xs [R 3 (T 0),bi 4 .geq 95 (T 3) (C (.int .u32 65536))]])
 (.cond (T 4) (.seq (.ops [.xs [R 5 (T 0),bi 6 .shr 95 (T 5) (C (.int .u64 16)),al 0 (T 6)]])
 (.ops [.xs [al 2 (ak 16)]]))
 (.skip))))
 (.seq (.box 8069 0 (.seq (.ops [.xs [R 7 (T 0),bi 8 .geq 95 (T 7) (C (.int .u32 256))]])
 (.cond (T 8) (.seq (.ops [.xs [R 9 (T 0),bi 10 .shr 95 (T 9) (C (.int .u64 8)),al 0 (T 10)]])
 (.ops [.xs [R 11 (T 2),bi 12 .add 3 (T 11) (ak 8),al 2 (T 12)]]))
 (.skip))))
 (.seq (.ops [.xs [R 13 (T 2),R 14 (T 0),cg 15 95 5 (T 14),(ew 16 9 (C (.string {data:=(List.toArray (List.append (List.append [0,1,2,2,3,3,3,3,4,4,4,4,4,4,4,4,5,5,5,5,5,5,5,5,5,5,5,5,5,5,5,5,6,6,6,6,6,6,6,6,6,6,6,6,6,6,6,6,6,6,6,6,6,6,6,6,6,6,6,6,6,6,6,6] [7,7,7,7,7,7,7,7,7,7,7,7,7,7,7,7,7,7,7,7,7,7,7,7,7,7,7,7,7,7,7,7,7,7,7,7,7,7,7,7,7,7,7,7,7,7,7,7,7,7,7,7,7,7,7,7,7,7,7,7,7,7,7,7]) (List.append [8,8,8,8,8,8,8,8,8,8,8,8,8,8,8,8,8,8,8,8,8,8,8,8,8,8,8,8,8,8,8,8,8,8,8,8,8,8,8,8,8,8,8,8,8,8,8,8,8,8,8,8,8,8,8,8,8,8,8,8,8,8,8,8] [8,8,8,8,8,8,8,8,8,8,8,8,8,8,8,8,8,8,8,8,8,8,8,8,8,8,8,8,8,8,8,8,8,8,8,8,8,8,8,8,8,8,8,8,8,8,8,8,8,8,8,8,8,8,8,8,8,8,8,8,8,8,8,8])))})) (T 15)),cg 17 5 3 (T 16),bi 18 .add 3 (T 13) (T 17),al 2 (T 18)]])
 (.ret)))),[.tmp 2]⟩
theorem Ym:eO prog 23=some 27:=by kernel_rfl
theorem Yn:fI prog 23=true:=by kernel_rfl
theorem MQ:bn prog 27=some 2:=by kernel_rfl
theorem YV:bytes? prog 27=some 32:=by kernel_rfl
theorem A2:dv prog 27=some (.agg #[(.int .i64 0),(.slice none 0 0)]):=by kernel_rfl
theorem Zb:prog.underlying 23=some (.slice 27):=by kernel_rfl
theorem uX:jw prog 3=some .i64:=by kernel_rfl
theorem Zt:gf prog 27 0=some 0:=by kernel_rfl
theorem ZC:c_ prog 3=some false:=by kernel_rfl
theorem ZM:bn prog 3=some 1:=by kernel_rfl
theorem Yo:gf prog 27 1=some 1:=by kernel_rfl
theorem Yx:c_ prog 25=some false:=by kernel_rfl
theorem YG:bn prog 25=some 1:=by kernel_rfl
theorem MP:l1 prog 27=some [(0,1),(1,1)]:=by kernel_rfl
theorem YI:jw prog 29=some .i64:=by kernel_rfl
theorem YJ:s9 prog 4=true:=by kernel_rfl
theorem YK:eO prog 22=some 25:=by kernel_rfl
theorem YL:fI prog 22=true:=by kernel_rfl
theorem YM:bytes? prog 25=some 24:=by kernel_rfl
theorem YN:dv prog 25=some (.slice none 0 0):=by kernel_rfl
theorem YO:prog.underlying 22=some (.slice 25):=by kernel_rfl
theorem YP:eO prog 25=some 3:=by kernel_rfl
theorem YQ:fI prog 25=true:=by kernel_rfl
theorem YR:bytes? prog 3=some 8:=by kernel_rfl
theorem YS:dv prog 3=some (.int .i64 0):=by kernel_rfl
theorem YT:prog.underlying 25=some (.slice 3):=by kernel_rfl
theorem YU:c_ prog 27=some true:=by kernel_rfl
theorem AZ:dv prog 48=some (.agg #[(.string {data:= #[]}),(.slice none 0 0)]):=by kernel_rfl
theorem MR:l1 prog 48=some [(0,1),(1,1)]:=by kernel_rfl
theorem MS:bn prog 48=some 2:=by kernel_rfl
theorem YW:c_ prog 48=some true:=by kernel_rfl
theorem YX:gf prog 48 1=some 1:=by kernel_rfl
theorem YY:eO prog 37=some 48:=by kernel_rfl
theorem YZ:fI prog 37=true:=by kernel_rfl
theorem Y0:bytes? prog 48=some 40:=by kernel_rfl
theorem Y1:prog.underlying 37=some (.slice 48):=by kernel_rfl
theorem A0:dv prog 51=some (.agg #[(.slice none 0 0)]):=by kernel_rfl
theorem MT:bn prog 51=some 1:=by kernel_rfl
theorem Y2:c_ prog 51=some true:=by kernel_rfl
theorem A1:dv prog 44=some (.agg #[(.bool false),(.slice none 0 0),(.bool false),(.slice none 0 0)]):=by kernel_rfl
theorem MU:bn prog 44=some 4:=by kernel_rfl
theorem Y3:c_ prog 44=some true:=by kernel_rfl
theorem Y4:iq prog 38=true:=by kernel_rfl
theorem Y5:fI prog 38=true:=by kernel_rfl
theorem Y6:eO prog 64=some 4:=by kernel_rfl
theorem Y7:fI prog 64=true:=by kernel_rfl
theorem Y8:bn prog 4=some 1:=by kernel_rfl
theorem Y9:bytes? prog 4=some 1:=by kernel_rfl
theorem Y_:dv prog 4=some (.bool false):=by kernel_rfl
theorem Za:prog.underlying 64=some (.slice 4):=by kernel_rfl
theorem Zc:c_ prog 4=some false:=by kernel_rfl
theorem Zd:eO prog 65=some 68:=by kernel_rfl
theorem Ze:fI prog 65=true:=by kernel_rfl
theorem MV:bn prog 68=some 5:=by kernel_rfl
theorem Zf:bytes? prog 68=some 88:=by kernel_rfl
theorem A3:dv prog 68=some (.agg #[(.bool false),(.slice none 0 0),(.bool false),(.slice none 0 0),(.slice none 0 0)]):=by kernel_rfl
theorem Zg:prog.underlying 65=some (.slice 68):=by kernel_rfl
theorem Zh:c_ prog 68=some true:=by kernel_rfl
theorem Zi:gf prog 68 0=some 0:=by kernel_rfl
theorem Zj:gf prog 68 1=some 4:=by kernel_rfl
theorem MW:l1 prog 44=some [(0,2),(2,2)]:=by kernel_rfl
theorem Zk:gf prog 44 0=some 0:=by kernel_rfl
theorem Zl:gf prog 42 1=some 1:=by kernel_rfl
theorem Zm:c_ prog 40=some false:=by kernel_rfl
theorem Zn:bn prog 40=some 1:=by kernel_rfl
theorem Zo:iq prog 9=true:=by kernel_rfl
theorem Zp:fI prog 9=true:=by kernel_rfl
theorem Zq:gf prog 42 0=some 0:=by kernel_rfl
theorem Zr:gf prog 44 1=some 2:=by kernel_rfl
theorem Zs:prog.concrete 9=true:=by kernel_rfl
theorem xW:jw prog 76=some .u64:=by kernel_rfl
theorem Zu:gf prog 48 0=some 0:=by kernel_rfl
theorem Zv:c_ prog 38=some false:=by kernel_rfl
theorem Zw:bn prog 38=some 1:=by kernel_rfl
theorem MX:l1 prog 51=some [(0,1)]:=by kernel_rfl
theorem Zx:gf prog 51 0=some 0:=by kernel_rfl
theorem Zy:c_ prog 49=some false:=by kernel_rfl
theorem Zz:bn prog 49=some 1:=by kernel_rfl
theorem ZA:eO prog 49=some 84:=by kernel_rfl
theorem ZB:fI prog 49=true:=by kernel_rfl
theorem ZD:bn prog 84=some 1:=by kernel_rfl
theorem ZE:bytes? prog 84=some 24:=by kernel_rfl
theorem ZF:dv prog 84=some (.slice none 0 0):=by kernel_rfl
theorem ZG:prog.underlying 49=some (.slice 84):=by kernel_rfl
theorem ZH:c_ prog 84=some false:=by kernel_rfl
theorem ZI:eO prog 84=some 44:=by kernel_rfl
theorem ZJ:fI prog 84=true:=by kernel_rfl
theorem ZK:bytes? prog 44=some 64:=by kernel_rfl
theorem ZL:prog.underlying 84=some (.slice 44):=by kernel_rfl
theorem MY:dv prog 92=some (.agg #[(.slice none 0 0),(.slice none 0 0),(.slice none 0 0)]):=by kernel_rfl
theorem MZ:l1 prog 92=some [(0,1),(1,1),(2,1)]:=by kernel_rfl
theorem ZN:bn prog 92=some 3:=by kernel_rfl
theorem ZO:gf prog 92 2=some 2:=by kernel_rfl
theorem ZP:bn prog 64=some 1:=by kernel_rfl
theorem ZQ:gf prog 92 1=some 1:=by kernel_rfl
theorem M0:l1 prog 68=some [(0,4),(4,1)]:=by kernel_rfl
theorem A4:dv prog 42=some (.agg #[(.bool false),(.slice none 0 0)]):=by kernel_rfl
theorem M1:bn prog 42=some 2:=by kernel_rfl
theorem ZR:c_ prog 42=some true:=by kernel_rfl
theorem ZS:eO prog 40=some 95:=by kernel_rfl
theorem Yp:fI prog 40=true:=by kernel_rfl
theorem Yq:bn prog 95=some 1:=by kernel_rfl
theorem Yr:bytes? prog 95=some 4:=by kernel_rfl
theorem Ys:dv prog 95=some (.int .u32 0):=by kernel_rfl
theorem Yt:prog.underlying 40=some (.slice 95):=by kernel_rfl
theorem Yu:c_ prog 95=some false:=by kernel_rfl
theorem sJ:jw prog 95=some .u32:=by kernel_rfl
theorem xV:jw prog 94=some .u64:=by kernel_rfl
theorem Yv:bn prog 22=some 1:=by kernel_rfl
theorem Yw:c_ prog 22=some false:=by kernel_rfl
theorem AY:jw prog 5=some .u8:=by kernel_rfl
theorem Yy:eO prog 103=some 5:=by kernel_rfl
theorem Yz:fI prog 103=true:=by kernel_rfl
theorem YA:bn prog 5=some 1:=by kernel_rfl
theorem YB:bytes? prog 5=some 1:=by kernel_rfl
theorem YC:dv prog 5=some (.int .u8 0):=by kernel_rfl
theorem YD:prog.underlying 103=some (.slice 5):=by kernel_rfl
theorem YE:gf prog 92 0=some 0:=by kernel_rfl
theorem YF:c_ prog 64=some false:=by kernel_rfl
theorem MO:l1 prog 42=some [(0,1),(1,1)]:=by kernel_rfl
theorem YH:c_ prog 5=some false:=by kernel_rfl
attribute [simp] Ym Yn MQ YV A2 Zb uX Zt ZC ZM Yo Yx YG MP YI YJ YK YL YM YN YO YP YQ YR YS YT YU AZ MR MS YW YX YY YZ Y0 Y1 A0 MT Y2 A1 MU Y3 Y4 Y5 Y6 Y7 Y8 Y9 Y_ Za Zc Zd Ze MV Zf A3 Zg Zh Zi Zj MW Zk Zl Zm Zn Zo Zp Zq Zr Zs xW Zu Zv Zw MX Zx Zy Zz ZA ZB ZD ZE ZF ZG ZH ZI ZJ ZK ZL MY MZ ZN ZO ZP ZQ M0 A4 M1 ZR ZS Yp Yq Yr Ys Yt Yu sJ xV Yv Yw AY Yy Yz YA YB YC YD YE YF MO YH
@[simp] theorem acj{r:List br}{F:Fr}{H:ab}{Q:Fr->ab->Prop}(d:Nat)(aZ:List (Nat×Operand))(aw:a_ (eS d 27 aZ::r) Q):a8 prog (eS d 27 aZ::r) Q aw F H=gb (fun out=>a8 prog r Q .mk (aX F d (.agg out.toArray)) H) .mk (kE [(0,1),(1,1)] (Value.cells (.agg #[(.int .i64 0),(.slice none 0 0)])).toList (aZ.map fun p=>(p.1,aq F p.2))):=sG A2 (by kernel_rfl) MP aw
@[simp high] theorem abY{r:List br}{F:Fr}{H:ab}{Q:Fr->ab->Prop}(d:Nat)(aw:a_ (bY d 27::r) Q):a8 prog (bY d 27::r) Q aw F H=a8 prog r Q .mk (aX F d (.pointer (some ⟨H.length,0,none⟩))) (H++[.own 27 false [(.int .i64 0),(.slice none 0 0)]]):=by rw[uT,A2,eY,show flat (.agg #[(.int .i64 0),(.slice none 0 0)])=true from by kernel_rfl,MQ];simp[Value.cells]
theorem aan:Whole prog 27 (.agg #[(.int .i64 0),(.slice none 0 0)]):=⟨by kernel_rfl,by kernel_rfl,(by rw[if_pos (by rfl)];kernel_rfl)⟩
@[simp] theorem agF{F G:Fr}{H:ab}{r:List g6}{Q:Fr->Fr->ab->Prop}(c:Nat)(aw:a_ (.bY c 27::r) Q):ed prog (.bY c 27::r) Q aw F G H=ed prog r Q .mk (aX F c (.pointer (some ⟨H.length,0,none⟩))) (aX G c (.agg #[(.int .i64 0),(.slice none 0 0)])) (H++[.dead]):=uY A2 (by kernel_rfl) aan aw
@[simp] theorem acn{r:List br}{F:Fr}{H:ab}{Q:Fr->ab->Prop}(d:Nat)(aZ:List (Nat×Operand))(aw:a_ (eS d 48 aZ::r) Q):a8 prog (eS d 48 aZ::r) Q aw F H=gb (fun out=>a8 prog r Q .mk (aX F d (.agg out.toArray)) H) .mk (kE [(0,1),(1,1)] (Value.cells (.agg #[(.string {data:= #[]}),(.slice none 0 0)])).toList (aZ.map fun p=>(p.1,aq F p.2))):=sG AZ (by kernel_rfl) MR aw
@[simp high] theorem ab1{r:List br}{F:Fr}{H:ab}{Q:Fr->ab->Prop}(d:Nat)(aw:a_ (bY d 48::r) Q):a8 prog (bY d 48::r) Q aw F H=a8 prog r Q .mk (aX F d (.pointer (some ⟨H.length,0,none⟩))) (H++[.own 48 false [(.string {data:= #[]}),(.slice none 0 0)]]):=by rw[uT,AZ,eY,show flat (.agg #[(.string {data:= #[]}),(.slice none 0 0)])=true from by kernel_rfl,MS];simp[Value.cells]
theorem aaq:Whole prog 48 (.agg #[(.string {data:= #[]}),(.slice none 0 0)]):=⟨by kernel_rfl,by kernel_rfl,(by rw[if_pos (by rfl)];kernel_rfl)⟩
@[simp] theorem agI{F G:Fr}{H:ab}{r:List g6}{Q:Fr->Fr->ab->Prop}(c:Nat)(aw:a_ (.bY c 48::r) Q):ed prog (.bY c 48::r) Q aw F G H=ed prog r Q .mk (aX F c (.pointer (some ⟨H.length,0,none⟩))) (aX G c (.agg #[(.string {data:= #[]}),(.slice none 0 0)])) (H++[.dead]):=uY AZ (by kernel_rfl) aaq aw
@[simp high] theorem ab2{r:List br}{F:Fr}{H:ab}{Q:Fr->ab->Prop}(d:Nat)(aw:a_ (bY d 51::r) Q):a8 prog (bY d 51::r) Q aw F H=a8 prog r Q .mk (aX F d (.pointer (some ⟨H.length,0,none⟩))) (H++[.own 51 false [(.slice none 0 0)]]):=by rw[uT,A0,eY,show flat (.agg #[(.slice none 0 0)])=true from by kernel_rfl,MT];simp[Value.cells]
theorem aar:Whole prog 51 (.agg #[(.slice none 0 0)]):=⟨by kernel_rfl,by kernel_rfl,(by rw[if_pos (by rfl)];kernel_rfl)⟩
@[simp] theorem agJ{F G:Fr}{H:ab}{r:List g6}{Q:Fr->Fr->ab->Prop}(c:Nat)(aw:a_ (.bY c 51::r) Q):ed prog (.bY c 51::r) Q aw F G H=ed prog r Q .mk (aX F c (.pointer (some ⟨H.length,0,none⟩))) (aX G c (.agg #[(.slice none 0 0)])) (H++[.dead]):=uY A0 (by kernel_rfl) aar aw
@[simp high] theorem ab0{r:List br}{F:Fr}{H:ab}{Q:Fr->ab->Prop}(d:Nat)(aw:a_ (bY d 44::r) Q):a8 prog (bY d 44::r) Q aw F H=a8 prog r Q .mk (aX F d (.pointer (some ⟨H.length,0,none⟩))) (H++[.own 44 false [(.bool false),(.slice none 0 0),(.bool false),(.slice none 0 0)]]):=by rw[uT,A1,eY,show flat (.agg #[(.bool false),(.slice none 0 0),(.bool false),(.slice none 0 0)])=true from by kernel_rfl,MU];simp[Value.cells]
theorem aap:Whole prog 44 (.agg #[(.bool false),(.slice none 0 0),(.bool false),(.slice none 0 0)]):=⟨by kernel_rfl,by kernel_rfl,(by rw[if_pos (by rfl)];kernel_rfl)⟩
@[simp] theorem agH{F G:Fr}{H:ab}{r:List g6}{Q:Fr->Fr->ab->Prop}(c:Nat)(aw:a_ (.bY c 44::r) Q):ed prog (.bY c 44::r) Q aw F G H=ed prog r Q .mk (aX F c (.pointer (some ⟨H.length,0,none⟩))) (aX G c (.agg #[(.bool false),(.slice none 0 0),(.bool false),(.slice none 0 0)])) (H++[.dead]):=uY A1 (by kernel_rfl) aap aw
@[simp high] theorem ab3{r:List br}{F:Fr}{H:ab}{Q:Fr->ab->Prop}(d:Nat)(aw:a_ (bY d 68::r) Q):a8 prog (bY d 68::r) Q aw F H=a8 prog r Q .mk (aX F d (.pointer (some ⟨H.length,0,none⟩))) (H++[.own 68 false [(.bool false),(.slice none 0 0),(.bool false),(.slice none 0 0),(.slice none 0 0)]]):=by rw[uT,A3,eY,show flat (.agg #[(.bool false),(.slice none 0 0),(.bool false),(.slice none 0 0),(.slice none 0 0)])=true from by kernel_rfl,MV];simp[Value.cells]
theorem aas:Whole prog 68 (.agg #[(.bool false),(.slice none 0 0),(.bool false),(.slice none 0 0),(.slice none 0 0)]):=⟨by kernel_rfl,by kernel_rfl,(by rw[if_pos (by rfl)];kernel_rfl)⟩
@[simp] theorem agK{F G:Fr}{H:ab}{r:List g6}{Q:Fr->Fr->ab->Prop}(c:Nat)(aw:a_ (.bY c 68::r) Q):ed prog (.bY c 68::r) Q aw F G H=ed prog r Q .mk (aX F c (.pointer (some ⟨H.length,0,none⟩))) (aX G c (.agg #[(.bool false),(.slice none 0 0),(.bool false),(.slice none 0 0),(.slice none 0 0)])) (H++[.dead]):=uY A3 (by kernel_rfl) aas aw
@[simp] theorem acm{r:List br}{F:Fr}{H:ab}{Q:Fr->ab->Prop}(d:Nat)(aZ:List (Nat×Operand))(aw:a_ (eS d 44 aZ::r) Q):a8 prog (eS d 44 aZ::r) Q aw F H=gb (fun out=>a8 prog r Q .mk (aX F d (.agg out.toArray)) H) .mk (kE [(0,2),(2,2)] (Value.cells (.agg #[(.bool false),(.slice none 0 0),(.bool false),(.slice none 0 0)])).toList (aZ.map fun p=>(p.1,aq F p.2))):=sG A1 (by kernel_rfl) MW aw
@[simp] theorem acJ{r:List br}{F:Fr}{H:ab}{Q:Fr->ab->Prop}(d:Nat)(x:Operand)(I:isInt (aq F x)=true)(aw:a_ (cg d 3 76 x::r) Q):a8 prog (cg d 3 76 x::r) Q aw F H=a8 prog r Q .mk (aX F d (.int .u64 (IntKind.u64.wrap (intOf (aq F x))))) H:=nJ uX xW I aw
@[simp] theorem acN{r:List br}{F:Fr}{H:ab}{Q:Fr->ab->Prop}(d:Nat)(x:Operand)(I:isInt (aq F x)=true)(aw:a_ (cg d 76 3 x::r) Q):a8 prog (cg d 76 3 x::r) Q aw F H=a8 prog r Q .mk (aX F d (.int .i64 (IntKind.i64.wrap (intOf (aq F x))))) H:=nJ xW uX I aw
@[simp] theorem aco{r:List br}{F:Fr}{H:ab}{Q:Fr->ab->Prop}(d:Nat)(aZ:List (Nat×Operand))(aw:a_ (eS d 51 aZ::r) Q):a8 prog (eS d 51 aZ::r) Q aw F H=gb (fun out=>a8 prog r Q .mk (aX F d (.agg out.toArray)) H) .mk (kE [(0,1)] (Value.cells (.agg #[(.slice none 0 0)])).toList (aZ.map fun p=>(p.1,aq F p.2))):=sG A0 (by kernel_rfl) MX aw
@[simp] theorem acp{r:List br}{F:Fr}{H:ab}{Q:Fr->ab->Prop}(d:Nat)(aZ:List (Nat×Operand))(aw:a_ (eS d 92 aZ::r) Q):a8 prog (eS d 92 aZ::r) Q aw F H=gb (fun out=>a8 prog r Q .mk (aX F d (.agg out.toArray)) H) .mk (kE [(0,1),(1,1),(2,1)] (Value.cells (.agg #[(.slice none 0 0),(.slice none 0 0),(.slice none 0 0)])).toList (aZ.map fun p=>(p.1,aq F p.2))):=sG MY (by kernel_rfl) MZ aw
@[simp] theorem NS{r:List br}{F:Fr}{H:ab}{Q:Fr->ab->Prop}(d:Nat)(aZ:List (Nat×Operand))(aw:a_ (eS d 68 aZ::r) Q):a8 prog (eS d 68 aZ::r) Q aw F H=gb (fun out=>a8 prog r Q .mk (aX F d (.agg out.toArray)) H) .mk (kE [(0,4),(4,1)] (Value.cells (.agg #[(.bool false),(.slice none 0 0),(.bool false),(.slice none 0 0),(.slice none 0 0)])).toList (aZ.map fun p=>(p.1,aq F p.2))):=sG A3 (by kernel_rfl) M0 aw
@[simp high] theorem abZ{r:List br}{F:Fr}{H:ab}{Q:Fr->ab->Prop}(d:Nat)(aw:a_ (bY d 42::r) Q):a8 prog (bY d 42::r) Q aw F H=a8 prog r Q .mk (aX F d (.pointer (some ⟨H.length,0,none⟩))) (H++[.own 42 false [(.bool false),(.slice none 0 0)]]):=by rw[uT,A4,eY,show flat (.agg #[(.bool false),(.slice none 0 0)])=true from by kernel_rfl,M1];simp[Value.cells]
@[simp] theorem acT{r:List br}{F:Fr}{H:ab}{Q:Fr->ab->Prop}(d:Nat)(x:Operand)(I:isInt (aq F x)=true)(aw:a_ (cg d 95 94 x::r) Q):a8 prog (cg d 95 94 x::r) Q aw F H=a8 prog r Q .mk (aX F d (.int .u64 (IntKind.u64.wrap (intOf (aq F x))))) H:=nJ sJ xV I aw
@[simp] theorem acP{r:List br}{F:Fr}{H:ab}{Q:Fr->ab->Prop}(d:Nat)(x:Operand)(I:isInt (aq F x)=true)(aw:a_ (cg d 94 3 x::r) Q):a8 prog (cg d 94 3 x::r) Q aw F H=a8 prog r Q .mk (aX F d (.int .i64 (IntKind.i64.wrap (intOf (aq F x))))) H:=nJ xV uX I aw
@[simp] theorem acK{r:List br}{F:Fr}{H:ab}{Q:Fr->ab->Prop}(d:Nat)(x:Operand)(I:isInt (aq F x)=true)(aw:a_ (cg d 3 94 x::r) Q):a8 prog (cg d 3 94 x::r) Q aw F H=a8 prog r Q .mk (aX F d (.int .u64 (IntKind.u64.wrap (intOf (aq F x))))) H:=nJ uX xV I aw
@[simp] theorem acQ{r:List br}{F:Fr}{H:ab}{Q:Fr->ab->Prop}(d:Nat)(x:Operand)(I:isInt (aq F x)=true)(aw:a_ (cg d 94 95 x::r) Q):a8 prog (cg d 94 95 x::r) Q aw F H=a8 prog r Q .mk (aX F d (.int .u32 (IntKind.u32.wrap (intOf (aq F x))))) H:=nJ xV sJ I aw
@[simp] theorem acR{r:List br}{F:Fr}{H:ab}{Q:Fr->ab->Prop}(d:Nat)(x:Operand)(I:isInt (aq F x)=true)(aw:a_ (cg d 95 5 x::r) Q):a8 prog (cg d 95 5 x::r) Q aw F H=a8 prog r Q .mk (aX F d (.int .u8 (IntKind.u8.wrap (intOf (aq F x))))) H:=nJ sJ AY I aw
@[simp] theorem acO{r:List br}{F:Fr}{H:ab}{Q:Fr->ab->Prop}(d:Nat)(x:Operand)(I:isInt (aq F x)=true)(aw:a_ (cg d 76 95 x::r) Q):a8 prog (cg d 76 95 x::r) Q aw F H=a8 prog r Q .mk (aX F d (.int .u32 (IntKind.u32.wrap (intOf (aq F x))))) H:=nJ xW sJ I aw
@[simp] theorem acS{r:List br}{F:Fr}{H:ab}{Q:Fr->ab->Prop}(d:Nat)(x:Operand)(I:isInt (aq F x)=true)(aw:a_ (cg d 95 76 x::r) Q):a8 prog (cg d 95 76 x::r) Q aw F H=a8 prog r Q .mk (aX F d (.int .u64 (IntKind.u64.wrap (intOf (aq F x))))) H:=nJ sJ xW I aw
@[simp] theorem ack{r:List br}{F:Fr}{H:ab}{Q:Fr->ab->Prop}(d:Nat)(aZ:List (Nat×Operand))(aw:a_ (eS d 42 aZ::r) Q):a8 prog (eS d 42 aZ::r) Q aw F H=gb (fun out=>a8 prog r Q .mk (aX F d (.agg out.toArray)) H) .mk (kE [(0,1),(1,1)] (Value.cells (.agg #[(.bool false),(.slice none 0 0)])).toList (aZ.map fun p=>(p.1,aq F p.2))):=sG A4 (by kernel_rfl) MO aw
@[simp] theorem acM{r:List br}{F:Fr}{H:ab}{Q:Fr->ab->Prop}(d:Nat)(x:Operand)(I:isInt (aq F x)=true)(aw:a_ (cg d 5 95 x::r) Q):a8 prog (cg d 5 95 x::r) Q aw F H=a8 prog r Q .mk (aX F d (.int .u32 (IntKind.u32.wrap (intOf (aq F x))))) H:=nJ AY sJ I aw
theorem aao:Whole prog 42 (.agg #[(.bool false),(.slice none 0 0)]):=⟨by kernel_rfl,by kernel_rfl,(by rw[if_pos (by rfl)];kernel_rfl)⟩
@[simp] theorem agG{F G:Fr}{H:ab}{r:List g6}{Q:Fr->Fr->ab->Prop}(c:Nat)(aw:a_ (.bY c 42::r) Q):ed prog (.bY c 42::r) Q aw F G H=ed prog r Q .mk (aX F c (.pointer (some ⟨H.length,0,none⟩))) (aX G c (.agg #[(.bool false),(.slice none 0 0)])) (H++[.dead]):=uY A4 (by kernel_rfl) aao aw
@[simp] theorem acL{r:List br}{F:Fr}{H:ab}{Q:Fr->ab->Prop}(d:Nat)(x:Operand)(I:isInt (aq F x)=true)(aw:a_ (cg d 5 3 x::r) Q):a8 prog (cg d 5 3 x::r) Q aw F H=a8 prog r Q .mk (aX F d (.int .i64 (IntKind.i64.wrap (intOf (aq F x))))) H:=nJ AY uX I aw
theorem Ul:fU 14 7 Gb:=e4 Try.f14
theorem UD:fU 20 15 Gg:=e4 Try.f20
theorem Uh:fU 26 5 F_:=e4 Try.f26
theorem UW:fU 28 29 Gj:=e4 Try.f28
theorem Ua:fU 32 20 F8:=e4 Try.f32
theorem Ue:fU 34 16 F9:=e4 Try.f34
theorem Ui:fU 38 6 Ga:=e4 Try.f38
theorem UN:fU 43 6 Gh:=e4 Try.f43
theorem UP:fU 44 8 Gi:=e4 Try.f44
theorem U0:fU 48 9 Gm:=e4 Try.f48
theorem UX:fU 49 15 Gk:=e4 Try.f49
theorem U1:fU 50 9 Gn:=e4 Try.f50
theorem UY:fU 51 9 Gl:=e4 Try.f51
theorem T5:fU 52 16 F4:=e4 Try.f52
theorem T3:fU 53 9 F3:=e4 Try.f53
theorem Uq:fU 54 13 Gd:=e4 Try.f54
theorem Ux:fU 55 21 Gf:=e4 Try.f55
theorem Um:fU 56 44 Bp:=e4 Try.f56
theorem Un:fU 63 41 Gc:=e4 Try.f63
theorem T8:fU 65 11 F6:=e4 Try.f65
theorem T1:fU 67 6 F1:=e4 Try.f67
theorem T2:fU 68 42 F2:=e4 Try.f68
theorem U3:fU 72 19 Gp:=e4 Try.f72
theorem U4:fU 73 19 Gq:=e4 Try.f73
theorem Uw:fU 74 68 Br:=e4 Try.f74
theorem T_:fU 75 9 F7:=e4 Try.f75
theorem Ut:fU 78 54 Ge:=e4 Try.f78
theorem Ur:fU 80 41 Bq:=e4 Try.f80
theorem T6:fU 81 9 F5:=e4 Try.f81
theorem TR:fU 86 22 FZ:=e4 Try.f86
theorem TW:fU 91 25 F0:=e4 Try.f91
theorem TX:dE 3 73 Gv:=dJ Try.f3 []
theorem T0:dE 5 25 Gy:=dJ Try.f5 []
theorem TY:dE 6 13 Gw:=dJ Try.f6 []
theorem UG:dE 7 9 GX:=dJ Try.f7 [(9,27),(12,48),(15,51),(16,44)]
theorem UC:dE 8 51 GU:=dJ Try.f8 []
theorem UB:dE 9 40 GS:=dJ Try.f9 []
theorem TZ:dE 10 57 Gx:=dJ Try.f10 []
theorem UA:dE 11 139 GR:=dJ Try.f11 []
theorem UJ:dE 13 3 G0:=dJ Try.f13 [(3,51),(4,51)]
theorem Ug:dE 15 1 GH:=dJ Try.f15 [(1,44)]
theorem U7:dE 16 48 Hd:=dJ Try.f16 []
theorem UI:dE 17 6 GZ:=dJ Try.f17 [(6,51),(7,44),(9,51),(10,44),(12,48),(13,44)]
theorem UL:dE 18 2 G2:=dJ Try.f18 [(2,51)]
theorem UR:dE 19 2 G6:=dJ Try.f19 [(2,51),(3,51),(8,44)]
theorem Uz:dE 21 59 GQ:=dJ Try.f21 []
theorem UE:dE 22 6 GV:=dJ Try.f22 [(6,51),(7,44),(9,44)]
theorem UH:dE 23 12 GY:=dJ Try.f23 []
theorem UF:dE 24 6 GW:=dJ Try.f24 [(6,51),(7,51),(8,44)]
theorem UM:dE 25 1 G3:=dJ Try.f25 [(1,51),(6,51),(11,44),(14,44)]
theorem T9:dE 27 1 GB:=dJ Try.f27 [(1,42)]
theorem UU:dE 29 1 G9:=dJ Try.f29 [(1,51),(2,51)]
theorem UO:dE 30 2 G4:=dJ Try.f30 [(2,51),(4,44),(5,44),(7,44)]
theorem Ud:dE 31 2 GF:=dJ Try.f31 [(2,44),(3,44)]
theorem Uv:dE 33 45 GO:=dJ Try.f33 []
theorem TU:dE 35 30 Gt:=dJ Try.f35 []
theorem U6:dE 36 48 Hc:=dJ Try.f36 []
theorem Ub:dE 37 2 GC:=dJ Try.f37 [(2,44),(13,44)]
theorem U2:dE 39 9 Ha:=dJ Try.f39 []
theorem Uc:dE 40 2 GD:=dJ Try.f40 [(2,44),(3,44),(4,44)]
theorem UQ:dE 41 1 G5:=dJ Try.f41 [(1,51),(2,44),(4,44),(7,44)]
theorem US:dE 42 1 G7:=dJ Try.f42 [(1,51),(6,68),(9,48)]
theorem UZ:dE 45 8 G_:=dJ Try.f45 []
theorem UK:dE 46 69 G1:=dJ Try.f46 []
theorem Uj:dE 47 2 GI:=dJ Try.f47 [(2,44),(3,44),(4,44)]
theorem U9:dE 57 28 Hf:=dJ Try.f57 []
theorem TV:dE 59 51 Gu:=dJ Try.f59 []
theorem U_:dE 60 13 Hg:=dJ Try.f60 []
theorem Va:dE 61 11 Hh:=dJ Try.f61 []
theorem Uu:dE 62 77 GN:=dJ Try.f62 []
theorem T4:dE 64 2 Gz:=dJ Try.f64 [(2,42),(3,42),(4,42)]
theorem U5:dE 66 19 Hb:=dJ Try.f66 []
theorem Uk:dE 69 2 GJ:=dJ Try.f69 [(2,42),(3,42),(4,44),(5,42),(6,42),(7,42),(8,42),(9,42)]
theorem UT:dE 70 1 G8:=dJ Try.f70 [(1,51),(2,51),(5,51),(6,44),(8,44)]
theorem Uf:dE 71 1 GG:=dJ Try.f71 [(1,44),(2,44)]
theorem Vb:dE 76 23 Hi:=dJ Try.f76 []
theorem Vc:dE 77 15 Hj:=dJ Try.f77 []
theorem Us:dE 79 85 GM:=dJ Try.f79 []
theorem T7:dE 82 2 GA:=dJ Try.f82 [(2,42),(3,42),(4,42),(5,42),(8,42),(9,42)]
theorem U8:dE 83 48 He:=dJ Try.f83 []
theorem Ve:dE 84 143 Hl:=dJ Try.f84 []
theorem Vd:dE 85 18 Hk:=dJ Try.f85 []
theorem TS:dE 87 6 Gr:=dJ Try.f87 []
theorem Uy:dE 88 41 GP:=dJ Try.f88 []
theorem Uo:dE 89 162 GK:=dJ Try.f89 []
theorem Up:dE 90 45 GL:=dJ Try.f90 []
theorem Vf:dE 92 8 Hm:=dJ Try.f92 []
theorem TT:dE 96 19 Gs:=dJ Try.f96 []
end Go.b9
end
