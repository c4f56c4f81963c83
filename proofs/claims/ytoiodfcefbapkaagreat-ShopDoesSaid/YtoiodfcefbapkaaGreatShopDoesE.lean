/- Part of the proof of ShopDoes. -/
import Derived.Test.YtoiodfcefbapkaaGreatShopDoesD
set_option linter.unusedVariables false
set_option linter.unusedSimpArgs false
section
set_option maxRecDepth 100000
namespace Go.dq
open Go.Proofs
open Go.Proofs.Tryz (prog)
abbrev cU(f n:Nat)(z:cD):Prop:=∀{args:List Value} {H:ab} {Q:Value->ab->Prop},args.length<=n->cc prog z.code (y5 z.results Q) .mk (jK args) (fun _=>undef) H->aO prog f args H Q
theorem c1{f n:Nat}{z:cD}(fn:Func)(C:Cells)(aB:prog.funcs[f]?=some fn:=by kernel_rfl)(aJ:(fn.name== "runtime.NumGoroutine")=false:=by kernel_rfl)(ae:comp prog fn=some z.back:=by kernel_rfl)(aM:(kL prog C z.code&&ur C z.results)=true:=by kernel_rfl)(hm:Nat.ble n fn.ntmps=true:=by kernel_rfl)(xb:(C.all fun p=>decide (n<=p.1))=true:=by kernel_rfl):cU f n z:=
 fun ar h=>aO.agq aB aJ ae aM (Nat.le_trans ar (Nat.le_of_ble_eq_true hm)) (RB ar xb) h
abbrev gw(f n:Nat)(z:fB):Prop:=∀{args:List Value} {H:ab} {Q:Value->ab->Prop},args.length<=n->hd prog z.code (qS prog z.results Q) .mk (jK args) H->aO prog f args H Q
theorem fx{f n:Nat}{z:fB}(fn:Func)(aB:prog.funcs[f]?=some fn:=by kernel_rfl)(aJ:(fn.name== "runtime.NumGoroutine")=false:=by kernel_rfl)(ae:comp prog fn=some z:=by kernel_rfl)(hm:Nat.ble n fn.ntmps=true:=by kernel_rfl):gw f n z:=
 fun ar h=>aO.Zy aB aJ ae (Nat.le_trans ar (Nat.le_of_ble_eq_true hm)) h
def Ih:fB:=⟨.seq (.ops [cq 1 22 (T 0),ah 2 (C (.bool false))])
 (.seq (.seq (.ops [aE 3 22 (T 1),bt 4 22 (T 3),bi 5 .lss 3 (T 4) (ai 1),I 6 (T 5),aN 6 false (aE 7 22 (T 1)),aN 6 false (bt 8 22 (T 7)),
  aN 6 false (bi 9 .gtr 3 (T 8) (ai 8)),cG 10 (T 6) (C (.bool true)) (T 9),I 11 (T 10),aN 11 false (aE 12 22 (T 1)),
  aN 11 false (bg 13 22 (T 12) (ai 0)),aN 11 false (aE 14 34 (T 13)),aN 11 false (bt 15 34 (T 14)),aN 11 false (bi 16 .lss 3 (T 15) (ai 1)),
  (cG 17 (T 11) (C (.bool true)) (T 16)),I 18 (T 17),aN 18 false (aE 19 22 (T 1)),aN 18 false (bg 20 22 (T 19) (ai 0)),
  aN 18 false (aE 21 34 (T 20)),aN 18 false (bt 22 34 (T 21)),aN 18 false (bi 23 .gtr 3 (T 22) (ai 8)),cG 24 (T 18) (C (.bool true)) (T 23)])
 (.cond (T 24) (.seq (.ops [ah 2 (C (.bool false))])
 (.ret))
 (.skip)))
 (.seq (.ops [aE 25 22 (T 1),vY 26 (.func 62) #[] #[T 1],aR 27 61 [T 25,T 26],un 28 .not (T 27),ah 2 (T 28)])
 (.ret))),[.tmp 2]⟩
def H6:fB:=⟨.seq (.ops [cq 1 80 (T 0),bQ 2 78])
 (.seq (.ops [a7 3 80 (T 1) 0,aE 4 78 (T 3),st 78 (T 2) (T 4)])
 (.ret)),[.cell 2 78]⟩
def Ic:fB:=⟨.seq (.ops [ah 6 (C (.bool false))])
 (.seq (.ops [I 7 (T 0),I 8 (T 1),bi 9 .geq 3 (T 7) (T 8),I 10 (T 9),aN 10 true (I 11 (T 0)),aN 10 true (I 12 (T 2)),
  aN 10 true (bi 13 .leq 3 (T 11) (T 12)),cG 14 (T 10) (T 13) (C (.bool false)),ah 6 (T 14)])
 (.ret)),[.tmp 6]⟩
def Ie:fB:=⟨.seq (.ops [cq 1 74 (T 0),ah 2 (ai 0)])
 (.seq (.ops [a7 3 74 (T 1) 0,aE 4 72 (T 3),bt 5 72 (T 4),ah 2 (T 5)])
 (.ret)),[.tmp 2]⟩
def Ig:fB:=⟨.seq (.ops [cq 1 74 (T 0),ah 2 (ai 0)])
 (.seq (.ops [a7 3 74 (T 1) 0,aE 4 72 (T 3),bg 5 72 (T 4) (ai 0),aE 6 120 (T 5),bt 7 120 (T 6),ah 2 (T 7)])
 (.ret)),[.tmp 2]⟩
def H8:fB:=⟨.seq (.ops [bQ 2 80])
 (.seq (.ops [I 3 (T 0),aR 4 88 [T 3],aR 5 88 [ai 1],dF 6 80 [(0,T 4),(1,T 5)],st 80 (T 2) (T 6)])
 (.ret)),[.cell 2 80]⟩
def Ik:fB:=⟨.seq (.ops [ah 4 (C (.bool false))])
 (.seq (.ops [I 5 (T 0),I 6 (T 1),aR 7 90 [T 5,T 6],bi 8 .geq 3 (T 7) (ai 0),ah 4 (T 8)])
 (.ret)),[.tmp 4]⟩
def Ii:fB:=⟨.seq (.ops [ah 3 (C (.bool false))])
 (.seq (.ops [I 4 (T 0),bt 5 34 (T 4),aE 6 22 (T 1),bg 7 22 (T 6) (ai 0),aE 8 34 (T 7),bt 9 34 (T 8),bi 10 .neq 3 (T 5) (T 9),I 11 (T 10),
  aN 11 false (I 12 (T 0)),aN 11 false (aR 13 63 [T 12,Hz 64]),cG 14 (T 11) (C (.bool true)) (T 13),ah 3 (T 14)])
 (.ret)),[.tmp 3]⟩
def Il:fB:=⟨.seq (.ops [ah 4 (C (.bool false))])
 (.seq (.ops [I 5 (T 0),I 6 (T 1),aR 7 91 [T 5,T 6],bi 8 .geq 3 (T 7) (ai 0),ah 4 (T 8)])
 (.ret)),[.tmp 4]⟩
def Ij:fB:=⟨.seq (.ops [ah 2 (C (.bool false))])
 (.seq (.ops [I 3 (T 0),bi 4 .lss 3 (T 3) (ai 0),I 5 (T 4),aN 5 false (I 6 (T 0)),aN 5 false (bi 7 .gtr 3 (T 6) (ai 1000)),
  (cG 8 (T 5) (C (.bool true)) (T 7)),ah 2 (T 8)])
 (.ret)),[.tmp 2]⟩
def HZ:fB:=⟨.seq (.ops [cq 2 78 (T 0),cq 3 78 (T 1),bQ 4 78])
 (.seq (.ops [a7 5 78 (T 2) 0,aE 6 4 (T 5),a7 7 78 (T 3) 0,aE 8 4 (T 7),bi 9 .neq 4 (T 6) (T 8),a7 10 78 (T 2) 1,aE 11 76 (T 10),
  (a7 12 78 (T 3) 1),aE 13 76 (T 12),bh (aR 14 93 [T 11,T 13]),aR 15 92 [T 9,T 14],st 78 (T 4) (T 15)])
 (.ret)),[.cell 4 78]⟩
def HY:fB:=⟨.seq (.ops [cq 2 78 (T 0),cq 3 78 (T 1),ah 4 (ai 0)])
 (.seq (.ops [aE 5 78 (T 2),aE 6 78 (T 3),aR 7 94 [T 5,T 6],aR 8 95 [T 7],ah 4 (T 8)])
 (.ret)),[.tmp 4]⟩
def H7:fB:=⟨.seq (.ops [cq 1 80 (T 0),ah 2 (ai 0)])
 (.seq (.ops [a7 3 80 (T 1) 0,aE 4 78 (T 3),aR 5 95 [T 4],ah 2 (T 5)])
 (.ret)),[.tmp 2]⟩
def H5:fB:=⟨.seq (.ops [cq 1 80 (T 0),ah 2 (C (.bool false))])
 (.seq (.ops [a7 3 80 (T 1) 1,a7 4 78 (T 3) 1,aE 5 76 (T 4),bt 6 76 (T 5),bi 7 .eql 3 (T 6) (ai 1),I 8 (T 7),aN 8 true (a7 9 80 (T 1) 1),
  aN 8 true (a7 10 78 (T 9) 1),aN 8 true (aE 11 76 (T 10)),aN 8 true (bg 12 76 (T 11) (ai 0)),aN 8 true (aE 13 124 (T 12)),
  aN 8 true ((bi 14 .eql 124 (T 13) (C (.int .u32 1)))),cG 15 (T 8) (T 14) (C (.bool false)),ah 2 (T 15)])
 (.ret)),[.tmp 2]⟩
def H4:fB:=⟨.seq (.ops [bQ 2 78])
 (.seq (.ops [I 4 (T 0),cg 5 3 123 (T 4),ah 3 (T 5)])
 (.seq (.seq (.ops [I 6 (T 0),bi 7 .lss 3 (T 6) (ai 0)])
 (.cond (T 7) (.ops [I 8 (T 3),un 9 .neg (T 8),ah 3 (T 9)])
 (.skip)))
 (.seq (.ops [I 10 (T 0),bi 11 .lss 3 (T 10) (ai 0),I 12 (T 3),cg 13 123 124 (T 12),I 14 (T 3),bi 15 .shr 123 (T 14) (C (.int .u64 32)),
  (cg 16 123 124 (T 15)),eP 17 76 2 [(0,T 13),(1,T 16)],aR 18 110 [T 17],aR 19 92 [T 11,T 18],st 78 (T 2) (T 19)])
 (.ret)))),[.cell 2 78]⟩
def Im:fB:=⟨.seq (.ops [ah 4 (ai 0)])
 (.seq (.seq (.ops [I 6 (T 0),bt 7 22 (T 6),I 8 (ai 0)])
 (.block 0 (.loop (.seq (.ops [bi 9 .lss 3 (T 8) (T 7)])
 (.seq (.cond (T 9) (.skip)
 (.exit 0))
 (.seq (.block 1 (.seq (.ops [I 10 (T 8),ah 5 (T 10)])
 (.seq (.ops [I 11 (T 1),I 12 (T 0),I 13 (T 5),bg 14 22 (T 12) (T 13),aE 15 34 (T 14),mC 16 (T 11) [T 15]])
 (.cond (T 16) (.seq (.ops [I 17 (T 5),ah 4 (T 17)])
 (.ret))
 (.skip)))))
 (.ops [bi 18 .add 3 (T 8) (ai 1),I 8 (T 18)])))))))
 (.seq (.ops [ah 4 (ai (-1))])
 (.ret))),[.tmp 4]⟩
def Io:fB:=⟨.seq (.ops [ah 4 (ai 0)])
 (.seq (.seq (.ops [I 6 (T 0),bt 7 34 (T 6),I 8 (ai 0)])
 (.block 0 (.loop (.seq (.ops [bi 9 .lss 3 (T 8) (T 7)])
 (.seq (.cond (T 9) (.skip)
 (.exit 0))
 (.seq (.block 1 (.seq (.ops [I 10 (T 8),ah 5 (T 10)])
 (.seq (.ops [I 11 (T 1),I 12 (T 0),I 13 (T 5),bg 14 34 (T 12) (T 13),aE 15 3 (T 14),mC 16 (T 11) [T 15]])
 (.cond (T 16) (.seq (.ops [I 17 (T 5),ah 4 (T 17)])
 (.ret))
 (.skip)))))
 (.ops [bi 18 .add 3 (T 8) (ai 1),I 8 (T 18)])))))))
 (.seq (.ops [ah 4 (ai (-1))])
 (.ret))),[.tmp 4]⟩
def H_:fB:=⟨.seq (.ops [bQ 4 78])
 (.seq (.ops [I 5 (T 0),I 6 (T 5),aN 6 true (I 7 (T 1)),aN 6 true (bt 8 76 (T 7)),aN 6 true (bi 9 .gtr 3 (T 8) (ai 0)),
  (cG 10 (T 6) (T 9) (C (.bool false))),I 11 (T 1),dF 12 78 [(0,T 10),(1,T 11)],st 78 (T 4) (T 12)])
 (.ret)),[.cell 4 78]⟩
def Da:fB:=⟨.seq (.ops [ah 4 (C (.slice none 0 0))])
 (.seq (.ops [I 12 (T 0),bt 13 76 (T 12),I 14 (T 1),bt 15 76 (T 14),bi 16 .add 3 (T 13) (T 15),ms 17 76 (T 16) (T 16),ah 5 (T 17)])
 (.seq (.seq (.ops [I 18 (T 0),bt 19 76 (T 18),I 20 (ai 0)])
 (.block 0 (.loop (.seq (.ops [bi 21 .lss 3 (T 20) (T 19)])
 (.seq (.cond (T 21) (.skip)
 (.exit 0))
 (.seq (.block 1 (.seq (.ops [I 22 (T 20),bg 23 76 (T 18) (T 20),aE 24 124 (T 23),ah 6 (T 22),ah 7 (T 24)])
 (.seq (.ops [ah 8 (C (.int .u64 0))])
 (.seq (.seq (.ops [I 25 (T 1),bt 26 76 (T 25),I 27 (ai 0)])
 (.block 2 (.loop (.seq (.ops [bi 28 .lss 3 (T 27) (T 26)])
 (.seq (.cond (T 28) (.skip)
 (.exit 2))
 (.seq (.block 3 (.seq (.ops [I 29 (T 27),bg 30 76 (T 25) (T 27),aE 31 124 (T 30),ah 9 (T 29),ah 10 (T 31)])
 (.seq (.ops [I 32 (T 7),cg 33 124 123 (T 32),I 34 (T 10),cg 35 124 123 (T 34),bi 36 .mul 123 (T 33) (T 35),I 37 (T 5),I 38 (T 6),
  (I 39 (T 9)),bi 40 .add 3 (T 38) (T 39),bg 41 76 (T 37) (T 40),aE 42 124 (T 41),cg 43 124 123 (T 42),bi 44 .add 123 (T 36) (T 43),
  (I 45 (T 8)),bi 46 .add 123 (T 44) (T 45),ah 11 (T 46)])
 (.ops [I 47 (T 5),I 48 (T 6),I 49 (T 9),bi 50 .add 3 (T 48) (T 49),I 51 (T 11),cg 52 123 124 (T 51),I 53 (T 11),
  (bi 54 .shr 123 (T 53) (C (.int .u64 32))),bg 55 76 (T 47) (T 50),st 124 (T 55) (T 52),ah 8 (T 54)]))))
 (.ops [bi 56 .add 3 (T 27) (ai 1),I 27 (T 56)])))))))
 (.ops [I 57 (T 5),I 58 (T 6),I 59 (T 1),bt 60 76 (T 59),bi 61 .add 3 (T 58) (T 60),I 62 (T 8),cg 63 123 124 (T 62),
  (bg 64 76 (T 57) (T 61)),st 124 (T 64) (T 63)])))))
 (.ops [bi 65 .add 3 (T 20) (ai 1),I 20 (T 65)])))))))
 (.seq (.ops [I 66 (T 5),aR 67 110 [T 66],ah 4 (T 67)])
 (.ret)))),[.tmp 4]⟩
def H3:fB:=⟨.seq (.ops [cq 2 78 (T 0),cq 3 78 (T 1),bQ 4 78])
 (.seq (.ops [aE 5 78 (T 2),aE 6 78 (T 3),bh (aR 7 113 [T 6]),aR 8 105 [T 5,T 7],st 78 (T 4) (T 8)])
 (.ret)),[.cell 4 78]⟩
def H2:fB:=⟨.seq (.ops [cq 1 78 (T 0),ah 2 (ai 0)])
 (.seq (.block 0 (.seq (.ops [a7 4 78 (T 1) 1,aE 5 76 (T 4),bt 6 76 (T 5),bi 7 .eql 3 (T 6) (ai 0),ah 3 (T 7)])
 (.cond (T 3) (.seq (.ops [ah 2 (ai 0)])
 (.ret))
 (.seq (.ops [a7 9 78 (T 1) 0,aE 10 4 (T 9),ah 8 (T 10)])
 (.cond (T 8) (.seq (.ops [ah 2 (ai (-1))])
 (.ret))
 (.skip))))))
 (.seq (.ops [ah 2 (ai 1)])
 (.ret))),[.tmp 2]⟩
def H9:fB:=⟨.seq (.ops [ah 4 (ai 0)])
 (.seq (.seq (.ops [I 6 (T 0),bt 7 76 (T 6),I 8 (T 1),bt 9 76 (T 8),bi 10 .neq 3 (T 7) (T 9)])
 (.cond (T 10) (.seq (.seq (.ops [I 11 (T 0),bt 12 76 (T 11),I 13 (T 1),bt 14 76 (T 13),bi 15 .lss 3 (T 12) (T 14)])
 (.cond (T 15) (.seq (.ops [ah 4 (ai (-1))])
 (.ret))
 (.skip)))
 (.seq (.ops [ah 4 (ai 1)])
 (.ret)))
 (.skip)))
 (.seq (.seq (.ops [I 16 (T 0),bt 17 76 (T 16),bi 18 .sub 3 (T 17) (ai 1),ah 5 (T 18)])
 (.block 0 (.loop (.seq (.seq (.ops [I 19 (T 5),bi 20 .geq 3 (T 19) (ai 0)])
 (.cond (T 20) (.skip)
 (.exit 0)))
 (.seq (.block 1 (.seq (.ops [I 23 (T 0),I 24 (T 5),bg 25 76 (T 23) (T 24),aE 26 124 (T 25),I 27 (T 1),I 28 (T 5),bg 29 76 (T 27) (T 28),aE 30 124 (T 29),
  (bi 31 .neq 124 (T 26) (T 30))])
 (.cond (T 31) (.seq (.seq (.ops [I 32 (T 0),I 33 (T 5),bg 34 76 (T 32) (T 33),aE 35 124 (T 34),I 36 (T 1),I 37 (T 5),bg 38 76 (T 36) (T 37),aE 39 124 (T 38),
  (bi 40 .lss 124 (T 35) (T 39))])
 (.cond (T 40) (.seq (.ops [ah 4 (ai (-1))])
 (.ret))
 (.skip)))
 (.seq (.ops [ah 4 (ai 1)])
 (.ret)))
 (.skip))))
 (.ops [I 21 (T 5),bi 22 .sub 3 (T 21) (ai 1),ah 5 (T 22)]))))))
 (.seq (.ops [ah 4 (ai 0)])
 (.ret)))),[.tmp 4]⟩
def HW:fB:=⟨.seq (.ops [cq 1 78 (T 0),bQ 2 80])
 (.seq (.ops [aE 3 78 (T 1),bh (aR 4 88 [ai 1]),dF 5 80 [(0,T 3),(1,T 4)],st 80 (T 2) (T 5)])
 (.ret)),[.cell 2 80]⟩
def HX:fB:=⟨.seq (.ops [cq 2 78 (T 0),cq 3 78 (T 1),bQ 4 78])
 (.seq (.block 0 (.seq (.ops [a7 6 78 (T 2) 0,aE 7 4 (T 6),a7 8 78 (T 3) 0,aE 9 4 (T 8),bi 10 .eql 4 (T 7) (T 9),ah 5 (T 10)])
 (.cond (T 5) (.seq (.ops [a7 11 78 (T 2) 0,aE 12 4 (T 11),a7 13 78 (T 2) 1,aE 14 76 (T 13),a7 15 78 (T 3) 1,aE 16 76 (T 15),bh (aR 17 116 [T 14,T 16]),
  (aR 18 92 [T 12,T 17]),st 78 (T 4) (T 18)])
 (.ret))
 (.seq (.ops [a7 20 78 (T 2) 1,aE 21 76 (T 20),a7 22 78 (T 3) 1,aE 23 76 (T 22),aR 24 101 [T 21,T 23],bi 25 .geq 3 (T 24) (ai 0),ah 19 (T 25)])
 (.cond (T 19) (.seq (.ops [a7 26 78 (T 2) 0,aE 27 4 (T 26),a7 28 78 (T 2) 1,aE 29 76 (T 28),a7 30 78 (T 3) 1,aE 31 76 (T 30),bh (aR 32 118 [T 29,T 31]),
  (aR 33 92 [T 27,T 32]),st 78 (T 4) (T 33)])
 (.ret))
 (.skip))))))
 (.seq (.ops [a7 34 78 (T 3) 0,aE 35 4 (T 34),a7 36 78 (T 3) 1,aE 37 76 (T 36),a7 38 78 (T 2) 1,aE 39 76 (T 38),bh (aR 40 118 [T 37,T 39]),
  (aR 41 92 [T 35,T 40]),st 78 (T 4) (T 41)])
 (.ret))),[.cell 4 78]⟩
def C9:fB:=⟨.seq (.ops [ah 4 (C (.slice none 0 0)),ah 5 (C (.int .u32 0))])
 (.seq (.ops [I 10 (T 0),bt 11 76 (T 10),ms 12 76 (T 11) (T 11),ah 6 (T 12)])
 (.seq (.ops [ah 7 (C (.int .u64 0))])
 (.seq (.seq (.ops [I 13 (T 0),bt 14 76 (T 13),bi 15 .sub 3 (T 14) (ai 1),ah 8 (T 15)])
 (.block 0 (.loop (.seq (.seq (.ops [I 16 (T 8),bi 17 .geq 3 (T 16) (ai 0)])
 (.cond (T 17) (.skip)
 (.exit 0)))
 (.seq (.block 1 (.seq (.ops [I 20 (T 7),bi 21 .shl 123 (T 20) (C (.int .u64 32)),I 22 (T 0),I 23 (T 8),bg 24 76 (T 22) (T 23),aE 25 124 (T 24),
  (cg 26 124 123 (T 25)),bi 27 .or 123 (T 21) (T 26),ah 9 (T 27)])
 (.ops [I 28 (T 6),I 29 (T 8),I 30 (T 9),I 31 (T 1),cg 32 124 123 (T 31),bi 33 .quo 123 (T 30) (T 32),cg 34 123 124 (T 33),
  (I 35 (T 9)),I 36 (T 1),cg 37 124 123 (T 36),bi 38 .rem 123 (T 35) (T 37),bg 39 76 (T 28) (T 29),st 124 (T 39) (T 34),ah 7 (T 38)])))
 (.ops [I 18 (T 8),bi 19 .sub 3 (T 18) (ai 1),ah 8 (T 19)]))))))
 (.seq (.ops [I 40 (T 6),aR 41 110 [T 40],I 42 (T 7),cg 43 123 124 (T 42),ah 4 (T 41),ah 5 (T 43)])
 (.ret))))),[.tmp 4,.tmp 5]⟩
def Ib:fB:=⟨.seq (.ops [ah 2 (C (.slice none 0 0))])
 (.seq (.block 0 (.loop (.seq (.seq (.ops [I 3 (T 0),bt 4 76 (T 3),bi 5 .gtr 3 (T 4) (ai 0),I 6 (T 5),aN 6 true (I 7 (T 0)),aN 6 true (I 8 (T 0)),aN 6 true (bt 9 76 (T 8)),
  aN 6 true (bi 10 .sub 3 (T 9) (ai 1)),aN 6 true (bg 11 76 (T 7) (T 10)),aN 6 true (aE 12 124 (T 11)),
  aN 6 true ((bi 13 .eql 124 (T 12) (C (.int .u32 0)))),cG 14 (T 6) (T 13) (C (.bool false))])
 (.cond (T 14) (.skip)
 (.exit 0)))
 (.block 1 (.ops [I 15 (T 0),I 16 (T 0),bt 17 76 (T 16),bi 18 .sub 3 (T 17) (ai 1),fh 19 76 (T 15) none (some (T 18)) none,ah 0 (T 19)])))))
 (.seq (.ops [I 20 (T 0),ah 2 (T 20)])
 (.ret))),[.tmp 2]⟩
def H0:fB:=⟨.seq (.ops [cq 1 78 (T 0),bQ 2 78])
 (.seq (.ops [a7 3 78 (T 1) 0,aE 4 4 (T 3),un 5 .not (T 4),a7 6 78 (T 1) 1,aE 7 76 (T 6),aR 8 92 [T 5,T 7],st 78 (T 2) (T 8)])
 (.ret)),[.cell 2 78]⟩
def Ia:fB:=⟨.seq (.ops [ah 4 (C (.slice none 0 0))])
 (.seq (.seq (.ops [I 9 (T 0),bt 10 76 (T 9),I 11 (T 1),bt 12 76 (T 11),bi 13 .lss 3 (T 10) (T 12)])
 (.cond (T 13) (.ops [I 14 (T 1),I 15 (T 0),ah 0 (T 14),ah 1 (T 15)])
 (.skip)))
 (.seq (.ops [I 16 (T 0),bt 17 76 (T 16),bi 18 .add 3 (T 17) (ai 1),ms 19 76 (T 18) (T 18),ah 5 (T 19)])
 (.seq (.ops [ah 6 (C (.int .u32 0))])
 (.seq (.seq (.ops [I 20 (T 0),bt 21 76 (T 20),I 22 (ai 0)])
 (.block 0 (.loop (.seq (.ops [bi 23 .lss 3 (T 22) (T 21)])
 (.seq (.cond (T 23) (.skip)
 (.exit 0))
 (.seq (.block 1 (.seq (.ops [I 24 (T 22),ah 7 (T 24)])
 (.seq (.ops [ah 8 (C (.int .u32 0))])
 (.seq (.seq (.ops [I 25 (T 7),I 26 (T 1),bt 27 76 (T 26),bi 28 .lss 3 (T 25) (T 27)])
 (.cond (T 28) (.ops [I 29 (T 1),I 30 (T 7),bg 31 76 (T 29) (T 30),aE 32 124 (T 31),ah 8 (T 32)])
 (.skip)))
 (.ops [I 34 (T 5),I 35 (T 7),I 36 (T 0),I 37 (T 7),bg 38 76 (T 36) (T 37),aE 39 124 (T 38),I 40 (T 8),I 41 (T 6),
  (aR 42 122 [T 39,T 40,T 41]),I 33 (T 42),ex 43 (T 33) 0,ex 44 (T 33) 1,bg 45 76 (T 34) (T 35),st 124 (T 45) (T 43),
  (ah 6 (T 44))])))))
 (.ops [bi 46 .add 3 (T 22) (ai 1),I 22 (T 46)])))))))
 (.seq (.ops [I 47 (T 5),I 48 (T 0),bt 49 76 (T 48),I 50 (T 6),bg 51 76 (T 47) (T 49),st 124 (T 51) (T 50)])
 (.seq (.ops [I 52 (T 5),aR 53 110 [T 52],ah 4 (T 53)])
 (.ret))))))),[.tmp 4]⟩
def C_:fB:=⟨.seq (.ops [ah 4 (C (.slice none 0 0))])
 (.seq (.ops [I 9 (T 0),bt 10 76 (T 9),ms 11 76 (T 10) (T 10),ah 5 (T 11)])
 (.seq (.ops [ah 6 (C (.int .u32 0))])
 (.seq (.seq (.ops [I 12 (T 0),bt 13 76 (T 12),I 14 (ai 0)])
 (.block 0 (.loop (.seq (.ops [bi 15 .lss 3 (T 14) (T 13)])
 (.seq (.cond (T 15) (.skip)
 (.exit 0))
 (.seq (.block 1 (.seq (.ops [I 16 (T 14),ah 7 (T 16)])
 (.seq (.ops [ah 8 (C (.int .u32 0))])
 (.seq (.seq (.ops [I 17 (T 7),I 18 (T 1),bt 19 76 (T 18),bi 20 .lss 3 (T 17) (T 19)])
 (.cond (T 20) (.ops [I 21 (T 1),I 22 (T 7),bg 23 76 (T 21) (T 22),aE 24 124 (T 23),ah 8 (T 24)])
 (.skip)))
 (.ops [I 26 (T 5),I 27 (T 7),I 28 (T 0),I 29 (T 7),bg 30 76 (T 28) (T 29),aE 31 124 (T 30),I 32 (T 8),I 33 (T 6),
  (aR 34 127 [T 31,T 32,T 33]),I 25 (T 34),ex 35 (T 25) 0,ex 36 (T 25) 1,bg 37 76 (T 26) (T 27),st 124 (T 37) (T 35),
  (ah 6 (T 36))])))))
 (.ops [bi 38 .add 3 (T 14) (ai 1),I 14 (T 38)])))))))
 (.seq (.ops [I 39 (T 5),aR 40 110 [T 39],ah 4 (T 40)])
 (.ret))))),[.tmp 4]⟩
def HU:fB:=⟨.seq (.ops [ah 6 (C (.int .u32 0)),ah 7 (C (.int .u32 0))])
 (.seq (.ops [I 9 (T 0),cg 10 124 123 (T 9),I 11 (T 1),cg 12 124 123 (T 11),bi 13 .add 123 (T 10) (T 12),I 14 (T 2),cg 15 124 123 (T 14),
  (bi 16 .add 123 (T 13) (T 15)),ah 8 (T 16)])
 (.seq (.ops [I 17 (T 8),cg 18 123 124 (T 17),ah 6 (T 18)])
 (.seq (.ops [I 19 (T 8),bi 20 .shr 123 (T 19) (C (.int .u64 32)),cg 21 123 124 (T 20),ah 7 (T 21)])
 (.ret)))),[.tmp 6,.tmp 7]⟩
def HV:fB:=⟨.seq (.ops [ah 6 (C (.int .u32 0)),ah 7 (C (.int .u32 0))])
 (.seq (.ops [I 8 (T 0),I 9 (T 1),bi 10 .sub 124 (T 8) (T 9),I 11 (T 2),bi 12 .sub 124 (T 10) (T 11),ah 6 (T 12)])
 (.seq (.ops [I 13 (T 0),un 14 .xor (T 13),I 15 (T 1),bi 16 .and 124 (T 14) (T 15),I 17 (T 0),I 18 (T 1),bi 19 .xor 124 (T 17) (T 18),
  (un 20 .xor (T 19)),I 21 (T 6),bi 22 .and 124 (T 20) (T 21),bi 23 .or 124 (T 16) (T 22),bi 24 .shr 124 (T 23) (C (.int .u64 31)),
  (ah 7 (T 24))])
 (.ret))),[.tmp 6,.tmp 7]⟩
def IU:cD:=⟨.seq (.ops [.xs [ah 4 (C (.bool false))]])
 (.seq (.ops [.xs [I 14 (T 0),aR 15 8 [T 14],I 16 (T 1),aR 17 22 [T 16],ah 5 (T 15),ah 6 (T 17)]])
 (.seq (.ops [.xs [I 19 (T 5),I 20 (T 6),aR 21 20 [T 19,T 20],I 18 (T 21),ex 22 (T 18) 0,ex 23 (T 18) 1,ah 7 (T 22),ah 8 (T 23)]])
 (.seq (.seq (.ops [.xs [I 24 (T 5),aR 25 11 [T 24],un 26 .not (T 25)]])
 (.cond (T 26) (.seq (.box 68585259024 0 (.ops [.xs [I 27 (T 7),bi 28 .eql 45 (T 27) (C (.string {data:= #[]})),I 29 (T 28),aN 29 true (I 30 (T 8)),aN 29 true (bi 31 .eql 24 (T 30) (ai 1)),cG 32 (T 29) (T 31) (C (.bool false)),I 33 (T 32),aN 33 true (aR 34 12 []),cG 35 (T 33) (T 34) (C (.bool false)),ah 4 (T 35)]]))
 (.ret))
 (.skip)))
 (.seq (.seq (.box 144115119356379136 0 (.ops [.xs [I 36 (T 6),bt 37 27 (T 36),bi 38 .gtr 3 (T 37) (ai 1000),I 39 (T 38),aN 39 false (I 40 (T 6)),aN 39 false (I 41 (T 5)),aN 39 false (bt 42 22 (T 41)),aN 39 false (I 43 (T 5)),aN 39 false (bg 44 22 (T 43) (ai 0)),aN 39 false (aE 45 34 (T 44)),aN 39 false (bt 46 34 (T 45)),aN 39 false (aR 47 14 [T 40,T 42,T 46]),aN 39 false (un 48 .not (T 47)),cG 49 (T 39) (C (.bool true)) (T 48),I 50 (T 49),aN 50 false (I 51 (T 5)),aN 50 false (I 52 (T 6)),aN 50 false (eP 53 95 1 [(0,T 52)]),aN 50 false (aR 54 16 [T 51,T 53]),aN 50 false (un 55 .not (T 54)),cG 56 (T 50) (C (.bool true)) (T 55)]]))
 (.cond (T 56) (.seq (.box 73642861106762350608 0 (.ops [.xs [I 57 (T 7),bi 58 .eql 45 (T 57) (C (.string {data:= #[]})),I 59 (T 58),aN 59 true (I 60 (T 8)),aN 59 true (bi 61 .eql 24 (T 60) (ai 2)),cG 62 (T 59) (T 61) (C (.bool false)),I 63 (T 62),aN 63 true (aR 64 12 []),cG 65 (T 63) (T 64) (C (.bool false)),ah 4 (T 65)]]))
 (.ret))
 (.skip)))
 (.seq (.ops [.xs [I 67 (T 6),aR 68 18 [T 67],aR 69 21 [T 68],I 66 (T 69),ex 70 (T 66) 0,ex 71 (T 66) 1,ah 9 (T 70),ah 10 (T 71)]])
 (.seq (.ops [.xs [I 73 (T 5),aR 74 13 [T 73],I 72 (T 74),ex 75 (T 72) 0,ex 76 (T 72) 1,ex 77 (T 72) 2,ah 11 (T 75),ah 12 (T 76),ah 13 (T 77)]])
 (.seq (.box 633824997882659797091057926160 0 (.ops [.xs [I 78 (T 10),I 79 (T 78),aN 79 true (I 80 (T 7)),aN 79 true (I 81 (T 9)),aN 79 true (bi 82 .eql 45 (T 80) (T 81)),cG 83 (T 79) (T 82) (C (.bool false)),I 84 (T 83),aN 84 true (I 85 (T 8)),aN 84 true (bi 86 .eql 24 (T 85) (ai 0)),cG 87 (T 84) (T 86) (C (.bool false)),I 88 (T 87),aN 88 true (I 89 (T 7)),aN 88 true (aR 90 23 [T 89]),aN 88 true (I 91 (T 11)),aN 88 true (aR 92 19 [T 91]),aN 88 true (aR 93 17 [T 90,T 92]),aN 88 true (bi 94 .geq 3 (T 93) (ai 0)),cG 95 (T 88) (T 94) (C (.bool false)),I 96 (T 95),aN 96 true (aR 97 12 []),cG 98 (T 96) (T 97) (C (.bool false)),ah 4 (T 98)]]))
 (.ret)))))))),[.tmp 4]⟩
def IY:cD:=⟨.seq (.ops [.xs [ah 2 (C (.slice none 0 0))]])
 (.seq (.ops [.xs [eP 5 22 0 [],ah 3 (T 5)]])
 (.seq (.seq (.ops [.xs [ah 4 (ai 0)]])
 (.block 0 (.loop 16777176 0 (.seq (.seq (.box 16320 0 (.ops [.xs [I 6 (T 4),I 7 (T 0),bt 8 22 (T 7),bi 9 .lss 3 (T 6) (T 8),I 10 (T 9),aN 10 true (I 11 (T 4)),aN 10 true (bi 12 .leq 3 (T 11) (ai 8)),cG 13 (T 10) (T 12) (C (.bool false))]]))
 (.cond (T 13) (.skip)
 (.exit 0)))
 (.seq (.block 1 (.ops [.xs [I 16 (T 3),I 17 (T 0),I 18 (T 4),bg 19 22 (T 17) (T 18),aE 20 34 (T 19),aR 21 30 [T 20,ai 9],eP 22 22 1 [(0,T 21)],ap 23 22 22 (T 16) (T 22),ah 3 (T 23)]]))
 (.ops [.xs [I 14 (T 4),bi 15 .add 3 (T 14) (ai 1),ah 4 (T 15)]]))))))
 (.seq (.ops [.xs [I 24 (T 3),ah 2 (T 24)]])
 (.ret)))),[.tmp 2]⟩
def Jk:cD:=⟨.seq (.ops [.xs [ah 2 (ai 0),ah 3 (ai 0),ah 4 (ai 0),ah 5 (ai 0)]])
 (.seq (.seq (.ops [.xs [I 15 (T 0),aR 16 31 [T 15],un 17 .not (T 16)]])
 (.cond (T 17) (.seq (.ops [.xs [ah 2 (ai 0),ah 3 (ai 0),ah 4 (ai 0),ah 5 (ai 1)]])
 (.ret))
 (.skip)))
 (.seq (.ops [.xs [I 18 (T 0),aR 19 32 [T 18]],.bQ 6 74,.bX true none 74 6 (T 19) 6])
 (.seq (.ops [.bT none 21 74 6 6,.xs [aR 22 33 [T 21],I 20 (T 22),ex 23 (T 20) 0,ex 24 (T 20) 1],.bQ 7 80,.bX true none 80 7 (T 23) 7,
  .xs [ah 8 (T 24)]])
 (.seq (.ops [.bT none 26 74 6 6,.xs [aR 27 34 [T 26],aR 28 33 [T 27],I 25 (T 28),ex 29 (T 25) 0,ex 30 (T 25) 1],.bQ 9 80,
  .bX true none 80 9 (T 29) 9,.xs [ah 10 (T 30)]])
 (.seq (.seq (.ops [.bT none 31 80 9 9,.bT none 32 80 7 7,.xs [aR 33 35 [T 31,T 32],bi 34 .gtr 3 (T 33) (ai 0)]])
 (.cond (T 34) (.seq (.ops [.bT none 36 80 9 9,.xs [aR 37 36 [T 36],aR 38 37 [T 37],I 35 (T 38),ex 39 (T 35) 0,ex 40 (T 35) 1,ah 11 (T 39),ah 12 (T 40)]])
 (.seq (.ops [.xs [I 41 (T 11),I 42 (T 10),ah 2 (T 41),ah 3 (ai 1),ah 4 (T 42),ah 5 (ai 0)]])
 (.ret)))
 (.skip)))
 (.seq (.ops [.bT none 44 80 7 7,.xs [aR 45 36 [T 44],aR 46 37 [T 45],I 43 (T 46),ex 47 (T 43) 0,ex 48 (T 43) 1,ah 13 (T 47),ah 14 (T 48)]])
 (.seq (.ops [.xs [I 49 (T 13),I 50 (T 8),ah 2 (T 49),ah 3 (ai 0),ah 4 (T 50),ah 5 (ai 0)]])
 (.ret)))))))),[.tmp 2,.tmp 3,.tmp 4,.tmp 5]⟩
def Jm:cD:=⟨.seq (.ops [.xs [ah 2 (C (.slice none 0 0)),ah 3 (ai 0)]])
 (.seq (.seq (.ops [.xs [I 4 (T 0),aR 5 31 [T 4],un 6 .not (T 5)]])
 (.cond (T 6) (.seq (.ops [.xs [ah 2 (C (.slice none 0 0)),ah 3 (ai 1)]])
 (.ret))
 (.skip)))
 (.seq (.ops [.xs [I 7 (T 0),aR 8 32 [T 7],aR 9 38 [T 8],ex 10 (T 9) 0,ex 11 (T 9) 1,ah 2 (T 10),ah 3 (T 11)]])
 (.ret))),[.tmp 2,.tmp 3]⟩
def Jj:cD:=⟨.seq (.ops [.xs [ah 2 (C (.bool false))]])
 (.seq (.seq (.ops [.xs [ah 3 (ai 0)]])
 (.block 0 (.loop 281474976710652 0 (.seq (.seq (.ops [.xs [I 5 (T 3),I 6 (T 0),bt 7 22 (T 6),bi 8 .lss 3 (T 5) (T 7)]])
 (.cond (T 8) (.skip)
 (.exit 0)))
 (.seq (.block 1 (.seq (.seq (.box 1073739776 0 (.ops [.xs [I 11 (T 0),I 12 (T 3),bg 13 22 (T 11) (T 12),aE 14 34 (T 13),bt 15 34 (T 14),I 16 (T 0),bg 17 22 (T 16) (ai 0),aE 18 34 (T 17),bt 19 34 (T 18),bi 20 .neq 3 (T 15) (T 19),I 21 (T 20),aN 21 false (I 22 (T 0)),aN 21 false (I 23 (T 3)),aN 21 false (bg 24 22 (T 22) (T 23)),aN 21 false (aE 25 34 (T 24)),aN 21 false (bt 26 34 (T 25)),aN 21 false (aR 27 39 [T 26,ai 1,ai 8]),aN 21 false (un 28 .not (T 27)),cG 29 (T 21) (C (.bool true)) (T 28)]]))
 (.cond (T 29) (.seq (.ops [.xs [ah 2 (C (.bool false))]])
 (.ret))
 (.skip)))
 (.seq (.ops [.xs [ah 4 (ai 0)]])
 (.block 2 (.loop 281473902968852 0 (.seq (.seq (.ops [.xs [I 30 (T 4),I 31 (T 0),I 32 (T 3),bg 33 22 (T 31) (T 32),aE 34 34 (T 33),bt 35 34 (T 34),bi 36 .lss 3 (T 30) (T 35)]])
 (.cond (T 36) (.skip)
 (.exit 2)))
 (.seq (.block 3 (.seq (.ops [.xs [I 39 (T 0),I 40 (T 3),bg 41 22 (T 39) (T 40),aE 42 34 (T 41),I 43 (T 4),bg 44 34 (T 42) (T 43),aE 45 3 (T 44),aR 46 39 [T 45,ai 0,ai 1000],un 47 .not (T 46)]])
 (.cond (T 47) (.seq (.ops [.xs [ah 2 (C (.bool false))]])
 (.ret))
 (.skip))))
 (.ops [.xs [I 37 (T 4),bi 38 .add 3 (T 37) (ai 1),ah 4 (T 38)]]))))))))
 (.ops [.xs [I 9 (T 3),bi 10 .add 3 (T 9) (ai 1),ah 3 (T 10)]]))))))
 (.seq (.ops [.xs [I 48 (T 0),bt 49 22 (T 48),aR 50 39 [T 49,ai 1,ai 8],ah 2 (T 50)]])
 (.ret))),[.tmp 2]⟩
def IW:cD:=⟨.seq (.ops [.xs [ah 0 (C (.bool false))]])
 (.seq (.ops [.xs [eP 10 34 2 [(0,ai 2),(1,ai 1)],eP 11 34 2 [(0,ai 1),(1,ai 2)],eP 12 22 2 [(0,T 10),(1,T 11)],ah 1 (T 12)]])
 (.seq (.ops [.xs [I 14 (T 1),aR 15 9 [T 14],I 13 (T 15),ex 16 (T 13) 0,ex 17 (T 13) 1,ex 18 (T 13) 2,ex 19 (T 13) 3,ah 2 (T 16),ah 3 (T 17),ah 4 (T 18),ah 5 (T 19)]])
 (.seq (.ops [.xs [I 21 (T 1),aR 22 10 [T 21],I 20 (T 22),ex 23 (T 20) 0,ex 24 (T 20) 1,ah 6 (T 23),ah 7 (T 24)]])
 (.seq (.ops [.xs [I 26 (T 1),I 27 (T 6),aR 28 20 [T 26,T 27],I 25 (T 28),ex 29 (T 25) 0,ex 30 (T 25) 1,ah 8 (T 29),ah 9 (T 30)]])
 (.seq (.box 144115185928372225 0 (.ops [.xs [I 31 (T 2),bi 32 .eql 3 (T 31) (ai 3),I 33 (T 32),aN 33 true (I 34 (T 3)),aN 33 true (bi 35 .eql 3 (T 34) (ai 0)),cG 36 (T 33) (T 35) (C (.bool false)),I 37 (T 36),aN 37 true (I 38 (T 4)),aN 37 true (bi 39 .eql 3 (T 38) (ai 0)),cG 40 (T 37) (T 39) (C (.bool false)),I 41 (T 40),aN 41 true (I 42 (T 5)),aN 41 true (bi 43 .eql 24 (T 42) (ai 0)),cG 44 (T 41) (T 43) (C (.bool false)),I 45 (T 44),aN 45 true (I 46 (T 7)),aN 45 true (bi 47 .eql 24 (T 46) (ai 0)),cG 48 (T 45) (T 47) (C (.bool false)),I 49 (T 48),aN 49 true (I 50 (T 8)),aN 49 true ((bi 51 .eql 45 (T 50) (C (.string {data:= #[51]})))),cG 52 (T 49) (T 51) (C (.bool false)),I 53 (T 52),aN 53 true (I 54 (T 9)),aN 53 true (bi 55 .eql 24 (T 54) (ai 0)),cG 56 (T 53) (T 55) (C (.bool false)),ah 0 (T 56)]]))
 (.ret)))))),[.tmp 0]⟩
def Je:cD:=⟨.seq (.ops [.xs [ah 2 (ai 0),ah 3 (ai 0),ah 4 (ai 0)]])
 (.seq (.ops [.xs [I 13 (T 0),aR 14 40 [T 13],I 12 (T 14),ex 15 (T 12) 0,ex 16 (T 12) 1,ah 5 (T 15),ah 6 (T 16)]])
 (.seq (.ops [.xs [ah 7 (ai 0)]])
 (.seq (.seq (.ops [.xs [ah 8 (ai 0)]])
 (.block 0 (.loop 536740224 0 (.seq (.seq (.ops [.xs [I 17 (T 8),I 18 (T 5),bt 19 34 (T 18),bi 20 .lss 3 (T 17) (T 19)]])
 (.cond (T 20) (.skip)
 (.exit 0)))
 (.seq (.block 1 (.ops [.xs [I 23 (T 7),I 24 (T 5),I 25 (T 8),bg 26 34 (T 24) (T 25),aE 27 3 (T 26),r8 28 [3,3] (T 23) (T 27),ah 7 (T 28)]]))
 (.ops [.xs [I 21 (T 8),bi 22 .add 3 (T 21) (ai 1),ah 8 (T 22)]]))))))
 (.seq (.seq (.ops [.xs [ah 9 (ai 0)]])
 (.block 2 (.loop 2198486385280 0 (.seq (.seq (.ops [.xs [I 29 (T 9),I 30 (T 6),bt 31 34 (T 30),bi 32 .lss 3 (T 29) (T 31)]])
 (.cond (T 32) (.skip)
 (.exit 2)))
 (.seq (.block 3 (.ops [.xs [I 35 (T 7),I 36 (T 6),I 37 (T 9),bg 38 34 (T 36) (T 37),aE 39 3 (T 38),r8 40 [3,3] (T 35) (T 39),ah 7 (T 40)]]))
 (.ops [.xs [I 33 (T 9),bi 34 .add 3 (T 33) (ai 1),ah 9 (T 34)]]))))))
 (.seq (.seq (.ops [.xs [ah 10 (ai 0)]])
 (.block 4 (.loop 36026597995709468 0 (.seq (.seq (.ops [.xs [I 41 (T 10),I 42 (T 5),bt 43 34 (T 42),bi 44 .lss 3 (T 41) (T 43)]])
 (.cond (T 44) (.skip)
 (.exit 4)))
 (.seq (.block 5 (.seq (.ops [.xs [I 47 (T 5),I 48 (T 10),bg 49 34 (T 47) (T 48),aE 50 3 (T 49),I 51 (T 7),bi 52 .eql 3 (T 50) (T 51)]])
 (.cond (T 52) (.seq (.ops [.xs [I 53 (T 7),I 54 (T 10),ah 2 (T 53),ah 3 (ai 0),ah 4 (T 54)]])
 (.ret))
 (.skip))))
 (.ops [.xs [I 45 (T 10),bi 46 .add 3 (T 45) (ai 1),ah 10 (T 46)]]))))))
 (.seq (.ops [.xs [ah 11 (ai 0)]])
 (.seq (.block 6 (.loop 9187343239835813888 0 (.seq (.seq (.ops [.xs [I 55 (T 6),I 56 (T 11),bg 57 34 (T 55) (T 56),aE 58 3 (T 57),I 59 (T 7),bi 60 .neq 3 (T 58) (T 59)]])
 (.cond (T 60) (.skip)
 (.exit 6)))
 (.block 7 (.ops [.xs [I 61 (T 11),bi 62 .add 3 (T 61) (ai 1),ah 11 (T 62)]])))))
 (.seq (.ops [.xs [I 63 (T 7),I 64 (T 11),ah 2 (T 63),ah 3 (ai 1),ah 4 (T 64)]])
 (.ret))))))))),[.tmp 2,.tmp 3,.tmp 4]⟩
def Ji:cD:=⟨.seq (.ops [.xs [ah 6 (C (.bool false))]])
 (.seq (.seq (.ops [.xs [ah 7 (ai 0)]])
 (.block 0 (.loop 302231454903657293676480 256 (.seq (.seq (.ops [.xs [I 11 (T 7),I 12 (T 0),bt 13 27 (T 12),bi 14 .lss 3 (T 11) (T 13)]])
 (.cond (T 14) (.skip)
 (.exit 0)))
 (.seq (.block 1 (.seq (.ops [.xs [I 17 (T 0),I 18 (T 7),bg 19 27 (T 17) (T 18),aE 20 93 (T 19)],.bQ 8 93,.bX true none 93 8 (T 20) 8])
 (.seq (.seq (.box 1099509530624 0 (.ops [.a7 none 21 93 8 0 8 0,.aE none 22 45 21 8 0,.xs [aR 23 25 [T 22],un 24 .not (T 23),I 25 (T 24)],.a7 (some (25,false)) 26 93 8 0 8 0,
  .aE (some (25,false)) 27 45 26 8 0,
  .xs [aN 25 false (aR 28 23 [T 27]),aN 25 false (nk 29 42 (T 28) 0),aN 25 false (aR 30 41 [T 29]),aN 25 false (bi 31 .leq 3 (T 30) (ai 0)),cG 32 (T 25) (C (.bool true)) (T 31),I 33 (T 32)],
  .a7 (some (33,false)) 34 93 8 1 8 1,.aE (some (33,false)) 35 34 34 8 1,
  .xs [aN 33 false (bt 36 34 (T 35)),aN 33 false (I 37 (T 2)),aN 33 false (bi 38 .neq 3 (T 36) (T 37)),cG 39 (T 33) (C (.bool true)) (T 38)]]))
 (.cond (T 39) (.seq (.ops [.xs [ah 6 (C (.bool false))]])
 (.ret))
 (.skip)))
 (.seq (.ops [.xs [ah 9 (ai 0)]])
 (.block 2 (.loop 302231454902557782050368 0 (.seq (.seq (.ops [.xs [I 40 (T 9),I 41 (T 2),bi 42 .lss 3 (T 40) (T 41)]])
 (.cond (T 42) (.skip)
 (.exit 2)))
 (.seq (.block 3 (.seq (.seq (.ops [.a7 none 45 93 8 1 8 1,.aE none 46 34 45 8 1,
  .xs [I 47 (T 9),bg 48 34 (T 46) (T 47),aE 49 3 (T 48),I 50 (T 1),bi 51 .sub 3 (T 50) (ai 1),aR 52 39 [T 49,ai (-1),T 51],un 53 .not (T 52)]])
 (.cond (T 53) (.seq (.ops [.xs [ah 6 (C (.bool false))]])
 (.ret))
 (.skip)))
 (.seq (.ops [.xs [ah 10 (ai 0)]])
 (.block 4 (.loop 302231436889258784195648 0 (.seq (.seq (.ops [.xs [I 54 (T 10),I 55 (T 9),bi 56 .lss 3 (T 54) (T 55)]])
 (.cond (T 56) (.skip)
 (.exit 4)))
 (.seq (.block 5 (.seq (.box 302230878442904990253056 0 (.ops [.a7 none 59 93 8 1 8 1,.aE none 60 34 59 8 1,
  .xs [I 61 (T 9),bg 62 34 (T 60) (T 61),aE 63 3 (T 62),bi 64 .geq 3 (T 63) (ai 0),I 65 (T 64)],.a7 (some (65,true)) 66 93 8 1 8 1,
  .aE (some (65,true)) 67 34 66 8 1,.xs [aN 65 true (I 68 (T 9)),aN 65 true (bg 69 34 (T 67) (T 68)),aN 65 true (aE 70 3 (T 69))],
  .a7 (some (65,true)) 71 93 8 1 8 1,.aE (some (65,true)) 72 34 71 8 1,
  .xs [aN 65 true (I 73 (T 10)),aN 65 true (bg 74 34 (T 72) (T 73)),aN 65 true (aE 75 3 (T 74)),aN 65 true (bi 76 .eql 3 (T 70) (T 75)),cG 77 (T 65) (T 76) (C (.bool false))]]))
 (.cond (T 77) (.seq (.ops [.xs [ah 6 (C (.bool false))]])
 (.ret))
 (.skip))))
 (.ops [.xs [I 57 (T 10),bi 58 .add 3 (T 57) (ai 1),ah 10 (T 58)]]))))))))
 (.ops [.xs [I 43 (T 9),bi 44 .add 3 (T 43) (ai 1),ah 9 (T 44)]])))))))))
 (.ops [.xs [I 15 (T 7),bi 16 .add 3 (T 15) (ai 1),ah 7 (T 16)]]))))))
 (.seq (.ops [.xs [ah 6 (C (.bool true))]])
 (.ret))),[.tmp 6]⟩
def Jf:cD:=⟨.seq (.ops [.xs [ah 4 (C (.bool false))]])
 (.seq (.seq (.ops [.xs [ah 5 (ai 0)]])
 (.block 0 (.loop 151115727451828646838256 128 (.seq (.seq (.ops [.xs [I 10 (T 5),I 11 (T 0),bt 12 22 (T 11),bi 13 .lss 3 (T 10) (T 12)]])
 (.cond (T 13) (.skip)
 (.exit 0)))
 (.seq (.block 1 (.seq (.ops [.xs [ah 6 (ai 0)]])
 (.block 2 (.loop 151115727451828646773712 128 (.seq (.seq (.ops [.xs [I 16 (T 6),I 17 (T 0),I 18 (T 5),bg 19 22 (T 17) (T 18),aE 20 34 (T 19),bt 21 34 (T 20),bi 22 .lss 3 (T 16) (T 21)]])
 (.cond (T 22) (.skip)
 (.exit 2)))
 (.seq (.block 3 (.seq (.ops [.xs [aR 25 19 [ai 0]],.bQ 7 42,.bX true none 42 7 (T 25) 7])
 (.seq (.seq (.ops [.xs [ah 8 (ai 0)]])
 (.block 4 (.loop 73786976294771098368 128 (.seq (.seq (.ops [.xs [I 26 (T 8),I 27 (T 1),bt 28 95 (T 27),bi 29 .lss 3 (T 26) (T 28)]])
 (.cond (T 29) (.skip)
 (.exit 4)))
 (.seq (.block 5 (.seq (.ops [.xs [ah 9 (ai 0)]])
 (.block 6 (.loop 73786976290543239680 128 (.seq (.seq (.ops [.xs [I 32 (T 9),I 33 (T 1),I 34 (T 8),bg 35 95 (T 33) (T 34),aE 36 27 (T 35),bt 37 27 (T 36),bi 38 .lss 3 (T 32) (T 37)]])
 (.cond (T 38) (.skip)
 (.exit 6)))
 (.seq (.box 73786974095814950912 128 (.block 7 (.seq (.ops [.xs [I 41 (T 1),I 42 (T 8),bg 43 95 (T 41) (T 42),aE 44 27 (T 43),I 45 (T 9),bg 46 27 (T 44) (T 45),a7 47 93 (T 46) 1,aE 48 34 (T 47),I 49 (T 6),bg 50 34 (T 48) (T 49),aE 51 3 (T 50),I 52 (T 5),bi 53 .eql 3 (T 51) (T 52)]])
 (.cond (T 53) (.ops [.bT none 54 42 7 7,
  .xs [I 55 (T 1),I 56 (T 8),bg 57 95 (T 55) (T 56),aE 58 27 (T 57),I 59 (T 9),bg 60 27 (T 58) (T 59),a7 61 93 (T 60) 0,aE 62 45 (T 61),bh (aR 63 23 [T 62]),aR 64 26 [T 54,T 63],aR 65 43 [T 64]],
  .bX true none 42 7 (T 65) 7])
 (.skip)))))
 (.ops [.xs [I 39 (T 9),bi 40 .add 3 (T 39) (ai 1),ah 9 (T 40)]])))))))
 (.ops [.xs [I 30 (T 8),bi 31 .add 3 (T 30) (ai 1),ah 8 (T 31)]]))))))
 (.seq (.ops [.bT none 66 42 7 7,
  .xs [I 67 (T 0),I 68 (T 5),bg 69 22 (T 67) (T 68),aE 70 34 (T 69),I 71 (T 6),bg 72 34 (T 70) (T 71),aE 73 3 (T 72),bh (aR 74 19 [T 73]),aR 75 17 [T 66,T 74],bi 76 .neq 3 (T 75) (ai 0)]])
 (.cond (T 76) (.seq (.ops [.xs [ah 4 (C (.bool false))]])
 (.ret))
 (.skip))))))
 (.ops [.xs [I 23 (T 6),bi 24 .add 3 (T 23) (ai 1),ah 6 (T 24)]])))))))
 (.ops [.xs [I 14 (T 5),bi 15 .add 3 (T 14) (ai 1),ah 5 (T 15)]]))))))
 (.seq (.ops [.xs [ah 4 (C (.bool true))]])
 (.ret))),[.tmp 4]⟩
def It:cD:=⟨.seq (.ops [.cq 2 42 (T 0),.cq 3 42 (T 1),.xs [ah 4 (ai 0)]])
 (.seq (.ops [.a7 none 5 42 2 0 2 0,.aE none 6 40 5 2 0,.a7 none 7 42 3 1 3 2,.aE none 8 40 7 3 2,.xs [bh (aR 9 45 [T 6,T 8])],.a7 none 10 42 3 0 3 0,
  .aE none 11 40 10 3 0,.a7 none 12 42 2 1 2 2,.aE none 13 40 12 2 2,.xs [aR 14 45 [T 11,T 13],aR 15 44 [T 9,T 14],ah 4 (T 15)]])
 (.ret)),[.tmp 4]⟩
def Jg:cD:=⟨.seq (.ops [.bQ 2 42])
 (.seq (.ops [.xs [aR 5 19 [ai 0]],.bQ 3 42,.bX true none 42 3 (T 5) 3])
 (.seq (.seq (.ops [.xs [ah 4 (ai 0)]])
 (.block 0 (.loop 2097104 8 (.seq (.seq (.ops [.xs [I 6 (T 4),I 7 (T 0),bt 8 27 (T 7),bi 9 .lss 3 (T 6) (T 8)]])
 (.cond (T 9) (.skip)
 (.exit 0)))
 (.seq (.block 1 (.ops [.bT none 12 42 3 3,
  .xs [I 13 (T 0),I 14 (T 4),bg 15 27 (T 13) (T 14),a7 16 93 (T 15) 0,aE 17 45 (T 16),bh (aR 18 23 [T 17]),aR 19 26 [T 12,T 18],aR 20 43 [T 19]],
  .bX true none 42 3 (T 20) 3]))
 (.ops [.xs [I 10 (T 4),bi 11 .add 3 (T 10) (ai 1),ah 4 (T 11)]]))))))
 (.seq (.ops [.bT none 21 42 3 3,.bX true none 42 2 (T 21) 2])
 (.ret)))),[.cell 2 42]⟩
def IG:cD:=⟨.seq (.ops [.bQ 2 42])
 (.seq (.ops [.xs [I 3 (T 0),aR 4 46 [T 3],aR 5 46 [ai 1],dF 6 42 [(0,T 4),(1,T 5)]],.bX true none 42 2 (T 6) 2])
 (.ret)),[.cell 2 42]⟩
def Jl:cD:=⟨.seq (.ops [.xs [ah 4 (C (.string {data:= #[]})),ah 5 (ai 0)]])
 (.seq (.seq (.ops [.xs [I 10 (T 0),aR 11 31 [T 10],un 12 .not (T 11)]])
 (.cond (T 12) (.seq (.ops [.xs [ah 4 (C (.string {data:= #[]})),ah 5 (ai 1)]])
 (.ret))
 (.skip)))
 (.seq (.ops [.xs [I 13 (T 0),aR 14 32 [T 13]],.bQ 6 74,.bX true none 74 6 (T 14) 6])
 (.seq (.ops [.xs [I 16 (T 1)],.bT none 17 74 6 6,.xs [bh (aR 18 48 [T 17])],.bT none 19 74 6 6,
  .xs [bh (aR 20 49 [T 19]),bh (aR 21 47 [T 16,T 18,T 20]),I 15 (T 21),ex 22 (T 15) 0,ex 23 (T 15) 1,ex 24 (T 15) 2],.bQ 7 74,
  .bQ 8 80,.bX true none 74 7 (T 22) 7,.bX true none 80 8 (T 23) 8,.xs [ah 9 (T 24)]])
 (.seq (.seq (.box 8556380160 0 (.ops [.xs [I 25 (T 9),un 26 .not (T 25),I 27 (T 26)],.bT (some (27,false)) 28 74 6 6,.bT (some (27,false)) 29 74 7 7,
  .xs [aN 27 false (aR 30 50 [T 28,T 29]),aN 27 false (un 31 .not (T 30)),cG 32 (T 27) (C (.bool true)) (T 31)]]))
 (.cond (T 32) (.seq (.ops [.xs [ah 4 (C (.string {data:= #[]})),ah 5 (ai 2)]])
 (.ret))
 (.skip)))
 (.seq (.ops [.bT none 33 80 8 8,.xs [aR 34 51 [T 33],ex 35 (T 34) 0,ex 36 (T 34) 1,ah 4 (T 35),ah 5 (T 36)]])
 (.ret)))))),[.tmp 4,.tmp 5]⟩
def IA:cD:=⟨.seq (.ops [.cq 1 42 (T 0),.xs [ah 2 (C (.string {data:= #[]})),ah 3 (C (.bool false))]])
 (.seq (.ops [.bT none 6 42 1 1,.xs [aR 7 43 [T 6]],.bX true none 42 1 (T 7) 1])
 (.seq (.ops [.a7 none 8 42 1 0 1 0,.aE none 9 40 8 1 0,.xs [bh (aR 10 53 [T 9]),bh (aR 11 52 [T 10])],.a7 none 12 42 1 1 1 2,.aE none 13 40 12 1 2,
  .xs [aR 14 52 [T 13],ah 4 (T 11),ah 5 (T 14)]])
 (.seq (.seq (.box 8355840 0 (.ops [.xs [I 15 (T 4),bt 16 9 (T 15),bi 17 .gtr 3 (T 16) (ai 4000),I 18 (T 17),aN 18 false (I 19 (T 5)),aN 18 false (bt 20 9 (T 19)),aN 18 false (bi 21 .gtr 3 (T 20) (ai 4000)),cG 22 (T 18) (C (.bool true)) (T 21)]]))
 (.cond (T 22) (.seq (.ops [.xs [ah 2 (C (.string {data:= #[]})),ah 3 (C (.bool false))]])
 (.ret))
 (.skip)))
 (.seq (.box 260046864 0 (.seq (.ops [.a7 none 23 42 1 0 1 0,.a7 none 24 40 23 0 1 0,.aE none 25 4 24 1 0])
 (.cond (T 25) (.ops [.xs [I 26 (T 4),bi 27 .add 9 (C (.string {data:= #[45]})) (T 26),ah 4 (T 27)]])
 (.skip))))
 (.seq (.box 16911433744 0 (.seq (.ops [.xs [I 28 (T 5),bi 29 .neq 9 (T 28) (C (.string {data:= #[49]}))]])
 (.cond (T 29) (.ops [.xs [I 30 (T 4),I 31 (T 5),bi 32 .add 9 (C (.string {data:= #[47]})) (T 31),bi 33 .add 9 (T 30) (T 32),ah 4 (T 33)]])
 (.skip))))
 (.seq (.ops [.xs [I 34 (T 4),ah 2 (T 34),ah 3 (C (.bool true))]])
 (.ret))))))),[.tmp 2,.tmp 3]⟩
def IX:cD:=⟨.seq (.ops [.xs [ah 2 (C (.slice none 0 0))]])
 (.seq (.ops [.xs [ah 3 (ai 40)]])
 (.seq (.box 456 0 (.seq (.ops [.xs [I 6 (T 0),bt 7 27 (T 6),bi 8 .gtr 3 (T 7) (ai 1000)]])
 (.cond (T 8) (.ops [.xs [ah 3 (ai 1001)]])
 (.skip))))
 (.seq (.ops [.xs [eP 9 27 0 [],ah 4 (T 9)]])
 (.seq (.seq (.ops [.xs [ah 5 (ai 0)]])
 (.block 0 (.loop 17592186043440 0 (.seq (.seq (.box 523264 0 (.ops [.xs [I 10 (T 5),I 11 (T 0),bt 12 27 (T 11),bi 13 .lss 3 (T 10) (T 12),I 14 (T 13),aN 14 true (I 15 (T 5)),aN 14 true (I 16 (T 3)),aN 14 true (bi 17 .lss 3 (T 15) (T 16)),cG 18 (T 14) (T 17) (C (.bool false))]]))
 (.cond (T 18) (.skip)
 (.exit 0)))
 (.seq (.block 1 (.ops [.xs [I 21 (T 4),I 22 (T 0),I 23 (T 5),bg 24 27 (T 22) (T 23),a7 25 93 (T 24) 0,aE 26 45 (T 25),I 27 (T 0),I 28 (T 5),bg 29 27 (T 27) (T 28),a7 30 93 (T 29) 0,aE 31 45 (T 30),bt 32 45 (T 31),tS 33 [3,3] (T 32) (ai 9),bh (fh 34 45 (T 26) none (some (T 33)) none),I 35 (T 0),I 36 (T 5),bg 37 27 (T 35) (T 36),a7 38 93 (T 37) 1,aE 39 34 (T 38),bh (aR 40 30 [T 39,ai 9]),dF 41 93 [(0,T 34),(1,T 40)],eP 42 27 1 [(0,T 41)],ap 43 27 27 (T 21) (T 42),ah 4 (T 43)]]))
 (.ops [.xs [I 19 (T 5),bi 20 .add 3 (T 19) (ai 1),ah 5 (T 20)]]))))))
 (.seq (.ops [.xs [I 44 (T 4),ah 2 (T 44)]])
 (.ret)))))),[.tmp 2]⟩
def IB:cD:=⟨.seq (.ops [.bQ 2 42])
 (.seq (.ops [.xs [I 6 (T 0),aR 7 54 [T 6],I 5 (T 7),ex 8 (T 5) 0,ex 9 (T 5) 1],.bQ 3 42,.bX true none 42 3 (T 8) 3,.xs [ah 4 (T 9)]])
 (.seq (.ops [.bT none 10 42 3 3,.bX true none 42 2 (T 10) 2])
 (.ret))),[.cell 2 42]⟩
def IF:cD:=⟨.seq (.ops [.xs [ah 2 (C (.bool false))]])
 (.seq (.ops [.xs [I 6 (T 0),aR 7 54 [T 6],I 5 (T 7),ex 8 (T 5) 0,ex 9 (T 5) 1],.bQ 3 42,.bX true none 42 3 (T 8) 3,.xs [ah 4 (T 9)]])
 (.seq (.ops [.xs [I 10 (T 4),ah 2 (T 10)]])
 (.ret))),[.tmp 2]⟩
def Ir:cD:=⟨.seq (.ops [.cq 2 42 (T 0),.cq 3 42 (T 1),.bQ 4 42])
 (.seq (.ops [.a7 none 5 42 2 0 2 0,.aE none 6 40 5 2 0,.a7 none 7 42 3 1 3 2,.aE none 8 40 7 3 2,.xs [bh (aR 9 45 [T 6,T 8])],.a7 none 10 42 3 0 3 0,
  .aE none 11 40 10 3 0,.a7 none 12 42 2 1 2 2,.aE none 13 40 12 2 2,.xs [bh (aR 14 45 [T 11,T 13]),bh (aR 15 56 [T 9,T 14])],
  .a7 none 16 42 2 1 2 2,.aE none 17 40 16 2 2,.a7 none 18 42 3 1 3 2,.aE none 19 40 18 3 2,
  .xs [aR 20 45 [T 17,T 19],dF 21 42 [(0,T 15),(1,T 20)]],.bX true none 42 4 (T 21) 4])
 (.ret)),[.cell 4 42]⟩
def IV:cD:=⟨.seq (.ops [.xs [ah 4 (C (.slice none 0 0))]])
 (.seq (.ops [.xs [eP 5 34 0 [],I 6 (T 0),I 7 (T 0),bt 8 34 (T 7),I 9 (T 1),tS 10 [3,3] (T 8) (T 9),fh 11 34 (T 6) none (some (T 10)) none,ap 12 34 34 (T 5) (T 11),ah 4 (T 12)]])
 (.ret)),[.tmp 4]⟩
def Jp:cD:=⟨.seq (.ops [.bQ 2 74])
 (.seq (.ops [.xs [ah 3 (C (.slice none 0 0))]])
 (.seq (.seq (.ops [.xs [I 9 (T 0),bt 10 22 (T 9),I 11 (ai 0)]])
 (.block 0 (.loop 4294965608 0 (.seq (.ops [.xs [bi 12 .lss 3 (T 11) (T 10)]])
 (.seq (.cond (T 12) (.skip)
 (.exit 0))
 (.seq (.block 1 (.seq (.ops [.xs [bg 13 22 (T 9) (T 11),aE 14 34 (T 13),ah 5 (T 14)]])
 (.seq (.ops [.xs [ah 6 (C (.slice none 0 0))]])
 (.seq (.seq (.ops [.xs [I 15 (T 5),bt 16 34 (T 15),I 17 (ai 0)]])
 (.block 2 (.loop 134086976 0 (.seq (.ops [.xs [bi 18 .lss 3 (T 17) (T 16)]])
 (.seq (.cond (T 18) (.skip)
 (.exit 2))
 (.seq (.block 3 (.seq (.ops [.xs [bg 19 34 (T 15) (T 17),aE 20 3 (T 19),ah 8 (T 20)]])
 (.ops [.xs [I 21 (T 6),I 22 (T 8),aR 23 59 [T 22],eP 24 120 1 [(0,T 23)],ap 25 120 120 (T 21) (T 24),ah 6 (T 25)]])))
 (.ops [.xs [bi 26 .add 3 (T 17) (ai 1),I 17 (T 26)]])))))))
 (.ops [.xs [I 27 (T 3),I 28 (T 6),eP 29 72 1 [(0,T 28)],ap 30 72 72 (T 27) (T 29),ah 3 (T 30)]])))))
 (.ops [.xs [bi 31 .add 3 (T 11) (ai 1),I 11 (T 31)]])))))))
 (.seq (.ops [.xs [I 32 (T 3),dF 33 74 [(0,T 32)]],.bX true none 74 2 (T 33) 2])
 (.ret)))),[.cell 2 74]⟩
def Js:cD:=⟨.seq (.ops [.cq 1 74 (T 0),.bQ 2 80,.xs [ah 3 (ai 0)]])
 (.seq (.ops [.bT none 8 74 1 1,.xs [aR 9 65 [T 8,ai 0]],.bQ 4 80,.bX true none 80 4 (T 9) 4,.xs [ah 5 (ai 0)]])
 (.seq (.seq (.ops [.bT none 10 74 1 1,.xs [aR 11 48 [T 10],I 12 (ai 0)]])
 (.block 0 (.loop 33550560 144 (.seq (.ops [.xs [bi 13 .lss 3 (T 12) (T 11)]])
 (.seq (.cond (T 13) (.skip)
 (.exit 0))
 (.seq (.box 16761056 144 (.block 1 (.seq (.ops [.xs [I 14 (T 12),ah 6 (T 14)]])
 (.seq (.ops [.bT none 15 74 1 1,.xs [I 16 (T 6),aR 17 65 [T 15,T 16]],.bQ 7 80,.bX true none 80 7 (T 17) 7])
 (.seq (.ops [.bT none 18 80 7 7,.bT none 19 80 4 4,.xs [aR 20 35 [T 18,T 19],bi 21 .gtr 3 (T 20) (ai 0)]])
 (.cond (T 21) (.ops [.bT none 22 80 7 7,.xs [I 23 (T 6)],.bX true none 80 4 (T 22) 4,.xs [ah 5 (T 23)]])
 (.skip)))))))
 (.ops [.xs [bi 24 .add 3 (T 12) (ai 1),I 12 (T 24)]])))))))
 (.seq (.ops [.bT none 25 80 4 4,.xs [I 26 (T 5)],.bX true none 80 2 (T 25) 2,.xs [ah 3 (T 26)]])
 (.ret)))),[.cell 2 80,.tmp 3]⟩
def Jw:cD:=⟨.seq (.ops [.cq 1 74 (T 0),.bQ 2 74])
 (.seq (.ops [.bT none 7 74 1 1,.xs [aR 8 49 [T 7],ms 9 72 (T 8) (T 8),ah 3 (T 9)]])
 (.seq (.seq (.ops [.xs [I 10 (T 3),bt 11 72 (T 10),I 12 (ai 0)]])
 (.block 0 (.loop 137438949456 0 (.seq (.ops [.xs [bi 13 .lss 3 (T 12) (T 11)]])
 (.seq (.cond (T 13) (.skip)
 (.exit 0))
 (.seq (.block 1 (.seq (.ops [.xs [I 14 (T 12),ah 4 (T 14)]])
 (.seq (.ops [.a7 none 15 74 1 0 1 0,.aE none 16 72 15 1 0,.xs [bt 17 72 (T 16),I 18 (ai 0)]])
 (.block 2 (.loop 68719214656 0 (.seq (.ops [.xs [bi 19 .lss 3 (T 18) (T 17)]])
 (.seq (.cond (T 19) (.skip)
 (.exit 2))
 (.seq (.block 3 (.seq (.ops [.xs [bg 20 72 (T 16) (T 18),aE 21 120 (T 20),ah 6 (T 21)]])
 (.ops [.xs [I 22 (T 3),I 23 (T 4),I 24 (T 3),I 25 (T 4),bg 26 72 (T 24) (T 25),aE 27 120 (T 26),I 28 (T 6),I 29 (T 4),bg 30 120 (T 28) (T 29),aE 31 80 (T 30),bh (eP 32 120 1 [(0,T 31)]),ap 33 120 120 (T 27) (T 32),bg 34 72 (T 22) (T 23),st 120 (T 34) (T 33)]])))
 (.ops [.xs [bi 35 .add 3 (T 18) (ai 1),I 18 (T 35)]])))))))))
 (.ops [.xs [bi 36 .add 3 (T 12) (ai 1),I 12 (T 36)]])))))))
 (.seq (.ops [.xs [I 37 (T 3),dF 38 74 [(0,T 37)]],.bX true none 74 2 (T 38) 2])
 (.ret)))),[.cell 2 74]⟩
def I4:cD:=⟨.seq (.ops [.cq 2 80 (T 0),.cq 3 80 (T 1),.xs [ah 4 (ai 0)]])
 (.seq (.ops [.a7 none 5 80 2 0 2 0,.aE none 6 78 5 2 0,.a7 none 7 80 3 1 3 2,.aE none 8 78 7 3 2,.xs [bh (aR 9 66 [T 6,T 8])],.a7 none 10 80 3 0 3 0,
  .aE none 11 78 10 3 0,.a7 none 12 80 2 1 2 2,.aE none 13 78 12 2 2,.xs [aR 14 66 [T 11,T 13],aR 15 67 [T 9,T 14],ah 4 (T 15)]])
 (.ret)),[.tmp 4]⟩
def I1:cD:=⟨.seq (.ops [.cq 1 78 (T 0),.xs [ah 2 (ai 0),ah 3 (C (.bool false))]])
 (.seq (.seq (.ops [.a7 none 7 78 1 1 1 1,.aE none 8 76 7 1 1,.xs [bt 9 76 (T 8),bi 10 .gtr 3 (T 9) (ai 2)]])
 (.cond (T 10) (.seq (.ops [.xs [ah 2 (ai 0),ah 3 (C (.bool false))]])
 (.ret))
 (.skip)))
 (.seq (.ops [.xs [ah 4 (C (.int .u64 0))]])
 (.seq (.seq (.ops [.a7 none 11 78 1 1 1 1,.aE none 12 76 11 1 1,.xs [bt 13 76 (T 12),I 14 (ai 0)]])
 (.block 0 (.loop 134201456 0 (.seq (.ops [.xs [bi 15 .lss 3 (T 14) (T 13)]])
 (.seq (.cond (T 15) (.skip)
 (.exit 0))
 (.seq (.block 1 (.seq (.ops [.xs [I 16 (T 14),bg 17 76 (T 12) (T 14),aE 18 124 (T 17),ah 5 (T 16),ah 6 (T 18)]])
 (.ops [.xs [I 19 (T 4),I 20 (T 6),cg 21 124 123 (T 20),I 22 (T 5),bi 23 .mul 3 (ai 32) (T 22),bi 24 .shl 123 (T 21) (T 23),bi 25 .or 123 (T 19) (T 24),ah 4 (T 25)]])))
 (.ops [.xs [bi 26 .add 3 (T 14) (ai 1),I 14 (T 26)]])))))))
 (.seq (.seq (.ops [.xs [I 27 (T 4),bi 28 .gtr 123 (T 27) (C (.int .u64 4611686018427387904))]])
 (.cond (T 28) (.seq (.ops [.xs [ah 2 (ai 0),ah 3 (C (.bool false))]])
 (.ret))
 (.skip)))
 (.seq (.seq (.ops [.a7 none 29 78 1 0 1 0,.aE none 30 4 29 1 0])
 (.cond (T 30) (.seq (.ops [.xs [I 31 (T 4),cg 32 123 3 (T 31),un 33 .neg (T 32),ah 2 (T 33),ah 3 (C (.bool true))]])
 (.ret))
 (.skip)))
 (.seq (.ops [.xs [I 34 (T 4),cg 35 123 3 (T 34),ah 2 (T 35),ah 3 (C (.bool true))]])
 (.ret))))))),[.tmp 2,.tmp 3]⟩
def Ju:cD:=⟨.seq (.ops [.cq 1 74 (T 0),.xs [ah 2 (C (.slice none 0 0)),ah 3 (ai 0)]])
 (.seq (.ops [.xs [ah 4 (C (.slice none 0 0))]])
 (.seq (.seq (.ops [.bT none 12 74 1 1,.xs [aR 13 68 [T 12],aR 14 58 [T 13],bt 15 110 (T 14),I 16 (ai 0)]])
 (.block 0 (.loop 144115188075793372 576 (.seq (.ops [.xs [bi 17 .lss 3 (T 16) (T 15)]])
 (.seq (.cond (T 17) (.skip)
 (.exit 0))
 (.seq (.block 1 (.seq (.ops [.xs [bg 18 110 (T 14) (T 16),aE 19 113 (T 18)],.bQ 6 113,.bX true none 113 6 (T 19) 6])
 (.seq (.ops [.a7 none 21 113 6 0 6 0,.aE none 22 80 21 6 0,
  .xs [aR 23 51 [T 22],I 20 (T 23),ex 24 (T 20) 0,ex 25 (T 20) 1,ah 7 (T 24),ah 8 (T 25)]])
 (.seq (.seq (.ops [.xs [I 26 (T 8),bi 27 .neq 24 (T 26) (ai 0)]])
 (.cond (T 27) (.seq (.ops [.xs [I 28 (T 8),ah 2 (C (.slice none 0 0)),ah 3 (T 28)]])
 (.ret))
 (.skip)))
 (.seq (.ops [.xs [I 29 (T 7),dF 30 93 [(0,T 29)]],.bQ 9 93,.bX true none 93 9 (T 30) 9])
 (.seq (.seq (.ops [.a7 none 31 113 6 1 6 4,.aE none 32 34 31 6 4,.bT none 33 74 1 1,
  .xs [bh (aR 34 49 [T 33]),fh 35 34 (T 32) none (some (T 34)) none,bt 36 34 (T 35),I 37 (ai 0)]])
 (.block 2 (.loop 4503462188419072 512 (.seq (.ops [.xs [bi 38 .lss 3 (T 37) (T 36)]])
 (.seq (.cond (T 38) (.skip)
 (.exit 2))
 (.seq (.block 3 (.seq (.ops [.xs [bg 39 34 (T 35) (T 37),aE 40 3 (T 39),ah 11 (T 40)]])
 (.seq (.box 32985348835328 0 (.seq (.ops [.xs [I 41 (T 11)],.bT none 42 74 1 1,.xs [aR 43 48 [T 42],bi 44 .geq 3 (T 41) (T 43)]])
 (.cond (T 44) (.ops [.xs [ah 11 (ai (-1))]])
 (.skip))))
 (.ops [.a7 none 45 93 9 1 9 1,.aE none 46 34 45 9 1,.xs [I 47 (T 11),eP 48 34 1 [(0,T 47)],ap 49 34 34 (T 46) (T 48)],.a7 none 50 93 9 1 9 1,
  .st true none 34 50 (T 49) 9 1]))))
 (.ops [.xs [bi 51 .add 3 (T 37) (ai 1),I 37 (T 51)]])))))))
 (.ops [.xs [I 52 (T 4)],.bT none 53 93 9 9,.xs [eP 54 27 1 [(0,T 53)],ap 55 27 27 (T 52) (T 54),ah 4 (T 55)]])))))))
 (.ops [.xs [bi 56 .add 3 (T 16) (ai 1),I 16 (T 56)]])))))))
 (.seq (.ops [.xs [I 57 (T 4),ah 2 (T 57),ah 3 (ai 0)]])
 (.ret)))),[.tmp 2,.tmp 3]⟩
def Jh:cD:=⟨.seq (.ops [.xs [ah 2 (C (.slice none 0 0)),ah 3 (C (.slice none 0 0))]])
 (.seq (.ops [.xs [I 8 (T 0),bt 9 22 (T 8),bh (ms 10 34 (T 9) (T 9)),I 11 (T 0),bg 12 22 (T 11) (ai 0),aE 13 34 (T 12),bt 14 34 (T 13),bh (ms 15 34 (T 14) (T 14)),ah 4 (T 10),ah 5 (T 15)]])
 (.seq (.seq (.ops [.xs [ah 6 (ai 0)]])
 (.block 0 (.loop 144115188075790528 0 (.seq (.seq (.ops [.xs [I 16 (T 6),I 17 (T 0),bt 18 22 (T 17),bi 19 .lss 3 (T 16) (T 18)]])
 (.cond (T 19) (.skip)
 (.exit 0)))
 (.seq (.block 1 (.seq (.ops [.xs [ah 7 (ai 0)]])
 (.block 2 (.loop 144115188071661696 0 (.seq (.seq (.ops [.xs [I 22 (T 7),I 23 (T 0),I 24 (T 6),bg 25 22 (T 23) (T 24),aE 26 34 (T 25),bt 27 34 (T 26),bi 28 .lss 3 (T 22) (T 27)]])
 (.cond (T 28) (.skip)
 (.exit 2)))
 (.seq (.block 3 (.seq (.ops [.xs [I 31 (T 4),I 32 (T 6),bg 33 34 (T 31) (T 32),aE 34 3 (T 33),I 35 (T 0),I 36 (T 6),bg 37 22 (T 35) (T 36),aE 38 34 (T 37),I 39 (T 7),bg 40 34 (T 38) (T 39),aE 41 3 (T 40),bi 42 .add 3 (T 34) (T 41),bg 43 34 (T 31) (T 32),st 3 (T 43) (T 42)]])
 (.ops [.xs [I 44 (T 5),I 45 (T 7),bg 46 34 (T 44) (T 45),aE 47 3 (T 46),I 48 (T 0),I 49 (T 6),bg 50 22 (T 48) (T 49),aE 51 34 (T 50),I 52 (T 7),bg 53 34 (T 51) (T 52),aE 54 3 (T 53),bi 55 .add 3 (T 47) (T 54),bg 56 34 (T 44) (T 45),st 3 (T 56) (T 55)]])))
 (.ops [.xs [I 29 (T 7),bi 30 .add 3 (T 29) (ai 1),ah 7 (T 30)]])))))))
 (.ops [.xs [I 20 (T 6),bi 21 .add 3 (T 20) (ai 1),ah 6 (T 21)]]))))))
 (.seq (.ops [.xs [I 57 (T 4),I 58 (T 5),ah 2 (T 57),ah 3 (T 58)]])
 (.ret)))),[.tmp 2,.tmp 3]⟩
def ID:cD:=⟨.seq (.ops [.cq 1 40 (T 0),.xs [ah 2 (ai 0)]])
 (.seq (.seq (.ops [.a7 none 3 40 1 1 1 1,.aE none 4 34 3 1 1,.xs [bt 5 34 (T 4),bi 6 .eql 3 (T 5) (ai 0)]])
 (.cond (T 6) (.seq (.ops [.xs [ah 2 (ai 0)]])
 (.ret))
 (.skip)))
 (.seq (.seq (.ops [.a7 none 7 40 1 0 1 0,.aE none 8 4 7 1 0])
 (.cond (T 8) (.seq (.ops [.xs [ah 2 (ai (-1))]])
 (.ret))
 (.skip)))
 (.seq (.ops [.xs [ah 2 (ai 1)]])
 (.ret)))),[.tmp 2]⟩
def Ix:cD:=⟨.seq (.ops [.cq 1 42 (T 0),.bQ 2 42])
 (.seq (.ops [.a7 none 8 42 1 0 1 0,.aE none 9 40 8 1 0,.a7 none 10 42 1 1 1 2,.aE none 11 40 10 1 2,.xs [aR 12 69 [T 9,T 11]],.bQ 3 40,
  .bX true none 40 3 (T 12) 3])
 (.seq (.ops [.a7 none 14 42 1 0 1 0,.aE none 15 40 14 1 0,.bT none 16 40 3 3,
  .xs [aR 17 70 [T 15,T 16],I 13 (T 17),ex 18 (T 13) 0,ex 19 (T 13) 1],.bQ 4 40,.bQ 5 40,.bX true none 40 4 (T 18) 4,
  .bX true none 40 5 (T 19) 5])
 (.seq (.ops [.a7 none 21 42 1 1 1 2,.aE none 22 40 21 1 2,.bT none 23 40 3 3,
  .xs [aR 24 70 [T 22,T 23],I 20 (T 24),ex 25 (T 20) 0,ex 26 (T 20) 1],.bQ 6 40,.bQ 7 40,.bX true none 40 6 (T 25) 6,
  .bX true none 40 7 (T 26) 7])
 (.seq (.ops [.bT none 27 40 4 4,.bT none 28 40 6 6,.xs [dF 29 42 [(0,T 27),(1,T 28)]],.bX true none 42 2 (T 29) 2])
 (.ret))))),[.cell 2 42]⟩
def Is:cD:=⟨.seq (.ops [.cq 2 40 (T 0),.cq 3 40 (T 1),.xs [ah 4 (ai 0)]])
 (.seq (.ops [.bT none 5 40 2 2,.bT none 6 40 3 3,.xs [aR 7 71 [T 5,T 6],aR 8 41 [T 7],ah 4 (T 8)]])
 (.ret)),[.tmp 4]⟩
def Iy:cD:=⟨.seq (.ops [.cq 2 40 (T 0),.cq 3 40 (T 1),.bQ 4 40])
 (.seq (.ops [.a7 none 10 40 2 1 2 1,.aE none 11 34 10 2 1,.xs [bt 12 34 (T 11)],.a7 none 13 40 3 1 3 1,.aE none 14 34 13 3 1,
  .xs [bt 15 34 (T 14),bi 16 .add 3 (T 12) (T 15),bi 17 .add 3 (T 16) (ai 1),ms 18 34 (T 17) (T 17),ah 5 (T 18)]])
 (.seq (.seq (.ops [.xs [ah 6 (ai 0)]])
 (.block 0 (.loop 4722366482869644690368 0 (.seq (.seq (.ops [.xs [I 19 (T 6)],.a7 none 20 40 2 1 2 1,.aE none 21 34 20 2 1,.xs [bt 22 34 (T 21),bi 23 .lss 3 (T 19) (T 22)]])
 (.cond (T 23) (.skip)
 (.exit 0)))
 (.seq (.block 1 (.seq (.ops [.xs [ah 7 (ai 0)]])
 (.seq (.ops [.xs [ah 8 (ai 0)]])
 (.block 2 (.loop 4722366482869578105728 0 (.seq (.seq (.box 34292629504 0 (.ops [.xs [I 26 (T 8)],.a7 none 27 40 3 1 3 1,.aE none 28 34 27 3 1,
  .xs [bt 29 34 (T 28),bi 30 .lss 3 (T 26) (T 29),I 31 (T 30),aN 31 false (I 32 (T 7)),aN 31 false (bi 33 .gtr 3 (T 32) (ai 0)),cG 34 (T 31) (C (.bool true)) (T 33)]]))
 (.cond (T 34) (.skip)
 (.exit 2)))
 (.seq (.block 3 (.seq (.ops [.xs [I 37 (T 5),I 38 (T 6),I 39 (T 8),bi 40 .add 3 (T 38) (T 39),bg 41 34 (T 37) (T 40),aE 42 3 (T 41),I 43 (T 7),bi 44 .add 3 (T 42) (T 43),ah 9 (T 44)]])
 (.seq (.box 9223336852482687488 0 (.seq (.ops [.xs [I 45 (T 8)],.a7 none 46 40 3 1 3 1,.aE none 47 34 46 3 1,.xs [bt 48 34 (T 47),bi 49 .lss 3 (T 45) (T 48)]])
 (.cond (T 49) (.ops [.xs [I 50 (T 9)],.a7 none 51 40 2 1 2 1,.aE none 52 34 51 2 1,.xs [I 53 (T 6),bg 54 34 (T 52) (T 53),aE 55 3 (T 54)],
  .a7 none 56 40 3 1 3 1,.aE none 57 34 56 3 1,
  .xs [I 58 (T 8),bg 59 34 (T 57) (T 58),aE 60 3 (T 59),bi 61 .mul 3 (T 55) (T 60),bi 62 .add 3 (T 50) (T 61),ah 9 (T 62)]])
 (.skip))))
 (.ops [.xs [I 63 (T 5),I 64 (T 6),I 65 (T 8),bi 66 .add 3 (T 64) (T 65),I 67 (T 9),bi 68 .rem 3 (T 67) (ai 10000),I 69 (T 9),bi 70 .quo 3 (T 69) (ai 10000),bg 71 34 (T 63) (T 66),st 3 (T 71) (T 68),ah 7 (T 70)]]))))
 (.ops [.xs [I 35 (T 8),bi 36 .add 3 (T 35) (ai 1),ah 8 (T 36)]]))))))))
 (.ops [.xs [I 24 (T 6),bi 25 .add 3 (T 24) (ai 1),ah 6 (T 25)]]))))))
 (.seq (.ops [.a7 none 72 40 2 0 2 0,.aE none 73 4 72 2 0,.a7 none 74 40 3 0 3 0,.aE none 75 4 74 3 0,
  .xs [bi 76 .neq 4 (T 73) (T 75),I 77 (T 5),dF 78 40 [(0,T 76),(1,T 77)],aR 79 72 [T 78]],.bX true none 40 4 (T 79) 4])
 (.ret)))),[.cell 4 40]⟩
def Iw:cD:=⟨.seq (.ops [.bQ 2 40])
 (.seq (.ops [.xs [I 5 (T 0),bi 6 .lss 3 (T 5) (ai 0),dF 7 40 [(0,T 6)]],.bQ 3 40,.bX true none 40 3 (T 7) 3])
 (.seq (.block 0 (.loop 16776977 8 (.seq (.seq (.ops [.xs [I 8 (T 0),bi 9 .neq 3 (T 8) (ai 0)]])
 (.cond (T 9) (.skip)
 (.exit 0)))
 (.block 1 (.seq (.ops [.xs [I 10 (T 0),bi 11 .rem 3 (T 10) (ai 10000),ah 4 (T 11)]])
 (.seq (.box 61456 0 (.seq (.ops [.xs [I 12 (T 4),bi 13 .lss 3 (T 12) (ai 0)]])
 (.cond (T 13) (.ops [.xs [I 14 (T 4),un 15 .neg (T 14),ah 4 (T 15)]])
 (.skip))))
 (.seq (.ops [.a7 none 16 40 3 1 3 1,.aE none 17 34 16 3 1,.xs [I 18 (T 4),eP 19 34 1 [(0,T 18)],ap 20 34 34 (T 17) (T 19)],.a7 none 21 40 3 1 3 1,
  .st true none 34 21 (T 20) 3 1])
 (.ops [.xs [I 22 (T 0),bi 23 .quo 3 (T 22) (ai 10000),ah 0 (T 23)]]))))))))
 (.seq (.ops [.bT none 24 40 3 3,.bX true none 40 2 (T 24) 2])
 (.ret)))),[.cell 2 40]⟩
def Jn:cD:=⟨.seq (.ops [.bQ 6 74,.bQ 7 80,.xs [ah 8 (C (.bool false))]])
 (.seq (.ops [.xs [I 17 (T 2),ms 18 34 (T 17) (T 17),eP 19 22 1 [(0,T 18)],I 20 (T 1),aR 21 73 [T 19,T 20],aR 22 32 [T 21],aR 23 59 [ai 0]],
  .bQ 9 74,.bQ 10 80,.bX true none 74 9 (T 22) 9,.bX true none 80 10 (T 23) 10])
 (.seq (.seq (.ops [.xs [I 24 (T 0),bt 25 27 (T 24),I 26 (ai 0)]])
 (.block 0 (.loop 40564819207303340847894435590400 13504 (.seq (.ops [.xs [bi 27 .lss 3 (T 26) (T 25)]])
 (.seq (.cond (T 27) (.skip)
 (.exit 0))
 (.seq (.block 1 (.seq (.ops [.xs [bg 28 27 (T 24) (T 26),aE 29 93 (T 28)],.bQ 12 93,.bX true none 93 12 (T 29) 12])
 (.seq (.ops [.a7 none 31 93 12 0 12 0,.aE none 32 45 31 12 0,.xs [aR 33 74 [T 32],I 30 (T 33),ex 34 (T 30) 0,ex 35 (T 30) 1],.bQ 13 80,
  .bX true none 80 13 (T 34) 13,.xs [ah 14 (T 35)]])
 (.seq (.seq (.box 1125831187365888 0 (.ops [.xs [I 36 (T 14),un 37 .not (T 36),I 38 (T 37)],.bT (some (38,false)) 39 80 13 13,
  .xs [aN 38 false (aR 40 75 [T 39]),aN 38 false (bi 41 .leq 3 (T 40) (ai 0)),cG 42 (T 38) (C (.bool true)) (T 41),I 43 (T 42)],
  .a7 (some (43,false)) 44 93 12 1 12 1,.aE (some (43,false)) 45 34 44 12 1,
  .xs [aN 43 false (bt 46 34 (T 45)),aN 43 false (I 47 (T 2)),aN 43 false (bi 48 .neq 3 (T 46) (T 47)),cG 49 (T 43) (C (.bool true)) (T 48)]]))
 (.cond (T 49) (.seq (.opsL [.xs [dF 50 74 []],.bT none 51 80 10 10,.bX false none 74 6 (T 50) 6,.bX true none 80 7 (T 51) 7,.xs [ah 8 (C (.bool false))]])
 (.ret))
 (.skip)))
 (.seq (.seq (.ops [.a7 none 52 93 12 1 12 1,.aE none 53 34 52 12 1,.xs [bt 54 34 (T 53),I 55 (ai 0)]])
 (.block 2 (.loop 2535301200456422774196387545344 192 (.seq (.ops [.xs [bi 56 .lss 3 (T 55) (T 54)]])
 (.seq (.cond (T 56) (.skip)
 (.exit 2))
 (.seq (.box 1267650600228085286308627448064 192 (.block 3 (.seq (.ops [.xs [I 57 (T 55),bg 58 34 (T 53) (T 55),aE 59 3 (T 58),ah 15 (T 57),ah 16 (T 59)]])
 (.seq (.seq (.box 604461756885809980506112 0 (.ops [.xs [I 60 (T 16),bi 61 .lss 3 (T 60) (ai (-1)),I 62 (T 61),aN 62 false (I 63 (T 16)),aN 62 false (I 64 (T 1)),aN 62 false (bi 65 .geq 3 (T 63) (T 64)),cG 66 (T 62) (C (.bool true)) (T 65),I 67 (T 66),aN 67 false (I 68 (T 16)),aN 67 false (bi 69 .geq 3 (T 68) (ai 0)),aN 67 false (I 70 (T 69))],
  .a7 (some (70,true)) 71 93 12 1 12 1,.aE (some (70,true)) 72 34 71 12 1,
  .xs [aN 70 true (I 73 (T 15)),aN 70 true ((fh 74 34 (T 72) none (some (T 73)) none)),aN 70 true (I 75 (T 16)),aN 70 true (aR 76 76 [T 74,T 75]),aN 67 false ((cG 77 (T 70) (T 76) (C (.bool false)))),cG 78 (T 67) (C (.bool true)) (T 77)]]))
 (.cond (T 78) (.seq (.opsL [.xs [dF 79 74 []],.bT none 80 80 10 10,.bX false none 74 6 (T 79) 6,.bX true none 80 7 (T 80) 7,.xs [ah 8 (C (.bool false))]])
 (.ret))
 (.skip)))
 (.seq (.ops [.xs [I 81 (T 16),bi 82 .geq 3 (T 81) (ai 0)]])
 (.cond (T 82) (.ops [.a7 none 83 74 9 0 9 0,.aE none 84 72 83 9 0,.xs [I 85 (T 16),bg 86 72 (T 84) (T 85),aE 87 120 (T 86),I 88 (T 15)],
  .a7 none 89 74 9 0 9 0,.aE none 90 72 89 9 0,
  .xs [I 91 (T 16),bg 92 72 (T 90) (T 91),aE 93 120 (T 92),I 94 (T 15),bg 95 120 (T 93) (T 94),aE 96 80 (T 95)],.bT none 97 80 13 13,
  .xs [bh (aR 98 77 [T 96,T 97]),bg 99 120 (T 87) (T 88),st 80 (T 99) (T 98)]])
 (.skip)))))))
 (.ops [.xs [bi 100 .add 3 (T 55) (ai 1),I 55 (T 100)]])))))))
 (.ops [.bT none 101 80 10 10,.bT none 102 80 13 13,.xs [aR 103 77 [T 101,T 102]],.bX true none 80 10 (T 103) 10]))))))
 (.ops [.xs [bi 104 .add 3 (T 26) (ai 1),I 26 (T 104)]])))))))
 (.seq (.opsL [.bT none 105 74 9 9,.bT none 106 80 10 10,.xs [I 107 (T 0),bt 108 27 (T 107),bi 109 .leq 3 (T 108) (ai 1000)],
  .bX false none 74 6 (T 105) 6,.bX true none 80 7 (T 106) 7,.xs [ah 8 (T 109)]])
 (.ret)))),[.cell 6 74,.cell 7 80,.tmp 8]⟩
def Jt:cD:=⟨.seq (.ops [.cq 2 74 (T 0),.cq 3 74 (T 1),.xs [ah 4 (C (.bool false))]])
 (.seq (.seq (.ops [.a7 none 9 74 2 0 2 0,.aE none 10 72 9 2 0,.xs [bt 11 72 (T 10),I 12 (ai 0)]])
 (.block 0 (.loop 137438949872 256 (.seq (.ops [.xs [bi 13 .lss 3 (T 12) (T 11)]])
 (.seq (.cond (T 13) (.skip)
 (.exit 0))
 (.seq (.block 1 (.seq (.ops [.xs [I 14 (T 12),bg 15 72 (T 10) (T 12),aE 16 120 (T 15),ah 5 (T 14),ah 6 (T 16)]])
 (.seq (.ops [.xs [I 17 (T 6),bt 18 120 (T 17),I 19 (ai 0)]])
 (.block 2 (.loop 68718952848 256 (.seq (.ops [.xs [bi 20 .lss 3 (T 19) (T 18)]])
 (.seq (.cond (T 20) (.skip)
 (.exit 2))
 (.seq (.block 3 (.seq (.ops [.xs [I 21 (T 19),bg 22 120 (T 17) (T 19),aE 23 80 (T 22)],.bQ 8 80,.xs [ah 7 (T 21)],.bX true none 80 8 (T 23) 8])
 (.seq (.ops [.bT none 24 80 8 8,.a7 none 25 74 3 0 3 0,.aE none 26 72 25 3 0,
  .xs [I 27 (T 5),bg 28 72 (T 26) (T 27),aE 29 120 (T 28),I 30 (T 7),bg 31 120 (T 29) (T 30),aE 32 80 (T 31),aR 33 35 [T 24,T 32],bi 34 .neq 3 (T 33) (ai 0)]])
 (.cond (T 34) (.seq (.ops [.xs [ah 4 (C (.bool false))]])
 (.ret))
 (.skip)))))
 (.ops [.xs [bi 35 .add 3 (T 19) (ai 1),I 19 (T 35)]])))))))))
 (.ops [.xs [bi 36 .add 3 (T 12) (ai 1),I 12 (T 36)]])))))))
 (.seq (.ops [.xs [ah 4 (C (.bool true))]])
 (.ret))),[.tmp 4]⟩
def I6:cD:=⟨.seq (.ops [.cq 1 80 (T 0),.xs [ah 2 (C (.string {data:= #[]})),ah 3 (ai 0)]])
 (.seq (.ops [.a7 none 6 80 1 0 1 0,.a7 none 7 78 6 1 1 1,.aE none 8 76 7 1 1,.xs [aR 9 78 [T 8],ah 4 (T 9)]])
 (.seq (.seq (.ops [.xs [I 10 (T 4),bt 11 9 (T 10),bi 12 .gtr 3 (T 11) (ai 4000)]])
 (.cond (T 12) (.seq (.ops [.xs [ah 2 (C (.string {data:= #[]})),ah 3 (ai 5)]])
 (.ret))
 (.skip)))
 (.seq (.box 253968 0 (.seq (.ops [.a7 none 13 80 1 0 1 0,.a7 none 14 78 13 0 1 0,.aE none 15 4 14 1 0])
 (.cond (T 15) (.ops [.xs [I 16 (T 4),bi 17 .add 9 (C (.string {data:= #[45]})) (T 16),ah 4 (T 17)]])
 (.skip))))
 (.seq (.seq (.ops [.bT none 18 80 1 1,.xs [aR 19 79 [T 18]]])
 (.cond (T 19) (.seq (.ops [.xs [I 20 (T 4),ah 2 (T 20),ah 3 (ai 0)]])
 (.ret))
 (.skip)))
 (.seq (.ops [.a7 none 21 80 1 1 1 2,.a7 none 22 78 21 1 1 3,.aE none 23 76 22 1 3,.xs [aR 24 78 [T 23],ah 5 (T 24)]])
 (.seq (.seq (.ops [.xs [I 25 (T 5),bt 26 9 (T 25),bi 27 .gtr 3 (T 26) (ai 4000)]])
 (.cond (T 27) (.seq (.ops [.xs [ah 2 (C (.string {data:= #[]})),ah 3 (ai 5)]])
 (.ret))
 (.skip)))
 (.seq (.ops [.xs [I 28 (T 4),bi 29 .add 9 (T 28) (C (.string {data:= #[47]})),I 30 (T 5),bi 31 .add 9 (T 29) (T 30),ah 2 (T 31),ah 3 (ai 0)]])
 (.ret)))))))),[.tmp 2,.tmp 3]⟩
def II:cD:=⟨.seq (.ops [.cq 1 40 (T 0),.xs [ah 2 (C (.string {data:= #[]}))]])
 (.seq (.seq (.ops [.a7 none 7 40 1 1 1 1,.aE none 8 34 7 1 1,.xs [bt 9 34 (T 8),bi 10 .eql 3 (T 9) (ai 0)]])
 (.cond (T 10) (.seq (.ops [.xs [ah 2 (C (.string {data:= #[48]}))]])
 (.ret))
 (.skip)))
 (.seq (.ops [.xs [ah 3 (C (.string {data:= #[]}))]])
 (.seq (.seq (.ops [.a7 none 11 40 1 1 1 1,.aE none 12 34 11 1 1,.xs [bt 13 34 (T 12),bi 14 .sub 3 (T 13) (ai 1),ah 4 (T 14)]])
 (.block 0 (.loop 140737488322680 0 (.seq (.seq (.ops [.xs [I 15 (T 4),bi 16 .geq 3 (T 15) (ai 0)]])
 (.cond (T 16) (.skip)
 (.exit 0)))
 (.seq (.block 1 (.seq (.ops [.a7 none 19 40 1 1 1 1,.aE none 20 34 19 1 1,.xs [I 21 (T 4),bg 22 34 (T 20) (T 21),aE 23 3 (T 22),ah 5 (T 23)]])
 (.seq (.ops [.xs [I 24 (T 5),bi 25 .quo 3 (T 24) (ai 1000),bi 26 .add 3 (ai 48) (T 25),cg 27 3 5 (T 26),I 28 (T 5),bi 29 .quo 3 (T 28) (ai 100),bi 30 .rem 3 (T 29) (ai 10),bi 31 .add 3 (ai 48) (T 30),cg 32 3 5 (T 31),I 33 (T 5),bi 34 .quo 3 (T 33) (ai 10),bi 35 .rem 3 (T 34) (ai 10),bi 36 .add 3 (ai 48) (T 35),cg 37 3 5 (T 36),I 38 (T 5),bi 39 .rem 3 (T 38) (ai 10),bi 40 .add 3 (ai 48) (T 39),cg 41 3 5 (T 40),eP 42 61 4 [(0,T 27),(1,T 32),(2,T 37),(3,T 41)],cg 43 61 9 (T 42),ah 6 (T 43)]])
 (.ops [.xs [I 44 (T 3),I 45 (T 6),bi 46 .add 9 (T 44) (T 45),ah 3 (T 46)]]))))
 (.ops [.xs [I 17 (T 4),bi 18 .sub 3 (T 17) (ai 1),ah 4 (T 18)]]))))))
 (.seq (.block 2 (.loop 4362862139015176 0 (.seq (.seq (.ops [.xs [I 47 (T 3),ew 48 9 (T 47) (ai 0),bi 49 .eql 5 (T 48) (C (.int .u8 48))]])
 (.cond (T 49) (.skip)
 (.exit 2)))
 (.block 3 (.ops [.xs [I 50 (T 3),fh 51 9 (T 50) (some (ai 1)) none none,ah 3 (T 51)]])))))
 (.seq (.ops [.xs [I 52 (T 3),ah 2 (T 52)]])
 (.ret)))))),[.tmp 2]⟩
def Ip:cD:=⟨.seq (.ops [.cq 1 40 (T 0),.bQ 2 40])
 (.seq (.ops [.a7 none 3 40 1 0 1 0,.st true none 4 3 (C (.bool false)) 1 0])
 (.seq (.ops [.bT none 4 40 1 1,.bX true none 40 2 (T 4) 2])
 (.ret))),[.cell 2 40]⟩
def IC:cD:=⟨.seq (.ops [.bQ 2 42,.xs [ah 3 (C (.bool false))]])
 (.seq (.ops [.xs [I 13 (T 0),ah 4 (T 13),ah 5 (C (.bool false))]])
 (.seq (.seq (.ops [.xs [I 14 (T 4),bt 15 9 (T 14),bi 16 .gtr 3 (T 15) (ai 8002)]])
 (.cond (T 16) (.seq (.ops [.xs [dF 17 42 []],.bX true none 42 2 (T 17) 2,.xs [ah 3 (C (.bool false))]])
 (.ret))
 (.skip)))
 (.seq (.box 268173360 0 (.seq (.box 66846720 0 (.ops [.xs [I 18 (T 4),bt 19 9 (T 18),bi 20 .gtr 3 (T 19) (ai 0),I 21 (T 20),aN 21 true (I 22 (T 4)),aN 21 true (ew 23 9 (T 22) (ai 0)),aN 21 true ((bi 24 .eql 5 (T 23) (C (.int .u8 45)))),cG 25 (T 21) (T 24) (C (.bool false))]]))
 (.cond (T 25) (.ops [.xs [I 26 (T 4),fh 27 9 (T 26) (some (ai 1)) none none,ah 4 (T 27),ah 5 (C (.bool true))]])
 (.skip))))
 (.seq (.ops [.xs [I 28 (T 4),bt 29 9 (T 28),ah 6 (T 29)]])
 (.seq (.seq (.ops [.xs [I 30 (T 4),bt 31 9 (T 30),bi 32 .sub 3 (T 31) (ai 1),ah 7 (T 32)]])
 (.block 0 (.loop 4389456576704 0 (.seq (.seq (.ops [.xs [I 33 (T 7),bi 34 .geq 3 (T 33) (ai 0)]])
 (.cond (T 34) (.skip)
 (.exit 0)))
 (.seq (.box 4260607557696 0 (.block 1 (.seq (.ops [.xs [I 37 (T 4),I 38 (T 7),ew 39 9 (T 37) (T 38),bi 40 .eql 5 (T 39) (C (.int .u8 47))]])
 (.cond (T 40) (.ops [.xs [I 41 (T 7),ah 6 (T 41)]])
 (.skip)))))
 (.ops [.xs [I 35 (T 7),bi 36 .sub 3 (T 35) (ai 1),ah 7 (T 36)]]))))))
 (.seq (.ops [.xs [I 43 (T 4),I 44 (T 6),fh 45 9 (T 43) none (some (T 44)) none,aR 46 80 [T 45],I 42 (T 46),ex 47 (T 42) 0,ex 48 (T 42) 1],
  .bQ 8 40,.bX true none 40 8 (T 47) 8,.xs [ah 9 (T 48)]])
 (.seq (.ops [.xs [aR 49 46 [ai 1]],.bQ 10 40,.bX true none 40 10 (T 49) 10])
 (.seq (.box 1208925818488729267869704 3076 (.seq (.ops [.xs [I 50 (T 6),I 51 (T 4),bt 52 9 (T 51),bi 53 .lss 3 (T 50) (T 52)]])
 (.cond (T 53) (.seq (.ops [.xs [I 55 (T 4),I 56 (T 6),bi 57 .add 3 (T 56) (ai 1),fh 58 9 (T 55) (some (T 57)) none none,aR 59 80 [T 58],I 54 (T 59),ex 60 (T 54) 0,ex 61 (T 54) 1],
  .bQ 11 40,.bX true none 40 11 (T 60) 11,.xs [ah 12 (T 61)]])
 (.seq (.seq (.box 302226843217638866288640 0 (.ops [.xs [I 62 (T 12),un 63 .not (T 62),I 64 (T 63)],.bT (some (64,false)) 65 40 11 11,
  .xs [aN 64 false (bh (aR 66 46 [ai 2])),aN 64 false (aR 67 44 [T 65,T 66]),aN 64 false (bi 68 .lss 3 (T 67) (ai 0)),cG 69 (T 64) (C (.bool true)) (T 68),I 70 (T 69)],
  .bT (some (70,false)) 71 40 8 8,.bT (some (70,false)) 72 40 11 11,
  .xs [aN 70 false (aR 73 69 [T 71,T 72]),aN 70 false (aR 74 46 [ai 1]),aN 70 false (aR 75 44 [T 73,T 74]),aN 70 false (bi 76 .neq 3 (T 75) (ai 0)),cG 77 (T 70) (C (.bool true)) (T 76)]]))
 (.cond (T 77) (.seq (.ops [.xs [dF 78 42 []],.bX true none 42 2 (T 78) 2,.xs [ah 3 (C (.bool false))]])
 (.ret))
 (.skip)))
 (.ops [.bT none 79 40 11 11,.bX true none 40 10 (T 79) 10])))
 (.skip))))
 (.seq (.seq (.box 2474671152751145920623542272 0 (.ops [.xs [I 80 (T 9),un 81 .not (T 80),I 82 (T 81),aN 82 false (I 83 (T 5)),aN 82 false (I 84 (T 83))],.a7 (some (84,true)) 85 40 8 1 8 1,
  .aE (some (84,true)) 86 34 85 8 1,
  .xs [aN 84 true (bt 87 34 (T 86)),aN 84 true (bi 88 .eql 3 (T 87) (ai 0)),aN 82 false ((cG 89 (T 84) (T 88) (C (.bool false)))),cG 90 (T 82) (C (.bool true)) (T 89)]]))
 (.cond (T 90) (.seq (.ops [.xs [dF 91 42 []],.bX true none 42 2 (T 91) 2,.xs [ah 3 (C (.bool false))]])
 (.ret))
 (.skip)))
 (.seq (.box 34662321099990647697175478272 256 (.seq (.ops [.xs [I 92 (T 5)]])
 (.cond (T 92) (.ops [.bT none 93 40 8 8,.xs [aR 94 81 [T 93]],.bX true none 40 8 (T 94) 8])
 (.skip))))
 (.seq (.ops [.bT none 95 40 8 8,.bT none 96 40 10 10,.xs [dF 97 42 [(0,T 95),(1,T 96)]],.bX true none 42 2 (T 97) 2,.xs [ah 3 (C (.bool true))]])
 (.ret)))))))))))),[.cell 2 42,.tmp 3]⟩
def Iq:cD:=⟨.seq (.ops [.cq 2 40 (T 0),.cq 3 40 (T 1),.bQ 4 40])
 (.seq (.seq (.ops [.a7 none 5 40 2 0 2 0,.aE none 6 4 5 2 0,.a7 none 7 40 3 0 3 0,.aE none 8 4 7 3 0,.xs [bi 9 .eql 4 (T 6) (T 8)]])
 (.cond (T 9) (.seq (.ops [.a7 none 10 40 2 0 2 0,.aE none 11 4 10 2 0,.a7 none 12 40 2 1 2 1,.aE none 13 34 12 2 1,.a7 none 14 40 3 1 3 1,.aE none 15 34 14 3 1,
  .xs [bh (aR 16 82 [T 13,T 15]),dF 17 40 [(0,T 11),(1,T 16)],aR 18 72 [T 17]],.bX true none 40 4 (T 18) 4])
 (.ret))
 (.skip)))
 (.seq (.seq (.ops [.a7 none 19 40 2 1 2 1,.aE none 20 34 19 2 1,.a7 none 21 40 3 1 3 1,.aE none 22 34 21 3 1,
  .xs [aR 23 83 [T 20,T 22],bi 24 .geq 3 (T 23) (ai 0)]])
 (.cond (T 24) (.seq (.ops [.a7 none 25 40 2 0 2 0,.aE none 26 4 25 2 0,.a7 none 27 40 2 1 2 1,.aE none 28 34 27 2 1,.a7 none 29 40 3 1 3 1,.aE none 30 34 29 3 1,
  .xs [bh (aR 31 84 [T 28,T 30]),dF 32 40 [(0,T 26),(1,T 31)],aR 33 72 [T 32]],.bX true none 40 4 (T 33) 4])
 (.ret))
 (.skip)))
 (.seq (.ops [.a7 none 34 40 3 0 3 0,.aE none 35 4 34 3 0,.a7 none 36 40 3 1 3 1,.aE none 37 34 36 3 1,.a7 none 38 40 2 1 2 1,.aE none 39 34 38 2 1,
  .xs [bh (aR 40 84 [T 37,T 39]),dF 41 40 [(0,T 35),(1,T 40)],aR 42 72 [T 41]],.bX true none 40 4 (T 42) 4])
 (.ret)))),[.cell 4 40]⟩
def Jq:cD:=⟨.seq (.ops [.cq 1 74 (T 0),.xs [ah 2 (C (.slice none 0 0))]])
 (.seq (.ops [.xs [ah 3 (C (.slice none 0 0))]])
 (.seq (.seq (.ops [.a7 none 17 74 1 0 1 0,.aE none 18 72 17 1 0,.xs [bt 19 72 (T 18),I 20 (ai 0)]])
 (.block 0 (.loop 1072693288 0 (.seq (.ops [.xs [bi 21 .lss 3 (T 20) (T 19)]])
 (.seq (.cond (T 21) (.skip)
 (.exit 0))
 (.seq (.block 1 (.seq (.ops [.xs [bg 22 72 (T 18) (T 20),aE 23 120 (T 22),ah 5 (T 23)]])
 (.ops [.xs [I 24 (T 3),I 25 (T 5),aR 26 85 [T 25],eP 27 72 1 [(0,T 26)],ap 28 72 72 (T 24) (T 27),ah 3 (T 28)]])))
 (.ops [.xs [bi 29 .add 3 (T 20) (ai 1),I 20 (T 29)]])))))))
 (.seq (.ops [.xs [I 30 (T 3),dF 31 74 [(0,T 30)]],.bQ 6 74,.bX true none 74 6 (T 31) 6])
 (.seq (.ops [.xs [ah 7 (C (.slice none 0 0))]])
 (.seq (.block 2 (.loop 10889035741470030830827987437812287930240 18432 (.seq (.seq (.ops [.bT none 32 74 6 6,.xs [aR 33 65 [T 32,ai 0],aR 34 75 [T 33],bi 35 .gtr 3 (T 34) (ai 0)]])
 (.cond (T 35) (.skip)
 (.exit 2)))
 (.block 3 (.seq (.ops [.bT none 36 74 6 6,.xs [bh (eP 37 34 1 [(0,ai (-1))])],.bT none 38 74 6 6,
  .xs [bh (aR 39 49 [T 38]),bh (aR 40 60 [T 37,T 39]),dF 41 140 [(0,T 36),(1,T 40)],cq 42 140 (T 41),ah 8 (T 42)]])
 (.seq (.ops [.xs [I 43 (T 8),vY 44 (.func 86) #[T 43] #[],ah 9 (T 44)]])
 (.seq (.seq (.ops [.bT none 45 74 6 6,.xs [aR 46 48 [T 45],I 47 (ai 0)]])
 (.block 4 (.loop 1152780767118492672 0 (.seq (.ops [.xs [bi 48 .lss 3 (T 47) (T 46)]])
 (.seq (.cond (T 48) (.skip)
 (.exit 4))
 (.seq (.block 5 (.seq (.ops [.xs [I 49 (T 47),ah 10 (T 49)]])
 (.seq (.ops [.xs [I 50 (T 8)],.bT none 51 74 6 6,
  .xs [aR 52 49 [T 51],ms 53 115 (T 52) (T 52),jh 54 (T 50),a7 55 140 (T 54) 2,st 115 (T 55) (T 53)]])
 (.ops [.xs [I 56 (T 9),I 57 (T 10),mC 58 (T 56) [T 57]]]))))
 (.ops [.xs [bi 59 .add 3 (T 47) (ai 1),I 47 (T 59)]])))))))
 (.seq (.ops [.a7 none 60 74 6 0 6 0,.aE none 61 72 60 6 0,
  .xs [I 62 (T 8),jh 63 (T 62),a7 64 140 (T 63) 1,aE 65 34 (T 64),bg 66 34 (T 65) (ai 0),aE 67 3 (T 66),bg 68 72 (T 61) (T 67),aE 69 120 (T 68),bg 70 120 (T 69) (ai 0),aE 71 80 (T 70)],
  .bQ 11 80,.bX true none 80 11 (T 71) 11])
 (.seq (.seq (.ops [.xs [I 72 (T 8),jh 73 (T 72),a7 74 140 (T 73) 1,aE 75 34 (T 74),bt 76 34 (T 75),I 77 (ai 0)]])
 (.block 6 (.loop 79228011398536885764897140736 18432 (.seq (.ops [.xs [bi 78 .lss 3 (T 77) (T 76)]])
 (.seq (.cond (T 78) (.skip)
 (.exit 6))
 (.seq (.box 39613476794222361482184650752 18432 (.block 7 (.seq (.ops [.xs [I 79 (T 77),bg 80 34 (T 75) (T 77),aE 81 3 (T 80),ah 12 (T 79),ah 13 (T 81)]])
 (.seq (.ops [.a7 none 82 74 6 0 6 0,.aE none 83 72 82 6 0,
  .xs [I 84 (T 13),bg 85 72 (T 83) (T 84),aE 86 120 (T 85),I 87 (T 12),bg 88 120 (T 86) (T 87),aE 89 80 (T 88)],.bQ 14 80,
  .bX true none 80 14 (T 89) 14])
 (.seq (.ops [.bT none 90 80 14 14,.bT none 91 80 11 11,.xs [aR 92 35 [T 90,T 91],bi 93 .lss 3 (T 92) (ai 0)]])
 (.cond (T 93) (.ops [.bT none 94 80 14 14,.bX true none 80 11 (T 94) 11])
 (.skip)))))))
 (.ops [.xs [bi 95 .add 3 (T 77) (ai 1),I 77 (T 95)]])))))))
 (.seq (.seq (.ops [.xs [I 96 (T 8),jh 97 (T 96),a7 98 140 (T 97) 1,aE 99 34 (T 98),bt 100 34 (T 99),I 101 (ai 0)]])
 (.block 8 (.loop 21267645397257453510002109971079200768 0 (.seq (.ops [.xs [bi 102 .lss 3 (T 101) (T 100)]])
 (.seq (.cond (T 102) (.skip)
 (.exit 8))
 (.seq (.block 9 (.seq (.ops [.xs [I 103 (T 101),bg 104 34 (T 99) (T 101),aE 105 3 (T 104),ah 15 (T 103),ah 16 (T 105)]])
 (.ops [.a7 none 106 74 6 0 6 0,.aE none 107 72 106 6 0,.xs [I 108 (T 16),bg 109 72 (T 107) (T 108),aE 110 120 (T 109),I 111 (T 15)],
  .a7 none 112 74 6 0 6 0,.aE none 113 72 112 6 0,
  .xs [I 114 (T 16),bg 115 72 (T 113) (T 114),aE 116 120 (T 115),I 117 (T 15),bg 118 120 (T 116) (T 117),aE 119 80 (T 118)],
  .bT none 120 80 11 11,.xs [bh (aR 121 87 [T 119,T 120]),bg 122 120 (T 110) (T 111),st 80 (T 122) (T 121)]])))
 (.ops [.xs [bi 123 .add 3 (T 101) (ai 1),I 101 (T 123)]])))))))
 (.ops [.xs [I 124 (T 7)],.bT none 125 80 11 11,
  .xs [I 126 (T 8),jh 127 (T 126),a7 128 140 (T 127) 1,aE 129 34 (T 128),dF 130 113 [(0,T 125),(1,T 129)],eP 131 110 1 [(0,T 130)],ap 132 110 110 (T 124) (T 131),ah 7 (T 132)]])))))))))))
 (.seq (.ops [.xs [I 133 (T 7),ah 2 (T 133)]])
 (.ret))))))),[.tmp 2]⟩
def JB:cD:=⟨.seq (.ops [.xs [ah 4 (C (.slice none 0 0))]])
 (.seq (.box 3584 0 (.seq (.ops [.xs [I 9 (T 1),bi 10 .lss 3 (T 9) (ai 0)]])
 (.cond (T 10) (.ops [.xs [m3 11 9 (C (.string {data:= #[99,97,110,110,111,116,32,98,101,32,110,101,103,97,116,105,118,101]})),(⟨true,none,none,.panic (T 11)⟩)]])
 (.skip))))
 (.seq (.ops [.xs [I 13 (T 0),bt 14 34 (T 13),cg 15 3 142 (T 14),I 16 (T 1),cg 17 3 142 (T 16),aR 18 89 [T 15,T 17],I 12 (T 18),ex 19 (T 12) 0,ex 20 (T 12) 1,ah 5 (T 19),ah 6 (T 20)]])
 (.seq (.box 266338304 0 (.seq (.box 132120576 0 (.ops [.xs [I 21 (T 5),bi 22 .gtr 142 (T 21) (C (.int .u64 0)),I 23 (T 22),aN 23 false (I 24 (T 6)),aN 23 false ((bi 25 .gtr 142 (T 24) (C (.int .u64 9223372036854775807)))),cG 26 (T 23) (C (.bool true)) (T 25)]]))
 (.cond (T 26) (.ops [.xs [m3 27 9 (C (.string {data:= #[116,104,101,32,114,101,115,117,108,116,32,111,102,32,40,108,101,110,40,120,41,32,42,32,99,111,117,110,116,41,32,111,118,101,114,102,108,111,119,115]})),(⟨true,none,none,.panic (T 27)⟩)]])
 (.skip))))
 (.seq (.ops [.xs [I 28 (T 6),cg 29 142 3 (T 28),ms 30 34 (T 29) (T 29),ah 7 (T 30)]])
 (.seq (.ops [.xs [I 31 (T 7),I 32 (T 0),cp 33 34 34 (T 31) (T 32),ah 8 (T 33)]])
 (.seq (.block 0 (.loop 140720308486400 0 (.seq (.seq (.ops [.xs [I 34 (T 8),I 35 (T 7),bt 36 34 (T 35),bi 37 .lss 3 (T 34) (T 36)]])
 (.cond (T 37) (.skip)
 (.exit 0)))
 (.block 1 (.ops [.xs [I 38 (T 8),I 39 (T 7),I 40 (T 8),bh (fh 41 34 (T 39) (some (T 40)) none none),I 42 (T 7),I 43 (T 8),bh (fh 44 34 (T 42) none (some (T 43)) none),cp 45 34 34 (T 41) (T 44),bi 46 .add 3 (T 38) (T 45),ah 8 (T 46)]])))))
 (.seq (.ops [.xs [I 47 (T 7),ah 4 (T 47)]])
 (.ret)))))))),[.tmp 4]⟩
def Jr:cD:=⟨.seq (.ops [.cq 2 74 (T 0),.bQ 4 80])
 (.seq (.ops [.xs [aR 8 59 [ai 0]],.bQ 5 80,.bX true none 80 5 (T 8) 5])
 (.seq (.seq (.ops [.a7 none 9 74 2 0 2 0,.aE none 10 72 9 2 0,.xs [I 11 (T 1),bg 12 72 (T 10) (T 11),aE 13 120 (T 12),bt 14 120 (T 13),I 15 (ai 0)]])
 (.block 0 (.loop 8355968 160 (.seq (.ops [.xs [bi 16 .lss 3 (T 15) (T 14)]])
 (.seq (.cond (T 16) (.skip)
 (.exit 0))
 (.seq (.block 1 (.seq (.ops [.xs [bg 17 120 (T 13) (T 15),aE 18 80 (T 17)],.bQ 7 80,.bX true none 80 7 (T 18) 7])
 (.ops [.bT none 19 80 5 5,.bT none 20 80 7 7,.xs [aR 21 77 [T 19,T 20]],.bX true none 80 5 (T 21) 5])))
 (.ops [.xs [bi 22 .add 3 (T 15) (ai 1),I 15 (T 22)]])))))))
 (.seq (.ops [.bT none 23 80 5 5,.bX true none 80 4 (T 23) 4])
 (.ret)))),[.cell 4 80]⟩
def Jv:cD:=⟨.seq (.ops [.cq 1 74 (T 0),.bQ 2 74])
 (.seq (.ops [.bT none 14 74 1 1,.xs [bh (aR 15 48 [T 14])],.bT none 16 74 1 1,.xs [aR 17 49 [T 16],ah 3 (T 15),ah 4 (T 17)]])
 (.seq (.ops [.bT none 18 74 1 1,.xs [aR 19 34 [T 18]],.bQ 5 74,.bX true none 74 5 (T 19) 5])
 (.seq (.ops [.bT none 21 74 1 1,.xs [aR 22 33 [T 21],I 20 (T 22),ex 23 (T 20) 0,ex 24 (T 20) 1],.bQ 6 80,.bX true none 80 6 (T 23) 6,
  .xs [ah 7 (T 24)]])
 (.seq (.box 34326184704 320 (.seq (.ops [.bT none 26 74 5 5,.xs [aR 27 33 [T 26],I 25 (T 27),ex 28 (T 25) 0,ex 29 (T 25) 1],.bQ 8 80,.bX true none 80 8 (T 28) 8,
  .xs [ah 9 (T 29)]])
 (.seq (.ops [.bT none 30 80 8 8,.bT none 31 80 6 6,.xs [aR 32 35 [T 30,T 31],bi 33 .gtr 3 (T 32) (ai 0)]])
 (.cond (T 33) (.ops [.bT none 34 80 8 8,.bX true none 80 6 (T 34) 6])
 (.skip)))))
 (.seq (.ops [.xs [I 35 (T 3),I 36 (T 4),bi 37 .add 3 (T 35) (T 36),ms 38 72 (T 37) (T 37),ah 10 (T 38)]])
 (.seq (.seq (.ops [.xs [I 39 (T 10),bt 40 72 (T 39),I 41 (ai 0)]])
 (.block 0 (.loop 18012199486228480 0 (.seq (.ops [.xs [bi 42 .lss 3 (T 41) (T 40)]])
 (.seq (.cond (T 42) (.skip)
 (.exit 0))
 (.seq (.block 1 (.seq (.ops [.xs [I 43 (T 41),ah 11 (T 43)]])
 (.ops [.xs [I 44 (T 10),I 45 (T 11),aR 46 59 [ai 0],eP 47 120 1 [(0,T 46)],I 48 (T 3),I 49 (T 4),bi 50 .add 3 (T 48) (T 49),aR 51 96 [T 47,T 50],bg 52 72 (T 44) (T 45),st 120 (T 52) (T 51)]])))
 (.ops [.xs [bi 53 .add 3 (T 41) (ai 1),I 41 (T 53)]])))))))
 (.seq (.seq (.ops [.xs [I 54 (T 3),I 55 (ai 0)]])
 (.block 2 (.loop 4835703242429719679864832 0 (.seq (.ops [.xs [bi 56 .lss 3 (T 55) (T 54)]])
 (.seq (.cond (T 56) (.skip)
 (.exit 2))
 (.seq (.block 3 (.seq (.ops [.xs [I 57 (T 55),ah 12 (T 57)]])
 (.seq (.ops [.xs [I 58 (T 10),I 59 (T 12),bg 60 72 (T 58) (T 59),aE 61 120 (T 60)],.a7 none 62 74 1 0 1 0,.aE none 63 72 62 1 0,
  .xs [I 64 (T 12),bg 65 72 (T 63) (T 64),aE 66 120 (T 65),cp 67 120 120 (T 61) (T 66)]])
 (.ops [.xs [I 68 (T 10),I 69 (T 12),bg 70 72 (T 68) (T 69),aE 71 120 (T 70),I 72 (T 4),I 73 (T 12),bi 74 .add 3 (T 72) (T 73)],
  .bT none 75 80 6 6,.bT none 76 74 1 1,
  .xs [I 77 (T 12),bh (aR 78 65 [T 76,T 77]),bh (aR 79 87 [T 75,T 78]),bg 80 120 (T 71) (T 74),st 80 (T 80) (T 79)]]))))
 (.ops [.xs [bi 81 .add 3 (T 55) (ai 1),I 55 (T 81)]])))))))
 (.seq (.seq (.ops [.xs [I 82 (T 4),I 83 (ai 0)]])
 (.block 4 (.loop 20769187424467903957204951919239168 0 (.seq (.ops [.xs [bi 84 .lss 3 (T 83) (T 82)]])
 (.seq (.cond (T 84) (.skip)
 (.exit 4))
 (.seq (.block 5 (.seq (.ops [.xs [I 85 (T 83),ah 13 (T 85)]])
 (.seq (.ops [.xs [I 86 (T 10),I 87 (T 3),I 88 (T 13),bi 89 .add 3 (T 87) (T 88),bg 90 72 (T 86) (T 89),aE 91 120 (T 90),I 92 (T 4),bh (fh 93 120 (T 91) (some (T 92)) none none)],
  .a7 none 94 74 5 0 5 0,.aE none 95 72 94 5 0,.xs [I 96 (T 13),bg 97 72 (T 95) (T 96),aE 98 120 (T 97),cp 99 120 120 (T 93) (T 98)]])
 (.ops [.xs [I 100 (T 10),I 101 (T 3),I 102 (T 13),bi 103 .add 3 (T 101) (T 102),bg 104 72 (T 100) (T 103),aE 105 120 (T 104),I 106 (T 13)],
  .bT none 107 80 6 6,.bT none 108 74 5 5,
  .xs [I 109 (T 13),bh (aR 110 65 [T 108,T 109]),bh (aR 111 87 [T 107,T 110]),bg 112 120 (T 105) (T 106),st 80 (T 112) (T 111)]]))))
 (.ops [.xs [bi 113 .add 3 (T 83) (ai 1),I 83 (T 113)]])))))))
 (.seq (.ops [.xs [I 114 (T 10),dF 115 74 [(0,T 114)]],.bX true none 74 2 (T 115) 2])
 (.ret)))))))))),[.cell 2 74]⟩
def Iv:cD:=⟨.seq (.ops [.cq 2 40 (T 0),.cq 3 40 (T 1),.bQ 4 40])
 (.seq (.ops [.bT none 7 40 2 2,.xs [bh (aR 8 53 [T 7])],.bT none 9 40 3 3,.xs [aR 10 53 [T 9]],.bX true none 40 2 (T 8) 2,.bX true none 40 3 (T 10) 3])
 (.seq (.block 0 (.loop 8386656 108 (.seq (.seq (.ops [.a7 none 11 40 3 1 3 1,.aE none 12 34 11 3 1,.xs [bt 13 34 (T 12),bi 14 .gtr 3 (T 13) (ai 0)]])
 (.cond (T 14) (.skip)
 (.exit 0)))
 (.block 1 (.seq (.ops [.bT none 16 40 2 2,.bT none 17 40 3 3,.xs [aR 18 70 [T 16,T 17],I 15 (T 18),ex 19 (T 15) 0,ex 20 (T 15) 1],.bQ 5 40,.bQ 6 40,
  .bX true none 40 5 (T 19) 5,.bX true none 40 6 (T 20) 6])
 (.opsL [.bT none 21 40 3 3,.bT none 22 40 6 6,.bX false none 40 2 (T 21) 2,.bX true none 40 3 (T 22) 3]))))))
 (.seq (.ops [.bT none 23 40 2 2,.bX true none 40 4 (T 23) 4])
 (.ret)))),[.cell 4 40]⟩
def Iu:cD:=⟨.seq (.ops [.cq 2 40 (T 0),.cq 3 40 (T 1),.bQ 4 40,.bQ 5 40])
 (.seq (.ops [.a7 none 14 40 2 1 2 1,.aE none 15 34 14 2 1,.xs [bt 16 34 (T 15),ms 17 34 (T 16) (T 16),eP 18 34 0 [],ah 6 (T 17),ah 7 (T 18)]])
 (.seq (.seq (.ops [.a7 none 19 40 2 1 2 1,.aE none 20 34 19 2 1,.xs [bt 21 34 (T 20),bi 22 .sub 3 (T 21) (ai 1),ah 8 (T 22)]])
 (.block 0 (.loop 295147905179344441216 0 (.seq (.seq (.ops [.xs [I 23 (T 8),bi 24 .geq 3 (T 23) (ai 0)]])
 (.cond (T 24) (.skip)
 (.exit 0)))
 (.seq (.block 1 (.seq (.ops [.a7 none 27 40 2 1 2 1,.aE none 28 34 27 2 1,
  .xs [I 29 (T 8),bg 30 34 (T 28) (T 29),aE 31 3 (T 30),eP 32 34 1 [(0,T 31)],I 33 (T 7),ap 34 34 34 (T 32) (T 33),dF 35 40 [(1,T 34)],aR 36 72 [T 35],nk 37 40 (T 36) 1,ah 7 (T 37)]])
 (.seq (.ops [.xs [ah 9 (ai 0),ah 10 (ai 10000)]])
 (.seq (.block 2 (.loop 36028522141060608 0 (.seq (.seq (.ops [.xs [I 38 (T 10),I 39 (T 9),bi 40 .sub 3 (T 38) (T 39),bi 41 .gtr 3 (T 40) (ai 1)]])
 (.cond (T 41) (.skip)
 (.exit 2)))
 (.block 3 (.seq (.ops [.xs [I 42 (T 9),I 43 (T 10),bi 44 .add 3 (T 42) (T 43),bi 45 .quo 3 (T 44) (ai 2),ah 11 (T 45)]])
 (.seq (.ops [.a7 none 46 40 3 1 3 1,.aE none 47 34 46 3 1,
  .xs [I 48 (T 11),aR 49 97 [T 47,T 48],I 50 (T 7),aR 51 83 [T 49,T 50],bi 52 .leq 3 (T 51) (ai 0)]])
 (.cond (T 52) (.ops [.xs [I 53 (T 11),ah 9 (T 53)]])
 (.ops [.xs [I 54 (T 11),ah 10 (T 54)]]))))))))
 (.seq (.ops [.xs [I 55 (T 6),I 56 (T 8),I 57 (T 9),bg 58 34 (T 55) (T 56),st 3 (T 58) (T 57)]])
 (.ops [.xs [I 59 (T 7)],.a7 none 60 40 3 1 3 1,.aE none 61 34 60 3 1,
  .xs [I 62 (T 9),aR 63 97 [T 61,T 62],aR 64 84 [T 59,T 63],dF 65 40 [(1,T 64)],aR 66 72 [T 65],nk 67 40 (T 66) 1,ah 7 (T 67)]]))))))
 (.ops [.xs [I 25 (T 8),bi 26 .sub 3 (T 25) (ai 1),ah 8 (T 26)]]))))))
 (.seq (.ops [.a7 none 68 40 2 0 2 0,.aE none 69 4 68 2 0,
  .xs [I 70 (T 6),dF 71 40 [(0,T 69),(1,T 70)],aR 72 72 [T 71],I 73 (T 7),dF 74 40 [(1,T 73)],aR 75 72 [T 74]],.bQ 12 40,
  .bQ 13 40,.bX true none 40 12 (T 72) 12,.bX true none 40 13 (T 75) 13])
 (.seq (.seq (.box 19267255250108152471879680 0 (.ops [.a7 none 76 40 2 0 2 0,.aE none 77 4 76 2 0,.xs [I 78 (T 77)],.a7 (some (78,true)) 79 40 13 1 13 1,.aE (some (78,true)) 80 34 79 13 1,
  .xs [aN 78 true (bt 81 34 (T 80)),aN 78 true (bi 82 .gtr 3 (T 81) (ai 0)),cG 83 (T 78) (T 82) (C (.bool false))]]))
 (.cond (T 83) (.seq (.ops [.bT none 84 40 12 12,.xs [bh (aR 85 46 [ai 1]),bh (aR 86 71 [T 84,T 85])],.bT none 87 40 3 3,.bT none 88 40 13 13,
  .xs [aR 89 71 [T 87,T 88]],.bX true none 40 4 (T 86) 4,.bX true none 40 5 (T 89) 5])
 (.ret))
 (.skip)))
 (.seq (.opsL [.bT none 90 40 12 12,.bT none 91 40 13 13,.bX false none 40 4 (T 90) 4,.bX true none 40 5 (T 91) 5])
 (.ret)))))),[.cell 4 40,.cell 5 40]⟩
def IE:cD:=⟨.seq (.ops [.cq 2 40 (T 0),.cq 3 40 (T 1),.bQ 4 40])
 (.seq (.ops [.bT none 5 40 2 2,.bT none 6 40 3 3,.xs [bh (aR 7 81 [T 6]),aR 8 56 [T 5,T 7]],.bX true none 40 4 (T 8) 4])
 (.ret)),[.cell 4 40]⟩
def IJ:cD:=⟨.seq (.ops [.cq 1 40 (T 0),.bQ 2 40])
 (.seq (.ops [.a7 none 4 40 1 1 1 1,.aE none 5 34 4 1 1,.xs [bt 6 34 (T 5),ah 3 (T 6)]])
 (.seq (.block 0 (.loop 1048456 0 (.seq (.seq (.box 262016 0 (.ops [.xs [I 7 (T 3),bi 8 .gtr 3 (T 7) (ai 0),I 9 (T 8)],.a7 (some (9,true)) 10 40 1 1 1 1,.aE (some (9,true)) 11 34 10 1 1,
  .xs [aN 9 true (I 12 (T 3)),aN 9 true (bi 13 .sub 3 (T 12) (ai 1)),aN 9 true (bg 14 34 (T 11) (T 13)),aN 9 true (aE 15 3 (T 14)),aN 9 true (bi 16 .eql 3 (T 15) (ai 0)),cG 17 (T 9) (T 16) (C (.bool false))]]))
 (.cond (T 17) (.skip)
 (.exit 0)))
 (.block 1 (.ops [.xs [I 18 (T 3),bi 19 .sub 3 (T 18) (ai 1),ah 3 (T 19)]])))))
 (.seq (.ops [.xs [eP 20 34 0 []],.a7 none 21 40 1 1 1 1,.aE none 22 34 21 1 1,
  .xs [I 23 (T 3),fh 24 34 (T 22) none (some (T 23)) none,ap 25 34 34 (T 20) (T 24)],.a7 none 26 40 1 1 1 1,.st true none 34 26 (T 25) 1 1])
 (.seq (.box 17045651456 2 (.ops [.a7 none 27 40 1 0 1 0,.aE none 28 4 27 1 0,
  .xs [I 29 (T 28),aN 29 true (I 30 (T 3)),aN 29 true (bi 31 .gtr 3 (T 30) (ai 0)),cG 32 (T 29) (T 31) (C (.bool false))],
  .a7 none 33 40 1 0 1 0,.st true none 4 33 (T 32) 1 0]))
 (.seq (.ops [.bT none 34 40 1 1,.bX true none 40 2 (T 34) 2])
 (.ret)))))),[.cell 2 40]⟩
def JA:cD:=⟨.seq (.ops [.xs [ah 4 (C (.slice none 0 0))]])
 (.seq (.box 3584 0 (.seq (.ops [.xs [I 9 (T 1),bi 10 .lss 3 (T 9) (ai 0)]])
 (.cond (T 10) (.ops [.xs [m3 11 9 (C (.string {data:= #[99,97,110,110,111,116,32,98,101,32,110,101,103,97,116,105,118,101]})),(⟨true,none,none,.panic (T 11)⟩)]])
 (.skip))))
 (.seq (.ops [.xs [I 13 (T 0),bt 14 22 (T 13),cg 15 3 142 (T 14),I 16 (T 1),cg 17 3 142 (T 16),aR 18 89 [T 15,T 17],I 12 (T 18),ex 19 (T 12) 0,ex 20 (T 12) 1,ah 5 (T 19),ah 6 (T 20)]])
 (.seq (.box 266338304 0 (.seq (.box 132120576 0 (.ops [.xs [I 21 (T 5),bi 22 .gtr 142 (T 21) (C (.int .u64 0)),I 23 (T 22),aN 23 false (I 24 (T 6)),aN 23 false ((bi 25 .gtr 142 (T 24) (C (.int .u64 9223372036854775807)))),cG 26 (T 23) (C (.bool true)) (T 25)]]))
 (.cond (T 26) (.ops [.xs [m3 27 9 (C (.string {data:= #[116,104,101,32,114,101,115,117,108,116,32,111,102,32,40,108,101,110,40,120,41,32,42,32,99,111,117,110,116,41,32,111,118,101,114,102,108,111,119,115]})),(⟨true,none,none,.panic (T 27)⟩)]])
 (.skip))))
 (.seq (.ops [.xs [I 28 (T 6),cg 29 142 3 (T 28),ms 30 22 (T 29) (T 29),ah 7 (T 30)]])
 (.seq (.ops [.xs [I 31 (T 7),I 32 (T 0),cp 33 22 22 (T 31) (T 32),ah 8 (T 33)]])
 (.seq (.block 0 (.loop 140720308486400 0 (.seq (.seq (.ops [.xs [I 34 (T 8),I 35 (T 7),bt 36 22 (T 35),bi 37 .lss 3 (T 34) (T 36)]])
 (.cond (T 37) (.skip)
 (.exit 0)))
 (.block 1 (.ops [.xs [I 38 (T 8),I 39 (T 7),I 40 (T 8),bh (fh 41 22 (T 39) (some (T 40)) none none),I 42 (T 7),I 43 (T 8),bh (fh 44 22 (T 42) none (some (T 43)) none),cp 45 22 22 (T 41) (T 44),bi 46 .add 3 (T 38) (T 45),ah 8 (T 46)]])))))
 (.seq (.ops [.xs [I 47 (T 7),ah 4 (T 47)]])
 (.ret)))))))),[.tmp 4]⟩
def I2:cD:=⟨.seq (.ops [.bQ 2 80,.xs [ah 3 (C (.bool false))]])
 (.seq (.ops [.xs [I 15 (T 0),aR 16 98 [T 15,C (.string {data:= #[47]})],I 14 (T 16),ex 17 (T 14) 0,ex 18 (T 14) 1,ex 19 (T 14) 2,ah 4 (T 17),ah 5 (T 18),ah 6 (T 19)]])
 (.seq (.ops [.xs [I 21 (T 4),aR 22 99 [T 21,C (.string {data:= #[45]})],I 20 (T 22),ex 23 (T 20) 0,ex 24 (T 20) 1,ah 7 (T 23),ah 8 (T 24)]])
 (.seq (.ops [.xs [I 26 (T 7),aR 27 100 [T 26],I 25 (T 27),ex 28 (T 25) 0,ex 29 (T 25) 1,ah 9 (T 28),ah 10 (T 29)]])
 (.seq (.ops [.xs [eP 30 76 1 [(0,C (.int .u32 1))],ah 11 (T 30),ah 12 (C (.bool true))]])
 (.seq (.box 17590038566912 0 (.seq (.ops [.xs [I 31 (T 6)]])
 (.cond (T 31) (.seq (.ops [.xs [I 33 (T 5),aR 34 100 [T 33],I 32 (T 34),ex 35 (T 32) 0,ex 36 (T 32) 1,ah 11 (T 35),ah 12 (T 36)]])
 (.ops [.xs [I 37 (T 12),I 38 (T 37),aN 38 true (I 39 (T 11)),aN 38 true ((eP 40 76 1 [(0,C (.int .u32 1))])),aN 38 true (aR 41 101 [T 39,T 40]),aN 38 true (bi 42 .gtr 3 (T 41) (ai 0)),cG 43 (T 38) (T 42) (C (.bool false)),ah 12 (T 43)]]))
 (.skip))))
 (.seq (.seq (.box 288212783965667328 0 (.ops [.xs [I 44 (T 10),un 45 .not (T 44),I 46 (T 45),aN 46 false (I 47 (T 12)),aN 46 false (un 48 .not (T 47)),cG 49 (T 46) (C (.bool true)) (T 48),I 50 (T 49),aN 50 false (I 51 (T 8)),aN 50 false (I 52 (T 51)),aN 52 true (I 53 (T 9)),aN 52 true (bt 54 76 (T 53)),aN 52 true (bi 55 .eql 3 (T 54) (ai 0)),aN 50 false ((cG 56 (T 52) (T 55) (C (.bool false)))),cG 57 (T 50) (C (.bool true)) (T 56)]]))
 (.cond (T 57) (.seq (.ops [.xs [dF 58 80 []],.bX true none 80 2 (T 58) 2,.xs [ah 3 (C (.bool false))]])
 (.ret))
 (.skip)))
 (.seq (.ops [.xs [I 59 (T 8),I 60 (T 9),aR 61 92 [T 59,T 60],I 62 (T 11),aR 63 92 [C (.bool false),T 62],dF 64 80 [(0,T 61),(1,T 63)]],
  .bQ 13 80,.bX true none 80 13 (T 64) 13])
 (.seq (.box 302194561415509874573320 4 (.ops [.bT none 65 80 13 13,.xs [I 66 (T 6),un 67 .not (T 66),I 68 (T 67)],.a7 (some (68,false)) 69 80 13 0 13 0,
  .aE (some (68,false)) 70 78 69 13 0,.a7 (some (68,false)) 71 80 13 1 13 2,.aE (some (68,false)) 72 78 71 13 2,
  .xs [aN 68 false (bh (aR 73 102 [T 70,T 72])),aN 68 false (bh (aR 74 88 [ai 1])),aN 68 false (bh (aR 75 67 [T 73,T 74])),aN 68 false (bi 76 .eql 3 (T 75) (ai 0)),cG 77 (T 68) (C (.bool true)) (T 76)],
  .bX true none 80 2 (T 65) 2,.xs [ah 3 (T 77)]]))
 (.ret))))))))),[.cell 2 80,.tmp 3]⟩
def Jy:cD:=⟨.seq (.ops [.xs [ah 4 (C (.bool false))]])
 (.seq (.ops [.xs [I 5 (T 0),I 6 (T 1),aR 7 103 [T 5,T 6],bi 8 .geq 3 (T 7) (ai 0),ah 4 (T 8)]])
 (.ret)),[.tmp 4]⟩
def I3:cD:=⟨.seq (.ops [.cq 2 80 (T 0),.cq 3 80 (T 1),.bQ 4 80])
 (.seq (.seq (.box 2016 0 (.ops [.bT none 5 80 2 2,.xs [aR 6 79 [T 5],I 7 (T 6)],.bT (some (7,true)) 8 80 3 3,
  .xs [aN 7 true (aR 9 79 [T 8]),cG 10 (T 7) (T 9) (C (.bool false))]]))
 (.cond (T 10) (.seq (.ops [.a7 none 11 80 2 0 2 0,.aE none 12 78 11 2 0,.a7 none 13 80 3 0 3 0,.aE none 14 78 13 3 0,.xs [aR 15 105 [T 12,T 14],aR 16 104 [T 15]],
  .bX true none 80 4 (T 16) 4])
 (.ret))
 (.skip)))
 (.seq (.ops [.a7 none 17 80 2 0 2 0,.aE none 18 78 17 2 0,.a7 none 19 80 3 1 3 2,.aE none 20 78 19 3 2,.xs [bh (aR 21 66 [T 18,T 20])],
  .a7 none 22 80 3 0 3 0,.aE none 23 78 22 3 0,.a7 none 24 80 2 1 2 2,.aE none 25 78 24 2 2,
  .xs [bh (aR 26 66 [T 23,T 25]),bh (aR 27 105 [T 21,T 26])],.a7 none 28 80 2 1 2 2,.aE none 29 78 28 2 2,.a7 none 30 80 3 1 3 2,
  .aE none 31 78 30 3 2,.xs [aR 32 66 [T 29,T 31],aR 33 106 [T 27,T 32]],.bX true none 80 4 (T 33) 4])
 (.ret))),[.cell 4 80]⟩
def Jc:cD:=⟨.seq (.ops [.xs [ah 2 (C (.string {data:= #[]}))]])
 (.seq (.seq (.ops [.xs [I 7 (T 0),bt 8 76 (T 7),bi 9 .eql 3 (T 8) (ai 0)]])
 (.cond (T 9) (.seq (.ops [.xs [ah 2 (C (.string {data:= #[48]}))]])
 (.ret))
 (.skip)))
 (.seq (.ops [.xs [ah 3 (C (.slice none 0 0))]])
 (.seq (.block 0 (.loop 2199023254649 0 (.seq (.seq (.ops [.xs [I 10 (T 0),bt 11 76 (T 10),bi 12 .gtr 3 (T 11) (ai 0)]])
 (.cond (T 12) (.skip)
 (.exit 0)))
 (.block 1 (.seq (.ops [.xs [I 14 (T 0),aR 15 107 [T 14,C (.int .u32 1000000000)],I 13 (T 15),ex 16 (T 13) 0,ex 17 (T 13) 1,ah 4 (T 16),ah 5 (T 17)]])
 (.seq (.seq (.ops [.xs [ah 6 (ai 0)]])
 (.block 2 (.loop 1099511365736 0 (.seq (.seq (.box 536608768 0 (.ops [.xs [I 18 (T 6),bi 19 .lss 3 (T 18) (ai 9),I 20 (T 19),aN 20 true (I 21 (T 4)),aN 20 true (bt 22 76 (T 21)),aN 20 true (bi 23 .gtr 3 (T 22) (ai 0)),aN 20 true (I 24 (T 23)),aN 24 false (I 25 (T 5)),aN 24 false ((bi 26 .gtr 124 (T 25) (C (.int .u32 0)))),aN 20 true ((cG 27 (T 24) (C (.bool true)) (T 26))),cG 28 (T 20) (T 27) (C (.bool false))]]))
 (.cond (T 28) (.skip)
 (.exit 2)))
 (.seq (.block 3 (.seq (.ops [.xs [I 31 (T 3),I 32 (T 5),bi 33 .rem 124 (T 32) (C (.int .u32 10)),bi 34 .add 124 (C (.int .u32 48)) (T 33),cg 35 124 5 (T 34),eP 36 61 1 [(0,T 35)],ap 37 61 61 (T 31) (T 36),ah 3 (T 37)]])
 (.ops [.xs [I 38 (T 5),bi 39 .quo 124 (T 38) (C (.int .u32 10)),ah 5 (T 39)]])))
 (.ops [.xs [I 29 (T 6),bi 30 .add 3 (T 29) (ai 1),ah 6 (T 30)]]))))))
 (.ops [.xs [I 40 (T 4),ah 0 (T 40)]])))))))
 (.seq (.ops [.xs [I 41 (T 3),aR 42 108 [T 41]]])
 (.seq (.ops [.xs [I 43 (T 3),cg 44 61 9 (T 43),ah 2 (T 44)]])
 (.ret)))))),[.tmp 2]⟩
def IH:cD:=⟨.seq (.ops [.bQ 2 40,.xs [ah 3 (C (.bool false))]])
 (.seq (.seq (.box 67108608 0 (.ops [.xs [I 8 (T 0),bt 9 9 (T 8),bi 10 .lss 3 (T 9) (ai 1),I 11 (T 10),aN 11 false (I 12 (T 0)),aN 11 false (bt 13 9 (T 12)),aN 11 false (bi 14 .gtr 3 (T 13) (ai 4000)),cG 15 (T 11) (C (.bool true)) (T 14),I 16 (T 15),aN 16 false (I 17 (T 0)),aN 16 false (ew 18 9 (T 17) (ai 0)),aN 16 false ((bi 19 .eql 5 (T 18) (C (.int .u8 48)))),aN 16 false (I 20 (T 19)),aN 20 true (I 21 (T 0)),aN 20 true (bt 22 9 (T 21)),aN 20 true (bi 23 .gtr 3 (T 22) (ai 1)),aN 16 false ((cG 24 (T 20) (T 23) (C (.bool false)))),cG 25 (T 16) (C (.bool true)) (T 24)]]))
 (.cond (T 25) (.seq (.ops [.xs [dF 26 40 []],.bX true none 40 2 (T 26) 2,.xs [ah 3 (C (.bool false))]])
 (.ret))
 (.skip)))
 (.seq (.ops [.xs [dF 27 40 []],.bQ 4 40,.bX true none 40 4 (T 27) 4])
 (.seq (.seq (.ops [.xs [I 28 (T 0),bt 29 9 (T 28),ah 5 (T 29)]])
 (.block 0 (.loop 147573952588602671336 20 (.seq (.seq (.ops [.xs [I 30 (T 5),bi 31 .gtr 3 (T 30) (ai 0)]])
 (.cond (T 31) (.skip)
 (.exit 0)))
 (.seq (.block 1 (.seq (.ops [.xs [ah 6 (ai 0)]])
 (.seq (.seq (.ops [.xs [I 34 (T 5),bi 35 .sub 3 (T 34) (ai 4),r8 36 [3,3] (ai 0) (T 35),ah 7 (T 36)]])
 (.block 2 (.loop 2305842871774740680 4 (.seq (.seq (.ops [.xs [I 37 (T 7),I 38 (T 5),bi 39 .lss 3 (T 37) (T 38)]])
 (.cond (T 39) (.skip)
 (.exit 2)))
 (.seq (.block 3 (.seq (.seq (.box 4499201580859392 0 (.ops [.xs [I 42 (T 0),I 43 (T 7),ew 44 9 (T 42) (T 43),bi 45 .lss 5 (T 44) (C (.int .u8 48)),I 46 (T 45),aN 46 false (I 47 (T 0)),aN 46 false (I 48 (T 7)),aN 46 false (ew 49 9 (T 47) (T 48)),aN 46 false ((bi 50 .gtr 5 (T 49) (C (.int .u8 57)))),cG 51 (T 46) (C (.bool true)) (T 50)]]))
 (.cond (T 51) (.seq (.ops [.xs [dF 52 40 []],.bX true none 40 2 (T 52) 2,.xs [ah 3 (C (.bool false))]])
 (.ret))
 (.skip)))
 (.ops [.xs [I 53 (T 6),bi 54 .mul 3 (ai 10) (T 53),I 55 (T 0),I 56 (T 7),ew 57 9 (T 55) (T 56),bi 58 .sub 5 (T 57) (C (.int .u8 48)),cg 59 5 3 (T 58),bi 60 .add 3 (T 54) (T 59),ah 6 (T 60)]])))
 (.ops [.xs [I 40 (T 7),bi 41 .add 3 (T 40) (ai 1),ah 7 (T 41)]]))))))
 (.ops [.a7 none 61 40 4 1 4 1,.aE none 62 34 61 4 1,.xs [I 63 (T 6),eP 64 34 1 [(0,T 63)],ap 65 34 34 (T 62) (T 64)],.a7 none 66 40 4 1 4 1,
  .st true none 34 66 (T 65) 4 1]))))
 (.ops [.xs [I 32 (T 5),bi 33 .sub 3 (T 32) (ai 4),ah 5 (T 33)]]))))))
 (.seq (.ops [.bT none 67 40 4 4,.xs [aR 68 72 [T 67]],.bX true none 40 2 (T 68) 2,.xs [ah 3 (C (.bool true))]])
 (.ret))))),[.cell 2 40,.tmp 3]⟩
def Iz:cD:=⟨.seq (.ops [.cq 1 40 (T 0),.bQ 2 40])
 (.seq (.box 8184 2 (.ops [.a7 none 3 40 1 0 1 0,.aE none 4 4 3 1 0,.xs [un 5 .not (T 4),I 6 (T 5)],.a7 (some (6,true)) 7 40 1 1 1 1,.aE (some (6,true)) 8 34 7 1 1,
  .xs [aN 6 true (bt 9 34 (T 8)),aN 6 true (bi 10 .gtr 3 (T 9) (ai 0)),cG 11 (T 6) (T 10) (C (.bool false))],.a7 none 12 40 1 0 1 0,
  .st true none 4 12 (T 11) 1 0]))
 (.seq (.ops [.bT none 13 40 1 1,.bX true none 40 2 (T 13) 2])
 (.ret))),[.cell 2 40]⟩
def IL:cD:=⟨.seq (.ops [.xs [ah 4 (C (.slice none 0 0))]])
 (.seq (.ops [.xs [eP 9 34 0 [],ah 5 (T 9),ah 6 (ai 0)]])
 (.seq (.seq (.ops [.xs [ah 7 (ai 0)]])
 (.block 0 (.loop 18014398509481440 0 (.seq (.seq (.box 16776192 0 (.ops [.xs [I 10 (T 7),I 11 (T 0),bt 12 34 (T 11),bi 13 .lss 3 (T 10) (T 12),I 14 (T 13),aN 14 false (I 15 (T 7)),aN 14 false (I 16 (T 1)),aN 14 false (bt 17 34 (T 16)),aN 14 false (bi 18 .lss 3 (T 15) (T 17)),cG 19 (T 14) (C (.bool true)) (T 18),I 20 (T 19),aN 20 false (I 21 (T 6)),aN 20 false (bi 22 .gtr 3 (T 21) (ai 0)),cG 23 (T 20) (C (.bool true)) (T 22)]]))
 (.cond (T 23) (.skip)
 (.exit 0)))
 (.seq (.block 1 (.seq (.ops [.xs [I 26 (T 6),ah 8 (T 26)]])
 (.seq (.box 137304736000 0 (.seq (.ops [.xs [I 27 (T 7),I 28 (T 0),bt 29 34 (T 28),bi 30 .lss 3 (T 27) (T 29)]])
 (.cond (T 30) (.ops [.xs [I 31 (T 8),I 32 (T 0),I 33 (T 7),bg 34 34 (T 32) (T 33),aE 35 3 (T 34),bi 36 .add 3 (T 31) (T 35),ah 8 (T 36)]])
 (.skip))))
 (.seq (.box 140600049402112 0 (.seq (.ops [.xs [I 37 (T 7),I 38 (T 1),bt 39 34 (T 38),bi 40 .lss 3 (T 37) (T 39)]])
 (.cond (T 40) (.ops [.xs [I 41 (T 8),I 42 (T 1),I 43 (T 7),bg 44 34 (T 42) (T 43),aE 45 3 (T 44),bi 46 .add 3 (T 41) (T 45),ah 8 (T 46)]])
 (.skip))))
 (.ops [.xs [I 47 (T 5),I 48 (T 8),bi 49 .rem 3 (T 48) (ai 10000),eP 50 34 1 [(0,T 49)],ap 51 34 34 (T 47) (T 50),I 52 (T 8),bi 53 .quo 3 (T 52) (ai 10000),ah 5 (T 51),ah 6 (T 53)]])))))
 (.ops [.xs [I 24 (T 7),bi 25 .add 3 (T 24) (ai 1),ah 7 (T 25)]]))))))
 (.seq (.ops [.xs [I 54 (T 5),ah 4 (T 54)]])
 (.ret)))),[.tmp 4]⟩
def IM:cD:=⟨.seq (.ops [.xs [ah 4 (ai 0)]])
 (.seq (.seq (.ops [.xs [I 6 (T 0),bt 7 34 (T 6),I 8 (T 1),bt 9 34 (T 8),bi 10 .neq 3 (T 7) (T 9)]])
 (.cond (T 10) (.seq (.seq (.ops [.xs [I 11 (T 0),bt 12 34 (T 11),I 13 (T 1),bt 14 34 (T 13),bi 15 .lss 3 (T 12) (T 14)]])
 (.cond (T 15) (.seq (.ops [.xs [ah 4 (ai (-1))]])
 (.ret))
 (.skip)))
 (.seq (.ops [.xs [ah 4 (ai 1)]])
 (.ret)))
 (.skip)))
 (.seq (.seq (.ops [.xs [I 16 (T 0),bt 17 34 (T 16),bi 18 .sub 3 (T 17) (ai 1),ah 5 (T 18)]])
 (.block 0 (.loop 2199022731312 0 (.seq (.seq (.ops [.xs [I 19 (T 5),bi 20 .geq 3 (T 19) (ai 0)]])
 (.cond (T 20) (.skip)
 (.exit 0)))
 (.seq (.block 1 (.seq (.seq (.ops [.xs [I 23 (T 0),I 24 (T 5),bg 25 34 (T 23) (T 24),aE 26 3 (T 25),I 27 (T 1),I 28 (T 5),bg 29 34 (T 27) (T 28),aE 30 3 (T 29),bi 31 .lss 3 (T 26) (T 30)]])
 (.cond (T 31) (.seq (.ops [.xs [ah 4 (ai (-1))]])
 (.ret))
 (.skip)))
 (.seq (.ops [.xs [I 32 (T 0),I 33 (T 5),bg 34 34 (T 32) (T 33),aE 35 3 (T 34),I 36 (T 1),I 37 (T 5),bg 38 34 (T 36) (T 37),aE 39 3 (T 38),bi 40 .gtr 3 (T 35) (T 39)]])
 (.cond (T 40) (.seq (.ops [.xs [ah 4 (ai 1)]])
 (.ret))
 (.skip)))))
 (.ops [.xs [I 21 (T 5),bi 22 .sub 3 (T 21) (ai 1),ah 5 (T 22)]]))))))
 (.seq (.ops [.xs [ah 4 (ai 0)]])
 (.ret)))),[.tmp 4]⟩
def IK:cD:=⟨.seq (.ops [.xs [ah 4 (C (.slice none 0 0))]])
 (.seq (.ops [.xs [eP 9 34 0 [],ah 5 (T 9),ah 6 (ai 0)]])
 (.seq (.seq (.ops [.xs [ah 7 (ai 0)]])
 (.block 0 (.loop 1099511627232 0 (.seq (.seq (.ops [.xs [I 10 (T 7),I 11 (T 0),bt 12 34 (T 11),bi 13 .lss 3 (T 10) (T 12)]])
 (.cond (T 13) (.skip)
 (.exit 0)))
 (.seq (.block 1 (.seq (.ops [.xs [I 16 (T 0),I 17 (T 7),bg 18 34 (T 16) (T 17),aE 19 3 (T 18),I 20 (T 6),bi 21 .sub 3 (T 19) (T 20),ah 8 (T 21)]])
 (.seq (.box 4290773248 0 (.seq (.ops [.xs [I 22 (T 7),I 23 (T 1),bt 24 34 (T 23),bi 25 .lss 3 (T 22) (T 24)]])
 (.cond (T 25) (.ops [.xs [I 26 (T 8),I 27 (T 1),I 28 (T 7),bg 29 34 (T 27) (T 28),aE 30 3 (T 29),bi 31 .sub 3 (T 26) (T 30),ah 8 (T 31)]])
 (.skip))))
 (.seq (.ops [.xs [ah 6 (ai 0)]])
 (.seq (.box 64424509760 0 (.seq (.ops [.xs [I 32 (T 8),bi 33 .lss 3 (T 32) (ai 0)]])
 (.cond (T 33) (.ops [.xs [I 34 (T 8),bi 35 .add 3 (T 34) (ai 10000),ah 8 (T 35),ah 6 (ai 1)]])
 (.skip))))
 (.ops [.xs [I 36 (T 5),I 37 (T 8),eP 38 34 1 [(0,T 37)],ap 39 34 34 (T 36) (T 38),ah 5 (T 39)]]))))))
 (.ops [.xs [I 14 (T 7),bi 15 .add 3 (T 14) (ai 1),ah 7 (T 15)]]))))))
 (.seq (.ops [.xs [I 40 (T 5),ah 4 (T 40)]])
 (.ret)))),[.tmp 4]⟩
def Jx:cD:=⟨.seq (.ops [.xs [ah 2 (C (.slice none 0 0))]])
 (.seq (.seq (.ops [.xs [I 3 (T 0),bi 4 .eql 120 (T 3) (C (.slice none 0 0))]])
 (.cond (T 4) (.seq (.ops [.xs [ah 2 (C (.slice none 0 0))]])
 (.ret))
 (.skip)))
 (.seq (.ops [.xs [eP 5 120 0 [],I 6 (T 0),ap 7 120 120 (T 5) (T 6),ah 2 (T 7)]])
 (.ret))),[.tmp 2]⟩
def Jo:cD:=⟨.seq (.ops [.xs [ah 4 (C (.bool false))]])
 (.seq (.seq (.ops [.xs [I 6 (T 0),jh 7 (T 6),a7 8 140 (T 7) 0,aE 9 74 (T 8),aR 10 49 [T 9],I 11 (ai 0)]])
 (.block 0 (.loop 590295810358705649712 0 (.seq (.ops [.xs [bi 12 .lss 3 (T 11) (T 10)]])
 (.seq (.cond (T 12) (.skip)
 (.exit 0))
 (.seq (.box 295147905179352817712 0 (.block 1 (.seq (.ops [.xs [I 13 (T 11),ah 5 (T 13)]])
 (.seq (.seq (.box 68719460352 0 (.ops [.xs [I 14 (T 0),jh 15 (T 14),a7 16 140 (T 15) 2,aE 17 115 (T 16),I 18 (T 5),bg 19 115 (T 17) (T 18),aE 20 4 (T 19),I 21 (T 20),aN 21 false (I 22 (T 0)),aN 21 false (jh 23 (T 22)),aN 21 false (a7 24 140 (T 23) 0),aN 21 false (a7 25 74 (T 24) 0),aN 21 false (aE 26 72 (T 25)),aN 21 false (I 27 (T 1)),aN 21 false (bg 28 72 (T 26) (T 27)),aN 21 false (aE 29 120 (T 28)),aN 21 false (I 30 (T 5)),aN 21 false (bg 31 120 (T 29) (T 30)),aN 21 false (aE 32 80 (T 31)),aN 21 false (aR 33 75 [T 32]),aN 21 false (bi 34 .leq 3 (T 33) (ai 0)),cG 35 (T 21) (C (.bool true)) (T 34)]]))
 (.cond (T 35) (.exit 1)
 (.skip)))
 (.seq (.ops [.xs [I 36 (T 0),jh 37 (T 36),a7 38 140 (T 37) 2,aE 39 115 (T 38),I 40 (T 5),bg 41 115 (T 39) (T 40),st 4 (T 41) (C (.bool true))]])
 (.seq (.box 2305838611167182848 0 (.ops [.xs [I 42 (T 0),jh 43 (T 42),a7 44 140 (T 43) 1,aE 45 34 (T 44),I 46 (T 5),bg 47 34 (T 45) (T 46),aE 48 3 (T 47),bi 49 .lss 3 (T 48) (ai 0),I 50 (T 49),aN 50 false (I 51 (T 0)),aN 50 false (I 52 (T 0)),aN 50 false (jh 53 (T 52)),aN 50 false (a7 54 140 (T 53) 1),aN 50 false (aE 55 34 (T 54)),aN 50 false (I 56 (T 5)),aN 50 false (bg 57 34 (T 55) (T 56)),aN 50 false (aE 58 3 (T 57)),aN 50 false (aR 59 86 [T 51,T 58]),cG 60 (T 50) (C (.bool true)) (T 59)]]))
 (.cond (T 60) (.seq (.ops [.xs [I 61 (T 0),jh 62 (T 61),a7 63 140 (T 62) 1,aE 64 34 (T 63),I 65 (T 5),I 66 (T 1),bg 67 34 (T 64) (T 65),st 3 (T 67) (T 66)]])
 (.seq (.ops [.xs [ah 4 (C (.bool true))]])
 (.ret)))
 (.skip))))))))
 (.ops [.xs [bi 68 .add 3 (T 11) (ai 1),I 11 (T 68)]])))))))
 (.seq (.ops [.xs [ah 4 (C (.bool false))]])
 (.ret))),[.tmp 4]⟩
def I7:cD:=⟨.seq (.ops [.cq 2 80 (T 0),.cq 3 80 (T 1),.bQ 4 80])
 (.seq (.ops [.bT none 5 80 2 2,.bT none 6 80 3 3,.xs [bh (aR 7 109 [T 6]),aR 8 77 [T 5,T 7]],.bX true none 80 4 (T 8) 4])
 (.ret)),[.cell 4 80]⟩
def IS:cD:=⟨.seq (.ops [.xs [ah 4 (C (.int .u64 0)),ah 5 (C (.int .u64 0))]])
 (.seq (.cond (C (.bool false)) (.seq (.ops [.xs [I 11 (T 0),cg 12 142 124 (T 11),I 13 (T 1),cg 14 142 124 (T 13),aR 15 111 [T 12,T 14],I 10 (T 15),ex 16 (T 10) 0,ex 17 (T 10) 1,ah 6 (T 16),ah 7 (T 17)]])
 (.seq (.ops [.xs [I 18 (T 6),cg 19 124 142 (T 18),I 20 (T 7),cg 21 124 142 (T 20),ah 4 (T 19),ah 5 (T 21)]])
 (.ret)))
 (.skip))
 (.seq (.ops [.xs [I 23 (T 0),I 24 (T 1),aR 25 112 [T 23,T 24],I 22 (T 25),ex 26 (T 22) 0,ex 27 (T 22) 1,ah 8 (T 26),ah 9 (T 27)]])
 (.seq (.ops [.xs [I 28 (T 8),I 29 (T 9),ah 4 (T 28),ah 5 (T 29)]])
 (.ret)))),[.tmp 4,.tmp 5]⟩
def JC:cD:=⟨.seq (.ops [.xs [ah 4 (C (.slice none 0 0))]])
 (.seq (.box 3584 0 (.seq (.ops [.xs [I 9 (T 1),bi 10 .lss 3 (T 9) (ai 0)]])
 (.cond (T 10) (.ops [.xs [m3 11 9 (C (.string {data:= #[99,97,110,110,111,116,32,98,101,32,110,101,103,97,116,105,118,101]})),(⟨true,none,none,.panic (T 11)⟩)]])
 (.skip))))
 (.seq (.ops [.xs [I 13 (T 0),bt 14 120 (T 13),cg 15 3 142 (T 14),I 16 (T 1),cg 17 3 142 (T 16),aR 18 89 [T 15,T 17],I 12 (T 18),ex 19 (T 12) 0,ex 20 (T 12) 1,ah 5 (T 19),ah 6 (T 20)]])
 (.seq (.box 266338304 0 (.seq (.box 132120576 0 (.ops [.xs [I 21 (T 5),bi 22 .gtr 142 (T 21) (C (.int .u64 0)),I 23 (T 22),aN 23 false (I 24 (T 6)),aN 23 false ((bi 25 .gtr 142 (T 24) (C (.int .u64 9223372036854775807)))),cG 26 (T 23) (C (.bool true)) (T 25)]]))
 (.cond (T 26) (.ops [.xs [m3 27 9 (C (.string {data:= #[116,104,101,32,114,101,115,117,108,116,32,111,102,32,40,108,101,110,40,120,41,32,42,32,99,111,117,110,116,41,32,111,118,101,114,102,108,111,119,115]})),(⟨true,none,none,.panic (T 27)⟩)]])
 (.skip))))
 (.seq (.ops [.xs [I 28 (T 6),cg 29 142 3 (T 28),ms 30 120 (T 29) (T 29),ah 7 (T 30)]])
 (.seq (.ops [.xs [I 31 (T 7),I 32 (T 0),cp 33 120 120 (T 31) (T 32),ah 8 (T 33)]])
 (.seq (.block 0 (.loop 140720308486400 0 (.seq (.seq (.ops [.xs [I 34 (T 8),I 35 (T 7),bt 36 120 (T 35),bi 37 .lss 3 (T 34) (T 36)]])
 (.cond (T 37) (.skip)
 (.exit 0)))
 (.block 1 (.ops [.xs [I 38 (T 8),I 39 (T 7),I 40 (T 8),bh (fh 41 120 (T 39) (some (T 40)) none none),I 42 (T 7),I 43 (T 8),bh (fh 44 120 (T 42) none (some (T 43)) none),cp 45 120 120 (T 41) (T 44),bi 46 .add 3 (T 38) (T 45),ah 8 (T 46)]])))))
 (.seq (.ops [.xs [I 47 (T 7),ah 4 (T 47)]])
 (.ret)))))))),[.tmp 4]⟩
def IN:cD:=⟨.seq (.ops [.xs [ah 4 (C (.slice none 0 0))]])
 (.seq (.ops [.xs [I 5 (T 0),dF 6 40 [(1,T 5)],I 7 (T 1),aR 8 46 [T 7],aR 9 45 [T 6,T 8],aR 10 72 [T 9],nk 11 40 (T 10) 1,ah 4 (T 11)]])
 (.ret)),[.tmp 4]⟩
def JE:cD:=⟨.seq (.ops [.xs [ah 4 (C (.string {data:= #[]})),ah 5 (C (.string {data:= #[]})),ah 6 (C (.bool false))]])
 (.seq (.ops [.xs [I 7 (T 0),I 8 (T 1),aR 9 114 [T 7,T 8],ex 10 (T 9) 0,ex 11 (T 9) 1,ex 12 (T 9) 2,ah 4 (T 10),ah 5 (T 11),ah 6 (T 12)]])
 (.ret)),[.tmp 4,.tmp 5,.tmp 6]⟩
def JF:cD:=⟨.seq (.ops [.xs [ah 4 (C (.string {data:= #[]})),ah 5 (C (.bool false))]])
 (.seq (.ops [.xs [I 6 (T 0),I 7 (T 1),aR 8 115 [T 6,T 7],ex 9 (T 8) 0,ex 10 (T 8) 1,ah 4 (T 9),ah 5 (T 10)]])
 (.ret)),[.tmp 4,.tmp 5]⟩
def Jb:cD:=⟨.seq (.ops [.xs [ah 2 (C (.slice none 0 0)),ah 3 (C (.bool false))]])
 (.seq (.seq (.ops [.xs [I 10 (T 0),bt 11 9 (T 10),I 12 (ai 0)]])
 (.block 0 (.loop 67104796 0 (.seq (.ops [.xs [bi 13 .lss 3 (T 12) (T 11)]])
 (.seq (.cond (T 13) (.skip)
 (.exit 0))
 (.seq (.block 1 (.seq (.ops [.xs [I 14 (T 12),ah 4 (T 14)]])
 (.seq (.box 33521664 0 (.ops [.xs [I 15 (T 0),I 16 (T 4),ew 17 9 (T 15) (T 16),bi 18 .lss 5 (T 17) (C (.int .u8 48)),I 19 (T 18),aN 19 false (I 20 (T 0)),aN 19 false (I 21 (T 4)),aN 19 false (ew 22 9 (T 20) (T 21)),aN 19 false ((bi 23 .gtr 5 (T 22) (C (.int .u8 57)))),cG 24 (T 19) (C (.bool true)) (T 23)]]))
 (.cond (T 24) (.seq (.ops [.xs [ah 2 (C (.slice none 0 0)),ah 3 (C (.bool false))]])
 (.ret))
 (.skip)))))
 (.ops [.xs [bi 25 .add 3 (T 12) (ai 1),I 12 (T 25)]])))))))
 (.seq (.seq (.box 8796025913344 0 (.ops [.xs [I 26 (T 0),bi 27 .eql 9 (T 26) (C (.string {data:= #[]})),I 28 (T 27),aN 28 false (I 29 (T 0)),aN 28 false (ew 30 9 (T 29) (ai 0)),aN 28 false ((bi 31 .eql 5 (T 30) (C (.int .u8 48)))),aN 28 false (I 32 (T 31)),aN 32 true (I 33 (T 0)),aN 32 true (bt 34 9 (T 33)),aN 32 true (bi 35 .gtr 3 (T 34) (ai 1)),aN 28 false ((cG 36 (T 32) (T 35) (C (.bool false)))),cG 37 (T 28) (C (.bool true)) (T 36),I 38 (T 37),aN 38 false (I 39 (T 0)),aN 38 false (bt 40 9 (T 39)),aN 38 false (bi 41 .gtr 3 (T 40) (ai 4000)),cG 42 (T 38) (C (.bool true)) (T 41)]]))
 (.cond (T 42) (.seq (.ops [.xs [ah 2 (C (.slice none 0 0)),ah 3 (C (.bool false))]])
 (.ret))
 (.skip)))
 (.seq (.ops [.xs [ah 5 (C (.slice none 0 0))]])
 (.seq (.block 2 (.loop 75557863717118230397921 0 (.seq (.seq (.ops [.xs [I 43 (T 0),bi 44 .neq 9 (T 43) (C (.string {data:= #[]}))]])
 (.cond (T 44) (.skip)
 (.exit 2)))
 (.block 3 (.seq (.ops [.xs [I 45 (T 0),bt 46 9 (T 45),bi 47 .sub 3 (T 46) (ai 1),bi 48 .rem 3 (T 47) (ai 9),bi 49 .add 3 (T 48) (ai 1),ah 6 (T 49)]])
 (.seq (.ops [.xs [ah 7 (C (.int .u32 0)),ah 8 (C (.int .u32 1))]])
 (.seq (.seq (.ops [.xs [I 50 (T 6),I 51 (ai 0)]])
 (.block 4 (.loop 36891236347605418880 0 (.seq (.ops [.xs [bi 52 .lss 3 (T 51) (T 50)]])
 (.seq (.cond (T 52) (.skip)
 (.exit 4))
 (.seq (.block 5 (.seq (.ops [.xs [I 53 (T 51),ah 9 (T 53)]])
 (.ops [.xs [I 54 (T 7),bi 55 .mul 124 (C (.int .u32 10)) (T 54),I 56 (T 0),I 57 (T 9),ew 58 9 (T 56) (T 57),bi 59 .sub 5 (T 58) (C (.int .u8 48)),cg 60 5 124 (T 59),bi 61 .add 124 (T 55) (T 60),I 62 (T 8),bi 63 .mul 124 (C (.int .u32 10)) (T 62),ah 7 (T 61),ah 8 (T 63)]])))
 (.ops [.xs [bi 64 .add 3 (T 51) (ai 1),I 51 (T 64)]])))))))
 (.seq (.ops [.xs [I 65 (T 5),I 66 (T 8),eP 67 76 1 [(0,T 66)],aR 68 93 [T 65,T 67],I 69 (T 7),eP 70 76 1 [(0,T 69)],aR 71 110 [T 70],aR 72 116 [T 68,T 71],ah 5 (T 72)]])
 (.ops [.xs [I 73 (T 0),I 74 (T 6),fh 75 9 (T 73) (some (T 74)) none none,ah 0 (T 75)]])))))))))
 (.seq (.ops [.xs [I 76 (T 5),ah 2 (T 76),ah 3 (C (.bool true))]])
 (.ret)))))),[.tmp 2,.tmp 3]⟩
def IZ:cD:=⟨.seq (.ops [.cq 2 78 (T 0),.cq 3 78 (T 1),.bQ 4 78])
 (.seq (.ops [.a7 none 9 78 2 1 2 1,.aE none 10 76 9 2 1,.a7 none 11 78 3 1 3 1,.aE none 12 76 11 3 1,.xs [ah 5 (T 10),ah 6 (T 12)]])
 (.seq (.block 0 (.loop 16769504 0 (.seq (.seq (.ops [.xs [I 13 (T 6),bt 14 76 (T 13),bi 15 .gtr 3 (T 14) (ai 0)]])
 (.cond (T 15) (.skip)
 (.exit 0)))
 (.block 1 (.seq (.ops [.xs [I 17 (T 5),I 18 (T 6),aR 19 117 [T 17,T 18],I 16 (T 19),ex 20 (T 16) 0,ex 21 (T 16) 1,ah 7 (T 20),ah 8 (T 21)]])
 (.ops [.xs [I 22 (T 6),I 23 (T 8),ah 5 (T 22),ah 6 (T 23)]]))))))
 (.seq (.ops [.xs [I 24 (T 5),aR 25 92 [C (.bool false),T 24]],.bX true none 78 4 (T 25) 4])
 (.ret)))),[.cell 4 78]⟩
def Jz:cD:=⟨.seq (.ops [.xs [ah 4 (ai 0)]])
 (.seq (.seq (.ops [.xs [I 6 (T 0),bt 7 34 (T 6),I 8 (ai 0)]])
 (.block 0 (.loop 524080 0 (.seq (.ops [.xs [bi 9 .lss 3 (T 8) (T 7)]])
 (.seq (.cond (T 9) (.skip)
 (.exit 0))
 (.seq (.block 1 (.seq (.ops [.xs [I 10 (T 8),ah 5 (T 10)]])
 (.seq (.ops [.xs [I 11 (T 1),I 12 (T 0),I 13 (T 5),bg 14 34 (T 12) (T 13),aE 15 3 (T 14),bi 16 .eql 3 (T 11) (T 15)]])
 (.cond (T 16) (.seq (.ops [.xs [I 17 (T 5),ah 4 (T 17)]])
 (.ret))
 (.skip)))))
 (.ops [.xs [bi 18 .add 3 (T 8) (ai 1),I 8 (T 18)]])))))))
 (.seq (.ops [.xs [ah 4 (ai (-1))]])
 (.ret))),[.tmp 4]⟩
def I8:cD:=⟨.seq (.ops [.cq 2 78 (T 0),.cq 3 78 (T 1),.bQ 4 80])
 (.seq (.box 64512 12 (.seq (.ops [.a7 none 10 78 3 0 3 0,.aE none 11 4 10 3 0])
 (.cond (T 11) (.ops [.bT none 12 78 2 2,.xs [bh (aR 13 113 [T 12])],.bT none 14 78 3 3,.xs [aR 15 113 [T 14]],.bX true none 78 2 (T 13) 2,
  .bX true none 78 3 (T 15) 3])
 (.skip))))
 (.seq (.ops [.bT none 16 78 2 2,.bT none 17 78 3 3,.xs [aR 18 102 [T 16,T 17]],.bQ 5 78,.bX true none 78 5 (T 18) 5])
 (.seq (.seq (.ops [.bT none 19 78 5 5,.xs [bh (aR 20 88 [ai 1]),aR 21 67 [T 19,T 20],bi 22 .eql 3 (T 21) (ai 0)]])
 (.cond (T 22) (.seq (.ops [.bT none 23 78 2 2,.bT none 24 78 3 3,.xs [dF 25 80 [(0,T 23),(1,T 24)]],.bX true none 80 4 (T 25) 4])
 (.ret))
 (.skip)))
 (.seq (.ops [.bT none 27 78 2 2,.bT none 28 78 5 5,.xs [aR 29 119 [T 27,T 28],I 26 (T 29),ex 30 (T 26) 0,ex 31 (T 26) 1],.bQ 6 78,.bQ 7 78,
  .bX true none 78 6 (T 30) 6,.bX true none 78 7 (T 31) 7])
 (.seq (.ops [.bT none 33 78 3 3,.bT none 34 78 5 5,.xs [aR 35 119 [T 33,T 34],I 32 (T 35),ex 36 (T 32) 0,ex 37 (T 32) 1],.bQ 8 78,.bQ 9 78,
  .bX true none 78 8 (T 36) 8,.bX true none 78 9 (T 37) 9])
 (.seq (.ops [.bT none 38 78 6 6,.bT none 39 78 8 8,.xs [dF 40 80 [(0,T 38),(1,T 39)]],.bX true none 80 4 (T 40) 4])
 (.ret))))))),[.cell 4 80]⟩
def JD:cD:=⟨.seq (.ops [.xs [I 4 (T 0),bt 5 61 (T 4),bi 6 .sub 3 (T 5) (ai 1),ah 2 (ai 0),ah 3 (T 6)]])
 (.block 0 (.loop 268435340 0 (.seq (.seq (.ops [.xs [I 7 (T 2),I 8 (T 3),bi 9 .lss 3 (T 7) (T 8)]])
 (.cond (T 9) (.skip)
 (.exit 0)))
 (.seq (.block 1 (.ops [.xs [I 14 (T 0),I 15 (T 2),I 16 (T 0),I 17 (T 3),I 18 (T 0),I 19 (T 3),bg 20 61 (T 18) (T 19),aE 21 5 (T 20),I 22 (T 0),I 23 (T 2),bg 24 61 (T 22) (T 23),aE 25 5 (T 24),bg 26 61 (T 14) (T 15),st 5 (T 26) (T 21),bg 27 61 (T 16) (T 17),st 5 (T 27) (T 25)]]))
 (.ops [.xs [I 10 (T 2),bi 11 .add 3 (T 10) (ai 1),I 12 (T 3),bi 13 .sub 3 (T 12) (ai 1),ah 2 (T 11),ah 3 (T 13)]]))))),[]⟩
def I5:cD:=⟨.seq (.ops [.cq 1 80 (T 0),.bQ 2 80])
 (.seq (.ops [.a7 none 3 80 1 0 1 0,.aE none 4 78 3 1 0,.xs [bh (aR 5 113 [T 4])],.a7 none 6 80 1 1 1 2,.aE none 7 78 6 1 2,
  .xs [dF 8 80 [(0,T 5),(1,T 7)]],.bX true none 80 2 (T 8) 2])
 (.ret)),[.cell 2 80]⟩
def IT:cD:=⟨.seq (.ops [.xs [ah 4 (C (.int .u64 0)),ah 5 (C (.int .u64 0))]])
 (.seq (.ops [.xs [I 14 (T 0),bi 15 .and 123 (T 14) (C (.int .u64 4294967295)),ah 6 (T 15)]])
 (.seq (.ops [.xs [I 16 (T 0),bi 17 .shr 123 (T 16) (C (.int .u64 32)),ah 7 (T 17)]])
 (.seq (.ops [.xs [I 18 (T 1),bi 19 .and 123 (T 18) (C (.int .u64 4294967295)),ah 8 (T 19)]])
 (.seq (.ops [.xs [I 20 (T 1),bi 21 .shr 123 (T 20) (C (.int .u64 32)),ah 9 (T 21)]])
 (.seq (.ops [.xs [I 22 (T 6),I 23 (T 8),bi 24 .mul 123 (T 22) (T 23),ah 10 (T 24)]])
 (.seq (.ops [.xs [I 25 (T 7),I 26 (T 8),bi 27 .mul 123 (T 25) (T 26),I 28 (T 10),bi 29 .shr 123 (T 28) (C (.int .u64 32)),bi 30 .add 123 (T 27) (T 29),ah 11 (T 30)]])
 (.seq (.ops [.xs [I 31 (T 11),bi 32 .and 123 (T 31) (C (.int .u64 4294967295)),ah 12 (T 32)]])
 (.seq (.ops [.xs [I 33 (T 11),bi 34 .shr 123 (T 33) (C (.int .u64 32)),ah 13 (T 34)]])
 (.seq (.ops [.xs [I 35 (T 12),I 36 (T 6),I 37 (T 9),bi 38 .mul 123 (T 36) (T 37),bi 39 .add 123 (T 35) (T 38),ah 12 (T 39)]])
 (.seq (.ops [.xs [I 40 (T 7),I 41 (T 9),bi 42 .mul 123 (T 40) (T 41),I 43 (T 13),bi 44 .add 123 (T 42) (T 43),I 45 (T 12),bi 46 .shr 123 (T 45) (C (.int .u64 32)),bi 47 .add 123 (T 44) (T 46),ah 4 (T 47)]])
 (.seq (.ops [.xs [I 48 (T 0),I 49 (T 1),bi 50 .mul 123 (T 48) (T 49),ah 5 (T 50)]])
 (.ret)))))))))))),[.tmp 4,.tmp 5]⟩
def JG:cD:=⟨.seq (.ops [.xs [ah 4 (C (.string {data:= #[]})),ah 5 (C (.string {data:= #[]})),ah 6 (C (.bool false))]])
 (.seq (.seq (.ops [.xs [I 8 (T 0),I 9 (T 1),aR 10 120 [T 8,T 9],ah 7 (T 10)]])
 (.seq (.ops [.xs [I 11 (T 7),bi 12 .geq 3 (T 11) (ai 0)]])
 (.cond (T 12) (.seq (.ops [.xs [I 13 (T 0),I 14 (T 7),bh (fh 15 9 (T 13) none (some (T 14)) none),I 16 (T 0),I 17 (T 7),I 18 (T 1),bt 19 9 (T 18),bi 20 .add 3 (T 17) (T 19),bh (fh 21 9 (T 16) (some (T 20)) none none),ah 4 (T 15),ah 5 (T 21),ah 6 (C (.bool true))]])
 (.ret))
 (.skip))))
 (.seq (.ops [.xs [I 22 (T 0),ah 4 (T 22),ah 5 (C (.string {data:= #[]})),ah 6 (C (.bool false))]])
 (.ret))),[.tmp 4,.tmp 5,.tmp 6]⟩
def JH:cD:=⟨.seq (.ops [.xs [ah 4 (C (.string {data:= #[]})),ah 5 (C (.bool false))]])
 (.seq (.seq (.ops [.xs [I 6 (T 0),I 7 (T 1),aR 8 121 [T 6,T 7],un 9 .not (T 8)]])
 (.cond (T 9) (.seq (.ops [.xs [I 10 (T 0),ah 4 (T 10),ah 5 (C (.bool false))]])
 (.ret))
 (.skip)))
 (.seq (.ops [.xs [I 11 (T 0),I 12 (T 1),bt 13 9 (T 12),fh 14 9 (T 11) (some (T 13)) none none,ah 4 (T 14),ah 5 (C (.bool true))]])
 (.ret))),[.tmp 4,.tmp 5]⟩
def Ja:cD:=⟨.seq (.ops [.xs [ah 4 (C (.slice none 0 0)),ah 5 (C (.slice none 0 0))]])
 (.seq (.seq (.ops [.xs [I 14 (T 0),I 15 (T 1),aR 16 101 [T 14,T 15],bi 17 .lss 3 (T 16) (ai 0)]])
 (.cond (T 17) (.seq (.ops [.xs [I 18 (T 0),ap 19 76 76 (C (.slice none 0 0)) (T 18),ah 4 (C (.slice none 0 0)),ah 5 (T 19)]])
 (.ret))
 (.skip)))
 (.seq (.seq (.ops [.xs [I 20 (T 1),bt 21 76 (T 20),bi 22 .eql 3 (T 21) (ai 1)]])
 (.cond (T 22) (.seq (.ops [.xs [I 24 (T 0),I 25 (T 1),bg 26 76 (T 25) (ai 0),aE 27 124 (T 26),aR 28 107 [T 24,T 27],I 23 (T 28),ex 29 (T 23) 0,ex 30 (T 23) 1,ah 6 (T 29),ah 7 (T 30)]])
 (.seq (.ops [.xs [I 31 (T 6),I 32 (T 7),eP 33 76 1 [(0,T 32)],aR 34 110 [T 33],ah 4 (T 31),ah 5 (T 34)]])
 (.ret)))
 (.skip)))
 (.seq (.ops [.xs [I 35 (T 1),I 36 (T 1),bt 37 76 (T 36),bi 38 .sub 3 (T 37) (ai 1),bg 39 76 (T 35) (T 38),aE 40 124 (T 39),aR 41 123 [T 40],ah 8 (T 41)]])
 (.seq (.ops [.xs [I 42 (T 1),I 43 (T 8),aR 44 124 [T 42,T 43],aR 45 110 [T 44],I 46 (T 0),I 47 (T 8),aR 48 124 [T 46,T 47],ah 9 (T 45),ah 10 (T 48)]])
 (.seq (.ops [.xs [I 49 (T 9),bt 50 76 (T 49),ah 11 (T 50)]])
 (.seq (.ops [.xs [I 51 (T 0),bt 52 76 (T 51),I 53 (T 11),bi 54 .sub 3 (T 52) (T 53),bi 55 .add 3 (T 54) (ai 1),ms 56 76 (T 55) (T 55),ah 12 (T 56)]])
 (.seq (.seq (.ops [.xs [I 57 (T 0),bt 58 76 (T 57),I 59 (T 11),bi 60 .sub 3 (T 58) (T 59),ah 13 (T 60)]])
 (.block 0 (.loop 151113421608819433152512 0 (.seq (.seq (.ops [.xs [I 61 (T 13),bi 62 .geq 3 (T 61) (ai 0)]])
 (.cond (T 62) (.skip)
 (.exit 0)))
 (.seq (.block 1 (.ops [.xs [I 65 (T 12),I 66 (T 13),I 67 (T 10),I 68 (T 13),I 69 (T 13),I 70 (T 11),bi 71 .add 3 (T 69) (T 70),bi 72 .add 3 (T 71) (ai 1),fh 73 76 (T 67) (some (T 68)) (some (T 72)) none,I 74 (T 9),aR 75 125 [T 73,T 74],bg 76 76 (T 65) (T 66),st 124 (T 76) (T 75)]]))
 (.ops [.xs [I 63 (T 13),bi 64 .sub 3 (T 63) (ai 1),ah 13 (T 64)]]))))))
 (.seq (.ops [.xs [I 77 (T 12),bh (aR 78 110 [T 77]),I 79 (T 10),I 80 (T 11),bh (fh 81 76 (T 79) none (some (T 80)) none),aR 82 110 [T 81],I 83 (T 8),aR 84 126 [T 82,T 83],ah 4 (T 78),ah 5 (T 84)]])
 (.ret))))))))),[.tmp 4,.tmp 5]⟩
def I0:cD:=⟨.seq (.ops [.cq 2 78 (T 0),.cq 3 78 (T 1),.bQ 4 78,.bQ 5 78])
 (.seq (.ops [.a7 none 11 78 2 1 2 1,.aE none 12 76 11 2 1,.a7 none 13 78 3 1 3 1,.aE none 14 76 13 3 1,
  .xs [aR 15 117 [T 12,T 14],I 10 (T 15),ex 16 (T 10) 0,ex 17 (T 10) 1,ah 6 (T 16),ah 7 (T 17)]])
 (.seq (.ops [.a7 none 18 78 2 0 2 0,.aE none 19 4 18 2 0,.a7 none 20 78 3 0 3 0,.aE none 21 4 20 3 0,
  .xs [bi 22 .neq 4 (T 19) (T 21),I 23 (T 6),bh (aR 24 92 [T 22,T 23])],.a7 none 25 78 2 0 2 0,.aE none 26 4 25 2 0,
  .xs [I 27 (T 7),bh (aR 28 92 [T 26,T 27])],.bQ 8 78,.bQ 9 78,.bX true none 78 8 (T 24) 8,.bX true none 78 9 (T 28) 9])
 (.seq (.box 35183835217920 768 (.seq (.box 549218942976 0 (.ops [.xs [I 29 (T 7),bt 30 76 (T 29),bi 31 .gtr 3 (T 30) (ai 0),I 32 (T 31)],.a7 (some (32,true)) 33 78 2 0 2 0,
  .aE (some (32,true)) 34 4 33 2 0,.a7 (some (32,true)) 35 78 3 0 3 0,.aE (some (32,true)) 36 4 35 3 0,
  .xs [aN 32 true (bi 37 .neq 4 (T 34) (T 36)),cG 38 (T 32) (T 37) (C (.bool false))]]))
 (.cond (T 38) (.ops [.bT none 39 78 8 8,.xs [bh (aR 40 88 [ai 1]),bh (aR 41 94 [T 39,T 40])],.bT none 42 78 9 9,.bT none 43 78 3 3,
  .xs [aR 44 105 [T 42,T 43]],.bX true none 78 8 (T 41) 8,.bX true none 78 9 (T 44) 9])
 (.skip))))
 (.seq (.opsL [.bT none 45 78 8 8,.bT none 46 78 9 9,.bX false none 78 4 (T 45) 4,.bX true none 78 5 (T 46) 5])
 (.ret))))),[.cell 4 78,.cell 5 78]⟩
def JJ:cD:=⟨.seq (.ops [.xs [ah 4 (ai 0)]])
 (.seq (.ops [.xs [I 14 (T 1),bt 15 9 (T 14),ah 5 (T 15)]])
 (.seq (.block 0 (.seq (.box 16711680 0 (.ops [.xs [I 17 (T 5),bi 18 .eql 3 (T 17) (ai 0),I 19 (T 18),aN 19 false (I 20 (T 1)),aN 19 false (I 21 (T 0)),aN 19 false (bi 22 .eql 9 (T 20) (T 21)),cG 23 (T 19) (C (.bool true)) (T 22),ah 16 (T 23)]]))
 (.cond (T 16) (.seq (.ops [.xs [ah 4 (ai 0)]])
 (.ret))
 (.seq (.ops [.xs [I 25 (T 5),bi 26 .eql 3 (T 25) (ai 1),ah 24 (T 26)]])
 (.cond (T 24) (.seq (.ops [.xs [I 27 (T 0),I 28 (T 1),ew 29 9 (T 28) (ai 0),aR 30 128 [T 27,T 29],ah 4 (T 30)]])
 (.ret))
 (.seq (.ops [.xs [I 32 (T 5),I 33 (T 0),bt 34 9 (T 33),bi 35 .geq 3 (T 32) (T 34),ah 31 (T 35)]])
 (.cond (T 31) (.seq (.ops [.xs [ah 4 (ai (-1))]])
 (.ret))
 (.seq (.box 35115652612096 0 (.ops [.xs [I 37 (T 5),aE 38 3 (.global 0),bi 39 .leq 3 (T 37) (T 38),I 40 (T 39),aN 40 true (I 41 (T 0)),aN 40 true (bt 42 9 (T 41)),aN 40 true (bi 43 .leq 3 (T 42) (ai 64)),cG 44 (T 40) (T 43) (C (.bool false)),ah 36 (T 44)]]))
 (.cond (T 36) (.seq (.ops [.xs [I 45 (T 0),I 46 (T 1),aR 47 129 [T 45,T 46],ah 4 (T 47)]])
 (.ret))
 (.skip))))))))))
 (.seq (.ops [.xs [I 48 (T 1),ew 49 9 (T 48) (ai 0),ah 6 (T 49)]])
 (.seq (.ops [.xs [I 50 (T 1),ew 51 9 (T 50) (ai 1),ah 7 (T 51)]])
 (.seq (.ops [.xs [ah 8 (ai 0)]])
 (.seq (.ops [.xs [I 52 (T 0),bt 53 9 (T 52),I 54 (T 5),bi 55 .sub 3 (T 53) (T 54),bi 56 .add 3 (T 55) (ai 1),ah 9 (T 56)]])
 (.seq (.ops [.xs [ah 10 (ai 0)]])
 (.seq (.block 1 (.loop 11150372599265311570767858992208992677149968 0 (.seq (.seq (.ops [.xs [I 57 (T 8),I 58 (T 9),bi 59 .lss 3 (T 57) (T 58)]])
 (.cond (T 59) (.skip)
 (.exit 1)))
 (.block 2 (.seq (.box 302230301982152686831888 0 (.seq (.ops [.xs [I 60 (T 0),I 61 (T 8),ew 62 9 (T 60) (T 61),I 63 (T 6),bi 64 .neq 5 (T 62) (T 63)]])
 (.cond (T 64) (.seq (.ops [.xs [I 65 (T 0),I 66 (T 8),bi 67 .add 3 (T 66) (ai 1),I 68 (T 9),fh 69 9 (T 65) (some (T 67)) (some (T 68)) none,I 70 (T 6),aR 71 128 [T 69,T 70],ah 11 (T 71)]])
 (.seq (.seq (.ops [.xs [I 72 (T 11),bi 73 .lss 3 (T 72) (ai 0)]])
 (.cond (T 73) (.seq (.ops [.xs [ah 4 (ai (-1))]])
 (.ret))
 (.skip)))
 (.ops [.xs [I 74 (T 8),I 75 (T 11),bi 76 .add 3 (T 75) (ai 1),bi 77 .add 3 (T 74) (T 76),ah 8 (T 77)]])))
 (.skip))))
 (.seq (.seq (.box 19806738397111180741092311040 0 (.ops [.xs [I 78 (T 0),I 79 (T 8),bi 80 .add 3 (T 79) (ai 1),ew 81 9 (T 78) (T 80),I 82 (T 7),bi 83 .eql 5 (T 81) (T 82),I 84 (T 83),aN 84 true (I 85 (T 0)),aN 84 true (I 86 (T 8)),aN 84 true (I 87 (T 8)),aN 84 true (I 88 (T 5)),aN 84 true (bi 89 .add 3 (T 87) (T 88)),aN 84 true ((fh 90 9 (T 85) (some (T 86)) (some (T 89)) none)),aN 84 true (I 91 (T 1)),aN 84 true (bi 92 .eql 9 (T 90) (T 91)),cG 93 (T 84) (T 92) (C (.bool false))]]))
 (.cond (T 93) (.seq (.ops [.xs [I 94 (T 8),ah 4 (T 94)]])
 (.ret))
 (.skip)))
 (.seq (.ops [.xs [I 95 (T 8),bi 96 .add 3 (T 95) (ai 1),ah 8 (T 96)]])
 (.seq (.ops [.xs [I 97 (T 10),bi 98 .add 3 (T 97) (ai 1),ah 10 (T 98)]])
 (.seq (.box 323884728358312612082407668973568 0 (.ops [.xs [I 99 (T 5),aE 100 3 (.global 0),bi 101 .leq 3 (T 99) (T 100),I 102 (T 101),aN 102 true (I 103 (T 10)),aN 102 true (I 104 (T 8)),aN 102 true (aR 105 130 [T 104]),aN 102 true (bi 106 .gtr 3 (T 103) (T 105)),cG 107 (T 102) (T 106) (C (.bool false))]]))
 (.cond (T 107) (.seq (.ops [.xs [I 108 (T 0),I 109 (T 8),fh 110 9 (T 108) (some (T 109)) none none,I 111 (T 1),aR 112 129 [T 110,T 111],ah 12 (T 112)]])
 (.seq (.seq (.ops [.xs [I 113 (T 12),bi 114 .geq 3 (T 113) (ai 0)]])
 (.cond (T 114) (.seq (.ops [.xs [I 115 (T 12),I 116 (T 8),bi 117 .add 3 (T 115) (T 116),ah 4 (T 117)]])
 (.ret))
 (.skip)))
 (.seq (.ops [.xs [ah 4 (ai (-1))]])
 (.ret))))
 (.seq (.box 10888703434471084601859761486051512680448 0 (.ops [.xs [I 118 (T 5),aE 119 3 (.global 0),bi 120 .gtr 3 (T 118) (T 119),I 121 (T 120),aN 121 true (I 122 (T 10)),aN 121 true (I 123 (T 8)),aN 121 true ((bi 124 .shr 3 (T 123) (C (.int .u64 4)))),aN 121 true (bi 125 .add 3 (ai 4) (T 124)),aN 121 true (bi 126 .geq 3 (T 122) (T 125)),cG 127 (T 121) (T 126) (C (.bool false)),I 128 (T 127),aN 128 true (I 129 (T 8)),aN 128 true (I 130 (T 9)),aN 128 true (bi 131 .lss 3 (T 129) (T 130)),cG 132 (T 128) (T 131) (C (.bool false))]]))
 (.cond (T 132) (.seq (.ops [.xs [I 133 (T 0),I 134 (T 8),fh 135 9 (T 133) (some (T 134)) none none,I 136 (T 1),aR 137 131 [T 135,T 136],ah 13 (T 137)]])
 (.seq (.seq (.ops [.xs [I 138 (T 13),bi 139 .lss 3 (T 138) (ai 0)]])
 (.cond (T 139) (.seq (.ops [.xs [ah 4 (ai (-1))]])
 (.ret))
 (.skip)))
 (.seq (.ops [.xs [I 140 (T 8),I 141 (T 13),bi 142 .add 3 (T 140) (T 141),ah 4 (T 142)]])
 (.ret))))
 (.skip)))))))))))))
 (.seq (.ops [.xs [ah 4 (ai (-1))]])
 (.ret)))))))))),[.tmp 4]⟩
def JI:cD:=⟨.seq (.ops [.xs [ah 4 (C (.bool false))]])
 (.seq (.box 262128 0 (.ops [.xs [I 5 (T 0),bt 6 9 (T 5),I 7 (T 1),bt 8 9 (T 7),bi 9 .geq 3 (T 6) (T 8),I 10 (T 9),aN 10 true (I 11 (T 0)),aN 10 true (I 12 (T 1)),aN 10 true (bt 13 9 (T 12)),aN 10 true ((fh 14 9 (T 11) none (some (T 13)) none)),aN 10 true (I 15 (T 1)),aN 10 true (bi 16 .eql 9 (T 14) (T 15)),cG 17 (T 10) (T 16) (C (.bool false)),ah 4 (T 17)]]))
 (.ret)),[.tmp 4]⟩
def IP:cD:=⟨.seq (.ops [.xs [ah 2 (ai 0)]])
 (.seq (.ops [.xs [I 3 (T 0),aR 4 132 [T 3],bi 5 .sub 3 (ai 32) (T 4),ah 2 (T 5)]])
 (.ret)),[.tmp 2]⟩
def Jd:cD:=⟨.seq (.ops [.xs [ah 4 (C (.slice none 0 0))]])
 (.seq (.ops [.xs [I 9 (T 0),bt 10 76 (T 9),bi 11 .add 3 (T 10) (ai 1),ms 12 76 (T 11) (T 11),ah 5 (T 12)]])
 (.seq (.seq (.ops [.xs [I 13 (T 0),bt 14 76 (T 13),I 15 (ai 0)]])
 (.block 0 (.loop 1099511595456 0 (.seq (.ops [.xs [bi 16 .lss 3 (T 15) (T 14)]])
 (.seq (.cond (T 16) (.skip)
 (.exit 0))
 (.seq (.block 1 (.seq (.ops [.xs [I 17 (T 15),bg 18 76 (T 13) (T 15),aE 19 124 (T 18),ah 6 (T 17),ah 7 (T 19)]])
 (.seq (.ops [.xs [I 20 (T 7),cg 21 124 123 (T 20),I 22 (T 1),bi 23 .shl 123 (T 21) (T 22),ah 8 (T 23)]])
 (.seq (.ops [.xs [I 24 (T 5),I 25 (T 6),bg 26 76 (T 24) (T 25),aE 27 124 (T 26),I 28 (T 8),cg 29 123 124 (T 28),bi 30 .or 124 (T 27) (T 29),bg 31 76 (T 24) (T 25),st 124 (T 31) (T 30)]])
 (.ops [.xs [I 32 (T 5),I 33 (T 6),bi 34 .add 3 (T 33) (ai 1),I 35 (T 8),bi 36 .shr 123 (T 35) (C (.int .u64 32)),cg 37 123 124 (T 36),bg 38 76 (T 32) (T 34),st 124 (T 38) (T 37)]])))))
 (.ops [.xs [bi 39 .add 3 (T 15) (ai 1),I 15 (T 39)]])))))))
 (.seq (.ops [.xs [I 40 (T 5),ah 4 (T 40)]])
 (.ret)))),[.tmp 4]⟩
def I9:cD:=⟨.seq (.ops [.xs [ah 4 (C (.int .u32 0))]])
 (.seq (.ops [.xs [I 15 (T 1),bt 16 76 (T 15),ah 5 (T 16)]])
 (.seq (.ops [.xs [I 17 (T 0),I 18 (T 5),bg 19 76 (T 17) (T 18),aE 20 124 (T 19),cg 21 124 123 (T 20),bi 22 .shl 123 (T 21) (C (.int .u64 32)),I 23 (T 0),I 24 (T 5),bi 25 .sub 3 (T 24) (ai 1),bg 26 76 (T 23) (T 25),aE 27 124 (T 26),cg 28 124 123 (T 27),bi 29 .or 123 (T 22) (T 28),ah 6 (T 29)]])
 (.seq (.ops [.xs [I 30 (T 6),I 31 (T 1),I 32 (T 5),bi 33 .sub 3 (T 32) (ai 1),bg 34 76 (T 31) (T 33),aE 35 124 (T 34),cg 36 124 123 (T 35),bi 37 .quo 123 (T 30) (T 36),I 38 (T 6),I 39 (T 1),I 40 (T 5),bi 41 .sub 3 (T 40) (ai 1),bg 42 76 (T 39) (T 41),aE 43 124 (T 42),cg 44 124 123 (T 43),bi 45 .rem 123 (T 38) (T 44),ah 7 (T 37),ah 8 (T 45)]])
 (.seq (.box 4835703278388147954647424 0 (.block 0 (.loop 4835703278388147954647424 0 (.seq (.seq (.box 590295739989961474048 0 (.ops [.xs [I 46 (T 7),bi 47 .shr 123 (T 46) (C (.int .u64 32)),bi 48 .gtr 123 (T 47) (C (.int .u64 0)),I 49 (T 48),aN 49 false (I 50 (T 7)),aN 49 false (I 51 (T 1)),aN 49 false (I 52 (T 5)),aN 49 false (bi 53 .sub 3 (T 52) (ai 2)),aN 49 false (bg 54 76 (T 51) (T 53)),aN 49 false (aE 55 124 (T 54)),aN 49 false (cg 56 124 123 (T 55)),aN 49 false (bi 57 .mul 123 (T 50) (T 56)),aN 49 false (I 58 (T 8)),aN 49 false ((bi 59 .shl 123 (T 58) (C (.int .u64 32)))),aN 49 false (I 60 (T 0)),aN 49 false (I 61 (T 5)),aN 49 false (bi 62 .sub 3 (T 61) (ai 2)),aN 49 false (bg 63 76 (T 60) (T 62)),aN 49 false (aE 64 124 (T 63)),aN 49 false (cg 65 124 123 (T 64)),aN 49 false (bi 66 .or 123 (T 59) (T 65)),aN 49 false (bi 67 .gtr 123 (T 57) (T 66)),cG 68 (T 49) (C (.bool true)) (T 67)]]))
 (.cond (T 68) (.skip)
 (.exit 0)))
 (.block 1 (.seq (.ops [.xs [I 69 (T 7),bi 70 .sub 123 (T 69) (C (.int .u64 1)),ah 7 (T 70)]])
 (.seq (.ops [.xs [I 71 (T 8),I 72 (T 1),I 73 (T 5),bi 74 .sub 3 (T 73) (ai 1),bg 75 76 (T 72) (T 74),aE 76 124 (T 75),cg 77 124 123 (T 76),bi 78 .add 123 (T 71) (T 77),ah 8 (T 78)]])
 (.seq (.ops [.xs [I 79 (T 8),bi 80 .shr 123 (T 79) (C (.int .u64 32)),bi 81 .gtr 123 (T 80) (C (.int .u64 0))]])
 (.cond (T 81) (.exit 0)
 (.skip))))))))))
 (.seq (.ops [.xs [ah 9 (C (.int .u64 0)),ah 10 (C (.int .u32 0))]])
 (.seq (.seq (.ops [.xs [I 82 (T 1),bt 83 76 (T 82),I 84 (ai 0)]])
 (.block 2 (.loop 10384593697726842143226925863149056 0 (.seq (.ops [.xs [bi 85 .lss 3 (T 84) (T 83)]])
 (.seq (.cond (T 85) (.skip)
 (.exit 2))
 (.seq (.block 3 (.seq (.ops [.xs [I 86 (T 84),ah 11 (T 86)]])
 (.seq (.ops [.xs [I 87 (T 7),I 88 (T 1),I 89 (T 11),bg 90 76 (T 88) (T 89),aE 91 124 (T 90),cg 92 124 123 (T 91),bi 93 .mul 123 (T 87) (T 92),I 94 (T 9),bi 95 .add 123 (T 93) (T 94),ah 12 (T 95)]])
 (.seq (.ops [.xs [I 96 (T 12),bi 97 .shr 123 (T 96) (C (.int .u64 32)),ah 9 (T 97)]])
 (.ops [.xs [I 99 (T 0),I 100 (T 11),I 101 (T 0),I 102 (T 11),bg 103 76 (T 101) (T 102),aE 104 124 (T 103),I 105 (T 12),cg 106 123 124 (T 105),I 107 (T 10),aR 108 127 [T 104,T 106,T 107],I 98 (T 108),ex 109 (T 98) 0,ex 110 (T 98) 1,bg 111 76 (T 99) (T 100),st 124 (T 111) (T 109),ah 10 (T 110)]])))))
 (.ops [.xs [bi 112 .add 3 (T 84) (ai 1),I 84 (T 112)]])))))))
 (.seq (.ops [.xs [I 114 (T 0),I 115 (T 5),I 116 (T 0),I 117 (T 5),bg 118 76 (T 116) (T 117),aE 119 124 (T 118),I 120 (T 9),cg 121 123 124 (T 120),I 122 (T 10),aR 123 127 [T 119,T 121,T 122],I 113 (T 123),ex 124 (T 113) 0,ex 125 (T 113) 1,bg 126 76 (T 114) (T 115),st 124 (T 126) (T 124),ah 10 (T 125)]])
 (.seq (.box 1461501637160761734743215600984595715940048461952 0 (.seq (.ops [.xs [I 127 (T 10),bi 128 .gtr 124 (T 127) (C (.int .u32 0))]])
 (.cond (T 128) (.seq (.ops [.xs [I 129 (T 7),bi 130 .sub 123 (T 129) (C (.int .u64 1)),ah 7 (T 130)]])
 (.seq (.ops [.xs [ah 13 (C (.int .u32 0))]])
 (.seq (.seq (.ops [.xs [I 131 (T 1),bt 132 76 (T 131),I 133 (ai 0)]])
 (.block 4 (.loop 11417970652611937578435456927608523274479230976 0 (.seq (.ops [.xs [bi 134 .lss 3 (T 133) (T 132)]])
 (.seq (.cond (T 134) (.skip)
 (.exit 4))
 (.seq (.block 5 (.seq (.ops [.xs [I 135 (T 133),ah 14 (T 135)]])
 (.ops [.xs [I 137 (T 0),I 138 (T 14),I 139 (T 0),I 140 (T 14),bg 141 76 (T 139) (T 140),aE 142 124 (T 141),I 143 (T 1),I 144 (T 14),bg 145 76 (T 143) (T 144),aE 146 124 (T 145),I 147 (T 13),aR 148 122 [T 142,T 146,T 147],I 136 (T 148),ex 149 (T 136) 0,ex 150 (T 136) 1,bg 151 76 (T 137) (T 138),st 124 (T 151) (T 149),ah 13 (T 150)]])))
 (.ops [.xs [bi 152 .add 3 (T 133) (ai 1),I 133 (T 152)]])))))))
 (.ops [.xs [I 153 (T 0),I 154 (T 5),bg 155 76 (T 153) (T 154),aE 156 124 (T 155),I 157 (T 13),bi 158 .add 124 (T 156) (T 157),bg 159 76 (T 153) (T 154),st 124 (T 159) (T 158)]]))))
 (.skip))))
 (.seq (.ops [.xs [I 160 (T 7),cg 161 123 124 (T 160),ah 4 (T 161)]])
 (.ret)))))))))),[.tmp 4]⟩
def I_:cD:=⟨.seq (.ops [.xs [ah 4 (C (.slice none 0 0))]])
 (.seq (.ops [.xs [I 8 (T 0),bt 9 76 (T 8),ms 10 76 (T 9) (T 9),ah 5 (T 10)]])
 (.seq (.seq (.ops [.xs [I 11 (T 0),bt 12 76 (T 11),I 13 (ai 0)]])
 (.block 0 (.loop 8796093014208 0 (.seq (.ops [.xs [bi 14 .lss 3 (T 13) (T 12)]])
 (.seq (.cond (T 14) (.skip)
 (.exit 0))
 (.seq (.block 1 (.seq (.ops [.xs [I 15 (T 13),ah 6 (T 15)]])
 (.seq (.ops [.xs [I 16 (T 0),I 17 (T 6),bg 18 76 (T 16) (T 17),aE 19 124 (T 18),cg 20 124 123 (T 19),ah 7 (T 20)]])
 (.seq (.box 34357641344 0 (.seq (.ops [.xs [I 21 (T 6),bi 22 .add 3 (T 21) (ai 1),I 23 (T 0),bt 24 76 (T 23),bi 25 .lss 3 (T 22) (T 24)]])
 (.cond (T 25) (.ops [.xs [I 26 (T 7),I 27 (T 0),I 28 (T 6),bi 29 .add 3 (T 28) (ai 1),bg 30 76 (T 27) (T 29),aE 31 124 (T 30),cg 32 124 123 (T 31),bi 33 .shl 123 (T 32) (C (.int .u64 32)),bi 34 .or 123 (T 26) (T 33),ah 7 (T 34)]])
 (.skip))))
 (.ops [.xs [I 35 (T 5),I 36 (T 6),I 37 (T 7),I 38 (T 1),bi 39 .shr 123 (T 37) (T 38),cg 40 123 124 (T 39),bg 41 76 (T 35) (T 36),st 124 (T 41) (T 40)]])))))
 (.ops [.xs [bi 42 .add 3 (T 13) (ai 1),I 13 (T 42)]])))))))
 (.seq (.ops [.xs [I 43 (T 5),aR 44 110 [T 43],ah 4 (T 44)]])
 (.ret)))),[.tmp 4]⟩
def JK:cD:=⟨.seq (.ops [.xs [ah 4 (ai 0)]])
 (.seq (.ops [.xs [I 5 (T 0),I 6 (T 1),aR 7 133 [T 5,T 6],ah 4 (T 7)]])
 (.ret)),[.tmp 4]⟩
def IQ:cD:=⟨.seq (.ops [.xs [ah 2 (ai 0)]])
 (.seq (.box 125 0 (.seq (.ops [.xs [I 3 (T 0),bi 4 .geq 124 (T 3) (C (.int .u32 65536))]])
 (.cond (T 4) (.seq (.ops [.xs [I 5 (T 0),bi 6 .shr 124 (T 5) (C (.int .u64 16)),ah 0 (T 6)]])
 (.ops [.xs [ah 2 (ai 16)]]))
 (.skip))))
 (.seq (.box 8069 0 (.seq (.ops [.xs [I 7 (T 0),bi 8 .geq 124 (T 7) (C (.int .u32 256))]])
 (.cond (T 8) (.seq (.ops [.xs [I 9 (T 0),bi 10 .shr 124 (T 9) (C (.int .u64 8)),ah 0 (T 10)]])
 (.ops [.xs [I 11 (T 2),bi 12 .add 3 (T 11) (ai 8),ah 2 (T 12)]]))
 (.skip))))
 (.seq (.ops [.xs [I 13 (T 2),I 14 (T 0),cg 15 124 5 (T 14),(ew 16 9 (C (.string {data:=(List.toArray (List.append (List.append [0,1,2,2,3,3,3,3,4,4,4,4,4,4,4,4,5,5,5,5,5,5,5,5,5,5,5,5,5,5,5,5,6,6,6,6,6,6,6,6,6,6,6,6,6,6,6,6,6,6,6,6,6,6,6,6,6,6,6,6,6,6,6,6] [7,7,7,7,7,7,7,7,7,7,7,7,7,7,7,7,7,7,7,7,7,7,7,7,7,7,7,7,7,7,7,7,7,7,7,7,7,7,7,7,7,7,7,7,7,7,7,7,7,7,7,7,7,7,7,7,7,7,7,7,7,7,7,7]) (List.append [8,8,8,8,8,8,8,8,8,8,8,8,8,8,8,8,8,8,8,8,8,8,8,8,8,8,8,8,8,8,8,8,8,8,8,8,8,8,8,8,8,8,8,8,8,8,8,8,8,8,8,8,8,8,8,8,8,8,8,8,8,8,8,8] [8,8,8,8,8,8,8,8,8,8,8,8,8,8,8,8,8,8,8,8,8,8,8,8,8,8,8,8,8,8,8,8,8,8,8,8,8,8,8,8,8,8,8,8,8,8,8,8,8,8,8,8,8,8,8,8,8,8,8,8,8,8,8,8])))})) (T 15)),cg 17 5 3 (T 16),bi 18 .add 3 (T 13) (T 17),ah 2 (T 18)]])
 (.ret)))),[.tmp 2]⟩
theorem uf:ki prog 3=some .i64:=by kernel_rfl
theorem acH:ki prog 24=some .i64:=by kernel_rfl
theorem ady:fi prog 27=some 93:=by kernel_rfl
theorem adJ:fQ prog 27=true:=by kernel_rfl
theorem P8:bA prog 93=some 2:=by kernel_rfl
theorem ad3:bytes? prog 93=some 40:=by kernel_rfl
theorem CM:dD prog 93=some (.agg #[(.string {data:= #[]}),(.slice none 0 0)]):=by kernel_rfl
theorem aeg:prog.underlying 27=some (.slice 93):=by kernel_rfl
theorem aep:fi prog 22=some 34:=by kernel_rfl
theorem aex:fQ prog 22=true:=by kernel_rfl
theorem acI:bA prog 34=some 1:=by kernel_rfl
theorem acT:bytes? prog 34=some 24:=by kernel_rfl
theorem ac2:dD prog 34=some (.slice none 0 0):=by kernel_rfl
theorem ade:prog.underlying 22=some (.slice 34):=by kernel_rfl
theorem adk:dr prog 34=some false:=by kernel_rfl
theorem adr:fi prog 34=some 3:=by kernel_rfl
theorem adu:fQ prog 34=true:=by kernel_rfl
theorem adv:bA prog 3=some 1:=by kernel_rfl
theorem adw:bytes? prog 3=some 8:=by kernel_rfl
theorem adx:dD prog 3=some (.int .i64 0):=by kernel_rfl
theorem adz:prog.underlying 34=some (.slice 3):=by kernel_rfl
theorem adA:fi prog 95=some 27:=by kernel_rfl
theorem adB:fQ prog 95=true:=by kernel_rfl
theorem adC:bA prog 27=some 1:=by kernel_rfl
theorem adD:bytes? prog 27=some 24:=by kernel_rfl
theorem adE:dD prog 27=some (.slice none 0 0):=by kernel_rfl
theorem adF:prog.underlying 95=some (.slice 27):=by kernel_rfl
theorem adG:iG prog 45=true:=by kernel_rfl
theorem adH:fQ prog 45=true:=by kernel_rfl
theorem adI:dr prog 3=some false:=by kernel_rfl
theorem adK:bA prog 56=some 2:=by kernel_rfl
theorem adL:dr prog 56=some true:=by kernel_rfl
theorem adM:fW prog 56 0=some 0:=by kernel_rfl
theorem adN:dr prog 5=some false:=by kernel_rfl
theorem adO:bA prog 5=some 1:=by kernel_rfl
theorem adP:fW prog 56 1=some 1:=by kernel_rfl
theorem zr:ki prog 5=some .u8:=by kernel_rfl
theorem adQ:fi prog 60=some 61:=by kernel_rfl
theorem adR:fQ prog 60=true:=by kernel_rfl
theorem adS:bA prog 61=some 1:=by kernel_rfl
theorem adT:bytes? prog 61=some 24:=by kernel_rfl
theorem adU:dD prog 61=some (.slice none 0 0):=by kernel_rfl
theorem adV:prog.underlying 60=some (.slice 61):=by kernel_rfl
theorem adW:dr prog 61=some false:=by kernel_rfl
theorem adX:fi prog 61=some 5:=by kernel_rfl
theorem adY:fQ prog 61=true:=by kernel_rfl
theorem adZ:bytes? prog 5=some 1:=by kernel_rfl
theorem ad0:dD prog 5=some (.int .u8 0):=by kernel_rfl
theorem ad1:prog.underlying 61=some (.slice 5):=by kernel_rfl
theorem ad2:fi prog 62=some 69:=by kernel_rfl
theorem ad4:fQ prog 62=true:=by kernel_rfl
theorem P9:bA prog 69=some 2:=by kernel_rfl
theorem ad5:bytes? prog 69=some 32:=by kernel_rfl
theorem CJ:dD prog 69=some (.agg #[(.int .i64 0),(.slice none 0 0)]):=by kernel_rfl
theorem ad6:prog.underlying 62=some (.slice 69):=by kernel_rfl
theorem ad7:fW prog 69 0=some 0:=by kernel_rfl
theorem CK:dD prog 74=some (.agg #[(.slice none 0 0)]):=by kernel_rfl
theorem P_:bA prog 74=some 1:=by kernel_rfl
theorem ad8:dr prog 74=some true:=by kernel_rfl
theorem CL:dD prog 80=some (.agg #[(.bool false),(.slice none 0 0),(.bool false),(.slice none 0 0)]):=by kernel_rfl
theorem Qa:bA prog 80=some 4:=by kernel_rfl
theorem ad9:dr prog 80=some true:=by kernel_rfl
theorem aea:dr prog 93=some true:=by kernel_rfl
theorem aeb:fW prog 93 0=some 0:=by kernel_rfl
theorem aec:dr prog 45=some false:=by kernel_rfl
theorem aed:bA prog 45=some 1:=by kernel_rfl
theorem aee:pc prog 42 0=some (0,some 2):=by kernel_rfl
theorem aef:fW prog 93 1=some 1:=by kernel_rfl
theorem CN:dD prog 42=some (.agg #[(.bool false),(.slice none 0 0),(.bool false),(.slice none 0 0)]):=by kernel_rfl
theorem Qb:bA prog 42=some 4:=by kernel_rfl
theorem aeh:dr prog 42=some true:=by kernel_rfl
theorem aei:dr prog 27=some false:=by kernel_rfl
theorem aej:fW prog 42 0=some 0:=by kernel_rfl
theorem aek:dr prog 40=some true:=by kernel_rfl
theorem Qc:bA prog 40=some 2:=by kernel_rfl
theorem ael:fW prog 42 1=some 2:=by kernel_rfl
theorem Qd:lE prog 42=some [(0,2),(2,2)]:=by kernel_rfl
theorem aem:iG prog 9=true:=by kernel_rfl
theorem aen:fQ prog 9=true:=by kernel_rfl
theorem aeo:fW prog 40 0=some 0:=by kernel_rfl
theorem aeq:dr prog 4=some false:=by kernel_rfl
theorem aer:bA prog 4=some 1:=by kernel_rfl
theorem Qe:lE prog 93=some [(0,1),(1,1)]:=by kernel_rfl
theorem aes:fi prog 110=some 113:=by kernel_rfl
theorem aet:fQ prog 110=true:=by kernel_rfl
theorem Qf:bA prog 113=some 5:=by kernel_rfl
theorem aeu:bytes? prog 113=some 88:=by kernel_rfl
theorem CO:dD prog 113=some (.agg #[(.bool false),(.slice none 0 0),(.bool false),(.slice none 0 0),(.slice none 0 0)]):=by kernel_rfl
theorem aev:prog.underlying 110=some (.slice 113):=by kernel_rfl
theorem aew:dr prog 113=some true:=by kernel_rfl
theorem aey:fW prog 113 0=some 0:=by kernel_rfl
theorem Qg:lE prog 69=some [(0,1),(1,1)]:=by kernel_rfl
theorem aez:dr prog 69=some true:=by kernel_rfl
theorem aeA:fW prog 113 1=some 4:=by kernel_rfl
theorem aeB:fW prog 69 1=some 1:=by kernel_rfl
theorem aeC:fi prog 115=some 4:=by kernel_rfl
theorem aeD:fQ prog 115=true:=by kernel_rfl
theorem aeE:bytes? prog 4=some 1:=by kernel_rfl
theorem aeF:dD prog 4=some (.bool false):=by kernel_rfl
theorem aeG:prog.underlying 115=some (.slice 4):=by kernel_rfl
theorem acJ:bA prog 22=some 1:=by kernel_rfl
theorem acK:dr prog 22=some false:=by kernel_rfl
theorem acL:fi prog 120=some 80:=by kernel_rfl
theorem acM:fQ prog 120=true:=by kernel_rfl
theorem acN:bytes? prog 80=some 64:=by kernel_rfl
theorem acO:prog.underlying 120=some (.slice 80):=by kernel_rfl
theorem acP:fi prog 72=some 120:=by kernel_rfl
theorem acQ:fQ prog 72=true:=by kernel_rfl
theorem acR:bA prog 120=some 1:=by kernel_rfl
theorem acS:bytes? prog 120=some 24:=by kernel_rfl
theorem acU:dD prog 120=some (.slice none 0 0):=by kernel_rfl
theorem acV:prog.underlying 72=some (.slice 120):=by kernel_rfl
theorem P0:lE prog 74=some [(0,1)]:=by kernel_rfl
theorem acW:fW prog 74 0=some 0:=by kernel_rfl
theorem acX:dr prog 72=some false:=by kernel_rfl
theorem acY:bA prog 72=some 1:=by kernel_rfl
theorem acZ:dr prog 120=some false:=by kernel_rfl
theorem ac0:fW prog 80 0=some 0:=by kernel_rfl
theorem ac1:dr prog 78=some true:=by kernel_rfl
theorem P1:bA prog 78=some 2:=by kernel_rfl
theorem ac3:fW prog 80 1=some 2:=by kernel_rfl
theorem CH:dD prog 78=some (.agg #[(.bool false),(.slice none 0 0)]):=by kernel_rfl
theorem ac4:fW prog 78 1=some 1:=by kernel_rfl
theorem ac5:dr prog 76=some false:=by kernel_rfl
theorem ac6:bA prog 76=some 1:=by kernel_rfl
theorem ac7:fi prog 76=some 124:=by kernel_rfl
theorem ac8:fQ prog 76=true:=by kernel_rfl
theorem ac9:bA prog 124=some 1:=by kernel_rfl
theorem ada:bytes? prog 124=some 4:=by kernel_rfl
theorem adb:dD prog 124=some (.int .u32 0):=by kernel_rfl
theorem adf:prog.underlying 76=some (.slice 124):=by kernel_rfl
theorem adg:dr prog 124=some false:=by kernel_rfl
theorem ug:ki prog 124=some .u32:=by kernel_rfl
theorem zp:ki prog 123=some .u64:=by kernel_rfl
theorem adh:fW prog 78 0=some 0:=by kernel_rfl
theorem adi:fW prog 40 1=some 1:=by kernel_rfl
theorem CI:dD prog 40=some (.agg #[(.bool false),(.slice none 0 0)]):=by kernel_rfl
theorem adj:uG prog 4=true:=by kernel_rfl
theorem P2:lE prog 40=some [(0,1),(1,1)]:=by kernel_rfl
theorem P3:dD prog 140=some (.agg #[(.slice none 0 0),(.slice none 0 0),(.slice none 0 0)]):=by kernel_rfl
theorem P4:lE prog 140=some [(0,1),(1,1),(2,1)]:=by kernel_rfl
theorem adl:bA prog 140=some 3:=by kernel_rfl
theorem adm:fW prog 140 2=some 2:=by kernel_rfl
theorem adn:bA prog 115=some 1:=by kernel_rfl
theorem ado:fW prog 140 1=some 1:=by kernel_rfl
theorem P5:lE prog 113=some [(0,4),(4,1)]:=by kernel_rfl
theorem P6:lE prog 80=some [(0,2),(2,2)]:=by kernel_rfl
theorem adp:prog.concrete 9=true:=by kernel_rfl
theorem zq:ki prog 142=some .u64:=by kernel_rfl
theorem adq:pc prog 40 1=some (1,none):=by kernel_rfl
theorem ads:fW prog 140 0=some 0:=by kernel_rfl
theorem adt:dr prog 115=some false:=by kernel_rfl
theorem P7:lE prog 78=some [(0,1),(1,1)]:=by kernel_rfl
attribute [simp] uf acH ady adJ P8 ad3 CM aeg aep aex acI acT ac2 ade adk adr adu adv adw adx adz adA adB adC adD adE adF adG adH adI adK adL adM adN adO adP zr adQ adR adS adT adU adV adW adX adY adZ ad0 ad1 ad2 ad4 P9 ad5 CJ ad6 ad7 CK P_ ad8 CL Qa ad9 aea aeb aec aed aee aef CN Qb aeh aei aej aek Qc ael Qd aem aen aeo aeq aer Qe aes aet Qf aeu CO aev aew aey Qg aez aeA aeB aeC aeD aeE aeF aeG acJ acK acL acM acN acO acP acQ acR acS acU acV P0 acW acX acY acZ ac0 ac1 P1 ac3 CH ac4 ac5 ac6 ac7 ac8 ac9 ada adb adf adg ug zp adh adi CI adj P2 P3 P4 adl adm adn ado P5 P6 adp zq adq ads adt P7
@[simp] theorem ahN{r:List bG}{F:Fr}{H:ab}{Q:Fr->ab->Prop}(d:Nat)(x:Operand)(J:isInt (aq F x)=true)(ax:bb (cg d 5 3 x::r) Q):ba prog (cg d 5 3 x::r) Q ax F H=ba prog r Q .mk (a2 F d (.int .i64 (IntKind.i64.wrap (intOf (aq F x))))) H:=nO zr uf J ax
@[simp] theorem ahL{r:List bG}{F:Fr}{H:ab}{Q:Fr->ab->Prop}(d:Nat)(x:Operand)(J:isInt (aq F x)=true)(ax:bb (cg d 3 5 x::r) Q):ba prog (cg d 3 5 x::r) Q ax F H=ba prog r Q .mk (a2 F d (.int .u8 (IntKind.u8.wrap (intOf (aq F x))))) H:=nO uf zr J ax
@[simp high] theorem agU{r:List bG}{F:Fr}{H:ab}{Q:Fr->ab->Prop}(d:Nat)(ax:bb (bQ d 74::r) Q):ba prog (bQ d 74::r) Q ax F H=ba prog r Q .mk (a2 F d (.pointer (some ⟨H.length,0,none⟩))) (H++[.own 74 false [(.slice none 0 0)]]):=by rw[so,CK,gm,show flat (.agg #[(.slice none 0 0)])=true from by kernel_rfl,P_];simp[Value.cells]
theorem afh:Whole prog 74 (.agg #[(.slice none 0 0)]):=⟨by kernel_rfl,by kernel_rfl,(by rw[if_pos (by rfl)];kernel_rfl)⟩
@[simp] theorem alZ{F G:Fr}{H:ab}{r:List hf}{Q:Fr->Fr->ab->Prop}(c:Nat)(ax:bb (.bQ c 74::r) Q):eo prog (.bQ c 74::r) Q ax F G H=eo prog r Q .mk (a2 F c (.pointer (some ⟨H.length,0,none⟩))) (a2 G c (.agg #[(.slice none 0 0)])) (H++[.dead]):=sv CK (by kernel_rfl) afh ax
@[simp high] theorem agW{r:List bG}{F:Fr}{H:ab}{Q:Fr->ab->Prop}(d:Nat)(ax:bb (bQ d 80::r) Q):ba prog (bQ d 80::r) Q ax F H=ba prog r Q .mk (a2 F d (.pointer (some ⟨H.length,0,none⟩))) (H++[.own 80 false [(.bool false),(.slice none 0 0),(.bool false),(.slice none 0 0)]]):=by rw[so,CL,gm,show flat (.agg #[(.bool false),(.slice none 0 0),(.bool false),(.slice none 0 0)])=true from by kernel_rfl,Qa];simp[Value.cells]
theorem afj:Whole prog 80 (.agg #[(.bool false),(.slice none 0 0),(.bool false),(.slice none 0 0)]):=⟨by kernel_rfl,by kernel_rfl,(by rw[if_pos (by rfl)];kernel_rfl)⟩
@[simp] theorem al1{F G:Fr}{H:ab}{r:List hf}{Q:Fr->Fr->ab->Prop}(c:Nat)(ax:bb (.bQ c 80::r) Q):eo prog (.bQ c 80::r) Q ax F G H=eo prog r Q .mk (a2 F c (.pointer (some ⟨H.length,0,none⟩))) (a2 G c (.agg #[(.bool false),(.slice none 0 0),(.bool false),(.slice none 0 0)])) (H++[.dead]):=sv CL (by kernel_rfl) afj ax
@[simp high] theorem agX{r:List bG}{F:Fr}{H:ab}{Q:Fr->ab->Prop}(d:Nat)(ax:bb (bQ d 93::r) Q):ba prog (bQ d 93::r) Q ax F H=ba prog r Q .mk (a2 F d (.pointer (some ⟨H.length,0,none⟩))) (H++[.own 93 false [(.string {data:= #[]}),(.slice none 0 0)]]):=by rw[so,CM,gm,show flat (.agg #[(.string {data:= #[]}),(.slice none 0 0)])=true from by kernel_rfl,P8];simp[Value.cells]
theorem afk:Whole prog 93 (.agg #[(.string {data:= #[]}),(.slice none 0 0)]):=⟨by kernel_rfl,by kernel_rfl,(by rw[if_pos (by rfl)];kernel_rfl)⟩
@[simp] theorem al2{F G:Fr}{H:ab}{r:List hf}{Q:Fr->Fr->ab->Prop}(c:Nat)(ax:bb (.bQ c 93::r) Q):eo prog (.bQ c 93::r) Q ax F G H=eo prog r Q .mk (a2 F c (.pointer (some ⟨H.length,0,none⟩))) (a2 G c (.agg #[(.string {data:= #[]}),(.slice none 0 0)])) (H++[.dead]):=sv CM (by kernel_rfl) afk ax
@[simp high] theorem agS{r:List bG}{F:Fr}{H:ab}{Q:Fr->ab->Prop}(d:Nat)(ax:bb (bQ d 42::r) Q):ba prog (bQ d 42::r) Q ax F H=ba prog r Q .mk (a2 F d (.pointer (some ⟨H.length,0,none⟩))) (H++[.own 42 false [(.bool false),(.slice none 0 0),(.bool false),(.slice none 0 0)]]):=by rw[so,CN,gm,show flat (.agg #[(.bool false),(.slice none 0 0),(.bool false),(.slice none 0 0)])=true from by kernel_rfl,Qb];simp[Value.cells]
theorem aff:Whole prog 42 (.agg #[(.bool false),(.slice none 0 0),(.bool false),(.slice none 0 0)]):=⟨by kernel_rfl,by kernel_rfl,(by rw[if_pos (by rfl)];kernel_rfl)⟩
@[simp] theorem alX{F G:Fr}{H:ab}{r:List hf}{Q:Fr->Fr->ab->Prop}(c:Nat)(ax:bb (.bQ c 42::r) Q):eo prog (.bQ c 42::r) Q ax F G H=eo prog r Q .mk (a2 F c (.pointer (some ⟨H.length,0,none⟩))) (a2 G c (.agg #[(.bool false),(.slice none 0 0),(.bool false),(.slice none 0 0)])) (H++[.dead]):=sv CN (by kernel_rfl) aff ax
@[simp] theorem sQ{r:List bG}{F:Fr}{H:ab}{Q:Fr->ab->Prop}(d:Nat)(a5:List (Nat×Operand))(ax:bb (dF d 42 a5::r) Q):ba prog (dF d 42 a5::r) Q ax F H=gl (fun out=>ba prog r Q .mk (a2 F d (.agg out.toArray)) H) .mk (kA [(0,2),(2,2)] (Value.cells (.agg #[(.bool false),(.slice none 0 0),(.bool false),(.slice none 0 0)])).toList (a5.map fun p=>(p.1,aq F p.2))):=qW CN (by kernel_rfl) Qd ax
@[simp] theorem ahh{r:List bG}{F:Fr}{H:ab}{Q:Fr->ab->Prop}(d:Nat)(a5:List (Nat×Operand))(ax:bb (dF d 93 a5::r) Q):ba prog (dF d 93 a5::r) Q ax F H=gl (fun out=>ba prog r Q .mk (a2 F d (.agg out.toArray)) H) .mk (kA [(0,1),(1,1)] (Value.cells (.agg #[(.string {data:= #[]}),(.slice none 0 0)])).toList (a5.map fun p=>(p.1,aq F p.2))):=qW CM (by kernel_rfl) Qe ax
@[simp high] theorem agQ{r:List bG}{F:Fr}{H:ab}{Q:Fr->ab->Prop}(d:Nat)(ax:bb (bQ d 113::r) Q):ba prog (bQ d 113::r) Q ax F H=ba prog r Q .mk (a2 F d (.pointer (some ⟨H.length,0,none⟩))) (H++[.own 113 false [(.bool false),(.slice none 0 0),(.bool false),(.slice none 0 0),(.slice none 0 0)]]):=by rw[so,CO,gm,show flat (.agg #[(.bool false),(.slice none 0 0),(.bool false),(.slice none 0 0),(.slice none 0 0)])=true from by kernel_rfl,Qf];simp[Value.cells]
theorem afd:Whole prog 113 (.agg #[(.bool false),(.slice none 0 0),(.bool false),(.slice none 0 0),(.slice none 0 0)]):=⟨by kernel_rfl,by kernel_rfl,(by rw[if_pos (by rfl)];kernel_rfl)⟩
@[simp] theorem alV{F G:Fr}{H:ab}{r:List hf}{Q:Fr->Fr->ab->Prop}(c:Nat)(ax:bb (.bQ c 113::r) Q):eo prog (.bQ c 113::r) Q ax F G H=eo prog r Q .mk (a2 F c (.pointer (some ⟨H.length,0,none⟩))) (a2 G c (.agg #[(.bool false),(.slice none 0 0),(.bool false),(.slice none 0 0),(.slice none 0 0)])) (H++[.dead]):=sv CO (by kernel_rfl) afd ax
@[simp] theorem ahd{r:List bG}{F:Fr}{H:ab}{Q:Fr->ab->Prop}(d:Nat)(a5:List (Nat×Operand))(ax:bb (dF d 69 a5::r) Q):ba prog (dF d 69 a5::r) Q ax F H=gl (fun out=>ba prog r Q .mk (a2 F d (.agg out.toArray)) H) .mk (kA [(0,1),(1,1)] (Value.cells (.agg #[(.int .i64 0),(.slice none 0 0)])).toList (a5.map fun p=>(p.1,aq F p.2))):=qW CJ (by kernel_rfl) Qg ax
@[simp high] theorem agT{r:List bG}{F:Fr}{H:ab}{Q:Fr->ab->Prop}(d:Nat)(ax:bb (bQ d 69::r) Q):ba prog (bQ d 69::r) Q ax F H=ba prog r Q .mk (a2 F d (.pointer (some ⟨H.length,0,none⟩))) (H++[.own 69 false [(.int .i64 0),(.slice none 0 0)]]):=by rw[so,CJ,gm,show flat (.agg #[(.int .i64 0),(.slice none 0 0)])=true from by kernel_rfl,P9];simp[Value.cells]
theorem afg:Whole prog 69 (.agg #[(.int .i64 0),(.slice none 0 0)]):=⟨by kernel_rfl,by kernel_rfl,(by rw[if_pos (by rfl)];kernel_rfl)⟩
@[simp] theorem alY{F G:Fr}{H:ab}{r:List hf}{Q:Fr->Fr->ab->Prop}(c:Nat)(ax:bb (.bQ c 69::r) Q):eo prog (.bQ c 69::r) Q ax F G H=eo prog r Q .mk (a2 F c (.pointer (some ⟨H.length,0,none⟩))) (a2 G c (.agg #[(.int .i64 0),(.slice none 0 0)])) (H++[.dead]):=sv CJ (by kernel_rfl) afg ax
@[simp] theorem ahe{r:List bG}{F:Fr}{H:ab}{Q:Fr->ab->Prop}(d:Nat)(a5:List (Nat×Operand))(ax:bb (dF d 74 a5::r) Q):ba prog (dF d 74 a5::r) Q ax F H=gl (fun out=>ba prog r Q .mk (a2 F d (.agg out.toArray)) H) .mk (kA [(0,1)] (Value.cells (.agg #[(.slice none 0 0)])).toList (a5.map fun p=>(p.1,aq F p.2))):=qW CK (by kernel_rfl) P0 ax
@[simp high] theorem agV{r:List bG}{F:Fr}{H:ab}{Q:Fr->ab->Prop}(d:Nat)(ax:bb (bQ d 78::r) Q):ba prog (bQ d 78::r) Q ax F H=ba prog r Q .mk (a2 F d (.pointer (some ⟨H.length,0,none⟩))) (H++[.own 78 false [(.bool false),(.slice none 0 0)]]):=by rw[so,CH,gm,show flat (.agg #[(.bool false),(.slice none 0 0)])=true from by kernel_rfl,P1];simp[Value.cells]
@[simp] theorem ahE{r:List bG}{F:Fr}{H:ab}{Q:Fr->ab->Prop}(d:Nat)(x:Operand)(J:isInt (aq F x)=true)(ax:bb (cg d 124 123 x::r) Q):ba prog (cg d 124 123 x::r) Q ax F H=ba prog r Q .mk (a2 F d (.int .u64 (IntKind.u64.wrap (intOf (aq F x))))) H:=nO ug zp J ax
@[simp] theorem ahD{r:List bG}{F:Fr}{H:ab}{Q:Fr->ab->Prop}(d:Nat)(x:Operand)(J:isInt (aq F x)=true)(ax:bb (cg d 123 3 x::r) Q):ba prog (cg d 123 3 x::r) Q ax F H=ba prog r Q .mk (a2 F d (.int .i64 (IntKind.i64.wrap (intOf (aq F x))))) H:=nO zp uf J ax
@[simp high] theorem agR{r:List bG}{F:Fr}{H:ab}{Q:Fr->ab->Prop}(d:Nat)(ax:bb (bQ d 40::r) Q):ba prog (bQ d 40::r) Q ax F H=ba prog r Q .mk (a2 F d (.pointer (some ⟨H.length,0,none⟩))) (H++[.own 40 false [(.bool false),(.slice none 0 0)]]):=by rw[so,CI,gm,show flat (.agg #[(.bool false),(.slice none 0 0)])=true from by kernel_rfl,Qc];simp[Value.cells]
theorem afe:Whole prog 40 (.agg #[(.bool false),(.slice none 0 0)]):=⟨by kernel_rfl,by kernel_rfl,(by rw[if_pos (by rfl)];kernel_rfl)⟩
@[simp] theorem alW{F G:Fr}{H:ab}{r:List hf}{Q:Fr->Fr->ab->Prop}(c:Nat)(ax:bb (.bQ c 40::r) Q):eo prog (.bQ c 40::r) Q ax F G H=eo prog r Q .mk (a2 F c (.pointer (some ⟨H.length,0,none⟩))) (a2 G c (.agg #[(.bool false),(.slice none 0 0)])) (H++[.dead]):=sv CI (by kernel_rfl) afe ax
@[simp] theorem ahc{r:List bG}{F:Fr}{H:ab}{Q:Fr->ab->Prop}(d:Nat)(a5:List (Nat×Operand))(ax:bb (dF d 40 a5::r) Q):ba prog (dF d 40 a5::r) Q ax F H=gl (fun out=>ba prog r Q .mk (a2 F d (.agg out.toArray)) H) .mk (kA [(0,1),(1,1)] (Value.cells (.agg #[(.bool false),(.slice none 0 0)])).toList (a5.map fun p=>(p.1,aq F p.2))):=qW CI (by kernel_rfl) P2 ax
@[simp] theorem ahb{r:List bG}{F:Fr}{H:ab}{Q:Fr->ab->Prop}(d:Nat)(a5:List (Nat×Operand))(ax:bb (dF d 140 a5::r) Q):ba prog (dF d 140 a5::r) Q ax F H=gl (fun out=>ba prog r Q .mk (a2 F d (.agg out.toArray)) H) .mk (kA [(0,1),(1,1),(2,1)] (Value.cells (.agg #[(.slice none 0 0),(.slice none 0 0),(.slice none 0 0)])).toList (a5.map fun p=>(p.1,aq F p.2))):=qW P3 (by kernel_rfl) P4 ax
@[simp] theorem Q_{r:List bG}{F:Fr}{H:ab}{Q:Fr->ab->Prop}(d:Nat)(a5:List (Nat×Operand))(ax:bb (dF d 113 a5::r) Q):ba prog (dF d 113 a5::r) Q ax F H=gl (fun out=>ba prog r Q .mk (a2 F d (.agg out.toArray)) H) .mk (kA [(0,4),(4,1)] (Value.cells (.agg #[(.bool false),(.slice none 0 0),(.bool false),(.slice none 0 0),(.slice none 0 0)])).toList (a5.map fun p=>(p.1,aq F p.2))):=qW CO (by kernel_rfl) P5 ax
@[simp] theorem ahg{r:List bG}{F:Fr}{H:ab}{Q:Fr->ab->Prop}(d:Nat)(a5:List (Nat×Operand))(ax:bb (dF d 80 a5::r) Q):ba prog (dF d 80 a5::r) Q ax F H=gl (fun out=>ba prog r Q .mk (a2 F d (.agg out.toArray)) H) .mk (kA [(0,2),(2,2)] (Value.cells (.agg #[(.bool false),(.slice none 0 0),(.bool false),(.slice none 0 0)])).toList (a5.map fun p=>(p.1,aq F p.2))):=qW CL (by kernel_rfl) P6 ax
@[simp] theorem ahK{r:List bG}{F:Fr}{H:ab}{Q:Fr->ab->Prop}(d:Nat)(x:Operand)(J:isInt (aq F x)=true)(ax:bb (cg d 3 142 x::r) Q):ba prog (cg d 3 142 x::r) Q ax F H=ba prog r Q .mk (a2 F d (.int .u64 (IntKind.u64.wrap (intOf (aq F x))))) H:=nO uf zq J ax
@[simp] theorem ahI{r:List bG}{F:Fr}{H:ab}{Q:Fr->ab->Prop}(d:Nat)(x:Operand)(J:isInt (aq F x)=true)(ax:bb (cg d 142 3 x::r) Q):ba prog (cg d 142 3 x::r) Q ax F H=ba prog r Q .mk (a2 F d (.int .i64 (IntKind.i64.wrap (intOf (aq F x))))) H:=nO zq uf J ax
@[simp] theorem ahG{r:List bG}{F:Fr}{H:ab}{Q:Fr->ab->Prop}(d:Nat)(x:Operand)(J:isInt (aq F x)=true)(ax:bb (cg d 124 5 x::r) Q):ba prog (cg d 124 5 x::r) Q ax F H=ba prog r Q .mk (a2 F d (.int .u8 (IntKind.u8.wrap (intOf (aq F x))))) H:=nO ug zr J ax
@[simp] theorem ahJ{r:List bG}{F:Fr}{H:ab}{Q:Fr->ab->Prop}(d:Nat)(x:Operand)(J:isInt (aq F x)=true)(ax:bb (cg d 3 123 x::r) Q):ba prog (cg d 3 123 x::r) Q ax F H=ba prog r Q .mk (a2 F d (.int .u64 (IntKind.u64.wrap (intOf (aq F x))))) H:=nO uf zp J ax
@[simp] theorem ahC{r:List bG}{F:Fr}{H:ab}{Q:Fr->ab->Prop}(d:Nat)(x:Operand)(J:isInt (aq F x)=true)(ax:bb (cg d 123 124 x::r) Q):ba prog (cg d 123 124 x::r) Q ax F H=ba prog r Q .mk (a2 F d (.int .u32 (IntKind.u32.wrap (intOf (aq F x))))) H:=nO zp ug J ax
@[simp] theorem ahH{r:List bG}{F:Fr}{H:ab}{Q:Fr->ab->Prop}(d:Nat)(x:Operand)(J:isInt (aq F x)=true)(ax:bb (cg d 142 124 x::r) Q):ba prog (cg d 142 124 x::r) Q ax F H=ba prog r Q .mk (a2 F d (.int .u32 (IntKind.u32.wrap (intOf (aq F x))))) H:=nO zq ug J ax
@[simp] theorem ahF{r:List bG}{F:Fr}{H:ab}{Q:Fr->ab->Prop}(d:Nat)(x:Operand)(J:isInt (aq F x)=true)(ax:bb (cg d 124 142 x::r) Q):ba prog (cg d 124 142 x::r) Q ax F H=ba prog r Q .mk (a2 F d (.int .u64 (IntKind.u64.wrap (intOf (aq F x))))) H:=nO ug zq J ax
@[simp] theorem ahf{r:List bG}{F:Fr}{H:ab}{Q:Fr->ab->Prop}(d:Nat)(a5:List (Nat×Operand))(ax:bb (dF d 78 a5::r) Q):ba prog (dF d 78 a5::r) Q ax F H=gl (fun out=>ba prog r Q .mk (a2 F d (.agg out.toArray)) H) .mk (kA [(0,1),(1,1)] (Value.cells (.agg #[(.bool false),(.slice none 0 0)])).toList (a5.map fun p=>(p.1,aq F p.2))):=qW CH (by kernel_rfl) P7 ax
@[simp] theorem ahM{r:List bG}{F:Fr}{H:ab}{Q:Fr->ab->Prop}(d:Nat)(x:Operand)(J:isInt (aq F x)=true)(ax:bb (cg d 5 124 x::r) Q):ba prog (cg d 5 124 x::r) Q ax F H=ba prog r Q .mk (a2 F d (.int .u32 (IntKind.u32.wrap (intOf (aq F x))))) H:=nO zr ug J ax
theorem afi:Whole prog 78 (.agg #[(.bool false),(.slice none 0 0)]):=⟨by kernel_rfl,by kernel_rfl,(by rw[if_pos (by rfl)];kernel_rfl)⟩
@[simp] theorem al0{F G:Fr}{H:ab}{r:List hf}{Q:Fr->Fr->ab->Prop}(c:Nat)(ax:bb (.bQ c 78::r) Q):eo prog (.bQ c 78::r) Q ax F G H=eo prog r Q .mk (a2 F c (.pointer (some ⟨H.length,0,none⟩))) (a2 G c (.agg #[(.bool false),(.slice none 0 0)])) (H++[.dead]):=sv CH (by kernel_rfl) afi ax
theorem Zd:gw 31 29 Ih:=fx Tryz.f31
theorem YA:gw 36 5 H6:=fx Tryz.f36
theorem YY:gw 39 15 Ic:=fx Tryz.f39
theorem Y6:gw 48 6 Ie:=fx Tryz.f48
theorem Y8:gw 49 8 Ig:=fx Tryz.f49
theorem YE:gw 59 7 H8:=fx Tryz.f59
theorem Zh:gw 61 9 Ik:=fx Tryz.f61
theorem Ze:gw 62 15 Ii:=fx Tryz.f62
theorem Zi:gw 63 9 Il:=fx Tryz.f63
theorem Zf:gw 64 9 Ij:=fx Tryz.f64
theorem Yn:gw 66 16 HZ:=fx Tryz.f66
theorem Yl:gw 67 9 HY:=fx Tryz.f67
theorem YB:gw 75 6 H7:=fx Tryz.f75
theorem Yx:gw 79 16 H5:=fx Tryz.f79
theorem Yt:gw 88 20 H4:=fx Tryz.f88
theorem Zk:gw 90 19 Im:=fx Tryz.f90
theorem Zl:gw 91 19 Io:=fx Tryz.f91
theorem YJ:gw 92 13 H_:=fx Tryz.f92
theorem YP:gw 93 68 Da:=fx Tryz.f93
theorem Ys:gw 94 9 H3:=fx Tryz.f94
theorem Yq:gw 95 11 H2:=fx Tryz.f95
theorem YG:gw 101 41 H9:=fx Tryz.f101
theorem Yj:gw 104 6 HW:=fx Tryz.f104
theorem Yk:gw 105 42 HX:=fx Tryz.f105
theorem YF:gw 107 44 C9:=fx Tryz.f107
theorem YQ:gw 110 21 Ib:=fx Tryz.f110
theorem Yo:gw 113 9 H0:=fx Tryz.f113
theorem YM:gw 116 54 Ia:=fx Tryz.f116
theorem YK:gw 118 41 C_:=fx Tryz.f118
theorem X9:gw 122 22 HU:=fx Tryz.f122
theorem Yd:gw 127 25 HV:=fx Tryz.f127
theorem Ye:cU 4 99 IU:=c1 Tryz.f4 []
theorem Yi:cU 8 25 IY:=c1 Tryz.f8 []
theorem YZ:cU 9 6 Jk:=c1 Tryz.f9 [(6,74),(7,80),(9,80)]
theorem Y1:cU 10 12 Jm:=c1 Tryz.f10 []
theorem YX:cU 11 51 Jj:=c1 Tryz.f11 []
theorem Yg:cU 12 57 IW:=c1 Tryz.f12 []
theorem YS:cU 13 65 Je:=c1 Tryz.f13 []
theorem YW:cU 14 8 Ji:=c1 Tryz.f14 [(8,93)]
theorem YT:cU 16 7 Jf:=c1 Tryz.f16 [(7,42)]
theorem XO:cU 17 2 It:=c1 Tryz.f17 [(2,42),(3,42)]
theorem YU:cU 18 2 Jg:=c1 Tryz.f18 [(2,42),(3,42)]
theorem X1:cU 19 2 IG:=c1 Tryz.f19 [(2,42)]
theorem Y0:cU 20 6 Jl:=c1 Tryz.f20 [(6,74),(7,74),(8,80)]
theorem XV:cU 21 1 IA:=c1 Tryz.f21 [(1,42)]
theorem Yh:cU 22 45 IX:=c1 Tryz.f22 []
theorem XW:cU 23 2 IB:=c1 Tryz.f23 [(2,42),(3,42)]
theorem X0:cU 25 3 IF:=c1 Tryz.f25 [(3,42)]
theorem XM:cU 26 2 Ir:=c1 Tryz.f26 [(2,42),(3,42),(4,42)]
theorem Yf:cU 30 13 IV:=c1 Tryz.f30 []
theorem Y4:cU 32 2 Jp:=c1 Tryz.f32 [(2,74)]
theorem Y9:cU 33 1 Js:=c1 Tryz.f33 [(1,74),(2,80),(4,80),(7,80)]
theorem Zc:cU 34 1 Jw:=c1 Tryz.f34 [(1,74),(2,74)]
theorem Yw:cU 35 2 I4:=c1 Tryz.f35 [(2,80),(3,80)]
theorem Yr:cU 37 1 I1:=c1 Tryz.f37 [(1,78)]
theorem Za:cU 38 1 Ju:=c1 Tryz.f38 [(1,74),(6,113),(9,93)]
theorem YV:cU 40 59 Jh:=c1 Tryz.f40 []
theorem XY:cU 41 1 ID:=c1 Tryz.f41 [(1,40)]
theorem XS:cU 43 1 Ix:=c1 Tryz.f43 [(1,42),(2,42),(3,40),(4,40),(5,40),(6,40),(7,40)]
theorem XN:cU 44 2 Is:=c1 Tryz.f44 [(2,40),(3,40)]
theorem XT:cU 45 2 Iy:=c1 Tryz.f45 [(2,40),(3,40),(4,40)]
theorem XR:cU 46 2 Iw:=c1 Tryz.f46 [(2,40),(3,40)]
theorem Y2:cU 47 6 Jn:=c1 Tryz.f47 [(6,74),(7,80),(9,74),(10,80),(12,93),(13,80)]
theorem Y_:cU 50 2 Jt:=c1 Tryz.f50 [(2,74),(3,74),(8,80)]
theorem Yz:cU 51 1 I6:=c1 Tryz.f51 [(1,80)]
theorem X3:cU 52 1 II:=c1 Tryz.f52 [(1,40)]
theorem XK:cU 53 1 Ip:=c1 Tryz.f53 [(1,40),(2,40)]
theorem XX:cU 54 2 IC:=c1 Tryz.f54 [(2,42),(8,40),(10,40),(11,40)]
theorem XL:cU 56 2 Iq:=c1 Tryz.f56 [(2,40),(3,40),(4,40)]
theorem Y5:cU 58 1 Jq:=c1 Tryz.f58 [(1,74),(6,74),(11,80),(14,80)]
theorem Zo:cU 60 48 JB:=c1 Tryz.f60 []
theorem Y7:cU 65 2 Jr:=c1 Tryz.f65 [(2,74),(4,80),(5,80),(7,80)]
theorem Zb:cU 68 1 Jv:=c1 Tryz.f68 [(1,74),(2,74),(5,74),(6,80),(8,80)]
theorem XQ:cU 69 2 Iv:=c1 Tryz.f69 [(2,40),(3,40),(4,40),(5,40),(6,40)]
theorem XP:cU 70 2 Iu:=c1 Tryz.f70 [(2,40),(3,40),(4,40),(5,40),(12,40),(13,40)]
theorem XZ:cU 71 2 IE:=c1 Tryz.f71 [(2,40),(3,40),(4,40)]
theorem X4:cU 72 1 IJ:=c1 Tryz.f72 [(1,40),(2,40)]
theorem Zn:cU 73 48 JA:=c1 Tryz.f73 []
theorem Yu:cU 74 2 I2:=c1 Tryz.f74 [(2,80),(13,80)]
theorem Zj:cU 76 9 Jy:=c1 Tryz.f76 []
theorem Yv:cU 77 2 I3:=c1 Tryz.f77 [(2,80),(3,80),(4,80)]
theorem YO:cU 78 45 Jc:=c1 Tryz.f78 []
theorem X2:cU 80 2 IH:=c1 Tryz.f80 [(2,40),(4,40)]
theorem XU:cU 81 1 Iz:=c1 Tryz.f81 [(1,40),(2,40)]
theorem X6:cU 82 55 IL:=c1 Tryz.f82 []
theorem X7:cU 83 41 IM:=c1 Tryz.f83 []
theorem X5:cU 84 41 IK:=c1 Tryz.f84 []
theorem Zg:cU 85 8 Jx:=c1 Tryz.f85 []
theorem Y3:cU 86 69 Jo:=c1 Tryz.f86 []
theorem YC:cU 87 2 I7:=c1 Tryz.f87 [(2,80),(3,80),(4,80)]
theorem Yb:cU 89 30 IS:=c1 Tryz.f89 []
theorem Zp:cU 96 48 JC:=c1 Tryz.f96 []
theorem X8:cU 97 12 IN:=c1 Tryz.f97 []
theorem Zr:cU 98 13 JE:=c1 Tryz.f98 []
theorem Zs:cU 99 11 JF:=c1 Tryz.f99 []
theorem YN:cU 100 77 Jb:=c1 Tryz.f100 []
theorem Ym:cU 102 2 IZ:=c1 Tryz.f102 [(2,78),(3,78),(4,78)]
theorem Zm:cU 103 19 Jz:=c1 Tryz.f103 []
theorem YD:cU 106 2 I8:=c1 Tryz.f106 [(2,78),(3,78),(4,80),(5,78),(6,78),(7,78),(8,78),(9,78)]
theorem Zq:cU 108 28 JD:=c1 Tryz.f108 []
theorem Yy:cU 109 1 I5:=c1 Tryz.f109 [(1,80),(2,80)]
theorem Yc:cU 112 51 IT:=c1 Tryz.f112 []
theorem Zt:cU 114 23 JG:=c1 Tryz.f114 []
theorem Zu:cU 115 15 JH:=c1 Tryz.f115 []
theorem YL:cU 117 85 Ja:=c1 Tryz.f117 []
theorem Yp:cU 119 2 I0:=c1 Tryz.f119 [(2,78),(3,78),(4,78),(5,78),(8,78),(9,78)]
theorem Zw:cU 120 143 JJ:=c1 Tryz.f120 []
theorem Zv:cU 121 18 JI:=c1 Tryz.f121 []
theorem X_:cU 123 6 IP:=c1 Tryz.f123 []
theorem YR:cU 124 41 Jd:=c1 Tryz.f124 []
theorem YH:cU 125 162 I9:=c1 Tryz.f125 []
theorem YI:cU 126 45 I_:=c1 Tryz.f126 []
theorem Zx:cU 128 8 JK:=c1 Tryz.f128 []
theorem Ya:cU 132 19 IQ:=c1 Tryz.f132 []
end Go.dq
end
