/- Part of the proof of ShopJoined. -/
import Derived.Test.YtoiodfcefbapkaaGreatShopJoinedD
set_option linter.unusedVariables false
set_option linter.unusedSimpArgs false
section
set_option maxRecDepth 100000
namespace Go.cJ
open Go.Proofs
open Go.Proofs.Tryz (prog)
abbrev cU(f n:Nat)(z:cM):Prop:=∀{args:List Value} {H:ab} {Q:Value->ab->Prop},args.length<=n->cc prog z.code (yb z.results Q) .mk (jt args) (fun _=>undef) H->aP prog f args H Q
theorem c2{f n:Nat}{z:cM}(fn:Func)(C:Cells)(ay:prog.funcs[f]?=some fn:=by kernel_rfl)(aG:(fn.name== "runtime.NumGoroutine")=false:=by kernel_rfl)(ad:comp prog fn=some z.back:=by kernel_rfl)(aM:(kp prog C z.code&&tn C z.results)=true:=by kernel_rfl)(hm:Nat.ble n fn.ntmps=true:=by kernel_rfl)(wx:(C.all fun p=>decide (n<=p.1))=true:=by kernel_rfl):cU f n z:=
 fun ar h=>aP.aeH ay aG ad aM (Nat.le_trans ar (Nat.le_of_ble_eq_true hm)) (Qk ar wx) h
abbrev gn(f n:Nat)(z:fu):Prop:=∀{args:List Value} {H:ab} {Q:Value->ab->Prop},args.length<=n->gW prog z.code (qc prog z.results Q) .mk (jt args) H->aP prog f args H Q
theorem fs{f n:Nat}{z:fu}(fn:Func)(ay:prog.funcs[f]?=some fn:=by kernel_rfl)(aG:(fn.name== "runtime.NumGoroutine")=false:=by kernel_rfl)(ad:comp prog fn=some z:=by kernel_rfl)(hm:Nat.ble n fn.ntmps=true:=by kernel_rfl):gn f n z:=
 fun ar h=>aP.X6 ay aG ad (Nat.le_trans ar (Nat.le_of_ble_eq_true hm)) h
def G7:fu:=⟨.seq (.ops [cl 1 22 (T 0),ak 2 (C (.bool false))])
 (.seq (.seq (.ops [aI 3 22 (T 1),bF 4 22 (T 3),bi 5 .lss 3 (T 4) (ai 1),I 6 (T 5),aT 6 false (aI 7 22 (T 1)),aT 6 false (bF 8 22 (T 7)),
  aT 6 false (bi 9 .gtr 3 (T 8) (ai 8)),cR 10 (T 6) (C (.bool true)) (T 9),I 11 (T 10),aT 11 false (aI 12 22 (T 1)),
  aT 11 false (bu 13 22 (T 12) (ai 0)),aT 11 false (aI 14 34 (T 13)),aT 11 false (bF 15 34 (T 14)),aT 11 false (bi 16 .lss 3 (T 15) (ai 1)),
  (cR 17 (T 11) (C (.bool true)) (T 16)),I 18 (T 17),aT 18 false (aI 19 22 (T 1)),aT 18 false (bu 20 22 (T 19) (ai 0)),
  aT 18 false (aI 21 34 (T 20)),aT 18 false (bF 22 34 (T 21)),aT 18 false (bi 23 .gtr 3 (T 22) (ai 8)),cR 24 (T 18) (C (.bool true)) (T 23)])
 (.cond (T 24) (.seq (.ops [ak 2 (C (.bool false))])
 (.ret))
 (.skip)))
 (.seq (.ops [aI 25 22 (T 1),u9 26 (.func 62) #[] #[T 1],aS 27 61 [T 25,T 26],un 28 .not (T 27),ak 2 (T 28)])
 (.ret))),[.tmp 2]⟩
def GY:fu:=⟨.seq (.ops [cl 1 80 (T 0),bL 2 78])
 (.seq (.ops [a9 3 80 (T 1) 0,aI 4 78 (T 3),st 78 (T 2) (T 4)])
 (.ret)),[.cell 2 78]⟩
def G5:fu:=⟨.seq (.ops [cl 1 74 (T 0),ak 2 (ai 0)])
 (.seq (.ops [a9 3 74 (T 1) 0,aI 4 72 (T 3),bF 5 72 (T 4),ak 2 (T 5)])
 (.ret)),[.tmp 2]⟩
def G6:fu:=⟨.seq (.ops [cl 1 74 (T 0),ak 2 (ai 0)])
 (.seq (.ops [a9 3 74 (T 1) 0,aI 4 72 (T 3),bu 5 72 (T 4) (ai 0),aI 6 120 (T 5),bF 7 120 (T 6),ak 2 (T 7)])
 (.ret)),[.tmp 2]⟩
def G0:fu:=⟨.seq (.ops [bL 2 80])
 (.seq (.ops [I 3 (T 0),aS 4 88 [T 3],aS 5 88 [ai 1],dB 6 80 [(0,T 4),(1,T 5)],st 80 (T 2) (T 6)])
 (.ret)),[.cell 2 80]⟩
def G_:fu:=⟨.seq (.ops [ak 4 (C (.bool false))])
 (.seq (.ops [I 5 (T 0),I 6 (T 1),aS 7 90 [T 5,T 6],bi 8 .geq 3 (T 7) (ai 0),ak 4 (T 8)])
 (.ret)),[.tmp 4]⟩
def G8:fu:=⟨.seq (.ops [ak 3 (C (.bool false))])
 (.seq (.ops [I 4 (T 0),bF 5 34 (T 4),aI 6 22 (T 1),bu 7 22 (T 6) (ai 0),aI 8 34 (T 7),bF 9 34 (T 8),bi 10 .neq 3 (T 5) (T 9),I 11 (T 10),
  aT 11 false (I 12 (T 0)),aT 11 false (aS 13 63 [T 12,Gr 64]),cR 14 (T 11) (C (.bool true)) (T 13),ak 3 (T 14)])
 (.ret)),[.tmp 3]⟩
def Ha:fu:=⟨.seq (.ops [ak 4 (C (.bool false))])
 (.seq (.ops [I 5 (T 0),I 6 (T 1),aS 7 91 [T 5,T 6],bi 8 .geq 3 (T 7) (ai 0),ak 4 (T 8)])
 (.ret)),[.tmp 4]⟩
def G9:fu:=⟨.seq (.ops [ak 2 (C (.bool false))])
 (.seq (.ops [I 3 (T 0),bi 4 .lss 3 (T 3) (ai 0),I 5 (T 4),aT 5 false (I 6 (T 0)),aT 5 false (bi 7 .gtr 3 (T 6) (ai 1000)),
  (cR 8 (T 5) (C (.bool true)) (T 7)),ak 2 (T 8)])
 (.ret)),[.tmp 2]⟩
def GR:fu:=⟨.seq (.ops [cl 2 78 (T 0),cl 3 78 (T 1),bL 4 78])
 (.seq (.ops [a9 5 78 (T 2) 0,aI 6 4 (T 5),a9 7 78 (T 3) 0,aI 8 4 (T 7),bi 9 .neq 4 (T 6) (T 8),a9 10 78 (T 2) 1,aI 11 76 (T 10),
  (a9 12 78 (T 3) 1),aI 13 76 (T 12),bj (aS 14 93 [T 11,T 13]),aS 15 92 [T 9,T 14],st 78 (T 4) (T 15)])
 (.ret)),[.cell 4 78]⟩
def GQ:fu:=⟨.seq (.ops [cl 2 78 (T 0),cl 3 78 (T 1),ak 4 (ai 0)])
 (.seq (.ops [aI 5 78 (T 2),aI 6 78 (T 3),aS 7 94 [T 5,T 6],aS 8 95 [T 7],ak 4 (T 8)])
 (.ret)),[.tmp 4]⟩
def GZ:fu:=⟨.seq (.ops [cl 1 80 (T 0),ak 2 (ai 0)])
 (.seq (.ops [a9 3 80 (T 1) 0,aI 4 78 (T 3),aS 5 95 [T 4],ak 2 (T 5)])
 (.ret)),[.tmp 2]⟩
def GX:fu:=⟨.seq (.ops [cl 1 80 (T 0),ak 2 (C (.bool false))])
 (.seq (.ops [a9 3 80 (T 1) 1,a9 4 78 (T 3) 1,aI 5 76 (T 4),bF 6 76 (T 5),bi 7 .eql 3 (T 6) (ai 1),I 8 (T 7),aT 8 true (a9 9 80 (T 1) 1),
  aT 8 true (a9 10 78 (T 9) 1),aT 8 true (aI 11 76 (T 10)),aT 8 true (bu 12 76 (T 11) (ai 0)),aT 8 true (aI 13 124 (T 12)),
  aT 8 true ((bi 14 .eql 124 (T 13) (C (.int .u32 1)))),cR 15 (T 8) (T 14) (C (.bool false)),ak 2 (T 15)])
 (.ret)),[.tmp 2]⟩
def GW:fu:=⟨.seq (.ops [bL 2 78])
 (.seq (.ops [I 4 (T 0),ch 5 3 123 (T 4),ak 3 (T 5)])
 (.seq (.seq (.ops [I 6 (T 0),bi 7 .lss 3 (T 6) (ai 0)])
 (.cond (T 7) (.ops [I 8 (T 3),un 9 .neg (T 8),ak 3 (T 9)])
 (.skip)))
 (.seq (.ops [I 10 (T 0),bi 11 .lss 3 (T 10) (ai 0),I 12 (T 3),ch 13 123 124 (T 12),I 14 (T 3),bi 15 .shr 123 (T 14) (C (.int .u64 32)),
  (ch 16 123 124 (T 15)),ei 17 76 2 [(0,T 13),(1,T 16)],aS 18 110 [T 17],aS 19 92 [T 11,T 18],st 78 (T 2) (T 19)])
 (.ret)))),[.cell 2 78]⟩
def Hb:fu:=⟨.seq (.ops [ak 4 (ai 0)])
 (.seq (.seq (.ops [I 6 (T 0),bF 7 22 (T 6),I 8 (ai 0)])
 (.block 0 (.loop (.seq (.ops [bi 9 .lss 3 (T 8) (T 7)])
 (.seq (.cond (T 9) (.skip)
 (.exit 0))
 (.seq (.block 1 (.seq (.ops [I 10 (T 8),ak 5 (T 10)])
 (.seq (.ops [I 11 (T 1),I 12 (T 0),I 13 (T 5),bu 14 22 (T 12) (T 13),aI 15 34 (T 14),l7 16 (T 11) [T 15]])
 (.cond (T 16) (.seq (.ops [I 17 (T 5),ak 4 (T 17)])
 (.ret))
 (.skip)))))
 (.ops [bi 18 .add 3 (T 8) (ai 1),I 8 (T 18)])))))))
 (.seq (.ops [ak 4 (ai (-1))])
 (.ret))),[.tmp 4]⟩
def Hc:fu:=⟨.seq (.ops [ak 4 (ai 0)])
 (.seq (.seq (.ops [I 6 (T 0),bF 7 34 (T 6),I 8 (ai 0)])
 (.block 0 (.loop (.seq (.ops [bi 9 .lss 3 (T 8) (T 7)])
 (.seq (.cond (T 9) (.skip)
 (.exit 0))
 (.seq (.block 1 (.seq (.ops [I 10 (T 8),ak 5 (T 10)])
 (.seq (.ops [I 11 (T 1),I 12 (T 0),I 13 (T 5),bu 14 34 (T 12) (T 13),aI 15 3 (T 14),l7 16 (T 11) [T 15]])
 (.cond (T 16) (.seq (.ops [I 17 (T 5),ak 4 (T 17)])
 (.ret))
 (.skip)))))
 (.ops [bi 18 .add 3 (T 8) (ai 1),I 8 (T 18)])))))))
 (.seq (.ops [ak 4 (ai (-1))])
 (.ret))),[.tmp 4]⟩
def G2:fu:=⟨.seq (.ops [bL 4 78])
 (.seq (.ops [I 5 (T 0),I 6 (T 5),aT 6 true (I 7 (T 1)),aT 6 true (bF 8 76 (T 7)),aT 6 true (bi 9 .gtr 3 (T 8) (ai 0)),
  (cR 10 (T 6) (T 9) (C (.bool false))),I 11 (T 1),dB 12 78 [(0,T 10),(1,T 11)],st 78 (T 4) (T 12)])
 (.ret)),[.cell 4 78]⟩
def B4:fu:=⟨.seq (.ops [ak 4 (C (.slice none 0 0))])
 (.seq (.ops [I 12 (T 0),bF 13 76 (T 12),I 14 (T 1),bF 15 76 (T 14),bi 16 .add 3 (T 13) (T 15),ms 17 76 (T 16) (T 16),ak 5 (T 17)])
 (.seq (.seq (.ops [I 18 (T 0),bF 19 76 (T 18),I 20 (ai 0)])
 (.block 0 (.loop (.seq (.ops [bi 21 .lss 3 (T 20) (T 19)])
 (.seq (.cond (T 21) (.skip)
 (.exit 0))
 (.seq (.block 1 (.seq (.ops [I 22 (T 20),bu 23 76 (T 18) (T 20),aI 24 124 (T 23),ak 6 (T 22),ak 7 (T 24)])
 (.seq (.ops [ak 8 (C (.int .u64 0))])
 (.seq (.seq (.ops [I 25 (T 1),bF 26 76 (T 25),I 27 (ai 0)])
 (.block 2 (.loop (.seq (.ops [bi 28 .lss 3 (T 27) (T 26)])
 (.seq (.cond (T 28) (.skip)
 (.exit 2))
 (.seq (.block 3 (.seq (.ops [I 29 (T 27),bu 30 76 (T 25) (T 27),aI 31 124 (T 30),ak 9 (T 29),ak 10 (T 31)])
 (.seq (.ops [I 32 (T 7),ch 33 124 123 (T 32),I 34 (T 10),ch 35 124 123 (T 34),bi 36 .mul 123 (T 33) (T 35),I 37 (T 5),I 38 (T 6),
  (I 39 (T 9)),bi 40 .add 3 (T 38) (T 39),bu 41 76 (T 37) (T 40),aI 42 124 (T 41),ch 43 124 123 (T 42),bi 44 .add 123 (T 36) (T 43),
  (I 45 (T 8)),bi 46 .add 123 (T 44) (T 45),ak 11 (T 46)])
 (.ops [I 47 (T 5),I 48 (T 6),I 49 (T 9),bi 50 .add 3 (T 48) (T 49),I 51 (T 11),ch 52 123 124 (T 51),I 53 (T 11),
  (bi 54 .shr 123 (T 53) (C (.int .u64 32))),bu 55 76 (T 47) (T 50),st 124 (T 55) (T 52),ak 8 (T 54)]))))
 (.ops [bi 56 .add 3 (T 27) (ai 1),I 27 (T 56)])))))))
 (.ops [I 57 (T 5),I 58 (T 6),I 59 (T 1),bF 60 76 (T 59),bi 61 .add 3 (T 58) (T 60),I 62 (T 8),ch 63 123 124 (T 62),
  (bu 64 76 (T 57) (T 61)),st 124 (T 64) (T 63)])))))
 (.ops [bi 65 .add 3 (T 20) (ai 1),I 20 (T 65)])))))))
 (.seq (.ops [I 66 (T 5),aS 67 110 [T 66],ak 4 (T 67)])
 (.ret)))),[.tmp 4]⟩
def GV:fu:=⟨.seq (.ops [cl 2 78 (T 0),cl 3 78 (T 1),bL 4 78])
 (.seq (.ops [aI 5 78 (T 2),aI 6 78 (T 3),bj (aS 7 113 [T 6]),aS 8 105 [T 5,T 7],st 78 (T 4) (T 8)])
 (.ret)),[.cell 4 78]⟩
def GU:fu:=⟨.seq (.ops [cl 1 78 (T 0),ak 2 (ai 0)])
 (.seq (.block 0 (.seq (.ops [a9 4 78 (T 1) 1,aI 5 76 (T 4),bF 6 76 (T 5),bi 7 .eql 3 (T 6) (ai 0),ak 3 (T 7)])
 (.cond (T 3) (.seq (.ops [ak 2 (ai 0)])
 (.ret))
 (.seq (.ops [a9 9 78 (T 1) 0,aI 10 4 (T 9),ak 8 (T 10)])
 (.cond (T 8) (.seq (.ops [ak 2 (ai (-1))])
 (.ret))
 (.skip))))))
 (.seq (.ops [ak 2 (ai 1)])
 (.ret))),[.tmp 2]⟩
def G1:fu:=⟨.seq (.ops [ak 4 (ai 0)])
 (.seq (.seq (.ops [I 6 (T 0),bF 7 76 (T 6),I 8 (T 1),bF 9 76 (T 8),bi 10 .neq 3 (T 7) (T 9)])
 (.cond (T 10) (.seq (.seq (.ops [I 11 (T 0),bF 12 76 (T 11),I 13 (T 1),bF 14 76 (T 13),bi 15 .lss 3 (T 12) (T 14)])
 (.cond (T 15) (.seq (.ops [ak 4 (ai (-1))])
 (.ret))
 (.skip)))
 (.seq (.ops [ak 4 (ai 1)])
 (.ret)))
 (.skip)))
 (.seq (.seq (.ops [I 16 (T 0),bF 17 76 (T 16),bi 18 .sub 3 (T 17) (ai 1),ak 5 (T 18)])
 (.block 0 (.loop (.seq (.seq (.ops [I 19 (T 5),bi 20 .geq 3 (T 19) (ai 0)])
 (.cond (T 20) (.skip)
 (.exit 0)))
 (.seq (.block 1 (.seq (.ops [I 23 (T 0),I 24 (T 5),bu 25 76 (T 23) (T 24),aI 26 124 (T 25),I 27 (T 1),I 28 (T 5),bu 29 76 (T 27) (T 28),aI 30 124 (T 29),
  (bi 31 .neq 124 (T 26) (T 30))])
 (.cond (T 31) (.seq (.seq (.ops [I 32 (T 0),I 33 (T 5),bu 34 76 (T 32) (T 33),aI 35 124 (T 34),I 36 (T 1),I 37 (T 5),bu 38 76 (T 36) (T 37),aI 39 124 (T 38),
  (bi 40 .lss 124 (T 35) (T 39))])
 (.cond (T 40) (.seq (.ops [ak 4 (ai (-1))])
 (.ret))
 (.skip)))
 (.seq (.ops [ak 4 (ai 1)])
 (.ret)))
 (.skip))))
 (.ops [I 21 (T 5),bi 22 .sub 3 (T 21) (ai 1),ak 5 (T 22)]))))))
 (.seq (.ops [ak 4 (ai 0)])
 (.ret)))),[.tmp 4]⟩
def GO:fu:=⟨.seq (.ops [cl 1 78 (T 0),bL 2 80])
 (.seq (.ops [aI 3 78 (T 1),bj (aS 4 88 [ai 1]),dB 5 80 [(0,T 3),(1,T 4)],st 80 (T 2) (T 5)])
 (.ret)),[.cell 2 80]⟩
def GP:fu:=⟨.seq (.ops [cl 2 78 (T 0),cl 3 78 (T 1),bL 4 78])
 (.seq (.block 0 (.seq (.ops [a9 6 78 (T 2) 0,aI 7 4 (T 6),a9 8 78 (T 3) 0,aI 9 4 (T 8),bi 10 .eql 4 (T 7) (T 9),ak 5 (T 10)])
 (.cond (T 5) (.seq (.ops [a9 11 78 (T 2) 0,aI 12 4 (T 11),a9 13 78 (T 2) 1,aI 14 76 (T 13),a9 15 78 (T 3) 1,aI 16 76 (T 15),bj (aS 17 116 [T 14,T 16]),
  (aS 18 92 [T 12,T 17]),st 78 (T 4) (T 18)])
 (.ret))
 (.seq (.ops [a9 20 78 (T 2) 1,aI 21 76 (T 20),a9 22 78 (T 3) 1,aI 23 76 (T 22),aS 24 101 [T 21,T 23],bi 25 .geq 3 (T 24) (ai 0),ak 19 (T 25)])
 (.cond (T 19) (.seq (.ops [a9 26 78 (T 2) 0,aI 27 4 (T 26),a9 28 78 (T 2) 1,aI 29 76 (T 28),a9 30 78 (T 3) 1,aI 31 76 (T 30),bj (aS 32 118 [T 29,T 31]),
  (aS 33 92 [T 27,T 32]),st 78 (T 4) (T 33)])
 (.ret))
 (.skip))))))
 (.seq (.ops [a9 34 78 (T 3) 0,aI 35 4 (T 34),a9 36 78 (T 3) 1,aI 37 76 (T 36),a9 38 78 (T 2) 1,aI 39 76 (T 38),bj (aS 40 118 [T 37,T 39]),
  (aS 41 92 [T 35,T 40]),st 78 (T 4) (T 41)])
 (.ret))),[.cell 4 78]⟩
def B2:fu:=⟨.seq (.ops [ak 4 (C (.slice none 0 0)),ak 5 (C (.int .u32 0))])
 (.seq (.ops [I 10 (T 0),bF 11 76 (T 10),ms 12 76 (T 11) (T 11),ak 6 (T 12)])
 (.seq (.ops [ak 7 (C (.int .u64 0))])
 (.seq (.seq (.ops [I 13 (T 0),bF 14 76 (T 13),bi 15 .sub 3 (T 14) (ai 1),ak 8 (T 15)])
 (.block 0 (.loop (.seq (.seq (.ops [I 16 (T 8),bi 17 .geq 3 (T 16) (ai 0)])
 (.cond (T 17) (.skip)
 (.exit 0)))
 (.seq (.block 1 (.seq (.ops [I 20 (T 7),bi 21 .shl 123 (T 20) (C (.int .u64 32)),I 22 (T 0),I 23 (T 8),bu 24 76 (T 22) (T 23),aI 25 124 (T 24),
  (ch 26 124 123 (T 25)),bi 27 .or 123 (T 21) (T 26),ak 9 (T 27)])
 (.ops [I 28 (T 6),I 29 (T 8),I 30 (T 9),I 31 (T 1),ch 32 124 123 (T 31),bi 33 .quo 123 (T 30) (T 32),ch 34 123 124 (T 33),
  (I 35 (T 9)),I 36 (T 1),ch 37 124 123 (T 36),bi 38 .rem 123 (T 35) (T 37),bu 39 76 (T 28) (T 29),st 124 (T 39) (T 34),ak 7 (T 38)])))
 (.ops [I 18 (T 8),bi 19 .sub 3 (T 18) (ai 1),ak 8 (T 19)]))))))
 (.seq (.ops [I 40 (T 6),aS 41 110 [T 40],I 42 (T 7),ch 43 123 124 (T 42),ak 4 (T 41),ak 5 (T 43)])
 (.ret))))),[.tmp 4,.tmp 5]⟩
def G4:fu:=⟨.seq (.ops [ak 2 (C (.slice none 0 0))])
 (.seq (.block 0 (.loop (.seq (.seq (.ops [I 3 (T 0),bF 4 76 (T 3),bi 5 .gtr 3 (T 4) (ai 0),I 6 (T 5),aT 6 true (I 7 (T 0)),aT 6 true (I 8 (T 0)),aT 6 true (bF 9 76 (T 8)),
  aT 6 true (bi 10 .sub 3 (T 9) (ai 1)),aT 6 true (bu 11 76 (T 7) (T 10)),aT 6 true (aI 12 124 (T 11)),
  aT 6 true ((bi 13 .eql 124 (T 12) (C (.int .u32 0)))),cR 14 (T 6) (T 13) (C (.bool false))])
 (.cond (T 14) (.skip)
 (.exit 0)))
 (.block 1 (.ops [I 15 (T 0),I 16 (T 0),bF 17 76 (T 16),bi 18 .sub 3 (T 17) (ai 1),fF 19 76 (T 15) none (some (T 18)) none,ak 0 (T 19)])))))
 (.seq (.ops [I 20 (T 0),ak 2 (T 20)])
 (.ret))),[.tmp 2]⟩
def GS:fu:=⟨.seq (.ops [cl 1 78 (T 0),bL 2 78])
 (.seq (.ops [a9 3 78 (T 1) 0,aI 4 4 (T 3),un 5 .not (T 4),a9 6 78 (T 1) 1,aI 7 76 (T 6),aS 8 92 [T 5,T 7],st 78 (T 2) (T 8)])
 (.ret)),[.cell 2 78]⟩
def G3:fu:=⟨.seq (.ops [ak 4 (C (.slice none 0 0))])
 (.seq (.seq (.ops [I 9 (T 0),bF 10 76 (T 9),I 11 (T 1),bF 12 76 (T 11),bi 13 .lss 3 (T 10) (T 12)])
 (.cond (T 13) (.ops [I 14 (T 1),I 15 (T 0),ak 0 (T 14),ak 1 (T 15)])
 (.skip)))
 (.seq (.ops [I 16 (T 0),bF 17 76 (T 16),bi 18 .add 3 (T 17) (ai 1),ms 19 76 (T 18) (T 18),ak 5 (T 19)])
 (.seq (.ops [ak 6 (C (.int .u32 0))])
 (.seq (.seq (.ops [I 20 (T 0),bF 21 76 (T 20),I 22 (ai 0)])
 (.block 0 (.loop (.seq (.ops [bi 23 .lss 3 (T 22) (T 21)])
 (.seq (.cond (T 23) (.skip)
 (.exit 0))
 (.seq (.block 1 (.seq (.ops [I 24 (T 22),ak 7 (T 24)])
 (.seq (.ops [ak 8 (C (.int .u32 0))])
 (.seq (.seq (.ops [I 25 (T 7),I 26 (T 1),bF 27 76 (T 26),bi 28 .lss 3 (T 25) (T 27)])
 (.cond (T 28) (.ops [I 29 (T 1),I 30 (T 7),bu 31 76 (T 29) (T 30),aI 32 124 (T 31),ak 8 (T 32)])
 (.skip)))
 (.ops [I 34 (T 5),I 35 (T 7),I 36 (T 0),I 37 (T 7),bu 38 76 (T 36) (T 37),aI 39 124 (T 38),I 40 (T 8),I 41 (T 6),
  (aS 42 122 [T 39,T 40,T 41]),I 33 (T 42),ex 43 (T 33) 0,ex 44 (T 33) 1,bu 45 76 (T 34) (T 35),st 124 (T 45) (T 43),
  (ak 6 (T 44))])))))
 (.ops [bi 46 .add 3 (T 22) (ai 1),I 22 (T 46)])))))))
 (.seq (.ops [I 47 (T 5),I 48 (T 0),bF 49 76 (T 48),I 50 (T 6),bu 51 76 (T 47) (T 49),st 124 (T 51) (T 50)])
 (.seq (.ops [I 52 (T 5),aS 53 110 [T 52],ak 4 (T 53)])
 (.ret))))))),[.tmp 4]⟩
def B3:fu:=⟨.seq (.ops [ak 4 (C (.slice none 0 0))])
 (.seq (.ops [I 9 (T 0),bF 10 76 (T 9),ms 11 76 (T 10) (T 10),ak 5 (T 11)])
 (.seq (.ops [ak 6 (C (.int .u32 0))])
 (.seq (.seq (.ops [I 12 (T 0),bF 13 76 (T 12),I 14 (ai 0)])
 (.block 0 (.loop (.seq (.ops [bi 15 .lss 3 (T 14) (T 13)])
 (.seq (.cond (T 15) (.skip)
 (.exit 0))
 (.seq (.block 1 (.seq (.ops [I 16 (T 14),ak 7 (T 16)])
 (.seq (.ops [ak 8 (C (.int .u32 0))])
 (.seq (.seq (.ops [I 17 (T 7),I 18 (T 1),bF 19 76 (T 18),bi 20 .lss 3 (T 17) (T 19)])
 (.cond (T 20) (.ops [I 21 (T 1),I 22 (T 7),bu 23 76 (T 21) (T 22),aI 24 124 (T 23),ak 8 (T 24)])
 (.skip)))
 (.ops [I 26 (T 5),I 27 (T 7),I 28 (T 0),I 29 (T 7),bu 30 76 (T 28) (T 29),aI 31 124 (T 30),I 32 (T 8),I 33 (T 6),
  (aS 34 127 [T 31,T 32,T 33]),I 25 (T 34),ex 35 (T 25) 0,ex 36 (T 25) 1,bu 37 76 (T 26) (T 27),st 124 (T 37) (T 35),
  (ak 6 (T 36))])))))
 (.ops [bi 38 .add 3 (T 14) (ai 1),I 14 (T 38)])))))))
 (.seq (.ops [I 39 (T 5),aS 40 110 [T 39],ak 4 (T 40)])
 (.ret))))),[.tmp 4]⟩
def GM:fu:=⟨.seq (.ops [ak 6 (C (.int .u32 0)),ak 7 (C (.int .u32 0))])
 (.seq (.ops [I 9 (T 0),ch 10 124 123 (T 9),I 11 (T 1),ch 12 124 123 (T 11),bi 13 .add 123 (T 10) (T 12),I 14 (T 2),ch 15 124 123 (T 14),
  (bi 16 .add 123 (T 13) (T 15)),ak 8 (T 16)])
 (.seq (.ops [I 17 (T 8),ch 18 123 124 (T 17),ak 6 (T 18)])
 (.seq (.ops [I 19 (T 8),bi 20 .shr 123 (T 19) (C (.int .u64 32)),ch 21 123 124 (T 20),ak 7 (T 21)])
 (.ret)))),[.tmp 6,.tmp 7]⟩
def GN:fu:=⟨.seq (.ops [ak 6 (C (.int .u32 0)),ak 7 (C (.int .u32 0))])
 (.seq (.ops [I 8 (T 0),I 9 (T 1),bi 10 .sub 124 (T 8) (T 9),I 11 (T 2),bi 12 .sub 124 (T 10) (T 11),ak 6 (T 12)])
 (.seq (.ops [I 13 (T 0),un 14 .xor (T 13),I 15 (T 1),bi 16 .and 124 (T 14) (T 15),I 17 (T 0),I 18 (T 1),bi 19 .xor 124 (T 17) (T 18),
  (un 20 .xor (T 19)),I 21 (T 6),bi 22 .and 124 (T 20) (T 21),bi 23 .or 124 (T 16) (T 22),bi 24 .shr 124 (T 23) (C (.int .u64 31)),
  (ak 7 (T 24))])
 (.ret))),[.tmp 6,.tmp 7]⟩
def HE:cM:=⟨.seq (.ops [.cl 5 56 (T 2),.xs [ak 6 (C (.bool false))]])
 (.seq (.ops [.xs [I 23 (T 0)],.a9 none 24 56 5 0 5 0,.aI none 25 5 24 5 0,.a9 none 26 56 5 1 5 1,.aI none 27 5 26 5 1,
  .xs [bj (aS 28 24 [T 23,T 25,T 27,ai 400]),I 29 (T 1)],.a9 none 30 56 5 0 5 0,.aI none 31 5 30 5 0,.a9 none 32 56 5 1 5 1,
  .aI none 33 5 32 5 1,.xs [aS 34 24 [T 29,T 31,T 33,ai 400],ak 7 (T 28),ak 8 (T 34)]])
 (.seq (.ops [.xs [ei 35 22 0 [],ak 9 (T 35)]])
 (.seq (.seq (.ops [.xs [ak 10 (ai 0)]])
 (.block 0 (.loop 18889465931409861385728 0 (.seq (.seq (.ops [.xs [I 36 (T 10),I 37 (T 7),bF 38 22 (T 37),bi 39 .lss 3 (T 36) (T 38)]])
 (.cond (T 39) (.skip)
 (.exit 0)))
 (.seq (.block 1 (.seq (.ops [.xs [ei 42 34 0 [],ak 11 (T 42)]])
 (.seq (.seq (.ops [.xs [ak 12 (ai 0)]])
 (.block 2 (.loop 1180591611921318287360 0 (.seq (.seq (.ops [.xs [I 43 (T 12),I 44 (T 7),I 45 (T 10),bu 46 22 (T 44) (T 45),aI 47 34 (T 46),bF 48 34 (T 47),bi 49 .lss 3 (T 43) (T 48)]])
 (.cond (T 49) (.skip)
 (.exit 2)))
 (.seq (.block 3 (.ops [.xs [I 52 (T 11),I 53 (T 7),I 54 (T 10),bu 55 22 (T 53) (T 54),aI 56 34 (T 55),I 57 (T 12),bu 58 34 (T 56) (T 57),aI 59 3 (T 58),I 60 (T 8),I 61 (T 10),bu 62 22 (T 60) (T 61),aI 63 34 (T 62),I 64 (T 12),bu 65 34 (T 63) (T 64),aI 66 3 (T 65),bi 67 .add 3 (T 59) (T 66),ei 68 34 1 [(0,T 67)],ap 69 34 34 (T 52) (T 68),ak 11 (T 69)]]))
 (.ops [.xs [I 50 (T 12),bi 51 .add 3 (T 50) (ai 1),ak 12 (T 51)]]))))))
 (.ops [.xs [I 70 (T 9),I 71 (T 11),ei 72 22 1 [(0,T 71)],ap 73 22 22 (T 70) (T 72),ak 9 (T 73)]]))))
 (.ops [.xs [I 40 (T 10),bi 41 .add 3 (T 40) (ai 1),ak 10 (T 41)]]))))))
 (.seq (.ops [.xs [I 75 (T 7),aS 76 10 [T 75],I 74 (T 76),ex 77 (T 74) 0,ex 78 (T 74) 1,ak 13 (T 77),ak 14 (T 78)]])
 (.seq (.ops [.xs [I 80 (T 8),aS 81 10 [T 80],I 79 (T 81),ex 82 (T 79) 0,ex 83 (T 79) 1,ak 15 (T 82),ak 16 (T 83)]])
 (.seq (.ops [.xs [I 85 (T 9),ei 86 27 0 [],I 87 (T 13),ap 88 27 27 (T 86) (T 87),I 89 (T 15),ap 90 27 27 (T 88) (T 89),aS 91 20 [T 85,T 90],I 84 (T 91),ex 92 (T 84) 0,ex 93 (T 84) 1,ak 17 (T 92),ak 18 (T 93)]])
 (.seq (.ops [.xs [I 95 (T 9),aS 96 9 [T 95],I 94 (T 96),ex 97 (T 94) 0,ex 98 (T 94) 1,ex 99 (T 94) 2,ex 100 (T 94) 3,ak 19 (T 97),ak 20 (T 98),ak 21 (T 99),ak 22 (T 100)]])
 (.seq (.box 2787593149813792591491508325278051781836864 0 (.ops [.xs [I 101 (T 14),bi 102 .eql 24 (T 101) (ai 0),I 103 (T 102),aT 103 true (I 104 (T 16)),aT 103 true (bi 105 .eql 24 (T 104) (ai 0)),cR 106 (T 103) (T 105) (C (.bool false)),I 107 (T 106),aT 107 true (I 108 (T 18)),aT 107 true (bi 109 .eql 24 (T 108) (ai 0)),cR 110 (T 107) (T 109) (C (.bool false)),I 111 (T 110),aT 111 true (I 112 (T 22)),aT 111 true (bi 113 .eql 24 (T 112) (ai 0)),cR 114 (T 111) (T 113) (C (.bool false)),I 115 (T 114),aT 115 true (I 116 (T 17)),aT 115 true (aS 117 25 [T 116]),cR 118 (T 115) (T 117) (C (.bool false)),I 119 (T 118),aT 119 true (I 120 (T 17)),aT 119 true (aS 121 23 [T 120]),aT 119 true (I 122 (T 19)),aT 119 true (aS 123 19 [T 122]),aT 119 true (aS 124 17 [T 121,T 123]),aT 119 true (bi 125 .geq 3 (T 124) (ai 0)),cR 126 (T 119) (T 125) (C (.bool false)),I 127 (T 126),aT 127 true (I 128 (T 17)),aT 127 true (aS 129 23 [T 128]),aT 127 true (I 130 (T 13)),aT 127 true (aS 131 18 [T 130]),aT 127 true (I 132 (T 15)),aT 127 true (aS 133 18 [T 132]),aT 127 true (aS 134 26 [T 131,T 133]),aT 127 true (aS 135 17 [T 129,T 134]),aT 127 true (bi 136 .eql 3 (T 135) (ai 0)),cR 137 (T 127) (T 136) (C (.bool false)),I 138 (T 137),aT 138 true (aS 139 12 []),cR 140 (T 138) (T 139) (C (.bool false)),ak 6 (T 140)]]))
 (.ret))))))))),[.tmp 6]⟩
def HZ:cM:=⟨.seq (.ops [.xs [ak 2 (ai 0),ak 3 (ai 0),ak 4 (ai 0),ak 5 (ai 0)]])
 (.seq (.seq (.ops [.xs [I 15 (T 0),aS 16 31 [T 15],un 17 .not (T 16)]])
 (.cond (T 17) (.seq (.ops [.xs [ak 2 (ai 0),ak 3 (ai 0),ak 4 (ai 0),ak 5 (ai 1)]])
 (.ret))
 (.skip)))
 (.seq (.ops [.xs [I 18 (T 0),aS 19 32 [T 18]],.bL 6 74,.bT true none 74 6 (T 19) 6])
 (.seq (.ops [.bQ none 21 74 6 6,.xs [aS 22 33 [T 21],I 20 (T 22),ex 23 (T 20) 0,ex 24 (T 20) 1],.bL 7 80,.bT true none 80 7 (T 23) 7,
  .xs [ak 8 (T 24)]])
 (.seq (.ops [.bQ none 26 74 6 6,.xs [aS 27 34 [T 26],aS 28 33 [T 27],I 25 (T 28),ex 29 (T 25) 0,ex 30 (T 25) 1],.bL 9 80,
  .bT true none 80 9 (T 29) 9,.xs [ak 10 (T 30)]])
 (.seq (.seq (.ops [.bQ none 31 80 9 9,.bQ none 32 80 7 7,.xs [aS 33 35 [T 31,T 32],bi 34 .gtr 3 (T 33) (ai 0)]])
 (.cond (T 34) (.seq (.ops [.bQ none 36 80 9 9,.xs [aS 37 36 [T 36],aS 38 37 [T 37],I 35 (T 38),ex 39 (T 35) 0,ex 40 (T 35) 1,ak 11 (T 39),ak 12 (T 40)]])
 (.seq (.ops [.xs [I 41 (T 11),I 42 (T 10),ak 2 (T 41),ak 3 (ai 1),ak 4 (T 42),ak 5 (ai 0)]])
 (.ret)))
 (.skip)))
 (.seq (.ops [.bQ none 44 80 7 7,.xs [aS 45 36 [T 44],aS 46 37 [T 45],I 43 (T 46),ex 47 (T 43) 0,ex 48 (T 43) 1,ak 13 (T 47),ak 14 (T 48)]])
 (.seq (.ops [.xs [I 49 (T 13),I 50 (T 8),ak 2 (T 49),ak 3 (ai 0),ak 4 (T 50),ak 5 (ai 0)]])
 (.ret)))))))),[.tmp 2,.tmp 3,.tmp 4,.tmp 5]⟩
def H2:cM:=⟨.seq (.ops [.xs [ak 2 (C (.slice none 0 0)),ak 3 (ai 0)]])
 (.seq (.seq (.ops [.xs [I 4 (T 0),aS 5 31 [T 4],un 6 .not (T 5)]])
 (.cond (T 6) (.seq (.ops [.xs [ak 2 (C (.slice none 0 0)),ak 3 (ai 1)]])
 (.ret))
 (.skip)))
 (.seq (.ops [.xs [I 7 (T 0),aS 8 32 [T 7],aS 9 38 [T 8],ex 10 (T 9) 0,ex 11 (T 9) 1,ak 2 (T 10),ak 3 (T 11)]])
 (.ret))),[.tmp 2,.tmp 3]⟩
def HG:cM:=⟨.seq (.ops [.xs [ak 0 (C (.bool false))]])
 (.seq (.ops [.xs [ei 10 34 2 [(0,ai 2),(1,ai 1)],ei 11 34 2 [(0,ai 1),(1,ai 2)],ei 12 22 2 [(0,T 10),(1,T 11)],ak 1 (T 12)]])
 (.seq (.ops [.xs [I 14 (T 1),aS 15 9 [T 14],I 13 (T 15),ex 16 (T 13) 0,ex 17 (T 13) 1,ex 18 (T 13) 2,ex 19 (T 13) 3,ak 2 (T 16),ak 3 (T 17),ak 4 (T 18),ak 5 (T 19)]])
 (.seq (.ops [.xs [I 21 (T 1),aS 22 10 [T 21],I 20 (T 22),ex 23 (T 20) 0,ex 24 (T 20) 1,ak 6 (T 23),ak 7 (T 24)]])
 (.seq (.ops [.xs [I 26 (T 1),I 27 (T 6),aS 28 20 [T 26,T 27],I 25 (T 28),ex 29 (T 25) 0,ex 30 (T 25) 1,ak 8 (T 29),ak 9 (T 30)]])
 (.seq (.box 144115185928372225 0 (.ops [.xs [I 31 (T 2),bi 32 .eql 3 (T 31) (ai 3),I 33 (T 32),aT 33 true (I 34 (T 3)),aT 33 true (bi 35 .eql 3 (T 34) (ai 0)),cR 36 (T 33) (T 35) (C (.bool false)),I 37 (T 36),aT 37 true (I 38 (T 4)),aT 37 true (bi 39 .eql 3 (T 38) (ai 0)),cR 40 (T 37) (T 39) (C (.bool false)),I 41 (T 40),aT 41 true (I 42 (T 5)),aT 41 true (bi 43 .eql 24 (T 42) (ai 0)),cR 44 (T 41) (T 43) (C (.bool false)),I 45 (T 44),aT 45 true (I 46 (T 7)),aT 45 true (bi 47 .eql 24 (T 46) (ai 0)),cR 48 (T 45) (T 47) (C (.bool false)),I 49 (T 48),aT 49 true (I 50 (T 8)),aT 49 true ((bi 51 .eql 45 (T 50) (C (.string {data:= #[51]})))),cR 52 (T 49) (T 51) (C (.bool false)),I 53 (T 52),aT 53 true (I 54 (T 9)),aT 53 true (bi 55 .eql 24 (T 54) (ai 0)),cR 56 (T 53) (T 55) (C (.bool false)),ak 0 (T 56)]]))
 (.ret)))))),[.tmp 0]⟩
def Hh:cM:=⟨.seq (.ops [.cl 2 42 (T 0),.cl 3 42 (T 1),.xs [ak 4 (ai 0)]])
 (.seq (.ops [.a9 none 5 42 2 0 2 0,.aI none 6 40 5 2 0,.a9 none 7 42 3 1 3 2,.aI none 8 40 7 3 2,.xs [bj (aS 9 45 [T 6,T 8])],.a9 none 10 42 3 0 3 0,
  .aI none 11 40 10 3 0,.a9 none 12 42 2 1 2 2,.aI none 13 40 12 2 2,.xs [aS 14 45 [T 11,T 13],aS 15 44 [T 9,T 14],ak 4 (T 15)]])
 (.ret)),[.tmp 4]⟩
def HY:cM:=⟨.seq (.ops [.bL 2 42])
 (.seq (.ops [.xs [aS 5 19 [ai 0]],.bL 3 42,.bT true none 42 3 (T 5) 3])
 (.seq (.seq (.ops [.xs [ak 4 (ai 0)]])
 (.block 0 (.loop 2097104 8 (.seq (.seq (.ops [.xs [I 6 (T 4),I 7 (T 0),bF 8 27 (T 7),bi 9 .lss 3 (T 6) (T 8)]])
 (.cond (T 9) (.skip)
 (.exit 0)))
 (.seq (.block 1 (.ops [.bQ none 12 42 3 3,
  .xs [I 13 (T 0),I 14 (T 4),bu 15 27 (T 13) (T 14),a9 16 93 (T 15) 0,aI 17 45 (T 16),bj (aS 18 23 [T 17]),aS 19 26 [T 12,T 18],aS 20 43 [T 19]],
  .bT true none 42 3 (T 20) 3]))
 (.ops [.xs [I 10 (T 4),bi 11 .add 3 (T 10) (ai 1),ak 4 (T 11)]]))))))
 (.seq (.ops [.bQ none 21 42 3 3,.bT true none 42 2 (T 21) 2])
 (.ret)))),[.cell 2 42]⟩
def Ht:cM:=⟨.seq (.ops [.bL 2 42])
 (.seq (.ops [.xs [I 3 (T 0),aS 4 46 [T 3],aS 5 46 [ai 1],dB 6 42 [(0,T 4),(1,T 5)]],.bT true none 42 2 (T 6) 2])
 (.ret)),[.cell 2 42]⟩
def H0:cM:=⟨.seq (.ops [.xs [ak 4 (C (.string {data:= #[]})),ak 5 (ai 0)]])
 (.seq (.seq (.ops [.xs [I 10 (T 0),aS 11 31 [T 10],un 12 .not (T 11)]])
 (.cond (T 12) (.seq (.ops [.xs [ak 4 (C (.string {data:= #[]})),ak 5 (ai 1)]])
 (.ret))
 (.skip)))
 (.seq (.ops [.xs [I 13 (T 0),aS 14 32 [T 13]],.bL 6 74,.bT true none 74 6 (T 14) 6])
 (.seq (.ops [.xs [I 16 (T 1)],.bQ none 17 74 6 6,.xs [bj (aS 18 48 [T 17])],.bQ none 19 74 6 6,
  .xs [bj (aS 20 49 [T 19]),bj (aS 21 47 [T 16,T 18,T 20]),I 15 (T 21),ex 22 (T 15) 0,ex 23 (T 15) 1,ex 24 (T 15) 2],.bL 7 74,
  .bL 8 80,.bT true none 74 7 (T 22) 7,.bT true none 80 8 (T 23) 8,.xs [ak 9 (T 24)]])
 (.seq (.seq (.box 8556380160 0 (.ops [.xs [I 25 (T 9),un 26 .not (T 25),I 27 (T 26)],.bQ (some (27,false)) 28 74 6 6,.bQ (some (27,false)) 29 74 7 7,
  .xs [aT 27 false (aS 30 50 [T 28,T 29]),aT 27 false (un 31 .not (T 30)),cR 32 (T 27) (C (.bool true)) (T 31)]]))
 (.cond (T 32) (.seq (.ops [.xs [ak 4 (C (.string {data:= #[]})),ak 5 (ai 2)]])
 (.ret))
 (.skip)))
 (.seq (.ops [.bQ none 33 80 8 8,.xs [aS 34 51 [T 33],ex 35 (T 34) 0,ex 36 (T 34) 1,ak 4 (T 35),ak 5 (T 36)]])
 (.ret)))))),[.tmp 4,.tmp 5]⟩
def Ho:cM:=⟨.seq (.ops [.bL 2 42])
 (.seq (.ops [.xs [I 6 (T 0),aS 7 54 [T 6],I 5 (T 7),ex 8 (T 5) 0,ex 9 (T 5) 1],.bL 3 42,.bT true none 42 3 (T 8) 3,.xs [ak 4 (T 9)]])
 (.seq (.ops [.bQ none 10 42 3 3,.bT true none 42 2 (T 10) 2])
 (.ret))),[.cell 2 42]⟩
def HH:cM:=⟨.seq (.ops [.xs [ak 8 (C (.slice none 0 0))]])
 (.seq (.ops [.xs [I 16 (T 1),ch 17 5 3 (T 16),bi 18 .rem 3 (T 17) (ai 8),bi 19 .add 3 (T 18) (ai 1),I 20 (T 2),ch 21 5 3 (T 20),bi 22 .rem 3 (T 21) (ai 8),bi 23 .add 3 (T 22) (ai 1),ak 9 (T 19),ak 10 (T 23)]])
 (.seq (.ops [.xs [ei 24 22 0 [],ak 11 (T 24)]])
 (.seq (.seq (.ops [.xs [ak 12 (ai 0)]])
 (.block 0 (.loop 9223372036821284864 0 (.seq (.seq (.ops [.xs [I 25 (T 12),I 26 (T 9),bi 27 .lss 3 (T 25) (T 26)]])
 (.cond (T 27) (.skip)
 (.exit 0)))
 (.seq (.block 1 (.seq (.ops [.xs [ei 30 34 0 [],ak 13 (T 30)]])
 (.seq (.seq (.ops [.xs [ak 14 (ai 0)]])
 (.block 2 (.loop 576460750155997184 0 (.seq (.seq (.ops [.xs [I 31 (T 14),I 32 (T 10),bi 33 .lss 3 (T 31) (T 32)]])
 (.cond (T 33) (.skip)
 (.exit 2)))
 (.seq (.block 3 (.seq (.ops [.xs [ak 15 (ai 0)]])
 (.seq (.box 36028728299520000 0 (.seq (.ops [.xs [I 36 (T 12),I 37 (T 10),bi 38 .mul 3 (T 36) (T 37),I 39 (T 14),bi 40 .add 3 (T 38) (T 39),I 41 (T 0),bF 42 34 (T 41),bi 43 .lss 3 (T 40) (T 42)]])
 (.cond (T 43) (.ops [.xs [I 44 (T 0),I 45 (T 12),I 46 (T 10),bi 47 .mul 3 (T 45) (T 46),I 48 (T 14),bi 49 .add 3 (T 47) (T 48),bu 50 34 (T 44) (T 49),aI 51 3 (T 50),I 52 (T 3),bi 53 .add 3 (T 52) (ai 1),aS 54 55 [T 51,T 53],ak 15 (T 54)]])
 (.skip))))
 (.ops [.xs [I 55 (T 13),I 56 (T 15),ei 57 34 1 [(0,T 56)],ap 58 34 34 (T 55) (T 57),ak 13 (T 58)]]))))
 (.ops [.xs [I 34 (T 14),bi 35 .add 3 (T 34) (ai 1),ak 14 (T 35)]]))))))
 (.ops [.xs [I 59 (T 11),I 60 (T 13),ei 61 22 1 [(0,T 60)],ap 62 22 22 (T 59) (T 61),ak 11 (T 62)]]))))
 (.ops [.xs [I 28 (T 12),bi 29 .add 3 (T 28) (ai 1),ak 12 (T 29)]]))))))
 (.seq (.ops [.xs [I 63 (T 11),ak 8 (T 63)]])
 (.ret))))),[.tmp 8]⟩
def Hs:cM:=⟨.seq (.ops [.xs [ak 2 (C (.bool false))]])
 (.seq (.ops [.xs [I 6 (T 0),aS 7 54 [T 6],I 5 (T 7),ex 8 (T 5) 0,ex 9 (T 5) 1],.bL 3 42,.bT true none 42 3 (T 8) 3,.xs [ak 4 (T 9)]])
 (.seq (.ops [.xs [I 10 (T 4),ak 2 (T 10)]])
 (.ret))),[.tmp 2]⟩
def Hf:cM:=⟨.seq (.ops [.cl 2 42 (T 0),.cl 3 42 (T 1),.bL 4 42])
 (.seq (.ops [.a9 none 5 42 2 0 2 0,.aI none 6 40 5 2 0,.a9 none 7 42 3 1 3 2,.aI none 8 40 7 3 2,.xs [bj (aS 9 45 [T 6,T 8])],.a9 none 10 42 3 0 3 0,
  .aI none 11 40 10 3 0,.a9 none 12 42 2 1 2 2,.aI none 13 40 12 2 2,.xs [bj (aS 14 45 [T 11,T 13]),bj (aS 15 56 [T 9,T 14])],
  .a9 none 16 42 2 1 2 2,.aI none 17 40 16 2 2,.a9 none 18 42 3 1 3 2,.aI none 19 40 18 3 2,
  .xs [aS 20 45 [T 17,T 19],dB 21 42 [(0,T 15),(1,T 20)]],.bT true none 42 4 (T 21) 4])
 (.ret)),[.cell 4 42]⟩
def H5:cM:=⟨.seq (.ops [.bL 2 74])
 (.seq (.ops [.xs [ak 3 (C (.slice none 0 0))]])
 (.seq (.seq (.ops [.xs [I 9 (T 0),bF 10 22 (T 9),I 11 (ai 0)]])
 (.block 0 (.loop 4294965608 0 (.seq (.ops [.xs [bi 12 .lss 3 (T 11) (T 10)]])
 (.seq (.cond (T 12) (.skip)
 (.exit 0))
 (.seq (.block 1 (.seq (.ops [.xs [bu 13 22 (T 9) (T 11),aI 14 34 (T 13),ak 5 (T 14)]])
 (.seq (.ops [.xs [ak 6 (C (.slice none 0 0))]])
 (.seq (.seq (.ops [.xs [I 15 (T 5),bF 16 34 (T 15),I 17 (ai 0)]])
 (.block 2 (.loop 134086976 0 (.seq (.ops [.xs [bi 18 .lss 3 (T 17) (T 16)]])
 (.seq (.cond (T 18) (.skip)
 (.exit 2))
 (.seq (.block 3 (.seq (.ops [.xs [bu 19 34 (T 15) (T 17),aI 20 3 (T 19),ak 8 (T 20)]])
 (.ops [.xs [I 21 (T 6),I 22 (T 8),aS 23 59 [T 22],ei 24 120 1 [(0,T 23)],ap 25 120 120 (T 21) (T 24),ak 6 (T 25)]])))
 (.ops [.xs [bi 26 .add 3 (T 17) (ai 1),I 17 (T 26)]])))))))
 (.ops [.xs [I 27 (T 3),I 28 (T 6),ei 29 72 1 [(0,T 28)],ap 30 72 72 (T 27) (T 29),ak 3 (T 30)]])))))
 (.ops [.xs [bi 31 .add 3 (T 11) (ai 1),I 11 (T 31)]])))))))
 (.seq (.ops [.xs [I 32 (T 3),dB 33 74 [(0,T 32)]],.bT true none 74 2 (T 33) 2])
 (.ret)))),[.cell 2 74]⟩
def H8:cM:=⟨.seq (.ops [.cl 1 74 (T 0),.bL 2 80,.xs [ak 3 (ai 0)]])
 (.seq (.ops [.bQ none 8 74 1 1,.xs [aS 9 65 [T 8,ai 0]],.bL 4 80,.bT true none 80 4 (T 9) 4,.xs [ak 5 (ai 0)]])
 (.seq (.seq (.ops [.bQ none 10 74 1 1,.xs [aS 11 48 [T 10],I 12 (ai 0)]])
 (.block 0 (.loop 33550560 144 (.seq (.ops [.xs [bi 13 .lss 3 (T 12) (T 11)]])
 (.seq (.cond (T 13) (.skip)
 (.exit 0))
 (.seq (.box 16761056 144 (.block 1 (.seq (.ops [.xs [I 14 (T 12),ak 6 (T 14)]])
 (.seq (.ops [.bQ none 15 74 1 1,.xs [I 16 (T 6),aS 17 65 [T 15,T 16]],.bL 7 80,.bT true none 80 7 (T 17) 7])
 (.seq (.ops [.bQ none 18 80 7 7,.bQ none 19 80 4 4,.xs [aS 20 35 [T 18,T 19],bi 21 .gtr 3 (T 20) (ai 0)]])
 (.cond (T 21) (.ops [.bQ none 22 80 7 7,.xs [I 23 (T 6)],.bT true none 80 4 (T 22) 4,.xs [ak 5 (T 23)]])
 (.skip)))))))
 (.ops [.xs [bi 24 .add 3 (T 12) (ai 1),I 12 (T 24)]])))))))
 (.seq (.ops [.bQ none 25 80 4 4,.xs [I 26 (T 5)],.bT true none 80 2 (T 25) 2,.xs [ak 3 (T 26)]])
 (.ret)))),[.cell 2 80,.tmp 3]⟩
def Ib:cM:=⟨.seq (.ops [.cl 1 74 (T 0),.bL 2 74])
 (.seq (.ops [.bQ none 7 74 1 1,.xs [aS 8 49 [T 7],ms 9 72 (T 8) (T 8),ak 3 (T 9)]])
 (.seq (.seq (.ops [.xs [I 10 (T 3),bF 11 72 (T 10),I 12 (ai 0)]])
 (.block 0 (.loop 137438949456 0 (.seq (.ops [.xs [bi 13 .lss 3 (T 12) (T 11)]])
 (.seq (.cond (T 13) (.skip)
 (.exit 0))
 (.seq (.block 1 (.seq (.ops [.xs [I 14 (T 12),ak 4 (T 14)]])
 (.seq (.ops [.a9 none 15 74 1 0 1 0,.aI none 16 72 15 1 0,.xs [bF 17 72 (T 16),I 18 (ai 0)]])
 (.block 2 (.loop 68719214656 0 (.seq (.ops [.xs [bi 19 .lss 3 (T 18) (T 17)]])
 (.seq (.cond (T 19) (.skip)
 (.exit 2))
 (.seq (.block 3 (.seq (.ops [.xs [bu 20 72 (T 16) (T 18),aI 21 120 (T 20),ak 6 (T 21)]])
 (.ops [.xs [I 22 (T 3),I 23 (T 4),I 24 (T 3),I 25 (T 4),bu 26 72 (T 24) (T 25),aI 27 120 (T 26),I 28 (T 6),I 29 (T 4),bu 30 120 (T 28) (T 29),aI 31 80 (T 30),bj (ei 32 120 1 [(0,T 31)]),ap 33 120 120 (T 27) (T 32),bu 34 72 (T 22) (T 23),st 120 (T 34) (T 33)]])))
 (.ops [.xs [bi 35 .add 3 (T 18) (ai 1),I 18 (T 35)]])))))))))
 (.ops [.xs [bi 36 .add 3 (T 12) (ai 1),I 12 (T 36)]])))))))
 (.seq (.ops [.xs [I 37 (T 3),dB 38 74 [(0,T 37)]],.bT true none 74 2 (T 38) 2])
 (.ret)))),[.cell 2 74]⟩
def HN:cM:=⟨.seq (.ops [.cl 2 80 (T 0),.cl 3 80 (T 1),.xs [ak 4 (ai 0)]])
 (.seq (.ops [.a9 none 5 80 2 0 2 0,.aI none 6 78 5 2 0,.a9 none 7 80 3 1 3 2,.aI none 8 78 7 3 2,.xs [bj (aS 9 66 [T 6,T 8])],.a9 none 10 80 3 0 3 0,
  .aI none 11 78 10 3 0,.a9 none 12 80 2 1 2 2,.aI none 13 78 12 2 2,.xs [aS 14 66 [T 11,T 13],aS 15 67 [T 9,T 14],ak 4 (T 15)]])
 (.ret)),[.tmp 4]⟩
def HK:cM:=⟨.seq (.ops [.cl 1 78 (T 0),.xs [ak 2 (ai 0),ak 3 (C (.bool false))]])
 (.seq (.seq (.ops [.a9 none 7 78 1 1 1 1,.aI none 8 76 7 1 1,.xs [bF 9 76 (T 8),bi 10 .gtr 3 (T 9) (ai 2)]])
 (.cond (T 10) (.seq (.ops [.xs [ak 2 (ai 0),ak 3 (C (.bool false))]])
 (.ret))
 (.skip)))
 (.seq (.ops [.xs [ak 4 (C (.int .u64 0))]])
 (.seq (.seq (.ops [.a9 none 11 78 1 1 1 1,.aI none 12 76 11 1 1,.xs [bF 13 76 (T 12),I 14 (ai 0)]])
 (.block 0 (.loop 134201456 0 (.seq (.ops [.xs [bi 15 .lss 3 (T 14) (T 13)]])
 (.seq (.cond (T 15) (.skip)
 (.exit 0))
 (.seq (.block 1 (.seq (.ops [.xs [I 16 (T 14),bu 17 76 (T 12) (T 14),aI 18 124 (T 17),ak 5 (T 16),ak 6 (T 18)]])
 (.ops [.xs [I 19 (T 4),I 20 (T 6),ch 21 124 123 (T 20),I 22 (T 5),bi 23 .mul 3 (ai 32) (T 22),bi 24 .shl 123 (T 21) (T 23),bi 25 .or 123 (T 19) (T 24),ak 4 (T 25)]])))
 (.ops [.xs [bi 26 .add 3 (T 14) (ai 1),I 14 (T 26)]])))))))
 (.seq (.seq (.ops [.xs [I 27 (T 4),bi 28 .gtr 123 (T 27) (C (.int .u64 4611686018427387904))]])
 (.cond (T 28) (.seq (.ops [.xs [ak 2 (ai 0),ak 3 (C (.bool false))]])
 (.ret))
 (.skip)))
 (.seq (.seq (.ops [.a9 none 29 78 1 0 1 0,.aI none 30 4 29 1 0])
 (.cond (T 30) (.seq (.ops [.xs [I 31 (T 4),ch 32 123 3 (T 31),un 33 .neg (T 32),ak 2 (T 33),ak 3 (C (.bool true))]])
 (.ret))
 (.skip)))
 (.seq (.ops [.xs [I 34 (T 4),ch 35 123 3 (T 34),ak 2 (T 35),ak 3 (C (.bool true))]])
 (.ret))))))),[.tmp 2,.tmp 3]⟩
def H_:cM:=⟨.seq (.ops [.cl 1 74 (T 0),.xs [ak 2 (C (.slice none 0 0)),ak 3 (ai 0)]])
 (.seq (.ops [.xs [ak 4 (C (.slice none 0 0))]])
 (.seq (.seq (.ops [.bQ none 12 74 1 1,.xs [aS 13 68 [T 12],aS 14 58 [T 13],bF 15 110 (T 14),I 16 (ai 0)]])
 (.block 0 (.loop 144115188075793372 576 (.seq (.ops [.xs [bi 17 .lss 3 (T 16) (T 15)]])
 (.seq (.cond (T 17) (.skip)
 (.exit 0))
 (.seq (.block 1 (.seq (.ops [.xs [bu 18 110 (T 14) (T 16),aI 19 113 (T 18)],.bL 6 113,.bT true none 113 6 (T 19) 6])
 (.seq (.ops [.a9 none 21 113 6 0 6 0,.aI none 22 80 21 6 0,
  .xs [aS 23 51 [T 22],I 20 (T 23),ex 24 (T 20) 0,ex 25 (T 20) 1,ak 7 (T 24),ak 8 (T 25)]])
 (.seq (.seq (.ops [.xs [I 26 (T 8),bi 27 .neq 24 (T 26) (ai 0)]])
 (.cond (T 27) (.seq (.ops [.xs [I 28 (T 8),ak 2 (C (.slice none 0 0)),ak 3 (T 28)]])
 (.ret))
 (.skip)))
 (.seq (.ops [.xs [I 29 (T 7),dB 30 93 [(0,T 29)]],.bL 9 93,.bT true none 93 9 (T 30) 9])
 (.seq (.seq (.ops [.a9 none 31 113 6 1 6 4,.aI none 32 34 31 6 4,.bQ none 33 74 1 1,
  .xs [bj (aS 34 49 [T 33]),fF 35 34 (T 32) none (some (T 34)) none,bF 36 34 (T 35),I 37 (ai 0)]])
 (.block 2 (.loop 4503462188419072 512 (.seq (.ops [.xs [bi 38 .lss 3 (T 37) (T 36)]])
 (.seq (.cond (T 38) (.skip)
 (.exit 2))
 (.seq (.block 3 (.seq (.ops [.xs [bu 39 34 (T 35) (T 37),aI 40 3 (T 39),ak 11 (T 40)]])
 (.seq (.box 32985348835328 0 (.seq (.ops [.xs [I 41 (T 11)],.bQ none 42 74 1 1,.xs [aS 43 48 [T 42],bi 44 .geq 3 (T 41) (T 43)]])
 (.cond (T 44) (.ops [.xs [ak 11 (ai (-1))]])
 (.skip))))
 (.ops [.a9 none 45 93 9 1 9 1,.aI none 46 34 45 9 1,.xs [I 47 (T 11),ei 48 34 1 [(0,T 47)],ap 49 34 34 (T 46) (T 48)],.a9 none 50 93 9 1 9 1,
  .st true none 34 50 (T 49) 9 1]))))
 (.ops [.xs [bi 51 .add 3 (T 37) (ai 1),I 37 (T 51)]])))))))
 (.ops [.xs [I 52 (T 4)],.bQ none 53 93 9 9,.xs [ei 54 27 1 [(0,T 53)],ap 55 27 27 (T 52) (T 54),ak 4 (T 55)]])))))))
 (.ops [.xs [bi 56 .add 3 (T 16) (ai 1),I 16 (T 56)]])))))))
 (.seq (.ops [.xs [I 57 (T 4),ak 2 (T 57),ak 3 (ai 0)]])
 (.ret)))),[.tmp 2,.tmp 3]⟩
def Hq:cM:=⟨.seq (.ops [.cl 1 40 (T 0),.xs [ak 2 (ai 0)]])
 (.seq (.seq (.ops [.a9 none 3 40 1 1 1 1,.aI none 4 34 3 1 1,.xs [bF 5 34 (T 4),bi 6 .eql 3 (T 5) (ai 0)]])
 (.cond (T 6) (.seq (.ops [.xs [ak 2 (ai 0)]])
 (.ret))
 (.skip)))
 (.seq (.seq (.ops [.a9 none 7 40 1 0 1 0,.aI none 8 4 7 1 0])
 (.cond (T 8) (.seq (.ops [.xs [ak 2 (ai (-1))]])
 (.ret))
 (.skip)))
 (.seq (.ops [.xs [ak 2 (ai 1)]])
 (.ret)))),[.tmp 2]⟩
def Hl:cM:=⟨.seq (.ops [.cl 1 42 (T 0),.bL 2 42])
 (.seq (.ops [.a9 none 8 42 1 0 1 0,.aI none 9 40 8 1 0,.a9 none 10 42 1 1 1 2,.aI none 11 40 10 1 2,.xs [aS 12 69 [T 9,T 11]],.bL 3 40,
  .bT true none 40 3 (T 12) 3])
 (.seq (.ops [.a9 none 14 42 1 0 1 0,.aI none 15 40 14 1 0,.bQ none 16 40 3 3,
  .xs [aS 17 70 [T 15,T 16],I 13 (T 17),ex 18 (T 13) 0,ex 19 (T 13) 1],.bL 4 40,.bL 5 40,.bT true none 40 4 (T 18) 4,
  .bT true none 40 5 (T 19) 5])
 (.seq (.ops [.a9 none 21 42 1 1 1 2,.aI none 22 40 21 1 2,.bQ none 23 40 3 3,
  .xs [aS 24 70 [T 22,T 23],I 20 (T 24),ex 25 (T 20) 0,ex 26 (T 20) 1],.bL 6 40,.bL 7 40,.bT true none 40 6 (T 25) 6,
  .bT true none 40 7 (T 26) 7])
 (.seq (.ops [.bQ none 27 40 4 4,.bQ none 28 40 6 6,.xs [dB 29 42 [(0,T 27),(1,T 28)]],.bT true none 42 2 (T 29) 2])
 (.ret))))),[.cell 2 42]⟩
def Hg:cM:=⟨.seq (.ops [.cl 2 40 (T 0),.cl 3 40 (T 1),.xs [ak 4 (ai 0)]])
 (.seq (.ops [.bQ none 5 40 2 2,.bQ none 6 40 3 3,.xs [aS 7 71 [T 5,T 6],aS 8 41 [T 7],ak 4 (T 8)]])
 (.ret)),[.tmp 4]⟩
def Hm:cM:=⟨.seq (.ops [.cl 2 40 (T 0),.cl 3 40 (T 1),.bL 4 40])
 (.seq (.ops [.a9 none 10 40 2 1 2 1,.aI none 11 34 10 2 1,.xs [bF 12 34 (T 11)],.a9 none 13 40 3 1 3 1,.aI none 14 34 13 3 1,
  .xs [bF 15 34 (T 14),bi 16 .add 3 (T 12) (T 15),bi 17 .add 3 (T 16) (ai 1),ms 18 34 (T 17) (T 17),ak 5 (T 18)]])
 (.seq (.seq (.ops [.xs [ak 6 (ai 0)]])
 (.block 0 (.loop 4722366482869644690368 0 (.seq (.seq (.ops [.xs [I 19 (T 6)],.a9 none 20 40 2 1 2 1,.aI none 21 34 20 2 1,.xs [bF 22 34 (T 21),bi 23 .lss 3 (T 19) (T 22)]])
 (.cond (T 23) (.skip)
 (.exit 0)))
 (.seq (.block 1 (.seq (.ops [.xs [ak 7 (ai 0)]])
 (.seq (.ops [.xs [ak 8 (ai 0)]])
 (.block 2 (.loop 4722366482869578105728 0 (.seq (.seq (.box 34292629504 0 (.ops [.xs [I 26 (T 8)],.a9 none 27 40 3 1 3 1,.aI none 28 34 27 3 1,
  .xs [bF 29 34 (T 28),bi 30 .lss 3 (T 26) (T 29),I 31 (T 30),aT 31 false (I 32 (T 7)),aT 31 false (bi 33 .gtr 3 (T 32) (ai 0)),cR 34 (T 31) (C (.bool true)) (T 33)]]))
 (.cond (T 34) (.skip)
 (.exit 2)))
 (.seq (.block 3 (.seq (.ops [.xs [I 37 (T 5),I 38 (T 6),I 39 (T 8),bi 40 .add 3 (T 38) (T 39),bu 41 34 (T 37) (T 40),aI 42 3 (T 41),I 43 (T 7),bi 44 .add 3 (T 42) (T 43),ak 9 (T 44)]])
 (.seq (.box 9223336852482687488 0 (.seq (.ops [.xs [I 45 (T 8)],.a9 none 46 40 3 1 3 1,.aI none 47 34 46 3 1,.xs [bF 48 34 (T 47),bi 49 .lss 3 (T 45) (T 48)]])
 (.cond (T 49) (.ops [.xs [I 50 (T 9)],.a9 none 51 40 2 1 2 1,.aI none 52 34 51 2 1,.xs [I 53 (T 6),bu 54 34 (T 52) (T 53),aI 55 3 (T 54)],
  .a9 none 56 40 3 1 3 1,.aI none 57 34 56 3 1,
  .xs [I 58 (T 8),bu 59 34 (T 57) (T 58),aI 60 3 (T 59),bi 61 .mul 3 (T 55) (T 60),bi 62 .add 3 (T 50) (T 61),ak 9 (T 62)]])
 (.skip))))
 (.ops [.xs [I 63 (T 5),I 64 (T 6),I 65 (T 8),bi 66 .add 3 (T 64) (T 65),I 67 (T 9),bi 68 .rem 3 (T 67) (ai 10000),I 69 (T 9),bi 70 .quo 3 (T 69) (ai 10000),bu 71 34 (T 63) (T 66),st 3 (T 71) (T 68),ak 7 (T 70)]]))))
 (.ops [.xs [I 35 (T 8),bi 36 .add 3 (T 35) (ai 1),ak 8 (T 36)]]))))))))
 (.ops [.xs [I 24 (T 6),bi 25 .add 3 (T 24) (ai 1),ak 6 (T 25)]]))))))
 (.seq (.ops [.a9 none 72 40 2 0 2 0,.aI none 73 4 72 2 0,.a9 none 74 40 3 0 3 0,.aI none 75 4 74 3 0,
  .xs [bi 76 .neq 4 (T 73) (T 75),I 77 (T 5),dB 78 40 [(0,T 76),(1,T 77)],aS 79 72 [T 78]],.bT true none 40 4 (T 79) 4])
 (.ret)))),[.cell 4 40]⟩
def Hk:cM:=⟨.seq (.ops [.bL 2 40])
 (.seq (.ops [.xs [I 5 (T 0),bi 6 .lss 3 (T 5) (ai 0),dB 7 40 [(0,T 6)]],.bL 3 40,.bT true none 40 3 (T 7) 3])
 (.seq (.block 0 (.loop 16776977 8 (.seq (.seq (.ops [.xs [I 8 (T 0),bi 9 .neq 3 (T 8) (ai 0)]])
 (.cond (T 9) (.skip)
 (.exit 0)))
 (.block 1 (.seq (.ops [.xs [I 10 (T 0),bi 11 .rem 3 (T 10) (ai 10000),ak 4 (T 11)]])
 (.seq (.box 61456 0 (.seq (.ops [.xs [I 12 (T 4),bi 13 .lss 3 (T 12) (ai 0)]])
 (.cond (T 13) (.ops [.xs [I 14 (T 4),un 15 .neg (T 14),ak 4 (T 15)]])
 (.skip))))
 (.seq (.ops [.a9 none 16 40 3 1 3 1,.aI none 17 34 16 3 1,.xs [I 18 (T 4),ei 19 34 1 [(0,T 18)],ap 20 34 34 (T 17) (T 19)],.a9 none 21 40 3 1 3 1,
  .st true none 34 21 (T 20) 3 1])
 (.ops [.xs [I 22 (T 0),bi 23 .quo 3 (T 22) (ai 10000),ak 0 (T 23)]]))))))))
 (.seq (.ops [.bQ none 24 40 3 3,.bT true none 40 2 (T 24) 2])
 (.ret)))),[.cell 2 40]⟩
def H3:cM:=⟨.seq (.ops [.bL 6 74,.bL 7 80,.xs [ak 8 (C (.bool false))]])
 (.seq (.ops [.xs [I 17 (T 2),ms 18 34 (T 17) (T 17),ei 19 22 1 [(0,T 18)],I 20 (T 1),aS 21 73 [T 19,T 20],aS 22 32 [T 21],aS 23 59 [ai 0]],
  .bL 9 74,.bL 10 80,.bT true none 74 9 (T 22) 9,.bT true none 80 10 (T 23) 10])
 (.seq (.seq (.ops [.xs [I 24 (T 0),bF 25 27 (T 24),I 26 (ai 0)]])
 (.block 0 (.loop 40564819207303340847894435590400 13504 (.seq (.ops [.xs [bi 27 .lss 3 (T 26) (T 25)]])
 (.seq (.cond (T 27) (.skip)
 (.exit 0))
 (.seq (.block 1 (.seq (.ops [.xs [bu 28 27 (T 24) (T 26),aI 29 93 (T 28)],.bL 12 93,.bT true none 93 12 (T 29) 12])
 (.seq (.ops [.a9 none 31 93 12 0 12 0,.aI none 32 45 31 12 0,.xs [aS 33 74 [T 32],I 30 (T 33),ex 34 (T 30) 0,ex 35 (T 30) 1],.bL 13 80,
  .bT true none 80 13 (T 34) 13,.xs [ak 14 (T 35)]])
 (.seq (.seq (.box 1125831187365888 0 (.ops [.xs [I 36 (T 14),un 37 .not (T 36),I 38 (T 37)],.bQ (some (38,false)) 39 80 13 13,
  .xs [aT 38 false (aS 40 75 [T 39]),aT 38 false (bi 41 .leq 3 (T 40) (ai 0)),cR 42 (T 38) (C (.bool true)) (T 41),I 43 (T 42)],
  .a9 (some (43,false)) 44 93 12 1 12 1,.aI (some (43,false)) 45 34 44 12 1,
  .xs [aT 43 false (bF 46 34 (T 45)),aT 43 false (I 47 (T 2)),aT 43 false (bi 48 .neq 3 (T 46) (T 47)),cR 49 (T 43) (C (.bool true)) (T 48)]]))
 (.cond (T 49) (.seq (.opsL [.xs [dB 50 74 []],.bQ none 51 80 10 10,.bT false none 74 6 (T 50) 6,.bT true none 80 7 (T 51) 7,.xs [ak 8 (C (.bool false))]])
 (.ret))
 (.skip)))
 (.seq (.seq (.ops [.a9 none 52 93 12 1 12 1,.aI none 53 34 52 12 1,.xs [bF 54 34 (T 53),I 55 (ai 0)]])
 (.block 2 (.loop 2535301200456422774196387545344 192 (.seq (.ops [.xs [bi 56 .lss 3 (T 55) (T 54)]])
 (.seq (.cond (T 56) (.skip)
 (.exit 2))
 (.seq (.box 1267650600228085286308627448064 192 (.block 3 (.seq (.ops [.xs [I 57 (T 55),bu 58 34 (T 53) (T 55),aI 59 3 (T 58),ak 15 (T 57),ak 16 (T 59)]])
 (.seq (.seq (.box 604461756885809980506112 0 (.ops [.xs [I 60 (T 16),bi 61 .lss 3 (T 60) (ai (-1)),I 62 (T 61),aT 62 false (I 63 (T 16)),aT 62 false (I 64 (T 1)),aT 62 false (bi 65 .geq 3 (T 63) (T 64)),cR 66 (T 62) (C (.bool true)) (T 65),I 67 (T 66),aT 67 false (I 68 (T 16)),aT 67 false (bi 69 .geq 3 (T 68) (ai 0)),aT 67 false (I 70 (T 69))],
  .a9 (some (70,true)) 71 93 12 1 12 1,.aI (some (70,true)) 72 34 71 12 1,
  .xs [aT 70 true (I 73 (T 15)),aT 70 true ((fF 74 34 (T 72) none (some (T 73)) none)),aT 70 true (I 75 (T 16)),aT 70 true (aS 76 76 [T 74,T 75]),aT 67 false ((cR 77 (T 70) (T 76) (C (.bool false)))),cR 78 (T 67) (C (.bool true)) (T 77)]]))
 (.cond (T 78) (.seq (.opsL [.xs [dB 79 74 []],.bQ none 80 80 10 10,.bT false none 74 6 (T 79) 6,.bT true none 80 7 (T 80) 7,.xs [ak 8 (C (.bool false))]])
 (.ret))
 (.skip)))
 (.seq (.ops [.xs [I 81 (T 16),bi 82 .geq 3 (T 81) (ai 0)]])
 (.cond (T 82) (.ops [.a9 none 83 74 9 0 9 0,.aI none 84 72 83 9 0,.xs [I 85 (T 16),bu 86 72 (T 84) (T 85),aI 87 120 (T 86),I 88 (T 15)],
  .a9 none 89 74 9 0 9 0,.aI none 90 72 89 9 0,
  .xs [I 91 (T 16),bu 92 72 (T 90) (T 91),aI 93 120 (T 92),I 94 (T 15),bu 95 120 (T 93) (T 94),aI 96 80 (T 95)],.bQ none 97 80 13 13,
  .xs [bj (aS 98 77 [T 96,T 97]),bu 99 120 (T 87) (T 88),st 80 (T 99) (T 98)]])
 (.skip)))))))
 (.ops [.xs [bi 100 .add 3 (T 55) (ai 1),I 55 (T 100)]])))))))
 (.ops [.bQ none 101 80 10 10,.bQ none 102 80 13 13,.xs [aS 103 77 [T 101,T 102]],.bT true none 80 10 (T 103) 10]))))))
 (.ops [.xs [bi 104 .add 3 (T 26) (ai 1),I 26 (T 104)]])))))))
 (.seq (.opsL [.bQ none 105 74 9 9,.bQ none 106 80 10 10,.xs [I 107 (T 0),bF 108 27 (T 107),bi 109 .leq 3 (T 108) (ai 1000)],
  .bT false none 74 6 (T 105) 6,.bT true none 80 7 (T 106) 7,.xs [ak 8 (T 109)]])
 (.ret)))),[.cell 6 74,.cell 7 80,.tmp 8]⟩
def H9:cM:=⟨.seq (.ops [.cl 2 74 (T 0),.cl 3 74 (T 1),.xs [ak 4 (C (.bool false))]])
 (.seq (.seq (.ops [.a9 none 9 74 2 0 2 0,.aI none 10 72 9 2 0,.xs [bF 11 72 (T 10),I 12 (ai 0)]])
 (.block 0 (.loop 137438949872 256 (.seq (.ops [.xs [bi 13 .lss 3 (T 12) (T 11)]])
 (.seq (.cond (T 13) (.skip)
 (.exit 0))
 (.seq (.block 1 (.seq (.ops [.xs [I 14 (T 12),bu 15 72 (T 10) (T 12),aI 16 120 (T 15),ak 5 (T 14),ak 6 (T 16)]])
 (.seq (.ops [.xs [I 17 (T 6),bF 18 120 (T 17),I 19 (ai 0)]])
 (.block 2 (.loop 68718952848 256 (.seq (.ops [.xs [bi 20 .lss 3 (T 19) (T 18)]])
 (.seq (.cond (T 20) (.skip)
 (.exit 2))
 (.seq (.block 3 (.seq (.ops [.xs [I 21 (T 19),bu 22 120 (T 17) (T 19),aI 23 80 (T 22)],.bL 8 80,.xs [ak 7 (T 21)],.bT true none 80 8 (T 23) 8])
 (.seq (.ops [.bQ none 24 80 8 8,.a9 none 25 74 3 0 3 0,.aI none 26 72 25 3 0,
  .xs [I 27 (T 5),bu 28 72 (T 26) (T 27),aI 29 120 (T 28),I 30 (T 7),bu 31 120 (T 29) (T 30),aI 32 80 (T 31),aS 33 35 [T 24,T 32],bi 34 .neq 3 (T 33) (ai 0)]])
 (.cond (T 34) (.seq (.ops [.xs [ak 4 (C (.bool false))]])
 (.ret))
 (.skip)))))
 (.ops [.xs [bi 35 .add 3 (T 19) (ai 1),I 19 (T 35)]])))))))))
 (.ops [.xs [bi 36 .add 3 (T 12) (ai 1),I 12 (T 36)]])))))))
 (.seq (.ops [.xs [ak 4 (C (.bool true))]])
 (.ret))),[.tmp 4]⟩
def HP:cM:=⟨.seq (.ops [.cl 1 80 (T 0),.xs [ak 2 (C (.string {data:= #[]})),ak 3 (ai 0)]])
 (.seq (.ops [.a9 none 6 80 1 0 1 0,.a9 none 7 78 6 1 1 1,.aI none 8 76 7 1 1,.xs [aS 9 78 [T 8],ak 4 (T 9)]])
 (.seq (.seq (.ops [.xs [I 10 (T 4),bF 11 9 (T 10),bi 12 .gtr 3 (T 11) (ai 4000)]])
 (.cond (T 12) (.seq (.ops [.xs [ak 2 (C (.string {data:= #[]})),ak 3 (ai 5)]])
 (.ret))
 (.skip)))
 (.seq (.box 253968 0 (.seq (.ops [.a9 none 13 80 1 0 1 0,.a9 none 14 78 13 0 1 0,.aI none 15 4 14 1 0])
 (.cond (T 15) (.ops [.xs [I 16 (T 4),bi 17 .add 9 (C (.string {data:= #[45]})) (T 16),ak 4 (T 17)]])
 (.skip))))
 (.seq (.seq (.ops [.bQ none 18 80 1 1,.xs [aS 19 79 [T 18]]])
 (.cond (T 19) (.seq (.ops [.xs [I 20 (T 4),ak 2 (T 20),ak 3 (ai 0)]])
 (.ret))
 (.skip)))
 (.seq (.ops [.a9 none 21 80 1 1 1 2,.a9 none 22 78 21 1 1 3,.aI none 23 76 22 1 3,.xs [aS 24 78 [T 23],ak 5 (T 24)]])
 (.seq (.seq (.ops [.xs [I 25 (T 5),bF 26 9 (T 25),bi 27 .gtr 3 (T 26) (ai 4000)]])
 (.cond (T 27) (.seq (.ops [.xs [ak 2 (C (.string {data:= #[]})),ak 3 (ai 5)]])
 (.ret))
 (.skip)))
 (.seq (.ops [.xs [I 28 (T 4),bi 29 .add 9 (T 28) (C (.string {data:= #[47]})),I 30 (T 5),bi 31 .add 9 (T 29) (T 30),ak 2 (T 31),ak 3 (ai 0)]])
 (.ret)))))))),[.tmp 2,.tmp 3]⟩
def Hd:cM:=⟨.seq (.ops [.cl 1 40 (T 0),.bL 2 40])
 (.seq (.ops [.a9 none 3 40 1 0 1 0,.st true none 4 3 (C (.bool false)) 1 0])
 (.seq (.ops [.bQ none 4 40 1 1,.bT true none 40 2 (T 4) 2])
 (.ret))),[.cell 2 40]⟩
def Hp:cM:=⟨.seq (.ops [.bL 2 42,.xs [ak 3 (C (.bool false))]])
 (.seq (.ops [.xs [I 13 (T 0),ak 4 (T 13),ak 5 (C (.bool false))]])
 (.seq (.seq (.ops [.xs [I 14 (T 4),bF 15 9 (T 14),bi 16 .gtr 3 (T 15) (ai 8002)]])
 (.cond (T 16) (.seq (.ops [.xs [dB 17 42 []],.bT true none 42 2 (T 17) 2,.xs [ak 3 (C (.bool false))]])
 (.ret))
 (.skip)))
 (.seq (.box 268173360 0 (.seq (.box 66846720 0 (.ops [.xs [I 18 (T 4),bF 19 9 (T 18),bi 20 .gtr 3 (T 19) (ai 0),I 21 (T 20),aT 21 true (I 22 (T 4)),aT 21 true (en 23 9 (T 22) (ai 0)),aT 21 true ((bi 24 .eql 5 (T 23) (C (.int .u8 45)))),cR 25 (T 21) (T 24) (C (.bool false))]]))
 (.cond (T 25) (.ops [.xs [I 26 (T 4),fF 27 9 (T 26) (some (ai 1)) none none,ak 4 (T 27),ak 5 (C (.bool true))]])
 (.skip))))
 (.seq (.ops [.xs [I 28 (T 4),bF 29 9 (T 28),ak 6 (T 29)]])
 (.seq (.seq (.ops [.xs [I 30 (T 4),bF 31 9 (T 30),bi 32 .sub 3 (T 31) (ai 1),ak 7 (T 32)]])
 (.block 0 (.loop 4389456576704 0 (.seq (.seq (.ops [.xs [I 33 (T 7),bi 34 .geq 3 (T 33) (ai 0)]])
 (.cond (T 34) (.skip)
 (.exit 0)))
 (.seq (.box 4260607557696 0 (.block 1 (.seq (.ops [.xs [I 37 (T 4),I 38 (T 7),en 39 9 (T 37) (T 38),bi 40 .eql 5 (T 39) (C (.int .u8 47))]])
 (.cond (T 40) (.ops [.xs [I 41 (T 7),ak 6 (T 41)]])
 (.skip)))))
 (.ops [.xs [I 35 (T 7),bi 36 .sub 3 (T 35) (ai 1),ak 7 (T 36)]]))))))
 (.seq (.ops [.xs [I 43 (T 4),I 44 (T 6),fF 45 9 (T 43) none (some (T 44)) none,aS 46 80 [T 45],I 42 (T 46),ex 47 (T 42) 0,ex 48 (T 42) 1],
  .bL 8 40,.bT true none 40 8 (T 47) 8,.xs [ak 9 (T 48)]])
 (.seq (.ops [.xs [aS 49 46 [ai 1]],.bL 10 40,.bT true none 40 10 (T 49) 10])
 (.seq (.box 1208925818488729267869704 3076 (.seq (.ops [.xs [I 50 (T 6),I 51 (T 4),bF 52 9 (T 51),bi 53 .lss 3 (T 50) (T 52)]])
 (.cond (T 53) (.seq (.ops [.xs [I 55 (T 4),I 56 (T 6),bi 57 .add 3 (T 56) (ai 1),fF 58 9 (T 55) (some (T 57)) none none,aS 59 80 [T 58],I 54 (T 59),ex 60 (T 54) 0,ex 61 (T 54) 1],
  .bL 11 40,.bT true none 40 11 (T 60) 11,.xs [ak 12 (T 61)]])
 (.seq (.seq (.box 302226843217638866288640 0 (.ops [.xs [I 62 (T 12),un 63 .not (T 62),I 64 (T 63)],.bQ (some (64,false)) 65 40 11 11,
  .xs [aT 64 false (bj (aS 66 46 [ai 2])),aT 64 false (aS 67 44 [T 65,T 66]),aT 64 false (bi 68 .lss 3 (T 67) (ai 0)),cR 69 (T 64) (C (.bool true)) (T 68),I 70 (T 69)],
  .bQ (some (70,false)) 71 40 8 8,.bQ (some (70,false)) 72 40 11 11,
  .xs [aT 70 false (aS 73 69 [T 71,T 72]),aT 70 false (aS 74 46 [ai 1]),aT 70 false (aS 75 44 [T 73,T 74]),aT 70 false (bi 76 .neq 3 (T 75) (ai 0)),cR 77 (T 70) (C (.bool true)) (T 76)]]))
 (.cond (T 77) (.seq (.ops [.xs [dB 78 42 []],.bT true none 42 2 (T 78) 2,.xs [ak 3 (C (.bool false))]])
 (.ret))
 (.skip)))
 (.ops [.bQ none 79 40 11 11,.bT true none 40 10 (T 79) 10])))
 (.skip))))
 (.seq (.seq (.box 2474671152751145920623542272 0 (.ops [.xs [I 80 (T 9),un 81 .not (T 80),I 82 (T 81),aT 82 false (I 83 (T 5)),aT 82 false (I 84 (T 83))],.a9 (some (84,true)) 85 40 8 1 8 1,
  .aI (some (84,true)) 86 34 85 8 1,
  .xs [aT 84 true (bF 87 34 (T 86)),aT 84 true (bi 88 .eql 3 (T 87) (ai 0)),aT 82 false ((cR 89 (T 84) (T 88) (C (.bool false)))),cR 90 (T 82) (C (.bool true)) (T 89)]]))
 (.cond (T 90) (.seq (.ops [.xs [dB 91 42 []],.bT true none 42 2 (T 91) 2,.xs [ak 3 (C (.bool false))]])
 (.ret))
 (.skip)))
 (.seq (.box 34662321099990647697175478272 256 (.seq (.ops [.xs [I 92 (T 5)]])
 (.cond (T 92) (.ops [.bQ none 93 40 8 8,.xs [aS 94 81 [T 93]],.bT true none 40 8 (T 94) 8])
 (.skip))))
 (.seq (.ops [.bQ none 95 40 8 8,.bQ none 96 40 10 10,.xs [dB 97 42 [(0,T 95),(1,T 96)]],.bT true none 42 2 (T 97) 2,.xs [ak 3 (C (.bool true))]])
 (.ret)))))))))))),[.cell 2 42,.tmp 3]⟩
def HF:cM:=⟨.seq (.ops [.xs [ak 4 (ai 0)]])
 (.seq (.ops [.xs [I 5 (T 0),I 6 (T 1),bi 7 .rem 3 (T 5) (T 6),I 8 (T 1),bi 9 .add 3 (T 7) (T 8),I 10 (T 1),bi 11 .rem 3 (T 9) (T 10),ak 4 (T 11)]])
 (.ret)),[.tmp 4]⟩
def He:cM:=⟨.seq (.ops [.cl 2 40 (T 0),.cl 3 40 (T 1),.bL 4 40])
 (.seq (.seq (.ops [.a9 none 5 40 2 0 2 0,.aI none 6 4 5 2 0,.a9 none 7 40 3 0 3 0,.aI none 8 4 7 3 0,.xs [bi 9 .eql 4 (T 6) (T 8)]])
 (.cond (T 9) (.seq (.ops [.a9 none 10 40 2 0 2 0,.aI none 11 4 10 2 0,.a9 none 12 40 2 1 2 1,.aI none 13 34 12 2 1,.a9 none 14 40 3 1 3 1,.aI none 15 34 14 3 1,
  .xs [bj (aS 16 82 [T 13,T 15]),dB 17 40 [(0,T 11),(1,T 16)],aS 18 72 [T 17]],.bT true none 40 4 (T 18) 4])
 (.ret))
 (.skip)))
 (.seq (.seq (.ops [.a9 none 19 40 2 1 2 1,.aI none 20 34 19 2 1,.a9 none 21 40 3 1 3 1,.aI none 22 34 21 3 1,
  .xs [aS 23 83 [T 20,T 22],bi 24 .geq 3 (T 23) (ai 0)]])
 (.cond (T 24) (.seq (.ops [.a9 none 25 40 2 0 2 0,.aI none 26 4 25 2 0,.a9 none 27 40 2 1 2 1,.aI none 28 34 27 2 1,.a9 none 29 40 3 1 3 1,.aI none 30 34 29 3 1,
  .xs [bj (aS 31 84 [T 28,T 30]),dB 32 40 [(0,T 26),(1,T 31)],aS 33 72 [T 32]],.bT true none 40 4 (T 33) 4])
 (.ret))
 (.skip)))
 (.seq (.ops [.a9 none 34 40 3 0 3 0,.aI none 35 4 34 3 0,.a9 none 36 40 3 1 3 1,.aI none 37 34 36 3 1,.a9 none 38 40 2 1 2 1,.aI none 39 34 38 2 1,
  .xs [bj (aS 40 84 [T 37,T 39]),dB 41 40 [(0,T 35),(1,T 40)],aS 42 72 [T 41]],.bT true none 40 4 (T 42) 4])
 (.ret)))),[.cell 4 40]⟩
def H6:cM:=⟨.seq (.ops [.cl 1 74 (T 0),.xs [ak 2 (C (.slice none 0 0))]])
 (.seq (.ops [.xs [ak 3 (C (.slice none 0 0))]])
 (.seq (.seq (.ops [.a9 none 17 74 1 0 1 0,.aI none 18 72 17 1 0,.xs [bF 19 72 (T 18),I 20 (ai 0)]])
 (.block 0 (.loop 1072693288 0 (.seq (.ops [.xs [bi 21 .lss 3 (T 20) (T 19)]])
 (.seq (.cond (T 21) (.skip)
 (.exit 0))
 (.seq (.block 1 (.seq (.ops [.xs [bu 22 72 (T 18) (T 20),aI 23 120 (T 22),ak 5 (T 23)]])
 (.ops [.xs [I 24 (T 3),I 25 (T 5),aS 26 85 [T 25],ei 27 72 1 [(0,T 26)],ap 28 72 72 (T 24) (T 27),ak 3 (T 28)]])))
 (.ops [.xs [bi 29 .add 3 (T 20) (ai 1),I 20 (T 29)]])))))))
 (.seq (.ops [.xs [I 30 (T 3),dB 31 74 [(0,T 30)]],.bL 6 74,.bT true none 74 6 (T 31) 6])
 (.seq (.ops [.xs [ak 7 (C (.slice none 0 0))]])
 (.seq (.block 2 (.loop 10889035741470030830827987437812287930240 18432 (.seq (.seq (.ops [.bQ none 32 74 6 6,.xs [aS 33 65 [T 32,ai 0],aS 34 75 [T 33],bi 35 .gtr 3 (T 34) (ai 0)]])
 (.cond (T 35) (.skip)
 (.exit 2)))
 (.block 3 (.seq (.ops [.bQ none 36 74 6 6,.xs [bj (ei 37 34 1 [(0,ai (-1))])],.bQ none 38 74 6 6,
  .xs [bj (aS 39 49 [T 38]),bj (aS 40 60 [T 37,T 39]),dB 41 140 [(0,T 36),(1,T 40)],cl 42 140 (T 41),ak 8 (T 42)]])
 (.seq (.ops [.xs [I 43 (T 8),u9 44 (.func 86) #[T 43] #[],ak 9 (T 44)]])
 (.seq (.seq (.ops [.bQ none 45 74 6 6,.xs [aS 46 48 [T 45],I 47 (ai 0)]])
 (.block 4 (.loop 1152780767118492672 0 (.seq (.ops [.xs [bi 48 .lss 3 (T 47) (T 46)]])
 (.seq (.cond (T 48) (.skip)
 (.exit 4))
 (.seq (.block 5 (.seq (.ops [.xs [I 49 (T 47),ak 10 (T 49)]])
 (.seq (.ops [.xs [I 50 (T 8)],.bQ none 51 74 6 6,
  .xs [aS 52 49 [T 51],ms 53 115 (T 52) (T 52),iR 54 (T 50),a9 55 140 (T 54) 2,st 115 (T 55) (T 53)]])
 (.ops [.xs [I 56 (T 9),I 57 (T 10),l7 58 (T 56) [T 57]]]))))
 (.ops [.xs [bi 59 .add 3 (T 47) (ai 1),I 47 (T 59)]])))))))
 (.seq (.ops [.a9 none 60 74 6 0 6 0,.aI none 61 72 60 6 0,
  .xs [I 62 (T 8),iR 63 (T 62),a9 64 140 (T 63) 1,aI 65 34 (T 64),bu 66 34 (T 65) (ai 0),aI 67 3 (T 66),bu 68 72 (T 61) (T 67),aI 69 120 (T 68),bu 70 120 (T 69) (ai 0),aI 71 80 (T 70)],
  .bL 11 80,.bT true none 80 11 (T 71) 11])
 (.seq (.seq (.ops [.xs [I 72 (T 8),iR 73 (T 72),a9 74 140 (T 73) 1,aI 75 34 (T 74),bF 76 34 (T 75),I 77 (ai 0)]])
 (.block 6 (.loop 79228011398536885764897140736 18432 (.seq (.ops [.xs [bi 78 .lss 3 (T 77) (T 76)]])
 (.seq (.cond (T 78) (.skip)
 (.exit 6))
 (.seq (.box 39613476794222361482184650752 18432 (.block 7 (.seq (.ops [.xs [I 79 (T 77),bu 80 34 (T 75) (T 77),aI 81 3 (T 80),ak 12 (T 79),ak 13 (T 81)]])
 (.seq (.ops [.a9 none 82 74 6 0 6 0,.aI none 83 72 82 6 0,
  .xs [I 84 (T 13),bu 85 72 (T 83) (T 84),aI 86 120 (T 85),I 87 (T 12),bu 88 120 (T 86) (T 87),aI 89 80 (T 88)],.bL 14 80,
  .bT true none 80 14 (T 89) 14])
 (.seq (.ops [.bQ none 90 80 14 14,.bQ none 91 80 11 11,.xs [aS 92 35 [T 90,T 91],bi 93 .lss 3 (T 92) (ai 0)]])
 (.cond (T 93) (.ops [.bQ none 94 80 14 14,.bT true none 80 11 (T 94) 11])
 (.skip)))))))
 (.ops [.xs [bi 95 .add 3 (T 77) (ai 1),I 77 (T 95)]])))))))
 (.seq (.seq (.ops [.xs [I 96 (T 8),iR 97 (T 96),a9 98 140 (T 97) 1,aI 99 34 (T 98),bF 100 34 (T 99),I 101 (ai 0)]])
 (.block 8 (.loop 21267645397257453510002109971079200768 0 (.seq (.ops [.xs [bi 102 .lss 3 (T 101) (T 100)]])
 (.seq (.cond (T 102) (.skip)
 (.exit 8))
 (.seq (.block 9 (.seq (.ops [.xs [I 103 (T 101),bu 104 34 (T 99) (T 101),aI 105 3 (T 104),ak 15 (T 103),ak 16 (T 105)]])
 (.ops [.a9 none 106 74 6 0 6 0,.aI none 107 72 106 6 0,.xs [I 108 (T 16),bu 109 72 (T 107) (T 108),aI 110 120 (T 109),I 111 (T 15)],
  .a9 none 112 74 6 0 6 0,.aI none 113 72 112 6 0,
  .xs [I 114 (T 16),bu 115 72 (T 113) (T 114),aI 116 120 (T 115),I 117 (T 15),bu 118 120 (T 116) (T 117),aI 119 80 (T 118)],
  .bQ none 120 80 11 11,.xs [bj (aS 121 87 [T 119,T 120]),bu 122 120 (T 110) (T 111),st 80 (T 122) (T 121)]])))
 (.ops [.xs [bi 123 .add 3 (T 101) (ai 1),I 101 (T 123)]])))))))
 (.ops [.xs [I 124 (T 7)],.bQ none 125 80 11 11,
  .xs [I 126 (T 8),iR 127 (T 126),a9 128 140 (T 127) 1,aI 129 34 (T 128),dB 130 113 [(0,T 125),(1,T 129)],ei 131 110 1 [(0,T 130)],ap 132 110 110 (T 124) (T 131),ak 7 (T 132)]])))))))))))
 (.seq (.ops [.xs [I 133 (T 7),ak 2 (T 133)]])
 (.ret))))))),[.tmp 2]⟩
def Ii:cM:=⟨.seq (.ops [.xs [ak 4 (C (.slice none 0 0))]])
 (.seq (.box 3584 0 (.seq (.ops [.xs [I 9 (T 1),bi 10 .lss 3 (T 9) (ai 0)]])
 (.cond (T 10) (.ops [.xs [mB 11 9 (C (.string {data:= #[99,97,110,110,111,116,32,98,101,32,110,101,103,97,116,105,118,101]})),(⟨true,none,none,.panic (T 11)⟩)]])
 (.skip))))
 (.seq (.ops [.xs [I 13 (T 0),bF 14 34 (T 13),ch 15 3 142 (T 14),I 16 (T 1),ch 17 3 142 (T 16),aS 18 89 [T 15,T 17],I 12 (T 18),ex 19 (T 12) 0,ex 20 (T 12) 1,ak 5 (T 19),ak 6 (T 20)]])
 (.seq (.box 266338304 0 (.seq (.box 132120576 0 (.ops [.xs [I 21 (T 5),bi 22 .gtr 142 (T 21) (C (.int .u64 0)),I 23 (T 22),aT 23 false (I 24 (T 6)),aT 23 false ((bi 25 .gtr 142 (T 24) (C (.int .u64 9223372036854775807)))),cR 26 (T 23) (C (.bool true)) (T 25)]]))
 (.cond (T 26) (.ops [.xs [mB 27 9 (C (.string {data:= #[116,104,101,32,114,101,115,117,108,116,32,111,102,32,40,108,101,110,40,120,41,32,42,32,99,111,117,110,116,41,32,111,118,101,114,102,108,111,119,115]})),(⟨true,none,none,.panic (T 27)⟩)]])
 (.skip))))
 (.seq (.ops [.xs [I 28 (T 6),ch 29 142 3 (T 28),ms 30 34 (T 29) (T 29),ak 7 (T 30)]])
 (.seq (.ops [.xs [I 31 (T 7),I 32 (T 0),cp 33 34 34 (T 31) (T 32),ak 8 (T 33)]])
 (.seq (.block 0 (.loop 140720308486400 0 (.seq (.seq (.ops [.xs [I 34 (T 8),I 35 (T 7),bF 36 34 (T 35),bi 37 .lss 3 (T 34) (T 36)]])
 (.cond (T 37) (.skip)
 (.exit 0)))
 (.block 1 (.ops [.xs [I 38 (T 8),I 39 (T 7),I 40 (T 8),bj (fF 41 34 (T 39) (some (T 40)) none none),I 42 (T 7),I 43 (T 8),bj (fF 44 34 (T 42) none (some (T 43)) none),cp 45 34 34 (T 41) (T 44),bi 46 .add 3 (T 38) (T 45),ak 8 (T 46)]])))))
 (.seq (.ops [.xs [I 47 (T 7),ak 4 (T 47)]])
 (.ret)))))))),[.tmp 4]⟩
def H7:cM:=⟨.seq (.ops [.cl 2 74 (T 0),.bL 4 80])
 (.seq (.ops [.xs [aS 8 59 [ai 0]],.bL 5 80,.bT true none 80 5 (T 8) 5])
 (.seq (.seq (.ops [.a9 none 9 74 2 0 2 0,.aI none 10 72 9 2 0,.xs [I 11 (T 1),bu 12 72 (T 10) (T 11),aI 13 120 (T 12),bF 14 120 (T 13),I 15 (ai 0)]])
 (.block 0 (.loop 8355968 160 (.seq (.ops [.xs [bi 16 .lss 3 (T 15) (T 14)]])
 (.seq (.cond (T 16) (.skip)
 (.exit 0))
 (.seq (.block 1 (.seq (.ops [.xs [bu 17 120 (T 13) (T 15),aI 18 80 (T 17)],.bL 7 80,.bT true none 80 7 (T 18) 7])
 (.ops [.bQ none 19 80 5 5,.bQ none 20 80 7 7,.xs [aS 21 77 [T 19,T 20]],.bT true none 80 5 (T 21) 5])))
 (.ops [.xs [bi 22 .add 3 (T 15) (ai 1),I 15 (T 22)]])))))))
 (.seq (.ops [.bQ none 23 80 5 5,.bT true none 80 4 (T 23) 4])
 (.ret)))),[.cell 4 80]⟩
def Ia:cM:=⟨.seq (.ops [.cl 1 74 (T 0),.bL 2 74])
 (.seq (.ops [.bQ none 14 74 1 1,.xs [bj (aS 15 48 [T 14])],.bQ none 16 74 1 1,.xs [aS 17 49 [T 16],ak 3 (T 15),ak 4 (T 17)]])
 (.seq (.ops [.bQ none 18 74 1 1,.xs [aS 19 34 [T 18]],.bL 5 74,.bT true none 74 5 (T 19) 5])
 (.seq (.ops [.bQ none 21 74 1 1,.xs [aS 22 33 [T 21],I 20 (T 22),ex 23 (T 20) 0,ex 24 (T 20) 1],.bL 6 80,.bT true none 80 6 (T 23) 6,
  .xs [ak 7 (T 24)]])
 (.seq (.box 34326184704 320 (.seq (.ops [.bQ none 26 74 5 5,.xs [aS 27 33 [T 26],I 25 (T 27),ex 28 (T 25) 0,ex 29 (T 25) 1],.bL 8 80,.bT true none 80 8 (T 28) 8,
  .xs [ak 9 (T 29)]])
 (.seq (.ops [.bQ none 30 80 8 8,.bQ none 31 80 6 6,.xs [aS 32 35 [T 30,T 31],bi 33 .gtr 3 (T 32) (ai 0)]])
 (.cond (T 33) (.ops [.bQ none 34 80 8 8,.bT true none 80 6 (T 34) 6])
 (.skip)))))
 (.seq (.ops [.xs [I 35 (T 3),I 36 (T 4),bi 37 .add 3 (T 35) (T 36),ms 38 72 (T 37) (T 37),ak 10 (T 38)]])
 (.seq (.seq (.ops [.xs [I 39 (T 10),bF 40 72 (T 39),I 41 (ai 0)]])
 (.block 0 (.loop 18012199486228480 0 (.seq (.ops [.xs [bi 42 .lss 3 (T 41) (T 40)]])
 (.seq (.cond (T 42) (.skip)
 (.exit 0))
 (.seq (.block 1 (.seq (.ops [.xs [I 43 (T 41),ak 11 (T 43)]])
 (.ops [.xs [I 44 (T 10),I 45 (T 11),aS 46 59 [ai 0],ei 47 120 1 [(0,T 46)],I 48 (T 3),I 49 (T 4),bi 50 .add 3 (T 48) (T 49),aS 51 96 [T 47,T 50],bu 52 72 (T 44) (T 45),st 120 (T 52) (T 51)]])))
 (.ops [.xs [bi 53 .add 3 (T 41) (ai 1),I 41 (T 53)]])))))))
 (.seq (.seq (.ops [.xs [I 54 (T 3),I 55 (ai 0)]])
 (.block 2 (.loop 4835703242429719679864832 0 (.seq (.ops [.xs [bi 56 .lss 3 (T 55) (T 54)]])
 (.seq (.cond (T 56) (.skip)
 (.exit 2))
 (.seq (.block 3 (.seq (.ops [.xs [I 57 (T 55),ak 12 (T 57)]])
 (.seq (.ops [.xs [I 58 (T 10),I 59 (T 12),bu 60 72 (T 58) (T 59),aI 61 120 (T 60)],.a9 none 62 74 1 0 1 0,.aI none 63 72 62 1 0,
  .xs [I 64 (T 12),bu 65 72 (T 63) (T 64),aI 66 120 (T 65),cp 67 120 120 (T 61) (T 66)]])
 (.ops [.xs [I 68 (T 10),I 69 (T 12),bu 70 72 (T 68) (T 69),aI 71 120 (T 70),I 72 (T 4),I 73 (T 12),bi 74 .add 3 (T 72) (T 73)],
  .bQ none 75 80 6 6,.bQ none 76 74 1 1,
  .xs [I 77 (T 12),bj (aS 78 65 [T 76,T 77]),bj (aS 79 87 [T 75,T 78]),bu 80 120 (T 71) (T 74),st 80 (T 80) (T 79)]]))))
 (.ops [.xs [bi 81 .add 3 (T 55) (ai 1),I 55 (T 81)]])))))))
 (.seq (.seq (.ops [.xs [I 82 (T 4),I 83 (ai 0)]])
 (.block 4 (.loop 20769187424467903957204951919239168 0 (.seq (.ops [.xs [bi 84 .lss 3 (T 83) (T 82)]])
 (.seq (.cond (T 84) (.skip)
 (.exit 4))
 (.seq (.block 5 (.seq (.ops [.xs [I 85 (T 83),ak 13 (T 85)]])
 (.seq (.ops [.xs [I 86 (T 10),I 87 (T 3),I 88 (T 13),bi 89 .add 3 (T 87) (T 88),bu 90 72 (T 86) (T 89),aI 91 120 (T 90),I 92 (T 4),bj (fF 93 120 (T 91) (some (T 92)) none none)],
  .a9 none 94 74 5 0 5 0,.aI none 95 72 94 5 0,.xs [I 96 (T 13),bu 97 72 (T 95) (T 96),aI 98 120 (T 97),cp 99 120 120 (T 93) (T 98)]])
 (.ops [.xs [I 100 (T 10),I 101 (T 3),I 102 (T 13),bi 103 .add 3 (T 101) (T 102),bu 104 72 (T 100) (T 103),aI 105 120 (T 104),I 106 (T 13)],
  .bQ none 107 80 6 6,.bQ none 108 74 5 5,
  .xs [I 109 (T 13),bj (aS 110 65 [T 108,T 109]),bj (aS 111 87 [T 107,T 110]),bu 112 120 (T 105) (T 106),st 80 (T 112) (T 111)]]))))
 (.ops [.xs [bi 113 .add 3 (T 83) (ai 1),I 83 (T 113)]])))))))
 (.seq (.ops [.xs [I 114 (T 10),dB 115 74 [(0,T 114)]],.bT true none 74 2 (T 115) 2])
 (.ret)))))))))),[.cell 2 74]⟩
def Hj:cM:=⟨.seq (.ops [.cl 2 40 (T 0),.cl 3 40 (T 1),.bL 4 40])
 (.seq (.ops [.bQ none 7 40 2 2,.xs [bj (aS 8 53 [T 7])],.bQ none 9 40 3 3,.xs [aS 10 53 [T 9]],.bT true none 40 2 (T 8) 2,.bT true none 40 3 (T 10) 3])
 (.seq (.block 0 (.loop 8386656 108 (.seq (.seq (.ops [.a9 none 11 40 3 1 3 1,.aI none 12 34 11 3 1,.xs [bF 13 34 (T 12),bi 14 .gtr 3 (T 13) (ai 0)]])
 (.cond (T 14) (.skip)
 (.exit 0)))
 (.block 1 (.seq (.ops [.bQ none 16 40 2 2,.bQ none 17 40 3 3,.xs [aS 18 70 [T 16,T 17],I 15 (T 18),ex 19 (T 15) 0,ex 20 (T 15) 1],.bL 5 40,.bL 6 40,
  .bT true none 40 5 (T 19) 5,.bT true none 40 6 (T 20) 6])
 (.opsL [.bQ none 21 40 3 3,.bQ none 22 40 6 6,.bT false none 40 2 (T 21) 2,.bT true none 40 3 (T 22) 3]))))))
 (.seq (.ops [.bQ none 23 40 2 2,.bT true none 40 4 (T 23) 4])
 (.ret)))),[.cell 4 40]⟩
def Hi:cM:=⟨.seq (.ops [.cl 2 40 (T 0),.cl 3 40 (T 1),.bL 4 40,.bL 5 40])
 (.seq (.ops [.a9 none 14 40 2 1 2 1,.aI none 15 34 14 2 1,.xs [bF 16 34 (T 15),ms 17 34 (T 16) (T 16),ei 18 34 0 [],ak 6 (T 17),ak 7 (T 18)]])
 (.seq (.seq (.ops [.a9 none 19 40 2 1 2 1,.aI none 20 34 19 2 1,.xs [bF 21 34 (T 20),bi 22 .sub 3 (T 21) (ai 1),ak 8 (T 22)]])
 (.block 0 (.loop 295147905179344441216 0 (.seq (.seq (.ops [.xs [I 23 (T 8),bi 24 .geq 3 (T 23) (ai 0)]])
 (.cond (T 24) (.skip)
 (.exit 0)))
 (.seq (.block 1 (.seq (.ops [.a9 none 27 40 2 1 2 1,.aI none 28 34 27 2 1,
  .xs [I 29 (T 8),bu 30 34 (T 28) (T 29),aI 31 3 (T 30),ei 32 34 1 [(0,T 31)],I 33 (T 7),ap 34 34 34 (T 32) (T 33),dB 35 40 [(1,T 34)],aS 36 72 [T 35],nP 37 40 (T 36) 1,ak 7 (T 37)]])
 (.seq (.ops [.xs [ak 9 (ai 0),ak 10 (ai 10000)]])
 (.seq (.block 2 (.loop 36028522141060608 0 (.seq (.seq (.ops [.xs [I 38 (T 10),I 39 (T 9),bi 40 .sub 3 (T 38) (T 39),bi 41 .gtr 3 (T 40) (ai 1)]])
 (.cond (T 41) (.skip)
 (.exit 2)))
 (.block 3 (.seq (.ops [.xs [I 42 (T 9),I 43 (T 10),bi 44 .add 3 (T 42) (T 43),bi 45 .quo 3 (T 44) (ai 2),ak 11 (T 45)]])
 (.seq (.ops [.a9 none 46 40 3 1 3 1,.aI none 47 34 46 3 1,
  .xs [I 48 (T 11),aS 49 97 [T 47,T 48],I 50 (T 7),aS 51 83 [T 49,T 50],bi 52 .leq 3 (T 51) (ai 0)]])
 (.cond (T 52) (.ops [.xs [I 53 (T 11),ak 9 (T 53)]])
 (.ops [.xs [I 54 (T 11),ak 10 (T 54)]]))))))))
 (.seq (.ops [.xs [I 55 (T 6),I 56 (T 8),I 57 (T 9),bu 58 34 (T 55) (T 56),st 3 (T 58) (T 57)]])
 (.ops [.xs [I 59 (T 7)],.a9 none 60 40 3 1 3 1,.aI none 61 34 60 3 1,
  .xs [I 62 (T 9),aS 63 97 [T 61,T 62],aS 64 84 [T 59,T 63],dB 65 40 [(1,T 64)],aS 66 72 [T 65],nP 67 40 (T 66) 1,ak 7 (T 67)]]))))))
 (.ops [.xs [I 25 (T 8),bi 26 .sub 3 (T 25) (ai 1),ak 8 (T 26)]]))))))
 (.seq (.ops [.a9 none 68 40 2 0 2 0,.aI none 69 4 68 2 0,
  .xs [I 70 (T 6),dB 71 40 [(0,T 69),(1,T 70)],aS 72 72 [T 71],I 73 (T 7),dB 74 40 [(1,T 73)],aS 75 72 [T 74]],.bL 12 40,
  .bL 13 40,.bT true none 40 12 (T 72) 12,.bT true none 40 13 (T 75) 13])
 (.seq (.seq (.box 19267255250108152471879680 0 (.ops [.a9 none 76 40 2 0 2 0,.aI none 77 4 76 2 0,.xs [I 78 (T 77)],.a9 (some (78,true)) 79 40 13 1 13 1,.aI (some (78,true)) 80 34 79 13 1,
  .xs [aT 78 true (bF 81 34 (T 80)),aT 78 true (bi 82 .gtr 3 (T 81) (ai 0)),cR 83 (T 78) (T 82) (C (.bool false))]]))
 (.cond (T 83) (.seq (.ops [.bQ none 84 40 12 12,.xs [bj (aS 85 46 [ai 1]),bj (aS 86 71 [T 84,T 85])],.bQ none 87 40 3 3,.bQ none 88 40 13 13,
  .xs [aS 89 71 [T 87,T 88]],.bT true none 40 4 (T 86) 4,.bT true none 40 5 (T 89) 5])
 (.ret))
 (.skip)))
 (.seq (.opsL [.bQ none 90 40 12 12,.bQ none 91 40 13 13,.bT false none 40 4 (T 90) 4,.bT true none 40 5 (T 91) 5])
 (.ret)))))),[.cell 4 40,.cell 5 40]⟩
def Hr:cM:=⟨.seq (.ops [.cl 2 40 (T 0),.cl 3 40 (T 1),.bL 4 40])
 (.seq (.ops [.bQ none 5 40 2 2,.bQ none 6 40 3 3,.xs [bj (aS 7 81 [T 6]),aS 8 56 [T 5,T 7]],.bT true none 40 4 (T 8) 4])
 (.ret)),[.cell 4 40]⟩
def Hv:cM:=⟨.seq (.ops [.cl 1 40 (T 0),.bL 2 40])
 (.seq (.ops [.a9 none 4 40 1 1 1 1,.aI none 5 34 4 1 1,.xs [bF 6 34 (T 5),ak 3 (T 6)]])
 (.seq (.block 0 (.loop 1048456 0 (.seq (.seq (.box 262016 0 (.ops [.xs [I 7 (T 3),bi 8 .gtr 3 (T 7) (ai 0),I 9 (T 8)],.a9 (some (9,true)) 10 40 1 1 1 1,.aI (some (9,true)) 11 34 10 1 1,
  .xs [aT 9 true (I 12 (T 3)),aT 9 true (bi 13 .sub 3 (T 12) (ai 1)),aT 9 true (bu 14 34 (T 11) (T 13)),aT 9 true (aI 15 3 (T 14)),aT 9 true (bi 16 .eql 3 (T 15) (ai 0)),cR 17 (T 9) (T 16) (C (.bool false))]]))
 (.cond (T 17) (.skip)
 (.exit 0)))
 (.block 1 (.ops [.xs [I 18 (T 3),bi 19 .sub 3 (T 18) (ai 1),ak 3 (T 19)]])))))
 (.seq (.ops [.xs [ei 20 34 0 []],.a9 none 21 40 1 1 1 1,.aI none 22 34 21 1 1,
  .xs [I 23 (T 3),fF 24 34 (T 22) none (some (T 23)) none,ap 25 34 34 (T 20) (T 24)],.a9 none 26 40 1 1 1 1,.st true none 34 26 (T 25) 1 1])
 (.seq (.box 17045651456 2 (.ops [.a9 none 27 40 1 0 1 0,.aI none 28 4 27 1 0,
  .xs [I 29 (T 28),aT 29 true (I 30 (T 3)),aT 29 true (bi 31 .gtr 3 (T 30) (ai 0)),cR 32 (T 29) (T 31) (C (.bool false))],
  .a9 none 33 40 1 0 1 0,.st true none 4 33 (T 32) 1 0]))
 (.seq (.ops [.bQ none 34 40 1 1,.bT true none 40 2 (T 34) 2])
 (.ret)))))),[.cell 2 40]⟩
def Ih:cM:=⟨.seq (.ops [.xs [ak 4 (C (.slice none 0 0))]])
 (.seq (.box 3584 0 (.seq (.ops [.xs [I 9 (T 1),bi 10 .lss 3 (T 9) (ai 0)]])
 (.cond (T 10) (.ops [.xs [mB 11 9 (C (.string {data:= #[99,97,110,110,111,116,32,98,101,32,110,101,103,97,116,105,118,101]})),(⟨true,none,none,.panic (T 11)⟩)]])
 (.skip))))
 (.seq (.ops [.xs [I 13 (T 0),bF 14 22 (T 13),ch 15 3 142 (T 14),I 16 (T 1),ch 17 3 142 (T 16),aS 18 89 [T 15,T 17],I 12 (T 18),ex 19 (T 12) 0,ex 20 (T 12) 1,ak 5 (T 19),ak 6 (T 20)]])
 (.seq (.box 266338304 0 (.seq (.box 132120576 0 (.ops [.xs [I 21 (T 5),bi 22 .gtr 142 (T 21) (C (.int .u64 0)),I 23 (T 22),aT 23 false (I 24 (T 6)),aT 23 false ((bi 25 .gtr 142 (T 24) (C (.int .u64 9223372036854775807)))),cR 26 (T 23) (C (.bool true)) (T 25)]]))
 (.cond (T 26) (.ops [.xs [mB 27 9 (C (.string {data:= #[116,104,101,32,114,101,115,117,108,116,32,111,102,32,40,108,101,110,40,120,41,32,42,32,99,111,117,110,116,41,32,111,118,101,114,102,108,111,119,115]})),(⟨true,none,none,.panic (T 27)⟩)]])
 (.skip))))
 (.seq (.ops [.xs [I 28 (T 6),ch 29 142 3 (T 28),ms 30 22 (T 29) (T 29),ak 7 (T 30)]])
 (.seq (.ops [.xs [I 31 (T 7),I 32 (T 0),cp 33 22 22 (T 31) (T 32),ak 8 (T 33)]])
 (.seq (.block 0 (.loop 140720308486400 0 (.seq (.seq (.ops [.xs [I 34 (T 8),I 35 (T 7),bF 36 22 (T 35),bi 37 .lss 3 (T 34) (T 36)]])
 (.cond (T 37) (.skip)
 (.exit 0)))
 (.block 1 (.ops [.xs [I 38 (T 8),I 39 (T 7),I 40 (T 8),bj (fF 41 22 (T 39) (some (T 40)) none none),I 42 (T 7),I 43 (T 8),bj (fF 44 22 (T 42) none (some (T 43)) none),cp 45 22 22 (T 41) (T 44),bi 46 .add 3 (T 38) (T 45),ak 8 (T 46)]])))))
 (.seq (.ops [.xs [I 47 (T 7),ak 4 (T 47)]])
 (.ret)))))))),[.tmp 4]⟩
def HL:cM:=⟨.seq (.ops [.bL 2 80,.xs [ak 3 (C (.bool false))]])
 (.seq (.ops [.xs [I 15 (T 0),aS 16 98 [T 15,C (.string {data:= #[47]})],I 14 (T 16),ex 17 (T 14) 0,ex 18 (T 14) 1,ex 19 (T 14) 2,ak 4 (T 17),ak 5 (T 18),ak 6 (T 19)]])
 (.seq (.ops [.xs [I 21 (T 4),aS 22 99 [T 21,C (.string {data:= #[45]})],I 20 (T 22),ex 23 (T 20) 0,ex 24 (T 20) 1,ak 7 (T 23),ak 8 (T 24)]])
 (.seq (.ops [.xs [I 26 (T 7),aS 27 100 [T 26],I 25 (T 27),ex 28 (T 25) 0,ex 29 (T 25) 1,ak 9 (T 28),ak 10 (T 29)]])
 (.seq (.ops [.xs [ei 30 76 1 [(0,C (.int .u32 1))],ak 11 (T 30),ak 12 (C (.bool true))]])
 (.seq (.box 17590038566912 0 (.seq (.ops [.xs [I 31 (T 6)]])
 (.cond (T 31) (.seq (.ops [.xs [I 33 (T 5),aS 34 100 [T 33],I 32 (T 34),ex 35 (T 32) 0,ex 36 (T 32) 1,ak 11 (T 35),ak 12 (T 36)]])
 (.ops [.xs [I 37 (T 12),I 38 (T 37),aT 38 true (I 39 (T 11)),aT 38 true ((ei 40 76 1 [(0,C (.int .u32 1))])),aT 38 true (aS 41 101 [T 39,T 40]),aT 38 true (bi 42 .gtr 3 (T 41) (ai 0)),cR 43 (T 38) (T 42) (C (.bool false)),ak 12 (T 43)]]))
 (.skip))))
 (.seq (.seq (.box 288212783965667328 0 (.ops [.xs [I 44 (T 10),un 45 .not (T 44),I 46 (T 45),aT 46 false (I 47 (T 12)),aT 46 false (un 48 .not (T 47)),cR 49 (T 46) (C (.bool true)) (T 48),I 50 (T 49),aT 50 false (I 51 (T 8)),aT 50 false (I 52 (T 51)),aT 52 true (I 53 (T 9)),aT 52 true (bF 54 76 (T 53)),aT 52 true (bi 55 .eql 3 (T 54) (ai 0)),aT 50 false ((cR 56 (T 52) (T 55) (C (.bool false)))),cR 57 (T 50) (C (.bool true)) (T 56)]]))
 (.cond (T 57) (.seq (.ops [.xs [dB 58 80 []],.bT true none 80 2 (T 58) 2,.xs [ak 3 (C (.bool false))]])
 (.ret))
 (.skip)))
 (.seq (.ops [.xs [I 59 (T 8),I 60 (T 9),aS 61 92 [T 59,T 60],I 62 (T 11),aS 63 92 [C (.bool false),T 62],dB 64 80 [(0,T 61),(1,T 63)]],
  .bL 13 80,.bT true none 80 13 (T 64) 13])
 (.seq (.box 302194561415509874573320 4 (.ops [.bQ none 65 80 13 13,.xs [I 66 (T 6),un 67 .not (T 66),I 68 (T 67)],.a9 (some (68,false)) 69 80 13 0 13 0,
  .aI (some (68,false)) 70 78 69 13 0,.a9 (some (68,false)) 71 80 13 1 13 2,.aI (some (68,false)) 72 78 71 13 2,
  .xs [aT 68 false (bj (aS 73 102 [T 70,T 72])),aT 68 false (bj (aS 74 88 [ai 1])),aT 68 false (bj (aS 75 67 [T 73,T 74])),aT 68 false (bi 76 .eql 3 (T 75) (ai 0)),cR 77 (T 68) (C (.bool true)) (T 76)],
  .bT true none 80 2 (T 65) 2,.xs [ak 3 (T 77)]]))
 (.ret))))))))),[.cell 2 80,.tmp 3]⟩
def Ie:cM:=⟨.seq (.ops [.xs [ak 4 (C (.bool false))]])
 (.seq (.ops [.xs [I 5 (T 0),I 6 (T 1),aS 7 103 [T 5,T 6],bi 8 .geq 3 (T 7) (ai 0),ak 4 (T 8)]])
 (.ret)),[.tmp 4]⟩
def HM:cM:=⟨.seq (.ops [.cl 2 80 (T 0),.cl 3 80 (T 1),.bL 4 80])
 (.seq (.seq (.box 2016 0 (.ops [.bQ none 5 80 2 2,.xs [aS 6 79 [T 5],I 7 (T 6)],.bQ (some (7,true)) 8 80 3 3,
  .xs [aT 7 true (aS 9 79 [T 8]),cR 10 (T 7) (T 9) (C (.bool false))]]))
 (.cond (T 10) (.seq (.ops [.a9 none 11 80 2 0 2 0,.aI none 12 78 11 2 0,.a9 none 13 80 3 0 3 0,.aI none 14 78 13 3 0,.xs [aS 15 105 [T 12,T 14],aS 16 104 [T 15]],
  .bT true none 80 4 (T 16) 4])
 (.ret))
 (.skip)))
 (.seq (.ops [.a9 none 17 80 2 0 2 0,.aI none 18 78 17 2 0,.a9 none 19 80 3 1 3 2,.aI none 20 78 19 3 2,.xs [bj (aS 21 66 [T 18,T 20])],
  .a9 none 22 80 3 0 3 0,.aI none 23 78 22 3 0,.a9 none 24 80 2 1 2 2,.aI none 25 78 24 2 2,
  .xs [bj (aS 26 66 [T 23,T 25]),bj (aS 27 105 [T 21,T 26])],.a9 none 28 80 2 1 2 2,.aI none 29 78 28 2 2,.a9 none 30 80 3 1 3 2,
  .aI none 31 78 30 3 2,.xs [aS 32 66 [T 29,T 31],aS 33 106 [T 27,T 32]],.bT true none 80 4 (T 33) 4])
 (.ret))),[.cell 4 80]⟩
def HW:cM:=⟨.seq (.ops [.xs [ak 2 (C (.string {data:= #[]}))]])
 (.seq (.seq (.ops [.xs [I 7 (T 0),bF 8 76 (T 7),bi 9 .eql 3 (T 8) (ai 0)]])
 (.cond (T 9) (.seq (.ops [.xs [ak 2 (C (.string {data:= #[48]}))]])
 (.ret))
 (.skip)))
 (.seq (.ops [.xs [ak 3 (C (.slice none 0 0))]])
 (.seq (.block 0 (.loop 2199023254649 0 (.seq (.seq (.ops [.xs [I 10 (T 0),bF 11 76 (T 10),bi 12 .gtr 3 (T 11) (ai 0)]])
 (.cond (T 12) (.skip)
 (.exit 0)))
 (.block 1 (.seq (.ops [.xs [I 14 (T 0),aS 15 107 [T 14,C (.int .u32 1000000000)],I 13 (T 15),ex 16 (T 13) 0,ex 17 (T 13) 1,ak 4 (T 16),ak 5 (T 17)]])
 (.seq (.seq (.ops [.xs [ak 6 (ai 0)]])
 (.block 2 (.loop 1099511365736 0 (.seq (.seq (.box 536608768 0 (.ops [.xs [I 18 (T 6),bi 19 .lss 3 (T 18) (ai 9),I 20 (T 19),aT 20 true (I 21 (T 4)),aT 20 true (bF 22 76 (T 21)),aT 20 true (bi 23 .gtr 3 (T 22) (ai 0)),aT 20 true (I 24 (T 23)),aT 24 false (I 25 (T 5)),aT 24 false ((bi 26 .gtr 124 (T 25) (C (.int .u32 0)))),aT 20 true ((cR 27 (T 24) (C (.bool true)) (T 26))),cR 28 (T 20) (T 27) (C (.bool false))]]))
 (.cond (T 28) (.skip)
 (.exit 2)))
 (.seq (.block 3 (.seq (.ops [.xs [I 31 (T 3),I 32 (T 5),bi 33 .rem 124 (T 32) (C (.int .u32 10)),bi 34 .add 124 (C (.int .u32 48)) (T 33),ch 35 124 5 (T 34),ei 36 61 1 [(0,T 35)],ap 37 61 61 (T 31) (T 36),ak 3 (T 37)]])
 (.ops [.xs [I 38 (T 5),bi 39 .quo 124 (T 38) (C (.int .u32 10)),ak 5 (T 39)]])))
 (.ops [.xs [I 29 (T 6),bi 30 .add 3 (T 29) (ai 1),ak 6 (T 30)]]))))))
 (.ops [.xs [I 40 (T 4),ak 0 (T 40)]])))))))
 (.seq (.ops [.xs [I 41 (T 3),aS 42 108 [T 41]]])
 (.seq (.ops [.xs [I 43 (T 3),ch 44 61 9 (T 43),ak 2 (T 44)]])
 (.ret)))))),[.tmp 2]⟩
def Hu:cM:=⟨.seq (.ops [.bL 2 40,.xs [ak 3 (C (.bool false))]])
 (.seq (.seq (.box 67108608 0 (.ops [.xs [I 8 (T 0),bF 9 9 (T 8),bi 10 .lss 3 (T 9) (ai 1),I 11 (T 10),aT 11 false (I 12 (T 0)),aT 11 false (bF 13 9 (T 12)),aT 11 false (bi 14 .gtr 3 (T 13) (ai 4000)),cR 15 (T 11) (C (.bool true)) (T 14),I 16 (T 15),aT 16 false (I 17 (T 0)),aT 16 false (en 18 9 (T 17) (ai 0)),aT 16 false ((bi 19 .eql 5 (T 18) (C (.int .u8 48)))),aT 16 false (I 20 (T 19)),aT 20 true (I 21 (T 0)),aT 20 true (bF 22 9 (T 21)),aT 20 true (bi 23 .gtr 3 (T 22) (ai 1)),aT 16 false ((cR 24 (T 20) (T 23) (C (.bool false)))),cR 25 (T 16) (C (.bool true)) (T 24)]]))
 (.cond (T 25) (.seq (.ops [.xs [dB 26 40 []],.bT true none 40 2 (T 26) 2,.xs [ak 3 (C (.bool false))]])
 (.ret))
 (.skip)))
 (.seq (.ops [.xs [dB 27 40 []],.bL 4 40,.bT true none 40 4 (T 27) 4])
 (.seq (.seq (.ops [.xs [I 28 (T 0),bF 29 9 (T 28),ak 5 (T 29)]])
 (.block 0 (.loop 147573952588602671336 20 (.seq (.seq (.ops [.xs [I 30 (T 5),bi 31 .gtr 3 (T 30) (ai 0)]])
 (.cond (T 31) (.skip)
 (.exit 0)))
 (.seq (.block 1 (.seq (.ops [.xs [ak 6 (ai 0)]])
 (.seq (.seq (.ops [.xs [I 34 (T 5),bi 35 .sub 3 (T 34) (ai 4),u_ 36 [3,3] (ai 0) (T 35),ak 7 (T 36)]])
 (.block 2 (.loop 2305842871774740680 4 (.seq (.seq (.ops [.xs [I 37 (T 7),I 38 (T 5),bi 39 .lss 3 (T 37) (T 38)]])
 (.cond (T 39) (.skip)
 (.exit 2)))
 (.seq (.block 3 (.seq (.seq (.box 4499201580859392 0 (.ops [.xs [I 42 (T 0),I 43 (T 7),en 44 9 (T 42) (T 43),bi 45 .lss 5 (T 44) (C (.int .u8 48)),I 46 (T 45),aT 46 false (I 47 (T 0)),aT 46 false (I 48 (T 7)),aT 46 false (en 49 9 (T 47) (T 48)),aT 46 false ((bi 50 .gtr 5 (T 49) (C (.int .u8 57)))),cR 51 (T 46) (C (.bool true)) (T 50)]]))
 (.cond (T 51) (.seq (.ops [.xs [dB 52 40 []],.bT true none 40 2 (T 52) 2,.xs [ak 3 (C (.bool false))]])
 (.ret))
 (.skip)))
 (.ops [.xs [I 53 (T 6),bi 54 .mul 3 (ai 10) (T 53),I 55 (T 0),I 56 (T 7),en 57 9 (T 55) (T 56),bi 58 .sub 5 (T 57) (C (.int .u8 48)),ch 59 5 3 (T 58),bi 60 .add 3 (T 54) (T 59),ak 6 (T 60)]])))
 (.ops [.xs [I 40 (T 7),bi 41 .add 3 (T 40) (ai 1),ak 7 (T 41)]]))))))
 (.ops [.a9 none 61 40 4 1 4 1,.aI none 62 34 61 4 1,.xs [I 63 (T 6),ei 64 34 1 [(0,T 63)],ap 65 34 34 (T 62) (T 64)],.a9 none 66 40 4 1 4 1,
  .st true none 34 66 (T 65) 4 1]))))
 (.ops [.xs [I 32 (T 5),bi 33 .sub 3 (T 32) (ai 4),ak 5 (T 33)]]))))))
 (.seq (.ops [.bQ none 67 40 4 4,.xs [aS 68 72 [T 67]],.bT true none 40 2 (T 68) 2,.xs [ak 3 (C (.bool true))]])
 (.ret))))),[.cell 2 40,.tmp 3]⟩
def Hn:cM:=⟨.seq (.ops [.cl 1 40 (T 0),.bL 2 40])
 (.seq (.box 8184 2 (.ops [.a9 none 3 40 1 0 1 0,.aI none 4 4 3 1 0,.xs [un 5 .not (T 4),I 6 (T 5)],.a9 (some (6,true)) 7 40 1 1 1 1,.aI (some (6,true)) 8 34 7 1 1,
  .xs [aT 6 true (bF 9 34 (T 8)),aT 6 true (bi 10 .gtr 3 (T 9) (ai 0)),cR 11 (T 6) (T 10) (C (.bool false))],.a9 none 12 40 1 0 1 0,
  .st true none 4 12 (T 11) 1 0]))
 (.seq (.ops [.bQ none 13 40 1 1,.bT true none 40 2 (T 13) 2])
 (.ret))),[.cell 2 40]⟩
def Hx:cM:=⟨.seq (.ops [.xs [ak 4 (C (.slice none 0 0))]])
 (.seq (.ops [.xs [ei 9 34 0 [],ak 5 (T 9),ak 6 (ai 0)]])
 (.seq (.seq (.ops [.xs [ak 7 (ai 0)]])
 (.block 0 (.loop 18014398509481440 0 (.seq (.seq (.box 16776192 0 (.ops [.xs [I 10 (T 7),I 11 (T 0),bF 12 34 (T 11),bi 13 .lss 3 (T 10) (T 12),I 14 (T 13),aT 14 false (I 15 (T 7)),aT 14 false (I 16 (T 1)),aT 14 false (bF 17 34 (T 16)),aT 14 false (bi 18 .lss 3 (T 15) (T 17)),cR 19 (T 14) (C (.bool true)) (T 18),I 20 (T 19),aT 20 false (I 21 (T 6)),aT 20 false (bi 22 .gtr 3 (T 21) (ai 0)),cR 23 (T 20) (C (.bool true)) (T 22)]]))
 (.cond (T 23) (.skip)
 (.exit 0)))
 (.seq (.block 1 (.seq (.ops [.xs [I 26 (T 6),ak 8 (T 26)]])
 (.seq (.box 137304736000 0 (.seq (.ops [.xs [I 27 (T 7),I 28 (T 0),bF 29 34 (T 28),bi 30 .lss 3 (T 27) (T 29)]])
 (.cond (T 30) (.ops [.xs [I 31 (T 8),I 32 (T 0),I 33 (T 7),bu 34 34 (T 32) (T 33),aI 35 3 (T 34),bi 36 .add 3 (T 31) (T 35),ak 8 (T 36)]])
 (.skip))))
 (.seq (.box 140600049402112 0 (.seq (.ops [.xs [I 37 (T 7),I 38 (T 1),bF 39 34 (T 38),bi 40 .lss 3 (T 37) (T 39)]])
 (.cond (T 40) (.ops [.xs [I 41 (T 8),I 42 (T 1),I 43 (T 7),bu 44 34 (T 42) (T 43),aI 45 3 (T 44),bi 46 .add 3 (T 41) (T 45),ak 8 (T 46)]])
 (.skip))))
 (.ops [.xs [I 47 (T 5),I 48 (T 8),bi 49 .rem 3 (T 48) (ai 10000),ei 50 34 1 [(0,T 49)],ap 51 34 34 (T 47) (T 50),I 52 (T 8),bi 53 .quo 3 (T 52) (ai 10000),ak 5 (T 51),ak 6 (T 53)]])))))
 (.ops [.xs [I 24 (T 7),bi 25 .add 3 (T 24) (ai 1),ak 7 (T 25)]]))))))
 (.seq (.ops [.xs [I 54 (T 5),ak 4 (T 54)]])
 (.ret)))),[.tmp 4]⟩
def Hy:cM:=⟨.seq (.ops [.xs [ak 4 (ai 0)]])
 (.seq (.seq (.ops [.xs [I 6 (T 0),bF 7 34 (T 6),I 8 (T 1),bF 9 34 (T 8),bi 10 .neq 3 (T 7) (T 9)]])
 (.cond (T 10) (.seq (.seq (.ops [.xs [I 11 (T 0),bF 12 34 (T 11),I 13 (T 1),bF 14 34 (T 13),bi 15 .lss 3 (T 12) (T 14)]])
 (.cond (T 15) (.seq (.ops [.xs [ak 4 (ai (-1))]])
 (.ret))
 (.skip)))
 (.seq (.ops [.xs [ak 4 (ai 1)]])
 (.ret)))
 (.skip)))
 (.seq (.seq (.ops [.xs [I 16 (T 0),bF 17 34 (T 16),bi 18 .sub 3 (T 17) (ai 1),ak 5 (T 18)]])
 (.block 0 (.loop 2199022731312 0 (.seq (.seq (.ops [.xs [I 19 (T 5),bi 20 .geq 3 (T 19) (ai 0)]])
 (.cond (T 20) (.skip)
 (.exit 0)))
 (.seq (.block 1 (.seq (.seq (.ops [.xs [I 23 (T 0),I 24 (T 5),bu 25 34 (T 23) (T 24),aI 26 3 (T 25),I 27 (T 1),I 28 (T 5),bu 29 34 (T 27) (T 28),aI 30 3 (T 29),bi 31 .lss 3 (T 26) (T 30)]])
 (.cond (T 31) (.seq (.ops [.xs [ak 4 (ai (-1))]])
 (.ret))
 (.skip)))
 (.seq (.ops [.xs [I 32 (T 0),I 33 (T 5),bu 34 34 (T 32) (T 33),aI 35 3 (T 34),I 36 (T 1),I 37 (T 5),bu 38 34 (T 36) (T 37),aI 39 3 (T 38),bi 40 .gtr 3 (T 35) (T 39)]])
 (.cond (T 40) (.seq (.ops [.xs [ak 4 (ai 1)]])
 (.ret))
 (.skip)))))
 (.ops [.xs [I 21 (T 5),bi 22 .sub 3 (T 21) (ai 1),ak 5 (T 22)]]))))))
 (.seq (.ops [.xs [ak 4 (ai 0)]])
 (.ret)))),[.tmp 4]⟩
def Hw:cM:=⟨.seq (.ops [.xs [ak 4 (C (.slice none 0 0))]])
 (.seq (.ops [.xs [ei 9 34 0 [],ak 5 (T 9),ak 6 (ai 0)]])
 (.seq (.seq (.ops [.xs [ak 7 (ai 0)]])
 (.block 0 (.loop 1099511627232 0 (.seq (.seq (.ops [.xs [I 10 (T 7),I 11 (T 0),bF 12 34 (T 11),bi 13 .lss 3 (T 10) (T 12)]])
 (.cond (T 13) (.skip)
 (.exit 0)))
 (.seq (.block 1 (.seq (.ops [.xs [I 16 (T 0),I 17 (T 7),bu 18 34 (T 16) (T 17),aI 19 3 (T 18),I 20 (T 6),bi 21 .sub 3 (T 19) (T 20),ak 8 (T 21)]])
 (.seq (.box 4290773248 0 (.seq (.ops [.xs [I 22 (T 7),I 23 (T 1),bF 24 34 (T 23),bi 25 .lss 3 (T 22) (T 24)]])
 (.cond (T 25) (.ops [.xs [I 26 (T 8),I 27 (T 1),I 28 (T 7),bu 29 34 (T 27) (T 28),aI 30 3 (T 29),bi 31 .sub 3 (T 26) (T 30),ak 8 (T 31)]])
 (.skip))))
 (.seq (.ops [.xs [ak 6 (ai 0)]])
 (.seq (.box 64424509760 0 (.seq (.ops [.xs [I 32 (T 8),bi 33 .lss 3 (T 32) (ai 0)]])
 (.cond (T 33) (.ops [.xs [I 34 (T 8),bi 35 .add 3 (T 34) (ai 10000),ak 8 (T 35),ak 6 (ai 1)]])
 (.skip))))
 (.ops [.xs [I 36 (T 5),I 37 (T 8),ei 38 34 1 [(0,T 37)],ap 39 34 34 (T 36) (T 38),ak 5 (T 39)]]))))))
 (.ops [.xs [I 14 (T 7),bi 15 .add 3 (T 14) (ai 1),ak 7 (T 15)]]))))))
 (.seq (.ops [.xs [I 40 (T 5),ak 4 (T 40)]])
 (.ret)))),[.tmp 4]⟩
def Ic:cM:=⟨.seq (.ops [.xs [ak 2 (C (.slice none 0 0))]])
 (.seq (.seq (.ops [.xs [I 3 (T 0),bi 4 .eql 120 (T 3) (C (.slice none 0 0))]])
 (.cond (T 4) (.seq (.ops [.xs [ak 2 (C (.slice none 0 0))]])
 (.ret))
 (.skip)))
 (.seq (.ops [.xs [ei 5 120 0 [],I 6 (T 0),ap 7 120 120 (T 5) (T 6),ak 2 (T 7)]])
 (.ret))),[.tmp 2]⟩
def H4:cM:=⟨.seq (.ops [.xs [ak 4 (C (.bool false))]])
 (.seq (.seq (.ops [.xs [I 6 (T 0),iR 7 (T 6),a9 8 140 (T 7) 0,aI 9 74 (T 8),aS 10 49 [T 9],I 11 (ai 0)]])
 (.block 0 (.loop 590295810358705649712 0 (.seq (.ops [.xs [bi 12 .lss 3 (T 11) (T 10)]])
 (.seq (.cond (T 12) (.skip)
 (.exit 0))
 (.seq (.box 295147905179352817712 0 (.block 1 (.seq (.ops [.xs [I 13 (T 11),ak 5 (T 13)]])
 (.seq (.seq (.box 68719460352 0 (.ops [.xs [I 14 (T 0),iR 15 (T 14),a9 16 140 (T 15) 2,aI 17 115 (T 16),I 18 (T 5),bu 19 115 (T 17) (T 18),aI 20 4 (T 19),I 21 (T 20),aT 21 false (I 22 (T 0)),aT 21 false (iR 23 (T 22)),aT 21 false (a9 24 140 (T 23) 0),aT 21 false (a9 25 74 (T 24) 0),aT 21 false (aI 26 72 (T 25)),aT 21 false (I 27 (T 1)),aT 21 false (bu 28 72 (T 26) (T 27)),aT 21 false (aI 29 120 (T 28)),aT 21 false (I 30 (T 5)),aT 21 false (bu 31 120 (T 29) (T 30)),aT 21 false (aI 32 80 (T 31)),aT 21 false (aS 33 75 [T 32]),aT 21 false (bi 34 .leq 3 (T 33) (ai 0)),cR 35 (T 21) (C (.bool true)) (T 34)]]))
 (.cond (T 35) (.exit 1)
 (.skip)))
 (.seq (.ops [.xs [I 36 (T 0),iR 37 (T 36),a9 38 140 (T 37) 2,aI 39 115 (T 38),I 40 (T 5),bu 41 115 (T 39) (T 40),st 4 (T 41) (C (.bool true))]])
 (.seq (.box 2305838611167182848 0 (.ops [.xs [I 42 (T 0),iR 43 (T 42),a9 44 140 (T 43) 1,aI 45 34 (T 44),I 46 (T 5),bu 47 34 (T 45) (T 46),aI 48 3 (T 47),bi 49 .lss 3 (T 48) (ai 0),I 50 (T 49),aT 50 false (I 51 (T 0)),aT 50 false (I 52 (T 0)),aT 50 false (iR 53 (T 52)),aT 50 false (a9 54 140 (T 53) 1),aT 50 false (aI 55 34 (T 54)),aT 50 false (I 56 (T 5)),aT 50 false (bu 57 34 (T 55) (T 56)),aT 50 false (aI 58 3 (T 57)),aT 50 false (aS 59 86 [T 51,T 58]),cR 60 (T 50) (C (.bool true)) (T 59)]]))
 (.cond (T 60) (.seq (.ops [.xs [I 61 (T 0),iR 62 (T 61),a9 63 140 (T 62) 1,aI 64 34 (T 63),I 65 (T 5),I 66 (T 1),bu 67 34 (T 64) (T 65),st 3 (T 67) (T 66)]])
 (.seq (.ops [.xs [ak 4 (C (.bool true))]])
 (.ret)))
 (.skip))))))))
 (.ops [.xs [bi 68 .add 3 (T 11) (ai 1),I 11 (T 68)]])))))))
 (.seq (.ops [.xs [ak 4 (C (.bool false))]])
 (.ret))),[.tmp 4]⟩
def HQ:cM:=⟨.seq (.ops [.cl 2 80 (T 0),.cl 3 80 (T 1),.bL 4 80])
 (.seq (.ops [.bQ none 5 80 2 2,.bQ none 6 80 3 3,.xs [bj (aS 7 109 [T 6]),aS 8 77 [T 5,T 7]],.bT true none 80 4 (T 8) 4])
 (.ret)),[.cell 4 80]⟩
def HC:cM:=⟨.seq (.ops [.xs [ak 4 (C (.int .u64 0)),ak 5 (C (.int .u64 0))]])
 (.seq (.cond (C (.bool false)) (.seq (.ops [.xs [I 11 (T 0),ch 12 142 124 (T 11),I 13 (T 1),ch 14 142 124 (T 13),aS 15 111 [T 12,T 14],I 10 (T 15),ex 16 (T 10) 0,ex 17 (T 10) 1,ak 6 (T 16),ak 7 (T 17)]])
 (.seq (.ops [.xs [I 18 (T 6),ch 19 124 142 (T 18),I 20 (T 7),ch 21 124 142 (T 20),ak 4 (T 19),ak 5 (T 21)]])
 (.ret)))
 (.skip))
 (.seq (.ops [.xs [I 23 (T 0),I 24 (T 1),aS 25 112 [T 23,T 24],I 22 (T 25),ex 26 (T 22) 0,ex 27 (T 22) 1,ak 8 (T 26),ak 9 (T 27)]])
 (.seq (.ops [.xs [I 28 (T 8),I 29 (T 9),ak 4 (T 28),ak 5 (T 29)]])
 (.ret)))),[.tmp 4,.tmp 5]⟩
def Ij:cM:=⟨.seq (.ops [.xs [ak 4 (C (.slice none 0 0))]])
 (.seq (.box 3584 0 (.seq (.ops [.xs [I 9 (T 1),bi 10 .lss 3 (T 9) (ai 0)]])
 (.cond (T 10) (.ops [.xs [mB 11 9 (C (.string {data:= #[99,97,110,110,111,116,32,98,101,32,110,101,103,97,116,105,118,101]})),(⟨true,none,none,.panic (T 11)⟩)]])
 (.skip))))
 (.seq (.ops [.xs [I 13 (T 0),bF 14 120 (T 13),ch 15 3 142 (T 14),I 16 (T 1),ch 17 3 142 (T 16),aS 18 89 [T 15,T 17],I 12 (T 18),ex 19 (T 12) 0,ex 20 (T 12) 1,ak 5 (T 19),ak 6 (T 20)]])
 (.seq (.box 266338304 0 (.seq (.box 132120576 0 (.ops [.xs [I 21 (T 5),bi 22 .gtr 142 (T 21) (C (.int .u64 0)),I 23 (T 22),aT 23 false (I 24 (T 6)),aT 23 false ((bi 25 .gtr 142 (T 24) (C (.int .u64 9223372036854775807)))),cR 26 (T 23) (C (.bool true)) (T 25)]]))
 (.cond (T 26) (.ops [.xs [mB 27 9 (C (.string {data:= #[116,104,101,32,114,101,115,117,108,116,32,111,102,32,40,108,101,110,40,120,41,32,42,32,99,111,117,110,116,41,32,111,118,101,114,102,108,111,119,115]})),(⟨true,none,none,.panic (T 27)⟩)]])
 (.skip))))
 (.seq (.ops [.xs [I 28 (T 6),ch 29 142 3 (T 28),ms 30 120 (T 29) (T 29),ak 7 (T 30)]])
 (.seq (.ops [.xs [I 31 (T 7),I 32 (T 0),cp 33 120 120 (T 31) (T 32),ak 8 (T 33)]])
 (.seq (.block 0 (.loop 140720308486400 0 (.seq (.seq (.ops [.xs [I 34 (T 8),I 35 (T 7),bF 36 120 (T 35),bi 37 .lss 3 (T 34) (T 36)]])
 (.cond (T 37) (.skip)
 (.exit 0)))
 (.block 1 (.ops [.xs [I 38 (T 8),I 39 (T 7),I 40 (T 8),bj (fF 41 120 (T 39) (some (T 40)) none none),I 42 (T 7),I 43 (T 8),bj (fF 44 120 (T 42) none (some (T 43)) none),cp 45 120 120 (T 41) (T 44),bi 46 .add 3 (T 38) (T 45),ak 8 (T 46)]])))))
 (.seq (.ops [.xs [I 47 (T 7),ak 4 (T 47)]])
 (.ret)))))))),[.tmp 4]⟩
def Hz:cM:=⟨.seq (.ops [.xs [ak 4 (C (.slice none 0 0))]])
 (.seq (.ops [.xs [I 5 (T 0),dB 6 40 [(1,T 5)],I 7 (T 1),aS 8 46 [T 7],aS 9 45 [T 6,T 8],aS 10 72 [T 9],nP 11 40 (T 10) 1,ak 4 (T 11)]])
 (.ret)),[.tmp 4]⟩
def Il:cM:=⟨.seq (.ops [.xs [ak 4 (C (.string {data:= #[]})),ak 5 (C (.string {data:= #[]})),ak 6 (C (.bool false))]])
 (.seq (.ops [.xs [I 7 (T 0),I 8 (T 1),aS 9 114 [T 7,T 8],ex 10 (T 9) 0,ex 11 (T 9) 1,ex 12 (T 9) 2,ak 4 (T 10),ak 5 (T 11),ak 6 (T 12)]])
 (.ret)),[.tmp 4,.tmp 5,.tmp 6]⟩
def Im:cM:=⟨.seq (.ops [.xs [ak 4 (C (.string {data:= #[]})),ak 5 (C (.bool false))]])
 (.seq (.ops [.xs [I 6 (T 0),I 7 (T 1),aS 8 115 [T 6,T 7],ex 9 (T 8) 0,ex 10 (T 8) 1,ak 4 (T 9),ak 5 (T 10)]])
 (.ret)),[.tmp 4,.tmp 5]⟩
def HV:cM:=⟨.seq (.ops [.xs [ak 2 (C (.slice none 0 0)),ak 3 (C (.bool false))]])
 (.seq (.seq (.ops [.xs [I 10 (T 0),bF 11 9 (T 10),I 12 (ai 0)]])
 (.block 0 (.loop 67104796 0 (.seq (.ops [.xs [bi 13 .lss 3 (T 12) (T 11)]])
 (.seq (.cond (T 13) (.skip)
 (.exit 0))
 (.seq (.block 1 (.seq (.ops [.xs [I 14 (T 12),ak 4 (T 14)]])
 (.seq (.box 33521664 0 (.ops [.xs [I 15 (T 0),I 16 (T 4),en 17 9 (T 15) (T 16),bi 18 .lss 5 (T 17) (C (.int .u8 48)),I 19 (T 18),aT 19 false (I 20 (T 0)),aT 19 false (I 21 (T 4)),aT 19 false (en 22 9 (T 20) (T 21)),aT 19 false ((bi 23 .gtr 5 (T 22) (C (.int .u8 57)))),cR 24 (T 19) (C (.bool true)) (T 23)]]))
 (.cond (T 24) (.seq (.ops [.xs [ak 2 (C (.slice none 0 0)),ak 3 (C (.bool false))]])
 (.ret))
 (.skip)))))
 (.ops [.xs [bi 25 .add 3 (T 12) (ai 1),I 12 (T 25)]])))))))
 (.seq (.seq (.box 8796025913344 0 (.ops [.xs [I 26 (T 0),bi 27 .eql 9 (T 26) (C (.string {data:= #[]})),I 28 (T 27),aT 28 false (I 29 (T 0)),aT 28 false (en 30 9 (T 29) (ai 0)),aT 28 false ((bi 31 .eql 5 (T 30) (C (.int .u8 48)))),aT 28 false (I 32 (T 31)),aT 32 true (I 33 (T 0)),aT 32 true (bF 34 9 (T 33)),aT 32 true (bi 35 .gtr 3 (T 34) (ai 1)),aT 28 false ((cR 36 (T 32) (T 35) (C (.bool false)))),cR 37 (T 28) (C (.bool true)) (T 36),I 38 (T 37),aT 38 false (I 39 (T 0)),aT 38 false (bF 40 9 (T 39)),aT 38 false (bi 41 .gtr 3 (T 40) (ai 4000)),cR 42 (T 38) (C (.bool true)) (T 41)]]))
 (.cond (T 42) (.seq (.ops [.xs [ak 2 (C (.slice none 0 0)),ak 3 (C (.bool false))]])
 (.ret))
 (.skip)))
 (.seq (.ops [.xs [ak 5 (C (.slice none 0 0))]])
 (.seq (.block 2 (.loop 75557863717118230397921 0 (.seq (.seq (.ops [.xs [I 43 (T 0),bi 44 .neq 9 (T 43) (C (.string {data:= #[]}))]])
 (.cond (T 44) (.skip)
 (.exit 2)))
 (.block 3 (.seq (.ops [.xs [I 45 (T 0),bF 46 9 (T 45),bi 47 .sub 3 (T 46) (ai 1),bi 48 .rem 3 (T 47) (ai 9),bi 49 .add 3 (T 48) (ai 1),ak 6 (T 49)]])
 (.seq (.ops [.xs [ak 7 (C (.int .u32 0)),ak 8 (C (.int .u32 1))]])
 (.seq (.seq (.ops [.xs [I 50 (T 6),I 51 (ai 0)]])
 (.block 4 (.loop 36891236347605418880 0 (.seq (.ops [.xs [bi 52 .lss 3 (T 51) (T 50)]])
 (.seq (.cond (T 52) (.skip)
 (.exit 4))
 (.seq (.block 5 (.seq (.ops [.xs [I 53 (T 51),ak 9 (T 53)]])
 (.ops [.xs [I 54 (T 7),bi 55 .mul 124 (C (.int .u32 10)) (T 54),I 56 (T 0),I 57 (T 9),en 58 9 (T 56) (T 57),bi 59 .sub 5 (T 58) (C (.int .u8 48)),ch 60 5 124 (T 59),bi 61 .add 124 (T 55) (T 60),I 62 (T 8),bi 63 .mul 124 (C (.int .u32 10)) (T 62),ak 7 (T 61),ak 8 (T 63)]])))
 (.ops [.xs [bi 64 .add 3 (T 51) (ai 1),I 51 (T 64)]])))))))
 (.seq (.ops [.xs [I 65 (T 5),I 66 (T 8),ei 67 76 1 [(0,T 66)],aS 68 93 [T 65,T 67],I 69 (T 7),ei 70 76 1 [(0,T 69)],aS 71 110 [T 70],aS 72 116 [T 68,T 71],ak 5 (T 72)]])
 (.ops [.xs [I 73 (T 0),I 74 (T 6),fF 75 9 (T 73) (some (T 74)) none none,ak 0 (T 75)]])))))))))
 (.seq (.ops [.xs [I 76 (T 5),ak 2 (T 76),ak 3 (C (.bool true))]])
 (.ret)))))),[.tmp 2,.tmp 3]⟩
def HI:cM:=⟨.seq (.ops [.cl 2 78 (T 0),.cl 3 78 (T 1),.bL 4 78])
 (.seq (.ops [.a9 none 9 78 2 1 2 1,.aI none 10 76 9 2 1,.a9 none 11 78 3 1 3 1,.aI none 12 76 11 3 1,.xs [ak 5 (T 10),ak 6 (T 12)]])
 (.seq (.block 0 (.loop 16769504 0 (.seq (.seq (.ops [.xs [I 13 (T 6),bF 14 76 (T 13),bi 15 .gtr 3 (T 14) (ai 0)]])
 (.cond (T 15) (.skip)
 (.exit 0)))
 (.block 1 (.seq (.ops [.xs [I 17 (T 5),I 18 (T 6),aS 19 117 [T 17,T 18],I 16 (T 19),ex 20 (T 16) 0,ex 21 (T 16) 1,ak 7 (T 20),ak 8 (T 21)]])
 (.ops [.xs [I 22 (T 6),I 23 (T 8),ak 5 (T 22),ak 6 (T 23)]]))))))
 (.seq (.ops [.xs [I 24 (T 5),aS 25 92 [C (.bool false),T 24]],.bT true none 78 4 (T 25) 4])
 (.ret)))),[.cell 4 78]⟩
def Ig:cM:=⟨.seq (.ops [.xs [ak 4 (ai 0)]])
 (.seq (.seq (.ops [.xs [I 6 (T 0),bF 7 34 (T 6),I 8 (ai 0)]])
 (.block 0 (.loop 524080 0 (.seq (.ops [.xs [bi 9 .lss 3 (T 8) (T 7)]])
 (.seq (.cond (T 9) (.skip)
 (.exit 0))
 (.seq (.block 1 (.seq (.ops [.xs [I 10 (T 8),ak 5 (T 10)]])
 (.seq (.ops [.xs [I 11 (T 1),I 12 (T 0),I 13 (T 5),bu 14 34 (T 12) (T 13),aI 15 3 (T 14),bi 16 .eql 3 (T 11) (T 15)]])
 (.cond (T 16) (.seq (.ops [.xs [I 17 (T 5),ak 4 (T 17)]])
 (.ret))
 (.skip)))))
 (.ops [.xs [bi 18 .add 3 (T 8) (ai 1),I 8 (T 18)]])))))))
 (.seq (.ops [.xs [ak 4 (ai (-1))]])
 (.ret))),[.tmp 4]⟩
def HR:cM:=⟨.seq (.ops [.cl 2 78 (T 0),.cl 3 78 (T 1),.bL 4 80])
 (.seq (.box 64512 12 (.seq (.ops [.a9 none 10 78 3 0 3 0,.aI none 11 4 10 3 0])
 (.cond (T 11) (.ops [.bQ none 12 78 2 2,.xs [bj (aS 13 113 [T 12])],.bQ none 14 78 3 3,.xs [aS 15 113 [T 14]],.bT true none 78 2 (T 13) 2,
  .bT true none 78 3 (T 15) 3])
 (.skip))))
 (.seq (.ops [.bQ none 16 78 2 2,.bQ none 17 78 3 3,.xs [aS 18 102 [T 16,T 17]],.bL 5 78,.bT true none 78 5 (T 18) 5])
 (.seq (.seq (.ops [.bQ none 19 78 5 5,.xs [bj (aS 20 88 [ai 1]),aS 21 67 [T 19,T 20],bi 22 .eql 3 (T 21) (ai 0)]])
 (.cond (T 22) (.seq (.ops [.bQ none 23 78 2 2,.bQ none 24 78 3 3,.xs [dB 25 80 [(0,T 23),(1,T 24)]],.bT true none 80 4 (T 25) 4])
 (.ret))
 (.skip)))
 (.seq (.ops [.bQ none 27 78 2 2,.bQ none 28 78 5 5,.xs [aS 29 119 [T 27,T 28],I 26 (T 29),ex 30 (T 26) 0,ex 31 (T 26) 1],.bL 6 78,.bL 7 78,
  .bT true none 78 6 (T 30) 6,.bT true none 78 7 (T 31) 7])
 (.seq (.ops [.bQ none 33 78 3 3,.bQ none 34 78 5 5,.xs [aS 35 119 [T 33,T 34],I 32 (T 35),ex 36 (T 32) 0,ex 37 (T 32) 1],.bL 8 78,.bL 9 78,
  .bT true none 78 8 (T 36) 8,.bT true none 78 9 (T 37) 9])
 (.seq (.ops [.bQ none 38 78 6 6,.bQ none 39 78 8 8,.xs [dB 40 80 [(0,T 38),(1,T 39)]],.bT true none 80 4 (T 40) 4])
 (.ret))))))),[.cell 4 80]⟩
def Ik:cM:=⟨.seq (.ops [.xs [I 4 (T 0),bF 5 61 (T 4),bi 6 .sub 3 (T 5) (ai 1),ak 2 (ai 0),ak 3 (T 6)]])
 (.block 0 (.loop 268435340 0 (.seq (.seq (.ops [.xs [I 7 (T 2),I 8 (T 3),bi 9 .lss 3 (T 7) (T 8)]])
 (.cond (T 9) (.skip)
 (.exit 0)))
 (.seq (.block 1 (.ops [.xs [I 14 (T 0),I 15 (T 2),I 16 (T 0),I 17 (T 3),I 18 (T 0),I 19 (T 3),bu 20 61 (T 18) (T 19),aI 21 5 (T 20),I 22 (T 0),I 23 (T 2),bu 24 61 (T 22) (T 23),aI 25 5 (T 24),bu 26 61 (T 14) (T 15),st 5 (T 26) (T 21),bu 27 61 (T 16) (T 17),st 5 (T 27) (T 25)]]))
 (.ops [.xs [I 10 (T 2),bi 11 .add 3 (T 10) (ai 1),I 12 (T 3),bi 13 .sub 3 (T 12) (ai 1),ak 2 (T 11),ak 3 (T 13)]]))))),[]⟩
def HO:cM:=⟨.seq (.ops [.cl 1 80 (T 0),.bL 2 80])
 (.seq (.ops [.a9 none 3 80 1 0 1 0,.aI none 4 78 3 1 0,.xs [bj (aS 5 113 [T 4])],.a9 none 6 80 1 1 1 2,.aI none 7 78 6 1 2,
  .xs [dB 8 80 [(0,T 5),(1,T 7)]],.bT true none 80 2 (T 8) 2])
 (.ret)),[.cell 2 80]⟩
def HD:cM:=⟨.seq (.ops [.xs [ak 4 (C (.int .u64 0)),ak 5 (C (.int .u64 0))]])
 (.seq (.ops [.xs [I 14 (T 0),bi 15 .and 123 (T 14) (C (.int .u64 4294967295)),ak 6 (T 15)]])
 (.seq (.ops [.xs [I 16 (T 0),bi 17 .shr 123 (T 16) (C (.int .u64 32)),ak 7 (T 17)]])
 (.seq (.ops [.xs [I 18 (T 1),bi 19 .and 123 (T 18) (C (.int .u64 4294967295)),ak 8 (T 19)]])
 (.seq (.ops [.xs [I 20 (T 1),bi 21 .shr 123 (T 20) (C (.int .u64 32)),ak 9 (T 21)]])
 (.seq (.ops [.xs [I 22 (T 6),I 23 (T 8),bi 24 .mul 123 (T 22) (T 23),ak 10 (T 24)]])
 (.seq (.ops [.xs [I 25 (T 7),I 26 (T 8),bi 27 .mul 123 (T 25) (T 26),I 28 (T 10),bi 29 .shr 123 (T 28) (C (.int .u64 32)),bi 30 .add 123 (T 27) (T 29),ak 11 (T 30)]])
 (.seq (.ops [.xs [I 31 (T 11),bi 32 .and 123 (T 31) (C (.int .u64 4294967295)),ak 12 (T 32)]])
 (.seq (.ops [.xs [I 33 (T 11),bi 34 .shr 123 (T 33) (C (.int .u64 32)),ak 13 (T 34)]])
 (.seq (.ops [.xs [I 35 (T 12),I 36 (T 6),I 37 (T 9),bi 38 .mul 123 (T 36) (T 37),bi 39 .add 123 (T 35) (T 38),ak 12 (T 39)]])
 (.seq (.ops [.xs [I 40 (T 7),I 41 (T 9),bi 42 .mul 123 (T 40) (T 41),I 43 (T 13),bi 44 .add 123 (T 42) (T 43),I 45 (T 12),bi 46 .shr 123 (T 45) (C (.int .u64 32)),bi 47 .add 123 (T 44) (T 46),ak 4 (T 47)]])
 (.seq (.ops [.xs [I 48 (T 0),I 49 (T 1),bi 50 .mul 123 (T 48) (T 49),ak 5 (T 50)]])
 (.ret)))))))))))),[.tmp 4,.tmp 5]⟩
def Io:cM:=⟨.seq (.ops [.xs [ak 4 (C (.string {data:= #[]})),ak 5 (C (.string {data:= #[]})),ak 6 (C (.bool false))]])
 (.seq (.seq (.ops [.xs [I 8 (T 0),I 9 (T 1),aS 10 120 [T 8,T 9],ak 7 (T 10)]])
 (.seq (.ops [.xs [I 11 (T 7),bi 12 .geq 3 (T 11) (ai 0)]])
 (.cond (T 12) (.seq (.ops [.xs [I 13 (T 0),I 14 (T 7),bj (fF 15 9 (T 13) none (some (T 14)) none),I 16 (T 0),I 17 (T 7),I 18 (T 1),bF 19 9 (T 18),bi 20 .add 3 (T 17) (T 19),bj (fF 21 9 (T 16) (some (T 20)) none none),ak 4 (T 15),ak 5 (T 21),ak 6 (C (.bool true))]])
 (.ret))
 (.skip))))
 (.seq (.ops [.xs [I 22 (T 0),ak 4 (T 22),ak 5 (C (.string {data:= #[]})),ak 6 (C (.bool false))]])
 (.ret))),[.tmp 4,.tmp 5,.tmp 6]⟩
def Ip:cM:=⟨.seq (.ops [.xs [ak 4 (C (.string {data:= #[]})),ak 5 (C (.bool false))]])
 (.seq (.seq (.ops [.xs [I 6 (T 0),I 7 (T 1),aS 8 121 [T 6,T 7],un 9 .not (T 8)]])
 (.cond (T 9) (.seq (.ops [.xs [I 10 (T 0),ak 4 (T 10),ak 5 (C (.bool false))]])
 (.ret))
 (.skip)))
 (.seq (.ops [.xs [I 11 (T 0),I 12 (T 1),bF 13 9 (T 12),fF 14 9 (T 11) (some (T 13)) none none,ak 4 (T 14),ak 5 (C (.bool true))]])
 (.ret))),[.tmp 4,.tmp 5]⟩
def HU:cM:=⟨.seq (.ops [.xs [ak 4 (C (.slice none 0 0)),ak 5 (C (.slice none 0 0))]])
 (.seq (.seq (.ops [.xs [I 14 (T 0),I 15 (T 1),aS 16 101 [T 14,T 15],bi 17 .lss 3 (T 16) (ai 0)]])
 (.cond (T 17) (.seq (.ops [.xs [I 18 (T 0),ap 19 76 76 (C (.slice none 0 0)) (T 18),ak 4 (C (.slice none 0 0)),ak 5 (T 19)]])
 (.ret))
 (.skip)))
 (.seq (.seq (.ops [.xs [I 20 (T 1),bF 21 76 (T 20),bi 22 .eql 3 (T 21) (ai 1)]])
 (.cond (T 22) (.seq (.ops [.xs [I 24 (T 0),I 25 (T 1),bu 26 76 (T 25) (ai 0),aI 27 124 (T 26),aS 28 107 [T 24,T 27],I 23 (T 28),ex 29 (T 23) 0,ex 30 (T 23) 1,ak 6 (T 29),ak 7 (T 30)]])
 (.seq (.ops [.xs [I 31 (T 6),I 32 (T 7),ei 33 76 1 [(0,T 32)],aS 34 110 [T 33],ak 4 (T 31),ak 5 (T 34)]])
 (.ret)))
 (.skip)))
 (.seq (.ops [.xs [I 35 (T 1),I 36 (T 1),bF 37 76 (T 36),bi 38 .sub 3 (T 37) (ai 1),bu 39 76 (T 35) (T 38),aI 40 124 (T 39),aS 41 123 [T 40],ak 8 (T 41)]])
 (.seq (.ops [.xs [I 42 (T 1),I 43 (T 8),aS 44 124 [T 42,T 43],aS 45 110 [T 44],I 46 (T 0),I 47 (T 8),aS 48 124 [T 46,T 47],ak 9 (T 45),ak 10 (T 48)]])
 (.seq (.ops [.xs [I 49 (T 9),bF 50 76 (T 49),ak 11 (T 50)]])
 (.seq (.ops [.xs [I 51 (T 0),bF 52 76 (T 51),I 53 (T 11),bi 54 .sub 3 (T 52) (T 53),bi 55 .add 3 (T 54) (ai 1),ms 56 76 (T 55) (T 55),ak 12 (T 56)]])
 (.seq (.seq (.ops [.xs [I 57 (T 0),bF 58 76 (T 57),I 59 (T 11),bi 60 .sub 3 (T 58) (T 59),ak 13 (T 60)]])
 (.block 0 (.loop 151113421608819433152512 0 (.seq (.seq (.ops [.xs [I 61 (T 13),bi 62 .geq 3 (T 61) (ai 0)]])
 (.cond (T 62) (.skip)
 (.exit 0)))
 (.seq (.block 1 (.ops [.xs [I 65 (T 12),I 66 (T 13),I 67 (T 10),I 68 (T 13),I 69 (T 13),I 70 (T 11),bi 71 .add 3 (T 69) (T 70),bi 72 .add 3 (T 71) (ai 1),fF 73 76 (T 67) (some (T 68)) (some (T 72)) none,I 74 (T 9),aS 75 125 [T 73,T 74],bu 76 76 (T 65) (T 66),st 124 (T 76) (T 75)]]))
 (.ops [.xs [I 63 (T 13),bi 64 .sub 3 (T 63) (ai 1),ak 13 (T 64)]]))))))
 (.seq (.ops [.xs [I 77 (T 12),bj (aS 78 110 [T 77]),I 79 (T 10),I 80 (T 11),bj (fF 81 76 (T 79) none (some (T 80)) none),aS 82 110 [T 81],I 83 (T 8),aS 84 126 [T 82,T 83],ak 4 (T 78),ak 5 (T 84)]])
 (.ret))))))))),[.tmp 4,.tmp 5]⟩
def HJ:cM:=⟨.seq (.ops [.cl 2 78 (T 0),.cl 3 78 (T 1),.bL 4 78,.bL 5 78])
 (.seq (.ops [.a9 none 11 78 2 1 2 1,.aI none 12 76 11 2 1,.a9 none 13 78 3 1 3 1,.aI none 14 76 13 3 1,
  .xs [aS 15 117 [T 12,T 14],I 10 (T 15),ex 16 (T 10) 0,ex 17 (T 10) 1,ak 6 (T 16),ak 7 (T 17)]])
 (.seq (.ops [.a9 none 18 78 2 0 2 0,.aI none 19 4 18 2 0,.a9 none 20 78 3 0 3 0,.aI none 21 4 20 3 0,
  .xs [bi 22 .neq 4 (T 19) (T 21),I 23 (T 6),bj (aS 24 92 [T 22,T 23])],.a9 none 25 78 2 0 2 0,.aI none 26 4 25 2 0,
  .xs [I 27 (T 7),bj (aS 28 92 [T 26,T 27])],.bL 8 78,.bL 9 78,.bT true none 78 8 (T 24) 8,.bT true none 78 9 (T 28) 9])
 (.seq (.box 35183835217920 768 (.seq (.box 549218942976 0 (.ops [.xs [I 29 (T 7),bF 30 76 (T 29),bi 31 .gtr 3 (T 30) (ai 0),I 32 (T 31)],.a9 (some (32,true)) 33 78 2 0 2 0,
  .aI (some (32,true)) 34 4 33 2 0,.a9 (some (32,true)) 35 78 3 0 3 0,.aI (some (32,true)) 36 4 35 3 0,
  .xs [aT 32 true (bi 37 .neq 4 (T 34) (T 36)),cR 38 (T 32) (T 37) (C (.bool false))]]))
 (.cond (T 38) (.ops [.bQ none 39 78 8 8,.xs [bj (aS 40 88 [ai 1]),bj (aS 41 94 [T 39,T 40])],.bQ none 42 78 9 9,.bQ none 43 78 3 3,
  .xs [aS 44 105 [T 42,T 43]],.bT true none 78 8 (T 41) 8,.bT true none 78 9 (T 44) 9])
 (.skip))))
 (.seq (.opsL [.bQ none 45 78 8 8,.bQ none 46 78 9 9,.bT false none 78 4 (T 45) 4,.bT true none 78 5 (T 46) 5])
 (.ret))))),[.cell 4 78,.cell 5 78]⟩
def Ir:cM:=⟨.seq (.ops [.xs [ak 4 (ai 0)]])
 (.seq (.ops [.xs [I 14 (T 1),bF 15 9 (T 14),ak 5 (T 15)]])
 (.seq (.block 0 (.seq (.box 16711680 0 (.ops [.xs [I 17 (T 5),bi 18 .eql 3 (T 17) (ai 0),I 19 (T 18),aT 19 false (I 20 (T 1)),aT 19 false (I 21 (T 0)),aT 19 false (bi 22 .eql 9 (T 20) (T 21)),cR 23 (T 19) (C (.bool true)) (T 22),ak 16 (T 23)]]))
 (.cond (T 16) (.seq (.ops [.xs [ak 4 (ai 0)]])
 (.ret))
 (.seq (.ops [.xs [I 25 (T 5),bi 26 .eql 3 (T 25) (ai 1),ak 24 (T 26)]])
 (.cond (T 24) (.seq (.ops [.xs [I 27 (T 0),I 28 (T 1),en 29 9 (T 28) (ai 0),aS 30 128 [T 27,T 29],ak 4 (T 30)]])
 (.ret))
 (.seq (.ops [.xs [I 32 (T 5),I 33 (T 0),bF 34 9 (T 33),bi 35 .geq 3 (T 32) (T 34),ak 31 (T 35)]])
 (.cond (T 31) (.seq (.ops [.xs [ak 4 (ai (-1))]])
 (.ret))
 (.seq (.box 35115652612096 0 (.ops [.xs [I 37 (T 5),aI 38 3 (.global 0),bi 39 .leq 3 (T 37) (T 38),I 40 (T 39),aT 40 true (I 41 (T 0)),aT 40 true (bF 42 9 (T 41)),aT 40 true (bi 43 .leq 3 (T 42) (ai 64)),cR 44 (T 40) (T 43) (C (.bool false)),ak 36 (T 44)]]))
 (.cond (T 36) (.seq (.ops [.xs [I 45 (T 0),I 46 (T 1),aS 47 129 [T 45,T 46],ak 4 (T 47)]])
 (.ret))
 (.skip))))))))))
 (.seq (.ops [.xs [I 48 (T 1),en 49 9 (T 48) (ai 0),ak 6 (T 49)]])
 (.seq (.ops [.xs [I 50 (T 1),en 51 9 (T 50) (ai 1),ak 7 (T 51)]])
 (.seq (.ops [.xs [ak 8 (ai 0)]])
 (.seq (.ops [.xs [I 52 (T 0),bF 53 9 (T 52),I 54 (T 5),bi 55 .sub 3 (T 53) (T 54),bi 56 .add 3 (T 55) (ai 1),ak 9 (T 56)]])
 (.seq (.ops [.xs [ak 10 (ai 0)]])
 (.seq (.block 1 (.loop 11150372599265311570767858992208992677149968 0 (.seq (.seq (.ops [.xs [I 57 (T 8),I 58 (T 9),bi 59 .lss 3 (T 57) (T 58)]])
 (.cond (T 59) (.skip)
 (.exit 1)))
 (.block 2 (.seq (.box 302230301982152686831888 0 (.seq (.ops [.xs [I 60 (T 0),I 61 (T 8),en 62 9 (T 60) (T 61),I 63 (T 6),bi 64 .neq 5 (T 62) (T 63)]])
 (.cond (T 64) (.seq (.ops [.xs [I 65 (T 0),I 66 (T 8),bi 67 .add 3 (T 66) (ai 1),I 68 (T 9),fF 69 9 (T 65) (some (T 67)) (some (T 68)) none,I 70 (T 6),aS 71 128 [T 69,T 70],ak 11 (T 71)]])
 (.seq (.seq (.ops [.xs [I 72 (T 11),bi 73 .lss 3 (T 72) (ai 0)]])
 (.cond (T 73) (.seq (.ops [.xs [ak 4 (ai (-1))]])
 (.ret))
 (.skip)))
 (.ops [.xs [I 74 (T 8),I 75 (T 11),bi 76 .add 3 (T 75) (ai 1),bi 77 .add 3 (T 74) (T 76),ak 8 (T 77)]])))
 (.skip))))
 (.seq (.seq (.box 19806738397111180741092311040 0 (.ops [.xs [I 78 (T 0),I 79 (T 8),bi 80 .add 3 (T 79) (ai 1),en 81 9 (T 78) (T 80),I 82 (T 7),bi 83 .eql 5 (T 81) (T 82),I 84 (T 83),aT 84 true (I 85 (T 0)),aT 84 true (I 86 (T 8)),aT 84 true (I 87 (T 8)),aT 84 true (I 88 (T 5)),aT 84 true (bi 89 .add 3 (T 87) (T 88)),aT 84 true ((fF 90 9 (T 85) (some (T 86)) (some (T 89)) none)),aT 84 true (I 91 (T 1)),aT 84 true (bi 92 .eql 9 (T 90) (T 91)),cR 93 (T 84) (T 92) (C (.bool false))]]))
 (.cond (T 93) (.seq (.ops [.xs [I 94 (T 8),ak 4 (T 94)]])
 (.ret))
 (.skip)))
 (.seq (.ops [.xs [I 95 (T 8),bi 96 .add 3 (T 95) (ai 1),ak 8 (T 96)]])
 (.seq (.ops [.xs [I 97 (T 10),bi 98 .add 3 (T 97) (ai 1),ak 10 (T 98)]])
 (.seq (.box 323884728358312612082407668973568 0 (.ops [.xs [I 99 (T 5),aI 100 3 (.global 0),bi 101 .leq 3 (T 99) (T 100),I 102 (T 101),aT 102 true (I 103 (T 10)),aT 102 true (I 104 (T 8)),aT 102 true (aS 105 130 [T 104]),aT 102 true (bi 106 .gtr 3 (T 103) (T 105)),cR 107 (T 102) (T 106) (C (.bool false))]]))
 (.cond (T 107) (.seq (.ops [.xs [I 108 (T 0),I 109 (T 8),fF 110 9 (T 108) (some (T 109)) none none,I 111 (T 1),aS 112 129 [T 110,T 111],ak 12 (T 112)]])
 (.seq (.seq (.ops [.xs [I 113 (T 12),bi 114 .geq 3 (T 113) (ai 0)]])
 (.cond (T 114) (.seq (.ops [.xs [I 115 (T 12),I 116 (T 8),bi 117 .add 3 (T 115) (T 116),ak 4 (T 117)]])
 (.ret))
 (.skip)))
 (.seq (.ops [.xs [ak 4 (ai (-1))]])
 (.ret))))
 (.seq (.box 10888703434471084601859761486051512680448 0 (.ops [.xs [I 118 (T 5),aI 119 3 (.global 0),bi 120 .gtr 3 (T 118) (T 119),I 121 (T 120),aT 121 true (I 122 (T 10)),aT 121 true (I 123 (T 8)),aT 121 true ((bi 124 .shr 3 (T 123) (C (.int .u64 4)))),aT 121 true (bi 125 .add 3 (ai 4) (T 124)),aT 121 true (bi 126 .geq 3 (T 122) (T 125)),cR 127 (T 121) (T 126) (C (.bool false)),I 128 (T 127),aT 128 true (I 129 (T 8)),aT 128 true (I 130 (T 9)),aT 128 true (bi 131 .lss 3 (T 129) (T 130)),cR 132 (T 128) (T 131) (C (.bool false))]]))
 (.cond (T 132) (.seq (.ops [.xs [I 133 (T 0),I 134 (T 8),fF 135 9 (T 133) (some (T 134)) none none,I 136 (T 1),aS 137 131 [T 135,T 136],ak 13 (T 137)]])
 (.seq (.seq (.ops [.xs [I 138 (T 13),bi 139 .lss 3 (T 138) (ai 0)]])
 (.cond (T 139) (.seq (.ops [.xs [ak 4 (ai (-1))]])
 (.ret))
 (.skip)))
 (.seq (.ops [.xs [I 140 (T 8),I 141 (T 13),bi 142 .add 3 (T 140) (T 141),ak 4 (T 142)]])
 (.ret))))
 (.skip)))))))))))))
 (.seq (.ops [.xs [ak 4 (ai (-1))]])
 (.ret)))))))))),[.tmp 4]⟩
def Iq:cM:=⟨.seq (.ops [.xs [ak 4 (C (.bool false))]])
 (.seq (.box 262128 0 (.ops [.xs [I 5 (T 0),bF 6 9 (T 5),I 7 (T 1),bF 8 9 (T 7),bi 9 .geq 3 (T 6) (T 8),I 10 (T 9),aT 10 true (I 11 (T 0)),aT 10 true (I 12 (T 1)),aT 10 true (bF 13 9 (T 12)),aT 10 true ((fF 14 9 (T 11) none (some (T 13)) none)),aT 10 true (I 15 (T 1)),aT 10 true (bi 16 .eql 9 (T 14) (T 15)),cR 17 (T 10) (T 16) (C (.bool false)),ak 4 (T 17)]]))
 (.ret)),[.tmp 4]⟩
def HA:cM:=⟨.seq (.ops [.xs [ak 2 (ai 0)]])
 (.seq (.ops [.xs [I 3 (T 0),aS 4 132 [T 3],bi 5 .sub 3 (ai 32) (T 4),ak 2 (T 5)]])
 (.ret)),[.tmp 2]⟩
def HX:cM:=⟨.seq (.ops [.xs [ak 4 (C (.slice none 0 0))]])
 (.seq (.ops [.xs [I 9 (T 0),bF 10 76 (T 9),bi 11 .add 3 (T 10) (ai 1),ms 12 76 (T 11) (T 11),ak 5 (T 12)]])
 (.seq (.seq (.ops [.xs [I 13 (T 0),bF 14 76 (T 13),I 15 (ai 0)]])
 (.block 0 (.loop 1099511595456 0 (.seq (.ops [.xs [bi 16 .lss 3 (T 15) (T 14)]])
 (.seq (.cond (T 16) (.skip)
 (.exit 0))
 (.seq (.block 1 (.seq (.ops [.xs [I 17 (T 15),bu 18 76 (T 13) (T 15),aI 19 124 (T 18),ak 6 (T 17),ak 7 (T 19)]])
 (.seq (.ops [.xs [I 20 (T 7),ch 21 124 123 (T 20),I 22 (T 1),bi 23 .shl 123 (T 21) (T 22),ak 8 (T 23)]])
 (.seq (.ops [.xs [I 24 (T 5),I 25 (T 6),bu 26 76 (T 24) (T 25),aI 27 124 (T 26),I 28 (T 8),ch 29 123 124 (T 28),bi 30 .or 124 (T 27) (T 29),bu 31 76 (T 24) (T 25),st 124 (T 31) (T 30)]])
 (.ops [.xs [I 32 (T 5),I 33 (T 6),bi 34 .add 3 (T 33) (ai 1),I 35 (T 8),bi 36 .shr 123 (T 35) (C (.int .u64 32)),ch 37 123 124 (T 36),bu 38 76 (T 32) (T 34),st 124 (T 38) (T 37)]])))))
 (.ops [.xs [bi 39 .add 3 (T 15) (ai 1),I 15 (T 39)]])))))))
 (.seq (.ops [.xs [I 40 (T 5),ak 4 (T 40)]])
 (.ret)))),[.tmp 4]⟩
def HS:cM:=⟨.seq (.ops [.xs [ak 4 (C (.int .u32 0))]])
 (.seq (.ops [.xs [I 15 (T 1),bF 16 76 (T 15),ak 5 (T 16)]])
 (.seq (.ops [.xs [I 17 (T 0),I 18 (T 5),bu 19 76 (T 17) (T 18),aI 20 124 (T 19),ch 21 124 123 (T 20),bi 22 .shl 123 (T 21) (C (.int .u64 32)),I 23 (T 0),I 24 (T 5),bi 25 .sub 3 (T 24) (ai 1),bu 26 76 (T 23) (T 25),aI 27 124 (T 26),ch 28 124 123 (T 27),bi 29 .or 123 (T 22) (T 28),ak 6 (T 29)]])
 (.seq (.ops [.xs [I 30 (T 6),I 31 (T 1),I 32 (T 5),bi 33 .sub 3 (T 32) (ai 1),bu 34 76 (T 31) (T 33),aI 35 124 (T 34),ch 36 124 123 (T 35),bi 37 .quo 123 (T 30) (T 36),I 38 (T 6),I 39 (T 1),I 40 (T 5),bi 41 .sub 3 (T 40) (ai 1),bu 42 76 (T 39) (T 41),aI 43 124 (T 42),ch 44 124 123 (T 43),bi 45 .rem 123 (T 38) (T 44),ak 7 (T 37),ak 8 (T 45)]])
 (.seq (.box 4835703278388147954647424 0 (.block 0 (.loop 4835703278388147954647424 0 (.seq (.seq (.box 590295739989961474048 0 (.ops [.xs [I 46 (T 7),bi 47 .shr 123 (T 46) (C (.int .u64 32)),bi 48 .gtr 123 (T 47) (C (.int .u64 0)),I 49 (T 48),aT 49 false (I 50 (T 7)),aT 49 false (I 51 (T 1)),aT 49 false (I 52 (T 5)),aT 49 false (bi 53 .sub 3 (T 52) (ai 2)),aT 49 false (bu 54 76 (T 51) (T 53)),aT 49 false (aI 55 124 (T 54)),aT 49 false (ch 56 124 123 (T 55)),aT 49 false (bi 57 .mul 123 (T 50) (T 56)),aT 49 false (I 58 (T 8)),aT 49 false ((bi 59 .shl 123 (T 58) (C (.int .u64 32)))),aT 49 false (I 60 (T 0)),aT 49 false (I 61 (T 5)),aT 49 false (bi 62 .sub 3 (T 61) (ai 2)),aT 49 false (bu 63 76 (T 60) (T 62)),aT 49 false (aI 64 124 (T 63)),aT 49 false (ch 65 124 123 (T 64)),aT 49 false (bi 66 .or 123 (T 59) (T 65)),aT 49 false (bi 67 .gtr 123 (T 57) (T 66)),cR 68 (T 49) (C (.bool true)) (T 67)]]))
 (.cond (T 68) (.skip)
 (.exit 0)))
 (.block 1 (.seq (.ops [.xs [I 69 (T 7),bi 70 .sub 123 (T 69) (C (.int .u64 1)),ak 7 (T 70)]])
 (.seq (.ops [.xs [I 71 (T 8),I 72 (T 1),I 73 (T 5),bi 74 .sub 3 (T 73) (ai 1),bu 75 76 (T 72) (T 74),aI 76 124 (T 75),ch 77 124 123 (T 76),bi 78 .add 123 (T 71) (T 77),ak 8 (T 78)]])
 (.seq (.ops [.xs [I 79 (T 8),bi 80 .shr 123 (T 79) (C (.int .u64 32)),bi 81 .gtr 123 (T 80) (C (.int .u64 0))]])
 (.cond (T 81) (.exit 0)
 (.skip))))))))))
 (.seq (.ops [.xs [ak 9 (C (.int .u64 0)),ak 10 (C (.int .u32 0))]])
 (.seq (.seq (.ops [.xs [I 82 (T 1),bF 83 76 (T 82),I 84 (ai 0)]])
 (.block 2 (.loop 10384593697726842143226925863149056 0 (.seq (.ops [.xs [bi 85 .lss 3 (T 84) (T 83)]])
 (.seq (.cond (T 85) (.skip)
 (.exit 2))
 (.seq (.block 3 (.seq (.ops [.xs [I 86 (T 84),ak 11 (T 86)]])
 (.seq (.ops [.xs [I 87 (T 7),I 88 (T 1),I 89 (T 11),bu 90 76 (T 88) (T 89),aI 91 124 (T 90),ch 92 124 123 (T 91),bi 93 .mul 123 (T 87) (T 92),I 94 (T 9),bi 95 .add 123 (T 93) (T 94),ak 12 (T 95)]])
 (.seq (.ops [.xs [I 96 (T 12),bi 97 .shr 123 (T 96) (C (.int .u64 32)),ak 9 (T 97)]])
 (.ops [.xs [I 99 (T 0),I 100 (T 11),I 101 (T 0),I 102 (T 11),bu 103 76 (T 101) (T 102),aI 104 124 (T 103),I 105 (T 12),ch 106 123 124 (T 105),I 107 (T 10),aS 108 127 [T 104,T 106,T 107],I 98 (T 108),ex 109 (T 98) 0,ex 110 (T 98) 1,bu 111 76 (T 99) (T 100),st 124 (T 111) (T 109),ak 10 (T 110)]])))))
 (.ops [.xs [bi 112 .add 3 (T 84) (ai 1),I 84 (T 112)]])))))))
 (.seq (.ops [.xs [I 114 (T 0),I 115 (T 5),I 116 (T 0),I 117 (T 5),bu 118 76 (T 116) (T 117),aI 119 124 (T 118),I 120 (T 9),ch 121 123 124 (T 120),I 122 (T 10),aS 123 127 [T 119,T 121,T 122],I 113 (T 123),ex 124 (T 113) 0,ex 125 (T 113) 1,bu 126 76 (T 114) (T 115),st 124 (T 126) (T 124),ak 10 (T 125)]])
 (.seq (.box 1461501637160761734743215600984595715940048461952 0 (.seq (.ops [.xs [I 127 (T 10),bi 128 .gtr 124 (T 127) (C (.int .u32 0))]])
 (.cond (T 128) (.seq (.ops [.xs [I 129 (T 7),bi 130 .sub 123 (T 129) (C (.int .u64 1)),ak 7 (T 130)]])
 (.seq (.ops [.xs [ak 13 (C (.int .u32 0))]])
 (.seq (.seq (.ops [.xs [I 131 (T 1),bF 132 76 (T 131),I 133 (ai 0)]])
 (.block 4 (.loop 11417970652611937578435456927608523274479230976 0 (.seq (.ops [.xs [bi 134 .lss 3 (T 133) (T 132)]])
 (.seq (.cond (T 134) (.skip)
 (.exit 4))
 (.seq (.block 5 (.seq (.ops [.xs [I 135 (T 133),ak 14 (T 135)]])
 (.ops [.xs [I 137 (T 0),I 138 (T 14),I 139 (T 0),I 140 (T 14),bu 141 76 (T 139) (T 140),aI 142 124 (T 141),I 143 (T 1),I 144 (T 14),bu 145 76 (T 143) (T 144),aI 146 124 (T 145),I 147 (T 13),aS 148 122 [T 142,T 146,T 147],I 136 (T 148),ex 149 (T 136) 0,ex 150 (T 136) 1,bu 151 76 (T 137) (T 138),st 124 (T 151) (T 149),ak 13 (T 150)]])))
 (.ops [.xs [bi 152 .add 3 (T 133) (ai 1),I 133 (T 152)]])))))))
 (.ops [.xs [I 153 (T 0),I 154 (T 5),bu 155 76 (T 153) (T 154),aI 156 124 (T 155),I 157 (T 13),bi 158 .add 124 (T 156) (T 157),bu 159 76 (T 153) (T 154),st 124 (T 159) (T 158)]]))))
 (.skip))))
 (.seq (.ops [.xs [I 160 (T 7),ch 161 123 124 (T 160),ak 4 (T 161)]])
 (.ret)))))))))),[.tmp 4]⟩
def HT:cM:=⟨.seq (.ops [.xs [ak 4 (C (.slice none 0 0))]])
 (.seq (.ops [.xs [I 8 (T 0),bF 9 76 (T 8),ms 10 76 (T 9) (T 9),ak 5 (T 10)]])
 (.seq (.seq (.ops [.xs [I 11 (T 0),bF 12 76 (T 11),I 13 (ai 0)]])
 (.block 0 (.loop 8796093014208 0 (.seq (.ops [.xs [bi 14 .lss 3 (T 13) (T 12)]])
 (.seq (.cond (T 14) (.skip)
 (.exit 0))
 (.seq (.block 1 (.seq (.ops [.xs [I 15 (T 13),ak 6 (T 15)]])
 (.seq (.ops [.xs [I 16 (T 0),I 17 (T 6),bu 18 76 (T 16) (T 17),aI 19 124 (T 18),ch 20 124 123 (T 19),ak 7 (T 20)]])
 (.seq (.box 34357641344 0 (.seq (.ops [.xs [I 21 (T 6),bi 22 .add 3 (T 21) (ai 1),I 23 (T 0),bF 24 76 (T 23),bi 25 .lss 3 (T 22) (T 24)]])
 (.cond (T 25) (.ops [.xs [I 26 (T 7),I 27 (T 0),I 28 (T 6),bi 29 .add 3 (T 28) (ai 1),bu 30 76 (T 27) (T 29),aI 31 124 (T 30),ch 32 124 123 (T 31),bi 33 .shl 123 (T 32) (C (.int .u64 32)),bi 34 .or 123 (T 26) (T 33),ak 7 (T 34)]])
 (.skip))))
 (.ops [.xs [I 35 (T 5),I 36 (T 6),I 37 (T 7),I 38 (T 1),bi 39 .shr 123 (T 37) (T 38),ch 40 123 124 (T 39),bu 41 76 (T 35) (T 36),st 124 (T 41) (T 40)]])))))
 (.ops [.xs [bi 42 .add 3 (T 13) (ai 1),I 13 (T 42)]])))))))
 (.seq (.ops [.xs [I 43 (T 5),aS 44 110 [T 43],ak 4 (T 44)]])
 (.ret)))),[.tmp 4]⟩
def Is:cM:=⟨.seq (.ops [.xs [ak 4 (ai 0)]])
 (.seq (.ops [.xs [I 5 (T 0),I 6 (T 1),aS 7 133 [T 5,T 6],ak 4 (T 7)]])
 (.ret)),[.tmp 4]⟩
def HB:cM:=⟨.seq (.ops [.xs [ak 2 (ai 0)]])
 (.seq (.box 125 0 (.seq (.ops [.xs [I 3 (T 0),bi 4 .geq 124 (T 3) (C (.int .u32 65536))]])
 (.cond (T 4) (.seq (.ops [.xs [I 5 (T 0),bi 6 .shr 124 (T 5) (C (.int .u64 16)),ak 0 (T 6)]])
 (.ops [.xs [ak 2 (ai 16)]]))
 (.skip))))
 (.seq (.box 8069 0 (.seq (.ops [.xs [I 7 (T 0),bi 8 .geq 124 (T 7) (C (.int .u32 256))]])
 (.cond (T 8) (.seq (.ops [.xs [I 9 (T 0),bi 10 .shr 124 (T 9) (C (.int .u64 8)),ak 0 (T 10)]])
 (.ops [.xs [I 11 (T 2),bi 12 .add 3 (T 11) (ai 8),ak 2 (T 12)]]))
 (.skip))))
 (.seq (.ops [.xs [I 13 (T 2),I 14 (T 0),ch 15 124 5 (T 14),(en 16 9 (C (.string {data:=(List.toArray (List.append (List.append [0,1,2,2,3,3,3,3,4,4,4,4,4,4,4,4,5,5,5,5,5,5,5,5,5,5,5,5,5,5,5,5,6,6,6,6,6,6,6,6,6,6,6,6,6,6,6,6,6,6,6,6,6,6,6,6,6,6,6,6,6,6,6,6] [7,7,7,7,7,7,7,7,7,7,7,7,7,7,7,7,7,7,7,7,7,7,7,7,7,7,7,7,7,7,7,7,7,7,7,7,7,7,7,7,7,7,7,7,7,7,7,7,7,7,7,7,7,7,7,7,7,7,7,7,7,7,7,7]) (List.append [8,8,8,8,8,8,8,8,8,8,8,8,8,8,8,8,8,8,8,8,8,8,8,8,8,8,8,8,8,8,8,8,8,8,8,8,8,8,8,8,8,8,8,8,8,8,8,8,8,8,8,8,8,8,8,8,8,8,8,8,8,8,8,8] [8,8,8,8,8,8,8,8,8,8,8,8,8,8,8,8,8,8,8,8,8,8,8,8,8,8,8,8,8,8,8,8,8,8,8,8,8,8,8,8,8,8,8,8,8,8,8,8,8,8,8,8,8,8,8,8,8,8,8,8,8,8,8,8])))})) (T 15)),ch 17 5 3 (T 16),bi 18 .add 3 (T 13) (T 17),ak 2 (T 18)]])
 (.ret)))),[.tmp 2]⟩
theorem te:j0 prog 3=some .i64:=by kernel_rfl
theorem aaY:j0 prog 24=some .i64:=by kernel_rfl
theorem abO:fe prog 27=some 93:=by kernel_rfl
theorem abZ:fB prog 27=true:=by kernel_rfl
theorem OM:bq prog 93=some 2:=by kernel_rfl
theorem ack:bytes? prog 93=some 40:=by kernel_rfl
theorem BE:dA prog 93=some (.agg #[(.string {data:= #[]}),(.slice none 0 0)]):=by kernel_rfl
theorem acz:prog.underlying 27=some (.slice 93):=by kernel_rfl
theorem acI:fe prog 22=some 34:=by kernel_rfl
theorem acQ:fB prog 22=true:=by kernel_rfl
theorem aaZ:bq prog 34=some 1:=by kernel_rfl
theorem aba:bytes? prog 34=some 24:=by kernel_rfl
theorem abj:dA prog 34=some (.slice none 0 0):=by kernel_rfl
theorem abu:prog.underlying 22=some (.slice 34):=by kernel_rfl
theorem abA:ds prog 34=some false:=by kernel_rfl
theorem abH:fe prog 34=some 3:=by kernel_rfl
theorem abK:fB prog 34=true:=by kernel_rfl
theorem abL:bq prog 3=some 1:=by kernel_rfl
theorem abM:bytes? prog 3=some 8:=by kernel_rfl
theorem abN:dA prog 3=some (.int .i64 0):=by kernel_rfl
theorem abP:prog.underlying 34=some (.slice 3):=by kernel_rfl
theorem abQ:fe prog 95=some 27:=by kernel_rfl
theorem abR:fB prog 95=true:=by kernel_rfl
theorem abS:bq prog 27=some 1:=by kernel_rfl
theorem abT:bytes? prog 27=some 24:=by kernel_rfl
theorem abU:dA prog 27=some (.slice none 0 0):=by kernel_rfl
theorem abV:prog.underlying 95=some (.slice 27):=by kernel_rfl
theorem abW:iw prog 45=true:=by kernel_rfl
theorem abX:fB prog 45=true:=by kernel_rfl
theorem abY:ds prog 3=some false:=by kernel_rfl
theorem ab0:bq prog 56=some 2:=by kernel_rfl
theorem ab1:ds prog 56=some true:=by kernel_rfl
theorem ab2:fL prog 56 0=some 0:=by kernel_rfl
theorem ab3:ds prog 5=some false:=by kernel_rfl
theorem ab4:bq prog 5=some 1:=by kernel_rfl
theorem ab5:fL prog 56 1=some 1:=by kernel_rfl
theorem yy:j0 prog 5=some .u8:=by kernel_rfl
theorem ab6:fe prog 60=some 61:=by kernel_rfl
theorem ab7:fB prog 60=true:=by kernel_rfl
theorem ab8:bq prog 61=some 1:=by kernel_rfl
theorem ab9:bytes? prog 61=some 24:=by kernel_rfl
theorem aca:dA prog 61=some (.slice none 0 0):=by kernel_rfl
theorem acb:prog.underlying 60=some (.slice 61):=by kernel_rfl
theorem acd:ds prog 61=some false:=by kernel_rfl
theorem ace:fe prog 61=some 5:=by kernel_rfl
theorem acf:fB prog 61=true:=by kernel_rfl
theorem acg:bytes? prog 5=some 1:=by kernel_rfl
theorem ach:dA prog 5=some (.int .u8 0):=by kernel_rfl
theorem aci:prog.underlying 61=some (.slice 5):=by kernel_rfl
theorem acj:fe prog 62=some 69:=by kernel_rfl
theorem acm:fB prog 62=true:=by kernel_rfl
theorem ON:bq prog 69=some 2:=by kernel_rfl
theorem acn:bytes? prog 69=some 32:=by kernel_rfl
theorem BB:dA prog 69=some (.agg #[(.int .i64 0),(.slice none 0 0)]):=by kernel_rfl
theorem aco:prog.underlying 62=some (.slice 69):=by kernel_rfl
theorem acp:fL prog 69 0=some 0:=by kernel_rfl
theorem BC:dA prog 74=some (.agg #[(.slice none 0 0)]):=by kernel_rfl
theorem OO:bq prog 74=some 1:=by kernel_rfl
theorem acq:ds prog 74=some true:=by kernel_rfl
theorem BD:dA prog 80=some (.agg #[(.bool false),(.slice none 0 0),(.bool false),(.slice none 0 0)]):=by kernel_rfl
theorem OP:bq prog 80=some 4:=by kernel_rfl
theorem acr:ds prog 80=some true:=by kernel_rfl
theorem acs:ds prog 93=some true:=by kernel_rfl
theorem acu:fL prog 93 0=some 0:=by kernel_rfl
theorem acv:ds prog 45=some false:=by kernel_rfl
theorem acw:bq prog 45=some 1:=by kernel_rfl
theorem acx:oL prog 42 0=some (0,some 2):=by kernel_rfl
theorem acy:fL prog 93 1=some 1:=by kernel_rfl
theorem BF:dA prog 42=some (.agg #[(.bool false),(.slice none 0 0),(.bool false),(.slice none 0 0)]):=by kernel_rfl
theorem OQ:bq prog 42=some 4:=by kernel_rfl
theorem acA:ds prog 42=some true:=by kernel_rfl
theorem acB:ds prog 27=some false:=by kernel_rfl
theorem acC:fL prog 42 0=some 0:=by kernel_rfl
theorem acD:ds prog 40=some true:=by kernel_rfl
theorem OR:bq prog 40=some 2:=by kernel_rfl
theorem acE:fL prog 42 1=some 2:=by kernel_rfl
theorem OS:lg prog 42=some [(0,2),(2,2)]:=by kernel_rfl
theorem acF:iw prog 9=true:=by kernel_rfl
theorem acG:fB prog 9=true:=by kernel_rfl
theorem acH:fL prog 40 0=some 0:=by kernel_rfl
theorem acJ:ds prog 4=some false:=by kernel_rfl
theorem acK:bq prog 4=some 1:=by kernel_rfl
theorem OT:lg prog 93=some [(0,1),(1,1)]:=by kernel_rfl
theorem acL:fe prog 110=some 113:=by kernel_rfl
theorem acM:fB prog 110=true:=by kernel_rfl
theorem OU:bq prog 113=some 5:=by kernel_rfl
theorem acN:bytes? prog 113=some 88:=by kernel_rfl
theorem BG:dA prog 113=some (.agg #[(.bool false),(.slice none 0 0),(.bool false),(.slice none 0 0),(.slice none 0 0)]):=by kernel_rfl
theorem acO:prog.underlying 110=some (.slice 113):=by kernel_rfl
theorem acP:ds prog 113=some true:=by kernel_rfl
theorem acR:fL prog 113 0=some 0:=by kernel_rfl
theorem OV:lg prog 69=some [(0,1),(1,1)]:=by kernel_rfl
theorem acS:ds prog 69=some true:=by kernel_rfl
theorem acT:fL prog 113 1=some 4:=by kernel_rfl
theorem acU:fL prog 69 1=some 1:=by kernel_rfl
theorem acV:fe prog 115=some 4:=by kernel_rfl
theorem acW:fB prog 115=true:=by kernel_rfl
theorem acX:bytes? prog 4=some 1:=by kernel_rfl
theorem acY:dA prog 4=some (.bool false):=by kernel_rfl
theorem acZ:prog.underlying 115=some (.slice 4):=by kernel_rfl
theorem aa0:bq prog 22=some 1:=by kernel_rfl
theorem aa1:ds prog 22=some false:=by kernel_rfl
theorem aa2:fe prog 120=some 80:=by kernel_rfl
theorem aa3:fB prog 120=true:=by kernel_rfl
theorem aa4:bytes? prog 80=some 64:=by kernel_rfl
theorem aa5:prog.underlying 120=some (.slice 80):=by kernel_rfl
theorem aa6:fe prog 72=some 120:=by kernel_rfl
theorem aa7:fB prog 72=true:=by kernel_rfl
theorem aa8:bq prog 120=some 1:=by kernel_rfl
theorem aa9:bytes? prog 120=some 24:=by kernel_rfl
theorem abb:dA prog 120=some (.slice none 0 0):=by kernel_rfl
theorem abc:prog.underlying 72=some (.slice 120):=by kernel_rfl
theorem OE:lg prog 74=some [(0,1)]:=by kernel_rfl
theorem abd:fL prog 74 0=some 0:=by kernel_rfl
theorem abe:ds prog 72=some false:=by kernel_rfl
theorem abf:bq prog 72=some 1:=by kernel_rfl
theorem abg:ds prog 120=some false:=by kernel_rfl
theorem abh:fL prog 80 0=some 0:=by kernel_rfl
theorem abi:ds prog 78=some true:=by kernel_rfl
theorem OF:bq prog 78=some 2:=by kernel_rfl
theorem abk:fL prog 80 1=some 2:=by kernel_rfl
theorem Bz:dA prog 78=some (.agg #[(.bool false),(.slice none 0 0)]):=by kernel_rfl
theorem abl:fL prog 78 1=some 1:=by kernel_rfl
theorem abm:ds prog 76=some false:=by kernel_rfl
theorem abn:bq prog 76=some 1:=by kernel_rfl
theorem abo:fe prog 76=some 124:=by kernel_rfl
theorem abp:fB prog 76=true:=by kernel_rfl
theorem abq:bq prog 124=some 1:=by kernel_rfl
theorem abr:bytes? prog 124=some 4:=by kernel_rfl
theorem abt:dA prog 124=some (.int .u32 0):=by kernel_rfl
theorem abv:prog.underlying 76=some (.slice 124):=by kernel_rfl
theorem abw:ds prog 124=some false:=by kernel_rfl
theorem tf:j0 prog 124=some .u32:=by kernel_rfl
theorem yw:j0 prog 123=some .u64:=by kernel_rfl
theorem abx:fL prog 78 0=some 0:=by kernel_rfl
theorem aby:fL prog 40 1=some 1:=by kernel_rfl
theorem BA:dA prog 40=some (.agg #[(.bool false),(.slice none 0 0)]):=by kernel_rfl
theorem abz:tE prog 4=true:=by kernel_rfl
theorem OG:lg prog 40=some [(0,1),(1,1)]:=by kernel_rfl
theorem OH:dA prog 140=some (.agg #[(.slice none 0 0),(.slice none 0 0),(.slice none 0 0)]):=by kernel_rfl
theorem OI:lg prog 140=some [(0,1),(1,1),(2,1)]:=by kernel_rfl
theorem abB:bq prog 140=some 3:=by kernel_rfl
theorem abC:fL prog 140 2=some 2:=by kernel_rfl
theorem abD:bq prog 115=some 1:=by kernel_rfl
theorem abE:fL prog 140 1=some 1:=by kernel_rfl
theorem OJ:lg prog 113=some [(0,4),(4,1)]:=by kernel_rfl
theorem OK:lg prog 80=some [(0,2),(2,2)]:=by kernel_rfl
theorem abF:prog.concrete 9=true:=by kernel_rfl
theorem yx:j0 prog 142=some .u64:=by kernel_rfl
theorem abG:oL prog 40 1=some (1,none):=by kernel_rfl
theorem abI:fL prog 140 0=some 0:=by kernel_rfl
theorem abJ:ds prog 115=some false:=by kernel_rfl
theorem OL:lg prog 78=some [(0,1),(1,1)]:=by kernel_rfl
attribute [simp] te aaY abO abZ OM ack BE acz acI acQ aaZ aba abj abu abA abH abK abL abM abN abP abQ abR abS abT abU abV abW abX abY ab0 ab1 ab2 ab3 ab4 ab5 yy ab6 ab7 ab8 ab9 aca acb acd ace acf acg ach aci acj acm ON acn BB aco acp BC OO acq BD OP acr acs acu acv acw acx acy BF OQ acA acB acC acD OR acE OS acF acG acH acJ acK OT acL acM OU acN BG acO acP acR OV acS acT acU acV acW acX acY acZ aa0 aa1 aa2 aa3 aa4 aa5 aa6 aa7 aa8 aa9 abb abc OE abd abe abf abg abh abi OF abk Bz abl abm abn abo abp abq abr abt abv abw tf yw abx aby BA abz OG OH OI abB abC abD abE OJ OK abF yx abG abI abJ OL
@[simp] theorem af8{r:List bz}{F:Fr}{H:ab}{Q:Fr->ab->Prop}(d:Nat)(x:Operand)(J:isInt (aq F x)=true)(ax:ba (ch d 5 3 x::r) Q):a_ prog (ch d 5 3 x::r) Q ax F H=a_ prog r Q .mk (a4 F d (.int .i64 (IntKind.i64.wrap (intOf (aq F x))))) H:=nu yy te J ax
@[simp] theorem af6{r:List bz}{F:Fr}{H:ab}{Q:Fr->ab->Prop}(d:Nat)(x:Operand)(J:isInt (aq F x)=true)(ax:ba (ch d 3 5 x::r) Q):a_ prog (ch d 3 5 x::r) Q ax F H=a_ prog r Q .mk (a4 F d (.int .u8 (IntKind.u8.wrap (intOf (aq F x))))) H:=nu te yy J ax
@[simp high] theorem afe{r:List bz}{F:Fr}{H:ab}{Q:Fr->ab->Prop}(d:Nat)(ax:ba (bL d 74::r) Q):a_ prog (bL d 74::r) Q ax F H=a_ prog r Q .mk (a4 F d (.pointer (some ⟨H.length,0,none⟩))) (H++[.own 74 false [(.slice none 0 0)]]):=by rw[rI,BC,gF,show flat (.agg #[(.slice none 0 0)])=true from by kernel_rfl,OO];simp[Value.cells]
theorem adz:Whole prog 74 (.agg #[(.slice none 0 0)]):=⟨by kernel_rfl,by kernel_rfl,(by rw[if_pos (by rfl)];kernel_rfl)⟩
@[simp] theorem ako{F G:Fr}{H:ab}{r:List gX}{Q:Fr->Fr->ab->Prop}(c:Nat)(ax:ba (.bL c 74::r) Q):eb prog (.bL c 74::r) Q ax F G H=eb prog r Q .mk (a4 F c (.pointer (some ⟨H.length,0,none⟩))) (a4 G c (.agg #[(.slice none 0 0)])) (H++[.dead]):=rM BC (by kernel_rfl) adz ax
@[simp high] theorem afg{r:List bz}{F:Fr}{H:ab}{Q:Fr->ab->Prop}(d:Nat)(ax:ba (bL d 80::r) Q):a_ prog (bL d 80::r) Q ax F H=a_ prog r Q .mk (a4 F d (.pointer (some ⟨H.length,0,none⟩))) (H++[.own 80 false [(.bool false),(.slice none 0 0),(.bool false),(.slice none 0 0)]]):=by rw[rI,BD,gF,show flat (.agg #[(.bool false),(.slice none 0 0),(.bool false),(.slice none 0 0)])=true from by kernel_rfl,OP];simp[Value.cells]
theorem adB:Whole prog 80 (.agg #[(.bool false),(.slice none 0 0),(.bool false),(.slice none 0 0)]):=⟨by kernel_rfl,by kernel_rfl,(by rw[if_pos (by rfl)];kernel_rfl)⟩
@[simp] theorem akq{F G:Fr}{H:ab}{r:List gX}{Q:Fr->Fr->ab->Prop}(c:Nat)(ax:ba (.bL c 80::r) Q):eb prog (.bL c 80::r) Q ax F G H=eb prog r Q .mk (a4 F c (.pointer (some ⟨H.length,0,none⟩))) (a4 G c (.agg #[(.bool false),(.slice none 0 0),(.bool false),(.slice none 0 0)])) (H++[.dead]):=rM BD (by kernel_rfl) adB ax
@[simp high] theorem afh{r:List bz}{F:Fr}{H:ab}{Q:Fr->ab->Prop}(d:Nat)(ax:ba (bL d 93::r) Q):a_ prog (bL d 93::r) Q ax F H=a_ prog r Q .mk (a4 F d (.pointer (some ⟨H.length,0,none⟩))) (H++[.own 93 false [(.string {data:= #[]}),(.slice none 0 0)]]):=by rw[rI,BE,gF,show flat (.agg #[(.string {data:= #[]}),(.slice none 0 0)])=true from by kernel_rfl,OM];simp[Value.cells]
theorem adC:Whole prog 93 (.agg #[(.string {data:= #[]}),(.slice none 0 0)]):=⟨by kernel_rfl,by kernel_rfl,(by rw[if_pos (by rfl)];kernel_rfl)⟩
@[simp] theorem akr{F G:Fr}{H:ab}{r:List gX}{Q:Fr->Fr->ab->Prop}(c:Nat)(ax:ba (.bL c 93::r) Q):eb prog (.bL c 93::r) Q ax F G H=eb prog r Q .mk (a4 F c (.pointer (some ⟨H.length,0,none⟩))) (a4 G c (.agg #[(.string {data:= #[]}),(.slice none 0 0)])) (H++[.dead]):=rM BE (by kernel_rfl) adC ax
@[simp high] theorem afc{r:List bz}{F:Fr}{H:ab}{Q:Fr->ab->Prop}(d:Nat)(ax:ba (bL d 42::r) Q):a_ prog (bL d 42::r) Q ax F H=a_ prog r Q .mk (a4 F d (.pointer (some ⟨H.length,0,none⟩))) (H++[.own 42 false [(.bool false),(.slice none 0 0),(.bool false),(.slice none 0 0)]]):=by rw[rI,BF,gF,show flat (.agg #[(.bool false),(.slice none 0 0),(.bool false),(.slice none 0 0)])=true from by kernel_rfl,OQ];simp[Value.cells]
theorem adx:Whole prog 42 (.agg #[(.bool false),(.slice none 0 0),(.bool false),(.slice none 0 0)]):=⟨by kernel_rfl,by kernel_rfl,(by rw[if_pos (by rfl)];kernel_rfl)⟩
@[simp] theorem akm{F G:Fr}{H:ab}{r:List gX}{Q:Fr->Fr->ab->Prop}(c:Nat)(ax:ba (.bL c 42::r) Q):eb prog (.bL c 42::r) Q ax F G H=eb prog r Q .mk (a4 F c (.pointer (some ⟨H.length,0,none⟩))) (a4 G c (.agg #[(.bool false),(.slice none 0 0),(.bool false),(.slice none 0 0)])) (H++[.dead]):=rM BF (by kernel_rfl) adx ax
@[simp] theorem pr{r:List bz}{F:Fr}{H:ab}{Q:Fr->ab->Prop}(d:Nat)(aW:List (Nat×Operand))(ax:ba (dB d 42 aW::r) Q):a_ prog (dB d 42 aW::r) Q ax F H=fT (fun out=>a_ prog r Q .mk (a4 F d (.agg out.toArray)) H) .mk (kg [(0,2),(2,2)] (Value.cells (.agg #[(.bool false),(.slice none 0 0),(.bool false),(.slice none 0 0)])).toList (aW.map fun p=>(p.1,aq F p.2))):=qg BF (by kernel_rfl) OS ax
@[simp] theorem afC{r:List bz}{F:Fr}{H:ab}{Q:Fr->ab->Prop}(d:Nat)(aW:List (Nat×Operand))(ax:ba (dB d 93 aW::r) Q):a_ prog (dB d 93 aW::r) Q ax F H=fT (fun out=>a_ prog r Q .mk (a4 F d (.agg out.toArray)) H) .mk (kg [(0,1),(1,1)] (Value.cells (.agg #[(.string {data:= #[]}),(.slice none 0 0)])).toList (aW.map fun p=>(p.1,aq F p.2))):=qg BE (by kernel_rfl) OT ax
@[simp high] theorem afa{r:List bz}{F:Fr}{H:ab}{Q:Fr->ab->Prop}(d:Nat)(ax:ba (bL d 113::r) Q):a_ prog (bL d 113::r) Q ax F H=a_ prog r Q .mk (a4 F d (.pointer (some ⟨H.length,0,none⟩))) (H++[.own 113 false [(.bool false),(.slice none 0 0),(.bool false),(.slice none 0 0),(.slice none 0 0)]]):=by rw[rI,BG,gF,show flat (.agg #[(.bool false),(.slice none 0 0),(.bool false),(.slice none 0 0),(.slice none 0 0)])=true from by kernel_rfl,OU];simp[Value.cells]
theorem adv:Whole prog 113 (.agg #[(.bool false),(.slice none 0 0),(.bool false),(.slice none 0 0),(.slice none 0 0)]):=⟨by kernel_rfl,by kernel_rfl,(by rw[if_pos (by rfl)];kernel_rfl)⟩
@[simp] theorem akk{F G:Fr}{H:ab}{r:List gX}{Q:Fr->Fr->ab->Prop}(c:Nat)(ax:ba (.bL c 113::r) Q):eb prog (.bL c 113::r) Q ax F G H=eb prog r Q .mk (a4 F c (.pointer (some ⟨H.length,0,none⟩))) (a4 G c (.agg #[(.bool false),(.slice none 0 0),(.bool false),(.slice none 0 0),(.slice none 0 0)])) (H++[.dead]):=rM BG (by kernel_rfl) adv ax
@[simp] theorem afy{r:List bz}{F:Fr}{H:ab}{Q:Fr->ab->Prop}(d:Nat)(aW:List (Nat×Operand))(ax:ba (dB d 69 aW::r) Q):a_ prog (dB d 69 aW::r) Q ax F H=fT (fun out=>a_ prog r Q .mk (a4 F d (.agg out.toArray)) H) .mk (kg [(0,1),(1,1)] (Value.cells (.agg #[(.int .i64 0),(.slice none 0 0)])).toList (aW.map fun p=>(p.1,aq F p.2))):=qg BB (by kernel_rfl) OV ax
@[simp high] theorem afd{r:List bz}{F:Fr}{H:ab}{Q:Fr->ab->Prop}(d:Nat)(ax:ba (bL d 69::r) Q):a_ prog (bL d 69::r) Q ax F H=a_ prog r Q .mk (a4 F d (.pointer (some ⟨H.length,0,none⟩))) (H++[.own 69 false [(.int .i64 0),(.slice none 0 0)]]):=by rw[rI,BB,gF,show flat (.agg #[(.int .i64 0),(.slice none 0 0)])=true from by kernel_rfl,ON];simp[Value.cells]
theorem ady:Whole prog 69 (.agg #[(.int .i64 0),(.slice none 0 0)]):=⟨by kernel_rfl,by kernel_rfl,(by rw[if_pos (by rfl)];kernel_rfl)⟩
@[simp] theorem akn{F G:Fr}{H:ab}{r:List gX}{Q:Fr->Fr->ab->Prop}(c:Nat)(ax:ba (.bL c 69::r) Q):eb prog (.bL c 69::r) Q ax F G H=eb prog r Q .mk (a4 F c (.pointer (some ⟨H.length,0,none⟩))) (a4 G c (.agg #[(.int .i64 0),(.slice none 0 0)])) (H++[.dead]):=rM BB (by kernel_rfl) ady ax
@[simp] theorem afz{r:List bz}{F:Fr}{H:ab}{Q:Fr->ab->Prop}(d:Nat)(aW:List (Nat×Operand))(ax:ba (dB d 74 aW::r) Q):a_ prog (dB d 74 aW::r) Q ax F H=fT (fun out=>a_ prog r Q .mk (a4 F d (.agg out.toArray)) H) .mk (kg [(0,1)] (Value.cells (.agg #[(.slice none 0 0)])).toList (aW.map fun p=>(p.1,aq F p.2))):=qg BC (by kernel_rfl) OE ax
@[simp high] theorem aff{r:List bz}{F:Fr}{H:ab}{Q:Fr->ab->Prop}(d:Nat)(ax:ba (bL d 78::r) Q):a_ prog (bL d 78::r) Q ax F H=a_ prog r Q .mk (a4 F d (.pointer (some ⟨H.length,0,none⟩))) (H++[.own 78 false [(.bool false),(.slice none 0 0)]]):=by rw[rI,Bz,gF,show flat (.agg #[(.bool false),(.slice none 0 0)])=true from by kernel_rfl,OF];simp[Value.cells]
@[simp] theorem afZ{r:List bz}{F:Fr}{H:ab}{Q:Fr->ab->Prop}(d:Nat)(x:Operand)(J:isInt (aq F x)=true)(ax:ba (ch d 124 123 x::r) Q):a_ prog (ch d 124 123 x::r) Q ax F H=a_ prog r Q .mk (a4 F d (.int .u64 (IntKind.u64.wrap (intOf (aq F x))))) H:=nu tf yw J ax
@[simp] theorem afY{r:List bz}{F:Fr}{H:ab}{Q:Fr->ab->Prop}(d:Nat)(x:Operand)(J:isInt (aq F x)=true)(ax:ba (ch d 123 3 x::r) Q):a_ prog (ch d 123 3 x::r) Q ax F H=a_ prog r Q .mk (a4 F d (.int .i64 (IntKind.i64.wrap (intOf (aq F x))))) H:=nu yw te J ax
@[simp high] theorem afb{r:List bz}{F:Fr}{H:ab}{Q:Fr->ab->Prop}(d:Nat)(ax:ba (bL d 40::r) Q):a_ prog (bL d 40::r) Q ax F H=a_ prog r Q .mk (a4 F d (.pointer (some ⟨H.length,0,none⟩))) (H++[.own 40 false [(.bool false),(.slice none 0 0)]]):=by rw[rI,BA,gF,show flat (.agg #[(.bool false),(.slice none 0 0)])=true from by kernel_rfl,OR];simp[Value.cells]
theorem adw:Whole prog 40 (.agg #[(.bool false),(.slice none 0 0)]):=⟨by kernel_rfl,by kernel_rfl,(by rw[if_pos (by rfl)];kernel_rfl)⟩
@[simp] theorem akl{F G:Fr}{H:ab}{r:List gX}{Q:Fr->Fr->ab->Prop}(c:Nat)(ax:ba (.bL c 40::r) Q):eb prog (.bL c 40::r) Q ax F G H=eb prog r Q .mk (a4 F c (.pointer (some ⟨H.length,0,none⟩))) (a4 G c (.agg #[(.bool false),(.slice none 0 0)])) (H++[.dead]):=rM BA (by kernel_rfl) adw ax
@[simp] theorem afx{r:List bz}{F:Fr}{H:ab}{Q:Fr->ab->Prop}(d:Nat)(aW:List (Nat×Operand))(ax:ba (dB d 40 aW::r) Q):a_ prog (dB d 40 aW::r) Q ax F H=fT (fun out=>a_ prog r Q .mk (a4 F d (.agg out.toArray)) H) .mk (kg [(0,1),(1,1)] (Value.cells (.agg #[(.bool false),(.slice none 0 0)])).toList (aW.map fun p=>(p.1,aq F p.2))):=qg BA (by kernel_rfl) OG ax
@[simp] theorem afw{r:List bz}{F:Fr}{H:ab}{Q:Fr->ab->Prop}(d:Nat)(aW:List (Nat×Operand))(ax:ba (dB d 140 aW::r) Q):a_ prog (dB d 140 aW::r) Q ax F H=fT (fun out=>a_ prog r Q .mk (a4 F d (.agg out.toArray)) H) .mk (kg [(0,1),(1,1),(2,1)] (Value.cells (.agg #[(.slice none 0 0),(.slice none 0 0),(.slice none 0 0)])).toList (aW.map fun p=>(p.1,aq F p.2))):=qg OH (by kernel_rfl) OI ax
@[simp] theorem PU{r:List bz}{F:Fr}{H:ab}{Q:Fr->ab->Prop}(d:Nat)(aW:List (Nat×Operand))(ax:ba (dB d 113 aW::r) Q):a_ prog (dB d 113 aW::r) Q ax F H=fT (fun out=>a_ prog r Q .mk (a4 F d (.agg out.toArray)) H) .mk (kg [(0,4),(4,1)] (Value.cells (.agg #[(.bool false),(.slice none 0 0),(.bool false),(.slice none 0 0),(.slice none 0 0)])).toList (aW.map fun p=>(p.1,aq F p.2))):=qg BG (by kernel_rfl) OJ ax
@[simp] theorem afB{r:List bz}{F:Fr}{H:ab}{Q:Fr->ab->Prop}(d:Nat)(aW:List (Nat×Operand))(ax:ba (dB d 80 aW::r) Q):a_ prog (dB d 80 aW::r) Q ax F H=fT (fun out=>a_ prog r Q .mk (a4 F d (.agg out.toArray)) H) .mk (kg [(0,2),(2,2)] (Value.cells (.agg #[(.bool false),(.slice none 0 0),(.bool false),(.slice none 0 0)])).toList (aW.map fun p=>(p.1,aq F p.2))):=qg BD (by kernel_rfl) OK ax
@[simp] theorem af5{r:List bz}{F:Fr}{H:ab}{Q:Fr->ab->Prop}(d:Nat)(x:Operand)(J:isInt (aq F x)=true)(ax:ba (ch d 3 142 x::r) Q):a_ prog (ch d 3 142 x::r) Q ax F H=a_ prog r Q .mk (a4 F d (.int .u64 (IntKind.u64.wrap (intOf (aq F x))))) H:=nu te yx J ax
@[simp] theorem af3{r:List bz}{F:Fr}{H:ab}{Q:Fr->ab->Prop}(d:Nat)(x:Operand)(J:isInt (aq F x)=true)(ax:ba (ch d 142 3 x::r) Q):a_ prog (ch d 142 3 x::r) Q ax F H=a_ prog r Q .mk (a4 F d (.int .i64 (IntKind.i64.wrap (intOf (aq F x))))) H:=nu yx te J ax
@[simp] theorem af1{r:List bz}{F:Fr}{H:ab}{Q:Fr->ab->Prop}(d:Nat)(x:Operand)(J:isInt (aq F x)=true)(ax:ba (ch d 124 5 x::r) Q):a_ prog (ch d 124 5 x::r) Q ax F H=a_ prog r Q .mk (a4 F d (.int .u8 (IntKind.u8.wrap (intOf (aq F x))))) H:=nu tf yy J ax
@[simp] theorem af4{r:List bz}{F:Fr}{H:ab}{Q:Fr->ab->Prop}(d:Nat)(x:Operand)(J:isInt (aq F x)=true)(ax:ba (ch d 3 123 x::r) Q):a_ prog (ch d 3 123 x::r) Q ax F H=a_ prog r Q .mk (a4 F d (.int .u64 (IntKind.u64.wrap (intOf (aq F x))))) H:=nu te yw J ax
@[simp] theorem afX{r:List bz}{F:Fr}{H:ab}{Q:Fr->ab->Prop}(d:Nat)(x:Operand)(J:isInt (aq F x)=true)(ax:ba (ch d 123 124 x::r) Q):a_ prog (ch d 123 124 x::r) Q ax F H=a_ prog r Q .mk (a4 F d (.int .u32 (IntKind.u32.wrap (intOf (aq F x))))) H:=nu yw tf J ax
@[simp] theorem af2{r:List bz}{F:Fr}{H:ab}{Q:Fr->ab->Prop}(d:Nat)(x:Operand)(J:isInt (aq F x)=true)(ax:ba (ch d 142 124 x::r) Q):a_ prog (ch d 142 124 x::r) Q ax F H=a_ prog r Q .mk (a4 F d (.int .u32 (IntKind.u32.wrap (intOf (aq F x))))) H:=nu yx tf J ax
@[simp] theorem af0{r:List bz}{F:Fr}{H:ab}{Q:Fr->ab->Prop}(d:Nat)(x:Operand)(J:isInt (aq F x)=true)(ax:ba (ch d 124 142 x::r) Q):a_ prog (ch d 124 142 x::r) Q ax F H=a_ prog r Q .mk (a4 F d (.int .u64 (IntKind.u64.wrap (intOf (aq F x))))) H:=nu tf yx J ax
@[simp] theorem afA{r:List bz}{F:Fr}{H:ab}{Q:Fr->ab->Prop}(d:Nat)(aW:List (Nat×Operand))(ax:ba (dB d 78 aW::r) Q):a_ prog (dB d 78 aW::r) Q ax F H=fT (fun out=>a_ prog r Q .mk (a4 F d (.agg out.toArray)) H) .mk (kg [(0,1),(1,1)] (Value.cells (.agg #[(.bool false),(.slice none 0 0)])).toList (aW.map fun p=>(p.1,aq F p.2))):=qg Bz (by kernel_rfl) OL ax
@[simp] theorem af7{r:List bz}{F:Fr}{H:ab}{Q:Fr->ab->Prop}(d:Nat)(x:Operand)(J:isInt (aq F x)=true)(ax:ba (ch d 5 124 x::r) Q):a_ prog (ch d 5 124 x::r) Q ax F H=a_ prog r Q .mk (a4 F d (.int .u32 (IntKind.u32.wrap (intOf (aq F x))))) H:=nu yy tf J ax
theorem adA:Whole prog 78 (.agg #[(.bool false),(.slice none 0 0)]):=⟨by kernel_rfl,by kernel_rfl,(by rw[if_pos (by rfl)];kernel_rfl)⟩
@[simp] theorem akp{F G:Fr}{H:ab}{r:List gX}{Q:Fr->Fr->ab->Prop}(c:Nat)(ax:ba (.bL c 78::r) Q):eb prog (.bL c 78::r) Q ax F G H=eb prog r Q .mk (a4 F c (.pointer (some ⟨H.length,0,none⟩))) (a4 G c (.agg #[(.bool false),(.slice none 0 0)])) (H++[.dead]):=rM Bz (by kernel_rfl) adA ax
theorem XL:gn 31 29 G7:=fs Tryz.f31
theorem Xd:gn 36 5 GY:=fs Tryz.f36
theorem XD:gn 48 6 G5:=fs Tryz.f48
theorem XF:gn 49 8 G6:=fs Tryz.f49
theorem Xh:gn 59 7 G0:=fs Tryz.f59
theorem XP:gn 61 9 G_:=fs Tryz.f61
theorem XM:gn 62 15 G8:=fs Tryz.f62
theorem XQ:gn 63 9 Ha:=fs Tryz.f63
theorem XN:gn 64 9 G9:=fs Tryz.f64
theorem W1:gn 66 16 GR:=fs Tryz.f66
theorem WZ:gn 67 9 GQ:=fs Tryz.f67
theorem Xe:gn 75 6 GZ:=fs Tryz.f75
theorem Xa:gn 79 16 GX:=fs Tryz.f79
theorem W7:gn 88 20 GW:=fs Tryz.f88
theorem XS:gn 90 19 Hb:=fs Tryz.f90
theorem XT:gn 91 19 Hc:=fs Tryz.f91
theorem Xm:gn 92 13 G2:=fs Tryz.f92
theorem Xs:gn 93 68 B4:=fs Tryz.f93
theorem W6:gn 94 9 GV:=fs Tryz.f94
theorem W4:gn 95 11 GU:=fs Tryz.f95
theorem Xj:gn 101 41 G1:=fs Tryz.f101
theorem WX:gn 104 6 GO:=fs Tryz.f104
theorem WY:gn 105 42 GP:=fs Tryz.f105
theorem Xi:gn 107 44 B2:=fs Tryz.f107
theorem Xt:gn 110 21 G4:=fs Tryz.f110
theorem W2:gn 113 9 GS:=fs Tryz.f113
theorem Xp:gn 116 54 G3:=fs Tryz.f116
theorem Xn:gn 118 41 B3:=fs Tryz.f118
theorem WM:gn 122 22 GM:=fs Tryz.f122
theorem WS:gn 127 25 GN:=fs Tryz.f127
theorem WT:cU 6 5 HE:=c2 Tryz.f6 [(5,56)]
theorem Xw:cU 9 6 HZ:=c2 Tryz.f9 [(6,74),(7,80),(9,80)]
theorem Xy:cU 10 12 H2:=c2 Tryz.f10 []
theorem WV:cU 12 57 HG:=c2 Tryz.f12 []
theorem Ws:cU 17 2 Hh:=c2 Tryz.f17 [(2,42),(3,42)]
theorem Xv:cU 18 2 HY:=c2 Tryz.f18 [(2,42),(3,42)]
theorem WE:cU 19 2 Ht:=c2 Tryz.f19 [(2,42)]
theorem Xx:cU 20 6 H0:=c2 Tryz.f20 [(6,74),(7,74),(8,80)]
theorem Wz:cU 23 2 Ho:=c2 Tryz.f23 [(2,42),(3,42)]
theorem WW:cU 24 64 HH:=c2 Tryz.f24 []
theorem WD:cU 25 3 Hs:=c2 Tryz.f25 [(3,42)]
theorem Wq:cU 26 2 Hf:=c2 Tryz.f26 [(2,42),(3,42),(4,42)]
theorem XB:cU 32 2 H5:=c2 Tryz.f32 [(2,74)]
theorem XG:cU 33 1 H8:=c2 Tryz.f33 [(1,74),(2,80),(4,80),(7,80)]
theorem XK:cU 34 1 Ib:=c2 Tryz.f34 [(1,74),(2,74)]
theorem W_:cU 35 2 HN:=c2 Tryz.f35 [(2,80),(3,80)]
theorem W5:cU 37 1 HK:=c2 Tryz.f37 [(1,78)]
theorem XI:cU 38 1 H_:=c2 Tryz.f38 [(1,74),(6,113),(9,93)]
theorem WB:cU 41 1 Hq:=c2 Tryz.f41 [(1,40)]
theorem Ww:cU 43 1 Hl:=c2 Tryz.f43 [(1,42),(2,42),(3,40),(4,40),(5,40),(6,40),(7,40)]
theorem Wr:cU 44 2 Hg:=c2 Tryz.f44 [(2,40),(3,40)]
theorem Wx:cU 45 2 Hm:=c2 Tryz.f45 [(2,40),(3,40),(4,40)]
theorem Wv:cU 46 2 Hk:=c2 Tryz.f46 [(2,40),(3,40)]
theorem Xz:cU 47 6 H3:=c2 Tryz.f47 [(6,74),(7,80),(9,74),(10,80),(12,93),(13,80)]
theorem XH:cU 50 2 H9:=c2 Tryz.f50 [(2,74),(3,74),(8,80)]
theorem Xc:cU 51 1 HP:=c2 Tryz.f51 [(1,80)]
theorem Wo:cU 53 1 Hd:=c2 Tryz.f53 [(1,40),(2,40)]
theorem WA:cU 54 2 Hp:=c2 Tryz.f54 [(2,42),(8,40),(10,40),(11,40)]
theorem WU:cU 55 12 HF:=c2 Tryz.f55 []
theorem Wp:cU 56 2 He:=c2 Tryz.f56 [(2,40),(3,40),(4,40)]
theorem XC:cU 58 1 H6:=c2 Tryz.f58 [(1,74),(6,74),(11,80),(14,80)]
theorem XW:cU 60 48 Ii:=c2 Tryz.f60 []
theorem XE:cU 65 2 H7:=c2 Tryz.f65 [(2,74),(4,80),(5,80),(7,80)]
theorem XJ:cU 68 1 Ia:=c2 Tryz.f68 [(1,74),(2,74),(5,74),(6,80),(8,80)]
theorem Wu:cU 69 2 Hj:=c2 Tryz.f69 [(2,40),(3,40),(4,40),(5,40),(6,40)]
theorem Wt:cU 70 2 Hi:=c2 Tryz.f70 [(2,40),(3,40),(4,40),(5,40),(12,40),(13,40)]
theorem WC:cU 71 2 Hr:=c2 Tryz.f71 [(2,40),(3,40),(4,40)]
theorem WH:cU 72 1 Hv:=c2 Tryz.f72 [(1,40),(2,40)]
theorem XV:cU 73 48 Ih:=c2 Tryz.f73 []
theorem W8:cU 74 2 HL:=c2 Tryz.f74 [(2,80),(13,80)]
theorem XR:cU 76 9 Ie:=c2 Tryz.f76 []
theorem W9:cU 77 2 HM:=c2 Tryz.f77 [(2,80),(3,80),(4,80)]
theorem Xr:cU 78 45 HW:=c2 Tryz.f78 []
theorem WG:cU 80 2 Hu:=c2 Tryz.f80 [(2,40),(4,40)]
theorem Wy:cU 81 1 Hn:=c2 Tryz.f81 [(1,40),(2,40)]
theorem WJ:cU 82 55 Hx:=c2 Tryz.f82 []
theorem WK:cU 83 41 Hy:=c2 Tryz.f83 []
theorem WI:cU 84 41 Hw:=c2 Tryz.f84 []
theorem XO:cU 85 8 Ic:=c2 Tryz.f85 []
theorem XA:cU 86 69 H4:=c2 Tryz.f86 []
theorem Xf:cU 87 2 HQ:=c2 Tryz.f87 [(2,80),(3,80),(4,80)]
theorem WQ:cU 89 30 HC:=c2 Tryz.f89 []
theorem XX:cU 96 48 Ij:=c2 Tryz.f96 []
theorem WL:cU 97 12 Hz:=c2 Tryz.f97 []
theorem XZ:cU 98 13 Il:=c2 Tryz.f98 []
theorem X0:cU 99 11 Im:=c2 Tryz.f99 []
theorem Xq:cU 100 77 HV:=c2 Tryz.f100 []
theorem W0:cU 102 2 HI:=c2 Tryz.f102 [(2,78),(3,78),(4,78)]
theorem XU:cU 103 19 Ig:=c2 Tryz.f103 []
theorem Xg:cU 106 2 HR:=c2 Tryz.f106 [(2,78),(3,78),(4,80),(5,78),(6,78),(7,78),(8,78),(9,78)]
theorem XY:cU 108 28 Ik:=c2 Tryz.f108 []
theorem Xb:cU 109 1 HO:=c2 Tryz.f109 [(1,80),(2,80)]
theorem WR:cU 112 51 HD:=c2 Tryz.f112 []
theorem X1:cU 114 23 Io:=c2 Tryz.f114 []
theorem X2:cU 115 15 Ip:=c2 Tryz.f115 []
theorem Xo:cU 117 85 HU:=c2 Tryz.f117 []
theorem W3:cU 119 2 HJ:=c2 Tryz.f119 [(2,78),(3,78),(4,78),(5,78),(8,78),(9,78)]
theorem X4:cU 120 143 Ir:=c2 Tryz.f120 []
theorem X3:cU 121 18 Iq:=c2 Tryz.f121 []
theorem WN:cU 123 6 HA:=c2 Tryz.f123 []
theorem Xu:cU 124 41 HX:=c2 Tryz.f124 []
theorem Xk:cU 125 162 HS:=c2 Tryz.f125 []
theorem Xl:cU 126 45 HT:=c2 Tryz.f126 []
theorem X5:cU 128 8 Is:=c2 Tryz.f128 []
theorem WO:cU 132 19 HB:=c2 Tryz.f132 []
end Go.cJ
end
