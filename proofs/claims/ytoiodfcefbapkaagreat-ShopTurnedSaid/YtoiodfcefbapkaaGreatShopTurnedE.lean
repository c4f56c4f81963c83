/- Part of the proof of ShopTurned. -/
import Derived.Test.YtoiodfcefbapkaaGreatShopTurnedD
set_option linter.unusedVariables false
set_option linter.unusedSimpArgs false
section
set_option maxRecDepth 100000
namespace Go.cW
open Go.Proofs
open Go.Proofs.Tryz (prog)
abbrev cZ(f n:Nat)(z:cL):Prop:=∀{args:List Value} {H:ab} {Q:Value->ab->Prop},args.length<=n->ca prog z.code (yt z.results Q) .mk (jx args) (fun _=>undef) H->aP prog f args H Q
theorem c3{f n:Nat}{z:cL}(fn:Func)(C:Cells)(az:prog.funcs[f]?=some fn:=by kernel_rfl)(aG:(fn.name== "runtime.NumGoroutine")=false:=by kernel_rfl)(ae:comp prog fn=some z.back:=by kernel_rfl)(aN:(kA prog C z.code&&ts C z.results)=true:=by kernel_rfl)(hm:Nat.ble n fn.ntmps=true:=by kernel_rfl)(wK:(C.all fun p=>decide (n<=p.1))=true:=by kernel_rfl):cZ f n z:=
 fun ar h=>aP.ae8 az aG ae aN (Nat.le_trans ar (Nat.le_of_ble_eq_true hm)) (QD ar wK) h
abbrev gl(f n:Nat)(z:fq):Prop:=∀{args:List Value} {H:ab} {Q:Value->ab->Prop},args.length<=n->g1 prog z.code (qb prog z.results Q) .mk (jx args) H->aP prog f args H Q
theorem fl{f n:Nat}{z:fq}(fn:Func)(az:prog.funcs[f]?=some fn:=by kernel_rfl)(aG:(fn.name== "runtime.NumGoroutine")=false:=by kernel_rfl)(ae:comp prog fn=some z:=by kernel_rfl)(hm:Nat.ble n fn.ntmps=true:=by kernel_rfl):gl f n z:=
 fun ar h=>aP.Yt az aG ae (Nat.le_trans ar (Nat.le_of_ble_eq_true hm)) h
def Hm:fq:=⟨.seq (.ops [cm 1 22 (T 0),aj 2 (C (.bool false))])
 (.seq (.seq (.ops [aF 3 22 (T 1),bA 4 22 (T 3),bi 5 .lss 3 (T 4) (ai 1),I 6 (T 5),aL 6 false (aF 7 22 (T 1)),aL 6 false (bA 8 22 (T 7)),
  aL 6 false (bi 9 .gtr 3 (T 8) (ai 8)),cO 10 (T 6) (C (.bool true)) (T 9),I 11 (T 10),aL 11 false (aF 12 22 (T 1)),
  aL 11 false (bn 13 22 (T 12) (ai 0)),aL 11 false (aF 14 34 (T 13)),aL 11 false (bA 15 34 (T 14)),aL 11 false (bi 16 .lss 3 (T 15) (ai 1)),
  (cO 17 (T 11) (C (.bool true)) (T 16)),I 18 (T 17),aL 18 false (aF 19 22 (T 1)),aL 18 false (bn 20 22 (T 19) (ai 0)),
  aL 18 false (aF 21 34 (T 20)),aL 18 false (bA 22 34 (T 21)),aL 18 false (bi 23 .gtr 3 (T 22) (ai 8)),cO 24 (T 18) (C (.bool true)) (T 23)])
 (.cond (T 24) (.seq (.ops [aj 2 (C (.bool false))])
 (.ret))
 (.skip)))
 (.seq (.ops [aF 25 22 (T 1),vn 26 (.func 62) #[] #[T 1],aS 27 61 [T 25,T 26],un 28 .not (T 27),aj 2 (T 28)])
 (.ret))),[.tmp 2]⟩
def Hc:fq:=⟨.seq (.ops [cm 1 80 (T 0),bL 2 78])
 (.seq (.ops [a9 3 80 (T 1) 0,aF 4 78 (T 3),st 78 (T 2) (T 4)])
 (.ret)),[.cell 2 78]⟩
def Hj:fq:=⟨.seq (.ops [aj 6 (C (.bool false))])
 (.seq (.ops [I 7 (T 0),I 8 (T 1),bi 9 .geq 3 (T 7) (T 8),I 10 (T 9),aL 10 true (I 11 (T 0)),aL 10 true (I 12 (T 2)),
  aL 10 true (bi 13 .leq 3 (T 11) (T 12)),cO 14 (T 10) (T 13) (C (.bool false)),aj 6 (T 14)])
 (.ret)),[.tmp 6]⟩
def Hk:fq:=⟨.seq (.ops [cm 1 74 (T 0),aj 2 (ai 0)])
 (.seq (.ops [a9 3 74 (T 1) 0,aF 4 72 (T 3),bA 5 72 (T 4),aj 2 (T 5)])
 (.ret)),[.tmp 2]⟩
def Hl:fq:=⟨.seq (.ops [cm 1 74 (T 0),aj 2 (ai 0)])
 (.seq (.ops [a9 3 74 (T 1) 0,aF 4 72 (T 3),bn 5 72 (T 4) (ai 0),aF 6 120 (T 5),bA 7 120 (T 6),aj 2 (T 7)])
 (.ret)),[.tmp 2]⟩
def He:fq:=⟨.seq (.ops [bL 2 80])
 (.seq (.ops [I 3 (T 0),aS 4 88 [T 3],aS 5 88 [ai 1],dC 6 80 [(0,T 4),(1,T 5)],st 80 (T 2) (T 6)])
 (.ret)),[.cell 2 80]⟩
def Hp:fq:=⟨.seq (.ops [aj 4 (C (.bool false))])
 (.seq (.ops [I 5 (T 0),I 6 (T 1),aS 7 90 [T 5,T 6],bi 8 .geq 3 (T 7) (ai 0),aj 4 (T 8)])
 (.ret)),[.tmp 4]⟩
def Hn:fq:=⟨.seq (.ops [aj 3 (C (.bool false))])
 (.seq (.ops [I 4 (T 0),bA 5 34 (T 4),aF 6 22 (T 1),bn 7 22 (T 6) (ai 0),aF 8 34 (T 7),bA 9 34 (T 8),bi 10 .neq 3 (T 5) (T 9),I 11 (T 10),
  aL 11 false (I 12 (T 0)),aL 11 false (aS 13 63 [T 12,GI 64]),cO 14 (T 11) (C (.bool true)) (T 13),aj 3 (T 14)])
 (.ret)),[.tmp 3]⟩
def Hq:fq:=⟨.seq (.ops [aj 4 (C (.bool false))])
 (.seq (.ops [I 5 (T 0),I 6 (T 1),aS 7 91 [T 5,T 6],bi 8 .geq 3 (T 7) (ai 0),aj 4 (T 8)])
 (.ret)),[.tmp 4]⟩
def Ho:fq:=⟨.seq (.ops [aj 2 (C (.bool false))])
 (.seq (.ops [I 3 (T 0),bi 4 .lss 3 (T 3) (ai 0),I 5 (T 4),aL 5 false (I 6 (T 0)),aL 5 false (bi 7 .gtr 3 (T 6) (ai 1000)),
  (cO 8 (T 5) (C (.bool true)) (T 7)),aj 2 (T 8)])
 (.ret)),[.tmp 2]⟩
def G7:fq:=⟨.seq (.ops [cm 2 78 (T 0),cm 3 78 (T 1),bL 4 78])
 (.seq (.ops [a9 5 78 (T 2) 0,aF 6 4 (T 5),a9 7 78 (T 3) 0,aF 8 4 (T 7),bi 9 .neq 4 (T 6) (T 8),a9 10 78 (T 2) 1,aF 11 76 (T 10),
  (a9 12 78 (T 3) 1),aF 13 76 (T 12),bh (aS 14 93 [T 11,T 13]),aS 15 92 [T 9,T 14],st 78 (T 4) (T 15)])
 (.ret)),[.cell 4 78]⟩
def G6:fq:=⟨.seq (.ops [cm 2 78 (T 0),cm 3 78 (T 1),aj 4 (ai 0)])
 (.seq (.ops [aF 5 78 (T 2),aF 6 78 (T 3),aS 7 94 [T 5,T 6],aS 8 95 [T 7],aj 4 (T 8)])
 (.ret)),[.tmp 4]⟩
def Hd:fq:=⟨.seq (.ops [cm 1 80 (T 0),aj 2 (ai 0)])
 (.seq (.ops [a9 3 80 (T 1) 0,aF 4 78 (T 3),aS 5 95 [T 4],aj 2 (T 5)])
 (.ret)),[.tmp 2]⟩
def Hb:fq:=⟨.seq (.ops [cm 1 80 (T 0),aj 2 (C (.bool false))])
 (.seq (.ops [a9 3 80 (T 1) 1,a9 4 78 (T 3) 1,aF 5 76 (T 4),bA 6 76 (T 5),bi 7 .eql 3 (T 6) (ai 1),I 8 (T 7),aL 8 true (a9 9 80 (T 1) 1),
  aL 8 true (a9 10 78 (T 9) 1),aL 8 true (aF 11 76 (T 10)),aL 8 true (bn 12 76 (T 11) (ai 0)),aL 8 true (aF 13 124 (T 12)),
  aL 8 true ((bi 14 .eql 124 (T 13) (C (.int .u32 1)))),cO 15 (T 8) (T 14) (C (.bool false)),aj 2 (T 15)])
 (.ret)),[.tmp 2]⟩
def Ha:fq:=⟨.seq (.ops [bL 2 78])
 (.seq (.ops [I 4 (T 0),ch 5 3 123 (T 4),aj 3 (T 5)])
 (.seq (.seq (.ops [I 6 (T 0),bi 7 .lss 3 (T 6) (ai 0)])
 (.cond (T 7) (.ops [I 8 (T 3),un 9 .neg (T 8),aj 3 (T 9)])
 (.skip)))
 (.seq (.ops [I 10 (T 0),bi 11 .lss 3 (T 10) (ai 0),I 12 (T 3),ch 13 123 124 (T 12),I 14 (T 3),bi 15 .shr 123 (T 14) (C (.int .u64 32)),
  (ch 16 123 124 (T 15)),eF 17 76 2 [(0,T 13),(1,T 16)],aS 18 110 [T 17],aS 19 92 [T 11,T 18],st 78 (T 2) (T 19)])
 (.ret)))),[.cell 2 78]⟩
def Hr:fq:=⟨.seq (.ops [aj 4 (ai 0)])
 (.seq (.seq (.ops [I 6 (T 0),bA 7 22 (T 6),I 8 (ai 0)])
 (.block 0 (.loop (.seq (.ops [bi 9 .lss 3 (T 8) (T 7)])
 (.seq (.cond (T 9) (.skip)
 (.exit 0))
 (.seq (.block 1 (.seq (.ops [I 10 (T 8),aj 5 (T 10)])
 (.seq (.ops [I 11 (T 1),I 12 (T 0),I 13 (T 5),bn 14 22 (T 12) (T 13),aF 15 34 (T 14),nO 16 (T 11) [T 15]])
 (.cond (T 16) (.seq (.ops [I 17 (T 5),aj 4 (T 17)])
 (.ret))
 (.skip)))))
 (.ops [bi 18 .add 3 (T 8) (ai 1),I 8 (T 18)])))))))
 (.seq (.ops [aj 4 (ai (-1))])
 (.ret))),[.tmp 4]⟩
def Hs:fq:=⟨.seq (.ops [aj 4 (ai 0)])
 (.seq (.seq (.ops [I 6 (T 0),bA 7 34 (T 6),I 8 (ai 0)])
 (.block 0 (.loop (.seq (.ops [bi 9 .lss 3 (T 8) (T 7)])
 (.seq (.cond (T 9) (.skip)
 (.exit 0))
 (.seq (.block 1 (.seq (.ops [I 10 (T 8),aj 5 (T 10)])
 (.seq (.ops [I 11 (T 1),I 12 (T 0),I 13 (T 5),bn 14 34 (T 12) (T 13),aF 15 3 (T 14),nO 16 (T 11) [T 15]])
 (.cond (T 16) (.seq (.ops [I 17 (T 5),aj 4 (T 17)])
 (.ret))
 (.skip)))))
 (.ops [bi 18 .add 3 (T 8) (ai 1),I 8 (T 18)])))))))
 (.seq (.ops [aj 4 (ai (-1))])
 (.ret))),[.tmp 4]⟩
def Hg:fq:=⟨.seq (.ops [bL 4 78])
 (.seq (.ops [I 5 (T 0),I 6 (T 5),aL 6 true (I 7 (T 1)),aL 6 true (bA 8 76 (T 7)),aL 6 true (bi 9 .gtr 3 (T 8) (ai 0)),
  (cO 10 (T 6) (T 9) (C (.bool false))),I 11 (T 1),dC 12 78 [(0,T 10),(1,T 11)],st 78 (T 4) (T 12)])
 (.ret)),[.cell 4 78]⟩
def Ct:fq:=⟨.seq (.ops [aj 4 (C (.slice none 0 0))])
 (.seq (.ops [I 12 (T 0),bA 13 76 (T 12),I 14 (T 1),bA 15 76 (T 14),bi 16 .add 3 (T 13) (T 15),ms 17 76 (T 16) (T 16),aj 5 (T 17)])
 (.seq (.seq (.ops [I 18 (T 0),bA 19 76 (T 18),I 20 (ai 0)])
 (.block 0 (.loop (.seq (.ops [bi 21 .lss 3 (T 20) (T 19)])
 (.seq (.cond (T 21) (.skip)
 (.exit 0))
 (.seq (.block 1 (.seq (.ops [I 22 (T 20),bn 23 76 (T 18) (T 20),aF 24 124 (T 23),aj 6 (T 22),aj 7 (T 24)])
 (.seq (.ops [aj 8 (C (.int .u64 0))])
 (.seq (.seq (.ops [I 25 (T 1),bA 26 76 (T 25),I 27 (ai 0)])
 (.block 2 (.loop (.seq (.ops [bi 28 .lss 3 (T 27) (T 26)])
 (.seq (.cond (T 28) (.skip)
 (.exit 2))
 (.seq (.block 3 (.seq (.ops [I 29 (T 27),bn 30 76 (T 25) (T 27),aF 31 124 (T 30),aj 9 (T 29),aj 10 (T 31)])
 (.seq (.ops [I 32 (T 7),ch 33 124 123 (T 32),I 34 (T 10),ch 35 124 123 (T 34),bi 36 .mul 123 (T 33) (T 35),I 37 (T 5),I 38 (T 6),
  (I 39 (T 9)),bi 40 .add 3 (T 38) (T 39),bn 41 76 (T 37) (T 40),aF 42 124 (T 41),ch 43 124 123 (T 42),bi 44 .add 123 (T 36) (T 43),
  (I 45 (T 8)),bi 46 .add 123 (T 44) (T 45),aj 11 (T 46)])
 (.ops [I 47 (T 5),I 48 (T 6),I 49 (T 9),bi 50 .add 3 (T 48) (T 49),I 51 (T 11),ch 52 123 124 (T 51),I 53 (T 11),
  (bi 54 .shr 123 (T 53) (C (.int .u64 32))),bn 55 76 (T 47) (T 50),st 124 (T 55) (T 52),aj 8 (T 54)]))))
 (.ops [bi 56 .add 3 (T 27) (ai 1),I 27 (T 56)])))))))
 (.ops [I 57 (T 5),I 58 (T 6),I 59 (T 1),bA 60 76 (T 59),bi 61 .add 3 (T 58) (T 60),I 62 (T 8),ch 63 123 124 (T 62),
  (bn 64 76 (T 57) (T 61)),st 124 (T 64) (T 63)])))))
 (.ops [bi 65 .add 3 (T 20) (ai 1),I 20 (T 65)])))))))
 (.seq (.ops [I 66 (T 5),aS 67 110 [T 66],aj 4 (T 67)])
 (.ret)))),[.tmp 4]⟩
def G_:fq:=⟨.seq (.ops [cm 2 78 (T 0),cm 3 78 (T 1),bL 4 78])
 (.seq (.ops [aF 5 78 (T 2),aF 6 78 (T 3),bh (aS 7 113 [T 6]),aS 8 105 [T 5,T 7],st 78 (T 4) (T 8)])
 (.ret)),[.cell 4 78]⟩
def G9:fq:=⟨.seq (.ops [cm 1 78 (T 0),aj 2 (ai 0)])
 (.seq (.block 0 (.seq (.ops [a9 4 78 (T 1) 1,aF 5 76 (T 4),bA 6 76 (T 5),bi 7 .eql 3 (T 6) (ai 0),aj 3 (T 7)])
 (.cond (T 3) (.seq (.ops [aj 2 (ai 0)])
 (.ret))
 (.seq (.ops [a9 9 78 (T 1) 0,aF 10 4 (T 9),aj 8 (T 10)])
 (.cond (T 8) (.seq (.ops [aj 2 (ai (-1))])
 (.ret))
 (.skip))))))
 (.seq (.ops [aj 2 (ai 1)])
 (.ret))),[.tmp 2]⟩
def Hf:fq:=⟨.seq (.ops [aj 4 (ai 0)])
 (.seq (.seq (.ops [I 6 (T 0),bA 7 76 (T 6),I 8 (T 1),bA 9 76 (T 8),bi 10 .neq 3 (T 7) (T 9)])
 (.cond (T 10) (.seq (.seq (.ops [I 11 (T 0),bA 12 76 (T 11),I 13 (T 1),bA 14 76 (T 13),bi 15 .lss 3 (T 12) (T 14)])
 (.cond (T 15) (.seq (.ops [aj 4 (ai (-1))])
 (.ret))
 (.skip)))
 (.seq (.ops [aj 4 (ai 1)])
 (.ret)))
 (.skip)))
 (.seq (.seq (.ops [I 16 (T 0),bA 17 76 (T 16),bi 18 .sub 3 (T 17) (ai 1),aj 5 (T 18)])
 (.block 0 (.loop (.seq (.seq (.ops [I 19 (T 5),bi 20 .geq 3 (T 19) (ai 0)])
 (.cond (T 20) (.skip)
 (.exit 0)))
 (.seq (.block 1 (.seq (.ops [I 23 (T 0),I 24 (T 5),bn 25 76 (T 23) (T 24),aF 26 124 (T 25),I 27 (T 1),I 28 (T 5),bn 29 76 (T 27) (T 28),aF 30 124 (T 29),
  (bi 31 .neq 124 (T 26) (T 30))])
 (.cond (T 31) (.seq (.seq (.ops [I 32 (T 0),I 33 (T 5),bn 34 76 (T 32) (T 33),aF 35 124 (T 34),I 36 (T 1),I 37 (T 5),bn 38 76 (T 36) (T 37),aF 39 124 (T 38),
  (bi 40 .lss 124 (T 35) (T 39))])
 (.cond (T 40) (.seq (.ops [aj 4 (ai (-1))])
 (.ret))
 (.skip)))
 (.seq (.ops [aj 4 (ai 1)])
 (.ret)))
 (.skip))))
 (.ops [I 21 (T 5),bi 22 .sub 3 (T 21) (ai 1),aj 5 (T 22)]))))))
 (.seq (.ops [aj 4 (ai 0)])
 (.ret)))),[.tmp 4]⟩
def G4:fq:=⟨.seq (.ops [cm 1 78 (T 0),bL 2 80])
 (.seq (.ops [aF 3 78 (T 1),bh (aS 4 88 [ai 1]),dC 5 80 [(0,T 3),(1,T 4)],st 80 (T 2) (T 5)])
 (.ret)),[.cell 2 80]⟩
def G5:fq:=⟨.seq (.ops [cm 2 78 (T 0),cm 3 78 (T 1),bL 4 78])
 (.seq (.block 0 (.seq (.ops [a9 6 78 (T 2) 0,aF 7 4 (T 6),a9 8 78 (T 3) 0,aF 9 4 (T 8),bi 10 .eql 4 (T 7) (T 9),aj 5 (T 10)])
 (.cond (T 5) (.seq (.ops [a9 11 78 (T 2) 0,aF 12 4 (T 11),a9 13 78 (T 2) 1,aF 14 76 (T 13),a9 15 78 (T 3) 1,aF 16 76 (T 15),bh (aS 17 116 [T 14,T 16]),
  (aS 18 92 [T 12,T 17]),st 78 (T 4) (T 18)])
 (.ret))
 (.seq (.ops [a9 20 78 (T 2) 1,aF 21 76 (T 20),a9 22 78 (T 3) 1,aF 23 76 (T 22),aS 24 101 [T 21,T 23],bi 25 .geq 3 (T 24) (ai 0),aj 19 (T 25)])
 (.cond (T 19) (.seq (.ops [a9 26 78 (T 2) 0,aF 27 4 (T 26),a9 28 78 (T 2) 1,aF 29 76 (T 28),a9 30 78 (T 3) 1,aF 31 76 (T 30),bh (aS 32 118 [T 29,T 31]),
  (aS 33 92 [T 27,T 32]),st 78 (T 4) (T 33)])
 (.ret))
 (.skip))))))
 (.seq (.ops [a9 34 78 (T 3) 0,aF 35 4 (T 34),a9 36 78 (T 3) 1,aF 37 76 (T 36),a9 38 78 (T 2) 1,aF 39 76 (T 38),bh (aS 40 118 [T 37,T 39]),
  (aS 41 92 [T 35,T 40]),st 78 (T 4) (T 41)])
 (.ret))),[.cell 4 78]⟩
def Cr:fq:=⟨.seq (.ops [aj 4 (C (.slice none 0 0)),aj 5 (C (.int .u32 0))])
 (.seq (.ops [I 10 (T 0),bA 11 76 (T 10),ms 12 76 (T 11) (T 11),aj 6 (T 12)])
 (.seq (.ops [aj 7 (C (.int .u64 0))])
 (.seq (.seq (.ops [I 13 (T 0),bA 14 76 (T 13),bi 15 .sub 3 (T 14) (ai 1),aj 8 (T 15)])
 (.block 0 (.loop (.seq (.seq (.ops [I 16 (T 8),bi 17 .geq 3 (T 16) (ai 0)])
 (.cond (T 17) (.skip)
 (.exit 0)))
 (.seq (.block 1 (.seq (.ops [I 20 (T 7),bi 21 .shl 123 (T 20) (C (.int .u64 32)),I 22 (T 0),I 23 (T 8),bn 24 76 (T 22) (T 23),aF 25 124 (T 24),
  (ch 26 124 123 (T 25)),bi 27 .or 123 (T 21) (T 26),aj 9 (T 27)])
 (.ops [I 28 (T 6),I 29 (T 8),I 30 (T 9),I 31 (T 1),ch 32 124 123 (T 31),bi 33 .quo 123 (T 30) (T 32),ch 34 123 124 (T 33),
  (I 35 (T 9)),I 36 (T 1),ch 37 124 123 (T 36),bi 38 .rem 123 (T 35) (T 37),bn 39 76 (T 28) (T 29),st 124 (T 39) (T 34),aj 7 (T 38)])))
 (.ops [I 18 (T 8),bi 19 .sub 3 (T 18) (ai 1),aj 8 (T 19)]))))))
 (.seq (.ops [I 40 (T 6),aS 41 110 [T 40],I 42 (T 7),ch 43 123 124 (T 42),aj 4 (T 41),aj 5 (T 43)])
 (.ret))))),[.tmp 4,.tmp 5]⟩
def Hi:fq:=⟨.seq (.ops [aj 2 (C (.slice none 0 0))])
 (.seq (.block 0 (.loop (.seq (.seq (.ops [I 3 (T 0),bA 4 76 (T 3),bi 5 .gtr 3 (T 4) (ai 0),I 6 (T 5),aL 6 true (I 7 (T 0)),aL 6 true (I 8 (T 0)),aL 6 true (bA 9 76 (T 8)),
  aL 6 true (bi 10 .sub 3 (T 9) (ai 1)),aL 6 true (bn 11 76 (T 7) (T 10)),aL 6 true (aF 12 124 (T 11)),
  aL 6 true ((bi 13 .eql 124 (T 12) (C (.int .u32 0)))),cO 14 (T 6) (T 13) (C (.bool false))])
 (.cond (T 14) (.skip)
 (.exit 0)))
 (.block 1 (.ops [I 15 (T 0),I 16 (T 0),bA 17 76 (T 16),bi 18 .sub 3 (T 17) (ai 1),fG 19 76 (T 15) none (some (T 18)) none,aj 0 (T 19)])))))
 (.seq (.ops [I 20 (T 0),aj 2 (T 20)])
 (.ret))),[.tmp 2]⟩
def G8:fq:=⟨.seq (.ops [cm 1 78 (T 0),bL 2 78])
 (.seq (.ops [a9 3 78 (T 1) 0,aF 4 4 (T 3),un 5 .not (T 4),a9 6 78 (T 1) 1,aF 7 76 (T 6),aS 8 92 [T 5,T 7],st 78 (T 2) (T 8)])
 (.ret)),[.cell 2 78]⟩
def Hh:fq:=⟨.seq (.ops [aj 4 (C (.slice none 0 0))])
 (.seq (.seq (.ops [I 9 (T 0),bA 10 76 (T 9),I 11 (T 1),bA 12 76 (T 11),bi 13 .lss 3 (T 10) (T 12)])
 (.cond (T 13) (.ops [I 14 (T 1),I 15 (T 0),aj 0 (T 14),aj 1 (T 15)])
 (.skip)))
 (.seq (.ops [I 16 (T 0),bA 17 76 (T 16),bi 18 .add 3 (T 17) (ai 1),ms 19 76 (T 18) (T 18),aj 5 (T 19)])
 (.seq (.ops [aj 6 (C (.int .u32 0))])
 (.seq (.seq (.ops [I 20 (T 0),bA 21 76 (T 20),I 22 (ai 0)])
 (.block 0 (.loop (.seq (.ops [bi 23 .lss 3 (T 22) (T 21)])
 (.seq (.cond (T 23) (.skip)
 (.exit 0))
 (.seq (.block 1 (.seq (.ops [I 24 (T 22),aj 7 (T 24)])
 (.seq (.ops [aj 8 (C (.int .u32 0))])
 (.seq (.seq (.ops [I 25 (T 7),I 26 (T 1),bA 27 76 (T 26),bi 28 .lss 3 (T 25) (T 27)])
 (.cond (T 28) (.ops [I 29 (T 1),I 30 (T 7),bn 31 76 (T 29) (T 30),aF 32 124 (T 31),aj 8 (T 32)])
 (.skip)))
 (.ops [I 34 (T 5),I 35 (T 7),I 36 (T 0),I 37 (T 7),bn 38 76 (T 36) (T 37),aF 39 124 (T 38),I 40 (T 8),I 41 (T 6),
  (aS 42 122 [T 39,T 40,T 41]),I 33 (T 42),ex 43 (T 33) 0,ex 44 (T 33) 1,bn 45 76 (T 34) (T 35),st 124 (T 45) (T 43),
  (aj 6 (T 44))])))))
 (.ops [bi 46 .add 3 (T 22) (ai 1),I 22 (T 46)])))))))
 (.seq (.ops [I 47 (T 5),I 48 (T 0),bA 49 76 (T 48),I 50 (T 6),bn 51 76 (T 47) (T 49),st 124 (T 51) (T 50)])
 (.seq (.ops [I 52 (T 5),aS 53 110 [T 52],aj 4 (T 53)])
 (.ret))))))),[.tmp 4]⟩
def Cs:fq:=⟨.seq (.ops [aj 4 (C (.slice none 0 0))])
 (.seq (.ops [I 9 (T 0),bA 10 76 (T 9),ms 11 76 (T 10) (T 10),aj 5 (T 11)])
 (.seq (.ops [aj 6 (C (.int .u32 0))])
 (.seq (.seq (.ops [I 12 (T 0),bA 13 76 (T 12),I 14 (ai 0)])
 (.block 0 (.loop (.seq (.ops [bi 15 .lss 3 (T 14) (T 13)])
 (.seq (.cond (T 15) (.skip)
 (.exit 0))
 (.seq (.block 1 (.seq (.ops [I 16 (T 14),aj 7 (T 16)])
 (.seq (.ops [aj 8 (C (.int .u32 0))])
 (.seq (.seq (.ops [I 17 (T 7),I 18 (T 1),bA 19 76 (T 18),bi 20 .lss 3 (T 17) (T 19)])
 (.cond (T 20) (.ops [I 21 (T 1),I 22 (T 7),bn 23 76 (T 21) (T 22),aF 24 124 (T 23),aj 8 (T 24)])
 (.skip)))
 (.ops [I 26 (T 5),I 27 (T 7),I 28 (T 0),I 29 (T 7),bn 30 76 (T 28) (T 29),aF 31 124 (T 30),I 32 (T 8),I 33 (T 6),
  (aS 34 127 [T 31,T 32,T 33]),I 25 (T 34),ex 35 (T 25) 0,ex 36 (T 25) 1,bn 37 76 (T 26) (T 27),st 124 (T 37) (T 35),
  (aj 6 (T 36))])))))
 (.ops [bi 38 .add 3 (T 14) (ai 1),I 14 (T 38)])))))))
 (.seq (.ops [I 39 (T 5),aS 40 110 [T 39],aj 4 (T 40)])
 (.ret))))),[.tmp 4]⟩
def G2:fq:=⟨.seq (.ops [aj 6 (C (.int .u32 0)),aj 7 (C (.int .u32 0))])
 (.seq (.ops [I 9 (T 0),ch 10 124 123 (T 9),I 11 (T 1),ch 12 124 123 (T 11),bi 13 .add 123 (T 10) (T 12),I 14 (T 2),ch 15 124 123 (T 14),
  (bi 16 .add 123 (T 13) (T 15)),aj 8 (T 16)])
 (.seq (.ops [I 17 (T 8),ch 18 123 124 (T 17),aj 6 (T 18)])
 (.seq (.ops [I 19 (T 8),bi 20 .shr 123 (T 19) (C (.int .u64 32)),ch 21 123 124 (T 20),aj 7 (T 21)])
 (.ret)))),[.tmp 6,.tmp 7]⟩
def G3:fq:=⟨.seq (.ops [aj 6 (C (.int .u32 0)),aj 7 (C (.int .u32 0))])
 (.seq (.ops [I 8 (T 0),I 9 (T 1),bi 10 .sub 124 (T 8) (T 9),I 11 (T 2),bi 12 .sub 124 (T 10) (T 11),aj 6 (T 12)])
 (.seq (.ops [I 13 (T 0),un 14 .xor (T 13),I 15 (T 1),bi 16 .and 124 (T 14) (T 15),I 17 (T 0),I 18 (T 1),bi 19 .xor 124 (T 17) (T 18),
  (un 20 .xor (T 19)),I 21 (T 6),bi 22 .and 124 (T 20) (T 21),bi 23 .or 124 (T 16) (T 22),bi 24 .shr 124 (T 23) (C (.int .u64 31)),
  (aj 7 (T 24))])
 (.ret))),[.tmp 6,.tmp 7]⟩
def HU:cL:=⟨.seq (.ops [.xs [aj 6 (C (.bool false))]])
 (.seq (.ops [.xs [I 26 (T 0),I 27 (T 1),I 28 (T 2),aS 29 24 [T 26,T 27,T 28,ai 1000],aj 7 (T 29)]])
 (.seq (.ops [.xs [eF 30 22 0 [],aj 8 (T 30)]])
 (.seq (.seq (.ops [.xs [aj 9 (ai 0)]])
 (.block 0 (.loop 1152921502459367168 0 (.seq (.seq (.ops [.xs [I 31 (T 9),I 32 (T 7),bn 33 22 (T 32) (ai 0),aF 34 34 (T 33),bA 35 34 (T 34),bi 36 .lss 3 (T 31) (T 35)]])
 (.cond (T 36) (.skip)
 (.exit 0)))
 (.seq (.block 1 (.seq (.ops [.xs [eF 39 34 0 [],aj 10 (T 39)]])
 (.seq (.seq (.ops [.xs [aj 11 (ai 0)]])
 (.block 2 (.loop 72056494526303232 0 (.seq (.seq (.ops [.xs [I 40 (T 11),I 41 (T 7),bA 42 22 (T 41),bi 43 .lss 3 (T 40) (T 42)]])
 (.cond (T 43) (.skip)
 (.exit 2)))
 (.seq (.block 3 (.ops [.xs [I 46 (T 10),I 47 (T 7),I 48 (T 11),bn 49 22 (T 47) (T 48),aF 50 34 (T 49),I 51 (T 9),bn 52 34 (T 50) (T 51),aF 53 3 (T 52),eF 54 34 1 [(0,T 53)],ap 55 34 34 (T 46) (T 54),aj 10 (T 55)]]))
 (.ops [.xs [I 44 (T 11),bi 45 .add 3 (T 44) (ai 1),aj 11 (T 45)]]))))))
 (.ops [.xs [I 56 (T 8),I 57 (T 10),eF 58 22 1 [(0,T 57)],ap 59 22 22 (T 56) (T 58),aj 8 (T 59)]]))))
 (.ops [.xs [I 37 (T 9),bi 38 .add 3 (T 37) (ai 1),aj 9 (T 38)]]))))))
 (.seq (.ops [.xs [I 61 (T 7),aS 62 9 [T 61],I 60 (T 62),ex 63 (T 60) 0,ex 64 (T 60) 1,ex 65 (T 60) 2,ex 66 (T 60) 3,aj 12 (T 63),aj 13 (T 64),aj 14 (T 65),aj 15 (T 66)]])
 (.seq (.ops [.xs [I 68 (T 8),aS 69 9 [T 68],I 67 (T 69),ex 70 (T 67) 0,ex 71 (T 67) 1,ex 72 (T 67) 2,ex 73 (T 67) 3,aj 16 (T 70),aj 17 (T 71),aj 18 (T 72),aj 19 (T 73)]])
 (.seq (.ops [.xs [I 75 (T 8),aS 76 10 [T 75],I 74 (T 76),ex 77 (T 74) 0,ex 78 (T 74) 1,aj 20 (T 77),aj 21 (T 78)]])
 (.seq (.seq (.box 5316911983139059028705420926534025216 0 (.ops [.xs [I 79 (T 15),bi 80 .neq 24 (T 79) (ai 0),I 81 (T 80),aL 81 false (I 82 (T 19)),aL 81 false (bi 83 .neq 24 (T 82) (ai 0)),cO 84 (T 81) (C (.bool true)) (T 83),I 85 (T 84),aL 85 false (I 86 (T 21)),aL 85 false (bi 87 .neq 24 (T 86) (ai 0)),cO 88 (T 85) (C (.bool true)) (T 87),I 89 (T 88),aL 89 false (I 90 (T 12)),aL 89 false (I 91 (T 16)),aL 89 false (bi 92 .neq 3 (T 90) (T 91)),cO 93 (T 89) (C (.bool true)) (T 92),I 94 (T 93),aL 94 false (I 95 (T 20)),aL 94 false (I 96 (T 8)),aL 94 false (bA 97 22 (T 96)),aL 94 false (I 98 (T 7)),aL 94 false (bA 99 22 (T 98)),aL 94 false (aS 100 14 [T 95,T 97,T 99]),aL 94 false (un 101 .not (T 100)),cO 102 (T 94) (C (.bool true)) (T 101),I 103 (T 102),aL 103 false (I 104 (T 8)),aL 103 false (I 105 (T 20)),aL 103 false (eF 106 95 1 [(0,T 105)]),aL 103 false (aS 107 16 [T 104,T 106]),aL 103 false (un 108 .not (T 107)),cO 109 (T 103) (C (.bool true)) (T 108),I 110 (T 109),aL 110 false (I 111 (T 20)),aL 110 false (aS 112 18 [T 111]),aL 110 false (I 113 (T 12)),aL 110 false (aS 114 19 [T 113]),aL 110 false (aS 115 17 [T 112,T 114]),aL 110 false (bi 116 .neq 3 (T 115) (ai 0)),cO 117 (T 110) (C (.bool true)) (T 116),I 118 (T 117),aL 118 false (aS 119 12 []),aL 118 false (un 120 .not (T 119)),cO 121 (T 118) (C (.bool true)) (T 120)]]))
 (.cond (T 121) (.seq (.ops [.xs [aj 6 (C (.bool false))]])
 (.ret))
 (.skip)))
 (.seq (.seq (.ops [.xs [I 122 (T 7),bA 123 22 (T 122),bi 124 .eql 3 (T 123) (ai 1)]])
 (.cond (T 124) (.seq (.ops [.xs [aj 6 (C (.bool true))]])
 (.ret))
 (.skip)))
 (.seq (.ops [.xs [I 126 (T 7),fG 127 22 (T 126) (some (ai 1)) none none,aS 128 9 [T 127],I 125 (T 128),ex 129 (T 125) 0,ex 130 (T 125) 1,ex 131 (T 125) 2,ex 132 (T 125) 3,aj 22 (T 129),aj 23 (T 130),aj 24 (T 131),aj 25 (T 132)]])
 (.seq (.box 1382907539166693915515154404602706011357248 0 (.ops [.xs [I 133 (T 25),bi 134 .eql 24 (T 133) (ai 0),I 135 (T 134),aL 135 true (I 136 (T 22)),aL 135 true (I 137 (T 12)),aL 135 true (bi 138 .leq 3 (T 136) (T 137)),cO 139 (T 135) (T 138) (C (.bool false)),aj 6 (T 139)]]))
 (.ret))))))))))),[.tmp 6]⟩
def Ij:cL:=⟨.seq (.ops [.xs [aj 2 (ai 0),aj 3 (ai 0),aj 4 (ai 0),aj 5 (ai 0)]])
 (.seq (.seq (.ops [.xs [I 15 (T 0),aS 16 31 [T 15],un 17 .not (T 16)]])
 (.cond (T 17) (.seq (.ops [.xs [aj 2 (ai 0),aj 3 (ai 0),aj 4 (ai 0),aj 5 (ai 1)]])
 (.ret))
 (.skip)))
 (.seq (.ops [.xs [I 18 (T 0),aS 19 32 [T 18]],.bL 6 74,.bW true none 74 6 (T 19) 6])
 (.seq (.ops [.bT none 21 74 6 6,.xs [aS 22 33 [T 21],I 20 (T 22),ex 23 (T 20) 0,ex 24 (T 20) 1],.bL 7 80,.bW true none 80 7 (T 23) 7,
  .xs [aj 8 (T 24)]])
 (.seq (.ops [.bT none 26 74 6 6,.xs [aS 27 34 [T 26],aS 28 33 [T 27],I 25 (T 28),ex 29 (T 25) 0,ex 30 (T 25) 1],.bL 9 80,
  .bW true none 80 9 (T 29) 9,.xs [aj 10 (T 30)]])
 (.seq (.seq (.ops [.bT none 31 80 9 9,.bT none 32 80 7 7,.xs [aS 33 35 [T 31,T 32],bi 34 .gtr 3 (T 33) (ai 0)]])
 (.cond (T 34) (.seq (.ops [.bT none 36 80 9 9,.xs [aS 37 36 [T 36],aS 38 37 [T 37],I 35 (T 38),ex 39 (T 35) 0,ex 40 (T 35) 1,aj 11 (T 39),aj 12 (T 40)]])
 (.seq (.ops [.xs [I 41 (T 11),I 42 (T 10),aj 2 (T 41),aj 3 (ai 1),aj 4 (T 42),aj 5 (ai 0)]])
 (.ret)))
 (.skip)))
 (.seq (.ops [.bT none 44 80 7 7,.xs [aS 45 36 [T 44],aS 46 37 [T 45],I 43 (T 46),ex 47 (T 43) 0,ex 48 (T 43) 1,aj 13 (T 47),aj 14 (T 48)]])
 (.seq (.ops [.xs [I 49 (T 13),I 50 (T 8),aj 2 (T 49),aj 3 (ai 0),aj 4 (T 50),aj 5 (ai 0)]])
 (.ret)))))))),[.tmp 2,.tmp 3,.tmp 4,.tmp 5]⟩
def Il:cL:=⟨.seq (.ops [.xs [aj 2 (C (.slice none 0 0)),aj 3 (ai 0)]])
 (.seq (.seq (.ops [.xs [I 4 (T 0),aS 5 31 [T 4],un 6 .not (T 5)]])
 (.cond (T 6) (.seq (.ops [.xs [aj 2 (C (.slice none 0 0)),aj 3 (ai 1)]])
 (.ret))
 (.skip)))
 (.seq (.ops [.xs [I 7 (T 0),aS 8 32 [T 7],aS 9 38 [T 8],ex 10 (T 9) 0,ex 11 (T 9) 1,aj 2 (T 10),aj 3 (T 11)]])
 (.ret))),[.tmp 2,.tmp 3]⟩
def HW:cL:=⟨.seq (.ops [.xs [aj 0 (C (.bool false))]])
 (.seq (.ops [.xs [eF 10 34 2 [(0,ai 2),(1,ai 1)],eF 11 34 2 [(0,ai 1),(1,ai 2)],eF 12 22 2 [(0,T 10),(1,T 11)],aj 1 (T 12)]])
 (.seq (.ops [.xs [I 14 (T 1),aS 15 9 [T 14],I 13 (T 15),ex 16 (T 13) 0,ex 17 (T 13) 1,ex 18 (T 13) 2,ex 19 (T 13) 3,aj 2 (T 16),aj 3 (T 17),aj 4 (T 18),aj 5 (T 19)]])
 (.seq (.ops [.xs [I 21 (T 1),aS 22 10 [T 21],I 20 (T 22),ex 23 (T 20) 0,ex 24 (T 20) 1,aj 6 (T 23),aj 7 (T 24)]])
 (.seq (.ops [.xs [I 26 (T 1),I 27 (T 6),aS 28 20 [T 26,T 27],I 25 (T 28),ex 29 (T 25) 0,ex 30 (T 25) 1,aj 8 (T 29),aj 9 (T 30)]])
 (.seq (.box 144115185928372225 0 (.ops [.xs [I 31 (T 2),bi 32 .eql 3 (T 31) (ai 3),I 33 (T 32),aL 33 true (I 34 (T 3)),aL 33 true (bi 35 .eql 3 (T 34) (ai 0)),cO 36 (T 33) (T 35) (C (.bool false)),I 37 (T 36),aL 37 true (I 38 (T 4)),aL 37 true (bi 39 .eql 3 (T 38) (ai 0)),cO 40 (T 37) (T 39) (C (.bool false)),I 41 (T 40),aL 41 true (I 42 (T 5)),aL 41 true (bi 43 .eql 24 (T 42) (ai 0)),cO 44 (T 41) (T 43) (C (.bool false)),I 45 (T 44),aL 45 true (I 46 (T 7)),aL 45 true (bi 47 .eql 24 (T 46) (ai 0)),cO 48 (T 45) (T 47) (C (.bool false)),I 49 (T 48),aL 49 true (I 50 (T 8)),aL 49 true ((bi 51 .eql 45 (T 50) (C (.string {data:= #[51]})))),cO 52 (T 49) (T 51) (C (.bool false)),I 53 (T 52),aL 53 true (I 54 (T 9)),aL 53 true (bi 55 .eql 24 (T 54) (ai 0)),cO 56 (T 53) (T 55) (C (.bool false)),aj 0 (T 56)]]))
 (.ret)))))),[.tmp 0]⟩
def Ii:cL:=⟨.seq (.ops [.xs [aj 6 (C (.bool false))]])
 (.seq (.seq (.ops [.xs [aj 7 (ai 0)]])
 (.block 0 (.loop 302231454903657293676480 256 (.seq (.seq (.ops [.xs [I 11 (T 7),I 12 (T 0),bA 13 27 (T 12),bi 14 .lss 3 (T 11) (T 13)]])
 (.cond (T 14) (.skip)
 (.exit 0)))
 (.seq (.block 1 (.seq (.ops [.xs [I 17 (T 0),I 18 (T 7),bn 19 27 (T 17) (T 18),aF 20 93 (T 19)],.bL 8 93,.bW true none 93 8 (T 20) 8])
 (.seq (.seq (.box 1099509530624 0 (.ops [.a9 none 21 93 8 0 8 0,.aF none 22 45 21 8 0,.xs [aS 23 25 [T 22],un 24 .not (T 23),I 25 (T 24)],.a9 (some (25,false)) 26 93 8 0 8 0,
  .aF (some (25,false)) 27 45 26 8 0,
  .xs [aL 25 false (aS 28 23 [T 27]),aL 25 false (mZ 29 42 (T 28) 0),aL 25 false (aS 30 41 [T 29]),aL 25 false (bi 31 .leq 3 (T 30) (ai 0)),cO 32 (T 25) (C (.bool true)) (T 31),I 33 (T 32)],
  .a9 (some (33,false)) 34 93 8 1 8 1,.aF (some (33,false)) 35 34 34 8 1,
  .xs [aL 33 false (bA 36 34 (T 35)),aL 33 false (I 37 (T 2)),aL 33 false (bi 38 .neq 3 (T 36) (T 37)),cO 39 (T 33) (C (.bool true)) (T 38)]]))
 (.cond (T 39) (.seq (.ops [.xs [aj 6 (C (.bool false))]])
 (.ret))
 (.skip)))
 (.seq (.ops [.xs [aj 9 (ai 0)]])
 (.block 2 (.loop 302231454902557782050368 0 (.seq (.seq (.ops [.xs [I 40 (T 9),I 41 (T 2),bi 42 .lss 3 (T 40) (T 41)]])
 (.cond (T 42) (.skip)
 (.exit 2)))
 (.seq (.block 3 (.seq (.seq (.ops [.a9 none 45 93 8 1 8 1,.aF none 46 34 45 8 1,
  .xs [I 47 (T 9),bn 48 34 (T 46) (T 47),aF 49 3 (T 48),I 50 (T 1),bi 51 .sub 3 (T 50) (ai 1),aS 52 39 [T 49,ai (-1),T 51],un 53 .not (T 52)]])
 (.cond (T 53) (.seq (.ops [.xs [aj 6 (C (.bool false))]])
 (.ret))
 (.skip)))
 (.seq (.ops [.xs [aj 10 (ai 0)]])
 (.block 4 (.loop 302231436889258784195648 0 (.seq (.seq (.ops [.xs [I 54 (T 10),I 55 (T 9),bi 56 .lss 3 (T 54) (T 55)]])
 (.cond (T 56) (.skip)
 (.exit 4)))
 (.seq (.block 5 (.seq (.box 302230878442904990253056 0 (.ops [.a9 none 59 93 8 1 8 1,.aF none 60 34 59 8 1,
  .xs [I 61 (T 9),bn 62 34 (T 60) (T 61),aF 63 3 (T 62),bi 64 .geq 3 (T 63) (ai 0),I 65 (T 64)],.a9 (some (65,true)) 66 93 8 1 8 1,
  .aF (some (65,true)) 67 34 66 8 1,.xs [aL 65 true (I 68 (T 9)),aL 65 true (bn 69 34 (T 67) (T 68)),aL 65 true (aF 70 3 (T 69))],
  .a9 (some (65,true)) 71 93 8 1 8 1,.aF (some (65,true)) 72 34 71 8 1,
  .xs [aL 65 true (I 73 (T 10)),aL 65 true (bn 74 34 (T 72) (T 73)),aL 65 true (aF 75 3 (T 74)),aL 65 true (bi 76 .eql 3 (T 70) (T 75)),cO 77 (T 65) (T 76) (C (.bool false))]]))
 (.cond (T 77) (.seq (.ops [.xs [aj 6 (C (.bool false))]])
 (.ret))
 (.skip))))
 (.ops [.xs [I 57 (T 10),bi 58 .add 3 (T 57) (ai 1),aj 10 (T 58)]]))))))))
 (.ops [.xs [I 43 (T 9),bi 44 .add 3 (T 43) (ai 1),aj 9 (T 44)]])))))))))
 (.ops [.xs [I 15 (T 7),bi 16 .add 3 (T 15) (ai 1),aj 7 (T 16)]]))))))
 (.seq (.ops [.xs [aj 6 (C (.bool true))]])
 (.ret))),[.tmp 6]⟩
def Ig:cL:=⟨.seq (.ops [.xs [aj 4 (C (.bool false))]])
 (.seq (.seq (.ops [.xs [aj 5 (ai 0)]])
 (.block 0 (.loop 151115727451828646838256 128 (.seq (.seq (.ops [.xs [I 10 (T 5),I 11 (T 0),bA 12 22 (T 11),bi 13 .lss 3 (T 10) (T 12)]])
 (.cond (T 13) (.skip)
 (.exit 0)))
 (.seq (.block 1 (.seq (.ops [.xs [aj 6 (ai 0)]])
 (.block 2 (.loop 151115727451828646773712 128 (.seq (.seq (.ops [.xs [I 16 (T 6),I 17 (T 0),I 18 (T 5),bn 19 22 (T 17) (T 18),aF 20 34 (T 19),bA 21 34 (T 20),bi 22 .lss 3 (T 16) (T 21)]])
 (.cond (T 22) (.skip)
 (.exit 2)))
 (.seq (.block 3 (.seq (.ops [.xs [aS 25 19 [ai 0]],.bL 7 42,.bW true none 42 7 (T 25) 7])
 (.seq (.seq (.ops [.xs [aj 8 (ai 0)]])
 (.block 4 (.loop 73786976294771098368 128 (.seq (.seq (.ops [.xs [I 26 (T 8),I 27 (T 1),bA 28 95 (T 27),bi 29 .lss 3 (T 26) (T 28)]])
 (.cond (T 29) (.skip)
 (.exit 4)))
 (.seq (.block 5 (.seq (.ops [.xs [aj 9 (ai 0)]])
 (.block 6 (.loop 73786976290543239680 128 (.seq (.seq (.ops [.xs [I 32 (T 9),I 33 (T 1),I 34 (T 8),bn 35 95 (T 33) (T 34),aF 36 27 (T 35),bA 37 27 (T 36),bi 38 .lss 3 (T 32) (T 37)]])
 (.cond (T 38) (.skip)
 (.exit 6)))
 (.seq (.box 73786974095814950912 128 (.block 7 (.seq (.ops [.xs [I 41 (T 1),I 42 (T 8),bn 43 95 (T 41) (T 42),aF 44 27 (T 43),I 45 (T 9),bn 46 27 (T 44) (T 45),a9 47 93 (T 46) 1,aF 48 34 (T 47),I 49 (T 6),bn 50 34 (T 48) (T 49),aF 51 3 (T 50),I 52 (T 5),bi 53 .eql 3 (T 51) (T 52)]])
 (.cond (T 53) (.ops [.bT none 54 42 7 7,
  .xs [I 55 (T 1),I 56 (T 8),bn 57 95 (T 55) (T 56),aF 58 27 (T 57),I 59 (T 9),bn 60 27 (T 58) (T 59),a9 61 93 (T 60) 0,aF 62 45 (T 61),bh (aS 63 23 [T 62]),aS 64 26 [T 54,T 63],aS 65 43 [T 64]],
  .bW true none 42 7 (T 65) 7])
 (.skip)))))
 (.ops [.xs [I 39 (T 9),bi 40 .add 3 (T 39) (ai 1),aj 9 (T 40)]])))))))
 (.ops [.xs [I 30 (T 8),bi 31 .add 3 (T 30) (ai 1),aj 8 (T 31)]]))))))
 (.seq (.ops [.bT none 66 42 7 7,
  .xs [I 67 (T 0),I 68 (T 5),bn 69 22 (T 67) (T 68),aF 70 34 (T 69),I 71 (T 6),bn 72 34 (T 70) (T 71),aF 73 3 (T 72),bh (aS 74 19 [T 73]),aS 75 17 [T 66,T 74],bi 76 .neq 3 (T 75) (ai 0)]])
 (.cond (T 76) (.seq (.ops [.xs [aj 4 (C (.bool false))]])
 (.ret))
 (.skip))))))
 (.ops [.xs [I 23 (T 6),bi 24 .add 3 (T 23) (ai 1),aj 6 (T 24)]])))))))
 (.ops [.xs [I 14 (T 5),bi 15 .add 3 (T 14) (ai 1),aj 5 (T 15)]]))))))
 (.seq (.ops [.xs [aj 4 (C (.bool true))]])
 (.ret))),[.tmp 4]⟩
def Hx:cL:=⟨.seq (.ops [.cm 2 42 (T 0),.cm 3 42 (T 1),.xs [aj 4 (ai 0)]])
 (.seq (.ops [.a9 none 5 42 2 0 2 0,.aF none 6 40 5 2 0,.a9 none 7 42 3 1 3 2,.aF none 8 40 7 3 2,.xs [bh (aS 9 45 [T 6,T 8])],.a9 none 10 42 3 0 3 0,
  .aF none 11 40 10 3 0,.a9 none 12 42 2 1 2 2,.aF none 13 40 12 2 2,.xs [aS 14 45 [T 11,T 13],aS 15 44 [T 9,T 14],aj 4 (T 15)]])
 (.ret)),[.tmp 4]⟩
def Ih:cL:=⟨.seq (.ops [.bL 2 42])
 (.seq (.ops [.xs [aS 5 19 [ai 0]],.bL 3 42,.bW true none 42 3 (T 5) 3])
 (.seq (.seq (.ops [.xs [aj 4 (ai 0)]])
 (.block 0 (.loop 2097104 8 (.seq (.seq (.ops [.xs [I 6 (T 4),I 7 (T 0),bA 8 27 (T 7),bi 9 .lss 3 (T 6) (T 8)]])
 (.cond (T 9) (.skip)
 (.exit 0)))
 (.seq (.block 1 (.ops [.bT none 12 42 3 3,
  .xs [I 13 (T 0),I 14 (T 4),bn 15 27 (T 13) (T 14),a9 16 93 (T 15) 0,aF 17 45 (T 16),bh (aS 18 23 [T 17]),aS 19 26 [T 12,T 18],aS 20 43 [T 19]],
  .bW true none 42 3 (T 20) 3]))
 (.ops [.xs [I 10 (T 4),bi 11 .add 3 (T 10) (ai 1),aj 4 (T 11)]]))))))
 (.seq (.ops [.bT none 21 42 3 3,.bW true none 42 2 (T 21) 2])
 (.ret)))),[.cell 2 42]⟩
def HJ:cL:=⟨.seq (.ops [.bL 2 42])
 (.seq (.ops [.xs [I 3 (T 0),aS 4 46 [T 3],aS 5 46 [ai 1],dC 6 42 [(0,T 4),(1,T 5)]],.bW true none 42 2 (T 6) 2])
 (.ret)),[.cell 2 42]⟩
def Ik:cL:=⟨.seq (.ops [.xs [aj 4 (C (.string {data:= #[]})),aj 5 (ai 0)]])
 (.seq (.seq (.ops [.xs [I 10 (T 0),aS 11 31 [T 10],un 12 .not (T 11)]])
 (.cond (T 12) (.seq (.ops [.xs [aj 4 (C (.string {data:= #[]})),aj 5 (ai 1)]])
 (.ret))
 (.skip)))
 (.seq (.ops [.xs [I 13 (T 0),aS 14 32 [T 13]],.bL 6 74,.bW true none 74 6 (T 14) 6])
 (.seq (.ops [.xs [I 16 (T 1)],.bT none 17 74 6 6,.xs [bh (aS 18 48 [T 17])],.bT none 19 74 6 6,
  .xs [bh (aS 20 49 [T 19]),bh (aS 21 47 [T 16,T 18,T 20]),I 15 (T 21),ex 22 (T 15) 0,ex 23 (T 15) 1,ex 24 (T 15) 2],.bL 7 74,
  .bL 8 80,.bW true none 74 7 (T 22) 7,.bW true none 80 8 (T 23) 8,.xs [aj 9 (T 24)]])
 (.seq (.seq (.box 8556380160 0 (.ops [.xs [I 25 (T 9),un 26 .not (T 25),I 27 (T 26)],.bT (some (27,false)) 28 74 6 6,.bT (some (27,false)) 29 74 7 7,
  .xs [aL 27 false (aS 30 50 [T 28,T 29]),aL 27 false (un 31 .not (T 30)),cO 32 (T 27) (C (.bool true)) (T 31)]]))
 (.cond (T 32) (.seq (.ops [.xs [aj 4 (C (.string {data:= #[]})),aj 5 (ai 2)]])
 (.ret))
 (.skip)))
 (.seq (.ops [.bT none 33 80 8 8,.xs [aS 34 51 [T 33],ex 35 (T 34) 0,ex 36 (T 34) 1,aj 4 (T 35),aj 5 (T 36)]])
 (.ret)))))),[.tmp 4,.tmp 5]⟩
def HE:cL:=⟨.seq (.ops [.bL 2 42])
 (.seq (.ops [.xs [I 6 (T 0),aS 7 54 [T 6],I 5 (T 7),ex 8 (T 5) 0,ex 9 (T 5) 1],.bL 3 42,.bW true none 42 3 (T 8) 3,.xs [aj 4 (T 9)]])
 (.seq (.ops [.bT none 10 42 3 3,.bW true none 42 2 (T 10) 2])
 (.ret))),[.cell 2 42]⟩
def HX:cL:=⟨.seq (.ops [.xs [aj 8 (C (.slice none 0 0))]])
 (.seq (.ops [.xs [I 16 (T 1),ch 17 5 3 (T 16),bi 18 .rem 3 (T 17) (ai 8),bi 19 .add 3 (T 18) (ai 1),I 20 (T 2),ch 21 5 3 (T 20),bi 22 .rem 3 (T 21) (ai 8),bi 23 .add 3 (T 22) (ai 1),aj 9 (T 19),aj 10 (T 23)]])
 (.seq (.ops [.xs [eF 24 22 0 [],aj 11 (T 24)]])
 (.seq (.seq (.ops [.xs [aj 12 (ai 0)]])
 (.block 0 (.loop 9223372036821284864 0 (.seq (.seq (.ops [.xs [I 25 (T 12),I 26 (T 9),bi 27 .lss 3 (T 25) (T 26)]])
 (.cond (T 27) (.skip)
 (.exit 0)))
 (.seq (.block 1 (.seq (.ops [.xs [eF 30 34 0 [],aj 13 (T 30)]])
 (.seq (.seq (.ops [.xs [aj 14 (ai 0)]])
 (.block 2 (.loop 576460750155997184 0 (.seq (.seq (.ops [.xs [I 31 (T 14),I 32 (T 10),bi 33 .lss 3 (T 31) (T 32)]])
 (.cond (T 33) (.skip)
 (.exit 2)))
 (.seq (.block 3 (.seq (.ops [.xs [aj 15 (ai 0)]])
 (.seq (.box 36028728299520000 0 (.seq (.ops [.xs [I 36 (T 12),I 37 (T 10),bi 38 .mul 3 (T 36) (T 37),I 39 (T 14),bi 40 .add 3 (T 38) (T 39),I 41 (T 0),bA 42 34 (T 41),bi 43 .lss 3 (T 40) (T 42)]])
 (.cond (T 43) (.ops [.xs [I 44 (T 0),I 45 (T 12),I 46 (T 10),bi 47 .mul 3 (T 45) (T 46),I 48 (T 14),bi 49 .add 3 (T 47) (T 48),bn 50 34 (T 44) (T 49),aF 51 3 (T 50),I 52 (T 3),bi 53 .add 3 (T 52) (ai 1),aS 54 55 [T 51,T 53],aj 15 (T 54)]])
 (.skip))))
 (.ops [.xs [I 55 (T 13),I 56 (T 15),eF 57 34 1 [(0,T 56)],ap 58 34 34 (T 55) (T 57),aj 13 (T 58)]]))))
 (.ops [.xs [I 34 (T 14),bi 35 .add 3 (T 34) (ai 1),aj 14 (T 35)]]))))))
 (.ops [.xs [I 59 (T 11),I 60 (T 13),eF 61 22 1 [(0,T 60)],ap 62 22 22 (T 59) (T 61),aj 11 (T 62)]]))))
 (.ops [.xs [I 28 (T 12),bi 29 .add 3 (T 28) (ai 1),aj 12 (T 29)]]))))))
 (.seq (.ops [.xs [I 63 (T 11),aj 8 (T 63)]])
 (.ret))))),[.tmp 8]⟩
def HI:cL:=⟨.seq (.ops [.xs [aj 2 (C (.bool false))]])
 (.seq (.ops [.xs [I 6 (T 0),aS 7 54 [T 6],I 5 (T 7),ex 8 (T 5) 0,ex 9 (T 5) 1],.bL 3 42,.bW true none 42 3 (T 8) 3,.xs [aj 4 (T 9)]])
 (.seq (.ops [.xs [I 10 (T 4),aj 2 (T 10)]])
 (.ret))),[.tmp 2]⟩
def Hv:cL:=⟨.seq (.ops [.cm 2 42 (T 0),.cm 3 42 (T 1),.bL 4 42])
 (.seq (.ops [.a9 none 5 42 2 0 2 0,.aF none 6 40 5 2 0,.a9 none 7 42 3 1 3 2,.aF none 8 40 7 3 2,.xs [bh (aS 9 45 [T 6,T 8])],.a9 none 10 42 3 0 3 0,
  .aF none 11 40 10 3 0,.a9 none 12 42 2 1 2 2,.aF none 13 40 12 2 2,.xs [bh (aS 14 45 [T 11,T 13]),bh (aS 15 56 [T 9,T 14])],
  .a9 none 16 42 2 1 2 2,.aF none 17 40 16 2 2,.a9 none 18 42 3 1 3 2,.aF none 19 40 18 3 2,
  .xs [aS 20 45 [T 17,T 19],dC 21 42 [(0,T 15),(1,T 20)]],.bW true none 42 4 (T 21) 4])
 (.ret)),[.cell 4 42]⟩
def Ip:cL:=⟨.seq (.ops [.bL 2 74])
 (.seq (.ops [.xs [aj 3 (C (.slice none 0 0))]])
 (.seq (.seq (.ops [.xs [I 9 (T 0),bA 10 22 (T 9),I 11 (ai 0)]])
 (.block 0 (.loop 4294965608 0 (.seq (.ops [.xs [bi 12 .lss 3 (T 11) (T 10)]])
 (.seq (.cond (T 12) (.skip)
 (.exit 0))
 (.seq (.block 1 (.seq (.ops [.xs [bn 13 22 (T 9) (T 11),aF 14 34 (T 13),aj 5 (T 14)]])
 (.seq (.ops [.xs [aj 6 (C (.slice none 0 0))]])
 (.seq (.seq (.ops [.xs [I 15 (T 5),bA 16 34 (T 15),I 17 (ai 0)]])
 (.block 2 (.loop 134086976 0 (.seq (.ops [.xs [bi 18 .lss 3 (T 17) (T 16)]])
 (.seq (.cond (T 18) (.skip)
 (.exit 2))
 (.seq (.block 3 (.seq (.ops [.xs [bn 19 34 (T 15) (T 17),aF 20 3 (T 19),aj 8 (T 20)]])
 (.ops [.xs [I 21 (T 6),I 22 (T 8),aS 23 59 [T 22],eF 24 120 1 [(0,T 23)],ap 25 120 120 (T 21) (T 24),aj 6 (T 25)]])))
 (.ops [.xs [bi 26 .add 3 (T 17) (ai 1),I 17 (T 26)]])))))))
 (.ops [.xs [I 27 (T 3),I 28 (T 6),eF 29 72 1 [(0,T 28)],ap 30 72 72 (T 27) (T 29),aj 3 (T 30)]])))))
 (.ops [.xs [bi 31 .add 3 (T 11) (ai 1),I 11 (T 31)]])))))))
 (.seq (.ops [.xs [I 32 (T 3),dC 33 74 [(0,T 32)]],.bW true none 74 2 (T 33) 2])
 (.ret)))),[.cell 2 74]⟩
def Is:cL:=⟨.seq (.ops [.cm 1 74 (T 0),.bL 2 80,.xs [aj 3 (ai 0)]])
 (.seq (.ops [.bT none 8 74 1 1,.xs [aS 9 65 [T 8,ai 0]],.bL 4 80,.bW true none 80 4 (T 9) 4,.xs [aj 5 (ai 0)]])
 (.seq (.seq (.ops [.bT none 10 74 1 1,.xs [aS 11 48 [T 10],I 12 (ai 0)]])
 (.block 0 (.loop 33550560 144 (.seq (.ops [.xs [bi 13 .lss 3 (T 12) (T 11)]])
 (.seq (.cond (T 13) (.skip)
 (.exit 0))
 (.seq (.box 16761056 144 (.block 1 (.seq (.ops [.xs [I 14 (T 12),aj 6 (T 14)]])
 (.seq (.ops [.bT none 15 74 1 1,.xs [I 16 (T 6),aS 17 65 [T 15,T 16]],.bL 7 80,.bW true none 80 7 (T 17) 7])
 (.seq (.ops [.bT none 18 80 7 7,.bT none 19 80 4 4,.xs [aS 20 35 [T 18,T 19],bi 21 .gtr 3 (T 20) (ai 0)]])
 (.cond (T 21) (.ops [.bT none 22 80 7 7,.xs [I 23 (T 6)],.bW true none 80 4 (T 22) 4,.xs [aj 5 (T 23)]])
 (.skip)))))))
 (.ops [.xs [bi 24 .add 3 (T 12) (ai 1),I 12 (T 24)]])))))))
 (.seq (.ops [.bT none 25 80 4 4,.xs [I 26 (T 5)],.bW true none 80 2 (T 25) 2,.xs [aj 3 (T 26)]])
 (.ret)))),[.cell 2 80,.tmp 3]⟩
def Iw:cL:=⟨.seq (.ops [.cm 1 74 (T 0),.bL 2 74])
 (.seq (.ops [.bT none 7 74 1 1,.xs [aS 8 49 [T 7],ms 9 72 (T 8) (T 8),aj 3 (T 9)]])
 (.seq (.seq (.ops [.xs [I 10 (T 3),bA 11 72 (T 10),I 12 (ai 0)]])
 (.block 0 (.loop 137438949456 0 (.seq (.ops [.xs [bi 13 .lss 3 (T 12) (T 11)]])
 (.seq (.cond (T 13) (.skip)
 (.exit 0))
 (.seq (.block 1 (.seq (.ops [.xs [I 14 (T 12),aj 4 (T 14)]])
 (.seq (.ops [.a9 none 15 74 1 0 1 0,.aF none 16 72 15 1 0,.xs [bA 17 72 (T 16),I 18 (ai 0)]])
 (.block 2 (.loop 68719214656 0 (.seq (.ops [.xs [bi 19 .lss 3 (T 18) (T 17)]])
 (.seq (.cond (T 19) (.skip)
 (.exit 2))
 (.seq (.block 3 (.seq (.ops [.xs [bn 20 72 (T 16) (T 18),aF 21 120 (T 20),aj 6 (T 21)]])
 (.ops [.xs [I 22 (T 3),I 23 (T 4),I 24 (T 3),I 25 (T 4),bn 26 72 (T 24) (T 25),aF 27 120 (T 26),I 28 (T 6),I 29 (T 4),bn 30 120 (T 28) (T 29),aF 31 80 (T 30),bh (eF 32 120 1 [(0,T 31)]),ap 33 120 120 (T 27) (T 32),bn 34 72 (T 22) (T 23),st 120 (T 34) (T 33)]])))
 (.ops [.xs [bi 35 .add 3 (T 18) (ai 1),I 18 (T 35)]])))))))))
 (.ops [.xs [bi 36 .add 3 (T 12) (ai 1),I 12 (T 36)]])))))))
 (.seq (.ops [.xs [I 37 (T 3),dC 38 74 [(0,T 37)]],.bW true none 74 2 (T 38) 2])
 (.ret)))),[.cell 2 74]⟩
def H4:cL:=⟨.seq (.ops [.cm 2 80 (T 0),.cm 3 80 (T 1),.xs [aj 4 (ai 0)]])
 (.seq (.ops [.a9 none 5 80 2 0 2 0,.aF none 6 78 5 2 0,.a9 none 7 80 3 1 3 2,.aF none 8 78 7 3 2,.xs [bh (aS 9 66 [T 6,T 8])],.a9 none 10 80 3 0 3 0,
  .aF none 11 78 10 3 0,.a9 none 12 80 2 1 2 2,.aF none 13 78 12 2 2,.xs [aS 14 66 [T 11,T 13],aS 15 67 [T 9,T 14],aj 4 (T 15)]])
 (.ret)),[.tmp 4]⟩
def H0:cL:=⟨.seq (.ops [.cm 1 78 (T 0),.xs [aj 2 (ai 0),aj 3 (C (.bool false))]])
 (.seq (.seq (.ops [.a9 none 7 78 1 1 1 1,.aF none 8 76 7 1 1,.xs [bA 9 76 (T 8),bi 10 .gtr 3 (T 9) (ai 2)]])
 (.cond (T 10) (.seq (.ops [.xs [aj 2 (ai 0),aj 3 (C (.bool false))]])
 (.ret))
 (.skip)))
 (.seq (.ops [.xs [aj 4 (C (.int .u64 0))]])
 (.seq (.seq (.ops [.a9 none 11 78 1 1 1 1,.aF none 12 76 11 1 1,.xs [bA 13 76 (T 12),I 14 (ai 0)]])
 (.block 0 (.loop 134201456 0 (.seq (.ops [.xs [bi 15 .lss 3 (T 14) (T 13)]])
 (.seq (.cond (T 15) (.skip)
 (.exit 0))
 (.seq (.block 1 (.seq (.ops [.xs [I 16 (T 14),bn 17 76 (T 12) (T 14),aF 18 124 (T 17),aj 5 (T 16),aj 6 (T 18)]])
 (.ops [.xs [I 19 (T 4),I 20 (T 6),ch 21 124 123 (T 20),I 22 (T 5),bi 23 .mul 3 (ai 32) (T 22),bi 24 .shl 123 (T 21) (T 23),bi 25 .or 123 (T 19) (T 24),aj 4 (T 25)]])))
 (.ops [.xs [bi 26 .add 3 (T 14) (ai 1),I 14 (T 26)]])))))))
 (.seq (.seq (.ops [.xs [I 27 (T 4),bi 28 .gtr 123 (T 27) (C (.int .u64 4611686018427387904))]])
 (.cond (T 28) (.seq (.ops [.xs [aj 2 (ai 0),aj 3 (C (.bool false))]])
 (.ret))
 (.skip)))
 (.seq (.seq (.ops [.a9 none 29 78 1 0 1 0,.aF none 30 4 29 1 0])
 (.cond (T 30) (.seq (.ops [.xs [I 31 (T 4),ch 32 123 3 (T 31),un 33 .neg (T 32),aj 2 (T 33),aj 3 (C (.bool true))]])
 (.ret))
 (.skip)))
 (.seq (.ops [.xs [I 34 (T 4),ch 35 123 3 (T 34),aj 2 (T 35),aj 3 (C (.bool true))]])
 (.ret))))))),[.tmp 2,.tmp 3]⟩
def Iu:cL:=⟨.seq (.ops [.cm 1 74 (T 0),.xs [aj 2 (C (.slice none 0 0)),aj 3 (ai 0)]])
 (.seq (.ops [.xs [aj 4 (C (.slice none 0 0))]])
 (.seq (.seq (.ops [.bT none 12 74 1 1,.xs [aS 13 68 [T 12],aS 14 58 [T 13],bA 15 110 (T 14),I 16 (ai 0)]])
 (.block 0 (.loop 144115188075793372 576 (.seq (.ops [.xs [bi 17 .lss 3 (T 16) (T 15)]])
 (.seq (.cond (T 17) (.skip)
 (.exit 0))
 (.seq (.block 1 (.seq (.ops [.xs [bn 18 110 (T 14) (T 16),aF 19 113 (T 18)],.bL 6 113,.bW true none 113 6 (T 19) 6])
 (.seq (.ops [.a9 none 21 113 6 0 6 0,.aF none 22 80 21 6 0,
  .xs [aS 23 51 [T 22],I 20 (T 23),ex 24 (T 20) 0,ex 25 (T 20) 1,aj 7 (T 24),aj 8 (T 25)]])
 (.seq (.seq (.ops [.xs [I 26 (T 8),bi 27 .neq 24 (T 26) (ai 0)]])
 (.cond (T 27) (.seq (.ops [.xs [I 28 (T 8),aj 2 (C (.slice none 0 0)),aj 3 (T 28)]])
 (.ret))
 (.skip)))
 (.seq (.ops [.xs [I 29 (T 7),dC 30 93 [(0,T 29)]],.bL 9 93,.bW true none 93 9 (T 30) 9])
 (.seq (.seq (.ops [.a9 none 31 113 6 1 6 4,.aF none 32 34 31 6 4,.bT none 33 74 1 1,
  .xs [bh (aS 34 49 [T 33]),fG 35 34 (T 32) none (some (T 34)) none,bA 36 34 (T 35),I 37 (ai 0)]])
 (.block 2 (.loop 4503462188419072 512 (.seq (.ops [.xs [bi 38 .lss 3 (T 37) (T 36)]])
 (.seq (.cond (T 38) (.skip)
 (.exit 2))
 (.seq (.block 3 (.seq (.ops [.xs [bn 39 34 (T 35) (T 37),aF 40 3 (T 39),aj 11 (T 40)]])
 (.seq (.box 32985348835328 0 (.seq (.ops [.xs [I 41 (T 11)],.bT none 42 74 1 1,.xs [aS 43 48 [T 42],bi 44 .geq 3 (T 41) (T 43)]])
 (.cond (T 44) (.ops [.xs [aj 11 (ai (-1))]])
 (.skip))))
 (.ops [.a9 none 45 93 9 1 9 1,.aF none 46 34 45 9 1,.xs [I 47 (T 11),eF 48 34 1 [(0,T 47)],ap 49 34 34 (T 46) (T 48)],.a9 none 50 93 9 1 9 1,
  .st true none 34 50 (T 49) 9 1]))))
 (.ops [.xs [bi 51 .add 3 (T 37) (ai 1),I 37 (T 51)]])))))))
 (.ops [.xs [I 52 (T 4)],.bT none 53 93 9 9,.xs [eF 54 27 1 [(0,T 53)],ap 55 27 27 (T 52) (T 54),aj 4 (T 55)]])))))))
 (.ops [.xs [bi 56 .add 3 (T 16) (ai 1),I 16 (T 56)]])))))))
 (.seq (.ops [.xs [I 57 (T 4),aj 2 (T 57),aj 3 (ai 0)]])
 (.ret)))),[.tmp 2,.tmp 3]⟩
def HG:cL:=⟨.seq (.ops [.cm 1 40 (T 0),.xs [aj 2 (ai 0)]])
 (.seq (.seq (.ops [.a9 none 3 40 1 1 1 1,.aF none 4 34 3 1 1,.xs [bA 5 34 (T 4),bi 6 .eql 3 (T 5) (ai 0)]])
 (.cond (T 6) (.seq (.ops [.xs [aj 2 (ai 0)]])
 (.ret))
 (.skip)))
 (.seq (.seq (.ops [.a9 none 7 40 1 0 1 0,.aF none 8 4 7 1 0])
 (.cond (T 8) (.seq (.ops [.xs [aj 2 (ai (-1))]])
 (.ret))
 (.skip)))
 (.seq (.ops [.xs [aj 2 (ai 1)]])
 (.ret)))),[.tmp 2]⟩
def HB:cL:=⟨.seq (.ops [.cm 1 42 (T 0),.bL 2 42])
 (.seq (.ops [.a9 none 8 42 1 0 1 0,.aF none 9 40 8 1 0,.a9 none 10 42 1 1 1 2,.aF none 11 40 10 1 2,.xs [aS 12 69 [T 9,T 11]],.bL 3 40,
  .bW true none 40 3 (T 12) 3])
 (.seq (.ops [.a9 none 14 42 1 0 1 0,.aF none 15 40 14 1 0,.bT none 16 40 3 3,
  .xs [aS 17 70 [T 15,T 16],I 13 (T 17),ex 18 (T 13) 0,ex 19 (T 13) 1],.bL 4 40,.bL 5 40,.bW true none 40 4 (T 18) 4,
  .bW true none 40 5 (T 19) 5])
 (.seq (.ops [.a9 none 21 42 1 1 1 2,.aF none 22 40 21 1 2,.bT none 23 40 3 3,
  .xs [aS 24 70 [T 22,T 23],I 20 (T 24),ex 25 (T 20) 0,ex 26 (T 20) 1],.bL 6 40,.bL 7 40,.bW true none 40 6 (T 25) 6,
  .bW true none 40 7 (T 26) 7])
 (.seq (.ops [.bT none 27 40 4 4,.bT none 28 40 6 6,.xs [dC 29 42 [(0,T 27),(1,T 28)]],.bW true none 42 2 (T 29) 2])
 (.ret))))),[.cell 2 42]⟩
def Hw:cL:=⟨.seq (.ops [.cm 2 40 (T 0),.cm 3 40 (T 1),.xs [aj 4 (ai 0)]])
 (.seq (.ops [.bT none 5 40 2 2,.bT none 6 40 3 3,.xs [aS 7 71 [T 5,T 6],aS 8 41 [T 7],aj 4 (T 8)]])
 (.ret)),[.tmp 4]⟩
def HC:cL:=⟨.seq (.ops [.cm 2 40 (T 0),.cm 3 40 (T 1),.bL 4 40])
 (.seq (.ops [.a9 none 10 40 2 1 2 1,.aF none 11 34 10 2 1,.xs [bA 12 34 (T 11)],.a9 none 13 40 3 1 3 1,.aF none 14 34 13 3 1,
  .xs [bA 15 34 (T 14),bi 16 .add 3 (T 12) (T 15),bi 17 .add 3 (T 16) (ai 1),ms 18 34 (T 17) (T 17),aj 5 (T 18)]])
 (.seq (.seq (.ops [.xs [aj 6 (ai 0)]])
 (.block 0 (.loop 4722366482869644690368 0 (.seq (.seq (.ops [.xs [I 19 (T 6)],.a9 none 20 40 2 1 2 1,.aF none 21 34 20 2 1,.xs [bA 22 34 (T 21),bi 23 .lss 3 (T 19) (T 22)]])
 (.cond (T 23) (.skip)
 (.exit 0)))
 (.seq (.block 1 (.seq (.ops [.xs [aj 7 (ai 0)]])
 (.seq (.ops [.xs [aj 8 (ai 0)]])
 (.block 2 (.loop 4722366482869578105728 0 (.seq (.seq (.box 34292629504 0 (.ops [.xs [I 26 (T 8)],.a9 none 27 40 3 1 3 1,.aF none 28 34 27 3 1,
  .xs [bA 29 34 (T 28),bi 30 .lss 3 (T 26) (T 29),I 31 (T 30),aL 31 false (I 32 (T 7)),aL 31 false (bi 33 .gtr 3 (T 32) (ai 0)),cO 34 (T 31) (C (.bool true)) (T 33)]]))
 (.cond (T 34) (.skip)
 (.exit 2)))
 (.seq (.block 3 (.seq (.ops [.xs [I 37 (T 5),I 38 (T 6),I 39 (T 8),bi 40 .add 3 (T 38) (T 39),bn 41 34 (T 37) (T 40),aF 42 3 (T 41),I 43 (T 7),bi 44 .add 3 (T 42) (T 43),aj 9 (T 44)]])
 (.seq (.box 9223336852482687488 0 (.seq (.ops [.xs [I 45 (T 8)],.a9 none 46 40 3 1 3 1,.aF none 47 34 46 3 1,.xs [bA 48 34 (T 47),bi 49 .lss 3 (T 45) (T 48)]])
 (.cond (T 49) (.ops [.xs [I 50 (T 9)],.a9 none 51 40 2 1 2 1,.aF none 52 34 51 2 1,.xs [I 53 (T 6),bn 54 34 (T 52) (T 53),aF 55 3 (T 54)],
  .a9 none 56 40 3 1 3 1,.aF none 57 34 56 3 1,
  .xs [I 58 (T 8),bn 59 34 (T 57) (T 58),aF 60 3 (T 59),bi 61 .mul 3 (T 55) (T 60),bi 62 .add 3 (T 50) (T 61),aj 9 (T 62)]])
 (.skip))))
 (.ops [.xs [I 63 (T 5),I 64 (T 6),I 65 (T 8),bi 66 .add 3 (T 64) (T 65),I 67 (T 9),bi 68 .rem 3 (T 67) (ai 10000),I 69 (T 9),bi 70 .quo 3 (T 69) (ai 10000),bn 71 34 (T 63) (T 66),st 3 (T 71) (T 68),aj 7 (T 70)]]))))
 (.ops [.xs [I 35 (T 8),bi 36 .add 3 (T 35) (ai 1),aj 8 (T 36)]]))))))))
 (.ops [.xs [I 24 (T 6),bi 25 .add 3 (T 24) (ai 1),aj 6 (T 25)]]))))))
 (.seq (.ops [.a9 none 72 40 2 0 2 0,.aF none 73 4 72 2 0,.a9 none 74 40 3 0 3 0,.aF none 75 4 74 3 0,
  .xs [bi 76 .neq 4 (T 73) (T 75),I 77 (T 5),dC 78 40 [(0,T 76),(1,T 77)],aS 79 72 [T 78]],.bW true none 40 4 (T 79) 4])
 (.ret)))),[.cell 4 40]⟩
def HA:cL:=⟨.seq (.ops [.bL 2 40])
 (.seq (.ops [.xs [I 5 (T 0),bi 6 .lss 3 (T 5) (ai 0),dC 7 40 [(0,T 6)]],.bL 3 40,.bW true none 40 3 (T 7) 3])
 (.seq (.block 0 (.loop 16776977 8 (.seq (.seq (.ops [.xs [I 8 (T 0),bi 9 .neq 3 (T 8) (ai 0)]])
 (.cond (T 9) (.skip)
 (.exit 0)))
 (.block 1 (.seq (.ops [.xs [I 10 (T 0),bi 11 .rem 3 (T 10) (ai 10000),aj 4 (T 11)]])
 (.seq (.box 61456 0 (.seq (.ops [.xs [I 12 (T 4),bi 13 .lss 3 (T 12) (ai 0)]])
 (.cond (T 13) (.ops [.xs [I 14 (T 4),un 15 .neg (T 14),aj 4 (T 15)]])
 (.skip))))
 (.seq (.ops [.a9 none 16 40 3 1 3 1,.aF none 17 34 16 3 1,.xs [I 18 (T 4),eF 19 34 1 [(0,T 18)],ap 20 34 34 (T 17) (T 19)],.a9 none 21 40 3 1 3 1,
  .st true none 34 21 (T 20) 3 1])
 (.ops [.xs [I 22 (T 0),bi 23 .quo 3 (T 22) (ai 10000),aj 0 (T 23)]]))))))))
 (.seq (.ops [.bT none 24 40 3 3,.bW true none 40 2 (T 24) 2])
 (.ret)))),[.cell 2 40]⟩
def Im:cL:=⟨.seq (.ops [.bL 6 74,.bL 7 80,.xs [aj 8 (C (.bool false))]])
 (.seq (.ops [.xs [I 17 (T 2),ms 18 34 (T 17) (T 17),eF 19 22 1 [(0,T 18)],I 20 (T 1),aS 21 73 [T 19,T 20],aS 22 32 [T 21],aS 23 59 [ai 0]],
  .bL 9 74,.bL 10 80,.bW true none 74 9 (T 22) 9,.bW true none 80 10 (T 23) 10])
 (.seq (.seq (.ops [.xs [I 24 (T 0),bA 25 27 (T 24),I 26 (ai 0)]])
 (.block 0 (.loop 40564819207303340847894435590400 13504 (.seq (.ops [.xs [bi 27 .lss 3 (T 26) (T 25)]])
 (.seq (.cond (T 27) (.skip)
 (.exit 0))
 (.seq (.block 1 (.seq (.ops [.xs [bn 28 27 (T 24) (T 26),aF 29 93 (T 28)],.bL 12 93,.bW true none 93 12 (T 29) 12])
 (.seq (.ops [.a9 none 31 93 12 0 12 0,.aF none 32 45 31 12 0,.xs [aS 33 74 [T 32],I 30 (T 33),ex 34 (T 30) 0,ex 35 (T 30) 1],.bL 13 80,
  .bW true none 80 13 (T 34) 13,.xs [aj 14 (T 35)]])
 (.seq (.seq (.box 1125831187365888 0 (.ops [.xs [I 36 (T 14),un 37 .not (T 36),I 38 (T 37)],.bT (some (38,false)) 39 80 13 13,
  .xs [aL 38 false (aS 40 75 [T 39]),aL 38 false (bi 41 .leq 3 (T 40) (ai 0)),cO 42 (T 38) (C (.bool true)) (T 41),I 43 (T 42)],
  .a9 (some (43,false)) 44 93 12 1 12 1,.aF (some (43,false)) 45 34 44 12 1,
  .xs [aL 43 false (bA 46 34 (T 45)),aL 43 false (I 47 (T 2)),aL 43 false (bi 48 .neq 3 (T 46) (T 47)),cO 49 (T 43) (C (.bool true)) (T 48)]]))
 (.cond (T 49) (.seq (.opsL [.xs [dC 50 74 []],.bT none 51 80 10 10,.bW false none 74 6 (T 50) 6,.bW true none 80 7 (T 51) 7,.xs [aj 8 (C (.bool false))]])
 (.ret))
 (.skip)))
 (.seq (.seq (.ops [.a9 none 52 93 12 1 12 1,.aF none 53 34 52 12 1,.xs [bA 54 34 (T 53),I 55 (ai 0)]])
 (.block 2 (.loop 2535301200456422774196387545344 192 (.seq (.ops [.xs [bi 56 .lss 3 (T 55) (T 54)]])
 (.seq (.cond (T 56) (.skip)
 (.exit 2))
 (.seq (.box 1267650600228085286308627448064 192 (.block 3 (.seq (.ops [.xs [I 57 (T 55),bn 58 34 (T 53) (T 55),aF 59 3 (T 58),aj 15 (T 57),aj 16 (T 59)]])
 (.seq (.seq (.box 604461756885809980506112 0 (.ops [.xs [I 60 (T 16),bi 61 .lss 3 (T 60) (ai (-1)),I 62 (T 61),aL 62 false (I 63 (T 16)),aL 62 false (I 64 (T 1)),aL 62 false (bi 65 .geq 3 (T 63) (T 64)),cO 66 (T 62) (C (.bool true)) (T 65),I 67 (T 66),aL 67 false (I 68 (T 16)),aL 67 false (bi 69 .geq 3 (T 68) (ai 0)),aL 67 false (I 70 (T 69))],
  .a9 (some (70,true)) 71 93 12 1 12 1,.aF (some (70,true)) 72 34 71 12 1,
  .xs [aL 70 true (I 73 (T 15)),aL 70 true ((fG 74 34 (T 72) none (some (T 73)) none)),aL 70 true (I 75 (T 16)),aL 70 true (aS 76 76 [T 74,T 75]),aL 67 false ((cO 77 (T 70) (T 76) (C (.bool false)))),cO 78 (T 67) (C (.bool true)) (T 77)]]))
 (.cond (T 78) (.seq (.opsL [.xs [dC 79 74 []],.bT none 80 80 10 10,.bW false none 74 6 (T 79) 6,.bW true none 80 7 (T 80) 7,.xs [aj 8 (C (.bool false))]])
 (.ret))
 (.skip)))
 (.seq (.ops [.xs [I 81 (T 16),bi 82 .geq 3 (T 81) (ai 0)]])
 (.cond (T 82) (.ops [.a9 none 83 74 9 0 9 0,.aF none 84 72 83 9 0,.xs [I 85 (T 16),bn 86 72 (T 84) (T 85),aF 87 120 (T 86),I 88 (T 15)],
  .a9 none 89 74 9 0 9 0,.aF none 90 72 89 9 0,
  .xs [I 91 (T 16),bn 92 72 (T 90) (T 91),aF 93 120 (T 92),I 94 (T 15),bn 95 120 (T 93) (T 94),aF 96 80 (T 95)],.bT none 97 80 13 13,
  .xs [bh (aS 98 77 [T 96,T 97]),bn 99 120 (T 87) (T 88),st 80 (T 99) (T 98)]])
 (.skip)))))))
 (.ops [.xs [bi 100 .add 3 (T 55) (ai 1),I 55 (T 100)]])))))))
 (.ops [.bT none 101 80 10 10,.bT none 102 80 13 13,.xs [aS 103 77 [T 101,T 102]],.bW true none 80 10 (T 103) 10]))))))
 (.ops [.xs [bi 104 .add 3 (T 26) (ai 1),I 26 (T 104)]])))))))
 (.seq (.opsL [.bT none 105 74 9 9,.bT none 106 80 10 10,.xs [I 107 (T 0),bA 108 27 (T 107),bi 109 .leq 3 (T 108) (ai 1000)],
  .bW false none 74 6 (T 105) 6,.bW true none 80 7 (T 106) 7,.xs [aj 8 (T 109)]])
 (.ret)))),[.cell 6 74,.cell 7 80,.tmp 8]⟩
def It:cL:=⟨.seq (.ops [.cm 2 74 (T 0),.cm 3 74 (T 1),.xs [aj 4 (C (.bool false))]])
 (.seq (.seq (.ops [.a9 none 9 74 2 0 2 0,.aF none 10 72 9 2 0,.xs [bA 11 72 (T 10),I 12 (ai 0)]])
 (.block 0 (.loop 137438949872 256 (.seq (.ops [.xs [bi 13 .lss 3 (T 12) (T 11)]])
 (.seq (.cond (T 13) (.skip)
 (.exit 0))
 (.seq (.block 1 (.seq (.ops [.xs [I 14 (T 12),bn 15 72 (T 10) (T 12),aF 16 120 (T 15),aj 5 (T 14),aj 6 (T 16)]])
 (.seq (.ops [.xs [I 17 (T 6),bA 18 120 (T 17),I 19 (ai 0)]])
 (.block 2 (.loop 68718952848 256 (.seq (.ops [.xs [bi 20 .lss 3 (T 19) (T 18)]])
 (.seq (.cond (T 20) (.skip)
 (.exit 2))
 (.seq (.block 3 (.seq (.ops [.xs [I 21 (T 19),bn 22 120 (T 17) (T 19),aF 23 80 (T 22)],.bL 8 80,.xs [aj 7 (T 21)],.bW true none 80 8 (T 23) 8])
 (.seq (.ops [.bT none 24 80 8 8,.a9 none 25 74 3 0 3 0,.aF none 26 72 25 3 0,
  .xs [I 27 (T 5),bn 28 72 (T 26) (T 27),aF 29 120 (T 28),I 30 (T 7),bn 31 120 (T 29) (T 30),aF 32 80 (T 31),aS 33 35 [T 24,T 32],bi 34 .neq 3 (T 33) (ai 0)]])
 (.cond (T 34) (.seq (.ops [.xs [aj 4 (C (.bool false))]])
 (.ret))
 (.skip)))))
 (.ops [.xs [bi 35 .add 3 (T 19) (ai 1),I 19 (T 35)]])))))))))
 (.ops [.xs [bi 36 .add 3 (T 12) (ai 1),I 12 (T 36)]])))))))
 (.seq (.ops [.xs [aj 4 (C (.bool true))]])
 (.ret))),[.tmp 4]⟩
def H6:cL:=⟨.seq (.ops [.cm 1 80 (T 0),.xs [aj 2 (C (.string {data:= #[]})),aj 3 (ai 0)]])
 (.seq (.ops [.a9 none 6 80 1 0 1 0,.a9 none 7 78 6 1 1 1,.aF none 8 76 7 1 1,.xs [aS 9 78 [T 8],aj 4 (T 9)]])
 (.seq (.seq (.ops [.xs [I 10 (T 4),bA 11 9 (T 10),bi 12 .gtr 3 (T 11) (ai 4000)]])
 (.cond (T 12) (.seq (.ops [.xs [aj 2 (C (.string {data:= #[]})),aj 3 (ai 5)]])
 (.ret))
 (.skip)))
 (.seq (.box 253968 0 (.seq (.ops [.a9 none 13 80 1 0 1 0,.a9 none 14 78 13 0 1 0,.aF none 15 4 14 1 0])
 (.cond (T 15) (.ops [.xs [I 16 (T 4),bi 17 .add 9 (C (.string {data:= #[45]})) (T 16),aj 4 (T 17)]])
 (.skip))))
 (.seq (.seq (.ops [.bT none 18 80 1 1,.xs [aS 19 79 [T 18]]])
 (.cond (T 19) (.seq (.ops [.xs [I 20 (T 4),aj 2 (T 20),aj 3 (ai 0)]])
 (.ret))
 (.skip)))
 (.seq (.ops [.a9 none 21 80 1 1 1 2,.a9 none 22 78 21 1 1 3,.aF none 23 76 22 1 3,.xs [aS 24 78 [T 23],aj 5 (T 24)]])
 (.seq (.seq (.ops [.xs [I 25 (T 5),bA 26 9 (T 25),bi 27 .gtr 3 (T 26) (ai 4000)]])
 (.cond (T 27) (.seq (.ops [.xs [aj 2 (C (.string {data:= #[]})),aj 3 (ai 5)]])
 (.ret))
 (.skip)))
 (.seq (.ops [.xs [I 28 (T 4),bi 29 .add 9 (T 28) (C (.string {data:= #[47]})),I 30 (T 5),bi 31 .add 9 (T 29) (T 30),aj 2 (T 31),aj 3 (ai 0)]])
 (.ret)))))))),[.tmp 2,.tmp 3]⟩
def Ht:cL:=⟨.seq (.ops [.cm 1 40 (T 0),.bL 2 40])
 (.seq (.ops [.a9 none 3 40 1 0 1 0,.st true none 4 3 (C (.bool false)) 1 0])
 (.seq (.ops [.bT none 4 40 1 1,.bW true none 40 2 (T 4) 2])
 (.ret))),[.cell 2 40]⟩
def HF:cL:=⟨.seq (.ops [.bL 2 42,.xs [aj 3 (C (.bool false))]])
 (.seq (.ops [.xs [I 13 (T 0),aj 4 (T 13),aj 5 (C (.bool false))]])
 (.seq (.seq (.ops [.xs [I 14 (T 4),bA 15 9 (T 14),bi 16 .gtr 3 (T 15) (ai 8002)]])
 (.cond (T 16) (.seq (.ops [.xs [dC 17 42 []],.bW true none 42 2 (T 17) 2,.xs [aj 3 (C (.bool false))]])
 (.ret))
 (.skip)))
 (.seq (.box 268173360 0 (.seq (.box 66846720 0 (.ops [.xs [I 18 (T 4),bA 19 9 (T 18),bi 20 .gtr 3 (T 19) (ai 0),I 21 (T 20),aL 21 true (I 22 (T 4)),aL 21 true (ek 23 9 (T 22) (ai 0)),aL 21 true ((bi 24 .eql 5 (T 23) (C (.int .u8 45)))),cO 25 (T 21) (T 24) (C (.bool false))]]))
 (.cond (T 25) (.ops [.xs [I 26 (T 4),fG 27 9 (T 26) (some (ai 1)) none none,aj 4 (T 27),aj 5 (C (.bool true))]])
 (.skip))))
 (.seq (.ops [.xs [I 28 (T 4),bA 29 9 (T 28),aj 6 (T 29)]])
 (.seq (.seq (.ops [.xs [I 30 (T 4),bA 31 9 (T 30),bi 32 .sub 3 (T 31) (ai 1),aj 7 (T 32)]])
 (.block 0 (.loop 4389456576704 0 (.seq (.seq (.ops [.xs [I 33 (T 7),bi 34 .geq 3 (T 33) (ai 0)]])
 (.cond (T 34) (.skip)
 (.exit 0)))
 (.seq (.box 4260607557696 0 (.block 1 (.seq (.ops [.xs [I 37 (T 4),I 38 (T 7),ek 39 9 (T 37) (T 38),bi 40 .eql 5 (T 39) (C (.int .u8 47))]])
 (.cond (T 40) (.ops [.xs [I 41 (T 7),aj 6 (T 41)]])
 (.skip)))))
 (.ops [.xs [I 35 (T 7),bi 36 .sub 3 (T 35) (ai 1),aj 7 (T 36)]]))))))
 (.seq (.ops [.xs [I 43 (T 4),I 44 (T 6),fG 45 9 (T 43) none (some (T 44)) none,aS 46 80 [T 45],I 42 (T 46),ex 47 (T 42) 0,ex 48 (T 42) 1],
  .bL 8 40,.bW true none 40 8 (T 47) 8,.xs [aj 9 (T 48)]])
 (.seq (.ops [.xs [aS 49 46 [ai 1]],.bL 10 40,.bW true none 40 10 (T 49) 10])
 (.seq (.box 1208925818488729267869704 3076 (.seq (.ops [.xs [I 50 (T 6),I 51 (T 4),bA 52 9 (T 51),bi 53 .lss 3 (T 50) (T 52)]])
 (.cond (T 53) (.seq (.ops [.xs [I 55 (T 4),I 56 (T 6),bi 57 .add 3 (T 56) (ai 1),fG 58 9 (T 55) (some (T 57)) none none,aS 59 80 [T 58],I 54 (T 59),ex 60 (T 54) 0,ex 61 (T 54) 1],
  .bL 11 40,.bW true none 40 11 (T 60) 11,.xs [aj 12 (T 61)]])
 (.seq (.seq (.box 302226843217638866288640 0 (.ops [.xs [I 62 (T 12),un 63 .not (T 62),I 64 (T 63)],.bT (some (64,false)) 65 40 11 11,
  .xs [aL 64 false (bh (aS 66 46 [ai 2])),aL 64 false (aS 67 44 [T 65,T 66]),aL 64 false (bi 68 .lss 3 (T 67) (ai 0)),cO 69 (T 64) (C (.bool true)) (T 68),I 70 (T 69)],
  .bT (some (70,false)) 71 40 8 8,.bT (some (70,false)) 72 40 11 11,
  .xs [aL 70 false (aS 73 69 [T 71,T 72]),aL 70 false (aS 74 46 [ai 1]),aL 70 false (aS 75 44 [T 73,T 74]),aL 70 false (bi 76 .neq 3 (T 75) (ai 0)),cO 77 (T 70) (C (.bool true)) (T 76)]]))
 (.cond (T 77) (.seq (.ops [.xs [dC 78 42 []],.bW true none 42 2 (T 78) 2,.xs [aj 3 (C (.bool false))]])
 (.ret))
 (.skip)))
 (.ops [.bT none 79 40 11 11,.bW true none 40 10 (T 79) 10])))
 (.skip))))
 (.seq (.seq (.box 2474671152751145920623542272 0 (.ops [.xs [I 80 (T 9),un 81 .not (T 80),I 82 (T 81),aL 82 false (I 83 (T 5)),aL 82 false (I 84 (T 83))],.a9 (some (84,true)) 85 40 8 1 8 1,
  .aF (some (84,true)) 86 34 85 8 1,
  .xs [aL 84 true (bA 87 34 (T 86)),aL 84 true (bi 88 .eql 3 (T 87) (ai 0)),aL 82 false ((cO 89 (T 84) (T 88) (C (.bool false)))),cO 90 (T 82) (C (.bool true)) (T 89)]]))
 (.cond (T 90) (.seq (.ops [.xs [dC 91 42 []],.bW true none 42 2 (T 91) 2,.xs [aj 3 (C (.bool false))]])
 (.ret))
 (.skip)))
 (.seq (.box 34662321099990647697175478272 256 (.seq (.ops [.xs [I 92 (T 5)]])
 (.cond (T 92) (.ops [.bT none 93 40 8 8,.xs [aS 94 81 [T 93]],.bW true none 40 8 (T 94) 8])
 (.skip))))
 (.seq (.ops [.bT none 95 40 8 8,.bT none 96 40 10 10,.xs [dC 97 42 [(0,T 95),(1,T 96)]],.bW true none 42 2 (T 97) 2,.xs [aj 3 (C (.bool true))]])
 (.ret)))))))))))),[.cell 2 42,.tmp 3]⟩
def HV:cL:=⟨.seq (.ops [.xs [aj 4 (ai 0)]])
 (.seq (.ops [.xs [I 5 (T 0),I 6 (T 1),bi 7 .rem 3 (T 5) (T 6),I 8 (T 1),bi 9 .add 3 (T 7) (T 8),I 10 (T 1),bi 11 .rem 3 (T 9) (T 10),aj 4 (T 11)]])
 (.ret)),[.tmp 4]⟩
def Hu:cL:=⟨.seq (.ops [.cm 2 40 (T 0),.cm 3 40 (T 1),.bL 4 40])
 (.seq (.seq (.ops [.a9 none 5 40 2 0 2 0,.aF none 6 4 5 2 0,.a9 none 7 40 3 0 3 0,.aF none 8 4 7 3 0,.xs [bi 9 .eql 4 (T 6) (T 8)]])
 (.cond (T 9) (.seq (.ops [.a9 none 10 40 2 0 2 0,.aF none 11 4 10 2 0,.a9 none 12 40 2 1 2 1,.aF none 13 34 12 2 1,.a9 none 14 40 3 1 3 1,.aF none 15 34 14 3 1,
  .xs [bh (aS 16 82 [T 13,T 15]),dC 17 40 [(0,T 11),(1,T 16)],aS 18 72 [T 17]],.bW true none 40 4 (T 18) 4])
 (.ret))
 (.skip)))
 (.seq (.seq (.ops [.a9 none 19 40 2 1 2 1,.aF none 20 34 19 2 1,.a9 none 21 40 3 1 3 1,.aF none 22 34 21 3 1,
  .xs [aS 23 83 [T 20,T 22],bi 24 .geq 3 (T 23) (ai 0)]])
 (.cond (T 24) (.seq (.ops [.a9 none 25 40 2 0 2 0,.aF none 26 4 25 2 0,.a9 none 27 40 2 1 2 1,.aF none 28 34 27 2 1,.a9 none 29 40 3 1 3 1,.aF none 30 34 29 3 1,
  .xs [bh (aS 31 84 [T 28,T 30]),dC 32 40 [(0,T 26),(1,T 31)],aS 33 72 [T 32]],.bW true none 40 4 (T 33) 4])
 (.ret))
 (.skip)))
 (.seq (.ops [.a9 none 34 40 3 0 3 0,.aF none 35 4 34 3 0,.a9 none 36 40 3 1 3 1,.aF none 37 34 36 3 1,.a9 none 38 40 2 1 2 1,.aF none 39 34 38 2 1,
  .xs [bh (aS 40 84 [T 37,T 39]),dC 41 40 [(0,T 35),(1,T 40)],aS 42 72 [T 41]],.bW true none 40 4 (T 42) 4])
 (.ret)))),[.cell 4 40]⟩
def Iq:cL:=⟨.seq (.ops [.cm 1 74 (T 0),.xs [aj 2 (C (.slice none 0 0))]])
 (.seq (.ops [.xs [aj 3 (C (.slice none 0 0))]])
 (.seq (.seq (.ops [.a9 none 17 74 1 0 1 0,.aF none 18 72 17 1 0,.xs [bA 19 72 (T 18),I 20 (ai 0)]])
 (.block 0 (.loop 1072693288 0 (.seq (.ops [.xs [bi 21 .lss 3 (T 20) (T 19)]])
 (.seq (.cond (T 21) (.skip)
 (.exit 0))
 (.seq (.block 1 (.seq (.ops [.xs [bn 22 72 (T 18) (T 20),aF 23 120 (T 22),aj 5 (T 23)]])
 (.ops [.xs [I 24 (T 3),I 25 (T 5),aS 26 85 [T 25],eF 27 72 1 [(0,T 26)],ap 28 72 72 (T 24) (T 27),aj 3 (T 28)]])))
 (.ops [.xs [bi 29 .add 3 (T 20) (ai 1),I 20 (T 29)]])))))))
 (.seq (.ops [.xs [I 30 (T 3),dC 31 74 [(0,T 30)]],.bL 6 74,.bW true none 74 6 (T 31) 6])
 (.seq (.ops [.xs [aj 7 (C (.slice none 0 0))]])
 (.seq (.block 2 (.loop 10889035741470030830827987437812287930240 18432 (.seq (.seq (.ops [.bT none 32 74 6 6,.xs [aS 33 65 [T 32,ai 0],aS 34 75 [T 33],bi 35 .gtr 3 (T 34) (ai 0)]])
 (.cond (T 35) (.skip)
 (.exit 2)))
 (.block 3 (.seq (.ops [.bT none 36 74 6 6,.xs [bh (eF 37 34 1 [(0,ai (-1))])],.bT none 38 74 6 6,
  .xs [bh (aS 39 49 [T 38]),bh (aS 40 60 [T 37,T 39]),dC 41 140 [(0,T 36),(1,T 40)],cm 42 140 (T 41),aj 8 (T 42)]])
 (.seq (.ops [.xs [I 43 (T 8),vn 44 (.func 86) #[T 43] #[],aj 9 (T 44)]])
 (.seq (.seq (.ops [.bT none 45 74 6 6,.xs [aS 46 48 [T 45],I 47 (ai 0)]])
 (.block 4 (.loop 1152780767118492672 0 (.seq (.ops [.xs [bi 48 .lss 3 (T 47) (T 46)]])
 (.seq (.cond (T 48) (.skip)
 (.exit 4))
 (.seq (.block 5 (.seq (.ops [.xs [I 49 (T 47),aj 10 (T 49)]])
 (.seq (.ops [.xs [I 50 (T 8)],.bT none 51 74 6 6,
  .xs [aS 52 49 [T 51],ms 53 115 (T 52) (T 52),iW 54 (T 50),a9 55 140 (T 54) 2,st 115 (T 55) (T 53)]])
 (.ops [.xs [I 56 (T 9),I 57 (T 10),nO 58 (T 56) [T 57]]]))))
 (.ops [.xs [bi 59 .add 3 (T 47) (ai 1),I 47 (T 59)]])))))))
 (.seq (.ops [.a9 none 60 74 6 0 6 0,.aF none 61 72 60 6 0,
  .xs [I 62 (T 8),iW 63 (T 62),a9 64 140 (T 63) 1,aF 65 34 (T 64),bn 66 34 (T 65) (ai 0),aF 67 3 (T 66),bn 68 72 (T 61) (T 67),aF 69 120 (T 68),bn 70 120 (T 69) (ai 0),aF 71 80 (T 70)],
  .bL 11 80,.bW true none 80 11 (T 71) 11])
 (.seq (.seq (.ops [.xs [I 72 (T 8),iW 73 (T 72),a9 74 140 (T 73) 1,aF 75 34 (T 74),bA 76 34 (T 75),I 77 (ai 0)]])
 (.block 6 (.loop 79228011398536885764897140736 18432 (.seq (.ops [.xs [bi 78 .lss 3 (T 77) (T 76)]])
 (.seq (.cond (T 78) (.skip)
 (.exit 6))
 (.seq (.box 39613476794222361482184650752 18432 (.block 7 (.seq (.ops [.xs [I 79 (T 77),bn 80 34 (T 75) (T 77),aF 81 3 (T 80),aj 12 (T 79),aj 13 (T 81)]])
 (.seq (.ops [.a9 none 82 74 6 0 6 0,.aF none 83 72 82 6 0,
  .xs [I 84 (T 13),bn 85 72 (T 83) (T 84),aF 86 120 (T 85),I 87 (T 12),bn 88 120 (T 86) (T 87),aF 89 80 (T 88)],.bL 14 80,
  .bW true none 80 14 (T 89) 14])
 (.seq (.ops [.bT none 90 80 14 14,.bT none 91 80 11 11,.xs [aS 92 35 [T 90,T 91],bi 93 .lss 3 (T 92) (ai 0)]])
 (.cond (T 93) (.ops [.bT none 94 80 14 14,.bW true none 80 11 (T 94) 11])
 (.skip)))))))
 (.ops [.xs [bi 95 .add 3 (T 77) (ai 1),I 77 (T 95)]])))))))
 (.seq (.seq (.ops [.xs [I 96 (T 8),iW 97 (T 96),a9 98 140 (T 97) 1,aF 99 34 (T 98),bA 100 34 (T 99),I 101 (ai 0)]])
 (.block 8 (.loop 21267645397257453510002109971079200768 0 (.seq (.ops [.xs [bi 102 .lss 3 (T 101) (T 100)]])
 (.seq (.cond (T 102) (.skip)
 (.exit 8))
 (.seq (.block 9 (.seq (.ops [.xs [I 103 (T 101),bn 104 34 (T 99) (T 101),aF 105 3 (T 104),aj 15 (T 103),aj 16 (T 105)]])
 (.ops [.a9 none 106 74 6 0 6 0,.aF none 107 72 106 6 0,.xs [I 108 (T 16),bn 109 72 (T 107) (T 108),aF 110 120 (T 109),I 111 (T 15)],
  .a9 none 112 74 6 0 6 0,.aF none 113 72 112 6 0,
  .xs [I 114 (T 16),bn 115 72 (T 113) (T 114),aF 116 120 (T 115),I 117 (T 15),bn 118 120 (T 116) (T 117),aF 119 80 (T 118)],
  .bT none 120 80 11 11,.xs [bh (aS 121 87 [T 119,T 120]),bn 122 120 (T 110) (T 111),st 80 (T 122) (T 121)]])))
 (.ops [.xs [bi 123 .add 3 (T 101) (ai 1),I 101 (T 123)]])))))))
 (.ops [.xs [I 124 (T 7)],.bT none 125 80 11 11,
  .xs [I 126 (T 8),iW 127 (T 126),a9 128 140 (T 127) 1,aF 129 34 (T 128),dC 130 113 [(0,T 125),(1,T 129)],eF 131 110 1 [(0,T 130)],ap 132 110 110 (T 124) (T 131),aj 7 (T 132)]])))))))))))
 (.seq (.ops [.xs [I 133 (T 7),aj 2 (T 133)]])
 (.ret))))))),[.tmp 2]⟩
def IB:cL:=⟨.seq (.ops [.xs [aj 4 (C (.slice none 0 0))]])
 (.seq (.box 3584 0 (.seq (.ops [.xs [I 9 (T 1),bi 10 .lss 3 (T 9) (ai 0)]])
 (.cond (T 10) (.ops [.xs [mI 11 9 (C (.string {data:= #[99,97,110,110,111,116,32,98,101,32,110,101,103,97,116,105,118,101]})),(⟨true,none,none,.panic (T 11)⟩)]])
 (.skip))))
 (.seq (.ops [.xs [I 13 (T 0),bA 14 34 (T 13),ch 15 3 142 (T 14),I 16 (T 1),ch 17 3 142 (T 16),aS 18 89 [T 15,T 17],I 12 (T 18),ex 19 (T 12) 0,ex 20 (T 12) 1,aj 5 (T 19),aj 6 (T 20)]])
 (.seq (.box 266338304 0 (.seq (.box 132120576 0 (.ops [.xs [I 21 (T 5),bi 22 .gtr 142 (T 21) (C (.int .u64 0)),I 23 (T 22),aL 23 false (I 24 (T 6)),aL 23 false ((bi 25 .gtr 142 (T 24) (C (.int .u64 9223372036854775807)))),cO 26 (T 23) (C (.bool true)) (T 25)]]))
 (.cond (T 26) (.ops [.xs [mI 27 9 (C (.string {data:= #[116,104,101,32,114,101,115,117,108,116,32,111,102,32,40,108,101,110,40,120,41,32,42,32,99,111,117,110,116,41,32,111,118,101,114,102,108,111,119,115]})),(⟨true,none,none,.panic (T 27)⟩)]])
 (.skip))))
 (.seq (.ops [.xs [I 28 (T 6),ch 29 142 3 (T 28),ms 30 34 (T 29) (T 29),aj 7 (T 30)]])
 (.seq (.ops [.xs [I 31 (T 7),I 32 (T 0),cp 33 34 34 (T 31) (T 32),aj 8 (T 33)]])
 (.seq (.block 0 (.loop 140720308486400 0 (.seq (.seq (.ops [.xs [I 34 (T 8),I 35 (T 7),bA 36 34 (T 35),bi 37 .lss 3 (T 34) (T 36)]])
 (.cond (T 37) (.skip)
 (.exit 0)))
 (.block 1 (.ops [.xs [I 38 (T 8),I 39 (T 7),I 40 (T 8),bh (fG 41 34 (T 39) (some (T 40)) none none),I 42 (T 7),I 43 (T 8),bh (fG 44 34 (T 42) none (some (T 43)) none),cp 45 34 34 (T 41) (T 44),bi 46 .add 3 (T 38) (T 45),aj 8 (T 46)]])))))
 (.seq (.ops [.xs [I 47 (T 7),aj 4 (T 47)]])
 (.ret)))))))),[.tmp 4]⟩
def Ir:cL:=⟨.seq (.ops [.cm 2 74 (T 0),.bL 4 80])
 (.seq (.ops [.xs [aS 8 59 [ai 0]],.bL 5 80,.bW true none 80 5 (T 8) 5])
 (.seq (.seq (.ops [.a9 none 9 74 2 0 2 0,.aF none 10 72 9 2 0,.xs [I 11 (T 1),bn 12 72 (T 10) (T 11),aF 13 120 (T 12),bA 14 120 (T 13),I 15 (ai 0)]])
 (.block 0 (.loop 8355968 160 (.seq (.ops [.xs [bi 16 .lss 3 (T 15) (T 14)]])
 (.seq (.cond (T 16) (.skip)
 (.exit 0))
 (.seq (.block 1 (.seq (.ops [.xs [bn 17 120 (T 13) (T 15),aF 18 80 (T 17)],.bL 7 80,.bW true none 80 7 (T 18) 7])
 (.ops [.bT none 19 80 5 5,.bT none 20 80 7 7,.xs [aS 21 77 [T 19,T 20]],.bW true none 80 5 (T 21) 5])))
 (.ops [.xs [bi 22 .add 3 (T 15) (ai 1),I 15 (T 22)]])))))))
 (.seq (.ops [.bT none 23 80 5 5,.bW true none 80 4 (T 23) 4])
 (.ret)))),[.cell 4 80]⟩
def Iv:cL:=⟨.seq (.ops [.cm 1 74 (T 0),.bL 2 74])
 (.seq (.ops [.bT none 14 74 1 1,.xs [bh (aS 15 48 [T 14])],.bT none 16 74 1 1,.xs [aS 17 49 [T 16],aj 3 (T 15),aj 4 (T 17)]])
 (.seq (.ops [.bT none 18 74 1 1,.xs [aS 19 34 [T 18]],.bL 5 74,.bW true none 74 5 (T 19) 5])
 (.seq (.ops [.bT none 21 74 1 1,.xs [aS 22 33 [T 21],I 20 (T 22),ex 23 (T 20) 0,ex 24 (T 20) 1],.bL 6 80,.bW true none 80 6 (T 23) 6,
  .xs [aj 7 (T 24)]])
 (.seq (.box 34326184704 320 (.seq (.ops [.bT none 26 74 5 5,.xs [aS 27 33 [T 26],I 25 (T 27),ex 28 (T 25) 0,ex 29 (T 25) 1],.bL 8 80,.bW true none 80 8 (T 28) 8,
  .xs [aj 9 (T 29)]])
 (.seq (.ops [.bT none 30 80 8 8,.bT none 31 80 6 6,.xs [aS 32 35 [T 30,T 31],bi 33 .gtr 3 (T 32) (ai 0)]])
 (.cond (T 33) (.ops [.bT none 34 80 8 8,.bW true none 80 6 (T 34) 6])
 (.skip)))))
 (.seq (.ops [.xs [I 35 (T 3),I 36 (T 4),bi 37 .add 3 (T 35) (T 36),ms 38 72 (T 37) (T 37),aj 10 (T 38)]])
 (.seq (.seq (.ops [.xs [I 39 (T 10),bA 40 72 (T 39),I 41 (ai 0)]])
 (.block 0 (.loop 18012199486228480 0 (.seq (.ops [.xs [bi 42 .lss 3 (T 41) (T 40)]])
 (.seq (.cond (T 42) (.skip)
 (.exit 0))
 (.seq (.block 1 (.seq (.ops [.xs [I 43 (T 41),aj 11 (T 43)]])
 (.ops [.xs [I 44 (T 10),I 45 (T 11),aS 46 59 [ai 0],eF 47 120 1 [(0,T 46)],I 48 (T 3),I 49 (T 4),bi 50 .add 3 (T 48) (T 49),aS 51 96 [T 47,T 50],bn 52 72 (T 44) (T 45),st 120 (T 52) (T 51)]])))
 (.ops [.xs [bi 53 .add 3 (T 41) (ai 1),I 41 (T 53)]])))))))
 (.seq (.seq (.ops [.xs [I 54 (T 3),I 55 (ai 0)]])
 (.block 2 (.loop 4835703242429719679864832 0 (.seq (.ops [.xs [bi 56 .lss 3 (T 55) (T 54)]])
 (.seq (.cond (T 56) (.skip)
 (.exit 2))
 (.seq (.block 3 (.seq (.ops [.xs [I 57 (T 55),aj 12 (T 57)]])
 (.seq (.ops [.xs [I 58 (T 10),I 59 (T 12),bn 60 72 (T 58) (T 59),aF 61 120 (T 60)],.a9 none 62 74 1 0 1 0,.aF none 63 72 62 1 0,
  .xs [I 64 (T 12),bn 65 72 (T 63) (T 64),aF 66 120 (T 65),cp 67 120 120 (T 61) (T 66)]])
 (.ops [.xs [I 68 (T 10),I 69 (T 12),bn 70 72 (T 68) (T 69),aF 71 120 (T 70),I 72 (T 4),I 73 (T 12),bi 74 .add 3 (T 72) (T 73)],
  .bT none 75 80 6 6,.bT none 76 74 1 1,
  .xs [I 77 (T 12),bh (aS 78 65 [T 76,T 77]),bh (aS 79 87 [T 75,T 78]),bn 80 120 (T 71) (T 74),st 80 (T 80) (T 79)]]))))
 (.ops [.xs [bi 81 .add 3 (T 55) (ai 1),I 55 (T 81)]])))))))
 (.seq (.seq (.ops [.xs [I 82 (T 4),I 83 (ai 0)]])
 (.block 4 (.loop 20769187424467903957204951919239168 0 (.seq (.ops [.xs [bi 84 .lss 3 (T 83) (T 82)]])
 (.seq (.cond (T 84) (.skip)
 (.exit 4))
 (.seq (.block 5 (.seq (.ops [.xs [I 85 (T 83),aj 13 (T 85)]])
 (.seq (.ops [.xs [I 86 (T 10),I 87 (T 3),I 88 (T 13),bi 89 .add 3 (T 87) (T 88),bn 90 72 (T 86) (T 89),aF 91 120 (T 90),I 92 (T 4),bh (fG 93 120 (T 91) (some (T 92)) none none)],
  .a9 none 94 74 5 0 5 0,.aF none 95 72 94 5 0,.xs [I 96 (T 13),bn 97 72 (T 95) (T 96),aF 98 120 (T 97),cp 99 120 120 (T 93) (T 98)]])
 (.ops [.xs [I 100 (T 10),I 101 (T 3),I 102 (T 13),bi 103 .add 3 (T 101) (T 102),bn 104 72 (T 100) (T 103),aF 105 120 (T 104),I 106 (T 13)],
  .bT none 107 80 6 6,.bT none 108 74 5 5,
  .xs [I 109 (T 13),bh (aS 110 65 [T 108,T 109]),bh (aS 111 87 [T 107,T 110]),bn 112 120 (T 105) (T 106),st 80 (T 112) (T 111)]]))))
 (.ops [.xs [bi 113 .add 3 (T 83) (ai 1),I 83 (T 113)]])))))))
 (.seq (.ops [.xs [I 114 (T 10),dC 115 74 [(0,T 114)]],.bW true none 74 2 (T 115) 2])
 (.ret)))))))))),[.cell 2 74]⟩
def Hz:cL:=⟨.seq (.ops [.cm 2 40 (T 0),.cm 3 40 (T 1),.bL 4 40])
 (.seq (.ops [.bT none 7 40 2 2,.xs [bh (aS 8 53 [T 7])],.bT none 9 40 3 3,.xs [aS 10 53 [T 9]],.bW true none 40 2 (T 8) 2,.bW true none 40 3 (T 10) 3])
 (.seq (.block 0 (.loop 8386656 108 (.seq (.seq (.ops [.a9 none 11 40 3 1 3 1,.aF none 12 34 11 3 1,.xs [bA 13 34 (T 12),bi 14 .gtr 3 (T 13) (ai 0)]])
 (.cond (T 14) (.skip)
 (.exit 0)))
 (.block 1 (.seq (.ops [.bT none 16 40 2 2,.bT none 17 40 3 3,.xs [aS 18 70 [T 16,T 17],I 15 (T 18),ex 19 (T 15) 0,ex 20 (T 15) 1],.bL 5 40,.bL 6 40,
  .bW true none 40 5 (T 19) 5,.bW true none 40 6 (T 20) 6])
 (.opsL [.bT none 21 40 3 3,.bT none 22 40 6 6,.bW false none 40 2 (T 21) 2,.bW true none 40 3 (T 22) 3]))))))
 (.seq (.ops [.bT none 23 40 2 2,.bW true none 40 4 (T 23) 4])
 (.ret)))),[.cell 4 40]⟩
def Hy:cL:=⟨.seq (.ops [.cm 2 40 (T 0),.cm 3 40 (T 1),.bL 4 40,.bL 5 40])
 (.seq (.ops [.a9 none 14 40 2 1 2 1,.aF none 15 34 14 2 1,.xs [bA 16 34 (T 15),ms 17 34 (T 16) (T 16),eF 18 34 0 [],aj 6 (T 17),aj 7 (T 18)]])
 (.seq (.seq (.ops [.a9 none 19 40 2 1 2 1,.aF none 20 34 19 2 1,.xs [bA 21 34 (T 20),bi 22 .sub 3 (T 21) (ai 1),aj 8 (T 22)]])
 (.block 0 (.loop 295147905179344441216 0 (.seq (.seq (.ops [.xs [I 23 (T 8),bi 24 .geq 3 (T 23) (ai 0)]])
 (.cond (T 24) (.skip)
 (.exit 0)))
 (.seq (.block 1 (.seq (.ops [.a9 none 27 40 2 1 2 1,.aF none 28 34 27 2 1,
  .xs [I 29 (T 8),bn 30 34 (T 28) (T 29),aF 31 3 (T 30),eF 32 34 1 [(0,T 31)],I 33 (T 7),ap 34 34 34 (T 32) (T 33),dC 35 40 [(1,T 34)],aS 36 72 [T 35],mZ 37 40 (T 36) 1,aj 7 (T 37)]])
 (.seq (.ops [.xs [aj 9 (ai 0),aj 10 (ai 10000)]])
 (.seq (.block 2 (.loop 36028522141060608 0 (.seq (.seq (.ops [.xs [I 38 (T 10),I 39 (T 9),bi 40 .sub 3 (T 38) (T 39),bi 41 .gtr 3 (T 40) (ai 1)]])
 (.cond (T 41) (.skip)
 (.exit 2)))
 (.block 3 (.seq (.ops [.xs [I 42 (T 9),I 43 (T 10),bi 44 .add 3 (T 42) (T 43),bi 45 .quo 3 (T 44) (ai 2),aj 11 (T 45)]])
 (.seq (.ops [.a9 none 46 40 3 1 3 1,.aF none 47 34 46 3 1,
  .xs [I 48 (T 11),aS 49 97 [T 47,T 48],I 50 (T 7),aS 51 83 [T 49,T 50],bi 52 .leq 3 (T 51) (ai 0)]])
 (.cond (T 52) (.ops [.xs [I 53 (T 11),aj 9 (T 53)]])
 (.ops [.xs [I 54 (T 11),aj 10 (T 54)]]))))))))
 (.seq (.ops [.xs [I 55 (T 6),I 56 (T 8),I 57 (T 9),bn 58 34 (T 55) (T 56),st 3 (T 58) (T 57)]])
 (.ops [.xs [I 59 (T 7)],.a9 none 60 40 3 1 3 1,.aF none 61 34 60 3 1,
  .xs [I 62 (T 9),aS 63 97 [T 61,T 62],aS 64 84 [T 59,T 63],dC 65 40 [(1,T 64)],aS 66 72 [T 65],mZ 67 40 (T 66) 1,aj 7 (T 67)]]))))))
 (.ops [.xs [I 25 (T 8),bi 26 .sub 3 (T 25) (ai 1),aj 8 (T 26)]]))))))
 (.seq (.ops [.a9 none 68 40 2 0 2 0,.aF none 69 4 68 2 0,
  .xs [I 70 (T 6),dC 71 40 [(0,T 69),(1,T 70)],aS 72 72 [T 71],I 73 (T 7),dC 74 40 [(1,T 73)],aS 75 72 [T 74]],.bL 12 40,
  .bL 13 40,.bW true none 40 12 (T 72) 12,.bW true none 40 13 (T 75) 13])
 (.seq (.seq (.box 19267255250108152471879680 0 (.ops [.a9 none 76 40 2 0 2 0,.aF none 77 4 76 2 0,.xs [I 78 (T 77)],.a9 (some (78,true)) 79 40 13 1 13 1,.aF (some (78,true)) 80 34 79 13 1,
  .xs [aL 78 true (bA 81 34 (T 80)),aL 78 true (bi 82 .gtr 3 (T 81) (ai 0)),cO 83 (T 78) (T 82) (C (.bool false))]]))
 (.cond (T 83) (.seq (.ops [.bT none 84 40 12 12,.xs [bh (aS 85 46 [ai 1]),bh (aS 86 71 [T 84,T 85])],.bT none 87 40 3 3,.bT none 88 40 13 13,
  .xs [aS 89 71 [T 87,T 88]],.bW true none 40 4 (T 86) 4,.bW true none 40 5 (T 89) 5])
 (.ret))
 (.skip)))
 (.seq (.opsL [.bT none 90 40 12 12,.bT none 91 40 13 13,.bW false none 40 4 (T 90) 4,.bW true none 40 5 (T 91) 5])
 (.ret)))))),[.cell 4 40,.cell 5 40]⟩
def HH:cL:=⟨.seq (.ops [.cm 2 40 (T 0),.cm 3 40 (T 1),.bL 4 40])
 (.seq (.ops [.bT none 5 40 2 2,.bT none 6 40 3 3,.xs [bh (aS 7 81 [T 6]),aS 8 56 [T 5,T 7]],.bW true none 40 4 (T 8) 4])
 (.ret)),[.cell 4 40]⟩
def HL:cL:=⟨.seq (.ops [.cm 1 40 (T 0),.bL 2 40])
 (.seq (.ops [.a9 none 4 40 1 1 1 1,.aF none 5 34 4 1 1,.xs [bA 6 34 (T 5),aj 3 (T 6)]])
 (.seq (.block 0 (.loop 1048456 0 (.seq (.seq (.box 262016 0 (.ops [.xs [I 7 (T 3),bi 8 .gtr 3 (T 7) (ai 0),I 9 (T 8)],.a9 (some (9,true)) 10 40 1 1 1 1,.aF (some (9,true)) 11 34 10 1 1,
  .xs [aL 9 true (I 12 (T 3)),aL 9 true (bi 13 .sub 3 (T 12) (ai 1)),aL 9 true (bn 14 34 (T 11) (T 13)),aL 9 true (aF 15 3 (T 14)),aL 9 true (bi 16 .eql 3 (T 15) (ai 0)),cO 17 (T 9) (T 16) (C (.bool false))]]))
 (.cond (T 17) (.skip)
 (.exit 0)))
 (.block 1 (.ops [.xs [I 18 (T 3),bi 19 .sub 3 (T 18) (ai 1),aj 3 (T 19)]])))))
 (.seq (.ops [.xs [eF 20 34 0 []],.a9 none 21 40 1 1 1 1,.aF none 22 34 21 1 1,
  .xs [I 23 (T 3),fG 24 34 (T 22) none (some (T 23)) none,ap 25 34 34 (T 20) (T 24)],.a9 none 26 40 1 1 1 1,.st true none 34 26 (T 25) 1 1])
 (.seq (.box 17045651456 2 (.ops [.a9 none 27 40 1 0 1 0,.aF none 28 4 27 1 0,
  .xs [I 29 (T 28),aL 29 true (I 30 (T 3)),aL 29 true (bi 31 .gtr 3 (T 30) (ai 0)),cO 32 (T 29) (T 31) (C (.bool false))],
  .a9 none 33 40 1 0 1 0,.st true none 4 33 (T 32) 1 0]))
 (.seq (.ops [.bT none 34 40 1 1,.bW true none 40 2 (T 34) 2])
 (.ret)))))),[.cell 2 40]⟩
def IA:cL:=⟨.seq (.ops [.xs [aj 4 (C (.slice none 0 0))]])
 (.seq (.box 3584 0 (.seq (.ops [.xs [I 9 (T 1),bi 10 .lss 3 (T 9) (ai 0)]])
 (.cond (T 10) (.ops [.xs [mI 11 9 (C (.string {data:= #[99,97,110,110,111,116,32,98,101,32,110,101,103,97,116,105,118,101]})),(⟨true,none,none,.panic (T 11)⟩)]])
 (.skip))))
 (.seq (.ops [.xs [I 13 (T 0),bA 14 22 (T 13),ch 15 3 142 (T 14),I 16 (T 1),ch 17 3 142 (T 16),aS 18 89 [T 15,T 17],I 12 (T 18),ex 19 (T 12) 0,ex 20 (T 12) 1,aj 5 (T 19),aj 6 (T 20)]])
 (.seq (.box 266338304 0 (.seq (.box 132120576 0 (.ops [.xs [I 21 (T 5),bi 22 .gtr 142 (T 21) (C (.int .u64 0)),I 23 (T 22),aL 23 false (I 24 (T 6)),aL 23 false ((bi 25 .gtr 142 (T 24) (C (.int .u64 9223372036854775807)))),cO 26 (T 23) (C (.bool true)) (T 25)]]))
 (.cond (T 26) (.ops [.xs [mI 27 9 (C (.string {data:= #[116,104,101,32,114,101,115,117,108,116,32,111,102,32,40,108,101,110,40,120,41,32,42,32,99,111,117,110,116,41,32,111,118,101,114,102,108,111,119,115]})),(⟨true,none,none,.panic (T 27)⟩)]])
 (.skip))))
 (.seq (.ops [.xs [I 28 (T 6),ch 29 142 3 (T 28),ms 30 22 (T 29) (T 29),aj 7 (T 30)]])
 (.seq (.ops [.xs [I 31 (T 7),I 32 (T 0),cp 33 22 22 (T 31) (T 32),aj 8 (T 33)]])
 (.seq (.block 0 (.loop 140720308486400 0 (.seq (.seq (.ops [.xs [I 34 (T 8),I 35 (T 7),bA 36 22 (T 35),bi 37 .lss 3 (T 34) (T 36)]])
 (.cond (T 37) (.skip)
 (.exit 0)))
 (.block 1 (.ops [.xs [I 38 (T 8),I 39 (T 7),I 40 (T 8),bh (fG 41 22 (T 39) (some (T 40)) none none),I 42 (T 7),I 43 (T 8),bh (fG 44 22 (T 42) none (some (T 43)) none),cp 45 22 22 (T 41) (T 44),bi 46 .add 3 (T 38) (T 45),aj 8 (T 46)]])))))
 (.seq (.ops [.xs [I 47 (T 7),aj 4 (T 47)]])
 (.ret)))))))),[.tmp 4]⟩
def H2:cL:=⟨.seq (.ops [.bL 2 80,.xs [aj 3 (C (.bool false))]])
 (.seq (.ops [.xs [I 15 (T 0),aS 16 98 [T 15,C (.string {data:= #[47]})],I 14 (T 16),ex 17 (T 14) 0,ex 18 (T 14) 1,ex 19 (T 14) 2,aj 4 (T 17),aj 5 (T 18),aj 6 (T 19)]])
 (.seq (.ops [.xs [I 21 (T 4),aS 22 99 [T 21,C (.string {data:= #[45]})],I 20 (T 22),ex 23 (T 20) 0,ex 24 (T 20) 1,aj 7 (T 23),aj 8 (T 24)]])
 (.seq (.ops [.xs [I 26 (T 7),aS 27 100 [T 26],I 25 (T 27),ex 28 (T 25) 0,ex 29 (T 25) 1,aj 9 (T 28),aj 10 (T 29)]])
 (.seq (.ops [.xs [eF 30 76 1 [(0,C (.int .u32 1))],aj 11 (T 30),aj 12 (C (.bool true))]])
 (.seq (.box 17590038566912 0 (.seq (.ops [.xs [I 31 (T 6)]])
 (.cond (T 31) (.seq (.ops [.xs [I 33 (T 5),aS 34 100 [T 33],I 32 (T 34),ex 35 (T 32) 0,ex 36 (T 32) 1,aj 11 (T 35),aj 12 (T 36)]])
 (.ops [.xs [I 37 (T 12),I 38 (T 37),aL 38 true (I 39 (T 11)),aL 38 true ((eF 40 76 1 [(0,C (.int .u32 1))])),aL 38 true (aS 41 101 [T 39,T 40]),aL 38 true (bi 42 .gtr 3 (T 41) (ai 0)),cO 43 (T 38) (T 42) (C (.bool false)),aj 12 (T 43)]]))
 (.skip))))
 (.seq (.seq (.box 288212783965667328 0 (.ops [.xs [I 44 (T 10),un 45 .not (T 44),I 46 (T 45),aL 46 false (I 47 (T 12)),aL 46 false (un 48 .not (T 47)),cO 49 (T 46) (C (.bool true)) (T 48),I 50 (T 49),aL 50 false (I 51 (T 8)),aL 50 false (I 52 (T 51)),aL 52 true (I 53 (T 9)),aL 52 true (bA 54 76 (T 53)),aL 52 true (bi 55 .eql 3 (T 54) (ai 0)),aL 50 false ((cO 56 (T 52) (T 55) (C (.bool false)))),cO 57 (T 50) (C (.bool true)) (T 56)]]))
 (.cond (T 57) (.seq (.ops [.xs [dC 58 80 []],.bW true none 80 2 (T 58) 2,.xs [aj 3 (C (.bool false))]])
 (.ret))
 (.skip)))
 (.seq (.ops [.xs [I 59 (T 8),I 60 (T 9),aS 61 92 [T 59,T 60],I 62 (T 11),aS 63 92 [C (.bool false),T 62],dC 64 80 [(0,T 61),(1,T 63)]],
  .bL 13 80,.bW true none 80 13 (T 64) 13])
 (.seq (.box 302194561415509874573320 4 (.ops [.bT none 65 80 13 13,.xs [I 66 (T 6),un 67 .not (T 66),I 68 (T 67)],.a9 (some (68,false)) 69 80 13 0 13 0,
  .aF (some (68,false)) 70 78 69 13 0,.a9 (some (68,false)) 71 80 13 1 13 2,.aF (some (68,false)) 72 78 71 13 2,
  .xs [aL 68 false (bh (aS 73 102 [T 70,T 72])),aL 68 false (bh (aS 74 88 [ai 1])),aL 68 false (bh (aS 75 67 [T 73,T 74])),aL 68 false (bi 76 .eql 3 (T 75) (ai 0)),cO 77 (T 68) (C (.bool true)) (T 76)],
  .bW true none 80 2 (T 65) 2,.xs [aj 3 (T 77)]]))
 (.ret))))))))),[.cell 2 80,.tmp 3]⟩
def Iy:cL:=⟨.seq (.ops [.xs [aj 4 (C (.bool false))]])
 (.seq (.ops [.xs [I 5 (T 0),I 6 (T 1),aS 7 103 [T 5,T 6],bi 8 .geq 3 (T 7) (ai 0),aj 4 (T 8)]])
 (.ret)),[.tmp 4]⟩
def H3:cL:=⟨.seq (.ops [.cm 2 80 (T 0),.cm 3 80 (T 1),.bL 4 80])
 (.seq (.seq (.box 2016 0 (.ops [.bT none 5 80 2 2,.xs [aS 6 79 [T 5],I 7 (T 6)],.bT (some (7,true)) 8 80 3 3,
  .xs [aL 7 true (aS 9 79 [T 8]),cO 10 (T 7) (T 9) (C (.bool false))]]))
 (.cond (T 10) (.seq (.ops [.a9 none 11 80 2 0 2 0,.aF none 12 78 11 2 0,.a9 none 13 80 3 0 3 0,.aF none 14 78 13 3 0,.xs [aS 15 105 [T 12,T 14],aS 16 104 [T 15]],
  .bW true none 80 4 (T 16) 4])
 (.ret))
 (.skip)))
 (.seq (.ops [.a9 none 17 80 2 0 2 0,.aF none 18 78 17 2 0,.a9 none 19 80 3 1 3 2,.aF none 20 78 19 3 2,.xs [bh (aS 21 66 [T 18,T 20])],
  .a9 none 22 80 3 0 3 0,.aF none 23 78 22 3 0,.a9 none 24 80 2 1 2 2,.aF none 25 78 24 2 2,
  .xs [bh (aS 26 66 [T 23,T 25]),bh (aS 27 105 [T 21,T 26])],.a9 none 28 80 2 1 2 2,.aF none 29 78 28 2 2,.a9 none 30 80 3 1 3 2,
  .aF none 31 78 30 3 2,.xs [aS 32 66 [T 29,T 31],aS 33 106 [T 27,T 32]],.bW true none 80 4 (T 33) 4])
 (.ret))),[.cell 4 80]⟩
def Ic:cL:=⟨.seq (.ops [.xs [aj 2 (C (.string {data:= #[]}))]])
 (.seq (.seq (.ops [.xs [I 7 (T 0),bA 8 76 (T 7),bi 9 .eql 3 (T 8) (ai 0)]])
 (.cond (T 9) (.seq (.ops [.xs [aj 2 (C (.string {data:= #[48]}))]])
 (.ret))
 (.skip)))
 (.seq (.ops [.xs [aj 3 (C (.slice none 0 0))]])
 (.seq (.block 0 (.loop 2199023254649 0 (.seq (.seq (.ops [.xs [I 10 (T 0),bA 11 76 (T 10),bi 12 .gtr 3 (T 11) (ai 0)]])
 (.cond (T 12) (.skip)
 (.exit 0)))
 (.block 1 (.seq (.ops [.xs [I 14 (T 0),aS 15 107 [T 14,C (.int .u32 1000000000)],I 13 (T 15),ex 16 (T 13) 0,ex 17 (T 13) 1,aj 4 (T 16),aj 5 (T 17)]])
 (.seq (.seq (.ops [.xs [aj 6 (ai 0)]])
 (.block 2 (.loop 1099511365736 0 (.seq (.seq (.box 536608768 0 (.ops [.xs [I 18 (T 6),bi 19 .lss 3 (T 18) (ai 9),I 20 (T 19),aL 20 true (I 21 (T 4)),aL 20 true (bA 22 76 (T 21)),aL 20 true (bi 23 .gtr 3 (T 22) (ai 0)),aL 20 true (I 24 (T 23)),aL 24 false (I 25 (T 5)),aL 24 false ((bi 26 .gtr 124 (T 25) (C (.int .u32 0)))),aL 20 true ((cO 27 (T 24) (C (.bool true)) (T 26))),cO 28 (T 20) (T 27) (C (.bool false))]]))
 (.cond (T 28) (.skip)
 (.exit 2)))
 (.seq (.block 3 (.seq (.ops [.xs [I 31 (T 3),I 32 (T 5),bi 33 .rem 124 (T 32) (C (.int .u32 10)),bi 34 .add 124 (C (.int .u32 48)) (T 33),ch 35 124 5 (T 34),eF 36 61 1 [(0,T 35)],ap 37 61 61 (T 31) (T 36),aj 3 (T 37)]])
 (.ops [.xs [I 38 (T 5),bi 39 .quo 124 (T 38) (C (.int .u32 10)),aj 5 (T 39)]])))
 (.ops [.xs [I 29 (T 6),bi 30 .add 3 (T 29) (ai 1),aj 6 (T 30)]]))))))
 (.ops [.xs [I 40 (T 4),aj 0 (T 40)]])))))))
 (.seq (.ops [.xs [I 41 (T 3),aS 42 108 [T 41]]])
 (.seq (.ops [.xs [I 43 (T 3),ch 44 61 9 (T 43),aj 2 (T 44)]])
 (.ret)))))),[.tmp 2]⟩
def HK:cL:=⟨.seq (.ops [.bL 2 40,.xs [aj 3 (C (.bool false))]])
 (.seq (.seq (.box 67108608 0 (.ops [.xs [I 8 (T 0),bA 9 9 (T 8),bi 10 .lss 3 (T 9) (ai 1),I 11 (T 10),aL 11 false (I 12 (T 0)),aL 11 false (bA 13 9 (T 12)),aL 11 false (bi 14 .gtr 3 (T 13) (ai 4000)),cO 15 (T 11) (C (.bool true)) (T 14),I 16 (T 15),aL 16 false (I 17 (T 0)),aL 16 false (ek 18 9 (T 17) (ai 0)),aL 16 false ((bi 19 .eql 5 (T 18) (C (.int .u8 48)))),aL 16 false (I 20 (T 19)),aL 20 true (I 21 (T 0)),aL 20 true (bA 22 9 (T 21)),aL 20 true (bi 23 .gtr 3 (T 22) (ai 1)),aL 16 false ((cO 24 (T 20) (T 23) (C (.bool false)))),cO 25 (T 16) (C (.bool true)) (T 24)]]))
 (.cond (T 25) (.seq (.ops [.xs [dC 26 40 []],.bW true none 40 2 (T 26) 2,.xs [aj 3 (C (.bool false))]])
 (.ret))
 (.skip)))
 (.seq (.ops [.xs [dC 27 40 []],.bL 4 40,.bW true none 40 4 (T 27) 4])
 (.seq (.seq (.ops [.xs [I 28 (T 0),bA 29 9 (T 28),aj 5 (T 29)]])
 (.block 0 (.loop 147573952588602671336 20 (.seq (.seq (.ops [.xs [I 30 (T 5),bi 31 .gtr 3 (T 30) (ai 0)]])
 (.cond (T 31) (.skip)
 (.exit 0)))
 (.seq (.block 1 (.seq (.ops [.xs [aj 6 (ai 0)]])
 (.seq (.seq (.ops [.xs [I 34 (T 5),bi 35 .sub 3 (T 34) (ai 4),vo 36 [3,3] (ai 0) (T 35),aj 7 (T 36)]])
 (.block 2 (.loop 2305842871774740680 4 (.seq (.seq (.ops [.xs [I 37 (T 7),I 38 (T 5),bi 39 .lss 3 (T 37) (T 38)]])
 (.cond (T 39) (.skip)
 (.exit 2)))
 (.seq (.block 3 (.seq (.seq (.box 4499201580859392 0 (.ops [.xs [I 42 (T 0),I 43 (T 7),ek 44 9 (T 42) (T 43),bi 45 .lss 5 (T 44) (C (.int .u8 48)),I 46 (T 45),aL 46 false (I 47 (T 0)),aL 46 false (I 48 (T 7)),aL 46 false (ek 49 9 (T 47) (T 48)),aL 46 false ((bi 50 .gtr 5 (T 49) (C (.int .u8 57)))),cO 51 (T 46) (C (.bool true)) (T 50)]]))
 (.cond (T 51) (.seq (.ops [.xs [dC 52 40 []],.bW true none 40 2 (T 52) 2,.xs [aj 3 (C (.bool false))]])
 (.ret))
 (.skip)))
 (.ops [.xs [I 53 (T 6),bi 54 .mul 3 (ai 10) (T 53),I 55 (T 0),I 56 (T 7),ek 57 9 (T 55) (T 56),bi 58 .sub 5 (T 57) (C (.int .u8 48)),ch 59 5 3 (T 58),bi 60 .add 3 (T 54) (T 59),aj 6 (T 60)]])))
 (.ops [.xs [I 40 (T 7),bi 41 .add 3 (T 40) (ai 1),aj 7 (T 41)]]))))))
 (.ops [.a9 none 61 40 4 1 4 1,.aF none 62 34 61 4 1,.xs [I 63 (T 6),eF 64 34 1 [(0,T 63)],ap 65 34 34 (T 62) (T 64)],.a9 none 66 40 4 1 4 1,
  .st true none 34 66 (T 65) 4 1]))))
 (.ops [.xs [I 32 (T 5),bi 33 .sub 3 (T 32) (ai 4),aj 5 (T 33)]]))))))
 (.seq (.ops [.bT none 67 40 4 4,.xs [aS 68 72 [T 67]],.bW true none 40 2 (T 68) 2,.xs [aj 3 (C (.bool true))]])
 (.ret))))),[.cell 2 40,.tmp 3]⟩
def HD:cL:=⟨.seq (.ops [.cm 1 40 (T 0),.bL 2 40])
 (.seq (.box 8184 2 (.ops [.a9 none 3 40 1 0 1 0,.aF none 4 4 3 1 0,.xs [un 5 .not (T 4),I 6 (T 5)],.a9 (some (6,true)) 7 40 1 1 1 1,.aF (some (6,true)) 8 34 7 1 1,
  .xs [aL 6 true (bA 9 34 (T 8)),aL 6 true (bi 10 .gtr 3 (T 9) (ai 0)),cO 11 (T 6) (T 10) (C (.bool false))],.a9 none 12 40 1 0 1 0,
  .st true none 4 12 (T 11) 1 0]))
 (.seq (.ops [.bT none 13 40 1 1,.bW true none 40 2 (T 13) 2])
 (.ret))),[.cell 2 40]⟩
def HN:cL:=⟨.seq (.ops [.xs [aj 4 (C (.slice none 0 0))]])
 (.seq (.ops [.xs [eF 9 34 0 [],aj 5 (T 9),aj 6 (ai 0)]])
 (.seq (.seq (.ops [.xs [aj 7 (ai 0)]])
 (.block 0 (.loop 18014398509481440 0 (.seq (.seq (.box 16776192 0 (.ops [.xs [I 10 (T 7),I 11 (T 0),bA 12 34 (T 11),bi 13 .lss 3 (T 10) (T 12),I 14 (T 13),aL 14 false (I 15 (T 7)),aL 14 false (I 16 (T 1)),aL 14 false (bA 17 34 (T 16)),aL 14 false (bi 18 .lss 3 (T 15) (T 17)),cO 19 (T 14) (C (.bool true)) (T 18),I 20 (T 19),aL 20 false (I 21 (T 6)),aL 20 false (bi 22 .gtr 3 (T 21) (ai 0)),cO 23 (T 20) (C (.bool true)) (T 22)]]))
 (.cond (T 23) (.skip)
 (.exit 0)))
 (.seq (.block 1 (.seq (.ops [.xs [I 26 (T 6),aj 8 (T 26)]])
 (.seq (.box 137304736000 0 (.seq (.ops [.xs [I 27 (T 7),I 28 (T 0),bA 29 34 (T 28),bi 30 .lss 3 (T 27) (T 29)]])
 (.cond (T 30) (.ops [.xs [I 31 (T 8),I 32 (T 0),I 33 (T 7),bn 34 34 (T 32) (T 33),aF 35 3 (T 34),bi 36 .add 3 (T 31) (T 35),aj 8 (T 36)]])
 (.skip))))
 (.seq (.box 140600049402112 0 (.seq (.ops [.xs [I 37 (T 7),I 38 (T 1),bA 39 34 (T 38),bi 40 .lss 3 (T 37) (T 39)]])
 (.cond (T 40) (.ops [.xs [I 41 (T 8),I 42 (T 1),I 43 (T 7),bn 44 34 (T 42) (T 43),aF 45 3 (T 44),bi 46 .add 3 (T 41) (T 45),aj 8 (T 46)]])
 (.skip))))
 (.ops [.xs [I 47 (T 5),I 48 (T 8),bi 49 .rem 3 (T 48) (ai 10000),eF 50 34 1 [(0,T 49)],ap 51 34 34 (T 47) (T 50),I 52 (T 8),bi 53 .quo 3 (T 52) (ai 10000),aj 5 (T 51),aj 6 (T 53)]])))))
 (.ops [.xs [I 24 (T 7),bi 25 .add 3 (T 24) (ai 1),aj 7 (T 25)]]))))))
 (.seq (.ops [.xs [I 54 (T 5),aj 4 (T 54)]])
 (.ret)))),[.tmp 4]⟩
def HO:cL:=⟨.seq (.ops [.xs [aj 4 (ai 0)]])
 (.seq (.seq (.ops [.xs [I 6 (T 0),bA 7 34 (T 6),I 8 (T 1),bA 9 34 (T 8),bi 10 .neq 3 (T 7) (T 9)]])
 (.cond (T 10) (.seq (.seq (.ops [.xs [I 11 (T 0),bA 12 34 (T 11),I 13 (T 1),bA 14 34 (T 13),bi 15 .lss 3 (T 12) (T 14)]])
 (.cond (T 15) (.seq (.ops [.xs [aj 4 (ai (-1))]])
 (.ret))
 (.skip)))
 (.seq (.ops [.xs [aj 4 (ai 1)]])
 (.ret)))
 (.skip)))
 (.seq (.seq (.ops [.xs [I 16 (T 0),bA 17 34 (T 16),bi 18 .sub 3 (T 17) (ai 1),aj 5 (T 18)]])
 (.block 0 (.loop 2199022731312 0 (.seq (.seq (.ops [.xs [I 19 (T 5),bi 20 .geq 3 (T 19) (ai 0)]])
 (.cond (T 20) (.skip)
 (.exit 0)))
 (.seq (.block 1 (.seq (.seq (.ops [.xs [I 23 (T 0),I 24 (T 5),bn 25 34 (T 23) (T 24),aF 26 3 (T 25),I 27 (T 1),I 28 (T 5),bn 29 34 (T 27) (T 28),aF 30 3 (T 29),bi 31 .lss 3 (T 26) (T 30)]])
 (.cond (T 31) (.seq (.ops [.xs [aj 4 (ai (-1))]])
 (.ret))
 (.skip)))
 (.seq (.ops [.xs [I 32 (T 0),I 33 (T 5),bn 34 34 (T 32) (T 33),aF 35 3 (T 34),I 36 (T 1),I 37 (T 5),bn 38 34 (T 36) (T 37),aF 39 3 (T 38),bi 40 .gtr 3 (T 35) (T 39)]])
 (.cond (T 40) (.seq (.ops [.xs [aj 4 (ai 1)]])
 (.ret))
 (.skip)))))
 (.ops [.xs [I 21 (T 5),bi 22 .sub 3 (T 21) (ai 1),aj 5 (T 22)]]))))))
 (.seq (.ops [.xs [aj 4 (ai 0)]])
 (.ret)))),[.tmp 4]⟩
def HM:cL:=⟨.seq (.ops [.xs [aj 4 (C (.slice none 0 0))]])
 (.seq (.ops [.xs [eF 9 34 0 [],aj 5 (T 9),aj 6 (ai 0)]])
 (.seq (.seq (.ops [.xs [aj 7 (ai 0)]])
 (.block 0 (.loop 1099511627232 0 (.seq (.seq (.ops [.xs [I 10 (T 7),I 11 (T 0),bA 12 34 (T 11),bi 13 .lss 3 (T 10) (T 12)]])
 (.cond (T 13) (.skip)
 (.exit 0)))
 (.seq (.block 1 (.seq (.ops [.xs [I 16 (T 0),I 17 (T 7),bn 18 34 (T 16) (T 17),aF 19 3 (T 18),I 20 (T 6),bi 21 .sub 3 (T 19) (T 20),aj 8 (T 21)]])
 (.seq (.box 4290773248 0 (.seq (.ops [.xs [I 22 (T 7),I 23 (T 1),bA 24 34 (T 23),bi 25 .lss 3 (T 22) (T 24)]])
 (.cond (T 25) (.ops [.xs [I 26 (T 8),I 27 (T 1),I 28 (T 7),bn 29 34 (T 27) (T 28),aF 30 3 (T 29),bi 31 .sub 3 (T 26) (T 30),aj 8 (T 31)]])
 (.skip))))
 (.seq (.ops [.xs [aj 6 (ai 0)]])
 (.seq (.box 64424509760 0 (.seq (.ops [.xs [I 32 (T 8),bi 33 .lss 3 (T 32) (ai 0)]])
 (.cond (T 33) (.ops [.xs [I 34 (T 8),bi 35 .add 3 (T 34) (ai 10000),aj 8 (T 35),aj 6 (ai 1)]])
 (.skip))))
 (.ops [.xs [I 36 (T 5),I 37 (T 8),eF 38 34 1 [(0,T 37)],ap 39 34 34 (T 36) (T 38),aj 5 (T 39)]]))))))
 (.ops [.xs [I 14 (T 7),bi 15 .add 3 (T 14) (ai 1),aj 7 (T 15)]]))))))
 (.seq (.ops [.xs [I 40 (T 5),aj 4 (T 40)]])
 (.ret)))),[.tmp 4]⟩
def Ix:cL:=⟨.seq (.ops [.xs [aj 2 (C (.slice none 0 0))]])
 (.seq (.seq (.ops [.xs [I 3 (T 0),bi 4 .eql 120 (T 3) (C (.slice none 0 0))]])
 (.cond (T 4) (.seq (.ops [.xs [aj 2 (C (.slice none 0 0))]])
 (.ret))
 (.skip)))
 (.seq (.ops [.xs [eF 5 120 0 [],I 6 (T 0),ap 7 120 120 (T 5) (T 6),aj 2 (T 7)]])
 (.ret))),[.tmp 2]⟩
def Io:cL:=⟨.seq (.ops [.xs [aj 4 (C (.bool false))]])
 (.seq (.seq (.ops [.xs [I 6 (T 0),iW 7 (T 6),a9 8 140 (T 7) 0,aF 9 74 (T 8),aS 10 49 [T 9],I 11 (ai 0)]])
 (.block 0 (.loop 590295810358705649712 0 (.seq (.ops [.xs [bi 12 .lss 3 (T 11) (T 10)]])
 (.seq (.cond (T 12) (.skip)
 (.exit 0))
 (.seq (.box 295147905179352817712 0 (.block 1 (.seq (.ops [.xs [I 13 (T 11),aj 5 (T 13)]])
 (.seq (.seq (.box 68719460352 0 (.ops [.xs [I 14 (T 0),iW 15 (T 14),a9 16 140 (T 15) 2,aF 17 115 (T 16),I 18 (T 5),bn 19 115 (T 17) (T 18),aF 20 4 (T 19),I 21 (T 20),aL 21 false (I 22 (T 0)),aL 21 false (iW 23 (T 22)),aL 21 false (a9 24 140 (T 23) 0),aL 21 false (a9 25 74 (T 24) 0),aL 21 false (aF 26 72 (T 25)),aL 21 false (I 27 (T 1)),aL 21 false (bn 28 72 (T 26) (T 27)),aL 21 false (aF 29 120 (T 28)),aL 21 false (I 30 (T 5)),aL 21 false (bn 31 120 (T 29) (T 30)),aL 21 false (aF 32 80 (T 31)),aL 21 false (aS 33 75 [T 32]),aL 21 false (bi 34 .leq 3 (T 33) (ai 0)),cO 35 (T 21) (C (.bool true)) (T 34)]]))
 (.cond (T 35) (.exit 1)
 (.skip)))
 (.seq (.ops [.xs [I 36 (T 0),iW 37 (T 36),a9 38 140 (T 37) 2,aF 39 115 (T 38),I 40 (T 5),bn 41 115 (T 39) (T 40),st 4 (T 41) (C (.bool true))]])
 (.seq (.box 2305838611167182848 0 (.ops [.xs [I 42 (T 0),iW 43 (T 42),a9 44 140 (T 43) 1,aF 45 34 (T 44),I 46 (T 5),bn 47 34 (T 45) (T 46),aF 48 3 (T 47),bi 49 .lss 3 (T 48) (ai 0),I 50 (T 49),aL 50 false (I 51 (T 0)),aL 50 false (I 52 (T 0)),aL 50 false (iW 53 (T 52)),aL 50 false (a9 54 140 (T 53) 1),aL 50 false (aF 55 34 (T 54)),aL 50 false (I 56 (T 5)),aL 50 false (bn 57 34 (T 55) (T 56)),aL 50 false (aF 58 3 (T 57)),aL 50 false (aS 59 86 [T 51,T 58]),cO 60 (T 50) (C (.bool true)) (T 59)]]))
 (.cond (T 60) (.seq (.ops [.xs [I 61 (T 0),iW 62 (T 61),a9 63 140 (T 62) 1,aF 64 34 (T 63),I 65 (T 5),I 66 (T 1),bn 67 34 (T 64) (T 65),st 3 (T 67) (T 66)]])
 (.seq (.ops [.xs [aj 4 (C (.bool true))]])
 (.ret)))
 (.skip))))))))
 (.ops [.xs [bi 68 .add 3 (T 11) (ai 1),I 11 (T 68)]])))))))
 (.seq (.ops [.xs [aj 4 (C (.bool false))]])
 (.ret))),[.tmp 4]⟩
def H7:cL:=⟨.seq (.ops [.cm 2 80 (T 0),.cm 3 80 (T 1),.bL 4 80])
 (.seq (.ops [.bT none 5 80 2 2,.bT none 6 80 3 3,.xs [bh (aS 7 109 [T 6]),aS 8 77 [T 5,T 7]],.bW true none 80 4 (T 8) 4])
 (.ret)),[.cell 4 80]⟩
def HS:cL:=⟨.seq (.ops [.xs [aj 4 (C (.int .u64 0)),aj 5 (C (.int .u64 0))]])
 (.seq (.cond (C (.bool false)) (.seq (.ops [.xs [I 11 (T 0),ch 12 142 124 (T 11),I 13 (T 1),ch 14 142 124 (T 13),aS 15 111 [T 12,T 14],I 10 (T 15),ex 16 (T 10) 0,ex 17 (T 10) 1,aj 6 (T 16),aj 7 (T 17)]])
 (.seq (.ops [.xs [I 18 (T 6),ch 19 124 142 (T 18),I 20 (T 7),ch 21 124 142 (T 20),aj 4 (T 19),aj 5 (T 21)]])
 (.ret)))
 (.skip))
 (.seq (.ops [.xs [I 23 (T 0),I 24 (T 1),aS 25 112 [T 23,T 24],I 22 (T 25),ex 26 (T 22) 0,ex 27 (T 22) 1,aj 8 (T 26),aj 9 (T 27)]])
 (.seq (.ops [.xs [I 28 (T 8),I 29 (T 9),aj 4 (T 28),aj 5 (T 29)]])
 (.ret)))),[.tmp 4,.tmp 5]⟩
def IC:cL:=⟨.seq (.ops [.xs [aj 4 (C (.slice none 0 0))]])
 (.seq (.box 3584 0 (.seq (.ops [.xs [I 9 (T 1),bi 10 .lss 3 (T 9) (ai 0)]])
 (.cond (T 10) (.ops [.xs [mI 11 9 (C (.string {data:= #[99,97,110,110,111,116,32,98,101,32,110,101,103,97,116,105,118,101]})),(⟨true,none,none,.panic (T 11)⟩)]])
 (.skip))))
 (.seq (.ops [.xs [I 13 (T 0),bA 14 120 (T 13),ch 15 3 142 (T 14),I 16 (T 1),ch 17 3 142 (T 16),aS 18 89 [T 15,T 17],I 12 (T 18),ex 19 (T 12) 0,ex 20 (T 12) 1,aj 5 (T 19),aj 6 (T 20)]])
 (.seq (.box 266338304 0 (.seq (.box 132120576 0 (.ops [.xs [I 21 (T 5),bi 22 .gtr 142 (T 21) (C (.int .u64 0)),I 23 (T 22),aL 23 false (I 24 (T 6)),aL 23 false ((bi 25 .gtr 142 (T 24) (C (.int .u64 9223372036854775807)))),cO 26 (T 23) (C (.bool true)) (T 25)]]))
 (.cond (T 26) (.ops [.xs [mI 27 9 (C (.string {data:= #[116,104,101,32,114,101,115,117,108,116,32,111,102,32,40,108,101,110,40,120,41,32,42,32,99,111,117,110,116,41,32,111,118,101,114,102,108,111,119,115]})),(⟨true,none,none,.panic (T 27)⟩)]])
 (.skip))))
 (.seq (.ops [.xs [I 28 (T 6),ch 29 142 3 (T 28),ms 30 120 (T 29) (T 29),aj 7 (T 30)]])
 (.seq (.ops [.xs [I 31 (T 7),I 32 (T 0),cp 33 120 120 (T 31) (T 32),aj 8 (T 33)]])
 (.seq (.block 0 (.loop 140720308486400 0 (.seq (.seq (.ops [.xs [I 34 (T 8),I 35 (T 7),bA 36 120 (T 35),bi 37 .lss 3 (T 34) (T 36)]])
 (.cond (T 37) (.skip)
 (.exit 0)))
 (.block 1 (.ops [.xs [I 38 (T 8),I 39 (T 7),I 40 (T 8),bh (fG 41 120 (T 39) (some (T 40)) none none),I 42 (T 7),I 43 (T 8),bh (fG 44 120 (T 42) none (some (T 43)) none),cp 45 120 120 (T 41) (T 44),bi 46 .add 3 (T 38) (T 45),aj 8 (T 46)]])))))
 (.seq (.ops [.xs [I 47 (T 7),aj 4 (T 47)]])
 (.ret)))))))),[.tmp 4]⟩
def HP:cL:=⟨.seq (.ops [.xs [aj 4 (C (.slice none 0 0))]])
 (.seq (.ops [.xs [I 5 (T 0),dC 6 40 [(1,T 5)],I 7 (T 1),aS 8 46 [T 7],aS 9 45 [T 6,T 8],aS 10 72 [T 9],mZ 11 40 (T 10) 1,aj 4 (T 11)]])
 (.ret)),[.tmp 4]⟩
def IE:cL:=⟨.seq (.ops [.xs [aj 4 (C (.string {data:= #[]})),aj 5 (C (.string {data:= #[]})),aj 6 (C (.bool false))]])
 (.seq (.ops [.xs [I 7 (T 0),I 8 (T 1),aS 9 114 [T 7,T 8],ex 10 (T 9) 0,ex 11 (T 9) 1,ex 12 (T 9) 2,aj 4 (T 10),aj 5 (T 11),aj 6 (T 12)]])
 (.ret)),[.tmp 4,.tmp 5,.tmp 6]⟩
def IF:cL:=⟨.seq (.ops [.xs [aj 4 (C (.string {data:= #[]})),aj 5 (C (.bool false))]])
 (.seq (.ops [.xs [I 6 (T 0),I 7 (T 1),aS 8 115 [T 6,T 7],ex 9 (T 8) 0,ex 10 (T 8) 1,aj 4 (T 9),aj 5 (T 10)]])
 (.ret)),[.tmp 4,.tmp 5]⟩
def Ib:cL:=⟨.seq (.ops [.xs [aj 2 (C (.slice none 0 0)),aj 3 (C (.bool false))]])
 (.seq (.seq (.ops [.xs [I 10 (T 0),bA 11 9 (T 10),I 12 (ai 0)]])
 (.block 0 (.loop 67104796 0 (.seq (.ops [.xs [bi 13 .lss 3 (T 12) (T 11)]])
 (.seq (.cond (T 13) (.skip)
 (.exit 0))
 (.seq (.block 1 (.seq (.ops [.xs [I 14 (T 12),aj 4 (T 14)]])
 (.seq (.box 33521664 0 (.ops [.xs [I 15 (T 0),I 16 (T 4),ek 17 9 (T 15) (T 16),bi 18 .lss 5 (T 17) (C (.int .u8 48)),I 19 (T 18),aL 19 false (I 20 (T 0)),aL 19 false (I 21 (T 4)),aL 19 false (ek 22 9 (T 20) (T 21)),aL 19 false ((bi 23 .gtr 5 (T 22) (C (.int .u8 57)))),cO 24 (T 19) (C (.bool true)) (T 23)]]))
 (.cond (T 24) (.seq (.ops [.xs [aj 2 (C (.slice none 0 0)),aj 3 (C (.bool false))]])
 (.ret))
 (.skip)))))
 (.ops [.xs [bi 25 .add 3 (T 12) (ai 1),I 12 (T 25)]])))))))
 (.seq (.seq (.box 8796025913344 0 (.ops [.xs [I 26 (T 0),bi 27 .eql 9 (T 26) (C (.string {data:= #[]})),I 28 (T 27),aL 28 false (I 29 (T 0)),aL 28 false (ek 30 9 (T 29) (ai 0)),aL 28 false ((bi 31 .eql 5 (T 30) (C (.int .u8 48)))),aL 28 false (I 32 (T 31)),aL 32 true (I 33 (T 0)),aL 32 true (bA 34 9 (T 33)),aL 32 true (bi 35 .gtr 3 (T 34) (ai 1)),aL 28 false ((cO 36 (T 32) (T 35) (C (.bool false)))),cO 37 (T 28) (C (.bool true)) (T 36),I 38 (T 37),aL 38 false (I 39 (T 0)),aL 38 false (bA 40 9 (T 39)),aL 38 false (bi 41 .gtr 3 (T 40) (ai 4000)),cO 42 (T 38) (C (.bool true)) (T 41)]]))
 (.cond (T 42) (.seq (.ops [.xs [aj 2 (C (.slice none 0 0)),aj 3 (C (.bool false))]])
 (.ret))
 (.skip)))
 (.seq (.ops [.xs [aj 5 (C (.slice none 0 0))]])
 (.seq (.block 2 (.loop 75557863717118230397921 0 (.seq (.seq (.ops [.xs [I 43 (T 0),bi 44 .neq 9 (T 43) (C (.string {data:= #[]}))]])
 (.cond (T 44) (.skip)
 (.exit 2)))
 (.block 3 (.seq (.ops [.xs [I 45 (T 0),bA 46 9 (T 45),bi 47 .sub 3 (T 46) (ai 1),bi 48 .rem 3 (T 47) (ai 9),bi 49 .add 3 (T 48) (ai 1),aj 6 (T 49)]])
 (.seq (.ops [.xs [aj 7 (C (.int .u32 0)),aj 8 (C (.int .u32 1))]])
 (.seq (.seq (.ops [.xs [I 50 (T 6),I 51 (ai 0)]])
 (.block 4 (.loop 36891236347605418880 0 (.seq (.ops [.xs [bi 52 .lss 3 (T 51) (T 50)]])
 (.seq (.cond (T 52) (.skip)
 (.exit 4))
 (.seq (.block 5 (.seq (.ops [.xs [I 53 (T 51),aj 9 (T 53)]])
 (.ops [.xs [I 54 (T 7),bi 55 .mul 124 (C (.int .u32 10)) (T 54),I 56 (T 0),I 57 (T 9),ek 58 9 (T 56) (T 57),bi 59 .sub 5 (T 58) (C (.int .u8 48)),ch 60 5 124 (T 59),bi 61 .add 124 (T 55) (T 60),I 62 (T 8),bi 63 .mul 124 (C (.int .u32 10)) (T 62),aj 7 (T 61),aj 8 (T 63)]])))
 (.ops [.xs [bi 64 .add 3 (T 51) (ai 1),I 51 (T 64)]])))))))
 (.seq (.ops [.xs [I 65 (T 5),I 66 (T 8),eF 67 76 1 [(0,T 66)],aS 68 93 [T 65,T 67],I 69 (T 7),eF 70 76 1 [(0,T 69)],aS 71 110 [T 70],aS 72 116 [T 68,T 71],aj 5 (T 72)]])
 (.ops [.xs [I 73 (T 0),I 74 (T 6),fG 75 9 (T 73) (some (T 74)) none none,aj 0 (T 75)]])))))))))
 (.seq (.ops [.xs [I 76 (T 5),aj 2 (T 76),aj 3 (C (.bool true))]])
 (.ret)))))),[.tmp 2,.tmp 3]⟩
def HY:cL:=⟨.seq (.ops [.cm 2 78 (T 0),.cm 3 78 (T 1),.bL 4 78])
 (.seq (.ops [.a9 none 9 78 2 1 2 1,.aF none 10 76 9 2 1,.a9 none 11 78 3 1 3 1,.aF none 12 76 11 3 1,.xs [aj 5 (T 10),aj 6 (T 12)]])
 (.seq (.block 0 (.loop 16769504 0 (.seq (.seq (.ops [.xs [I 13 (T 6),bA 14 76 (T 13),bi 15 .gtr 3 (T 14) (ai 0)]])
 (.cond (T 15) (.skip)
 (.exit 0)))
 (.block 1 (.seq (.ops [.xs [I 17 (T 5),I 18 (T 6),aS 19 117 [T 17,T 18],I 16 (T 19),ex 20 (T 16) 0,ex 21 (T 16) 1,aj 7 (T 20),aj 8 (T 21)]])
 (.ops [.xs [I 22 (T 6),I 23 (T 8),aj 5 (T 22),aj 6 (T 23)]]))))))
 (.seq (.ops [.xs [I 24 (T 5),aS 25 92 [C (.bool false),T 24]],.bW true none 78 4 (T 25) 4])
 (.ret)))),[.cell 4 78]⟩
def Iz:cL:=⟨.seq (.ops [.xs [aj 4 (ai 0)]])
 (.seq (.seq (.ops [.xs [I 6 (T 0),bA 7 34 (T 6),I 8 (ai 0)]])
 (.block 0 (.loop 524080 0 (.seq (.ops [.xs [bi 9 .lss 3 (T 8) (T 7)]])
 (.seq (.cond (T 9) (.skip)
 (.exit 0))
 (.seq (.block 1 (.seq (.ops [.xs [I 10 (T 8),aj 5 (T 10)]])
 (.seq (.ops [.xs [I 11 (T 1),I 12 (T 0),I 13 (T 5),bn 14 34 (T 12) (T 13),aF 15 3 (T 14),bi 16 .eql 3 (T 11) (T 15)]])
 (.cond (T 16) (.seq (.ops [.xs [I 17 (T 5),aj 4 (T 17)]])
 (.ret))
 (.skip)))))
 (.ops [.xs [bi 18 .add 3 (T 8) (ai 1),I 8 (T 18)]])))))))
 (.seq (.ops [.xs [aj 4 (ai (-1))]])
 (.ret))),[.tmp 4]⟩
def H8:cL:=⟨.seq (.ops [.cm 2 78 (T 0),.cm 3 78 (T 1),.bL 4 80])
 (.seq (.box 64512 12 (.seq (.ops [.a9 none 10 78 3 0 3 0,.aF none 11 4 10 3 0])
 (.cond (T 11) (.ops [.bT none 12 78 2 2,.xs [bh (aS 13 113 [T 12])],.bT none 14 78 3 3,.xs [aS 15 113 [T 14]],.bW true none 78 2 (T 13) 2,
  .bW true none 78 3 (T 15) 3])
 (.skip))))
 (.seq (.ops [.bT none 16 78 2 2,.bT none 17 78 3 3,.xs [aS 18 102 [T 16,T 17]],.bL 5 78,.bW true none 78 5 (T 18) 5])
 (.seq (.seq (.ops [.bT none 19 78 5 5,.xs [bh (aS 20 88 [ai 1]),aS 21 67 [T 19,T 20],bi 22 .eql 3 (T 21) (ai 0)]])
 (.cond (T 22) (.seq (.ops [.bT none 23 78 2 2,.bT none 24 78 3 3,.xs [dC 25 80 [(0,T 23),(1,T 24)]],.bW true none 80 4 (T 25) 4])
 (.ret))
 (.skip)))
 (.seq (.ops [.bT none 27 78 2 2,.bT none 28 78 5 5,.xs [aS 29 119 [T 27,T 28],I 26 (T 29),ex 30 (T 26) 0,ex 31 (T 26) 1],.bL 6 78,.bL 7 78,
  .bW true none 78 6 (T 30) 6,.bW true none 78 7 (T 31) 7])
 (.seq (.ops [.bT none 33 78 3 3,.bT none 34 78 5 5,.xs [aS 35 119 [T 33,T 34],I 32 (T 35),ex 36 (T 32) 0,ex 37 (T 32) 1],.bL 8 78,.bL 9 78,
  .bW true none 78 8 (T 36) 8,.bW true none 78 9 (T 37) 9])
 (.seq (.ops [.bT none 38 78 6 6,.bT none 39 78 8 8,.xs [dC 40 80 [(0,T 38),(1,T 39)]],.bW true none 80 4 (T 40) 4])
 (.ret))))))),[.cell 4 80]⟩
def ID:cL:=⟨.seq (.ops [.xs [I 4 (T 0),bA 5 61 (T 4),bi 6 .sub 3 (T 5) (ai 1),aj 2 (ai 0),aj 3 (T 6)]])
 (.block 0 (.loop 268435340 0 (.seq (.seq (.ops [.xs [I 7 (T 2),I 8 (T 3),bi 9 .lss 3 (T 7) (T 8)]])
 (.cond (T 9) (.skip)
 (.exit 0)))
 (.seq (.block 1 (.ops [.xs [I 14 (T 0),I 15 (T 2),I 16 (T 0),I 17 (T 3),I 18 (T 0),I 19 (T 3),bn 20 61 (T 18) (T 19),aF 21 5 (T 20),I 22 (T 0),I 23 (T 2),bn 24 61 (T 22) (T 23),aF 25 5 (T 24),bn 26 61 (T 14) (T 15),st 5 (T 26) (T 21),bn 27 61 (T 16) (T 17),st 5 (T 27) (T 25)]]))
 (.ops [.xs [I 10 (T 2),bi 11 .add 3 (T 10) (ai 1),I 12 (T 3),bi 13 .sub 3 (T 12) (ai 1),aj 2 (T 11),aj 3 (T 13)]]))))),[]⟩
def H5:cL:=⟨.seq (.ops [.cm 1 80 (T 0),.bL 2 80])
 (.seq (.ops [.a9 none 3 80 1 0 1 0,.aF none 4 78 3 1 0,.xs [bh (aS 5 113 [T 4])],.a9 none 6 80 1 1 1 2,.aF none 7 78 6 1 2,
  .xs [dC 8 80 [(0,T 5),(1,T 7)]],.bW true none 80 2 (T 8) 2])
 (.ret)),[.cell 2 80]⟩
def HT:cL:=⟨.seq (.ops [.xs [aj 4 (C (.int .u64 0)),aj 5 (C (.int .u64 0))]])
 (.seq (.ops [.xs [I 14 (T 0),bi 15 .and 123 (T 14) (C (.int .u64 4294967295)),aj 6 (T 15)]])
 (.seq (.ops [.xs [I 16 (T 0),bi 17 .shr 123 (T 16) (C (.int .u64 32)),aj 7 (T 17)]])
 (.seq (.ops [.xs [I 18 (T 1),bi 19 .and 123 (T 18) (C (.int .u64 4294967295)),aj 8 (T 19)]])
 (.seq (.ops [.xs [I 20 (T 1),bi 21 .shr 123 (T 20) (C (.int .u64 32)),aj 9 (T 21)]])
 (.seq (.ops [.xs [I 22 (T 6),I 23 (T 8),bi 24 .mul 123 (T 22) (T 23),aj 10 (T 24)]])
 (.seq (.ops [.xs [I 25 (T 7),I 26 (T 8),bi 27 .mul 123 (T 25) (T 26),I 28 (T 10),bi 29 .shr 123 (T 28) (C (.int .u64 32)),bi 30 .add 123 (T 27) (T 29),aj 11 (T 30)]])
 (.seq (.ops [.xs [I 31 (T 11),bi 32 .and 123 (T 31) (C (.int .u64 4294967295)),aj 12 (T 32)]])
 (.seq (.ops [.xs [I 33 (T 11),bi 34 .shr 123 (T 33) (C (.int .u64 32)),aj 13 (T 34)]])
 (.seq (.ops [.xs [I 35 (T 12),I 36 (T 6),I 37 (T 9),bi 38 .mul 123 (T 36) (T 37),bi 39 .add 123 (T 35) (T 38),aj 12 (T 39)]])
 (.seq (.ops [.xs [I 40 (T 7),I 41 (T 9),bi 42 .mul 123 (T 40) (T 41),I 43 (T 13),bi 44 .add 123 (T 42) (T 43),I 45 (T 12),bi 46 .shr 123 (T 45) (C (.int .u64 32)),bi 47 .add 123 (T 44) (T 46),aj 4 (T 47)]])
 (.seq (.ops [.xs [I 48 (T 0),I 49 (T 1),bi 50 .mul 123 (T 48) (T 49),aj 5 (T 50)]])
 (.ret)))))))))))),[.tmp 4,.tmp 5]⟩
def IG:cL:=⟨.seq (.ops [.xs [aj 4 (C (.string {data:= #[]})),aj 5 (C (.string {data:= #[]})),aj 6 (C (.bool false))]])
 (.seq (.seq (.ops [.xs [I 8 (T 0),I 9 (T 1),aS 10 120 [T 8,T 9],aj 7 (T 10)]])
 (.seq (.ops [.xs [I 11 (T 7),bi 12 .geq 3 (T 11) (ai 0)]])
 (.cond (T 12) (.seq (.ops [.xs [I 13 (T 0),I 14 (T 7),bh (fG 15 9 (T 13) none (some (T 14)) none),I 16 (T 0),I 17 (T 7),I 18 (T 1),bA 19 9 (T 18),bi 20 .add 3 (T 17) (T 19),bh (fG 21 9 (T 16) (some (T 20)) none none),aj 4 (T 15),aj 5 (T 21),aj 6 (C (.bool true))]])
 (.ret))
 (.skip))))
 (.seq (.ops [.xs [I 22 (T 0),aj 4 (T 22),aj 5 (C (.string {data:= #[]})),aj 6 (C (.bool false))]])
 (.ret))),[.tmp 4,.tmp 5,.tmp 6]⟩
def IH:cL:=⟨.seq (.ops [.xs [aj 4 (C (.string {data:= #[]})),aj 5 (C (.bool false))]])
 (.seq (.seq (.ops [.xs [I 6 (T 0),I 7 (T 1),aS 8 121 [T 6,T 7],un 9 .not (T 8)]])
 (.cond (T 9) (.seq (.ops [.xs [I 10 (T 0),aj 4 (T 10),aj 5 (C (.bool false))]])
 (.ret))
 (.skip)))
 (.seq (.ops [.xs [I 11 (T 0),I 12 (T 1),bA 13 9 (T 12),fG 14 9 (T 11) (some (T 13)) none none,aj 4 (T 14),aj 5 (C (.bool true))]])
 (.ret))),[.tmp 4,.tmp 5]⟩
def Ia:cL:=⟨.seq (.ops [.xs [aj 4 (C (.slice none 0 0)),aj 5 (C (.slice none 0 0))]])
 (.seq (.seq (.ops [.xs [I 14 (T 0),I 15 (T 1),aS 16 101 [T 14,T 15],bi 17 .lss 3 (T 16) (ai 0)]])
 (.cond (T 17) (.seq (.ops [.xs [I 18 (T 0),ap 19 76 76 (C (.slice none 0 0)) (T 18),aj 4 (C (.slice none 0 0)),aj 5 (T 19)]])
 (.ret))
 (.skip)))
 (.seq (.seq (.ops [.xs [I 20 (T 1),bA 21 76 (T 20),bi 22 .eql 3 (T 21) (ai 1)]])
 (.cond (T 22) (.seq (.ops [.xs [I 24 (T 0),I 25 (T 1),bn 26 76 (T 25) (ai 0),aF 27 124 (T 26),aS 28 107 [T 24,T 27],I 23 (T 28),ex 29 (T 23) 0,ex 30 (T 23) 1,aj 6 (T 29),aj 7 (T 30)]])
 (.seq (.ops [.xs [I 31 (T 6),I 32 (T 7),eF 33 76 1 [(0,T 32)],aS 34 110 [T 33],aj 4 (T 31),aj 5 (T 34)]])
 (.ret)))
 (.skip)))
 (.seq (.ops [.xs [I 35 (T 1),I 36 (T 1),bA 37 76 (T 36),bi 38 .sub 3 (T 37) (ai 1),bn 39 76 (T 35) (T 38),aF 40 124 (T 39),aS 41 123 [T 40],aj 8 (T 41)]])
 (.seq (.ops [.xs [I 42 (T 1),I 43 (T 8),aS 44 124 [T 42,T 43],aS 45 110 [T 44],I 46 (T 0),I 47 (T 8),aS 48 124 [T 46,T 47],aj 9 (T 45),aj 10 (T 48)]])
 (.seq (.ops [.xs [I 49 (T 9),bA 50 76 (T 49),aj 11 (T 50)]])
 (.seq (.ops [.xs [I 51 (T 0),bA 52 76 (T 51),I 53 (T 11),bi 54 .sub 3 (T 52) (T 53),bi 55 .add 3 (T 54) (ai 1),ms 56 76 (T 55) (T 55),aj 12 (T 56)]])
 (.seq (.seq (.ops [.xs [I 57 (T 0),bA 58 76 (T 57),I 59 (T 11),bi 60 .sub 3 (T 58) (T 59),aj 13 (T 60)]])
 (.block 0 (.loop 151113421608819433152512 0 (.seq (.seq (.ops [.xs [I 61 (T 13),bi 62 .geq 3 (T 61) (ai 0)]])
 (.cond (T 62) (.skip)
 (.exit 0)))
 (.seq (.block 1 (.ops [.xs [I 65 (T 12),I 66 (T 13),I 67 (T 10),I 68 (T 13),I 69 (T 13),I 70 (T 11),bi 71 .add 3 (T 69) (T 70),bi 72 .add 3 (T 71) (ai 1),fG 73 76 (T 67) (some (T 68)) (some (T 72)) none,I 74 (T 9),aS 75 125 [T 73,T 74],bn 76 76 (T 65) (T 66),st 124 (T 76) (T 75)]]))
 (.ops [.xs [I 63 (T 13),bi 64 .sub 3 (T 63) (ai 1),aj 13 (T 64)]]))))))
 (.seq (.ops [.xs [I 77 (T 12),bh (aS 78 110 [T 77]),I 79 (T 10),I 80 (T 11),bh (fG 81 76 (T 79) none (some (T 80)) none),aS 82 110 [T 81],I 83 (T 8),aS 84 126 [T 82,T 83],aj 4 (T 78),aj 5 (T 84)]])
 (.ret))))))))),[.tmp 4,.tmp 5]⟩
def HZ:cL:=⟨.seq (.ops [.cm 2 78 (T 0),.cm 3 78 (T 1),.bL 4 78,.bL 5 78])
 (.seq (.ops [.a9 none 11 78 2 1 2 1,.aF none 12 76 11 2 1,.a9 none 13 78 3 1 3 1,.aF none 14 76 13 3 1,
  .xs [aS 15 117 [T 12,T 14],I 10 (T 15),ex 16 (T 10) 0,ex 17 (T 10) 1,aj 6 (T 16),aj 7 (T 17)]])
 (.seq (.ops [.a9 none 18 78 2 0 2 0,.aF none 19 4 18 2 0,.a9 none 20 78 3 0 3 0,.aF none 21 4 20 3 0,
  .xs [bi 22 .neq 4 (T 19) (T 21),I 23 (T 6),bh (aS 24 92 [T 22,T 23])],.a9 none 25 78 2 0 2 0,.aF none 26 4 25 2 0,
  .xs [I 27 (T 7),bh (aS 28 92 [T 26,T 27])],.bL 8 78,.bL 9 78,.bW true none 78 8 (T 24) 8,.bW true none 78 9 (T 28) 9])
 (.seq (.box 35183835217920 768 (.seq (.box 549218942976 0 (.ops [.xs [I 29 (T 7),bA 30 76 (T 29),bi 31 .gtr 3 (T 30) (ai 0),I 32 (T 31)],.a9 (some (32,true)) 33 78 2 0 2 0,
  .aF (some (32,true)) 34 4 33 2 0,.a9 (some (32,true)) 35 78 3 0 3 0,.aF (some (32,true)) 36 4 35 3 0,
  .xs [aL 32 true (bi 37 .neq 4 (T 34) (T 36)),cO 38 (T 32) (T 37) (C (.bool false))]]))
 (.cond (T 38) (.ops [.bT none 39 78 8 8,.xs [bh (aS 40 88 [ai 1]),bh (aS 41 94 [T 39,T 40])],.bT none 42 78 9 9,.bT none 43 78 3 3,
  .xs [aS 44 105 [T 42,T 43]],.bW true none 78 8 (T 41) 8,.bW true none 78 9 (T 44) 9])
 (.skip))))
 (.seq (.opsL [.bT none 45 78 8 8,.bT none 46 78 9 9,.bW false none 78 4 (T 45) 4,.bW true none 78 5 (T 46) 5])
 (.ret))))),[.cell 4 78,.cell 5 78]⟩
def IJ:cL:=⟨.seq (.ops [.xs [aj 4 (ai 0)]])
 (.seq (.ops [.xs [I 14 (T 1),bA 15 9 (T 14),aj 5 (T 15)]])
 (.seq (.block 0 (.seq (.box 16711680 0 (.ops [.xs [I 17 (T 5),bi 18 .eql 3 (T 17) (ai 0),I 19 (T 18),aL 19 false (I 20 (T 1)),aL 19 false (I 21 (T 0)),aL 19 false (bi 22 .eql 9 (T 20) (T 21)),cO 23 (T 19) (C (.bool true)) (T 22),aj 16 (T 23)]]))
 (.cond (T 16) (.seq (.ops [.xs [aj 4 (ai 0)]])
 (.ret))
 (.seq (.ops [.xs [I 25 (T 5),bi 26 .eql 3 (T 25) (ai 1),aj 24 (T 26)]])
 (.cond (T 24) (.seq (.ops [.xs [I 27 (T 0),I 28 (T 1),ek 29 9 (T 28) (ai 0),aS 30 128 [T 27,T 29],aj 4 (T 30)]])
 (.ret))
 (.seq (.ops [.xs [I 32 (T 5),I 33 (T 0),bA 34 9 (T 33),bi 35 .geq 3 (T 32) (T 34),aj 31 (T 35)]])
 (.cond (T 31) (.seq (.ops [.xs [aj 4 (ai (-1))]])
 (.ret))
 (.seq (.box 35115652612096 0 (.ops [.xs [I 37 (T 5),aF 38 3 (.global 0),bi 39 .leq 3 (T 37) (T 38),I 40 (T 39),aL 40 true (I 41 (T 0)),aL 40 true (bA 42 9 (T 41)),aL 40 true (bi 43 .leq 3 (T 42) (ai 64)),cO 44 (T 40) (T 43) (C (.bool false)),aj 36 (T 44)]]))
 (.cond (T 36) (.seq (.ops [.xs [I 45 (T 0),I 46 (T 1),aS 47 129 [T 45,T 46],aj 4 (T 47)]])
 (.ret))
 (.skip))))))))))
 (.seq (.ops [.xs [I 48 (T 1),ek 49 9 (T 48) (ai 0),aj 6 (T 49)]])
 (.seq (.ops [.xs [I 50 (T 1),ek 51 9 (T 50) (ai 1),aj 7 (T 51)]])
 (.seq (.ops [.xs [aj 8 (ai 0)]])
 (.seq (.ops [.xs [I 52 (T 0),bA 53 9 (T 52),I 54 (T 5),bi 55 .sub 3 (T 53) (T 54),bi 56 .add 3 (T 55) (ai 1),aj 9 (T 56)]])
 (.seq (.ops [.xs [aj 10 (ai 0)]])
 (.seq (.block 1 (.loop 11150372599265311570767858992208992677149968 0 (.seq (.seq (.ops [.xs [I 57 (T 8),I 58 (T 9),bi 59 .lss 3 (T 57) (T 58)]])
 (.cond (T 59) (.skip)
 (.exit 1)))
 (.block 2 (.seq (.box 302230301982152686831888 0 (.seq (.ops [.xs [I 60 (T 0),I 61 (T 8),ek 62 9 (T 60) (T 61),I 63 (T 6),bi 64 .neq 5 (T 62) (T 63)]])
 (.cond (T 64) (.seq (.ops [.xs [I 65 (T 0),I 66 (T 8),bi 67 .add 3 (T 66) (ai 1),I 68 (T 9),fG 69 9 (T 65) (some (T 67)) (some (T 68)) none,I 70 (T 6),aS 71 128 [T 69,T 70],aj 11 (T 71)]])
 (.seq (.seq (.ops [.xs [I 72 (T 11),bi 73 .lss 3 (T 72) (ai 0)]])
 (.cond (T 73) (.seq (.ops [.xs [aj 4 (ai (-1))]])
 (.ret))
 (.skip)))
 (.ops [.xs [I 74 (T 8),I 75 (T 11),bi 76 .add 3 (T 75) (ai 1),bi 77 .add 3 (T 74) (T 76),aj 8 (T 77)]])))
 (.skip))))
 (.seq (.seq (.box 19806738397111180741092311040 0 (.ops [.xs [I 78 (T 0),I 79 (T 8),bi 80 .add 3 (T 79) (ai 1),ek 81 9 (T 78) (T 80),I 82 (T 7),bi 83 .eql 5 (T 81) (T 82),I 84 (T 83),aL 84 true (I 85 (T 0)),aL 84 true (I 86 (T 8)),aL 84 true (I 87 (T 8)),aL 84 true (I 88 (T 5)),aL 84 true (bi 89 .add 3 (T 87) (T 88)),aL 84 true ((fG 90 9 (T 85) (some (T 86)) (some (T 89)) none)),aL 84 true (I 91 (T 1)),aL 84 true (bi 92 .eql 9 (T 90) (T 91)),cO 93 (T 84) (T 92) (C (.bool false))]]))
 (.cond (T 93) (.seq (.ops [.xs [I 94 (T 8),aj 4 (T 94)]])
 (.ret))
 (.skip)))
 (.seq (.ops [.xs [I 95 (T 8),bi 96 .add 3 (T 95) (ai 1),aj 8 (T 96)]])
 (.seq (.ops [.xs [I 97 (T 10),bi 98 .add 3 (T 97) (ai 1),aj 10 (T 98)]])
 (.seq (.box 323884728358312612082407668973568 0 (.ops [.xs [I 99 (T 5),aF 100 3 (.global 0),bi 101 .leq 3 (T 99) (T 100),I 102 (T 101),aL 102 true (I 103 (T 10)),aL 102 true (I 104 (T 8)),aL 102 true (aS 105 130 [T 104]),aL 102 true (bi 106 .gtr 3 (T 103) (T 105)),cO 107 (T 102) (T 106) (C (.bool false))]]))
 (.cond (T 107) (.seq (.ops [.xs [I 108 (T 0),I 109 (T 8),fG 110 9 (T 108) (some (T 109)) none none,I 111 (T 1),aS 112 129 [T 110,T 111],aj 12 (T 112)]])
 (.seq (.seq (.ops [.xs [I 113 (T 12),bi 114 .geq 3 (T 113) (ai 0)]])
 (.cond (T 114) (.seq (.ops [.xs [I 115 (T 12),I 116 (T 8),bi 117 .add 3 (T 115) (T 116),aj 4 (T 117)]])
 (.ret))
 (.skip)))
 (.seq (.ops [.xs [aj 4 (ai (-1))]])
 (.ret))))
 (.seq (.box 10888703434471084601859761486051512680448 0 (.ops [.xs [I 118 (T 5),aF 119 3 (.global 0),bi 120 .gtr 3 (T 118) (T 119),I 121 (T 120),aL 121 true (I 122 (T 10)),aL 121 true (I 123 (T 8)),aL 121 true ((bi 124 .shr 3 (T 123) (C (.int .u64 4)))),aL 121 true (bi 125 .add 3 (ai 4) (T 124)),aL 121 true (bi 126 .geq 3 (T 122) (T 125)),cO 127 (T 121) (T 126) (C (.bool false)),I 128 (T 127),aL 128 true (I 129 (T 8)),aL 128 true (I 130 (T 9)),aL 128 true (bi 131 .lss 3 (T 129) (T 130)),cO 132 (T 128) (T 131) (C (.bool false))]]))
 (.cond (T 132) (.seq (.ops [.xs [I 133 (T 0),I 134 (T 8),fG 135 9 (T 133) (some (T 134)) none none,I 136 (T 1),aS 137 131 [T 135,T 136],aj 13 (T 137)]])
 (.seq (.seq (.ops [.xs [I 138 (T 13),bi 139 .lss 3 (T 138) (ai 0)]])
 (.cond (T 139) (.seq (.ops [.xs [aj 4 (ai (-1))]])
 (.ret))
 (.skip)))
 (.seq (.ops [.xs [I 140 (T 8),I 141 (T 13),bi 142 .add 3 (T 140) (T 141),aj 4 (T 142)]])
 (.ret))))
 (.skip)))))))))))))
 (.seq (.ops [.xs [aj 4 (ai (-1))]])
 (.ret)))))))))),[.tmp 4]⟩
def II:cL:=⟨.seq (.ops [.xs [aj 4 (C (.bool false))]])
 (.seq (.box 262128 0 (.ops [.xs [I 5 (T 0),bA 6 9 (T 5),I 7 (T 1),bA 8 9 (T 7),bi 9 .geq 3 (T 6) (T 8),I 10 (T 9),aL 10 true (I 11 (T 0)),aL 10 true (I 12 (T 1)),aL 10 true (bA 13 9 (T 12)),aL 10 true ((fG 14 9 (T 11) none (some (T 13)) none)),aL 10 true (I 15 (T 1)),aL 10 true (bi 16 .eql 9 (T 14) (T 15)),cO 17 (T 10) (T 16) (C (.bool false)),aj 4 (T 17)]]))
 (.ret)),[.tmp 4]⟩
def HQ:cL:=⟨.seq (.ops [.xs [aj 2 (ai 0)]])
 (.seq (.ops [.xs [I 3 (T 0),aS 4 132 [T 3],bi 5 .sub 3 (ai 32) (T 4),aj 2 (T 5)]])
 (.ret)),[.tmp 2]⟩
def Ie:cL:=⟨.seq (.ops [.xs [aj 4 (C (.slice none 0 0))]])
 (.seq (.ops [.xs [I 9 (T 0),bA 10 76 (T 9),bi 11 .add 3 (T 10) (ai 1),ms 12 76 (T 11) (T 11),aj 5 (T 12)]])
 (.seq (.seq (.ops [.xs [I 13 (T 0),bA 14 76 (T 13),I 15 (ai 0)]])
 (.block 0 (.loop 1099511595456 0 (.seq (.ops [.xs [bi 16 .lss 3 (T 15) (T 14)]])
 (.seq (.cond (T 16) (.skip)
 (.exit 0))
 (.seq (.block 1 (.seq (.ops [.xs [I 17 (T 15),bn 18 76 (T 13) (T 15),aF 19 124 (T 18),aj 6 (T 17),aj 7 (T 19)]])
 (.seq (.ops [.xs [I 20 (T 7),ch 21 124 123 (T 20),I 22 (T 1),bi 23 .shl 123 (T 21) (T 22),aj 8 (T 23)]])
 (.seq (.ops [.xs [I 24 (T 5),I 25 (T 6),bn 26 76 (T 24) (T 25),aF 27 124 (T 26),I 28 (T 8),ch 29 123 124 (T 28),bi 30 .or 124 (T 27) (T 29),bn 31 76 (T 24) (T 25),st 124 (T 31) (T 30)]])
 (.ops [.xs [I 32 (T 5),I 33 (T 6),bi 34 .add 3 (T 33) (ai 1),I 35 (T 8),bi 36 .shr 123 (T 35) (C (.int .u64 32)),ch 37 123 124 (T 36),bn 38 76 (T 32) (T 34),st 124 (T 38) (T 37)]])))))
 (.ops [.xs [bi 39 .add 3 (T 15) (ai 1),I 15 (T 39)]])))))))
 (.seq (.ops [.xs [I 40 (T 5),aj 4 (T 40)]])
 (.ret)))),[.tmp 4]⟩
def H9:cL:=⟨.seq (.ops [.xs [aj 4 (C (.int .u32 0))]])
 (.seq (.ops [.xs [I 15 (T 1),bA 16 76 (T 15),aj 5 (T 16)]])
 (.seq (.ops [.xs [I 17 (T 0),I 18 (T 5),bn 19 76 (T 17) (T 18),aF 20 124 (T 19),ch 21 124 123 (T 20),bi 22 .shl 123 (T 21) (C (.int .u64 32)),I 23 (T 0),I 24 (T 5),bi 25 .sub 3 (T 24) (ai 1),bn 26 76 (T 23) (T 25),aF 27 124 (T 26),ch 28 124 123 (T 27),bi 29 .or 123 (T 22) (T 28),aj 6 (T 29)]])
 (.seq (.ops [.xs [I 30 (T 6),I 31 (T 1),I 32 (T 5),bi 33 .sub 3 (T 32) (ai 1),bn 34 76 (T 31) (T 33),aF 35 124 (T 34),ch 36 124 123 (T 35),bi 37 .quo 123 (T 30) (T 36),I 38 (T 6),I 39 (T 1),I 40 (T 5),bi 41 .sub 3 (T 40) (ai 1),bn 42 76 (T 39) (T 41),aF 43 124 (T 42),ch 44 124 123 (T 43),bi 45 .rem 123 (T 38) (T 44),aj 7 (T 37),aj 8 (T 45)]])
 (.seq (.box 4835703278388147954647424 0 (.block 0 (.loop 4835703278388147954647424 0 (.seq (.seq (.box 590295739989961474048 0 (.ops [.xs [I 46 (T 7),bi 47 .shr 123 (T 46) (C (.int .u64 32)),bi 48 .gtr 123 (T 47) (C (.int .u64 0)),I 49 (T 48),aL 49 false (I 50 (T 7)),aL 49 false (I 51 (T 1)),aL 49 false (I 52 (T 5)),aL 49 false (bi 53 .sub 3 (T 52) (ai 2)),aL 49 false (bn 54 76 (T 51) (T 53)),aL 49 false (aF 55 124 (T 54)),aL 49 false (ch 56 124 123 (T 55)),aL 49 false (bi 57 .mul 123 (T 50) (T 56)),aL 49 false (I 58 (T 8)),aL 49 false ((bi 59 .shl 123 (T 58) (C (.int .u64 32)))),aL 49 false (I 60 (T 0)),aL 49 false (I 61 (T 5)),aL 49 false (bi 62 .sub 3 (T 61) (ai 2)),aL 49 false (bn 63 76 (T 60) (T 62)),aL 49 false (aF 64 124 (T 63)),aL 49 false (ch 65 124 123 (T 64)),aL 49 false (bi 66 .or 123 (T 59) (T 65)),aL 49 false (bi 67 .gtr 123 (T 57) (T 66)),cO 68 (T 49) (C (.bool true)) (T 67)]]))
 (.cond (T 68) (.skip)
 (.exit 0)))
 (.block 1 (.seq (.ops [.xs [I 69 (T 7),bi 70 .sub 123 (T 69) (C (.int .u64 1)),aj 7 (T 70)]])
 (.seq (.ops [.xs [I 71 (T 8),I 72 (T 1),I 73 (T 5),bi 74 .sub 3 (T 73) (ai 1),bn 75 76 (T 72) (T 74),aF 76 124 (T 75),ch 77 124 123 (T 76),bi 78 .add 123 (T 71) (T 77),aj 8 (T 78)]])
 (.seq (.ops [.xs [I 79 (T 8),bi 80 .shr 123 (T 79) (C (.int .u64 32)),bi 81 .gtr 123 (T 80) (C (.int .u64 0))]])
 (.cond (T 81) (.exit 0)
 (.skip))))))))))
 (.seq (.ops [.xs [aj 9 (C (.int .u64 0)),aj 10 (C (.int .u32 0))]])
 (.seq (.seq (.ops [.xs [I 82 (T 1),bA 83 76 (T 82),I 84 (ai 0)]])
 (.block 2 (.loop 10384593697726842143226925863149056 0 (.seq (.ops [.xs [bi 85 .lss 3 (T 84) (T 83)]])
 (.seq (.cond (T 85) (.skip)
 (.exit 2))
 (.seq (.block 3 (.seq (.ops [.xs [I 86 (T 84),aj 11 (T 86)]])
 (.seq (.ops [.xs [I 87 (T 7),I 88 (T 1),I 89 (T 11),bn 90 76 (T 88) (T 89),aF 91 124 (T 90),ch 92 124 123 (T 91),bi 93 .mul 123 (T 87) (T 92),I 94 (T 9),bi 95 .add 123 (T 93) (T 94),aj 12 (T 95)]])
 (.seq (.ops [.xs [I 96 (T 12),bi 97 .shr 123 (T 96) (C (.int .u64 32)),aj 9 (T 97)]])
 (.ops [.xs [I 99 (T 0),I 100 (T 11),I 101 (T 0),I 102 (T 11),bn 103 76 (T 101) (T 102),aF 104 124 (T 103),I 105 (T 12),ch 106 123 124 (T 105),I 107 (T 10),aS 108 127 [T 104,T 106,T 107],I 98 (T 108),ex 109 (T 98) 0,ex 110 (T 98) 1,bn 111 76 (T 99) (T 100),st 124 (T 111) (T 109),aj 10 (T 110)]])))))
 (.ops [.xs [bi 112 .add 3 (T 84) (ai 1),I 84 (T 112)]])))))))
 (.seq (.ops [.xs [I 114 (T 0),I 115 (T 5),I 116 (T 0),I 117 (T 5),bn 118 76 (T 116) (T 117),aF 119 124 (T 118),I 120 (T 9),ch 121 123 124 (T 120),I 122 (T 10),aS 123 127 [T 119,T 121,T 122],I 113 (T 123),ex 124 (T 113) 0,ex 125 (T 113) 1,bn 126 76 (T 114) (T 115),st 124 (T 126) (T 124),aj 10 (T 125)]])
 (.seq (.box 1461501637160761734743215600984595715940048461952 0 (.seq (.ops [.xs [I 127 (T 10),bi 128 .gtr 124 (T 127) (C (.int .u32 0))]])
 (.cond (T 128) (.seq (.ops [.xs [I 129 (T 7),bi 130 .sub 123 (T 129) (C (.int .u64 1)),aj 7 (T 130)]])
 (.seq (.ops [.xs [aj 13 (C (.int .u32 0))]])
 (.seq (.seq (.ops [.xs [I 131 (T 1),bA 132 76 (T 131),I 133 (ai 0)]])
 (.block 4 (.loop 11417970652611937578435456927608523274479230976 0 (.seq (.ops [.xs [bi 134 .lss 3 (T 133) (T 132)]])
 (.seq (.cond (T 134) (.skip)
 (.exit 4))
 (.seq (.block 5 (.seq (.ops [.xs [I 135 (T 133),aj 14 (T 135)]])
 (.ops [.xs [I 137 (T 0),I 138 (T 14),I 139 (T 0),I 140 (T 14),bn 141 76 (T 139) (T 140),aF 142 124 (T 141),I 143 (T 1),I 144 (T 14),bn 145 76 (T 143) (T 144),aF 146 124 (T 145),I 147 (T 13),aS 148 122 [T 142,T 146,T 147],I 136 (T 148),ex 149 (T 136) 0,ex 150 (T 136) 1,bn 151 76 (T 137) (T 138),st 124 (T 151) (T 149),aj 13 (T 150)]])))
 (.ops [.xs [bi 152 .add 3 (T 133) (ai 1),I 133 (T 152)]])))))))
 (.ops [.xs [I 153 (T 0),I 154 (T 5),bn 155 76 (T 153) (T 154),aF 156 124 (T 155),I 157 (T 13),bi 158 .add 124 (T 156) (T 157),bn 159 76 (T 153) (T 154),st 124 (T 159) (T 158)]]))))
 (.skip))))
 (.seq (.ops [.xs [I 160 (T 7),ch 161 123 124 (T 160),aj 4 (T 161)]])
 (.ret)))))))))),[.tmp 4]⟩
def H_:cL:=⟨.seq (.ops [.xs [aj 4 (C (.slice none 0 0))]])
 (.seq (.ops [.xs [I 8 (T 0),bA 9 76 (T 8),ms 10 76 (T 9) (T 9),aj 5 (T 10)]])
 (.seq (.seq (.ops [.xs [I 11 (T 0),bA 12 76 (T 11),I 13 (ai 0)]])
 (.block 0 (.loop 8796093014208 0 (.seq (.ops [.xs [bi 14 .lss 3 (T 13) (T 12)]])
 (.seq (.cond (T 14) (.skip)
 (.exit 0))
 (.seq (.block 1 (.seq (.ops [.xs [I 15 (T 13),aj 6 (T 15)]])
 (.seq (.ops [.xs [I 16 (T 0),I 17 (T 6),bn 18 76 (T 16) (T 17),aF 19 124 (T 18),ch 20 124 123 (T 19),aj 7 (T 20)]])
 (.seq (.box 34357641344 0 (.seq (.ops [.xs [I 21 (T 6),bi 22 .add 3 (T 21) (ai 1),I 23 (T 0),bA 24 76 (T 23),bi 25 .lss 3 (T 22) (T 24)]])
 (.cond (T 25) (.ops [.xs [I 26 (T 7),I 27 (T 0),I 28 (T 6),bi 29 .add 3 (T 28) (ai 1),bn 30 76 (T 27) (T 29),aF 31 124 (T 30),ch 32 124 123 (T 31),bi 33 .shl 123 (T 32) (C (.int .u64 32)),bi 34 .or 123 (T 26) (T 33),aj 7 (T 34)]])
 (.skip))))
 (.ops [.xs [I 35 (T 5),I 36 (T 6),I 37 (T 7),I 38 (T 1),bi 39 .shr 123 (T 37) (T 38),ch 40 123 124 (T 39),bn 41 76 (T 35) (T 36),st 124 (T 41) (T 40)]])))))
 (.ops [.xs [bi 42 .add 3 (T 13) (ai 1),I 13 (T 42)]])))))))
 (.seq (.ops [.xs [I 43 (T 5),aS 44 110 [T 43],aj 4 (T 44)]])
 (.ret)))),[.tmp 4]⟩
def IK:cL:=⟨.seq (.ops [.xs [aj 4 (ai 0)]])
 (.seq (.ops [.xs [I 5 (T 0),I 6 (T 1),aS 7 133 [T 5,T 6],aj 4 (T 7)]])
 (.ret)),[.tmp 4]⟩
def HR:cL:=⟨.seq (.ops [.xs [aj 2 (ai 0)]])
 (.seq (.box 125 0 (.seq (.ops [.xs [I 3 (T 0),bi 4 .geq 124 (T 3) (C (.int .u32 65536))]])
 (.cond (T 4) (.seq (.ops [.xs [I 5 (T 0),bi 6 .shr 124 (T 5) (C (.int .u64 16)),aj 0 (T 6)]])
 (.ops [.xs [aj 2 (ai 16)]]))
 (.skip))))
 (.seq (.box 8069 0 (.seq (.ops [.xs [I 7 (T 0),bi 8 .geq 124 (T 7) (C (.int .u32 256))]])
 (.cond (T 8) (.seq (.ops [.xs [I 9 (T 0),bi 10 .shr 124 (T 9) (C (.int .u64 8)),aj 0 (T 10)]])
 (.ops [.xs [I 11 (T 2),bi 12 .add 3 (T 11) (ai 8),aj 2 (T 12)]]))
 (.skip))))
 (.seq (.ops [.xs [I 13 (T 2),I 14 (T 0),ch 15 124 5 (T 14),(ek 16 9 (C (.string {data:=(List.toArray (List.append (List.append [0,1,2,2,3,3,3,3,4,4,4,4,4,4,4,4,5,5,5,5,5,5,5,5,5,5,5,5,5,5,5,5,6,6,6,6,6,6,6,6,6,6,6,6,6,6,6,6,6,6,6,6,6,6,6,6,6,6,6,6,6,6,6,6] [7,7,7,7,7,7,7,7,7,7,7,7,7,7,7,7,7,7,7,7,7,7,7,7,7,7,7,7,7,7,7,7,7,7,7,7,7,7,7,7,7,7,7,7,7,7,7,7,7,7,7,7,7,7,7,7,7,7,7,7,7,7,7,7]) (List.append [8,8,8,8,8,8,8,8,8,8,8,8,8,8,8,8,8,8,8,8,8,8,8,8,8,8,8,8,8,8,8,8,8,8,8,8,8,8,8,8,8,8,8,8,8,8,8,8,8,8,8,8,8,8,8,8,8,8,8,8,8,8,8,8] [8,8,8,8,8,8,8,8,8,8,8,8,8,8,8,8,8,8,8,8,8,8,8,8,8,8,8,8,8,8,8,8,8,8,8,8,8,8,8,8,8,8,8,8,8,8,8,8,8,8,8,8,8,8,8,8,8,8,8,8,8,8,8,8])))})) (T 15)),ch 17 5 3 (T 16),bi 18 .add 3 (T 13) (T 17),aj 2 (T 18)]])
 (.ret)))),[.tmp 2]⟩
theorem th:j6 prog 3=some .i64:=by kernel_rfl
theorem abl:j6 prog 24=some .i64:=by kernel_rfl
theorem acb:e_ prog 27=some 93:=by kernel_rfl
theorem aco:fH prog 27=true:=by kernel_rfl
theorem O9:bp prog 93=some 2:=by kernel_rfl
theorem acJ:bytes? prog 93=some 40:=by kernel_rfl
theorem B4:dA prog 93=some (.agg #[(.string {data:= #[]}),(.slice none 0 0)]):=by kernel_rfl
theorem acW:prog.underlying 27=some (.slice 93):=by kernel_rfl
theorem ac5:e_ prog 22=some 34:=by kernel_rfl
theorem adf:fH prog 22=true:=by kernel_rfl
theorem abm:bp prog 34=some 1:=by kernel_rfl
theorem aby:bytes? prog 34=some 24:=by kernel_rfl
theorem abH:dA prog 34=some (.slice none 0 0):=by kernel_rfl
theorem abR:prog.underlying 22=some (.slice 34):=by kernel_rfl
theorem abX:dq prog 34=some false:=by kernel_rfl
theorem ab4:e_ prog 34=some 3:=by kernel_rfl
theorem ab7:fH prog 34=true:=by kernel_rfl
theorem ab8:bp prog 3=some 1:=by kernel_rfl
theorem ab9:bytes? prog 3=some 8:=by kernel_rfl
theorem aca:dA prog 3=some (.int .i64 0):=by kernel_rfl
theorem acd:prog.underlying 34=some (.slice 3):=by kernel_rfl
theorem ace:e_ prog 95=some 27:=by kernel_rfl
theorem acf:fH prog 95=true:=by kernel_rfl
theorem acg:bp prog 27=some 1:=by kernel_rfl
theorem ach:bytes? prog 27=some 24:=by kernel_rfl
theorem aci:dA prog 27=some (.slice none 0 0):=by kernel_rfl
theorem acj:prog.underlying 95=some (.slice 27):=by kernel_rfl
theorem ack:iE prog 45=true:=by kernel_rfl
theorem acm:fH prog 45=true:=by kernel_rfl
theorem acn:dq prog 3=some false:=by kernel_rfl
theorem acp:bp prog 56=some 2:=by kernel_rfl
theorem acq:dq prog 56=some true:=by kernel_rfl
theorem acr:fQ prog 56 0=some 0:=by kernel_rfl
theorem acs:dq prog 5=some false:=by kernel_rfl
theorem acu:bp prog 5=some 1:=by kernel_rfl
theorem acv:fQ prog 56 1=some 1:=by kernel_rfl
theorem yR:j6 prog 5=some .u8:=by kernel_rfl
theorem acw:e_ prog 60=some 61:=by kernel_rfl
theorem acx:fH prog 60=true:=by kernel_rfl
theorem acy:bp prog 61=some 1:=by kernel_rfl
theorem acz:bytes? prog 61=some 24:=by kernel_rfl
theorem acA:dA prog 61=some (.slice none 0 0):=by kernel_rfl
theorem acB:prog.underlying 60=some (.slice 61):=by kernel_rfl
theorem acC:dq prog 61=some false:=by kernel_rfl
theorem acD:e_ prog 61=some 5:=by kernel_rfl
theorem acE:fH prog 61=true:=by kernel_rfl
theorem acF:bytes? prog 5=some 1:=by kernel_rfl
theorem acG:dA prog 5=some (.int .u8 0):=by kernel_rfl
theorem acH:prog.underlying 61=some (.slice 5):=by kernel_rfl
theorem acI:e_ prog 62=some 69:=by kernel_rfl
theorem acK:fH prog 62=true:=by kernel_rfl
theorem O_:bp prog 69=some 2:=by kernel_rfl
theorem acL:bytes? prog 69=some 32:=by kernel_rfl
theorem B1:dA prog 69=some (.agg #[(.int .i64 0),(.slice none 0 0)]):=by kernel_rfl
theorem acM:prog.underlying 62=some (.slice 69):=by kernel_rfl
theorem acN:fQ prog 69 0=some 0:=by kernel_rfl
theorem B2:dA prog 74=some (.agg #[(.slice none 0 0)]):=by kernel_rfl
theorem Pa:bp prog 74=some 1:=by kernel_rfl
theorem acO:dq prog 74=some true:=by kernel_rfl
theorem B3:dA prog 80=some (.agg #[(.bool false),(.slice none 0 0),(.bool false),(.slice none 0 0)]):=by kernel_rfl
theorem Pb:bp prog 80=some 4:=by kernel_rfl
theorem acP:dq prog 80=some true:=by kernel_rfl
theorem acQ:dq prog 93=some true:=by kernel_rfl
theorem acR:fQ prog 93 0=some 0:=by kernel_rfl
theorem acS:dq prog 45=some false:=by kernel_rfl
theorem acT:bp prog 45=some 1:=by kernel_rfl
theorem acU:oO prog 42 0=some (0,some 2):=by kernel_rfl
theorem acV:fQ prog 93 1=some 1:=by kernel_rfl
theorem B5:dA prog 42=some (.agg #[(.bool false),(.slice none 0 0),(.bool false),(.slice none 0 0)]):=by kernel_rfl
theorem Pc:bp prog 42=some 4:=by kernel_rfl
theorem acX:dq prog 42=some true:=by kernel_rfl
theorem acY:dq prog 27=some false:=by kernel_rfl
theorem acZ:fQ prog 42 0=some 0:=by kernel_rfl
theorem ac0:dq prog 40=some true:=by kernel_rfl
theorem Pd:bp prog 40=some 2:=by kernel_rfl
theorem ac1:fQ prog 42 1=some 2:=by kernel_rfl
theorem Pe:lo prog 42=some [(0,2),(2,2)]:=by kernel_rfl
theorem ac2:iE prog 9=true:=by kernel_rfl
theorem ac3:fH prog 9=true:=by kernel_rfl
theorem ac4:fQ prog 40 0=some 0:=by kernel_rfl
theorem ac6:dq prog 4=some false:=by kernel_rfl
theorem ac7:bp prog 4=some 1:=by kernel_rfl
theorem Pf:lo prog 93=some [(0,1),(1,1)]:=by kernel_rfl
theorem ac8:e_ prog 110=some 113:=by kernel_rfl
theorem ac9:fH prog 110=true:=by kernel_rfl
theorem Pg:bp prog 113=some 5:=by kernel_rfl
theorem ada:bytes? prog 113=some 88:=by kernel_rfl
theorem B6:dA prog 113=some (.agg #[(.bool false),(.slice none 0 0),(.bool false),(.slice none 0 0),(.slice none 0 0)]):=by kernel_rfl
theorem adb:prog.underlying 110=some (.slice 113):=by kernel_rfl
theorem ade:dq prog 113=some true:=by kernel_rfl
theorem adg:fQ prog 113 0=some 0:=by kernel_rfl
theorem Ph:lo prog 69=some [(0,1),(1,1)]:=by kernel_rfl
theorem adh:dq prog 69=some true:=by kernel_rfl
theorem adi:fQ prog 113 1=some 4:=by kernel_rfl
theorem adj:fQ prog 69 1=some 1:=by kernel_rfl
theorem adk:e_ prog 115=some 4:=by kernel_rfl
theorem adl:fH prog 115=true:=by kernel_rfl
theorem adm:bytes? prog 4=some 1:=by kernel_rfl
theorem adn:dA prog 4=some (.bool false):=by kernel_rfl
theorem ado:prog.underlying 115=some (.slice 4):=by kernel_rfl
theorem abn:bp prog 22=some 1:=by kernel_rfl
theorem abo:dq prog 22=some false:=by kernel_rfl
theorem abp:e_ prog 120=some 80:=by kernel_rfl
theorem abq:fH prog 120=true:=by kernel_rfl
theorem abr:bytes? prog 80=some 64:=by kernel_rfl
theorem abt:prog.underlying 120=some (.slice 80):=by kernel_rfl
theorem abu:e_ prog 72=some 120:=by kernel_rfl
theorem abv:fH prog 72=true:=by kernel_rfl
theorem abw:bp prog 120=some 1:=by kernel_rfl
theorem abx:bytes? prog 120=some 24:=by kernel_rfl
theorem abz:dA prog 120=some (.slice none 0 0):=by kernel_rfl
theorem abA:prog.underlying 72=some (.slice 120):=by kernel_rfl
theorem O1:lo prog 74=some [(0,1)]:=by kernel_rfl
theorem abB:fQ prog 74 0=some 0:=by kernel_rfl
theorem abC:dq prog 72=some false:=by kernel_rfl
theorem abD:bp prog 72=some 1:=by kernel_rfl
theorem abE:dq prog 120=some false:=by kernel_rfl
theorem abF:fQ prog 80 0=some 0:=by kernel_rfl
theorem abG:dq prog 78=some true:=by kernel_rfl
theorem O2:bp prog 78=some 2:=by kernel_rfl
theorem abI:fQ prog 80 1=some 2:=by kernel_rfl
theorem BZ:dA prog 78=some (.agg #[(.bool false),(.slice none 0 0)]):=by kernel_rfl
theorem abJ:fQ prog 78 1=some 1:=by kernel_rfl
theorem abK:dq prog 76=some false:=by kernel_rfl
theorem abL:bp prog 76=some 1:=by kernel_rfl
theorem abM:e_ prog 76=some 124:=by kernel_rfl
theorem abN:fH prog 76=true:=by kernel_rfl
theorem abO:bp prog 124=some 1:=by kernel_rfl
theorem abP:bytes? prog 124=some 4:=by kernel_rfl
theorem abQ:dA prog 124=some (.int .u32 0):=by kernel_rfl
theorem abS:prog.underlying 76=some (.slice 124):=by kernel_rfl
theorem abT:dq prog 124=some false:=by kernel_rfl
theorem ti:j6 prog 124=some .u32:=by kernel_rfl
theorem yP:j6 prog 123=some .u64:=by kernel_rfl
theorem abU:fQ prog 78 0=some 0:=by kernel_rfl
theorem abV:fQ prog 40 1=some 1:=by kernel_rfl
theorem B0:dA prog 40=some (.agg #[(.bool false),(.slice none 0 0)]):=by kernel_rfl
theorem abW:tH prog 4=true:=by kernel_rfl
theorem O3:lo prog 40=some [(0,1),(1,1)]:=by kernel_rfl
theorem O4:dA prog 140=some (.agg #[(.slice none 0 0),(.slice none 0 0),(.slice none 0 0)]):=by kernel_rfl
theorem O5:lo prog 140=some [(0,1),(1,1),(2,1)]:=by kernel_rfl
theorem abY:bp prog 140=some 3:=by kernel_rfl
theorem abZ:fQ prog 140 2=some 2:=by kernel_rfl
theorem ab0:bp prog 115=some 1:=by kernel_rfl
theorem ab1:fQ prog 140 1=some 1:=by kernel_rfl
theorem O6:lo prog 113=some [(0,4),(4,1)]:=by kernel_rfl
theorem O7:lo prog 80=some [(0,2),(2,2)]:=by kernel_rfl
theorem ab2:prog.concrete 9=true:=by kernel_rfl
theorem yQ:j6 prog 142=some .u64:=by kernel_rfl
theorem ab3:oO prog 40 1=some (1,none):=by kernel_rfl
theorem ab5:fQ prog 140 0=some 0:=by kernel_rfl
theorem ab6:dq prog 115=some false:=by kernel_rfl
theorem O8:lo prog 78=some [(0,1),(1,1)]:=by kernel_rfl
attribute [simp] th abl acb aco O9 acJ B4 acW ac5 adf abm aby abH abR abX ab4 ab7 ab8 ab9 aca acd ace acf acg ach aci acj ack acm acn acp acq acr acs acu acv yR acw acx acy acz acA acB acC acD acE acF acG acH acI acK O_ acL B1 acM acN B2 Pa acO B3 Pb acP acQ acR acS acT acU acV B5 Pc acX acY acZ ac0 Pd ac1 Pe ac2 ac3 ac4 ac6 ac7 Pf ac8 ac9 Pg ada B6 adb ade adg Ph adh adi adj adk adl adm adn ado abn abo abp abq abr abt abu abv abw abx abz abA O1 abB abC abD abE abF abG O2 abI BZ abJ abK abL abM abN abO abP abQ abS abT ti yP abU abV B0 abW O3 O4 O5 abY abZ ab0 ab1 O6 O7 ab2 yQ ab3 ab5 ab6 O8
@[simp] theorem agz{r:List bF}{F:Fr}{H:ab}{Q:Fr->ab->Prop}(d:Nat)(x:Operand)(J:isInt (aq F x)=true)(ax:ba (ch d 5 3 x::r) Q):a_ prog (ch d 5 3 x::r) Q ax F H=a_ prog r Q .mk (a1 F d (.int .i64 (IntKind.i64.wrap (intOf (aq F x))))) H:=ny yR th J ax
@[simp] theorem agx{r:List bF}{F:Fr}{H:ab}{Q:Fr->ab->Prop}(d:Nat)(x:Operand)(J:isInt (aq F x)=true)(ax:ba (ch d 3 5 x::r) Q):a_ prog (ch d 3 5 x::r) Q ax F H=a_ prog r Q .mk (a1 F d (.int .u8 (IntKind.u8.wrap (intOf (aq F x))))) H:=ny th yR J ax
@[simp high] theorem afD{r:List bF}{F:Fr}{H:ab}{Q:Fr->ab->Prop}(d:Nat)(ax:ba (bL d 74::r) Q):a_ prog (bL d 74::r) Q ax F H=a_ prog r Q .mk (a1 F d (.pointer (some ⟨H.length,0,none⟩))) (H++[.own 74 false [(.slice none 0 0)]]):=by rw[rF,B2,gb,show flat (.agg #[(.slice none 0 0)])=true from by kernel_rfl,Pa];simp[Value.cells]
theorem ad0:Whole prog 74 (.agg #[(.slice none 0 0)]):=⟨by kernel_rfl,by kernel_rfl,(by rw[if_pos (by rfl)];kernel_rfl)⟩
@[simp] theorem akK{F G:Fr}{H:ab}{r:List g2}{Q:Fr->Fr->ab->Prop}(c:Nat)(ax:ba (.bL c 74::r) Q):ec prog (.bL c 74::r) Q ax F G H=ec prog r Q .mk (a1 F c (.pointer (some ⟨H.length,0,none⟩))) (a1 G c (.agg #[(.slice none 0 0)])) (H++[.dead]):=rI B2 (by kernel_rfl) ad0 ax
@[simp high] theorem afF{r:List bF}{F:Fr}{H:ab}{Q:Fr->ab->Prop}(d:Nat)(ax:ba (bL d 80::r) Q):a_ prog (bL d 80::r) Q ax F H=a_ prog r Q .mk (a1 F d (.pointer (some ⟨H.length,0,none⟩))) (H++[.own 80 false [(.bool false),(.slice none 0 0),(.bool false),(.slice none 0 0)]]):=by rw[rF,B3,gb,show flat (.agg #[(.bool false),(.slice none 0 0),(.bool false),(.slice none 0 0)])=true from by kernel_rfl,Pb];simp[Value.cells]
theorem ad2:Whole prog 80 (.agg #[(.bool false),(.slice none 0 0),(.bool false),(.slice none 0 0)]):=⟨by kernel_rfl,by kernel_rfl,(by rw[if_pos (by rfl)];kernel_rfl)⟩
@[simp] theorem akM{F G:Fr}{H:ab}{r:List g2}{Q:Fr->Fr->ab->Prop}(c:Nat)(ax:ba (.bL c 80::r) Q):ec prog (.bL c 80::r) Q ax F G H=ec prog r Q .mk (a1 F c (.pointer (some ⟨H.length,0,none⟩))) (a1 G c (.agg #[(.bool false),(.slice none 0 0),(.bool false),(.slice none 0 0)])) (H++[.dead]):=rI B3 (by kernel_rfl) ad2 ax
@[simp high] theorem afG{r:List bF}{F:Fr}{H:ab}{Q:Fr->ab->Prop}(d:Nat)(ax:ba (bL d 93::r) Q):a_ prog (bL d 93::r) Q ax F H=a_ prog r Q .mk (a1 F d (.pointer (some ⟨H.length,0,none⟩))) (H++[.own 93 false [(.string {data:= #[]}),(.slice none 0 0)]]):=by rw[rF,B4,gb,show flat (.agg #[(.string {data:= #[]}),(.slice none 0 0)])=true from by kernel_rfl,O9];simp[Value.cells]
theorem ad3:Whole prog 93 (.agg #[(.string {data:= #[]}),(.slice none 0 0)]):=⟨by kernel_rfl,by kernel_rfl,(by rw[if_pos (by rfl)];kernel_rfl)⟩
@[simp] theorem akN{F G:Fr}{H:ab}{r:List g2}{Q:Fr->Fr->ab->Prop}(c:Nat)(ax:ba (.bL c 93::r) Q):ec prog (.bL c 93::r) Q ax F G H=ec prog r Q .mk (a1 F c (.pointer (some ⟨H.length,0,none⟩))) (a1 G c (.agg #[(.string {data:= #[]}),(.slice none 0 0)])) (H++[.dead]):=rI B4 (by kernel_rfl) ad3 ax
@[simp high] theorem afB{r:List bF}{F:Fr}{H:ab}{Q:Fr->ab->Prop}(d:Nat)(ax:ba (bL d 42::r) Q):a_ prog (bL d 42::r) Q ax F H=a_ prog r Q .mk (a1 F d (.pointer (some ⟨H.length,0,none⟩))) (H++[.own 42 false [(.bool false),(.slice none 0 0),(.bool false),(.slice none 0 0)]]):=by rw[rF,B5,gb,show flat (.agg #[(.bool false),(.slice none 0 0),(.bool false),(.slice none 0 0)])=true from by kernel_rfl,Pc];simp[Value.cells]
theorem adY:Whole prog 42 (.agg #[(.bool false),(.slice none 0 0),(.bool false),(.slice none 0 0)]):=⟨by kernel_rfl,by kernel_rfl,(by rw[if_pos (by rfl)];kernel_rfl)⟩
@[simp] theorem akI{F G:Fr}{H:ab}{r:List g2}{Q:Fr->Fr->ab->Prop}(c:Nat)(ax:ba (.bL c 42::r) Q):ec prog (.bL c 42::r) Q ax F G H=ec prog r Q .mk (a1 F c (.pointer (some ⟨H.length,0,none⟩))) (a1 G c (.agg #[(.bool false),(.slice none 0 0),(.bool false),(.slice none 0 0)])) (H++[.dead]):=rI B5 (by kernel_rfl) adY ax
@[simp] theorem qB{r:List bF}{F:Fr}{H:ab}{Q:Fr->ab->Prop}(d:Nat)(a6:List (Nat×Operand))(ax:ba (dC d 42 a6::r) Q):a_ prog (dC d 42 a6::r) Q ax F H=ga (fun out=>a_ prog r Q .mk (a1 F d (.agg out.toArray)) H) .mk (kn [(0,2),(2,2)] (Value.cells (.agg #[(.bool false),(.slice none 0 0),(.bool false),(.slice none 0 0)])).toList (a6.map fun p=>(p.1,aq F p.2))):=qf B5 (by kernel_rfl) Pe ax
@[simp] theorem af2{r:List bF}{F:Fr}{H:ab}{Q:Fr->ab->Prop}(d:Nat)(a6:List (Nat×Operand))(ax:ba (dC d 93 a6::r) Q):a_ prog (dC d 93 a6::r) Q ax F H=ga (fun out=>a_ prog r Q .mk (a1 F d (.agg out.toArray)) H) .mk (kn [(0,1),(1,1)] (Value.cells (.agg #[(.string {data:= #[]}),(.slice none 0 0)])).toList (a6.map fun p=>(p.1,aq F p.2))):=qf B4 (by kernel_rfl) Pf ax
@[simp high] theorem afz{r:List bF}{F:Fr}{H:ab}{Q:Fr->ab->Prop}(d:Nat)(ax:ba (bL d 113::r) Q):a_ prog (bL d 113::r) Q ax F H=a_ prog r Q .mk (a1 F d (.pointer (some ⟨H.length,0,none⟩))) (H++[.own 113 false [(.bool false),(.slice none 0 0),(.bool false),(.slice none 0 0),(.slice none 0 0)]]):=by rw[rF,B6,gb,show flat (.agg #[(.bool false),(.slice none 0 0),(.bool false),(.slice none 0 0),(.slice none 0 0)])=true from by kernel_rfl,Pg];simp[Value.cells]
theorem adW:Whole prog 113 (.agg #[(.bool false),(.slice none 0 0),(.bool false),(.slice none 0 0),(.slice none 0 0)]):=⟨by kernel_rfl,by kernel_rfl,(by rw[if_pos (by rfl)];kernel_rfl)⟩
@[simp] theorem akG{F G:Fr}{H:ab}{r:List g2}{Q:Fr->Fr->ab->Prop}(c:Nat)(ax:ba (.bL c 113::r) Q):ec prog (.bL c 113::r) Q ax F G H=ec prog r Q .mk (a1 F c (.pointer (some ⟨H.length,0,none⟩))) (a1 G c (.agg #[(.bool false),(.slice none 0 0),(.bool false),(.slice none 0 0),(.slice none 0 0)])) (H++[.dead]):=rI B6 (by kernel_rfl) adW ax
@[simp] theorem afY{r:List bF}{F:Fr}{H:ab}{Q:Fr->ab->Prop}(d:Nat)(a6:List (Nat×Operand))(ax:ba (dC d 69 a6::r) Q):a_ prog (dC d 69 a6::r) Q ax F H=ga (fun out=>a_ prog r Q .mk (a1 F d (.agg out.toArray)) H) .mk (kn [(0,1),(1,1)] (Value.cells (.agg #[(.int .i64 0),(.slice none 0 0)])).toList (a6.map fun p=>(p.1,aq F p.2))):=qf B1 (by kernel_rfl) Ph ax
@[simp high] theorem afC{r:List bF}{F:Fr}{H:ab}{Q:Fr->ab->Prop}(d:Nat)(ax:ba (bL d 69::r) Q):a_ prog (bL d 69::r) Q ax F H=a_ prog r Q .mk (a1 F d (.pointer (some ⟨H.length,0,none⟩))) (H++[.own 69 false [(.int .i64 0),(.slice none 0 0)]]):=by rw[rF,B1,gb,show flat (.agg #[(.int .i64 0),(.slice none 0 0)])=true from by kernel_rfl,O_];simp[Value.cells]
theorem adZ:Whole prog 69 (.agg #[(.int .i64 0),(.slice none 0 0)]):=⟨by kernel_rfl,by kernel_rfl,(by rw[if_pos (by rfl)];kernel_rfl)⟩
@[simp] theorem akJ{F G:Fr}{H:ab}{r:List g2}{Q:Fr->Fr->ab->Prop}(c:Nat)(ax:ba (.bL c 69::r) Q):ec prog (.bL c 69::r) Q ax F G H=ec prog r Q .mk (a1 F c (.pointer (some ⟨H.length,0,none⟩))) (a1 G c (.agg #[(.int .i64 0),(.slice none 0 0)])) (H++[.dead]):=rI B1 (by kernel_rfl) adZ ax
@[simp] theorem afZ{r:List bF}{F:Fr}{H:ab}{Q:Fr->ab->Prop}(d:Nat)(a6:List (Nat×Operand))(ax:ba (dC d 74 a6::r) Q):a_ prog (dC d 74 a6::r) Q ax F H=ga (fun out=>a_ prog r Q .mk (a1 F d (.agg out.toArray)) H) .mk (kn [(0,1)] (Value.cells (.agg #[(.slice none 0 0)])).toList (a6.map fun p=>(p.1,aq F p.2))):=qf B2 (by kernel_rfl) O1 ax
@[simp high] theorem afE{r:List bF}{F:Fr}{H:ab}{Q:Fr->ab->Prop}(d:Nat)(ax:ba (bL d 78::r) Q):a_ prog (bL d 78::r) Q ax F H=a_ prog r Q .mk (a1 F d (.pointer (some ⟨H.length,0,none⟩))) (H++[.own 78 false [(.bool false),(.slice none 0 0)]]):=by rw[rF,BZ,gb,show flat (.agg #[(.bool false),(.slice none 0 0)])=true from by kernel_rfl,O2];simp[Value.cells]
@[simp] theorem agq{r:List bF}{F:Fr}{H:ab}{Q:Fr->ab->Prop}(d:Nat)(x:Operand)(J:isInt (aq F x)=true)(ax:ba (ch d 124 123 x::r) Q):a_ prog (ch d 124 123 x::r) Q ax F H=a_ prog r Q .mk (a1 F d (.int .u64 (IntKind.u64.wrap (intOf (aq F x))))) H:=ny ti yP J ax
@[simp] theorem agp{r:List bF}{F:Fr}{H:ab}{Q:Fr->ab->Prop}(d:Nat)(x:Operand)(J:isInt (aq F x)=true)(ax:ba (ch d 123 3 x::r) Q):a_ prog (ch d 123 3 x::r) Q ax F H=a_ prog r Q .mk (a1 F d (.int .i64 (IntKind.i64.wrap (intOf (aq F x))))) H:=ny yP th J ax
@[simp high] theorem afA{r:List bF}{F:Fr}{H:ab}{Q:Fr->ab->Prop}(d:Nat)(ax:ba (bL d 40::r) Q):a_ prog (bL d 40::r) Q ax F H=a_ prog r Q .mk (a1 F d (.pointer (some ⟨H.length,0,none⟩))) (H++[.own 40 false [(.bool false),(.slice none 0 0)]]):=by rw[rF,B0,gb,show flat (.agg #[(.bool false),(.slice none 0 0)])=true from by kernel_rfl,Pd];simp[Value.cells]
theorem adX:Whole prog 40 (.agg #[(.bool false),(.slice none 0 0)]):=⟨by kernel_rfl,by kernel_rfl,(by rw[if_pos (by rfl)];kernel_rfl)⟩
@[simp] theorem akH{F G:Fr}{H:ab}{r:List g2}{Q:Fr->Fr->ab->Prop}(c:Nat)(ax:ba (.bL c 40::r) Q):ec prog (.bL c 40::r) Q ax F G H=ec prog r Q .mk (a1 F c (.pointer (some ⟨H.length,0,none⟩))) (a1 G c (.agg #[(.bool false),(.slice none 0 0)])) (H++[.dead]):=rI B0 (by kernel_rfl) adX ax
@[simp] theorem afX{r:List bF}{F:Fr}{H:ab}{Q:Fr->ab->Prop}(d:Nat)(a6:List (Nat×Operand))(ax:ba (dC d 40 a6::r) Q):a_ prog (dC d 40 a6::r) Q ax F H=ga (fun out=>a_ prog r Q .mk (a1 F d (.agg out.toArray)) H) .mk (kn [(0,1),(1,1)] (Value.cells (.agg #[(.bool false),(.slice none 0 0)])).toList (a6.map fun p=>(p.1,aq F p.2))):=qf B0 (by kernel_rfl) O3 ax
@[simp] theorem afW{r:List bF}{F:Fr}{H:ab}{Q:Fr->ab->Prop}(d:Nat)(a6:List (Nat×Operand))(ax:ba (dC d 140 a6::r) Q):a_ prog (dC d 140 a6::r) Q ax F H=ga (fun out=>a_ prog r Q .mk (a1 F d (.agg out.toArray)) H) .mk (kn [(0,1),(1,1),(2,1)] (Value.cells (.agg #[(.slice none 0 0),(.slice none 0 0),(.slice none 0 0)])).toList (a6.map fun p=>(p.1,aq F p.2))):=qf O4 (by kernel_rfl) O5 ax
@[simp] theorem Qe{r:List bF}{F:Fr}{H:ab}{Q:Fr->ab->Prop}(d:Nat)(a6:List (Nat×Operand))(ax:ba (dC d 113 a6::r) Q):a_ prog (dC d 113 a6::r) Q ax F H=ga (fun out=>a_ prog r Q .mk (a1 F d (.agg out.toArray)) H) .mk (kn [(0,4),(4,1)] (Value.cells (.agg #[(.bool false),(.slice none 0 0),(.bool false),(.slice none 0 0),(.slice none 0 0)])).toList (a6.map fun p=>(p.1,aq F p.2))):=qf B6 (by kernel_rfl) O6 ax
@[simp] theorem af1{r:List bF}{F:Fr}{H:ab}{Q:Fr->ab->Prop}(d:Nat)(a6:List (Nat×Operand))(ax:ba (dC d 80 a6::r) Q):a_ prog (dC d 80 a6::r) Q ax F H=ga (fun out=>a_ prog r Q .mk (a1 F d (.agg out.toArray)) H) .mk (kn [(0,2),(2,2)] (Value.cells (.agg #[(.bool false),(.slice none 0 0),(.bool false),(.slice none 0 0)])).toList (a6.map fun p=>(p.1,aq F p.2))):=qf B3 (by kernel_rfl) O7 ax
@[simp] theorem agw{r:List bF}{F:Fr}{H:ab}{Q:Fr->ab->Prop}(d:Nat)(x:Operand)(J:isInt (aq F x)=true)(ax:ba (ch d 3 142 x::r) Q):a_ prog (ch d 3 142 x::r) Q ax F H=a_ prog r Q .mk (a1 F d (.int .u64 (IntKind.u64.wrap (intOf (aq F x))))) H:=ny th yQ J ax
@[simp] theorem agu{r:List bF}{F:Fr}{H:ab}{Q:Fr->ab->Prop}(d:Nat)(x:Operand)(J:isInt (aq F x)=true)(ax:ba (ch d 142 3 x::r) Q):a_ prog (ch d 142 3 x::r) Q ax F H=a_ prog r Q .mk (a1 F d (.int .i64 (IntKind.i64.wrap (intOf (aq F x))))) H:=ny yQ th J ax
@[simp] theorem ags{r:List bF}{F:Fr}{H:ab}{Q:Fr->ab->Prop}(d:Nat)(x:Operand)(J:isInt (aq F x)=true)(ax:ba (ch d 124 5 x::r) Q):a_ prog (ch d 124 5 x::r) Q ax F H=a_ prog r Q .mk (a1 F d (.int .u8 (IntKind.u8.wrap (intOf (aq F x))))) H:=ny ti yR J ax
@[simp] theorem agv{r:List bF}{F:Fr}{H:ab}{Q:Fr->ab->Prop}(d:Nat)(x:Operand)(J:isInt (aq F x)=true)(ax:ba (ch d 3 123 x::r) Q):a_ prog (ch d 3 123 x::r) Q ax F H=a_ prog r Q .mk (a1 F d (.int .u64 (IntKind.u64.wrap (intOf (aq F x))))) H:=ny th yP J ax
@[simp] theorem ago{r:List bF}{F:Fr}{H:ab}{Q:Fr->ab->Prop}(d:Nat)(x:Operand)(J:isInt (aq F x)=true)(ax:ba (ch d 123 124 x::r) Q):a_ prog (ch d 123 124 x::r) Q ax F H=a_ prog r Q .mk (a1 F d (.int .u32 (IntKind.u32.wrap (intOf (aq F x))))) H:=ny yP ti J ax
@[simp] theorem agt{r:List bF}{F:Fr}{H:ab}{Q:Fr->ab->Prop}(d:Nat)(x:Operand)(J:isInt (aq F x)=true)(ax:ba (ch d 142 124 x::r) Q):a_ prog (ch d 142 124 x::r) Q ax F H=a_ prog r Q .mk (a1 F d (.int .u32 (IntKind.u32.wrap (intOf (aq F x))))) H:=ny yQ ti J ax
@[simp] theorem agr{r:List bF}{F:Fr}{H:ab}{Q:Fr->ab->Prop}(d:Nat)(x:Operand)(J:isInt (aq F x)=true)(ax:ba (ch d 124 142 x::r) Q):a_ prog (ch d 124 142 x::r) Q ax F H=a_ prog r Q .mk (a1 F d (.int .u64 (IntKind.u64.wrap (intOf (aq F x))))) H:=ny ti yQ J ax
@[simp] theorem af0{r:List bF}{F:Fr}{H:ab}{Q:Fr->ab->Prop}(d:Nat)(a6:List (Nat×Operand))(ax:ba (dC d 78 a6::r) Q):a_ prog (dC d 78 a6::r) Q ax F H=ga (fun out=>a_ prog r Q .mk (a1 F d (.agg out.toArray)) H) .mk (kn [(0,1),(1,1)] (Value.cells (.agg #[(.bool false),(.slice none 0 0)])).toList (a6.map fun p=>(p.1,aq F p.2))):=qf BZ (by kernel_rfl) O8 ax
@[simp] theorem agy{r:List bF}{F:Fr}{H:ab}{Q:Fr->ab->Prop}(d:Nat)(x:Operand)(J:isInt (aq F x)=true)(ax:ba (ch d 5 124 x::r) Q):a_ prog (ch d 5 124 x::r) Q ax F H=a_ prog r Q .mk (a1 F d (.int .u32 (IntKind.u32.wrap (intOf (aq F x))))) H:=ny yR ti J ax
theorem ad1:Whole prog 78 (.agg #[(.bool false),(.slice none 0 0)]):=⟨by kernel_rfl,by kernel_rfl,(by rw[if_pos (by rfl)];kernel_rfl)⟩
@[simp] theorem akL{F G:Fr}{H:ab}{r:List g2}{Q:Fr->Fr->ab->Prop}(c:Nat)(ax:ba (.bL c 78::r) Q):ec prog (.bL c 78::r) Q ax F G H=ec prog r Q .mk (a1 F c (.pointer (some ⟨H.length,0,none⟩))) (a1 G c (.agg #[(.bool false),(.slice none 0 0)])) (H++[.dead]):=rI BZ (by kernel_rfl) ad1 ax
theorem X9:gl 31 29 Hm:=fl Tryz.f31
theorem Xy:gl 36 5 Hc:=fl Tryz.f36
theorem XT:gl 39 15 Hj:=fl Tryz.f39
theorem X1:gl 48 6 Hk:=fl Tryz.f48
theorem X3:gl 49 8 Hl:=fl Tryz.f49
theorem XC:gl 59 7 He:=fl Tryz.f59
theorem Yc:gl 61 9 Hp:=fl Tryz.f61
theorem X_:gl 62 15 Hn:=fl Tryz.f62
theorem Yd:gl 63 9 Hq:=fl Tryz.f63
theorem Ya:gl 64 9 Ho:=fl Tryz.f64
theorem Xl:gl 66 16 G7:=fl Tryz.f66
theorem Xj:gl 67 9 G6:=fl Tryz.f67
theorem Xz:gl 75 6 Hd:=fl Tryz.f75
theorem Xv:gl 79 16 Hb:=fl Tryz.f79
theorem Xr:gl 88 20 Ha:=fl Tryz.f88
theorem Yf:gl 90 19 Hr:=fl Tryz.f90
theorem Yg:gl 91 19 Hs:=fl Tryz.f91
theorem XH:gl 92 13 Hg:=fl Tryz.f92
theorem XN:gl 93 68 Ct:=fl Tryz.f93
theorem Xq:gl 94 9 G_:=fl Tryz.f94
theorem Xo:gl 95 11 G9:=fl Tryz.f95
theorem XE:gl 101 41 Hf:=fl Tryz.f101
theorem Xh:gl 104 6 G4:=fl Tryz.f104
theorem Xi:gl 105 42 G5:=fl Tryz.f105
theorem XD:gl 107 44 Cr:=fl Tryz.f107
theorem XO:gl 110 21 Hi:=fl Tryz.f110
theorem Xm:gl 113 9 G8:=fl Tryz.f113
theorem XK:gl 116 54 Hh:=fl Tryz.f116
theorem XI:gl 118 41 Cs:=fl Tryz.f118
theorem W8:gl 122 22 G2:=fl Tryz.f122
theorem Xc:gl 127 25 G3:=fl Tryz.f127
theorem Xd:cZ 5 140 HU:=c3 Tryz.f5 []
theorem XU:cZ 9 6 Ij:=c3 Tryz.f9 [(6,74),(7,80),(9,80)]
theorem XW:cZ 10 12 Il:=c3 Tryz.f10 []
theorem Xf:cZ 12 57 HW:=c3 Tryz.f12 []
theorem XS:cZ 14 8 Ii:=c3 Tryz.f14 [(8,93)]
theorem XQ:cZ 16 7 Ig:=c3 Tryz.f16 [(7,42)]
theorem WO:cZ 17 2 Hx:=c3 Tryz.f17 [(2,42),(3,42)]
theorem XR:cZ 18 2 Ih:=c3 Tryz.f18 [(2,42),(3,42)]
theorem W1:cZ 19 2 HJ:=c3 Tryz.f19 [(2,42)]
theorem XV:cZ 20 6 Ik:=c3 Tryz.f20 [(6,74),(7,74),(8,80)]
theorem WW:cZ 23 2 HE:=c3 Tryz.f23 [(2,42),(3,42)]
theorem Xg:cZ 24 64 HX:=c3 Tryz.f24 []
theorem W0:cZ 25 3 HI:=c3 Tryz.f25 [(3,42)]
theorem WM:cZ 26 2 Hv:=c3 Tryz.f26 [(2,42),(3,42),(4,42)]
theorem XZ:cZ 32 2 Ip:=c3 Tryz.f32 [(2,74)]
theorem X4:cZ 33 1 Is:=c3 Tryz.f33 [(1,74),(2,80),(4,80),(7,80)]
theorem X8:cZ 34 1 Iw:=c3 Tryz.f34 [(1,74),(2,74)]
theorem Xu:cZ 35 2 H4:=c3 Tryz.f35 [(2,80),(3,80)]
theorem Xp:cZ 37 1 H0:=c3 Tryz.f37 [(1,78)]
theorem X6:cZ 38 1 Iu:=c3 Tryz.f38 [(1,74),(6,113),(9,93)]
theorem WY:cZ 41 1 HG:=c3 Tryz.f41 [(1,40)]
theorem WT:cZ 43 1 HB:=c3 Tryz.f43 [(1,42),(2,42),(3,40),(4,40),(5,40),(6,40),(7,40)]
theorem WN:cZ 44 2 Hw:=c3 Tryz.f44 [(2,40),(3,40)]
theorem WU:cZ 45 2 HC:=c3 Tryz.f45 [(2,40),(3,40),(4,40)]
theorem WS:cZ 46 2 HA:=c3 Tryz.f46 [(2,40),(3,40)]
theorem XX:cZ 47 6 Im:=c3 Tryz.f47 [(6,74),(7,80),(9,74),(10,80),(12,93),(13,80)]
theorem X5:cZ 50 2 It:=c3 Tryz.f50 [(2,74),(3,74),(8,80)]
theorem Xx:cZ 51 1 H6:=c3 Tryz.f51 [(1,80)]
theorem WK:cZ 53 1 Ht:=c3 Tryz.f53 [(1,40),(2,40)]
theorem WX:cZ 54 2 HF:=c3 Tryz.f54 [(2,42),(8,40),(10,40),(11,40)]
theorem Xe:cZ 55 12 HV:=c3 Tryz.f55 []
theorem WL:cZ 56 2 Hu:=c3 Tryz.f56 [(2,40),(3,40),(4,40)]
theorem X0:cZ 58 1 Iq:=c3 Tryz.f58 [(1,74),(6,74),(11,80),(14,80)]
theorem Yj:cZ 60 48 IB:=c3 Tryz.f60 []
theorem X2:cZ 65 2 Ir:=c3 Tryz.f65 [(2,74),(4,80),(5,80),(7,80)]
theorem X7:cZ 68 1 Iv:=c3 Tryz.f68 [(1,74),(2,74),(5,74),(6,80),(8,80)]
theorem WR:cZ 69 2 Hz:=c3 Tryz.f69 [(2,40),(3,40),(4,40),(5,40),(6,40)]
theorem WQ:cZ 70 2 Hy:=c3 Tryz.f70 [(2,40),(3,40),(4,40),(5,40),(12,40),(13,40)]
theorem WZ:cZ 71 2 HH:=c3 Tryz.f71 [(2,40),(3,40),(4,40)]
theorem W3:cZ 72 1 HL:=c3 Tryz.f72 [(1,40),(2,40)]
theorem Yi:cZ 73 48 IA:=c3 Tryz.f73 []
theorem Xs:cZ 74 2 H2:=c3 Tryz.f74 [(2,80),(13,80)]
theorem Ye:cZ 76 9 Iy:=c3 Tryz.f76 []
theorem Xt:cZ 77 2 H3:=c3 Tryz.f77 [(2,80),(3,80),(4,80)]
theorem XM:cZ 78 45 Ic:=c3 Tryz.f78 []
theorem W2:cZ 80 2 HK:=c3 Tryz.f80 [(2,40),(4,40)]
theorem WV:cZ 81 1 HD:=c3 Tryz.f81 [(1,40),(2,40)]
theorem W5:cZ 82 55 HN:=c3 Tryz.f82 []
theorem W6:cZ 83 41 HO:=c3 Tryz.f83 []
theorem W4:cZ 84 41 HM:=c3 Tryz.f84 []
theorem Yb:cZ 85 8 Ix:=c3 Tryz.f85 []
theorem XY:cZ 86 69 Io:=c3 Tryz.f86 []
theorem XA:cZ 87 2 H7:=c3 Tryz.f87 [(2,80),(3,80),(4,80)]
theorem Xa:cZ 89 30 HS:=c3 Tryz.f89 []
theorem Yk:cZ 96 48 IC:=c3 Tryz.f96 []
theorem W7:cZ 97 12 HP:=c3 Tryz.f97 []
theorem Ym:cZ 98 13 IE:=c3 Tryz.f98 []
theorem Yn:cZ 99 11 IF:=c3 Tryz.f99 []
theorem XL:cZ 100 77 Ib:=c3 Tryz.f100 []
theorem Xk:cZ 102 2 HY:=c3 Tryz.f102 [(2,78),(3,78),(4,78)]
theorem Yh:cZ 103 19 Iz:=c3 Tryz.f103 []
theorem XB:cZ 106 2 H8:=c3 Tryz.f106 [(2,78),(3,78),(4,80),(5,78),(6,78),(7,78),(8,78),(9,78)]
theorem Yl:cZ 108 28 ID:=c3 Tryz.f108 []
theorem Xw:cZ 109 1 H5:=c3 Tryz.f109 [(1,80),(2,80)]
theorem Xb:cZ 112 51 HT:=c3 Tryz.f112 []
theorem Yo:cZ 114 23 IG:=c3 Tryz.f114 []
theorem Yp:cZ 115 15 IH:=c3 Tryz.f115 []
theorem XJ:cZ 117 85 Ia:=c3 Tryz.f117 []
theorem Xn:cZ 119 2 HZ:=c3 Tryz.f119 [(2,78),(3,78),(4,78),(5,78),(8,78),(9,78)]
theorem Yr:cZ 120 143 IJ:=c3 Tryz.f120 []
theorem Yq:cZ 121 18 II:=c3 Tryz.f121 []
theorem W9:cZ 123 6 HQ:=c3 Tryz.f123 []
theorem XP:cZ 124 41 Ie:=c3 Tryz.f124 []
theorem XF:cZ 125 162 H9:=c3 Tryz.f125 []
theorem XG:cZ 126 45 H_:=c3 Tryz.f126 []
theorem Ys:cZ 128 8 IK:=c3 Tryz.f128 []
theorem W_:cZ 132 19 HR:=c3 Tryz.f132 []
end Go.cW
end
