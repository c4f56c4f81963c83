/- Part of the proof of ShopBirkhoff. -/
import Derived.Test.YtoiodfcefbapkaaGreatShopBirkhoffD
set_option linter.unusedVariables false
set_option linter.unusedSimpArgs false
section
set_option maxRecDepth 100000
namespace Go.cl
open Go.Proofs
open Go.Proofs.Tryz (prog)
abbrev c7(f n:Nat)(z:cT):Prop:=∀{args:List Value} {H:ad} {Q:Value->ad->Prop},args.length<=n->bV prog z.code (Ab z.results Q) .mk (kb args) (fun _=>undef) H->aX prog f args H Q
theorem c8{f n:Nat}{z:cT}(fn:Func)(C:Cells)(aC:prog.funcs[f]?=some fn:=by kernel_rfl)(aF:(fn.name== "runtime.NumGoroutine")=false:=by kernel_rfl)(ag:comp prog fn=some z.back:=by kernel_rfl)(aQ:(lj prog C z.code&&vj C z.results)=true:=by kernel_rfl)(hm:Nat.ble n fn.ntmps=true:=by kernel_rfl)(pY:(C.all fun p=>decide (n<=p.1))=true:=by kernel_rfl):c7 f n z:=
 fun au h=>aX.ah1 aC aF ag aQ (Nat.le_trans au (Nat.le_of_ble_eq_true hm)) (SV au pY) h
abbrev gK(f n:Nat)(z:fL):Prop:=∀{args:List Value} {H:ad} {Q:Value->ad->Prop},args.length<=n->hv prog z.code (rC prog z.results Q) .mk (kb args) H->aX prog f args H Q
theorem fI{f n:Nat}{z:fL}(fn:Func)(aC:prog.funcs[f]?=some fn:=by kernel_rfl)(aF:(fn.name== "runtime.NumGoroutine")=false:=by kernel_rfl)(ag:comp prog fn=some z:=by kernel_rfl)(hm:Nat.ble n fn.ntmps=true:=by kernel_rfl):gK f n z:=
 fun au h=>aX.aa2 aC aF ag (Nat.le_trans au (Nat.le_of_ble_eq_true hm)) h
def JF:fL:=⟨.seq (.ops [cE 1 22 (T 0),aj 2 (C (.bool false))])
 (.seq (.seq (.ops [aB 3 22 (T 1),bt 4 22 (T 3),bi 5 .lss 3 (T 4) (ai 1),I 6 (T 5),aJ 6 false (aB 7 22 (T 1)),aJ 6 false (bt 8 22 (T 7)),
  aJ 6 false (bi 9 .gtr 3 (T 8) (ai 8)),cI 10 (T 6) (C (.bool true)) (T 9),I 11 (T 10),aJ 11 false (aB 12 22 (T 1)),
  aJ 11 false (bb 13 22 (T 12) (ai 0)),aJ 11 false (aB 14 34 (T 13)),aJ 11 false (bt 15 34 (T 14)),aJ 11 false (bi 16 .lss 3 (T 15) (ai 1)),
  (cI 17 (T 11) (C (.bool true)) (T 16)),I 18 (T 17),aJ 18 false (aB 19 22 (T 1)),aJ 18 false (bb 20 22 (T 19) (ai 0)),
  aJ 18 false (aB 21 34 (T 20)),aJ 18 false (bt 22 34 (T 21)),aJ 18 false (bi 23 .gtr 3 (T 22) (ai 8)),cI 24 (T 18) (C (.bool true)) (T 23)])
 (.cond (T 24) (.seq (.ops [aj 2 (C (.bool false))])
 (.ret))
 (.skip)))
 (.seq (.ops [aB 25 22 (T 1),w8 26 (.func 62) #[] #[T 1],aV 27 61 [T 25,T 26],un 28 .not (T 27),aj 2 (T 28)])
 (.ret))),[.tmp 2]⟩
def Jv:fL:=⟨.seq (.ops [cE 1 80 (T 0),bL 2 78])
 (.seq (.ops [a8 3 80 (T 1) 0,aB 4 78 (T 3),st 78 (T 2) (T 4)])
 (.ret)),[.cell 2 78]⟩
def JC:fL:=⟨.seq (.ops [aj 6 (C (.bool false))])
 (.seq (.ops [I 7 (T 0),I 8 (T 1),bi 9 .geq 3 (T 7) (T 8),I 10 (T 9),aJ 10 true (I 11 (T 0)),aJ 10 true (I 12 (T 2)),
  aJ 10 true (bi 13 .leq 3 (T 11) (T 12)),cI 14 (T 10) (T 13) (C (.bool false)),aj 6 (T 14)])
 (.ret)),[.tmp 6]⟩
def JD:fL:=⟨.seq (.ops [cE 1 74 (T 0),aj 2 (ai 0)])
 (.seq (.ops [a8 3 74 (T 1) 0,aB 4 72 (T 3),bt 5 72 (T 4),aj 2 (T 5)])
 (.ret)),[.tmp 2]⟩
def JE:fL:=⟨.seq (.ops [cE 1 74 (T 0),aj 2 (ai 0)])
 (.seq (.ops [a8 3 74 (T 1) 0,aB 4 72 (T 3),bb 5 72 (T 4) (ai 0),aB 6 120 (T 5),bt 7 120 (T 6),aj 2 (T 7)])
 (.ret)),[.tmp 2]⟩
def Jx:fL:=⟨.seq (.ops [bL 2 80])
 (.seq (.ops [I 3 (T 0),aV 4 88 [T 3],aV 5 88 [ai 1],dF 6 80 [(0,T 4),(1,T 5)],st 80 (T 2) (T 6)])
 (.ret)),[.cell 2 80]⟩
def JI:fL:=⟨.seq (.ops [aj 4 (C (.bool false))])
 (.seq (.ops [I 5 (T 0),I 6 (T 1),aV 7 90 [T 5,T 6],bi 8 .geq 3 (T 7) (ai 0),aj 4 (T 8)])
 (.ret)),[.tmp 4]⟩
def JG:fL:=⟨.seq (.ops [aj 3 (C (.bool false))])
 (.seq (.ops [I 4 (T 0),bt 5 34 (T 4),aB 6 22 (T 1),bb 7 22 (T 6) (ai 0),aB 8 34 (T 7),bt 9 34 (T 8),bi 10 .neq 3 (T 5) (T 9),I 11 (T 10),
  aJ 11 false (I 12 (T 0)),aJ 11 false (aV 13 63 [T 12,I2 64]),cI 14 (T 11) (C (.bool true)) (T 13),aj 3 (T 14)])
 (.ret)),[.tmp 3]⟩
def JJ:fL:=⟨.seq (.ops [aj 4 (C (.bool false))])
 (.seq (.ops [I 5 (T 0),I 6 (T 1),aV 7 91 [T 5,T 6],bi 8 .geq 3 (T 7) (ai 0),aj 4 (T 8)])
 (.ret)),[.tmp 4]⟩
def JH:fL:=⟨.seq (.ops [aj 2 (C (.bool false))])
 (.seq (.ops [I 3 (T 0),bi 4 .lss 3 (T 3) (ai 0),I 5 (T 4),aJ 5 false (I 6 (T 0)),aJ 5 false (bi 7 .gtr 3 (T 6) (ai 1000)),
  (cI 8 (T 5) (C (.bool true)) (T 7)),aj 2 (T 8)])
 (.ret)),[.tmp 2]⟩
def Jp:fL:=⟨.seq (.ops [cE 2 78 (T 0),cE 3 78 (T 1),bL 4 78])
 (.seq (.ops [a8 5 78 (T 2) 0,aB 6 4 (T 5),a8 7 78 (T 3) 0,aB 8 4 (T 7),bi 9 .neq 4 (T 6) (T 8),a8 10 78 (T 2) 1,aB 11 76 (T 10),
  (a8 12 78 (T 3) 1),aB 13 76 (T 12),bk (aV 14 93 [T 11,T 13]),aV 15 92 [T 9,T 14],st 78 (T 4) (T 15)])
 (.ret)),[.cell 4 78]⟩
def Jo:fL:=⟨.seq (.ops [cE 2 78 (T 0),cE 3 78 (T 1),aj 4 (ai 0)])
 (.seq (.ops [aB 5 78 (T 2),aB 6 78 (T 3),aV 7 94 [T 5,T 6],aV 8 95 [T 7],aj 4 (T 8)])
 (.ret)),[.tmp 4]⟩
def Jw:fL:=⟨.seq (.ops [cE 1 80 (T 0),aj 2 (ai 0)])
 (.seq (.ops [a8 3 80 (T 1) 0,aB 4 78 (T 3),aV 5 95 [T 4],aj 2 (T 5)])
 (.ret)),[.tmp 2]⟩
def Ju:fL:=⟨.seq (.ops [cE 1 80 (T 0),aj 2 (C (.bool false))])
 (.seq (.ops [a8 3 80 (T 1) 1,a8 4 78 (T 3) 1,aB 5 76 (T 4),bt 6 76 (T 5),bi 7 .eql 3 (T 6) (ai 1),I 8 (T 7),aJ 8 true (a8 9 80 (T 1) 1),
  aJ 8 true (a8 10 78 (T 9) 1),aJ 8 true (aB 11 76 (T 10)),aJ 8 true (bb 12 76 (T 11) (ai 0)),aJ 8 true (aB 13 124 (T 12)),
  aJ 8 true ((bi 14 .eql 124 (T 13) (C (.int .u32 1)))),cI 15 (T 8) (T 14) (C (.bool false)),aj 2 (T 15)])
 (.ret)),[.tmp 2]⟩
def Jt:fL:=⟨.seq (.ops [bL 2 78])
 (.seq (.ops [I 4 (T 0),cm 5 3 123 (T 4),aj 3 (T 5)])
 (.seq (.seq (.ops [I 6 (T 0),bi 7 .lss 3 (T 6) (ai 0)])
 (.cond (T 7) (.ops [I 8 (T 3),un 9 .neg (T 8),aj 3 (T 9)])
 (.skip)))
 (.seq (.ops [I 10 (T 0),bi 11 .lss 3 (T 10) (ai 0),I 12 (T 3),cm 13 123 124 (T 12),I 14 (T 3),bi 15 .shr 123 (T 14) (C (.int .u64 32)),
  (cm 16 123 124 (T 15)),eC 17 76 2 [(0,T 13),(1,T 16)],aV 18 110 [T 17],aV 19 92 [T 11,T 18],st 78 (T 2) (T 19)])
 (.ret)))),[.cell 2 78]⟩
def JK:fL:=⟨.seq (.ops [aj 4 (ai 0)])
 (.seq (.seq (.ops [I 6 (T 0),bt 7 22 (T 6),I 8 (ai 0)])
 (.block 0 (.loop (.seq (.ops [bi 9 .lss 3 (T 8) (T 7)])
 (.seq (.cond (T 9) (.skip)
 (.exit 0))
 (.seq (.block 1 (.seq (.ops [I 10 (T 8),aj 5 (T 10)])
 (.seq (.ops [I 11 (T 1),I 12 (T 0),I 13 (T 5),bb 14 22 (T 12) (T 13),aB 15 34 (T 14),oN 16 (T 11) [T 15]])
 (.cond (T 16) (.seq (.ops [I 17 (T 5),aj 4 (T 17)])
 (.ret))
 (.skip)))))
 (.ops [bi 18 .add 3 (T 8) (ai 1),I 8 (T 18)])))))))
 (.seq (.ops [aj 4 (ai (-1))])
 (.ret))),[.tmp 4]⟩
def JL:fL:=⟨.seq (.ops [aj 4 (ai 0)])
 (.seq (.seq (.ops [I 6 (T 0),bt 7 34 (T 6),I 8 (ai 0)])
 (.block 0 (.loop (.seq (.ops [bi 9 .lss 3 (T 8) (T 7)])
 (.seq (.cond (T 9) (.skip)
 (.exit 0))
 (.seq (.block 1 (.seq (.ops [I 10 (T 8),aj 5 (T 10)])
 (.seq (.ops [I 11 (T 1),I 12 (T 0),I 13 (T 5),bb 14 34 (T 12) (T 13),aB 15 3 (T 14),oN 16 (T 11) [T 15]])
 (.cond (T 16) (.seq (.ops [I 17 (T 5),aj 4 (T 17)])
 (.ret))
 (.skip)))))
 (.ops [bi 18 .add 3 (T 8) (ai 1),I 8 (T 18)])))))))
 (.seq (.ops [aj 4 (ai (-1))])
 (.ret))),[.tmp 4]⟩
def Jz:fL:=⟨.seq (.ops [bL 4 78])
 (.seq (.ops [I 5 (T 0),I 6 (T 5),aJ 6 true (I 7 (T 1)),aJ 6 true (bt 8 76 (T 7)),aJ 6 true (bi 9 .gtr 3 (T 8) (ai 0)),
  (cI 10 (T 6) (T 9) (C (.bool false))),I 11 (T 1),dF 12 78 [(0,T 10),(1,T 11)],st 78 (T 4) (T 12)])
 (.ret)),[.cell 4 78]⟩
def Ej:fL:=⟨.seq (.ops [aj 4 (C (.slice none 0 0))])
 (.seq (.ops [I 12 (T 0),bt 13 76 (T 12),I 14 (T 1),bt 15 76 (T 14),bi 16 .add 3 (T 13) (T 15),ms 17 76 (T 16) (T 16),aj 5 (T 17)])
 (.seq (.seq (.ops [I 18 (T 0),bt 19 76 (T 18),I 20 (ai 0)])
 (.block 0 (.loop (.seq (.ops [bi 21 .lss 3 (T 20) (T 19)])
 (.seq (.cond (T 21) (.skip)
 (.exit 0))
 (.seq (.block 1 (.seq (.ops [I 22 (T 20),bb 23 76 (T 18) (T 20),aB 24 124 (T 23),aj 6 (T 22),aj 7 (T 24)])
 (.seq (.ops [aj 8 (C (.int .u64 0))])
 (.seq (.seq (.ops [I 25 (T 1),bt 26 76 (T 25),I 27 (ai 0)])
 (.block 2 (.loop (.seq (.ops [bi 28 .lss 3 (T 27) (T 26)])
 (.seq (.cond (T 28) (.skip)
 (.exit 2))
 (.seq (.block 3 (.seq (.ops [I 29 (T 27),bb 30 76 (T 25) (T 27),aB 31 124 (T 30),aj 9 (T 29),aj 10 (T 31)])
 (.seq (.ops [I 32 (T 7),cm 33 124 123 (T 32),I 34 (T 10),cm 35 124 123 (T 34),bi 36 .mul 123 (T 33) (T 35),I 37 (T 5),I 38 (T 6),
  (I 39 (T 9)),bi 40 .add 3 (T 38) (T 39),bb 41 76 (T 37) (T 40),aB 42 124 (T 41),cm 43 124 123 (T 42),bi 44 .add 123 (T 36) (T 43),
  (I 45 (T 8)),bi 46 .add 123 (T 44) (T 45),aj 11 (T 46)])
 (.ops [I 47 (T 5),I 48 (T 6),I 49 (T 9),bi 50 .add 3 (T 48) (T 49),I 51 (T 11),cm 52 123 124 (T 51),I 53 (T 11),
  (bi 54 .shr 123 (T 53) (C (.int .u64 32))),bb 55 76 (T 47) (T 50),st 124 (T 55) (T 52),aj 8 (T 54)]))))
 (.ops [bi 56 .add 3 (T 27) (ai 1),I 27 (T 56)])))))))
 (.ops [I 57 (T 5),I 58 (T 6),I 59 (T 1),bt 60 76 (T 59),bi 61 .add 3 (T 58) (T 60),I 62 (T 8),cm 63 123 124 (T 62),
  (bb 64 76 (T 57) (T 61)),st 124 (T 64) (T 63)])))))
 (.ops [bi 65 .add 3 (T 20) (ai 1),I 20 (T 65)])))))))
 (.seq (.ops [I 66 (T 5),aV 67 110 [T 66],aj 4 (T 67)])
 (.ret)))),[.tmp 4]⟩
def Js:fL:=⟨.seq (.ops [cE 2 78 (T 0),cE 3 78 (T 1),bL 4 78])
 (.seq (.ops [aB 5 78 (T 2),aB 6 78 (T 3),bk (aV 7 113 [T 6]),aV 8 105 [T 5,T 7],st 78 (T 4) (T 8)])
 (.ret)),[.cell 4 78]⟩
def Jr:fL:=⟨.seq (.ops [cE 1 78 (T 0),aj 2 (ai 0)])
 (.seq (.block 0 (.seq (.ops [a8 4 78 (T 1) 1,aB 5 76 (T 4),bt 6 76 (T 5),bi 7 .eql 3 (T 6) (ai 0),aj 3 (T 7)])
 (.cond (T 3) (.seq (.ops [aj 2 (ai 0)])
 (.ret))
 (.seq (.ops [a8 9 78 (T 1) 0,aB 10 4 (T 9),aj 8 (T 10)])
 (.cond (T 8) (.seq (.ops [aj 2 (ai (-1))])
 (.ret))
 (.skip))))))
 (.seq (.ops [aj 2 (ai 1)])
 (.ret))),[.tmp 2]⟩
def Jy:fL:=⟨.seq (.ops [aj 4 (ai 0)])
 (.seq (.seq (.ops [I 6 (T 0),bt 7 76 (T 6),I 8 (T 1),bt 9 76 (T 8),bi 10 .neq 3 (T 7) (T 9)])
 (.cond (T 10) (.seq (.seq (.ops [I 11 (T 0),bt 12 76 (T 11),I 13 (T 1),bt 14 76 (T 13),bi 15 .lss 3 (T 12) (T 14)])
 (.cond (T 15) (.seq (.ops [aj 4 (ai (-1))])
 (.ret))
 (.skip)))
 (.seq (.ops [aj 4 (ai 1)])
 (.ret)))
 (.skip)))
 (.seq (.seq (.ops [I 16 (T 0),bt 17 76 (T 16),bi 18 .sub 3 (T 17) (ai 1),aj 5 (T 18)])
 (.block 0 (.loop (.seq (.seq (.ops [I 19 (T 5),bi 20 .geq 3 (T 19) (ai 0)])
 (.cond (T 20) (.skip)
 (.exit 0)))
 (.seq (.block 1 (.seq (.ops [I 23 (T 0),I 24 (T 5),bb 25 76 (T 23) (T 24),aB 26 124 (T 25),I 27 (T 1),I 28 (T 5),bb 29 76 (T 27) (T 28),aB 30 124 (T 29),
  (bi 31 .neq 124 (T 26) (T 30))])
 (.cond (T 31) (.seq (.seq (.ops [I 32 (T 0),I 33 (T 5),bb 34 76 (T 32) (T 33),aB 35 124 (T 34),I 36 (T 1),I 37 (T 5),bb 38 76 (T 36) (T 37),aB 39 124 (T 38),
  (bi 40 .lss 124 (T 35) (T 39))])
 (.cond (T 40) (.seq (.ops [aj 4 (ai (-1))])
 (.ret))
 (.skip)))
 (.seq (.ops [aj 4 (ai 1)])
 (.ret)))
 (.skip))))
 (.ops [I 21 (T 5),bi 22 .sub 3 (T 21) (ai 1),aj 5 (T 22)]))))))
 (.seq (.ops [aj 4 (ai 0)])
 (.ret)))),[.tmp 4]⟩
def Jm:fL:=⟨.seq (.ops [cE 1 78 (T 0),bL 2 80])
 (.seq (.ops [aB 3 78 (T 1),bk (aV 4 88 [ai 1]),dF 5 80 [(0,T 3),(1,T 4)],st 80 (T 2) (T 5)])
 (.ret)),[.cell 2 80]⟩
def Jn:fL:=⟨.seq (.ops [cE 2 78 (T 0),cE 3 78 (T 1),bL 4 78])
 (.seq (.block 0 (.seq (.ops [a8 6 78 (T 2) 0,aB 7 4 (T 6),a8 8 78 (T 3) 0,aB 9 4 (T 8),bi 10 .eql 4 (T 7) (T 9),aj 5 (T 10)])
 (.cond (T 5) (.seq (.ops [a8 11 78 (T 2) 0,aB 12 4 (T 11),a8 13 78 (T 2) 1,aB 14 76 (T 13),a8 15 78 (T 3) 1,aB 16 76 (T 15),bk (aV 17 116 [T 14,T 16]),
  (aV 18 92 [T 12,T 17]),st 78 (T 4) (T 18)])
 (.ret))
 (.seq (.ops [a8 20 78 (T 2) 1,aB 21 76 (T 20),a8 22 78 (T 3) 1,aB 23 76 (T 22),aV 24 101 [T 21,T 23],bi 25 .geq 3 (T 24) (ai 0),aj 19 (T 25)])
 (.cond (T 19) (.seq (.ops [a8 26 78 (T 2) 0,aB 27 4 (T 26),a8 28 78 (T 2) 1,aB 29 76 (T 28),a8 30 78 (T 3) 1,aB 31 76 (T 30),bk (aV 32 118 [T 29,T 31]),
  (aV 33 92 [T 27,T 32]),st 78 (T 4) (T 33)])
 (.ret))
 (.skip))))))
 (.seq (.ops [a8 34 78 (T 3) 0,aB 35 4 (T 34),a8 36 78 (T 3) 1,aB 37 76 (T 36),a8 38 78 (T 2) 1,aB 39 76 (T 38),bk (aV 40 118 [T 37,T 39]),
  (aV 41 92 [T 35,T 40]),st 78 (T 4) (T 41)])
 (.ret))),[.cell 4 78]⟩
def Eh:fL:=⟨.seq (.ops [aj 4 (C (.slice none 0 0)),aj 5 (C (.int .u32 0))])
 (.seq (.ops [I 10 (T 0),bt 11 76 (T 10),ms 12 76 (T 11) (T 11),aj 6 (T 12)])
 (.seq (.ops [aj 7 (C (.int .u64 0))])
 (.seq (.seq (.ops [I 13 (T 0),bt 14 76 (T 13),bi 15 .sub 3 (T 14) (ai 1),aj 8 (T 15)])
 (.block 0 (.loop (.seq (.seq (.ops [I 16 (T 8),bi 17 .geq 3 (T 16) (ai 0)])
 (.cond (T 17) (.skip)
 (.exit 0)))
 (.seq (.block 1 (.seq (.ops [I 20 (T 7),bi 21 .shl 123 (T 20) (C (.int .u64 32)),I 22 (T 0),I 23 (T 8),bb 24 76 (T 22) (T 23),aB 25 124 (T 24),
  (cm 26 124 123 (T 25)),bi 27 .or 123 (T 21) (T 26),aj 9 (T 27)])
 (.ops [I 28 (T 6),I 29 (T 8),I 30 (T 9),I 31 (T 1),cm 32 124 123 (T 31),bi 33 .quo 123 (T 30) (T 32),cm 34 123 124 (T 33),
  (I 35 (T 9)),I 36 (T 1),cm 37 124 123 (T 36),bi 38 .rem 123 (T 35) (T 37),bb 39 76 (T 28) (T 29),st 124 (T 39) (T 34),aj 7 (T 38)])))
 (.ops [I 18 (T 8),bi 19 .sub 3 (T 18) (ai 1),aj 8 (T 19)]))))))
 (.seq (.ops [I 40 (T 6),aV 41 110 [T 40],I 42 (T 7),cm 43 123 124 (T 42),aj 4 (T 41),aj 5 (T 43)])
 (.ret))))),[.tmp 4,.tmp 5]⟩
def JB:fL:=⟨.seq (.ops [aj 2 (C (.slice none 0 0))])
 (.seq (.block 0 (.loop (.seq (.seq (.ops [I 3 (T 0),bt 4 76 (T 3),bi 5 .gtr 3 (T 4) (ai 0),I 6 (T 5),aJ 6 true (I 7 (T 0)),aJ 6 true (I 8 (T 0)),aJ 6 true (bt 9 76 (T 8)),
  aJ 6 true (bi 10 .sub 3 (T 9) (ai 1)),aJ 6 true (bb 11 76 (T 7) (T 10)),aJ 6 true (aB 12 124 (T 11)),
  aJ 6 true ((bi 13 .eql 124 (T 12) (C (.int .u32 0)))),cI 14 (T 6) (T 13) (C (.bool false))])
 (.cond (T 14) (.skip)
 (.exit 0)))
 (.block 1 (.ops [I 15 (T 0),I 16 (T 0),bt 17 76 (T 16),bi 18 .sub 3 (T 17) (ai 1),gj 19 76 (T 15) none (some (T 18)) none,aj 0 (T 19)])))))
 (.seq (.ops [I 20 (T 0),aj 2 (T 20)])
 (.ret))),[.tmp 2]⟩
def Jq:fL:=⟨.seq (.ops [cE 1 78 (T 0),bL 2 78])
 (.seq (.ops [a8 3 78 (T 1) 0,aB 4 4 (T 3),un 5 .not (T 4),a8 6 78 (T 1) 1,aB 7 76 (T 6),aV 8 92 [T 5,T 7],st 78 (T 2) (T 8)])
 (.ret)),[.cell 2 78]⟩
def JA:fL:=⟨.seq (.ops [aj 4 (C (.slice none 0 0))])
 (.seq (.seq (.ops [I 9 (T 0),bt 10 76 (T 9),I 11 (T 1),bt 12 76 (T 11),bi 13 .lss 3 (T 10) (T 12)])
 (.cond (T 13) (.ops [I 14 (T 1),I 15 (T 0),aj 0 (T 14),aj 1 (T 15)])
 (.skip)))
 (.seq (.ops [I 16 (T 0),bt 17 76 (T 16),bi 18 .add 3 (T 17) (ai 1),ms 19 76 (T 18) (T 18),aj 5 (T 19)])
 (.seq (.ops [aj 6 (C (.int .u32 0))])
 (.seq (.seq (.ops [I 20 (T 0),bt 21 76 (T 20),I 22 (ai 0)])
 (.block 0 (.loop (.seq (.ops [bi 23 .lss 3 (T 22) (T 21)])
 (.seq (.cond (T 23) (.skip)
 (.exit 0))
 (.seq (.block 1 (.seq (.ops [I 24 (T 22),aj 7 (T 24)])
 (.seq (.ops [aj 8 (C (.int .u32 0))])
 (.seq (.seq (.ops [I 25 (T 7),I 26 (T 1),bt 27 76 (T 26),bi 28 .lss 3 (T 25) (T 27)])
 (.cond (T 28) (.ops [I 29 (T 1),I 30 (T 7),bb 31 76 (T 29) (T 30),aB 32 124 (T 31),aj 8 (T 32)])
 (.skip)))
 (.ops [I 34 (T 5),I 35 (T 7),I 36 (T 0),I 37 (T 7),bb 38 76 (T 36) (T 37),aB 39 124 (T 38),I 40 (T 8),I 41 (T 6),
  (aV 42 122 [T 39,T 40,T 41]),I 33 (T 42),ex 43 (T 33) 0,ex 44 (T 33) 1,bb 45 76 (T 34) (T 35),st 124 (T 45) (T 43),
  (aj 6 (T 44))])))))
 (.ops [bi 46 .add 3 (T 22) (ai 1),I 22 (T 46)])))))))
 (.seq (.ops [I 47 (T 5),I 48 (T 0),bt 49 76 (T 48),I 50 (T 6),bb 51 76 (T 47) (T 49),st 124 (T 51) (T 50)])
 (.seq (.ops [I 52 (T 5),aV 53 110 [T 52],aj 4 (T 53)])
 (.ret))))))),[.tmp 4]⟩
def Ei:fL:=⟨.seq (.ops [aj 4 (C (.slice none 0 0))])
 (.seq (.ops [I 9 (T 0),bt 10 76 (T 9),ms 11 76 (T 10) (T 10),aj 5 (T 11)])
 (.seq (.ops [aj 6 (C (.int .u32 0))])
 (.seq (.seq (.ops [I 12 (T 0),bt 13 76 (T 12),I 14 (ai 0)])
 (.block 0 (.loop (.seq (.ops [bi 15 .lss 3 (T 14) (T 13)])
 (.seq (.cond (T 15) (.skip)
 (.exit 0))
 (.seq (.block 1 (.seq (.ops [I 16 (T 14),aj 7 (T 16)])
 (.seq (.ops [aj 8 (C (.int .u32 0))])
 (.seq (.seq (.ops [I 17 (T 7),I 18 (T 1),bt 19 76 (T 18),bi 20 .lss 3 (T 17) (T 19)])
 (.cond (T 20) (.ops [I 21 (T 1),I 22 (T 7),bb 23 76 (T 21) (T 22),aB 24 124 (T 23),aj 8 (T 24)])
 (.skip)))
 (.ops [I 26 (T 5),I 27 (T 7),I 28 (T 0),I 29 (T 7),bb 30 76 (T 28) (T 29),aB 31 124 (T 30),I 32 (T 8),I 33 (T 6),
  (aV 34 127 [T 31,T 32,T 33]),I 25 (T 34),ex 35 (T 25) 0,ex 36 (T 25) 1,bb 37 76 (T 26) (T 27),st 124 (T 37) (T 35),
  (aj 6 (T 36))])))))
 (.ops [bi 38 .add 3 (T 14) (ai 1),I 14 (T 38)])))))))
 (.seq (.ops [I 39 (T 5),aV 40 110 [T 39],aj 4 (T 40)])
 (.ret))))),[.tmp 4]⟩
def Jk:fL:=⟨.seq (.ops [aj 6 (C (.int .u32 0)),aj 7 (C (.int .u32 0))])
 (.seq (.ops [I 9 (T 0),cm 10 124 123 (T 9),I 11 (T 1),cm 12 124 123 (T 11),bi 13 .add 123 (T 10) (T 12),I 14 (T 2),cm 15 124 123 (T 14),
  (bi 16 .add 123 (T 13) (T 15)),aj 8 (T 16)])
 (.seq (.ops [I 17 (T 8),cm 18 123 124 (T 17),aj 6 (T 18)])
 (.seq (.ops [I 19 (T 8),bi 20 .shr 123 (T 19) (C (.int .u64 32)),cm 21 123 124 (T 20),aj 7 (T 21)])
 (.ret)))),[.tmp 6,.tmp 7]⟩
def Jl:fL:=⟨.seq (.ops [aj 6 (C (.int .u32 0)),aj 7 (C (.int .u32 0))])
 (.seq (.ops [I 8 (T 0),I 9 (T 1),bi 10 .sub 124 (T 8) (T 9),I 11 (T 2),bi 12 .sub 124 (T 10) (T 11),aj 6 (T 12)])
 (.seq (.ops [I 13 (T 0),un 14 .xor (T 13),I 15 (T 1),bi 16 .and 124 (T 14) (T 15),I 17 (T 0),I 18 (T 1),bi 19 .xor 124 (T 17) (T 18),
  (un 20 .xor (T 19)),I 21 (T 6),bi 22 .and 124 (T 20) (T 21),bi 23 .or 124 (T 16) (T 22),bi 24 .shr 124 (T 23) (C (.int .u64 31)),
  (aj 7 (T 24))])
 (.ret))),[.tmp 6,.tmp 7]⟩
def Kb:cT:=⟨.seq (.ops [.xs [aj 6 (C (.bool false))]])
 (.seq (.ops [.xs [I 29 (T 2),cm 30 5 3 (T 29),bi 31 .rem 3 (T 30) (ai 8),bi 32 .add 3 (T 31) (ai 1),aj 7 (T 32)]])
 (.seq (.ops [.xs [I 33 (T 7),bi 34 .sub 3 (T 33) (ai 1),cm 35 3 5 (T 34),I 36 (T 7),bi 37 .sub 3 (T 36) (ai 1),cm 38 3 5 (T 37),aV 39 24 [C (.slice none 0 0),T 35,T 38,ai 1],aj 8 (T 39)]])
 (.seq (.ops [.xs [aj 9 (ai 0)]])
 (.seq (.seq (.ops [.xs [aj 10 (ai 0)]])
 (.block 0 (.loop 1361129467683753853853498428627561348608 0 (.seq (.seq (.box 280375465082880 0 (.ops [.xs [I 40 (T 10),I 41 (T 0),bt 42 60 (T 41),bi 43 .lss 3 (T 40) (T 42),I 44 (T 43),aJ 44 true (I 45 (T 10)),aJ 44 true (bi 46 .lss 3 (T 45) (ai 12)),cI 47 (T 44) (T 46) (C (.bool false))]]))
 (.cond (T 47) (.skip)
 (.exit 0)))
 (.seq (.block 1 (.seq (.ops [.xs [eC 50 34 0 [],aj 11 (T 50)]])
 (.seq (.seq (.ops [.xs [aj 12 (ai 0)]])
 (.block 2 (.loop 1150669704793167872 0 (.seq (.seq (.ops [.xs [I 51 (T 12),I 52 (T 7),bi 53 .lss 3 (T 51) (T 52)]])
 (.cond (T 53) (.skip)
 (.exit 2)))
 (.seq (.block 3 (.ops [.xs [I 56 (T 11),I 57 (T 12),eC 58 34 1 [(0,T 57)],ap 59 34 34 (T 56) (T 58),aj 11 (T 59)]]))
 (.ops [.xs [I 54 (T 12),bi 55 .add 3 (T 54) (ai 1),aj 12 (T 55)]]))))))
 (.seq (.seq (.ops [.xs [aj 13 (ai 0)]])
 (.block 4 (.loop 316912650055904428869568978944 0 (.seq (.seq (.box 4721213561365038366720 0 (.ops [.xs [I 60 (T 13),I 61 (T 0),I 62 (T 10),bb 63 60 (T 61) (T 62),aB 64 61 (T 63),bt 65 61 (T 64),bi 66 .lss 3 (T 60) (T 65),I 67 (T 66),aJ 67 true (I 68 (T 13)),aJ 67 true (I 69 (T 7)),aJ 67 true (bi 70 .lss 3 (T 68) (T 69)),cI 71 (T 67) (T 70) (C (.bool false))]]))
 (.cond (T 71) (.skip)
 (.exit 4)))
 (.seq (.block 5 (.seq (.ops [.xs [I 74 (T 0),I 75 (T 10),bb 76 60 (T 74) (T 75),aB 77 61 (T 76),I 78 (T 13),bb 79 61 (T 77) (T 78),aB 80 5 (T 79),cm 81 5 3 (T 80),I 82 (T 7),bi 83 .rem 3 (T 81) (T 82),aj 14 (T 83)]])
 (.ops [.xs [I 84 (T 11),I 85 (T 13),I 86 (T 11),I 87 (T 14),I 88 (T 11),I 89 (T 14),bb 90 34 (T 88) (T 89),aB 91 3 (T 90),I 92 (T 11),I 93 (T 13),bb 94 34 (T 92) (T 93),aB 95 3 (T 94),bb 96 34 (T 84) (T 85),st 3 (T 96) (T 91),bb 97 34 (T 86) (T 87),st 3 (T 97) (T 95)]])))
 (.ops [.xs [I 72 (T 13),bi 73 .add 3 (T 72) (ai 1),aj 13 (T 73)]]))))))
 (.seq (.ops [.xs [aj 15 (ai 1)]])
 (.seq (.box 648720194666796396215937865383936 0 (.seq (.ops [.xs [I 98 (T 10),I 99 (T 1),bt 100 61 (T 99),bi 101 .lss 3 (T 98) (T 100)]])
 (.cond (T 101) (.ops [.xs [I 102 (T 1),I 103 (T 10),bb 104 61 (T 102) (T 103),aB 105 5 (T 104),cm 106 5 3 (T 105),bi 107 .rem 3 (T 106) (ai 50),bi 108 .add 3 (T 107) (ai 1),aj 15 (T 108)]])
 (.skip))))
 (.seq (.ops [.xs [I 109 (T 9),I 110 (T 15),bi 111 .add 3 (T 109) (T 110),aj 9 (T 111)]])
 (.seq (.ops [.xs [aj 16 (ai 0)]])
 (.block 6 (.loop 1361124275386895319025869899230743691264 0 (.seq (.seq (.ops [.xs [I 112 (T 16),I 113 (T 7),bi 114 .lss 3 (T 112) (T 113)]])
 (.cond (T 114) (.skip)
 (.exit 6)))
 (.seq (.block 7 (.ops [.xs [I 117 (T 8),I 118 (T 16),bb 119 22 (T 117) (T 118),aB 120 34 (T 119),I 121 (T 11),I 122 (T 16),bb 123 34 (T 121) (T 122),aB 124 3 (T 123),bb 125 34 (T 120) (T 124),aB 126 3 (T 125),I 127 (T 15),bi 128 .add 3 (T 126) (T 127),bb 129 34 (T 120) (T 124),st 3 (T 129) (T 128)]]))
 (.ops [.xs [I 115 (T 16),bi 116 .add 3 (T 115) (ai 1),aj 16 (T 116)]])))))))))))))
 (.ops [.xs [I 48 (T 10),bi 49 .add 3 (T 48) (ai 1),aj 10 (T 49)]]))))))
 (.seq (.ops [.xs [I 131 (T 8),aV 132 27 [T 131],I 130 (T 132),ex 133 (T 130) 0,ex 134 (T 130) 1,aj 17 (T 133),aj 18 (T 134)]])
 (.seq (.ops [.xs [I 136 (T 8),I 137 (T 17),aV 138 28 [T 136,T 137],I 135 (T 138),ex 139 (T 135) 0,ex 140 (T 135) 1,aj 19 (T 139),aj 20 (T 140)]])
 (.seq (.ops [.xs [I 142 (T 8),aV 143 9 [T 142],I 141 (T 143),ex 144 (T 141) 0,ex 145 (T 141) 1,ex 146 (T 141) 2,ex 147 (T 141) 3,aj 21 (T 144),aj 22 (T 145),aj 23 (T 146),aj 24 (T 147)]])
 (.seq (.ops [.xs [I 149 (T 8),aV 150 10 [T 149],I 148 (T 150),ex 151 (T 148) 0,ex 152 (T 148) 1,aj 25 (T 151),aj 26 (T 152)]])
 (.seq (.seq (.box 3213876088517969133102382537003276738756650391604494608629760 0 (.ops [.xs [I 153 (T 18),bi 154 .neq 24 (T 153) (ai 0),I 155 (T 154),aJ 155 false (I 156 (T 19)),aJ 155 false (un 157 .not (T 156)),cI 158 (T 155) (C (.bool true)) (T 157),I 159 (T 158),aJ 159 false (I 160 (T 20)),aJ 159 false (bi 161 .neq 24 (T 160) (ai 0)),cI 162 (T 159) (C (.bool true)) (T 161),I 163 (T 162),aJ 163 false (I 164 (T 8)),aJ 163 false (I 165 (T 17)),aJ 163 false (aV 166 29 [T 164,T 165]),aJ 163 false (un 167 .not (T 166)),cI 168 (T 163) (C (.bool true)) (T 167),I 169 (T 168),aJ 169 false (I 170 (T 21)),aJ 169 false (I 171 (T 9)),aJ 169 false (bi 172 .neq 3 (T 170) (T 171)),cI 173 (T 169) (C (.bool true)) (T 172),I 174 (T 173),aJ 174 false (I 175 (T 24)),aJ 174 false (bi 176 .neq 24 (T 175) (ai 0)),cI 177 (T 174) (C (.bool true)) (T 176),I 178 (T 177),aJ 178 false (I 179 (T 26)),aJ 178 false (bi 180 .neq 24 (T 179) (ai 0)),cI 181 (T 178) (C (.bool true)) (T 180),I 182 (T 181),aJ 182 false (I 183 (T 8)),aJ 182 false (I 184 (T 25)),aJ 182 false (eC 185 95 1 [(0,T 184)]),aJ 182 false (aV 186 16 [T 183,T 185]),aJ 182 false (un 187 .not (T 186)),cI 188 (T 182) (C (.bool true)) (T 187),I 189 (T 188),aJ 189 false (I 190 (T 25)),aJ 189 false (aV 191 18 [T 190]),aJ 189 false (I 192 (T 9)),aJ 189 false (aV 193 19 [T 192]),aJ 189 false (aV 194 17 [T 191,T 193]),aJ 189 false (bi 195 .neq 3 (T 194) (ai 0)),cI 196 (T 189) (C (.bool true)) (T 195),I 197 (T 196),aJ 197 false (aV 198 12 []),aJ 197 false (un 199 .not (T 198)),cI 200 (T 197) (C (.bool true)) (T 199)]]))
 (.cond (T 200) (.seq (.ops [.xs [aj 6 (C (.bool false))]])
 (.ret))
 (.skip)))
 (.seq (.ops [.xs [aj 27 (ai 0)]])
 (.seq (.seq (.ops [.xs [aj 28 (ai 0)]])
 (.block 8 (.loop 26324859041050778693928422996732925754518729444149712228309794816 0 (.seq (.seq (.ops [.xs [I 201 (T 28),I 202 (T 17),bt 203 62 (T 202),bi 204 .lss 3 (T 201) (T 203)]])
 (.cond (T 204) (.skip)
 (.exit 8)))
 (.seq (.block 9 (.ops [.xs [I 207 (T 27),I 208 (T 17),I 209 (T 28),bb 210 62 (T 208) (T 209),a8 211 69 (T 210) 0,aB 212 3 (T 211),bi 213 .add 3 (T 207) (T 212),aj 27 (T 213)]]))
 (.ops [.xs [I 205 (T 28),bi 206 .add 3 (T 205) (ai 1),aj 28 (T 206)]]))))))
 (.seq (.ops [.xs [I 214 (T 27),I 215 (T 9),bi 216 .eql 3 (T 214) (T 215),aj 6 (T 216)]])
 (.ret))))))))))))),[.tmp 6]⟩
def Ky:cT:=⟨.seq (.ops [.xs [aj 2 (ai 0),aj 3 (ai 0),aj 4 (ai 0),aj 5 (ai 0)]])
 (.seq (.seq (.ops [.xs [I 15 (T 0),aV 16 31 [T 15],un 17 .not (T 16)]])
 (.cond (T 17) (.seq (.ops [.xs [aj 2 (ai 0),aj 3 (ai 0),aj 4 (ai 0),aj 5 (ai 1)]])
 (.ret))
 (.skip)))
 (.seq (.ops [.xs [I 18 (T 0),aV 19 32 [T 18]],.bL 6 74,.bX true none 74 6 (T 19) 6])
 (.seq (.ops [.bR none 21 74 6 6,.xs [aV 22 33 [T 21],I 20 (T 22),ex 23 (T 20) 0,ex 24 (T 20) 1],.bL 7 80,.bX true none 80 7 (T 23) 7,
  .xs [aj 8 (T 24)]])
 (.seq (.ops [.bR none 26 74 6 6,.xs [aV 27 34 [T 26],aV 28 33 [T 27],I 25 (T 28),ex 29 (T 25) 0,ex 30 (T 25) 1],.bL 9 80,
  .bX true none 80 9 (T 29) 9,.xs [aj 10 (T 30)]])
 (.seq (.seq (.ops [.bR none 31 80 9 9,.bR none 32 80 7 7,.xs [aV 33 35 [T 31,T 32],bi 34 .gtr 3 (T 33) (ai 0)]])
 (.cond (T 34) (.seq (.ops [.bR none 36 80 9 9,.xs [aV 37 36 [T 36],aV 38 37 [T 37],I 35 (T 38),ex 39 (T 35) 0,ex 40 (T 35) 1,aj 11 (T 39),aj 12 (T 40)]])
 (.seq (.ops [.xs [I 41 (T 11),I 42 (T 10),aj 2 (T 41),aj 3 (ai 1),aj 4 (T 42),aj 5 (ai 0)]])
 (.ret)))
 (.skip)))
 (.seq (.ops [.bR none 44 80 7 7,.xs [aV 45 36 [T 44],aV 46 37 [T 45],I 43 (T 46),ex 47 (T 43) 0,ex 48 (T 43) 1,aj 13 (T 47),aj 14 (T 48)]])
 (.seq (.ops [.xs [I 49 (T 13),I 50 (T 8),aj 2 (T 49),aj 3 (ai 0),aj 4 (T 50),aj 5 (ai 0)]])
 (.ret)))))))),[.tmp 2,.tmp 3,.tmp 4,.tmp 5]⟩
def KB:cT:=⟨.seq (.ops [.xs [aj 2 (C (.slice none 0 0)),aj 3 (ai 0)]])
 (.seq (.seq (.ops [.xs [I 4 (T 0),aV 5 31 [T 4],un 6 .not (T 5)]])
 (.cond (T 6) (.seq (.ops [.xs [aj 2 (C (.slice none 0 0)),aj 3 (ai 1)]])
 (.ret))
 (.skip)))
 (.seq (.ops [.xs [I 7 (T 0),aV 8 32 [T 7],aV 9 38 [T 8],ex 10 (T 9) 0,ex 11 (T 9) 1,aj 2 (T 10),aj 3 (T 11)]])
 (.ret))),[.tmp 2,.tmp 3]⟩
def Kd:cT:=⟨.seq (.ops [.xs [aj 0 (C (.bool false))]])
 (.seq (.ops [.xs [eC 10 34 2 [(0,ai 2),(1,ai 1)],eC 11 34 2 [(0,ai 1),(1,ai 2)],eC 12 22 2 [(0,T 10),(1,T 11)],aj 1 (T 12)]])
 (.seq (.ops [.xs [I 14 (T 1),aV 15 9 [T 14],I 13 (T 15),ex 16 (T 13) 0,ex 17 (T 13) 1,ex 18 (T 13) 2,ex 19 (T 13) 3,aj 2 (T 16),aj 3 (T 17),aj 4 (T 18),aj 5 (T 19)]])
 (.seq (.ops [.xs [I 21 (T 1),aV 22 10 [T 21],I 20 (T 22),ex 23 (T 20) 0,ex 24 (T 20) 1,aj 6 (T 23),aj 7 (T 24)]])
 (.seq (.ops [.xs [I 26 (T 1),I 27 (T 6),aV 28 20 [T 26,T 27],I 25 (T 28),ex 29 (T 25) 0,ex 30 (T 25) 1,aj 8 (T 29),aj 9 (T 30)]])
 (.seq (.box 144115185928372225 0 (.ops [.xs [I 31 (T 2),bi 32 .eql 3 (T 31) (ai 3),I 33 (T 32),aJ 33 true (I 34 (T 3)),aJ 33 true (bi 35 .eql 3 (T 34) (ai 0)),cI 36 (T 33) (T 35) (C (.bool false)),I 37 (T 36),aJ 37 true (I 38 (T 4)),aJ 37 true (bi 39 .eql 3 (T 38) (ai 0)),cI 40 (T 37) (T 39) (C (.bool false)),I 41 (T 40),aJ 41 true (I 42 (T 5)),aJ 41 true (bi 43 .eql 24 (T 42) (ai 0)),cI 44 (T 41) (T 43) (C (.bool false)),I 45 (T 44),aJ 45 true (I 46 (T 7)),aJ 45 true (bi 47 .eql 24 (T 46) (ai 0)),cI 48 (T 45) (T 47) (C (.bool false)),I 49 (T 48),aJ 49 true (I 50 (T 8)),aJ 49 true ((bi 51 .eql 45 (T 50) (C (.string {data:= #[51]})))),cI 52 (T 49) (T 51) (C (.bool false)),I 53 (T 52),aJ 53 true (I 54 (T 9)),aJ 53 true (bi 55 .eql 24 (T 54) (ai 0)),cI 56 (T 53) (T 55) (C (.bool false)),aj 0 (T 56)]]))
 (.ret)))))),[.tmp 0]⟩
def Kv:cT:=⟨.seq (.ops [.xs [aj 4 (C (.bool false))]])
 (.seq (.seq (.ops [.xs [aj 5 (ai 0)]])
 (.block 0 (.loop 151115727451828646838256 128 (.seq (.seq (.ops [.xs [I 10 (T 5),I 11 (T 0),bt 12 22 (T 11),bi 13 .lss 3 (T 10) (T 12)]])
 (.cond (T 13) (.skip)
 (.exit 0)))
 (.seq (.block 1 (.seq (.ops [.xs [aj 6 (ai 0)]])
 (.block 2 (.loop 151115727451828646773712 128 (.seq (.seq (.ops [.xs [I 16 (T 6),I 17 (T 0),I 18 (T 5),bb 19 22 (T 17) (T 18),aB 20 34 (T 19),bt 21 34 (T 20),bi 22 .lss 3 (T 16) (T 21)]])
 (.cond (T 22) (.skip)
 (.exit 2)))
 (.seq (.block 3 (.seq (.ops [.xs [aV 25 19 [ai 0]],.bL 7 42,.bX true none 42 7 (T 25) 7])
 (.seq (.seq (.ops [.xs [aj 8 (ai 0)]])
 (.block 4 (.loop 73786976294771098368 128 (.seq (.seq (.ops [.xs [I 26 (T 8),I 27 (T 1),bt 28 95 (T 27),bi 29 .lss 3 (T 26) (T 28)]])
 (.cond (T 29) (.skip)
 (.exit 4)))
 (.seq (.block 5 (.seq (.ops [.xs [aj 9 (ai 0)]])
 (.block 6 (.loop 73786976290543239680 128 (.seq (.seq (.ops [.xs [I 32 (T 9),I 33 (T 1),I 34 (T 8),bb 35 95 (T 33) (T 34),aB 36 27 (T 35),bt 37 27 (T 36),bi 38 .lss 3 (T 32) (T 37)]])
 (.cond (T 38) (.skip)
 (.exit 6)))
 (.seq (.box 73786974095814950912 128 (.block 7 (.seq (.ops [.xs [I 41 (T 1),I 42 (T 8),bb 43 95 (T 41) (T 42),aB 44 27 (T 43),I 45 (T 9),bb 46 27 (T 44) (T 45),a8 47 93 (T 46) 1,aB 48 34 (T 47),I 49 (T 6),bb 50 34 (T 48) (T 49),aB 51 3 (T 50),I 52 (T 5),bi 53 .eql 3 (T 51) (T 52)]])
 (.cond (T 53) (.ops [.bR none 54 42 7 7,
  .xs [I 55 (T 1),I 56 (T 8),bb 57 95 (T 55) (T 56),aB 58 27 (T 57),I 59 (T 9),bb 60 27 (T 58) (T 59),a8 61 93 (T 60) 0,aB 62 45 (T 61),bk (aV 63 23 [T 62]),aV 64 26 [T 54,T 63],aV 65 43 [T 64]],
  .bX true none 42 7 (T 65) 7])
 (.skip)))))
 (.ops [.xs [I 39 (T 9),bi 40 .add 3 (T 39) (ai 1),aj 9 (T 40)]])))))))
 (.ops [.xs [I 30 (T 8),bi 31 .add 3 (T 30) (ai 1),aj 8 (T 31)]]))))))
 (.seq (.ops [.bR none 66 42 7 7,
  .xs [I 67 (T 0),I 68 (T 5),bb 69 22 (T 67) (T 68),aB 70 34 (T 69),I 71 (T 6),bb 72 34 (T 70) (T 71),aB 73 3 (T 72),bk (aV 74 19 [T 73]),aV 75 17 [T 66,T 74],bi 76 .neq 3 (T 75) (ai 0)]])
 (.cond (T 76) (.seq (.ops [.xs [aj 4 (C (.bool false))]])
 (.ret))
 (.skip))))))
 (.ops [.xs [I 23 (T 6),bi 24 .add 3 (T 23) (ai 1),aj 6 (T 24)]])))))))
 (.ops [.xs [I 14 (T 5),bi 15 .add 3 (T 14) (ai 1),aj 5 (T 15)]]))))))
 (.seq (.ops [.xs [aj 4 (C (.bool true))]])
 (.ret))),[.tmp 4]⟩
def JQ:cT:=⟨.seq (.ops [.cE 2 42 (T 0),.cE 3 42 (T 1),.xs [aj 4 (ai 0)]])
 (.seq (.ops [.a8 none 5 42 2 0 2 0,.aB none 6 40 5 2 0,.a8 none 7 42 3 1 3 2,.aB none 8 40 7 3 2,.xs [bk (aV 9 45 [T 6,T 8])],.a8 none 10 42 3 0 3 0,
  .aB none 11 40 10 3 0,.a8 none 12 42 2 1 2 2,.aB none 13 40 12 2 2,.xs [aV 14 45 [T 11,T 13],aV 15 44 [T 9,T 14],aj 4 (T 15)]])
 (.ret)),[.tmp 4]⟩
def Kw:cT:=⟨.seq (.ops [.bL 2 42])
 (.seq (.ops [.xs [aV 5 19 [ai 0]],.bL 3 42,.bX true none 42 3 (T 5) 3])
 (.seq (.seq (.ops [.xs [aj 4 (ai 0)]])
 (.block 0 (.loop 2097104 8 (.seq (.seq (.ops [.xs [I 6 (T 4),I 7 (T 0),bt 8 27 (T 7),bi 9 .lss 3 (T 6) (T 8)]])
 (.cond (T 9) (.skip)
 (.exit 0)))
 (.seq (.block 1 (.ops [.bR none 12 42 3 3,
  .xs [I 13 (T 0),I 14 (T 4),bb 15 27 (T 13) (T 14),a8 16 93 (T 15) 0,aB 17 45 (T 16),bk (aV 18 23 [T 17]),aV 19 26 [T 12,T 18],aV 20 43 [T 19]],
  .bX true none 42 3 (T 20) 3]))
 (.ops [.xs [I 10 (T 4),bi 11 .add 3 (T 10) (ai 1),aj 4 (T 11)]]))))))
 (.seq (.ops [.bR none 21 42 3 3,.bX true none 42 2 (T 21) 2])
 (.ret)))),[.cell 2 42]⟩
def J1:cT:=⟨.seq (.ops [.bL 2 42])
 (.seq (.ops [.xs [I 3 (T 0),aV 4 46 [T 3],aV 5 46 [ai 1],dF 6 42 [(0,T 4),(1,T 5)]],.bX true none 42 2 (T 6) 2])
 (.ret)),[.cell 2 42]⟩
def Kz:cT:=⟨.seq (.ops [.xs [aj 4 (C (.string {data:= #[]})),aj 5 (ai 0)]])
 (.seq (.seq (.ops [.xs [I 10 (T 0),aV 11 31 [T 10],un 12 .not (T 11)]])
 (.cond (T 12) (.seq (.ops [.xs [aj 4 (C (.string {data:= #[]})),aj 5 (ai 1)]])
 (.ret))
 (.skip)))
 (.seq (.ops [.xs [I 13 (T 0),aV 14 32 [T 13]],.bL 6 74,.bX true none 74 6 (T 14) 6])
 (.seq (.ops [.xs [I 16 (T 1)],.bR none 17 74 6 6,.xs [bk (aV 18 48 [T 17])],.bR none 19 74 6 6,
  .xs [bk (aV 20 49 [T 19]),bk (aV 21 47 [T 16,T 18,T 20]),I 15 (T 21),ex 22 (T 15) 0,ex 23 (T 15) 1,ex 24 (T 15) 2],.bL 7 74,
  .bL 8 80,.bX true none 74 7 (T 22) 7,.bX true none 80 8 (T 23) 8,.xs [aj 9 (T 24)]])
 (.seq (.seq (.box 8556380160 0 (.ops [.xs [I 25 (T 9),un 26 .not (T 25),I 27 (T 26)],.bR (some (27,false)) 28 74 6 6,.bR (some (27,false)) 29 74 7 7,
  .xs [aJ 27 false (aV 30 50 [T 28,T 29]),aJ 27 false (un 31 .not (T 30)),cI 32 (T 27) (C (.bool true)) (T 31)]]))
 (.cond (T 32) (.seq (.ops [.xs [aj 4 (C (.string {data:= #[]})),aj 5 (ai 2)]])
 (.ret))
 (.skip)))
 (.seq (.ops [.bR none 33 80 8 8,.xs [aV 34 51 [T 33],ex 35 (T 34) 0,ex 36 (T 34) 1,aj 4 (T 35),aj 5 (T 36)]])
 (.ret)))))),[.tmp 4,.tmp 5]⟩
def JX:cT:=⟨.seq (.ops [.bL 2 42])
 (.seq (.ops [.xs [I 6 (T 0),aV 7 54 [T 6],I 5 (T 7),ex 8 (T 5) 0,ex 9 (T 5) 1],.bL 3 42,.bX true none 42 3 (T 8) 3,.xs [aj 4 (T 9)]])
 (.seq (.ops [.bR none 10 42 3 3,.bX true none 42 2 (T 10) 2])
 (.ret))),[.cell 2 42]⟩
def Ke:cT:=⟨.seq (.ops [.xs [aj 8 (C (.slice none 0 0))]])
 (.seq (.ops [.xs [I 16 (T 1),cm 17 5 3 (T 16),bi 18 .rem 3 (T 17) (ai 8),bi 19 .add 3 (T 18) (ai 1),I 20 (T 2),cm 21 5 3 (T 20),bi 22 .rem 3 (T 21) (ai 8),bi 23 .add 3 (T 22) (ai 1),aj 9 (T 19),aj 10 (T 23)]])
 (.seq (.ops [.xs [eC 24 22 0 [],aj 11 (T 24)]])
 (.seq (.seq (.ops [.xs [aj 12 (ai 0)]])
 (.block 0 (.loop 9223372036821284864 0 (.seq (.seq (.ops [.xs [I 25 (T 12),I 26 (T 9),bi 27 .lss 3 (T 25) (T 26)]])
 (.cond (T 27) (.skip)
 (.exit 0)))
 (.seq (.block 1 (.seq (.ops [.xs [eC 30 34 0 [],aj 13 (T 30)]])
 (.seq (.seq (.ops [.xs [aj 14 (ai 0)]])
 (.block 2 (.loop 576460750155997184 0 (.seq (.seq (.ops [.xs [I 31 (T 14),I 32 (T 10),bi 33 .lss 3 (T 31) (T 32)]])
 (.cond (T 33) (.skip)
 (.exit 2)))
 (.seq (.block 3 (.seq (.ops [.xs [aj 15 (ai 0)]])
 (.seq (.box 36028728299520000 0 (.seq (.ops [.xs [I 36 (T 12),I 37 (T 10),bi 38 .mul 3 (T 36) (T 37),I 39 (T 14),bi 40 .add 3 (T 38) (T 39),I 41 (T 0),bt 42 34 (T 41),bi 43 .lss 3 (T 40) (T 42)]])
 (.cond (T 43) (.ops [.xs [I 44 (T 0),I 45 (T 12),I 46 (T 10),bi 47 .mul 3 (T 45) (T 46),I 48 (T 14),bi 49 .add 3 (T 47) (T 48),bb 50 34 (T 44) (T 49),aB 51 3 (T 50),I 52 (T 3),bi 53 .add 3 (T 52) (ai 1),aV 54 55 [T 51,T 53],aj 15 (T 54)]])
 (.skip))))
 (.ops [.xs [I 55 (T 13),I 56 (T 15),eC 57 34 1 [(0,T 56)],ap 58 34 34 (T 55) (T 57),aj 13 (T 58)]]))))
 (.ops [.xs [I 34 (T 14),bi 35 .add 3 (T 34) (ai 1),aj 14 (T 35)]]))))))
 (.ops [.xs [I 59 (T 11),I 60 (T 13),eC 61 22 1 [(0,T 60)],ap 62 22 22 (T 59) (T 61),aj 11 (T 62)]]))))
 (.ops [.xs [I 28 (T 12),bi 29 .add 3 (T 28) (ai 1),aj 12 (T 29)]]))))))
 (.seq (.ops [.xs [I 63 (T 11),aj 8 (T 63)]])
 (.ret))))),[.tmp 8]⟩
def JO:cT:=⟨.seq (.ops [.cE 2 42 (T 0),.cE 3 42 (T 1),.bL 4 42])
 (.seq (.ops [.a8 none 5 42 2 0 2 0,.aB none 6 40 5 2 0,.a8 none 7 42 3 1 3 2,.aB none 8 40 7 3 2,.xs [bk (aV 9 45 [T 6,T 8])],.a8 none 10 42 3 0 3 0,
  .aB none 11 40 10 3 0,.a8 none 12 42 2 1 2 2,.aB none 13 40 12 2 2,.xs [bk (aV 14 45 [T 11,T 13]),bk (aV 15 56 [T 9,T 14])],
  .a8 none 16 42 2 1 2 2,.aB none 17 40 16 2 2,.a8 none 18 42 3 1 3 2,.aB none 19 40 18 3 2,
  .xs [aV 20 45 [T 17,T 19],dF 21 42 [(0,T 15),(1,T 20)]],.bX true none 42 4 (T 21) 4])
 (.ret)),[.cell 4 42]⟩
def KC:cT:=⟨.seq (.ops [.xs [aj 2 (C (.slice none 0 0)),aj 3 (ai 0)]])
 (.seq (.seq (.ops [.xs [I 12 (T 0),aV 13 57 [T 12],un 14 .not (T 13)]])
 (.cond (T 14) (.seq (.ops [.xs [aj 2 (C (.slice none 0 0)),aj 3 (ai 1)]])
 (.ret))
 (.skip)))
 (.seq (.ops [.xs [aj 4 (C (.slice none 0 0))]])
 (.seq (.seq (.ops [.xs [I 15 (T 0),aV 16 32 [T 15],aV 17 58 [T 16],bt 18 110 (T 17),I 19 (ai 0)]])
 (.block 0 (.loop 18014398508961744 576 (.seq (.ops [.xs [bi 20 .lss 3 (T 19) (T 18)]])
 (.seq (.cond (T 20) (.skip)
 (.exit 0))
 (.seq (.block 1 (.seq (.ops [.xs [bb 21 110 (T 17) (T 19),aB 22 113 (T 21)],.bL 6 113,.bX true none 113 6 (T 22) 6])
 (.seq (.ops [.a8 none 24 113 6 0 6 0,.aB none 25 80 24 6 0,
  .xs [aV 26 36 [T 25],aV 27 37 [T 26],I 23 (T 27),ex 28 (T 23) 0,ex 29 (T 23) 1,aj 7 (T 28),aj 8 (T 29)]])
 (.seq (.ops [.xs [I 30 (T 7),I 31 (T 0),bt 32 22 (T 31),ms 33 34 (T 32) (T 32),dF 34 69 [(0,T 30),(1,T 33)]],.bL 9 69,
  .bX true none 69 9 (T 34) 9])
 (.seq (.seq (.ops [.a8 none 35 113 6 1 6 4,.aB none 36 34 35 6 4,.xs [bt 37 34 (T 36),I 38 (ai 0)]])
 (.block 2 (.loop 562675075517440 0 (.seq (.ops [.xs [bi 39 .lss 3 (T 38) (T 37)]])
 (.seq (.cond (T 39) (.skip)
 (.exit 2))
 (.seq (.block 3 (.seq (.ops [.xs [I 40 (T 38),bb 41 34 (T 36) (T 38),aB 42 3 (T 41),aj 10 (T 40),aj 11 (T 42)]])
 (.ops [.a8 none 43 69 9 1 9 1,.aB none 44 34 43 9 1,.xs [I 45 (T 11),I 46 (T 10),bb 47 34 (T 44) (T 45),st 3 (T 47) (T 46)]])))
 (.ops [.xs [bi 48 .add 3 (T 38) (ai 1),I 38 (T 48)]])))))))
 (.ops [.xs [I 49 (T 4)],.bR none 50 69 9 9,.xs [eC 51 62 1 [(0,T 50)],ap 52 62 62 (T 49) (T 51),aj 4 (T 52)]]))))))
 (.ops [.xs [bi 53 .add 3 (T 19) (ai 1),I 19 (T 53)]])))))))
 (.seq (.ops [.xs [I 54 (T 4),aj 2 (T 54),aj 3 (ai 0)]])
 (.ret))))),[.tmp 2,.tmp 3]⟩
def KA:cT:=⟨.seq (.ops [.xs [aj 4 (C (.bool false)),aj 5 (ai 0)]])
 (.seq (.seq (.ops [.xs [I 18 (T 0),aV 19 57 [T 18],un 20 .not (T 19)]])
 (.cond (T 20) (.seq (.ops [.xs [aj 4 (C (.bool false)),aj 5 (ai 1)]])
 (.ret))
 (.skip)))
 (.seq (.ops [.xs [I 21 (T 0),bt 22 22 (T 21),aj 6 (T 22)]])
 (.seq (.seq (.ops [.xs [I 23 (T 1),bt 24 62 (T 23),I 25 (T 6),I 26 (T 6),bi 27 .mul 3 (T 25) (T 26),I 28 (T 6),bi 29 .mul 3 (ai 2) (T 28),bi 30 .sub 3 (T 27) (T 29),bi 31 .add 3 (T 30) (ai 2),bi 32 .gtr 3 (T 24) (T 31)]])
 (.cond (T 32) (.seq (.ops [.xs [aj 4 (C (.bool false)),aj 5 (ai 0)]])
 (.ret))
 (.skip)))
 (.seq (.ops [.xs [aj 7 (C (.slice none 0 0))]])
 (.seq (.seq (.ops [.xs [I 33 (T 1),bt 34 62 (T 33),I 35 (ai 0)]])
 (.block 0 (.loop 39614081257132168762412269232 4608 (.seq (.ops [.xs [bi 36 .lss 3 (T 35) (T 34)]])
 (.seq (.cond (T 36) (.skip)
 (.exit 0))
 (.seq (.block 1 (.seq (.ops [.xs [bb 37 62 (T 33) (T 35),aB 38 69 (T 37)],.bL 9 69,.bX true none 69 9 (T 38) 9])
 (.seq (.seq (.box 562400197607424 0 (.ops [.a8 none 39 69 9 0 9 0,.aB none 40 3 39 9 0,.xs [bi 41 .lss 3 (T 40) (ai 1),I 42 (T 41)],.a8 (some (42,false)) 43 69 9 1 9 1,
  .aB (some (42,false)) 44 34 43 9 1,
  .xs [aJ 42 false (bt 45 34 (T 44)),aJ 42 false (I 46 (T 6)),aJ 42 false (bi 47 .neq 3 (T 45) (T 46)),cI 48 (T 42) (C (.bool true)) (T 47)]]))
 (.cond (T 48) (.seq (.ops [.xs [aj 4 (C (.bool false)),aj 5 (ai 0)]])
 (.ret))
 (.skip)))
 (.seq (.ops [.a8 none 50 69 9 0 9 0,.aB none 51 3 50 9 0,
  .xs [aV 52 59 [T 51],aV 53 51 [T 52],I 49 (T 53),ex 54 (T 49) 0,ex 55 (T 49) 1,aj 10 (T 54),aj 11 (T 55)]])
 (.seq (.ops [.xs [I 56 (T 10),eC 57 34 1 [(0,ai (-1))],I 58 (T 6),aV 59 60 [T 57,T 58],dF 60 93 [(0,T 56),(1,T 59)]],.bL 12 93,
  .bX true none 93 12 (T 60) 12])
 (.seq (.seq (.ops [.a8 none 61 69 9 1 9 1,.aB none 62 34 61 9 1,.xs [bt 63 34 (T 62),I 64 (ai 0)]])
 (.block 2 (.loop 1237940020838636201189597232 0 (.seq (.ops [.xs [bi 65 .lss 3 (T 64) (T 63)]])
 (.seq (.cond (T 65) (.skip)
 (.exit 2))
 (.seq (.block 3 (.seq (.ops [.xs [I 66 (T 64),bb 67 34 (T 62) (T 64),aB 68 3 (T 67),aj 13 (T 66),aj 14 (T 68)]])
 (.seq (.seq (.box 19342222818023708089647104 0 (.ops [.xs [I 69 (T 14),bi 70 .lss 3 (T 69) (ai 0),I 71 (T 70),aJ 71 false (I 72 (T 14)),aJ 71 false (I 73 (T 6)),aJ 71 false (bi 74 .geq 3 (T 72) (T 73)),cI 75 (T 71) (C (.bool true)) (T 74),I 76 (T 75)],
  .a8 (some (76,false)) 77 93 12 1 12 1,.aB (some (76,false)) 78 34 77 12 1,
  .xs [aJ 76 false (I 79 (T 14)),aJ 76 false (bb 80 34 (T 78) (T 79)),aJ 76 false (aB 81 3 (T 80)),aJ 76 false (bi 82 .geq 3 (T 81) (ai 0)),cI 83 (T 76) (C (.bool true)) (T 82)]]))
 (.cond (T 83) (.seq (.ops [.xs [aj 4 (C (.bool false)),aj 5 (ai 0)]])
 (.ret))
 (.skip)))
 (.ops [.a8 none 84 93 12 1 12 1,.aB none 85 34 84 12 1,.xs [I 86 (T 14),I 87 (T 13),bb 88 34 (T 85) (T 86),st 3 (T 88) (T 87)]]))))
 (.ops [.xs [bi 89 .add 3 (T 64) (ai 1),I 64 (T 89)]])))))))
 (.ops [.xs [I 90 (T 7)],.bR none 91 93 12 12,.xs [eC 92 27 1 [(0,T 91)],ap 93 27 27 (T 90) (T 92),aj 7 (T 93)]])))))))
 (.ops [.xs [bi 94 .add 3 (T 35) (ai 1),I 35 (T 94)]])))))))
 (.seq (.ops [.xs [I 96 (T 7),I 97 (T 6),I 98 (T 6),aV 99 47 [T 96,T 97,T 98],I 95 (T 99),ex 100 (T 95) 0,ex 101 (T 95) 1,ex 102 (T 95) 2],
  .bL 15 74,.bL 16 80,.bX true none 74 15 (T 100) 15,.bX true none 80 16 (T 101) 16,.xs [aj 17 (T 102)]])
 (.seq (.box 1287933009831881071920650456662064 0 (.ops [.xs [I 103 (T 17),I 104 (T 103),aJ 104 true (I 105 (T 0)),aJ 104 true (bk (aV 106 32 [T 105]))],.bR (some (104,true)) 107 74 15 15,
  .xs [aJ 104 true (aV 108 50 [T 106,T 107]),cI 109 (T 104) (T 108) (C (.bool false)),aj 4 (T 109),aj 5 (ai 0)]]))
 (.ret)))))))),[.tmp 4,.tmp 5]⟩
def Kx:cT:=⟨.seq (.ops [.xs [aj 4 (C (.bool false))]])
 (.seq (.ops [.xs [I 14 (T 0),bt 15 22 (T 14),aj 5 (T 15)]])
 (.seq (.seq (.ops [.xs [I 16 (T 1),bt 17 62 (T 16),I 18 (T 5),I 19 (T 5),bi 20 .mul 3 (T 18) (T 19),I 21 (T 5),bi 22 .mul 3 (ai 2) (T 21),bi 23 .sub 3 (T 20) (T 22),bi 24 .add 3 (T 23) (ai 2),bi 25 .gtr 3 (T 17) (T 24)]])
 (.cond (T 25) (.seq (.ops [.xs [aj 4 (C (.bool false))]])
 (.ret))
 (.skip)))
 (.seq (.ops [.xs [eC 26 22 0 [],aj 6 (T 26)]])
 (.seq (.seq (.ops [.xs [aj 7 (ai 0)]])
 (.block 0 (.loop 2198889038016 0 (.seq (.seq (.ops [.xs [I 27 (T 7),I 28 (T 5),bi 29 .lss 3 (T 27) (T 28)]])
 (.cond (T 29) (.skip)
 (.exit 0)))
 (.seq (.block 1 (.ops [.xs [I 32 (T 6),eC 33 34 0 [],I 34 (T 0),I 35 (T 7),bb 36 22 (T 34) (T 35),aB 37 34 (T 36),ap 38 34 34 (T 33) (T 37),eC 39 22 1 [(0,T 38)],ap 40 22 22 (T 32) (T 39),aj 6 (T 40)]]))
 (.ops [.xs [I 30 (T 7),bi 31 .add 3 (T 30) (ai 1),aj 7 (T 31)]]))))))
 (.seq (.seq (.ops [.xs [aj 8 (ai 0)]])
 (.block 2 (.loop 2658455991569831745807611921537437456 0 (.seq (.seq (.ops [.xs [I 41 (T 8),I 42 (T 1),bt 43 62 (T 42),bi 44 .lss 3 (T 41) (T 43)]])
 (.cond (T 44) (.skip)
 (.exit 2)))
 (.seq (.block 3 (.seq (.seq (.box 9223231299366420480 0 (.ops [.xs [I 47 (T 1),I 48 (T 8),bb 49 62 (T 47) (T 48),a8 50 69 (T 49) 0,aB 51 3 (T 50),bi 52 .lss 3 (T 51) (ai 1),I 53 (T 52),aJ 53 false (I 54 (T 1)),aJ 53 false (I 55 (T 8)),aJ 53 false (bb 56 62 (T 54) (T 55)),aJ 53 false (a8 57 69 (T 56) 1),aJ 53 false (aB 58 34 (T 57)),aJ 53 false (bt 59 34 (T 58)),aJ 53 false (I 60 (T 5)),aJ 53 false (bi 61 .neq 3 (T 59) (T 60)),cI 62 (T 53) (C (.bool true)) (T 61)]]))
 (.cond (T 62) (.seq (.ops [.xs [aj 4 (C (.bool false))]])
 (.ret))
 (.skip)))
 (.seq (.ops [.xs [I 63 (T 5),ms 64 115 (T 63) (T 63),aj 9 (T 64)]])
 (.seq (.ops [.xs [aj 10 (ai 0)]])
 (.block 4 (.loop 2658455991569831708914125973141589008 0 (.seq (.seq (.ops [.xs [I 65 (T 10),I 66 (T 5),bi 67 .lss 3 (T 65) (T 66)]])
 (.cond (T 67) (.skip)
 (.exit 4)))
 (.seq (.block 5 (.seq (.ops [.xs [I 70 (T 1),I 71 (T 8),bb 72 62 (T 70) (T 71),a8 73 69 (T 72) 1,aB 74 34 (T 73),I 75 (T 10),bb 76 34 (T 74) (T 75),aB 77 3 (T 76),aj 11 (T 77)]])
 (.seq (.seq (.box 20282409301420215520289957609472 0 (.ops [.xs [I 78 (T 11),I 79 (T 5),bi 80 .sub 3 (T 79) (ai 1),aV 81 39 [T 78,ai 0,T 80],un 82 .not (T 81),I 83 (T 82),aJ 83 false (I 84 (T 9)),aJ 83 false (I 85 (T 11)),aJ 83 false (bb 86 115 (T 84) (T 85)),aJ 83 false (aB 87 4 (T 86)),cI 88 (T 83) (C (.bool true)) (T 87),I 89 (T 88),aJ 89 false (I 90 (T 6)),aJ 89 false (I 91 (T 10)),aJ 89 false (bb 92 22 (T 90) (T 91)),aJ 89 false (aB 93 34 (T 92)),aJ 89 false (I 94 (T 11)),aJ 89 false (bb 95 34 (T 93) (T 94)),aJ 89 false (aB 96 3 (T 95)),aJ 89 false (I 97 (T 1)),aJ 89 false (I 98 (T 8)),aJ 89 false (bb 99 62 (T 97) (T 98)),aJ 89 false (a8 100 69 (T 99) 0),aJ 89 false (aB 101 3 (T 100)),aJ 89 false (bi 102 .lss 3 (T 96) (T 101)),cI 103 (T 89) (C (.bool true)) (T 102)]]))
 (.cond (T 103) (.seq (.ops [.xs [aj 4 (C (.bool false))]])
 (.ret))
 (.skip)))
 (.seq (.ops [.xs [I 104 (T 9),I 105 (T 11),bb 106 115 (T 104) (T 105),st 4 (T 106) (C (.bool true))]])
 (.ops [.xs [I 107 (T 6),I 108 (T 10),bb 109 22 (T 107) (T 108),aB 110 34 (T 109),I 111 (T 11),bb 112 34 (T 110) (T 111),aB 113 3 (T 112),I 114 (T 1),I 115 (T 8),bb 116 62 (T 114) (T 115),a8 117 69 (T 116) 0,aB 118 3 (T 117),bi 119 .sub 3 (T 113) (T 118),bb 120 34 (T 110) (T 111),st 3 (T 120) (T 119)]])))))
 (.ops [.xs [I 68 (T 10),bi 69 .add 3 (T 68) (ai 1),aj 10 (T 69)]])))))))))
 (.ops [.xs [I 45 (T 8),bi 46 .add 3 (T 45) (ai 1),aj 8 (T 46)]]))))))
 (.seq (.seq (.ops [.xs [aj 12 (ai 0)]])
 (.block 6 (.loop 696895628998090403341245388406140736385040 0 (.seq (.seq (.ops [.xs [I 121 (T 12),I 122 (T 5),bi 123 .lss 3 (T 121) (T 122)]])
 (.cond (T 123) (.skip)
 (.exit 6)))
 (.seq (.block 7 (.seq (.ops [.xs [aj 13 (ai 0)]])
 (.block 8 (.loop 696813216862351738557125352368403355017232 0 (.seq (.seq (.ops [.xs [I 126 (T 13),I 127 (T 5),bi 128 .lss 3 (T 126) (T 127)]])
 (.cond (T 128) (.skip)
 (.exit 8)))
 (.seq (.block 9 (.seq (.ops [.xs [I 131 (T 6),I 132 (T 12),bb 133 22 (T 131) (T 132),aB 134 34 (T 133),I 135 (T 13),bb 136 34 (T 134) (T 135),aB 137 3 (T 136),bi 138 .neq 3 (T 137) (ai 0)]])
 (.cond (T 138) (.seq (.ops [.xs [aj 4 (C (.bool false))]])
 (.ret))
 (.skip))))
 (.ops [.xs [I 129 (T 13),bi 130 .add 3 (T 129) (ai 1),aj 13 (T 130)]])))))))
 (.ops [.xs [I 124 (T 12),bi 125 .add 3 (T 124) (ai 1),aj 12 (T 125)]]))))))
 (.seq (.ops [.xs [aj 4 (C (.bool true))]])
 (.ret)))))))),[.tmp 4]⟩
def KG:cT:=⟨.seq (.ops [.bL 2 74])
 (.seq (.ops [.xs [aj 3 (C (.slice none 0 0))]])
 (.seq (.seq (.ops [.xs [I 9 (T 0),bt 10 22 (T 9),I 11 (ai 0)]])
 (.block 0 (.loop 4294965608 0 (.seq (.ops [.xs [bi 12 .lss 3 (T 11) (T 10)]])
 (.seq (.cond (T 12) (.skip)
 (.exit 0))
 (.seq (.block 1 (.seq (.ops [.xs [bb 13 22 (T 9) (T 11),aB 14 34 (T 13),aj 5 (T 14)]])
 (.seq (.ops [.xs [aj 6 (C (.slice none 0 0))]])
 (.seq (.seq (.ops [.xs [I 15 (T 5),bt 16 34 (T 15),I 17 (ai 0)]])
 (.block 2 (.loop 134086976 0 (.seq (.ops [.xs [bi 18 .lss 3 (T 17) (T 16)]])
 (.seq (.cond (T 18) (.skip)
 (.exit 2))
 (.seq (.block 3 (.seq (.ops [.xs [bb 19 34 (T 15) (T 17),aB 20 3 (T 19),aj 8 (T 20)]])
 (.ops [.xs [I 21 (T 6),I 22 (T 8),aV 23 59 [T 22],eC 24 120 1 [(0,T 23)],ap 25 120 120 (T 21) (T 24),aj 6 (T 25)]])))
 (.ops [.xs [bi 26 .add 3 (T 17) (ai 1),I 17 (T 26)]])))))))
 (.ops [.xs [I 27 (T 3),I 28 (T 6),eC 29 72 1 [(0,T 28)],ap 30 72 72 (T 27) (T 29),aj 3 (T 30)]])))))
 (.ops [.xs [bi 31 .add 3 (T 11) (ai 1),I 11 (T 31)]])))))))
 (.seq (.ops [.xs [I 32 (T 3),dF 33 74 [(0,T 32)]],.bX true none 74 2 (T 33) 2])
 (.ret)))),[.cell 2 74]⟩
def KJ:cT:=⟨.seq (.ops [.cE 1 74 (T 0),.bL 2 80,.xs [aj 3 (ai 0)]])
 (.seq (.ops [.bR none 8 74 1 1,.xs [aV 9 65 [T 8,ai 0]],.bL 4 80,.bX true none 80 4 (T 9) 4,.xs [aj 5 (ai 0)]])
 (.seq (.seq (.ops [.bR none 10 74 1 1,.xs [aV 11 48 [T 10],I 12 (ai 0)]])
 (.block 0 (.loop 33550560 144 (.seq (.ops [.xs [bi 13 .lss 3 (T 12) (T 11)]])
 (.seq (.cond (T 13) (.skip)
 (.exit 0))
 (.seq (.box 16761056 144 (.block 1 (.seq (.ops [.xs [I 14 (T 12),aj 6 (T 14)]])
 (.seq (.ops [.bR none 15 74 1 1,.xs [I 16 (T 6),aV 17 65 [T 15,T 16]],.bL 7 80,.bX true none 80 7 (T 17) 7])
 (.seq (.ops [.bR none 18 80 7 7,.bR none 19 80 4 4,.xs [aV 20 35 [T 18,T 19],bi 21 .gtr 3 (T 20) (ai 0)]])
 (.cond (T 21) (.ops [.bR none 22 80 7 7,.xs [I 23 (T 6)],.bX true none 80 4 (T 22) 4,.xs [aj 5 (T 23)]])
 (.skip)))))))
 (.ops [.xs [bi 24 .add 3 (T 12) (ai 1),I 12 (T 24)]])))))))
 (.seq (.ops [.bR none 25 80 4 4,.xs [I 26 (T 5)],.bX true none 80 2 (T 25) 2,.xs [aj 3 (T 26)]])
 (.ret)))),[.cell 2 80,.tmp 3]⟩
def KN:cT:=⟨.seq (.ops [.cE 1 74 (T 0),.bL 2 74])
 (.seq (.ops [.bR none 7 74 1 1,.xs [aV 8 49 [T 7],ms 9 72 (T 8) (T 8),aj 3 (T 9)]])
 (.seq (.seq (.ops [.xs [I 10 (T 3),bt 11 72 (T 10),I 12 (ai 0)]])
 (.block 0 (.loop 137438949456 0 (.seq (.ops [.xs [bi 13 .lss 3 (T 12) (T 11)]])
 (.seq (.cond (T 13) (.skip)
 (.exit 0))
 (.seq (.block 1 (.seq (.ops [.xs [I 14 (T 12),aj 4 (T 14)]])
 (.seq (.ops [.a8 none 15 74 1 0 1 0,.aB none 16 72 15 1 0,.xs [bt 17 72 (T 16),I 18 (ai 0)]])
 (.block 2 (.loop 68719214656 0 (.seq (.ops [.xs [bi 19 .lss 3 (T 18) (T 17)]])
 (.seq (.cond (T 19) (.skip)
 (.exit 2))
 (.seq (.block 3 (.seq (.ops [.xs [bb 20 72 (T 16) (T 18),aB 21 120 (T 20),aj 6 (T 21)]])
 (.ops [.xs [I 22 (T 3),I 23 (T 4),I 24 (T 3),I 25 (T 4),bb 26 72 (T 24) (T 25),aB 27 120 (T 26),I 28 (T 6),I 29 (T 4),bb 30 120 (T 28) (T 29),aB 31 80 (T 30),bk (eC 32 120 1 [(0,T 31)]),ap 33 120 120 (T 27) (T 32),bb 34 72 (T 22) (T 23),st 120 (T 34) (T 33)]])))
 (.ops [.xs [bi 35 .add 3 (T 18) (ai 1),I 18 (T 35)]])))))))))
 (.ops [.xs [bi 36 .add 3 (T 12) (ai 1),I 12 (T 36)]])))))))
 (.seq (.ops [.xs [I 37 (T 3),dF 38 74 [(0,T 37)]],.bX true none 74 2 (T 38) 2])
 (.ret)))),[.cell 2 74]⟩
def Kk:cT:=⟨.seq (.ops [.cE 2 80 (T 0),.cE 3 80 (T 1),.xs [aj 4 (ai 0)]])
 (.seq (.ops [.a8 none 5 80 2 0 2 0,.aB none 6 78 5 2 0,.a8 none 7 80 3 1 3 2,.aB none 8 78 7 3 2,.xs [bk (aV 9 66 [T 6,T 8])],.a8 none 10 80 3 0 3 0,
  .aB none 11 78 10 3 0,.a8 none 12 80 2 1 2 2,.aB none 13 78 12 2 2,.xs [aV 14 66 [T 11,T 13],aV 15 67 [T 9,T 14],aj 4 (T 15)]])
 (.ret)),[.tmp 4]⟩
def Kh:cT:=⟨.seq (.ops [.cE 1 78 (T 0),.xs [aj 2 (ai 0),aj 3 (C (.bool false))]])
 (.seq (.seq (.ops [.a8 none 7 78 1 1 1 1,.aB none 8 76 7 1 1,.xs [bt 9 76 (T 8),bi 10 .gtr 3 (T 9) (ai 2)]])
 (.cond (T 10) (.seq (.ops [.xs [aj 2 (ai 0),aj 3 (C (.bool false))]])
 (.ret))
 (.skip)))
 (.seq (.ops [.xs [aj 4 (C (.int .u64 0))]])
 (.seq (.seq (.ops [.a8 none 11 78 1 1 1 1,.aB none 12 76 11 1 1,.xs [bt 13 76 (T 12),I 14 (ai 0)]])
 (.block 0 (.loop 134201456 0 (.seq (.ops [.xs [bi 15 .lss 3 (T 14) (T 13)]])
 (.seq (.cond (T 15) (.skip)
 (.exit 0))
 (.seq (.block 1 (.seq (.ops [.xs [I 16 (T 14),bb 17 76 (T 12) (T 14),aB 18 124 (T 17),aj 5 (T 16),aj 6 (T 18)]])
 (.ops [.xs [I 19 (T 4),I 20 (T 6),cm 21 124 123 (T 20),I 22 (T 5),bi 23 .mul 3 (ai 32) (T 22),bi 24 .shl 123 (T 21) (T 23),bi 25 .or 123 (T 19) (T 24),aj 4 (T 25)]])))
 (.ops [.xs [bi 26 .add 3 (T 14) (ai 1),I 14 (T 26)]])))))))
 (.seq (.seq (.ops [.xs [I 27 (T 4),bi 28 .gtr 123 (T 27) (C (.int .u64 4611686018427387904))]])
 (.cond (T 28) (.seq (.ops [.xs [aj 2 (ai 0),aj 3 (C (.bool false))]])
 (.ret))
 (.skip)))
 (.seq (.seq (.ops [.a8 none 29 78 1 0 1 0,.aB none 30 4 29 1 0])
 (.cond (T 30) (.seq (.ops [.xs [I 31 (T 4),cm 32 123 3 (T 31),un 33 .neg (T 32),aj 2 (T 33),aj 3 (C (.bool true))]])
 (.ret))
 (.skip)))
 (.seq (.ops [.xs [I 34 (T 4),cm 35 123 3 (T 34),aj 2 (T 35),aj 3 (C (.bool true))]])
 (.ret))))))),[.tmp 2,.tmp 3]⟩
def KL:cT:=⟨.seq (.ops [.cE 1 74 (T 0),.xs [aj 2 (C (.slice none 0 0)),aj 3 (ai 0)]])
 (.seq (.ops [.xs [aj 4 (C (.slice none 0 0))]])
 (.seq (.seq (.ops [.bR none 12 74 1 1,.xs [aV 13 68 [T 12],aV 14 58 [T 13],bt 15 110 (T 14),I 16 (ai 0)]])
 (.block 0 (.loop 144115188075793372 576 (.seq (.ops [.xs [bi 17 .lss 3 (T 16) (T 15)]])
 (.seq (.cond (T 17) (.skip)
 (.exit 0))
 (.seq (.block 1 (.seq (.ops [.xs [bb 18 110 (T 14) (T 16),aB 19 113 (T 18)],.bL 6 113,.bX true none 113 6 (T 19) 6])
 (.seq (.ops [.a8 none 21 113 6 0 6 0,.aB none 22 80 21 6 0,
  .xs [aV 23 51 [T 22],I 20 (T 23),ex 24 (T 20) 0,ex 25 (T 20) 1,aj 7 (T 24),aj 8 (T 25)]])
 (.seq (.seq (.ops [.xs [I 26 (T 8),bi 27 .neq 24 (T 26) (ai 0)]])
 (.cond (T 27) (.seq (.ops [.xs [I 28 (T 8),aj 2 (C (.slice none 0 0)),aj 3 (T 28)]])
 (.ret))
 (.skip)))
 (.seq (.ops [.xs [I 29 (T 7),dF 30 93 [(0,T 29)]],.bL 9 93,.bX true none 93 9 (T 30) 9])
 (.seq (.seq (.ops [.a8 none 31 113 6 1 6 4,.aB none 32 34 31 6 4,.bR none 33 74 1 1,
  .xs [bk (aV 34 49 [T 33]),gj 35 34 (T 32) none (some (T 34)) none,bt 36 34 (T 35),I 37 (ai 0)]])
 (.block 2 (.loop 4503462188419072 512 (.seq (.ops [.xs [bi 38 .lss 3 (T 37) (T 36)]])
 (.seq (.cond (T 38) (.skip)
 (.exit 2))
 (.seq (.block 3 (.seq (.ops [.xs [bb 39 34 (T 35) (T 37),aB 40 3 (T 39),aj 11 (T 40)]])
 (.seq (.box 32985348835328 0 (.seq (.ops [.xs [I 41 (T 11)],.bR none 42 74 1 1,.xs [aV 43 48 [T 42],bi 44 .geq 3 (T 41) (T 43)]])
 (.cond (T 44) (.ops [.xs [aj 11 (ai (-1))]])
 (.skip))))
 (.ops [.a8 none 45 93 9 1 9 1,.aB none 46 34 45 9 1,.xs [I 47 (T 11),eC 48 34 1 [(0,T 47)],ap 49 34 34 (T 46) (T 48)],.a8 none 50 93 9 1 9 1,
  .st true none 34 50 (T 49) 9 1]))))
 (.ops [.xs [bi 51 .add 3 (T 37) (ai 1),I 37 (T 51)]])))))))
 (.ops [.xs [I 52 (T 4)],.bR none 53 93 9 9,.xs [eC 54 27 1 [(0,T 53)],ap 55 27 27 (T 52) (T 54),aj 4 (T 55)]])))))))
 (.ops [.xs [bi 56 .add 3 (T 16) (ai 1),I 16 (T 56)]])))))))
 (.seq (.ops [.xs [I 57 (T 4),aj 2 (T 57),aj 3 (ai 0)]])
 (.ret)))),[.tmp 2,.tmp 3]⟩
def JZ:cT:=⟨.seq (.ops [.cE 1 40 (T 0),.xs [aj 2 (ai 0)]])
 (.seq (.seq (.ops [.a8 none 3 40 1 1 1 1,.aB none 4 34 3 1 1,.xs [bt 5 34 (T 4),bi 6 .eql 3 (T 5) (ai 0)]])
 (.cond (T 6) (.seq (.ops [.xs [aj 2 (ai 0)]])
 (.ret))
 (.skip)))
 (.seq (.seq (.ops [.a8 none 7 40 1 0 1 0,.aB none 8 4 7 1 0])
 (.cond (T 8) (.seq (.ops [.xs [aj 2 (ai (-1))]])
 (.ret))
 (.skip)))
 (.seq (.ops [.xs [aj 2 (ai 1)]])
 (.ret)))),[.tmp 2]⟩
def JU:cT:=⟨.seq (.ops [.cE 1 42 (T 0),.bL 2 42])
 (.seq (.ops [.a8 none 8 42 1 0 1 0,.aB none 9 40 8 1 0,.a8 none 10 42 1 1 1 2,.aB none 11 40 10 1 2,.xs [aV 12 69 [T 9,T 11]],.bL 3 40,
  .bX true none 40 3 (T 12) 3])
 (.seq (.ops [.a8 none 14 42 1 0 1 0,.aB none 15 40 14 1 0,.bR none 16 40 3 3,
  .xs [aV 17 70 [T 15,T 16],I 13 (T 17),ex 18 (T 13) 0,ex 19 (T 13) 1],.bL 4 40,.bL 5 40,.bX true none 40 4 (T 18) 4,
  .bX true none 40 5 (T 19) 5])
 (.seq (.ops [.a8 none 21 42 1 1 1 2,.aB none 22 40 21 1 2,.bR none 23 40 3 3,
  .xs [aV 24 70 [T 22,T 23],I 20 (T 24),ex 25 (T 20) 0,ex 26 (T 20) 1],.bL 6 40,.bL 7 40,.bX true none 40 6 (T 25) 6,
  .bX true none 40 7 (T 26) 7])
 (.seq (.ops [.bR none 27 40 4 4,.bR none 28 40 6 6,.xs [dF 29 42 [(0,T 27),(1,T 28)]],.bX true none 42 2 (T 29) 2])
 (.ret))))),[.cell 2 42]⟩
def JP:cT:=⟨.seq (.ops [.cE 2 40 (T 0),.cE 3 40 (T 1),.xs [aj 4 (ai 0)]])
 (.seq (.ops [.bR none 5 40 2 2,.bR none 6 40 3 3,.xs [aV 7 71 [T 5,T 6],aV 8 41 [T 7],aj 4 (T 8)]])
 (.ret)),[.tmp 4]⟩
def JV:cT:=⟨.seq (.ops [.cE 2 40 (T 0),.cE 3 40 (T 1),.bL 4 40])
 (.seq (.ops [.a8 none 10 40 2 1 2 1,.aB none 11 34 10 2 1,.xs [bt 12 34 (T 11)],.a8 none 13 40 3 1 3 1,.aB none 14 34 13 3 1,
  .xs [bt 15 34 (T 14),bi 16 .add 3 (T 12) (T 15),bi 17 .add 3 (T 16) (ai 1),ms 18 34 (T 17) (T 17),aj 5 (T 18)]])
 (.seq (.seq (.ops [.xs [aj 6 (ai 0)]])
 (.block 0 (.loop 4722366482869644690368 0 (.seq (.seq (.ops [.xs [I 19 (T 6)],.a8 none 20 40 2 1 2 1,.aB none 21 34 20 2 1,.xs [bt 22 34 (T 21),bi 23 .lss 3 (T 19) (T 22)]])
 (.cond (T 23) (.skip)
 (.exit 0)))
 (.seq (.block 1 (.seq (.ops [.xs [aj 7 (ai 0)]])
 (.seq (.ops [.xs [aj 8 (ai 0)]])
 (.block 2 (.loop 4722366482869578105728 0 (.seq (.seq (.box 34292629504 0 (.ops [.xs [I 26 (T 8)],.a8 none 27 40 3 1 3 1,.aB none 28 34 27 3 1,
  .xs [bt 29 34 (T 28),bi 30 .lss 3 (T 26) (T 29),I 31 (T 30),aJ 31 false (I 32 (T 7)),aJ 31 false (bi 33 .gtr 3 (T 32) (ai 0)),cI 34 (T 31) (C (.bool true)) (T 33)]]))
 (.cond (T 34) (.skip)
 (.exit 2)))
 (.seq (.block 3 (.seq (.ops [.xs [I 37 (T 5),I 38 (T 6),I 39 (T 8),bi 40 .add 3 (T 38) (T 39),bb 41 34 (T 37) (T 40),aB 42 3 (T 41),I 43 (T 7),bi 44 .add 3 (T 42) (T 43),aj 9 (T 44)]])
 (.seq (.box 9223336852482687488 0 (.seq (.ops [.xs [I 45 (T 8)],.a8 none 46 40 3 1 3 1,.aB none 47 34 46 3 1,.xs [bt 48 34 (T 47),bi 49 .lss 3 (T 45) (T 48)]])
 (.cond (T 49) (.ops [.xs [I 50 (T 9)],.a8 none 51 40 2 1 2 1,.aB none 52 34 51 2 1,.xs [I 53 (T 6),bb 54 34 (T 52) (T 53),aB 55 3 (T 54)],
  .a8 none 56 40 3 1 3 1,.aB none 57 34 56 3 1,
  .xs [I 58 (T 8),bb 59 34 (T 57) (T 58),aB 60 3 (T 59),bi 61 .mul 3 (T 55) (T 60),bi 62 .add 3 (T 50) (T 61),aj 9 (T 62)]])
 (.skip))))
 (.ops [.xs [I 63 (T 5),I 64 (T 6),I 65 (T 8),bi 66 .add 3 (T 64) (T 65),I 67 (T 9),bi 68 .rem 3 (T 67) (ai 10000),I 69 (T 9),bi 70 .quo 3 (T 69) (ai 10000),bb 71 34 (T 63) (T 66),st 3 (T 71) (T 68),aj 7 (T 70)]]))))
 (.ops [.xs [I 35 (T 8),bi 36 .add 3 (T 35) (ai 1),aj 8 (T 36)]]))))))))
 (.ops [.xs [I 24 (T 6),bi 25 .add 3 (T 24) (ai 1),aj 6 (T 25)]]))))))
 (.seq (.ops [.a8 none 72 40 2 0 2 0,.aB none 73 4 72 2 0,.a8 none 74 40 3 0 3 0,.aB none 75 4 74 3 0,
  .xs [bi 76 .neq 4 (T 73) (T 75),I 77 (T 5),dF 78 40 [(0,T 76),(1,T 77)],aV 79 72 [T 78]],.bX true none 40 4 (T 79) 4])
 (.ret)))),[.cell 4 40]⟩
def JT:cT:=⟨.seq (.ops [.bL 2 40])
 (.seq (.ops [.xs [I 5 (T 0),bi 6 .lss 3 (T 5) (ai 0),dF 7 40 [(0,T 6)]],.bL 3 40,.bX true none 40 3 (T 7) 3])
 (.seq (.block 0 (.loop 16776977 8 (.seq (.seq (.ops [.xs [I 8 (T 0),bi 9 .neq 3 (T 8) (ai 0)]])
 (.cond (T 9) (.skip)
 (.exit 0)))
 (.block 1 (.seq (.ops [.xs [I 10 (T 0),bi 11 .rem 3 (T 10) (ai 10000),aj 4 (T 11)]])
 (.seq (.box 61456 0 (.seq (.ops [.xs [I 12 (T 4),bi 13 .lss 3 (T 12) (ai 0)]])
 (.cond (T 13) (.ops [.xs [I 14 (T 4),un 15 .neg (T 14),aj 4 (T 15)]])
 (.skip))))
 (.seq (.ops [.a8 none 16 40 3 1 3 1,.aB none 17 34 16 3 1,.xs [I 18 (T 4),eC 19 34 1 [(0,T 18)],ap 20 34 34 (T 17) (T 19)],.a8 none 21 40 3 1 3 1,
  .st true none 34 21 (T 20) 3 1])
 (.ops [.xs [I 22 (T 0),bi 23 .quo 3 (T 22) (ai 10000),aj 0 (T 23)]]))))))))
 (.seq (.ops [.bR none 24 40 3 3,.bX true none 40 2 (T 24) 2])
 (.ret)))),[.cell 2 40]⟩
def KD:cT:=⟨.seq (.ops [.bL 6 74,.bL 7 80,.xs [aj 8 (C (.bool false))]])
 (.seq (.ops [.xs [I 17 (T 2),ms 18 34 (T 17) (T 17),eC 19 22 1 [(0,T 18)],I 20 (T 1),aV 21 73 [T 19,T 20],aV 22 32 [T 21],aV 23 59 [ai 0]],
  .bL 9 74,.bL 10 80,.bX true none 74 9 (T 22) 9,.bX true none 80 10 (T 23) 10])
 (.seq (.seq (.ops [.xs [I 24 (T 0),bt 25 27 (T 24),I 26 (ai 0)]])
 (.block 0 (.loop 40564819207303340847894435590400 13504 (.seq (.ops [.xs [bi 27 .lss 3 (T 26) (T 25)]])
 (.seq (.cond (T 27) (.skip)
 (.exit 0))
 (.seq (.block 1 (.seq (.ops [.xs [bb 28 27 (T 24) (T 26),aB 29 93 (T 28)],.bL 12 93,.bX true none 93 12 (T 29) 12])
 (.seq (.ops [.a8 none 31 93 12 0 12 0,.aB none 32 45 31 12 0,.xs [aV 33 74 [T 32],I 30 (T 33),ex 34 (T 30) 0,ex 35 (T 30) 1],.bL 13 80,
  .bX true none 80 13 (T 34) 13,.xs [aj 14 (T 35)]])
 (.seq (.seq (.box 1125831187365888 0 (.ops [.xs [I 36 (T 14),un 37 .not (T 36),I 38 (T 37)],.bR (some (38,false)) 39 80 13 13,
  .xs [aJ 38 false (aV 40 75 [T 39]),aJ 38 false (bi 41 .leq 3 (T 40) (ai 0)),cI 42 (T 38) (C (.bool true)) (T 41),I 43 (T 42)],
  .a8 (some (43,false)) 44 93 12 1 12 1,.aB (some (43,false)) 45 34 44 12 1,
  .xs [aJ 43 false (bt 46 34 (T 45)),aJ 43 false (I 47 (T 2)),aJ 43 false (bi 48 .neq 3 (T 46) (T 47)),cI 49 (T 43) (C (.bool true)) (T 48)]]))
 (.cond (T 49) (.seq (.opsL [.xs [dF 50 74 []],.bR none 51 80 10 10,.bX false none 74 6 (T 50) 6,.bX true none 80 7 (T 51) 7,.xs [aj 8 (C (.bool false))]])
 (.ret))
 (.skip)))
 (.seq (.seq (.ops [.a8 none 52 93 12 1 12 1,.aB none 53 34 52 12 1,.xs [bt 54 34 (T 53),I 55 (ai 0)]])
 (.block 2 (.loop 2535301200456422774196387545344 192 (.seq (.ops [.xs [bi 56 .lss 3 (T 55) (T 54)]])
 (.seq (.cond (T 56) (.skip)
 (.exit 2))
 (.seq (.box 1267650600228085286308627448064 192 (.block 3 (.seq (.ops [.xs [I 57 (T 55),bb 58 34 (T 53) (T 55),aB 59 3 (T 58),aj 15 (T 57),aj 16 (T 59)]])
 (.seq (.seq (.box 604461756885809980506112 0 (.ops [.xs [I 60 (T 16),bi 61 .lss 3 (T 60) (ai (-1)),I 62 (T 61),aJ 62 false (I 63 (T 16)),aJ 62 false (I 64 (T 1)),aJ 62 false (bi 65 .geq 3 (T 63) (T 64)),cI 66 (T 62) (C (.bool true)) (T 65),I 67 (T 66),aJ 67 false (I 68 (T 16)),aJ 67 false (bi 69 .geq 3 (T 68) (ai 0)),aJ 67 false (I 70 (T 69))],
  .a8 (some (70,true)) 71 93 12 1 12 1,.aB (some (70,true)) 72 34 71 12 1,
  .xs [aJ 70 true (I 73 (T 15)),aJ 70 true ((gj 74 34 (T 72) none (some (T 73)) none)),aJ 70 true (I 75 (T 16)),aJ 70 true (aV 76 76 [T 74,T 75]),aJ 67 false ((cI 77 (T 70) (T 76) (C (.bool false)))),cI 78 (T 67) (C (.bool true)) (T 77)]]))
 (.cond (T 78) (.seq (.opsL [.xs [dF 79 74 []],.bR none 80 80 10 10,.bX false none 74 6 (T 79) 6,.bX true none 80 7 (T 80) 7,.xs [aj 8 (C (.bool false))]])
 (.ret))
 (.skip)))
 (.seq (.ops [.xs [I 81 (T 16),bi 82 .geq 3 (T 81) (ai 0)]])
 (.cond (T 82) (.ops [.a8 none 83 74 9 0 9 0,.aB none 84 72 83 9 0,.xs [I 85 (T 16),bb 86 72 (T 84) (T 85),aB 87 120 (T 86),I 88 (T 15)],
  .a8 none 89 74 9 0 9 0,.aB none 90 72 89 9 0,
  .xs [I 91 (T 16),bb 92 72 (T 90) (T 91),aB 93 120 (T 92),I 94 (T 15),bb 95 120 (T 93) (T 94),aB 96 80 (T 95)],.bR none 97 80 13 13,
  .xs [bk (aV 98 77 [T 96,T 97]),bb 99 120 (T 87) (T 88),st 80 (T 99) (T 98)]])
 (.skip)))))))
 (.ops [.xs [bi 100 .add 3 (T 55) (ai 1),I 55 (T 100)]])))))))
 (.ops [.bR none 101 80 10 10,.bR none 102 80 13 13,.xs [aV 103 77 [T 101,T 102]],.bX true none 80 10 (T 103) 10]))))))
 (.ops [.xs [bi 104 .add 3 (T 26) (ai 1),I 26 (T 104)]])))))))
 (.seq (.opsL [.bR none 105 74 9 9,.bR none 106 80 10 10,.xs [I 107 (T 0),bt 108 27 (T 107),bi 109 .leq 3 (T 108) (ai 1000)],
  .bX false none 74 6 (T 105) 6,.bX true none 80 7 (T 106) 7,.xs [aj 8 (T 109)]])
 (.ret)))),[.cell 6 74,.cell 7 80,.tmp 8]⟩
def KK:cT:=⟨.seq (.ops [.cE 2 74 (T 0),.cE 3 74 (T 1),.xs [aj 4 (C (.bool false))]])
 (.seq (.seq (.ops [.a8 none 9 74 2 0 2 0,.aB none 10 72 9 2 0,.xs [bt 11 72 (T 10),I 12 (ai 0)]])
 (.block 0 (.loop 137438949872 256 (.seq (.ops [.xs [bi 13 .lss 3 (T 12) (T 11)]])
 (.seq (.cond (T 13) (.skip)
 (.exit 0))
 (.seq (.block 1 (.seq (.ops [.xs [I 14 (T 12),bb 15 72 (T 10) (T 12),aB 16 120 (T 15),aj 5 (T 14),aj 6 (T 16)]])
 (.seq (.ops [.xs [I 17 (T 6),bt 18 120 (T 17),I 19 (ai 0)]])
 (.block 2 (.loop 68718952848 256 (.seq (.ops [.xs [bi 20 .lss 3 (T 19) (T 18)]])
 (.seq (.cond (T 20) (.skip)
 (.exit 2))
 (.seq (.block 3 (.seq (.ops [.xs [I 21 (T 19),bb 22 120 (T 17) (T 19),aB 23 80 (T 22)],.bL 8 80,.xs [aj 7 (T 21)],.bX true none 80 8 (T 23) 8])
 (.seq (.ops [.bR none 24 80 8 8,.a8 none 25 74 3 0 3 0,.aB none 26 72 25 3 0,
  .xs [I 27 (T 5),bb 28 72 (T 26) (T 27),aB 29 120 (T 28),I 30 (T 7),bb 31 120 (T 29) (T 30),aB 32 80 (T 31),aV 33 35 [T 24,T 32],bi 34 .neq 3 (T 33) (ai 0)]])
 (.cond (T 34) (.seq (.ops [.xs [aj 4 (C (.bool false))]])
 (.ret))
 (.skip)))))
 (.ops [.xs [bi 35 .add 3 (T 19) (ai 1),I 19 (T 35)]])))))))))
 (.ops [.xs [bi 36 .add 3 (T 12) (ai 1),I 12 (T 36)]])))))))
 (.seq (.ops [.xs [aj 4 (C (.bool true))]])
 (.ret))),[.tmp 4]⟩
def Km:cT:=⟨.seq (.ops [.cE 1 80 (T 0),.xs [aj 2 (C (.string {data:= #[]})),aj 3 (ai 0)]])
 (.seq (.ops [.a8 none 6 80 1 0 1 0,.a8 none 7 78 6 1 1 1,.aB none 8 76 7 1 1,.xs [aV 9 78 [T 8],aj 4 (T 9)]])
 (.seq (.seq (.ops [.xs [I 10 (T 4),bt 11 9 (T 10),bi 12 .gtr 3 (T 11) (ai 4000)]])
 (.cond (T 12) (.seq (.ops [.xs [aj 2 (C (.string {data:= #[]})),aj 3 (ai 5)]])
 (.ret))
 (.skip)))
 (.seq (.box 253968 0 (.seq (.ops [.a8 none 13 80 1 0 1 0,.a8 none 14 78 13 0 1 0,.aB none 15 4 14 1 0])
 (.cond (T 15) (.ops [.xs [I 16 (T 4),bi 17 .add 9 (C (.string {data:= #[45]})) (T 16),aj 4 (T 17)]])
 (.skip))))
 (.seq (.seq (.ops [.bR none 18 80 1 1,.xs [aV 19 79 [T 18]]])
 (.cond (T 19) (.seq (.ops [.xs [I 20 (T 4),aj 2 (T 20),aj 3 (ai 0)]])
 (.ret))
 (.skip)))
 (.seq (.ops [.a8 none 21 80 1 1 1 2,.a8 none 22 78 21 1 1 3,.aB none 23 76 22 1 3,.xs [aV 24 78 [T 23],aj 5 (T 24)]])
 (.seq (.seq (.ops [.xs [I 25 (T 5),bt 26 9 (T 25),bi 27 .gtr 3 (T 26) (ai 4000)]])
 (.cond (T 27) (.seq (.ops [.xs [aj 2 (C (.string {data:= #[]})),aj 3 (ai 5)]])
 (.ret))
 (.skip)))
 (.seq (.ops [.xs [I 28 (T 4),bi 29 .add 9 (T 28) (C (.string {data:= #[47]})),I 30 (T 5),bi 31 .add 9 (T 29) (T 30),aj 2 (T 31),aj 3 (ai 0)]])
 (.ret)))))))),[.tmp 2,.tmp 3]⟩
def JM:cT:=⟨.seq (.ops [.cE 1 40 (T 0),.bL 2 40])
 (.seq (.ops [.a8 none 3 40 1 0 1 0,.st true none 4 3 (C (.bool false)) 1 0])
 (.seq (.ops [.bR none 4 40 1 1,.bX true none 40 2 (T 4) 2])
 (.ret))),[.cell 2 40]⟩
def JY:cT:=⟨.seq (.ops [.bL 2 42,.xs [aj 3 (C (.bool false))]])
 (.seq (.ops [.xs [I 13 (T 0),aj 4 (T 13),aj 5 (C (.bool false))]])
 (.seq (.seq (.ops [.xs [I 14 (T 4),bt 15 9 (T 14),bi 16 .gtr 3 (T 15) (ai 8002)]])
 (.cond (T 16) (.seq (.ops [.xs [dF 17 42 []],.bX true none 42 2 (T 17) 2,.xs [aj 3 (C (.bool false))]])
 (.ret))
 (.skip)))
 (.seq (.box 268173360 0 (.seq (.box 66846720 0 (.ops [.xs [I 18 (T 4),bt 19 9 (T 18),bi 20 .gtr 3 (T 19) (ai 0),I 21 (T 20),aJ 21 true (I 22 (T 4)),aJ 21 true (ez 23 9 (T 22) (ai 0)),aJ 21 true ((bi 24 .eql 5 (T 23) (C (.int .u8 45)))),cI 25 (T 21) (T 24) (C (.bool false))]]))
 (.cond (T 25) (.ops [.xs [I 26 (T 4),gj 27 9 (T 26) (some (ai 1)) none none,aj 4 (T 27),aj 5 (C (.bool true))]])
 (.skip))))
 (.seq (.ops [.xs [I 28 (T 4),bt 29 9 (T 28),aj 6 (T 29)]])
 (.seq (.seq (.ops [.xs [I 30 (T 4),bt 31 9 (T 30),bi 32 .sub 3 (T 31) (ai 1),aj 7 (T 32)]])
 (.block 0 (.loop 4389456576704 0 (.seq (.seq (.ops [.xs [I 33 (T 7),bi 34 .geq 3 (T 33) (ai 0)]])
 (.cond (T 34) (.skip)
 (.exit 0)))
 (.seq (.box 4260607557696 0 (.block 1 (.seq (.ops [.xs [I 37 (T 4),I 38 (T 7),ez 39 9 (T 37) (T 38),bi 40 .eql 5 (T 39) (C (.int .u8 47))]])
 (.cond (T 40) (.ops [.xs [I 41 (T 7),aj 6 (T 41)]])
 (.skip)))))
 (.ops [.xs [I 35 (T 7),bi 36 .sub 3 (T 35) (ai 1),aj 7 (T 36)]]))))))
 (.seq (.ops [.xs [I 43 (T 4),I 44 (T 6),gj 45 9 (T 43) none (some (T 44)) none,aV 46 80 [T 45],I 42 (T 46),ex 47 (T 42) 0,ex 48 (T 42) 1],
  .bL 8 40,.bX true none 40 8 (T 47) 8,.xs [aj 9 (T 48)]])
 (.seq (.ops [.xs [aV 49 46 [ai 1]],.bL 10 40,.bX true none 40 10 (T 49) 10])
 (.seq (.box 1208925818488729267869704 3076 (.seq (.ops [.xs [I 50 (T 6),I 51 (T 4),bt 52 9 (T 51),bi 53 .lss 3 (T 50) (T 52)]])
 (.cond (T 53) (.seq (.ops [.xs [I 55 (T 4),I 56 (T 6),bi 57 .add 3 (T 56) (ai 1),gj 58 9 (T 55) (some (T 57)) none none,aV 59 80 [T 58],I 54 (T 59),ex 60 (T 54) 0,ex 61 (T 54) 1],
  .bL 11 40,.bX true none 40 11 (T 60) 11,.xs [aj 12 (T 61)]])
 (.seq (.seq (.box 302226843217638866288640 0 (.ops [.xs [I 62 (T 12),un 63 .not (T 62),I 64 (T 63)],.bR (some (64,false)) 65 40 11 11,
  .xs [aJ 64 false (bk (aV 66 46 [ai 2])),aJ 64 false (aV 67 44 [T 65,T 66]),aJ 64 false (bi 68 .lss 3 (T 67) (ai 0)),cI 69 (T 64) (C (.bool true)) (T 68),I 70 (T 69)],
  .bR (some (70,false)) 71 40 8 8,.bR (some (70,false)) 72 40 11 11,
  .xs [aJ 70 false (aV 73 69 [T 71,T 72]),aJ 70 false (aV 74 46 [ai 1]),aJ 70 false (aV 75 44 [T 73,T 74]),aJ 70 false (bi 76 .neq 3 (T 75) (ai 0)),cI 77 (T 70) (C (.bool true)) (T 76)]]))
 (.cond (T 77) (.seq (.ops [.xs [dF 78 42 []],.bX true none 42 2 (T 78) 2,.xs [aj 3 (C (.bool false))]])
 (.ret))
 (.skip)))
 (.ops [.bR none 79 40 11 11,.bX true none 40 10 (T 79) 10])))
 (.skip))))
 (.seq (.seq (.box 2474671152751145920623542272 0 (.ops [.xs [I 80 (T 9),un 81 .not (T 80),I 82 (T 81),aJ 82 false (I 83 (T 5)),aJ 82 false (I 84 (T 83))],.a8 (some (84,true)) 85 40 8 1 8 1,
  .aB (some (84,true)) 86 34 85 8 1,
  .xs [aJ 84 true (bt 87 34 (T 86)),aJ 84 true (bi 88 .eql 3 (T 87) (ai 0)),aJ 82 false ((cI 89 (T 84) (T 88) (C (.bool false)))),cI 90 (T 82) (C (.bool true)) (T 89)]]))
 (.cond (T 90) (.seq (.ops [.xs [dF 91 42 []],.bX true none 42 2 (T 91) 2,.xs [aj 3 (C (.bool false))]])
 (.ret))
 (.skip)))
 (.seq (.box 34662321099990647697175478272 256 (.seq (.ops [.xs [I 92 (T 5)]])
 (.cond (T 92) (.ops [.bR none 93 40 8 8,.xs [aV 94 81 [T 93]],.bX true none 40 8 (T 94) 8])
 (.skip))))
 (.seq (.ops [.bR none 95 40 8 8,.bR none 96 40 10 10,.xs [dF 97 42 [(0,T 95),(1,T 96)]],.bX true none 42 2 (T 97) 2,.xs [aj 3 (C (.bool true))]])
 (.ret)))))))))))),[.cell 2 42,.tmp 3]⟩
def Kc:cT:=⟨.seq (.ops [.xs [aj 4 (ai 0)]])
 (.seq (.ops [.xs [I 5 (T 0),I 6 (T 1),bi 7 .rem 3 (T 5) (T 6),I 8 (T 1),bi 9 .add 3 (T 7) (T 8),I 10 (T 1),bi 11 .rem 3 (T 9) (T 10),aj 4 (T 11)]])
 (.ret)),[.tmp 4]⟩
def JN:cT:=⟨.seq (.ops [.cE 2 40 (T 0),.cE 3 40 (T 1),.bL 4 40])
 (.seq (.seq (.ops [.a8 none 5 40 2 0 2 0,.aB none 6 4 5 2 0,.a8 none 7 40 3 0 3 0,.aB none 8 4 7 3 0,.xs [bi 9 .eql 4 (T 6) (T 8)]])
 (.cond (T 9) (.seq (.ops [.a8 none 10 40 2 0 2 0,.aB none 11 4 10 2 0,.a8 none 12 40 2 1 2 1,.aB none 13 34 12 2 1,.a8 none 14 40 3 1 3 1,.aB none 15 34 14 3 1,
  .xs [bk (aV 16 82 [T 13,T 15]),dF 17 40 [(0,T 11),(1,T 16)],aV 18 72 [T 17]],.bX true none 40 4 (T 18) 4])
 (.ret))
 (.skip)))
 (.seq (.seq (.ops [.a8 none 19 40 2 1 2 1,.aB none 20 34 19 2 1,.a8 none 21 40 3 1 3 1,.aB none 22 34 21 3 1,
  .xs [aV 23 83 [T 20,T 22],bi 24 .geq 3 (T 23) (ai 0)]])
 (.cond (T 24) (.seq (.ops [.a8 none 25 40 2 0 2 0,.aB none 26 4 25 2 0,.a8 none 27 40 2 1 2 1,.aB none 28 34 27 2 1,.a8 none 29 40 3 1 3 1,.aB none 30 34 29 3 1,
  .xs [bk (aV 31 84 [T 28,T 30]),dF 32 40 [(0,T 26),(1,T 31)],aV 33 72 [T 32]],.bX true none 40 4 (T 33) 4])
 (.ret))
 (.skip)))
 (.seq (.ops [.a8 none 34 40 3 0 3 0,.aB none 35 4 34 3 0,.a8 none 36 40 3 1 3 1,.aB none 37 34 36 3 1,.a8 none 38 40 2 1 2 1,.aB none 39 34 38 2 1,
  .xs [bk (aV 40 84 [T 37,T 39]),dF 41 40 [(0,T 35),(1,T 40)],aV 42 72 [T 41]],.bX true none 40 4 (T 42) 4])
 (.ret)))),[.cell 4 40]⟩
def KE:cT:=⟨.seq (.ops [.xs [aj 2 (C (.bool false))]])
 (.seq (.seq (.box 262080 0 (.ops [.xs [I 6 (T 0),aV 7 31 [T 6],un 8 .not (T 7),I 9 (T 8),aJ 9 false (I 10 (T 0)),aJ 9 false (bt 11 22 (T 10)),aJ 9 false (I 12 (T 0)),aJ 9 false (bb 13 22 (T 12) (ai 0)),aJ 9 false (aB 14 34 (T 13)),aJ 9 false (bt 15 34 (T 14)),aJ 9 false (bi 16 .neq 3 (T 11) (T 15)),cI 17 (T 9) (C (.bool true)) (T 16)]]))
 (.cond (T 17) (.seq (.ops [.xs [aj 2 (C (.bool false))]])
 (.ret))
 (.skip)))
 (.seq (.ops [.xs [I 18 (T 0),aV 19 32 [T 18]],.bL 3 74,.bX true none 74 3 (T 19) 3])
 (.seq (.ops [.bR none 20 74 3 3,.xs [aV 21 34 [T 20]],.bL 4 74,.bX true none 74 4 (T 21) 4])
 (.seq (.seq (.ops [.xs [I 22 (T 0),bt 23 22 (T 22),I 24 (ai 0)]])
 (.block 0 (.loop 17592169267236 0 (.seq (.ops [.xs [bi 25 .lss 3 (T 24) (T 23)]])
 (.seq (.cond (T 25) (.skip)
 (.exit 0))
 (.seq (.block 1 (.seq (.ops [.xs [I 26 (T 24),aj 5 (T 26)]])
 (.seq (.box 8795958804480 0 (.ops [.bR none 27 74 3 3,.xs [I 28 (T 5),bk (aV 29 65 [T 27,T 28])],.bR none 30 74 3 3,
  .xs [aV 31 65 [T 30,ai 0],aV 32 35 [T 29,T 31],bi 33 .neq 3 (T 32) (ai 0),I 34 (T 33)],.bR (some (34,false)) 35 74 4 4,
  .xs [aJ 34 false (I 36 (T 5)),aJ 34 false (bk (aV 37 65 [T 35,T 36]))],.bR (some (34,false)) 38 74 3 3,
  .xs [aJ 34 false (aV 39 65 [T 38,ai 0]),aJ 34 false (aV 40 35 [T 37,T 39]),aJ 34 false (bi 41 .neq 3 (T 40) (ai 0)),cI 42 (T 34) (C (.bool true)) (T 41)]]))
 (.cond (T 42) (.seq (.ops [.xs [aj 2 (C (.bool false))]])
 (.ret))
 (.skip)))))
 (.ops [.xs [bi 43 .add 3 (T 24) (ai 1),I 24 (T 43)]])))))))
 (.seq (.ops [.xs [aj 2 (C (.bool true))]])
 (.ret)))))),[.tmp 2]⟩
def KH:cT:=⟨.seq (.ops [.cE 1 74 (T 0),.xs [aj 2 (C (.slice none 0 0))]])
 (.seq (.ops [.xs [aj 3 (C (.slice none 0 0))]])
 (.seq (.seq (.ops [.a8 none 17 74 1 0 1 0,.aB none 18 72 17 1 0,.xs [bt 19 72 (T 18),I 20 (ai 0)]])
 (.block 0 (.loop 1072693288 0 (.seq (.ops [.xs [bi 21 .lss 3 (T 20) (T 19)]])
 (.seq (.cond (T 21) (.skip)
 (.exit 0))
 (.seq (.block 1 (.seq (.ops [.xs [bb 22 72 (T 18) (T 20),aB 23 120 (T 22),aj 5 (T 23)]])
 (.ops [.xs [I 24 (T 3),I 25 (T 5),aV 26 85 [T 25],eC 27 72 1 [(0,T 26)],ap 28 72 72 (T 24) (T 27),aj 3 (T 28)]])))
 (.ops [.xs [bi 29 .add 3 (T 20) (ai 1),I 20 (T 29)]])))))))
 (.seq (.ops [.xs [I 30 (T 3),dF 31 74 [(0,T 30)]],.bL 6 74,.bX true none 74 6 (T 31) 6])
 (.seq (.ops [.xs [aj 7 (C (.slice none 0 0))]])
 (.seq (.block 2 (.loop 10889035741470030830827987437812287930240 18432 (.seq (.seq (.ops [.bR none 32 74 6 6,.xs [aV 33 65 [T 32,ai 0],aV 34 75 [T 33],bi 35 .gtr 3 (T 34) (ai 0)]])
 (.cond (T 35) (.skip)
 (.exit 2)))
 (.block 3 (.seq (.ops [.bR none 36 74 6 6,.xs [bk (eC 37 34 1 [(0,ai (-1))])],.bR none 38 74 6 6,
  .xs [bk (aV 39 49 [T 38]),bk (aV 40 60 [T 37,T 39]),dF 41 140 [(0,T 36),(1,T 40)],cE 42 140 (T 41),aj 8 (T 42)]])
 (.seq (.ops [.xs [I 43 (T 8),w8 44 (.func 86) #[T 43] #[],aj 9 (T 44)]])
 (.seq (.seq (.ops [.bR none 45 74 6 6,.xs [aV 46 48 [T 45],I 47 (ai 0)]])
 (.block 4 (.loop 1152780767118492672 0 (.seq (.ops [.xs [bi 48 .lss 3 (T 47) (T 46)]])
 (.seq (.cond (T 48) (.skip)
 (.exit 4))
 (.seq (.block 5 (.seq (.ops [.xs [I 49 (T 47),aj 10 (T 49)]])
 (.seq (.ops [.xs [I 50 (T 8)],.bR none 51 74 6 6,
  .xs [aV 52 49 [T 51],ms 53 115 (T 52) (T 52),jF 54 (T 50),a8 55 140 (T 54) 2,st 115 (T 55) (T 53)]])
 (.ops [.xs [I 56 (T 9),I 57 (T 10),oN 58 (T 56) [T 57]]]))))
 (.ops [.xs [bi 59 .add 3 (T 47) (ai 1),I 47 (T 59)]])))))))
 (.seq (.ops [.a8 none 60 74 6 0 6 0,.aB none 61 72 60 6 0,
  .xs [I 62 (T 8),jF 63 (T 62),a8 64 140 (T 63) 1,aB 65 34 (T 64),bb 66 34 (T 65) (ai 0),aB 67 3 (T 66),bb 68 72 (T 61) (T 67),aB 69 120 (T 68),bb 70 120 (T 69) (ai 0),aB 71 80 (T 70)],
  .bL 11 80,.bX true none 80 11 (T 71) 11])
 (.seq (.seq (.ops [.xs [I 72 (T 8),jF 73 (T 72),a8 74 140 (T 73) 1,aB 75 34 (T 74),bt 76 34 (T 75),I 77 (ai 0)]])
 (.block 6 (.loop 79228011398536885764897140736 18432 (.seq (.ops [.xs [bi 78 .lss 3 (T 77) (T 76)]])
 (.seq (.cond (T 78) (.skip)
 (.exit 6))
 (.seq (.box 39613476794222361482184650752 18432 (.block 7 (.seq (.ops [.xs [I 79 (T 77),bb 80 34 (T 75) (T 77),aB 81 3 (T 80),aj 12 (T 79),aj 13 (T 81)]])
 (.seq (.ops [.a8 none 82 74 6 0 6 0,.aB none 83 72 82 6 0,
  .xs [I 84 (T 13),bb 85 72 (T 83) (T 84),aB 86 120 (T 85),I 87 (T 12),bb 88 120 (T 86) (T 87),aB 89 80 (T 88)],.bL 14 80,
  .bX true none 80 14 (T 89) 14])
 (.seq (.ops [.bR none 90 80 14 14,.bR none 91 80 11 11,.xs [aV 92 35 [T 90,T 91],bi 93 .lss 3 (T 92) (ai 0)]])
 (.cond (T 93) (.ops [.bR none 94 80 14 14,.bX true none 80 11 (T 94) 11])
 (.skip)))))))
 (.ops [.xs [bi 95 .add 3 (T 77) (ai 1),I 77 (T 95)]])))))))
 (.seq (.seq (.ops [.xs [I 96 (T 8),jF 97 (T 96),a8 98 140 (T 97) 1,aB 99 34 (T 98),bt 100 34 (T 99),I 101 (ai 0)]])
 (.block 8 (.loop 21267645397257453510002109971079200768 0 (.seq (.ops [.xs [bi 102 .lss 3 (T 101) (T 100)]])
 (.seq (.cond (T 102) (.skip)
 (.exit 8))
 (.seq (.block 9 (.seq (.ops [.xs [I 103 (T 101),bb 104 34 (T 99) (T 101),aB 105 3 (T 104),aj 15 (T 103),aj 16 (T 105)]])
 (.ops [.a8 none 106 74 6 0 6 0,.aB none 107 72 106 6 0,.xs [I 108 (T 16),bb 109 72 (T 107) (T 108),aB 110 120 (T 109),I 111 (T 15)],
  .a8 none 112 74 6 0 6 0,.aB none 113 72 112 6 0,
  .xs [I 114 (T 16),bb 115 72 (T 113) (T 114),aB 116 120 (T 115),I 117 (T 15),bb 118 120 (T 116) (T 117),aB 119 80 (T 118)],
  .bR none 120 80 11 11,.xs [bk (aV 121 87 [T 119,T 120]),bb 122 120 (T 110) (T 111),st 80 (T 122) (T 121)]])))
 (.ops [.xs [bi 123 .add 3 (T 101) (ai 1),I 101 (T 123)]])))))))
 (.ops [.xs [I 124 (T 7)],.bR none 125 80 11 11,
  .xs [I 126 (T 8),jF 127 (T 126),a8 128 140 (T 127) 1,aB 129 34 (T 128),dF 130 113 [(0,T 125),(1,T 129)],eC 131 110 1 [(0,T 130)],ap 132 110 110 (T 124) (T 131),aj 7 (T 132)]])))))))))))
 (.seq (.ops [.xs [I 133 (T 7),aj 2 (T 133)]])
 (.ret))))))),[.tmp 2]⟩
def KS:cT:=⟨.seq (.ops [.xs [aj 4 (C (.slice none 0 0))]])
 (.seq (.box 3584 0 (.seq (.ops [.xs [I 9 (T 1),bi 10 .lss 3 (T 9) (ai 0)]])
 (.cond (T 10) (.ops [.xs [nA 11 9 (C (.string {data:= #[99,97,110,110,111,116,32,98,101,32,110,101,103,97,116,105,118,101]})),(⟨true,none,none,.panic (T 11)⟩)]])
 (.skip))))
 (.seq (.ops [.xs [I 13 (T 0),bt 14 34 (T 13),cm 15 3 142 (T 14),I 16 (T 1),cm 17 3 142 (T 16),aV 18 89 [T 15,T 17],I 12 (T 18),ex 19 (T 12) 0,ex 20 (T 12) 1,aj 5 (T 19),aj 6 (T 20)]])
 (.seq (.box 266338304 0 (.seq (.box 132120576 0 (.ops [.xs [I 21 (T 5),bi 22 .gtr 142 (T 21) (C (.int .u64 0)),I 23 (T 22),aJ 23 false (I 24 (T 6)),aJ 23 false ((bi 25 .gtr 142 (T 24) (C (.int .u64 9223372036854775807)))),cI 26 (T 23) (C (.bool true)) (T 25)]]))
 (.cond (T 26) (.ops [.xs [nA 27 9 (C (.string {data:= #[116,104,101,32,114,101,115,117,108,116,32,111,102,32,40,108,101,110,40,120,41,32,42,32,99,111,117,110,116,41,32,111,118,101,114,102,108,111,119,115]})),(⟨true,none,none,.panic (T 27)⟩)]])
 (.skip))))
 (.seq (.ops [.xs [I 28 (T 6),cm 29 142 3 (T 28),ms 30 34 (T 29) (T 29),aj 7 (T 30)]])
 (.seq (.ops [.xs [I 31 (T 7),I 32 (T 0),cp 33 34 34 (T 31) (T 32),aj 8 (T 33)]])
 (.seq (.block 0 (.loop 140720308486400 0 (.seq (.seq (.ops [.xs [I 34 (T 8),I 35 (T 7),bt 36 34 (T 35),bi 37 .lss 3 (T 34) (T 36)]])
 (.cond (T 37) (.skip)
 (.exit 0)))
 (.block 1 (.ops [.xs [I 38 (T 8),I 39 (T 7),I 40 (T 8),bk (gj 41 34 (T 39) (some (T 40)) none none),I 42 (T 7),I 43 (T 8),bk (gj 44 34 (T 42) none (some (T 43)) none),cp 45 34 34 (T 41) (T 44),bi 46 .add 3 (T 38) (T 45),aj 8 (T 46)]])))))
 (.seq (.ops [.xs [I 47 (T 7),aj 4 (T 47)]])
 (.ret)))))))),[.tmp 4]⟩
def KI:cT:=⟨.seq (.ops [.cE 2 74 (T 0),.bL 4 80])
 (.seq (.ops [.xs [aV 8 59 [ai 0]],.bL 5 80,.bX true none 80 5 (T 8) 5])
 (.seq (.seq (.ops [.a8 none 9 74 2 0 2 0,.aB none 10 72 9 2 0,.xs [I 11 (T 1),bb 12 72 (T 10) (T 11),aB 13 120 (T 12),bt 14 120 (T 13),I 15 (ai 0)]])
 (.block 0 (.loop 8355968 160 (.seq (.ops [.xs [bi 16 .lss 3 (T 15) (T 14)]])
 (.seq (.cond (T 16) (.skip)
 (.exit 0))
 (.seq (.block 1 (.seq (.ops [.xs [bb 17 120 (T 13) (T 15),aB 18 80 (T 17)],.bL 7 80,.bX true none 80 7 (T 18) 7])
 (.ops [.bR none 19 80 5 5,.bR none 20 80 7 7,.xs [aV 21 77 [T 19,T 20]],.bX true none 80 5 (T 21) 5])))
 (.ops [.xs [bi 22 .add 3 (T 15) (ai 1),I 15 (T 22)]])))))))
 (.seq (.ops [.bR none 23 80 5 5,.bX true none 80 4 (T 23) 4])
 (.ret)))),[.cell 4 80]⟩
def KM:cT:=⟨.seq (.ops [.cE 1 74 (T 0),.bL 2 74])
 (.seq (.ops [.bR none 14 74 1 1,.xs [bk (aV 15 48 [T 14])],.bR none 16 74 1 1,.xs [aV 17 49 [T 16],aj 3 (T 15),aj 4 (T 17)]])
 (.seq (.ops [.bR none 18 74 1 1,.xs [aV 19 34 [T 18]],.bL 5 74,.bX true none 74 5 (T 19) 5])
 (.seq (.ops [.bR none 21 74 1 1,.xs [aV 22 33 [T 21],I 20 (T 22),ex 23 (T 20) 0,ex 24 (T 20) 1],.bL 6 80,.bX true none 80 6 (T 23) 6,
  .xs [aj 7 (T 24)]])
 (.seq (.box 34326184704 320 (.seq (.ops [.bR none 26 74 5 5,.xs [aV 27 33 [T 26],I 25 (T 27),ex 28 (T 25) 0,ex 29 (T 25) 1],.bL 8 80,.bX true none 80 8 (T 28) 8,
  .xs [aj 9 (T 29)]])
 (.seq (.ops [.bR none 30 80 8 8,.bR none 31 80 6 6,.xs [aV 32 35 [T 30,T 31],bi 33 .gtr 3 (T 32) (ai 0)]])
 (.cond (T 33) (.ops [.bR none 34 80 8 8,.bX true none 80 6 (T 34) 6])
 (.skip)))))
 (.seq (.ops [.xs [I 35 (T 3),I 36 (T 4),bi 37 .add 3 (T 35) (T 36),ms 38 72 (T 37) (T 37),aj 10 (T 38)]])
 (.seq (.seq (.ops [.xs [I 39 (T 10),bt 40 72 (T 39),I 41 (ai 0)]])
 (.block 0 (.loop 18012199486228480 0 (.seq (.ops [.xs [bi 42 .lss 3 (T 41) (T 40)]])
 (.seq (.cond (T 42) (.skip)
 (.exit 0))
 (.seq (.block 1 (.seq (.ops [.xs [I 43 (T 41),aj 11 (T 43)]])
 (.ops [.xs [I 44 (T 10),I 45 (T 11),aV 46 59 [ai 0],eC 47 120 1 [(0,T 46)],I 48 (T 3),I 49 (T 4),bi 50 .add 3 (T 48) (T 49),aV 51 96 [T 47,T 50],bb 52 72 (T 44) (T 45),st 120 (T 52) (T 51)]])))
 (.ops [.xs [bi 53 .add 3 (T 41) (ai 1),I 41 (T 53)]])))))))
 (.seq (.seq (.ops [.xs [I 54 (T 3),I 55 (ai 0)]])
 (.block 2 (.loop 4835703242429719679864832 0 (.seq (.ops [.xs [bi 56 .lss 3 (T 55) (T 54)]])
 (.seq (.cond (T 56) (.skip)
 (.exit 2))
 (.seq (.block 3 (.seq (.ops [.xs [I 57 (T 55),aj 12 (T 57)]])
 (.seq (.ops [.xs [I 58 (T 10),I 59 (T 12),bb 60 72 (T 58) (T 59),aB 61 120 (T 60)],.a8 none 62 74 1 0 1 0,.aB none 63 72 62 1 0,
  .xs [I 64 (T 12),bb 65 72 (T 63) (T 64),aB 66 120 (T 65),cp 67 120 120 (T 61) (T 66)]])
 (.ops [.xs [I 68 (T 10),I 69 (T 12),bb 70 72 (T 68) (T 69),aB 71 120 (T 70),I 72 (T 4),I 73 (T 12),bi 74 .add 3 (T 72) (T 73)],
  .bR none 75 80 6 6,.bR none 76 74 1 1,
  .xs [I 77 (T 12),bk (aV 78 65 [T 76,T 77]),bk (aV 79 87 [T 75,T 78]),bb 80 120 (T 71) (T 74),st 80 (T 80) (T 79)]]))))
 (.ops [.xs [bi 81 .add 3 (T 55) (ai 1),I 55 (T 81)]])))))))
 (.seq (.seq (.ops [.xs [I 82 (T 4),I 83 (ai 0)]])
 (.block 4 (.loop 20769187424467903957204951919239168 0 (.seq (.ops [.xs [bi 84 .lss 3 (T 83) (T 82)]])
 (.seq (.cond (T 84) (.skip)
 (.exit 4))
 (.seq (.block 5 (.seq (.ops [.xs [I 85 (T 83),aj 13 (T 85)]])
 (.seq (.ops [.xs [I 86 (T 10),I 87 (T 3),I 88 (T 13),bi 89 .add 3 (T 87) (T 88),bb 90 72 (T 86) (T 89),aB 91 120 (T 90),I 92 (T 4),bk (gj 93 120 (T 91) (some (T 92)) none none)],
  .a8 none 94 74 5 0 5 0,.aB none 95 72 94 5 0,.xs [I 96 (T 13),bb 97 72 (T 95) (T 96),aB 98 120 (T 97),cp 99 120 120 (T 93) (T 98)]])
 (.ops [.xs [I 100 (T 10),I 101 (T 3),I 102 (T 13),bi 103 .add 3 (T 101) (T 102),bb 104 72 (T 100) (T 103),aB 105 120 (T 104),I 106 (T 13)],
  .bR none 107 80 6 6,.bR none 108 74 5 5,
  .xs [I 109 (T 13),bk (aV 110 65 [T 108,T 109]),bk (aV 111 87 [T 107,T 110]),bb 112 120 (T 105) (T 106),st 80 (T 112) (T 111)]]))))
 (.ops [.xs [bi 113 .add 3 (T 83) (ai 1),I 83 (T 113)]])))))))
 (.seq (.ops [.xs [I 114 (T 10),dF 115 74 [(0,T 114)]],.bX true none 74 2 (T 115) 2])
 (.ret)))))))))),[.cell 2 74]⟩
def JS:cT:=⟨.seq (.ops [.cE 2 40 (T 0),.cE 3 40 (T 1),.bL 4 40])
 (.seq (.ops [.bR none 7 40 2 2,.xs [bk (aV 8 53 [T 7])],.bR none 9 40 3 3,.xs [aV 10 53 [T 9]],.bX true none 40 2 (T 8) 2,.bX true none 40 3 (T 10) 3])
 (.seq (.block 0 (.loop 8386656 108 (.seq (.seq (.ops [.a8 none 11 40 3 1 3 1,.aB none 12 34 11 3 1,.xs [bt 13 34 (T 12),bi 14 .gtr 3 (T 13) (ai 0)]])
 (.cond (T 14) (.skip)
 (.exit 0)))
 (.block 1 (.seq (.ops [.bR none 16 40 2 2,.bR none 17 40 3 3,.xs [aV 18 70 [T 16,T 17],I 15 (T 18),ex 19 (T 15) 0,ex 20 (T 15) 1],.bL 5 40,.bL 6 40,
  .bX true none 40 5 (T 19) 5,.bX true none 40 6 (T 20) 6])
 (.opsL [.bR none 21 40 3 3,.bR none 22 40 6 6,.bX false none 40 2 (T 21) 2,.bX true none 40 3 (T 22) 3]))))))
 (.seq (.ops [.bR none 23 40 2 2,.bX true none 40 4 (T 23) 4])
 (.ret)))),[.cell 4 40]⟩
def JR:cT:=⟨.seq (.ops [.cE 2 40 (T 0),.cE 3 40 (T 1),.bL 4 40,.bL 5 40])
 (.seq (.ops [.a8 none 14 40 2 1 2 1,.aB none 15 34 14 2 1,.xs [bt 16 34 (T 15),ms 17 34 (T 16) (T 16),eC 18 34 0 [],aj 6 (T 17),aj 7 (T 18)]])
 (.seq (.seq (.ops [.a8 none 19 40 2 1 2 1,.aB none 20 34 19 2 1,.xs [bt 21 34 (T 20),bi 22 .sub 3 (T 21) (ai 1),aj 8 (T 22)]])
 (.block 0 (.loop 295147905179344441216 0 (.seq (.seq (.ops [.xs [I 23 (T 8),bi 24 .geq 3 (T 23) (ai 0)]])
 (.cond (T 24) (.skip)
 (.exit 0)))
 (.seq (.block 1 (.seq (.ops [.a8 none 27 40 2 1 2 1,.aB none 28 34 27 2 1,
  .xs [I 29 (T 8),bb 30 34 (T 28) (T 29),aB 31 3 (T 30),eC 32 34 1 [(0,T 31)],I 33 (T 7),ap 34 34 34 (T 32) (T 33),dF 35 40 [(1,T 34)],aV 36 72 [T 35],oQ 37 40 (T 36) 1,aj 7 (T 37)]])
 (.seq (.ops [.xs [aj 9 (ai 0),aj 10 (ai 10000)]])
 (.seq (.block 2 (.loop 36028522141060608 0 (.seq (.seq (.ops [.xs [I 38 (T 10),I 39 (T 9),bi 40 .sub 3 (T 38) (T 39),bi 41 .gtr 3 (T 40) (ai 1)]])
 (.cond (T 41) (.skip)
 (.exit 2)))
 (.block 3 (.seq (.ops [.xs [I 42 (T 9),I 43 (T 10),bi 44 .add 3 (T 42) (T 43),bi 45 .quo 3 (T 44) (ai 2),aj 11 (T 45)]])
 (.seq (.ops [.a8 none 46 40 3 1 3 1,.aB none 47 34 46 3 1,
  .xs [I 48 (T 11),aV 49 97 [T 47,T 48],I 50 (T 7),aV 51 83 [T 49,T 50],bi 52 .leq 3 (T 51) (ai 0)]])
 (.cond (T 52) (.ops [.xs [I 53 (T 11),aj 9 (T 53)]])
 (.ops [.xs [I 54 (T 11),aj 10 (T 54)]]))))))))
 (.seq (.ops [.xs [I 55 (T 6),I 56 (T 8),I 57 (T 9),bb 58 34 (T 55) (T 56),st 3 (T 58) (T 57)]])
 (.ops [.xs [I 59 (T 7)],.a8 none 60 40 3 1 3 1,.aB none 61 34 60 3 1,
  .xs [I 62 (T 9),aV 63 97 [T 61,T 62],aV 64 84 [T 59,T 63],dF 65 40 [(1,T 64)],aV 66 72 [T 65],oQ 67 40 (T 66) 1,aj 7 (T 67)]]))))))
 (.ops [.xs [I 25 (T 8),bi 26 .sub 3 (T 25) (ai 1),aj 8 (T 26)]]))))))
 (.seq (.ops [.a8 none 68 40 2 0 2 0,.aB none 69 4 68 2 0,
  .xs [I 70 (T 6),dF 71 40 [(0,T 69),(1,T 70)],aV 72 72 [T 71],I 73 (T 7),dF 74 40 [(1,T 73)],aV 75 72 [T 74]],.bL 12 40,
  .bL 13 40,.bX true none 40 12 (T 72) 12,.bX true none 40 13 (T 75) 13])
 (.seq (.seq (.box 19267255250108152471879680 0 (.ops [.a8 none 76 40 2 0 2 0,.aB none 77 4 76 2 0,.xs [I 78 (T 77)],.a8 (some (78,true)) 79 40 13 1 13 1,.aB (some (78,true)) 80 34 79 13 1,
  .xs [aJ 78 true (bt 81 34 (T 80)),aJ 78 true (bi 82 .gtr 3 (T 81) (ai 0)),cI 83 (T 78) (T 82) (C (.bool false))]]))
 (.cond (T 83) (.seq (.ops [.bR none 84 40 12 12,.xs [bk (aV 85 46 [ai 1]),bk (aV 86 71 [T 84,T 85])],.bR none 87 40 3 3,.bR none 88 40 13 13,
  .xs [aV 89 71 [T 87,T 88]],.bX true none 40 4 (T 86) 4,.bX true none 40 5 (T 89) 5])
 (.ret))
 (.skip)))
 (.seq (.opsL [.bR none 90 40 12 12,.bR none 91 40 13 13,.bX false none 40 4 (T 90) 4,.bX true none 40 5 (T 91) 5])
 (.ret)))))),[.cell 4 40,.cell 5 40]⟩
def J0:cT:=⟨.seq (.ops [.cE 2 40 (T 0),.cE 3 40 (T 1),.bL 4 40])
 (.seq (.ops [.bR none 5 40 2 2,.bR none 6 40 3 3,.xs [bk (aV 7 81 [T 6]),aV 8 56 [T 5,T 7]],.bX true none 40 4 (T 8) 4])
 (.ret)),[.cell 4 40]⟩
def J3:cT:=⟨.seq (.ops [.cE 1 40 (T 0),.bL 2 40])
 (.seq (.ops [.a8 none 4 40 1 1 1 1,.aB none 5 34 4 1 1,.xs [bt 6 34 (T 5),aj 3 (T 6)]])
 (.seq (.block 0 (.loop 1048456 0 (.seq (.seq (.box 262016 0 (.ops [.xs [I 7 (T 3),bi 8 .gtr 3 (T 7) (ai 0),I 9 (T 8)],.a8 (some (9,true)) 10 40 1 1 1 1,.aB (some (9,true)) 11 34 10 1 1,
  .xs [aJ 9 true (I 12 (T 3)),aJ 9 true (bi 13 .sub 3 (T 12) (ai 1)),aJ 9 true (bb 14 34 (T 11) (T 13)),aJ 9 true (aB 15 3 (T 14)),aJ 9 true (bi 16 .eql 3 (T 15) (ai 0)),cI 17 (T 9) (T 16) (C (.bool false))]]))
 (.cond (T 17) (.skip)
 (.exit 0)))
 (.block 1 (.ops [.xs [I 18 (T 3),bi 19 .sub 3 (T 18) (ai 1),aj 3 (T 19)]])))))
 (.seq (.ops [.xs [eC 20 34 0 []],.a8 none 21 40 1 1 1 1,.aB none 22 34 21 1 1,
  .xs [I 23 (T 3),gj 24 34 (T 22) none (some (T 23)) none,ap 25 34 34 (T 20) (T 24)],.a8 none 26 40 1 1 1 1,.st true none 34 26 (T 25) 1 1])
 (.seq (.box 17045651456 2 (.ops [.a8 none 27 40 1 0 1 0,.aB none 28 4 27 1 0,
  .xs [I 29 (T 28),aJ 29 true (I 30 (T 3)),aJ 29 true (bi 31 .gtr 3 (T 30) (ai 0)),cI 32 (T 29) (T 31) (C (.bool false))],
  .a8 none 33 40 1 0 1 0,.st true none 4 33 (T 32) 1 0]))
 (.seq (.ops [.bR none 34 40 1 1,.bX true none 40 2 (T 34) 2])
 (.ret)))))),[.cell 2 40]⟩
def KR:cT:=⟨.seq (.ops [.xs [aj 4 (C (.slice none 0 0))]])
 (.seq (.box 3584 0 (.seq (.ops [.xs [I 9 (T 1),bi 10 .lss 3 (T 9) (ai 0)]])
 (.cond (T 10) (.ops [.xs [nA 11 9 (C (.string {data:= #[99,97,110,110,111,116,32,98,101,32,110,101,103,97,116,105,118,101]})),(⟨true,none,none,.panic (T 11)⟩)]])
 (.skip))))
 (.seq (.ops [.xs [I 13 (T 0),bt 14 22 (T 13),cm 15 3 142 (T 14),I 16 (T 1),cm 17 3 142 (T 16),aV 18 89 [T 15,T 17],I 12 (T 18),ex 19 (T 12) 0,ex 20 (T 12) 1,aj 5 (T 19),aj 6 (T 20)]])
 (.seq (.box 266338304 0 (.seq (.box 132120576 0 (.ops [.xs [I 21 (T 5),bi 22 .gtr 142 (T 21) (C (.int .u64 0)),I 23 (T 22),aJ 23 false (I 24 (T 6)),aJ 23 false ((bi 25 .gtr 142 (T 24) (C (.int .u64 9223372036854775807)))),cI 26 (T 23) (C (.bool true)) (T 25)]]))
 (.cond (T 26) (.ops [.xs [nA 27 9 (C (.string {data:= #[116,104,101,32,114,101,115,117,108,116,32,111,102,32,40,108,101,110,40,120,41,32,42,32,99,111,117,110,116,41,32,111,118,101,114,102,108,111,119,115]})),(⟨true,none,none,.panic (T 27)⟩)]])
 (.skip))))
 (.seq (.ops [.xs [I 28 (T 6),cm 29 142 3 (T 28),ms 30 22 (T 29) (T 29),aj 7 (T 30)]])
 (.seq (.ops [.xs [I 31 (T 7),I 32 (T 0),cp 33 22 22 (T 31) (T 32),aj 8 (T 33)]])
 (.seq (.block 0 (.loop 140720308486400 0 (.seq (.seq (.ops [.xs [I 34 (T 8),I 35 (T 7),bt 36 22 (T 35),bi 37 .lss 3 (T 34) (T 36)]])
 (.cond (T 37) (.skip)
 (.exit 0)))
 (.block 1 (.ops [.xs [I 38 (T 8),I 39 (T 7),I 40 (T 8),bk (gj 41 22 (T 39) (some (T 40)) none none),I 42 (T 7),I 43 (T 8),bk (gj 44 22 (T 42) none (some (T 43)) none),cp 45 22 22 (T 41) (T 44),bi 46 .add 3 (T 38) (T 45),aj 8 (T 46)]])))))
 (.seq (.ops [.xs [I 47 (T 7),aj 4 (T 47)]])
 (.ret)))))))),[.tmp 4]⟩
def Ki:cT:=⟨.seq (.ops [.bL 2 80,.xs [aj 3 (C (.bool false))]])
 (.seq (.ops [.xs [I 15 (T 0),aV 16 98 [T 15,C (.string {data:= #[47]})],I 14 (T 16),ex 17 (T 14) 0,ex 18 (T 14) 1,ex 19 (T 14) 2,aj 4 (T 17),aj 5 (T 18),aj 6 (T 19)]])
 (.seq (.ops [.xs [I 21 (T 4),aV 22 99 [T 21,C (.string {data:= #[45]})],I 20 (T 22),ex 23 (T 20) 0,ex 24 (T 20) 1,aj 7 (T 23),aj 8 (T 24)]])
 (.seq (.ops [.xs [I 26 (T 7),aV 27 100 [T 26],I 25 (T 27),ex 28 (T 25) 0,ex 29 (T 25) 1,aj 9 (T 28),aj 10 (T 29)]])
 (.seq (.ops [.xs [eC 30 76 1 [(0,C (.int .u32 1))],aj 11 (T 30),aj 12 (C (.bool true))]])
 (.seq (.box 17590038566912 0 (.seq (.ops [.xs [I 31 (T 6)]])
 (.cond (T 31) (.seq (.ops [.xs [I 33 (T 5),aV 34 100 [T 33],I 32 (T 34),ex 35 (T 32) 0,ex 36 (T 32) 1,aj 11 (T 35),aj 12 (T 36)]])
 (.ops [.xs [I 37 (T 12),I 38 (T 37),aJ 38 true (I 39 (T 11)),aJ 38 true ((eC 40 76 1 [(0,C (.int .u32 1))])),aJ 38 true (aV 41 101 [T 39,T 40]),aJ 38 true (bi 42 .gtr 3 (T 41) (ai 0)),cI 43 (T 38) (T 42) (C (.bool false)),aj 12 (T 43)]]))
 (.skip))))
 (.seq (.seq (.box 288212783965667328 0 (.ops [.xs [I 44 (T 10),un 45 .not (T 44),I 46 (T 45),aJ 46 false (I 47 (T 12)),aJ 46 false (un 48 .not (T 47)),cI 49 (T 46) (C (.bool true)) (T 48),I 50 (T 49),aJ 50 false (I 51 (T 8)),aJ 50 false (I 52 (T 51)),aJ 52 true (I 53 (T 9)),aJ 52 true (bt 54 76 (T 53)),aJ 52 true (bi 55 .eql 3 (T 54) (ai 0)),aJ 50 false ((cI 56 (T 52) (T 55) (C (.bool false)))),cI 57 (T 50) (C (.bool true)) (T 56)]]))
 (.cond (T 57) (.seq (.ops [.xs [dF 58 80 []],.bX true none 80 2 (T 58) 2,.xs [aj 3 (C (.bool false))]])
 (.ret))
 (.skip)))
 (.seq (.ops [.xs [I 59 (T 8),I 60 (T 9),aV 61 92 [T 59,T 60],I 62 (T 11),aV 63 92 [C (.bool false),T 62],dF 64 80 [(0,T 61),(1,T 63)]],
  .bL 13 80,.bX true none 80 13 (T 64) 13])
 (.seq (.box 302194561415509874573320 4 (.ops [.bR none 65 80 13 13,.xs [I 66 (T 6),un 67 .not (T 66),I 68 (T 67)],.a8 (some (68,false)) 69 80 13 0 13 0,
  .aB (some (68,false)) 70 78 69 13 0,.a8 (some (68,false)) 71 80 13 1 13 2,.aB (some (68,false)) 72 78 71 13 2,
  .xs [aJ 68 false (bk (aV 73 102 [T 70,T 72])),aJ 68 false (bk (aV 74 88 [ai 1])),aJ 68 false (bk (aV 75 67 [T 73,T 74])),aJ 68 false (bi 76 .eql 3 (T 75) (ai 0)),cI 77 (T 68) (C (.bool true)) (T 76)],
  .bX true none 80 2 (T 65) 2,.xs [aj 3 (T 77)]]))
 (.ret))))))))),[.cell 2 80,.tmp 3]⟩
def KP:cT:=⟨.seq (.ops [.xs [aj 4 (C (.bool false))]])
 (.seq (.ops [.xs [I 5 (T 0),I 6 (T 1),aV 7 103 [T 5,T 6],bi 8 .geq 3 (T 7) (ai 0),aj 4 (T 8)]])
 (.ret)),[.tmp 4]⟩
def Kj:cT:=⟨.seq (.ops [.cE 2 80 (T 0),.cE 3 80 (T 1),.bL 4 80])
 (.seq (.seq (.box 2016 0 (.ops [.bR none 5 80 2 2,.xs [aV 6 79 [T 5],I 7 (T 6)],.bR (some (7,true)) 8 80 3 3,
  .xs [aJ 7 true (aV 9 79 [T 8]),cI 10 (T 7) (T 9) (C (.bool false))]]))
 (.cond (T 10) (.seq (.ops [.a8 none 11 80 2 0 2 0,.aB none 12 78 11 2 0,.a8 none 13 80 3 0 3 0,.aB none 14 78 13 3 0,.xs [aV 15 105 [T 12,T 14],aV 16 104 [T 15]],
  .bX true none 80 4 (T 16) 4])
 (.ret))
 (.skip)))
 (.seq (.ops [.a8 none 17 80 2 0 2 0,.aB none 18 78 17 2 0,.a8 none 19 80 3 1 3 2,.aB none 20 78 19 3 2,.xs [bk (aV 21 66 [T 18,T 20])],
  .a8 none 22 80 3 0 3 0,.aB none 23 78 22 3 0,.a8 none 24 80 2 1 2 2,.aB none 25 78 24 2 2,
  .xs [bk (aV 26 66 [T 23,T 25]),bk (aV 27 105 [T 21,T 26])],.a8 none 28 80 2 1 2 2,.aB none 29 78 28 2 2,.a8 none 30 80 3 1 3 2,
  .aB none 31 78 30 3 2,.xs [aV 32 66 [T 29,T 31],aV 33 106 [T 27,T 32]],.bX true none 80 4 (T 33) 4])
 (.ret))),[.cell 4 80]⟩
def Kt:cT:=⟨.seq (.ops [.xs [aj 2 (C (.string {data:= #[]}))]])
 (.seq (.seq (.ops [.xs [I 7 (T 0),bt 8 76 (T 7),bi 9 .eql 3 (T 8) (ai 0)]])
 (.cond (T 9) (.seq (.ops [.xs [aj 2 (C (.string {data:= #[48]}))]])
 (.ret))
 (.skip)))
 (.seq (.ops [.xs [aj 3 (C (.slice none 0 0))]])
 (.seq (.block 0 (.loop 2199023254649 0 (.seq (.seq (.ops [.xs [I 10 (T 0),bt 11 76 (T 10),bi 12 .gtr 3 (T 11) (ai 0)]])
 (.cond (T 12) (.skip)
 (.exit 0)))
 (.block 1 (.seq (.ops [.xs [I 14 (T 0),aV 15 107 [T 14,C (.int .u32 1000000000)],I 13 (T 15),ex 16 (T 13) 0,ex 17 (T 13) 1,aj 4 (T 16),aj 5 (T 17)]])
 (.seq (.seq (.ops [.xs [aj 6 (ai 0)]])
 (.block 2 (.loop 1099511365736 0 (.seq (.seq (.box 536608768 0 (.ops [.xs [I 18 (T 6),bi 19 .lss 3 (T 18) (ai 9),I 20 (T 19),aJ 20 true (I 21 (T 4)),aJ 20 true (bt 22 76 (T 21)),aJ 20 true (bi 23 .gtr 3 (T 22) (ai 0)),aJ 20 true (I 24 (T 23)),aJ 24 false (I 25 (T 5)),aJ 24 false ((bi 26 .gtr 124 (T 25) (C (.int .u32 0)))),aJ 20 true ((cI 27 (T 24) (C (.bool true)) (T 26))),cI 28 (T 20) (T 27) (C (.bool false))]]))
 (.cond (T 28) (.skip)
 (.exit 2)))
 (.seq (.block 3 (.seq (.ops [.xs [I 31 (T 3),I 32 (T 5),bi 33 .rem 124 (T 32) (C (.int .u32 10)),bi 34 .add 124 (C (.int .u32 48)) (T 33),cm 35 124 5 (T 34),eC 36 61 1 [(0,T 35)],ap 37 61 61 (T 31) (T 36),aj 3 (T 37)]])
 (.ops [.xs [I 38 (T 5),bi 39 .quo 124 (T 38) (C (.int .u32 10)),aj 5 (T 39)]])))
 (.ops [.xs [I 29 (T 6),bi 30 .add 3 (T 29) (ai 1),aj 6 (T 30)]]))))))
 (.ops [.xs [I 40 (T 4),aj 0 (T 40)]])))))))
 (.seq (.ops [.xs [I 41 (T 3),aV 42 108 [T 41]]])
 (.seq (.ops [.xs [I 43 (T 3),cm 44 61 9 (T 43),aj 2 (T 44)]])
 (.ret)))))),[.tmp 2]⟩
def J2:cT:=⟨.seq (.ops [.bL 2 40,.xs [aj 3 (C (.bool false))]])
 (.seq (.seq (.box 67108608 0 (.ops [.xs [I 8 (T 0),bt 9 9 (T 8),bi 10 .lss 3 (T 9) (ai 1),I 11 (T 10),aJ 11 false (I 12 (T 0)),aJ 11 false (bt 13 9 (T 12)),aJ 11 false (bi 14 .gtr 3 (T 13) (ai 4000)),cI 15 (T 11) (C (.bool true)) (T 14),I 16 (T 15),aJ 16 false (I 17 (T 0)),aJ 16 false (ez 18 9 (T 17) (ai 0)),aJ 16 false ((bi 19 .eql 5 (T 18) (C (.int .u8 48)))),aJ 16 false (I 20 (T 19)),aJ 20 true (I 21 (T 0)),aJ 20 true (bt 22 9 (T 21)),aJ 20 true (bi 23 .gtr 3 (T 22) (ai 1)),aJ 16 false ((cI 24 (T 20) (T 23) (C (.bool false)))),cI 25 (T 16) (C (.bool true)) (T 24)]]))
 (.cond (T 25) (.seq (.ops [.xs [dF 26 40 []],.bX true none 40 2 (T 26) 2,.xs [aj 3 (C (.bool false))]])
 (.ret))
 (.skip)))
 (.seq (.ops [.xs [dF 27 40 []],.bL 4 40,.bX true none 40 4 (T 27) 4])
 (.seq (.seq (.ops [.xs [I 28 (T 0),bt 29 9 (T 28),aj 5 (T 29)]])
 (.block 0 (.loop 147573952588602671336 20 (.seq (.seq (.ops [.xs [I 30 (T 5),bi 31 .gtr 3 (T 30) (ai 0)]])
 (.cond (T 31) (.skip)
 (.exit 0)))
 (.seq (.block 1 (.seq (.ops [.xs [aj 6 (ai 0)]])
 (.seq (.seq (.ops [.xs [I 34 (T 5),bi 35 .sub 3 (T 34) (ai 4),w9 36 [3,3] (ai 0) (T 35),aj 7 (T 36)]])
 (.block 2 (.loop 2305842871774740680 4 (.seq (.seq (.ops [.xs [I 37 (T 7),I 38 (T 5),bi 39 .lss 3 (T 37) (T 38)]])
 (.cond (T 39) (.skip)
 (.exit 2)))
 (.seq (.block 3 (.seq (.seq (.box 4499201580859392 0 (.ops [.xs [I 42 (T 0),I 43 (T 7),ez 44 9 (T 42) (T 43),bi 45 .lss 5 (T 44) (C (.int .u8 48)),I 46 (T 45),aJ 46 false (I 47 (T 0)),aJ 46 false (I 48 (T 7)),aJ 46 false (ez 49 9 (T 47) (T 48)),aJ 46 false ((bi 50 .gtr 5 (T 49) (C (.int .u8 57)))),cI 51 (T 46) (C (.bool true)) (T 50)]]))
 (.cond (T 51) (.seq (.ops [.xs [dF 52 40 []],.bX true none 40 2 (T 52) 2,.xs [aj 3 (C (.bool false))]])
 (.ret))
 (.skip)))
 (.ops [.xs [I 53 (T 6),bi 54 .mul 3 (ai 10) (T 53),I 55 (T 0),I 56 (T 7),ez 57 9 (T 55) (T 56),bi 58 .sub 5 (T 57) (C (.int .u8 48)),cm 59 5 3 (T 58),bi 60 .add 3 (T 54) (T 59),aj 6 (T 60)]])))
 (.ops [.xs [I 40 (T 7),bi 41 .add 3 (T 40) (ai 1),aj 7 (T 41)]]))))))
 (.ops [.a8 none 61 40 4 1 4 1,.aB none 62 34 61 4 1,.xs [I 63 (T 6),eC 64 34 1 [(0,T 63)],ap 65 34 34 (T 62) (T 64)],.a8 none 66 40 4 1 4 1,
  .st true none 34 66 (T 65) 4 1]))))
 (.ops [.xs [I 32 (T 5),bi 33 .sub 3 (T 32) (ai 4),aj 5 (T 33)]]))))))
 (.seq (.ops [.bR none 67 40 4 4,.xs [aV 68 72 [T 67]],.bX true none 40 2 (T 68) 2,.xs [aj 3 (C (.bool true))]])
 (.ret))))),[.cell 2 40,.tmp 3]⟩
def JW:cT:=⟨.seq (.ops [.cE 1 40 (T 0),.bL 2 40])
 (.seq (.box 8184 2 (.ops [.a8 none 3 40 1 0 1 0,.aB none 4 4 3 1 0,.xs [un 5 .not (T 4),I 6 (T 5)],.a8 (some (6,true)) 7 40 1 1 1 1,.aB (some (6,true)) 8 34 7 1 1,
  .xs [aJ 6 true (bt 9 34 (T 8)),aJ 6 true (bi 10 .gtr 3 (T 9) (ai 0)),cI 11 (T 6) (T 10) (C (.bool false))],.a8 none 12 40 1 0 1 0,
  .st true none 4 12 (T 11) 1 0]))
 (.seq (.ops [.bR none 13 40 1 1,.bX true none 40 2 (T 13) 2])
 (.ret))),[.cell 2 40]⟩
def J5:cT:=⟨.seq (.ops [.xs [aj 4 (C (.slice none 0 0))]])
 (.seq (.ops [.xs [eC 9 34 0 [],aj 5 (T 9),aj 6 (ai 0)]])
 (.seq (.seq (.ops [.xs [aj 7 (ai 0)]])
 (.block 0 (.loop 18014398509481440 0 (.seq (.seq (.box 16776192 0 (.ops [.xs [I 10 (T 7),I 11 (T 0),bt 12 34 (T 11),bi 13 .lss 3 (T 10) (T 12),I 14 (T 13),aJ 14 false (I 15 (T 7)),aJ 14 false (I 16 (T 1)),aJ 14 false (bt 17 34 (T 16)),aJ 14 false (bi 18 .lss 3 (T 15) (T 17)),cI 19 (T 14) (C (.bool true)) (T 18),I 20 (T 19),aJ 20 false (I 21 (T 6)),aJ 20 false (bi 22 .gtr 3 (T 21) (ai 0)),cI 23 (T 20) (C (.bool true)) (T 22)]]))
 (.cond (T 23) (.skip)
 (.exit 0)))
 (.seq (.block 1 (.seq (.ops [.xs [I 26 (T 6),aj 8 (T 26)]])
 (.seq (.box 137304736000 0 (.seq (.ops [.xs [I 27 (T 7),I 28 (T 0),bt 29 34 (T 28),bi 30 .lss 3 (T 27) (T 29)]])
 (.cond (T 30) (.ops [.xs [I 31 (T 8),I 32 (T 0),I 33 (T 7),bb 34 34 (T 32) (T 33),aB 35 3 (T 34),bi 36 .add 3 (T 31) (T 35),aj 8 (T 36)]])
 (.skip))))
 (.seq (.box 140600049402112 0 (.seq (.ops [.xs [I 37 (T 7),I 38 (T 1),bt 39 34 (T 38),bi 40 .lss 3 (T 37) (T 39)]])
 (.cond (T 40) (.ops [.xs [I 41 (T 8),I 42 (T 1),I 43 (T 7),bb 44 34 (T 42) (T 43),aB 45 3 (T 44),bi 46 .add 3 (T 41) (T 45),aj 8 (T 46)]])
 (.skip))))
 (.ops [.xs [I 47 (T 5),I 48 (T 8),bi 49 .rem 3 (T 48) (ai 10000),eC 50 34 1 [(0,T 49)],ap 51 34 34 (T 47) (T 50),I 52 (T 8),bi 53 .quo 3 (T 52) (ai 10000),aj 5 (T 51),aj 6 (T 53)]])))))
 (.ops [.xs [I 24 (T 7),bi 25 .add 3 (T 24) (ai 1),aj 7 (T 25)]]))))))
 (.seq (.ops [.xs [I 54 (T 5),aj 4 (T 54)]])
 (.ret)))),[.tmp 4]⟩
def J6:cT:=⟨.seq (.ops [.xs [aj 4 (ai 0)]])
 (.seq (.seq (.ops [.xs [I 6 (T 0),bt 7 34 (T 6),I 8 (T 1),bt 9 34 (T 8),bi 10 .neq 3 (T 7) (T 9)]])
 (.cond (T 10) (.seq (.seq (.ops [.xs [I 11 (T 0),bt 12 34 (T 11),I 13 (T 1),bt 14 34 (T 13),bi 15 .lss 3 (T 12) (T 14)]])
 (.cond (T 15) (.seq (.ops [.xs [aj 4 (ai (-1))]])
 (.ret))
 (.skip)))
 (.seq (.ops [.xs [aj 4 (ai 1)]])
 (.ret)))
 (.skip)))
 (.seq (.seq (.ops [.xs [I 16 (T 0),bt 17 34 (T 16),bi 18 .sub 3 (T 17) (ai 1),aj 5 (T 18)]])
 (.block 0 (.loop 2199022731312 0 (.seq (.seq (.ops [.xs [I 19 (T 5),bi 20 .geq 3 (T 19) (ai 0)]])
 (.cond (T 20) (.skip)
 (.exit 0)))
 (.seq (.block 1 (.seq (.seq (.ops [.xs [I 23 (T 0),I 24 (T 5),bb 25 34 (T 23) (T 24),aB 26 3 (T 25),I 27 (T 1),I 28 (T 5),bb 29 34 (T 27) (T 28),aB 30 3 (T 29),bi 31 .lss 3 (T 26) (T 30)]])
 (.cond (T 31) (.seq (.ops [.xs [aj 4 (ai (-1))]])
 (.ret))
 (.skip)))
 (.seq (.ops [.xs [I 32 (T 0),I 33 (T 5),bb 34 34 (T 32) (T 33),aB 35 3 (T 34),I 36 (T 1),I 37 (T 5),bb 38 34 (T 36) (T 37),aB 39 3 (T 38),bi 40 .gtr 3 (T 35) (T 39)]])
 (.cond (T 40) (.seq (.ops [.xs [aj 4 (ai 1)]])
 (.ret))
 (.skip)))))
 (.ops [.xs [I 21 (T 5),bi 22 .sub 3 (T 21) (ai 1),aj 5 (T 22)]]))))))
 (.seq (.ops [.xs [aj 4 (ai 0)]])
 (.ret)))),[.tmp 4]⟩
def J4:cT:=⟨.seq (.ops [.xs [aj 4 (C (.slice none 0 0))]])
 (.seq (.ops [.xs [eC 9 34 0 [],aj 5 (T 9),aj 6 (ai 0)]])
 (.seq (.seq (.ops [.xs [aj 7 (ai 0)]])
 (.block 0 (.loop 1099511627232 0 (.seq (.seq (.ops [.xs [I 10 (T 7),I 11 (T 0),bt 12 34 (T 11),bi 13 .lss 3 (T 10) (T 12)]])
 (.cond (T 13) (.skip)
 (.exit 0)))
 (.seq (.block 1 (.seq (.ops [.xs [I 16 (T 0),I 17 (T 7),bb 18 34 (T 16) (T 17),aB 19 3 (T 18),I 20 (T 6),bi 21 .sub 3 (T 19) (T 20),aj 8 (T 21)]])
 (.seq (.box 4290773248 0 (.seq (.ops [.xs [I 22 (T 7),I 23 (T 1),bt 24 34 (T 23),bi 25 .lss 3 (T 22) (T 24)]])
 (.cond (T 25) (.ops [.xs [I 26 (T 8),I 27 (T 1),I 28 (T 7),bb 29 34 (T 27) (T 28),aB 30 3 (T 29),bi 31 .sub 3 (T 26) (T 30),aj 8 (T 31)]])
 (.skip))))
 (.seq (.ops [.xs [aj 6 (ai 0)]])
 (.seq (.box 64424509760 0 (.seq (.ops [.xs [I 32 (T 8),bi 33 .lss 3 (T 32) (ai 0)]])
 (.cond (T 33) (.ops [.xs [I 34 (T 8),bi 35 .add 3 (T 34) (ai 10000),aj 8 (T 35),aj 6 (ai 1)]])
 (.skip))))
 (.ops [.xs [I 36 (T 5),I 37 (T 8),eC 38 34 1 [(0,T 37)],ap 39 34 34 (T 36) (T 38),aj 5 (T 39)]]))))))
 (.ops [.xs [I 14 (T 7),bi 15 .add 3 (T 14) (ai 1),aj 7 (T 15)]]))))))
 (.seq (.ops [.xs [I 40 (T 5),aj 4 (T 40)]])
 (.ret)))),[.tmp 4]⟩
def KO:cT:=⟨.seq (.ops [.xs [aj 2 (C (.slice none 0 0))]])
 (.seq (.seq (.ops [.xs [I 3 (T 0),bi 4 .eql 120 (T 3) (C (.slice none 0 0))]])
 (.cond (T 4) (.seq (.ops [.xs [aj 2 (C (.slice none 0 0))]])
 (.ret))
 (.skip)))
 (.seq (.ops [.xs [eC 5 120 0 [],I 6 (T 0),ap 7 120 120 (T 5) (T 6),aj 2 (T 7)]])
 (.ret))),[.tmp 2]⟩
def KF:cT:=⟨.seq (.ops [.xs [aj 4 (C (.bool false))]])
 (.seq (.seq (.ops [.xs [I 6 (T 0),jF 7 (T 6),a8 8 140 (T 7) 0,aB 9 74 (T 8),aV 10 49 [T 9],I 11 (ai 0)]])
 (.block 0 (.loop 590295810358705649712 0 (.seq (.ops [.xs [bi 12 .lss 3 (T 11) (T 10)]])
 (.seq (.cond (T 12) (.skip)
 (.exit 0))
 (.seq (.box 295147905179352817712 0 (.block 1 (.seq (.ops [.xs [I 13 (T 11),aj 5 (T 13)]])
 (.seq (.seq (.box 68719460352 0 (.ops [.xs [I 14 (T 0),jF 15 (T 14),a8 16 140 (T 15) 2,aB 17 115 (T 16),I 18 (T 5),bb 19 115 (T 17) (T 18),aB 20 4 (T 19),I 21 (T 20),aJ 21 false (I 22 (T 0)),aJ 21 false (jF 23 (T 22)),aJ 21 false (a8 24 140 (T 23) 0),aJ 21 false (a8 25 74 (T 24) 0),aJ 21 false (aB 26 72 (T 25)),aJ 21 false (I 27 (T 1)),aJ 21 false (bb 28 72 (T 26) (T 27)),aJ 21 false (aB 29 120 (T 28)),aJ 21 false (I 30 (T 5)),aJ 21 false (bb 31 120 (T 29) (T 30)),aJ 21 false (aB 32 80 (T 31)),aJ 21 false (aV 33 75 [T 32]),aJ 21 false (bi 34 .leq 3 (T 33) (ai 0)),cI 35 (T 21) (C (.bool true)) (T 34)]]))
 (.cond (T 35) (.exit 1)
 (.skip)))
 (.seq (.ops [.xs [I 36 (T 0),jF 37 (T 36),a8 38 140 (T 37) 2,aB 39 115 (T 38),I 40 (T 5),bb 41 115 (T 39) (T 40),st 4 (T 41) (C (.bool true))]])
 (.seq (.box 2305838611167182848 0 (.ops [.xs [I 42 (T 0),jF 43 (T 42),a8 44 140 (T 43) 1,aB 45 34 (T 44),I 46 (T 5),bb 47 34 (T 45) (T 46),aB 48 3 (T 47),bi 49 .lss 3 (T 48) (ai 0),I 50 (T 49),aJ 50 false (I 51 (T 0)),aJ 50 false (I 52 (T 0)),aJ 50 false (jF 53 (T 52)),aJ 50 false (a8 54 140 (T 53) 1),aJ 50 false (aB 55 34 (T 54)),aJ 50 false (I 56 (T 5)),aJ 50 false (bb 57 34 (T 55) (T 56)),aJ 50 false (aB 58 3 (T 57)),aJ 50 false (aV 59 86 [T 51,T 58]),cI 60 (T 50) (C (.bool true)) (T 59)]]))
 (.cond (T 60) (.seq (.ops [.xs [I 61 (T 0),jF 62 (T 61),a8 63 140 (T 62) 1,aB 64 34 (T 63),I 65 (T 5),I 66 (T 1),bb 67 34 (T 64) (T 65),st 3 (T 67) (T 66)]])
 (.seq (.ops [.xs [aj 4 (C (.bool true))]])
 (.ret)))
 (.skip))))))))
 (.ops [.xs [bi 68 .add 3 (T 11) (ai 1),I 11 (T 68)]])))))))
 (.seq (.ops [.xs [aj 4 (C (.bool false))]])
 (.ret))),[.tmp 4]⟩
def Kn:cT:=⟨.seq (.ops [.cE 2 80 (T 0),.cE 3 80 (T 1),.bL 4 80])
 (.seq (.ops [.bR none 5 80 2 2,.bR none 6 80 3 3,.xs [bk (aV 7 109 [T 6]),aV 8 77 [T 5,T 7]],.bX true none 80 4 (T 8) 4])
 (.ret)),[.cell 4 80]⟩
def J_:cT:=⟨.seq (.ops [.xs [aj 4 (C (.int .u64 0)),aj 5 (C (.int .u64 0))]])
 (.seq (.cond (C (.bool false)) (.seq (.ops [.xs [I 11 (T 0),cm 12 142 124 (T 11),I 13 (T 1),cm 14 142 124 (T 13),aV 15 111 [T 12,T 14],I 10 (T 15),ex 16 (T 10) 0,ex 17 (T 10) 1,aj 6 (T 16),aj 7 (T 17)]])
 (.seq (.ops [.xs [I 18 (T 6),cm 19 124 142 (T 18),I 20 (T 7),cm 21 124 142 (T 20),aj 4 (T 19),aj 5 (T 21)]])
 (.ret)))
 (.skip))
 (.seq (.ops [.xs [I 23 (T 0),I 24 (T 1),aV 25 112 [T 23,T 24],I 22 (T 25),ex 26 (T 22) 0,ex 27 (T 22) 1,aj 8 (T 26),aj 9 (T 27)]])
 (.seq (.ops [.xs [I 28 (T 8),I 29 (T 9),aj 4 (T 28),aj 5 (T 29)]])
 (.ret)))),[.tmp 4,.tmp 5]⟩
def KT:cT:=⟨.seq (.ops [.xs [aj 4 (C (.slice none 0 0))]])
 (.seq (.box 3584 0 (.seq (.ops [.xs [I 9 (T 1),bi 10 .lss 3 (T 9) (ai 0)]])
 (.cond (T 10) (.ops [.xs [nA 11 9 (C (.string {data:= #[99,97,110,110,111,116,32,98,101,32,110,101,103,97,116,105,118,101]})),(⟨true,none,none,.panic (T 11)⟩)]])
 (.skip))))
 (.seq (.ops [.xs [I 13 (T 0),bt 14 120 (T 13),cm 15 3 142 (T 14),I 16 (T 1),cm 17 3 142 (T 16),aV 18 89 [T 15,T 17],I 12 (T 18),ex 19 (T 12) 0,ex 20 (T 12) 1,aj 5 (T 19),aj 6 (T 20)]])
 (.seq (.box 266338304 0 (.seq (.box 132120576 0 (.ops [.xs [I 21 (T 5),bi 22 .gtr 142 (T 21) (C (.int .u64 0)),I 23 (T 22),aJ 23 false (I 24 (T 6)),aJ 23 false ((bi 25 .gtr 142 (T 24) (C (.int .u64 9223372036854775807)))),cI 26 (T 23) (C (.bool true)) (T 25)]]))
 (.cond (T 26) (.ops [.xs [nA 27 9 (C (.string {data:= #[116,104,101,32,114,101,115,117,108,116,32,111,102,32,40,108,101,110,40,120,41,32,42,32,99,111,117,110,116,41,32,111,118,101,114,102,108,111,119,115]})),(⟨true,none,none,.panic (T 27)⟩)]])
 (.skip))))
 (.seq (.ops [.xs [I 28 (T 6),cm 29 142 3 (T 28),ms 30 120 (T 29) (T 29),aj 7 (T 30)]])
 (.seq (.ops [.xs [I 31 (T 7),I 32 (T 0),cp 33 120 120 (T 31) (T 32),aj 8 (T 33)]])
 (.seq (.block 0 (.loop 140720308486400 0 (.seq (.seq (.ops [.xs [I 34 (T 8),I 35 (T 7),bt 36 120 (T 35),bi 37 .lss 3 (T 34) (T 36)]])
 (.cond (T 37) (.skip)
 (.exit 0)))
 (.block 1 (.ops [.xs [I 38 (T 8),I 39 (T 7),I 40 (T 8),bk (gj 41 120 (T 39) (some (T 40)) none none),I 42 (T 7),I 43 (T 8),bk (gj 44 120 (T 42) none (some (T 43)) none),cp 45 120 120 (T 41) (T 44),bi 46 .add 3 (T 38) (T 45),aj 8 (T 46)]])))))
 (.seq (.ops [.xs [I 47 (T 7),aj 4 (T 47)]])
 (.ret)))))))),[.tmp 4]⟩
def J7:cT:=⟨.seq (.ops [.xs [aj 4 (C (.slice none 0 0))]])
 (.seq (.ops [.xs [I 5 (T 0),dF 6 40 [(1,T 5)],I 7 (T 1),aV 8 46 [T 7],aV 9 45 [T 6,T 8],aV 10 72 [T 9],oQ 11 40 (T 10) 1,aj 4 (T 11)]])
 (.ret)),[.tmp 4]⟩
def KV:cT:=⟨.seq (.ops [.xs [aj 4 (C (.string {data:= #[]})),aj 5 (C (.string {data:= #[]})),aj 6 (C (.bool false))]])
 (.seq (.ops [.xs [I 7 (T 0),I 8 (T 1),aV 9 114 [T 7,T 8],ex 10 (T 9) 0,ex 11 (T 9) 1,ex 12 (T 9) 2,aj 4 (T 10),aj 5 (T 11),aj 6 (T 12)]])
 (.ret)),[.tmp 4,.tmp 5,.tmp 6]⟩
def KW:cT:=⟨.seq (.ops [.xs [aj 4 (C (.string {data:= #[]})),aj 5 (C (.bool false))]])
 (.seq (.ops [.xs [I 6 (T 0),I 7 (T 1),aV 8 115 [T 6,T 7],ex 9 (T 8) 0,ex 10 (T 8) 1,aj 4 (T 9),aj 5 (T 10)]])
 (.ret)),[.tmp 4,.tmp 5]⟩
def Ks:cT:=⟨.seq (.ops [.xs [aj 2 (C (.slice none 0 0)),aj 3 (C (.bool false))]])
 (.seq (.seq (.ops [.xs [I 10 (T 0),bt 11 9 (T 10),I 12 (ai 0)]])
 (.block 0 (.loop 67104796 0 (.seq (.ops [.xs [bi 13 .lss 3 (T 12) (T 11)]])
 (.seq (.cond (T 13) (.skip)
 (.exit 0))
 (.seq (.block 1 (.seq (.ops [.xs [I 14 (T 12),aj 4 (T 14)]])
 (.seq (.box 33521664 0 (.ops [.xs [I 15 (T 0),I 16 (T 4),ez 17 9 (T 15) (T 16),bi 18 .lss 5 (T 17) (C (.int .u8 48)),I 19 (T 18),aJ 19 false (I 20 (T 0)),aJ 19 false (I 21 (T 4)),aJ 19 false (ez 22 9 (T 20) (T 21)),aJ 19 false ((bi 23 .gtr 5 (T 22) (C (.int .u8 57)))),cI 24 (T 19) (C (.bool true)) (T 23)]]))
 (.cond (T 24) (.seq (.ops [.xs [aj 2 (C (.slice none 0 0)),aj 3 (C (.bool false))]])
 (.ret))
 (.skip)))))
 (.ops [.xs [bi 25 .add 3 (T 12) (ai 1),I 12 (T 25)]])))))))
 (.seq (.seq (.box 8796025913344 0 (.ops [.xs [I 26 (T 0),bi 27 .eql 9 (T 26) (C (.string {data:= #[]})),I 28 (T 27),aJ 28 false (I 29 (T 0)),aJ 28 false (ez 30 9 (T 29) (ai 0)),aJ 28 false ((bi 31 .eql 5 (T 30) (C (.int .u8 48)))),aJ 28 false (I 32 (T 31)),aJ 32 true (I 33 (T 0)),aJ 32 true (bt 34 9 (T 33)),aJ 32 true (bi 35 .gtr 3 (T 34) (ai 1)),aJ 28 false ((cI 36 (T 32) (T 35) (C (.bool false)))),cI 37 (T 28) (C (.bool true)) (T 36),I 38 (T 37),aJ 38 false (I 39 (T 0)),aJ 38 false (bt 40 9 (T 39)),aJ 38 false (bi 41 .gtr 3 (T 40) (ai 4000)),cI 42 (T 38) (C (.bool true)) (T 41)]]))
 (.cond (T 42) (.seq (.ops [.xs [aj 2 (C (.slice none 0 0)),aj 3 (C (.bool false))]])
 (.ret))
 (.skip)))
 (.seq (.ops [.xs [aj 5 (C (.slice none 0 0))]])
 (.seq (.block 2 (.loop 75557863717118230397921 0 (.seq (.seq (.ops [.xs [I 43 (T 0),bi 44 .neq 9 (T 43) (C (.string {data:= #[]}))]])
 (.cond (T 44) (.skip)
 (.exit 2)))
 (.block 3 (.seq (.ops [.xs [I 45 (T 0),bt 46 9 (T 45),bi 47 .sub 3 (T 46) (ai 1),bi 48 .rem 3 (T 47) (ai 9),bi 49 .add 3 (T 48) (ai 1),aj 6 (T 49)]])
 (.seq (.ops [.xs [aj 7 (C (.int .u32 0)),aj 8 (C (.int .u32 1))]])
 (.seq (.seq (.ops [.xs [I 50 (T 6),I 51 (ai 0)]])
 (.block 4 (.loop 36891236347605418880 0 (.seq (.ops [.xs [bi 52 .lss 3 (T 51) (T 50)]])
 (.seq (.cond (T 52) (.skip)
 (.exit 4))
 (.seq (.block 5 (.seq (.ops [.xs [I 53 (T 51),aj 9 (T 53)]])
 (.ops [.xs [I 54 (T 7),bi 55 .mul 124 (C (.int .u32 10)) (T 54),I 56 (T 0),I 57 (T 9),ez 58 9 (T 56) (T 57),bi 59 .sub 5 (T 58) (C (.int .u8 48)),cm 60 5 124 (T 59),bi 61 .add 124 (T 55) (T 60),I 62 (T 8),bi 63 .mul 124 (C (.int .u32 10)) (T 62),aj 7 (T 61),aj 8 (T 63)]])))
 (.ops [.xs [bi 64 .add 3 (T 51) (ai 1),I 51 (T 64)]])))))))
 (.seq (.ops [.xs [I 65 (T 5),I 66 (T 8),eC 67 76 1 [(0,T 66)],aV 68 93 [T 65,T 67],I 69 (T 7),eC 70 76 1 [(0,T 69)],aV 71 110 [T 70],aV 72 116 [T 68,T 71],aj 5 (T 72)]])
 (.ops [.xs [I 73 (T 0),I 74 (T 6),gj 75 9 (T 73) (some (T 74)) none none,aj 0 (T 75)]])))))))))
 (.seq (.ops [.xs [I 76 (T 5),aj 2 (T 76),aj 3 (C (.bool true))]])
 (.ret)))))),[.tmp 2,.tmp 3]⟩
def Kf:cT:=⟨.seq (.ops [.cE 2 78 (T 0),.cE 3 78 (T 1),.bL 4 78])
 (.seq (.ops [.a8 none 9 78 2 1 2 1,.aB none 10 76 9 2 1,.a8 none 11 78 3 1 3 1,.aB none 12 76 11 3 1,.xs [aj 5 (T 10),aj 6 (T 12)]])
 (.seq (.block 0 (.loop 16769504 0 (.seq (.seq (.ops [.xs [I 13 (T 6),bt 14 76 (T 13),bi 15 .gtr 3 (T 14) (ai 0)]])
 (.cond (T 15) (.skip)
 (.exit 0)))
 (.block 1 (.seq (.ops [.xs [I 17 (T 5),I 18 (T 6),aV 19 117 [T 17,T 18],I 16 (T 19),ex 20 (T 16) 0,ex 21 (T 16) 1,aj 7 (T 20),aj 8 (T 21)]])
 (.ops [.xs [I 22 (T 6),I 23 (T 8),aj 5 (T 22),aj 6 (T 23)]]))))))
 (.seq (.ops [.xs [I 24 (T 5),aV 25 92 [C (.bool false),T 24]],.bX true none 78 4 (T 25) 4])
 (.ret)))),[.cell 4 78]⟩
def KQ:cT:=⟨.seq (.ops [.xs [aj 4 (ai 0)]])
 (.seq (.seq (.ops [.xs [I 6 (T 0),bt 7 34 (T 6),I 8 (ai 0)]])
 (.block 0 (.loop 524080 0 (.seq (.ops [.xs [bi 9 .lss 3 (T 8) (T 7)]])
 (.seq (.cond (T 9) (.skip)
 (.exit 0))
 (.seq (.block 1 (.seq (.ops [.xs [I 10 (T 8),aj 5 (T 10)]])
 (.seq (.ops [.xs [I 11 (T 1),I 12 (T 0),I 13 (T 5),bb 14 34 (T 12) (T 13),aB 15 3 (T 14),bi 16 .eql 3 (T 11) (T 15)]])
 (.cond (T 16) (.seq (.ops [.xs [I 17 (T 5),aj 4 (T 17)]])
 (.ret))
 (.skip)))))
 (.ops [.xs [bi 18 .add 3 (T 8) (ai 1),I 8 (T 18)]])))))))
 (.seq (.ops [.xs [aj 4 (ai (-1))]])
 (.ret))),[.tmp 4]⟩
def Ko:cT:=⟨.seq (.ops [.cE 2 78 (T 0),.cE 3 78 (T 1),.bL 4 80])
 (.seq (.box 64512 12 (.seq (.ops [.a8 none 10 78 3 0 3 0,.aB none 11 4 10 3 0])
 (.cond (T 11) (.ops [.bR none 12 78 2 2,.xs [bk (aV 13 113 [T 12])],.bR none 14 78 3 3,.xs [aV 15 113 [T 14]],.bX true none 78 2 (T 13) 2,
  .bX true none 78 3 (T 15) 3])
 (.skip))))
 (.seq (.ops [.bR none 16 78 2 2,.bR none 17 78 3 3,.xs [aV 18 102 [T 16,T 17]],.bL 5 78,.bX true none 78 5 (T 18) 5])
 (.seq (.seq (.ops [.bR none 19 78 5 5,.xs [bk (aV 20 88 [ai 1]),aV 21 67 [T 19,T 20],bi 22 .eql 3 (T 21) (ai 0)]])
 (.cond (T 22) (.seq (.ops [.bR none 23 78 2 2,.bR none 24 78 3 3,.xs [dF 25 80 [(0,T 23),(1,T 24)]],.bX true none 80 4 (T 25) 4])
 (.ret))
 (.skip)))
 (.seq (.ops [.bR none 27 78 2 2,.bR none 28 78 5 5,.xs [aV 29 119 [T 27,T 28],I 26 (T 29),ex 30 (T 26) 0,ex 31 (T 26) 1],.bL 6 78,.bL 7 78,
  .bX true none 78 6 (T 30) 6,.bX true none 78 7 (T 31) 7])
 (.seq (.ops [.bR none 33 78 3 3,.bR none 34 78 5 5,.xs [aV 35 119 [T 33,T 34],I 32 (T 35),ex 36 (T 32) 0,ex 37 (T 32) 1],.bL 8 78,.bL 9 78,
  .bX true none 78 8 (T 36) 8,.bX true none 78 9 (T 37) 9])
 (.seq (.ops [.bR none 38 78 6 6,.bR none 39 78 8 8,.xs [dF 40 80 [(0,T 38),(1,T 39)]],.bX true none 80 4 (T 40) 4])
 (.ret))))))),[.cell 4 80]⟩
def KU:cT:=⟨.seq (.ops [.xs [I 4 (T 0),bt 5 61 (T 4),bi 6 .sub 3 (T 5) (ai 1),aj 2 (ai 0),aj 3 (T 6)]])
 (.block 0 (.loop 268435340 0 (.seq (.seq (.ops [.xs [I 7 (T 2),I 8 (T 3),bi 9 .lss 3 (T 7) (T 8)]])
 (.cond (T 9) (.skip)
 (.exit 0)))
 (.seq (.block 1 (.ops [.xs [I 14 (T 0),I 15 (T 2),I 16 (T 0),I 17 (T 3),I 18 (T 0),I 19 (T 3),bb 20 61 (T 18) (T 19),aB 21 5 (T 20),I 22 (T 0),I 23 (T 2),bb 24 61 (T 22) (T 23),aB 25 5 (T 24),bb 26 61 (T 14) (T 15),st 5 (T 26) (T 21),bb 27 61 (T 16) (T 17),st 5 (T 27) (T 25)]]))
 (.ops [.xs [I 10 (T 2),bi 11 .add 3 (T 10) (ai 1),I 12 (T 3),bi 13 .sub 3 (T 12) (ai 1),aj 2 (T 11),aj 3 (T 13)]]))))),[]⟩
def Kl:cT:=⟨.seq (.ops [.cE 1 80 (T 0),.bL 2 80])
 (.seq (.ops [.a8 none 3 80 1 0 1 0,.aB none 4 78 3 1 0,.xs [bk (aV 5 113 [T 4])],.a8 none 6 80 1 1 1 2,.aB none 7 78 6 1 2,
  .xs [dF 8 80 [(0,T 5),(1,T 7)]],.bX true none 80 2 (T 8) 2])
 (.ret)),[.cell 2 80]⟩
def Ka:cT:=⟨.seq (.ops [.xs [aj 4 (C (.int .u64 0)),aj 5 (C (.int .u64 0))]])
 (.seq (.ops [.xs [I 14 (T 0),bi 15 .and 123 (T 14) (C (.int .u64 4294967295)),aj 6 (T 15)]])
 (.seq (.ops [.xs [I 16 (T 0),bi 17 .shr 123 (T 16) (C (.int .u64 32)),aj 7 (T 17)]])
 (.seq (.ops [.xs [I 18 (T 1),bi 19 .and 123 (T 18) (C (.int .u64 4294967295)),aj 8 (T 19)]])
 (.seq (.ops [.xs [I 20 (T 1),bi 21 .shr 123 (T 20) (C (.int .u64 32)),aj 9 (T 21)]])
 (.seq (.ops [.xs [I 22 (T 6),I 23 (T 8),bi 24 .mul 123 (T 22) (T 23),aj 10 (T 24)]])
 (.seq (.ops [.xs [I 25 (T 7),I 26 (T 8),bi 27 .mul 123 (T 25) (T 26),I 28 (T 10),bi 29 .shr 123 (T 28) (C (.int .u64 32)),bi 30 .add 123 (T 27) (T 29),aj 11 (T 30)]])
 (.seq (.ops [.xs [I 31 (T 11),bi 32 .and 123 (T 31) (C (.int .u64 4294967295)),aj 12 (T 32)]])
 (.seq (.ops [.xs [I 33 (T 11),bi 34 .shr 123 (T 33) (C (.int .u64 32)),aj 13 (T 34)]])
 (.seq (.ops [.xs [I 35 (T 12),I 36 (T 6),I 37 (T 9),bi 38 .mul 123 (T 36) (T 37),bi 39 .add 123 (T 35) (T 38),aj 12 (T 39)]])
 (.seq (.ops [.xs [I 40 (T 7),I 41 (T 9),bi 42 .mul 123 (T 40) (T 41),I 43 (T 13),bi 44 .add 123 (T 42) (T 43),I 45 (T 12),bi 46 .shr 123 (T 45) (C (.int .u64 32)),bi 47 .add 123 (T 44) (T 46),aj 4 (T 47)]])
 (.seq (.ops [.xs [I 48 (T 0),I 49 (T 1),bi 50 .mul 123 (T 48) (T 49),aj 5 (T 50)]])
 (.ret)))))))))))),[.tmp 4,.tmp 5]⟩
def KX:cT:=⟨.seq (.ops [.xs [aj 4 (C (.string {data:= #[]})),aj 5 (C (.string {data:= #[]})),aj 6 (C (.bool false))]])
 (.seq (.seq (.ops [.xs [I 8 (T 0),I 9 (T 1),aV 10 120 [T 8,T 9],aj 7 (T 10)]])
 (.seq (.ops [.xs [I 11 (T 7),bi 12 .geq 3 (T 11) (ai 0)]])
 (.cond (T 12) (.seq (.ops [.xs [I 13 (T 0),I 14 (T 7),bk (gj 15 9 (T 13) none (some (T 14)) none),I 16 (T 0),I 17 (T 7),I 18 (T 1),bt 19 9 (T 18),bi 20 .add 3 (T 17) (T 19),bk (gj 21 9 (T 16) (some (T 20)) none none),aj 4 (T 15),aj 5 (T 21),aj 6 (C (.bool true))]])
 (.ret))
 (.skip))))
 (.seq (.ops [.xs [I 22 (T 0),aj 4 (T 22),aj 5 (C (.string {data:= #[]})),aj 6 (C (.bool false))]])
 (.ret))),[.tmp 4,.tmp 5,.tmp 6]⟩
def KY:cT:=⟨.seq (.ops [.xs [aj 4 (C (.string {data:= #[]})),aj 5 (C (.bool false))]])
 (.seq (.seq (.ops [.xs [I 6 (T 0),I 7 (T 1),aV 8 121 [T 6,T 7],un 9 .not (T 8)]])
 (.cond (T 9) (.seq (.ops [.xs [I 10 (T 0),aj 4 (T 10),aj 5 (C (.bool false))]])
 (.ret))
 (.skip)))
 (.seq (.ops [.xs [I 11 (T 0),I 12 (T 1),bt 13 9 (T 12),gj 14 9 (T 11) (some (T 13)) none none,aj 4 (T 14),aj 5 (C (.bool true))]])
 (.ret))),[.tmp 4,.tmp 5]⟩
def Kr:cT:=⟨.seq (.ops [.xs [aj 4 (C (.slice none 0 0)),aj 5 (C (.slice none 0 0))]])
 (.seq (.seq (.ops [.xs [I 14 (T 0),I 15 (T 1),aV 16 101 [T 14,T 15],bi 17 .lss 3 (T 16) (ai 0)]])
 (.cond (T 17) (.seq (.ops [.xs [I 18 (T 0),ap 19 76 76 (C (.slice none 0 0)) (T 18),aj 4 (C (.slice none 0 0)),aj 5 (T 19)]])
 (.ret))
 (.skip)))
 (.seq (.seq (.ops [.xs [I 20 (T 1),bt 21 76 (T 20),bi 22 .eql 3 (T 21) (ai 1)]])
 (.cond (T 22) (.seq (.ops [.xs [I 24 (T 0),I 25 (T 1),bb 26 76 (T 25) (ai 0),aB 27 124 (T 26),aV 28 107 [T 24,T 27],I 23 (T 28),ex 29 (T 23) 0,ex 30 (T 23) 1,aj 6 (T 29),aj 7 (T 30)]])
 (.seq (.ops [.xs [I 31 (T 6),I 32 (T 7),eC 33 76 1 [(0,T 32)],aV 34 110 [T 33],aj 4 (T 31),aj 5 (T 34)]])
 (.ret)))
 (.skip)))
 (.seq (.ops [.xs [I 35 (T 1),I 36 (T 1),bt 37 76 (T 36),bi 38 .sub 3 (T 37) (ai 1),bb 39 76 (T 35) (T 38),aB 40 124 (T 39),aV 41 123 [T 40],aj 8 (T 41)]])
 (.seq (.ops [.xs [I 42 (T 1),I 43 (T 8),aV 44 124 [T 42,T 43],aV 45 110 [T 44],I 46 (T 0),I 47 (T 8),aV 48 124 [T 46,T 47],aj 9 (T 45),aj 10 (T 48)]])
 (.seq (.ops [.xs [I 49 (T 9),bt 50 76 (T 49),aj 11 (T 50)]])
 (.seq (.ops [.xs [I 51 (T 0),bt 52 76 (T 51),I 53 (T 11),bi 54 .sub 3 (T 52) (T 53),bi 55 .add 3 (T 54) (ai 1),ms 56 76 (T 55) (T 55),aj 12 (T 56)]])
 (.seq (.seq (.ops [.xs [I 57 (T 0),bt 58 76 (T 57),I 59 (T 11),bi 60 .sub 3 (T 58) (T 59),aj 13 (T 60)]])
 (.block 0 (.loop 151113421608819433152512 0 (.seq (.seq (.ops [.xs [I 61 (T 13),bi 62 .geq 3 (T 61) (ai 0)]])
 (.cond (T 62) (.skip)
 (.exit 0)))
 (.seq (.block 1 (.ops [.xs [I 65 (T 12),I 66 (T 13),I 67 (T 10),I 68 (T 13),I 69 (T 13),I 70 (T 11),bi 71 .add 3 (T 69) (T 70),bi 72 .add 3 (T 71) (ai 1),gj 73 76 (T 67) (some (T 68)) (some (T 72)) none,I 74 (T 9),aV 75 125 [T 73,T 74],bb 76 76 (T 65) (T 66),st 124 (T 76) (T 75)]]))
 (.ops [.xs [I 63 (T 13),bi 64 .sub 3 (T 63) (ai 1),aj 13 (T 64)]]))))))
 (.seq (.ops [.xs [I 77 (T 12),bk (aV 78 110 [T 77]),I 79 (T 10),I 80 (T 11),bk (gj 81 76 (T 79) none (some (T 80)) none),aV 82 110 [T 81],I 83 (T 8),aV 84 126 [T 82,T 83],aj 4 (T 78),aj 5 (T 84)]])
 (.ret))))))))),[.tmp 4,.tmp 5]⟩
def Kg:cT:=⟨.seq (.ops [.cE 2 78 (T 0),.cE 3 78 (T 1),.bL 4 78,.bL 5 78])
 (.seq (.ops [.a8 none 11 78 2 1 2 1,.aB none 12 76 11 2 1,.a8 none 13 78 3 1 3 1,.aB none 14 76 13 3 1,
  .xs [aV 15 117 [T 12,T 14],I 10 (T 15),ex 16 (T 10) 0,ex 17 (T 10) 1,aj 6 (T 16),aj 7 (T 17)]])
 (.seq (.ops [.a8 none 18 78 2 0 2 0,.aB none 19 4 18 2 0,.a8 none 20 78 3 0 3 0,.aB none 21 4 20 3 0,
  .xs [bi 22 .neq 4 (T 19) (T 21),I 23 (T 6),bk (aV 24 92 [T 22,T 23])],.a8 none 25 78 2 0 2 0,.aB none 26 4 25 2 0,
  .xs [I 27 (T 7),bk (aV 28 92 [T 26,T 27])],.bL 8 78,.bL 9 78,.bX true none 78 8 (T 24) 8,.bX true none 78 9 (T 28) 9])
 (.seq (.box 35183835217920 768 (.seq (.box 549218942976 0 (.ops [.xs [I 29 (T 7),bt 30 76 (T 29),bi 31 .gtr 3 (T 30) (ai 0),I 32 (T 31)],.a8 (some (32,true)) 33 78 2 0 2 0,
  .aB (some (32,true)) 34 4 33 2 0,.a8 (some (32,true)) 35 78 3 0 3 0,.aB (some (32,true)) 36 4 35 3 0,
  .xs [aJ 32 true (bi 37 .neq 4 (T 34) (T 36)),cI 38 (T 32) (T 37) (C (.bool false))]]))
 (.cond (T 38) (.ops [.bR none 39 78 8 8,.xs [bk (aV 40 88 [ai 1]),bk (aV 41 94 [T 39,T 40])],.bR none 42 78 9 9,.bR none 43 78 3 3,
  .xs [aV 44 105 [T 42,T 43]],.bX true none 78 8 (T 41) 8,.bX true none 78 9 (T 44) 9])
 (.skip))))
 (.seq (.opsL [.bR none 45 78 8 8,.bR none 46 78 9 9,.bX false none 78 4 (T 45) 4,.bX true none 78 5 (T 46) 5])
 (.ret))))),[.cell 4 78,.cell 5 78]⟩
def K0:cT:=⟨.seq (.ops [.xs [aj 4 (ai 0)]])
 (.seq (.ops [.xs [I 14 (T 1),bt 15 9 (T 14),aj 5 (T 15)]])
 (.seq (.block 0 (.seq (.box 16711680 0 (.ops [.xs [I 17 (T 5),bi 18 .eql 3 (T 17) (ai 0),I 19 (T 18),aJ 19 false (I 20 (T 1)),aJ 19 false (I 21 (T 0)),aJ 19 false (bi 22 .eql 9 (T 20) (T 21)),cI 23 (T 19) (C (.bool true)) (T 22),aj 16 (T 23)]]))
 (.cond (T 16) (.seq (.ops [.xs [aj 4 (ai 0)]])
 (.ret))
 (.seq (.ops [.xs [I 25 (T 5),bi 26 .eql 3 (T 25) (ai 1),aj 24 (T 26)]])
 (.cond (T 24) (.seq (.ops [.xs [I 27 (T 0),I 28 (T 1),ez 29 9 (T 28) (ai 0),aV 30 128 [T 27,T 29],aj 4 (T 30)]])
 (.ret))
 (.seq (.ops [.xs [I 32 (T 5),I 33 (T 0),bt 34 9 (T 33),bi 35 .geq 3 (T 32) (T 34),aj 31 (T 35)]])
 (.cond (T 31) (.seq (.ops [.xs [aj 4 (ai (-1))]])
 (.ret))
 (.seq (.box 35115652612096 0 (.ops [.xs [I 37 (T 5),aB 38 3 (.global 0),bi 39 .leq 3 (T 37) (T 38),I 40 (T 39),aJ 40 true (I 41 (T 0)),aJ 40 true (bt 42 9 (T 41)),aJ 40 true (bi 43 .leq 3 (T 42) (ai 64)),cI 44 (T 40) (T 43) (C (.bool false)),aj 36 (T 44)]]))
 (.cond (T 36) (.seq (.ops [.xs [I 45 (T 0),I 46 (T 1),aV 47 129 [T 45,T 46],aj 4 (T 47)]])
 (.ret))
 (.skip))))))))))
 (.seq (.ops [.xs [I 48 (T 1),ez 49 9 (T 48) (ai 0),aj 6 (T 49)]])
 (.seq (.ops [.xs [I 50 (T 1),ez 51 9 (T 50) (ai 1),aj 7 (T 51)]])
 (.seq (.ops [.xs [aj 8 (ai 0)]])
 (.seq (.ops [.xs [I 52 (T 0),bt 53 9 (T 52),I 54 (T 5),bi 55 .sub 3 (T 53) (T 54),bi 56 .add 3 (T 55) (ai 1),aj 9 (T 56)]])
 (.seq (.ops [.xs [aj 10 (ai 0)]])
 (.seq (.block 1 (.loop 11150372599265311570767858992208992677149968 0 (.seq (.seq (.ops [.xs [I 57 (T 8),I 58 (T 9),bi 59 .lss 3 (T 57) (T 58)]])
 (.cond (T 59) (.skip)
 (.exit 1)))
 (.block 2 (.seq (.box 302230301982152686831888 0 (.seq (.ops [.xs [I 60 (T 0),I 61 (T 8),ez 62 9 (T 60) (T 61),I 63 (T 6),bi 64 .neq 5 (T 62) (T 63)]])
 (.cond (T 64) (.seq (.ops [.xs [I 65 (T 0),I 66 (T 8),bi 67 .add 3 (T 66) (ai 1),I 68 (T 9),gj 69 9 (T 65) (some (T 67)) (some (T 68)) none,I 70 (T 6),aV 71 128 [T 69,T 70],aj 11 (T 71)]])
 (.seq (.seq (.ops [.xs [I 72 (T 11),bi 73 .lss 3 (T 72) (ai 0)]])
 (.cond (T 73) (.seq (.ops [.xs [aj 4 (ai (-1))]])
 (.ret))
 (.skip)))
 (.ops [.xs [I 74 (T 8),I 75 (T 11),bi 76 .add 3 (T 75) (ai 1),bi 77 .add 3 (T 74) (T 76),aj 8 (T 77)]])))
 (.skip))))
 (.seq (.seq (.box 19806738397111180741092311040 0 (.ops [.xs [I 78 (T 0),I 79 (T 8),bi 80 .add 3 (T 79) (ai 1),ez 81 9 (T 78) (T 80),I 82 (T 7),bi 83 .eql 5 (T 81) (T 82),I 84 (T 83),aJ 84 true (I 85 (T 0)),aJ 84 true (I 86 (T 8)),aJ 84 true (I 87 (T 8)),aJ 84 true (I 88 (T 5)),aJ 84 true (bi 89 .add 3 (T 87) (T 88)),aJ 84 true ((gj 90 9 (T 85) (some (T 86)) (some (T 89)) none)),aJ 84 true (I 91 (T 1)),aJ 84 true (bi 92 .eql 9 (T 90) (T 91)),cI 93 (T 84) (T 92) (C (.bool false))]]))
 (.cond (T 93) (.seq (.ops [.xs [I 94 (T 8),aj 4 (T 94)]])
 (.ret))
 (.skip)))
 (.seq (.ops [.xs [I 95 (T 8),bi 96 .add 3 (T 95) (ai 1),aj 8 (T 96)]])
 (.seq (.ops [.xs [I 97 (T 10),bi 98 .add 3 (T 97) (ai 1),aj 10 (T 98)]])
 (.seq (.box 323884728358312612082407668973568 0 (.ops [.xs [I 99 (T 5),aB 100 3 (.global 0),bi 101 .leq 3 (T 99) (T 100),I 102 (T 101),aJ 102 true (I 103 (T 10)),aJ 102 true (I 104 (T 8)),aJ 102 true (aV 105 130 [T 104]),aJ 102 true (bi 106 .gtr 3 (T 103) (T 105)),cI 107 (T 102) (T 106) (C (.bool false))]]))
 (.cond (T 107) (.seq (.ops [.xs [I 108 (T 0),I 109 (T 8),gj 110 9 (T 108) (some (T 109)) none none,I 111 (T 1),aV 112 129 [T 110,T 111],aj 12 (T 112)]])
 (.seq (.seq (.ops [.xs [I 113 (T 12),bi 114 .geq 3 (T 113) (ai 0)]])
 (.cond (T 114) (.seq (.ops [.xs [I 115 (T 12),I 116 (T 8),bi 117 .add 3 (T 115) (T 116),aj 4 (T 117)]])
 (.ret))
 (.skip)))
 (.seq (.ops [.xs [aj 4 (ai (-1))]])
 (.ret))))
 (.seq (.box 10888703434471084601859761486051512680448 0 (.ops [.xs [I 118 (T 5),aB 119 3 (.global 0),bi 120 .gtr 3 (T 118) (T 119),I 121 (T 120),aJ 121 true (I 122 (T 10)),aJ 121 true (I 123 (T 8)),aJ 121 true ((bi 124 .shr 3 (T 123) (C (.int .u64 4)))),aJ 121 true (bi 125 .add 3 (ai 4) (T 124)),aJ 121 true (bi 126 .geq 3 (T 122) (T 125)),cI 127 (T 121) (T 126) (C (.bool false)),I 128 (T 127),aJ 128 true (I 129 (T 8)),aJ 128 true (I 130 (T 9)),aJ 128 true (bi 131 .lss 3 (T 129) (T 130)),cI 132 (T 128) (T 131) (C (.bool false))]]))
 (.cond (T 132) (.seq (.ops [.xs [I 133 (T 0),I 134 (T 8),gj 135 9 (T 133) (some (T 134)) none none,I 136 (T 1),aV 137 131 [T 135,T 136],aj 13 (T 137)]])
 (.seq (.seq (.ops [.xs [I 138 (T 13),bi 139 .lss 3 (T 138) (ai 0)]])
 (.cond (T 139) (.seq (.ops [.xs [aj 4 (ai (-1))]])
 (.ret))
 (.skip)))
 (.seq (.ops [.xs [I 140 (T 8),I 141 (T 13),bi 142 .add 3 (T 140) (T 141),aj 4 (T 142)]])
 (.ret))))
 (.skip)))))))))))))
 (.seq (.ops [.xs [aj 4 (ai (-1))]])
 (.ret)))))))))),[.tmp 4]⟩
def KZ:cT:=⟨.seq (.ops [.xs [aj 4 (C (.bool false))]])
 (.seq (.box 262128 0 (.ops [.xs [I 5 (T 0),bt 6 9 (T 5),I 7 (T 1),bt 8 9 (T 7),bi 9 .geq 3 (T 6) (T 8),I 10 (T 9),aJ 10 true (I 11 (T 0)),aJ 10 true (I 12 (T 1)),aJ 10 true (bt 13 9 (T 12)),aJ 10 true ((gj 14 9 (T 11) none (some (T 13)) none)),aJ 10 true (I 15 (T 1)),aJ 10 true (bi 16 .eql 9 (T 14) (T 15)),cI 17 (T 10) (T 16) (C (.bool false)),aj 4 (T 17)]]))
 (.ret)),[.tmp 4]⟩
def J8:cT:=⟨.seq (.ops [.xs [aj 2 (ai 0)]])
 (.seq (.ops [.xs [I 3 (T 0),aV 4 132 [T 3],bi 5 .sub 3 (ai 32) (T 4),aj 2 (T 5)]])
 (.ret)),[.tmp 2]⟩
def Ku:cT:=⟨.seq (.ops [.xs [aj 4 (C (.slice none 0 0))]])
 (.seq (.ops [.xs [I 9 (T 0),bt 10 76 (T 9),bi 11 .add 3 (T 10) (ai 1),ms 12 76 (T 11) (T 11),aj 5 (T 12)]])
 (.seq (.seq (.ops [.xs [I 13 (T 0),bt 14 76 (T 13),I 15 (ai 0)]])
 (.block 0 (.loop 1099511595456 0 (.seq (.ops [.xs [bi 16 .lss 3 (T 15) (T 14)]])
 (.seq (.cond (T 16) (.skip)
 (.exit 0))
 (.seq (.block 1 (.seq (.ops [.xs [I 17 (T 15),bb 18 76 (T 13) (T 15),aB 19 124 (T 18),aj 6 (T 17),aj 7 (T 19)]])
 (.seq (.ops [.xs [I 20 (T 7),cm 21 124 123 (T 20),I 22 (T 1),bi 23 .shl 123 (T 21) (T 22),aj 8 (T 23)]])
 (.seq (.ops [.xs [I 24 (T 5),I 25 (T 6),bb 26 76 (T 24) (T 25),aB 27 124 (T 26),I 28 (T 8),cm 29 123 124 (T 28),bi 30 .or 124 (T 27) (T 29),bb 31 76 (T 24) (T 25),st 124 (T 31) (T 30)]])
 (.ops [.xs [I 32 (T 5),I 33 (T 6),bi 34 .add 3 (T 33) (ai 1),I 35 (T 8),bi 36 .shr 123 (T 35) (C (.int .u64 32)),cm 37 123 124 (T 36),bb 38 76 (T 32) (T 34),st 124 (T 38) (T 37)]])))))
 (.ops [.xs [bi 39 .add 3 (T 15) (ai 1),I 15 (T 39)]])))))))
 (.seq (.ops [.xs [I 40 (T 5),aj 4 (T 40)]])
 (.ret)))),[.tmp 4]⟩
def Kp:cT:=⟨.seq (.ops [.xs [aj 4 (C (.int .u32 0))]])
 (.seq (.ops [.xs [I 15 (T 1),bt 16 76 (T 15),aj 5 (T 16)]])
 (.seq (.ops [.xs [I 17 (T 0),I 18 (T 5),bb 19 76 (T 17) (T 18),aB 20 124 (T 19),cm 21 124 123 (T 20),bi 22 .shl 123 (T 21) (C (.int .u64 32)),I 23 (T 0),I 24 (T 5),bi 25 .sub 3 (T 24) (ai 1),bb 26 76 (T 23) (T 25),aB 27 124 (T 26),cm 28 124 123 (T 27),bi 29 .or 123 (T 22) (T 28),aj 6 (T 29)]])
 (.seq (.ops [.xs [I 30 (T 6),I 31 (T 1),I 32 (T 5),bi 33 .sub 3 (T 32) (ai 1),bb 34 76 (T 31) (T 33),aB 35 124 (T 34),cm 36 124 123 (T 35),bi 37 .quo 123 (T 30) (T 36),I 38 (T 6),I 39 (T 1),I 40 (T 5),bi 41 .sub 3 (T 40) (ai 1),bb 42 76 (T 39) (T 41),aB 43 124 (T 42),cm 44 124 123 (T 43),bi 45 .rem 123 (T 38) (T 44),aj 7 (T 37),aj 8 (T 45)]])
 (.seq (.box 4835703278388147954647424 0 (.block 0 (.loop 4835703278388147954647424 0 (.seq (.seq (.box 590295739989961474048 0 (.ops [.xs [I 46 (T 7),bi 47 .shr 123 (T 46) (C (.int .u64 32)),bi 48 .gtr 123 (T 47) (C (.int .u64 0)),I 49 (T 48),aJ 49 false (I 50 (T 7)),aJ 49 false (I 51 (T 1)),aJ 49 false (I 52 (T 5)),aJ 49 false (bi 53 .sub 3 (T 52) (ai 2)),aJ 49 false (bb 54 76 (T 51) (T 53)),aJ 49 false (aB 55 124 (T 54)),aJ 49 false (cm 56 124 123 (T 55)),aJ 49 false (bi 57 .mul 123 (T 50) (T 56)),aJ 49 false (I 58 (T 8)),aJ 49 false ((bi 59 .shl 123 (T 58) (C (.int .u64 32)))),aJ 49 false (I 60 (T 0)),aJ 49 false (I 61 (T 5)),aJ 49 false (bi 62 .sub 3 (T 61) (ai 2)),aJ 49 false (bb 63 76 (T 60) (T 62)),aJ 49 false (aB 64 124 (T 63)),aJ 49 false (cm 65 124 123 (T 64)),aJ 49 false (bi 66 .or 123 (T 59) (T 65)),aJ 49 false (bi 67 .gtr 123 (T 57) (T 66)),cI 68 (T 49) (C (.bool true)) (T 67)]]))
 (.cond (T 68) (.skip)
 (.exit 0)))
 (.block 1 (.seq (.ops [.xs [I 69 (T 7),bi 70 .sub 123 (T 69) (C (.int .u64 1)),aj 7 (T 70)]])
 (.seq (.ops [.xs [I 71 (T 8),I 72 (T 1),I 73 (T 5),bi 74 .sub 3 (T 73) (ai 1),bb 75 76 (T 72) (T 74),aB 76 124 (T 75),cm 77 124 123 (T 76),bi 78 .add 123 (T 71) (T 77),aj 8 (T 78)]])
 (.seq (.ops [.xs [I 79 (T 8),bi 80 .shr 123 (T 79) (C (.int .u64 32)),bi 81 .gtr 123 (T 80) (C (.int .u64 0))]])
 (.cond (T 81) (.exit 0)
 (.skip))))))))))
 (.seq (.ops [.xs [aj 9 (C (.int .u64 0)),aj 10 (C (.int .u32 0))]])
 (.seq (.seq (.ops [.xs [I 82 (T 1),bt 83 76 (T 82),I 84 (ai 0)]])
 (.block 2 (.loop 10384593697726842143226925863149056 0 (.seq (.ops [.xs [bi 85 .lss 3 (T 84) (T 83)]])
 (.seq (.cond (T 85) (.skip)
 (.exit 2))
 (.seq (.block 3 (.seq (.ops [.xs [I 86 (T 84),aj 11 (T 86)]])
 (.seq (.ops [.xs [I 87 (T 7),I 88 (T 1),I 89 (T 11),bb 90 76 (T 88) (T 89),aB 91 124 (T 90),cm 92 124 123 (T 91),bi 93 .mul 123 (T 87) (T 92),I 94 (T 9),bi 95 .add 123 (T 93) (T 94),aj 12 (T 95)]])
 (.seq (.ops [.xs [I 96 (T 12),bi 97 .shr 123 (T 96) (C (.int .u64 32)),aj 9 (T 97)]])
 (.ops [.xs [I 99 (T 0),I 100 (T 11),I 101 (T 0),I 102 (T 11),bb 103 76 (T 101) (T 102),aB 104 124 (T 103),I 105 (T 12),cm 106 123 124 (T 105),I 107 (T 10),aV 108 127 [T 104,T 106,T 107],I 98 (T 108),ex 109 (T 98) 0,ex 110 (T 98) 1,bb 111 76 (T 99) (T 100),st 124 (T 111) (T 109),aj 10 (T 110)]])))))
 (.ops [.xs [bi 112 .add 3 (T 84) (ai 1),I 84 (T 112)]])))))))
 (.seq (.ops [.xs [I 114 (T 0),I 115 (T 5),I 116 (T 0),I 117 (T 5),bb 118 76 (T 116) (T 117),aB 119 124 (T 118),I 120 (T 9),cm 121 123 124 (T 120),I 122 (T 10),aV 123 127 [T 119,T 121,T 122],I 113 (T 123),ex 124 (T 113) 0,ex 125 (T 113) 1,bb 126 76 (T 114) (T 115),st 124 (T 126) (T 124),aj 10 (T 125)]])
 (.seq (.box 1461501637160761734743215600984595715940048461952 0 (.seq (.ops [.xs [I 127 (T 10),bi 128 .gtr 124 (T 127) (C (.int .u32 0))]])
 (.cond (T 128) (.seq (.ops [.xs [I 129 (T 7),bi 130 .sub 123 (T 129) (C (.int .u64 1)),aj 7 (T 130)]])
 (.seq (.ops [.xs [aj 13 (C (.int .u32 0))]])
 (.seq (.seq (.ops [.xs [I 131 (T 1),bt 132 76 (T 131),I 133 (ai 0)]])
 (.block 4 (.loop 11417970652611937578435456927608523274479230976 0 (.seq (.ops [.xs [bi 134 .lss 3 (T 133) (T 132)]])
 (.seq (.cond (T 134) (.skip)
 (.exit 4))
 (.seq (.block 5 (.seq (.ops [.xs [I 135 (T 133),aj 14 (T 135)]])
 (.ops [.xs [I 137 (T 0),I 138 (T 14),I 139 (T 0),I 140 (T 14),bb 141 76 (T 139) (T 140),aB 142 124 (T 141),I 143 (T 1),I 144 (T 14),bb 145 76 (T 143) (T 144),aB 146 124 (T 145),I 147 (T 13),aV 148 122 [T 142,T 146,T 147],I 136 (T 148),ex 149 (T 136) 0,ex 150 (T 136) 1,bb 151 76 (T 137) (T 138),st 124 (T 151) (T 149),aj 13 (T 150)]])))
 (.ops [.xs [bi 152 .add 3 (T 133) (ai 1),I 133 (T 152)]])))))))
 (.ops [.xs [I 153 (T 0),I 154 (T 5),bb 155 76 (T 153) (T 154),aB 156 124 (T 155),I 157 (T 13),bi 158 .add 124 (T 156) (T 157),bb 159 76 (T 153) (T 154),st 124 (T 159) (T 158)]]))))
 (.skip))))
 (.seq (.ops [.xs [I 160 (T 7),cm 161 123 124 (T 160),aj 4 (T 161)]])
 (.ret)))))))))),[.tmp 4]⟩
def Kq:cT:=⟨.seq (.ops [.xs [aj 4 (C (.slice none 0 0))]])
 (.seq (.ops [.xs [I 8 (T 0),bt 9 76 (T 8),ms 10 76 (T 9) (T 9),aj 5 (T 10)]])
 (.seq (.seq (.ops [.xs [I 11 (T 0),bt 12 76 (T 11),I 13 (ai 0)]])
 (.block 0 (.loop 8796093014208 0 (.seq (.ops [.xs [bi 14 .lss 3 (T 13) (T 12)]])
 (.seq (.cond (T 14) (.skip)
 (.exit 0))
 (.seq (.block 1 (.seq (.ops [.xs [I 15 (T 13),aj 6 (T 15)]])
 (.seq (.ops [.xs [I 16 (T 0),I 17 (T 6),bb 18 76 (T 16) (T 17),aB 19 124 (T 18),cm 20 124 123 (T 19),aj 7 (T 20)]])
 (.seq (.box 34357641344 0 (.seq (.ops [.xs [I 21 (T 6),bi 22 .add 3 (T 21) (ai 1),I 23 (T 0),bt 24 76 (T 23),bi 25 .lss 3 (T 22) (T 24)]])
 (.cond (T 25) (.ops [.xs [I 26 (T 7),I 27 (T 0),I 28 (T 6),bi 29 .add 3 (T 28) (ai 1),bb 30 76 (T 27) (T 29),aB 31 124 (T 30),cm 32 124 123 (T 31),bi 33 .shl 123 (T 32) (C (.int .u64 32)),bi 34 .or 123 (T 26) (T 33),aj 7 (T 34)]])
 (.skip))))
 (.ops [.xs [I 35 (T 5),I 36 (T 6),I 37 (T 7),I 38 (T 1),bi 39 .shr 123 (T 37) (T 38),cm 40 123 124 (T 39),bb 41 76 (T 35) (T 36),st 124 (T 41) (T 40)]])))))
 (.ops [.xs [bi 42 .add 3 (T 13) (ai 1),I 13 (T 42)]])))))))
 (.seq (.ops [.xs [I 43 (T 5),aV 44 110 [T 43],aj 4 (T 44)]])
 (.ret)))),[.tmp 4]⟩
def K1:cT:=⟨.seq (.ops [.xs [aj 4 (ai 0)]])
 (.seq (.ops [.xs [I 5 (T 0),I 6 (T 1),aV 7 133 [T 5,T 6],aj 4 (T 7)]])
 (.ret)),[.tmp 4]⟩
def J9:cT:=⟨.seq (.ops [.xs [aj 2 (ai 0)]])
 (.seq (.box 125 0 (.seq (.ops [.xs [I 3 (T 0),bi 4 .geq 124 (T 3) (C (.int .u32 65536))]])
 (.cond (T 4) (.seq (.ops [.xs [I 5 (T 0),bi 6 .shr 124 (T 5) (C (.int .u64 16)),aj 0 (T 6)]])
 (.ops [.xs [aj 2 (ai 16)]]))
 (.skip))))
 (.seq (.box 8069 0 (.seq (.ops [.xs [I 7 (T 0),bi 8 .geq 124 (T 7) (C (.int .u32 256))]])
 (.cond (T 8) (.seq (.ops [.xs [I 9 (T 0),bi 10 .shr 124 (T 9) (C (.int .u64 8)),aj 0 (T 10)]])
 (.ops [.xs [I 11 (T 2),bi 12 .add 3 (T 11) (ai 8),aj 2 (T 12)]]))
 (.skip))))
 (.seq (.ops [.xs [I 13 (T 2),I 14 (T 0),cm 15 124 5 (T 14),(ez 16 9 (C (.string {data:=(List.toArray (List.append (List.append [0,1,2,2,3,3,3,3,4,4,4,4,4,4,4,4,5,5,5,5,5,5,5,5,5,5,5,5,5,5,5,5,6,6,6,6,6,6,6,6,6,6,6,6,6,6,6,6,6,6,6,6,6,6,6,6,6,6,6,6,6,6,6,6] [7,7,7,7,7,7,7,7,7,7,7,7,7,7,7,7,7,7,7,7,7,7,7,7,7,7,7,7,7,7,7,7,7,7,7,7,7,7,7,7,7,7,7,7,7,7,7,7,7,7,7,7,7,7,7,7,7,7,7,7,7,7,7,7]) (List.append [8,8,8,8,8,8,8,8,8,8,8,8,8,8,8,8,8,8,8,8,8,8,8,8,8,8,8,8,8,8,8,8,8,8,8,8,8,8,8,8,8,8,8,8,8,8,8,8,8,8,8,8,8,8,8,8,8,8,8,8,8,8,8,8] [8,8,8,8,8,8,8,8,8,8,8,8,8,8,8,8,8,8,8,8,8,8,8,8,8,8,8,8,8,8,8,8,8,8,8,8,8,8,8,8,8,8,8,8,8,8,8,8,8,8,8,8,8,8,8,8,8,8,8,8,8,8,8,8])))})) (T 15)),cm 17 5 3 (T 16),bi 18 .add 3 (T 13) (T 17),aj 2 (T 18)]])
 (.ret)))),[.tmp 2]⟩
theorem u9:kL prog 3=some .i64:=by kernel_rfl
theorem aej:kL prog 24=some .i64:=by kernel_rfl
theorem ae8:e1 prog 27=some 93:=by kernel_rfl
theorem afj:fY prog 27=true:=by kernel_rfl
theorem Rr:bu prog 93=some 2:=by kernel_rfl
theorem afD:bytes? prog 93=some 40:=by kernel_rfl
theorem DQ:dL prog 93=some (.agg #[(.string {data:= #[]}),(.slice none 0 0)]):=by kernel_rfl
theorem afQ:prog.underlying 27=some (.slice 93):=by kernel_rfl
theorem afZ:e1 prog 22=some 34:=by kernel_rfl
theorem af7:fY prog 22=true:=by kernel_rfl
theorem aek:bu prog 34=some 1:=by kernel_rfl
theorem aev:bytes? prog 34=some 24:=by kernel_rfl
theorem aeE:dL prog 34=some (.slice none 0 0):=by kernel_rfl
theorem aeO:prog.underlying 22=some (.slice 34):=by kernel_rfl
theorem aeU:dk prog 34=some false:=by kernel_rfl
theorem ae1:e1 prog 34=some 3:=by kernel_rfl
theorem ae4:fY prog 34=true:=by kernel_rfl
theorem ae5:bu prog 3=some 1:=by kernel_rfl
theorem ae6:bytes? prog 3=some 8:=by kernel_rfl
theorem ae7:dL prog 3=some (.int .i64 0):=by kernel_rfl
theorem ae9:prog.underlying 34=some (.slice 3):=by kernel_rfl
theorem afa:e1 prog 95=some 27:=by kernel_rfl
theorem afb:fY prog 95=true:=by kernel_rfl
theorem afc:bu prog 27=some 1:=by kernel_rfl
theorem afd:bytes? prog 27=some 24:=by kernel_rfl
theorem afe:dL prog 27=some (.slice none 0 0):=by kernel_rfl
theorem aff:prog.underlying 95=some (.slice 27):=by kernel_rfl
theorem afg:jl prog 45=true:=by kernel_rfl
theorem afh:fY prog 45=true:=by kernel_rfl
theorem afi:dk prog 3=some false:=by kernel_rfl
theorem afk:bu prog 56=some 2:=by kernel_rfl
theorem afl:dk prog 56=some true:=by kernel_rfl
theorem afm:fG prog 56 0=some 0:=by kernel_rfl
theorem afn:dk prog 5=some false:=by kernel_rfl
theorem afo:bu prog 5=some 1:=by kernel_rfl
theorem afp:fG prog 56 1=some 1:=by kernel_rfl
theorem Aw:kL prog 5=some .u8:=by kernel_rfl
theorem afq:e1 prog 60=some 61:=by kernel_rfl
theorem afr:fY prog 60=true:=by kernel_rfl
theorem afs:bu prog 61=some 1:=by kernel_rfl
theorem aft:bytes? prog 61=some 24:=by kernel_rfl
theorem afu:dL prog 61=some (.slice none 0 0):=by kernel_rfl
theorem afv:prog.underlying 60=some (.slice 61):=by kernel_rfl
theorem afw:dk prog 61=some false:=by kernel_rfl
theorem afx:e1 prog 61=some 5:=by kernel_rfl
theorem afy:fY prog 61=true:=by kernel_rfl
theorem afz:bytes? prog 5=some 1:=by kernel_rfl
theorem afA:dL prog 5=some (.int .u8 0):=by kernel_rfl
theorem afB:prog.underlying 61=some (.slice 5):=by kernel_rfl
theorem afC:e1 prog 62=some 69:=by kernel_rfl
theorem afE:fY prog 62=true:=by kernel_rfl
theorem Rs:bu prog 69=some 2:=by kernel_rfl
theorem afF:bytes? prog 69=some 32:=by kernel_rfl
theorem DN:dL prog 69=some (.agg #[(.int .i64 0),(.slice none 0 0)]):=by kernel_rfl
theorem afG:prog.underlying 62=some (.slice 69):=by kernel_rfl
theorem afH:fG prog 69 0=some 0:=by kernel_rfl
theorem DO:dL prog 74=some (.agg #[(.slice none 0 0)]):=by kernel_rfl
theorem Rt:bu prog 74=some 1:=by kernel_rfl
theorem afI:dk prog 74=some true:=by kernel_rfl
theorem DP:dL prog 80=some (.agg #[(.bool false),(.slice none 0 0),(.bool false),(.slice none 0 0)]):=by kernel_rfl
theorem Ru:bu prog 80=some 4:=by kernel_rfl
theorem afJ:dk prog 80=some true:=by kernel_rfl
theorem afK:dk prog 93=some true:=by kernel_rfl
theorem afL:fG prog 93 0=some 0:=by kernel_rfl
theorem afM:dk prog 45=some false:=by kernel_rfl
theorem afN:bu prog 45=some 1:=by kernel_rfl
theorem afO:pW prog 42 0=some (0,some 2):=by kernel_rfl
theorem afP:fG prog 93 1=some 1:=by kernel_rfl
theorem DR:dL prog 42=some (.agg #[(.bool false),(.slice none 0 0),(.bool false),(.slice none 0 0)]):=by kernel_rfl
theorem Rv:bu prog 42=some 4:=by kernel_rfl
theorem afR:dk prog 42=some true:=by kernel_rfl
theorem afS:dk prog 27=some false:=by kernel_rfl
theorem afT:fG prog 42 0=some 0:=by kernel_rfl
theorem afU:dk prog 40=some true:=by kernel_rfl
theorem Rw:bu prog 40=some 2:=by kernel_rfl
theorem afV:fG prog 42 1=some 2:=by kernel_rfl
theorem Rx:mm prog 42=some [(0,2),(2,2)]:=by kernel_rfl
theorem afW:jl prog 9=true:=by kernel_rfl
theorem afX:fY prog 9=true:=by kernel_rfl
theorem afY:fG prog 40 0=some 0:=by kernel_rfl
theorem af0:dk prog 4=some false:=by kernel_rfl
theorem af1:bu prog 4=some 1:=by kernel_rfl
theorem Ry:mm prog 93=some [(0,1),(1,1)]:=by kernel_rfl
theorem af2:e1 prog 110=some 113:=by kernel_rfl
theorem af3:fY prog 110=true:=by kernel_rfl
theorem Rz:bu prog 113=some 5:=by kernel_rfl
theorem af4:bytes? prog 113=some 88:=by kernel_rfl
theorem DS:dL prog 113=some (.agg #[(.bool false),(.slice none 0 0),(.bool false),(.slice none 0 0),(.slice none 0 0)]):=by kernel_rfl
theorem af5:prog.underlying 110=some (.slice 113):=by kernel_rfl
theorem af6:dk prog 113=some true:=by kernel_rfl
theorem af8:fG prog 113 0=some 0:=by kernel_rfl
theorem RA:mm prog 69=some [(0,1),(1,1)]:=by kernel_rfl
theorem af9:dk prog 69=some true:=by kernel_rfl
theorem aga:fG prog 113 1=some 4:=by kernel_rfl
theorem agb:fG prog 69 1=some 1:=by kernel_rfl
theorem agc:e1 prog 115=some 4:=by kernel_rfl
theorem agd:fY prog 115=true:=by kernel_rfl
theorem age:bytes? prog 4=some 1:=by kernel_rfl
theorem agf:dL prog 4=some (.bool false):=by kernel_rfl
theorem agh:prog.underlying 115=some (.slice 4):=by kernel_rfl
theorem ael:bu prog 22=some 1:=by kernel_rfl
theorem aem:dk prog 22=some false:=by kernel_rfl
theorem aen:e1 prog 120=some 80:=by kernel_rfl
theorem aeo:fY prog 120=true:=by kernel_rfl
theorem aep:bytes? prog 80=some 64:=by kernel_rfl
theorem aeq:prog.underlying 120=some (.slice 80):=by kernel_rfl
theorem aer:e1 prog 72=some 120:=by kernel_rfl
theorem aes:fY prog 72=true:=by kernel_rfl
theorem aet:bu prog 120=some 1:=by kernel_rfl
theorem aeu:bytes? prog 120=some 24:=by kernel_rfl
theorem aew:dL prog 120=some (.slice none 0 0):=by kernel_rfl
theorem aex:prog.underlying 72=some (.slice 120):=by kernel_rfl
theorem Rj:mm prog 74=some [(0,1)]:=by kernel_rfl
theorem aey:fG prog 74 0=some 0:=by kernel_rfl
theorem aez:dk prog 72=some false:=by kernel_rfl
theorem aeA:bu prog 72=some 1:=by kernel_rfl
theorem aeB:dk prog 120=some false:=by kernel_rfl
theorem aeC:fG prog 80 0=some 0:=by kernel_rfl
theorem aeD:dk prog 78=some true:=by kernel_rfl
theorem Rk:bu prog 78=some 2:=by kernel_rfl
theorem aeF:fG prog 80 1=some 2:=by kernel_rfl
theorem DL:dL prog 78=some (.agg #[(.bool false),(.slice none 0 0)]):=by kernel_rfl
theorem aeG:fG prog 78 1=some 1:=by kernel_rfl
theorem aeH:dk prog 76=some false:=by kernel_rfl
theorem aeI:bu prog 76=some 1:=by kernel_rfl
theorem aeJ:e1 prog 76=some 124:=by kernel_rfl
theorem aeK:fY prog 76=true:=by kernel_rfl
theorem aeL:bu prog 124=some 1:=by kernel_rfl
theorem aeM:bytes? prog 124=some 4:=by kernel_rfl
theorem aeN:dL prog 124=some (.int .u32 0):=by kernel_rfl
theorem aeP:prog.underlying 76=some (.slice 124):=by kernel_rfl
theorem aeQ:dk prog 124=some false:=by kernel_rfl
theorem u_:kL prog 124=some .u32:=by kernel_rfl
theorem Au:kL prog 123=some .u64:=by kernel_rfl
theorem aeR:fG prog 78 0=some 0:=by kernel_rfl
theorem aeS:fG prog 40 1=some 1:=by kernel_rfl
theorem DM:dL prog 40=some (.agg #[(.bool false),(.slice none 0 0)]):=by kernel_rfl
theorem aeT:vA prog 4=true:=by kernel_rfl
theorem Rl:mm prog 40=some [(0,1),(1,1)]:=by kernel_rfl
theorem Rm:dL prog 140=some (.agg #[(.slice none 0 0),(.slice none 0 0),(.slice none 0 0)]):=by kernel_rfl
theorem Rn:mm prog 140=some [(0,1),(1,1),(2,1)]:=by kernel_rfl
theorem aeV:bu prog 140=some 3:=by kernel_rfl
theorem aeW:fG prog 140 2=some 2:=by kernel_rfl
theorem aeX:bu prog 115=some 1:=by kernel_rfl
theorem aeY:fG prog 140 1=some 1:=by kernel_rfl
theorem Ro:mm prog 113=some [(0,4),(4,1)]:=by kernel_rfl
theorem Rp:mm prog 80=some [(0,2),(2,2)]:=by kernel_rfl
theorem aeZ:prog.concrete 9=true:=by kernel_rfl
theorem Av:kL prog 142=some .u64:=by kernel_rfl
theorem ae0:pW prog 40 1=some (1,none):=by kernel_rfl
theorem ae2:fG prog 140 0=some 0:=by kernel_rfl
theorem ae3:dk prog 115=some false:=by kernel_rfl
theorem Rq:mm prog 78=some [(0,1),(1,1)]:=by kernel_rfl
attribute [simp] u9 aej ae8 afj Rr afD DQ afQ afZ af7 aek aev aeE aeO aeU ae1 ae4 ae5 ae6 ae7 ae9 afa afb afc afd afe aff afg afh afi afk afl afm afn afo afp Aw afq afr afs aft afu afv afw afx afy afz afA afB afC afE Rs afF DN afG afH DO Rt afI DP Ru afJ afK afL afM afN afO afP DR Rv afR afS afT afU Rw afV Rx afW afX afY af0 af1 Ry af2 af3 Rz af4 DS af5 af6 af8 RA af9 aga agb agc agd age agf agh ael aem aen aeo aep aeq aer aes aet aeu aew aex Rj aey aez aeA aeB aeC aeD Rk aeF DL aeG aeH aeI aeJ aeK aeL aeM aeN aeP aeQ u_ Au aeR aeS DM aeT Rl Rm Rn aeV aeW aeX aeY Ro Rp aeZ Av ae0 ae2 ae3 Rq
@[simp] theorem ajq{r:List bJ}{F:Fr}{H:ad}{Q:Fr->ad->Prop}(d:Nat)(x:Operand)(J:isInt (ar F x)=true)(ax:bc (cm d 5 3 x::r) Q):ba prog (cm d 5 3 x::r) Q ax F H=ba prog r Q .mk (a5 F d (.int .i64 (IntKind.i64.wrap (intOf (ar F x))))) H:=oo Aw u9 J ax
@[simp] theorem ajo{r:List bJ}{F:Fr}{H:ad}{Q:Fr->ad->Prop}(d:Nat)(x:Operand)(J:isInt (ar F x)=true)(ax:bc (cm d 3 5 x::r) Q):ba prog (cm d 3 5 x::r) Q ax F H=ba prog r Q .mk (a5 F d (.int .u8 (IntKind.u8.wrap (intOf (ar F x))))) H:=oo u9 Aw J ax
@[simp high] theorem aiv{r:List bJ}{F:Fr}{H:ad}{Q:Fr->ad->Prop}(d:Nat)(ax:bc (bL d 74::r) Q):ba prog (bL d 74::r) Q ax F H=ba prog r Q .mk (a5 F d (.pointer (some ⟨H.length,0,none⟩))) (H++[.own 74 false [(.slice none 0 0)]]):=by rw[tc,DO,eG,show flat (.agg #[(.slice none 0 0)])=true from by kernel_rfl,Rt];simp[Value.cells]
theorem agT:Whole prog 74 (.agg #[(.slice none 0 0)]):=⟨by kernel_rfl,by kernel_rfl,(by rw[if_pos (by rfl)];kernel_rfl)⟩
@[simp] theorem anD{F G:Fr}{H:ad}{r:List hx}{Q:Fr->Fr->ad->Prop}(c:Nat)(ax:bc (.bL c 74::r) Q):eo prog (.bL c 74::r) Q ax F G H=eo prog r Q .mk (a5 F c (.pointer (some ⟨H.length,0,none⟩))) (a5 G c (.agg #[(.slice none 0 0)])) (H++[.dead]):=th DO (by kernel_rfl) agT ax
@[simp high] theorem aix{r:List bJ}{F:Fr}{H:ad}{Q:Fr->ad->Prop}(d:Nat)(ax:bc (bL d 80::r) Q):ba prog (bL d 80::r) Q ax F H=ba prog r Q .mk (a5 F d (.pointer (some ⟨H.length,0,none⟩))) (H++[.own 80 false [(.bool false),(.slice none 0 0),(.bool false),(.slice none 0 0)]]):=by rw[tc,DP,eG,show flat (.agg #[(.bool false),(.slice none 0 0),(.bool false),(.slice none 0 0)])=true from by kernel_rfl,Ru];simp[Value.cells]
theorem agV:Whole prog 80 (.agg #[(.bool false),(.slice none 0 0),(.bool false),(.slice none 0 0)]):=⟨by kernel_rfl,by kernel_rfl,(by rw[if_pos (by rfl)];kernel_rfl)⟩
@[simp] theorem anF{F G:Fr}{H:ad}{r:List hx}{Q:Fr->Fr->ad->Prop}(c:Nat)(ax:bc (.bL c 80::r) Q):eo prog (.bL c 80::r) Q ax F G H=eo prog r Q .mk (a5 F c (.pointer (some ⟨H.length,0,none⟩))) (a5 G c (.agg #[(.bool false),(.slice none 0 0),(.bool false),(.slice none 0 0)])) (H++[.dead]):=th DP (by kernel_rfl) agV ax
@[simp high] theorem aiy{r:List bJ}{F:Fr}{H:ad}{Q:Fr->ad->Prop}(d:Nat)(ax:bc (bL d 93::r) Q):ba prog (bL d 93::r) Q ax F H=ba prog r Q .mk (a5 F d (.pointer (some ⟨H.length,0,none⟩))) (H++[.own 93 false [(.string {data:= #[]}),(.slice none 0 0)]]):=by rw[tc,DQ,eG,show flat (.agg #[(.string {data:= #[]}),(.slice none 0 0)])=true from by kernel_rfl,Rr];simp[Value.cells]
theorem agW:Whole prog 93 (.agg #[(.string {data:= #[]}),(.slice none 0 0)]):=⟨by kernel_rfl,by kernel_rfl,(by rw[if_pos (by rfl)];kernel_rfl)⟩
@[simp] theorem anG{F G:Fr}{H:ad}{r:List hx}{Q:Fr->Fr->ad->Prop}(c:Nat)(ax:bc (.bL c 93::r) Q):eo prog (.bL c 93::r) Q ax F G H=eo prog r Q .mk (a5 F c (.pointer (some ⟨H.length,0,none⟩))) (a5 G c (.agg #[(.string {data:= #[]}),(.slice none 0 0)])) (H++[.dead]):=th DQ (by kernel_rfl) agW ax
@[simp high] theorem ait{r:List bJ}{F:Fr}{H:ad}{Q:Fr->ad->Prop}(d:Nat)(ax:bc (bL d 42::r) Q):ba prog (bL d 42::r) Q ax F H=ba prog r Q .mk (a5 F d (.pointer (some ⟨H.length,0,none⟩))) (H++[.own 42 false [(.bool false),(.slice none 0 0),(.bool false),(.slice none 0 0)]]):=by rw[tc,DR,eG,show flat (.agg #[(.bool false),(.slice none 0 0),(.bool false),(.slice none 0 0)])=true from by kernel_rfl,Rv];simp[Value.cells]
theorem agR:Whole prog 42 (.agg #[(.bool false),(.slice none 0 0),(.bool false),(.slice none 0 0)]):=⟨by kernel_rfl,by kernel_rfl,(by rw[if_pos (by rfl)];kernel_rfl)⟩
@[simp] theorem anB{F G:Fr}{H:ad}{r:List hx}{Q:Fr->Fr->ad->Prop}(c:Nat)(ax:bc (.bL c 42::r) Q):eo prog (.bL c 42::r) Q ax F G H=eo prog r Q .mk (a5 F c (.pointer (some ⟨H.length,0,none⟩))) (a5 G c (.agg #[(.bool false),(.slice none 0 0),(.bool false),(.slice none 0 0)])) (H++[.dead]):=th DR (by kernel_rfl) agR ax
@[simp] theorem pT{r:List bJ}{F:Fr}{H:ad}{Q:Fr->ad->Prop}(d:Nat)(aM:List (Nat×Operand))(ax:bc (dF d 42 aM::r) Q):ba prog (dF d 42 aM::r) Q ax F H=gC (fun out=>ba prog r Q .mk (a5 F d (.agg out.toArray)) H) .mk (k1 [(0,2),(2,2)] (Value.cells (.agg #[(.bool false),(.slice none 0 0),(.bool false),(.slice none 0 0)])).toList (aM.map fun p=>(p.1,ar F p.2))):=rI DR (by kernel_rfl) Rx ax
@[simp] theorem aiU{r:List bJ}{F:Fr}{H:ad}{Q:Fr->ad->Prop}(d:Nat)(aM:List (Nat×Operand))(ax:bc (dF d 93 aM::r) Q):ba prog (dF d 93 aM::r) Q ax F H=gC (fun out=>ba prog r Q .mk (a5 F d (.agg out.toArray)) H) .mk (k1 [(0,1),(1,1)] (Value.cells (.agg #[(.string {data:= #[]}),(.slice none 0 0)])).toList (aM.map fun p=>(p.1,ar F p.2))):=rI DQ (by kernel_rfl) Ry ax
@[simp high] theorem air{r:List bJ}{F:Fr}{H:ad}{Q:Fr->ad->Prop}(d:Nat)(ax:bc (bL d 113::r) Q):ba prog (bL d 113::r) Q ax F H=ba prog r Q .mk (a5 F d (.pointer (some ⟨H.length,0,none⟩))) (H++[.own 113 false [(.bool false),(.slice none 0 0),(.bool false),(.slice none 0 0),(.slice none 0 0)]]):=by rw[tc,DS,eG,show flat (.agg #[(.bool false),(.slice none 0 0),(.bool false),(.slice none 0 0),(.slice none 0 0)])=true from by kernel_rfl,Rz];simp[Value.cells]
theorem agP:Whole prog 113 (.agg #[(.bool false),(.slice none 0 0),(.bool false),(.slice none 0 0),(.slice none 0 0)]):=⟨by kernel_rfl,by kernel_rfl,(by rw[if_pos (by rfl)];kernel_rfl)⟩
@[simp] theorem anz{F G:Fr}{H:ad}{r:List hx}{Q:Fr->Fr->ad->Prop}(c:Nat)(ax:bc (.bL c 113::r) Q):eo prog (.bL c 113::r) Q ax F G H=eo prog r Q .mk (a5 F c (.pointer (some ⟨H.length,0,none⟩))) (a5 G c (.agg #[(.bool false),(.slice none 0 0),(.bool false),(.slice none 0 0),(.slice none 0 0)])) (H++[.dead]):=th DS (by kernel_rfl) agP ax
@[simp] theorem aiQ{r:List bJ}{F:Fr}{H:ad}{Q:Fr->ad->Prop}(d:Nat)(aM:List (Nat×Operand))(ax:bc (dF d 69 aM::r) Q):ba prog (dF d 69 aM::r) Q ax F H=gC (fun out=>ba prog r Q .mk (a5 F d (.agg out.toArray)) H) .mk (k1 [(0,1),(1,1)] (Value.cells (.agg #[(.int .i64 0),(.slice none 0 0)])).toList (aM.map fun p=>(p.1,ar F p.2))):=rI DN (by kernel_rfl) RA ax
@[simp high] theorem aiu{r:List bJ}{F:Fr}{H:ad}{Q:Fr->ad->Prop}(d:Nat)(ax:bc (bL d 69::r) Q):ba prog (bL d 69::r) Q ax F H=ba prog r Q .mk (a5 F d (.pointer (some ⟨H.length,0,none⟩))) (H++[.own 69 false [(.int .i64 0),(.slice none 0 0)]]):=by rw[tc,DN,eG,show flat (.agg #[(.int .i64 0),(.slice none 0 0)])=true from by kernel_rfl,Rs];simp[Value.cells]
theorem agS:Whole prog 69 (.agg #[(.int .i64 0),(.slice none 0 0)]):=⟨by kernel_rfl,by kernel_rfl,(by rw[if_pos (by rfl)];kernel_rfl)⟩
@[simp] theorem anC{F G:Fr}{H:ad}{r:List hx}{Q:Fr->Fr->ad->Prop}(c:Nat)(ax:bc (.bL c 69::r) Q):eo prog (.bL c 69::r) Q ax F G H=eo prog r Q .mk (a5 F c (.pointer (some ⟨H.length,0,none⟩))) (a5 G c (.agg #[(.int .i64 0),(.slice none 0 0)])) (H++[.dead]):=th DN (by kernel_rfl) agS ax
@[simp] theorem aiR{r:List bJ}{F:Fr}{H:ad}{Q:Fr->ad->Prop}(d:Nat)(aM:List (Nat×Operand))(ax:bc (dF d 74 aM::r) Q):ba prog (dF d 74 aM::r) Q ax F H=gC (fun out=>ba prog r Q .mk (a5 F d (.agg out.toArray)) H) .mk (k1 [(0,1)] (Value.cells (.agg #[(.slice none 0 0)])).toList (aM.map fun p=>(p.1,ar F p.2))):=rI DO (by kernel_rfl) Rj ax
@[simp high] theorem aiw{r:List bJ}{F:Fr}{H:ad}{Q:Fr->ad->Prop}(d:Nat)(ax:bc (bL d 78::r) Q):ba prog (bL d 78::r) Q ax F H=ba prog r Q .mk (a5 F d (.pointer (some ⟨H.length,0,none⟩))) (H++[.own 78 false [(.bool false),(.slice none 0 0)]]):=by rw[tc,DL,eG,show flat (.agg #[(.bool false),(.slice none 0 0)])=true from by kernel_rfl,Rk];simp[Value.cells]
@[simp] theorem ajh{r:List bJ}{F:Fr}{H:ad}{Q:Fr->ad->Prop}(d:Nat)(x:Operand)(J:isInt (ar F x)=true)(ax:bc (cm d 124 123 x::r) Q):ba prog (cm d 124 123 x::r) Q ax F H=ba prog r Q .mk (a5 F d (.int .u64 (IntKind.u64.wrap (intOf (ar F x))))) H:=oo u_ Au J ax
@[simp] theorem ajg{r:List bJ}{F:Fr}{H:ad}{Q:Fr->ad->Prop}(d:Nat)(x:Operand)(J:isInt (ar F x)=true)(ax:bc (cm d 123 3 x::r) Q):ba prog (cm d 123 3 x::r) Q ax F H=ba prog r Q .mk (a5 F d (.int .i64 (IntKind.i64.wrap (intOf (ar F x))))) H:=oo Au u9 J ax
@[simp high] theorem ais{r:List bJ}{F:Fr}{H:ad}{Q:Fr->ad->Prop}(d:Nat)(ax:bc (bL d 40::r) Q):ba prog (bL d 40::r) Q ax F H=ba prog r Q .mk (a5 F d (.pointer (some ⟨H.length,0,none⟩))) (H++[.own 40 false [(.bool false),(.slice none 0 0)]]):=by rw[tc,DM,eG,show flat (.agg #[(.bool false),(.slice none 0 0)])=true from by kernel_rfl,Rw];simp[Value.cells]
theorem agQ:Whole prog 40 (.agg #[(.bool false),(.slice none 0 0)]):=⟨by kernel_rfl,by kernel_rfl,(by rw[if_pos (by rfl)];kernel_rfl)⟩
@[simp] theorem anA{F G:Fr}{H:ad}{r:List hx}{Q:Fr->Fr->ad->Prop}(c:Nat)(ax:bc (.bL c 40::r) Q):eo prog (.bL c 40::r) Q ax F G H=eo prog r Q .mk (a5 F c (.pointer (some ⟨H.length,0,none⟩))) (a5 G c (.agg #[(.bool false),(.slice none 0 0)])) (H++[.dead]):=th DM (by kernel_rfl) agQ ax
@[simp] theorem aiP{r:List bJ}{F:Fr}{H:ad}{Q:Fr->ad->Prop}(d:Nat)(aM:List (Nat×Operand))(ax:bc (dF d 40 aM::r) Q):ba prog (dF d 40 aM::r) Q ax F H=gC (fun out=>ba prog r Q .mk (a5 F d (.agg out.toArray)) H) .mk (k1 [(0,1),(1,1)] (Value.cells (.agg #[(.bool false),(.slice none 0 0)])).toList (aM.map fun p=>(p.1,ar F p.2))):=rI DM (by kernel_rfl) Rl ax
@[simp] theorem aiO{r:List bJ}{F:Fr}{H:ad}{Q:Fr->ad->Prop}(d:Nat)(aM:List (Nat×Operand))(ax:bc (dF d 140 aM::r) Q):ba prog (dF d 140 aM::r) Q ax F H=gC (fun out=>ba prog r Q .mk (a5 F d (.agg out.toArray)) H) .mk (k1 [(0,1),(1,1),(2,1)] (Value.cells (.agg #[(.slice none 0 0),(.slice none 0 0),(.slice none 0 0)])).toList (aM.map fun p=>(p.1,ar F p.2))):=rI Rm (by kernel_rfl) Rn ax
@[simp] theorem Su{r:List bJ}{F:Fr}{H:ad}{Q:Fr->ad->Prop}(d:Nat)(aM:List (Nat×Operand))(ax:bc (dF d 113 aM::r) Q):ba prog (dF d 113 aM::r) Q ax F H=gC (fun out=>ba prog r Q .mk (a5 F d (.agg out.toArray)) H) .mk (k1 [(0,4),(4,1)] (Value.cells (.agg #[(.bool false),(.slice none 0 0),(.bool false),(.slice none 0 0),(.slice none 0 0)])).toList (aM.map fun p=>(p.1,ar F p.2))):=rI DS (by kernel_rfl) Ro ax
@[simp] theorem aiT{r:List bJ}{F:Fr}{H:ad}{Q:Fr->ad->Prop}(d:Nat)(aM:List (Nat×Operand))(ax:bc (dF d 80 aM::r) Q):ba prog (dF d 80 aM::r) Q ax F H=gC (fun out=>ba prog r Q .mk (a5 F d (.agg out.toArray)) H) .mk (k1 [(0,2),(2,2)] (Value.cells (.agg #[(.bool false),(.slice none 0 0),(.bool false),(.slice none 0 0)])).toList (aM.map fun p=>(p.1,ar F p.2))):=rI DP (by kernel_rfl) Rp ax
@[simp] theorem ajn{r:List bJ}{F:Fr}{H:ad}{Q:Fr->ad->Prop}(d:Nat)(x:Operand)(J:isInt (ar F x)=true)(ax:bc (cm d 3 142 x::r) Q):ba prog (cm d 3 142 x::r) Q ax F H=ba prog r Q .mk (a5 F d (.int .u64 (IntKind.u64.wrap (intOf (ar F x))))) H:=oo u9 Av J ax
@[simp] theorem ajl{r:List bJ}{F:Fr}{H:ad}{Q:Fr->ad->Prop}(d:Nat)(x:Operand)(J:isInt (ar F x)=true)(ax:bc (cm d 142 3 x::r) Q):ba prog (cm d 142 3 x::r) Q ax F H=ba prog r Q .mk (a5 F d (.int .i64 (IntKind.i64.wrap (intOf (ar F x))))) H:=oo Av u9 J ax
@[simp] theorem ajj{r:List bJ}{F:Fr}{H:ad}{Q:Fr->ad->Prop}(d:Nat)(x:Operand)(J:isInt (ar F x)=true)(ax:bc (cm d 124 5 x::r) Q):ba prog (cm d 124 5 x::r) Q ax F H=ba prog r Q .mk (a5 F d (.int .u8 (IntKind.u8.wrap (intOf (ar F x))))) H:=oo u_ Aw J ax
@[simp] theorem ajm{r:List bJ}{F:Fr}{H:ad}{Q:Fr->ad->Prop}(d:Nat)(x:Operand)(J:isInt (ar F x)=true)(ax:bc (cm d 3 123 x::r) Q):ba prog (cm d 3 123 x::r) Q ax F H=ba prog r Q .mk (a5 F d (.int .u64 (IntKind.u64.wrap (intOf (ar F x))))) H:=oo u9 Au J ax
@[simp] theorem ajf{r:List bJ}{F:Fr}{H:ad}{Q:Fr->ad->Prop}(d:Nat)(x:Operand)(J:isInt (ar F x)=true)(ax:bc (cm d 123 124 x::r) Q):ba prog (cm d 123 124 x::r) Q ax F H=ba prog r Q .mk (a5 F d (.int .u32 (IntKind.u32.wrap (intOf (ar F x))))) H:=oo Au u_ J ax
@[simp] theorem ajk{r:List bJ}{F:Fr}{H:ad}{Q:Fr->ad->Prop}(d:Nat)(x:Operand)(J:isInt (ar F x)=true)(ax:bc (cm d 142 124 x::r) Q):ba prog (cm d 142 124 x::r) Q ax F H=ba prog r Q .mk (a5 F d (.int .u32 (IntKind.u32.wrap (intOf (ar F x))))) H:=oo Av u_ J ax
@[simp] theorem aji{r:List bJ}{F:Fr}{H:ad}{Q:Fr->ad->Prop}(d:Nat)(x:Operand)(J:isInt (ar F x)=true)(ax:bc (cm d 124 142 x::r) Q):ba prog (cm d 124 142 x::r) Q ax F H=ba prog r Q .mk (a5 F d (.int .u64 (IntKind.u64.wrap (intOf (ar F x))))) H:=oo u_ Av J ax
@[simp] theorem aiS{r:List bJ}{F:Fr}{H:ad}{Q:Fr->ad->Prop}(d:Nat)(aM:List (Nat×Operand))(ax:bc (dF d 78 aM::r) Q):ba prog (dF d 78 aM::r) Q ax F H=gC (fun out=>ba prog r Q .mk (a5 F d (.agg out.toArray)) H) .mk (k1 [(0,1),(1,1)] (Value.cells (.agg #[(.bool false),(.slice none 0 0)])).toList (aM.map fun p=>(p.1,ar F p.2))):=rI DL (by kernel_rfl) Rq ax
@[simp] theorem ajp{r:List bJ}{F:Fr}{H:ad}{Q:Fr->ad->Prop}(d:Nat)(x:Operand)(J:isInt (ar F x)=true)(ax:bc (cm d 5 124 x::r) Q):ba prog (cm d 5 124 x::r) Q ax F H=ba prog r Q .mk (a5 F d (.int .u32 (IntKind.u32.wrap (intOf (ar F x))))) H:=oo Aw u_ J ax
theorem agU:Whole prog 78 (.agg #[(.bool false),(.slice none 0 0)]):=⟨by kernel_rfl,by kernel_rfl,(by rw[if_pos (by rfl)];kernel_rfl)⟩
@[simp] theorem anE{F G:Fr}{H:ad}{r:List hx}{Q:Fr->Fr->ad->Prop}(c:Nat)(ax:bc (.bL c 78::r) Q):eo prog (.bL c 78::r) Q ax F G H=eo prog r Q .mk (a5 F c (.pointer (some ⟨H.length,0,none⟩))) (a5 G c (.agg #[(.bool false),(.slice none 0 0)])) (H++[.dead]):=th DL (by kernel_rfl) agU ax
theorem aaH:gK 31 29 JF:=fI Tryz.f31
theorem Z4:gK 36 5 Jv:=fI Tryz.f36
theorem aao:gK 39 15 JC:=fI Tryz.f39
theorem aaz:gK 48 6 JD:=fI Tryz.f48
theorem aaB:gK 49 8 JE:=fI Tryz.f49
theorem Z8:gK 59 7 Jx:=fI Tryz.f59
theorem aaL:gK 61 9 JI:=fI Tryz.f61
theorem aaI:gK 62 15 JG:=fI Tryz.f62
theorem aaM:gK 63 9 JJ:=fI Tryz.f63
theorem aaJ:gK 64 9 JH:=fI Tryz.f64
theorem ZR:gK 66 16 Jp:=fI Tryz.f66
theorem ZP:gK 67 9 Jo:=fI Tryz.f67
theorem Z5:gK 75 6 Jw:=fI Tryz.f75
theorem Z1:gK 79 16 Ju:=fI Tryz.f79
theorem ZX:gK 88 20 Jt:=fI Tryz.f88
theorem aaO:gK 90 19 JK:=fI Tryz.f90
theorem aaP:gK 91 19 JL:=fI Tryz.f91
theorem aac:gK 92 13 Jz:=fI Tryz.f92
theorem aai:gK 93 68 Ej:=fI Tryz.f93
theorem ZW:gK 94 9 Js:=fI Tryz.f94
theorem ZU:gK 95 11 Jr:=fI Tryz.f95
theorem Z_:gK 101 41 Jy:=fI Tryz.f101
theorem ZN:gK 104 6 Jm:=fI Tryz.f104
theorem ZO:gK 105 42 Jn:=fI Tryz.f105
theorem Z9:gK 107 44 Eh:=fI Tryz.f107
theorem aaj:gK 110 21 JB:=fI Tryz.f110
theorem ZS:gK 113 9 Jq:=fI Tryz.f113
theorem aaf:gK 116 54 JA:=fI Tryz.f116
theorem aad:gK 118 41 Ei:=fI Tryz.f118
theorem ZD:gK 122 22 Jk:=fI Tryz.f122
theorem ZI:gK 127 25 Jl:=fI Tryz.f127
theorem ZJ:c7 7 217 Kb:=c8 Tryz.f7 []
theorem aap:c7 9 6 Ky:=c8 Tryz.f9 [(6,74),(7,80),(9,80)]
theorem aas:c7 10 12 KB:=c8 Tryz.f10 []
theorem ZL:c7 12 57 Kd:=c8 Tryz.f12 []
theorem aal:c7 16 7 Kv:=c8 Tryz.f16 [(7,42)]
theorem Zl:c7 17 2 JQ:=c8 Tryz.f17 [(2,42),(3,42)]
theorem aam:c7 18 2 Kw:=c8 Tryz.f18 [(2,42),(3,42)]
theorem Zw:c7 19 2 J1:=c8 Tryz.f19 [(2,42)]
theorem aaq:c7 20 6 Kz:=c8 Tryz.f20 [(6,74),(7,74),(8,80)]
theorem Zs:c7 23 2 JX:=c8 Tryz.f23 [(2,42),(3,42)]
theorem ZM:c7 24 64 Ke:=c8 Tryz.f24 []
theorem Zj:c7 26 2 JO:=c8 Tryz.f26 [(2,42),(3,42),(4,42)]
theorem aat:c7 27 6 KC:=c8 Tryz.f27 [(6,113),(9,69)]
theorem aar:c7 28 9 KA:=c8 Tryz.f28 [(9,69),(12,93),(15,74),(16,80)]
theorem aan:c7 29 139 Kx:=c8 Tryz.f29 []
theorem aax:c7 32 2 KG:=c8 Tryz.f32 [(2,74)]
theorem aaC:c7 33 1 KJ:=c8 Tryz.f33 [(1,74),(2,80),(4,80),(7,80)]
theorem aaG:c7 34 1 KN:=c8 Tryz.f34 [(1,74),(2,74)]
theorem Z0:c7 35 2 Kk:=c8 Tryz.f35 [(2,80),(3,80)]
theorem ZV:c7 37 1 Kh:=c8 Tryz.f37 [(1,78)]
theorem aaE:c7 38 1 KL:=c8 Tryz.f38 [(1,74),(6,113),(9,93)]
theorem Zu:c7 41 1 JZ:=c8 Tryz.f41 [(1,40)]
theorem Zp:c7 43 1 JU:=c8 Tryz.f43 [(1,42),(2,42),(3,40),(4,40),(5,40),(6,40),(7,40)]
theorem Zk:c7 44 2 JP:=c8 Tryz.f44 [(2,40),(3,40)]
theorem Zq:c7 45 2 JV:=c8 Tryz.f45 [(2,40),(3,40),(4,40)]
theorem Zo:c7 46 2 JT:=c8 Tryz.f46 [(2,40),(3,40)]
theorem aau:c7 47 6 KD:=c8 Tryz.f47 [(6,74),(7,80),(9,74),(10,80),(12,93),(13,80)]
theorem aaD:c7 50 2 KK:=c8 Tryz.f50 [(2,74),(3,74),(8,80)]
theorem Z3:c7 51 1 Km:=c8 Tryz.f51 [(1,80)]
theorem Zh:c7 53 1 JM:=c8 Tryz.f53 [(1,40),(2,40)]
theorem Zt:c7 54 2 JY:=c8 Tryz.f54 [(2,42),(8,40),(10,40),(11,40)]
theorem ZK:c7 55 12 Kc:=c8 Tryz.f55 []
theorem Zi:c7 56 2 JN:=c8 Tryz.f56 [(2,40),(3,40),(4,40)]
theorem aav:c7 57 3 KE:=c8 Tryz.f57 [(3,74),(4,74)]
theorem aay:c7 58 1 KH:=c8 Tryz.f58 [(1,74),(6,74),(11,80),(14,80)]
theorem aaS:c7 60 48 KS:=c8 Tryz.f60 []
theorem aaA:c7 65 2 KI:=c8 Tryz.f65 [(2,74),(4,80),(5,80),(7,80)]
theorem aaF:c7 68 1 KM:=c8 Tryz.f68 [(1,74),(2,74),(5,74),(6,80),(8,80)]
theorem Zn:c7 69 2 JS:=c8 Tryz.f69 [(2,40),(3,40),(4,40),(5,40),(6,40)]
theorem Zm:c7 70 2 JR:=c8 Tryz.f70 [(2,40),(3,40),(4,40),(5,40),(12,40),(13,40)]
theorem Zv:c7 71 2 J0:=c8 Tryz.f71 [(2,40),(3,40),(4,40)]
theorem Zy:c7 72 1 J3:=c8 Tryz.f72 [(1,40),(2,40)]
theorem aaR:c7 73 48 KR:=c8 Tryz.f73 []
theorem ZY:c7 74 2 Ki:=c8 Tryz.f74 [(2,80),(13,80)]
theorem aaN:c7 76 9 KP:=c8 Tryz.f76 []
theorem ZZ:c7 77 2 Kj:=c8 Tryz.f77 [(2,80),(3,80),(4,80)]
theorem aah:c7 78 45 Kt:=c8 Tryz.f78 []
theorem Zx:c7 80 2 J2:=c8 Tryz.f80 [(2,40),(4,40)]
theorem Zr:c7 81 1 JW:=c8 Tryz.f81 [(1,40),(2,40)]
theorem ZA:c7 82 55 J5:=c8 Tryz.f82 []
theorem ZB:c7 83 41 J6:=c8 Tryz.f83 []
theorem Zz:c7 84 41 J4:=c8 Tryz.f84 []
theorem aaK:c7 85 8 KO:=c8 Tryz.f85 []
theorem aaw:c7 86 69 KF:=c8 Tryz.f86 []
theorem Z6:c7 87 2 Kn:=c8 Tryz.f87 [(2,80),(3,80),(4,80)]
theorem ZG:c7 89 30 J_:=c8 Tryz.f89 []
theorem aaT:c7 96 48 KT:=c8 Tryz.f96 []
theorem ZC:c7 97 12 J7:=c8 Tryz.f97 []
theorem aaV:c7 98 13 KV:=c8 Tryz.f98 []
theorem aaW:c7 99 11 KW:=c8 Tryz.f99 []
theorem aag:c7 100 77 Ks:=c8 Tryz.f100 []
theorem ZQ:c7 102 2 Kf:=c8 Tryz.f102 [(2,78),(3,78),(4,78)]
theorem aaQ:c7 103 19 KQ:=c8 Tryz.f103 []
theorem Z7:c7 106 2 Ko:=c8 Tryz.f106 [(2,78),(3,78),(4,80),(5,78),(6,78),(7,78),(8,78),(9,78)]
theorem aaU:c7 108 28 KU:=c8 Tryz.f108 []
theorem Z2:c7 109 1 Kl:=c8 Tryz.f109 [(1,80),(2,80)]
theorem ZH:c7 112 51 Ka:=c8 Tryz.f112 []
theorem aaX:c7 114 23 KX:=c8 Tryz.f114 []
theorem aaY:c7 115 15 KY:=c8 Tryz.f115 []
theorem aae:c7 117 85 Kr:=c8 Tryz.f117 []
theorem ZT:c7 119 2 Kg:=c8 Tryz.f119 [(2,78),(3,78),(4,78),(5,78),(8,78),(9,78)]
theorem aa0:c7 120 143 K0:=c8 Tryz.f120 []
theorem aaZ:c7 121 18 KZ:=c8 Tryz.f121 []
theorem ZE:c7 123 6 J8:=c8 Tryz.f123 []
theorem aak:c7 124 41 Ku:=c8 Tryz.f124 []
theorem aaa:c7 125 162 Kp:=c8 Tryz.f125 []
theorem aab:c7 126 45 Kq:=c8 Tryz.f126 []
theorem aa1:c7 128 8 K1:=c8 Tryz.f128 []
theorem ZF:c7 132 19 J9:=c8 Tryz.f132 []
end Go.cl
end
