/- Part of the proof of ShopPlans. -/
import Derived.Test.YtoiodfcefbapkaaGreatShopPlansD
set_option linter.unusedVariables false
set_option linter.unusedSimpArgs false
section
set_option maxRecDepth 100000
namespace Go.Sx
open Go.Proofs
open Go.Proofs.Tryz (prog)
abbrev ZI (f n : Nat) (z : ZFunc) : Prop := ∀ {args : List Value} {H : SHeap} {Q : Value → SHeap → Prop}, args.length ≤ n → ZXt prog z.code (retZ z.results Q) .mk (argF args) (fun _ => undef) H → SW prog f args H Q
theorem zi {f n : Nat} {z : ZFunc} (fn : Func) (C : Cells) (hf : prog.funcs[f]? = some fn := by kernel_rfl) (hn : (fn.name == "runtime.NumGoroutine") = false := by kernel_rfl) (hc : comp prog fn = some z.back := by kernel_rfl) (hz : (zokC prog C z.code && zokR C z.results) = true := by kernel_rfl) (hm : Nat.ble n fn.ntmps = true := by kernel_rfl) (hC : (C.all fun p => decide (n ≤ p.1)) = true := by kernel_rfl) : ZI f n z :=
  fun hl h => SW.zintot hf hn hc hz (Nat.le_trans hl (Nat.le_of_ble_eq_true hm)) (cells_ge hl hC) h
abbrev XI (f n : Nat) (z : XFunc) : Prop := ∀ {args : List Value} {H : SHeap} {Q : Value → SHeap → Prop}, args.length ≤ n → XXt prog z.code (retX prog z.results Q) .mk (argF args) H → SW prog f args H Q
theorem xi {f n : Nat} {z : XFunc} (fn : Func) (hf : prog.funcs[f]? = some fn := by kernel_rfl) (hn : (fn.name == "runtime.NumGoroutine") = false := by kernel_rfl) (hc : comp prog fn = some z := by kernel_rfl) (hm : Nat.ble n fn.ntmps = true := by kernel_rfl) : XI f n z :=
  fun hl h => SW.intot hf hn hc (Nat.le_trans hl (Nat.le_of_ble_eq_true hm)) h
def X_shop_valid : XFunc := ⟨.seq (.ops [(bx 1 22 (T 0)), (sa 2 (C (.bool false)))])
  (.seq (.seq (.ops [(ld 3 22 (T 1)), (ln 4 22 (T 3)), (bi 5 .lss 3 (T 4) (I 1)), (mv 6 (T 5)), gd 6 false ((ld 7 22 (T 1))), gd 6 false ((ln 8 22 (T 7))),
   gd 6 false ((bi 9 .gtr 3 (T 8) (I 8))), (pk 10 (T 6) (C (.bool true)) (T 9)), (mv 11 (T 10)), gd 11 false ((ld 12 22 (T 1))),
   gd 11 false ((ia 13 22 (T 12) (I 0))), gd 11 false ((ld 14 34 (T 13))), gd 11 false ((ln 15 34 (T 14))), gd 11 false ((bi 16 .lss 3 (T 15) (I 1))),
   (pk 17 (T 11) (C (.bool true)) (T 16)), (mv 18 (T 17)), gd 18 false ((ld 19 22 (T 1))), gd 18 false ((ia 20 22 (T 19) (I 0))),
   gd 18 false ((ld 21 34 (T 20))), gd 18 false ((ln 22 34 (T 21))), gd 18 false ((bi 23 .gtr 3 (T 22) (I 8))), (pk 24 (T 18) (C (.bool true)) (T 23))])
  (.cond (T 24) (.seq (.ops [(sa 2 (C (.bool false)))])
  (.ret))
  (.skip)))
  (.seq (.ops [(ld 25 22 (T 1)), (mf 26 (.func 62) #[] #[(T 1)]), (cl 27 61 [(T 25), (T 26)]), (un 28 .not (T 27)), (sa 2 (T 28))])
  (.ret))), [.tmp 2]⟩
def X_num_Rat_Over : XFunc := ⟨.seq (.ops [(bx 1 80 (T 0)), (al 2 78)])
  (.seq (.ops [(fa 3 80 (T 1) 0), (ld 4 78 (T 3)), (st 78 (T 2) (T 4))])
  (.ret)), [.cell 2 78]⟩
def X_ref_in : XFunc := ⟨.seq (.ops [(sa 6 (C (.bool false)))])
  (.seq (.ops [(mv 7 (T 0)), (mv 8 (T 1)), (bi 9 .geq 3 (T 7) (T 8)), (mv 10 (T 9)), gd 10 true ((mv 11 (T 0))), gd 10 true ((mv 12 (T 2))),
   gd 10 true ((bi 13 .leq 3 (T 11) (T 12))), (pk 14 (T 10) (T 13) (C (.bool false))), (sa 6 (T 14))])
  (.ret)), [.tmp 6]⟩
def X_shop_table_jobs : XFunc := ⟨.seq (.ops [(bx 1 74 (T 0)), (sa 2 (I 0))])
  (.seq (.ops [(fa 3 74 (T 1) 0), (ld 4 72 (T 3)), (ln 5 72 (T 4)), (sa 2 (T 5))])
  (.ret)), [.tmp 2]⟩
def X_shop_table_machines : XFunc := ⟨.seq (.ops [(bx 1 74 (T 0)), (sa 2 (I 0))])
  (.seq (.ops [(fa 3 74 (T 1) 0), (ld 4 72 (T 3)), (ia 5 72 (T 4) (I 0)), (ld 6 120 (T 5)), (ln 7 120 (T 6)), (sa 2 (T 7))])
  (.ret)), [.tmp 2]⟩
def X_num_Whole : XFunc := ⟨.seq (.ops [(al 2 80)])
  (.seq (.ops [(mv 3 (T 0)), (cl 4 88 [(T 3)]), (cl 5 88 [(I 1)]), (bd 6 80 [(0, (T 4)), (1, (T 5))]), (st 80 (T 2) (T 6))])
  (.ret)), [.cell 2 80]⟩
def X_slices_ContainsFunc_SSint_Sint : XFunc := ⟨.seq (.ops [(sa 4 (C (.bool false)))])
  (.seq (.ops [(mv 5 (T 0)), (mv 6 (T 1)), (cl 7 90 [(T 5), (T 6)]), (bi 8 .geq 3 (T 7) (I 0)), (sa 4 (T 8))])
  (.ret)), [.tmp 4]⟩
def X_shop_valid_c1 : XFunc := ⟨.seq (.ops [(sa 3 (C (.bool false)))])
  (.seq (.ops [(mv 4 (T 0)), (ln 5 34 (T 4)), (ld 6 22 (T 1)), (ia 7 22 (T 6) (I 0)), (ld 8 34 (T 7)), (ln 9 34 (T 8)), (bi 10 .neq 3 (T 5) (T 9)), (mv 11 (T 10)),
   gd 11 false ((mv 12 (T 0))), gd 11 false ((cl 13 63 [(T 12), (Fu 64)])), (pk 14 (T 11) (C (.bool true)) (T 13)), (sa 3 (T 14))])
  (.ret)), [.tmp 3]⟩
def X_slices_ContainsFunc_Sint_int : XFunc := ⟨.seq (.ops [(sa 4 (C (.bool false)))])
  (.seq (.ops [(mv 5 (T 0)), (mv 6 (T 1)), (cl 7 91 [(T 5), (T 6)]), (bi 8 .geq 3 (T 7) (I 0)), (sa 4 (T 8))])
  (.ret)), [.tmp 4]⟩
def X_shop_valid_c1_c1 : XFunc := ⟨.seq (.ops [(sa 2 (C (.bool false)))])
  (.seq (.ops [(mv 3 (T 0)), (bi 4 .lss 3 (T 3) (I 0)), (mv 5 (T 4)), gd 5 false ((mv 6 (T 0))), gd 5 false ((bi 7 .gtr 3 (T 6) (I 1000))),
   (pk 8 (T 5) (C (.bool true)) (T 7)), (sa 2 (T 8))])
  (.ret)), [.tmp 2]⟩
def X_num_Int_Mul : XFunc := ⟨.seq (.ops [(bx 2 78 (T 0)), (bx 3 78 (T 1)), (al 4 78)])
  (.seq (.ops [(fa 5 78 (T 2) 0), (ld 6 4 (T 5)), (fa 7 78 (T 3) 0), (ld 8 4 (T 7)), (bi 9 .neq 4 (T 6) (T 8)), (fa 10 78 (T 2) 1), (ld 11 76 (T 10)),
   (fa 12 78 (T 3) 1), (ld 13 76 (T 12)), nb (cl 14 93 [(T 11), (T 13)]), (cl 15 92 [(T 9), (T 14)]), (st 78 (T 4) (T 15))])
  (.ret)), [.cell 4 78]⟩
def X_num_Int_Cmp : XFunc := ⟨.seq (.ops [(bx 2 78 (T 0)), (bx 3 78 (T 1)), (sa 4 (I 0))])
  (.seq (.ops [(ld 5 78 (T 2)), (ld 6 78 (T 3)), (cl 7 94 [(T 5), (T 6)]), (cl 8 95 [(T 7)]), (sa 4 (T 8))])
  (.ret)), [.tmp 4]⟩
def X_num_Rat_Sign : XFunc := ⟨.seq (.ops [(bx 1 80 (T 0)), (sa 2 (I 0))])
  (.seq (.ops [(fa 3 80 (T 1) 0), (ld 4 78 (T 3)), (cl 5 95 [(T 4)]), (sa 2 (T 5))])
  (.ret)), [.tmp 2]⟩
def X_num_Rat_Integer : XFunc := ⟨.seq (.ops [(bx 1 80 (T 0)), (sa 2 (C (.bool false)))])
  (.seq (.ops [(fa 3 80 (T 1) 1), (fa 4 78 (T 3) 1), (ld 5 76 (T 4)), (ln 6 76 (T 5)), (bi 7 .eql 3 (T 6) (I 1)), (mv 8 (T 7)), gd 8 true ((fa 9 80 (T 1) 1)),
   gd 8 true ((fa 10 78 (T 9) 1)), gd 8 true ((ld 11 76 (T 10))), gd 8 true ((ia 12 76 (T 11) (I 0))), gd 8 true ((ld 13 124 (T 12))),
   gd 8 true ((bi 14 .eql 124 (T 13) (C (.int .u32 1)))), (pk 15 (T 8) (T 14) (C (.bool false))), (sa 2 (T 15))])
  (.ret)), [.tmp 2]⟩
def X_num_Of : XFunc := ⟨.seq (.ops [(al 2 78)])
  (.seq (.ops [(mv 4 (T 0)), (cv 5 3 123 (T 4)), (sa 3 (T 5))])
  (.seq (.seq (.ops [(mv 6 (T 0)), (bi 7 .lss 3 (T 6) (I 0))])
  (.cond (T 7) (.ops [(mv 8 (T 3)), (un 9 .neg (T 8)), (sa 3 (T 9))])
  (.skip)))
  (.seq (.ops [(mv 10 (T 0)), (bi 11 .lss 3 (T 10) (I 0)), (mv 12 (T 3)), (cv 13 123 124 (T 12)), (mv 14 (T 3)), (bi 15 .shr 123 (T 14) (C (.int .u64 32))),
   (cv 16 123 124 (T 15)), (bs 17 76 2 [(0, (T 13)), (1, (T 16))]), (cl 18 110 [(T 17)]), (cl 19 92 [(T 11), (T 18)]), (st 78 (T 2) (T 19))])
  (.ret)))), [.cell 2 78]⟩
def X_slices_IndexFunc_SSint_Sint : XFunc := ⟨.seq (.ops [(sa 4 (I 0))])
  (.seq (.seq (.ops [(mv 6 (T 0)), (ln 7 22 (T 6)), (mv 8 (I 0))])
  (.block 0 (.loop (.seq (.ops [(bi 9 .lss 3 (T 8) (T 7))])
  (.seq (.cond (T 9) (.skip)
  (.exit 0))
  (.seq (.block 1 (.seq (.ops [(mv 10 (T 8)), (sa 5 (T 10))])
  (.seq (.ops [(mv 11 (T 1)), (mv 12 (T 0)), (mv 13 (T 5)), (ia 14 22 (T 12) (T 13)), (ld 15 34 (T 14)), (ct 16 (T 11) [(T 15)])])
  (.cond (T 16) (.seq (.ops [(mv 17 (T 5)), (sa 4 (T 17))])
  (.ret))
  (.skip)))))
  (.ops [(bi 18 .add 3 (T 8) (I 1)), (mv 8 (T 18))])))))))
  (.seq (.ops [(sa 4 (I (-1)))])
  (.ret))), [.tmp 4]⟩
def X_slices_IndexFunc_Sint_int : XFunc := ⟨.seq (.ops [(sa 4 (I 0))])
  (.seq (.seq (.ops [(mv 6 (T 0)), (ln 7 34 (T 6)), (mv 8 (I 0))])
  (.block 0 (.loop (.seq (.ops [(bi 9 .lss 3 (T 8) (T 7))])
  (.seq (.cond (T 9) (.skip)
  (.exit 0))
  (.seq (.block 1 (.seq (.ops [(mv 10 (T 8)), (sa 5 (T 10))])
  (.seq (.ops [(mv 11 (T 1)), (mv 12 (T 0)), (mv 13 (T 5)), (ia 14 34 (T 12) (T 13)), (ld 15 3 (T 14)), (ct 16 (T 11) [(T 15)])])
  (.cond (T 16) (.seq (.ops [(mv 17 (T 5)), (sa 4 (T 17))])
  (.ret))
  (.skip)))))
  (.ops [(bi 18 .add 3 (T 8) (I 1)), (mv 8 (T 18))])))))))
  (.seq (.ops [(sa 4 (I (-1)))])
  (.ret))), [.tmp 4]⟩
def X_num_made : XFunc := ⟨.seq (.ops [(al 4 78)])
  (.seq (.ops [(mv 5 (T 0)), (mv 6 (T 5)), gd 6 true ((mv 7 (T 1))), gd 6 true ((ln 8 76 (T 7))), gd 6 true ((bi 9 .gtr 3 (T 8) (I 0))),
   (pk 10 (T 6) (T 9) (C (.bool false))), (mv 11 (T 1)), (bd 12 78 [(0, (T 10)), (1, (T 11))]), (st 78 (T 4) (T 12))])
  (.ret)), [.cell 4 78]⟩
def X_num_times : XFunc := ⟨.seq (.ops [(sa 4 (C (.slice none 0 0)))])
  (.seq (.ops [(mv 12 (T 0)), (ln 13 76 (T 12)), (mv 14 (T 1)), (ln 15 76 (T 14)), (bi 16 .add 3 (T 13) (T 15)), (ms 17 76 (T 16) (T 16)), (sa 5 (T 17))])
  (.seq (.seq (.ops [(mv 18 (T 0)), (ln 19 76 (T 18)), (mv 20 (I 0))])
  (.block 0 (.loop (.seq (.ops [(bi 21 .lss 3 (T 20) (T 19))])
  (.seq (.cond (T 21) (.skip)
  (.exit 0))
  (.seq (.block 1 (.seq (.ops [(mv 22 (T 20)), (ia 23 76 (T 18) (T 20)), (ld 24 124 (T 23)), (sa 6 (T 22)), (sa 7 (T 24))])
  (.seq (.ops [(sa 8 (C (.int .u64 0)))])
  (.seq (.seq (.ops [(mv 25 (T 1)), (ln 26 76 (T 25)), (mv 27 (I 0))])
  (.block 2 (.loop (.seq (.ops [(bi 28 .lss 3 (T 27) (T 26))])
  (.seq (.cond (T 28) (.skip)
  (.exit 2))
  (.seq (.block 3 (.seq (.ops [(mv 29 (T 27)), (ia 30 76 (T 25) (T 27)), (ld 31 124 (T 30)), (sa 9 (T 29)), (sa 10 (T 31))])
  (.seq (.ops [(mv 32 (T 7)), (cv 33 124 123 (T 32)), (mv 34 (T 10)), (cv 35 124 123 (T 34)), (bi 36 .mul 123 (T 33) (T 35)), (mv 37 (T 5)), (mv 38 (T 6)),
   (mv 39 (T 9)), (bi 40 .add 3 (T 38) (T 39)), (ia 41 76 (T 37) (T 40)), (ld 42 124 (T 41)), (cv 43 124 123 (T 42)), (bi 44 .add 123 (T 36) (T 43)),
   (mv 45 (T 8)), (bi 46 .add 123 (T 44) (T 45)), (sa 11 (T 46))])
  (.ops [(mv 47 (T 5)), (mv 48 (T 6)), (mv 49 (T 9)), (bi 50 .add 3 (T 48) (T 49)), (mv 51 (T 11)), (cv 52 123 124 (T 51)), (mv 53 (T 11)),
   (bi 54 .shr 123 (T 53) (C (.int .u64 32))), (ia 55 76 (T 47) (T 50)), (st 124 (T 55) (T 52)), (sa 8 (T 54))]))))
  (.ops [(bi 56 .add 3 (T 27) (I 1)), (mv 27 (T 56))])))))))
  (.ops [(mv 57 (T 5)), (mv 58 (T 6)), (mv 59 (T 1)), (ln 60 76 (T 59)), (bi 61 .add 3 (T 58) (T 60)), (mv 62 (T 8)), (cv 63 123 124 (T 62)),
   (ia 64 76 (T 57) (T 61)), (st 124 (T 64) (T 63))])))))
  (.ops [(bi 65 .add 3 (T 20) (I 1)), (mv 20 (T 65))])))))))
  (.seq (.ops [(mv 66 (T 5)), (cl 67 110 [(T 66)]), (sa 4 (T 67))])
  (.ret)))), [.tmp 4]⟩
def X_num_Int_Sub : XFunc := ⟨.seq (.ops [(bx 2 78 (T 0)), (bx 3 78 (T 1)), (al 4 78)])
  (.seq (.ops [(ld 5 78 (T 2)), (ld 6 78 (T 3)), nb (cl 7 113 [(T 6)]), (cl 8 105 [(T 5), (T 7)]), (st 78 (T 4) (T 8))])
  (.ret)), [.cell 4 78]⟩
def X_num_Int_Sign : XFunc := ⟨.seq (.ops [(bx 1 78 (T 0)), (sa 2 (I 0))])
  (.seq (.block 0 (.seq (.ops [(fa 4 78 (T 1) 1), (ld 5 76 (T 4)), (ln 6 76 (T 5)), (bi 7 .eql 3 (T 6) (I 0)), (sa 3 (T 7))])
  (.cond (T 3) (.seq (.ops [(sa 2 (I 0))])
  (.ret))
  (.seq (.ops [(fa 9 78 (T 1) 0), (ld 10 4 (T 9)), (sa 8 (T 10))])
  (.cond (T 8) (.seq (.ops [(sa 2 (I (-1)))])
  (.ret))
  (.skip))))))
  (.seq (.ops [(sa 2 (I 1))])
  (.ret))), [.tmp 2]⟩
def X_num_compare : XFunc := ⟨.seq (.ops [(sa 4 (I 0))])
  (.seq (.seq (.ops [(mv 6 (T 0)), (ln 7 76 (T 6)), (mv 8 (T 1)), (ln 9 76 (T 8)), (bi 10 .neq 3 (T 7) (T 9))])
  (.cond (T 10) (.seq (.seq (.ops [(mv 11 (T 0)), (ln 12 76 (T 11)), (mv 13 (T 1)), (ln 14 76 (T 13)), (bi 15 .lss 3 (T 12) (T 14))])
  (.cond (T 15) (.seq (.ops [(sa 4 (I (-1)))])
  (.ret))
  (.skip)))
  (.seq (.ops [(sa 4 (I 1))])
  (.ret)))
  (.skip)))
  (.seq (.seq (.ops [(mv 16 (T 0)), (ln 17 76 (T 16)), (bi 18 .sub 3 (T 17) (I 1)), (sa 5 (T 18))])
  (.block 0 (.loop (.seq (.seq (.ops [(mv 19 (T 5)), (bi 20 .geq 3 (T 19) (I 0))])
  (.cond (T 20) (.skip)
  (.exit 0)))
  (.seq (.block 1 (.seq (.ops [(mv 23 (T 0)), (mv 24 (T 5)), (ia 25 76 (T 23) (T 24)), (ld 26 124 (T 25)), (mv 27 (T 1)), (mv 28 (T 5)), (ia 29 76 (T 27) (T 28)), (ld 30 124 (T 29)),
   (bi 31 .neq 124 (T 26) (T 30))])
  (.cond (T 31) (.seq (.seq (.ops [(mv 32 (T 0)), (mv 33 (T 5)), (ia 34 76 (T 32) (T 33)), (ld 35 124 (T 34)), (mv 36 (T 1)), (mv 37 (T 5)), (ia 38 76 (T 36) (T 37)), (ld 39 124 (T 38)),
   (bi 40 .lss 124 (T 35) (T 39))])
  (.cond (T 40) (.seq (.ops [(sa 4 (I (-1)))])
  (.ret))
  (.skip)))
  (.seq (.ops [(sa 4 (I 1))])
  (.ret)))
  (.skip))))
  (.ops [(mv 21 (T 5)), (bi 22 .sub 3 (T 21) (I 1)), (sa 5 (T 22))]))))))
  (.seq (.ops [(sa 4 (I 0))])
  (.ret)))), [.tmp 4]⟩
def X_num_FromInt : XFunc := ⟨.seq (.ops [(bx 1 78 (T 0)), (al 2 80)])
  (.seq (.ops [(ld 3 78 (T 1)), nb (cl 4 88 [(I 1)]), (bd 5 80 [(0, (T 3)), (1, (T 4))]), (st 80 (T 2) (T 5))])
  (.ret)), [.cell 2 80]⟩
def X_num_Int_Add : XFunc := ⟨.seq (.ops [(bx 2 78 (T 0)), (bx 3 78 (T 1)), (al 4 78)])
  (.seq (.block 0 (.seq (.ops [(fa 6 78 (T 2) 0), (ld 7 4 (T 6)), (fa 8 78 (T 3) 0), (ld 9 4 (T 8)), (bi 10 .eql 4 (T 7) (T 9)), (sa 5 (T 10))])
  (.cond (T 5) (.seq (.ops [(fa 11 78 (T 2) 0), (ld 12 4 (T 11)), (fa 13 78 (T 2) 1), (ld 14 76 (T 13)), (fa 15 78 (T 3) 1), (ld 16 76 (T 15)), nb (cl 17 116 [(T 14), (T 16)]),
   (cl 18 92 [(T 12), (T 17)]), (st 78 (T 4) (T 18))])
  (.ret))
  (.seq (.ops [(fa 20 78 (T 2) 1), (ld 21 76 (T 20)), (fa 22 78 (T 3) 1), (ld 23 76 (T 22)), (cl 24 101 [(T 21), (T 23)]), (bi 25 .geq 3 (T 24) (I 0)), (sa 19 (T 25))])
  (.cond (T 19) (.seq (.ops [(fa 26 78 (T 2) 0), (ld 27 4 (T 26)), (fa 28 78 (T 2) 1), (ld 29 76 (T 28)), (fa 30 78 (T 3) 1), (ld 31 76 (T 30)), nb (cl 32 118 [(T 29), (T 31)]),
   (cl 33 92 [(T 27), (T 32)]), (st 78 (T 4) (T 33))])
  (.ret))
  (.skip))))))
  (.seq (.ops [(fa 34 78 (T 3) 0), (ld 35 4 (T 34)), (fa 36 78 (T 3) 1), (ld 37 76 (T 36)), (fa 38 78 (T 2) 1), (ld 39 76 (T 38)), nb (cl 40 118 [(T 37), (T 39)]),
   (cl 41 92 [(T 35), (T 40)]), (st 78 (T 4) (T 41))])
  (.ret))), [.cell 4 78]⟩
def X_num_byWord : XFunc := ⟨.seq (.ops [(sa 4 (C (.slice none 0 0))), (sa 5 (C (.int .u32 0)))])
  (.seq (.ops [(mv 10 (T 0)), (ln 11 76 (T 10)), (ms 12 76 (T 11) (T 11)), (sa 6 (T 12))])
  (.seq (.ops [(sa 7 (C (.int .u64 0)))])
  (.seq (.seq (.ops [(mv 13 (T 0)), (ln 14 76 (T 13)), (bi 15 .sub 3 (T 14) (I 1)), (sa 8 (T 15))])
  (.block 0 (.loop (.seq (.seq (.ops [(mv 16 (T 8)), (bi 17 .geq 3 (T 16) (I 0))])
  (.cond (T 17) (.skip)
  (.exit 0)))
  (.seq (.block 1 (.seq (.ops [(mv 20 (T 7)), (bi 21 .shl 123 (T 20) (C (.int .u64 32))), (mv 22 (T 0)), (mv 23 (T 8)), (ia 24 76 (T 22) (T 23)), (ld 25 124 (T 24)),
   (cv 26 124 123 (T 25)), (bi 27 .or 123 (T 21) (T 26)), (sa 9 (T 27))])
  (.ops [(mv 28 (T 6)), (mv 29 (T 8)), (mv 30 (T 9)), (mv 31 (T 1)), (cv 32 124 123 (T 31)), (bi 33 .quo 123 (T 30) (T 32)), (cv 34 123 124 (T 33)),
   (mv 35 (T 9)), (mv 36 (T 1)), (cv 37 124 123 (T 36)), (bi 38 .rem 123 (T 35) (T 37)), (ia 39 76 (T 28) (T 29)), (st 124 (T 39) (T 34)), (sa 7 (T 38))])))
  (.ops [(mv 18 (T 8)), (bi 19 .sub 3 (T 18) (I 1)), (sa 8 (T 19))]))))))
  (.seq (.ops [(mv 40 (T 6)), (cl 41 110 [(T 40)]), (mv 42 (T 7)), (cv 43 123 124 (T 42)), (sa 4 (T 41)), (sa 5 (T 43))])
  (.ret))))), [.tmp 4, .tmp 5]⟩
def X_num_trim : XFunc := ⟨.seq (.ops [(sa 2 (C (.slice none 0 0)))])
  (.seq (.block 0 (.loop (.seq (.seq (.ops [(mv 3 (T 0)), (ln 4 76 (T 3)), (bi 5 .gtr 3 (T 4) (I 0)), (mv 6 (T 5)), gd 6 true ((mv 7 (T 0))), gd 6 true ((mv 8 (T 0))), gd 6 true ((ln 9 76 (T 8))),
   gd 6 true ((bi 10 .sub 3 (T 9) (I 1))), gd 6 true ((ia 11 76 (T 7) (T 10))), gd 6 true ((ld 12 124 (T 11))),
   gd 6 true ((bi 13 .eql 124 (T 12) (C (.int .u32 0)))), (pk 14 (T 6) (T 13) (C (.bool false)))])
  (.cond (T 14) (.skip)
  (.exit 0)))
  (.block 1 (.ops [(mv 15 (T 0)), (mv 16 (T 0)), (ln 17 76 (T 16)), (bi 18 .sub 3 (T 17) (I 1)), (sl 19 76 (T 15) none (some (T 18)) none), (sa 0 (T 19))])))))
  (.seq (.ops [(mv 20 (T 0)), (sa 2 (T 20))])
  (.ret))), [.tmp 2]⟩
def X_num_Int_Neg : XFunc := ⟨.seq (.ops [(bx 1 78 (T 0)), (al 2 78)])
  (.seq (.ops [(fa 3 78 (T 1) 0), (ld 4 4 (T 3)), (un 5 .not (T 4)), (fa 6 78 (T 1) 1), (ld 7 76 (T 6)), (cl 8 92 [(T 5), (T 7)]), (st 78 (T 2) (T 8))])
  (.ret)), [.cell 2 78]⟩
def X_num_plus : XFunc := ⟨.seq (.ops [(sa 4 (C (.slice none 0 0)))])
  (.seq (.seq (.ops [(mv 9 (T 0)), (ln 10 76 (T 9)), (mv 11 (T 1)), (ln 12 76 (T 11)), (bi 13 .lss 3 (T 10) (T 12))])
  (.cond (T 13) (.ops [(mv 14 (T 1)), (mv 15 (T 0)), (sa 0 (T 14)), (sa 1 (T 15))])
  (.skip)))
  (.seq (.ops [(mv 16 (T 0)), (ln 17 76 (T 16)), (bi 18 .add 3 (T 17) (I 1)), (ms 19 76 (T 18) (T 18)), (sa 5 (T 19))])
  (.seq (.ops [(sa 6 (C (.int .u32 0)))])
  (.seq (.seq (.ops [(mv 20 (T 0)), (ln 21 76 (T 20)), (mv 22 (I 0))])
  (.block 0 (.loop (.seq (.ops [(bi 23 .lss 3 (T 22) (T 21))])
  (.seq (.cond (T 23) (.skip)
  (.exit 0))
  (.seq (.block 1 (.seq (.ops [(mv 24 (T 22)), (sa 7 (T 24))])
  (.seq (.ops [(sa 8 (C (.int .u32 0)))])
  (.seq (.seq (.ops [(mv 25 (T 7)), (mv 26 (T 1)), (ln 27 76 (T 26)), (bi 28 .lss 3 (T 25) (T 27))])
  (.cond (T 28) (.ops [(mv 29 (T 1)), (mv 30 (T 7)), (ia 31 76 (T 29) (T 30)), (ld 32 124 (T 31)), (sa 8 (T 32))])
  (.skip)))
  (.ops [(mv 34 (T 5)), (mv 35 (T 7)), (mv 36 (T 0)), (mv 37 (T 7)), (ia 38 76 (T 36) (T 37)), (ld 39 124 (T 38)), (mv 40 (T 8)), (mv 41 (T 6)),
   (cl 42 122 [(T 39), (T 40), (T 41)]), (mv 33 (T 42)), (ex 43 (T 33) 0), (ex 44 (T 33) 1), (ia 45 76 (T 34) (T 35)), (st 124 (T 45) (T 43)),
   (sa 6 (T 44))])))))
  (.ops [(bi 46 .add 3 (T 22) (I 1)), (mv 22 (T 46))])))))))
  (.seq (.ops [(mv 47 (T 5)), (mv 48 (T 0)), (ln 49 76 (T 48)), (mv 50 (T 6)), (ia 51 76 (T 47) (T 49)), (st 124 (T 51) (T 50))])
  (.seq (.ops [(mv 52 (T 5)), (cl 53 110 [(T 52)]), (sa 4 (T 53))])
  (.ret))))))), [.tmp 4]⟩
def X_num_minus : XFunc := ⟨.seq (.ops [(sa 4 (C (.slice none 0 0)))])
  (.seq (.ops [(mv 9 (T 0)), (ln 10 76 (T 9)), (ms 11 76 (T 10) (T 10)), (sa 5 (T 11))])
  (.seq (.ops [(sa 6 (C (.int .u32 0)))])
  (.seq (.seq (.ops [(mv 12 (T 0)), (ln 13 76 (T 12)), (mv 14 (I 0))])
  (.block 0 (.loop (.seq (.ops [(bi 15 .lss 3 (T 14) (T 13))])
  (.seq (.cond (T 15) (.skip)
  (.exit 0))
  (.seq (.block 1 (.seq (.ops [(mv 16 (T 14)), (sa 7 (T 16))])
  (.seq (.ops [(sa 8 (C (.int .u32 0)))])
  (.seq (.seq (.ops [(mv 17 (T 7)), (mv 18 (T 1)), (ln 19 76 (T 18)), (bi 20 .lss 3 (T 17) (T 19))])
  (.cond (T 20) (.ops [(mv 21 (T 1)), (mv 22 (T 7)), (ia 23 76 (T 21) (T 22)), (ld 24 124 (T 23)), (sa 8 (T 24))])
  (.skip)))
  (.ops [(mv 26 (T 5)), (mv 27 (T 7)), (mv 28 (T 0)), (mv 29 (T 7)), (ia 30 76 (T 28) (T 29)), (ld 31 124 (T 30)), (mv 32 (T 8)), (mv 33 (T 6)),
   (cl 34 127 [(T 31), (T 32), (T 33)]), (mv 25 (T 34)), (ex 35 (T 25) 0), (ex 36 (T 25) 1), (ia 37 76 (T 26) (T 27)), (st 124 (T 37) (T 35)),
   (sa 6 (T 36))])))))
  (.ops [(bi 38 .add 3 (T 14) (I 1)), (mv 14 (T 38))])))))))
  (.seq (.ops [(mv 39 (T 5)), (cl 40 110 [(T 39)]), (sa 4 (T 40))])
  (.ret))))), [.tmp 4]⟩
def X_bits_Add32 : XFunc := ⟨.seq (.ops [(sa 6 (C (.int .u32 0))), (sa 7 (C (.int .u32 0)))])
  (.seq (.ops [(mv 9 (T 0)), (cv 10 124 123 (T 9)), (mv 11 (T 1)), (cv 12 124 123 (T 11)), (bi 13 .add 123 (T 10) (T 12)), (mv 14 (T 2)), (cv 15 124 123 (T 14)),
   (bi 16 .add 123 (T 13) (T 15)), (sa 8 (T 16))])
  (.seq (.ops [(mv 17 (T 8)), (cv 18 123 124 (T 17)), (sa 6 (T 18))])
  (.seq (.ops [(mv 19 (T 8)), (bi 20 .shr 123 (T 19) (C (.int .u64 32))), (cv 21 123 124 (T 20)), (sa 7 (T 21))])
  (.ret)))), [.tmp 6, .tmp 7]⟩
def X_bits_Sub32 : XFunc := ⟨.seq (.ops [(sa 6 (C (.int .u32 0))), (sa 7 (C (.int .u32 0)))])
  (.seq (.ops [(mv 8 (T 0)), (mv 9 (T 1)), (bi 10 .sub 124 (T 8) (T 9)), (mv 11 (T 2)), (bi 12 .sub 124 (T 10) (T 11)), (sa 6 (T 12))])
  (.seq (.ops [(mv 13 (T 0)), (un 14 .xor (T 13)), (mv 15 (T 1)), (bi 16 .and 124 (T 14) (T 15)), (mv 17 (T 0)), (mv 18 (T 1)), (bi 19 .xor 124 (T 17) (T 18)),
   (un 20 .xor (T 19)), (mv 21 (T 6)), (bi 22 .and 124 (T 20) (T 21)), (bi 23 .or 124 (T 16) (T 22)), (bi 24 .shr 124 (T 23) (C (.int .u64 31))),
   (sa 7 (T 24))])
  (.ret))), [.tmp 6, .tmp 7]⟩
def Z_law_ShopPlans : ZFunc := ⟨.seq (.ops [.xs [(sa 2 (C (.bool false)))]])
  (.seq (.ops [.xs [(mv 18 (T 0)), (cl 19 8 [(T 18)]), (sa 3 (T 19))]])
  (.seq (.ops [.xs [(mv 21 (T 3)), (cl 22 9 [(T 21)]), (mv 20 (T 22)), (ex 23 (T 20) 0), (ex 24 (T 20) 1), (ex 25 (T 20) 2), (ex 26 (T 20) 3), (sa 4 (T 23)), (sa 5 (T 24)), (sa 6 (T 25)), (sa 7 (T 26))]])
  (.seq (.ops [.xs [(mv 28 (T 3)), (cl 29 10 [(T 28)]), (mv 27 (T 29)), (ex 30 (T 27) 0), (ex 31 (T 27) 1), (sa 8 (T 30)), (sa 9 (T 31))]])
  (.seq (.seq (.ops [.xs [(mv 32 (T 3)), (cl 33 11 [(T 32)]), (un 34 .not (T 33))]])
  (.cond (T 34) (.seq (.box 2305842974853955588 0 (.ops [.xs [(mv 35 (T 4)), (bi 36 .eql 3 (T 35) (I 0)), (mv 37 (T 36)), gd 37 true ((mv 38 (T 5))), gd 37 true ((bi 39 .eql 3 (T 38) (I 0))), (pk 40 (T 37) (T 39) (C (.bool false))), (mv 41 (T 40)), gd 41 true ((mv 42 (T 6))), gd 41 true ((bi 43 .eql 3 (T 42) (I 0))), (pk 44 (T 41) (T 43) (C (.bool false))), (mv 45 (T 44)), gd 45 true ((mv 46 (T 7))), gd 45 true ((bi 47 .eql 24 (T 46) (I 1))), (pk 48 (T 45) (T 47) (C (.bool false))), (mv 49 (T 48)), gd 49 true ((mv 50 (T 8))), gd 49 true ((ln 51 27 (T 50))), gd 49 true ((bi 52 .eql 3 (T 51) (I 0))), (pk 53 (T 49) (T 52) (C (.bool false))), (mv 54 (T 53)), gd 54 true ((mv 55 (T 9))), gd 54 true ((bi 56 .eql 24 (T 55) (I 1))), (pk 57 (T 54) (T 56) (C (.bool false))), (mv 58 (T 57)), gd 58 true ((cl 59 12 [])), (pk 60 (T 58) (T 59) (C (.bool false))), (sa 2 (T 60))]]))
  (.ret))
  (.skip)))
  (.seq (.ops [.xs [(mv 62 (T 3)), (cl 63 13 [(T 62)]), (mv 61 (T 63)), (ex 64 (T 61) 0), (ex 65 (T 61) 1), (ex 66 (T 61) 2), (sa 10 (T 64)), (sa 11 (T 65)), (sa 12 (T 66))]])
  (.seq (.seq (.box 4951760009567568509920083968 0 (.ops [.xs [(mv 67 (T 4)), (mv 68 (T 10)), (bi 69 .neq 3 (T 67) (T 68)), (mv 70 (T 69)), gd 70 false ((mv 71 (T 5))), gd 70 false ((mv 72 (T 11))), gd 70 false ((bi 73 .neq 3 (T 71) (T 72))), (pk 74 (T 70) (C (.bool true)) (T 73)), (mv 75 (T 74)), gd 75 false ((mv 76 (T 6))), gd 75 false ((mv 77 (T 12))), gd 75 false ((bi 78 .neq 3 (T 76) (T 77))), (pk 79 (T 75) (C (.bool true)) (T 78)), (mv 80 (T 79)), gd 80 false ((mv 81 (T 7))), gd 80 false ((bi 82 .neq 24 (T 81) (I 0))), (pk 83 (T 80) (C (.bool true)) (T 82)), (mv 84 (T 83)), gd 84 false ((mv 85 (T 9))), gd 84 false ((bi 86 .neq 24 (T 85) (I 0))), (pk 87 (T 84) (C (.bool true)) (T 86)), (mv 88 (T 87)), gd 88 false ((cl 89 12 [])), gd 88 false ((un 90 .not (T 89))), (pk 91 (T 88) (C (.bool true)) (T 90))]]))
  (.cond (T 91) (.seq (.ops [.xs [(sa 2 (C (.bool false)))]])
  (.ret))
  (.skip)))
  (.seq (.ops [.xs [(mv 92 (T 3)), (ln 93 22 (T 92)), (mv 94 (T 3)), (ia 95 22 (T 94) (I 0)), (ld 96 34 (T 95)), (ln 97 34 (T 96)), (bi 98 .add 3 (T 93) (T 97)), (sa 13 (T 98))]])
  (.seq (.seq (.box 87112285931126421346509784801784310530048 0 (.ops [.xs [(mv 99 (T 8)), (mv 100 (T 3)), (ln 101 22 (T 100)), (mv 102 (T 3)), (ia 103 22 (T 102) (I 0)), (ld 104 34 (T 103)), (ln 105 34 (T 104)), (cl 106 14 [(T 99), (T 101), (T 105)]), (un 107 .not (T 106)), (mv 108 (T 107)), gd 108 false ((mv 109 (T 8))), gd 108 false ((cl 110 15 [(T 109)])), gd 108 false ((un 111 .not (T 110))), (pk 112 (T 108) (C (.bool true)) (T 111)), (mv 113 (T 112)), gd 113 false ((mv 114 (T 8))), gd 113 false ((ln 115 27 (T 114))), gd 113 false ((mv 116 (T 13))), gd 113 false ((mv 117 (T 13))), gd 113 false ((bi 118 .mul 3 (T 116) (T 117))), gd 113 false ((bi 119 .gtr 3 (T 115) (T 118))), (pk 120 (T 113) (C (.bool true)) (T 119)), (mv 121 (T 120)), gd 121 false ((mv 122 (T 3))), gd 121 false ((mv 123 (T 8))), gd 121 false ((bs 124 95 1 [(0, (T 123))])), gd 121 false ((cl 125 16 [(T 122), (T 124)])), gd 121 false ((un 126 .not (T 125))), (pk 127 (T 121) (C (.bool true)) (T 126)), (mv 128 (T 127)), gd 128 false ((mv 129 (T 8))), gd 128 false ((cl 130 18 [(T 129)])), gd 128 false ((mv 131 (T 4))), gd 128 false ((cl 132 19 [(T 131)])), gd 128 false ((cl 133 17 [(T 130), (T 132)])), gd 128 false ((bi 134 .neq 3 (T 133) (I 0))), (pk 135 (T 128) (C (.bool true)) (T 134))]]))
  (.cond (T 135) (.seq (.ops [.xs [(sa 2 (C (.bool false)))]])
  (.ret))
  (.skip)))
  (.seq (.ops [.xs [(mv 137 (T 3)), (mv 138 (T 8)), (cl 139 20 [(T 137), (T 138)]), (mv 136 (T 139)), (ex 140 (T 136) 0), (ex 141 (T 136) 1), (sa 14 (T 140)), (sa 15 (T 141))]])
  (.seq (.ops [.xs [(mv 143 (T 4)), (cl 144 19 [(T 143)]), (cl 145 21 [(T 144)]), (mv 142 (T 145)), (ex 146 (T 142) 0), (ex 147 (T 142) 1), (sa 16 (T 146)), (sa 17 (T 147))]])
  (.seq (.box 45315114243414226223600579530021470580152205316 0 (.ops [.xs [(mv 148 (T 14)), (mv 149 (T 16)), (bi 150 .eql 45 (T 148) (T 149)), (mv 151 (T 150)), gd 151 true ((mv 152 (T 15))), gd 151 true ((bi 153 .eql 24 (T 152) (I 0))), (pk 154 (T 151) (T 153) (C (.bool false))), (sa 2 (T 154))]]))
  (.ret)))))))))))), [.tmp 2]⟩
def Z_law_table : ZFunc := ⟨.seq (.ops [.xs [(sa 2 (C (.slice none 0 0)))]])
  (.seq (.ops [.xs [(bs 5 22 0 []), (sa 3 (T 5))]])
  (.seq (.seq (.ops [.xs [(sa 4 (I 0))]])
  (.block 0 (.loop 16777176 0 (.seq (.seq (.box 16320 0 (.ops [.xs [(mv 6 (T 4)), (mv 7 (T 0)), (ln 8 22 (T 7)), (bi 9 .lss 3 (T 6) (T 8)), (mv 10 (T 9)), gd 10 true ((mv 11 (T 4))), gd 10 true ((bi 12 .leq 3 (T 11) (I 8))), (pk 13 (T 10) (T 12) (C (.bool false)))]]))
  (.cond (T 13) (.skip)
  (.exit 0)))
  (.seq (.block 1 (.ops [.xs [(mv 16 (T 3)), (mv 17 (T 0)), (mv 18 (T 4)), (ia 19 22 (T 17) (T 18)), (ld 20 34 (T 19)), (cl 21 30 [(T 20), (I 9)]), (bs 22 22 1 [(0, (T 21))]), (ap 23 22 22 (T 16) (T 22)), (sa 3 (T 23))]]))
  (.ops [.xs [(mv 14 (T 4)), (bi 15 .add 3 (T 14) (I 1)), (sa 4 (T 15))]]))))))
  (.seq (.ops [.xs [(mv 24 (T 3)), (sa 2 (T 24))]])
  (.ret)))), [.tmp 2]⟩
def Z_shop_Bound : ZFunc := ⟨.seq (.ops [.xs [(sa 2 (I 0)), (sa 3 (I 0)), (sa 4 (I 0)), (sa 5 (I 0))]])
  (.seq (.seq (.ops [.xs [(mv 15 (T 0)), (cl 16 31 [(T 15)]), (un 17 .not (T 16))]])
  (.cond (T 17) (.seq (.ops [.xs [(sa 2 (I 0)), (sa 3 (I 0)), (sa 4 (I 0)), (sa 5 (I 1))]])
  (.ret))
  (.skip)))
  (.seq (.ops [.xs [(mv 18 (T 0)), (cl 19 32 [(T 18)])], .al 6 74, .stw true none 74 6 (T 19) 6])
  (.seq (.ops [.ldw none 21 74 6 6, .xs [(cl 22 33 [(T 21)]), (mv 20 (T 22)), (ex 23 (T 20) 0), (ex 24 (T 20) 1)], .al 7 80, .stw true none 80 7 (T 23) 7,
   .xs [(sa 8 (T 24))]])
  (.seq (.ops [.ldw none 26 74 6 6, .xs [(cl 27 34 [(T 26)]), (cl 28 33 [(T 27)]), (mv 25 (T 28)), (ex 29 (T 25) 0), (ex 30 (T 25) 1)], .al 9 80,
   .stw true none 80 9 (T 29) 9, .xs [(sa 10 (T 30))]])
  (.seq (.seq (.ops [.ldw none 31 80 9 9, .ldw none 32 80 7 7, .xs [(cl 33 35 [(T 31), (T 32)]), (bi 34 .gtr 3 (T 33) (I 0))]])
  (.cond (T 34) (.seq (.ops [.ldw none 36 80 9 9, .xs [(cl 37 36 [(T 36)]), (cl 38 37 [(T 37)]), (mv 35 (T 38)), (ex 39 (T 35) 0), (ex 40 (T 35) 1), (sa 11 (T 39)), (sa 12 (T 40))]])
  (.seq (.ops [.xs [(mv 41 (T 11)), (mv 42 (T 10)), (sa 2 (T 41)), (sa 3 (I 1)), (sa 4 (T 42)), (sa 5 (I 0))]])
  (.ret)))
  (.skip)))
  (.seq (.ops [.ldw none 44 80 7 7, .xs [(cl 45 36 [(T 44)]), (cl 46 37 [(T 45)]), (mv 43 (T 46)), (ex 47 (T 43) 0), (ex 48 (T 43) 1), (sa 13 (T 47)), (sa 14 (T 48))]])
  (.seq (.ops [.xs [(mv 49 (T 13)), (mv 50 (T 8)), (sa 2 (T 49)), (sa 3 (I 0)), (sa 4 (T 50)), (sa 5 (I 0))]])
  (.ret)))))))), [.tmp 2, .tmp 3, .tmp 4, .tmp 5]⟩
def Z_shop_Plan : ZFunc := ⟨.seq (.ops [.xs [(sa 2 (C (.slice none 0 0))), (sa 3 (I 0))]])
  (.seq (.seq (.ops [.xs [(mv 4 (T 0)), (cl 5 31 [(T 4)]), (un 6 .not (T 5))]])
  (.cond (T 6) (.seq (.ops [.xs [(sa 2 (C (.slice none 0 0))), (sa 3 (I 1))]])
  (.ret))
  (.skip)))
  (.seq (.ops [.xs [(mv 7 (T 0)), (cl 8 32 [(T 7)]), (cl 9 38 [(T 8)]), (ex 10 (T 9) 0), (ex 11 (T 9) 1), (sa 2 (T 10)), (sa 3 (T 11))]])
  (.ret))), [.tmp 2, .tmp 3]⟩
def Z_ref_Table : ZFunc := ⟨.seq (.ops [.xs [(sa 2 (C (.bool false)))]])
  (.seq (.seq (.ops [.xs [(sa 3 (I 0))]])
  (.block 0 (.loop 281474976710652 0 (.seq (.seq (.ops [.xs [(mv 5 (T 3)), (mv 6 (T 0)), (ln 7 22 (T 6)), (bi 8 .lss 3 (T 5) (T 7))]])
  (.cond (T 8) (.skip)
  (.exit 0)))
  (.seq (.block 1 (.seq (.seq (.box 1073739776 0 (.ops [.xs [(mv 11 (T 0)), (mv 12 (T 3)), (ia 13 22 (T 11) (T 12)), (ld 14 34 (T 13)), (ln 15 34 (T 14)), (mv 16 (T 0)), (ia 17 22 (T 16) (I 0)), (ld 18 34 (T 17)), (ln 19 34 (T 18)), (bi 20 .neq 3 (T 15) (T 19)), (mv 21 (T 20)), gd 21 false ((mv 22 (T 0))), gd 21 false ((mv 23 (T 3))), gd 21 false ((ia 24 22 (T 22) (T 23))), gd 21 false ((ld 25 34 (T 24))), gd 21 false ((ln 26 34 (T 25))), gd 21 false ((cl 27 39 [(T 26), (I 1), (I 8)])), gd 21 false ((un 28 .not (T 27))), (pk 29 (T 21) (C (.bool true)) (T 28))]]))
  (.cond (T 29) (.seq (.ops [.xs [(sa 2 (C (.bool false)))]])
  (.ret))
  (.skip)))
  (.seq (.ops [.xs [(sa 4 (I 0))]])
  (.block 2 (.loop 281473902968852 0 (.seq (.seq (.ops [.xs [(mv 30 (T 4)), (mv 31 (T 0)), (mv 32 (T 3)), (ia 33 22 (T 31) (T 32)), (ld 34 34 (T 33)), (ln 35 34 (T 34)), (bi 36 .lss 3 (T 30) (T 35))]])
  (.cond (T 36) (.skip)
  (.exit 2)))
  (.seq (.block 3 (.seq (.ops [.xs [(mv 39 (T 0)), (mv 40 (T 3)), (ia 41 22 (T 39) (T 40)), (ld 42 34 (T 41)), (mv 43 (T 4)), (ia 44 34 (T 42) (T 43)), (ld 45 3 (T 44)), (cl 46 39 [(T 45), (I 0), (I 1000)]), (un 47 .not (T 46))]])
  (.cond (T 47) (.seq (.ops [.xs [(sa 2 (C (.bool false)))]])
  (.ret))
  (.skip))))
  (.ops [.xs [(mv 37 (T 4)), (bi 38 .add 3 (T 37) (I 1)), (sa 4 (T 38))]]))))))))
  (.ops [.xs [(mv 9 (T 3)), (bi 10 .add 3 (T 9) (I 1)), (sa 3 (T 10))]]))))))
  (.seq (.ops [.xs [(mv 48 (T 0)), (ln 49 22 (T 48)), (cl 50 39 [(T 49), (I 1), (I 8)]), (sa 2 (T 50))]])
  (.ret))), [.tmp 2]⟩
def Z_law_lives : ZFunc := ⟨.seq (.ops [.xs [(sa 0 (C (.bool false)))]])
  (.seq (.ops [.xs [(bs 10 34 2 [(0, (I 2)), (1, (I 1))]), (bs 11 34 2 [(0, (I 1)), (1, (I 2))]), (bs 12 22 2 [(0, (T 10)), (1, (T 11))]), (sa 1 (T 12))]])
  (.seq (.ops [.xs [(mv 14 (T 1)), (cl 15 9 [(T 14)]), (mv 13 (T 15)), (ex 16 (T 13) 0), (ex 17 (T 13) 1), (ex 18 (T 13) 2), (ex 19 (T 13) 3), (sa 2 (T 16)), (sa 3 (T 17)), (sa 4 (T 18)), (sa 5 (T 19))]])
  (.seq (.ops [.xs [(mv 21 (T 1)), (cl 22 10 [(T 21)]), (mv 20 (T 22)), (ex 23 (T 20) 0), (ex 24 (T 20) 1), (sa 6 (T 23)), (sa 7 (T 24))]])
  (.seq (.ops [.xs [(mv 26 (T 1)), (mv 27 (T 6)), (cl 28 20 [(T 26), (T 27)]), (mv 25 (T 28)), (ex 29 (T 25) 0), (ex 30 (T 25) 1), (sa 8 (T 29)), (sa 9 (T 30))]])
  (.seq (.box 144115185928372225 0 (.ops [.xs [(mv 31 (T 2)), (bi 32 .eql 3 (T 31) (I 3)), (mv 33 (T 32)), gd 33 true ((mv 34 (T 3))), gd 33 true ((bi 35 .eql 3 (T 34) (I 0))), (pk 36 (T 33) (T 35) (C (.bool false))), (mv 37 (T 36)), gd 37 true ((mv 38 (T 4))), gd 37 true ((bi 39 .eql 3 (T 38) (I 0))), (pk 40 (T 37) (T 39) (C (.bool false))), (mv 41 (T 40)), gd 41 true ((mv 42 (T 5))), gd 41 true ((bi 43 .eql 24 (T 42) (I 0))), (pk 44 (T 41) (T 43) (C (.bool false))), (mv 45 (T 44)), gd 45 true ((mv 46 (T 7))), gd 45 true ((bi 47 .eql 24 (T 46) (I 0))), (pk 48 (T 45) (T 47) (C (.bool false))), (mv 49 (T 48)), gd 49 true ((mv 50 (T 8))), gd 49 true ((bi 51 .eql 45 (T 50) (C (.string { data := #[51] })))), (pk 52 (T 49) (T 51) (C (.bool false))), (mv 53 (T 52)), gd 53 true ((mv 54 (T 9))), gd 53 true ((bi 55 .eql 24 (T 54) (I 0))), (pk 56 (T 53) (T 55) (C (.bool false))), (sa 0 (T 56))]]))
  (.ret)))))), [.tmp 0]⟩
def Z_ref_Bound : ZFunc := ⟨.seq (.ops [.xs [(sa 2 (I 0)), (sa 3 (I 0)), (sa 4 (I 0))]])
  (.seq (.ops [.xs [(mv 13 (T 0)), (cl 14 40 [(T 13)]), (mv 12 (T 14)), (ex 15 (T 12) 0), (ex 16 (T 12) 1), (sa 5 (T 15)), (sa 6 (T 16))]])
  (.seq (.ops [.xs [(sa 7 (I 0))]])
  (.seq (.seq (.ops [.xs [(sa 8 (I 0))]])
  (.block 0 (.loop 536740224 0 (.seq (.seq (.ops [.xs [(mv 17 (T 8)), (mv 18 (T 5)), (ln 19 34 (T 18)), (bi 20 .lss 3 (T 17) (T 19))]])
  (.cond (T 20) (.skip)
  (.exit 0)))
  (.seq (.block 1 (.ops [.xs [(mv 23 (T 7)), (mv 24 (T 5)), (mv 25 (T 8)), (ia 26 34 (T 24) (T 25)), (ld 27 3 (T 26)), (mxi 28 [3, 3] (T 23) (T 27)), (sa 7 (T 28))]]))
  (.ops [.xs [(mv 21 (T 8)), (bi 22 .add 3 (T 21) (I 1)), (sa 8 (T 22))]]))))))
  (.seq (.seq (.ops [.xs [(sa 9 (I 0))]])
  (.block 2 (.loop 2198486385280 0 (.seq (.seq (.ops [.xs [(mv 29 (T 9)), (mv 30 (T 6)), (ln 31 34 (T 30)), (bi 32 .lss 3 (T 29) (T 31))]])
  (.cond (T 32) (.skip)
  (.exit 2)))
  (.seq (.block 3 (.ops [.xs [(mv 35 (T 7)), (mv 36 (T 6)), (mv 37 (T 9)), (ia 38 34 (T 36) (T 37)), (ld 39 3 (T 38)), (mxi 40 [3, 3] (T 35) (T 39)), (sa 7 (T 40))]]))
  (.ops [.xs [(mv 33 (T 9)), (bi 34 .add 3 (T 33) (I 1)), (sa 9 (T 34))]]))))))
  (.seq (.seq (.ops [.xs [(sa 10 (I 0))]])
  (.block 4 (.loop 36026597995709468 0 (.seq (.seq (.ops [.xs [(mv 41 (T 10)), (mv 42 (T 5)), (ln 43 34 (T 42)), (bi 44 .lss 3 (T 41) (T 43))]])
  (.cond (T 44) (.skip)
  (.exit 4)))
  (.seq (.block 5 (.seq (.ops [.xs [(mv 47 (T 5)), (mv 48 (T 10)), (ia 49 34 (T 47) (T 48)), (ld 50 3 (T 49)), (mv 51 (T 7)), (bi 52 .eql 3 (T 50) (T 51))]])
  (.cond (T 52) (.seq (.ops [.xs [(mv 53 (T 7)), (mv 54 (T 10)), (sa 2 (T 53)), (sa 3 (I 0)), (sa 4 (T 54))]])
  (.ret))
  (.skip))))
  (.ops [.xs [(mv 45 (T 10)), (bi 46 .add 3 (T 45) (I 1)), (sa 10 (T 46))]]))))))
  (.seq (.ops [.xs [(sa 11 (I 0))]])
  (.seq (.block 6 (.loop 9187343239835813888 0 (.seq (.seq (.ops [.xs [(mv 55 (T 6)), (mv 56 (T 11)), (ia 57 34 (T 55) (T 56)), (ld 58 3 (T 57)), (mv 59 (T 7)), (bi 60 .neq 3 (T 58) (T 59))]])
  (.cond (T 60) (.skip)
  (.exit 6)))
  (.block 7 (.ops [.xs [(mv 61 (T 11)), (bi 62 .add 3 (T 61) (I 1)), (sa 11 (T 62))]])))))
  (.seq (.ops [.xs [(mv 63 (T 7)), (mv 64 (T 11)), (sa 2 (T 63)), (sa 3 (I 1)), (sa 4 (T 64))]])
  (.ret))))))))), [.tmp 2, .tmp 3, .tmp 4]⟩
def Z_ref_Schedule : ZFunc := ⟨.seq (.ops [.xs [(sa 6 (C (.bool false)))]])
  (.seq (.seq (.ops [.xs [(sa 7 (I 0))]])
  (.block 0 (.loop 302231454903657293676480 256 (.seq (.seq (.ops [.xs [(mv 11 (T 7)), (mv 12 (T 0)), (ln 13 27 (T 12)), (bi 14 .lss 3 (T 11) (T 13))]])
  (.cond (T 14) (.skip)
  (.exit 0)))
  (.seq (.block 1 (.seq (.ops [.xs [(mv 17 (T 0)), (mv 18 (T 7)), (ia 19 27 (T 17) (T 18)), (ld 20 93 (T 19))], .al 8 93, .stw true none 93 8 (T 20) 8])
  (.seq (.seq (.box 1099509530624 0 (.ops [.fa none 21 93 8 0 8 0, .ld none 22 45 21 8 0, .xs [(cl 23 25 [(T 22)]), (un 24 .not (T 23)), (mv 25 (T 24))], .fa (some (25, false)) 26 93 8 0 8 0,
   .ld (some (25, false)) 27 45 26 8 0,
   .xs [gd 25 false ((cl 28 23 [(T 27)])), gd 25 false ((fi 29 42 (T 28) 0)), gd 25 false ((cl 30 41 [(T 29)])), gd 25 false ((bi 31 .leq 3 (T 30) (I 0))), (pk 32 (T 25) (C (.bool true)) (T 31)), (mv 33 (T 32))],
   .fa (some (33, false)) 34 93 8 1 8 1, .ld (some (33, false)) 35 34 34 8 1,
   .xs [gd 33 false ((ln 36 34 (T 35))), gd 33 false ((mv 37 (T 2))), gd 33 false ((bi 38 .neq 3 (T 36) (T 37))), (pk 39 (T 33) (C (.bool true)) (T 38))]]))
  (.cond (T 39) (.seq (.ops [.xs [(sa 6 (C (.bool false)))]])
  (.ret))
  (.skip)))
  (.seq (.ops [.xs [(sa 9 (I 0))]])
  (.block 2 (.loop 302231454902557782050368 0 (.seq (.seq (.ops [.xs [(mv 40 (T 9)), (mv 41 (T 2)), (bi 42 .lss 3 (T 40) (T 41))]])
  (.cond (T 42) (.skip)
  (.exit 2)))
  (.seq (.block 3 (.seq (.seq (.ops [.fa none 45 93 8 1 8 1, .ld none 46 34 45 8 1,
   .xs [(mv 47 (T 9)), (ia 48 34 (T 46) (T 47)), (ld 49 3 (T 48)), (mv 50 (T 1)), (bi 51 .sub 3 (T 50) (I 1)), (cl 52 39 [(T 49), (I (-1)), (T 51)]), (un 53 .not (T 52))]])
  (.cond (T 53) (.seq (.ops [.xs [(sa 6 (C (.bool false)))]])
  (.ret))
  (.skip)))
  (.seq (.ops [.xs [(sa 10 (I 0))]])
  (.block 4 (.loop 302231436889258784195648 0 (.seq (.seq (.ops [.xs [(mv 54 (T 10)), (mv 55 (T 9)), (bi 56 .lss 3 (T 54) (T 55))]])
  (.cond (T 56) (.skip)
  (.exit 4)))
  (.seq (.block 5 (.seq (.box 302230878442904990253056 0 (.ops [.fa none 59 93 8 1 8 1, .ld none 60 34 59 8 1,
   .xs [(mv 61 (T 9)), (ia 62 34 (T 60) (T 61)), (ld 63 3 (T 62)), (bi 64 .geq 3 (T 63) (I 0)), (mv 65 (T 64))], .fa (some (65, true)) 66 93 8 1 8 1,
   .ld (some (65, true)) 67 34 66 8 1, .xs [gd 65 true ((mv 68 (T 9))), gd 65 true ((ia 69 34 (T 67) (T 68))), gd 65 true ((ld 70 3 (T 69)))],
   .fa (some (65, true)) 71 93 8 1 8 1, .ld (some (65, true)) 72 34 71 8 1,
   .xs [gd 65 true ((mv 73 (T 10))), gd 65 true ((ia 74 34 (T 72) (T 73))), gd 65 true ((ld 75 3 (T 74))), gd 65 true ((bi 76 .eql 3 (T 70) (T 75))), (pk 77 (T 65) (T 76) (C (.bool false)))]]))
  (.cond (T 77) (.seq (.ops [.xs [(sa 6 (C (.bool false)))]])
  (.ret))
  (.skip))))
  (.ops [.xs [(mv 57 (T 10)), (bi 58 .add 3 (T 57) (I 1)), (sa 10 (T 58))]]))))))))
  (.ops [.xs [(mv 43 (T 9)), (bi 44 .add 3 (T 43) (I 1)), (sa 9 (T 44))]])))))))))
  (.ops [.xs [(mv 15 (T 7)), (bi 16 .add 3 (T 15) (I 1)), (sa 7 (T 16))]]))))))
  (.seq (.ops [.xs [(sa 6 (C (.bool true)))]])
  (.ret))), [.tmp 6]⟩
def Z_law_whole : ZFunc := ⟨.seq (.ops [.xs [(sa 2 (C (.bool false)))]])
  (.seq (.seq (.ops [.xs [(sa 3 (I 0))]])
  (.block 0 (.loop 131068 0 (.seq (.seq (.ops [.xs [(mv 4 (T 3)), (mv 5 (T 0)), (ln 6 27 (T 5)), (bi 7 .lss 3 (T 4) (T 6))]])
  (.cond (T 7) (.skip)
  (.exit 0)))
  (.seq (.block 1 (.seq (.ops [.xs [(mv 10 (T 0)), (mv 11 (T 3)), (ia 12 27 (T 10) (T 11)), (fa 13 93 (T 12) 0), (ld 14 45 (T 13)), (cl 15 42 [(T 14)]), (un 16 .not (T 15))]])
  (.cond (T 16) (.seq (.ops [.xs [(sa 2 (C (.bool false)))]])
  (.ret))
  (.skip))))
  (.ops [.xs [(mv 8 (T 3)), (bi 9 .add 3 (T 8) (I 1)), (sa 3 (T 9))]]))))))
  (.seq (.ops [.xs [(sa 2 (C (.bool true)))]])
  (.ret))), [.tmp 2]⟩
def Z_ref_Does : ZFunc := ⟨.seq (.ops [.xs [(sa 4 (C (.bool false)))]])
  (.seq (.seq (.ops [.xs [(sa 5 (I 0))]])
  (.block 0 (.loop 151115727451828646838256 128 (.seq (.seq (.ops [.xs [(mv 10 (T 5)), (mv 11 (T 0)), (ln 12 22 (T 11)), (bi 13 .lss 3 (T 10) (T 12))]])
  (.cond (T 13) (.skip)
  (.exit 0)))
  (.seq (.block 1 (.seq (.ops [.xs [(sa 6 (I 0))]])
  (.block 2 (.loop 151115727451828646773712 128 (.seq (.seq (.ops [.xs [(mv 16 (T 6)), (mv 17 (T 0)), (mv 18 (T 5)), (ia 19 22 (T 17) (T 18)), (ld 20 34 (T 19)), (ln 21 34 (T 20)), (bi 22 .lss 3 (T 16) (T 21))]])
  (.cond (T 22) (.skip)
  (.exit 2)))
  (.seq (.block 3 (.seq (.ops [.xs [(cl 25 19 [(I 0)])], .al 7 42, .stw true none 42 7 (T 25) 7])
  (.seq (.seq (.ops [.xs [(sa 8 (I 0))]])
  (.block 4 (.loop 73786976294771098368 128 (.seq (.seq (.ops [.xs [(mv 26 (T 8)), (mv 27 (T 1)), (ln 28 95 (T 27)), (bi 29 .lss 3 (T 26) (T 28))]])
  (.cond (T 29) (.skip)
  (.exit 4)))
  (.seq (.block 5 (.seq (.ops [.xs [(sa 9 (I 0))]])
  (.block 6 (.loop 73786976290543239680 128 (.seq (.seq (.ops [.xs [(mv 32 (T 9)), (mv 33 (T 1)), (mv 34 (T 8)), (ia 35 95 (T 33) (T 34)), (ld 36 27 (T 35)), (ln 37 27 (T 36)), (bi 38 .lss 3 (T 32) (T 37))]])
  (.cond (T 38) (.skip)
  (.exit 6)))
  (.seq (.box 73786974095814950912 128 (.block 7 (.seq (.ops [.xs [(mv 41 (T 1)), (mv 42 (T 8)), (ia 43 95 (T 41) (T 42)), (ld 44 27 (T 43)), (mv 45 (T 9)), (ia 46 27 (T 44) (T 45)), (fa 47 93 (T 46) 1), (ld 48 34 (T 47)), (mv 49 (T 6)), (ia 50 34 (T 48) (T 49)), (ld 51 3 (T 50)), (mv 52 (T 5)), (bi 53 .eql 3 (T 51) (T 52))]])
  (.cond (T 53) (.ops [.ldw none 54 42 7 7,
   .xs [(mv 55 (T 1)), (mv 56 (T 8)), (ia 57 95 (T 55) (T 56)), (ld 58 27 (T 57)), (mv 59 (T 9)), (ia 60 27 (T 58) (T 59)), (fa 61 93 (T 60) 0), (ld 62 45 (T 61)), nb (cl 63 23 [(T 62)]), (cl 64 26 [(T 54), (T 63)]), (cl 65 43 [(T 64)])],
   .stw true none 42 7 (T 65) 7])
  (.skip)))))
  (.ops [.xs [(mv 39 (T 9)), (bi 40 .add 3 (T 39) (I 1)), (sa 9 (T 40))]])))))))
  (.ops [.xs [(mv 30 (T 8)), (bi 31 .add 3 (T 30) (I 1)), (sa 8 (T 31))]]))))))
  (.seq (.ops [.ldw none 66 42 7 7,
   .xs [(mv 67 (T 0)), (mv 68 (T 5)), (ia 69 22 (T 67) (T 68)), (ld 70 34 (T 69)), (mv 71 (T 6)), (ia 72 34 (T 70) (T 71)), (ld 73 3 (T 72)), nb (cl 74 19 [(T 73)]), (cl 75 17 [(T 66), (T 74)]), (bi 76 .neq 3 (T 75) (I 0))]])
  (.cond (T 76) (.seq (.ops [.xs [(sa 4 (C (.bool false)))]])
  (.ret))
  (.skip))))))
  (.ops [.xs [(mv 23 (T 6)), (bi 24 .add 3 (T 23) (I 1)), (sa 6 (T 24))]])))))))
  (.ops [.xs [(mv 14 (T 5)), (bi 15 .add 3 (T 14) (I 1)), (sa 5 (T 15))]]))))))
  (.seq (.ops [.xs [(sa 4 (C (.bool true)))]])
  (.ret))), [.tmp 4]⟩
def Z_big_CmpQ : ZFunc := ⟨.seq (.ops [.bx 2 42 (T 0), .bx 3 42 (T 1), .xs [(sa 4 (I 0))]])
  (.seq (.ops [.fa none 5 42 2 0 2 0, .ld none 6 40 5 2 0, .fa none 7 42 3 1 3 2, .ld none 8 40 7 3 2, .xs [nb (cl 9 45 [(T 6), (T 8)])], .fa none 10 42 3 0 3 0,
   .ld none 11 40 10 3 0, .fa none 12 42 2 1 2 2, .ld none 13 40 12 2 2, .xs [(cl 14 45 [(T 11), (T 13)]), (cl 15 44 [(T 9), (T 14)]), (sa 4 (T 15))]])
  (.ret)), [.tmp 4]⟩
def Z_ref_Length : ZFunc := ⟨.seq (.ops [.al 2 42])
  (.seq (.ops [.xs [(cl 5 19 [(I 0)])], .al 3 42, .stw true none 42 3 (T 5) 3])
  (.seq (.seq (.ops [.xs [(sa 4 (I 0))]])
  (.block 0 (.loop 2097104 8 (.seq (.seq (.ops [.xs [(mv 6 (T 4)), (mv 7 (T 0)), (ln 8 27 (T 7)), (bi 9 .lss 3 (T 6) (T 8))]])
  (.cond (T 9) (.skip)
  (.exit 0)))
  (.seq (.block 1 (.ops [.ldw none 12 42 3 3,
   .xs [(mv 13 (T 0)), (mv 14 (T 4)), (ia 15 27 (T 13) (T 14)), (fa 16 93 (T 15) 0), (ld 17 45 (T 16)), nb (cl 18 23 [(T 17)]), (cl 19 26 [(T 12), (T 18)]), (cl 20 43 [(T 19)])],
   .stw true none 42 3 (T 20) 3]))
  (.ops [.xs [(mv 10 (T 4)), (bi 11 .add 3 (T 10) (I 1)), (sa 4 (T 11))]]))))))
  (.seq (.ops [.ldw none 21 42 3 3, .stw true none 42 2 (T 21) 2])
  (.ret)))), [.cell 2 42]⟩
def Z_big_Whole : ZFunc := ⟨.seq (.ops [.al 2 42])
  (.seq (.ops [.xs [(mv 3 (T 0)), (cl 4 46 [(T 3)]), (cl 5 46 [(I 1)]), (bd 6 42 [(0, (T 4)), (1, (T 5))])], .stw true none 42 2 (T 6) 2])
  (.ret)), [.cell 2 42]⟩
def Z_shop_Does : ZFunc := ⟨.seq (.ops [.xs [(sa 4 (C (.string { data := #[] }))), (sa 5 (I 0))]])
  (.seq (.seq (.ops [.xs [(mv 10 (T 0)), (cl 11 31 [(T 10)]), (un 12 .not (T 11))]])
  (.cond (T 12) (.seq (.ops [.xs [(sa 4 (C (.string { data := #[] }))), (sa 5 (I 1))]])
  (.ret))
  (.skip)))
  (.seq (.ops [.xs [(mv 13 (T 0)), (cl 14 32 [(T 13)])], .al 6 74, .stw true none 74 6 (T 14) 6])
  (.seq (.ops [.xs [(mv 16 (T 1))], .ldw none 17 74 6 6, .xs [nb (cl 18 48 [(T 17)])], .ldw none 19 74 6 6,
   .xs [nb (cl 20 49 [(T 19)]), nb (cl 21 47 [(T 16), (T 18), (T 20)]), (mv 15 (T 21)), (ex 22 (T 15) 0), (ex 23 (T 15) 1), (ex 24 (T 15) 2)], .al 7 74,
   .al 8 80, .stw true none 74 7 (T 22) 7, .stw true none 80 8 (T 23) 8, .xs [(sa 9 (T 24))]])
  (.seq (.seq (.box 8556380160 0 (.ops [.xs [(mv 25 (T 9)), (un 26 .not (T 25)), (mv 27 (T 26))], .ldw (some (27, false)) 28 74 6 6, .ldw (some (27, false)) 29 74 7 7,
   .xs [gd 27 false ((cl 30 50 [(T 28), (T 29)])), gd 27 false ((un 31 .not (T 30))), (pk 32 (T 27) (C (.bool true)) (T 31))]]))
  (.cond (T 32) (.seq (.ops [.xs [(sa 4 (C (.string { data := #[] }))), (sa 5 (I 2))]])
  (.ret))
  (.skip)))
  (.seq (.ops [.ldw none 33 80 8 8, .xs [(cl 34 51 [(T 33)]), (ex 35 (T 34) 0), (ex 36 (T 34) 1), (sa 4 (T 35)), (sa 5 (T 36))]])
  (.ret)))))), [.tmp 4, .tmp 5]⟩
def Z_big_Num : ZFunc := ⟨.seq (.ops [.bx 1 42 (T 0), .xs [(sa 2 (C (.string { data := #[] }))), (sa 3 (C (.bool false)))]])
  (.seq (.ops [.ldw none 6 42 1 1, .xs [(cl 7 43 [(T 6)])], .stw true none 42 1 (T 7) 1])
  (.seq (.ops [.fa none 8 42 1 0 1 0, .ld none 9 40 8 1 0, .xs [nb (cl 10 53 [(T 9)]), nb (cl 11 52 [(T 10)])], .fa none 12 42 1 1 1 2, .ld none 13 40 12 1 2,
   .xs [(cl 14 52 [(T 13)]), (sa 4 (T 11)), (sa 5 (T 14))]])
  (.seq (.seq (.box 8355840 0 (.ops [.xs [(mv 15 (T 4)), (ln 16 9 (T 15)), (bi 17 .gtr 3 (T 16) (I 4000)), (mv 18 (T 17)), gd 18 false ((mv 19 (T 5))), gd 18 false ((ln 20 9 (T 19))), gd 18 false ((bi 21 .gtr 3 (T 20) (I 4000))), (pk 22 (T 18) (C (.bool true)) (T 21))]]))
  (.cond (T 22) (.seq (.ops [.xs [(sa 2 (C (.string { data := #[] }))), (sa 3 (C (.bool false)))]])
  (.ret))
  (.skip)))
  (.seq (.box 260046864 0 (.seq (.ops [.fa none 23 42 1 0 1 0, .fa none 24 40 23 0 1 0, .ld none 25 4 24 1 0])
  (.cond (T 25) (.ops [.xs [(mv 26 (T 4)), (bi 27 .add 9 (C (.string { data := #[45] })) (T 26)), (sa 4 (T 27))]])
  (.skip))))
  (.seq (.box 16911433744 0 (.seq (.ops [.xs [(mv 28 (T 5)), (bi 29 .neq 9 (T 28) (C (.string { data := #[49] })))]])
  (.cond (T 29) (.ops [.xs [(mv 30 (T 4)), (mv 31 (T 5)), (bi 32 .add 9 (C (.string { data := #[47] })) (T 31)), (bi 33 .add 9 (T 30) (T 32)), (sa 4 (T 33))]])
  (.skip))))
  (.seq (.ops [.xs [(mv 34 (T 4)), (sa 2 (T 34)), (sa 3 (C (.bool true)))]])
  (.ret))))))), [.tmp 2, .tmp 3]⟩
def Z_big_Of : ZFunc := ⟨.seq (.ops [.al 2 42])
  (.seq (.ops [.xs [(mv 6 (T 0)), (cl 7 54 [(T 6)]), (mv 5 (T 7)), (ex 8 (T 5) 0), (ex 9 (T 5) 1)], .al 3 42, .stw true none 42 3 (T 8) 3, .xs [(sa 4 (T 9))]])
  (.seq (.ops [.ldw none 10 42 3 3, .stw true none 42 2 (T 10) 2])
  (.ret))), [.cell 2 42]⟩
def Z_big_Valid : ZFunc := ⟨.seq (.ops [.xs [(sa 2 (C (.bool false)))]])
  (.seq (.ops [.xs [(mv 6 (T 0)), (cl 7 54 [(T 6)]), (mv 5 (T 7)), (ex 8 (T 5) 0), (ex 9 (T 5) 1)], .al 3 42, .stw true none 42 3 (T 8) 3, .xs [(sa 4 (T 9))]])
  (.seq (.ops [.xs [(mv 10 (T 4)), (sa 2 (T 10))]])
  (.ret))), [.tmp 2]⟩
def Z_big_AddQ : ZFunc := ⟨.seq (.ops [.bx 2 42 (T 0), .bx 3 42 (T 1), .al 4 42])
  (.seq (.ops [.fa none 5 42 2 0 2 0, .ld none 6 40 5 2 0, .fa none 7 42 3 1 3 2, .ld none 8 40 7 3 2, .xs [nb (cl 9 45 [(T 6), (T 8)])], .fa none 10 42 3 0 3 0,
   .ld none 11 40 10 3 0, .fa none 12 42 2 1 2 2, .ld none 13 40 12 2 2, .xs [nb (cl 14 45 [(T 11), (T 13)]), nb (cl 15 56 [(T 9), (T 14)])],
   .fa none 16 42 2 1 2 2, .ld none 17 40 16 2 2, .fa none 18 42 3 1 3 2, .ld none 19 40 18 3 2,
   .xs [(cl 20 45 [(T 17), (T 19)]), (bd 21 42 [(0, (T 15)), (1, (T 20))])], .stw true none 42 4 (T 21) 4])
  (.ret)), [.cell 4 42]⟩
def Z_law_cut : ZFunc := ⟨.seq (.ops [.xs [(sa 4 (C (.slice none 0 0)))]])
  (.seq (.ops [.xs [(bs 5 34 0 []), (mv 6 (T 0)), (mv 7 (T 0)), (ln 8 34 (T 7)), (mv 9 (T 1)), (mni 10 [3, 3] (T 8) (T 9)), (sl 11 34 (T 6) none (some (T 10)) none), (ap 12 34 34 (T 5) (T 11)), (sa 4 (T 12))]])
  (.ret)), [.tmp 4]⟩
def Z_shop_read : ZFunc := ⟨.seq (.ops [.al 2 74])
  (.seq (.ops [.xs [(sa 3 (C (.slice none 0 0)))]])
  (.seq (.seq (.ops [.xs [(mv 9 (T 0)), (ln 10 22 (T 9)), (mv 11 (I 0))]])
  (.block 0 (.loop 4294965608 0 (.seq (.ops [.xs [(bi 12 .lss 3 (T 11) (T 10))]])
  (.seq (.cond (T 12) (.skip)
  (.exit 0))
  (.seq (.block 1 (.seq (.ops [.xs [(ia 13 22 (T 9) (T 11)), (ld 14 34 (T 13)), (sa 5 (T 14))]])
  (.seq (.ops [.xs [(sa 6 (C (.slice none 0 0)))]])
  (.seq (.seq (.ops [.xs [(mv 15 (T 5)), (ln 16 34 (T 15)), (mv 17 (I 0))]])
  (.block 2 (.loop 134086976 0 (.seq (.ops [.xs [(bi 18 .lss 3 (T 17) (T 16))]])
  (.seq (.cond (T 18) (.skip)
  (.exit 2))
  (.seq (.block 3 (.seq (.ops [.xs [(ia 19 34 (T 15) (T 17)), (ld 20 3 (T 19)), (sa 8 (T 20))]])
  (.ops [.xs [(mv 21 (T 6)), (mv 22 (T 8)), (cl 23 59 [(T 22)]), (bs 24 120 1 [(0, (T 23))]), (ap 25 120 120 (T 21) (T 24)), (sa 6 (T 25))]])))
  (.ops [.xs [(bi 26 .add 3 (T 17) (I 1)), (mv 17 (T 26))]])))))))
  (.ops [.xs [(mv 27 (T 3)), (mv 28 (T 6)), (bs 29 72 1 [(0, (T 28))]), (ap 30 72 72 (T 27) (T 29)), (sa 3 (T 30))]])))))
  (.ops [.xs [(bi 31 .add 3 (T 11) (I 1)), (mv 11 (T 31))]])))))))
  (.seq (.ops [.xs [(mv 32 (T 3)), (bd 33 74 [(0, (T 32))])], .stw true none 74 2 (T 33) 2])
  (.ret)))), [.cell 2 74]⟩
def Z_shop_table_most : ZFunc := ⟨.seq (.ops [.bx 1 74 (T 0), .al 2 80, .xs [(sa 3 (I 0))]])
  (.seq (.ops [.ldw none 8 74 1 1, .xs [(cl 9 65 [(T 8), (I 0)])], .al 4 80, .stw true none 80 4 (T 9) 4, .xs [(sa 5 (I 0))]])
  (.seq (.seq (.ops [.ldw none 10 74 1 1, .xs [(cl 11 48 [(T 10)]), (mv 12 (I 0))]])
  (.block 0 (.loop 33550560 144 (.seq (.ops [.xs [(bi 13 .lss 3 (T 12) (T 11))]])
  (.seq (.cond (T 13) (.skip)
  (.exit 0))
  (.seq (.box 16761056 144 (.block 1 (.seq (.ops [.xs [(mv 14 (T 12)), (sa 6 (T 14))]])
  (.seq (.ops [.ldw none 15 74 1 1, .xs [(mv 16 (T 6)), (cl 17 65 [(T 15), (T 16)])], .al 7 80, .stw true none 80 7 (T 17) 7])
  (.seq (.ops [.ldw none 18 80 7 7, .ldw none 19 80 4 4, .xs [(cl 20 35 [(T 18), (T 19)]), (bi 21 .gtr 3 (T 20) (I 0))]])
  (.cond (T 21) (.ops [.ldw none 22 80 7 7, .xs [(mv 23 (T 6))], .stw true none 80 4 (T 22) 4, .xs [(sa 5 (T 23))]])
  (.skip)))))))
  (.ops [.xs [(bi 24 .add 3 (T 12) (I 1)), (mv 12 (T 24))]])))))))
  (.seq (.ops [.ldw none 25 80 4 4, .xs [(mv 26 (T 5))], .stw true none 80 2 (T 25) 2, .xs [(sa 3 (T 26))]])
  (.ret)))), [.cell 2 80, .tmp 3]⟩
def Z_shop_table_turned : ZFunc := ⟨.seq (.ops [.bx 1 74 (T 0), .al 2 74])
  (.seq (.ops [.ldw none 7 74 1 1, .xs [(cl 8 49 [(T 7)]), (ms 9 72 (T 8) (T 8)), (sa 3 (T 9))]])
  (.seq (.seq (.ops [.xs [(mv 10 (T 3)), (ln 11 72 (T 10)), (mv 12 (I 0))]])
  (.block 0 (.loop 137438949456 0 (.seq (.ops [.xs [(bi 13 .lss 3 (T 12) (T 11))]])
  (.seq (.cond (T 13) (.skip)
  (.exit 0))
  (.seq (.block 1 (.seq (.ops [.xs [(mv 14 (T 12)), (sa 4 (T 14))]])
  (.seq (.ops [.fa none 15 74 1 0 1 0, .ld none 16 72 15 1 0, .xs [(ln 17 72 (T 16)), (mv 18 (I 0))]])
  (.block 2 (.loop 68719214656 0 (.seq (.ops [.xs [(bi 19 .lss 3 (T 18) (T 17))]])
  (.seq (.cond (T 19) (.skip)
  (.exit 2))
  (.seq (.block 3 (.seq (.ops [.xs [(ia 20 72 (T 16) (T 18)), (ld 21 120 (T 20)), (sa 6 (T 21))]])
  (.ops [.xs [(mv 22 (T 3)), (mv 23 (T 4)), (mv 24 (T 3)), (mv 25 (T 4)), (ia 26 72 (T 24) (T 25)), (ld 27 120 (T 26)), (mv 28 (T 6)), (mv 29 (T 4)), (ia 30 120 (T 28) (T 29)), (ld 31 80 (T 30)), nb (bs 32 120 1 [(0, (T 31))]), (ap 33 120 120 (T 27) (T 32)), (ia 34 72 (T 22) (T 23)), (st 120 (T 34) (T 33))]])))
  (.ops [.xs [(bi 35 .add 3 (T 18) (I 1)), (mv 18 (T 35))]])))))))))
  (.ops [.xs [(bi 36 .add 3 (T 12) (I 1)), (mv 12 (T 36))]])))))))
  (.seq (.ops [.xs [(mv 37 (T 3)), (bd 38 74 [(0, (T 37))])], .stw true none 74 2 (T 38) 2])
  (.ret)))), [.cell 2 74]⟩
def Z_num_Rat_Cmp : ZFunc := ⟨.seq (.ops [.bx 2 80 (T 0), .bx 3 80 (T 1), .xs [(sa 4 (I 0))]])
  (.seq (.ops [.fa none 5 80 2 0 2 0, .ld none 6 78 5 2 0, .fa none 7 80 3 1 3 2, .ld none 8 78 7 3 2, .xs [nb (cl 9 66 [(T 6), (T 8)])], .fa none 10 80 3 0 3 0,
   .ld none 11 78 10 3 0, .fa none 12 80 2 1 2 2, .ld none 13 78 12 2 2, .xs [(cl 14 66 [(T 11), (T 13)]), (cl 15 67 [(T 9), (T 14)]), (sa 4 (T 15))]])
  (.ret)), [.tmp 4]⟩
def Z_num_Int_Small : ZFunc := ⟨.seq (.ops [.bx 1 78 (T 0), .xs [(sa 2 (I 0)), (sa 3 (C (.bool false)))]])
  (.seq (.seq (.ops [.fa none 7 78 1 1 1 1, .ld none 8 76 7 1 1, .xs [(ln 9 76 (T 8)), (bi 10 .gtr 3 (T 9) (I 2))]])
  (.cond (T 10) (.seq (.ops [.xs [(sa 2 (I 0)), (sa 3 (C (.bool false)))]])
  (.ret))
  (.skip)))
  (.seq (.ops [.xs [(sa 4 (C (.int .u64 0)))]])
  (.seq (.seq (.ops [.fa none 11 78 1 1 1 1, .ld none 12 76 11 1 1, .xs [(ln 13 76 (T 12)), (mv 14 (I 0))]])
  (.block 0 (.loop 134201456 0 (.seq (.ops [.xs [(bi 15 .lss 3 (T 14) (T 13))]])
  (.seq (.cond (T 15) (.skip)
  (.exit 0))
  (.seq (.block 1 (.seq (.ops [.xs [(mv 16 (T 14)), (ia 17 76 (T 12) (T 14)), (ld 18 124 (T 17)), (sa 5 (T 16)), (sa 6 (T 18))]])
  (.ops [.xs [(mv 19 (T 4)), (mv 20 (T 6)), (cv 21 124 123 (T 20)), (mv 22 (T 5)), (bi 23 .mul 3 (I 32) (T 22)), (bi 24 .shl 123 (T 21) (T 23)), (bi 25 .or 123 (T 19) (T 24)), (sa 4 (T 25))]])))
  (.ops [.xs [(bi 26 .add 3 (T 14) (I 1)), (mv 14 (T 26))]])))))))
  (.seq (.seq (.ops [.xs [(mv 27 (T 4)), (bi 28 .gtr 123 (T 27) (C (.int .u64 4611686018427387904)))]])
  (.cond (T 28) (.seq (.ops [.xs [(sa 2 (I 0)), (sa 3 (C (.bool false)))]])
  (.ret))
  (.skip)))
  (.seq (.seq (.ops [.fa none 29 78 1 0 1 0, .ld none 30 4 29 1 0])
  (.cond (T 30) (.seq (.ops [.xs [(mv 31 (T 4)), (cv 32 123 3 (T 31)), (un 33 .neg (T 32)), (sa 2 (T 33)), (sa 3 (C (.bool true)))]])
  (.ret))
  (.skip)))
  (.seq (.ops [.xs [(mv 34 (T 4)), (cv 35 123 3 (T 34)), (sa 2 (T 35)), (sa 3 (C (.bool true)))]])
  (.ret))))))), [.tmp 2, .tmp 3]⟩
def Z_shop_table_schedule : ZFunc := ⟨.seq (.ops [.bx 1 74 (T 0), .xs [(sa 2 (C (.slice none 0 0))), (sa 3 (I 0))]])
  (.seq (.ops [.xs [(sa 4 (C (.slice none 0 0)))]])
  (.seq (.seq (.ops [.ldw none 12 74 1 1, .xs [(cl 13 68 [(T 12)]), (cl 14 58 [(T 13)]), (ln 15 110 (T 14)), (mv 16 (I 0))]])
  (.block 0 (.loop 144115188075793372 576 (.seq (.ops [.xs [(bi 17 .lss 3 (T 16) (T 15))]])
  (.seq (.cond (T 17) (.skip)
  (.exit 0))
  (.seq (.block 1 (.seq (.ops [.xs [(ia 18 110 (T 14) (T 16)), (ld 19 113 (T 18))], .al 6 113, .stw true none 113 6 (T 19) 6])
  (.seq (.ops [.fa none 21 113 6 0 6 0, .ld none 22 80 21 6 0,
   .xs [(cl 23 51 [(T 22)]), (mv 20 (T 23)), (ex 24 (T 20) 0), (ex 25 (T 20) 1), (sa 7 (T 24)), (sa 8 (T 25))]])
  (.seq (.seq (.ops [.xs [(mv 26 (T 8)), (bi 27 .neq 24 (T 26) (I 0))]])
  (.cond (T 27) (.seq (.ops [.xs [(mv 28 (T 8)), (sa 2 (C (.slice none 0 0))), (sa 3 (T 28))]])
  (.ret))
  (.skip)))
  (.seq (.ops [.xs [(mv 29 (T 7)), (bd 30 93 [(0, (T 29))])], .al 9 93, .stw true none 93 9 (T 30) 9])
  (.seq (.seq (.ops [.fa none 31 113 6 1 6 4, .ld none 32 34 31 6 4, .ldw none 33 74 1 1,
   .xs [nb (cl 34 49 [(T 33)]), (sl 35 34 (T 32) none (some (T 34)) none), (ln 36 34 (T 35)), (mv 37 (I 0))]])
  (.block 2 (.loop 4503462188419072 512 (.seq (.ops [.xs [(bi 38 .lss 3 (T 37) (T 36))]])
  (.seq (.cond (T 38) (.skip)
  (.exit 2))
  (.seq (.block 3 (.seq (.ops [.xs [(ia 39 34 (T 35) (T 37)), (ld 40 3 (T 39)), (sa 11 (T 40))]])
  (.seq (.box 32985348835328 0 (.seq (.ops [.xs [(mv 41 (T 11))], .ldw none 42 74 1 1, .xs [(cl 43 48 [(T 42)]), (bi 44 .geq 3 (T 41) (T 43))]])
  (.cond (T 44) (.ops [.xs [(sa 11 (I (-1)))]])
  (.skip))))
  (.ops [.fa none 45 93 9 1 9 1, .ld none 46 34 45 9 1, .xs [(mv 47 (T 11)), (bs 48 34 1 [(0, (T 47))]), (ap 49 34 34 (T 46) (T 48))], .fa none 50 93 9 1 9 1,
   .st true none 34 50 (T 49) 9 1]))))
  (.ops [.xs [(bi 51 .add 3 (T 37) (I 1)), (mv 37 (T 51))]])))))))
  (.ops [.xs [(mv 52 (T 4))], .ldw none 53 93 9 9, .xs [(bs 54 27 1 [(0, (T 53))]), (ap 55 27 27 (T 52) (T 54)), (sa 4 (T 55))]])))))))
  (.ops [.xs [(bi 56 .add 3 (T 16) (I 1)), (mv 16 (T 56))]])))))))
  (.seq (.ops [.xs [(mv 57 (T 4)), (sa 2 (T 57)), (sa 3 (I 0))]])
  (.ret)))), [.tmp 2, .tmp 3]⟩
def Z_ref_Loads : ZFunc := ⟨.seq (.ops [.xs [(sa 2 (C (.slice none 0 0))), (sa 3 (C (.slice none 0 0)))]])
  (.seq (.ops [.xs [(mv 8 (T 0)), (ln 9 22 (T 8)), nb (ms 10 34 (T 9) (T 9)), (mv 11 (T 0)), (ia 12 22 (T 11) (I 0)), (ld 13 34 (T 12)), (ln 14 34 (T 13)), nb (ms 15 34 (T 14) (T 14)), (sa 4 (T 10)), (sa 5 (T 15))]])
  (.seq (.seq (.ops [.xs [(sa 6 (I 0))]])
  (.block 0 (.loop 144115188075790528 0 (.seq (.seq (.ops [.xs [(mv 16 (T 6)), (mv 17 (T 0)), (ln 18 22 (T 17)), (bi 19 .lss 3 (T 16) (T 18))]])
  (.cond (T 19) (.skip)
  (.exit 0)))
  (.seq (.block 1 (.seq (.ops [.xs [(sa 7 (I 0))]])
  (.block 2 (.loop 144115188071661696 0 (.seq (.seq (.ops [.xs [(mv 22 (T 7)), (mv 23 (T 0)), (mv 24 (T 6)), (ia 25 22 (T 23) (T 24)), (ld 26 34 (T 25)), (ln 27 34 (T 26)), (bi 28 .lss 3 (T 22) (T 27))]])
  (.cond (T 28) (.skip)
  (.exit 2)))
  (.seq (.block 3 (.seq (.ops [.xs [(mv 31 (T 4)), (mv 32 (T 6)), (ia 33 34 (T 31) (T 32)), (ld 34 3 (T 33)), (mv 35 (T 0)), (mv 36 (T 6)), (ia 37 22 (T 35) (T 36)), (ld 38 34 (T 37)), (mv 39 (T 7)), (ia 40 34 (T 38) (T 39)), (ld 41 3 (T 40)), (bi 42 .add 3 (T 34) (T 41)), (ia 43 34 (T 31) (T 32)), (st 3 (T 43) (T 42))]])
  (.ops [.xs [(mv 44 (T 5)), (mv 45 (T 7)), (ia 46 34 (T 44) (T 45)), (ld 47 3 (T 46)), (mv 48 (T 0)), (mv 49 (T 6)), (ia 50 22 (T 48) (T 49)), (ld 51 34 (T 50)), (mv 52 (T 7)), (ia 53 34 (T 51) (T 52)), (ld 54 3 (T 53)), (bi 55 .add 3 (T 47) (T 54)), (ia 56 34 (T 44) (T 45)), (st 3 (T 56) (T 55))]])))
  (.ops [.xs [(mv 29 (T 7)), (bi 30 .add 3 (T 29) (I 1)), (sa 7 (T 30))]])))))))
  (.ops [.xs [(mv 20 (T 6)), (bi 21 .add 3 (T 20) (I 1)), (sa 6 (T 21))]]))))))
  (.seq (.ops [.xs [(mv 57 (T 4)), (mv 58 (T 5)), (sa 2 (T 57)), (sa 3 (T 58))]])
  (.ret)))), [.tmp 2, .tmp 3]⟩
def Z_big_Sign : ZFunc := ⟨.seq (.ops [.bx 1 40 (T 0), .xs [(sa 2 (I 0))]])
  (.seq (.seq (.ops [.fa none 3 40 1 1 1 1, .ld none 4 34 3 1 1, .xs [(ln 5 34 (T 4)), (bi 6 .eql 3 (T 5) (I 0))]])
  (.cond (T 6) (.seq (.ops [.xs [(sa 2 (I 0))]])
  (.ret))
  (.skip)))
  (.seq (.seq (.ops [.fa none 7 40 1 0 1 0, .ld none 8 4 7 1 0])
  (.cond (T 8) (.seq (.ops [.xs [(sa 2 (I (-1)))]])
  (.ret))
  (.skip)))
  (.seq (.ops [.xs [(sa 2 (I 1))]])
  (.ret)))), [.tmp 2]⟩
def Z_big_Integer : ZFunc := ⟨.seq (.ops [.xs [(sa 2 (C (.bool false)))]])
  (.seq (.ops [.xs [(mv 6 (T 0)), (cl 7 54 [(T 6)]), (mv 5 (T 7)), (ex 8 (T 5) 0), (ex 9 (T 5) 1)], .al 3 42, .stw true none 42 3 (T 8) 3, .xs [(sa 4 (T 9))]])
  (.seq (.box 261124 0 (.ops [.xs [(mv 10 (T 4)), (mv 11 (T 10))], .fa (some (11, true)) 12 42 3 1 3 2, .ld (some (11, true)) 13 40 12 3 2,
   .xs [gd 11 true (nb (cl 14 46 [(I 1)])), gd 11 true ((cl 15 44 [(T 13), (T 14)])), gd 11 true ((bi 16 .eql 3 (T 15) (I 0))), (pk 17 (T 11) (T 16) (C (.bool false))), (sa 2 (T 17))]]))
  (.ret))), [.tmp 2]⟩
def Z_big_Lowest : ZFunc := ⟨.seq (.ops [.bx 1 42 (T 0), .al 2 42])
  (.seq (.ops [.fa none 8 42 1 0 1 0, .ld none 9 40 8 1 0, .fa none 10 42 1 1 1 2, .ld none 11 40 10 1 2, .xs [(cl 12 69 [(T 9), (T 11)])], .al 3 40,
   .stw true none 40 3 (T 12) 3])
  (.seq (.ops [.fa none 14 42 1 0 1 0, .ld none 15 40 14 1 0, .ldw none 16 40 3 3,
   .xs [(cl 17 70 [(T 15), (T 16)]), (mv 13 (T 17)), (ex 18 (T 13) 0), (ex 19 (T 13) 1)], .al 4 40, .al 5 40, .stw true none 40 4 (T 18) 4,
   .stw true none 40 5 (T 19) 5])
  (.seq (.ops [.fa none 21 42 1 1 1 2, .ld none 22 40 21 1 2, .ldw none 23 40 3 3,
   .xs [(cl 24 70 [(T 22), (T 23)]), (mv 20 (T 24)), (ex 25 (T 20) 0), (ex 26 (T 20) 1)], .al 6 40, .al 7 40, .stw true none 40 6 (T 25) 6,
   .stw true none 40 7 (T 26) 7])
  (.seq (.ops [.ldw none 27 40 4 4, .ldw none 28 40 6 6, .xs [(bd 29 42 [(0, (T 27)), (1, (T 28))])], .stw true none 42 2 (T 29) 2])
  (.ret))))), [.cell 2 42]⟩
def Z_big_Cmp : ZFunc := ⟨.seq (.ops [.bx 2 40 (T 0), .bx 3 40 (T 1), .xs [(sa 4 (I 0))]])
  (.seq (.ops [.ldw none 5 40 2 2, .ldw none 6 40 3 3, .xs [(cl 7 71 [(T 5), (T 6)]), (cl 8 41 [(T 7)]), (sa 4 (T 8))]])
  (.ret)), [.tmp 4]⟩
def Z_big_Mul : ZFunc := ⟨.seq (.ops [.bx 2 40 (T 0), .bx 3 40 (T 1), .al 4 40])
  (.seq (.ops [.fa none 10 40 2 1 2 1, .ld none 11 34 10 2 1, .xs [(ln 12 34 (T 11))], .fa none 13 40 3 1 3 1, .ld none 14 34 13 3 1,
   .xs [(ln 15 34 (T 14)), (bi 16 .add 3 (T 12) (T 15)), (bi 17 .add 3 (T 16) (I 1)), (ms 18 34 (T 17) (T 17)), (sa 5 (T 18))]])
  (.seq (.seq (.ops [.xs [(sa 6 (I 0))]])
  (.block 0 (.loop 4722366482869644690368 0 (.seq (.seq (.ops [.xs [(mv 19 (T 6))], .fa none 20 40 2 1 2 1, .ld none 21 34 20 2 1, .xs [(ln 22 34 (T 21)), (bi 23 .lss 3 (T 19) (T 22))]])
  (.cond (T 23) (.skip)
  (.exit 0)))
  (.seq (.block 1 (.seq (.ops [.xs [(sa 7 (I 0))]])
  (.seq (.ops [.xs [(sa 8 (I 0))]])
  (.block 2 (.loop 4722366482869578105728 0 (.seq (.seq (.box 34292629504 0 (.ops [.xs [(mv 26 (T 8))], .fa none 27 40 3 1 3 1, .ld none 28 34 27 3 1,
   .xs [(ln 29 34 (T 28)), (bi 30 .lss 3 (T 26) (T 29)), (mv 31 (T 30)), gd 31 false ((mv 32 (T 7))), gd 31 false ((bi 33 .gtr 3 (T 32) (I 0))), (pk 34 (T 31) (C (.bool true)) (T 33))]]))
  (.cond (T 34) (.skip)
  (.exit 2)))
  (.seq (.block 3 (.seq (.ops [.xs [(mv 37 (T 5)), (mv 38 (T 6)), (mv 39 (T 8)), (bi 40 .add 3 (T 38) (T 39)), (ia 41 34 (T 37) (T 40)), (ld 42 3 (T 41)), (mv 43 (T 7)), (bi 44 .add 3 (T 42) (T 43)), (sa 9 (T 44))]])
  (.seq (.box 9223336852482687488 0 (.seq (.ops [.xs [(mv 45 (T 8))], .fa none 46 40 3 1 3 1, .ld none 47 34 46 3 1, .xs [(ln 48 34 (T 47)), (bi 49 .lss 3 (T 45) (T 48))]])
  (.cond (T 49) (.ops [.xs [(mv 50 (T 9))], .fa none 51 40 2 1 2 1, .ld none 52 34 51 2 1, .xs [(mv 53 (T 6)), (ia 54 34 (T 52) (T 53)), (ld 55 3 (T 54))],
   .fa none 56 40 3 1 3 1, .ld none 57 34 56 3 1,
   .xs [(mv 58 (T 8)), (ia 59 34 (T 57) (T 58)), (ld 60 3 (T 59)), (bi 61 .mul 3 (T 55) (T 60)), (bi 62 .add 3 (T 50) (T 61)), (sa 9 (T 62))]])
  (.skip))))
  (.ops [.xs [(mv 63 (T 5)), (mv 64 (T 6)), (mv 65 (T 8)), (bi 66 .add 3 (T 64) (T 65)), (mv 67 (T 9)), (bi 68 .rem 3 (T 67) (I 10000)), (mv 69 (T 9)), (bi 70 .quo 3 (T 69) (I 10000)), (ia 71 34 (T 63) (T 66)), (st 3 (T 71) (T 68)), (sa 7 (T 70))]]))))
  (.ops [.xs [(mv 35 (T 8)), (bi 36 .add 3 (T 35) (I 1)), (sa 8 (T 36))]]))))))))
  (.ops [.xs [(mv 24 (T 6)), (bi 25 .add 3 (T 24) (I 1)), (sa 6 (T 25))]]))))))
  (.seq (.ops [.fa none 72 40 2 0 2 0, .ld none 73 4 72 2 0, .fa none 74 40 3 0 3 0, .ld none 75 4 74 3 0,
   .xs [(bi 76 .neq 4 (T 73) (T 75)), (mv 77 (T 5)), (bd 78 40 [(0, (T 76)), (1, (T 77))]), (cl 79 72 [(T 78)])], .stw true none 40 4 (T 79) 4])
  (.ret)))), [.cell 4 40]⟩
def Z_big_Int : ZFunc := ⟨.seq (.ops [.al 2 40])
  (.seq (.ops [.xs [(mv 5 (T 0)), (bi 6 .lss 3 (T 5) (I 0)), (bd 7 40 [(0, (T 6))])], .al 3 40, .stw true none 40 3 (T 7) 3])
  (.seq (.block 0 (.loop 16776977 8 (.seq (.seq (.ops [.xs [(mv 8 (T 0)), (bi 9 .neq 3 (T 8) (I 0))]])
  (.cond (T 9) (.skip)
  (.exit 0)))
  (.block 1 (.seq (.ops [.xs [(mv 10 (T 0)), (bi 11 .rem 3 (T 10) (I 10000)), (sa 4 (T 11))]])
  (.seq (.box 61456 0 (.seq (.ops [.xs [(mv 12 (T 4)), (bi 13 .lss 3 (T 12) (I 0))]])
  (.cond (T 13) (.ops [.xs [(mv 14 (T 4)), (un 15 .neg (T 14)), (sa 4 (T 15))]])
  (.skip))))
  (.seq (.ops [.fa none 16 40 3 1 3 1, .ld none 17 34 16 3 1, .xs [(mv 18 (T 4)), (bs 19 34 1 [(0, (T 18))]), (ap 20 34 34 (T 17) (T 19))], .fa none 21 40 3 1 3 1,
   .st true none 34 21 (T 20) 3 1])
  (.ops [.xs [(mv 22 (T 0)), (bi 23 .quo 3 (T 22) (I 10000)), (sa 0 (T 23))]]))))))))
  (.seq (.ops [.ldw none 24 40 3 3, .stw true none 40 2 (T 24) 2])
  (.ret)))), [.cell 2 40]⟩
def Z_shop_done : ZFunc := ⟨.seq (.ops [.al 6 74, .al 7 80, .xs [(sa 8 (C (.bool false)))]])
  (.seq (.ops [.xs [(mv 17 (T 2)), (ms 18 34 (T 17) (T 17)), (bs 19 22 1 [(0, (T 18))]), (mv 20 (T 1)), (cl 21 73 [(T 19), (T 20)]), (cl 22 32 [(T 21)]), (cl 23 59 [(I 0)])],
   .al 9 74, .al 10 80, .stw true none 74 9 (T 22) 9, .stw true none 80 10 (T 23) 10])
  (.seq (.seq (.ops [.xs [(mv 24 (T 0)), (ln 25 27 (T 24)), (mv 26 (I 0))]])
  (.block 0 (.loop 40564819207303340847894435590400 13504 (.seq (.ops [.xs [(bi 27 .lss 3 (T 26) (T 25))]])
  (.seq (.cond (T 27) (.skip)
  (.exit 0))
  (.seq (.block 1 (.seq (.ops [.xs [(ia 28 27 (T 24) (T 26)), (ld 29 93 (T 28))], .al 12 93, .stw true none 93 12 (T 29) 12])
  (.seq (.ops [.fa none 31 93 12 0 12 0, .ld none 32 45 31 12 0, .xs [(cl 33 74 [(T 32)]), (mv 30 (T 33)), (ex 34 (T 30) 0), (ex 35 (T 30) 1)], .al 13 80,
   .stw true none 80 13 (T 34) 13, .xs [(sa 14 (T 35))]])
  (.seq (.seq (.box 1125831187365888 0 (.ops [.xs [(mv 36 (T 14)), (un 37 .not (T 36)), (mv 38 (T 37))], .ldw (some (38, false)) 39 80 13 13,
   .xs [gd 38 false ((cl 40 75 [(T 39)])), gd 38 false ((bi 41 .leq 3 (T 40) (I 0))), (pk 42 (T 38) (C (.bool true)) (T 41)), (mv 43 (T 42))],
   .fa (some (43, false)) 44 93 12 1 12 1, .ld (some (43, false)) 45 34 44 12 1,
   .xs [gd 43 false ((ln 46 34 (T 45))), gd 43 false ((mv 47 (T 2))), gd 43 false ((bi 48 .neq 3 (T 46) (T 47))), (pk 49 (T 43) (C (.bool true)) (T 48))]]))
  (.cond (T 49) (.seq (.opsL [.xs [(bd 50 74 [])], .ldw none 51 80 10 10, .stw false none 74 6 (T 50) 6, .stw true none 80 7 (T 51) 7, .xs [(sa 8 (C (.bool false)))]])
  (.ret))
  (.skip)))
  (.seq (.seq (.ops [.fa none 52 93 12 1 12 1, .ld none 53 34 52 12 1, .xs [(ln 54 34 (T 53)), (mv 55 (I 0))]])
  (.block 2 (.loop 2535301200456422774196387545344 192 (.seq (.ops [.xs [(bi 56 .lss 3 (T 55) (T 54))]])
  (.seq (.cond (T 56) (.skip)
  (.exit 2))
  (.seq (.box 1267650600228085286308627448064 192 (.block 3 (.seq (.ops [.xs [(mv 57 (T 55)), (ia 58 34 (T 53) (T 55)), (ld 59 3 (T 58)), (sa 15 (T 57)), (sa 16 (T 59))]])
  (.seq (.seq (.box 604461756885809980506112 0 (.ops [.xs [(mv 60 (T 16)), (bi 61 .lss 3 (T 60) (I (-1))), (mv 62 (T 61)), gd 62 false ((mv 63 (T 16))), gd 62 false ((mv 64 (T 1))), gd 62 false ((bi 65 .geq 3 (T 63) (T 64))), (pk 66 (T 62) (C (.bool true)) (T 65)), (mv 67 (T 66)), gd 67 false ((mv 68 (T 16))), gd 67 false ((bi 69 .geq 3 (T 68) (I 0))), gd 67 false ((mv 70 (T 69)))],
   .fa (some (70, true)) 71 93 12 1 12 1, .ld (some (70, true)) 72 34 71 12 1,
   .xs [gd 70 true ((mv 73 (T 15))), gd 70 true ((sl 74 34 (T 72) none (some (T 73)) none)), gd 70 true ((mv 75 (T 16))), gd 70 true ((cl 76 76 [(T 74), (T 75)])), gd 67 false ((pk 77 (T 70) (T 76) (C (.bool false)))), (pk 78 (T 67) (C (.bool true)) (T 77))]]))
  (.cond (T 78) (.seq (.opsL [.xs [(bd 79 74 [])], .ldw none 80 80 10 10, .stw false none 74 6 (T 79) 6, .stw true none 80 7 (T 80) 7, .xs [(sa 8 (C (.bool false)))]])
  (.ret))
  (.skip)))
  (.seq (.ops [.xs [(mv 81 (T 16)), (bi 82 .geq 3 (T 81) (I 0))]])
  (.cond (T 82) (.ops [.fa none 83 74 9 0 9 0, .ld none 84 72 83 9 0, .xs [(mv 85 (T 16)), (ia 86 72 (T 84) (T 85)), (ld 87 120 (T 86)), (mv 88 (T 15))],
   .fa none 89 74 9 0 9 0, .ld none 90 72 89 9 0,
   .xs [(mv 91 (T 16)), (ia 92 72 (T 90) (T 91)), (ld 93 120 (T 92)), (mv 94 (T 15)), (ia 95 120 (T 93) (T 94)), (ld 96 80 (T 95))], .ldw none 97 80 13 13,
   .xs [nb (cl 98 77 [(T 96), (T 97)]), (ia 99 120 (T 87) (T 88)), (st 80 (T 99) (T 98))]])
  (.skip)))))))
  (.ops [.xs [(bi 100 .add 3 (T 55) (I 1)), (mv 55 (T 100))]])))))))
  (.ops [.ldw none 101 80 10 10, .ldw none 102 80 13 13, .xs [(cl 103 77 [(T 101), (T 102)])], .stw true none 80 10 (T 103) 10]))))))
  (.ops [.xs [(bi 104 .add 3 (T 26) (I 1)), (mv 26 (T 104))]])))))))
  (.seq (.opsL [.ldw none 105 74 9 9, .ldw none 106 80 10 10, .xs [(mv 107 (T 0)), (ln 108 27 (T 107)), (bi 109 .leq 3 (T 108) (I 1000))],
   .stw false none 74 6 (T 105) 6, .stw true none 80 7 (T 106) 7, .xs [(sa 8 (T 109))]])
  (.ret)))), [.cell 6 74, .cell 7 80, .tmp 8]⟩
def Z_shop_table_same : ZFunc := ⟨.seq (.ops [.bx 2 74 (T 0), .bx 3 74 (T 1), .xs [(sa 4 (C (.bool false)))]])
  (.seq (.seq (.ops [.fa none 9 74 2 0 2 0, .ld none 10 72 9 2 0, .xs [(ln 11 72 (T 10)), (mv 12 (I 0))]])
  (.block 0 (.loop 137438949872 256 (.seq (.ops [.xs [(bi 13 .lss 3 (T 12) (T 11))]])
  (.seq (.cond (T 13) (.skip)
  (.exit 0))
  (.seq (.block 1 (.seq (.ops [.xs [(mv 14 (T 12)), (ia 15 72 (T 10) (T 12)), (ld 16 120 (T 15)), (sa 5 (T 14)), (sa 6 (T 16))]])
  (.seq (.ops [.xs [(mv 17 (T 6)), (ln 18 120 (T 17)), (mv 19 (I 0))]])
  (.block 2 (.loop 68718952848 256 (.seq (.ops [.xs [(bi 20 .lss 3 (T 19) (T 18))]])
  (.seq (.cond (T 20) (.skip)
  (.exit 2))
  (.seq (.block 3 (.seq (.ops [.xs [(mv 21 (T 19)), (ia 22 120 (T 17) (T 19)), (ld 23 80 (T 22))], .al 8 80, .xs [(sa 7 (T 21))], .stw true none 80 8 (T 23) 8])
  (.seq (.ops [.ldw none 24 80 8 8, .fa none 25 74 3 0 3 0, .ld none 26 72 25 3 0,
   .xs [(mv 27 (T 5)), (ia 28 72 (T 26) (T 27)), (ld 29 120 (T 28)), (mv 30 (T 7)), (ia 31 120 (T 29) (T 30)), (ld 32 80 (T 31)), (cl 33 35 [(T 24), (T 32)]), (bi 34 .neq 3 (T 33) (I 0))]])
  (.cond (T 34) (.seq (.ops [.xs [(sa 4 (C (.bool false)))]])
  (.ret))
  (.skip)))))
  (.ops [.xs [(bi 35 .add 3 (T 19) (I 1)), (mv 19 (T 35))]])))))))))
  (.ops [.xs [(bi 36 .add 3 (T 12) (I 1)), (mv 12 (T 36))]])))))))
  (.seq (.ops [.xs [(sa 4 (C (.bool true)))]])
  (.ret))), [.tmp 4]⟩
def Z_num_Rat_Num : ZFunc := ⟨.seq (.ops [.bx 1 80 (T 0), .xs [(sa 2 (C (.string { data := #[] }))), (sa 3 (I 0))]])
  (.seq (.ops [.fa none 6 80 1 0 1 0, .fa none 7 78 6 1 1 1, .ld none 8 76 7 1 1, .xs [(cl 9 78 [(T 8)]), (sa 4 (T 9))]])
  (.seq (.seq (.ops [.xs [(mv 10 (T 4)), (ln 11 9 (T 10)), (bi 12 .gtr 3 (T 11) (I 4000))]])
  (.cond (T 12) (.seq (.ops [.xs [(sa 2 (C (.string { data := #[] }))), (sa 3 (I 5))]])
  (.ret))
  (.skip)))
  (.seq (.box 253968 0 (.seq (.ops [.fa none 13 80 1 0 1 0, .fa none 14 78 13 0 1 0, .ld none 15 4 14 1 0])
  (.cond (T 15) (.ops [.xs [(mv 16 (T 4)), (bi 17 .add 9 (C (.string { data := #[45] })) (T 16)), (sa 4 (T 17))]])
  (.skip))))
  (.seq (.seq (.ops [.ldw none 18 80 1 1, .xs [(cl 19 79 [(T 18)])]])
  (.cond (T 19) (.seq (.ops [.xs [(mv 20 (T 4)), (sa 2 (T 20)), (sa 3 (I 0))]])
  (.ret))
  (.skip)))
  (.seq (.ops [.fa none 21 80 1 1 1 2, .fa none 22 78 21 1 1 3, .ld none 23 76 22 1 3, .xs [(cl 24 78 [(T 23)]), (sa 5 (T 24))]])
  (.seq (.seq (.ops [.xs [(mv 25 (T 5)), (ln 26 9 (T 25)), (bi 27 .gtr 3 (T 26) (I 4000))]])
  (.cond (T 27) (.seq (.ops [.xs [(sa 2 (C (.string { data := #[] }))), (sa 3 (I 5))]])
  (.ret))
  (.skip)))
  (.seq (.ops [.xs [(mv 28 (T 4)), (bi 29 .add 9 (T 28) (C (.string { data := #[47] }))), (mv 30 (T 5)), (bi 31 .add 9 (T 29) (T 30)), (sa 2 (T 31)), (sa 3 (I 0))]])
  (.ret)))))))), [.tmp 2, .tmp 3]⟩
def Z_big_figures : ZFunc := ⟨.seq (.ops [.bx 1 40 (T 0), .xs [(sa 2 (C (.string { data := #[] })))]])
  (.seq (.seq (.ops [.fa none 7 40 1 1 1 1, .ld none 8 34 7 1 1, .xs [(ln 9 34 (T 8)), (bi 10 .eql 3 (T 9) (I 0))]])
  (.cond (T 10) (.seq (.ops [.xs [(sa 2 (C (.string { data := #[48] })))]])
  (.ret))
  (.skip)))
  (.seq (.ops [.xs [(sa 3 (C (.string { data := #[] })))]])
  (.seq (.seq (.ops [.fa none 11 40 1 1 1 1, .ld none 12 34 11 1 1, .xs [(ln 13 34 (T 12)), (bi 14 .sub 3 (T 13) (I 1)), (sa 4 (T 14))]])
  (.block 0 (.loop 140737488322680 0 (.seq (.seq (.ops [.xs [(mv 15 (T 4)), (bi 16 .geq 3 (T 15) (I 0))]])
  (.cond (T 16) (.skip)
  (.exit 0)))
  (.seq (.block 1 (.seq (.ops [.fa none 19 40 1 1 1 1, .ld none 20 34 19 1 1, .xs [(mv 21 (T 4)), (ia 22 34 (T 20) (T 21)), (ld 23 3 (T 22)), (sa 5 (T 23))]])
  (.seq (.ops [.xs [(mv 24 (T 5)), (bi 25 .quo 3 (T 24) (I 1000)), (bi 26 .add 3 (I 48) (T 25)), (cv 27 3 5 (T 26)), (mv 28 (T 5)), (bi 29 .quo 3 (T 28) (I 100)), (bi 30 .rem 3 (T 29) (I 10)), (bi 31 .add 3 (I 48) (T 30)), (cv 32 3 5 (T 31)), (mv 33 (T 5)), (bi 34 .quo 3 (T 33) (I 10)), (bi 35 .rem 3 (T 34) (I 10)), (bi 36 .add 3 (I 48) (T 35)), (cv 37 3 5 (T 36)), (mv 38 (T 5)), (bi 39 .rem 3 (T 38) (I 10)), (bi 40 .add 3 (I 48) (T 39)), (cv 41 3 5 (T 40)), (bs 42 61 4 [(0, (T 27)), (1, (T 32)), (2, (T 37)), (3, (T 41))]), (cv 43 61 9 (T 42)), (sa 6 (T 43))]])
  (.ops [.xs [(mv 44 (T 3)), (mv 45 (T 6)), (bi 46 .add 9 (T 44) (T 45)), (sa 3 (T 46))]]))))
  (.ops [.xs [(mv 17 (T 4)), (bi 18 .sub 3 (T 17) (I 1)), (sa 4 (T 18))]]))))))
  (.seq (.block 2 (.loop 4362862139015176 0 (.seq (.seq (.ops [.xs [(mv 47 (T 3)), (ix 48 9 (T 47) (I 0)), (bi 49 .eql 5 (T 48) (C (.int .u8 48)))]])
  (.cond (T 49) (.skip)
  (.exit 2)))
  (.block 3 (.ops [.xs [(mv 50 (T 3)), (sl 51 9 (T 50) (some (I 1)) none none), (sa 3 (T 51))]])))))
  (.seq (.ops [.xs [(mv 52 (T 3)), (sa 2 (T 52))]])
  (.ret)))))), [.tmp 2]⟩
def Z_big_Abs : ZFunc := ⟨.seq (.ops [.bx 1 40 (T 0), .al 2 40])
  (.seq (.ops [.fa none 3 40 1 0 1 0, .st true none 4 3 (C (.bool false)) 1 0])
  (.seq (.ops [.ldw none 4 40 1 1, .stw true none 40 2 (T 4) 2])
  (.ret))), [.cell 2 40]⟩
def Z_big_Parse : ZFunc := ⟨.seq (.ops [.al 2 42, .xs [(sa 3 (C (.bool false)))]])
  (.seq (.ops [.xs [(mv 13 (T 0)), (sa 4 (T 13)), (sa 5 (C (.bool false)))]])
  (.seq (.seq (.ops [.xs [(mv 14 (T 4)), (ln 15 9 (T 14)), (bi 16 .gtr 3 (T 15) (I 8002))]])
  (.cond (T 16) (.seq (.ops [.xs [(bd 17 42 [])], .stw true none 42 2 (T 17) 2, .xs [(sa 3 (C (.bool false)))]])
  (.ret))
  (.skip)))
  (.seq (.box 268173360 0 (.seq (.box 66846720 0 (.ops [.xs [(mv 18 (T 4)), (ln 19 9 (T 18)), (bi 20 .gtr 3 (T 19) (I 0)), (mv 21 (T 20)), gd 21 true ((mv 22 (T 4))), gd 21 true ((ix 23 9 (T 22) (I 0))), gd 21 true ((bi 24 .eql 5 (T 23) (C (.int .u8 45)))), (pk 25 (T 21) (T 24) (C (.bool false)))]]))
  (.cond (T 25) (.ops [.xs [(mv 26 (T 4)), (sl 27 9 (T 26) (some (I 1)) none none), (sa 4 (T 27)), (sa 5 (C (.bool true)))]])
  (.skip))))
  (.seq (.ops [.xs [(mv 28 (T 4)), (ln 29 9 (T 28)), (sa 6 (T 29))]])
  (.seq (.seq (.ops [.xs [(mv 30 (T 4)), (ln 31 9 (T 30)), (bi 32 .sub 3 (T 31) (I 1)), (sa 7 (T 32))]])
  (.block 0 (.loop 4389456576704 0 (.seq (.seq (.ops [.xs [(mv 33 (T 7)), (bi 34 .geq 3 (T 33) (I 0))]])
  (.cond (T 34) (.skip)
  (.exit 0)))
  (.seq (.box 4260607557696 0 (.block 1 (.seq (.ops [.xs [(mv 37 (T 4)), (mv 38 (T 7)), (ix 39 9 (T 37) (T 38)), (bi 40 .eql 5 (T 39) (C (.int .u8 47)))]])
  (.cond (T 40) (.ops [.xs [(mv 41 (T 7)), (sa 6 (T 41))]])
  (.skip)))))
  (.ops [.xs [(mv 35 (T 7)), (bi 36 .sub 3 (T 35) (I 1)), (sa 7 (T 36))]]))))))
  (.seq (.ops [.xs [(mv 43 (T 4)), (mv 44 (T 6)), (sl 45 9 (T 43) none (some (T 44)) none), (cl 46 80 [(T 45)]), (mv 42 (T 46)), (ex 47 (T 42) 0), (ex 48 (T 42) 1)],
   .al 8 40, .stw true none 40 8 (T 47) 8, .xs [(sa 9 (T 48))]])
  (.seq (.ops [.xs [(cl 49 46 [(I 1)])], .al 10 40, .stw true none 40 10 (T 49) 10])
  (.seq (.box 1208925818488729267869704 3076 (.seq (.ops [.xs [(mv 50 (T 6)), (mv 51 (T 4)), (ln 52 9 (T 51)), (bi 53 .lss 3 (T 50) (T 52))]])
  (.cond (T 53) (.seq (.ops [.xs [(mv 55 (T 4)), (mv 56 (T 6)), (bi 57 .add 3 (T 56) (I 1)), (sl 58 9 (T 55) (some (T 57)) none none), (cl 59 80 [(T 58)]), (mv 54 (T 59)), (ex 60 (T 54) 0), (ex 61 (T 54) 1)],
   .al 11 40, .stw true none 40 11 (T 60) 11, .xs [(sa 12 (T 61))]])
  (.seq (.seq (.box 302226843217638866288640 0 (.ops [.xs [(mv 62 (T 12)), (un 63 .not (T 62)), (mv 64 (T 63))], .ldw (some (64, false)) 65 40 11 11,
   .xs [gd 64 false (nb (cl 66 46 [(I 2)])), gd 64 false ((cl 67 44 [(T 65), (T 66)])), gd 64 false ((bi 68 .lss 3 (T 67) (I 0))), (pk 69 (T 64) (C (.bool true)) (T 68)), (mv 70 (T 69))],
   .ldw (some (70, false)) 71 40 8 8, .ldw (some (70, false)) 72 40 11 11,
   .xs [gd 70 false ((cl 73 69 [(T 71), (T 72)])), gd 70 false ((cl 74 46 [(I 1)])), gd 70 false ((cl 75 44 [(T 73), (T 74)])), gd 70 false ((bi 76 .neq 3 (T 75) (I 0))), (pk 77 (T 70) (C (.bool true)) (T 76))]]))
  (.cond (T 77) (.seq (.ops [.xs [(bd 78 42 [])], .stw true none 42 2 (T 78) 2, .xs [(sa 3 (C (.bool false)))]])
  (.ret))
  (.skip)))
  (.ops [.ldw none 79 40 11 11, .stw true none 40 10 (T 79) 10])))
  (.skip))))
  (.seq (.seq (.box 2474671152751145920623542272 0 (.ops [.xs [(mv 80 (T 9)), (un 81 .not (T 80)), (mv 82 (T 81)), gd 82 false ((mv 83 (T 5))), gd 82 false ((mv 84 (T 83)))], .fa (some (84, true)) 85 40 8 1 8 1,
   .ld (some (84, true)) 86 34 85 8 1,
   .xs [gd 84 true ((ln 87 34 (T 86))), gd 84 true ((bi 88 .eql 3 (T 87) (I 0))), gd 82 false ((pk 89 (T 84) (T 88) (C (.bool false)))), (pk 90 (T 82) (C (.bool true)) (T 89))]]))
  (.cond (T 90) (.seq (.ops [.xs [(bd 91 42 [])], .stw true none 42 2 (T 91) 2, .xs [(sa 3 (C (.bool false)))]])
  (.ret))
  (.skip)))
  (.seq (.box 34662321099990647697175478272 256 (.seq (.ops [.xs [(mv 92 (T 5))]])
  (.cond (T 92) (.ops [.ldw none 93 40 8 8, .xs [(cl 94 81 [(T 93)])], .stw true none 40 8 (T 94) 8])
  (.skip))))
  (.seq (.ops [.ldw none 95 40 8 8, .ldw none 96 40 10 10, .xs [(bd 97 42 [(0, (T 95)), (1, (T 96))])], .stw true none 42 2 (T 97) 2, .xs [(sa 3 (C (.bool true)))]])
  (.ret)))))))))))), [.cell 2 42, .tmp 3]⟩
def Z_big_Add : ZFunc := ⟨.seq (.ops [.bx 2 40 (T 0), .bx 3 40 (T 1), .al 4 40])
  (.seq (.seq (.ops [.fa none 5 40 2 0 2 0, .ld none 6 4 5 2 0, .fa none 7 40 3 0 3 0, .ld none 8 4 7 3 0, .xs [(bi 9 .eql 4 (T 6) (T 8))]])
  (.cond (T 9) (.seq (.ops [.fa none 10 40 2 0 2 0, .ld none 11 4 10 2 0, .fa none 12 40 2 1 2 1, .ld none 13 34 12 2 1, .fa none 14 40 3 1 3 1, .ld none 15 34 14 3 1,
   .xs [nb (cl 16 82 [(T 13), (T 15)]), (bd 17 40 [(0, (T 11)), (1, (T 16))]), (cl 18 72 [(T 17)])], .stw true none 40 4 (T 18) 4])
  (.ret))
  (.skip)))
  (.seq (.seq (.ops [.fa none 19 40 2 1 2 1, .ld none 20 34 19 2 1, .fa none 21 40 3 1 3 1, .ld none 22 34 21 3 1,
   .xs [(cl 23 83 [(T 20), (T 22)]), (bi 24 .geq 3 (T 23) (I 0))]])
  (.cond (T 24) (.seq (.ops [.fa none 25 40 2 0 2 0, .ld none 26 4 25 2 0, .fa none 27 40 2 1 2 1, .ld none 28 34 27 2 1, .fa none 29 40 3 1 3 1, .ld none 30 34 29 3 1,
   .xs [nb (cl 31 84 [(T 28), (T 30)]), (bd 32 40 [(0, (T 26)), (1, (T 31))]), (cl 33 72 [(T 32)])], .stw true none 40 4 (T 33) 4])
  (.ret))
  (.skip)))
  (.seq (.ops [.fa none 34 40 3 0 3 0, .ld none 35 4 34 3 0, .fa none 36 40 3 1 3 1, .ld none 37 34 36 3 1, .fa none 38 40 2 1 2 1, .ld none 39 34 38 2 1,
   .xs [nb (cl 40 84 [(T 37), (T 39)]), (bd 41 40 [(0, (T 35)), (1, (T 40))]), (cl 42 72 [(T 41)])], .stw true none 40 4 (T 42) 4])
  (.ret)))), [.cell 4 40]⟩
def Z_shop_table_decompose : ZFunc := ⟨.seq (.ops [.bx 1 74 (T 0), .xs [(sa 2 (C (.slice none 0 0)))]])
  (.seq (.ops [.xs [(sa 3 (C (.slice none 0 0)))]])
  (.seq (.seq (.ops [.fa none 17 74 1 0 1 0, .ld none 18 72 17 1 0, .xs [(ln 19 72 (T 18)), (mv 20 (I 0))]])
  (.block 0 (.loop 1072693288 0 (.seq (.ops [.xs [(bi 21 .lss 3 (T 20) (T 19))]])
  (.seq (.cond (T 21) (.skip)
  (.exit 0))
  (.seq (.block 1 (.seq (.ops [.xs [(ia 22 72 (T 18) (T 20)), (ld 23 120 (T 22)), (sa 5 (T 23))]])
  (.ops [.xs [(mv 24 (T 3)), (mv 25 (T 5)), (cl 26 85 [(T 25)]), (bs 27 72 1 [(0, (T 26))]), (ap 28 72 72 (T 24) (T 27)), (sa 3 (T 28))]])))
  (.ops [.xs [(bi 29 .add 3 (T 20) (I 1)), (mv 20 (T 29))]])))))))
  (.seq (.ops [.xs [(mv 30 (T 3)), (bd 31 74 [(0, (T 30))])], .al 6 74, .stw true none 74 6 (T 31) 6])
  (.seq (.ops [.xs [(sa 7 (C (.slice none 0 0)))]])
  (.seq (.block 2 (.loop 10889035741470030830827987437812287930240 18432 (.seq (.seq (.ops [.ldw none 32 74 6 6, .xs [(cl 33 65 [(T 32), (I 0)]), (cl 34 75 [(T 33)]), (bi 35 .gtr 3 (T 34) (I 0))]])
  (.cond (T 35) (.skip)
  (.exit 2)))
  (.block 3 (.seq (.ops [.ldw none 36 74 6 6, .xs [nb (bs 37 34 1 [(0, (I (-1)))])], .ldw none 38 74 6 6,
   .xs [nb (cl 39 49 [(T 38)]), nb (cl 40 60 [(T 37), (T 39)]), (bd 41 140 [(0, (T 36)), (1, (T 40))]), (bx 42 140 (T 41)), (sa 8 (T 42))]])
  (.seq (.ops [.xs [(mv 43 (T 8)), (mf 44 (.func 86) #[(T 43)] #[]), (sa 9 (T 44))]])
  (.seq (.seq (.ops [.ldw none 45 74 6 6, .xs [(cl 46 48 [(T 45)]), (mv 47 (I 0))]])
  (.block 4 (.loop 1152780767118492672 0 (.seq (.ops [.xs [(bi 48 .lss 3 (T 47) (T 46))]])
  (.seq (.cond (T 48) (.skip)
  (.exit 4))
  (.seq (.block 5 (.seq (.ops [.xs [(mv 49 (T 47)), (sa 10 (T 49))]])
  (.seq (.ops [.xs [(mv 50 (T 8))], .ldw none 51 74 6 6,
   .xs [(cl 52 49 [(T 51)]), (ms 53 115 (T 52) (T 52)), (nc 54 (T 50)), (fa 55 140 (T 54) 2), (st 115 (T 55) (T 53))]])
  (.ops [.xs [(mv 56 (T 9)), (mv 57 (T 10)), (ct 58 (T 56) [(T 57)])]]))))
  (.ops [.xs [(bi 59 .add 3 (T 47) (I 1)), (mv 47 (T 59))]])))))))
  (.seq (.ops [.fa none 60 74 6 0 6 0, .ld none 61 72 60 6 0,
   .xs [(mv 62 (T 8)), (nc 63 (T 62)), (fa 64 140 (T 63) 1), (ld 65 34 (T 64)), (ia 66 34 (T 65) (I 0)), (ld 67 3 (T 66)), (ia 68 72 (T 61) (T 67)), (ld 69 120 (T 68)), (ia 70 120 (T 69) (I 0)), (ld 71 80 (T 70))],
   .al 11 80, .stw true none 80 11 (T 71) 11])
  (.seq (.seq (.ops [.xs [(mv 72 (T 8)), (nc 73 (T 72)), (fa 74 140 (T 73) 1), (ld 75 34 (T 74)), (ln 76 34 (T 75)), (mv 77 (I 0))]])
  (.block 6 (.loop 79228011398536885764897140736 18432 (.seq (.ops [.xs [(bi 78 .lss 3 (T 77) (T 76))]])
  (.seq (.cond (T 78) (.skip)
  (.exit 6))
  (.seq (.box 39613476794222361482184650752 18432 (.block 7 (.seq (.ops [.xs [(mv 79 (T 77)), (ia 80 34 (T 75) (T 77)), (ld 81 3 (T 80)), (sa 12 (T 79)), (sa 13 (T 81))]])
  (.seq (.ops [.fa none 82 74 6 0 6 0, .ld none 83 72 82 6 0,
   .xs [(mv 84 (T 13)), (ia 85 72 (T 83) (T 84)), (ld 86 120 (T 85)), (mv 87 (T 12)), (ia 88 120 (T 86) (T 87)), (ld 89 80 (T 88))], .al 14 80,
   .stw true none 80 14 (T 89) 14])
  (.seq (.ops [.ldw none 90 80 14 14, .ldw none 91 80 11 11, .xs [(cl 92 35 [(T 90), (T 91)]), (bi 93 .lss 3 (T 92) (I 0))]])
  (.cond (T 93) (.ops [.ldw none 94 80 14 14, .stw true none 80 11 (T 94) 11])
  (.skip)))))))
  (.ops [.xs [(bi 95 .add 3 (T 77) (I 1)), (mv 77 (T 95))]])))))))
  (.seq (.seq (.ops [.xs [(mv 96 (T 8)), (nc 97 (T 96)), (fa 98 140 (T 97) 1), (ld 99 34 (T 98)), (ln 100 34 (T 99)), (mv 101 (I 0))]])
  (.block 8 (.loop 21267645397257453510002109971079200768 0 (.seq (.ops [.xs [(bi 102 .lss 3 (T 101) (T 100))]])
  (.seq (.cond (T 102) (.skip)
  (.exit 8))
  (.seq (.block 9 (.seq (.ops [.xs [(mv 103 (T 101)), (ia 104 34 (T 99) (T 101)), (ld 105 3 (T 104)), (sa 15 (T 103)), (sa 16 (T 105))]])
  (.ops [.fa none 106 74 6 0 6 0, .ld none 107 72 106 6 0, .xs [(mv 108 (T 16)), (ia 109 72 (T 107) (T 108)), (ld 110 120 (T 109)), (mv 111 (T 15))],
   .fa none 112 74 6 0 6 0, .ld none 113 72 112 6 0,
   .xs [(mv 114 (T 16)), (ia 115 72 (T 113) (T 114)), (ld 116 120 (T 115)), (mv 117 (T 15)), (ia 118 120 (T 116) (T 117)), (ld 119 80 (T 118))],
   .ldw none 120 80 11 11, .xs [nb (cl 121 87 [(T 119), (T 120)]), (ia 122 120 (T 110) (T 111)), (st 80 (T 122) (T 121))]])))
  (.ops [.xs [(bi 123 .add 3 (T 101) (I 1)), (mv 101 (T 123))]])))))))
  (.ops [.xs [(mv 124 (T 7))], .ldw none 125 80 11 11,
   .xs [(mv 126 (T 8)), (nc 127 (T 126)), (fa 128 140 (T 127) 1), (ld 129 34 (T 128)), (bd 130 113 [(0, (T 125)), (1, (T 129))]), (bs 131 110 1 [(0, (T 130))]), (ap 132 110 110 (T 124) (T 131)), (sa 7 (T 132))]])))))))))))
  (.seq (.ops [.xs [(mv 133 (T 7)), (sa 2 (T 133))]])
  (.ret))))))), [.tmp 2]⟩
def Z_slices_Repeat_Sint_int : ZFunc := ⟨.seq (.ops [.xs [(sa 4 (C (.slice none 0 0)))]])
  (.seq (.box 3584 0 (.seq (.ops [.xs [(mv 9 (T 1)), (bi 10 .lss 3 (T 9) (I 0))]])
  (.cond (T 10) (.ops [.xs [(mi 11 9 (C (.string { data := #[99, 97, 110, 110, 111, 116, 32, 98, 101, 32, 110, 101, 103, 97, 116, 105, 118, 101] }))), (⟨true, none, none, .panic (T 11)⟩)]])
  (.skip))))
  (.seq (.ops [.xs [(mv 13 (T 0)), (ln 14 34 (T 13)), (cv 15 3 142 (T 14)), (mv 16 (T 1)), (cv 17 3 142 (T 16)), (cl 18 89 [(T 15), (T 17)]), (mv 12 (T 18)), (ex 19 (T 12) 0), (ex 20 (T 12) 1), (sa 5 (T 19)), (sa 6 (T 20))]])
  (.seq (.box 266338304 0 (.seq (.box 132120576 0 (.ops [.xs [(mv 21 (T 5)), (bi 22 .gtr 142 (T 21) (C (.int .u64 0))), (mv 23 (T 22)), gd 23 false ((mv 24 (T 6))), gd 23 false ((bi 25 .gtr 142 (T 24) (C (.int .u64 9223372036854775807)))), (pk 26 (T 23) (C (.bool true)) (T 25))]]))
  (.cond (T 26) (.ops [.xs [(mi 27 9 (C (.string { data := #[116, 104, 101, 32, 114, 101, 115, 117, 108, 116, 32, 111, 102, 32, 40, 108, 101, 110, 40, 120, 41, 32, 42, 32, 99, 111, 117, 110, 116, 41, 32, 111, 118, 101, 114, 102, 108, 111, 119, 115] }))), (⟨true, none, none, .panic (T 27)⟩)]])
  (.skip))))
  (.seq (.ops [.xs [(mv 28 (T 6)), (cv 29 142 3 (T 28)), (ms 30 34 (T 29) (T 29)), (sa 7 (T 30))]])
  (.seq (.ops [.xs [(mv 31 (T 7)), (mv 32 (T 0)), (cp 33 34 34 (T 31) (T 32)), (sa 8 (T 33))]])
  (.seq (.block 0 (.loop 140720308486400 0 (.seq (.seq (.ops [.xs [(mv 34 (T 8)), (mv 35 (T 7)), (ln 36 34 (T 35)), (bi 37 .lss 3 (T 34) (T 36))]])
  (.cond (T 37) (.skip)
  (.exit 0)))
  (.block 1 (.ops [.xs [(mv 38 (T 8)), (mv 39 (T 7)), (mv 40 (T 8)), nb (sl 41 34 (T 39) (some (T 40)) none none), (mv 42 (T 7)), (mv 43 (T 8)), nb (sl 44 34 (T 42) none (some (T 43)) none), (cp 45 34 34 (T 41) (T 44)), (bi 46 .add 3 (T 38) (T 45)), (sa 8 (T 46))]])))))
  (.seq (.ops [.xs [(mv 47 (T 7)), (sa 4 (T 47))]])
  (.ret)))))))), [.tmp 4]⟩
def Z_shop_table_load : ZFunc := ⟨.seq (.ops [.bx 2 74 (T 0), .al 4 80])
  (.seq (.ops [.xs [(cl 8 59 [(I 0)])], .al 5 80, .stw true none 80 5 (T 8) 5])
  (.seq (.seq (.ops [.fa none 9 74 2 0 2 0, .ld none 10 72 9 2 0, .xs [(mv 11 (T 1)), (ia 12 72 (T 10) (T 11)), (ld 13 120 (T 12)), (ln 14 120 (T 13)), (mv 15 (I 0))]])
  (.block 0 (.loop 8355968 160 (.seq (.ops [.xs [(bi 16 .lss 3 (T 15) (T 14))]])
  (.seq (.cond (T 16) (.skip)
  (.exit 0))
  (.seq (.block 1 (.seq (.ops [.xs [(ia 17 120 (T 13) (T 15)), (ld 18 80 (T 17))], .al 7 80, .stw true none 80 7 (T 18) 7])
  (.ops [.ldw none 19 80 5 5, .ldw none 20 80 7 7, .xs [(cl 21 77 [(T 19), (T 20)])], .stw true none 80 5 (T 21) 5])))
  (.ops [.xs [(bi 22 .add 3 (T 15) (I 1)), (mv 15 (T 22))]])))))))
  (.seq (.ops [.ldw none 23 80 5 5, .stw true none 80 4 (T 23) 4])
  (.ret)))), [.cell 4 80]⟩
def Z_shop_table_square : ZFunc := ⟨.seq (.ops [.bx 1 74 (T 0), .al 2 74])
  (.seq (.ops [.ldw none 14 74 1 1, .xs [nb (cl 15 48 [(T 14)])], .ldw none 16 74 1 1, .xs [(cl 17 49 [(T 16)]), (sa 3 (T 15)), (sa 4 (T 17))]])
  (.seq (.ops [.ldw none 18 74 1 1, .xs [(cl 19 34 [(T 18)])], .al 5 74, .stw true none 74 5 (T 19) 5])
  (.seq (.ops [.ldw none 21 74 1 1, .xs [(cl 22 33 [(T 21)]), (mv 20 (T 22)), (ex 23 (T 20) 0), (ex 24 (T 20) 1)], .al 6 80, .stw true none 80 6 (T 23) 6,
   .xs [(sa 7 (T 24))]])
  (.seq (.box 34326184704 320 (.seq (.ops [.ldw none 26 74 5 5, .xs [(cl 27 33 [(T 26)]), (mv 25 (T 27)), (ex 28 (T 25) 0), (ex 29 (T 25) 1)], .al 8 80, .stw true none 80 8 (T 28) 8,
   .xs [(sa 9 (T 29))]])
  (.seq (.ops [.ldw none 30 80 8 8, .ldw none 31 80 6 6, .xs [(cl 32 35 [(T 30), (T 31)]), (bi 33 .gtr 3 (T 32) (I 0))]])
  (.cond (T 33) (.ops [.ldw none 34 80 8 8, .stw true none 80 6 (T 34) 6])
  (.skip)))))
  (.seq (.ops [.xs [(mv 35 (T 3)), (mv 36 (T 4)), (bi 37 .add 3 (T 35) (T 36)), (ms 38 72 (T 37) (T 37)), (sa 10 (T 38))]])
  (.seq (.seq (.ops [.xs [(mv 39 (T 10)), (ln 40 72 (T 39)), (mv 41 (I 0))]])
  (.block 0 (.loop 18012199486228480 0 (.seq (.ops [.xs [(bi 42 .lss 3 (T 41) (T 40))]])
  (.seq (.cond (T 42) (.skip)
  (.exit 0))
  (.seq (.block 1 (.seq (.ops [.xs [(mv 43 (T 41)), (sa 11 (T 43))]])
  (.ops [.xs [(mv 44 (T 10)), (mv 45 (T 11)), (cl 46 59 [(I 0)]), (bs 47 120 1 [(0, (T 46))]), (mv 48 (T 3)), (mv 49 (T 4)), (bi 50 .add 3 (T 48) (T 49)), (cl 51 96 [(T 47), (T 50)]), (ia 52 72 (T 44) (T 45)), (st 120 (T 52) (T 51))]])))
  (.ops [.xs [(bi 53 .add 3 (T 41) (I 1)), (mv 41 (T 53))]])))))))
  (.seq (.seq (.ops [.xs [(mv 54 (T 3)), (mv 55 (I 0))]])
  (.block 2 (.loop 4835703242429719679864832 0 (.seq (.ops [.xs [(bi 56 .lss 3 (T 55) (T 54))]])
  (.seq (.cond (T 56) (.skip)
  (.exit 2))
  (.seq (.block 3 (.seq (.ops [.xs [(mv 57 (T 55)), (sa 12 (T 57))]])
  (.seq (.ops [.xs [(mv 58 (T 10)), (mv 59 (T 12)), (ia 60 72 (T 58) (T 59)), (ld 61 120 (T 60))], .fa none 62 74 1 0 1 0, .ld none 63 72 62 1 0,
   .xs [(mv 64 (T 12)), (ia 65 72 (T 63) (T 64)), (ld 66 120 (T 65)), (cp 67 120 120 (T 61) (T 66))]])
  (.ops [.xs [(mv 68 (T 10)), (mv 69 (T 12)), (ia 70 72 (T 68) (T 69)), (ld 71 120 (T 70)), (mv 72 (T 4)), (mv 73 (T 12)), (bi 74 .add 3 (T 72) (T 73))],
   .ldw none 75 80 6 6, .ldw none 76 74 1 1,
   .xs [(mv 77 (T 12)), nb (cl 78 65 [(T 76), (T 77)]), nb (cl 79 87 [(T 75), (T 78)]), (ia 80 120 (T 71) (T 74)), (st 80 (T 80) (T 79))]]))))
  (.ops [.xs [(bi 81 .add 3 (T 55) (I 1)), (mv 55 (T 81))]])))))))
  (.seq (.seq (.ops [.xs [(mv 82 (T 4)), (mv 83 (I 0))]])
  (.block 4 (.loop 20769187424467903957204951919239168 0 (.seq (.ops [.xs [(bi 84 .lss 3 (T 83) (T 82))]])
  (.seq (.cond (T 84) (.skip)
  (.exit 4))
  (.seq (.block 5 (.seq (.ops [.xs [(mv 85 (T 83)), (sa 13 (T 85))]])
  (.seq (.ops [.xs [(mv 86 (T 10)), (mv 87 (T 3)), (mv 88 (T 13)), (bi 89 .add 3 (T 87) (T 88)), (ia 90 72 (T 86) (T 89)), (ld 91 120 (T 90)), (mv 92 (T 4)), nb (sl 93 120 (T 91) (some (T 92)) none none)],
   .fa none 94 74 5 0 5 0, .ld none 95 72 94 5 0, .xs [(mv 96 (T 13)), (ia 97 72 (T 95) (T 96)), (ld 98 120 (T 97)), (cp 99 120 120 (T 93) (T 98))]])
  (.ops [.xs [(mv 100 (T 10)), (mv 101 (T 3)), (mv 102 (T 13)), (bi 103 .add 3 (T 101) (T 102)), (ia 104 72 (T 100) (T 103)), (ld 105 120 (T 104)), (mv 106 (T 13))],
   .ldw none 107 80 6 6, .ldw none 108 74 5 5,
   .xs [(mv 109 (T 13)), nb (cl 110 65 [(T 108), (T 109)]), nb (cl 111 87 [(T 107), (T 110)]), (ia 112 120 (T 105) (T 106)), (st 80 (T 112) (T 111))]]))))
  (.ops [.xs [(bi 113 .add 3 (T 83) (I 1)), (mv 83 (T 113))]])))))))
  (.seq (.ops [.xs [(mv 114 (T 10)), (bd 115 74 [(0, (T 114))])], .stw true none 74 2 (T 115) 2])
  (.ret)))))))))), [.cell 2 74]⟩
def Z_big_Gcd : ZFunc := ⟨.seq (.ops [.bx 2 40 (T 0), .bx 3 40 (T 1), .al 4 40])
  (.seq (.ops [.ldw none 7 40 2 2, .xs [nb (cl 8 53 [(T 7)])], .ldw none 9 40 3 3, .xs [(cl 10 53 [(T 9)])], .stw true none 40 2 (T 8) 2, .stw true none 40 3 (T 10) 3])
  (.seq (.block 0 (.loop 8386656 108 (.seq (.seq (.ops [.fa none 11 40 3 1 3 1, .ld none 12 34 11 3 1, .xs [(ln 13 34 (T 12)), (bi 14 .gtr 3 (T 13) (I 0))]])
  (.cond (T 14) (.skip)
  (.exit 0)))
  (.block 1 (.seq (.ops [.ldw none 16 40 2 2, .ldw none 17 40 3 3, .xs [(cl 18 70 [(T 16), (T 17)]), (mv 15 (T 18)), (ex 19 (T 15) 0), (ex 20 (T 15) 1)], .al 5 40, .al 6 40,
   .stw true none 40 5 (T 19) 5, .stw true none 40 6 (T 20) 6])
  (.opsL [.ldw none 21 40 3 3, .ldw none 22 40 6 6, .stw false none 40 2 (T 21) 2, .stw true none 40 3 (T 22) 3]))))))
  (.seq (.ops [.ldw none 23 40 2 2, .stw true none 40 4 (T 23) 4])
  (.ret)))), [.cell 4 40]⟩
def Z_big_DivMod : ZFunc := ⟨.seq (.ops [.bx 2 40 (T 0), .bx 3 40 (T 1), .al 4 40, .al 5 40])
  (.seq (.ops [.fa none 14 40 2 1 2 1, .ld none 15 34 14 2 1, .xs [(ln 16 34 (T 15)), (ms 17 34 (T 16) (T 16)), (bs 18 34 0 []), (sa 6 (T 17)), (sa 7 (T 18))]])
  (.seq (.seq (.ops [.fa none 19 40 2 1 2 1, .ld none 20 34 19 2 1, .xs [(ln 21 34 (T 20)), (bi 22 .sub 3 (T 21) (I 1)), (sa 8 (T 22))]])
  (.block 0 (.loop 295147905179344441216 0 (.seq (.seq (.ops [.xs [(mv 23 (T 8)), (bi 24 .geq 3 (T 23) (I 0))]])
  (.cond (T 24) (.skip)
  (.exit 0)))
  (.seq (.block 1 (.seq (.ops [.fa none 27 40 2 1 2 1, .ld none 28 34 27 2 1,
   .xs [(mv 29 (T 8)), (ia 30 34 (T 28) (T 29)), (ld 31 3 (T 30)), (bs 32 34 1 [(0, (T 31))]), (mv 33 (T 7)), (ap 34 34 34 (T 32) (T 33)), (bd 35 40 [(1, (T 34))]), (cl 36 72 [(T 35)]), (fi 37 40 (T 36) 1), (sa 7 (T 37))]])
  (.seq (.ops [.xs [(sa 9 (I 0)), (sa 10 (I 10000))]])
  (.seq (.block 2 (.loop 36028522141060608 0 (.seq (.seq (.ops [.xs [(mv 38 (T 10)), (mv 39 (T 9)), (bi 40 .sub 3 (T 38) (T 39)), (bi 41 .gtr 3 (T 40) (I 1))]])
  (.cond (T 41) (.skip)
  (.exit 2)))
  (.block 3 (.seq (.ops [.xs [(mv 42 (T 9)), (mv 43 (T 10)), (bi 44 .add 3 (T 42) (T 43)), (bi 45 .quo 3 (T 44) (I 2)), (sa 11 (T 45))]])
  (.seq (.ops [.fa none 46 40 3 1 3 1, .ld none 47 34 46 3 1,
   .xs [(mv 48 (T 11)), (cl 49 97 [(T 47), (T 48)]), (mv 50 (T 7)), (cl 51 83 [(T 49), (T 50)]), (bi 52 .leq 3 (T 51) (I 0))]])
  (.cond (T 52) (.ops [.xs [(mv 53 (T 11)), (sa 9 (T 53))]])
  (.ops [.xs [(mv 54 (T 11)), (sa 10 (T 54))]]))))))))
  (.seq (.ops [.xs [(mv 55 (T 6)), (mv 56 (T 8)), (mv 57 (T 9)), (ia 58 34 (T 55) (T 56)), (st 3 (T 58) (T 57))]])
  (.ops [.xs [(mv 59 (T 7))], .fa none 60 40 3 1 3 1, .ld none 61 34 60 3 1,
   .xs [(mv 62 (T 9)), (cl 63 97 [(T 61), (T 62)]), (cl 64 84 [(T 59), (T 63)]), (bd 65 40 [(1, (T 64))]), (cl 66 72 [(T 65)]), (fi 67 40 (T 66) 1), (sa 7 (T 67))]]))))))
  (.ops [.xs [(mv 25 (T 8)), (bi 26 .sub 3 (T 25) (I 1)), (sa 8 (T 26))]]))))))
  (.seq (.ops [.fa none 68 40 2 0 2 0, .ld none 69 4 68 2 0,
   .xs [(mv 70 (T 6)), (bd 71 40 [(0, (T 69)), (1, (T 70))]), (cl 72 72 [(T 71)]), (mv 73 (T 7)), (bd 74 40 [(1, (T 73))]), (cl 75 72 [(T 74)])], .al 12 40,
   .al 13 40, .stw true none 40 12 (T 72) 12, .stw true none 40 13 (T 75) 13])
  (.seq (.seq (.box 19267255250108152471879680 0 (.ops [.fa none 76 40 2 0 2 0, .ld none 77 4 76 2 0, .xs [(mv 78 (T 77))], .fa (some (78, true)) 79 40 13 1 13 1, .ld (some (78, true)) 80 34 79 13 1,
   .xs [gd 78 true ((ln 81 34 (T 80))), gd 78 true ((bi 82 .gtr 3 (T 81) (I 0))), (pk 83 (T 78) (T 82) (C (.bool false)))]]))
  (.cond (T 83) (.seq (.ops [.ldw none 84 40 12 12, .xs [nb (cl 85 46 [(I 1)]), nb (cl 86 71 [(T 84), (T 85)])], .ldw none 87 40 3 3, .ldw none 88 40 13 13,
   .xs [(cl 89 71 [(T 87), (T 88)])], .stw true none 40 4 (T 86) 4, .stw true none 40 5 (T 89) 5])
  (.ret))
  (.skip)))
  (.seq (.opsL [.ldw none 90 40 12 12, .ldw none 91 40 13 13, .stw false none 40 4 (T 90) 4, .stw true none 40 5 (T 91) 5])
  (.ret)))))), [.cell 4 40, .cell 5 40]⟩
def Z_big_Sub : ZFunc := ⟨.seq (.ops [.bx 2 40 (T 0), .bx 3 40 (T 1), .al 4 40])
  (.seq (.ops [.ldw none 5 40 2 2, .ldw none 6 40 3 3, .xs [nb (cl 7 81 [(T 6)]), (cl 8 56 [(T 5), (T 7)])], .stw true none 40 4 (T 8) 4])
  (.ret)), [.cell 4 40]⟩
def Z_big_lean : ZFunc := ⟨.seq (.ops [.bx 1 40 (T 0), .al 2 40])
  (.seq (.ops [.fa none 4 40 1 1 1 1, .ld none 5 34 4 1 1, .xs [(ln 6 34 (T 5)), (sa 3 (T 6))]])
  (.seq (.block 0 (.loop 1048456 0 (.seq (.seq (.box 262016 0 (.ops [.xs [(mv 7 (T 3)), (bi 8 .gtr 3 (T 7) (I 0)), (mv 9 (T 8))], .fa (some (9, true)) 10 40 1 1 1 1, .ld (some (9, true)) 11 34 10 1 1,
   .xs [gd 9 true ((mv 12 (T 3))), gd 9 true ((bi 13 .sub 3 (T 12) (I 1))), gd 9 true ((ia 14 34 (T 11) (T 13))), gd 9 true ((ld 15 3 (T 14))), gd 9 true ((bi 16 .eql 3 (T 15) (I 0))), (pk 17 (T 9) (T 16) (C (.bool false)))]]))
  (.cond (T 17) (.skip)
  (.exit 0)))
  (.block 1 (.ops [.xs [(mv 18 (T 3)), (bi 19 .sub 3 (T 18) (I 1)), (sa 3 (T 19))]])))))
  (.seq (.ops [.xs [(bs 20 34 0 [])], .fa none 21 40 1 1 1 1, .ld none 22 34 21 1 1,
   .xs [(mv 23 (T 3)), (sl 24 34 (T 22) none (some (T 23)) none), (ap 25 34 34 (T 20) (T 24))], .fa none 26 40 1 1 1 1, .st true none 34 26 (T 25) 1 1])
  (.seq (.box 17045651456 2 (.ops [.fa none 27 40 1 0 1 0, .ld none 28 4 27 1 0,
   .xs [(mv 29 (T 28)), gd 29 true ((mv 30 (T 3))), gd 29 true ((bi 31 .gtr 3 (T 30) (I 0))), (pk 32 (T 29) (T 31) (C (.bool false)))],
   .fa none 33 40 1 0 1 0, .st true none 4 33 (T 32) 1 0]))
  (.seq (.ops [.ldw none 34 40 1 1, .stw true none 40 2 (T 34) 2])
  (.ret)))))), [.cell 2 40]⟩
def Z_slices_Repeat_SSint_Sint : ZFunc := ⟨.seq (.ops [.xs [(sa 4 (C (.slice none 0 0)))]])
  (.seq (.box 3584 0 (.seq (.ops [.xs [(mv 9 (T 1)), (bi 10 .lss 3 (T 9) (I 0))]])
  (.cond (T 10) (.ops [.xs [(mi 11 9 (C (.string { data := #[99, 97, 110, 110, 111, 116, 32, 98, 101, 32, 110, 101, 103, 97, 116, 105, 118, 101] }))), (⟨true, none, none, .panic (T 11)⟩)]])
  (.skip))))
  (.seq (.ops [.xs [(mv 13 (T 0)), (ln 14 22 (T 13)), (cv 15 3 142 (T 14)), (mv 16 (T 1)), (cv 17 3 142 (T 16)), (cl 18 89 [(T 15), (T 17)]), (mv 12 (T 18)), (ex 19 (T 12) 0), (ex 20 (T 12) 1), (sa 5 (T 19)), (sa 6 (T 20))]])
  (.seq (.box 266338304 0 (.seq (.box 132120576 0 (.ops [.xs [(mv 21 (T 5)), (bi 22 .gtr 142 (T 21) (C (.int .u64 0))), (mv 23 (T 22)), gd 23 false ((mv 24 (T 6))), gd 23 false ((bi 25 .gtr 142 (T 24) (C (.int .u64 9223372036854775807)))), (pk 26 (T 23) (C (.bool true)) (T 25))]]))
  (.cond (T 26) (.ops [.xs [(mi 27 9 (C (.string { data := #[116, 104, 101, 32, 114, 101, 115, 117, 108, 116, 32, 111, 102, 32, 40, 108, 101, 110, 40, 120, 41, 32, 42, 32, 99, 111, 117, 110, 116, 41, 32, 111, 118, 101, 114, 102, 108, 111, 119, 115] }))), (⟨true, none, none, .panic (T 27)⟩)]])
  (.skip))))
  (.seq (.ops [.xs [(mv 28 (T 6)), (cv 29 142 3 (T 28)), (ms 30 22 (T 29) (T 29)), (sa 7 (T 30))]])
  (.seq (.ops [.xs [(mv 31 (T 7)), (mv 32 (T 0)), (cp 33 22 22 (T 31) (T 32)), (sa 8 (T 33))]])
  (.seq (.block 0 (.loop 140720308486400 0 (.seq (.seq (.ops [.xs [(mv 34 (T 8)), (mv 35 (T 7)), (ln 36 22 (T 35)), (bi 37 .lss 3 (T 34) (T 36))]])
  (.cond (T 37) (.skip)
  (.exit 0)))
  (.block 1 (.ops [.xs [(mv 38 (T 8)), (mv 39 (T 7)), (mv 40 (T 8)), nb (sl 41 22 (T 39) (some (T 40)) none none), (mv 42 (T 7)), (mv 43 (T 8)), nb (sl 44 22 (T 42) none (some (T 43)) none), (cp 45 22 22 (T 41) (T 44)), (bi 46 .add 3 (T 38) (T 45)), (sa 8 (T 46))]])))))
  (.seq (.ops [.xs [(mv 47 (T 7)), (sa 4 (T 47))]])
  (.ret)))))))), [.tmp 4]⟩
def Z_num_Parse : ZFunc := ⟨.seq (.ops [.al 2 80, .xs [(sa 3 (C (.bool false)))]])
  (.seq (.ops [.xs [(mv 15 (T 0)), (cl 16 98 [(T 15), (C (.string { data := #[47] }))]), (mv 14 (T 16)), (ex 17 (T 14) 0), (ex 18 (T 14) 1), (ex 19 (T 14) 2), (sa 4 (T 17)), (sa 5 (T 18)), (sa 6 (T 19))]])
  (.seq (.ops [.xs [(mv 21 (T 4)), (cl 22 99 [(T 21), (C (.string { data := #[45] }))]), (mv 20 (T 22)), (ex 23 (T 20) 0), (ex 24 (T 20) 1), (sa 7 (T 23)), (sa 8 (T 24))]])
  (.seq (.ops [.xs [(mv 26 (T 7)), (cl 27 100 [(T 26)]), (mv 25 (T 27)), (ex 28 (T 25) 0), (ex 29 (T 25) 1), (sa 9 (T 28)), (sa 10 (T 29))]])
  (.seq (.ops [.xs [(bs 30 76 1 [(0, (C (.int .u32 1)))]), (sa 11 (T 30)), (sa 12 (C (.bool true)))]])
  (.seq (.box 17590038566912 0 (.seq (.ops [.xs [(mv 31 (T 6))]])
  (.cond (T 31) (.seq (.ops [.xs [(mv 33 (T 5)), (cl 34 100 [(T 33)]), (mv 32 (T 34)), (ex 35 (T 32) 0), (ex 36 (T 32) 1), (sa 11 (T 35)), (sa 12 (T 36))]])
  (.ops [.xs [(mv 37 (T 12)), (mv 38 (T 37)), gd 38 true ((mv 39 (T 11))), gd 38 true ((bs 40 76 1 [(0, (C (.int .u32 1)))])), gd 38 true ((cl 41 101 [(T 39), (T 40)])), gd 38 true ((bi 42 .gtr 3 (T 41) (I 0))), (pk 43 (T 38) (T 42) (C (.bool false))), (sa 12 (T 43))]]))
  (.skip))))
  (.seq (.seq (.box 288212783965667328 0 (.ops [.xs [(mv 44 (T 10)), (un 45 .not (T 44)), (mv 46 (T 45)), gd 46 false ((mv 47 (T 12))), gd 46 false ((un 48 .not (T 47))), (pk 49 (T 46) (C (.bool true)) (T 48)), (mv 50 (T 49)), gd 50 false ((mv 51 (T 8))), gd 50 false ((mv 52 (T 51))), gd 52 true ((mv 53 (T 9))), gd 52 true ((ln 54 76 (T 53))), gd 52 true ((bi 55 .eql 3 (T 54) (I 0))), gd 50 false ((pk 56 (T 52) (T 55) (C (.bool false)))), (pk 57 (T 50) (C (.bool true)) (T 56))]]))
  (.cond (T 57) (.seq (.ops [.xs [(bd 58 80 [])], .stw true none 80 2 (T 58) 2, .xs [(sa 3 (C (.bool false)))]])
  (.ret))
  (.skip)))
  (.seq (.ops [.xs [(mv 59 (T 8)), (mv 60 (T 9)), (cl 61 92 [(T 59), (T 60)]), (mv 62 (T 11)), (cl 63 92 [(C (.bool false)), (T 62)]), (bd 64 80 [(0, (T 61)), (1, (T 63))])],
   .al 13 80, .stw true none 80 13 (T 64) 13])
  (.seq (.box 302194561415509874573320 4 (.ops [.ldw none 65 80 13 13, .xs [(mv 66 (T 6)), (un 67 .not (T 66)), (mv 68 (T 67))], .fa (some (68, false)) 69 80 13 0 13 0,
   .ld (some (68, false)) 70 78 69 13 0, .fa (some (68, false)) 71 80 13 1 13 2, .ld (some (68, false)) 72 78 71 13 2,
   .xs [gd 68 false (nb (cl 73 102 [(T 70), (T 72)])), gd 68 false (nb (cl 74 88 [(I 1)])), gd 68 false (nb (cl 75 67 [(T 73), (T 74)])), gd 68 false ((bi 76 .eql 3 (T 75) (I 0))), (pk 77 (T 68) (C (.bool true)) (T 76))],
   .stw true none 80 2 (T 65) 2, .xs [(sa 3 (T 77))]]))
  (.ret))))))))), [.cell 2 80, .tmp 3]⟩
def Z_slices_Contains_Sint_int : ZFunc := ⟨.seq (.ops [.xs [(sa 4 (C (.bool false)))]])
  (.seq (.ops [.xs [(mv 5 (T 0)), (mv 6 (T 1)), (cl 7 103 [(T 5), (T 6)]), (bi 8 .geq 3 (T 7) (I 0)), (sa 4 (T 8))]])
  (.ret)), [.tmp 4]⟩
def Z_num_Rat_Add : ZFunc := ⟨.seq (.ops [.bx 2 80 (T 0), .bx 3 80 (T 1), .al 4 80])
  (.seq (.seq (.box 2016 0 (.ops [.ldw none 5 80 2 2, .xs [(cl 6 79 [(T 5)]), (mv 7 (T 6))], .ldw (some (7, true)) 8 80 3 3,
   .xs [gd 7 true ((cl 9 79 [(T 8)])), (pk 10 (T 7) (T 9) (C (.bool false)))]]))
  (.cond (T 10) (.seq (.ops [.fa none 11 80 2 0 2 0, .ld none 12 78 11 2 0, .fa none 13 80 3 0 3 0, .ld none 14 78 13 3 0, .xs [(cl 15 105 [(T 12), (T 14)]), (cl 16 104 [(T 15)])],
   .stw true none 80 4 (T 16) 4])
  (.ret))
  (.skip)))
  (.seq (.ops [.fa none 17 80 2 0 2 0, .ld none 18 78 17 2 0, .fa none 19 80 3 1 3 2, .ld none 20 78 19 3 2, .xs [nb (cl 21 66 [(T 18), (T 20)])],
   .fa none 22 80 3 0 3 0, .ld none 23 78 22 3 0, .fa none 24 80 2 1 2 2, .ld none 25 78 24 2 2,
   .xs [nb (cl 26 66 [(T 23), (T 25)]), nb (cl 27 105 [(T 21), (T 26)])], .fa none 28 80 2 1 2 2, .ld none 29 78 28 2 2, .fa none 30 80 3 1 3 2,
   .ld none 31 78 30 3 2, .xs [(cl 32 66 [(T 29), (T 31)]), (cl 33 106 [(T 27), (T 32)])], .stw true none 80 4 (T 33) 4])
  (.ret))), [.cell 4 80]⟩
def Z_num_text : ZFunc := ⟨.seq (.ops [.xs [(sa 2 (C (.string { data := #[] })))]])
  (.seq (.seq (.ops [.xs [(mv 7 (T 0)), (ln 8 76 (T 7)), (bi 9 .eql 3 (T 8) (I 0))]])
  (.cond (T 9) (.seq (.ops [.xs [(sa 2 (C (.string { data := #[48] })))]])
  (.ret))
  (.skip)))
  (.seq (.ops [.xs [(sa 3 (C (.slice none 0 0)))]])
  (.seq (.block 0 (.loop 2199023254649 0 (.seq (.seq (.ops [.xs [(mv 10 (T 0)), (ln 11 76 (T 10)), (bi 12 .gtr 3 (T 11) (I 0))]])
  (.cond (T 12) (.skip)
  (.exit 0)))
  (.block 1 (.seq (.ops [.xs [(mv 14 (T 0)), (cl 15 107 [(T 14), (C (.int .u32 1000000000))]), (mv 13 (T 15)), (ex 16 (T 13) 0), (ex 17 (T 13) 1), (sa 4 (T 16)), (sa 5 (T 17))]])
  (.seq (.seq (.ops [.xs [(sa 6 (I 0))]])
  (.block 2 (.loop 1099511365736 0 (.seq (.seq (.box 536608768 0 (.ops [.xs [(mv 18 (T 6)), (bi 19 .lss 3 (T 18) (I 9)), (mv 20 (T 19)), gd 20 true ((mv 21 (T 4))), gd 20 true ((ln 22 76 (T 21))), gd 20 true ((bi 23 .gtr 3 (T 22) (I 0))), gd 20 true ((mv 24 (T 23))), gd 24 false ((mv 25 (T 5))), gd 24 false ((bi 26 .gtr 124 (T 25) (C (.int .u32 0)))), gd 20 true ((pk 27 (T 24) (C (.bool true)) (T 26))), (pk 28 (T 20) (T 27) (C (.bool false)))]]))
  (.cond (T 28) (.skip)
  (.exit 2)))
  (.seq (.block 3 (.seq (.ops [.xs [(mv 31 (T 3)), (mv 32 (T 5)), (bi 33 .rem 124 (T 32) (C (.int .u32 10))), (bi 34 .add 124 (C (.int .u32 48)) (T 33)), (cv 35 124 5 (T 34)), (bs 36 61 1 [(0, (T 35))]), (ap 37 61 61 (T 31) (T 36)), (sa 3 (T 37))]])
  (.ops [.xs [(mv 38 (T 5)), (bi 39 .quo 124 (T 38) (C (.int .u32 10))), (sa 5 (T 39))]])))
  (.ops [.xs [(mv 29 (T 6)), (bi 30 .add 3 (T 29) (I 1)), (sa 6 (T 30))]]))))))
  (.ops [.xs [(mv 40 (T 4)), (sa 0 (T 40))]])))))))
  (.seq (.ops [.xs [(mv 41 (T 3)), (cl 42 108 [(T 41)])]])
  (.seq (.ops [.xs [(mv 43 (T 3)), (cv 44 61 9 (T 43)), (sa 2 (T 44))]])
  (.ret)))))), [.tmp 2]⟩
def Z_big_digits : ZFunc := ⟨.seq (.ops [.al 2 40, .xs [(sa 3 (C (.bool false)))]])
  (.seq (.seq (.box 67108608 0 (.ops [.xs [(mv 8 (T 0)), (ln 9 9 (T 8)), (bi 10 .lss 3 (T 9) (I 1)), (mv 11 (T 10)), gd 11 false ((mv 12 (T 0))), gd 11 false ((ln 13 9 (T 12))), gd 11 false ((bi 14 .gtr 3 (T 13) (I 4000))), (pk 15 (T 11) (C (.bool true)) (T 14)), (mv 16 (T 15)), gd 16 false ((mv 17 (T 0))), gd 16 false ((ix 18 9 (T 17) (I 0))), gd 16 false ((bi 19 .eql 5 (T 18) (C (.int .u8 48)))), gd 16 false ((mv 20 (T 19))), gd 20 true ((mv 21 (T 0))), gd 20 true ((ln 22 9 (T 21))), gd 20 true ((bi 23 .gtr 3 (T 22) (I 1))), gd 16 false ((pk 24 (T 20) (T 23) (C (.bool false)))), (pk 25 (T 16) (C (.bool true)) (T 24))]]))
  (.cond (T 25) (.seq (.ops [.xs [(bd 26 40 [])], .stw true none 40 2 (T 26) 2, .xs [(sa 3 (C (.bool false)))]])
  (.ret))
  (.skip)))
  (.seq (.ops [.xs [(bd 27 40 [])], .al 4 40, .stw true none 40 4 (T 27) 4])
  (.seq (.seq (.ops [.xs [(mv 28 (T 0)), (ln 29 9 (T 28)), (sa 5 (T 29))]])
  (.block 0 (.loop 147573952588602671336 20 (.seq (.seq (.ops [.xs [(mv 30 (T 5)), (bi 31 .gtr 3 (T 30) (I 0))]])
  (.cond (T 31) (.skip)
  (.exit 0)))
  (.seq (.block 1 (.seq (.ops [.xs [(sa 6 (I 0))]])
  (.seq (.seq (.ops [.xs [(mv 34 (T 5)), (bi 35 .sub 3 (T 34) (I 4)), (mxi 36 [3, 3] (I 0) (T 35)), (sa 7 (T 36))]])
  (.block 2 (.loop 2305842871774740680 4 (.seq (.seq (.ops [.xs [(mv 37 (T 7)), (mv 38 (T 5)), (bi 39 .lss 3 (T 37) (T 38))]])
  (.cond (T 39) (.skip)
  (.exit 2)))
  (.seq (.block 3 (.seq (.seq (.box 4499201580859392 0 (.ops [.xs [(mv 42 (T 0)), (mv 43 (T 7)), (ix 44 9 (T 42) (T 43)), (bi 45 .lss 5 (T 44) (C (.int .u8 48))), (mv 46 (T 45)), gd 46 false ((mv 47 (T 0))), gd 46 false ((mv 48 (T 7))), gd 46 false ((ix 49 9 (T 47) (T 48))), gd 46 false ((bi 50 .gtr 5 (T 49) (C (.int .u8 57)))), (pk 51 (T 46) (C (.bool true)) (T 50))]]))
  (.cond (T 51) (.seq (.ops [.xs [(bd 52 40 [])], .stw true none 40 2 (T 52) 2, .xs [(sa 3 (C (.bool false)))]])
  (.ret))
  (.skip)))
  (.ops [.xs [(mv 53 (T 6)), (bi 54 .mul 3 (I 10) (T 53)), (mv 55 (T 0)), (mv 56 (T 7)), (ix 57 9 (T 55) (T 56)), (bi 58 .sub 5 (T 57) (C (.int .u8 48))), (cv 59 5 3 (T 58)), (bi 60 .add 3 (T 54) (T 59)), (sa 6 (T 60))]])))
  (.ops [.xs [(mv 40 (T 7)), (bi 41 .add 3 (T 40) (I 1)), (sa 7 (T 41))]]))))))
  (.ops [.fa none 61 40 4 1 4 1, .ld none 62 34 61 4 1, .xs [(mv 63 (T 6)), (bs 64 34 1 [(0, (T 63))]), (ap 65 34 34 (T 62) (T 64))], .fa none 66 40 4 1 4 1,
   .st true none 34 66 (T 65) 4 1]))))
  (.ops [.xs [(mv 32 (T 5)), (bi 33 .sub 3 (T 32) (I 4)), (sa 5 (T 33))]]))))))
  (.seq (.ops [.ldw none 67 40 4 4, .xs [(cl 68 72 [(T 67)])], .stw true none 40 2 (T 68) 2, .xs [(sa 3 (C (.bool true)))]])
  (.ret))))), [.cell 2 40, .tmp 3]⟩
def Z_big_Neg : ZFunc := ⟨.seq (.ops [.bx 1 40 (T 0), .al 2 40])
  (.seq (.box 8184 2 (.ops [.fa none 3 40 1 0 1 0, .ld none 4 4 3 1 0, .xs [(un 5 .not (T 4)), (mv 6 (T 5))], .fa (some (6, true)) 7 40 1 1 1 1, .ld (some (6, true)) 8 34 7 1 1,
   .xs [gd 6 true ((ln 9 34 (T 8))), gd 6 true ((bi 10 .gtr 3 (T 9) (I 0))), (pk 11 (T 6) (T 10) (C (.bool false)))], .fa none 12 40 1 0 1 0,
   .st true none 4 12 (T 11) 1 0]))
  (.seq (.ops [.ldw none 13 40 1 1, .stw true none 40 2 (T 13) 2])
  (.ret))), [.cell 2 40]⟩
def Z_big_plus : ZFunc := ⟨.seq (.ops [.xs [(sa 4 (C (.slice none 0 0)))]])
  (.seq (.ops [.xs [(bs 9 34 0 []), (sa 5 (T 9)), (sa 6 (I 0))]])
  (.seq (.seq (.ops [.xs [(sa 7 (I 0))]])
  (.block 0 (.loop 18014398509481440 0 (.seq (.seq (.box 16776192 0 (.ops [.xs [(mv 10 (T 7)), (mv 11 (T 0)), (ln 12 34 (T 11)), (bi 13 .lss 3 (T 10) (T 12)), (mv 14 (T 13)), gd 14 false ((mv 15 (T 7))), gd 14 false ((mv 16 (T 1))), gd 14 false ((ln 17 34 (T 16))), gd 14 false ((bi 18 .lss 3 (T 15) (T 17))), (pk 19 (T 14) (C (.bool true)) (T 18)), (mv 20 (T 19)), gd 20 false ((mv 21 (T 6))), gd 20 false ((bi 22 .gtr 3 (T 21) (I 0))), (pk 23 (T 20) (C (.bool true)) (T 22))]]))
  (.cond (T 23) (.skip)
  (.exit 0)))
  (.seq (.block 1 (.seq (.ops [.xs [(mv 26 (T 6)), (sa 8 (T 26))]])
  (.seq (.box 137304736000 0 (.seq (.ops [.xs [(mv 27 (T 7)), (mv 28 (T 0)), (ln 29 34 (T 28)), (bi 30 .lss 3 (T 27) (T 29))]])
  (.cond (T 30) (.ops [.xs [(mv 31 (T 8)), (mv 32 (T 0)), (mv 33 (T 7)), (ia 34 34 (T 32) (T 33)), (ld 35 3 (T 34)), (bi 36 .add 3 (T 31) (T 35)), (sa 8 (T 36))]])
  (.skip))))
  (.seq (.box 140600049402112 0 (.seq (.ops [.xs [(mv 37 (T 7)), (mv 38 (T 1)), (ln 39 34 (T 38)), (bi 40 .lss 3 (T 37) (T 39))]])
  (.cond (T 40) (.ops [.xs [(mv 41 (T 8)), (mv 42 (T 1)), (mv 43 (T 7)), (ia 44 34 (T 42) (T 43)), (ld 45 3 (T 44)), (bi 46 .add 3 (T 41) (T 45)), (sa 8 (T 46))]])
  (.skip))))
  (.ops [.xs [(mv 47 (T 5)), (mv 48 (T 8)), (bi 49 .rem 3 (T 48) (I 10000)), (bs 50 34 1 [(0, (T 49))]), (ap 51 34 34 (T 47) (T 50)), (mv 52 (T 8)), (bi 53 .quo 3 (T 52) (I 10000)), (sa 5 (T 51)), (sa 6 (T 53))]])))))
  (.ops [.xs [(mv 24 (T 7)), (bi 25 .add 3 (T 24) (I 1)), (sa 7 (T 25))]]))))))
  (.seq (.ops [.xs [(mv 54 (T 5)), (sa 4 (T 54))]])
  (.ret)))), [.tmp 4]⟩
def Z_big_sizes : ZFunc := ⟨.seq (.ops [.xs [(sa 4 (I 0))]])
  (.seq (.seq (.ops [.xs [(mv 6 (T 0)), (ln 7 34 (T 6)), (mv 8 (T 1)), (ln 9 34 (T 8)), (bi 10 .neq 3 (T 7) (T 9))]])
  (.cond (T 10) (.seq (.seq (.ops [.xs [(mv 11 (T 0)), (ln 12 34 (T 11)), (mv 13 (T 1)), (ln 14 34 (T 13)), (bi 15 .lss 3 (T 12) (T 14))]])
  (.cond (T 15) (.seq (.ops [.xs [(sa 4 (I (-1)))]])
  (.ret))
  (.skip)))
  (.seq (.ops [.xs [(sa 4 (I 1))]])
  (.ret)))
  (.skip)))
  (.seq (.seq (.ops [.xs [(mv 16 (T 0)), (ln 17 34 (T 16)), (bi 18 .sub 3 (T 17) (I 1)), (sa 5 (T 18))]])
  (.block 0 (.loop 2199022731312 0 (.seq (.seq (.ops [.xs [(mv 19 (T 5)), (bi 20 .geq 3 (T 19) (I 0))]])
  (.cond (T 20) (.skip)
  (.exit 0)))
  (.seq (.block 1 (.seq (.seq (.ops [.xs [(mv 23 (T 0)), (mv 24 (T 5)), (ia 25 34 (T 23) (T 24)), (ld 26 3 (T 25)), (mv 27 (T 1)), (mv 28 (T 5)), (ia 29 34 (T 27) (T 28)), (ld 30 3 (T 29)), (bi 31 .lss 3 (T 26) (T 30))]])
  (.cond (T 31) (.seq (.ops [.xs [(sa 4 (I (-1)))]])
  (.ret))
  (.skip)))
  (.seq (.ops [.xs [(mv 32 (T 0)), (mv 33 (T 5)), (ia 34 34 (T 32) (T 33)), (ld 35 3 (T 34)), (mv 36 (T 1)), (mv 37 (T 5)), (ia 38 34 (T 36) (T 37)), (ld 39 3 (T 38)), (bi 40 .gtr 3 (T 35) (T 39))]])
  (.cond (T 40) (.seq (.ops [.xs [(sa 4 (I 1))]])
  (.ret))
  (.skip)))))
  (.ops [.xs [(mv 21 (T 5)), (bi 22 .sub 3 (T 21) (I 1)), (sa 5 (T 22))]]))))))
  (.seq (.ops [.xs [(sa 4 (I 0))]])
  (.ret)))), [.tmp 4]⟩
def Z_big_less : ZFunc := ⟨.seq (.ops [.xs [(sa 4 (C (.slice none 0 0)))]])
  (.seq (.ops [.xs [(bs 9 34 0 []), (sa 5 (T 9)), (sa 6 (I 0))]])
  (.seq (.seq (.ops [.xs [(sa 7 (I 0))]])
  (.block 0 (.loop 1099511627232 0 (.seq (.seq (.ops [.xs [(mv 10 (T 7)), (mv 11 (T 0)), (ln 12 34 (T 11)), (bi 13 .lss 3 (T 10) (T 12))]])
  (.cond (T 13) (.skip)
  (.exit 0)))
  (.seq (.block 1 (.seq (.ops [.xs [(mv 16 (T 0)), (mv 17 (T 7)), (ia 18 34 (T 16) (T 17)), (ld 19 3 (T 18)), (mv 20 (T 6)), (bi 21 .sub 3 (T 19) (T 20)), (sa 8 (T 21))]])
  (.seq (.box 4290773248 0 (.seq (.ops [.xs [(mv 22 (T 7)), (mv 23 (T 1)), (ln 24 34 (T 23)), (bi 25 .lss 3 (T 22) (T 24))]])
  (.cond (T 25) (.ops [.xs [(mv 26 (T 8)), (mv 27 (T 1)), (mv 28 (T 7)), (ia 29 34 (T 27) (T 28)), (ld 30 3 (T 29)), (bi 31 .sub 3 (T 26) (T 30)), (sa 8 (T 31))]])
  (.skip))))
  (.seq (.ops [.xs [(sa 6 (I 0))]])
  (.seq (.box 64424509760 0 (.seq (.ops [.xs [(mv 32 (T 8)), (bi 33 .lss 3 (T 32) (I 0))]])
  (.cond (T 33) (.ops [.xs [(mv 34 (T 8)), (bi 35 .add 3 (T 34) (I 10000)), (sa 8 (T 35)), (sa 6 (I 1))]])
  (.skip))))
  (.ops [.xs [(mv 36 (T 5)), (mv 37 (T 8)), (bs 38 34 1 [(0, (T 37))]), (ap 39 34 34 (T 36) (T 38)), (sa 5 (T 39))]]))))))
  (.ops [.xs [(mv 14 (T 7)), (bi 15 .add 3 (T 14) (I 1)), (sa 7 (T 15))]]))))))
  (.seq (.ops [.xs [(mv 40 (T 5)), (sa 4 (T 40))]])
  (.ret)))), [.tmp 4]⟩
def Z_slices_Clone_Snum_Rat_num_Rat : ZFunc := ⟨.seq (.ops [.xs [(sa 2 (C (.slice none 0 0)))]])
  (.seq (.seq (.ops [.xs [(mv 3 (T 0)), (bi 4 .eql 120 (T 3) (C (.slice none 0 0)))]])
  (.cond (T 4) (.seq (.ops [.xs [(sa 2 (C (.slice none 0 0)))]])
  (.ret))
  (.skip)))
  (.seq (.ops [.xs [(bs 5 120 0 []), (mv 6 (T 0)), (ap 7 120 120 (T 5) (T 6)), (sa 2 (T 7))]])
  (.ret))), [.tmp 2]⟩
def Z_shop_matching_find : ZFunc := ⟨.seq (.ops [.xs [(sa 4 (C (.bool false)))]])
  (.seq (.seq (.ops [.xs [(mv 6 (T 0)), (nc 7 (T 6)), (fa 8 140 (T 7) 0), (ld 9 74 (T 8)), (cl 10 49 [(T 9)]), (mv 11 (I 0))]])
  (.block 0 (.loop 590295810358705649712 0 (.seq (.ops [.xs [(bi 12 .lss 3 (T 11) (T 10))]])
  (.seq (.cond (T 12) (.skip)
  (.exit 0))
  (.seq (.box 295147905179352817712 0 (.block 1 (.seq (.ops [.xs [(mv 13 (T 11)), (sa 5 (T 13))]])
  (.seq (.seq (.box 68719460352 0 (.ops [.xs [(mv 14 (T 0)), (nc 15 (T 14)), (fa 16 140 (T 15) 2), (ld 17 115 (T 16)), (mv 18 (T 5)), (ia 19 115 (T 17) (T 18)), (ld 20 4 (T 19)), (mv 21 (T 20)), gd 21 false ((mv 22 (T 0))), gd 21 false ((nc 23 (T 22))), gd 21 false ((fa 24 140 (T 23) 0)), gd 21 false ((fa 25 74 (T 24) 0)), gd 21 false ((ld 26 72 (T 25))), gd 21 false ((mv 27 (T 1))), gd 21 false ((ia 28 72 (T 26) (T 27))), gd 21 false ((ld 29 120 (T 28))), gd 21 false ((mv 30 (T 5))), gd 21 false ((ia 31 120 (T 29) (T 30))), gd 21 false ((ld 32 80 (T 31))), gd 21 false ((cl 33 75 [(T 32)])), gd 21 false ((bi 34 .leq 3 (T 33) (I 0))), (pk 35 (T 21) (C (.bool true)) (T 34))]]))
  (.cond (T 35) (.exit 1)
  (.skip)))
  (.seq (.ops [.xs [(mv 36 (T 0)), (nc 37 (T 36)), (fa 38 140 (T 37) 2), (ld 39 115 (T 38)), (mv 40 (T 5)), (ia 41 115 (T 39) (T 40)), (st 4 (T 41) (C (.bool true)))]])
  (.seq (.box 2305838611167182848 0 (.ops [.xs [(mv 42 (T 0)), (nc 43 (T 42)), (fa 44 140 (T 43) 1), (ld 45 34 (T 44)), (mv 46 (T 5)), (ia 47 34 (T 45) (T 46)), (ld 48 3 (T 47)), (bi 49 .lss 3 (T 48) (I 0)), (mv 50 (T 49)), gd 50 false ((mv 51 (T 0))), gd 50 false ((mv 52 (T 0))), gd 50 false ((nc 53 (T 52))), gd 50 false ((fa 54 140 (T 53) 1)), gd 50 false ((ld 55 34 (T 54))), gd 50 false ((mv 56 (T 5))), gd 50 false ((ia 57 34 (T 55) (T 56))), gd 50 false ((ld 58 3 (T 57))), gd 50 false ((cl 59 86 [(T 51), (T 58)])), (pk 60 (T 50) (C (.bool true)) (T 59))]]))
  (.cond (T 60) (.seq (.ops [.xs [(mv 61 (T 0)), (nc 62 (T 61)), (fa 63 140 (T 62) 1), (ld 64 34 (T 63)), (mv 65 (T 5)), (mv 66 (T 1)), (ia 67 34 (T 64) (T 65)), (st 3 (T 67) (T 66))]])
  (.seq (.ops [.xs [(sa 4 (C (.bool true)))]])
  (.ret)))
  (.skip))))))))
  (.ops [.xs [(bi 68 .add 3 (T 11) (I 1)), (mv 11 (T 68))]])))))))
  (.seq (.ops [.xs [(sa 4 (C (.bool false)))]])
  (.ret))), [.tmp 4]⟩
def Z_num_Rat_Sub : ZFunc := ⟨.seq (.ops [.bx 2 80 (T 0), .bx 3 80 (T 1), .al 4 80])
  (.seq (.ops [.ldw none 5 80 2 2, .ldw none 6 80 3 3, .xs [nb (cl 7 109 [(T 6)]), (cl 8 77 [(T 5), (T 7)])], .stw true none 80 4 (T 8) 4])
  (.ret)), [.cell 4 80]⟩
def Z_bits_Mul : ZFunc := ⟨.seq (.ops [.xs [(sa 4 (C (.int .u64 0))), (sa 5 (C (.int .u64 0)))]])
  (.seq (.cond (C (.bool false)) (.seq (.ops [.xs [(mv 11 (T 0)), (cv 12 142 124 (T 11)), (mv 13 (T 1)), (cv 14 142 124 (T 13)), (cl 15 111 [(T 12), (T 14)]), (mv 10 (T 15)), (ex 16 (T 10) 0), (ex 17 (T 10) 1), (sa 6 (T 16)), (sa 7 (T 17))]])
  (.seq (.ops [.xs [(mv 18 (T 6)), (cv 19 124 142 (T 18)), (mv 20 (T 7)), (cv 21 124 142 (T 20)), (sa 4 (T 19)), (sa 5 (T 21))]])
  (.ret)))
  (.skip))
  (.seq (.ops [.xs [(mv 23 (T 0)), (mv 24 (T 1)), (cl 25 112 [(T 23), (T 24)]), (mv 22 (T 25)), (ex 26 (T 22) 0), (ex 27 (T 22) 1), (sa 8 (T 26)), (sa 9 (T 27))]])
  (.seq (.ops [.xs [(mv 28 (T 8)), (mv 29 (T 9)), (sa 4 (T 28)), (sa 5 (T 29))]])
  (.ret)))), [.tmp 4, .tmp 5]⟩
def Z_slices_Repeat_Snum_Rat_num_Rat : ZFunc := ⟨.seq (.ops [.xs [(sa 4 (C (.slice none 0 0)))]])
  (.seq (.box 3584 0 (.seq (.ops [.xs [(mv 9 (T 1)), (bi 10 .lss 3 (T 9) (I 0))]])
  (.cond (T 10) (.ops [.xs [(mi 11 9 (C (.string { data := #[99, 97, 110, 110, 111, 116, 32, 98, 101, 32, 110, 101, 103, 97, 116, 105, 118, 101] }))), (⟨true, none, none, .panic (T 11)⟩)]])
  (.skip))))
  (.seq (.ops [.xs [(mv 13 (T 0)), (ln 14 120 (T 13)), (cv 15 3 142 (T 14)), (mv 16 (T 1)), (cv 17 3 142 (T 16)), (cl 18 89 [(T 15), (T 17)]), (mv 12 (T 18)), (ex 19 (T 12) 0), (ex 20 (T 12) 1), (sa 5 (T 19)), (sa 6 (T 20))]])
  (.seq (.box 266338304 0 (.seq (.box 132120576 0 (.ops [.xs [(mv 21 (T 5)), (bi 22 .gtr 142 (T 21) (C (.int .u64 0))), (mv 23 (T 22)), gd 23 false ((mv 24 (T 6))), gd 23 false ((bi 25 .gtr 142 (T 24) (C (.int .u64 9223372036854775807)))), (pk 26 (T 23) (C (.bool true)) (T 25))]]))
  (.cond (T 26) (.ops [.xs [(mi 27 9 (C (.string { data := #[116, 104, 101, 32, 114, 101, 115, 117, 108, 116, 32, 111, 102, 32, 40, 108, 101, 110, 40, 120, 41, 32, 42, 32, 99, 111, 117, 110, 116, 41, 32, 111, 118, 101, 114, 102, 108, 111, 119, 115] }))), (⟨true, none, none, .panic (T 27)⟩)]])
  (.skip))))
  (.seq (.ops [.xs [(mv 28 (T 6)), (cv 29 142 3 (T 28)), (ms 30 120 (T 29) (T 29)), (sa 7 (T 30))]])
  (.seq (.ops [.xs [(mv 31 (T 7)), (mv 32 (T 0)), (cp 33 120 120 (T 31) (T 32)), (sa 8 (T 33))]])
  (.seq (.block 0 (.loop 140720308486400 0 (.seq (.seq (.ops [.xs [(mv 34 (T 8)), (mv 35 (T 7)), (ln 36 120 (T 35)), (bi 37 .lss 3 (T 34) (T 36))]])
  (.cond (T 37) (.skip)
  (.exit 0)))
  (.block 1 (.ops [.xs [(mv 38 (T 8)), (mv 39 (T 7)), (mv 40 (T 8)), nb (sl 41 120 (T 39) (some (T 40)) none none), (mv 42 (T 7)), (mv 43 (T 8)), nb (sl 44 120 (T 42) none (some (T 43)) none), (cp 45 120 120 (T 41) (T 44)), (bi 46 .add 3 (T 38) (T 45)), (sa 8 (T 46))]])))))
  (.seq (.ops [.xs [(mv 47 (T 7)), (sa 4 (T 47))]])
  (.ret)))))))), [.tmp 4]⟩
def Z_big_times : ZFunc := ⟨.seq (.ops [.xs [(sa 4 (C (.slice none 0 0)))]])
  (.seq (.ops [.xs [(mv 5 (T 0)), (bd 6 40 [(1, (T 5))]), (mv 7 (T 1)), (cl 8 46 [(T 7)]), (cl 9 45 [(T 6), (T 8)]), (cl 10 72 [(T 9)]), (fi 11 40 (T 10) 1), (sa 4 (T 11))]])
  (.ret)), [.tmp 4]⟩
def Z_strings_Cut : ZFunc := ⟨.seq (.ops [.xs [(sa 4 (C (.string { data := #[] }))), (sa 5 (C (.string { data := #[] }))), (sa 6 (C (.bool false)))]])
  (.seq (.ops [.xs [(mv 7 (T 0)), (mv 8 (T 1)), (cl 9 114 [(T 7), (T 8)]), (ex 10 (T 9) 0), (ex 11 (T 9) 1), (ex 12 (T 9) 2), (sa 4 (T 10)), (sa 5 (T 11)), (sa 6 (T 12))]])
  (.ret)), [.tmp 4, .tmp 5, .tmp 6]⟩
def Z_strings_CutPrefix : ZFunc := ⟨.seq (.ops [.xs [(sa 4 (C (.string { data := #[] }))), (sa 5 (C (.bool false)))]])
  (.seq (.ops [.xs [(mv 6 (T 0)), (mv 7 (T 1)), (cl 8 115 [(T 6), (T 7)]), (ex 9 (T 8) 0), (ex 10 (T 8) 1), (sa 4 (T 9)), (sa 5 (T 10))]])
  (.ret)), [.tmp 4, .tmp 5]⟩
def Z_num_read : ZFunc := ⟨.seq (.ops [.xs [(sa 2 (C (.slice none 0 0))), (sa 3 (C (.bool false)))]])
  (.seq (.seq (.ops [.xs [(mv 10 (T 0)), (ln 11 9 (T 10)), (mv 12 (I 0))]])
  (.block 0 (.loop 67104796 0 (.seq (.ops [.xs [(bi 13 .lss 3 (T 12) (T 11))]])
  (.seq (.cond (T 13) (.skip)
  (.exit 0))
  (.seq (.block 1 (.seq (.ops [.xs [(mv 14 (T 12)), (sa 4 (T 14))]])
  (.seq (.box 33521664 0 (.ops [.xs [(mv 15 (T 0)), (mv 16 (T 4)), (ix 17 9 (T 15) (T 16)), (bi 18 .lss 5 (T 17) (C (.int .u8 48))), (mv 19 (T 18)), gd 19 false ((mv 20 (T 0))), gd 19 false ((mv 21 (T 4))), gd 19 false ((ix 22 9 (T 20) (T 21))), gd 19 false ((bi 23 .gtr 5 (T 22) (C (.int .u8 57)))), (pk 24 (T 19) (C (.bool true)) (T 23))]]))
  (.cond (T 24) (.seq (.ops [.xs [(sa 2 (C (.slice none 0 0))), (sa 3 (C (.bool false)))]])
  (.ret))
  (.skip)))))
  (.ops [.xs [(bi 25 .add 3 (T 12) (I 1)), (mv 12 (T 25))]])))))))
  (.seq (.seq (.box 8796025913344 0 (.ops [.xs [(mv 26 (T 0)), (bi 27 .eql 9 (T 26) (C (.string { data := #[] }))), (mv 28 (T 27)), gd 28 false ((mv 29 (T 0))), gd 28 false ((ix 30 9 (T 29) (I 0))), gd 28 false ((bi 31 .eql 5 (T 30) (C (.int .u8 48)))), gd 28 false ((mv 32 (T 31))), gd 32 true ((mv 33 (T 0))), gd 32 true ((ln 34 9 (T 33))), gd 32 true ((bi 35 .gtr 3 (T 34) (I 1))), gd 28 false ((pk 36 (T 32) (T 35) (C (.bool false)))), (pk 37 (T 28) (C (.bool true)) (T 36)), (mv 38 (T 37)), gd 38 false ((mv 39 (T 0))), gd 38 false ((ln 40 9 (T 39))), gd 38 false ((bi 41 .gtr 3 (T 40) (I 4000))), (pk 42 (T 38) (C (.bool true)) (T 41))]]))
  (.cond (T 42) (.seq (.ops [.xs [(sa 2 (C (.slice none 0 0))), (sa 3 (C (.bool false)))]])
  (.ret))
  (.skip)))
  (.seq (.ops [.xs [(sa 5 (C (.slice none 0 0)))]])
  (.seq (.block 2 (.loop 75557863717118230397921 0 (.seq (.seq (.ops [.xs [(mv 43 (T 0)), (bi 44 .neq 9 (T 43) (C (.string { data := #[] })))]])
  (.cond (T 44) (.skip)
  (.exit 2)))
  (.block 3 (.seq (.ops [.xs [(mv 45 (T 0)), (ln 46 9 (T 45)), (bi 47 .sub 3 (T 46) (I 1)), (bi 48 .rem 3 (T 47) (I 9)), (bi 49 .add 3 (T 48) (I 1)), (sa 6 (T 49))]])
  (.seq (.ops [.xs [(sa 7 (C (.int .u32 0))), (sa 8 (C (.int .u32 1)))]])
  (.seq (.seq (.ops [.xs [(mv 50 (T 6)), (mv 51 (I 0))]])
  (.block 4 (.loop 36891236347605418880 0 (.seq (.ops [.xs [(bi 52 .lss 3 (T 51) (T 50))]])
  (.seq (.cond (T 52) (.skip)
  (.exit 4))
  (.seq (.block 5 (.seq (.ops [.xs [(mv 53 (T 51)), (sa 9 (T 53))]])
  (.ops [.xs [(mv 54 (T 7)), (bi 55 .mul 124 (C (.int .u32 10)) (T 54)), (mv 56 (T 0)), (mv 57 (T 9)), (ix 58 9 (T 56) (T 57)), (bi 59 .sub 5 (T 58) (C (.int .u8 48))), (cv 60 5 124 (T 59)), (bi 61 .add 124 (T 55) (T 60)), (mv 62 (T 8)), (bi 63 .mul 124 (C (.int .u32 10)) (T 62)), (sa 7 (T 61)), (sa 8 (T 63))]])))
  (.ops [.xs [(bi 64 .add 3 (T 51) (I 1)), (mv 51 (T 64))]])))))))
  (.seq (.ops [.xs [(mv 65 (T 5)), (mv 66 (T 8)), (bs 67 76 1 [(0, (T 66))]), (cl 68 93 [(T 65), (T 67)]), (mv 69 (T 7)), (bs 70 76 1 [(0, (T 69))]), (cl 71 110 [(T 70)]), (cl 72 116 [(T 68), (T 71)]), (sa 5 (T 72))]])
  (.ops [.xs [(mv 73 (T 0)), (mv 74 (T 6)), (sl 75 9 (T 73) (some (T 74)) none none), (sa 0 (T 75))]])))))))))
  (.seq (.ops [.xs [(mv 76 (T 5)), (sa 2 (T 76)), (sa 3 (C (.bool true)))]])
  (.ret)))))), [.tmp 2, .tmp 3]⟩
def Z_num_Int_Gcd : ZFunc := ⟨.seq (.ops [.bx 2 78 (T 0), .bx 3 78 (T 1), .al 4 78])
  (.seq (.ops [.fa none 9 78 2 1 2 1, .ld none 10 76 9 2 1, .fa none 11 78 3 1 3 1, .ld none 12 76 11 3 1, .xs [(sa 5 (T 10)), (sa 6 (T 12))]])
  (.seq (.block 0 (.loop 16769504 0 (.seq (.seq (.ops [.xs [(mv 13 (T 6)), (ln 14 76 (T 13)), (bi 15 .gtr 3 (T 14) (I 0))]])
  (.cond (T 15) (.skip)
  (.exit 0)))
  (.block 1 (.seq (.ops [.xs [(mv 17 (T 5)), (mv 18 (T 6)), (cl 19 117 [(T 17), (T 18)]), (mv 16 (T 19)), (ex 20 (T 16) 0), (ex 21 (T 16) 1), (sa 7 (T 20)), (sa 8 (T 21))]])
  (.ops [.xs [(mv 22 (T 6)), (mv 23 (T 8)), (sa 5 (T 22)), (sa 6 (T 23))]]))))))
  (.seq (.ops [.xs [(mv 24 (T 5)), (cl 25 92 [(C (.bool false)), (T 24)])], .stw true none 78 4 (T 25) 4])
  (.ret)))), [.cell 4 78]⟩
def Z_slices_Index_Sint_int : ZFunc := ⟨.seq (.ops [.xs [(sa 4 (I 0))]])
  (.seq (.seq (.ops [.xs [(mv 6 (T 0)), (ln 7 34 (T 6)), (mv 8 (I 0))]])
  (.block 0 (.loop 524080 0 (.seq (.ops [.xs [(bi 9 .lss 3 (T 8) (T 7))]])
  (.seq (.cond (T 9) (.skip)
  (.exit 0))
  (.seq (.block 1 (.seq (.ops [.xs [(mv 10 (T 8)), (sa 5 (T 10))]])
  (.seq (.ops [.xs [(mv 11 (T 1)), (mv 12 (T 0)), (mv 13 (T 5)), (ia 14 34 (T 12) (T 13)), (ld 15 3 (T 14)), (bi 16 .eql 3 (T 11) (T 15))]])
  (.cond (T 16) (.seq (.ops [.xs [(mv 17 (T 5)), (sa 4 (T 17))]])
  (.ret))
  (.skip)))))
  (.ops [.xs [(bi 18 .add 3 (T 8) (I 1)), (mv 8 (T 18))]])))))))
  (.seq (.ops [.xs [(sa 4 (I (-1)))]])
  (.ret))), [.tmp 4]⟩
def Z_num_Ratio : ZFunc := ⟨.seq (.ops [.bx 2 78 (T 0), .bx 3 78 (T 1), .al 4 80])
  (.seq (.box 64512 12 (.seq (.ops [.fa none 10 78 3 0 3 0, .ld none 11 4 10 3 0])
  (.cond (T 11) (.ops [.ldw none 12 78 2 2, .xs [nb (cl 13 113 [(T 12)])], .ldw none 14 78 3 3, .xs [(cl 15 113 [(T 14)])], .stw true none 78 2 (T 13) 2,
   .stw true none 78 3 (T 15) 3])
  (.skip))))
  (.seq (.ops [.ldw none 16 78 2 2, .ldw none 17 78 3 3, .xs [(cl 18 102 [(T 16), (T 17)])], .al 5 78, .stw true none 78 5 (T 18) 5])
  (.seq (.seq (.ops [.ldw none 19 78 5 5, .xs [nb (cl 20 88 [(I 1)]), (cl 21 67 [(T 19), (T 20)]), (bi 22 .eql 3 (T 21) (I 0))]])
  (.cond (T 22) (.seq (.ops [.ldw none 23 78 2 2, .ldw none 24 78 3 3, .xs [(bd 25 80 [(0, (T 23)), (1, (T 24))])], .stw true none 80 4 (T 25) 4])
  (.ret))
  (.skip)))
  (.seq (.ops [.ldw none 27 78 2 2, .ldw none 28 78 5 5, .xs [(cl 29 119 [(T 27), (T 28)]), (mv 26 (T 29)), (ex 30 (T 26) 0), (ex 31 (T 26) 1)], .al 6 78, .al 7 78,
   .stw true none 78 6 (T 30) 6, .stw true none 78 7 (T 31) 7])
  (.seq (.ops [.ldw none 33 78 3 3, .ldw none 34 78 5 5, .xs [(cl 35 119 [(T 33), (T 34)]), (mv 32 (T 35)), (ex 36 (T 32) 0), (ex 37 (T 32) 1)], .al 8 78, .al 9 78,
   .stw true none 78 8 (T 36) 8, .stw true none 78 9 (T 37) 9])
  (.seq (.ops [.ldw none 38 78 6 6, .ldw none 39 78 8 8, .xs [(bd 40 80 [(0, (T 38)), (1, (T 39))])], .stw true none 80 4 (T 40) 4])
  (.ret))))))), [.cell 4 80]⟩
def Z_slices_Reverse_Sbyte_byte : ZFunc := ⟨.seq (.ops [.xs [(mv 4 (T 0)), (ln 5 61 (T 4)), (bi 6 .sub 3 (T 5) (I 1)), (sa 2 (I 0)), (sa 3 (T 6))]])
  (.block 0 (.loop 268435340 0 (.seq (.seq (.ops [.xs [(mv 7 (T 2)), (mv 8 (T 3)), (bi 9 .lss 3 (T 7) (T 8))]])
  (.cond (T 9) (.skip)
  (.exit 0)))
  (.seq (.block 1 (.ops [.xs [(mv 14 (T 0)), (mv 15 (T 2)), (mv 16 (T 0)), (mv 17 (T 3)), (mv 18 (T 0)), (mv 19 (T 3)), (ia 20 61 (T 18) (T 19)), (ld 21 5 (T 20)), (mv 22 (T 0)), (mv 23 (T 2)), (ia 24 61 (T 22) (T 23)), (ld 25 5 (T 24)), (ia 26 61 (T 14) (T 15)), (st 5 (T 26) (T 21)), (ia 27 61 (T 16) (T 17)), (st 5 (T 27) (T 25))]]))
  (.ops [.xs [(mv 10 (T 2)), (bi 11 .add 3 (T 10) (I 1)), (mv 12 (T 3)), (bi 13 .sub 3 (T 12) (I 1)), (sa 2 (T 11)), (sa 3 (T 13))]]))))), []⟩
def Z_num_Rat_Neg : ZFunc := ⟨.seq (.ops [.bx 1 80 (T 0), .al 2 80])
  (.seq (.ops [.fa none 3 80 1 0 1 0, .ld none 4 78 3 1 0, .xs [nb (cl 5 113 [(T 4)])], .fa none 6 80 1 1 1 2, .ld none 7 78 6 1 2,
   .xs [(bd 8 80 [(0, (T 5)), (1, (T 7))])], .stw true none 80 2 (T 8) 2])
  (.ret)), [.cell 2 80]⟩
def Z_bits_Mul64 : ZFunc := ⟨.seq (.ops [.xs [(sa 4 (C (.int .u64 0))), (sa 5 (C (.int .u64 0)))]])
  (.seq (.ops [.xs [(mv 14 (T 0)), (bi 15 .and 123 (T 14) (C (.int .u64 4294967295))), (sa 6 (T 15))]])
  (.seq (.ops [.xs [(mv 16 (T 0)), (bi 17 .shr 123 (T 16) (C (.int .u64 32))), (sa 7 (T 17))]])
  (.seq (.ops [.xs [(mv 18 (T 1)), (bi 19 .and 123 (T 18) (C (.int .u64 4294967295))), (sa 8 (T 19))]])
  (.seq (.ops [.xs [(mv 20 (T 1)), (bi 21 .shr 123 (T 20) (C (.int .u64 32))), (sa 9 (T 21))]])
  (.seq (.ops [.xs [(mv 22 (T 6)), (mv 23 (T 8)), (bi 24 .mul 123 (T 22) (T 23)), (sa 10 (T 24))]])
  (.seq (.ops [.xs [(mv 25 (T 7)), (mv 26 (T 8)), (bi 27 .mul 123 (T 25) (T 26)), (mv 28 (T 10)), (bi 29 .shr 123 (T 28) (C (.int .u64 32))), (bi 30 .add 123 (T 27) (T 29)), (sa 11 (T 30))]])
  (.seq (.ops [.xs [(mv 31 (T 11)), (bi 32 .and 123 (T 31) (C (.int .u64 4294967295))), (sa 12 (T 32))]])
  (.seq (.ops [.xs [(mv 33 (T 11)), (bi 34 .shr 123 (T 33) (C (.int .u64 32))), (sa 13 (T 34))]])
  (.seq (.ops [.xs [(mv 35 (T 12)), (mv 36 (T 6)), (mv 37 (T 9)), (bi 38 .mul 123 (T 36) (T 37)), (bi 39 .add 123 (T 35) (T 38)), (sa 12 (T 39))]])
  (.seq (.ops [.xs [(mv 40 (T 7)), (mv 41 (T 9)), (bi 42 .mul 123 (T 40) (T 41)), (mv 43 (T 13)), (bi 44 .add 123 (T 42) (T 43)), (mv 45 (T 12)), (bi 46 .shr 123 (T 45) (C (.int .u64 32))), (bi 47 .add 123 (T 44) (T 46)), (sa 4 (T 47))]])
  (.seq (.ops [.xs [(mv 48 (T 0)), (mv 49 (T 1)), (bi 50 .mul 123 (T 48) (T 49)), (sa 5 (T 50))]])
  (.ret)))))))))))), [.tmp 4, .tmp 5]⟩
def Z_stringslite_Cut : ZFunc := ⟨.seq (.ops [.xs [(sa 4 (C (.string { data := #[] }))), (sa 5 (C (.string { data := #[] }))), (sa 6 (C (.bool false)))]])
  (.seq (.seq (.ops [.xs [(mv 8 (T 0)), (mv 9 (T 1)), (cl 10 120 [(T 8), (T 9)]), (sa 7 (T 10))]])
  (.seq (.ops [.xs [(mv 11 (T 7)), (bi 12 .geq 3 (T 11) (I 0))]])
  (.cond (T 12) (.seq (.ops [.xs [(mv 13 (T 0)), (mv 14 (T 7)), nb (sl 15 9 (T 13) none (some (T 14)) none), (mv 16 (T 0)), (mv 17 (T 7)), (mv 18 (T 1)), (ln 19 9 (T 18)), (bi 20 .add 3 (T 17) (T 19)), nb (sl 21 9 (T 16) (some (T 20)) none none), (sa 4 (T 15)), (sa 5 (T 21)), (sa 6 (C (.bool true)))]])
  (.ret))
  (.skip))))
  (.seq (.ops [.xs [(mv 22 (T 0)), (sa 4 (T 22)), (sa 5 (C (.string { data := #[] }))), (sa 6 (C (.bool false)))]])
  (.ret))), [.tmp 4, .tmp 5, .tmp 6]⟩
def Z_stringslite_CutPrefix : ZFunc := ⟨.seq (.ops [.xs [(sa 4 (C (.string { data := #[] }))), (sa 5 (C (.bool false)))]])
  (.seq (.seq (.ops [.xs [(mv 6 (T 0)), (mv 7 (T 1)), (cl 8 121 [(T 6), (T 7)]), (un 9 .not (T 8))]])
  (.cond (T 9) (.seq (.ops [.xs [(mv 10 (T 0)), (sa 4 (T 10)), (sa 5 (C (.bool false)))]])
  (.ret))
  (.skip)))
  (.seq (.ops [.xs [(mv 11 (T 0)), (mv 12 (T 1)), (ln 13 9 (T 12)), (sl 14 9 (T 11) (some (T 13)) none none), (sa 4 (T 14)), (sa 5 (C (.bool true)))]])
  (.ret))), [.tmp 4, .tmp 5]⟩
def Z_num_part : ZFunc := ⟨.seq (.ops [.xs [(sa 4 (C (.slice none 0 0))), (sa 5 (C (.slice none 0 0)))]])
  (.seq (.seq (.ops [.xs [(mv 14 (T 0)), (mv 15 (T 1)), (cl 16 101 [(T 14), (T 15)]), (bi 17 .lss 3 (T 16) (I 0))]])
  (.cond (T 17) (.seq (.ops [.xs [(mv 18 (T 0)), (ap 19 76 76 (C (.slice none 0 0)) (T 18)), (sa 4 (C (.slice none 0 0))), (sa 5 (T 19))]])
  (.ret))
  (.skip)))
  (.seq (.seq (.ops [.xs [(mv 20 (T 1)), (ln 21 76 (T 20)), (bi 22 .eql 3 (T 21) (I 1))]])
  (.cond (T 22) (.seq (.ops [.xs [(mv 24 (T 0)), (mv 25 (T 1)), (ia 26 76 (T 25) (I 0)), (ld 27 124 (T 26)), (cl 28 107 [(T 24), (T 27)]), (mv 23 (T 28)), (ex 29 (T 23) 0), (ex 30 (T 23) 1), (sa 6 (T 29)), (sa 7 (T 30))]])
  (.seq (.ops [.xs [(mv 31 (T 6)), (mv 32 (T 7)), (bs 33 76 1 [(0, (T 32))]), (cl 34 110 [(T 33)]), (sa 4 (T 31)), (sa 5 (T 34))]])
  (.ret)))
  (.skip)))
  (.seq (.ops [.xs [(mv 35 (T 1)), (mv 36 (T 1)), (ln 37 76 (T 36)), (bi 38 .sub 3 (T 37) (I 1)), (ia 39 76 (T 35) (T 38)), (ld 40 124 (T 39)), (cl 41 123 [(T 40)]), (sa 8 (T 41))]])
  (.seq (.ops [.xs [(mv 42 (T 1)), (mv 43 (T 8)), (cl 44 124 [(T 42), (T 43)]), (cl 45 110 [(T 44)]), (mv 46 (T 0)), (mv 47 (T 8)), (cl 48 124 [(T 46), (T 47)]), (sa 9 (T 45)), (sa 10 (T 48))]])
  (.seq (.ops [.xs [(mv 49 (T 9)), (ln 50 76 (T 49)), (sa 11 (T 50))]])
  (.seq (.ops [.xs [(mv 51 (T 0)), (ln 52 76 (T 51)), (mv 53 (T 11)), (bi 54 .sub 3 (T 52) (T 53)), (bi 55 .add 3 (T 54) (I 1)), (ms 56 76 (T 55) (T 55)), (sa 12 (T 56))]])
  (.seq (.seq (.ops [.xs [(mv 57 (T 0)), (ln 58 76 (T 57)), (mv 59 (T 11)), (bi 60 .sub 3 (T 58) (T 59)), (sa 13 (T 60))]])
  (.block 0 (.loop 151113421608819433152512 0 (.seq (.seq (.ops [.xs [(mv 61 (T 13)), (bi 62 .geq 3 (T 61) (I 0))]])
  (.cond (T 62) (.skip)
  (.exit 0)))
  (.seq (.block 1 (.ops [.xs [(mv 65 (T 12)), (mv 66 (T 13)), (mv 67 (T 10)), (mv 68 (T 13)), (mv 69 (T 13)), (mv 70 (T 11)), (bi 71 .add 3 (T 69) (T 70)), (bi 72 .add 3 (T 71) (I 1)), (sl 73 76 (T 67) (some (T 68)) (some (T 72)) none), (mv 74 (T 9)), (cl 75 125 [(T 73), (T 74)]), (ia 76 76 (T 65) (T 66)), (st 124 (T 76) (T 75))]]))
  (.ops [.xs [(mv 63 (T 13)), (bi 64 .sub 3 (T 63) (I 1)), (sa 13 (T 64))]]))))))
  (.seq (.ops [.xs [(mv 77 (T 12)), nb (cl 78 110 [(T 77)]), (mv 79 (T 10)), (mv 80 (T 11)), nb (sl 81 76 (T 79) none (some (T 80)) none), (cl 82 110 [(T 81)]), (mv 83 (T 8)), (cl 84 126 [(T 82), (T 83)]), (sa 4 (T 78)), (sa 5 (T 84))]])
  (.ret))))))))), [.tmp 4, .tmp 5]⟩
def Z_num_Int_Quo : ZFunc := ⟨.seq (.ops [.bx 2 78 (T 0), .bx 3 78 (T 1), .al 4 78, .al 5 78])
  (.seq (.ops [.fa none 11 78 2 1 2 1, .ld none 12 76 11 2 1, .fa none 13 78 3 1 3 1, .ld none 14 76 13 3 1,
   .xs [(cl 15 117 [(T 12), (T 14)]), (mv 10 (T 15)), (ex 16 (T 10) 0), (ex 17 (T 10) 1), (sa 6 (T 16)), (sa 7 (T 17))]])
  (.seq (.ops [.fa none 18 78 2 0 2 0, .ld none 19 4 18 2 0, .fa none 20 78 3 0 3 0, .ld none 21 4 20 3 0,
   .xs [(bi 22 .neq 4 (T 19) (T 21)), (mv 23 (T 6)), nb (cl 24 92 [(T 22), (T 23)])], .fa none 25 78 2 0 2 0, .ld none 26 4 25 2 0,
   .xs [(mv 27 (T 7)), nb (cl 28 92 [(T 26), (T 27)])], .al 8 78, .al 9 78, .stw true none 78 8 (T 24) 8, .stw true none 78 9 (T 28) 9])
  (.seq (.box 35183835217920 768 (.seq (.box 549218942976 0 (.ops [.xs [(mv 29 (T 7)), (ln 30 76 (T 29)), (bi 31 .gtr 3 (T 30) (I 0)), (mv 32 (T 31))], .fa (some (32, true)) 33 78 2 0 2 0,
   .ld (some (32, true)) 34 4 33 2 0, .fa (some (32, true)) 35 78 3 0 3 0, .ld (some (32, true)) 36 4 35 3 0,
   .xs [gd 32 true ((bi 37 .neq 4 (T 34) (T 36))), (pk 38 (T 32) (T 37) (C (.bool false)))]]))
  (.cond (T 38) (.ops [.ldw none 39 78 8 8, .xs [nb (cl 40 88 [(I 1)]), nb (cl 41 94 [(T 39), (T 40)])], .ldw none 42 78 9 9, .ldw none 43 78 3 3,
   .xs [(cl 44 105 [(T 42), (T 43)])], .stw true none 78 8 (T 41) 8, .stw true none 78 9 (T 44) 9])
  (.skip))))
  (.seq (.opsL [.ldw none 45 78 8 8, .ldw none 46 78 9 9, .stw false none 78 4 (T 45) 4, .stw true none 78 5 (T 46) 5])
  (.ret))))), [.cell 4 78, .cell 5 78]⟩
def Z_stringslite_Index : ZFunc := ⟨.seq (.ops [.xs [(sa 4 (I 0))]])
  (.seq (.ops [.xs [(mv 14 (T 1)), (ln 15 9 (T 14)), (sa 5 (T 15))]])
  (.seq (.block 0 (.seq (.box 16711680 0 (.ops [.xs [(mv 17 (T 5)), (bi 18 .eql 3 (T 17) (I 0)), (mv 19 (T 18)), gd 19 false ((mv 20 (T 1))), gd 19 false ((mv 21 (T 0))), gd 19 false ((bi 22 .eql 9 (T 20) (T 21))), (pk 23 (T 19) (C (.bool true)) (T 22)), (sa 16 (T 23))]]))
  (.cond (T 16) (.seq (.ops [.xs [(sa 4 (I 0))]])
  (.ret))
  (.seq (.ops [.xs [(mv 25 (T 5)), (bi 26 .eql 3 (T 25) (I 1)), (sa 24 (T 26))]])
  (.cond (T 24) (.seq (.ops [.xs [(mv 27 (T 0)), (mv 28 (T 1)), (ix 29 9 (T 28) (I 0)), (cl 30 128 [(T 27), (T 29)]), (sa 4 (T 30))]])
  (.ret))
  (.seq (.ops [.xs [(mv 32 (T 5)), (mv 33 (T 0)), (ln 34 9 (T 33)), (bi 35 .geq 3 (T 32) (T 34)), (sa 31 (T 35))]])
  (.cond (T 31) (.seq (.ops [.xs [(sa 4 (I (-1)))]])
  (.ret))
  (.seq (.box 35115652612096 0 (.ops [.xs [(mv 37 (T 5)), (ld 38 3 (.global 0)), (bi 39 .leq 3 (T 37) (T 38)), (mv 40 (T 39)), gd 40 true ((mv 41 (T 0))), gd 40 true ((ln 42 9 (T 41))), gd 40 true ((bi 43 .leq 3 (T 42) (I 64))), (pk 44 (T 40) (T 43) (C (.bool false))), (sa 36 (T 44))]]))
  (.cond (T 36) (.seq (.ops [.xs [(mv 45 (T 0)), (mv 46 (T 1)), (cl 47 129 [(T 45), (T 46)]), (sa 4 (T 47))]])
  (.ret))
  (.skip))))))))))
  (.seq (.ops [.xs [(mv 48 (T 1)), (ix 49 9 (T 48) (I 0)), (sa 6 (T 49))]])
  (.seq (.ops [.xs [(mv 50 (T 1)), (ix 51 9 (T 50) (I 1)), (sa 7 (T 51))]])
  (.seq (.ops [.xs [(sa 8 (I 0))]])
  (.seq (.ops [.xs [(mv 52 (T 0)), (ln 53 9 (T 52)), (mv 54 (T 5)), (bi 55 .sub 3 (T 53) (T 54)), (bi 56 .add 3 (T 55) (I 1)), (sa 9 (T 56))]])
  (.seq (.ops [.xs [(sa 10 (I 0))]])
  (.seq (.block 1 (.loop 11150372599265311570767858992208992677149968 0 (.seq (.seq (.ops [.xs [(mv 57 (T 8)), (mv 58 (T 9)), (bi 59 .lss 3 (T 57) (T 58))]])
  (.cond (T 59) (.skip)
  (.exit 1)))
  (.block 2 (.seq (.box 302230301982152686831888 0 (.seq (.ops [.xs [(mv 60 (T 0)), (mv 61 (T 8)), (ix 62 9 (T 60) (T 61)), (mv 63 (T 6)), (bi 64 .neq 5 (T 62) (T 63))]])
  (.cond (T 64) (.seq (.ops [.xs [(mv 65 (T 0)), (mv 66 (T 8)), (bi 67 .add 3 (T 66) (I 1)), (mv 68 (T 9)), (sl 69 9 (T 65) (some (T 67)) (some (T 68)) none), (mv 70 (T 6)), (cl 71 128 [(T 69), (T 70)]), (sa 11 (T 71))]])
  (.seq (.seq (.ops [.xs [(mv 72 (T 11)), (bi 73 .lss 3 (T 72) (I 0))]])
  (.cond (T 73) (.seq (.ops [.xs [(sa 4 (I (-1)))]])
  (.ret))
  (.skip)))
  (.ops [.xs [(mv 74 (T 8)), (mv 75 (T 11)), (bi 76 .add 3 (T 75) (I 1)), (bi 77 .add 3 (T 74) (T 76)), (sa 8 (T 77))]])))
  (.skip))))
  (.seq (.seq (.box 19806738397111180741092311040 0 (.ops [.xs [(mv 78 (T 0)), (mv 79 (T 8)), (bi 80 .add 3 (T 79) (I 1)), (ix 81 9 (T 78) (T 80)), (mv 82 (T 7)), (bi 83 .eql 5 (T 81) (T 82)), (mv 84 (T 83)), gd 84 true ((mv 85 (T 0))), gd 84 true ((mv 86 (T 8))), gd 84 true ((mv 87 (T 8))), gd 84 true ((mv 88 (T 5))), gd 84 true ((bi 89 .add 3 (T 87) (T 88))), gd 84 true ((sl 90 9 (T 85) (some (T 86)) (some (T 89)) none)), gd 84 true ((mv 91 (T 1))), gd 84 true ((bi 92 .eql 9 (T 90) (T 91))), (pk 93 (T 84) (T 92) (C (.bool false)))]]))
  (.cond (T 93) (.seq (.ops [.xs [(mv 94 (T 8)), (sa 4 (T 94))]])
  (.ret))
  (.skip)))
  (.seq (.ops [.xs [(mv 95 (T 8)), (bi 96 .add 3 (T 95) (I 1)), (sa 8 (T 96))]])
  (.seq (.ops [.xs [(mv 97 (T 10)), (bi 98 .add 3 (T 97) (I 1)), (sa 10 (T 98))]])
  (.seq (.box 323884728358312612082407668973568 0 (.ops [.xs [(mv 99 (T 5)), (ld 100 3 (.global 0)), (bi 101 .leq 3 (T 99) (T 100)), (mv 102 (T 101)), gd 102 true ((mv 103 (T 10))), gd 102 true ((mv 104 (T 8))), gd 102 true ((cl 105 130 [(T 104)])), gd 102 true ((bi 106 .gtr 3 (T 103) (T 105))), (pk 107 (T 102) (T 106) (C (.bool false)))]]))
  (.cond (T 107) (.seq (.ops [.xs [(mv 108 (T 0)), (mv 109 (T 8)), (sl 110 9 (T 108) (some (T 109)) none none), (mv 111 (T 1)), (cl 112 129 [(T 110), (T 111)]), (sa 12 (T 112))]])
  (.seq (.seq (.ops [.xs [(mv 113 (T 12)), (bi 114 .geq 3 (T 113) (I 0))]])
  (.cond (T 114) (.seq (.ops [.xs [(mv 115 (T 12)), (mv 116 (T 8)), (bi 117 .add 3 (T 115) (T 116)), (sa 4 (T 117))]])
  (.ret))
  (.skip)))
  (.seq (.ops [.xs [(sa 4 (I (-1)))]])
  (.ret))))
  (.seq (.box 10888703434471084601859761486051512680448 0 (.ops [.xs [(mv 118 (T 5)), (ld 119 3 (.global 0)), (bi 120 .gtr 3 (T 118) (T 119)), (mv 121 (T 120)), gd 121 true ((mv 122 (T 10))), gd 121 true ((mv 123 (T 8))), gd 121 true ((bi 124 .shr 3 (T 123) (C (.int .u64 4)))), gd 121 true ((bi 125 .add 3 (I 4) (T 124))), gd 121 true ((bi 126 .geq 3 (T 122) (T 125))), (pk 127 (T 121) (T 126) (C (.bool false))), (mv 128 (T 127)), gd 128 true ((mv 129 (T 8))), gd 128 true ((mv 130 (T 9))), gd 128 true ((bi 131 .lss 3 (T 129) (T 130))), (pk 132 (T 128) (T 131) (C (.bool false)))]]))
  (.cond (T 132) (.seq (.ops [.xs [(mv 133 (T 0)), (mv 134 (T 8)), (sl 135 9 (T 133) (some (T 134)) none none), (mv 136 (T 1)), (cl 137 131 [(T 135), (T 136)]), (sa 13 (T 137))]])
  (.seq (.seq (.ops [.xs [(mv 138 (T 13)), (bi 139 .lss 3 (T 138) (I 0))]])
  (.cond (T 139) (.seq (.ops [.xs [(sa 4 (I (-1)))]])
  (.ret))
  (.skip)))
  (.seq (.ops [.xs [(mv 140 (T 8)), (mv 141 (T 13)), (bi 142 .add 3 (T 140) (T 141)), (sa 4 (T 142))]])
  (.ret))))
  (.skip)))))))))))))
  (.seq (.ops [.xs [(sa 4 (I (-1)))]])
  (.ret)))))))))), [.tmp 4]⟩
def Z_stringslite_HasPrefix : ZFunc := ⟨.seq (.ops [.xs [(sa 4 (C (.bool false)))]])
  (.seq (.box 262128 0 (.ops [.xs [(mv 5 (T 0)), (ln 6 9 (T 5)), (mv 7 (T 1)), (ln 8 9 (T 7)), (bi 9 .geq 3 (T 6) (T 8)), (mv 10 (T 9)), gd 10 true ((mv 11 (T 0))), gd 10 true ((mv 12 (T 1))), gd 10 true ((ln 13 9 (T 12))), gd 10 true ((sl 14 9 (T 11) none (some (T 13)) none)), gd 10 true ((mv 15 (T 1))), gd 10 true ((bi 16 .eql 9 (T 14) (T 15))), (pk 17 (T 10) (T 16) (C (.bool false))), (sa 4 (T 17))]]))
  (.ret)), [.tmp 4]⟩
def Z_bits_LeadingZeros32 : ZFunc := ⟨.seq (.ops [.xs [(sa 2 (I 0))]])
  (.seq (.ops [.xs [(mv 3 (T 0)), (cl 4 132 [(T 3)]), (bi 5 .sub 3 (I 32) (T 4)), (sa 2 (T 5))]])
  (.ret)), [.tmp 2]⟩
def Z_num_up : ZFunc := ⟨.seq (.ops [.xs [(sa 4 (C (.slice none 0 0)))]])
  (.seq (.ops [.xs [(mv 9 (T 0)), (ln 10 76 (T 9)), (bi 11 .add 3 (T 10) (I 1)), (ms 12 76 (T 11) (T 11)), (sa 5 (T 12))]])
  (.seq (.seq (.ops [.xs [(mv 13 (T 0)), (ln 14 76 (T 13)), (mv 15 (I 0))]])
  (.block 0 (.loop 1099511595456 0 (.seq (.ops [.xs [(bi 16 .lss 3 (T 15) (T 14))]])
  (.seq (.cond (T 16) (.skip)
  (.exit 0))
  (.seq (.block 1 (.seq (.ops [.xs [(mv 17 (T 15)), (ia 18 76 (T 13) (T 15)), (ld 19 124 (T 18)), (sa 6 (T 17)), (sa 7 (T 19))]])
  (.seq (.ops [.xs [(mv 20 (T 7)), (cv 21 124 123 (T 20)), (mv 22 (T 1)), (bi 23 .shl 123 (T 21) (T 22)), (sa 8 (T 23))]])
  (.seq (.ops [.xs [(mv 24 (T 5)), (mv 25 (T 6)), (ia 26 76 (T 24) (T 25)), (ld 27 124 (T 26)), (mv 28 (T 8)), (cv 29 123 124 (T 28)), (bi 30 .or 124 (T 27) (T 29)), (ia 31 76 (T 24) (T 25)), (st 124 (T 31) (T 30))]])
  (.ops [.xs [(mv 32 (T 5)), (mv 33 (T 6)), (bi 34 .add 3 (T 33) (I 1)), (mv 35 (T 8)), (bi 36 .shr 123 (T 35) (C (.int .u64 32))), (cv 37 123 124 (T 36)), (ia 38 76 (T 32) (T 34)), (st 124 (T 38) (T 37))]])))))
  (.ops [.xs [(bi 39 .add 3 (T 15) (I 1)), (mv 15 (T 39))]])))))))
  (.seq (.ops [.xs [(mv 40 (T 5)), (sa 4 (T 40))]])
  (.ret)))), [.tmp 4]⟩
def Z_num_digit : ZFunc := ⟨.seq (.ops [.xs [(sa 4 (C (.int .u32 0)))]])
  (.seq (.ops [.xs [(mv 15 (T 1)), (ln 16 76 (T 15)), (sa 5 (T 16))]])
  (.seq (.ops [.xs [(mv 17 (T 0)), (mv 18 (T 5)), (ia 19 76 (T 17) (T 18)), (ld 20 124 (T 19)), (cv 21 124 123 (T 20)), (bi 22 .shl 123 (T 21) (C (.int .u64 32))), (mv 23 (T 0)), (mv 24 (T 5)), (bi 25 .sub 3 (T 24) (I 1)), (ia 26 76 (T 23) (T 25)), (ld 27 124 (T 26)), (cv 28 124 123 (T 27)), (bi 29 .or 123 (T 22) (T 28)), (sa 6 (T 29))]])
  (.seq (.ops [.xs [(mv 30 (T 6)), (mv 31 (T 1)), (mv 32 (T 5)), (bi 33 .sub 3 (T 32) (I 1)), (ia 34 76 (T 31) (T 33)), (ld 35 124 (T 34)), (cv 36 124 123 (T 35)), (bi 37 .quo 123 (T 30) (T 36)), (mv 38 (T 6)), (mv 39 (T 1)), (mv 40 (T 5)), (bi 41 .sub 3 (T 40) (I 1)), (ia 42 76 (T 39) (T 41)), (ld 43 124 (T 42)), (cv 44 124 123 (T 43)), (bi 45 .rem 123 (T 38) (T 44)), (sa 7 (T 37)), (sa 8 (T 45))]])
  (.seq (.box 4835703278388147954647424 0 (.block 0 (.loop 4835703278388147954647424 0 (.seq (.seq (.box 590295739989961474048 0 (.ops [.xs [(mv 46 (T 7)), (bi 47 .shr 123 (T 46) (C (.int .u64 32))), (bi 48 .gtr 123 (T 47) (C (.int .u64 0))), (mv 49 (T 48)), gd 49 false ((mv 50 (T 7))), gd 49 false ((mv 51 (T 1))), gd 49 false ((mv 52 (T 5))), gd 49 false ((bi 53 .sub 3 (T 52) (I 2))), gd 49 false ((ia 54 76 (T 51) (T 53))), gd 49 false ((ld 55 124 (T 54))), gd 49 false ((cv 56 124 123 (T 55))), gd 49 false ((bi 57 .mul 123 (T 50) (T 56))), gd 49 false ((mv 58 (T 8))), gd 49 false ((bi 59 .shl 123 (T 58) (C (.int .u64 32)))), gd 49 false ((mv 60 (T 0))), gd 49 false ((mv 61 (T 5))), gd 49 false ((bi 62 .sub 3 (T 61) (I 2))), gd 49 false ((ia 63 76 (T 60) (T 62))), gd 49 false ((ld 64 124 (T 63))), gd 49 false ((cv 65 124 123 (T 64))), gd 49 false ((bi 66 .or 123 (T 59) (T 65))), gd 49 false ((bi 67 .gtr 123 (T 57) (T 66))), (pk 68 (T 49) (C (.bool true)) (T 67))]]))
  (.cond (T 68) (.skip)
  (.exit 0)))
  (.block 1 (.seq (.ops [.xs [(mv 69 (T 7)), (bi 70 .sub 123 (T 69) (C (.int .u64 1))), (sa 7 (T 70))]])
  (.seq (.ops [.xs [(mv 71 (T 8)), (mv 72 (T 1)), (mv 73 (T 5)), (bi 74 .sub 3 (T 73) (I 1)), (ia 75 76 (T 72) (T 74)), (ld 76 124 (T 75)), (cv 77 124 123 (T 76)), (bi 78 .add 123 (T 71) (T 77)), (sa 8 (T 78))]])
  (.seq (.ops [.xs [(mv 79 (T 8)), (bi 80 .shr 123 (T 79) (C (.int .u64 32))), (bi 81 .gtr 123 (T 80) (C (.int .u64 0)))]])
  (.cond (T 81) (.exit 0)
  (.skip))))))))))
  (.seq (.ops [.xs [(sa 9 (C (.int .u64 0))), (sa 10 (C (.int .u32 0)))]])
  (.seq (.seq (.ops [.xs [(mv 82 (T 1)), (ln 83 76 (T 82)), (mv 84 (I 0))]])
  (.block 2 (.loop 10384593697726842143226925863149056 0 (.seq (.ops [.xs [(bi 85 .lss 3 (T 84) (T 83))]])
  (.seq (.cond (T 85) (.skip)
  (.exit 2))
  (.seq (.block 3 (.seq (.ops [.xs [(mv 86 (T 84)), (sa 11 (T 86))]])
  (.seq (.ops [.xs [(mv 87 (T 7)), (mv 88 (T 1)), (mv 89 (T 11)), (ia 90 76 (T 88) (T 89)), (ld 91 124 (T 90)), (cv 92 124 123 (T 91)), (bi 93 .mul 123 (T 87) (T 92)), (mv 94 (T 9)), (bi 95 .add 123 (T 93) (T 94)), (sa 12 (T 95))]])
  (.seq (.ops [.xs [(mv 96 (T 12)), (bi 97 .shr 123 (T 96) (C (.int .u64 32))), (sa 9 (T 97))]])
  (.ops [.xs [(mv 99 (T 0)), (mv 100 (T 11)), (mv 101 (T 0)), (mv 102 (T 11)), (ia 103 76 (T 101) (T 102)), (ld 104 124 (T 103)), (mv 105 (T 12)), (cv 106 123 124 (T 105)), (mv 107 (T 10)), (cl 108 127 [(T 104), (T 106), (T 107)]), (mv 98 (T 108)), (ex 109 (T 98) 0), (ex 110 (T 98) 1), (ia 111 76 (T 99) (T 100)), (st 124 (T 111) (T 109)), (sa 10 (T 110))]])))))
  (.ops [.xs [(bi 112 .add 3 (T 84) (I 1)), (mv 84 (T 112))]])))))))
  (.seq (.ops [.xs [(mv 114 (T 0)), (mv 115 (T 5)), (mv 116 (T 0)), (mv 117 (T 5)), (ia 118 76 (T 116) (T 117)), (ld 119 124 (T 118)), (mv 120 (T 9)), (cv 121 123 124 (T 120)), (mv 122 (T 10)), (cl 123 127 [(T 119), (T 121), (T 122)]), (mv 113 (T 123)), (ex 124 (T 113) 0), (ex 125 (T 113) 1), (ia 126 76 (T 114) (T 115)), (st 124 (T 126) (T 124)), (sa 10 (T 125))]])
  (.seq (.box 1461501637160761734743215600984595715940048461952 0 (.seq (.ops [.xs [(mv 127 (T 10)), (bi 128 .gtr 124 (T 127) (C (.int .u32 0)))]])
  (.cond (T 128) (.seq (.ops [.xs [(mv 129 (T 7)), (bi 130 .sub 123 (T 129) (C (.int .u64 1))), (sa 7 (T 130))]])
  (.seq (.ops [.xs [(sa 13 (C (.int .u32 0)))]])
  (.seq (.seq (.ops [.xs [(mv 131 (T 1)), (ln 132 76 (T 131)), (mv 133 (I 0))]])
  (.block 4 (.loop 11417970652611937578435456927608523274479230976 0 (.seq (.ops [.xs [(bi 134 .lss 3 (T 133) (T 132))]])
  (.seq (.cond (T 134) (.skip)
  (.exit 4))
  (.seq (.block 5 (.seq (.ops [.xs [(mv 135 (T 133)), (sa 14 (T 135))]])
  (.ops [.xs [(mv 137 (T 0)), (mv 138 (T 14)), (mv 139 (T 0)), (mv 140 (T 14)), (ia 141 76 (T 139) (T 140)), (ld 142 124 (T 141)), (mv 143 (T 1)), (mv 144 (T 14)), (ia 145 76 (T 143) (T 144)), (ld 146 124 (T 145)), (mv 147 (T 13)), (cl 148 122 [(T 142), (T 146), (T 147)]), (mv 136 (T 148)), (ex 149 (T 136) 0), (ex 150 (T 136) 1), (ia 151 76 (T 137) (T 138)), (st 124 (T 151) (T 149)), (sa 13 (T 150))]])))
  (.ops [.xs [(bi 152 .add 3 (T 133) (I 1)), (mv 133 (T 152))]])))))))
  (.ops [.xs [(mv 153 (T 0)), (mv 154 (T 5)), (ia 155 76 (T 153) (T 154)), (ld 156 124 (T 155)), (mv 157 (T 13)), (bi 158 .add 124 (T 156) (T 157)), (ia 159 76 (T 153) (T 154)), (st 124 (T 159) (T 158))]]))))
  (.skip))))
  (.seq (.ops [.xs [(mv 160 (T 7)), (cv 161 123 124 (T 160)), (sa 4 (T 161))]])
  (.ret)))))))))), [.tmp 4]⟩
def Z_num_down : ZFunc := ⟨.seq (.ops [.xs [(sa 4 (C (.slice none 0 0)))]])
  (.seq (.ops [.xs [(mv 8 (T 0)), (ln 9 76 (T 8)), (ms 10 76 (T 9) (T 9)), (sa 5 (T 10))]])
  (.seq (.seq (.ops [.xs [(mv 11 (T 0)), (ln 12 76 (T 11)), (mv 13 (I 0))]])
  (.block 0 (.loop 8796093014208 0 (.seq (.ops [.xs [(bi 14 .lss 3 (T 13) (T 12))]])
  (.seq (.cond (T 14) (.skip)
  (.exit 0))
  (.seq (.block 1 (.seq (.ops [.xs [(mv 15 (T 13)), (sa 6 (T 15))]])
  (.seq (.ops [.xs [(mv 16 (T 0)), (mv 17 (T 6)), (ia 18 76 (T 16) (T 17)), (ld 19 124 (T 18)), (cv 20 124 123 (T 19)), (sa 7 (T 20))]])
  (.seq (.box 34357641344 0 (.seq (.ops [.xs [(mv 21 (T 6)), (bi 22 .add 3 (T 21) (I 1)), (mv 23 (T 0)), (ln 24 76 (T 23)), (bi 25 .lss 3 (T 22) (T 24))]])
  (.cond (T 25) (.ops [.xs [(mv 26 (T 7)), (mv 27 (T 0)), (mv 28 (T 6)), (bi 29 .add 3 (T 28) (I 1)), (ia 30 76 (T 27) (T 29)), (ld 31 124 (T 30)), (cv 32 124 123 (T 31)), (bi 33 .shl 123 (T 32) (C (.int .u64 32))), (bi 34 .or 123 (T 26) (T 33)), (sa 7 (T 34))]])
  (.skip))))
  (.ops [.xs [(mv 35 (T 5)), (mv 36 (T 6)), (mv 37 (T 7)), (mv 38 (T 1)), (bi 39 .shr 123 (T 37) (T 38)), (cv 40 123 124 (T 39)), (ia 41 76 (T 35) (T 36)), (st 124 (T 41) (T 40))]])))))
  (.ops [.xs [(bi 42 .add 3 (T 13) (I 1)), (mv 13 (T 42))]])))))))
  (.seq (.ops [.xs [(mv 43 (T 5)), (cl 44 110 [(T 43)]), (sa 4 (T 44))]])
  (.ret)))), [.tmp 4]⟩
def Z_stringslite_IndexByte : ZFunc := ⟨.seq (.ops [.xs [(sa 4 (I 0))]])
  (.seq (.ops [.xs [(mv 5 (T 0)), (mv 6 (T 1)), (cl 7 133 [(T 5), (T 6)]), (sa 4 (T 7))]])
  (.ret)), [.tmp 4]⟩
def Z_bits_Len32 : ZFunc := ⟨.seq (.ops [.xs [(sa 2 (I 0))]])
  (.seq (.box 125 0 (.seq (.ops [.xs [(mv 3 (T 0)), (bi 4 .geq 124 (T 3) (C (.int .u32 65536)))]])
  (.cond (T 4) (.seq (.ops [.xs [(mv 5 (T 0)), (bi 6 .shr 124 (T 5) (C (.int .u64 16))), (sa 0 (T 6))]])
  (.ops [.xs [(sa 2 (I 16))]]))
  (.skip))))
  (.seq (.box 8069 0 (.seq (.ops [.xs [(mv 7 (T 0)), (bi 8 .geq 124 (T 7) (C (.int .u32 256)))]])
  (.cond (T 8) (.seq (.ops [.xs [(mv 9 (T 0)), (bi 10 .shr 124 (T 9) (C (.int .u64 8))), (sa 0 (T 10))]])
  (.ops [.xs [(mv 11 (T 2)), (bi 12 .add 3 (T 11) (I 8)), (sa 2 (T 12))]]))
  (.skip))))
  (.seq (.ops [.xs [(mv 13 (T 2)), (mv 14 (T 0)), (cv 15 124 5 (T 14)), (ix 16 9 (C (.string { data := (List.toArray (List.append (List.append [0, 1, 2, 2, 3, 3, 3, 3, 4, 4, 4, 4, 4, 4, 4, 4, 5, 5, 5, 5, 5, 5, 5, 5, 5, 5, 5, 5, 5, 5, 5, 5, 6, 6, 6, 6, 6, 6, 6, 6, 6, 6, 6, 6, 6, 6, 6, 6, 6, 6, 6, 6, 6, 6, 6, 6, 6, 6, 6, 6, 6, 6, 6, 6] [7, 7, 7, 7, 7, 7, 7, 7, 7, 7, 7, 7, 7, 7, 7, 7, 7, 7, 7, 7, 7, 7, 7, 7, 7, 7, 7, 7, 7, 7, 7, 7, 7, 7, 7, 7, 7, 7, 7, 7, 7, 7, 7, 7, 7, 7, 7, 7, 7, 7, 7, 7, 7, 7, 7, 7, 7, 7, 7, 7, 7, 7, 7, 7]) (List.append [8, 8, 8, 8, 8, 8, 8, 8, 8, 8, 8, 8, 8, 8, 8, 8, 8, 8, 8, 8, 8, 8, 8, 8, 8, 8, 8, 8, 8, 8, 8, 8, 8, 8, 8, 8, 8, 8, 8, 8, 8, 8, 8, 8, 8, 8, 8, 8, 8, 8, 8, 8, 8, 8, 8, 8, 8, 8, 8, 8, 8, 8, 8, 8] [8, 8, 8, 8, 8, 8, 8, 8, 8, 8, 8, 8, 8, 8, 8, 8, 8, 8, 8, 8, 8, 8, 8, 8, 8, 8, 8, 8, 8, 8, 8, 8, 8, 8, 8, 8, 8, 8, 8, 8, 8, 8, 8, 8, 8, 8, 8, 8, 8, 8, 8, 8, 8, 8, 8, 8, 8, 8, 8, 8, 8, 8, 8, 8]))) })) (T 15)), (cv 17 5 3 (T 16)), (bi 18 .add 3 (T 13) (T 17)), (sa 2 (T 18))]])
  (.ret)))), [.tmp 2]⟩
theorem ty_0 : intT prog 3 = some .i64 := by kernel_rfl
theorem ty_1 : intT prog 24 = some .i64 := by kernel_rfl
theorem ty_2 : sliceE prog 27 = some 93 := by kernel_rfl
theorem ty_3 : srcT prog 27 = true := by kernel_rfl
theorem ty_4 : sz? prog 93 = some 2 := by kernel_rfl
theorem ty_5 : bytes? prog 93 = some 40 := by kernel_rfl
theorem ty_6 : zero? prog 93 = some (.agg #[(.string { data := #[] }), (.slice none 0 0)]) := by kernel_rfl
theorem ty_7 : prog.underlying 27 = some (.slice 93) := by kernel_rfl
theorem ty_8 : sliceE prog 22 = some 34 := by kernel_rfl
theorem ty_9 : srcT prog 22 = true := by kernel_rfl
theorem ty_10 : sz? prog 34 = some 1 := by kernel_rfl
theorem ty_11 : bytes? prog 34 = some 24 := by kernel_rfl
theorem ty_12 : zero? prog 34 = some (.slice none 0 0) := by kernel_rfl
theorem ty_13 : prog.underlying 22 = some (.slice 34) := by kernel_rfl
theorem ty_14 : aggB prog 34 = some false := by kernel_rfl
theorem ty_15 : sliceE prog 34 = some 3 := by kernel_rfl
theorem ty_16 : srcT prog 34 = true := by kernel_rfl
theorem ty_17 : sz? prog 3 = some 1 := by kernel_rfl
theorem ty_18 : bytes? prog 3 = some 8 := by kernel_rfl
theorem ty_19 : zero? prog 3 = some (.int .i64 0) := by kernel_rfl
theorem ty_20 : prog.underlying 34 = some (.slice 3) := by kernel_rfl
theorem ty_21 : sliceE prog 95 = some 27 := by kernel_rfl
theorem ty_22 : srcT prog 95 = true := by kernel_rfl
theorem ty_23 : sz? prog 27 = some 1 := by kernel_rfl
theorem ty_24 : bytes? prog 27 = some 24 := by kernel_rfl
theorem ty_25 : zero? prog 27 = some (.slice none 0 0) := by kernel_rfl
theorem ty_26 : prog.underlying 95 = some (.slice 27) := by kernel_rfl
theorem ty_27 : strT prog 45 = true := by kernel_rfl
theorem ty_28 : srcT prog 45 = true := by kernel_rfl
theorem ty_29 : aggB prog 3 = some false := by kernel_rfl
theorem ty_30 : sz? prog 56 = some 2 := by kernel_rfl
theorem ty_31 : aggB prog 56 = some true := by kernel_rfl
theorem ty_32 : fieldOff prog 56 0 = some 0 := by kernel_rfl
theorem ty_33 : aggB prog 5 = some false := by kernel_rfl
theorem ty_34 : sz? prog 5 = some 1 := by kernel_rfl
theorem ty_35 : fieldOff prog 56 1 = some 1 := by kernel_rfl
theorem ty_36 : intT prog 5 = some .u8 := by kernel_rfl
theorem ty_37 : sliceE prog 60 = some 61 := by kernel_rfl
theorem ty_38 : srcT prog 60 = true := by kernel_rfl
theorem ty_39 : sz? prog 61 = some 1 := by kernel_rfl
theorem ty_40 : bytes? prog 61 = some 24 := by kernel_rfl
theorem ty_41 : zero? prog 61 = some (.slice none 0 0) := by kernel_rfl
theorem ty_42 : prog.underlying 60 = some (.slice 61) := by kernel_rfl
theorem ty_43 : aggB prog 61 = some false := by kernel_rfl
theorem ty_44 : sliceE prog 61 = some 5 := by kernel_rfl
theorem ty_45 : srcT prog 61 = true := by kernel_rfl
theorem ty_46 : bytes? prog 5 = some 1 := by kernel_rfl
theorem ty_47 : zero? prog 5 = some (.int .u8 0) := by kernel_rfl
theorem ty_48 : prog.underlying 61 = some (.slice 5) := by kernel_rfl
theorem ty_49 : sliceE prog 62 = some 69 := by kernel_rfl
theorem ty_50 : srcT prog 62 = true := by kernel_rfl
theorem ty_51 : sz? prog 69 = some 2 := by kernel_rfl
theorem ty_52 : bytes? prog 69 = some 32 := by kernel_rfl
theorem ty_53 : zero? prog 69 = some (.agg #[(.int .i64 0), (.slice none 0 0)]) := by kernel_rfl
theorem ty_54 : prog.underlying 62 = some (.slice 69) := by kernel_rfl
theorem ty_55 : fieldOff prog 69 0 = some 0 := by kernel_rfl
theorem ty_56 : zero? prog 74 = some (.agg #[(.slice none 0 0)]) := by kernel_rfl
theorem ty_57 : sz? prog 74 = some 1 := by kernel_rfl
theorem ty_58 : aggB prog 74 = some true := by kernel_rfl
theorem ty_59 : zero? prog 80 = some (.agg #[(.bool false), (.slice none 0 0), (.bool false), (.slice none 0 0)]) := by kernel_rfl
theorem ty_60 : sz? prog 80 = some 4 := by kernel_rfl
theorem ty_61 : aggB prog 80 = some true := by kernel_rfl
theorem ty_62 : aggB prog 93 = some true := by kernel_rfl
theorem ty_63 : fieldOff prog 93 0 = some 0 := by kernel_rfl
theorem ty_64 : aggB prog 45 = some false := by kernel_rfl
theorem ty_65 : sz? prog 45 = some 1 := by kernel_rfl
theorem ty_66 : fieldCut prog 42 0 = some (0, some 2) := by kernel_rfl
theorem ty_67 : fieldOff prog 93 1 = some 1 := by kernel_rfl
theorem ty_68 : zero? prog 42 = some (.agg #[(.bool false), (.slice none 0 0), (.bool false), (.slice none 0 0)]) := by kernel_rfl
theorem ty_69 : sz? prog 42 = some 4 := by kernel_rfl
theorem ty_70 : aggB prog 42 = some true := by kernel_rfl
theorem ty_71 : aggB prog 27 = some false := by kernel_rfl
theorem ty_72 : fieldOff prog 42 0 = some 0 := by kernel_rfl
theorem ty_73 : aggB prog 40 = some true := by kernel_rfl
theorem ty_74 : sz? prog 40 = some 2 := by kernel_rfl
theorem ty_75 : fieldOff prog 42 1 = some 2 := by kernel_rfl
theorem ty_76 : places prog 42 = some [(0, 2), (2, 2)] := by kernel_rfl
theorem ty_77 : strT prog 9 = true := by kernel_rfl
theorem ty_78 : srcT prog 9 = true := by kernel_rfl
theorem ty_79 : fieldOff prog 40 0 = some 0 := by kernel_rfl
theorem ty_80 : aggB prog 4 = some false := by kernel_rfl
theorem ty_81 : sz? prog 4 = some 1 := by kernel_rfl
theorem ty_82 : places prog 93 = some [(0, 1), (1, 1)] := by kernel_rfl
theorem ty_83 : sliceE prog 110 = some 113 := by kernel_rfl
theorem ty_84 : srcT prog 110 = true := by kernel_rfl
theorem ty_85 : sz? prog 113 = some 5 := by kernel_rfl
theorem ty_86 : bytes? prog 113 = some 88 := by kernel_rfl
theorem ty_87 : zero? prog 113 = some (.agg #[(.bool false), (.slice none 0 0), (.bool false), (.slice none 0 0), (.slice none 0 0)]) := by kernel_rfl
theorem ty_88 : prog.underlying 110 = some (.slice 113) := by kernel_rfl
theorem ty_89 : aggB prog 113 = some true := by kernel_rfl
theorem ty_90 : fieldOff prog 113 0 = some 0 := by kernel_rfl
theorem ty_91 : places prog 69 = some [(0, 1), (1, 1)] := by kernel_rfl
theorem ty_92 : aggB prog 69 = some true := by kernel_rfl
theorem ty_93 : fieldOff prog 113 1 = some 4 := by kernel_rfl
theorem ty_94 : fieldOff prog 69 1 = some 1 := by kernel_rfl
theorem ty_95 : sliceE prog 115 = some 4 := by kernel_rfl
theorem ty_96 : srcT prog 115 = true := by kernel_rfl
theorem ty_97 : bytes? prog 4 = some 1 := by kernel_rfl
theorem ty_98 : zero? prog 4 = some (.bool false) := by kernel_rfl
theorem ty_99 : prog.underlying 115 = some (.slice 4) := by kernel_rfl
theorem ty_100 : sz? prog 22 = some 1 := by kernel_rfl
theorem ty_101 : aggB prog 22 = some false := by kernel_rfl
theorem ty_102 : sliceE prog 120 = some 80 := by kernel_rfl
theorem ty_103 : srcT prog 120 = true := by kernel_rfl
theorem ty_104 : bytes? prog 80 = some 64 := by kernel_rfl
theorem ty_105 : prog.underlying 120 = some (.slice 80) := by kernel_rfl
theorem ty_106 : sliceE prog 72 = some 120 := by kernel_rfl
theorem ty_107 : srcT prog 72 = true := by kernel_rfl
theorem ty_108 : sz? prog 120 = some 1 := by kernel_rfl
theorem ty_109 : bytes? prog 120 = some 24 := by kernel_rfl
theorem ty_110 : zero? prog 120 = some (.slice none 0 0) := by kernel_rfl
theorem ty_111 : prog.underlying 72 = some (.slice 120) := by kernel_rfl
theorem ty_112 : places prog 74 = some [(0, 1)] := by kernel_rfl
theorem ty_113 : fieldOff prog 74 0 = some 0 := by kernel_rfl
theorem ty_114 : aggB prog 72 = some false := by kernel_rfl
theorem ty_115 : sz? prog 72 = some 1 := by kernel_rfl
theorem ty_116 : aggB prog 120 = some false := by kernel_rfl
theorem ty_117 : fieldOff prog 80 0 = some 0 := by kernel_rfl
theorem ty_118 : aggB prog 78 = some true := by kernel_rfl
theorem ty_119 : sz? prog 78 = some 2 := by kernel_rfl
theorem ty_120 : fieldOff prog 80 1 = some 2 := by kernel_rfl
theorem ty_121 : zero? prog 78 = some (.agg #[(.bool false), (.slice none 0 0)]) := by kernel_rfl
theorem ty_122 : fieldOff prog 78 1 = some 1 := by kernel_rfl
theorem ty_123 : aggB prog 76 = some false := by kernel_rfl
theorem ty_124 : sz? prog 76 = some 1 := by kernel_rfl
theorem ty_125 : sliceE prog 76 = some 124 := by kernel_rfl
theorem ty_126 : srcT prog 76 = true := by kernel_rfl
theorem ty_127 : sz? prog 124 = some 1 := by kernel_rfl
theorem ty_128 : bytes? prog 124 = some 4 := by kernel_rfl
theorem ty_129 : zero? prog 124 = some (.int .u32 0) := by kernel_rfl
theorem ty_130 : prog.underlying 76 = some (.slice 124) := by kernel_rfl
theorem ty_131 : aggB prog 124 = some false := by kernel_rfl
theorem ty_132 : intT prog 124 = some .u32 := by kernel_rfl
theorem ty_133 : intT prog 123 = some .u64 := by kernel_rfl
theorem ty_134 : fieldOff prog 78 0 = some 0 := by kernel_rfl
theorem ty_135 : fieldOff prog 40 1 = some 1 := by kernel_rfl
theorem ty_136 : zero? prog 40 = some (.agg #[(.bool false), (.slice none 0 0)]) := by kernel_rfl
theorem ty_137 : boolT prog 4 = true := by kernel_rfl
theorem ty_138 : places prog 40 = some [(0, 1), (1, 1)] := by kernel_rfl
theorem ty_139 : zero? prog 140 = some (.agg #[(.slice none 0 0), (.slice none 0 0), (.slice none 0 0)]) := by kernel_rfl
theorem ty_140 : places prog 140 = some [(0, 1), (1, 1), (2, 1)] := by kernel_rfl
theorem ty_141 : sz? prog 140 = some 3 := by kernel_rfl
theorem ty_142 : fieldOff prog 140 2 = some 2 := by kernel_rfl
theorem ty_143 : sz? prog 115 = some 1 := by kernel_rfl
theorem ty_144 : fieldOff prog 140 1 = some 1 := by kernel_rfl
theorem ty_145 : places prog 113 = some [(0, 4), (4, 1)] := by kernel_rfl
theorem ty_146 : places prog 80 = some [(0, 2), (2, 2)] := by kernel_rfl
theorem ty_147 : prog.concrete 9 = true := by kernel_rfl
theorem ty_148 : intT prog 142 = some .u64 := by kernel_rfl
theorem ty_149 : fieldCut prog 40 1 = some (1, none) := by kernel_rfl
theorem ty_150 : fieldOff prog 140 0 = some 0 := by kernel_rfl
theorem ty_151 : aggB prog 115 = some false := by kernel_rfl
theorem ty_152 : places prog 78 = some [(0, 1), (1, 1)] := by kernel_rfl
attribute [simp] ty_0 ty_1 ty_2 ty_3 ty_4 ty_5 ty_6 ty_7 ty_8 ty_9 ty_10 ty_11 ty_12 ty_13 ty_14 ty_15 ty_16 ty_17 ty_18 ty_19 ty_20 ty_21 ty_22 ty_23 ty_24 ty_25 ty_26 ty_27 ty_28 ty_29 ty_30 ty_31 ty_32 ty_33 ty_34 ty_35 ty_36 ty_37 ty_38 ty_39 ty_40 ty_41 ty_42 ty_43 ty_44 ty_45 ty_46 ty_47 ty_48 ty_49 ty_50 ty_51 ty_52 ty_53 ty_54 ty_55 ty_56 ty_57 ty_58 ty_59 ty_60 ty_61 ty_62 ty_63 ty_64 ty_65 ty_66 ty_67 ty_68 ty_69 ty_70 ty_71 ty_72 ty_73 ty_74 ty_75 ty_76 ty_77 ty_78 ty_79 ty_80 ty_81 ty_82 ty_83 ty_84 ty_85 ty_86 ty_87 ty_88 ty_89 ty_90 ty_91 ty_92 ty_93 ty_94 ty_95 ty_96 ty_97 ty_98 ty_99 ty_100 ty_101 ty_102 ty_103 ty_104 ty_105 ty_106 ty_107 ty_108 ty_109 ty_110 ty_111 ty_112 ty_113 ty_114 ty_115 ty_116 ty_117 ty_118 ty_119 ty_120 ty_121 ty_122 ty_123 ty_124 ty_125 ty_126 ty_127 ty_128 ty_129 ty_130 ty_131 ty_132 ty_133 ty_134 ty_135 ty_136 ty_137 ty_138 ty_139 ty_140 ty_141 ty_142 ty_143 ty_144 ty_145 ty_146 ty_147 ty_148 ty_149 ty_150 ty_151 ty_152
@[simp] theorem cv_5_3 {r : List XOp} {F : Fr} {H : SHeap} {Q : Fr → SHeap → Prop} (d : Nat) (x : Operand) (hx : isInt (fev F x) = true) (tk : Tok (cv d 5 3 x :: r) Q) : XWt prog (cv d 5 3 x :: r) Q tk F H = XWt prog r Q .mk (upd F d (.int .i64 (IntKind.i64.wrap (intOf (fev F x))))) H := tx_cvi ty_36 ty_0 hx tk
@[simp] theorem cv_3_5 {r : List XOp} {F : Fr} {H : SHeap} {Q : Fr → SHeap → Prop} (d : Nat) (x : Operand) (hx : isInt (fev F x) = true) (tk : Tok (cv d 3 5 x :: r) Q) : XWt prog (cv d 3 5 x :: r) Q tk F H = XWt prog r Q .mk (upd F d (.int .u8 (IntKind.u8.wrap (intOf (fev F x))))) H := tx_cvi ty_0 ty_36 hx tk
@[simp high] theorem al_74 {r : List XOp} {F : Fr} {H : SHeap} {Q : Fr → SHeap → Prop} (d : Nat) (tk : Tok (al d 74 :: r) Q) : XWt prog (al d 74 :: r) Q tk F H = XWt prog r Q .mk (upd F d (.pointer (some ⟨H.length, 0, none⟩))) (H ++ [.own 74 false [(.slice none 0 0)]]) := by rw [tx_al, ty_56, Gett_some, show flat (.agg #[(.slice none 0 0)]) = true from by kernel_rfl, ty_57]; simp [Value.cells]
theorem wz_74 : Whole prog 74 (.agg #[(.slice none 0 0)]) := ⟨by kernel_rfl, by kernel_rfl, (by rw [if_pos (by rfl)]; kernel_rfl)⟩
@[simp] theorem zal_74 {F G : Fr} {H : SHeap} {r : List ZItem} {Q : Fr → Fr → SHeap → Prop} (c : Nat) (tk : Tok (.al c 74 :: r) Q) : ZWt prog (.al c 74 :: r) Q tk F G H = ZWt prog r Q .mk (upd F c (.pointer (some ⟨H.length, 0, none⟩))) (upd G c (.agg #[(.slice none 0 0)])) (H ++ [.dead]) := tz_al ty_56 (by kernel_rfl) wz_74 tk
@[simp high] theorem al_80 {r : List XOp} {F : Fr} {H : SHeap} {Q : Fr → SHeap → Prop} (d : Nat) (tk : Tok (al d 80 :: r) Q) : XWt prog (al d 80 :: r) Q tk F H = XWt prog r Q .mk (upd F d (.pointer (some ⟨H.length, 0, none⟩))) (H ++ [.own 80 false [(.bool false), (.slice none 0 0), (.bool false), (.slice none 0 0)]]) := by rw [tx_al, ty_59, Gett_some, show flat (.agg #[(.bool false), (.slice none 0 0), (.bool false), (.slice none 0 0)]) = true from by kernel_rfl, ty_60]; simp [Value.cells]
theorem wz_80 : Whole prog 80 (.agg #[(.bool false), (.slice none 0 0), (.bool false), (.slice none 0 0)]) := ⟨by kernel_rfl, by kernel_rfl, (by rw [if_pos (by rfl)]; kernel_rfl)⟩
@[simp] theorem zal_80 {F G : Fr} {H : SHeap} {r : List ZItem} {Q : Fr → Fr → SHeap → Prop} (c : Nat) (tk : Tok (.al c 80 :: r) Q) : ZWt prog (.al c 80 :: r) Q tk F G H = ZWt prog r Q .mk (upd F c (.pointer (some ⟨H.length, 0, none⟩))) (upd G c (.agg #[(.bool false), (.slice none 0 0), (.bool false), (.slice none 0 0)])) (H ++ [.dead]) := tz_al ty_59 (by kernel_rfl) wz_80 tk
@[simp high] theorem al_93 {r : List XOp} {F : Fr} {H : SHeap} {Q : Fr → SHeap → Prop} (d : Nat) (tk : Tok (al d 93 :: r) Q) : XWt prog (al d 93 :: r) Q tk F H = XWt prog r Q .mk (upd F d (.pointer (some ⟨H.length, 0, none⟩))) (H ++ [.own 93 false [(.string { data := #[] }), (.slice none 0 0)]]) := by rw [tx_al, ty_6, Gett_some, show flat (.agg #[(.string { data := #[] }), (.slice none 0 0)]) = true from by kernel_rfl, ty_4]; simp [Value.cells]
theorem wz_93 : Whole prog 93 (.agg #[(.string { data := #[] }), (.slice none 0 0)]) := ⟨by kernel_rfl, by kernel_rfl, (by rw [if_pos (by rfl)]; kernel_rfl)⟩
@[simp] theorem zal_93 {F G : Fr} {H : SHeap} {r : List ZItem} {Q : Fr → Fr → SHeap → Prop} (c : Nat) (tk : Tok (.al c 93 :: r) Q) : ZWt prog (.al c 93 :: r) Q tk F G H = ZWt prog r Q .mk (upd F c (.pointer (some ⟨H.length, 0, none⟩))) (upd G c (.agg #[(.string { data := #[] }), (.slice none 0 0)])) (H ++ [.dead]) := tz_al ty_6 (by kernel_rfl) wz_93 tk
@[simp high] theorem al_42 {r : List XOp} {F : Fr} {H : SHeap} {Q : Fr → SHeap → Prop} (d : Nat) (tk : Tok (al d 42 :: r) Q) : XWt prog (al d 42 :: r) Q tk F H = XWt prog r Q .mk (upd F d (.pointer (some ⟨H.length, 0, none⟩))) (H ++ [.own 42 false [(.bool false), (.slice none 0 0), (.bool false), (.slice none 0 0)]]) := by rw [tx_al, ty_68, Gett_some, show flat (.agg #[(.bool false), (.slice none 0 0), (.bool false), (.slice none 0 0)]) = true from by kernel_rfl, ty_69]; simp [Value.cells]
theorem wz_42 : Whole prog 42 (.agg #[(.bool false), (.slice none 0 0), (.bool false), (.slice none 0 0)]) := ⟨by kernel_rfl, by kernel_rfl, (by rw [if_pos (by rfl)]; kernel_rfl)⟩
@[simp] theorem zal_42 {F G : Fr} {H : SHeap} {r : List ZItem} {Q : Fr → Fr → SHeap → Prop} (c : Nat) (tk : Tok (.al c 42 :: r) Q) : ZWt prog (.al c 42 :: r) Q tk F G H = ZWt prog r Q .mk (upd F c (.pointer (some ⟨H.length, 0, none⟩))) (upd G c (.agg #[(.bool false), (.slice none 0 0), (.bool false), (.slice none 0 0)])) (H ++ [.dead]) := tz_al ty_68 (by kernel_rfl) wz_42 tk
@[simp] theorem bd_42 {r : List XOp} {F : Fr} {H : SHeap} {Q : Fr → SHeap → Prop} (d : Nat) (ps : List (Nat × Operand)) (tk : Tok (bd d 42 ps :: r) Q) : XWt prog (bd d 42 ps :: r) Q tk F H = Gett (fun out => XWt prog r Q .mk (upd F d (.agg out.toArray)) H) .mk (fillL [(0, 2), (2, 2)] (Value.cells (.agg #[(.bool false), (.slice none 0 0), (.bool false), (.slice none 0 0)])).toList (ps.map fun p => (p.1, fev F p.2))) := tx_bd ty_68 (by kernel_rfl) ty_76 tk
@[simp] theorem bd_93 {r : List XOp} {F : Fr} {H : SHeap} {Q : Fr → SHeap → Prop} (d : Nat) (ps : List (Nat × Operand)) (tk : Tok (bd d 93 ps :: r) Q) : XWt prog (bd d 93 ps :: r) Q tk F H = Gett (fun out => XWt prog r Q .mk (upd F d (.agg out.toArray)) H) .mk (fillL [(0, 1), (1, 1)] (Value.cells (.agg #[(.string { data := #[] }), (.slice none 0 0)])).toList (ps.map fun p => (p.1, fev F p.2))) := tx_bd ty_6 (by kernel_rfl) ty_82 tk
@[simp high] theorem al_113 {r : List XOp} {F : Fr} {H : SHeap} {Q : Fr → SHeap → Prop} (d : Nat) (tk : Tok (al d 113 :: r) Q) : XWt prog (al d 113 :: r) Q tk F H = XWt prog r Q .mk (upd F d (.pointer (some ⟨H.length, 0, none⟩))) (H ++ [.own 113 false [(.bool false), (.slice none 0 0), (.bool false), (.slice none 0 0), (.slice none 0 0)]]) := by rw [tx_al, ty_87, Gett_some, show flat (.agg #[(.bool false), (.slice none 0 0), (.bool false), (.slice none 0 0), (.slice none 0 0)]) = true from by kernel_rfl, ty_85]; simp [Value.cells]
theorem wz_113 : Whole prog 113 (.agg #[(.bool false), (.slice none 0 0), (.bool false), (.slice none 0 0), (.slice none 0 0)]) := ⟨by kernel_rfl, by kernel_rfl, (by rw [if_pos (by rfl)]; kernel_rfl)⟩
@[simp] theorem zal_113 {F G : Fr} {H : SHeap} {r : List ZItem} {Q : Fr → Fr → SHeap → Prop} (c : Nat) (tk : Tok (.al c 113 :: r) Q) : ZWt prog (.al c 113 :: r) Q tk F G H = ZWt prog r Q .mk (upd F c (.pointer (some ⟨H.length, 0, none⟩))) (upd G c (.agg #[(.bool false), (.slice none 0 0), (.bool false), (.slice none 0 0), (.slice none 0 0)])) (H ++ [.dead]) := tz_al ty_87 (by kernel_rfl) wz_113 tk
@[simp] theorem bd_69 {r : List XOp} {F : Fr} {H : SHeap} {Q : Fr → SHeap → Prop} (d : Nat) (ps : List (Nat × Operand)) (tk : Tok (bd d 69 ps :: r) Q) : XWt prog (bd d 69 ps :: r) Q tk F H = Gett (fun out => XWt prog r Q .mk (upd F d (.agg out.toArray)) H) .mk (fillL [(0, 1), (1, 1)] (Value.cells (.agg #[(.int .i64 0), (.slice none 0 0)])).toList (ps.map fun p => (p.1, fev F p.2))) := tx_bd ty_53 (by kernel_rfl) ty_91 tk
@[simp high] theorem al_69 {r : List XOp} {F : Fr} {H : SHeap} {Q : Fr → SHeap → Prop} (d : Nat) (tk : Tok (al d 69 :: r) Q) : XWt prog (al d 69 :: r) Q tk F H = XWt prog r Q .mk (upd F d (.pointer (some ⟨H.length, 0, none⟩))) (H ++ [.own 69 false [(.int .i64 0), (.slice none 0 0)]]) := by rw [tx_al, ty_53, Gett_some, show flat (.agg #[(.int .i64 0), (.slice none 0 0)]) = true from by kernel_rfl, ty_51]; simp [Value.cells]
theorem wz_69 : Whole prog 69 (.agg #[(.int .i64 0), (.slice none 0 0)]) := ⟨by kernel_rfl, by kernel_rfl, (by rw [if_pos (by rfl)]; kernel_rfl)⟩
@[simp] theorem zal_69 {F G : Fr} {H : SHeap} {r : List ZItem} {Q : Fr → Fr → SHeap → Prop} (c : Nat) (tk : Tok (.al c 69 :: r) Q) : ZWt prog (.al c 69 :: r) Q tk F G H = ZWt prog r Q .mk (upd F c (.pointer (some ⟨H.length, 0, none⟩))) (upd G c (.agg #[(.int .i64 0), (.slice none 0 0)])) (H ++ [.dead]) := tz_al ty_53 (by kernel_rfl) wz_69 tk
@[simp] theorem bd_74 {r : List XOp} {F : Fr} {H : SHeap} {Q : Fr → SHeap → Prop} (d : Nat) (ps : List (Nat × Operand)) (tk : Tok (bd d 74 ps :: r) Q) : XWt prog (bd d 74 ps :: r) Q tk F H = Gett (fun out => XWt prog r Q .mk (upd F d (.agg out.toArray)) H) .mk (fillL [(0, 1)] (Value.cells (.agg #[(.slice none 0 0)])).toList (ps.map fun p => (p.1, fev F p.2))) := tx_bd ty_56 (by kernel_rfl) ty_112 tk
@[simp high] theorem al_78 {r : List XOp} {F : Fr} {H : SHeap} {Q : Fr → SHeap → Prop} (d : Nat) (tk : Tok (al d 78 :: r) Q) : XWt prog (al d 78 :: r) Q tk F H = XWt prog r Q .mk (upd F d (.pointer (some ⟨H.length, 0, none⟩))) (H ++ [.own 78 false [(.bool false), (.slice none 0 0)]]) := by rw [tx_al, ty_121, Gett_some, show flat (.agg #[(.bool false), (.slice none 0 0)]) = true from by kernel_rfl, ty_119]; simp [Value.cells]
@[simp] theorem cv_124_123 {r : List XOp} {F : Fr} {H : SHeap} {Q : Fr → SHeap → Prop} (d : Nat) (x : Operand) (hx : isInt (fev F x) = true) (tk : Tok (cv d 124 123 x :: r) Q) : XWt prog (cv d 124 123 x :: r) Q tk F H = XWt prog r Q .mk (upd F d (.int .u64 (IntKind.u64.wrap (intOf (fev F x))))) H := tx_cvi ty_132 ty_133 hx tk
@[simp] theorem cv_123_3 {r : List XOp} {F : Fr} {H : SHeap} {Q : Fr → SHeap → Prop} (d : Nat) (x : Operand) (hx : isInt (fev F x) = true) (tk : Tok (cv d 123 3 x :: r) Q) : XWt prog (cv d 123 3 x :: r) Q tk F H = XWt prog r Q .mk (upd F d (.int .i64 (IntKind.i64.wrap (intOf (fev F x))))) H := tx_cvi ty_133 ty_0 hx tk
@[simp high] theorem al_40 {r : List XOp} {F : Fr} {H : SHeap} {Q : Fr → SHeap → Prop} (d : Nat) (tk : Tok (al d 40 :: r) Q) : XWt prog (al d 40 :: r) Q tk F H = XWt prog r Q .mk (upd F d (.pointer (some ⟨H.length, 0, none⟩))) (H ++ [.own 40 false [(.bool false), (.slice none 0 0)]]) := by rw [tx_al, ty_136, Gett_some, show flat (.agg #[(.bool false), (.slice none 0 0)]) = true from by kernel_rfl, ty_74]; simp [Value.cells]
theorem wz_40 : Whole prog 40 (.agg #[(.bool false), (.slice none 0 0)]) := ⟨by kernel_rfl, by kernel_rfl, (by rw [if_pos (by rfl)]; kernel_rfl)⟩
@[simp] theorem zal_40 {F G : Fr} {H : SHeap} {r : List ZItem} {Q : Fr → Fr → SHeap → Prop} (c : Nat) (tk : Tok (.al c 40 :: r) Q) : ZWt prog (.al c 40 :: r) Q tk F G H = ZWt prog r Q .mk (upd F c (.pointer (some ⟨H.length, 0, none⟩))) (upd G c (.agg #[(.bool false), (.slice none 0 0)])) (H ++ [.dead]) := tz_al ty_136 (by kernel_rfl) wz_40 tk
@[simp] theorem bd_40 {r : List XOp} {F : Fr} {H : SHeap} {Q : Fr → SHeap → Prop} (d : Nat) (ps : List (Nat × Operand)) (tk : Tok (bd d 40 ps :: r) Q) : XWt prog (bd d 40 ps :: r) Q tk F H = Gett (fun out => XWt prog r Q .mk (upd F d (.agg out.toArray)) H) .mk (fillL [(0, 1), (1, 1)] (Value.cells (.agg #[(.bool false), (.slice none 0 0)])).toList (ps.map fun p => (p.1, fev F p.2))) := tx_bd ty_136 (by kernel_rfl) ty_138 tk
@[simp] theorem bd_140 {r : List XOp} {F : Fr} {H : SHeap} {Q : Fr → SHeap → Prop} (d : Nat) (ps : List (Nat × Operand)) (tk : Tok (bd d 140 ps :: r) Q) : XWt prog (bd d 140 ps :: r) Q tk F H = Gett (fun out => XWt prog r Q .mk (upd F d (.agg out.toArray)) H) .mk (fillL [(0, 1), (1, 1), (2, 1)] (Value.cells (.agg #[(.slice none 0 0), (.slice none 0 0), (.slice none 0 0)])).toList (ps.map fun p => (p.1, fev F p.2))) := tx_bd ty_139 (by kernel_rfl) ty_140 tk
@[simp] theorem bd_113 {r : List XOp} {F : Fr} {H : SHeap} {Q : Fr → SHeap → Prop} (d : Nat) (ps : List (Nat × Operand)) (tk : Tok (bd d 113 ps :: r) Q) : XWt prog (bd d 113 ps :: r) Q tk F H = Gett (fun out => XWt prog r Q .mk (upd F d (.agg out.toArray)) H) .mk (fillL [(0, 4), (4, 1)] (Value.cells (.agg #[(.bool false), (.slice none 0 0), (.bool false), (.slice none 0 0), (.slice none 0 0)])).toList (ps.map fun p => (p.1, fev F p.2))) := tx_bd ty_87 (by kernel_rfl) ty_145 tk
@[simp] theorem bd_80 {r : List XOp} {F : Fr} {H : SHeap} {Q : Fr → SHeap → Prop} (d : Nat) (ps : List (Nat × Operand)) (tk : Tok (bd d 80 ps :: r) Q) : XWt prog (bd d 80 ps :: r) Q tk F H = Gett (fun out => XWt prog r Q .mk (upd F d (.agg out.toArray)) H) .mk (fillL [(0, 2), (2, 2)] (Value.cells (.agg #[(.bool false), (.slice none 0 0), (.bool false), (.slice none 0 0)])).toList (ps.map fun p => (p.1, fev F p.2))) := tx_bd ty_59 (by kernel_rfl) ty_146 tk
@[simp] theorem cv_3_142 {r : List XOp} {F : Fr} {H : SHeap} {Q : Fr → SHeap → Prop} (d : Nat) (x : Operand) (hx : isInt (fev F x) = true) (tk : Tok (cv d 3 142 x :: r) Q) : XWt prog (cv d 3 142 x :: r) Q tk F H = XWt prog r Q .mk (upd F d (.int .u64 (IntKind.u64.wrap (intOf (fev F x))))) H := tx_cvi ty_0 ty_148 hx tk
@[simp] theorem cv_142_3 {r : List XOp} {F : Fr} {H : SHeap} {Q : Fr → SHeap → Prop} (d : Nat) (x : Operand) (hx : isInt (fev F x) = true) (tk : Tok (cv d 142 3 x :: r) Q) : XWt prog (cv d 142 3 x :: r) Q tk F H = XWt prog r Q .mk (upd F d (.int .i64 (IntKind.i64.wrap (intOf (fev F x))))) H := tx_cvi ty_148 ty_0 hx tk
@[simp] theorem cv_124_5 {r : List XOp} {F : Fr} {H : SHeap} {Q : Fr → SHeap → Prop} (d : Nat) (x : Operand) (hx : isInt (fev F x) = true) (tk : Tok (cv d 124 5 x :: r) Q) : XWt prog (cv d 124 5 x :: r) Q tk F H = XWt prog r Q .mk (upd F d (.int .u8 (IntKind.u8.wrap (intOf (fev F x))))) H := tx_cvi ty_132 ty_36 hx tk
@[simp] theorem cv_3_123 {r : List XOp} {F : Fr} {H : SHeap} {Q : Fr → SHeap → Prop} (d : Nat) (x : Operand) (hx : isInt (fev F x) = true) (tk : Tok (cv d 3 123 x :: r) Q) : XWt prog (cv d 3 123 x :: r) Q tk F H = XWt prog r Q .mk (upd F d (.int .u64 (IntKind.u64.wrap (intOf (fev F x))))) H := tx_cvi ty_0 ty_133 hx tk
@[simp] theorem cv_123_124 {r : List XOp} {F : Fr} {H : SHeap} {Q : Fr → SHeap → Prop} (d : Nat) (x : Operand) (hx : isInt (fev F x) = true) (tk : Tok (cv d 123 124 x :: r) Q) : XWt prog (cv d 123 124 x :: r) Q tk F H = XWt prog r Q .mk (upd F d (.int .u32 (IntKind.u32.wrap (intOf (fev F x))))) H := tx_cvi ty_133 ty_132 hx tk
@[simp] theorem cv_142_124 {r : List XOp} {F : Fr} {H : SHeap} {Q : Fr → SHeap → Prop} (d : Nat) (x : Operand) (hx : isInt (fev F x) = true) (tk : Tok (cv d 142 124 x :: r) Q) : XWt prog (cv d 142 124 x :: r) Q tk F H = XWt prog r Q .mk (upd F d (.int .u32 (IntKind.u32.wrap (intOf (fev F x))))) H := tx_cvi ty_148 ty_132 hx tk
@[simp] theorem cv_124_142 {r : List XOp} {F : Fr} {H : SHeap} {Q : Fr → SHeap → Prop} (d : Nat) (x : Operand) (hx : isInt (fev F x) = true) (tk : Tok (cv d 124 142 x :: r) Q) : XWt prog (cv d 124 142 x :: r) Q tk F H = XWt prog r Q .mk (upd F d (.int .u64 (IntKind.u64.wrap (intOf (fev F x))))) H := tx_cvi ty_132 ty_148 hx tk
@[simp] theorem bd_78 {r : List XOp} {F : Fr} {H : SHeap} {Q : Fr → SHeap → Prop} (d : Nat) (ps : List (Nat × Operand)) (tk : Tok (bd d 78 ps :: r) Q) : XWt prog (bd d 78 ps :: r) Q tk F H = Gett (fun out => XWt prog r Q .mk (upd F d (.agg out.toArray)) H) .mk (fillL [(0, 1), (1, 1)] (Value.cells (.agg #[(.bool false), (.slice none 0 0)])).toList (ps.map fun p => (p.1, fev F p.2))) := tx_bd ty_121 (by kernel_rfl) ty_152 tk
@[simp] theorem cv_5_124 {r : List XOp} {F : Fr} {H : SHeap} {Q : Fr → SHeap → Prop} (d : Nat) (x : Operand) (hx : isInt (fev F x) = true) (tk : Tok (cv d 5 124 x :: r) Q) : XWt prog (cv d 5 124 x :: r) Q tk F H = XWt prog r Q .mk (upd F d (.int .u32 (IntKind.u32.wrap (intOf (fev F x))))) H := tx_cvi ty_36 ty_132 hx tk
theorem wz_78 : Whole prog 78 (.agg #[(.bool false), (.slice none 0 0)]) := ⟨by kernel_rfl, by kernel_rfl, (by rw [if_pos (by rfl)]; kernel_rfl)⟩
@[simp] theorem zal_78 {F G : Fr} {H : SHeap} {r : List ZItem} {Q : Fr → Fr → SHeap → Prop} (c : Nat) (tk : Tok (.al c 78 :: r) Q) : ZWt prog (.al c 78 :: r) Q tk F G H = ZWt prog r Q .mk (upd F c (.pointer (some ⟨H.length, 0, none⟩))) (upd G c (.agg #[(.bool false), (.slice none 0 0)])) (H ++ [.dead]) := tz_al ty_121 (by kernel_rfl) wz_78 tk
theorem into_shop_valid : XI 31 29 X_shop_valid := xi Tryz.f31
theorem into_num_Rat_Over : XI 36 5 X_num_Rat_Over := xi Tryz.f36
theorem into_ref_in : XI 39 15 X_ref_in := xi Tryz.f39
theorem into_shop_table_jobs : XI 48 6 X_shop_table_jobs := xi Tryz.f48
theorem into_shop_table_machines : XI 49 8 X_shop_table_machines := xi Tryz.f49
theorem into_num_Whole : XI 59 7 X_num_Whole := xi Tryz.f59
theorem into_slices_ContainsFunc_SSint_Sint : XI 61 9 X_slices_ContainsFunc_SSint_Sint := xi Tryz.f61
theorem into_shop_valid_c1 : XI 62 15 X_shop_valid_c1 := xi Tryz.f62
theorem into_slices_ContainsFunc_Sint_int : XI 63 9 X_slices_ContainsFunc_Sint_int := xi Tryz.f63
theorem into_shop_valid_c1_c1 : XI 64 9 X_shop_valid_c1_c1 := xi Tryz.f64
theorem into_num_Int_Mul : XI 66 16 X_num_Int_Mul := xi Tryz.f66
theorem into_num_Int_Cmp : XI 67 9 X_num_Int_Cmp := xi Tryz.f67
theorem into_num_Rat_Sign : XI 75 6 X_num_Rat_Sign := xi Tryz.f75
theorem into_num_Rat_Integer : XI 79 16 X_num_Rat_Integer := xi Tryz.f79
theorem into_num_Of : XI 88 20 X_num_Of := xi Tryz.f88
theorem into_slices_IndexFunc_SSint_Sint : XI 90 19 X_slices_IndexFunc_SSint_Sint := xi Tryz.f90
theorem into_slices_IndexFunc_Sint_int : XI 91 19 X_slices_IndexFunc_Sint_int := xi Tryz.f91
theorem into_num_made : XI 92 13 X_num_made := xi Tryz.f92
theorem into_num_times : XI 93 68 X_num_times := xi Tryz.f93
theorem into_num_Int_Sub : XI 94 9 X_num_Int_Sub := xi Tryz.f94
theorem into_num_Int_Sign : XI 95 11 X_num_Int_Sign := xi Tryz.f95
theorem into_num_compare : XI 101 41 X_num_compare := xi Tryz.f101
theorem into_num_FromInt : XI 104 6 X_num_FromInt := xi Tryz.f104
theorem into_num_Int_Add : XI 105 42 X_num_Int_Add := xi Tryz.f105
theorem into_num_byWord : XI 107 44 X_num_byWord := xi Tryz.f107
theorem into_num_trim : XI 110 21 X_num_trim := xi Tryz.f110
theorem into_num_Int_Neg : XI 113 9 X_num_Int_Neg := xi Tryz.f113
theorem into_num_plus : XI 116 54 X_num_plus := xi Tryz.f116
theorem into_num_minus : XI 118 41 X_num_minus := xi Tryz.f118
theorem into_bits_Add32 : XI 122 22 X_bits_Add32 := xi Tryz.f122
theorem into_bits_Sub32 : XI 127 25 X_bits_Sub32 := xi Tryz.f127
theorem into_law_ShopPlans : ZI 3 155 Z_law_ShopPlans := zi Tryz.f3 []
theorem into_law_table : ZI 8 25 Z_law_table := zi Tryz.f8 []
theorem into_shop_Bound : ZI 9 6 Z_shop_Bound := zi Tryz.f9 [(6, 74), (7, 80), (9, 80)]
theorem into_shop_Plan : ZI 10 12 Z_shop_Plan := zi Tryz.f10 []
theorem into_ref_Table : ZI 11 51 Z_ref_Table := zi Tryz.f11 []
theorem into_law_lives : ZI 12 57 Z_law_lives := zi Tryz.f12 []
theorem into_ref_Bound : ZI 13 65 Z_ref_Bound := zi Tryz.f13 []
theorem into_ref_Schedule : ZI 14 8 Z_ref_Schedule := zi Tryz.f14 [(8, 93)]
theorem into_law_whole : ZI 15 17 Z_law_whole := zi Tryz.f15 []
theorem into_ref_Does : ZI 16 7 Z_ref_Does := zi Tryz.f16 [(7, 42)]
theorem into_big_CmpQ : ZI 17 2 Z_big_CmpQ := zi Tryz.f17 [(2, 42), (3, 42)]
theorem into_ref_Length : ZI 18 2 Z_ref_Length := zi Tryz.f18 [(2, 42), (3, 42)]
theorem into_big_Whole : ZI 19 2 Z_big_Whole := zi Tryz.f19 [(2, 42)]
theorem into_shop_Does : ZI 20 6 Z_shop_Does := zi Tryz.f20 [(6, 74), (7, 74), (8, 80)]
theorem into_big_Num : ZI 21 1 Z_big_Num := zi Tryz.f21 [(1, 42)]
theorem into_big_Of : ZI 23 2 Z_big_Of := zi Tryz.f23 [(2, 42), (3, 42)]
theorem into_big_Valid : ZI 25 3 Z_big_Valid := zi Tryz.f25 [(3, 42)]
theorem into_big_AddQ : ZI 26 2 Z_big_AddQ := zi Tryz.f26 [(2, 42), (3, 42), (4, 42)]
theorem into_law_cut : ZI 30 13 Z_law_cut := zi Tryz.f30 []
theorem into_shop_read : ZI 32 2 Z_shop_read := zi Tryz.f32 [(2, 74)]
theorem into_shop_table_most : ZI 33 1 Z_shop_table_most := zi Tryz.f33 [(1, 74), (2, 80), (4, 80), (7, 80)]
theorem into_shop_table_turned : ZI 34 1 Z_shop_table_turned := zi Tryz.f34 [(1, 74), (2, 74)]
theorem into_num_Rat_Cmp : ZI 35 2 Z_num_Rat_Cmp := zi Tryz.f35 [(2, 80), (3, 80)]
theorem into_num_Int_Small : ZI 37 1 Z_num_Int_Small := zi Tryz.f37 [(1, 78)]
theorem into_shop_table_schedule : ZI 38 1 Z_shop_table_schedule := zi Tryz.f38 [(1, 74), (6, 113), (9, 93)]
theorem into_ref_Loads : ZI 40 59 Z_ref_Loads := zi Tryz.f40 []
theorem into_big_Sign : ZI 41 1 Z_big_Sign := zi Tryz.f41 [(1, 40)]
theorem into_big_Integer : ZI 42 3 Z_big_Integer := zi Tryz.f42 [(3, 42)]
theorem into_big_Lowest : ZI 43 1 Z_big_Lowest := zi Tryz.f43 [(1, 42), (2, 42), (3, 40), (4, 40), (5, 40), (6, 40), (7, 40)]
theorem into_big_Cmp : ZI 44 2 Z_big_Cmp := zi Tryz.f44 [(2, 40), (3, 40)]
theorem into_big_Mul : ZI 45 2 Z_big_Mul := zi Tryz.f45 [(2, 40), (3, 40), (4, 40)]
theorem into_big_Int : ZI 46 2 Z_big_Int := zi Tryz.f46 [(2, 40), (3, 40)]
theorem into_shop_done : ZI 47 6 Z_shop_done := zi Tryz.f47 [(6, 74), (7, 80), (9, 74), (10, 80), (12, 93), (13, 80)]
theorem into_shop_table_same : ZI 50 2 Z_shop_table_same := zi Tryz.f50 [(2, 74), (3, 74), (8, 80)]
theorem into_num_Rat_Num : ZI 51 1 Z_num_Rat_Num := zi Tryz.f51 [(1, 80)]
theorem into_big_figures : ZI 52 1 Z_big_figures := zi Tryz.f52 [(1, 40)]
theorem into_big_Abs : ZI 53 1 Z_big_Abs := zi Tryz.f53 [(1, 40), (2, 40)]
theorem into_big_Parse : ZI 54 2 Z_big_Parse := zi Tryz.f54 [(2, 42), (8, 40), (10, 40), (11, 40)]
theorem into_big_Add : ZI 56 2 Z_big_Add := zi Tryz.f56 [(2, 40), (3, 40), (4, 40)]
theorem into_shop_table_decompose : ZI 58 1 Z_shop_table_decompose := zi Tryz.f58 [(1, 74), (6, 74), (11, 80), (14, 80)]
theorem into_slices_Repeat_Sint_int : ZI 60 48 Z_slices_Repeat_Sint_int := zi Tryz.f60 []
theorem into_shop_table_load : ZI 65 2 Z_shop_table_load := zi Tryz.f65 [(2, 74), (4, 80), (5, 80), (7, 80)]
theorem into_shop_table_square : ZI 68 1 Z_shop_table_square := zi Tryz.f68 [(1, 74), (2, 74), (5, 74), (6, 80), (8, 80)]
theorem into_big_Gcd : ZI 69 2 Z_big_Gcd := zi Tryz.f69 [(2, 40), (3, 40), (4, 40), (5, 40), (6, 40)]
theorem into_big_DivMod : ZI 70 2 Z_big_DivMod := zi Tryz.f70 [(2, 40), (3, 40), (4, 40), (5, 40), (12, 40), (13, 40)]
theorem into_big_Sub : ZI 71 2 Z_big_Sub := zi Tryz.f71 [(2, 40), (3, 40), (4, 40)]
theorem into_big_lean : ZI 72 1 Z_big_lean := zi Tryz.f72 [(1, 40), (2, 40)]
theorem into_slices_Repeat_SSint_Sint : ZI 73 48 Z_slices_Repeat_SSint_Sint := zi Tryz.f73 []
theorem into_num_Parse : ZI 74 2 Z_num_Parse := zi Tryz.f74 [(2, 80), (13, 80)]
theorem into_slices_Contains_Sint_int : ZI 76 9 Z_slices_Contains_Sint_int := zi Tryz.f76 []
theorem into_num_Rat_Add : ZI 77 2 Z_num_Rat_Add := zi Tryz.f77 [(2, 80), (3, 80), (4, 80)]
theorem into_num_text : ZI 78 45 Z_num_text := zi Tryz.f78 []
theorem into_big_digits : ZI 80 2 Z_big_digits := zi Tryz.f80 [(2, 40), (4, 40)]
theorem into_big_Neg : ZI 81 1 Z_big_Neg := zi Tryz.f81 [(1, 40), (2, 40)]
theorem into_big_plus : ZI 82 55 Z_big_plus := zi Tryz.f82 []
theorem into_big_sizes : ZI 83 41 Z_big_sizes := zi Tryz.f83 []
theorem into_big_less : ZI 84 41 Z_big_less := zi Tryz.f84 []
theorem into_slices_Clone_Snum_Rat_num_Rat : ZI 85 8 Z_slices_Clone_Snum_Rat_num_Rat := zi Tryz.f85 []
theorem into_shop_matching_find : ZI 86 69 Z_shop_matching_find := zi Tryz.f86 []
theorem into_num_Rat_Sub : ZI 87 2 Z_num_Rat_Sub := zi Tryz.f87 [(2, 80), (3, 80), (4, 80)]
theorem into_bits_Mul : ZI 89 30 Z_bits_Mul := zi Tryz.f89 []
theorem into_slices_Repeat_Snum_Rat_num_Rat : ZI 96 48 Z_slices_Repeat_Snum_Rat_num_Rat := zi Tryz.f96 []
theorem into_big_times : ZI 97 12 Z_big_times := zi Tryz.f97 []
theorem into_strings_Cut : ZI 98 13 Z_strings_Cut := zi Tryz.f98 []
theorem into_strings_CutPrefix : ZI 99 11 Z_strings_CutPrefix := zi Tryz.f99 []
theorem into_num_read : ZI 100 77 Z_num_read := zi Tryz.f100 []
theorem into_num_Int_Gcd : ZI 102 2 Z_num_Int_Gcd := zi Tryz.f102 [(2, 78), (3, 78), (4, 78)]
theorem into_slices_Index_Sint_int : ZI 103 19 Z_slices_Index_Sint_int := zi Tryz.f103 []
theorem into_num_Ratio : ZI 106 2 Z_num_Ratio := zi Tryz.f106 [(2, 78), (3, 78), (4, 80), (5, 78), (6, 78), (7, 78), (8, 78), (9, 78)]
theorem into_slices_Reverse_Sbyte_byte : ZI 108 28 Z_slices_Reverse_Sbyte_byte := zi Tryz.f108 []
theorem into_num_Rat_Neg : ZI 109 1 Z_num_Rat_Neg := zi Tryz.f109 [(1, 80), (2, 80)]
theorem into_bits_Mul64 : ZI 112 51 Z_bits_Mul64 := zi Tryz.f112 []
theorem into_stringslite_Cut : ZI 114 23 Z_stringslite_Cut := zi Tryz.f114 []
theorem into_stringslite_CutPrefix : ZI 115 15 Z_stringslite_CutPrefix := zi Tryz.f115 []
theorem into_num_part : ZI 117 85 Z_num_part := zi Tryz.f117 []
theorem into_num_Int_Quo : ZI 119 2 Z_num_Int_Quo := zi Tryz.f119 [(2, 78), (3, 78), (4, 78), (5, 78), (8, 78), (9, 78)]
theorem into_stringslite_Index : ZI 120 143 Z_stringslite_Index := zi Tryz.f120 []
theorem into_stringslite_HasPrefix : ZI 121 18 Z_stringslite_HasPrefix := zi Tryz.f121 []
theorem into_bits_LeadingZeros32 : ZI 123 6 Z_bits_LeadingZeros32 := zi Tryz.f123 []
theorem into_num_up : ZI 124 41 Z_num_up := zi Tryz.f124 []
theorem into_num_digit : ZI 125 162 Z_num_digit := zi Tryz.f125 []
theorem into_num_down : ZI 126 45 Z_num_down := zi Tryz.f126 []
theorem into_stringslite_IndexByte : ZI 128 8 Z_stringslite_IndexByte := zi Tryz.f128 []
theorem into_bits_Len32 : ZI 132 19 Z_bits_Len32 := zi Tryz.f132 []
end Go.Sx
end
