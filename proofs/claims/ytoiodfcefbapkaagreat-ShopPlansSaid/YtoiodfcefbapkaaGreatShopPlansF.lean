/- Part of the proof of ShopPlans. -/
import Derived.Test.YtoiodfcefbapkaaGreatShopPlansE
set_option linter.unusedVariables false
set_option linter.unusedSimpArgs false
section
set_option maxRecDepth 8000
namespace Go.Sx
open Go.Proofs
open Go.Proofs.Tryz (prog)
theorem trim_spec {v : Value} {l : List Nat} {H : SHeap} (hU : Us H 124 v l) (hlen : l.length < 4611686018427387904) : SW prog 110 [v] H (fun v' H1 => H1 = H ∧ ∃ l', Us H 124 v' l' ∧ Trim l' ∧ val l' = val l ∧ l'.length ≤ l.length) := by
  refine SW.cps fun Q hQ => ?_
  apply into_num_trim (by simp)
  simp [X_num_trim]
  refine LoopXt.mk (I := fun n F H1 => H1 = H ∧ ∃ l' k, Us H 124 (F 0) l' ∧ l = l' ++ List.replicate k 0 ∧ n = l'.length) l.length ⟨rfl, l, 0, by simpa [] using hU, by simp, rfl⟩ ?_
  rintro n F H1 ⟨rfl, l', k, hU', hl, rfl⟩ K hK
  have hlen' : l'.length ≤ l.length := by rw [hl]; simp
  have hval : val l' = val l := by rw [hl, val_append, val_zeros]; simp
  obtain ⟨a, cap, hv⟩ := hU'.1.len
  simp [hv]
  refine Brt.mkD (fun hn => ?_) (fun hn => ?_)
  · obtain ⟨b, i, cap', X, all, he, hX, hc, hfit, hget⟩ := hU'.at hn
    rw [hv] at he
    cases he
    have e1 : ((l'.length : Int) - 1).toNat = l'.length - 1 := by omega
    have e2 := take_last l' hn
    simp (disch := omega) [hn, hv, w64]
    refine Chkt.mk ⟨by omega, by omega⟩ ?_
    simp [hX, hc, e1, hget _ (show l'.length - 1 < l'.length by omega)]
    refine Brt.mkD (fun hz => ?_) (fun hz => ?_)
    · simp (disch := omega) [hv, w64]
      refine tx_sl (n := l'.length) (l := 0) (h := l'.length - 1) (e := 124) (sz := 1) (by simpa [hv] using hU'.1) (by simp) (by simp) rfl (by simp [hiOf]; omega) (by omega) (by omega) (fun v' hv' => ?_)
      simp
      refine hK (l'.length - 1) _ _ (by omega) ⟨rfl, l'.take (l'.length - 1), k + 1, ⟨?_, fun x hx => hU'.2 x (List.mem_of_mem_take hx)⟩, ?_, by simp⟩
      · simpa [Nat.min_eq_left, List.map_take] using hv'
      · rw [hl]
        conv => lhs; rw [← e2]
        have : l'[l'.length - 1]?.getD 0 = 0 := by omega
        rw [this, List.replicate_succ, List.append_assoc]
        rfl
    · simp [hv]
      refine hQ _ _ ⟨rfl, l', hv ▸ hU', fun h => hz ?_, hval, hlen'⟩
      rw [List.getLast?_eq_getElem?] at h
      simp [h]
  · simp [hn, hv]
    have : l' = [] := List.eq_nil_of_length_eq_zero (by omega)
    exact hQ _ _ ⟨rfl, l', hv ▸ hU', by simp [this, Trim], hval, hlen'⟩
theorem add32_spec {x y c : Nat} {H : SHeap} (hx : x < 4294967296) (hy : y < 4294967296) (hc : c ≤ 1) : SW prog 122 [.int .u32 x, .int .u32 y, .int .u32 c] H (fun v' H1 => H1 = H ∧ ∃ s d : Nat, v' = .tuple #[.int .u32 s, .int .u32 d] ∧ s < 4294967296 ∧ d ≤ 1 ∧ s + 4294967296 * d = x + y + c) := by
  refine SW.cps fun Q hQ => ?_
  apply into_bits_Add32 (by simp)
  simp (disch := first | omega | (simp <;> fail) | fail) [X_bits_Add32, wu64, wu32m, retOf, fdivp]
  refine hQ _ _ ⟨rfl, (x + y + c) % 4294967296, (x + y + c) / 4294967296, ?_, by omega, by omega, by omega⟩
  simp
  omega
theorem compare_spec {v w : Value} {a b : List Nat} {H : SHeap} (hA : Us H 124 v a) (hB : Us H 124 w b) (hTa : Trim a) (hTb : Trim b) (hla : a.length < 4611686018427387904) (hlb : b.length < 4611686018427387904) :
    SW prog 101 [v, w] H (fun v' H1 => H1 = H ∧ v' = .int .i64 (if val a < val b then -1 else if val b < val a then 1 else 0)) := by
  refine SW.cps fun Q hQ => ?_
  apply into_num_compare (by simp)
  obtain ⟨aa, ac, rfl⟩ := hA.len
  obtain ⟨ba, bc, rfl⟩ := hB.len
  simp (disch := omega) [X_num_compare, w64]
  refine Brt.mkD (fun hn => ?_) (fun hn => ?_)
  · have hlen : a.length = b.length := by omega
    simp (disch := omega) [w64]
    refine LoopXt.mk (I := fun n F H1 => H1 = H ∧ F 0 = .slice aa a.length ac ∧ F 1 = .slice ba b.length bc ∧ F 5 = .int .i64 ((n : Int) - 1) ∧ n ≤ a.length ∧ a.drop n = b.drop n) a.length ⟨rfl, by simp, by simp, by simp, Nat.le_refl _, by rw [List.drop_eq_nil_of_le (by omega), List.drop_eq_nil_of_le (by omega)]⟩ ?_
    rintro n F H1 ⟨rfl, h0, h1, h5, hn', hd⟩ K hK
    simp [h0, h1, h5]
    refine Brt.mkD (fun hp => ?_) (fun hp => ?_)
    · obtain ⟨b1, i1, cap1, X1, all1, he1, hX1, hc1, hfit1, hget1⟩ := hA.at (by omega)
      obtain ⟨b2, i2, cap2, X2, all2, he2, hX2, hc2, hfit2, hget2⟩ := hB.at (by omega)
      cases he1
      cases he2
      have e1 : ((n : Int) - 1).toNat = n - 1 := by omega
      simp [h0, h1, h5]
      refine Chkt.mk ⟨by omega, by omega⟩ ?_
      simp [h0, h1, h5, hX1, hc1, e1, hget1 _ (show n - 1 < a.length by omega)]
      refine Chkt.mk ⟨by omega, by omega⟩ ?_
      simp [h0, h1, h5, hX2, hc2, e1, hget2 _ (show n - 1 < b.length by omega)]
      have ea : a.drop (n - 1) = a[n - 1]?.getD 0 :: a.drop n := by
        rw [List.drop_eq_getElem_cons (by omega), gtE (by omega), Option.getD_some, Nat.sub_add_cancel (by omega)]
      have eb : b.drop (n - 1) = b[n - 1]?.getD 0 :: b.drop n := by
        rw [List.drop_eq_getElem_cons (by omega), gtE (by omega), Option.getD_some, Nat.sub_add_cancel (by omega)]
      refine Brt.mkD (fun hq => ?_) (fun hq => ?_)
      · simp (disch := omega) [h5, w64]
        refine hK (n - 1) _ _ (by omega) ⟨rfl, by simp [h0], by simp [h1], by simp; omega, by omega, ?_⟩
        rw [ea, eb, hd]
        congr 1
        omega
      · have key : ∀ (x y : List Nat), (∀ z ∈ x, z < 4294967296) → (∀ z ∈ y, z < 4294967296) → x.length = y.length → x.drop (n - 1) = x[n - 1]?.getD 0 :: x.drop n → y.drop (n - 1) = y[n - 1]?.getD 0 :: y.drop n → x.drop n = y.drop n → n - 1 < x.length → x[n - 1]?.getD 0 < y[n - 1]?.getD 0 → val x < val y := by
          intro x y hx hy hxy ex ey hxd hlt hxl
          have v1 : val x = val (x.take (n - 1)) + 4294967296 ^ (n - 1) * (x[n - 1]?.getD 0 + 4294967296 * val (x.drop n)) := by
            conv => lhs; rw [← List.take_append_drop (n - 1) x, val_append, ex]
            simp only [val, List.length_take, Nat.min_eq_left (Nat.le_of_lt hlt)]
          have v2 : val y = val (y.take (n - 1)) + 4294967296 ^ (n - 1) * (y[n - 1]?.getD 0 + 4294967296 * val (y.drop n)) := by
            conv => lhs; rw [← List.take_append_drop (n - 1) y, val_append, ey]
            simp only [val, List.length_take, Nat.min_eq_left (show n - 1 ≤ y.length by omega)]
          have v3 : val (x.take (n - 1)) < 4294967296 ^ (n - 1) := by
            have := val_lt (l := x.take (n - 1)) fun z hz => hx z (List.mem_of_mem_take hz)
            rwa [List.length_take, Nat.min_eq_left (Nat.le_of_lt hlt)] at this
          have v4 : 4294967296 ^ (n - 1) * (x[n - 1]?.getD 0 + 4294967296 * val (x.drop n) + 1) ≤ 4294967296 ^ (n - 1) * (y[n - 1]?.getD 0 + 4294967296 * val (y.drop n)) := Nat.mul_le_mul_left _ (by rw [hxd]; omega)
          rw [Nat.mul_add, Nat.mul_one] at v4
          omega
        simp (disch := omega) [h0, h1, h5, w64]
        refine Chkt.mk ⟨by omega, by omega⟩ ?_
        simp [h0, h1, h5, hX1, hc1, e1, hget1 _ (show n - 1 < a.length by omega)]
        refine Chkt.mk ⟨by omega, by omega⟩ ?_
        simp [h0, h1, h5, hX2, hc2, e1, hget2 _ (show n - 1 < b.length by omega)]
        refine Brt.mkD (fun hlt => ?_) (fun hlt => ?_)
        · simp [retOf]
          refine hQ _ _ ⟨rfl, ?_⟩
          rw [if_pos (key a b hA.2 hB.2 hlen ea eb hd (by omega) (by omega))]
        · simp [retOf]
          have := key b a hB.2 hA.2 hlen.symm eb ea hd.symm (by omega) (by omega)
          refine hQ _ _ ⟨rfl, ?_⟩
          rw [if_neg (by omega), if_pos this]
    · have hn0 : n = 0 := by omega
      subst hn0
      simp [retOf]
      have : a = b := by simpa using hd
      exact hQ _ _ ⟨rfl, by rw [this]; simp⟩
  · simp
    refine Brt.mkD (fun hn' => ?_) (fun hn' => ?_)
    · simp [retOf]
      have := hTb.lt_of_length hA.2 (by omega)
      exact hQ _ _ ⟨rfl, by simp [this]⟩
    · simp [retOf]
      have := hTa.lt_of_length hB.2 (by omega)
      exact hQ _ _ ⟨rfl, by rw [if_neg (by omega), if_pos this]⟩
theorem wbv32 (b : BitVec 32) : IntKind.u32.wrap (b.toNat : Int) = b.toNat := wu32 (Int.natCast_nonneg _) (by have := b.isLt; omega)
theorem top_bit {z : Nat} (h : z < 4294967296) : z / 2147483648 = (z.testBit 31).toNat := by
  rw [Nat.testBit_eq_decide_div_mod_eq]
  have : z / 2 ^ 31 = z / 2147483648 := rfl
  rw [this]
  by_cases hz : z < 2147483648
  · rw [Nat.div_eq_of_lt hz]; rfl
  · have : z / 2147483648 = 1 := by omega
    rw [this]; rfl
theorem top_dec {z : Nat} (h : z < 4294967296) : z.testBit 31 = decide (2147483648 ≤ z) := by
  rw [Nat.testBit_eq_decide_div_mod_eq]
  have : z / 2 ^ 31 = z / 2147483648 := rfl
  rw [this]
  by_cases hz : z < 2147483648
  · rw [Nat.div_eq_of_lt hz]; simp; omega
  · have : z / 2147483648 = 1 := by omega
    rw [this]; simp; omega
theorem borrow_bit (x y c : Nat) (hx : x < 4294967296) (hy : y < 4294967296) (hc : c ≤ 1) :
    (((4294967295 ^^^ x) &&& y) ||| ((4294967295 ^^^ (x ^^^ y)) &&& ((x + 8589934592 - y - c) % 4294967296))) / 2147483648 = if x < y + c then 1 else 0 := by
  have hd : (x + 8589934592 - y - c) % 4294967296 < 4294967296 := Nat.mod_lt _ (by decide)
  rw [top_bit]
  · simp only [Nat.testBit_or, Nat.testBit_and, Nat.testBit_xor, top_dec hx, top_dec hy, top_dec hd, show Nat.testBit 4294967295 31 = true from by decide]
    by_cases h1 : 2147483648 ≤ x <;> by_cases h2 : 2147483648 ≤ y <;> by_cases h3 : x < y + c <;> simp [h1, h2, h3] <;> omega
  · exact Nat.or_lt_two_pow (n := 32) (Nat.and_lt_two_pow _ hy) (Nat.and_lt_two_pow _ hd)
theorem sub32_spec {x y c : Nat} {H : SHeap} (hx : x < 4294967296) (hy : y < 4294967296) (hc : c ≤ 1) : SW prog 127 [.int .u32 x, .int .u32 y, .int .u32 c] H (fun v' H1 => H1 = H ∧ ∃ s d : Nat, v' = .tuple #[.int .u32 s, .int .u32 d] ∧ s < 4294967296 ∧ d ≤ 1 ∧ x + 4294967296 * d = s + y + c) := by
  refine SW.cps fun Q hQ => ?_
  apply into_bits_Sub32 (by simp)
  obtain ⟨d, hd⟩ : ∃ d : Nat, d = (x + 8589934592 - y - c) % 4294967296 := ⟨_, rfl⟩
  have e1 : IntKind.u32.wrap (IntKind.u32.wrap ((x : Int) - y) - c) = (d : Int) := by
    rw [wu32m, wu32m]
    omega
  have e2 : IntKind.u32.max = 4294967295 := rfl
  have hd' : d < 4294967296 := by omega
  simp (disch := first | omega | (simp <;> fail) | fail) [X_bits_Sub32, retOf, fdivp, e1, e2, wbv32]
  refine hQ _ _ ⟨rfl, d, if x < y + c then 1 else 0, ?_, hd', by split <;> omega, by split <;> omega⟩
  have hb := borrow_bit x y c hx hy hc
  rw [← hd] at hb
  have hn : ((4294967295#32 ^^^ BitVec.ofNat 32 x) &&& BitVec.ofNat 32 y ||| (4294967295#32 ^^^ (BitVec.ofNat 32 x ^^^ BitVec.ofNat 32 y)) &&& BitVec.ofNat 32 d).toNat = ((4294967295 ^^^ x) &&& y ||| (4294967295 ^^^ (x ^^^ y)) &&& d) := by
    rw [BitVec.toNat_or, BitVec.toNat_and, BitVec.toNat_and, BitVec.toNat_xor, BitVec.toNat_xor, BitVec.toNat_xor, BitVec.toNat_ofNat, BitVec.toNat_ofNat, BitVec.toNat_ofNat, BitVec.toNat_ofNat, Nat.mod_eq_of_lt hx, Nat.mod_eq_of_lt hy, Nat.mod_eq_of_lt hd']
  show Value.tuple #[.int .u32 d, .int .u32 ((((4294967295#32 ^^^ BitVec.ofNat 32 x) &&& BitVec.ofNat 32 y ||| (4294967295#32 ^^^ (BitVec.ofNat 32 x ^^^ BitVec.ofNat 32 y)) &&& BitVec.ofNat 32 d).toNat : Int) / 2147483648)] = _
  rw [hn]
  have : (((4294967295 ^^^ x) &&& y ||| (4294967295 ^^^ (x ^^^ y)) &&& d : Nat) : Int) / 2147483648 = ((((4294967295 ^^^ x) &&& y ||| (4294967295 ^^^ (x ^^^ y)) &&& d) / 2147483648 : Nat) : Int) := by simp
  rw [this, hb]
theorem made_u32 (n : Nat) : made (.int .u32 0) n = (List.replicate n 0).map fun (x : Nat) => Value.int .u32 (x : Int) := by
  unfold made
  apply List.ext_getElem (by simp)
  intro i h1 h2
  simp [Value.cells, Nat.mod_one]
@[simp] theorem cells_int (k : IntKind) (n : Int) : (Value.int k n).cells = #[.int k n] := rfl
@[simp] theorem one_int (k : IntKind) (n : Int) : (Value.int k n).oneCell' = true := rfl
@[simp] theorem wrc_one (cs : List Value) (i : Nat) (v : Value) : wrc cs i [v] = cs.set i v := rfl
@[simp] theorem last_get (H : SHeap) (X : SObj) : (H ++ [X])[H.length]? = some X := by simp
@[simp] theorem bind_cells (e : TypeId) (l : Bool) (cs : List Value) : (some (SObj.own e l cs)).bind SObj.cells? = some cs := rfl
@[simp] theorem cells_own (e : TypeId) (l : Bool) (cs : List Value) : (SObj.own e l cs).cells? = some cs := rfl
@[simp] theorem cells_ro (e : TypeId) (cs : List Value) : (SObj.ro e cs).cells? = some cs := rfl
theorem old_get {H : SHeap} {b : Nat} {X : SObj} (h : H[b]? = some X) (N : SHeap) : (H ++ N)[b]? = some X := by
  rw [List.getElem?_append_left (gsI.1 h).1]; exact h
theorem Us.fresh (H : SHeap) (e : Nat) (l : List Nat) (n c : Nat) (hn : n ≤ c) (hl : l.length = c) (hlt : ∀ x ∈ l, x < 4294967296) (b : Bool) : Us (H ++ [.own e b (l.map fun (x : Nat) => Value.int .u32 (x : Int))]) e (.slice (some ⟨H.length, 0, none⟩) n c) (l.take n) := by
  refine ⟨⟨_, c, by simp [hl, Nat.min_eq_left hn], by simp [hl, Nat.min_eq_left hn]; omega, by simp, fun hc => ⟨H.length, 0, _, _, rfl, last_get H _, rfl, rfl, by simp [hl]; omega, by simp [hl, Nat.min_eq_left hn, List.map_take]⟩⟩, fun x hx => hlt x (List.mem_of_mem_take hx)⟩
theorem val_set (l : List Nat) (i x : Nat) (hi : i < l.length) : val ((l.set i x).take (i + 1)) = val (l.take i) + 4294967296 ^ i * x := by
  rw [List.take_set, List.take_succ_eq_append_getElem hi, List.set_append_right _ _ (by simp; omega)]
  simp [Nat.min_eq_left (Nat.le_of_lt hi), val_append, val]
theorem val_take_succ (l : List Nat) (i : Nat) : val (l.take (i + 1)) = val (l.take i) + 4294967296 ^ i * (l[i]?.getD 0) := by
  by_cases hi : i < l.length
  · rw [List.take_succ_eq_append_getElem hi, val_append, gtE hi]
    simp [val, Nat.min_eq_left (Nat.le_of_lt hi)]
  · rw [List.take_of_length_le (by omega), List.take_of_length_le (by omega), List.getElem?_eq_none (by omega)]
    simp
theorem getD_lt {l : List Nat} {m : Nat} (hm : 0 < m) (h : ∀ x ∈ l, x < m) (k : Nat) : l[k]?.getD 0 < m := by
  by_cases hk : k < l.length
  · rw [gtE hk]; exact h _ (List.getElem_mem hk)
  · rw [List.getElem?_eq_none (by omega)]; exact hm
theorem plus_spec {v w : Value} {a b : List Nat} {H : SHeap} (hA : Us H 124 v a) (hB : Us H 124 w b) (hla : a.length < 1048576) (hlb : b.length < 1048576) :
    SW prog 116 [v, w] H (fun v' H1 => Ext H H1 ∧ ∃ l, Us H1 124 v' l ∧ Trim l ∧ val l = val a + val b) := by
  refine SW.cps fun Q hQ => ?_
  apply into_num_plus (by simp)
  obtain ⟨aa, ac, rfl⟩ := hA.len
  obtain ⟨ba, bc, rfl⟩ := hB.len
  simp only [X_num_plus]
  rw [txx_seq]
  simp [-txx_seq]
  rw [txx_seq]
  refine XXt.cut (fun F1 H1 => H = H1 ∧ ∃ x y xc yc la lb, F1 0 = .slice x la.length xc ∧ F1 1 = .slice y lb.length yc ∧ Us H 124 (.slice x la.length xc) la ∧ Us H 124 (.slice y lb.length yc) lb ∧ lb.length ≤ la.length ∧ la.length < 1048576 ∧ val la + val lb = val a + val b) ?_ ?_
  · intro K hK
    simp (disch := omega) [w64]
    refine Brt.mkD (fun hl => ?_) (fun hl => ?_)
    · simp
      exact hK _ _ ⟨rfl, _, _, _, _, b, a, by simp, by simp, hB, hA, by omega, hlb, by omega⟩
    · simp
      exact hK _ _ ⟨rfl, _, _, _, _, a, b, by simp, by simp, hA, hB, by omega, hla, by omega⟩
  · rintro F H1 ⟨rfl, x, y, xc, yc, la, lb, h0, h1, hX, hY, hle, hlt, hval⟩
    rw [txx_seq]
    simp (disch := omega) [h0, h1, w64, -txx_seq]
    refine tx_ms (e := 124) (sz := 1) (by_ := 4) (kl := .i64) (kc := .i64) (l := la.length + 1) (c := la.length + 1) (z := .int .u32 0) (by simp) (by simp) (by simp) (by simp) (by rfl) (by rfl) (by simp) (by simp) (by omega) (by omega) (Nat.le_refl _) (by omega) (by omega) ?_
    simp [-txx_seq, made_u32]
    rw [txx_seq]
    simp [-txx_seq]
    rw [txx_seq]
    refine XXt.cut (fun F1 H1 => F1 0 = .slice x la.length xc ∧ F1 5 = .slice (some ⟨H.length, 0, none⟩) (la.length + 1) (la.length + 1) ∧ ∃ (out : List Nat) (c : Nat), H1 = H ++ [.own 124 false (out.map fun (x : Nat) => Value.int .u32 (x : Int))] ∧ F1 6 = .int .u32 c ∧ c ≤ 1 ∧ out.length = la.length + 1 ∧ (∀ x ∈ out, x < 4294967296) ∧ val (out.take la.length) + 4294967296 ^ la.length * c = val la + val lb) ?_ ?_
    · intro K hK
      simp (disch := omega) [h0, h1, w64]
      refine LoopXt.mk (I := fun n F1 H1 => ∃ i : Nat, n = la.length - i ∧ i ≤ la.length ∧ F1 0 = .slice x la.length xc ∧ F1 1 = .slice y lb.length yc ∧ F1 21 = .int .i64 la.length ∧ F1 22 = .int .i64 i ∧ F1 5 = .slice (some ⟨H.length, 0, none⟩) (la.length + 1) (la.length + 1) ∧ ∃ (out : List Nat) (c : Nat), H1 = H ++ [.own 124 false (out.map fun (x : Nat) => Value.int .u32 (x : Int))] ∧ F1 6 = .int .u32 c ∧ c ≤ 1 ∧ out.length = la.length + 1 ∧ (∀ x ∈ out, x < 4294967296) ∧ val (out.take i) + 4294967296 ^ i * c = val (la.take i) + val (lb.take i)) la.length ?_ ?_
      · refine ⟨0, by omega, by omega, by simp [h0], by simp [h1], by simp, by simp, by simp, List.replicate (la.length + 1) 0, 0, by simp, by simp, by omega, by simp, by simp, by simp [val]⟩
      · rintro n F1 H1 ⟨i, rfl, hi, g0, g1, g21, g22, g5, out, c, rfl, g6, hc, hol, holt, hv⟩ K' hK'
        simp [g21, g22]
        refine Brt.mkD (fun hlt' => ?_) (fun hlt' => ?_)
        · simp [g0, g1, g5, g6, g22, -txx_seq]
          obtain ⟨b1, i1, cap1, X1, all1, he1, hX1, hc1, hfit1, hget1⟩ := hX.at (by omega)
          cases he1
          have hX1' := old_get hX1 [.own 124 false (out.map fun (x : Nat) => Value.int .u32 (x : Int))]
          rw [txx_seq, txx_block, txx_seq]
          simp [g0, g1, g5, g6, g22, -txx_seq]
          rw [txx_seq]
          simp [g0, g1, g5, g6, g22, -txx_seq]
          rw [txx_seq]
          refine XXt.cut (fun F2 H2 => H ++ [.own 124 false (out.map fun (x : Nat) => Value.int .u32 (x : Int))] = H2 ∧ F2 0 = F1 0 ∧ F2 1 = F1 1 ∧ F2 5 = F1 5 ∧ F2 6 = F1 6 ∧ F2 7 = .int .i64 i ∧ F2 21 = F1 21 ∧ F2 22 = F1 22 ∧ F2 8 = .int .u32 (lb[i]?.getD 0 : Nat)) ?_ ?_
          · intro K2 hK2
            simp [g1]
            refine Brt.mkD (fun hib => ?_) (fun hib => ?_)
            · obtain ⟨b2, i2, cap2, X2, all2, he2, hX2, hc2, hfit2, hget2⟩ := hY.at (by omega)
              cases he2
              have hX2' := old_get hX2 [.own 124 false (out.map fun (x : Nat) => Value.int .u32 (x : Int))]
              simp [g1]
              refine Chkt.mk (by omega) ?_
              simp [g1, hX2', hc2, hget2 _ hib]
              exact hK2 _ _ ⟨rfl, by simp, by simp [g1], by simp, by simp, by simp, by simp, by simp, by simp⟩
            · simp [g1]
              exact hK2 _ _ ⟨rfl, by simp, by simp [g1], by simp, by simp, by simp, by simp, by simp, by rw [List.getElem?_eq_none (by omega)]; simp⟩
          · rintro F2 H2 ⟨rfl, f0, f1, f5, f6, f7, f21, f22, f8⟩
            simp [f0, f1, f5, f6, f7, f8, g0, g1, g5, g6]
            refine Chkt.mk (by omega) ?_
            simp [f0, f1, f5, f6, f7, f8, g0, g1, g5, g6, hX1', hc1, hget1 _ hlt']
            refine SWt.mk (add32_spec (hX.lt i) (hY.lt i) hc) ?_
            rintro v H3 ⟨rfl, s, d, rfl, hs, hd, hsd⟩
            simp [f0, f1, f5, f6, f7, f8, f22, g0, g1, g5, g6, g22]
            refine Chkt.mk (by omega) ?_
            simp (disch := omega) [f0, f1, f5, f6, f7, f8, f22, g0, g1, g5, g6, g22, w64]
            refine Chkt.mk (by omega) ?_
            simp (disch := omega) [f0, f1, f5, f6, f7, f8, f22, g0, g1, g5, g6, g22, w64]
            refine hK' (la.length - (i + 1)) _ _ (by omega) ⟨i + 1, by omega, by omega, by simp [f0, g0], by simp [f1, g1], by simp [f21, g21], by simp, by simp [f5, g5], out.set i s, d, by simp [List.map_set], by simp, hd, by simp [hol], ?_, ?_⟩
            · intro z hz
              rcases List.mem_or_eq_of_mem_set hz with hz | rfl
              · exact holt z hz
              · exact hs
            · rw [val_set _ _ _ (by omega), val_take_succ la, val_take_succ lb, Nat.pow_succ]
              have : 4294967296 ^ i * (s + 4294967296 * d) = 4294967296 ^ i * (la[i]?.getD 0 + lb[i]?.getD 0 + c) := by rw [hsd]
              grind
        · simp
          have : i = la.length := by omega
          subst this
          refine hK _ _ ⟨by simp [g0], by simp [g5], out, c, rfl, by simp [g6], hc, hol, holt, ?_⟩
          rw [hv, List.take_length, List.take_of_length_le hle]
    · rintro F1 H1 ⟨g0, g5, out, c, rfl, g6, hc, hol, holt, hv⟩
      rw [txx_seq]
      simp [g0, g5, g6, -txx_seq]
      refine Chkt.mk (by omega) ?_
      simp [g0, g5, g6, -txx_seq]
      refine Chkt.mk (by omega) ?_
      rw [txx_seq]
      have hset : (List.map (fun (x : Nat) => Value.int .u32 (x : Int)) out).set la.length (.int .u32 (c : Int)) = (out.set la.length c).map fun (x : Nat) => Value.int .u32 (x : Int) := by simp [List.map_set]
      simp [g0, g5, g6, -txx_seq, hset, -List.map_set]
      have hlt2 : ∀ z ∈ out.set la.length c, z < 4294967296 := fun z hz => by
        rcases List.mem_or_eq_of_mem_set hz with hz | rfl
        · exact holt z hz
        · omega
      have hU := Us.fresh H 124 (out.set la.length c) (la.length + 1) (la.length + 1) (Nat.le_refl _) (by simp [hol]) hlt2 false
      refine SWt.mk (trim_spec hU (by simp [hol]; omega)) ?_
      rintro v H1 ⟨rfl, l', hl', hT, hv', -⟩
      simp [retOf, -List.map_set]
      refine hQ _ _ ⟨(Ext.refl H).snoc _ _ _, l', hl', hT, ?_⟩
      rw [hv', val_set _ _ _ (by omega), hv, hval]
theorem minus_spec {v w : Value} {a b : List Nat} {H : SHeap} (hA : Us H 124 v a) (hB : Us H 124 w b) (hla : a.length < 1048576) (hle : b.length ≤ a.length) (hval : val b ≤ val a) :
    SW prog 118 [v, w] H (fun v' H1 => Ext H H1 ∧ ∃ l, Us H1 124 v' l ∧ Trim l ∧ val l = val a - val b) := by
  refine SW.cps fun Q hQ => ?_
  apply into_num_minus (by simp)
  obtain ⟨x, xc, rfl⟩ := hA.len
  obtain ⟨y, yc, rfl⟩ := hB.len
  by_cases h00 : a.length = 0
  · have ha0 : a = [] := List.eq_nil_of_length_eq_zero h00
    have hb0 : b = [] := List.eq_nil_of_length_eq_zero (by omega)
    subst ha0 hb0
    simp only [X_num_minus]
    rw [txx_seq]
    simp [-txx_seq]
    rw [txx_seq]
    simp [-txx_seq]
    refine tx_ms0 (e := 124) (sz := 1) (by_ := 4) (kl := .i64) (kc := .i64) (by simp) (by simp) (by simp) (by simp) (by simp) ?_
    simp
    refine LoopXt.mk (I := fun n F1 H1 => H = H1 ∧ F1 13 = .int .i64 0 ∧ F1 14 = .int .i64 0 ∧ F1 5 = .slice (some ⟨0, 0, none⟩) 0 0) 0 ⟨rfl, by simp, by simp, by simp⟩ ?_
    rintro n F1 H1 ⟨rfl, g13, g14, g5⟩ K hK
    simp [g13, g14, g5]
    refine SWt.mk (trim_spec (l := []) ⟨Sl.void H _ _ _, by simp⟩ (by simp)) ?_
    rintro v H1 ⟨rfl, l', hl', hT, hv', -⟩
    simp [retOf]
    exact hQ _ _ ⟨Ext.refl _, l', hl', hT, by simpa [val] using hv'⟩
  simp only [X_num_minus]
  rw [txx_seq]
  simp [-txx_seq]
  rw [txx_seq]
  simp (disch := omega) [w64, -txx_seq]
  refine tx_ms (e := 124) (sz := 1) (by_ := 4) (kl := .i64) (kc := .i64) (l := a.length) (c := a.length) (z := .int .u32 0) (by simp) (by simp) (by simp) (by simp) (by rfl) (by rfl) (by simp) (by simp) (by omega) (by omega) (Nat.le_refl _) (by omega) (by omega) ?_
  simp [-txx_seq, made_u32]
  rw [txx_seq]
  simp [-txx_seq]
  rw [txx_seq]
  refine XXt.cut (fun F1 H1 => F1 5 = .slice (some ⟨H.length, 0, none⟩) a.length a.length ∧ ∃ (out : List Nat) (c : Nat), H1 = H ++ [.own 124 false (out.map fun (x : Nat) => Value.int .u32 (x : Int))] ∧ out.length = a.length ∧ (∀ x ∈ out, x < 4294967296) ∧ val a + 4294967296 ^ a.length * c = val out + val b) ?_ ?_
  · intro K hK
    simp (disch := omega) [w64]
    refine LoopXt.mk (I := fun n F1 H1 => ∃ i : Nat, n = a.length - i ∧ i ≤ a.length ∧ F1 0 = .slice x a.length xc ∧ F1 1 = .slice y b.length yc ∧ F1 13 = .int .i64 a.length ∧ F1 14 = .int .i64 i ∧ F1 5 = .slice (some ⟨H.length, 0, none⟩) a.length a.length ∧ ∃ (out : List Nat) (c : Nat), H1 = H ++ [.own 124 false (out.map fun (x : Nat) => Value.int .u32 (x : Int))] ∧ F1 6 = .int .u32 c ∧ c ≤ 1 ∧ out.length = a.length ∧ (∀ x ∈ out, x < 4294967296) ∧ val (a.take i) + 4294967296 ^ i * c = val (out.take i) + val (b.take i)) a.length ?_ ?_
    · refine ⟨0, by omega, by omega, by simp, by simp, by simp, by simp, by simp, List.replicate a.length 0, 0, by simp, by simp, by omega, by simp, by simp, by simp [val]⟩
    · rintro n F1 H1 ⟨i, rfl, hi, g0, g1, g21, g22, g5, out, c, rfl, g6, hc, hol, holt, hv⟩ K' hK'
      simp [g21, g22]
      refine Brt.mkD (fun hlt' => ?_) (fun hlt' => ?_)
      · simp [g0, g1, g5, g6, g22, -txx_seq]
        obtain ⟨b1, i1, cap1, X1, all1, he1, hX1, hc1, hfit1, hget1⟩ := hA.at (by omega)
        cases he1
        have hX1' := old_get hX1 [.own 124 false (out.map fun (x : Nat) => Value.int .u32 (x : Int))]
        rw [txx_seq, txx_block, txx_seq]
        simp [g0, g1, g5, g6, g22, -txx_seq]
        rw [txx_seq]
        simp [g0, g1, g5, g6, g22, -txx_seq]
        rw [txx_seq]
        refine XXt.cut (fun F2 H2 => H ++ [.own 124 false (out.map fun (x : Nat) => Value.int .u32 (x : Int))] = H2 ∧ F2 0 = F1 0 ∧ F2 1 = F1 1 ∧ F2 5 = F1 5 ∧ F2 6 = F1 6 ∧ F2 7 = .int .i64 i ∧ F2 13 = F1 13 ∧ F2 14 = F1 14 ∧ F2 8 = .int .u32 (b[i]?.getD 0 : Nat)) ?_ ?_
        · intro K2 hK2
          simp [g1]
          refine Brt.mkD (fun hib => ?_) (fun hib => ?_)
          · obtain ⟨b2, i2, cap2, X2, all2, he2, hX2, hc2, hfit2, hget2⟩ := hB.at (by omega)
            cases he2
            have hX2' := old_get hX2 [.own 124 false (out.map fun (x : Nat) => Value.int .u32 (x : Int))]
            simp [g1]
            refine Chkt.mk (by omega) ?_
            simp [g1, hX2', hc2, hget2 _ hib]
            exact hK2 _ _ ⟨rfl, by simp, by simp [g1], by simp, by simp, by simp, by simp, by simp, by simp⟩
          · simp [g1]
            exact hK2 _ _ ⟨rfl, by simp, by simp [g1], by simp, by simp, by simp, by simp, by simp, by rw [List.getElem?_eq_none (by omega)]; simp⟩
        · rintro F2 H2 ⟨rfl, f0, f1, f5, f6, f7, f21, f22, f8⟩
          simp [f0, f1, f5, f6, f7, f8, g0, g1, g5, g6]
          refine Chkt.mk (by omega) ?_
          simp [f0, f1, f5, f6, f7, f8, g0, g1, g5, g6, hX1', hc1, hget1 _ hlt']
          refine SWt.mk (sub32_spec (hA.lt i) (hB.lt i) hc) ?_
          rintro v H3 ⟨rfl, s, d, rfl, hs, hd, hsd⟩
          simp [f0, f1, f5, f6, f7, f8, f22, g0, g1, g5, g6, g22]
          refine Chkt.mk (by omega) ?_
          simp (disch := omega) [f0, f1, f5, f6, f7, f8, f22, g0, g1, g5, g6, g22, w64]
          refine Chkt.mk (by omega) ?_
          simp (disch := omega) [f0, f1, f5, f6, f7, f8, f22, g0, g1, g5, g6, g22, w64]
          refine hK' (a.length - (i + 1)) _ _ (by omega) ⟨i + 1, by omega, by omega, by simp [f0, g0], by simp [f1, g1], by simp [f21, g21], by simp, by simp [f5, g5], out.set i s, d, by simp [List.map_set], by simp, hd, by simp [hol], ?_, ?_⟩
          · intro z hz
            rcases List.mem_or_eq_of_mem_set hz with hz | rfl
            · exact holt z hz
            · exact hs
          · rw [val_set _ _ _ (by omega), val_take_succ a, val_take_succ b, Nat.pow_succ]
            have : 4294967296 ^ i * (a[i]?.getD 0 + 4294967296 * d) = 4294967296 ^ i * (s + b[i]?.getD 0 + c) := by rw [hsd]
            grind
      · simp
        have : i = a.length := by omega
        subst this
        refine hK _ _ ⟨by simp [g5], out, c, rfl, hol, holt, ?_⟩
        rw [List.take_length, List.take_of_length_le hle, ← hol, List.take_length] at hv
        rw [← hol]
        exact hv
  · rintro F1 H1 ⟨g5, out, c, rfl, hol, holt, hv⟩
    have hout := val_lt holt
    have hc0 : c = 0 := by
      rcases Nat.eq_zero_or_pos c with h | h
      · exact h
      · have : 4294967296 ^ a.length * 1 ≤ 4294967296 ^ a.length * c := Nat.mul_le_mul_left _ h
        rw [hol] at hout
        omega
    subst hc0
    rw [txx_seq]
    simp [g5, -txx_seq]
    have hU := Us.fresh H 124 out a.length a.length (Nat.le_refl _) hol holt false
    refine SWt.mk (trim_spec hU (by simp [hol]; omega)) ?_
    rintro v H1 ⟨rfl, l', hl', hT, hv', -⟩
    simp [retOf]
    refine hQ _ _ ⟨(Ext.refl H).snoc _ _ _, l', hl', hT, ?_⟩
    rw [hv', ← hol, List.take_length]
    omega
theorem val_set_full (l : List Nat) (i x : Nat) (hi : i < l.length) : val (l.set i x) + 4294967296 ^ i * (l[i]?.getD 0) = val l + 4294967296 ^ i * x := by
  induction l generalizing i with
  | nil => simp at hi
  | cons y l ih =>
    cases i with
    | zero => simp [val]; omega
    | succ i =>
      simp only [List.set_cons_succ, val, List.getElem?_cons_succ, Nat.pow_succ]
      have := ih i (by simpa using hi)
      grind
theorem mul_wrap {p q : Nat} (hp : p < 4294967296) (hq : q < 4294967296) : IntKind.u64.wrap ((p : Int) * q) = ((p * q : Nat) : Int) := by
  have hpq : p * q ≤ 4294967295 * 4294967295 := Nat.mul_le_mul (by omega) (by omega)
  have h1 : (p : Int) * q = ((p * q : Nat) : Int) := by simp
  rw [h1]
  exact wu64 (Int.natCast_nonneg _) (by omega)
theorem get_set_ne {l : List Nat} {i j x : Nat} (h : i ≠ j) : (l.set i x)[j]?.getD 0 = l[j]?.getD 0 := by rw [List.getElem?_set_ne h]
theorem times_spec {v w : Value} {a b : List Nat} {H : SHeap} (hA : Us H 124 v a) (hB : Us H 124 w b) (hla : a.length < 1048576) (hlb : b.length < 1048576) :
    SW prog 93 [v, w] H (fun v' H1 => Ext H H1 ∧ ∃ l, Us H1 124 v' l ∧ Trim l ∧ val l = val a * val b) := by
  refine SW.cps fun Q hQ => ?_
  apply into_num_times (by simp)
  obtain ⟨x, xc, rfl⟩ := hA.len
  obtain ⟨y, yc, rfl⟩ := hB.len
  by_cases h00 : a.length + b.length = 0
  · have ha0 : a = [] := List.eq_nil_of_length_eq_zero (by omega)
    have hb0 : b = [] := List.eq_nil_of_length_eq_zero (by omega)
    subst ha0 hb0
    simp only [X_num_times]
    rw [txx_seq]
    simp [-txx_seq]
    rw [txx_seq]
    simp (disch := omega) [-txx_seq, w64]
    refine tx_ms0 (e := 124) (sz := 1) (by_ := 4) (kl := .i64) (kc := .i64) (by simp) (by simp) (by simp) (by simp) (by simp) ?_
    simp
    refine LoopXt.mk (I := fun n F1 H1 => H = H1 ∧ F1 19 = .int .i64 0 ∧ F1 20 = .int .i64 0 ∧ F1 5 = .slice (some ⟨0, 0, none⟩) 0 0) 0 ⟨rfl, by simp, by simp, by simp⟩ ?_
    rintro n F1 H1 ⟨rfl, g13, g14, g5⟩ K hK
    simp [g13, g14, g5]
    refine SWt.mk (trim_spec (l := []) ⟨Sl.void H _ _ _, by simp⟩ (by simp)) ?_
    rintro v H1 ⟨rfl, l', hl', hT, hv', -⟩
    simp [retOf]
    exact hQ _ _ ⟨Ext.refl _, l', hl', hT, by simpa [val] using hv'⟩
  simp only [X_num_times]
  rw [txx_seq]
  simp [-txx_seq]
  rw [txx_seq]
  simp (disch := omega) [w64, -txx_seq]
  refine tx_ms (e := 124) (sz := 1) (by_ := 4) (kl := .i64) (kc := .i64) (l := a.length + b.length) (c := a.length + b.length) (z := .int .u32 0) (by simp) (by simp) (by simp) (by simp) (by rfl) (by rfl) (by simp) (by simp) (by omega) (by omega) (Nat.le_refl _) (by omega) (by omega) ?_
  simp [-txx_seq, made_u32]
  rw [txx_seq]
  refine XXt.cut (fun F1 H1 => F1 5 = .slice (some ⟨H.length, 0, none⟩) (a.length + b.length) (a.length + b.length) ∧ ∃ (out : List Nat), H1 = H ++ [.own 124 false (out.map fun (x : Nat) => Value.int .u32 (x : Int))] ∧ out.length = a.length + b.length ∧ (∀ x ∈ out, x < 4294967296) ∧ val out = val a * val b) ?_ ?_
  · intro K hK
    simp (disch := omega) [w64]
    refine LoopXt.mk (I := fun n F1 H1 => ∃ i : Nat, n = a.length - i ∧ i ≤ a.length ∧ F1 18 = .slice x a.length xc ∧ F1 1 = .slice y b.length yc ∧ F1 19 = .int .i64 a.length ∧ F1 20 = .int .i64 i ∧ F1 5 = .slice (some ⟨H.length, 0, none⟩) (a.length + b.length) (a.length + b.length) ∧ ∃ (out : List Nat), H1 = H ++ [.own 124 false (out.map fun (x : Nat) => Value.int .u32 (x : Int))] ∧ out.length = a.length + b.length ∧ (∀ x ∈ out, x < 4294967296) ∧ (∀ k, i + b.length ≤ k → out[k]?.getD 0 = 0) ∧ val out = val (a.take i) * val b) a.length ?_ ?_
    · refine ⟨0, by omega, by omega, by simp, by simp, by simp, by simp, by simp, List.replicate (a.length + b.length) 0, by simp, by simp, by simp, ?_, by simp [val, val_zeros]⟩
      intro k hk
      rw [List.getElem?_replicate]
      split <;> rfl
    · rintro n F1 H1 ⟨i, rfl, hi, g0, g1, g21, g22, g5, out, rfl, hol, holt, hz, hv⟩ K' hK'
      simp [g21, g22]
      refine Brt.mkD (fun hlt' => ?_) (fun hlt' => ?_)
      · simp [g0, g1, g5, g22, -txx_seq]
        obtain ⟨b1, i1, cap1, X1, all1, he1, hX1, hc1, -, hget1⟩ := hA.at (by omega)
        cases he1
        have hX1' := old_get hX1 [.own 124 false (out.map fun (x : Nat) => Value.int .u32 (x : Int))]
        obtain ⟨p, hp⟩ : ∃ p, a[i]?.getD 0 = p := ⟨_, rfl⟩
        have hpl : p < 4294967296 := hp ▸ hA.lt i
        have hgi := hget1 _ hlt'
        rw [hp] at hgi
        rw [txx_seq, txx_block, txx_seq]
        simp [g0, g1, g5, g22, -txx_seq]
        refine Chkt.mk (by omega) ?_
        simp [g0, g1, g5, g22, -txx_seq, hX1', hc1, hgi]
        rw [txx_seq]
        simp [-txx_seq]
        rw [txx_seq]
        refine XXt.cut (fun F2 H2 => F2 18 = F1 18 ∧ F2 1 = F1 1 ∧ F2 19 = F1 19 ∧ F2 20 = F1 20 ∧ F2 5 = F1 5 ∧ F2 6 = .int .i64 i ∧ ∃ (out' : List Nat) (c : Nat), H2 = H ++ [.own 124 false (out'.map fun (x : Nat) => Value.int .u32 (x : Int))] ∧ F2 8 = .int .u64 c ∧ c < 4294967296 ∧ out'.length = a.length + b.length ∧ (∀ x ∈ out', x < 4294967296) ∧ (∀ k, i + b.length ≤ k → out'[k]?.getD 0 = 0) ∧ val out' + 4294967296 ^ (i + b.length) * c = val (a.take i) * val b + 4294967296 ^ i * (p * val b)) ?_ ?_
        · intro K2 hK2
          rw [txx_seq]
          simp [g1]
          refine LoopXt.mk (I := fun n F2 H2 => ∃ j : Nat, n = b.length - j ∧ j ≤ b.length ∧ F2 18 = F1 18 ∧ F2 1 = F1 1 ∧ F2 25 = F1 1 ∧ F2 26 = .int .i64 b.length ∧ F2 27 = .int .i64 j ∧ F2 7 = .int .u32 p ∧ F2 19 = F1 19 ∧ F2 20 = F1 20 ∧ F2 5 = F1 5 ∧ F2 6 = .int .i64 i ∧ ∃ (out' : List Nat) (c : Nat), H2 = H ++ [.own 124 false (out'.map fun (x : Nat) => Value.int .u32 (x : Int))] ∧ F2 8 = .int .u64 c ∧ c < 4294967296 ∧ out'.length = a.length + b.length ∧ (∀ x ∈ out', x < 4294967296) ∧ (∀ k, i + b.length ≤ k → out'[k]?.getD 0 = 0) ∧ val out' + 4294967296 ^ (i + j) * c = val (a.take i) * val b + 4294967296 ^ i * (p * val (b.take j))) b.length ?_ ?_
          · exact ⟨0, by omega, by omega, by simp, by simp [g1], by simp [g1], by simp, by simp, by simp, by simp, by simp, by simp, by simp, out, 0, by simp, by simp, by omega, hol, holt, hz, by simp [val, hv]⟩
          · rintro n F2 H2 ⟨j, rfl, hj, f18, f1, f25, f26, f27, f7, f19, f20, f5, f6, out', c, rfl, f8, hc, hol', holt', hz', hv'⟩ K3 hK3
            simp [f26, f27]
            refine Brt.mkD (fun hlt2 => ?_) (fun hlt2 => ?_)
            · obtain ⟨b2, i2, cap2, X2, all2, he2, hX2, hc2, -, hget2⟩ := hB.at (by omega)
              cases he2
              have hX2' := old_get hX2 [.own 124 false (out'.map fun (x : Nat) => Value.int .u32 (x : Int))]
              obtain ⟨q, hq⟩ : ∃ q, b[j]?.getD 0 = q := ⟨_, rfl⟩
              have hql : q < 4294967296 := hq ▸ hB.lt j
              have hgj := hget2 _ hlt2
              rw [hq] at hgj
              obtain ⟨o, ho⟩ : ∃ o, out'[i + j]?.getD 0 = o := ⟨_, rfl⟩
              have hol2 : o < 4294967296 := ho ▸ getD_lt (by decide) holt' _
              have hgo : out'[i + j]? = some o := by rw [gtE (by omega)] at ho ⊢; simpa using ho
              have hpq : p * q ≤ 4294967295 * 4294967295 := Nat.mul_le_mul (by omega) (by omega)
              simp [f25, f27, g1]
              refine Chkt.mk (by omega) ?_
              have t1 : ((i : Int) + j).toNat = i + j := by omega
              obtain ⟨m, hm⟩ : ∃ m, p * q = m := ⟨_, rfl⟩
              have tw : IntKind.u64.wrap ((p : Int) * q) = (m : Int) := hm ▸ mul_wrap hpl hql
              obtain ⟨s, hs⟩ : ∃ s, (m + o + c) % 4294967296 = s := ⟨_, rfl⟩
              obtain ⟨d, hd⟩ : ∃ d, (m + o + c) / 4294967296 = d := ⟨_, rfl⟩
              have ts : IntKind.u32.wrap ((m : Int) + o + c) = (s : Int) := by rw [wu32m]; omega
              have td : ((m : Int) + o + c) / 4294967296 = (d : Int) := by omega
              simp (disch := first | omega | (simp <;> fail) | fail) [f5, f6, f7, f8, f25, f27, g1, g5, hX2', hc2, hgj, w64, wu64, tw, -getElem?_pos]
              refine Chkt.mk (by omega) ?_
              simp (disch := first | omega | (simp <;> fail) | fail) [f5, f6, f7, f8, f25, f27, g1, g5, hX2', hc2, hgj, w64, wu64, tw, t1, hgo, -getElem?_pos, ts, td, fdivp]
              refine Chkt.mk (by omega) ?_
              simp (disch := first | omega | (simp <;> fail) | fail) [f5, f6, f7, f8, f25, f27, g1, g5, hX2', hc2, hgj, w64, wu64, tw, t1, hgo, -getElem?_pos, ts, td, fdivp]
              refine Chkt.mk (by omega) ?_
              simp (disch := first | omega | (simp <;> fail) | fail) [f27, w64]
              refine hK3 (b.length - (j + 1)) _ _ (by omega) ⟨j + 1, by omega, by omega, by simp [f18], by simp [f1], by simp [f25], by simp [f26], by simp, by simp [f7], by simp [f19], by simp [f20], by simp [f5], by simp [f6], out'.set (i + j) s, d, by simp [List.map_set], by simp, by omega, by simp [hol'], ?_, ?_, ?_⟩
              · intro z hz
                rcases List.mem_or_eq_of_mem_set hz with hz | rfl
                · exact holt' z hz
                · omega
              · intro k hk
                rw [get_set_ne (by omega)]
                exact hz' k hk
              · have h1 := val_set_full out' (i + j) s (by omega)
                rw [ho] at h1
                rw [val_take_succ b, hq, show i + (j + 1) = i + j + 1 from rfl, Nat.pow_succ]
                have h2 : s + 4294967296 * d = p * q + o + c := by omega
                have h3 : 4294967296 ^ (i + j) * (s + 4294967296 * d) = 4294967296 ^ (i + j) * (p * q + o + c) := by rw [h2]
                rw [Nat.pow_add] at *
                grind
            · simp
              have : j = b.length := by omega
              subst this
              exact hK2 _ _ ⟨by simp [f18], by simp [f1], by simp [f19], by simp [f20], by simp [f5], by simp [f6], out', c, rfl, by simp [f8], hc, hol', holt', hz', by rw [hv', List.take_length]⟩
        · rintro F2 H2 ⟨f18, f1, f19, f20, f5, f6, out', c, rfl, f8, hc, hol', holt', hz', hv'⟩
          have tw : IntKind.u32.wrap (c : Int) = (c : Int) := wu32 (by omega) (by omega)
          have t1 : ((i : Int) + b.length).toNat = i + b.length := by omega
          simp (disch := first | omega | (simp <;> fail) | fail) [f18, f1, f19, f20, f5, f6, f8, g0, g1, g5, g22, w64, tw]
          refine Chkt.mk (by omega) ?_
          simp (disch := first | omega | (simp <;> fail) | fail) [f18, f1, f19, f20, f5, f6, f8, g0, g1, g5, g22, w64, tw, t1]
          refine Chkt.mk (by omega) ?_
          simp (disch := first | omega | (simp <;> fail) | fail) [f20, g22, w64]
          refine hK' (a.length - (i + 1)) _ _ (by omega) ⟨i + 1, by omega, by omega, by simp [f18, g0], by simp [f1, g1], by simp [f19, g21], by simp, by simp [f5, g5], out'.set (i + b.length) c, by simp [List.map_set], by simp [hol'], ?_, ?_, ?_⟩
          · intro z hz
            rcases List.mem_or_eq_of_mem_set hz with hz | rfl
            · exact holt' z hz
            · omega
          · intro k hk
            rw [get_set_ne (by omega)]
            exact hz' k (by omega)
          · have h1 := val_set_full out' (i + b.length) c (by omega)
            rw [hz' _ (Nat.le_refl _)] at h1
            rw [val_take_succ a, hp, Nat.add_mul]
            grind
      · simp
        have : i = a.length := by omega
        subst this
        exact hK _ _ ⟨by simp [g5], out, rfl, hol, holt, by rw [hv, List.take_length]⟩
  · rintro F1 H1 ⟨g5, out, rfl, hol, holt, hv⟩
    rw [txx_seq]
    simp [g5, -txx_seq]
    have hU := Us.fresh H 124 out (a.length + b.length) (a.length + b.length) (Nat.le_refl _) hol holt false
    refine SWt.mk (trim_spec hU (by simp [hol]; omega)) ?_
    rintro v H1 ⟨rfl, l', hl', hT, hv', -⟩
    simp [retOf]
    refine hQ _ _ ⟨(Ext.refl H).snoc _ _ _, l', hl', hT, ?_⟩
    rw [hv', ← hol, List.take_length, hv]
@[simp] theorem base_get0 (H N : SHeap) : (H ++ N)[H.length]? = N[0]? := by rw [List.getElem?_append_right (Nat.le_refl _), Nat.sub_self]
@[simp] theorem cells_bool (b : Bool) : (Value.bool b).cells = #[.bool b] := rfl
@[simp] theorem cells_slice (a : Option Addr) (n c : Nat) : (Value.slice a n c).cells = #[.slice a n c] := rfl
@[simp] theorem cells_agg (cs : Array Value) : (Value.agg cs).cells = cs := rfl
@[simp] theorem cells_str (s : ByteArray) : (Value.string s).cells = #[.string s] := rfl
@[simp] theorem one_bool (b : Bool) : (Value.bool b).oneCell' = true := rfl
@[simp] theorem one_slice (a : Option Addr) (n c : Nat) : (Value.slice a n c).oneCell' = true := rfl
@[simp] theorem one_str (s : ByteArray) : (Value.string s).oneCell' = true := rfl
@[simp] theorem wrc_nil (cs : List Value) (i : Nat) : wrc cs i [] = spl cs i [] := rfl
@[simp] theorem wrc_two (cs : List Value) (i : Nat) (v w : Value) (vs : List Value) : wrc cs i (v :: w :: vs) = spl cs i (v :: w :: vs) := rfl
theorem Ext.more (H : SHeap) {N : SHeap} (h : ∀ x ∈ N, ∀ e cs, x ≠ .ro e cs) : Ext H (H ++ N) := ⟨N, rfl, h⟩
theorem Sl.set {H : SHeap} {e sz n b : Nat} {v : Value} {cs : List Value} {X Y : SObj} (h : Sl H e sz v n cs) (hb : H[b]? = some Y) (he : Y.elem? ≠ some e) : Sl (H.set b X) e sz v n cs := by
  obtain ⟨a, cap, hv, h1, h2, h3⟩ := h
  refine ⟨a, cap, hv, h1, h2, fun hc => ?_⟩
  obtain ⟨b', i, X', all, q1, q2, q3, q4, q5⟩ := h3 hc
  refine ⟨b', i, X', all, q1, ?_, q3, q4, q5⟩
  have : b ≠ b' := fun e' => by
    subst e'
    rw [hb] at q2
    exact he (Option.some.inj q2 ▸ q4)
  rw [List.getElem?_set_ne this]
  exact q2
theorem Us.set {H : SHeap} {e b : Nat} {v : Value} {l : List Nat} {X Y : SObj} (h : Us H e v l) (hb : H[b]? = some Y) (he : Y.elem? ≠ some e) : Us (H.set b X) e v l := ⟨h.1.set hb he, h.2⟩
theorem made_spec {neg : Bool} {a : Option Addr} {n c : Nat} {H : SHeap} : SW prog 92 [.bool neg, .slice a n c] H (fun v H1 => Ext H H1 ∧ v = .agg #[.bool (neg && decide (0 < n)), .slice a n c]) := by
  refine SW.cps fun Q hQ => ?_
  apply into_num_made (by simp)
  simp [X_num_made]
  cases neg <;> simp [spl, retOf]
  · exact hQ _ _ ⟨Ext.more H (by simp), by simp⟩
  · exact hQ _ _ ⟨Ext.more H (by simp), by simp⟩
def IntV (H : SHeap) (v : Value) (z : Int) : Prop := ∃ (a : Option Addr) (c : Nat) (l : List Nat), v = .agg #[.bool (decide (z < 0)), .slice a l.length c] ∧ Us H 124 (.slice a l.length c) l ∧ Trim l ∧ val l = z.natAbs
theorem IntV.ext {H H1 : SHeap} {v : Value} {z : Int} (h : IntV H v z) (hx : Ext H H1) : IntV H1 v z := by
  obtain ⟨a, c, l, h1, h2, h3⟩ := h
  exact ⟨a, c, l, h1, h2.ext hx, h3⟩
theorem Trim.pos {l : List Nat} (h : Trim l) : 0 < l.length ↔ 0 < val l := by
  have := h.zero
  constructor
  · intro h1
    rcases Nat.eq_zero_or_pos (val l) with h2 | h2
    · rw [this.1 h2] at h1; simp at h1
    · exact h2
  · intro h1
    rcases Nat.eq_zero_or_pos l.length with h2 | h2
    · rw [List.eq_nil_of_length_eq_zero h2] at h1; simp [val] at h1
    · exact h2
theorem IntV.mk' {H : SHeap} {v : Value} {neg : Bool} {l : List Nat} {a : Option Addr} {c : Nat} (hv : v = .agg #[.bool (neg && decide (0 < l.length)), .slice a l.length c]) (hU : Us H 124 (.slice a l.length c) l) (hT : Trim l) : IntV H v (if neg = true then -(val l : Int) else val l) := by
  refine ⟨a, c, l, ?_, hU, hT, by cases neg <;> simp⟩
  rw [hv]
  have := hT.pos
  cases neg
  · have e : decide ((if false = true then -(val l : Int) else (val l : Int)) < 0) = false := by simp
    rw [e]; simp
  · have e : decide ((if true = true then -(val l : Int) else (val l : Int)) < 0) = decide (0 < l.length) := by
      simp only [if_true]
      by_cases h : 0 < l.length
      · have := this.1 h
        simp [h]; omega
      · have h2 : ¬ 0 < val l := fun h2 => h (this.2 h2)
        simp [h]; omega
    rw [e]; simp
theorem of_spec {n : Int} {H : SHeap} (h1 : -9223372036854775808 ≤ n) (h2 : n < 9223372036854775808) : SW prog 88 [.int .i64 n] H (fun v H1 => Ext H H1 ∧ IntV H1 v n) := by
  refine SW.cps fun Q hQ => ?_
  apply into_num_Of (by simp)
  simp only [X_num_Of]
  rw [txx_seq]
  simp [-txx_seq]
  rw [txx_seq]
  simp [-txx_seq]
  rw [txx_seq]
  refine XXt.cut (fun F1 H1 => H1 = H ++ [.own 78 false [.bool false, .slice none 0 0]] ∧ F1 0 = .int .i64 n ∧ F1 2 = .pointer (some ⟨H.length, 0, none⟩) ∧ F1 3 = .int .u64 n.natAbs) ?_ ?_
  · intro K hK
    simp
    refine Brt.mkD (fun h => ?_) (fun h => ?_)
    · simp
      refine hK _ _ ⟨rfl, by simp, by simp, ?_⟩
      simp [wu64m]
      omega
    · simp
      refine hK _ _ ⟨rfl, by simp, by simp, ?_⟩
      simp [wu64m]
      omega
  · rintro F H1 ⟨rfl, f0, f2, f3⟩
    have hb : n.natAbs < 18446744073709551616 := by omega
    obtain ⟨m, hm⟩ : ∃ m, n.natAbs = m := ⟨_, rfl⟩
    rw [hm] at f3 hb
    obtain ⟨lo, hlo⟩ : ∃ lo, m % 4294967296 = lo := ⟨_, rfl⟩
    obtain ⟨hi, hhi⟩ : ∃ hi, m / 4294967296 = hi := ⟨_, rfl⟩
    have e1 : IntKind.u32.wrap (m : Int) = (lo : Int) := by rw [wu32m]; omega
    have e2 : IntKind.u32.wrap ((m : Int) / 4294967296) = (hi : Int) := by rw [wu32m]; omega
    rw [txx_seq]
    simp (disch := first | omega | (simp <;> fail) | fail) [f0, f2, f3, e1, e2, fdivp, -txx_seq]
    refine tx_bs (e := 124) (sz := 1) (z := .int .u32 0) (out := [.int .u32 lo, .int .u32 hi]) (by simp) (by simp) (by simp) (by rfl) (by rfl) (by omega) (by omega) (by omega) ?_ (by simp) ?_
    · simp [fillP, made_u32]
    simp [-txx_seq]
    have hU := Us.fresh (H ++ [.own 78 false [.bool false, .slice none 0 0]]) 124 [lo, hi] 2 2 (by omega) (by simp) (by simp; omega) false
    simp at hU
    refine SWt.mk (trim_spec hU (by simp)) ?_
    rintro v H1 ⟨rfl, l, hl, hT, hv, hlen⟩
    obtain ⟨a, c, rfl⟩ := hl.len
    simp [f0, f2, -txx_seq]
    refine SWt.mk made_spec ?_
    rintro v H1 ⟨hx, rfl⟩
    have g0 : H1[H.length]? = some (.own 78 false [.bool false, .slice none 0 0]) := hx.get_some (by simp)
    have hlt : H.length < H1.length := (gsI.1 g0).1
    have hx0 : Ext H H1 := (Ext.more H (by simp)).tr hx
    simp [f2, g0, List.getElem?_set_self hlt, spl, retOf, -getElem?_pos]
    refine hQ _ _ ⟨hx0.set (Nat.le_refl _) (by simp), ?_⟩
    have hval : val l = n.natAbs := by
      rw [hv]
      simp [val]
      omega
    have hU2 : Us (H1.set H.length (.own 78 false [.bool (decide (n < 0) && decide (0 < l.length)), .slice a l.length c])) 124 (.slice a l.length c) l := (hl.ext hx).set g0 (by simp [SObj.elem?])
    have hmk := IntV.mk' (neg := decide (n < 0)) rfl hU2 hT
    rw [hval] at hmk
    have hz : (if decide (n < 0) = true then -((n.natAbs : Nat) : Int) else (n.natAbs : Int)) = n := by
      simp only [decide_eq_true_eq]
      split <;> omega
    rwa [hz] at hmk
def Fits (z : Int) : Prop := z.natAbs < 4294967296 ^ 1000000
theorem Fits.length {z : Int} (h : Fits z) {l : List Nat} (hT : Trim l) (hv : val l = z.natAbs) : l.length ≤ 1000000 := hT.length_le (by rw [hv]; exact h)
theorem pwR (a n m : Nat) (ha : 0 < a) (h : n ≤ m) : a ^ n ≤ a ^ m := Nat.pow_le_pow_right ha h
theorem pwL (a b n : Nat) (h : a ≤ b) : a ^ n ≤ b ^ n := Nat.pow_le_pow_left h n
theorem pwE (a n m k : Nat) (h : n * m = k) : a ^ k = (a ^ n) ^ m := by rw [← h, Nat.pow_mul]
theorem pwM (k : Nat) : (4294967296 : Nat) ^ k = 2 ^ (32 * k) := by rw [Nat.pow_mul]
theorem pwB {v N : Nat} (M : Nat) (h : v < 2 ^ N) (hN : N ≤ 32 * M) : v < 4294967296 ^ M := by
  rw [pwM]; exact Nat.lt_of_lt_of_le h (Nat.pow_le_pow_right (by decide) hN)
theorem pwV {v n : Nat} (m : Nat) (h : v < 4294967296 ^ n) (hn : n ≤ m) : v < 10 ^ (10 * m) := by
  rw [Nat.pow_mul]; exact Nat.lt_of_lt_of_le h (Nat.le_trans (Nat.pow_le_pow_right (by decide) hn) (Nat.pow_le_pow_left (by decide) m))
theorem pwC (a n b n2 m k k2 : Nat) (h : n * m = k) (h2 : n2 * m = k2) (hle : a ^ n ≤ b ^ n2) : a ^ k ≤ b ^ k2 := by
  rw [← h, ← h2, Nat.pow_mul, Nat.pow_mul]; exact Nat.pow_le_pow_left hle m
theorem pwD {v e n : Nat} (m : Nat) (h : v < 10 ^ n) (he : e ≤ 10 ^ 9) (hn : n + 9 < m) : v * e < 4294967296 ^ m := by
  refine Nat.lt_of_le_of_lt (Nat.mul_le_mul (Nat.le_of_lt h) he) (Nat.lt_of_lt_of_le ?_ (Nat.pow_le_pow_left (show 10 ≤ 4294967296 by decide) m))
  rw [← Nat.pow_add]; exact Nat.pow_lt_pow_right (by decide) hn
theorem pwO (n : Nat) (h : n ≠ 0) : 1 < 2 ^ n := Nat.one_lt_two_pow h
theorem Fits.small {z : Int} (h : z.natAbs < 4294967296 ^ 8) : Fits z := Nat.lt_of_lt_of_le h (pwR 4294967296 8 1000000 (by decide) (by decide))
theorem Fits.neg {z : Int} (h : Fits z) : Fits (-z) := by unfold Fits at *; rwa [Int.natAbs_neg]
theorem neg_spec {v : Value} {a : Int} {H : SHeap} (hA : IntV H v a) : SW prog 113 [v] H (fun v H1 => Ext H H1 ∧ IntV H1 v (-a)) := by
  refine SW.cps fun Q hQ => ?_
  apply into_num_Int_Neg (by simp)
  obtain ⟨x, xc, l, rfl, hU, hT, hv⟩ := hA
  simp [X_num_Int_Neg]
  refine SWt.mk made_spec ?_
  rintro v H1 ⟨hx, rfl⟩
  have g0 : H1[H.length + 1]? = some (.own 78 false [.bool false, .slice none 0 0]) := hx.get_some (by simp)
  have hlt : H.length + 1 < H1.length := (gsI.1 g0).1
  have hx0 : Ext H H1 := (Ext.more H (by simp)).tr hx
  simp [g0, List.getElem?_set_self hlt, spl, retOf, -getElem?_pos]
  refine hQ _ _ ⟨hx0.set (by omega) (by simp), ?_⟩
  have hmk := IntV.mk' (neg := !decide (a < 0)) rfl ((hU.ext hx0).set (X := .own 78 false [.bool (!decide (a < 0) && decide (0 < l.length)), .slice x l.length xc]) g0 (by simp [SObj.elem?])) hT
  rw [hv] at hmk
  have hz : (if (!decide (a < 0)) = true then -((a.natAbs : Nat) : Int) else (a.natAbs : Int)) = -a := by
    simp
    split <;> omega
  rw [hz] at hmk
  exact hmk
theorem sign_spec {v : Value} {a : Int} {H : SHeap} (hA : IntV H v a) : SW prog 95 [v] H (fun v H1 => Ext H H1 ∧ v = .int .i64 (if a < 0 then -1 else if a = 0 then 0 else 1)) := by
  refine SW.cps fun Q hQ => ?_
  apply into_num_Int_Sign (by simp)
  obtain ⟨x, xc, l, rfl, hU, hT, hv⟩ := hA
  have hp := hT.pos
  simp [X_num_Int_Sign]
  refine Brt.mkD (fun h => ?_) (fun h => ?_)
  · simp [retOf]
    refine hQ _ _ ⟨Ext.more H (by simp), ?_⟩
    have : a = 0 := by
      rw [h] at hv
      simp [val] at hv
      omega
    simp [this]
  · simp
    have h0 : a ≠ 0 := fun h0 => by
      have : 0 < l.length := List.length_pos_iff.2 h
      rw [h0] at hv
      omega
    refine Brt.mkD (fun h1 => ?_) (fun h1 => ?_)
    · simp [retOf]
      exact hQ _ _ ⟨Ext.more H (by simp), by simp [h1]⟩
    · simp [retOf]
      exact hQ _ _ ⟨Ext.more H (by simp), by simp [h1, h0]⟩
theorem add_spec {v w : Value} {a b : Int} {H : SHeap} (hA : IntV H v a) (hB : IntV H w b) (fa : Fits a) (fb : Fits b) : SW prog 105 [v, w] H (fun v H1 => Ext H H1 ∧ IntV H1 v (a + b)) := by
  refine SW.cps fun Q hQ => ?_
  apply into_num_Int_Add (by simp)
  obtain ⟨x, xc, la, rfl, hU, hT, hv⟩ := hA
  obtain ⟨y, yc, lb, rfl, hU', hT', hv'⟩ := hB
  have hla := fa.length hT hv
  have hlb := fb.length hT' hv'
  have hx3 : Ext H (H ++ [.own 78 false [.bool (decide (a < 0)), .slice x la.length xc], .own 78 false [.bool (decide (b < 0)), .slice y lb.length yc], .own 78 false [.bool false, .slice none 0 0]]) := Ext.more H (by simp)
  have fin : ∀ (neg : Bool) (H1 H2 : SHeap) (l : List Nat) (m : Option Addr) (mc : Nat), Ext (H ++ [.own 78 false [.bool (decide (a < 0)), .slice x la.length xc], .own 78 false [.bool (decide (b < 0)), .slice y lb.length yc], .own 78 false [.bool false, .slice none 0 0]]) H1 → Us H1 124 (.slice m l.length mc) l → Trim l →
      (if neg = true then -(val l : Int) else val l) = a + b → Ext H1 H2 → H2[H.length + 2]? = some (.own 78 false [.bool false, .slice none 0 0]) ∧ Q (.agg #[.bool (neg && decide (0 < l.length)), .slice m l.length mc]) (H2.set (H.length + 2) (.own 78 false [.bool (neg && decide (0 < l.length)), .slice m l.length mc])) ∧ H.length + 2 < H2.length := by
    intro neg H1 H2 l m mc h1 h2 h3 h4 h5
    have g0 : H2[H.length + 2]? = some (.own 78 false [.bool false, .slice none 0 0]) := (h1.tr h5).get_some (by simp)
    refine ⟨g0, hQ _ _ ⟨(hx3.tr (h1.tr h5)).set (by omega) (by simp), ?_⟩, (gsI.1 g0).1⟩
    have := IntV.mk' (neg := neg) rfl ((h2.ext h5).set (X := .own 78 false [.bool (neg && decide (0 < l.length)), .slice m l.length mc]) g0 (by simp [SObj.elem?])) h3
    rwa [h4] at this
  simp [X_num_Int_Add]
  refine Brt.mkD (fun h => ?_) (fun h => ?_)
  · simp
    refine SWt.mk (plus_spec (hU.ext hx3) (hU'.ext hx3) (by omega) (by omega)) ?_
    rintro v H1 ⟨hx, l, hl, hT3, hv3⟩
    refine ⟨hx, ?_⟩
    obtain ⟨m, mc, rfl⟩ := hl.len
    simp
    refine SWt.mk made_spec ?_
    rintro v H2 ⟨hx2, rfl⟩
    obtain ⟨g0, g1, g2⟩ := fin (decide (a < 0)) H1 H2 l m mc hx hl hT3 (by
      have h' : a < 0 ↔ b < 0 := by simpa using h
      rw [hv3, hv, hv']; simp; split <;> omega) hx2
    simp [g0, List.getElem?_set_self g2, spl, retOf, -getElem?_pos]
    exact g1
  · simp
    refine SWt.mk (compare_spec (hU.ext hx3) (hU'.ext hx3) hT hT' (by omega) (by omega)) ?_
    rintro v H1 ⟨rfl, rfl⟩
    simp
    refine Brt.mkD (fun h1 => ?_) (fun h1 => ?_)
    · have hge : val lb ≤ val la := by
        rcases Nat.lt_or_ge (val la) (val lb) with h2 | h2
        · rw [if_pos h2] at h1; omega
        · exact h2
      simp
      refine SWt.mk (minus_spec (hU.ext hx3) (hU'.ext hx3) (by omega) ?_ hge) ?_
      · rcases Nat.lt_or_ge la.length lb.length with h2 | h2
        · have := hT'.lt_of_length hU.2 h2
          omega
        · exact h2
      rintro v H1 ⟨hx, l, hl, hT3, hv3⟩
      refine ⟨hx, ?_⟩
      obtain ⟨m, mc, rfl⟩ := hl.len
      simp
      refine SWt.mk made_spec ?_
      rintro v H2 ⟨hx2, rfl⟩
      obtain ⟨g0, g1, g2⟩ := fin (decide (a < 0)) H1 H2 l m mc hx hl hT3 (by
        have h' : ¬ (a < 0 ↔ b < 0) := by simpa using h
        rw [hv3, hv, hv', Int.ofNat_sub (by omega)]; simp; split <;> omega) hx2
      simp [g0, List.getElem?_set_self g2, spl, retOf, -getElem?_pos]
      exact g1
    · have hge : val la ≤ val lb := by
        rcases Nat.lt_or_ge (val la) (val lb) with h2 | h2
        · omega
        · rw [if_neg (by omega)] at h1
          split at h1 <;> omega
      simp
      refine SWt.mk (minus_spec (hU'.ext hx3) (hU.ext hx3) (by omega) ?_ hge) ?_
      · rcases Nat.lt_or_ge lb.length la.length with h2 | h2
        · have := hT.lt_of_length hU'.2 h2
          omega
        · exact h2
      rintro v H1 ⟨hx, l, hl, hT3, hv3⟩
      refine ⟨hx, ?_⟩
      obtain ⟨m, mc, rfl⟩ := hl.len
      simp
      refine SWt.mk made_spec ?_
      rintro v H2 ⟨hx2, rfl⟩
      obtain ⟨g0, g1, g2⟩ := fin (decide (b < 0)) H1 H2 l m mc hx hl hT3 (by
        have h' : ¬ (a < 0 ↔ b < 0) := by simpa using h
        rw [hv3, hv, hv', Int.ofNat_sub (by omega)]; simp; split <;> omega) hx2
      simp [g0, List.getElem?_set_self g2, spl, retOf, -getElem?_pos]
      exact g1
attribute [simp] List.getElem?_cons_zero List.getElem?_cons_succ
theorem IntV.set {H : SHeap} {v : Value} {z : Int} {b : Nat} {X Y : SObj} (h : IntV H v z) (hb : H[b]? = some Y) (he : Y.elem? ≠ some 124) : IntV (H.set b X) v z := by
  obtain ⟨a, c, l, h1, h2, h3⟩ := h
  exact ⟨a, c, l, h1, h2.set hb he, h3⟩
theorem IntV.shape {H : SHeap} {v : Value} {z : Int} (h : IntV H v z) : ∃ s a n c, v = .agg #[.bool s, .slice a n c] := by
  obtain ⟨a, c, l, h1, -⟩ := h
  exact ⟨_, _, _, _, h1⟩
theorem sub_spec {v w : Value} {a b : Int} {H : SHeap} (hA : IntV H v a) (hB : IntV H w b) (fa : Fits a) (fb : Fits b) : SW prog 94 [v, w] H (fun v H1 => Ext H H1 ∧ IntV H1 v (a - b)) := by
  refine SW.cps fun Q hQ => ?_
  apply into_num_Int_Sub (by simp)
  obtain ⟨s1, a1, n1, c1, rfl⟩ := hA.shape
  obtain ⟨s2, a2, n2, c2, rfl⟩ := hB.shape
  have hx3 : Ext H (H ++ [.own 78 false [.bool s1, .slice a1 n1 c1], .own 78 false [.bool s2, .slice a2 n2 c2], .own 78 false [.bool false, .slice none 0 0]]) := Ext.more H (by simp)
  simp [X_num_Int_Sub]
  refine SWt.mk (neg_spec (hB.ext hx3)) ?_
  rintro v H1 ⟨hx, hv⟩
  refine ⟨hx, ?_⟩
  simp
  refine SWt.mk (add_spec (hA.ext (hx3.tr hx)) hv fa fb.neg) ?_
  rintro v H2 ⟨hx2, hv2⟩
  have g0 : H2[H.length + 2]? = some (.own 78 false [.bool false, .slice none 0 0]) := (hx.tr hx2).get_some (by simp)
  have hlt := (gsI.1 g0).1
  obtain ⟨s3, a3, n3, c3, rfl⟩ := hv2.shape
  simp [g0, List.getElem?_set_self hlt, spl, retOf, -getElem?_pos]
  exact hQ _ _ ⟨(hx3.tr (hx.tr hx2)).set (by omega) (by simp), hv2.set g0 (by simp [SObj.elem?])⟩
theorem mul_spec {v w : Value} {a b : Int} {H : SHeap} (hA : IntV H v a) (hB : IntV H w b) (fa : Fits a) (fb : Fits b) : SW prog 66 [v, w] H (fun v H1 => Ext H H1 ∧ IntV H1 v (a * b)) := by
  refine SW.cps fun Q hQ => ?_
  apply into_num_Int_Mul (by simp)
  obtain ⟨x, xc, la, rfl, hU, hT, hv⟩ := hA
  obtain ⟨y, yc, lb, rfl, hU', hT', hv'⟩ := hB
  have hla := fa.length hT hv
  have hlb := fb.length hT' hv'
  have hx3 : Ext H (H ++ [.own 78 false [.bool (decide (a < 0)), .slice x la.length xc], .own 78 false [.bool (decide (b < 0)), .slice y lb.length yc], .own 78 false [.bool false, .slice none 0 0]]) := Ext.more H (by simp)
  simp [X_num_Int_Mul]
  refine SWt.mk (times_spec (hU.ext hx3) (hU'.ext hx3) (by omega) (by omega)) ?_
  rintro v H1 ⟨hx, l, hl, hT3, hv3⟩
  refine ⟨hx, ?_⟩
  obtain ⟨m, mc, rfl⟩ := hl.len
  simp
  refine SWt.mk made_spec ?_
  rintro v H2 ⟨hx2, rfl⟩
  have g0 : H2[H.length + 2]? = some (.own 78 false [.bool false, .slice none 0 0]) := (hx.tr hx2).get_some (by simp)
  have hlt := (gsI.1 g0).1
  have hmk := IntV.mk' rfl (hl.ext hx2) hT3 (neg := !(decide (a < 0) == decide (b < 0)))
  have hz : (if (!(decide (a < 0) == decide (b < 0))) = true then -(val l : Int) else (val l : Int)) = a * b := by
    rw [hv3, hv, hv']
    rcases Int.natAbs_eq a with ha | ha <;> rcases Int.natAbs_eq b with hb | hb <;> generalize a.natAbs = p at * <;> generalize b.natAbs = q at * <;> subst ha hb <;> by_cases hp : p = 0 <;> by_cases hq : q = 0 <;> simp [hp, hq, Int.mul_neg, Int.neg_mul] <;> omega
  rw [hz] at hmk
  obtain ⟨b3, hb3⟩ : ∃ b3, (!(decide (a < 0) == decide (b < 0)) && decide (0 < l.length)) = b3 := ⟨_, rfl⟩
  simp [g0, List.getElem?_set_self hlt, spl, retOf, -getElem?_pos]
  refine hQ _ _ ⟨(hx3.tr (hx.tr hx2)).set (by omega) (by simp), ?_⟩
  have := hmk.set (X := .own 78 false [.bool (!(decide (a < 0) == decide (b < 0)) && decide (0 < l.length)), .slice m l.length mc]) g0 (by simp [SObj.elem?])
  simpa using this
theorem icmp_spec {v w : Value} {a b : Int} {H : SHeap} (hA : IntV H v a) (hB : IntV H w b) (fa : Fits a) (fb : Fits b) : SW prog 67 [v, w] H (fun v H1 => Ext H H1 ∧ v = .int .i64 (if a < b then -1 else if a = b then 0 else 1)) := by
  refine SW.cps fun Q hQ => ?_
  apply into_num_Int_Cmp (by simp)
  obtain ⟨s1, a1, n1, c1, rfl⟩ := hA.shape
  obtain ⟨s2, a2, n2, c2, rfl⟩ := hB.shape
  have hx3 : Ext H (H ++ [.own 78 false [.bool s1, .slice a1 n1 c1], .own 78 false [.bool s2, .slice a2 n2 c2]]) := Ext.more H (by simp)
  simp [X_num_Int_Cmp]
  refine SWt.mk (sub_spec (hA.ext hx3) (hB.ext hx3) fa fb) ?_
  rintro v H1 ⟨hx, hv⟩
  simp
  refine SWt.mk (sign_spec hv) ?_
  rintro v H2 ⟨hx2, rfl⟩
  simp [retOf]
  refine hQ _ _ ⟨hx3.tr (hx.tr hx2), ?_⟩
  congr 1
  split <;> split <;> omega
def RatV (H : SHeap) (v : Value) (n d : Int) : Prop := ∃ b0 m0 b1 m1, v = .agg #[b0, m0, b1, m1] ∧ IntV H (.agg #[b0, m0]) n ∧ IntV H (.agg #[b1, m1]) d
theorem RatV.ext {H H1 : SHeap} {v : Value} {n d : Int} (h : RatV H v n d) (hx : Ext H H1) : RatV H1 v n d := by
  obtain ⟨b0, m0, b1, m1, h1, h2, h3⟩ := h
  exact ⟨b0, m0, b1, m1, h1, h2.ext hx, h3.ext hx⟩
theorem RatV.set {H : SHeap} {v : Value} {n d : Int} {b : Nat} {X Y : SObj} (h : RatV H v n d) (hb : H[b]? = some Y) (he : Y.elem? ≠ some 124) : RatV (H.set b X) v n d := by
  obtain ⟨b0, m0, b1, m1, h1, h2, h3⟩ := h
  exact ⟨b0, m0, b1, m1, h1, h2.set hb he, h3.set hb he⟩
theorem RatV.shape {H : SHeap} {v : Value} {n d : Int} (h : RatV H v n d) : ∃ s1 a1 n1 c1 s2 a2 n2 c2, v = .agg #[.bool s1, .slice a1 n1 c1, .bool s2, .slice a2 n2 c2] ∧ IntV H (.agg #[.bool s1, .slice a1 n1 c1]) n ∧ IntV H (.agg #[.bool s2, .slice a2 n2 c2]) d := by
  obtain ⟨b0, m0, b1, m1, h1, h2, h3⟩ := h
  obtain ⟨s1, a1, n1, c1, e1⟩ := h2.shape
  obtain ⟨s2, a2, n2, c2, e2⟩ := h3.shape
  simp at e1 e2
  obtain ⟨rfl, rfl⟩ := e1
  obtain ⟨rfl, rfl⟩ := e2
  exact ⟨s1, a1, n1, c1, s2, a2, n2, c2, h1, h2, h3⟩
theorem fromInt_spec {v : Value} {a : Int} {H : SHeap} (hA : IntV H v a) : SW prog 104 [v] H (fun v H1 => Ext H H1 ∧ RatV H1 v a 1) := by
  refine SW.cps fun Q hQ => ?_
  apply into_num_FromInt (by simp)
  obtain ⟨s1, a1, n1, c1, rfl⟩ := hA.shape
  have hx3 : Ext H (H ++ [.own 78 false [.bool s1, .slice a1 n1 c1], .own 80 false [.bool false, .slice none 0 0, .bool false, .slice none 0 0]]) := Ext.more H (by simp)
  simp [X_num_FromInt]
  refine SWt.mk (of_spec (by omega) (by omega)) ?_
  rintro v H1 ⟨hx, hv⟩
  refine ⟨hx, ?_⟩
  obtain ⟨s3, a3, n3, c3, rfl⟩ := hv.shape
  have g0 : H1[H.length + 1]? = some (.own 80 false [.bool false, .slice none 0 0, .bool false, .slice none 0 0]) := hx.get_some (by simp)
  have hlt := (gsI.1 g0).1
  simp [g0, List.getElem?_set_self hlt, spl, retOf, -getElem?_pos]
  refine hQ _ _ ⟨(hx3.tr hx).set (by omega) (by simp), ?_⟩
  exact RatV.set ⟨_, _, _, _, rfl, hA.ext (hx3.tr hx), hv⟩ g0 (by simp [SObj.elem?])
theorem whole_spec {n : Int} {H : SHeap} (h1 : -9223372036854775808 ≤ n) (h2 : n < 9223372036854775808) : SW prog 59 [.int .i64 n] H (fun v H1 => Ext H H1 ∧ RatV H1 v n 1) := by
  refine SW.cps fun Q hQ => ?_
  apply into_num_Whole (by simp)
  have hx3 : Ext H (H ++ [.own 80 false [.bool false, .slice none 0 0, .bool false, .slice none 0 0]]) := Ext.more H (by simp)
  simp [X_num_Whole]
  refine SWt.mk (of_spec h1 h2) ?_
  rintro v H1 ⟨hx, hv⟩
  simp
  refine SWt.mk (of_spec (by omega) (by omega)) ?_
  rintro v H2 ⟨hx2, hv2⟩
  obtain ⟨s1, a1, n1, c1, rfl⟩ := hv.shape
  obtain ⟨s3, a3, n3, c3, rfl⟩ := hv2.shape
  have g0 : H2[H.length]? = some (.own 80 false [.bool false, .slice none 0 0, .bool false, .slice none 0 0]) := (hx.tr hx2).get_some (by simp)
  have hlt := (gsI.1 g0).1
  simp [g0, List.getElem?_set_self hlt, spl, retOf, -getElem?_pos]
  refine hQ _ _ ⟨(hx3.tr (hx.tr hx2)).set (by omega) (by simp), ?_⟩
  exact RatV.set ⟨_, _, _, _, rfl, hv.ext hx2, hv2⟩ g0 (by simp [SObj.elem?])
theorem integer_spec {v : Value} {n d : Int} {H : SHeap} (hA : RatV H v n d) (hd : 0 < d) : SW prog 79 [v] H (fun v H1 => Ext H H1 ∧ v = .bool (decide (d = 1))) := by
  refine SW.cps fun Q hQ => ?_
  apply into_num_Rat_Integer (by simp)
  obtain ⟨s1, a1, n1, c1, s2, a2, n2, c2, rfl, hN, hD⟩ := hA.shape
  obtain ⟨x, xc, l, he, hU, hT, hv⟩ := hD
  simp at he
  obtain ⟨rfl, rfl, rfl, rfl⟩ := he
  simp [X_num_Rat_Integer]
  refine Brt.mkD (fun h => ?_) (fun h => ?_)
  · obtain ⟨b, i, cap, X, all, he, hX, hc, -, hget⟩ := hU.at (by omega)
    cases he
    have hX' := old_get hX [.own 80 false [.bool s1, .slice a1 n1 c1, .bool (decide (d < 0)), .slice (some ⟨b, i, none⟩) l.length c2]]
    obtain ⟨y, rfl⟩ := List.length_eq_one_iff.1 (show l.length = 1 by omega)
    have hy := hget 0 (by simp)
    simp at hy
    simp [val] at hv
    simp [old_get hX, hc, hy, retOf, -getElem?_pos]
    refine hQ _ _ ⟨Ext.more H (by simp), ?_⟩
    congr 1
    simp
    omega
  · simp [h, retOf]
    refine hQ _ _ ⟨Ext.more H (by simp), ?_⟩
    have : d ≠ 1 := fun e => by
      subst e
      have h1 := hT.length_le (n := 1) (by rw [hv]; decide)
      have := hT.pos
      omega
    simp [this]
theorem rsign_spec {v : Value} {n d : Int} {H : SHeap} (hA : RatV H v n d) : SW prog 75 [v] H (fun v H1 => Ext H H1 ∧ v = .int .i64 (if n < 0 then -1 else if n = 0 then 0 else 1)) := by
  refine SW.cps fun Q hQ => ?_
  apply into_num_Rat_Sign (by simp)
  obtain ⟨s1, a1, n1, c1, s2, a2, n2, c2, rfl, hN, hD⟩ := hA.shape
  have hx3 : Ext H (H ++ [.own 80 false [.bool s1, .slice a1 n1 c1, .bool s2, .slice a2 n2 c2]]) := Ext.more H (by simp)
  simp [X_num_Rat_Sign]
  refine SWt.mk (sign_spec (hN.ext hx3)) ?_
  rintro v H1 ⟨hx, rfl⟩
  simp [retOf]
  exact hQ _ _ ⟨hx3.tr hx, rfl⟩
theorem over_spec {v : Value} {n d : Int} {H : SHeap} (hA : RatV H v n d) : SW prog 36 [v] H (fun v H1 => Ext H H1 ∧ IntV H1 v n) := by
  refine SW.cps fun Q hQ => ?_
  apply into_num_Rat_Over (by simp)
  obtain ⟨s1, a1, n1, c1, s2, a2, n2, c2, rfl, hN, hD⟩ := hA.shape
  simp [X_num_Rat_Over, spl, retOf]
  have hx3 : Ext H (H ++ [.own 80 false [.bool s1, .slice a1 n1 c1, .bool s2, .slice a2 n2 c2], .own 78 false [.bool s1, .slice a1 n1 c1]]) := Ext.more H (by simp)
  exact hQ _ _ ⟨hx3, hN.ext hx3⟩
def or64 (a b : Int) : Int := IntKind.u64.wrap ((BitVec.ofInt 64 a ||| BitVec.ofInt 64 b).toNat : Int)
@[simp high] theorem sbin_or64 (P : Program) (t : Nat) (a b : Int) : sbin P .or t (.int .u64 a) (.int .u64 b) = some (.int .u64 (or64 a b)) := sbin_or
theorem or_join {r x : Nat} (hr : r < 4294967296) (hx : x < 4294967296) : or64 ((r * 4294967296 : Nat) : Int) (x : Int) = ((r * 4294967296 + x : Nat) : Int) := by
  unfold or64
  have h1 : (BitVec.ofInt 64 ((r * 4294967296 : Nat) : Int) ||| BitVec.ofInt 64 (x : Int)).toNat = r * 4294967296 + x := by
    rw [BitVec.ofInt_natCast, BitVec.ofInt_natCast, BitVec.toNat_or, BitVec.toNat_ofNat, BitVec.toNat_ofNat, Nat.mod_eq_of_lt (by omega), Nat.mod_eq_of_lt (by omega)]
    have := Nat.two_pow_add_eq_or_of_lt (i := 32) (b := x) hx r
    rw [Nat.mul_comm] at this
    exact this.symm
  rw [h1]
  exact wu64 (by omega) (by omega)
@[simp high] theorem sbin_shl32 (P : Program) (t : Nat) (a : Int) : sbin P .shl t (.int .u64 a) (.int .u64 32) = some (.int .u64 (IntKind.u64.wrap (a * 4294967296))) := by
  rw [sbin_shl, if_neg (by decide)]
  rfl
theorem val_drop (l : List Nat) (i : Nat) (hi : i < l.length) : val (l.drop i) = l[i]?.getD 0 + 4294967296 * val (l.drop (i + 1)) := by
  rw [List.drop_eq_getElem_cons hi, gtE hi]
  rfl
theorem byWord_spec {v : Value} {a : List Nat} {w : Nat} {H : SHeap} (hA : Us H 124 v a) (hla : a.length < 1048576) (hw0 : 0 < w) (hw : w < 4294967296) :
    SW prog 107 [v, .int .u32 w] H (fun v' H1 => Ext H H1 ∧ ∃ q l, v' = .tuple #[q, .int .u32 (val a % w : Nat)] ∧ Us H1 124 q l ∧ Trim l ∧ val l = val a / w) := by
  refine SW.cps fun Q hQ => ?_
  apply into_num_byWord (by simp)
  obtain ⟨x, xc, rfl⟩ := hA.len
  have hwi : IntKind.u64.wrap (w : Int) = (w : Int) := wu64 (by omega) (by omega)
  by_cases h00 : a.length = 0
  · have ha0 : a = [] := List.eq_nil_of_length_eq_zero h00
    subst ha0
    simp only [X_num_byWord]
    rw [txx_seq]
    simp [-txx_seq]
    rw [txx_seq]
    simp [-txx_seq]
    refine tx_ms0 (e := 124) (sz := 1) (by_ := 4) (kl := .i64) (kc := .i64) (by simp) (by simp) (by simp) (by simp) (by simp) ?_
    simp (disch := omega) [w64]
    refine LoopXt.mk (I := fun n F1 H1 => H = H1 ∧ F1 8 = .int .i64 (-1) ∧ F1 6 = .slice (some ⟨0, 0, none⟩) 0 0 ∧ F1 7 = .int .u64 0) 0 ⟨rfl, by simp, by simp, by simp⟩ ?_
    rintro n F1 H1 ⟨rfl, g8, g6, g7⟩ K hK
    simp [g6, g7, g8]
    refine SWt.mk (trim_spec (l := []) ⟨Sl.void H _ _ _, by simp⟩ (by simp)) ?_
    rintro v H1 ⟨rfl, l', hl', hT, hv', -⟩
    simp [retOf, g7, wu32m]
    refine hQ _ _ ⟨Ext.refl _, v, l', by simp [val], hl', hT, by simpa [val] using hv'⟩
  simp only [X_num_byWord]
  rw [txx_seq]
  simp [-txx_seq]
  rw [txx_seq]
  simp (disch := omega) [w64, -txx_seq]
  refine tx_ms (e := 124) (sz := 1) (by_ := 4) (kl := .i64) (kc := .i64) (l := a.length) (c := a.length) (z := .int .u32 0) (by simp) (by simp) (by simp) (by simp) (by rfl) (by rfl) (by simp) (by simp) (by omega) (by omega) (Nat.le_refl _) (by omega) (by omega) ?_
  simp [-txx_seq, made_u32]
  rw [txx_seq]
  simp [-txx_seq]
  rw [txx_seq]
  refine XXt.cut (fun F1 H1 => F1 6 = .slice (some ⟨H.length, 0, none⟩) a.length a.length ∧ ∃ (out : List Nat) (r : Nat), H1 = H ++ [.own 124 false (out.map fun (x : Nat) => Value.int .u32 (x : Int))] ∧ out.length = a.length ∧ (∀ x ∈ out, x < 4294967296) ∧ F1 7 = .int .u64 r ∧ r < w ∧ val a = val out * w + r) ?_ ?_
  · intro K hK
    simp (disch := omega) [w64]
    refine LoopXt.mk (I := fun n F1 H1 => n ≤ a.length ∧ F1 0 = .slice x a.length xc ∧ F1 1 = .int .u32 w ∧ F1 8 = .int .i64 ((n : Int) - 1) ∧ F1 6 = .slice (some ⟨H.length, 0, none⟩) a.length a.length ∧ ∃ (out : List Nat) (r : Nat), H1 = H ++ [.own 124 false (out.map fun (x : Nat) => Value.int .u32 (x : Int))] ∧ out.length = a.length ∧ (∀ x ∈ out, x < 4294967296) ∧ F1 7 = .int .u64 r ∧ r < w ∧ val (a.drop n) = val (out.drop n) * w + r) a.length ?_ ?_
    · refine ⟨Nat.le_refl _, by simp, by simp, by simp, by simp, List.replicate a.length 0, 0, by simp, by simp, by simp, by simp, hw0, ?_⟩
      rw [List.drop_eq_nil_of_le (by simp), List.drop_eq_nil_of_le (by simp)]
      simp [val]
    · rintro n F1 H1 ⟨hn, g0, g1, g8, g6, out, r, rfl, hol, holt, g7, hr, hv⟩ K' hK'
      simp [g8]
      refine Brt.mkD (fun hp => ?_) (fun hp => ?_)
      · obtain ⟨b1, i1, cap1, X1, all1, he1, hX1, hc1, -, hget1⟩ := hA.at (by omega)
        cases he1
        have e1 : ((n : Int) - 1).toNat = n - 1 := by omega
        obtain ⟨p, hp'⟩ : ∃ p, a[n - 1]?.getD 0 = p := ⟨_, rfl⟩
        have hpl : p < 4294967296 := hp' ▸ hA.lt _
        have hgi := hget1 (n - 1) (by omega)
        rw [hp'] at hgi
        obtain ⟨s, hs⟩ : ∃ s, r * 4294967296 = s := ⟨_, rfl⟩
        have hsh : IntKind.u64.wrap ((r : Int) * 4294967296) = (s : Int) := by
          rw [wu64 (by omega) (by omega)]
          omega
        have hj := or_join (r := r) (by omega) hpl
        rw [hs] at hj
        obtain ⟨t, ht⟩ : ∃ t, s + p = t := ⟨_, rfl⟩
        rw [ht] at hj
        obtain ⟨q, hq⟩ : ∃ q, t / w = q := ⟨_, rfl⟩
        obtain ⟨m, hm⟩ : ∃ m, t % w = m := ⟨_, rfl⟩
        have hdm := Nat.div_add_mod t w
        rw [hq, hm] at hdm
        have hml : m < w := hm ▸ Nat.mod_lt _ hw0
        have hql : q < 4294967296 := by
          rw [← hq]
          refine (Nat.div_lt_iff_lt_mul hw0).2 ?_
          have : (r + 1) * 4294967296 ≤ w * 4294967296 := Nat.mul_le_mul_right _ hr
          rw [Nat.mul_comm 4294967296]
          omega
        have htd : (t : Int).tdiv w = (q : Int) := by rw [← hq]; rfl
        have htm : (t : Int).tmod w = (m : Int) := by rw [← hm]; rfl
        have hqw : IntKind.u64.wrap (q : Int) = (q : Int) := wu64 (by omega) (by omega)
        have hqw' : IntKind.u32.wrap (q : Int) = (q : Int) := wu32 (by omega) (by omega)
        have hpw : IntKind.u64.wrap (p : Int) = (p : Int) := wu64 (by omega) (by omega)
        have hw0' : ¬ (w = 0) := by omega
        simp [g0, g8, g7, hsh]
        refine Chkt.mk ⟨by omega, by omega⟩ ?_
        simp [g0, g8, g7, g6, g1, e1, old_get hX1, hc1, hgi, -getElem?_pos, hpw, hsh, hj, hwi, htd, htm, hqw, hqw', hw0']
        refine Chkt.mk ⟨by omega, by omega⟩ ?_
        simp (disch := omega) [g0, g8, g7, g6, g1, e1, old_get hX1, hc1, hgi, -getElem?_pos, hpw, hsh, hj, hwi, htd, htm, hqw, hqw', hw0', w64]
        refine Chkt.mk (by omega) ?_
        simp (disch := omega) [g8, w64]
        refine hK' (n - 1) _ _ (by omega) ⟨by omega, by simp [g0], by simp [g1], by simp; omega, by simp [g6], out.set (n - 1) q, m, by simp [List.map_set], by simp [hol], ?_, by simp, hml, ?_⟩
        · intro z hz
          rcases List.mem_or_eq_of_mem_set hz with hz | rfl
          · exact holt z hz
          · exact hql
        · rw [val_drop a (n - 1) (by omega), val_drop (out.set (n - 1) q) (n - 1) (by simp; omega), hp', Nat.sub_add_cancel (by omega), hv, List.drop_set_of_lt (by omega), List.getElem?_set_self (by omega)]
          simp only [Option.getD_some]
          have h5 : s + p = w * q + m := by omega
          grind
      · simp
        have : n = 0 := by omega
        subst this
        exact hK _ _ ⟨by simp [g6], out, r, rfl, hol, holt, by simp [g7], hr, by simpa using hv⟩
  · rintro F1 H1 ⟨g6, out, r, rfl, hol, holt, g7, hr, hv⟩
    have hU := Us.fresh H 124 out a.length a.length (Nat.le_refl _) hol holt false
    have hr' : IntKind.u32.wrap (r : Int) = (r : Int) := wu32 (by omega) (by omega)
    rw [txx_seq]
    simp [g6, -txx_seq]
    refine SWt.mk (trim_spec hU (by simp [hol]; omega)) ?_
    rintro v H1 ⟨rfl, l', hl', hT, hv', -⟩
    simp [retOf, g7, hr']
    rw [← hol, List.take_length] at hv'
    have h1 : val a / w = val out := by rw [hv, Nat.mul_comm, Nat.mul_add_div hw0, Nat.div_eq_of_lt hr, Nat.add_zero]
    have h2 : val a % w = r := by rw [hv, Nat.mul_comm, Nat.mul_add_mod, Nat.mod_eq_of_lt hr]
    exact hQ _ _ ⟨(Ext.refl H).snoc _ _ _, v, l', by rw [h2], hl', hT, by rw [hv', h1]⟩
theorem in_spec {v lo hi : Int} {H : SHeap} : SW prog 39 [.int .i64 v, .int .i64 lo, .int .i64 hi] H (fun w H1 => H1 = H ∧ w = .bool (decide (lo ≤ v ∧ v ≤ hi))) := by
  refine SW.cps fun Q hQ => ?_
  apply into_ref_in (by simp)
  simp [X_ref_in]
  refine Brt.mkD (fun h => ?_) (fun h => ?_)
  · simp [h, retOf]
    exact hQ _ _ ⟨rfl, by simp [h]⟩
  · simp [h, retOf]
    exact hQ _ _ ⟨rfl, by simp [h]⟩
theorem work_spec {x : Int} {H : SHeap} : SW prog 64 [.int .i64 x] H (fun w H1 => H1 = H ∧ w = .bool (decide (x < 0 ∨ 1000 < x))) := by
  refine SW.cps fun Q hQ => ?_
  apply into_shop_valid_c1_c1 (by simp)
  simp [X_shop_valid_c1_c1]
  refine Brt.mkD (fun h => ?_) (fun h => ?_)
  · simp [h, retOf]
    exact hQ _ _ ⟨rfl, by simp [h]⟩
  · simp [h, retOf]
    exact hQ _ _ ⟨rfl, by simp [h]⟩
def Is (H : SHeap) (v : Value) (l : List Int) : Prop := Sl H 3 1 v l.length (l.map (Value.int .i64))
theorem Is.ext {H H1 : SHeap} {v : Value} {l : List Int} (h : Is H v l) (hx : Ext H H1) : Is H1 v l := Sl.ext h hx
theorem Is.at {H : SHeap} {v : Value} {l : List Int} (h : Is H v l) (hn : 0 < l.length) : ∃ b i cap X all, v = .slice (some ⟨b, i, none⟩) l.length cap ∧ H[b]? = some X ∧ X.cells? = some all ∧ ∀ k, k < l.length → all[i + k]? = some (.int .i64 (l[k]?.getD 0)) := by
  obtain ⟨b, i, cap, X, all, h1, h2, h3, h4, h5⟩ := Sl.at h hn
  refine ⟨b, i, cap, X, all, h1, h2, h3, fun k hk => ?_⟩
  rw [h5 k (by omega), List.getElem?_map, gtE hk]
  simp
theorem Is.len {H : SHeap} {v : Value} {l : List Int} (h : Is H v l) : ∃ a cap, v = .slice a l.length cap := Sl.len h
theorem indexWork_spec {v : Value} {l : List Int} {H : SHeap} (hI : Is H v l) (hl : l.length < 4611686018427387904) :
    SW prog 91 [v, .func (.func 64) #[] #[]] H (fun w H1 => H1 = H ∧ ∃ n : Int, w = .int .i64 n ∧ (0 ≤ n ↔ ∃ x ∈ l, x < 0 ∨ 1000 < x)) := by
  refine SW.cps fun Q hQ => ?_
  apply into_slices_IndexFunc_Sint_int (by simp)
  obtain ⟨a, cap, rfl⟩ := hI.len
  simp [X_slices_IndexFunc_Sint_int]
  refine LoopXt.mk (I := fun n F1 H1 => ∃ i : Nat, n = l.length - i ∧ i ≤ l.length ∧ H = H1 ∧ F1 0 = .slice a l.length cap ∧ F1 1 = .func (.func 64) #[] #[] ∧ F1 7 = .int .i64 l.length ∧ F1 8 = .int .i64 i ∧ ∀ x ∈ l.take i, ¬ (x < 0 ∨ 1000 < x)) l.length ?_ ?_
  · exact ⟨0, by omega, by omega, rfl, by simp, by simp, by simp, by simp, by simp⟩
  · rintro n F1 H1 ⟨i, rfl, hi, rfl, g0, g1, g7, g8, hall⟩ K hK
    simp [g7, g8]
    refine Brt.mkD (fun hlt => ?_) (fun hlt => ?_)
    · obtain ⟨b, o, cap', X, all, he, hX, hc, hget⟩ := hI.at (by omega)
      cases he
      simp [g0, g1, g8]
      refine Chkt.mk (by omega) ?_
      simp [g0, g1, g8, hX, hc, hget _ hlt]
      refine SWt.mk work_spec ?_
      rintro v H1 ⟨rfl, rfl⟩
      simp
      have hmem : l[i]?.getD 0 ∈ l := by rw [gtE hlt]; exact List.getElem_mem hlt
      refine Brt.mk (fun hw => ?_) (fun hw => ?_)
      · simp [retOf]
        refine hQ _ _ ⟨rfl, i, rfl, ?_⟩
        simp at hw
        exact ⟨fun _ => ⟨_, hmem, by omega⟩, fun _ => by omega⟩
      · simp (disch := omega) [g8, w64]
        refine hK (l.length - (i + 1)) _ _ (by omega) ⟨i + 1, by omega, by omega, rfl, by simp [g0], by simp [g1], by simp [g7], by simp, ?_⟩
        intro x hx
        rw [List.take_succ_eq_append_getElem hlt] at hx
        rcases List.mem_append.1 hx with hx | hx
        · exact hall x hx
        · simp at hx
          simp at hw
          rw [gtE hlt] at hw
          subst hx
          simpa using hw
    · simp [retOf]
      have : i = l.length := by omega
      subst this
      rw [List.take_length] at hall
      exact hQ _ _ ⟨rfl, -1, rfl, by simp; intro x hx; have := hall x hx; omega⟩
theorem containsWork_spec {v : Value} {l : List Int} {H : SHeap} (hI : Is H v l) (hl : l.length < 4611686018427387904) :
    SW prog 63 [v, .func (.func 64) #[] #[]] H (fun w H1 => H1 = H ∧ w = .bool (decide (∃ x ∈ l, x < 0 ∨ 1000 < x))) := by
  refine SW.cps fun Q hQ => ?_
  apply into_slices_ContainsFunc_Sint_int (by simp)
  simp [X_slices_ContainsFunc_Sint_int]
  refine SWt.mk (indexWork_spec hI hl) ?_
  rintro v H1 ⟨rfl, n, rfl, hn⟩
  simp [retOf]
  exact hQ _ _ ⟨rfl, by simp [hn]⟩
def Iss (H : SHeap) (v : Value) (t : List (List Int)) : Prop := ∃ vs : List Value, Sl H 34 1 v t.length vs ∧ vs.length = t.length ∧ ∀ i, i < t.length → Is H (vs[i]?.getD undef) (t[i]?.getD [])
theorem Iss.ext {H H1 : SHeap} {v : Value} {t : List (List Int)} (h : Iss H v t) (hx : Ext H H1) : Iss H1 v t := by
  obtain ⟨vs, h1, h2, h3⟩ := h
  exact ⟨vs, h1.ext hx, h2, fun i hi => (h3 i hi).ext hx⟩
theorem Iss.len {H : SHeap} {v : Value} {t : List (List Int)} (h : Iss H v t) : ∃ a cap, v = .slice a t.length cap := by
  obtain ⟨vs, h1, -⟩ := h
  exact h1.len
theorem Iss.at {H : SHeap} {v : Value} {t : List (List Int)} (h : Iss H v t) (hn : 0 < t.length) : ∃ b i cap X all, v = .slice (some ⟨b, i, none⟩) t.length cap ∧ H[b]? = some X ∧ X.cells? = some all ∧ ∀ k, k < t.length → ∃ a c, all[i + k]? = some (.slice a (t[k]?.getD []).length c) ∧ Is H (.slice a (t[k]?.getD []).length c) (t[k]?.getD []) := by
  obtain ⟨vs, h1, h2, h3⟩ := h
  obtain ⟨b, i, cap, X, all, e1, e2, e3, e4, e5⟩ := h1.at hn
  refine ⟨b, i, cap, X, all, e1, e2, e3, fun k hk => ?_⟩
  have hk2 := h3 k hk
  obtain ⟨a, c, hv⟩ := hk2.len
  refine ⟨a, c, ?_, hv ▸ hk2⟩
  rw [e5 k (by omega), ← hv, gtE (by omega)]
  simp
def badRow (n : Nat) (r : List Int) : Bool := decide (r.length ≠ n) || decide (∃ x ∈ r, x < 0 ∨ 1000 < x)
theorem rowBad_spec {v w : Value} {r : List Int} {t : List (List Int)} {H : SHeap} {bx : Nat} (hR : Is H w r) (hT : Iss H v t) (ht : 0 < t.length) (hbx : H[bx]? = some (.own 22 false [v])) (hl : r.length < 4611686018427387904) :
    SW prog 62 [w, .pointer (some ⟨bx, 0, none⟩)] H (fun u H1 => H1 = H ∧ u = .bool (badRow (t[0]?.getD []).length r)) := by
  refine SW.cps fun Q hQ => ?_
  apply into_shop_valid_c1 (by simp)
  obtain ⟨a, cap, rfl⟩ := hR.len
  obtain ⟨b, i, cap', X, all, rfl, hX, hc, hget⟩ := hT.at ht
  obtain ⟨a0, c0, h0, -⟩ := hget 0 ht
  simp [X_shop_valid_c1, hbx, -getElem?_pos]
  refine Chkt.mk (by omega) ?_
  simp only [Nat.add_zero] at h0
  simp [hbx, hX, hc, h0, -getElem?_pos]
  refine Brt.mkD (fun h => ?_) (fun h => ?_)
  · simp [h]
    refine SWt.mk (containsWork_spec hR hl) ?_
    rintro u H1 ⟨rfl, rfl⟩
    simp [retOf]
    refine hQ _ _ ⟨rfl, ?_⟩
    simp [badRow]
    intro hne
    exact absurd (by omega) hne
  · simp [h, retOf]
    refine hQ _ _ ⟨rfl, ?_⟩
    simp [badRow]
    exact .inl (by omega)
theorem indexRow_spec {v : Value} {t : List (List Int)} {H : SHeap} {bx : Nat} (hT : Iss H v t) (ht : 0 < t.length) (hbx : H[bx]? = some (.own 22 false [v])) (hl : t.length < 4611686018427387904) (hr : ∀ r ∈ t, r.length < 4611686018427387904) :
    SW prog 90 [v, .func (.func 62) #[] #[.pointer (some ⟨bx, 0, none⟩)]] H (fun w H1 => H1 = H ∧ ∃ n : Int, w = .int .i64 n ∧ (0 ≤ n ↔ ∃ r ∈ t, badRow (t[0]?.getD []).length r = true)) := by
  refine SW.cps fun Q hQ => ?_
  apply into_slices_IndexFunc_SSint_Sint (by simp)
  obtain ⟨b, o, cap, X, all, rfl, hX, hc, hget⟩ := hT.at ht
  simp [X_slices_IndexFunc_SSint_Sint]
  refine LoopXt.mk (I := fun n F1 H1 => ∃ i : Nat, n = t.length - i ∧ i ≤ t.length ∧ H = H1 ∧ F1 0 = .slice (some ⟨b, o, none⟩) t.length cap ∧ F1 1 = .func (.func 62) #[] #[.pointer (some ⟨bx, 0, none⟩)] ∧ F1 7 = .int .i64 t.length ∧ F1 8 = .int .i64 i ∧ ∀ r ∈ t.take i, ¬ (badRow (t[0]?.getD []).length r = true)) t.length ?_ ?_
  · exact ⟨0, by omega, by omega, rfl, by simp, by simp, by simp, by simp, by simp⟩
  · rintro n F1 H1 ⟨i, rfl, hi, rfl, g0, g1, g7, g8, hall⟩ K hK
    simp [g7, g8]
    refine Brt.mkD (fun hlt => ?_) (fun hlt => ?_)
    · obtain ⟨a1, c1, h1, hI⟩ := hget i hlt
      simp [g0, g1, g8]
      refine Chkt.mk (by omega) ?_
      simp [g0, g1, g8, hX, hc, h1, -getElem?_pos]
      have hmem : t[i]?.getD [] ∈ t := by rw [gtE hlt]; exact List.getElem_mem hlt
      refine SWt.mk (rowBad_spec hI hT ht hbx (hr _ hmem)) ?_
      rintro v H1 ⟨rfl, rfl⟩
      simp
      refine Brt.mk (fun hw => ?_) (fun hw => ?_)
      · simp [retOf]
        exact hQ _ _ ⟨rfl, i, rfl, fun _ => ⟨_, hmem, hw⟩, fun _ => by omega⟩
      · simp (disch := omega) [g8, w64]
        refine hK (t.length - (i + 1)) _ _ (by omega) ⟨i + 1, by omega, by omega, rfl, by simp [g0], by simp [g1], by simp [g7], by simp, ?_⟩
        intro x hx
        rw [List.take_succ_eq_append_getElem hlt] at hx
        rcases List.mem_append.1 hx with hx | hx
        · exact hall x hx
        · simp at hx
          rw [gtE hlt] at hw
          subst hx
          simpa using hw
    · simp [retOf]
      have : i = t.length := by omega
      subst this
      rw [List.take_length] at hall
      refine hQ _ _ ⟨rfl, -1, rfl, ?_⟩
      constructor
      · intro h; omega
      · rintro ⟨r, h1, h2⟩
        exact absurd h2 (hall r h1)
theorem containsRow_spec {v : Value} {t : List (List Int)} {H : SHeap} {bx : Nat} (hT : Iss H v t) (ht : 0 < t.length) (hbx : H[bx]? = some (.own 22 false [v])) (hl : t.length < 4611686018427387904) (hr : ∀ r ∈ t, r.length < 4611686018427387904) :
    SW prog 61 [v, .func (.func 62) #[] #[.pointer (some ⟨bx, 0, none⟩)]] H (fun w H1 => H1 = H ∧ w = .bool (decide (∃ r ∈ t, badRow (t[0]?.getD []).length r = true))) := by
  refine SW.cps fun Q hQ => ?_
  apply into_slices_ContainsFunc_SSint_Sint (by simp)
  simp [X_slices_ContainsFunc_SSint_Sint]
  refine SWt.mk (indexRow_spec hT ht hbx hl hr) ?_
  rintro v H1 ⟨rfl, n, rfl, hn⟩
  simp [retOf]
  refine hQ _ _ ⟨rfl, ?_⟩
  congr 1
  exact decide_eq_decide.2 hn
def ValidT (t : List (List Int)) : Prop := 1 ≤ t.length ∧ t.length ≤ 8 ∧ 1 ≤ (t[0]?.getD []).length ∧ (t[0]?.getD []).length ≤ 8 ∧ ∀ r ∈ t, badRow (t[0]?.getD []).length r = false
instance (t : List (List Int)) : Decidable (ValidT t) := by unfold ValidT; infer_instance
theorem valid_spec {v : Value} {t : List (List Int)} {H : SHeap} (hT : Iss H v t) (hl : t.length < 4611686018427387904) (hr : ∀ r ∈ t, r.length < 4611686018427387904) :
    SW prog 31 [v] H (fun w H1 => Ext H H1 ∧ w = .bool (decide (ValidT t))) := by
  refine SW.cps fun Q hQ => ?_
  apply into_shop_valid (by simp)
  obtain ⟨a, cap, rfl⟩ := hT.len
  have hx : Ext H (H ++ [.own 22 false [.slice a t.length cap]]) := Ext.more H (by simp)
  have no : ¬ ValidT t → Q (.bool false) (H ++ [.own 22 false [.slice a t.length cap]]) := fun h => hQ _ _ ⟨hx, by simp [h]⟩
  simp [X_shop_valid]
  refine Brt.mkD (fun h1 => ?_) (fun h1 => ?_)
  · simp [h1, retOf]
    exact no fun h => by have := h.1; omega
  · obtain ⟨b, i, cap', X, all, he, hX, hc, hget⟩ := hT.at (by omega)
    cases he
    obtain ⟨a0, c0, h0, -⟩ := hget 0 (by omega)
    simp only [Nat.add_zero] at h0
    simp [h1]
    refine Brt.mkD (fun h2 => ?_) (fun h2 => ?_)
    · simp [h1, h2, retOf]
      exact no fun h => by have := h.2.1; omega
    · simp [h1, h2]
      refine Chkt.mk (by omega) ?_
      simp [h1, h2, old_get hX, hc, h0, -getElem?_pos]
      refine Brt.mkD (fun h3 => ?_) (fun h3 => ?_)
      · simp [h3, retOf]
        exact no fun h => by have := h.2.2.1; omega
      · simp [h3]
        refine Chkt.mk (by omega) ?_
        simp [h3, old_get hX, hc, h0, -getElem?_pos]
        refine Brt.mkD (fun h4 => ?_) (fun h4 => ?_)
        · simp [h4, retOf]
          exact no fun h => by have := h.2.2.2.1; omega
        · simp [h4]
          refine SWt.mk (containsRow_spec (bx := H.length) (hT.ext hx) (by omega) (by simp) hl hr) ?_
          rintro u H1 ⟨rfl, rfl⟩
          simp [retOf]
          refine hQ _ _ ⟨hx, ?_⟩
          have : ValidT t ↔ ¬ (∃ r ∈ t, badRow (t[0]?.getD []).length r = true) := by
            constructor
            · rintro ⟨-, -, -, -, h⟩ ⟨r, q1, q2⟩
              rw [h r q1] at q2
              cases q2
            · intro h
              refine ⟨by omega, by omega, by omega, by omega, fun r q => ?_⟩
              cases hb : badRow (t[0]?.getD []).length r with
              | false => rfl
              | true => exact absurd ⟨r, q, hb⟩ h
          have e : decide (ValidT t) = !decide (∃ r ∈ t, badRow (t[0]?.getD []).length r = true) := by
            rw [← decide_not]
            exact decide_eq_decide.2 this
          rw [e]
end Go.Sx
end
section
set_option maxRecDepth 8000
namespace Go.Sx
theorem IntV.kept {H H' : SHeap} {e : Nat} {s v : Value} {z : Int} (h : IntV H v z) (hk : Kept H H' s e) (hne : 124 ≠ e) : IntV H' v z := by
  obtain ⟨a, c, l, h1, h2, h3⟩ := h
  exact ⟨a, c, l, h1, ⟨h2.1.kept hk hne, h2.2⟩, h3⟩
theorem RatV.kept {H H' : SHeap} {e : Nat} {s v : Value} {n d : Int} (h : RatV H v n d) (hk : Kept H H' s e) (hne : 124 ≠ e) : RatV H' v n d := by
  obtain ⟨b0, m0, b1, m1, h1, h2, h3⟩ := h
  exact ⟨b0, m0, b1, m1, h1, h2.kept hk hne, h3.kept hk hne⟩
end Go.Sx
end
section
set_option maxRecDepth 8000
namespace Go.Sx
open Go.Proofs
open Go.Proofs.Tryz (prog)
end Go.Sx
end
section
set_option maxRecDepth 8000
namespace Go.Sx
open Go.Proofs
open Go.Proofs.Tryz (prog)
attribute [-simp] tx_ia tx_ln
def U32R (H : SHeap) (v : Value) (n : Nat) : Prop := v = .int .u32 (n : Int) ∧ n < 4294967296
instance : Mono U32R := ⟨fun h _ => h⟩
theorem Us.row {H : SHeap} {e : Nat} {v : Value} {l : List Nat} (h : Us H e v l) : Row e 1 false U32R H v l := ⟨_, h.1, fun i x hi => ⟨by simp [elV, List.getElem?_map, hi], h.2 x (List.mem_of_getElem? hi)⟩⟩
theorem u32_cells {cs : List Value} {l : List Nat} (hl : cs.length = l.length * 1) (h : ∀ H i x, l[i]? = some x → U32R H (elV false 1 cs i) x) : cs = l.map fun (n : Nat) => Value.int .u32 (n : Int) := by
  apply List.ext_getElem?
  intro i
  rw [List.getElem?_map]
  by_cases hi : i < l.length
  · have := (h [] i _ (gtE hi)).1
    simp only [elV, Bool.false_eq_true, if_false] at this
    rw [gtE hi]
    rw [gtE (by omega)] at this ⊢
    simpa using this
  · rw [List.getElem?_eq_none (by omega), List.getElem?_eq_none (by omega)]; rfl
theorem Row.us {H : SHeap} {e : Nat} {v : Value} {l : List Nat} (h : Row e 1 false U32R H v l) : Us H e v l := by
  obtain ⟨cs, h1, h2⟩ := h
  obtain ⟨a, cap, hv, h3, h4, h5⟩ := h1
  have := u32_cells h4 (fun _ i x hi => h2 i x hi)
  subst this
  exact ⟨⟨a, cap, hv, h3, h4, h5⟩, fun x hx => by obtain ⟨i, hi⟩ := List.getElem?_of_mem hx; exact (h2 i x hi).2⟩
theorem wz_u32 : Whole prog 124 (.int .u32 0) := ⟨by kernel_rfl, by kernel_rfl, by rw [if_neg (by decide)]; exact ⟨by kernel_rfl, rfl⟩⟩
theorem wh_u32 (n : Int) : Whole prog 124 (.int .u32 n) := ⟨by kernel_rfl, rfl, by rw [if_neg (by simp [isAg])]; exact ⟨by kernel_rfl, rfl⟩⟩
def or32 (a b : Int) : Int := IntKind.u32.wrap ((BitVec.ofInt 32 a ||| BitVec.ofInt 32 b).toNat : Int)
@[simp high] theorem sbin_or32 (P : Program) (t : Nat) (a b : Int) : sbin P .or t (.int .u32 a) (.int .u32 b) = some (.int .u32 (or32 a b)) := sbin_or
theorem up_spec {v : Value} {x : List Nat} {n : Nat} {H : SHeap} (hX : Us H 124 v x) (hl : x.length < 1048576) (hn : n < 32) :
    SW prog 124 [v, .int .i64 n] H (fun v' H1 => Ext H H1 ∧ ∃ out, OwR H.length 124 1 false U32R H1 v' out ∧ out.length = x.length + 1 ∧ val out = val x * 2 ^ n) := by
  refine SW.cps fun Q hQ => ?_
  apply into_num_up (by simp)
  simp [Z_num_up]
  refine tx_lnR (by simpa using hX.row) (by simp) ?_
  simp (disch := omega) [w64]
  refine tx_mk (e := 124) (sz := 1) (by_ := 4) (n := x.length + 1) (ag := false) (z := .int .u32 0) (R := U32R) (a := 0) (kl := .i64) (kc := .i64) (by simp) (by simp) (by simp) (by simp) (by rfl) (by simp) wz_u32 (by simp) (by simp) (by omega) (by omega) (by omega) (fun H' => ⟨rfl, by decide⟩) ?_
  rintro o H1 hO hx1 -
  simp
  refine tx_lnR (by simpa using (hX.ext hx1).row) (by simp) ?_
  simp
  refine LoopZt.range (by kernel_rfl) x.length (by omega) (by simp) (by rfl) (by simp) (by decide) (by decide) (fun i F2 G2 H2 => Ext H H2 ∧ ∃ out : List Nat, OwR H.length 124 1 false U32R H2 o out ∧ out.length = x.length + 1 ∧ val (out.take (i + 1)) = val (x.take i) * 2 ^ n ∧ out[i]?.getD 0 < 2 ^ n ∧ ∀ j, i < j → out[j]?.getD 0 = 0) ?_ ?_ ?_
  · exact ⟨hx1, List.replicate (x.length + 1) 0, hO, by simp, by simp [List.take_replicate, val_zeros, val], by simp [Nat.pow_pos], fun j hj => by rw [List.getElem?_replicate]; split <;> rfl⟩
  · rintro i F2 G2 H2 hi hF ⟨hx2, out, hO2, hol, hval, hlt, hz⟩ K hK
    simp at hF
    simp [hF]
    refine tx_elem (R := U32R) (n := i) (by simpa using (hX.ext hx2).row) (by simp [hF]) (gtE hi) (by simp) (by simp) (by simp) (.inr rfl) ?_
    rintro p u ⟨rfl, hu⟩
    obtain ⟨y, hy⟩ : ∃ y, x[i] = y := ⟨_, rfl⟩
    rw [hy] at hu
    have hy2 : x[i]?.getD 0 = y := by rw [gtE hi, hy]; rfl
    have h2n : 2 ^ n ≤ 2 ^ 31 := Nat.pow_le_pow_right (by decide) (by omega)
    obtain ⟨t, ht⟩ : ∃ t, y * 2 ^ n = t := ⟨_, rfl⟩
    have htl : t < 4294967296 * 2 ^ n := by rw [← ht]; exact Nat.mul_lt_mul_of_pos_right hu (Nat.pow_pos (by decide))
    have ht' : (y : Int) * 2 ^ n = (t : Int) := by rw [← ht]; push_cast; rfl
    have hsh : IntKind.u64.wrap ((y : Int) * 2 ^ n) = (t : Int) := by rw [ht', wu64 (by omega) (by omega)]
    have hyw : IntKind.u64.wrap (y : Int) = (y : Int) := wu64 (by omega) (by omega)
    have hn64 : min n 64 = n := by omega
    have hn0 : ¬ ((n : Int) < 0) := by omega
    simp [hy, hyw, hn64, hn0, hsh, hF]
    refine tx_elem (R := U32R) (n := i) (by simpa using hO2.row) (by simp) (gtE (show i < out.length by omega)) (by simp) (by simp) (by simp) (.inr rfl) ?_
    rintro p2 u2 ⟨rfl, hu2⟩
    have hh : out[i]?.getD 0 = out[i] := by rw [gtE (by omega)]; rfl
    rw [hh] at hlt
    generalize out[i]'(by omega) = h at *
    obtain ⟨tl, htl'⟩ : ∃ tl, t % 4294967296 = tl := ⟨_, rfl⟩
    obtain ⟨th, hth'⟩ : ∃ th, t / 4294967296 = th := ⟨_, rfl⟩
    obtain ⟨s, hs⟩ : ∃ s, h + tl = s := ⟨_, rfl⟩
    have ht32 : IntKind.u32.wrap (t : Int) = (tl : Int) := by rw [wu32m]; omega
    have hmul : tl = 2 ^ n * (tl / 2 ^ n) := by
      have h1 : 2 ^ n ∣ tl := by
        have : (4294967296 : Nat) = 2 ^ n * 2 ^ (32 - n) := by rw [← Nat.pow_add]; rw [show n + (32 - n) = 32 by omega]
        rw [← htl', ← ht, this, Nat.mul_comm y, Nat.mul_mod_mul_left]
        exact Nat.dvd_mul_right _ _
      exact (Nat.mul_div_cancel' h1).symm
    have hsum : s < 4294967296 := by
      have this : (4294967296 : Nat) = 2 ^ n * 2 ^ (32 - n) := by rw [← Nat.pow_add]; rw [show n + (32 - n) = 32 by omega]
      have hq : tl / 2 ^ n < 2 ^ (32 - n) := by
        refine (Nat.div_lt_iff_lt_mul (Nat.pow_pos (by decide))).2 ?_
        rw [Nat.mul_comm (2 ^ (32 - n)), ← this]
        omega
      have hq2 : 2 ^ n * (tl / 2 ^ n + 1) ≤ 2 ^ n * 2 ^ (32 - n) := Nat.mul_le_mul_left _ hq
      rw [Nat.mul_add, Nat.mul_one, ← hmul, ← this] at hq2
      omega
    have hor : or32 (h : Int) (tl : Int) = (s : Int) := by
      unfold or32
      rw [BitVec.ofInt_natCast, BitVec.ofInt_natCast, BitVec.toNat_or, BitVec.toNat_ofNat, BitVec.toNat_ofNat, Nat.mod_eq_of_lt (show h < 2 ^ 32 by omega), Nat.mod_eq_of_lt (by omega)]
      have h2 := Nat.two_pow_add_eq_or_of_lt (i := n) (b := h) hlt (tl / 2 ^ n)
      rw [← hmul] at h2
      rw [Nat.or_comm, ← h2, wu32 (by omega) (by omega)]
      omega
    simp [ht32, hor]
    refine tx_put (R := U32R) (n := i) (a := s) (by simpa using hO2) (by simp) (by omega) ⟨by simp, hsum⟩ (by simpa using wh_u32 _) (by simp) (fun _ _ _ _ _ h => h) (by simp) (by simp) (by simp) (by decide) ?_
    rintro p3 H3 hO3 hx3 - - -
    simp at hO3
    have hx3' := hx3 H (Nat.le_refl _) hx2
    have hi1 : IntKind.i64.wrap ((i : Int) + 1) = ((i + 1 : Nat) : Int) := by rw [w64 (by omega) (by omega)]; simp
    have hsr : IntKind.u32.wrap ((t : Int).fdiv 4294967296) = (th : Int) := by
      rw [fdivp _ (by decide), wu32 (by omega) (by omega)]
      omega
    simp [hF, hi1, hsr]
    have hth : th < 2 ^ n := by omega
    refine tx_put (R := U32R) (n := i + 1) (a := th) (by simpa using hO3) (by simp) (by simp; omega) ⟨by simp, by omega⟩ (by simpa using wh_u32 _) (by simp) (fun _ _ _ _ _ h => h) (by simp) (by simp) (by simp) (by decide) ?_
    rintro p4 H4 hO4 hx4 - - -
    simp at hO4
    simp
    refine hK _ _ _ (by simp [hF]) ⟨hx4 H (Nat.le_refl _) hx3', _, by simpa using hO4, by simp [hol], ?_, ?_, ?_⟩
    · rw [List.take_succ_eq_append_getElem (by simp; omega), List.take_set_of_le (by omega), List.getElem_set_self, val_append, val_set _ _ _ (by omega)]
      rw [val_take_succ, hh] at hval
      rw [val_take_succ, hy2]
      simp [val, Nat.min_eq_left (show i + 1 ≤ out.length by omega)]
      rw [Nat.add_mul, ← hval, Nat.mul_assoc, ht, Nat.pow_succ, ← hs]
      have : t = tl + 4294967296 * th := by omega
      rw [this]
      grind
    · rw [List.getElem?_set_self (by simp; omega)]; exact hth
    · intro j hj
      rw [List.getElem?_set_ne (by omega), List.getElem?_set_ne (by omega)]
      exact hz j (by omega)
  · rintro F2 G2 H2 hF ⟨hx2, out, hO2, hol, hval, -, -⟩
    simp [retOf]
    refine hQ _ _ ⟨hx2, out, hO2, hol, ?_⟩
    rw [List.take_of_length_le (by omega), List.take_length] at hval
    exact hval
theorem val_digits {N : Nat} : ∀ (l : List Nat) (m : Nat), (∀ i, i < l.length → l[i]?.getD 0 = N / 4294967296 ^ (m + i) % 4294967296) → N / 4294967296 ^ m < 4294967296 ^ l.length → val l = N / 4294967296 ^ m
  | [], m, h, hN => by simp only [List.length_nil, Nat.pow_zero, Nat.lt_one_iff] at hN; rw [hN]; rfl
  | x :: l, m, h, hN => by
    have h0 := h 0 (by simp)
    simp at h0
    have hd : N / 4294967296 ^ (m + 1) = N / 4294967296 ^ m / 4294967296 := by rw [Nat.pow_succ, Nat.div_div_eq_div_mul]
    have ih := val_digits l (m + 1) (fun i hi => by have := h (i + 1) (by simpa using hi); simp at this; rw [this, Nat.add_assoc, Nat.add_comm 1 i]) (by
      rw [hd]
      simp only [List.length_cons, Nat.pow_succ] at hN
      exact (Nat.div_lt_iff_lt_mul (by decide)).2 hN)
    simp only [val]
    rw [ih, hd]
    omega
theorem val_shift (x : List Nat) (hx : ∀ y ∈ x, y < 4294967296) : ∀ i, val x / 4294967296 ^ i = val (x.drop i)
  | 0 => by simp
  | i + 1 => by
    rw [Nat.pow_succ, ← Nat.div_div_eq_div_mul, val_shift x hx i]
    by_cases hi : i < x.length
    · rw [val_drop _ _ hi]
      have : x[i]?.getD 0 < 4294967296 := by rw [gtE hi]; exact hx _ (List.getElem_mem hi)
      omega
    · rw [List.drop_eq_nil_of_le (by omega), List.drop_eq_nil_of_le (by omega)]
      simp [val]
theorem shr_limb (x : List Nat) (hx : ∀ y ∈ x, y < 4294967296) (i n : Nat) (hn : n < 32) : val x / 2 ^ n / 4294967296 ^ i % 4294967296 = (x[i]?.getD 0 + 4294967296 * (x[i + 1]?.getD 0)) / 2 ^ n % 4294967296 := by
  rw [Nat.div_div_eq_div_mul, Nat.mul_comm, ← Nat.div_div_eq_div_mul, val_shift x hx i]
  have e : (4294967296 : Nat) = 2 ^ n * 2 ^ (32 - n) := by rw [← Nat.pow_add]; rw [show n + (32 - n) = 32 by omega]
  have hv : val (x.drop i) = x[i]?.getD 0 + 4294967296 * (x[i + 1]?.getD 0) + 2 ^ n * (4294967296 * (2 ^ (32 - n) * val (x.drop (i + 2)))) := by
    have h2 : val (x.drop i) = x[i]?.getD 0 + 4294967296 * (x[i + 1]?.getD 0 + 4294967296 * val (x.drop (i + 2))) := by
      by_cases hi : i < x.length
      · rw [val_drop _ _ hi]
        by_cases hi2 : i + 1 < x.length
        · rw [val_drop _ _ hi2]
        · rw [List.drop_eq_nil_of_le (show x.length ≤ i + 1 by omega), List.drop_eq_nil_of_le (by omega), List.getElem?_eq_none (l := x) (i := i + 1) (by omega)]; simp [val]
      · rw [List.drop_eq_nil_of_le (by omega), List.drop_eq_nil_of_le (by omega), List.getElem?_eq_none (by omega), List.getElem?_eq_none (by omega)]; simp [val]
    rw [h2, Nat.mul_left_comm (2 ^ n), ← Nat.mul_assoc (2 ^ n), ← e]
    omega
  rw [hv, Nat.add_mul_div_left _ _ (Nat.pow_pos (by decide)), Nat.add_mul_mod_self_left]
theorem down_spec {v : Value} {x : List Nat} {n : Nat} {H : SHeap} (hX : Us H 124 v x) (hl : x.length < 1048576) (hn : n < 32) :
    SW prog 126 [v, .int .i64 n] H (fun v' H1 => Ext H H1 ∧ ∃ l, Us H1 124 v' l ∧ Trim l ∧ val l = val x / 2 ^ n) := by
  refine SW.cps fun Q hQ => ?_
  apply into_num_down (by simp)
  simp [Z_num_down]
  refine tx_lnR (by simpa using hX.row) (by simp) ?_
  refine tx_mk (e := 124) (sz := 1) (by_ := 4) (n := x.length) (ag := false) (z := .int .u32 0) (R := U32R) (a := 0) (kl := .i64) (kc := .i64) (by simp) (by simp) (by simp) (by simp) (by rfl) (by simp) wz_u32 (by simp) (by simp) (by omega) (by omega) (by omega) (fun H' => ⟨rfl, by decide⟩) ?_
  rintro o H1 hO hx1 -
  simp
  refine tx_lnR (by simpa using (hX.ext hx1).row) (by simp) ?_
  simp
  refine LoopZt.range (by kernel_rfl) x.length (by omega) (by simp) (by rfl) (by simp) (by decide) (by decide) (fun i F2 G2 H2 => Ext H H2 ∧ ∃ out : List Nat, OwR H.length 124 1 false U32R H2 o out ∧ out.length = x.length ∧ ∀ j, j < i → out[j]?.getD 0 = val x / 2 ^ n / 4294967296 ^ j % 4294967296) ?_ ?_ ?_
  · exact ⟨hx1, List.replicate x.length 0, hO, by simp, fun j hj => by omega⟩
  · rintro i F2 G2 H2 hi hF ⟨hx2, out, hO2, hol, hval⟩ K hK
    simp at hF
    simp [hF]
    refine tx_elem (R := U32R) (n := i) (by simpa using (hX.ext hx2).row) (by simp [hF]) (gtE hi) (by simp) (by simp) (by simp) (.inr rfl) ?_
    rintro p u ⟨rfl, hu⟩
    obtain ⟨y, hy⟩ : ∃ y, x[i] = y := ⟨_, rfl⟩
    rw [hy] at hu
    have hy2 : x[i]?.getD 0 = y := by rw [gtE hi, hy]; rfl
    have hyw : IntKind.u64.wrap (y : Int) = (y : Int) := wu64 (by omega) (by omega)
    have hi1 : IntKind.i64.wrap ((i : Int) + 1) = ((i + 1 : Nat) : Int) := by rw [w64 (by omega) (by omega)]; simp
    simp [hy, hyw, hi1]
    obtain ⟨z, hz⟩ : ∃ z, x[i + 1]?.getD 0 = z := ⟨_, rfl⟩
    have hzl : z < 4294967296 := hz ▸ hX.lt _
    refine ZXt.join (by kernel_rfl) (fun F3 G3 H3 => H3 = H2 ∧ ∃ t : Nat, F3 7 = .int .u64 t ∧ t = y + 4294967296 * z) ?_ ?_
    · rintro K' hn' -
      simp [hi1]
      refine tx_lnR (by simpa using (hX.ext hx2).row) (by simp) ?_
      simp
      refine Brt.mkD (fun hlt => ?_) (fun hlt => ?_)
      · simp [hi1]
        have hi2 : i + 1 < x.length := by omega
        refine tx_elem (R := U32R) (n := i + 1) (by simpa using (hX.ext hx2).row) (by simp) (gtE hi2) (by simp) (by simp) (by simp) (.inr rfl) ?_
        rintro p u ⟨rfl, hu3⟩
        have hz' : x[i + 1] = z := by rw [gtE hi2] at hz; exact hz
        have hzw : IntKind.u64.wrap (z : Int) = (z : Int) := wu64 (by omega) (by omega)
        obtain ⟨s, hs⟩ : ∃ s, z * 4294967296 = s := ⟨_, rfl⟩
        have hzs : IntKind.u64.wrap ((z : Int) * 4294967296) = (s : Int) := by rw [wu64 (by omega) (by omega)]; omega
        have hj := or_join (r := z) hzl hu
        rw [hs] at hj
        have hj2 : or64 (y : Int) (s : Int) = ((s + y : Nat) : Int) := by
          rw [← hj]; unfold or64; congr 2; rw [BitVec.or_comm]
        obtain ⟨t, ht⟩ : ∃ t, s + y = t := ⟨_, rfl⟩
        rw [ht] at hj2
        simp [hz', hzw, hzs, hj2]
        exact hn' _ _ _ ⟨rfl, t, by simp, by omega⟩
      · have hz0 : z = 0 := by rw [← hz, List.getElem?_eq_none (by omega)]; rfl
        exact hn' _ _ _ ⟨rfl, y, by simp, by omega⟩
    · rintro F3 G3 H3 ⟨rfl, t, h7, ht⟩
      simp at h7
      have hlimb := shr_limb x hX.2 i n hn
      rw [hy2, hz] at hlimb
      rw [← ht] at hlimb
      obtain ⟨w, hw⟩ : ∃ w, t / 2 ^ n % 4294967296 = w := ⟨_, rfl⟩
      have hn64 : min n 64 = n := by omega
      have hn0 : ¬ ((n : Int) < 0) := by omega
      have hsw : IntKind.u32.wrap ((t : Int).fdiv (2 ^ n)) = (w : Int) := by
        rw [fdivp _ (by exact_mod_cast Nat.zero_le _), wu32m, ← hw]
        rw [Int.natCast_emod, Int.natCast_ediv, Int.natCast_pow]
        rfl
      simp [h7, hn64, hn0, hsw]
      refine tx_put (R := U32R) (n := i) (a := w) (by simpa using hO2) (by simp) (by omega) ⟨by simp, by omega⟩ (by simpa using wh_u32 _) (by simp) (fun _ _ _ _ _ h => h) (by simp) (by simp) (by simp) (by decide) ?_
      rintro p3 H4 hO3 hx3 - - -
      simp at hO3
      simp
      refine hK _ _ _ (by simp [hF]) ⟨hx3 H (Nat.le_refl _) hx2, _, by simpa using hO3, by simp [hol], fun j hj => ?_⟩
      by_cases hji : j = i
      · subst hji
        rw [List.getElem?_set_self (by omega), hlimb, hw]
        rfl
      · rw [List.getElem?_set_ne (Ne.symm hji)]
        exact hval j (by omega)
  · rintro F2 G2 H2 hF ⟨hx2, out, hO2, hol, hval⟩
    simp
    have hU : Us H2 124 o out := hO2.row.us
    refine SWt.mk (trim_spec hU (by omega)) ?_
    rintro v H3 ⟨rfl, l, hl1, hl2, hl3, -⟩
    simp [retOf]
    refine hQ _ _ ⟨hx2, l, hl1, hl2, ?_⟩
    have := val_digits out 0 (fun j hj => by rw [hval j (by omega), Nat.zero_add]) (by
      rw [Nat.pow_zero, Nat.div_one, hol]
      exact Nat.lt_of_le_of_lt (Nat.div_le_self _ _) (val_lt hX.2))
    rw [hl3, this, Nat.pow_zero, Nat.div_one]
end Go.Sx
end
section
set_option maxRecDepth 8000
namespace Go.Sx
section
variable {E ul u0 top vl vs vt : Nat}
theorem guess_ge (hul : ul < E) (hu0 : u0 < 4294967296) (hvt : 0 < vt) : (ul + E * (u0 + 4294967296 * top)) / (vl + E * (vs + 4294967296 * vt)) ≤ top / vt := by
  have hE : 0 < E := by omega
  rw [Nat.le_div_iff_mul_le hvt]
  generalize hq : (ul + E * (u0 + 4294967296 * top)) / (vl + E * (vs + 4294967296 * vt)) = q
  have h1 : q * (vl + E * (vs + 4294967296 * vt)) ≤ ul + E * (u0 + 4294967296 * top) := by rw [← hq]; exact Nat.div_mul_le_self _ _
  have h2 : E * (4294967296 * (q * vt)) ≤ q * (vl + E * (vs + 4294967296 * vt)) := by
    have : q * (vl + E * (vs + 4294967296 * vt)) = q * vl + q * E * vs + E * (4294967296 * (q * vt)) := by grind
    omega
  have h3 : ul + E * (u0 + 4294967296 * top) < E * (4294967296 * (top + 1)) := by
    have : E * (u0 + 1) ≤ E * 4294967296 := Nat.mul_le_mul_left _ hu0
    grind
  have h4 : E * (4294967296 * (q * vt)) < E * (4294967296 * (top + 1)) := by omega
  have h5 := Nat.lt_of_mul_lt_mul_left h4
  omega
theorem guess_step {g r : Nat} (hul : ul < E) (ht : g * vt + r = top) (h : r * 4294967296 + u0 < g * vs) : (ul + E * (u0 + 4294967296 * top)) / (vl + E * (vs + 4294967296 * vt)) < g := by
  have hE : 0 < E := by omega
  have hg : 0 < g := by
    rcases Nat.eq_zero_or_pos g with q | q
    · subst q; simp at h
    · exact q
  have hv : 0 < vs := by
    rcases Nat.eq_zero_or_pos vs with q | q
    · subst q; simp at h
    · exact q
  have hV : 0 < vl + E * (vs + 4294967296 * vt) := by
    have := Nat.mul_pos hE hv
    have : E * vs ≤ E * (vs + 4294967296 * vt) := Nat.mul_le_mul_left _ (by omega)
    omega
  rw [Nat.div_lt_iff_lt_mul hV]
  have h1 : u0 + 4294967296 * top + 1 ≤ g * (vs + 4294967296 * vt) := by
    rw [← ht]
    have : g * (vs + 4294967296 * vt) = g * vs + 4294967296 * (g * vt) := by grind
    omega
  have h2 : E * (u0 + 4294967296 * top + 1) ≤ E * (g * (vs + 4294967296 * vt)) := Nat.mul_le_mul_left _ h1
  have h3 : g * (vl + E * (vs + 4294967296 * vt)) = g * vl + E * (g * (vs + 4294967296 * vt)) := by grind
  have h4 : E * (u0 + 4294967296 * top + 1) = E * (u0 + 4294967296 * top) + E := by rw [Nat.mul_add, Nat.mul_one]
  omega
theorem guess_le {g r : Nat} (hvl : vl < E) (hvt : 0 < vt) (hg : g < 4294967296) (ht : g * vt + r = top) (h : g * vs ≤ r * 4294967296 + u0) : g ≤ (ul + E * (u0 + 4294967296 * top)) / (vl + E * (vs + 4294967296 * vt)) + 1 := by
  have hE : 0 < E := by omega
  rcases Nat.eq_zero_or_pos g with q | q
  · rw [q]; exact Nat.zero_le _
  have hV : 0 < vl + E * (vs + 4294967296 * vt) := by
    have : 0 < E * (vs + 4294967296 * vt) := Nat.mul_pos hE (by omega)
    omega
  have h0 : g - 1 ≤ (ul + E * (u0 + 4294967296 * top)) / (vl + E * (vs + 4294967296 * vt)) := by
    rw [Nat.le_div_iff_mul_le hV]
    have h1 : g * (vs + 4294967296 * vt) ≤ u0 + 4294967296 * top := by
      rw [← ht]
      have : g * (vs + 4294967296 * vt) = g * vs + 4294967296 * (g * vt) := by grind
      omega
    have h2 : E * (g * (vs + 4294967296 * vt)) ≤ E * (u0 + 4294967296 * top) := Nat.mul_le_mul_left _ h1
    have h3 : g * (vl + E * (vs + 4294967296 * vt)) = g * vl + E * (g * (vs + 4294967296 * vt)) := by grind
    have h4 : g * vl ≤ g * E := Nat.mul_le_mul_left _ (by omega)
    have h5 : g * E ≤ 4294967296 * E := Nat.mul_le_mul_right _ (by omega)
    have h6 : E * 4294967296 ≤ E * (vs + 4294967296 * vt) := Nat.mul_le_mul_left _ (by omega)
    have h7 : (g - 1) * (vl + E * (vs + 4294967296 * vt)) + (vl + E * (vs + 4294967296 * vt)) = g * (vl + E * (vs + 4294967296 * vt)) := by
      rw [← Nat.succ_mul]; congr 1; omega
    rw [Nat.mul_comm E 4294967296] at h6
    omega
  exact Nat.sub_le_iff_le_add.1 h0
theorem guess_far {g r : Nat} (hvl : vl < E) (hvs : vs < 4294967296) (hvt : 0 < vt) (hg : g < 4294967296) (ht : g * vt + r = top) (hr : 4294967296 ≤ r) : g ≤ (ul + E * (u0 + 4294967296 * top)) / (vl + E * (vs + 4294967296 * vt)) := by
  have hE : 0 < E := by omega
  have hV : 0 < vl + E * (vs + 4294967296 * vt) := by
    have : 0 < E * (vs + 4294967296 * vt) := Nat.mul_pos hE (by omega)
    omega
  rw [Nat.le_div_iff_mul_le hV]
  have h1 : vl + E * (vs + 4294967296 * vt) ≤ E * (4294967296 * (vt + 1)) := by
    have : E * (vs + 1) ≤ E * 4294967296 := Nat.mul_le_mul_left _ hvs
    grind
  have h2 : g * (vl + E * (vs + 4294967296 * vt)) ≤ g * (E * (4294967296 * (vt + 1))) := Nat.mul_le_mul_left _ h1
  have h3 : g * (E * (4294967296 * (vt + 1))) = E * (4294967296 * (g * vt + g)) := by grind
  have h4 : E * (4294967296 * (g * vt + g)) ≤ E * (4294967296 * top) := Nat.mul_le_mul_left _ (Nat.mul_le_mul_left _ (by omega))
  have h5 : E * (4294967296 * top) ≤ E * (u0 + 4294967296 * top) := Nat.mul_le_mul_left _ (by omega)
  omega
end
theorem val_top3 (l : List Nat) (n : Nat) (hl : l.length = n + 1) (hn : 2 ≤ n) : val l = val (l.take (n - 2)) + 4294967296 ^ (n - 2) * (l[n - 2]?.getD 0 + 4294967296 * (l[n - 1]?.getD 0 + 4294967296 * (l[n]?.getD 0))) := by
  have e0 : l.take (n + 1) = l := by rw [← hl, List.take_length]
  have h1 := val_take_succ l n
  have h2 := val_take_succ l (n - 1)
  have h3 := val_take_succ l (n - 2)
  rw [show n - 1 + 1 = n by omega] at h2
  rw [show n - 2 + 1 = n - 1 by omega] at h3
  rw [e0] at h1
  rw [h1, h2, h3]
  have p1 : (4294967296 : Nat) ^ (n - 1) = 4294967296 ^ (n - 2) * 4294967296 := by rw [← Nat.pow_succ]; congr 1; omega
  have p2 : (4294967296 : Nat) ^ n = 4294967296 ^ (n - 2) * 4294967296 * 4294967296 := by rw [← Nat.pow_succ, ← Nat.pow_succ]; congr 1; omega
  rw [p1, p2]
  generalize (4294967296 : Nat) ^ (n - 2) = E
  grind
theorem val_top2 (l : List Nat) (n : Nat) (hl : l.length = n) (hn : 2 ≤ n) : val l = val (l.take (n - 2)) + 4294967296 ^ (n - 2) * (l[n - 2]?.getD 0 + 4294967296 * (l[n - 1]?.getD 0)) := by
  have e0 : l.take n = l := by rw [← hl, List.take_length]
  have h2 := val_take_succ l (n - 1)
  have h3 := val_take_succ l (n - 2)
  rw [show n - 1 + 1 = n by omega, e0] at h2
  rw [show n - 2 + 1 = n - 1 by omega] at h3
  rw [h2, h3]
  have p1 : (4294967296 : Nat) ^ (n - 1) = 4294967296 ^ (n - 2) * 4294967296 := by rw [← Nat.pow_succ]; congr 1; omega
  rw [p1]
  generalize (4294967296 : Nat) ^ (n - 2) = E
  grind
def u32s (l : List Nat) : List Value := l.map fun (n : Nat) => Value.int .u32 (n : Int)
section
variable {P : Program} {r : List XOp} {F : Fr} {H : SHeap} {Q : Fr → SHeap → Prop}
theorem tx_rdW {d t d2 e n b o cap : Nat} {l : Bool} {x i : Operand} {pre post : List Value} {us : List Nat} {tk : Tok (ia d t x i :: ld d2 e (T d) :: r) Q} (hX : H[b]? = some (.own e l (pre ++ (u32s us ++ post)))) (ho : pre.length = o) (hx : fev F x = .slice (some ⟨b, o, none⟩) us.length cap) (hi : fev F i = .int .i64 (n : Int)) (hn : n < us.length)
    (ht : sliceE P t = some e) (hs : sz? P e = some 1) (hag : aggB P e = some false) (K : ∀ p, XWt P r Q .mk (upd (upd F d p) d2 (.int .u32 ((us[n]?.getD 0 : Nat) : Int))) H) : XWt P (ia d t x i :: ld d2 e (T d) :: r) Q tk F H := by
  rw [tx_ia, hx, hi, OnSlt_sl, OnIt_int, ht, Gett_some, hs, Gett_some, OnAt_a]
  refine Chkt.mk ⟨by omega, by omega⟩ ?_
  rw [tx_ld]
  simp only [fev_T, upd_same, OnPt_ptr, hX, Option.bind_some, SObj.cells?, Gett_some, hag, Int.toNat_natCast, Brt_false]
  have : (pre ++ (u32s us ++ post))[o + n * 1]? = some (.int .u32 ((us[n]?.getD 0 : Nat) : Int)) := by
    unfold u32s
    rw [List.getElem?_append_right (by omega), List.getElem?_append_left (by simp; omega), List.getElem?_map]
    rw [show o + n * 1 - pre.length = n by omega, gtE hn]
    rfl
  rw [this, Gett_some]
  exact K _
theorem tx_rdWg {j d t d2 e n b o cap : Nat} {w l : Bool} {x i : Operand} {pre post : List Value} {us : List Nat} {tk : Tok (ia d t x i :: gd j w (ld d2 e (T d)) :: r) Q} (hg : boolOf (F j) = some w) (hjd : j ≠ d) (hX : H[b]? = some (.own e l (pre ++ (u32s us ++ post)))) (ho : pre.length = o) (hx : fev F x = .slice (some ⟨b, o, none⟩) us.length cap) (hi : fev F i = .int .i64 (n : Int)) (hn : n < us.length)
    (ht : sliceE P t = some e) (hs : sz? P e = some 1) (hag : aggB P e = some false) (K : ∀ p, XWt P r Q .mk (upd (upd F d p) d2 (.int .u32 ((us[n]?.getD 0 : Nat) : Int))) H) : XWt P (ia d t x i :: gd j w (ld d2 e (T d)) :: r) Q tk F H := by
  have h0 : XWt P (ia d t x i :: ld d2 e (T d) :: r) Q .mk F H := tx_rdW hX ho hx hi hn ht hs hag K
  rw [tx_ia, hx, hi, OnSlt_sl, OnIt_int, ht, Gett_some, hs, Gett_some, OnAt_a] at h0 ⊢
  exact ⟨h0.1, tx_gone (by rw [upd_ne _ _ hjd]; exact hg) h0.2⟩
theorem tx_wrW {d t e n b o cap z : Nat} {l : Bool} {x i y : Operand} {pre post : List Value} {us : List Nat} {tk : Tok (ia d t x i :: st e (T d) y :: r) Q} (hX : H[b]? = some (.own e l (pre ++ (u32s us ++ post)))) (ho : pre.length = o) (hx : fev F x = .slice (some ⟨b, o, none⟩) us.length cap) (hi : fev F i = .int .i64 (n : Int)) (hn : n < us.length)
    (hy : ∀ v, fev (upd F d v) y = .int .u32 (z : Int)) (ht : sliceE P t = some e) (hs : sz? P e = some 1) (K : ∀ p, XWt P r Q .mk (upd F d p) (H.set b (.own e l (pre ++ (u32s (us.set n z) ++ post))))) : XWt P (ia d t x i :: st e (T d) y :: r) Q tk F H := by
  rw [tx_ia, hx, hi, OnSlt_sl, OnIt_int, ht, Gett_some, hs, Gett_some, OnAt_a]
  refine Chkt.mk ⟨by omega, by omega⟩ ?_
  rw [tx_st]
  simp only [fev_T, upd_same, OnPt_ptr, hX, OnOwnt_o, Int.toNat_natCast, hy]
  refine Chkt.mk ⟨by rw [hs]; rfl, by simp [u32s]; omega, by simp⟩ ?_
  have : wrc (pre ++ (u32s us ++ post)) (o + n * 1) (Value.int IntKind.u32 (z : Int)).cells.toList = pre ++ (u32s (us.set n z) ++ post) := by
    show (pre ++ (u32s us ++ post)).set (o + n * 1) (.int .u32 (z : Int)) = _
    unfold u32s
    rw [List.set_append_right _ _ (by omega), List.set_append_left _ _ (by simp; omega)]
    rw [show o + n * 1 - pre.length = n by omega, List.map_set]
  rw [hy, this]
  exact K _
end
end Go.Sx
end
section
set_option maxRecDepth 8000
namespace Go.Sx
open Go.Proofs
open Go.Proofs.Tryz (prog)
attribute [-simp] tx_ia tx_ln
theorem set_self {H : SHeap} {b : Nat} {X : SObj} (h : H[b]? = some X) : H.set b X = H := by
  apply List.ext_getElem?
  intro i
  by_cases hi : b = i
  · subst hi; rw [List.getElem?_set_self (gsI.1 h).1, h]
  · rw [List.getElem?_set_ne hi]
theorem digit_spec {v : Value} {b o cap m : Nat} {l : Bool} {pre post : List Value} {us vs : List Nat} {H : SHeap} (hX : H[b]? = some (.own 124 l (pre ++ (u32s us ++ post)))) (ho : pre.length = o) (hus : us.length = m + 3) (hul : ∀ x ∈ us, x < 4294967296)
    (hV : ∀ X, (∀ e cs, X ≠ .ro e cs) → Us (H.set b X) 124 v vs) (hvs : vs.length = m + 2) (hm : m < 1048576) (hvt : vs[m + 1]?.getD 0 ≠ 0) (hlt : val us < 4294967296 * val vs) :
    SW prog 125 [.slice (some ⟨b, o, none⟩) (m + 3) cap, v] H (fun w H1 => (∃ q : Nat, w = .int .u32 (q : Int) ∧ q = val us / val vs) ∧ ∃ us', H1 = H.set b (.own 124 l (pre ++ (u32s us' ++ post))) ∧ us'.length = m + 3 ∧ (∀ x ∈ us', x < 4294967296) ∧ val us' = val us % val vs) := by
  refine SW.cps fun Q hQ => ?_
  apply into_num_digit (by simp)
  have hbl := (gsI.1 hX).1
  have hVs := fun us' : List Nat => hV (.own 124 l (pre ++ (u32s us' ++ post))) (by simp)
  have hVr : Row 124 1 false U32R H v vs := by
    have := (hVs us).row
    rwa [set_self hX] at this
  obtain ⟨va, vc, rfl⟩ := hVr.len
  rw [hvs] at hV hVs hVr ⊢
  have hn1 : IntKind.i64.wrap ((m : Int) + 2 - 1) = (m : Int) + 1 := by rw [w64 (by omega) (by omega)]; omega
  have hwm : IntKind.i64.wrap (m : Int) = (m : Int) := w64 (by omega) (by omega)
  have hn2 : IntKind.i64.wrap ((m : Int) + 2 - 2) = (m : Int) := by rw [w64 (by omega) (by omega)]; omega
  obtain ⟨u2, hu2⟩ : ∃ x, us[m + 2]?.getD 0 = x := ⟨_, rfl⟩
  obtain ⟨u1, hu1⟩ : ∃ x, us[m + 1]?.getD 0 = x := ⟨_, rfl⟩
  obtain ⟨u0, hu0⟩ : ∃ x, us[m]?.getD 0 = x := ⟨_, rfl⟩
  obtain ⟨vt, hvt'⟩ : ∃ x, vs[m + 1]?.getD 0 = x := ⟨_, rfl⟩
  obtain ⟨v0, hv0'⟩ : ∃ x, vs[m]?.getD 0 = x := ⟨_, rfl⟩
  have hUl : ∀ k, us[k]?.getD 0 < 4294967296 := fun k => getD_lt (by decide) hul k
  have hVl : ∀ k, vs[k]?.getD 0 < 4294967296 := fun k => getD_lt (by decide) (hVs us).2 k
  have lu2 := hu2 ▸ hUl (m + 2)
  have lu1 := hu1 ▸ hUl (m + 1)
  have lu0 := hu0 ▸ hUl m
  have lvt := hvt' ▸ hVl (m + 1)
  have lv0 := hv0' ▸ hVl m
  rw [hvt'] at hvt
  have hvte : vs[m + 1]? = some vt := by rw [← hvt', gtE (by omega)]; rfl
  have hv0e : vs[m]? = some v0 := by rw [← hv0', gtE (by omega)]; rfl
  obtain ⟨top, htop⟩ : ∃ x, u2 * 4294967296 + u1 = x := ⟨_, rfl⟩
  obtain ⟨E, hE⟩ : ∃ E, 4294967296 ^ m = E := ⟨_, rfl⟩
  have hUv : val us = val (us.take m) + E * (u0 + 4294967296 * top) := by
    have := val_top3 us (m + 2) hus (by omega)
    simp only [Nat.add_sub_cancel, show m + 2 - 1 = m + 1 by omega, hu0, hu1, hu2, hE] at this
    rw [this, ← htop]
    grind
  have hVv : val vs = val (vs.take m) + E * (v0 + 4294967296 * vt) := by
    have := val_top2 vs (m + 2) hvs (by omega)
    simpa only [Nat.add_sub_cancel, show m + 2 - 1 = m + 1 by omega, hv0', hvt', hE] using this
  have hul' : val (us.take m) < E := by
    have := val_lt (l := us.take m) fun x hx => hul x (List.mem_of_mem_take hx)
    rwa [List.length_take, Nat.min_eq_left (by omega), hE] at this
  have hvl' : val (vs.take m) < E := by
    have := val_lt (l := vs.take m) fun x hx => (hVs us).2 x (List.mem_of_mem_take hx)
    rwa [List.length_take, Nat.min_eq_left (by omega), hE] at this
  have hvt0 : 0 < vt := by omega
  obtain ⟨q, hq⟩ : ∃ q, val us / val vs = q := ⟨_, rfl⟩
  have hVpos : 0 < val vs := by
    rw [hVv]
    have : 0 < E * (v0 + 4294967296 * vt) := Nat.mul_pos (by omega) (by omega)
    omega
  have hqB : q < 4294967296 := by rw [← hq, Nat.div_lt_iff_lt_mul hVpos]; exact hlt
  have htopB : top < 4294967296 * vt + 4294967296 := by
    have h1 : E * (4294967296 * top) < 4294967296 * (E * (4294967296 * (vt + 1))) := by
      have a1 : E * (4294967296 * top) ≤ val us := by rw [hUv]; have : E * (4294967296 * top) ≤ E * (u0 + 4294967296 * top) := Nat.mul_le_mul_left _ (by omega); omega
      have a2 : val vs < E * (4294967296 * (vt + 1)) := by
        rw [hVv]
        have : E * (v0 + 1) ≤ E * 4294967296 := Nat.mul_le_mul_left _ lv0
        grind
      omega
    have h2 : E * (4294967296 * top) < E * (4294967296 * (4294967296 * (vt + 1))) := by
      have : 4294967296 * (E * (4294967296 * (vt + 1))) = E * (4294967296 * (4294967296 * (vt + 1))) := by grind
      omega
    have := Nat.lt_of_mul_lt_mul_left h2
    omega
  have cvt : IntKind.u64.wrap (vt : Int) = (vt : Int) := wu64 (by omega) (by omega)
  have cv0 : IntKind.u64.wrap (v0 : Int) = (v0 : Int) := wu64 (by omega) (by omega)
  have cu2 : IntKind.u64.wrap (u2 : Int) = (u2 : Int) := wu64 (by omega) (by omega)
  have cu1 : IntKind.u64.wrap (u1 : Int) = (u1 : Int) := wu64 (by omega) (by omega)
  have cu0 : IntKind.u64.wrap (u0 : Int) = (u0 : Int) := wu64 (by omega) (by omega)
  obtain ⟨s2, hs2⟩ : ∃ s, u2 * 4294967296 = s := ⟨_, rfl⟩
  have hsh2 : IntKind.u64.wrap ((u2 : Int) * 4294967296) = (s2 : Int) := by rw [wu64 (by omega) (by omega)]; omega
  have htj : or64 (s2 : Int) (u1 : Int) = (top : Int) := by
    have := or_join (r := u2) lu2 lu1
    rw [hs2] at this
    rw [this]; omega
  obtain ⟨g0, hg0⟩ : ∃ g, top / vt = g := ⟨_, rfl⟩
  obtain ⟨r0, hr0⟩ : ∃ g, top % vt = g := ⟨_, rfl⟩
  have hdm := Nat.div_add_mod top vt
  rw [hg0, hr0] at hdm
  have hr0l : r0 < vt := by rw [← hr0]; exact Nat.mod_lt _ hvt0
  have hq0 : q ≤ g0 := by
    have := guess_ge (E := E) (ul := val (us.take m)) (u0 := u0) (top := top) (vl := val (vs.take m)) (vs := v0) (vt := vt) hul' lu0 hvt0
    rw [← hUv, ← hVv, hq, hg0] at this
    exact this
  have hg0l : g0 < 8589934592 := by
    rw [← hg0, Nat.div_lt_iff_lt_mul hvt0]
    omega
  have ediv : ((top : Int).tdiv vt) = (g0 : Int) := by rw [← hg0]; rfl
  have emod : ((top : Int).tmod vt) = (r0 : Int) := by rw [← hr0]; rfl
  have wdiv : IntKind.u64.wrap (g0 : Int) = (g0 : Int) := wu64 (by omega) (by omega)
  have hvt0' : ¬ ((vt : Int) = 0) := by omega
  simp [Z_num_digit, tx_ln]
  refine tx_rdW (cap := cap) (n := m + 2) hX ho (by simp [hus]) (by simp) (by omega) (by simp) (by simp) (by simp) fun p1 => ?_
  simp [hu2, cu2, hsh2, hn1]
  refine tx_rdW (cap := cap) (n := m + 1) hX ho (by simp [hus]) (by simp) (by omega) (by simp) (by simp) (by simp) fun p2 => ?_
  simp [hu1, cu1, htj, hn1]
  refine tx_elem (R := U32R) (n := m + 1) (by simpa using hVr) (by simp) hvte (by simp) (by simp) (by simp) (.inr rfl) ?_
  rintro p3 w3 ⟨rfl, -⟩
  simp [cvt, hn1, ediv, wdiv, hvt]
  refine tx_elem (R := U32R) (n := m + 1) (by simpa using hVr) (by simp) hvte (by simp) (by simp) (by simp) (.inr rfl) ?_
  rintro p4 w4 ⟨rfl, -⟩
  simp [cvt, emod, hvt]
  have hgq : ∀ g r, g * vt + r = top → (4294967296 ≤ g ∨ r * 4294967296 + u0 < g * v0) → q < g := fun g r h1 h2 => by
    rcases h2 with h2 | h2
    · omega
    · have := guess_step (E := E) (ul := val (us.take m)) (u0 := u0) (top := top) (vl := val (vs.take m)) (vs := v0) (vt := vt) hul' h1 h2
      rwa [← hUv, ← hVv, hq] at this
  have hgle : ∀ g r, g < 4294967296 → g * vt + r = top → ¬ r * 4294967296 + u0 < g * v0 → g ≤ q + 1 := fun g r h0 h1 h2 => by
    have := guess_le (E := E) (ul := val (us.take m)) (u0 := u0) (top := top) (vl := val (vs.take m)) (vs := v0) (vt := vt) hvl' hvt0 h0 h1 (by omega)
    rwa [← hUv, ← hVv, hq] at this
  have hgfar : ∀ g r, g < 4294967296 → g * vt + r = top → 4294967296 ≤ r → g ≤ q := fun g r h0 h1 h2 => by
    have := guess_far (E := E) (ul := val (us.take m)) (u0 := u0) (top := top) (vl := val (vs.take m)) (vs := v0) (vt := vt) hvl' lv0 hvt0 h0 h1 h2
    rwa [← hUv, ← hVv, hq] at this
  refine ZXt.join (by kernel_rfl) (fun F3 G3 H3 => H3 = H ∧ ∃ g : Nat, F3 7 = .int .u64 g ∧ g < 4294967296 ∧ q ≤ g ∧ g ≤ q + 1) ?_ ?_
  · rintro K' hn' -
    simp only [tzx_block, tzx_loop]
    refine LoopZt.mk (by kernel_rfl) (fun g F3 G3 H3 => H3 = H ∧ ∃ r : Nat, F3 7 = .int .u64 g ∧ F3 8 = .int .u64 r ∧ g * vt + r = top ∧ r < 4294967296 ∧ q ≤ g) g0 ⟨rfl, r0, by simp, by simp, by rw [Nat.mul_comm]; exact hdm, by omega, hq0⟩ ?_
    rintro g F3 G3 H3 ⟨rfl, r, h7, h8, hgr, hrl, hqg⟩ K hK
    simp at h7 h8
    have hgl : g < 8589934592 := by
      have : g * vt < 8589934592 * vt := by
        have : 4294967296 * vt ≤ 4294967296 * vt := Nat.le_refl _
        omega
      exact Nat.lt_of_mul_lt_mul_right this
    simp only [tzx_seq]
    refine ZXt.join (by kernel_rfl) (fun F4 G4 H4 => H4 = H3 ∧ ∃ c : Bool, F4 68 = .bool c ∧ (c = true ↔ (4294967296 ≤ g ∨ r * 4294967296 + u0 < g * v0))) ?_ ?_
    · rintro K2 hn2' -
      have hsr : ((g : Int).fdiv 4294967296) = ((g / 4294967296 : Nat) : Int) := by rw [fdivp _ (by decide)]; omega
      simp [h7, hsr]
      refine Brt.mkD (fun hc => ?_) (fun hc => ?_)
      · simp [hc]
        exact hn2' _ _ _ ⟨rfl, true, by simp, by simp; omega⟩
      · simp [hc]
        have hgB : g < 4294967296 := by omega
        refine tx_elemg (R := U32R) (n := m) (by simp [hc]) (by decide) (by simpa using hVr) (by simp [hwm]) hv0e (by simp) (by simp) (by simp) (.inr rfl) ?_
        rintro p5 w5 ⟨rfl, -⟩
        have hmul : IntKind.u64.wrap ((g : Int) * v0) = ((g * v0 : Nat) : Int) := mul_wrap hgB lv0
        obtain ⟨gv, hgv⟩ : ∃ x, g * v0 = x := ⟨_, rfl⟩
        obtain ⟨rs, hrs⟩ : ∃ x, r * 4294967296 = x := ⟨_, rfl⟩
        have hshr : IntKind.u64.wrap ((r : Int) * 4294967296) = (rs : Int) := by rw [wu64 (by omega) (by omega)]; omega
        rw [hgv] at hmul
        simp [hc, cv0, h7, h8, hmul, hshr]
        refine tx_rdWg (cap := cap) (n := m) (by simp [hc]) (by decide) hX ho (by simp [hus]) (by simp [hwm]) (by omega) (by simp) (by simp) (by simp) fun p6 => ?_
        have hj := or_join (r := r) hrl lu0
        rw [hrs] at hj
        obtain ⟨ru, hru⟩ : ∃ x, rs + u0 = x := ⟨_, rfl⟩
        rw [hru] at hj
        simp [hc, hu0, cu0, hj]
        refine hn2' _ _ _ ⟨rfl, _, by simp; rfl, ?_⟩
        simp [hgv, hrs, hru]
        omega
    · rintro F4 G4 H4 ⟨rfl, c, h68, hcc⟩
      simp at h68
      simp [h68]
      refine Brt.mk (fun hc => ?_) (fun hc => ?_)
      · have hqg' := hgq g r hgr (hcc.1 hc)
        have hg1 : IntKind.u64.wrap ((g : Int) - 1) = ((g - 1 : Nat) : Int) := by rw [wu64 (by omega) (by omega)]; omega
        obtain ⟨g', hg'⟩ : ∃ x, g - 1 = x := ⟨_, rfl⟩
        rw [hg'] at hg1
        simp [h7, hg1, h8, hn1]
        refine tx_elem (R := U32R) (n := m + 1) (by simpa using hVr) (by simp) hvte (by simp) (by simp) (by simp) (.inr rfl) ?_
        rintro p5 w5 ⟨rfl, -⟩
        obtain ⟨r', hr'⟩ : ∃ x, r + vt = x := ⟨_, rfl⟩
        have hadd : IntKind.u64.wrap ((r : Int) + vt) = (r' : Int) := by rw [wu64 (by omega) (by omega)]; omega
        have hsr : ((r' : Int).fdiv 4294967296) = ((r' / 4294967296 : Nat) : Int) := by rw [fdivp _ (by decide)]; omega
        have hgr' : g' * vt + r' = top := by
          have : g * vt = g' * vt + vt := by rw [show g = g' + 1 by omega, Nat.succ_mul]
          omega
        simp [cvt, hadd, hsr]
        refine Brt.mkD (fun hd => ?_) (fun hd => ?_)
        · have hfar : 4294967296 ≤ r' := by omega
          have hg'B : g' < 4294967296 := by
            have : g' * vt < 4294967296 * vt := by omega
            exact Nat.lt_of_mul_lt_mul_right this
          exact hn' _ _ _ ⟨rfl, g', by simp, hg'B, by omega, Nat.le_succ_of_le (hgfar g' r' hg'B hgr' hfar)⟩
        · exact hK g' _ _ _ (by omega) ⟨rfl, r', by simp, by simp, hgr', by omega, by omega⟩
      · have hcn : ¬ (4294967296 ≤ g ∨ r * 4294967296 + u0 < g * v0) := fun h => by rw [hcc.2 h] at hc; cases hc
        have hgB : g < 4294967296 := by omega
        exact hn' _ _ _ ⟨rfl, g, by simp [h7], hgB, hqg, hgle g r hgB hgr (by omega)⟩
  · rintro F3 G3 H3 ⟨rfl, g, h7, hgB, hqg, hgq1⟩
    simp at h7
    simp [tx_ln]
    refine LoopZt.range (by kernel_rfl) (m + 2) (by omega) (by simp) (by rfl) (by simp) (by decide) (by decide) (fun i F4 G4 H4 => ∃ (us' : List Nat) (c d : Nat), H4 = H3.set b (.own 124 l (pre ++ (u32s us' ++ post))) ∧ us'.length = m + 3 ∧ (∀ x ∈ us', x < 4294967296) ∧ (∀ j, i ≤ j → us'[j]?.getD 0 = us[j]?.getD 0) ∧ F4 9 = .int .u64 c ∧ F4 10 = .int .u32 d ∧ c < 4294967296 ∧ d ≤ 1 ∧ val (us'.take i) + g * val (vs.take i) = val (us.take i) + 4294967296 ^ i * (c + d)) ?_ ?_ ?_
    · exact ⟨us, 0, 0, (set_self hX).symm, hus, hul, fun _ _ => rfl, by simp, by simp, by decide, by decide, by simp [val]⟩
    · rintro i F4 G4 H4 hi hF ⟨us', c, d, rfl, hl', hlt', hsame, h9, h10, hc, hd, hval⟩ K hK
      simp at hF h9 h10
      obtain ⟨vi, hvi⟩ : ∃ x, vs[i]?.getD 0 = x := ⟨_, rfl⟩
      have lvi := hvi ▸ hVl i
      have hvie : vs[i]? = some vi := by rw [← hvi, gtE (by omega)]; rfl
      obtain ⟨ui, hui⟩ : ∃ x, us[i]?.getD 0 = x := ⟨_, rfl⟩
      have lui := hui ▸ hUl i
      have cvi : IntKind.u64.wrap (vi : Int) = (vi : Int) := wu64 (by omega) (by omega)
      obtain ⟨t0, ht0⟩ : ∃ x, g * vi = x := ⟨_, rfl⟩
      have hm0 : IntKind.u64.wrap ((g : Int) * vi) = (t0 : Int) := by rw [mul_wrap hgB lvi, ht0]
      have ht0l : t0 ≤ 4294967295 * 4294967295 := by rw [← ht0]; exact Nat.mul_le_mul (by omega) (by omega)
      obtain ⟨t, ht⟩ : ∃ x, t0 + c = x := ⟨_, rfl⟩
      have hm1 : IntKind.u64.wrap ((t0 : Int) + c) = (t : Int) := by rw [wu64 (by omega) (by omega)]; omega
      obtain ⟨tl, htl⟩ : ∃ x, t % 4294967296 = x := ⟨_, rfl⟩
      obtain ⟨th, hth⟩ : ∃ x, t / 4294967296 = x := ⟨_, rfl⟩
      have hm2 : ((t : Int).fdiv 4294967296) = (th : Int) := by rw [fdivp _ (by decide)]; omega
      have hm3 : IntKind.u32.wrap (t : Int) = (tl : Int) := by rw [wu32m]; omega
      simp [hF, h7]
      refine tx_elem (R := U32R) (n := i) (by simpa using (hVs us').row) (by simp) hvie (by simp) (by simp) (by simp) (.inr rfl) ?_
      rintro p5 w5 ⟨rfl, -⟩
      have hX' : (H3.set b (.own 124 l (pre ++ (u32s us' ++ post))))[b]? = some (.own 124 l (pre ++ (u32s us' ++ post))) := List.getElem?_set_self hbl
      simp [hF, h7, h9, h10, cvi, hm0, hm1, hm2]
      refine tx_rdW (b := b) (l := l) (pre := pre) (us := us') (post := post) (cap := cap) (n := i) hX' ho (by simp [hl']) (by simp) (by omega) (by simp) (by simp) (by simp) fun p6 => ?_
      rw [hsame i (Nat.le_refl _), hui]
      simp [hm3, h10]
      refine SWt.mk (sub32_spec lui (by omega) hd) ?_
      rintro w H5 ⟨rfl, s, d', rfl, hs, hd', hsum⟩
      simp
      refine tx_wrW (b := b) (l := l) (pre := pre) (us := us') (post := post) (cap := cap) (n := i) (z := s) hX' ho (by simp [hl']) (by simp) (by omega) (by simp) (by simp) (by simp) fun p7 => ?_
      simp
      refine hK _ _ _ (by simp [hF]) ⟨us'.set i s, th, d', by simp, by simp [hl'], ?_, ?_, by simp, by simp, by omega, hd', ?_⟩
      · intro x hx
        rcases List.mem_or_eq_of_mem_set hx with hx | rfl
        · exact hlt' x hx
        · exact hs
      · intro j hj
        rw [List.getElem?_set_ne (by omega)]
        exact hsame j (by omega)
      · rw [val_set _ _ _ (by omega), val_take_succ vs, val_take_succ us, hvi, hui, Nat.pow_succ]
        generalize 4294967296 ^ i = E at *
        have hsum' : ui + 4294967296 * d' = s + tl + d := hsum
        have ht' : t = tl + 4294967296 * th := by omega
        have e1 : g * (val (vs.take i) + E * vi) = g * val (vs.take i) + E * t0 := by rw [← ht0]; grind
        rw [e1]
        have e2 : E * ui + E * (4294967296 * d') = E * s + E * tl + E * d := by rw [← Nat.mul_add, hsum', Nat.mul_add, Nat.mul_add]
        have e3 : E * t0 + E * c = E * tl + E * (4294967296 * th) := by rw [← Nat.mul_add, ht, ht', Nat.mul_add]
        have e4 : E * 4294967296 * (th + d') = E * (4294967296 * th) + E * (4294967296 * d') := by grind
        rw [Nat.mul_add] at hval
        omega
    · rintro F4 G4 H4 hF ⟨us', c, d, rfl, hl', hlt', hsame, h9, h10, hc, hd, hval⟩
      simp at h9 h10
      have hXX := fun ws : List Nat => (List.getElem?_set_self (l := H3) (a := .own 124 l (pre ++ (u32s ws ++ post))) hbl)
      have hcw : IntKind.u32.wrap (c : Int) = (c : Int) := wu32 (by omega) (by omega)
      simp
      refine tx_rdW (b := b) (l := l) (pre := pre) (us := us') (post := post) (cap := cap) (n := m + 2) (hXX us') ho (by simp [hl']) (by simp) (by omega) (by simp) (by simp) (by simp) fun p6 => ?_
      rw [hsame (m + 2) (Nat.le_refl _), hu2]
      simp [h9, h10, hcw]
      refine SWt.mk (sub32_spec lu2 hc hd) ?_
      rintro w H5 ⟨rfl, s, d2, rfl, hs, hd2, hsum⟩
      simp
      refine tx_wrW (b := b) (l := l) (pre := pre) (us := us') (post := post) (cap := cap) (n := m + 2) (z := s) (hXX us') ho (by simp [hl']) (by simp) (by omega) (by simp) (by simp) (by simp) fun p7 => ?_
      simp
      obtain ⟨ws, hws⟩ : ∃ ws, us'.set (m + 2) s = ws := ⟨_, rfl⟩
      have hwl : ws.length = m + 3 := by rw [← hws]; simp [hl']
      have hwlt : ∀ x ∈ ws, x < 4294967296 := by
        intro x hx
        rw [← hws] at hx
        rcases List.mem_or_eq_of_mem_set hx with hx | rfl
        · exact hlt' x hx
        · exact hs
      have hws2 : ws[m + 2]?.getD 0 = s := by rw [← hws, List.getElem?_set_self (by omega)]; rfl
      have full : ∀ (x : List Nat) (k : Nat), x.length = k → x.take k = x := fun x k h => by rw [← h, List.take_length]
      obtain ⟨E2, hE2⟩ : ∃ E2, 4294967296 ^ (m + 2) = E2 := ⟨_, rfl⟩
      have hwv : val ws + g * val vs = val us + E2 * 4294967296 * d2 := by
        have e1 := val_set us' (m + 2) s (by omega)
        rw [hws, full ws _ hwl, hE2] at e1
        have e2 := val_take_succ us (m + 2)
        rw [full us _ hus, hu2, hE2] at e2
        rw [full vs _ hvs, hE2] at hval
        rw [e1, e2]
        have : E2 * u2 + E2 * (4294967296 * d2) = E2 * s + E2 * (c + d) := by rw [← Nat.mul_add, ← Nat.mul_add]; congr 1; omega
        have : E2 * 4294967296 * d2 = E2 * (4294967296 * d2) := by grind
        omega
      rw [hws]
      have hrem : val us % val vs = val us - q * val vs ∧ q * val vs ≤ val us ∧ val us < (q + 1) * val vs := by
        have h1 := Nat.div_add_mod (val us) (val vs)
        have h2 := Nat.mod_lt (val us) hVpos
        rw [hq, Nat.mul_comm] at h1
        refine ⟨by omega, by omega, ?_⟩
        rw [Nat.succ_mul]
        omega
      have hwB : val ws < E2 * 4294967296 := by
        have := val_lt hwlt
        rwa [hwl, Nat.pow_succ, hE2] at this
      refine ZXt.join (by kernel_rfl) (fun F5 G5 H5 => F5 7 = .int .u64 q ∧ ∃ ws' : List Nat, H5 = H3.set b (.own 124 l (pre ++ (u32s ws' ++ post))) ∧ ws'.length = m + 3 ∧ (∀ x ∈ ws', x < 4294967296) ∧ val ws' = val us % val vs) ?_ ?_
      · rintro K' hn' -
        simp
        refine Brt.mkD (fun hp => ?_) (fun hp => ?_)
        · have hd1 : d2 = 1 := by omega
          subst hd1
          have hg : g = q + 1 := by
            have : q < g := by
              rcases Nat.lt_or_ge q g with h | h
              · exact h
              · have : g * val vs ≤ q * val vs := Nat.mul_le_mul_right _ h
                omega
            omega
          have hgw : IntKind.u64.wrap ((g : Int) - 1) = (q : Int) := by rw [wu64 (by omega) (by omega)]; omega
          simp [h7, hgw, tx_ln]
          refine LoopZt.range (by kernel_rfl) (m + 2) (by omega) (by simp) (by rfl) (by simp) (by decide) (by decide) (fun i F6 G6 H6 => ∃ (xs : List Nat) (ov : Nat), H6 = H3.set b (.own 124 l (pre ++ (u32s xs ++ post))) ∧ xs.length = m + 3 ∧ (∀ x ∈ xs, x < 4294967296) ∧ (∀ j, i ≤ j → xs[j]?.getD 0 = ws[j]?.getD 0) ∧ F6 13 = .int .u32 ov ∧ ov ≤ 1 ∧ val (xs.take i) + 4294967296 ^ i * ov = val (ws.take i) + val (vs.take i)) ?_ ?_ ?_
          · exact ⟨ws, 0, rfl, hwl, hwlt, fun _ _ => rfl, by simp, by decide, by simp [val]⟩
          · rintro i F6 G6 H6 hi hF ⟨xs, ov, rfl, hxl, hxlt, hxs, h13, hov, hxv⟩ K hK
            simp at hF h13
            obtain ⟨vi, hvi⟩ : ∃ x, vs[i]?.getD 0 = x := ⟨_, rfl⟩
            have lvi := hvi ▸ hVl i
            have hvie : vs[i]? = some vi := by rw [← hvi, gtE (by omega)]; rfl
            obtain ⟨xi, hxi⟩ : ∃ x, ws[i]?.getD 0 = x := ⟨_, rfl⟩
            have lxi : xi < 4294967296 := hxi ▸ getD_lt (by decide) hwlt i
            simp [hF]
            refine tx_rdW (b := b) (l := l) (pre := pre) (us := xs) (post := post) (cap := cap) (n := i) (hXX xs) ho (by simp [hxl]) (by simp) (by omega) (by simp) (by simp) (by simp) fun p8 => ?_
            rw [hxs i (Nat.le_refl _), hxi]
            simp
            refine tx_elem (R := U32R) (n := i) (by simpa using (hVs xs).row) (by simp) hvie (by simp) (by simp) (by simp) (.inr rfl) ?_
            rintro p9 w9 ⟨rfl, -⟩
            simp [h13]
            refine SWt.mk (add32_spec lxi lvi hov) ?_
            rintro w H7 ⟨rfl, y, ov', rfl, hy, hov', hsum'⟩
            simp
            refine tx_wrW (b := b) (l := l) (pre := pre) (us := xs) (post := post) (cap := cap) (n := i) (z := y) (hXX xs) ho (by simp [hxl]) (by simp) (by omega) (by simp) (by simp) (by simp) fun p10 => ?_
            simp
            refine hK _ _ _ (by simp [hF]) ⟨xs.set i y, ov', by simp, by simp [hxl], ?_, ?_, by simp, hov', ?_⟩
            · intro x hx
              rcases List.mem_or_eq_of_mem_set hx with hx | rfl
              · exact hxlt x hx
              · exact hy
            · intro j hj
              rw [List.getElem?_set_ne (by omega)]
              exact hxs j (by omega)
            · rw [val_set _ _ _ (by omega), val_take_succ vs, val_take_succ ws, hvi, hxi, Nat.pow_succ]
              generalize 4294967296 ^ i = E at *
              have e1 : E * y + E * (4294967296 * ov') = E * xi + E * vi + E * ov := by rw [← Nat.mul_add, hsum', Nat.mul_add, Nat.mul_add]
              have e2 : E * 4294967296 * ov' = E * (4294967296 * ov') := by grind
              omega
          · rintro F6 G6 H6 hF ⟨xs, ov, rfl, hxl, hxlt, hxs, h13, hov, hxv⟩
            simp at h13
            simp
            refine tx_rdW (b := b) (l := l) (pre := pre) (us := xs) (post := post) (cap := cap) (n := m + 2) (hXX xs) ho (by simp [hxl]) (by simp) (by omega) (by simp) (by simp) (by simp) fun p8 => ?_
            rw [hxs (m + 2) (Nat.le_refl _), hws2]
            obtain ⟨y, hy⟩ : ∃ y, (s + ov) % 4294967296 = y := ⟨_, rfl⟩
            have hyw : IntKind.u32.wrap ((s : Int) + ov) = (y : Int) := by rw [wu32m]; omega
            simp [h13, hyw]
            refine tx_wrW (b := b) (l := l) (pre := pre) (us := xs) (post := post) (cap := cap) (n := m + 2) (z := y) (hXX xs) ho (by simp [hxl]) (by simp) (by omega) (by simp) (by simp) (by simp) fun p10 => ?_
            simp
            have hyl : ∀ x ∈ xs.set (m + 2) y, x < 4294967296 := by
              intro x hx
              rcases List.mem_or_eq_of_mem_set hx with hx | rfl
              · exact hxlt x hx
              · omega
            refine hn' _ _ _ ⟨by simp, xs.set (m + 2) y, by simp, by simp [hxl], hyl, ?_⟩
            have e1 := val_set xs (m + 2) y (by omega)
            rw [full (xs.set (m + 2) y) (m + 2 + 1) (by simp [hxl]), hE2] at e1
            have hlt4 := val_lt hyl
            rw [List.length_set, hxl, Nat.pow_succ, hE2] at hlt4
            have e2 := val_take_succ ws (m + 2)
            rw [full ws _ hwl, hws2, hE2] at e2
            rw [full vs _ hvs, hE2] at hxv
            rw [hrem.1]
            rw [hg, Nat.succ_mul] at hwv
            rcases Nat.lt_or_ge (s + ov) 4294967296 with h1 | h1
            · have : y = s + ov := by omega
              subst this
              rw [Nat.mul_add] at e1
              omega
            · have : s + ov = y + 4294967296 := by omega
              have e3 : E2 * s + E2 * ov = E2 * y + E2 * 4294967296 := by rw [← Nat.mul_add, this, Nat.mul_add]
              omega
        · have hd0 : d2 = 0 := by omega
          subst hd0
          have hg : g = q := by
            have : g ≤ q := by
              rcases Nat.lt_or_ge q g with h | h
              · have : (q + 1) * val vs ≤ g * val vs := Nat.mul_le_mul_right _ h
                omega
              · exact h
            omega
          subst hg
          exact hn' _ _ _ ⟨by simp [h7], ws, rfl, hwl, hwlt, by rw [hrem.1]; omega⟩
      · rintro F5 G5 H5 ⟨h75, ws', rfl, hl5, hlt5, hv5⟩
        simp at h75
        have hqw : IntKind.u32.wrap (q : Int) = (q : Int) := wu32 (by omega) (by omega)
        simp [h75, hqw, retOf]
        exact hQ _ _ ⟨⟨q, rfl, hq.symm⟩, ws', rfl, hl5, hlt5, hv5⟩
end Go.Sx
end
section
set_option maxRecDepth 8000
namespace Go.Sx
open Go.Proofs
open Go.Proofs.Tryz (prog)
attribute [-simp] tx_ia tx_ln tx_ix
theorem tx_ixR {P : Program} {r : List XOp} {F : Fr} {H : SHeap} {Q : Fr → SHeap → Prop} {d t n : Nat} {x i : Operand} {s : ByteArray} {y : Nat} {tk : Tok (ix d t x i :: r) Q} (hs : fev F x = .string s) (ht : strT P t = true) (hk : ∃ k, fev F i = .int k (n : Int)) (hn : n < s.size) (hy : (s.data.getD n 0).toNat = y) (K : XWt P r Q .mk (upd F d (.int .u8 (y : Int))) H) : XWt P (ix d t x i :: r) Q tk F H := by
  obtain ⟨k, hk⟩ := hk
  rw [tx_ix, hs, hk, OnTt_t, OnIt_int]
  refine Chkt.mk ⟨ht, by omega, by omega⟩ ?_
  rw [Int.toNat_natCast, hy]
  exact K
theorem tx_ixP {P : Program} {r : List XOp} {F : Fr} {H : SHeap} {Q : Fr → SHeap → Prop} {d t n m : Nat} {x i : Operand} {s : ByteArray} {p : Nat → Nat → Prop} {tk : Tok (ix d t x i :: r) Q} (hs : fev F x = .string s) (ht : strT P t = true) (hk : ∃ k, fev F i = .int k (n : Int)) (hm : s.size = m) (hn : n < m) (hp : ∀ j, j < m → p j (s.data.getD j 0).toNat) (K : ∀ y, p n y → XWt P r Q .mk (upd F d (.int .u8 (y : Int))) H) : XWt P (ix d t x i :: r) Q tk F H :=
  tx_ixR hs ht hk (by omega) rfl (K _ (hp n hn))
theorem len32_spec {x : Nat} {H : SHeap} (hx : x < 4294967296) : SW prog 132 [.int .u32 x] H (fun v H1 => H1 = H ∧ ∃ n : Nat, v = .int .i64 n ∧ x < 2 ^ n ∧ n ≤ 32 ∧ (0 < x → 0 < n)) := by
  refine SW.cps fun Q hQ => ?_
  apply into_bits_Len32 (by simp)
  unfold Z_bits_Len32
  simp only [tzx_seq]
  simp
  refine ZXt.join (by kernel_rfl) (fun F1 G1 H1 => H1 = H ∧ ∃ y n : Nat, F1 0 = .int .u32 y ∧ F1 2 = .int .i64 n ∧ y < 65536 ∧ x < (y + 1) * 2 ^ n ∧ n ≤ 16 ∧ (0 < x → 0 < n ∨ 0 < y)) ?_ ?_
  · rintro K' hn' -
    simp
    refine Brt.mkD (fun hc => ?_) (fun hc => ?_)
    · have : ((x : Int).fdiv 65536) = ((x / 65536 : Nat) : Int) := by rw [fdivp _ (by decide)]; omega
      simp [this]
      exact hn' _ _ _ ⟨rfl, x / 65536, 16, by simp, by simp, by omega, by omega, by decide, by omega⟩
    · exact hn' _ _ _ ⟨rfl, x, 0, by simp, by simp, by omega, by omega, by decide, by omega⟩
  · rintro F1 G1 H1 ⟨rfl, y, n, h0, h2, hy, hxy, hn, hpos⟩
    simp at h0 h2
    refine ZXt.join (by kernel_rfl) (fun F3 G3 H3 => H3 = H1 ∧ ∃ y' n' : Nat, F3 0 = .int .u32 y' ∧ F3 2 = .int .i64 n' ∧ y' < 256 ∧ x < (y' + 1) * 2 ^ n' ∧ n' ≤ 24 ∧ (0 < x → 0 < n' ∨ 0 < y')) ?_ ?_
    · rintro K' hn' -
      simp [h0]
      refine Brt.mkD (fun hc => ?_) (fun hc => ?_)
      · have e1 : ((y : Int).fdiv 256) = ((y / 256 : Nat) : Int) := by rw [fdivp _ (by decide)]; omega
        have e2 : IntKind.i64.wrap ((n : Int) + 8) = ((n + 8 : Nat) : Int) := by rw [w64 (by omega) (by omega)]; simp
        simp [h0, e1, h2, e2]
        refine hn' _ _ _ ⟨rfl, y / 256, n + 8, by simp, by simp, by omega, ?_, by omega, fun _ => .inl (by omega)⟩
        have : (y + 1) * 2 ^ n ≤ ((y / 256 + 1) * 256) * 2 ^ n := Nat.mul_le_mul_right _ (by omega)
        rw [Nat.pow_add, Nat.mul_comm (2 ^ n), ← Nat.mul_assoc, show (2 : Nat) ^ 8 = 256 from rfl]
        omega
      · exact hn' _ _ _ ⟨rfl, y, n, by simp [h0], by simp [h2], by omega, hxy, by omega, hpos⟩
    · rintro F3 G3 H3 ⟨rfl, y', n', h0', h2', hy', hxy', hn'', hpos'⟩
      simp at h0' h2'
      have e0 : IntKind.u8.wrap (y' : Int) = (y' : Int) := wu8 (by omega) (by omega)
      simp [h0', h2', e0]
      refine tx_ixP (n := y') (m := 256) (p := fun j z => j < 2 ^ z ∧ z ≤ 8 ∧ (0 < j → 0 < z)) rfl (by simp) ⟨.u8, by simp⟩ (by kernel_rfl) hy' (of_decide_eq_true (by kernel_rfl)) ?_
      rintro z ⟨hz1, hz2, hz3⟩
      have e3 : IntKind.i64.wrap (z : Int) = (z : Int) := w64 (by omega) (by omega)
      have e4 : IntKind.i64.wrap ((n' : Int) + z) = ((n' + z : Nat) : Int) := by rw [w64 (by omega) (by omega)]; simp
      simp [e3, e4, retOf]
      refine hQ _ _ ⟨rfl, n' + z, by simp, ?_, by omega, fun h => by have := hpos' h; omega⟩
      have : (y' + 1) * 2 ^ n' ≤ 2 ^ z * 2 ^ n' := Nat.mul_le_mul_right _ hz1
      rw [Nat.pow_add, Nat.mul_comm (2 ^ n')]
      omega
theorem lz32_spec {x : Nat} {H : SHeap} (hx : x < 4294967296) (h0 : 0 < x) : SW prog 123 [.int .u32 x] H (fun v H1 => H1 = H ∧ ∃ n : Nat, v = .int .i64 n ∧ n < 32 ∧ x * 2 ^ n < 4294967296) := by
  refine SW.cps fun Q hQ => ?_
  apply into_bits_LeadingZeros32 (by simp)
  simp [Z_bits_LeadingZeros32]
  refine SWt.mk (len32_spec hx) ?_
  rintro v H1 ⟨rfl, n, rfl, h1, h2, h3⟩
  have e : IntKind.i64.wrap (32 - (n : Int)) = ((32 - n : Nat) : Int) := by rw [w64 (by omega) (by omega)]; omega
  obtain ⟨s, hs⟩ : ∃ s, 32 - n = s := ⟨_, rfl⟩
  rw [hs] at e
  simp [e, retOf]
  refine hQ _ _ ⟨rfl, s, rfl, by have := h3 h0; omega, ?_⟩
  have : x * 2 ^ s < 2 ^ n * 2 ^ s := Nat.mul_lt_mul_of_pos_right h1 (Nat.pow_pos (by decide))
  rw [← Nat.pow_add, show n + s = 32 by omega] at this
  exact this
end Go.Sx
end
